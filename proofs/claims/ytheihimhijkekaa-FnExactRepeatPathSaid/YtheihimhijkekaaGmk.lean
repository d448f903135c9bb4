/- A part of the proof: lemmas only; nothing is claimed here beyond what each lemma says. -/
import Derived.Test.YtheihimhijkekaaGp
import Derived.Test.YtheihimhijkekaaAvY
set_option linter.unusedSimpArgs false
set_option linter.unusedVariables false
set_option linter.defProp false
set_option maxRecDepth 4000
namespace Go.Proofs.Ytheihimhijkekaa
open Go.Av
theorem markIntS_held (xs : List Int) : MH (fun _ : Unit => True) (fun _ => markIntS) (fun _ => heldIntS) xs (lcn (fun _ => 1) xs) := by
  refine MH.of (cnt := (fun _ => 1)) (fun _ _ _ => rfl) (fun _ _ _ _ => rfl) (fun _ l k => by simp only [dec_end, cond_false]) (fun h => by have := lcn_len (c := (fun _ => 1)) (xs := xs) (fun _ => Nat.le_refl _); omega) (fun x hx k h0 h1 => ?_)
  replace h1 : k + ((1 : Nat) : Int) ≤ 2305843009213693952 := h1
  have w0 : IntKind.i64.wrap (k + 1) = k + 1 := wrapK (by omega) (by omega)
  have e : k + ((1 : Nat) : Int) = k + 1 := by omega
  refine ⟨k, fun p hp => ⟨fun pre rest hpre => ?_, fun ys i hi => ?_⟩⟩
  · have wi := wrap_succ (i := pre.length) (by omega)
    simp only [dec_mid, cond_true, idx_mid, set_mid, Option.bind_some, rem3, wi, e, w0]
  · simp only [idx_nat, hi, Option.bind_some, decide_true, eq_self, cond_true, cond_false, beq_self_eq_true, rem3, e, w0]
end Go.Proofs.Ytheihimhijkekaa
