/- A part of the proof: lemmas only; nothing is claimed here beyond what each lemma says. -/
import Derived.Test.YtdmkceajaagpgaaGp
import Derived.Test.YtdmkceajaagpgaaAvY
set_option linter.unusedSimpArgs false
set_option linter.unusedVariables false
set_option linter.defProp false
set_option maxRecDepth 4000
namespace Go.Proofs.Ytdmkceajaagpgaa
open Go.Av
def SizeEdge.cn (a : SizeEdge) : Nat := 3
theorem SizeEdge.cn_u (a : SizeEdge) : a.cn = 3 := rfl
theorem SizeEdge.cn_pos (a : SizeEdge) : 1 ≤ a.cn := by rw [SizeEdge.cn_u]; omega
theorem markSizeEdgeS_held (xs : List SizeEdge) : MH (fun _ : Unit => True) (fun _ => markSizeEdgeS) (fun _ => heldSizeEdgeS) xs (lcn SizeEdge.cn xs) := by
  refine MH.of (cnt := SizeEdge.cn) (fun _ _ _ => rfl) (fun _ _ _ _ => rfl) (fun _ l k => by simp only [dec_end, cond_false]) (fun h => by have := lcn_len (c := SizeEdge.cn) (xs := xs) (SizeEdge.cn_pos); omega) (fun x hx k h0 h1 => ?_)
  have hc := SizeEdge.cn_u x
  have w0 : IntKind.i64.wrap (k + 1) = k + 1 := wrapK (by omega) (by omega)
  have w1 : IntKind.i64.wrap (k + 1 + 1) = k + 1 + 1 := wrapK (by omega) (by omega)
  have w2 : IntKind.i64.wrap (k + 1 + 1 + 1) = k + 1 + 1 + 1 := wrapK (by omega) (by omega)
  have e : k + ((SizeEdge.cn x : Nat) : Int) = k + 1 + 1 + 1 := by omega
  refine ⟨(SizeEdge.mk k (k + 1) (decide ((k + 1 + 1).tmod 3 = 0))), fun p hp => ⟨fun pre rest hpre => ?_, fun ys i hi => ?_⟩⟩
  · have wi := wrap_succ (i := pre.length) (by omega)
    simp only [dec_mid, cond_true, idx_mid, set_mid, Option.bind_some, rem3, wi, e, w0, w1, w2]
  · simp only [idx_nat, hi, Option.bind_some, decide_true, eq_self, cond_true, cond_false, beq_self_eq_true, rem3, e, w0, w1, w2]
theorem markSizeGraph_held (a : SizeGraph) {k : Int} (h0 : 1 ≤ k) (h1 : k + (((lcn SizeEdge.cn) a.Edges : Nat) : Int) ≤ 2305843009213693952) : ∃ y0, markSizeGraph a k = some (k + (((lcn SizeEdge.cn) a.Edges : Nat) : Int), y0) ∧ heldSizeGraph (SizeGraph.mk a.Source a.Target y0) k = some (k + (((lcn SizeEdge.cn) a.Edges : Nat) : Int)) := by
  obtain ⟨y0, m0, n0⟩ := (markSizeEdgeS_held a.Edges).unit (k := k) (by omega) (by omega)
  have d0 : decide (k + (((lcn SizeEdge.cn) a.Edges : Nat) : Int) < 0) = false := decide_eq_false (by omega)
  have e : k + (((lcn SizeEdge.cn) a.Edges : Nat) : Int) = k + (((lcn SizeEdge.cn) a.Edges : Nat) : Int) := by omega
  refine ⟨y0, ?_, ?_⟩
  · simp only [markSizeGraph, heldSizeGraph, m0, Option.bind_some, e]
  · simp only [markSizeGraph, heldSizeGraph, n0, d0, Option.bind_some, cond_false, e]
end Go.Proofs.Ytdmkceajaagpgaa
