/- A part of the proof: lemmas only; nothing is claimed here beyond what each lemma says. -/
import Derived.Test.YtgbddapcjhgllaaGm
import Derived.Test.YtgbddapcjhgllaaAvQ
set_option linter.unusedSimpArgs false
set_option linter.unusedVariables false
set_option linter.defProp false
set_option maxRecDepth 4000
namespace Go.Proofs.Ytgbddapcjhgllaa
open Go.Av
theorem szIntS_eq (a : List Int) (h : LOk InR a) (l : Int) (h0 : 0 ≤ l) (h1 : l ≤ 1048576) : szIntS a l = some (szR (ltot (fun _ => 0) a) l) := by
  unfold szIntS
  exact szLflat h.1 h0 h1
theorem toIntS_eq (a : List Int) (h : ltot (fun _ => 0) a ≤ 1048576) : toIntS a = some a := by
  unfold toIntS
  exact toLplain (by have := ltot_len (fun _ => 0) a; omega)
theorem eqIntS_refl (a : List Int) : eqIntS a a = some true := by
  unfold eqIntS
  exact eqLplain
theorem szStringS_eq (a : List ByteArray) (h : LOk (fun s : ByteArray => Big s.size) a) (l : Int) (h0 : 0 ≤ l) (h1 : l ≤ 1048576) : szStringS a l = some (szR (ltot ByteArray.size a) l) := by
  unfold szStringS
  exact szLstr h.2 h.1 h0 h1
theorem toStringS_eq (a : List ByteArray) (h : ltot ByteArray.size a ≤ 1048576) : toStringS a = some a := by
  unfold toStringS
  exact toLplain (by have := ltot_len ByteArray.size a; omega)
theorem eqStringS_refl (a : List ByteArray) : eqStringS a a = some true := by
  unfold eqStringS
  exact eqLplain
def Linear.tot (a : Linear) : Nat := (ltot ByteArray.size) a.Vars + ((ltot (fun _ => 0)) a.Slopes)
def Linear.Ok (a : Linear) : Prop := (LOk (fun s : ByteArray => Big s.size)) a.Vars ∧ (LOk InR) a.Slopes ∧ InR a.Constant
theorem szLinear_eq (a : Linear) (h : a.Ok) (l : Int) (h0 : 0 ≤ l) (h1 : l ≤ 1048576) : szLinear a l = some (szR a.tot l) := by
  unfold szLinear
  show _ = some (szR _ l)
  unfold Linear.tot
  rw [szStringS_eq _ h.1 _ h0 h1, Option.bind_some]
  refine szStepM h0 h1 (fun h0 h1 => ?_)
  rw [szIntS_eq _ h.2.1 _ h0 h1, Option.bind_some]
  exact szLast h0
theorem toLinear_eq (a : Linear) (h : a.tot ≤ 1048576) : toLinear a = some a := by
  unfold toLinear
  unfold Linear.tot at h
  rw [toStringS_eq _ (by omega), Option.bind_some]
  rw [toIntS_eq _ (by omega), Option.bind_some]
theorem eqLinear_refl (a : Linear) : eqLinear a a = some true := by
  unfold eqLinear
  simp only [decide_true, cond_true, Option.bind_some, beq_self_eq_true, eqStringS_refl, eqIntS_refl]
end Go.Proofs.Ytgbddapcjhgllaa
