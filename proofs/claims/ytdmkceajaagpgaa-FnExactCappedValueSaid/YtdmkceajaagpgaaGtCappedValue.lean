/- A part of the proof: lemmas only; nothing is claimed here beyond what each lemma says. -/
import Derived.Test.YtdmkceajaagpgaaGcap
set_option linter.unusedSimpArgs false
set_option linter.unusedVariables false
set_option linter.defProp false
namespace Go.Proofs.Ytdmkceajaagpgaa
open Go.Av
theorem FnExactCappedValue_true (xs : List Majorant) (caps : List Int) (t : Term) (l : Linear) (hx : LOk Majorant.Ok xs) (hcs : LOk InR caps) (ht : t.Ok) (hl : l.Ok) : FnExactCappedValue xs caps t l = some true := by
  unfold FnExactCappedValue
  by_cases hc : (1048576 : Int) < (caps.length : Int)
  · rw [decide_eq_true hc]; rfl
  rw [decide_eq_false hc, cond_false, szMajorantS_eq xs hx _ (by omega) (by omega), Option.bind_some]
  by_cases e : szR (ltot Majorant.tot xs) 1048576 < 0
  · rw [decide_eq_true e]; rfl
  have h1 := szR_ok e
  have e1 : szR (ltot Majorant.tot xs) 1048576 = 1048576 - ltot Majorant.tot xs := by unfold szR; rw [if_pos (by omega)]
  rw [decide_eq_false e, cond_false, e1, szTerm_eq t ht _ (by omega) (by omega), Option.bind_some]
  by_cases e2 : szR t.tot (1048576 - ltot Majorant.tot xs) < 0
  · rw [decide_eq_true e2]; rfl
  have h2 : (t.tot : Int) ≤ 1048576 - ltot Majorant.tot xs := Classical.byContradiction fun g => e2 ((szR_neg (by omega)).2 g)
  have e3 : szR t.tot (1048576 - ltot Majorant.tot xs) = 1048576 - ltot Majorant.tot xs - t.tot := by unfold szR; rw [if_pos h2]
  rw [decide_eq_false e2, cond_false, e3, szLinear_eq l hl _ (by omega) (by omega), Option.bind_some]
  by_cases e4 : szR l.tot (1048576 - ltot Majorant.tot xs - t.tot) < 0
  · rw [decide_eq_true e4]; rfl
  have h3 : (l.tot : Int) ≤ 1048576 - ltot Majorant.tot xs - t.tot := Classical.byContradiction fun g => e4 ((szR_neg (by omega)).2 g)
  rw [decide_eq_false e4, cond_false]
  obtain ⟨r, k1, k2⟩ := cap_both xs caps l t hx hl ht (by omega)
  simp only [toMajorantS_eq xs h1, toIntS_eq caps (by rw [ltot0]; omega), toTerm_eq t (by omega), toLinear_eq l (by omega), Option.bind_some, k1, k2, decide_true, beq_self_eq_true, cond_true, eqMajorantS_refl, eqIntS_refl, eqTerm_refl, eqLinear_refl]
end Go.Proofs.Ytdmkceajaagpgaa
