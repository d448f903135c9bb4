/- A part of the proof: lemmas only; nothing is claimed here beyond what each lemma says. -/
import Derived.Test.YtfggcaohidajkaaGx4
set_option linter.unusedSimpArgs false
set_option linter.unusedVariables false
set_option linter.defProp false
namespace Go.Proofs.Ytfggcaohidajkaa
open Go.Av
theorem Contains_int {f : Int → Option Bool} {p : Int → Bool} (h : ∀ x, f x = some (p x)) (xs : List Int) : slices_ContainsFunc_Sint_int xs f = some (xs.any p) := by
  unfold slices_ContainsFunc_Sint_int slices_IndexFunc_Sint_int
  obtain ⟨r, h1, h2⟩ := forN_find (n := xs.length) (p := fun i => p (xs.getD i default)) (f := fun i2 s2 => (idx xs (i2 : Int)).bind fun v14 => (f v14).bind fun v16 => bif v16 then some (.rt (i2 : Int)) else some (.nx ())) (fun j hj => by
    simp only [idx_getD hj, Option.bind_some, h]
    cases p (xs.getD j default) <;> rfl)
  rw [h1, Option.bind_some, h2, range_any_list]
def evU (l : Linear) (vs : List Int) (j : Nat) (s : Int) : Int := wr (s + wr (vs.getD j default * l.Slopes.getD j default))
def evR (l : Linear) (vs : List Int) : Int × Bool :=
  bif validL l && decide (vs.length = l.Vars.length) && vs.all (fun v => inR v 0 100000) then (iterU (evU l vs) vs.length 0 l.Constant, true) else (0, false)
theorem validL_len {l : Linear} (h : validL l = true) : l.Slopes.length = l.Vars.length := by
  simp only [validL, Bool.and_eq_true, decide_eq_true_eq] at h
  exact h.1.1.2
theorem specEv (l : Linear) (vs : List Int) (h : l.Ok) : spec_EvaluateLinear l vs = some (evR l vs) := by
  unfold spec_EvaluateLinear evR
  rw [specL l h, Option.bind_some]
  cases hv : validL l
  · rfl
  · have hl := validL_len hv
    by_cases he : vs.length = l.Vars.length
    · rw [cond_true, decide_eq_true (show (vs.length : Int) = (l.Vars.length : Int) by omega), cond_true, decide_eq_true he,
        forN_chk (fun j => inR (vs.getD j default) 0 100000) (evU l vs) (r0 := ((0 : Int), false))]
      · have := range_all_list vs (fun v => inR v 0 100000)
        rw [List.range_eq_range'] at this
        rw [this]
        cases vs.all (fun v => inR v 0 100000) <;> rfl
      · intro j s _ hj
        simp only [idx_getD (xs := vs) (i := j) (by omega), idx_getD (xs := l.Slopes) (i := j) (by omega), Option.bind_some, l1In_eq, evU]
        rw [Int.mul_comm (l.Slopes.getD j default)]
        cases inR (vs.getD j default) 0 100000 <;> rfl
    · rw [cond_true, decide_eq_false (show ¬ (vs.length : Int) = (l.Vars.length : Int) by omega), decide_eq_false he]; rfl
theorem implEv (l : Linear) (vs : List Int) (h : l.Ok) : impl_EvaluateLinear l vs = some (evR l vs) := by
  unfold impl_EvaluateLinear evR
  rw [implL l h, Option.bind_some]
  cases hv : validL l
  · rfl
  · have hl := validL_len hv
    by_cases he : vs.length = l.Vars.length
    · rw [cond_true, decide_eq_true (show (vs.length : Int) = (l.Vars.length : Int) by omega), cond_true, decide_eq_true he,
        Contains_int (p := fun x => !inR x 0 100000) (fun x => by simp only [impl_EvaluateLinear_1, within_eq, Option.bind_some])]
      have e1 : vs.any (fun x => !inR x 0 100000) = !vs.all (fun v => inR v 0 100000) := by rw [List.all_eq_not_any_not, Bool.not_not]
      rw [e1, Option.bind_some, forN_upd (evU l vs)]
      · cases vs.all (fun v => inR v 0 100000) <;> rfl
      · intro j s _ hj
        simp only [idx_getD (xs := vs) (i := j) (by omega), idx_getD (xs := l.Slopes) (i := j) (by omega), Option.bind_some, evU]
    · rw [cond_true, decide_eq_false (show ¬ (vs.length : Int) = (l.Vars.length : Int) by omega), decide_eq_false he]; rfl
theorem FnExactEvaluateLinear_true (l : Linear) (vs : List Int) (h : l.Ok) (hv : LOk InR vs) : FnExactEvaluateLinear l vs = some true := by
  unfold FnExactEvaluateLinear
  by_cases hl : (1048576 : Int) < (vs.length : Int)
  · rw [decide_eq_true hl]; rfl
  rw [decide_eq_false hl, cond_false, szLinear_eq l h _ (by omega) (by omega), Option.bind_some]
  by_cases e : szR l.tot 1048576 < 0
  · rw [decide_eq_true e]; rfl
  · have ht := szR_ok e
    rw [decide_eq_false e, cond_false]
    simp only [toLinear_eq l ht, toIntS_eq vs (by rw [ltot0]; omega), Option.bind_some, specEv l vs h, implEv l vs h, beq_self_eq_true, decide_true, cond_true, eqLinear_refl, eqIntS_refl]
end Go.Proofs.Ytfggcaohidajkaa
