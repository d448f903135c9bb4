/- A part of the proof: lemmas only; nothing is claimed here beyond what each lemma says. -/
import Derived.Test.YtgbddapcjhgllaaGreatGp
set_option linter.unusedSimpArgs false
set_option linter.unusedVariables false
set_option linter.defProp false
namespace Go.Proofs.YtgbddapcjhgllaaGreat
open Go.Av
theorem within_eq (a lo hi : Int) : impl_within a lo hi = some (inR a lo hi) := cond_inR a lo hi
theorem l1In_eq (a lo hi : Int) : spec_l1In a lo hi = some (inR a lo hi) := cond_inR a lo hi
def cmpI (a b : Int) : Int := if a < b then -1 else if b < a then 1 else 0
theorem isNaN_eq (a : Int) : cmp_isNaN_int a = some false := by simp [cmp_isNaN_int]
theorem Compare_eq (a b : Int) : cmp_Compare_int a b = some (cmpI a b) := by
  simp only [cmp_Compare_int, isNaN_eq, Option.bind_some, cond_false]
  unfold cmpI
  by_cases h : a < b
  · simp [h]
  · by_cases h' : b < a <;> simp [h, h']
theorem Or2_eq (a b : Int) : cmp_Or_int [a, b] = some (if a = 0 then b else a) := by
  unfold cmp_Or_int
  simp only [forN_idx]
  by_cases h : a = 0
  · rw [forL_nx (s' := ()) (by simp [h])]
    by_cases h' : b = 0
    · rw [forL_nx (s' := ()) (by simp [h'])]; simp [forL, thenL_inr, h, h']
    · rw [forL_rt (r := b) (by simp [h']), thenL_inl]; simp [h]
  · rw [forL_rt (r := a) (by simp [h]), thenL_inl]; simp [h]
end Go.Proofs.YtgbddapcjhgllaaGreat
