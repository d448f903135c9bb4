/- A part of the proof: lemmas only; nothing is claimed here beyond what each lemma says. -/
import Derived.Test.YtfggcaohidajkaaGmk
set_option linter.unusedSimpArgs false
set_option linter.unusedVariables false
set_option linter.defProp false
namespace Go.Proofs.Ytfggcaohidajkaa
open Go.Av
def numT : Nat → Term
  | 0 => Term.mk ⟨#[122, 101, 114, 111]⟩ []
  | n + 1 => Term.mk ⟨#[115]⟩ [numT n]
theorem numT_cn : ∀ n, lcn Term.cn (numT n).Args = n
  | 0 => rfl
  | n + 1 => by
    rw [numT, Term.Args_mk, lcn_cons, lcn_nil, Term.cn_u, numT_cn n]; omega
theorem spec_num (n : Nat) (h : n ≤ 7) : spec_NumeralOf (n : Int) = some (numT n, true) := by
  have : n = 0 ∨ n = 1 ∨ n = 2 ∨ n = 3 ∨ n = 4 ∨ n = 5 ∨ n = 6 ∨ n = 7 := by omega
  rcases this with rfl | rfl | rfl | rfl | rfl | rfl | rfl | rfl <;> rfl
theorem impl_num (n : Nat) (h : n ≤ 7) : impl_NumeralOf (n : Int) = some (numT n, true) := by
  have : n = 0 ∨ n = 1 ∨ n = 2 ∨ n = 3 ∨ n = 4 ∨ n = 5 ∨ n = 6 ∨ n = 7 := by omega
  rcases this with rfl | rfl | rfl | rfl | rfl | rfl | rfl | rfl <;> rfl
theorem num_bad (a : Int) (h : ¬ (0 ≤ a ∧ a ≤ 7)) : spec_NumeralOf a = some (Term.mk ⟨#[]⟩ [], false) ∧ impl_NumeralOf a = some (Term.mk ⟨#[]⟩ [], false) := by
  unfold spec_NumeralOf impl_NumeralOf spec_l1In impl_within
  by_cases h0 : 0 ≤ a
  · have : ¬ a ≤ 7 := fun h1 => h ⟨h0, h1⟩
    simp [h0, this]
  · simp [h0]
theorem numeral_law (a : Int) (t : Term) (b : Bool) (h1 : spec_NumeralOf a = some (t, b)) (h2 : impl_NumeralOf a = some (t, b)) (hc : lcn Term.cn t.Args ≤ 100) : FnExactNumeralOf a = some true := by
  unfold FnExactNumeralOf
  obtain ⟨y, m1, m2⟩ := markTerm_held t (k := 1) (by omega) (by omega)
  have hd : decide ((1 : Int) + ((lcn Term.cn t.Args : Nat) : Int) < 0) = false := decide_eq_false (by omega)
  simp only [h1, h2, Option.bind_some, eqTerm_refl, cond_true, beq_self_eq_true, m1, m2, hd, cond_false, decide_true]
theorem FnExactNumeralOf_true (a : Int) (_ : InR a) : FnExactNumeralOf a = some true := by
  by_cases h : 0 ≤ a ∧ a ≤ 7
  · obtain ⟨n, rfl⟩ : ∃ n : Nat, a = n := ⟨a.toNat, by omega⟩
    exact numeral_law _ _ _ (spec_num n (by omega)) (impl_num n (by omega)) (by rw [numT_cn]; omega)
  · obtain ⟨h1, h2⟩ := num_bad a h
    exact numeral_law _ _ _ h1 h2 (by rw [Term.Args_mk, lcn_nil]; omega)
end Go.Proofs.Ytfggcaohidajkaa
