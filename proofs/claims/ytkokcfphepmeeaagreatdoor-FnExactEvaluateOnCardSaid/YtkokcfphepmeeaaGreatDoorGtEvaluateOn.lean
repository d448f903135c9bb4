/- A part of the proof: lemmas only; nothing is claimed here beyond what each lemma says. -/
import Derived.Test.YtkokcfphepmeeaaGreatDoorGevb
set_option linter.unusedSimpArgs false
set_option linter.unusedVariables false
set_option linter.defProp false
set_option maxRecDepth 4000
namespace Go.Proofs.YtkokcfphepmeeaaGreatDoor
open Go.Av
theorem EvaluateOn_1_eq (l : List Int) (x : Int) : impl_EvaluateOn_1 x l = some (!hasI l x && !hasI l (IntKind.i64.wrap (0 - x))) := by
  unfold impl_EvaluateOn_1
  rw [Contains_eq, Contains_eq, Option.bind_some, Option.bind_some]
  cases hasI l x <;> rfl
theorem on_both (a0 : Formula) (a1 : List Int) (hok : a0.Ok) (ht : a0.tot ≤ 1048576) (hb : a1.length ≤ 1048576) (hok1 : ∀ x ∈ a1, InR x) : ∃ r, spec_EvaluateOn a0 a1 = some r ∧ impl_EvaluateOn a0 a1 = some r := by
  unfold spec_EvaluateOn impl_EvaluateOn
  rw [l20Good_eq a0 ht hok, variablesOf_eq a0 ht hok, Option.bind_some, Option.bind_some]
  cases ho : okF a0
  · exact ⟨_, rfl, rfl⟩
  · obtain ⟨hv, hvf⟩ := (Bool.and_eq_true _ _).mp ho
    obtain ⟨hc, hg⟩ := validF_cnt hv
    have hl := ats_cnt a0
    simp only [cond_true]
    rw [clause_same a1 hok1, clause_eq a1 hb, Option.bind_some, Option.bind_some]
    cases clauseB a1
    · exact ⟨_, rfl, rfl⟩
    · obtain ⟨v, h1, h2, h3, _⟩ := l20Into_ok a0 [] (by simp; omega)
      rw [cond_true, cond_true, h1, Option.bind_some, ContainsFunc_int (p := fun x => !hasI a1 x && !hasI a1 (IntKind.i64.wrap (0 - x))) _ (fun x _ => EvaluateOn_1_eq a1 x), Option.bind_some, value_ok hg hvf, evaluate_ok hc hg hvf]
      rw [forN_all (fun j => hasI a1 (v.getD j default) || hasI a1 (IntKind.i64.wrap (0 - v.getD j default))) (r0 := (false, false)) (fun j hj _ => by
        rw [idx_getD hj, Option.bind_some, Has_eq, Option.bind_some, Option.bind_some, Has_eq, Option.bind_some]
        cases hasI a1 (v.getD j default) <;> cases hasI a1 (IntKind.i64.wrap (0 - v.getD j default)) <;> rfl), range_all_list v (fun x => hasI a1 x || hasI a1 (IntKind.i64.wrap (0 - x)))]
      have e : (a0.ats.map varOf).any (fun x => !hasI a1 x && !hasI a1 (IntKind.i64.wrap (0 - x))) = !v.all (fun x => hasI a1 x || hasI a1 (IntKind.i64.wrap (0 - x))) := by
        rw [List.not_all_eq_any_not, Bool.eq_iff_iff, List.any_eq_true, List.any_eq_true]
        constructor
        · rintro ⟨x, g1, g2⟩; exact ⟨x, (h2 x).2 (.inr g1), by rw [Bool.not_or]; exact g2⟩
        · rintro ⟨x, g1, g2⟩; exact ⟨x, ((h2 x).1 g1).elim (fun h => by cases h) id, by rw [Bool.not_or] at g2; exact g2⟩
      rw [e]
      cases v.all (fun x => hasI a1 x || hasI a1 (IntKind.i64.wrap (0 - x)))
      · exact ⟨_, rfl, rfl⟩
      · exact ⟨_, rfl, rfl⟩
theorem FnExactEvaluateOn_true (a0 : Formula) (a1 : List Int) (h0 : a0.Ok) (h1 : LOk InR a1) : FnExactEvaluateOn a0 a1 = some true := by
  unfold FnExactEvaluateOn
  by_cases hb : (1048576 : Int) < (a1.length : Int)
  · rw [decide_eq_true hb]; rfl
  · have hb1 : a1.length ≤ 1048576 := by omega
    rw [decide_eq_false hb, cond_false, szFormula_eq a0 h0 _ (by omega) (by omega), Option.bind_some]
    by_cases e : szR a0.tot 1048576 < 0
    · rw [decide_eq_true e]; rfl
    · have ht := szR_ok e
      rw [decide_eq_false e, cond_false]
      obtain ⟨r, g1, g2⟩ := on_both a0 a1 h0 ht hb1 h1.2
      simp only [toFormula_eq a0 ht, toIntS_eq a1 (by rw [ltot0]; exact hb1), Option.bind_some, g1, g2, beq_self_eq_true, cond_true, eqFormula_refl, eqIntS_refl]
end Go.Proofs.YtkokcfphepmeeaaGreatDoor
