/- A part of the proof: lemmas only; nothing is claimed here beyond what each lemma says. -/
import Derived.Test.YtgkgihdafalimaaGreatGtInductionAxiom
set_option linter.unusedSimpArgs false
set_option linter.unusedVariables false
set_option linter.defProp false
set_option maxRecDepth 4000
namespace Go.Proofs.YtgkgihdafalimaaGreat
open Go.Av
theorem part_valid {f : Formula} (hf : f.tot ≤ 1048576) (hof : f.Ok) {p : Formula} (hp : p ∈ f.Parts) : p.tot ≤ 1048576 ∧ p.Ok := ⟨by have := Formula.tot_part hp; omega, hof.u.2.2.2.2 p hp⟩
theorem isAx_both (f : Formula) (hof : f.Ok) (hf : f.tot ≤ 1048576) : ∃ r, spec_IsInductionAxiom f = some r ∧ impl_IsInductionAxiom f = some r := by
  unfold spec_IsInductionAxiom impl_IsInductionAxiom
  rw [validF_spec f hf hof, validF_impl f hf hof]
  simp only [Option.bind_some]
  cases hv : validF f
  · exact ⟨_, rfl, rfl⟩
  simp only [cond_true]
  cases h7 : decide (f.Op = 7)
  · exact ⟨_, rfl, rfl⟩
  simp only [cond_true]
  obtain ⟨v1, v2⟩ := validF_iff hv
  obtain ⟨hform, hparts⟩ := good_split v2
  have e7 := of_decide_eq_true h7
  obtain ⟨x, y, hxy⟩ : ∃ x y, f.Parts = [x, y] := by
    unfold formC at hform
    rw [e7] at hform
    have : f.Parts.length = 2 := by
      have h := hform
      simp only [show decide ((7 : Int) = 3) = false from rfl, show decide ((7 : Int) = 8) = false from rfl, show decide ((7 : Int) = 9) = false from rfl, show decide ((7 : Int) = 1) = false from rfl, show decide ((7 : Int) = 2) = false from rfl, show decide ((7 : Int) = 4) = false from rfl, show decide ((7 : Int) = 5) = false from rfl, show decide ((7 : Int) = 6) = false from rfl, show decide ((7 : Int) = 7) = true from rfl, decide_true, cond_false, cond_true, Bool.or_false, Bool.or_true, Bool.false_or, Bool.and_eq_true, decide_eq_true_eq] at h
      exact h.1
    match hq : f.Parts, this with
    | [x, y], _ => exact ⟨x, y, rfl⟩
  have hy : y ∈ f.Parts := by rw [hxy]; simp
  obtain ⟨yt, yo⟩ := part_valid hf hof hy
  rw [hxy]
  have i1 : idx [x, y] (1 : Int) = some y := rfl
  simp only [i1, Option.bind_some]
  cases h8 : decide (y.Op = 8)
  · exact ⟨_, rfl, rfl⟩
  have e8 := of_decide_eq_true h8
  obtain ⟨z, hz⟩ : ∃ z, y.Parts = [z] := by
    have h := (good_split (hparts y hy)).1
    rcases formC_cases h with ⟨h3, _⟩ | ⟨_, _, hk, _⟩ | ⟨_, hq, _⟩
    · omega
    · match hq : y.Parts, hk with
      | [z], _ => exact ⟨z, rfl⟩
    · unfold isQ at hq; rw [e8] at hq; cases hq
  have hzm : z ∈ y.Parts := by rw [hz]; simp
  obtain ⟨zt, zo⟩ := part_valid yt yo hzm
  rw [hz]
  have i0 : idx [z] (0 : Int) = some z := rfl
  simp only [i0, Option.bind_some, cond_true, axiom_spec zo zt yo.u.2.2.1, axiom_impl zo zt yo.u.2.2.1, l8Same_ok, sameF_ok]
  cases (axR z y.Var).2
  · exact ⟨_, rfl, rfl⟩
  · exact ⟨_, rfl, by rw [same_comm]; rfl⟩
theorem FnExactIsInductionAxiom_true (f : Formula) (hof : f.Ok) : FnExactIsInductionAxiom f = some true := by
  unfold FnExactIsInductionAxiom
  rw [szFormula_eq f hof _ (by omega) (by omega), Option.bind_some]
  by_cases e : szR f.tot 1048576 < 0
  · rw [decide_eq_true e]; rfl
  have hf := szR_ok e
  obtain ⟨r, h1, h2⟩ := isAx_both f hof hf
  rw [decide_eq_false e, cond_false, toFormula_eq f hf]
  simp only [Option.bind_some, h1, h2, eqFormula_refl, cond_true, beq_self_eq_true]
end Go.Proofs.YtgkgihdafalimaaGreat
