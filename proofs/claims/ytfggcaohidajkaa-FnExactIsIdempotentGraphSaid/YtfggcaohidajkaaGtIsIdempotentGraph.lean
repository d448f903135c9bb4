/- A part of the proof: lemmas only; nothing is claimed here beyond what each lemma says. -/
import Derived.Test.YtfggcaohidajkaaGcmp
set_option linter.unusedSimpArgs false
set_option linter.unusedVariables false
set_option linter.defProp false
set_option maxRecDepth 4000
namespace Go.Proofs.Ytfggcaohidajkaa
open Go.Av
theorem same_both (a b : SizeGraph) : ∃ r : Bool, spec_l24Same a b = some r ∧ impl_sameGraph a b = some r := by
  unfold spec_l24Same impl_sameGraph slices_Equal_Simpl_SizeEdge_impl_SizeEdge
  cases decide (a.Source = b.Source)
  · exact ⟨false, rfl, rfl⟩
  cases decide (a.Target = b.Target)
  · exact ⟨false, rfl, rfl⟩
  simp only [cond_true]
  by_cases h : (a.Edges.length : Int) = (b.Edges.length : Int)
  · rw [decide_eq_true h, cond_true]
    rw [forN_all (fun j => decide ((a.Edges.getD j default).From = (b.Edges.getD j default).From) && (decide ((a.Edges.getD j default).To = (b.Edges.getD j default).To) && ((a.Edges.getD j default).Strict == (b.Edges.getD j default).Strict))) (r0 := false) (fun j hj _ => by
      rw [idx_getD hj, Option.bind_some, idx_getD (by omega), Option.bind_some]
      cases (decide ((a.Edges.getD j default).From = (b.Edges.getD j default).From) && (decide ((a.Edges.getD j default).To = (b.Edges.getD j default).To) && ((a.Edges.getD j default).Strict == (b.Edges.getD j default).Strict))) <;> rfl)]
    cases (List.range a.Edges.length).all fun j => decide ((a.Edges.getD j default).From = (b.Edges.getD j default).From) && (decide ((a.Edges.getD j default).To = (b.Edges.getD j default).To) && ((a.Edges.getD j default).Strict == (b.Edges.getD j default).Strict))
    · exact ⟨false, rfl, rfl⟩
    · exact ⟨true, rfl, rfl⟩
  · rw [decide_eq_false h]; exact ⟨false, rfl, rfl⟩
theorem idem_both (g : SizeGraph) (hb : Big g.Edges.length) : ∃ r, spec_IsIdempotentGraph g = some r ∧ impl_IsIdempotentGraph g = some r := by
  unfold spec_IsIdempotentGraph impl_IsIdempotentGraph
  rw [specG g hb, implV g hb, Option.bind_some, Option.bind_some]
  cases hv : validG g
  · exact ⟨_, rfl, rfl⟩
  simp only [cond_true]
  unfold spec_l24Idempotent impl_isIdempotent
  cases decide (g.Source = g.Target)
  · exact ⟨_, rfl, rfl⟩
  obtain ⟨s, _, h1, h2⟩ := compose_both g g hv hv
  obtain ⟨r, k1, k2⟩ := same_both ⟨g.Source, g.Target, s⟩ g
  rw [h1, h2]
  simp only [cond_true, Option.bind_some, k1, k2]
  exact ⟨_, rfl, rfl⟩
theorem FnExactIsIdempotentGraph_true (g : SizeGraph) (h : g.Ok) : FnExactIsIdempotentGraph g = some true := by
  unfold FnExactIsIdempotentGraph
  rw [szSizeGraph_eq g h _ (by omega) (by omega), Option.bind_some]
  by_cases e : szR g.tot 1048576 < 0
  · rw [decide_eq_true e]; rfl
  · have ht := szR_ok e
    rw [decide_eq_false e, cond_false]
    obtain ⟨r, h1, h2⟩ := idem_both g (h.2.2.1)
    simp only [toSizeGraph_eq g ht, Option.bind_some, h1, h2, beq_self_eq_true, cond_true, eqSizeGraph_refl]
end Go.Proofs.Ytfggcaohidajkaa
