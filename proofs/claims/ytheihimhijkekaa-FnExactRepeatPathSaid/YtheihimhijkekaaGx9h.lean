/- A part of the proof: lemmas only; nothing is claimed here beyond what each lemma says. -/
import Derived.Test.YtheihimhijkekaaGxG
import Derived.Test.YtheihimhijkekaaAvS
set_option linter.unusedSimpArgs false
set_option linter.unusedVariables false
set_option linter.defProp false
namespace Go.Proofs.Ytheihimhijkekaa
open Go.Av
theorem Contains_int {f : Int → Option Bool} {p : Int → Bool} (h : ∀ x, f x = some (p x)) (xs : List Int) : slices_ContainsFunc_Sint_int xs f = some (xs.any p) := by
  unfold slices_ContainsFunc_Sint_int slices_IndexFunc_Sint_int
  obtain ⟨r, h1, h2⟩ := forN_find (n := xs.length) (p := fun i => p (xs.getD i default)) (f := fun i2 s2 => (idx xs (i2 : Int)).bind fun v14 => (f v14).bind fun v16 => bif v16 then some (.rt (i2 : Int)) else some (.nx ())) (fun j hj => by
    simp only [idx_getD hj, Option.bind_some, h]
    cases p (xs.getD j default) <;> rfl)
  rw [h1, Option.bind_some, h2, range_any_list]
def callOk (p : CyclicProof) (g : SizeGraph) : Bool :=
  validG g && decide (g.Source < p.Arities.length) && decide (g.Target < p.Arities.length) && g.Edges.all (fun e => decide (e.From < p.Arities.getD g.Source.toNat default) && decide (e.To < p.Arities.getD g.Target.toNat default))
def validP (p : CyclicProof) : Bool := inR (p.Arities.length : Int) 1 6 && decide (p.Calls.length ≤ 12) && p.Arities.all (fun v => inR v 0 4) && p.Calls.all (callOk p)
theorem validG_src {g : SizeGraph} (h : validG g = true) : 0 ≤ g.Source ∧ 0 ≤ g.Target := by
  simp only [validG, Bool.and_eq_true, inR_iff] at h
  exact ⟨h.1.1.1, h.1.2.1⟩
theorem impl2_eq (p : CyclicProof) (g : SizeGraph) (hb : Big g.Edges.length) : impl_IsValidCyclic_2 g (p.Arities.length : Int) p = some (!callOk p g) := by
  unfold impl_IsValidCyclic_2 callOk
  rw [implV g hb, Option.bind_some]
  cases hv : validG g
  · rfl
  · have hs := validG_src hv
    by_cases h1 : g.Source < p.Arities.length
    · by_cases h2 : g.Target < p.Arities.length
      · rw [cond_true, decide_eq_false (show ¬ (p.Arities.length : Int) ≤ g.Source by omega), decide_eq_false (show ¬ (p.Arities.length : Int) ≤ g.Target by omega), cond_false, cond_false, decide_eq_true h1, decide_eq_true h2]
        unfold slices_ContainsFunc_Simpl_SizeEdge_impl_SizeEdge slices_IndexFunc_Simpl_SizeEdge_impl_SizeEdge
        rw [find_list (p := fun e => !(decide (e.From < p.Arities.getD g.Source.toNat default) && decide (e.To < p.Arities.getD g.Target.toNat default)))]
        · rw [Option.bind_some, List.all_eq_not_any_not]; simp
        · intro e _
          simp only [impl_IsValidCyclic_2_1, idx_int hs.1 h1, idx_int hs.2 h2, Option.bind_some]
          by_cases g1 : e.From < p.Arities.getD g.Source.toNat default
          · rw [decide_eq_false (show ¬ p.Arities.getD g.Source.toNat default ≤ e.From by omega), decide_eq_true g1, cond_false, Bool.true_and]
            by_cases g2 : e.To < p.Arities.getD g.Target.toNat default
            · rw [decide_eq_false (show ¬ p.Arities.getD g.Target.toNat default ≤ e.To by omega), decide_eq_true g2]; rfl
            · rw [decide_eq_true (show p.Arities.getD g.Target.toNat default ≤ e.To by omega), decide_eq_false g2]; rfl
          · rw [decide_eq_true (show p.Arities.getD g.Source.toNat default ≤ e.From by omega), decide_eq_false g1]; rfl
      · rw [cond_true, decide_eq_false (show ¬ (p.Arities.length : Int) ≤ g.Source by omega), decide_eq_true (show (p.Arities.length : Int) ≤ g.Target by omega), decide_eq_false h2]
        simp
    · rw [cond_true, decide_eq_true (show (p.Arities.length : Int) ≤ g.Source by omega), decide_eq_false h1]; simp
theorem implP (p : CyclicProof) (h : p.Ok) : impl_IsValidCyclic p = some (validP p) := by
  unfold impl_IsValidCyclic validP
  rw [within_eq, Option.bind_some]
  cases inR (p.Arities.length : Int) 1 6
  · rfl
  · by_cases h12 : p.Calls.length ≤ 12
    · rw [cond_true, decide_eq_false (show ¬ (12 : Int) < (p.Calls.length : Int) by omega), cond_false, decide_eq_true h12,
        Contains_int (p := fun x => !inR x 0 4) (fun x => by simp only [impl_IsValidCyclic_1, within_eq, Option.bind_some])]
      have e1 : p.Arities.any (fun x => !inR x 0 4) = !p.Arities.all (fun v => inR v 0 4) := by rw [List.all_eq_not_any_not, Bool.not_not]
      rw [e1, Option.bind_some]
      cases p.Arities.all (fun v => inR v 0 4)
      · rfl
      · unfold slices_ContainsFunc_Simpl_SizeGraph_impl_SizeGraph slices_IndexFunc_Simpl_SizeGraph_impl_SizeGraph
        rw [find_list (p := fun g => !callOk p g) p.Calls (fun g hg => impl2_eq p g (h.2.2 g hg).2.2.1)]
        rw [List.all_eq_not_any_not]; simp
    · rw [cond_true, decide_eq_true (show (12 : Int) < (p.Calls.length : Int) by omega), decide_eq_false h12]; rfl
theorem specP (p : CyclicProof) (h : p.Ok) : spec_l24Good p = some (validP p) := by
  unfold spec_l24Good validP
  rw [l1In_eq, Option.bind_some]
  cases inR (p.Arities.length : Int) 1 6
  · rfl
  · by_cases h12 : p.Calls.length ≤ 12
    · rw [cond_true, decide_eq_false (show ¬ (12 : Int) < (p.Calls.length : Int) by omega), cond_false, decide_eq_true h12,
        forN_all (fun j => inR (p.Arities.getD j default) 0 4), range_all_list p.Arities (fun v => inR v 0 4)]
      · cases p.Arities.all (fun v => inR v 0 4)
        · rfl
        · rw [cond_true, forN_all (fun j => callOk p (p.Calls.getD j default)), range_all_list p.Calls (callOk p)]
          · cases p.Calls.all (callOk p) <;> rfl
          · intro j hj _
            have hg := (h.2.2 _ (getD_mem hj)).2.2.1
            generalize ge : p.Calls.getD j default = g at hg ⊢
            simp only [idx_getD hj, ge, Option.bind_some, specG g hg]
            unfold callOk
            cases hv : validG g
            · rfl
            · have hs := validG_src hv
              by_cases h1 : g.Source < p.Arities.length
              · by_cases h2 : g.Target < p.Arities.length
                · rw [cond_true, decide_eq_false (show ¬ (p.Arities.length : Int) ≤ g.Source by omega), decide_eq_false (show ¬ (p.Arities.length : Int) ≤ g.Target by omega), cond_false, cond_false, decide_eq_true h1, decide_eq_true h2]
                  rw [forN_all (ρ := Flow Bool Unit) (fun k => (fun e : SizeEdge => decide (e.From < p.Arities.getD g.Source.toNat default) && decide (e.To < p.Arities.getD g.Target.toNat default)) (g.Edges.getD k default)) (r0 := .rt false), range_all_list g.Edges (fun e : SizeEdge => decide (e.From < p.Arities.getD g.Source.toNat default) && decide (e.To < p.Arities.getD g.Target.toNat default))]
                  · cases g.Edges.all (fun e : SizeEdge => decide (e.From < p.Arities.getD g.Source.toNat default) && decide (e.To < p.Arities.getD g.Target.toNat default)) <;> rfl
                  · intro k hk _
                    simp only [idx_getD hk, idx_int hs.1 h1, idx_int hs.2 h2, Option.bind_some]
                    by_cases g1 : (g.Edges.getD k default).From < p.Arities.getD g.Source.toNat default
                    · rw [decide_eq_false (show ¬ p.Arities.getD g.Source.toNat default ≤ (g.Edges.getD k default).From by omega), decide_eq_true g1, cond_false, Bool.true_and]
                      by_cases g2 : (g.Edges.getD k default).To < p.Arities.getD g.Target.toNat default
                      · rw [decide_eq_false (show ¬ p.Arities.getD g.Target.toNat default ≤ (g.Edges.getD k default).To by omega), decide_eq_true g2]; rfl
                      · rw [decide_eq_true (show p.Arities.getD g.Target.toNat default ≤ (g.Edges.getD k default).To by omega), decide_eq_false g2]; rfl
                    · rw [decide_eq_true (show p.Arities.getD g.Source.toNat default ≤ (g.Edges.getD k default).From by omega), decide_eq_false g1]; rfl
                · rw [cond_true, decide_eq_false (show ¬ (p.Arities.length : Int) ≤ g.Source by omega), decide_eq_true (show (p.Arities.length : Int) ≤ g.Target by omega), decide_eq_false h2]
                  simp
              · rw [cond_true, decide_eq_true (show (p.Arities.length : Int) ≤ g.Source by omega), decide_eq_false h1]; simp
      · intro j hj _
        simp only [idx_getD hj, Option.bind_some, l1In_eq]
        cases inR (p.Arities.getD j default) 0 4 <;> rfl
    · rw [cond_true, decide_eq_true (show (12 : Int) < (p.Calls.length : Int) by omega), decide_eq_false h12]; rfl
end Go.Proofs.Ytheihimhijkekaa
