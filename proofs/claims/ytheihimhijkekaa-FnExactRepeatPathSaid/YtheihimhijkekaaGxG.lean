/- A part of the proof: lemmas only; nothing is claimed here beyond what each lemma says. -/
import Derived.Test.YtheihimhijkekaaGc
set_option linter.unusedSimpArgs false
set_option linter.unusedVariables false
set_option linter.defProp false
namespace Go.Proofs.Ytheihimhijkekaa
open Go.Av
def cmpE (a b : SizeEdge) : Int := if cmpI a.From b.From = 0 then cmpI a.To b.To else cmpI a.From b.From
theorem compareEdges_eq (a b : SizeEdge) : impl_compareEdges a b = some (cmpE a b) := by
  simp only [impl_compareEdges, Compare_eq, Or2_eq, Option.bind_some, cmpE]
def edgeOk (e : SizeEdge) : Bool := inR e.From 0 3 && inR e.To 0 3
def edgeC (xs : List SizeEdge) (i : Nat) : Bool := edgeOk (xs.getD i default) && (decide (i = 0) || decide (cmpE (xs.getD (i - 1) default) (xs.getD i default) < 0))
def validG (g : SizeGraph) : Bool := inR g.Source 0 5 && inR g.Target 0 5 && (List.range g.Edges.length).all (edgeC g.Edges)
theorem cmpE_key {p e : SizeEdge} (hp : edgeOk p = true) (he : edgeOk e = true) : (0 ≤ cmpE p e) ↔ (wr (wr (e.From * 4) + e.To) ≤ wr (wr (p.From * 4) + p.To)) := by
  simp only [edgeOk, Bool.and_eq_true, inR_iff] at hp he
  rw [wr64 (n := e.From * 4) (by omega) (by omega), wr64 (n := p.From * 4) (by omega) (by omega), wr64 (n := e.From * 4 + e.To) (by omega) (by omega), wr64 (n := p.From * 4 + p.To) (by omega) (by omega)]
  unfold cmpE cmpI
  repeat' split
  all_goals omega
theorem implV (g : SizeGraph) (hb : Big g.Edges.length) : impl_IsValidGraph g = some (validG g) := by
  unfold impl_IsValidGraph
  rw [forN_all (edgeC g.Edges)]
  · simp only [within_eq, Option.bind_some, validG]
    cases inR g.Source 0 5 <;> cases inR g.Target 0 5 <;> cases (List.range g.Edges.length).all (edgeC g.Edges) <;> rfl
  · intro j hj _
    simp only [idx_getD hj, within_eq, compareEdges_eq, Option.bind_some]
    simp only [edgeC, edgeOk]
    by_cases h0 : j = 0
    · subst h0
      cases inR (g.Edges.getD 0 default).From 0 3 <;> cases inR (g.Edges.getD 0 default).To 0 3 <;> simp
    · have h1 : (0 : Int) < (j : Int) := by omega
      simp only [idx_pred hj (by omega) (by simp only [Big] at hb; omega), Option.bind_some, decide_eq_true h1, cond_true, h0, decide_false, Bool.false_or]
      cases inR (g.Edges.getD j default).From 0 3 <;> cases inR (g.Edges.getD j default).To 0 3 <;> simp only [cond_true, cond_false, Bool.true_and, Bool.false_and, Bool.and_self, Bool.and_false]
      by_cases h2 : cmpE (g.Edges.getD (j - 1) default) (g.Edges.getD j default) < 0
      · have : ¬ 0 ≤ cmpE (g.Edges.getD (j - 1) default) (g.Edges.getD j default) := by omega
        rw [decide_eq_true h2, decide_eq_false this]; rfl
      · have : 0 ≤ cmpE (g.Edges.getD (j - 1) default) (g.Edges.getD j default) := by omega
        rw [decide_eq_false h2, decide_eq_true this]; rfl
theorem specG (g : SizeGraph) (hb : Big g.Edges.length) : spec_l24Graph g = some (validG g) := by
  unfold spec_l24Graph
  rw [forN_all (edgeC g.Edges)]
  · simp only [l1In_eq, Option.bind_some, validG]
    cases inR g.Source 0 5 <;> cases inR g.Target 0 5 <;> cases (List.range g.Edges.length).all (edgeC g.Edges) <;> rfl
  · intro j hj hk
    simp only [idx_getD hj, l1In_eq, Option.bind_some]
    simp only [edgeC]
    by_cases h0 : j = 0
    · subst h0
      unfold edgeOk
      cases inR (g.Edges.getD 0 default).From 0 3 <;> cases inR (g.Edges.getD 0 default).To 0 3 <;> simp
    · have h1 : (0 : Int) < (j : Int) := by omega
      have hp : edgeOk (g.Edges.getD (j - 1) default) = true := by
        have := hk (j - 1) (by omega)
        simp only [edgeC, Bool.and_eq_true] at this
        exact this.1
      simp only [idx_pred hj (by omega) (by simp only [Big] at hb; omega), Option.bind_some, decide_eq_true h1, cond_true, h0, decide_false, Bool.false_or]
      by_cases he : edgeOk (g.Edges.getD j default) = true
      · have key := cmpE_key hp he
        rw [he, Bool.true_and]
        simp only [edgeOk, Bool.and_eq_true] at he
        rw [he.1, he.2, cond_true, cond_true]
        by_cases h2 : cmpE (g.Edges.getD (j - 1) default) (g.Edges.getD j default) < 0
        · have h3 : ¬ (wr (wr ((g.Edges.getD j default).From * 4) + (g.Edges.getD j default).To) ≤ wr (wr ((g.Edges.getD (j - 1) default).From * 4) + (g.Edges.getD (j - 1) default).To)) := by rw [← key]; omega
          rw [decide_eq_false h3, decide_eq_true h2]; rfl
        · have h3 := key.1 (by omega)
          rw [decide_eq_true h3, decide_eq_false h2]; rfl
      · have he' : edgeOk (g.Edges.getD j default) = false := by simpa using he
        rw [he', Bool.false_and]
        unfold edgeOk at he'
        cases h3 : inR (g.Edges.getD j default).From 0 3
        · rfl
        · rw [h3, Bool.true_and] at he'
          rw [he']; rfl
end Go.Proofs.Ytheihimhijkekaa
