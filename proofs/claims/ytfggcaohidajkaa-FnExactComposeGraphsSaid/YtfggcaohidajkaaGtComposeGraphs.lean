/- A part of the proof: lemmas only; nothing is claimed here beyond what each lemma says. -/
import Derived.Test.YtfggcaohidajkaaGcmp
import Derived.Test.YtfggcaohidajkaaGmk
set_option linter.unusedSimpArgs false
set_option linter.unusedVariables false
set_option linter.defProp false
set_option maxRecDepth 4000
namespace Go.Proofs.Ytfggcaohidajkaa
open Go.Av
theorem comp_both (a b : SizeGraph) (ha : Big a.Edges.length) (hb : Big b.Edges.length) : ∃ (g : SizeGraph) (c : Bool), spec_ComposeGraphs a b = some (g, c) ∧ impl_ComposeGraphs a b = some (g, c) ∧ g.Edges.length ≤ 16 := by
  unfold spec_ComposeGraphs impl_ComposeGraphs
  rw [specG a ha, implV a ha, specG b hb, implV b hb, Option.bind_some, Option.bind_some]
  cases hv : validG a
  · exact ⟨_, _, rfl, rfl, Nat.zero_le _⟩
  simp only [cond_true, Option.bind_some]
  cases hw : validG b
  · exact ⟨_, _, rfl, rfl, Nat.zero_le _⟩
  simp only [cond_true]
  cases decide (b.Source = a.Target)
  · exact ⟨_, _, rfl, rfl, Nat.zero_le _⟩
  obtain ⟨s, hs, h1, h2⟩ := compose_both a b hv hw
  rw [h1, h2]
  exact ⟨_, _, rfl, rfl, hs⟩
theorem cn_len : ∀ l : List SizeEdge, lcn SizeEdge.cn l = 3 * l.length
  | [] => by rw [lcn_nil]; rfl
  | e :: l => by rw [lcn_cons, cn_len l, SizeEdge.cn_u, List.length_cons]; omega
theorem tot_len (g : SizeGraph) : g.Edges.length ≤ g.tot := by
  unfold SizeGraph.tot
  exact ltot_len _ _
theorem FnExactComposeGraphs_true (a b : SizeGraph) (ha : a.Ok) (hb : b.Ok) : FnExactComposeGraphs a b = some true := by
  unfold FnExactComposeGraphs
  rw [szSizeGraph_eq a ha _ (by omega) (by omega), Option.bind_some]
  by_cases e : szR a.tot 1048576 < 0
  · rw [decide_eq_true e]; rfl
  have h1 := szR_ok e
  have e1 : szR a.tot 1048576 = 1048576 - a.tot := by unfold szR; rw [if_pos (by omega)]
  rw [decide_eq_false e, cond_false, e1, szSizeGraph_eq b hb _ (by omega) (by omega), Option.bind_some]
  by_cases e2 : szR b.tot (1048576 - a.tot) < 0
  · rw [decide_eq_true e2]; rfl
  have h2 : (b.tot : Int) ≤ 1048576 - a.tot := Classical.byContradiction fun g => e2 ((szR_neg (by omega)).2 g)
  rw [decide_eq_false e2, cond_false]
  obtain ⟨g, c, k1, k2, k3⟩ := comp_both a b ha.2.2.1 hb.2.2.1
  have ta := tot_len a
  have tb := tot_len b
  have ca := cn_len a.Edges
  have cb := cn_len b.Edges
  have cg := cn_len g.Edges
  obtain ⟨y1, m1, _⟩ := markSizeGraph_held a (k := 1) (by omega) (by omega)
  obtain ⟨y2, m2, _⟩ := markSizeGraph_held b (k := 1 + ((lcn SizeEdge.cn a.Edges : Nat) : Int)) (by omega) (by omega)
  obtain ⟨y3, m3, m4⟩ := markSizeGraph_held g (k := 1) (by omega) (by omega)
  have d1 : decide ((1 : Int) + ((lcn SizeEdge.cn a.Edges : Nat) : Int) + ((lcn SizeEdge.cn b.Edges : Nat) : Int) < 0) = false := decide_eq_false (by omega)
  have d2 : decide ((1 : Int) + ((lcn SizeEdge.cn g.Edges : Nat) : Int) < 0) = false := decide_eq_false (by omega)
  simp only [toSizeGraph_eq a h1, toSizeGraph_eq b (by omega), Option.bind_some, k1, k2, eqSizeGraph_refl, cond_true, beq_self_eq_true, m1, m2, m3, m4, d1, d2, cond_false, decide_true]
end Go.Proofs.Ytfggcaohidajkaa
