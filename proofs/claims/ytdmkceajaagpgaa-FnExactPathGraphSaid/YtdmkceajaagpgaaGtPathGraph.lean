/- A part of the proof: lemmas only; nothing is claimed here beyond what each lemma says. -/
import Derived.Test.YtdmkceajaagpgaaGpath
set_option linter.unusedSimpArgs false
set_option linter.unusedVariables false
set_option linter.defProp false
set_option maxRecDepth 4000
namespace Go.Proofs.Ytdmkceajaagpgaa
open Go.Av
theorem cn_len : ∀ l : List SizeEdge, lcn SizeEdge.cn l = 3 * l.length
  | [] => by rw [lcn_nil]; rfl
  | e :: l => by rw [lcn_cons, cn_len l, SizeEdge.cn_u, List.length_cons]; omega
theorem ints_len : ∀ l : List Int, lcn (fun _ => 1) l = l.length
  | [] => by rw [lcn_nil]; rfl
  | e :: l => by rw [lcn_cons, ints_len l, List.length_cons]; omega
theorem gcn_tot : ∀ l : List SizeGraph, lcn gcn l ≤ 5 * ltot SizeGraph.tot l
  | [] => by rw [lcn_nil]; exact Nat.zero_le _
  | g :: l => by
    have h := gcn_tot l
    have h1 : g.Edges.length ≤ g.tot := by unfold SizeGraph.tot; exact ltot_len _ _
    rw [lcn_cons]
    have h2 : gcn g = 2 + 3 * g.Edges.length := by unfold gcn; rw [cn_len]
    rw [h2]
    simp only [ltot, List.map_cons, List.sum_cons, List.length_cons] at h ⊢
    omega
theorem mark_cyclic (p : CyclicProof) (ht : p.tot ≤ 1048576) : ∃ (k : Int) (y : List Int × List SizeGraph), 1 ≤ k ∧ k ≤ 100000000 ∧ markCyclicProof p 1 = some (k, y) := by
  unfold CyclicProof.tot at ht
  have h0 := ints_len p.Arities
  have h1 := gcn_tot p.Calls
  have h2 := ltot0 p.Arities
  obtain ⟨y1, m1, _⟩ := (markIntS_held p.Arities).unit (k := 1) (by omega) (by omega)
  obtain ⟨y2, m2, _⟩ := (markSizeGraphS_held p.Calls).unit (k := 1 + ((lcn (fun _ => 1) p.Arities : Nat) : Int)) (by omega) (by omega)
  refine ⟨1 + ((lcn (fun _ => 1) p.Arities : Nat) : Int) + ((lcn gcn p.Calls : Nat) : Int), (y1, y2), by omega, by omega, ?_⟩
  simp only [markCyclicProof, m1, m2, Option.bind_some]
theorem FnExactPathGraph_true (p : CyclicProof) (xs : List Int) (hp : p.Ok) (hx : LOk InR xs) : FnExactPathGraph p xs = some true := by
  unfold FnExactPathGraph
  by_cases hc : (1048576 : Int) < (xs.length : Int)
  · rw [decide_eq_true hc]; rfl
  rw [decide_eq_false hc, cond_false, szCyclicProof_eq p hp _ (by omega) (by omega), Option.bind_some]
  by_cases e : szR p.tot 1048576 < 0
  · rw [decide_eq_true e]; rfl
  have h1 := szR_ok e
  rw [decide_eq_false e, cond_false]
  have hcalls : ∀ g ∈ p.Calls, g.Edges.length ≤ 1048576 := fun g hg => by
    have q1 : g.Edges.length ≤ g.tot := by unfold SizeGraph.tot; exact ltot_len _ _
    have q2 := tot_mem SizeGraph.tot hg
    unfold CyclicProof.tot at h1
    omega
  obtain ⟨g, c, k1, k2, k3⟩ := path_both p xs hp (by omega) hcalls
  have cg := cn_len g.Edges
  have ci := ints_len xs
  obtain ⟨k, y, z1, z2, m1⟩ := mark_cyclic p h1
  obtain ⟨y2, m2, _⟩ := (markIntS_held xs).unit (k := k) (by omega) (by omega)
  obtain ⟨y3, m3, m4⟩ := markSizeGraph_held g (k := 1) (by omega) (by omega)
  have d1 : decide (k + ((lcn (fun _ => 1) xs : Nat) : Int) < 0) = false := decide_eq_false (by omega)
  have d2 : decide ((1 : Int) + ((lcn SizeEdge.cn g.Edges : Nat) : Int) < 0) = false := decide_eq_false (by omega)
  simp only [toCyclicProof_eq p h1, toIntS_eq xs (by rw [ltot0]; omega), Option.bind_some, k1, k2, eqSizeGraph_refl, eqCyclicProof_refl, eqIntS_refl, cond_true, beq_self_eq_true, m1, m2, m3, m4, d1, d2, cond_false, decide_true]
end Go.Proofs.Ytdmkceajaagpgaa
