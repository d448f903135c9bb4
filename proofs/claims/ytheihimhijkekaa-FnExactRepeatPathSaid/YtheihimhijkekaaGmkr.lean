/- A part of the proof: lemmas only; nothing is claimed here beyond what each lemma says. -/
import Derived.Test.YtheihimhijkekaaGpth
import Derived.Test.YtheihimhijkekaaGmk
set_option linter.unusedSimpArgs false
set_option linter.unusedVariables false
set_option linter.defProp false
set_option maxRecDepth 4000
namespace Go.Proofs.Ytheihimhijkekaa
open Go.Av
/-! marks of a proof's calls, that nothing reads again -/
def SizeEdge.cn (a : SizeEdge) : Nat := 3
theorem SizeEdge.cn_u (a : SizeEdge) : a.cn = 3 := rfl
theorem SizeEdge.cn_pos (a : SizeEdge) : 1 ≤ a.cn := by rw [SizeEdge.cn_u]; omega
def heldE (a0 : List SizeEdge) (a1 : Int) : Option Int :=
  thenL (ρ := Int) (σ := Int) (forN (fun (i2 : Nat) (s2 : Int) => Option.bind (idx a0 (i2 : Int)) fun v14 => bif decide (v14.From = s2) then some (.nx (s2 + 1 + 1 + 1)) else some (.rt (-1 : Int))) a0.length 0 a1) fun s2 => some s2
theorem markSizeEdgeS_held (xs : List SizeEdge) : MH (fun _ : Unit => True) (fun _ => markSizeEdgeS) (fun _ => heldE) xs (lcn SizeEdge.cn xs) := by
  refine MH.of (cnt := SizeEdge.cn) (fun _ _ _ => rfl) (fun _ _ _ _ => rfl) (fun _ l k => by simp only [dec_end, cond_false]) (fun h => by have := lcn_len (c := SizeEdge.cn) (xs := xs) (SizeEdge.cn_pos); omega) (fun x hx k h0 h1 => ?_)
  have hc := SizeEdge.cn_u x
  have w0 : IntKind.i64.wrap (k + 1) = k + 1 := wrapK (by omega) (by omega)
  have w1 : IntKind.i64.wrap (k + 1 + 1) = k + 1 + 1 := wrapK (by omega) (by omega)
  have w2 : IntKind.i64.wrap (k + 1 + 1 + 1) = k + 1 + 1 + 1 := wrapK (by omega) (by omega)
  have e : k + ((SizeEdge.cn x : Nat) : Int) = k + 1 + 1 + 1 := by omega
  refine ⟨(SizeEdge.mk k (k + 1) (decide ((k + 1 + 1).tmod 3 = 0))), fun p hp => ⟨fun pre rest hpre => ?_, fun ys i hi => ?_⟩⟩
  · have wi := wrap_succ (i := pre.length) (by omega)
    simp only [dec_mid, cond_true, idx_mid, set_mid, Option.bind_some, rem3, wi, e, w0, w1, w2]
  · simp only [idx_nat, hi, Option.bind_some, decide_true, cond_true, e]
def gcn (g : SizeGraph) : Nat := 2 + lcn SizeEdge.cn g.Edges
def heldG (a0 : List SizeGraph) (a1 : Int) : Option Int :=
  thenL (ρ := Int) (σ := Int) (forN (fun (i2 : Nat) (s2 : Int) => Option.bind (idx a0 (i2 : Int)) fun v14 => Option.bind (heldE v14.Edges (s2 + 1 + 1)) fun r => some (.nx r)) a0.length 0 a1) fun s2 => some s2
theorem markSizeGraphS_held (xs : List SizeGraph) : MH (fun _ : Unit => True) (fun _ => markSizeGraphS) (fun _ => heldG) xs (lcn gcn xs) := by
  refine MH.of (cnt := gcn) (fun _ _ _ => rfl) (fun _ _ _ _ => rfl) (fun _ l k => by simp only [dec_end, cond_false]) (fun h => by have := lcn_len (c := gcn) (xs := xs) (fun _ => by unfold gcn; omega); omega) (fun x hx k h0 h1 => ?_)
  unfold gcn at h1
  have w0 : IntKind.i64.wrap (k + 1) = k + 1 := wrapK (by omega) (by omega)
  have w1 : IntKind.i64.wrap (k + 1 + 1) = k + 1 + 1 := wrapK (by omega) (by omega)
  have e : k + ((gcn x : Nat) : Int) = k + 1 + 1 + ((lcn SizeEdge.cn x.Edges : Nat) : Int) := by unfold gcn; omega
  obtain ⟨y, m0, n0⟩ := (markSizeEdgeS_held x.Edges).unit (k := k + 1 + 1) (by omega) (by omega)
  refine ⟨(SizeGraph.mk k (k + 1) y), fun p hp => ⟨fun pre rest hpre => ?_, fun ys i hi => ?_⟩⟩
  · have wi := wrap_succ (i := pre.length) (by omega)
    simp only [dec_mid, cond_true, idx_mid, set_mid, Option.bind_some, wi, w0, w1, m0, e]
  · simp only [idx_nat, hi, Option.bind_some, n0, e]
theorem cn_len : ∀ l : List SizeEdge, lcn SizeEdge.cn l = 3 * l.length
  | [] => by rw [lcn_nil]; rfl
  | e :: l => by rw [lcn_cons, cn_len l, SizeEdge.cn_u, List.length_cons]; omega
theorem ints_len : ∀ l : List Int, lcn (fun _ => 1) l = l.length
  | [] => by rw [lcn_nil]; rfl
  | e :: l => by rw [lcn_cons, ints_len l, List.length_cons]; omega
theorem gcn_tot : ∀ l : List SizeGraph, lcn gcn l ≤ 5 * ltot SizeGraph.tot l
  | [] => by rw [lcn_nil]; exact Nat.zero_le _
  | g :: l => by
    have h := gcn_tot l
    have h1 : g.Edges.length ≤ g.tot := by unfold SizeGraph.tot; exact ltot_len _ _
    rw [lcn_cons]
    have h2 : gcn g = 2 + 3 * g.Edges.length := by unfold gcn; rw [cn_len]
    rw [h2]
    simp only [ltot, List.map_cons, List.sum_cons, List.length_cons] at h ⊢
    omega
theorem mark_cyclic (p : CyclicProof) (ht : p.tot ≤ 1048576) : ∃ (k : Int) (y : List Int × List SizeGraph), 1 ≤ k ∧ k ≤ 100000000 ∧ markCyclicProof p 1 = some (k, y) := by
  unfold CyclicProof.tot at ht
  have h0 := ints_len p.Arities
  have h1 := gcn_tot p.Calls
  have h2 := ltot0 p.Arities
  obtain ⟨y1, m1, _⟩ := (markIntS_held p.Arities).unit (k := 1) (by omega) (by omega)
  obtain ⟨y2, m2, _⟩ := (markSizeGraphS_held p.Calls).unit (k := 1 + ((lcn (fun _ => 1) p.Arities : Nat) : Int)) (by omega) (by omega)
  refine ⟨1 + ((lcn (fun _ => 1) p.Arities : Nat) : Int) + ((lcn gcn p.Calls : Nat) : Int), (y1, y2), by omega, by omega, ?_⟩
  simp only [markCyclicProof, m1, m2, Option.bind_some]
end Go.Proofs.Ytheihimhijkekaa
