/- A part of the proof: lemmas only; nothing is claimed here beyond what each lemma says. -/
import Derived.Test.YtheihimhijkekaaGm
import Derived.Test.YtheihimhijkekaaAvQ
set_option linter.unusedSimpArgs false
set_option linter.unusedVariables false
set_option linter.defProp false
set_option maxRecDepth 4000
namespace Go.Proofs.Ytheihimhijkekaa
open Go.Av
theorem szIntS_eq (a : List Int) (h : LOk InR a) (l : Int) (h0 : 0 ≤ l) (h1 : l ≤ 1048576) : szIntS a l = some (szR (ltot (fun _ => 0) a) l) := by
  unfold szIntS
  exact szLflat h.1 h0 h1
theorem toIntS_eq (a : List Int) (h : ltot (fun _ => 0) a ≤ 1048576) : toIntS a = some a := by
  unfold toIntS
  exact toLplain (by have := ltot_len (fun _ => 0) a; omega)
theorem eqIntS_refl (a : List Int) : eqIntS a a = some true := by
  unfold eqIntS
  exact eqLplain
def SizeEdge.tot (a : SizeEdge) : Nat := 0
def SizeEdge.Ok (a : SizeEdge) : Prop := InR a.From ∧ InR a.To ∧ (fun _ : Bool => True) a.Strict
theorem toSizeEdge_eq (a : SizeEdge) (h : a.tot ≤ 1048576) : toSizeEdge a = some a := by
  unfold toSizeEdge
  unfold SizeEdge.tot at h

  rfl
theorem eqSizeEdge_refl (a : SizeEdge) : eqSizeEdge a a = some true := by
  unfold eqSizeEdge
  simp only [decide_true, cond_true, Option.bind_some, beq_self_eq_true]
theorem szSizeEdgeS_eq (a : List SizeEdge) (h : LOk SizeEdge.Ok a) (l : Int) (h0 : 0 ≤ l) (h1 : l ≤ 1048576) : szSizeEdgeS a l = some (szR (ltot SizeEdge.tot a) l) := by
  unfold szSizeEdgeS
  exact szLflat h.1 h0 h1
theorem toSizeEdgeS_eq (a : List SizeEdge) (h : ltot SizeEdge.tot a ≤ 1048576) : toSizeEdgeS a = some a := by
  unfold toSizeEdgeS
  have := toL (f := toSizeEdge) (g := fun x => x) (z := (SizeEdge.mk (0 : Int) (0 : Int) false)) (xs := a) (fun x hx => toSizeEdge_eq x (by have := tot_mem SizeEdge.tot hx; omega)) (by have := ltot_len SizeEdge.tot a; omega)
  simpa only [List.map_id'] using this
theorem eqSizeEdgeS_refl (a : List SizeEdge) : eqSizeEdgeS a a = some true := by
  unfold eqSizeEdgeS
  exact eqL (fun x _ => eqSizeEdge_refl x)
def SizeGraph.tot (a : SizeGraph) : Nat := (ltot SizeEdge.tot) a.Edges
def SizeGraph.Ok (a : SizeGraph) : Prop := InR a.Source ∧ InR a.Target ∧ (LOk SizeEdge.Ok) a.Edges
theorem szSizeGraph_eq (a : SizeGraph) (h : a.Ok) (l : Int) (h0 : 0 ≤ l) (h1 : l ≤ 1048576) : szSizeGraph a l = some (szR a.tot l) := by
  unfold szSizeGraph
  show _ = some (szR _ l)
  unfold SizeGraph.tot
  rw [szSizeEdgeS_eq _ h.2.2 _ h0 h1, Option.bind_some]
  exact szLast h0
theorem toSizeGraph_eq (a : SizeGraph) (h : a.tot ≤ 1048576) : toSizeGraph a = some a := by
  unfold toSizeGraph
  unfold SizeGraph.tot at h
  rw [toSizeEdgeS_eq _ (by omega), Option.bind_some]
theorem eqSizeGraph_refl (a : SizeGraph) : eqSizeGraph a a = some true := by
  unfold eqSizeGraph
  simp only [decide_true, cond_true, Option.bind_some, beq_self_eq_true, eqSizeEdgeS_refl]
theorem szSizeGraphS_eq (a : List SizeGraph) (h : LOk SizeGraph.Ok a) (l : Int) (h0 : 0 ≤ l) (h1 : l ≤ 1048576) : szSizeGraphS a l = some (szR (ltot SizeGraph.tot a) l) := by
  unfold szSizeGraphS
  exact szL (fun x hx l h0 h1 => szSizeGraph_eq x (h.2 x hx) l h0 h1) h.1 h0 h1
theorem toSizeGraphS_eq (a : List SizeGraph) (h : ltot SizeGraph.tot a ≤ 1048576) : toSizeGraphS a = some a := by
  unfold toSizeGraphS
  have := toL (f := toSizeGraph) (g := fun x => x) (z := (SizeGraph.mk (0 : Int) (0 : Int) ([]))) (xs := a) (fun x hx => toSizeGraph_eq x (by have := tot_mem SizeGraph.tot hx; omega)) (by have := ltot_len SizeGraph.tot a; omega)
  simpa only [List.map_id'] using this
theorem eqSizeGraphS_refl (a : List SizeGraph) : eqSizeGraphS a a = some true := by
  unfold eqSizeGraphS
  exact eqL (fun x _ => eqSizeGraph_refl x)
def CyclicProof.tot (a : CyclicProof) : Nat := (ltot (fun _ => 0)) a.Arities + ((ltot SizeGraph.tot) a.Calls)
def CyclicProof.Ok (a : CyclicProof) : Prop := (LOk InR) a.Arities ∧ (LOk SizeGraph.Ok) a.Calls
theorem szCyclicProof_eq (a : CyclicProof) (h : a.Ok) (l : Int) (h0 : 0 ≤ l) (h1 : l ≤ 1048576) : szCyclicProof a l = some (szR a.tot l) := by
  unfold szCyclicProof
  show _ = some (szR _ l)
  unfold CyclicProof.tot
  rw [szIntS_eq _ h.1 _ h0 h1, Option.bind_some]
  refine szStepM h0 h1 (fun h0 h1 => ?_)
  rw [szSizeGraphS_eq _ h.2 _ h0 h1, Option.bind_some]
  exact szLast h0
theorem toCyclicProof_eq (a : CyclicProof) (h : a.tot ≤ 1048576) : toCyclicProof a = some a := by
  unfold toCyclicProof
  unfold CyclicProof.tot at h
  rw [toIntS_eq _ (by omega), Option.bind_some]
  rw [toSizeGraphS_eq _ (by omega), Option.bind_some]
theorem eqCyclicProof_refl (a : CyclicProof) : eqCyclicProof a a = some true := by
  unfold eqCyclicProof
  simp only [decide_true, cond_true, Option.bind_some, beq_self_eq_true, eqIntS_refl, eqSizeGraphS_refl]
def Arr4_Int.tot (a : Arr4_Int) : Nat := 0
def Arr4_Int.Ok (a : Arr4_Int) : Prop := InR a.f0 ∧ InR a.f1 ∧ InR a.f2 ∧ InR a.f3
def found.tot (a : found) : Nat := SizeGraph.tot a.graph + ((ltot (fun _ => 0)) a.path)
def found.Ok (a : found) : Prop := SizeGraph.Ok a.graph ∧ (LOk InR) a.path
end Go.Proofs.Ytheihimhijkekaa
