/- A part of the proof: lemmas only; nothing is claimed here beyond what each lemma says. -/
import Derived.Test.YtfggcaohidajkaaGm
import Derived.Test.YtfggcaohidajkaaAvQ
set_option linter.unusedSimpArgs false
set_option linter.unusedVariables false
set_option linter.defProp false
set_option maxRecDepth 4000
namespace Go.Proofs.Ytfggcaohidajkaa
open Go.Av
mutual
def Term.tot : Term → Nat
  | .mk x0 x1 => ByteArray.size x0 + (Term.tots x1)
def Term.tots : List Term → Nat
  | [] => 0
  | a :: l => 1 + a.tot + Term.tots l
end
theorem Term.tots_eq (l : List Term) : Term.tots l = ltot Term.tot l := by
  induction l with
  | nil => rfl
  | cons a l ih => simp only [Term.tots, ih, ltot, List.length_cons, List.map_cons, List.sum_cons]; omega
theorem Term.tot_mk (x0 : ByteArray) (x1 : List Term) : (Term.mk x0 x1).tot = ByteArray.size x0 + ((ltot Term.tot) x1) := by rw [Term.tot, Term.tots_eq]
inductive Term.Ok : Term → Prop
  | mk (x0 : ByteArray) (x1 : List Term) (h0 : (fun s : ByteArray => Big s.size) x0) (h1 : Big x1.length) (g1 : ∀ a ∈ x1, Term.Ok a) : Term.Ok (.mk x0 x1)
theorem Term.tot_u (a : Term) : a.tot = ByteArray.size a.Name + ((ltot Term.tot) a.Args) := by cases a; exact Term.tot_mk _ _ 
theorem Term.Ok.u {a : Term} (h : a.Ok) : (fun s : ByteArray => Big s.size) a.Name ∧ (LOk Term.Ok) a.Args := by cases h with | mk _ _ h0 h1 g1 => exact ⟨h0, ⟨h1, g1⟩⟩
def SizeEdge.tot (a : SizeEdge) : Nat := 0
def SizeEdge.Ok (a : SizeEdge) : Prop := InR a.From ∧ InR a.To ∧ (fun _ : Bool => True) a.Strict
theorem toSizeEdge_eq (a : SizeEdge) (h : a.tot ≤ 1048576) : toSizeEdge a = some a := by
  unfold toSizeEdge
  unfold SizeEdge.tot at h

  rfl
theorem eqSizeEdge_refl (a : SizeEdge) : eqSizeEdge a a = some true := by
  unfold eqSizeEdge
  simp only [decide_true, cond_true, Option.bind_some, beq_self_eq_true]
theorem szSizeEdgeS_eq (a : List SizeEdge) (h : LOk SizeEdge.Ok a) (l : Int) (h0 : 0 ≤ l) (h1 : l ≤ 1048576) : szSizeEdgeS a l = some (szR (ltot SizeEdge.tot a) l) := by
  unfold szSizeEdgeS
  exact szLflat h.1 h0 h1
theorem toSizeEdgeS_eq (a : List SizeEdge) (h : ltot SizeEdge.tot a ≤ 1048576) : toSizeEdgeS a = some a := by
  unfold toSizeEdgeS
  have := toL (f := toSizeEdge) (g := fun x => x) (z := (SizeEdge.mk (0 : Int) (0 : Int) false)) (xs := a) (fun x hx => toSizeEdge_eq x (by have := tot_mem SizeEdge.tot hx; omega)) (by have := ltot_len SizeEdge.tot a; omega)
  simpa only [List.map_id'] using this
theorem eqSizeEdgeS_refl (a : List SizeEdge) : eqSizeEdgeS a a = some true := by
  unfold eqSizeEdgeS
  exact eqL (fun x _ => eqSizeEdge_refl x)
def SizeGraph.tot (a : SizeGraph) : Nat := (ltot SizeEdge.tot) a.Edges
def SizeGraph.Ok (a : SizeGraph) : Prop := InR a.Source ∧ InR a.Target ∧ (LOk SizeEdge.Ok) a.Edges
theorem szSizeGraph_eq (a : SizeGraph) (h : a.Ok) (l : Int) (h0 : 0 ≤ l) (h1 : l ≤ 1048576) : szSizeGraph a l = some (szR a.tot l) := by
  unfold szSizeGraph
  show _ = some (szR _ l)
  unfold SizeGraph.tot
  rw [szSizeEdgeS_eq _ h.2.2 _ h0 h1, Option.bind_some]
  exact szLast h0
theorem toSizeGraph_eq (a : SizeGraph) (h : a.tot ≤ 1048576) : toSizeGraph a = some a := by
  unfold toSizeGraph
  unfold SizeGraph.tot at h
  rw [toSizeEdgeS_eq _ (by omega), Option.bind_some]
theorem eqSizeGraph_refl (a : SizeGraph) : eqSizeGraph a a = some true := by
  unfold eqSizeGraph
  simp only [decide_true, cond_true, Option.bind_some, beq_self_eq_true, eqSizeEdgeS_refl]
def Linear.tot (a : Linear) : Nat := (ltot ByteArray.size) a.Vars + ((ltot (fun _ => 0)) a.Slopes)
def Linear.Ok (a : Linear) : Prop := (LOk (fun s : ByteArray => Big s.size)) a.Vars ∧ (LOk InR) a.Slopes ∧ InR a.Constant
def CyclicProof.tot (a : CyclicProof) : Nat := (ltot (fun _ => 0)) a.Arities + ((ltot SizeGraph.tot) a.Calls)
def CyclicProof.Ok (a : CyclicProof) : Prop := (LOk InR) a.Arities ∧ (LOk SizeGraph.Ok) a.Calls
def Majorant.tot (a : Majorant) : Nat := ByteArray.size a.Name + ((ltot (fun _ => 0)) a.Slopes)
def Majorant.Ok (a : Majorant) : Prop := (fun s : ByteArray => Big s.size) a.Name ∧ (LOk InR) a.Slopes ∧ InR a.Constant
end Go.Proofs.Ytfggcaohidajkaa
