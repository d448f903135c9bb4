/- A part of the proof: lemmas only; nothing is claimed here beyond what each lemma says. -/
import Derived.Test.YtdmkceajaagpgaaGm
import Derived.Test.YtdmkceajaagpgaaAvQ
set_option linter.unusedSimpArgs false
set_option linter.unusedVariables false
set_option linter.defProp false
set_option maxRecDepth 4000
namespace Go.Proofs.Ytdmkceajaagpgaa
open Go.Av
theorem szIntS_eq (a : List Int) (h : LOk InR a) (l : Int) (h0 : 0 ≤ l) (h1 : l ≤ 1048576) : szIntS a l = some (szR (ltot (fun _ => 0) a) l) := by
  unfold szIntS
  exact szLflat h.1 h0 h1
theorem toIntS_eq (a : List Int) (h : ltot (fun _ => 0) a ≤ 1048576) : toIntS a = some a := by
  unfold toIntS
  exact toLplain (by have := ltot_len (fun _ => 0) a; omega)
theorem eqIntS_refl (a : List Int) : eqIntS a a = some true := by
  unfold eqIntS
  exact eqLplain
mutual
def Term.tot : Term → Nat
  | .mk x0 x1 => ByteArray.size x0 + (Term.tots x1)
def Term.tots : List Term → Nat
  | [] => 0
  | a :: l => 1 + a.tot + Term.tots l
end
theorem Term.tots_eq (l : List Term) : Term.tots l = ltot Term.tot l := by
  induction l with
  | nil => rfl
  | cons a l ih => simp only [Term.tots, ih, ltot, List.length_cons, List.map_cons, List.sum_cons]; omega
theorem Term.tot_mk (x0 : ByteArray) (x1 : List Term) : (Term.mk x0 x1).tot = ByteArray.size x0 + ((ltot Term.tot) x1) := by rw [Term.tot, Term.tots_eq]
inductive Term.Ok : Term → Prop
  | mk (x0 : ByteArray) (x1 : List Term) (h0 : (fun s : ByteArray => Big s.size) x0) (h1 : Big x1.length) (g1 : ∀ a ∈ x1, Term.Ok a) : Term.Ok (.mk x0 x1)
theorem Term.tot_u (a : Term) : a.tot = ByteArray.size a.Name + ((ltot Term.tot) a.Args) := by cases a; exact Term.tot_mk _ _ 
theorem Term.Ok.u {a : Term} (h : a.Ok) : (fun s : ByteArray => Big s.size) a.Name ∧ (LOk Term.Ok) a.Args := by cases h with | mk _ _ h0 h1 g1 => exact ⟨h0, ⟨h1, g1⟩⟩
def Decomposition.tot (a : Decomposition) : Nat := (ltot Term.tot) a.Patterns + ((ltot Term.tot) a.Instances)
def Decomposition.Ok (a : Decomposition) : Prop := (LOk Term.Ok) a.Patterns ∧ (LOk Term.Ok) a.Instances
def SizeEdge.tot (a : SizeEdge) : Nat := 0
def SizeEdge.Ok (a : SizeEdge) : Prop := InR a.From ∧ InR a.To ∧ (fun _ : Bool => True) a.Strict
theorem toSizeEdge_eq (a : SizeEdge) (h : a.tot ≤ 1048576) : toSizeEdge a = some a := by
  unfold toSizeEdge
  unfold SizeEdge.tot at h

  rfl
theorem eqSizeEdge_refl (a : SizeEdge) : eqSizeEdge a a = some true := by
  unfold eqSizeEdge
  simp only [decide_true, cond_true, Option.bind_some, beq_self_eq_true]
theorem szSizeEdgeS_eq (a : List SizeEdge) (h : LOk SizeEdge.Ok a) (l : Int) (h0 : 0 ≤ l) (h1 : l ≤ 1048576) : szSizeEdgeS a l = some (szR (ltot SizeEdge.tot a) l) := by
  unfold szSizeEdgeS
  exact szLflat h.1 h0 h1
theorem toSizeEdgeS_eq (a : List SizeEdge) (h : ltot SizeEdge.tot a ≤ 1048576) : toSizeEdgeS a = some a := by
  unfold toSizeEdgeS
  have := toL (f := toSizeEdge) (g := fun x => x) (z := (SizeEdge.mk (0 : Int) (0 : Int) false)) (xs := a) (fun x hx => toSizeEdge_eq x (by have := tot_mem SizeEdge.tot hx; omega)) (by have := ltot_len SizeEdge.tot a; omega)
  simpa only [List.map_id'] using this
theorem eqSizeEdgeS_refl (a : List SizeEdge) : eqSizeEdgeS a a = some true := by
  unfold eqSizeEdgeS
  exact eqL (fun x _ => eqSizeEdge_refl x)
def SizeGraph.tot (a : SizeGraph) : Nat := (ltot SizeEdge.tot) a.Edges
def SizeGraph.Ok (a : SizeGraph) : Prop := InR a.Source ∧ InR a.Target ∧ (LOk SizeEdge.Ok) a.Edges
theorem szSizeGraph_eq (a : SizeGraph) (h : a.Ok) (l : Int) (h0 : 0 ≤ l) (h1 : l ≤ 1048576) : szSizeGraph a l = some (szR a.tot l) := by
  unfold szSizeGraph
  show _ = some (szR _ l)
  unfold SizeGraph.tot
  rw [szSizeEdgeS_eq _ h.2.2 _ h0 h1, Option.bind_some]
  exact szLast h0
theorem toSizeGraph_eq (a : SizeGraph) (h : a.tot ≤ 1048576) : toSizeGraph a = some a := by
  unfold toSizeGraph
  unfold SizeGraph.tot at h
  rw [toSizeEdgeS_eq _ (by omega), Option.bind_some]
theorem eqSizeGraph_refl (a : SizeGraph) : eqSizeGraph a a = some true := by
  unfold eqSizeGraph
  simp only [decide_true, cond_true, Option.bind_some, beq_self_eq_true, eqSizeEdgeS_refl]
theorem szSizeGraphS_eq (a : List SizeGraph) (h : LOk SizeGraph.Ok a) (l : Int) (h0 : 0 ≤ l) (h1 : l ≤ 1048576) : szSizeGraphS a l = some (szR (ltot SizeGraph.tot a) l) := by
  unfold szSizeGraphS
  exact szL (fun x hx l h0 h1 => szSizeGraph_eq x (h.2 x hx) l h0 h1) h.1 h0 h1
theorem toSizeGraphS_eq (a : List SizeGraph) (h : ltot SizeGraph.tot a ≤ 1048576) : toSizeGraphS a = some a := by
  unfold toSizeGraphS
  have := toL (f := toSizeGraph) (g := fun x => x) (z := (SizeGraph.mk (0 : Int) (0 : Int) ([]))) (xs := a) (fun x hx => toSizeGraph_eq x (by have := tot_mem SizeGraph.tot hx; omega)) (by have := ltot_len SizeGraph.tot a; omega)
  simpa only [List.map_id'] using this
theorem eqSizeGraphS_refl (a : List SizeGraph) : eqSizeGraphS a a = some true := by
  unfold eqSizeGraphS
  exact eqL (fun x _ => eqSizeGraph_refl x)
def CyclicProof.tot (a : CyclicProof) : Nat := (ltot (fun _ => 0)) a.Arities + ((ltot SizeGraph.tot) a.Calls)
def CyclicProof.Ok (a : CyclicProof) : Prop := (LOk InR) a.Arities ∧ (LOk SizeGraph.Ok) a.Calls
theorem szCyclicProof_eq (a : CyclicProof) (h : a.Ok) (l : Int) (h0 : 0 ≤ l) (h1 : l ≤ 1048576) : szCyclicProof a l = some (szR a.tot l) := by
  unfold szCyclicProof
  show _ = some (szR _ l)
  unfold CyclicProof.tot
  rw [szIntS_eq _ h.1 _ h0 h1, Option.bind_some]
  refine szStepM h0 h1 (fun h0 h1 => ?_)
  rw [szSizeGraphS_eq _ h.2 _ h0 h1, Option.bind_some]
  exact szLast h0
theorem toCyclicProof_eq (a : CyclicProof) (h : a.tot ≤ 1048576) : toCyclicProof a = some a := by
  unfold toCyclicProof
  unfold CyclicProof.tot at h
  rw [toIntS_eq _ (by omega), Option.bind_some]
  rw [toSizeGraphS_eq _ (by omega), Option.bind_some]
theorem eqCyclicProof_refl (a : CyclicProof) : eqCyclicProof a a = some true := by
  unfold eqCyclicProof
  simp only [decide_true, cond_true, Option.bind_some, beq_self_eq_true, eqIntS_refl, eqSizeGraphS_refl]
def Linear.tot (a : Linear) : Nat := (ltot ByteArray.size) a.Vars + ((ltot (fun _ => 0)) a.Slopes)
def Linear.Ok (a : Linear) : Prop := (LOk (fun s : ByteArray => Big s.size)) a.Vars ∧ (LOk InR) a.Slopes ∧ InR a.Constant
mutual
def Formula.tot : Formula → Nat
  | .mk x0 x1 x2 x3 => Term.tot x1 + (ByteArray.size x2 + (Formula.tots x3))
def Formula.tots : List Formula → Nat
  | [] => 0
  | a :: l => 1 + a.tot + Formula.tots l
end
theorem Formula.tots_eq (l : List Formula) : Formula.tots l = ltot Formula.tot l := by
  induction l with
  | nil => rfl
  | cons a l ih => simp only [Formula.tots, ih, ltot, List.length_cons, List.map_cons, List.sum_cons]; omega
theorem Formula.tot_mk (x0 : Int) (x1 : Term) (x2 : ByteArray) (x3 : List Formula) : (Formula.mk x0 x1 x2 x3).tot = Term.tot x1 + (ByteArray.size x2 + ((ltot Formula.tot) x3)) := by rw [Formula.tot, Formula.tots_eq]
inductive Formula.Ok : Formula → Prop
  | mk (x0 : Int) (x1 : Term) (x2 : ByteArray) (x3 : List Formula) (h0 : InR x0) (h1 : Term.Ok x1) (h2 : (fun s : ByteArray => Big s.size) x2) (h3 : Big x3.length) (g3 : ∀ a ∈ x3, Formula.Ok a) : Formula.Ok (.mk x0 x1 x2 x3)
theorem Formula.tot_u (a : Formula) : a.tot = Term.tot a.Atom + (ByteArray.size a.Var + ((ltot Formula.tot) a.Parts)) := by cases a; exact Formula.tot_mk _ _ _ _ 
theorem Formula.Ok.u {a : Formula} (h : a.Ok) : InR a.Op ∧ Term.Ok a.Atom ∧ (fun s : ByteArray => Big s.size) a.Var ∧ (LOk Formula.Ok) a.Parts := by cases h with | mk _ _ _ _ h0 h1 h2 h3 g3 => exact ⟨h0, h1, h2, ⟨h3, g3⟩⟩
def vEnv.tot (a : vEnv) : Nat := (ltot ByteArray.size) a.names + ((ltot (fun _ => 0)) a.values)
def vEnv.Ok (a : vEnv) : Prop := (LOk (fun s : ByteArray => Big s.size)) a.names ∧ (LOk InR) a.values
def l1Cur.tot (a : l1Cur) : Nat := (ltot (fun _ => 0)) a.code
def l1Cur.Ok (a : l1Cur) : Prop := (LOk (fun _ : Int => True)) a.code ∧ InR a.at_f ∧ (fun _ : Int => True) a.seed
def found.tot (a : found) : Nat := SizeGraph.tot a.graph + ((ltot (fun _ => 0)) a.path)
def found.Ok (a : found) : Prop := SizeGraph.Ok a.graph ∧ (LOk InR) a.path
def Sequent.tot (a : Sequent) : Nat := (ltot Formula.tot) a.Left + ((ltot Formula.tot) a.Right)
def Sequent.Ok (a : Sequent) : Prop := (LOk Formula.Ok) a.Left ∧ (LOk Formula.Ok) a.Right
def Majorant.tot (a : Majorant) : Nat := ByteArray.size a.Name + ((ltot (fun _ => 0)) a.Slopes)
def Majorant.Ok (a : Majorant) : Prop := (fun s : ByteArray => Big s.size) a.Name ∧ (LOk InR) a.Slopes ∧ InR a.Constant
end Go.Proofs.Ytdmkceajaagpgaa
