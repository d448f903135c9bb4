/- A part of the proof: lemmas only; nothing is claimed here beyond what each lemma says. -/
import Derived.Test.YtfggcaohidajkaaGm
import Derived.Test.YtfggcaohidajkaaAvQ
set_option linter.unusedSimpArgs false
set_option linter.unusedVariables false
set_option linter.defProp false
set_option maxRecDepth 4000
namespace Go.Proofs.Ytfggcaohidajkaa
open Go.Av
mutual
def Term.tot : Term → Nat
  | .mk x0 x1 => ByteArray.size x0 + (Term.tots x1)
def Term.tots : List Term → Nat
  | [] => 0
  | a :: l => 1 + a.tot + Term.tots l
end
theorem Term.tots_eq (l : List Term) : Term.tots l = ltot Term.tot l := by
  induction l with
  | nil => rfl
  | cons a l ih => simp only [Term.tots, ih, ltot, List.length_cons, List.map_cons, List.sum_cons]; omega
theorem Term.tot_mk (x0 : ByteArray) (x1 : List Term) : (Term.mk x0 x1).tot = ByteArray.size x0 + ((ltot Term.tot) x1) := by rw [Term.tot, Term.tots_eq]
inductive Term.Ok : Term → Prop
  | mk (x0 : ByteArray) (x1 : List Term) (h0 : (fun s : ByteArray => Big s.size) x0) (h1 : Big x1.length) (g1 : ∀ a ∈ x1, Term.Ok a) : Term.Ok (.mk x0 x1)
theorem Term.tot_u (a : Term) : a.tot = ByteArray.size a.Name + ((ltot Term.tot) a.Args) := by cases a; exact Term.tot_mk _ _ 
theorem Term.Ok.u {a : Term} (h : a.Ok) : (fun s : ByteArray => Big s.size) a.Name ∧ (LOk Term.Ok) a.Args := by cases h with | mk _ _ h0 h1 g1 => exact ⟨h0, ⟨h1, g1⟩⟩
theorem eqTermN_refl (a : Term) : ∀ n, 2 * SizeOf.sizeOf a ≤ n → eqTermN n a a = some true := by
  refine Term.ind (M := fun a => ∀ n, 2 * SizeOf.sizeOf a ≤ n → eqTermN n a a = some true) (fun x0 x1 ih n hn => ?_) a
  cases n with
  | zero => simp only [Term.mk.sizeOf_spec] at hn; omega
  | succ n =>
    have hl : eqTermSN n x1 x1 = some true := by
      cases n with
      | zero => simp only [Term.mk.sizeOf_spec] at hn; omega
      | succ n =>
        rw [eqTermSN]
        exact eqL (fun x hx => ih x hx n (by have := List.sizeOf_lt_of_mem hx; simp only [Term.mk.sizeOf_spec] at hn; omega))
    rw [eqTermN]
    simp only [Term.Name_mk, Term.Args_mk, hl, decide_true, cond_true, Option.bind_some, beq_self_eq_true]
theorem eqTerm_refl (a : Term) : eqTerm a a = some true := lim_eq ⟨_, fun n hn => eqTermN_refl a n hn⟩
theorem eqTermS_refl (a : List Term) : eqTermS a a = some true := by
  refine lim_eq ⟨2 * SizeOf.sizeOf a + 1, fun n hn => ?_⟩
  cases n with
  | zero => omega
  | succ n =>
    show eqTermSN (n + 1) a a = _
    rw [eqTermSN]
    exact eqL (fun x hx => eqTermN_refl x n (by have := List.sizeOf_lt_of_mem hx; omega))
def SizeEdge.tot (a : SizeEdge) : Nat := 0
def SizeEdge.Ok (a : SizeEdge) : Prop := InR a.From ∧ InR a.To ∧ (fun _ : Bool => True) a.Strict
def SizeGraph.tot (a : SizeGraph) : Nat := (ltot SizeEdge.tot) a.Edges
def SizeGraph.Ok (a : SizeGraph) : Prop := InR a.Source ∧ InR a.Target ∧ (LOk SizeEdge.Ok) a.Edges
def Linear.tot (a : Linear) : Nat := (ltot ByteArray.size) a.Vars + ((ltot (fun _ => 0)) a.Slopes)
def Linear.Ok (a : Linear) : Prop := (LOk (fun s : ByteArray => Big s.size)) a.Vars ∧ (LOk InR) a.Slopes ∧ InR a.Constant
def CyclicProof.tot (a : CyclicProof) : Nat := (ltot (fun _ => 0)) a.Arities + ((ltot SizeGraph.tot) a.Calls)
def CyclicProof.Ok (a : CyclicProof) : Prop := (LOk InR) a.Arities ∧ (LOk SizeGraph.Ok) a.Calls
def Majorant.tot (a : Majorant) : Nat := ByteArray.size a.Name + ((ltot (fun _ => 0)) a.Slopes)
def Majorant.Ok (a : Majorant) : Prop := (fun s : ByteArray => Big s.size) a.Name ∧ (LOk InR) a.Slopes ∧ InR a.Constant
end Go.Proofs.Ytfggcaohidajkaa
