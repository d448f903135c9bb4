/- A part of the proof: lemmas only; nothing is claimed here beyond what each lemma says. -/
import Derived.Test.YtgkgihdafalimaaGreatGm
import Derived.Test.YtgkgihdafalimaaGreatAvQ
set_option linter.unusedSimpArgs false
set_option linter.unusedVariables false
set_option linter.defProp false
set_option maxRecDepth 4000
namespace Go.Proofs.YtgkgihdafalimaaGreat
open Go.Av
mutual
def Term.tot : Term → Nat
  | .mk x0 x1 => ByteArray.size x0 + (Term.tots x1)
def Term.tots : List Term → Nat
  | [] => 0
  | a :: l => 1 + a.tot + Term.tots l
end
theorem Term.tots_eq (l : List Term) : Term.tots l = ltot Term.tot l := by
  induction l with
  | nil => rfl
  | cons a l ih => simp only [Term.tots, ih, ltot, List.length_cons, List.map_cons, List.sum_cons]; omega
theorem Term.tot_mk (x0 : ByteArray) (x1 : List Term) : (Term.mk x0 x1).tot = ByteArray.size x0 + ((ltot Term.tot) x1) := by rw [Term.tot, Term.tots_eq]
inductive Term.Ok : Term → Prop
  | mk (x0 : ByteArray) (x1 : List Term) (h0 : (fun s : ByteArray => Big s.size) x0) (h1 : Big x1.length) (g1 : ∀ a ∈ x1, Term.Ok a) : Term.Ok (.mk x0 x1)
theorem Term.tot_u (a : Term) : a.tot = ByteArray.size a.Name + ((ltot Term.tot) a.Args) := by cases a; exact Term.tot_mk _ _ 
theorem Term.Ok.u {a : Term} (h : a.Ok) : (fun s : ByteArray => Big s.size) a.Name ∧ (LOk Term.Ok) a.Args := by cases h with | mk _ _ h0 h1 g1 => exact ⟨h0, ⟨h1, g1⟩⟩
theorem szTermN_eq (a : Term) : a.Ok → ∀ n, 2 * SizeOf.sizeOf a ≤ n → ∀ l : Int, 0 ≤ l → l ≤ 1048576 → szTermN n a l = some (szR a.tot l) := by
  refine Term.ind (M := fun a => a.Ok → ∀ n, 2 * SizeOf.sizeOf a ≤ n → ∀ l : Int, 0 ≤ l → l ≤ 1048576 → szTermN n a l = some (szR a.tot l)) (fun x0 x1 ih hok n hn l h0 h1 => ?_) a
  cases hok with
  | mk _ _ k0 k1 g1 =>
  cases n with
  | zero => simp only [Term.mk.sizeOf_spec] at hn; omega
  | succ n =>
    rw [szTermN, Term.tot_mk]
    show _ = some (szR _ l)
    simp only [Term.Name_mk, Term.Args_mk]
    refine szStrStepM h0 h1 k0 (fun h0 h1 => ?_)
    rw [(show szTermSN n x1 _ = some (szR (ltot Term.tot x1) _) from by
      cases n with
      | zero => simp only [Term.mk.sizeOf_spec] at hn; omega
      | succ n =>
        rw [szTermSN]
        exact szL (fun x hx l h0 h1 => ih x hx (g1 x hx) n (by have := List.sizeOf_lt_of_mem hx; simp only [Term.mk.sizeOf_spec] at hn; omega) l h0 h1) k1 h0 h1), Option.bind_some]
    exact szLast h0
theorem szTerm_eq (a : Term) (h : a.Ok) (l : Int) (h0 : 0 ≤ l) (h1 : l ≤ 1048576) : szTerm a l = some (szR a.tot l) := lim_eq ⟨_, fun n hn => szTermN_eq a h n hn l h0 h1⟩
theorem toTermN_eq (a : Term) : a.tot ≤ 1048576 → ∀ n, 2 * SizeOf.sizeOf a ≤ n → toTermN n a = some a := by
  refine Term.ind (M := fun a => a.tot ≤ 1048576 → ∀ n, 2 * SizeOf.sizeOf a ≤ n → toTermN n a = some a) (fun x0 x1 ih h n hn => ?_) a
  rw [Term.tot_mk] at h
  cases n with
  | zero => simp only [Term.mk.sizeOf_spec] at hn; omega
  | succ n =>
    rw [toTermN]
    simp only [Term.Name_mk, Term.Args_mk]
    rw [(show toTermSN n x1 = some x1 from by
      cases n with
      | zero => simp only [Term.mk.sizeOf_spec] at hn; omega
      | succ n =>
        rw [toTermSN]
        have := toL (f := toTermN n) (g := fun x => x) (z := (Term.mk (⟨#[]⟩ : ByteArray) ([]))) (xs := x1) (fun x hx => ih x hx (by have := tot_mem Term.tot hx; omega) n (by have := List.sizeOf_lt_of_mem hx; simp only [Term.mk.sizeOf_spec] at hn; omega)) (by have := ltot_len Term.tot x1; omega)
        simpa only [List.map_id'] using this), Option.bind_some]
theorem toTerm_eq (a : Term) (h : a.tot ≤ 1048576) : toTerm a = some a := lim_eq ⟨_, fun n hn => toTermN_eq a h n hn⟩
theorem eqTermN_refl (a : Term) : ∀ n, 2 * SizeOf.sizeOf a ≤ n → eqTermN n a a = some true := by
  refine Term.ind (M := fun a => ∀ n, 2 * SizeOf.sizeOf a ≤ n → eqTermN n a a = some true) (fun x0 x1 ih n hn => ?_) a
  cases n with
  | zero => simp only [Term.mk.sizeOf_spec] at hn; omega
  | succ n =>
    have hl : eqTermSN n x1 x1 = some true := by
      cases n with
      | zero => simp only [Term.mk.sizeOf_spec] at hn; omega
      | succ n =>
        rw [eqTermSN]
        exact eqL (fun x hx => ih x hx n (by have := List.sizeOf_lt_of_mem hx; simp only [Term.mk.sizeOf_spec] at hn; omega))
    rw [eqTermN]
    simp only [Term.Name_mk, Term.Args_mk, hl, decide_true, cond_true, Option.bind_some, beq_self_eq_true]
theorem eqTerm_refl (a : Term) : eqTerm a a = some true := lim_eq ⟨_, fun n hn => eqTermN_refl a n hn⟩
mutual
def Formula.tot : Formula → Nat
  | .mk x0 x1 x2 x3 => Term.tot x1 + (ByteArray.size x2 + (Formula.tots x3))
def Formula.tots : List Formula → Nat
  | [] => 0
  | a :: l => 1 + a.tot + Formula.tots l
end
theorem Formula.tots_eq (l : List Formula) : Formula.tots l = ltot Formula.tot l := by
  induction l with
  | nil => rfl
  | cons a l ih => simp only [Formula.tots, ih, ltot, List.length_cons, List.map_cons, List.sum_cons]; omega
theorem Formula.tot_mk (x0 : Int) (x1 : Term) (x2 : ByteArray) (x3 : List Formula) : (Formula.mk x0 x1 x2 x3).tot = Term.tot x1 + (ByteArray.size x2 + ((ltot Formula.tot) x3)) := by rw [Formula.tot, Formula.tots_eq]
inductive Formula.Ok : Formula → Prop
  | mk (x0 : Int) (x1 : Term) (x2 : ByteArray) (x3 : List Formula) (h0 : InR x0) (h1 : Term.Ok x1) (h2 : (fun s : ByteArray => Big s.size) x2) (h3 : Big x3.length) (g3 : ∀ a ∈ x3, Formula.Ok a) : Formula.Ok (.mk x0 x1 x2 x3)
theorem Formula.tot_u (a : Formula) : a.tot = Term.tot a.Atom + (ByteArray.size a.Var + ((ltot Formula.tot) a.Parts)) := by cases a; exact Formula.tot_mk _ _ _ _ 
theorem Formula.Ok.u {a : Formula} (h : a.Ok) : InR a.Op ∧ Term.Ok a.Atom ∧ (fun s : ByteArray => Big s.size) a.Var ∧ (LOk Formula.Ok) a.Parts := by cases h with | mk _ _ _ _ h0 h1 h2 h3 g3 => exact ⟨h0, h1, h2, ⟨h3, g3⟩⟩
theorem szFormulaN_eq (a : Formula) : a.Ok → ∀ n, 2 * SizeOf.sizeOf a ≤ n → ∀ l : Int, 0 ≤ l → l ≤ 1048576 → szFormulaN n a l = some (szR a.tot l) := by
  refine Formula.ind (M := fun a => a.Ok → ∀ n, 2 * SizeOf.sizeOf a ≤ n → ∀ l : Int, 0 ≤ l → l ≤ 1048576 → szFormulaN n a l = some (szR a.tot l)) (fun x0 x1 x2 x3 ih hok n hn l h0 h1 => ?_) a
  cases hok with
  | mk _ _ _ _ k0 k1 k2 k3 g3 =>
  cases n with
  | zero => simp only [Formula.mk.sizeOf_spec] at hn; omega
  | succ n =>
    rw [szFormulaN, Formula.tot_mk]
    show _ = some (szR _ l)
    simp only [Formula.Op_mk, Formula.Atom_mk, Formula.Var_mk, Formula.Parts_mk]
    rw [szTerm_eq _ k1 _ h0 h1, Option.bind_some]
    refine szStepM h0 h1 (fun h0 h1 => ?_)
    refine szStrStepM h0 h1 k2 (fun h0 h1 => ?_)
    rw [(show szFormulaSN n x3 _ = some (szR (ltot Formula.tot x3) _) from by
      cases n with
      | zero => simp only [Formula.mk.sizeOf_spec] at hn; omega
      | succ n =>
        rw [szFormulaSN]
        exact szL (fun x hx l h0 h1 => ih x hx (g3 x hx) n (by have := List.sizeOf_lt_of_mem hx; simp only [Formula.mk.sizeOf_spec] at hn; omega) l h0 h1) k3 h0 h1), Option.bind_some]
    exact szLast h0
theorem szFormula_eq (a : Formula) (h : a.Ok) (l : Int) (h0 : 0 ≤ l) (h1 : l ≤ 1048576) : szFormula a l = some (szR a.tot l) := lim_eq ⟨_, fun n hn => szFormulaN_eq a h n hn l h0 h1⟩
theorem toFormulaN_eq (a : Formula) : a.tot ≤ 1048576 → ∀ n, 2 * SizeOf.sizeOf a ≤ n → toFormulaN n a = some a := by
  refine Formula.ind (M := fun a => a.tot ≤ 1048576 → ∀ n, 2 * SizeOf.sizeOf a ≤ n → toFormulaN n a = some a) (fun x0 x1 x2 x3 ih h n hn => ?_) a
  rw [Formula.tot_mk] at h
  cases n with
  | zero => simp only [Formula.mk.sizeOf_spec] at hn; omega
  | succ n =>
    rw [toFormulaN]
    simp only [Formula.Op_mk, Formula.Atom_mk, Formula.Var_mk, Formula.Parts_mk]
    rw [toTerm_eq _ (by omega), Option.bind_some]
    rw [(show toFormulaSN n x3 = some x3 from by
      cases n with
      | zero => simp only [Formula.mk.sizeOf_spec] at hn; omega
      | succ n =>
        rw [toFormulaSN]
        have := toL (f := toFormulaN n) (g := fun x => x) (z := (Formula.mk (0 : Int) (Term.mk (⟨#[]⟩ : ByteArray) ([])) (⟨#[]⟩ : ByteArray) ([]))) (xs := x3) (fun x hx => ih x hx (by have := tot_mem Formula.tot hx; omega) n (by have := List.sizeOf_lt_of_mem hx; simp only [Formula.mk.sizeOf_spec] at hn; omega)) (by have := ltot_len Formula.tot x3; omega)
        simpa only [List.map_id'] using this), Option.bind_some]
theorem toFormula_eq (a : Formula) (h : a.tot ≤ 1048576) : toFormula a = some a := lim_eq ⟨_, fun n hn => toFormulaN_eq a h n hn⟩
theorem eqFormulaN_refl (a : Formula) : ∀ n, 2 * SizeOf.sizeOf a ≤ n → eqFormulaN n a a = some true := by
  refine Formula.ind (M := fun a => ∀ n, 2 * SizeOf.sizeOf a ≤ n → eqFormulaN n a a = some true) (fun x0 x1 x2 x3 ih n hn => ?_) a
  cases n with
  | zero => simp only [Formula.mk.sizeOf_spec] at hn; omega
  | succ n =>
    have hl : eqFormulaSN n x3 x3 = some true := by
      cases n with
      | zero => simp only [Formula.mk.sizeOf_spec] at hn; omega
      | succ n =>
        rw [eqFormulaSN]
        exact eqL (fun x hx => ih x hx n (by have := List.sizeOf_lt_of_mem hx; simp only [Formula.mk.sizeOf_spec] at hn; omega))
    rw [eqFormulaN]
    simp only [Formula.Op_mk, Formula.Atom_mk, Formula.Var_mk, Formula.Parts_mk, hl, decide_true, cond_true, Option.bind_some, beq_self_eq_true, eqTerm_refl]
theorem eqFormula_refl (a : Formula) : eqFormula a a = some true := lim_eq ⟨_, fun n hn => eqFormulaN_refl a n hn⟩
def Decomposition.tot (a : Decomposition) : Nat := (ltot Term.tot) a.Patterns + ((ltot Term.tot) a.Instances)
def Decomposition.Ok (a : Decomposition) : Prop := (LOk Term.Ok) a.Patterns ∧ (LOk Term.Ok) a.Instances
def Binding.tot (a : Binding) : Nat := ByteArray.size a.Var + (Term.tot a.Term)
def Binding.Ok (a : Binding) : Prop := (fun s : ByteArray => Big s.size) a.Var ∧ Term.Ok a.Term
def Substitution.tot (a : Substitution) : Nat := (ltot Binding.tot) a.Bindings
def Substitution.Ok (a : Substitution) : Prop := (LOk Binding.Ok) a.Bindings
end Go.Proofs.YtgkgihdafalimaaGreat
