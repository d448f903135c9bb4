/- A part of the proof: lemmas only; nothing is claimed here beyond what each lemma says. -/
import Derived.Test.YtgkgihdafalimaaGreatAvF5
set_option linter.unusedSimpArgs false
set_option linter.unusedVariables false
set_option linter.defProp false
set_option maxRecDepth 4000
namespace Go.Proofs.YtgkgihdafalimaaGreat
open Go.Av
inductive Term where
  | mk (Name_ : ByteArray) (Args_ : List Term)
instance : Inhabited Term := ⟨.mk (⟨#[]⟩ : ByteArray) ([])⟩
def Term.Name : Term → ByteArray
  | .mk a _ => a
def Term.Args : Term → List Term
  | .mk _ a => a
mutual
def Term.pv (o : Bool) : Term → PV
  | .mk x0 x1 => .agg [Sx x0, .sl o 2 (Term.pvs o x1)]
def Term.pvs (o : Bool) : List Term → List PV
  | [] => []
  | a :: l => a.pv o :: Term.pvs o l
end
theorem Term.pvs_eq (o : Bool) (l : List Term) : Term.pvs o l = l.map (Term.pv o) := by
  induction l with
  | nil => rfl
  | cons a l ih => rw [Term.pvs, ih]; rfl
theorem Term.ind {M : Term → Prop} (h : ∀ x0 x1, (∀ a ∈ x1, M a) → M (.mk x0 x1)) (t : Term) : M t :=
  Term.rec (motive_1 := M) (motive_2 := fun l => ∀ a ∈ l, M a) (fun x0 x1 ih => h x0 x1 ih) (by simp) (fun a l h1 h2 => by simpa using ⟨h1, h2⟩) t
theorem Term.pv_u (o : Bool) (x : Term) : x.pv o = .agg [Sx x.Name, .sl o 2 (x.Args.map (Term.pv o))] := by cases x; rw [Term.pv, Term.pvs_eq]; rfl
theorem Term.ind' {M : Term → Prop} (h : ∀ t : Term, (∀ a ∈ t.Args, M a) → M t) (t : Term) : M t :=
  Term.ind (M := M) (fun x0 x1 ih => h (.mk x0 x1) ih) t
theorem Term.lt {t a : Term} (h : a ∈ t.Args) : SizeOf.sizeOf a < SizeOf.sizeOf t := by
  cases t
  have := List.sizeOf_lt_of_mem h
  simp only [Term.Args] at this
  simp only [Term.mk.sizeOf_spec]; omega
theorem Term.pos (t : Term) : 0 < SizeOf.sizeOf t := by cases t; simp only [Term.mk.sizeOf_spec]; omega
theorem Term.Name_mk (x0 : ByteArray) (x1 : List Term) : (Term.mk x0 x1).Name = x0 := rfl
theorem Term.Args_mk (x0 : ByteArray) (x1 : List Term) : (Term.mk x0 x1).Args = x1 := rfl
theorem Term.eta (x : Term) : Term.mk x.Name x.Args = x := by cases x; rfl
theorem Term.views' (o : Bool) (l : List Term) (h : ∀ a ∈ l, (a.pv o).view = a.pv false) : PV.views (l.map (Term.pv o)) = l.map (Term.pv false) := by
  induction l with
  | nil => rfl
  | cons a l ih => simp only [List.map_cons, PV.views, h a (by simp), ih (fun b hb => h b (by simp [hb]))]
theorem Term.view (o : Bool) (x : Term) : (x.pv o).view = x.pv false :=
  Term.ind (M := fun x => (x.pv o).view = x.pv false) (fun x0 x1 ih => by simp only [Term.pv_u, Term.Name_mk, Term.Args_mk, view_agg, PV.views, view_sl, view_lit, I, B, Sx, Ik, Term.views' o x1 ih]) x
theorem Term.noViews' (l : List Term) (h : ∀ a ∈ l, (a.pv true).noView = true) : PV.noViews (l.map (Term.pv true)) = true := by
  induction l with
  | nil => rfl
  | cons a l ih => simp only [List.map_cons, PV.noViews, h a (by simp), ih (fun b hb => h b (by simp [hb])), Bool.and_true]
theorem Term.noView (x : Term) : (x.pv true).noView = true :=
  Term.ind (M := fun x => (x.pv true).noView = true) (fun x0 x1 ih => by simp only [Term.pv_u, Term.Name_mk, Term.Args_mk, PV.noView, PV.noViews, I, B, Sx, Ik, Term.noViews' x1 ih, Bool.and_true, Bool.true_and, Bool.and_self]) x
theorem Term.views (o : Bool) (l : List Term) : PV.views (l.map (Term.pv o)) = l.map (Term.pv false) := views_map _ _ (fun a => Term.view o a) l
theorem Term.noViews (l : List Term) : PV.noViews (l.map (Term.pv true)) = true := noViews_map _ (fun a => Term.noView a) l
theorem Term.psize (o : Bool) (x : Term) : (x.pv o).size = 2 := by simp only [Term.pv_u, PV.size, PV.sizes, I, B, Sx, Ik]
theorem Term.isAgg (o : Bool) (x : Term) : (CV.pv (x.pv o)).isAgg = true := by rw [Term.pv_u]; rfl
inductive Formula where
  | mk (Op_ : Int) (Atom_ : Term) (Var_ : ByteArray) (Parts_ : List Formula)
instance : Inhabited Formula := ⟨.mk (0 : Int) (Term.mk (⟨#[]⟩ : ByteArray) ([])) (⟨#[]⟩ : ByteArray) ([])⟩
def Formula.Op : Formula → Int
  | .mk a _ _ _ => a
def Formula.Atom : Formula → Term
  | .mk _ a _ _ => a
def Formula.Var : Formula → ByteArray
  | .mk _ _ a _ => a
def Formula.Parts : Formula → List Formula
  | .mk _ _ _ a => a
mutual
def Formula.pv (o : Bool) : Formula → PV
  | .mk x0 x1 x2 x3 => .agg [I x0, x1.pv o, Sx x2, .sl o 5 (Formula.pvs o x3)]
def Formula.pvs (o : Bool) : List Formula → List PV
  | [] => []
  | a :: l => a.pv o :: Formula.pvs o l
end
theorem Formula.pvs_eq (o : Bool) (l : List Formula) : Formula.pvs o l = l.map (Formula.pv o) := by
  induction l with
  | nil => rfl
  | cons a l ih => rw [Formula.pvs, ih]; rfl
theorem Formula.ind {M : Formula → Prop} (h : ∀ x0 x1 x2 x3, (∀ a ∈ x3, M a) → M (.mk x0 x1 x2 x3)) (t : Formula) : M t :=
  Formula.rec (motive_1 := M) (motive_2 := fun l => ∀ a ∈ l, M a) (fun x0 x1 x2 x3 ih => h x0 x1 x2 x3 ih) (by simp) (fun a l h1 h2 => by simpa using ⟨h1, h2⟩) t
theorem Formula.pv_u (o : Bool) (x : Formula) : x.pv o = .agg [I x.Op, x.Atom.pv o, Sx x.Var, .sl o 5 (x.Parts.map (Formula.pv o))] := by cases x; rw [Formula.pv, Formula.pvs_eq]; rfl
theorem Formula.ind' {M : Formula → Prop} (h : ∀ t : Formula, (∀ a ∈ t.Parts, M a) → M t) (t : Formula) : M t :=
  Formula.ind (M := M) (fun x0 x1 x2 x3 ih => h (.mk x0 x1 x2 x3) ih) t
theorem Formula.lt {t a : Formula} (h : a ∈ t.Parts) : SizeOf.sizeOf a < SizeOf.sizeOf t := by
  cases t
  have := List.sizeOf_lt_of_mem h
  simp only [Formula.Parts] at this
  simp only [Formula.mk.sizeOf_spec]; omega
theorem Formula.pos (t : Formula) : 0 < SizeOf.sizeOf t := by cases t; simp only [Formula.mk.sizeOf_spec]; omega
theorem Formula.Op_mk (x0 : Int) (x1 : Term) (x2 : ByteArray) (x3 : List Formula) : (Formula.mk x0 x1 x2 x3).Op = x0 := rfl
theorem Formula.Atom_mk (x0 : Int) (x1 : Term) (x2 : ByteArray) (x3 : List Formula) : (Formula.mk x0 x1 x2 x3).Atom = x1 := rfl
theorem Formula.Var_mk (x0 : Int) (x1 : Term) (x2 : ByteArray) (x3 : List Formula) : (Formula.mk x0 x1 x2 x3).Var = x2 := rfl
theorem Formula.Parts_mk (x0 : Int) (x1 : Term) (x2 : ByteArray) (x3 : List Formula) : (Formula.mk x0 x1 x2 x3).Parts = x3 := rfl
theorem Formula.eta (x : Formula) : Formula.mk x.Op x.Atom x.Var x.Parts = x := by cases x; rfl
theorem Formula.views' (o : Bool) (l : List Formula) (h : ∀ a ∈ l, (a.pv o).view = a.pv false) : PV.views (l.map (Formula.pv o)) = l.map (Formula.pv false) := by
  induction l with
  | nil => rfl
  | cons a l ih => simp only [List.map_cons, PV.views, h a (by simp), ih (fun b hb => h b (by simp [hb]))]
theorem Formula.view (o : Bool) (x : Formula) : (x.pv o).view = x.pv false :=
  Formula.ind (M := fun x => (x.pv o).view = x.pv false) (fun x0 x1 x2 x3 ih => by simp only [Formula.pv_u, Formula.Op_mk, Formula.Atom_mk, Formula.Var_mk, Formula.Parts_mk, view_agg, PV.views, view_sl, view_lit, I, B, Sx, Ik, Formula.views' o x3 ih, Term.view]) x
theorem Formula.noViews' (l : List Formula) (h : ∀ a ∈ l, (a.pv true).noView = true) : PV.noViews (l.map (Formula.pv true)) = true := by
  induction l with
  | nil => rfl
  | cons a l ih => simp only [List.map_cons, PV.noViews, h a (by simp), ih (fun b hb => h b (by simp [hb])), Bool.and_true]
theorem Formula.noView (x : Formula) : (x.pv true).noView = true :=
  Formula.ind (M := fun x => (x.pv true).noView = true) (fun x0 x1 x2 x3 ih => by simp only [Formula.pv_u, Formula.Op_mk, Formula.Atom_mk, Formula.Var_mk, Formula.Parts_mk, PV.noView, PV.noViews, I, B, Sx, Ik, Formula.noViews' x3 ih, Bool.and_true, Bool.true_and, Bool.and_self, Term.noView]) x
theorem Formula.views (o : Bool) (l : List Formula) : PV.views (l.map (Formula.pv o)) = l.map (Formula.pv false) := views_map _ _ (fun a => Formula.view o a) l
theorem Formula.noViews (l : List Formula) : PV.noViews (l.map (Formula.pv true)) = true := noViews_map _ (fun a => Formula.noView a) l
theorem Formula.psize (o : Bool) (x : Formula) : (x.pv o).size = 5 := by simp only [Formula.pv_u, PV.size, PV.sizes, I, B, Sx, Ik, Term.psize]
theorem Formula.isAgg (o : Bool) (x : Formula) : (CV.pv (x.pv o)).isAgg = true := by rw [Formula.pv_u]; rfl
structure Decomposition where
  Patterns : List Term
  Instances : List Term
instance : Inhabited Decomposition := ⟨(Decomposition.mk ([]) ([]))⟩
def Decomposition.pv (o : Bool) (x : Decomposition) : PV := .agg [.sl o 2 (x.Patterns.map (Term.pv o)), .sl o 2 (x.Instances.map (Term.pv o))]
theorem Decomposition.pv_u (o : Bool) (x : Decomposition) : x.pv o = .agg [.sl o 2 (x.Patterns.map (Term.pv o)), .sl o 2 (x.Instances.map (Term.pv o))] := rfl
theorem Decomposition.view (o : Bool) (x : Decomposition) : (x.pv o).view = x.pv false := by simp only [Decomposition.pv_u, view_agg, PV.views, view_sl, view_lit, I, B, Sx, Ik, Term.views]
theorem Decomposition.noView (x : Decomposition) : (x.pv true).noView = true := by simp only [Decomposition.pv_u, PV.noView, PV.noViews, I, B, Sx, Ik, Bool.and_true, Bool.true_and, Bool.and_self, Term.noViews]
theorem Decomposition.views (o : Bool) (l : List Decomposition) : PV.views (l.map (Decomposition.pv o)) = l.map (Decomposition.pv false) := views_map _ _ (fun a => Decomposition.view o a) l
theorem Decomposition.noViews (l : List Decomposition) : PV.noViews (l.map (Decomposition.pv true)) = true := noViews_map _ (fun a => Decomposition.noView a) l
theorem Decomposition.psize (o : Bool) (x : Decomposition) : (x.pv o).size = 2 := by simp only [Decomposition.pv_u, PV.size, PV.sizes, I, B, Sx, Ik]
theorem Decomposition.isAgg (o : Bool) (x : Decomposition) : (CV.pv (x.pv o)).isAgg = true := by rw [Decomposition.pv_u]; rfl
structure Binding where
  Var : ByteArray
  Term : Term
instance : Inhabited Binding := ⟨(Binding.mk (⟨#[]⟩ : ByteArray) (Term.mk (⟨#[]⟩ : ByteArray) ([])))⟩
def Binding.pv (o : Bool) (x : Binding) : PV := .agg [Sx x.Var, x.Term.pv o]
theorem Binding.pv_u (o : Bool) (x : Binding) : x.pv o = .agg [Sx x.Var, x.Term.pv o] := rfl
theorem Binding.view (o : Bool) (x : Binding) : (x.pv o).view = x.pv false := by simp only [Binding.pv_u, view_agg, PV.views, view_sl, view_lit, I, B, Sx, Ik, Term.view]
theorem Binding.noView (x : Binding) : (x.pv true).noView = true := by simp only [Binding.pv_u, PV.noView, PV.noViews, I, B, Sx, Ik, Bool.and_true, Bool.true_and, Bool.and_self, Term.noView]
theorem Binding.views (o : Bool) (l : List Binding) : PV.views (l.map (Binding.pv o)) = l.map (Binding.pv false) := views_map _ _ (fun a => Binding.view o a) l
theorem Binding.noViews (l : List Binding) : PV.noViews (l.map (Binding.pv true)) = true := noViews_map _ (fun a => Binding.noView a) l
theorem Binding.psize (o : Bool) (x : Binding) : (x.pv o).size = 3 := by simp only [Binding.pv_u, PV.size, PV.sizes, I, B, Sx, Ik, Term.psize]
theorem Binding.isAgg (o : Bool) (x : Binding) : (CV.pv (x.pv o)).isAgg = true := by rw [Binding.pv_u]; rfl
structure Substitution where
  Bindings : List Binding
instance : Inhabited Substitution := ⟨(Substitution.mk ([]))⟩
def Substitution.pv (o : Bool) (x : Substitution) : PV := .agg [.sl o 3 (x.Bindings.map (Binding.pv o))]
theorem Substitution.pv_u (o : Bool) (x : Substitution) : x.pv o = .agg [.sl o 3 (x.Bindings.map (Binding.pv o))] := rfl
theorem Substitution.view (o : Bool) (x : Substitution) : (x.pv o).view = x.pv false := by simp only [Substitution.pv_u, view_agg, PV.views, view_sl, view_lit, I, B, Sx, Ik, Binding.views]
theorem Substitution.noView (x : Substitution) : (x.pv true).noView = true := by simp only [Substitution.pv_u, PV.noView, PV.noViews, I, B, Sx, Ik, Bool.and_true, Bool.true_and, Bool.and_self, Binding.noViews]
theorem Substitution.views (o : Bool) (l : List Substitution) : PV.views (l.map (Substitution.pv o)) = l.map (Substitution.pv false) := views_map _ _ (fun a => Substitution.view o a) l
theorem Substitution.noViews (l : List Substitution) : PV.noViews (l.map (Substitution.pv true)) = true := noViews_map _ (fun a => Substitution.noView a) l
theorem Substitution.psize (o : Bool) (x : Substitution) : (x.pv o).size = 1 := by simp only [Substitution.pv_u, PV.size, PV.sizes, I, B, Sx, Ik]
theorem Substitution.isAgg (o : Bool) (x : Substitution) : (CV.pv (x.pv o)).isAgg = true := by rw [Substitution.pv_u]; rfl
def RS := And.intro @Term.pv_u <| And.intro @Term.views <| And.intro @Term.noViews <| And.intro @Term.Name_mk <| And.intro @Term.Args_mk <| And.intro @Formula.pv_u <| And.intro @Formula.views <| And.intro @Formula.noViews <| And.intro @Formula.Op_mk <| And.intro @Formula.Atom_mk <| And.intro @Formula.Var_mk <| And.intro @Formula.Parts_mk <| And.intro @Decomposition.pv_u <| And.intro @Decomposition.views <| And.intro @Decomposition.noViews <| And.intro @Binding.pv_u <| And.intro @Binding.views <| And.intro @Binding.noViews <| And.intro @Substitution.pv_u <| And.intro @Substitution.views <| @Substitution.noViews
def TP := And.intro @RA (And.intro @RI @RX)
attribute [push_cast] Term.pv_u Term.views Term.noViews Term.Name_mk Term.Args_mk Formula.pv_u Formula.views Formula.noViews Formula.Op_mk Formula.Atom_mk Formula.Var_mk Formula.Parts_mk Decomposition.pv_u Decomposition.views Decomposition.noViews Binding.pv_u Binding.views Binding.noViews Substitution.pv_u Substitution.views Substitution.noViews
end Go.Proofs.YtgkgihdafalimaaGreat
