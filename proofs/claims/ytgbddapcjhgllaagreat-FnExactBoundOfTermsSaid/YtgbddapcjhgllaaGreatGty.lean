/- A part of the proof: lemmas only; nothing is claimed here beyond what each lemma says. -/
import Derived.Test.YtgbddapcjhgllaaGreatAvF3
set_option linter.unusedSimpArgs false
set_option linter.unusedVariables false
set_option linter.defProp false
set_option maxRecDepth 4000
namespace Go.Proofs.YtgbddapcjhgllaaGreat
open Go.Av
inductive Term where
  | mk (Name_ : ByteArray) (Args_ : List Term)
instance : Inhabited Term := ⟨.mk (⟨#[]⟩ : ByteArray) ([])⟩
def Term.Name : Term → ByteArray
  | .mk a _ => a
def Term.Args : Term → List Term
  | .mk _ a => a
mutual
def Term.pv (o : Bool) : Term → PV
  | .mk x0 x1 => .agg [Sx x0, .sl o 2 (Term.pvs o x1)]
def Term.pvs (o : Bool) : List Term → List PV
  | [] => []
  | a :: l => a.pv o :: Term.pvs o l
end
theorem Term.pvs_eq (o : Bool) (l : List Term) : Term.pvs o l = l.map (Term.pv o) := by
  induction l with
  | nil => rfl
  | cons a l ih => rw [Term.pvs, ih]; rfl
theorem Term.ind {M : Term → Prop} (h : ∀ x0 x1, (∀ a ∈ x1, M a) → M (.mk x0 x1)) (t : Term) : M t :=
  Term.rec (motive_1 := M) (motive_2 := fun l => ∀ a ∈ l, M a) (fun x0 x1 ih => h x0 x1 ih) (by simp) (fun a l h1 h2 => by simpa using ⟨h1, h2⟩) t
theorem Term.pv_u (o : Bool) (x : Term) : x.pv o = .agg [Sx x.Name, .sl o 2 (x.Args.map (Term.pv o))] := by cases x; rw [Term.pv, Term.pvs_eq]; rfl
theorem Term.ind' {M : Term → Prop} (h : ∀ t : Term, (∀ a ∈ t.Args, M a) → M t) (t : Term) : M t :=
  Term.ind (M := M) (fun x0 x1 ih => h (.mk x0 x1) ih) t
theorem Term.lt {t a : Term} (h : a ∈ t.Args) : SizeOf.sizeOf a < SizeOf.sizeOf t := by
  cases t
  have := List.sizeOf_lt_of_mem h
  simp only [Term.Args] at this
  simp only [Term.mk.sizeOf_spec]; omega
theorem Term.pos (t : Term) : 0 < SizeOf.sizeOf t := by cases t; simp only [Term.mk.sizeOf_spec]; omega
theorem Term.Name_mk (x0 : ByteArray) (x1 : List Term) : (Term.mk x0 x1).Name = x0 := rfl
theorem Term.Args_mk (x0 : ByteArray) (x1 : List Term) : (Term.mk x0 x1).Args = x1 := rfl
theorem Term.views' (o : Bool) (l : List Term) (h : ∀ a ∈ l, (a.pv o).view = a.pv false) : PV.views (l.map (Term.pv o)) = l.map (Term.pv false) := by
  induction l with
  | nil => rfl
  | cons a l ih => simp only [List.map_cons, PV.views, h a (by simp), ih (fun b hb => h b (by simp [hb]))]
theorem Term.view (o : Bool) (x : Term) : (x.pv o).view = x.pv false :=
  Term.ind (M := fun x => (x.pv o).view = x.pv false) (fun x0 x1 ih => by simp only [Term.pv_u, Term.Name_mk, Term.Args_mk, view_agg, PV.views, view_sl, view_lit, I, B, Sx, Ik, Term.views' o x1 ih]) x
theorem Term.noViews' (l : List Term) (h : ∀ a ∈ l, (a.pv true).noView = true) : PV.noViews (l.map (Term.pv true)) = true := by
  induction l with
  | nil => rfl
  | cons a l ih => simp only [List.map_cons, PV.noViews, h a (by simp), ih (fun b hb => h b (by simp [hb])), Bool.and_true]
theorem Term.noView (x : Term) : (x.pv true).noView = true :=
  Term.ind (M := fun x => (x.pv true).noView = true) (fun x0 x1 ih => by simp only [Term.pv_u, Term.Name_mk, Term.Args_mk, PV.noView, PV.noViews, I, B, Sx, Ik, Term.noViews' x1 ih, Bool.and_true, Bool.true_and, Bool.and_self]) x
theorem Term.views (o : Bool) (l : List Term) : PV.views (l.map (Term.pv o)) = l.map (Term.pv false) := views_map _ _ (fun a => Term.view o a) l
theorem Term.noViews (l : List Term) : PV.noViews (l.map (Term.pv true)) = true := noViews_map _ (fun a => Term.noView a) l
theorem Term.isAgg (o : Bool) (x : Term) : (CV.pv (x.pv o)).isAgg = true := by rw [Term.pv_u]; rfl
structure Linear where
  Vars : List ByteArray
  Slopes : List Int
  Constant : Int
instance : Inhabited Linear := ⟨(Linear.mk ([]) ([]) (0 : Int))⟩
def Linear.pv (o : Bool) (x : Linear) : PV := .agg [.sl o 1 (x.Vars.map Sx), .sl o 1 (x.Slopes.map I), I x.Constant]
theorem Linear.pv_u (o : Bool) (x : Linear) : x.pv o = .agg [.sl o 1 (x.Vars.map Sx), .sl o 1 (x.Slopes.map I), I x.Constant] := rfl
theorem Linear.view (o : Bool) (x : Linear) : (x.pv o).view = x.pv false := by simp only [Linear.pv_u, view_agg, PV.views, view_sl, view_lit, I, B, Sx, Ik, views_Sx, views_I, views_Ik]
theorem Linear.noView (x : Linear) : (x.pv true).noView = true := by simp only [Linear.pv_u, PV.noView, PV.noViews, I, B, Sx, Ik, Bool.and_true, Bool.true_and, Bool.and_self, noViews_Sx, noViews_I, noViews_Ik]
theorem Linear.views (o : Bool) (l : List Linear) : PV.views (l.map (Linear.pv o)) = l.map (Linear.pv false) := views_map _ _ (fun a => Linear.view o a) l
theorem Linear.noViews (l : List Linear) : PV.noViews (l.map (Linear.pv true)) = true := noViews_map _ (fun a => Linear.noView a) l
theorem Linear.isAgg (o : Bool) (x : Linear) : (CV.pv (x.pv o)).isAgg = true := by rw [Linear.pv_u]; rfl
structure Majorant where
  Name : ByteArray
  Slopes : List Int
  Constant : Int
instance : Inhabited Majorant := ⟨(Majorant.mk (⟨#[]⟩ : ByteArray) ([]) (0 : Int))⟩
def Majorant.pv (o : Bool) (x : Majorant) : PV := .agg [Sx x.Name, .sl o 1 (x.Slopes.map I), I x.Constant]
theorem Majorant.pv_u (o : Bool) (x : Majorant) : x.pv o = .agg [Sx x.Name, .sl o 1 (x.Slopes.map I), I x.Constant] := rfl
theorem Majorant.view (o : Bool) (x : Majorant) : (x.pv o).view = x.pv false := by simp only [Majorant.pv_u, view_agg, PV.views, view_sl, view_lit, I, B, Sx, Ik, views_I, views_Ik]
theorem Majorant.noView (x : Majorant) : (x.pv true).noView = true := by simp only [Majorant.pv_u, PV.noView, PV.noViews, I, B, Sx, Ik, Bool.and_true, Bool.true_and, Bool.and_self, noViews_I, noViews_Ik]
theorem Majorant.views (o : Bool) (l : List Majorant) : PV.views (l.map (Majorant.pv o)) = l.map (Majorant.pv false) := views_map _ _ (fun a => Majorant.view o a) l
theorem Majorant.noViews (l : List Majorant) : PV.noViews (l.map (Majorant.pv true)) = true := noViews_map _ (fun a => Majorant.noView a) l
theorem Majorant.isAgg (o : Bool) (x : Majorant) : (CV.pv (x.pv o)).isAgg = true := by rw [Majorant.pv_u]; rfl
def RS := And.intro @Term.pv_u <| And.intro @Term.views <| And.intro @Term.noViews <| And.intro @Term.Name_mk <| And.intro @Term.Args_mk <| And.intro @Linear.pv_u <| And.intro @Linear.views <| And.intro @Linear.noViews <| And.intro @Majorant.pv_u <| And.intro @Majorant.views <| @Majorant.noViews
end Go.Proofs.YtgbddapcjhgllaaGreat
