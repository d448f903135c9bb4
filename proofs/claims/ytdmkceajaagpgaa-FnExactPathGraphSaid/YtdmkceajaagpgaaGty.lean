/- A part of the proof: lemmas only; nothing is claimed here beyond what each lemma says. -/
import Derived.Test.YtdmkceajaagpgaaAvX
set_option linter.unusedSimpArgs false
set_option linter.unusedVariables false
set_option linter.defProp false
set_option maxRecDepth 4000
namespace Go.Proofs.Ytdmkceajaagpgaa
open Go.Av
inductive Term where
  | mk (Name_ : ByteArray) (Args_ : List Term)
instance : Inhabited Term := ⟨.mk (⟨#[]⟩ : ByteArray) ([])⟩
def Term.Name : Term → ByteArray
  | .mk a _ => a
def Term.Args : Term → List Term
  | .mk _ a => a
mutual
def Term.pv (o : Bool) : Term → PV
  | .mk x0 x1 => .agg [Sx x0, .sl o 2 (Term.pvs o x1)]
def Term.pvs (o : Bool) : List Term → List PV
  | [] => []
  | a :: l => a.pv o :: Term.pvs o l
end
theorem Term.pvs_eq (o : Bool) (l : List Term) : Term.pvs o l = l.map (Term.pv o) := by
  induction l with
  | nil => rfl
  | cons a l ih => rw [Term.pvs, ih]; rfl
theorem Term.ind {M : Term → Prop} (h : ∀ x0 x1, (∀ a ∈ x1, M a) → M (.mk x0 x1)) (t : Term) : M t :=
  Term.rec (motive_1 := M) (motive_2 := fun l => ∀ a ∈ l, M a) (fun x0 x1 ih => h x0 x1 ih) (by simp) (fun a l h1 h2 => by simpa using ⟨h1, h2⟩) t
theorem Term.pv_u (o : Bool) (x : Term) : x.pv o = .agg [Sx x.Name, .sl o 2 (x.Args.map (Term.pv o))] := by cases x; rw [Term.pv, Term.pvs_eq]; rfl
theorem Term.ind' {M : Term → Prop} (h : ∀ t : Term, (∀ a ∈ t.Args, M a) → M t) (t : Term) : M t :=
  Term.ind (M := M) (fun x0 x1 ih => h (.mk x0 x1) ih) t
theorem Term.lt {t a : Term} (h : a ∈ t.Args) : SizeOf.sizeOf a < SizeOf.sizeOf t := by
  cases t
  have := List.sizeOf_lt_of_mem h
  simp only [Term.Args] at this
  simp only [Term.mk.sizeOf_spec]; omega
theorem Term.pos (t : Term) : 0 < SizeOf.sizeOf t := by cases t; simp only [Term.mk.sizeOf_spec]; omega
theorem Term.Name_mk (x0 : ByteArray) (x1 : List Term) : (Term.mk x0 x1).Name = x0 := rfl
theorem Term.Args_mk (x0 : ByteArray) (x1 : List Term) : (Term.mk x0 x1).Args = x1 := rfl
theorem Term.eta (x : Term) : Term.mk x.Name x.Args = x := by cases x; rfl
theorem Term.views' (o : Bool) (l : List Term) (h : ∀ a ∈ l, (a.pv o).view = a.pv false) : PV.views (l.map (Term.pv o)) = l.map (Term.pv false) := by
  induction l with
  | nil => rfl
  | cons a l ih => simp only [List.map_cons, PV.views, h a (by simp), ih (fun b hb => h b (by simp [hb]))]
theorem Term.view (o : Bool) (x : Term) : (x.pv o).view = x.pv false :=
  Term.ind (M := fun x => (x.pv o).view = x.pv false) (fun x0 x1 ih => by simp only [Term.pv_u, Term.Name_mk, Term.Args_mk, view_agg, PV.views, view_sl, view_lit, I, B, Sx, Ik, Term.views' o x1 ih]) x
theorem Term.noViews' (l : List Term) (h : ∀ a ∈ l, (a.pv true).noView = true) : PV.noViews (l.map (Term.pv true)) = true := by
  induction l with
  | nil => rfl
  | cons a l ih => simp only [List.map_cons, PV.noViews, h a (by simp), ih (fun b hb => h b (by simp [hb])), Bool.and_true]
theorem Term.noView (x : Term) : (x.pv true).noView = true :=
  Term.ind (M := fun x => (x.pv true).noView = true) (fun x0 x1 ih => by simp only [Term.pv_u, Term.Name_mk, Term.Args_mk, PV.noView, PV.noViews, I, B, Sx, Ik, Term.noViews' x1 ih, Bool.and_true, Bool.true_and, Bool.and_self]) x
theorem Term.views (o : Bool) (l : List Term) : PV.views (l.map (Term.pv o)) = l.map (Term.pv false) := views_map _ _ (fun a => Term.view o a) l
theorem Term.noViews (l : List Term) : PV.noViews (l.map (Term.pv true)) = true := noViews_map _ (fun a => Term.noView a) l
theorem Term.psize (o : Bool) (x : Term) : (x.pv o).size = 2 := by simp only [Term.pv_u, PV.size, PV.sizes, I, B, Sx, Ik]
theorem Term.isAgg (o : Bool) (x : Term) : (CV.pv (x.pv o)).isAgg = true := by rw [Term.pv_u]; rfl
structure Decomposition where
  Patterns : List Term
  Instances : List Term
instance : Inhabited Decomposition := ⟨(Decomposition.mk ([]) ([]))⟩
def Decomposition.pv (o : Bool) (x : Decomposition) : PV := .agg [.sl o 2 (x.Patterns.map (Term.pv o)), .sl o 2 (x.Instances.map (Term.pv o))]
theorem Decomposition.pv_u (o : Bool) (x : Decomposition) : x.pv o = .agg [.sl o 2 (x.Patterns.map (Term.pv o)), .sl o 2 (x.Instances.map (Term.pv o))] := rfl
theorem Decomposition.view (o : Bool) (x : Decomposition) : (x.pv o).view = x.pv false := by simp only [Decomposition.pv_u, view_agg, PV.views, view_sl, view_lit, I, B, Sx, Ik, Term.views]
theorem Decomposition.noView (x : Decomposition) : (x.pv true).noView = true := by simp only [Decomposition.pv_u, PV.noView, PV.noViews, I, B, Sx, Ik, Bool.and_true, Bool.true_and, Bool.and_self, Term.noViews]
theorem Decomposition.views (o : Bool) (l : List Decomposition) : PV.views (l.map (Decomposition.pv o)) = l.map (Decomposition.pv false) := views_map _ _ (fun a => Decomposition.view o a) l
theorem Decomposition.noViews (l : List Decomposition) : PV.noViews (l.map (Decomposition.pv true)) = true := noViews_map _ (fun a => Decomposition.noView a) l
theorem Decomposition.psize (o : Bool) (x : Decomposition) : (x.pv o).size = 2 := by simp only [Decomposition.pv_u, PV.size, PV.sizes, I, B, Sx, Ik]
theorem Decomposition.isAgg (o : Bool) (x : Decomposition) : (CV.pv (x.pv o)).isAgg = true := by rw [Decomposition.pv_u]; rfl
structure SizeEdge where
  From : Int
  To : Int
  Strict : Bool
instance : Inhabited SizeEdge := ⟨(SizeEdge.mk (0 : Int) (0 : Int) false)⟩
def SizeEdge.pv (o : Bool) (x : SizeEdge) : PV := .agg [I x.From, I x.To, B x.Strict]
theorem SizeEdge.pv_u (o : Bool) (x : SizeEdge) : x.pv o = .agg [I x.From, I x.To, B x.Strict] := rfl
theorem SizeEdge.view (o : Bool) (x : SizeEdge) : (x.pv o).view = x.pv false := by simp only [SizeEdge.pv_u, view_agg, PV.views, view_sl, view_lit, I, B, Sx, Ik]
theorem SizeEdge.noView (x : SizeEdge) : (x.pv true).noView = true := by simp only [SizeEdge.pv_u, PV.noView, PV.noViews, I, B, Sx, Ik, Bool.and_true, Bool.true_and, Bool.and_self]
theorem SizeEdge.noViewF (x : SizeEdge) : (x.pv false).noView = true := by simp only [SizeEdge.pv_u, PV.noView, PV.noViews, I, B, Sx, Ik, Bool.and_true, Bool.and_self]
theorem SizeEdge.views (o : Bool) (l : List SizeEdge) : PV.views (l.map (SizeEdge.pv o)) = l.map (SizeEdge.pv false) := views_map _ _ (fun a => SizeEdge.view o a) l
theorem SizeEdge.noViews (l : List SizeEdge) : PV.noViews (l.map (SizeEdge.pv true)) = true := noViews_map _ (fun a => SizeEdge.noView a) l
theorem SizeEdge.noViewsF (l : List SizeEdge) : PV.noViews (l.map (SizeEdge.pv false)) = true := noViews_map _ (fun a => by simp only [SizeEdge.pv_u, PV.noView, PV.noViews, I, B, Sx, Ik, Bool.and_true, Bool.and_self]) l
theorem SizeEdge.psize (o : Bool) (x : SizeEdge) : (x.pv o).size = 3 := by simp only [SizeEdge.pv_u, PV.size, PV.sizes, I, B, Sx, Ik]
theorem SizeEdge.isAgg (o : Bool) (x : SizeEdge) : (CV.pv (x.pv o)).isAgg = true := by rw [SizeEdge.pv_u]; rfl
structure SizeGraph where
  Source : Int
  Target : Int
  Edges : List SizeEdge
instance : Inhabited SizeGraph := ⟨(SizeGraph.mk (0 : Int) (0 : Int) ([]))⟩
def SizeGraph.pv (o : Bool) (x : SizeGraph) : PV := .agg [I x.Source, I x.Target, .sl o 3 (x.Edges.map (SizeEdge.pv false))]
theorem SizeGraph.pv_u (o : Bool) (x : SizeGraph) : x.pv o = .agg [I x.Source, I x.Target, .sl o 3 (x.Edges.map (SizeEdge.pv false))] := rfl
theorem SizeGraph.view (o : Bool) (x : SizeGraph) : (x.pv o).view = x.pv false := by simp only [SizeGraph.pv_u, view_agg, PV.views, view_sl, view_lit, I, B, Sx, Ik, SizeEdge.views]
theorem SizeGraph.noView (x : SizeGraph) : (x.pv true).noView = true := by simp only [SizeGraph.pv_u, PV.noView, PV.noViews, I, B, Sx, Ik, Bool.and_true, Bool.true_and, Bool.and_self, SizeEdge.noViews, SizeEdge.noViewsF]
theorem SizeGraph.views (o : Bool) (l : List SizeGraph) : PV.views (l.map (SizeGraph.pv o)) = l.map (SizeGraph.pv false) := views_map _ _ (fun a => SizeGraph.view o a) l
theorem SizeGraph.noViews (l : List SizeGraph) : PV.noViews (l.map (SizeGraph.pv true)) = true := noViews_map _ (fun a => SizeGraph.noView a) l
theorem SizeGraph.psize (o : Bool) (x : SizeGraph) : (x.pv o).size = 3 := by simp only [SizeGraph.pv_u, PV.size, PV.sizes, I, B, Sx, Ik]
theorem SizeGraph.isAgg (o : Bool) (x : SizeGraph) : (CV.pv (x.pv o)).isAgg = true := by rw [SizeGraph.pv_u]; rfl
structure CyclicProof where
  Arities : List Int
  Calls : List SizeGraph
instance : Inhabited CyclicProof := ⟨(CyclicProof.mk ([]) ([]))⟩
def CyclicProof.pv (o : Bool) (x : CyclicProof) : PV := .agg [.sl o 1 (x.Arities.map I), .sl o 3 (x.Calls.map (SizeGraph.pv o))]
theorem CyclicProof.pv_u (o : Bool) (x : CyclicProof) : x.pv o = .agg [.sl o 1 (x.Arities.map I), .sl o 3 (x.Calls.map (SizeGraph.pv o))] := rfl
theorem CyclicProof.view (o : Bool) (x : CyclicProof) : (x.pv o).view = x.pv false := by simp only [CyclicProof.pv_u, view_agg, PV.views, view_sl, view_lit, I, B, Sx, Ik, views_I, views_Ik, SizeGraph.views]
theorem CyclicProof.noView (x : CyclicProof) : (x.pv true).noView = true := by simp only [CyclicProof.pv_u, PV.noView, PV.noViews, I, B, Sx, Ik, Bool.and_true, Bool.true_and, Bool.and_self, noViews_I, noViews_Ik, SizeGraph.noViews]
theorem CyclicProof.views (o : Bool) (l : List CyclicProof) : PV.views (l.map (CyclicProof.pv o)) = l.map (CyclicProof.pv false) := views_map _ _ (fun a => CyclicProof.view o a) l
theorem CyclicProof.noViews (l : List CyclicProof) : PV.noViews (l.map (CyclicProof.pv true)) = true := noViews_map _ (fun a => CyclicProof.noView a) l
theorem CyclicProof.psize (o : Bool) (x : CyclicProof) : (x.pv o).size = 2 := by simp only [CyclicProof.pv_u, PV.size, PV.sizes, I, B, Sx, Ik]
theorem CyclicProof.isAgg (o : Bool) (x : CyclicProof) : (CV.pv (x.pv o)).isAgg = true := by rw [CyclicProof.pv_u]; rfl
structure Linear where
  Vars : List ByteArray
  Slopes : List Int
  Constant : Int
instance : Inhabited Linear := ⟨(Linear.mk ([]) ([]) (0 : Int))⟩
def Linear.pv (o : Bool) (x : Linear) : PV := .agg [.sl o 1 (x.Vars.map Sx), .sl o 1 (x.Slopes.map I), I x.Constant]
theorem Linear.pv_u (o : Bool) (x : Linear) : x.pv o = .agg [.sl o 1 (x.Vars.map Sx), .sl o 1 (x.Slopes.map I), I x.Constant] := rfl
theorem Linear.view (o : Bool) (x : Linear) : (x.pv o).view = x.pv false := by simp only [Linear.pv_u, view_agg, PV.views, view_sl, view_lit, I, B, Sx, Ik, views_Sx, views_I, views_Ik]
theorem Linear.noView (x : Linear) : (x.pv true).noView = true := by simp only [Linear.pv_u, PV.noView, PV.noViews, I, B, Sx, Ik, Bool.and_true, Bool.true_and, Bool.and_self, noViews_Sx, noViews_I, noViews_Ik]
theorem Linear.views (o : Bool) (l : List Linear) : PV.views (l.map (Linear.pv o)) = l.map (Linear.pv false) := views_map _ _ (fun a => Linear.view o a) l
theorem Linear.noViews (l : List Linear) : PV.noViews (l.map (Linear.pv true)) = true := noViews_map _ (fun a => Linear.noView a) l
theorem Linear.psize (o : Bool) (x : Linear) : (x.pv o).size = 3 := by simp only [Linear.pv_u, PV.size, PV.sizes, I, B, Sx, Ik]
theorem Linear.isAgg (o : Bool) (x : Linear) : (CV.pv (x.pv o)).isAgg = true := by rw [Linear.pv_u]; rfl
inductive Formula where
  | mk (Op_ : Int) (Atom_ : Term) (Var_ : ByteArray) (Parts_ : List Formula)
instance : Inhabited Formula := ⟨.mk (0 : Int) (Term.mk (⟨#[]⟩ : ByteArray) ([])) (⟨#[]⟩ : ByteArray) ([])⟩
def Formula.Op : Formula → Int
  | .mk a _ _ _ => a
def Formula.Atom : Formula → Term
  | .mk _ a _ _ => a
def Formula.Var : Formula → ByteArray
  | .mk _ _ a _ => a
def Formula.Parts : Formula → List Formula
  | .mk _ _ _ a => a
mutual
def Formula.pv (o : Bool) : Formula → PV
  | .mk x0 x1 x2 x3 => .agg [I x0, x1.pv o, Sx x2, .sl o 5 (Formula.pvs o x3)]
def Formula.pvs (o : Bool) : List Formula → List PV
  | [] => []
  | a :: l => a.pv o :: Formula.pvs o l
end
theorem Formula.pvs_eq (o : Bool) (l : List Formula) : Formula.pvs o l = l.map (Formula.pv o) := by
  induction l with
  | nil => rfl
  | cons a l ih => rw [Formula.pvs, ih]; rfl
theorem Formula.ind {M : Formula → Prop} (h : ∀ x0 x1 x2 x3, (∀ a ∈ x3, M a) → M (.mk x0 x1 x2 x3)) (t : Formula) : M t :=
  Formula.rec (motive_1 := M) (motive_2 := fun l => ∀ a ∈ l, M a) (fun x0 x1 x2 x3 ih => h x0 x1 x2 x3 ih) (by simp) (fun a l h1 h2 => by simpa using ⟨h1, h2⟩) t
theorem Formula.pv_u (o : Bool) (x : Formula) : x.pv o = .agg [I x.Op, x.Atom.pv o, Sx x.Var, .sl o 5 (x.Parts.map (Formula.pv o))] := by cases x; rw [Formula.pv, Formula.pvs_eq]; rfl
theorem Formula.ind' {M : Formula → Prop} (h : ∀ t : Formula, (∀ a ∈ t.Parts, M a) → M t) (t : Formula) : M t :=
  Formula.ind (M := M) (fun x0 x1 x2 x3 ih => h (.mk x0 x1 x2 x3) ih) t
theorem Formula.lt {t a : Formula} (h : a ∈ t.Parts) : SizeOf.sizeOf a < SizeOf.sizeOf t := by
  cases t
  have := List.sizeOf_lt_of_mem h
  simp only [Formula.Parts] at this
  simp only [Formula.mk.sizeOf_spec]; omega
theorem Formula.pos (t : Formula) : 0 < SizeOf.sizeOf t := by cases t; simp only [Formula.mk.sizeOf_spec]; omega
theorem Formula.Op_mk (x0 : Int) (x1 : Term) (x2 : ByteArray) (x3 : List Formula) : (Formula.mk x0 x1 x2 x3).Op = x0 := rfl
theorem Formula.Atom_mk (x0 : Int) (x1 : Term) (x2 : ByteArray) (x3 : List Formula) : (Formula.mk x0 x1 x2 x3).Atom = x1 := rfl
theorem Formula.Var_mk (x0 : Int) (x1 : Term) (x2 : ByteArray) (x3 : List Formula) : (Formula.mk x0 x1 x2 x3).Var = x2 := rfl
theorem Formula.Parts_mk (x0 : Int) (x1 : Term) (x2 : ByteArray) (x3 : List Formula) : (Formula.mk x0 x1 x2 x3).Parts = x3 := rfl
theorem Formula.eta (x : Formula) : Formula.mk x.Op x.Atom x.Var x.Parts = x := by cases x; rfl
theorem Formula.views' (o : Bool) (l : List Formula) (h : ∀ a ∈ l, (a.pv o).view = a.pv false) : PV.views (l.map (Formula.pv o)) = l.map (Formula.pv false) := by
  induction l with
  | nil => rfl
  | cons a l ih => simp only [List.map_cons, PV.views, h a (by simp), ih (fun b hb => h b (by simp [hb]))]
theorem Formula.view (o : Bool) (x : Formula) : (x.pv o).view = x.pv false :=
  Formula.ind (M := fun x => (x.pv o).view = x.pv false) (fun x0 x1 x2 x3 ih => by simp only [Formula.pv_u, Formula.Op_mk, Formula.Atom_mk, Formula.Var_mk, Formula.Parts_mk, view_agg, PV.views, view_sl, view_lit, I, B, Sx, Ik, Formula.views' o x3 ih, Term.view]) x
theorem Formula.noViews' (l : List Formula) (h : ∀ a ∈ l, (a.pv true).noView = true) : PV.noViews (l.map (Formula.pv true)) = true := by
  induction l with
  | nil => rfl
  | cons a l ih => simp only [List.map_cons, PV.noViews, h a (by simp), ih (fun b hb => h b (by simp [hb])), Bool.and_true]
theorem Formula.noView (x : Formula) : (x.pv true).noView = true :=
  Formula.ind (M := fun x => (x.pv true).noView = true) (fun x0 x1 x2 x3 ih => by simp only [Formula.pv_u, Formula.Op_mk, Formula.Atom_mk, Formula.Var_mk, Formula.Parts_mk, PV.noView, PV.noViews, I, B, Sx, Ik, Formula.noViews' x3 ih, Bool.and_true, Bool.true_and, Bool.and_self, Term.noView]) x
theorem Formula.views (o : Bool) (l : List Formula) : PV.views (l.map (Formula.pv o)) = l.map (Formula.pv false) := views_map _ _ (fun a => Formula.view o a) l
theorem Formula.noViews (l : List Formula) : PV.noViews (l.map (Formula.pv true)) = true := noViews_map _ (fun a => Formula.noView a) l
theorem Formula.psize (o : Bool) (x : Formula) : (x.pv o).size = 5 := by simp only [Formula.pv_u, PV.size, PV.sizes, I, B, Sx, Ik, Term.psize]
theorem Formula.isAgg (o : Bool) (x : Formula) : (CV.pv (x.pv o)).isAgg = true := by rw [Formula.pv_u]; rfl
structure vEnv where
  names : List ByteArray
  values : List Int
instance : Inhabited vEnv := ⟨(vEnv.mk ([]) ([]))⟩
def vEnv.pv (o : Bool) (x : vEnv) : PV := .agg [.sl o 1 (x.names.map Sx), .sl o 1 (x.values.map I)]
theorem vEnv.pv_u (o : Bool) (x : vEnv) : x.pv o = .agg [.sl o 1 (x.names.map Sx), .sl o 1 (x.values.map I)] := rfl
theorem vEnv.view (o : Bool) (x : vEnv) : (x.pv o).view = x.pv false := by simp only [vEnv.pv_u, view_agg, PV.views, view_sl, view_lit, I, B, Sx, Ik, views_Sx, views_I, views_Ik]
theorem vEnv.noView (x : vEnv) : (x.pv true).noView = true := by simp only [vEnv.pv_u, PV.noView, PV.noViews, I, B, Sx, Ik, Bool.and_true, Bool.true_and, Bool.and_self, noViews_Sx, noViews_I, noViews_Ik]
theorem vEnv.views (o : Bool) (l : List vEnv) : PV.views (l.map (vEnv.pv o)) = l.map (vEnv.pv false) := views_map _ _ (fun a => vEnv.view o a) l
theorem vEnv.noViews (l : List vEnv) : PV.noViews (l.map (vEnv.pv true)) = true := noViews_map _ (fun a => vEnv.noView a) l
theorem vEnv.psize (o : Bool) (x : vEnv) : (x.pv o).size = 2 := by simp only [vEnv.pv_u, PV.size, PV.sizes, I, B, Sx, Ik]
theorem vEnv.isAgg (o : Bool) (x : vEnv) : (CV.pv (x.pv o)).isAgg = true := by rw [vEnv.pv_u]; rfl
structure l1Cur where
  code : List Int
  at_f : Int
  seed : Int
instance : Inhabited l1Cur := ⟨(l1Cur.mk ([]) (0 : Int) (0 : Int))⟩
def l1Cur.pv (o : Bool) (x : l1Cur) : PV := .agg [.sl o 1 (x.code.map (Ik .u8)), I x.at_f, (Ik .u64) x.seed]
theorem l1Cur.pv_u (o : Bool) (x : l1Cur) : x.pv o = .agg [.sl o 1 (x.code.map (Ik .u8)), I x.at_f, (Ik .u64) x.seed] := rfl
theorem l1Cur.view (o : Bool) (x : l1Cur) : (x.pv o).view = x.pv false := by simp only [l1Cur.pv_u, view_agg, PV.views, view_sl, view_lit, I, B, Sx, Ik, views_I, views_Ik]
theorem l1Cur.noView (x : l1Cur) : (x.pv true).noView = true := by simp only [l1Cur.pv_u, PV.noView, PV.noViews, I, B, Sx, Ik, Bool.and_true, Bool.true_and, Bool.and_self, noViews_I, noViews_Ik]
theorem l1Cur.views (o : Bool) (l : List l1Cur) : PV.views (l.map (l1Cur.pv o)) = l.map (l1Cur.pv false) := views_map _ _ (fun a => l1Cur.view o a) l
theorem l1Cur.noViews (l : List l1Cur) : PV.noViews (l.map (l1Cur.pv true)) = true := noViews_map _ (fun a => l1Cur.noView a) l
theorem l1Cur.psize (o : Bool) (x : l1Cur) : (x.pv o).size = 3 := by simp only [l1Cur.pv_u, PV.size, PV.sizes, I, B, Sx, Ik]
theorem l1Cur.isAgg (o : Bool) (x : l1Cur) : (CV.pv (x.pv o)).isAgg = true := by rw [l1Cur.pv_u]; rfl
structure found where
  graph : SizeGraph
  path : List Int
instance : Inhabited found := ⟨(found.mk (SizeGraph.mk (0 : Int) (0 : Int) ([])) ([]))⟩
def found.pv (o : Bool) (x : found) : PV := .agg [x.graph.pv o, .sl o 1 (x.path.map I)]
theorem found.pv_u (o : Bool) (x : found) : x.pv o = .agg [x.graph.pv o, .sl o 1 (x.path.map I)] := rfl
theorem found.view (o : Bool) (x : found) : (x.pv o).view = x.pv false := by simp only [found.pv_u, view_agg, PV.views, view_sl, view_lit, I, B, Sx, Ik, SizeGraph.view, views_I, views_Ik]
theorem found.noView (x : found) : (x.pv true).noView = true := by simp only [found.pv_u, PV.noView, PV.noViews, I, B, Sx, Ik, Bool.and_true, Bool.true_and, Bool.and_self, SizeGraph.noView, noViews_I, noViews_Ik]
theorem found.views (o : Bool) (l : List found) : PV.views (l.map (found.pv o)) = l.map (found.pv false) := views_map _ _ (fun a => found.view o a) l
theorem found.noViews (l : List found) : PV.noViews (l.map (found.pv true)) = true := noViews_map _ (fun a => found.noView a) l
theorem found.psize (o : Bool) (x : found) : (x.pv o).size = 4 := by simp only [found.pv_u, PV.size, PV.sizes, I, B, Sx, Ik, SizeGraph.psize]
theorem found.isAgg (o : Bool) (x : found) : (CV.pv (x.pv o)).isAgg = true := by rw [found.pv_u]; rfl
structure Sequent where
  Left : List Formula
  Right : List Formula
instance : Inhabited Sequent := ⟨(Sequent.mk ([]) ([]))⟩
def Sequent.pv (o : Bool) (x : Sequent) : PV := .agg [.sl o 5 (x.Left.map (Formula.pv o)), .sl o 5 (x.Right.map (Formula.pv o))]
theorem Sequent.pv_u (o : Bool) (x : Sequent) : x.pv o = .agg [.sl o 5 (x.Left.map (Formula.pv o)), .sl o 5 (x.Right.map (Formula.pv o))] := rfl
theorem Sequent.view (o : Bool) (x : Sequent) : (x.pv o).view = x.pv false := by simp only [Sequent.pv_u, view_agg, PV.views, view_sl, view_lit, I, B, Sx, Ik, Formula.views]
theorem Sequent.noView (x : Sequent) : (x.pv true).noView = true := by simp only [Sequent.pv_u, PV.noView, PV.noViews, I, B, Sx, Ik, Bool.and_true, Bool.true_and, Bool.and_self, Formula.noViews]
theorem Sequent.views (o : Bool) (l : List Sequent) : PV.views (l.map (Sequent.pv o)) = l.map (Sequent.pv false) := views_map _ _ (fun a => Sequent.view o a) l
theorem Sequent.noViews (l : List Sequent) : PV.noViews (l.map (Sequent.pv true)) = true := noViews_map _ (fun a => Sequent.noView a) l
theorem Sequent.psize (o : Bool) (x : Sequent) : (x.pv o).size = 2 := by simp only [Sequent.pv_u, PV.size, PV.sizes, I, B, Sx, Ik]
theorem Sequent.isAgg (o : Bool) (x : Sequent) : (CV.pv (x.pv o)).isAgg = true := by rw [Sequent.pv_u]; rfl
structure Majorant where
  Name : ByteArray
  Slopes : List Int
  Constant : Int
instance : Inhabited Majorant := ⟨(Majorant.mk (⟨#[]⟩ : ByteArray) ([]) (0 : Int))⟩
def Majorant.pv (o : Bool) (x : Majorant) : PV := .agg [Sx x.Name, .sl o 1 (x.Slopes.map I), I x.Constant]
theorem Majorant.pv_u (o : Bool) (x : Majorant) : x.pv o = .agg [Sx x.Name, .sl o 1 (x.Slopes.map I), I x.Constant] := rfl
theorem Majorant.view (o : Bool) (x : Majorant) : (x.pv o).view = x.pv false := by simp only [Majorant.pv_u, view_agg, PV.views, view_sl, view_lit, I, B, Sx, Ik, views_I, views_Ik]
theorem Majorant.noView (x : Majorant) : (x.pv true).noView = true := by simp only [Majorant.pv_u, PV.noView, PV.noViews, I, B, Sx, Ik, Bool.and_true, Bool.true_and, Bool.and_self, noViews_I, noViews_Ik]
theorem Majorant.views (o : Bool) (l : List Majorant) : PV.views (l.map (Majorant.pv o)) = l.map (Majorant.pv false) := views_map _ _ (fun a => Majorant.view o a) l
theorem Majorant.noViews (l : List Majorant) : PV.noViews (l.map (Majorant.pv true)) = true := noViews_map _ (fun a => Majorant.noView a) l
theorem Majorant.psize (o : Bool) (x : Majorant) : (x.pv o).size = 3 := by simp only [Majorant.pv_u, PV.size, PV.sizes, I, B, Sx, Ik]
theorem Majorant.isAgg (o : Bool) (x : Majorant) : (CV.pv (x.pv o)).isAgg = true := by rw [Majorant.pv_u]; rfl
def RS := And.intro @Term.pv_u <| And.intro @Term.views <| And.intro @Term.noViews <| And.intro @Term.Name_mk <| And.intro @Term.Args_mk <| And.intro @Decomposition.pv_u <| And.intro @Decomposition.views <| And.intro @Decomposition.noViews <| And.intro @SizeEdge.pv_u <| And.intro @SizeEdge.views <| And.intro @SizeEdge.noViews <| And.intro @SizeEdge.noViewsF <| And.intro @SizeGraph.pv_u <| And.intro @SizeGraph.views <| And.intro @SizeGraph.noViews <| And.intro @CyclicProof.pv_u <| And.intro @CyclicProof.views <| And.intro @CyclicProof.noViews <| And.intro @Linear.pv_u <| And.intro @Linear.views <| And.intro @Linear.noViews <| And.intro @Formula.pv_u <| And.intro @Formula.views <| And.intro @Formula.noViews <| And.intro @Formula.Op_mk <| And.intro @Formula.Atom_mk <| And.intro @Formula.Var_mk <| And.intro @Formula.Parts_mk <| And.intro @vEnv.pv_u <| And.intro @vEnv.views <| And.intro @vEnv.noViews <| And.intro @l1Cur.pv_u <| And.intro @l1Cur.views <| And.intro @l1Cur.noViews <| And.intro @found.pv_u <| And.intro @found.views <| And.intro @found.noViews <| And.intro @Sequent.pv_u <| And.intro @Sequent.views <| And.intro @Sequent.noViews <| And.intro @Majorant.pv_u <| And.intro @Majorant.views <| @Majorant.noViews
end Go.Proofs.Ytdmkceajaagpgaa
