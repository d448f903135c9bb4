/- A part of the proof: lemmas only; nothing is claimed here beyond what each lemma says. -/
import Derived.Test.YtheihimhijkekaaAvO
set_option linter.unusedSimpArgs false
set_option linter.unusedVariables false
set_option linter.defProp false
set_option maxRecDepth 4000
namespace Go.Proofs.Ytheihimhijkekaa
open Go.Av
structure SizeEdge where
  From : Int
  To : Int
  Strict : Bool
instance : Inhabited SizeEdge := ⟨(SizeEdge.mk (0 : Int) (0 : Int) false)⟩
def SizeEdge.pv (o : Bool) (x : SizeEdge) : PV := .agg [I x.From, I x.To, B x.Strict]
theorem SizeEdge.pv_u (o : Bool) (x : SizeEdge) : x.pv o = .agg [I x.From, I x.To, B x.Strict] := rfl
theorem SizeEdge.view (o : Bool) (x : SizeEdge) : (x.pv o).view = x.pv false := by simp only [SizeEdge.pv_u, view_agg, PV.views, view_sl, view_lit, I, B, Sx, Ik]
theorem SizeEdge.noView (x : SizeEdge) : (x.pv true).noView = true := by simp only [SizeEdge.pv_u, PV.noView, PV.noViews, I, B, Sx, Ik, Bool.and_true, Bool.true_and, Bool.and_self]
theorem SizeEdge.noViewF (x : SizeEdge) : (x.pv false).noView = true := by simp only [SizeEdge.pv_u, PV.noView, PV.noViews, I, B, Sx, Ik, Bool.and_true, Bool.and_self]
theorem SizeEdge.views (o : Bool) (l : List SizeEdge) : PV.views (l.map (SizeEdge.pv o)) = l.map (SizeEdge.pv false) := views_map _ _ (fun a => SizeEdge.view o a) l
theorem SizeEdge.noViews (l : List SizeEdge) : PV.noViews (l.map (SizeEdge.pv true)) = true := noViews_map _ (fun a => SizeEdge.noView a) l
theorem SizeEdge.noViewsF (l : List SizeEdge) : PV.noViews (l.map (SizeEdge.pv false)) = true := noViews_map _ (fun a => by simp only [SizeEdge.pv_u, PV.noView, PV.noViews, I, B, Sx, Ik, Bool.and_true, Bool.and_self]) l
theorem SizeEdge.psize (o : Bool) (x : SizeEdge) : (x.pv o).size = 3 := by simp only [SizeEdge.pv_u, PV.size, PV.sizes, I, B, Sx, Ik]
theorem SizeEdge.isAgg (o : Bool) (x : SizeEdge) : (CV.pv (x.pv o)).isAgg = true := by rw [SizeEdge.pv_u]; rfl
structure SizeGraph where
  Source : Int
  Target : Int
  Edges : List SizeEdge
instance : Inhabited SizeGraph := ⟨(SizeGraph.mk (0 : Int) (0 : Int) ([]))⟩
def SizeGraph.pv (o : Bool) (x : SizeGraph) : PV := .agg [I x.Source, I x.Target, .sl o 3 (x.Edges.map (SizeEdge.pv false))]
theorem SizeGraph.pv_u (o : Bool) (x : SizeGraph) : x.pv o = .agg [I x.Source, I x.Target, .sl o 3 (x.Edges.map (SizeEdge.pv false))] := rfl
theorem SizeGraph.view (o : Bool) (x : SizeGraph) : (x.pv o).view = x.pv false := by simp only [SizeGraph.pv_u, view_agg, PV.views, view_sl, view_lit, I, B, Sx, Ik, SizeEdge.views]
theorem SizeGraph.noView (x : SizeGraph) : (x.pv true).noView = true := by simp only [SizeGraph.pv_u, PV.noView, PV.noViews, I, B, Sx, Ik, Bool.and_true, Bool.true_and, Bool.and_self, SizeEdge.noViews, SizeEdge.noViewsF]
theorem SizeGraph.views (o : Bool) (l : List SizeGraph) : PV.views (l.map (SizeGraph.pv o)) = l.map (SizeGraph.pv false) := views_map _ _ (fun a => SizeGraph.view o a) l
theorem SizeGraph.noViews (l : List SizeGraph) : PV.noViews (l.map (SizeGraph.pv true)) = true := noViews_map _ (fun a => SizeGraph.noView a) l
theorem SizeGraph.psize (o : Bool) (x : SizeGraph) : (x.pv o).size = 3 := by simp only [SizeGraph.pv_u, PV.size, PV.sizes, I, B, Sx, Ik]
theorem SizeGraph.isAgg (o : Bool) (x : SizeGraph) : (CV.pv (x.pv o)).isAgg = true := by rw [SizeGraph.pv_u]; rfl
structure CyclicProof where
  Arities : List Int
  Calls : List SizeGraph
instance : Inhabited CyclicProof := ⟨(CyclicProof.mk ([]) ([]))⟩
def CyclicProof.pv (o : Bool) (x : CyclicProof) : PV := .agg [.sl o 1 (x.Arities.map I), .sl o 3 (x.Calls.map (SizeGraph.pv o))]
theorem CyclicProof.pv_u (o : Bool) (x : CyclicProof) : x.pv o = .agg [.sl o 1 (x.Arities.map I), .sl o 3 (x.Calls.map (SizeGraph.pv o))] := rfl
theorem CyclicProof.view (o : Bool) (x : CyclicProof) : (x.pv o).view = x.pv false := by simp only [CyclicProof.pv_u, view_agg, PV.views, view_sl, view_lit, I, B, Sx, Ik, views_I, views_Ik, SizeGraph.views]
theorem CyclicProof.noView (x : CyclicProof) : (x.pv true).noView = true := by simp only [CyclicProof.pv_u, PV.noView, PV.noViews, I, B, Sx, Ik, Bool.and_true, Bool.true_and, Bool.and_self, noViews_I, noViews_Ik, SizeGraph.noViews]
theorem CyclicProof.views (o : Bool) (l : List CyclicProof) : PV.views (l.map (CyclicProof.pv o)) = l.map (CyclicProof.pv false) := views_map _ _ (fun a => CyclicProof.view o a) l
theorem CyclicProof.noViews (l : List CyclicProof) : PV.noViews (l.map (CyclicProof.pv true)) = true := noViews_map _ (fun a => CyclicProof.noView a) l
theorem CyclicProof.psize (o : Bool) (x : CyclicProof) : (x.pv o).size = 2 := by simp only [CyclicProof.pv_u, PV.size, PV.sizes, I, B, Sx, Ik]
theorem CyclicProof.isAgg (o : Bool) (x : CyclicProof) : (CV.pv (x.pv o)).isAgg = true := by rw [CyclicProof.pv_u]; rfl
structure Arr4_Int where
  f0 : Int
  f1 : Int
  f2 : Int
  f3 : Int
instance : Inhabited Arr4_Int := ⟨(Arr4_Int.mk (0 : Int) (0 : Int) (0 : Int) (0 : Int))⟩
def Arr4_Int.pv (o : Bool) (x : Arr4_Int) : PV := .agg [I x.f0, I x.f1, I x.f2, I x.f3]
theorem Arr4_Int.pv_u (o : Bool) (x : Arr4_Int) : x.pv o = .agg [I x.f0, I x.f1, I x.f2, I x.f3] := rfl
theorem Arr4_Int.view (o : Bool) (x : Arr4_Int) : (x.pv o).view = x.pv false := by simp only [Arr4_Int.pv_u, view_agg, PV.views, view_sl, view_lit, I, B, Sx, Ik]
theorem Arr4_Int.noView (x : Arr4_Int) : (x.pv true).noView = true := by simp only [Arr4_Int.pv_u, PV.noView, PV.noViews, I, B, Sx, Ik, Bool.and_true, Bool.true_and, Bool.and_self]
theorem Arr4_Int.noViewF (x : Arr4_Int) : (x.pv false).noView = true := by simp only [Arr4_Int.pv_u, PV.noView, PV.noViews, I, B, Sx, Ik, Bool.and_true, Bool.and_self]
theorem Arr4_Int.views (o : Bool) (l : List Arr4_Int) : PV.views (l.map (Arr4_Int.pv o)) = l.map (Arr4_Int.pv false) := views_map _ _ (fun a => Arr4_Int.view o a) l
theorem Arr4_Int.noViews (l : List Arr4_Int) : PV.noViews (l.map (Arr4_Int.pv true)) = true := noViews_map _ (fun a => Arr4_Int.noView a) l
theorem Arr4_Int.noViewsF (l : List Arr4_Int) : PV.noViews (l.map (Arr4_Int.pv false)) = true := noViews_map _ (fun a => by simp only [Arr4_Int.pv_u, PV.noView, PV.noViews, I, B, Sx, Ik, Bool.and_true, Bool.and_self]) l
theorem Arr4_Int.psize (o : Bool) (x : Arr4_Int) : (x.pv o).size = 4 := by simp only [Arr4_Int.pv_u, PV.size, PV.sizes, I, B, Sx, Ik]
theorem Arr4_Int.isAgg (o : Bool) (x : Arr4_Int) : (CV.pv (x.pv o)).isAgg = true := by rw [Arr4_Int.pv_u]; rfl
structure found where
  graph : SizeGraph
  path : List Int
instance : Inhabited found := ⟨(found.mk (SizeGraph.mk (0 : Int) (0 : Int) ([])) ([]))⟩
def found.pv (o : Bool) (x : found) : PV := .agg [x.graph.pv o, .sl o 1 (x.path.map I)]
theorem found.pv_u (o : Bool) (x : found) : x.pv o = .agg [x.graph.pv o, .sl o 1 (x.path.map I)] := rfl
theorem found.view (o : Bool) (x : found) : (x.pv o).view = x.pv false := by simp only [found.pv_u, view_agg, PV.views, view_sl, view_lit, I, B, Sx, Ik, SizeGraph.view, views_I, views_Ik]
theorem found.noView (x : found) : (x.pv true).noView = true := by simp only [found.pv_u, PV.noView, PV.noViews, I, B, Sx, Ik, Bool.and_true, Bool.true_and, Bool.and_self, SizeGraph.noView, noViews_I, noViews_Ik]
theorem found.views (o : Bool) (l : List found) : PV.views (l.map (found.pv o)) = l.map (found.pv false) := views_map _ _ (fun a => found.view o a) l
theorem found.noViews (l : List found) : PV.noViews (l.map (found.pv true)) = true := noViews_map _ (fun a => found.noView a) l
theorem found.psize (o : Bool) (x : found) : (x.pv o).size = 4 := by simp only [found.pv_u, PV.size, PV.sizes, I, B, Sx, Ik, SizeGraph.psize]
theorem found.isAgg (o : Bool) (x : found) : (CV.pv (x.pv o)).isAgg = true := by rw [found.pv_u]; rfl
def RS := And.intro @SizeEdge.pv_u <| And.intro @SizeEdge.views <| And.intro @SizeEdge.noViews <| And.intro @SizeEdge.noViewsF <| And.intro @SizeGraph.pv_u <| And.intro @SizeGraph.views <| And.intro @SizeGraph.noViews <| And.intro @CyclicProof.pv_u <| And.intro @CyclicProof.views <| And.intro @CyclicProof.noViews <| And.intro @Arr4_Int.pv_u <| And.intro @Arr4_Int.views <| And.intro @Arr4_Int.noViews <| And.intro @Arr4_Int.noViewsF <| And.intro @found.pv_u <| And.intro @found.views <| @found.noViews
end Go.Proofs.Ytheihimhijkekaa
