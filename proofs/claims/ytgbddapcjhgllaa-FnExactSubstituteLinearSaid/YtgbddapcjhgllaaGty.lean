/- A part of the proof: lemmas only; nothing is claimed here beyond what each lemma says. -/
import Derived.Test.YtgbddapcjhgllaaAvF3
set_option linter.unusedSimpArgs false
set_option linter.unusedVariables false
set_option linter.defProp false
set_option maxRecDepth 4000
namespace Go.Proofs.Ytgbddapcjhgllaa
open Go.Av
structure Linear where
  Vars : List ByteArray
  Slopes : List Int
  Constant : Int
instance : Inhabited Linear := ⟨(Linear.mk ([]) ([]) (0 : Int))⟩
def Linear.pv (o : Bool) (x : Linear) : PV := .agg [.sl o 1 (x.Vars.map Sx), .sl o 1 (x.Slopes.map I), I x.Constant]
theorem Linear.pv_u (o : Bool) (x : Linear) : x.pv o = .agg [.sl o 1 (x.Vars.map Sx), .sl o 1 (x.Slopes.map I), I x.Constant] := rfl
theorem Linear.view (o : Bool) (x : Linear) : (x.pv o).view = x.pv false := by simp only [Linear.pv_u, view_agg, PV.views, view_sl, view_lit, I, B, Sx, Ik, views_Sx, views_I, views_Ik]
theorem Linear.noView (x : Linear) : (x.pv true).noView = true := by simp only [Linear.pv_u, PV.noView, PV.noViews, I, B, Sx, Ik, Bool.and_true, Bool.true_and, Bool.and_self, noViews_Sx, noViews_I, noViews_Ik]
theorem Linear.views (o : Bool) (l : List Linear) : PV.views (l.map (Linear.pv o)) = l.map (Linear.pv false) := views_map _ _ (fun a => Linear.view o a) l
theorem Linear.noViews (l : List Linear) : PV.noViews (l.map (Linear.pv true)) = true := noViews_map _ (fun a => Linear.noView a) l
theorem Linear.isAgg (o : Bool) (x : Linear) : (CV.pv (x.pv o)).isAgg = true := by rw [Linear.pv_u]; rfl
def RS := And.intro @Linear.pv_u <| And.intro @Linear.views <| @Linear.noViews
end Go.Proofs.Ytgbddapcjhgllaa
