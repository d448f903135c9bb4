/- Lemmas of the proof; each says what it shows. -/
import Derived.Test.YtkmfaliedpidbaaAvF5
set_option linter.unusedSimpArgs false
set_option linter.unusedVariables false
set_option linter.defProp false
set_option maxRecDepth 4000
namespace Go.Proofs.Ytkmfaliedpidbaa
open Go.Av
open And renaming intro→aa
structure Lt where
 Vars:List ByteArray
 Slopes:List Int
 Constant:Int
instance:Inhabited Lt:=⟨(Lt.mk ([]) ([]) (0:Int))⟩
def Lt.pv(o:Bool)(x:Lt):PV:=.agg [.sl o 1 (x.Vars.map Sx),.sl o 1 (x.Slopes.map I),I x.Constant]
theorem Lt.pv_u(o:Bool)(x:Lt):x.pv o=.agg [.sl o 1 (x.Vars.map Sx),.sl o 1 (x.Slopes.map I),I x.Constant]:=rfl
theorem Lt.view(o:Bool)(x:Lt):(x.pv o).view=x.pv false:=by simp only[Lt.pv_u,va_,PV.views,vs_,vl_,I,B,Sx,Ik,vS_,vI_,vI_1]
theorem Lt.noView(x:Lt):(x.pv true).noView=true:=by simp only[Lt.pv_u,PV.noView,PV.noViews,I,B,Sx,Ik,Bool.and_true,Bool.true_and,Bool.and_self,nVS_,nVI_,nVI_1]
theorem Lt.views(o:Bool)(l:List Lt):PV.views (l.map (Lt.pv o))=l.map (Lt.pv false):=vm_ _ _ (fun a=>Lt.view o a) l
theorem Lt.noViews(l:List Lt):PV.noViews (l.map (Lt.pv true))=true:=nVm_ _ (fun a=>Lt.noView a) l
theorem Lt.isAgg(o:Bool)(x:Lt):(CV.pv (x.pv o)).isAgg=true:=by rw[Lt.pv_u]; rfl
structure la where
 code:List Int
 at_f:Int
 seed:Int
instance:Inhabited la:=⟨(la.mk ([]) (0:Int) (0:Int))⟩
def la.pv(o:Bool)(x:la):PV:=.agg [.sl o 1 (x.code.map (Ik .u8)),I x.at_f,(Ik .u64) x.seed]
theorem la.pv_u(o:Bool)(x:la):x.pv o=.agg [.sl o 1 (x.code.map (Ik .u8)),I x.at_f,(Ik .u64) x.seed]:=rfl
theorem la.view(o:Bool)(x:la):(x.pv o).view=x.pv false:=by simp only[la.pv_u,va_,PV.views,vs_,vl_,I,B,Sx,Ik,vI_,vI_1]
theorem la.noView(x:la):(x.pv true).noView=true:=by simp only[la.pv_u,PV.noView,PV.noViews,I,B,Sx,Ik,Bool.and_true,Bool.true_and,Bool.and_self,nVI_,nVI_1]
theorem la.views(o:Bool)(l:List la):PV.views (l.map (la.pv o))=l.map (la.pv false):=vm_ _ _ (fun a=>la.view o a) l
theorem la.noViews(l:List la):PV.noViews (l.map (la.pv true))=true:=nVm_ _ (fun a=>la.noView a) l
theorem la.isAgg(o:Bool)(x:la):(CV.pv (x.pv o)).isAgg=true:=by rw[la.pv_u]; rfl
def RS:=aa @Lt.pv_u<|aa @Lt.views<|aa @Lt.noViews<|aa @la.pv_u<|aa @la.views<|@la.noViews
def TP:=aa @RA (aa @RI @RX)
attribute [push_cast] Lt.pv_u Lt.views Lt.noViews la.pv_u la.views la.noViews
end Go.Proofs.Ytkmfaliedpidbaa
