/- Lemmas of the proof; each says what it shows. -/
import Derived.Test.YtjpljobgioglmaaAvF5
set_option linter.unusedSimpArgs false
set_option linter.unusedVariables false
set_option linter.defProp false
set_option maxRecDepth 4000
namespace Go.Proofs.Ytjpljobgioglmaa
open Go.Av
open And renaming intro→aa
open PV renaming views→aE,noView→bq,noViews→a5,sizes→aX
structure Sa where
 From:Int
 To:Int
 Strict:Bool
instance:Inhabited Sa:=⟨(Sa.mk (0:Int) (0:Int) false)⟩
def Sa.pv(o:Bool)(x:Sa):PV:=.agg [I x.From,I x.To,B x.Strict]
theorem Sa.pv_u(o:Bool)(x:Sa):x.pv o=.agg [I x.From,I x.To,B x.Strict]:=rfl
theorem Sa.view(o:Bool)(x:Sa):(x.pv o).view=x.pv false:=by simp only[Sa.pv_u,view_agg,aE,view_sl,view_lit,I,B,Sx,Ik]
theorem Sa.noView(x:Sa):(x.pv true).noView=true:=by simp only[Sa.pv_u,bq,a5,I,B,Sx,Ik,Bool.and_true,Bool.true_and,Bool.and_self]
theorem Sa.noViewF(x:Sa):(x.pv false).noView=true:=by simp only[Sa.pv_u,bq,a5,I,B,Sx,Ik,Bool.and_true,Bool.and_self]
theorem Sa.views(o:Bool)(l:List Sa):aE (l.map (Sa.pv o))=l.map (Sa.pv false):=views_map _ _ (fun a=>Sa.view o a) l
theorem Sa.noViews(l:List Sa):a5 (l.map (Sa.pv true))=true:=noViews_map _ (fun a=>Sa.noView a) l
theorem Sa.noViewsF(l:List Sa):a5 (l.map (Sa.pv false))=true:=noViews_map _ (fun a=>by simp only[Sa.pv_u,bq,a5,I,B,Sx,Ik,Bool.and_true,Bool.and_self]) l
theorem Sa.psize(o:Bool)(x:Sa):(x.pv o).size=3:=by simp only[Sa.pv_u,PV.size,aX,I,B,Sx,Ik]
theorem Sa.isAgg(o:Bool)(x:Sa):(CV.pv (x.pv o)).isAgg=true:=by rw[Sa.pv_u]; rfl
structure Sb where
 Source:Int
 Target:Int
 Edges:List Sa
instance:Inhabited Sb:=⟨(Sb.mk (0:Int) (0:Int) ([]))⟩
def Sb.pv(o:Bool)(x:Sb):PV:=.agg [I x.Source,I x.Target,.sl o 3 (x.Edges.map (Sa.pv false))]
theorem Sb.pv_u(o:Bool)(x:Sb):x.pv o=.agg [I x.Source,I x.Target,.sl o 3 (x.Edges.map (Sa.pv false))]:=rfl
theorem Sb.view(o:Bool)(x:Sb):(x.pv o).view=x.pv false:=by simp only[Sb.pv_u,view_agg,aE,view_sl,view_lit,I,B,Sx,Ik,Sa.views]
theorem Sb.noView(x:Sb):(x.pv true).noView=true:=by simp only[Sb.pv_u,bq,a5,I,B,Sx,Ik,Bool.and_true,Bool.true_and,Bool.and_self,Sa.noViews,Sa.noViewsF]
theorem Sb.views(o:Bool)(l:List Sb):aE (l.map (Sb.pv o))=l.map (Sb.pv false):=views_map _ _ (fun a=>Sb.view o a) l
theorem Sb.noViews(l:List Sb):a5 (l.map (Sb.pv true))=true:=noViews_map _ (fun a=>Sb.noView a) l
theorem Sb.psize(o:Bool)(x:Sb):(x.pv o).size=3:=by simp only[Sb.pv_u,PV.size,aX,I,B,Sx,Ik]
theorem Sb.isAgg(o:Bool)(x:Sb):(CV.pv (x.pv o)).isAgg=true:=by rw[Sb.pv_u]; rfl
structure Ct where
 Arities:List Int
 Calls:List Sb
instance:Inhabited Ct:=⟨(Ct.mk ([]) ([]))⟩
def Ct.pv(o:Bool)(x:Ct):PV:=.agg [.sl o 1 (x.Arities.map I),.sl o 3 (x.Calls.map (Sb.pv o))]
theorem Ct.pv_u(o:Bool)(x:Ct):x.pv o=.agg [.sl o 1 (x.Arities.map I),.sl o 3 (x.Calls.map (Sb.pv o))]:=rfl
theorem Ct.view(o:Bool)(x:Ct):(x.pv o).view=x.pv false:=by simp only[Ct.pv_u,view_agg,aE,view_sl,view_lit,I,B,Sx,Ik,views_I,views_Ik,Sb.views]
theorem Ct.noView(x:Ct):(x.pv true).noView=true:=by simp only[Ct.pv_u,bq,a5,I,B,Sx,Ik,Bool.and_true,Bool.true_and,Bool.and_self,noViews_I,noViews_Ik,Sb.noViews]
theorem Ct.views(o:Bool)(l:List Ct):aE (l.map (Ct.pv o))=l.map (Ct.pv false):=views_map _ _ (fun a=>Ct.view o a) l
theorem Ct.noViews(l:List Ct):a5 (l.map (Ct.pv true))=true:=noViews_map _ (fun a=>Ct.noView a) l
theorem Ct.psize(o:Bool)(x:Ct):(x.pv o).size=2:=by simp only[Ct.pv_u,PV.size,aX,I,B,Sx,Ik]
theorem Ct.isAgg(o:Bool)(x:Ct):(CV.pv (x.pv o)).isAgg=true:=by rw[Ct.pv_u]; rfl
structure la where
 code:List Int
 at_f:Int
 seed:Int
instance:Inhabited la:=⟨(la.mk ([]) (0:Int) (0:Int))⟩
def la.pv(o:Bool)(x:la):PV:=.agg [.sl o 1 (x.code.map (Ik .u8)),I x.at_f,(Ik .u64) x.seed]
theorem la.pv_u(o:Bool)(x:la):x.pv o=.agg [.sl o 1 (x.code.map (Ik .u8)),I x.at_f,(Ik .u64) x.seed]:=rfl
theorem la.view(o:Bool)(x:la):(x.pv o).view=x.pv false:=by simp only[la.pv_u,view_agg,aE,view_sl,view_lit,I,B,Sx,Ik,views_I,views_Ik]
theorem la.noView(x:la):(x.pv true).noView=true:=by simp only[la.pv_u,bq,a5,I,B,Sx,Ik,Bool.and_true,Bool.true_and,Bool.and_self,noViews_I,noViews_Ik]
theorem la.views(o:Bool)(l:List la):aE (l.map (la.pv o))=l.map (la.pv false):=views_map _ _ (fun a=>la.view o a) l
theorem la.noViews(l:List la):a5 (l.map (la.pv true))=true:=noViews_map _ (fun a=>la.noView a) l
theorem la.psize(o:Bool)(x:la):(x.pv o).size=3:=by simp only[la.pv_u,PV.size,aX,I,B,Sx,Ik]
theorem la.isAgg(o:Bool)(x:la):(CV.pv (x.pv o)).isAgg=true:=by rw[la.pv_u]; rfl
structure ft where
 graph:Sb
 path:List Int
instance:Inhabited ft:=⟨(ft.mk (Sb.mk (0:Int) (0:Int) ([])) ([]))⟩
def ft.pv(o:Bool)(x:ft):PV:=.agg [x.graph.pv o,.sl o 1 (x.path.map I)]
theorem ft.pv_u(o:Bool)(x:ft):x.pv o=.agg [x.graph.pv o,.sl o 1 (x.path.map I)]:=rfl
theorem ft.view(o:Bool)(x:ft):(x.pv o).view=x.pv false:=by simp only[ft.pv_u,view_agg,aE,view_sl,view_lit,I,B,Sx,Ik,Sb.view,views_I,views_Ik]
theorem ft.noView(x:ft):(x.pv true).noView=true:=by simp only[ft.pv_u,bq,a5,I,B,Sx,Ik,Bool.and_true,Bool.true_and,Bool.and_self,Sb.noView,noViews_I,noViews_Ik]
theorem ft.views(o:Bool)(l:List ft):aE (l.map (ft.pv o))=l.map (ft.pv false):=views_map _ _ (fun a=>ft.view o a) l
theorem ft.noViews(l:List ft):a5 (l.map (ft.pv true))=true:=noViews_map _ (fun a=>ft.noView a) l
theorem ft.psize(o:Bool)(x:ft):(x.pv o).size=4:=by simp only[ft.pv_u,PV.size,aX,I,B,Sx,Ik,Sb.psize]
theorem ft.isAgg(o:Bool)(x:ft):(CV.pv (x.pv o)).isAgg=true:=by rw[ft.pv_u]; rfl
structure At where
 f0:Int
 f1:Int
 f2:Int
 f3:Int
instance:Inhabited At:=⟨(At.mk (0:Int) (0:Int) (0:Int) (0:Int))⟩
def At.pv(o:Bool)(x:At):PV:=.agg [I x.f0,I x.f1,I x.f2,I x.f3]
theorem At.pv_u(o:Bool)(x:At):x.pv o=.agg [I x.f0,I x.f1,I x.f2,I x.f3]:=rfl
theorem At.view(o:Bool)(x:At):(x.pv o).view=x.pv false:=by simp only[At.pv_u,view_agg,aE,view_sl,view_lit,I,B,Sx,Ik]
theorem At.noView(x:At):(x.pv true).noView=true:=by simp only[At.pv_u,bq,a5,I,B,Sx,Ik,Bool.and_true,Bool.true_and,Bool.and_self]
theorem At.noViewF(x:At):(x.pv false).noView=true:=by simp only[At.pv_u,bq,a5,I,B,Sx,Ik,Bool.and_true,Bool.and_self]
theorem At.views(o:Bool)(l:List At):aE (l.map (At.pv o))=l.map (At.pv false):=views_map _ _ (fun a=>At.view o a) l
theorem At.noViews(l:List At):a5 (l.map (At.pv true))=true:=noViews_map _ (fun a=>At.noView a) l
theorem At.noViewsF(l:List At):a5 (l.map (At.pv false))=true:=noViews_map _ (fun a=>by simp only[At.pv_u,bq,a5,I,B,Sx,Ik,Bool.and_true,Bool.and_self]) l
theorem At.psize(o:Bool)(x:At):(x.pv o).size=4:=by simp only[At.pv_u,PV.size,aX,I,B,Sx,Ik]
theorem At.isAgg(o:Bool)(x:At):(CV.pv (x.pv o)).isAgg=true:=by rw[At.pv_u]; rfl
def zab0:CV:=.node [(.pv (I (0:Int))),(.pv (I (0:Int))),(.pv (.sl true 3 []))]
@[push_cast] theorem zab0_e:zab0=.node [(.pv (I (0:Int))),(.pv (I (0:Int))),(.pv (.sl true 3 []))]:=rfl
def RS:=aa @Sa.pv_u<|aa @Sa.views<|aa @Sa.noViews<|aa @Sa.noViewsF<|aa @Sb.pv_u<|aa @Sb.views<|aa @Sb.noViews<|aa @Ct.pv_u<|aa @Ct.views<|aa @Ct.noViews<|aa @la.pv_u<|aa @la.views<|aa @la.noViews<|aa @ft.pv_u<|aa @ft.views<|aa @ft.noViews<|aa @At.pv_u<|aa @At.views<|aa @At.noViews<|@At.noViewsF
def TP:=aa @RA (aa @RI @RX)
attribute [push_cast] Sa.pv_u Sa.views Sa.noViews Sa.noViewsF Sb.pv_u Sb.views Sb.noViews Ct.pv_u Ct.views Ct.noViews la.pv_u la.views la.noViews ft.pv_u ft.views ft.noViews At.pv_u At.views At.noViews At.noViewsF
end Go.Proofs.Ytjpljobgioglmaa
