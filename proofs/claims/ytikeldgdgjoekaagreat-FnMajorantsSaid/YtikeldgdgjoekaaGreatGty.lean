/- Lemmas of the proof; each says what it shows. -/
import Derived.Test.YtikeldgdgjoekaaGreatAvFs
set_option linter.unusedSimpArgs false
set_option linter.unusedVariables false
set_option linter.defProp false
set_option maxRecDepth 4000
namespace Go.Proofs.YtikeldgdgjoekaaGreat
open Go.Av
open And renaming intro→aa
open PV renaming views→aw,noViews→a8
inductive Tt where
 | mk (Name_:ByteArray) (Args_:List Tt)
instance:Inhabited Tt:=⟨.mk (⟨#[]⟩:ByteArray) ([])⟩
def Tt.Name:Tt→ByteArray
 | .mk a _=>a
def Tt.Args:Tt→List Tt
 | .mk _ a=>a
mutual
def Tt.pv(o:Bool):Tt→PV
 | .mk x0 x1=>.agg [Sx x0,.sl o 2 (Tt.pvs o x1)]
def Tt.pvs(o:Bool):List Tt→List PV
 | []=>[]
 | a::l=>a.pv o::Tt.pvs o l
end
theorem Tt.pvs_eq(o:Bool)(l:List Tt):Tt.pvs o l=l.map (Tt.pv o):=by
 induction l with
 | nil=>rfl
 | cons a l ih=>rw[Tt.pvs,ih]; rfl
theorem Tt.ind{M:Tt→Prop}(h:∀ x0 x1,(∀ a∈x1,M a)→M (.mk x0 x1))(t:Tt):M t:=
 Tt.rec (motive_1:=M) (motive_2:=fun l=>∀ a∈l,M a) (fun x0 x1 ih=>h x0 x1 ih) (by simp) (fun a l h1 h2=>by simpa using⟨h1,h2⟩) t
theorem Tt.pv_u(o:Bool)(x:Tt):x.pv o=.agg [Sx x.Name,.sl o 2 (x.Args.map (Tt.pv o))]:=by cases x; rw[Tt.pv,Tt.pvs_eq]; rfl
theorem Tt.ind'{M:Tt→Prop}(h:∀ t:Tt,(∀ a∈t.Args,M a)→M t)(t:Tt):M t:=
 Tt.ind (M:=M) (fun x0 x1 ih=>h (.mk x0 x1) ih) t
theorem Tt.lt{t a:Tt}(h:a∈t.Args):SizeOf.sizeOf a<SizeOf.sizeOf t:=by
 cases t
 have:=List.sizeOf_lt_of_mem h
 simp only[Tt.Args] at this
 simp only[Tt.mk.sizeOf_spec]; omega
theorem Tt.pos(t:Tt):0<SizeOf.sizeOf t:=by cases t; simp only[Tt.mk.sizeOf_spec]; omega
theorem Tt.Name_mk(x0:_)(x1:_):(Tt.mk x0 x1).Name=x0:=rfl
theorem Tt.Args_mk(x0:_)(x1:_):(Tt.mk x0 x1).Args=x1:=rfl
theorem Tt.eta(x:Tt):Tt.mk x.Name x.Args=x:=by cases x; rfl
theorem Tt.views'(o:Bool)(l:List Tt)(h:∀ a∈l,(a.pv o).view=a.pv false):aw (l.map (Tt.pv o))=l.map (Tt.pv false):=by
 induction l with
 | nil=>rfl
 | cons a l ih=>simp only[List.map_cons,aw,h a (by simp),ih (fun b hb=>h b (by simp[hb]))]
theorem Tt.view(o:Bool)(x:Tt):(x.pv o).view=x.pv false:=
 Tt.ind (M:=fun x=>(x.pv o).view=x.pv false) (fun x0 x1 ih=>by simp only[Tt.pv_u,Tt.Name_mk,Tt.Args_mk,view_agg,aw,view_sl,view_lit,I,B,Sx,Ik,Tt.views' o x1 ih]) x
theorem Tt.noViews'(l:List Tt)(h:∀ a∈l,(a.pv true).noView=true):a8 (l.map (Tt.pv true))=true:=by
 induction l with
 | nil=>rfl
 | cons a l ih=>simp only[List.map_cons,a8,h a (by simp),ih (fun b hb=>h b (by simp[hb])),Bool.and_true]
theorem Tt.noView(x:Tt):(x.pv true).noView=true:=
 Tt.ind (M:=fun x=>(x.pv true).noView=true) (fun x0 x1 ih=>by simp only[Tt.pv_u,Tt.Name_mk,Tt.Args_mk,PV.noView,a8,I,B,Sx,Ik,Tt.noViews' x1 ih,Bool.and_true,Bool.true_and,Bool.and_self]) x
theorem Tt.views(o:Bool)(l:List Tt):aw (l.map (Tt.pv o))=l.map (Tt.pv false):=views_map _ _ (fun a=>Tt.view o a) l
theorem Tt.noViews(l:List Tt):a8 (l.map (Tt.pv true))=true:=noViews_map _ (fun a=>Tt.noView a) l
theorem Tt.psize(o:Bool)(x:Tt):(x.pv o).size=2:=by simp only[Tt.pv_u,PV.size,PV.sizes,I,B,Sx,Ik]
theorem Tt.isAgg(o:Bool)(x:Tt):(CV.pv (x.pv o)).isAgg=true:=by rw[Tt.pv_u]; rfl
structure Lt where
 Vars:List ByteArray
 Slopes:List Int
 Constant:Int
instance:Inhabited Lt:=⟨(Lt.mk ([]) ([]) (0:Int))⟩
def Lt.pv(o:Bool)(x:Lt):PV:=.agg [.sl o 1 (x.Vars.map Sx),.sl o 1 (x.Slopes.map I),I x.Constant]
theorem Lt.pv_u(o:Bool)(x:Lt):x.pv o=.agg [.sl o 1 (x.Vars.map Sx),.sl o 1 (x.Slopes.map I),I x.Constant]:=rfl
theorem Lt.view(o:Bool)(x:Lt):(x.pv o).view=x.pv false:=by simp only[Lt.pv_u,view_agg,aw,view_sl,view_lit,I,B,Sx,Ik,views_Sx,views_I,views_Ik]
theorem Lt.noView(x:Lt):(x.pv true).noView=true:=by simp only[Lt.pv_u,PV.noView,a8,I,B,Sx,Ik,Bool.and_true,Bool.true_and,Bool.and_self,noViews_Sx,noViews_I,noViews_Ik]
theorem Lt.views(o:Bool)(l:List Lt):aw (l.map (Lt.pv o))=l.map (Lt.pv false):=views_map _ _ (fun a=>Lt.view o a) l
theorem Lt.noViews(l:List Lt):a8 (l.map (Lt.pv true))=true:=noViews_map _ (fun a=>Lt.noView a) l
theorem Lt.psize(o:Bool)(x:Lt):(x.pv o).size=3:=by simp only[Lt.pv_u,PV.size,PV.sizes,I,B,Sx,Ik]
theorem Lt.isAgg(o:Bool)(x:Lt):(CV.pv (x.pv o)).isAgg=true:=by rw[Lt.pv_u]; rfl
structure la where
 code:List Int
 at_f:Int
 seed:Int
instance:Inhabited la:=⟨(la.mk ([]) (0:Int) (0:Int))⟩
def la.pv(o:Bool)(x:la):PV:=.agg [.sl o 1 (x.code.map (Ik .u8)),I x.at_f,(Ik .u64) x.seed]
theorem la.pv_u(o:Bool)(x:la):x.pv o=.agg [.sl o 1 (x.code.map (Ik .u8)),I x.at_f,(Ik .u64) x.seed]:=rfl
theorem la.view(o:Bool)(x:la):(x.pv o).view=x.pv false:=by simp only[la.pv_u,view_agg,aw,view_sl,view_lit,I,B,Sx,Ik,views_I,views_Ik]
theorem la.noView(x:la):(x.pv true).noView=true:=by simp only[la.pv_u,PV.noView,a8,I,B,Sx,Ik,Bool.and_true,Bool.true_and,Bool.and_self,noViews_I,noViews_Ik]
theorem la.views(o:Bool)(l:List la):aw (l.map (la.pv o))=l.map (la.pv false):=views_map _ _ (fun a=>la.view o a) l
theorem la.noViews(l:List la):a8 (l.map (la.pv true))=true:=noViews_map _ (fun a=>la.noView a) l
theorem la.psize(o:Bool)(x:la):(x.pv o).size=3:=by simp only[la.pv_u,PV.size,PV.sizes,I,B,Sx,Ik]
theorem la.isAgg(o:Bool)(x:la):(CV.pv (x.pv o)).isAgg=true:=by rw[la.pv_u]; rfl
structure Mt where
 Name:ByteArray
 Slopes:List Int
 Constant:Int
instance:Inhabited Mt:=⟨(Mt.mk (⟨#[]⟩:ByteArray) ([]) (0:Int))⟩
def Mt.pv(o:Bool)(x:Mt):PV:=.agg [Sx x.Name,.sl o 1 (x.Slopes.map I),I x.Constant]
theorem Mt.pv_u(o:Bool)(x:Mt):x.pv o=.agg [Sx x.Name,.sl o 1 (x.Slopes.map I),I x.Constant]:=rfl
theorem Mt.view(o:Bool)(x:Mt):(x.pv o).view=x.pv false:=by simp only[Mt.pv_u,view_agg,aw,view_sl,view_lit,I,B,Sx,Ik,views_I,views_Ik]
theorem Mt.noView(x:Mt):(x.pv true).noView=true:=by simp only[Mt.pv_u,PV.noView,a8,I,B,Sx,Ik,Bool.and_true,Bool.true_and,Bool.and_self,noViews_I,noViews_Ik]
theorem Mt.views(o:Bool)(l:List Mt):aw (l.map (Mt.pv o))=l.map (Mt.pv false):=views_map _ _ (fun a=>Mt.view o a) l
theorem Mt.noViews(l:List Mt):a8 (l.map (Mt.pv true))=true:=noViews_map _ (fun a=>Mt.noView a) l
theorem Mt.psize(o:Bool)(x:Mt):(x.pv o).size=3:=by simp only[Mt.pv_u,PV.size,PV.sizes,I,B,Sx,Ik]
theorem Mt.isAgg(o:Bool)(x:Mt):(CV.pv (x.pv o)).isAgg=true:=by rw[Mt.pv_u]; rfl
def zab0:CV:=.node [(.pv (.sl true 1 [])),(.pv (.sl true 1 [])),(.pv (I (0:Int)))]
@[push_cast] theorem zab0_e:zab0=.node [(.pv (.sl true 1 [])),(.pv (.sl true 1 [])),(.pv (I (0:Int)))]:=rfl
def RS:=aa @Tt.pv_u<|aa @Tt.views<|aa @Tt.noViews<|aa @Tt.Name_mk<|aa @Tt.Args_mk<|aa @Lt.pv_u<|aa @Lt.views<|aa @Lt.noViews<|aa @la.pv_u<|aa @la.views<|aa @la.noViews<|aa @Mt.pv_u<|aa @Mt.views<|@Mt.noViews
def TP:=aa @RA (aa @RI (aa @RX @RF))
attribute [push_cast] Tt.pv_u Tt.views Tt.noViews Tt.Name_mk Tt.Args_mk Lt.pv_u Lt.views Lt.noViews la.pv_u la.views la.noViews Mt.pv_u Mt.views Mt.noViews
end Go.Proofs.YtikeldgdgjoekaaGreat
