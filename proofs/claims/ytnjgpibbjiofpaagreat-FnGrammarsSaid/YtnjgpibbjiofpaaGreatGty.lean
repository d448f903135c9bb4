/- Lemmas of the proof; each says what it shows. -/
import Derived.Test.YtnjgpibbjiofpaaGreatAvAs
set_option linter.unusedSimpArgs false
set_option linter.unusedVariables false
set_option linter.defProp false
set_option maxRecDepth 4000
namespace Go.Proofs.YtnjgpibbjiofpaaGreat
open Go.Av
open And renaming intro→ae
open PV renaming views→az,noViews→aT,noView→bD,size→aO,sizes→bh
inductive Tt where
 | mk (Name_:ByteArray) (Args_:List Tt)
instance:Inhabited Tt:=⟨.mk (⟨#[]⟩:ByteArray) ([])⟩
def Tt.Name:Tt→ByteArray
 | .mk a _=>a
def Tt.Args:Tt→List Tt
 | .mk _ a=>a
mutual
def Tt.pv(o:Bool):Tt→PV
 | .mk x0 x1=>.agg [Sx x0,.sl o 2 (Tt.pvs o x1)]
def Tt.pvs(o:Bool):List Tt→List PV
 | []=>[]
 | a::l=>a.pv o::Tt.pvs o l
end
theorem Tt.pvs_eq(o:Bool)(l:List Tt):Tt.pvs o l=l.map (Tt.pv o):=by
 induction l with
 | nil=>rfl
 | cons a l ih=>rw[Tt.pvs,ih]; rfl
theorem Tt.ind{M:Tt→Prop}(h:∀ x0 x1,(∀ a∈x1,M a)→M (.mk x0 x1))(t:Tt):M t:=
 Tt.rec (motive_1:=M) (motive_2:=fun l=>∀ a∈l,M a) (fun x0 x1 ih=>h x0 x1 ih) (by simp) (fun a l h1 h2=>by simpa using⟨h1,h2⟩) t
theorem Tt.pv_u(o:Bool)(x:Tt):x.pv o=.agg [Sx x.Name,.sl o 2 (x.Args.map (Tt.pv o))]:=by cases x; rw[Tt.pv,Tt.pvs_eq]; rfl
theorem Tt.ind'{M:Tt→Prop}(h:∀ t:Tt,(∀ a∈t.Args,M a)→M t)(t:Tt):M t:=
 Tt.ind (M:=M) (fun x0 x1 ih=>h (.mk x0 x1) ih) t
theorem Tt.lt{t a:Tt}(h:a∈t.Args):SizeOf.sizeOf a<SizeOf.sizeOf t:=by
 cases t
 have:=List.sizeOf_lt_of_mem h
 simp only[Tt.Args] at this
 simp only[Tt.mk.sizeOf_spec]; omega
theorem Tt.pos(t:Tt):0<SizeOf.sizeOf t:=by cases t; simp only[Tt.mk.sizeOf_spec]; omega
theorem Tt.Name_mk(x0:_)(x1:_):(Tt.mk x0 x1).Name=x0:=rfl
theorem Tt.Args_mk(x0:_)(x1:_):(Tt.mk x0 x1).Args=x1:=rfl
theorem Tt.eta(x:Tt):Tt.mk x.Name x.Args=x:=by cases x; rfl
theorem Tt.views'(o:Bool)(l:List Tt)(h:∀ a∈l,(a.pv o).view=a.pv false):az (l.map (Tt.pv o))=l.map (Tt.pv false):=by
 induction l with
 | nil=>rfl
 | cons a l ih=>simp only[List.map_cons,az,h a (by simp),ih (fun b hb=>h b (by simp[hb]))]
theorem Tt.view(o:Bool)(x:Tt):(x.pv o).view=x.pv false:=
 Tt.ind (M:=fun x=>(x.pv o).view=x.pv false) (fun x0 x1 ih=>by simp only[Tt.pv_u,Tt.Name_mk,Tt.Args_mk,view_agg,az,view_sl,view_lit,I,B,Sx,Ik,Tt.views' o x1 ih]) x
theorem Tt.noViews'(l:List Tt)(h:∀ a∈l,(a.pv true).noView=true):aT (l.map (Tt.pv true))=true:=by
 induction l with
 | nil=>rfl
 | cons a l ih=>simp only[List.map_cons,aT,h a (by simp),ih (fun b hb=>h b (by simp[hb])),Bool.and_true]
theorem Tt.noView(x:Tt):(x.pv true).noView=true:=
 Tt.ind (M:=fun x=>(x.pv true).noView=true) (fun x0 x1 ih=>by simp only[Tt.pv_u,Tt.Name_mk,Tt.Args_mk,bD,aT,I,B,Sx,Ik,Tt.noViews' x1 ih,Bool.and_true,Bool.true_and,Bool.and_self]) x
theorem Tt.views(o:Bool)(l:List Tt):az (l.map (Tt.pv o))=l.map (Tt.pv false):=views_map _ _ (fun a=>Tt.view o a) l
theorem Tt.noViews(l:List Tt):aT (l.map (Tt.pv true))=true:=noViews_map _ (fun a=>Tt.noView a) l
theorem Tt.psize(o:Bool)(x:Tt):(x.pv o).size=2:=by simp only[Tt.pv_u,aO,bh,I,B,Sx,Ik]
theorem Tt.isAgg(o:Bool)(x:Tt):(CV.pv (x.pv o)).isAgg=true:=by rw[Tt.pv_u]; rfl
structure Dt where
 Patterns:List Tt
 Instances:List Tt
instance:Inhabited Dt:=⟨(Dt.mk ([]) ([]))⟩
def Dt.pv(o:Bool)(x:Dt):PV:=.agg [.sl o 2 (x.Patterns.map (Tt.pv o)),.sl o 2 (x.Instances.map (Tt.pv o))]
theorem Dt.pv_u(o:Bool)(x:Dt):x.pv o=.agg [.sl o 2 (x.Patterns.map (Tt.pv o)),.sl o 2 (x.Instances.map (Tt.pv o))]:=rfl
theorem Dt.view(o:Bool)(x:Dt):(x.pv o).view=x.pv false:=by simp only[Dt.pv_u,view_agg,az,view_sl,view_lit,I,B,Sx,Ik,Tt.views]
theorem Dt.noView(x:Dt):(x.pv true).noView=true:=by simp only[Dt.pv_u,bD,aT,I,B,Sx,Ik,Bool.and_true,Bool.true_and,Bool.and_self,Tt.noViews]
theorem Dt.views(o:Bool)(l:List Dt):az (l.map (Dt.pv o))=l.map (Dt.pv false):=views_map _ _ (fun a=>Dt.view o a) l
theorem Dt.noViews(l:List Dt):aT (l.map (Dt.pv true))=true:=noViews_map _ (fun a=>Dt.noView a) l
theorem Dt.psize(o:Bool)(x:Dt):(x.pv o).size=2:=by simp only[Dt.pv_u,aO,bh,I,B,Sx,Ik]
theorem Dt.isAgg(o:Bool)(x:Dt):(CV.pv (x.pv o)).isAgg=true:=by rw[Dt.pv_u]; rfl
structure gc where
 bits:Int
 pattern:Tt
 instances:List Tt
instance:Inhabited gc:=⟨(gc.mk (0:Int) (Tt.mk (⟨#[]⟩:ByteArray) ([])) ([]))⟩
def gc.pv(o:Bool)(x:gc):PV:=.agg [I x.bits,x.pattern.pv o,.sl o 2 (x.instances.map (Tt.pv o))]
theorem gc.pv_u(o:Bool)(x:gc):x.pv o=.agg [I x.bits,x.pattern.pv o,.sl o 2 (x.instances.map (Tt.pv o))]:=rfl
theorem gc.view(o:Bool)(x:gc):(x.pv o).view=x.pv false:=by simp only[gc.pv_u,view_agg,az,view_sl,view_lit,I,B,Sx,Ik,Tt.view,Tt.views]
theorem gc.noView(x:gc):(x.pv true).noView=true:=by simp only[gc.pv_u,bD,aT,I,B,Sx,Ik,Bool.and_true,Bool.true_and,Bool.and_self,Tt.noView,Tt.noViews]
theorem gc.views(o:Bool)(l:List gc):az (l.map (gc.pv o))=l.map (gc.pv false):=views_map _ _ (fun a=>gc.view o a) l
theorem gc.noViews(l:List gc):aT (l.map (gc.pv true))=true:=noViews_map _ (fun a=>gc.noView a) l
theorem gc.psize(o:Bool)(x:gc):(x.pv o).size=4:=by simp only[gc.pv_u,aO,bh,I,B,Sx,Ik,Tt.psize]
theorem gc.isAgg(o:Bool)(x:gc):(CV.pv (x.pv o)).isAgg=true:=by rw[gc.pv_u]; rfl
structure Bt where
 Var:ByteArray
 Term:Tt
instance:Inhabited Bt:=⟨(Bt.mk (⟨#[]⟩:ByteArray) (Tt.mk (⟨#[]⟩:ByteArray) ([])))⟩
def Bt.pv(o:Bool)(x:Bt):PV:=.agg [Sx x.Var,x.Term.pv o]
theorem Bt.pv_u(o:Bool)(x:Bt):x.pv o=.agg [Sx x.Var,x.Term.pv o]:=rfl
theorem Bt.view(o:Bool)(x:Bt):(x.pv o).view=x.pv false:=by simp only[Bt.pv_u,view_agg,az,view_sl,view_lit,I,B,Sx,Ik,Tt.view]
theorem Bt.noView(x:Bt):(x.pv true).noView=true:=by simp only[Bt.pv_u,bD,aT,I,B,Sx,Ik,Bool.and_true,Bool.true_and,Bool.and_self,Tt.noView]
theorem Bt.views(o:Bool)(l:List Bt):az (l.map (Bt.pv o))=l.map (Bt.pv false):=views_map _ _ (fun a=>Bt.view o a) l
theorem Bt.noViews(l:List Bt):aT (l.map (Bt.pv true))=true:=noViews_map _ (fun a=>Bt.noView a) l
theorem Bt.psize(o:Bool)(x:Bt):(x.pv o).size=3:=by simp only[Bt.pv_u,aO,bh,I,B,Sx,Ik,Tt.psize]
theorem Bt.isAgg(o:Bool)(x:Bt):(CV.pv (x.pv o)).isAgg=true:=by rw[Bt.pv_u]; rfl
structure Sa where
 Bindings:List Bt
instance:Inhabited Sa:=⟨(Sa.mk ([]))⟩
def Sa.pv(o:Bool)(x:Sa):PV:=.agg [.sl o 3 (x.Bindings.map (Bt.pv o))]
theorem Sa.pv_u(o:Bool)(x:Sa):x.pv o=.agg [.sl o 3 (x.Bindings.map (Bt.pv o))]:=rfl
theorem Sa.view(o:Bool)(x:Sa):(x.pv o).view=x.pv false:=by simp only[Sa.pv_u,view_agg,az,view_sl,view_lit,I,B,Sx,Ik,Bt.views]
theorem Sa.noView(x:Sa):(x.pv true).noView=true:=by simp only[Sa.pv_u,bD,aT,I,B,Sx,Ik,Bool.and_true,Bool.true_and,Bool.and_self,Bt.noViews]
theorem Sa.views(o:Bool)(l:List Sa):az (l.map (Sa.pv o))=l.map (Sa.pv false):=views_map _ _ (fun a=>Sa.view o a) l
theorem Sa.noViews(l:List Sa):aT (l.map (Sa.pv true))=true:=noViews_map _ (fun a=>Sa.noView a) l
theorem Sa.psize(o:Bool)(x:Sa):(x.pv o).size=1:=by simp only[Sa.pv_u,aO,bh,I,B,Sx,Ik]
theorem Sa.isAgg(o:Bool)(x:Sa):(CV.pv (x.pv o)).isAgg=true:=by rw[Sa.pv_u]; rfl
structure lc where
 code:List Int
 at_f:Int
 seed:Int
instance:Inhabited lc:=⟨(lc.mk ([]) (0:Int) (0:Int))⟩
def lc.pv(o:Bool)(x:lc):PV:=.agg [.sl o 1 (x.code.map (Ik .u8)),I x.at_f,(Ik .u64) x.seed]
theorem lc.pv_u(o:Bool)(x:lc):x.pv o=.agg [.sl o 1 (x.code.map (Ik .u8)),I x.at_f,(Ik .u64) x.seed]:=rfl
theorem lc.view(o:Bool)(x:lc):(x.pv o).view=x.pv false:=by simp only[lc.pv_u,view_agg,az,view_sl,view_lit,I,B,Sx,Ik,views_I,views_Ik]
theorem lc.noView(x:lc):(x.pv true).noView=true:=by simp only[lc.pv_u,bD,aT,I,B,Sx,Ik,Bool.and_true,Bool.true_and,Bool.and_self,noViews_I,noViews_Ik]
theorem lc.views(o:Bool)(l:List lc):az (l.map (lc.pv o))=l.map (lc.pv false):=views_map _ _ (fun a=>lc.view o a) l
theorem lc.noViews(l:List lc):aT (l.map (lc.pv true))=true:=noViews_map _ (fun a=>lc.noView a) l
theorem lc.psize(o:Bool)(x:lc):(x.pv o).size=3:=by simp only[lc.pv_u,aO,bh,I,B,Sx,Ik]
theorem lc.isAgg(o:Bool)(x:lc):(CV.pv (x.pv o)).isAgg=true:=by rw[lc.pv_u]; rfl
structure ld where
 pattern:Tt
 covers:Int
instance:Inhabited ld:=⟨(ld.mk (Tt.mk (⟨#[]⟩:ByteArray) ([])) (0:Int))⟩
def ld.pv(o:Bool)(x:ld):PV:=.agg [x.pattern.pv o,I x.covers]
theorem ld.pv_u(o:Bool)(x:ld):x.pv o=.agg [x.pattern.pv o,I x.covers]:=rfl
theorem ld.view(o:Bool)(x:ld):(x.pv o).view=x.pv false:=by simp only[ld.pv_u,view_agg,az,view_sl,view_lit,I,B,Sx,Ik,Tt.view]
theorem ld.noView(x:ld):(x.pv true).noView=true:=by simp only[ld.pv_u,bD,aT,I,B,Sx,Ik,Bool.and_true,Bool.true_and,Bool.and_self,Tt.noView]
theorem ld.views(o:Bool)(l:List ld):az (l.map (ld.pv o))=l.map (ld.pv false):=views_map _ _ (fun a=>ld.view o a) l
theorem ld.noViews(l:List ld):aT (l.map (ld.pv true))=true:=noViews_map _ (fun a=>ld.noView a) l
theorem ld.psize(o:Bool)(x:ld):(x.pv o).size=3:=by simp only[ld.pv_u,aO,bh,I,B,Sx,Ik,Tt.psize]
theorem ld.isAgg(o:Bool)(x:ld):(CV.pv (x.pv o)).isAgg=true:=by rw[ld.pv_u]; rfl
structure lf where
 instances:List Tt
 candidates:List ld
instance:Inhabited lf:=⟨(lf.mk ([]) ([]))⟩
def lf.pv(o:Bool)(x:lf):PV:=.agg [.sl o 2 (x.instances.map (Tt.pv o)),.sl o 3 (x.candidates.map (ld.pv o))]
theorem lf.pv_u(o:Bool)(x:lf):x.pv o=.agg [.sl o 2 (x.instances.map (Tt.pv o)),.sl o 3 (x.candidates.map (ld.pv o))]:=rfl
theorem lf.view(o:Bool)(x:lf):(x.pv o).view=x.pv false:=by simp only[lf.pv_u,view_agg,az,view_sl,view_lit,I,B,Sx,Ik,Tt.views,ld.views]
theorem lf.noView(x:lf):(x.pv true).noView=true:=by simp only[lf.pv_u,bD,aT,I,B,Sx,Ik,Bool.and_true,Bool.true_and,Bool.and_self,Tt.noViews,ld.noViews]
theorem lf.views(o:Bool)(l:List lf):az (l.map (lf.pv o))=l.map (lf.pv false):=views_map _ _ (fun a=>lf.view o a) l
theorem lf.noViews(l:List lf):aT (l.map (lf.pv true))=true:=noViews_map _ (fun a=>lf.noView a) l
theorem lf.psize(o:Bool)(x:lf):(x.pv o).size=2:=by simp only[lf.pv_u,aO,bh,I,B,Sx,Ik]
theorem lf.isAgg(o:Bool)(x:lf):(CV.pv (x.pv o)).isAgg=true:=by rw[lf.pv_u]; rfl
def lf.pvt(x:lf):PV:=.agg [.sl false 2 (x.instances.map (Tt.pv false)),.sl true 3 (x.candidates.map (ld.pv false))]
theorem lf.pvt_u(x:lf):x.pvt=.agg [.sl false 2 (x.instances.map (Tt.pv false)),.sl true 3 (x.candidates.map (ld.pv false))]:=rfl
theorem lf.viewt(x:lf):x.pvt.view=x.pv false:=by simp only[lf.pvt_u,lf.pv_u,view_agg,az,view_sl,view_lit,I,B,Sx,Ik,Tt.views,ld.views]
theorem lf.viewst(l:List lf):az (l.map lf.pvt)=l.map (lf.pv false):=views_map _ _ (fun a=>lf.viewt a) l
theorem lf.psizet(x:lf):x.pvt.size=2:=by simp only[lf.pvt_u,aO,bh,I,B,Sx,Ik]
structure ct where
 pattern:Tt
 covers:Int
instance:Inhabited ct:=⟨(ct.mk (Tt.mk (⟨#[]⟩:ByteArray) ([])) (0:Int))⟩
def ct.pv(o:Bool)(x:ct):PV:=.agg [x.pattern.pv o,I x.covers]
theorem ct.pv_u(o:Bool)(x:ct):x.pv o=.agg [x.pattern.pv o,I x.covers]:=rfl
theorem ct.view(o:Bool)(x:ct):(x.pv o).view=x.pv false:=by simp only[ct.pv_u,view_agg,az,view_sl,view_lit,I,B,Sx,Ik,Tt.view]
theorem ct.noView(x:ct):(x.pv true).noView=true:=by simp only[ct.pv_u,bD,aT,I,B,Sx,Ik,Bool.and_true,Bool.true_and,Bool.and_self,Tt.noView]
theorem ct.views(o:Bool)(l:List ct):az (l.map (ct.pv o))=l.map (ct.pv false):=views_map _ _ (fun a=>ct.view o a) l
theorem ct.noViews(l:List ct):aT (l.map (ct.pv true))=true:=noViews_map _ (fun a=>ct.noView a) l
theorem ct.psize(o:Bool)(x:ct):(x.pv o).size=3:=by simp only[ct.pv_u,aO,bh,I,B,Sx,Ik,Tt.psize]
theorem ct.isAgg(o:Bool)(x:ct):(CV.pv (x.pv o)).isAgg=true:=by rw[ct.pv_u]; rfl
def zab0:CV:=.node [(.pv (Sx (⟨#[65]⟩:ByteArray))),(.pv (.sl true 2 []))]
@[push_cast] theorem zab0_e:zab0=.node [(.pv (Sx (⟨#[65]⟩:ByteArray))),(.pv (.sl true 2 []))]:=rfl
def zab1:CV:=.node [(.pv (Sx (⟨#[]⟩:ByteArray))),(.pv (.sl true 2 []))]
@[push_cast] theorem zab1_e:zab1=.node [(.pv (Sx (⟨#[]⟩:ByteArray))),(.pv (.sl true 2 []))]:=rfl
def zab2:CV:=.node [(.pv (.sl true 2 [])),(.pv (.sl true 2 []))]
@[push_cast] theorem zab2_e:zab2=.node [(.pv (.sl true 2 [])),(.pv (.sl true 2 []))]:=rfl
def RS:=ae @Tt.pv_u<|ae @Tt.views<|ae @Tt.noViews<|ae @Tt.Name_mk<|ae @Tt.Args_mk<|ae @Dt.pv_u<|ae @Dt.views<|ae @Dt.noViews<|ae @gc.pv_u<|ae @gc.views<|ae @gc.noViews<|ae @Bt.pv_u<|ae @Bt.views<|ae @Bt.noViews<|ae @Sa.pv_u<|ae @Sa.views<|ae @Sa.noViews<|ae @lc.pv_u<|ae @lc.views<|ae @lc.noViews<|ae @ld.pv_u<|ae @ld.views<|ae @ld.noViews<|ae @lf.pv_u<|ae @lf.views<|ae @lf.noViews<|ae @lf.pvt_u<|ae @lf.viewst<|ae @ct.pv_u<|ae @ct.views<|@ct.noViews
def TP:=ae @RA (ae @RI (ae @RX @RF))
attribute [push_cast] Tt.pv_u Tt.views Tt.noViews Tt.Name_mk Tt.Args_mk Dt.pv_u Dt.views Dt.noViews gc.pv_u gc.views gc.noViews Bt.pv_u Bt.views Bt.noViews Sa.pv_u Sa.views Sa.noViews lc.pv_u lc.views lc.noViews ld.pv_u ld.views ld.noViews lf.pv_u lf.views lf.noViews lf.pvt_u lf.viewst ct.pv_u ct.views ct.noViews
end Go.Proofs.YtnjgpibbjiofpaaGreat
