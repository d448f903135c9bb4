/- Lemmas of the proof; each says what it shows. -/
import Derived.Test.YtikhljkojadogaaGreatAvF5
set_option linter.unusedSimpArgs false
set_option linter.unusedVariables false
set_option linter.defProp false
set_option maxRecDepth 4000
namespace Go.Proofs.YtikhljkojadogaaGreat
open Go.Av
open And renaming intro→aa
open PV renaming views→au,noViews→aQ
inductive Tt where
 | mk (Name_:ByteArray) (Args_:List Tt)
instance:Inhabited Tt:=⟨.mk (⟨#[]⟩:ByteArray) ([])⟩
def Tt.Name:Tt→ByteArray
 | .mk a _=>a
def Tt.Args:Tt→List Tt
 | .mk _ a=>a
mutual
def Tt.pv(o:Bool):Tt→PV
 | .mk x0 x1=>.agg [Sx x0,.sl o 2 (Tp_ o x1)]
def Tp_(o:Bool):List Tt→List PV
 | []=>[]
 | a::l=>a.pv o::Tp_ o l
end
theorem Tpe_(o:Bool)(l:List Tt):Tp_ o l=l.map (Tt.pv o):=by
 induction l with
 | nil=>rfl
 | cons a l ih=>rw[Tp_,ih]; rfl
theorem Ti_1{M:Tt→Prop}(h:∀ x0 x1,(∀ a∈x1,M a)→M (.mk x0 x1))(t:Tt):M t:=
 Tt.rec (motive_1:=M) (motive_2:=fun l=>∀ a∈l,M a) (fun x0 x1 ih=>h x0 x1 ih) (by simp) (fun a l h1 h2=>by simpa using⟨h1,h2⟩) t
theorem Tt.pv_u(o:Bool)(x:Tt):x.pv o=.agg [Sx x.Name,.sl o 2 (x.Args.map (Tt.pv o))]:=by cases x; rw[Tt.pv,Tpe_]; rfl
theorem Ti_{M:Tt→Prop}(h:∀ t:Tt,(∀ a∈t.Args,M a)→M t)(t:Tt):M t:=
 Ti_1 (M:=M) (fun x0 x1 ih=>h (.mk x0 x1) ih) t
theorem Tt.lt{t a:Tt}(h:a∈t.Args):SizeOf.sizeOf a<SizeOf.sizeOf t:=by
 cases t
 have:=List.sizeOf_lt_of_mem h
 simp only[Tt.Args] at this
 simp only[Tt.mk.sizeOf_spec]; omega
theorem Tt.pos(t:Tt):0<SizeOf.sizeOf t:=by cases t; simp only[Tt.mk.sizeOf_spec]; omega
theorem TNm_(x0:_)(x1:_):(Tt.mk x0 x1).Name=x0:=rfl
theorem TAm_(x0:_)(x1:_):(Tt.mk x0 x1).Args=x1:=rfl
theorem Tt.eta(x:Tt):Tt.mk x.Name x.Args=x:=by cases x; rfl
theorem Tv_1(o:Bool)(l:List Tt)(h:∀ a∈l,(a.pv o).view=a.pv false):au (l.map (Tt.pv o))=l.map (Tt.pv false):=by
 induction l with
 | nil=>rfl
 | cons a l ih=>simp only[List.map_cons,au,h a (by simp),ih (fun b hb=>h b (by simp[hb]))]
theorem Tt.view(o:Bool)(x:Tt):(x.pv o).view=x.pv false:=
 Ti_1 (M:=fun x=>(x.pv o).view=x.pv false) (fun x0 x1 ih=>by simp only[Tt.pv_u,TNm_,TAm_,va_,au,vs_,vl_,I,B,Sx,Ik,Tv_1 o x1 ih]) x
theorem TnV_(l:List Tt)(h:∀ a∈l,(a.pv true).noView=true):aQ (l.map (Tt.pv true))=true:=by
 induction l with
 | nil=>rfl
 | cons a l ih=>simp only[List.map_cons,aQ,h a (by simp),ih (fun b hb=>h b (by simp[hb])),Bool.and_true]
theorem Tt.noView(x:Tt):(x.pv true).noView=true:=
 Ti_1 (M:=fun x=>(x.pv true).noView=true) (fun x0 x1 ih=>by simp only[Tt.pv_u,TNm_,TAm_,PV.noView,aQ,I,B,Sx,Ik,TnV_ x1 ih,Bool.and_true,Bool.true_and,Bool.and_self]) x
theorem Tt.views(o:Bool)(l:List Tt):au (l.map (Tt.pv o))=l.map (Tt.pv false):=vm_ _ _ (fun a=>Tt.view o a) l
theorem Tt.noViews(l:List Tt):aQ (l.map (Tt.pv true))=true:=nVm_ _ (fun a=>Tt.noView a) l
theorem Tt.psize(o:Bool)(x:Tt):(x.pv o).size=2:=by simp only[Tt.pv_u,PV.size,PV.sizes,I,B,Sx,Ik]
theorem Tt.isAgg(o:Bool)(x:Tt):(CV.pv (x.pv o)).isAgg=true:=by rw[Tt.pv_u]; rfl
structure Dt where
 Patterns:List Tt
 Instances:List Tt
instance:Inhabited Dt:=⟨(Dt.mk ([]) ([]))⟩
def Dt.pv(o:Bool)(x:Dt):PV:=.agg [.sl o 2 (x.Patterns.map (Tt.pv o)),.sl o 2 (x.Instances.map (Tt.pv o))]
theorem Dt.pv_u(o:Bool)(x:Dt):x.pv o=.agg [.sl o 2 (x.Patterns.map (Tt.pv o)),.sl o 2 (x.Instances.map (Tt.pv o))]:=rfl
theorem Dt.view(o:Bool)(x:Dt):(x.pv o).view=x.pv false:=by simp only[Dt.pv_u,va_,au,vs_,vl_,I,B,Sx,Ik,Tt.views]
theorem Dt.noView(x:Dt):(x.pv true).noView=true:=by simp only[Dt.pv_u,PV.noView,aQ,I,B,Sx,Ik,Bool.and_true,Bool.true_and,Bool.and_self,Tt.noViews]
theorem Dt.views(o:Bool)(l:List Dt):au (l.map (Dt.pv o))=l.map (Dt.pv false):=vm_ _ _ (fun a=>Dt.view o a) l
theorem Dt.noViews(l:List Dt):aQ (l.map (Dt.pv true))=true:=nVm_ _ (fun a=>Dt.noView a) l
theorem Dt.psize(o:Bool)(x:Dt):(x.pv o).size=2:=by simp only[Dt.pv_u,PV.size,PV.sizes,I,B,Sx,Ik]
theorem Dt.isAgg(o:Bool)(x:Dt):(CV.pv (x.pv o)).isAgg=true:=by rw[Dt.pv_u]; rfl
structure Bt where
 Var:ByteArray
 Term:Tt
instance:Inhabited Bt:=⟨(Bt.mk (⟨#[]⟩:ByteArray) (Tt.mk (⟨#[]⟩:ByteArray) ([])))⟩
def Bt.pv(o:Bool)(x:Bt):PV:=.agg [Sx x.Var,x.Term.pv o]
theorem Bt.pv_u(o:Bool)(x:Bt):x.pv o=.agg [Sx x.Var,x.Term.pv o]:=rfl
theorem Bt.view(o:Bool)(x:Bt):(x.pv o).view=x.pv false:=by simp only[Bt.pv_u,va_,au,vs_,vl_,I,B,Sx,Ik,Tt.view]
theorem Bt.noView(x:Bt):(x.pv true).noView=true:=by simp only[Bt.pv_u,PV.noView,aQ,I,B,Sx,Ik,Bool.and_true,Bool.true_and,Bool.and_self,Tt.noView]
theorem Bt.views(o:Bool)(l:List Bt):au (l.map (Bt.pv o))=l.map (Bt.pv false):=vm_ _ _ (fun a=>Bt.view o a) l
theorem Bt.noViews(l:List Bt):aQ (l.map (Bt.pv true))=true:=nVm_ _ (fun a=>Bt.noView a) l
theorem Bt.psize(o:Bool)(x:Bt):(x.pv o).size=3:=by simp only[Bt.pv_u,PV.size,PV.sizes,I,B,Sx,Ik,Tt.psize]
theorem Bt.isAgg(o:Bool)(x:Bt):(CV.pv (x.pv o)).isAgg=true:=by rw[Bt.pv_u]; rfl
structure Sa where
 Bindings:List Bt
instance:Inhabited Sa:=⟨(Sa.mk ([]))⟩
def Sa.pv(o:Bool)(x:Sa):PV:=.agg [.sl o 3 (x.Bindings.map (Bt.pv o))]
theorem Sa.pv_u(o:Bool)(x:Sa):x.pv o=.agg [.sl o 3 (x.Bindings.map (Bt.pv o))]:=rfl
theorem Sa.view(o:Bool)(x:Sa):(x.pv o).view=x.pv false:=by simp only[Sa.pv_u,va_,au,vs_,vl_,I,B,Sx,Ik,Bt.views]
theorem Sa.noView(x:Sa):(x.pv true).noView=true:=by simp only[Sa.pv_u,PV.noView,aQ,I,B,Sx,Ik,Bool.and_true,Bool.true_and,Bool.and_self,Bt.noViews]
theorem Sa.views(o:Bool)(l:List Sa):au (l.map (Sa.pv o))=l.map (Sa.pv false):=vm_ _ _ (fun a=>Sa.view o a) l
theorem Sa.noViews(l:List Sa):aQ (l.map (Sa.pv true))=true:=nVm_ _ (fun a=>Sa.noView a) l
theorem Sa.psize(o:Bool)(x:Sa):(x.pv o).size=1:=by simp only[Sa.pv_u,PV.size,PV.sizes,I,B,Sx,Ik]
theorem Sa.isAgg(o:Bool)(x:Sa):(CV.pv (x.pv o)).isAgg=true:=by rw[Sa.pv_u]; rfl
def RS:=aa @Tt.pv_u<|aa @Tt.views<|aa @Tt.noViews<|aa @TNm_<|aa @TAm_<|aa @Dt.pv_u<|aa @Dt.views<|aa @Dt.noViews<|aa @Bt.pv_u<|aa @Bt.views<|aa @Bt.noViews<|aa @Sa.pv_u<|aa @Sa.views<|@Sa.noViews
def TP:=aa @RA (aa @RI @RX)
attribute [push_cast] Tt.pv_u Tt.views Tt.noViews TNm_ TAm_ Dt.pv_u Dt.views Dt.noViews Bt.pv_u Bt.views Bt.noViews Sa.pv_u Sa.views Sa.noViews
end Go.Proofs.YtikhljkojadogaaGreat
