/- Lemmas of the proof; each says what it shows. -/
import Derived.Test.YtpfobcjmfobiaaaAvZ
set_option linter.unusedSimpArgs false
set_option linter.unusedVariables false
set_option linter.defProp false
set_option maxRecDepth 4000
namespace Go.Proofs.Ytpfobcjmfobiaaa
open Go.Av
open And renaming intro→aa
inductive Tt where
 | mk (Name_:ByteArray) (Args_:List Tt)
instance:Inhabited Tt:=⟨.mk (⟨#[]⟩:ByteArray) ([])⟩
def Tt.Name:Tt→ByteArray
 | .mk a _=>a
def Tt.Args:Tt→List Tt
 | .mk _ a=>a
mutual
def Tt.pv(o:Bool):Tt→PV
 | .mk x0 x1=>.agg [Sx x0,.sl o 2 (Tp_1 o x1)]
def Tp_1(o:Bool):List Tt→List PV
 | []=>[]
 | a::l=>a.pv o::Tp_1 o l
end
theorem Tpe_(o:Bool)(l:List Tt):Tp_1 o l=l.map (Tt.pv o):=by
 induction l with
 | nil=>rfl
 | cons a l ih=>rw[Tp_1,ih]; rfl
theorem Ti_{M:Tt→Prop}(h:∀ x0 x1,(∀ a∈x1,M a)→M (.mk x0 x1))(t:Tt):M t:=
 Tt.rec (motive_1:=M) (motive_2:=fun l=>∀ a∈l,M a) (fun x0 x1 ih=>h x0 x1 ih) (by simp) (fun a l h1 h2=>by simpa using⟨h1,h2⟩) t
theorem Tpu_(o:Bool)(x:Tt):x.pv o=.agg [Sx x.Name,.sl o 2 (x.Args.map (Tt.pv o))]:=by cases x; rw[Tt.pv,Tpe_]; rfl
theorem Ti_1{M:Tt→Prop}(h:∀ t:Tt,(∀ a∈t.Args,M a)→M t)(t:Tt):M t:=
 Ti_ (M:=M) (fun x0 x1 ih=>h (.mk x0 x1) ih) t
theorem Tt.lt{t a:Tt}(h:a∈t.Args):SizeOf.sizeOf a<SizeOf.sizeOf t:=by
 cases t
 have:=List.sizeOf_lt_of_mem h
 simp only[Tt.Args] at this
 simp only[Tt.mk.sizeOf_spec]; omega
theorem Tt.pos(t:Tt):0<SizeOf.sizeOf t:=by cases t; simp only[Tt.mk.sizeOf_spec]; omega
theorem TNm_(x0:_)(x1:_):(Tt.mk x0 x1).Name=x0:=rfl
theorem TAm_(x0:_)(x1:_):(Tt.mk x0 x1).Args=x1:=rfl
theorem Tt.eta(x:Tt):Tt.mk x.Name x.Args=x:=by cases x; rfl
theorem Tv_1(o:Bool)(l:List Tt)(h:∀ a∈l,(a.pv o).view=a.pv false):PV.views (l.map (Tt.pv o))=l.map (Tt.pv false):=by
 induction l with
 | nil=>rfl
 | cons a l ih=>simp only[List.map_cons,PV.views,h a (by simp),ih (fun b hb=>h b (by simp[hb]))]
theorem Tt.view(o:Bool)(x:Tt):(x.pv o).view=x.pv false:=
 Ti_ (M:=fun x=>(x.pv o).view=x.pv false) (fun x0 x1 ih=>by simp only[Tpu_,TNm_,TAm_,va_,PV.views,vs_,vl_,I,B,Sx,Ik,Tv_1 o x1 ih]) x
theorem TnV_(l:List Tt)(h:∀ a∈l,(a.pv true).noView=true):PV.noViews (l.map (Tt.pv true))=true:=by
 induction l with
 | nil=>rfl
 | cons a l ih=>simp only[List.map_cons,PV.noViews,h a (by simp),ih (fun b hb=>h b (by simp[hb])),Bool.and_true]
theorem Tt.noView(x:Tt):(x.pv true).noView=true:=
 Ti_ (M:=fun x=>(x.pv true).noView=true) (fun x0 x1 ih=>by simp only[Tpu_,TNm_,TAm_,PV.noView,PV.noViews,I,B,Sx,Ik,TnV_ x1 ih,Bool.and_true,Bool.true_and,Bool.and_self]) x
theorem Tt.views(o:Bool)(l:List Tt):PV.views (l.map (Tt.pv o))=l.map (Tt.pv false):=vm_ _ _ (fun a=>Tt.view o a) l
theorem Tt.noViews(l:List Tt):PV.noViews (l.map (Tt.pv true))=true:=nVm_ _ (fun a=>Tt.noView a) l
theorem Tp_(o:Bool)(x:Tt):(x.pv o).size=2:=by simp only[Tpu_,PV.size,PV.sizes,I,B,Sx,Ik]
theorem Tt.isAgg(o:Bool)(x:Tt):(CV.pv (x.pv o)).isAgg=true:=by rw[Tpu_]; rfl
def RS:=aa @Tpu_<|aa @Tt.views<|aa @Tt.noViews<|aa @TNm_<|@TAm_
def TP:=aa @RA (aa @RI @RX)
attribute [push_cast] Tpu_ Tt.views Tt.noViews TNm_ TAm_
end Go.Proofs.Ytpfobcjmfobiaaa
