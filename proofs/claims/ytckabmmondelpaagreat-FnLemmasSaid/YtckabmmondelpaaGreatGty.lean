/- Lemmas of the proof; each says what it shows. -/
import Derived.Test.YtckabmmondelpaaGreatAvFs
set_option linter.unusedSimpArgs false
set_option linter.unusedVariables false
set_option linter.defProp false
set_option maxRecDepth 4000
namespace Go.Proofs.YtckabmmondelpaaGreat
open Go.Av
open And renaming intro→ae
open List renaming map_cons→aD
open PV renaming views→az,noViews→aT,noView→bC
open SizeOf renaming sizeOf→ap
inductive Tt where
 | mk (Name_:ByteArray) (Args_:List Tt)
instance:Inhabited Tt:=⟨.mk (⟨#[]⟩:ByteArray) ([])⟩
def Tt.Name:Tt→ByteArray
 | .mk a _=>a
def Tt.Args:Tt→List Tt
 | .mk _ a=>a
mutual
def Tt.pv(o:Bool):Tt→PV
 | .mk x0 x1=>.agg [Sx x0,.sl o 2 (Tt.pvs o x1)]
def Tt.pvs(o:Bool):List Tt→List PV
 | []=>[]
 | a::l=>a.pv o::Tt.pvs o l
end
theorem Tt.pvs_eq(o:Bool)(l:List Tt):Tt.pvs o l=l.map (Tt.pv o):=by
 induction l with
 | nil=>rfl
 | cons a l ih=>rw[Tt.pvs,ih]; rfl
theorem Tt.ind{M:Tt→Prop}(h:∀ x0 x1,(∀ a∈x1,M a)→M (.mk x0 x1))(t:Tt):M t:=
 Tt.rec (motive_1:=M) (motive_2:=fun l=>∀ a∈l,M a) (fun x0 x1 ih=>h x0 x1 ih) (by simp) (fun a l h1 h2=>by simpa using⟨h1,h2⟩) t
theorem Tt.pv_u(o:Bool)(x:Tt):x.pv o=.agg [Sx x.Name,.sl o 2 (x.Args.map (Tt.pv o))]:=by cases x; rw[Tt.pv,Tt.pvs_eq]; rfl
theorem Tt.ind'{M:Tt→Prop}(h:∀ t:Tt,(∀ a∈t.Args,M a)→M t)(t:Tt):M t:=
 Tt.ind (M:=M) (fun x0 x1 ih=>h (.mk x0 x1) ih) t
theorem Tt.lt{t a:Tt}(h:a∈t.Args):ap a<ap t:=by
 cases t
 have:=List.sizeOf_lt_of_mem h
 simp only[Tt.Args] at this
 simp only[Tt.mk.sizeOf_spec]; omega
theorem Tt.pos(t:Tt):0<ap t:=by cases t; simp only[Tt.mk.sizeOf_spec]; omega
theorem TNm_(x0:_)(x1:_):(Tt.mk x0 x1).Name=x0:=rfl
theorem TAm_(x0:_)(x1:_):(Tt.mk x0 x1).Args=x1:=rfl
theorem Tt.eta(x:Tt):Tt.mk x.Name x.Args=x:=by cases x; rfl
theorem Tt.views'(o:Bool)(l:List Tt)(h:∀ a∈l,(a.pv o).view=a.pv false):az (l.map (Tt.pv o))=l.map (Tt.pv false):=by
 induction l with
 | nil=>rfl
 | cons a l ih=>simp only[aD,az,h a (by simp),ih (fun b hb=>h b (by simp[hb]))]
theorem Tt.view(o:Bool)(x:Tt):(x.pv o).view=x.pv false:=
 Tt.ind (M:=fun x=>(x.pv o).view=x.pv false) (fun x0 x1 ih=>by simp only[Tt.pv_u,TNm_,TAm_,va_,az,vs_,vl_,I,B,Sx,Ik,Tt.views' o x1 ih]) x
theorem Tt.noViews'(l:List Tt)(h:∀ a∈l,(a.pv true).noView=true):aT (l.map (Tt.pv true))=true:=by
 induction l with
 | nil=>rfl
 | cons a l ih=>simp only[aD,aT,h a (by simp),ih (fun b hb=>h b (by simp[hb])),Bool.and_true]
theorem Tt.noView(x:Tt):(x.pv true).noView=true:=
 Tt.ind (M:=fun x=>(x.pv true).noView=true) (fun x0 x1 ih=>by simp only[Tt.pv_u,TNm_,TAm_,bC,aT,I,B,Sx,Ik,Tt.noViews' x1 ih,Bool.and_true,Bool.true_and,Bool.and_self]) x
theorem Tt.views(o:Bool)(l:List Tt):az (l.map (Tt.pv o))=l.map (Tt.pv false):=vm_ _ _ (fun a=>Tt.view o a) l
theorem Tt.noViews(l:List Tt):aT (l.map (Tt.pv true))=true:=nVm_ _ (fun a=>Tt.noView a) l
theorem Tt.psize(o:Bool)(x:Tt):(x.pv o).size=2:=by simp only[Tt.pv_u,PV.size,PV.sizes,I,B,Sx,Ik]
theorem Tt.isAgg(o:Bool)(x:Tt):(CV.pv (x.pv o)).isAgg=true:=by rw[Tt.pv_u]; rfl
inductive Ft where
 | mk (Op_:Int) (Atom_:Tt) (Var_:ByteArray) (Parts_:List Ft)
instance:Inhabited Ft:=⟨.mk (0:Int) (Tt.mk (⟨#[]⟩:ByteArray) ([])) (⟨#[]⟩:ByteArray) ([])⟩
def Ft.Op:Ft→Int
 | .mk a _ _ _=>a
def Ft.Atom:Ft→Tt
 | .mk _ a _ _=>a
def Ft.Var:Ft→ByteArray
 | .mk _ _ a _=>a
def Ft.Parts:Ft→List Ft
 | .mk _ _ _ a=>a
mutual
def Ft.pv(o:Bool):Ft→PV
 | .mk x0 x1 x2 x3=>.agg [I x0,x1.pv o,Sx x2,.sl o 5 (Ft.pvs o x3)]
def Ft.pvs(o:Bool):List Ft→List PV
 | []=>[]
 | a::l=>a.pv o::Ft.pvs o l
end
theorem Ft.pvs_eq(o:Bool)(l:List Ft):Ft.pvs o l=l.map (Ft.pv o):=by
 induction l with
 | nil=>rfl
 | cons a l ih=>rw[Ft.pvs,ih]; rfl
theorem Ft.ind{M:Ft→Prop}(h:∀ x0 x1 x2 x3,(∀ a∈x3,M a)→M (.mk x0 x1 x2 x3))(t:Ft):M t:=
 Ft.rec (motive_1:=M) (motive_2:=fun l=>∀ a∈l,M a) (fun x0 x1 x2 x3 ih=>h x0 x1 x2 x3 ih) (by simp) (fun a l h1 h2=>by simpa using⟨h1,h2⟩) t
theorem Ft.pv_u(o:Bool)(x:Ft):x.pv o=.agg [I x.Op,x.Atom.pv o,Sx x.Var,.sl o 5 (x.Parts.map (Ft.pv o))]:=by cases x; rw[Ft.pv,Ft.pvs_eq]; rfl
theorem Ft.ind'{M:Ft→Prop}(h:∀ t:Ft,(∀ a∈t.Parts,M a)→M t)(t:Ft):M t:=
 Ft.ind (M:=M) (fun x0 x1 x2 x3 ih=>h (.mk x0 x1 x2 x3) ih) t
theorem Ft.lt{t a:Ft}(h:a∈t.Parts):ap a<ap t:=by
 cases t
 have:=List.sizeOf_lt_of_mem h
 simp only[Ft.Parts] at this
 simp only[Ft.mk.sizeOf_spec]; omega
theorem Ft.pos(t:Ft):0<ap t:=by cases t; simp only[Ft.mk.sizeOf_spec]; omega
theorem FOm_(x0:_)(x1:_)(x2:_)(x3:_):(Ft.mk x0 x1 x2 x3).Op=x0:=rfl
theorem FAm_(x0:_)(x1:_)(x2:_)(x3:_):(Ft.mk x0 x1 x2 x3).Atom=x1:=rfl
theorem FVm_(x0:_)(x1:_)(x2:_)(x3:_):(Ft.mk x0 x1 x2 x3).Var=x2:=rfl
theorem FPm_(x0:_)(x1:_)(x2:_)(x3:_):(Ft.mk x0 x1 x2 x3).Parts=x3:=rfl
theorem Ft.eta(x:Ft):Ft.mk x.Op x.Atom x.Var x.Parts=x:=by cases x; rfl
theorem Ft.views'(o:Bool)(l:List Ft)(h:∀ a∈l,(a.pv o).view=a.pv false):az (l.map (Ft.pv o))=l.map (Ft.pv false):=by
 induction l with
 | nil=>rfl
 | cons a l ih=>simp only[aD,az,h a (by simp),ih (fun b hb=>h b (by simp[hb]))]
theorem Ft.view(o:Bool)(x:Ft):(x.pv o).view=x.pv false:=
 Ft.ind (M:=fun x=>(x.pv o).view=x.pv false) (fun x0 x1 x2 x3 ih=>by simp only[Ft.pv_u,FOm_,FAm_,FVm_,FPm_,va_,az,vs_,vl_,I,B,Sx,Ik,Ft.views' o x3 ih,Tt.view]) x
theorem Ft.noViews'(l:List Ft)(h:∀ a∈l,(a.pv true).noView=true):aT (l.map (Ft.pv true))=true:=by
 induction l with
 | nil=>rfl
 | cons a l ih=>simp only[aD,aT,h a (by simp),ih (fun b hb=>h b (by simp[hb])),Bool.and_true]
theorem Ft.noView(x:Ft):(x.pv true).noView=true:=
 Ft.ind (M:=fun x=>(x.pv true).noView=true) (fun x0 x1 x2 x3 ih=>by simp only[Ft.pv_u,FOm_,FAm_,FVm_,FPm_,bC,aT,I,B,Sx,Ik,Ft.noViews' x3 ih,Bool.and_true,Bool.true_and,Bool.and_self,Tt.noView]) x
theorem Ft.views(o:Bool)(l:List Ft):az (l.map (Ft.pv o))=l.map (Ft.pv false):=vm_ _ _ (fun a=>Ft.view o a) l
theorem Ft.noViews(l:List Ft):aT (l.map (Ft.pv true))=true:=nVm_ _ (fun a=>Ft.noView a) l
theorem Ft.psize(o:Bool)(x:Ft):(x.pv o).size=5:=by simp only[Ft.pv_u,PV.size,PV.sizes,I,B,Sx,Ik,Tt.psize]
theorem Ft.isAgg(o:Bool)(x:Ft):(CV.pv (x.pv o)).isAgg=true:=by rw[Ft.pv_u]; rfl
structure Dt where
 Patterns:List Tt
 Instances:List Tt
instance:Inhabited Dt:=⟨(Dt.mk ([]) ([]))⟩
def Dt.pv(o:Bool)(x:Dt):PV:=.agg [.sl o 2 (x.Patterns.map (Tt.pv o)),.sl o 2 (x.Instances.map (Tt.pv o))]
theorem Dt.pv_u(o:Bool)(x:Dt):x.pv o=.agg [.sl o 2 (x.Patterns.map (Tt.pv o)),.sl o 2 (x.Instances.map (Tt.pv o))]:=rfl
theorem Dt.view(o:Bool)(x:Dt):(x.pv o).view=x.pv false:=by simp only[Dt.pv_u,va_,az,vs_,vl_,I,B,Sx,Ik,Tt.views]
theorem Dt.noView(x:Dt):(x.pv true).noView=true:=by simp only[Dt.pv_u,bC,aT,I,B,Sx,Ik,Bool.and_true,Bool.true_and,Bool.and_self,Tt.noViews]
theorem Dt.views(o:Bool)(l:List Dt):az (l.map (Dt.pv o))=l.map (Dt.pv false):=vm_ _ _ (fun a=>Dt.view o a) l
theorem Dt.noViews(l:List Dt):aT (l.map (Dt.pv true))=true:=nVm_ _ (fun a=>Dt.noView a) l
theorem Dt.isAgg(o:Bool)(x:Dt):(CV.pv (x.pv o)).isAgg=true:=by rw[Dt.pv_u]; rfl
structure la where
 code:List Int
 at_f:Int
 seed:Int
instance:Inhabited la:=⟨(la.mk ([]) (0:Int) (0:Int))⟩
def la.pv(o:Bool)(x:la):PV:=.agg [.sl o 1 (x.code.map (Ik .u8)),I x.at_f,(Ik .u64) x.seed]
theorem la.pv_u(o:Bool)(x:la):x.pv o=.agg [.sl o 1 (x.code.map (Ik .u8)),I x.at_f,(Ik .u64) x.seed]:=rfl
theorem la.view(o:Bool)(x:la):(x.pv o).view=x.pv false:=by simp only[la.pv_u,va_,az,vs_,vl_,I,B,Sx,Ik,vI_,vI_1]
theorem la.noView(x:la):(x.pv true).noView=true:=by simp only[la.pv_u,bC,aT,I,B,Sx,Ik,Bool.and_true,Bool.true_and,Bool.and_self,nVI_,nVI_1]
theorem la.views(o:Bool)(l:List la):az (l.map (la.pv o))=l.map (la.pv false):=vm_ _ _ (fun a=>la.view o a) l
theorem la.noViews(l:List la):aT (l.map (la.pv true))=true:=nVm_ _ (fun a=>la.noView a) l
theorem la.isAgg(o:Bool)(x:la):(CV.pv (x.pv o)).isAgg=true:=by rw[la.pv_u]; rfl
structure Sa where
 Left:List Ft
 Right:List Ft
instance:Inhabited Sa:=⟨(Sa.mk ([]) ([]))⟩
def Sa.pv(o:Bool)(x:Sa):PV:=.agg [.sl o 5 (x.Left.map (Ft.pv o)),.sl o 5 (x.Right.map (Ft.pv o))]
theorem Sa.pv_u(o:Bool)(x:Sa):x.pv o=.agg [.sl o 5 (x.Left.map (Ft.pv o)),.sl o 5 (x.Right.map (Ft.pv o))]:=rfl
theorem Sa.view(o:Bool)(x:Sa):(x.pv o).view=x.pv false:=by simp only[Sa.pv_u,va_,az,vs_,vl_,I,B,Sx,Ik,Ft.views]
theorem Sa.noView(x:Sa):(x.pv true).noView=true:=by simp only[Sa.pv_u,bC,aT,I,B,Sx,Ik,Bool.and_true,Bool.true_and,Bool.and_self,Ft.noViews]
theorem Sa.views(o:Bool)(l:List Sa):az (l.map (Sa.pv o))=l.map (Sa.pv false):=vm_ _ _ (fun a=>Sa.view o a) l
theorem Sa.noViews(l:List Sa):aT (l.map (Sa.pv true))=true:=nVm_ _ (fun a=>Sa.noView a) l
theorem Sa.isAgg(o:Bool)(x:Sa):(CV.pv (x.pv o)).isAgg=true:=by rw[Sa.pv_u]; rfl
structure vt where
 names:List ByteArray
 values:List Int
instance:Inhabited vt:=⟨(vt.mk ([]) ([]))⟩
def vt.pv(o:Bool)(x:vt):PV:=.agg [.sl o 1 (x.names.map Sx),.sl o 1 (x.values.map I)]
theorem vt.pv_u(o:Bool)(x:vt):x.pv o=.agg [.sl o 1 (x.names.map Sx),.sl o 1 (x.values.map I)]:=rfl
theorem vt.view(o:Bool)(x:vt):(x.pv o).view=x.pv false:=by simp only[vt.pv_u,va_,az,vs_,vl_,I,B,Sx,Ik,vS_,vI_,vI_1]
theorem vt.noView(x:vt):(x.pv true).noView=true:=by simp only[vt.pv_u,bC,aT,I,B,Sx,Ik,Bool.and_true,Bool.true_and,Bool.and_self,nVS_,nVI_,nVI_1]
theorem vt.views(o:Bool)(l:List vt):az (l.map (vt.pv o))=l.map (vt.pv false):=vm_ _ _ (fun a=>vt.view o a) l
theorem vt.noViews(l:List vt):aT (l.map (vt.pv true))=true:=nVm_ _ (fun a=>vt.noView a) l
theorem vt.isAgg(o:Bool)(x:vt):(CV.pv (x.pv o)).isAgg=true:=by rw[vt.pv_u]; rfl
structure Bt where
 Var:ByteArray
 Term:Tt
instance:Inhabited Bt:=⟨(Bt.mk (⟨#[]⟩:ByteArray) (Tt.mk (⟨#[]⟩:ByteArray) ([])))⟩
def Bt.pv(o:Bool)(x:Bt):PV:=.agg [Sx x.Var,x.Term.pv o]
theorem Bt.pv_u(o:Bool)(x:Bt):x.pv o=.agg [Sx x.Var,x.Term.pv o]:=rfl
theorem Bt.view(o:Bool)(x:Bt):(x.pv o).view=x.pv false:=by simp only[Bt.pv_u,va_,az,vs_,vl_,I,B,Sx,Ik,Tt.view]
theorem Bt.noView(x:Bt):(x.pv true).noView=true:=by simp only[Bt.pv_u,bC,aT,I,B,Sx,Ik,Bool.and_true,Bool.true_and,Bool.and_self,Tt.noView]
theorem Bt.views(o:Bool)(l:List Bt):az (l.map (Bt.pv o))=l.map (Bt.pv false):=vm_ _ _ (fun a=>Bt.view o a) l
theorem Bt.noViews(l:List Bt):aT (l.map (Bt.pv true))=true:=nVm_ _ (fun a=>Bt.noView a) l
theorem Bt.psize(o:Bool)(x:Bt):(x.pv o).size=3:=by simp only[Bt.pv_u,PV.size,PV.sizes,I,B,Sx,Ik,Tt.psize]
theorem Bt.isAgg(o:Bool)(x:Bt):(CV.pv (x.pv o)).isAgg=true:=by rw[Bt.pv_u]; rfl
structure Sb where
 Bindings:List Bt
instance:Inhabited Sb:=⟨(Sb.mk ([]))⟩
def Sb.pv(o:Bool)(x:Sb):PV:=.agg [.sl o 3 (x.Bindings.map (Bt.pv o))]
theorem Sb.pv_u(o:Bool)(x:Sb):x.pv o=.agg [.sl o 3 (x.Bindings.map (Bt.pv o))]:=rfl
theorem Sb.view(o:Bool)(x:Sb):(x.pv o).view=x.pv false:=by simp only[Sb.pv_u,va_,az,vs_,vl_,I,B,Sx,Ik,Bt.views]
theorem Sb.noView(x:Sb):(x.pv true).noView=true:=by simp only[Sb.pv_u,bC,aT,I,B,Sx,Ik,Bool.and_true,Bool.true_and,Bool.and_self,Bt.noViews]
theorem Sb.views(o:Bool)(l:List Sb):az (l.map (Sb.pv o))=l.map (Sb.pv false):=vm_ _ _ (fun a=>Sb.view o a) l
theorem Sb.noViews(l:List Sb):aT (l.map (Sb.pv true))=true:=nVm_ _ (fun a=>Sb.noView a) l
theorem Sb.isAgg(o:Bool)(x:Sb):(CV.pv (x.pv o)).isAgg=true:=by rw[Sb.pv_u]; rfl
def zab0:CV:=.node [(.pv (I (0:Int))),(.node [(.pv (Sx (⟨#[]⟩:ByteArray))),(.pv (.sl true 2 []))]),(.pv (Sx (⟨#[]⟩:ByteArray))),(.pv (.sl true 5 []))]
@[push_cast] theorem zab0_e:zab0=.node [(.pv (I (0:Int))),(.node [(.pv (Sx (⟨#[]⟩:ByteArray))),(.pv (.sl true 2 []))]),(.pv (Sx (⟨#[]⟩:ByteArray))),(.pv (.sl true 5 []))]:=rfl
def zab1:CV:=.node [(.pv (Sx (⟨#[]⟩:ByteArray))),(.pv (.sl true 2 []))]
@[push_cast] theorem zab1_e:zab1=.node [(.pv (Sx (⟨#[]⟩:ByteArray))),(.pv (.sl true 2 []))]:=rfl
def RS:=ae @Tt.pv_u<|ae @Tt.views<|ae @Tt.noViews<|ae @TNm_<|ae @TAm_<|ae @Ft.pv_u<|ae @Ft.views<|ae @Ft.noViews<|ae @FOm_<|ae @FAm_<|ae @FVm_<|ae @FPm_<|ae @Dt.pv_u<|ae @Dt.views<|ae @Dt.noViews<|ae @la.pv_u<|ae @la.views<|ae @la.noViews<|ae @Sa.pv_u<|ae @Sa.views<|ae @Sa.noViews<|ae @vt.pv_u<|ae @vt.views<|ae @vt.noViews<|ae @Bt.pv_u<|ae @Bt.views<|ae @Bt.noViews<|ae @Sb.pv_u<|ae @Sb.views<|@Sb.noViews
def TP:=ae @RA (ae @RI (ae @RX @RF))
attribute [push_cast] Tt.pv_u Tt.views Tt.noViews TNm_ TAm_ Ft.pv_u Ft.views Ft.noViews FOm_ FAm_ FVm_ FPm_ Dt.pv_u Dt.views Dt.noViews la.pv_u la.views la.noViews Sa.pv_u Sa.views Sa.noViews vt.pv_u vt.views vt.noViews Bt.pv_u Bt.views Bt.noViews Sb.pv_u Sb.views Sb.noViews
end Go.Proofs.YtckabmmondelpaaGreat
