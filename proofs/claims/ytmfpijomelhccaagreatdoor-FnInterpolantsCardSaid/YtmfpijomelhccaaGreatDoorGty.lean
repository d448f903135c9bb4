/- Lemmas of the proof; each says what it shows. -/
import Derived.Test.YtmfpijomelhccaaGreatDoorAvCl
set_option linter.unusedSimpArgs false
set_option linter.unusedVariables false
set_option linter.defProp false
set_option maxRecDepth 4000
namespace Go.Proofs.YtmfpijomelhccaaGreatDoor
open Go.Av
open And renaming intro→ae
open List renaming map_cons→aP
open PV renaming views→aA,noViews→aR
open SizeOf renaming sizeOf→aM
inductive Tt where
 | mk (Name_:ByteArray) (Args_:List Tt)
instance:Inhabited Tt:=⟨.mk (⟨#[]⟩:ByteArray) ([])⟩
def Tt.Name:Tt→ByteArray
 | .mk a _=>a
def Tt.Args:Tt→List Tt
 | .mk _ a=>a
mutual
def Tt.pv(o:Bool):Tt→PV
 | .mk x0 x1=>.agg [Sx x0,.sl o 2 (Tt.pvs o x1)]
def Tt.pvs(o:Bool):List Tt→List PV
 | []=>[]
 | a::l=>a.pv o::Tt.pvs o l
end
theorem Tt.pvs_eq(o:Bool)(l:List Tt):Tt.pvs o l=l.map (Tt.pv o):=by
 induction l with
 | nil=>rfl
 | cons a l ih=>rw[Tt.pvs,ih]; rfl
theorem Tt.ind{M:Tt→Prop}(h:∀ x0 x1,(∀ a∈x1,M a)→M (.mk x0 x1))(t:Tt):M t:=
 Tt.rec (motive_1:=M) (motive_2:=fun l=>∀ a∈l,M a) (fun x0 x1 ih=>h x0 x1 ih) (by simp) (fun a l h1 h2=>by simpa using⟨h1,h2⟩) t
theorem Tt.pv_u(o:Bool)(x:Tt):x.pv o=.agg [Sx x.Name,.sl o 2 (x.Args.map (Tt.pv o))]:=by cases x; rw[Tt.pv,Tt.pvs_eq]; rfl
theorem Tt.ind'{M:Tt→Prop}(h:∀ t:Tt,(∀ a∈t.Args,M a)→M t)(t:Tt):M t:=
 Tt.ind (M:=M) (fun x0 x1 ih=>h (.mk x0 x1) ih) t
theorem Tt.lt{t a:Tt}(h:a∈t.Args):aM a<aM t:=by
 cases t
 have:=List.sizeOf_lt_of_mem h
 simp only[Tt.Args] at this
 simp only[Tt.mk.sizeOf_spec]; omega
theorem Tt.pos(t:Tt):0<aM t:=by cases t; simp only[Tt.mk.sizeOf_spec]; omega
theorem Tt.Name_mk(x0:_)(x1:_):(Tt.mk x0 x1).Name=x0:=rfl
theorem Tt.Args_mk(x0:_)(x1:_):(Tt.mk x0 x1).Args=x1:=rfl
theorem Tt.eta(x:Tt):Tt.mk x.Name x.Args=x:=by cases x; rfl
theorem Tt.views'(o:Bool)(l:List Tt)(h:∀ a∈l,(a.pv o).view=a.pv false):aA (l.map (Tt.pv o))=l.map (Tt.pv false):=by
 induction l with
 | nil=>rfl
 | cons a l ih=>simp only[aP,aA,h a (by simp),ih (fun b hb=>h b (by simp[hb]))]
theorem Tt.view(o:Bool)(x:Tt):(x.pv o).view=x.pv false:=
 Tt.ind (M:=fun x=>(x.pv o).view=x.pv false) (fun x0 x1 ih=>by simp only[Tt.pv_u,Tt.Name_mk,Tt.Args_mk,view_agg,aA,view_sl,view_lit,I,B,Sx,Ik,Tt.views' o x1 ih]) x
theorem Tt.noViews'(l:List Tt)(h:∀ a∈l,(a.pv true).noView=true):aR (l.map (Tt.pv true))=true:=by
 induction l with
 | nil=>rfl
 | cons a l ih=>simp only[aP,aR,h a (by simp),ih (fun b hb=>h b (by simp[hb])),Bool.and_true]
theorem Tt.noView(x:Tt):(x.pv true).noView=true:=
 Tt.ind (M:=fun x=>(x.pv true).noView=true) (fun x0 x1 ih=>by simp only[Tt.pv_u,Tt.Name_mk,Tt.Args_mk,PV.noView,aR,I,B,Sx,Ik,Tt.noViews' x1 ih,Bool.and_true,Bool.true_and,Bool.and_self]) x
theorem Tt.views(o:Bool)(l:List Tt):aA (l.map (Tt.pv o))=l.map (Tt.pv false):=views_map _ _ (fun a=>Tt.view o a) l
theorem Tt.noViews(l:List Tt):aR (l.map (Tt.pv true))=true:=noViews_map _ (fun a=>Tt.noView a) l
theorem Tt.psize(o:Bool)(x:Tt):(x.pv o).size=2:=by simp only[Tt.pv_u,PV.size,PV.sizes,I,B,Sx,Ik]
theorem Tt.isAgg(o:Bool)(x:Tt):(CV.pv (x.pv o)).isAgg=true:=by rw[Tt.pv_u]; rfl
inductive Ft where
 | mk (Op_:Int) (Atom_:Tt) (Var_:ByteArray) (Parts_:List Ft)
instance:Inhabited Ft:=⟨.mk (0:Int) (Tt.mk (⟨#[]⟩:ByteArray) ([])) (⟨#[]⟩:ByteArray) ([])⟩
def Ft.Op:Ft→Int
 | .mk a _ _ _=>a
def Ft.Atom:Ft→Tt
 | .mk _ a _ _=>a
def Ft.Var:Ft→ByteArray
 | .mk _ _ a _=>a
def Ft.Parts:Ft→List Ft
 | .mk _ _ _ a=>a
mutual
def Ft.pv(o:Bool):Ft→PV
 | .mk x0 x1 x2 x3=>.agg [I x0,x1.pv o,Sx x2,.sl o 5 (Ft.pvs o x3)]
def Ft.pvs(o:Bool):List Ft→List PV
 | []=>[]
 | a::l=>a.pv o::Ft.pvs o l
end
theorem Ft.pvs_eq(o:Bool)(l:List Ft):Ft.pvs o l=l.map (Ft.pv o):=by
 induction l with
 | nil=>rfl
 | cons a l ih=>rw[Ft.pvs,ih]; rfl
theorem Ft.ind{M:Ft→Prop}(h:∀ x0 x1 x2 x3,(∀ a∈x3,M a)→M (.mk x0 x1 x2 x3))(t:Ft):M t:=
 Ft.rec (motive_1:=M) (motive_2:=fun l=>∀ a∈l,M a) (fun x0 x1 x2 x3 ih=>h x0 x1 x2 x3 ih) (by simp) (fun a l h1 h2=>by simpa using⟨h1,h2⟩) t
theorem Ft.pv_u(o:Bool)(x:Ft):x.pv o=.agg [I x.Op,x.Atom.pv o,Sx x.Var,.sl o 5 (x.Parts.map (Ft.pv o))]:=by cases x; rw[Ft.pv,Ft.pvs_eq]; rfl
theorem Ft.ind'{M:Ft→Prop}(h:∀ t:Ft,(∀ a∈t.Parts,M a)→M t)(t:Ft):M t:=
 Ft.ind (M:=M) (fun x0 x1 x2 x3 ih=>h (.mk x0 x1 x2 x3) ih) t
theorem Ft.lt{t a:Ft}(h:a∈t.Parts):aM a<aM t:=by
 cases t
 have:=List.sizeOf_lt_of_mem h
 simp only[Ft.Parts] at this
 simp only[Ft.mk.sizeOf_spec]; omega
theorem Ft.pos(t:Ft):0<aM t:=by cases t; simp only[Ft.mk.sizeOf_spec]; omega
theorem Ft.Op_mk(x0:_)(x1:_)(x2:_)(x3:_):(Ft.mk x0 x1 x2 x3).Op=x0:=rfl
theorem Ft.Atom_mk(x0:_)(x1:_)(x2:_)(x3:_):(Ft.mk x0 x1 x2 x3).Atom=x1:=rfl
theorem Ft.Var_mk(x0:_)(x1:_)(x2:_)(x3:_):(Ft.mk x0 x1 x2 x3).Var=x2:=rfl
theorem Ft.Parts_mk(x0:_)(x1:_)(x2:_)(x3:_):(Ft.mk x0 x1 x2 x3).Parts=x3:=rfl
theorem Ft.eta(x:Ft):Ft.mk x.Op x.Atom x.Var x.Parts=x:=by cases x; rfl
theorem Ft.views'(o:Bool)(l:List Ft)(h:∀ a∈l,(a.pv o).view=a.pv false):aA (l.map (Ft.pv o))=l.map (Ft.pv false):=by
 induction l with
 | nil=>rfl
 | cons a l ih=>simp only[aP,aA,h a (by simp),ih (fun b hb=>h b (by simp[hb]))]
theorem Ft.view(o:Bool)(x:Ft):(x.pv o).view=x.pv false:=
 Ft.ind (M:=fun x=>(x.pv o).view=x.pv false) (fun x0 x1 x2 x3 ih=>by simp only[Ft.pv_u,Ft.Op_mk,Ft.Atom_mk,Ft.Var_mk,Ft.Parts_mk,view_agg,aA,view_sl,view_lit,I,B,Sx,Ik,Ft.views' o x3 ih,Tt.view]) x
theorem Ft.noViews'(l:List Ft)(h:∀ a∈l,(a.pv true).noView=true):aR (l.map (Ft.pv true))=true:=by
 induction l with
 | nil=>rfl
 | cons a l ih=>simp only[aP,aR,h a (by simp),ih (fun b hb=>h b (by simp[hb])),Bool.and_true]
theorem Ft.noView(x:Ft):(x.pv true).noView=true:=
 Ft.ind (M:=fun x=>(x.pv true).noView=true) (fun x0 x1 x2 x3 ih=>by simp only[Ft.pv_u,Ft.Op_mk,Ft.Atom_mk,Ft.Var_mk,Ft.Parts_mk,PV.noView,aR,I,B,Sx,Ik,Ft.noViews' x3 ih,Bool.and_true,Bool.true_and,Bool.and_self,Tt.noView]) x
theorem Ft.views(o:Bool)(l:List Ft):aA (l.map (Ft.pv o))=l.map (Ft.pv false):=views_map _ _ (fun a=>Ft.view o a) l
theorem Ft.noViews(l:List Ft):aR (l.map (Ft.pv true))=true:=noViews_map _ (fun a=>Ft.noView a) l
theorem Ft.psize(o:Bool)(x:Ft):(x.pv o).size=5:=by simp only[Ft.pv_u,PV.size,PV.sizes,I,B,Sx,Ik,Tt.psize]
theorem Ft.isAgg(o:Bool)(x:Ft):(CV.pv (x.pv o)).isAgg=true:=by rw[Ft.pv_u]; rfl
structure ia where
 set:List (List Int)
 split:Int
 system:Int
 colors:List Int
instance:Inhabited ia:=⟨(ia.mk ([]) (0:Int) (0:Int) ([]))⟩
def ia.pv(o:Bool)(x:ia):PV:=.agg [.sl o 1 (x.set.map (Lv o 1 I)),I x.split,I x.system,.sl o 1 (x.colors.map I)]
theorem ia.pv_u(o:Bool)(x:ia):x.pv o=.agg [.sl o 1 (x.set.map (Lv o 1 I)),I x.split,I x.system,.sl o 1 (x.colors.map I)]:=rfl
theorem ia.view(o:Bool)(x:ia):(x.pv o).view=x.pv false:=by simp only[ia.pv_u,view_agg,aA,view_sl,view_lit,I,B,Sx,Ik,views_Lv,views_I,views_Ik]
theorem ia.noView(x:ia):(x.pv true).noView=true:=by simp only[ia.pv_u,PV.noView,aR,I,B,Sx,Ik,Bool.and_true,Bool.true_and,Bool.and_self,noViews_Lv,noViews_I,noViews_Ik]
theorem ia.views(o:Bool)(l:List ia):aA (l.map (ia.pv o))=l.map (ia.pv false):=views_map _ _ (fun a=>ia.view o a) l
theorem ia.noViews(l:List ia):aR (l.map (ia.pv true))=true:=noViews_map _ (fun a=>ia.noView a) l
theorem ia.isAgg(o:Bool)(x:ia):(CV.pv (x.pv o)).isAgg=true:=by rw[ia.pv_u]; rfl
structure Pt where
 Left:Int
 Right:Int
 Pivot:Int
 Clause:List Int
instance:Inhabited Pt:=⟨(Pt.mk (0:Int) (0:Int) (0:Int) ([]))⟩
def Pt.pv(o:Bool)(x:Pt):PV:=.agg [I x.Left,I x.Right,I x.Pivot,.sl o 1 (x.Clause.map I)]
theorem Pt.pv_u(o:Bool)(x:Pt):x.pv o=.agg [I x.Left,I x.Right,I x.Pivot,.sl o 1 (x.Clause.map I)]:=rfl
theorem Pt.view(o:Bool)(x:Pt):(x.pv o).view=x.pv false:=by simp only[Pt.pv_u,view_agg,aA,view_sl,view_lit,I,B,Sx,Ik,views_I,views_Ik]
theorem Pt.noView(x:Pt):(x.pv true).noView=true:=by simp only[Pt.pv_u,PV.noView,aR,I,B,Sx,Ik,Bool.and_true,Bool.true_and,Bool.and_self,noViews_I,noViews_Ik]
theorem Pt.views(o:Bool)(l:List Pt):aA (l.map (Pt.pv o))=l.map (Pt.pv false):=views_map _ _ (fun a=>Pt.view o a) l
theorem Pt.noViews(l:List Pt):aR (l.map (Pt.pv true))=true:=noViews_map _ (fun a=>Pt.noView a) l
theorem Pt.psize(o:Bool)(x:Pt):(x.pv o).size=4:=by simp only[Pt.pv_u,PV.size,PV.sizes,I,B,Sx,Ik]
theorem Pt.isAgg(o:Bool)(x:Pt):(CV.pv (x.pv o)).isAgg=true:=by rw[Pt.pv_u]; rfl
structure lc where
 set:List (List Int)
 steps:List Pt
instance:Inhabited lc:=⟨(lc.mk ([]) ([]))⟩
def lc.pv(o:Bool)(x:lc):PV:=.agg [.sl o 1 (x.set.map (Lv o 1 I)),.sl o 4 (x.steps.map (Pt.pv o))]
theorem lc.pv_u(o:Bool)(x:lc):x.pv o=.agg [.sl o 1 (x.set.map (Lv o 1 I)),.sl o 4 (x.steps.map (Pt.pv o))]:=rfl
theorem lc.view(o:Bool)(x:lc):(x.pv o).view=x.pv false:=by simp only[lc.pv_u,view_agg,aA,view_sl,view_lit,I,B,Sx,Ik,views_Lv,views_I,views_Ik,Pt.views]
theorem lc.noView(x:lc):(x.pv true).noView=true:=by simp only[lc.pv_u,PV.noView,aR,I,B,Sx,Ik,Bool.and_true,Bool.true_and,Bool.and_self,noViews_Lv,noViews_I,noViews_Ik,Pt.noViews]
theorem lc.views(o:Bool)(l:List lc):aA (l.map (lc.pv o))=l.map (lc.pv false):=views_map _ _ (fun a=>lc.view o a) l
theorem lc.noViews(l:List lc):aR (l.map (lc.pv true))=true:=noViews_map _ (fun a=>lc.noView a) l
theorem lc.isAgg(o:Bool)(x:lc):(CV.pv (x.pv o)).isAgg=true:=by rw[lc.pv_u]; rfl
def lc.pvt(x:lc):PV:=.agg [.sl false 1 (x.set.map (Lv false 1 I)),.sl true 4 (x.steps.map (Pt.pv false))]
theorem lc.pvt_u(x:lc):x.pvt=.agg [.sl false 1 (x.set.map (Lv false 1 I)),.sl true 4 (x.steps.map (Pt.pv false))]:=rfl
theorem lc.viewt(x:lc):x.pvt.view=x.pv false:=by simp only[lc.pvt_u,lc.pv_u,view_agg,aA,view_sl,view_lit,I,B,Sx,Ik,views_Lv,views_I,views_Ik,Pt.views]
theorem lc.viewst(l:List lc):aA (l.map lc.pvt)=l.map (lc.pv false):=views_map _ _ (fun a=>lc.viewt a) l
structure ld where
 code:List Int
 at_f:Int
 seed:Int
instance:Inhabited ld:=⟨(ld.mk ([]) (0:Int) (0:Int))⟩
def ld.pv(o:Bool)(x:ld):PV:=.agg [.sl o 1 (x.code.map (Ik .u8)),I x.at_f,(Ik .u64) x.seed]
theorem ld.pv_u(o:Bool)(x:ld):x.pv o=.agg [.sl o 1 (x.code.map (Ik .u8)),I x.at_f,(Ik .u64) x.seed]:=rfl
theorem ld.view(o:Bool)(x:ld):(x.pv o).view=x.pv false:=by simp only[ld.pv_u,view_agg,aA,view_sl,view_lit,I,B,Sx,Ik,views_I,views_Ik]
theorem ld.noView(x:ld):(x.pv true).noView=true:=by simp only[ld.pv_u,PV.noView,aR,I,B,Sx,Ik,Bool.and_true,Bool.true_and,Bool.and_self,noViews_I,noViews_Ik]
theorem ld.views(o:Bool)(l:List ld):aA (l.map (ld.pv o))=l.map (ld.pv false):=views_map _ _ (fun a=>ld.view o a) l
theorem ld.noViews(l:List ld):aR (l.map (ld.pv true))=true:=noViews_map _ (fun a=>ld.noView a) l
theorem ld.isAgg(o:Bool)(x:ld):(CV.pv (x.pv o)).isAgg=true:=by rw[ld.pv_u]; rfl
def zab0:CV:=.node [(.pv (I (0:Int))),(.node [(.pv (Sx (⟨#[]⟩:ByteArray))),(.pv (.sl true 2 []))]),(.pv (Sx (⟨#[]⟩:ByteArray))),(.pv (.sl true 5 []))]
@[push_cast] theorem zab0_e:zab0=.node [(.pv (I (0:Int))),(.node [(.pv (Sx (⟨#[]⟩:ByteArray))),(.pv (.sl true 2 []))]),(.pv (Sx (⟨#[]⟩:ByteArray))),(.pv (.sl true 5 []))]:=rfl
def zab1:CV:=.node [(.pv (Sx (⟨#[]⟩:ByteArray))),(.pv (.sl true 2 []))]
@[push_cast] theorem zab1_e:zab1=.node [(.pv (Sx (⟨#[]⟩:ByteArray))),(.pv (.sl true 2 []))]:=rfl
def RS:=ae @Tt.pv_u<|ae @Tt.views<|ae @Tt.noViews<|ae @Tt.Name_mk<|ae @Tt.Args_mk<|ae @Ft.pv_u<|ae @Ft.views<|ae @Ft.noViews<|ae @Ft.Op_mk<|ae @Ft.Atom_mk<|ae @Ft.Var_mk<|ae @Ft.Parts_mk<|ae @ia.pv_u<|ae @ia.views<|ae @ia.noViews<|ae @Pt.pv_u<|ae @Pt.views<|ae @Pt.noViews<|ae @lc.pv_u<|ae @lc.views<|ae @lc.noViews<|ae @lc.pvt_u<|ae @lc.viewst<|ae @ld.pv_u<|ae @ld.views<|@ld.noViews
def TP:=ae @RA (ae @RI (ae @RX @RF))
attribute [push_cast] Tt.pv_u Tt.views Tt.noViews Tt.Name_mk Tt.Args_mk Ft.pv_u Ft.views Ft.noViews Ft.Op_mk Ft.Atom_mk Ft.Var_mk Ft.Parts_mk ia.pv_u ia.views ia.noViews Pt.pv_u Pt.views Pt.noViews lc.pv_u lc.views lc.noViews lc.pvt_u lc.viewst ld.pv_u ld.views ld.noViews
end Go.Proofs.YtmfpijomelhccaaGreatDoor
