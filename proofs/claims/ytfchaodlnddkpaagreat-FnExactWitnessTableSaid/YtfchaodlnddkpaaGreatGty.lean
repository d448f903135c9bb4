/- Lemmas of the proof; each says what it shows. -/
import Derived.Test.YtfchaodlnddkpaaGreatAvMv
set_option linter.unusedSimpArgs false
set_option linter.unusedVariables false
set_option linter.defProp false
set_option maxRecDepth 4000
namespace Go.Proofs.YtfchaodlnddkpaaGreat
open Go.Av
open And renaming intro→ae
open List renaming map_cons→aF
open SizeOf renaming sizeOf→au
inductive Tt where
 | mk (Name_:ByteArray) (Args_:List Tt)
instance:Inhabited Tt:=⟨.mk (⟨#[]⟩:ByteArray) ([])⟩
def Tt.Name:Tt→ByteArray
 | .mk a _=>a
def Tt.Args:Tt→List Tt
 | .mk _ a=>a
mutual
def Tt.pv(o:Bool):Tt→PV
 | .mk x0 x1=>.agg [Sx x0,.sl o 2 (Tt.pvs o x1)]
def Tt.pvs(o:Bool):List Tt→List PV
 | []=>[]
 | a::l=>a.pv o::Tt.pvs o l
end
theorem Tt.pvs_eq(o:Bool)(l:List Tt):Tt.pvs o l=l.map (Tt.pv o):=by
 induction l with
 | nil=>rfl
 | cons a l ih=>rw[Tt.pvs,ih]; rfl
theorem Tt.ind{M:Tt→Prop}(h:∀ x0 x1,(∀ a∈x1,M a)→M (.mk x0 x1))(t:Tt):M t:=
 Tt.rec (motive_1:=M) (motive_2:=fun l=>∀ a∈l,M a) (fun x0 x1 ih=>h x0 x1 ih) (by simp) (fun a l h1 h2=>by simpa using⟨h1,h2⟩) t
theorem Tt.pv_u(o:Bool)(x:Tt):x.pv o=.agg [Sx x.Name,.sl o 2 (x.Args.map (Tt.pv o))]:=by cases x; rw[Tt.pv,Tt.pvs_eq]; rfl
theorem Tt.ind'{M:Tt→Prop}(h:∀ t:Tt,(∀ a∈t.Args,M a)→M t)(t:Tt):M t:=
 Tt.ind (M:=M) (fun x0 x1 ih=>h (.mk x0 x1) ih) t
theorem Tt.lt{t a:Tt}(h:a∈t.Args):au a<au t:=by
 cases t
 have:=List.sizeOf_lt_of_mem h
 simp only[Tt.Args] at this
 simp only[Tt.mk.sizeOf_spec]; omega
theorem Tt.pos(t:Tt):0<au t:=by cases t; simp only[Tt.mk.sizeOf_spec]; omega
theorem Tt.Name_mk(x0:_)(x1:_):(Tt.mk x0 x1).Name=x0:=rfl
theorem Tt.Args_mk(x0:_)(x1:_):(Tt.mk x0 x1).Args=x1:=rfl
theorem Tt.eta(x:Tt):Tt.mk x.Name x.Args=x:=by cases x; rfl
theorem Tt.views'(o:Bool)(l:List Tt)(h:∀ a∈l,(a.pv o).view=a.pv false):PV.views (l.map (Tt.pv o))=l.map (Tt.pv false):=by
 induction l with
 | nil=>rfl
 | cons a l ih=>simp only[aF,PV.views,h a (by simp),ih (fun b hb=>h b (by simp[hb]))]
theorem Tt.view(o:Bool)(x:Tt):(x.pv o).view=x.pv false:=
 Tt.ind (M:=fun x=>(x.pv o).view=x.pv false) (fun x0 x1 ih=>by simp only[Tt.pv_u,Tt.Name_mk,Tt.Args_mk,view_agg,PV.views,view_sl,view_lit,I,B,Sx,Ik,Tt.views' o x1 ih]) x
theorem Tt.noViews'(l:List Tt)(h:∀ a∈l,(a.pv true).noView=true):PV.noViews (l.map (Tt.pv true))=true:=by
 induction l with
 | nil=>rfl
 | cons a l ih=>simp only[aF,PV.noViews,h a (by simp),ih (fun b hb=>h b (by simp[hb])),Bool.and_true]
theorem Tt.noView(x:Tt):(x.pv true).noView=true:=
 Tt.ind (M:=fun x=>(x.pv true).noView=true) (fun x0 x1 ih=>by simp only[Tt.pv_u,Tt.Name_mk,Tt.Args_mk,PV.noView,PV.noViews,I,B,Sx,Ik,Tt.noViews' x1 ih,Bool.and_true,Bool.true_and,Bool.and_self]) x
theorem Tt.views(o:Bool)(l:List Tt):PV.views (l.map (Tt.pv o))=l.map (Tt.pv false):=views_map _ _ (fun a=>Tt.view o a) l
theorem Tt.noViews(l:List Tt):PV.noViews (l.map (Tt.pv true))=true:=noViews_map _ (fun a=>Tt.noView a) l
theorem Tt.psize(o:Bool)(x:Tt):(x.pv o).size=2:=by simp only[Tt.pv_u,PV.size,PV.sizes,I,B,Sx,Ik]
theorem Tt.viewsL(o p:Bool)(sz:Nat)(l:List (List Tt)):PV.views (l.map (Lv o sz (Tt.pv p)))=l.map (Lv false sz (Tt.pv false)):=views_map _ _ (fun a=>by rw[Lv_u,view_sl,Tt.views]; rfl) l
theorem Tt.noViewsL(sz:Nat)(l:List (List Tt)):PV.noViews (l.map (Lv true sz (Tt.pv true)))=true:=noViews_map _ (fun a=>by simp only[Lv,PV.noView,Tt.noViews,Bool.and_true]) l
theorem Tt.isAgg(o:Bool)(x:Tt):(CV.pv (x.pv o)).isAgg=true:=by rw[Tt.pv_u]; rfl
inductive Ft where
 | mk (Op_:Int) (Atom_:Tt) (Var_:ByteArray) (Parts_:List Ft)
instance:Inhabited Ft:=⟨.mk (0:Int) (Tt.mk (⟨#[]⟩:ByteArray) ([])) (⟨#[]⟩:ByteArray) ([])⟩
def Ft.Op:Ft→Int
 | .mk a _ _ _=>a
def Ft.Atom:Ft→Tt
 | .mk _ a _ _=>a
def Ft.Var:Ft→ByteArray
 | .mk _ _ a _=>a
def Ft.Parts:Ft→List Ft
 | .mk _ _ _ a=>a
mutual
def Ft.pv(o:Bool):Ft→PV
 | .mk x0 x1 x2 x3=>.agg [I x0,x1.pv o,Sx x2,.sl o 5 (Ft.pvs o x3)]
def Ft.pvs(o:Bool):List Ft→List PV
 | []=>[]
 | a::l=>a.pv o::Ft.pvs o l
end
theorem Ft.pvs_eq(o:Bool)(l:List Ft):Ft.pvs o l=l.map (Ft.pv o):=by
 induction l with
 | nil=>rfl
 | cons a l ih=>rw[Ft.pvs,ih]; rfl
theorem Ft.ind{M:Ft→Prop}(h:∀ x0 x1 x2 x3,(∀ a∈x3,M a)→M (.mk x0 x1 x2 x3))(t:Ft):M t:=
 Ft.rec (motive_1:=M) (motive_2:=fun l=>∀ a∈l,M a) (fun x0 x1 x2 x3 ih=>h x0 x1 x2 x3 ih) (by simp) (fun a l h1 h2=>by simpa using⟨h1,h2⟩) t
theorem Ft.pv_u(o:Bool)(x:Ft):x.pv o=.agg [I x.Op,x.Atom.pv o,Sx x.Var,.sl o 5 (x.Parts.map (Ft.pv o))]:=by cases x; rw[Ft.pv,Ft.pvs_eq]; rfl
theorem Ft.ind'{M:Ft→Prop}(h:∀ t:Ft,(∀ a∈t.Parts,M a)→M t)(t:Ft):M t:=
 Ft.ind (M:=M) (fun x0 x1 x2 x3 ih=>h (.mk x0 x1 x2 x3) ih) t
theorem Ft.lt{t a:Ft}(h:a∈t.Parts):au a<au t:=by
 cases t
 have:=List.sizeOf_lt_of_mem h
 simp only[Ft.Parts] at this
 simp only[Ft.mk.sizeOf_spec]; omega
theorem Ft.pos(t:Ft):0<au t:=by cases t; simp only[Ft.mk.sizeOf_spec]; omega
theorem Ft.Op_mk(x0:_)(x1:_)(x2:_)(x3:_):(Ft.mk x0 x1 x2 x3).Op=x0:=rfl
theorem Ft.Atom_mk(x0:_)(x1:_)(x2:_)(x3:_):(Ft.mk x0 x1 x2 x3).Atom=x1:=rfl
theorem Ft.Var_mk(x0:_)(x1:_)(x2:_)(x3:_):(Ft.mk x0 x1 x2 x3).Var=x2:=rfl
theorem Ft.Parts_mk(x0:_)(x1:_)(x2:_)(x3:_):(Ft.mk x0 x1 x2 x3).Parts=x3:=rfl
theorem Ft.eta(x:Ft):Ft.mk x.Op x.Atom x.Var x.Parts=x:=by cases x; rfl
theorem Ft.views'(o:Bool)(l:List Ft)(h:∀ a∈l,(a.pv o).view=a.pv false):PV.views (l.map (Ft.pv o))=l.map (Ft.pv false):=by
 induction l with
 | nil=>rfl
 | cons a l ih=>simp only[aF,PV.views,h a (by simp),ih (fun b hb=>h b (by simp[hb]))]
theorem Ft.view(o:Bool)(x:Ft):(x.pv o).view=x.pv false:=
 Ft.ind (M:=fun x=>(x.pv o).view=x.pv false) (fun x0 x1 x2 x3 ih=>by simp only[Ft.pv_u,Ft.Op_mk,Ft.Atom_mk,Ft.Var_mk,Ft.Parts_mk,view_agg,PV.views,view_sl,view_lit,I,B,Sx,Ik,Ft.views' o x3 ih,Tt.view]) x
theorem Ft.noViews'(l:List Ft)(h:∀ a∈l,(a.pv true).noView=true):PV.noViews (l.map (Ft.pv true))=true:=by
 induction l with
 | nil=>rfl
 | cons a l ih=>simp only[aF,PV.noViews,h a (by simp),ih (fun b hb=>h b (by simp[hb])),Bool.and_true]
theorem Ft.noView(x:Ft):(x.pv true).noView=true:=
 Ft.ind (M:=fun x=>(x.pv true).noView=true) (fun x0 x1 x2 x3 ih=>by simp only[Ft.pv_u,Ft.Op_mk,Ft.Atom_mk,Ft.Var_mk,Ft.Parts_mk,PV.noView,PV.noViews,I,B,Sx,Ik,Ft.noViews' x3 ih,Bool.and_true,Bool.true_and,Bool.and_self,Tt.noView]) x
theorem Ft.views(o:Bool)(l:List Ft):PV.views (l.map (Ft.pv o))=l.map (Ft.pv false):=views_map _ _ (fun a=>Ft.view o a) l
theorem Ft.noViews(l:List Ft):PV.noViews (l.map (Ft.pv true))=true:=noViews_map _ (fun a=>Ft.noView a) l
theorem Ft.psize(o:Bool)(x:Ft):(x.pv o).size=5:=by simp only[Ft.pv_u,PV.size,PV.sizes,I,B,Sx,Ik,Tt.psize]
theorem Ft.isAgg(o:Bool)(x:Ft):(CV.pv (x.pv o)).isAgg=true:=by rw[Ft.pv_u]; rfl
structure Bt where
 Var:ByteArray
 Term:Tt
instance:Inhabited Bt:=⟨(Bt.mk (⟨#[]⟩:ByteArray) (Tt.mk (⟨#[]⟩:ByteArray) ([])))⟩
def Bt.pv(o:Bool)(x:Bt):PV:=.agg [Sx x.Var,x.Term.pv o]
theorem Bt.pv_u(o:Bool)(x:Bt):x.pv o=.agg [Sx x.Var,x.Term.pv o]:=rfl
theorem Bt.view(o:Bool)(x:Bt):(x.pv o).view=x.pv false:=by simp only[Bt.pv_u,view_agg,PV.views,view_sl,view_lit,I,B,Sx,Ik,Tt.view]
theorem Bt.noView(x:Bt):(x.pv true).noView=true:=by simp only[Bt.pv_u,PV.noView,PV.noViews,I,B,Sx,Ik,Bool.and_true,Bool.true_and,Bool.and_self,Tt.noView]
theorem Bt.views(o:Bool)(l:List Bt):PV.views (l.map (Bt.pv o))=l.map (Bt.pv false):=views_map _ _ (fun a=>Bt.view o a) l
theorem Bt.noViews(l:List Bt):PV.noViews (l.map (Bt.pv true))=true:=noViews_map _ (fun a=>Bt.noView a) l
theorem Bt.psize(o:Bool)(x:Bt):(x.pv o).size=3:=by simp only[Bt.pv_u,PV.size,PV.sizes,I,B,Sx,Ik,Tt.psize]
theorem Bt.isAgg(o:Bool)(x:Bt):(CV.pv (x.pv o)).isAgg=true:=by rw[Bt.pv_u]; rfl
structure Sa where
 Bindings:List Bt
instance:Inhabited Sa:=⟨(Sa.mk ([]))⟩
def Sa.pv(o:Bool)(x:Sa):PV:=.agg [.sl o 3 (x.Bindings.map (Bt.pv o))]
theorem Sa.pv_u(o:Bool)(x:Sa):x.pv o=.agg [.sl o 3 (x.Bindings.map (Bt.pv o))]:=rfl
theorem Sa.view(o:Bool)(x:Sa):(x.pv o).view=x.pv false:=by simp only[Sa.pv_u,view_agg,PV.views,view_sl,view_lit,I,B,Sx,Ik,Bt.views]
theorem Sa.noView(x:Sa):(x.pv true).noView=true:=by simp only[Sa.pv_u,PV.noView,PV.noViews,I,B,Sx,Ik,Bool.and_true,Bool.true_and,Bool.and_self,Bt.noViews]
theorem Sa.views(o:Bool)(l:List Sa):PV.views (l.map (Sa.pv o))=l.map (Sa.pv false):=views_map _ _ (fun a=>Sa.view o a) l
theorem Sa.noViews(l:List Sa):PV.noViews (l.map (Sa.pv true))=true:=noViews_map _ (fun a=>Sa.noView a) l
theorem Sa.isAgg(o:Bool)(x:Sa):(CV.pv (x.pv o)).isAgg=true:=by rw[Sa.pv_u]; rfl
def zab0:CV:=.node [(.pv (I (0:Int))),(.node [(.pv (Sx (⟨#[]⟩:ByteArray))),(.pv (.sl true 2 []))]),(.pv (Sx (⟨#[]⟩:ByteArray))),(.pv (.sl true 5 []))]
@[push_cast] theorem zab0_e:zab0=.node [(.pv (I (0:Int))),(.node [(.pv (Sx (⟨#[]⟩:ByteArray))),(.pv (.sl true 2 []))]),(.pv (Sx (⟨#[]⟩:ByteArray))),(.pv (.sl true 5 []))]:=rfl
def zab1:CV:=.node [(.pv (Sx (⟨#[]⟩:ByteArray))),(.pv (.sl true 2 []))]
@[push_cast] theorem zab1_e:zab1=.node [(.pv (Sx (⟨#[]⟩:ByteArray))),(.pv (.sl true 2 []))]:=rfl
def RS:=ae @Tt.pv_u<|ae @Tt.views<|ae @Tt.noViews<|ae @Tt.viewsL<|ae @Tt.noViewsL<|ae @Tt.Name_mk<|ae @Tt.Args_mk<|ae @Ft.pv_u<|ae @Ft.views<|ae @Ft.noViews<|ae @Ft.Op_mk<|ae @Ft.Atom_mk<|ae @Ft.Var_mk<|ae @Ft.Parts_mk<|ae @Bt.pv_u<|ae @Bt.views<|ae @Bt.noViews<|ae @Sa.pv_u<|ae @Sa.views<|ae @Sa.noViews<|ae @GMap.pv_u<|ae @explode_mpv<|ae @view_mpv<|ae @isAgg_mpv<|@size_mpv
def TP:=ae @RA (ae @RI @RX)
attribute [push_cast] Tt.pv_u Tt.views Tt.noViews Tt.viewsL Tt.noViewsL Tt.Name_mk Tt.Args_mk Ft.pv_u Ft.views Ft.noViews Ft.Op_mk Ft.Atom_mk Ft.Var_mk Ft.Parts_mk Bt.pv_u Bt.views Bt.noViews Sa.pv_u Sa.views Sa.noViews GMap.pv_u explode_mpv view_mpv isAgg_mpv size_mpv
end Go.Proofs.YtfchaodlnddkpaaGreat
