/- A part of the proof: lemmas only; nothing is claimed here beyond what each lemma says. -/
import Derived.Test.YtkoghcphkdecoaaGreatAvF5
set_option linter.unusedSimpArgs false
set_option linter.unusedVariables false
set_option linter.defProp false
set_option maxRecDepth 4000
namespace Go.Proofs.YtkoghcphkdecoaaGreat
open Go.Av
inductive Term where
 | mk (Name_:ByteArray) (Args_:List Term)
instance:Inhabited Term:=⟨.mk (⟨#[]⟩:ByteArray) ([])⟩
def Term.Name:Term→ByteArray
 | .mk a _=>a
def Term.Args:Term→List Term
 | .mk _ a=>a
mutual
def Term.pv(o:Bool):Term→PV
 | .mk x0 x1=>.agg [Sx x0,.sl o 2 (Term.pvs o x1)]
def Term.pvs(o:Bool):List Term→List PV
 | []=>[]
 | a::l=>a.pv o::Term.pvs o l
end
theorem Term.pvs_eq(o:Bool)(l:List Term):Term.pvs o l=l.map (Term.pv o):=by
 induction l with
 | nil=>rfl
 | cons a l ih=>rw[Term.pvs,ih]; rfl
theorem Term.ind{M:Term→Prop}(h:∀ x0 x1,(∀ a∈x1,M a)→M (.mk x0 x1))(t:Term):M t:=
 Term.rec (motive_1:=M) (motive_2:=fun l=>∀ a∈l,M a) (fun x0 x1 ih=>h x0 x1 ih) (by simp) (fun a l h1 h2=>by simpa using⟨h1,h2⟩) t
theorem Term.pv_u(o:Bool)(x:Term):x.pv o=.agg [Sx x.Name,.sl o 2 (x.Args.map (Term.pv o))]:=by cases x; rw[Term.pv,Term.pvs_eq]; rfl
theorem Term.ind'{M:Term→Prop}(h:∀ t:Term,(∀ a∈t.Args,M a)→M t)(t:Term):M t:=
 Term.ind (M:=M) (fun x0 x1 ih=>h (.mk x0 x1) ih) t
theorem Term.lt{t a:Term}(h:a∈t.Args):SizeOf.sizeOf a<SizeOf.sizeOf t:=by
 cases t
 have:=List.sizeOf_lt_of_mem h
 simp only[Term.Args] at this
 simp only[Term.mk.sizeOf_spec]; omega
theorem Term.pos(t:Term):0<SizeOf.sizeOf t:=by cases t; simp only[Term.mk.sizeOf_spec]; omega
theorem TNm_(x0:_)(x1:_):(Term.mk x0 x1).Name=x0:=rfl
theorem TAm_(x0:_)(x1:_):(Term.mk x0 x1).Args=x1:=rfl
theorem Term.eta(x:Term):Term.mk x.Name x.Args=x:=by cases x; rfl
theorem Term.views'(o:Bool)(l:List Term)(h:∀ a∈l,(a.pv o).view=a.pv false):PV.views (l.map (Term.pv o))=l.map (Term.pv false):=by
 induction l with
 | nil=>rfl
 | cons a l ih=>simp only[List.map_cons,PV.views,h a (by simp),ih (fun b hb=>h b (by simp[hb]))]
theorem Term.view(o:Bool)(x:Term):(x.pv o).view=x.pv false:=
 Term.ind (M:=fun x=>(x.pv o).view=x.pv false) (fun x0 x1 ih=>by simp only[Term.pv_u,TNm_,TAm_,va_,PV.views,vs_,vl_,I,B,Sx,Ik,Term.views' o x1 ih]) x
theorem Term.noViews'(l:List Term)(h:∀ a∈l,(a.pv true).noView=true):PV.noViews (l.map (Term.pv true))=true:=by
 induction l with
 | nil=>rfl
 | cons a l ih=>simp only[List.map_cons,PV.noViews,h a (by simp),ih (fun b hb=>h b (by simp[hb])),Bool.and_true]
theorem Term.noView(x:Term):(x.pv true).noView=true:=
 Term.ind (M:=fun x=>(x.pv true).noView=true) (fun x0 x1 ih=>by simp only[Term.pv_u,TNm_,TAm_,PV.noView,PV.noViews,I,B,Sx,Ik,Term.noViews' x1 ih,Bool.and_true,Bool.true_and,Bool.and_self]) x
theorem Term.views(o:Bool)(l:List Term):PV.views (l.map (Term.pv o))=l.map (Term.pv false):=vm_ _ _ (fun a=>Term.view o a) l
theorem Term.noViews(l:List Term):PV.noViews (l.map (Term.pv true))=true:=nVm_ _ (fun a=>Term.noView a) l
theorem Term.psize(o:Bool)(x:Term):(x.pv o).size=2:=by simp only[Term.pv_u,PV.size,PV.sizes,I,B,Sx,Ik]
theorem Term.isAgg(o:Bool)(x:Term):(CV.pv (x.pv o)).isAgg=true:=by rw[Term.pv_u]; rfl
inductive Formula where
 | mk (Op_:Int) (Atom_:Term) (Var_:ByteArray) (Parts_:List Formula)
instance:Inhabited Formula:=⟨.mk (0:Int) (Term.mk (⟨#[]⟩:ByteArray) ([])) (⟨#[]⟩:ByteArray) ([])⟩
def Formula.Op:Formula→Int
 | .mk a _ _ _=>a
def Formula.Atom:Formula→Term
 | .mk _ a _ _=>a
def Formula.Var:Formula→ByteArray
 | .mk _ _ a _=>a
def Formula.Parts:Formula→List Formula
 | .mk _ _ _ a=>a
mutual
def Formula.pv(o:Bool):Formula→PV
 | .mk x0 x1 x2 x3=>.agg [I x0,x1.pv o,Sx x2,.sl o 5 (Formula.pvs o x3)]
def Formula.pvs(o:Bool):List Formula→List PV
 | []=>[]
 | a::l=>a.pv o::Formula.pvs o l
end
theorem Formula.pvs_eq(o:Bool)(l:List Formula):Formula.pvs o l=l.map (Formula.pv o):=by
 induction l with
 | nil=>rfl
 | cons a l ih=>rw[Formula.pvs,ih]; rfl
theorem Formula.ind{M:Formula→Prop}(h:∀ x0 x1 x2 x3,(∀ a∈x3,M a)→M (.mk x0 x1 x2 x3))(t:Formula):M t:=
 Formula.rec (motive_1:=M) (motive_2:=fun l=>∀ a∈l,M a) (fun x0 x1 x2 x3 ih=>h x0 x1 x2 x3 ih) (by simp) (fun a l h1 h2=>by simpa using⟨h1,h2⟩) t
theorem Formula.pv_u(o:Bool)(x:Formula):x.pv o=.agg [I x.Op,x.Atom.pv o,Sx x.Var,.sl o 5 (x.Parts.map (Formula.pv o))]:=by cases x; rw[Formula.pv,Formula.pvs_eq]; rfl
theorem Formula.ind'{M:Formula→Prop}(h:∀ t:Formula,(∀ a∈t.Parts,M a)→M t)(t:Formula):M t:=
 Formula.ind (M:=M) (fun x0 x1 x2 x3 ih=>h (.mk x0 x1 x2 x3) ih) t
theorem Formula.lt{t a:Formula}(h:a∈t.Parts):SizeOf.sizeOf a<SizeOf.sizeOf t:=by
 cases t
 have:=List.sizeOf_lt_of_mem h
 simp only[Formula.Parts] at this
 simp only[Formula.mk.sizeOf_spec]; omega
theorem Formula.pos(t:Formula):0<SizeOf.sizeOf t:=by cases t; simp only[Formula.mk.sizeOf_spec]; omega
theorem FOm_(x0:_)(x1:_)(x2:_)(x3:_):(Formula.mk x0 x1 x2 x3).Op=x0:=rfl
theorem FAm_(x0:_)(x1:_)(x2:_)(x3:_):(Formula.mk x0 x1 x2 x3).Atom=x1:=rfl
theorem FVm_(x0:_)(x1:_)(x2:_)(x3:_):(Formula.mk x0 x1 x2 x3).Var=x2:=rfl
theorem Formula.Parts_mk(x0:_)(x1:_)(x2:_)(x3:_):(Formula.mk x0 x1 x2 x3).Parts=x3:=rfl
theorem Formula.eta(x:Formula):Formula.mk x.Op x.Atom x.Var x.Parts=x:=by cases x; rfl
theorem Formula.views'(o:Bool)(l:List Formula)(h:∀ a∈l,(a.pv o).view=a.pv false):PV.views (l.map (Formula.pv o))=l.map (Formula.pv false):=by
 induction l with
 | nil=>rfl
 | cons a l ih=>simp only[List.map_cons,PV.views,h a (by simp),ih (fun b hb=>h b (by simp[hb]))]
theorem Formula.view(o:Bool)(x:Formula):(x.pv o).view=x.pv false:=
 Formula.ind (M:=fun x=>(x.pv o).view=x.pv false) (fun x0 x1 x2 x3 ih=>by simp only[Formula.pv_u,FOm_,FAm_,FVm_,Formula.Parts_mk,va_,PV.views,vs_,vl_,I,B,Sx,Ik,Formula.views' o x3 ih,Term.view]) x
theorem Formula.noViews'(l:List Formula)(h:∀ a∈l,(a.pv true).noView=true):PV.noViews (l.map (Formula.pv true))=true:=by
 induction l with
 | nil=>rfl
 | cons a l ih=>simp only[List.map_cons,PV.noViews,h a (by simp),ih (fun b hb=>h b (by simp[hb])),Bool.and_true]
theorem Formula.noView(x:Formula):(x.pv true).noView=true:=
 Formula.ind (M:=fun x=>(x.pv true).noView=true) (fun x0 x1 x2 x3 ih=>by simp only[Formula.pv_u,FOm_,FAm_,FVm_,Formula.Parts_mk,PV.noView,PV.noViews,I,B,Sx,Ik,Formula.noViews' x3 ih,Bool.and_true,Bool.true_and,Bool.and_self,Term.noView]) x
theorem Formula.views(o:Bool)(l:List Formula):PV.views (l.map (Formula.pv o))=l.map (Formula.pv false):=vm_ _ _ (fun a=>Formula.view o a) l
theorem Formula.noViews(l:List Formula):PV.noViews (l.map (Formula.pv true))=true:=nVm_ _ (fun a=>Formula.noView a) l
theorem Formula.psize(o:Bool)(x:Formula):(x.pv o).size=5:=by simp only[Formula.pv_u,PV.size,PV.sizes,I,B,Sx,Ik,Term.psize]
theorem Formula.isAgg(o:Bool)(x:Formula):(CV.pv (x.pv o)).isAgg=true:=by rw[Formula.pv_u]; rfl
structure Sequent where
 Left:List Formula
 Right:List Formula
instance:Inhabited Sequent:=⟨(Sequent.mk ([]) ([]))⟩
def Sequent.pv(o:Bool)(x:Sequent):PV:=.agg [.sl o 5 (x.Left.map (Formula.pv o)),.sl o 5 (x.Right.map (Formula.pv o))]
theorem Sequent.pv_u(o:Bool)(x:Sequent):x.pv o=.agg [.sl o 5 (x.Left.map (Formula.pv o)),.sl o 5 (x.Right.map (Formula.pv o))]:=rfl
theorem Sequent.view(o:Bool)(x:Sequent):(x.pv o).view=x.pv false:=by simp only[Sequent.pv_u,va_,PV.views,vs_,vl_,I,B,Sx,Ik,Formula.views]
theorem Sequent.noView(x:Sequent):(x.pv true).noView=true:=by simp only[Sequent.pv_u,PV.noView,PV.noViews,I,B,Sx,Ik,Bool.and_true,Bool.true_and,Bool.and_self,Formula.noViews]
theorem Sequent.views(o:Bool)(l:List Sequent):PV.views (l.map (Sequent.pv o))=l.map (Sequent.pv false):=vm_ _ _ (fun a=>Sequent.view o a) l
theorem Sequent.noViews(l:List Sequent):PV.noViews (l.map (Sequent.pv true))=true:=nVm_ _ (fun a=>Sequent.noView a) l
theorem Sequent.psize(o:Bool)(x:Sequent):(x.pv o).size=2:=by simp only[Sequent.pv_u,PV.size,PV.sizes,I,B,Sx,Ik]
theorem Sequent.isAgg(o:Bool)(x:Sequent):(CV.pv (x.pv o)).isAgg=true:=by rw[Sequent.pv_u]; rfl
inductive Derivation where
 | mk (Rule_:Int) (Sequent_:Sequent) (Main_:Int) (Term_:Term) (Cut_:Formula) (Parts_:List Derivation)
instance:Inhabited Derivation:=⟨.mk (0:Int) (Sequent.mk ([]) ([])) (0:Int) (Term.mk (⟨#[]⟩:ByteArray) ([])) (Formula.mk (0:Int) (Term.mk (⟨#[]⟩:ByteArray) ([])) (⟨#[]⟩:ByteArray) ([])) ([])⟩
def Derivation.Rule:Derivation→Int
 | .mk a _ _ _ _ _=>a
def Derivation.Sequent:Derivation→Sequent
 | .mk _ a _ _ _ _=>a
def Derivation.Main:Derivation→Int
 | .mk _ _ a _ _ _=>a
def Derivation.Term:Derivation→Term
 | .mk _ _ _ a _ _=>a
def Derivation.Cut:Derivation→Formula
 | .mk _ _ _ _ a _=>a
def Derivation.Parts:Derivation→List Derivation
 | .mk _ _ _ _ _ a=>a
mutual
def Derivation.pv(o:Bool):Derivation→PV
 | .mk x0 x1 x2 x3 x4 x5=>.agg [I x0,x1.pv o,I x2,x3.pv o,x4.pv o,.sl o 12 (Derivation.pvs o x5)]
def Derivation.pvs(o:Bool):List Derivation→List PV
 | []=>[]
 | a::l=>a.pv o::Derivation.pvs o l
end
theorem Derivation.pvs_eq(o:Bool)(l:List Derivation):Derivation.pvs o l=l.map (Derivation.pv o):=by
 induction l with
 | nil=>rfl
 | cons a l ih=>rw[Derivation.pvs,ih]; rfl
theorem Derivation.ind{M:Derivation→Prop}(h:∀ x0 x1 x2 x3 x4 x5,(∀ a∈x5,M a)→M (.mk x0 x1 x2 x3 x4 x5))(t:Derivation):M t:=
 Derivation.rec (motive_1:=M) (motive_2:=fun l=>∀ a∈l,M a) (fun x0 x1 x2 x3 x4 x5 ih=>h x0 x1 x2 x3 x4 x5 ih) (by simp) (fun a l h1 h2=>by simpa using⟨h1,h2⟩) t
theorem Derivation.pv_u(o:Bool)(x:Derivation):x.pv o=.agg [I x.Rule,x.Sequent.pv o,I x.Main,x.Term.pv o,x.Cut.pv o,.sl o 12 (x.Parts.map (Derivation.pv o))]:=by cases x; rw[Derivation.pv,Derivation.pvs_eq]; rfl
theorem Derivation.ind'{M:Derivation→Prop}(h:∀ t:Derivation,(∀ a∈t.Parts,M a)→M t)(t:Derivation):M t:=
 Derivation.ind (M:=M) (fun x0 x1 x2 x3 x4 x5 ih=>h (.mk x0 x1 x2 x3 x4 x5) ih) t
theorem Derivation.lt{t a:Derivation}(h:a∈t.Parts):SizeOf.sizeOf a<SizeOf.sizeOf t:=by
 cases t
 have:=List.sizeOf_lt_of_mem h
 simp only[Derivation.Parts] at this
 simp only[Derivation.mk.sizeOf_spec]; omega
theorem Derivation.pos(t:Derivation):0<SizeOf.sizeOf t:=by cases t; simp only[Derivation.mk.sizeOf_spec]; omega
theorem DRm_(x0:_)(x1:_)(x2:_)(x3:_)(x4:_)(x5:_):(Derivation.mk x0 x1 x2 x3 x4 x5).Rule=x0:=rfl
theorem DSm_(x0:_)(x1:_)(x2:_)(x3:_)(x4:_)(x5:_):(Derivation.mk x0 x1 x2 x3 x4 x5).Sequent=x1:=rfl
theorem DMm_(x0:_)(x1:_)(x2:_)(x3:_)(x4:_)(x5:_):(Derivation.mk x0 x1 x2 x3 x4 x5).Main=x2:=rfl
theorem DTm_(x0:_)(x1:_)(x2:_)(x3:_)(x4:_)(x5:_):(Derivation.mk x0 x1 x2 x3 x4 x5).Term=x3:=rfl
theorem DCm_(x0:_)(x1:_)(x2:_)(x3:_)(x4:_)(x5:_):(Derivation.mk x0 x1 x2 x3 x4 x5).Cut=x4:=rfl
theorem Derivation.Parts_mk(x0:_)(x1:_)(x2:_)(x3:_)(x4:_)(x5:_):(Derivation.mk x0 x1 x2 x3 x4 x5).Parts=x5:=rfl
theorem Derivation.eta(x:Derivation):Derivation.mk x.Rule x.Sequent x.Main x.Term x.Cut x.Parts=x:=by cases x; rfl
theorem Derivation.views'(o:Bool)(l:List Derivation)(h:∀ a∈l,(a.pv o).view=a.pv false):PV.views (l.map (Derivation.pv o))=l.map (Derivation.pv false):=by
 induction l with
 | nil=>rfl
 | cons a l ih=>simp only[List.map_cons,PV.views,h a (by simp),ih (fun b hb=>h b (by simp[hb]))]
theorem Derivation.view(o:Bool)(x:Derivation):(x.pv o).view=x.pv false:=
 Derivation.ind (M:=fun x=>(x.pv o).view=x.pv false) (fun x0 x1 x2 x3 x4 x5 ih=>by simp only[Derivation.pv_u,DRm_,DSm_,DMm_,DTm_,DCm_,Derivation.Parts_mk,va_,PV.views,vs_,vl_,I,B,Sx,Ik,Derivation.views' o x5 ih,Sequent.view,Term.view,Formula.view]) x
theorem Derivation.noViews'(l:List Derivation)(h:∀ a∈l,(a.pv true).noView=true):PV.noViews (l.map (Derivation.pv true))=true:=by
 induction l with
 | nil=>rfl
 | cons a l ih=>simp only[List.map_cons,PV.noViews,h a (by simp),ih (fun b hb=>h b (by simp[hb])),Bool.and_true]
theorem Derivation.noView(x:Derivation):(x.pv true).noView=true:=
 Derivation.ind (M:=fun x=>(x.pv true).noView=true) (fun x0 x1 x2 x3 x4 x5 ih=>by simp only[Derivation.pv_u,DRm_,DSm_,DMm_,DTm_,DCm_,Derivation.Parts_mk,PV.noView,PV.noViews,I,B,Sx,Ik,Derivation.noViews' x5 ih,Bool.and_true,Bool.true_and,Bool.and_self,Sequent.noView,Term.noView,Formula.noView]) x
theorem Derivation.views(o:Bool)(l:List Derivation):PV.views (l.map (Derivation.pv o))=l.map (Derivation.pv false):=vm_ _ _ (fun a=>Derivation.view o a) l
theorem Derivation.noViews(l:List Derivation):PV.noViews (l.map (Derivation.pv true))=true:=nVm_ _ (fun a=>Derivation.noView a) l
theorem Derivation.psize(o:Bool)(x:Derivation):(x.pv o).size=12:=by simp only[Derivation.pv_u,PV.size,PV.sizes,I,B,Sx,Ik,Sequent.psize,Term.psize,Formula.psize]
theorem Derivation.isAgg(o:Bool)(x:Derivation):(CV.pv (x.pv o)).isAgg=true:=by rw[Derivation.pv_u]; rfl
structure marks where
 left:List Bool
 right:List Bool
instance:Inhabited marks:=⟨(marks.mk ([]) ([]))⟩
def marks.pv(o:Bool)(x:marks):PV:=.agg [.sl o 1 (x.left.map B),.sl o 1 (x.right.map B)]
theorem marks.pv_u(o:Bool)(x:marks):x.pv o=.agg [.sl o 1 (x.left.map B),.sl o 1 (x.right.map B)]:=rfl
theorem marks.view(o:Bool)(x:marks):(x.pv o).view=x.pv false:=by simp only[marks.pv_u,va_,PV.views,vs_,vl_,I,B,Sx,Ik,vB_]
theorem marks.noView(x:marks):(x.pv true).noView=true:=by simp only[marks.pv_u,PV.noView,PV.noViews,I,B,Sx,Ik,Bool.and_true,Bool.true_and,Bool.and_self,nVB_]
theorem marks.views(o:Bool)(l:List marks):PV.views (l.map (marks.pv o))=l.map (marks.pv false):=vm_ _ _ (fun a=>marks.view o a) l
theorem marks.noViews(l:List marks):PV.noViews (l.map (marks.pv true))=true:=nVm_ _ (fun a=>marks.noView a) l
theorem marks.psize(o:Bool)(x:marks):(x.pv o).size=2:=by simp only[marks.pv_u,PV.size,PV.sizes,I,B,Sx,Ik]
theorem marks.isAgg(o:Bool)(x:marks):(CV.pv (x.pv o)).isAgg=true:=by rw[marks.pv_u]; rfl
structure Binding where
 Var:ByteArray
 Term:Term
instance:Inhabited Binding:=⟨(Binding.mk (⟨#[]⟩:ByteArray) (Term.mk (⟨#[]⟩:ByteArray) ([])))⟩
def Binding.pv(o:Bool)(x:Binding):PV:=.agg [Sx x.Var,x.Term.pv o]
theorem Binding.pv_u(o:Bool)(x:Binding):x.pv o=.agg [Sx x.Var,x.Term.pv o]:=rfl
theorem Binding.view(o:Bool)(x:Binding):(x.pv o).view=x.pv false:=by simp only[Binding.pv_u,va_,PV.views,vs_,vl_,I,B,Sx,Ik,Term.view]
theorem Binding.noView(x:Binding):(x.pv true).noView=true:=by simp only[Binding.pv_u,PV.noView,PV.noViews,I,B,Sx,Ik,Bool.and_true,Bool.true_and,Bool.and_self,Term.noView]
theorem Binding.views(o:Bool)(l:List Binding):PV.views (l.map (Binding.pv o))=l.map (Binding.pv false):=vm_ _ _ (fun a=>Binding.view o a) l
theorem Binding.noViews(l:List Binding):PV.noViews (l.map (Binding.pv true))=true:=nVm_ _ (fun a=>Binding.noView a) l
theorem Binding.psize(o:Bool)(x:Binding):(x.pv o).size=3:=by simp only[Binding.pv_u,PV.size,PV.sizes,I,B,Sx,Ik,Term.psize]
theorem Binding.isAgg(o:Bool)(x:Binding):(CV.pv (x.pv o)).isAgg=true:=by rw[Binding.pv_u]; rfl
structure Substitution where
 Bindings:List Binding
instance:Inhabited Substitution:=⟨(Substitution.mk ([]))⟩
def Substitution.pv(o:Bool)(x:Substitution):PV:=.agg [.sl o 3 (x.Bindings.map (Binding.pv o))]
theorem Substitution.pv_u(o:Bool)(x:Substitution):x.pv o=.agg [.sl o 3 (x.Bindings.map (Binding.pv o))]:=rfl
theorem Substitution.view(o:Bool)(x:Substitution):(x.pv o).view=x.pv false:=by simp only[Substitution.pv_u,va_,PV.views,vs_,vl_,I,B,Sx,Ik,Binding.views]
theorem Substitution.noView(x:Substitution):(x.pv true).noView=true:=by simp only[Substitution.pv_u,PV.noView,PV.noViews,I,B,Sx,Ik,Bool.and_true,Bool.true_and,Bool.and_self,Binding.noViews]
theorem Substitution.views(o:Bool)(l:List Substitution):PV.views (l.map (Substitution.pv o))=l.map (Substitution.pv false):=vm_ _ _ (fun a=>Substitution.view o a) l
theorem Substitution.noViews(l:List Substitution):PV.noViews (l.map (Substitution.pv true))=true:=nVm_ _ (fun a=>Substitution.noView a) l
theorem Substitution.psize(o:Bool)(x:Substitution):(x.pv o).size=1:=by simp only[Substitution.pv_u,PV.size,PV.sizes,I,B,Sx,Ik]
theorem Substitution.isAgg(o:Bool)(x:Substitution):(CV.pv (x.pv o)).isAgg=true:=by rw[Substitution.pv_u]; rfl
def RS:=And.intro @Term.pv_u<|And.intro @Term.views<|And.intro @Term.noViews<|And.intro @TNm_<|And.intro @TAm_<|And.intro @Formula.pv_u<|And.intro @Formula.views<|And.intro @Formula.noViews<|And.intro @FOm_<|And.intro @FAm_<|And.intro @FVm_<|And.intro @Formula.Parts_mk<|And.intro @Sequent.pv_u<|And.intro @Sequent.views<|And.intro @Sequent.noViews<|And.intro @Derivation.pv_u<|And.intro @Derivation.views<|And.intro @Derivation.noViews<|And.intro @DRm_<|And.intro @DSm_<|And.intro @DMm_<|And.intro @DTm_<|And.intro @DCm_<|And.intro @Derivation.Parts_mk<|And.intro @marks.pv_u<|And.intro @marks.views<|And.intro @marks.noViews<|And.intro @Binding.pv_u<|And.intro @Binding.views<|And.intro @Binding.noViews<|And.intro @Substitution.pv_u<|And.intro @Substitution.views<|@Substitution.noViews
def TP:=And.intro @RA (And.intro @RI @RX)
attribute [push_cast] Term.pv_u Term.views Term.noViews TNm_ TAm_ Formula.pv_u Formula.views Formula.noViews FOm_ FAm_ FVm_ Formula.Parts_mk Sequent.pv_u Sequent.views Sequent.noViews Derivation.pv_u Derivation.views Derivation.noViews DRm_ DSm_ DMm_ DTm_ DCm_ Derivation.Parts_mk marks.pv_u marks.views marks.noViews Binding.pv_u Binding.views Binding.noViews Substitution.pv_u Substitution.views Substitution.noViews
end Go.Proofs.YtkoghcphkdecoaaGreat
