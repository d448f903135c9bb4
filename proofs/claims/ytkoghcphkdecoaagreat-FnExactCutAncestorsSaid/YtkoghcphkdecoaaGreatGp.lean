/- A part of the proof: lemmas only; nothing is claimed here beyond what each lemma says. -/
import Derived.Test.YtkoghcphkdecoaaGreatGm
import Derived.Test.YtkoghcphkdecoaaGreatAvQ
set_option linter.unusedSimpArgs false
set_option linter.unusedVariables false
set_option linter.defProp false
set_option maxRecDepth 4000
namespace Go.Proofs.YtkoghcphkdecoaaGreat
open Go.Av
theorem tIS_1(a:List Int)(h:ltot (fun _=>0) a≤1048576):toIntS a=some a:=by
 unfold toIntS
 exact tL_ (by have:=ll_ (fun _=>0) a; omega)
theorem eIS_(a:List Int):eqIntS a a=some true:=by
 unfold eqIntS
 exact eL_
theorem eBS_2(a:List Bool):eBS_1 a a=some true:=by
 unfold eBS_1
 exact eL_1
mutual
def Term.tot:Term→Nat
 | .mk x0 x1=>ByteArray.size x0+(Term.tots x1)
def Term.tots:List Term→Nat
 | []=>0
 | a::l=>1+a.tot+Term.tots l
end
theorem Term.tots_eq(l:List Term):Term.tots l=ltot Term.tot l:=by
 induction l with
 | nil=>rfl
 | cons a l ih=>simp only[Term.tots,ih,ltot,List.length_cons,List.map_cons,List.sum_cons]; omega
theorem Term.tot_mk(x0:_)(x1:_):(Term.mk x0 x1).tot=ByteArray.size x0+((ltot Term.tot) x1):=by rw[Term.tot,Term.tots_eq]
inductive Term.Ok:Term→Prop
 | mk (x0:_) (x1:_) (h0:(fun s:ByteArray=>Big s.size) x0) (h1:Big x1.length) (g1:∀ a∈x1,Term.Ok a):Term.Ok (.mk x0 x1)
theorem Term.tot_u(a:Term):a.tot=ByteArray.size a.Name+((ltot Term.tot) a.Args):=by cases a; exact Term.tot_mk _ _ 
theorem Term.Ok.u{a:Term}(h:a.Ok):(fun s:ByteArray=>Big s.size) a.Name∧(LOk Term.Ok) a.Args:=by cases h with | mk _ _ h0 h1 g1=>exact⟨h0,⟨h1,g1⟩⟩
theorem sTN_2(a:Term):a.Ok→∀ n,2*SizeOf.sizeOf a≤n→∀ l:Int,0≤l→l≤1048576→sTN_ n a l=some (szR a.tot l):=by
 refine Term.ind (M:=fun a=>a.Ok→∀ n,2*SizeOf.sizeOf a≤n→∀ l:Int,0≤l→l≤1048576→sTN_ n a l=some (szR a.tot l)) (fun x0 x1 ih hok n hn l h0 h1=>?_) a
 cases hok with
 | mk _ _ k0 k1 g1=>
 cases n with
 | zero=>simp only[Term.mk.sizeOf_spec] at hn; omega
 | succ n=>
  rw[sTN_,Term.tot_mk]
  show _=some (szR _ l)
  simp only[TNm_,TAm_]
  refine sSS_2 h0 h1 k0 (fun h0 h1=>?_)
  rw[(show sTS_ n x1 _=some (szR (ltot Term.tot x1) _) from by
   cases n with
   | zero=>simp only[Term.mk.sizeOf_spec] at hn; omega
   | succ n=>
    rw[sTS_]
    exact szL (fun x hx l h0 h1=>ih x hx (g1 x hx) n (by have:=List.sizeOf_lt_of_mem hx; simp only[Term.mk.sizeOf_spec] at hn; omega) l h0 h1) k1 h0 h1),Option.bind_some]
  exact szLast h0
theorem sTe_(a:Term)(h:a.Ok)(l:Int)(h0:0≤l)(h1:l≤1048576):szTerm a l=some (szR a.tot l):=lim_eq ⟨_,fun n hn=>sTN_2 a h n hn l h0 h1⟩
theorem tTN_2(a:Term):a.tot≤1048576→∀ n,2*SizeOf.sizeOf a≤n→tTN_ n a=some a:=by
 refine Term.ind (M:=fun a=>a.tot≤1048576→∀ n,2*SizeOf.sizeOf a≤n→tTN_ n a=some a) (fun x0 x1 ih h n hn=>?_) a
 rw[Term.tot_mk] at h
 cases n with
 | zero=>simp only[Term.mk.sizeOf_spec] at hn; omega
 | succ n=>
  rw[tTN_]
  simp only[TNm_,TAm_]
  rw[(show tTS_ n x1=some x1 from by
   cases n with
   | zero=>simp only[Term.mk.sizeOf_spec] at hn; omega
   | succ n=>
    rw[tTS_]
    have:=toL (f:=tTN_ n) (g:=fun x=>x) (z:=(Term.mk (⟨#[]⟩:ByteArray) ([]))) (xs:=x1) (fun x hx=>ih x hx (by have:=tm_ Term.tot hx; omega) n (by have:=List.sizeOf_lt_of_mem hx; simp only[Term.mk.sizeOf_spec] at hn; omega)) (by have:=ll_ Term.tot x1; omega)
    simpa only[List.map_id'] using this),Option.bind_some]
theorem tTe_(a:Term)(h:a.tot≤1048576):toTerm a=some a:=lim_eq ⟨_,fun n hn=>tTN_2 a h n hn⟩
theorem eTN_2(a:Term):∀ n,2*SizeOf.sizeOf a≤n→eTN_ n a a=some true:=by
 refine Term.ind (M:=fun a=>∀ n,2*SizeOf.sizeOf a≤n→eTN_ n a a=some true) (fun x0 x1 ih n hn=>?_) a
 cases n with
 | zero=>simp only[Term.mk.sizeOf_spec] at hn; omega
 | succ n=>
  have hl:eTS_ n x1 x1=some true:=by
   cases n with
   | zero=>simp only[Term.mk.sizeOf_spec] at hn; omega
   | succ n=>
    rw[eTS_]
    exact eqL (fun x hx=>ih x hx n (by have:=List.sizeOf_lt_of_mem hx; simp only[Term.mk.sizeOf_spec] at hn; omega))
  rw[eTN_]
  simp only[TNm_,TAm_,hl,decide_true,cond_true,Option.bind_some,beq_self_eq_true]
theorem eTr_(a:Term):eqTerm a a=some true:=lim_eq ⟨_,fun n hn=>eTN_2 a n hn⟩
mutual
def Formula.tot:Formula→Nat
 | .mk x0 x1 x2 x3=>Term.tot x1+(ByteArray.size x2+(Formula.tots x3))
def Formula.tots:List Formula→Nat
 | []=>0
 | a::l=>1+a.tot+Formula.tots l
end
theorem Formula.tots_eq(l:List Formula):Formula.tots l=ltot Formula.tot l:=by
 induction l with
 | nil=>rfl
 | cons a l ih=>simp only[Formula.tots,ih,ltot,List.length_cons,List.map_cons,List.sum_cons]; omega
theorem Formula.tot_mk(x0:_)(x1:_)(x2:_)(x3:_):(Formula.mk x0 x1 x2 x3).tot=Term.tot x1+(ByteArray.size x2+((ltot Formula.tot) x3)):=by rw[Formula.tot,Formula.tots_eq]
inductive Formula.Ok:Formula→Prop
 | mk (x0:_) (x1:_) (x2:_) (x3:_) (h0:InR x0) (h1:Term.Ok x1) (h2:(fun s:ByteArray=>Big s.size) x2) (h3:Big x3.length) (g3:∀ a∈x3,Formula.Ok a):Formula.Ok (.mk x0 x1 x2 x3)
theorem Formula.tot_u(a:Formula):a.tot=Term.tot a.Atom+(ByteArray.size a.Var+((ltot Formula.tot) a.Parts)):=by cases a; exact Formula.tot_mk _ _ _ _ 
theorem Formula.Ok.u{a:Formula}(h:a.Ok):InR a.Op∧Term.Ok a.Atom∧(fun s:ByteArray=>Big s.size) a.Var∧(LOk Formula.Ok) a.Parts:=by cases h with | mk _ _ _ _ h0 h1 h2 h3 g3=>exact⟨h0,h1,h2,⟨h3,g3⟩⟩
theorem sFN_2(a:Formula):a.Ok→∀ n,2*SizeOf.sizeOf a≤n→∀ l:Int,0≤l→l≤1048576→sFN_ n a l=some (szR a.tot l):=by
 refine Formula.ind (M:=fun a=>a.Ok→∀ n,2*SizeOf.sizeOf a≤n→∀ l:Int,0≤l→l≤1048576→sFN_ n a l=some (szR a.tot l)) (fun x0 x1 x2 x3 ih hok n hn l h0 h1=>?_) a
 cases hok with
 | mk _ _ _ _ k0 k1 k2 k3 g3=>
 cases n with
 | zero=>simp only[Formula.mk.sizeOf_spec] at hn; omega
 | succ n=>
  rw[sFN_,Formula.tot_mk]
  show _=some (szR _ l)
  simp only[FOm_,FAm_,FVm_,Formula.Parts_mk]
  rw[sTe_ _ k1 _ h0 h1,Option.bind_some]
  refine sSM_ h0 h1 (fun h0 h1=>?_)
  refine sSS_2 h0 h1 k2 (fun h0 h1=>?_)
  rw[(show sFS_ n x3 _=some (szR (ltot Formula.tot x3) _) from by
   cases n with
   | zero=>simp only[Formula.mk.sizeOf_spec] at hn; omega
   | succ n=>
    rw[sFS_]
    exact szL (fun x hx l h0 h1=>ih x hx (g3 x hx) n (by have:=List.sizeOf_lt_of_mem hx; simp only[Formula.mk.sizeOf_spec] at hn; omega) l h0 h1) k3 h0 h1),Option.bind_some]
  exact szLast h0
theorem sFe_(a:Formula)(h:a.Ok)(l:Int)(h0:0≤l)(h1:l≤1048576):sF_ a l=some (szR a.tot l):=lim_eq ⟨_,fun n hn=>sFN_2 a h n hn l h0 h1⟩
theorem sFS_3(a:List Formula)(h:LOk Formula.Ok a)(l:Int)(h0:0≤l)(h1:l≤1048576):sFS_1 a l=some (szR (ltot Formula.tot a) l):=by
 refine lim_eq ⟨2*SizeOf.sizeOf a+1,fun n hn=>?_⟩
 cases n with
 | zero=>omega
 | succ n=>
  show sFS_ (n+1) a l=_
  rw[sFS_]
  exact szL (fun x hx l h0 h1=>sFN_2 x (h.2 x hx) n (by have:=List.sizeOf_lt_of_mem hx; omega) l h0 h1) h.1 h0 h1
theorem tFN_2(a:Formula):a.tot≤1048576→∀ n,2*SizeOf.sizeOf a≤n→tFN_ n a=some a:=by
 refine Formula.ind (M:=fun a=>a.tot≤1048576→∀ n,2*SizeOf.sizeOf a≤n→tFN_ n a=some a) (fun x0 x1 x2 x3 ih h n hn=>?_) a
 rw[Formula.tot_mk] at h
 cases n with
 | zero=>simp only[Formula.mk.sizeOf_spec] at hn; omega
 | succ n=>
  rw[tFN_]
  simp only[FOm_,FAm_,FVm_,Formula.Parts_mk]
  rw[tTe_ _ (by omega),Option.bind_some]
  rw[(show tFS_ n x3=some x3 from by
   cases n with
   | zero=>simp only[Formula.mk.sizeOf_spec] at hn; omega
   | succ n=>
    rw[tFS_]
    have:=toL (f:=tFN_ n) (g:=fun x=>x) (z:=(Formula.mk (0:Int) (Term.mk (⟨#[]⟩:ByteArray) ([])) (⟨#[]⟩:ByteArray) ([]))) (xs:=x3) (fun x hx=>ih x hx (by have:=tm_ Formula.tot hx; omega) n (by have:=List.sizeOf_lt_of_mem hx; simp only[Formula.mk.sizeOf_spec] at hn; omega)) (by have:=ll_ Formula.tot x3; omega)
    simpa only[List.map_id'] using this),Option.bind_some]
theorem tFe_(a:Formula)(h:a.tot≤1048576):tF_ a=some a:=lim_eq ⟨_,fun n hn=>tFN_2 a h n hn⟩
theorem tFS_3(a:List Formula)(h:ltot Formula.tot a≤1048576):tFS_1 a=some a:=by
 refine lim_eq ⟨2*SizeOf.sizeOf a+1,fun n hn=>?_⟩
 cases n with
 | zero=>omega
 | succ n=>
  show tFS_ (n+1) a=_
  rw[tFS_]
  have:=toL (f:=tFN_ n) (g:=fun x=>x) (z:=(Formula.mk (0:Int) (Term.mk (⟨#[]⟩:ByteArray) ([])) (⟨#[]⟩:ByteArray) ([]))) (xs:=a) (fun x hx=>tFN_2 x (by have:=tm_ Formula.tot hx; omega) n (by have:=List.sizeOf_lt_of_mem hx; omega)) (by have:=ll_ Formula.tot a; omega)
  simpa only[List.map_id'] using this
theorem eFN_1(a:Formula):∀ n,2*SizeOf.sizeOf a≤n→eFN_ n a a=some true:=by
 refine Formula.ind (M:=fun a=>∀ n,2*SizeOf.sizeOf a≤n→eFN_ n a a=some true) (fun x0 x1 x2 x3 ih n hn=>?_) a
 cases n with
 | zero=>simp only[Formula.mk.sizeOf_spec] at hn; omega
 | succ n=>
  have hl:eFS_ n x3 x3=some true:=by
   cases n with
   | zero=>simp only[Formula.mk.sizeOf_spec] at hn; omega
   | succ n=>
    rw[eFS_]
    exact eqL (fun x hx=>ih x hx n (by have:=List.sizeOf_lt_of_mem hx; simp only[Formula.mk.sizeOf_spec] at hn; omega))
  rw[eFN_]
  simp only[FOm_,FAm_,FVm_,Formula.Parts_mk,hl,decide_true,cond_true,Option.bind_some,beq_self_eq_true,eTr_]
theorem eFr_(a:Formula):eF_ a a=some true:=lim_eq ⟨_,fun n hn=>eFN_1 a n hn⟩
theorem eFS_1(a:List Formula):eFS_2 a a=some true:=by
 refine lim_eq ⟨2*SizeOf.sizeOf a+1,fun n hn=>?_⟩
 cases n with
 | zero=>omega
 | succ n=>
  show eFS_ (n+1) a a=_
  rw[eFS_]
  exact eqL (fun x hx=>eFN_1 x n (by have:=List.sizeOf_lt_of_mem hx; omega))
def Sequent.tot(a:Sequent):Nat:=(ltot Formula.tot) a.Left+((ltot Formula.tot) a.Right)
def Sequent.Ok(a:Sequent):Prop:=(LOk Formula.Ok) a.Left∧(LOk Formula.Ok) a.Right
theorem sSe_(a:Sequent)(h:a.Ok)(l:Int)(h0:0≤l)(h1:l≤1048576):sS_ a l=some (szR a.tot l):=by
 unfold sS_
 show _=some (szR _ l)
 unfold Sequent.tot
 rw[sFS_3 _ h.1 _ h0 h1,Option.bind_some]
 refine sSM_ h0 h1 (fun h0 h1=>?_)
 rw[sFS_3 _ h.2 _ h0 h1,Option.bind_some]
 exact szLast h0
theorem tSe_(a:Sequent)(h:a.tot≤1048576):tS_ a=some a:=by
 unfold tS_
 unfold Sequent.tot at h
 rw[tFS_3 _ (by omega),Option.bind_some]
 rw[tFS_3 _ (by omega),Option.bind_some]
theorem eSr_(a:Sequent):eS_ a a=some true:=by
 unfold eS_
 simp only[decide_true,cond_true,Option.bind_some,beq_self_eq_true,eFS_1,eFS_1]
mutual
def Derivation.tot:Derivation→Nat
 | .mk x0 x1 x2 x3 x4 x5=>Sequent.tot x1+(Term.tot x3+(Formula.tot x4+(Derivation.tots x5)))
def Derivation.tots:List Derivation→Nat
 | []=>0
 | a::l=>1+a.tot+Derivation.tots l
end
theorem Derivation.tots_eq(l:List Derivation):Derivation.tots l=ltot Derivation.tot l:=by
 induction l with
 | nil=>rfl
 | cons a l ih=>simp only[Derivation.tots,ih,ltot,List.length_cons,List.map_cons,List.sum_cons]; omega
theorem Derivation.tot_mk(x0:_)(x1:_)(x2:_)(x3:_)(x4:_)(x5:_):(Derivation.mk x0 x1 x2 x3 x4 x5).tot=Sequent.tot x1+(Term.tot x3+(Formula.tot x4+((ltot Derivation.tot) x5))):=by rw[Derivation.tot,Derivation.tots_eq]
inductive Derivation.Ok:Derivation→Prop
 | mk (x0:_) (x1:_) (x2:_) (x3:_) (x4:_) (x5:_) (h0:InR x0) (h1:Sequent.Ok x1) (h2:InR x2) (h3:Term.Ok x3) (h4:Formula.Ok x4) (h5:Big x5.length) (g5:∀ a∈x5,Derivation.Ok a):Derivation.Ok (.mk x0 x1 x2 x3 x4 x5)
theorem Derivation.tot_u(a:Derivation):a.tot=Sequent.tot a.Sequent+(Term.tot a.Term+(Formula.tot a.Cut+((ltot Derivation.tot) a.Parts))):=by cases a; exact Derivation.tot_mk _ _ _ _ _ _ 
theorem Derivation.Ok.u{a:Derivation}(h:a.Ok):InR a.Rule∧Sequent.Ok a.Sequent∧InR a.Main∧Term.Ok a.Term∧Formula.Ok a.Cut∧(LOk Derivation.Ok) a.Parts:=by cases h with | mk _ _ _ _ _ _ h0 h1 h2 h3 h4 h5 g5=>exact⟨h0,h1,h2,h3,h4,⟨h5,g5⟩⟩
theorem sDN_2(a:Derivation):a.Ok→∀ n,2*SizeOf.sizeOf a≤n→∀ l:Int,0≤l→l≤1048576→sDN_ n a l=some (szR a.tot l):=by
 refine Derivation.ind (M:=fun a=>a.Ok→∀ n,2*SizeOf.sizeOf a≤n→∀ l:Int,0≤l→l≤1048576→sDN_ n a l=some (szR a.tot l)) (fun x0 x1 x2 x3 x4 x5 ih hok n hn l h0 h1=>?_) a
 cases hok with
 | mk _ _ _ _ _ _ k0 k1 k2 k3 k4 k5 g5=>
 cases n with
 | zero=>simp only[Derivation.mk.sizeOf_spec] at hn; omega
 | succ n=>
  rw[sDN_,Derivation.tot_mk]
  show _=some (szR _ l)
  simp only[DRm_,DSm_,DMm_,DTm_,DCm_,Derivation.Parts_mk]
  rw[sSe_ _ k1 _ h0 h1,Option.bind_some]
  refine sSM_ h0 h1 (fun h0 h1=>?_)
  rw[sTe_ _ k3 _ h0 h1,Option.bind_some]
  refine sSM_ h0 h1 (fun h0 h1=>?_)
  rw[sFe_ _ k4 _ h0 h1,Option.bind_some]
  refine sSM_ h0 h1 (fun h0 h1=>?_)
  rw[(show sDS_ n x5 _=some (szR (ltot Derivation.tot x5) _) from by
   cases n with
   | zero=>simp only[Derivation.mk.sizeOf_spec] at hn; omega
   | succ n=>
    rw[sDS_]
    exact szL (fun x hx l h0 h1=>ih x hx (g5 x hx) n (by have:=List.sizeOf_lt_of_mem hx; simp only[Derivation.mk.sizeOf_spec] at hn; omega) l h0 h1) k5 h0 h1),Option.bind_some]
  exact szLast h0
theorem sDe_(a:Derivation)(h:a.Ok)(l:Int)(h0:0≤l)(h1:l≤1048576):sD_ a l=some (szR a.tot l):=lim_eq ⟨_,fun n hn=>sDN_2 a h n hn l h0 h1⟩
theorem tDN_2(a:Derivation):a.tot≤1048576→∀ n,2*SizeOf.sizeOf a≤n→tDN_ n a=some a:=by
 refine Derivation.ind (M:=fun a=>a.tot≤1048576→∀ n,2*SizeOf.sizeOf a≤n→tDN_ n a=some a) (fun x0 x1 x2 x3 x4 x5 ih h n hn=>?_) a
 rw[Derivation.tot_mk] at h
 cases n with
 | zero=>simp only[Derivation.mk.sizeOf_spec] at hn; omega
 | succ n=>
  rw[tDN_]
  simp only[DRm_,DSm_,DMm_,DTm_,DCm_,Derivation.Parts_mk]
  rw[tSe_ _ (by omega),Option.bind_some]
  rw[tTe_ _ (by omega),Option.bind_some]
  rw[tFe_ _ (by omega),Option.bind_some]
  rw[(show tDS_ n x5=some x5 from by
   cases n with
   | zero=>simp only[Derivation.mk.sizeOf_spec] at hn; omega
   | succ n=>
    rw[tDS_]
    have:=toL (f:=tDN_ n) (g:=fun x=>x) (z:=(Derivation.mk (0:Int) (Sequent.mk ([]) ([])) (0:Int) (Term.mk (⟨#[]⟩:ByteArray) ([])) (Formula.mk (0:Int) (Term.mk (⟨#[]⟩:ByteArray) ([])) (⟨#[]⟩:ByteArray) ([])) ([]))) (xs:=x5) (fun x hx=>ih x hx (by have:=tm_ Derivation.tot hx; omega) n (by have:=List.sizeOf_lt_of_mem hx; simp only[Derivation.mk.sizeOf_spec] at hn; omega)) (by have:=ll_ Derivation.tot x5; omega)
    simpa only[List.map_id'] using this),Option.bind_some]
theorem tDe_(a:Derivation)(h:a.tot≤1048576):tD_ a=some a:=lim_eq ⟨_,fun n hn=>tDN_2 a h n hn⟩
theorem eDN_2(a:Derivation):∀ n,2*SizeOf.sizeOf a≤n→eDN_ n a a=some true:=by
 refine Derivation.ind (M:=fun a=>∀ n,2*SizeOf.sizeOf a≤n→eDN_ n a a=some true) (fun x0 x1 x2 x3 x4 x5 ih n hn=>?_) a
 cases n with
 | zero=>simp only[Derivation.mk.sizeOf_spec] at hn; omega
 | succ n=>
  have hl:eDS_ n x5 x5=some true:=by
   cases n with
   | zero=>simp only[Derivation.mk.sizeOf_spec] at hn; omega
   | succ n=>
    rw[eDS_]
    exact eqL (fun x hx=>ih x hx n (by have:=List.sizeOf_lt_of_mem hx; simp only[Derivation.mk.sizeOf_spec] at hn; omega))
  rw[eDN_]
  simp only[DRm_,DSm_,DMm_,DTm_,DCm_,Derivation.Parts_mk,hl,decide_true,cond_true,Option.bind_some,beq_self_eq_true,eSr_,eTr_,eFr_]
theorem eDr_(a:Derivation):eD_ a a=some true:=lim_eq ⟨_,fun n hn=>eDN_2 a n hn⟩
def marks.tot(a:marks):Nat:=(ltot (fun _=>0)) a.left+((ltot (fun _=>0)) a.right)
def marks.Ok(a:marks):Prop:=(LOk (fun _:Bool=>True)) a.left∧(LOk (fun _:Bool=>True)) a.right
def Binding.tot(a:Binding):Nat:=ByteArray.size a.Var+(Term.tot a.Term)
def Binding.Ok(a:Binding):Prop:=(fun s:ByteArray=>Big s.size) a.Var∧Term.Ok a.Term
def Substitution.tot(a:Substitution):Nat:=(ltot Binding.tot) a.Bindings
def Substitution.Ok(a:Substitution):Prop:=(LOk Binding.Ok) a.Bindings
end Go.Proofs.YtkoghcphkdecoaaGreat
