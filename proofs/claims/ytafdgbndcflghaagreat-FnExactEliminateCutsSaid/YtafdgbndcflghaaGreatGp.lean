/- Lemmas of the proof; each says what it shows. -/
import Derived.Test.YtafdgbndcflghaaGreatGm
import Derived.Test.YtafdgbndcflghaaGreatAvZ
set_option linter.unusedSimpArgs false
set_option linter.unusedVariables false
set_option linter.defProp false
set_option maxRecDepth 4000
namespace Go.Proofs.YtafdgbndcflghaaGreat
open Go.Av
open List renaming length_cons→aO
open Option renaming bind_some→ak
open SizeOf renaming sizeOf→av
mutual
def Tt.tot:Tt→Nat
 | .mk x0 x1=>ByteArray.size x0+(Tt.tots x1)
def Tt.tots:List Tt→Nat
 | []=>0
 | a::l=>1+a.tot+Tt.tots l
end
theorem Tt.tots_eq(l:List Tt):Tt.tots l=ltot Tt.tot l:=by
 induction l with
 | nil=>rfl
 | cons a l ih=>simp only[Tt.tots,ih,ltot,aO,List.map_cons,List.sum_cons]; omega
theorem Tt.tot_mk(x0:_)(x1:_):(Tt.mk x0 x1).tot=ByteArray.size x0+((ltot Tt.tot) x1):=by rw[Tt.tot,Tt.tots_eq]
inductive Tt.Ok:Tt→Prop
 | mk (x0:_) (x1:_) (h0:(fun s:ByteArray=>Big s.size) x0) (h1:Big x1.length) (g1:∀ a∈x1,Tt.Ok a):Tt.Ok (.mk x0 x1)
theorem Tt.tot_u(a:Tt):a.tot=ByteArray.size a.Name+((ltot Tt.tot) a.Args):=by cases a; exact Tt.tot_mk _ _ 
theorem Tt.Ok.u{a:Tt}(h:a.Ok):(fun s:ByteArray=>Big s.size) a.Name∧(LOk Tt.Ok) a.Args:=by cases h with | mk _ _ h0 h1 g1=>exact⟨h0,⟨h1,g1⟩⟩
theorem sTN_2(a:Tt):a.Ok→∀ n,2*av a≤n→∀ l:Int,0≤l→l≤1048576→sTN_ n a l=some (szR a.tot l):=by
 refine Tt.ind (M:=fun a=>a.Ok→∀ n,2*av a≤n→∀ l:Int,0≤l→l≤1048576→sTN_ n a l=some (szR a.tot l)) (fun x0 x1 ih hok n hn l h0 h1=>?_) a
 cases hok with
 | mk _ _ k0 k1 g1=>
 cases n with
 | zero=>simp only[Tt.mk.sizeOf_spec] at hn; omega
 | succ n=>
  rw[sTN_,Tt.tot_mk]
  show _=some (szR _ l)
  simp only[TNm_,TAm_]
  refine sSS_2 h0 h1 k0 (fun h0 h1=>?_)
  rw[(show sTS_ n x1 _=some (szR (ltot Tt.tot x1) _) from by
   cases n with
   | zero=>simp only[Tt.mk.sizeOf_spec] at hn; omega
   | succ n=>
    rw[sTS_]
    exact szL (fun x hx l h0 h1=>ih x hx (g1 x hx) n (by have:=List.sizeOf_lt_of_mem hx; simp only[Tt.mk.sizeOf_spec] at hn; omega) l h0 h1) k1 h0 h1),ak]
  exact sL_ h0
theorem sTe_(a:Tt)(h:a.Ok)(l:Int)(h0:0≤l)(h1:l≤1048576):sT_1 a l=some (szR a.tot l):=le_ ⟨_,fun n hn=>sTN_2 a h n hn l h0 h1⟩
theorem tTN_2(a:Tt):a.tot≤1048576→∀ n,2*av a≤n→tTN_ n a=some a:=by
 refine Tt.ind (M:=fun a=>a.tot≤1048576→∀ n,2*av a≤n→tTN_ n a=some a) (fun x0 x1 ih h n hn=>?_) a
 rw[Tt.tot_mk] at h
 cases n with
 | zero=>simp only[Tt.mk.sizeOf_spec] at hn; omega
 | succ n=>
  rw[tTN_]
  simp only[TNm_,TAm_]
  rw[(show tTS_ n x1=some x1 from by
   cases n with
   | zero=>simp only[Tt.mk.sizeOf_spec] at hn; omega
   | succ n=>
    rw[tTS_]
    have:=toL (f:=tTN_ n) (g:=fun x=>x) (z:=(Tt.mk (⟨#[]⟩:ByteArray) ([]))) (xs:=x1) (fun x hx=>ih x hx (by have:=tm_ Tt.tot hx; omega) n (by have:=List.sizeOf_lt_of_mem hx; simp only[Tt.mk.sizeOf_spec] at hn; omega)) (by have:=ll_ Tt.tot x1; omega)
    simpa only[List.map_id'] using this),ak]
theorem tTe_(a:Tt)(h:a.tot≤1048576):tT_ a=some a:=le_ ⟨_,fun n hn=>tTN_2 a h n hn⟩
theorem eTN_2(a:Tt):∀ n,2*av a≤n→eTN_ n a a=some true:=by
 refine Tt.ind (M:=fun a=>∀ n,2*av a≤n→eTN_ n a a=some true) (fun x0 x1 ih n hn=>?_) a
 cases n with
 | zero=>simp only[Tt.mk.sizeOf_spec] at hn; omega
 | succ n=>
  have hl:eTS_ n x1 x1=some true:=by
   cases n with
   | zero=>simp only[Tt.mk.sizeOf_spec] at hn; omega
   | succ n=>
    rw[eTS_]
    exact eqL (fun x hx=>ih x hx n (by have:=List.sizeOf_lt_of_mem hx; simp only[Tt.mk.sizeOf_spec] at hn; omega))
  rw[eTN_]
  simp only[TNm_,TAm_,hl,decide_true,cond_true,ak,beq_self_eq_true]
theorem eTr_(a:Tt):eT_ a a=some true:=le_ ⟨_,fun n hn=>eTN_2 a n hn⟩
mutual
def Ft.tot:Ft→Nat
 | .mk x0 x1 x2 x3=>Tt.tot x1+(ByteArray.size x2+(Ft.tots x3))
def Ft.tots:List Ft→Nat
 | []=>0
 | a::l=>1+a.tot+Ft.tots l
end
theorem Ft.tots_eq(l:List Ft):Ft.tots l=ltot Ft.tot l:=by
 induction l with
 | nil=>rfl
 | cons a l ih=>simp only[Ft.tots,ih,ltot,aO,List.map_cons,List.sum_cons]; omega
theorem Ft.tot_mk(x0:_)(x1:_)(x2:_)(x3:_):(Ft.mk x0 x1 x2 x3).tot=Tt.tot x1+(ByteArray.size x2+((ltot Ft.tot) x3)):=by rw[Ft.tot,Ft.tots_eq]
inductive Ft.Ok:Ft→Prop
 | mk (x0:_) (x1:_) (x2:_) (x3:_) (h0:InR x0) (h1:Tt.Ok x1) (h2:(fun s:ByteArray=>Big s.size) x2) (h3:Big x3.length) (g3:∀ a∈x3,Ft.Ok a):Ft.Ok (.mk x0 x1 x2 x3)
theorem Ft.tot_u(a:Ft):a.tot=Tt.tot a.Atom+(ByteArray.size a.Var+((ltot Ft.tot) a.Parts)):=by cases a; exact Ft.tot_mk _ _ _ _ 
theorem Ft.Ok.u{a:Ft}(h:a.Ok):InR a.Op∧Tt.Ok a.Atom∧(fun s:ByteArray=>Big s.size) a.Var∧(LOk Ft.Ok) a.Parts:=by cases h with | mk _ _ _ _ h0 h1 h2 h3 g3=>exact⟨h0,h1,h2,⟨h3,g3⟩⟩
theorem sFN_2(a:Ft):a.Ok→∀ n,2*av a≤n→∀ l:Int,0≤l→l≤1048576→sFN_ n a l=some (szR a.tot l):=by
 refine Ft.ind (M:=fun a=>a.Ok→∀ n,2*av a≤n→∀ l:Int,0≤l→l≤1048576→sFN_ n a l=some (szR a.tot l)) (fun x0 x1 x2 x3 ih hok n hn l h0 h1=>?_) a
 cases hok with
 | mk _ _ _ _ k0 k1 k2 k3 g3=>
 cases n with
 | zero=>simp only[Ft.mk.sizeOf_spec] at hn; omega
 | succ n=>
  rw[sFN_,Ft.tot_mk]
  show _=some (szR _ l)
  simp only[FOm_,FAm_,FVm_,Ft.Parts_mk]
  rw[sTe_ _ k1 _ h0 h1,ak]
  refine sSM_ h0 h1 (fun h0 h1=>?_)
  refine sSS_2 h0 h1 k2 (fun h0 h1=>?_)
  rw[(show sFS_ n x3 _=some (szR (ltot Ft.tot x3) _) from by
   cases n with
   | zero=>simp only[Ft.mk.sizeOf_spec] at hn; omega
   | succ n=>
    rw[sFS_]
    exact szL (fun x hx l h0 h1=>ih x hx (g3 x hx) n (by have:=List.sizeOf_lt_of_mem hx; simp only[Ft.mk.sizeOf_spec] at hn; omega) l h0 h1) k3 h0 h1),ak]
  exact sL_ h0
theorem sFe_(a:Ft)(h:a.Ok)(l:Int)(h0:0≤l)(h1:l≤1048576):sF_ a l=some (szR a.tot l):=le_ ⟨_,fun n hn=>sFN_2 a h n hn l h0 h1⟩
theorem sFS_3(a:List Ft)(h:LOk Ft.Ok a)(l:Int)(h0:0≤l)(h1:l≤1048576):sFS_1 a l=some (szR (ltot Ft.tot a) l):=by
 refine le_ ⟨2*av a+1,fun n hn=>?_⟩
 cases n with
 | zero=>omega
 | succ n=>
  show sFS_ (n+1) a l=_
  rw[sFS_]
  exact szL (fun x hx l h0 h1=>sFN_2 x (h.2 x hx) n (by have:=List.sizeOf_lt_of_mem hx; omega) l h0 h1) h.1 h0 h1
theorem tFN_2(a:Ft):a.tot≤1048576→∀ n,2*av a≤n→tFN_ n a=some a:=by
 refine Ft.ind (M:=fun a=>a.tot≤1048576→∀ n,2*av a≤n→tFN_ n a=some a) (fun x0 x1 x2 x3 ih h n hn=>?_) a
 rw[Ft.tot_mk] at h
 cases n with
 | zero=>simp only[Ft.mk.sizeOf_spec] at hn; omega
 | succ n=>
  rw[tFN_]
  simp only[FOm_,FAm_,FVm_,Ft.Parts_mk]
  rw[tTe_ _ (by omega),ak]
  rw[(show tFS_ n x3=some x3 from by
   cases n with
   | zero=>simp only[Ft.mk.sizeOf_spec] at hn; omega
   | succ n=>
    rw[tFS_]
    have:=toL (f:=tFN_ n) (g:=fun x=>x) (z:=(Ft.mk (0:Int) (Tt.mk (⟨#[]⟩:ByteArray) ([])) (⟨#[]⟩:ByteArray) ([]))) (xs:=x3) (fun x hx=>ih x hx (by have:=tm_ Ft.tot hx; omega) n (by have:=List.sizeOf_lt_of_mem hx; simp only[Ft.mk.sizeOf_spec] at hn; omega)) (by have:=ll_ Ft.tot x3; omega)
    simpa only[List.map_id'] using this),ak]
theorem tFe_(a:Ft)(h:a.tot≤1048576):tF_ a=some a:=le_ ⟨_,fun n hn=>tFN_2 a h n hn⟩
theorem tFS_3(a:List Ft)(h:ltot Ft.tot a≤1048576):tFS_1 a=some a:=by
 refine le_ ⟨2*av a+1,fun n hn=>?_⟩
 cases n with
 | zero=>omega
 | succ n=>
  show tFS_ (n+1) a=_
  rw[tFS_]
  have:=toL (f:=tFN_ n) (g:=fun x=>x) (z:=(Ft.mk (0:Int) (Tt.mk (⟨#[]⟩:ByteArray) ([])) (⟨#[]⟩:ByteArray) ([]))) (xs:=a) (fun x hx=>tFN_2 x (by have:=tm_ Ft.tot hx; omega) n (by have:=List.sizeOf_lt_of_mem hx; omega)) (by have:=ll_ Ft.tot a; omega)
  simpa only[List.map_id'] using this
theorem eFN_1(a:Ft):∀ n,2*av a≤n→eFN_ n a a=some true:=by
 refine Ft.ind (M:=fun a=>∀ n,2*av a≤n→eFN_ n a a=some true) (fun x0 x1 x2 x3 ih n hn=>?_) a
 cases n with
 | zero=>simp only[Ft.mk.sizeOf_spec] at hn; omega
 | succ n=>
  have hl:eFS_ n x3 x3=some true:=by
   cases n with
   | zero=>simp only[Ft.mk.sizeOf_spec] at hn; omega
   | succ n=>
    rw[eFS_]
    exact eqL (fun x hx=>ih x hx n (by have:=List.sizeOf_lt_of_mem hx; simp only[Ft.mk.sizeOf_spec] at hn; omega))
  rw[eFN_]
  simp only[FOm_,FAm_,FVm_,Ft.Parts_mk,hl,decide_true,cond_true,ak,beq_self_eq_true,eTr_]
theorem eFr_(a:Ft):eF_ a a=some true:=le_ ⟨_,fun n hn=>eFN_1 a n hn⟩
theorem eFS_2(a:List Ft):eFS_1 a a=some true:=by
 refine le_ ⟨2*av a+1,fun n hn=>?_⟩
 cases n with
 | zero=>omega
 | succ n=>
  show eFS_ (n+1) a a=_
  rw[eFS_]
  exact eqL (fun x hx=>eFN_1 x n (by have:=List.sizeOf_lt_of_mem hx; omega))
def Sa.tot(a:Sa):Nat:=(ltot Ft.tot) a.Left+((ltot Ft.tot) a.Right)
def Sa.Ok(a:Sa):Prop:=(LOk Ft.Ok) a.Left∧(LOk Ft.Ok) a.Right
theorem sSe_(a:Sa)(h:a.Ok)(l:Int)(h0:0≤l)(h1:l≤1048576):sS_ a l=some (szR a.tot l):=by
 unfold sS_
 show _=some (szR _ l)
 unfold Sa.tot
 rw[sFS_3 _ h.1 _ h0 h1,ak]
 refine sSM_ h0 h1 (fun h0 h1=>?_)
 rw[sFS_3 _ h.2 _ h0 h1,ak]
 exact sL_ h0
theorem tSe_(a:Sa)(h:a.tot≤1048576):tS_ a=some a:=by
 unfold tS_
 unfold Sa.tot at h
 rw[tFS_3 _ (by omega),ak]
 rw[tFS_3 _ (by omega),ak]
theorem eSr_(a:Sa):eS_1 a a=some true:=by
 unfold eS_1
 simp only[decide_true,cond_true,ak,beq_self_eq_true,eFS_2,eFS_2]
mutual
def Dt.tot:Dt→Nat
 | .mk x0 x1 x2 x3 x4 x5=>Sa.tot x1+(Tt.tot x3+(Ft.tot x4+(Dt.tots x5)))
def Dt.tots:List Dt→Nat
 | []=>0
 | a::l=>1+a.tot+Dt.tots l
end
theorem Dt.tots_eq(l:List Dt):Dt.tots l=ltot Dt.tot l:=by
 induction l with
 | nil=>rfl
 | cons a l ih=>simp only[Dt.tots,ih,ltot,aO,List.map_cons,List.sum_cons]; omega
theorem Dt.tot_mk(x0:_)(x1:_)(x2:_)(x3:_)(x4:_)(x5:_):(Dt.mk x0 x1 x2 x3 x4 x5).tot=Sa.tot x1+(Tt.tot x3+(Ft.tot x4+((ltot Dt.tot) x5))):=by rw[Dt.tot,Dt.tots_eq]
inductive Dt.Ok:Dt→Prop
 | mk (x0:_) (x1:_) (x2:_) (x3:_) (x4:_) (x5:_) (h0:InR x0) (h1:Sa.Ok x1) (h2:InR x2) (h3:Tt.Ok x3) (h4:Ft.Ok x4) (h5:Big x5.length) (g5:∀ a∈x5,Dt.Ok a):Dt.Ok (.mk x0 x1 x2 x3 x4 x5)
theorem Dt.tot_u(a:Dt):a.tot=Sa.tot a.Sequent+(Tt.tot a.Term+(Ft.tot a.Cut+((ltot Dt.tot) a.Parts))):=by cases a; exact Dt.tot_mk _ _ _ _ _ _ 
theorem Dt.Ok.u{a:Dt}(h:a.Ok):InR a.Rule∧Sa.Ok a.Sequent∧InR a.Main∧Tt.Ok a.Term∧Ft.Ok a.Cut∧(LOk Dt.Ok) a.Parts:=by cases h with | mk _ _ _ _ _ _ h0 h1 h2 h3 h4 h5 g5=>exact⟨h0,h1,h2,h3,h4,⟨h5,g5⟩⟩
theorem sDN_2(a:Dt):a.Ok→∀ n,2*av a≤n→∀ l:Int,0≤l→l≤1048576→sDN_ n a l=some (szR a.tot l):=by
 refine Dt.ind (M:=fun a=>a.Ok→∀ n,2*av a≤n→∀ l:Int,0≤l→l≤1048576→sDN_ n a l=some (szR a.tot l)) (fun x0 x1 x2 x3 x4 x5 ih hok n hn l h0 h1=>?_) a
 cases hok with
 | mk _ _ _ _ _ _ k0 k1 k2 k3 k4 k5 g5=>
 cases n with
 | zero=>simp only[Dt.mk.sizeOf_spec] at hn; omega
 | succ n=>
  rw[sDN_,Dt.tot_mk]
  show _=some (szR _ l)
  simp only[DRm_,DSm_,DMm_,DTm_,DCm_,Dt.Parts_mk]
  rw[sSe_ _ k1 _ h0 h1,ak]
  refine sSM_ h0 h1 (fun h0 h1=>?_)
  rw[sTe_ _ k3 _ h0 h1,ak]
  refine sSM_ h0 h1 (fun h0 h1=>?_)
  rw[sFe_ _ k4 _ h0 h1,ak]
  refine sSM_ h0 h1 (fun h0 h1=>?_)
  rw[(show sDS_ n x5 _=some (szR (ltot Dt.tot x5) _) from by
   cases n with
   | zero=>simp only[Dt.mk.sizeOf_spec] at hn; omega
   | succ n=>
    rw[sDS_]
    exact szL (fun x hx l h0 h1=>ih x hx (g5 x hx) n (by have:=List.sizeOf_lt_of_mem hx; simp only[Dt.mk.sizeOf_spec] at hn; omega) l h0 h1) k5 h0 h1),ak]
  exact sL_ h0
theorem sDe_(a:Dt)(h:a.Ok)(l:Int)(h0:0≤l)(h1:l≤1048576):sD_ a l=some (szR a.tot l):=le_ ⟨_,fun n hn=>sDN_2 a h n hn l h0 h1⟩
theorem tDN_2(a:Dt):a.tot≤1048576→∀ n,2*av a≤n→tDN_ n a=some a:=by
 refine Dt.ind (M:=fun a=>a.tot≤1048576→∀ n,2*av a≤n→tDN_ n a=some a) (fun x0 x1 x2 x3 x4 x5 ih h n hn=>?_) a
 rw[Dt.tot_mk] at h
 cases n with
 | zero=>simp only[Dt.mk.sizeOf_spec] at hn; omega
 | succ n=>
  rw[tDN_]
  simp only[DRm_,DSm_,DMm_,DTm_,DCm_,Dt.Parts_mk]
  rw[tSe_ _ (by omega),ak]
  rw[tTe_ _ (by omega),ak]
  rw[tFe_ _ (by omega),ak]
  rw[(show tDS_ n x5=some x5 from by
   cases n with
   | zero=>simp only[Dt.mk.sizeOf_spec] at hn; omega
   | succ n=>
    rw[tDS_]
    have:=toL (f:=tDN_ n) (g:=fun x=>x) (z:=(Dt.mk (0:Int) (Sa.mk ([]) ([])) (0:Int) (Tt.mk (⟨#[]⟩:ByteArray) ([])) (Ft.mk (0:Int) (Tt.mk (⟨#[]⟩:ByteArray) ([])) (⟨#[]⟩:ByteArray) ([])) ([]))) (xs:=x5) (fun x hx=>ih x hx (by have:=tm_ Dt.tot hx; omega) n (by have:=List.sizeOf_lt_of_mem hx; simp only[Dt.mk.sizeOf_spec] at hn; omega)) (by have:=ll_ Dt.tot x5; omega)
    simpa only[List.map_id'] using this),ak]
theorem tDe_(a:Dt)(h:a.tot≤1048576):tD_ a=some a:=le_ ⟨_,fun n hn=>tDN_2 a h n hn⟩
theorem eDN_2(a:Dt):∀ n,2*av a≤n→eDN_ n a a=some true:=by
 refine Dt.ind (M:=fun a=>∀ n,2*av a≤n→eDN_ n a a=some true) (fun x0 x1 x2 x3 x4 x5 ih n hn=>?_) a
 cases n with
 | zero=>simp only[Dt.mk.sizeOf_spec] at hn; omega
 | succ n=>
  have hl:eDS_ n x5 x5=some true:=by
   cases n with
   | zero=>simp only[Dt.mk.sizeOf_spec] at hn; omega
   | succ n=>
    rw[eDS_]
    exact eqL (fun x hx=>ih x hx n (by have:=List.sizeOf_lt_of_mem hx; simp only[Dt.mk.sizeOf_spec] at hn; omega))
  rw[eDN_]
  simp only[DRm_,DSm_,DMm_,DTm_,DCm_,Dt.Parts_mk,hl,decide_true,cond_true,ak,beq_self_eq_true,eSr_,eTr_,eFr_]
theorem eDr_(a:Dt):eD_ a a=some true:=le_ ⟨_,fun n hn=>eDN_2 a n hn⟩
def Bt.tot(a:Bt):Nat:=ByteArray.size a.Var+(Tt.tot a.Term)
def Bt.Ok(a:Bt):Prop:=(fun s:ByteArray=>Big s.size) a.Var∧Tt.Ok a.Term
def Sb.tot(a:Sb):Nat:=(ltot Bt.tot) a.Bindings
def Sb.Ok(a:Sb):Prop:=(LOk Bt.Ok) a.Bindings
end Go.Proofs.YtafdgbndcflghaaGreat
