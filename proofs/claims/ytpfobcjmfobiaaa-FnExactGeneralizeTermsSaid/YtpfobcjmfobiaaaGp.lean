/- Lemmas of the proof; each says what it shows. -/
import Derived.Test.YtpfobcjmfobiaaaGm
import Derived.Test.YtpfobcjmfobiaaaAvZ
set_option linter.unusedSimpArgs false
set_option linter.unusedVariables false
set_option linter.defProp false
set_option maxRecDepth 4000
namespace Go.Proofs.Ytpfobcjmfobiaaa
open Go.Av
open Option renaming bind_some→ak
open SizeOf renaming sizeOf→aA
mutual
def Tt.tot:Tt→Nat
 | .mk x0 x1=>ByteArray.size x0+(Tt_ x1)
def Tt_:List Tt→Nat
 | []=>0
 | a::l=>1+a.tot+Tt_ l
end
theorem Tte_(l:List Tt):Tt_ l=ltot Tt.tot l:=by
 induction l with
 | nil=>rfl
 | cons a l ih=>simp only[Tt_,ih,ltot,List.length_cons,List.map_cons,List.sum_cons]; omega
theorem Ttm_(x0:_)(x1:_):(Tt.mk x0 x1).tot=ByteArray.size x0+((ltot Tt.tot) x1):=by rw[Tt.tot,Tte_]
inductive Tt.Ok:Tt→Prop
 | mk (x0:_) (x1:_) (h0:(fun s:ByteArray=>Big s.size) x0) (h1:Big x1.length) (g1:∀ a∈x1,Tt.Ok a):Tt.Ok (.mk x0 x1)
theorem Tt.tot_u(a:Tt):a.tot=ByteArray.size a.Name+((ltot Tt.tot) a.Args):=by cases a; exact Ttm_ _ _ 
theorem Tt.Ok.u{a:Tt}(h:a.Ok):(fun s:ByteArray=>Big s.size) a.Name∧(LOk Tt.Ok) a.Args:=by cases h with | mk _ _ h0 h1 g1=>exact⟨h0,⟨h1,g1⟩⟩
theorem sTN_1(a:Tt):a.Ok→∀ n,2*aA a≤n→∀ l:Int,0≤l→l≤1048576→sTN_ n a l=some (szR a.tot l):=by
 refine Ti_ (M:=fun a=>a.Ok→∀ n,2*aA a≤n→∀ l:Int,0≤l→l≤1048576→sTN_ n a l=some (szR a.tot l)) (fun x0 x1 ih hok n hn l h0 h1=>?_) a
 cases hok with
 | mk _ _ k0 k1 g1=>
 cases n with
 | zero=>simp only[Tt.mk.sizeOf_spec] at hn; omega
 | succ n=>
  rw[sTN_,Ttm_]
  show _=some (szR _ l)
  simp only[TNm_,TAm_]
  refine sSS_1 h0 h1 k0 (fun h0 h1=>?_)
  rw[(show sTS_ n x1 _=some (szR (ltot Tt.tot x1) _) from by
   cases n with
   | zero=>simp only[Tt.mk.sizeOf_spec] at hn; omega
   | succ n=>
    rw[sTS_]
    exact szL (fun x hx l h0 h1=>ih x hx (g1 x hx) n (by have:=List.sizeOf_lt_of_mem hx; simp only[Tt.mk.sizeOf_spec] at hn; omega) l h0 h1) k1 h0 h1),ak]
  exact sL_ h0
theorem sTS_4(a:List Tt)(h:LOk Tt.Ok a)(l:Int)(h0:0≤l)(h1:l≤1048576):sTS_2 a l=some (szR (ltot Tt.tot a) l):=by
 refine le_ ⟨2*aA a+1,fun n hn=>?_⟩
 cases n with
 | zero=>omega
 | succ n=>
  show sTS_ (n+1) a l=_
  rw[sTS_]
  exact szL (fun x hx l h0 h1=>sTN_1 x (h.2 x hx) n (by have:=List.sizeOf_lt_of_mem hx; omega) l h0 h1) h.1 h0 h1
theorem tTN_1(a:Tt):a.tot≤1048576→∀ n,2*aA a≤n→tTN_ n a=some a:=by
 refine Ti_ (M:=fun a=>a.tot≤1048576→∀ n,2*aA a≤n→tTN_ n a=some a) (fun x0 x1 ih h n hn=>?_) a
 rw[Ttm_] at h
 cases n with
 | zero=>simp only[Tt.mk.sizeOf_spec] at hn; omega
 | succ n=>
  rw[tTN_]
  simp only[TNm_,TAm_]
  rw[(show tTS_ n x1=some x1 from by
   cases n with
   | zero=>simp only[Tt.mk.sizeOf_spec] at hn; omega
   | succ n=>
    rw[tTS_]
    have:=toL (f:=tTN_ n) (g:=fun x=>x) (z:=(Tt.mk (⟨#[]⟩:ByteArray) ([]))) (xs:=x1) (fun x hx=>ih x hx (by have:=tot_mem Tt.tot hx; omega) n (by have:=List.sizeOf_lt_of_mem hx; simp only[Tt.mk.sizeOf_spec] at hn; omega)) (by have:=ll_ Tt.tot x1; omega)
    simpa only[List.map_id'] using this),ak]
theorem tTS_4(a:List Tt)(h:ltot Tt.tot a≤1048576):tTS_2 a=some a:=by
 refine le_ ⟨2*aA a+1,fun n hn=>?_⟩
 cases n with
 | zero=>omega
 | succ n=>
  show tTS_ (n+1) a=_
  rw[tTS_]
  have:=toL (f:=tTN_ n) (g:=fun x=>x) (z:=(Tt.mk (⟨#[]⟩:ByteArray) ([]))) (xs:=a) (fun x hx=>tTN_1 x (by have:=tot_mem Tt.tot hx; omega) n (by have:=List.sizeOf_lt_of_mem hx; omega)) (by have:=ll_ Tt.tot a; omega)
  simpa only[List.map_id'] using this
theorem eTN_1(a:Tt):∀ n,2*aA a≤n→eTN_ n a a=some true:=by
 refine Ti_ (M:=fun a=>∀ n,2*aA a≤n→eTN_ n a a=some true) (fun x0 x1 ih n hn=>?_) a
 cases n with
 | zero=>simp only[Tt.mk.sizeOf_spec] at hn; omega
 | succ n=>
  have hl:eTS_ n x1 x1=some true:=by
   cases n with
   | zero=>simp only[Tt.mk.sizeOf_spec] at hn; omega
   | succ n=>
    rw[eTS_]
    exact eqL (fun x hx=>ih x hx n (by have:=List.sizeOf_lt_of_mem hx; simp only[Tt.mk.sizeOf_spec] at hn; omega))
  rw[eTN_]
  simp only[TNm_,TAm_,hl,decide_true,cond_true,ak,beq_self_eq_true]
theorem eTr_(a:Tt):eT_ a a=some true:=le_ ⟨_,fun n hn=>eTN_1 a n hn⟩
theorem eTS_3(a:List Tt):eTS_2 a a=some true:=by
 refine le_ ⟨2*aA a+1,fun n hn=>?_⟩
 cases n with
 | zero=>omega
 | succ n=>
  show eTS_ (n+1) a a=_
  rw[eTS_]
  exact eqL (fun x hx=>eTN_1 x n (by have:=List.sizeOf_lt_of_mem hx; omega))
end Go.Proofs.Ytpfobcjmfobiaaa
