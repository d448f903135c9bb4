/- Lemmas of the proof; each says what it shows. -/
import Derived.Test.YtikhljkojadogaaGreatGm
import Derived.Test.YtikhljkojadogaaGreatAvZ
set_option linter.unusedSimpArgs false
set_option linter.unusedVariables false
set_option linter.defProp false
set_option maxRecDepth 4000
namespace Go.Proofs.YtikhljkojadogaaGreat
open Go.Av
open Option renaming bind_some→aj
open SizeOf renaming sizeOf→aC
mutual
def Tt.tot:Tt→Nat
 | .mk x0 x1=>ByteArray.size x0+(Tt_1 x1)
def Tt_1:List Tt→Nat
 | []=>0
 | a::l=>1+a.tot+Tt_1 l
end
theorem Tte_1(l:List Tt):Tt_1 l=ltot Tt.tot l:=by
 induction l with
 | nil=>rfl
 | cons a l ih=>simp only[Tt_1,ih,ltot,List.length_cons,List.map_cons,List.sum_cons]; omega
theorem Ttm_(x0:_)(x1:_):(Tt.mk x0 x1).tot=ByteArray.size x0+((ltot Tt.tot) x1):=by rw[Tt.tot,Tte_1]
inductive Tt.Ok:Tt→Prop
 | mk (x0:_) (x1:_) (h0:(fun s:ByteArray=>Big s.size) x0) (h1:Big x1.length) (g1:∀ a∈x1,Tt.Ok a):Tt.Ok (.mk x0 x1)
theorem Tt.tot_u(a:Tt):a.tot=ByteArray.size a.Name+((ltot Tt.tot) a.Args):=by cases a; exact Ttm_ _ _ 
theorem Tt.Ok.u{a:Tt}(h:a.Ok):(fun s:ByteArray=>Big s.size) a.Name∧(LOk Tt.Ok) a.Args:=by cases h with | mk _ _ h0 h1 g1=>exact⟨h0,⟨h1,g1⟩⟩
theorem sTN_1(a:Tt):a.Ok→∀ n,2*aC a≤n→∀ l:Int,0≤l→l≤1048576→sTN_ n a l=some (szR a.tot l):=by
 refine Ti_1 (M:=fun a=>a.Ok→∀ n,2*aC a≤n→∀ l:Int,0≤l→l≤1048576→sTN_ n a l=some (szR a.tot l)) (fun x0 x1 ih hok n hn l h0 h1=>?_) a
 cases hok with
 | mk _ _ k0 k1 g1=>
 cases n with
 | zero=>simp only[Tt.mk.sizeOf_spec] at hn; omega
 | succ n=>
  rw[sTN_,Ttm_]
  show _=some (szR _ l)
  simp only[TNm_,TAm_]
  refine sSS_1 h0 h1 k0 (fun h0 h1=>?_)
  rw[(show sTS_ n x1 _=some (szR (ltot Tt.tot x1) _) from by
   cases n with
   | zero=>simp only[Tt.mk.sizeOf_spec] at hn; omega
   | succ n=>
    rw[sTS_]
    exact szL (fun x hx l h0 h1=>ih x hx (g1 x hx) n (by have:=List.sizeOf_lt_of_mem hx; simp only[Tt.mk.sizeOf_spec] at hn; omega) l h0 h1) k1 h0 h1),aj]
  exact sL_ h0
theorem sTS_2(a:List Tt)(h:LOk Tt.Ok a)(l:Int)(h0:0≤l)(h1:l≤1048576):sTS_4 a l=some (szR (ltot Tt.tot a) l):=by
 refine le_ ⟨2*aC a+1,fun n hn=>?_⟩
 cases n with
 | zero=>omega
 | succ n=>
  show sTS_ (n+1) a l=_
  rw[sTS_]
  exact szL (fun x hx l h0 h1=>sTN_1 x (h.2 x hx) n (by have:=List.sizeOf_lt_of_mem hx; omega) l h0 h1) h.1 h0 h1
theorem tTN_1(a:Tt):a.tot≤1048576→∀ n,2*aC a≤n→tTN_ n a=some a:=by
 refine Ti_1 (M:=fun a=>a.tot≤1048576→∀ n,2*aC a≤n→tTN_ n a=some a) (fun x0 x1 ih h n hn=>?_) a
 rw[Ttm_] at h
 cases n with
 | zero=>simp only[Tt.mk.sizeOf_spec] at hn; omega
 | succ n=>
  rw[tTN_]
  simp only[TNm_,TAm_]
  rw[(show tTS_ n x1=some x1 from by
   cases n with
   | zero=>simp only[Tt.mk.sizeOf_spec] at hn; omega
   | succ n=>
    rw[tTS_]
    have:=toL (f:=tTN_ n) (g:=fun x=>x) (z:=(Tt.mk (⟨#[]⟩:ByteArray) ([]))) (xs:=x1) (fun x hx=>ih x hx (by have:=tot_mem Tt.tot hx; omega) n (by have:=List.sizeOf_lt_of_mem hx; simp only[Tt.mk.sizeOf_spec] at hn; omega)) (by have:=ll_ Tt.tot x1; omega)
    simpa only[List.map_id'] using this),aj]
theorem tTS_3(a:List Tt)(h:ltot Tt.tot a≤1048576):tTS_2 a=some a:=by
 refine le_ ⟨2*aC a+1,fun n hn=>?_⟩
 cases n with
 | zero=>omega
 | succ n=>
  show tTS_ (n+1) a=_
  rw[tTS_]
  have:=toL (f:=tTN_ n) (g:=fun x=>x) (z:=(Tt.mk (⟨#[]⟩:ByteArray) ([]))) (xs:=a) (fun x hx=>tTN_1 x (by have:=tot_mem Tt.tot hx; omega) n (by have:=List.sizeOf_lt_of_mem hx; omega)) (by have:=ll_ Tt.tot a; omega)
  simpa only[List.map_id'] using this
theorem eTN_1(a:Tt):∀ n,2*aC a≤n→eTN_ n a a=some true:=by
 refine Ti_1 (M:=fun a=>∀ n,2*aC a≤n→eTN_ n a a=some true) (fun x0 x1 ih n hn=>?_) a
 cases n with
 | zero=>simp only[Tt.mk.sizeOf_spec] at hn; omega
 | succ n=>
  have hl:eTS_ n x1 x1=some true:=by
   cases n with
   | zero=>simp only[Tt.mk.sizeOf_spec] at hn; omega
   | succ n=>
    rw[eTS_]
    exact eqL (fun x hx=>ih x hx n (by have:=List.sizeOf_lt_of_mem hx; simp only[Tt.mk.sizeOf_spec] at hn; omega))
  rw[eTN_]
  simp only[TNm_,TAm_,hl,decide_true,cond_true,aj,beq_self_eq_true]
theorem eTS_1(a:List Tt):eTS_4 a a=some true:=by
 refine le_ ⟨2*aC a+1,fun n hn=>?_⟩
 cases n with
 | zero=>omega
 | succ n=>
  show eTS_ (n+1) a a=_
  rw[eTS_]
  exact eqL (fun x hx=>eTN_1 x n (by have:=List.sizeOf_lt_of_mem hx; omega))
def Dt.tot(a:Dt):Nat:=(ltot Tt.tot) a.Patterns+((ltot Tt.tot) a.Instances)
def Dt.Ok(a:Dt):Prop:=(LOk Tt.Ok) a.Patterns∧(LOk Tt.Ok) a.Instances
theorem sDe_(a:Dt)(h:a.Ok)(l:Int)(h0:0≤l)(h1:l≤1048576):sD_ a l=some (szR a.tot l):=by
 unfold sD_
 show _=some (szR _ l)
 unfold Dt.tot
 rw[sTS_2 _ h.1 _ h0 h1,aj]
 refine sSM_ h0 h1 (fun h0 h1=>?_)
 rw[sTS_2 _ h.2 _ h0 h1,aj]
 exact sL_ h0
theorem tDe_(a:Dt)(h:a.tot≤1048576):tD_ a=some a:=by
 unfold tD_
 unfold Dt.tot at h
 rw[tTS_3 _ (by omega),aj]
 rw[tTS_3 _ (by omega),aj]
theorem eDr_(a:Dt):eD_ a a=some true:=by
 unfold eD_
 simp only[decide_true,cond_true,aj,beq_self_eq_true,eTS_1,eTS_1]
def Bt.tot(a:Bt):Nat:=ByteArray.size a.Var+(Tt.tot a.Term)
def Bt.Ok(a:Bt):Prop:=(fun s:ByteArray=>Big s.size) a.Var∧Tt.Ok a.Term
def Sa.tot(a:Sa):Nat:=(ltot Bt.tot) a.Bindings
def Sa.Ok(a:Sa):Prop:=(LOk Bt.Ok) a.Bindings
end Go.Proofs.YtikhljkojadogaaGreat
