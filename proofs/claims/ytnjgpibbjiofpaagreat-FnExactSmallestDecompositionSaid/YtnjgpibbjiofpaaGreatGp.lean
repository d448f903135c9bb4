/- Lemmas of the proof; each says what it shows. -/
import Derived.Test.YtnjgpibbjiofpaaGreatGm
import Derived.Test.YtnjgpibbjiofpaaGreatAvFz
set_option linter.unusedSimpArgs false
set_option linter.unusedVariables false
set_option linter.defProp false
set_option maxRecDepth 4000
namespace Go.Proofs.YtnjgpibbjiofpaaGreat
open Go.Av
open Option renaming bind_some→ai
open SizeOf renaming sizeOf→aK
mutual
def Tt.tot:Tt→Nat
 | .mk x0 x1=>ByteArray.size x0+(Tt.tots x1)
def Tt.tots:List Tt→Nat
 | []=>0
 | a::l=>1+a.tot+Tt.tots l
end
theorem Tt.tots_eq(l:List Tt):Tt.tots l=ltot Tt.tot l:=by
 induction l with
 | nil=>rfl
 | cons a l ih=>simp only[Tt.tots,ih,ltot,List.length_cons,List.map_cons,List.sum_cons]; omega
theorem Tt.tot_mk(x0:_)(x1:_):(Tt.mk x0 x1).tot=ByteArray.size x0+((ltot Tt.tot) x1):=by rw[Tt.tot,Tt.tots_eq]
inductive Tt.Ok:Tt→Prop
 | mk (x0:_) (x1:_) (h0:(fun s:ByteArray=>Big s.size) x0) (h1:Big x1.length) (g1:∀ a∈x1,Tt.Ok a):Tt.Ok (.mk x0 x1)
theorem Tt.tot_u(a:Tt):a.tot=ByteArray.size a.Name+((ltot Tt.tot) a.Args):=by cases a; exact Tt.tot_mk _ _ 
theorem Tt.Ok.u{a:Tt}(h:a.Ok):(fun s:ByteArray=>Big s.size) a.Name∧(LOk Tt.Ok) a.Args:=by cases h with | mk _ _ h0 h1 g1=>exact⟨h0,⟨h1,g1⟩⟩
theorem szTermN_eq(a:Tt):a.Ok→∀ n,2*aK a≤n→∀ l:Int,0≤l→l≤1048576→szTermN n a l=some (szR a.tot l):=by
 refine Tt.ind (M:=fun a=>a.Ok→∀ n,2*aK a≤n→∀ l:Int,0≤l→l≤1048576→szTermN n a l=some (szR a.tot l)) (fun x0 x1 ih hok n hn l h0 h1=>?_) a
 cases hok with
 | mk _ _ k0 k1 g1=>
 cases n with
 | zero=>simp only[Tt.mk.sizeOf_spec] at hn; omega
 | succ n=>
  rw[szTermN,Tt.tot_mk]
  show _=some (szR _ l)
  simp only[Tt.Name_mk,Tt.Args_mk]
  refine szStrStepM h0 h1 k0 (fun h0 h1=>?_)
  rw[(show szTermSN n x1 _=some (szR (ltot Tt.tot x1) _) from by
   cases n with
   | zero=>simp only[Tt.mk.sizeOf_spec] at hn; omega
   | succ n=>
    rw[szTermSN]
    exact szL (fun x hx l h0 h1=>ih x hx (g1 x hx) n (by have:=List.sizeOf_lt_of_mem hx; simp only[Tt.mk.sizeOf_spec] at hn; omega) l h0 h1) k1 h0 h1),ai]
  exact szLast h0
theorem szTermS_eq(a:List Tt)(h:LOk Tt.Ok a)(l:Int)(h0:0≤l)(h1:l≤1048576):szTermS a l=some (szR (ltot Tt.tot a) l):=by
 refine lim_eq ⟨2*aK a+1,fun n hn=>?_⟩
 cases n with
 | zero=>omega
 | succ n=>
  show szTermSN (n+1) a l=_
  rw[szTermSN]
  exact szL (fun x hx l h0 h1=>szTermN_eq x (h.2 x hx) n (by have:=List.sizeOf_lt_of_mem hx; omega) l h0 h1) h.1 h0 h1
theorem toTermN_eq(a:Tt):a.tot≤1048576→∀ n,2*aK a≤n→toTermN n a=some a:=by
 refine Tt.ind (M:=fun a=>a.tot≤1048576→∀ n,2*aK a≤n→toTermN n a=some a) (fun x0 x1 ih h n hn=>?_) a
 rw[Tt.tot_mk] at h
 cases n with
 | zero=>simp only[Tt.mk.sizeOf_spec] at hn; omega
 | succ n=>
  rw[toTermN]
  simp only[Tt.Name_mk,Tt.Args_mk]
  rw[(show toTermSN n x1=some x1 from by
   cases n with
   | zero=>simp only[Tt.mk.sizeOf_spec] at hn; omega
   | succ n=>
    rw[toTermSN]
    have:=toL (f:=toTermN n) (g:=fun x=>x) (z:=(Tt.mk (⟨#[]⟩:ByteArray) ([]))) (xs:=x1) (fun x hx=>ih x hx (by have:=tot_mem Tt.tot hx; omega) n (by have:=List.sizeOf_lt_of_mem hx; simp only[Tt.mk.sizeOf_spec] at hn; omega)) (by have:=ltot_len Tt.tot x1; omega)
    simpa only[List.map_id'] using this),ai]
theorem toTermS_eq(a:List Tt)(h:ltot Tt.tot a≤1048576):toTermS a=some a:=by
 refine lim_eq ⟨2*aK a+1,fun n hn=>?_⟩
 cases n with
 | zero=>omega
 | succ n=>
  show toTermSN (n+1) a=_
  rw[toTermSN]
  have:=toL (f:=toTermN n) (g:=fun x=>x) (z:=(Tt.mk (⟨#[]⟩:ByteArray) ([]))) (xs:=a) (fun x hx=>toTermN_eq x (by have:=tot_mem Tt.tot hx; omega) n (by have:=List.sizeOf_lt_of_mem hx; omega)) (by have:=ltot_len Tt.tot a; omega)
  simpa only[List.map_id'] using this
theorem eqTermN_refl(a:Tt):∀ n,2*aK a≤n→eqTermN n a a=some true:=by
 refine Tt.ind (M:=fun a=>∀ n,2*aK a≤n→eqTermN n a a=some true) (fun x0 x1 ih n hn=>?_) a
 cases n with
 | zero=>simp only[Tt.mk.sizeOf_spec] at hn; omega
 | succ n=>
  have hl:eqTermSN n x1 x1=some true:=by
   cases n with
   | zero=>simp only[Tt.mk.sizeOf_spec] at hn; omega
   | succ n=>
    rw[eqTermSN]
    exact eqL (fun x hx=>ih x hx n (by have:=List.sizeOf_lt_of_mem hx; simp only[Tt.mk.sizeOf_spec] at hn; omega))
  rw[eqTermN]
  simp only[Tt.Name_mk,Tt.Args_mk,hl,decide_true,cond_true,ai,beq_self_eq_true]
theorem eqTermS_refl(a:List Tt):eqTermS a a=some true:=by
 refine lim_eq ⟨2*aK a+1,fun n hn=>?_⟩
 cases n with
 | zero=>omega
 | succ n=>
  show eqTermSN (n+1) a a=_
  rw[eqTermSN]
  exact eqL (fun x hx=>eqTermN_refl x n (by have:=List.sizeOf_lt_of_mem hx; omega))
def Dt.tot(a:Dt):Nat:=(ltot Tt.tot) a.Patterns+((ltot Tt.tot) a.Instances)
def Dt.Ok(a:Dt):Prop:=(LOk Tt.Ok) a.Patterns∧(LOk Tt.Ok) a.Instances
theorem eqDecomposition_refl(a:Dt):eqDecomposition a a=some true:=by
 unfold eqDecomposition
 simp only[decide_true,cond_true,ai,beq_self_eq_true,eqTermS_refl,eqTermS_refl]
def gt.tot(a:gt):Nat:=Tt.tot a.pattern+((ltot Tt.tot) a.instances)
def gt.Ok(a:gt):Prop:=InR a.bits∧Tt.Ok a.pattern∧(LOk Tt.Ok) a.instances
def Bt.tot(a:Bt):Nat:=ByteArray.size a.Var+(Tt.tot a.Term)
def Bt.Ok(a:Bt):Prop:=(fun s:ByteArray=>Big s.size) a.Var∧Tt.Ok a.Term
def Sa.tot(a:Sa):Nat:=(ltot Bt.tot) a.Bindings
def Sa.Ok(a:Sa):Prop:=(LOk Bt.Ok) a.Bindings
def lc.tot(a:lc):Nat:=(ltot (fun _=>0)) a.code
def lc.Ok(a:lc):Prop:=(LOk (fun x:Int=>0≤x∧x≤255)) a.code∧InR a.at_f∧(fun _:Int=>True) a.seed
def ld.tot(a:ld):Nat:=Tt.tot a.pattern
def ld.Ok(a:ld):Prop:=Tt.Ok a.pattern∧InR a.covers
def lf.tot(a:lf):Nat:=(ltot Tt.tot) a.instances+((ltot ld.tot) a.candidates)
def lf.Ok(a:lf):Prop:=(LOk Tt.Ok) a.instances∧(LOk ld.Ok) a.candidates
def ct.tot(a:ct):Nat:=Tt.tot a.pattern
def ct.Ok(a:ct):Prop:=Tt.Ok a.pattern∧InR a.covers
end Go.Proofs.YtnjgpibbjiofpaaGreat
