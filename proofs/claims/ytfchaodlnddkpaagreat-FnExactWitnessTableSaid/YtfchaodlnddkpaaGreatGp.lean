/- Lemmas of the proof; each says what it shows. -/
import Derived.Test.YtfchaodlnddkpaaGreatGm
import Derived.Test.YtfchaodlnddkpaaGreatAvZ
set_option linter.unusedSimpArgs false
set_option linter.unusedVariables false
set_option linter.defProp false
set_option maxRecDepth 4000
namespace Go.Proofs.YtfchaodlnddkpaaGreat
open Go.Av
open Option renaming bind_some→ap
open SizeOf renaming sizeOf→au
theorem eqIntS_refl(a:List Int):eqIntS a a=some true:=by
 unfold eqIntS
 exact eqLplain
mutual
def Tt.tot:Tt→Nat
 | .mk x0 x1=>ByteArray.size x0+(Tt.tots x1)
def Tt.tots:List Tt→Nat
 | []=>0
 | a::l=>1+a.tot+Tt.tots l
end
theorem Tt.tots_eq(l:List Tt):Tt.tots l=ltot Tt.tot l:=by
 induction l with
 | nil=>rfl
 | cons a l ih=>simp only[Tt.tots,ih,ltot,List.length_cons,List.map_cons,List.sum_cons]; omega
theorem Tt.tot_mk(x0:_)(x1:_):(Tt.mk x0 x1).tot=ByteArray.size x0+((ltot Tt.tot) x1):=by rw[Tt.tot,Tt.tots_eq]
inductive Tt.Ok:Tt→Prop
 | mk (x0:_) (x1:_) (h0:(fun s:ByteArray=>Big s.size) x0) (h1:Big x1.length) (g1:∀ a∈x1,Tt.Ok a):Tt.Ok (.mk x0 x1)
theorem Tt.tot_u(a:Tt):a.tot=ByteArray.size a.Name+((ltot Tt.tot) a.Args):=by cases a; exact Tt.tot_mk _ _ 
theorem Tt.Ok.u{a:Tt}(h:a.Ok):(fun s:ByteArray=>Big s.size) a.Name∧(LOk Tt.Ok) a.Args:=by cases h with | mk _ _ h0 h1 g1=>exact⟨h0,⟨h1,g1⟩⟩
theorem szTermN_eq(a:Tt):a.Ok→∀ n,2*au a≤n→∀ l:Int,0≤l→l≤1048576→szTermN n a l=some (szR a.tot l):=by
 refine Tt.ind (M:=fun a=>a.Ok→∀ n,2*au a≤n→∀ l:Int,0≤l→l≤1048576→szTermN n a l=some (szR a.tot l)) (fun x0 x1 ih hok n hn l h0 h1=>?_) a
 cases hok with
 | mk _ _ k0 k1 g1=>
 cases n with
 | zero=>simp only[Tt.mk.sizeOf_spec] at hn; omega
 | succ n=>
  rw[szTermN,Tt.tot_mk]
  show _=some (szR _ l)
  simp only[Tt.Name_mk,Tt.Args_mk]
  refine szStrStepM h0 h1 k0 (fun h0 h1=>?_)
  rw[(show szTermSN n x1 _=some (szR (ltot Tt.tot x1) _) from by
   cases n with
   | zero=>simp only[Tt.mk.sizeOf_spec] at hn; omega
   | succ n=>
    rw[szTermSN]
    exact szL (fun x hx l h0 h1=>ih x hx (g1 x hx) n (by have:=List.sizeOf_lt_of_mem hx; simp only[Tt.mk.sizeOf_spec] at hn; omega) l h0 h1) k1 h0 h1),ap]
  exact szLast h0
theorem szTerm_eq(a:Tt)(h:a.Ok)(l:Int)(h0:0≤l)(h1:l≤1048576):szTerm a l=some (szR a.tot l):=lim_eq ⟨_,fun n hn=>szTermN_eq a h n hn l h0 h1⟩
theorem szTermS_eq(a:List Tt)(h:LOk Tt.Ok a)(l:Int)(h0:0≤l)(h1:l≤1048576):szTermS a l=some (szR (ltot Tt.tot a) l):=by
 refine lim_eq ⟨2*au a+1,fun n hn=>?_⟩
 cases n with
 | zero=>omega
 | succ n=>
  show szTermSN (n+1) a l=_
  rw[szTermSN]
  exact szL (fun x hx l h0 h1=>szTermN_eq x (h.2 x hx) n (by have:=List.sizeOf_lt_of_mem hx; omega) l h0 h1) h.1 h0 h1
theorem toTermN_eq(a:Tt):a.tot≤1048576→∀ n,2*au a≤n→toTermN n a=some a:=by
 refine Tt.ind (M:=fun a=>a.tot≤1048576→∀ n,2*au a≤n→toTermN n a=some a) (fun x0 x1 ih h n hn=>?_) a
 rw[Tt.tot_mk] at h
 cases n with
 | zero=>simp only[Tt.mk.sizeOf_spec] at hn; omega
 | succ n=>
  rw[toTermN]
  simp only[Tt.Name_mk,Tt.Args_mk]
  rw[(show toTermSN n x1=some x1 from by
   cases n with
   | zero=>simp only[Tt.mk.sizeOf_spec] at hn; omega
   | succ n=>
    rw[toTermSN]
    have:=toL (f:=toTermN n) (g:=fun x=>x) (z:=(Tt.mk (⟨#[]⟩:ByteArray) ([]))) (xs:=x1) (fun x hx=>ih x hx (by have:=tot_mem Tt.tot hx; omega) n (by have:=List.sizeOf_lt_of_mem hx; simp only[Tt.mk.sizeOf_spec] at hn; omega)) (by have:=ltot_len Tt.tot x1; omega)
    simpa only[List.map_id'] using this),ap]
theorem toTerm_eq(a:Tt)(h:a.tot≤1048576):toTerm a=some a:=lim_eq ⟨_,fun n hn=>toTermN_eq a h n hn⟩
theorem toTermS_eq(a:List Tt)(h:ltot Tt.tot a≤1048576):toTermS a=some a:=by
 refine lim_eq ⟨2*au a+1,fun n hn=>?_⟩
 cases n with
 | zero=>omega
 | succ n=>
  show toTermSN (n+1) a=_
  rw[toTermSN]
  have:=toL (f:=toTermN n) (g:=fun x=>x) (z:=(Tt.mk (⟨#[]⟩:ByteArray) ([]))) (xs:=a) (fun x hx=>toTermN_eq x (by have:=tot_mem Tt.tot hx; omega) n (by have:=List.sizeOf_lt_of_mem hx; omega)) (by have:=ltot_len Tt.tot a; omega)
  simpa only[List.map_id'] using this
theorem eqTermN_refl(a:Tt):∀ n,2*au a≤n→eqTermN n a a=some true:=by
 refine Tt.ind (M:=fun a=>∀ n,2*au a≤n→eqTermN n a a=some true) (fun x0 x1 ih n hn=>?_) a
 cases n with
 | zero=>simp only[Tt.mk.sizeOf_spec] at hn; omega
 | succ n=>
  have hl:eqTermSN n x1 x1=some true:=by
   cases n with
   | zero=>simp only[Tt.mk.sizeOf_spec] at hn; omega
   | succ n=>
    rw[eqTermSN]
    exact eqL (fun x hx=>ih x hx n (by have:=List.sizeOf_lt_of_mem hx; simp only[Tt.mk.sizeOf_spec] at hn; omega))
  rw[eqTermN]
  simp only[Tt.Name_mk,Tt.Args_mk,hl,decide_true,cond_true,ap,beq_self_eq_true]
theorem eqTerm_refl(a:Tt):eqTerm a a=some true:=lim_eq ⟨_,fun n hn=>eqTermN_refl a n hn⟩
theorem eqTermS_refl(a:List Tt):eqTermS a a=some true:=by
 refine lim_eq ⟨2*au a+1,fun n hn=>?_⟩
 cases n with
 | zero=>omega
 | succ n=>
  show eqTermSN (n+1) a a=_
  rw[eqTermSN]
  exact eqL (fun x hx=>eqTermN_refl x n (by have:=List.sizeOf_lt_of_mem hx; omega))
theorem szTermSS_eq(a:List (List Tt))(h:LOk (LOk Tt.Ok) a)(l:Int)(h0:0≤l)(h1:l≤1048576):szTermSS a l=some (szR (ltot (ltot Tt.tot) a) l):=by
 unfold szTermSS
 exact szL (fun x hx l h0 h1=>szTermS_eq x (h.2 x hx) l h0 h1) h.1 h0 h1
theorem toTermSS_eq(a:List (List Tt))(h:ltot (ltot Tt.tot) a≤1048576):toTermSS a=some a:=by
 unfold toTermSS
 have:=toL (f:=toTermS) (g:=fun x=>x) (z:=[]) (xs:=a) (fun x hx=>toTermS_eq x (by have:=tot_mem (ltot Tt.tot) hx; omega)) (by have:=ltot_len (ltot Tt.tot) a; omega)
 simpa only[List.map_id'] using this
theorem eqTermSS_refl(a:List (List Tt)):eqTermSS a a=some true:=by
 unfold eqTermSS
 exact eqL (fun x _=>eqTermS_refl x)
mutual
def Ft.tot:Ft→Nat
 | .mk x0 x1 x2 x3=>Tt.tot x1+(ByteArray.size x2+(Ft.tots x3))
def Ft.tots:List Ft→Nat
 | []=>0
 | a::l=>1+a.tot+Ft.tots l
end
theorem Ft.tots_eq(l:List Ft):Ft.tots l=ltot Ft.tot l:=by
 induction l with
 | nil=>rfl
 | cons a l ih=>simp only[Ft.tots,ih,ltot,List.length_cons,List.map_cons,List.sum_cons]; omega
theorem Ft.tot_mk(x0:_)(x1:_)(x2:_)(x3:_):(Ft.mk x0 x1 x2 x3).tot=Tt.tot x1+(ByteArray.size x2+((ltot Ft.tot) x3)):=by rw[Ft.tot,Ft.tots_eq]
inductive Ft.Ok:Ft→Prop
 | mk (x0:_) (x1:_) (x2:_) (x3:_) (h0:InR x0) (h1:Tt.Ok x1) (h2:(fun s:ByteArray=>Big s.size) x2) (h3:Big x3.length) (g3:∀ a∈x3,Ft.Ok a):Ft.Ok (.mk x0 x1 x2 x3)
theorem Ft.tot_u(a:Ft):a.tot=Tt.tot a.Atom+(ByteArray.size a.Var+((ltot Ft.tot) a.Parts)):=by cases a; exact Ft.tot_mk _ _ _ _ 
theorem Ft.Ok.u{a:Ft}(h:a.Ok):InR a.Op∧Tt.Ok a.Atom∧(fun s:ByteArray=>Big s.size) a.Var∧(LOk Ft.Ok) a.Parts:=by cases h with | mk _ _ _ _ h0 h1 h2 h3 g3=>exact⟨h0,h1,h2,⟨h3,g3⟩⟩
theorem szFormulaN_eq(a:Ft):a.Ok→∀ n,2*au a≤n→∀ l:Int,0≤l→l≤1048576→szFormulaN n a l=some (szR a.tot l):=by
 refine Ft.ind (M:=fun a=>a.Ok→∀ n,2*au a≤n→∀ l:Int,0≤l→l≤1048576→szFormulaN n a l=some (szR a.tot l)) (fun x0 x1 x2 x3 ih hok n hn l h0 h1=>?_) a
 cases hok with
 | mk _ _ _ _ k0 k1 k2 k3 g3=>
 cases n with
 | zero=>simp only[Ft.mk.sizeOf_spec] at hn; omega
 | succ n=>
  rw[szFormulaN,Ft.tot_mk]
  show _=some (szR _ l)
  simp only[Ft.Op_mk,Ft.Atom_mk,Ft.Var_mk,Ft.Parts_mk]
  rw[szTerm_eq _ k1 _ h0 h1,ap]
  refine szStepM h0 h1 (fun h0 h1=>?_)
  refine szStrStepM h0 h1 k2 (fun h0 h1=>?_)
  rw[(show szFormulaSN n x3 _=some (szR (ltot Ft.tot x3) _) from by
   cases n with
   | zero=>simp only[Ft.mk.sizeOf_spec] at hn; omega
   | succ n=>
    rw[szFormulaSN]
    exact szL (fun x hx l h0 h1=>ih x hx (g3 x hx) n (by have:=List.sizeOf_lt_of_mem hx; simp only[Ft.mk.sizeOf_spec] at hn; omega) l h0 h1) k3 h0 h1),ap]
  exact szLast h0
theorem szFormula_eq(a:Ft)(h:a.Ok)(l:Int)(h0:0≤l)(h1:l≤1048576):szFormula a l=some (szR a.tot l):=lim_eq ⟨_,fun n hn=>szFormulaN_eq a h n hn l h0 h1⟩
theorem toFormulaN_eq(a:Ft):a.tot≤1048576→∀ n,2*au a≤n→toFormulaN n a=some a:=by
 refine Ft.ind (M:=fun a=>a.tot≤1048576→∀ n,2*au a≤n→toFormulaN n a=some a) (fun x0 x1 x2 x3 ih h n hn=>?_) a
 rw[Ft.tot_mk] at h
 cases n with
 | zero=>simp only[Ft.mk.sizeOf_spec] at hn; omega
 | succ n=>
  rw[toFormulaN]
  simp only[Ft.Op_mk,Ft.Atom_mk,Ft.Var_mk,Ft.Parts_mk]
  rw[toTerm_eq _ (by omega),ap]
  rw[(show toFormulaSN n x3=some x3 from by
   cases n with
   | zero=>simp only[Ft.mk.sizeOf_spec] at hn; omega
   | succ n=>
    rw[toFormulaSN]
    have:=toL (f:=toFormulaN n) (g:=fun x=>x) (z:=(Ft.mk (0:Int) (Tt.mk (⟨#[]⟩:ByteArray) ([])) (⟨#[]⟩:ByteArray) ([]))) (xs:=x3) (fun x hx=>ih x hx (by have:=tot_mem Ft.tot hx; omega) n (by have:=List.sizeOf_lt_of_mem hx; simp only[Ft.mk.sizeOf_spec] at hn; omega)) (by have:=ltot_len Ft.tot x3; omega)
    simpa only[List.map_id'] using this),ap]
theorem toFormula_eq(a:Ft)(h:a.tot≤1048576):toFormula a=some a:=lim_eq ⟨_,fun n hn=>toFormulaN_eq a h n hn⟩
theorem eqFormulaN_refl(a:Ft):∀ n,2*au a≤n→eqFormulaN n a a=some true:=by
 refine Ft.ind (M:=fun a=>∀ n,2*au a≤n→eqFormulaN n a a=some true) (fun x0 x1 x2 x3 ih n hn=>?_) a
 cases n with
 | zero=>simp only[Ft.mk.sizeOf_spec] at hn; omega
 | succ n=>
  have hl:eqFormulaSN n x3 x3=some true:=by
   cases n with
   | zero=>simp only[Ft.mk.sizeOf_spec] at hn; omega
   | succ n=>
    rw[eqFormulaSN]
    exact eqL (fun x hx=>ih x hx n (by have:=List.sizeOf_lt_of_mem hx; simp only[Ft.mk.sizeOf_spec] at hn; omega))
  rw[eqFormulaN]
  simp only[Ft.Op_mk,Ft.Atom_mk,Ft.Var_mk,Ft.Parts_mk,hl,decide_true,cond_true,ap,beq_self_eq_true,eqTerm_refl]
theorem eqFormula_refl(a:Ft):eqFormula a a=some true:=lim_eq ⟨_,fun n hn=>eqFormulaN_refl a n hn⟩
def Bt.tot(a:Bt):Nat:=ByteArray.size a.Var+(Tt.tot a.Term)
def Bt.Ok(a:Bt):Prop:=(fun s:ByteArray=>Big s.size) a.Var∧Tt.Ok a.Term
def Sa.tot(a:Sa):Nat:=(ltot Bt.tot) a.Bindings
def Sa.Ok(a:Sa):Prop:=(LOk Bt.Ok) a.Bindings
end Go.Proofs.YtfchaodlnddkpaaGreat
