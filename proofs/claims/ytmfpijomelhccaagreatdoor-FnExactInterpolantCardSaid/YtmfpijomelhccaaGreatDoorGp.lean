/- Lemmas of the proof; each says what it shows. -/
import Derived.Test.YtmfpijomelhccaaGreatDoorGm
import Derived.Test.YtmfpijomelhccaaGreatDoorAvS
set_option linter.unusedSimpArgs false
set_option linter.unusedVariables false
set_option linter.defProp false
set_option maxRecDepth 4000
namespace Go.Proofs.YtmfpijomelhccaaGreatDoor
open Go.Av
open Option renaming bind_some→al
open SizeOf renaming sizeOf→aL
theorem szIntS_eq(a:List Int)(h:LOk InR a)(l:Int)(h0:0≤l)(h1:l≤1048576):szIntS a l=some (szR (ltot (fun _=>0) a) l):=by
 unfold szIntS
 exact szLflat h.1 h0 h1
theorem toIntS_eq(a:List Int)(h:ltot (fun _=>0) a≤1048576):toIntS a=some a:=by
 unfold toIntS
 exact toLplain (by have:=ltot_len (fun _=>0) a; omega)
theorem eqIntS_refl(a:List Int):eqIntS a a=some true:=by
 unfold eqIntS
 exact eqLplain
mutual
def Tt.tot:Tt→Nat
 | .mk x0 x1=>ByteArray.size x0+(Tt.tots x1)
def Tt.tots:List Tt→Nat
 | []=>0
 | a::l=>1+a.tot+Tt.tots l
end
theorem Tt.tots_eq(l:List Tt):Tt.tots l=ltot Tt.tot l:=by
 induction l with
 | nil=>rfl
 | cons a l ih=>simp only[Tt.tots,ih,ltot,List.length_cons,List.map_cons,List.sum_cons]; omega
theorem Tt.tot_mk(x0:_)(x1:_):(Tt.mk x0 x1).tot=ByteArray.size x0+((ltot Tt.tot) x1):=by rw[Tt.tot,Tt.tots_eq]
inductive Tt.Ok:Tt→Prop
 | mk (x0:_) (x1:_) (h0:(fun s:ByteArray=>Big s.size) x0) (h1:Big x1.length) (g1:∀ a∈x1,Tt.Ok a):Tt.Ok (.mk x0 x1)
theorem Tt.tot_u(a:Tt):a.tot=ByteArray.size a.Name+((ltot Tt.tot) a.Args):=by cases a; exact Tt.tot_mk _ _ 
theorem Tt.Ok.u{a:Tt}(h:a.Ok):(fun s:ByteArray=>Big s.size) a.Name∧(LOk Tt.Ok) a.Args:=by cases h with | mk _ _ h0 h1 g1=>exact⟨h0,⟨h1,g1⟩⟩
theorem eqTermN_refl(a:Tt):∀ n,2*aL a≤n→eqTermN n a a=some true:=by
 refine Tt.ind (M:=fun a=>∀ n,2*aL a≤n→eqTermN n a a=some true) (fun x0 x1 ih n hn=>?_) a
 cases n with
 | zero=>simp only[Tt.mk.sizeOf_spec] at hn; omega
 | succ n=>
  have hl:eqTermSN n x1 x1=some true:=by
   cases n with
   | zero=>simp only[Tt.mk.sizeOf_spec] at hn; omega
   | succ n=>
    rw[eqTermSN]
    exact eqL (fun x hx=>ih x hx n (by have:=List.sizeOf_lt_of_mem hx; simp only[Tt.mk.sizeOf_spec] at hn; omega))
  rw[eqTermN]
  simp only[Tt.Name_mk,Tt.Args_mk,hl,decide_true,cond_true,al,beq_self_eq_true]
theorem eqTerm_refl(a:Tt):eqTerm a a=some true:=lim_eq ⟨_,fun n hn=>eqTermN_refl a n hn⟩
theorem eqTermS_refl(a:List Tt):eqTermS a a=some true:=by
 refine lim_eq ⟨2*aL a+1,fun n hn=>?_⟩
 cases n with
 | zero=>omega
 | succ n=>
  show eqTermSN (n+1) a a=_
  rw[eqTermSN]
  exact eqL (fun x hx=>eqTermN_refl x n (by have:=List.sizeOf_lt_of_mem hx; omega))
mutual
def Ft.tot:Ft→Nat
 | .mk x0 x1 x2 x3=>Tt.tot x1+(ByteArray.size x2+(Ft.tots x3))
def Ft.tots:List Ft→Nat
 | []=>0
 | a::l=>1+a.tot+Ft.tots l
end
theorem Ft.tots_eq(l:List Ft):Ft.tots l=ltot Ft.tot l:=by
 induction l with
 | nil=>rfl
 | cons a l ih=>simp only[Ft.tots,ih,ltot,List.length_cons,List.map_cons,List.sum_cons]; omega
theorem Ft.tot_mk(x0:_)(x1:_)(x2:_)(x3:_):(Ft.mk x0 x1 x2 x3).tot=Tt.tot x1+(ByteArray.size x2+((ltot Ft.tot) x3)):=by rw[Ft.tot,Ft.tots_eq]
inductive Ft.Ok:Ft→Prop
 | mk (x0:_) (x1:_) (x2:_) (x3:_) (h0:InR x0) (h1:Tt.Ok x1) (h2:(fun s:ByteArray=>Big s.size) x2) (h3:Big x3.length) (g3:∀ a∈x3,Ft.Ok a):Ft.Ok (.mk x0 x1 x2 x3)
theorem Ft.tot_u(a:Ft):a.tot=Tt.tot a.Atom+(ByteArray.size a.Var+((ltot Ft.tot) a.Parts)):=by cases a; exact Ft.tot_mk _ _ _ _ 
theorem Ft.Ok.u{a:Ft}(h:a.Ok):InR a.Op∧Tt.Ok a.Atom∧(fun s:ByteArray=>Big s.size) a.Var∧(LOk Ft.Ok) a.Parts:=by cases h with | mk _ _ _ _ h0 h1 h2 h3 g3=>exact⟨h0,h1,h2,⟨h3,g3⟩⟩
theorem eqFormulaN_refl(a:Ft):∀ n,2*aL a≤n→eqFormulaN n a a=some true:=by
 refine Ft.ind (M:=fun a=>∀ n,2*aL a≤n→eqFormulaN n a a=some true) (fun x0 x1 x2 x3 ih n hn=>?_) a
 cases n with
 | zero=>simp only[Ft.mk.sizeOf_spec] at hn; omega
 | succ n=>
  have hl:eqFormulaSN n x3 x3=some true:=by
   cases n with
   | zero=>simp only[Ft.mk.sizeOf_spec] at hn; omega
   | succ n=>
    rw[eqFormulaSN]
    exact eqL (fun x hx=>ih x hx n (by have:=List.sizeOf_lt_of_mem hx; simp only[Ft.mk.sizeOf_spec] at hn; omega))
  rw[eqFormulaN]
  simp only[Ft.Op_mk,Ft.Atom_mk,Ft.Var_mk,Ft.Parts_mk,hl,decide_true,cond_true,al,beq_self_eq_true,eqTerm_refl]
theorem eqFormula_refl(a:Ft):eqFormula a a=some true:=lim_eq ⟨_,fun n hn=>eqFormulaN_refl a n hn⟩
theorem eqFormulaS_refl(a:List Ft):eqFormulaS a a=some true:=by
 refine lim_eq ⟨2*aL a+1,fun n hn=>?_⟩
 cases n with
 | zero=>omega
 | succ n=>
  show eqFormulaSN (n+1) a a=_
  rw[eqFormulaSN]
  exact eqL (fun x hx=>eqFormulaN_refl x n (by have:=List.sizeOf_lt_of_mem hx; omega))
theorem szIntSS_eq(a:List (List Int))(h:LOk (LOk InR) a)(l:Int)(h0:0≤l)(h1:l≤1048576):szIntSS a l=some (szR (ltot (ltot (fun _=>0)) a) l):=by
 unfold szIntSS
 exact szL (fun x hx l h0 h1=>szIntS_eq x (h.2 x hx) l h0 h1) h.1 h0 h1
theorem toIntSS_eq(a:List (List Int))(h:ltot (ltot (fun _=>0)) a≤1048576):toIntSS a=some a:=by
 unfold toIntSS
 have:=toL (f:=toIntS) (g:=fun x=>x) (z:=[]) (xs:=a) (fun x hx=>toIntS_eq x (by have:=tot_mem (ltot (fun _=>0)) hx; omega)) (by have:=ltot_len (ltot (fun _=>0)) a; omega)
 simpa only[List.map_id'] using this
theorem eqIntSS_refl(a:List (List Int)):eqIntSS a a=some true:=by
 unfold eqIntSS
 exact eqL (fun x _=>eqIntS_refl x)
def ia.tot(a:ia):Nat:=(ltot (ltot (fun _=>0))) a.set+((ltot (fun _=>0)) a.colors)
def ia.Ok(a:ia):Prop:=(LOk (LOk InR)) a.set∧InR a.split∧InR a.system∧(LOk InR) a.colors
def Pt.tot(a:Pt):Nat:=(ltot (fun _=>0)) a.Clause
def Pt.Ok(a:Pt):Prop:=InR a.Left∧InR a.Right∧InR a.Pivot∧(LOk InR) a.Clause
theorem szPropStep_eq(a:Pt)(h:a.Ok)(l:Int)(h0:0≤l)(h1:l≤1048576):szPropStep a l=some (szR a.tot l):=by
 unfold szPropStep
 show _=some (szR _ l)
 unfold Pt.tot
 rw[szIntS_eq _ h.2.2.2 _ h0 h1,al]
 exact szLast h0
theorem toPropStep_eq(a:Pt)(h:a.tot≤1048576):toPropStep a=some a:=by
 unfold toPropStep
 unfold Pt.tot at h
 rw[toIntS_eq _ (by omega),al]
theorem eqPropStep_refl(a:Pt):eqPropStep a a=some true:=by
 unfold eqPropStep
 simp only[decide_true,cond_true,al,beq_self_eq_true,eqIntS_refl]
theorem szPropStepS_eq(a:List Pt)(h:LOk Pt.Ok a)(l:Int)(h0:0≤l)(h1:l≤1048576):szPropStepS a l=some (szR (ltot Pt.tot a) l):=by
 unfold szPropStepS
 exact szL (fun x hx l h0 h1=>szPropStep_eq x (h.2 x hx) l h0 h1) h.1 h0 h1
theorem toPropStepS_eq(a:List Pt)(h:ltot Pt.tot a≤1048576):toPropStepS a=some a:=by
 unfold toPropStepS
 have:=toL (f:=toPropStep) (g:=fun x=>x) (z:=(Pt.mk (0:Int) (0:Int) (0:Int) ([]))) (xs:=a) (fun x hx=>toPropStep_eq x (by have:=tot_mem Pt.tot hx; omega)) (by have:=ltot_len Pt.tot a; omega)
 simpa only[List.map_id'] using this
theorem eqPropStepS_refl(a:List Pt):eqPropStepS a a=some true:=by
 unfold eqPropStepS
 exact eqL (fun x _=>eqPropStep_refl x)
def lc.tot(a:lc):Nat:=(ltot (ltot (fun _=>0))) a.set+((ltot Pt.tot) a.steps)
def lc.Ok(a:lc):Prop:=(LOk (LOk InR)) a.set∧(LOk Pt.Ok) a.steps
def ld.tot(a:ld):Nat:=(ltot (fun _=>0)) a.code
def ld.Ok(a:ld):Prop:=(LOk (fun x:Int=>0≤x∧x≤255)) a.code∧InR a.at_f∧(fun _:Int=>True) a.seed
end Go.Proofs.YtmfpijomelhccaaGreatDoor
