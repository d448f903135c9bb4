/- Lemmas of the proof; each says what it shows. -/
import Derived.Test.YtckabmmondelpaaGreatGm
import Derived.Test.YtckabmmondelpaaGreatAvZ
set_option linter.unusedSimpArgs false
set_option linter.unusedVariables false
set_option linter.defProp false
set_option maxRecDepth 4000
namespace Go.Proofs.YtckabmmondelpaaGreat
open Go.Av
mutual
def Tt.tot:Tt→Nat
 | .mk x0 x1=>ByteArray.size x0+(Tt.tots x1)
def Tt.tots:List Tt→Nat
 | []=>0
 | a::l=>1+a.tot+Tt.tots l
end
theorem Tt.tots_eq(l:List Tt):Tt.tots l=ltot Tt.tot l:=by
 induction l with
 | nil=>rfl
 | cons a l ih=>simp only[Tt.tots,ih,ltot,List.length_cons,List.map_cons,List.sum_cons]; omega
theorem Tt.tot_mk(x0:_)(x1:_):(Tt.mk x0 x1).tot=ByteArray.size x0+((ltot Tt.tot) x1):=by rw[Tt.tot,Tt.tots_eq]
inductive Tt.Ok:Tt→Prop
 | mk (x0:_) (x1:_) (h0:(fun s:ByteArray=>Big s.size) x0) (h1:Big x1.length) (g1:∀ a∈x1,Tt.Ok a):Tt.Ok (.mk x0 x1)
theorem Tt.tot_u(a:Tt):a.tot=ByteArray.size a.Name+((ltot Tt.tot) a.Args):=by cases a; exact Tt.tot_mk _ _ 
theorem Tt.Ok.u{a:Tt}(h:a.Ok):(fun s:ByteArray=>Big s.size) a.Name∧(LOk Tt.Ok) a.Args:=by cases h with | mk _ _ h0 h1 g1=>exact⟨h0,⟨h1,g1⟩⟩
mutual
def Ft.tot:Ft→Nat
 | .mk x0 x1 x2 x3=>Tt.tot x1+(ByteArray.size x2+(Ft.tots x3))
def Ft.tots:List Ft→Nat
 | []=>0
 | a::l=>1+a.tot+Ft.tots l
end
theorem Ft.tots_eq(l:List Ft):Ft.tots l=ltot Ft.tot l:=by
 induction l with
 | nil=>rfl
 | cons a l ih=>simp only[Ft.tots,ih,ltot,List.length_cons,List.map_cons,List.sum_cons]; omega
theorem Ft.tot_mk(x0:_)(x1:_)(x2:_)(x3:_):(Ft.mk x0 x1 x2 x3).tot=Tt.tot x1+(ByteArray.size x2+((ltot Ft.tot) x3)):=by rw[Ft.tot,Ft.tots_eq]
inductive Ft.Ok:Ft→Prop
 | mk (x0:_) (x1:_) (x2:_) (x3:_) (h0:InR x0) (h1:Tt.Ok x1) (h2:(fun s:ByteArray=>Big s.size) x2) (h3:Big x3.length) (g3:∀ a∈x3,Ft.Ok a):Ft.Ok (.mk x0 x1 x2 x3)
theorem Ft.tot_u(a:Ft):a.tot=Tt.tot a.Atom+(ByteArray.size a.Var+((ltot Ft.tot) a.Parts)):=by cases a; exact Ft.tot_mk _ _ _ _ 
theorem Ft.Ok.u{a:Ft}(h:a.Ok):InR a.Op∧Tt.Ok a.Atom∧(fun s:ByteArray=>Big s.size) a.Var∧(LOk Ft.Ok) a.Parts:=by cases h with | mk _ _ _ _ h0 h1 h2 h3 g3=>exact⟨h0,h1,h2,⟨h3,g3⟩⟩
def Dt.tot(a:Dt):Nat:=(ltot Tt.tot) a.Patterns+((ltot Tt.tot) a.Instances)
def Dt.Ok(a:Dt):Prop:=(LOk Tt.Ok) a.Patterns∧(LOk Tt.Ok) a.Instances
def la.tot(a:la):Nat:=(ltot (fun _=>0)) a.code
def la.Ok(a:la):Prop:=(LOk (fun x:Int=>0≤x∧x≤255)) a.code∧InR a.at_f∧(fun _:Int=>True) a.seed
def Sa.tot(a:Sa):Nat:=(ltot Ft.tot) a.Left+((ltot Ft.tot) a.Right)
def Sa.Ok(a:Sa):Prop:=(LOk Ft.Ok) a.Left∧(LOk Ft.Ok) a.Right
def vt.tot(a:vt):Nat:=(ltot ByteArray.size) a.names+((ltot (fun _=>0)) a.values)
def vt.Ok(a:vt):Prop:=(LOk (fun s:ByteArray=>Big s.size)) a.names∧(LOk InR) a.values
def Bt.tot(a:Bt):Nat:=ByteArray.size a.Var+(Tt.tot a.Term)
def Bt.Ok(a:Bt):Prop:=(fun s:ByteArray=>Big s.size) a.Var∧Tt.Ok a.Term
def Sb.tot(a:Sb):Nat:=(ltot Bt.tot) a.Bindings
def Sb.Ok(a:Sb):Prop:=(LOk Bt.Ok) a.Bindings
end Go.Proofs.YtckabmmondelpaaGreat
