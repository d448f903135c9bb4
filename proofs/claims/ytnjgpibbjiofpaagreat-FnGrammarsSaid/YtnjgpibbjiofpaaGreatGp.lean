/- Lemmas of the proof; each says what it shows. -/
import Derived.Test.YtnjgpibbjiofpaaGreatGm
import Derived.Test.YtnjgpibbjiofpaaGreatAvZ
set_option linter.unusedSimpArgs false
set_option linter.unusedVariables false
set_option linter.defProp false
set_option maxRecDepth 4000
namespace Go.Proofs.YtnjgpibbjiofpaaGreat
open Go.Av
mutual
def Tt.tot:Tt→Nat
 | .mk x0 x1=>ByteArray.size x0+(Tt.tots x1)
def Tt.tots:List Tt→Nat
 | []=>0
 | a::l=>1+a.tot+Tt.tots l
end
theorem Tt.tots_eq(l:List Tt):Tt.tots l=ltot Tt.tot l:=by
 induction l with
 | nil=>rfl
 | cons a l ih=>simp only[Tt.tots,ih,ltot,List.length_cons,List.map_cons,List.sum_cons]; omega
theorem Tt.tot_mk(x0:_)(x1:_):(Tt.mk x0 x1).tot=ByteArray.size x0+((ltot Tt.tot) x1):=by rw[Tt.tot,Tt.tots_eq]
inductive Tt.Ok:Tt→Prop
 | mk (x0:_) (x1:_) (h0:(fun s:ByteArray=>Big s.size) x0) (h1:Big x1.length) (g1:∀ a∈x1,Tt.Ok a):Tt.Ok (.mk x0 x1)
theorem Tt.tot_u(a:Tt):a.tot=ByteArray.size a.Name+((ltot Tt.tot) a.Args):=by cases a; exact Tt.tot_mk _ _ 
theorem Tt.Ok.u{a:Tt}(h:a.Ok):(fun s:ByteArray=>Big s.size) a.Name∧(LOk Tt.Ok) a.Args:=by cases h with | mk _ _ h0 h1 g1=>exact⟨h0,⟨h1,g1⟩⟩
def Dt.tot(a:Dt):Nat:=(ltot Tt.tot) a.Patterns+((ltot Tt.tot) a.Instances)
def Dt.Ok(a:Dt):Prop:=(LOk Tt.Ok) a.Patterns∧(LOk Tt.Ok) a.Instances
def gc.tot(a:gc):Nat:=Tt.tot a.pattern+((ltot Tt.tot) a.instances)
def gc.Ok(a:gc):Prop:=InR a.bits∧Tt.Ok a.pattern∧(LOk Tt.Ok) a.instances
def Bt.tot(a:Bt):Nat:=ByteArray.size a.Var+(Tt.tot a.Term)
def Bt.Ok(a:Bt):Prop:=(fun s:ByteArray=>Big s.size) a.Var∧Tt.Ok a.Term
def Sa.tot(a:Sa):Nat:=(ltot Bt.tot) a.Bindings
def Sa.Ok(a:Sa):Prop:=(LOk Bt.Ok) a.Bindings
def lc.tot(a:lc):Nat:=(ltot (fun _=>0)) a.code
def lc.Ok(a:lc):Prop:=(LOk (fun x:Int=>0≤x∧x≤255)) a.code∧InR a.at_f∧(fun _:Int=>True) a.seed
def ld.tot(a:ld):Nat:=Tt.tot a.pattern
def ld.Ok(a:ld):Prop:=Tt.Ok a.pattern∧InR a.covers
def lf.tot(a:lf):Nat:=(ltot Tt.tot) a.instances+((ltot ld.tot) a.candidates)
def lf.Ok(a:lf):Prop:=(LOk Tt.Ok) a.instances∧(LOk ld.Ok) a.candidates
def ct.tot(a:ct):Nat:=Tt.tot a.pattern
def ct.Ok(a:ct):Prop:=Tt.Ok a.pattern∧InR a.covers
end Go.Proofs.YtnjgpibbjiofpaaGreat
