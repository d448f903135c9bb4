/- Lemmas of the proof; each says what it shows. -/
import Derived.Test.YtjpljobgioglmaaGm
import Derived.Test.YtjpljobgioglmaaAvS
set_option linter.unusedSimpArgs false
set_option linter.unusedVariables false
set_option linter.defProp false
set_option maxRecDepth 4000
namespace Go.Proofs.Ytjpljobgioglmaa
open Go.Av
def Sa.tot(a:Sa):Nat:=0
def Sa.Ok(a:Sa):Prop:=InR a.From∧InR a.To∧(fun _:Bool=>True) a.Strict
def Sb.tot(a:Sb):Nat:=(ltot Sa.tot) a.Edges
def Sb.Ok(a:Sb):Prop:=InR a.Source∧InR a.Target∧(LOk Sa.Ok) a.Edges
def Ct.tot(a:Ct):Nat:=(ltot (fun _=>0)) a.Arities+((ltot Sb.tot) a.Calls)
def Ct.Ok(a:Ct):Prop:=(LOk InR) a.Arities∧(LOk Sb.Ok) a.Calls
def la.tot(a:la):Nat:=(ltot (fun _=>0)) a.code
def la.Ok(a:la):Prop:=(LOk (fun x:Int=>0≤x∧x≤255)) a.code∧InR a.at_f∧(fun _:Int=>True) a.seed
def ft.tot(a:ft):Nat:=Sb.tot a.graph+((ltot (fun _=>0)) a.path)
def ft.Ok(a:ft):Prop:=Sb.Ok a.graph∧(LOk InR) a.path
def At.tot(a:At):Nat:=0
def At.Ok(a:At):Prop:=InR a.f0∧InR a.f1∧InR a.f2∧InR a.f3
end Go.Proofs.Ytjpljobgioglmaa
