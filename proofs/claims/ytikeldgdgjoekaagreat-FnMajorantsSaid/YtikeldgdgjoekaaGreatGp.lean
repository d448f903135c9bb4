/- Lemmas of the proof; each says what it shows. -/
import Derived.Test.YtikeldgdgjoekaaGreatGm
import Derived.Test.YtikeldgdgjoekaaGreatAvS
set_option linter.unusedSimpArgs false
set_option linter.unusedVariables false
set_option linter.defProp false
set_option maxRecDepth 4000
namespace Go.Proofs.YtikeldgdgjoekaaGreat
open Go.Av
mutual
def Tt.tot:Tt→Nat
 | .mk x0 x1=>ByteArray.size x0+(Tt.tots x1)
def Tt.tots:List Tt→Nat
 | []=>0
 | a::l=>1+a.tot+Tt.tots l
end
theorem Tt.tots_eq(l:List Tt):Tt.tots l=ltot Tt.tot l:=by
 induction l with
 | nil=>rfl
 | cons a l ih=>simp only[Tt.tots,ih,ltot,List.length_cons,List.map_cons,List.sum_cons]; omega
theorem Tt.tot_mk(x0:_)(x1:_):(Tt.mk x0 x1).tot=ByteArray.size x0+((ltot Tt.tot) x1):=by rw[Tt.tot,Tt.tots_eq]
inductive Tt.Ok:Tt→Prop
 | mk (x0:_) (x1:_) (h0:(fun s:ByteArray=>Big s.size) x0) (h1:Big x1.length) (g1:∀ a∈x1,Tt.Ok a):Tt.Ok (.mk x0 x1)
theorem Tt.tot_u(a:Tt):a.tot=ByteArray.size a.Name+((ltot Tt.tot) a.Args):=by cases a; exact Tt.tot_mk _ _ 
theorem Tt.Ok.u{a:Tt}(h:a.Ok):(fun s:ByteArray=>Big s.size) a.Name∧(LOk Tt.Ok) a.Args:=by cases h with | mk _ _ h0 h1 g1=>exact⟨h0,⟨h1,g1⟩⟩
def Lt.tot(a:Lt):Nat:=(ltot ByteArray.size) a.Vars+((ltot (fun _=>0)) a.Slopes)
def Lt.Ok(a:Lt):Prop:=(LOk (fun s:ByteArray=>Big s.size)) a.Vars∧(LOk InR) a.Slopes∧InR a.Constant
def la.tot(a:la):Nat:=(ltot (fun _=>0)) a.code
def la.Ok(a:la):Prop:=(LOk (fun x:Int=>0≤x∧x≤255)) a.code∧InR a.at_f∧(fun _:Int=>True) a.seed
def Mt.tot(a:Mt):Nat:=ByteArray.size a.Name+((ltot (fun _=>0)) a.Slopes)
def Mt.Ok(a:Mt):Prop:=(fun s:ByteArray=>Big s.size) a.Name∧(LOk InR) a.Slopes∧InR a.Constant
end Go.Proofs.YtikeldgdgjoekaaGreat
