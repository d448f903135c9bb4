/- Lemmas of the proof; each says what it shows. -/
import Derived.Test.YtkmfaliedpidbaaGm
import Derived.Test.YtkmfaliedpidbaaAvZ
set_option linter.unusedSimpArgs false
set_option linter.unusedVariables false
set_option linter.defProp false
set_option maxRecDepth 4000
namespace Go.Proofs.Ytkmfaliedpidbaa
open Go.Av
def Lt.Ok(a:Lt):Prop:=(LOk (fun s:ByteArray=>Big s.size)) a.Vars∧(LOk InR) a.Slopes∧InR a.Constant
def la.Ok(a:la):Prop:=(LOk (fun x:Int=>0≤x∧x≤255)) a.code∧InR a.at_f∧(fun _:Int=>True) a.seed
end Go.Proofs.Ytkmfaliedpidbaa
