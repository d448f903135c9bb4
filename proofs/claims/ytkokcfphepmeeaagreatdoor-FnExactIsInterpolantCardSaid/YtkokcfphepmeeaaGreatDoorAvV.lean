/- A part of the proof: lemmas only; nothing is claimed here beyond what each lemma says. -/
/- Own objects that a call has written into: their names stay. -/
import Derived.Test.YtkokcfphepmeeaaGreatDoorAvU
set_option linter.unusedSimpArgs false
set_option linter.unusedVariables false
set_option linter.defProp false
namespace Go.Av
end Go.Av
