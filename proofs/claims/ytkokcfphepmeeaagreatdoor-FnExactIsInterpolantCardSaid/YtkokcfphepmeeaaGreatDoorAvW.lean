/- A part of the proof: lemmas only; nothing is claimed here beyond what each lemma says. -/
/- A call that writes into what it is handed. -/
import Derived.Test.YtkokcfphepmeeaaGreatDoorAvV
import Derived.Test.YtkokcfphepmeeaaGreatDoorAv6u
set_option linter.unusedSimpArgs false
set_option linter.unusedVariables false
set_option linter.defProp false
namespace Go.Av
end Go.Av
