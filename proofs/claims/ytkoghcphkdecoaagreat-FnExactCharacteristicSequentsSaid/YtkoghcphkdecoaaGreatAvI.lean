/- A part of the proof: lemmas only; nothing is claimed here beyond what each lemma says. -/
/- Builtin copy between rows of elements of k cells. -/
import Derived.Laws.IdiomCopy
set_option linter.unusedSimpArgs false
set_option linter.unusedVariables false
set_option linter.defProp false
namespace Go.Av
end Go.Av
