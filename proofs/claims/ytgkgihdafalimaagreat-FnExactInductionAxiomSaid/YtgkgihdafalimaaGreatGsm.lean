/- A part of the proof: lemmas only; nothing is claimed here beyond what each lemma says. -/
import Derived.Test.YtgkgihdafalimaaGreatGfm
import Derived.Test.YtgkgihdafalimaaGreatAvZ
set_option linter.unusedSimpArgs false
set_option linter.unusedVariables false
set_option linter.defProp false
set_option maxRecDepth 4000
namespace Go.Proofs.YtgkgihdafalimaaGreat
open Go.Av
/-! the same -/
noncomputable def same {α : Type} (a b : α) : Bool := @decide (a = b) (Classical.propDecidable _)
end Go.Proofs.YtgkgihdafalimaaGreat
