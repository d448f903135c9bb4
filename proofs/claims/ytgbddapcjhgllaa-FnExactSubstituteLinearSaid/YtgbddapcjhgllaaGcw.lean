/- A part of the proof: lemmas only; nothing is claimed here beyond what each lemma says. -/
import Derived.Test.YtgbddapcjhgllaaGp
set_option linter.unusedSimpArgs false
set_option linter.unusedVariables false
set_option linter.defProp false
namespace Go.Proofs.Ytgbddapcjhgllaa
open Go.Av
theorem within_eq (a lo hi : Int) : impl_within a lo hi = some (inR a lo hi) := cond_inR a lo hi
theorem l1In_eq (a lo hi : Int) : spec_l1In a lo hi = some (inR a lo hi) := cond_inR a lo hi
end Go.Proofs.Ytgbddapcjhgllaa
