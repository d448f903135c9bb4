/- A part of the proof: lemmas only; nothing is claimed here beyond what each lemma says. -/
import Derived.Test.YtdmkceajaagpgaaGdec2
set_option linter.unusedSimpArgs false
set_option linter.unusedVariables false
set_option linter.defProp false
namespace Go.Proofs.Ytdmkceajaagpgaa
open Go.Av
theorem FnExactIsValidDecomposition_true (d : Decomposition) (h : d.Ok) : FnExactIsValidDecomposition d = some true := by
  unfold FnExactIsValidDecomposition
  rw [szDecomposition_eq d h _ (by omega) (by omega), Option.bind_some]
  by_cases e : szR d.tot 1048576 < 0
  · rw [decide_eq_true e]; rfl
  have h1 := szR_ok e
  rw [decide_eq_false e, cond_false]
  simp only [toDecomposition_eq d h1, spec_dec d h h1, impl_dec d h h1, Option.bind_some, beq_self_eq_true, cond_true, eqDecomposition_refl]
end Go.Proofs.Ytdmkceajaagpgaa
