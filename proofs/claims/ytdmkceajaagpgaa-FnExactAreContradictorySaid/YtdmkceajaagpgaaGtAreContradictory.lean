/- A part of the proof: lemmas only; nothing is claimed here beyond what each lemma says. -/
import Derived.Test.YtdmkceajaagpgaaGcon
set_option linter.unusedSimpArgs false
set_option linter.unusedVariables false
set_option linter.defProp false
namespace Go.Proofs.Ytdmkceajaagpgaa
open Go.Av
theorem FnExactAreContradictory_true (xs : List Sequent) (h : LOk Sequent.Ok xs) : FnExactAreContradictory xs = some true := by
  unfold FnExactAreContradictory
  rw [szSequentS_eq xs h _ (by omega) (by omega), Option.bind_some]
  by_cases e : szR (ltot Sequent.tot xs) 1048576 < 0
  · rw [decide_eq_true e]; rfl
  · have ht := szR_ok e
    rw [decide_eq_false e, cond_false]
    obtain ⟨r, h1, h2⟩ := con_both xs h ht
    simp only [toSequentS_eq xs ht, Option.bind_some, h1, h2, beq_self_eq_true, cond_true, eqSequentS_refl]
end Go.Proofs.Ytdmkceajaagpgaa
