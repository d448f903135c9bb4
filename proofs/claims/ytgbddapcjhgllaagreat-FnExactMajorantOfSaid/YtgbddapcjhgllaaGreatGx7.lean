/- A part of the proof: lemmas only; nothing is claimed here beyond what each lemma says. -/
import Derived.Test.YtgbddapcjhgllaaGreatGx4
set_option linter.unusedSimpArgs false
set_option linter.unusedVariables false
set_option linter.defProp false
namespace Go.Proofs.YtgbddapcjhgllaaGreat
open Go.Av
theorem Contains_int {f : Int → Option Bool} {p : Int → Bool} (h : ∀ x, f x = some (p x)) (xs : List Int) : slices_ContainsFunc_Sint_int xs f = some (xs.any p) := by
  unfold slices_ContainsFunc_Sint_int slices_IndexFunc_Sint_int
  obtain ⟨r, h1, h2⟩ := forN_find (n := xs.length) (p := fun i => p (xs.getD i default)) (f := fun i2 s2 => (idx xs (i2 : Int)).bind fun v14 => (f v14).bind fun v16 => bif v16 then some (.rt (i2 : Int)) else some (.nx ())) (fun j hj => by
    simp only [idx_getD hj, Option.bind_some, h]
    cases p (xs.getD j default) <;> rfl)
  rw [h1, Option.bind_some, h2, range_any_list]
end Go.Proofs.YtgbddapcjhgllaaGreat
