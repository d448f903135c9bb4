/- Proved: FnExactNumeralOf, as the seat states it: for every input that the row describes. No further condition. -/
import Derived.Test.YtfggcaohidajkaaGw0
import Derived.Test.YtfggcaohidajkaaGtNumeralOf
import Derived.Test.YtfggcaohidajkaaAvQ
import Derived.Test.YtfggcaohidajkaaRows
import Derived.ProofKit
import Derived.Carry
import Derived.Below
import Derived.ChangeSame
set_option linter.unusedSimpArgs false
set_option linter.unusedVariables false
set_option linter.defProp false
set_option maxRecDepth 4000
namespace Go.Proofs.Ytfggcaohidajkaa
open Go.ChangeShapes Go.WideShapes Go.ChangeAt Go.RowKit Go.Av
theorem Try.own : ownKnob Try.prog.godebug = none := by kernel_rfl
theorem Try.laidOut : laidOutB Try.prog = true := by kernel_rfl
theorem cells_3 : Try.prog.cellsOf 3 = 1 := by kernel_rfl
def GT (t : TypeId) : Prop := t = 3
theorem kinds : Kinds Try.prog GT := by
  rintro t rfl
  · exact .inr (.inl ⟨_, Try.underlying3⟩)
theorem open_3 {p : PV} (h : HasTy Try.prog 3 p) : ∃ a : Int, InR a ∧ p = (I a) := by
  cases h with
  | bool h  => rw [Try.underlying3] at h; cases h
  | str h _ => rw [Try.underlying3] at h; cases h
  | sl h _ _ => rw [Try.underlying3] at h; cases h
  | struct h _ => rw [Try.underlying3] at h; cases h
  | int h hw =>
    rw [Try.underlying3] at h
    cases h
    exact ⟨_, inR_wf hw, rfl⟩
theorem law_sat (ps : List PV) (h : HasTys Try.prog Try.f3.params.toList ps) : Sat Try.prog 3 ps (.lit (.bool true)) := by
  rw [Try.params3] at h
  cases h with
  | cons k0 h =>
  cases h with
  | nil =>
  obtain ⟨a0, o0, rfl⟩ := open_3 k0
  exact FnExactNumeralOf_sat (FnExactNumeralOf_true a0 o0)
set_option maxRecDepth 100000 in
theorem law_lifted (os : Os) (started : os.Started) (H : Type) (enc : TypeId × Value → H) :
    ReturnsInHanded {} Try.checked os 3 .any (Rows.fnExactNumeralOfSpec.pre6 enc Try.prog Try.f3 Rows.fnExactNumeralOfRow.domain false) (Rows.fnExactNumeralOfSpec.post enc Try.prog Try.f3 false true false false) := by
  refine returnsInHanded_of_change (C := Try.checked) Try.own started (by kernel_rfl) Try.func3
    (ChangeSpec.witness6 (enc := enc) (C := Try.checked) false ⟨#[], #[.int .i64 0], []⟩ 8 (by kernel_rfl) (by kernel_rfl) (by kernel_rfl) (by kernel_rfl)) ?_
  intro W base args ds gs before hval0 hW hcnd _
  refine law_post (P := Try.prog) (tb := 4) (base := base) (G := GT) Try.laidOut rfl rfl Try.underlying4 (fun ds hd => by rw [Try.params3] at hd; match ds, hd with | [d0], _ => exact ⟨rfl, rfl, rfl⟩) (fun W' => okWide_bool_mk Try.underlying4 true) kinds ?_ hval0 hW law_sat
  intro t ht
  rw [Try.params3] at ht
  simp only [List.mem_cons, List.not_mem_nil, or_false] at ht
  rcases ht with rfl
  all_goals exact ⟨by simp [GT], by kernel_rfl, of_decide_eq_true (by kernel_rfl)⟩
theorem andT {a b : Bool} (h1 : a = true) (h2 : b = true) : (a && b) = true := by rw [h1, h2]; rfl
set_option maxHeartbeats 4000000 in
theorem law_facts : joinedFacts Try.pinned.checked.prog 3 Try.f3 Rows.fnExactNumeralOfSpec Rows.fnExactNumeralOfRow = true := by
  unfold joinedFacts
  refine andT (andT (andT (andT (andT (andT (andT (andT (andT (andT (andT (andT (andT (andT (andT (andT (andT (andT (andT (andT (andT (andT (andT (andT (andT (andT (andT (andT (andT (andT (andT ?_ ?_) ?_) ?_) ?_) ?_) ?_) ?_) ?_) ?_) ?_) ?_) ?_) ?_) ?_) ?_) ?_) ?_) ?_) ?_) ?_) ?_) ?_) ?_) ?_) ?_) ?_) ?_) ?_) ?_) ?_) ?_
  all_goals as_aux_lemma => kernel_rfl
theorem law_holds : Rows.FnExactNumeralOfSaid :=
  OpenClaim.holds_of_wide 3 Try.f3 rfl rfl rfl rfl rfl rfl rfl ⟨rfl, rfl, rfl, rfl, rfl⟩ rfl rfl rfl rfl rfl (by kernel_rfl) Try.func3 law_facts
    (of_decide_eq_true (by kernel_rfl)) (by unfold Func.isWrapper; first | (rw [if_pos (by decide +kernel)]; kernel_rfl) | (rw [if_neg (by decide +kernel)]; exact ⟨rfl, rfl⟩))
    (fun os started H enc _ => law_lifted os started H enc)
end Go.Proofs.Ytfggcaohidajkaa
