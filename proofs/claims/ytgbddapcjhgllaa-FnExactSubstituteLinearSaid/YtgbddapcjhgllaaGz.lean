/- Proved: FnExactSubstituteLinear, as the seat states it: for every input that the row describes. No further condition. -/
import Derived.Test.YtgbddapcjhgllaaGw1
import Derived.Test.YtgbddapcjhgllaaGtSubstituteLinear
import Derived.Test.YtgbddapcjhgllaaAvQ
import Derived.Test.YtgbddapcjhgllaaRows
import Derived.ProofKit
import Derived.Carry
import Derived.Below
import Derived.ChangeSame
set_option linter.unusedSimpArgs false
set_option linter.unusedVariables false
set_option linter.defProp false
set_option maxRecDepth 4000
namespace Go.Proofs.Ytgbddapcjhgllaa
open Go.ChangeShapes Go.WideShapes Go.ChangeAt Go.RowKit Go.Av
theorem Try.own : ownKnob Try.prog.godebug = none := by kernel_rfl
theorem Try.laidOut : laidOutB Try.prog = true := by kernel_rfl
theorem cells_9 : Try.prog.cellsOf 9 = 1 := by kernel_rfl
theorem cells_22 : Try.prog.cellsOf 22 = 1 := by kernel_rfl
theorem cells_3 : Try.prog.cellsOf 3 = 1 := by kernel_rfl
theorem cells_23 : Try.prog.cellsOf 23 = 1 := by kernel_rfl
theorem cells_25 : Try.prog.cellsOf 25 = 3 := by kernel_rfl
def GT (t : TypeId) : Prop := t = 9 ∨ t = 22 ∨ t = 3 ∨ t = 23 ∨ t = 25
theorem kinds : Kinds Try.prog GT := by
  rintro t (rfl | rfl | rfl | rfl | rfl)
  · exact .inr (.inr (.inl Try.underlying9))
  · exact .inr (.inr (.inr (.inl ⟨9, Try.underlying22, by simp [GT], by rw [cells_9]; decide⟩)))
  · exact .inr (.inl ⟨_, Try.underlying3⟩)
  · exact .inr (.inr (.inr (.inl ⟨3, Try.underlying23, by simp [GT], by rw [cells_3]; decide⟩)))
  · refine .inr (.inr (.inr (.inr ⟨_, Try.underlying25, ?_, ?_⟩)))
    · simp [LaidF, cells_22, cells_23, cells_3, cells_25]
    · simp [GT]
theorem open_9 {p : PV} (h : HasTy Try.prog 9 p) : ∃ a : ByteArray, (fun s : ByteArray => Big s.size) a ∧ p = (Sx a) := by
  cases h with
  | bool h  => rw [Try.underlying9] at h; cases h
  | int h _ => rw [Try.underlying9] at h; cases h
  | sl h _ _ => rw [Try.underlying9] at h; cases h
  | struct h _ => rw [Try.underlying9] at h; cases h
  | str h hs => exact ⟨_, by simpa [Big, maxLen] using hs, rfl⟩
theorem open_22 {p : PV} (h : HasTy Try.prog 22 p) : ∃ a : List ByteArray, (LOk (fun s : ByteArray => Big s.size)) a ∧ p = (.sl false 1 (a.map Sx)) := by
  cases h with
  | bool h  => rw [Try.underlying22] at h; cases h
  | int h _ => rw [Try.underlying22] at h; cases h
  | str h _ => rw [Try.underlying22] at h; cases h
  | struct h _ => rw [Try.underlying22] at h; cases h
  | sl h hl hes =>
    rw [Try.underlying22] at h
    cases h
    obtain ⟨ts, h1, rfl⟩ := open_list (ok := (fun s : ByteArray => Big s.size)) (f := Sx) open_9 _ hes
    exact ⟨ts, ⟨by simpa [Big, maxLen] using hl, h1⟩, by rw [cells_9]⟩
theorem open_3 {p : PV} (h : HasTy Try.prog 3 p) : ∃ a : Int, InR a ∧ p = (I a) := by
  cases h with
  | bool h  => rw [Try.underlying3] at h; cases h
  | str h _ => rw [Try.underlying3] at h; cases h
  | sl h _ _ => rw [Try.underlying3] at h; cases h
  | struct h _ => rw [Try.underlying3] at h; cases h
  | int h hw =>
    rw [Try.underlying3] at h
    cases h
    exact ⟨_, inR_wf hw, rfl⟩
theorem open_23 {p : PV} (h : HasTy Try.prog 23 p) : ∃ a : List Int, (LOk InR) a ∧ p = (.sl false 1 (a.map I)) := by
  cases h with
  | bool h  => rw [Try.underlying23] at h; cases h
  | int h _ => rw [Try.underlying23] at h; cases h
  | str h _ => rw [Try.underlying23] at h; cases h
  | struct h _ => rw [Try.underlying23] at h; cases h
  | sl h hl hes =>
    rw [Try.underlying23] at h
    cases h
    obtain ⟨ts, h1, rfl⟩ := open_list (ok := InR) (f := I) open_3 _ hes
    exact ⟨ts, ⟨by simpa [Big, maxLen] using hl, h1⟩, by rw [cells_3]⟩
theorem open_25 {p : PV} (h : HasTy Try.prog 25 p) : ∃ a : Linear, Linear.Ok a ∧ p = ((Linear.pv false) a) := by
  cases h with
  | bool h  => rw [Try.underlying25] at h; cases h
  | int h _ => rw [Try.underlying25] at h; cases h
  | str h _ => rw [Try.underlying25] at h; cases h
  | sl h _ _ => rw [Try.underlying25] at h; cases h
  | struct h hps =>
    rw [Try.underlying25] at h
    cases h
    simp only [List.map_cons, List.map_nil] at hps
    cases hps with
    | cons k0 hps =>
    cases hps with
    | cons k1 hps =>
    cases hps with
    | cons k2 hps =>
    cases hps with
    | nil =>
    obtain ⟨y0, w0, rfl⟩ := open_22 k0
    obtain ⟨y1, w1, rfl⟩ := open_23 k1
    obtain ⟨y2, w2, rfl⟩ := open_3 k2
    exact ⟨⟨y0, y1, y2⟩, ⟨w0, w1, w2⟩, rfl⟩
theorem law_sat (ps : List PV) (h : HasTys Try.prog Try.f4.params.toList ps) : Sat Try.prog 4 ps (.lit (.bool true)) := by
  rw [Try.params4] at h
  cases h with
  | cons k0 h =>
  cases h with
  | cons k1 h =>
  cases h with
  | cons k2 h =>
  cases h with
  | nil =>
  obtain ⟨a0, o0, rfl⟩ := open_25 k0
  obtain ⟨a1, o1, rfl⟩ := open_9 k1
  obtain ⟨a2, o2, rfl⟩ := open_25 k2
  exact FnExactSubstituteLinear_sat (FnExactSubstituteLinear_true a0 a1 a2 o0 o1 o2)
set_option maxRecDepth 100000 in
theorem law_lifted (os : Os) (started : os.Started) (H : Type) (enc : TypeId × Value → H) :
    ReturnsInHanded {} Try.checked os 4 .any (Rows.fnExactSubstituteLinearSpec.pre6 enc Try.prog Try.f4 Rows.fnExactSubstituteLinearRow.domain false) (Rows.fnExactSubstituteLinearSpec.post enc Try.prog Try.f4 false true false false) := by
  refine returnsInHanded_of_change (C := Try.checked) Try.own started (by kernel_rfl) Try.func4
    (ChangeSpec.witness6 (enc := enc) (C := Try.checked) false ⟨#[], #[.agg #[.slice none 0 0, .slice none 0 0, .int .i64 0], .string ⟨#[]⟩, .agg #[.slice none 0 0, .slice none 0 0, .int .i64 0]], []⟩ 8 (by kernel_rfl) (by kernel_rfl) (by kernel_rfl) (by kernel_rfl)) ?_
  intro W base args ds gs before hval0 hW hcnd _
  refine law_post (P := Try.prog) (tb := 4) (base := base) (G := GT) Try.laidOut rfl rfl Try.underlying4 (fun ds hd => by rw [Try.params4] at hd; match ds, hd with | [d0, d1, d2], _ => exact ⟨rfl, rfl, rfl⟩) (fun W' => okWide_bool_mk Try.underlying4 true) kinds ?_ hval0 hW law_sat
  intro t ht
  rw [Try.params4] at ht
  simp only [List.mem_cons, List.not_mem_nil, or_false] at ht
  rcases ht with rfl | rfl | rfl
  all_goals exact ⟨by simp [GT], by kernel_rfl, of_decide_eq_true (by kernel_rfl)⟩
theorem andT {a b : Bool} (h1 : a = true) (h2 : b = true) : (a && b) = true := by rw [h1, h2]; rfl
set_option maxHeartbeats 4000000 in
theorem law_facts : joinedFacts Try.pinned.checked.prog 4 Try.f4 Rows.fnExactSubstituteLinearSpec Rows.fnExactSubstituteLinearRow = true := by
  unfold joinedFacts
  refine andT (andT (andT (andT (andT (andT (andT (andT (andT (andT (andT (andT (andT (andT (andT (andT (andT (andT (andT (andT (andT (andT (andT (andT (andT (andT (andT (andT (andT (andT (andT ?_ ?_) ?_) ?_) ?_) ?_) ?_) ?_) ?_) ?_) ?_) ?_) ?_) ?_) ?_) ?_) ?_) ?_) ?_) ?_) ?_) ?_) ?_) ?_) ?_) ?_) ?_) ?_) ?_) ?_) ?_) ?_
  all_goals as_aux_lemma => kernel_rfl
theorem law_holds : Rows.FnExactSubstituteLinearSaid :=
  OpenClaim.holds_of_wide 4 Try.f4 rfl rfl rfl rfl rfl rfl rfl ⟨rfl, rfl, rfl, rfl, rfl⟩ rfl rfl rfl rfl rfl (by kernel_rfl) Try.func4 law_facts
    (of_decide_eq_true (by kernel_rfl)) (by unfold Func.isWrapper; first | (rw [if_pos (by decide +kernel)]; kernel_rfl) | (rw [if_neg (by decide +kernel)]; exact ⟨rfl, rfl⟩))
    (fun os started H enc _ => law_lifted os started H enc)
end Go.Proofs.Ytgbddapcjhgllaa
