/- Proved: FnExactIsValidLinear, as the seat states it: for every input that the row describes. No further condition. -/
import Derived.Test.YtfggcaohidajkaaGw0
import Derived.Test.YtfggcaohidajkaaGx4
import Derived.Test.YtfggcaohidajkaaAvQ
import Derived.Test.YtfggcaohidajkaaRows
import Derived.ProofKit
import Derived.Carry
import Derived.Below
import Derived.ChangeSame
set_option linter.unusedSimpArgs false
set_option linter.unusedVariables false
set_option linter.defProp false
set_option maxRecDepth 4000
namespace Go.Proofs.Ytfggcaohidajkaa
open Go.ChangeShapes Go.WideShapes Go.ChangeAt Go.RowKit Go.Av
theorem Try.own : ownKnob Try.prog.godebug = none := by kernel_rfl
theorem Try.laidOut : laidOutB Try.prog = true := by kernel_rfl
theorem cells_9 : Try.prog.cellsOf 9 = 1 := by kernel_rfl
theorem cells_49 : Try.prog.cellsOf 49 = 1 := by kernel_rfl
theorem cells_3 : Try.prog.cellsOf 3 = 1 := by kernel_rfl
theorem cells_50 : Try.prog.cellsOf 50 = 1 := by kernel_rfl
theorem cells_52 : Try.prog.cellsOf 52 = 3 := by kernel_rfl
def GT (t : TypeId) : Prop := t = 9 ∨ t = 49 ∨ t = 3 ∨ t = 50 ∨ t = 52
theorem kinds : Kinds Try.prog GT := by
  rintro t (rfl | rfl | rfl | rfl | rfl)
  · exact .inr (.inr (.inl Try.underlying9))
  · exact .inr (.inr (.inr (.inl ⟨9, Try.underlying49, by simp [GT], by rw [cells_9]; decide⟩)))
  · exact .inr (.inl ⟨_, Try.underlying3⟩)
  · exact .inr (.inr (.inr (.inl ⟨3, Try.underlying50, by simp [GT], by rw [cells_3]; decide⟩)))
  · refine .inr (.inr (.inr (.inr ⟨_, Try.underlying52, ?_, ?_⟩)))
    · simp [LaidF, cells_49, cells_50, cells_3, cells_52]
    · simp [GT]
theorem open_9 {p : PV} (h : HasTy Try.prog 9 p) : ∃ a : ByteArray, (fun s : ByteArray => Big s.size) a ∧ p = (Sx a) := by
  cases h with
  | bool h  => rw [Try.underlying9] at h; cases h
  | int h _ => rw [Try.underlying9] at h; cases h
  | sl h _ _ => rw [Try.underlying9] at h; cases h
  | struct h _ => rw [Try.underlying9] at h; cases h
  | str h hs => exact ⟨_, by simpa [Big, maxLen] using hs, rfl⟩
theorem open_49 {p : PV} (h : HasTy Try.prog 49 p) : ∃ a : List ByteArray, (LOk (fun s : ByteArray => Big s.size)) a ∧ p = (.sl false 1 (a.map Sx)) := by
  cases h with
  | bool h  => rw [Try.underlying49] at h; cases h
  | int h _ => rw [Try.underlying49] at h; cases h
  | str h _ => rw [Try.underlying49] at h; cases h
  | struct h _ => rw [Try.underlying49] at h; cases h
  | sl h hl hes =>
    rw [Try.underlying49] at h
    cases h
    obtain ⟨ts, h1, rfl⟩ := open_list (ok := (fun s : ByteArray => Big s.size)) (f := Sx) open_9 _ hes
    exact ⟨ts, ⟨by simpa [Big, maxLen] using hl, h1⟩, by rw [cells_9]⟩
theorem open_3 {p : PV} (h : HasTy Try.prog 3 p) : ∃ a : Int, InR a ∧ p = (I a) := by
  cases h with
  | bool h  => rw [Try.underlying3] at h; cases h
  | str h _ => rw [Try.underlying3] at h; cases h
  | sl h _ _ => rw [Try.underlying3] at h; cases h
  | struct h _ => rw [Try.underlying3] at h; cases h
  | int h hw =>
    rw [Try.underlying3] at h
    cases h
    exact ⟨_, inR_wf hw, rfl⟩
theorem open_50 {p : PV} (h : HasTy Try.prog 50 p) : ∃ a : List Int, (LOk InR) a ∧ p = (.sl false 1 (a.map I)) := by
  cases h with
  | bool h  => rw [Try.underlying50] at h; cases h
  | int h _ => rw [Try.underlying50] at h; cases h
  | str h _ => rw [Try.underlying50] at h; cases h
  | struct h _ => rw [Try.underlying50] at h; cases h
  | sl h hl hes =>
    rw [Try.underlying50] at h
    cases h
    obtain ⟨ts, h1, rfl⟩ := open_list (ok := InR) (f := I) open_3 _ hes
    exact ⟨ts, ⟨by simpa [Big, maxLen] using hl, h1⟩, by rw [cells_3]⟩
theorem open_52 {p : PV} (h : HasTy Try.prog 52 p) : ∃ a : Linear, Linear.Ok a ∧ p = ((Linear.pv false) a) := by
  cases h with
  | bool h  => rw [Try.underlying52] at h; cases h
  | int h _ => rw [Try.underlying52] at h; cases h
  | str h _ => rw [Try.underlying52] at h; cases h
  | sl h _ _ => rw [Try.underlying52] at h; cases h
  | struct h hps =>
    rw [Try.underlying52] at h
    cases h
    simp only [List.map_cons, List.map_nil] at hps
    cases hps with
    | cons k0 hps =>
    cases hps with
    | cons k1 hps =>
    cases hps with
    | cons k2 hps =>
    cases hps with
    | nil =>
    obtain ⟨y0, w0, rfl⟩ := open_49 k0
    obtain ⟨y1, w1, rfl⟩ := open_50 k1
    obtain ⟨y2, w2, rfl⟩ := open_3 k2
    exact ⟨⟨y0, y1, y2⟩, ⟨w0, w1, w2⟩, rfl⟩
theorem law_sat (ps : List PV) (h : HasTys Try.prog Try.f6.params.toList ps) : Sat Try.prog 6 ps (.lit (.bool true)) := by
  rw [Try.params6] at h
  cases h with
  | cons k0 h =>
  cases h with
  | nil =>
  obtain ⟨a0, o0, rfl⟩ := open_52 k0
  exact FnExactIsValidLinear_sat (FnExactIsValidLinear_true a0 o0)
set_option maxRecDepth 100000 in
theorem law_lifted (os : Os) (started : os.Started) (H : Type) (enc : TypeId × Value → H) :
    ReturnsInHanded {} Try.checked os 6 .any (Rows.fnExactIsValidLinearSpec.pre6 enc Try.prog Try.f6 Rows.fnExactIsValidLinearRow.domain false) (Rows.fnExactIsValidLinearSpec.post enc Try.prog Try.f6 false true false false) := by
  refine returnsInHanded_of_change (C := Try.checked) Try.own started (by kernel_rfl) Try.func6
    (ChangeSpec.witness6 (enc := enc) (C := Try.checked) false ⟨#[], #[.agg #[.slice none 0 0, .slice none 0 0, .int .i64 0]], []⟩ 8 (by kernel_rfl) (by kernel_rfl) (by kernel_rfl) (by kernel_rfl)) ?_
  intro W base args ds gs before hval0 hW hcnd _
  refine law_post (P := Try.prog) (tb := 4) (base := base) (G := GT) Try.laidOut rfl rfl Try.underlying4 (fun ds hd => by rw [Try.params6] at hd; match ds, hd with | [d0], _ => exact ⟨rfl, rfl, rfl⟩) (fun W' => okWide_bool_mk Try.underlying4 true) kinds ?_ hval0 hW law_sat
  intro t ht
  rw [Try.params6] at ht
  simp only [List.mem_cons, List.not_mem_nil, or_false] at ht
  rcases ht with rfl
  all_goals exact ⟨by simp [GT], by kernel_rfl, of_decide_eq_true (by kernel_rfl)⟩
theorem law_holds : Rows.FnExactIsValidLinearSaid :=
  OpenClaim.holds_of_wide 6 Try.f6 rfl rfl rfl rfl rfl rfl rfl ⟨rfl, rfl, rfl, rfl, rfl⟩ rfl rfl rfl rfl rfl (by kernel_rfl) Try.func6 (by kernel_rfl)
    (of_decide_eq_true (by kernel_rfl)) (by unfold Func.isWrapper; first | (rw [if_pos (by decide +kernel)]; kernel_rfl) | (rw [if_neg (by decide +kernel)]; exact ⟨rfl, rfl⟩))
    (fun os started H enc _ => law_lifted os started H enc)
end Go.Proofs.Ytfggcaohidajkaa
