/- Proved: FnExactAreContradictory, as the seat states it: for every input that the row describes. No further condition. -/
import Derived.Test.YtdmkceajaagpgaaGw2
import Derived.Test.YtdmkceajaagpgaaGtAreContradictory
import Derived.Test.YtdmkceajaagpgaaAvQ
import Derived.Test.YtdmkceajaagpgaaRows
import Derived.ProofKit
import Derived.Carry
import Derived.Below
import Derived.ChangeSame
set_option linter.unusedSimpArgs false
set_option linter.unusedVariables false
set_option linter.defProp false
set_option maxRecDepth 4000
namespace Go.Proofs.Ytdmkceajaagpgaa
open Go.ChangeShapes Go.WideShapes Go.ChangeAt Go.RowKit Go.Av
theorem Try.own : ownKnob Try.prog.godebug = none := by kernel_rfl
theorem Try.laidOut : laidOutB Try.prog = true := by kernel_rfl
theorem cells_3 : Try.prog.cellsOf 3 = 1 := by kernel_rfl
theorem cells_9 : Try.prog.cellsOf 9 = 1 := by kernel_rfl
theorem cells_22 : Try.prog.cellsOf 22 = 1 := by kernel_rfl
theorem cells_64 : Try.prog.cellsOf 64 = 2 := by kernel_rfl
theorem cells_285 : Try.prog.cellsOf 285 = 5 := by kernel_rfl
theorem cells_189 : Try.prog.cellsOf 189 = 1 := by kernel_rfl
theorem cells_191 : Try.prog.cellsOf 191 = 2 := by kernel_rfl
theorem cells_108 : Try.prog.cellsOf 108 = 1 := by kernel_rfl
def GT (t : TypeId) : Prop := t = 3 ∨ t = 9 ∨ t = 22 ∨ t = 64 ∨ t = 285 ∨ t = 189 ∨ t = 191 ∨ t = 108
theorem kinds : Kinds Try.prog GT := by
  rintro t (rfl | rfl | rfl | rfl | rfl | rfl | rfl | rfl)
  · exact .inr (.inl ⟨_, Try.underlying3⟩)
  · exact .inr (.inr (.inl Try.underlying9))
  · exact .inr (.inr (.inr (.inl ⟨64, Try.underlying22, by simp [GT], by rw [cells_64]; decide⟩)))
  · refine .inr (.inr (.inr (.inr ⟨_, Try.underlying64, ?_, ?_⟩)))
    · simp [LaidF, cells_9, cells_22, cells_64]
    · simp [GT]
  · refine .inr (.inr (.inr (.inr ⟨_, Try.underlying285, ?_, ?_⟩)))
    · simp [LaidF, cells_3, cells_64, cells_9, cells_189, cells_285]
    · simp [GT]
  · exact .inr (.inr (.inr (.inl ⟨285, Try.underlying189, by simp [GT], by rw [cells_285]; decide⟩)))
  · refine .inr (.inr (.inr (.inr ⟨_, Try.underlying191, ?_, ?_⟩)))
    · simp [LaidF, cells_189, cells_191]
    · simp [GT]
  · exact .inr (.inr (.inr (.inl ⟨191, Try.underlying108, by simp [GT], by rw [cells_191]; decide⟩)))
theorem open_3 {p : PV} (h : HasTy Try.prog 3 p) : ∃ a : Int, InR a ∧ p = (I a) := by
  cases h with
  | bool h  => rw [Try.underlying3] at h; cases h
  | str h _ => rw [Try.underlying3] at h; cases h
  | sl h _ _ => rw [Try.underlying3] at h; cases h
  | struct h _ => rw [Try.underlying3] at h; cases h
  | int h hw =>
    rw [Try.underlying3] at h
    cases h
    exact ⟨_, inR_wf hw, rfl⟩
theorem open_9 {p : PV} (h : HasTy Try.prog 9 p) : ∃ a : ByteArray, (fun s : ByteArray => Big s.size) a ∧ p = (Sx a) := by
  cases h with
  | bool h  => rw [Try.underlying9] at h; cases h
  | int h _ => rw [Try.underlying9] at h; cases h
  | sl h _ _ => rw [Try.underlying9] at h; cases h
  | struct h _ => rw [Try.underlying9] at h; cases h
  | str h hs => exact ⟨_, by simpa [Big, maxLen] using hs, rfl⟩
theorem open_64 : ∀ {p : PV}, HasTy Try.prog 64 p → ∃ a : Term, Term.Ok a ∧ p = ((Term.pv false) a) := by
  intro p
  induction hn : SizeOf.sizeOf p using Nat.strongRecOn generalizing p with
  | _ n ih =>
  intro h
  cases h with
  | bool h  => rw [Try.underlying64] at h; cases h
  | int h _ => rw [Try.underlying64] at h; cases h
  | str h _ => rw [Try.underlying64] at h; cases h
  | sl h _ _ => rw [Try.underlying64] at h; cases h
  | struct h hps =>
    rw [Try.underlying64] at h
    cases h
    simp only [List.map_cons, List.map_nil] at hps
    cases hps with
    | cons k0 hps =>
    cases hps with
    | cons k1 hps =>
    cases hps with
    | nil =>
    obtain ⟨y0, w0, rfl⟩ := open_9 k0
    cases k1 with
    | bool h  => rw [Try.underlying22] at h; cases h
    | int h _ => rw [Try.underlying22] at h; cases h
    | str h _ => rw [Try.underlying22] at h; cases h
    | struct h _ => rw [Try.underlying22] at h; cases h
    | sl h hl hes =>
    rename_i e es
    rw [Try.underlying22] at h
    cases h
    have key : ∀ l : List PV, (∀ x ∈ l, x ∈ es) → ∃ ts : List Term, (∀ a ∈ ts, a.Ok) ∧ l = ts.map (Term.pv false) := by
      intro l
      induction l with
      | nil => intro _; exact ⟨[], by simp, rfl⟩
      | cons x l ihl =>
        intro hx
        have hm : x ∈ es := hx x (by simp)
        have hlt := List.sizeOf_lt_of_mem hm
        obtain ⟨a, ha, rfl⟩ := ih (SizeOf.sizeOf x) (by rw [← hn]; simp; omega) rfl (hes x hm)
        obtain ⟨ts, hts, rfl⟩ := ihl (fun y hy => hx y (by simp [hy]))
        exact ⟨a :: ts, by simpa using ⟨ha, hts⟩, rfl⟩
    obtain ⟨y1, w1, rfl⟩ := key es (fun _ h => h)
    exact ⟨.mk y0 y1, .mk _ _ w0 (by simpa [Big, maxLen] using hl) w1, by rw [Term.pv_u, cells_64]; rfl⟩
theorem open_22 {p : PV} (h : HasTy Try.prog 22 p) : ∃ a : List Term, (LOk Term.Ok) a ∧ p = (.sl false 2 (a.map (Term.pv false))) := by
  cases h with
  | bool h  => rw [Try.underlying22] at h; cases h
  | int h _ => rw [Try.underlying22] at h; cases h
  | str h _ => rw [Try.underlying22] at h; cases h
  | struct h _ => rw [Try.underlying22] at h; cases h
  | sl h hl hes =>
    rw [Try.underlying22] at h
    cases h
    obtain ⟨ts, h1, rfl⟩ := open_list (ok := Term.Ok) (f := (Term.pv false)) open_64 _ hes
    exact ⟨ts, ⟨by simpa [Big, maxLen] using hl, h1⟩, by rw [cells_64]⟩
theorem open_285 : ∀ {p : PV}, HasTy Try.prog 285 p → ∃ a : Formula, Formula.Ok a ∧ p = ((Formula.pv false) a) := by
  intro p
  induction hn : SizeOf.sizeOf p using Nat.strongRecOn generalizing p with
  | _ n ih =>
  intro h
  cases h with
  | bool h  => rw [Try.underlying285] at h; cases h
  | int h _ => rw [Try.underlying285] at h; cases h
  | str h _ => rw [Try.underlying285] at h; cases h
  | sl h _ _ => rw [Try.underlying285] at h; cases h
  | struct h hps =>
    rw [Try.underlying285] at h
    cases h
    simp only [List.map_cons, List.map_nil] at hps
    cases hps with
    | cons k0 hps =>
    cases hps with
    | cons k1 hps =>
    cases hps with
    | cons k2 hps =>
    cases hps with
    | cons k3 hps =>
    cases hps with
    | nil =>
    obtain ⟨y0, w0, rfl⟩ := open_3 k0
    obtain ⟨y1, w1, rfl⟩ := open_64 k1
    obtain ⟨y2, w2, rfl⟩ := open_9 k2
    cases k3 with
    | bool h  => rw [Try.underlying189] at h; cases h
    | int h _ => rw [Try.underlying189] at h; cases h
    | str h _ => rw [Try.underlying189] at h; cases h
    | struct h _ => rw [Try.underlying189] at h; cases h
    | sl h hl hes =>
    rename_i e es
    rw [Try.underlying189] at h
    cases h
    have key : ∀ l : List PV, (∀ x ∈ l, x ∈ es) → ∃ ts : List Formula, (∀ a ∈ ts, a.Ok) ∧ l = ts.map (Formula.pv false) := by
      intro l
      induction l with
      | nil => intro _; exact ⟨[], by simp, rfl⟩
      | cons x l ihl =>
        intro hx
        have hm : x ∈ es := hx x (by simp)
        have hlt := List.sizeOf_lt_of_mem hm
        obtain ⟨a, ha, rfl⟩ := ih (SizeOf.sizeOf x) (by rw [← hn]; simp; omega) rfl (hes x hm)
        obtain ⟨ts, hts, rfl⟩ := ihl (fun y hy => hx y (by simp [hy]))
        exact ⟨a :: ts, by simpa using ⟨ha, hts⟩, rfl⟩
    obtain ⟨y3, w3, rfl⟩ := key es (fun _ h => h)
    exact ⟨.mk y0 y1 y2 y3, .mk _ _ _ _ w0 w1 w2 (by simpa [Big, maxLen] using hl) w3, by rw [Formula.pv_u, cells_285]; rfl⟩
theorem open_189 {p : PV} (h : HasTy Try.prog 189 p) : ∃ a : List Formula, (LOk Formula.Ok) a ∧ p = (.sl false 5 (a.map (Formula.pv false))) := by
  cases h with
  | bool h  => rw [Try.underlying189] at h; cases h
  | int h _ => rw [Try.underlying189] at h; cases h
  | str h _ => rw [Try.underlying189] at h; cases h
  | struct h _ => rw [Try.underlying189] at h; cases h
  | sl h hl hes =>
    rw [Try.underlying189] at h
    cases h
    obtain ⟨ts, h1, rfl⟩ := open_list (ok := Formula.Ok) (f := (Formula.pv false)) open_285 _ hes
    exact ⟨ts, ⟨by simpa [Big, maxLen] using hl, h1⟩, by rw [cells_285]⟩
theorem open_191 {p : PV} (h : HasTy Try.prog 191 p) : ∃ a : Sequent, Sequent.Ok a ∧ p = ((Sequent.pv false) a) := by
  cases h with
  | bool h  => rw [Try.underlying191] at h; cases h
  | int h _ => rw [Try.underlying191] at h; cases h
  | str h _ => rw [Try.underlying191] at h; cases h
  | sl h _ _ => rw [Try.underlying191] at h; cases h
  | struct h hps =>
    rw [Try.underlying191] at h
    cases h
    simp only [List.map_cons, List.map_nil] at hps
    cases hps with
    | cons k0 hps =>
    cases hps with
    | cons k1 hps =>
    cases hps with
    | nil =>
    obtain ⟨y0, w0, rfl⟩ := open_189 k0
    obtain ⟨y1, w1, rfl⟩ := open_189 k1
    exact ⟨⟨y0, y1⟩, ⟨w0, w1⟩, rfl⟩
theorem open_108 {p : PV} (h : HasTy Try.prog 108 p) : ∃ a : List Sequent, (LOk Sequent.Ok) a ∧ p = (.sl false 2 (a.map (Sequent.pv false))) := by
  cases h with
  | bool h  => rw [Try.underlying108] at h; cases h
  | int h _ => rw [Try.underlying108] at h; cases h
  | str h _ => rw [Try.underlying108] at h; cases h
  | struct h _ => rw [Try.underlying108] at h; cases h
  | sl h hl hes =>
    rw [Try.underlying108] at h
    cases h
    obtain ⟨ts, h1, rfl⟩ := open_list (ok := Sequent.Ok) (f := (Sequent.pv false)) open_191 _ hes
    exact ⟨ts, ⟨by simpa [Big, maxLen] using hl, h1⟩, by rw [cells_191]⟩
theorem law_sat (ps : List PV) (h : HasTys Try.prog Try.f11.params.toList ps) : Sat Try.prog 11 ps (.lit (.bool true)) := by
  rw [Try.params11] at h
  cases h with
  | cons k0 h =>
  cases h with
  | nil =>
  obtain ⟨a0, o0, rfl⟩ := open_108 k0
  exact FnExactAreContradictory_sat (FnExactAreContradictory_true a0 o0)
set_option maxRecDepth 100000 in
theorem law_lifted (os : Os) (started : os.Started) (H : Type) (enc : TypeId × Value → H) :
    ReturnsInHanded {} Try.checked os 11 .any (Rows.fnExactAreContradictorySpec.pre6 enc Try.prog Try.f11 Rows.fnExactAreContradictoryRow.domain false) (Rows.fnExactAreContradictorySpec.post enc Try.prog Try.f11 false true false false) := by
  refine returnsInHanded_of_change (C := Try.checked) Try.own started (by kernel_rfl) Try.func11
    (ChangeSpec.witness6 (enc := enc) (C := Try.checked) false ⟨#[], #[.slice none 0 0], []⟩ 8 (by kernel_rfl) (by kernel_rfl) (by kernel_rfl) (by kernel_rfl)) ?_
  intro W base args ds gs before hval0 hW hcnd _
  refine law_post (P := Try.prog) (tb := 4) (base := base) (G := GT) Try.laidOut rfl rfl Try.underlying4 (fun ds hd => by rw [Try.params11] at hd; match ds, hd with | [d0], _ => exact ⟨rfl, rfl, rfl⟩) (fun W' => okWide_bool_mk Try.underlying4 true) kinds ?_ hval0 hW law_sat
  intro t ht
  rw [Try.params11] at ht
  simp only [List.mem_cons, List.not_mem_nil, or_false] at ht
  rcases ht with rfl
  all_goals exact ⟨by simp [GT], by kernel_rfl, of_decide_eq_true (by kernel_rfl)⟩
theorem andT {a b : Bool} (h1 : a = true) (h2 : b = true) : (a && b) = true := by rw [h1, h2]; rfl
set_option maxHeartbeats 4000000 in
theorem law_facts : joinedFacts Try.pinned.checked.prog 11 Try.f11 Rows.fnExactAreContradictorySpec Rows.fnExactAreContradictoryRow = true := by
  unfold joinedFacts
  refine andT (andT (andT (andT (andT (andT (andT (andT (andT (andT (andT (andT (andT (andT (andT (andT (andT (andT (andT (andT (andT (andT (andT (andT (andT (andT (andT (andT (andT (andT (andT ?_ ?_) ?_) ?_) ?_) ?_) ?_) ?_) ?_) ?_) ?_) ?_) ?_) ?_) ?_) ?_) ?_) ?_) ?_) ?_) ?_) ?_) ?_) ?_) ?_) ?_) ?_) ?_) ?_) ?_) ?_) ?_
  all_goals as_aux_lemma => kernel_rfl
theorem law_holds : Rows.FnExactAreContradictorySaid :=
  OpenClaim.holds_of_wide 11 Try.f11 rfl rfl rfl rfl rfl rfl rfl ⟨rfl, rfl, rfl, rfl, rfl⟩ rfl rfl rfl rfl rfl (by kernel_rfl) Try.func11 law_facts
    (of_decide_eq_true (by kernel_rfl)) (by unfold Func.isWrapper; first | (rw [if_pos (by decide +kernel)]; kernel_rfl) | (rw [if_neg (by decide +kernel)]; exact ⟨rfl, rfl⟩))
    (fun os started H enc _ => law_lifted os started H enc)
end Go.Proofs.Ytdmkceajaagpgaa
