/- Proved: FnExactPathGraph, as the seat states it: for every input that the row describes. No further condition. -/
import Derived.Test.YtdmkceajaagpgaaGw1
import Derived.Test.YtdmkceajaagpgaaGtPathGraph
import Derived.Test.YtdmkceajaagpgaaAvQ
import Derived.Test.YtdmkceajaagpgaaRows
import Derived.ProofKit
import Derived.Carry
import Derived.Below
import Derived.ChangeSame
set_option linter.unusedSimpArgs false
set_option linter.unusedVariables false
set_option linter.defProp false
set_option maxRecDepth 4000
namespace Go.Proofs.Ytdmkceajaagpgaa
open Go.ChangeShapes Go.WideShapes Go.ChangeAt Go.RowKit Go.Av
theorem Try.own : ownKnob Try.prog.godebug = none := by kernel_rfl
theorem Try.laidOut : laidOutB Try.prog = true := by kernel_rfl
theorem cells_3 : Try.prog.cellsOf 3 = 1 := by kernel_rfl
theorem cells_55 : Try.prog.cellsOf 55 = 1 := by kernel_rfl
theorem cells_4 : Try.prog.cellsOf 4 = 1 := by kernel_rfl
theorem cells_292 : Try.prog.cellsOf 292 = 3 := by kernel_rfl
theorem cells_238 : Try.prog.cellsOf 238 = 1 := by kernel_rfl
theorem cells_240 : Try.prog.cellsOf 240 = 3 := by kernel_rfl
theorem cells_83 : Try.prog.cellsOf 83 = 1 := by kernel_rfl
theorem cells_85 : Try.prog.cellsOf 85 = 2 := by kernel_rfl
def GT (t : TypeId) : Prop := t = 3 ∨ t = 55 ∨ t = 4 ∨ t = 292 ∨ t = 238 ∨ t = 240 ∨ t = 83 ∨ t = 85
theorem kinds : Kinds Try.prog GT := by
  rintro t (rfl | rfl | rfl | rfl | rfl | rfl | rfl | rfl)
  · exact .inr (.inl ⟨_, Try.underlying3⟩)
  · exact .inr (.inr (.inr (.inl ⟨3, Try.underlying55, by simp [GT], by rw [cells_3]; decide⟩)))
  · exact .inl Try.underlying4
  · refine .inr (.inr (.inr (.inr ⟨_, Try.underlying292, ?_, ?_⟩)))
    · simp [LaidF, cells_3, cells_4, cells_292]
    · simp [GT]
  · exact .inr (.inr (.inr (.inl ⟨292, Try.underlying238, by simp [GT], by rw [cells_292]; decide⟩)))
  · refine .inr (.inr (.inr (.inr ⟨_, Try.underlying240, ?_, ?_⟩)))
    · simp [LaidF, cells_3, cells_238, cells_240]
    · simp [GT]
  · exact .inr (.inr (.inr (.inl ⟨240, Try.underlying83, by simp [GT], by rw [cells_240]; decide⟩)))
  · refine .inr (.inr (.inr (.inr ⟨_, Try.underlying85, ?_, ?_⟩)))
    · simp [LaidF, cells_55, cells_83, cells_85]
    · simp [GT]
theorem open_3 {p : PV} (h : HasTy Try.prog 3 p) : ∃ a : Int, InR a ∧ p = (I a) := by
  cases h with
  | bool h  => rw [Try.underlying3] at h; cases h
  | str h _ => rw [Try.underlying3] at h; cases h
  | sl h _ _ => rw [Try.underlying3] at h; cases h
  | struct h _ => rw [Try.underlying3] at h; cases h
  | int h hw =>
    rw [Try.underlying3] at h
    cases h
    exact ⟨_, inR_wf hw, rfl⟩
theorem open_55 {p : PV} (h : HasTy Try.prog 55 p) : ∃ a : List Int, (LOk InR) a ∧ p = (.sl false 1 (a.map I)) := by
  cases h with
  | bool h  => rw [Try.underlying55] at h; cases h
  | int h _ => rw [Try.underlying55] at h; cases h
  | str h _ => rw [Try.underlying55] at h; cases h
  | struct h _ => rw [Try.underlying55] at h; cases h
  | sl h hl hes =>
    rw [Try.underlying55] at h
    cases h
    obtain ⟨ts, h1, rfl⟩ := open_list (ok := InR) (f := I) open_3 _ hes
    exact ⟨ts, ⟨by simpa [Big, maxLen] using hl, h1⟩, by rw [cells_3]⟩
theorem open_4 {p : PV} (h : HasTy Try.prog 4 p) : ∃ a : Bool, (fun _ : Bool => True) a ∧ p = (B a) := by
  cases h with
  | int h _ => rw [Try.underlying4] at h; cases h
  | str h _ => rw [Try.underlying4] at h; cases h
  | sl h _ _ => rw [Try.underlying4] at h; cases h
  | struct h _ => rw [Try.underlying4] at h; cases h
  | bool h => exact ⟨_, trivial, rfl⟩
theorem open_292 {p : PV} (h : HasTy Try.prog 292 p) : ∃ a : SizeEdge, SizeEdge.Ok a ∧ p = ((SizeEdge.pv false) a) := by
  cases h with
  | bool h  => rw [Try.underlying292] at h; cases h
  | int h _ => rw [Try.underlying292] at h; cases h
  | str h _ => rw [Try.underlying292] at h; cases h
  | sl h _ _ => rw [Try.underlying292] at h; cases h
  | struct h hps =>
    rw [Try.underlying292] at h
    cases h
    simp only [List.map_cons, List.map_nil] at hps
    cases hps with
    | cons k0 hps =>
    cases hps with
    | cons k1 hps =>
    cases hps with
    | cons k2 hps =>
    cases hps with
    | nil =>
    obtain ⟨y0, w0, rfl⟩ := open_3 k0
    obtain ⟨y1, w1, rfl⟩ := open_3 k1
    obtain ⟨y2, w2, rfl⟩ := open_4 k2
    exact ⟨⟨y0, y1, y2⟩, ⟨w0, w1, w2⟩, rfl⟩
theorem open_238 {p : PV} (h : HasTy Try.prog 238 p) : ∃ a : List SizeEdge, (LOk SizeEdge.Ok) a ∧ p = (.sl false 3 (a.map (SizeEdge.pv false))) := by
  cases h with
  | bool h  => rw [Try.underlying238] at h; cases h
  | int h _ => rw [Try.underlying238] at h; cases h
  | str h _ => rw [Try.underlying238] at h; cases h
  | struct h _ => rw [Try.underlying238] at h; cases h
  | sl h hl hes =>
    rw [Try.underlying238] at h
    cases h
    obtain ⟨ts, h1, rfl⟩ := open_list (ok := SizeEdge.Ok) (f := (SizeEdge.pv false)) open_292 _ hes
    exact ⟨ts, ⟨by simpa [Big, maxLen] using hl, h1⟩, by rw [cells_292]⟩
theorem open_240 {p : PV} (h : HasTy Try.prog 240 p) : ∃ a : SizeGraph, SizeGraph.Ok a ∧ p = ((SizeGraph.pv false) a) := by
  cases h with
  | bool h  => rw [Try.underlying240] at h; cases h
  | int h _ => rw [Try.underlying240] at h; cases h
  | str h _ => rw [Try.underlying240] at h; cases h
  | sl h _ _ => rw [Try.underlying240] at h; cases h
  | struct h hps =>
    rw [Try.underlying240] at h
    cases h
    simp only [List.map_cons, List.map_nil] at hps
    cases hps with
    | cons k0 hps =>
    cases hps with
    | cons k1 hps =>
    cases hps with
    | cons k2 hps =>
    cases hps with
    | nil =>
    obtain ⟨y0, w0, rfl⟩ := open_3 k0
    obtain ⟨y1, w1, rfl⟩ := open_3 k1
    obtain ⟨y2, w2, rfl⟩ := open_238 k2
    exact ⟨⟨y0, y1, y2⟩, ⟨w0, w1, w2⟩, rfl⟩
theorem open_83 {p : PV} (h : HasTy Try.prog 83 p) : ∃ a : List SizeGraph, (LOk SizeGraph.Ok) a ∧ p = (.sl false 3 (a.map (SizeGraph.pv false))) := by
  cases h with
  | bool h  => rw [Try.underlying83] at h; cases h
  | int h _ => rw [Try.underlying83] at h; cases h
  | str h _ => rw [Try.underlying83] at h; cases h
  | struct h _ => rw [Try.underlying83] at h; cases h
  | sl h hl hes =>
    rw [Try.underlying83] at h
    cases h
    obtain ⟨ts, h1, rfl⟩ := open_list (ok := SizeGraph.Ok) (f := (SizeGraph.pv false)) open_240 _ hes
    exact ⟨ts, ⟨by simpa [Big, maxLen] using hl, h1⟩, by rw [cells_240]⟩
theorem open_85 {p : PV} (h : HasTy Try.prog 85 p) : ∃ a : CyclicProof, CyclicProof.Ok a ∧ p = ((CyclicProof.pv false) a) := by
  cases h with
  | bool h  => rw [Try.underlying85] at h; cases h
  | int h _ => rw [Try.underlying85] at h; cases h
  | str h _ => rw [Try.underlying85] at h; cases h
  | sl h _ _ => rw [Try.underlying85] at h; cases h
  | struct h hps =>
    rw [Try.underlying85] at h
    cases h
    simp only [List.map_cons, List.map_nil] at hps
    cases hps with
    | cons k0 hps =>
    cases hps with
    | cons k1 hps =>
    cases hps with
    | nil =>
    obtain ⟨y0, w0, rfl⟩ := open_55 k0
    obtain ⟨y1, w1, rfl⟩ := open_83 k1
    exact ⟨⟨y0, y1⟩, ⟨w0, w1⟩, rfl⟩
theorem law_sat (ps : List PV) (h : HasTys Try.prog Try.f7.params.toList ps) : Sat Try.prog 7 ps (.lit (.bool true)) := by
  rw [Try.params7] at h
  cases h with
  | cons k0 h =>
  cases h with
  | cons k1 h =>
  cases h with
  | nil =>
  obtain ⟨a0, o0, rfl⟩ := open_85 k0
  obtain ⟨a1, o1, rfl⟩ := open_55 k1
  exact FnExactPathGraph_sat (FnExactPathGraph_true a0 a1 o0 o1)
set_option maxRecDepth 100000 in
theorem law_lifted (os : Os) (started : os.Started) (H : Type) (enc : TypeId × Value → H) :
    ReturnsInHanded {} Try.checked os 7 .any (Rows.fnExactPathGraphSpec.pre6 enc Try.prog Try.f7 Rows.fnExactPathGraphRow.domain false) (Rows.fnExactPathGraphSpec.post enc Try.prog Try.f7 false true false false) := by
  refine returnsInHanded_of_change (C := Try.checked) Try.own started (by kernel_rfl) Try.func7
    (ChangeSpec.witness6 (enc := enc) (C := Try.checked) false ⟨#[], #[.agg #[.slice none 0 0, .slice none 0 0], .slice none 0 0], []⟩ 8 (by kernel_rfl) (by kernel_rfl) (by kernel_rfl) (by kernel_rfl)) ?_
  intro W base args ds gs before hval0 hW hcnd _
  refine law_post (P := Try.prog) (tb := 4) (base := base) (G := GT) Try.laidOut rfl rfl Try.underlying4 (fun ds hd => by rw [Try.params7] at hd; match ds, hd with | [d0, d1], _ => exact ⟨rfl, rfl, rfl⟩) (fun W' => okWide_bool_mk Try.underlying4 true) kinds ?_ hval0 hW law_sat
  intro t ht
  rw [Try.params7] at ht
  simp only [List.mem_cons, List.not_mem_nil, or_false] at ht
  rcases ht with rfl | rfl
  all_goals exact ⟨by simp [GT], by kernel_rfl, of_decide_eq_true (by kernel_rfl)⟩
theorem andT {a b : Bool} (h1 : a = true) (h2 : b = true) : (a && b) = true := by rw [h1, h2]; rfl
set_option maxHeartbeats 4000000 in
theorem law_facts : joinedFacts Try.pinned.checked.prog 7 Try.f7 Rows.fnExactPathGraphSpec Rows.fnExactPathGraphRow = true := by
  unfold joinedFacts
  refine andT (andT (andT (andT (andT (andT (andT (andT (andT (andT (andT (andT (andT (andT (andT (andT (andT (andT (andT (andT (andT (andT (andT (andT (andT (andT (andT (andT (andT (andT (andT ?_ ?_) ?_) ?_) ?_) ?_) ?_) ?_) ?_) ?_) ?_) ?_) ?_) ?_) ?_) ?_) ?_) ?_) ?_) ?_) ?_) ?_) ?_) ?_) ?_) ?_) ?_) ?_) ?_) ?_) ?_) ?_
  all_goals as_aux_lemma => kernel_rfl
theorem law_holds : Rows.FnExactPathGraphSaid :=
  OpenClaim.holds_of_wide 7 Try.f7 rfl rfl rfl rfl rfl rfl rfl ⟨rfl, rfl, rfl, rfl, rfl⟩ rfl rfl rfl rfl rfl (by kernel_rfl) Try.func7 law_facts
    (of_decide_eq_true (by kernel_rfl)) (by unfold Func.isWrapper; first | (rw [if_pos (by decide +kernel)]; kernel_rfl) | (rw [if_neg (by decide +kernel)]; exact ⟨rfl, rfl⟩))
    (fun os started H enc _ => law_lifted os started H enc)
end Go.Proofs.Ytdmkceajaagpgaa
