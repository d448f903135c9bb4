/- A part of the proof: lemmas only; nothing is claimed here beyond what each lemma says. -/
import Derived.Test.YtdmkceajaagpgaaGxG
import Derived.Test.YtdmkceajaagpgaaAvS
set_option linter.unusedSimpArgs false
set_option linter.unusedVariables false
set_option linter.defProp false
set_option maxRecDepth 4000
namespace Go.Proofs.Ytdmkceajaagpgaa
open Go.Av
/-! Edges in order, by a table of levels -/
def code (e : SizeEdge) : Nat := e.From.toNat * 4 + e.To.toNat
theorem code_ok {e : SizeEdge} (h : edgeOk e = true) : (0 ≤ e.From ∧ e.From ≤ 3) ∧ 0 ≤ e.To ∧ e.To ≤ 3 := by
  simpa only [edgeOk, Bool.and_eq_true, inR_iff] using h
theorem code_inj {a b : SizeEdge} (ha : edgeOk a = true) (hb : edgeOk b = true) (h : code a = code b) : a.From = b.From ∧ a.To = b.To := by
  have h1 := code_ok ha
  have h2 := code_ok hb
  unfold code at h
  omega
theorem edge_ext {a b : SizeEdge} (h1 : a.From = b.From) (h2 : a.To = b.To) (h3 : a.Strict = b.Strict) : a = b := by
  cases a; cases b; simp only at h1 h2 h3; subst h1 h2 h3; rfl
def Rep (s : List SizeEdge) (f : Nat → Nat) : Prop := s.Pairwise (fun a b => code a < code b) ∧ (∀ k, f k ≤ 2) ∧ ∀ e, e ∈ s ↔ edgeOk e = true ∧ 0 < f (code e) ∧ e.Strict = decide (f (code e) = 2)
theorem rise_unique : ∀ {s t : List SizeEdge}, s.Pairwise (fun a b => code a < code b) → t.Pairwise (fun a b => code a < code b) → (∀ e, e ∈ s ↔ e ∈ t) → s = t
  | [], [], _, _, _ => rfl
  | [], b :: t, _, _, h => by have := (h b).2 (by simp); cases this
  | a :: s, [], _, _, h => by have := (h a).1 (by simp); cases this
  | a :: s, b :: t, hs, ht, h => by
    rw [List.pairwise_cons] at hs ht
    have e : a = b := by
      rcases List.mem_cons.1 ((h a).1 (by simp)) with e | ha
      · exact e
      rcases List.mem_cons.1 ((h b).2 (by simp)) with e | hb
      · exact e.symm
      have h1 := ht.1 a ha
      have h2 := hs.1 b hb
      omega
    subst e
    congr 1
    refine rise_unique hs.2 ht.2 (fun e => ⟨fun he => ?_, fun he => ?_⟩)
    · rcases List.mem_cons.1 ((h e).1 (by simp [he])) with rfl | h'
      · have := hs.1 e he; omega
      · exact h'
    · rcases List.mem_cons.1 ((h e).2 (by simp [he])) with rfl | h'
      · have := ht.1 e he; omega
      · exact h'
theorem Rep.unique {s t : List SizeEdge} {f : Nat → Nat} (hs : Rep s f) (ht : Rep t f) : s = t := rise_unique hs.1 ht.1 (fun e => by rw [hs.2.2, ht.2.2])
theorem Rep.congr {s : List SizeEdge} {f g : Nat → Nat} (hs : Rep s f) (h : ∀ k, k < 16 → f k = g k) (hg : ∀ k, g k ≤ 2) : Rep s g := by
  refine ⟨hs.1, hg, fun e => ?_⟩
  rw [hs.2.2]
  refine and_congr_right (fun he => ?_)
  rw [h (code e) (by have := code_ok he; unfold code; omega)]
theorem Rep.nil : Rep [] (fun _ => 0) := ⟨List.Pairwise.nil, fun _ => Nat.zero_le _, fun e => by simp⟩
def lv (b : Bool) : Nat := if b then 2 else 1
def updM (f : Nat → Nat) (c l : Nat) : Nat → Nat := fun k => if k = c then max (f k) l else f k
theorem updM_le {f : Nat → Nat} (h : ∀ k, f k ≤ 2) (c : Nat) (b : Bool) (k : Nat) : updM f c (lv b) k ≤ 2 := by
  unfold updM lv
  have := h k
  split <;> cases b <;> simp <;> omega
theorem Rep.new {pre suf : List SizeEdge} {f : Nat → Nat} {x : SizeEdge} (hr : Rep (pre ++ suf) f) (hx : edgeOk x = true) (h1 : ∀ e ∈ pre, code e < code x) (h2 : ∀ e ∈ suf, code x < code e) : Rep (pre ++ [x] ++ suf) (updM f (code x) (lv x.Strict)) := by
  obtain ⟨p1, p2, p3⟩ := hr
  have h0 : f (code x) = 0 := by
    have := p3 ⟨x.From, x.To, decide (f (code x) = 2)⟩
    have hc : code ⟨x.From, x.To, decide (f (code x) = 2)⟩ = code x := rfl
    rw [hc] at this
    have hnot : ¬ (⟨x.From, x.To, decide (f (code x) = 2)⟩ : SizeEdge) ∈ pre ++ suf := fun hm => by
      rcases List.mem_append.1 hm with hm | hm
      · have := h1 _ hm; rw [hc] at this; omega
      · have := h2 _ hm; rw [hc] at this; omega
    rw [this] at hnot
    have hpos : ¬ 0 < f (code x) := fun hp => hnot ⟨hx, hp, rfl⟩
    omega
  refine ⟨?_, updM_le p2 _ _, fun e => ?_⟩
  · rw [List.pairwise_append] at p1 ⊢
    refine ⟨List.pairwise_append.2 ⟨p1.1, List.pairwise_singleton _ _, fun a ha b hb => ?_⟩, p1.2.1, fun a ha b hb => ?_⟩
    · rw [List.mem_singleton] at hb; subst hb; exact h1 a ha
    · rcases List.mem_append.1 ha with ha | ha
      · exact p1.2.2 a ha b hb
      · rw [List.mem_singleton] at ha; subst ha; exact h2 b hb
  · by_cases hc : code e = code x
    · have hns : ¬ (e ∈ pre ∨ e ∈ suf) := fun hm => by
        rcases hm with hm | hm
        · have := h1 _ hm; omega
        · have := h2 _ hm; omega
      have : e ∈ pre ++ [x] ++ suf ↔ e = x := by
        simp only [List.mem_append, List.mem_singleton]
        constructor
        · rintro ((h | h) | h)
          · exact absurd (.inl h) hns
          · exact h
          · exact absurd (.inr h) hns
        · rintro h; exact .inl (.inr h)
      rw [this]
      unfold updM
      rw [if_pos hc, hc, h0]
      constructor
      · rintro rfl; refine ⟨hx, ?_, ?_⟩ <;> cases e.Strict <;> decide
      · rintro ⟨q1, _, q3⟩
        obtain ⟨q4, q5⟩ := code_inj q1 hx hc
        refine edge_ext q4 q5 (q3.trans ?_)
        cases x.Strict <;> decide
    · have : e ∈ pre ++ [x] ++ suf ↔ e ∈ pre ++ suf := by
        simp only [List.mem_append, List.mem_singleton]
        constructor
        · rintro ((h | h) | h)
          · exact .inl h
          · subst h; exact absurd rfl hc
          · exact .inr h
        · rintro (h | h)
          · exact .inl (.inl h)
          · exact .inr h
      rw [this, p3]
      unfold updM
      rw [if_neg hc]
theorem Rep.set {pre suf : List SizeEdge} {f : Nat → Nat} {y : SizeEdge} {b : Bool} (hr : Rep (pre ++ y :: suf) f) : Rep (pre ++ ⟨y.From, y.To, y.Strict || b⟩ :: suf) (updM f (code y) (lv b)) := by
  obtain ⟨p1, p2, p3⟩ := hr
  have hy := (p3 y).1 (by simp)
  have hc0 : code ⟨y.From, y.To, y.Strict || b⟩ = code y := rfl
  have hp := p1
  rw [List.pairwise_append, List.pairwise_cons] at p1
  refine ⟨?_, updM_le p2 _ _, fun e => ?_⟩
  · rw [List.pairwise_append, List.pairwise_cons]
    refine ⟨p1.1, ⟨fun a ha => ?_, p1.2.1.2⟩, fun a ha c hc => ?_⟩
    · rw [hc0]; exact p1.2.1.1 a ha
    · rcases List.mem_cons.1 hc with rfl | hc
      · rw [hc0]; exact p1.2.2 a ha y (by simp)
      · exact p1.2.2 a ha c (by simp [hc])
  · by_cases hc : code e = code y
    · have hns : ¬ (e ∈ pre ∨ e ∈ suf) := fun hm => by
        rcases hm with hm | hm
        · have := p1.2.2 e hm y (by simp); omega
        · have := p1.2.1.1 e hm; omega
      have : e ∈ pre ++ ⟨y.From, y.To, y.Strict || b⟩ :: suf ↔ e = ⟨y.From, y.To, y.Strict || b⟩ := by
        simp only [List.mem_append, List.mem_cons]
        constructor
        · rintro (h | h | h)
          · exact absurd (.inl h) hns
          · exact h
          · exact absurd (.inr h) hns
        · rintro h; exact .inr (.inl h)
      rw [this]
      unfold updM
      rw [if_pos hc, hc]
      have h2 := p2 (code y)
      have hpos := hy.2.1
      have key : (y.Strict || b) = decide (max (f (code y)) (lv b) = 2) := by
        rw [hy.2.2]
        unfold lv
        cases b
        · rw [Bool.or_false]; exact decide_eq_decide.2 (by simp; omega)
        · rw [Bool.or_true]; exact (decide_eq_true (by simp; omega)).symm
      constructor
      · rintro rfl; exact ⟨hy.1, by omega, key⟩
      · rintro ⟨q1, _, q3⟩
        obtain ⟨q4, q5⟩ := code_inj q1 hy.1 hc
        exact edge_ext q4 q5 (q3.trans key.symm)
    · have : e ∈ pre ++ ⟨y.From, y.To, y.Strict || b⟩ :: suf ↔ e ∈ pre ++ y :: suf := by
        simp only [List.mem_append, List.mem_cons]
        constructor
        · rintro (h | h | h)
          · exact .inl h
          · subst h; exact absurd rfl hc
          · exact .inr (.inr h)
        · rintro (h | h | h)
          · exact .inl h
          · subst h; exact absurd rfl hc
          · exact .inr (.inr h)
      rw [this, p3]
      unfold updM
      rw [if_neg hc]
/-! impl: the search and one step -/
theorem cmpE_lt {a b : SizeEdge} (ha : edgeOk a = true) (hb : edgeOk b = true) : (cmpE a b < 0 ↔ code a < code b) ∧ (cmpE a b = 0 ↔ code a = code b) := by
  have h1 := code_ok ha
  have h2 := code_ok hb
  unfold cmpE cmpI code
  constructor <;> (repeat' split) <;> constructor <;> intro h <;> omega
theorem Rep.ok {s : List SizeEdge} {f : Nat → Nat} (hr : Rep s f) : ∀ e ∈ s, edgeOk e = true := fun e he => ((hr.2.2 e).1 he).1
theorem Rep.rise {s : List SizeEdge} {f : Nat → Nat} (hr : Rep s f) {i j : Nat} (hij : i < j) (hj : j < s.length) : code (s.getD i default) < code (s.getD j default) := by
  have := List.pairwise_iff_getElem.1 hr.1 i j (by omega) hj hij
  simpa [List.getD, hj, show i < s.length by omega] using this
theorem search_ok {s : List SizeEdge} {f : Nat → Nat} (hr : Rep s f) (hlen : s.length ≤ 1000) {x : SizeEdge} (hx : edgeOk x = true) :
    ∃ p : Nat, p ≤ s.length ∧ slices_BinarySearchFunc_Simpl_SizeEdge_impl_SizeEdge_impl_SizeEdge s x (fun y0 y1 => impl_compareEdges y0 y1) = some ((p : Int), decide (p < s.length) && decide (code (s.getD p default) = code x)) ∧
      (∀ k, k < p → code (s.getD k default) < code x) ∧ (∀ k, p ≤ k → k < s.length → code x ≤ code (s.getD k default)) := by
  have hok : ∀ i, i < s.length → edgeOk (s.getD i default) = true := fun i hi => hr.ok _ (getD_mem hi)
  unfold slices_BinarySearchFunc_Simpl_SizeEdge_impl_SizeEdge_impl_SizeEdge
  obtain ⟨p, g1, g2, g3, g4⟩ := bs_loop (ρ := Int × Bool) (q := fun i => decide (code (s.getD i default) < code x)) (N := s.length) (by omega) (fun i j h1 h2 h3 => by
      have := hr.rise h1 h2
      rw [decide_eq_true_iff] at h3 ⊢
      omega)
    (f := fun s3 => bif decide (s3.1 < s3.2) then
      Option.bind (shr .u64 (IntKind.u64.wrap (IntKind.i64.wrap (s3.1 + s3.2))) (1 : Int)) fun v22 =>
      Option.bind (idx s (IntKind.i64.wrap v22)) fun v27 =>
      Option.bind (impl_compareEdges v27 x) fun v30 =>
      bif decide (v30 < (0 : Int)) then
        some (.nx (IntKind.i64.wrap ((IntKind.i64.wrap v22) + (1 : Int)), s3.2))
      else
        some (.nx (s3.1, IntKind.i64.wrap v22))
    else
      some (.br s3))
    (fun i j h1 h2 => by
      simp only
      rw [decide_eq_true (by omega), cond_true, bs_mid (by omega), Option.bind_some]
      have e : IntKind.i64.wrap (((i + j) / 2 : Nat) : Int) = (((i + j) / 2 : Nat) : Int) := by rw [wrap64] <;> omega
      rw [e, idx_getD (by omega), Option.bind_some, compareEdges_eq, Option.bind_some]
      have e2 : IntKind.i64.wrap ((((i + j) / 2 : Nat) : Int) + 1) = (((i + j) / 2 + 1 : Nat) : Int) := by rw [wrap64] <;> omega
      rw [e2, show decide (cmpE (s.getD ((i + j) / 2) default) x < 0) = decide (code (s.getD ((i + j) / 2) default) < code x) from decide_eq_decide.2 (cmpE_lt (hok _ (by omega)) hx).1]
      cases decide (code (s.getD ((i + j) / 2) default) < code x) <;> rfl)
    (fun i => by simp only; rw [decide_eq_false (by omega)]; rfl)
  refine ⟨p, g1, ?_, fun k hk => of_decide_eq_true (g3 k hk), fun k h1 h2 => by have := of_decide_eq_false (g4 k h1 h2); omega⟩
  rw [g2, thenL_inr]
  by_cases hp : p < s.length
  · simp only
    rw [decide_eq_true (show (p : Int) < (s.length : Int) by omega), cond_true, idx_getD hp, Option.bind_some, decide_eq_true hp, Bool.true_and, compareEdges_eq, Option.bind_some]
    rw [show decide (cmpE (s.getD p default) x = 0) = decide (code (s.getD p default) = code x) from decide_eq_decide.2 (cmpE_lt (hok _ hp) hx).2]
  · simp only
    rw [decide_eq_false (show ¬ (p : Int) < (s.length : Int) by omega), decide_eq_false hp]; rfl
noncomputable def stepI (s6 : List SizeEdge) (x : SizeEdge) : Option (List SizeEdge) :=
  Option.bind (slices_BinarySearchFunc_Simpl_SizeEdge_impl_SizeEdge_impl_SizeEdge s6 x (fun y0 y1 => impl_compareEdges y0 y1)) fun v52 =>
  bif v52.2 then
    Option.bind (idx s6 v52.1) fun w7 =>
    some (s6.set v52.1.toNat (SizeEdge.mk w7.From w7.To (w7.Strict || x.Strict)))
  else
    slices_InsertE s6 v52.1 [x]
theorem stepI_ok {s : List SizeEdge} {f : Nat → Nat} (hr : Rep s f) (hlen : s.length ≤ 1000) {x : SizeEdge} (hx : edgeOk x = true) : ∃ s', stepI s x = some s' ∧ Rep s' (updM f (code x) (lv x.Strict)) ∧ s'.length ≤ s.length + 1 := by
  obtain ⟨p, h1, h2, h3, h4⟩ := search_ok hr hlen hx
  unfold stepI
  rw [h2, Option.bind_some]
  have hsp : s.take p ++ s.drop p = s := List.take_append_drop p s
  have htake : ∀ e ∈ s.take p, code e < code x := fun e he => by
    obtain ⟨k, hk, rfl⟩ := List.mem_iff_getElem.1 he
    rw [List.length_take] at hk
    have := h3 k (by omega)
    simpa [List.getD, show k < s.length by omega] using this
  by_cases hp : p < s.length
  · have hdrop : s.drop p = s.getD p default :: s.drop (p + 1) := drop_getD hp
    by_cases hc : code (s.getD p default) = code x
    · rw [decide_eq_true hp, decide_eq_true hc]
      simp only [Bool.and_self, cond_true]
      rw [idx_getD hp, Option.bind_some, Int.toNat_natCast]
      refine ⟨_, rfl, ?_, by rw [List.length_set]; omega⟩
      rw [← hsp, hdrop] at hr
      have := Rep.set (b := x.Strict) hr
      rw [hc] at this
      have e : s.set p ⟨(s.getD p default).From, (s.getD p default).To, (s.getD p default).Strict || x.Strict⟩ = s.take p ++ ⟨(s.getD p default).From, (s.getD p default).To, (s.getD p default).Strict || x.Strict⟩ :: s.drop (p + 1) := List.set_eq_take_append_cons_drop.trans (if_pos hp)
      rw [e]
      exact this
    · rw [decide_eq_true hp, decide_eq_false hc]
      simp only [Bool.and_false, cond_false]
      unfold slices_InsertE
      rw [if_pos ⟨by omega, by omega, rfl, by omega⟩, Int.toNat_natCast]
      refine ⟨_, rfl, ?_, by simp only [List.length_append, List.length_take, List.length_drop, List.length_cons, List.length_nil]; omega⟩
      refine Rep.new (by rw [hsp]; exact hr) hx htake (fun e he => ?_)
      obtain ⟨k, hk, rfl⟩ := List.mem_iff_getElem.1 he
      rw [List.length_drop] at hk
      have g1 := h4 (p + k) (by omega) (by omega)
      have g2 : s.getD (p + k) default = (s.drop p)[k] := by simp [List.getD, show p + k < s.length by omega]
      rw [g2] at g1
      by_cases hk0 : k = 0
      · subst hk0
        have g3 : (s.drop p)[0] = s.getD p default := by simp [List.getD, hp]
        rw [g3] at g1 ⊢
        omega
      · have := hr.rise (i := p) (j := p + k) (by omega) (by omega)
        rw [g2] at this
        have := h4 p (Nat.le_refl _) hp
        omega
  · have hpe : p = s.length := by omega
    rw [decide_eq_false hp]
    simp only [Bool.false_and, cond_false]
    unfold slices_InsertE
    rw [if_pos ⟨by omega, by omega, rfl, by omega⟩, Int.toNat_natCast]
    refine ⟨_, rfl, ?_, by simp only [List.length_append, List.length_take, List.length_drop, List.length_cons, List.length_nil]; omega⟩
    refine Rep.new (by rw [hsp]; exact hr) hx htake (fun e he => ?_)
    rw [List.drop_of_length_le (by omega)] at he
    cases he
theorem rise_len : ∀ (s : List SizeEdge) (lo : Nat), lo ≤ 16 → s.Pairwise (fun a b => code a < code b) → (∀ e ∈ s, lo ≤ code e ∧ code e < 16) → s.length + lo ≤ 16
  | [], lo, h, _, _ => by simpa using h
  | a :: s, lo, h, hp, hb => by
    rw [List.pairwise_cons] at hp
    have ha := hb a (by simp)
    have := rise_len s (code a + 1) (by omega) hp.2 (fun e he => ⟨hp.1 e he, (hb e (by simp [he])).2⟩)
    rw [List.length_cons]; omega
theorem Rep.len {s : List SizeEdge} {f : Nat → Nat} (hr : Rep s f) : s.length ≤ 16 := by
  have := rise_len s 0 (by omega) hr.1 (fun e he => by have := code_ok (hr.ok e he); unfold code; omega)
  omega
def midE (e g : SizeEdge) : SizeEdge := ⟨e.From, g.To, e.Strict || g.Strict⟩
def stepF (e : SizeEdge) (f : Nat → Nat) (g : SizeEdge) : Nat → Nat := if e.To = g.From then updM f (code (midE e g)) (lv (e.Strict || g.Strict)) else f
theorem mid_ok {e g : SizeEdge} (he : edgeOk e = true) (hg : edgeOk g = true) : edgeOk (midE e g) = true := by
  simp only [edgeOk, Bool.and_eq_true] at he hg ⊢
  exact ⟨he.1, hg.2⟩
noncomputable def bodyI (e : SizeEdge) (ρ : Type) (_ : Nat) (g : SizeEdge) (s : List SizeEdge) : Option (Flow ρ (List SizeEdge)) :=
  bif decide (e.To = g.From) then Option.bind (stepI s (midE e g)) fun v => some (.nx v) else some (.nx s)
theorem inner_fold (e : SizeEdge) (he : edgeOk e = true) (ρ : Type) : ∀ (l : List SizeEdge) (i : Nat) (s : List SizeEdge) (f : Nat → Nat), Rep s f → (∀ g ∈ l, edgeOk g = true) → ∃ s', forL (bodyI e ρ) l i s = some (.inr s') ∧ Rep s' (l.foldl (stepF e) f)
  | [], i, s, f, hr, _ => ⟨s, rfl, hr⟩
  | g :: l, i, s, f, hr, hl => by
    rw [List.foldl_cons]
    by_cases h : e.To = g.From
    · obtain ⟨s', h1, h2, _⟩ := stepI_ok hr (by have := hr.len; omega) (mid_ok he (hl g (by simp)))
      rw [forL_nx (s' := s') (by unfold bodyI; rw [decide_eq_true h, cond_true, h1]; rfl)]
      refine inner_fold e he ρ l (i + 1) s' _ ?_ (fun b hb => hl b (by simp [hb]))
      unfold stepF; rw [if_pos h]; exact h2
    · rw [forL_nx (s' := s) (by unfold bodyI; rw [decide_eq_false h]; rfl)]
      refine inner_fold e he ρ l (i + 1) s _ ?_ (fun b hb => hl b (by simp [hb]))
      unfold stepF; rw [if_neg h]; exact hr
theorem outer_fold (E2 : List SizeEdge) (h2 : ∀ g ∈ E2, edgeOk g = true) (ρ : Type) : ∀ (l : List SizeEdge) (i : Nat) (s : List SizeEdge) (f : Nat → Nat), Rep s f → (∀ g ∈ l, edgeOk g = true) →
    ∃ s', forL (fun _ e s => thenL (ρ := Flow ρ (List SizeEdge)) (forL (bodyI e _) E2 0 s) fun s => some (.nx s)) l i s = some (.inr s') ∧ Rep s' (l.foldl (fun f e => E2.foldl (stepF e) f) f)
  | [], i, s, f, hr, _ => ⟨s, rfl, hr⟩
  | e :: l, i, s, f, hr, hl => by
    obtain ⟨s', g1, g2⟩ := inner_fold e (hl e (by simp)) (Flow ρ (List SizeEdge)) E2 0 s f hr h2
    rw [List.foldl_cons, forL_nx (s' := s') (by simp only [g1]; rfl)]
    exact outer_fold E2 h2 ρ l (i + 1) s' _ g2 (fun b hb => hl b (by simp [hb]))
theorem impl_compose_ok (a b : SizeGraph) (ha : ∀ e ∈ a.Edges, edgeOk e = true) (hb : ∀ e ∈ b.Edges, edgeOk e = true) : ∃ s, impl_compose a b = some ⟨a.Source, b.Target, s⟩ ∧ Rep s (a.Edges.foldl (fun f e => b.Edges.foldl (stepF e) f) (fun _ => 0)) := by
  obtain ⟨s, h1, h2⟩ := outer_fold b.Edges hb SizeGraph a.Edges 0 [] _ Rep.nil ha
  refine ⟨s, ?_, h2⟩
  unfold impl_compose
  rw [forN_forL _ (fun _ e s => thenL (ρ := Flow SizeGraph (List SizeEdge)) (forL (bodyI e _) b.Edges 0 s) fun s => some (.nx s)) a.Edges 0 [] (fun j e s he => ?_), h1]
  · rfl
  simp only [Nat.zero_add, idx_nat, he, Option.bind_some]
  congr 1
  refine forN_forL _ _ b.Edges 0 s (fun k g s hg => ?_)
  simp only [Nat.zero_add, idx_nat, hg, Option.bind_some]
  unfold bodyI
  cases decide (e.To = g.From)
  · rfl
  have key : ∀ x : SizeEdge, (Option.bind (slices_BinarySearchFunc_Simpl_SizeEdge_impl_SizeEdge_impl_SizeEdge s x (fun y0 y1 => impl_compareEdges y0 y1)) fun v52 =>
          bif v52.2 then
            Option.bind (idx s v52.1) fun v62 =>
            Option.bind (idx s v52.1) fun v64 =>
            bif v64.Strict then
              Option.bind (idx s v52.1) fun v69 =>
              Option.bind (idx s v52.1) fun w7 =>
              some (.nx (s.set v52.1.toNat (SizeEdge.mk w7.From w7.To true)))
            else
              Option.bind (idx s v52.1) fun v69 =>
              Option.bind (idx s v52.1) fun w8 =>
              some (.nx (s.set v52.1.toNat (SizeEdge.mk w8.From w8.To x.Strict)))
          else
            Option.bind (slices_InsertE s v52.1 [x]) fun v76 =>
            some (.nx v76)) = Option.bind (stepI s x) fun v => some (Flow.nx (ρ := Flow SizeGraph (List SizeEdge)) v) := by
    intro x
    unfold stepI
    cases slices_BinarySearchFunc_Simpl_SizeEdge_impl_SizeEdge_impl_SizeEdge s x (fun y0 y1 => impl_compareEdges y0 y1) with
    | none => rfl
    | some v =>
      simp only [Option.bind_some]
      cases v.2
      · rfl
      · simp only [cond_true]
        cases idx s v.1 with
        | none => rfl
        | some w =>
          simp only [Option.bind_some]
          cases w.Strict <;> rfl
  simp only [cond_true]
  unfold midE
  cases e.Strict
  · simp only [cond_false, Bool.false_or]; exact key ⟨e.From, g.To, g.Strict⟩
  · simp only [cond_true, Bool.true_or]; exact key ⟨e.From, g.To, true⟩
/-! spec: levels -/
def tabF (E : List SizeEdge) (i k : Nat) : Nat := match E.find? (fun e => decide (e.From = (i : Int)) && decide (e.To = (k : Int))) with
  | some e => lv e.Strict
  | none => 0
theorem lv_le (b : Bool) : lv b ≤ 2 ∧ 1 ≤ lv b := by cases b <;> decide
theorem tabF_le (E : List SizeEdge) (i k : Nat) : tabF E i k ≤ 2 := by
  unfold tabF
  split
  · exact (lv_le _).1
  · omega
theorem find_loop (p : SizeEdge → Bool) (q : SizeEdge → Nat) : ∀ (l : List SizeEdge) (i : Nat), thenL (ρ := Int) (σ := Unit) (forL (fun _ e _ => bif p e then some (.rt ((q e : Nat) : Int)) else some (.nx ())) l i ()) (fun _ => some (0 : Int)) = some (((match l.find? p with | some e => q e | none => 0 : Nat)) : Int)
  | [], i => rfl
  | e :: l, i => by
    cases h : p e
    · rw [forL_nx (s' := ()) (by rw [h]; rfl), find_loop p q l (i + 1), List.find?_cons_of_neg (by rw [h]; simp)]
    · rw [forL_rt (r := ((q e : Nat) : Int)) (by rw [h]; rfl), thenL_inl, List.find?_cons_of_pos (by rw [h])]
theorem level_ok (a : SizeGraph) (i k : Nat) : spec_l24Level a (i : Int) (k : Int) = some ((tabF a.Edges i k : Nat) : Int) := by
  unfold spec_l24Level
  rw [forN_forL _ (fun _ e _ => bif (decide (e.From = (i : Int)) && decide (e.To = (k : Int))) then some (.rt ((lv e.Strict : Nat) : Int)) else some (.nx ())) a.Edges 0 () (fun j e s he => ?_), find_loop (fun e => decide (e.From = (i : Int)) && decide (e.To = (k : Int))) (fun e => lv e.Strict)]
  · rfl
  simp only [Nat.zero_add, idx_nat, he, Option.bind_some]
  cases decide (e.From = (i : Int)) <;> cases decide (e.To = (k : Int)) <;> cases e.Strict <;> rfl
theorem rise_inj {s : List SizeEdge} (hp : s.Pairwise (fun a b => code a < code b)) {a b : SizeEdge} (ha : a ∈ s) (hb : b ∈ s) (h : code a = code b) : a = b := by
  obtain ⟨i, hi, rfl⟩ := List.mem_iff_getElem.1 ha
  obtain ⟨j, hj, rfl⟩ := List.mem_iff_getElem.1 hb
  rw [List.pairwise_iff_getElem] at hp
  rcases Nat.lt_trichotomy i j with hij | rfl | hij
  · have := hp i j hi hj hij; omega
  · rfl
  · have := hp j i hj hi hij; omega
theorem code_div {e : SizeEdge} (h : edgeOk e = true) : code e / 4 = e.From.toNat ∧ code e % 4 = e.To.toNat := by
  have := code_ok h
  unfold code
  omega
theorem tab_some {E : List SizeEdge} {i k : Nat} (h : 0 < tabF E i k) : ∃ e ∈ E, e.From = (i : Int) ∧ e.To = (k : Int) ∧ tabF E i k = lv e.Strict := by
  unfold tabF at h ⊢
  cases hf : E.find? (fun e => decide (e.From = (i : Int)) && decide (e.To = (k : Int))) with
  | none => rw [hf] at h; simp at h
  | some e =>
    have h1 := List.find?_some hf
    rw [Bool.and_eq_true, decide_eq_true_iff, decide_eq_true_iff] at h1
    exact ⟨e, List.mem_of_find?_eq_some hf, h1.1, h1.2, rfl⟩
theorem tab_mem {E : List SizeEdge} (hp : E.Pairwise (fun a b => code a < code b)) {e : SizeEdge} (he : e ∈ E) (hok : edgeOk e = true) : tabF E e.From.toNat e.To.toNat = lv e.Strict := by
  have hc := code_ok hok
  unfold tabF
  cases hf : E.find? (fun x => decide (x.From = ((e.From.toNat : Nat) : Int)) && decide (x.To = ((e.To.toNat : Nat) : Int))) with
  | none =>
    have := List.find?_eq_none.1 hf e he
    rw [Bool.and_eq_true, decide_eq_true_iff, decide_eq_true_iff] at this
    exact absurd ⟨by omega, by omega⟩ this
  | some x =>
    have h1 := List.find?_some hf
    rw [Bool.and_eq_true, decide_eq_true_iff, decide_eq_true_iff] at h1
    have : x = e := rise_inj hp (List.mem_of_find?_eq_some hf) he (by unfold code; rw [h1.1, h1.2]; omega)
    rw [this]
theorem valid_rise {g : SizeGraph} (h : validG g = true) : (∀ e ∈ g.Edges, edgeOk e = true) ∧ g.Edges.Pairwise (fun a b => code a < code b) := by
  unfold validG at h
  rw [Bool.and_eq_true, List.all_eq_true] at h
  have h2 : ∀ i, i < g.Edges.length → edgeC g.Edges i = true := fun i hi => h.2 i (by simpa using hi)
  have hok : ∀ i, i < g.Edges.length → edgeOk (g.Edges.getD i default) = true := fun i hi => by
    have := h2 i hi
    unfold edgeC at this
    rw [Bool.and_eq_true] at this
    exact this.1
  have hadj : ∀ i, i + 1 < g.Edges.length → code (g.Edges.getD i default) < code (g.Edges.getD (i + 1) default) := fun i hi => by
    have := h2 (i + 1) hi
    unfold edgeC at this
    rw [Bool.and_eq_true, Bool.or_eq_true, decide_eq_true_iff, decide_eq_true_iff] at this
    rcases this.2 with h' | h'
    · omega
    · exact (cmpE_lt (hok i (by omega)) (hok (i + 1) hi)).1.1 (by simpa using h')
  have hall : ∀ d i, i + d + 1 < g.Edges.length → code (g.Edges.getD i default) < code (g.Edges.getD (i + d + 1) default) := fun d => by
    induction d with
    | zero => exact fun i hi => hadj i hi
    | succ d ih => exact fun i hi => Nat.lt_trans (ih i (by omega)) (hadj (i + d + 1) (by omega))
  refine ⟨fun e he => ?_, ?_⟩
  · obtain ⟨i, hi, rfl⟩ := List.mem_iff_getElem.1 he
    have := hok i hi
    simpa [List.getD, hi] using this
  · rw [List.pairwise_iff_getElem]
    intro i j hi hj hij
    have := hall (j - i - 1) i (by omega)
    rw [show i + (j - i - 1) + 1 = j by omega] at this
    simpa [List.getD, hi, hj] using this
def foldN (A B : Nat → Nat) : Nat → Nat → Nat → Nat
  | 0, _, acc => acc
  | n + 1, m, acc => foldN A B n (m + 1) (if 0 < A m ∧ 0 < B m then max acc (max (A m) (B m)) else acc)
theorem foldN_le (A B : Nat → Nat) (hA : ∀ k, A k ≤ 2) (hB : ∀ k, B k ≤ 2) : ∀ n m acc, acc ≤ 2 → foldN A B n m acc ≤ 2
  | 0, m, acc, h => h
  | n + 1, m, acc, h => by
    unfold foldN
    refine foldN_le A B hA hB n (m + 1) _ ?_
    have := hA m
    have := hB m
    split <;> omega
theorem foldN_iff (A B : Nat → Nat) (v : Nat) : ∀ n m acc, v ≤ foldN A B n m acc ↔ v ≤ acc ∨ ∃ k, m ≤ k ∧ k < m + n ∧ 0 < A k ∧ 0 < B k ∧ v ≤ max (A k) (B k)
  | 0, m, acc => by
    unfold foldN
    constructor
    · exact .inl
    · rintro (h | ⟨k, h1, h2, _⟩)
      · exact h
      · omega
  | n + 1, m, acc => by
    unfold foldN
    rw [foldN_iff A B v n (m + 1)]
    constructor
    · rintro (h | ⟨k, h1, h2, h3⟩)
      · split at h
        · rename_i hh
          by_cases hv : v ≤ acc
          · exact .inl hv
          · exact .inr ⟨m, by omega, by omega, hh.1, hh.2, by omega⟩
        · exact .inl h
      · exact .inr ⟨k, by omega, by omega, h3⟩
    · rintro (h | ⟨k, h1, h2, h3, h4, h5⟩)
      · left; split <;> omega
      · by_cases hk : k = m
        · subst hk; left; rw [if_pos ⟨h3, h4⟩]; omega
        · exact .inr ⟨k, by omega, by omega, h3, h4, h5⟩
theorem Most_eqI (a b : Int) : spec_l1Most a b = some (max a b) := by
  unfold spec_l1Most
  by_cases h : b < a
  · rw [decide_eq_true h, cond_true]; congr 1; omega
  · rw [decide_eq_false h, cond_false]; congr 1; omega
theorem mid_loop {ρ : Type} (A B : Nat → Nat) (f : Nat → Int → Option (Flow ρ Int)) (hf : ∀ m s, f m s = bif decide ((0 : Int) < (A m : Int)) then (bif decide ((0 : Int) < (B m : Int)) then Option.bind (spec_l1Most (A m : Int) (B m : Int)) fun v47 => Option.bind (spec_l1Most s v47) fun v48 => some (.nx v48) else some (.nx s)) else some (.nx s)) :
    ∀ (n m acc : Nat), forN f n m (acc : Int) = some (.inr ((foldN A B n m acc : Nat) : Int))
  | 0, m, acc => rfl
  | n + 1, m, acc => by
    unfold foldN
    rw [forN_nx (s' := (((if 0 < A m ∧ 0 < B m then max acc (max (A m) (B m)) else acc) : Nat) : Int)) ?_]
    · exact mid_loop A B f hf n (m + 1) _
    · rw [hf]
      by_cases h1 : 0 < A m
      · rw [decide_eq_true (by omega), cond_true]
        by_cases h2 : 0 < B m
        · rw [decide_eq_true (by omega), cond_true, if_pos ⟨h1, h2⟩, Most_eqI, Option.bind_some, Most_eqI, Option.bind_some]
          congr 2; omega
        · rw [decide_eq_false (by omega), cond_false, if_neg (fun h => h2 h.2)]
      · rw [decide_eq_false (by omega), cond_false, if_neg (fun h => h1 h.1)]
def topT (E1 E2 : List SizeEdge) (c : Nat) : Nat := foldN (fun m => tabF E1 (c / 4) m) (fun m => tabF E2 m (c % 4)) 4 0 0
def cutT (T : Nat → Nat) (m : Nat) : Nat → Nat := fun c => if c < m then T c else 0
theorem topT_le (E1 E2 : List SizeEdge) (c : Nat) : topT E1 E2 c ≤ 2 := foldN_le _ _ (fun _ => tabF_le _ _ _) (fun _ => tabF_le _ _ _) 4 0 0 (by omega)
theorem cutT_le {T : Nat → Nat} (h : ∀ c, T c ≤ 2) (m c : Nat) : cutT T m c ≤ 2 := by
  unfold cutT
  have := h c
  split <;> omega
theorem put_ok {T : Nat → Nat} (hT : ∀ c, T c ≤ 2) {s : List SizeEdge} {i j : Nat} (hi : i < 4) (hj : j < 4) (hr : Rep s (cutT T (i * 4 + j))) :
    (0 < T (i * 4 + j) → Rep (s ++ [⟨(i : Int), (j : Int), decide (T (i * 4 + j) = 2)⟩]) (cutT T (i * 4 + j + 1))) ∧ (¬ 0 < T (i * 4 + j) → Rep s (cutT T (i * 4 + j + 1))) := by
  have h2 := hT (i * 4 + j)
  constructor
  · intro h
    have hc : code ⟨(i : Int), (j : Int), decide (T (i * 4 + j) = 2)⟩ = i * 4 + j := by unfold code; simp only [Int.toNat_natCast]
    have := Rep.new (pre := s) (suf := []) (f := cutT T (i * 4 + j)) (x := ⟨(i : Int), (j : Int), decide (T (i * 4 + j) = 2)⟩) (by rw [List.append_nil]; exact hr) (by
      simp only [edgeOk, Bool.and_eq_true, inR_iff]; omega) (fun e he => by
        have := ((hr.2.2 e).1 he).2.1
        unfold cutT at this
        rw [hc]
        split at this
        · assumption
        · omega) (fun e he => by cases he)
    rw [List.append_nil, hc] at this
    refine this.congr (fun k hk => ?_) (cutT_le hT _)
    unfold updM cutT
    by_cases hk' : k = i * 4 + j
    · subst hk'
      rw [if_pos rfl, if_neg (by omega), if_pos (by omega)]
      unfold lv
      by_cases ht : T (i * 4 + j) = 2
      · rw [decide_eq_true ht]; simp; omega
      · rw [decide_eq_false ht]; simp; omega
    · rw [if_neg hk']
      by_cases hlt : k < i * 4 + j
      · rw [if_pos hlt, if_pos (by omega)]
      · rw [if_neg hlt, if_neg (by omega)]
  · intro h
    refine hr.congr (fun k hk => ?_) (cutT_le hT _)
    unfold cutT
    by_cases hk' : k = i * 4 + j
    · subst hk'
      rw [if_neg (by omega), if_pos (by omega)]; omega
    · by_cases hlt : k < i * 4 + j
      · rw [if_pos hlt, if_pos (by omega)]
      · rw [if_neg hlt, if_neg (by omega)]
theorem row_loop {ρ : Type} {T : Nat → Nat} (hT : ∀ c, T c ≤ 2) (i : Nat) (hi : i < 4) (f : Nat → List SizeEdge → Option (Flow ρ (List SizeEdge)))
    (hf : ∀ j s, j < 4 → f j s = bif decide ((0 : Int) < ((T (i * 4 + j) : Nat) : Int)) then (Option.bind (app s ([(SizeEdge.mk (i : Int) (j : Int) (decide (((T (i * 4 + j) : Nat) : Int) = (2 : Int))))])) fun v59 => some (.nx v59)) else some (.nx s)) :
    ∀ (n j : Nat) (s : List SizeEdge), j + n = 4 → Rep s (cutT T (i * 4 + j)) → ∃ s', forN f n j s = some (.inr s') ∧ Rep s' (cutT T (i * 4 + 4))
  | 0, j, s, hj, hr => ⟨s, rfl, by rw [show i * 4 + 4 = i * 4 + j by omega]; exact hr⟩
  | n + 1, j, s, hj, hr => by
    obtain ⟨h1, h2⟩ := put_ok hT hi (show j < 4 by omega) hr
    have hl := hr.len
    by_cases h : 0 < T (i * 4 + j)
    · rw [forN_nx (s' := s ++ [⟨(i : Int), (j : Int), decide (T (i * 4 + j) = 2)⟩]) ?_]
      · exact row_loop hT i hi f hf n (j + 1) _ (by omega) (h1 h)
      · rw [hf j s (by omega), decide_eq_true (by omega), cond_true, show decide (((T (i * 4 + j) : Nat) : Int) = (2 : Int)) = decide (T (i * 4 + j) = 2) from decide_eq_decide.2 (by omega)]
        unfold app
        rw [if_pos (by simp only [List.length_cons, List.length_nil]; omega)]; rfl
    · rw [forN_nx (s' := s) (by rw [hf j s (by omega), decide_eq_false (by omega)]; rfl)]
      exact row_loop hT i hi f hf n (j + 1) _ (by omega) (h2 h)
theorem all_loop {ρ : Type} {T : Nat → Nat} (f : Nat → List SizeEdge → Option (Flow ρ (List SizeEdge))) (hf : ∀ i s, i < 4 → Rep s (cutT T (i * 4)) → ∃ s', f i s = some (.nx s') ∧ Rep s' (cutT T ((i + 1) * 4))) :
    ∀ (n i : Nat) (s : List SizeEdge), i + n = 4 → Rep s (cutT T (i * 4)) → ∃ s', forN f n i s = some (.inr s') ∧ Rep s' (cutT T 16)
  | 0, i, s, hi, hr => ⟨s, rfl, by rw [show 16 = i * 4 by omega]; exact hr⟩
  | n + 1, i, s, hi, hr => by
    obtain ⟨s', h1, h2⟩ := hf i s (by omega) hr
    rw [forN_nx h1]
    exact all_loop f hf n (i + 1) s' (by omega) h2
theorem spec_compose_ok (a b : SizeGraph) : ∃ s, spec_l24Compose a b = some ⟨a.Source, b.Target, s⟩ ∧ Rep s (cutT (topT a.Edges b.Edges) 16) := by
  have hT := topT_le a.Edges b.Edges
  obtain ⟨s, h1, h2⟩ := all_loop (ρ := SizeGraph) (T := topT a.Edges b.Edges) (fun (i3 : Nat) (s3 : (List SizeEdge)) =>
    thenL (ρ := (Flow SizeGraph (List SizeEdge))) (σ := (List SizeEdge)) (forN (fun (i6 : Nat) (s6 : (List SizeEdge)) =>
      thenL (ρ := (Flow (Flow SizeGraph (List SizeEdge)) (List SizeEdge))) (σ := Int) (forN (fun (i10 : Nat) (s10 : Int) =>
        Option.bind (spec_l24Level a (i3 : Int) (i10 : Int)) fun v33 =>
        Option.bind (spec_l24Level b (i10 : Int) (i6 : Int)) fun v37 =>
        bif decide ((0 : Int) < v33) then
          bif decide ((0 : Int) < v37) then
            Option.bind (spec_l1Most v33 v37) fun v47 =>
            Option.bind (spec_l1Most s10 v47) fun v48 =>
            some (.nx v48)
          else
            some (.nx s10)
        else
          some (.nx s10)) 4 0 (0 : Int)) fun s10 =>
      bif decide ((0 : Int) < s10) then
        Option.bind (app s6 ([(SizeEdge.mk (i3 : Int) (i6 : Int) (decide (s10 = (2 : Int))))])) fun v59 =>
        some (.nx v59)
      else
        some (.nx s6)) 4 0 s3) fun s6 =>
    some (.nx s6)) (fun i s hi hr => by
      obtain ⟨s', g1, g2⟩ := row_loop (ρ := Flow SizeGraph (List SizeEdge)) hT i hi (fun (i6 : Nat) (s6 : (List SizeEdge)) =>
      thenL (ρ := (Flow (Flow SizeGraph (List SizeEdge)) (List SizeEdge))) (σ := Int) (forN (fun (i10 : Nat) (s10 : Int) =>
        Option.bind (spec_l24Level a (i : Int) (i10 : Int)) fun v33 =>
        Option.bind (spec_l24Level b (i10 : Int) (i6 : Int)) fun v37 =>
        bif decide ((0 : Int) < v33) then
          bif decide ((0 : Int) < v37) then
            Option.bind (spec_l1Most v33 v37) fun v47 =>
            Option.bind (spec_l1Most s10 v47) fun v48 =>
            some (.nx v48)
          else
            some (.nx s10)
        else
          some (.nx s10)) 4 0 (0 : Int)) fun s10 =>
      bif decide ((0 : Int) < s10) then
        Option.bind (app s6 ([(SizeEdge.mk (i : Int) (i6 : Int) (decide (s10 = (2 : Int))))])) fun v59 =>
        some (.nx v59)
      else
        some (.nx s6)) (fun j s hj => by
        have hm := mid_loop (ρ := Flow (Flow SizeGraph (List SizeEdge)) (List SizeEdge)) (fun m => tabF a.Edges i m) (fun m => tabF b.Edges m j) (fun (i10 : Nat) (s10 : Int) =>
        Option.bind (spec_l24Level a (i : Int) (i10 : Int)) fun v33 =>
        Option.bind (spec_l24Level b (i10 : Int) (j : Int)) fun v37 =>
        bif decide ((0 : Int) < v33) then
          bif decide ((0 : Int) < v37) then
            Option.bind (spec_l1Most v33 v37) fun v47 =>
            Option.bind (spec_l1Most s10 v47) fun v48 =>
            some (.nx v48)
          else
            some (.nx s10)
        else
          some (.nx s10)) (fun m s => by rw [level_ok, level_ok]; rfl) 4 0 0
        refine (congrArg (fun x => thenL x _) hm).trans ?_
        rw [thenL_inr]
        have e : topT a.Edges b.Edges (i * 4 + j) = foldN (fun m => tabF a.Edges i m) (fun m => tabF b.Edges m j) 4 0 0 := by
          unfold topT
          rw [show (i * 4 + j) / 4 = i by omega, show (i * 4 + j) % 4 = j by omega]
        rw [e]) 4 0 s (by omega) hr
      refine ⟨s', by rw [g1]; rfl, ?_⟩
      rw [show (i + 1) * 4 = i * 4 + 4 by omega]; exact g2) 4 0 [] (by omega) (Rep.nil.congr (fun k hk => by unfold cutT; rw [if_neg (by omega)]) (cutT_le hT _))
  exact ⟨s, by unfold spec_l24Compose; rw [h1]; rfl, h2⟩
/-! both -/
theorem inner_iff (e : SizeEdge) (c v : Nat) : ∀ (l : List SizeEdge) (f : Nat → Nat), v ≤ (l.foldl (stepF e) f) c ↔ v ≤ f c ∨ ∃ g ∈ l, e.To = g.From ∧ code (midE e g) = c ∧ v ≤ lv (e.Strict || g.Strict)
  | [], f => by simp
  | g :: l, f => by
    rw [List.foldl_cons, inner_iff e c v l]
    simp only [List.mem_cons, exists_eq_or_imp]
    unfold stepF updM
    by_cases h : e.To = g.From
    · rw [if_pos h]
      by_cases hc : c = code (midE e g)
      · rw [if_pos hc]
        have : v ≤ max (f c) (lv (e.Strict || g.Strict)) ↔ v ≤ f c ∨ v ≤ lv (e.Strict || g.Strict) := by omega
        rw [this, or_assoc]
        simp only [h, hc, true_and]
      · rw [if_neg hc]
        have : ¬ code (midE e g) = c := fun e => hc e.symm
        simp only [this, false_and, and_false, false_or]
    · rw [if_neg h]
      simp only [h, false_and, false_or]
theorem outer_iff (E2 : List SizeEdge) (c v : Nat) : ∀ (l : List SizeEdge) (f : Nat → Nat), v ≤ (l.foldl (fun f e => E2.foldl (stepF e) f) f) c ↔ v ≤ f c ∨ ∃ e ∈ l, ∃ g ∈ E2, e.To = g.From ∧ code (midE e g) = c ∧ v ≤ lv (e.Strict || g.Strict)
  | [], f => by simp
  | e :: l, f => by
    rw [List.foldl_cons, outer_iff E2 c v l, inner_iff, or_assoc]
    simp only [List.mem_cons, exists_eq_or_imp]
theorem lv_or (a b : Bool) : lv (a || b) = max (lv a) (lv b) := by cases a <;> cases b <;> rfl
theorem eq_of_iff {x y : Nat} (h : ∀ v, 0 < v → (v ≤ x ↔ v ≤ y)) : x = y := by
  rcases Nat.lt_trichotomy x y with g | g | g
  · have := (h y (by omega)).2 (Nat.le_refl _); omega
  · exact g
  · have := (h x (by omega)).1 (Nat.le_refl _); omega
def Rise (s : List SizeEdge) : Prop := (∀ e ∈ s, edgeOk e = true) ∧ s.Pairwise (fun a b => code a < code b)
theorem compose_rise (a b : SizeGraph) (ha : Rise a.Edges) (hb : Rise b.Edges) : ∃ s : List SizeEdge, s.length ≤ 16 ∧ Rise s ∧ spec_l24Compose a b = some ⟨a.Source, b.Target, s⟩ ∧ impl_compose a b = some ⟨a.Source, b.Target, s⟩ := by
  obtain ⟨a1, a2⟩ := ha
  obtain ⟨b1, b2⟩ := hb
  obtain ⟨s, h1, h2⟩ := spec_compose_ok a b
  obtain ⟨t, k1, k2⟩ := impl_compose_ok a b a1 b1
  have : t = s := by
    refine Rep.unique (k2.congr (fun c hc => eq_of_iff fun v hv => ?_) h2.2.1) h2
    rw [outer_iff]
    unfold cutT
    rw [if_pos hc]
    unfold topT
    rw [foldN_iff]
    have z : ∀ P : Prop, (v ≤ 0 ∨ P) ↔ P := fun P => ⟨fun h => h.elim (fun h => by omega) id, .inr⟩
    rw [z, z]
    constructor
    · rintro ⟨e, he, g, hg, q1, q2, q3⟩
      have oe := code_ok (a1 e he)
      have og := code_ok (b1 g hg)
      have te := tab_mem a2 he (a1 e he)
      have tg := tab_mem b2 hg (b1 g hg)
      have c1 : c / 4 = e.From.toNat := by rw [← q2]; unfold code midE; simp only; omega
      have c2 : c % 4 = g.To.toNat := by rw [← q2]; unfold code midE; simp only; omega
      have q1' : g.From.toNat = e.To.toNat := by rw [q1]
      refine ⟨e.To.toNat, by omega, by omega, ?_, ?_, ?_⟩
      · rw [c1, te]; exact (lv_le _).2
      · rw [c2, ← q1', tg]; exact (lv_le _).2
      · rw [c1, te, c2, ← q1', tg, ← lv_or]; exact q3
    · rintro ⟨m, _, hm, q1, q2, q3⟩
      obtain ⟨e, he, e1, e2, e3⟩ := tab_some q1
      obtain ⟨g, hg, g1, g2, g3⟩ := tab_some q2
      refine ⟨e, he, g, hg, by rw [e2, g1], ?_, by rw [lv_or, ← e3, ← g3]; exact q3⟩
      unfold code midE
      simp only [e1, g2, Int.toNat_natCast]
      omega
  subst this
  exact ⟨t, h2.len, ⟨h2.ok, h2.1⟩, h1, k1⟩
theorem compose_both (a b : SizeGraph) (ha : validG a = true) (hb : validG b = true) : ∃ s : List SizeEdge, s.length ≤ 16 ∧ spec_l24Compose a b = some ⟨a.Source, b.Target, s⟩ ∧ impl_compose a b = some ⟨a.Source, b.Target, s⟩ := by
  obtain ⟨s, h1, _, h2, h3⟩ := compose_rise a b (valid_rise ha) (valid_rise hb)
  exact ⟨s, h1, h2, h3⟩
end Go.Proofs.Ytdmkceajaagpgaa
