/- A part of the proof: lemmas only; nothing is claimed here beyond what each lemma says. -/
import Derived.Test.YtkokcfphepmeeaaGreatDoorGasg
set_option linter.unusedSimpArgs false
set_option linter.unusedVariables false
set_option linter.defProp false
set_option maxRecDepth 4000
namespace Go.Proofs.YtkokcfphepmeeaaGreatDoor
open Go.Av
/-! clause sets -/
def validC (s : List (List Int)) : Bool := decide (s.length ≤ 40) && s.all clauseB
def OkC (s : List (List Int)) : Prop := ∀ c ∈ s, c.length ≤ 1048576 ∧ ∀ x ∈ c, InR x
theorem l15Set_eq (s : List (List Int)) (h : OkC s) : spec_l15Set s = some (validC s) := by
  unfold spec_l15Set validC
  by_cases hl : s.length ≤ 40
  · rw [forN_all (fun j => clauseB (s.getD j default)) (r0 := false) (fun j hj _ => by
      rw [decide_eq_true (by omega), cond_true, idx_getD hj, Option.bind_some, clause_eq _ (h _ (getD_mem hj)).1, Option.bind_some]
      cases clauseB (s.getD j default) <;> rfl), range_all_list s clauseB, decide_eq_true hl, decide_eq_true (by omega : (s.length : Int) ≤ 40)]
    cases s.all clauseB <;> rfl
  · rw [decide_eq_false hl, decide_eq_false (by omega : ¬ (s.length : Int) ≤ 40), Bool.false_and]
    rw [forN_all (fun j => decide (j ≤ 40) && clauseB (s.getD j default)) (r0 := false) (fun j hj _ => by
      by_cases h40 : j ≤ 40
      · rw [decide_eq_true (by omega : (j : Int) ≤ 40), cond_true, idx_getD hj, Option.bind_some, clause_eq _ (h _ (getD_mem hj)).1, Option.bind_some, decide_eq_true h40]
        cases clauseB (s.getD j default) <;> rfl
      · rw [decide_eq_false (by omega : ¬ (j : Int) ≤ 40), decide_eq_false h40]; rfl)]
    cases (List.range s.length).all (fun j => decide (j ≤ 40) && clauseB (s.getD j default)) <;> rfl
theorem contC {f : List Int → Option Bool} {p : List Int → Bool} (s : List (List Int)) (h : ∀ a ∈ s, f a = some (p a)) : slices_ContainsFunc_SSint_Sint s f = some (s.any p) := by
  unfold slices_ContainsFunc_SSint_Sint slices_IndexFunc_SSint_Sint
  exact find_list (p := p) s h
theorem valid_impl (s : List (List Int)) (h : OkC s) : impl_IsValidClauses s = some (validC s) := by
  unfold impl_IsValidClauses validC
  by_cases hl : s.length ≤ 40
  · rw [decide_eq_true hl, decide_eq_true (by omega : (s.length : Int) ≤ 40), cond_true, contC (p := fun c => !clauseB c) s (fun c hc => by
      unfold impl_IsValidClauses_1
      rw [clause_same c (h c hc).2, clause_eq c (h c hc).1]; rfl), Option.bind_some, Bool.true_and, List.all_eq_not_any_not]
  · rw [decide_eq_false hl, decide_eq_false (by omega : ¬ (s.length : Int) ≤ 40)]; rfl
theorem absI_rng {x : Int} (h : InR x) (h1 : 1 ≤ absI x) : absI x = (if x < 0 then -x else x) ∧ (x ≠ 0) := by
  unfold InR at h
  unfold absI at h1 ⊢
  split
  · rename_i g
    rw [if_pos g, IntKind.wrap_i64] at h1
    rw [IntKind.wrap_i64]; omega
  · rename_i g
    rw [if_neg g] at h1
    omega
def Good (s : List (List Int)) : Prop := s.length ≤ 40 ∧ ∀ c ∈ s, c.length ≤ 1048576 ∧ ∀ x ∈ c, InR x ∧ 1 ≤ absI x ∧ absI x ≤ 12
theorem valid_good {s : List (List Int)} (h : OkC s) (hv : validC s = true) : Good s := by
  unfold validC at hv
  rw [Bool.and_eq_true, decide_eq_true_iff, List.all_eq_true] at hv
  refine ⟨hv.1, fun c hc => ⟨(h c hc).1, fun x hx => ?_⟩⟩
  have := hv.2 c hc
  unfold clauseB at this
  rw [List.all_eq_true] at this
  obtain ⟨i, hi, e⟩ := List.getElem_of_mem hx
  have hk := this i (List.mem_range.2 hi)
  rw [Bool.and_eq_true] at hk
  have h1 := hk.1
  rw [List.getD_eq_getElem?_getD, List.getElem?_eq_getElem hi, Option.getD_some, e] at h1
  simp only [inR, decide_eq_true_iff] at h1
  exact ⟨(h c hc).2 x hx, h1.1, h1.2⟩
/-! the greatest variable -/
def mx (s : Int) (c : List Int) : Int := c.foldl (fun s l => max s (absI l)) s
def most (s : List (List Int)) : Int := s.foldl mx 0
theorem forL_fold {α ρ σ : Type} (u : σ → α → σ) {g : Nat → α → σ → Option (Flow ρ σ)} : ∀ (l : List α) (i : Nat) (s : σ), (∀ j x s, x ∈ l → g j x s = some (.nx (u s x))) → forL g l i s = some (.inr (l.foldl u s))
  | [], i, s, _ => rfl
  | x :: l, i, s, h => by rw [forL_nx (s' := u s x) (h i x s (by simp)), forL_fold u l (i + 1) _ (fun j y s hy => h j y s (by simp [hy]))]; rfl
theorem impl_abs {x : Int} (h : InR x) : impl_absolute x = some (absI x) := by rw [abs_same h, abs_eq]
theorem greatest_eq {s : List (List Int)} (h : Good s) : impl_greatest s = some (most s) := by
  unfold impl_greatest most
  rw [forN_idx s (fun _ v12 (s3 : Int) => thenL (ρ := (Flow Int Int)) (σ := Int) (forN (fun (i6 : Nat) (s6 : Int) =>
      Option.bind (idx v12 (i6 : Int)) fun v18 =>
      Option.bind (impl_absolute v18) fun v22 =>
      some (.nx (max s6 v22))) v12.length 0 s3) fun s6 =>
    some (.nx s6)) 0, forL_fold mx s 0 0 (fun j c a hc => by
      rw [forN_idx c (fun _ v18 (s6 : Int) => Option.bind (impl_absolute v18) fun v22 => some (.nx (max s6 v22))) a,
        forL_fold (fun s l => max s (absI l)) c 0 a (fun j x b hx => by rw [impl_abs ((h.2 c hc).2 x hx).1]; rfl)]; rfl)]; rfl
theorem Most2_eq (a b : Int) : spec_l1Most a b = some (max a b) := Most_eq a b
theorem inner_most (a0 : List (List Int)) (i : Nat) (c : List Int) (hc : a0[i]? = some c) (hl : c.length ≤ 1048576) : ∀ (k j : Nat) (s : Int), j + k = c.length →
    Ev (fun m => whileN (ρ := Flow Int Int) (fun (s6 : Int × Int) =>
      Option.bind (idx a0 (i : Int)) fun v15 =>
      bif decide (s6.2 < (v15.length : Int)) then
        Option.bind (idx a0 (i : Int)) fun v24 =>
        Option.bind (idx v24 s6.2) fun v27 =>
        Option.bind (spec_l15Abs v27) fun v29 =>
        Option.bind (spec_l1Most s6.1 v29) fun v30 =>
        some (.nx (v30, IntKind.i64.wrap (s6.2 + (1 : Int))))
      else
        some (.br s6)) m (s, (j : Int))) (.inr (mx s (c.drop j), (c.length : Int)))
  | 0, j, s, h => by
    have e : j = c.length := by omega
    subst e
    rw [List.drop_length]
    refine ev_br ?_
    rw [idx_nat, hc, Option.bind_some, decide_eq_false (by show ¬ ((c.length : Int) < c.length); omega)]; rfl
  | k + 1, j, s, h => by
    have hj : j < c.length := by omega
    have := inner_most a0 i c hc hl k (j + 1) (max s (absI (c.getD j default))) (by omega)
    rw [show mx (max s (absI (c.getD j default))) (c.drop (j + 1)) = mx s (c.drop j) from by
      rw [List.drop_eq_getElem_cons hj]; unfold mx
      rw [List.foldl_cons, List.getD_eq_getElem?_getD, List.getElem?_eq_getElem hj, Option.getD_some]] at this
    refine ev_nx ?_ this
    rw [idx_nat, hc, Option.bind_some, decide_eq_true (by show (j : Int) < c.length; omega), cond_true, Option.bind_some]
    show Option.bind (idx c (j : Int)) _ = _
    rw [idx_getD hj, Option.bind_some, abs_eq, Option.bind_some, Most2_eq, Option.bind_some]
    show some (Flow.nx (_, IntKind.i64.wrap ((j : Int) + 1))) = _
    rw [wrap_succ (by omega)]
theorem l15Most_eq {s : List (List Int)} (h : Good s) : spec_l15Most s = some (most s) := by
  unfold spec_l15Most most
  rw [forN_forL _ (fun _ c a => some (.nx (mx a c))) s 0 0 (fun j c a hc => by
    have hm : c ∈ s := List.mem_of_getElem? hc
    have hi := inner_most s j c hc (h.2 c hm).1 c.length 0 a (by omega)
    rw [Nat.zero_add]
    refine (congrArg (fun x => thenL x (fun s6 : Int × Int => some (Flow.nx (ρ := Int) s6.1))) (lim_eq hi)).trans ?_
    rw [thenL_inr, List.drop_zero])]
  rw [forL_fold mx s 0 0 (fun _ _ _ _ => rfl)]; rfl
theorem mx_props : ∀ (c : List Int) (s : Int), 0 ≤ s → s ≤ 12 → (∀ x ∈ c, absI x ≤ 12) → 0 ≤ mx s c ∧ mx s c ≤ 12 ∧ s ≤ mx s c ∧ ∀ x ∈ c, absI x ≤ mx s c
  | [], s, h0, h1, _ => ⟨h0, h1, Int.le_refl _, fun x hx => by cases hx⟩
  | x :: c, s, h0, h1, h => by
    have hx := h x (by simp)
    obtain ⟨g1, g2, g3, g4⟩ := mx_props c (max s (absI x)) (by omega) (by omega) (fun y hy => h y (by simp [hy]))
    refine ⟨g1, g2, by show s ≤ mx (max s (absI x)) c; omega, fun y hy => ?_⟩
    rcases List.mem_cons.1 hy with rfl | hy
    · show absI y ≤ mx (max s (absI y)) c; omega
    · exact g4 y hy
theorem most_props : ∀ (s : List (List Int)) (a : Int), 0 ≤ a → a ≤ 12 → (∀ c ∈ s, ∀ x ∈ c, absI x ≤ 12) → 0 ≤ s.foldl mx a ∧ s.foldl mx a ≤ 12 ∧ a ≤ s.foldl mx a ∧ ∀ c ∈ s, ∀ x ∈ c, absI x ≤ s.foldl mx a
  | [], a, h0, h1, _ => ⟨h0, h1, Int.le_refl _, fun x hx => by cases hx⟩
  | c :: s, a, h0, h1, h => by
    obtain ⟨k1, k2, k3, k4⟩ := mx_props c a h0 h1 (h c (by simp))
    obtain ⟨g1, g2, g3, g4⟩ := most_props s (mx a c) k1 k2 (fun y hy => h y (by simp [hy]))
    refine ⟨g1, g2, by show a ≤ s.foldl mx (mx a c); omega, fun y hy x hx => ?_⟩
    rcases List.mem_cons.1 hy with rfl | hy
    · show absI x ≤ s.foldl mx (mx a y); have := k4 x hx; omega
    · exact g4 y hy x hx
theorem most_ok {s : List (List Int)} (h : Good s) : ∃ n : Nat, most s = (n : Int) ∧ n ≤ 12 ∧ ∀ c ∈ s, ∀ x ∈ c, absI x ≤ n := by
  obtain ⟨g1, g2, _, g4⟩ := most_props s 0 (by omega) (by omega) (fun c hc x hx => ((h.2 c hc).2 x hx).2.2)
  refine ⟨(most s).toNat, ?_, ?_, fun c hc x hx => ?_⟩
  · unfold most; omega
  · unfold most; omega
  · have := g4 c hc x hx; unfold most; omega
/-! occurrences, colours -/
def occ (s : List (List Int)) (x : Int) : Bool := s.any (fun c => hasI c x || hasI c (-x))
theorem Occurs_eq (s : List (List Int)) {x : Int} (h1 : 1 ≤ x) (h2 : x ≤ 12) : spec_l20Occurs s x = some (occ s x) := by
  unfold spec_l20Occurs occ
  have hw : IntKind.i64.wrap (0 - x) = -x := by rw [wrap64 (by omega) (by omega)]; omega
  rw [forN_all (fun j => !(hasI (s.getD j default) x || hasI (s.getD j default) (-x))) (r0 := true) (fun j hj _ => by
    rw [idx_getD hj, Option.bind_some, Has_eq, Option.bind_some, Option.bind_some, hw, Has_eq, Option.bind_some]
    cases hasI (s.getD j default) x <;> cases hasI (s.getD j default) (-x) <;> rfl), range_all_list s (fun c => !(hasI c x || hasI c (-x)))]
  rw [show s.all (fun c => !(hasI c x || hasI c (-x))) = !s.any (fun c => hasI c x || hasI c (-x)) from by rw [List.not_any_eq_all_not]]
  cases s.any (fun c => hasI c x || hasI c (-x)) <;> rfl
def tch (c : List Int) (j : Nat) : Bool := c.any (fun l => decide (absI l = ((j + 1 : Nat) : Int)))
theorem tch_has {c : List Int} (h : ∀ x ∈ c, InR x ∧ 1 ≤ absI x ∧ absI x ≤ 12) (j : Nat) : tch c j = (hasI c ((j + 1 : Nat) : Int) || hasI c (-((j + 1 : Nat) : Int))) := by
  unfold tch hasI
  rw [Bool.eq_iff_iff, List.any_eq_true, Bool.or_eq_true, decide_eq_true_iff, decide_eq_true_iff]
  constructor
  · rintro ⟨l, hl, e⟩
    have e' := of_decide_eq_true e
    obtain ⟨k1, k2⟩ := absI_rng (h l hl).1 (h l hl).2.1
    rw [k1] at e'
    split at e'
    · right; rw [← e']; simpa using hl
    · left; rw [← e']; exact hl
  · rintro (hl | hl)
    · refine ⟨_, hl, decide_eq_true ?_⟩
      obtain ⟨k1, k2⟩ := absI_rng (h _ hl).1 (h _ hl).2.1
      rw [k1, if_neg (by omega)]
    · refine ⟨_, hl, decide_eq_true ?_⟩
      obtain ⟨k1, k2⟩ := absI_rng (h _ hl).1 (h _ hl).2.1
      rw [k1, if_pos (by omega)]; omega
def cell (p q : Bool) : Int := bif p then (bif q then 3 else 1) else (bif q then 2 else 0)
theorem cell_one (p q : Bool) : bitor .i64 (cell p q) 1 = cell true q := by cases p <;> cases q <;> decide
theorem cell_two (p q : Bool) : bitor .i64 (cell p q) 2 = cell p true := by cases p <;> cases q <;> decide
theorem cell_three (p q : Bool) : decide (cell p q = 3) = (p && q) := by cases p <;> cases q <;> decide
def cellsOf (P Q : Nat → Bool) (n : Nat) : List Int := (List.range n).map fun j => cell (P j) (Q j)
theorem cellsOf_get {P Q : Nat → Bool} {n j : Nat} (h : j < n) : (cellsOf P Q n)[j]? = some (cell (P j) (Q j)) := by
  unfold cellsOf
  rw [List.getElem?_map, List.getElem?_range h]; rfl
theorem cellsOf_set {P Q P' Q' : Nat → Bool} {n j : Nat} (h : j < n) (hP : ∀ i, i ≠ j → cell (P' i) (Q' i) = cell (P i) (Q i)) : (cellsOf P Q n).set j (cell (P' j) (Q' j)) = cellsOf P' Q' n := by
  apply List.ext_getElem?
  intro i
  rw [List.getElem?_set]
  by_cases e : j = i
  · subst e
    rw [if_pos rfl, if_pos (by unfold cellsOf; simpa using h), cellsOf_get h]
  · rw [if_neg e]
    by_cases hi : i < n
    · rw [cellsOf_get hi, cellsOf_get hi, hP i (fun g => e g.symm)]
    · rw [List.getElem?_eq_none (by unfold cellsOf; simp; omega), List.getElem?_eq_none (by unfold cellsOf; simp; omega)]
theorem cellsOf_congr {P Q P' Q' : Nat → Bool} {n : Nat} (h : ∀ i, P i = P' i ∧ Q i = Q' i) : cellsOf P Q n = cellsOf P' Q' n := by
  have e1 : P = P' := funext fun i => (h i).1
  have e2 : Q = Q' := funext fun i => (h i).2
  rw [e1, e2]
theorem color_step {n : Nat} (b : Bool) {l : Int} (h : InR l ∧ 1 ≤ absI l ∧ absI l ≤ n) (hn : n ≤ 12) (P Q : Nat → Bool) :
    (Option.bind (impl_absolute l) fun v32 =>
        Option.bind (idx (cellsOf P Q n) (IntKind.i64.wrap (v32 - (1 : Int)))) fun v34 =>
        Option.bind (idx (cellsOf P Q n) (IntKind.i64.wrap (v32 - (1 : Int)))) fun v35 =>
        Option.bind (idx (cellsOf P Q n) (IntKind.i64.wrap (v32 - (1 : Int)))) fun v38 =>
        Option.bind (idx (cellsOf P Q n) (IntKind.i64.wrap (v32 - (1 : Int)))) fun w4 =>
        some (Flow.nx (ρ := Flow (List Int) (List Int)) ((cellsOf P Q n).set (IntKind.i64.wrap (v32 - (1 : Int))).toNat (bitor .i64 v35 (bif b then 2 else 1))))) =
      some (.nx (cellsOf (fun i => P i || (!b && decide (absI l = ((i + 1 : Nat) : Int)))) (fun i => Q i || (b && decide (absI l = ((i + 1 : Nat) : Int)))) n)) := by
  obtain ⟨j, hj⟩ : ∃ j : Nat, absI l = ((j + 1 : Nat) : Int) := ⟨(absI l - 1).toNat, by omega⟩
  have hjn : j < n := by omega
  have hw : IntKind.i64.wrap (((j + 1 : Nat) : Int) - 1) = (j : Int) := by rw [wrap64 (by omega) (by omega)]; omega
  rw [impl_abs h.1, Option.bind_some, hj, hw, idx_nat, cellsOf_get hjn, Option.bind_some, Option.bind_some, Option.bind_some, Option.bind_some, Int.toNat_natCast]
  congr 2
  have hne : ∀ i, i ≠ j → decide (((j + 1 : Nat) : Int) = ((i + 1 : Nat) : Int)) = false := fun i hi => decide_eq_false (by omega)
  cases b
  · rw [cond_false, cell_one]
    have := cellsOf_set (P := P) (Q := Q) (P' := fun i => P i || (!false && decide (((j + 1 : Nat) : Int) = ((i + 1 : Nat) : Int)))) (Q' := fun i => Q i || (false && decide (((j + 1 : Nat) : Int) = ((i + 1 : Nat) : Int)))) hjn (fun i hi => by rw [hne i hi]; simp)
    rw [← this]; simp
  · rw [cond_true, cell_two]
    have := cellsOf_set (P := P) (Q := Q) (P' := fun i => P i || (!true && decide (((j + 1 : Nat) : Int) = ((i + 1 : Nat) : Int)))) (Q' := fun i => Q i || (true && decide (((j + 1 : Nat) : Int) = ((i + 1 : Nat) : Int)))) hjn (fun i hi => by rw [hne i hi]; simp)
    rw [← this]; simp
theorem color_inner {n : Nat} (b : Bool) (hn : n ≤ 12) : ∀ (c : List Int) (i : Nat) (P Q : Nat → Bool), (∀ l ∈ c, InR l ∧ 1 ≤ absI l ∧ absI l ≤ n) →
    forL (ρ := Flow (List Int) (List Int)) (fun _ v28 s9 => Option.bind (impl_absolute v28) fun v32 =>
        Option.bind (idx s9 (IntKind.i64.wrap (v32 - (1 : Int)))) fun v34 =>
        Option.bind (idx s9 (IntKind.i64.wrap (v32 - (1 : Int)))) fun v35 =>
        Option.bind (idx s9 (IntKind.i64.wrap (v32 - (1 : Int)))) fun v38 =>
        Option.bind (idx s9 (IntKind.i64.wrap (v32 - (1 : Int)))) fun w4 =>
        some (.nx (s9.set (IntKind.i64.wrap (v32 - (1 : Int))).toNat (bitor .i64 v35 (bif b then 2 else 1))))) c i (cellsOf P Q n) =
      some (.inr (cellsOf (fun i => P i || (!b && tch c i)) (fun i => Q i || (b && tch c i)) n))
  | [], i, P, Q, _ => by
    rw [forL_nil]
    refine congrArg (fun x => some (Sum.inr x)) (cellsOf_congr (fun i => ?_))
    unfold tch; simp
  | l :: c, i, P, Q, h => by
    rw [forL_nx (color_step b (h l (by simp)) hn P Q), color_inner b hn c (i + 1) _ _ (fun x hx => h x (by simp [hx]))]
    refine congrArg (fun x => some (Sum.inr x)) (cellsOf_congr (fun i => ?_))
    unfold tch
    rw [List.any_cons]
    constructor
    · cases P i <;> cases b <;> cases decide (absI l = ((i + 1 : Nat) : Int)) <;> simp
    · cases Q i <;> cases b <;> cases decide (absI l = ((i + 1 : Nat) : Int)) <;> simp
theorem colors_loop {n k : Nat} (hn : n ≤ 12) (s : List (List Int)) (hg : ∀ c ∈ s, ∀ l ∈ c, InR l ∧ 1 ≤ absI l ∧ absI l ≤ n) : ∀ (m i : Nat), i + m = s.length →
    forN (ρ := List Int) (fun (i3 : Nat) (s3 : (List Int)) =>
    Option.bind (idx s (i3 : Int)) fun v19 =>
    bif decide ((k : Int) ≤ (i3 : Int)) then
      thenL (ρ := (Flow (List Int) (List Int))) (σ := (List Int)) (forN (fun (i9 : Nat) (s9 : (List Int)) =>
        Option.bind (idx v19 (i9 : Int)) fun v28 =>
        Option.bind (impl_absolute v28) fun v32 =>
        Option.bind (idx s9 (IntKind.i64.wrap (v32 - (1 : Int)))) fun v34 =>
        Option.bind (idx s9 (IntKind.i64.wrap (v32 - (1 : Int)))) fun v35 =>
        Option.bind (idx s9 (IntKind.i64.wrap (v32 - (1 : Int)))) fun v38 =>
        Option.bind (idx s9 (IntKind.i64.wrap (v32 - (1 : Int)))) fun w4 =>
        some (.nx (s9.set (IntKind.i64.wrap (v32 - (1 : Int))).toNat (bitor .i64 v35 (2 : Int))))) v19.length 0 s3) fun s9 =>
      some (.nx s9)
    else
      thenL (ρ := (Flow (List Int) (List Int))) (σ := (List Int)) (forN (fun (i9 : Nat) (s9 : (List Int)) =>
        Option.bind (idx v19 (i9 : Int)) fun v28 =>
        Option.bind (impl_absolute v28) fun v32 =>
        Option.bind (idx s9 (IntKind.i64.wrap (v32 - (1 : Int)))) fun v34 =>
        Option.bind (idx s9 (IntKind.i64.wrap (v32 - (1 : Int)))) fun v35 =>
        Option.bind (idx s9 (IntKind.i64.wrap (v32 - (1 : Int)))) fun v38 =>
        Option.bind (idx s9 (IntKind.i64.wrap (v32 - (1 : Int)))) fun w7 =>
        some (.nx (s9.set (IntKind.i64.wrap (v32 - (1 : Int))).toNat (bitor .i64 v35 (1 : Int))))) v19.length 0 s3) fun s9 =>
      some (.nx s9)) m i (cellsOf (fun j => (s.take (min i k)).any (tch · j)) (fun j => ((s.take i).drop k).any (tch · j)) n) =
    some (.inr (cellsOf (fun j => (s.take k).any (tch · j)) (fun j => (s.drop k).any (tch · j)) n))
  | 0, i, h => by
    rw [forN_zero]
    refine congrArg (fun x => some (Sum.inr x)) (cellsOf_congr (fun j => ?_))
    have e : i = s.length := by omega
    subst e
    rw [List.take_length]
    refine ⟨?_, rfl⟩
    by_cases g : s.length ≤ k
    · rw [Nat.min_eq_left g, List.take_length, List.take_of_length_le g]
    · rw [Nat.min_eq_right (by omega)]
  | m + 1, i, h => by
    have hi : i < s.length := by omega
    have hc : s[i] ∈ s := List.getElem_mem hi
    have htake : s.take (i + 1) = s.take i ++ [s[i]] := List.take_succ_eq_append_getElem hi
    by_cases g : k ≤ i
    · rw [forN_nx (s' := cellsOf (fun j => (s.take (min (i + 1) k)).any (tch · j)) (fun j => ((s.take (i + 1)).drop k).any (tch · j)) n) (by
        rw [idx_nat, List.getElem?_eq_getElem hi, Option.bind_some, decide_eq_true (by omega), cond_true]
        have e := forN_idx (ρ := Flow (List Int) (List Int)) s[i] (fun _ v28 (s9 : List Int) => Option.bind (impl_absolute v28) fun v32 =>
          Option.bind (idx s9 (IntKind.i64.wrap (v32 - (1 : Int)))) fun v34 =>
          Option.bind (idx s9 (IntKind.i64.wrap (v32 - (1 : Int)))) fun v35 =>
          Option.bind (idx s9 (IntKind.i64.wrap (v32 - (1 : Int)))) fun v38 =>
          Option.bind (idx s9 (IntKind.i64.wrap (v32 - (1 : Int)))) fun w4 =>
          some (.nx (s9.set (IntKind.i64.wrap (v32 - (1 : Int))).toNat (bitor .i64 v35 (2 : Int))))) (cellsOf (fun j => (s.take (min i k)).any (tch · j)) (fun j => ((s.take i).drop k).any (tch · j)) n)
        have ci := color_inner true hn s[i] 0 (fun j => (s.take (min i k)).any (tch · j)) (fun j => ((s.take i).drop k).any (tch · j)) (hg _ hc)
        rw [cond_true] at ci
        rw [e, ci, thenL_inr]
        refine congrArg (fun x => some (Flow.nx x)) (cellsOf_congr (fun j => ?_))
        refine ⟨?_, ?_⟩
        · rw [Nat.min_eq_right g, Nat.min_eq_right (by omega)]; simp
        · rw [htake, List.drop_append_of_le_length (by rw [List.length_take]; omega), List.any_append]; simp)]
      exact colors_loop hn s hg m (i + 1) (by omega)
    · rw [forN_nx (s' := cellsOf (fun j => (s.take (min (i + 1) k)).any (tch · j)) (fun j => ((s.take (i + 1)).drop k).any (tch · j)) n) (by
        rw [idx_nat, List.getElem?_eq_getElem hi, Option.bind_some, decide_eq_false (by omega), cond_false]
        have e := forN_idx (ρ := Flow (List Int) (List Int)) s[i] (fun _ v28 (s9 : List Int) => Option.bind (impl_absolute v28) fun v32 =>
          Option.bind (idx s9 (IntKind.i64.wrap (v32 - (1 : Int)))) fun v34 =>
          Option.bind (idx s9 (IntKind.i64.wrap (v32 - (1 : Int)))) fun v35 =>
          Option.bind (idx s9 (IntKind.i64.wrap (v32 - (1 : Int)))) fun v38 =>
          Option.bind (idx s9 (IntKind.i64.wrap (v32 - (1 : Int)))) fun w4 =>
          some (.nx (s9.set (IntKind.i64.wrap (v32 - (1 : Int))).toNat (bitor .i64 v35 (1 : Int))))) (cellsOf (fun j => (s.take (min i k)).any (tch · j)) (fun j => ((s.take i).drop k).any (tch · j)) n)
        have ci := color_inner false hn s[i] 0 (fun j => (s.take (min i k)).any (tch · j)) (fun j => ((s.take i).drop k).any (tch · j)) (hg _ hc)
        rw [cond_false] at ci
        rw [e, ci, thenL_inr]
        refine congrArg (fun x => some (Flow.nx x)) (cellsOf_congr (fun j => ?_))
        refine ⟨?_, ?_⟩
        · rw [Nat.min_eq_left (by omega), Nat.min_eq_left (by omega), htake, List.any_append]; simp
        · rw [List.drop_of_length_le (by rw [List.length_take]; omega), List.drop_of_length_le (by rw [List.length_take]; omega)]; simp)]
      exact colors_loop hn s hg m (i + 1) (by omega)
/-! models -/
def sat (s : List (List Int)) (a : List Int) : Bool := s.all (fun c => c.any (hasI a))
theorem isModel_eq (s : List (List Int)) (a : List Int) : impl_isModel s a = some (sat s a) := by
  unfold impl_isModel sat
  rw [contC (p := fun c => !c.any (hasI a)) s (fun c _ => by
    unfold impl_isModel_1 impl_isSatisfied
    rw [ContainsFunc_int (p := hasI a) c (fun x _ => by unfold impl_isSatisfied_1; rw [Contains_eq]; rfl)]; rfl), Option.bind_some, List.all_eq_not_any_not]
theorem status_loop (a : List Int) : ∀ (c : List Int) (i : Nat) (f o : Int), 0 ≤ f → f + c.length ≤ 2000000 →
    ∃ q : Int × Int, thenL (ρ := Int × Int) (σ := Int × Int) (forL (fun _ x (s3 : Int × Int) => Option.bind (spec_l1Has a x) fun v20 => bif v20 then some (.rt ((-1 : Int), (0 : Int))) else Option.bind (spec_l1Has a (IntKind.i64.wrap (0 - x))) fun v27 => bif v27 then some (.nx (s3.1, s3.2)) else some (.nx (IntKind.i64.wrap (s3.1 + (1 : Int)), x))) c i (f, o)) (fun s3 => some (s3.1, s3.2)) = some q ∧ decide (0 ≤ q.1) = !c.any (hasI a)
  | [], i, f, o, h0, _ => ⟨(f, o), rfl, by rw [List.any_nil, decide_eq_true h0]; rfl⟩
  | x :: c, i, f, o, h0, h1 => by
    rw [List.length_cons] at h1
    rw [List.any_cons]
    cases e : hasI a x with
    | true => exact ⟨(-1, 0), by rw [forL_rt (r := (-1, 0)) (by rw [Has_eq, e]; rfl)]; rfl, by rw [Bool.true_or]; decide⟩
    | false =>
      rw [Bool.false_or]
      cases e2 : hasI a (IntKind.i64.wrap (0 - x)) with
      | true =>
        rw [forL_nx (s' := (f, o)) (by rw [Has_eq, e, Option.bind_some, cond_false, Has_eq, e2]; rfl)]
        exact status_loop a c (i + 1) f o h0 (by omega)
      | false =>
        rw [forL_nx (s' := (f + 1, x)) (by rw [Has_eq, e, Option.bind_some, cond_false, Has_eq, e2, Option.bind_some, cond_false, wrap64 (by omega) (by omega)])]
        exact status_loop a c (i + 1) (f + 1) x (by omega) (by omega)
theorem Satisfies_eq (s : List (List Int)) (a : List Int) (h : ∀ c ∈ s, c.length ≤ 1048576) : spec_l20Satisfies s a = some (sat s a) := by
  unfold spec_l20Satisfies sat
  rw [forN_all (fun j => (s.getD j default).any (hasI a)) (r0 := false) (fun j hj _ => by
    rw [idx_getD hj, Option.bind_some]
    unfold spec_l15Status
    obtain ⟨q, h1, h2⟩ := status_loop a (s.getD j default) 0 0 0 (by omega) (by have := h _ (getD_mem hj); omega)
    have e := forN_idx (ρ := Int × Int) (s.getD j default) (fun i3 x (s3 : Int × Int) => Option.bind (spec_l1Has a x) fun v20 => bif v20 then some (.rt ((-1 : Int), (0 : Int))) else Option.bind (idx (s.getD j default) (i3 : Int)) fun v24 => Option.bind (spec_l1Has a (IntKind.i64.wrap (0 - v24))) fun v27 => bif v27 then some (.nx (s3.1, s3.2)) else Option.bind (idx (s.getD j default) (i3 : Int)) fun v33 => some (.nx (IntKind.i64.wrap (s3.1 + (1 : Int)), v33))) ((0 : Int), (0 : Int))
    rw [e, forL_congr (g := fun _ x (s3 : Int × Int) => Option.bind (spec_l1Has a x) fun v20 => bif v20 then some (.rt ((-1 : Int), (0 : Int))) else Option.bind (spec_l1Has a (IntKind.i64.wrap (0 - x))) fun v27 => bif v27 then some (.nx (s3.1, s3.2)) else some (.nx (IntKind.i64.wrap (s3.1 + (1 : Int)), x))) (s.getD j default) 0 (0, 0) (fun i x z hx => by
      rw [Nat.zero_add, idx_nat, hx, Option.bind_some, Option.bind_some]), h1, Option.bind_some, h2]
    cases (s.getD j default).any (hasI a) <;> rfl), range_all_list s (fun c => c.any (hasI a))]
  cases s.all (fun c => c.any (hasI a)) <;> rfl
theorem asg_congr {n : Nat} {p q : Nat → Bool} (h : ∀ j, j < n → p j = q j) : asg n p = asg n q := by
  unfold asg
  apply List.map_congr_left
  intro j hj
  rw [h j (List.mem_range.1 hj)]
theorem asg_succ (u : Nat) (q : Nat → Bool) : asg (u + 1) q = asg u q ++ [bif q u then ((u + 1 : Nat) : Int) else -((u + 1 : Nat) : Int)] := by
  unfold asg
  rw [List.range_succ, List.map_append]; rfl
theorem total_loop {n m : Nat} (hn : n ≤ 12) (hm : m < 2 ^ 40) : ∀ (k u : Nat), u + k = n →
    Ev (fun z => whileN (ρ := List Int) (fun (s3 : (List Int) × Int) =>
    bif decide (s3.2 ≤ (n : Int)) then
      Option.bind (shr .i64 (m : Int) (IntKind.u64.wrap (IntKind.i64.wrap (s3.2 - (1 : Int))))) fun v17 =>
      bif decide ((bitand .i64 v17 (1 : Int)) = (1 : Int)) then
        Option.bind (app s3.1 ([s3.2])) fun v23 =>
        some (.nx (v23, IntKind.i64.wrap (s3.2 + (1 : Int))))
      else
        Option.bind (app s3.1 ([IntKind.i64.wrap (0 - s3.2)])) fun v28 =>
        some (.nx (v28, IntKind.i64.wrap (s3.2 + (1 : Int))))
    else
      some (.br s3)) z (asg u (fun j => m.testBit j), ((u + 1 : Nat) : Int))) (.inr (asg n (fun j => m.testBit j), ((n + 1 : Nat) : Int)))
  | 0, u, h => by
    have e : u = n := by omega
    subst e
    refine ev_br ?_
    rw [decide_eq_false (by show ¬ (((u + 1 : Nat) : Int) ≤ u); omega)]; rfl
  | k + 1, u, h => by
    have := total_loop hn hm k (u + 1) (by omega)
    refine ev_nx ?_ this
    have hw : IntKind.i64.wrap (((u + 1 : Nat) : Int) - 1) = (u : Int) := by rw [wrap64 (by omega) (by omega)]; omega
    have hwn : IntKind.i64.wrap (0 - ((u + 1 : Nat) : Int)) = -((u + 1 : Nat) : Int) := by rw [wrap64 (by omega) (by omega)]; omega
    have hb : decide (bitand .i64 ((m / 2 ^ u : Nat) : Int) 1 = 1) = m.testBit u := bit_test (by omega)
    have hl : (asg u (fun j => m.testBit j)).length = u := by unfold asg; simp
    have ha : ∀ x : Int, app (asg u (fun j => m.testBit j)) [x] = some (asg u (fun j => m.testBit j) ++ [x]) := fun x => by unfold app; rw [if_pos (by rw [hl]; simp; omega)]
    show (bif decide (((u + 1 : Nat) : Int) ≤ (n : Int)) then Option.bind (shr .i64 (m : Int) (IntKind.u64.wrap (IntKind.i64.wrap (((u + 1 : Nat) : Int) - (1 : Int))))) fun v17 =>
      bif decide ((bitand .i64 v17 (1 : Int)) = (1 : Int)) then
        Option.bind (app (asg u (fun j => m.testBit j)) ([((u + 1 : Nat) : Int)])) fun v23 =>
        some (Flow.nx (v23, IntKind.i64.wrap (((u + 1 : Nat) : Int) + (1 : Int))))
      else
        Option.bind (app (asg u (fun j => m.testBit j)) ([IntKind.i64.wrap (0 - ((u + 1 : Nat) : Int))])) fun v28 =>
        some (.nx (v28, IntKind.i64.wrap (((u + 1 : Nat) : Int) + (1 : Int)))) else some (.br _)) = _
    rw [decide_eq_true (by omega), cond_true, hw, wrapu (by omega), shr_eq (by omega), Option.bind_some, hb, hwn, ha, ha, wrap_succ (by omega), asg_succ]
    cases m.testBit u <;> rfl
theorem Total_eq {n m : Nat} (hn : n ≤ 12) (hm : m < 2 ^ 40) : spec_l20Total (n : Int) (m : Int) = some (asg n (fun j => m.testBit j)) := by
  unfold spec_l20Total
  have h := total_loop hn hm n 0 (by omega)
  exact (congrArg (fun x => thenL x (fun s3 : List Int × Int => some s3.1)) (lim_eq h)).trans rfl
end Go.Proofs.YtkokcfphepmeeaaGreatDoor
