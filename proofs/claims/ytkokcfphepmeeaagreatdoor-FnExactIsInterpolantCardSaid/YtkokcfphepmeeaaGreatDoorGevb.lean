/- A part of the proof: lemmas only; nothing is claimed here beyond what each lemma says. -/
import Derived.Test.YtkokcfphepmeeaaGreatDoorGev
set_option linter.unusedSimpArgs false
set_option linter.unusedVariables false
set_option linter.defProp false
set_option maxRecDepth 4000
namespace Go.Proofs.YtkokcfphepmeeaaGreatDoor
open Go.Av
/-! clauses of numbers -/
def absI (v : Int) : Int := if v < 0 then IntKind.i64.wrap (0 - v) else v
theorem abs_eq (v : Int) : spec_l15Abs v = some (absI v) := by
  unfold spec_l15Abs absI
  by_cases h : v < 0
  · rw [decide_eq_true h, if_pos h]; rfl
  · rw [decide_eq_false h, if_neg h]; rfl
def clauseB (l : List Int) : Bool := (List.range l.length).all (fun j => inR (absI (l.getD j default)) 1 12 && (decide (j = 0) || decide (absI (l.getD (j - 1) default) < absI (l.getD j default))))
theorem clause_eq (l : List Int) (hb : l.length ≤ 1048576) : spec_l15Clause l = some (clauseB l) := by
  unfold spec_l15Clause clauseB
  rw [forN_all (fun j => inR (absI (l.getD j default)) 1 12 && (decide (j = 0) || decide (absI (l.getD (j - 1) default) < absI (l.getD j default)))) (r0 := false) (fun j hj _ => by
    rw [idx_getD hj, Option.bind_some, abs_eq, Option.bind_some, l1In_eq, Option.bind_some]
    cases inR (absI (l.getD j default)) 1 12
    · rfl
    · rw [cond_true, Bool.true_and]
      by_cases h0 : j = 0
      · subst h0; rfl
      · rw [decide_eq_true (by omega : (0 : Int) < (j : Int)), cond_true, idx_pred hj (by omega) (by omega), Option.bind_some, abs_eq, Option.bind_some, Option.bind_some, abs_eq, Option.bind_some, decide_eq_false h0, Bool.false_or]
        by_cases hlt : absI (l.getD (j - 1) default) < absI (l.getD j default)
        · rw [decide_eq_true hlt, decide_eq_false (by omega)]; rfl
        · rw [decide_eq_false hlt, decide_eq_true (by omega)]; rfl)]
  cases (List.range l.length).all (fun j => inR (absI (l.getD j default)) 1 12 && (decide (j = 0) || decide (absI (l.getD (j - 1) default) < absI (l.getD j default)))) <;> rfl
/-! bits -/
theorem bitor_nat {x y : Nat} (hx : x < 2 ^ 62) (hy : y < 2 ^ 62) : bitor .i64 (x : Int) (y : Int) = ((x ||| y : Nat) : Int) := by
  have h : x ||| y < 2 ^ 62 := Nat.or_lt_two_pow hx hy
  show IntKind.i64.wrap (((BitVec.ofInt 64 (x : Int) ||| BitVec.ofInt 64 (y : Int)).toNat : Nat) : Int) = _
  rw [BitVec.ofInt_natCast, BitVec.ofInt_natCast, BitVec.toNat_or, BitVec.toNat_ofNat, BitVec.toNat_ofNat, Nat.mod_eq_of_lt (by omega), Nat.mod_eq_of_lt (by omega), wrap64 (by omega) (by omega)]
theorem bitand_one {x : Nat} (hx : x < 2 ^ 62) : bitand .i64 (x : Int) 1 = ((x % 2 : Nat) : Int) := by
  show IntKind.i64.wrap (((BitVec.ofInt 64 (x : Int) &&& BitVec.ofInt 64 ((1 : Nat) : Int)).toNat : Nat) : Int) = _
  rw [BitVec.ofInt_natCast, BitVec.ofInt_natCast, BitVec.toNat_and, BitVec.toNat_ofNat, BitVec.toNat_ofNat, Nat.mod_eq_of_lt (by omega : x < 2 ^ 64), show 1 % 2 ^ 64 = 2 ^ 1 - 1 from rfl, Nat.and_two_pow_sub_one_eq_mod, wrap64 (by omega) (by omega)]
theorem shr_eq {x j : Nat} (hj : j ≤ 64) : shr .i64 (x : Int) (j : Int) = some ((x / 2 ^ j : Nat) : Int) := by
  unfold shr
  rw [if_pos (by omega), Int.toNat_natCast, show min j IntKind.i64.bits = j from Nat.min_eq_left hj, Int.fdiv_eq_ediv_of_nonneg _ (by exact_mod_cast Nat.zero_le _)]
  congr 1
theorem bit_test {x j : Nat} (hx : x < 2 ^ 62) : decide (bitand .i64 ((x / 2 ^ j : Nat) : Int) 1 = 1) = x.testBit j := by
  rw [bitand_one (Nat.lt_of_le_of_lt (Nat.div_le_self _ _) hx), Nat.testBit_eq_decide_div_mod_eq]
  exact decide_eq_decide.2 (by omega)
theorem shl_flag (b : Bool) {i : Nat} (hi : i ≤ 61) : shl .i64 (bif b then 1 else 0) (i : Int) = some ((b.toNat <<< i : Nat) : Int) := by
  have h2 : 2 ^ i ≤ 2 ^ 61 := Nat.pow_le_pow_right (by omega) hi
  unfold shl
  rw [if_pos (by omega), Int.toNat_natCast, show min i IntKind.i64.bits = i from Nat.min_eq_left (by show i ≤ 64; omega), Nat.shiftLeft_eq]
  cases b
  · rw [cond_false, Int.zero_mul]; simp [IntKind.wrap_i64]
  · have key : ∀ m : Nat, m ≤ 2 ^ 61 → IntKind.i64.wrap (m : Int) = m := fun m hm => wrap64 (by omega) (by omega)
    rw [cond_true, Int.one_mul, show (2 : Int) ^ i = ((2 ^ i : Nat) : Int) from by simp, key _ h2]; simp
theorem flag_eq (b : Bool) : impl_flag b = some (bif b then 1 else 0) := by cases b <;> rfl
/-! putting numbers into an ascending list -/
def Asc (l : List Int) : Prop := l.Pairwise (· < ·)
theorem l1Put_eq (l : List Int) (n : Int) (hb : l.length ≤ 1000000) : ∃ v, spec_l1Put l n = some v ∧ (∀ x, x ∈ v ↔ x ∈ l ∨ x = n) ∧ v.length ≤ l.length + 1 ∧ (Asc l → Asc v) := by
  have mid : ∀ k, k ≤ l.length → (Option.bind (slc l (0 : Int) (k : Int)) fun v36 => Option.bind (app ([]) v36) fun v37 => Option.bind (app v37 ([n])) fun v40 => Option.bind (slc l (k : Int) (l.length : Int)) fun v43 => Option.bind (app v40 v43) fun v44 => some v44) = some (l.take k ++ [n] ++ l.drop k) := fun k hk => by
    unfold slc app
    rw [if_pos (by omega), Option.bind_some]
    simp only [Int.toNat_natCast, List.nil_append, Int.toNat_zero, List.drop_zero, List.length_nil]
    rw [if_pos (by rw [List.length_take]; omega), Option.bind_some, if_pos (by rw [List.length_take]; simp; omega), Option.bind_some, if_pos (by omega), Option.bind_some, if_pos (by simp only [List.length_append, List.length_take, List.length_drop, List.length_cons, List.length_nil]; omega), Option.bind_some, List.take_length]
  have memTD : ∀ k x, x ∈ l.take k ++ [n] ++ l.drop k ↔ x ∈ l ∨ x = n := fun k x => by
    have : x ∈ l ↔ x ∈ l.take k ∨ x ∈ l.drop k := by rw [← List.mem_append, List.take_append_drop]
    rw [this, List.mem_append, List.mem_append, List.mem_singleton]
    constructor
    · rintro ((h | h) | h)
      · exact .inl (.inl h)
      · exact .inr h
      · exact .inl (.inr h)
    · rintro ((h | h) | h)
      · exact .inl (.inl h)
      · exact .inr h
      · exact .inl (.inr h)
  have lenTD : ∀ k, (l.take k ++ [n] ++ l.drop k).length ≤ l.length + 1 := fun k => by
    simp only [List.length_append, List.length_take, List.length_drop, List.length_cons, List.length_nil]; omega
  have ascTD : ∀ k, k ≤ l.length → (∀ j, j < k → l.getD j default < n) → (∀ h : k < l.length, n < l.getD k default) → Asc l → Asc (l.take k ++ [n] ++ l.drop k) := fun k hk h1 h2 ha => by
    unfold Asc at ha ⊢
    rw [List.append_assoc, List.pairwise_append]
    refine ⟨ha.sublist (List.take_sublist _ _), ?_, ?_⟩
    · rw [List.singleton_append, List.pairwise_cons]
      refine ⟨fun x hx => ?_, ha.sublist (List.drop_sublist _ _)⟩
      have hkl : k < l.length := by
        have := List.length_pos_of_mem hx
        rw [List.length_drop] at this; omega
      have hn := h2 hkl
      rw [List.getD_eq_getElem?_getD, List.getElem?_eq_getElem hkl, Option.getD_some] at hn
      rw [List.drop_eq_getElem_cons hkl] at hx
      rcases List.mem_cons.1 hx with rfl | hx
      · exact hn
      · have hp : (l.drop k).Pairwise (· < ·) := ha.sublist (List.drop_sublist _ _)
        rw [List.drop_eq_getElem_cons hkl, List.pairwise_cons] at hp
        exact Int.lt_trans hn (hp.1 x hx)
    · intro x hx y hy
      obtain ⟨j, hj, rfl⟩ := List.getElem_of_mem hx
      rw [List.length_take] at hj
      have hxn : (l.take k)[j]'(by rw [List.length_take]; exact hj) < n := by
        have := h1 j (by omega)
        rw [List.getD_eq_getElem?_getD, List.getElem?_eq_getElem (by omega), Option.getD_some] at this
        rwa [List.getElem_take]
      rw [List.singleton_append, List.mem_cons] at hy
      rcases hy with rfl | hy
      · exact hxn
      · have hp := List.pairwise_append.1 (show (l.take k ++ l.drop k).Pairwise (· < ·) by rw [List.take_append_drop]; exact ha)
        exact hp.2.2 _ hx y hy
  unfold spec_l1Put
  rcases ffind_cases (fun j => !decide (l.getD j default < n)) l.length 0 with ⟨_, h2⟩ | ⟨k, _, _, h3, h4, h5⟩
  · rw [forN_nohit l.length 0 (fun j _ hj => by
      have := h2 j (by omega) hj
      rw [Bool.not_eq_false'] at this
      rw [idx_getD (by omega), Option.bind_some, this, cond_true])]
    refine ⟨_, mid l.length (Nat.le_refl _), memTD _, lenTD _, ascTD _ (Nat.le_refl _) (fun j hj => ?_) (fun h => absurd h (by omega))⟩
    have := h2 j (by omega) (by omega)
    rw [Bool.not_eq_false'] at this
    exact of_decide_eq_true this
  · have hk : k < l.length := by omega
    have hlt : ∀ j, j < k → l.getD j default < n := fun j hj => by
      have := h5 j (by omega) hj
      rw [Bool.not_eq_false'] at this
      exact of_decide_eq_true this
    have hge : ¬ l.getD k default < n := by simpa using h4
    by_cases he : l.getD k default = n
    · rw [forN_hit (r := l) l.length 0 k (by omega) (by omega) (fun j _ hj => by rw [idx_getD (by omega), Option.bind_some, decide_eq_true (hlt j hj), cond_true]) (by
        rw [idx_getD hk, Option.bind_some, decide_eq_false hge, cond_false, Option.bind_some, decide_eq_true he, cond_true])]
      have hm : n ∈ l := by rw [← he]; exact getD_mem hk
      exact ⟨l, rfl, fun x => ⟨.inl, fun h => h.elim id (fun h => by rw [h]; exact hm)⟩, by omega, id⟩
    · have hm := mid k (by omega)
      rw [forN_hit (r := l.take k ++ [n] ++ l.drop k) l.length 0 k (by omega) (by omega) (fun j _ hj => by rw [idx_getD (by omega), Option.bind_some, decide_eq_true (hlt j hj), cond_true]) (by
        rw [idx_getD hk, Option.bind_some, decide_eq_false hge, cond_false, Option.bind_some, decide_eq_false he, cond_false]
        unfold slc app at hm ⊢
        rw [if_pos (by omega), Option.bind_some] at hm ⊢
        simp only [Int.toNat_natCast, List.nil_append, Int.toNat_zero, List.drop_zero, List.length_nil] at hm ⊢
        rw [if_pos (by rw [List.length_take]; omega), Option.bind_some, if_pos (by rw [List.length_take]; simp; omega), Option.bind_some, if_pos (by omega), Option.bind_some, if_pos (by simp only [List.length_append, List.length_take, List.length_drop, List.length_cons, List.length_nil]; omega), Option.bind_some, List.take_length])]
      exact ⟨_, rfl, memTD _, lenTD _, ascTD _ (by omega) hlt (fun _ => by omega)⟩
def IntoR (acc v : List Int) (ts : List Term) : Prop := (∀ x, x ∈ v ↔ x ∈ acc ∨ x ∈ ts.map varOf) ∧ v.length ≤ acc.length + ts.length ∧ (Asc acc → Asc v)
theorem into_loop (f : List Int → Formula → Option (List Int)) : ∀ (l : List Formula) (i : Nat) (acc : List Int), (∀ a ∈ l, ∀ acc : List Int, acc.length + a.ats.length ≤ 1000000 → ∃ v, f acc a = some v ∧ IntoR acc v a.ats) → acc.length + (Formula.atss l).length ≤ 1000000 →
    ∃ v, forL (ρ := List Int) (fun _ x s => (f s x).bind fun v27 => some (.nx v27)) l i acc = some (.inr v) ∧ IntoR acc v (Formula.atss l)
  | [], i, acc, _, _ => ⟨acc, rfl, fun x => by simp [Formula.atss], by simp, id⟩
  | a :: l, i, acc, h, hb => by
    rw [Formula.atss, List.length_append] at hb
    obtain ⟨v, h1, h2, h3, h4⟩ := h a (by simp) acc (by omega)
    obtain ⟨u, g1, g2, g3, g4⟩ := into_loop f l (i + 1) v (fun x hx => h x (by simp [hx])) (by omega)
    refine ⟨u, by rw [forL_nx (s' := v) (by rw [h1]; rfl), g1], fun x => ?_, by rw [Formula.atss, List.length_append]; omega, fun h => g4 (h4 h)⟩
    rw [g2, h2, Formula.atss, List.map_append, List.mem_append, or_assoc]
theorem l20Into_eq (a : Formula) : ∀ acc : List Int, acc.length + a.ats.length ≤ 1000000 → ∃ v, (∀ n, 2 * SizeOf.sizeOf a ≤ n → spec_l20IntoN n acc a = some v) ∧ IntoR acc v a.ats := by
  refine Formula.ind' (M := fun a => ∀ acc : List Int, acc.length + a.ats.length ≤ 1000000 → ∃ v, (∀ n, 2 * SizeOf.sizeOf a ≤ n → spec_l20IntoN n acc a = some v) ∧ IntoR acc v a.ats) (fun a ih acc hb => ?_) a
  have hp := a.pos
  rw [Formula.ats_u] at hb ⊢
  cases e : decide (a.Op = 3)
  · rw [e, cond_false] at hb
    rw [cond_false]
    have ih' : ∀ x ∈ a.Parts, ∃ V : List Int → List Int, ∀ acc : List Int, acc.length + x.ats.length ≤ 1000000 → (∀ n, 2 * SizeOf.sizeOf x ≤ n → spec_l20IntoN n acc x = some (V acc)) ∧ IntoR acc (V acc) x.ats := fun x hx =>
      ⟨fun acc => if h : acc.length + x.ats.length ≤ 1000000 then Classical.choose (ih x hx acc h) else [], fun acc h => by simp only [h, dif_pos]; exact Classical.choose_spec (ih x hx acc h)⟩
    obtain ⟨V, hV⟩ := mem_choice ih'
    obtain ⟨v, h1, h2⟩ := into_loop (fun acc x => some (V x acc)) a.Parts 0 acc (fun x hx acc h => ⟨_, rfl, (hV x hx acc h).2⟩) hb
    refine ⟨v, fun n hn => ?_, h2⟩
    cases n with
    | zero => omega
    | succ n =>
      rw [spec_l20IntoN, e, cond_false, forN_idx a.Parts (fun _ x s => (spec_l20IntoN n s x).bind fun v27 => some (.nx v27))]
      have key : ∀ (l : List Formula) (i : Nat) (acc : List Int), (∀ x ∈ l, x ∈ a.Parts) → acc.length + (Formula.atss l).length ≤ 1000000 →
          forL (ρ := List Int) (fun _ x s => (spec_l20IntoN n s x).bind fun v27 => some (.nx v27)) l i acc = forL (ρ := List Int) (fun _ x s => (some (V x s)).bind fun v27 => some (.nx v27)) l i acc := by
        intro l
        induction l with
        | nil => intro i acc _ _; rfl
        | cons x l ihl =>
          intro i acc hm hb
          rw [Formula.atss, List.length_append] at hb
          have hx := hV x (hm x (by simp)) acc (by omega)
          rw [forL_nx (s' := V x acc) (by rw [hx.1 n (by have := Formula.lt (hm x (by simp)); omega)]; rfl), forL_nx (s' := V x acc) rfl]
          exact ihl (i + 1) _ (fun y hy => hm y (by simp [hy])) (by have := hx.2.2.1; omega)
      rw [key a.Parts 0 acc (fun _ h => h) hb, h1]; rfl
  · rw [e, cond_true] at hb
    rw [cond_true]
    obtain ⟨v, h1, h2, h3, h4⟩ := l1Put_eq acc (varOf a.Atom) (by simp at hb; omega)
    refine ⟨v, fun n hn => ?_, ⟨fun x => by rw [h2]; simp, by simpa using h3, h4⟩⟩
    cases n with
    | zero => omega
    | succ n => rw [spec_l20IntoN, e, cond_true, l20Variable_eq, Option.bind_some, h1]; rfl
theorem l20Into_ok (a : Formula) (acc : List Int) (hb : acc.length + a.ats.length ≤ 1000000) : ∃ v, spec_l20Into acc a = some v ∧ IntoR acc v a.ats := by
  obtain ⟨v, h1, h2⟩ := l20Into_eq a acc hb
  exact ⟨v, lim_eq ⟨_, h1⟩, h2⟩
/-! truth -/
theorem one_part {l : List Formula} (h : l.length = 1) : ∃ x, l = [x] := by
  match l, h with
  | [x], _ => exact ⟨x, rfl⟩
theorem two_parts {l : List Formula} (h : l.length = 2) : ∃ x y, l = [x, y] := by
  match l, h with
  | [x, y], _ => exact ⟨x, y, rfl⟩
theorem form_len {a : Formula} (h : a.good = true) (hv : a.vf = true) : a.Op = 1 ∨ a.Op = 2 ∨ a.Op = 3 ∨ (a.Op = 4 ∧ a.Parts.length = 1) ∨ ((a.Op = 5 ∨ a.Op = 6 ∨ a.Op = 7) ∧ a.Parts.length = 2) := by
  have hf := good_form h
  rw [Formula.vf_u] at hv
  unfold formC at hf
  rcases op_cases a.Op with e | e | e | e | e | e | e | e | e | ⟨g1, g2, g3, g4, g5, g6, g7, g8, g9⟩
  · exact .inl e
  · exact .inr (.inl e)
  · exact .inr (.inr (.inl e))
  · rw [e] at hf; simp at hf; exact .inr (.inr (.inr (.inl ⟨e, hf.1⟩)))
  · rw [e] at hf; simp at hf; exact .inr (.inr (.inr (.inr ⟨.inl e, hf.1⟩)))
  · rw [e] at hf; simp at hf; exact .inr (.inr (.inr (.inr ⟨.inr (.inl e), hf.1⟩)))
  · rw [e] at hf; simp at hf; exact .inr (.inr (.inr (.inr ⟨.inr (.inr e), hf.1⟩)))
  · rw [e] at hv; simp at hv
  · rw [e] at hv; simp at hv
  · rw [decide_eq_false g3, decide_eq_false g8, decide_eq_false g9, decide_eq_false g1, decide_eq_false g2, decide_eq_false g4, decide_eq_false g5, decide_eq_false g6, decide_eq_false g7] at hf
    cases hf
theorem vf_parts {a : Formula} (hv : a.vf = true) (h3 : a.Op ≠ 3) : ∀ x ∈ a.Parts, x.vf = true := by
  rw [Formula.vf_u, decide_eq_false h3, cond_false] at hv
  cases h8 : decide (a.Op = 8)
  · rw [h8, cond_false] at hv
    cases h9 : decide (a.Op = 9)
    · rw [h9, cond_false, List.all_eq_true] at hv; exact hv
    · rw [h9] at hv; cases hv
  · rw [h8] at hv; cases hv
theorem ats_parts {a x : Formula} (h3 : a.Op ≠ 3) (hx : x ∈ a.Parts) {t : Term} (ht : t ∈ x.ats) : t ∈ a.ats := by
  rw [Formula.ats_u, decide_eq_false h3, cond_false]
  exact atss_mem.2 ⟨x, hx, ht⟩
theorem idx0 {α : Type} (x : α) (l : List α) : idx (x :: l) 0 = some x := rfl
theorem idx1 {α : Type} (x y : α) (l : List α) : idx (x :: y :: l) 1 = some y := rfl
theorem ev_eq (p : Int → Bool) (s : List Int) (hs : ∀ x, hasI s x = p x) (ts : List Term) (m : Int) (a : Formula) : a.good = true → a.vf = true →
    (∀ t ∈ a.ats, (Option.bind (impl_indexOfAtom ts t) fun v17 => Option.bind (shr .i64 m v17) fun v18 => some (decide ((bitand .i64 v18 (1 : Int)) = (1 : Int)))) = some (p (varOf t))) →
    ∀ n, 2 * SizeOf.sizeOf a ≤ n → spec_l20ValueN n a s = some (a.ev p) ∧ impl_truthOfN n a ts m = some (a.ev p) := by
  refine Formula.ind' (M := fun a => a.good = true → a.vf = true →
    (∀ t ∈ a.ats, (Option.bind (impl_indexOfAtom ts t) fun v17 => Option.bind (shr .i64 m v17) fun v18 => some (decide ((bitand .i64 v18 (1 : Int)) = (1 : Int)))) = some (p (varOf t))) →
    ∀ n, 2 * SizeOf.sizeOf a ≤ n → spec_l20ValueN n a s = some (a.ev p) ∧ impl_truthOfN n a ts m = some (a.ev p)) (fun a ih hg hv ht n hn => ?_) a
  have hp := a.pos
  cases n with
  | zero => omega
  | succ n =>
    have sub : a.Op ≠ 3 → ∀ x ∈ a.Parts, spec_l20ValueN n x s = some (x.ev p) ∧ impl_truthOfN n x ts m = some (x.ev p) := fun h3 x hx =>
      ih x hx (good_parts hg x hx) (vf_parts hv h3 x hx) (fun t h => ht t (ats_parts h3 hx h)) n (by have := Formula.lt hx; omega)
    rw [spec_l20ValueN, impl_truthOfN, Formula.ev_u]
    rcases form_len hg hv with e | e | e | ⟨e, hl⟩ | ⟨e, hl⟩
    · simp only [e]; exact ⟨rfl, rfl⟩
    · simp only [e]
      refine ⟨rfl, ?_⟩
      rfl
    · have h1 := ht a.Atom (by rw [Formula.ats_u, decide_eq_true e, cond_true]; simp)
      simp only [e]
      refine ⟨?_, h1⟩
      show (Option.bind (spec_l20Variable a.Atom) fun v18 => Option.bind (spec_l1Has s v18) fun v19 => some v19) = some (p (varOf a.Atom))
      rw [l20Variable_eq, Option.bind_some, Has_eq, Option.bind_some, hs]
    · obtain ⟨x, hx⟩ := one_part hl
      obtain ⟨k1, k2⟩ := sub (by omega) x (by rw [hx]; simp)
      simp only [e, hx, idx0, Option.bind_some, k1, k2]
      exact ⟨rfl, rfl⟩
    · obtain ⟨x, y, hx⟩ := two_parts hl
      obtain ⟨k1, k2⟩ := sub (by omega) x (by rw [hx]; simp)
      obtain ⟨k3, k4⟩ := sub (by omega) y (by rw [hx]; simp)
      rcases e with e | e | e <;> simp only [e, hx, idx0, idx1, Option.bind_some, k1, k2, k3, k4, List.map_cons, List.map_nil, List.getD_cons_zero, List.getD_cons_succ] <;> cases x.ev p <;> cases y.ev p <;> exact ⟨rfl, rfl⟩
theorem value_ok {s : List Int} {a : Formula} (hg : a.good = true) (hv : a.vf = true) : spec_l20Value a s = some (a.ev (hasI s)) := by
  have hall : ∀ (p : Int → Bool) (a : Formula), (∀ x, hasI s x = p x) → a.good = true → a.vf = true → ∀ n, 2 * SizeOf.sizeOf a ≤ n → spec_l20ValueN n a s = some (a.ev p) := by
    intro p a hs
    refine Formula.ind' (M := fun a => a.good = true → a.vf = true → ∀ n, 2 * SizeOf.sizeOf a ≤ n → spec_l20ValueN n a s = some (a.ev p)) (fun a ih hg hv n hn => ?_) a
    have hp := a.pos
    cases n with
    | zero => omega
    | succ n =>
      have sub : a.Op ≠ 3 → ∀ x ∈ a.Parts, spec_l20ValueN n x s = some (x.ev p) := fun h3 x hx =>
        ih x hx (good_parts hg x hx) (vf_parts hv h3 x hx) n (by have := Formula.lt hx; omega)
      rw [spec_l20ValueN, Formula.ev_u]
      rcases form_len hg hv with e | e | e | ⟨e, hl⟩ | ⟨e, hl⟩
      · simp only [e]; rfl
      · simp only [e]; rfl
      · simp only [e]
        show (Option.bind (spec_l20Variable a.Atom) fun v18 => Option.bind (spec_l1Has s v18) fun v19 => some v19) = some (p (varOf a.Atom))
        rw [l20Variable_eq, Option.bind_some, Has_eq, Option.bind_some, hs]
      · obtain ⟨x, hx⟩ := one_part hl
        have k1 := sub (by omega) x (by rw [hx]; simp)
        simp only [e, hx, idx0, Option.bind_some, k1]; rfl
      · obtain ⟨x, y, hx⟩ := two_parts hl
        have k1 := sub (by omega) x (by rw [hx]; simp)
        have k3 := sub (by omega) y (by rw [hx]; simp)
        rcases e with e | e | e <;> simp only [e, hx, idx0, idx1, Option.bind_some, k1, k3, List.map_cons, List.map_nil, List.getD_cons_zero, List.getD_cons_succ] <;> cases x.ev p <;> cases y.ev p <;> rfl
  exact lim_eq ⟨_, hall (hasI s) a (fun _ => rfl) hg hv⟩
/-! the different atoms -/
theorem copy_leaf (nm : ByteArray) : impl_copyTerm ⟨nm, []⟩ = some ⟨nm, []⟩ := lim_eq ⟨2, fun n hn => by
  obtain ⟨m, rfl⟩ : ∃ m, n = m + 2 := ⟨n - 2, by omega⟩
  show impl_copyTermN (m + 2) _ = _
  rw [impl_copyTermN]
  show Option.bind (impl_copyTermsN (m + 1) []) _ = _
  rw [impl_copyTermsN]; rfl⟩
theorem any_sameT {l : List Term} {t : Term} : l.any (fun x => same x t) = true ↔ t ∈ l := by
  rw [List.any_eq_true]
  constructor
  · rintro ⟨x, h1, h2⟩; rw [← same_iff.1 h2]; exact h1
  · exact fun h => ⟨t, h, same_iff.2 rfl⟩
theorem addAtom_eq (l : List Term) (t : Term) (ht : t.Args = []) (hb : l.length ≤ 1000000) : ∃ v, impl_addAtom l t = some v ∧ (∀ x, x ∈ v ↔ x ∈ l ∨ x = t) ∧ v.length ≤ l.length + 1 := by
  unfold impl_addAtom slices_ContainsFunc_Simpl_Term_impl_Term slices_IndexFunc_Simpl_Term_impl_Term
  rw [show _ = some (l.any (fun x => same x t)) from find_list (f := fun y0 => impl_addAtom_1 y0 t) (p := fun x => same x t) l (fun x _ => by unfold impl_addAtom_1; rw [EqualTerms_ok]; rfl), Option.bind_some]
  cases e : l.any (fun x => same x t)
  · have hc : impl_copyTerm t = some t := by
      have := copy_leaf t.Name
      rw [← ht, t.eta] at this; exact this
    rw [cond_false, hc, Option.bind_some]
    unfold app
    rw [if_pos (by simp; omega)]
    exact ⟨_, rfl, fun x => by simp, by simp⟩
  · have := any_sameT.1 e
    exact ⟨l, rfl, fun x => ⟨.inl, fun h => h.elim id (fun h => by rw [h]; exact this)⟩, by omega⟩
theorem diff_loop : ∀ (l : List Term) (i : Nat) (acc : List Term), (∀ t ∈ l, t.Args = []) → acc.length + l.length ≤ 1000000 →
    ∃ v, forL (ρ := List Term) (fun _ x s => (impl_addAtom s x).bind fun v16 => some (.nx v16)) l i acc = some (.inr v) ∧ (∀ x, x ∈ v ↔ x ∈ acc ∨ x ∈ l) ∧ v.length ≤ acc.length + l.length
  | [], i, acc, _, _ => ⟨acc, rfl, fun x => by simp, by simp⟩
  | t :: l, i, acc, h, hb => by
    rw [List.length_cons] at hb
    obtain ⟨v, h1, h2, h3⟩ := addAtom_eq acc t (h t (by simp)) (by omega)
    obtain ⟨u, g1, g2, g3⟩ := diff_loop l (i + 1) v (fun x hx => h x (by simp [hx])) (by omega)
    refine ⟨u, by rw [forL_nx (s' := v) (by rw [h1]; rfl), g1], fun x => by rw [g2, h2, List.mem_cons, or_assoc], by rw [List.length_cons]; omega⟩
theorem ats_vf {a : Formula} (hg : a.good = true) (hv : a.vf = true) : ∀ t ∈ a.ats, varOf t ≠ 0 := fun t ht => by
  rw [vf_split a hg, Bool.and_eq_true, List.all_eq_true] at hv
  simpa using hv.2 t ht
theorem different_eq {a : Formula} (hc : a.cnt ≤ 40) (hg : a.good = true) (hv : a.vf = true) : ∃ v, impl_differentAtoms a = some v ∧ (∀ x, x ∈ v ↔ x ∈ a.ats) ∧ v.length ≤ 40 := by
  have hl := ats_cnt a
  obtain ⟨v, h1, h2, h3⟩ := diff_loop a.ats 0 [] (fun t ht => (varOf_nn t).2.2 (ats_vf hg hv t ht)) (by simp; omega)
  refine ⟨v, ?_, fun x => by rw [h2]; simp, by simp at h3; omega⟩
  unfold impl_differentAtoms
  rw [show impl_atomsOf a = some a.ats from lim_eq ⟨_, atomsOf_eq a (by omega)⟩, Option.bind_some]
  have e := forN_idx (ρ := List Term) a.ats (fun i x (s : List Term) => (idx a.ats (i : Int)).bind fun v13 => (impl_addAtom s v13).bind fun v16 => some (.nx v16)) []
  rw [e, forL_congr (g := fun _ x s => (impl_addAtom s x).bind fun v16 => some (.nx v16)) a.ats 0 [] (fun j x s hx => by
    rw [Nat.zero_add, idx_nat, hx, Option.bind_some]), h1]; rfl
theorem bits_loop (s : List Int) : ∀ (l : List Term) (i m : Nat), i + l.length ≤ 40 → m < 2 ^ i →
    ∃ M : Nat, forL (ρ := Bool) (fun i x (s4 : Int) => (impl_variableOf x).bind fun v21 => (slices_Contains_Sint_int s v21).bind fun v22 => (impl_flag v22).bind fun v23 => (shl .i64 v23 (i : Int)).bind fun v25 => some (.nx (bitor .i64 s4 v25))) l i (m : Int) = some (.inr (M : Int)) ∧ M < 2 ^ (i + l.length) ∧
      (∀ j, j < i → M.testBit j = m.testBit j) ∧ ∀ j, j < l.length → M.testBit (i + j) = hasI s (varOf (l.getD j default))
  | [], i, m, hb, hm => ⟨m, rfl, by simpa using hm, fun _ _ => rfl, fun j hj => absurd hj (by simp)⟩
  | t :: l, i, m, hb, hm => by
    rw [List.length_cons] at hb
    have hp : 2 ^ i ≤ 2 ^ 40 := Nat.pow_le_pow_right (by omega) (by omega)
    have hp1 : 2 ^ (i + 1) ≤ 2 ^ 40 := Nat.pow_le_pow_right (by omega) (by omega)
    have hs1 : (hasI s (varOf t)).toNat <<< i < 2 ^ (i + 1) := by
      rw [Nat.shiftLeft_eq, Nat.pow_succ]
      have := Bool.toNat_le (hasI s (varOf t))
      have : (hasI s (varOf t)).toNat * 2 ^ i ≤ 1 * 2 ^ i := Nat.mul_le_mul_right _ this
      have : 0 < 2 ^ i := Nat.two_pow_pos i
      omega
    have hm1 : m < 2 ^ (i + 1) := Nat.lt_of_lt_of_le hm (Nat.pow_le_pow_right (by omega) (by omega))
    obtain ⟨M, h1, h2, h3, h4⟩ := bits_loop s l (i + 1) (m ||| (hasI s (varOf t)).toNat <<< i) (by omega) (Nat.or_lt_two_pow hm1 hs1)
    refine ⟨M, ?_, by rw [List.length_cons, show i + (l.length + 1) = i + 1 + l.length from by omega]; exact h2, fun j hj => ?_, fun j hj => ?_⟩
    · rw [forL_nx (s' := ((m ||| (hasI s (varOf t)).toNat <<< i : Nat) : Int)) (by
        rw [variableOf_eq, Option.bind_some, Contains_eq, Option.bind_some, flag_eq, Option.bind_some, shl_flag _ (by omega), Option.bind_some, bitor_nat (by omega) (by omega)]), h1]
    · rw [h3 j (by omega), Nat.testBit_or, Nat.testBit_shiftLeft]
      simp [show ¬ j ≥ i by omega]
    · cases j with
      | zero =>
        rw [Nat.add_zero, h3 i (by omega), Nat.testBit_or, Nat.testBit_shiftLeft, Nat.testBit_lt_two_pow hm, List.getD_cons_zero, Nat.sub_self]
        cases hasI s (varOf t) <;> simp
      | succ j => rw [List.getD_cons_succ, ← h4 j (by rw [List.length_cons] at hj; omega), show i + (j + 1) = i + 1 + j from by omega]
theorem indexOf_mem {l : List Term} {t : Term} (h : t ∈ l) : ∃ k : Nat, impl_indexOfAtom l t = some (k : Int) ∧ k < l.length ∧ l.getD k default = t := by
  unfold impl_indexOfAtom slices_IndexFunc_Simpl_Term_impl_Term
  rw [forN_ffind (q := fun j => same (l.getD j default) t) l.length 0 (fun j _ hj => by
    simp only [idx_getD (show j < l.length by omega), Option.bind_some, impl_indexOfAtom_1, EqualTerms_ok]
    cases same (l.getD j default) t <;> rfl), Option.bind_some]
  rcases ffind_cases (fun j => same (l.getD j default) t) l.length 0 with ⟨_, h2⟩ | ⟨k, h1, _, h3, h4, _⟩
  · obtain ⟨j, hj, e⟩ := List.getElem_of_mem h
    have := h2 j (by omega) (by omega)
    rw [List.getD_eq_getElem?_getD, List.getElem?_eq_getElem hj, Option.getD_some, e, same_iff.2 rfl] at this
    cases this
  · exact ⟨k, by rw [h1], by omega, same_iff.1 h4⟩
theorem evaluate_ok {a : Formula} {s : List Int} (hc : a.cnt ≤ 40) (hg : a.good = true) (hv : a.vf = true) : impl_evaluateOn a s = some (a.ev (hasI s)) := by
  obtain ⟨D, h1, h2, h3⟩ := different_eq hc hg hv
  obtain ⟨M, g1, g2, _, g4⟩ := bits_loop s D 0 0 (by omega) (by simp)
  have hM : M < 2 ^ 62 := Nat.lt_of_lt_of_le g2 (Nat.pow_le_pow_right (by omega) (by omega))
  have ht : impl_truthOf a D (M : Int) = some (a.ev (hasI s)) := by
    refine lim_eq ⟨_, fun n hn => (ev_eq (hasI s) s (fun _ => rfl) D (M : Int) a hg hv (fun t hm => ?_) n hn).2⟩
    obtain ⟨k, e1, e2, e3⟩ := indexOf_mem ((h2 t).2 hm)
    rw [e1, Option.bind_some, shr_eq (by omega), Option.bind_some, bit_test hM, ← e3, ← g4 k e2, Nat.zero_add]
  unfold impl_evaluateOn
  rw [h1, Option.bind_some, forN_idx (ρ := Bool) D (fun i x (s4 : Int) => (impl_variableOf x).bind fun v21 => (slices_Contains_Sint_int s v21).bind fun v22 => (impl_flag v22).bind fun v23 => (shl .i64 v23 (i : Int)).bind fun v25 => some (.nx (bitor .i64 s4 v25))) 0, show (0 : Int) = ((0 : Nat) : Int) from rfl, g1, thenL_inr, ht]; rfl
end Go.Proofs.YtkokcfphepmeeaaGreatDoor
