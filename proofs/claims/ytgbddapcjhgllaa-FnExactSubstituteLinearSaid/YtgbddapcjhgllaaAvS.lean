/- A part of the proof: lemmas only; nothing is claimed here beyond what each lemma says. -/
/- Plain laws on strings; scans. -/
import Derived.Test.YtgbddapcjhgllaaAvQ
set_option linter.unusedSimpArgs false
set_option linter.unusedVariables false
set_option linter.defProp false
namespace Go.Av
def byt (s : ByteArray) (i : Nat) : Int := ((s.data.toList.getD i 0).toNat : Int)
theorem sidx_nat {s : ByteArray} {i : Nat} (h : i < s.size) : sidx s (i : Int) = some (byt s i) := by
  unfold sidx byt
  rw [if_pos (by omega)]; simp
theorem sidx0 {s : ByteArray} (h : 0 < s.size) : sidx s 0 = some (byt s 0) := sidx_nat (i := 0) h
theorem bnd_nat {n : Nat} (h : Big n) : bnd (n : Int) = some n := by
  unfold bnd
  simp only [Big] at h
  rw [if_pos (by omega)]; simp
theorem bytesLess_irrefl : ∀ a : List UInt8, Op.bytesLess a a = false
  | [] => rfl
  | x :: a => by simp [Op.bytesLess, bytesLess_irrefl a]
theorem bytesLess_asymm : ∀ {a b : List UInt8}, Op.bytesLess a b = true → Op.bytesLess b a = false
  | _, [], h => by simp [Op.bytesLess] at h
  | [], _ :: _, _ => rfl
  | x :: a, y :: b, h => by
    simp only [Op.bytesLess, Bool.or_eq_true, decide_eq_true_eq, Bool.and_eq_true, beq_iff_eq] at h
    simp only [Op.bytesLess, Bool.or_eq_false_iff, decide_eq_false_iff_not, Bool.and_eq_false_iff]
    rcases h with h | ⟨rfl, h⟩
    · refine ⟨fun g => ?_, .inl ?_⟩
      · exact absurd (UInt8.lt_trans h g) (UInt8.lt_irrefl _)
      · simp only [beq_eq_false_iff_ne]; rintro rfl; exact absurd h (UInt8.lt_irrefl _)
    · exact ⟨UInt8.lt_irrefl _, .inr (bytesLess_asymm h)⟩
theorem bytesLess_total : ∀ {a b : List UInt8}, Op.bytesLess a b = false → Op.bytesLess b a = false → a = b
  | [], [], _, _ => rfl
  | [], _ :: _, h, _ => by simp [Op.bytesLess] at h
  | _ :: _, [], _, h => by simp [Op.bytesLess] at h
  | x :: a, y :: b, h, h' => by
    simp only [Op.bytesLess, Bool.or_eq_false_iff, decide_eq_false_iff_not, Bool.and_eq_false_iff, beq_eq_false_iff_ne] at h h'
    have e : x = y := by
      rcases Nat.lt_trichotomy x.toNat y.toNat with g | g | g
      · exact absurd (UInt8.lt_iff_toNat_lt.2 g) h.1
      · exact UInt8.toNat_inj.1 g
      · exact absurd (UInt8.lt_iff_toNat_lt.2 g) h'.1
    subst e
    have := bytesLess_total (a := a) (b := b) (by simpa using h.2) (by simpa using h'.2)
    rw [this]
theorem bytesLess_trans : ∀ {a b c : List UInt8}, Op.bytesLess a b = true → Op.bytesLess b c = true → Op.bytesLess a c = true
  | _, [], _, h, _ => by simp [Op.bytesLess] at h
  | _, _ :: _, [], _, h => by simp [Op.bytesLess] at h
  | [], _ :: _, _ :: _, _, _ => rfl
  | x :: a, y :: b, z :: c, h, h' => by
    simp only [Op.bytesLess, Bool.or_eq_true, decide_eq_true_eq, Bool.and_eq_true, beq_iff_eq] at h h' ⊢
    rcases h with h | ⟨rfl, h⟩
    · rcases h' with h' | ⟨rfl, h'⟩
      · exact .inl (UInt8.lt_trans h h')
      · exact .inl h
    · rcases h' with h' | ⟨rfl, h'⟩
      · exact .inl h'
      · exact .inr ⟨rfl, bytesLess_trans h h'⟩
def slt (a b : ByteArray) : Bool := Op.bytesLess a.data.toList b.data.toList
theorem ba_ext {a b : ByteArray} (h : a.data.toList = b.data.toList) : a = b := by
  cases a; cases b; simp at h; simpa using h
theorem slt_le (a b : ByteArray) : (slt a b || decide (a = b)) = !slt b a := by
  unfold slt
  cases h : Op.bytesLess b.data.toList a.data.toList
  · cases h' : Op.bytesLess a.data.toList b.data.toList
    · have := ba_ext (bytesLess_total h' h)
      simp [this]
    · rfl
  · have h2 := bytesLess_asymm h
    rw [h2]
    have : a ≠ b := by rintro rfl; rw [bytesLess_irrefl] at h; cases h
    simp [this]
theorem szR_ok {t : Nat} (e : ¬ szR t 1048576 < 0) : t ≤ 1048576 := by
  have := mt (szR_neg (t := t) (l := 1048576) (by omega)).2 e
  simp only [Classical.not_not] at this; omega
/-- A loop that answers at the first place where a test fails, from a later place on. -/
theorem forN_all1 {ρ : Type} (c : Nat → Bool) {f : Nat → Unit → Option (Flow ρ Unit)} {r0 : ρ} {n : Nat} {k : Unit → Option ρ} (hn : 0 < n) (h0 : c 0 = true) (h : ∀ j, 0 < j → j < n → (∀ k, k < j → c k = true) → f j () = some (bif c j then .nx () else .rt r0)) :
    thenL (forN f (n - 1) 1 ()) k = bif (List.range n).all c then k () else some r0 := by
  have key : ∀ (m i : Nat), 0 < i → (∀ j, j < i → c j = true) → i + m = n → forN f m i () = some (bif (List.range n).all c then .inr () else .inl r0) := by
    intro m
    induction m with
    | zero =>
      intro i _ hc hi
      have : (List.range n).all c = true := List.all_eq_true.2 (fun x hx => hc x (by simp at hx; omega))
      rw [this]; rfl
    | succ m ih =>
      intro i hi0 hc hi
      have g := h i hi0 (by omega) hc
      by_cases e : c i = true
      · rw [forN_nx (s' := ()) (by rw [g, e]; rfl)]
        exact ih (i + 1) (by omega) (fun j hj => by rcases Nat.lt_or_ge j i with g | g; exact hc j g; have : j = i := by omega
                                                    rw [this]; exact e) (by omega)
      · have e1 : c i = false := by simpa using e
        rw [forN_rt (r := r0) (by rw [g, e1]; rfl)]
        have : (List.range n).all c = false := List.all_eq_false.2 ⟨i, by simp; omega, by simp [e1]⟩
        rw [this]; rfl
  rw [key (n - 1) 1 (by omega) (fun j hj => by have : j = 0 := by omega
                                               rw [this]; exact h0) (by omega)]
  cases (List.range n).all c <;> rfl
end Go.Av
namespace Go.Av
end Go.Av
namespace Go.Av
end Go.Av
namespace Go.Av
end Go.Av
namespace Go.Av
/-- The first index at which a test holds, or -1. -/
def ffind (q : Nat → Bool) : Nat → Nat → Int
  | 0, _ => -1
  | n + 1, i => bif q i then (i : Int) else ffind q n (i + 1)
theorem ffind_cases (q : Nat → Bool) : ∀ (n i : Nat), (ffind q n i = -1 ∧ ∀ j, i ≤ j → j < i + n → q j = false) ∨ ∃ k : Nat, ffind q n i = k ∧ i ≤ k ∧ k < i + n ∧ q k = true ∧ ∀ j, i ≤ j → j < k → q j = false
  | 0, i => .inl ⟨rfl, fun j h1 h2 => by omega⟩
  | n + 1, i => by
    rw [ffind]
    cases e : q i
    · rcases ffind_cases q n (i + 1) with ⟨h1, h2⟩ | ⟨k, h1, h2, h3, h4, h5⟩
      · refine .inl ⟨h1, fun j g1 g2 => ?_⟩
        by_cases g : j = i
        · rw [g, e]
        · exact h2 j (by omega) (by omega)
      · refine .inr ⟨k, h1, by omega, by omega, h4, fun j g1 g2 => ?_⟩
        by_cases g : j = i
        · rw [g, e]
        · exact h5 j (by omega) g2
    · exact .inr ⟨i, rfl, by omega, by omega, e, fun j g1 g2 => by omega⟩
/-- A loop that answers at its first hit. -/
theorem forN_hit {ρ : Type} {f : Nat → Unit → Option (Flow ρ Unit)} {r : ρ} {k : Unit → Option ρ} : ∀ (n i h : Nat), i ≤ h → h < i + n → (∀ j, i ≤ j → j < h → f j () = some (.nx ())) → f h () = some (.rt r) → thenL (forN f n i ()) k = some r
  | 0, i, h, h1, h2, _, _ => by omega
  | n + 1, i, h, h1, h2, h3, h4 => by
    by_cases e : i = h
    · subst e; rw [forN_rt h4, thenL_inl]
    · rw [forN_nx (h3 i (by omega) (by omega))]
      exact forN_hit n (i + 1) h (by omega) (by omega) (fun j g1 g2 => h3 j (by omega) g2) h4
theorem forN_nohit {ρ : Type} {f : Nat → Unit → Option (Flow ρ Unit)} {k : Unit → Option ρ} : ∀ (n i : Nat), (∀ j, i ≤ j → j < i + n → f j () = some (.nx ())) → thenL (forN f n i ()) k = k ()
  | 0, i, _ => rfl
  | n + 1, i, h => by
    rw [forN_nx (h i (by omega) (by omega))]
    exact forN_nohit n (i + 1) (fun j g1 g2 => h j (by omega) (by omega))
theorem whileN_nx {ρ σ : Type} {f : σ → Option (Flow ρ σ)} {n : Nat} {s s' : σ} (h : f s = some (.nx s')) : whileN f (n + 1) s = whileN f n s' := by simp [whileN, h]
theorem whileN_br {ρ σ : Type} {f : σ → Option (Flow ρ σ)} {n : Nat} {s s' : σ} (h : f s = some (.br s')) : whileN f (n + 1) s = some (.inr s') := by simp [whileN, h]
theorem u64_nat {n : Nat} (h : n ≤ 9223372036854775807) : IntKind.u64.wrap (n : Int) = n := by
  simp [IntKind.wrap, IntKind.bits, IntKind.signed]; omega
theorem shr1 {n : Nat} : shr .u64 (n : Int) 1 = some ((n / 2 : Nat) : Int) := by
  unfold shr
  rw [if_pos (by omega)]
  congr 1
  show (n : Int).fdiv (2 ^ 1) = _
  rw [Int.pow_one, Int.fdiv_eq_ediv_of_nonneg _ (by omega)]
  omega
theorem bs_mid {i j : Nat} (h : i + j ≤ 9223372036854775807) : shr .u64 (IntKind.u64.wrap (IntKind.i64.wrap ((i : Int) + (j : Int)))) 1 = some (((i + j) / 2 : Nat) : Int) := by
  have e : IntKind.i64.wrap ((i : Int) + (j : Int)) = ((i + j : Nat) : Int) := by rw [wrap64] <;> omega
  rw [e, u64_nat h, shr1]
/-- Binary search: where a test that holds up to some place stops holding. -/
theorem bs_loop {ρ : Type} {q : Nat → Bool} {f : Int × Int → Option (Flow ρ (Int × Int))} {N : Nat} (hN : N ≤ 4000000000000000000) (mono : ∀ i j, i < j → j < N → q j = true → q i = true)
    (hf : ∀ i j : Nat, i < j → j ≤ N → f ((i : Int), (j : Int)) = some (.nx (bif q ((i + j) / 2) then ((((i + j) / 2 + 1 : Nat) : Int), (j : Int)) else ((i : Int), (((i + j) / 2 : Nat) : Int)))))
    (hb : ∀ i : Nat, f ((i : Int), (i : Int)) = some (.br ((i : Int), (i : Int)))) :
    ∃ p : Nat, p ≤ N ∧ (lim fun n => whileN f n ((0 : Int), (N : Int))) = some (.inr ((p : Int), (p : Int))) ∧ (∀ k, k < p → q k = true) ∧ (∀ k, p ≤ k → k < N → q k = false) := by
  have key : ∀ (d i j : Nat), j - i = d → i ≤ j → j ≤ N → (∀ k, k < i → q k = true) → (∀ k, j ≤ k → k < N → q k = false) →
      ∃ p : Nat, p ≤ N ∧ (∀ m, d < m → whileN f m ((i : Int), (j : Int)) = some (.inr ((p : Int), (p : Int)))) ∧ (∀ k, k < p → q k = true) ∧ (∀ k, p ≤ k → k < N → q k = false) := by
    intro d
    induction d using Nat.strongRecOn with
    | _ d ih =>
      intro i j hd hij hj h1 h2
      by_cases e : i = j
      · subst e
        refine ⟨i, hj, fun m hm => ?_, h1, h2⟩
        cases m with
        | zero => omega
        | succ m => rw [whileN_br (hb i)]
      · have hlt : i < j := by omega
        have hh := hf i j hlt hj
        cases c : q ((i + j) / 2)
        · obtain ⟨p, g1, g2, g3, g4⟩ := ih ((i + j) / 2 - i) (by omega) i ((i + j) / 2) rfl (by omega) (by omega) h1 (fun k k1 k2 => by
            rcases Nat.lt_or_ge k j with g | g
            · cases ck : q k with
              | false => rfl
              | true =>
                by_cases ek : (i + j) / 2 = k
                · rw [ek] at c; rw [c] at ck; cases ck
                · rw [mono _ k (by omega) k2 ck] at c; cases c
            · exact h2 k g k2)
          refine ⟨p, g1, fun m hm => ?_, g3, g4⟩
          cases m with
          | zero => omega
          | succ m => rw [whileN_nx hh, c]; exact g2 m (by omega)
        · obtain ⟨p, g1, g2, g3, g4⟩ := ih (j - ((i + j) / 2 + 1)) (by omega) ((i + j) / 2 + 1) j rfl (by omega) hj (fun k hk => by
            by_cases ek : k = (i + j) / 2
            · rw [ek]; exact c
            · exact mono k _ (by omega) (by omega) c) h2
          refine ⟨p, g1, fun m hm => ?_, g3, g4⟩
          cases m with
          | zero => omega
          | succ m => rw [whileN_nx hh, c]; exact g2 m (by omega)
  obtain ⟨p, g1, g2, g3, g4⟩ := key N 0 N rfl (by omega) (Nat.le_refl _) (by omega) (by omega)
  exact ⟨p, g1, lim_eq ⟨N + 1, fun n hn => g2 n (by omega)⟩, g3, g4⟩
end Go.Av
