/- A part of the proof: lemmas only; nothing is claimed here beyond what each lemma says. -/
import Derived.Test.YtkokcfphepmeeaaGreatDoorGfE
import Derived.Test.YtkokcfphepmeeaaGreatDoorAvZ
set_option linter.unusedSimpArgs false
set_option linter.unusedVariables false
set_option linter.defProp false
set_option maxRecDepth 4000
namespace Go.Proofs.YtkokcfphepmeeaaGreatDoor
open Go.Av
/-! numbers as texts -/
def VN : List ByteArray := [⟨#[118, 49]⟩, ⟨#[118, 50]⟩, ⟨#[118, 51]⟩, ⟨#[118, 52]⟩, ⟨#[118, 53]⟩, ⟨#[118, 54]⟩, ⟨#[118, 55]⟩, ⟨#[118, 56]⟩, ⟨#[118, 57]⟩, ⟨#[118, 49, 48]⟩, ⟨#[118, 49, 49]⟩, ⟨#[118, 49, 50]⟩]
def DG : List ByteArray := [⟨#[49]⟩, ⟨#[50]⟩, ⟨#[51]⟩, ⟨#[52]⟩, ⟨#[53]⟩, ⟨#[54]⟩, ⟨#[55]⟩, ⟨#[56]⟩, ⟨#[57]⟩, ⟨#[49, 48]⟩, ⟨#[49, 49]⟩, ⟨#[49, 50]⟩]
def vnm (k : Nat) : ByteArray := VN.getD k default
def dgm (k : Nat) : ByteArray := DG.getD k default
theorem twelve {k : Nat} (h : k < 12) : k = 0 ∨ k = 1 ∨ k = 2 ∨ k = 3 ∨ k = 4 ∨ k = 5 ∨ k = 6 ∨ k = 7 ∨ k = 8 ∨ k = 9 ∨ k = 10 ∨ k = 11 := by omega
theorem Itoa_eq {k : Nat} (h : k < 12) : strconv_Itoa ((k + 1 : Nat) : Int) = some (dgm k) := by
  rcases twelve h with rfl | rfl | rfl | rfl | rfl | rfl | rfl | rfl | rfl | rfl | rfl | rfl <;> rfl
theorem vn_app {k : Nat} (h : k < 12) : sapp (⟨#[118]⟩ : ByteArray) (dgm k) = some (vnm k) := by
  rcases twelve h with rfl | rfl | rfl | rfl | rfl | rfl | rfl | rfl | rfl | rfl | rfl | rfl <;> rfl
theorem num_eq {k : Nat} (h : k < 12) : spec_l1Num ((k + 1 : Nat) : Int) = some (dgm k) := by
  refine lim_eq ⟨2, fun n hn => ?_⟩
  obtain ⟨m, rfl⟩ : ∃ m, n = m + 2 := ⟨n - 2, by omega⟩
  rcases twelve h with rfl | rfl | rfl | rfl | rfl | rfl | rfl | rfl | rfl | rfl | rfl | rfl <;> rfl
theorem read_num {k : Nat} (h : k < 12) : spec_l1Read (dgm k) = Option.bind (spec_l1Num ((k + 1 : Nat) : Int)) fun v => bif decide (v = dgm k) then some (((k + 1 : Nat) : Int), true) else some (0, false) := by
  rcases twelve h with rfl | rfl | rfl | rfl | rfl | rfl | rfl | rfl | rfl | rfl | rfl | rfl <;> rfl
theorem read_dg {k : Nat} (h : k < 12) : spec_l1Read (dgm k) = some (((k + 1 : Nat) : Int), true) := by
  rw [read_num h, num_eq h, Option.bind_some, decide_eq_true rfl, cond_true]
/-! the first number of a search -/
def fnd (p : Nat → Bool) : Nat → Nat → Int
  | 0, _ => 0
  | n + 1, i => bif p i then (i : Int) else fnd p n (i + 1)
theorem fnd_no {p : Nat → Bool} : ∀ (n i : Nat), (∀ j, i ≤ j → j < i + n → p j = false) → fnd p n i = 0
  | 0, _, _ => rfl
  | n + 1, i, h => by rw [fnd, h i (by omega) (by omega), cond_false, fnd_no n (i + 1) (fun j h1 h2 => h j (by omega) (by omega))]
theorem fnd_one {p : Nat → Bool} {j : Nat} : ∀ (n i : Nat), i ≤ j → j < i + n → p j = true → (∀ k, i ≤ k → k < j → p k = false) → fnd p n i = (j : Int)
  | 0, i, h1, h2, _, _ => by omega
  | n + 1, i, h1, h2, h3, h4 => by
    by_cases e : i = j
    · subst e; rw [fnd, h3]; rfl
    · rw [fnd, h4 i (by omega) (by omega), cond_false, fnd_one n (i + 1) (by omega) (by omega) h3 (fun k g1 g2 => h4 k (by omega) g2)]
theorem while_fnd {p : Nat → Bool} {f : Int → Option (Flow Int Int)} {N : Nat} (hlt : ∀ i : Nat, 1 ≤ i → i ≤ N → f (i : Int) = some (bif p i then .rt (i : Int) else .nx ((i + 1 : Nat) : Int))) (hge : f ((N + 1 : Nat) : Int) = some (.br ((N + 1 : Nat) : Int))) :
    ∀ (n i : Nat), 1 ≤ i → i + n = N + 1 → ∃ r, Ev (fun m => whileN f m (i : Int)) r ∧ thenL (ρ := Int) (some r) (fun _ => some 0) = some (fnd p n i)
  | 0, i, h0, h => by
    have e : i = N + 1 := by omega
    subst e
    exact ⟨_, ev_br hge, rfl⟩
  | n + 1, i, h0, h => by
    have hi := hlt i h0 (by omega)
    cases hp : p i with
    | true => rw [hp] at hi; exact ⟨_, ev_rt hi, by rw [fnd, hp]; rfl⟩
    | false =>
      rw [hp] at hi
      obtain ⟨r, h1, h2⟩ := while_fnd hlt hge n (i + 1) (by omega) (by omega)
      exact ⟨r, ev_nx hi h1, by rw [h2, fnd, hp]; rfl⟩
def nmOf (s : ByteArray) : Int := fnd (fun i => decide (s = vnm (i - 1))) 12 1
def varOf (t : Term) : Int := bif t.Args.isEmpty then nmOf t.Name else 0
theorem vnm_inj {i j : Nat} (hi : i < 12) (hj : j < 12) (h : vnm i = vnm j) : i = j := by
  have key : ∀ i, i < 12 → ∀ j, j < 12 → (vnm i).data.toList = (vnm j).data.toList → i = j := by decide
  exact key i hi j hj (by rw [h])
theorem nmOf_vnm {k : Nat} (h : k < 12) : nmOf (vnm k) = ((k + 1 : Nat) : Int) := by
  refine fnd_one (j := k + 1) 12 1 (by omega) (by omega) (decide_eq_true rfl) (fun i h1 h2 => decide_eq_false fun e => ?_)
  have := vnm_inj h (by omega) e
  omega
theorem nmOf_none {s : ByteArray} (h : ∀ k, k < 12 → s ≠ vnm k) : nmOf s = 0 := fnd_no 12 1 (fun j h1 h2 => decide_eq_false (h (j - 1) (by omega)))
theorem variableOf_eq (t : Term) : impl_variableOf t = some (varOf t) := by
  unfold impl_variableOf
  obtain ⟨r, h1, h2⟩ := while_fnd (p := fun i => t.Args.isEmpty && decide (t.Name = vnm (i - 1))) (N := 12) (f := fun (s2 : Int) =>
    bif decide (s2 ≤ (12 : Int)) then
      bif decide ((t.Args.length : Int) = (0 : Int)) then
        Option.bind (strconv_Itoa s2) fun v16 =>
        Option.bind (sapp (⟨#[118]⟩ : ByteArray) v16) fun v17 =>
        bif decide (t.Name = v17) then
          some (.rt s2)
        else
          some (.nx (IntKind.i64.wrap (s2 + (1 : Int))))
      else
        some (.nx (IntKind.i64.wrap (s2 + (1 : Int))))
    else
      some (.br s2)) (fun i g1 g2 => by
      obtain ⟨k, rfl⟩ : ∃ k, i = k + 1 := ⟨i - 1, by omega⟩
      rw [decide_eq_true (by omega), cond_true, isEmpty_dec]
      cases t.Args.isEmpty
      · rw [cond_false, wrap_succ (by omega)]; rfl
      · rw [cond_true, Itoa_eq (by omega), Option.bind_some, vn_app (by omega), Option.bind_some, wrap_succ (by omega), Nat.add_sub_cancel]
        cases decide (t.Name = vnm k) <;> rfl) (by rw [decide_eq_false (by omega), cond_false]) 12 1 (by omega) rfl
  have e : thenL (ρ := Int) (σ := Int) (lim fun n2 => whileN (fun (s2 : Int) =>
    bif decide (s2 ≤ (12 : Int)) then
      bif decide ((t.Args.length : Int) = (0 : Int)) then
        Option.bind (strconv_Itoa s2) fun v16 =>
        Option.bind (sapp (⟨#[118]⟩ : ByteArray) v16) fun v17 =>
        bif decide (t.Name = v17) then
          some (.rt s2)
        else
          some (.nx (IntKind.i64.wrap (s2 + (1 : Int))))
      else
        some (.nx (IntKind.i64.wrap (s2 + (1 : Int))))
    else
      some (.br s2)) n2 (1 : Int)) (fun s2 => some (0 : Int)) = some (fnd (fun i => t.Args.isEmpty && decide (t.Name = vnm (i - 1))) 12 1) := by
    exact (congrArg (fun z => thenL z (fun s2 => some (0 : Int))) (lim_eq h1)).trans h2
  rw [e]
  unfold varOf nmOf
  cases t.Args.isEmpty
  · exact congrArg some (fnd_no 12 1 (fun _ _ _ => rfl))
  · rfl
/-! numbers that are read -/
theorem dig_ok {a : Int} (h0 : 0 ≤ a) (h1 : a < 10) : ∃ v, sslc (⟨#[48, 49, 50, 51, 52, 53, 54, 55, 56, 57]⟩ : ByteArray) a (IntKind.i64.wrap (a + 1)) = some v ∧ v.size ≤ 1 := by
  have key : ∀ k, k < 10 → ∃ v, sslc (⟨#[48, 49, 50, 51, 52, 53, 54, 55, 56, 57]⟩ : ByteArray) (k : Nat) ((k + 1 : Nat) : Int) = some v ∧ v.size ≤ 1 := fun k hk => by
    have : k = 0 ∨ k = 1 ∨ k = 2 ∨ k = 3 ∨ k = 4 ∨ k = 5 ∨ k = 6 ∨ k = 7 ∨ k = 8 ∨ k = 9 := by omega
    rcases this with rfl | rfl | rfl | rfl | rfl | rfl | rfl | rfl | rfl | rfl <;> exact ⟨_, rfl, by decide⟩
  obtain ⟨k, rfl⟩ : ∃ k : Nat, a = (k : Int) := ⟨a.toNat, by omega⟩
  rw [wrap_succ (by omega)]
  exact key k (by omega)
theorem num_pos : ∀ (d k : Nat), d ≤ 7 → 1 ≤ d → k < 10 ^ d → ∃ v : ByteArray, v.size ≤ d ∧ ∀ n, d ≤ n → spec_l1NumN n (k : Int) = some v
  | 0, k, _, h, _ => by omega
  | d + 1, k, hd7, _, hk => by
    have hk7 : k < 10 ^ 7 := Nat.lt_of_lt_of_le hk (Nat.pow_le_pow_right (by omega) hd7)
    by_cases h10 : k < 10
    · obtain ⟨v, h1, h2⟩ := dig_ok (a := (k : Int)) (by omega) (by omega)
      refine ⟨v, by omega, fun n hn => ?_⟩
      obtain ⟨m, rfl⟩ : ∃ m, n = m + 1 := ⟨n - 1, by omega⟩
      rw [spec_l1NumN, decide_eq_false (by omega), cond_false, decide_eq_true (by omega), cond_true, h1]; rfl
    · have hd : 1 ≤ d := by
        rcases Nat.eq_zero_or_pos d with e | e
        · subst e; simp at hk; omega
        · exact e
      obtain ⟨v, h1, h2⟩ := num_pos d (k / 10) (by omega) hd (by rw [Nat.pow_succ] at hk; omega)
      obtain ⟨u, h3, h4⟩ := dig_ok (a := ((k % 10 : Nat) : Int)) (by omega) (by omega)
      refine ⟨v ++ u, by rw [ByteArray.size_append]; omega, fun n hn => ?_⟩
      obtain ⟨m, rfl⟩ : ∃ m, n = m + 1 := ⟨n - 1, by omega⟩
      have hq : quo (k : Int) 10 = some ((k / 10 : Nat) : Int) := by
        unfold quo
        rw [if_neg (by omega), show (k : Int).tdiv 10 = ((k / 10 : Nat) : Int) from rfl, wrap64 (by omega) (by omega)]
      have hr : rem (k : Int) 10 = some ((k % 10 : Nat) : Int) := by
        unfold rem
        rw [if_neg (by omega)]; rfl
      rw [spec_l1NumN, decide_eq_false (by omega), cond_false, decide_eq_false (by omega), cond_false, hq, Option.bind_some, h2 m (by omega), Option.bind_some, hr, Option.bind_some, Option.bind_some, h3, Option.bind_some]
      unfold sapp
      rw [if_pos (by omega)]; rfl
theorem num_ok (a : Int) (h0 : -1000000 < a) (h1 : a < 1000000) : ∃ v, spec_l1Num a = some v := by
  by_cases h : 0 ≤ a
  · obtain ⟨k, rfl⟩ : ∃ k : Nat, a = (k : Int) := ⟨a.toNat, by omega⟩
    obtain ⟨v, _, hv⟩ := num_pos 6 k (by omega) (by omega) (by omega)
    exact ⟨v, lim_eq ⟨6, hv⟩⟩
  · obtain ⟨k, hk⟩ : ∃ k : Nat, 0 - a = (k : Int) := ⟨(0 - a).toNat, by omega⟩
    obtain ⟨v, hs, hv⟩ := num_pos 6 k (by omega) (by omega) (by omega)
    refine ⟨(⟨#[45]⟩ : ByteArray) ++ v, lim_eq ⟨7, fun n hn => ?_⟩⟩
    obtain ⟨m, rfl⟩ : ∃ m, n = m + 1 := ⟨n - 1, by omega⟩
    show spec_l1NumN (m + 1) a = _
    rw [spec_l1NumN, decide_eq_true (by omega), cond_true, wrap64 (by omega) (by omega), hk, hv m (by omega), Option.bind_some]
    unfold sapp
    rw [if_pos (by have : (⟨#[45]⟩ : ByteArray).size = 1 := rfl; omega)]; rfl
noncomputable def rdT (t s : ByteArray) : Option (Int × Bool) :=
  Option.bind (spec_l1In (t.size : Int) (1 : Int) (6 : Int)) fun v20 =>
  bif v20 then
    Option.bind (bnd (t.size : Int)) fun N8 =>
    thenL (ρ := (Int × Bool)) (σ := Int) (forN (fun (i8 : Nat) (s8 : Int) =>
      Option.bind (sidx t (i8 : Int)) fun v30 =>
      bif decide (v30 < (48 : Int)) then
        some (.rt ((0 : Int), false))
      else
        Option.bind (sidx t (i8 : Int)) fun v35 =>
        bif decide ((57 : Int) < v35) then
          some (.rt ((0 : Int), false))
        else
          Option.bind (sidx t (i8 : Int)) fun v42 =>
          some (.nx (IntKind.i64.wrap ((IntKind.i64.wrap ((10 : Int) * s8)) + (IntKind.i64.wrap (IntKind.u8.wrap (v42 - (48 : Int)))))))) N8 0 (0 : Int)) fun s8 =>
    bif decide ((t.size : Int) < (s.size : Int)) then
      Option.bind (spec_l1Num (IntKind.i64.wrap (0 - s8))) fun v54 =>
      bif decide (v54 = s) then
        some (IntKind.i64.wrap (0 - s8), true)
      else
        some ((0 : Int), false)
    else
      Option.bind (spec_l1Num s8) fun v54 =>
      bif decide (v54 = s) then
        some (s8, true)
      else
        some ((0 : Int), false)
  else
    some ((0 : Int), false)
def ReadOk (s : ByteArray) (r : Option (Int × Bool)) : Prop := ∃ q, r = some q ∧ (q.2 = true → spec_l1Num q.1 = some s)
theorem rd_loop (t : ByteArray) : ∀ (n i : Nat) (a : Int), i + n ≤ 6 → i + n ≤ t.size → 0 ≤ a → a < 10 ^ i →
    forN (ρ := Int × Bool) (fun (i8 : Nat) (s8 : Int) =>
      Option.bind (sidx t (i8 : Int)) fun v30 =>
      bif decide (v30 < (48 : Int)) then
        some (.rt ((0 : Int), false))
      else
        Option.bind (sidx t (i8 : Int)) fun v35 =>
        bif decide ((57 : Int) < v35) then
          some (.rt ((0 : Int), false))
        else
          Option.bind (sidx t (i8 : Int)) fun v42 =>
          some (.nx (IntKind.i64.wrap ((IntKind.i64.wrap ((10 : Int) * s8)) + (IntKind.i64.wrap (IntKind.u8.wrap (v42 - (48 : Int)))))))) n i a = some (.inl (0, false)) ∨ ∃ b : Int, forN (ρ := Int × Bool) (fun (i8 : Nat) (s8 : Int) =>
      Option.bind (sidx t (i8 : Int)) fun v30 =>
      bif decide (v30 < (48 : Int)) then
        some (.rt ((0 : Int), false))
      else
        Option.bind (sidx t (i8 : Int)) fun v35 =>
        bif decide ((57 : Int) < v35) then
          some (.rt ((0 : Int), false))
        else
          Option.bind (sidx t (i8 : Int)) fun v42 =>
          some (.nx (IntKind.i64.wrap ((IntKind.i64.wrap ((10 : Int) * s8)) + (IntKind.i64.wrap (IntKind.u8.wrap (v42 - (48 : Int)))))))) n i a = some (.inr b) ∧ 0 ≤ b ∧ b < 10 ^ (i + n)
  | 0, i, a, _, _, h0, h1 => .inr ⟨a, rfl, h0, by simpa using h1⟩
  | n + 1, i, a, h6, hs, h0, h1 => by
    have hi : sidx t (i : Int) = some (byt t i) := sidx_nat (by omega)
    by_cases c1 : byt t i < 48
    · exact .inl (forN_rt (by rw [hi, Option.bind_some, decide_eq_true c1, cond_true]))
    · by_cases c2 : 57 < byt t i
      · exact .inl (forN_rt (by rw [hi, Option.bind_some, decide_eq_false c1, cond_false, Option.bind_some, decide_eq_true c2, cond_true]))
      · have hp : (10 : Int) ^ i ≤ 10 ^ 5 := by exact_mod_cast Nat.pow_le_pow_right (n := 10) (by omega) (show i ≤ 5 by omega)
        have hu : IntKind.u8.wrap (byt t i - 48) = byt t i - 48 := by rw [IntKind.wrap_u8]; omega
        have hw : IntKind.i64.wrap ((IntKind.i64.wrap ((10 : Int) * a)) + (IntKind.i64.wrap (IntKind.u8.wrap (byt t i - (48 : Int))))) = 10 * a + (byt t i - 48) := by
          rw [hu, wrap64 (n := 10 * a) (by omega) (by omega), wrap64 (n := byt t i - 48) (by omega) (by omega), wrap64 (by omega) (by omega)]
        have hb := forN_nx (ρ := Int × Bool) (f := fun (i8 : Nat) (s8 : Int) =>
          Option.bind (sidx t (i8 : Int)) fun v30 =>
          bif decide (v30 < (48 : Int)) then
            some (.rt ((0 : Int), false))
          else
            Option.bind (sidx t (i8 : Int)) fun v35 =>
            bif decide ((57 : Int) < v35) then
              some (.rt ((0 : Int), false))
            else
              Option.bind (sidx t (i8 : Int)) fun v42 =>
              some (.nx (IntKind.i64.wrap ((IntKind.i64.wrap ((10 : Int) * s8)) + (IntKind.i64.wrap (IntKind.u8.wrap (v42 - (48 : Int)))))))) (n := n) (i := i) (s := a) (s' := 10 * a + (byt t i - 48)) (by
          simp only [hi, Option.bind_some, decide_eq_false c1, cond_false, decide_eq_false c2, hw])
        rw [hb, show i + (n + 1) = (i + 1) + n from by omega]
        exact rd_loop t n (i + 1) _ (by omega) (by omega) (by omega) (by rw [Int.pow_succ]; omega)
theorem rdT_ok (t s : ByteArray) : ReadOk s (rdT t s) := by
  unfold rdT
  rw [l1In_eq, Option.bind_some]
  by_cases h : 1 ≤ t.size ∧ t.size ≤ 6
  · rw [show inR (t.size : Int) 1 6 = true from by simp [inR]; omega, cond_true, bnd_nat (by unfold Big; omega), Option.bind_some]
    rcases rd_loop t t.size 0 0 (by omega) (by omega) (by omega) (by simp) with h1 | ⟨b, h1, h2, h3⟩
    · rw [h1]; exact ⟨_, rfl, fun e => by cases e⟩
    · rw [h1]
      have hp : (10 : Int) ^ (0 + t.size) ≤ 10 ^ 6 := by exact_mod_cast Nat.pow_le_pow_right (n := 10) (by omega) (show 0 + t.size ≤ 6 by omega)
      have fin : ∀ c : Int, -1000000 < c → c < 1000000 → ReadOk s (Option.bind (spec_l1Num c) fun v54 => bif decide (v54 = s) then some (c, true) else some ((0 : Int), false)) := fun c h4 h5 => by
        obtain ⟨v, hv⟩ := num_ok c h4 h5
        rw [hv, Option.bind_some]
        by_cases e : v = s
        · rw [decide_eq_true e, cond_true]; exact ⟨_, rfl, fun _ => by rw [hv, e]⟩
        · rw [decide_eq_false e, cond_false]; exact ⟨_, rfl, fun e => by cases e⟩
      show ReadOk s (bif decide ((t.size : Int) < (s.size : Int)) then _ else _)
      cases decide ((t.size : Int) < (s.size : Int))
      · exact fin b (by omega) (by omega)
      · rw [cond_true, wrap64 (by omega) (by omega)]; exact fin (0 - b) (by omega) (by omega)
  · rw [show inR (t.size : Int) 1 6 = false from by simp [inR]; omega, cond_false]
    exact ⟨_, rfl, fun e => by cases e⟩
theorem read_u (s : ByteArray) : spec_l1Read s = bif decide ((1 : Int) < (s.size : Int)) then Option.bind (sidx s (0 : Int)) fun v13 => bif decide (v13 = (45 : Int)) then Option.bind (sslc s (1 : Int) (s.size : Int)) fun v17 => rdT v17 s else rdT s s else rdT s s := rfl
theorem sslc_tail {s : ByteArray} (h : 1 ≤ s.size) : sslc s (1 : Int) (s.size : Int) = some (s.extract 1 s.size) := by
  unfold sslc
  rw [if_pos (by omega)]; rfl
theorem read_ok (s : ByteArray) : ReadOk s (spec_l1Read s) := by
  rw [read_u]
  by_cases h : 1 < s.size
  · rw [decide_eq_true (by omega), cond_true, show (0 : Int) = ((0 : Nat) : Int) from rfl, sidx_nat (by omega), Option.bind_some, sslc_tail (by omega), Option.bind_some]
    cases decide (byt s 0 = 45) <;> exact rdT_ok _ _
  · rw [decide_eq_false (by omega), cond_false]; exact rdT_ok _ _
theorem name_of {s : ByteArray} {d : ByteArray} (h2 : 2 ≤ s.size) (h0 : byt s 0 = 118) (hd : s.extract 1 s.size = d) : s = (⟨#[118]⟩ : ByteArray) ++ d := by
  subst hd
  obtain ⟨⟨l⟩⟩ := s
  cases l with
  | nil => simp [ByteArray.size] at h2
  | cons x xs =>
    have hx : x = 118 := by
      have h1 : ((x.toNat : Nat) : Int) = 118 := h0
      exact UInt8.toNat_inj.1 (by show x.toNat = 118; omega)
    subst hx
    apply ByteArray.ext
    rw [ByteArray.data_append, ByteArray.data_extract]
    apply Array.ext'
    simp [ByteArray.size]
theorem spec_vn {k : Nat} (h : k < 12) : spec_l20Variable ⟨vnm k, []⟩ = some ((k + 1 : Nat) : Int) := by
  have e : spec_l20Variable ⟨vnm k, []⟩ = Option.bind (spec_l1Read (dgm k)) fun v25 => bif v25.2 then Option.bind (spec_l1In v25.1 1 12) fun v32 => bif v32 then some v25.1 else some 0 else some 0 := by
    rcases twelve h with rfl | rfl | rfl | rfl | rfl | rfl | rfl | rfl | rfl | rfl | rfl | rfl <;> rfl
  rw [e, read_dg h, Option.bind_some, l1In_eq]
  rw [show inR ((k + 1 : Nat) : Int) 1 12 = true from by simp only [inR]; exact decide_eq_true (by omega)]; rfl
theorem l20Variable_eq (t : Term) : spec_l20Variable t = some (varOf t) := by
  obtain ⟨nm, ar⟩ := t
  cases ar with
  | cons a l =>
    unfold spec_l20Variable varOf
    rw [decide_eq_true (by show (0 : Int) < ((a :: l).length : Int); simp)]; rfl
  | nil =>
    by_cases hv : ∃ k, k < 12 ∧ nm = vnm k
    · obtain ⟨k, hk, rfl⟩ := hv
      rw [spec_vn hk]
      show _ = some (nmOf (vnm k))
      rw [nmOf_vnm hk]
    · have hz : varOf ⟨nm, []⟩ = 0 := nmOf_none (fun k hk e => hv ⟨k, hk, e⟩)
      rw [hz]
      unfold spec_l20Variable
      show (bif decide ((0 : Int) < (([] : List Term).length : Int)) then some (0 : Int) else bif decide ((nm.size : Int) < 2) then some 0 else Option.bind (sidx nm 0) fun v18 => bif decide (v18 = 118) then Option.bind (sslc nm 1 (nm.size : Int)) fun v24 => Option.bind (spec_l1Read v24) fun v25 => bif v25.2 then Option.bind (spec_l1In v25.1 1 12) fun v32 => bif v32 then some v25.1 else some 0 else some 0 else some 0) = some 0
      rw [decide_eq_false (by simp), cond_false]
      by_cases h2 : nm.size < 2
      · rw [decide_eq_true (by omega), cond_true]
      · rw [decide_eq_false (by omega), cond_false, show (0 : Int) = ((0 : Nat) : Int) from rfl, sidx_nat (by omega), Option.bind_some]
        by_cases h0 : byt nm 0 = 118
        · rw [decide_eq_true h0, cond_true, sslc_tail (by omega), Option.bind_some]
          obtain ⟨q, hq, hq2⟩ := read_ok (nm.extract 1 nm.size)
          rw [hq, Option.bind_some]
          cases hb : q.2 with
          | false => rfl
          | true =>
            rw [cond_true, l1In_eq, Option.bind_some]
            by_cases hr : 1 ≤ q.1 ∧ q.1 ≤ 12
            · exfalso
              obtain ⟨k, hk⟩ : ∃ k : Nat, q.1 = ((k + 1 : Nat) : Int) := ⟨(q.1 - 1).toNat, by omega⟩
              have e1 := hq2 hb
              rw [hk, num_eq (by omega), Option.some.injEq] at e1
              have e2 := vn_app (k := k) (by omega)
              have e3 := name_of (by omega) h0 e1.symm
              unfold sapp at e2
              split at e2
              · injection e2 with e2
                exact hv ⟨k, by omega, by rw [e3, e2]⟩
              · cases e2
            · rw [show inR q.1 1 12 = false from by simp only [inR]; rw [decide_eq_false hr]]; rfl
        · rw [decide_eq_false h0, cond_false]
end Go.Proofs.YtkokcfphepmeeaaGreatDoor
