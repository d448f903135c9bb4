/- A part of the proof: lemmas only; nothing is claimed here beyond what each lemma says. -/
import Derived.Test.YtheihimhijkekaaGmkr
import Derived.Test.YtheihimhijkekaaAvZ
set_option linter.unusedSimpArgs false
set_option linter.unusedVariables false
set_option linter.defProp false
set_option maxRecDepth 4000
namespace Go.Proofs.Ytheihimhijkekaa
open Go.Av
/-! repetitions -/
def repL (l : List Int) : Nat → List Int
  | 0 => []
  | k + 1 => repL l k ++ l
theorem repL_len (l : List Int) : ∀ k, (repL l k).length = k * l.length
  | 0 => by simp [repL]
  | k + 1 => by rw [repL, List.length_append, repL_len l k, Nat.succ_mul]
theorem repL_get (l : List Int) : ∀ (k j : Nat), j < k * l.length → (repL l k)[j]? = l[j % l.length]?
  | 0, j, h => by simp at h
  | k + 1, j, h => by
    rw [repL]
    by_cases hj : j < k * l.length
    · rw [List.getElem?_append_left (by rw [repL_len]; exact hj), repL_get l k j hj]
    · rw [Nat.succ_mul] at h
      rw [List.getElem?_append_right (by rw [repL_len]; omega), repL_len]
      have e : j = l.length * k + (j - k * l.length) := by rw [Nat.mul_comm l.length k]; omega
      have : j % l.length = j - k * l.length := by
        conv => lhs; rw [e, Nat.mul_add_mod]
        exact Nat.mod_eq_of_lt (by omega)
      rw [this]
theorem spec_rep (l : List Int) (hl : l.length ≤ 200) : ∀ (n i : Nat), i + n ≤ 200 → forN (ρ := List Int × Bool) (fun (_ : Nat) (s5 : List Int) => Option.bind (app s5 l) fun v46 => some (.nx v46)) n i (repL l i) = some (.inr (repL l (i + n)))
  | 0, i, h => rfl
  | n + 1, i, h => by
    have hb : i * l.length ≤ 200 * 200 := Nat.mul_le_mul (by omega) hl
    rw [forN_nx (s' := repL l (i + 1)) (by
      unfold app
      rw [repL_len, if_pos (by omega)]; rfl), spec_rep l hl n (i + 1) (by omega), show i + 1 + n = i + (n + 1) from by omega]
theorem fdiv0 {a : Nat} (h : a < 4294967296) : shr .u64 (a : Int) 32 = some 0 := by
  unfold shr
  rw [if_pos (by omega), show min (32 : Int).toNat IntKind.u64.bits = 32 from rfl, Int.fdiv_eq_ediv_of_nonneg _ (by decide)]
  congr 1
  omega
theorem and32 {a : Nat} (h : a < 4294967296) : bitand .u64 (a : Int) 4294967295 = (a : Int) := by
  show IntKind.u64.wrap (((BitVec.ofInt 64 (a : Int) &&& BitVec.ofInt 64 ((4294967295 : Nat) : Int)).toNat : Nat) : Int) = _
  rw [BitVec.ofInt_natCast, BitVec.ofInt_natCast, BitVec.toNat_and, BitVec.toNat_ofNat, BitVec.toNat_ofNat, Nat.mod_eq_of_lt (by omega : a < 2 ^ 64), show 4294967295 % 2 ^ 64 = 2 ^ 32 - 1 from rfl, Nat.and_two_pow_sub_one_eq_mod, Nat.mod_eq_of_lt (by omega), IntKind.wrap_u64]
  omega
theorem wu {a : Nat} (h : a < 4294967296) : IntKind.u64.wrap (a : Int) = (a : Int) := by rw [IntKind.wrap_u64]; omega
theorem mul_small {a b : Nat} (ha : a ≤ 200) (hb : b ≤ 200) : bits_Mul (a : Int) (b : Int) = some (0, ((a * b : Nat) : Int)) := by
  have hab : a * b ≤ 200 * 200 := Nat.mul_le_mul ha hb
  have e : ((a : Int) * (b : Int)) = ((a * b : Nat) : Int) := by simp
  have z : ∀ x : Int, (0 : Int) * x = 0 := Int.zero_mul
  unfold bits_Mul bits_Mul64
  rw [fdiv0 (by omega), fdiv0 (by omega)]
  simp only [Option.bind_some, and32 (show a < 4294967296 by omega), and32 (show b < 4294967296 by omega), e, wu (show a * b < 4294967296 by omega), fdiv0 (show a * b < 4294967296 by omega), z, Int.mul_zero, Int.zero_add, Int.add_zero, show IntKind.u64.wrap 0 = 0 from rfl, show shr .u64 0 32 = some 0 from rfl, show bitand .u64 0 4294967295 = 0 from rfl]
/-- What is known of a row in the midst of its filling. -/
def Fill (l : List Int) (k : Nat) (xs : List Int) (m : Nat) : Prop := xs.length = k * l.length ∧ m ≤ k * l.length ∧ m % l.length = 0 ∧ ∀ j, j < m → xs[j]? = l[j % l.length]?
theorem fill_end {l xs : List Int} {k : Nat} (h : Fill l k xs (k * l.length)) : xs = repL l k := by
  obtain ⟨h1, _, _, h4⟩ := h
  apply List.ext_getElem?
  intro j
  by_cases hj : j < k * l.length
  · rw [h4 j hj, repL_get l k j hj]
  · rw [List.getElem?_eq_none (by omega), List.getElem?_eq_none (by rw [repL_len]; omega)]
theorem fill_step {l xs : List Int} {k m : Nat} (hl : 0 < l.length) (h : Fill l k xs m) (hm : 0 < m) (hlt : m < k * l.length) :
    Fill l k (xs.take m ++ (xs.take m).take (k * l.length - m) ++ xs.drop (m + m)) (m + min m (k * l.length - m)) := by
  obtain ⟨h1, h2, h3, h4⟩ := h
  have hlen : (xs.take m ++ (xs.take m).take (k * l.length - m)).length = m + min m (k * l.length - m) := by
    simp only [List.length_append, List.length_take]; omega
  refine ⟨?_, by omega, ?_, fun j hj => ?_⟩
  · rw [List.length_append, hlen, List.length_drop]; omega
  · rcases Nat.le_total m (k * l.length - m) with g | g
    · rw [Nat.min_eq_left g, Nat.add_mod, h3]; simp
    · rw [Nat.min_eq_right g, show m + (k * l.length - m) = k * l.length by omega, Nat.mul_mod_left]
  · rw [List.getElem?_append_left (by rw [hlen]; exact hj)]
    by_cases hjm : j < m
    · rw [List.getElem?_append_left (by rw [List.length_take]; omega), List.getElem?_take_of_lt hjm, h4 j hjm]
    · have hlt' : (xs.take m).length = m := by rw [List.length_take]; omega
      rw [List.getElem?_append_right (by omega), hlt', List.getElem?_take_of_lt (by omega), List.getElem?_take_of_lt (by omega), h4 (j - m) (by omega)]
      congr 1
      have : j = (j - m) + m := by omega
      conv => rhs; rw [this, Nat.add_mod, h3, Nat.add_zero, Nat.mod_mod]
theorem fill_loop {l : List Int} {k : Nat} (hl : 0 < l.length) (hb : k * l.length ≤ 40000) : ∀ (d m : Nat) (xs : List Int), k * l.length - m ≤ d → 0 < m → Fill l k xs m →
    Ev (fun z => whileN (ρ := List Int) (fun (s8 : (List Int) × Int) =>
          bif decide (s8.2 < (s8.1.length : Int)) then
            Option.bind (rngN s8.1.length s8.2 (s8.1.length : Int)) fun v41 =>
            Option.bind (rngN s8.1.length (0 : Int) s8.2) fun v44 =>
            Option.bind (cpSelf s8.1 s8.2 s8.2) fun v45 =>
            some (.nx (v45.2, IntKind.i64.wrap (s8.2 + v45.1)))
          else
            some (.br s8)) z (xs, (m : Int))) (.inr (repL l k, ((k * l.length : Nat) : Int))) := by
  intro d
  induction d with
  | zero =>
    intro m xs hd hm h
    have e : m = k * l.length := by have := h.2.1; omega
    subst e
    rw [← fill_end h]
    refine ev_br ?_
    rw [h.1, decide_eq_false (by omega)]; rfl
  | succ d ih =>
    intro m xs hd hm h
    by_cases hlt : m < k * l.length
    · have hs := fill_step hl h hm hlt
      have := ih _ _ (by omega) (by omega) hs
      refine ev_nx ?_ this
      have r1 : rngN xs.length (m : Int) (xs.length : Int) = some () := by unfold rngN; rw [h.1, if_pos (by omega)]
      have r2 : rngN xs.length 0 (m : Int) = some () := by unfold rngN; rw [h.1, if_pos (by omega)]
      have r3 : cpSelf xs (m : Int) (m : Int) = some (((min m (k * l.length - m) : Nat) : Int), xs.take m ++ (xs.take m).take (k * l.length - m) ++ xs.drop (m + m)) := by
        unfold cpSelf
        rw [h.1, if_pos (by omega), Int.toNat_natCast]
        congr 2
        omega
      show (bif decide ((m : Int) < (xs.length : Int)) then _ else _) = _
      rw [decide_eq_true (by rw [h.1]; omega), cond_true]
      show Option.bind (rngN xs.length (m : Int) (xs.length : Int)) _ = _
      rw [r1, Option.bind_some]
      show Option.bind (rngN xs.length 0 (m : Int)) _ = _
      rw [r2, Option.bind_some]
      show Option.bind (cpSelf xs (m : Int) (m : Int)) _ = _
      rw [r3, Option.bind_some]
      show some (Flow.nx (_, IntKind.i64.wrap ((m : Int) + ((min m (k * l.length - m) : Nat) : Int)))) = _
      rw [wrap64 (by omega) (by omega)]; rfl
    · exact ih m xs (by omega) hm h
theorem Repeat_eq {l : List Int} {k : Nat} (hl : 0 < l.length) (hl2 : l.length ≤ 200) (hk : k ≤ 200) : slices_Repeat_Sint_int l (k : Int) = some (repL l k) := by
  have hab : k * l.length ≤ 200 * 200 := Nat.mul_le_mul hk hl2
  have hcomm : l.length * k = k * l.length := Nat.mul_comm _ _
  unfold slices_Repeat_Sint_int
  rw [decide_eq_false (by omega), cond_false, wu (by omega), wu (by omega), mul_small hl2 hk, Option.bind_some]
  simp only
  rw [decide_eq_false (by omega), cond_false, decide_eq_false (by omega), cond_false, wrap64 (by omega) (by omega), show mkn ((l.length * k : Nat) : Int) = some (k * l.length) from by unfold mkn; rw [if_pos (by omega), hcomm]; rfl, Option.bind_some]
  by_cases hk0 : k = 0
  · subst hk0
    have : Ev (fun z => whileN (ρ := List Int) (fun (s8 : (List Int) × Int) =>
          bif decide (s8.2 < (s8.1.length : Int)) then
            Option.bind (rngN s8.1.length s8.2 (s8.1.length : Int)) fun v41 =>
            Option.bind (rngN s8.1.length (0 : Int) s8.2) fun v44 =>
            Option.bind (cpSelf s8.1 s8.2 s8.2) fun v45 =>
            some (.nx (v45.2, IntKind.i64.wrap (s8.2 + v45.1)))
          else
            some (.br s8)) z (l.take (List.replicate (0 * l.length) (0 : Int)).length ++ (List.replicate (0 * l.length) (0 : Int)).drop l.length, min (l.length : Int) ((List.replicate (0 * l.length) (0 : Int)).length : Int))) (.inr ([], 0)) := by
      simp only [Nat.zero_mul, List.replicate_zero, List.length_nil, List.take_zero, List.drop_nil, List.append_nil]
      have e : min (l.length : Int) ((0 : Nat) : Int) = 0 := by omega
      rw [e]
      exact ev_br rfl
    exact (congrArg (fun z => thenL z (fun s8 : List Int × Int => some s8.1)) (lim_eq this)).trans rfl
  · have hkl : l.length ≤ k * l.length := Nat.le_mul_of_pos_left _ (by omega)
    have hlen : (List.replicate (k * l.length) (0 : Int)).length = k * l.length := List.length_replicate
    have hF : Fill l k (l.take (List.replicate (k * l.length) (0 : Int)).length ++ (List.replicate (k * l.length) (0 : Int)).drop l.length) l.length := by
      rw [hlen, List.take_of_length_le hkl]
      refine ⟨by rw [List.length_append, List.length_drop, hlen]; omega, hkl, Nat.mod_self _, fun j hj => ?_⟩
      rw [List.getElem?_append_left hj, Nat.mod_eq_of_lt hj]
    have hmin : min (l.length : Int) ((List.replicate (k * l.length) (0 : Int)).length : Int) = (l.length : Int) := by rw [hlen]; omega
    have := fill_loop hl (by omega) (k * l.length) l.length _ (by omega) hl hF
    rw [hmin]
    exact (congrArg (fun z => thenL z (fun s8 : List Int × Int => some s8.1)) (lim_eq this)).trans rfl
theorem rep_both (p : CyclicProof) (xs : List Int) (t : Int) (hp : p.Ok) (hx : xs.length ≤ 1048576) : ∃ (g : List Int) (c : Bool), spec_RepeatPath p xs t = some (g, c) ∧ impl_RepeatPath p xs t = some (g, c) ∧ g.length ≤ 1048576 := by
  unfold spec_RepeatPath impl_RepeatPath
  rw [specP p hp, implP p hp, Option.bind_some, Option.bind_some]
  cases hv : validP p
  · exact ⟨_, _, rfl, rfl, Nat.zero_le _⟩
  · obtain ⟨hc, hg⟩ := valid_calls hv
    rw [cond_true, cond_true, l24Path_ok p xs (by omega) hx, isPath_ok p xs (by omega) hx, Option.bind_some, Option.bind_some]
    cases hpp : pathP p xs
    · exact ⟨_, _, rfl, rfl, Nat.zero_le _⟩
    · rw [cond_true, cond_true]
      have hl2 : xs.length ≤ 200 := by
        unfold pathP at hpp
        rw [Bool.and_eq_true, decide_eq_true_iff] at hpp
        exact hpp.2
      by_cases ht : t < 0
      · rw [decide_eq_true ht]; exact ⟨_, _, rfl, rfl, Nat.zero_le _⟩
      · rw [decide_eq_false ht, cond_false, cond_false]
        by_cases h0 : xs.length = 0
        · rw [decide_eq_false (by omega : ¬ (0 : Int) < (xs.length : Int)), decide_eq_true (by omega : (xs.length : Int) = 0), cond_false, cond_true, l24Path_ok p [] (by omega) (by simp), Option.bind_some]
          have e : pathP p [] = true := by unfold pathP; simp
          rw [e, cond_true]
          have hl : (lim fun n5 => whileN (ρ := List Int × Bool) (fun (s5 : Unit) => bif decide ((0 : Int) < t) then some (.br s5) else some (.br s5)) n5 ()) = some (.inr ()) := by
            refine lim_eq (ev_br ?_)
            cases decide ((0 : Int) < t) <;> rfl
          refine ⟨[], true, ?_, rfl, Nat.zero_le _⟩
          exact (congrArg (fun z => thenL z (fun _ : Unit => some (([] : List Int), true))) hl).trans rfl
        · rw [decide_eq_true (by omega : (0 : Int) < (xs.length : Int)), decide_eq_false (by omega : ¬ (xs.length : Int) = 0), cond_true, cond_false]
          by_cases h200 : 200 < t
          · rw [decide_eq_true h200]; exact ⟨_, _, rfl, rfl, Nat.zero_le _⟩
          · rw [decide_eq_false h200, cond_false, cond_false]
            obtain ⟨k, rfl⟩ : ∃ k : Nat, t = (k : Int) := ⟨t.toNat, by omega⟩
            have hk : k ≤ 200 := by omega
            have hab : k * xs.length ≤ 200 * 200 := Nat.mul_le_mul hk hl2
            have hlen := repL_len xs k
            have hs := spec_rep xs hl2 k 0 (by omega)
            rw [bnd_nat (by unfold Big; omega), Option.bind_some, show ([] : List Int) = repL xs 0 from rfl, hs, thenL_inr, Nat.zero_add, l24Path_ok p _ (by omega) (by omega), Repeat_eq (by omega) hl2 hk, Option.bind_some, Option.bind_some, isPath_ok p _ (by omega) (by omega), Option.bind_some]
            cases pathP p (repL xs k)
            · exact ⟨_, _, rfl, rfl, Nat.zero_le _⟩
            · exact ⟨_, _, rfl, rfl, by omega⟩
theorem FnExactRepeatPath_true (p : CyclicProof) (xs : List Int) (t : Int) (hp : p.Ok) (hx : LOk InR xs) (htt : InR t) : FnExactRepeatPath p xs t = some true := by
  unfold FnExactRepeatPath
  by_cases hc : (1048576 : Int) < (xs.length : Int)
  · rw [decide_eq_true hc]; rfl
  rw [decide_eq_false hc, cond_false, szCyclicProof_eq p hp _ (by omega) (by omega), Option.bind_some]
  by_cases e : szR p.tot 1048576 < 0
  · rw [decide_eq_true e]; rfl
  have h1 := szR_ok e
  rw [decide_eq_false e, cond_false]
  obtain ⟨g, c, k1, k2, k3⟩ := rep_both p xs t hp (by omega)
  have cg := ints_len g
  have ci := ints_len xs
  obtain ⟨k, y, z1, z2, m1⟩ := mark_cyclic p h1
  obtain ⟨y2, m2, _⟩ := (markIntS_held xs).unit (k := k) (by omega) (by omega)
  obtain ⟨y3, m3, m4⟩ := (markIntS_held g).unit (k := 1) (by omega) (by omega)
  have d1 : decide (k + ((lcn (fun _ => 1) xs : Nat) : Int) < 0) = false := decide_eq_false (by omega)
  have d2 : decide ((1 : Int) + ((lcn (fun _ => 1) g : Nat) : Int) < 0) = false := decide_eq_false (by omega)
  simp only [toCyclicProof_eq p h1, toIntS_eq xs (by rw [ltot0]; omega), Option.bind_some, k1, k2, eqCyclicProof_refl, eqIntS_refl, cond_true, beq_self_eq_true, m1, m2, m3, m4, d1, d2, cond_false, decide_true]
end Go.Proofs.Ytheihimhijkekaa
