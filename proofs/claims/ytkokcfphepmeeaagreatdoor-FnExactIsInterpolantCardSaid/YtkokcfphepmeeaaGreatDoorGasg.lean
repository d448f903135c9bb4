/- A part of the proof: lemmas only; nothing is claimed here beyond what each lemma says. -/
import Derived.Test.YtkokcfphepmeeaaGreatDoorGevb
set_option linter.unusedSimpArgs false
set_option linter.unusedVariables false
set_option linter.defProp false
set_option maxRecDepth 4000
namespace Go.Proofs.YtkokcfphepmeeaaGreatDoor
open Go.Av
/-! loops over all numbers below a bound -/
theorem while_all {ρ : Type} {f : Int → Option (Flow ρ Int)} {N : Nat} (c : Nat → Bool) (r0 r1 : ρ) (hlt : ∀ i : Nat, i < N → f (i : Int) = some (bif c i then .nx ((i + 1 : Nat) : Int) else .rt r0)) (hge : f (N : Int) = some (.br (N : Int))) :
    thenL (ρ := ρ) (σ := Int) (lim fun n => whileN f n (0 : Int)) (fun _ => some r1) = some (bif (List.range N).all c then r1 else r0) := by
  have key : ∀ (n i : Nat), i + n = N → (∀ j, j < i → c j = true) → ∃ r, Ev (fun m => whileN f m (i : Int)) r ∧ thenL (ρ := ρ) (σ := Int) (some r) (fun _ => some r1) = some (bif (List.range N).all c then r1 else r0) := by
    intro n
    induction n with
    | zero =>
      intro i hi hc
      have e : i = N := by omega
      subst e
      refine ⟨_, ev_br hge, ?_⟩
      have : (List.range i).all c = true := List.all_eq_true.2 (fun x hx => hc x (by simpa using hx))
      rw [this]; rfl
    | succ n ih =>
      intro i hi hc
      have h := hlt i (by omega)
      cases e : c i with
      | true =>
        rw [e] at h
        obtain ⟨r, h1, h2⟩ := ih (i + 1) (by omega) (fun j hj => by
          rcases Nat.lt_or_ge j i with g | g
          · exact hc j g
          · have : j = i := by omega
            rw [this]; exact e)
        exact ⟨r, ev_nx h h1, h2⟩
      | false =>
        rw [e] at h
        refine ⟨_, ev_rt h, ?_⟩
        have : (List.range N).all c = false := List.all_eq_false.2 ⟨i, by simp; omega, by rw [e]; simp⟩
        rw [this]; rfl
  obtain ⟨r, h1, h2⟩ := key N 0 (by omega) (fun j hj => absurd hj (by omega))
  exact (congrArg (fun z => thenL z (fun _ => some r1)) (lim_eq h1)).trans h2
theorem wrapu {k : Nat} (h : k ≤ 1000000) : IntKind.u64.wrap (k : Int) = (k : Int) := by rw [IntKind.wrap_u64]; omega
theorem shl_two {k : Nat} (h : k ≤ 12) : shl .i64 1 (k : Int) = some ((2 ^ k : Nat) : Int) := by
  have := shl_flag true (i := k) (by omega)
  rw [show (1 : Int) = (bif true then 1 else 0) from rfl, this, show true.toNat = 1 from rfl, Nat.one_shiftLeft]
theorem two_le {k : Nat} (h : k ≤ 12) : 2 ^ k ≤ 4096 := Nat.pow_le_pow_right (by omega) h
theorem exists_bits (q : Nat → Bool) : ∀ n : Nat, ∃ m, m < 2 ^ n ∧ ∀ j, j < n → m.testBit j = q j
  | 0 => ⟨0, by simp, fun j hj => by omega⟩
  | n + 1 => by
    obtain ⟨m, h1, h2⟩ := exists_bits q n
    have hs : (q n).toNat <<< n < 2 ^ (n + 1) := by
      rw [Nat.shiftLeft_eq, Nat.pow_succ]
      have := Bool.toNat_le (q n)
      have : (q n).toNat * 2 ^ n ≤ 1 * 2 ^ n := Nat.mul_le_mul_right _ this
      have : 0 < 2 ^ n := Nat.two_pow_pos n
      omega
    refine ⟨m ||| (q n).toNat <<< n, Nat.or_lt_two_pow (Nat.lt_of_lt_of_le h1 (Nat.pow_le_pow_right (by omega) (by omega))) hs, fun j hj => ?_⟩
    rw [Nat.testBit_or, Nat.testBit_shiftLeft]
    by_cases e : j = n
    · subst e
      rw [Nat.testBit_lt_two_pow h1, Nat.sub_self]
      cases q j <;> simp
    · rw [h2 j (by omega)]
      simp [show ¬ j ≥ n by omega]
/-! assignments -/
def asg (n : Nat) (q : Nat → Bool) : List Int := (List.range n).map fun j => bif q j then ((j + 1 : Nat) : Int) else -((j + 1 : Nat) : Int)
theorem set_drop {α : Type} {l : List α} {u : Nat} (h : u < l.length) (x : α) : (l.set u x).drop u = x :: l.drop (u + 1) := by
  rw [List.set_eq_take_append_cons_drop, if_pos h]
  have : (l.take u).length = u := by rw [List.length_take]; omega
  exact List.drop_left' this
theorem asg_loop (n : Nat) (hn : n ≤ 12) : ∀ (v N : Nat) (out : List Int), N < 2 ^ 40 → v ≤ n → out.length = n →
    ∃ z : Int, Ev (fun m => whileN (ρ := List Int) (fun (s3 : Int × (List Int) × Int) =>
    bif decide ((1 : Int) ≤ s3.2.2) then
      Option.bind (idx s3.2.1 (IntKind.i64.wrap (s3.2.2 - (1 : Int)))) fun v18 =>
      Option.bind (idx s3.2.1 (IntKind.i64.wrap (s3.2.2 - (1 : Int)))) fun w2 =>
      bif decide ((bitand .i64 s3.1 (1 : Int)) = (1 : Int)) then
        Option.bind (idx (s3.2.1.set (IntKind.i64.wrap (s3.2.2 - (1 : Int))).toNat s3.2.2) (IntKind.i64.wrap (s3.2.2 - (1 : Int)))) fun v27 =>
        Option.bind (idx (s3.2.1.set (IntKind.i64.wrap (s3.2.2 - (1 : Int))).toNat s3.2.2) (IntKind.i64.wrap (s3.2.2 - (1 : Int)))) fun w4 =>
        Option.bind (shr .i64 s3.1 (1 : Int)) fun v29 =>
        some (.nx (v29, (s3.2.1.set (IntKind.i64.wrap (s3.2.2 - (1 : Int))).toNat s3.2.2).set (IntKind.i64.wrap (s3.2.2 - (1 : Int))).toNat (IntKind.i64.wrap (0 - s3.2.2)), IntKind.i64.wrap (s3.2.2 - (1 : Int))))
      else
        Option.bind (shr .i64 s3.1 (1 : Int)) fun v29 =>
        some (.nx (v29, s3.2.1.set (IntKind.i64.wrap (s3.2.2 - (1 : Int))).toNat s3.2.2, IntKind.i64.wrap (s3.2.2 - (1 : Int))))
    else
      some (.br s3)) m ((N : Int), out, (v : Int))) (.inr (z, asg v (fun j => !N.testBit (v - 1 - j)) ++ out.drop v, 0))
  | 0, N, out, hN, hv, ho => ⟨(N : Int), ev_br (by rw [show (((N : Int), out, ((0 : Nat) : Int)) : Int × List Int × Int).2.2 = 0 from rfl]; rfl)⟩
  | u + 1, N, out, hN, hv, ho => by
    have hw : IntKind.i64.wrap (((u + 1 : Nat) : Int) - 1) = (u : Int) := by rw [wrap64 (by omega) (by omega)]; omega
    have hwn : IntKind.i64.wrap (0 - ((u + 1 : Nat) : Int)) = -((u + 1 : Nat) : Int) := by rw [wrap64 (by omega) (by omega)]; omega
    have h2 : shr .i64 (N : Int) 1 = some ((N / 2 : Nat) : Int) := shr_eq (x := N) (j := 1) (by omega)
    have hu : u < out.length := by omega
    have hb : decide (bitand .i64 (N : Int) 1 = 1) = N.testBit 0 := by
      rw [bitand_one (by omega), Nat.testBit_zero]; exact decide_eq_decide.2 (by omega)
    have step : ∀ x : Int, x = (bif (!N.testBit 0) then ((u + 1 : Nat) : Int) else -((u + 1 : Nat) : Int)) → asg u (fun j => !(N / 2).testBit (u - 1 - j)) ++ (out.set u x).drop u = asg (u + 1) (fun j => !N.testBit (u + 1 - 1 - j)) ++ out.drop (u + 1) := fun x hx => by
      rw [set_drop hu, hx]
      unfold asg
      rw [List.range_succ, List.map_append, List.map_singleton, List.append_assoc]
      have e1 : (List.range u).map (fun j => bif !(N / 2).testBit (u - 1 - j) then ((j + 1 : Nat) : Int) else -((j + 1 : Nat) : Int)) = (List.range u).map (fun j => bif !N.testBit (u + 1 - 1 - j) then ((j + 1 : Nat) : Int) else -((j + 1 : Nat) : Int)) := by
        apply List.map_congr_left
        intro j hj
        have hj' : j < u := List.mem_range.1 hj
        have e2 : (N / 2).testBit (u - 1 - j) = N.testBit (u + 1 - 1 - j) := by
          rw [show u + 1 - 1 - j = (u - 1 - j) + 1 from by omega, Nat.testBit_succ]
        simp only [e2]
      have e3 : u + 1 - 1 - u = 0 := by omega
      rw [e1]
      simp only [e3, List.singleton_append]
    have hset : (out.set u ((u + 1 : Nat) : Int)).length = n := by rw [List.length_set]; exact ho
    cases hbit : N.testBit 0 with
    | true =>
      obtain ⟨z, hz⟩ := asg_loop n hn u (N / 2) (out.set u (-((u + 1 : Nat) : Int))) (by omega) (by omega) (by rw [List.length_set]; exact ho)
      refine ⟨z, ?_⟩
      rw [step _ (by rw [hbit]; rfl)] at hz
      refine ev_nx ?_ hz
      have hi2 : idx (out.set u ((u + 1 : Nat) : Int)) (u : Int) = some ((out.set u ((u + 1 : Nat) : Int)).getD u default) := idx_getD (by omega)
      simp only [hw, hwn, hb, hbit, h2, idx_getD hu, hi2, Option.bind_some, cond_true, Int.toNat_natCast, List.set_set]
      rw [decide_eq_true (by omega), cond_true]
    | false =>
      obtain ⟨z, hz⟩ := asg_loop n hn u (N / 2) (out.set u ((u + 1 : Nat) : Int)) (by omega) (by omega) (by rw [List.length_set]; exact ho)
      refine ⟨z, ?_⟩
      rw [step _ (by rw [hbit]; rfl)] at hz
      refine ev_nx ?_ hz
      simp only [hw, hwn, hb, hbit, h2, idx_getD hu, Option.bind_some, cond_false, Int.toNat_natCast]
      rw [decide_eq_true (by omega), cond_true]
theorem assignmentOf_eq {n N : Nat} (hn : n ≤ 12) (hN : N < 2 ^ 40) : impl_assignmentOf (N : Int) (n : Int) = some (asg n (fun j => !N.testBit (n - 1 - j))) := by
  obtain ⟨z, hz⟩ := asg_loop n hn n N (List.replicate n 0) hN (Nat.le_refl _) (by simp)
  unfold impl_assignmentOf
  rw [show mkn (n : Int) = some n from by unfold mkn; rw [if_pos (by omega)]; rfl, Option.bind_some]
  refine (congrArg (fun x => thenL x (fun s3 : Int × List Int × Int => some s3.2.1)) (lim_eq hz)).trans ?_
  rw [thenL_inr, List.drop_of_length_le (by simp), List.append_nil]
theorem ev_congr {p q : Int → Bool} (a : Formula) : a.good = true → a.vf = true → (∀ x ∈ a.ats.map varOf, p x = q x) → a.ev p = a.ev q := by
  refine Formula.ind' (M := fun a => a.good = true → a.vf = true → (∀ x ∈ a.ats.map varOf, p x = q x) → a.ev p = a.ev q) (fun a ih hg hv h => ?_) a
  have sub : a.Op ≠ 3 → ∀ x ∈ a.Parts, x.ev p = x.ev q := fun h3 x hx => ih x hx (good_parts hg x hx) (vf_parts hv h3 x hx) (fun y hy => by
    obtain ⟨t, ht, rfl⟩ := List.mem_map.1 hy
    exact h _ (List.mem_map.2 ⟨t, ats_parts h3 hx ht, rfl⟩))
  by_cases e3 : a.Op = 3
  · have := h (varOf a.Atom) (List.mem_map.2 ⟨a.Atom, by rw [Formula.ats_u, decide_eq_true e3, cond_true]; simp, rfl⟩)
    rw [Formula.ev_u, Formula.ev_u, this]
    simp [e3]
  · have : a.Parts.map (Formula.ev p) = a.Parts.map (Formula.ev q) := List.map_congr_left (fun x hx => sub e3 x hx)
    rw [Formula.ev_u, Formula.ev_u, this, decide_eq_false e3]; rfl
theorem vars_rng {a : Formula} (hg : a.good = true) (hv : a.vf = true) {x : Int} (hx : x ∈ a.ats.map varOf) : 1 ≤ x ∧ x ≤ 12 := by
  obtain ⟨t, ht, rfl⟩ := List.mem_map.1 hx
  have := varOf_nn t
  have := ats_vf hg hv t ht
  omega
end Go.Proofs.YtkokcfphepmeeaaGreatDoor
