/- A part of the proof: lemmas only; nothing is claimed here beyond what each lemma says. -/
import Derived.Test.YtkokcfphepmeeaaGreatDoorGasg
set_option linter.unusedSimpArgs false
set_option linter.unusedVariables false
set_option linter.defProp false
set_option maxRecDepth 4000
namespace Go.Proofs.YtkokcfphepmeeaaGreatDoor
open Go.Av
theorem concatI (L R : List Int) (h1 : L.length ≤ 1000) (h2 : R.length ≤ 1000) : slices_Concat_Sint_int [L, R] = some (L ++ R) := by
  unfold slices_Concat_Sint_int
  have w1 : IntKind.i64.wrap ((0 : Int) + (L.length : Int)) = (L.length : Int) := by rw [wrap64] <;> omega
  have w2 : IntKind.i64.wrap ((L.length : Int) + (R.length : Int)) = ((L.length + R.length : Nat) : Int) := by rw [wrap64] <;> omega
  have e1 : ∀ i : Nat, idx [L, R] (i : Int) = [L, R][i]? := fun i => idx_nat _ i
  have g : ∀ n : Nat, n ≤ 2000 → slices_Grow_Sint_int_nil0 (n : Int) = some [] := by
    intro n hn
    unfold slices_Grow_Sint_int_nil0
    rw [decide_eq_false (by omega), cond_false]
    have : IntKind.i64.wrap ((n : Int) - IntKind.i64.wrap ((0 : Int) - (([] : List Nat).length : Int))) = (n : Int) := by
      rw [show (0 : Int) - (([] : List Nat).length : Int) = 0 from rfl, wrap64 (n := 0) (by omega) (by omega), wrap64] <;> omega
    rw [this]
    by_cases h : 0 < (n : Int)
    · rw [decide_eq_true h, cond_true]
      have : appz (n : Int) = some n := by unfold appz; rw [if_pos (by omega)]; rfl
      rw [this, Option.bind_some]
      unfold slc
      rw [if_pos ⟨by omega, by simp, by simp⟩]; rfl
    · rw [decide_eq_false h]; rfl
  have a1 : app ([] : List Int) L = some L := by unfold app; rw [if_pos (by simp only [List.length_nil]; omega)]; rfl
  have a2 : app L R = some (L ++ R) := by unfold app; rw [if_pos (by omega)]
  have f1 : forN (fun (i3 : Nat) (s3 : Int) => Option.bind (idx [L, R] (i3 : Int)) fun v13 => bif decide ((IntKind.i64.wrap (s3 + (v13.length : Int))) < (0 : Int)) then (none : Option (Flow (List Int) Int)) else some (.nx (IntKind.i64.wrap (s3 + (v13.length : Int))))) [L, R].length 0 (0 : Int) = some (.inr ((L.length + R.length : Nat) : Int)) := by
    rw [show [L, R].length = 1 + 1 from rfl, forN_nx (s' := (L.length : Int)) (by rw [e1]; simp only [List.getElem?_cons_zero, Option.bind_some, w1]; rw [decide_eq_false (by omega)]; rfl),
      forN_nx (n := 0) (s' := ((L.length + R.length : Nat) : Int)) (by rw [e1]; simp only [List.getElem?_cons_zero, List.getElem?_cons_succ, Option.bind_some, w2]; rw [decide_eq_false (by omega)]; rfl)]
    rfl
  have f2 : forN (ρ := List Int) (fun (i11 : Nat) (s11 : (List Int)) => Option.bind (idx [L, R] (i11 : Int)) fun v29 => Option.bind (app s11 v29) fun v33 => some (.nx v33)) [L, R].length 0 [] = some (.inr (L ++ R)) := by
    rw [show [L, R].length = 1 + 1 from rfl, forN_nx (s' := L) (by rw [e1]; simp only [List.getElem?_cons_zero, Option.bind_some, a1]),
      forN_nx (n := 0) (s' := L ++ R) (by rw [e1]; simp only [List.getElem?_cons_zero, List.getElem?_cons_succ, Option.bind_some, a2])]
    rfl
  rw [f1, thenL_inr, g _ (by omega), Option.bind_some, f2]; rfl
theorem max_loop {ρ : Type} : ∀ (l : List Int) (i : Nat) (s : Int), 0 ≤ s → s ≤ 12 → (∀ x ∈ l, x ≤ 12) → ∃ n : Int, forL (ρ := ρ) (fun _ x (s7 : Int) => some (.nx (max s7 x))) l i s = some (.inr n) ∧ 0 ≤ n ∧ n ≤ 12 ∧ s ≤ n ∧ ∀ x ∈ l, x ≤ n
  | [], i, s, h0, h1, _ => ⟨s, rfl, h0, h1, Int.le_refl _, fun x hx => by cases hx⟩
  | x :: l, i, s, h0, h1, h => by
    have hx := h x (by simp)
    obtain ⟨n, g1, g2, g3, g4, g5⟩ := max_loop (ρ := ρ) l (i + 1) (max s x) (by omega) (by omega) (fun y hy => h y (by simp [hy]))
    refine ⟨n, by rw [forL_nx (s' := max s x) rfl, g1], g2, g3, by omega, fun y hy => ?_⟩
    rcases List.mem_cons.1 hy with rfl | hy
    · omega
    · exact g5 y hy
def badI (a b : Formula) (p : Int → Bool) : Bool := a.ev p && !b.ev p
theorem bad_congr {a b : Formula} (ga : a.good = true) (va : a.vf = true) (gb : b.good = true) (vb : b.vf = true) {p q : Int → Bool} (h : ∀ x, x ∈ a.ats.map varOf ∨ x ∈ b.ats.map varOf → p x = q x) : badI a b p = badI a b q := by
  unfold badI
  rw [ev_congr a ga va (fun x hx => h x (.inl hx)), ev_congr b gb vb (fun x hx => h x (.inr hx))]
def sgn (l : List Int) (m : Nat) : List Int := (List.range l.length).map fun i => bif m.testBit i then l.getD i default else -(l.getD i default)
theorem has_sgn {l : List Int} {m i : Nat} (ha : Asc l) (hp : ∀ x ∈ l, 1 ≤ x) (hi : i < l.length) : hasI (sgn l m) (l.getD i default) = m.testBit i := by
  unfold hasI sgn
  have h1 := hp _ (getD_mem hi)
  rw [Bool.eq_iff_iff, decide_eq_true_iff, List.mem_map]
  constructor
  · rintro ⟨j, hj, e⟩
    have hj' : j < l.length := List.mem_range.1 hj
    cases hm : m.testBit j with
    | true => rw [hm, cond_true] at e; rw [← asc_nodup ha hj' hi e]; exact hm
    | false =>
      rw [hm, cond_false] at e
      have := hp _ (getD_mem hj'); omega
  · exact fun hm => ⟨i, List.mem_range.2 hi, by rw [hm, cond_true]⟩
theorem imp_both (a0 a1 : Formula) (ok0 : a0.Ok) (t0 : a0.tot ≤ 1048576) (ok1 : a1.Ok) (t1 : a1.tot ≤ 1048576) : ∃ r, spec_ImpliesFormula a0 a1 = some r ∧ impl_ImpliesFormula a0 a1 = some r := by
  unfold spec_ImpliesFormula impl_ImpliesFormula
  rw [l20Good_eq a0 t0 ok0, l20Good_eq a1 t1 ok1, variablesOf_eq a0 t0 ok0, variablesOf_eq a1 t1 ok1, Option.bind_some, Option.bind_some, Option.bind_some]
  cases o0 : okF a0
  · exact ⟨_, rfl, rfl⟩
  · cases o1 : okF a1
    · exact ⟨_, rfl, rfl⟩
    · obtain ⟨hv0, va⟩ := (Bool.and_eq_true _ _).mp o0
      obtain ⟨c0, ga⟩ := validF_cnt hv0
      obtain ⟨hv1, vb⟩ := (Bool.and_eq_true _ _).mp o1
      obtain ⟨c1, gb⟩ := validF_cnt hv1
      have l0 := ats_cnt a0
      have l1 := ats_cnt a1
      simp only [cond_true, Option.bind_some]
      have hrng : ∀ x, x ∈ a0.ats.map varOf ∨ x ∈ a1.ats.map varOf → 1 ≤ x ∧ x ≤ 12 := fun x hx => hx.elim (vars_rng ga va) (vars_rng gb vb)
      -- the reference
      obtain ⟨v, i1, i2, i3, i4⟩ := l20Into_ok a0 [] (by simp; omega)
      obtain ⟨u, j1, j2, j3, j4⟩ := l20Into_ok a1 v (by simp at i3; omega)
      have hasc : Asc u := j4 (i4 List.Pairwise.nil)
      have humem : ∀ x, x ∈ u ↔ x ∈ a0.ats.map varOf ∨ x ∈ a1.ats.map varOf := fun x => by rw [j2, i2]; simp
      have hur : ∀ x ∈ u, 1 ≤ x ∧ x ≤ 12 := fun x hx => hrng x ((humem x).1 hx)
      have hulen : u.length ≤ 12 := by have := asc_len u 1 hasc hur (by omega); omega
      have hspec : thenL (ρ := (Bool × Bool)) (σ := Int) (lim fun n5 => whileN (fun (s5 : Int) =>
        Option.bind (shl .i64 (1 : Int) (IntKind.u64.wrap (u.length : Int))) fun v27 =>
        bif decide (s5 < v27) then
          thenL (ρ := (Flow (Bool × Bool) Int)) (σ := (List Int)) (forN (fun (i9 : Nat) (s9 : (List Int)) =>
            Option.bind (shr .i64 s5 (IntKind.u64.wrap (i9 : Int))) fun v41 =>
            bif decide ((bitand .i64 v41 (1 : Int)) = (1 : Int)) then
              Option.bind (idx u (i9 : Int)) fun v47 =>
              Option.bind (app s9 ([v47])) fun v50 =>
              some (.nx v50)
            else
              Option.bind (idx u (i9 : Int)) fun v54 =>
              Option.bind (app s9 ([IntKind.i64.wrap (0 - v54)])) fun v58 =>
              some (.nx v58)) u.length 0 ([])) fun s9 =>
          Option.bind (spec_l20Value a0 s9) fun v61 =>
          bif v61 then
            Option.bind (spec_l20Value a1 s9) fun v65 =>
            bif v65 then
              some (.nx (IntKind.i64.wrap (s5 + (1 : Int))))
            else
              some (.rt (false, true))
          else
            some (.nx (IntKind.i64.wrap (s5 + (1 : Int))))
        else
          some (.br s5)) n5 (0 : Int)) (fun s5 => some (true, true)) = some (bif (List.range (2 ^ u.length)).all (fun m => !badI a0 a1 (hasI (sgn u m))) then (true, true) else (false, true)) := by
        have hsh : shl .i64 (1 : Int) (IntKind.u64.wrap (u.length : Int)) = some ((2 ^ u.length : Nat) : Int) := by rw [wrapu (by omega), shl_two hulen]
        have h4 := two_le hulen
        refine while_all (fun m => !badI a0 a1 (hasI (sgn u m))) (false, true) (true, true) (fun m hm => ?_) (by rw [hsh, Option.bind_some, decide_eq_false (by omega), cond_false])
        rw [hsh, Option.bind_some, decide_eq_true (by omega), cond_true]
        rw [forN_build (fun i => bif m.testBit i then u.getD i default else -(u.getD i default)) u.length 0 [] (by simp; omega) (fun j s _ hj hs => by
          have hb : decide (bitand .i64 ((m / 2 ^ j : Nat) : Int) 1 = 1) = m.testBit j := bit_test (by omega)
          have hd := hur _ (getD_mem (show j < u.length by omega))
          rw [wrapu (by omega), shr_eq (by omega), Option.bind_some, hb, idx_getD (by omega)]
          unfold app
          cases m.testBit j
          · rw [cond_false, Option.bind_some, wrap64 (by omega) (by omega), if_pos (by simp; omega)]
            simp
          · rw [cond_true, Option.bind_some, if_pos (by simp; omega)]; rfl), thenL_inr, List.nil_append]
        rw [show (List.range' 0 u.length).map (fun i => bif m.testBit i then u.getD i default else -(u.getD i default)) = sgn u m from by unfold sgn; rw [List.range_eq_range'], value_ok ga va, Option.bind_some, value_ok gb vb, wrap_succ (by omega)]
        unfold badI
        cases a0.ev (hasI (sgn u m)) <;> cases a1.ev (hasI (sgn u m)) <;> rfl
      -- the program
      rw [concatI _ _ (by simp; omega) (by simp; omega), Option.bind_some]
      obtain ⟨n, n1, n2, n3, _, n5⟩ := max_loop (ρ := Bool × Bool) (a0.ats.map varOf ++ a1.ats.map varOf) 0 0 (by omega) (by omega) (fun x hx => (hrng x (List.mem_append.1 hx)).2)
      obtain ⟨k, rfl⟩ : ∃ k : Nat, n = (k : Int) := ⟨n.toNat, by omega⟩
      have hk : k ≤ 12 := by omega
      have h4 := two_le hk
      have him : forN (ρ := Bool × Bool) (fun (i7 : Nat) (s7 : Int) =>
        Option.bind (idx (a0.ats.map varOf ++ a1.ats.map varOf) (i7 : Int)) fun v38 =>
        Option.bind (idx (a0.ats.map varOf ++ a1.ats.map varOf) (i7 : Int)) fun v39 =>
        some (.nx (max s7 v39))) (a0.ats.map varOf ++ a1.ats.map varOf).length 0 (0 : Int) = some (.inr (k : Int)) := by
        have e := forN_idx (ρ := Bool × Bool) (a0.ats.map varOf ++ a1.ats.map varOf) (fun i x (s : Int) => (idx (a0.ats.map varOf ++ a1.ats.map varOf) (i : Int)).bind fun v39 => some (.nx (max s v39))) 0
        rw [e, forL_congr (g := fun _ x s => some (.nx (max s x))) (a0.ats.map varOf ++ a1.ats.map varOf) 0 0 (fun j x s hx => by
          rw [Nat.zero_add, idx_nat, hx, Option.bind_some]), n1]
      have himpl : ∀ (k' : Unit → Option (Bool × Bool)), thenL (ρ := (Bool × Bool)) (σ := Unit) (forN (fun (i12 : Nat) (s12 : Unit) =>
        Option.bind (impl_assignmentOf (i12 : Int) (k : Int)) fun v51 =>
        Option.bind (impl_evaluateOn a0 v51) fun v54 =>
        bif v54 then
          Option.bind (impl_evaluateOn a1 v51) fun v58 =>
          bif v58 then
            some (.nx ())
          else
            some (.rt (false, true))
        else
          some (.nx ())) (2 ^ k) 0 ()) k' = bif (List.range (2 ^ k)).all (fun m => !badI a0 a1 (hasI (asg k (fun j => !m.testBit (k - 1 - j))))) then k' () else some (false, true) := fun k' => by
        rw [forN_all (fun m => !badI a0 a1 (hasI (asg k (fun j => !m.testBit (k - 1 - j))))) (r0 := (false, true)) (fun m hm _ => by
          rw [assignmentOf_eq hk (by omega), Option.bind_some, evaluate_ok c0 ga va, Option.bind_some, evaluate_ok c1 gb vb]
          unfold badI
          cases a0.ev (hasI (asg k (fun j => !m.testBit (k - 1 - j)))) <;> cases a1.ev (hasI (asg k (fun j => !m.testBit (k - 1 - j)))) <;> rfl)]
      rw [i1, Option.bind_some, j1, Option.bind_some, hspec, him, thenL_inr, shl_two hk, Option.bind_some, bnd_nat (by unfold Big; omega), Option.bind_some, himpl]
      have e : (List.range (2 ^ u.length)).all (fun m => !badI a0 a1 (hasI (sgn u m))) = (List.range (2 ^ k)).all (fun m => !badI a0 a1 (hasI (asg k (fun j => !m.testBit (k - 1 - j))))) := by
        have A : (List.range (2 ^ u.length)).all (fun m => !badI a0 a1 (hasI (sgn u m))) = true ↔ ∀ p, badI a0 a1 p = false := by
          rw [List.all_eq_true]
          constructor
          · intro h p
            obtain ⟨m, m1, m2⟩ := exists_bits (fun i => p (u.getD i default)) u.length
            have := h m (List.mem_range.2 m1)
            rw [Bool.not_eq_true'] at this
            rw [← this]
            refine bad_congr ga va gb vb (fun x hx => ?_)
            obtain ⟨i, hi, e⟩ := List.getElem_of_mem ((humem x).2 hx)
            have e' : u.getD i default = x := by rw [List.getD_eq_getElem?_getD, List.getElem?_eq_getElem hi, Option.getD_some, e]
            rw [← e', has_sgn hasc (fun y hy => (hur y hy).1) hi, m2 i hi]
          · intro h m _; rw [h]; rfl
        have B : (List.range (2 ^ k)).all (fun m => !badI a0 a1 (hasI (asg k (fun j => !m.testBit (k - 1 - j))))) = true ↔ ∀ p, badI a0 a1 p = false := by
          rw [List.all_eq_true]
          constructor
          · intro h p
            obtain ⟨m, m1, m2⟩ := exists_bits (fun i => !p ((k - 1 - i + 1 : Nat) : Int)) k
            have := h m (List.mem_range.2 m1)
            rw [Bool.not_eq_true'] at this
            rw [← this]
            refine bad_congr ga va gb vb (fun x hx => ?_)
            have hx1 := (hrng x hx).1
            have hx2 := n5 x (List.mem_append.2 hx)
            rw [has_asg hx1 hx2, m2 _ (by omega), Bool.not_not]
            congr 1; omega
          · intro h m _; rw [h]; rfl
        rw [Bool.eq_iff_iff, A, B]
      rw [e]
      cases (List.range (2 ^ k)).all (fun m => !badI a0 a1 (hasI (asg k (fun j => !m.testBit (k - 1 - j)))))
      · exact ⟨_, rfl, rfl⟩
      · exact ⟨_, rfl, rfl⟩
theorem FnExactImpliesFormula_true (a0 a1 : Formula) (h0 : a0.Ok) (h1 : a1.Ok) : FnExactImpliesFormula a0 a1 = some true := by
  unfold FnExactImpliesFormula
  rw [szFormula_eq a0 h0 _ (by omega) (by omega), Option.bind_some]
  by_cases e : szR a0.tot 1048576 < 0
  · rw [decide_eq_true e]; rfl
  · have t0 := szR_ok e
    have hs : szR a0.tot 1048576 = 1048576 - (a0.tot : Int) := by unfold szR; rw [if_pos (by omega)]
    rw [decide_eq_false e, cond_false, hs, szFormula_eq a1 h1 _ (by omega) (by omega), Option.bind_some]
    by_cases e1 : szR a1.tot (1048576 - (a0.tot : Int)) < 0
    · rw [decide_eq_true e1]; rfl
    · have t1 : a1.tot ≤ 1048576 := by
        have := mt (szR_neg (t := a1.tot) (l := 1048576 - (a0.tot : Int)) (by omega)).2 e1
        omega
      rw [decide_eq_false e1, cond_false]
      obtain ⟨r, g1, g2⟩ := imp_both a0 a1 h0 t0 h1 t1
      simp only [toFormula_eq a0 t0, toFormula_eq a1 t1, Option.bind_some, g1, g2, beq_self_eq_true, cond_true, eqFormula_refl]
end Go.Proofs.YtkokcfphepmeeaaGreatDoor
