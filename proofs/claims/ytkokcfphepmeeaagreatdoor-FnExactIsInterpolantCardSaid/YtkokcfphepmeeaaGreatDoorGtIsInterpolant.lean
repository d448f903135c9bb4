/- A part of the proof: lemmas only; nothing is claimed here beyond what each lemma says. -/
import Derived.Test.YtkokcfphepmeeaaGreatDoorGint
set_option linter.unusedSimpArgs false
set_option linter.unusedVariables false
set_option linter.defProp false
set_option maxRecDepth 4000
namespace Go.Proofs.YtkokcfphepmeeaaGreatDoor
open Go.Av
theorem colors_eq {s : List (List Int)} {n k : Nat} (h : Good s) (hm : most s = (n : Int)) (hn : n ≤ 12) (hb : ∀ c ∈ s, ∀ x ∈ c, absI x ≤ n) : impl_colors s (k : Int) = some (cellsOf (fun j => (s.take k).any (tch · j)) (fun j => (s.drop k).any (tch · j)) n) := by
  have hl := colors_loop (k := k) hn s (fun c hc l hl => ⟨((h.2 c hc).2 l hl).1, ((h.2 c hc).2 l hl).2.1, hb c hc l hl⟩) s.length 0 (by omega)
  have e0 : cellsOf (fun j => (s.take (min 0 k)).any (tch · j)) (fun j => ((s.take 0).drop k).any (tch · j)) n = List.replicate n 0 := by
    apply List.ext_getElem?
    intro i
    by_cases hi : i < n
    · rw [cellsOf_get hi, List.getElem?_replicate, if_pos hi]; simp [cell]
    · rw [List.getElem?_eq_none (by unfold cellsOf; simp; omega), List.getElem?_eq_none (by simp; omega)]
  rw [e0] at hl
  unfold impl_colors
  rw [greatest_eq h, Option.bind_some, hm, show mkn (n : Int) = some n from by unfold mkn; rw [if_pos (by omega)]; rfl, Option.bind_some, hl]; rfl
theorem occ_tch {s : List (List Int)} (h : ∀ c ∈ s, ∀ x ∈ c, InR x ∧ 1 ≤ absI x ∧ absI x ≤ 12) (j : Nat) : s.any (tch · j) = occ s ((j + 1 : Nat) : Int) := by
  unfold occ
  rw [Bool.eq_iff_iff, List.any_eq_true, List.any_eq_true]
  constructor
  · rintro ⟨c, h1, h2⟩; exact ⟨c, h1, by rw [← tch_has (h c h1)]; exact h2⟩
  · rintro ⟨c, h1, h2⟩; exact ⟨c, h1, by rw [tch_has (h c h1)]; exact h2⟩
theorem occ_big {s : List (List Int)} {n : Nat} (h : ∀ c ∈ s, ∀ x ∈ c, InR x ∧ 1 ≤ absI x ∧ absI x ≤ 12) (hb : ∀ c ∈ s, ∀ x ∈ c, absI x ≤ n) {x : Int} (hx : (n : Int) < x) : occ s x = false := by
  unfold occ
  rw [List.any_eq_false]
  intro c hc
  have key : ∀ y, (y = x ∨ y = -x) → hasI c y = false := fun y hy => by
    unfold hasI
    refine decide_eq_false fun hm => ?_
    have h1 := (absI_rng (h c hc y hm).1 (h c hc y hm).2.1).1
    have h2 := hb c hc y hm
    rw [h1] at h2
    split at h2 <;> omega
  rw [key x (.inl rfl), key (-x) (.inr rfl)]; simp
def badS (s : List (List Int)) (k : Nat) (f : Formula) (a : List Int) : Bool := bif f.ev (hasI a) then sat (s.drop k) a else sat (s.take k) a
theorem int_both (s : List (List Int)) (a1 : Int) (f : Formula) (hs : OkC s) (hl : s.length ≤ 1048576) (hok : f.Ok) (ht : f.tot ≤ 1048576) : ∃ r, spec_IsInterpolant s a1 f = some r ∧ impl_IsInterpolant s a1 f = some r := by
  unfold spec_IsInterpolant impl_IsInterpolant impl_isSplit
  rw [l15Set_eq s hs, valid_impl s hs, l20Good_eq f ht hok, variablesOf_eq f ht hok, l1In_eq, within_eq]
  simp only [Option.bind_some]
  cases hv : validC s
  · cases okF f <;> exact ⟨_, rfl, rfl⟩
  · cases hr : inR a1 0 (s.length : Int)
    · cases okF f <;> exact ⟨_, rfl, rfl⟩
    · cases ho : okF f
      · exact ⟨_, rfl, rfl⟩
      · have hg := valid_good hs hv
        obtain ⟨n, hmost, hn, hb⟩ := most_ok hg
        have hgr : ∀ c ∈ s, ∀ x ∈ c, InR x ∧ 1 ≤ absI x ∧ absI x ≤ 12 := fun c hc => (hg.2 c hc).2
        obtain ⟨hvF, va⟩ := (Bool.and_eq_true _ _).mp ho
        obtain ⟨c0, ga⟩ := validF_cnt hvF
        have l0 := ats_cnt f
        simp only [inR, decide_eq_true_iff] at hr
        obtain ⟨k, rfl⟩ : ∃ k : Nat, a1 = (k : Int) := ⟨a1.toNat, by omega⟩
        have hk : k ≤ s.length := by omega
        have s1 : slc s (0 : Int) (k : Int) = some (s.take k) := by unfold slc; rw [if_pos (by omega)]; rfl
        have s2 : slc s (k : Int) (s.length : Int) = some (s.drop k) := by unfold slc; rw [if_pos (by omega), Int.toNat_natCast, Int.toNat_natCast, List.take_length]
        have ht1 : ∀ c ∈ s.take k, ∀ x ∈ c, InR x ∧ 1 ≤ absI x ∧ absI x ≤ 12 := fun c hc => hgr c (List.mem_of_mem_take hc)
        have hd1 : ∀ c ∈ s.drop k, ∀ x ∈ c, InR x ∧ 1 ≤ absI x ∧ absI x ≤ 12 := fun c hc => hgr c (List.mem_of_mem_drop hc)
        have h4 := two_le hn
        obtain ⟨v, i1, i2, i3, i4⟩ := l20Into_ok f [] (by simp; omega)
        have hvr : ∀ x ∈ v, 1 ≤ x ∧ x ≤ 12 := fun x hx => vars_rng ga va (((i2 x).1 hx).elim (fun h => by cases h) id)
        simp only [cond_true]
        rw [i1, Option.bind_some, colors_eq hg hmost hn hb]
        simp only [cond_true, Option.bind_some]
        have hclen : (cellsOf (fun j => (s.take k).any (tch · j)) (fun j => (s.drop k).any (tch · j)) n).length = n := by unfold cellsOf; simp
        rw [ContainsFunc_int (p := fun x => !(occ (s.take k) x && occ (s.drop k) x)) _ (fun x hx => by
          have hxr := vars_rng ga va hx
          unfold impl_IsInterpolant_1
          rw [hclen]
          by_cases hxn : (n : Int) < x
          · rw [decide_eq_true hxn, occ_big ht1 (fun c hc => hb c (List.mem_of_mem_take hc)) hxn]; rfl
          · obtain ⟨j, hj⟩ : ∃ j : Nat, x = ((j + 1 : Nat) : Int) := ⟨(x - 1).toNat, by omega⟩
            subst hj
            have hw : IntKind.i64.wrap (((j + 1 : Nat) : Int) - 1) = (j : Int) := by rw [wrap64 (by omega) (by omega)]; omega
            rw [decide_eq_false hxn, cond_false, hw, idx_nat, cellsOf_get (by omega), Option.bind_some, cell_three, occ_tch ht1, occ_tch hd1]), Option.bind_some]
        rw [forN_all (fun j => occ (s.take k) (v.getD j default) && occ (s.drop k) (v.getD j default)) (r0 := (false, true)) (fun j hj _ => by
          have hx := hvr _ (getD_mem hj)
          rw [s1, Option.bind_some, idx_getD hj, Option.bind_some, Occurs_eq _ hx.1 hx.2, Option.bind_some, s2]
          simp only [Option.bind_some]
          rw [Occurs_eq _ hx.1 hx.2]
          cases occ (s.take k) (v.getD j default) <;> cases occ (s.drop k) (v.getD j default) <;> rfl), range_all_list v (fun x => occ (s.take k) x && occ (s.drop k) x)]
        have eall : (f.ats.map varOf).any (fun x => !(occ (s.take k) x && occ (s.drop k) x)) = !v.all (fun x => occ (s.take k) x && occ (s.drop k) x) := by
          rw [List.not_all_eq_any_not, Bool.eq_iff_iff, List.any_eq_true, List.any_eq_true]
          constructor
          · rintro ⟨x, g1, g2⟩; exact ⟨x, (i2 x).2 (.inr g1), g2⟩
          · rintro ⟨x, g1, g2⟩; exact ⟨x, ((i2 x).1 g1).elim (fun h => by cases h) id, g2⟩
        rw [eall]
        cases v.all (fun x => occ (s.take k) x && occ (s.drop k) x)
        · exact ⟨_, rfl, rfl⟩
        · rw [cond_true, Bool.not_true, cond_false, l15Most_eq hg, Option.bind_some, hmost, hclen, shl_two hn, Option.bind_some, bnd_nat (by unfold Big; omega), Option.bind_some]
          have hlenT : ∀ c ∈ s.take k, c.length ≤ 1048576 := fun c hc => (hg.2 c (List.mem_of_mem_take hc)).1
          have hlenD : ∀ c ∈ s.drop k, c.length ≤ 1048576 := fun c hc => (hg.2 c (List.mem_of_mem_drop hc)).1
          have hsh : shl .i64 (1 : Int) (IntKind.u64.wrap (n : Int)) = some ((2 ^ n : Nat) : Int) := by rw [wrapu (by omega), shl_two hn]
          have hspec : thenL (ρ := (Bool × Bool)) (σ := Int) (lim fun n11 => whileN (fun (s11 : Int) =>
            Option.bind (shl .i64 (1 : Int) (IntKind.u64.wrap (n : Int))) fun v63 =>
            bif decide (s11 < v63) then
              Option.bind (spec_l20Total (n : Int) s11) fun v69 =>
              Option.bind (spec_l20Value f v69) fun v72 =>
              bif v72 then
                Option.bind (slc s (k : Int) (s.length : Int)) fun v87 =>
                Option.bind (spec_l20Satisfies v87 v69) fun v89 =>
                bif v89 then
                  some (.rt (false, true))
                else
                  some (.nx (IntKind.i64.wrap (s11 + (1 : Int))))
              else
                Option.bind (slc s (0 : Int) (k : Int)) fun v78 =>
                Option.bind (spec_l20Satisfies v78 v69) fun v80 =>
                bif v80 then
                  some (.rt (false, true))
                else
                  some (.nx (IntKind.i64.wrap (s11 + (1 : Int))))
            else
              some (.br s11)) n11 (0 : Int)) (fun s11 => some (true, true)) = some (bif (List.range (2 ^ n)).all (fun m => !badS s k f (asg n (fun j => m.testBit j))) then (true, true) else (false, true)) := by
            refine while_all (fun m => !badS s k f (asg n (fun j => m.testBit j))) (false, true) (true, true) (fun m hm => ?_) (by rw [hsh, Option.bind_some, decide_eq_false (by omega), cond_false])
            rw [hsh, Option.bind_some, decide_eq_true (by omega), cond_true, Total_eq hn (by omega), Option.bind_some, value_ok ga va, Option.bind_some, s1, s2, Option.bind_some, Option.bind_some, Satisfies_eq _ _ hlenT, Satisfies_eq _ _ hlenD, Option.bind_some, Option.bind_some, wrap_succ (by omega)]
            unfold badS
            cases f.ev (hasI (asg n (fun j => m.testBit j))) <;> cases sat (s.drop k) (asg n (fun j => m.testBit j)) <;> cases sat (s.take k) (asg n (fun j => m.testBit j)) <;> rfl
          have himpl : ∀ (k' : Unit → Option (Bool × Bool)), thenL (ρ := (Bool × Bool)) (σ := Unit) (forN (fun (i8 : Nat) (s8 : Unit) =>
            Option.bind (impl_assignmentOf (i8 : Int) (n : Int)) fun v42 =>
            Option.bind (impl_evaluateOn f v42) fun v45 =>
            bif v45 then
              Option.bind (slc s (k : Int) (s.length : Int)) fun v60 =>
              Option.bind (impl_isModel v60 v42) fun v62 =>
              bif v62 then
                some (.rt (false, true))
              else
                some (.nx ())
            else
              Option.bind (slc s (0 : Int) (k : Int)) fun v51 =>
              Option.bind (impl_isModel v51 v42) fun v53 =>
              bif v53 then
                some (.rt (false, true))
              else
                some (.nx ())) (2 ^ n) 0 ()) k' = bif (List.range (2 ^ n)).all (fun m => !badS s k f (asg n (fun j => !m.testBit (n - 1 - j)))) then k' () else some (false, true) := fun k' => by
            rw [forN_all (fun m => !badS s k f (asg n (fun j => !m.testBit (n - 1 - j)))) (r0 := (false, true)) (fun m hm _ => by
              rw [assignmentOf_eq hn (by omega), Option.bind_some, evaluate_ok c0 ga va, Option.bind_some, s1, s2, Option.bind_some, Option.bind_some, isModel_eq, isModel_eq, Option.bind_some, Option.bind_some]
              unfold badS
              cases f.ev (hasI (asg n (fun j => !m.testBit (n - 1 - j)))) <;> cases sat (s.drop k) (asg n (fun j => !m.testBit (n - 1 - j))) <;> cases sat (s.take k) (asg n (fun j => !m.testBit (n - 1 - j))) <;> rfl)]
          rw [hspec, himpl]
          have e : (List.range (2 ^ n)).all (fun m => !badS s k f (asg n (fun j => m.testBit j))) = (List.range (2 ^ n)).all (fun m => !badS s k f (asg n (fun j => !m.testBit (n - 1 - j)))) := by
            have A : (List.range (2 ^ n)).all (fun m => !badS s k f (asg n (fun j => m.testBit j))) = true ↔ ∀ q, badS s k f (asg n q) = false := by
              rw [List.all_eq_true]
              constructor
              · intro h q
                obtain ⟨m, m1, m2⟩ := exists_bits q n
                have := h m (List.mem_range.2 m1)
                rw [Bool.not_eq_true', asg_congr (p := fun j => m.testBit j) (q := q) (fun j hj => m2 j hj)] at this
                exact this
              · intro h m _; rw [h]; rfl
            have B : (List.range (2 ^ n)).all (fun m => !badS s k f (asg n (fun j => !m.testBit (n - 1 - j)))) = true ↔ ∀ q, badS s k f (asg n q) = false := by
              rw [List.all_eq_true]
              constructor
              · intro h q
                obtain ⟨m, m1, m2⟩ := exists_bits (fun i => !q (n - 1 - i)) n
                have := h m (List.mem_range.2 m1)
                rw [Bool.not_eq_true', asg_congr (p := fun j => !m.testBit (n - 1 - j)) (q := q) (fun j hj => by
                  rw [m2 _ (by omega), Bool.not_not]; congr 1; omega)] at this
                exact this
              · intro h m _; rw [h]; rfl
            rw [Bool.eq_iff_iff, A, B]
          rw [e]
          cases (List.range (2 ^ n)).all (fun m => !badS s k f (asg n (fun j => !m.testBit (n - 1 - j))))
          · exact ⟨_, rfl, rfl⟩
          · exact ⟨_, rfl, rfl⟩
theorem FnExactIsInterpolant_true (a0 : List (List Int)) (a1 : Int) (a2 : Formula) (h0 : LOk (LOk InR) a0) (h1 : InR a1) (h2 : a2.Ok) : FnExactIsInterpolant a0 a1 a2 = some true := by
  unfold FnExactIsInterpolant
  rw [szIntSS_eq a0 h0 _ (by omega) (by omega), Option.bind_some]
  by_cases e : szR (ltot (ltot (fun _ => 0)) a0) 1048576 < 0
  · rw [decide_eq_true e]; rfl
  · have t0 := szR_ok e
    have hs : szR (ltot (ltot (fun _ => 0)) a0) 1048576 = 1048576 - (ltot (ltot (fun _ => 0)) a0 : Int) := by unfold szR; rw [if_pos (by omega)]
    rw [decide_eq_false e, cond_false, hs, szFormula_eq a2 h2 _ (by omega) (by omega), Option.bind_some]
    by_cases e1 : szR a2.tot (1048576 - (ltot (ltot (fun _ => 0)) a0 : Int)) < 0
    · rw [decide_eq_true e1]; rfl
    · have t1 : a2.tot ≤ 1048576 := by
        have := mt (szR_neg (t := a2.tot) (l := 1048576 - (ltot (ltot (fun _ => 0)) a0 : Int)) (by omega)).2 e1
        omega
      rw [decide_eq_false e1, cond_false]
      have hOk : OkC a0 := fun c hc => ⟨by
        have := tot_mem (ltot (fun _ => 0)) hc
        have := ltot_len (fun _ : Int => 0) c
        omega, (h0.2 c hc).2⟩
      obtain ⟨r, g1, g2⟩ := int_both a0 a1 a2 hOk (by have := ltot_len (ltot (fun _ : Int => 0)) a0; omega) h2 t1
      simp only [toIntSS_eq a0 t0, toFormula_eq a2 t1, Option.bind_some, g1, g2, beq_self_eq_true, cond_true, eqFormula_refl, eqIntSS_refl]
end Go.Proofs.YtkokcfphepmeeaaGreatDoor
