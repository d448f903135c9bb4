/- A part of the proof: lemmas only; nothing is claimed here beyond what each lemma says. -/
import Derived.Test.YtgbddapcjhgllaaGxp
import Derived.Test.YtgbddapcjhgllaaGsl
set_option linter.unusedSimpArgs false
set_option linter.unusedVariables false
set_option linter.defProp false
set_option maxRecDepth 4000
namespace Go.Proofs.Ytgbddapcjhgllaa
open Go.Av
def dropV (n : ByteArray) : List ByteArray → List Int → List ByteArray × List Int
  | v :: vs, s :: ss => if v = n then dropV n vs ss else (v :: (dropV n vs ss).1, s :: (dropV n vs ss).2)
  | _, _ => ([], [])
theorem dropV_len (n : ByteArray) : ∀ (vs : List ByteArray) (ss : List Int), (dropV n vs ss).2.length = (dropV n vs ss).1.length ∧ (dropV n vs ss).1.length ≤ vs.length
  | [], ss => by cases ss <;> simp [dropV]
  | v :: vs, [] => by simp [dropV]
  | v :: vs, s :: ss => by
    have := dropV_len n vs ss
    simp only [dropV]
    split
    · simp only [List.length_cons]; omega
    · simp only [List.length_cons]; omega
theorem dropV_slope (n z : ByteArray) : ∀ (vs : List ByteArray) (ss : List Int), slopeZ (dropV n vs ss).1 (dropV n vs ss).2 z = if n = z then 0 else slopeZ vs ss z
  | [], ss => by cases ss <;> simp [dropV, slopeZ]
  | v :: vs, [] => by simp [dropV, slopeZ]
  | v :: vs, s :: ss => by
    have := dropV_slope n z vs ss
    simp only [dropV]
    by_cases e : v = n
    · rw [if_pos e, this]
      subst e
      by_cases h : v = z
      · simp [h]
      · simp [h, slopeZ]
    · rw [if_neg e]
      simp only [slopeZ]
      by_cases h : v = z
      · have : n ≠ z := fun h2 => e (h.trans h2.symm)
        simp [h, this]
      · rw [if_neg h, this]; simp [h]
theorem dropV_mem (n z : ByteArray) : ∀ (vs : List ByteArray) (ss : List Int), z ∈ (dropV n vs ss).1 → z ∈ vs
  | [], ss, h => by cases ss <;> simp [dropV] at h
  | v :: vs, [], h => by simp [dropV] at h
  | v :: vs, s :: ss, h => by
    simp only [dropV] at h
    split at h
    · exact List.mem_cons_of_mem _ (dropV_mem n z vs ss h)
    · rcases List.mem_cons.1 h with h | h
      · simp [h]
      · exact List.mem_cons_of_mem _ (dropV_mem n z vs ss h)
theorem drop_loop {ρ : Type} (n : ByteArray) (vs : List ByteArray) (ss : List Int) (hl : ss.length = vs.length) (hb : vs.length ≤ 1048576) :
    forN (ρ := ρ) (fun (i5 : Nat) (s5 : (List ByteArray) × (List Int)) => Option.bind (idx vs (i5 : Int)) fun v38 => bif decide (v38 = n) then some (.nx (s5.1, s5.2)) else
      Option.bind (idx vs (i5 : Int)) fun v47 => Option.bind (app s5.1 ([v47])) fun v50 => Option.bind (idx ss (i5 : Int)) fun v57 => Option.bind (app s5.2 ([v57])) fun v60 => some (.nx (v50, v60))) vs.length 0 ([], []) = some (.inr (dropV n vs ss)) := by
  have key : ∀ (vs pv : List ByteArray) (ss ps : List Int) (s : List ByteArray × List Int), ps.length = pv.length → ss.length = vs.length → s.1.length + vs.length ≤ 1048576 → s.2.length + vs.length ≤ 1048576 →
      forN (ρ := ρ) (fun (i5 : Nat) (s5 : (List ByteArray) × (List Int)) => Option.bind (idx (pv ++ vs) (i5 : Int)) fun v38 => bif decide (v38 = n) then some (.nx (s5.1, s5.2)) else
      Option.bind (idx (pv ++ vs) (i5 : Int)) fun v47 => Option.bind (app s5.1 ([v47])) fun v50 => Option.bind (idx (ps ++ ss) (i5 : Int)) fun v57 => Option.bind (app s5.2 ([v57])) fun v60 => some (.nx (v50, v60))) vs.length pv.length s = some (.inr (s.1 ++ (dropV n vs ss).1, s.2 ++ (dropV n vs ss).2)) := by
    intro vs
    induction vs with
    | nil => intro pv ss ps s _ h _ _; cases ss <;> simp [forN, dropV]
    | cons v vs ih =>
      intro pv ss ps s hp h h1 h2
      cases ss with
      | nil => simp at h
      | cons x ss =>
        simp only [List.length_cons] at h1 h2 ⊢
        by_cases e : v = n
        · rw [forN_nx (s' := s) (by rw [idx_mid, Option.bind_some, decide_eq_true e, cond_true])]
          have := ih (pv ++ [v]) ss (ps ++ [x]) s (by simp [hp]) (by simpa using h) (by omega) (by omega)
          simp only [dropV, if_pos e]
          simpa using this
        · rw [forN_nx (s' := (s.1 ++ [v], s.2 ++ [x])) (by
            rw [idx_mid, Option.bind_some, decide_eq_false e, cond_false, Option.bind_some, app_one (by omega), Option.bind_some, ← hp, idx_mid, Option.bind_some, app_one (by omega)]; rfl)]
          have := ih (pv ++ [v]) ss (ps ++ [x]) (s.1 ++ [v], s.2 ++ [x]) (by simp [hp]) (by simpa using h) (by simp; omega) (by simp; omega)
          simp only [dropV, if_neg e]
          simpa using this
  have := key vs [] ss [] ([], []) rfl hl (by simpa using hb) (by simpa using hb)
  simpa using this
theorem inR_mid {x : Int} (h0 : 0 ≤ x) (h1 : x ≤ 1000000000000) : InR x := by simp only [InR]; omega
theorem subst_both (a m : Linear) (n : ByteArray) (ha : a.Ok) (hm : m.Ok) (hn : Big n.size) : ∃ (g : Linear) (c : Bool), spec_SubstituteLinear a n m = some (g, c) ∧ impl_SubstituteLinear a n m = some (g, c) ∧ g.Vars.length ≤ 16 ∧ g.Slopes.length ≤ 16 := by
  unfold spec_SubstituteLinear impl_SubstituteLinear
  rw [specL a ha, implL a ha, specL m hm, implL m hm, l2Var_eq n hn, isVariable_eq n hn, Option.bind_some, Option.bind_some]
  cases hv : validL a
  · exact ⟨_, _, rfl, rfl, by simp, by simp⟩
  simp only [cond_true, Option.bind_some]
  cases hx : isVarS n
  · exact ⟨_, _, rfl, rfl, by simp, by simp⟩
  simp only [cond_true, Option.bind_some]
  cases hw : validL m
  · exact ⟨_, _, rfl, rfl, by simp, by simp⟩
  simp only [cond_true]
  obtain ⟨a1, a2, a3, a4, a5, a6⟩ := validL_iff hv
  obtain ⟨b1, b2, b3, b4, b5, b6⟩ := validL_iff hw
  have dl := dropV_len n a.Vars a.Slopes
  generalize hf : slopeZ a.Vars a.Slopes n = f
  have fb := slopeZ_bound hv n
  rw [hf] at fb
  -- the text's way
  let R : Linear := ⟨(dropV n a.Vars a.Slopes).1, (dropV n a.Vars a.Slopes).2, a.Constant⟩
  have hnl := namesOf_len R m
  have hRl : R.Vars.length ≤ 8 := Nat.le_trans dl.2 a1
  have e1 : (thenL (ρ := (Linear × Bool)) (σ := (List ByteArray) × (List Int)) (forN (fun (i5 : Nat) (s5 : (List ByteArray) × (List Int)) =>
          Option.bind (idx a.Vars (i5 : Int)) fun v38 =>
          bif decide (v38 = n) then
            some (.nx (s5.1, s5.2))
          else
            Option.bind (idx a.Vars (i5 : Int)) fun v47 =>
            Option.bind (app s5.1 ([v47])) fun v50 =>
            Option.bind (idx a.Slopes (i5 : Int)) fun v57 =>
            Option.bind (app s5.2 ([v57])) fun v60 =>
            some (.nx (v50, v60))) a.Vars.length 0 ([], [])) fun s5 =>
        Option.bind (spec_l25Slope a n) fun v66 =>
        Option.bind (spec_l25Plus (Linear.mk s5.1 s5.2 a.Constant) m v66) fun v67 =>
        Option.bind (spec_l25Linear v67) fun v69 =>
        bif v69 then
          some (v67, true)
        else
          some ((Linear.mk ([]) ([]) (0 : Int)), false)) = Option.bind (spec_l25Linear (plusL R m f)) fun v69 => bif v69 then some (plusL R m f, true) else some ((Linear.mk ([]) ([]) (0 : Int)), false) := by
    rw [drop_loop n a.Vars a.Slopes a2 (by omega), thenL_inr, l25Slope_eq a n a2, hf, Option.bind_some]
    have := l25Plus_eq R m f dl.1 b2 (by omega)
    simp only [R] at this
    rw [this, Option.bind_some]
  rw [e1]
  -- the program's way
  have hm1 := foldP_ok (plusU 1) a.Vars a.Slopes _ GOk.empty
  have hm2 := hm1.del n
  have hm3 := foldP_ok (plusU f) m.Vars m.Slopes _ hm2
  generalize hM1 : foldP (plusU 1) a.Vars a.Slopes GMap.empty = M1 at hm1 hm2 hm3
  generalize hM3 : foldP (plusU f) m.Vars m.Slopes (GMap.del M1 n) = M3 at hm3
  have hg1 : ∀ z, GMap.get M1 z 0 = slopeZ a.Vars a.Slopes z := by
    intro z
    have s1 := slopeZ_bound hv z
    rw [← hM1]
    by_cases c : z ∈ a.Vars
    · rw [foldP_in (plusU 1) z _ _ _ a2.symm a4.nodup c, empty_get]
      have := plusU_small (f := 1) (g := 0) (s := slopeZ a.Vars a.Slopes z) (by omega) (by omega) (by omega) (by omega) s1.1 (by omega)
      omega
    · rw [foldP_out (plusU 1) z _ _ _ c, empty_get, slopeZ_notin _ _ _ c]
  have hg2 : ∀ z, GMap.get (GMap.del M1 n) z 0 = slopeZ R.Vars R.Slopes z := by
    intro z
    rw [del_get hm1, hg1]
    exact (dropV_slope n z a.Vars a.Slopes).symm
  have hRb : ∀ z, 0 ≤ slopeZ R.Vars R.Slopes z ∧ slopeZ R.Vars R.Slopes z ≤ 1000 := by
    intro z
    have s1 := slopeZ_bound hv z
    have : slopeZ R.Vars R.Slopes z = if n = z then 0 else slopeZ a.Vars a.Slopes z := dropV_slope n z a.Vars a.Slopes
    rw [this]
    split <;> omega
  have hg3 : ∀ z, GMap.get M3 z 0 = plusU f (slopeZ R.Vars R.Slopes z) (slopeZ m.Vars m.Slopes z) := by
    intro z
    have s1 := hRb z
    rw [← hM3]
    by_cases c : z ∈ m.Vars
    · rw [foldP_in (plusU f) z _ _ _ b2.symm b4.nodup c, hg2]
    · rw [foldP_out (plusU f) z _ _ _ c, hg2, slopeZ_notin _ _ _ c, plusU_zero s1.1 (by omega)]
  have hH : ∀ z, 0 ≤ plusU f (slopeZ R.Vars R.Slopes z) (slopeZ m.Vars m.Slopes z) ∧ plusU f (slopeZ R.Vars R.Slopes z) (slopeZ m.Vars m.Slopes z) ≤ 200000000 := by
    intro z
    have s1 := hRb z
    have s2 := slopeZ_bound hw z
    have := plusU_small (f := f) fb.1 fb.2.1 s1.1 (show slopeZ R.Vars R.Slopes z ≤ 1000000000 by omega) s2.1 (by omega)
    omega
  have hcc := plusU_small (f := f) (g := a.Constant) (s := m.Constant) fb.1 fb.2.1 (by omega) (by omega) (by omega) (by omega)
  have hsub : ∀ z, z ∈ (namesOf R m).filter (fun n => decide (0 < plusU f (slopeZ R.Vars R.Slopes n) (slopeZ m.Vars m.Slopes n))) ↔ GMap.get M3 z 0 ≠ 0 := by
    intro z
    have h0 := hH z
    rw [List.mem_filter, hg3, decide_eq_true_eq]
    constructor
    · rintro ⟨_, h⟩; omega
    · intro h
      refine ⟨Classical.byContradiction fun hno => h ?_, by omega⟩
      rw [namesOf_mem, not_or] at hno
      rw [slopeZ_notin _ _ _ hno.1, slopeZ_notin _ _ _ hno.2, plusU_zero (by omega) (by omega)]
  have hnz : nzk M3 = (plusL R m f).Vars := nzk_eq hm3 ((namesOf_srt R m).filter _) hsub
  have hkeys : ∀ z ∈ GMap.keys M3, z ∈ a.Vars ∨ z ∈ m.Vars := by
    intro z hz
    rw [← hM3, foldP_keys (plusU f) z _ _ _ b2.symm] at hz
    rcases hz with h | h
    · exact .inr h
    · have h := ((del_keys hm1 n z).1 h).2
      rw [← hM1, foldP_keys (plusU 1) z _ _ _ a2.symm] at h
      rcases h with h | h
      · exact .inl h
      · simp [GMap.keys, GMap.empty] at h
  have hlen3 := foldP_len (plusU f) m.Vars m.Slopes (GMap.del M1 n)
  have hlen2 := del_len M1 n
  have hlen1 := foldP_len (plusU 1) a.Vars a.Slopes GMap.empty
  have hle0 : (GMap.empty : GMap Int).es.length = 0 := rfl
  rw [hM3] at hlen3
  rw [hM1] at hlen1
  have hbig : ∀ k ∈ GMap.keys M3, Big k.size := fun k hk => (hkeys k hk).elim (fun h => big_var (a6 k h)) (fun h => big_var (b6 k h))
  have hr : ∀ k, InR (GMap.get M3 k 0) := fun k => by rw [hg3]; exact inR_mid (hH k).1 (by have := (hH k).2; omega)
  have hci : IntKind.i64.wrap (IntKind.i64.wrap (1 * a.Constant) + IntKind.i64.wrap (f * m.Constant)) = plusU f a.Constant m.Constant := by
    unfold plusU
    rw [Int.one_mul, wrap_small (x := a.Constant) (by omega) (by omega)]
  have hci2 : InR (plusU f a.Constant m.Constant) := inR_mid (by omega) (by omega)
  rw [add_eq a _ 1 a2, Option.bind_some, implSlopeZ a n hv, Option.bind_some, hf]
  simp only
  rw [hM1, add_eq m _ f b2, Option.bind_some]
  simp only
  rw [hM3, hci, linear_eq hm3 _ (by omega) hbig hr hci2, hnz]
  have hmap : ((plusL R m f).Vars.map fun k => GMap.get M3 k 0) = (plusL R m f).Slopes := List.map_congr_left fun k _ => hg3 k
  rw [hmap]
  have hJ : (⟨(plusL R m f).Vars, (plusL R m f).Slopes, plusU f a.Constant m.Constant⟩ : Linear) = plusL R m f := rfl
  rw [hJ]
  have hfl : (plusL R m f).Vars.length ≤ 16 := Nat.le_trans (List.length_filter_le _ _) (by omega)
  have hfs : (plusL R m f).Slopes.length = (plusL R m f).Vars.length := List.length_map _
  have hok : (plusL R m f).Ok := by
    refine ⟨⟨by simp only [Big]; omega, fun k hk => ?_⟩, ⟨by simp only [Big]; omega, fun x hx => ?_⟩, hci2⟩
    · rcases (namesOf_mem R m k).1 (List.mem_filter.1 hk).1 with h | h
      · exact big_var (a6 k (dropV_mem n k _ _ h))
      · exact big_var (b6 k h)
    · obtain ⟨k, _, rfl⟩ := List.mem_map.1 hx
      exact inR_mid (hH k).1 (by have := (hH k).2; omega)
  rw [specL _ hok, Option.bind_some, Option.bind_some]
  cases validL (plusL R m f)
  · exact ⟨_, _, rfl, rfl, by simp, by simp⟩
  · exact ⟨_, _, rfl, rfl, hfl, by omega⟩
theorem FnExactSubstituteLinear_true (a : Linear) (n : ByteArray) (b : Linear) (ha : a.Ok) (hn : Big n.size) (hb : b.Ok) : FnExactSubstituteLinear a n b = some true := by
  unfold FnExactSubstituteLinear
  by_cases hc : (1048576 : Int) < (n.size : Int)
  · rw [decide_eq_true hc]; rfl
  rw [decide_eq_false hc, cond_false, szLinear_eq a ha _ (by omega) (by omega), Option.bind_some]
  by_cases e : szR a.tot 1048576 < 0
  · rw [decide_eq_true e]; rfl
  have h1 := szR_ok e
  have e1 : szR a.tot 1048576 = 1048576 - a.tot := by unfold szR; rw [if_pos (by omega)]
  rw [decide_eq_false e, cond_false, e1, szLinear_eq b hb _ (by omega) (by omega), Option.bind_some]
  by_cases e2 : szR b.tot (1048576 - a.tot) < 0
  · rw [decide_eq_true e2]; rfl
  have h2 : (b.tot : Int) ≤ 1048576 - a.tot := Classical.byContradiction fun g => e2 ((szR_neg (by omega)).2 g)
  rw [decide_eq_false e2, cond_false]
  obtain ⟨g, c, k1, k2, k3, k4⟩ := subst_both a b n ha hb hn
  have ta := tot_len a
  have tb := tot_len b
  have va := ones_len a.Vars
  have sa := ones_len a.Slopes
  have vb := ones_len b.Vars
  have sb := ones_len b.Slopes
  have vg := ones_len g.Vars
  have sg := ones_len g.Slopes
  obtain ⟨y1, y1', m1, _⟩ := markLinear_held a (k := 1) (by omega) (by omega)
  obtain ⟨y2, y2', m2, _⟩ := markLinear_held b (k := 1 + ((lcn (fun _ => 1) a.Vars + lcn (fun _ => 1) a.Slopes : Nat) : Int)) (by omega) (by omega)
  obtain ⟨y3, y3', m3, m4⟩ := markLinear_held g (k := 1) (by omega) (by omega)
  have d1 : decide ((1 : Int) + ((lcn (fun _ => 1) a.Vars + lcn (fun _ => 1) a.Slopes : Nat) : Int) + ((lcn (fun _ => 1) b.Vars + lcn (fun _ => 1) b.Slopes : Nat) : Int) < 0) = false := decide_eq_false (by omega)
  have d2 : decide ((1 : Int) + ((lcn (fun _ => 1) g.Vars + lcn (fun _ => 1) g.Slopes : Nat) : Int) < 0) = false := decide_eq_false (by omega)
  simp only [toLinear_eq a h1, toLinear_eq b (by omega), Option.bind_some, k1, k2, eqLinear_refl, cond_true, beq_self_eq_true, m1, m2, m3, m4, d1, d2, cond_false, decide_true]
end Go.Proofs.Ytgbddapcjhgllaa
