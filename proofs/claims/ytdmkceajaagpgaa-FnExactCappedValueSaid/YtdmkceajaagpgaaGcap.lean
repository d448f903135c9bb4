/- A part of the proof: lemmas only; nothing is claimed here beyond what each lemma says. -/
import Derived.Test.YtdmkceajaagpgaaGtm
set_option linter.unusedSimpArgs false
set_option linter.unusedVariables false
set_option linter.defProp false
namespace Go.Proofs.Ytdmkceajaagpgaa
open Go.Av
theorem less_eq (a b : ByteArray) : cmp_Less_string a b = some (slt a b) := by
  unfold cmp_Less_string
  simp only [isNaNS_eq, Option.bind_some, cond_false]; rfl
theorem isNaN2_eq (a : ByteArray) : slices_isNaN_string a = some false := by simp [slices_isNaN_string]
theorem validL_asc {l : Linear} (h : validL l = true) : ∀ i j, i < j → j < l.Vars.length → slt (l.Vars.getD i default) (l.Vars.getD j default) = true := by
  simp only [validL, Bool.and_eq_true] at h
  have hc : ∀ j, j < l.Vars.length → linC l j = true := fun j hj => List.all_eq_true.1 h.2 j (by simpa using hj)
  intro i j hij
  induction j with
  | zero => omega
  | succ j ih =>
    intro hj
    have h1 := hc (j + 1) hj
    simp only [linC, Bool.and_eq_true, Bool.or_eq_true, decide_eq_true_eq] at h1
    have h2 : slt (l.Vars.getD j default) (l.Vars.getD (j + 1) default) = true := by
      rcases h1.2 with g | g
      · omega
      · exact g
    by_cases e : i = j
    · rw [e]; exact h2
    · exact bytesLess_trans (ih (by omega) (by omega)) h2
def slopeOf (l : Linear) (x : ByteArray) : Int :=
  if (ffind (fun i => decide (l.Vars.getD i default = x)) l.Vars.length 0) < 0 then 0 else l.Slopes.getD (ffind (fun i => decide (l.Vars.getD i default = x)) l.Vars.length 0).toNat default
theorem specSlope (l : Linear) (x : ByteArray) (hv : validL l = true) : spec_l25Slope l x = some (slopeOf l x) := by
  have hl := validL_len hv
  unfold spec_l25Slope slopeOf
  rcases ffind_cases (fun i => decide (l.Vars.getD i default = x)) l.Vars.length 0 with ⟨h1, h2⟩ | ⟨k, h1, h2, h3, h4, h5⟩
  · rw [h1, if_pos (by omega), forN_nohit]
    intro j _ hj
    have := h2 j (by omega) hj
    rw [idx_getD (by omega), Option.bind_some, this]; rfl
  · rw [h1, if_neg (by omega)]
    refine forN_hit _ 0 k (by omega) h3 (fun j g1 g2 => ?_) ?_
    · have := h5 j (by omega) g2
      rw [idx_getD (by omega), Option.bind_some, this]; rfl
    · rw [idx_getD (by omega), Option.bind_some, h4, cond_true, idx_getD (by omega), Option.bind_some, Int.toNat_natCast]
theorem implSlope (l : Linear) (x : ByteArray) (hv : validL l = true) : impl_Linear__slope l x = some (slopeOf l x) := by
  have hl := validL_len hv
  have h8 : l.Vars.length ≤ 8 := by simp only [validL, Bool.and_eq_true, decide_eq_true_eq] at hv; exact hv.1.1.1
  have hasc := validL_asc hv
  have mono : ∀ i j, i < j → j < l.Vars.length → slt (l.Vars.getD j default) x = true → slt (l.Vars.getD i default) x = true := fun i j h1 h2 h3 => bytesLess_trans (hasc i j h1 h2) h3
  have bs : ∃ p : Nat, p ≤ l.Vars.length ∧ slices_BinarySearch_Sstring_string l.Vars x = some ((p : Int), decide (p < l.Vars.length) && decide (l.Vars.getD p default = x)) ∧ (∀ k, k < p → slt (l.Vars.getD k default) x = true) ∧ (∀ k, p ≤ k → k < l.Vars.length → slt (l.Vars.getD k default) x = false) := by
    unfold slices_BinarySearch_Sstring_string
    obtain ⟨p, g1, g2, g3, g4⟩ := bs_loop (ρ := Int × Bool) (q := fun i => slt (l.Vars.getD i default) x) (N := l.Vars.length) (by omega) mono
      (f := fun s3 => bif decide (s3.1 < s3.2) then (shr .u64 (IntKind.u64.wrap (IntKind.i64.wrap (s3.1 + s3.2))) 1).bind fun v20 => (idx l.Vars (IntKind.i64.wrap v20)).bind fun v24 => (cmp_Less_string v24 x).bind fun v27 => bif v27 then some (.nx (IntKind.i64.wrap (IntKind.i64.wrap v20 + 1), s3.2)) else some (.nx (s3.1, IntKind.i64.wrap v20)) else some (.br s3))
      (fun i j h1 h2 => by
        simp only
        rw [decide_eq_true (by omega), cond_true, bs_mid (by omega), Option.bind_some]
        have e : IntKind.i64.wrap (((i + j) / 2 : Nat) : Int) = (((i + j) / 2 : Nat) : Int) := by rw [wrap64] <;> omega
        rw [e, idx_getD (by omega), Option.bind_some, less_eq, Option.bind_some]
        have e2 : IntKind.i64.wrap ((((i + j) / 2 : Nat) : Int) + 1) = (((i + j) / 2 + 1 : Nat) : Int) := by rw [wrap64] <;> omega
        rw [e2]
        cases slt (l.Vars.getD ((i + j) / 2) default) x <;> rfl)
      (fun i => by simp only; rw [decide_eq_false (by omega)]; rfl)
    refine ⟨p, g1, ?_, g3, g4⟩
    rw [g2, thenL_inr]
    by_cases hp : p < l.Vars.length
    · simp only
      rw [decide_eq_true (show (p : Int) < (l.Vars.length : Int) by omega), cond_true, idx_getD hp, Option.bind_some, decide_eq_true hp, Bool.true_and, Option.bind_some, isNaN2_eq, Option.bind_some]
      cases decide (l.Vars.getD p default = x) <;> rfl
    · simp only
      rw [decide_eq_false (show ¬ (p : Int) < (l.Vars.length : Int) by omega), decide_eq_false hp]; rfl
  obtain ⟨p, g1, g2, g3, g4⟩ := bs
  unfold impl_Linear__slope slopeOf
  rw [g2, Option.bind_some]
  simp only
  rcases ffind_cases (fun i => decide (l.Vars.getD i default = x)) l.Vars.length 0 with ⟨h1, h2⟩ | ⟨k, h1, h2, h3, h4, h5⟩
  · rw [h1, if_pos (by omega)]
    by_cases hp : p < l.Vars.length
    · have := h2 p (by omega) (by omega)
      rw [this, Bool.and_false]; rfl
    · rw [decide_eq_false hp]; rfl
  · rw [h1, if_neg (by omega)]
    have hk : l.Vars.getD k default = x := by simpa using h4
    have e : p = k := by
      rcases Nat.lt_trichotomy p k with g | g | g
      · have a := g4 p (Nat.le_refl _) (by omega)
        have b := hasc p k g (by omega)
        rw [hk] at b; rw [a] at b; cases b
      · exact g
      · have a := g3 k g
        rw [hk] at a
        have := bytesLess_irrefl x.data.toList
        unfold slt at a
        rw [this] at a; cases a
    subst e
    rw [decide_eq_true (show p < l.Vars.length by omega), h4, Bool.and_self, cond_true, idx_getD (by omega), Option.bind_some, Int.toNat_natCast]
def majI (xs : List Majorant) (x : ByteArray) (n : Nat) : Int := ffind (fun i => decide ((xs.getD i default).Name = x) && decide ((xs.getD i default).Slopes.length = n)) xs.length 0
theorem specFind (xs : List Majorant) (x : ByteArray) (n : Nat) : spec_l25Find xs x (n : Int) = some (majI xs x n) := by
  unfold spec_l25Find majI
  refine forN_ffind _ 0 (fun j _ hj => ?_)
  rw [idx_getD (by omega), Option.bind_some, Option.bind_some, show decide (((xs.getD j default).Slopes.length : Int) = (n : Int)) = decide ((xs.getD j default).Slopes.length = n) from decide_eq_decide.2 (by omega)]
  cases decide ((xs.getD j default).Name = x) <;> cases decide ((xs.getD j default).Slopes.length = n) <;> rfl
theorem implFind (xs : List Majorant) (t : Term) : impl_majorant xs t = some (majI xs t.Name t.Args.length) := by
  unfold impl_majorant slices_IndexFunc_Simpl_Majorant_impl_Majorant majI
  rw [forN_ffind (q := fun i => decide ((xs.getD i default).Name = t.Name) && decide ((xs.getD i default).Slopes.length = t.Args.length)) _ 0 (fun j _ hj => ?_), Option.bind_some]
  rw [idx_getD (by omega), Option.bind_some]
  simp only [impl_majorant_1]
  rw [show decide (((xs.getD j default).Slopes.length : Int) = (t.Args.length : Int)) = decide ((xs.getD j default).Slopes.length = t.Args.length) from decide_eq_decide.2 (by omega)]
  cases decide ((xs.getD j default).Name = t.Name) <;> cases decide ((xs.getD j default).Slopes.length = t.Args.length) <;> rfl
theorem isVar_good {t : Term} (hok : t.Ok) (h : t.good = true) : impl_isVar t = some (isVarS t.Name) := by
  rw [Term.good_u] at h
  unfold impl_isVar
  cases hv : isVarS t.Name
  · rw [hv, cond_false, Bool.and_eq_true, Bool.and_eq_true] at h
    have hs := h.1.1
    simp only [isSymS, Bool.and_eq_true, inR_iff] at hs
    have h0 : 0 < t.Name.size := by omega
    have hc := List.all_eq_true.1 hs.1.2 0 (by simp; omega)
    simp only [symC, if_pos, cLow, inR_iff] at hc
    rw [sidx0 h0, Option.bind_some, isUpper_eq, Option.bind_some]
    have : cUp (byt t.Name 0) = false := by
      cases hu : cUp (byt t.Name 0)
      · rfl
      · simp only [cUp, inR_iff] at hu; omega
    rw [this]
  · have hs := hv
    simp only [isVarS, Bool.and_eq_true, inR_iff] at hs
    have h0 : 0 < t.Name.size := by omega
    have hc := List.all_eq_true.1 hs.2 0 (by simp; omega)
    simp only [varC, if_pos] at hc
    rw [sidx0 h0, Option.bind_some, isUpper_eq, Option.bind_some, hc]
theorem Least_eq (a b : Int) : spec_l1Least a b = some (min a b) := by
  unfold spec_l1Least
  by_cases h : a < b
  · rw [decide_eq_true h, cond_true]; congr 1; omega
  · rw [decide_eq_false h, cond_false]; congr 1; omega
theorem capV (xs : List Majorant) (caps : List Int) (l : Linear) (hv : validL l = true) (hl : caps.length = xs.length) (t : Term) : t.Ok → t.good = true →
    ∃ r, ∀ n, 2 * SizeOf.sizeOf t ≤ n → spec_l25ValueN n xs caps t l = some r ∧ impl_cappedValueN n xs caps t l = some r := by
  refine Term.ind' (M := fun t => t.Ok → t.good = true → ∃ r, ∀ n, 2 * SizeOf.sizeOf t ≤ n → spec_l25ValueN n xs caps t l = some r ∧ impl_cappedValueN n xs caps t l = some r) (fun t ih hok hg => ?_) t
  have hpos := t.pos
  have hiv := isVar_good hok hg
  have hsv := l2Var_eq t.Name hok.u.1
  cases hvar : isVarS t.Name
  · rw [hvar] at hiv hsv
    have hg' := hg
    rw [Term.good_u, hvar, cond_false, Bool.and_eq_true, Bool.and_eq_true] at hg'
    have hga : ∀ a ∈ t.Args, a.good = true := fun a ha => List.all_eq_true.1 hg'.2 a ha
    obtain ⟨R, hR⟩ := mem_choice (fun a ha => ih a ha (hok.u.2.2 a ha) (hga a ha))
    have hfi := specFind xs t.Name t.Args.length
    have hfj := implFind xs t
    rcases ffind_cases (fun i => decide ((xs.getD i default).Name = t.Name) && decide ((xs.getD i default).Slopes.length = t.Args.length)) xs.length 0 with ⟨h1, h2⟩ | ⟨k, h1, h2, h3, h4, h5⟩
    · have e : majI xs t.Name t.Args.length = -1 := h1
      refine ⟨((0 : Int), false), fun n hn => ?_⟩
      cases n with
      | zero => omega
      | succ n =>
        rw [spec_l25ValueN, impl_cappedValueN, hiv, hsv, hfi, hfj, e]
        exact ⟨rfl, rfl⟩
    · have e : majI xs t.Name t.Args.length = (k : Int) := h1
      simp only [Bool.and_eq_true, decide_eq_true_eq] at h4
      have hk : k < xs.length := by omega
      let c : Nat → Bool := fun j => (R (t.Args.getD j default)).2
      let u : Nat → Int → Int := fun j s => wr (s + wr ((xs.getD k default).Slopes.getD j default * (R (t.Args.getD j default)).1))
      let r : Int × Bool := bif (List.range' 0 t.Args.length).all c then (min (iterU u t.Args.length 0 (xs.getD k default).Constant) (caps.getD k default), true) else ((0 : Int), false)
      refine ⟨r, fun n hn => ?_⟩
      cases n with
      | zero => omega
      | succ n =>
        rw [spec_l25ValueN, impl_cappedValueN, hiv, hsv, hfi, hfj, e]
        simp only [Option.bind_some, cond_false]
        rw [decide_eq_false (show ¬ (k : Int) < 0 by omega), cond_false, cond_false, idx_getD hk, Option.bind_some, Option.bind_some]
        have hsz : ∀ a ∈ t.Args, 2 * SizeOf.sizeOf a ≤ n := fun a ha => by have := Term.lt ha; omega
        constructor
        · rw [forN_chk c u (r0 := ((0 : Int), false))]
          · cases hc : (List.range' 0 t.Args.length).all c
            · simp only [r, hc]; rfl
            · simp only [r, hc, cond_true, thenL_inr]
              rw [idx_getD (by omega), Option.bind_some, Least_eq, Option.bind_some]
          · intro j s _ hj
            have ha := getD_mem (l := t.Args) (i := j) (by omega)
            rw [idx_getD (xs := t.Args) (i := j) (by omega), Option.bind_some, (hR _ ha n (hsz _ ha)).1, Option.bind_some]
            rw [Option.bind_some, idx_getD (xs := (xs.getD k default).Slopes) (i := j) (by omega), Option.bind_some]
            simp only [c, u]
            cases (R (t.Args.getD j default)).2 <;> rfl
        · rw [forN_chk c u (r0 := ((0 : Int), false))]
          · cases hc : (List.range' 0 t.Args.length).all c
            · simp only [r, hc]; rfl
            · simp only [r, hc, cond_true, thenL_inr]
              rw [idx_getD (by omega), Option.bind_some]
          · intro j s _ hj
            have ha := getD_mem (l := t.Args) (i := j) (by omega)
            rw [idx_getD (xs := t.Args) (i := j) (by omega), Option.bind_some, (hR _ ha n (hsz _ ha)).2, Option.bind_some]
            rw [Option.bind_some, idx_getD (xs := (xs.getD k default).Slopes) (i := j) (by omega), Option.bind_some, Int.mul_comm]
            simp only [c, u]
            cases (R (t.Args.getD j default)).2 <;> rfl
  · rw [hvar] at hiv hsv
    refine ⟨(slopeOf l t.Name, true), fun n hn => ?_⟩
    cases n with
    | zero => omega
    | succ n =>
      rw [spec_l25ValueN, impl_cappedValueN, hiv, hsv]
      simp only [Option.bind_some, cond_true, specSlope l _ hv, implSlope l _ hv]
      constructor <;> first | rfl | trivial
theorem cap_both (xs : List Majorant) (caps : List Int) (l : Linear) (t : Term) (hx : LOk Majorant.Ok xs) (hl : l.Ok) (ht : t.Ok) (h : t.tot ≤ 1048576) :
    ∃ r, spec_CappedValue xs caps t l = some r ∧ impl_CappedValue xs caps t l = some r := by
  unfold spec_CappedValue impl_CappedValue
  rw [specMj xs hx, implMj xs hx, Option.bind_some, Option.bind_some, l2Good_ok t h ht, IsValidTerm_ok t h ht, specL l hl, implL l hl]
  cases validM xs
  · exact ⟨_, rfl, rfl⟩
  by_cases hc : caps.length = xs.length
  · rw [cond_true, cond_true, decide_eq_true (show (caps.length : Int) = (xs.length : Int) by omega), cond_true, cond_true]
    have ec : slices_ContainsFunc_Sint_int caps (fun y0 => impl_CappedValue_1 y0) = some (!caps.all (fun v => inR v 0 100000)) := by
      rw [Contains_int (p := fun x => !inR x 0 100000) (fun x => by simp only [impl_CappedValue_1, within_eq, Option.bind_some]), List.all_eq_not_any_not, Bool.not_not]
    rw [ec, Option.bind_some, Option.bind_some, Option.bind_some, Option.bind_some, Option.bind_some]
    cases hg : goodT t
    · cases caps.all (fun v => inR v 0 100000) <;> exact ⟨_, rfl, rfl⟩
    cases hv : validL l
    · cases caps.all (fun v => inR v 0 100000) <;> exact ⟨_, rfl, rfl⟩
    rw [cond_true, cond_true, cond_true, cond_true, forN_all (fun j => inR (caps.getD j default) 0 100000) (r0 := ((0 : Int), false)), range_all_list caps (fun v => inR v 0 100000)]
    · cases caps.all (fun v => inR v 0 100000)
      · exact ⟨_, rfl, rfl⟩
      · have hg2 : t.good = true := by unfold goodT at hg; rw [Bool.and_eq_true] at hg; exact hg.2
        obtain ⟨r, hr⟩ := capV xs caps l hv hc t ht hg2
        have e1 : spec_l25Value xs caps t l = some r := lim_eq ⟨_, fun n hn => (hr n hn).1⟩
        have e2 : impl_cappedValue xs caps t l = some r := lim_eq ⟨_, fun n hn => (hr n hn).2⟩
        rw [e1, e2]
        exact ⟨_, rfl, rfl⟩
    · intro j hj _
      rw [idx_getD hj, Option.bind_some, l1In_eq, Option.bind_some]
      cases inR (caps.getD j default) 0 100000 <;> rfl
  · rw [cond_true, cond_true, decide_eq_false (show ¬ (caps.length : Int) = (xs.length : Int) by omega)]
    exact ⟨_, rfl, rfl⟩
end Go.Proofs.Ytdmkceajaagpgaa
