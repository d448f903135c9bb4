/- A part of the proof: lemmas only; nothing is claimed here beyond what each lemma says. -/
import Derived.Test.YtgbddapcjhgllaaGxm
set_option linter.unusedSimpArgs false
set_option linter.unusedVariables false
set_option linter.defProp false
set_option maxRecDepth 4000
namespace Go.Proofs.Ytgbddapcjhgllaa
open Go.Av
theorem isNaNS_eq (a : ByteArray) : cmp_isNaN_string a = some false := by simp [cmp_isNaN_string]
theorem validL_len' {l : Linear} (h : validL l = true) : l.Slopes.length = l.Vars.length := (validL_iff h).2.1
theorem less_eq (a b : ByteArray) : cmp_Less_string a b = some (slt a b) := by
  unfold cmp_Less_string
  simp only [isNaNS_eq, Option.bind_some, cond_false]; rfl
theorem isNaN2_eq (a : ByteArray) : slices_isNaN_string a = some false := by simp [slices_isNaN_string]
theorem validL_asc {l : Linear} (h : validL l = true) : ∀ i j, i < j → j < l.Vars.length → slt (l.Vars.getD i default) (l.Vars.getD j default) = true := by
  simp only [validL, Bool.and_eq_true] at h
  have hc : ∀ j, j < l.Vars.length → linC l j = true := fun j hj => List.all_eq_true.1 h.2 j (by simpa using hj)
  intro i j hij
  induction j with
  | zero => omega
  | succ j ih =>
    intro hj
    have h1 := hc (j + 1) hj
    simp only [linC, Bool.and_eq_true, Bool.or_eq_true, decide_eq_true_eq] at h1
    have h2 : slt (l.Vars.getD j default) (l.Vars.getD (j + 1) default) = true := by
      rcases h1.2 with g | g
      · omega
      · exact g
    by_cases e : i = j
    · rw [e]; exact h2
    · exact bytesLess_trans (ih (by omega) (by omega)) h2
def slopeOf (l : Linear) (x : ByteArray) : Int :=
  if (ffind (fun i => decide (l.Vars.getD i default = x)) l.Vars.length 0) < 0 then 0 else l.Slopes.getD (ffind (fun i => decide (l.Vars.getD i default = x)) l.Vars.length 0).toNat default
theorem specSlope (l : Linear) (x : ByteArray) (hv : validL l = true) : spec_l25Slope l x = some (slopeOf l x) := by
  have hl := validL_len' hv
  unfold spec_l25Slope slopeOf
  rcases ffind_cases (fun i => decide (l.Vars.getD i default = x)) l.Vars.length 0 with ⟨h1, h2⟩ | ⟨k, h1, h2, h3, h4, h5⟩
  · rw [h1, if_pos (by omega), forN_nohit]
    intro j _ hj
    have := h2 j (by omega) hj
    rw [idx_getD (by omega), Option.bind_some, this]; rfl
  · rw [h1, if_neg (by omega)]
    refine forN_hit _ 0 k (by omega) h3 (fun j g1 g2 => ?_) ?_
    · have := h5 j (by omega) g2
      rw [idx_getD (by omega), Option.bind_some, this]; rfl
    · rw [idx_getD (by omega), Option.bind_some, h4, cond_true, idx_getD (by omega), Option.bind_some, Int.toNat_natCast]
theorem implSlope (l : Linear) (x : ByteArray) (hv : validL l = true) : impl_Linear__slope l x = some (slopeOf l x) := by
  have hl := validL_len' hv
  have h8 : l.Vars.length ≤ 8 := by simp only [validL, Bool.and_eq_true, decide_eq_true_eq] at hv; exact hv.1.1.1
  have hasc := validL_asc hv
  have mono : ∀ i j, i < j → j < l.Vars.length → slt (l.Vars.getD j default) x = true → slt (l.Vars.getD i default) x = true := fun i j h1 h2 h3 => bytesLess_trans (hasc i j h1 h2) h3
  have bs : ∃ p : Nat, p ≤ l.Vars.length ∧ slices_BinarySearch_Sstring_string l.Vars x = some ((p : Int), decide (p < l.Vars.length) && decide (l.Vars.getD p default = x)) ∧ (∀ k, k < p → slt (l.Vars.getD k default) x = true) ∧ (∀ k, p ≤ k → k < l.Vars.length → slt (l.Vars.getD k default) x = false) := by
    unfold slices_BinarySearch_Sstring_string
    obtain ⟨p, g1, g2, g3, g4⟩ := bs_loop (ρ := Int × Bool) (q := fun i => slt (l.Vars.getD i default) x) (N := l.Vars.length) (by omega) mono
      (f := fun s3 => bif decide (s3.1 < s3.2) then (shr .u64 (IntKind.u64.wrap (IntKind.i64.wrap (s3.1 + s3.2))) 1).bind fun v20 => (idx l.Vars (IntKind.i64.wrap v20)).bind fun v24 => (cmp_Less_string v24 x).bind fun v27 => bif v27 then some (.nx (IntKind.i64.wrap (IntKind.i64.wrap v20 + 1), s3.2)) else some (.nx (s3.1, IntKind.i64.wrap v20)) else some (.br s3))
      (fun i j h1 h2 => by
        simp only
        rw [decide_eq_true (by omega), cond_true, bs_mid (by omega), Option.bind_some]
        have e : IntKind.i64.wrap (((i + j) / 2 : Nat) : Int) = (((i + j) / 2 : Nat) : Int) := by rw [wrap64] <;> omega
        rw [e, idx_getD (by omega), Option.bind_some, less_eq, Option.bind_some]
        have e2 : IntKind.i64.wrap ((((i + j) / 2 : Nat) : Int) + 1) = (((i + j) / 2 + 1 : Nat) : Int) := by rw [wrap64] <;> omega
        rw [e2]
        cases slt (l.Vars.getD ((i + j) / 2) default) x <;> rfl)
      (fun i => by simp only; rw [decide_eq_false (by omega)]; rfl)
    refine ⟨p, g1, ?_, g3, g4⟩
    rw [g2, thenL_inr]
    by_cases hp : p < l.Vars.length
    · simp only
      rw [decide_eq_true (show (p : Int) < (l.Vars.length : Int) by omega), cond_true, idx_getD hp, Option.bind_some, decide_eq_true hp, Bool.true_and, Option.bind_some, isNaN2_eq, Option.bind_some]
      cases decide (l.Vars.getD p default = x) <;> rfl
    · simp only
      rw [decide_eq_false (show ¬ (p : Int) < (l.Vars.length : Int) by omega), decide_eq_false hp]; rfl
  obtain ⟨p, g1, g2, g3, g4⟩ := bs
  unfold impl_Linear__slope slopeOf
  rw [g2, Option.bind_some]
  simp only
  rcases ffind_cases (fun i => decide (l.Vars.getD i default = x)) l.Vars.length 0 with ⟨h1, h2⟩ | ⟨k, h1, h2, h3, h4, h5⟩
  · rw [h1, if_pos (by omega)]
    by_cases hp : p < l.Vars.length
    · have := h2 p (by omega) (by omega)
      rw [this, Bool.and_false]; rfl
    · rw [decide_eq_false hp]; rfl
  · rw [h1, if_neg (by omega)]
    have hk : l.Vars.getD k default = x := by simpa using h4
    have e : p = k := by
      rcases Nat.lt_trichotomy p k with g | g | g
      · have a := g4 p (Nat.le_refl _) (by omega)
        have b := hasc p k g (by omega)
        rw [hk] at b; rw [a] at b; cases b
      · exact g
      · have a := g3 k g
        rw [hk] at a
        have := bytesLess_irrefl x.data.toList
        unfold slt at a
        rw [this] at a; cases a
    subst e
    rw [decide_eq_true (show p < l.Vars.length by omega), h4, Bool.and_self, cond_true, idx_getD (by omega), Option.bind_some, Int.toNat_natCast]
theorem implSlopeZ (l : Linear) (x : ByteArray) (hv : validL l = true) : impl_Linear__slope l x = some (slopeZ l.Vars l.Slopes x) := by
  rw [implSlope l x hv, ← specSlope l x hv, l25Slope_eq l x (validL_len' hv)]
end Go.Proofs.Ytgbddapcjhgllaa
