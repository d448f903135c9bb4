/- A part of the proof: lemmas only; nothing is claimed here beyond what each lemma says. -/
import Derived.Test.YtgbddapcjhgllaaGreatGx7
set_option linter.unusedSimpArgs false
set_option linter.unusedVariables false
set_option linter.defProp false
namespace Go.Proofs.YtgbddapcjhgllaaGreat
open Go.Av
def resv : List ByteArray := [(⟨#[116, 114, 117, 101]⟩ : ByteArray), (⟨#[102, 97, 108, 115, 101]⟩ : ByteArray), (⟨#[116, 114, 117, 116, 104]⟩ : ByteArray), (⟨#[98, 111, 116, 104]⟩ : ByteArray), (⟨#[101, 105, 116, 104, 101, 114]⟩ : ByteArray), (⟨#[105, 102]⟩ : ByteArray), (⟨#[97, 108, 108]⟩ : ByteArray), (⟨#[115, 111, 109, 101]⟩ : ByteArray)]
def symC (s : ByteArray) (j : Nat) : Bool := if j = 0 then cLow (byt s 0) else (cLow (byt s j) || cDig (byt s j) || decide (byt s j = 95))
def isSymS (s : ByteArray) : Bool := inR (s.size : Int) 1 6 && (List.range s.size).all (symC s) && !resv.any (fun v => decide (s = v))
theorem Contains_str (xs : List ByteArray) (s : ByteArray) : slices_Contains_Sstring_string xs s = some (xs.any (fun v => decide (s = v))) := by
  unfold slices_Contains_Sstring_string slices_Index_Sstring_string
  obtain ⟨r, h1, h2⟩ := forN_find (n := xs.length) (p := fun i => decide (s = xs.getD i default)) (f := fun i2 s2 => (idx xs (i2 : Int)).bind fun v14 => bif decide (s = v14) then some (.rt (i2 : Int)) else some (.nx ())) (fun j hj => by
    simp only [idx_getD hj, Option.bind_some]
    cases decide (s = xs.getD j default) <;> rfl)
  rw [h1, Option.bind_some, h2, range_any_list xs (fun v => decide (s = v))]
theorem isSymbol_eq (s : ByteArray) (hb : Big s.size) : impl_isSymbol s = some (isSymS s) := by
  unfold impl_isSymbol
  rw [bnd_nat hb, Option.bind_some, forN_all (symC s)]
  · simp only [within_eq, Option.bind_some, isSymS, impl_reserved, Contains_str]
    rw [show resv.any (fun v => decide (s = v)) = _ from rfl]
    unfold resv
    cases (List.range s.size).all (symC s) <;> cases inR (s.size : Int) 1 6 <;> rfl
  · intro j hj _
    simp only [sidx_nat hj, Option.bind_some, isLower_eq, isDigit_eq, symC]
    by_cases h0 : j = 0
    · subst h0
      cases cLow (byt s 0) <;> rfl
    · have h1 : ¬ ((j : Int) = 0) := by omega
      rw [decide_eq_false h1, if_neg h0]
      cases cLow (byt s j) <;> cases cDig (byt s j) <;> cases decide (byt s j = 95) <;> rfl
theorem l2Symbol_eq (s : ByteArray) (hb : Big s.size) : spec_l2Symbol s = some (isSymS s) := by
  unfold spec_l2Symbol
  rw [l1In_eq, Option.bind_some]
  unfold isSymS
  cases hr : inR (s.size : Int) 1 6
  · rfl
  · have hs : 0 < s.size := by have := inR_iff.1 hr; omega
    simp only [cond_true, Bool.true_and]
    rw [sidx0 hs, Option.bind_some]
    by_cases h0 : cLow (byt s 0) = true
    · have hu := inR_iff.1 h0
      rw [decide_eq_false (by omega), cond_false, Option.bind_some, decide_eq_false (by omega), cond_false, bnd_nat hb, Option.bind_some, forN_all1 (symC s) hs (by simp [symC, h0])]
      · simp only [resv, List.any_cons, List.any_nil, Bool.or_false]
        generalize decide (s = _) = b1
        generalize decide (s = _) = b2
        generalize decide (s = _) = b3
        generalize decide (s = _) = b4
        generalize decide (s = _) = b5
        generalize decide (s = _) = b6
        generalize decide (s = _) = b7
        generalize decide (s = _) = b8
        cases (List.range s.size).all (symC s) <;> cases b1 <;> cases b2 <;> cases b3 <;> cases b4 <;> cases b5 <;> cases b6 <;> cases b7 <;> cases b8 <;> rfl
      · intro j hj0 hj _
        simp only [sidx_nat hj, Option.bind_some, l2Small_eq, symC]
        rw [if_neg (by omega)]
        cases (cLow (byt s j) || cDig (byt s j)) <;> cases decide (byt s j = 95) <;> rfl
    · have h1 : (List.range s.size).all (symC s) = false := List.all_eq_false.2 ⟨0, by simp; omega, by simp [symC, h0]⟩
      rw [h1]
      have hu : ¬ (97 ≤ byt s 0 ∧ byt s 0 ≤ 122) := by intro g; exact h0 (inR_iff.2 g)
      by_cases g : byt s 0 < 97
      · rw [decide_eq_true g]; rfl
      · rw [decide_eq_false g, cond_false, Option.bind_some, decide_eq_true (by omega)]; rfl
end Go.Proofs.YtgbddapcjhgllaaGreat
namespace Go.Proofs.YtgbddapcjhgllaaGreat
open Go.Av
def cmpS (a b : ByteArray) : Int := if slt a b = true then -1 else if a = b then 0 else 1
theorem isNaNS_eq (a : ByteArray) : cmp_isNaN_string a = some false := by simp [cmp_isNaN_string]
theorem CompareS_eq (a b : ByteArray) : cmp_Compare_string a b = some (cmpS a b) := by
  simp only [cmp_Compare_string, isNaNS_eq, Option.bind_some, cond_false]
  unfold cmpS slt
  by_cases h : Op.bytesLess a.data.toList b.data.toList = true
  · rw [if_pos h, h]; rfl
  · rw [if_neg h]
    have h' : Op.bytesLess a.data.toList b.data.toList = false := by simpa using h
    rw [h', cond_false]
    by_cases e : a = b
    · rw [decide_eq_true e, if_pos e]; rfl
    · rw [decide_eq_false e, if_neg e]; rfl
def cmpM (a b : Majorant) : Int := if cmpS a.Name b.Name = 0 then cmpI a.Slopes.length b.Slopes.length else cmpS a.Name b.Name
theorem compareM_eq (a b : Majorant) : impl_compareMajorants a b = some (cmpM a b) := by
  simp only [impl_compareMajorants, CompareS_eq, Compare_eq, Or2_eq, Option.bind_some, cmpM]
def ltM (a b : Majorant) : Bool := slt a.Name b.Name || (decide (a.Name = b.Name) && decide (a.Slopes.length < b.Slopes.length))
theorem cmpM_lt (a b : Majorant) : decide (0 ≤ cmpM a b) = !ltM a b := by
  unfold cmpM ltM cmpS
  by_cases h : slt a.Name b.Name = true
  · rw [if_pos h, if_neg (by decide), h]; rfl
  · have h' : slt a.Name b.Name = false := by simpa using h
    rw [if_neg h, h', Bool.false_or]
    by_cases e : a.Name = b.Name
    · rw [if_pos e, if_pos rfl, decide_eq_true e, Bool.true_and]
      unfold cmpI
      by_cases g : a.Slopes.length < b.Slopes.length
      · rw [if_pos (by omega), decide_eq_true g]; rfl
      · rw [if_neg (by omega), decide_eq_false g]
        split <;> rfl
    · rw [if_neg e, if_neg (by decide), decide_eq_false e]; rfl
def majC (xs : List Majorant) (j : Nat) : Bool :=
  isSymS (xs.getD j default).Name && decide ((xs.getD j default).Slopes.length ≤ 4) && inR (xs.getD j default).Constant 0 100000 && (xs.getD j default).Slopes.all (fun v => inR v 0 1000) && (decide (j = 0) || ltM (xs.getD (j - 1) default) (xs.getD j default))
def validM (xs : List Majorant) : Bool := decide (xs.length ≤ 8) && (List.range xs.length).all (majC xs)
theorem implMj (xs : List Majorant) (h : LOk Majorant.Ok xs) : impl_IsValidMajorants xs = some (validM xs) := by
  unfold impl_IsValidMajorants validM
  rw [forN_all (majC xs)]
  · by_cases h8 : xs.length ≤ 8
    · rw [decide_eq_true h8, decide_eq_true (show (xs.length : Int) ≤ 8 by omega)]
      cases (List.range xs.length).all (majC xs) <;> rfl
    · rw [decide_eq_false h8, decide_eq_false (show ¬ (xs.length : Int) ≤ 8 by omega)]
      cases (List.range xs.length).all (majC xs) <;> rfl
  · intro j hj _
    have hm := h.2 _ (getD_mem hj)
    have ec : slices_ContainsFunc_Sint_int (xs.getD j default).Slopes (fun y0 => impl_IsValidMajorants_1 y0) = some (!(xs.getD j default).Slopes.all (fun v => inR v 0 1000)) := by
      rw [Contains_int (p := fun x => !inR x 0 1000) (fun x => by simp only [impl_IsValidMajorants_1, within_eq, Option.bind_some]), List.all_eq_not_any_not, Bool.not_not]
    simp only [idx_getD hj, Option.bind_some, isSymbol_eq _ hm.1, within_eq, compareM_eq, ec, majC]
    cases isSymS (xs.getD j default).Name
    · rfl
    by_cases h4 : (xs.getD j default).Slopes.length ≤ 4
    · rw [decide_eq_true h4, decide_eq_false (show ¬ (4 : Int) < ((xs.getD j default).Slopes.length : Int) by omega)]
      cases inR (xs.getD j default).Constant 0 100000
      · rfl
      by_cases h0 : j = 0
      · subst h0
        cases (xs.getD 0 default).Slopes.all (fun v => inR v 0 1000) <;> rfl
      · have h2 : (0 : Int) < (j : Int) := by omega
        rw [decide_eq_true h2, decide_eq_false h0, idx_pred hj (by omega) (by have := h.1; simp only [Big] at this; omega), Option.bind_some, cmpM_lt]
        cases ltM (xs.getD (j - 1) default) (xs.getD j default) <;> cases (xs.getD j default).Slopes.all (fun v => inR v 0 1000) <;> rfl
    · rw [decide_eq_false h4, decide_eq_true (show (4 : Int) < ((xs.getD j default).Slopes.length : Int) by omega)]; rfl
theorem specMj (xs : List Majorant) (h : LOk Majorant.Ok xs) : spec_l25List xs = some (validM xs) := by
  unfold spec_l25List validM
  by_cases h8 : xs.length ≤ 8
  · rw [decide_eq_true h8, decide_eq_false (show ¬ (8 : Int) < (xs.length : Int) by omega), cond_false, forN_all (majC xs)]
    · cases (List.range xs.length).all (majC xs) <;> rfl
    · intro j hj _
      have hm := h.2 _ (getD_mem hj)
      simp only [idx_getD hj, Option.bind_some, l2Symbol_eq _ hm.1, l1In_eq, majC]
      cases isSymS (xs.getD j default).Name
      · rfl
      by_cases h4 : (xs.getD j default).Slopes.length ≤ 4
      · rw [decide_eq_true h4, decide_eq_false (show ¬ (4 : Int) < ((xs.getD j default).Slopes.length : Int) by omega)]
        cases inR (xs.getD j default).Constant 0 100000
        · rfl
        rw [cond_true, cond_false, cond_true, forN_all (ρ := Flow Bool Unit) (fun k => inR ((xs.getD j default).Slopes.getD k default) 0 1000) (r0 := .rt false), range_all_list (xs.getD j default).Slopes (fun v => inR v 0 1000)]
        · by_cases h0 : j = 0
          · subst h0
            cases (xs.getD 0 default).Slopes.all (fun v => inR v 0 1000) <;> rfl
          · have h2 : (0 : Int) < (j : Int) := by omega
            rw [decide_eq_true h2, decide_eq_false h0, idx_pred hj (by omega) (by have := h.1; simp only [Big] at this; omega), Option.bind_some]
            cases (xs.getD j default).Slopes.all (fun v => inR v 0 1000)
            · rfl
            · simp only [cond_true, Bool.true_and, Bool.false_or, Option.bind_some, ltM]
              have e1 : Op.bytesLess (xs.getD (j - 1) default).Name.data.toList (xs.getD j default).Name.data.toList = slt (xs.getD (j - 1) default).Name (xs.getD j default).Name := rfl
              rw [e1]
              by_cases e : (xs.getD (j - 1) default).Name = (xs.getD j default).Name
              · have e2 : slt (xs.getD (j - 1) default).Name (xs.getD j default).Name = false := by rw [e]; exact bytesLess_irrefl _
                rw [e2, decide_eq_true e]
                by_cases g : (xs.getD (j - 1) default).Slopes.length < (xs.getD j default).Slopes.length
                · rw [decide_eq_true g, decide_eq_false (show ¬ ((xs.getD j default).Slopes.length : Int) ≤ ((xs.getD (j - 1) default).Slopes.length : Int) by omega)]; rfl
                · rw [decide_eq_false g, decide_eq_true (show ((xs.getD j default).Slopes.length : Int) ≤ ((xs.getD (j - 1) default).Slopes.length : Int) by omega)]; rfl
              · rw [decide_eq_false e]
                cases slt (xs.getD (j - 1) default).Name (xs.getD j default).Name <;> rfl
        · intro k hk _
          simp only [idx_getD hk, Option.bind_some]
          cases inR ((xs.getD j default).Slopes.getD k default) 0 1000 <;> rfl
      · rw [decide_eq_false h4, decide_eq_true (show (4 : Int) < ((xs.getD j default).Slopes.length : Int) by omega)]; rfl
  · rw [decide_eq_false h8, decide_eq_true (show (8 : Int) < (xs.length : Int) by omega)]; rfl
end Go.Proofs.YtgbddapcjhgllaaGreat
