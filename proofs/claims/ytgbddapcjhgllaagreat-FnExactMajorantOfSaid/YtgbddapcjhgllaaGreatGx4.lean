/- A part of the proof: lemmas only; nothing is claimed here beyond what each lemma says. -/
import Derived.Test.YtgbddapcjhgllaaGreatGc
import Derived.Test.YtgbddapcjhgllaaGreatAvS
set_option linter.unusedSimpArgs false
set_option linter.unusedVariables false
set_option linter.defProp false
namespace Go.Proofs.YtgbddapcjhgllaaGreat
open Go.Av
def cLow (c : Int) : Bool := inR c 97 122
def cUp (c : Int) : Bool := inR c 65 90
def cDig (c : Int) : Bool := inR c 48 57
theorem isLower_eq (c : Int) : impl_isLower c = some (cLow c) := cond_inR c 97 122
theorem isUpper_eq (c : Int) : impl_isUpper c = some (cUp c) := cond_inR c 65 90
theorem isDigit_eq (c : Int) : impl_isDigit c = some (cDig c) := cond_inR c 48 57
theorem l2Small_eq (c : Int) : spec_l2Small c = some (cLow c || cDig c) := by
  unfold spec_l2Small cLow cDig inR
  by_cases h1 : (97 : Int) ≤ c <;> by_cases h2 : c ≤ (122 : Int) <;> by_cases h3 : (48 : Int) ≤ c <;> by_cases h4 : c ≤ (57 : Int) <;> simp [h1, h2, h3, h4]
def varC (s : ByteArray) (j : Nat) : Bool := if j = 0 then cUp (byt s 0) else (cLow (byt s j) || cDig (byt s j))
def isVarS (s : ByteArray) : Bool := inR (s.size : Int) 1 4 && (List.range s.size).all (varC s)
theorem isVariable_eq (s : ByteArray) (hb : Big s.size) : impl_isVariable s = some (isVarS s) := by
  unfold impl_isVariable
  rw [bnd_nat hb, Option.bind_some, forN_all (varC s)]
  · simp only [within_eq, Option.bind_some, isVarS]
    cases (List.range s.size).all (varC s) <;> cases inR (s.size : Int) 1 4 <;> rfl
  · intro j hj _
    simp only [sidx_nat hj, Option.bind_some, isUpper_eq, isLower_eq, isDigit_eq, varC]
    by_cases h0 : j = 0
    · subst h0
      cases cUp (byt s 0) <;> rfl
    · have h1 : ¬ ((j : Int) = 0) := by omega
      have h2 : (0 : Int) < (j : Int) := by omega
      rw [decide_eq_false h1, decide_eq_true h2, if_neg h0]
      cases cLow (byt s j) <;> cases cDig (byt s j) <;> rfl
theorem l2Var_eq (s : ByteArray) (hb : Big s.size) : spec_l2Var s = some (isVarS s) := by
  unfold spec_l2Var
  rw [l1In_eq, Option.bind_some]
  unfold isVarS
  cases hr : inR (s.size : Int) 1 4
  · rfl
  · have hs : 0 < s.size := by have := inR_iff.1 hr; omega
    simp only [cond_true, Bool.true_and]
    rw [sidx0 hs, Option.bind_some]
    by_cases h0 : cUp (byt s 0) = true
    · have hu := inR_iff.1 h0
      rw [decide_eq_false (by omega), cond_false, Option.bind_some, decide_eq_false (by omega), cond_false, bnd_nat hb, Option.bind_some, forN_all1 (varC s) hs (by simp [varC, h0])]
      · cases (List.range s.size).all (varC s) <;> rfl
      · intro j hj0 hj _
        simp only [sidx_nat hj, Option.bind_some, l2Small_eq, varC]
        rw [if_neg (by omega)]
        cases (cLow (byt s j) || cDig (byt s j)) <;> rfl
    · have h1 : (List.range s.size).all (varC s) = false := List.all_eq_false.2 ⟨0, by simp; omega, by simp [varC, h0]⟩
      rw [h1]
      have hu : ¬ (65 ≤ byt s 0 ∧ byt s 0 ≤ 90) := by intro g; exact h0 (inR_iff.2 g)
      by_cases g : byt s 0 < 65
      · rw [decide_eq_true g]; rfl
      · rw [decide_eq_false g, cond_false, Option.bind_some, decide_eq_true (by omega)]; rfl
def linC (l : Linear) (j : Nat) : Bool := isVarS (l.Vars.getD j default) && inR (l.Slopes.getD j default) 1 1000 && (decide (j = 0) || slt (l.Vars.getD (j - 1) default) (l.Vars.getD j default))
def validL (l : Linear) : Bool := decide (l.Vars.length ≤ 8) && decide (l.Slopes.length = l.Vars.length) && inR l.Constant 0 100000 && (List.range l.Vars.length).all (linC l)
theorem okStr {l : List ByteArray} (h : LOk (fun s : ByteArray => Big s.size) l) {j : Nat} (hj : j < l.length) : Big (l.getD j default).size := h.2 _ (getD_mem hj)
theorem implL (l : Linear) (h : l.Ok) : impl_IsValidLinear l = some (validL l) := by
  unfold impl_IsValidLinear validL
  by_cases h8 : l.Vars.length ≤ 8
  · rw [decide_eq_false (show ¬ (8 : Int) < (l.Vars.length : Int) by omega), cond_false, decide_eq_true h8]
    by_cases hs : l.Slopes.length = l.Vars.length
    · rw [decide_eq_true (show (l.Slopes.length : Int) = (l.Vars.length : Int) by omega), cond_true, decide_eq_true hs, within_eq, Option.bind_some]
      cases hc : inR l.Constant 0 100000
      · rfl
      · rw [cond_true, forN_all (linC l)]
        · cases (List.range l.Vars.length).all (linC l) <;> rfl
        · intro j hj _
          have hv := okStr h.1 hj
          simp only [idx_getD hj, idx_getD (xs := l.Slopes) (i := j) (by omega), Option.bind_some, isVariable_eq _ hv, within_eq, linC]
          by_cases h0 : j = 0
          · subst h0
            cases isVarS (l.Vars.getD 0 default) <;> cases inR (l.Slopes.getD 0 default) 1 1000 <;> rfl
          · have h2 : (0 : Int) < (j : Int) := by omega
            rw [decide_eq_true h2, decide_eq_false h0, idx_pred hj (by omega) (by have := h.1.1; simp only [Big] at this; omega), Option.bind_some]
            have key := slt_le (l.Vars.getD j default) (l.Vars.getD (j - 1) default)
            unfold slt at key
            rw [key]
            unfold slt
            cases isVarS (l.Vars.getD j default) <;> cases inR (l.Slopes.getD j default) 1 1000 <;> cases Op.bytesLess (l.Vars.getD (j - 1) default).data.toList (l.Vars.getD j default).data.toList <;> rfl
    · rw [decide_eq_false (show ¬ (l.Slopes.length : Int) = (l.Vars.length : Int) by omega), decide_eq_false hs]; rfl
  · rw [decide_eq_true (show (8 : Int) < (l.Vars.length : Int) by omega), decide_eq_false h8]; rfl
theorem specL (l : Linear) (h : l.Ok) : spec_l25Linear l = some (validL l) := by
  unfold spec_l25Linear validL
  by_cases h8 : l.Vars.length ≤ 8
  · rw [decide_eq_false (show ¬ (8 : Int) < (l.Vars.length : Int) by omega), cond_false, decide_eq_true h8]
    by_cases hs : l.Slopes.length = l.Vars.length
    · rw [decide_eq_true (show (l.Slopes.length : Int) = (l.Vars.length : Int) by omega), cond_true, decide_eq_true hs, l1In_eq, Option.bind_some]
      cases hc : inR l.Constant 0 100000
      · rfl
      · rw [cond_true, forN_all (linC l)]
        · cases (List.range l.Vars.length).all (linC l) <;> rfl
        · intro j hj _
          have hv := okStr h.1 hj
          simp only [idx_getD hj, idx_getD (xs := l.Slopes) (i := j) (by omega), Option.bind_some, l2Var_eq _ hv, l1In_eq, linC]
          by_cases h0 : j = 0
          · subst h0
            cases isVarS (l.Vars.getD 0 default) <;> cases inR (l.Slopes.getD 0 default) 1 1000 <;> rfl
          · have h2 : (0 : Int) < (j : Int) := by omega
            rw [decide_eq_true h2, decide_eq_false h0, idx_pred hj (by omega) (by have := h.1.1; simp only [Big] at this; omega), Option.bind_some]
            unfold slt
            cases isVarS (l.Vars.getD j default) <;> cases inR (l.Slopes.getD j default) 1 1000 <;> cases Op.bytesLess (l.Vars.getD (j - 1) default).data.toList (l.Vars.getD j default).data.toList <;> rfl
    · rw [decide_eq_false (show ¬ (l.Slopes.length : Int) = (l.Vars.length : Int) by omega), decide_eq_false hs]; rfl
  · rw [decide_eq_true (show (8 : Int) < (l.Vars.length : Int) by omega), decide_eq_false h8]; rfl
end Go.Proofs.YtgbddapcjhgllaaGreat
