/- A part of the proof: lemmas only; nothing is claimed here beyond what each lemma says. -/
import Derived.Test.YtgbddapcjhgllaaGreatGbd
set_option linter.unusedSimpArgs false
set_option linter.unusedVariables false
set_option linter.defProp false
set_option maxRecDepth 4000
namespace Go.Proofs.YtgbddapcjhgllaaGreat
open Go.Av
theorem major_both (xs : List Majorant) (t : Term) (hx : LOk Majorant.Ok xs) (ht : t.Ok) (h : t.tot ≤ 1048576) :
    ∃ (g : Linear) (c : Bool), spec_MajorantOf xs t = some (g, c) ∧ impl_MajorantOf xs t = some (g, c) ∧ g.Vars.length ≤ 8 ∧ g.Slopes.length ≤ 8 := by
  unfold spec_MajorantOf impl_MajorantOf
  rw [specMj xs hx, implMj xs hx, Option.bind_some, Option.bind_some, l2Good_ok t h ht, IsValidTerm_ok t h ht]
  cases hv : validM xs
  · exact ⟨_, _, rfl, rfl, by simp, by simp⟩
  rw [cond_true, cond_true, Option.bind_some, Option.bind_some]
  cases hg : goodT t
  · exact ⟨_, _, rfl, rfl, by simp, by simp⟩
  have hg2 : t.good = true := by unfold goodT at hg; rw [Bool.and_eq_true] at hg; exact hg.2
  obtain ⟨⟨sl, sb⟩, ⟨il, ib⟩, ⟨e1, e2, e3⟩, hr⟩ := bndV xs hv t ht hg2
  have k1 : spec_l25Bound xs t = some (sl, sb) := lim_eq ⟨_, fun n hn => (hr n hn).1⟩
  have k2 : impl_boundOf xs t = some (il, ib) := lim_eq ⟨_, fun n hn => (hr n hn).2⟩
  rw [cond_true, cond_true, k1, k2, Option.bind_some, Option.bind_some]
  simp only at e1 e2 e3 ⊢
  subst e1
  cases sb
  · rw [e3 rfl]; exact ⟨_, _, rfl, rfl, by simp, by simp⟩
  · obtain ⟨rfl, hw⟩ := e2 rfl
    obtain ⟨b1, b2, _⟩ := validL_iff hw
    exact ⟨_, _, rfl, rfl, b1, by omega⟩
theorem FnExactMajorantOf_true (xs : List Majorant) (t : Term) (hx : LOk Majorant.Ok xs) (ht : t.Ok) : FnExactMajorantOf xs t = some true := by
  unfold FnExactMajorantOf
  rw [szMajorantS_eq xs hx _ (by omega) (by omega), Option.bind_some]
  by_cases e : szR (ltot Majorant.tot xs) 1048576 < 0
  · rw [decide_eq_true e]; rfl
  have h1 := szR_ok e
  have e1 : szR (ltot Majorant.tot xs) 1048576 = 1048576 - ltot Majorant.tot xs := by unfold szR; rw [if_pos (by omega)]
  rw [decide_eq_false e, cond_false, e1, szTerm_eq t ht _ (by omega) (by omega), Option.bind_some]
  by_cases e2 : szR t.tot (1048576 - ltot Majorant.tot xs) < 0
  · rw [decide_eq_true e2]; rfl
  have h2 : (t.tot : Int) ≤ 1048576 - ltot Majorant.tot xs := Classical.byContradiction fun g => e2 ((szR_neg (by omega)).2 g)
  rw [decide_eq_false e2, cond_false]
  obtain ⟨g, c, k1, k2, k3, k4⟩ := major_both xs t hx ht (by omega)
  have vg := ones_len g.Vars
  have sg := ones_len g.Slopes
  have c1 := cn_tot xs
  have c2 := Term.cnt_tot t
  have c3 := Term.cnt_u t
  obtain ⟨y1, m1⟩ := (markMajorantS_mo xs).unit (k := 1) (by omega) (by omega)
  obtain ⟨y2, m2⟩ := markTerm_mo t (k := 1 + ((lcn Majorant.cn xs : Nat) : Int)) (by omega) (by omega)
  obtain ⟨y3, y3', m3, m4⟩ := markLinear_held g (k := 1) (by omega) (by omega)
  have d1 : decide ((1 : Int) + ((lcn Majorant.cn xs : Nat) : Int) + ((lcn Term.cnt t.Args : Nat) : Int) < 0) = false := decide_eq_false (by omega)
  have d2 : decide ((1 : Int) + ((lcn (fun _ => 1) g.Vars + lcn (fun _ => 1) g.Slopes : Nat) : Int) < 0) = false := decide_eq_false (by omega)
  simp only [toMajorantS_eq xs h1, toTerm_eq t (by omega), Option.bind_some, k1, k2, eqMajorantS_refl, eqTerm_refl, eqLinear_refl, cond_true, beq_self_eq_true, m1, m2, m3, m4, d1, d2, cond_false, decide_true]
end Go.Proofs.YtgbddapcjhgllaaGreat
