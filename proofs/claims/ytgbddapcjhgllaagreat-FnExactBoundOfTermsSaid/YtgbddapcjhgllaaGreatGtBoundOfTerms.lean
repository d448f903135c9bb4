/- A part of the proof: lemmas only; nothing is claimed here beyond what each lemma says. -/
import Derived.Test.YtgbddapcjhgllaaGreatGjn
set_option linter.unusedSimpArgs false
set_option linter.unusedVariables false
set_option linter.defProp false
set_option maxRecDepth 4000
namespace Go.Proofs.YtgbddapcjhgllaaGreat
open Go.Av
theorem cnts_tot : ∀ l : List Term, lcn Term.cnt l ≤ ltot Term.tot l
  | [] => by rw [lcn_nil]; exact Nat.zero_le _
  | g :: l => by
    have h := cnts_tot l
    have h1 := Term.cnt_tot g
    rw [lcn_cons]
    simp only [ltot, List.map_cons, List.sum_cons, List.length_cons] at h ⊢
    omega
theorem tot_mem {t : Term} : ∀ {l : List Term}, t ∈ l → t.tot ≤ ltot Term.tot l
  | [], h => by simp at h
  | g :: l, h => by
    rcases List.mem_cons.1 h with h | h
    · subst h; simp only [ltot, List.map_cons, List.sum_cons, List.length_cons]; omega
    · have := tot_mem h
      simp only [ltot, List.map_cons, List.sum_cons, List.length_cons] at this ⊢; omega
theorem FnExactBoundOfTerms_true (xs : List Majorant) (ts : List Term) (hx : LOk Majorant.Ok xs) (ht : LOk Term.Ok ts) : FnExactBoundOfTerms xs ts = some true := by
  unfold FnExactBoundOfTerms
  rw [szMajorantS_eq xs hx _ (by omega) (by omega), Option.bind_some]
  by_cases e : szR (ltot Majorant.tot xs) 1048576 < 0
  · rw [decide_eq_true e]; rfl
  have h1 := szR_ok e
  have e1 : szR (ltot Majorant.tot xs) 1048576 = 1048576 - ltot Majorant.tot xs := by unfold szR; rw [if_pos (by omega)]
  rw [decide_eq_false e, cond_false, e1, szTermS_eq ts ht _ (by omega) (by omega), Option.bind_some]
  by_cases e2 : szR (ltot Term.tot ts) (1048576 - ltot Majorant.tot xs) < 0
  · rw [decide_eq_true e2]; rfl
  have h2 : (ltot Term.tot ts : Int) ≤ 1048576 - ltot Majorant.tot xs := Classical.byContradiction fun g => e2 ((szR_neg (by omega)).2 g)
  rw [decide_eq_false e2, cond_false]
  obtain ⟨g, c, k1, k2, k3, k4⟩ := bound_both xs ts hx (fun t hm => ⟨ht.2 t hm, by have := tot_mem hm; omega⟩)
  have vg := ones_len g.Vars
  have sg := ones_len g.Slopes
  have c1 := cn_tot xs
  have c2 := cnts_tot ts
  obtain ⟨y1, m1⟩ := (markMajorantS_mo xs).unit (k := 1) (by omega) (by omega)
  obtain ⟨y2, m2'⟩ := markTermS_mo _ ts (Nat.le_refl _) (1 + ((lcn Majorant.cn xs : Nat) : Int)) (by omega) (by omega)
  have m2 : markTermS ts (1 + ((lcn Majorant.cn xs : Nat) : Int)) = some (1 + ((lcn Majorant.cn xs : Nat) : Int) + ((lcn Term.cnt ts : Nat) : Int), y2) := lim_eq ⟨_, fun n hn => m2' n hn⟩
  obtain ⟨y3, y3', m3, m4⟩ := markLinear_held g (k := 1) (by omega) (by omega)
  have d1 : decide ((1 : Int) + ((lcn Majorant.cn xs : Nat) : Int) + ((lcn Term.cnt ts : Nat) : Int) < 0) = false := decide_eq_false (by omega)
  have d2 : decide ((1 : Int) + ((lcn (fun _ => 1) g.Vars + lcn (fun _ => 1) g.Slopes : Nat) : Int) < 0) = false := decide_eq_false (by omega)
  simp only [toMajorantS_eq xs h1, toTermS_eq ts (by omega), Option.bind_some, k1, k2, eqMajorantS_refl, eqTermS_refl, eqLinear_refl, cond_true, beq_self_eq_true, m1, m2, m3, m4, d1, d2, cond_false, decide_true]
end Go.Proofs.YtgbddapcjhgllaaGreat
