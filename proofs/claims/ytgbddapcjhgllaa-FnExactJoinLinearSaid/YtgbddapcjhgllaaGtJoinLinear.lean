/- A part of the proof: lemmas only; nothing is claimed here beyond what each lemma says. -/
import Derived.Test.YtgbddapcjhgllaaGxm
set_option linter.unusedSimpArgs false
set_option linter.unusedVariables false
set_option linter.defProp false
set_option maxRecDepth 4000
namespace Go.Proofs.Ytgbddapcjhgllaa
open Go.Av
theorem l1Most_eq (a b : Int) : spec_l1Most a b = some (max a b) := by
  unfold spec_l1Most
  by_cases h : b < a
  · rw [decide_eq_true h]; simp; omega
  · rw [decide_eq_false h]; simp; omega
def joinL (a b : Linear) : Linear := ⟨namesOf a b, (namesOf a b).map fun n => max (slopeZ a.Vars a.Slopes n) (slopeZ b.Vars b.Slopes n), max a.Constant b.Constant⟩
theorem l25Join_eq (a b : Linear) (ha : a.Slopes.length = a.Vars.length) (hb : b.Slopes.length = b.Vars.length) (h : a.Vars.length + b.Vars.length ≤ 1048576) : spec_l25Join a b = some (joinL a b) := by
  unfold spec_l25Join
  rw [l25Names_eq a b h, Option.bind_some, l1Most_eq, Option.bind_some]
  have hn := namesOf_len a b
  rw [forN_forL _ (fun _ (x : ByteArray) (s : List Int) => Option.bind (app s ([max (slopeZ a.Vars a.Slopes x) (slopeZ b.Vars b.Slopes x)])) fun v => some (.nx v)) (namesOf a b) 0 [] (fun j x s hx => by
    simp only [Nat.zero_add, idx_nat, hx, Option.bind_some, l25Slope_eq a x ha, l25Slope_eq b x hb, l1Most_eq]),
    fold_map (fun x => max (slopeZ a.Vars a.Slopes x) (slopeZ b.Vars b.Slopes x)) _ 0 [] (by simp; omega), thenL_inr, List.nil_append]
  rfl
theorem join_both (a b : Linear) (ha : a.Ok) (hb : b.Ok) : ∃ (g : Linear) (c : Bool), spec_JoinLinear a b = some (g, c) ∧ impl_JoinLinear a b = some (g, c) ∧ g.Vars.length ≤ 16 ∧ g.Slopes.length ≤ 16 := by
  unfold spec_JoinLinear impl_JoinLinear
  rw [specL a ha, implL a ha, specL b hb, implL b hb, Option.bind_some, Option.bind_some]
  cases hv : validL a
  · exact ⟨_, _, rfl, rfl, by simp, by simp⟩
  simp only [cond_true, Option.bind_some]
  cases hw : validL b
  · exact ⟨_, _, rfl, rfl, by simp, by simp⟩
  simp only [cond_true]
  obtain ⟨a1, a2, a3, a4, a5, a6⟩ := validL_iff hv
  obtain ⟨b1, b2, b3, b4, b5, b6⟩ := validL_iff hw
  have hn := namesOf_len a b
  rw [l25Join_eq a b a2 b2 (by omega), Option.bind_some]
  -- the map
  have hm1 := foldP_ok max a.Vars a.Slopes _ GOk.empty
  have hm := foldP_ok max b.Vars b.Slopes _ hm1
  have hget : ∀ n, GMap.get (foldP max b.Vars b.Slopes (foldP max a.Vars a.Slopes GMap.empty)) n 0 = max (slopeZ a.Vars a.Slopes n) (slopeZ b.Vars b.Slopes n) := by
    intro n
    have s1 := slopeZ_bound hv n
    have s2 := slopeZ_bound hw n
    by_cases c1 : n ∈ a.Vars <;> by_cases c2 : n ∈ b.Vars
    · rw [foldP_in max n _ _ _ b2.symm b4.nodup c2, foldP_in max n _ _ _ a2.symm a4.nodup c1, empty_get]; omega
    · rw [foldP_out max n _ _ _ c2, foldP_in max n _ _ _ a2.symm a4.nodup c1, empty_get, slopeZ_notin _ _ _ c2]; omega
    · rw [foldP_in max n _ _ _ b2.symm b4.nodup c2, foldP_out max n _ _ _ c1, empty_get, slopeZ_notin _ _ _ c1]
    · rw [foldP_out max n _ _ _ c2, foldP_out max n _ _ _ c1, empty_get, slopeZ_notin _ _ _ c1, slopeZ_notin _ _ _ c2]; rfl
  have hkeys : ∀ z, z ∈ GMap.keys (foldP max b.Vars b.Slopes (foldP max a.Vars a.Slopes GMap.empty)) → z ∈ a.Vars ∨ z ∈ b.Vars := by
    intro z hz
    rw [foldP_keys max z _ _ _ b2.symm, foldP_keys max z _ _ _ a2.symm] at hz
    rcases hz with h | h | h
    · exact .inr h
    · exact .inl h
    · simp [GMap.keys, GMap.empty] at h
  have hnz : nzk (foldP max b.Vars b.Slopes (foldP max a.Vars a.Slopes GMap.empty)) = namesOf a b := by
    refine nzk_eq hm (namesOf_srt a b) (fun z => ?_)
    have s1 := slopeZ_bound hv z
    have s2 := slopeZ_bound hw z
    rw [namesOf_mem, hget, s1.2.2, s2.2.2]
    constructor
    · rintro (h | h) <;> omega
    · intro h
      by_cases c : slopeZ a.Vars a.Slopes z = 0
      · right; intro h2; exact h (by rw [c, h2]; rfl)
      · exact .inl c
  have e : impl_join a b = impl_linear (foldP max b.Vars b.Slopes (foldP max a.Vars a.Slopes GMap.empty)) (max a.Constant b.Constant) := by
    unfold impl_join
    have i0 : idx [a, b] ((0 : Nat) : Int) = some a := rfl
    have i1 : idx [a, b] ((0 + 1 : Nat) : Int) = some b := rfl
    simp only [List.length_cons, List.length_nil, Nat.zero_add]
    rw [forN_nx (s' := foldP max a.Vars a.Slopes GMap.empty) (by rw [i0]; simp only [Option.bind_some]; rw [foldP_loop max a.Vars a.Slopes a2]; rfl),
      forN_nx (s' := foldP max b.Vars b.Slopes (foldP max a.Vars a.Slopes GMap.empty)) (by rw [i1]; simp only [Option.bind_some]; rw [foldP_loop max b.Vars b.Slopes b2]; rfl), forN_zero, thenL_inr]
    cases impl_linear (foldP max b.Vars b.Slopes (foldP max a.Vars a.Slopes GMap.empty)) (max a.Constant b.Constant) <;> rfl
  have hlen := foldP_len max b.Vars b.Slopes (foldP max a.Vars a.Slopes GMap.empty)
  have hlen1 := foldP_len max a.Vars a.Slopes GMap.empty
  have hle0 : (GMap.empty : GMap Int).es.length = 0 := rfl
  have hc : InR (max a.Constant b.Constant) := inR_small (by omega) (by omega)
  have hr : ∀ n, InR (GMap.get (foldP max b.Vars b.Slopes (foldP max a.Vars a.Slopes GMap.empty)) n 0) := fun n => by
    have s1 := slopeZ_bound hv n
    have s2 := slopeZ_bound hw n
    rw [hget]; exact inR_small (by omega) (by omega)
  have hbig : ∀ k ∈ GMap.keys (foldP max b.Vars b.Slopes (foldP max a.Vars a.Slopes GMap.empty)), Big k.size := fun k hk => (hkeys k hk).elim (fun h => big_var (a6 k h)) (fun h => big_var (b6 k h))
  rw [e, linear_eq hm _ (by omega) hbig hr hc, hnz]
  have hmap : ((namesOf a b).map fun k => GMap.get (foldP max b.Vars b.Slopes (foldP max a.Vars a.Slopes GMap.empty)) k 0) = (joinL a b).Slopes := List.map_congr_left fun k _ => hget k
  rw [hmap]
  have hJ : (⟨namesOf a b, (joinL a b).Slopes, max a.Constant b.Constant⟩ : Linear) = joinL a b := rfl
  rw [hJ]
  have hok : (joinL a b).Ok := by
    refine ⟨⟨by simp only [Big, joinL]; omega, fun k hk => ?_⟩, ⟨by simp only [Big, joinL, List.length_map]; omega, fun x hx => ?_⟩, hc⟩
    · rcases (namesOf_mem a b k).1 hk with h | h
      · exact big_var (a6 k h)
      · exact big_var (b6 k h)
    · obtain ⟨k, _, rfl⟩ := List.mem_map.1 hx
      rw [← hget]; exact hr k
  rw [specL _ hok, Option.bind_some, Option.bind_some]
  cases validL (joinL a b)
  · exact ⟨_, _, rfl, rfl, by simp, by simp⟩
  · exact ⟨_, _, rfl, rfl, by simp only [joinL]; omega, by simp only [joinL, List.length_map]; omega⟩
theorem FnExactJoinLinear_true (a b : Linear) (ha : a.Ok) (hb : b.Ok) : FnExactJoinLinear a b = some true := by
  unfold FnExactJoinLinear
  rw [szLinear_eq a ha _ (by omega) (by omega), Option.bind_some]
  by_cases e : szR a.tot 1048576 < 0
  · rw [decide_eq_true e]; rfl
  have h1 := szR_ok e
  have e1 : szR a.tot 1048576 = 1048576 - a.tot := by unfold szR; rw [if_pos (by omega)]
  rw [decide_eq_false e, cond_false, e1, szLinear_eq b hb _ (by omega) (by omega), Option.bind_some]
  by_cases e2 : szR b.tot (1048576 - a.tot) < 0
  · rw [decide_eq_true e2]; rfl
  have h2 : (b.tot : Int) ≤ 1048576 - a.tot := Classical.byContradiction fun g => e2 ((szR_neg (by omega)).2 g)
  rw [decide_eq_false e2, cond_false]
  obtain ⟨g, c, k1, k2, k3, k4⟩ := join_both a b ha hb
  have ta := tot_len a
  have tb := tot_len b
  have va := ones_len a.Vars
  have sa := ones_len a.Slopes
  have vb := ones_len b.Vars
  have sb := ones_len b.Slopes
  have vg := ones_len g.Vars
  have sg := ones_len g.Slopes
  obtain ⟨y1, y1', m1, _⟩ := markLinear_held a (k := 1) (by omega) (by omega)
  obtain ⟨y2, y2', m2, _⟩ := markLinear_held b (k := 1 + ((lcn (fun _ => 1) a.Vars + lcn (fun _ => 1) a.Slopes : Nat) : Int)) (by omega) (by omega)
  obtain ⟨y3, y3', m3, m4⟩ := markLinear_held g (k := 1) (by omega) (by omega)
  have d1 : decide ((1 : Int) + ((lcn (fun _ => 1) a.Vars + lcn (fun _ => 1) a.Slopes : Nat) : Int) + ((lcn (fun _ => 1) b.Vars + lcn (fun _ => 1) b.Slopes : Nat) : Int) < 0) = false := decide_eq_false (by omega)
  have d2 : decide ((1 : Int) + ((lcn (fun _ => 1) g.Vars + lcn (fun _ => 1) g.Slopes : Nat) : Int) < 0) = false := decide_eq_false (by omega)
  simp only [toLinear_eq a h1, toLinear_eq b (by omega), Option.bind_some, k1, k2, eqLinear_refl, cond_true, beq_self_eq_true, m1, m2, m3, m4, d1, d2, cond_false, decide_true]
end Go.Proofs.Ytgbddapcjhgllaa
