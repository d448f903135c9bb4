/- A part of the proof: lemmas only; nothing is claimed here beyond what each lemma says. -/
import Derived.Test.YtdmkceajaagpgaaGx9g
import Derived.Test.YtdmkceajaagpgaaGmk
set_option linter.unusedSimpArgs false
set_option linter.unusedVariables false
set_option linter.defProp false
set_option maxRecDepth 4000
namespace Go.Proofs.Ytdmkceajaagpgaa
open Go.Av
def pathC (p : CyclicProof) (xs : List Int) (i : Nat) : Bool := inR (xs.getD i default) 0 ((p.Calls.length : Int) - 1) && (decide (i = 0) || decide ((p.Calls.getD (xs.getD (i - 1) default).toNat default).Target = (p.Calls.getD (xs.getD i default).toNat default).Source))
theorem idx_int {α : Type} [Inhabited α] {l : List α} {e : Int} (h0 : 0 ≤ e) (h1 : e < l.length) : idx l e = some (l.getD e.toNat default) := by
  obtain ⟨n, rfl⟩ : ∃ n : Nat, e = n := ⟨e.toNat, by omega⟩
  rw [idx_getD (by omega), Int.toNat_natCast]
theorem pathC_in {p : CyclicProof} {xs : List Int} {i : Nat} (h : pathC p xs i = true) : 0 ≤ xs.getD i default ∧ xs.getD i default < p.Calls.length := by
  unfold pathC at h
  rw [Bool.and_eq_true, inR_iff] at h
  omega
def pathP (p : CyclicProof) (xs : List Int) : Bool := (List.range xs.length).all (pathC p xs) && decide (xs.length ≤ 200)
theorem isPath_ok (p : CyclicProof) (xs : List Int) (hp : p.Calls.length ≤ 1000) (hx : xs.length ≤ 1048576) : impl_isPath p xs = some (pathP p xs) := by
  unfold impl_isPath pathP
  have w : IntKind.i64.wrap ((p.Calls.length : Int) - (1 : Int)) = (p.Calls.length : Int) - 1 := by rw [wrap64] <;> omega
  rw [w, show decide ((xs.length : Int) ≤ 200) = decide (xs.length ≤ 200) from decide_eq_decide.2 (by omega)]
  rw [forN_all (pathC p xs) (r0 := false) (fun j hj hk => ?_)]
  · cases (List.range xs.length).all (pathC p xs) <;> rfl
  rw [idx_getD hj, Option.bind_some, within_eq, Option.bind_some]
  unfold pathC
  cases hin : inR (xs.getD j default) 0 ((p.Calls.length : Int) - 1)
  · rfl
  · have hin' := inR_iff.1 hin
    by_cases h0 : j = 0
    · subst h0; rfl
    · have hpr := pathC_in (hk (j - 1) (by omega))
      rw [cond_true, decide_eq_true (show (0 : Int) < (j : Int) by omega), cond_true, idx_pred hj (by omega) (by omega), Option.bind_some, idx_int hpr.1 hpr.2, Option.bind_some, idx_int hin'.1 (by omega), Option.bind_some, decide_eq_false h0, Bool.false_or, Bool.true_and]
      cases decide ((p.Calls.getD (xs.getD (j - 1) default).toNat default).Target = (p.Calls.getD (xs.getD j default).toNat default).Source) <;> rfl
theorem l24Path_ok (p : CyclicProof) (xs : List Int) (hp : p.Calls.length ≤ 1000) (hx : xs.length ≤ 1048576) : spec_l24Path p xs = some (pathP p xs) := by
  unfold spec_l24Path pathP
  have w : IntKind.i64.wrap ((p.Calls.length : Int) - (1 : Int)) = (p.Calls.length : Int) - 1 := by rw [wrap64] <;> omega
  rw [w, show decide ((xs.length : Int) ≤ 200) = decide (xs.length ≤ 200) from decide_eq_decide.2 (by omega)]
  rw [forN_all (fun j => decide (j ≤ 200) && pathC p xs j) (r0 := false) (fun j hj hk => ?_)]
  · by_cases h : xs.length ≤ 200
    · rw [decide_eq_true h, show (List.range xs.length).all (fun j => decide (j ≤ 200) && pathC p xs j) = (List.range xs.length).all (pathC p xs) from by
        rw [Bool.eq_iff_iff, List.all_eq_true, List.all_eq_true]
        refine forall_congr' fun j => imp_congr_right fun hj => ?_
        rw [List.mem_range] at hj
        rw [decide_eq_true (show j ≤ 200 by omega), Bool.true_and]]
      cases (List.range xs.length).all (pathC p xs) <;> rfl
    · rw [decide_eq_false h, Bool.and_false]
      cases (List.range xs.length).all (fun j => decide (j ≤ 200) && pathC p xs j) <;> rfl
  by_cases h2 : j ≤ 200
  · rw [decide_eq_true h2, decide_eq_true (show (j : Int) ≤ 200 by omega), cond_true, Bool.true_and, idx_getD hj, Option.bind_some, l1In_eq, Option.bind_some]
    unfold pathC
    cases hin : inR (xs.getD j default) 0 ((p.Calls.length : Int) - 1)
    · rfl
    · have hin' := inR_iff.1 hin
      by_cases h0 : j = 0
      · subst h0; rfl
      · have hk' := hk (j - 1) (by omega)
        rw [Bool.and_eq_true] at hk'
        have hpr := pathC_in hk'.2
        rw [cond_true, decide_eq_true (show (0 : Int) < (j : Int) by omega), cond_true, idx_pred hj (by omega) (by omega), Option.bind_some, idx_int hpr.1 hpr.2, Option.bind_some, Option.bind_some, idx_int hin'.1 (by omega), Option.bind_some, decide_eq_false h0, Bool.false_or, Bool.true_and]
        cases decide ((p.Calls.getD (xs.getD (j - 1) default).toNat default).Target = (p.Calls.getD (xs.getD j default).toNat default).Source) <;> rfl
  · rw [decide_eq_false h2, decide_eq_false (show ¬ (j : Int) ≤ 200 by omega), cond_false, decide_eq_false (show ¬ xs.length ≤ 200 by omega)]; rfl
theorem forN_shift {ρ σ : Type} (f : Nat → σ → Option (Flow ρ σ)) : ∀ (n i : Nat) (s : σ), forN f n (i + 1) s = forN (fun i => f (i + 1)) n i s
  | 0, _, _ => rfl
  | n + 1, i, s => by
    simp only [forN]
    cases f (i + 1) s with
    | none => rfl
    | some v => cases v <;> simp only [Option.bind_some] <;> first | rfl | exact forN_shift f n (i + 1) _
theorem fold_both {ρ : Type} (calls : List SizeGraph) (hc : ∀ g ∈ calls, Rise g.Edges) : ∀ (l : List Int) (i j : Nat) (S T : Int) (E : List SizeEdge), Rise E → E.length ≤ 1048576 → (∀ v ∈ l, 0 ≤ v ∧ v < calls.length) →
    ∃ s : Int × Int × List SizeEdge, s.2.2.length ≤ 1048576 ∧
      forL (ρ := ρ) (fun _ v (s5 : Int × Int × (List SizeEdge)) => Option.bind (idx calls v) fun v44 => Option.bind (spec_l24Compose (SizeGraph.mk s5.1 s5.2.1 s5.2.2) v44) fun v46 => some (.nx (v46.Source, v46.Target, v46.Edges))) l i (S, T, E) = some (.inr s) ∧
      forL (ρ := ρ) (fun _ v (s5 : Int × Int × (List SizeEdge)) => Option.bind (idx calls v) fun v44 => Option.bind (impl_compose (SizeGraph.mk s5.1 s5.2.1 s5.2.2) v44) fun v46 => some (.nx (v46.Source, v46.Target, v46.Edges))) l j (S, T, E) = some (.inr s)
  | [], i, j, S, T, E, _, hl, _ => ⟨(S, T, E), hl, rfl, rfl⟩
  | v :: l, i, j, S, T, E, hE, hl, h => by
    obtain ⟨h0, h1⟩ := h v (by simp)
    obtain ⟨s, q1, q2, q3, q4⟩ := compose_rise ⟨S, T, E⟩ (calls.getD v.toNat default) hE (hc _ (getD_mem (by omega)))
    rw [forL_nx (s' := (S, (calls.getD v.toNat default).Target, s)) (by rw [idx_int h0 h1, Option.bind_some, q3]; rfl), forL_nx (s' := (S, (calls.getD v.toNat default).Target, s)) (by rw [idx_int h0 h1, Option.bind_some, q4]; rfl)]
    exact fold_both calls hc l (i + 1) (j + 1) _ _ s q2 (by omega) (fun b hb => h b (by simp [hb]))
theorem app_nil {α : Type} (l : List α) (h : l.length ≤ 1048576) : app [] l = some l := by
  unfold app
  rw [if_pos (by simp only [List.length_nil]; omega)]; rfl
theorem valid_calls {p : CyclicProof} (h : validP p = true) : p.Calls.length ≤ 12 ∧ ∀ g ∈ p.Calls, validG g = true := by
  unfold validP at h
  simp only [Bool.and_eq_true, decide_eq_true_iff, List.all_eq_true] at h
  refine ⟨h.1.1.2, fun g hg => ?_⟩
  have := h.2 g hg
  unfold callOk at this
  simp only [Bool.and_eq_true] at this
  first | exact this.1 | exact this.1.1 | exact this.1.1.1 | exact this.1.1.1.1
theorem path_both (p : CyclicProof) (xs : List Int) (hp : p.Ok) (hx : xs.length ≤ 1048576) (ht : ∀ g ∈ p.Calls, g.Edges.length ≤ 1048576) : ∃ (g : SizeGraph) (c : Bool), spec_PathGraph p xs = some (g, c) ∧ impl_PathGraph p xs = some (g, c) ∧ g.Edges.length ≤ 1048576 := by
  unfold spec_PathGraph impl_PathGraph
  rw [specP p hp, implP p hp, Option.bind_some, Option.bind_some]
  cases hv : validP p
  · exact ⟨_, _, rfl, rfl, Nat.zero_le _⟩
  obtain ⟨hl, hg⟩ := valid_calls hv
  simp only [cond_true]
  by_cases h0 : (xs.length : Int) = 0
  · rw [decide_eq_true h0]; exact ⟨_, _, rfl, rfl, Nat.zero_le _⟩
  rw [decide_eq_false h0, cond_false, cond_false, isPath_ok p xs (by omega) hx, l24Path_ok p xs (by omega) hx, Option.bind_some, Option.bind_some]
  cases hpp : pathP p xs
  · exact ⟨_, _, rfl, rfl, Nat.zero_le _⟩
  simp only [cond_true]
  have hin : ∀ i, i < xs.length → 0 ≤ xs.getD i default ∧ xs.getD i default < p.Calls.length := fun i hi => by
    unfold pathP at hpp
    rw [Bool.and_eq_true, List.all_eq_true] at hpp
    exact pathC_in (hpp.1 i (by simpa using hi))
  have hi0 := hin 0 (by omega)
  have hmem := getD_mem (l := p.Calls) (i := (xs.getD 0 default).toNat) (by omega)
  have hE := ht _ hmem
  generalize hC : p.Calls.getD (xs.getD 0 default).toNat default = C at hmem hE
  have e0 : idx xs (0 : Int) = some (xs.getD 0 default) := idx_getD (i := 0) (by omega)
  have hs : slc xs (1 : Int) (xs.length : Int) = some (xs.drop 1) := by
    unfold slc
    rw [if_pos ⟨by omega, by omega, by omega⟩, Int.toNat_natCast, List.take_length]; rfl
  rw [e0, Option.bind_some, Option.bind_some, idx_int hi0.1 hi0.2, Option.bind_some, Option.bind_some, hC]
  have h1 : spec_l24Own C = some C := by unfold spec_l24Own; rw [app_nil _ hE]; rfl
  have h2 : impl_copyGraph C = some C := by unfold impl_copyGraph slices_Clone_Simpl_SizeEdge_impl_SizeEdge; rw [app_nil _ hE]; rfl
  rw [h1, h2, Option.bind_some, Option.bind_some, hs, Option.bind_some]
  obtain ⟨s, q1, q2, q3⟩ := fold_both (ρ := SizeGraph × Bool) p.Calls (fun g hg' => valid_rise (hg g hg')) (xs.drop 1) 0 0 C.Source C.Target C.Edges (valid_rise (hg C hmem)) hE (fun v hv' => by
    obtain ⟨k, hk, rfl⟩ := List.mem_iff_getElem.1 hv'
    rw [List.length_drop] at hk
    have := hin (k + 1) (by omega)
    simpa [List.getD, show k + 1 < xs.length by omega] using this)
  have hd : (xs.drop 1).length = xs.length - 1 := List.length_drop
  refine ⟨⟨s.1, s.2.1, s.2.2⟩, true, ?_, ?_, q1⟩
  · rw [show (1 : Nat) = 0 + 1 from rfl, forN_shift, show xs.length - (0 + 1) = (xs.drop 1).length by rw [hd],
      forN_forL _ (fun _ v (s5 : Int × Int × (List SizeEdge)) => Option.bind (idx p.Calls v) fun v44 => Option.bind (spec_l24Compose (SizeGraph.mk s5.1 s5.2.1 s5.2.2) v44) fun v46 => some (.nx (v46.Source, v46.Target, v46.Edges))) (xs.drop 1) 0 _ (fun j v s5 hj => ?_), q2]
    · rfl
    · rw [List.getElem?_drop] at hj
      rw [idx_nat, show 0 + j + 1 = 1 + j by omega, hj, Option.bind_some]
  · rw [forN_forL _ (fun _ v (s5 : Int × Int × (List SizeEdge)) => Option.bind (idx p.Calls v) fun v44 => Option.bind (impl_compose (SizeGraph.mk s5.1 s5.2.1 s5.2.2) v44) fun v46 => some (.nx (v46.Source, v46.Target, v46.Edges))) (xs.drop 1) 0 _ (fun j v s5 hj => by
      simp only [Nat.zero_add, idx_nat, hj, Option.bind_some]), q3]
    rfl
/-! marks that nothing reads again -/
def heldI (a0 : List Int) (a1 : Int) : Option Int :=
  thenL (ρ := Int) (σ := Int) (forN (fun (i2 : Nat) (s2 : Int) => Option.bind (idx a0 (i2 : Int)) fun v14 => bif decide (v14 = s2) then some (.nx (IntKind.i64.wrap (s2 + (1 : Int)))) else some (.rt (-1 : Int))) a0.length 0 a1) fun s2 => some s2
theorem markIntS_held (xs : List Int) : MH (fun _ : Unit => True) (fun _ => markIntS) (fun _ => heldI) xs (lcn (fun _ => 1) xs) := by
  refine MH.of (cnt := fun _ => 1) (fun _ _ _ => rfl) (fun _ _ _ _ => rfl) (fun _ l k => by simp only [dec_end, cond_false]) (fun h => by have := lcn_len (c := fun _ : Int => 1) (xs := xs) (fun _ => Nat.le_refl _); omega) (fun x hx k h0 h1 => ?_)
  have w0 : IntKind.i64.wrap (k + 1) = k + 1 := wrapK (by omega) (by omega)
  refine ⟨k, fun p hp => ⟨fun pre rest hpre => ?_, fun ys i hi => ?_⟩⟩
  · have wi := wrap_succ (i := pre.length) (by omega)
    simp only [dec_mid, cond_true, idx_mid, set_mid, Option.bind_some, wi, w0]; rfl
  · simp only [idx_nat, hi, Option.bind_some, decide_true, cond_true, w0]; rfl
def gcn (g : SizeGraph) : Nat := 2 + lcn SizeEdge.cn g.Edges
def heldG (a0 : List SizeGraph) (a1 : Int) : Option Int :=
  thenL (ρ := Int) (σ := Int) (forN (fun (i2 : Nat) (s2 : Int) => Option.bind (idx a0 (i2 : Int)) fun v14 => Option.bind (heldSizeEdgeS v14.Edges (s2 + 1 + 1)) fun r => some (.nx r)) a0.length 0 a1) fun s2 => some s2
theorem markSizeGraphS_held (xs : List SizeGraph) : MH (fun _ : Unit => True) (fun _ => markSizeGraphS) (fun _ => heldG) xs (lcn gcn xs) := by
  refine MH.of (cnt := gcn) (fun _ _ _ => rfl) (fun _ _ _ _ => rfl) (fun _ l k => by simp only [dec_end, cond_false]) (fun h => by have := lcn_len (c := gcn) (xs := xs) (fun _ => by unfold gcn; omega); omega) (fun x hx k h0 h1 => ?_)
  unfold gcn at h1
  have w0 : IntKind.i64.wrap (k + 1) = k + 1 := wrapK (by omega) (by omega)
  have w1 : IntKind.i64.wrap (k + 1 + 1) = k + 1 + 1 := wrapK (by omega) (by omega)
  have e : k + ((gcn x : Nat) : Int) = k + 1 + 1 + ((lcn SizeEdge.cn x.Edges : Nat) : Int) := by unfold gcn; omega
  obtain ⟨y, m0, n0⟩ := (markSizeEdgeS_held x.Edges).unit (k := k + 1 + 1) (by omega) (by omega)
  refine ⟨(SizeGraph.mk k (k + 1) y), fun p hp => ⟨fun pre rest hpre => ?_, fun ys i hi => ?_⟩⟩
  · have wi := wrap_succ (i := pre.length) (by omega)
    simp only [dec_mid, cond_true, idx_mid, set_mid, Option.bind_some, wi, w0, w1, m0, e]
  · simp only [idx_nat, hi, Option.bind_some, n0, e]
end Go.Proofs.Ytdmkceajaagpgaa
