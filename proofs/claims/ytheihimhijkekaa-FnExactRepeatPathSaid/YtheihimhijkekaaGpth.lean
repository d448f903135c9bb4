/- A part of the proof: lemmas only; nothing is claimed here beyond what each lemma says. -/
import Derived.Test.YtheihimhijkekaaGx9h
set_option linter.unusedSimpArgs false
set_option linter.unusedVariables false
set_option linter.defProp false
set_option maxRecDepth 4000
namespace Go.Proofs.Ytheihimhijkekaa
open Go.Av
def pathC (p : CyclicProof) (xs : List Int) (i : Nat) : Bool := inR (xs.getD i default) 0 ((p.Calls.length : Int) - 1) && (decide (i = 0) || decide ((p.Calls.getD (xs.getD (i - 1) default).toNat default).Target = (p.Calls.getD (xs.getD i default).toNat default).Source))
theorem idx_int {α : Type} [Inhabited α] {l : List α} {e : Int} (h0 : 0 ≤ e) (h1 : e < l.length) : idx l e = some (l.getD e.toNat default) := by
  obtain ⟨n, rfl⟩ : ∃ n : Nat, e = n := ⟨e.toNat, by omega⟩
  rw [idx_getD (by omega), Int.toNat_natCast]
theorem pathC_in {p : CyclicProof} {xs : List Int} {i : Nat} (h : pathC p xs i = true) : 0 ≤ xs.getD i default ∧ xs.getD i default < p.Calls.length := by
  unfold pathC at h
  rw [Bool.and_eq_true, inR_iff] at h
  omega
def pathP (p : CyclicProof) (xs : List Int) : Bool := (List.range xs.length).all (pathC p xs) && decide (xs.length ≤ 200)
theorem isPath_ok (p : CyclicProof) (xs : List Int) (hp : p.Calls.length ≤ 1000) (hx : xs.length ≤ 1048576) : impl_isPath p xs = some (pathP p xs) := by
  unfold impl_isPath pathP
  have w : IntKind.i64.wrap ((p.Calls.length : Int) - (1 : Int)) = (p.Calls.length : Int) - 1 := by rw [wrap64] <;> omega
  rw [w, show decide ((xs.length : Int) ≤ 200) = decide (xs.length ≤ 200) from decide_eq_decide.2 (by omega)]
  rw [forN_all (pathC p xs) (r0 := false) (fun j hj hk => ?_)]
  · cases (List.range xs.length).all (pathC p xs) <;> rfl
  rw [idx_getD hj, Option.bind_some, within_eq, Option.bind_some]
  unfold pathC
  cases hin : inR (xs.getD j default) 0 ((p.Calls.length : Int) - 1)
  · rfl
  · have hin' := inR_iff.1 hin
    by_cases h0 : j = 0
    · subst h0; rfl
    · have hpr := pathC_in (hk (j - 1) (by omega))
      rw [cond_true, decide_eq_true (show (0 : Int) < (j : Int) by omega), cond_true, idx_pred hj (by omega) (by omega), Option.bind_some, idx_int hpr.1 hpr.2, Option.bind_some, idx_int hin'.1 (by omega), Option.bind_some, decide_eq_false h0, Bool.false_or, Bool.true_and]
      cases decide ((p.Calls.getD (xs.getD (j - 1) default).toNat default).Target = (p.Calls.getD (xs.getD j default).toNat default).Source) <;> rfl
theorem l24Path_ok (p : CyclicProof) (xs : List Int) (hp : p.Calls.length ≤ 1000) (hx : xs.length ≤ 1048576) : spec_l24Path p xs = some (pathP p xs) := by
  unfold spec_l24Path pathP
  have w : IntKind.i64.wrap ((p.Calls.length : Int) - (1 : Int)) = (p.Calls.length : Int) - 1 := by rw [wrap64] <;> omega
  rw [w, show decide ((xs.length : Int) ≤ 200) = decide (xs.length ≤ 200) from decide_eq_decide.2 (by omega)]
  rw [forN_all (fun j => decide (j ≤ 200) && pathC p xs j) (r0 := false) (fun j hj hk => ?_)]
  · by_cases h : xs.length ≤ 200
    · rw [decide_eq_true h, show (List.range xs.length).all (fun j => decide (j ≤ 200) && pathC p xs j) = (List.range xs.length).all (pathC p xs) from by
        rw [Bool.eq_iff_iff, List.all_eq_true, List.all_eq_true]
        refine forall_congr' fun j => imp_congr_right fun hj => ?_
        rw [List.mem_range] at hj
        rw [decide_eq_true (show j ≤ 200 by omega), Bool.true_and]]
      cases (List.range xs.length).all (pathC p xs) <;> rfl
    · rw [decide_eq_false h, Bool.and_false]
      cases (List.range xs.length).all (fun j => decide (j ≤ 200) && pathC p xs j) <;> rfl
  by_cases h2 : j ≤ 200
  · rw [decide_eq_true h2, decide_eq_true (show (j : Int) ≤ 200 by omega), cond_true, Bool.true_and, idx_getD hj, Option.bind_some, l1In_eq, Option.bind_some]
    unfold pathC
    cases hin : inR (xs.getD j default) 0 ((p.Calls.length : Int) - 1)
    · rfl
    · have hin' := inR_iff.1 hin
      by_cases h0 : j = 0
      · subst h0; rfl
      · have hk' := hk (j - 1) (by omega)
        rw [Bool.and_eq_true] at hk'
        have hpr := pathC_in hk'.2
        rw [cond_true, decide_eq_true (show (0 : Int) < (j : Int) by omega), cond_true, idx_pred hj (by omega) (by omega), Option.bind_some, idx_int hpr.1 hpr.2, Option.bind_some, Option.bind_some, idx_int hin'.1 (by omega), Option.bind_some, decide_eq_false h0, Bool.false_or, Bool.true_and]
        cases decide ((p.Calls.getD (xs.getD (j - 1) default).toNat default).Target = (p.Calls.getD (xs.getD j default).toNat default).Source) <;> rfl
  · rw [decide_eq_false h2, decide_eq_false (show ¬ (j : Int) ≤ 200 by omega), cond_false, decide_eq_false (show ¬ xs.length ≤ 200 by omega)]; rfl
theorem valid_calls {p : CyclicProof} (h : validP p = true) : p.Calls.length ≤ 12 ∧ ∀ g ∈ p.Calls, validG g = true := by
  unfold validP at h
  simp only [Bool.and_eq_true, decide_eq_true_iff, List.all_eq_true] at h
  refine ⟨h.1.1.2, fun g hg => ?_⟩
  have := h.2 g hg
  unfold callOk at this
  simp only [Bool.and_eq_true] at this
  first | exact this.1 | exact this.1.1 | exact this.1.1.1 | exact this.1.1.1.1
end Go.Proofs.Ytheihimhijkekaa
