/- A part of the proof: lemmas only; nothing is claimed here beyond what each lemma says. -/
import Derived.Test.YtfggcaohidajkaaGm
import Derived.Test.YtfggcaohidajkaaGf
set_option linter.unusedSimpArgs false
set_option linter.unusedVariables false
set_option linter.defProp false
set_option maxRecDepth 4000
namespace Go.Proofs.Ytfggcaohidajkaa
open Go.Av
def fx75 := And.intro @ty_3 <| And.intro @zc_3 <| And.intro @z_3 <| And.intro @ty_9 <| And.intro @zc_9 <| And.intro @z_9 <| And.intro @u_9 <| And.intro @ty_49 <| And.intro @zc_49 <| And.intro @z_49 <| And.intro @es_49 <| And.intro @eb_49 <| And.intro @sl_49 <| And.intro @is_49 <| And.intro @el_49 <| And.intro @ze_49 <| @ez_49
set_option maxHeartbeats 4000000 in
theorem szStringS_sat {a0 : List ByteArray} {a1 : Int}  {r : Int} (h : szStringS a0 a1 = some r) : Sat Try.prog 75 [(.sl false 1 (a0.map Sx)), (I a1)] (I r) := by
  replace h := Run.of h
  unfold szStringS at h
  refine Sat.of_m (nt := 28) (rs := [.tmp 4]) (n := 100000) Try.func75 rfl rfl rfl rfl (by simp) ?_
  simp -dsimp -implicitDefEqProofs -failIfUnchanged only [↓RA, RB, RS, fx75, cast0, cast1, cast2, implies_true, Nat.reduceLT, Nat.reduceAdd, Nat.reduceMul, Nat.reduceEqDiff, reduceIte, Nat.reduceBEq, Nat.reduceLeDiff, Nat.reduceSub, Int.reduceToNat]
  refine CondH.mk (fun c1 => ?_) (fun c1 => ?_)
  · replace h := run_t c1 h
    simp -dsimp -implicitDefEqProofs -failIfUnchanged only [↓RA, RB, RS, fx75, cast0, cast1, cast2, implies_true, Nat.reduceLT, Nat.reduceAdd, Nat.reduceMul, Nat.reduceEqDiff, reduceIte, Nat.reduceBEq, Nat.reduceLeDiff, Nat.reduceSub, Int.reduceToNat, c1]
    have h := run_some h
    obtain rfl : _ = r := h
    refine FinH.l ?_
    simp -dsimp -implicitDefEqProofs -failIfUnchanged only [↓RA, RB, RS, fx75, cast0, cast1, cast2, implies_true, Nat.reduceLT, Nat.reduceAdd, Nat.reduceMul, Nat.reduceEqDiff, reduceIte, Nat.reduceBEq, Nat.reduceLeDiff, Nat.reduceSub, Int.reduceToNat]
  · replace h := run_f c1 h
    simp -dsimp -implicitDefEqProofs -failIfUnchanged only [↓RA, RB, RS, fx75, cast0, cast1, cast2, implies_true, Nat.reduceLT, Nat.reduceAdd, Nat.reduceMul, Nat.reduceEqDiff, reduceIte, Nat.reduceBEq, Nat.reduceLeDiff, Nat.reduceSub, Int.reduceToNat, c1]
    refine Mg.know_sl (b := false) (sz := 1) (es := a0.map Sx) 0 (by simp -dsimp -implicitDefEqProofs -failIfUnchanged only [↓RA, RB, RS, fx75, cast0, cast1, cast2, implies_true, Nat.reduceLT, Nat.reduceAdd, Nat.reduceMul, Nat.reduceEqDiff, reduceIte, Nat.reduceBEq, Nat.reduceLeDiff, Nat.reduceSub, Int.reduceToNat, c1]) fun hl0 => ?_; rw [List.length_map] at hl0
    replace h := run_loop h
    refine Mg.forN h (fun i5 s5 => [(0, .val (.pv (.sl false 1 (a0.map Sx)))), (1, .val (.pv (I s5))), (5, .val (.pv (I (i5 : Int))))]) (fun i5 s5 => []) (St.le_mk (by simp -dsimp -implicitDefEqProofs -failIfUnchanged only [↓RA, RB, RS, fx75, cast0, cast1, cast2, implies_true, Nat.reduceLT, Nat.reduceAdd, Nat.reduceMul, Nat.reduceEqDiff, reduceIte, Nat.reduceBEq, Nat.reduceLeDiff, Nat.reduceSub, Int.reduceToNat, c1]) (by simp -dsimp -implicitDefEqProofs -failIfUnchanged only [↓RA, RB, RS, fx75, cast0, cast1, cast2, implies_true, Nat.reduceLT, Nat.reduceAdd, Nat.reduceMul, Nat.reduceEqDiff, reduceIte, Nat.reduceBEq, Nat.reduceLeDiff, Nat.reduceSub, Int.reduceToNat, c1])) (fun i5 s5 hi h => ?_) (fun s5 h => ?_)
    · have w5 := wrap_succ (i := i5) (by omega)
      simp -dsimp -implicitDefEqProofs -failIfUnchanged only [↓RA, RB, RS, fx75, cast0, cast1, cast2, implies_true, Nat.reduceLT, Nat.reduceAdd, Nat.reduceMul, Nat.reduceEqDiff, reduceIte, Nat.reduceBEq, Nat.reduceLeDiff, Nat.reduceSub, Int.reduceToNat, c1]
      refine CondH.tt (decide_eq_true (by omega)) (fun c2 => ?_)
      simp -dsimp -implicitDefEqProofs -failIfUnchanged only [↓RA, RB, RS, fx75, cast0, cast1, cast2, implies_true, Nat.reduceLT, Nat.reduceAdd, Nat.reduceMul, Nat.reduceEqDiff, reduceIte, Nat.reduceBEq, Nat.reduceLeDiff, Nat.reduceSub, Int.reduceToNat, c1, c2]
      obtain ⟨v21, hv21, h⟩ := run_bind h
      refine IdxH.mk (f := Sx) hv21 (by simp -dsimp -implicitDefEqProofs -failIfUnchanged only [↓RA, RB, RS, fx75, cast0, cast1, cast2, implies_true, Nat.reduceLT, Nat.reduceAdd, Nat.reduceMul, Nat.reduceEqDiff, reduceIte, Nat.reduceBEq, Nat.reduceLeDiff, Nat.reduceSub, Int.reduceToNat, c1, c2]) ?_
      simp -dsimp -implicitDefEqProofs -failIfUnchanged only [↓RA, RB, RS, fx75, cast0, cast1, cast2, implies_true, Nat.reduceLT, Nat.reduceAdd, Nat.reduceMul, Nat.reduceEqDiff, reduceIte, Nat.reduceBEq, Nat.reduceLeDiff, Nat.reduceSub, Int.reduceToNat, c1, c2]
      refine CondH.mk (fun c3 => ?_) (fun c3 => ?_)
      · replace h := run_t c3 h
        simp -dsimp -implicitDefEqProofs -failIfUnchanged only [↓RA, RB, RS, fx75, cast0, cast1, cast2, implies_true, Nat.reduceLT, Nat.reduceAdd, Nat.reduceMul, Nat.reduceEqDiff, reduceIte, Nat.reduceBEq, Nat.reduceLeDiff, Nat.reduceSub, Int.reduceToNat, c1, c2, c3]
        have h := run_some h
        obtain rfl : _ = r := h
        refine FinH.l ?_
        simp -dsimp -implicitDefEqProofs -failIfUnchanged only [↓RA, RB, RS, fx75, cast0, cast1, cast2, implies_true, Nat.reduceLT, Nat.reduceAdd, Nat.reduceMul, Nat.reduceEqDiff, reduceIte, Nat.reduceBEq, Nat.reduceLeDiff, Nat.reduceSub, Int.reduceToNat]
      · replace h := run_f c3 h
        simp -dsimp -implicitDefEqProofs -failIfUnchanged only [↓RA, RB, RS, fx75, cast0, cast1, cast2, implies_true, Nat.reduceLT, Nat.reduceAdd, Nat.reduceMul, Nat.reduceEqDiff, reduceIte, Nat.reduceBEq, Nat.reduceLeDiff, Nat.reduceSub, Int.reduceToNat, c1, c2, c3]
        have h := run_some h
        refine RdH.mk ⟨_, h, ?_⟩
        refine St.le_mk ?_ ?_
        · simp -dsimp -implicitDefEqProofs -failIfUnchanged only [↓RA, RB, RS, fx75, cast0, cast1, cast2, implies_true, Nat.reduceLT, Nat.reduceAdd, Nat.reduceMul, Nat.reduceEqDiff, reduceIte, Nat.reduceBEq, Nat.reduceLeDiff, Nat.reduceSub, Int.reduceToNat, c1, c2, c3, w5]
        · simp -dsimp -implicitDefEqProofs -failIfUnchanged only [↓RA, RB, RS, fx75, cast0, cast1, cast2, implies_true, Nat.reduceLT, Nat.reduceAdd, Nat.reduceMul, Nat.reduceEqDiff, reduceIte, Nat.reduceBEq, Nat.reduceLeDiff, Nat.reduceSub, Int.reduceToNat, c1, c2, c3, w5]
    · simp -dsimp -implicitDefEqProofs -failIfUnchanged only [↓RA, RB, RS, fx75, cast0, cast1, cast2, implies_true, Nat.reduceLT, Nat.reduceAdd, Nat.reduceMul, Nat.reduceEqDiff, reduceIte, Nat.reduceBEq, Nat.reduceLeDiff, Nat.reduceSub, Int.reduceToNat, c1]
      refine CondH.ff (decide_eq_false (by omega)) (fun c4 => ?_)
      simp -dsimp -implicitDefEqProofs -failIfUnchanged only [↓RA, RB, RS, fx75, cast0, cast1, cast2, implies_true, Nat.reduceLT, Nat.reduceAdd, Nat.reduceMul, Nat.reduceEqDiff, reduceIte, Nat.reduceBEq, Nat.reduceLeDiff, Nat.reduceSub, Int.reduceToNat, c1, c4]
      have h := run_some h
      obtain rfl : _ = r := h
      refine FinH.l ?_
      simp -dsimp -implicitDefEqProofs -failIfUnchanged only [↓RA, RB, RS, fx75, cast0, cast1, cast2, implies_true, Nat.reduceLT, Nat.reduceAdd, Nat.reduceMul, Nat.reduceEqDiff, reduceIte, Nat.reduceBEq, Nat.reduceLeDiff, Nat.reduceSub, Int.reduceToNat]

def fx76 := And.intro @ty_3 <| And.intro @zc_3 <| And.intro @z_3 <| And.intro @ty_50 <| And.intro @zc_50 <| And.intro @z_50 <| And.intro @es_50 <| And.intro @eb_50 <| And.intro @sl_50 <| And.intro @is_50 <| And.intro @el_50 <| And.intro @ze_50 <| @ez_50
set_option maxHeartbeats 4000000 in
theorem szIntS_sat {a0 : List Int} {a1 : Int}  {r : Int} (h : szIntS a0 a1 = some r) : Sat Try.prog 76 [(.sl false 1 (a0.map I)), (I a1)] (I r) := by
  replace h := Run.of h
  unfold szIntS at h
  refine Sat.of_m (nt := 12) (rs := [.tmp 4]) (n := 100000) Try.func76 rfl rfl rfl rfl (by simp) ?_
  simp -dsimp -implicitDefEqProofs -failIfUnchanged only [↓RA, RB, RS, fx76, cast0, cast1, cast2, implies_true, Nat.reduceLT, Nat.reduceAdd, Nat.reduceMul, Nat.reduceEqDiff, reduceIte, Nat.reduceBEq, Nat.reduceLeDiff, Nat.reduceSub, Int.reduceToNat]
  refine CondH.mk (fun c1 => ?_) (fun c1 => ?_)
  · replace h := run_t c1 h
    simp -dsimp -implicitDefEqProofs -failIfUnchanged only [↓RA, RB, RS, fx76, cast0, cast1, cast2, implies_true, Nat.reduceLT, Nat.reduceAdd, Nat.reduceMul, Nat.reduceEqDiff, reduceIte, Nat.reduceBEq, Nat.reduceLeDiff, Nat.reduceSub, Int.reduceToNat, c1]
    have h := run_some h
    obtain rfl : _ = r := h
    refine FinH.l ?_
    simp -dsimp -implicitDefEqProofs -failIfUnchanged only [↓RA, RB, RS, fx76, cast0, cast1, cast2, implies_true, Nat.reduceLT, Nat.reduceAdd, Nat.reduceMul, Nat.reduceEqDiff, reduceIte, Nat.reduceBEq, Nat.reduceLeDiff, Nat.reduceSub, Int.reduceToNat]
  · replace h := run_f c1 h
    simp -dsimp -implicitDefEqProofs -failIfUnchanged only [↓RA, RB, RS, fx76, cast0, cast1, cast2, implies_true, Nat.reduceLT, Nat.reduceAdd, Nat.reduceMul, Nat.reduceEqDiff, reduceIte, Nat.reduceBEq, Nat.reduceLeDiff, Nat.reduceSub, Int.reduceToNat, c1]
    have h := run_some h
    obtain rfl : _ = r := h
    refine FinH.l ?_
    simp -dsimp -implicitDefEqProofs -failIfUnchanged only [↓RA, RB, RS, fx76, cast0, cast1, cast2, implies_true, Nat.reduceLT, Nat.reduceAdd, Nat.reduceMul, Nat.reduceEqDiff, reduceIte, Nat.reduceBEq, Nat.reduceLeDiff, Nat.reduceSub, Int.reduceToNat]

def fx28 := And.intro @ty_3 <| And.intro @zc_3 <| And.intro @z_3 <| And.intro @ty_49 <| And.intro @zc_49 <| And.intro @z_49 <| And.intro @es_49 <| And.intro @eb_49 <| And.intro @sl_49 <| And.intro @is_49 <| And.intro @el_49 <| And.intro @ze_49 <| And.intro @ez_49 <| And.intro @ty_50 <| And.intro @zc_50 <| And.intro @z_50 <| And.intro @es_50 <| And.intro @eb_50 <| And.intro @sl_50 <| And.intro @is_50 <| And.intro @el_50 <| And.intro @ze_50 <| And.intro @ez_50 <| And.intro @ty_52 <| And.intro @zc_52 <| And.intro @z_52 <| And.intro @fo_52_0 <| And.intro @fi_52_0 <| And.intro @ft_52_0 <| And.intro @fo_52_1 <| And.intro @fi_52_1 <| And.intro @ft_52_1 <| And.intro @fo_52_2 <| And.intro @fi_52_2 <| And.intro @ft_52_2 <| @lay_52
set_option maxHeartbeats 4000000 in
theorem szLinear_sat {a0 : Linear} {a1 : Int}  {r : Int} (h : szLinear a0 a1 = some r) : Sat Try.prog 28 [((Linear.pv false) a0), (I a1)] (I r) := by
  replace h := Run.of h
  unfold szLinear at h
  refine Sat.of_m (nt := 18) (rs := [.tmp 4]) (n := 100000) Try.func28 rfl rfl rfl rfl (by simp) ?_
  simp -dsimp -implicitDefEqProofs -failIfUnchanged only [↓RA, RB, RS, fx28, cast0, cast1, cast2, implies_true, Nat.reduceLT, Nat.reduceAdd, Nat.reduceMul, Nat.reduceEqDiff, reduceIte, Nat.reduceBEq, Nat.reduceLeDiff, Nat.reduceSub, Int.reduceToNat]
  repeat (first | with_reducible refine noR_and (by repeat (first | exact noR_empty _ _ | exact noR_nilS _ _ | refine noR_mk _ _ _ _ _ rfl ?_ | refine noR_mkS _ _ _ _ _ rfl ?_)) ?_ | with_reducible refine noC_and (by repeat (first | exact noC_empty _ _ (by simp -dsimp -implicitDefEqProofs -failIfUnchanged only [↓RA, RB, RS, fx28, cast0, cast1, cast2, implies_true, Nat.reduceLT, Nat.reduceAdd, Nat.reduceMul, Nat.reduceEqDiff, reduceIte, Nat.reduceBEq, Nat.reduceLeDiff, Nat.reduceSub, Int.reduceToNat]) | exact noC_nilS _ _ (by simp -dsimp -implicitDefEqProofs -failIfUnchanged only [↓RA, RB, RS, fx28, cast0, cast1, cast2, implies_true, Nat.reduceLT, Nat.reduceAdd, Nat.reduceMul, Nat.reduceEqDiff, reduceIte, Nat.reduceBEq, Nat.reduceLeDiff, Nat.reduceSub, Int.reduceToNat]) | refine noC_mk _ _ _ _ _ rfl ?_ | refine noC_mkS _ _ _ _ _ rfl ?_)) ?_ | with_reducible refine and_ac ?_ | with_reducible refine And.intro (a := _ = List.range _) (by rfl) ?_)
  obtain ⟨v8, hv8, h⟩ := run_bind h
  refine CallH.mk [false, false] (szStringS_sat hv8) (by simp -dsimp -implicitDefEqProofs -failIfUnchanged only [↓RA, RB, RS, fx28, cast0, cast1, cast2, implies_true, Nat.reduceLT, Nat.reduceAdd, Nat.reduceMul, Nat.reduceEqDiff, reduceIte, Nat.reduceBEq, Nat.reduceLeDiff, Nat.reduceSub, Int.reduceToNat]) ?_
  simp -dsimp -implicitDefEqProofs -failIfUnchanged only [↓RA, RB, RS, fx28, cast0, cast1, cast2, implies_true, Nat.reduceLT, Nat.reduceAdd, Nat.reduceMul, Nat.reduceEqDiff, reduceIte, Nat.reduceBEq, Nat.reduceLeDiff, Nat.reduceSub, Int.reduceToNat]
  refine CondH.mk (fun c1 => ?_) (fun c1 => ?_)
  · replace h := run_t c1 h
    simp -dsimp -implicitDefEqProofs -failIfUnchanged only [↓RA, RB, RS, fx28, cast0, cast1, cast2, implies_true, Nat.reduceLT, Nat.reduceAdd, Nat.reduceMul, Nat.reduceEqDiff, reduceIte, Nat.reduceBEq, Nat.reduceLeDiff, Nat.reduceSub, Int.reduceToNat, c1]
    have h := run_some h
    obtain rfl : _ = r := h
    refine FinH.l ?_
    simp -dsimp -implicitDefEqProofs -failIfUnchanged only [↓RA, RB, RS, fx28, cast0, cast1, cast2, implies_true, Nat.reduceLT, Nat.reduceAdd, Nat.reduceMul, Nat.reduceEqDiff, reduceIte, Nat.reduceBEq, Nat.reduceLeDiff, Nat.reduceSub, Int.reduceToNat]
  · replace h := run_f c1 h
    simp -dsimp -implicitDefEqProofs -failIfUnchanged only [↓RA, RB, RS, fx28, cast0, cast1, cast2, implies_true, Nat.reduceLT, Nat.reduceAdd, Nat.reduceMul, Nat.reduceEqDiff, reduceIte, Nat.reduceBEq, Nat.reduceLeDiff, Nat.reduceSub, Int.reduceToNat, c1]
    obtain ⟨v14, hv14, h⟩ := run_bind h
    refine CallH.mk [false, false] (szIntS_sat hv14) (by simp -dsimp -implicitDefEqProofs -failIfUnchanged only [↓RA, RB, RS, fx28, cast0, cast1, cast2, implies_true, Nat.reduceLT, Nat.reduceAdd, Nat.reduceMul, Nat.reduceEqDiff, reduceIte, Nat.reduceBEq, Nat.reduceLeDiff, Nat.reduceSub, Int.reduceToNat, c1]) ?_
    simp -dsimp -implicitDefEqProofs -failIfUnchanged only [↓RA, RB, RS, fx28, cast0, cast1, cast2, implies_true, Nat.reduceLT, Nat.reduceAdd, Nat.reduceMul, Nat.reduceEqDiff, reduceIte, Nat.reduceBEq, Nat.reduceLeDiff, Nat.reduceSub, Int.reduceToNat, c1]
    refine CondH.mk (fun c2 => ?_) (fun c2 => ?_)
    · replace h := run_t c2 h
      simp -dsimp -implicitDefEqProofs -failIfUnchanged only [↓RA, RB, RS, fx28, cast0, cast1, cast2, implies_true, Nat.reduceLT, Nat.reduceAdd, Nat.reduceMul, Nat.reduceEqDiff, reduceIte, Nat.reduceBEq, Nat.reduceLeDiff, Nat.reduceSub, Int.reduceToNat, c1, c2]
      have h := run_some h
      obtain rfl : _ = r := h
      refine FinH.l ?_
      simp -dsimp -implicitDefEqProofs -failIfUnchanged only [↓RA, RB, RS, fx28, cast0, cast1, cast2, implies_true, Nat.reduceLT, Nat.reduceAdd, Nat.reduceMul, Nat.reduceEqDiff, reduceIte, Nat.reduceBEq, Nat.reduceLeDiff, Nat.reduceSub, Int.reduceToNat]
    · replace h := run_f c2 h
      simp -dsimp -implicitDefEqProofs -failIfUnchanged only [↓RA, RB, RS, fx28, cast0, cast1, cast2, implies_true, Nat.reduceLT, Nat.reduceAdd, Nat.reduceMul, Nat.reduceEqDiff, reduceIte, Nat.reduceBEq, Nat.reduceLeDiff, Nat.reduceSub, Int.reduceToNat, c1, c2]
      have h := run_some h
      obtain rfl : _ = r := h
      refine FinH.l ?_
      simp -dsimp -implicitDefEqProofs -failIfUnchanged only [↓RA, RB, RS, fx28, cast0, cast1, cast2, implies_true, Nat.reduceLT, Nat.reduceAdd, Nat.reduceMul, Nat.reduceEqDiff, reduceIte, Nat.reduceBEq, Nat.reduceLeDiff, Nat.reduceSub, Int.reduceToNat]

def fx78 := And.intro @ty_3 <| And.intro @zc_3 <| And.intro @z_3 <| And.intro @ty_9 <| And.intro @zc_9 <| And.intro @z_9 <| And.intro @u_9 <| And.intro @ty_49 <| And.intro @zc_49 <| And.intro @z_49 <| And.intro @es_49 <| And.intro @eb_49 <| And.intro @sl_49 <| And.intro @is_49 <| And.intro @el_49 <| And.intro @ze_49 <| @ez_49
set_option maxHeartbeats 4000000 in
theorem toStringS_sat {a0 : List ByteArray}  {r : List ByteArray} (h : toStringS a0 = some r) : Sat Try.prog 78 [(.sl false 1 (a0.map Sx))] (.sl true 1 (r.map Sx)) := by
  replace h := Run.of h
  unfold toStringS at h
  refine Sat.of_m (nt := 22) (rs := [.tmp 2]) (n := 100000) Try.func78 rfl rfl rfl rfl (by simp) ?_
  simp -dsimp -implicitDefEqProofs -failIfUnchanged only [↓RA, RB, RS, fx78, cast0, cast1, cast2, implies_true, Nat.reduceLT, Nat.reduceAdd, Nat.reduceMul, Nat.reduceEqDiff, reduceIte, Nat.reduceBEq, Nat.reduceLeDiff, Nat.reduceSub, Int.reduceToNat]
  obtain ⟨n7, hn7, h⟩ := run_bind h
  refine MknH.mk hn7 ?_
  simp -dsimp -implicitDefEqProofs -failIfUnchanged only [↓RA, RB, RS, fx78, cast0, cast1, cast2, implies_true, Nat.reduceLT, Nat.reduceAdd, Nat.reduceMul, Nat.reduceEqDiff, reduceIte, Nat.reduceBEq, Nat.reduceLeDiff, Nat.reduceSub, Int.reduceToNat]
  repeat (first | with_reducible refine noR_and (by repeat (first | exact noR_empty _ _ | exact noR_nilS _ _ | refine noR_mk _ _ _ _ _ rfl ?_ | refine noR_mkS _ _ _ _ _ rfl ?_)) ?_ | with_reducible refine noC_and (by repeat (first | exact noC_empty _ _ (by simp -dsimp -implicitDefEqProofs -failIfUnchanged only [↓RA, RB, RS, fx78, cast0, cast1, cast2, implies_true, Nat.reduceLT, Nat.reduceAdd, Nat.reduceMul, Nat.reduceEqDiff, reduceIte, Nat.reduceBEq, Nat.reduceLeDiff, Nat.reduceSub, Int.reduceToNat]) | exact noC_nilS _ _ (by simp -dsimp -implicitDefEqProofs -failIfUnchanged only [↓RA, RB, RS, fx78, cast0, cast1, cast2, implies_true, Nat.reduceLT, Nat.reduceAdd, Nat.reduceMul, Nat.reduceEqDiff, reduceIte, Nat.reduceBEq, Nat.reduceLeDiff, Nat.reduceSub, Int.reduceToNat]) | refine noC_mk _ _ _ _ _ rfl ?_ | refine noC_mkS _ _ _ _ _ rfl ?_)) ?_ | with_reducible refine and_ac ?_ | with_reducible refine And.intro (a := _ = List.range _) (by rfl) ?_)
  refine Mg.know_sl (b := false) (sz := 1) (es := a0.map Sx) 0 (by simp -dsimp -implicitDefEqProofs -failIfUnchanged only [↓RA, RB, RS, fx78, cast0, cast1, cast2, implies_true, Nat.reduceLT, Nat.reduceAdd, Nat.reduceMul, Nat.reduceEqDiff, reduceIte, Nat.reduceBEq, Nat.reduceLeDiff, Nat.reduceSub, Int.reduceToNat]) fun hl0 => ?_; rw [List.length_map] at hl0
  replace h := run_loop h
  refine Mg.forN h (fun i3 s3 => [(0, .val (.pv (.sl false 1 (a0.map Sx)))), (3, .val (.own 112)), (4, .val (.pv (I (i3 : Int))))]) (fun i3 s3 => [(112, (1, s3.map Sx))]) (St.le_mk (by simp -dsimp -implicitDefEqProofs -failIfUnchanged only [↓RA, RB, RS, fx78, cast0, cast1, cast2, implies_true, Nat.reduceLT, Nat.reduceAdd, Nat.reduceMul, Nat.reduceEqDiff, reduceIte, Nat.reduceBEq, Nat.reduceLeDiff, Nat.reduceSub, Int.reduceToNat]) (by simp -dsimp -implicitDefEqProofs -failIfUnchanged only [↓RA, RB, RS, fx78, cast0, cast1, cast2, implies_true, Nat.reduceLT, Nat.reduceAdd, Nat.reduceMul, Nat.reduceEqDiff, reduceIte, Nat.reduceBEq, Nat.reduceLeDiff, Nat.reduceSub, Int.reduceToNat])) (fun i3 s3 hi h => ?_) (fun s3 h => ?_)
  · have w3 := wrap_succ (i := i3) (by omega)
    simp -dsimp -implicitDefEqProofs -failIfUnchanged only [↓RA, RB, RS, fx78, cast0, cast1, cast2, implies_true, Nat.reduceLT, Nat.reduceAdd, Nat.reduceMul, Nat.reduceEqDiff, reduceIte, Nat.reduceBEq, Nat.reduceLeDiff, Nat.reduceSub, Int.reduceToNat]
    refine CondH.tt (decide_eq_true (by omega)) (fun c1 => ?_)
    simp -dsimp -implicitDefEqProofs -failIfUnchanged only [↓RA, RB, RS, fx78, cast0, cast1, cast2, implies_true, Nat.reduceLT, Nat.reduceAdd, Nat.reduceMul, Nat.reduceEqDiff, reduceIte, Nat.reduceBEq, Nat.reduceLeDiff, Nat.reduceSub, Int.reduceToNat, c1]
    obtain ⟨v18, hv18, h⟩ := run_bind h
    refine IdxH.mk (f := Sx) hv18 (by simp -dsimp -implicitDefEqProofs -failIfUnchanged only [↓RA, RB, RS, fx78, cast0, cast1, cast2, implies_true, Nat.reduceLT, Nat.reduceAdd, Nat.reduceMul, Nat.reduceEqDiff, reduceIte, Nat.reduceBEq, Nat.reduceLeDiff, Nat.reduceSub, Int.reduceToNat, c1]) ?_
    simp -dsimp -implicitDefEqProofs -failIfUnchanged only [↓RA, RB, RS, fx78, cast0, cast1, cast2, implies_true, Nat.reduceLT, Nat.reduceAdd, Nat.reduceMul, Nat.reduceEqDiff, reduceIte, Nat.reduceBEq, Nat.reduceLeDiff, Nat.reduceSub, Int.reduceToNat, c1]
    obtain ⟨v20, hv20, h⟩ := run_bind h
    refine IdxH.mk (f := Sx) hv20 (by simp -dsimp -implicitDefEqProofs -failIfUnchanged only [↓RA, RB, RS, fx78, cast0, cast1, cast2, implies_true, Nat.reduceLT, Nat.reduceAdd, Nat.reduceMul, Nat.reduceEqDiff, reduceIte, Nat.reduceBEq, Nat.reduceLeDiff, Nat.reduceSub, Int.reduceToNat, c1]) ?_
    simp -dsimp -implicitDefEqProofs -failIfUnchanged only [↓RA, RB, RS, fx78, cast0, cast1, cast2, implies_true, Nat.reduceLT, Nat.reduceAdd, Nat.reduceMul, Nat.reduceEqDiff, reduceIte, Nat.reduceBEq, Nat.reduceLeDiff, Nat.reduceSub, Int.reduceToNat, c1]
    obtain ⟨w2, hw2, h⟩ := run_bind h
    refine EldH.mk (f := Sx) hw2 rfl (by simp -dsimp -implicitDefEqProofs -failIfUnchanged only [↓RA, RB, RS, fx78, cast0, cast1, cast2, implies_true, Nat.reduceLT, Nat.reduceAdd, Nat.reduceMul, Nat.reduceEqDiff, reduceIte, Nat.reduceBEq, Nat.reduceLeDiff, Nat.reduceSub, Int.reduceToNat, c1]) ?_
    simp -dsimp -implicitDefEqProofs -failIfUnchanged only [↓RA, RB, RS, fx78, cast0, cast1, cast2, implies_true, Nat.reduceLT, Nat.reduceAdd, Nat.reduceMul, Nat.reduceEqDiff, reduceIte, Nat.reduceBEq, Nat.reduceLeDiff, Nat.reduceSub, Int.reduceToNat, c1]
    have h := run_some h
    refine RdH.mk ⟨_, h, ?_⟩
    refine St.le_mk ?_ ?_
    · simp -dsimp -implicitDefEqProofs -failIfUnchanged only [↓RA, RB, RS, fx78, cast0, cast1, cast2, implies_true, Nat.reduceLT, Nat.reduceAdd, Nat.reduceMul, Nat.reduceEqDiff, reduceIte, Nat.reduceBEq, Nat.reduceLeDiff, Nat.reduceSub, Int.reduceToNat, c1, w3]
    · simp -dsimp -implicitDefEqProofs -failIfUnchanged only [↓RA, RB, RS, fx78, cast0, cast1, cast2, implies_true, Nat.reduceLT, Nat.reduceAdd, Nat.reduceMul, Nat.reduceEqDiff, reduceIte, Nat.reduceBEq, Nat.reduceLeDiff, Nat.reduceSub, Int.reduceToNat, c1, w3]
  · simp -dsimp -implicitDefEqProofs -failIfUnchanged only [↓RA, RB, RS, fx78, cast0, cast1, cast2, implies_true, Nat.reduceLT, Nat.reduceAdd, Nat.reduceMul, Nat.reduceEqDiff, reduceIte, Nat.reduceBEq, Nat.reduceLeDiff, Nat.reduceSub, Int.reduceToNat]
    refine CondH.ff (decide_eq_false (by omega)) (fun c3 => ?_)
    simp -dsimp -implicitDefEqProofs -failIfUnchanged only [↓RA, RB, RS, fx78, cast0, cast1, cast2, implies_true, Nat.reduceLT, Nat.reduceAdd, Nat.reduceMul, Nat.reduceEqDiff, reduceIte, Nat.reduceBEq, Nat.reduceLeDiff, Nat.reduceSub, Int.reduceToNat, c3]
    have h := run_some h
    obtain rfl : _ = r := h
    refine FinH.l ?_
    simp -dsimp -implicitDefEqProofs -failIfUnchanged only [↓RA, RB, RS, fx78, cast0, cast1, cast2, implies_true, Nat.reduceLT, Nat.reduceAdd, Nat.reduceMul, Nat.reduceEqDiff, reduceIte, Nat.reduceBEq, Nat.reduceLeDiff, Nat.reduceSub, Int.reduceToNat]

def fx34 := And.intro @ty_3 <| And.intro @zc_3 <| And.intro @z_3 <| And.intro @ty_50 <| And.intro @zc_50 <| And.intro @z_50 <| And.intro @es_50 <| And.intro @eb_50 <| And.intro @sl_50 <| And.intro @is_50 <| And.intro @el_50 <| And.intro @ze_50 <| @ez_50
set_option maxHeartbeats 4000000 in
theorem toIntS_sat {a0 : List Int}  {r : List Int} (h : toIntS a0 = some r) : Sat Try.prog 34 [(.sl false 1 (a0.map I))] (.sl true 1 (r.map I)) := by
  replace h := Run.of h
  unfold toIntS at h
  refine Sat.of_m (nt := 22) (rs := [.tmp 2]) (n := 100000) Try.func34 rfl rfl rfl rfl (by simp) ?_
  simp -dsimp -implicitDefEqProofs -failIfUnchanged only [↓RA, RB, RS, fx34, cast0, cast1, cast2, implies_true, Nat.reduceLT, Nat.reduceAdd, Nat.reduceMul, Nat.reduceEqDiff, reduceIte, Nat.reduceBEq, Nat.reduceLeDiff, Nat.reduceSub, Int.reduceToNat]
  obtain ⟨n7, hn7, h⟩ := run_bind h
  refine MknH.mk hn7 ?_
  simp -dsimp -implicitDefEqProofs -failIfUnchanged only [↓RA, RB, RS, fx34, cast0, cast1, cast2, implies_true, Nat.reduceLT, Nat.reduceAdd, Nat.reduceMul, Nat.reduceEqDiff, reduceIte, Nat.reduceBEq, Nat.reduceLeDiff, Nat.reduceSub, Int.reduceToNat]
  repeat (first | with_reducible refine noR_and (by repeat (first | exact noR_empty _ _ | exact noR_nilS _ _ | refine noR_mk _ _ _ _ _ rfl ?_ | refine noR_mkS _ _ _ _ _ rfl ?_)) ?_ | with_reducible refine noC_and (by repeat (first | exact noC_empty _ _ (by simp -dsimp -implicitDefEqProofs -failIfUnchanged only [↓RA, RB, RS, fx34, cast0, cast1, cast2, implies_true, Nat.reduceLT, Nat.reduceAdd, Nat.reduceMul, Nat.reduceEqDiff, reduceIte, Nat.reduceBEq, Nat.reduceLeDiff, Nat.reduceSub, Int.reduceToNat]) | exact noC_nilS _ _ (by simp -dsimp -implicitDefEqProofs -failIfUnchanged only [↓RA, RB, RS, fx34, cast0, cast1, cast2, implies_true, Nat.reduceLT, Nat.reduceAdd, Nat.reduceMul, Nat.reduceEqDiff, reduceIte, Nat.reduceBEq, Nat.reduceLeDiff, Nat.reduceSub, Int.reduceToNat]) | refine noC_mk _ _ _ _ _ rfl ?_ | refine noC_mkS _ _ _ _ _ rfl ?_)) ?_ | with_reducible refine and_ac ?_ | with_reducible refine And.intro (a := _ = List.range _) (by rfl) ?_)
  refine Mg.know_sl (b := false) (sz := 1) (es := a0.map I) 0 (by simp -dsimp -implicitDefEqProofs -failIfUnchanged only [↓RA, RB, RS, fx34, cast0, cast1, cast2, implies_true, Nat.reduceLT, Nat.reduceAdd, Nat.reduceMul, Nat.reduceEqDiff, reduceIte, Nat.reduceBEq, Nat.reduceLeDiff, Nat.reduceSub, Int.reduceToNat]) fun hl0 => ?_; rw [List.length_map] at hl0
  replace h := run_loop h
  refine Mg.forN h (fun i3 s3 => [(0, .val (.pv (.sl false 1 (a0.map I)))), (3, .val (.own 112)), (4, .val (.pv (I (i3 : Int))))]) (fun i3 s3 => [(112, (1, s3.map I))]) (St.le_mk (by simp -dsimp -implicitDefEqProofs -failIfUnchanged only [↓RA, RB, RS, fx34, cast0, cast1, cast2, implies_true, Nat.reduceLT, Nat.reduceAdd, Nat.reduceMul, Nat.reduceEqDiff, reduceIte, Nat.reduceBEq, Nat.reduceLeDiff, Nat.reduceSub, Int.reduceToNat]) (by simp -dsimp -implicitDefEqProofs -failIfUnchanged only [↓RA, RB, RS, fx34, cast0, cast1, cast2, implies_true, Nat.reduceLT, Nat.reduceAdd, Nat.reduceMul, Nat.reduceEqDiff, reduceIte, Nat.reduceBEq, Nat.reduceLeDiff, Nat.reduceSub, Int.reduceToNat])) (fun i3 s3 hi h => ?_) (fun s3 h => ?_)
  · have w3 := wrap_succ (i := i3) (by omega)
    simp -dsimp -implicitDefEqProofs -failIfUnchanged only [↓RA, RB, RS, fx34, cast0, cast1, cast2, implies_true, Nat.reduceLT, Nat.reduceAdd, Nat.reduceMul, Nat.reduceEqDiff, reduceIte, Nat.reduceBEq, Nat.reduceLeDiff, Nat.reduceSub, Int.reduceToNat]
    refine CondH.tt (decide_eq_true (by omega)) (fun c1 => ?_)
    simp -dsimp -implicitDefEqProofs -failIfUnchanged only [↓RA, RB, RS, fx34, cast0, cast1, cast2, implies_true, Nat.reduceLT, Nat.reduceAdd, Nat.reduceMul, Nat.reduceEqDiff, reduceIte, Nat.reduceBEq, Nat.reduceLeDiff, Nat.reduceSub, Int.reduceToNat, c1]
    obtain ⟨v18, hv18, h⟩ := run_bind h
    refine IdxH.mk (f := I) hv18 (by simp -dsimp -implicitDefEqProofs -failIfUnchanged only [↓RA, RB, RS, fx34, cast0, cast1, cast2, implies_true, Nat.reduceLT, Nat.reduceAdd, Nat.reduceMul, Nat.reduceEqDiff, reduceIte, Nat.reduceBEq, Nat.reduceLeDiff, Nat.reduceSub, Int.reduceToNat, c1]) ?_
    simp -dsimp -implicitDefEqProofs -failIfUnchanged only [↓RA, RB, RS, fx34, cast0, cast1, cast2, implies_true, Nat.reduceLT, Nat.reduceAdd, Nat.reduceMul, Nat.reduceEqDiff, reduceIte, Nat.reduceBEq, Nat.reduceLeDiff, Nat.reduceSub, Int.reduceToNat, c1]
    obtain ⟨v20, hv20, h⟩ := run_bind h
    refine IdxH.mk (f := I) hv20 (by simp -dsimp -implicitDefEqProofs -failIfUnchanged only [↓RA, RB, RS, fx34, cast0, cast1, cast2, implies_true, Nat.reduceLT, Nat.reduceAdd, Nat.reduceMul, Nat.reduceEqDiff, reduceIte, Nat.reduceBEq, Nat.reduceLeDiff, Nat.reduceSub, Int.reduceToNat, c1]) ?_
    simp -dsimp -implicitDefEqProofs -failIfUnchanged only [↓RA, RB, RS, fx34, cast0, cast1, cast2, implies_true, Nat.reduceLT, Nat.reduceAdd, Nat.reduceMul, Nat.reduceEqDiff, reduceIte, Nat.reduceBEq, Nat.reduceLeDiff, Nat.reduceSub, Int.reduceToNat, c1]
    obtain ⟨w2, hw2, h⟩ := run_bind h
    refine EldH.mk (f := I) hw2 rfl (by simp -dsimp -implicitDefEqProofs -failIfUnchanged only [↓RA, RB, RS, fx34, cast0, cast1, cast2, implies_true, Nat.reduceLT, Nat.reduceAdd, Nat.reduceMul, Nat.reduceEqDiff, reduceIte, Nat.reduceBEq, Nat.reduceLeDiff, Nat.reduceSub, Int.reduceToNat, c1]) ?_
    simp -dsimp -implicitDefEqProofs -failIfUnchanged only [↓RA, RB, RS, fx34, cast0, cast1, cast2, implies_true, Nat.reduceLT, Nat.reduceAdd, Nat.reduceMul, Nat.reduceEqDiff, reduceIte, Nat.reduceBEq, Nat.reduceLeDiff, Nat.reduceSub, Int.reduceToNat, c1]
    have h := run_some h
    refine RdH.mk ⟨_, h, ?_⟩
    refine St.le_mk ?_ ?_
    · simp -dsimp -implicitDefEqProofs -failIfUnchanged only [↓RA, RB, RS, fx34, cast0, cast1, cast2, implies_true, Nat.reduceLT, Nat.reduceAdd, Nat.reduceMul, Nat.reduceEqDiff, reduceIte, Nat.reduceBEq, Nat.reduceLeDiff, Nat.reduceSub, Int.reduceToNat, c1, w3]
    · simp -dsimp -implicitDefEqProofs -failIfUnchanged only [↓RA, RB, RS, fx34, cast0, cast1, cast2, implies_true, Nat.reduceLT, Nat.reduceAdd, Nat.reduceMul, Nat.reduceEqDiff, reduceIte, Nat.reduceBEq, Nat.reduceLeDiff, Nat.reduceSub, Int.reduceToNat, c1, w3]
  · simp -dsimp -implicitDefEqProofs -failIfUnchanged only [↓RA, RB, RS, fx34, cast0, cast1, cast2, implies_true, Nat.reduceLT, Nat.reduceAdd, Nat.reduceMul, Nat.reduceEqDiff, reduceIte, Nat.reduceBEq, Nat.reduceLeDiff, Nat.reduceSub, Int.reduceToNat]
    refine CondH.ff (decide_eq_false (by omega)) (fun c3 => ?_)
    simp -dsimp -implicitDefEqProofs -failIfUnchanged only [↓RA, RB, RS, fx34, cast0, cast1, cast2, implies_true, Nat.reduceLT, Nat.reduceAdd, Nat.reduceMul, Nat.reduceEqDiff, reduceIte, Nat.reduceBEq, Nat.reduceLeDiff, Nat.reduceSub, Int.reduceToNat, c3]
    have h := run_some h
    obtain rfl : _ = r := h
    refine FinH.l ?_
    simp -dsimp -implicitDefEqProofs -failIfUnchanged only [↓RA, RB, RS, fx34, cast0, cast1, cast2, implies_true, Nat.reduceLT, Nat.reduceAdd, Nat.reduceMul, Nat.reduceEqDiff, reduceIte, Nat.reduceBEq, Nat.reduceLeDiff, Nat.reduceSub, Int.reduceToNat]

def fx30 := And.intro @ty_3 <| And.intro @zc_3 <| And.intro @z_3 <| And.intro @ty_49 <| And.intro @zc_49 <| And.intro @z_49 <| And.intro @es_49 <| And.intro @eb_49 <| And.intro @sl_49 <| And.intro @is_49 <| And.intro @el_49 <| And.intro @ze_49 <| And.intro @ez_49 <| And.intro @ty_50 <| And.intro @zc_50 <| And.intro @z_50 <| And.intro @es_50 <| And.intro @eb_50 <| And.intro @sl_50 <| And.intro @is_50 <| And.intro @el_50 <| And.intro @ze_50 <| And.intro @ez_50 <| And.intro @ty_52 <| And.intro @zc_52 <| And.intro @z_52 <| And.intro @fo_52_0 <| And.intro @fi_52_0 <| And.intro @ft_52_0 <| And.intro @fo_52_1 <| And.intro @fi_52_1 <| And.intro @ft_52_1 <| And.intro @fo_52_2 <| And.intro @fi_52_2 <| And.intro @ft_52_2 <| And.intro @lay_52 <| And.intro @ty_55 <| And.intro @zc_55 <| And.intro @z_55 <| And.intro @fo_55_0 <| And.intro @fi_55_0 <| And.intro @ft_55_0 <| And.intro @fo_55_1 <| And.intro @fi_55_1 <| And.intro @ft_55_1 <| And.intro @fo_55_2 <| And.intro @fi_55_2 <| And.intro @ft_55_2 <| @lay_55
set_option maxHeartbeats 4000000 in
theorem toLinear_sat {a0 : Linear}  {r : Linear} (h : toLinear a0 = some r) : Sat Try.prog 30 [((Linear.pv false) a0)] ((Linear.pv true) r) := by
  replace h := Run.of h
  unfold toLinear at h
  refine Sat.of_m (nt := 16) (rs := [.cell 2 55]) (n := 100000) Try.func30 rfl rfl rfl rfl (by simp) ?_
  simp -dsimp -implicitDefEqProofs -failIfUnchanged only [↓RA, RB, RS, fx30, cast0, cast1, cast2, implies_true, Nat.reduceLT, Nat.reduceAdd, Nat.reduceMul, Nat.reduceEqDiff, reduceIte, Nat.reduceBEq, Nat.reduceLeDiff, Nat.reduceSub, Int.reduceToNat]
  repeat (first | with_reducible refine noR_and (by repeat (first | exact noR_empty _ _ | exact noR_nilS _ _ | refine noR_mk _ _ _ _ _ rfl ?_ | refine noR_mkS _ _ _ _ _ rfl ?_)) ?_ | with_reducible refine noC_and (by repeat (first | exact noC_empty _ _ (by simp -dsimp -implicitDefEqProofs -failIfUnchanged only [↓RA, RB, RS, fx30, cast0, cast1, cast2, implies_true, Nat.reduceLT, Nat.reduceAdd, Nat.reduceMul, Nat.reduceEqDiff, reduceIte, Nat.reduceBEq, Nat.reduceLeDiff, Nat.reduceSub, Int.reduceToNat]) | exact noC_nilS _ _ (by simp -dsimp -implicitDefEqProofs -failIfUnchanged only [↓RA, RB, RS, fx30, cast0, cast1, cast2, implies_true, Nat.reduceLT, Nat.reduceAdd, Nat.reduceMul, Nat.reduceEqDiff, reduceIte, Nat.reduceBEq, Nat.reduceLeDiff, Nat.reduceSub, Int.reduceToNat]) | refine noC_mk _ _ _ _ _ rfl ?_ | refine noC_mkS _ _ _ _ _ rfl ?_)) ?_ | with_reducible refine and_ac ?_ | with_reducible refine And.intro (a := _ = List.range _) (by rfl) ?_)
  obtain ⟨v6, hv6, h⟩ := run_bind h
  refine CallH.mk [false] (toStringS_sat hv6) (by simp -dsimp -implicitDefEqProofs -failIfUnchanged only [↓RA, RB, RS, fx30, cast0, cast1, cast2, implies_true, Nat.reduceLT, Nat.reduceAdd, Nat.reduceMul, Nat.reduceEqDiff, reduceIte, Nat.reduceBEq, Nat.reduceLeDiff, Nat.reduceSub, Int.reduceToNat]) ?_
  simp -dsimp -implicitDefEqProofs -failIfUnchanged only [↓RA, RB, RS, fx30, cast0, cast1, cast2, implies_true, Nat.reduceLT, Nat.reduceAdd, Nat.reduceMul, Nat.reduceEqDiff, reduceIte, Nat.reduceBEq, Nat.reduceLeDiff, Nat.reduceSub, Int.reduceToNat]
  repeat (first | with_reducible refine noR_and (by repeat (first | exact noR_empty _ _ | exact noR_nilS _ _ | refine noR_mk _ _ _ _ _ rfl ?_ | refine noR_mkS _ _ _ _ _ rfl ?_)) ?_ | with_reducible refine noC_and (by repeat (first | exact noC_empty _ _ (by simp -dsimp -implicitDefEqProofs -failIfUnchanged only [↓RA, RB, RS, fx30, cast0, cast1, cast2, implies_true, Nat.reduceLT, Nat.reduceAdd, Nat.reduceMul, Nat.reduceEqDiff, reduceIte, Nat.reduceBEq, Nat.reduceLeDiff, Nat.reduceSub, Int.reduceToNat]) | exact noC_nilS _ _ (by simp -dsimp -implicitDefEqProofs -failIfUnchanged only [↓RA, RB, RS, fx30, cast0, cast1, cast2, implies_true, Nat.reduceLT, Nat.reduceAdd, Nat.reduceMul, Nat.reduceEqDiff, reduceIte, Nat.reduceBEq, Nat.reduceLeDiff, Nat.reduceSub, Int.reduceToNat]) | refine noC_mk _ _ _ _ _ rfl ?_ | refine noC_mkS _ _ _ _ _ rfl ?_)) ?_ | with_reducible refine and_ac ?_ | with_reducible refine And.intro (a := _ = List.range _) (by rfl) ?_)
  obtain ⟨v10, hv10, h⟩ := run_bind h
  refine CallH.mk [false] (toIntS_sat hv10) (by simp -dsimp -implicitDefEqProofs -failIfUnchanged only [↓RA, RB, RS, fx30, cast0, cast1, cast2, implies_true, Nat.reduceLT, Nat.reduceAdd, Nat.reduceMul, Nat.reduceEqDiff, reduceIte, Nat.reduceBEq, Nat.reduceLeDiff, Nat.reduceSub, Int.reduceToNat]) ?_
  simp -dsimp -implicitDefEqProofs -failIfUnchanged only [↓RA, RB, RS, fx30, cast0, cast1, cast2, implies_true, Nat.reduceLT, Nat.reduceAdd, Nat.reduceMul, Nat.reduceEqDiff, reduceIte, Nat.reduceBEq, Nat.reduceLeDiff, Nat.reduceSub, Int.reduceToNat]
  repeat (first | with_reducible refine noR_and (by repeat (first | exact noR_empty _ _ | exact noR_nilS _ _ | refine noR_mk _ _ _ _ _ rfl ?_ | refine noR_mkS _ _ _ _ _ rfl ?_)) ?_ | with_reducible refine noC_and (by repeat (first | exact noC_empty _ _ (by simp -dsimp -implicitDefEqProofs -failIfUnchanged only [↓RA, RB, RS, fx30, cast0, cast1, cast2, implies_true, Nat.reduceLT, Nat.reduceAdd, Nat.reduceMul, Nat.reduceEqDiff, reduceIte, Nat.reduceBEq, Nat.reduceLeDiff, Nat.reduceSub, Int.reduceToNat]) | exact noC_nilS _ _ (by simp -dsimp -implicitDefEqProofs -failIfUnchanged only [↓RA, RB, RS, fx30, cast0, cast1, cast2, implies_true, Nat.reduceLT, Nat.reduceAdd, Nat.reduceMul, Nat.reduceEqDiff, reduceIte, Nat.reduceBEq, Nat.reduceLeDiff, Nat.reduceSub, Int.reduceToNat]) | refine noC_mk _ _ _ _ _ rfl ?_ | refine noC_mkS _ _ _ _ _ rfl ?_)) ?_ | with_reducible refine and_ac ?_ | with_reducible refine And.intro (a := _ = List.range _) (by rfl) ?_)
  have h := run_some h
  obtain rfl : _ = r := h
  refine FinH.l ?_
  simp -dsimp -implicitDefEqProofs -failIfUnchanged only [↓RA, RB, RS, fx30, cast0, cast1, cast2, implies_true, Nat.reduceLT, Nat.reduceAdd, Nat.reduceMul, Nat.reduceEqDiff, reduceIte, Nat.reduceBEq, Nat.reduceLeDiff, Nat.reduceSub, Int.reduceToNat]

def fx60 := And.intro @ty_3 <| And.intro @zc_3 <| @z_3
set_option maxHeartbeats 4000000 in
theorem spec_l1In_sat {a0 : Int} {a1 : Int} {a2 : Int}  {r : Bool} (h : spec_l1In a0 a1 a2 = some r) : Sat Try.prog 60 [(I a0), (I a1), (I a2)] (B r) := by
  replace h := Run.of h
  unfold spec_l1In at h
  refine Sat.of_m (nt := 15) (rs := [.tmp 6]) (n := 100000) Try.func60 rfl rfl rfl rfl (by simp) ?_
  simp -dsimp -implicitDefEqProofs -failIfUnchanged only [↓RA, RB, RS, fx60, cast0, cast1, cast2, implies_true, Nat.reduceLT, Nat.reduceAdd, Nat.reduceMul, Nat.reduceEqDiff, reduceIte, Nat.reduceBEq, Nat.reduceLeDiff, Nat.reduceSub, Int.reduceToNat]
  refine CondH.mk (fun c1 => ?_) (fun c1 => ?_)
  · replace h := run_t c1 h
    simp -dsimp -implicitDefEqProofs -failIfUnchanged only [↓RA, RB, RS, fx60, cast0, cast1, cast2, implies_true, Nat.reduceLT, Nat.reduceAdd, Nat.reduceMul, Nat.reduceEqDiff, reduceIte, Nat.reduceBEq, Nat.reduceLeDiff, Nat.reduceSub, Int.reduceToNat, c1]
    have h := run_some h
    obtain rfl : _ = r := h
    refine FinH.l ?_
    simp -dsimp -implicitDefEqProofs -failIfUnchanged only [↓RA, RB, RS, fx60, cast0, cast1, cast2, implies_true, Nat.reduceLT, Nat.reduceAdd, Nat.reduceMul, Nat.reduceEqDiff, reduceIte, Nat.reduceBEq, Nat.reduceLeDiff, Nat.reduceSub, Int.reduceToNat]
  · replace h := run_f c1 h
    simp -dsimp -implicitDefEqProofs -failIfUnchanged only [↓RA, RB, RS, fx60, cast0, cast1, cast2, implies_true, Nat.reduceLT, Nat.reduceAdd, Nat.reduceMul, Nat.reduceEqDiff, reduceIte, Nat.reduceBEq, Nat.reduceLeDiff, Nat.reduceSub, Int.reduceToNat, c1]
    have h := run_some h
    obtain rfl : _ = r := h
    refine FinH.l ?_
    simp -dsimp -implicitDefEqProofs -failIfUnchanged only [↓RA, RB, RS, fx60, cast0, cast1, cast2, implies_true, Nat.reduceLT, Nat.reduceAdd, Nat.reduceMul, Nat.reduceEqDiff, reduceIte, Nat.reduceBEq, Nat.reduceLeDiff, Nat.reduceSub, Int.reduceToNat]

def fx138 := And.intro @ty_5 <| And.intro @zc_5 <| @z_5
set_option maxHeartbeats 4000000 in
theorem spec_l2Small_sat {a0 : Int}  {r : Bool} (h : spec_l2Small a0 = some r) : Sat Try.prog 138 [((Ik .u8) a0)] (B r) := by
  replace h := Run.of h
  unfold spec_l2Small at h
  refine Sat.of_m (nt := 17) (rs := [.tmp 2]) (n := 100000) Try.func138 rfl rfl rfl rfl (by simp) ?_
  simp -dsimp -implicitDefEqProofs -failIfUnchanged only [↓RA, RB, RS, fx138, cast0, cast1, cast2, implies_true, Nat.reduceLT, Nat.reduceAdd, Nat.reduceMul, Nat.reduceEqDiff, reduceIte, Nat.reduceBEq, Nat.reduceLeDiff, Nat.reduceSub, Int.reduceToNat]
  refine CondH.mk (fun c1 => ?_) (fun c1 => ?_)
  · replace h := run_t c1 h
    simp -dsimp -implicitDefEqProofs -failIfUnchanged only [↓RA, RB, RS, fx138, cast0, cast1, cast2, implies_true, Nat.reduceLT, Nat.reduceAdd, Nat.reduceMul, Nat.reduceEqDiff, reduceIte, Nat.reduceBEq, Nat.reduceLeDiff, Nat.reduceSub, Int.reduceToNat, c1]
    refine CondH.mk (fun c2 => ?_) (fun c2 => ?_)
    · replace h := run_t c2 h
      simp -dsimp -implicitDefEqProofs -failIfUnchanged only [↓RA, RB, RS, fx138, cast0, cast1, cast2, implies_true, Nat.reduceLT, Nat.reduceAdd, Nat.reduceMul, Nat.reduceEqDiff, reduceIte, Nat.reduceBEq, Nat.reduceLeDiff, Nat.reduceSub, Int.reduceToNat, c1, c2]
      have h := run_some h
      obtain rfl : _ = r := h
      refine FinH.l ?_
      simp -dsimp -implicitDefEqProofs -failIfUnchanged only [↓RA, RB, RS, fx138, cast0, cast1, cast2, implies_true, Nat.reduceLT, Nat.reduceAdd, Nat.reduceMul, Nat.reduceEqDiff, reduceIte, Nat.reduceBEq, Nat.reduceLeDiff, Nat.reduceSub, Int.reduceToNat]
    · replace h := run_f c2 h
      simp -dsimp -implicitDefEqProofs -failIfUnchanged only [↓RA, RB, RS, fx138, cast0, cast1, cast2, implies_true, Nat.reduceLT, Nat.reduceAdd, Nat.reduceMul, Nat.reduceEqDiff, reduceIte, Nat.reduceBEq, Nat.reduceLeDiff, Nat.reduceSub, Int.reduceToNat, c1, c2]
      refine CondH.mk (fun c3 => ?_) (fun c3 => ?_)
      · replace h := run_t c3 h
        simp -dsimp -implicitDefEqProofs -failIfUnchanged only [↓RA, RB, RS, fx138, cast0, cast1, cast2, implies_true, Nat.reduceLT, Nat.reduceAdd, Nat.reduceMul, Nat.reduceEqDiff, reduceIte, Nat.reduceBEq, Nat.reduceLeDiff, Nat.reduceSub, Int.reduceToNat, c1, c2, c3]
        have h := run_some h
        obtain rfl : _ = r := h
        refine FinH.l ?_
        simp -dsimp -implicitDefEqProofs -failIfUnchanged only [↓RA, RB, RS, fx138, cast0, cast1, cast2, implies_true, Nat.reduceLT, Nat.reduceAdd, Nat.reduceMul, Nat.reduceEqDiff, reduceIte, Nat.reduceBEq, Nat.reduceLeDiff, Nat.reduceSub, Int.reduceToNat]
      · replace h := run_f c3 h
        simp -dsimp -implicitDefEqProofs -failIfUnchanged only [↓RA, RB, RS, fx138, cast0, cast1, cast2, implies_true, Nat.reduceLT, Nat.reduceAdd, Nat.reduceMul, Nat.reduceEqDiff, reduceIte, Nat.reduceBEq, Nat.reduceLeDiff, Nat.reduceSub, Int.reduceToNat, c1, c2, c3]
        have h := run_some h
        obtain rfl : _ = r := h
        refine FinH.l ?_
        simp -dsimp -implicitDefEqProofs -failIfUnchanged only [↓RA, RB, RS, fx138, cast0, cast1, cast2, implies_true, Nat.reduceLT, Nat.reduceAdd, Nat.reduceMul, Nat.reduceEqDiff, reduceIte, Nat.reduceBEq, Nat.reduceLeDiff, Nat.reduceSub, Int.reduceToNat]
  · replace h := run_f c1 h
    simp -dsimp -implicitDefEqProofs -failIfUnchanged only [↓RA, RB, RS, fx138, cast0, cast1, cast2, implies_true, Nat.reduceLT, Nat.reduceAdd, Nat.reduceMul, Nat.reduceEqDiff, reduceIte, Nat.reduceBEq, Nat.reduceLeDiff, Nat.reduceSub, Int.reduceToNat, c1]
    refine CondH.mk (fun c4 => ?_) (fun c4 => ?_)
    · replace h := run_t c4 h
      simp -dsimp -implicitDefEqProofs -failIfUnchanged only [↓RA, RB, RS, fx138, cast0, cast1, cast2, implies_true, Nat.reduceLT, Nat.reduceAdd, Nat.reduceMul, Nat.reduceEqDiff, reduceIte, Nat.reduceBEq, Nat.reduceLeDiff, Nat.reduceSub, Int.reduceToNat, c1, c4]
      have h := run_some h
      obtain rfl : _ = r := h
      refine FinH.l ?_
      simp -dsimp -implicitDefEqProofs -failIfUnchanged only [↓RA, RB, RS, fx138, cast0, cast1, cast2, implies_true, Nat.reduceLT, Nat.reduceAdd, Nat.reduceMul, Nat.reduceEqDiff, reduceIte, Nat.reduceBEq, Nat.reduceLeDiff, Nat.reduceSub, Int.reduceToNat]
    · replace h := run_f c4 h
      simp -dsimp -implicitDefEqProofs -failIfUnchanged only [↓RA, RB, RS, fx138, cast0, cast1, cast2, implies_true, Nat.reduceLT, Nat.reduceAdd, Nat.reduceMul, Nat.reduceEqDiff, reduceIte, Nat.reduceBEq, Nat.reduceLeDiff, Nat.reduceSub, Int.reduceToNat, c1, c4]
      have h := run_some h
      obtain rfl : _ = r := h
      refine FinH.l ?_
      simp -dsimp -implicitDefEqProofs -failIfUnchanged only [↓RA, RB, RS, fx138, cast0, cast1, cast2, implies_true, Nat.reduceLT, Nat.reduceAdd, Nat.reduceMul, Nat.reduceEqDiff, reduceIte, Nat.reduceBEq, Nat.reduceLeDiff, Nat.reduceSub, Int.reduceToNat]

def fx120 := And.intro @ty_3 <| And.intro @zc_3 <| And.intro @z_3 <| And.intro @ty_4 <| And.intro @zc_4 <| And.intro @z_4 <| And.intro @u_4 <| And.intro @ty_5 <| And.intro @zc_5 <| And.intro @z_5 <| And.intro @ty_9 <| And.intro @zc_9 <| And.intro @z_9 <| @u_9
set_option maxHeartbeats 4000000 in
theorem spec_l2Var_sat {a0 : ByteArray}  {r : Bool} (h : spec_l2Var a0 = some r) : Sat Try.prog 120 [(Sx a0)] (B r) := by
  replace h := Run.of h
  unfold spec_l2Var at h
  refine Sat.of_m (nt := 29) (rs := [.tmp 2]) (n := 100000) Try.func120 rfl rfl rfl rfl (by simp) ?_
  simp -dsimp -implicitDefEqProofs -failIfUnchanged only [↓RA, RB, RS, fx120, cast0, cast1, cast2, implies_true, Nat.reduceLT, Nat.reduceAdd, Nat.reduceMul, Nat.reduceEqDiff, reduceIte, Nat.reduceBEq, Nat.reduceLeDiff, Nat.reduceSub, Int.reduceToNat]
  obtain ⟨v6, hv6, h⟩ := run_bind h
  refine CallH.mk [false, false, false] (spec_l1In_sat hv6) (by simp -dsimp -implicitDefEqProofs -failIfUnchanged only [↓RA, RB, RS, fx120, cast0, cast1, cast2, implies_true, Nat.reduceLT, Nat.reduceAdd, Nat.reduceMul, Nat.reduceEqDiff, reduceIte, Nat.reduceBEq, Nat.reduceLeDiff, Nat.reduceSub, Int.reduceToNat]) ?_
  simp -dsimp -implicitDefEqProofs -failIfUnchanged only [↓RA, RB, RS, fx120, cast0, cast1, cast2, implies_true, Nat.reduceLT, Nat.reduceAdd, Nat.reduceMul, Nat.reduceEqDiff, reduceIte, Nat.reduceBEq, Nat.reduceLeDiff, Nat.reduceSub, Int.reduceToNat]
  refine CondH.mk (fun c1 => ?_) (fun c1 => ?_)
  · replace h := run_t c1 h
    simp -dsimp -implicitDefEqProofs -failIfUnchanged only [↓RA, RB, RS, fx120, cast0, cast1, cast2, implies_true, Nat.reduceLT, Nat.reduceAdd, Nat.reduceMul, Nat.reduceEqDiff, reduceIte, Nat.reduceBEq, Nat.reduceLeDiff, Nat.reduceSub, Int.reduceToNat, c1]
    obtain ⟨v10, hv10, h⟩ := run_bind h
    refine SidxH.mk hv10 ?_
    simp -dsimp -implicitDefEqProofs -failIfUnchanged only [↓RA, RB, RS, fx120, cast0, cast1, cast2, implies_true, Nat.reduceLT, Nat.reduceAdd, Nat.reduceMul, Nat.reduceEqDiff, reduceIte, Nat.reduceBEq, Nat.reduceLeDiff, Nat.reduceSub, Int.reduceToNat, c1]
    refine CondH.mk (fun c2 => ?_) (fun c2 => ?_)
    · replace h := run_t c2 h
      simp -dsimp -implicitDefEqProofs -failIfUnchanged only [↓RA, RB, RS, fx120, cast0, cast1, cast2, implies_true, Nat.reduceLT, Nat.reduceAdd, Nat.reduceMul, Nat.reduceEqDiff, reduceIte, Nat.reduceBEq, Nat.reduceLeDiff, Nat.reduceSub, Int.reduceToNat, c1, c2]
      have h := run_some h
      obtain rfl : _ = r := h
      refine FinH.l ?_
      simp -dsimp -implicitDefEqProofs -failIfUnchanged only [↓RA, RB, RS, fx120, cast0, cast1, cast2, implies_true, Nat.reduceLT, Nat.reduceAdd, Nat.reduceMul, Nat.reduceEqDiff, reduceIte, Nat.reduceBEq, Nat.reduceLeDiff, Nat.reduceSub, Int.reduceToNat]
    · replace h := run_f c2 h
      simp -dsimp -implicitDefEqProofs -failIfUnchanged only [↓RA, RB, RS, fx120, cast0, cast1, cast2, implies_true, Nat.reduceLT, Nat.reduceAdd, Nat.reduceMul, Nat.reduceEqDiff, reduceIte, Nat.reduceBEq, Nat.reduceLeDiff, Nat.reduceSub, Int.reduceToNat, c1, c2]
      obtain ⟨v15, hv15, h⟩ := run_bind h
      refine SidxH.mk hv15 ?_
      simp -dsimp -implicitDefEqProofs -failIfUnchanged only [↓RA, RB, RS, fx120, cast0, cast1, cast2, implies_true, Nat.reduceLT, Nat.reduceAdd, Nat.reduceMul, Nat.reduceEqDiff, reduceIte, Nat.reduceBEq, Nat.reduceLeDiff, Nat.reduceSub, Int.reduceToNat, c1, c2]
      refine CondH.mk (fun c3 => ?_) (fun c3 => ?_)
      · replace h := run_t c3 h
        simp -dsimp -implicitDefEqProofs -failIfUnchanged only [↓RA, RB, RS, fx120, cast0, cast1, cast2, implies_true, Nat.reduceLT, Nat.reduceAdd, Nat.reduceMul, Nat.reduceEqDiff, reduceIte, Nat.reduceBEq, Nat.reduceLeDiff, Nat.reduceSub, Int.reduceToNat, c1, c2, c3]
        have h := run_some h
        obtain rfl : _ = r := h
        refine FinH.l ?_
        simp -dsimp -implicitDefEqProofs -failIfUnchanged only [↓RA, RB, RS, fx120, cast0, cast1, cast2, implies_true, Nat.reduceLT, Nat.reduceAdd, Nat.reduceMul, Nat.reduceEqDiff, reduceIte, Nat.reduceBEq, Nat.reduceLeDiff, Nat.reduceSub, Int.reduceToNat]
      · replace h := run_f c3 h
        simp -dsimp -implicitDefEqProofs -failIfUnchanged only [↓RA, RB, RS, fx120, cast0, cast1, cast2, implies_true, Nat.reduceLT, Nat.reduceAdd, Nat.reduceMul, Nat.reduceEqDiff, reduceIte, Nat.reduceBEq, Nat.reduceLeDiff, Nat.reduceSub, Int.reduceToNat, c1, c2, c3]
        obtain ⟨N4, hN4, h⟩ := run_bind h
        obtain ⟨hN4a, hN4b⟩ := bnd_some hN4
        replace h := run_loop h
        refine Mg.forA (N := N4) (a := 1) h (fun i4 s4 => [(0, .val (.pv (Sx a0))), (3, .val (.pv (I (i4 : Int))))]) (fun i4 s4 => []) (St.le_mk (by simp -dsimp -implicitDefEqProofs -failIfUnchanged only [↓RA, RB, RS, fx120, cast0, cast1, cast2, implies_true, Nat.reduceLT, Nat.reduceAdd, Nat.reduceMul, Nat.reduceEqDiff, reduceIte, Nat.reduceBEq, Nat.reduceLeDiff, Nat.reduceSub, Int.reduceToNat, c1, c2, c3]) (by simp -dsimp -implicitDefEqProofs -failIfUnchanged only [↓RA, RB, RS, fx120, cast0, cast1, cast2, implies_true, Nat.reduceLT, Nat.reduceAdd, Nat.reduceMul, Nat.reduceEqDiff, reduceIte, Nat.reduceBEq, Nat.reduceLeDiff, Nat.reduceSub, Int.reduceToNat, c1, c2, c3])) (fun i4 s4 hi hj h => ?_) (fun j4 s4 hj h => ?_)
        · have w4 := wrap_succ (i := i4) (by omega)
          simp -dsimp -implicitDefEqProofs -failIfUnchanged only [↓RA, RB, RS, fx120, cast0, cast1, cast2, implies_true, Nat.reduceLT, Nat.reduceAdd, Nat.reduceMul, Nat.reduceEqDiff, reduceIte, Nat.reduceBEq, Nat.reduceLeDiff, Nat.reduceSub, Int.reduceToNat, c1, c2, c3]
          refine CondH.tt (decide_eq_true (by omega)) (fun c4 => ?_)
          simp -dsimp -implicitDefEqProofs -failIfUnchanged only [↓RA, RB, RS, fx120, cast0, cast1, cast2, implies_true, Nat.reduceLT, Nat.reduceAdd, Nat.reduceMul, Nat.reduceEqDiff, reduceIte, Nat.reduceBEq, Nat.reduceLeDiff, Nat.reduceSub, Int.reduceToNat, c1, c2, c3, c4]
          obtain ⟨v26, hv26, h⟩ := run_bind h
          refine SidxH.mk hv26 ?_
          simp -dsimp -implicitDefEqProofs -failIfUnchanged only [↓RA, RB, RS, fx120, cast0, cast1, cast2, implies_true, Nat.reduceLT, Nat.reduceAdd, Nat.reduceMul, Nat.reduceEqDiff, reduceIte, Nat.reduceBEq, Nat.reduceLeDiff, Nat.reduceSub, Int.reduceToNat, c1, c2, c3, c4]
          obtain ⟨v27, hv27, h⟩ := run_bind h
          refine CallH.mk [false] (spec_l2Small_sat hv27) (by simp -dsimp -implicitDefEqProofs -failIfUnchanged only [↓RA, RB, RS, fx120, cast0, cast1, cast2, implies_true, Nat.reduceLT, Nat.reduceAdd, Nat.reduceMul, Nat.reduceEqDiff, reduceIte, Nat.reduceBEq, Nat.reduceLeDiff, Nat.reduceSub, Int.reduceToNat, c1, c2, c3, c4]) ?_
          simp -dsimp -implicitDefEqProofs -failIfUnchanged only [↓RA, RB, RS, fx120, cast0, cast1, cast2, implies_true, Nat.reduceLT, Nat.reduceAdd, Nat.reduceMul, Nat.reduceEqDiff, reduceIte, Nat.reduceBEq, Nat.reduceLeDiff, Nat.reduceSub, Int.reduceToNat, c1, c2, c3, c4]
          refine CondH.mk (fun c5 => ?_) (fun c5 => ?_)
          · replace h := run_t c5 h
            simp -dsimp -implicitDefEqProofs -failIfUnchanged only [↓RA, RB, RS, fx120, cast0, cast1, cast2, implies_true, Nat.reduceLT, Nat.reduceAdd, Nat.reduceMul, Nat.reduceEqDiff, reduceIte, Nat.reduceBEq, Nat.reduceLeDiff, Nat.reduceSub, Int.reduceToNat, c1, c2, c3, c4, c5]
            have h := run_some h
            refine RdH.mk ⟨_, h, ?_⟩
            refine St.le_mk ?_ ?_
            · simp -dsimp -implicitDefEqProofs -failIfUnchanged only [↓RA, RB, RS, fx120, cast0, cast1, cast2, implies_true, Nat.reduceLT, Nat.reduceAdd, Nat.reduceMul, Nat.reduceEqDiff, reduceIte, Nat.reduceBEq, Nat.reduceLeDiff, Nat.reduceSub, Int.reduceToNat, c1, c2, c3, c4, c5, w4]
            · simp -dsimp -implicitDefEqProofs -failIfUnchanged only [↓RA, RB, RS, fx120, cast0, cast1, cast2, implies_true, Nat.reduceLT, Nat.reduceAdd, Nat.reduceMul, Nat.reduceEqDiff, reduceIte, Nat.reduceBEq, Nat.reduceLeDiff, Nat.reduceSub, Int.reduceToNat, c1, c2, c3, c4, c5, w4]
          · replace h := run_f c5 h
            simp -dsimp -implicitDefEqProofs -failIfUnchanged only [↓RA, RB, RS, fx120, cast0, cast1, cast2, implies_true, Nat.reduceLT, Nat.reduceAdd, Nat.reduceMul, Nat.reduceEqDiff, reduceIte, Nat.reduceBEq, Nat.reduceLeDiff, Nat.reduceSub, Int.reduceToNat, c1, c2, c3, c4, c5]
            have h := run_some h
            obtain rfl : _ = r := h
            refine FinH.l ?_
            simp -dsimp -implicitDefEqProofs -failIfUnchanged only [↓RA, RB, RS, fx120, cast0, cast1, cast2, implies_true, Nat.reduceLT, Nat.reduceAdd, Nat.reduceMul, Nat.reduceEqDiff, reduceIte, Nat.reduceBEq, Nat.reduceLeDiff, Nat.reduceSub, Int.reduceToNat]
        · simp -dsimp -implicitDefEqProofs -failIfUnchanged only [↓RA, RB, RS, fx120, cast0, cast1, cast2, implies_true, Nat.reduceLT, Nat.reduceAdd, Nat.reduceMul, Nat.reduceEqDiff, reduceIte, Nat.reduceBEq, Nat.reduceLeDiff, Nat.reduceSub, Int.reduceToNat, c1, c2, c3]
          refine CondH.ff (decide_eq_false (by omega)) (fun c6 => ?_)
          simp -dsimp -implicitDefEqProofs -failIfUnchanged only [↓RA, RB, RS, fx120, cast0, cast1, cast2, implies_true, Nat.reduceLT, Nat.reduceAdd, Nat.reduceMul, Nat.reduceEqDiff, reduceIte, Nat.reduceBEq, Nat.reduceLeDiff, Nat.reduceSub, Int.reduceToNat, c1, c2, c3, c6]
          have h := run_some h
          obtain rfl : _ = r := h
          refine FinH.l ?_
          simp -dsimp -implicitDefEqProofs -failIfUnchanged only [↓RA, RB, RS, fx120, cast0, cast1, cast2, implies_true, Nat.reduceLT, Nat.reduceAdd, Nat.reduceMul, Nat.reduceEqDiff, reduceIte, Nat.reduceBEq, Nat.reduceLeDiff, Nat.reduceSub, Int.reduceToNat]
  · replace h := run_f c1 h
    simp -dsimp -implicitDefEqProofs -failIfUnchanged only [↓RA, RB, RS, fx120, cast0, cast1, cast2, implies_true, Nat.reduceLT, Nat.reduceAdd, Nat.reduceMul, Nat.reduceEqDiff, reduceIte, Nat.reduceBEq, Nat.reduceLeDiff, Nat.reduceSub, Int.reduceToNat, c1]
    have h := run_some h
    obtain rfl : _ = r := h
    refine FinH.l ?_
    simp -dsimp -implicitDefEqProofs -failIfUnchanged only [↓RA, RB, RS, fx120, cast0, cast1, cast2, implies_true, Nat.reduceLT, Nat.reduceAdd, Nat.reduceMul, Nat.reduceEqDiff, reduceIte, Nat.reduceBEq, Nat.reduceLeDiff, Nat.reduceSub, Int.reduceToNat]

def fx77 := And.intro @ty_3 <| And.intro @zc_3 <| And.intro @z_3 <| And.intro @ty_4 <| And.intro @zc_4 <| And.intro @z_4 <| And.intro @u_4 <| And.intro @ty_9 <| And.intro @zc_9 <| And.intro @z_9 <| And.intro @u_9 <| And.intro @ty_49 <| And.intro @zc_49 <| And.intro @z_49 <| And.intro @es_49 <| And.intro @eb_49 <| And.intro @sl_49 <| And.intro @is_49 <| And.intro @el_49 <| And.intro @ze_49 <| And.intro @ez_49 <| And.intro @ty_50 <| And.intro @zc_50 <| And.intro @z_50 <| And.intro @es_50 <| And.intro @eb_50 <| And.intro @sl_50 <| And.intro @is_50 <| And.intro @el_50 <| And.intro @ze_50 <| And.intro @ez_50 <| And.intro @ty_55 <| And.intro @zc_55 <| And.intro @z_55 <| And.intro @fo_55_0 <| And.intro @fi_55_0 <| And.intro @ft_55_0 <| And.intro @fo_55_1 <| And.intro @fi_55_1 <| And.intro @ft_55_1 <| And.intro @fo_55_2 <| And.intro @fi_55_2 <| And.intro @ft_55_2 <| And.intro @lay_55 <| @mixedT
set_option maxHeartbeats 4000000 in
theorem spec_l25Linear_sat {a0 : Linear}  {r : Bool} (h : spec_l25Linear a0 = some r) : Sat Try.prog 77 [((Linear.pv false) a0)] (B r) := by
  replace h := Run.of h
  unfold spec_l25Linear at h
  refine Sat.of_m (nt := 64) (rs := [.tmp 2]) (n := 100000) Try.func77 rfl rfl rfl rfl (by simp) ?_
  simp -dsimp -implicitDefEqProofs -failIfUnchanged only [↓RA, RB, RS, fx77, cast0, cast1, cast2, implies_true, Nat.reduceLT, Nat.reduceAdd, Nat.reduceMul, Nat.reduceEqDiff, reduceIte, Nat.reduceBEq, Nat.reduceLeDiff, Nat.reduceSub, Int.reduceToNat]
  repeat (first | with_reducible refine noR_and (by repeat (first | exact noR_empty _ _ | exact noR_nilS _ _ | refine noR_mk _ _ _ _ _ rfl ?_ | refine noR_mkS _ _ _ _ _ rfl ?_)) ?_ | with_reducible refine noC_and (by repeat (first | exact noC_empty _ _ (by simp -dsimp -implicitDefEqProofs -failIfUnchanged only [↓RA, RB, RS, fx77, cast0, cast1, cast2, implies_true, Nat.reduceLT, Nat.reduceAdd, Nat.reduceMul, Nat.reduceEqDiff, reduceIte, Nat.reduceBEq, Nat.reduceLeDiff, Nat.reduceSub, Int.reduceToNat]) | exact noC_nilS _ _ (by simp -dsimp -implicitDefEqProofs -failIfUnchanged only [↓RA, RB, RS, fx77, cast0, cast1, cast2, implies_true, Nat.reduceLT, Nat.reduceAdd, Nat.reduceMul, Nat.reduceEqDiff, reduceIte, Nat.reduceBEq, Nat.reduceLeDiff, Nat.reduceSub, Int.reduceToNat]) | refine noC_mk _ _ _ _ _ rfl ?_ | refine noC_mkS _ _ _ _ _ rfl ?_)) ?_ | with_reducible refine and_ac ?_ | with_reducible refine And.intro (a := _ = List.range _) (by rfl) ?_)
  refine CondH.mk (fun c1 => ?_) (fun c1 => ?_)
  · replace h := run_t c1 h
    simp -dsimp -implicitDefEqProofs -failIfUnchanged only [↓RA, RB, RS, fx77, cast0, cast1, cast2, implies_true, Nat.reduceLT, Nat.reduceAdd, Nat.reduceMul, Nat.reduceEqDiff, reduceIte, Nat.reduceBEq, Nat.reduceLeDiff, Nat.reduceSub, Int.reduceToNat, c1]
    have h := run_some h
    obtain rfl : _ = r := h
    refine FinH.l ?_
    simp -dsimp -implicitDefEqProofs -failIfUnchanged only [↓RA, RB, RS, fx77, cast0, cast1, cast2, implies_true, Nat.reduceLT, Nat.reduceAdd, Nat.reduceMul, Nat.reduceEqDiff, reduceIte, Nat.reduceBEq, Nat.reduceLeDiff, Nat.reduceSub, Int.reduceToNat]
  · replace h := run_f c1 h
    simp -dsimp -implicitDefEqProofs -failIfUnchanged only [↓RA, RB, RS, fx77, cast0, cast1, cast2, implies_true, Nat.reduceLT, Nat.reduceAdd, Nat.reduceMul, Nat.reduceEqDiff, reduceIte, Nat.reduceBEq, Nat.reduceLeDiff, Nat.reduceSub, Int.reduceToNat, c1]
    refine CondH.mk (fun c2 => ?_) (fun c2 => ?_)
    · replace h := run_t c2 h
      simp -dsimp -implicitDefEqProofs -failIfUnchanged only [↓RA, RB, RS, fx77, cast0, cast1, cast2, implies_true, Nat.reduceLT, Nat.reduceAdd, Nat.reduceMul, Nat.reduceEqDiff, reduceIte, Nat.reduceBEq, Nat.reduceLeDiff, Nat.reduceSub, Int.reduceToNat, c1, c2]
      obtain ⟨v20, hv20, h⟩ := run_bind h
      refine CallH.mk [false, false, false] (spec_l1In_sat hv20) (by simp -dsimp -implicitDefEqProofs -failIfUnchanged only [↓RA, RB, RS, fx77, cast0, cast1, cast2, implies_true, Nat.reduceLT, Nat.reduceAdd, Nat.reduceMul, Nat.reduceEqDiff, reduceIte, Nat.reduceBEq, Nat.reduceLeDiff, Nat.reduceSub, Int.reduceToNat, c1, c2]) ?_
      simp -dsimp -implicitDefEqProofs -failIfUnchanged only [↓RA, RB, RS, fx77, cast0, cast1, cast2, implies_true, Nat.reduceLT, Nat.reduceAdd, Nat.reduceMul, Nat.reduceEqDiff, reduceIte, Nat.reduceBEq, Nat.reduceLeDiff, Nat.reduceSub, Int.reduceToNat, c1, c2]
      refine CondH.mk (fun c3 => ?_) (fun c3 => ?_)
      · replace h := run_t c3 h
        simp -dsimp -implicitDefEqProofs -failIfUnchanged only [↓RA, RB, RS, fx77, cast0, cast1, cast2, implies_true, Nat.reduceLT, Nat.reduceAdd, Nat.reduceMul, Nat.reduceEqDiff, reduceIte, Nat.reduceBEq, Nat.reduceLeDiff, Nat.reduceSub, Int.reduceToNat, c1, c2, c3]
        refine Mg.know_sl (b := false) (sz := 1) (es := a0.Vars.map Sx) 5 (by simp -dsimp -implicitDefEqProofs -failIfUnchanged only [↓RA, RB, RS, fx77, cast0, cast1, cast2, implies_true, Nat.reduceLT, Nat.reduceAdd, Nat.reduceMul, Nat.reduceEqDiff, reduceIte, Nat.reduceBEq, Nat.reduceLeDiff, Nat.reduceSub, Int.reduceToNat, c1, c2, c3]) fun hl5 => ?_; rw [List.length_map] at hl5
        replace h := run_loop h
        refine Mg.forN h (fun i4 s4 => [(1, .box (.pv ((Linear.pv false) a0))), (3, .val (.pv (I (i4 : Int))))]) (fun i4 s4 => []) (St.le_mk (by simp -dsimp -implicitDefEqProofs -failIfUnchanged only [↓RA, RB, RS, fx77, cast0, cast1, cast2, implies_true, Nat.reduceLT, Nat.reduceAdd, Nat.reduceMul, Nat.reduceEqDiff, reduceIte, Nat.reduceBEq, Nat.reduceLeDiff, Nat.reduceSub, Int.reduceToNat, c1, c2, c3]) (by simp -dsimp -implicitDefEqProofs -failIfUnchanged only [↓RA, RB, RS, fx77, cast0, cast1, cast2, implies_true, Nat.reduceLT, Nat.reduceAdd, Nat.reduceMul, Nat.reduceEqDiff, reduceIte, Nat.reduceBEq, Nat.reduceLeDiff, Nat.reduceSub, Int.reduceToNat, c1, c2, c3])) (fun i4 s4 hi h => ?_) (fun s4 h => ?_)
        · have w4 := wrap_succ (i := i4) (by omega)
          simp -dsimp -implicitDefEqProofs -failIfUnchanged only [↓RA, RB, RS, fx77, cast0, cast1, cast2, implies_true, Nat.reduceLT, Nat.reduceAdd, Nat.reduceMul, Nat.reduceEqDiff, reduceIte, Nat.reduceBEq, Nat.reduceLeDiff, Nat.reduceSub, Int.reduceToNat, c1, c2, c3]
          refine CondH.tt (decide_eq_true (by omega)) (fun c4 => ?_)
          simp -dsimp -implicitDefEqProofs -failIfUnchanged only [↓RA, RB, RS, fx77, cast0, cast1, cast2, implies_true, Nat.reduceLT, Nat.reduceAdd, Nat.reduceMul, Nat.reduceEqDiff, reduceIte, Nat.reduceBEq, Nat.reduceLeDiff, Nat.reduceSub, Int.reduceToNat, c1, c2, c3, c4]
          obtain ⟨v33, hv33, h⟩ := run_bind h
          refine IdxH.mk (f := Sx) hv33 (by simp -dsimp -implicitDefEqProofs -failIfUnchanged only [↓RA, RB, RS, fx77, cast0, cast1, cast2, implies_true, Nat.reduceLT, Nat.reduceAdd, Nat.reduceMul, Nat.reduceEqDiff, reduceIte, Nat.reduceBEq, Nat.reduceLeDiff, Nat.reduceSub, Int.reduceToNat, c1, c2, c3, c4]) ?_
          simp -dsimp -implicitDefEqProofs -failIfUnchanged only [↓RA, RB, RS, fx77, cast0, cast1, cast2, implies_true, Nat.reduceLT, Nat.reduceAdd, Nat.reduceMul, Nat.reduceEqDiff, reduceIte, Nat.reduceBEq, Nat.reduceLeDiff, Nat.reduceSub, Int.reduceToNat, c1, c2, c3, c4]
          obtain ⟨v35, hv35, h⟩ := run_bind h
          refine CallH.mk [false] (spec_l2Var_sat hv35) (by simp -dsimp -implicitDefEqProofs -failIfUnchanged only [↓RA, RB, RS, fx77, cast0, cast1, cast2, implies_true, Nat.reduceLT, Nat.reduceAdd, Nat.reduceMul, Nat.reduceEqDiff, reduceIte, Nat.reduceBEq, Nat.reduceLeDiff, Nat.reduceSub, Int.reduceToNat, c1, c2, c3, c4]) ?_
          simp -dsimp -implicitDefEqProofs -failIfUnchanged only [↓RA, RB, RS, fx77, cast0, cast1, cast2, implies_true, Nat.reduceLT, Nat.reduceAdd, Nat.reduceMul, Nat.reduceEqDiff, reduceIte, Nat.reduceBEq, Nat.reduceLeDiff, Nat.reduceSub, Int.reduceToNat, c1, c2, c3, c4]
          refine CondH.mk (fun c5 => ?_) (fun c5 => ?_)
          · replace h := run_t c5 h
            simp -dsimp -implicitDefEqProofs -failIfUnchanged only [↓RA, RB, RS, fx77, cast0, cast1, cast2, implies_true, Nat.reduceLT, Nat.reduceAdd, Nat.reduceMul, Nat.reduceEqDiff, reduceIte, Nat.reduceBEq, Nat.reduceLeDiff, Nat.reduceSub, Int.reduceToNat, c1, c2, c3, c4, c5]
            obtain ⟨v41, hv41, h⟩ := run_bind h
            refine IdxH.mk (f := I) hv41 (by simp -dsimp -implicitDefEqProofs -failIfUnchanged only [↓RA, RB, RS, fx77, cast0, cast1, cast2, implies_true, Nat.reduceLT, Nat.reduceAdd, Nat.reduceMul, Nat.reduceEqDiff, reduceIte, Nat.reduceBEq, Nat.reduceLeDiff, Nat.reduceSub, Int.reduceToNat, c1, c2, c3, c4, c5]) ?_
            simp -dsimp -implicitDefEqProofs -failIfUnchanged only [↓RA, RB, RS, fx77, cast0, cast1, cast2, implies_true, Nat.reduceLT, Nat.reduceAdd, Nat.reduceMul, Nat.reduceEqDiff, reduceIte, Nat.reduceBEq, Nat.reduceLeDiff, Nat.reduceSub, Int.reduceToNat, c1, c2, c3, c4, c5]
            obtain ⟨v43, hv43, h⟩ := run_bind h
            refine CallH.mk [false, false, false] (spec_l1In_sat hv43) (by simp -dsimp -implicitDefEqProofs -failIfUnchanged only [↓RA, RB, RS, fx77, cast0, cast1, cast2, implies_true, Nat.reduceLT, Nat.reduceAdd, Nat.reduceMul, Nat.reduceEqDiff, reduceIte, Nat.reduceBEq, Nat.reduceLeDiff, Nat.reduceSub, Int.reduceToNat, c1, c2, c3, c4, c5]) ?_
            simp -dsimp -implicitDefEqProofs -failIfUnchanged only [↓RA, RB, RS, fx77, cast0, cast1, cast2, implies_true, Nat.reduceLT, Nat.reduceAdd, Nat.reduceMul, Nat.reduceEqDiff, reduceIte, Nat.reduceBEq, Nat.reduceLeDiff, Nat.reduceSub, Int.reduceToNat, c1, c2, c3, c4, c5]
            refine CondH.mk (fun c6 => ?_) (fun c6 => ?_)
            · replace h := run_t c6 h
              simp -dsimp -implicitDefEqProofs -failIfUnchanged only [↓RA, RB, RS, fx77, cast0, cast1, cast2, implies_true, Nat.reduceLT, Nat.reduceAdd, Nat.reduceMul, Nat.reduceEqDiff, reduceIte, Nat.reduceBEq, Nat.reduceLeDiff, Nat.reduceSub, Int.reduceToNat, c1, c2, c3, c4, c5, c6]
              refine CondH.mk (fun c7 => ?_) (fun c7 => ?_)
              · replace h := run_t c7 h
                simp -dsimp -implicitDefEqProofs -failIfUnchanged only [↓RA, RB, RS, fx77, cast0, cast1, cast2, implies_true, Nat.reduceLT, Nat.reduceAdd, Nat.reduceMul, Nat.reduceEqDiff, reduceIte, Nat.reduceBEq, Nat.reduceLeDiff, Nat.reduceSub, Int.reduceToNat, c1, c2, c3, c4, c5, c6, c7]
                obtain ⟨v54, hv54, h⟩ := run_bind h
                refine IdxH.mk (f := Sx) hv54 (by simp -dsimp -implicitDefEqProofs -failIfUnchanged only [↓RA, RB, RS, fx77, cast0, cast1, cast2, implies_true, Nat.reduceLT, Nat.reduceAdd, Nat.reduceMul, Nat.reduceEqDiff, reduceIte, Nat.reduceBEq, Nat.reduceLeDiff, Nat.reduceSub, Int.reduceToNat, c1, c2, c3, c4, c5, c6, c7]) ?_
                simp -dsimp -implicitDefEqProofs -failIfUnchanged only [↓RA, RB, RS, fx77, cast0, cast1, cast2, implies_true, Nat.reduceLT, Nat.reduceAdd, Nat.reduceMul, Nat.reduceEqDiff, reduceIte, Nat.reduceBEq, Nat.reduceLeDiff, Nat.reduceSub, Int.reduceToNat, c1, c2, c3, c4, c5, c6, c7]
                obtain ⟨v59, hv59, h⟩ := run_bind h
                refine IdxH.mk (f := Sx) hv59 (by simp -dsimp -implicitDefEqProofs -failIfUnchanged only [↓RA, RB, RS, fx77, cast0, cast1, cast2, implies_true, Nat.reduceLT, Nat.reduceAdd, Nat.reduceMul, Nat.reduceEqDiff, reduceIte, Nat.reduceBEq, Nat.reduceLeDiff, Nat.reduceSub, Int.reduceToNat, c1, c2, c3, c4, c5, c6, c7]) ?_
                simp -dsimp -implicitDefEqProofs -failIfUnchanged only [↓RA, RB, RS, fx77, cast0, cast1, cast2, implies_true, Nat.reduceLT, Nat.reduceAdd, Nat.reduceMul, Nat.reduceEqDiff, reduceIte, Nat.reduceBEq, Nat.reduceLeDiff, Nat.reduceSub, Int.reduceToNat, c1, c2, c3, c4, c5, c6, c7]
                refine And.intro (DrawH.none (by rfl) (by first | rfl | (simp -dsimp -implicitDefEqProofs -failIfUnchanged only [↓RA, RB, RS, fx77, cast0, cast1, cast2, implies_true, Nat.reduceLT, Nat.reduceAdd, Nat.reduceMul, Nat.reduceEqDiff, reduceIte, Nat.reduceBEq, Nat.reduceLeDiff, Nat.reduceSub, Int.reduceToNat] <;> rfl)) (by first | rfl | (simp -dsimp -implicitDefEqProofs -failIfUnchanged only [↓RA, RB, RS, fx77, cast0, cast1, cast2, implies_true, Nat.reduceLT, Nat.reduceAdd, Nat.reduceMul, Nat.reduceEqDiff, reduceIte, Nat.reduceBEq, Nat.reduceLeDiff, Nat.reduceSub, Int.reduceToNat] <;> rfl)) (by first | rfl | (simp -dsimp -implicitDefEqProofs -failIfUnchanged only [↓RA, RB, RS, fx77, cast0, cast1, cast2, implies_true, Nat.reduceLT, Nat.reduceAdd, Nat.reduceMul, Nat.reduceEqDiff, reduceIte, Nat.reduceBEq, Nat.reduceLeDiff, Nat.reduceSub, Int.reduceToNat] <;> rfl))) ?_
                simp -dsimp -implicitDefEqProofs -failIfUnchanged only [↓RA, RB, RS, fx77, cast0, cast1, cast2, implies_true, Nat.reduceLT, Nat.reduceAdd, Nat.reduceMul, Nat.reduceEqDiff, reduceIte, Nat.reduceBEq, Nat.reduceLeDiff, Nat.reduceSub, Int.reduceToNat, c1, c2, c3, c4, c5, c6, c7]
                refine CondH.mk (fun c8 => ?_) (fun c8 => ?_)
                · replace h := run_t c8 h
                  simp -dsimp -implicitDefEqProofs -failIfUnchanged only [↓RA, RB, RS, fx77, cast0, cast1, cast2, implies_true, Nat.reduceLT, Nat.reduceAdd, Nat.reduceMul, Nat.reduceEqDiff, reduceIte, Nat.reduceBEq, Nat.reduceLeDiff, Nat.reduceSub, Int.reduceToNat, c1, c2, c3, c4, c5, c6, c7, c8]
                  have h := run_some h
                  refine RdH.mk ⟨_, h, ?_⟩
                  refine St.le_mk ?_ ?_
                  · simp -dsimp -implicitDefEqProofs -failIfUnchanged only [↓RA, RB, RS, fx77, cast0, cast1, cast2, implies_true, Nat.reduceLT, Nat.reduceAdd, Nat.reduceMul, Nat.reduceEqDiff, reduceIte, Nat.reduceBEq, Nat.reduceLeDiff, Nat.reduceSub, Int.reduceToNat, c1, c2, c3, c4, c5, c6, c7, c8, w4]
                  · simp -dsimp -implicitDefEqProofs -failIfUnchanged only [↓RA, RB, RS, fx77, cast0, cast1, cast2, implies_true, Nat.reduceLT, Nat.reduceAdd, Nat.reduceMul, Nat.reduceEqDiff, reduceIte, Nat.reduceBEq, Nat.reduceLeDiff, Nat.reduceSub, Int.reduceToNat, c1, c2, c3, c4, c5, c6, c7, c8, w4]
                · replace h := run_f c8 h
                  simp -dsimp -implicitDefEqProofs -failIfUnchanged only [↓RA, RB, RS, fx77, cast0, cast1, cast2, implies_true, Nat.reduceLT, Nat.reduceAdd, Nat.reduceMul, Nat.reduceEqDiff, reduceIte, Nat.reduceBEq, Nat.reduceLeDiff, Nat.reduceSub, Int.reduceToNat, c1, c2, c3, c4, c5, c6, c7, c8]
                  have h := run_some h
                  obtain rfl : _ = r := h
                  refine FinH.l ?_
                  simp -dsimp -implicitDefEqProofs -failIfUnchanged only [↓RA, RB, RS, fx77, cast0, cast1, cast2, implies_true, Nat.reduceLT, Nat.reduceAdd, Nat.reduceMul, Nat.reduceEqDiff, reduceIte, Nat.reduceBEq, Nat.reduceLeDiff, Nat.reduceSub, Int.reduceToNat]
              · replace h := run_f c7 h
                simp -dsimp -implicitDefEqProofs -failIfUnchanged only [↓RA, RB, RS, fx77, cast0, cast1, cast2, implies_true, Nat.reduceLT, Nat.reduceAdd, Nat.reduceMul, Nat.reduceEqDiff, reduceIte, Nat.reduceBEq, Nat.reduceLeDiff, Nat.reduceSub, Int.reduceToNat, c1, c2, c3, c4, c5, c6, c7]
                refine And.intro (DrawH.none (by rfl) (by first | rfl | (simp -dsimp -implicitDefEqProofs -failIfUnchanged only [↓RA, RB, RS, fx77, cast0, cast1, cast2, implies_true, Nat.reduceLT, Nat.reduceAdd, Nat.reduceMul, Nat.reduceEqDiff, reduceIte, Nat.reduceBEq, Nat.reduceLeDiff, Nat.reduceSub, Int.reduceToNat] <;> rfl)) (by first | rfl | (simp -dsimp -implicitDefEqProofs -failIfUnchanged only [↓RA, RB, RS, fx77, cast0, cast1, cast2, implies_true, Nat.reduceLT, Nat.reduceAdd, Nat.reduceMul, Nat.reduceEqDiff, reduceIte, Nat.reduceBEq, Nat.reduceLeDiff, Nat.reduceSub, Int.reduceToNat] <;> rfl)) (by first | rfl | (simp -dsimp -implicitDefEqProofs -failIfUnchanged only [↓RA, RB, RS, fx77, cast0, cast1, cast2, implies_true, Nat.reduceLT, Nat.reduceAdd, Nat.reduceMul, Nat.reduceEqDiff, reduceIte, Nat.reduceBEq, Nat.reduceLeDiff, Nat.reduceSub, Int.reduceToNat] <;> rfl))) ?_
                simp -dsimp -implicitDefEqProofs -failIfUnchanged only [↓RA, RB, RS, fx77, cast0, cast1, cast2, implies_true, Nat.reduceLT, Nat.reduceAdd, Nat.reduceMul, Nat.reduceEqDiff, reduceIte, Nat.reduceBEq, Nat.reduceLeDiff, Nat.reduceSub, Int.reduceToNat, c1, c2, c3, c4, c5, c6, c7]
                have h := run_some h
                refine RdH.mk ⟨_, h, ?_⟩
                refine St.le_mk ?_ ?_
                · simp -dsimp -implicitDefEqProofs -failIfUnchanged only [↓RA, RB, RS, fx77, cast0, cast1, cast2, implies_true, Nat.reduceLT, Nat.reduceAdd, Nat.reduceMul, Nat.reduceEqDiff, reduceIte, Nat.reduceBEq, Nat.reduceLeDiff, Nat.reduceSub, Int.reduceToNat, c1, c2, c3, c4, c5, c6, c7, w4]
                · simp -dsimp -implicitDefEqProofs -failIfUnchanged only [↓RA, RB, RS, fx77, cast0, cast1, cast2, implies_true, Nat.reduceLT, Nat.reduceAdd, Nat.reduceMul, Nat.reduceEqDiff, reduceIte, Nat.reduceBEq, Nat.reduceLeDiff, Nat.reduceSub, Int.reduceToNat, c1, c2, c3, c4, c5, c6, c7, w4]
            · replace h := run_f c6 h
              simp -dsimp -implicitDefEqProofs -failIfUnchanged only [↓RA, RB, RS, fx77, cast0, cast1, cast2, implies_true, Nat.reduceLT, Nat.reduceAdd, Nat.reduceMul, Nat.reduceEqDiff, reduceIte, Nat.reduceBEq, Nat.reduceLeDiff, Nat.reduceSub, Int.reduceToNat, c1, c2, c3, c4, c5, c6]
              refine And.intro (DrawH.none (by rfl) (by first | rfl | (simp -dsimp -implicitDefEqProofs -failIfUnchanged only [↓RA, RB, RS, fx77, cast0, cast1, cast2, implies_true, Nat.reduceLT, Nat.reduceAdd, Nat.reduceMul, Nat.reduceEqDiff, reduceIte, Nat.reduceBEq, Nat.reduceLeDiff, Nat.reduceSub, Int.reduceToNat] <;> rfl)) (by first | rfl | (simp -dsimp -implicitDefEqProofs -failIfUnchanged only [↓RA, RB, RS, fx77, cast0, cast1, cast2, implies_true, Nat.reduceLT, Nat.reduceAdd, Nat.reduceMul, Nat.reduceEqDiff, reduceIte, Nat.reduceBEq, Nat.reduceLeDiff, Nat.reduceSub, Int.reduceToNat] <;> rfl)) (by first | rfl | (simp -dsimp -implicitDefEqProofs -failIfUnchanged only [↓RA, RB, RS, fx77, cast0, cast1, cast2, implies_true, Nat.reduceLT, Nat.reduceAdd, Nat.reduceMul, Nat.reduceEqDiff, reduceIte, Nat.reduceBEq, Nat.reduceLeDiff, Nat.reduceSub, Int.reduceToNat] <;> rfl))) ?_
              simp -dsimp -implicitDefEqProofs -failIfUnchanged only [↓RA, RB, RS, fx77, cast0, cast1, cast2, implies_true, Nat.reduceLT, Nat.reduceAdd, Nat.reduceMul, Nat.reduceEqDiff, reduceIte, Nat.reduceBEq, Nat.reduceLeDiff, Nat.reduceSub, Int.reduceToNat, c1, c2, c3, c4, c5, c6]
              have h := run_some h
              obtain rfl : _ = r := h
              refine FinH.l ?_
              simp -dsimp -implicitDefEqProofs -failIfUnchanged only [↓RA, RB, RS, fx77, cast0, cast1, cast2, implies_true, Nat.reduceLT, Nat.reduceAdd, Nat.reduceMul, Nat.reduceEqDiff, reduceIte, Nat.reduceBEq, Nat.reduceLeDiff, Nat.reduceSub, Int.reduceToNat]
          · replace h := run_f c5 h
            simp -dsimp -implicitDefEqProofs -failIfUnchanged only [↓RA, RB, RS, fx77, cast0, cast1, cast2, implies_true, Nat.reduceLT, Nat.reduceAdd, Nat.reduceMul, Nat.reduceEqDiff, reduceIte, Nat.reduceBEq, Nat.reduceLeDiff, Nat.reduceSub, Int.reduceToNat, c1, c2, c3, c4, c5]
            refine And.intro (DrawH.none (by rfl) (by first | rfl | (simp -dsimp -implicitDefEqProofs -failIfUnchanged only [↓RA, RB, RS, fx77, cast0, cast1, cast2, implies_true, Nat.reduceLT, Nat.reduceAdd, Nat.reduceMul, Nat.reduceEqDiff, reduceIte, Nat.reduceBEq, Nat.reduceLeDiff, Nat.reduceSub, Int.reduceToNat] <;> rfl)) (by first | rfl | (simp -dsimp -implicitDefEqProofs -failIfUnchanged only [↓RA, RB, RS, fx77, cast0, cast1, cast2, implies_true, Nat.reduceLT, Nat.reduceAdd, Nat.reduceMul, Nat.reduceEqDiff, reduceIte, Nat.reduceBEq, Nat.reduceLeDiff, Nat.reduceSub, Int.reduceToNat] <;> rfl)) (by first | rfl | (simp -dsimp -implicitDefEqProofs -failIfUnchanged only [↓RA, RB, RS, fx77, cast0, cast1, cast2, implies_true, Nat.reduceLT, Nat.reduceAdd, Nat.reduceMul, Nat.reduceEqDiff, reduceIte, Nat.reduceBEq, Nat.reduceLeDiff, Nat.reduceSub, Int.reduceToNat] <;> rfl))) ?_
            simp -dsimp -implicitDefEqProofs -failIfUnchanged only [↓RA, RB, RS, fx77, cast0, cast1, cast2, implies_true, Nat.reduceLT, Nat.reduceAdd, Nat.reduceMul, Nat.reduceEqDiff, reduceIte, Nat.reduceBEq, Nat.reduceLeDiff, Nat.reduceSub, Int.reduceToNat, c1, c2, c3, c4, c5]
            have h := run_some h
            obtain rfl : _ = r := h
            refine FinH.l ?_
            simp -dsimp -implicitDefEqProofs -failIfUnchanged only [↓RA, RB, RS, fx77, cast0, cast1, cast2, implies_true, Nat.reduceLT, Nat.reduceAdd, Nat.reduceMul, Nat.reduceEqDiff, reduceIte, Nat.reduceBEq, Nat.reduceLeDiff, Nat.reduceSub, Int.reduceToNat]
        · simp -dsimp -implicitDefEqProofs -failIfUnchanged only [↓RA, RB, RS, fx77, cast0, cast1, cast2, implies_true, Nat.reduceLT, Nat.reduceAdd, Nat.reduceMul, Nat.reduceEqDiff, reduceIte, Nat.reduceBEq, Nat.reduceLeDiff, Nat.reduceSub, Int.reduceToNat, c1, c2, c3]
          refine CondH.ff (decide_eq_false (by omega)) (fun c9 => ?_)
          simp -dsimp -implicitDefEqProofs -failIfUnchanged only [↓RA, RB, RS, fx77, cast0, cast1, cast2, implies_true, Nat.reduceLT, Nat.reduceAdd, Nat.reduceMul, Nat.reduceEqDiff, reduceIte, Nat.reduceBEq, Nat.reduceLeDiff, Nat.reduceSub, Int.reduceToNat, c1, c2, c3, c9]
          have h := run_some h
          obtain rfl : _ = r := h
          refine FinH.l ?_
          simp -dsimp -implicitDefEqProofs -failIfUnchanged only [↓RA, RB, RS, fx77, cast0, cast1, cast2, implies_true, Nat.reduceLT, Nat.reduceAdd, Nat.reduceMul, Nat.reduceEqDiff, reduceIte, Nat.reduceBEq, Nat.reduceLeDiff, Nat.reduceSub, Int.reduceToNat]
      · replace h := run_f c3 h
        simp -dsimp -implicitDefEqProofs -failIfUnchanged only [↓RA, RB, RS, fx77, cast0, cast1, cast2, implies_true, Nat.reduceLT, Nat.reduceAdd, Nat.reduceMul, Nat.reduceEqDiff, reduceIte, Nat.reduceBEq, Nat.reduceLeDiff, Nat.reduceSub, Int.reduceToNat, c1, c2, c3]
        have h := run_some h
        obtain rfl : _ = r := h
        refine FinH.l ?_
        simp -dsimp -implicitDefEqProofs -failIfUnchanged only [↓RA, RB, RS, fx77, cast0, cast1, cast2, implies_true, Nat.reduceLT, Nat.reduceAdd, Nat.reduceMul, Nat.reduceEqDiff, reduceIte, Nat.reduceBEq, Nat.reduceLeDiff, Nat.reduceSub, Int.reduceToNat]
    · replace h := run_f c2 h
      simp -dsimp -implicitDefEqProofs -failIfUnchanged only [↓RA, RB, RS, fx77, cast0, cast1, cast2, implies_true, Nat.reduceLT, Nat.reduceAdd, Nat.reduceMul, Nat.reduceEqDiff, reduceIte, Nat.reduceBEq, Nat.reduceLeDiff, Nat.reduceSub, Int.reduceToNat, c1, c2]
      have h := run_some h
      obtain rfl : _ = r := h
      refine FinH.l ?_
      simp -dsimp -implicitDefEqProofs -failIfUnchanged only [↓RA, RB, RS, fx77, cast0, cast1, cast2, implies_true, Nat.reduceLT, Nat.reduceAdd, Nat.reduceMul, Nat.reduceEqDiff, reduceIte, Nat.reduceBEq, Nat.reduceLeDiff, Nat.reduceSub, Int.reduceToNat]

def fx33 := And.intro @ty_3 <| And.intro @zc_3 <| And.intro @z_3 <| And.intro @ty_4 <| And.intro @zc_4 <| And.intro @z_4 <| And.intro @u_4 <| And.intro @ty_49 <| And.intro @zc_49 <| And.intro @z_49 <| And.intro @es_49 <| And.intro @eb_49 <| And.intro @sl_49 <| And.intro @is_49 <| And.intro @el_49 <| And.intro @ze_49 <| And.intro @ez_49 <| And.intro @ty_50 <| And.intro @zc_50 <| And.intro @z_50 <| And.intro @es_50 <| And.intro @eb_50 <| And.intro @sl_50 <| And.intro @is_50 <| And.intro @el_50 <| And.intro @ze_50 <| And.intro @ez_50 <| And.intro @ty_55 <| And.intro @zc_55 <| And.intro @z_55 <| And.intro @fo_55_0 <| And.intro @fi_55_0 <| And.intro @ft_55_0 <| And.intro @fo_55_1 <| And.intro @fi_55_1 <| And.intro @ft_55_1 <| And.intro @fo_55_2 <| And.intro @fi_55_2 <| And.intro @ft_55_2 <| And.intro @lay_55 <| @mixedT
set_option maxHeartbeats 4000000 in
theorem spec_EvaluateLinear_sat {a0 : Linear} {a1 : List Int}  {r : Int × Bool} (h : spec_EvaluateLinear a0 a1 = some r) : Sat Try.prog 33 [((Linear.pv false) a0), (.sl false 1 (a1.map I))] (.tup [(I r.1), (B r.2)]) := by
  replace h := Run.of h
  unfold spec_EvaluateLinear at h
  refine Sat.of_m (nt := 46) (rs := [.tmp 4, .tmp 5]) (n := 100000) Try.func33 rfl rfl rfl rfl (by simp) ?_
  simp -dsimp -implicitDefEqProofs -failIfUnchanged only [↓RA, RB, RS, fx33, cast0, cast1, cast2, implies_true, Nat.reduceLT, Nat.reduceAdd, Nat.reduceMul, Nat.reduceEqDiff, reduceIte, Nat.reduceBEq, Nat.reduceLeDiff, Nat.reduceSub, Int.reduceToNat]
  repeat (first | with_reducible refine noR_and (by repeat (first | exact noR_empty _ _ | exact noR_nilS _ _ | refine noR_mk _ _ _ _ _ rfl ?_ | refine noR_mkS _ _ _ _ _ rfl ?_)) ?_ | with_reducible refine noC_and (by repeat (first | exact noC_empty _ _ (by simp -dsimp -implicitDefEqProofs -failIfUnchanged only [↓RA, RB, RS, fx33, cast0, cast1, cast2, implies_true, Nat.reduceLT, Nat.reduceAdd, Nat.reduceMul, Nat.reduceEqDiff, reduceIte, Nat.reduceBEq, Nat.reduceLeDiff, Nat.reduceSub, Int.reduceToNat]) | exact noC_nilS _ _ (by simp -dsimp -implicitDefEqProofs -failIfUnchanged only [↓RA, RB, RS, fx33, cast0, cast1, cast2, implies_true, Nat.reduceLT, Nat.reduceAdd, Nat.reduceMul, Nat.reduceEqDiff, reduceIte, Nat.reduceBEq, Nat.reduceLeDiff, Nat.reduceSub, Int.reduceToNat]) | refine noC_mk _ _ _ _ _ rfl ?_ | refine noC_mkS _ _ _ _ _ rfl ?_)) ?_ | with_reducible refine and_ac ?_ | with_reducible refine And.intro (a := _ = List.range _) (by rfl) ?_)
  obtain ⟨v9, hv9, h⟩ := run_bind h
  refine CallH.mk [false] (spec_l25Linear_sat hv9) (by simp -dsimp -implicitDefEqProofs -failIfUnchanged only [↓RA, RB, RS, fx33, cast0, cast1, cast2, implies_true, Nat.reduceLT, Nat.reduceAdd, Nat.reduceMul, Nat.reduceEqDiff, reduceIte, Nat.reduceBEq, Nat.reduceLeDiff, Nat.reduceSub, Int.reduceToNat]) ?_
  simp -dsimp -implicitDefEqProofs -failIfUnchanged only [↓RA, RB, RS, fx33, cast0, cast1, cast2, implies_true, Nat.reduceLT, Nat.reduceAdd, Nat.reduceMul, Nat.reduceEqDiff, reduceIte, Nat.reduceBEq, Nat.reduceLeDiff, Nat.reduceSub, Int.reduceToNat]
  refine CondH.mk (fun c1 => ?_) (fun c1 => ?_)
  · replace h := run_t c1 h
    simp -dsimp -implicitDefEqProofs -failIfUnchanged only [↓RA, RB, RS, fx33, cast0, cast1, cast2, implies_true, Nat.reduceLT, Nat.reduceAdd, Nat.reduceMul, Nat.reduceEqDiff, reduceIte, Nat.reduceBEq, Nat.reduceLeDiff, Nat.reduceSub, Int.reduceToNat, c1]
    refine CondH.mk (fun c2 => ?_) (fun c2 => ?_)
    · replace h := run_t c2 h
      simp -dsimp -implicitDefEqProofs -failIfUnchanged only [↓RA, RB, RS, fx33, cast0, cast1, cast2, implies_true, Nat.reduceLT, Nat.reduceAdd, Nat.reduceMul, Nat.reduceEqDiff, reduceIte, Nat.reduceBEq, Nat.reduceLeDiff, Nat.reduceSub, Int.reduceToNat, c1, c2]
      refine Mg.know_sl (b := false) (sz := 1) (es := a1.map I) 1 (by simp -dsimp -implicitDefEqProofs -failIfUnchanged only [↓RA, RB, RS, fx33, cast0, cast1, cast2, implies_true, Nat.reduceLT, Nat.reduceAdd, Nat.reduceMul, Nat.reduceEqDiff, reduceIte, Nat.reduceBEq, Nat.reduceLeDiff, Nat.reduceSub, Int.reduceToNat, c1, c2]) fun hl1 => ?_; rw [List.length_map] at hl1
      replace h := run_loop h
      refine Mg.forN h (fun i5 s5 => [(1, .val (.pv (.sl false 1 (a1.map I)))), (2, .box (.pv ((Linear.pv false) a0))), (6, .val (.pv (I s5))), (7, .val (.pv (I (i5 : Int))))]) (fun i5 s5 => []) (St.le_mk (by simp -dsimp -implicitDefEqProofs -failIfUnchanged only [↓RA, RB, RS, fx33, cast0, cast1, cast2, implies_true, Nat.reduceLT, Nat.reduceAdd, Nat.reduceMul, Nat.reduceEqDiff, reduceIte, Nat.reduceBEq, Nat.reduceLeDiff, Nat.reduceSub, Int.reduceToNat, c1, c2]) (by simp -dsimp -implicitDefEqProofs -failIfUnchanged only [↓RA, RB, RS, fx33, cast0, cast1, cast2, implies_true, Nat.reduceLT, Nat.reduceAdd, Nat.reduceMul, Nat.reduceEqDiff, reduceIte, Nat.reduceBEq, Nat.reduceLeDiff, Nat.reduceSub, Int.reduceToNat, c1, c2])) (fun i5 s5 hi h => ?_) (fun s5 h => ?_)
      · have w5 := wrap_succ (i := i5) (by omega)
        simp -dsimp -implicitDefEqProofs -failIfUnchanged only [↓RA, RB, RS, fx33, cast0, cast1, cast2, implies_true, Nat.reduceLT, Nat.reduceAdd, Nat.reduceMul, Nat.reduceEqDiff, reduceIte, Nat.reduceBEq, Nat.reduceLeDiff, Nat.reduceSub, Int.reduceToNat, c1, c2]
        refine CondH.tt (decide_eq_true (by omega)) (fun c3 => ?_)
        simp -dsimp -implicitDefEqProofs -failIfUnchanged only [↓RA, RB, RS, fx33, cast0, cast1, cast2, implies_true, Nat.reduceLT, Nat.reduceAdd, Nat.reduceMul, Nat.reduceEqDiff, reduceIte, Nat.reduceBEq, Nat.reduceLeDiff, Nat.reduceSub, Int.reduceToNat, c1, c2, c3]
        obtain ⟨v29, hv29, h⟩ := run_bind h
        refine IdxH.mk (f := I) hv29 (by simp -dsimp -implicitDefEqProofs -failIfUnchanged only [↓RA, RB, RS, fx33, cast0, cast1, cast2, implies_true, Nat.reduceLT, Nat.reduceAdd, Nat.reduceMul, Nat.reduceEqDiff, reduceIte, Nat.reduceBEq, Nat.reduceLeDiff, Nat.reduceSub, Int.reduceToNat, c1, c2, c3]) ?_
        simp -dsimp -implicitDefEqProofs -failIfUnchanged only [↓RA, RB, RS, fx33, cast0, cast1, cast2, implies_true, Nat.reduceLT, Nat.reduceAdd, Nat.reduceMul, Nat.reduceEqDiff, reduceIte, Nat.reduceBEq, Nat.reduceLeDiff, Nat.reduceSub, Int.reduceToNat, c1, c2, c3]
        obtain ⟨v31, hv31, h⟩ := run_bind h
        refine CallH.mk [false, false, false] (spec_l1In_sat hv31) (by simp -dsimp -implicitDefEqProofs -failIfUnchanged only [↓RA, RB, RS, fx33, cast0, cast1, cast2, implies_true, Nat.reduceLT, Nat.reduceAdd, Nat.reduceMul, Nat.reduceEqDiff, reduceIte, Nat.reduceBEq, Nat.reduceLeDiff, Nat.reduceSub, Int.reduceToNat, c1, c2, c3]) ?_
        simp -dsimp -implicitDefEqProofs -failIfUnchanged only [↓RA, RB, RS, fx33, cast0, cast1, cast2, implies_true, Nat.reduceLT, Nat.reduceAdd, Nat.reduceMul, Nat.reduceEqDiff, reduceIte, Nat.reduceBEq, Nat.reduceLeDiff, Nat.reduceSub, Int.reduceToNat, c1, c2, c3]
        refine CondH.mk (fun c4 => ?_) (fun c4 => ?_)
        · replace h := run_t c4 h
          simp -dsimp -implicitDefEqProofs -failIfUnchanged only [↓RA, RB, RS, fx33, cast0, cast1, cast2, implies_true, Nat.reduceLT, Nat.reduceAdd, Nat.reduceMul, Nat.reduceEqDiff, reduceIte, Nat.reduceBEq, Nat.reduceLeDiff, Nat.reduceSub, Int.reduceToNat, c1, c2, c3, c4]
          obtain ⟨v37, hv37, h⟩ := run_bind h
          refine IdxH.mk (f := I) hv37 (by simp -dsimp -implicitDefEqProofs -failIfUnchanged only [↓RA, RB, RS, fx33, cast0, cast1, cast2, implies_true, Nat.reduceLT, Nat.reduceAdd, Nat.reduceMul, Nat.reduceEqDiff, reduceIte, Nat.reduceBEq, Nat.reduceLeDiff, Nat.reduceSub, Int.reduceToNat, c1, c2, c3, c4]) ?_
          simp -dsimp -implicitDefEqProofs -failIfUnchanged only [↓RA, RB, RS, fx33, cast0, cast1, cast2, implies_true, Nat.reduceLT, Nat.reduceAdd, Nat.reduceMul, Nat.reduceEqDiff, reduceIte, Nat.reduceBEq, Nat.reduceLeDiff, Nat.reduceSub, Int.reduceToNat, c1, c2, c3, c4]
          obtain ⟨v41, hv41, h⟩ := run_bind h
          refine IdxH.mk (f := I) hv41 (by simp -dsimp -implicitDefEqProofs -failIfUnchanged only [↓RA, RB, RS, fx33, cast0, cast1, cast2, implies_true, Nat.reduceLT, Nat.reduceAdd, Nat.reduceMul, Nat.reduceEqDiff, reduceIte, Nat.reduceBEq, Nat.reduceLeDiff, Nat.reduceSub, Int.reduceToNat, c1, c2, c3, c4]) ?_
          simp -dsimp -implicitDefEqProofs -failIfUnchanged only [↓RA, RB, RS, fx33, cast0, cast1, cast2, implies_true, Nat.reduceLT, Nat.reduceAdd, Nat.reduceMul, Nat.reduceEqDiff, reduceIte, Nat.reduceBEq, Nat.reduceLeDiff, Nat.reduceSub, Int.reduceToNat, c1, c2, c3, c4]
          refine And.intro (DrawH.none (by rfl) (by first | rfl | (simp -dsimp -implicitDefEqProofs -failIfUnchanged only [↓RA, RB, RS, fx33, cast0, cast1, cast2, implies_true, Nat.reduceLT, Nat.reduceAdd, Nat.reduceMul, Nat.reduceEqDiff, reduceIte, Nat.reduceBEq, Nat.reduceLeDiff, Nat.reduceSub, Int.reduceToNat] <;> rfl)) (by first | rfl | (simp -dsimp -implicitDefEqProofs -failIfUnchanged only [↓RA, RB, RS, fx33, cast0, cast1, cast2, implies_true, Nat.reduceLT, Nat.reduceAdd, Nat.reduceMul, Nat.reduceEqDiff, reduceIte, Nat.reduceBEq, Nat.reduceLeDiff, Nat.reduceSub, Int.reduceToNat] <;> rfl)) (by first | rfl | (simp -dsimp -implicitDefEqProofs -failIfUnchanged only [↓RA, RB, RS, fx33, cast0, cast1, cast2, implies_true, Nat.reduceLT, Nat.reduceAdd, Nat.reduceMul, Nat.reduceEqDiff, reduceIte, Nat.reduceBEq, Nat.reduceLeDiff, Nat.reduceSub, Int.reduceToNat] <;> rfl))) ?_
          simp -dsimp -implicitDefEqProofs -failIfUnchanged only [↓RA, RB, RS, fx33, cast0, cast1, cast2, implies_true, Nat.reduceLT, Nat.reduceAdd, Nat.reduceMul, Nat.reduceEqDiff, reduceIte, Nat.reduceBEq, Nat.reduceLeDiff, Nat.reduceSub, Int.reduceToNat, c1, c2, c3, c4]
          have h := run_some h
          refine RdH.mk ⟨_, h, ?_⟩
          refine St.le_mk ?_ ?_
          · simp -dsimp -implicitDefEqProofs -failIfUnchanged only [↓RA, RB, RS, fx33, cast0, cast1, cast2, implies_true, Nat.reduceLT, Nat.reduceAdd, Nat.reduceMul, Nat.reduceEqDiff, reduceIte, Nat.reduceBEq, Nat.reduceLeDiff, Nat.reduceSub, Int.reduceToNat, c1, c2, c3, c4, w5]
          · simp -dsimp -implicitDefEqProofs -failIfUnchanged only [↓RA, RB, RS, fx33, cast0, cast1, cast2, implies_true, Nat.reduceLT, Nat.reduceAdd, Nat.reduceMul, Nat.reduceEqDiff, reduceIte, Nat.reduceBEq, Nat.reduceLeDiff, Nat.reduceSub, Int.reduceToNat, c1, c2, c3, c4, w5]
        · replace h := run_f c4 h
          simp -dsimp -implicitDefEqProofs -failIfUnchanged only [↓RA, RB, RS, fx33, cast0, cast1, cast2, implies_true, Nat.reduceLT, Nat.reduceAdd, Nat.reduceMul, Nat.reduceEqDiff, reduceIte, Nat.reduceBEq, Nat.reduceLeDiff, Nat.reduceSub, Int.reduceToNat, c1, c2, c3, c4]
          have h := run_some h
          obtain rfl : _ = r := h
          refine FinH.l ?_
          simp -dsimp -implicitDefEqProofs -failIfUnchanged only [↓RA, RB, RS, fx33, cast0, cast1, cast2, implies_true, Nat.reduceLT, Nat.reduceAdd, Nat.reduceMul, Nat.reduceEqDiff, reduceIte, Nat.reduceBEq, Nat.reduceLeDiff, Nat.reduceSub, Int.reduceToNat]
      · simp -dsimp -implicitDefEqProofs -failIfUnchanged only [↓RA, RB, RS, fx33, cast0, cast1, cast2, implies_true, Nat.reduceLT, Nat.reduceAdd, Nat.reduceMul, Nat.reduceEqDiff, reduceIte, Nat.reduceBEq, Nat.reduceLeDiff, Nat.reduceSub, Int.reduceToNat, c1, c2]
        refine CondH.ff (decide_eq_false (by omega)) (fun c5 => ?_)
        simp -dsimp -implicitDefEqProofs -failIfUnchanged only [↓RA, RB, RS, fx33, cast0, cast1, cast2, implies_true, Nat.reduceLT, Nat.reduceAdd, Nat.reduceMul, Nat.reduceEqDiff, reduceIte, Nat.reduceBEq, Nat.reduceLeDiff, Nat.reduceSub, Int.reduceToNat, c1, c2, c5]
        have h := run_some h
        obtain rfl : _ = r := h
        refine FinH.l ?_
        simp -dsimp -implicitDefEqProofs -failIfUnchanged only [↓RA, RB, RS, fx33, cast0, cast1, cast2, implies_true, Nat.reduceLT, Nat.reduceAdd, Nat.reduceMul, Nat.reduceEqDiff, reduceIte, Nat.reduceBEq, Nat.reduceLeDiff, Nat.reduceSub, Int.reduceToNat]
    · replace h := run_f c2 h
      simp -dsimp -implicitDefEqProofs -failIfUnchanged only [↓RA, RB, RS, fx33, cast0, cast1, cast2, implies_true, Nat.reduceLT, Nat.reduceAdd, Nat.reduceMul, Nat.reduceEqDiff, reduceIte, Nat.reduceBEq, Nat.reduceLeDiff, Nat.reduceSub, Int.reduceToNat, c1, c2]
      have h := run_some h
      obtain rfl : _ = r := h
      refine FinH.l ?_
      simp -dsimp -implicitDefEqProofs -failIfUnchanged only [↓RA, RB, RS, fx33, cast0, cast1, cast2, implies_true, Nat.reduceLT, Nat.reduceAdd, Nat.reduceMul, Nat.reduceEqDiff, reduceIte, Nat.reduceBEq, Nat.reduceLeDiff, Nat.reduceSub, Int.reduceToNat]
  · replace h := run_f c1 h
    simp -dsimp -implicitDefEqProofs -failIfUnchanged only [↓RA, RB, RS, fx33, cast0, cast1, cast2, implies_true, Nat.reduceLT, Nat.reduceAdd, Nat.reduceMul, Nat.reduceEqDiff, reduceIte, Nat.reduceBEq, Nat.reduceLeDiff, Nat.reduceSub, Int.reduceToNat, c1]
    have h := run_some h
    obtain rfl : _ = r := h
    refine FinH.l ?_
    simp -dsimp -implicitDefEqProofs -failIfUnchanged only [↓RA, RB, RS, fx33, cast0, cast1, cast2, implies_true, Nat.reduceLT, Nat.reduceAdd, Nat.reduceMul, Nat.reduceEqDiff, reduceIte, Nat.reduceBEq, Nat.reduceLeDiff, Nat.reduceSub, Int.reduceToNat]

def fx62 := And.intro @ty_3 <| And.intro @zc_3 <| @z_3
set_option maxHeartbeats 4000000 in
theorem impl_within_sat {a0 : Int} {a1 : Int} {a2 : Int}  {r : Bool} (h : impl_within a0 a1 a2 = some r) : Sat Try.prog 62 [(I a0), (I a1), (I a2)] (B r) := by
  replace h := Run.of h
  unfold impl_within at h
  refine Sat.of_m (nt := 15) (rs := [.tmp 6]) (n := 100000) Try.func62 rfl rfl rfl rfl (by simp) ?_
  simp -dsimp -implicitDefEqProofs -failIfUnchanged only [↓RA, RB, RS, fx62, cast0, cast1, cast2, implies_true, Nat.reduceLT, Nat.reduceAdd, Nat.reduceMul, Nat.reduceEqDiff, reduceIte, Nat.reduceBEq, Nat.reduceLeDiff, Nat.reduceSub, Int.reduceToNat]
  refine CondH.mk (fun c1 => ?_) (fun c1 => ?_)
  · replace h := run_t c1 h
    simp -dsimp -implicitDefEqProofs -failIfUnchanged only [↓RA, RB, RS, fx62, cast0, cast1, cast2, implies_true, Nat.reduceLT, Nat.reduceAdd, Nat.reduceMul, Nat.reduceEqDiff, reduceIte, Nat.reduceBEq, Nat.reduceLeDiff, Nat.reduceSub, Int.reduceToNat, c1]
    have h := run_some h
    obtain rfl : _ = r := h
    refine FinH.l ?_
    simp -dsimp -implicitDefEqProofs -failIfUnchanged only [↓RA, RB, RS, fx62, cast0, cast1, cast2, implies_true, Nat.reduceLT, Nat.reduceAdd, Nat.reduceMul, Nat.reduceEqDiff, reduceIte, Nat.reduceBEq, Nat.reduceLeDiff, Nat.reduceSub, Int.reduceToNat]
  · replace h := run_f c1 h
    simp -dsimp -implicitDefEqProofs -failIfUnchanged only [↓RA, RB, RS, fx62, cast0, cast1, cast2, implies_true, Nat.reduceLT, Nat.reduceAdd, Nat.reduceMul, Nat.reduceEqDiff, reduceIte, Nat.reduceBEq, Nat.reduceLeDiff, Nat.reduceSub, Int.reduceToNat, c1]
    have h := run_some h
    obtain rfl : _ = r := h
    refine FinH.l ?_
    simp -dsimp -implicitDefEqProofs -failIfUnchanged only [↓RA, RB, RS, fx62, cast0, cast1, cast2, implies_true, Nat.reduceLT, Nat.reduceAdd, Nat.reduceMul, Nat.reduceEqDiff, reduceIte, Nat.reduceBEq, Nat.reduceLeDiff, Nat.reduceSub, Int.reduceToNat]

def fx121 := And.intro @ty_5 <| And.intro @zc_5 <| @z_5
set_option maxHeartbeats 4000000 in
theorem impl_isUpper_sat {a0 : Int}  {r : Bool} (h : impl_isUpper a0 = some r) : Sat Try.prog 121 [((Ik .u8) a0)] (B r) := by
  replace h := Run.of h
  unfold impl_isUpper at h
  refine Sat.of_m (nt := 9) (rs := [.tmp 2]) (n := 100000) Try.func121 rfl rfl rfl rfl (by simp) ?_
  simp -dsimp -implicitDefEqProofs -failIfUnchanged only [↓RA, RB, RS, fx121, cast0, cast1, cast2, implies_true, Nat.reduceLT, Nat.reduceAdd, Nat.reduceMul, Nat.reduceEqDiff, reduceIte, Nat.reduceBEq, Nat.reduceLeDiff, Nat.reduceSub, Int.reduceToNat]
  refine CondH.mk (fun c1 => ?_) (fun c1 => ?_)
  · replace h := run_t c1 h
    simp -dsimp -implicitDefEqProofs -failIfUnchanged only [↓RA, RB, RS, fx121, cast0, cast1, cast2, implies_true, Nat.reduceLT, Nat.reduceAdd, Nat.reduceMul, Nat.reduceEqDiff, reduceIte, Nat.reduceBEq, Nat.reduceLeDiff, Nat.reduceSub, Int.reduceToNat, c1]
    have h := run_some h
    obtain rfl : _ = r := h
    refine FinH.l ?_
    simp -dsimp -implicitDefEqProofs -failIfUnchanged only [↓RA, RB, RS, fx121, cast0, cast1, cast2, implies_true, Nat.reduceLT, Nat.reduceAdd, Nat.reduceMul, Nat.reduceEqDiff, reduceIte, Nat.reduceBEq, Nat.reduceLeDiff, Nat.reduceSub, Int.reduceToNat]
  · replace h := run_f c1 h
    simp -dsimp -implicitDefEqProofs -failIfUnchanged only [↓RA, RB, RS, fx121, cast0, cast1, cast2, implies_true, Nat.reduceLT, Nat.reduceAdd, Nat.reduceMul, Nat.reduceEqDiff, reduceIte, Nat.reduceBEq, Nat.reduceLeDiff, Nat.reduceSub, Int.reduceToNat, c1]
    have h := run_some h
    obtain rfl : _ = r := h
    refine FinH.l ?_
    simp -dsimp -implicitDefEqProofs -failIfUnchanged only [↓RA, RB, RS, fx121, cast0, cast1, cast2, implies_true, Nat.reduceLT, Nat.reduceAdd, Nat.reduceMul, Nat.reduceEqDiff, reduceIte, Nat.reduceBEq, Nat.reduceLeDiff, Nat.reduceSub, Int.reduceToNat]

def fx122 := And.intro @ty_5 <| And.intro @zc_5 <| @z_5
set_option maxHeartbeats 4000000 in
theorem impl_isLower_sat {a0 : Int}  {r : Bool} (h : impl_isLower a0 = some r) : Sat Try.prog 122 [((Ik .u8) a0)] (B r) := by
  replace h := Run.of h
  unfold impl_isLower at h
  refine Sat.of_m (nt := 9) (rs := [.tmp 2]) (n := 100000) Try.func122 rfl rfl rfl rfl (by simp) ?_
  simp -dsimp -implicitDefEqProofs -failIfUnchanged only [↓RA, RB, RS, fx122, cast0, cast1, cast2, implies_true, Nat.reduceLT, Nat.reduceAdd, Nat.reduceMul, Nat.reduceEqDiff, reduceIte, Nat.reduceBEq, Nat.reduceLeDiff, Nat.reduceSub, Int.reduceToNat]
  refine CondH.mk (fun c1 => ?_) (fun c1 => ?_)
  · replace h := run_t c1 h
    simp -dsimp -implicitDefEqProofs -failIfUnchanged only [↓RA, RB, RS, fx122, cast0, cast1, cast2, implies_true, Nat.reduceLT, Nat.reduceAdd, Nat.reduceMul, Nat.reduceEqDiff, reduceIte, Nat.reduceBEq, Nat.reduceLeDiff, Nat.reduceSub, Int.reduceToNat, c1]
    have h := run_some h
    obtain rfl : _ = r := h
    refine FinH.l ?_
    simp -dsimp -implicitDefEqProofs -failIfUnchanged only [↓RA, RB, RS, fx122, cast0, cast1, cast2, implies_true, Nat.reduceLT, Nat.reduceAdd, Nat.reduceMul, Nat.reduceEqDiff, reduceIte, Nat.reduceBEq, Nat.reduceLeDiff, Nat.reduceSub, Int.reduceToNat]
  · replace h := run_f c1 h
    simp -dsimp -implicitDefEqProofs -failIfUnchanged only [↓RA, RB, RS, fx122, cast0, cast1, cast2, implies_true, Nat.reduceLT, Nat.reduceAdd, Nat.reduceMul, Nat.reduceEqDiff, reduceIte, Nat.reduceBEq, Nat.reduceLeDiff, Nat.reduceSub, Int.reduceToNat, c1]
    have h := run_some h
    obtain rfl : _ = r := h
    refine FinH.l ?_
    simp -dsimp -implicitDefEqProofs -failIfUnchanged only [↓RA, RB, RS, fx122, cast0, cast1, cast2, implies_true, Nat.reduceLT, Nat.reduceAdd, Nat.reduceMul, Nat.reduceEqDiff, reduceIte, Nat.reduceBEq, Nat.reduceLeDiff, Nat.reduceSub, Int.reduceToNat]

def fx123 := And.intro @ty_5 <| And.intro @zc_5 <| @z_5
set_option maxHeartbeats 4000000 in
theorem impl_isDigit_sat {a0 : Int}  {r : Bool} (h : impl_isDigit a0 = some r) : Sat Try.prog 123 [((Ik .u8) a0)] (B r) := by
  replace h := Run.of h
  unfold impl_isDigit at h
  refine Sat.of_m (nt := 9) (rs := [.tmp 2]) (n := 100000) Try.func123 rfl rfl rfl rfl (by simp) ?_
  simp -dsimp -implicitDefEqProofs -failIfUnchanged only [↓RA, RB, RS, fx123, cast0, cast1, cast2, implies_true, Nat.reduceLT, Nat.reduceAdd, Nat.reduceMul, Nat.reduceEqDiff, reduceIte, Nat.reduceBEq, Nat.reduceLeDiff, Nat.reduceSub, Int.reduceToNat]
  refine CondH.mk (fun c1 => ?_) (fun c1 => ?_)
  · replace h := run_t c1 h
    simp -dsimp -implicitDefEqProofs -failIfUnchanged only [↓RA, RB, RS, fx123, cast0, cast1, cast2, implies_true, Nat.reduceLT, Nat.reduceAdd, Nat.reduceMul, Nat.reduceEqDiff, reduceIte, Nat.reduceBEq, Nat.reduceLeDiff, Nat.reduceSub, Int.reduceToNat, c1]
    have h := run_some h
    obtain rfl : _ = r := h
    refine FinH.l ?_
    simp -dsimp -implicitDefEqProofs -failIfUnchanged only [↓RA, RB, RS, fx123, cast0, cast1, cast2, implies_true, Nat.reduceLT, Nat.reduceAdd, Nat.reduceMul, Nat.reduceEqDiff, reduceIte, Nat.reduceBEq, Nat.reduceLeDiff, Nat.reduceSub, Int.reduceToNat]
  · replace h := run_f c1 h
    simp -dsimp -implicitDefEqProofs -failIfUnchanged only [↓RA, RB, RS, fx123, cast0, cast1, cast2, implies_true, Nat.reduceLT, Nat.reduceAdd, Nat.reduceMul, Nat.reduceEqDiff, reduceIte, Nat.reduceBEq, Nat.reduceLeDiff, Nat.reduceSub, Int.reduceToNat, c1]
    have h := run_some h
    obtain rfl : _ = r := h
    refine FinH.l ?_
    simp -dsimp -implicitDefEqProofs -failIfUnchanged only [↓RA, RB, RS, fx123, cast0, cast1, cast2, implies_true, Nat.reduceLT, Nat.reduceAdd, Nat.reduceMul, Nat.reduceEqDiff, reduceIte, Nat.reduceBEq, Nat.reduceLeDiff, Nat.reduceSub, Int.reduceToNat]

def fx79 := And.intro @ty_3 <| And.intro @zc_3 <| And.intro @z_3 <| And.intro @ty_4 <| And.intro @zc_4 <| And.intro @z_4 <| And.intro @u_4 <| And.intro @ty_5 <| And.intro @zc_5 <| And.intro @z_5 <| And.intro @ty_9 <| And.intro @zc_9 <| And.intro @z_9 <| @u_9
set_option maxHeartbeats 4000000 in
theorem impl_isVariable_sat {a0 : ByteArray}  {r : Bool} (h : impl_isVariable a0 = some r) : Sat Try.prog 79 [(Sx a0)] (B r) := by
  replace h := Run.of h
  unfold impl_isVariable at h
  refine Sat.of_m (nt := 40) (rs := [.tmp 2]) (n := 100000) Try.func79 rfl rfl rfl rfl (by simp) ?_
  simp -dsimp -implicitDefEqProofs -failIfUnchanged only [↓RA, RB, RS, fx79, cast0, cast1, cast2, implies_true, Nat.reduceLT, Nat.reduceAdd, Nat.reduceMul, Nat.reduceEqDiff, reduceIte, Nat.reduceBEq, Nat.reduceLeDiff, Nat.reduceSub, Int.reduceToNat]
  obtain ⟨N2, hN2, h⟩ := run_bind h
  obtain ⟨hN2a, hN2b⟩ := bnd_some hN2
  replace h := run_loop h
  refine Mg.forN h (fun i2 s2 => [(0, .val (.pv (Sx a0))), (5, .val (.pv (I (a0.size : Int)))), (6, .val (.pv (I (i2 : Int))))]) (fun i2 s2 => []) (St.le_mk (by simp -dsimp -implicitDefEqProofs -failIfUnchanged only [↓RA, RB, RS, fx79, cast0, cast1, cast2, implies_true, Nat.reduceLT, Nat.reduceAdd, Nat.reduceMul, Nat.reduceEqDiff, reduceIte, Nat.reduceBEq, Nat.reduceLeDiff, Nat.reduceSub, Int.reduceToNat]) (by simp -dsimp -implicitDefEqProofs -failIfUnchanged only [↓RA, RB, RS, fx79, cast0, cast1, cast2, implies_true, Nat.reduceLT, Nat.reduceAdd, Nat.reduceMul, Nat.reduceEqDiff, reduceIte, Nat.reduceBEq, Nat.reduceLeDiff, Nat.reduceSub, Int.reduceToNat])) (fun i2 s2 hi h => ?_) (fun s2 h => ?_)
  · have w2 := wrap_succ (i := i2) (by omega)
    simp -dsimp -implicitDefEqProofs -failIfUnchanged only [↓RA, RB, RS, fx79, cast0, cast1, cast2, implies_true, Nat.reduceLT, Nat.reduceAdd, Nat.reduceMul, Nat.reduceEqDiff, reduceIte, Nat.reduceBEq, Nat.reduceLeDiff, Nat.reduceSub, Int.reduceToNat]
    refine CondH.tt (decide_eq_true (by omega)) (fun c1 => ?_)
    simp -dsimp -implicitDefEqProofs -failIfUnchanged only [↓RA, RB, RS, fx79, cast0, cast1, cast2, implies_true, Nat.reduceLT, Nat.reduceAdd, Nat.reduceMul, Nat.reduceEqDiff, reduceIte, Nat.reduceBEq, Nat.reduceLeDiff, Nat.reduceSub, Int.reduceToNat, c1]
    refine CondH.mk (fun c2 => ?_) (fun c2 => ?_)
    · replace h := run_t c2 h
      simp -dsimp -implicitDefEqProofs -failIfUnchanged only [↓RA, RB, RS, fx79, cast0, cast1, cast2, implies_true, Nat.reduceLT, Nat.reduceAdd, Nat.reduceMul, Nat.reduceEqDiff, reduceIte, Nat.reduceBEq, Nat.reduceLeDiff, Nat.reduceSub, Int.reduceToNat, c1, c2]
      obtain ⟨v14, hv14, h⟩ := run_bind h
      refine SidxH.mk hv14 ?_
      simp -dsimp -implicitDefEqProofs -failIfUnchanged only [↓RA, RB, RS, fx79, cast0, cast1, cast2, implies_true, Nat.reduceLT, Nat.reduceAdd, Nat.reduceMul, Nat.reduceEqDiff, reduceIte, Nat.reduceBEq, Nat.reduceLeDiff, Nat.reduceSub, Int.reduceToNat, c1, c2]
      obtain ⟨v15, hv15, h⟩ := run_bind h
      refine CallH.mk [false] (impl_isUpper_sat hv15) (by simp -dsimp -implicitDefEqProofs -failIfUnchanged only [↓RA, RB, RS, fx79, cast0, cast1, cast2, implies_true, Nat.reduceLT, Nat.reduceAdd, Nat.reduceMul, Nat.reduceEqDiff, reduceIte, Nat.reduceBEq, Nat.reduceLeDiff, Nat.reduceSub, Int.reduceToNat, c1, c2]) ?_
      simp -dsimp -implicitDefEqProofs -failIfUnchanged only [↓RA, RB, RS, fx79, cast0, cast1, cast2, implies_true, Nat.reduceLT, Nat.reduceAdd, Nat.reduceMul, Nat.reduceEqDiff, reduceIte, Nat.reduceBEq, Nat.reduceLeDiff, Nat.reduceSub, Int.reduceToNat, c1, c2]
      refine CondH.mk (fun c3 => ?_) (fun c3 => ?_)
      · replace h := run_t c3 h
        simp -dsimp -implicitDefEqProofs -failIfUnchanged only [↓RA, RB, RS, fx79, cast0, cast1, cast2, implies_true, Nat.reduceLT, Nat.reduceAdd, Nat.reduceMul, Nat.reduceEqDiff, reduceIte, Nat.reduceBEq, Nat.reduceLeDiff, Nat.reduceSub, Int.reduceToNat, c1, c2, c3]
        refine CondH.mk (fun c4 => ?_) (fun c4 => ?_)
        · replace h := run_t c4 h
          simp -dsimp -implicitDefEqProofs -failIfUnchanged only [↓RA, RB, RS, fx79, cast0, cast1, cast2, implies_true, Nat.reduceLT, Nat.reduceAdd, Nat.reduceMul, Nat.reduceEqDiff, reduceIte, Nat.reduceBEq, Nat.reduceLeDiff, Nat.reduceSub, Int.reduceToNat, c1, c2, c3, c4]
          obtain ⟨v24, hv24, h⟩ := run_bind h
          refine SidxH.mk hv24 ?_
          simp -dsimp -implicitDefEqProofs -failIfUnchanged only [↓RA, RB, RS, fx79, cast0, cast1, cast2, implies_true, Nat.reduceLT, Nat.reduceAdd, Nat.reduceMul, Nat.reduceEqDiff, reduceIte, Nat.reduceBEq, Nat.reduceLeDiff, Nat.reduceSub, Int.reduceToNat, c1, c2, c3, c4]
          obtain ⟨v25, hv25, h⟩ := run_bind h
          refine CallH.mk [false] (impl_isLower_sat hv25) (by simp -dsimp -implicitDefEqProofs -failIfUnchanged only [↓RA, RB, RS, fx79, cast0, cast1, cast2, implies_true, Nat.reduceLT, Nat.reduceAdd, Nat.reduceMul, Nat.reduceEqDiff, reduceIte, Nat.reduceBEq, Nat.reduceLeDiff, Nat.reduceSub, Int.reduceToNat, c1, c2, c3, c4]) ?_
          simp -dsimp -implicitDefEqProofs -failIfUnchanged only [↓RA, RB, RS, fx79, cast0, cast1, cast2, implies_true, Nat.reduceLT, Nat.reduceAdd, Nat.reduceMul, Nat.reduceEqDiff, reduceIte, Nat.reduceBEq, Nat.reduceLeDiff, Nat.reduceSub, Int.reduceToNat, c1, c2, c3, c4]
          refine CondH.mk (fun c5 => ?_) (fun c5 => ?_)
          · replace h := run_t c5 h
            simp -dsimp -implicitDefEqProofs -failIfUnchanged only [↓RA, RB, RS, fx79, cast0, cast1, cast2, implies_true, Nat.reduceLT, Nat.reduceAdd, Nat.reduceMul, Nat.reduceEqDiff, reduceIte, Nat.reduceBEq, Nat.reduceLeDiff, Nat.reduceSub, Int.reduceToNat, c1, c2, c3, c4, c5]
            have h := run_some h
            refine RdH.mk ⟨_, h, ?_⟩
            refine St.le_mk ?_ ?_
            · simp -dsimp -implicitDefEqProofs -failIfUnchanged only [↓RA, RB, RS, fx79, cast0, cast1, cast2, implies_true, Nat.reduceLT, Nat.reduceAdd, Nat.reduceMul, Nat.reduceEqDiff, reduceIte, Nat.reduceBEq, Nat.reduceLeDiff, Nat.reduceSub, Int.reduceToNat, c1, c2, c3, c4, c5, w2]
            · simp -dsimp -implicitDefEqProofs -failIfUnchanged only [↓RA, RB, RS, fx79, cast0, cast1, cast2, implies_true, Nat.reduceLT, Nat.reduceAdd, Nat.reduceMul, Nat.reduceEqDiff, reduceIte, Nat.reduceBEq, Nat.reduceLeDiff, Nat.reduceSub, Int.reduceToNat, c1, c2, c3, c4, c5, w2]
          · replace h := run_f c5 h
            simp -dsimp -implicitDefEqProofs -failIfUnchanged only [↓RA, RB, RS, fx79, cast0, cast1, cast2, implies_true, Nat.reduceLT, Nat.reduceAdd, Nat.reduceMul, Nat.reduceEqDiff, reduceIte, Nat.reduceBEq, Nat.reduceLeDiff, Nat.reduceSub, Int.reduceToNat, c1, c2, c3, c4, c5]
            obtain ⟨v31, hv31, h⟩ := run_bind h
            refine SidxH.mk hv31 ?_
            simp -dsimp -implicitDefEqProofs -failIfUnchanged only [↓RA, RB, RS, fx79, cast0, cast1, cast2, implies_true, Nat.reduceLT, Nat.reduceAdd, Nat.reduceMul, Nat.reduceEqDiff, reduceIte, Nat.reduceBEq, Nat.reduceLeDiff, Nat.reduceSub, Int.reduceToNat, c1, c2, c3, c4, c5]
            obtain ⟨v32, hv32, h⟩ := run_bind h
            refine CallH.mk [false] (impl_isDigit_sat hv32) (by simp -dsimp -implicitDefEqProofs -failIfUnchanged only [↓RA, RB, RS, fx79, cast0, cast1, cast2, implies_true, Nat.reduceLT, Nat.reduceAdd, Nat.reduceMul, Nat.reduceEqDiff, reduceIte, Nat.reduceBEq, Nat.reduceLeDiff, Nat.reduceSub, Int.reduceToNat, c1, c2, c3, c4, c5]) ?_
            simp -dsimp -implicitDefEqProofs -failIfUnchanged only [↓RA, RB, RS, fx79, cast0, cast1, cast2, implies_true, Nat.reduceLT, Nat.reduceAdd, Nat.reduceMul, Nat.reduceEqDiff, reduceIte, Nat.reduceBEq, Nat.reduceLeDiff, Nat.reduceSub, Int.reduceToNat, c1, c2, c3, c4, c5]
            refine CondH.mk (fun c6 => ?_) (fun c6 => ?_)
            · replace h := run_t c6 h
              simp -dsimp -implicitDefEqProofs -failIfUnchanged only [↓RA, RB, RS, fx79, cast0, cast1, cast2, implies_true, Nat.reduceLT, Nat.reduceAdd, Nat.reduceMul, Nat.reduceEqDiff, reduceIte, Nat.reduceBEq, Nat.reduceLeDiff, Nat.reduceSub, Int.reduceToNat, c1, c2, c3, c4, c5, c6]
              have h := run_some h
              refine RdH.mk ⟨_, h, ?_⟩
              refine St.le_mk ?_ ?_
              · simp -dsimp -implicitDefEqProofs -failIfUnchanged only [↓RA, RB, RS, fx79, cast0, cast1, cast2, implies_true, Nat.reduceLT, Nat.reduceAdd, Nat.reduceMul, Nat.reduceEqDiff, reduceIte, Nat.reduceBEq, Nat.reduceLeDiff, Nat.reduceSub, Int.reduceToNat, c1, c2, c3, c4, c5, c6, w2]
              · simp -dsimp -implicitDefEqProofs -failIfUnchanged only [↓RA, RB, RS, fx79, cast0, cast1, cast2, implies_true, Nat.reduceLT, Nat.reduceAdd, Nat.reduceMul, Nat.reduceEqDiff, reduceIte, Nat.reduceBEq, Nat.reduceLeDiff, Nat.reduceSub, Int.reduceToNat, c1, c2, c3, c4, c5, c6, w2]
            · replace h := run_f c6 h
              simp -dsimp -implicitDefEqProofs -failIfUnchanged only [↓RA, RB, RS, fx79, cast0, cast1, cast2, implies_true, Nat.reduceLT, Nat.reduceAdd, Nat.reduceMul, Nat.reduceEqDiff, reduceIte, Nat.reduceBEq, Nat.reduceLeDiff, Nat.reduceSub, Int.reduceToNat, c1, c2, c3, c4, c5, c6]
              have h := run_some h
              obtain rfl : _ = r := h
              refine FinH.l ?_
              simp -dsimp -implicitDefEqProofs -failIfUnchanged only [↓RA, RB, RS, fx79, cast0, cast1, cast2, implies_true, Nat.reduceLT, Nat.reduceAdd, Nat.reduceMul, Nat.reduceEqDiff, reduceIte, Nat.reduceBEq, Nat.reduceLeDiff, Nat.reduceSub, Int.reduceToNat]
        · replace h := run_f c4 h
          simp -dsimp -implicitDefEqProofs -failIfUnchanged only [↓RA, RB, RS, fx79, cast0, cast1, cast2, implies_true, Nat.reduceLT, Nat.reduceAdd, Nat.reduceMul, Nat.reduceEqDiff, reduceIte, Nat.reduceBEq, Nat.reduceLeDiff, Nat.reduceSub, Int.reduceToNat, c1, c2, c3, c4]
          have h := run_some h
          refine RdH.mk ⟨_, h, ?_⟩
          refine St.le_mk ?_ ?_
          · simp -dsimp -implicitDefEqProofs -failIfUnchanged only [↓RA, RB, RS, fx79, cast0, cast1, cast2, implies_true, Nat.reduceLT, Nat.reduceAdd, Nat.reduceMul, Nat.reduceEqDiff, reduceIte, Nat.reduceBEq, Nat.reduceLeDiff, Nat.reduceSub, Int.reduceToNat, c1, c2, c3, c4, w2]
          · simp -dsimp -implicitDefEqProofs -failIfUnchanged only [↓RA, RB, RS, fx79, cast0, cast1, cast2, implies_true, Nat.reduceLT, Nat.reduceAdd, Nat.reduceMul, Nat.reduceEqDiff, reduceIte, Nat.reduceBEq, Nat.reduceLeDiff, Nat.reduceSub, Int.reduceToNat, c1, c2, c3, c4, w2]
      · replace h := run_f c3 h
        simp -dsimp -implicitDefEqProofs -failIfUnchanged only [↓RA, RB, RS, fx79, cast0, cast1, cast2, implies_true, Nat.reduceLT, Nat.reduceAdd, Nat.reduceMul, Nat.reduceEqDiff, reduceIte, Nat.reduceBEq, Nat.reduceLeDiff, Nat.reduceSub, Int.reduceToNat, c1, c2, c3]
        have h := run_some h
        obtain rfl : _ = r := h
        refine FinH.l ?_
        simp -dsimp -implicitDefEqProofs -failIfUnchanged only [↓RA, RB, RS, fx79, cast0, cast1, cast2, implies_true, Nat.reduceLT, Nat.reduceAdd, Nat.reduceMul, Nat.reduceEqDiff, reduceIte, Nat.reduceBEq, Nat.reduceLeDiff, Nat.reduceSub, Int.reduceToNat]
    · replace h := run_f c2 h
      simp -dsimp -implicitDefEqProofs -failIfUnchanged only [↓RA, RB, RS, fx79, cast0, cast1, cast2, implies_true, Nat.reduceLT, Nat.reduceAdd, Nat.reduceMul, Nat.reduceEqDiff, reduceIte, Nat.reduceBEq, Nat.reduceLeDiff, Nat.reduceSub, Int.reduceToNat, c1, c2]
      refine CondH.mk (fun c7 => ?_) (fun c7 => ?_)
      · replace h := run_t c7 h
        simp -dsimp -implicitDefEqProofs -failIfUnchanged only [↓RA, RB, RS, fx79, cast0, cast1, cast2, implies_true, Nat.reduceLT, Nat.reduceAdd, Nat.reduceMul, Nat.reduceEqDiff, reduceIte, Nat.reduceBEq, Nat.reduceLeDiff, Nat.reduceSub, Int.reduceToNat, c1, c2, c7]
        obtain ⟨v24, hv24, h⟩ := run_bind h
        refine SidxH.mk hv24 ?_
        simp -dsimp -implicitDefEqProofs -failIfUnchanged only [↓RA, RB, RS, fx79, cast0, cast1, cast2, implies_true, Nat.reduceLT, Nat.reduceAdd, Nat.reduceMul, Nat.reduceEqDiff, reduceIte, Nat.reduceBEq, Nat.reduceLeDiff, Nat.reduceSub, Int.reduceToNat, c1, c2, c7]
        obtain ⟨v25, hv25, h⟩ := run_bind h
        refine CallH.mk [false] (impl_isLower_sat hv25) (by simp -dsimp -implicitDefEqProofs -failIfUnchanged only [↓RA, RB, RS, fx79, cast0, cast1, cast2, implies_true, Nat.reduceLT, Nat.reduceAdd, Nat.reduceMul, Nat.reduceEqDiff, reduceIte, Nat.reduceBEq, Nat.reduceLeDiff, Nat.reduceSub, Int.reduceToNat, c1, c2, c7]) ?_
        simp -dsimp -implicitDefEqProofs -failIfUnchanged only [↓RA, RB, RS, fx79, cast0, cast1, cast2, implies_true, Nat.reduceLT, Nat.reduceAdd, Nat.reduceMul, Nat.reduceEqDiff, reduceIte, Nat.reduceBEq, Nat.reduceLeDiff, Nat.reduceSub, Int.reduceToNat, c1, c2, c7]
        refine CondH.mk (fun c8 => ?_) (fun c8 => ?_)
        · replace h := run_t c8 h
          simp -dsimp -implicitDefEqProofs -failIfUnchanged only [↓RA, RB, RS, fx79, cast0, cast1, cast2, implies_true, Nat.reduceLT, Nat.reduceAdd, Nat.reduceMul, Nat.reduceEqDiff, reduceIte, Nat.reduceBEq, Nat.reduceLeDiff, Nat.reduceSub, Int.reduceToNat, c1, c2, c7, c8]
          have h := run_some h
          refine RdH.mk ⟨_, h, ?_⟩
          refine St.le_mk ?_ ?_
          · simp -dsimp -implicitDefEqProofs -failIfUnchanged only [↓RA, RB, RS, fx79, cast0, cast1, cast2, implies_true, Nat.reduceLT, Nat.reduceAdd, Nat.reduceMul, Nat.reduceEqDiff, reduceIte, Nat.reduceBEq, Nat.reduceLeDiff, Nat.reduceSub, Int.reduceToNat, c1, c2, c7, c8, w2]
          · simp -dsimp -implicitDefEqProofs -failIfUnchanged only [↓RA, RB, RS, fx79, cast0, cast1, cast2, implies_true, Nat.reduceLT, Nat.reduceAdd, Nat.reduceMul, Nat.reduceEqDiff, reduceIte, Nat.reduceBEq, Nat.reduceLeDiff, Nat.reduceSub, Int.reduceToNat, c1, c2, c7, c8, w2]
        · replace h := run_f c8 h
          simp -dsimp -implicitDefEqProofs -failIfUnchanged only [↓RA, RB, RS, fx79, cast0, cast1, cast2, implies_true, Nat.reduceLT, Nat.reduceAdd, Nat.reduceMul, Nat.reduceEqDiff, reduceIte, Nat.reduceBEq, Nat.reduceLeDiff, Nat.reduceSub, Int.reduceToNat, c1, c2, c7, c8]
          obtain ⟨v31, hv31, h⟩ := run_bind h
          refine SidxH.mk hv31 ?_
          simp -dsimp -implicitDefEqProofs -failIfUnchanged only [↓RA, RB, RS, fx79, cast0, cast1, cast2, implies_true, Nat.reduceLT, Nat.reduceAdd, Nat.reduceMul, Nat.reduceEqDiff, reduceIte, Nat.reduceBEq, Nat.reduceLeDiff, Nat.reduceSub, Int.reduceToNat, c1, c2, c7, c8]
          obtain ⟨v32, hv32, h⟩ := run_bind h
          refine CallH.mk [false] (impl_isDigit_sat hv32) (by simp -dsimp -implicitDefEqProofs -failIfUnchanged only [↓RA, RB, RS, fx79, cast0, cast1, cast2, implies_true, Nat.reduceLT, Nat.reduceAdd, Nat.reduceMul, Nat.reduceEqDiff, reduceIte, Nat.reduceBEq, Nat.reduceLeDiff, Nat.reduceSub, Int.reduceToNat, c1, c2, c7, c8]) ?_
          simp -dsimp -implicitDefEqProofs -failIfUnchanged only [↓RA, RB, RS, fx79, cast0, cast1, cast2, implies_true, Nat.reduceLT, Nat.reduceAdd, Nat.reduceMul, Nat.reduceEqDiff, reduceIte, Nat.reduceBEq, Nat.reduceLeDiff, Nat.reduceSub, Int.reduceToNat, c1, c2, c7, c8]
          refine CondH.mk (fun c9 => ?_) (fun c9 => ?_)
          · replace h := run_t c9 h
            simp -dsimp -implicitDefEqProofs -failIfUnchanged only [↓RA, RB, RS, fx79, cast0, cast1, cast2, implies_true, Nat.reduceLT, Nat.reduceAdd, Nat.reduceMul, Nat.reduceEqDiff, reduceIte, Nat.reduceBEq, Nat.reduceLeDiff, Nat.reduceSub, Int.reduceToNat, c1, c2, c7, c8, c9]
            have h := run_some h
            refine RdH.mk ⟨_, h, ?_⟩
            refine St.le_mk ?_ ?_
            · simp -dsimp -implicitDefEqProofs -failIfUnchanged only [↓RA, RB, RS, fx79, cast0, cast1, cast2, implies_true, Nat.reduceLT, Nat.reduceAdd, Nat.reduceMul, Nat.reduceEqDiff, reduceIte, Nat.reduceBEq, Nat.reduceLeDiff, Nat.reduceSub, Int.reduceToNat, c1, c2, c7, c8, c9, w2]
            · simp -dsimp -implicitDefEqProofs -failIfUnchanged only [↓RA, RB, RS, fx79, cast0, cast1, cast2, implies_true, Nat.reduceLT, Nat.reduceAdd, Nat.reduceMul, Nat.reduceEqDiff, reduceIte, Nat.reduceBEq, Nat.reduceLeDiff, Nat.reduceSub, Int.reduceToNat, c1, c2, c7, c8, c9, w2]
          · replace h := run_f c9 h
            simp -dsimp -implicitDefEqProofs -failIfUnchanged only [↓RA, RB, RS, fx79, cast0, cast1, cast2, implies_true, Nat.reduceLT, Nat.reduceAdd, Nat.reduceMul, Nat.reduceEqDiff, reduceIte, Nat.reduceBEq, Nat.reduceLeDiff, Nat.reduceSub, Int.reduceToNat, c1, c2, c7, c8, c9]
            have h := run_some h
            obtain rfl : _ = r := h
            refine FinH.l ?_
            simp -dsimp -implicitDefEqProofs -failIfUnchanged only [↓RA, RB, RS, fx79, cast0, cast1, cast2, implies_true, Nat.reduceLT, Nat.reduceAdd, Nat.reduceMul, Nat.reduceEqDiff, reduceIte, Nat.reduceBEq, Nat.reduceLeDiff, Nat.reduceSub, Int.reduceToNat]
      · replace h := run_f c7 h
        simp -dsimp -implicitDefEqProofs -failIfUnchanged only [↓RA, RB, RS, fx79, cast0, cast1, cast2, implies_true, Nat.reduceLT, Nat.reduceAdd, Nat.reduceMul, Nat.reduceEqDiff, reduceIte, Nat.reduceBEq, Nat.reduceLeDiff, Nat.reduceSub, Int.reduceToNat, c1, c2, c7]
        have h := run_some h
        refine RdH.mk ⟨_, h, ?_⟩
        refine St.le_mk ?_ ?_
        · simp -dsimp -implicitDefEqProofs -failIfUnchanged only [↓RA, RB, RS, fx79, cast0, cast1, cast2, implies_true, Nat.reduceLT, Nat.reduceAdd, Nat.reduceMul, Nat.reduceEqDiff, reduceIte, Nat.reduceBEq, Nat.reduceLeDiff, Nat.reduceSub, Int.reduceToNat, c1, c2, c7, w2]
        · simp -dsimp -implicitDefEqProofs -failIfUnchanged only [↓RA, RB, RS, fx79, cast0, cast1, cast2, implies_true, Nat.reduceLT, Nat.reduceAdd, Nat.reduceMul, Nat.reduceEqDiff, reduceIte, Nat.reduceBEq, Nat.reduceLeDiff, Nat.reduceSub, Int.reduceToNat, c1, c2, c7, w2]
  · simp -dsimp -implicitDefEqProofs -failIfUnchanged only [↓RA, RB, RS, fx79, cast0, cast1, cast2, implies_true, Nat.reduceLT, Nat.reduceAdd, Nat.reduceMul, Nat.reduceEqDiff, reduceIte, Nat.reduceBEq, Nat.reduceLeDiff, Nat.reduceSub, Int.reduceToNat]
    refine CondH.ff (decide_eq_false (by omega)) (fun c10 => ?_)
    simp -dsimp -implicitDefEqProofs -failIfUnchanged only [↓RA, RB, RS, fx79, cast0, cast1, cast2, implies_true, Nat.reduceLT, Nat.reduceAdd, Nat.reduceMul, Nat.reduceEqDiff, reduceIte, Nat.reduceBEq, Nat.reduceLeDiff, Nat.reduceSub, Int.reduceToNat, c10]
    obtain ⟨v39, hv39, h⟩ := run_bind h
    refine CallH.mk [false, false, false] (impl_within_sat hv39) (by simp -dsimp -implicitDefEqProofs -failIfUnchanged only [↓RA, RB, RS, fx79, cast0, cast1, cast2, implies_true, Nat.reduceLT, Nat.reduceAdd, Nat.reduceMul, Nat.reduceEqDiff, reduceIte, Nat.reduceBEq, Nat.reduceLeDiff, Nat.reduceSub, Int.reduceToNat, c10]) ?_
    simp -dsimp -implicitDefEqProofs -failIfUnchanged only [↓RA, RB, RS, fx79, cast0, cast1, cast2, implies_true, Nat.reduceLT, Nat.reduceAdd, Nat.reduceMul, Nat.reduceEqDiff, reduceIte, Nat.reduceBEq, Nat.reduceLeDiff, Nat.reduceSub, Int.reduceToNat, c10]
    have h := run_some h
    obtain rfl : _ = r := h
    refine FinH.l ?_
    simp -dsimp -implicitDefEqProofs -failIfUnchanged only [↓RA, RB, RS, fx79, cast0, cast1, cast2, implies_true, Nat.reduceLT, Nat.reduceAdd, Nat.reduceMul, Nat.reduceEqDiff, reduceIte, Nat.reduceBEq, Nat.reduceLeDiff, Nat.reduceSub, Int.reduceToNat]

def fx31 := And.intro @ty_3 <| And.intro @zc_3 <| And.intro @z_3 <| And.intro @ty_4 <| And.intro @zc_4 <| And.intro @z_4 <| And.intro @u_4 <| And.intro @ty_9 <| And.intro @zc_9 <| And.intro @z_9 <| And.intro @u_9 <| And.intro @ty_49 <| And.intro @zc_49 <| And.intro @z_49 <| And.intro @es_49 <| And.intro @eb_49 <| And.intro @sl_49 <| And.intro @is_49 <| And.intro @el_49 <| And.intro @ze_49 <| And.intro @ez_49 <| And.intro @ty_50 <| And.intro @zc_50 <| And.intro @z_50 <| And.intro @es_50 <| And.intro @eb_50 <| And.intro @sl_50 <| And.intro @is_50 <| And.intro @el_50 <| And.intro @ze_50 <| And.intro @ez_50 <| And.intro @ty_55 <| And.intro @zc_55 <| And.intro @z_55 <| And.intro @fo_55_0 <| And.intro @fi_55_0 <| And.intro @ft_55_0 <| And.intro @fo_55_1 <| And.intro @fi_55_1 <| And.intro @ft_55_1 <| And.intro @fo_55_2 <| And.intro @fi_55_2 <| And.intro @ft_55_2 <| @lay_55
set_option maxHeartbeats 4000000 in
theorem impl_IsValidLinear_sat {a0 : Linear}  {r : Bool} (h : impl_IsValidLinear a0 = some r) : Sat Try.prog 31 [((Linear.pv false) a0)] (B r) := by
  replace h := Run.of h
  unfold impl_IsValidLinear at h
  refine Sat.of_m (nt := 59) (rs := [.tmp 2]) (n := 100000) Try.func31 rfl rfl rfl rfl (by simp) ?_
  simp -dsimp -implicitDefEqProofs -failIfUnchanged only [↓RA, RB, RS, fx31, cast0, cast1, cast2, implies_true, Nat.reduceLT, Nat.reduceAdd, Nat.reduceMul, Nat.reduceEqDiff, reduceIte, Nat.reduceBEq, Nat.reduceLeDiff, Nat.reduceSub, Int.reduceToNat]
  repeat (first | with_reducible refine noR_and (by repeat (first | exact noR_empty _ _ | exact noR_nilS _ _ | refine noR_mk _ _ _ _ _ rfl ?_ | refine noR_mkS _ _ _ _ _ rfl ?_)) ?_ | with_reducible refine noC_and (by repeat (first | exact noC_empty _ _ (by simp -dsimp -implicitDefEqProofs -failIfUnchanged only [↓RA, RB, RS, fx31, cast0, cast1, cast2, implies_true, Nat.reduceLT, Nat.reduceAdd, Nat.reduceMul, Nat.reduceEqDiff, reduceIte, Nat.reduceBEq, Nat.reduceLeDiff, Nat.reduceSub, Int.reduceToNat]) | exact noC_nilS _ _ (by simp -dsimp -implicitDefEqProofs -failIfUnchanged only [↓RA, RB, RS, fx31, cast0, cast1, cast2, implies_true, Nat.reduceLT, Nat.reduceAdd, Nat.reduceMul, Nat.reduceEqDiff, reduceIte, Nat.reduceBEq, Nat.reduceLeDiff, Nat.reduceSub, Int.reduceToNat]) | refine noC_mk _ _ _ _ _ rfl ?_ | refine noC_mkS _ _ _ _ _ rfl ?_)) ?_ | with_reducible refine and_ac ?_ | with_reducible refine And.intro (a := _ = List.range _) (by rfl) ?_)
  refine CondH.mk (fun c1 => ?_) (fun c1 => ?_)
  · replace h := run_t c1 h
    simp -dsimp -implicitDefEqProofs -failIfUnchanged only [↓RA, RB, RS, fx31, cast0, cast1, cast2, implies_true, Nat.reduceLT, Nat.reduceAdd, Nat.reduceMul, Nat.reduceEqDiff, reduceIte, Nat.reduceBEq, Nat.reduceLeDiff, Nat.reduceSub, Int.reduceToNat, c1]
    have h := run_some h
    obtain rfl : _ = r := h
    refine FinH.l ?_
    simp -dsimp -implicitDefEqProofs -failIfUnchanged only [↓RA, RB, RS, fx31, cast0, cast1, cast2, implies_true, Nat.reduceLT, Nat.reduceAdd, Nat.reduceMul, Nat.reduceEqDiff, reduceIte, Nat.reduceBEq, Nat.reduceLeDiff, Nat.reduceSub, Int.reduceToNat]
  · replace h := run_f c1 h
    simp -dsimp -implicitDefEqProofs -failIfUnchanged only [↓RA, RB, RS, fx31, cast0, cast1, cast2, implies_true, Nat.reduceLT, Nat.reduceAdd, Nat.reduceMul, Nat.reduceEqDiff, reduceIte, Nat.reduceBEq, Nat.reduceLeDiff, Nat.reduceSub, Int.reduceToNat, c1]
    refine CondH.mk (fun c2 => ?_) (fun c2 => ?_)
    · replace h := run_t c2 h
      simp -dsimp -implicitDefEqProofs -failIfUnchanged only [↓RA, RB, RS, fx31, cast0, cast1, cast2, implies_true, Nat.reduceLT, Nat.reduceAdd, Nat.reduceMul, Nat.reduceEqDiff, reduceIte, Nat.reduceBEq, Nat.reduceLeDiff, Nat.reduceSub, Int.reduceToNat, c1, c2]
      obtain ⟨v21, hv21, h⟩ := run_bind h
      refine CallH.mk [false, false, false] (impl_within_sat hv21) (by simp -dsimp -implicitDefEqProofs -failIfUnchanged only [↓RA, RB, RS, fx31, cast0, cast1, cast2, implies_true, Nat.reduceLT, Nat.reduceAdd, Nat.reduceMul, Nat.reduceEqDiff, reduceIte, Nat.reduceBEq, Nat.reduceLeDiff, Nat.reduceSub, Int.reduceToNat, c1, c2]) ?_
      simp -dsimp -implicitDefEqProofs -failIfUnchanged only [↓RA, RB, RS, fx31, cast0, cast1, cast2, implies_true, Nat.reduceLT, Nat.reduceAdd, Nat.reduceMul, Nat.reduceEqDiff, reduceIte, Nat.reduceBEq, Nat.reduceLeDiff, Nat.reduceSub, Int.reduceToNat, c1, c2]
      refine CondH.mk (fun c3 => ?_) (fun c3 => ?_)
      · replace h := run_t c3 h
        simp -dsimp -implicitDefEqProofs -failIfUnchanged only [↓RA, RB, RS, fx31, cast0, cast1, cast2, implies_true, Nat.reduceLT, Nat.reduceAdd, Nat.reduceMul, Nat.reduceEqDiff, reduceIte, Nat.reduceBEq, Nat.reduceLeDiff, Nat.reduceSub, Int.reduceToNat, c1, c2, c3]
        refine Mg.know_sl (b := false) (sz := 1) (es := a0.Vars.map Sx) 6 (by simp -dsimp -implicitDefEqProofs -failIfUnchanged only [↓RA, RB, RS, fx31, cast0, cast1, cast2, implies_true, Nat.reduceLT, Nat.reduceAdd, Nat.reduceMul, Nat.reduceEqDiff, reduceIte, Nat.reduceBEq, Nat.reduceLeDiff, Nat.reduceSub, Int.reduceToNat, c1, c2, c3]) fun hl6 => ?_; rw [List.length_map] at hl6
        replace h := run_loop h
        refine Mg.forN h (fun i4 s4 => [(1, .box (.pv ((Linear.pv false) a0))), (25, .val (.pv (.sl false 1 (a0.Vars.map Sx)))), (26, .val (.pv (I (a0.Vars.length : Int)))), (27, .val (.pv (I (i4 : Int))))]) (fun i4 s4 => []) (St.le_mk (by simp -dsimp -implicitDefEqProofs -failIfUnchanged only [↓RA, RB, RS, fx31, cast0, cast1, cast2, implies_true, Nat.reduceLT, Nat.reduceAdd, Nat.reduceMul, Nat.reduceEqDiff, reduceIte, Nat.reduceBEq, Nat.reduceLeDiff, Nat.reduceSub, Int.reduceToNat, c1, c2, c3]) (by simp -dsimp -implicitDefEqProofs -failIfUnchanged only [↓RA, RB, RS, fx31, cast0, cast1, cast2, implies_true, Nat.reduceLT, Nat.reduceAdd, Nat.reduceMul, Nat.reduceEqDiff, reduceIte, Nat.reduceBEq, Nat.reduceLeDiff, Nat.reduceSub, Int.reduceToNat, c1, c2, c3])) (fun i4 s4 hi h => ?_) (fun s4 h => ?_)
        · have w4 := wrap_succ (i := i4) (by omega)
          simp -dsimp -implicitDefEqProofs -failIfUnchanged only [↓RA, RB, RS, fx31, cast0, cast1, cast2, implies_true, Nat.reduceLT, Nat.reduceAdd, Nat.reduceMul, Nat.reduceEqDiff, reduceIte, Nat.reduceBEq, Nat.reduceLeDiff, Nat.reduceSub, Int.reduceToNat, c1, c2, c3]
          refine CondH.tt (decide_eq_true (by omega)) (fun c4 => ?_)
          simp -dsimp -implicitDefEqProofs -failIfUnchanged only [↓RA, RB, RS, fx31, cast0, cast1, cast2, implies_true, Nat.reduceLT, Nat.reduceAdd, Nat.reduceMul, Nat.reduceEqDiff, reduceIte, Nat.reduceBEq, Nat.reduceLeDiff, Nat.reduceSub, Int.reduceToNat, c1, c2, c3, c4]
          obtain ⟨v30, hv30, h⟩ := run_bind h
          refine IdxH.mk (f := Sx) hv30 (by simp -dsimp -implicitDefEqProofs -failIfUnchanged only [↓RA, RB, RS, fx31, cast0, cast1, cast2, implies_true, Nat.reduceLT, Nat.reduceAdd, Nat.reduceMul, Nat.reduceEqDiff, reduceIte, Nat.reduceBEq, Nat.reduceLeDiff, Nat.reduceSub, Int.reduceToNat, c1, c2, c3, c4]) ?_
          simp -dsimp -implicitDefEqProofs -failIfUnchanged only [↓RA, RB, RS, fx31, cast0, cast1, cast2, implies_true, Nat.reduceLT, Nat.reduceAdd, Nat.reduceMul, Nat.reduceEqDiff, reduceIte, Nat.reduceBEq, Nat.reduceLeDiff, Nat.reduceSub, Int.reduceToNat, c1, c2, c3, c4]
          obtain ⟨v33, hv33, h⟩ := run_bind h
          refine CallH.mk [false] (impl_isVariable_sat hv33) (by simp -dsimp -implicitDefEqProofs -failIfUnchanged only [↓RA, RB, RS, fx31, cast0, cast1, cast2, implies_true, Nat.reduceLT, Nat.reduceAdd, Nat.reduceMul, Nat.reduceEqDiff, reduceIte, Nat.reduceBEq, Nat.reduceLeDiff, Nat.reduceSub, Int.reduceToNat, c1, c2, c3, c4]) ?_
          simp -dsimp -implicitDefEqProofs -failIfUnchanged only [↓RA, RB, RS, fx31, cast0, cast1, cast2, implies_true, Nat.reduceLT, Nat.reduceAdd, Nat.reduceMul, Nat.reduceEqDiff, reduceIte, Nat.reduceBEq, Nat.reduceLeDiff, Nat.reduceSub, Int.reduceToNat, c1, c2, c3, c4]
          refine CondH.mk (fun c5 => ?_) (fun c5 => ?_)
          · replace h := run_t c5 h
            simp -dsimp -implicitDefEqProofs -failIfUnchanged only [↓RA, RB, RS, fx31, cast0, cast1, cast2, implies_true, Nat.reduceLT, Nat.reduceAdd, Nat.reduceMul, Nat.reduceEqDiff, reduceIte, Nat.reduceBEq, Nat.reduceLeDiff, Nat.reduceSub, Int.reduceToNat, c1, c2, c3, c4, c5]
            refine CondH.mk (fun c6 => ?_) (fun c6 => ?_)
            · replace h := run_t c6 h
              simp -dsimp -implicitDefEqProofs -failIfUnchanged only [↓RA, RB, RS, fx31, cast0, cast1, cast2, implies_true, Nat.reduceLT, Nat.reduceAdd, Nat.reduceMul, Nat.reduceEqDiff, reduceIte, Nat.reduceBEq, Nat.reduceLeDiff, Nat.reduceSub, Int.reduceToNat, c1, c2, c3, c4, c5, c6]
              obtain ⟨v44, hv44, h⟩ := run_bind h
              refine IdxH.mk (f := Sx) hv44 (by simp -dsimp -implicitDefEqProofs -failIfUnchanged only [↓RA, RB, RS, fx31, cast0, cast1, cast2, implies_true, Nat.reduceLT, Nat.reduceAdd, Nat.reduceMul, Nat.reduceEqDiff, reduceIte, Nat.reduceBEq, Nat.reduceLeDiff, Nat.reduceSub, Int.reduceToNat, c1, c2, c3, c4, c5, c6]) ?_
              simp -dsimp -implicitDefEqProofs -failIfUnchanged only [↓RA, RB, RS, fx31, cast0, cast1, cast2, implies_true, Nat.reduceLT, Nat.reduceAdd, Nat.reduceMul, Nat.reduceEqDiff, reduceIte, Nat.reduceBEq, Nat.reduceLeDiff, Nat.reduceSub, Int.reduceToNat, c1, c2, c3, c4, c5, c6]
              refine CondH.mk (fun c7 => ?_) (fun c7 => ?_)
              · replace h := run_t c7 h
                simp -dsimp -implicitDefEqProofs -failIfUnchanged only [↓RA, RB, RS, fx31, cast0, cast1, cast2, implies_true, Nat.reduceLT, Nat.reduceAdd, Nat.reduceMul, Nat.reduceEqDiff, reduceIte, Nat.reduceBEq, Nat.reduceLeDiff, Nat.reduceSub, Int.reduceToNat, c1, c2, c3, c4, c5, c6, c7]
                have h := run_some h
                obtain rfl : _ = r := h
                refine FinH.l ?_
                simp -dsimp -implicitDefEqProofs -failIfUnchanged only [↓RA, RB, RS, fx31, cast0, cast1, cast2, implies_true, Nat.reduceLT, Nat.reduceAdd, Nat.reduceMul, Nat.reduceEqDiff, reduceIte, Nat.reduceBEq, Nat.reduceLeDiff, Nat.reduceSub, Int.reduceToNat]
              · replace h := run_f c7 h
                simp -dsimp -implicitDefEqProofs -failIfUnchanged only [↓RA, RB, RS, fx31, cast0, cast1, cast2, implies_true, Nat.reduceLT, Nat.reduceAdd, Nat.reduceMul, Nat.reduceEqDiff, reduceIte, Nat.reduceBEq, Nat.reduceLeDiff, Nat.reduceSub, Int.reduceToNat, c1, c2, c3, c4, c5, c6, c7]
                obtain ⟨v53, hv53, h⟩ := run_bind h
                refine IdxH.mk (f := I) hv53 (by simp -dsimp -implicitDefEqProofs -failIfUnchanged only [↓RA, RB, RS, fx31, cast0, cast1, cast2, implies_true, Nat.reduceLT, Nat.reduceAdd, Nat.reduceMul, Nat.reduceEqDiff, reduceIte, Nat.reduceBEq, Nat.reduceLeDiff, Nat.reduceSub, Int.reduceToNat, c1, c2, c3, c4, c5, c6, c7]) ?_
                simp -dsimp -implicitDefEqProofs -failIfUnchanged only [↓RA, RB, RS, fx31, cast0, cast1, cast2, implies_true, Nat.reduceLT, Nat.reduceAdd, Nat.reduceMul, Nat.reduceEqDiff, reduceIte, Nat.reduceBEq, Nat.reduceLeDiff, Nat.reduceSub, Int.reduceToNat, c1, c2, c3, c4, c5, c6, c7]
                obtain ⟨v55, hv55, h⟩ := run_bind h
                refine CallH.mk [false, false, false] (impl_within_sat hv55) (by simp -dsimp -implicitDefEqProofs -failIfUnchanged only [↓RA, RB, RS, fx31, cast0, cast1, cast2, implies_true, Nat.reduceLT, Nat.reduceAdd, Nat.reduceMul, Nat.reduceEqDiff, reduceIte, Nat.reduceBEq, Nat.reduceLeDiff, Nat.reduceSub, Int.reduceToNat, c1, c2, c3, c4, c5, c6, c7]) ?_
                simp -dsimp -implicitDefEqProofs -failIfUnchanged only [↓RA, RB, RS, fx31, cast0, cast1, cast2, implies_true, Nat.reduceLT, Nat.reduceAdd, Nat.reduceMul, Nat.reduceEqDiff, reduceIte, Nat.reduceBEq, Nat.reduceLeDiff, Nat.reduceSub, Int.reduceToNat, c1, c2, c3, c4, c5, c6, c7]
                refine CondH.mk (fun c8 => ?_) (fun c8 => ?_)
                · replace h := run_t c8 h
                  simp -dsimp -implicitDefEqProofs -failIfUnchanged only [↓RA, RB, RS, fx31, cast0, cast1, cast2, implies_true, Nat.reduceLT, Nat.reduceAdd, Nat.reduceMul, Nat.reduceEqDiff, reduceIte, Nat.reduceBEq, Nat.reduceLeDiff, Nat.reduceSub, Int.reduceToNat, c1, c2, c3, c4, c5, c6, c7, c8]
                  have h := run_some h
                  refine RdH.mk ⟨_, h, ?_⟩
                  refine St.le_mk ?_ ?_
                  · simp -dsimp -implicitDefEqProofs -failIfUnchanged only [↓RA, RB, RS, fx31, cast0, cast1, cast2, implies_true, Nat.reduceLT, Nat.reduceAdd, Nat.reduceMul, Nat.reduceEqDiff, reduceIte, Nat.reduceBEq, Nat.reduceLeDiff, Nat.reduceSub, Int.reduceToNat, c1, c2, c3, c4, c5, c6, c7, c8, w4]
                  · simp -dsimp -implicitDefEqProofs -failIfUnchanged only [↓RA, RB, RS, fx31, cast0, cast1, cast2, implies_true, Nat.reduceLT, Nat.reduceAdd, Nat.reduceMul, Nat.reduceEqDiff, reduceIte, Nat.reduceBEq, Nat.reduceLeDiff, Nat.reduceSub, Int.reduceToNat, c1, c2, c3, c4, c5, c6, c7, c8, w4]
                · replace h := run_f c8 h
                  simp -dsimp -implicitDefEqProofs -failIfUnchanged only [↓RA, RB, RS, fx31, cast0, cast1, cast2, implies_true, Nat.reduceLT, Nat.reduceAdd, Nat.reduceMul, Nat.reduceEqDiff, reduceIte, Nat.reduceBEq, Nat.reduceLeDiff, Nat.reduceSub, Int.reduceToNat, c1, c2, c3, c4, c5, c6, c7, c8]
                  have h := run_some h
                  obtain rfl : _ = r := h
                  refine FinH.l ?_
                  simp -dsimp -implicitDefEqProofs -failIfUnchanged only [↓RA, RB, RS, fx31, cast0, cast1, cast2, implies_true, Nat.reduceLT, Nat.reduceAdd, Nat.reduceMul, Nat.reduceEqDiff, reduceIte, Nat.reduceBEq, Nat.reduceLeDiff, Nat.reduceSub, Int.reduceToNat]
            · replace h := run_f c6 h
              simp -dsimp -implicitDefEqProofs -failIfUnchanged only [↓RA, RB, RS, fx31, cast0, cast1, cast2, implies_true, Nat.reduceLT, Nat.reduceAdd, Nat.reduceMul, Nat.reduceEqDiff, reduceIte, Nat.reduceBEq, Nat.reduceLeDiff, Nat.reduceSub, Int.reduceToNat, c1, c2, c3, c4, c5, c6]
              obtain ⟨v53, hv53, h⟩ := run_bind h
              refine IdxH.mk (f := I) hv53 (by simp -dsimp -implicitDefEqProofs -failIfUnchanged only [↓RA, RB, RS, fx31, cast0, cast1, cast2, implies_true, Nat.reduceLT, Nat.reduceAdd, Nat.reduceMul, Nat.reduceEqDiff, reduceIte, Nat.reduceBEq, Nat.reduceLeDiff, Nat.reduceSub, Int.reduceToNat, c1, c2, c3, c4, c5, c6]) ?_
              simp -dsimp -implicitDefEqProofs -failIfUnchanged only [↓RA, RB, RS, fx31, cast0, cast1, cast2, implies_true, Nat.reduceLT, Nat.reduceAdd, Nat.reduceMul, Nat.reduceEqDiff, reduceIte, Nat.reduceBEq, Nat.reduceLeDiff, Nat.reduceSub, Int.reduceToNat, c1, c2, c3, c4, c5, c6]
              obtain ⟨v55, hv55, h⟩ := run_bind h
              refine CallH.mk [false, false, false] (impl_within_sat hv55) (by simp -dsimp -implicitDefEqProofs -failIfUnchanged only [↓RA, RB, RS, fx31, cast0, cast1, cast2, implies_true, Nat.reduceLT, Nat.reduceAdd, Nat.reduceMul, Nat.reduceEqDiff, reduceIte, Nat.reduceBEq, Nat.reduceLeDiff, Nat.reduceSub, Int.reduceToNat, c1, c2, c3, c4, c5, c6]) ?_
              simp -dsimp -implicitDefEqProofs -failIfUnchanged only [↓RA, RB, RS, fx31, cast0, cast1, cast2, implies_true, Nat.reduceLT, Nat.reduceAdd, Nat.reduceMul, Nat.reduceEqDiff, reduceIte, Nat.reduceBEq, Nat.reduceLeDiff, Nat.reduceSub, Int.reduceToNat, c1, c2, c3, c4, c5, c6]
              refine CondH.mk (fun c9 => ?_) (fun c9 => ?_)
              · replace h := run_t c9 h
                simp -dsimp -implicitDefEqProofs -failIfUnchanged only [↓RA, RB, RS, fx31, cast0, cast1, cast2, implies_true, Nat.reduceLT, Nat.reduceAdd, Nat.reduceMul, Nat.reduceEqDiff, reduceIte, Nat.reduceBEq, Nat.reduceLeDiff, Nat.reduceSub, Int.reduceToNat, c1, c2, c3, c4, c5, c6, c9]
                have h := run_some h
                refine RdH.mk ⟨_, h, ?_⟩
                refine St.le_mk ?_ ?_
                · simp -dsimp -implicitDefEqProofs -failIfUnchanged only [↓RA, RB, RS, fx31, cast0, cast1, cast2, implies_true, Nat.reduceLT, Nat.reduceAdd, Nat.reduceMul, Nat.reduceEqDiff, reduceIte, Nat.reduceBEq, Nat.reduceLeDiff, Nat.reduceSub, Int.reduceToNat, c1, c2, c3, c4, c5, c6, c9, w4]
                · simp -dsimp -implicitDefEqProofs -failIfUnchanged only [↓RA, RB, RS, fx31, cast0, cast1, cast2, implies_true, Nat.reduceLT, Nat.reduceAdd, Nat.reduceMul, Nat.reduceEqDiff, reduceIte, Nat.reduceBEq, Nat.reduceLeDiff, Nat.reduceSub, Int.reduceToNat, c1, c2, c3, c4, c5, c6, c9, w4]
              · replace h := run_f c9 h
                simp -dsimp -implicitDefEqProofs -failIfUnchanged only [↓RA, RB, RS, fx31, cast0, cast1, cast2, implies_true, Nat.reduceLT, Nat.reduceAdd, Nat.reduceMul, Nat.reduceEqDiff, reduceIte, Nat.reduceBEq, Nat.reduceLeDiff, Nat.reduceSub, Int.reduceToNat, c1, c2, c3, c4, c5, c6, c9]
                have h := run_some h
                obtain rfl : _ = r := h
                refine FinH.l ?_
                simp -dsimp -implicitDefEqProofs -failIfUnchanged only [↓RA, RB, RS, fx31, cast0, cast1, cast2, implies_true, Nat.reduceLT, Nat.reduceAdd, Nat.reduceMul, Nat.reduceEqDiff, reduceIte, Nat.reduceBEq, Nat.reduceLeDiff, Nat.reduceSub, Int.reduceToNat]
          · replace h := run_f c5 h
            simp -dsimp -implicitDefEqProofs -failIfUnchanged only [↓RA, RB, RS, fx31, cast0, cast1, cast2, implies_true, Nat.reduceLT, Nat.reduceAdd, Nat.reduceMul, Nat.reduceEqDiff, reduceIte, Nat.reduceBEq, Nat.reduceLeDiff, Nat.reduceSub, Int.reduceToNat, c1, c2, c3, c4, c5]
            have h := run_some h
            obtain rfl : _ = r := h
            refine FinH.l ?_
            simp -dsimp -implicitDefEqProofs -failIfUnchanged only [↓RA, RB, RS, fx31, cast0, cast1, cast2, implies_true, Nat.reduceLT, Nat.reduceAdd, Nat.reduceMul, Nat.reduceEqDiff, reduceIte, Nat.reduceBEq, Nat.reduceLeDiff, Nat.reduceSub, Int.reduceToNat]
        · simp -dsimp -implicitDefEqProofs -failIfUnchanged only [↓RA, RB, RS, fx31, cast0, cast1, cast2, implies_true, Nat.reduceLT, Nat.reduceAdd, Nat.reduceMul, Nat.reduceEqDiff, reduceIte, Nat.reduceBEq, Nat.reduceLeDiff, Nat.reduceSub, Int.reduceToNat, c1, c2, c3]
          refine CondH.ff (decide_eq_false (by omega)) (fun c10 => ?_)
          simp -dsimp -implicitDefEqProofs -failIfUnchanged only [↓RA, RB, RS, fx31, cast0, cast1, cast2, implies_true, Nat.reduceLT, Nat.reduceAdd, Nat.reduceMul, Nat.reduceEqDiff, reduceIte, Nat.reduceBEq, Nat.reduceLeDiff, Nat.reduceSub, Int.reduceToNat, c1, c2, c3, c10]
          have h := run_some h
          obtain rfl : _ = r := h
          refine FinH.l ?_
          simp -dsimp -implicitDefEqProofs -failIfUnchanged only [↓RA, RB, RS, fx31, cast0, cast1, cast2, implies_true, Nat.reduceLT, Nat.reduceAdd, Nat.reduceMul, Nat.reduceEqDiff, reduceIte, Nat.reduceBEq, Nat.reduceLeDiff, Nat.reduceSub, Int.reduceToNat]
      · replace h := run_f c3 h
        simp -dsimp -implicitDefEqProofs -failIfUnchanged only [↓RA, RB, RS, fx31, cast0, cast1, cast2, implies_true, Nat.reduceLT, Nat.reduceAdd, Nat.reduceMul, Nat.reduceEqDiff, reduceIte, Nat.reduceBEq, Nat.reduceLeDiff, Nat.reduceSub, Int.reduceToNat, c1, c2, c3]
        have h := run_some h
        obtain rfl : _ = r := h
        refine FinH.l ?_
        simp -dsimp -implicitDefEqProofs -failIfUnchanged only [↓RA, RB, RS, fx31, cast0, cast1, cast2, implies_true, Nat.reduceLT, Nat.reduceAdd, Nat.reduceMul, Nat.reduceEqDiff, reduceIte, Nat.reduceBEq, Nat.reduceLeDiff, Nat.reduceSub, Int.reduceToNat]
    · replace h := run_f c2 h
      simp -dsimp -implicitDefEqProofs -failIfUnchanged only [↓RA, RB, RS, fx31, cast0, cast1, cast2, implies_true, Nat.reduceLT, Nat.reduceAdd, Nat.reduceMul, Nat.reduceEqDiff, reduceIte, Nat.reduceBEq, Nat.reduceLeDiff, Nat.reduceSub, Int.reduceToNat, c1, c2]
      have h := run_some h
      obtain rfl : _ = r := h
      refine FinH.l ?_
      simp -dsimp -implicitDefEqProofs -failIfUnchanged only [↓RA, RB, RS, fx31, cast0, cast1, cast2, implies_true, Nat.reduceLT, Nat.reduceAdd, Nat.reduceMul, Nat.reduceEqDiff, reduceIte, Nat.reduceBEq, Nat.reduceLeDiff, Nat.reduceSub, Int.reduceToNat]

def fx82 := And.intro @ty_3 <| And.intro @zc_3 <| And.intro @z_3 <| And.intro @ty_4 <| And.intro @zc_4 <| And.intro @z_4 <| @u_4
set_option maxHeartbeats 4000000 in
theorem impl_EvaluateLinear_1_sat {a0 : Int}  {r : Bool} (h : impl_EvaluateLinear_1 a0 = some r) : Sat Try.prog 82 [(I a0)] (B r) := by
  replace h := Run.of h
  unfold impl_EvaluateLinear_1 at h
  refine Sat.of_m (nt := 6) (rs := [.tmp 2]) (n := 100000) Try.func82 rfl rfl rfl rfl (by simp) ?_
  simp -dsimp -implicitDefEqProofs -failIfUnchanged only [↓RA, RB, RS, fx82, cast0, cast1, cast2, implies_true, Nat.reduceLT, Nat.reduceAdd, Nat.reduceMul, Nat.reduceEqDiff, reduceIte, Nat.reduceBEq, Nat.reduceLeDiff, Nat.reduceSub, Int.reduceToNat]
  obtain ⟨v4, hv4, h⟩ := run_bind h
  refine CallH.mk [false, false, false] (impl_within_sat hv4) (by simp -dsimp -implicitDefEqProofs -failIfUnchanged only [↓RA, RB, RS, fx82, cast0, cast1, cast2, implies_true, Nat.reduceLT, Nat.reduceAdd, Nat.reduceMul, Nat.reduceEqDiff, reduceIte, Nat.reduceBEq, Nat.reduceLeDiff, Nat.reduceSub, Int.reduceToNat]) ?_
  simp -dsimp -implicitDefEqProofs -failIfUnchanged only [↓RA, RB, RS, fx82, cast0, cast1, cast2, implies_true, Nat.reduceLT, Nat.reduceAdd, Nat.reduceMul, Nat.reduceEqDiff, reduceIte, Nat.reduceBEq, Nat.reduceLeDiff, Nat.reduceSub, Int.reduceToNat]
  have h := run_some h
  obtain rfl : _ = r := h
  refine FinH.l ?_
  simp -dsimp -implicitDefEqProofs -failIfUnchanged only [↓RA, RB, RS, fx82, cast0, cast1, cast2, implies_true, Nat.reduceLT, Nat.reduceAdd, Nat.reduceMul, Nat.reduceEqDiff, reduceIte, Nat.reduceBEq, Nat.reduceLeDiff, Nat.reduceSub, Int.reduceToNat]

def fx124 := And.intro @ty_3 <| And.intro @zc_3 <| And.intro @z_3 <| And.intro @ty_50 <| And.intro @zc_50 <| And.intro @z_50 <| And.intro @es_50 <| And.intro @eb_50 <| And.intro @sl_50 <| And.intro @is_50 <| And.intro @el_50 <| And.intro @ze_50 <| @ez_50
set_option maxHeartbeats 4000000 in
theorem slices_IndexFunc_Sint_int_sat {a0 : List Int} {a1 : Int → Option Bool} {a1_id : FuncId} {a1_cs : List PV} (a1_ok : ∀ y0 r, a1 y0 = some r → Sat Try.prog a1_id ((I y0) :: a1_cs) (B r)) (a1_cz : CapsOk a1_cs = True) {r : Int} (h : slices_IndexFunc_Sint_int a0 a1 = some r) : Sat Try.prog 124 [(.sl false 1 (a0.map I)), .clo a1_id a1_cs] (I r) := by
  replace h := Run.of h
  unfold slices_IndexFunc_Sint_int at h
  refine Sat.of_m (nt := 19) (rs := [.tmp 4]) (n := 100000) Try.func124 rfl rfl rfl rfl (by simp) ?_
  simp -dsimp -implicitDefEqProofs -failIfUnchanged only [↓RA, RB, RS, fx124, a1_cz, cast0, cast1, cast2, implies_true, Nat.reduceLT, Nat.reduceAdd, Nat.reduceMul, Nat.reduceEqDiff, reduceIte, Nat.reduceBEq, Nat.reduceLeDiff, Nat.reduceSub, Int.reduceToNat]
  refine Mg.know_sl (b := false) (sz := 1) (es := a0.map I) 0 (by simp -dsimp -implicitDefEqProofs -failIfUnchanged only [↓RA, RB, RS, fx124, a1_cz, cast0, cast1, cast2, implies_true, Nat.reduceLT, Nat.reduceAdd, Nat.reduceMul, Nat.reduceEqDiff, reduceIte, Nat.reduceBEq, Nat.reduceLeDiff, Nat.reduceSub, Int.reduceToNat]) fun hl0 => ?_; rw [List.length_map] at hl0
  replace h := run_loop h
  refine Mg.forN h (fun i2 s2 => [(0, .val (.pv (.sl false 1 (a0.map I)))), (1, .val (.pv (.clo a1_id a1_cs))), (7, .val (.pv (I (a0.length : Int)))), (8, .val (.pv (I (i2 : Int))))]) (fun i2 s2 => []) (St.le_mk (by simp -dsimp -implicitDefEqProofs -failIfUnchanged only [↓RA, RB, RS, fx124, a1_cz, cast0, cast1, cast2, implies_true, Nat.reduceLT, Nat.reduceAdd, Nat.reduceMul, Nat.reduceEqDiff, reduceIte, Nat.reduceBEq, Nat.reduceLeDiff, Nat.reduceSub, Int.reduceToNat]) (by simp -dsimp -implicitDefEqProofs -failIfUnchanged only [↓RA, RB, RS, fx124, a1_cz, cast0, cast1, cast2, implies_true, Nat.reduceLT, Nat.reduceAdd, Nat.reduceMul, Nat.reduceEqDiff, reduceIte, Nat.reduceBEq, Nat.reduceLeDiff, Nat.reduceSub, Int.reduceToNat])) (fun i2 s2 hi h => ?_) (fun s2 h => ?_)
  · have w2 := wrap_succ (i := i2) (by omega)
    simp -dsimp -implicitDefEqProofs -failIfUnchanged only [↓RA, RB, RS, fx124, a1_cz, cast0, cast1, cast2, implies_true, Nat.reduceLT, Nat.reduceAdd, Nat.reduceMul, Nat.reduceEqDiff, reduceIte, Nat.reduceBEq, Nat.reduceLeDiff, Nat.reduceSub, Int.reduceToNat]
    refine CondH.tt (decide_eq_true (by omega)) (fun c1 => ?_)
    simp -dsimp -implicitDefEqProofs -failIfUnchanged only [↓RA, RB, RS, fx124, a1_cz, cast0, cast1, cast2, implies_true, Nat.reduceLT, Nat.reduceAdd, Nat.reduceMul, Nat.reduceEqDiff, reduceIte, Nat.reduceBEq, Nat.reduceLeDiff, Nat.reduceSub, Int.reduceToNat, c1]
    obtain ⟨v14, hv14, h⟩ := run_bind h
    refine IdxH.mk (f := I) hv14 (by simp -dsimp -implicitDefEqProofs -failIfUnchanged only [↓RA, RB, RS, fx124, a1_cz, cast0, cast1, cast2, implies_true, Nat.reduceLT, Nat.reduceAdd, Nat.reduceMul, Nat.reduceEqDiff, reduceIte, Nat.reduceBEq, Nat.reduceLeDiff, Nat.reduceSub, Int.reduceToNat, c1]) ?_
    simp -dsimp -implicitDefEqProofs -failIfUnchanged only [↓RA, RB, RS, fx124, a1_cz, cast0, cast1, cast2, implies_true, Nat.reduceLT, Nat.reduceAdd, Nat.reduceMul, Nat.reduceEqDiff, reduceIte, Nat.reduceBEq, Nat.reduceLeDiff, Nat.reduceSub, Int.reduceToNat, c1]
    obtain ⟨v16, hv16, h⟩ := run_bind h
    refine CallH.mk [false] (a1_ok _ _ hv16) (by simp -dsimp -implicitDefEqProofs -failIfUnchanged only [↓RA, RB, RS, fx124, a1_cz, cast0, cast1, cast2, implies_true, Nat.reduceLT, Nat.reduceAdd, Nat.reduceMul, Nat.reduceEqDiff, reduceIte, Nat.reduceBEq, Nat.reduceLeDiff, Nat.reduceSub, Int.reduceToNat, c1]) ?_
    simp -dsimp -implicitDefEqProofs -failIfUnchanged only [↓RA, RB, RS, fx124, a1_cz, cast0, cast1, cast2, implies_true, Nat.reduceLT, Nat.reduceAdd, Nat.reduceMul, Nat.reduceEqDiff, reduceIte, Nat.reduceBEq, Nat.reduceLeDiff, Nat.reduceSub, Int.reduceToNat, c1]
    refine CondH.mk (fun c2 => ?_) (fun c2 => ?_)
    · replace h := run_t c2 h
      simp -dsimp -implicitDefEqProofs -failIfUnchanged only [↓RA, RB, RS, fx124, a1_cz, cast0, cast1, cast2, implies_true, Nat.reduceLT, Nat.reduceAdd, Nat.reduceMul, Nat.reduceEqDiff, reduceIte, Nat.reduceBEq, Nat.reduceLeDiff, Nat.reduceSub, Int.reduceToNat, c1, c2]
      have h := run_some h
      obtain rfl : _ = r := h
      refine FinH.l ?_
      simp -dsimp -implicitDefEqProofs -failIfUnchanged only [↓RA, RB, RS, fx124, a1_cz, cast0, cast1, cast2, implies_true, Nat.reduceLT, Nat.reduceAdd, Nat.reduceMul, Nat.reduceEqDiff, reduceIte, Nat.reduceBEq, Nat.reduceLeDiff, Nat.reduceSub, Int.reduceToNat]
    · replace h := run_f c2 h
      simp -dsimp -implicitDefEqProofs -failIfUnchanged only [↓RA, RB, RS, fx124, a1_cz, cast0, cast1, cast2, implies_true, Nat.reduceLT, Nat.reduceAdd, Nat.reduceMul, Nat.reduceEqDiff, reduceIte, Nat.reduceBEq, Nat.reduceLeDiff, Nat.reduceSub, Int.reduceToNat, c1, c2]
      have h := run_some h
      refine RdH.mk ⟨_, h, ?_⟩
      refine St.le_mk ?_ ?_
      · simp -dsimp -implicitDefEqProofs -failIfUnchanged only [↓RA, RB, RS, fx124, a1_cz, cast0, cast1, cast2, implies_true, Nat.reduceLT, Nat.reduceAdd, Nat.reduceMul, Nat.reduceEqDiff, reduceIte, Nat.reduceBEq, Nat.reduceLeDiff, Nat.reduceSub, Int.reduceToNat, c1, c2, w2]
      · simp -dsimp -implicitDefEqProofs -failIfUnchanged only [↓RA, RB, RS, fx124, a1_cz, cast0, cast1, cast2, implies_true, Nat.reduceLT, Nat.reduceAdd, Nat.reduceMul, Nat.reduceEqDiff, reduceIte, Nat.reduceBEq, Nat.reduceLeDiff, Nat.reduceSub, Int.reduceToNat, c1, c2, w2]
  · simp -dsimp -implicitDefEqProofs -failIfUnchanged only [↓RA, RB, RS, fx124, a1_cz, cast0, cast1, cast2, implies_true, Nat.reduceLT, Nat.reduceAdd, Nat.reduceMul, Nat.reduceEqDiff, reduceIte, Nat.reduceBEq, Nat.reduceLeDiff, Nat.reduceSub, Int.reduceToNat]
    refine CondH.ff (decide_eq_false (by omega)) (fun c3 => ?_)
    simp -dsimp -implicitDefEqProofs -failIfUnchanged only [↓RA, RB, RS, fx124, a1_cz, cast0, cast1, cast2, implies_true, Nat.reduceLT, Nat.reduceAdd, Nat.reduceMul, Nat.reduceEqDiff, reduceIte, Nat.reduceBEq, Nat.reduceLeDiff, Nat.reduceSub, Int.reduceToNat, c3]
    have h := run_some h
    obtain rfl : _ = r := h
    refine FinH.l ?_
    simp -dsimp -implicitDefEqProofs -failIfUnchanged only [↓RA, RB, RS, fx124, a1_cz, cast0, cast1, cast2, implies_true, Nat.reduceLT, Nat.reduceAdd, Nat.reduceMul, Nat.reduceEqDiff, reduceIte, Nat.reduceBEq, Nat.reduceLeDiff, Nat.reduceSub, Int.reduceToNat]

def fx81 := And.intro @ty_3 <| And.intro @zc_3 <| And.intro @z_3 <| And.intro @ty_29 <| And.intro @zc_29 <| And.intro @z_29 <| And.intro @ty_50 <| And.intro @zc_50 <| And.intro @z_50 <| And.intro @es_50 <| And.intro @eb_50 <| And.intro @sl_50 <| And.intro @is_50 <| And.intro @el_50 <| And.intro @ze_50 <| @ez_50
set_option maxHeartbeats 4000000 in
theorem slices_ContainsFunc_Sint_int_sat {a0 : List Int} {a1 : Int → Option Bool} {a1_id : FuncId} {a1_cs : List PV} (a1_ok : ∀ y0 r, a1 y0 = some r → Sat Try.prog a1_id ((I y0) :: a1_cs) (B r)) (a1_cz : CapsOk a1_cs = True) {r : Bool} (h : slices_ContainsFunc_Sint_int a0 a1 = some r) : Sat Try.prog 81 [(.sl false 1 (a0.map I)), .clo a1_id a1_cs] (B r) := by
  replace h := Run.of h
  unfold slices_ContainsFunc_Sint_int at h
  refine Sat.of_m (nt := 9) (rs := [.tmp 4]) (n := 100000) Try.func81 rfl rfl rfl rfl (by simp) ?_
  simp -dsimp -implicitDefEqProofs -failIfUnchanged only [↓RA, RB, RS, fx81, a1_cz, cast0, cast1, cast2, implies_true, Nat.reduceLT, Nat.reduceAdd, Nat.reduceMul, Nat.reduceEqDiff, reduceIte, Nat.reduceBEq, Nat.reduceLeDiff, Nat.reduceSub, Int.reduceToNat]
  obtain ⟨v7, hv7, h⟩ := run_bind h
  refine CallH.mk [false, false] (slices_IndexFunc_Sint_int_sat a1_ok a1_cz hv7) (by simp -dsimp -implicitDefEqProofs -failIfUnchanged only [↓RA, RB, RS, fx81, a1_cz, cast0, cast1, cast2, implies_true, Nat.reduceLT, Nat.reduceAdd, Nat.reduceMul, Nat.reduceEqDiff, reduceIte, Nat.reduceBEq, Nat.reduceLeDiff, Nat.reduceSub, Int.reduceToNat]) ?_
  simp -dsimp -implicitDefEqProofs -failIfUnchanged only [↓RA, RB, RS, fx81, a1_cz, cast0, cast1, cast2, implies_true, Nat.reduceLT, Nat.reduceAdd, Nat.reduceMul, Nat.reduceEqDiff, reduceIte, Nat.reduceBEq, Nat.reduceLeDiff, Nat.reduceSub, Int.reduceToNat]
  have h := run_some h
  obtain rfl : _ = r := h
  refine FinH.l ?_
  simp -dsimp -implicitDefEqProofs -failIfUnchanged only [↓RA, RB, RS, fx81, a1_cz, cast0, cast1, cast2, implies_true, Nat.reduceLT, Nat.reduceAdd, Nat.reduceMul, Nat.reduceEqDiff, reduceIte, Nat.reduceBEq, Nat.reduceLeDiff, Nat.reduceSub, Int.reduceToNat]

def fx35 := And.intro @ty_3 <| And.intro @zc_3 <| And.intro @z_3 <| And.intro @ty_4 <| And.intro @zc_4 <| And.intro @z_4 <| And.intro @u_4 <| And.intro @ty_29 <| And.intro @zc_29 <| And.intro @z_29 <| And.intro @ty_49 <| And.intro @zc_49 <| And.intro @z_49 <| And.intro @es_49 <| And.intro @eb_49 <| And.intro @sl_49 <| And.intro @is_49 <| And.intro @el_49 <| And.intro @ze_49 <| And.intro @ez_49 <| And.intro @ty_50 <| And.intro @zc_50 <| And.intro @z_50 <| And.intro @es_50 <| And.intro @eb_50 <| And.intro @sl_50 <| And.intro @is_50 <| And.intro @el_50 <| And.intro @ze_50 <| And.intro @ez_50 <| And.intro @ty_55 <| And.intro @zc_55 <| And.intro @z_55 <| And.intro @fo_55_0 <| And.intro @fi_55_0 <| And.intro @ft_55_0 <| And.intro @fo_55_1 <| And.intro @fi_55_1 <| And.intro @ft_55_1 <| And.intro @fo_55_2 <| And.intro @fi_55_2 <| And.intro @ft_55_2 <| @lay_55
set_option maxHeartbeats 4000000 in
theorem impl_EvaluateLinear_sat {a0 : Linear} {a1 : List Int}  {r : Int × Bool} (h : impl_EvaluateLinear a0 a1 = some r) : Sat Try.prog 35 [((Linear.pv false) a0), (.sl false 1 (a1.map I))] (.tup [(I r.1), (B r.2)]) := by
  replace h := Run.of h
  unfold impl_EvaluateLinear at h
  refine Sat.of_m (nt := 44) (rs := [.tmp 4, .tmp 5]) (n := 100000) Try.func35 rfl rfl rfl rfl (by simp) ?_
  simp -dsimp -implicitDefEqProofs -failIfUnchanged only [↓RA, RB, RS, fx35, cast0, cast1, cast2, implies_true, Nat.reduceLT, Nat.reduceAdd, Nat.reduceMul, Nat.reduceEqDiff, reduceIte, Nat.reduceBEq, Nat.reduceLeDiff, Nat.reduceSub, Int.reduceToNat]
  repeat (first | with_reducible refine noR_and (by repeat (first | exact noR_empty _ _ | exact noR_nilS _ _ | refine noR_mk _ _ _ _ _ rfl ?_ | refine noR_mkS _ _ _ _ _ rfl ?_)) ?_ | with_reducible refine noC_and (by repeat (first | exact noC_empty _ _ (by simp -dsimp -implicitDefEqProofs -failIfUnchanged only [↓RA, RB, RS, fx35, cast0, cast1, cast2, implies_true, Nat.reduceLT, Nat.reduceAdd, Nat.reduceMul, Nat.reduceEqDiff, reduceIte, Nat.reduceBEq, Nat.reduceLeDiff, Nat.reduceSub, Int.reduceToNat]) | exact noC_nilS _ _ (by simp -dsimp -implicitDefEqProofs -failIfUnchanged only [↓RA, RB, RS, fx35, cast0, cast1, cast2, implies_true, Nat.reduceLT, Nat.reduceAdd, Nat.reduceMul, Nat.reduceEqDiff, reduceIte, Nat.reduceBEq, Nat.reduceLeDiff, Nat.reduceSub, Int.reduceToNat]) | refine noC_mk _ _ _ _ _ rfl ?_ | refine noC_mkS _ _ _ _ _ rfl ?_)) ?_ | with_reducible refine and_ac ?_ | with_reducible refine And.intro (a := _ = List.range _) (by rfl) ?_)
  obtain ⟨v10, hv10, h⟩ := run_bind h
  refine CallH.mk [false] (impl_IsValidLinear_sat hv10) (by simp -dsimp -implicitDefEqProofs -failIfUnchanged only [↓RA, RB, RS, fx35, cast0, cast1, cast2, implies_true, Nat.reduceLT, Nat.reduceAdd, Nat.reduceMul, Nat.reduceEqDiff, reduceIte, Nat.reduceBEq, Nat.reduceLeDiff, Nat.reduceSub, Int.reduceToNat]) ?_
  simp -dsimp -implicitDefEqProofs -failIfUnchanged only [↓RA, RB, RS, fx35, cast0, cast1, cast2, implies_true, Nat.reduceLT, Nat.reduceAdd, Nat.reduceMul, Nat.reduceEqDiff, reduceIte, Nat.reduceBEq, Nat.reduceLeDiff, Nat.reduceSub, Int.reduceToNat]
  refine CondH.mk (fun c1 => ?_) (fun c1 => ?_)
  · replace h := run_t c1 h
    simp -dsimp -implicitDefEqProofs -failIfUnchanged only [↓RA, RB, RS, fx35, cast0, cast1, cast2, implies_true, Nat.reduceLT, Nat.reduceAdd, Nat.reduceMul, Nat.reduceEqDiff, reduceIte, Nat.reduceBEq, Nat.reduceLeDiff, Nat.reduceSub, Int.reduceToNat, c1]
    refine CondH.mk (fun c2 => ?_) (fun c2 => ?_)
    · replace h := run_t c2 h
      simp -dsimp -implicitDefEqProofs -failIfUnchanged only [↓RA, RB, RS, fx35, cast0, cast1, cast2, implies_true, Nat.reduceLT, Nat.reduceAdd, Nat.reduceMul, Nat.reduceEqDiff, reduceIte, Nat.reduceBEq, Nat.reduceLeDiff, Nat.reduceSub, Int.reduceToNat, c1, c2]
      obtain ⟨v22, hv22, h⟩ := run_bind h
      refine CallH.mk [false, false] (slices_ContainsFunc_Sint_int_sat (fun _ _ hh => impl_EvaluateLinear_1_sat hh) (by simp only [CapsOk_nil, CapsOk_cons]) hv22) (by simp -dsimp -implicitDefEqProofs -failIfUnchanged only [↓RA, RB, RS, fx35, cast0, cast1, cast2, implies_true, Nat.reduceLT, Nat.reduceAdd, Nat.reduceMul, Nat.reduceEqDiff, reduceIte, Nat.reduceBEq, Nat.reduceLeDiff, Nat.reduceSub, Int.reduceToNat, c1, c2]) ?_
      simp -dsimp -implicitDefEqProofs -failIfUnchanged only [↓RA, RB, RS, fx35, cast0, cast1, cast2, implies_true, Nat.reduceLT, Nat.reduceAdd, Nat.reduceMul, Nat.reduceEqDiff, reduceIte, Nat.reduceBEq, Nat.reduceLeDiff, Nat.reduceSub, Int.reduceToNat, c1, c2]
      refine CondH.mk (fun c3 => ?_) (fun c3 => ?_)
      · replace h := run_t c3 h
        simp -dsimp -implicitDefEqProofs -failIfUnchanged only [↓RA, RB, RS, fx35, cast0, cast1, cast2, implies_true, Nat.reduceLT, Nat.reduceAdd, Nat.reduceMul, Nat.reduceEqDiff, reduceIte, Nat.reduceBEq, Nat.reduceLeDiff, Nat.reduceSub, Int.reduceToNat, c1, c2, c3]
        have h := run_some h
        obtain rfl : _ = r := h
        refine FinH.l ?_
        simp -dsimp -implicitDefEqProofs -failIfUnchanged only [↓RA, RB, RS, fx35, cast0, cast1, cast2, implies_true, Nat.reduceLT, Nat.reduceAdd, Nat.reduceMul, Nat.reduceEqDiff, reduceIte, Nat.reduceBEq, Nat.reduceLeDiff, Nat.reduceSub, Int.reduceToNat]
      · replace h := run_f c3 h
        simp -dsimp -implicitDefEqProofs -failIfUnchanged only [↓RA, RB, RS, fx35, cast0, cast1, cast2, implies_true, Nat.reduceLT, Nat.reduceAdd, Nat.reduceMul, Nat.reduceEqDiff, reduceIte, Nat.reduceBEq, Nat.reduceLeDiff, Nat.reduceSub, Int.reduceToNat, c1, c2, c3]
        refine Mg.know_sl (b := false) (sz := 1) (es := a1.map I) 1 (by simp -dsimp -implicitDefEqProofs -failIfUnchanged only [↓RA, RB, RS, fx35, cast0, cast1, cast2, implies_true, Nat.reduceLT, Nat.reduceAdd, Nat.reduceMul, Nat.reduceEqDiff, reduceIte, Nat.reduceBEq, Nat.reduceLeDiff, Nat.reduceSub, Int.reduceToNat, c1, c2, c3]) fun hl1 => ?_; rw [List.length_map] at hl1
        replace h := run_loop h
        refine Mg.forN h (fun i5 s5 => [(2, .box (.pv ((Linear.pv false) a0))), (6, .val (.pv (I s5))), (26, .val (.pv (.sl false 1 (a1.map I)))), (27, .val (.pv (I (a1.length : Int)))), (28, .val (.pv (I (i5 : Int))))]) (fun i5 s5 => []) (St.le_mk (by simp -dsimp -implicitDefEqProofs -failIfUnchanged only [↓RA, RB, RS, fx35, cast0, cast1, cast2, implies_true, Nat.reduceLT, Nat.reduceAdd, Nat.reduceMul, Nat.reduceEqDiff, reduceIte, Nat.reduceBEq, Nat.reduceLeDiff, Nat.reduceSub, Int.reduceToNat, c1, c2, c3]) (by simp -dsimp -implicitDefEqProofs -failIfUnchanged only [↓RA, RB, RS, fx35, cast0, cast1, cast2, implies_true, Nat.reduceLT, Nat.reduceAdd, Nat.reduceMul, Nat.reduceEqDiff, reduceIte, Nat.reduceBEq, Nat.reduceLeDiff, Nat.reduceSub, Int.reduceToNat, c1, c2, c3])) (fun i5 s5 hi h => ?_) (fun s5 h => ?_)
        · have w5 := wrap_succ (i := i5) (by omega)
          simp -dsimp -implicitDefEqProofs -failIfUnchanged only [↓RA, RB, RS, fx35, cast0, cast1, cast2, implies_true, Nat.reduceLT, Nat.reduceAdd, Nat.reduceMul, Nat.reduceEqDiff, reduceIte, Nat.reduceBEq, Nat.reduceLeDiff, Nat.reduceSub, Int.reduceToNat, c1, c2, c3]
          refine CondH.tt (decide_eq_true (by omega)) (fun c4 => ?_)
          simp -dsimp -implicitDefEqProofs -failIfUnchanged only [↓RA, RB, RS, fx35, cast0, cast1, cast2, implies_true, Nat.reduceLT, Nat.reduceAdd, Nat.reduceMul, Nat.reduceEqDiff, reduceIte, Nat.reduceBEq, Nat.reduceLeDiff, Nat.reduceSub, Int.reduceToNat, c1, c2, c3, c4]
          obtain ⟨v31, hv31, h⟩ := run_bind h
          refine IdxH.mk (f := I) hv31 (by simp -dsimp -implicitDefEqProofs -failIfUnchanged only [↓RA, RB, RS, fx35, cast0, cast1, cast2, implies_true, Nat.reduceLT, Nat.reduceAdd, Nat.reduceMul, Nat.reduceEqDiff, reduceIte, Nat.reduceBEq, Nat.reduceLeDiff, Nat.reduceSub, Int.reduceToNat, c1, c2, c3, c4]) ?_
          simp -dsimp -implicitDefEqProofs -failIfUnchanged only [↓RA, RB, RS, fx35, cast0, cast1, cast2, implies_true, Nat.reduceLT, Nat.reduceAdd, Nat.reduceMul, Nat.reduceEqDiff, reduceIte, Nat.reduceBEq, Nat.reduceLeDiff, Nat.reduceSub, Int.reduceToNat, c1, c2, c3, c4]
          obtain ⟨v38, hv38, h⟩ := run_bind h
          refine IdxH.mk (f := I) hv38 (by simp -dsimp -implicitDefEqProofs -failIfUnchanged only [↓RA, RB, RS, fx35, cast0, cast1, cast2, implies_true, Nat.reduceLT, Nat.reduceAdd, Nat.reduceMul, Nat.reduceEqDiff, reduceIte, Nat.reduceBEq, Nat.reduceLeDiff, Nat.reduceSub, Int.reduceToNat, c1, c2, c3, c4]) ?_
          simp -dsimp -implicitDefEqProofs -failIfUnchanged only [↓RA, RB, RS, fx35, cast0, cast1, cast2, implies_true, Nat.reduceLT, Nat.reduceAdd, Nat.reduceMul, Nat.reduceEqDiff, reduceIte, Nat.reduceBEq, Nat.reduceLeDiff, Nat.reduceSub, Int.reduceToNat, c1, c2, c3, c4]
          have h := run_some h
          refine RdH.mk ⟨_, h, ?_⟩
          refine St.le_mk ?_ ?_
          · simp -dsimp -implicitDefEqProofs -failIfUnchanged only [↓RA, RB, RS, fx35, cast0, cast1, cast2, implies_true, Nat.reduceLT, Nat.reduceAdd, Nat.reduceMul, Nat.reduceEqDiff, reduceIte, Nat.reduceBEq, Nat.reduceLeDiff, Nat.reduceSub, Int.reduceToNat, c1, c2, c3, c4, w5]
          · simp -dsimp -implicitDefEqProofs -failIfUnchanged only [↓RA, RB, RS, fx35, cast0, cast1, cast2, implies_true, Nat.reduceLT, Nat.reduceAdd, Nat.reduceMul, Nat.reduceEqDiff, reduceIte, Nat.reduceBEq, Nat.reduceLeDiff, Nat.reduceSub, Int.reduceToNat, c1, c2, c3, c4, w5]
        · simp -dsimp -implicitDefEqProofs -failIfUnchanged only [↓RA, RB, RS, fx35, cast0, cast1, cast2, implies_true, Nat.reduceLT, Nat.reduceAdd, Nat.reduceMul, Nat.reduceEqDiff, reduceIte, Nat.reduceBEq, Nat.reduceLeDiff, Nat.reduceSub, Int.reduceToNat, c1, c2, c3]
          refine CondH.ff (decide_eq_false (by omega)) (fun c5 => ?_)
          simp -dsimp -implicitDefEqProofs -failIfUnchanged only [↓RA, RB, RS, fx35, cast0, cast1, cast2, implies_true, Nat.reduceLT, Nat.reduceAdd, Nat.reduceMul, Nat.reduceEqDiff, reduceIte, Nat.reduceBEq, Nat.reduceLeDiff, Nat.reduceSub, Int.reduceToNat, c1, c2, c3, c5]
          have h := run_some h
          obtain rfl : _ = r := h
          refine FinH.l ?_
          simp -dsimp -implicitDefEqProofs -failIfUnchanged only [↓RA, RB, RS, fx35, cast0, cast1, cast2, implies_true, Nat.reduceLT, Nat.reduceAdd, Nat.reduceMul, Nat.reduceEqDiff, reduceIte, Nat.reduceBEq, Nat.reduceLeDiff, Nat.reduceSub, Int.reduceToNat]
    · replace h := run_f c2 h
      simp -dsimp -implicitDefEqProofs -failIfUnchanged only [↓RA, RB, RS, fx35, cast0, cast1, cast2, implies_true, Nat.reduceLT, Nat.reduceAdd, Nat.reduceMul, Nat.reduceEqDiff, reduceIte, Nat.reduceBEq, Nat.reduceLeDiff, Nat.reduceSub, Int.reduceToNat, c1, c2]
      have h := run_some h
      obtain rfl : _ = r := h
      refine FinH.l ?_
      simp -dsimp -implicitDefEqProofs -failIfUnchanged only [↓RA, RB, RS, fx35, cast0, cast1, cast2, implies_true, Nat.reduceLT, Nat.reduceAdd, Nat.reduceMul, Nat.reduceEqDiff, reduceIte, Nat.reduceBEq, Nat.reduceLeDiff, Nat.reduceSub, Int.reduceToNat]
  · replace h := run_f c1 h
    simp -dsimp -implicitDefEqProofs -failIfUnchanged only [↓RA, RB, RS, fx35, cast0, cast1, cast2, implies_true, Nat.reduceLT, Nat.reduceAdd, Nat.reduceMul, Nat.reduceEqDiff, reduceIte, Nat.reduceBEq, Nat.reduceLeDiff, Nat.reduceSub, Int.reduceToNat, c1]
    have h := run_some h
    obtain rfl : _ = r := h
    refine FinH.l ?_
    simp -dsimp -implicitDefEqProofs -failIfUnchanged only [↓RA, RB, RS, fx35, cast0, cast1, cast2, implies_true, Nat.reduceLT, Nat.reduceAdd, Nat.reduceMul, Nat.reduceEqDiff, reduceIte, Nat.reduceBEq, Nat.reduceLeDiff, Nat.reduceSub, Int.reduceToNat]

def fx80 := And.intro @ty_3 <| And.intro @zc_3 <| And.intro @z_3 <| And.intro @ty_9 <| And.intro @zc_9 <| And.intro @z_9 <| And.intro @u_9 <| And.intro @ty_49 <| And.intro @zc_49 <| And.intro @z_49 <| And.intro @es_49 <| And.intro @eb_49 <| And.intro @sl_49 <| And.intro @is_49 <| And.intro @el_49 <| And.intro @ze_49 <| And.intro @ez_49 <| @mixedT
set_option maxHeartbeats 4000000 in
theorem eqStringS_sat {a0 : List ByteArray} {a1 : List ByteArray}  {r : Bool} (h : eqStringS a0 a1 = some r) : Sat Try.prog 80 [(.sl false 1 (a0.map Sx)), (.sl false 1 (a1.map Sx))] (B r) := by
  replace h := Run.of h
  unfold eqStringS at h
  refine Sat.of_m (nt := 26) (rs := [.tmp 4]) (n := 100000) Try.func80 rfl rfl rfl rfl (by simp) ?_
  simp -dsimp -implicitDefEqProofs -failIfUnchanged only [↓RA, RB, RS, fx80, cast0, cast1, cast2, implies_true, Nat.reduceLT, Nat.reduceAdd, Nat.reduceMul, Nat.reduceEqDiff, reduceIte, Nat.reduceBEq, Nat.reduceLeDiff, Nat.reduceSub, Int.reduceToNat]
  refine CondH.mk (fun c1 => ?_) (fun c1 => ?_)
  · replace h := run_t c1 h
    simp -dsimp -implicitDefEqProofs -failIfUnchanged only [↓RA, RB, RS, fx80, cast0, cast1, cast2, implies_true, Nat.reduceLT, Nat.reduceAdd, Nat.reduceMul, Nat.reduceEqDiff, reduceIte, Nat.reduceBEq, Nat.reduceLeDiff, Nat.reduceSub, Int.reduceToNat, c1]
    refine Mg.know_sl (b := false) (sz := 1) (es := a0.map Sx) 0 (by simp -dsimp -implicitDefEqProofs -failIfUnchanged only [↓RA, RB, RS, fx80, cast0, cast1, cast2, implies_true, Nat.reduceLT, Nat.reduceAdd, Nat.reduceMul, Nat.reduceEqDiff, reduceIte, Nat.reduceBEq, Nat.reduceLeDiff, Nat.reduceSub, Int.reduceToNat, c1]) fun hl0 => ?_; rw [List.length_map] at hl0
    replace h := run_loop h
    refine Mg.forN h (fun i4 s4 => [(0, .val (.pv (.sl false 1 (a0.map Sx)))), (1, .val (.pv (.sl false 1 (a1.map Sx)))), (5, .val (.pv (I (i4 : Int))))]) (fun i4 s4 => []) (St.le_mk (by simp -dsimp -implicitDefEqProofs -failIfUnchanged only [↓RA, RB, RS, fx80, cast0, cast1, cast2, implies_true, Nat.reduceLT, Nat.reduceAdd, Nat.reduceMul, Nat.reduceEqDiff, reduceIte, Nat.reduceBEq, Nat.reduceLeDiff, Nat.reduceSub, Int.reduceToNat, c1]) (by simp -dsimp -implicitDefEqProofs -failIfUnchanged only [↓RA, RB, RS, fx80, cast0, cast1, cast2, implies_true, Nat.reduceLT, Nat.reduceAdd, Nat.reduceMul, Nat.reduceEqDiff, reduceIte, Nat.reduceBEq, Nat.reduceLeDiff, Nat.reduceSub, Int.reduceToNat, c1])) (fun i4 s4 hi h => ?_) (fun s4 h => ?_)
    · have w4 := wrap_succ (i := i4) (by omega)
      simp -dsimp -implicitDefEqProofs -failIfUnchanged only [↓RA, RB, RS, fx80, cast0, cast1, cast2, implies_true, Nat.reduceLT, Nat.reduceAdd, Nat.reduceMul, Nat.reduceEqDiff, reduceIte, Nat.reduceBEq, Nat.reduceLeDiff, Nat.reduceSub, Int.reduceToNat, c1]
      refine CondH.tt (decide_eq_true (by omega)) (fun c2 => ?_)
      simp -dsimp -implicitDefEqProofs -failIfUnchanged only [↓RA, RB, RS, fx80, cast0, cast1, cast2, implies_true, Nat.reduceLT, Nat.reduceAdd, Nat.reduceMul, Nat.reduceEqDiff, reduceIte, Nat.reduceBEq, Nat.reduceLeDiff, Nat.reduceSub, Int.reduceToNat, c1, c2]
      obtain ⟨v19, hv19, h⟩ := run_bind h
      refine IdxH.mk (f := Sx) hv19 (by simp -dsimp -implicitDefEqProofs -failIfUnchanged only [↓RA, RB, RS, fx80, cast0, cast1, cast2, implies_true, Nat.reduceLT, Nat.reduceAdd, Nat.reduceMul, Nat.reduceEqDiff, reduceIte, Nat.reduceBEq, Nat.reduceLeDiff, Nat.reduceSub, Int.reduceToNat, c1, c2]) ?_
      simp -dsimp -implicitDefEqProofs -failIfUnchanged only [↓RA, RB, RS, fx80, cast0, cast1, cast2, implies_true, Nat.reduceLT, Nat.reduceAdd, Nat.reduceMul, Nat.reduceEqDiff, reduceIte, Nat.reduceBEq, Nat.reduceLeDiff, Nat.reduceSub, Int.reduceToNat, c1, c2]
      obtain ⟨v23, hv23, h⟩ := run_bind h
      refine IdxH.mk (f := Sx) hv23 (by simp -dsimp -implicitDefEqProofs -failIfUnchanged only [↓RA, RB, RS, fx80, cast0, cast1, cast2, implies_true, Nat.reduceLT, Nat.reduceAdd, Nat.reduceMul, Nat.reduceEqDiff, reduceIte, Nat.reduceBEq, Nat.reduceLeDiff, Nat.reduceSub, Int.reduceToNat, c1, c2]) ?_
      simp -dsimp -implicitDefEqProofs -failIfUnchanged only [↓RA, RB, RS, fx80, cast0, cast1, cast2, implies_true, Nat.reduceLT, Nat.reduceAdd, Nat.reduceMul, Nat.reduceEqDiff, reduceIte, Nat.reduceBEq, Nat.reduceLeDiff, Nat.reduceSub, Int.reduceToNat, c1, c2]
      refine And.intro (DrawH.none (by rfl) (by first | rfl | (simp -dsimp -implicitDefEqProofs -failIfUnchanged only [↓RA, RB, RS, fx80, cast0, cast1, cast2, implies_true, Nat.reduceLT, Nat.reduceAdd, Nat.reduceMul, Nat.reduceEqDiff, reduceIte, Nat.reduceBEq, Nat.reduceLeDiff, Nat.reduceSub, Int.reduceToNat] <;> rfl)) (by first | rfl | (simp -dsimp -implicitDefEqProofs -failIfUnchanged only [↓RA, RB, RS, fx80, cast0, cast1, cast2, implies_true, Nat.reduceLT, Nat.reduceAdd, Nat.reduceMul, Nat.reduceEqDiff, reduceIte, Nat.reduceBEq, Nat.reduceLeDiff, Nat.reduceSub, Int.reduceToNat] <;> rfl)) (by first | rfl | (simp -dsimp -implicitDefEqProofs -failIfUnchanged only [↓RA, RB, RS, fx80, cast0, cast1, cast2, implies_true, Nat.reduceLT, Nat.reduceAdd, Nat.reduceMul, Nat.reduceEqDiff, reduceIte, Nat.reduceBEq, Nat.reduceLeDiff, Nat.reduceSub, Int.reduceToNat] <;> rfl))) ?_
      simp -dsimp -implicitDefEqProofs -failIfUnchanged only [↓RA, RB, RS, fx80, cast0, cast1, cast2, implies_true, Nat.reduceLT, Nat.reduceAdd, Nat.reduceMul, Nat.reduceEqDiff, reduceIte, Nat.reduceBEq, Nat.reduceLeDiff, Nat.reduceSub, Int.reduceToNat, c1, c2]
      refine CondH.mk (fun c3 => ?_) (fun c3 => ?_)
      · replace h := run_t c3 h
        simp -dsimp -implicitDefEqProofs -failIfUnchanged only [↓RA, RB, RS, fx80, cast0, cast1, cast2, implies_true, Nat.reduceLT, Nat.reduceAdd, Nat.reduceMul, Nat.reduceEqDiff, reduceIte, Nat.reduceBEq, Nat.reduceLeDiff, Nat.reduceSub, Int.reduceToNat, c1, c2, c3]
        have h := run_some h
        refine RdH.mk ⟨_, h, ?_⟩
        refine St.le_mk ?_ ?_
        · simp -dsimp -implicitDefEqProofs -failIfUnchanged only [↓RA, RB, RS, fx80, cast0, cast1, cast2, implies_true, Nat.reduceLT, Nat.reduceAdd, Nat.reduceMul, Nat.reduceEqDiff, reduceIte, Nat.reduceBEq, Nat.reduceLeDiff, Nat.reduceSub, Int.reduceToNat, c1, c2, c3, w4]
        · simp -dsimp -implicitDefEqProofs -failIfUnchanged only [↓RA, RB, RS, fx80, cast0, cast1, cast2, implies_true, Nat.reduceLT, Nat.reduceAdd, Nat.reduceMul, Nat.reduceEqDiff, reduceIte, Nat.reduceBEq, Nat.reduceLeDiff, Nat.reduceSub, Int.reduceToNat, c1, c2, c3, w4]
      · replace h := run_f c3 h
        simp -dsimp -implicitDefEqProofs -failIfUnchanged only [↓RA, RB, RS, fx80, cast0, cast1, cast2, implies_true, Nat.reduceLT, Nat.reduceAdd, Nat.reduceMul, Nat.reduceEqDiff, reduceIte, Nat.reduceBEq, Nat.reduceLeDiff, Nat.reduceSub, Int.reduceToNat, c1, c2, c3]
        have h := run_some h
        obtain rfl : _ = r := h
        refine FinH.l ?_
        simp -dsimp -implicitDefEqProofs -failIfUnchanged only [↓RA, RB, RS, fx80, cast0, cast1, cast2, implies_true, Nat.reduceLT, Nat.reduceAdd, Nat.reduceMul, Nat.reduceEqDiff, reduceIte, Nat.reduceBEq, Nat.reduceLeDiff, Nat.reduceSub, Int.reduceToNat]
    · simp -dsimp -implicitDefEqProofs -failIfUnchanged only [↓RA, RB, RS, fx80, cast0, cast1, cast2, implies_true, Nat.reduceLT, Nat.reduceAdd, Nat.reduceMul, Nat.reduceEqDiff, reduceIte, Nat.reduceBEq, Nat.reduceLeDiff, Nat.reduceSub, Int.reduceToNat, c1]
      refine CondH.ff (decide_eq_false (by omega)) (fun c4 => ?_)
      simp -dsimp -implicitDefEqProofs -failIfUnchanged only [↓RA, RB, RS, fx80, cast0, cast1, cast2, implies_true, Nat.reduceLT, Nat.reduceAdd, Nat.reduceMul, Nat.reduceEqDiff, reduceIte, Nat.reduceBEq, Nat.reduceLeDiff, Nat.reduceSub, Int.reduceToNat, c1, c4]
      have h := run_some h
      obtain rfl : _ = r := h
      refine FinH.l ?_
      simp -dsimp -implicitDefEqProofs -failIfUnchanged only [↓RA, RB, RS, fx80, cast0, cast1, cast2, implies_true, Nat.reduceLT, Nat.reduceAdd, Nat.reduceMul, Nat.reduceEqDiff, reduceIte, Nat.reduceBEq, Nat.reduceLeDiff, Nat.reduceSub, Int.reduceToNat]
  · replace h := run_f c1 h
    simp -dsimp -implicitDefEqProofs -failIfUnchanged only [↓RA, RB, RS, fx80, cast0, cast1, cast2, implies_true, Nat.reduceLT, Nat.reduceAdd, Nat.reduceMul, Nat.reduceEqDiff, reduceIte, Nat.reduceBEq, Nat.reduceLeDiff, Nat.reduceSub, Int.reduceToNat, c1]
    have h := run_some h
    obtain rfl : _ = r := h
    refine FinH.l ?_
    simp -dsimp -implicitDefEqProofs -failIfUnchanged only [↓RA, RB, RS, fx80, cast0, cast1, cast2, implies_true, Nat.reduceLT, Nat.reduceAdd, Nat.reduceMul, Nat.reduceEqDiff, reduceIte, Nat.reduceBEq, Nat.reduceLeDiff, Nat.reduceSub, Int.reduceToNat]

def fx36 := And.intro @ty_3 <| And.intro @zc_3 <| And.intro @z_3 <| And.intro @ty_50 <| And.intro @zc_50 <| And.intro @z_50 <| And.intro @es_50 <| And.intro @eb_50 <| And.intro @sl_50 <| And.intro @is_50 <| And.intro @el_50 <| And.intro @ze_50 <| And.intro @ez_50 <| @mixedT
set_option maxHeartbeats 4000000 in
theorem eqIntS_sat {a0 : List Int} {a1 : List Int}  {r : Bool} (h : eqIntS a0 a1 = some r) : Sat Try.prog 36 [(.sl false 1 (a0.map I)), (.sl false 1 (a1.map I))] (B r) := by
  replace h := Run.of h
  unfold eqIntS at h
  refine Sat.of_m (nt := 26) (rs := [.tmp 4]) (n := 100000) Try.func36 rfl rfl rfl rfl (by simp) ?_
  simp -dsimp -implicitDefEqProofs -failIfUnchanged only [↓RA, RB, RS, fx36, cast0, cast1, cast2, implies_true, Nat.reduceLT, Nat.reduceAdd, Nat.reduceMul, Nat.reduceEqDiff, reduceIte, Nat.reduceBEq, Nat.reduceLeDiff, Nat.reduceSub, Int.reduceToNat]
  refine CondH.mk (fun c1 => ?_) (fun c1 => ?_)
  · replace h := run_t c1 h
    simp -dsimp -implicitDefEqProofs -failIfUnchanged only [↓RA, RB, RS, fx36, cast0, cast1, cast2, implies_true, Nat.reduceLT, Nat.reduceAdd, Nat.reduceMul, Nat.reduceEqDiff, reduceIte, Nat.reduceBEq, Nat.reduceLeDiff, Nat.reduceSub, Int.reduceToNat, c1]
    refine Mg.know_sl (b := false) (sz := 1) (es := a0.map I) 0 (by simp -dsimp -implicitDefEqProofs -failIfUnchanged only [↓RA, RB, RS, fx36, cast0, cast1, cast2, implies_true, Nat.reduceLT, Nat.reduceAdd, Nat.reduceMul, Nat.reduceEqDiff, reduceIte, Nat.reduceBEq, Nat.reduceLeDiff, Nat.reduceSub, Int.reduceToNat, c1]) fun hl0 => ?_; rw [List.length_map] at hl0
    replace h := run_loop h
    refine Mg.forN h (fun i4 s4 => [(0, .val (.pv (.sl false 1 (a0.map I)))), (1, .val (.pv (.sl false 1 (a1.map I)))), (5, .val (.pv (I (i4 : Int))))]) (fun i4 s4 => []) (St.le_mk (by simp -dsimp -implicitDefEqProofs -failIfUnchanged only [↓RA, RB, RS, fx36, cast0, cast1, cast2, implies_true, Nat.reduceLT, Nat.reduceAdd, Nat.reduceMul, Nat.reduceEqDiff, reduceIte, Nat.reduceBEq, Nat.reduceLeDiff, Nat.reduceSub, Int.reduceToNat, c1]) (by simp -dsimp -implicitDefEqProofs -failIfUnchanged only [↓RA, RB, RS, fx36, cast0, cast1, cast2, implies_true, Nat.reduceLT, Nat.reduceAdd, Nat.reduceMul, Nat.reduceEqDiff, reduceIte, Nat.reduceBEq, Nat.reduceLeDiff, Nat.reduceSub, Int.reduceToNat, c1])) (fun i4 s4 hi h => ?_) (fun s4 h => ?_)
    · have w4 := wrap_succ (i := i4) (by omega)
      simp -dsimp -implicitDefEqProofs -failIfUnchanged only [↓RA, RB, RS, fx36, cast0, cast1, cast2, implies_true, Nat.reduceLT, Nat.reduceAdd, Nat.reduceMul, Nat.reduceEqDiff, reduceIte, Nat.reduceBEq, Nat.reduceLeDiff, Nat.reduceSub, Int.reduceToNat, c1]
      refine CondH.tt (decide_eq_true (by omega)) (fun c2 => ?_)
      simp -dsimp -implicitDefEqProofs -failIfUnchanged only [↓RA, RB, RS, fx36, cast0, cast1, cast2, implies_true, Nat.reduceLT, Nat.reduceAdd, Nat.reduceMul, Nat.reduceEqDiff, reduceIte, Nat.reduceBEq, Nat.reduceLeDiff, Nat.reduceSub, Int.reduceToNat, c1, c2]
      obtain ⟨v19, hv19, h⟩ := run_bind h
      refine IdxH.mk (f := I) hv19 (by simp -dsimp -implicitDefEqProofs -failIfUnchanged only [↓RA, RB, RS, fx36, cast0, cast1, cast2, implies_true, Nat.reduceLT, Nat.reduceAdd, Nat.reduceMul, Nat.reduceEqDiff, reduceIte, Nat.reduceBEq, Nat.reduceLeDiff, Nat.reduceSub, Int.reduceToNat, c1, c2]) ?_
      simp -dsimp -implicitDefEqProofs -failIfUnchanged only [↓RA, RB, RS, fx36, cast0, cast1, cast2, implies_true, Nat.reduceLT, Nat.reduceAdd, Nat.reduceMul, Nat.reduceEqDiff, reduceIte, Nat.reduceBEq, Nat.reduceLeDiff, Nat.reduceSub, Int.reduceToNat, c1, c2]
      obtain ⟨v23, hv23, h⟩ := run_bind h
      refine IdxH.mk (f := I) hv23 (by simp -dsimp -implicitDefEqProofs -failIfUnchanged only [↓RA, RB, RS, fx36, cast0, cast1, cast2, implies_true, Nat.reduceLT, Nat.reduceAdd, Nat.reduceMul, Nat.reduceEqDiff, reduceIte, Nat.reduceBEq, Nat.reduceLeDiff, Nat.reduceSub, Int.reduceToNat, c1, c2]) ?_
      simp -dsimp -implicitDefEqProofs -failIfUnchanged only [↓RA, RB, RS, fx36, cast0, cast1, cast2, implies_true, Nat.reduceLT, Nat.reduceAdd, Nat.reduceMul, Nat.reduceEqDiff, reduceIte, Nat.reduceBEq, Nat.reduceLeDiff, Nat.reduceSub, Int.reduceToNat, c1, c2]
      refine And.intro (DrawH.none (by rfl) (by first | rfl | (simp -dsimp -implicitDefEqProofs -failIfUnchanged only [↓RA, RB, RS, fx36, cast0, cast1, cast2, implies_true, Nat.reduceLT, Nat.reduceAdd, Nat.reduceMul, Nat.reduceEqDiff, reduceIte, Nat.reduceBEq, Nat.reduceLeDiff, Nat.reduceSub, Int.reduceToNat] <;> rfl)) (by first | rfl | (simp -dsimp -implicitDefEqProofs -failIfUnchanged only [↓RA, RB, RS, fx36, cast0, cast1, cast2, implies_true, Nat.reduceLT, Nat.reduceAdd, Nat.reduceMul, Nat.reduceEqDiff, reduceIte, Nat.reduceBEq, Nat.reduceLeDiff, Nat.reduceSub, Int.reduceToNat] <;> rfl)) (by first | rfl | (simp -dsimp -implicitDefEqProofs -failIfUnchanged only [↓RA, RB, RS, fx36, cast0, cast1, cast2, implies_true, Nat.reduceLT, Nat.reduceAdd, Nat.reduceMul, Nat.reduceEqDiff, reduceIte, Nat.reduceBEq, Nat.reduceLeDiff, Nat.reduceSub, Int.reduceToNat] <;> rfl))) ?_
      simp -dsimp -implicitDefEqProofs -failIfUnchanged only [↓RA, RB, RS, fx36, cast0, cast1, cast2, implies_true, Nat.reduceLT, Nat.reduceAdd, Nat.reduceMul, Nat.reduceEqDiff, reduceIte, Nat.reduceBEq, Nat.reduceLeDiff, Nat.reduceSub, Int.reduceToNat, c1, c2]
      refine CondH.mk (fun c3 => ?_) (fun c3 => ?_)
      · replace h := run_t c3 h
        simp -dsimp -implicitDefEqProofs -failIfUnchanged only [↓RA, RB, RS, fx36, cast0, cast1, cast2, implies_true, Nat.reduceLT, Nat.reduceAdd, Nat.reduceMul, Nat.reduceEqDiff, reduceIte, Nat.reduceBEq, Nat.reduceLeDiff, Nat.reduceSub, Int.reduceToNat, c1, c2, c3]
        have h := run_some h
        refine RdH.mk ⟨_, h, ?_⟩
        refine St.le_mk ?_ ?_
        · simp -dsimp -implicitDefEqProofs -failIfUnchanged only [↓RA, RB, RS, fx36, cast0, cast1, cast2, implies_true, Nat.reduceLT, Nat.reduceAdd, Nat.reduceMul, Nat.reduceEqDiff, reduceIte, Nat.reduceBEq, Nat.reduceLeDiff, Nat.reduceSub, Int.reduceToNat, c1, c2, c3, w4]
        · simp -dsimp -implicitDefEqProofs -failIfUnchanged only [↓RA, RB, RS, fx36, cast0, cast1, cast2, implies_true, Nat.reduceLT, Nat.reduceAdd, Nat.reduceMul, Nat.reduceEqDiff, reduceIte, Nat.reduceBEq, Nat.reduceLeDiff, Nat.reduceSub, Int.reduceToNat, c1, c2, c3, w4]
      · replace h := run_f c3 h
        simp -dsimp -implicitDefEqProofs -failIfUnchanged only [↓RA, RB, RS, fx36, cast0, cast1, cast2, implies_true, Nat.reduceLT, Nat.reduceAdd, Nat.reduceMul, Nat.reduceEqDiff, reduceIte, Nat.reduceBEq, Nat.reduceLeDiff, Nat.reduceSub, Int.reduceToNat, c1, c2, c3]
        have h := run_some h
        obtain rfl : _ = r := h
        refine FinH.l ?_
        simp -dsimp -implicitDefEqProofs -failIfUnchanged only [↓RA, RB, RS, fx36, cast0, cast1, cast2, implies_true, Nat.reduceLT, Nat.reduceAdd, Nat.reduceMul, Nat.reduceEqDiff, reduceIte, Nat.reduceBEq, Nat.reduceLeDiff, Nat.reduceSub, Int.reduceToNat]
    · simp -dsimp -implicitDefEqProofs -failIfUnchanged only [↓RA, RB, RS, fx36, cast0, cast1, cast2, implies_true, Nat.reduceLT, Nat.reduceAdd, Nat.reduceMul, Nat.reduceEqDiff, reduceIte, Nat.reduceBEq, Nat.reduceLeDiff, Nat.reduceSub, Int.reduceToNat, c1]
      refine CondH.ff (decide_eq_false (by omega)) (fun c4 => ?_)
      simp -dsimp -implicitDefEqProofs -failIfUnchanged only [↓RA, RB, RS, fx36, cast0, cast1, cast2, implies_true, Nat.reduceLT, Nat.reduceAdd, Nat.reduceMul, Nat.reduceEqDiff, reduceIte, Nat.reduceBEq, Nat.reduceLeDiff, Nat.reduceSub, Int.reduceToNat, c1, c4]
      have h := run_some h
      obtain rfl : _ = r := h
      refine FinH.l ?_
      simp -dsimp -implicitDefEqProofs -failIfUnchanged only [↓RA, RB, RS, fx36, cast0, cast1, cast2, implies_true, Nat.reduceLT, Nat.reduceAdd, Nat.reduceMul, Nat.reduceEqDiff, reduceIte, Nat.reduceBEq, Nat.reduceLeDiff, Nat.reduceSub, Int.reduceToNat]
  · replace h := run_f c1 h
    simp -dsimp -implicitDefEqProofs -failIfUnchanged only [↓RA, RB, RS, fx36, cast0, cast1, cast2, implies_true, Nat.reduceLT, Nat.reduceAdd, Nat.reduceMul, Nat.reduceEqDiff, reduceIte, Nat.reduceBEq, Nat.reduceLeDiff, Nat.reduceSub, Int.reduceToNat, c1]
    have h := run_some h
    obtain rfl : _ = r := h
    refine FinH.l ?_
    simp -dsimp -implicitDefEqProofs -failIfUnchanged only [↓RA, RB, RS, fx36, cast0, cast1, cast2, implies_true, Nat.reduceLT, Nat.reduceAdd, Nat.reduceMul, Nat.reduceEqDiff, reduceIte, Nat.reduceBEq, Nat.reduceLeDiff, Nat.reduceSub, Int.reduceToNat]

def fx32 := And.intro @ty_3 <| And.intro @zc_3 <| And.intro @z_3 <| And.intro @ty_4 <| And.intro @zc_4 <| And.intro @z_4 <| And.intro @u_4 <| And.intro @ty_49 <| And.intro @zc_49 <| And.intro @z_49 <| And.intro @es_49 <| And.intro @eb_49 <| And.intro @sl_49 <| And.intro @is_49 <| And.intro @el_49 <| And.intro @ze_49 <| And.intro @ez_49 <| And.intro @ty_50 <| And.intro @zc_50 <| And.intro @z_50 <| And.intro @es_50 <| And.intro @eb_50 <| And.intro @sl_50 <| And.intro @is_50 <| And.intro @el_50 <| And.intro @ze_50 <| And.intro @ez_50 <| And.intro @ty_55 <| And.intro @zc_55 <| And.intro @z_55 <| And.intro @fo_55_0 <| And.intro @fi_55_0 <| And.intro @ft_55_0 <| And.intro @fo_55_1 <| And.intro @fi_55_1 <| And.intro @ft_55_1 <| And.intro @fo_55_2 <| And.intro @fi_55_2 <| And.intro @ft_55_2 <| @lay_55
set_option maxHeartbeats 4000000 in
theorem eqLinear_sat {a0 : Linear} {a1 : Linear}  {r : Bool} (h : eqLinear a0 a1 = some r) : Sat Try.prog 32 [((Linear.pv false) a0), ((Linear.pv false) a1)] (B r) := by
  replace h := Run.of h
  unfold eqLinear at h
  refine Sat.of_m (nt := 22) (rs := [.tmp 4]) (n := 100000) Try.func32 rfl rfl rfl rfl (by simp) ?_
  simp -dsimp -implicitDefEqProofs -failIfUnchanged only [↓RA, RB, RS, fx32, cast0, cast1, cast2, implies_true, Nat.reduceLT, Nat.reduceAdd, Nat.reduceMul, Nat.reduceEqDiff, reduceIte, Nat.reduceBEq, Nat.reduceLeDiff, Nat.reduceSub, Int.reduceToNat]
  repeat (first | with_reducible refine noR_and (by repeat (first | exact noR_empty _ _ | exact noR_nilS _ _ | refine noR_mk _ _ _ _ _ rfl ?_ | refine noR_mkS _ _ _ _ _ rfl ?_)) ?_ | with_reducible refine noC_and (by repeat (first | exact noC_empty _ _ (by simp -dsimp -implicitDefEqProofs -failIfUnchanged only [↓RA, RB, RS, fx32, cast0, cast1, cast2, implies_true, Nat.reduceLT, Nat.reduceAdd, Nat.reduceMul, Nat.reduceEqDiff, reduceIte, Nat.reduceBEq, Nat.reduceLeDiff, Nat.reduceSub, Int.reduceToNat]) | exact noC_nilS _ _ (by simp -dsimp -implicitDefEqProofs -failIfUnchanged only [↓RA, RB, RS, fx32, cast0, cast1, cast2, implies_true, Nat.reduceLT, Nat.reduceAdd, Nat.reduceMul, Nat.reduceEqDiff, reduceIte, Nat.reduceBEq, Nat.reduceLeDiff, Nat.reduceSub, Int.reduceToNat]) | refine noC_mk _ _ _ _ _ rfl ?_ | refine noC_mkS _ _ _ _ _ rfl ?_)) ?_ | with_reducible refine and_ac ?_ | with_reducible refine And.intro (a := _ = List.range _) (by rfl) ?_)
  obtain ⟨v9, hv9, h⟩ := run_bind h
  refine CallH.mk [false, false] (eqStringS_sat hv9) (by simp -dsimp -implicitDefEqProofs -failIfUnchanged only [↓RA, RB, RS, fx32, cast0, cast1, cast2, implies_true, Nat.reduceLT, Nat.reduceAdd, Nat.reduceMul, Nat.reduceEqDiff, reduceIte, Nat.reduceBEq, Nat.reduceLeDiff, Nat.reduceSub, Int.reduceToNat]) ?_
  simp -dsimp -implicitDefEqProofs -failIfUnchanged only [↓RA, RB, RS, fx32, cast0, cast1, cast2, implies_true, Nat.reduceLT, Nat.reduceAdd, Nat.reduceMul, Nat.reduceEqDiff, reduceIte, Nat.reduceBEq, Nat.reduceLeDiff, Nat.reduceSub, Int.reduceToNat]
  refine CondH.mk (fun c1 => ?_) (fun c1 => ?_)
  · replace h := run_t c1 h
    simp -dsimp -implicitDefEqProofs -failIfUnchanged only [↓RA, RB, RS, fx32, cast0, cast1, cast2, implies_true, Nat.reduceLT, Nat.reduceAdd, Nat.reduceMul, Nat.reduceEqDiff, reduceIte, Nat.reduceBEq, Nat.reduceLeDiff, Nat.reduceSub, Int.reduceToNat, c1]
    obtain ⟨v15, hv15, h⟩ := run_bind h
    refine CallH.mk [false, false] (eqIntS_sat hv15) (by simp -dsimp -implicitDefEqProofs -failIfUnchanged only [↓RA, RB, RS, fx32, cast0, cast1, cast2, implies_true, Nat.reduceLT, Nat.reduceAdd, Nat.reduceMul, Nat.reduceEqDiff, reduceIte, Nat.reduceBEq, Nat.reduceLeDiff, Nat.reduceSub, Int.reduceToNat, c1]) ?_
    simp -dsimp -implicitDefEqProofs -failIfUnchanged only [↓RA, RB, RS, fx32, cast0, cast1, cast2, implies_true, Nat.reduceLT, Nat.reduceAdd, Nat.reduceMul, Nat.reduceEqDiff, reduceIte, Nat.reduceBEq, Nat.reduceLeDiff, Nat.reduceSub, Int.reduceToNat, c1]
    refine CondH.mk (fun c2 => ?_) (fun c2 => ?_)
    · replace h := run_t c2 h
      simp -dsimp -implicitDefEqProofs -failIfUnchanged only [↓RA, RB, RS, fx32, cast0, cast1, cast2, implies_true, Nat.reduceLT, Nat.reduceAdd, Nat.reduceMul, Nat.reduceEqDiff, reduceIte, Nat.reduceBEq, Nat.reduceLeDiff, Nat.reduceSub, Int.reduceToNat, c1, c2]
      refine CondH.mk (fun c3 => ?_) (fun c3 => ?_)
      · replace h := run_t c3 h
        simp -dsimp -implicitDefEqProofs -failIfUnchanged only [↓RA, RB, RS, fx32, cast0, cast1, cast2, implies_true, Nat.reduceLT, Nat.reduceAdd, Nat.reduceMul, Nat.reduceEqDiff, reduceIte, Nat.reduceBEq, Nat.reduceLeDiff, Nat.reduceSub, Int.reduceToNat, c1, c2, c3]
        have h := run_some h
        obtain rfl : _ = r := h
        refine FinH.l ?_
        simp -dsimp -implicitDefEqProofs -failIfUnchanged only [↓RA, RB, RS, fx32, cast0, cast1, cast2, implies_true, Nat.reduceLT, Nat.reduceAdd, Nat.reduceMul, Nat.reduceEqDiff, reduceIte, Nat.reduceBEq, Nat.reduceLeDiff, Nat.reduceSub, Int.reduceToNat]
      · replace h := run_f c3 h
        simp -dsimp -implicitDefEqProofs -failIfUnchanged only [↓RA, RB, RS, fx32, cast0, cast1, cast2, implies_true, Nat.reduceLT, Nat.reduceAdd, Nat.reduceMul, Nat.reduceEqDiff, reduceIte, Nat.reduceBEq, Nat.reduceLeDiff, Nat.reduceSub, Int.reduceToNat, c1, c2, c3]
        have h := run_some h
        obtain rfl : _ = r := h
        refine FinH.l ?_
        simp -dsimp -implicitDefEqProofs -failIfUnchanged only [↓RA, RB, RS, fx32, cast0, cast1, cast2, implies_true, Nat.reduceLT, Nat.reduceAdd, Nat.reduceMul, Nat.reduceEqDiff, reduceIte, Nat.reduceBEq, Nat.reduceLeDiff, Nat.reduceSub, Int.reduceToNat]
    · replace h := run_f c2 h
      simp -dsimp -implicitDefEqProofs -failIfUnchanged only [↓RA, RB, RS, fx32, cast0, cast1, cast2, implies_true, Nat.reduceLT, Nat.reduceAdd, Nat.reduceMul, Nat.reduceEqDiff, reduceIte, Nat.reduceBEq, Nat.reduceLeDiff, Nat.reduceSub, Int.reduceToNat, c1, c2]
      have h := run_some h
      obtain rfl : _ = r := h
      refine FinH.l ?_
      simp -dsimp -implicitDefEqProofs -failIfUnchanged only [↓RA, RB, RS, fx32, cast0, cast1, cast2, implies_true, Nat.reduceLT, Nat.reduceAdd, Nat.reduceMul, Nat.reduceEqDiff, reduceIte, Nat.reduceBEq, Nat.reduceLeDiff, Nat.reduceSub, Int.reduceToNat]
  · replace h := run_f c1 h
    simp -dsimp -implicitDefEqProofs -failIfUnchanged only [↓RA, RB, RS, fx32, cast0, cast1, cast2, implies_true, Nat.reduceLT, Nat.reduceAdd, Nat.reduceMul, Nat.reduceEqDiff, reduceIte, Nat.reduceBEq, Nat.reduceLeDiff, Nat.reduceSub, Int.reduceToNat, c1]
    have h := run_some h
    obtain rfl : _ = r := h
    refine FinH.l ?_
    simp -dsimp -implicitDefEqProofs -failIfUnchanged only [↓RA, RB, RS, fx32, cast0, cast1, cast2, implies_true, Nat.reduceLT, Nat.reduceAdd, Nat.reduceMul, Nat.reduceEqDiff, reduceIte, Nat.reduceBEq, Nat.reduceLeDiff, Nat.reduceSub, Int.reduceToNat]

def fx7 := And.intro @ty_3 <| And.intro @zc_3 <| And.intro @z_3 <| And.intro @ty_4 <| And.intro @zc_4 <| And.intro @z_4 <| And.intro @u_4 <| And.intro @ty_50 <| And.intro @zc_50 <| And.intro @z_50 <| And.intro @es_50 <| And.intro @eb_50 <| And.intro @sl_50 <| And.intro @is_50 <| And.intro @el_50 <| And.intro @ze_50 <| And.intro @ez_50 <| And.intro @ty_52 <| And.intro @zc_52 <| And.intro @z_52 <| And.intro @fo_52_0 <| And.intro @fi_52_0 <| And.intro @ft_52_0 <| And.intro @fo_52_1 <| And.intro @fi_52_1 <| And.intro @ft_52_1 <| And.intro @fo_52_2 <| And.intro @fi_52_2 <| And.intro @ft_52_2 <| And.intro @lay_52 <| And.intro @ty_55 <| And.intro @zc_55 <| And.intro @z_55 <| And.intro @fo_55_0 <| And.intro @fi_55_0 <| And.intro @ft_55_0 <| And.intro @fo_55_1 <| And.intro @fi_55_1 <| And.intro @ft_55_1 <| And.intro @fo_55_2 <| And.intro @fi_55_2 <| And.intro @ft_55_2 <| And.intro @lay_55 <| @mixedT
set_option maxHeartbeats 4000000 in
theorem FnExactEvaluateLinear_sat {a0 : Linear} {a1 : List Int}  {r : Bool} (h : FnExactEvaluateLinear a0 a1 = some r) : Sat Try.prog 7 [((Linear.pv false) a0), (.sl false 1 (a1.map I))] (B r) := by
  replace h := Run.of h
  unfold FnExactEvaluateLinear at h
  refine Sat.of_m (nt := 56) (rs := [.tmp 4]) (n := 100000) Try.func7 rfl rfl rfl rfl (by simp) ?_
  simp -dsimp -implicitDefEqProofs -failIfUnchanged only [↓RA, RB, RS, fx7, cast0, cast1, cast2, implies_true, Nat.reduceLT, Nat.reduceAdd, Nat.reduceMul, Nat.reduceEqDiff, reduceIte, Nat.reduceBEq, Nat.reduceLeDiff, Nat.reduceSub, Int.reduceToNat]
  repeat (first | with_reducible refine noR_and (by repeat (first | exact noR_empty _ _ | exact noR_nilS _ _ | refine noR_mk _ _ _ _ _ rfl ?_ | refine noR_mkS _ _ _ _ _ rfl ?_)) ?_ | with_reducible refine noC_and (by repeat (first | exact noC_empty _ _ (by simp -dsimp -implicitDefEqProofs -failIfUnchanged only [↓RA, RB, RS, fx7, cast0, cast1, cast2, implies_true, Nat.reduceLT, Nat.reduceAdd, Nat.reduceMul, Nat.reduceEqDiff, reduceIte, Nat.reduceBEq, Nat.reduceLeDiff, Nat.reduceSub, Int.reduceToNat]) | exact noC_nilS _ _ (by simp -dsimp -implicitDefEqProofs -failIfUnchanged only [↓RA, RB, RS, fx7, cast0, cast1, cast2, implies_true, Nat.reduceLT, Nat.reduceAdd, Nat.reduceMul, Nat.reduceEqDiff, reduceIte, Nat.reduceBEq, Nat.reduceLeDiff, Nat.reduceSub, Int.reduceToNat]) | refine noC_mk _ _ _ _ _ rfl ?_ | refine noC_mkS _ _ _ _ _ rfl ?_)) ?_ | with_reducible refine and_ac ?_ | with_reducible refine And.intro (a := _ = List.range _) (by rfl) ?_)
  refine CondH.mk (fun c1 => ?_) (fun c1 => ?_)
  · replace h := run_t c1 h
    simp -dsimp -implicitDefEqProofs -failIfUnchanged only [↓RA, RB, RS, fx7, cast0, cast1, cast2, implies_true, Nat.reduceLT, Nat.reduceAdd, Nat.reduceMul, Nat.reduceEqDiff, reduceIte, Nat.reduceBEq, Nat.reduceLeDiff, Nat.reduceSub, Int.reduceToNat, c1]
    have h := run_some h
    obtain rfl : _ = r := h
    refine FinH.l ?_
    simp -dsimp -implicitDefEqProofs -failIfUnchanged only [↓RA, RB, RS, fx7, cast0, cast1, cast2, implies_true, Nat.reduceLT, Nat.reduceAdd, Nat.reduceMul, Nat.reduceEqDiff, reduceIte, Nat.reduceBEq, Nat.reduceLeDiff, Nat.reduceSub, Int.reduceToNat]
  · replace h := run_f c1 h
    simp -dsimp -implicitDefEqProofs -failIfUnchanged only [↓RA, RB, RS, fx7, cast0, cast1, cast2, implies_true, Nat.reduceLT, Nat.reduceAdd, Nat.reduceMul, Nat.reduceEqDiff, reduceIte, Nat.reduceBEq, Nat.reduceLeDiff, Nat.reduceSub, Int.reduceToNat, c1]
    obtain ⟨v17, hv17, h⟩ := run_bind h
    refine CallH.mk [false, false] (szLinear_sat hv17) (by simp -dsimp -implicitDefEqProofs -failIfUnchanged only [↓RA, RB, RS, fx7, cast0, cast1, cast2, implies_true, Nat.reduceLT, Nat.reduceAdd, Nat.reduceMul, Nat.reduceEqDiff, reduceIte, Nat.reduceBEq, Nat.reduceLeDiff, Nat.reduceSub, Int.reduceToNat, c1]) ?_
    simp -dsimp -implicitDefEqProofs -failIfUnchanged only [↓RA, RB, RS, fx7, cast0, cast1, cast2, implies_true, Nat.reduceLT, Nat.reduceAdd, Nat.reduceMul, Nat.reduceEqDiff, reduceIte, Nat.reduceBEq, Nat.reduceLeDiff, Nat.reduceSub, Int.reduceToNat, c1]
    refine CondH.mk (fun c2 => ?_) (fun c2 => ?_)
    · replace h := run_t c2 h
      simp -dsimp -implicitDefEqProofs -failIfUnchanged only [↓RA, RB, RS, fx7, cast0, cast1, cast2, implies_true, Nat.reduceLT, Nat.reduceAdd, Nat.reduceMul, Nat.reduceEqDiff, reduceIte, Nat.reduceBEq, Nat.reduceLeDiff, Nat.reduceSub, Int.reduceToNat, c1, c2]
      have h := run_some h
      obtain rfl : _ = r := h
      refine FinH.l ?_
      simp -dsimp -implicitDefEqProofs -failIfUnchanged only [↓RA, RB, RS, fx7, cast0, cast1, cast2, implies_true, Nat.reduceLT, Nat.reduceAdd, Nat.reduceMul, Nat.reduceEqDiff, reduceIte, Nat.reduceBEq, Nat.reduceLeDiff, Nat.reduceSub, Int.reduceToNat]
    · replace h := run_f c2 h
      simp -dsimp -implicitDefEqProofs -failIfUnchanged only [↓RA, RB, RS, fx7, cast0, cast1, cast2, implies_true, Nat.reduceLT, Nat.reduceAdd, Nat.reduceMul, Nat.reduceEqDiff, reduceIte, Nat.reduceBEq, Nat.reduceLeDiff, Nat.reduceSub, Int.reduceToNat, c1, c2]
      obtain ⟨v22, hv22, h⟩ := run_bind h
      refine CallH.mk [false] (toLinear_sat hv22) (by simp -dsimp -implicitDefEqProofs -failIfUnchanged only [↓RA, RB, RS, fx7, cast0, cast1, cast2, implies_true, Nat.reduceLT, Nat.reduceAdd, Nat.reduceMul, Nat.reduceEqDiff, reduceIte, Nat.reduceBEq, Nat.reduceLeDiff, Nat.reduceSub, Int.reduceToNat, c1, c2]) ?_
      simp -dsimp -implicitDefEqProofs -failIfUnchanged only [↓RA, RB, RS, fx7, cast0, cast1, cast2, implies_true, Nat.reduceLT, Nat.reduceAdd, Nat.reduceMul, Nat.reduceEqDiff, reduceIte, Nat.reduceBEq, Nat.reduceLeDiff, Nat.reduceSub, Int.reduceToNat, c1, c2]
      repeat (first | with_reducible refine noR_and (by repeat (first | exact noR_empty _ _ | exact noR_nilS _ _ | refine noR_mk _ _ _ _ _ rfl ?_ | refine noR_mkS _ _ _ _ _ rfl ?_)) ?_ | with_reducible refine noC_and (by repeat (first | exact noC_empty _ _ (by simp -dsimp -implicitDefEqProofs -failIfUnchanged only [↓RA, RB, RS, fx7, cast0, cast1, cast2, implies_true, Nat.reduceLT, Nat.reduceAdd, Nat.reduceMul, Nat.reduceEqDiff, reduceIte, Nat.reduceBEq, Nat.reduceLeDiff, Nat.reduceSub, Int.reduceToNat]) | exact noC_nilS _ _ (by simp -dsimp -implicitDefEqProofs -failIfUnchanged only [↓RA, RB, RS, fx7, cast0, cast1, cast2, implies_true, Nat.reduceLT, Nat.reduceAdd, Nat.reduceMul, Nat.reduceEqDiff, reduceIte, Nat.reduceBEq, Nat.reduceLeDiff, Nat.reduceSub, Int.reduceToNat]) | refine noC_mk _ _ _ _ _ rfl ?_ | refine noC_mkS _ _ _ _ _ rfl ?_)) ?_ | with_reducible refine and_ac ?_ | with_reducible refine And.intro (a := _ = List.range _) (by rfl) ?_)
      obtain ⟨v24, hv24, h⟩ := run_bind h
      refine CallH.mk [false] (toIntS_sat hv24) (by simp -dsimp -implicitDefEqProofs -failIfUnchanged only [↓RA, RB, RS, fx7, cast0, cast1, cast2, implies_true, Nat.reduceLT, Nat.reduceAdd, Nat.reduceMul, Nat.reduceEqDiff, reduceIte, Nat.reduceBEq, Nat.reduceLeDiff, Nat.reduceSub, Int.reduceToNat, c1, c2]) ?_
      simp -dsimp -implicitDefEqProofs -failIfUnchanged only [↓RA, RB, RS, fx7, cast0, cast1, cast2, implies_true, Nat.reduceLT, Nat.reduceAdd, Nat.reduceMul, Nat.reduceEqDiff, reduceIte, Nat.reduceBEq, Nat.reduceLeDiff, Nat.reduceSub, Int.reduceToNat, c1, c2]
      repeat (first | with_reducible refine noR_and (by repeat (first | exact noR_empty _ _ | exact noR_nilS _ _ | refine noR_mk _ _ _ _ _ rfl ?_ | refine noR_mkS _ _ _ _ _ rfl ?_)) ?_ | with_reducible refine noC_and (by repeat (first | exact noC_empty _ _ (by simp -dsimp -implicitDefEqProofs -failIfUnchanged only [↓RA, RB, RS, fx7, cast0, cast1, cast2, implies_true, Nat.reduceLT, Nat.reduceAdd, Nat.reduceMul, Nat.reduceEqDiff, reduceIte, Nat.reduceBEq, Nat.reduceLeDiff, Nat.reduceSub, Int.reduceToNat]) | exact noC_nilS _ _ (by simp -dsimp -implicitDefEqProofs -failIfUnchanged only [↓RA, RB, RS, fx7, cast0, cast1, cast2, implies_true, Nat.reduceLT, Nat.reduceAdd, Nat.reduceMul, Nat.reduceEqDiff, reduceIte, Nat.reduceBEq, Nat.reduceLeDiff, Nat.reduceSub, Int.reduceToNat]) | refine noC_mk _ _ _ _ _ rfl ?_ | refine noC_mkS _ _ _ _ _ rfl ?_)) ?_ | with_reducible refine and_ac ?_ | with_reducible refine And.intro (a := _ = List.range _) (by rfl) ?_)
      obtain ⟨v25, hv25, h⟩ := run_bind h
      refine CallH.mk [false, false] (spec_EvaluateLinear_sat hv25) (by simp -dsimp -implicitDefEqProofs -failIfUnchanged only [↓RA, RB, RS, fx7, cast0, cast1, cast2, implies_true, Nat.reduceLT, Nat.reduceAdd, Nat.reduceMul, Nat.reduceEqDiff, reduceIte, Nat.reduceBEq, Nat.reduceLeDiff, Nat.reduceSub, Int.reduceToNat, c1, c2]) ?_
      simp -dsimp -implicitDefEqProofs -failIfUnchanged only [↓RA, RB, RS, fx7, cast0, cast1, cast2, implies_true, Nat.reduceLT, Nat.reduceAdd, Nat.reduceMul, Nat.reduceEqDiff, reduceIte, Nat.reduceBEq, Nat.reduceLeDiff, Nat.reduceSub, Int.reduceToNat, c1, c2]
      obtain ⟨v29, hv29, h⟩ := run_bind h
      refine CallH.mk [false] (toLinear_sat hv29) (by simp -dsimp -implicitDefEqProofs -failIfUnchanged only [↓RA, RB, RS, fx7, cast0, cast1, cast2, implies_true, Nat.reduceLT, Nat.reduceAdd, Nat.reduceMul, Nat.reduceEqDiff, reduceIte, Nat.reduceBEq, Nat.reduceLeDiff, Nat.reduceSub, Int.reduceToNat, c1, c2]) ?_
      simp -dsimp -implicitDefEqProofs -failIfUnchanged only [↓RA, RB, RS, fx7, cast0, cast1, cast2, implies_true, Nat.reduceLT, Nat.reduceAdd, Nat.reduceMul, Nat.reduceEqDiff, reduceIte, Nat.reduceBEq, Nat.reduceLeDiff, Nat.reduceSub, Int.reduceToNat, c1, c2]
      repeat (first | with_reducible refine noR_and (by repeat (first | exact noR_empty _ _ | exact noR_nilS _ _ | refine noR_mk _ _ _ _ _ rfl ?_ | refine noR_mkS _ _ _ _ _ rfl ?_)) ?_ | with_reducible refine noC_and (by repeat (first | exact noC_empty _ _ (by simp -dsimp -implicitDefEqProofs -failIfUnchanged only [↓RA, RB, RS, fx7, cast0, cast1, cast2, implies_true, Nat.reduceLT, Nat.reduceAdd, Nat.reduceMul, Nat.reduceEqDiff, reduceIte, Nat.reduceBEq, Nat.reduceLeDiff, Nat.reduceSub, Int.reduceToNat]) | exact noC_nilS _ _ (by simp -dsimp -implicitDefEqProofs -failIfUnchanged only [↓RA, RB, RS, fx7, cast0, cast1, cast2, implies_true, Nat.reduceLT, Nat.reduceAdd, Nat.reduceMul, Nat.reduceEqDiff, reduceIte, Nat.reduceBEq, Nat.reduceLeDiff, Nat.reduceSub, Int.reduceToNat]) | refine noC_mk _ _ _ _ _ rfl ?_ | refine noC_mkS _ _ _ _ _ rfl ?_)) ?_ | with_reducible refine and_ac ?_ | with_reducible refine And.intro (a := _ = List.range _) (by rfl) ?_)
      obtain ⟨v31, hv31, h⟩ := run_bind h
      refine CallH.mk [false] (toIntS_sat hv31) (by simp -dsimp -implicitDefEqProofs -failIfUnchanged only [↓RA, RB, RS, fx7, cast0, cast1, cast2, implies_true, Nat.reduceLT, Nat.reduceAdd, Nat.reduceMul, Nat.reduceEqDiff, reduceIte, Nat.reduceBEq, Nat.reduceLeDiff, Nat.reduceSub, Int.reduceToNat, c1, c2]) ?_
      simp -dsimp -implicitDefEqProofs -failIfUnchanged only [↓RA, RB, RS, fx7, cast0, cast1, cast2, implies_true, Nat.reduceLT, Nat.reduceAdd, Nat.reduceMul, Nat.reduceEqDiff, reduceIte, Nat.reduceBEq, Nat.reduceLeDiff, Nat.reduceSub, Int.reduceToNat, c1, c2]
      repeat (first | with_reducible refine noR_and (by repeat (first | exact noR_empty _ _ | exact noR_nilS _ _ | refine noR_mk _ _ _ _ _ rfl ?_ | refine noR_mkS _ _ _ _ _ rfl ?_)) ?_ | with_reducible refine noC_and (by repeat (first | exact noC_empty _ _ (by simp -dsimp -implicitDefEqProofs -failIfUnchanged only [↓RA, RB, RS, fx7, cast0, cast1, cast2, implies_true, Nat.reduceLT, Nat.reduceAdd, Nat.reduceMul, Nat.reduceEqDiff, reduceIte, Nat.reduceBEq, Nat.reduceLeDiff, Nat.reduceSub, Int.reduceToNat]) | exact noC_nilS _ _ (by simp -dsimp -implicitDefEqProofs -failIfUnchanged only [↓RA, RB, RS, fx7, cast0, cast1, cast2, implies_true, Nat.reduceLT, Nat.reduceAdd, Nat.reduceMul, Nat.reduceEqDiff, reduceIte, Nat.reduceBEq, Nat.reduceLeDiff, Nat.reduceSub, Int.reduceToNat]) | refine noC_mk _ _ _ _ _ rfl ?_ | refine noC_mkS _ _ _ _ _ rfl ?_)) ?_ | with_reducible refine and_ac ?_ | with_reducible refine And.intro (a := _ = List.range _) (by rfl) ?_)
      obtain ⟨v35, hv35, h⟩ := run_bind h
      refine CallH.mk [false, false] (impl_EvaluateLinear_sat hv35) (by simp -dsimp -implicitDefEqProofs -failIfUnchanged only [↓RA, RB, RS, fx7, cast0, cast1, cast2, implies_true, Nat.reduceLT, Nat.reduceAdd, Nat.reduceMul, Nat.reduceEqDiff, reduceIte, Nat.reduceBEq, Nat.reduceLeDiff, Nat.reduceSub, Int.reduceToNat, c1, c2]) ?_
      simp -dsimp -implicitDefEqProofs -failIfUnchanged only [↓RA, RB, RS, fx7, cast0, cast1, cast2, implies_true, Nat.reduceLT, Nat.reduceAdd, Nat.reduceMul, Nat.reduceEqDiff, reduceIte, Nat.reduceBEq, Nat.reduceLeDiff, Nat.reduceSub, Int.reduceToNat, c1, c2]
      refine CondH.mk (fun c3 => ?_) (fun c3 => ?_)
      · replace h := run_t c3 h
        simp -dsimp -implicitDefEqProofs -failIfUnchanged only [↓RA, RB, RS, fx7, cast0, cast1, cast2, implies_true, Nat.reduceLT, Nat.reduceAdd, Nat.reduceMul, Nat.reduceEqDiff, reduceIte, Nat.reduceBEq, Nat.reduceLeDiff, Nat.reduceSub, Int.reduceToNat, c1, c2, c3]
        refine CondH.mk (fun c4 => ?_) (fun c4 => ?_)
        · replace h := run_t c4 h
          simp -dsimp -implicitDefEqProofs -failIfUnchanged only [↓RA, RB, RS, fx7, cast0, cast1, cast2, implies_true, Nat.reduceLT, Nat.reduceAdd, Nat.reduceMul, Nat.reduceEqDiff, reduceIte, Nat.reduceBEq, Nat.reduceLeDiff, Nat.reduceSub, Int.reduceToNat, c1, c2, c3, c4]
          obtain ⟨v48, hv48, h⟩ := run_bind h
          refine CallH.mk [false] (toLinear_sat hv48) (by simp -dsimp -implicitDefEqProofs -failIfUnchanged only [↓RA, RB, RS, fx7, cast0, cast1, cast2, implies_true, Nat.reduceLT, Nat.reduceAdd, Nat.reduceMul, Nat.reduceEqDiff, reduceIte, Nat.reduceBEq, Nat.reduceLeDiff, Nat.reduceSub, Int.reduceToNat, c1, c2, c3, c4]) ?_
          simp -dsimp -implicitDefEqProofs -failIfUnchanged only [↓RA, RB, RS, fx7, cast0, cast1, cast2, implies_true, Nat.reduceLT, Nat.reduceAdd, Nat.reduceMul, Nat.reduceEqDiff, reduceIte, Nat.reduceBEq, Nat.reduceLeDiff, Nat.reduceSub, Int.reduceToNat, c1, c2, c3, c4]
          repeat (first | with_reducible refine noR_and (by repeat (first | exact noR_empty _ _ | exact noR_nilS _ _ | refine noR_mk _ _ _ _ _ rfl ?_ | refine noR_mkS _ _ _ _ _ rfl ?_)) ?_ | with_reducible refine noC_and (by repeat (first | exact noC_empty _ _ (by simp -dsimp -implicitDefEqProofs -failIfUnchanged only [↓RA, RB, RS, fx7, cast0, cast1, cast2, implies_true, Nat.reduceLT, Nat.reduceAdd, Nat.reduceMul, Nat.reduceEqDiff, reduceIte, Nat.reduceBEq, Nat.reduceLeDiff, Nat.reduceSub, Int.reduceToNat]) | exact noC_nilS _ _ (by simp -dsimp -implicitDefEqProofs -failIfUnchanged only [↓RA, RB, RS, fx7, cast0, cast1, cast2, implies_true, Nat.reduceLT, Nat.reduceAdd, Nat.reduceMul, Nat.reduceEqDiff, reduceIte, Nat.reduceBEq, Nat.reduceLeDiff, Nat.reduceSub, Int.reduceToNat]) | refine noC_mk _ _ _ _ _ rfl ?_ | refine noC_mkS _ _ _ _ _ rfl ?_)) ?_ | with_reducible refine and_ac ?_ | with_reducible refine And.intro (a := _ = List.range _) (by rfl) ?_)
          obtain ⟨v49, hv49, h⟩ := run_bind h
          refine CallH.mk [false, false] (eqLinear_sat hv49) (by simp -dsimp -implicitDefEqProofs -failIfUnchanged only [↓RA, RB, RS, fx7, cast0, cast1, cast2, implies_true, Nat.reduceLT, Nat.reduceAdd, Nat.reduceMul, Nat.reduceEqDiff, reduceIte, Nat.reduceBEq, Nat.reduceLeDiff, Nat.reduceSub, Int.reduceToNat, c1, c2, c3, c4]) ?_
          simp -dsimp -implicitDefEqProofs -failIfUnchanged only [↓RA, RB, RS, fx7, cast0, cast1, cast2, implies_true, Nat.reduceLT, Nat.reduceAdd, Nat.reduceMul, Nat.reduceEqDiff, reduceIte, Nat.reduceBEq, Nat.reduceLeDiff, Nat.reduceSub, Int.reduceToNat, c1, c2, c3, c4]
          refine And.intro (DrawH.mk [] [768, 769] (by rfl) (by first | rfl | (simp -dsimp -implicitDefEqProofs -failIfUnchanged only [↓RA, RB, RS, fx7, cast0, cast1, cast2, implies_true, Nat.reduceLT, Nat.reduceAdd, Nat.reduceMul, Nat.reduceEqDiff, reduceIte, Nat.reduceBEq, Nat.reduceLeDiff, Nat.reduceSub, Int.reduceToNat] <;> rfl)) (by first | rfl | (simp -dsimp -implicitDefEqProofs -failIfUnchanged only [↓RA, RB, RS, fx7, cast0, cast1, cast2, implies_true, Nat.reduceLT, Nat.reduceAdd, Nat.reduceMul, Nat.reduceEqDiff, reduceIte, Nat.reduceBEq, Nat.reduceLeDiff, Nat.reduceSub, Int.reduceToNat] <;> rfl)) (by first | rfl | (simp -dsimp -implicitDefEqProofs -failIfUnchanged only [↓RA, RB, RS, fx7, cast0, cast1, cast2, implies_true, Nat.reduceLT, Nat.reduceAdd, Nat.reduceMul, Nat.reduceEqDiff, reduceIte, Nat.reduceBEq, Nat.reduceLeDiff, Nat.reduceSub, Int.reduceToNat] <;> rfl)) (by simp) (by simp -dsimp -implicitDefEqProofs -failIfUnchanged only [↓RA, RB, RS, fx7, cast0, cast1, cast2, implies_true, Nat.reduceLT, Nat.reduceAdd, Nat.reduceMul, Nat.reduceEqDiff, reduceIte, Nat.reduceBEq, Nat.reduceLeDiff, Nat.reduceSub, Int.reduceToNat]; repeat (first | exact noC_empty _ _ (by simp -dsimp -implicitDefEqProofs -failIfUnchanged only [↓RA, RB, RS, fx7, cast0, cast1, cast2, implies_true, Nat.reduceLT, Nat.reduceAdd, Nat.reduceMul, Nat.reduceEqDiff, reduceIte, Nat.reduceBEq, Nat.reduceLeDiff, Nat.reduceSub, Int.reduceToNat]) | exact noC_nilS _ _ (by simp -dsimp -implicitDefEqProofs -failIfUnchanged only [↓RA, RB, RS, fx7, cast0, cast1, cast2, implies_true, Nat.reduceLT, Nat.reduceAdd, Nat.reduceMul, Nat.reduceEqDiff, reduceIte, Nat.reduceBEq, Nat.reduceLeDiff, Nat.reduceSub, Int.reduceToNat]) | refine noC_mk _ _ _ _ _ rfl ?_ | refine noC_mkS _ _ _ _ _ rfl ?_ | refine And.intro ?_ ?_))) ?_
          simp -dsimp -implicitDefEqProofs -failIfUnchanged only [↓RA, RB, RS, fx7, cast0, cast1, cast2, implies_true, Nat.reduceLT, Nat.reduceAdd, Nat.reduceMul, Nat.reduceEqDiff, reduceIte, Nat.reduceBEq, Nat.reduceLeDiff, Nat.reduceSub, Int.reduceToNat, c1, c2, c3, c4]
          refine CondH.mk (fun c5 => ?_) (fun c5 => ?_)
          · replace h := run_t c5 h
            simp -dsimp -implicitDefEqProofs -failIfUnchanged only [↓RA, RB, RS, fx7, cast0, cast1, cast2, implies_true, Nat.reduceLT, Nat.reduceAdd, Nat.reduceMul, Nat.reduceEqDiff, reduceIte, Nat.reduceBEq, Nat.reduceLeDiff, Nat.reduceSub, Int.reduceToNat, c1, c2, c3, c4, c5]
            obtain ⟨v53, hv53, h⟩ := run_bind h
            refine CallH.mk [false] (toIntS_sat hv53) (by simp -dsimp -implicitDefEqProofs -failIfUnchanged only [↓RA, RB, RS, fx7, cast0, cast1, cast2, implies_true, Nat.reduceLT, Nat.reduceAdd, Nat.reduceMul, Nat.reduceEqDiff, reduceIte, Nat.reduceBEq, Nat.reduceLeDiff, Nat.reduceSub, Int.reduceToNat, c1, c2, c3, c4, c5]) ?_
            simp -dsimp -implicitDefEqProofs -failIfUnchanged only [↓RA, RB, RS, fx7, cast0, cast1, cast2, implies_true, Nat.reduceLT, Nat.reduceAdd, Nat.reduceMul, Nat.reduceEqDiff, reduceIte, Nat.reduceBEq, Nat.reduceLeDiff, Nat.reduceSub, Int.reduceToNat, c1, c2, c3, c4, c5]
            repeat (first | with_reducible refine noR_and (by repeat (first | exact noR_empty _ _ | exact noR_nilS _ _ | refine noR_mk _ _ _ _ _ rfl ?_ | refine noR_mkS _ _ _ _ _ rfl ?_)) ?_ | with_reducible refine noC_and (by repeat (first | exact noC_empty _ _ (by simp -dsimp -implicitDefEqProofs -failIfUnchanged only [↓RA, RB, RS, fx7, cast0, cast1, cast2, implies_true, Nat.reduceLT, Nat.reduceAdd, Nat.reduceMul, Nat.reduceEqDiff, reduceIte, Nat.reduceBEq, Nat.reduceLeDiff, Nat.reduceSub, Int.reduceToNat]) | exact noC_nilS _ _ (by simp -dsimp -implicitDefEqProofs -failIfUnchanged only [↓RA, RB, RS, fx7, cast0, cast1, cast2, implies_true, Nat.reduceLT, Nat.reduceAdd, Nat.reduceMul, Nat.reduceEqDiff, reduceIte, Nat.reduceBEq, Nat.reduceLeDiff, Nat.reduceSub, Int.reduceToNat]) | refine noC_mk _ _ _ _ _ rfl ?_ | refine noC_mkS _ _ _ _ _ rfl ?_)) ?_ | with_reducible refine and_ac ?_ | with_reducible refine And.intro (a := _ = List.range _) (by rfl) ?_)
            obtain ⟨v54, hv54, h⟩ := run_bind h
            refine CallH.mk [false, false] (eqIntS_sat hv54) (by simp -dsimp -implicitDefEqProofs -failIfUnchanged only [↓RA, RB, RS, fx7, cast0, cast1, cast2, implies_true, Nat.reduceLT, Nat.reduceAdd, Nat.reduceMul, Nat.reduceEqDiff, reduceIte, Nat.reduceBEq, Nat.reduceLeDiff, Nat.reduceSub, Int.reduceToNat, c1, c2, c3, c4, c5]) ?_
            simp -dsimp -implicitDefEqProofs -failIfUnchanged only [↓RA, RB, RS, fx7, cast0, cast1, cast2, implies_true, Nat.reduceLT, Nat.reduceAdd, Nat.reduceMul, Nat.reduceEqDiff, reduceIte, Nat.reduceBEq, Nat.reduceLeDiff, Nat.reduceSub, Int.reduceToNat, c1, c2, c3, c4, c5]
            refine CondH.mk (fun c6 => ?_) (fun c6 => ?_)
            · replace h := run_t c6 h
              simp -dsimp -implicitDefEqProofs -failIfUnchanged only [↓RA, RB, RS, fx7, cast0, cast1, cast2, implies_true, Nat.reduceLT, Nat.reduceAdd, Nat.reduceMul, Nat.reduceEqDiff, reduceIte, Nat.reduceBEq, Nat.reduceLeDiff, Nat.reduceSub, Int.reduceToNat, c1, c2, c3, c4, c5, c6]
              have h := run_some h
              obtain rfl : _ = r := h
              refine FinH.l ?_
              simp -dsimp -implicitDefEqProofs -failIfUnchanged only [↓RA, RB, RS, fx7, cast0, cast1, cast2, implies_true, Nat.reduceLT, Nat.reduceAdd, Nat.reduceMul, Nat.reduceEqDiff, reduceIte, Nat.reduceBEq, Nat.reduceLeDiff, Nat.reduceSub, Int.reduceToNat]
            · replace h := run_f c6 h
              simp -dsimp -implicitDefEqProofs -failIfUnchanged only [↓RA, RB, RS, fx7, cast0, cast1, cast2, implies_true, Nat.reduceLT, Nat.reduceAdd, Nat.reduceMul, Nat.reduceEqDiff, reduceIte, Nat.reduceBEq, Nat.reduceLeDiff, Nat.reduceSub, Int.reduceToNat, c1, c2, c3, c4, c5, c6]
              have h := run_some h
              obtain rfl : _ = r := h
              refine FinH.l ?_
              simp -dsimp -implicitDefEqProofs -failIfUnchanged only [↓RA, RB, RS, fx7, cast0, cast1, cast2, implies_true, Nat.reduceLT, Nat.reduceAdd, Nat.reduceMul, Nat.reduceEqDiff, reduceIte, Nat.reduceBEq, Nat.reduceLeDiff, Nat.reduceSub, Int.reduceToNat]
          · replace h := run_f c5 h
            simp -dsimp -implicitDefEqProofs -failIfUnchanged only [↓RA, RB, RS, fx7, cast0, cast1, cast2, implies_true, Nat.reduceLT, Nat.reduceAdd, Nat.reduceMul, Nat.reduceEqDiff, reduceIte, Nat.reduceBEq, Nat.reduceLeDiff, Nat.reduceSub, Int.reduceToNat, c1, c2, c3, c4, c5]
            have h := run_some h
            obtain rfl : _ = r := h
            refine FinH.l ?_
            simp -dsimp -implicitDefEqProofs -failIfUnchanged only [↓RA, RB, RS, fx7, cast0, cast1, cast2, implies_true, Nat.reduceLT, Nat.reduceAdd, Nat.reduceMul, Nat.reduceEqDiff, reduceIte, Nat.reduceBEq, Nat.reduceLeDiff, Nat.reduceSub, Int.reduceToNat]
        · replace h := run_f c4 h
          simp -dsimp -implicitDefEqProofs -failIfUnchanged only [↓RA, RB, RS, fx7, cast0, cast1, cast2, implies_true, Nat.reduceLT, Nat.reduceAdd, Nat.reduceMul, Nat.reduceEqDiff, reduceIte, Nat.reduceBEq, Nat.reduceLeDiff, Nat.reduceSub, Int.reduceToNat, c1, c2, c3, c4]
          have h := run_some h
          obtain rfl : _ = r := h
          refine FinH.l ?_
          simp -dsimp -implicitDefEqProofs -failIfUnchanged only [↓RA, RB, RS, fx7, cast0, cast1, cast2, implies_true, Nat.reduceLT, Nat.reduceAdd, Nat.reduceMul, Nat.reduceEqDiff, reduceIte, Nat.reduceBEq, Nat.reduceLeDiff, Nat.reduceSub, Int.reduceToNat]
      · replace h := run_f c3 h
        simp -dsimp -implicitDefEqProofs -failIfUnchanged only [↓RA, RB, RS, fx7, cast0, cast1, cast2, implies_true, Nat.reduceLT, Nat.reduceAdd, Nat.reduceMul, Nat.reduceEqDiff, reduceIte, Nat.reduceBEq, Nat.reduceLeDiff, Nat.reduceSub, Int.reduceToNat, c1, c2, c3]
        have h := run_some h
        obtain rfl : _ = r := h
        refine FinH.l ?_
        simp -dsimp -implicitDefEqProofs -failIfUnchanged only [↓RA, RB, RS, fx7, cast0, cast1, cast2, implies_true, Nat.reduceLT, Nat.reduceAdd, Nat.reduceMul, Nat.reduceEqDiff, reduceIte, Nat.reduceBEq, Nat.reduceLeDiff, Nat.reduceSub, Int.reduceToNat]

end Go.Proofs.Ytfggcaohidajkaa
