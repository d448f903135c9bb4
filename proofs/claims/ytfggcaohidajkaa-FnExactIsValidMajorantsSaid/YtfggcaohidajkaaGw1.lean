/- A part of the proof: lemmas only; nothing is claimed here beyond what each lemma says. -/
import Derived.Test.YtfggcaohidajkaaGw0
set_option linter.unusedSimpArgs false
set_option linter.unusedVariables false
set_option linter.defProp false
set_option maxRecDepth 4000
namespace Go.Proofs.Ytfggcaohidajkaa
open Go.Av
def fx41 := And.intro @ty_3 <| And.intro @zc_3 <| And.intro @z_3 <| And.intro @ty_4 <| And.intro @zc_4 <| And.intro @z_4 <| And.intro @u_4 <| And.intro @ty_66 <| And.intro @zc_66 <| And.intro @z_66 <| And.intro @es_66 <| And.intro @eb_66 <| And.intro @sl_66 <| And.intro @is_66 <| And.intro @el_66 <| And.intro @ze_66 <| And.intro @ez_66 <| And.intro @ty_114 <| And.intro @zc_114 <| And.intro @z_114 <| And.intro @fo_114_0 <| And.intro @fi_114_0 <| And.intro @ft_114_0 <| And.intro @fo_114_1 <| And.intro @fi_114_1 <| And.intro @ft_114_1 <| And.intro @fo_114_2 <| And.intro @fi_114_2 <| And.intro @ft_114_2 <| And.intro @lay_114 <| @mixedT
set_option maxHeartbeats 4000000 in
theorem eqMajorantS_sat {a0 : List Majorant} {a1 : List Majorant}  {r : Bool} (h : eqMajorantS a0 a1 = some r) : Sat Try.prog 41 [(.sl false 3 (a0.map (Majorant.pv false))), (.sl false 3 (a1.map (Majorant.pv false)))] (B r) := by
  replace h := Run.of h
  unfold eqMajorantS at h
  refine Sat.of_m (nt := 27) (rs := [.tmp 4]) (n := 100000) Try.func41 rfl rfl rfl rfl (by simp) ?_
  simp -dsimp -implicitDefEqProofs -failIfUnchanged only [↓RA, RB, RS, fx41, cast0, cast1, cast2, implies_true, Nat.reduceLT, Nat.reduceAdd, Nat.reduceMul, Nat.reduceEqDiff, reduceIte, Nat.reduceBEq, Nat.reduceLeDiff, Nat.reduceSub, Int.reduceToNat]
  refine CondH.mk (fun c1 => ?_) (fun c1 => ?_)
  · replace h := run_t c1 h
    simp -dsimp -implicitDefEqProofs -failIfUnchanged only [↓RA, RB, RS, fx41, cast0, cast1, cast2, implies_true, Nat.reduceLT, Nat.reduceAdd, Nat.reduceMul, Nat.reduceEqDiff, reduceIte, Nat.reduceBEq, Nat.reduceLeDiff, Nat.reduceSub, Int.reduceToNat, c1]
    refine Mg.know_sl (b := false) (sz := 3) (es := a0.map (Majorant.pv false)) 0 (by simp -dsimp -implicitDefEqProofs -failIfUnchanged only [↓RA, RB, RS, fx41, cast0, cast1, cast2, implies_true, Nat.reduceLT, Nat.reduceAdd, Nat.reduceMul, Nat.reduceEqDiff, reduceIte, Nat.reduceBEq, Nat.reduceLeDiff, Nat.reduceSub, Int.reduceToNat, c1]) fun hl0 => ?_; rw [List.length_map] at hl0
    replace h := run_loop h
    refine Mg.forN h (fun i4 s4 => [(0, .val (.pv (.sl false 3 (a0.map (Majorant.pv false))))), (1, .val (.pv (.sl false 3 (a1.map (Majorant.pv false))))), (5, .val (.pv (I (i4 : Int))))]) (fun i4 s4 => []) (St.le_mk (by simp -dsimp -implicitDefEqProofs -failIfUnchanged only [↓RA, RB, RS, fx41, cast0, cast1, cast2, implies_true, Nat.reduceLT, Nat.reduceAdd, Nat.reduceMul, Nat.reduceEqDiff, reduceIte, Nat.reduceBEq, Nat.reduceLeDiff, Nat.reduceSub, Int.reduceToNat, c1]) (by simp -dsimp -implicitDefEqProofs -failIfUnchanged only [↓RA, RB, RS, fx41, cast0, cast1, cast2, implies_true, Nat.reduceLT, Nat.reduceAdd, Nat.reduceMul, Nat.reduceEqDiff, reduceIte, Nat.reduceBEq, Nat.reduceLeDiff, Nat.reduceSub, Int.reduceToNat, c1])) (fun i4 s4 hi h => ?_) (fun s4 h => ?_)
    · have w4 := wrap_succ (i := i4) (by omega)
      simp -dsimp -implicitDefEqProofs -failIfUnchanged only [↓RA, RB, RS, fx41, cast0, cast1, cast2, implies_true, Nat.reduceLT, Nat.reduceAdd, Nat.reduceMul, Nat.reduceEqDiff, reduceIte, Nat.reduceBEq, Nat.reduceLeDiff, Nat.reduceSub, Int.reduceToNat, c1]
      refine CondH.tt (decide_eq_true (by omega)) (fun c2 => ?_)
      simp -dsimp -implicitDefEqProofs -failIfUnchanged only [↓RA, RB, RS, fx41, cast0, cast1, cast2, implies_true, Nat.reduceLT, Nat.reduceAdd, Nat.reduceMul, Nat.reduceEqDiff, reduceIte, Nat.reduceBEq, Nat.reduceLeDiff, Nat.reduceSub, Int.reduceToNat, c1, c2]
      obtain ⟨v19, hv19, h⟩ := run_bind h
      refine IdxH.mk (f := (Majorant.pv false)) hv19 (by simp -dsimp -implicitDefEqProofs -failIfUnchanged only [↓RA, RB, RS, fx41, cast0, cast1, cast2, implies_true, Nat.reduceLT, Nat.reduceAdd, Nat.reduceMul, Nat.reduceEqDiff, reduceIte, Nat.reduceBEq, Nat.reduceLeDiff, Nat.reduceSub, Int.reduceToNat, c1, c2]) ?_
      simp -dsimp -implicitDefEqProofs -failIfUnchanged only [↓RA, RB, RS, fx41, cast0, cast1, cast2, implies_true, Nat.reduceLT, Nat.reduceAdd, Nat.reduceMul, Nat.reduceEqDiff, reduceIte, Nat.reduceBEq, Nat.reduceLeDiff, Nat.reduceSub, Int.reduceToNat, c1, c2]
      obtain ⟨v23, hv23, h⟩ := run_bind h
      refine IdxH.mk (f := (Majorant.pv false)) hv23 (by simp -dsimp -implicitDefEqProofs -failIfUnchanged only [↓RA, RB, RS, fx41, cast0, cast1, cast2, implies_true, Nat.reduceLT, Nat.reduceAdd, Nat.reduceMul, Nat.reduceEqDiff, reduceIte, Nat.reduceBEq, Nat.reduceLeDiff, Nat.reduceSub, Int.reduceToNat, c1, c2]) ?_
      simp -dsimp -implicitDefEqProofs -failIfUnchanged only [↓RA, RB, RS, fx41, cast0, cast1, cast2, implies_true, Nat.reduceLT, Nat.reduceAdd, Nat.reduceMul, Nat.reduceEqDiff, reduceIte, Nat.reduceBEq, Nat.reduceLeDiff, Nat.reduceSub, Int.reduceToNat, c1, c2]
      obtain ⟨v25, hv25, h⟩ := run_bind h
      refine CallH.mk [false, false] (eqMajorant_sat hv25) (by simp -dsimp -implicitDefEqProofs -failIfUnchanged only [↓RA, RB, RS, fx41, cast0, cast1, cast2, implies_true, Nat.reduceLT, Nat.reduceAdd, Nat.reduceMul, Nat.reduceEqDiff, reduceIte, Nat.reduceBEq, Nat.reduceLeDiff, Nat.reduceSub, Int.reduceToNat, c1, c2]) ?_
      simp -dsimp -implicitDefEqProofs -failIfUnchanged only [↓RA, RB, RS, fx41, cast0, cast1, cast2, implies_true, Nat.reduceLT, Nat.reduceAdd, Nat.reduceMul, Nat.reduceEqDiff, reduceIte, Nat.reduceBEq, Nat.reduceLeDiff, Nat.reduceSub, Int.reduceToNat, c1, c2]
      refine And.intro (DrawH.none (by rfl) (by first | rfl | (simp -dsimp -implicitDefEqProofs -failIfUnchanged only [↓RA, RB, RS, fx41, cast0, cast1, cast2, implies_true, Nat.reduceLT, Nat.reduceAdd, Nat.reduceMul, Nat.reduceEqDiff, reduceIte, Nat.reduceBEq, Nat.reduceLeDiff, Nat.reduceSub, Int.reduceToNat] <;> rfl)) (by first | rfl | (simp -dsimp -implicitDefEqProofs -failIfUnchanged only [↓RA, RB, RS, fx41, cast0, cast1, cast2, implies_true, Nat.reduceLT, Nat.reduceAdd, Nat.reduceMul, Nat.reduceEqDiff, reduceIte, Nat.reduceBEq, Nat.reduceLeDiff, Nat.reduceSub, Int.reduceToNat] <;> rfl)) (by first | rfl | (simp -dsimp -implicitDefEqProofs -failIfUnchanged only [↓RA, RB, RS, fx41, cast0, cast1, cast2, implies_true, Nat.reduceLT, Nat.reduceAdd, Nat.reduceMul, Nat.reduceEqDiff, reduceIte, Nat.reduceBEq, Nat.reduceLeDiff, Nat.reduceSub, Int.reduceToNat] <;> rfl))) ?_
      simp -dsimp -implicitDefEqProofs -failIfUnchanged only [↓RA, RB, RS, fx41, cast0, cast1, cast2, implies_true, Nat.reduceLT, Nat.reduceAdd, Nat.reduceMul, Nat.reduceEqDiff, reduceIte, Nat.reduceBEq, Nat.reduceLeDiff, Nat.reduceSub, Int.reduceToNat, c1, c2]
      refine CondH.mk (fun c3 => ?_) (fun c3 => ?_)
      · replace h := run_t c3 h
        simp -dsimp -implicitDefEqProofs -failIfUnchanged only [↓RA, RB, RS, fx41, cast0, cast1, cast2, implies_true, Nat.reduceLT, Nat.reduceAdd, Nat.reduceMul, Nat.reduceEqDiff, reduceIte, Nat.reduceBEq, Nat.reduceLeDiff, Nat.reduceSub, Int.reduceToNat, c1, c2, c3]
        have h := run_some h
        refine RdH.mk ⟨_, h, ?_⟩
        refine St.le_mk ?_ ?_
        · simp -dsimp -implicitDefEqProofs -failIfUnchanged only [↓RA, RB, RS, fx41, cast0, cast1, cast2, implies_true, Nat.reduceLT, Nat.reduceAdd, Nat.reduceMul, Nat.reduceEqDiff, reduceIte, Nat.reduceBEq, Nat.reduceLeDiff, Nat.reduceSub, Int.reduceToNat, c1, c2, c3, w4]
        · simp -dsimp -implicitDefEqProofs -failIfUnchanged only [↓RA, RB, RS, fx41, cast0, cast1, cast2, implies_true, Nat.reduceLT, Nat.reduceAdd, Nat.reduceMul, Nat.reduceEqDiff, reduceIte, Nat.reduceBEq, Nat.reduceLeDiff, Nat.reduceSub, Int.reduceToNat, c1, c2, c3, w4]
      · replace h := run_f c3 h
        simp -dsimp -implicitDefEqProofs -failIfUnchanged only [↓RA, RB, RS, fx41, cast0, cast1, cast2, implies_true, Nat.reduceLT, Nat.reduceAdd, Nat.reduceMul, Nat.reduceEqDiff, reduceIte, Nat.reduceBEq, Nat.reduceLeDiff, Nat.reduceSub, Int.reduceToNat, c1, c2, c3]
        have h := run_some h
        obtain rfl : _ = r := h
        refine FinH.l ?_
        simp -dsimp -implicitDefEqProofs -failIfUnchanged only [↓RA, RB, RS, fx41, cast0, cast1, cast2, implies_true, Nat.reduceLT, Nat.reduceAdd, Nat.reduceMul, Nat.reduceEqDiff, reduceIte, Nat.reduceBEq, Nat.reduceLeDiff, Nat.reduceSub, Int.reduceToNat]
    · simp -dsimp -implicitDefEqProofs -failIfUnchanged only [↓RA, RB, RS, fx41, cast0, cast1, cast2, implies_true, Nat.reduceLT, Nat.reduceAdd, Nat.reduceMul, Nat.reduceEqDiff, reduceIte, Nat.reduceBEq, Nat.reduceLeDiff, Nat.reduceSub, Int.reduceToNat, c1]
      refine CondH.ff (decide_eq_false (by omega)) (fun c4 => ?_)
      simp -dsimp -implicitDefEqProofs -failIfUnchanged only [↓RA, RB, RS, fx41, cast0, cast1, cast2, implies_true, Nat.reduceLT, Nat.reduceAdd, Nat.reduceMul, Nat.reduceEqDiff, reduceIte, Nat.reduceBEq, Nat.reduceLeDiff, Nat.reduceSub, Int.reduceToNat, c1, c4]
      have h := run_some h
      obtain rfl : _ = r := h
      refine FinH.l ?_
      simp -dsimp -implicitDefEqProofs -failIfUnchanged only [↓RA, RB, RS, fx41, cast0, cast1, cast2, implies_true, Nat.reduceLT, Nat.reduceAdd, Nat.reduceMul, Nat.reduceEqDiff, reduceIte, Nat.reduceBEq, Nat.reduceLeDiff, Nat.reduceSub, Int.reduceToNat]
  · replace h := run_f c1 h
    simp -dsimp -implicitDefEqProofs -failIfUnchanged only [↓RA, RB, RS, fx41, cast0, cast1, cast2, implies_true, Nat.reduceLT, Nat.reduceAdd, Nat.reduceMul, Nat.reduceEqDiff, reduceIte, Nat.reduceBEq, Nat.reduceLeDiff, Nat.reduceSub, Int.reduceToNat, c1]
    have h := run_some h
    obtain rfl : _ = r := h
    refine FinH.l ?_
    simp -dsimp -implicitDefEqProofs -failIfUnchanged only [↓RA, RB, RS, fx41, cast0, cast1, cast2, implies_true, Nat.reduceLT, Nat.reduceAdd, Nat.reduceMul, Nat.reduceEqDiff, reduceIte, Nat.reduceBEq, Nat.reduceLeDiff, Nat.reduceSub, Int.reduceToNat]

def fx8 := And.intro @ty_3 <| And.intro @zc_3 <| And.intro @z_3 <| And.intro @ty_4 <| And.intro @zc_4 <| And.intro @z_4 <| And.intro @u_4 <| And.intro @ty_63 <| And.intro @zc_63 <| And.intro @z_63 <| And.intro @es_63 <| And.intro @eb_63 <| And.intro @sl_63 <| And.intro @is_63 <| And.intro @el_63 <| And.intro @ze_63 <| And.intro @ez_63 <| And.intro @ty_66 <| And.intro @zc_66 <| And.intro @z_66 <| And.intro @es_66 <| And.intro @eb_66 <| And.intro @sl_66 <| And.intro @is_66 <| And.intro @el_66 <| And.intro @ze_66 <| @ez_66
set_option maxHeartbeats 4000000 in
theorem FnExactIsValidMajorants_sat {a0 : List Majorant}  {r : Bool} (h : FnExactIsValidMajorants a0 = some r) : Sat Try.prog 8 [(.sl false 3 (a0.map (Majorant.pv false)))] (B r) := by
  replace h := Run.of h
  unfold FnExactIsValidMajorants at h
  refine Sat.of_m (nt := 27) (rs := [.tmp 2]) (n := 100000) Try.func8 rfl rfl rfl rfl (by simp) ?_
  simp -dsimp -implicitDefEqProofs -failIfUnchanged only [↓RA, RB, RS, fx8, cast0, cast1, cast2, implies_true, Nat.reduceLT, Nat.reduceAdd, Nat.reduceMul, Nat.reduceEqDiff, reduceIte, Nat.reduceBEq, Nat.reduceLeDiff, Nat.reduceSub, Int.reduceToNat]
  obtain ⟨v9, hv9, h⟩ := run_bind h
  refine CallH.mk [false, false] (szMajorantS_sat hv9) (by simp -dsimp -implicitDefEqProofs -failIfUnchanged only [↓RA, RB, RS, fx8, cast0, cast1, cast2, implies_true, Nat.reduceLT, Nat.reduceAdd, Nat.reduceMul, Nat.reduceEqDiff, reduceIte, Nat.reduceBEq, Nat.reduceLeDiff, Nat.reduceSub, Int.reduceToNat]) ?_
  simp -dsimp -implicitDefEqProofs -failIfUnchanged only [↓RA, RB, RS, fx8, cast0, cast1, cast2, implies_true, Nat.reduceLT, Nat.reduceAdd, Nat.reduceMul, Nat.reduceEqDiff, reduceIte, Nat.reduceBEq, Nat.reduceLeDiff, Nat.reduceSub, Int.reduceToNat]
  refine CondH.mk (fun c1 => ?_) (fun c1 => ?_)
  · replace h := run_t c1 h
    simp -dsimp -implicitDefEqProofs -failIfUnchanged only [↓RA, RB, RS, fx8, cast0, cast1, cast2, implies_true, Nat.reduceLT, Nat.reduceAdd, Nat.reduceMul, Nat.reduceEqDiff, reduceIte, Nat.reduceBEq, Nat.reduceLeDiff, Nat.reduceSub, Int.reduceToNat, c1]
    have h := run_some h
    obtain rfl : _ = r := h
    refine FinH.l ?_
    simp -dsimp -implicitDefEqProofs -failIfUnchanged only [↓RA, RB, RS, fx8, cast0, cast1, cast2, implies_true, Nat.reduceLT, Nat.reduceAdd, Nat.reduceMul, Nat.reduceEqDiff, reduceIte, Nat.reduceBEq, Nat.reduceLeDiff, Nat.reduceSub, Int.reduceToNat]
  · replace h := run_f c1 h
    simp -dsimp -implicitDefEqProofs -failIfUnchanged only [↓RA, RB, RS, fx8, cast0, cast1, cast2, implies_true, Nat.reduceLT, Nat.reduceAdd, Nat.reduceMul, Nat.reduceEqDiff, reduceIte, Nat.reduceBEq, Nat.reduceLeDiff, Nat.reduceSub, Int.reduceToNat, c1]
    obtain ⟨v13, hv13, h⟩ := run_bind h
    refine CallH.mk [false] (toMajorantS_sat hv13) (by simp -dsimp -implicitDefEqProofs -failIfUnchanged only [↓RA, RB, RS, fx8, cast0, cast1, cast2, implies_true, Nat.reduceLT, Nat.reduceAdd, Nat.reduceMul, Nat.reduceEqDiff, reduceIte, Nat.reduceBEq, Nat.reduceLeDiff, Nat.reduceSub, Int.reduceToNat, c1]) ?_
    simp -dsimp -implicitDefEqProofs -failIfUnchanged only [↓RA, RB, RS, fx8, cast0, cast1, cast2, implies_true, Nat.reduceLT, Nat.reduceAdd, Nat.reduceMul, Nat.reduceEqDiff, reduceIte, Nat.reduceBEq, Nat.reduceLeDiff, Nat.reduceSub, Int.reduceToNat, c1]
    repeat (first | with_reducible refine noR_and (by repeat (first | exact noR_empty _ _ | exact noR_nilS _ _ | refine noR_mk _ _ _ _ _ rfl ?_ | refine noR_mkS _ _ _ _ _ rfl ?_)) ?_ | with_reducible refine noC_and (by repeat (first | exact noC_empty _ _ (by simp -dsimp -implicitDefEqProofs -failIfUnchanged only [↓RA, RB, RS, fx8, cast0, cast1, cast2, implies_true, Nat.reduceLT, Nat.reduceAdd, Nat.reduceMul, Nat.reduceEqDiff, reduceIte, Nat.reduceBEq, Nat.reduceLeDiff, Nat.reduceSub, Int.reduceToNat]) | exact noC_nilS _ _ (by simp -dsimp -implicitDefEqProofs -failIfUnchanged only [↓RA, RB, RS, fx8, cast0, cast1, cast2, implies_true, Nat.reduceLT, Nat.reduceAdd, Nat.reduceMul, Nat.reduceEqDiff, reduceIte, Nat.reduceBEq, Nat.reduceLeDiff, Nat.reduceSub, Int.reduceToNat]) | refine noC_mk _ _ _ _ _ rfl ?_ | refine noC_mkS _ _ _ _ _ rfl ?_)) ?_ | with_reducible refine and_ac ?_ | with_reducible refine And.intro (a := _ = List.range _) (by rfl) ?_)
    obtain ⟨v14, hv14, h⟩ := run_bind h
    refine CallH.mk [false] (spec_IsValidMajorants_sat hv14) (by simp -dsimp -implicitDefEqProofs -failIfUnchanged only [↓RA, RB, RS, fx8, cast0, cast1, cast2, implies_true, Nat.reduceLT, Nat.reduceAdd, Nat.reduceMul, Nat.reduceEqDiff, reduceIte, Nat.reduceBEq, Nat.reduceLeDiff, Nat.reduceSub, Int.reduceToNat, c1]) ?_
    simp -dsimp -implicitDefEqProofs -failIfUnchanged only [↓RA, RB, RS, fx8, cast0, cast1, cast2, implies_true, Nat.reduceLT, Nat.reduceAdd, Nat.reduceMul, Nat.reduceEqDiff, reduceIte, Nat.reduceBEq, Nat.reduceLeDiff, Nat.reduceSub, Int.reduceToNat, c1]
    obtain ⟨v16, hv16, h⟩ := run_bind h
    refine CallH.mk [false] (toMajorantS_sat hv16) (by simp -dsimp -implicitDefEqProofs -failIfUnchanged only [↓RA, RB, RS, fx8, cast0, cast1, cast2, implies_true, Nat.reduceLT, Nat.reduceAdd, Nat.reduceMul, Nat.reduceEqDiff, reduceIte, Nat.reduceBEq, Nat.reduceLeDiff, Nat.reduceSub, Int.reduceToNat, c1]) ?_
    simp -dsimp -implicitDefEqProofs -failIfUnchanged only [↓RA, RB, RS, fx8, cast0, cast1, cast2, implies_true, Nat.reduceLT, Nat.reduceAdd, Nat.reduceMul, Nat.reduceEqDiff, reduceIte, Nat.reduceBEq, Nat.reduceLeDiff, Nat.reduceSub, Int.reduceToNat, c1]
    repeat (first | with_reducible refine noR_and (by repeat (first | exact noR_empty _ _ | exact noR_nilS _ _ | refine noR_mk _ _ _ _ _ rfl ?_ | refine noR_mkS _ _ _ _ _ rfl ?_)) ?_ | with_reducible refine noC_and (by repeat (first | exact noC_empty _ _ (by simp -dsimp -implicitDefEqProofs -failIfUnchanged only [↓RA, RB, RS, fx8, cast0, cast1, cast2, implies_true, Nat.reduceLT, Nat.reduceAdd, Nat.reduceMul, Nat.reduceEqDiff, reduceIte, Nat.reduceBEq, Nat.reduceLeDiff, Nat.reduceSub, Int.reduceToNat]) | exact noC_nilS _ _ (by simp -dsimp -implicitDefEqProofs -failIfUnchanged only [↓RA, RB, RS, fx8, cast0, cast1, cast2, implies_true, Nat.reduceLT, Nat.reduceAdd, Nat.reduceMul, Nat.reduceEqDiff, reduceIte, Nat.reduceBEq, Nat.reduceLeDiff, Nat.reduceSub, Int.reduceToNat]) | refine noC_mk _ _ _ _ _ rfl ?_ | refine noC_mkS _ _ _ _ _ rfl ?_)) ?_ | with_reducible refine and_ac ?_ | with_reducible refine And.intro (a := _ = List.range _) (by rfl) ?_)
    obtain ⟨v18, hv18, h⟩ := run_bind h
    refine CallH.mk [false] (impl_IsValidMajorants_sat hv18) (by simp -dsimp -implicitDefEqProofs -failIfUnchanged only [↓RA, RB, RS, fx8, cast0, cast1, cast2, implies_true, Nat.reduceLT, Nat.reduceAdd, Nat.reduceMul, Nat.reduceEqDiff, reduceIte, Nat.reduceBEq, Nat.reduceLeDiff, Nat.reduceSub, Int.reduceToNat, c1]) ?_
    simp -dsimp -implicitDefEqProofs -failIfUnchanged only [↓RA, RB, RS, fx8, cast0, cast1, cast2, implies_true, Nat.reduceLT, Nat.reduceAdd, Nat.reduceMul, Nat.reduceEqDiff, reduceIte, Nat.reduceBEq, Nat.reduceLeDiff, Nat.reduceSub, Int.reduceToNat, c1]
    refine CondH.mk (fun c2 => ?_) (fun c2 => ?_)
    · replace h := run_t c2 h
      simp -dsimp -implicitDefEqProofs -failIfUnchanged only [↓RA, RB, RS, fx8, cast0, cast1, cast2, implies_true, Nat.reduceLT, Nat.reduceAdd, Nat.reduceMul, Nat.reduceEqDiff, reduceIte, Nat.reduceBEq, Nat.reduceLeDiff, Nat.reduceSub, Int.reduceToNat, c1, c2]
      obtain ⟨v24, hv24, h⟩ := run_bind h
      refine CallH.mk [false] (toMajorantS_sat hv24) (by simp -dsimp -implicitDefEqProofs -failIfUnchanged only [↓RA, RB, RS, fx8, cast0, cast1, cast2, implies_true, Nat.reduceLT, Nat.reduceAdd, Nat.reduceMul, Nat.reduceEqDiff, reduceIte, Nat.reduceBEq, Nat.reduceLeDiff, Nat.reduceSub, Int.reduceToNat, c1, c2]) ?_
      simp -dsimp -implicitDefEqProofs -failIfUnchanged only [↓RA, RB, RS, fx8, cast0, cast1, cast2, implies_true, Nat.reduceLT, Nat.reduceAdd, Nat.reduceMul, Nat.reduceEqDiff, reduceIte, Nat.reduceBEq, Nat.reduceLeDiff, Nat.reduceSub, Int.reduceToNat, c1, c2]
      repeat (first | with_reducible refine noR_and (by repeat (first | exact noR_empty _ _ | exact noR_nilS _ _ | refine noR_mk _ _ _ _ _ rfl ?_ | refine noR_mkS _ _ _ _ _ rfl ?_)) ?_ | with_reducible refine noC_and (by repeat (first | exact noC_empty _ _ (by simp -dsimp -implicitDefEqProofs -failIfUnchanged only [↓RA, RB, RS, fx8, cast0, cast1, cast2, implies_true, Nat.reduceLT, Nat.reduceAdd, Nat.reduceMul, Nat.reduceEqDiff, reduceIte, Nat.reduceBEq, Nat.reduceLeDiff, Nat.reduceSub, Int.reduceToNat]) | exact noC_nilS _ _ (by simp -dsimp -implicitDefEqProofs -failIfUnchanged only [↓RA, RB, RS, fx8, cast0, cast1, cast2, implies_true, Nat.reduceLT, Nat.reduceAdd, Nat.reduceMul, Nat.reduceEqDiff, reduceIte, Nat.reduceBEq, Nat.reduceLeDiff, Nat.reduceSub, Int.reduceToNat]) | refine noC_mk _ _ _ _ _ rfl ?_ | refine noC_mkS _ _ _ _ _ rfl ?_)) ?_ | with_reducible refine and_ac ?_ | with_reducible refine And.intro (a := _ = List.range _) (by rfl) ?_)
      obtain ⟨v25, hv25, h⟩ := run_bind h
      refine CallH.mk [false, false] (eqMajorantS_sat hv25) (by simp -dsimp -implicitDefEqProofs -failIfUnchanged only [↓RA, RB, RS, fx8, cast0, cast1, cast2, implies_true, Nat.reduceLT, Nat.reduceAdd, Nat.reduceMul, Nat.reduceEqDiff, reduceIte, Nat.reduceBEq, Nat.reduceLeDiff, Nat.reduceSub, Int.reduceToNat, c1, c2]) ?_
      simp -dsimp -implicitDefEqProofs -failIfUnchanged only [↓RA, RB, RS, fx8, cast0, cast1, cast2, implies_true, Nat.reduceLT, Nat.reduceAdd, Nat.reduceMul, Nat.reduceEqDiff, reduceIte, Nat.reduceBEq, Nat.reduceLeDiff, Nat.reduceSub, Int.reduceToNat, c1, c2]
      refine CondH.mk (fun c3 => ?_) (fun c3 => ?_)
      · replace h := run_t c3 h
        simp -dsimp -implicitDefEqProofs -failIfUnchanged only [↓RA, RB, RS, fx8, cast0, cast1, cast2, implies_true, Nat.reduceLT, Nat.reduceAdd, Nat.reduceMul, Nat.reduceEqDiff, reduceIte, Nat.reduceBEq, Nat.reduceLeDiff, Nat.reduceSub, Int.reduceToNat, c1, c2, c3]
        have h := run_some h
        obtain rfl : _ = r := h
        refine FinH.l ?_
        simp -dsimp -implicitDefEqProofs -failIfUnchanged only [↓RA, RB, RS, fx8, cast0, cast1, cast2, implies_true, Nat.reduceLT, Nat.reduceAdd, Nat.reduceMul, Nat.reduceEqDiff, reduceIte, Nat.reduceBEq, Nat.reduceLeDiff, Nat.reduceSub, Int.reduceToNat]
      · replace h := run_f c3 h
        simp -dsimp -implicitDefEqProofs -failIfUnchanged only [↓RA, RB, RS, fx8, cast0, cast1, cast2, implies_true, Nat.reduceLT, Nat.reduceAdd, Nat.reduceMul, Nat.reduceEqDiff, reduceIte, Nat.reduceBEq, Nat.reduceLeDiff, Nat.reduceSub, Int.reduceToNat, c1, c2, c3]
        have h := run_some h
        obtain rfl : _ = r := h
        refine FinH.l ?_
        simp -dsimp -implicitDefEqProofs -failIfUnchanged only [↓RA, RB, RS, fx8, cast0, cast1, cast2, implies_true, Nat.reduceLT, Nat.reduceAdd, Nat.reduceMul, Nat.reduceEqDiff, reduceIte, Nat.reduceBEq, Nat.reduceLeDiff, Nat.reduceSub, Int.reduceToNat]
    · replace h := run_f c2 h
      simp -dsimp -implicitDefEqProofs -failIfUnchanged only [↓RA, RB, RS, fx8, cast0, cast1, cast2, implies_true, Nat.reduceLT, Nat.reduceAdd, Nat.reduceMul, Nat.reduceEqDiff, reduceIte, Nat.reduceBEq, Nat.reduceLeDiff, Nat.reduceSub, Int.reduceToNat, c1, c2]
      have h := run_some h
      obtain rfl : _ = r := h
      refine FinH.l ?_
      simp -dsimp -implicitDefEqProofs -failIfUnchanged only [↓RA, RB, RS, fx8, cast0, cast1, cast2, implies_true, Nat.reduceLT, Nat.reduceAdd, Nat.reduceMul, Nat.reduceEqDiff, reduceIte, Nat.reduceBEq, Nat.reduceLeDiff, Nat.reduceSub, Int.reduceToNat]

end Go.Proofs.Ytfggcaohidajkaa
