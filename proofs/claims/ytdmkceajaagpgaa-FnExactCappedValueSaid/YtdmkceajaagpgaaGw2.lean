/- A part of the proof: lemmas only; nothing is claimed here beyond what each lemma says. -/
import Derived.Test.YtdmkceajaagpgaaGw1
set_option linter.unusedSimpArgs false
set_option linter.unusedVariables false
set_option linter.defProp false
set_option maxRecDepth 4000
namespace Go.Proofs.Ytdmkceajaagpgaa
open Go.Av
def fx48 := And.intro @ty_3 <| And.intro @zc_3 <| And.intro @z_3 <| And.intro @ty_4 <| And.intro @zc_4 <| And.intro @z_4 <| And.intro @u_4 <| And.intro @ty_73 <| And.intro @zc_73 <| And.intro @z_73 <| And.intro @es_73 <| And.intro @eb_73 <| And.intro @sl_73 <| And.intro @is_73 <| And.intro @el_73 <| And.intro @ze_73 <| And.intro @ez_73 <| And.intro @ty_163 <| And.intro @zc_163 <| And.intro @z_163 <| And.intro @fo_163_0 <| And.intro @fi_163_0 <| And.intro @ft_163_0 <| And.intro @fo_163_1 <| And.intro @fi_163_1 <| And.intro @ft_163_1 <| And.intro @fo_163_2 <| And.intro @fi_163_2 <| And.intro @ft_163_2 <| And.intro @lay_163 <| @mixedT
set_option maxHeartbeats 4000000 in
theorem eqMajorantS_sat {a0 : List Majorant} {a1 : List Majorant}  {r : Bool} (h : eqMajorantS a0 a1 = some r) : Sat Try.prog 48 [(.sl false 3 (a0.map (Majorant.pv false))), (.sl false 3 (a1.map (Majorant.pv false)))] (B r) := by
  replace h := Run.of h
  unfold eqMajorantS at h
  refine Sat.of_m (nt := 27) (rs := [.tmp 4]) (n := 100000) Try.func48 rfl rfl rfl rfl (by simp) ?_
  simp -dsimp -implicitDefEqProofs -failIfUnchanged only [↓RA, RB, RS, fx48, Nat.reduceLT, Nat.reduceAdd, Nat.reduceMul, Nat.reduceEqDiff, reduceIte, Nat.reduceBEq, Nat.reduceLeDiff, Nat.reduceSub, Int.reduceToNat]
  refine CondH.mk (fun c1 => ?_) (fun c1 => ?_)
  · replace h := run_t c1 h
    simp -dsimp -implicitDefEqProofs -failIfUnchanged only [↓RA, RB, RS, fx48, Nat.reduceLT, Nat.reduceAdd, Nat.reduceMul, Nat.reduceEqDiff, reduceIte, Nat.reduceBEq, Nat.reduceLeDiff, Nat.reduceSub, Int.reduceToNat, c1]
    refine Mg.know_sl (b := false) (sz := 3) (es := a0.map (Majorant.pv false)) 0 (by simp -dsimp -implicitDefEqProofs -failIfUnchanged only [↓RA, RB, RS, fx48, Nat.reduceLT, Nat.reduceAdd, Nat.reduceMul, Nat.reduceEqDiff, reduceIte, Nat.reduceBEq, Nat.reduceLeDiff, Nat.reduceSub, Int.reduceToNat, c1]) fun hl0 => ?_; rw [List.length_map] at hl0
    replace h := run_loop h
    refine Mg.forN h (fun i4 s4 => [(0, .val (.pv (.sl false 3 (a0.map (Majorant.pv false))))), (1, .val (.pv (.sl false 3 (a1.map (Majorant.pv false))))), (5, .val (.pv (I (i4 : Int))))]) (fun i4 s4 => []) (St.le_mk2 (by simp -dsimp -implicitDefEqProofs -failIfUnchanged only [↓RA, RB, RS, fx48, Nat.reduceLT, Nat.reduceAdd, Nat.reduceMul, Nat.reduceEqDiff, reduceIte, Nat.reduceBEq, Nat.reduceLeDiff, Nat.reduceSub, Int.reduceToNat, c1])) (fun i4 s4 hi h => ?_) (fun s4 h => ?_)
    · have w4 := wrap_succ (i := i4) (by omega)
      simp -dsimp -implicitDefEqProofs -failIfUnchanged only [↓RA, RB, RS, fx48, Nat.reduceLT, Nat.reduceAdd, Nat.reduceMul, Nat.reduceEqDiff, reduceIte, Nat.reduceBEq, Nat.reduceLeDiff, Nat.reduceSub, Int.reduceToNat, c1]
      refine CondH.tt (decide_eq_true (by omega)) (fun c2 => ?_)
      simp -dsimp -implicitDefEqProofs -failIfUnchanged only [↓RA, RB, RS, fx48, Nat.reduceLT, Nat.reduceAdd, Nat.reduceMul, Nat.reduceEqDiff, reduceIte, Nat.reduceBEq, Nat.reduceLeDiff, Nat.reduceSub, Int.reduceToNat, c1, c2]
      obtain ⟨v19, hv19, h⟩ := run_bind h
      refine IdxH.mk (f := (Majorant.pv false)) hv19 ?_ ?_ <;> simp -dsimp -implicitDefEqProofs -failIfUnchanged only [↓RA, RB, RS, fx48, Nat.reduceLT, Nat.reduceAdd, Nat.reduceMul, Nat.reduceEqDiff, reduceIte, Nat.reduceBEq, Nat.reduceLeDiff, Nat.reduceSub, Int.reduceToNat, c1, c2]
      obtain ⟨v23, hv23, h⟩ := run_bind h
      refine IdxH.mk (f := (Majorant.pv false)) hv23 ?_ ?_ <;> simp -dsimp -implicitDefEqProofs -failIfUnchanged only [↓RA, RB, RS, fx48, Nat.reduceLT, Nat.reduceAdd, Nat.reduceMul, Nat.reduceEqDiff, reduceIte, Nat.reduceBEq, Nat.reduceLeDiff, Nat.reduceSub, Int.reduceToNat, c1, c2]
      obtain ⟨v25, hv25, h⟩ := run_bind h
      refine CallH.mk [false, false] (eqMajorant_sat hv25) ?_ ?_ <;> simp -dsimp -implicitDefEqProofs -failIfUnchanged only [↓RA, RB, RS, fx48, Nat.reduceLT, Nat.reduceAdd, Nat.reduceMul, Nat.reduceEqDiff, reduceIte, Nat.reduceBEq, Nat.reduceLeDiff, Nat.reduceSub, Int.reduceToNat, c1, c2]
      refine And.intro (DrawH.none (by rfl) (by first | rfl | (simp -dsimp -implicitDefEqProofs -failIfUnchanged only [↓RA, RB, RS, fx48, Nat.reduceLT, Nat.reduceAdd, Nat.reduceMul, Nat.reduceEqDiff, reduceIte, Nat.reduceBEq, Nat.reduceLeDiff, Nat.reduceSub, Int.reduceToNat] <;> rfl)) (by first | rfl | (simp -dsimp -implicitDefEqProofs -failIfUnchanged only [↓RA, RB, RS, fx48, Nat.reduceLT, Nat.reduceAdd, Nat.reduceMul, Nat.reduceEqDiff, reduceIte, Nat.reduceBEq, Nat.reduceLeDiff, Nat.reduceSub, Int.reduceToNat] <;> rfl)) (by first | rfl | (simp -dsimp -implicitDefEqProofs -failIfUnchanged only [↓RA, RB, RS, fx48, Nat.reduceLT, Nat.reduceAdd, Nat.reduceMul, Nat.reduceEqDiff, reduceIte, Nat.reduceBEq, Nat.reduceLeDiff, Nat.reduceSub, Int.reduceToNat] <;> rfl))) ?_
      simp -dsimp -implicitDefEqProofs -failIfUnchanged only [↓RA, RB, RS, fx48, Nat.reduceLT, Nat.reduceAdd, Nat.reduceMul, Nat.reduceEqDiff, reduceIte, Nat.reduceBEq, Nat.reduceLeDiff, Nat.reduceSub, Int.reduceToNat, c1, c2]
      refine CondH.mk (fun c3 => ?_) (fun c3 => ?_)
      · replace h := run_t c3 h
        simp -dsimp -implicitDefEqProofs -failIfUnchanged only [↓RA, RB, RS, fx48, Nat.reduceLT, Nat.reduceAdd, Nat.reduceMul, Nat.reduceEqDiff, reduceIte, Nat.reduceBEq, Nat.reduceLeDiff, Nat.reduceSub, Int.reduceToNat, c1, c2, c3]
        have h := run_some h
        refine RdH.mk ⟨_, h, ?_⟩
        refine St.le_mk2 ?_
        simp -dsimp -implicitDefEqProofs -failIfUnchanged only [↓RA, RB, RS, fx48, Nat.reduceLT, Nat.reduceAdd, Nat.reduceMul, Nat.reduceEqDiff, reduceIte, Nat.reduceBEq, Nat.reduceLeDiff, Nat.reduceSub, Int.reduceToNat, c1, c2, c3, w4]
      · replace h := run_f c3 h
        simp -dsimp -implicitDefEqProofs -failIfUnchanged only [↓RA, RB, RS, fx48, Nat.reduceLT, Nat.reduceAdd, Nat.reduceMul, Nat.reduceEqDiff, reduceIte, Nat.reduceBEq, Nat.reduceLeDiff, Nat.reduceSub, Int.reduceToNat, c1, c2, c3]
        have h := run_some h
        obtain rfl : _ = r := h
        refine FinH.l ?_
        simp -dsimp -implicitDefEqProofs -failIfUnchanged only [↓RA, RB, RS, fx48, Nat.reduceLT, Nat.reduceAdd, Nat.reduceMul, Nat.reduceEqDiff, reduceIte, Nat.reduceBEq, Nat.reduceLeDiff, Nat.reduceSub, Int.reduceToNat]
    · simp -dsimp -implicitDefEqProofs -failIfUnchanged only [↓RA, RB, RS, fx48, Nat.reduceLT, Nat.reduceAdd, Nat.reduceMul, Nat.reduceEqDiff, reduceIte, Nat.reduceBEq, Nat.reduceLeDiff, Nat.reduceSub, Int.reduceToNat, c1]
      refine CondH.ff (decide_eq_false (by omega)) (fun c4 => ?_)
      simp -dsimp -implicitDefEqProofs -failIfUnchanged only [↓RA, RB, RS, fx48, Nat.reduceLT, Nat.reduceAdd, Nat.reduceMul, Nat.reduceEqDiff, reduceIte, Nat.reduceBEq, Nat.reduceLeDiff, Nat.reduceSub, Int.reduceToNat, c1, c4]
      have h := run_some h
      obtain rfl : _ = r := h
      refine FinH.l ?_
      simp -dsimp -implicitDefEqProofs -failIfUnchanged only [↓RA, RB, RS, fx48, Nat.reduceLT, Nat.reduceAdd, Nat.reduceMul, Nat.reduceEqDiff, reduceIte, Nat.reduceBEq, Nat.reduceLeDiff, Nat.reduceSub, Int.reduceToNat]
  · replace h := run_f c1 h
    simp -dsimp -implicitDefEqProofs -failIfUnchanged only [↓RA, RB, RS, fx48, Nat.reduceLT, Nat.reduceAdd, Nat.reduceMul, Nat.reduceEqDiff, reduceIte, Nat.reduceBEq, Nat.reduceLeDiff, Nat.reduceSub, Int.reduceToNat, c1]
    have h := run_some h
    obtain rfl : _ = r := h
    refine FinH.l ?_
    simp -dsimp -implicitDefEqProofs -failIfUnchanged only [↓RA, RB, RS, fx48, Nat.reduceLT, Nat.reduceAdd, Nat.reduceMul, Nat.reduceEqDiff, reduceIte, Nat.reduceBEq, Nat.reduceLeDiff, Nat.reduceSub, Int.reduceToNat]

def fx24 := And.intro @ty_4 <| And.intro @zc_4 <| And.intro @z_4 <| And.intro @u_4 <| And.intro @ty_9 <| And.intro @zc_9 <| And.intro @z_9 <| And.intro @u_9 <| And.intro @ty_27 <| And.intro @zc_27 <| And.intro @z_27 <| And.intro @es_27 <| And.intro @eb_27 <| And.intro @sl_27 <| And.intro @is_27 <| And.intro @el_27 <| And.intro @ze_27 <| And.intro @ez_27 <| And.intro @ty_35 <| And.intro @zc_35 <| And.intro @z_35 <| And.intro @fo_35_0 <| And.intro @fi_35_0 <| And.intro @ft_35_0 <| And.intro @fo_35_1 <| And.intro @fi_35_1 <| And.intro @ft_35_1 <| @lay_35
def fx25 := And.intro @ty_3 <| And.intro @zc_3 <| And.intro @z_3 <| And.intro @ty_4 <| And.intro @zc_4 <| And.intro @z_4 <| And.intro @u_4 <| And.intro @ty_27 <| And.intro @zc_27 <| And.intro @z_27 <| And.intro @es_27 <| And.intro @eb_27 <| And.intro @sl_27 <| And.intro @is_27 <| And.intro @el_27 <| And.intro @ze_27 <| And.intro @ez_27 <| And.intro @ty_35 <| And.intro @zc_35 <| And.intro @z_35 <| And.intro @fo_35_0 <| And.intro @fi_35_0 <| And.intro @ft_35_0 <| And.intro @fo_35_1 <| And.intro @fi_35_1 <| And.intro @ft_35_1 <| And.intro @lay_35 <| @mixedT
set_option maxHeartbeats 4000000 in
theorem eqTermN_sat (n : Nat) : (∀ (a0 : Term) (a1 : Term) (r : Bool), eqTermN n a0 a1 = some r → Sat Try.prog 24 [((Term.pv false) a0), ((Term.pv false) a1)] (B r)) ∧ (∀ (a0 : List Term) (a1 : List Term) (r : Bool), eqTermSN n a0 a1 = some r → Sat Try.prog 25 [(.sl false 2 (a0.map (Term.pv false))), (.sl false 2 (a1.map (Term.pv false)))] (B r)) := by
  induction n with
  | zero => exact ⟨fun _ _ _ h => by simp [eqTermN] at h, fun _ _ _ h => by simp [eqTermSN] at h⟩
  | succ n ih =>
    refine ⟨fun a0 a1 r h => ?_, fun a0 a1 r h => ?_⟩
    · replace h := Run.of h
      rw [eqTermN] at h
      refine Sat.of_m (nt := 16) (rs := [.tmp 4]) (n := 100000) Try.func24 rfl rfl rfl rfl (by simp) ?_
      simp -dsimp -implicitDefEqProofs -failIfUnchanged only [↓RA, RB, RS, fx24, Nat.reduceLT, Nat.reduceAdd, Nat.reduceMul, Nat.reduceEqDiff, reduceIte, Nat.reduceBEq, Nat.reduceLeDiff, Nat.reduceSub, Int.reduceToNat]
      repeat (first | with_reducible refine noR_and (by repeat (first | exact noR_empty _ _ | exact noR_nilS _ _ | refine noR_mk _ _ _ _ _ rfl ?_ | refine noR_mkS _ _ _ _ _ rfl ?_)) ?_ | with_reducible refine noC_and (by repeat (first | exact noC_empty _ _ (by simp -dsimp -implicitDefEqProofs -failIfUnchanged only [↓RA, RB, RS, fx24, Nat.reduceLT, Nat.reduceAdd, Nat.reduceMul, Nat.reduceEqDiff, reduceIte, Nat.reduceBEq, Nat.reduceLeDiff, Nat.reduceSub, Int.reduceToNat]) | exact noC_nilS _ _ (by simp -dsimp -implicitDefEqProofs -failIfUnchanged only [↓RA, RB, RS, fx24, Nat.reduceLT, Nat.reduceAdd, Nat.reduceMul, Nat.reduceEqDiff, reduceIte, Nat.reduceBEq, Nat.reduceLeDiff, Nat.reduceSub, Int.reduceToNat]) | refine noC_mk _ _ _ _ _ rfl ?_ | refine noC_mkS _ _ _ _ _ rfl ?_)) ?_ | with_reducible refine and_ac ?_ | with_reducible refine And.intro (a := _ = List.range _) (by rfl) ?_)
      refine CondH.mk (fun c1 => ?_) (fun c1 => ?_)
      · replace h := run_t c1 h
        simp -dsimp -implicitDefEqProofs -failIfUnchanged only [↓RA, RB, RS, fx24, Nat.reduceLT, Nat.reduceAdd, Nat.reduceMul, Nat.reduceEqDiff, reduceIte, Nat.reduceBEq, Nat.reduceLeDiff, Nat.reduceSub, Int.reduceToNat, c1]
        obtain ⟨v14, hv14, h⟩ := run_bind h
        refine CallH.mk [false, false] (ih.2 _ _ _ hv14) ?_ ?_ <;> simp -dsimp -implicitDefEqProofs -failIfUnchanged only [↓RA, RB, RS, fx24, Nat.reduceLT, Nat.reduceAdd, Nat.reduceMul, Nat.reduceEqDiff, reduceIte, Nat.reduceBEq, Nat.reduceLeDiff, Nat.reduceSub, Int.reduceToNat, c1]
        refine CondH.mk (fun c2 => ?_) (fun c2 => ?_)
        · replace h := run_t c2 h
          simp -dsimp -implicitDefEqProofs -failIfUnchanged only [↓RA, RB, RS, fx24, Nat.reduceLT, Nat.reduceAdd, Nat.reduceMul, Nat.reduceEqDiff, reduceIte, Nat.reduceBEq, Nat.reduceLeDiff, Nat.reduceSub, Int.reduceToNat, c1, c2]
          have h := run_some h
          obtain rfl : _ = r := h
          refine FinH.l ?_
          simp -dsimp -implicitDefEqProofs -failIfUnchanged only [↓RA, RB, RS, fx24, Nat.reduceLT, Nat.reduceAdd, Nat.reduceMul, Nat.reduceEqDiff, reduceIte, Nat.reduceBEq, Nat.reduceLeDiff, Nat.reduceSub, Int.reduceToNat]
        · replace h := run_f c2 h
          simp -dsimp -implicitDefEqProofs -failIfUnchanged only [↓RA, RB, RS, fx24, Nat.reduceLT, Nat.reduceAdd, Nat.reduceMul, Nat.reduceEqDiff, reduceIte, Nat.reduceBEq, Nat.reduceLeDiff, Nat.reduceSub, Int.reduceToNat, c1, c2]
          have h := run_some h
          obtain rfl : _ = r := h
          refine FinH.l ?_
          simp -dsimp -implicitDefEqProofs -failIfUnchanged only [↓RA, RB, RS, fx24, Nat.reduceLT, Nat.reduceAdd, Nat.reduceMul, Nat.reduceEqDiff, reduceIte, Nat.reduceBEq, Nat.reduceLeDiff, Nat.reduceSub, Int.reduceToNat]
      · replace h := run_f c1 h
        simp -dsimp -implicitDefEqProofs -failIfUnchanged only [↓RA, RB, RS, fx24, Nat.reduceLT, Nat.reduceAdd, Nat.reduceMul, Nat.reduceEqDiff, reduceIte, Nat.reduceBEq, Nat.reduceLeDiff, Nat.reduceSub, Int.reduceToNat, c1]
        have h := run_some h
        obtain rfl : _ = r := h
        refine FinH.l ?_
        simp -dsimp -implicitDefEqProofs -failIfUnchanged only [↓RA, RB, RS, fx24, Nat.reduceLT, Nat.reduceAdd, Nat.reduceMul, Nat.reduceEqDiff, reduceIte, Nat.reduceBEq, Nat.reduceLeDiff, Nat.reduceSub, Int.reduceToNat]
    · replace h := Run.of h
      rw [eqTermSN] at h
      refine Sat.of_m (nt := 27) (rs := [.tmp 4]) (n := 100000) Try.func25 rfl rfl rfl rfl (by simp) ?_
      simp -dsimp -implicitDefEqProofs -failIfUnchanged only [↓RA, RB, RS, fx25, Nat.reduceLT, Nat.reduceAdd, Nat.reduceMul, Nat.reduceEqDiff, reduceIte, Nat.reduceBEq, Nat.reduceLeDiff, Nat.reduceSub, Int.reduceToNat]
      refine CondH.mk (fun c1 => ?_) (fun c1 => ?_)
      · replace h := run_t c1 h
        simp -dsimp -implicitDefEqProofs -failIfUnchanged only [↓RA, RB, RS, fx25, Nat.reduceLT, Nat.reduceAdd, Nat.reduceMul, Nat.reduceEqDiff, reduceIte, Nat.reduceBEq, Nat.reduceLeDiff, Nat.reduceSub, Int.reduceToNat, c1]
        refine Mg.know_sl (b := false) (sz := 2) (es := a0.map (Term.pv false)) 0 (by simp -dsimp -implicitDefEqProofs -failIfUnchanged only [↓RA, RB, RS, fx25, Nat.reduceLT, Nat.reduceAdd, Nat.reduceMul, Nat.reduceEqDiff, reduceIte, Nat.reduceBEq, Nat.reduceLeDiff, Nat.reduceSub, Int.reduceToNat, c1]) fun hl0 => ?_; rw [List.length_map] at hl0
        replace h := run_loop h
        refine Mg.forN h (fun i4 s4 => [(0, .val (.pv (.sl false 2 (a0.map (Term.pv false))))), (1, .val (.pv (.sl false 2 (a1.map (Term.pv false))))), (5, .val (.pv (I (i4 : Int))))]) (fun i4 s4 => []) (St.le_mk2 (by simp -dsimp -implicitDefEqProofs -failIfUnchanged only [↓RA, RB, RS, fx25, Nat.reduceLT, Nat.reduceAdd, Nat.reduceMul, Nat.reduceEqDiff, reduceIte, Nat.reduceBEq, Nat.reduceLeDiff, Nat.reduceSub, Int.reduceToNat, c1])) (fun i4 s4 hi h => ?_) (fun s4 h => ?_)
        · have w4 := wrap_succ (i := i4) (by omega)
          simp -dsimp -implicitDefEqProofs -failIfUnchanged only [↓RA, RB, RS, fx25, Nat.reduceLT, Nat.reduceAdd, Nat.reduceMul, Nat.reduceEqDiff, reduceIte, Nat.reduceBEq, Nat.reduceLeDiff, Nat.reduceSub, Int.reduceToNat, c1]
          refine CondH.tt (decide_eq_true (by omega)) (fun c2 => ?_)
          simp -dsimp -implicitDefEqProofs -failIfUnchanged only [↓RA, RB, RS, fx25, Nat.reduceLT, Nat.reduceAdd, Nat.reduceMul, Nat.reduceEqDiff, reduceIte, Nat.reduceBEq, Nat.reduceLeDiff, Nat.reduceSub, Int.reduceToNat, c1, c2]
          obtain ⟨v19, hv19, h⟩ := run_bind h
          refine IdxH.mk (f := (Term.pv false)) hv19 ?_ ?_ <;> simp -dsimp -implicitDefEqProofs -failIfUnchanged only [↓RA, RB, RS, fx25, Nat.reduceLT, Nat.reduceAdd, Nat.reduceMul, Nat.reduceEqDiff, reduceIte, Nat.reduceBEq, Nat.reduceLeDiff, Nat.reduceSub, Int.reduceToNat, c1, c2]
          obtain ⟨v23, hv23, h⟩ := run_bind h
          refine IdxH.mk (f := (Term.pv false)) hv23 ?_ ?_ <;> simp -dsimp -implicitDefEqProofs -failIfUnchanged only [↓RA, RB, RS, fx25, Nat.reduceLT, Nat.reduceAdd, Nat.reduceMul, Nat.reduceEqDiff, reduceIte, Nat.reduceBEq, Nat.reduceLeDiff, Nat.reduceSub, Int.reduceToNat, c1, c2]
          obtain ⟨v25, hv25, h⟩ := run_bind h
          refine CallH.mk [false, false] (ih.1 _ _ _ hv25) ?_ ?_ <;> simp -dsimp -implicitDefEqProofs -failIfUnchanged only [↓RA, RB, RS, fx25, Nat.reduceLT, Nat.reduceAdd, Nat.reduceMul, Nat.reduceEqDiff, reduceIte, Nat.reduceBEq, Nat.reduceLeDiff, Nat.reduceSub, Int.reduceToNat, c1, c2]
          refine And.intro (DrawH.none (by rfl) (by first | rfl | (simp -dsimp -implicitDefEqProofs -failIfUnchanged only [↓RA, RB, RS, fx25, Nat.reduceLT, Nat.reduceAdd, Nat.reduceMul, Nat.reduceEqDiff, reduceIte, Nat.reduceBEq, Nat.reduceLeDiff, Nat.reduceSub, Int.reduceToNat] <;> rfl)) (by first | rfl | (simp -dsimp -implicitDefEqProofs -failIfUnchanged only [↓RA, RB, RS, fx25, Nat.reduceLT, Nat.reduceAdd, Nat.reduceMul, Nat.reduceEqDiff, reduceIte, Nat.reduceBEq, Nat.reduceLeDiff, Nat.reduceSub, Int.reduceToNat] <;> rfl)) (by first | rfl | (simp -dsimp -implicitDefEqProofs -failIfUnchanged only [↓RA, RB, RS, fx25, Nat.reduceLT, Nat.reduceAdd, Nat.reduceMul, Nat.reduceEqDiff, reduceIte, Nat.reduceBEq, Nat.reduceLeDiff, Nat.reduceSub, Int.reduceToNat] <;> rfl))) ?_
          simp -dsimp -implicitDefEqProofs -failIfUnchanged only [↓RA, RB, RS, fx25, Nat.reduceLT, Nat.reduceAdd, Nat.reduceMul, Nat.reduceEqDiff, reduceIte, Nat.reduceBEq, Nat.reduceLeDiff, Nat.reduceSub, Int.reduceToNat, c1, c2]
          refine CondH.mk (fun c3 => ?_) (fun c3 => ?_)
          · replace h := run_t c3 h
            simp -dsimp -implicitDefEqProofs -failIfUnchanged only [↓RA, RB, RS, fx25, Nat.reduceLT, Nat.reduceAdd, Nat.reduceMul, Nat.reduceEqDiff, reduceIte, Nat.reduceBEq, Nat.reduceLeDiff, Nat.reduceSub, Int.reduceToNat, c1, c2, c3]
            have h := run_some h
            refine RdH.mk ⟨_, h, ?_⟩
            refine St.le_mk2 ?_
            simp -dsimp -implicitDefEqProofs -failIfUnchanged only [↓RA, RB, RS, fx25, Nat.reduceLT, Nat.reduceAdd, Nat.reduceMul, Nat.reduceEqDiff, reduceIte, Nat.reduceBEq, Nat.reduceLeDiff, Nat.reduceSub, Int.reduceToNat, c1, c2, c3, w4]
          · replace h := run_f c3 h
            simp -dsimp -implicitDefEqProofs -failIfUnchanged only [↓RA, RB, RS, fx25, Nat.reduceLT, Nat.reduceAdd, Nat.reduceMul, Nat.reduceEqDiff, reduceIte, Nat.reduceBEq, Nat.reduceLeDiff, Nat.reduceSub, Int.reduceToNat, c1, c2, c3]
            have h := run_some h
            obtain rfl : _ = r := h
            refine FinH.l ?_
            simp -dsimp -implicitDefEqProofs -failIfUnchanged only [↓RA, RB, RS, fx25, Nat.reduceLT, Nat.reduceAdd, Nat.reduceMul, Nat.reduceEqDiff, reduceIte, Nat.reduceBEq, Nat.reduceLeDiff, Nat.reduceSub, Int.reduceToNat]
        · simp -dsimp -implicitDefEqProofs -failIfUnchanged only [↓RA, RB, RS, fx25, Nat.reduceLT, Nat.reduceAdd, Nat.reduceMul, Nat.reduceEqDiff, reduceIte, Nat.reduceBEq, Nat.reduceLeDiff, Nat.reduceSub, Int.reduceToNat, c1]
          refine CondH.ff (decide_eq_false (by omega)) (fun c4 => ?_)
          simp -dsimp -implicitDefEqProofs -failIfUnchanged only [↓RA, RB, RS, fx25, Nat.reduceLT, Nat.reduceAdd, Nat.reduceMul, Nat.reduceEqDiff, reduceIte, Nat.reduceBEq, Nat.reduceLeDiff, Nat.reduceSub, Int.reduceToNat, c1, c4]
          have h := run_some h
          obtain rfl : _ = r := h
          refine FinH.l ?_
          simp -dsimp -implicitDefEqProofs -failIfUnchanged only [↓RA, RB, RS, fx25, Nat.reduceLT, Nat.reduceAdd, Nat.reduceMul, Nat.reduceEqDiff, reduceIte, Nat.reduceBEq, Nat.reduceLeDiff, Nat.reduceSub, Int.reduceToNat]
      · replace h := run_f c1 h
        simp -dsimp -implicitDefEqProofs -failIfUnchanged only [↓RA, RB, RS, fx25, Nat.reduceLT, Nat.reduceAdd, Nat.reduceMul, Nat.reduceEqDiff, reduceIte, Nat.reduceBEq, Nat.reduceLeDiff, Nat.reduceSub, Int.reduceToNat, c1]
        have h := run_some h
        obtain rfl : _ = r := h
        refine FinH.l ?_
        simp -dsimp -implicitDefEqProofs -failIfUnchanged only [↓RA, RB, RS, fx25, Nat.reduceLT, Nat.reduceAdd, Nat.reduceMul, Nat.reduceEqDiff, reduceIte, Nat.reduceBEq, Nat.reduceLeDiff, Nat.reduceSub, Int.reduceToNat]
theorem eqTerm_sat {a0 : Term} {a1 : Term} {r : Bool} (h : eqTerm a0 a1 = some r) : Sat Try.prog 24 [((Term.pv false) a0), ((Term.pv false) a1)] (B r) := by
  obtain ⟨n, hn⟩ := lim_some h
  exact (eqTermN_sat n).1 _ _ _ hn
theorem eqTermS_sat {a0 : List Term} {a1 : List Term} {r : Bool} (h : eqTermS a0 a1 = some r) : Sat Try.prog 25 [(.sl false 2 (a0.map (Term.pv false))), (.sl false 2 (a1.map (Term.pv false)))] (B r) := by
  obtain ⟨n, hn⟩ := lim_some h
  exact (eqTermN_sat n).2 _ _ _ hn

def fx128 := And.intro @ty_3 <| And.intro @zc_3 <| And.intro @z_3 <| And.intro @ty_9 <| And.intro @zc_9 <| And.intro @z_9 <| And.intro @u_9 <| And.intro @ty_65 <| And.intro @zc_65 <| And.intro @z_65 <| And.intro @es_65 <| And.intro @eb_65 <| And.intro @sl_65 <| And.intro @is_65 <| And.intro @el_65 <| And.intro @ze_65 <| And.intro @ez_65 <| @mixedT
set_option maxHeartbeats 4000000 in
theorem eqStringS_sat {a0 : List ByteArray} {a1 : List ByteArray}  {r : Bool} (h : eqStringS a0 a1 = some r) : Sat Try.prog 128 [(.sl false 1 (a0.map Sx)), (.sl false 1 (a1.map Sx))] (B r) := by
  replace h := Run.of h
  unfold eqStringS at h
  refine Sat.of_m (nt := 26) (rs := [.tmp 4]) (n := 100000) Try.func128 rfl rfl rfl rfl (by simp) ?_
  simp -dsimp -implicitDefEqProofs -failIfUnchanged only [↓RA, RB, RS, fx128, Nat.reduceLT, Nat.reduceAdd, Nat.reduceMul, Nat.reduceEqDiff, reduceIte, Nat.reduceBEq, Nat.reduceLeDiff, Nat.reduceSub, Int.reduceToNat]
  refine CondH.mk (fun c1 => ?_) (fun c1 => ?_)
  · replace h := run_t c1 h
    simp -dsimp -implicitDefEqProofs -failIfUnchanged only [↓RA, RB, RS, fx128, Nat.reduceLT, Nat.reduceAdd, Nat.reduceMul, Nat.reduceEqDiff, reduceIte, Nat.reduceBEq, Nat.reduceLeDiff, Nat.reduceSub, Int.reduceToNat, c1]
    refine Mg.know_sl (b := false) (sz := 1) (es := a0.map Sx) 0 (by simp -dsimp -implicitDefEqProofs -failIfUnchanged only [↓RA, RB, RS, fx128, Nat.reduceLT, Nat.reduceAdd, Nat.reduceMul, Nat.reduceEqDiff, reduceIte, Nat.reduceBEq, Nat.reduceLeDiff, Nat.reduceSub, Int.reduceToNat, c1]) fun hl0 => ?_; rw [List.length_map] at hl0
    replace h := run_loop h
    refine Mg.forN h (fun i4 s4 => [(0, .val (.pv (.sl false 1 (a0.map Sx)))), (1, .val (.pv (.sl false 1 (a1.map Sx)))), (5, .val (.pv (I (i4 : Int))))]) (fun i4 s4 => []) (St.le_mk2 (by simp -dsimp -implicitDefEqProofs -failIfUnchanged only [↓RA, RB, RS, fx128, Nat.reduceLT, Nat.reduceAdd, Nat.reduceMul, Nat.reduceEqDiff, reduceIte, Nat.reduceBEq, Nat.reduceLeDiff, Nat.reduceSub, Int.reduceToNat, c1])) (fun i4 s4 hi h => ?_) (fun s4 h => ?_)
    · have w4 := wrap_succ (i := i4) (by omega)
      simp -dsimp -implicitDefEqProofs -failIfUnchanged only [↓RA, RB, RS, fx128, Nat.reduceLT, Nat.reduceAdd, Nat.reduceMul, Nat.reduceEqDiff, reduceIte, Nat.reduceBEq, Nat.reduceLeDiff, Nat.reduceSub, Int.reduceToNat, c1]
      refine CondH.tt (decide_eq_true (by omega)) (fun c2 => ?_)
      simp -dsimp -implicitDefEqProofs -failIfUnchanged only [↓RA, RB, RS, fx128, Nat.reduceLT, Nat.reduceAdd, Nat.reduceMul, Nat.reduceEqDiff, reduceIte, Nat.reduceBEq, Nat.reduceLeDiff, Nat.reduceSub, Int.reduceToNat, c1, c2]
      obtain ⟨v19, hv19, h⟩ := run_bind h
      refine IdxH.mk (f := Sx) hv19 ?_ ?_ <;> simp -dsimp -implicitDefEqProofs -failIfUnchanged only [↓RA, RB, RS, fx128, Nat.reduceLT, Nat.reduceAdd, Nat.reduceMul, Nat.reduceEqDiff, reduceIte, Nat.reduceBEq, Nat.reduceLeDiff, Nat.reduceSub, Int.reduceToNat, c1, c2]
      obtain ⟨v23, hv23, h⟩ := run_bind h
      refine IdxH.mk (f := Sx) hv23 ?_ ?_ <;> simp -dsimp -implicitDefEqProofs -failIfUnchanged only [↓RA, RB, RS, fx128, Nat.reduceLT, Nat.reduceAdd, Nat.reduceMul, Nat.reduceEqDiff, reduceIte, Nat.reduceBEq, Nat.reduceLeDiff, Nat.reduceSub, Int.reduceToNat, c1, c2]
      refine And.intro (DrawH.none (by rfl) (by first | rfl | (simp -dsimp -implicitDefEqProofs -failIfUnchanged only [↓RA, RB, RS, fx128, Nat.reduceLT, Nat.reduceAdd, Nat.reduceMul, Nat.reduceEqDiff, reduceIte, Nat.reduceBEq, Nat.reduceLeDiff, Nat.reduceSub, Int.reduceToNat] <;> rfl)) (by first | rfl | (simp -dsimp -implicitDefEqProofs -failIfUnchanged only [↓RA, RB, RS, fx128, Nat.reduceLT, Nat.reduceAdd, Nat.reduceMul, Nat.reduceEqDiff, reduceIte, Nat.reduceBEq, Nat.reduceLeDiff, Nat.reduceSub, Int.reduceToNat] <;> rfl)) (by first | rfl | (simp -dsimp -implicitDefEqProofs -failIfUnchanged only [↓RA, RB, RS, fx128, Nat.reduceLT, Nat.reduceAdd, Nat.reduceMul, Nat.reduceEqDiff, reduceIte, Nat.reduceBEq, Nat.reduceLeDiff, Nat.reduceSub, Int.reduceToNat] <;> rfl))) ?_
      simp -dsimp -implicitDefEqProofs -failIfUnchanged only [↓RA, RB, RS, fx128, Nat.reduceLT, Nat.reduceAdd, Nat.reduceMul, Nat.reduceEqDiff, reduceIte, Nat.reduceBEq, Nat.reduceLeDiff, Nat.reduceSub, Int.reduceToNat, c1, c2]
      refine CondH.mk (fun c3 => ?_) (fun c3 => ?_)
      · replace h := run_t c3 h
        simp -dsimp -implicitDefEqProofs -failIfUnchanged only [↓RA, RB, RS, fx128, Nat.reduceLT, Nat.reduceAdd, Nat.reduceMul, Nat.reduceEqDiff, reduceIte, Nat.reduceBEq, Nat.reduceLeDiff, Nat.reduceSub, Int.reduceToNat, c1, c2, c3]
        have h := run_some h
        refine RdH.mk ⟨_, h, ?_⟩
        refine St.le_mk2 ?_
        simp -dsimp -implicitDefEqProofs -failIfUnchanged only [↓RA, RB, RS, fx128, Nat.reduceLT, Nat.reduceAdd, Nat.reduceMul, Nat.reduceEqDiff, reduceIte, Nat.reduceBEq, Nat.reduceLeDiff, Nat.reduceSub, Int.reduceToNat, c1, c2, c3, w4]
      · replace h := run_f c3 h
        simp -dsimp -implicitDefEqProofs -failIfUnchanged only [↓RA, RB, RS, fx128, Nat.reduceLT, Nat.reduceAdd, Nat.reduceMul, Nat.reduceEqDiff, reduceIte, Nat.reduceBEq, Nat.reduceLeDiff, Nat.reduceSub, Int.reduceToNat, c1, c2, c3]
        have h := run_some h
        obtain rfl : _ = r := h
        refine FinH.l ?_
        simp -dsimp -implicitDefEqProofs -failIfUnchanged only [↓RA, RB, RS, fx128, Nat.reduceLT, Nat.reduceAdd, Nat.reduceMul, Nat.reduceEqDiff, reduceIte, Nat.reduceBEq, Nat.reduceLeDiff, Nat.reduceSub, Int.reduceToNat]
    · simp -dsimp -implicitDefEqProofs -failIfUnchanged only [↓RA, RB, RS, fx128, Nat.reduceLT, Nat.reduceAdd, Nat.reduceMul, Nat.reduceEqDiff, reduceIte, Nat.reduceBEq, Nat.reduceLeDiff, Nat.reduceSub, Int.reduceToNat, c1]
      refine CondH.ff (decide_eq_false (by omega)) (fun c4 => ?_)
      simp -dsimp -implicitDefEqProofs -failIfUnchanged only [↓RA, RB, RS, fx128, Nat.reduceLT, Nat.reduceAdd, Nat.reduceMul, Nat.reduceEqDiff, reduceIte, Nat.reduceBEq, Nat.reduceLeDiff, Nat.reduceSub, Int.reduceToNat, c1, c4]
      have h := run_some h
      obtain rfl : _ = r := h
      refine FinH.l ?_
      simp -dsimp -implicitDefEqProofs -failIfUnchanged only [↓RA, RB, RS, fx128, Nat.reduceLT, Nat.reduceAdd, Nat.reduceMul, Nat.reduceEqDiff, reduceIte, Nat.reduceBEq, Nat.reduceLeDiff, Nat.reduceSub, Int.reduceToNat]
  · replace h := run_f c1 h
    simp -dsimp -implicitDefEqProofs -failIfUnchanged only [↓RA, RB, RS, fx128, Nat.reduceLT, Nat.reduceAdd, Nat.reduceMul, Nat.reduceEqDiff, reduceIte, Nat.reduceBEq, Nat.reduceLeDiff, Nat.reduceSub, Int.reduceToNat, c1]
    have h := run_some h
    obtain rfl : _ = r := h
    refine FinH.l ?_
    simp -dsimp -implicitDefEqProofs -failIfUnchanged only [↓RA, RB, RS, fx128, Nat.reduceLT, Nat.reduceAdd, Nat.reduceMul, Nat.reduceEqDiff, reduceIte, Nat.reduceBEq, Nat.reduceLeDiff, Nat.reduceSub, Int.reduceToNat]

def fx50 := And.intro @ty_3 <| And.intro @zc_3 <| And.intro @z_3 <| And.intro @ty_4 <| And.intro @zc_4 <| And.intro @z_4 <| And.intro @u_4 <| And.intro @ty_55 <| And.intro @zc_55 <| And.intro @z_55 <| And.intro @es_55 <| And.intro @eb_55 <| And.intro @sl_55 <| And.intro @is_55 <| And.intro @el_55 <| And.intro @ze_55 <| And.intro @ez_55 <| And.intro @ty_65 <| And.intro @zc_65 <| And.intro @z_65 <| And.intro @es_65 <| And.intro @eb_65 <| And.intro @sl_65 <| And.intro @is_65 <| And.intro @el_65 <| And.intro @ze_65 <| And.intro @ez_65 <| And.intro @ty_77 <| And.intro @zc_77 <| And.intro @z_77 <| And.intro @fo_77_0 <| And.intro @fi_77_0 <| And.intro @ft_77_0 <| And.intro @fo_77_1 <| And.intro @fi_77_1 <| And.intro @ft_77_1 <| And.intro @fo_77_2 <| And.intro @fi_77_2 <| And.intro @ft_77_2 <| @lay_77
set_option maxHeartbeats 4000000 in
theorem eqLinear_sat {a0 : Linear} {a1 : Linear}  {r : Bool} (h : eqLinear a0 a1 = some r) : Sat Try.prog 50 [((Linear.pv false) a0), ((Linear.pv false) a1)] (B r) := by
  replace h := Run.of h
  unfold eqLinear at h
  refine Sat.of_m (nt := 22) (rs := [.tmp 4]) (n := 100000) Try.func50 rfl rfl rfl rfl (by simp) ?_
  simp -dsimp -implicitDefEqProofs -failIfUnchanged only [↓RA, RB, RS, fx50, Nat.reduceLT, Nat.reduceAdd, Nat.reduceMul, Nat.reduceEqDiff, reduceIte, Nat.reduceBEq, Nat.reduceLeDiff, Nat.reduceSub, Int.reduceToNat]
  repeat (first | with_reducible refine noR_and (by repeat (first | exact noR_empty _ _ | exact noR_nilS _ _ | refine noR_mk _ _ _ _ _ rfl ?_ | refine noR_mkS _ _ _ _ _ rfl ?_)) ?_ | with_reducible refine noC_and (by repeat (first | exact noC_empty _ _ (by simp -dsimp -implicitDefEqProofs -failIfUnchanged only [↓RA, RB, RS, fx50, Nat.reduceLT, Nat.reduceAdd, Nat.reduceMul, Nat.reduceEqDiff, reduceIte, Nat.reduceBEq, Nat.reduceLeDiff, Nat.reduceSub, Int.reduceToNat]) | exact noC_nilS _ _ (by simp -dsimp -implicitDefEqProofs -failIfUnchanged only [↓RA, RB, RS, fx50, Nat.reduceLT, Nat.reduceAdd, Nat.reduceMul, Nat.reduceEqDiff, reduceIte, Nat.reduceBEq, Nat.reduceLeDiff, Nat.reduceSub, Int.reduceToNat]) | refine noC_mk _ _ _ _ _ rfl ?_ | refine noC_mkS _ _ _ _ _ rfl ?_)) ?_ | with_reducible refine and_ac ?_ | with_reducible refine And.intro (a := _ = List.range _) (by rfl) ?_)
  obtain ⟨v9, hv9, h⟩ := run_bind h
  refine CallH.mk [false, false] (eqStringS_sat hv9) ?_ ?_ <;> simp -dsimp -implicitDefEqProofs -failIfUnchanged only [↓RA, RB, RS, fx50, Nat.reduceLT, Nat.reduceAdd, Nat.reduceMul, Nat.reduceEqDiff, reduceIte, Nat.reduceBEq, Nat.reduceLeDiff, Nat.reduceSub, Int.reduceToNat]
  refine CondH.mk (fun c1 => ?_) (fun c1 => ?_)
  · replace h := run_t c1 h
    simp -dsimp -implicitDefEqProofs -failIfUnchanged only [↓RA, RB, RS, fx50, Nat.reduceLT, Nat.reduceAdd, Nat.reduceMul, Nat.reduceEqDiff, reduceIte, Nat.reduceBEq, Nat.reduceLeDiff, Nat.reduceSub, Int.reduceToNat, c1]
    obtain ⟨v15, hv15, h⟩ := run_bind h
    refine CallH.mk [false, false] (eqIntS_sat hv15) ?_ ?_ <;> simp -dsimp -implicitDefEqProofs -failIfUnchanged only [↓RA, RB, RS, fx50, Nat.reduceLT, Nat.reduceAdd, Nat.reduceMul, Nat.reduceEqDiff, reduceIte, Nat.reduceBEq, Nat.reduceLeDiff, Nat.reduceSub, Int.reduceToNat, c1]
    refine CondH.mk (fun c2 => ?_) (fun c2 => ?_)
    · replace h := run_t c2 h
      simp -dsimp -implicitDefEqProofs -failIfUnchanged only [↓RA, RB, RS, fx50, Nat.reduceLT, Nat.reduceAdd, Nat.reduceMul, Nat.reduceEqDiff, reduceIte, Nat.reduceBEq, Nat.reduceLeDiff, Nat.reduceSub, Int.reduceToNat, c1, c2]
      refine CondH.mk (fun c3 => ?_) (fun c3 => ?_)
      · replace h := run_t c3 h
        simp -dsimp -implicitDefEqProofs -failIfUnchanged only [↓RA, RB, RS, fx50, Nat.reduceLT, Nat.reduceAdd, Nat.reduceMul, Nat.reduceEqDiff, reduceIte, Nat.reduceBEq, Nat.reduceLeDiff, Nat.reduceSub, Int.reduceToNat, c1, c2, c3]
        have h := run_some h
        obtain rfl : _ = r := h
        refine FinH.l ?_
        simp -dsimp -implicitDefEqProofs -failIfUnchanged only [↓RA, RB, RS, fx50, Nat.reduceLT, Nat.reduceAdd, Nat.reduceMul, Nat.reduceEqDiff, reduceIte, Nat.reduceBEq, Nat.reduceLeDiff, Nat.reduceSub, Int.reduceToNat]
      · replace h := run_f c3 h
        simp -dsimp -implicitDefEqProofs -failIfUnchanged only [↓RA, RB, RS, fx50, Nat.reduceLT, Nat.reduceAdd, Nat.reduceMul, Nat.reduceEqDiff, reduceIte, Nat.reduceBEq, Nat.reduceLeDiff, Nat.reduceSub, Int.reduceToNat, c1, c2, c3]
        have h := run_some h
        obtain rfl : _ = r := h
        refine FinH.l ?_
        simp -dsimp -implicitDefEqProofs -failIfUnchanged only [↓RA, RB, RS, fx50, Nat.reduceLT, Nat.reduceAdd, Nat.reduceMul, Nat.reduceEqDiff, reduceIte, Nat.reduceBEq, Nat.reduceLeDiff, Nat.reduceSub, Int.reduceToNat]
    · replace h := run_f c2 h
      simp -dsimp -implicitDefEqProofs -failIfUnchanged only [↓RA, RB, RS, fx50, Nat.reduceLT, Nat.reduceAdd, Nat.reduceMul, Nat.reduceEqDiff, reduceIte, Nat.reduceBEq, Nat.reduceLeDiff, Nat.reduceSub, Int.reduceToNat, c1, c2]
      have h := run_some h
      obtain rfl : _ = r := h
      refine FinH.l ?_
      simp -dsimp -implicitDefEqProofs -failIfUnchanged only [↓RA, RB, RS, fx50, Nat.reduceLT, Nat.reduceAdd, Nat.reduceMul, Nat.reduceEqDiff, reduceIte, Nat.reduceBEq, Nat.reduceLeDiff, Nat.reduceSub, Int.reduceToNat]
  · replace h := run_f c1 h
    simp -dsimp -implicitDefEqProofs -failIfUnchanged only [↓RA, RB, RS, fx50, Nat.reduceLT, Nat.reduceAdd, Nat.reduceMul, Nat.reduceEqDiff, reduceIte, Nat.reduceBEq, Nat.reduceLeDiff, Nat.reduceSub, Int.reduceToNat, c1]
    have h := run_some h
    obtain rfl : _ = r := h
    refine FinH.l ?_
    simp -dsimp -implicitDefEqProofs -failIfUnchanged only [↓RA, RB, RS, fx50, Nat.reduceLT, Nat.reduceAdd, Nat.reduceMul, Nat.reduceEqDiff, reduceIte, Nat.reduceBEq, Nat.reduceLeDiff, Nat.reduceSub, Int.reduceToNat]

def fx6 := And.intro @ty_3 <| And.intro @zc_3 <| And.intro @z_3 <| And.intro @ty_4 <| And.intro @zc_4 <| And.intro @z_4 <| And.intro @u_4 <| And.intro @ty_35 <| And.intro @zc_35 <| And.intro @z_35 <| And.intro @fo_35_0 <| And.intro @fi_35_0 <| And.intro @ft_35_0 <| And.intro @fo_35_1 <| And.intro @fi_35_1 <| And.intro @ft_35_1 <| And.intro @lay_35 <| And.intro @ty_55 <| And.intro @zc_55 <| And.intro @z_55 <| And.intro @es_55 <| And.intro @eb_55 <| And.intro @sl_55 <| And.intro @is_55 <| And.intro @el_55 <| And.intro @ze_55 <| And.intro @ez_55 <| And.intro @ty_62 <| And.intro @zc_62 <| And.intro @z_62 <| And.intro @es_62 <| And.intro @eb_62 <| And.intro @sl_62 <| And.intro @is_62 <| And.intro @el_62 <| And.intro @ze_62 <| And.intro @ez_62 <| And.intro @ty_64 <| And.intro @zc_64 <| And.intro @z_64 <| And.intro @fo_64_0 <| And.intro @fi_64_0 <| And.intro @ft_64_0 <| And.intro @fo_64_1 <| And.intro @fi_64_1 <| And.intro @ft_64_1 <| And.intro @lay_64 <| And.intro @ty_67 <| And.intro @zc_67 <| And.intro @z_67 <| And.intro @fo_67_0 <| And.intro @fi_67_0 <| And.intro @ft_67_0 <| And.intro @fo_67_1 <| And.intro @fi_67_1 <| And.intro @ft_67_1 <| And.intro @fo_67_2 <| And.intro @fi_67_2 <| And.intro @ft_67_2 <| And.intro @lay_67 <| And.intro @ty_73 <| And.intro @zc_73 <| And.intro @z_73 <| And.intro @es_73 <| And.intro @eb_73 <| And.intro @sl_73 <| And.intro @is_73 <| And.intro @el_73 <| And.intro @ze_73 <| And.intro @ez_73 <| And.intro @ty_77 <| And.intro @zc_77 <| And.intro @z_77 <| And.intro @fo_77_0 <| And.intro @fi_77_0 <| And.intro @ft_77_0 <| And.intro @fo_77_1 <| And.intro @fi_77_1 <| And.intro @ft_77_1 <| And.intro @fo_77_2 <| And.intro @fi_77_2 <| And.intro @ft_77_2 <| And.intro @lay_77 <| @mixedT
set_option maxHeartbeats 4000000 in
theorem FnExactCappedValue_sat {a0 : List Majorant} {a1 : List Int} {a2 : Term} {a3 : Linear}  {r : Bool} (h : FnExactCappedValue a0 a1 a2 a3 = some r) : Sat Try.prog 6 [(.sl false 3 (a0.map (Majorant.pv false))), (.sl false 1 (a1.map I)), ((Term.pv false) a2), ((Linear.pv false) a3)] (B r) := by
  replace h := Run.of h
  unfold FnExactCappedValue at h
  refine Sat.of_m (nt := 92) (rs := [.tmp 8]) (n := 100000) Try.func6 rfl rfl rfl rfl (by simp) ?_
  simp -dsimp -implicitDefEqProofs -failIfUnchanged only [↓RA, RB, RS, fx6, Nat.reduceLT, Nat.reduceAdd, Nat.reduceMul, Nat.reduceEqDiff, reduceIte, Nat.reduceBEq, Nat.reduceLeDiff, Nat.reduceSub, Int.reduceToNat]
  repeat (first | with_reducible refine noR_and (by repeat (first | exact noR_empty _ _ | exact noR_nilS _ _ | refine noR_mk _ _ _ _ _ rfl ?_ | refine noR_mkS _ _ _ _ _ rfl ?_)) ?_ | with_reducible refine noC_and (by repeat (first | exact noC_empty _ _ (by simp -dsimp -implicitDefEqProofs -failIfUnchanged only [↓RA, RB, RS, fx6, Nat.reduceLT, Nat.reduceAdd, Nat.reduceMul, Nat.reduceEqDiff, reduceIte, Nat.reduceBEq, Nat.reduceLeDiff, Nat.reduceSub, Int.reduceToNat]) | exact noC_nilS _ _ (by simp -dsimp -implicitDefEqProofs -failIfUnchanged only [↓RA, RB, RS, fx6, Nat.reduceLT, Nat.reduceAdd, Nat.reduceMul, Nat.reduceEqDiff, reduceIte, Nat.reduceBEq, Nat.reduceLeDiff, Nat.reduceSub, Int.reduceToNat]) | refine noC_mk _ _ _ _ _ rfl ?_ | refine noC_mkS _ _ _ _ _ rfl ?_)) ?_ | with_reducible refine and_ac ?_ | with_reducible refine And.intro (a := _ = List.range _) (by rfl) ?_)
  refine CondH.mk (fun c1 => ?_) (fun c1 => ?_)
  · replace h := run_t c1 h
    simp -dsimp -implicitDefEqProofs -failIfUnchanged only [↓RA, RB, RS, fx6, Nat.reduceLT, Nat.reduceAdd, Nat.reduceMul, Nat.reduceEqDiff, reduceIte, Nat.reduceBEq, Nat.reduceLeDiff, Nat.reduceSub, Int.reduceToNat, c1]
    have h := run_some h
    obtain rfl : _ = r := h
    refine FinH.l ?_
    simp -dsimp -implicitDefEqProofs -failIfUnchanged only [↓RA, RB, RS, fx6, Nat.reduceLT, Nat.reduceAdd, Nat.reduceMul, Nat.reduceEqDiff, reduceIte, Nat.reduceBEq, Nat.reduceLeDiff, Nat.reduceSub, Int.reduceToNat]
  · replace h := run_f c1 h
    simp -dsimp -implicitDefEqProofs -failIfUnchanged only [↓RA, RB, RS, fx6, Nat.reduceLT, Nat.reduceAdd, Nat.reduceMul, Nat.reduceEqDiff, reduceIte, Nat.reduceBEq, Nat.reduceLeDiff, Nat.reduceSub, Int.reduceToNat, c1]
    obtain ⟨v23, hv23, h⟩ := run_bind h
    refine CallH.mk [false, false] (szMajorantS_sat hv23) ?_ ?_ <;> simp -dsimp -implicitDefEqProofs -failIfUnchanged only [↓RA, RB, RS, fx6, Nat.reduceLT, Nat.reduceAdd, Nat.reduceMul, Nat.reduceEqDiff, reduceIte, Nat.reduceBEq, Nat.reduceLeDiff, Nat.reduceSub, Int.reduceToNat, c1]
    refine CondH.mk (fun c2 => ?_) (fun c2 => ?_)
    · replace h := run_t c2 h
      simp -dsimp -implicitDefEqProofs -failIfUnchanged only [↓RA, RB, RS, fx6, Nat.reduceLT, Nat.reduceAdd, Nat.reduceMul, Nat.reduceEqDiff, reduceIte, Nat.reduceBEq, Nat.reduceLeDiff, Nat.reduceSub, Int.reduceToNat, c1, c2]
      have h := run_some h
      obtain rfl : _ = r := h
      refine FinH.l ?_
      simp -dsimp -implicitDefEqProofs -failIfUnchanged only [↓RA, RB, RS, fx6, Nat.reduceLT, Nat.reduceAdd, Nat.reduceMul, Nat.reduceEqDiff, reduceIte, Nat.reduceBEq, Nat.reduceLeDiff, Nat.reduceSub, Int.reduceToNat]
    · replace h := run_f c2 h
      simp -dsimp -implicitDefEqProofs -failIfUnchanged only [↓RA, RB, RS, fx6, Nat.reduceLT, Nat.reduceAdd, Nat.reduceMul, Nat.reduceEqDiff, reduceIte, Nat.reduceBEq, Nat.reduceLeDiff, Nat.reduceSub, Int.reduceToNat, c1, c2]
      obtain ⟨v28, hv28, h⟩ := run_bind h
      refine CallH.mk [false, false] (szTerm_sat hv28) ?_ ?_ <;> simp -dsimp -implicitDefEqProofs -failIfUnchanged only [↓RA, RB, RS, fx6, Nat.reduceLT, Nat.reduceAdd, Nat.reduceMul, Nat.reduceEqDiff, reduceIte, Nat.reduceBEq, Nat.reduceLeDiff, Nat.reduceSub, Int.reduceToNat, c1, c2]
      refine CondH.mk (fun c3 => ?_) (fun c3 => ?_)
      · replace h := run_t c3 h
        simp -dsimp -implicitDefEqProofs -failIfUnchanged only [↓RA, RB, RS, fx6, Nat.reduceLT, Nat.reduceAdd, Nat.reduceMul, Nat.reduceEqDiff, reduceIte, Nat.reduceBEq, Nat.reduceLeDiff, Nat.reduceSub, Int.reduceToNat, c1, c2, c3]
        have h := run_some h
        obtain rfl : _ = r := h
        refine FinH.l ?_
        simp -dsimp -implicitDefEqProofs -failIfUnchanged only [↓RA, RB, RS, fx6, Nat.reduceLT, Nat.reduceAdd, Nat.reduceMul, Nat.reduceEqDiff, reduceIte, Nat.reduceBEq, Nat.reduceLeDiff, Nat.reduceSub, Int.reduceToNat]
      · replace h := run_f c3 h
        simp -dsimp -implicitDefEqProofs -failIfUnchanged only [↓RA, RB, RS, fx6, Nat.reduceLT, Nat.reduceAdd, Nat.reduceMul, Nat.reduceEqDiff, reduceIte, Nat.reduceBEq, Nat.reduceLeDiff, Nat.reduceSub, Int.reduceToNat, c1, c2, c3]
        obtain ⟨v33, hv33, h⟩ := run_bind h
        refine CallH.mk [false, false] (szLinear_sat hv33) ?_ ?_ <;> simp -dsimp -implicitDefEqProofs -failIfUnchanged only [↓RA, RB, RS, fx6, Nat.reduceLT, Nat.reduceAdd, Nat.reduceMul, Nat.reduceEqDiff, reduceIte, Nat.reduceBEq, Nat.reduceLeDiff, Nat.reduceSub, Int.reduceToNat, c1, c2, c3]
        refine CondH.mk (fun c4 => ?_) (fun c4 => ?_)
        · replace h := run_t c4 h
          simp -dsimp -implicitDefEqProofs -failIfUnchanged only [↓RA, RB, RS, fx6, Nat.reduceLT, Nat.reduceAdd, Nat.reduceMul, Nat.reduceEqDiff, reduceIte, Nat.reduceBEq, Nat.reduceLeDiff, Nat.reduceSub, Int.reduceToNat, c1, c2, c3, c4]
          have h := run_some h
          obtain rfl : _ = r := h
          refine FinH.l ?_
          simp -dsimp -implicitDefEqProofs -failIfUnchanged only [↓RA, RB, RS, fx6, Nat.reduceLT, Nat.reduceAdd, Nat.reduceMul, Nat.reduceEqDiff, reduceIte, Nat.reduceBEq, Nat.reduceLeDiff, Nat.reduceSub, Int.reduceToNat]
        · replace h := run_f c4 h
          simp -dsimp -implicitDefEqProofs -failIfUnchanged only [↓RA, RB, RS, fx6, Nat.reduceLT, Nat.reduceAdd, Nat.reduceMul, Nat.reduceEqDiff, reduceIte, Nat.reduceBEq, Nat.reduceLeDiff, Nat.reduceSub, Int.reduceToNat, c1, c2, c3, c4]
          obtain ⟨v38, hv38, h⟩ := run_bind h
          refine CallH.mk [false] (toMajorantS_sat hv38) ?_ ?_ <;> simp -dsimp -implicitDefEqProofs -failIfUnchanged only [↓RA, RB, RS, fx6, Nat.reduceLT, Nat.reduceAdd, Nat.reduceMul, Nat.reduceEqDiff, reduceIte, Nat.reduceBEq, Nat.reduceLeDiff, Nat.reduceSub, Int.reduceToNat, c1, c2, c3, c4]
          repeat (first | with_reducible refine noR_and (by repeat (first | exact noR_empty _ _ | exact noR_nilS _ _ | refine noR_mk _ _ _ _ _ rfl ?_ | refine noR_mkS _ _ _ _ _ rfl ?_)) ?_ | with_reducible refine noC_and (by repeat (first | exact noC_empty _ _ (by simp -dsimp -implicitDefEqProofs -failIfUnchanged only [↓RA, RB, RS, fx6, Nat.reduceLT, Nat.reduceAdd, Nat.reduceMul, Nat.reduceEqDiff, reduceIte, Nat.reduceBEq, Nat.reduceLeDiff, Nat.reduceSub, Int.reduceToNat]) | exact noC_nilS _ _ (by simp -dsimp -implicitDefEqProofs -failIfUnchanged only [↓RA, RB, RS, fx6, Nat.reduceLT, Nat.reduceAdd, Nat.reduceMul, Nat.reduceEqDiff, reduceIte, Nat.reduceBEq, Nat.reduceLeDiff, Nat.reduceSub, Int.reduceToNat]) | refine noC_mk _ _ _ _ _ rfl ?_ | refine noC_mkS _ _ _ _ _ rfl ?_)) ?_ | with_reducible refine and_ac ?_ | with_reducible refine And.intro (a := _ = List.range _) (by rfl) ?_)
          obtain ⟨v40, hv40, h⟩ := run_bind h
          refine CallH.mk [false] (toIntS_sat hv40) ?_ ?_ <;> simp -dsimp -implicitDefEqProofs -failIfUnchanged only [↓RA, RB, RS, fx6, Nat.reduceLT, Nat.reduceAdd, Nat.reduceMul, Nat.reduceEqDiff, reduceIte, Nat.reduceBEq, Nat.reduceLeDiff, Nat.reduceSub, Int.reduceToNat, c1, c2, c3, c4]
          repeat (first | with_reducible refine noR_and (by repeat (first | exact noR_empty _ _ | exact noR_nilS _ _ | refine noR_mk _ _ _ _ _ rfl ?_ | refine noR_mkS _ _ _ _ _ rfl ?_)) ?_ | with_reducible refine noC_and (by repeat (first | exact noC_empty _ _ (by simp -dsimp -implicitDefEqProofs -failIfUnchanged only [↓RA, RB, RS, fx6, Nat.reduceLT, Nat.reduceAdd, Nat.reduceMul, Nat.reduceEqDiff, reduceIte, Nat.reduceBEq, Nat.reduceLeDiff, Nat.reduceSub, Int.reduceToNat]) | exact noC_nilS _ _ (by simp -dsimp -implicitDefEqProofs -failIfUnchanged only [↓RA, RB, RS, fx6, Nat.reduceLT, Nat.reduceAdd, Nat.reduceMul, Nat.reduceEqDiff, reduceIte, Nat.reduceBEq, Nat.reduceLeDiff, Nat.reduceSub, Int.reduceToNat]) | refine noC_mk _ _ _ _ _ rfl ?_ | refine noC_mkS _ _ _ _ _ rfl ?_)) ?_ | with_reducible refine and_ac ?_ | with_reducible refine And.intro (a := _ = List.range _) (by rfl) ?_)
          obtain ⟨v42, hv42, h⟩ := run_bind h
          refine CallH.mk [false] (toTerm_sat hv42) ?_ ?_ <;> simp -dsimp -implicitDefEqProofs -failIfUnchanged only [↓RA, RB, RS, fx6, Nat.reduceLT, Nat.reduceAdd, Nat.reduceMul, Nat.reduceEqDiff, reduceIte, Nat.reduceBEq, Nat.reduceLeDiff, Nat.reduceSub, Int.reduceToNat, c1, c2, c3, c4]
          repeat (first | with_reducible refine noR_and (by repeat (first | exact noR_empty _ _ | exact noR_nilS _ _ | refine noR_mk _ _ _ _ _ rfl ?_ | refine noR_mkS _ _ _ _ _ rfl ?_)) ?_ | with_reducible refine noC_and (by repeat (first | exact noC_empty _ _ (by simp -dsimp -implicitDefEqProofs -failIfUnchanged only [↓RA, RB, RS, fx6, Nat.reduceLT, Nat.reduceAdd, Nat.reduceMul, Nat.reduceEqDiff, reduceIte, Nat.reduceBEq, Nat.reduceLeDiff, Nat.reduceSub, Int.reduceToNat]) | exact noC_nilS _ _ (by simp -dsimp -implicitDefEqProofs -failIfUnchanged only [↓RA, RB, RS, fx6, Nat.reduceLT, Nat.reduceAdd, Nat.reduceMul, Nat.reduceEqDiff, reduceIte, Nat.reduceBEq, Nat.reduceLeDiff, Nat.reduceSub, Int.reduceToNat]) | refine noC_mk _ _ _ _ _ rfl ?_ | refine noC_mkS _ _ _ _ _ rfl ?_)) ?_ | with_reducible refine and_ac ?_ | with_reducible refine And.intro (a := _ = List.range _) (by rfl) ?_)
          obtain ⟨v44, hv44, h⟩ := run_bind h
          refine CallH.mk [false] (toLinear_sat hv44) ?_ ?_ <;> simp -dsimp -implicitDefEqProofs -failIfUnchanged only [↓RA, RB, RS, fx6, Nat.reduceLT, Nat.reduceAdd, Nat.reduceMul, Nat.reduceEqDiff, reduceIte, Nat.reduceBEq, Nat.reduceLeDiff, Nat.reduceSub, Int.reduceToNat, c1, c2, c3, c4]
          repeat (first | with_reducible refine noR_and (by repeat (first | exact noR_empty _ _ | exact noR_nilS _ _ | refine noR_mk _ _ _ _ _ rfl ?_ | refine noR_mkS _ _ _ _ _ rfl ?_)) ?_ | with_reducible refine noC_and (by repeat (first | exact noC_empty _ _ (by simp -dsimp -implicitDefEqProofs -failIfUnchanged only [↓RA, RB, RS, fx6, Nat.reduceLT, Nat.reduceAdd, Nat.reduceMul, Nat.reduceEqDiff, reduceIte, Nat.reduceBEq, Nat.reduceLeDiff, Nat.reduceSub, Int.reduceToNat]) | exact noC_nilS _ _ (by simp -dsimp -implicitDefEqProofs -failIfUnchanged only [↓RA, RB, RS, fx6, Nat.reduceLT, Nat.reduceAdd, Nat.reduceMul, Nat.reduceEqDiff, reduceIte, Nat.reduceBEq, Nat.reduceLeDiff, Nat.reduceSub, Int.reduceToNat]) | refine noC_mk _ _ _ _ _ rfl ?_ | refine noC_mkS _ _ _ _ _ rfl ?_)) ?_ | with_reducible refine and_ac ?_ | with_reducible refine And.intro (a := _ = List.range _) (by rfl) ?_)
          obtain ⟨v45, hv45, h⟩ := run_bind h
          refine CallH.mk [false, false, false, false] (spec_CappedValue_sat hv45) ?_ ?_ <;> simp -dsimp -implicitDefEqProofs -failIfUnchanged only [↓RA, RB, RS, fx6, Nat.reduceLT, Nat.reduceAdd, Nat.reduceMul, Nat.reduceEqDiff, reduceIte, Nat.reduceBEq, Nat.reduceLeDiff, Nat.reduceSub, Int.reduceToNat, c1, c2, c3, c4]
          refine And.intro (DrawH.mk [] [608, 640, 672, 704, 705] (by rfl) (by first | rfl | (simp -dsimp -implicitDefEqProofs -failIfUnchanged only [↓RA, RB, RS, fx6, Nat.reduceLT, Nat.reduceAdd, Nat.reduceMul, Nat.reduceEqDiff, reduceIte, Nat.reduceBEq, Nat.reduceLeDiff, Nat.reduceSub, Int.reduceToNat] <;> rfl)) (by first | rfl | (simp -dsimp -implicitDefEqProofs -failIfUnchanged only [↓RA, RB, RS, fx6, Nat.reduceLT, Nat.reduceAdd, Nat.reduceMul, Nat.reduceEqDiff, reduceIte, Nat.reduceBEq, Nat.reduceLeDiff, Nat.reduceSub, Int.reduceToNat] <;> rfl)) (by first | rfl | (simp -dsimp -implicitDefEqProofs -failIfUnchanged only [↓RA, RB, RS, fx6, Nat.reduceLT, Nat.reduceAdd, Nat.reduceMul, Nat.reduceEqDiff, reduceIte, Nat.reduceBEq, Nat.reduceLeDiff, Nat.reduceSub, Int.reduceToNat] <;> rfl)) (by simp) (by simp -dsimp -implicitDefEqProofs -failIfUnchanged only [↓RA, RB, RS, fx6, Nat.reduceLT, Nat.reduceAdd, Nat.reduceMul, Nat.reduceEqDiff, reduceIte, Nat.reduceBEq, Nat.reduceLeDiff, Nat.reduceSub, Int.reduceToNat]; repeat (first | exact noC_empty _ _ (by simp -dsimp -implicitDefEqProofs -failIfUnchanged only [↓RA, RB, RS, fx6, Nat.reduceLT, Nat.reduceAdd, Nat.reduceMul, Nat.reduceEqDiff, reduceIte, Nat.reduceBEq, Nat.reduceLeDiff, Nat.reduceSub, Int.reduceToNat]) | exact noC_nilS _ _ (by simp -dsimp -implicitDefEqProofs -failIfUnchanged only [↓RA, RB, RS, fx6, Nat.reduceLT, Nat.reduceAdd, Nat.reduceMul, Nat.reduceEqDiff, reduceIte, Nat.reduceBEq, Nat.reduceLeDiff, Nat.reduceSub, Int.reduceToNat]) | refine noC_mk _ _ _ _ _ rfl ?_ | refine noC_mkS _ _ _ _ _ rfl ?_ | refine And.intro ?_ ?_))) ?_
          simp -dsimp -implicitDefEqProofs -failIfUnchanged only [↓RA, RB, RS, fx6, Nat.reduceLT, Nat.reduceAdd, Nat.reduceMul, Nat.reduceEqDiff, reduceIte, Nat.reduceBEq, Nat.reduceLeDiff, Nat.reduceSub, Int.reduceToNat, c1, c2, c3, c4]
          obtain ⟨v49, hv49, h⟩ := run_bind h
          refine CallH.mk [false] (toMajorantS_sat hv49) ?_ ?_ <;> simp -dsimp -implicitDefEqProofs -failIfUnchanged only [↓RA, RB, RS, fx6, Nat.reduceLT, Nat.reduceAdd, Nat.reduceMul, Nat.reduceEqDiff, reduceIte, Nat.reduceBEq, Nat.reduceLeDiff, Nat.reduceSub, Int.reduceToNat, c1, c2, c3, c4]
          repeat (first | with_reducible refine noR_and (by repeat (first | exact noR_empty _ _ | exact noR_nilS _ _ | refine noR_mk _ _ _ _ _ rfl ?_ | refine noR_mkS _ _ _ _ _ rfl ?_)) ?_ | with_reducible refine noC_and (by repeat (first | exact noC_empty _ _ (by simp -dsimp -implicitDefEqProofs -failIfUnchanged only [↓RA, RB, RS, fx6, Nat.reduceLT, Nat.reduceAdd, Nat.reduceMul, Nat.reduceEqDiff, reduceIte, Nat.reduceBEq, Nat.reduceLeDiff, Nat.reduceSub, Int.reduceToNat]) | exact noC_nilS _ _ (by simp -dsimp -implicitDefEqProofs -failIfUnchanged only [↓RA, RB, RS, fx6, Nat.reduceLT, Nat.reduceAdd, Nat.reduceMul, Nat.reduceEqDiff, reduceIte, Nat.reduceBEq, Nat.reduceLeDiff, Nat.reduceSub, Int.reduceToNat]) | refine noC_mk _ _ _ _ _ rfl ?_ | refine noC_mkS _ _ _ _ _ rfl ?_)) ?_ | with_reducible refine and_ac ?_ | with_reducible refine And.intro (a := _ = List.range _) (by rfl) ?_)
          obtain ⟨v51, hv51, h⟩ := run_bind h
          refine CallH.mk [false] (toIntS_sat hv51) ?_ ?_ <;> simp -dsimp -implicitDefEqProofs -failIfUnchanged only [↓RA, RB, RS, fx6, Nat.reduceLT, Nat.reduceAdd, Nat.reduceMul, Nat.reduceEqDiff, reduceIte, Nat.reduceBEq, Nat.reduceLeDiff, Nat.reduceSub, Int.reduceToNat, c1, c2, c3, c4]
          repeat (first | with_reducible refine noR_and (by repeat (first | exact noR_empty _ _ | exact noR_nilS _ _ | refine noR_mk _ _ _ _ _ rfl ?_ | refine noR_mkS _ _ _ _ _ rfl ?_)) ?_ | with_reducible refine noC_and (by repeat (first | exact noC_empty _ _ (by simp -dsimp -implicitDefEqProofs -failIfUnchanged only [↓RA, RB, RS, fx6, Nat.reduceLT, Nat.reduceAdd, Nat.reduceMul, Nat.reduceEqDiff, reduceIte, Nat.reduceBEq, Nat.reduceLeDiff, Nat.reduceSub, Int.reduceToNat]) | exact noC_nilS _ _ (by simp -dsimp -implicitDefEqProofs -failIfUnchanged only [↓RA, RB, RS, fx6, Nat.reduceLT, Nat.reduceAdd, Nat.reduceMul, Nat.reduceEqDiff, reduceIte, Nat.reduceBEq, Nat.reduceLeDiff, Nat.reduceSub, Int.reduceToNat]) | refine noC_mk _ _ _ _ _ rfl ?_ | refine noC_mkS _ _ _ _ _ rfl ?_)) ?_ | with_reducible refine and_ac ?_ | with_reducible refine And.intro (a := _ = List.range _) (by rfl) ?_)
          obtain ⟨v53, hv53, h⟩ := run_bind h
          refine CallH.mk [false] (toTerm_sat hv53) ?_ ?_ <;> simp -dsimp -implicitDefEqProofs -failIfUnchanged only [↓RA, RB, RS, fx6, Nat.reduceLT, Nat.reduceAdd, Nat.reduceMul, Nat.reduceEqDiff, reduceIte, Nat.reduceBEq, Nat.reduceLeDiff, Nat.reduceSub, Int.reduceToNat, c1, c2, c3, c4]
          repeat (first | with_reducible refine noR_and (by repeat (first | exact noR_empty _ _ | exact noR_nilS _ _ | refine noR_mk _ _ _ _ _ rfl ?_ | refine noR_mkS _ _ _ _ _ rfl ?_)) ?_ | with_reducible refine noC_and (by repeat (first | exact noC_empty _ _ (by simp -dsimp -implicitDefEqProofs -failIfUnchanged only [↓RA, RB, RS, fx6, Nat.reduceLT, Nat.reduceAdd, Nat.reduceMul, Nat.reduceEqDiff, reduceIte, Nat.reduceBEq, Nat.reduceLeDiff, Nat.reduceSub, Int.reduceToNat]) | exact noC_nilS _ _ (by simp -dsimp -implicitDefEqProofs -failIfUnchanged only [↓RA, RB, RS, fx6, Nat.reduceLT, Nat.reduceAdd, Nat.reduceMul, Nat.reduceEqDiff, reduceIte, Nat.reduceBEq, Nat.reduceLeDiff, Nat.reduceSub, Int.reduceToNat]) | refine noC_mk _ _ _ _ _ rfl ?_ | refine noC_mkS _ _ _ _ _ rfl ?_)) ?_ | with_reducible refine and_ac ?_ | with_reducible refine And.intro (a := _ = List.range _) (by rfl) ?_)
          obtain ⟨v55, hv55, h⟩ := run_bind h
          refine CallH.mk [false] (toLinear_sat hv55) ?_ ?_ <;> simp -dsimp -implicitDefEqProofs -failIfUnchanged only [↓RA, RB, RS, fx6, Nat.reduceLT, Nat.reduceAdd, Nat.reduceMul, Nat.reduceEqDiff, reduceIte, Nat.reduceBEq, Nat.reduceLeDiff, Nat.reduceSub, Int.reduceToNat, c1, c2, c3, c4]
          repeat (first | with_reducible refine noR_and (by repeat (first | exact noR_empty _ _ | exact noR_nilS _ _ | refine noR_mk _ _ _ _ _ rfl ?_ | refine noR_mkS _ _ _ _ _ rfl ?_)) ?_ | with_reducible refine noC_and (by repeat (first | exact noC_empty _ _ (by simp -dsimp -implicitDefEqProofs -failIfUnchanged only [↓RA, RB, RS, fx6, Nat.reduceLT, Nat.reduceAdd, Nat.reduceMul, Nat.reduceEqDiff, reduceIte, Nat.reduceBEq, Nat.reduceLeDiff, Nat.reduceSub, Int.reduceToNat]) | exact noC_nilS _ _ (by simp -dsimp -implicitDefEqProofs -failIfUnchanged only [↓RA, RB, RS, fx6, Nat.reduceLT, Nat.reduceAdd, Nat.reduceMul, Nat.reduceEqDiff, reduceIte, Nat.reduceBEq, Nat.reduceLeDiff, Nat.reduceSub, Int.reduceToNat]) | refine noC_mk _ _ _ _ _ rfl ?_ | refine noC_mkS _ _ _ _ _ rfl ?_)) ?_ | with_reducible refine and_ac ?_ | with_reducible refine And.intro (a := _ = List.range _) (by rfl) ?_)
          obtain ⟨v61, hv61, h⟩ := run_bind h
          refine CallH.mk [false, false, false, false] (impl_CappedValue_sat hv61) ?_ ?_ <;> simp -dsimp -implicitDefEqProofs -failIfUnchanged only [↓RA, RB, RS, fx6, Nat.reduceLT, Nat.reduceAdd, Nat.reduceMul, Nat.reduceEqDiff, reduceIte, Nat.reduceBEq, Nat.reduceLeDiff, Nat.reduceSub, Int.reduceToNat, c1, c2, c3, c4]
          refine CondH.mk (fun c5 => ?_) (fun c5 => ?_)
          · replace h := run_t c5 h
            simp -dsimp -implicitDefEqProofs -failIfUnchanged only [↓RA, RB, RS, fx6, Nat.reduceLT, Nat.reduceAdd, Nat.reduceMul, Nat.reduceEqDiff, reduceIte, Nat.reduceBEq, Nat.reduceLeDiff, Nat.reduceSub, Int.reduceToNat, c1, c2, c3, c4, c5]
            refine CondH.mk (fun c6 => ?_) (fun c6 => ?_)
            · replace h := run_t c6 h
              simp -dsimp -implicitDefEqProofs -failIfUnchanged only [↓RA, RB, RS, fx6, Nat.reduceLT, Nat.reduceAdd, Nat.reduceMul, Nat.reduceEqDiff, reduceIte, Nat.reduceBEq, Nat.reduceLeDiff, Nat.reduceSub, Int.reduceToNat, c1, c2, c3, c4, c5, c6]
              obtain ⟨v74, hv74, h⟩ := run_bind h
              refine CallH.mk [false] (toMajorantS_sat hv74) ?_ ?_ <;> simp -dsimp -implicitDefEqProofs -failIfUnchanged only [↓RA, RB, RS, fx6, Nat.reduceLT, Nat.reduceAdd, Nat.reduceMul, Nat.reduceEqDiff, reduceIte, Nat.reduceBEq, Nat.reduceLeDiff, Nat.reduceSub, Int.reduceToNat, c1, c2, c3, c4, c5, c6]
              repeat (first | with_reducible refine noR_and (by repeat (first | exact noR_empty _ _ | exact noR_nilS _ _ | refine noR_mk _ _ _ _ _ rfl ?_ | refine noR_mkS _ _ _ _ _ rfl ?_)) ?_ | with_reducible refine noC_and (by repeat (first | exact noC_empty _ _ (by simp -dsimp -implicitDefEqProofs -failIfUnchanged only [↓RA, RB, RS, fx6, Nat.reduceLT, Nat.reduceAdd, Nat.reduceMul, Nat.reduceEqDiff, reduceIte, Nat.reduceBEq, Nat.reduceLeDiff, Nat.reduceSub, Int.reduceToNat]) | exact noC_nilS _ _ (by simp -dsimp -implicitDefEqProofs -failIfUnchanged only [↓RA, RB, RS, fx6, Nat.reduceLT, Nat.reduceAdd, Nat.reduceMul, Nat.reduceEqDiff, reduceIte, Nat.reduceBEq, Nat.reduceLeDiff, Nat.reduceSub, Int.reduceToNat]) | refine noC_mk _ _ _ _ _ rfl ?_ | refine noC_mkS _ _ _ _ _ rfl ?_)) ?_ | with_reducible refine and_ac ?_ | with_reducible refine And.intro (a := _ = List.range _) (by rfl) ?_)
              obtain ⟨v75, hv75, h⟩ := run_bind h
              refine CallH.mk [false, false] (eqMajorantS_sat hv75) ?_ ?_ <;> simp -dsimp -implicitDefEqProofs -failIfUnchanged only [↓RA, RB, RS, fx6, Nat.reduceLT, Nat.reduceAdd, Nat.reduceMul, Nat.reduceEqDiff, reduceIte, Nat.reduceBEq, Nat.reduceLeDiff, Nat.reduceSub, Int.reduceToNat, c1, c2, c3, c4, c5, c6]
              refine CondH.mk (fun c7 => ?_) (fun c7 => ?_)
              · replace h := run_t c7 h
                simp -dsimp -implicitDefEqProofs -failIfUnchanged only [↓RA, RB, RS, fx6, Nat.reduceLT, Nat.reduceAdd, Nat.reduceMul, Nat.reduceEqDiff, reduceIte, Nat.reduceBEq, Nat.reduceLeDiff, Nat.reduceSub, Int.reduceToNat, c1, c2, c3, c4, c5, c6, c7]
                obtain ⟨v79, hv79, h⟩ := run_bind h
                refine CallH.mk [false] (toIntS_sat hv79) ?_ ?_ <;> simp -dsimp -implicitDefEqProofs -failIfUnchanged only [↓RA, RB, RS, fx6, Nat.reduceLT, Nat.reduceAdd, Nat.reduceMul, Nat.reduceEqDiff, reduceIte, Nat.reduceBEq, Nat.reduceLeDiff, Nat.reduceSub, Int.reduceToNat, c1, c2, c3, c4, c5, c6, c7]
                repeat (first | with_reducible refine noR_and (by repeat (first | exact noR_empty _ _ | exact noR_nilS _ _ | refine noR_mk _ _ _ _ _ rfl ?_ | refine noR_mkS _ _ _ _ _ rfl ?_)) ?_ | with_reducible refine noC_and (by repeat (first | exact noC_empty _ _ (by simp -dsimp -implicitDefEqProofs -failIfUnchanged only [↓RA, RB, RS, fx6, Nat.reduceLT, Nat.reduceAdd, Nat.reduceMul, Nat.reduceEqDiff, reduceIte, Nat.reduceBEq, Nat.reduceLeDiff, Nat.reduceSub, Int.reduceToNat]) | exact noC_nilS _ _ (by simp -dsimp -implicitDefEqProofs -failIfUnchanged only [↓RA, RB, RS, fx6, Nat.reduceLT, Nat.reduceAdd, Nat.reduceMul, Nat.reduceEqDiff, reduceIte, Nat.reduceBEq, Nat.reduceLeDiff, Nat.reduceSub, Int.reduceToNat]) | refine noC_mk _ _ _ _ _ rfl ?_ | refine noC_mkS _ _ _ _ _ rfl ?_)) ?_ | with_reducible refine and_ac ?_ | with_reducible refine And.intro (a := _ = List.range _) (by rfl) ?_)
                obtain ⟨v80, hv80, h⟩ := run_bind h
                refine CallH.mk [false, false] (eqIntS_sat hv80) ?_ ?_ <;> simp -dsimp -implicitDefEqProofs -failIfUnchanged only [↓RA, RB, RS, fx6, Nat.reduceLT, Nat.reduceAdd, Nat.reduceMul, Nat.reduceEqDiff, reduceIte, Nat.reduceBEq, Nat.reduceLeDiff, Nat.reduceSub, Int.reduceToNat, c1, c2, c3, c4, c5, c6, c7]
                refine CondH.mk (fun c8 => ?_) (fun c8 => ?_)
                · replace h := run_t c8 h
                  simp -dsimp -implicitDefEqProofs -failIfUnchanged only [↓RA, RB, RS, fx6, Nat.reduceLT, Nat.reduceAdd, Nat.reduceMul, Nat.reduceEqDiff, reduceIte, Nat.reduceBEq, Nat.reduceLeDiff, Nat.reduceSub, Int.reduceToNat, c1, c2, c3, c4, c5, c6, c7, c8]
                  obtain ⟨v84, hv84, h⟩ := run_bind h
                  refine CallH.mk [false] (toTerm_sat hv84) ?_ ?_ <;> simp -dsimp -implicitDefEqProofs -failIfUnchanged only [↓RA, RB, RS, fx6, Nat.reduceLT, Nat.reduceAdd, Nat.reduceMul, Nat.reduceEqDiff, reduceIte, Nat.reduceBEq, Nat.reduceLeDiff, Nat.reduceSub, Int.reduceToNat, c1, c2, c3, c4, c5, c6, c7, c8]
                  repeat (first | with_reducible refine noR_and (by repeat (first | exact noR_empty _ _ | exact noR_nilS _ _ | refine noR_mk _ _ _ _ _ rfl ?_ | refine noR_mkS _ _ _ _ _ rfl ?_)) ?_ | with_reducible refine noC_and (by repeat (first | exact noC_empty _ _ (by simp -dsimp -implicitDefEqProofs -failIfUnchanged only [↓RA, RB, RS, fx6, Nat.reduceLT, Nat.reduceAdd, Nat.reduceMul, Nat.reduceEqDiff, reduceIte, Nat.reduceBEq, Nat.reduceLeDiff, Nat.reduceSub, Int.reduceToNat]) | exact noC_nilS _ _ (by simp -dsimp -implicitDefEqProofs -failIfUnchanged only [↓RA, RB, RS, fx6, Nat.reduceLT, Nat.reduceAdd, Nat.reduceMul, Nat.reduceEqDiff, reduceIte, Nat.reduceBEq, Nat.reduceLeDiff, Nat.reduceSub, Int.reduceToNat]) | refine noC_mk _ _ _ _ _ rfl ?_ | refine noC_mkS _ _ _ _ _ rfl ?_)) ?_ | with_reducible refine and_ac ?_ | with_reducible refine And.intro (a := _ = List.range _) (by rfl) ?_)
                  obtain ⟨v85, hv85, h⟩ := run_bind h
                  refine CallH.mk [false, false] (eqTerm_sat hv85) ?_ ?_ <;> simp -dsimp -implicitDefEqProofs -failIfUnchanged only [↓RA, RB, RS, fx6, Nat.reduceLT, Nat.reduceAdd, Nat.reduceMul, Nat.reduceEqDiff, reduceIte, Nat.reduceBEq, Nat.reduceLeDiff, Nat.reduceSub, Int.reduceToNat, c1, c2, c3, c4, c5, c6, c7, c8]
                  refine And.intro (DrawH.mk [] [1344] (by rfl) (by first | rfl | (simp -dsimp -implicitDefEqProofs -failIfUnchanged only [↓RA, RB, RS, fx6, Nat.reduceLT, Nat.reduceAdd, Nat.reduceMul, Nat.reduceEqDiff, reduceIte, Nat.reduceBEq, Nat.reduceLeDiff, Nat.reduceSub, Int.reduceToNat] <;> rfl)) (by first | rfl | (simp -dsimp -implicitDefEqProofs -failIfUnchanged only [↓RA, RB, RS, fx6, Nat.reduceLT, Nat.reduceAdd, Nat.reduceMul, Nat.reduceEqDiff, reduceIte, Nat.reduceBEq, Nat.reduceLeDiff, Nat.reduceSub, Int.reduceToNat] <;> rfl)) (by first | rfl | (simp -dsimp -implicitDefEqProofs -failIfUnchanged only [↓RA, RB, RS, fx6, Nat.reduceLT, Nat.reduceAdd, Nat.reduceMul, Nat.reduceEqDiff, reduceIte, Nat.reduceBEq, Nat.reduceLeDiff, Nat.reduceSub, Int.reduceToNat] <;> rfl)) (by simp) (by simp -dsimp -implicitDefEqProofs -failIfUnchanged only [↓RA, RB, RS, fx6, Nat.reduceLT, Nat.reduceAdd, Nat.reduceMul, Nat.reduceEqDiff, reduceIte, Nat.reduceBEq, Nat.reduceLeDiff, Nat.reduceSub, Int.reduceToNat]; repeat (first | exact noC_empty _ _ (by simp -dsimp -implicitDefEqProofs -failIfUnchanged only [↓RA, RB, RS, fx6, Nat.reduceLT, Nat.reduceAdd, Nat.reduceMul, Nat.reduceEqDiff, reduceIte, Nat.reduceBEq, Nat.reduceLeDiff, Nat.reduceSub, Int.reduceToNat]) | exact noC_nilS _ _ (by simp -dsimp -implicitDefEqProofs -failIfUnchanged only [↓RA, RB, RS, fx6, Nat.reduceLT, Nat.reduceAdd, Nat.reduceMul, Nat.reduceEqDiff, reduceIte, Nat.reduceBEq, Nat.reduceLeDiff, Nat.reduceSub, Int.reduceToNat]) | refine noC_mk _ _ _ _ _ rfl ?_ | refine noC_mkS _ _ _ _ _ rfl ?_ | refine And.intro ?_ ?_))) ?_
                  simp -dsimp -implicitDefEqProofs -failIfUnchanged only [↓RA, RB, RS, fx6, Nat.reduceLT, Nat.reduceAdd, Nat.reduceMul, Nat.reduceEqDiff, reduceIte, Nat.reduceBEq, Nat.reduceLeDiff, Nat.reduceSub, Int.reduceToNat, c1, c2, c3, c4, c5, c6, c7, c8]
                  refine CondH.mk (fun c9 => ?_) (fun c9 => ?_)
                  · replace h := run_t c9 h
                    simp -dsimp -implicitDefEqProofs -failIfUnchanged only [↓RA, RB, RS, fx6, Nat.reduceLT, Nat.reduceAdd, Nat.reduceMul, Nat.reduceEqDiff, reduceIte, Nat.reduceBEq, Nat.reduceLeDiff, Nat.reduceSub, Int.reduceToNat, c1, c2, c3, c4, c5, c6, c7, c8, c9]
                    obtain ⟨v89, hv89, h⟩ := run_bind h
                    refine CallH.mk [false] (toLinear_sat hv89) ?_ ?_ <;> simp -dsimp -implicitDefEqProofs -failIfUnchanged only [↓RA, RB, RS, fx6, Nat.reduceLT, Nat.reduceAdd, Nat.reduceMul, Nat.reduceEqDiff, reduceIte, Nat.reduceBEq, Nat.reduceLeDiff, Nat.reduceSub, Int.reduceToNat, c1, c2, c3, c4, c5, c6, c7, c8, c9]
                    repeat (first | with_reducible refine noR_and (by repeat (first | exact noR_empty _ _ | exact noR_nilS _ _ | refine noR_mk _ _ _ _ _ rfl ?_ | refine noR_mkS _ _ _ _ _ rfl ?_)) ?_ | with_reducible refine noC_and (by repeat (first | exact noC_empty _ _ (by simp -dsimp -implicitDefEqProofs -failIfUnchanged only [↓RA, RB, RS, fx6, Nat.reduceLT, Nat.reduceAdd, Nat.reduceMul, Nat.reduceEqDiff, reduceIte, Nat.reduceBEq, Nat.reduceLeDiff, Nat.reduceSub, Int.reduceToNat]) | exact noC_nilS _ _ (by simp -dsimp -implicitDefEqProofs -failIfUnchanged only [↓RA, RB, RS, fx6, Nat.reduceLT, Nat.reduceAdd, Nat.reduceMul, Nat.reduceEqDiff, reduceIte, Nat.reduceBEq, Nat.reduceLeDiff, Nat.reduceSub, Int.reduceToNat]) | refine noC_mk _ _ _ _ _ rfl ?_ | refine noC_mkS _ _ _ _ _ rfl ?_)) ?_ | with_reducible refine and_ac ?_ | with_reducible refine And.intro (a := _ = List.range _) (by rfl) ?_)
                    obtain ⟨v90, hv90, h⟩ := run_bind h
                    refine CallH.mk [false, false] (eqLinear_sat hv90) ?_ ?_ <;> simp -dsimp -implicitDefEqProofs -failIfUnchanged only [↓RA, RB, RS, fx6, Nat.reduceLT, Nat.reduceAdd, Nat.reduceMul, Nat.reduceEqDiff, reduceIte, Nat.reduceBEq, Nat.reduceLeDiff, Nat.reduceSub, Int.reduceToNat, c1, c2, c3, c4, c5, c6, c7, c8, c9]
                    refine And.intro (DrawH.mk [] [1424, 1425] (by rfl) (by first | rfl | (simp -dsimp -implicitDefEqProofs -failIfUnchanged only [↓RA, RB, RS, fx6, Nat.reduceLT, Nat.reduceAdd, Nat.reduceMul, Nat.reduceEqDiff, reduceIte, Nat.reduceBEq, Nat.reduceLeDiff, Nat.reduceSub, Int.reduceToNat] <;> rfl)) (by first | rfl | (simp -dsimp -implicitDefEqProofs -failIfUnchanged only [↓RA, RB, RS, fx6, Nat.reduceLT, Nat.reduceAdd, Nat.reduceMul, Nat.reduceEqDiff, reduceIte, Nat.reduceBEq, Nat.reduceLeDiff, Nat.reduceSub, Int.reduceToNat] <;> rfl)) (by first | rfl | (simp -dsimp -implicitDefEqProofs -failIfUnchanged only [↓RA, RB, RS, fx6, Nat.reduceLT, Nat.reduceAdd, Nat.reduceMul, Nat.reduceEqDiff, reduceIte, Nat.reduceBEq, Nat.reduceLeDiff, Nat.reduceSub, Int.reduceToNat] <;> rfl)) (by simp) (by simp -dsimp -implicitDefEqProofs -failIfUnchanged only [↓RA, RB, RS, fx6, Nat.reduceLT, Nat.reduceAdd, Nat.reduceMul, Nat.reduceEqDiff, reduceIte, Nat.reduceBEq, Nat.reduceLeDiff, Nat.reduceSub, Int.reduceToNat]; repeat (first | exact noC_empty _ _ (by simp -dsimp -implicitDefEqProofs -failIfUnchanged only [↓RA, RB, RS, fx6, Nat.reduceLT, Nat.reduceAdd, Nat.reduceMul, Nat.reduceEqDiff, reduceIte, Nat.reduceBEq, Nat.reduceLeDiff, Nat.reduceSub, Int.reduceToNat]) | exact noC_nilS _ _ (by simp -dsimp -implicitDefEqProofs -failIfUnchanged only [↓RA, RB, RS, fx6, Nat.reduceLT, Nat.reduceAdd, Nat.reduceMul, Nat.reduceEqDiff, reduceIte, Nat.reduceBEq, Nat.reduceLeDiff, Nat.reduceSub, Int.reduceToNat]) | refine noC_mk _ _ _ _ _ rfl ?_ | refine noC_mkS _ _ _ _ _ rfl ?_ | refine And.intro ?_ ?_))) ?_
                    simp -dsimp -implicitDefEqProofs -failIfUnchanged only [↓RA, RB, RS, fx6, Nat.reduceLT, Nat.reduceAdd, Nat.reduceMul, Nat.reduceEqDiff, reduceIte, Nat.reduceBEq, Nat.reduceLeDiff, Nat.reduceSub, Int.reduceToNat, c1, c2, c3, c4, c5, c6, c7, c8, c9]
                    refine CondH.mk (fun c10 => ?_) (fun c10 => ?_)
                    · replace h := run_t c10 h
                      simp -dsimp -implicitDefEqProofs -failIfUnchanged only [↓RA, RB, RS, fx6, Nat.reduceLT, Nat.reduceAdd, Nat.reduceMul, Nat.reduceEqDiff, reduceIte, Nat.reduceBEq, Nat.reduceLeDiff, Nat.reduceSub, Int.reduceToNat, c1, c2, c3, c4, c5, c6, c7, c8, c9, c10]
                      have h := run_some h
                      obtain rfl : _ = r := h
                      refine FinH.l ?_
                      simp -dsimp -implicitDefEqProofs -failIfUnchanged only [↓RA, RB, RS, fx6, Nat.reduceLT, Nat.reduceAdd, Nat.reduceMul, Nat.reduceEqDiff, reduceIte, Nat.reduceBEq, Nat.reduceLeDiff, Nat.reduceSub, Int.reduceToNat]
                    · replace h := run_f c10 h
                      simp -dsimp -implicitDefEqProofs -failIfUnchanged only [↓RA, RB, RS, fx6, Nat.reduceLT, Nat.reduceAdd, Nat.reduceMul, Nat.reduceEqDiff, reduceIte, Nat.reduceBEq, Nat.reduceLeDiff, Nat.reduceSub, Int.reduceToNat, c1, c2, c3, c4, c5, c6, c7, c8, c9, c10]
                      have h := run_some h
                      obtain rfl : _ = r := h
                      refine FinH.l ?_
                      simp -dsimp -implicitDefEqProofs -failIfUnchanged only [↓RA, RB, RS, fx6, Nat.reduceLT, Nat.reduceAdd, Nat.reduceMul, Nat.reduceEqDiff, reduceIte, Nat.reduceBEq, Nat.reduceLeDiff, Nat.reduceSub, Int.reduceToNat]
                  · replace h := run_f c9 h
                    simp -dsimp -implicitDefEqProofs -failIfUnchanged only [↓RA, RB, RS, fx6, Nat.reduceLT, Nat.reduceAdd, Nat.reduceMul, Nat.reduceEqDiff, reduceIte, Nat.reduceBEq, Nat.reduceLeDiff, Nat.reduceSub, Int.reduceToNat, c1, c2, c3, c4, c5, c6, c7, c8, c9]
                    have h := run_some h
                    obtain rfl : _ = r := h
                    refine FinH.l ?_
                    simp -dsimp -implicitDefEqProofs -failIfUnchanged only [↓RA, RB, RS, fx6, Nat.reduceLT, Nat.reduceAdd, Nat.reduceMul, Nat.reduceEqDiff, reduceIte, Nat.reduceBEq, Nat.reduceLeDiff, Nat.reduceSub, Int.reduceToNat]
                · replace h := run_f c8 h
                  simp -dsimp -implicitDefEqProofs -failIfUnchanged only [↓RA, RB, RS, fx6, Nat.reduceLT, Nat.reduceAdd, Nat.reduceMul, Nat.reduceEqDiff, reduceIte, Nat.reduceBEq, Nat.reduceLeDiff, Nat.reduceSub, Int.reduceToNat, c1, c2, c3, c4, c5, c6, c7, c8]
                  have h := run_some h
                  obtain rfl : _ = r := h
                  refine FinH.l ?_
                  simp -dsimp -implicitDefEqProofs -failIfUnchanged only [↓RA, RB, RS, fx6, Nat.reduceLT, Nat.reduceAdd, Nat.reduceMul, Nat.reduceEqDiff, reduceIte, Nat.reduceBEq, Nat.reduceLeDiff, Nat.reduceSub, Int.reduceToNat]
              · replace h := run_f c7 h
                simp -dsimp -implicitDefEqProofs -failIfUnchanged only [↓RA, RB, RS, fx6, Nat.reduceLT, Nat.reduceAdd, Nat.reduceMul, Nat.reduceEqDiff, reduceIte, Nat.reduceBEq, Nat.reduceLeDiff, Nat.reduceSub, Int.reduceToNat, c1, c2, c3, c4, c5, c6, c7]
                have h := run_some h
                obtain rfl : _ = r := h
                refine FinH.l ?_
                simp -dsimp -implicitDefEqProofs -failIfUnchanged only [↓RA, RB, RS, fx6, Nat.reduceLT, Nat.reduceAdd, Nat.reduceMul, Nat.reduceEqDiff, reduceIte, Nat.reduceBEq, Nat.reduceLeDiff, Nat.reduceSub, Int.reduceToNat]
            · replace h := run_f c6 h
              simp -dsimp -implicitDefEqProofs -failIfUnchanged only [↓RA, RB, RS, fx6, Nat.reduceLT, Nat.reduceAdd, Nat.reduceMul, Nat.reduceEqDiff, reduceIte, Nat.reduceBEq, Nat.reduceLeDiff, Nat.reduceSub, Int.reduceToNat, c1, c2, c3, c4, c5, c6]
              have h := run_some h
              obtain rfl : _ = r := h
              refine FinH.l ?_
              simp -dsimp -implicitDefEqProofs -failIfUnchanged only [↓RA, RB, RS, fx6, Nat.reduceLT, Nat.reduceAdd, Nat.reduceMul, Nat.reduceEqDiff, reduceIte, Nat.reduceBEq, Nat.reduceLeDiff, Nat.reduceSub, Int.reduceToNat]
          · replace h := run_f c5 h
            simp -dsimp -implicitDefEqProofs -failIfUnchanged only [↓RA, RB, RS, fx6, Nat.reduceLT, Nat.reduceAdd, Nat.reduceMul, Nat.reduceEqDiff, reduceIte, Nat.reduceBEq, Nat.reduceLeDiff, Nat.reduceSub, Int.reduceToNat, c1, c2, c3, c4, c5]
            have h := run_some h
            obtain rfl : _ = r := h
            refine FinH.l ?_
            simp -dsimp -implicitDefEqProofs -failIfUnchanged only [↓RA, RB, RS, fx6, Nat.reduceLT, Nat.reduceAdd, Nat.reduceMul, Nat.reduceEqDiff, reduceIte, Nat.reduceBEq, Nat.reduceLeDiff, Nat.reduceSub, Int.reduceToNat]

end Go.Proofs.Ytdmkceajaagpgaa
