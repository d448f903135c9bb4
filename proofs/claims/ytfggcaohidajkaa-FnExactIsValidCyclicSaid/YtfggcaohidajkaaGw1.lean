/- A part of the proof: lemmas only; nothing is claimed here beyond what each lemma says. -/
import Derived.Test.YtfggcaohidajkaaGw0
set_option linter.unusedSimpArgs false
set_option linter.unusedVariables false
set_option linter.defProp false
set_option maxRecDepth 4000
namespace Go.Proofs.Ytfggcaohidajkaa
open Go.Av
def fx36 := And.intro @ty_3 <| And.intro @zc_3 <| And.intro @z_3 <| And.intro @ty_50 <| And.intro @zc_50 <| And.intro @z_50 <| And.intro @es_50 <| And.intro @eb_50 <| And.intro @sl_50 <| And.intro @is_50 <| And.intro @el_50 <| And.intro @ze_50 <| And.intro @ez_50 <| @mixedT
set_option maxHeartbeats 4000000 in
theorem eqIntS_sat {a0 : List Int} {a1 : List Int}  {r : Bool} (h : eqIntS a0 a1 = some r) : Sat Try.prog 36 [(.sl false 1 (a0.map I)), (.sl false 1 (a1.map I))] (B r) := by
  replace h := Run.of h
  unfold eqIntS at h
  refine Sat.of_m (nt := 26) (rs := [.tmp 4]) (n := 100000) Try.func36 rfl rfl rfl rfl (by simp) ?_
  simp -dsimp -implicitDefEqProofs -failIfUnchanged only [↓RA, RB, RS, fx36, cast0, cast1, cast2, implies_true, Nat.reduceLT, Nat.reduceAdd, Nat.reduceMul, Nat.reduceEqDiff, reduceIte, Nat.reduceBEq, Nat.reduceLeDiff, Nat.reduceSub, Int.reduceToNat]
  refine CondH.mk (fun c1 => ?_) (fun c1 => ?_)
  · replace h := run_t c1 h
    simp -dsimp -implicitDefEqProofs -failIfUnchanged only [↓RA, RB, RS, fx36, cast0, cast1, cast2, implies_true, Nat.reduceLT, Nat.reduceAdd, Nat.reduceMul, Nat.reduceEqDiff, reduceIte, Nat.reduceBEq, Nat.reduceLeDiff, Nat.reduceSub, Int.reduceToNat, c1]
    refine Mg.know_sl (b := false) (sz := 1) (es := a0.map I) 0 (by simp -dsimp -implicitDefEqProofs -failIfUnchanged only [↓RA, RB, RS, fx36, cast0, cast1, cast2, implies_true, Nat.reduceLT, Nat.reduceAdd, Nat.reduceMul, Nat.reduceEqDiff, reduceIte, Nat.reduceBEq, Nat.reduceLeDiff, Nat.reduceSub, Int.reduceToNat, c1]) fun hl0 => ?_; rw [List.length_map] at hl0
    replace h := run_loop h
    refine Mg.forN h (fun i4 s4 => [(0, .val (.pv (.sl false 1 (a0.map I)))), (1, .val (.pv (.sl false 1 (a1.map I)))), (5, .val (.pv (I (i4 : Int))))]) (fun i4 s4 => []) (St.le_mk (by simp -dsimp -implicitDefEqProofs -failIfUnchanged only [↓RA, RB, RS, fx36, cast0, cast1, cast2, implies_true, Nat.reduceLT, Nat.reduceAdd, Nat.reduceMul, Nat.reduceEqDiff, reduceIte, Nat.reduceBEq, Nat.reduceLeDiff, Nat.reduceSub, Int.reduceToNat, c1]) (by simp -dsimp -implicitDefEqProofs -failIfUnchanged only [↓RA, RB, RS, fx36, cast0, cast1, cast2, implies_true, Nat.reduceLT, Nat.reduceAdd, Nat.reduceMul, Nat.reduceEqDiff, reduceIte, Nat.reduceBEq, Nat.reduceLeDiff, Nat.reduceSub, Int.reduceToNat, c1])) (fun i4 s4 hi h => ?_) (fun s4 h => ?_)
    · have w4 := wrap_succ (i := i4) (by omega)
      simp -dsimp -implicitDefEqProofs -failIfUnchanged only [↓RA, RB, RS, fx36, cast0, cast1, cast2, implies_true, Nat.reduceLT, Nat.reduceAdd, Nat.reduceMul, Nat.reduceEqDiff, reduceIte, Nat.reduceBEq, Nat.reduceLeDiff, Nat.reduceSub, Int.reduceToNat, c1]
      refine CondH.tt (decide_eq_true (by omega)) (fun c2 => ?_)
      simp -dsimp -implicitDefEqProofs -failIfUnchanged only [↓RA, RB, RS, fx36, cast0, cast1, cast2, implies_true, Nat.reduceLT, Nat.reduceAdd, Nat.reduceMul, Nat.reduceEqDiff, reduceIte, Nat.reduceBEq, Nat.reduceLeDiff, Nat.reduceSub, Int.reduceToNat, c1, c2]
      obtain ⟨v19, hv19, h⟩ := run_bind h
      refine IdxH.mk (f := I) hv19 (by simp -dsimp -implicitDefEqProofs -failIfUnchanged only [↓RA, RB, RS, fx36, cast0, cast1, cast2, implies_true, Nat.reduceLT, Nat.reduceAdd, Nat.reduceMul, Nat.reduceEqDiff, reduceIte, Nat.reduceBEq, Nat.reduceLeDiff, Nat.reduceSub, Int.reduceToNat, c1, c2]) ?_
      simp -dsimp -implicitDefEqProofs -failIfUnchanged only [↓RA, RB, RS, fx36, cast0, cast1, cast2, implies_true, Nat.reduceLT, Nat.reduceAdd, Nat.reduceMul, Nat.reduceEqDiff, reduceIte, Nat.reduceBEq, Nat.reduceLeDiff, Nat.reduceSub, Int.reduceToNat, c1, c2]
      obtain ⟨v23, hv23, h⟩ := run_bind h
      refine IdxH.mk (f := I) hv23 (by simp -dsimp -implicitDefEqProofs -failIfUnchanged only [↓RA, RB, RS, fx36, cast0, cast1, cast2, implies_true, Nat.reduceLT, Nat.reduceAdd, Nat.reduceMul, Nat.reduceEqDiff, reduceIte, Nat.reduceBEq, Nat.reduceLeDiff, Nat.reduceSub, Int.reduceToNat, c1, c2]) ?_
      simp -dsimp -implicitDefEqProofs -failIfUnchanged only [↓RA, RB, RS, fx36, cast0, cast1, cast2, implies_true, Nat.reduceLT, Nat.reduceAdd, Nat.reduceMul, Nat.reduceEqDiff, reduceIte, Nat.reduceBEq, Nat.reduceLeDiff, Nat.reduceSub, Int.reduceToNat, c1, c2]
      refine And.intro (DrawH.none (by rfl) (by first | rfl | (simp -dsimp -implicitDefEqProofs -failIfUnchanged only [↓RA, RB, RS, fx36, cast0, cast1, cast2, implies_true, Nat.reduceLT, Nat.reduceAdd, Nat.reduceMul, Nat.reduceEqDiff, reduceIte, Nat.reduceBEq, Nat.reduceLeDiff, Nat.reduceSub, Int.reduceToNat] <;> rfl)) (by first | rfl | (simp -dsimp -implicitDefEqProofs -failIfUnchanged only [↓RA, RB, RS, fx36, cast0, cast1, cast2, implies_true, Nat.reduceLT, Nat.reduceAdd, Nat.reduceMul, Nat.reduceEqDiff, reduceIte, Nat.reduceBEq, Nat.reduceLeDiff, Nat.reduceSub, Int.reduceToNat] <;> rfl)) (by first | rfl | (simp -dsimp -implicitDefEqProofs -failIfUnchanged only [↓RA, RB, RS, fx36, cast0, cast1, cast2, implies_true, Nat.reduceLT, Nat.reduceAdd, Nat.reduceMul, Nat.reduceEqDiff, reduceIte, Nat.reduceBEq, Nat.reduceLeDiff, Nat.reduceSub, Int.reduceToNat] <;> rfl))) ?_
      simp -dsimp -implicitDefEqProofs -failIfUnchanged only [↓RA, RB, RS, fx36, cast0, cast1, cast2, implies_true, Nat.reduceLT, Nat.reduceAdd, Nat.reduceMul, Nat.reduceEqDiff, reduceIte, Nat.reduceBEq, Nat.reduceLeDiff, Nat.reduceSub, Int.reduceToNat, c1, c2]
      refine CondH.mk (fun c3 => ?_) (fun c3 => ?_)
      · replace h := run_t c3 h
        simp -dsimp -implicitDefEqProofs -failIfUnchanged only [↓RA, RB, RS, fx36, cast0, cast1, cast2, implies_true, Nat.reduceLT, Nat.reduceAdd, Nat.reduceMul, Nat.reduceEqDiff, reduceIte, Nat.reduceBEq, Nat.reduceLeDiff, Nat.reduceSub, Int.reduceToNat, c1, c2, c3]
        have h := run_some h
        refine RdH.mk ⟨_, h, ?_⟩
        refine St.le_mk ?_ ?_
        · simp -dsimp -implicitDefEqProofs -failIfUnchanged only [↓RA, RB, RS, fx36, cast0, cast1, cast2, implies_true, Nat.reduceLT, Nat.reduceAdd, Nat.reduceMul, Nat.reduceEqDiff, reduceIte, Nat.reduceBEq, Nat.reduceLeDiff, Nat.reduceSub, Int.reduceToNat, c1, c2, c3, w4]
        · simp -dsimp -implicitDefEqProofs -failIfUnchanged only [↓RA, RB, RS, fx36, cast0, cast1, cast2, implies_true, Nat.reduceLT, Nat.reduceAdd, Nat.reduceMul, Nat.reduceEqDiff, reduceIte, Nat.reduceBEq, Nat.reduceLeDiff, Nat.reduceSub, Int.reduceToNat, c1, c2, c3, w4]
      · replace h := run_f c3 h
        simp -dsimp -implicitDefEqProofs -failIfUnchanged only [↓RA, RB, RS, fx36, cast0, cast1, cast2, implies_true, Nat.reduceLT, Nat.reduceAdd, Nat.reduceMul, Nat.reduceEqDiff, reduceIte, Nat.reduceBEq, Nat.reduceLeDiff, Nat.reduceSub, Int.reduceToNat, c1, c2, c3]
        have h := run_some h
        obtain rfl : _ = r := h
        refine FinH.l ?_
        simp -dsimp -implicitDefEqProofs -failIfUnchanged only [↓RA, RB, RS, fx36, cast0, cast1, cast2, implies_true, Nat.reduceLT, Nat.reduceAdd, Nat.reduceMul, Nat.reduceEqDiff, reduceIte, Nat.reduceBEq, Nat.reduceLeDiff, Nat.reduceSub, Int.reduceToNat]
    · simp -dsimp -implicitDefEqProofs -failIfUnchanged only [↓RA, RB, RS, fx36, cast0, cast1, cast2, implies_true, Nat.reduceLT, Nat.reduceAdd, Nat.reduceMul, Nat.reduceEqDiff, reduceIte, Nat.reduceBEq, Nat.reduceLeDiff, Nat.reduceSub, Int.reduceToNat, c1]
      refine CondH.ff (decide_eq_false (by omega)) (fun c4 => ?_)
      simp -dsimp -implicitDefEqProofs -failIfUnchanged only [↓RA, RB, RS, fx36, cast0, cast1, cast2, implies_true, Nat.reduceLT, Nat.reduceAdd, Nat.reduceMul, Nat.reduceEqDiff, reduceIte, Nat.reduceBEq, Nat.reduceLeDiff, Nat.reduceSub, Int.reduceToNat, c1, c4]
      have h := run_some h
      obtain rfl : _ = r := h
      refine FinH.l ?_
      simp -dsimp -implicitDefEqProofs -failIfUnchanged only [↓RA, RB, RS, fx36, cast0, cast1, cast2, implies_true, Nat.reduceLT, Nat.reduceAdd, Nat.reduceMul, Nat.reduceEqDiff, reduceIte, Nat.reduceBEq, Nat.reduceLeDiff, Nat.reduceSub, Int.reduceToNat]
  · replace h := run_f c1 h
    simp -dsimp -implicitDefEqProofs -failIfUnchanged only [↓RA, RB, RS, fx36, cast0, cast1, cast2, implies_true, Nat.reduceLT, Nat.reduceAdd, Nat.reduceMul, Nat.reduceEqDiff, reduceIte, Nat.reduceBEq, Nat.reduceLeDiff, Nat.reduceSub, Int.reduceToNat, c1]
    have h := run_some h
    obtain rfl : _ = r := h
    refine FinH.l ?_
    simp -dsimp -implicitDefEqProofs -failIfUnchanged only [↓RA, RB, RS, fx36, cast0, cast1, cast2, implies_true, Nat.reduceLT, Nat.reduceAdd, Nat.reduceMul, Nat.reduceEqDiff, reduceIte, Nat.reduceBEq, Nat.reduceLeDiff, Nat.reduceSub, Int.reduceToNat]

def fx119 := And.intro @ty_3 <| And.intro @zc_3 <| And.intro @z_3 <| And.intro @ty_4 <| And.intro @zc_4 <| And.intro @z_4 <| And.intro @u_4 <| And.intro @ty_103 <| And.intro @zc_103 <| And.intro @z_103 <| And.intro @fo_103_0 <| And.intro @fi_103_0 <| And.intro @ft_103_0 <| And.intro @fo_103_1 <| And.intro @fi_103_1 <| And.intro @ft_103_1 <| And.intro @fo_103_2 <| And.intro @fi_103_2 <| And.intro @ft_103_2 <| @lay_103
set_option maxHeartbeats 4000000 in
theorem eqSizeEdge_sat {a0 : SizeEdge} {a1 : SizeEdge}  {r : Bool} (h : eqSizeEdge a0 a1 = some r) : Sat Try.prog 119 [((SizeEdge.pv false) a0), ((SizeEdge.pv false) a1)] (B r) := by
  replace h := Run.of h
  unfold eqSizeEdge at h
  refine Sat.of_m (nt := 20) (rs := [.tmp 4]) (n := 100000) Try.func119 rfl rfl rfl rfl (by simp) ?_
  simp -dsimp -implicitDefEqProofs -failIfUnchanged only [↓RA, RB, RS, fx119, cast0, cast1, cast2, implies_true, Nat.reduceLT, Nat.reduceAdd, Nat.reduceMul, Nat.reduceEqDiff, reduceIte, Nat.reduceBEq, Nat.reduceLeDiff, Nat.reduceSub, Int.reduceToNat]
  repeat (first | with_reducible refine noR_and (by repeat (first | exact noR_empty _ _ | exact noR_nilS _ _ | refine noR_mk _ _ _ _ _ rfl ?_ | refine noR_mkS _ _ _ _ _ rfl ?_)) ?_ | with_reducible refine noC_and (by repeat (first | exact noC_empty _ _ (by simp -dsimp -implicitDefEqProofs -failIfUnchanged only [↓RA, RB, RS, fx119, cast0, cast1, cast2, implies_true, Nat.reduceLT, Nat.reduceAdd, Nat.reduceMul, Nat.reduceEqDiff, reduceIte, Nat.reduceBEq, Nat.reduceLeDiff, Nat.reduceSub, Int.reduceToNat]) | exact noC_nilS _ _ (by simp -dsimp -implicitDefEqProofs -failIfUnchanged only [↓RA, RB, RS, fx119, cast0, cast1, cast2, implies_true, Nat.reduceLT, Nat.reduceAdd, Nat.reduceMul, Nat.reduceEqDiff, reduceIte, Nat.reduceBEq, Nat.reduceLeDiff, Nat.reduceSub, Int.reduceToNat]) | refine noC_mk _ _ _ _ _ rfl ?_ | refine noC_mkS _ _ _ _ _ rfl ?_)) ?_ | with_reducible refine and_ac ?_ | with_reducible refine And.intro (a := _ = List.range _) (by rfl) ?_)
  refine CondH.mk (fun c1 => ?_) (fun c1 => ?_)
  · replace h := run_t c1 h
    simp -dsimp -implicitDefEqProofs -failIfUnchanged only [↓RA, RB, RS, fx119, cast0, cast1, cast2, implies_true, Nat.reduceLT, Nat.reduceAdd, Nat.reduceMul, Nat.reduceEqDiff, reduceIte, Nat.reduceBEq, Nat.reduceLeDiff, Nat.reduceSub, Int.reduceToNat, c1]
    refine CondH.mk (fun c2 => ?_) (fun c2 => ?_)
    · replace h := run_t c2 h
      simp -dsimp -implicitDefEqProofs -failIfUnchanged only [↓RA, RB, RS, fx119, cast0, cast1, cast2, implies_true, Nat.reduceLT, Nat.reduceAdd, Nat.reduceMul, Nat.reduceEqDiff, reduceIte, Nat.reduceBEq, Nat.reduceLeDiff, Nat.reduceSub, Int.reduceToNat, c1, c2]
      refine CondH.mk (fun c3 => ?_) (fun c3 => ?_)
      · replace h := run_t c3 h
        simp -dsimp -implicitDefEqProofs -failIfUnchanged only [↓RA, RB, RS, fx119, cast0, cast1, cast2, implies_true, Nat.reduceLT, Nat.reduceAdd, Nat.reduceMul, Nat.reduceEqDiff, reduceIte, Nat.reduceBEq, Nat.reduceLeDiff, Nat.reduceSub, Int.reduceToNat, c1, c2, c3]
        have h := run_some h
        obtain rfl : _ = r := h
        refine FinH.l ?_
        simp -dsimp -implicitDefEqProofs -failIfUnchanged only [↓RA, RB, RS, fx119, cast0, cast1, cast2, implies_true, Nat.reduceLT, Nat.reduceAdd, Nat.reduceMul, Nat.reduceEqDiff, reduceIte, Nat.reduceBEq, Nat.reduceLeDiff, Nat.reduceSub, Int.reduceToNat]
      · replace h := run_f c3 h
        simp -dsimp -implicitDefEqProofs -failIfUnchanged only [↓RA, RB, RS, fx119, cast0, cast1, cast2, implies_true, Nat.reduceLT, Nat.reduceAdd, Nat.reduceMul, Nat.reduceEqDiff, reduceIte, Nat.reduceBEq, Nat.reduceLeDiff, Nat.reduceSub, Int.reduceToNat, c1, c2, c3]
        have h := run_some h
        obtain rfl : _ = r := h
        refine FinH.l ?_
        simp -dsimp -implicitDefEqProofs -failIfUnchanged only [↓RA, RB, RS, fx119, cast0, cast1, cast2, implies_true, Nat.reduceLT, Nat.reduceAdd, Nat.reduceMul, Nat.reduceEqDiff, reduceIte, Nat.reduceBEq, Nat.reduceLeDiff, Nat.reduceSub, Int.reduceToNat]
    · replace h := run_f c2 h
      simp -dsimp -implicitDefEqProofs -failIfUnchanged only [↓RA, RB, RS, fx119, cast0, cast1, cast2, implies_true, Nat.reduceLT, Nat.reduceAdd, Nat.reduceMul, Nat.reduceEqDiff, reduceIte, Nat.reduceBEq, Nat.reduceLeDiff, Nat.reduceSub, Int.reduceToNat, c1, c2]
      have h := run_some h
      obtain rfl : _ = r := h
      refine FinH.l ?_
      simp -dsimp -implicitDefEqProofs -failIfUnchanged only [↓RA, RB, RS, fx119, cast0, cast1, cast2, implies_true, Nat.reduceLT, Nat.reduceAdd, Nat.reduceMul, Nat.reduceEqDiff, reduceIte, Nat.reduceBEq, Nat.reduceLeDiff, Nat.reduceSub, Int.reduceToNat]
  · replace h := run_f c1 h
    simp -dsimp -implicitDefEqProofs -failIfUnchanged only [↓RA, RB, RS, fx119, cast0, cast1, cast2, implies_true, Nat.reduceLT, Nat.reduceAdd, Nat.reduceMul, Nat.reduceEqDiff, reduceIte, Nat.reduceBEq, Nat.reduceLeDiff, Nat.reduceSub, Int.reduceToNat, c1]
    have h := run_some h
    obtain rfl : _ = r := h
    refine FinH.l ?_
    simp -dsimp -implicitDefEqProofs -failIfUnchanged only [↓RA, RB, RS, fx119, cast0, cast1, cast2, implies_true, Nat.reduceLT, Nat.reduceAdd, Nat.reduceMul, Nat.reduceEqDiff, reduceIte, Nat.reduceBEq, Nat.reduceLeDiff, Nat.reduceSub, Int.reduceToNat]

def fx74 := And.intro @ty_3 <| And.intro @zc_3 <| And.intro @z_3 <| And.intro @ty_4 <| And.intro @zc_4 <| And.intro @z_4 <| And.intro @u_4 <| And.intro @ty_43 <| And.intro @zc_43 <| And.intro @z_43 <| And.intro @es_43 <| And.intro @eb_43 <| And.intro @sl_43 <| And.intro @is_43 <| And.intro @el_43 <| And.intro @ze_43 <| And.intro @ez_43 <| And.intro @ty_103 <| And.intro @zc_103 <| And.intro @z_103 <| And.intro @fo_103_0 <| And.intro @fi_103_0 <| And.intro @ft_103_0 <| And.intro @fo_103_1 <| And.intro @fi_103_1 <| And.intro @ft_103_1 <| And.intro @fo_103_2 <| And.intro @fi_103_2 <| And.intro @ft_103_2 <| And.intro @lay_103 <| @mixedT
set_option maxHeartbeats 4000000 in
theorem eqSizeEdgeS_sat {a0 : List SizeEdge} {a1 : List SizeEdge}  {r : Bool} (h : eqSizeEdgeS a0 a1 = some r) : Sat Try.prog 74 [(.sl false 3 (a0.map (SizeEdge.pv false))), (.sl false 3 (a1.map (SizeEdge.pv false)))] (B r) := by
  replace h := Run.of h
  unfold eqSizeEdgeS at h
  refine Sat.of_m (nt := 27) (rs := [.tmp 4]) (n := 100000) Try.func74 rfl rfl rfl rfl (by simp) ?_
  simp -dsimp -implicitDefEqProofs -failIfUnchanged only [↓RA, RB, RS, fx74, cast0, cast1, cast2, implies_true, Nat.reduceLT, Nat.reduceAdd, Nat.reduceMul, Nat.reduceEqDiff, reduceIte, Nat.reduceBEq, Nat.reduceLeDiff, Nat.reduceSub, Int.reduceToNat]
  refine CondH.mk (fun c1 => ?_) (fun c1 => ?_)
  · replace h := run_t c1 h
    simp -dsimp -implicitDefEqProofs -failIfUnchanged only [↓RA, RB, RS, fx74, cast0, cast1, cast2, implies_true, Nat.reduceLT, Nat.reduceAdd, Nat.reduceMul, Nat.reduceEqDiff, reduceIte, Nat.reduceBEq, Nat.reduceLeDiff, Nat.reduceSub, Int.reduceToNat, c1]
    refine Mg.know_sl (b := false) (sz := 3) (es := a0.map (SizeEdge.pv false)) 0 (by simp -dsimp -implicitDefEqProofs -failIfUnchanged only [↓RA, RB, RS, fx74, cast0, cast1, cast2, implies_true, Nat.reduceLT, Nat.reduceAdd, Nat.reduceMul, Nat.reduceEqDiff, reduceIte, Nat.reduceBEq, Nat.reduceLeDiff, Nat.reduceSub, Int.reduceToNat, c1]) fun hl0 => ?_; rw [List.length_map] at hl0
    replace h := run_loop h
    refine Mg.forN h (fun i4 s4 => [(0, .val (.pv (.sl false 3 (a0.map (SizeEdge.pv false))))), (1, .val (.pv (.sl false 3 (a1.map (SizeEdge.pv false))))), (5, .val (.pv (I (i4 : Int))))]) (fun i4 s4 => []) (St.le_mk (by simp -dsimp -implicitDefEqProofs -failIfUnchanged only [↓RA, RB, RS, fx74, cast0, cast1, cast2, implies_true, Nat.reduceLT, Nat.reduceAdd, Nat.reduceMul, Nat.reduceEqDiff, reduceIte, Nat.reduceBEq, Nat.reduceLeDiff, Nat.reduceSub, Int.reduceToNat, c1]) (by simp -dsimp -implicitDefEqProofs -failIfUnchanged only [↓RA, RB, RS, fx74, cast0, cast1, cast2, implies_true, Nat.reduceLT, Nat.reduceAdd, Nat.reduceMul, Nat.reduceEqDiff, reduceIte, Nat.reduceBEq, Nat.reduceLeDiff, Nat.reduceSub, Int.reduceToNat, c1])) (fun i4 s4 hi h => ?_) (fun s4 h => ?_)
    · have w4 := wrap_succ (i := i4) (by omega)
      simp -dsimp -implicitDefEqProofs -failIfUnchanged only [↓RA, RB, RS, fx74, cast0, cast1, cast2, implies_true, Nat.reduceLT, Nat.reduceAdd, Nat.reduceMul, Nat.reduceEqDiff, reduceIte, Nat.reduceBEq, Nat.reduceLeDiff, Nat.reduceSub, Int.reduceToNat, c1]
      refine CondH.tt (decide_eq_true (by omega)) (fun c2 => ?_)
      simp -dsimp -implicitDefEqProofs -failIfUnchanged only [↓RA, RB, RS, fx74, cast0, cast1, cast2, implies_true, Nat.reduceLT, Nat.reduceAdd, Nat.reduceMul, Nat.reduceEqDiff, reduceIte, Nat.reduceBEq, Nat.reduceLeDiff, Nat.reduceSub, Int.reduceToNat, c1, c2]
      obtain ⟨v19, hv19, h⟩ := run_bind h
      refine IdxH.mk (f := (SizeEdge.pv false)) hv19 (by simp -dsimp -implicitDefEqProofs -failIfUnchanged only [↓RA, RB, RS, fx74, cast0, cast1, cast2, implies_true, Nat.reduceLT, Nat.reduceAdd, Nat.reduceMul, Nat.reduceEqDiff, reduceIte, Nat.reduceBEq, Nat.reduceLeDiff, Nat.reduceSub, Int.reduceToNat, c1, c2]) ?_
      simp -dsimp -implicitDefEqProofs -failIfUnchanged only [↓RA, RB, RS, fx74, cast0, cast1, cast2, implies_true, Nat.reduceLT, Nat.reduceAdd, Nat.reduceMul, Nat.reduceEqDiff, reduceIte, Nat.reduceBEq, Nat.reduceLeDiff, Nat.reduceSub, Int.reduceToNat, c1, c2]
      obtain ⟨v23, hv23, h⟩ := run_bind h
      refine IdxH.mk (f := (SizeEdge.pv false)) hv23 (by simp -dsimp -implicitDefEqProofs -failIfUnchanged only [↓RA, RB, RS, fx74, cast0, cast1, cast2, implies_true, Nat.reduceLT, Nat.reduceAdd, Nat.reduceMul, Nat.reduceEqDiff, reduceIte, Nat.reduceBEq, Nat.reduceLeDiff, Nat.reduceSub, Int.reduceToNat, c1, c2]) ?_
      simp -dsimp -implicitDefEqProofs -failIfUnchanged only [↓RA, RB, RS, fx74, cast0, cast1, cast2, implies_true, Nat.reduceLT, Nat.reduceAdd, Nat.reduceMul, Nat.reduceEqDiff, reduceIte, Nat.reduceBEq, Nat.reduceLeDiff, Nat.reduceSub, Int.reduceToNat, c1, c2]
      obtain ⟨v25, hv25, h⟩ := run_bind h
      refine CallH.mk [false, false] (eqSizeEdge_sat hv25) (by simp -dsimp -implicitDefEqProofs -failIfUnchanged only [↓RA, RB, RS, fx74, cast0, cast1, cast2, implies_true, Nat.reduceLT, Nat.reduceAdd, Nat.reduceMul, Nat.reduceEqDiff, reduceIte, Nat.reduceBEq, Nat.reduceLeDiff, Nat.reduceSub, Int.reduceToNat, c1, c2]) ?_
      simp -dsimp -implicitDefEqProofs -failIfUnchanged only [↓RA, RB, RS, fx74, cast0, cast1, cast2, implies_true, Nat.reduceLT, Nat.reduceAdd, Nat.reduceMul, Nat.reduceEqDiff, reduceIte, Nat.reduceBEq, Nat.reduceLeDiff, Nat.reduceSub, Int.reduceToNat, c1, c2]
      refine And.intro (DrawH.none (by rfl) (by first | rfl | (simp -dsimp -implicitDefEqProofs -failIfUnchanged only [↓RA, RB, RS, fx74, cast0, cast1, cast2, implies_true, Nat.reduceLT, Nat.reduceAdd, Nat.reduceMul, Nat.reduceEqDiff, reduceIte, Nat.reduceBEq, Nat.reduceLeDiff, Nat.reduceSub, Int.reduceToNat] <;> rfl)) (by first | rfl | (simp -dsimp -implicitDefEqProofs -failIfUnchanged only [↓RA, RB, RS, fx74, cast0, cast1, cast2, implies_true, Nat.reduceLT, Nat.reduceAdd, Nat.reduceMul, Nat.reduceEqDiff, reduceIte, Nat.reduceBEq, Nat.reduceLeDiff, Nat.reduceSub, Int.reduceToNat] <;> rfl)) (by first | rfl | (simp -dsimp -implicitDefEqProofs -failIfUnchanged only [↓RA, RB, RS, fx74, cast0, cast1, cast2, implies_true, Nat.reduceLT, Nat.reduceAdd, Nat.reduceMul, Nat.reduceEqDiff, reduceIte, Nat.reduceBEq, Nat.reduceLeDiff, Nat.reduceSub, Int.reduceToNat] <;> rfl))) ?_
      simp -dsimp -implicitDefEqProofs -failIfUnchanged only [↓RA, RB, RS, fx74, cast0, cast1, cast2, implies_true, Nat.reduceLT, Nat.reduceAdd, Nat.reduceMul, Nat.reduceEqDiff, reduceIte, Nat.reduceBEq, Nat.reduceLeDiff, Nat.reduceSub, Int.reduceToNat, c1, c2]
      refine CondH.mk (fun c3 => ?_) (fun c3 => ?_)
      · replace h := run_t c3 h
        simp -dsimp -implicitDefEqProofs -failIfUnchanged only [↓RA, RB, RS, fx74, cast0, cast1, cast2, implies_true, Nat.reduceLT, Nat.reduceAdd, Nat.reduceMul, Nat.reduceEqDiff, reduceIte, Nat.reduceBEq, Nat.reduceLeDiff, Nat.reduceSub, Int.reduceToNat, c1, c2, c3]
        have h := run_some h
        refine RdH.mk ⟨_, h, ?_⟩
        refine St.le_mk ?_ ?_
        · simp -dsimp -implicitDefEqProofs -failIfUnchanged only [↓RA, RB, RS, fx74, cast0, cast1, cast2, implies_true, Nat.reduceLT, Nat.reduceAdd, Nat.reduceMul, Nat.reduceEqDiff, reduceIte, Nat.reduceBEq, Nat.reduceLeDiff, Nat.reduceSub, Int.reduceToNat, c1, c2, c3, w4]
        · simp -dsimp -implicitDefEqProofs -failIfUnchanged only [↓RA, RB, RS, fx74, cast0, cast1, cast2, implies_true, Nat.reduceLT, Nat.reduceAdd, Nat.reduceMul, Nat.reduceEqDiff, reduceIte, Nat.reduceBEq, Nat.reduceLeDiff, Nat.reduceSub, Int.reduceToNat, c1, c2, c3, w4]
      · replace h := run_f c3 h
        simp -dsimp -implicitDefEqProofs -failIfUnchanged only [↓RA, RB, RS, fx74, cast0, cast1, cast2, implies_true, Nat.reduceLT, Nat.reduceAdd, Nat.reduceMul, Nat.reduceEqDiff, reduceIte, Nat.reduceBEq, Nat.reduceLeDiff, Nat.reduceSub, Int.reduceToNat, c1, c2, c3]
        have h := run_some h
        obtain rfl : _ = r := h
        refine FinH.l ?_
        simp -dsimp -implicitDefEqProofs -failIfUnchanged only [↓RA, RB, RS, fx74, cast0, cast1, cast2, implies_true, Nat.reduceLT, Nat.reduceAdd, Nat.reduceMul, Nat.reduceEqDiff, reduceIte, Nat.reduceBEq, Nat.reduceLeDiff, Nat.reduceSub, Int.reduceToNat]
    · simp -dsimp -implicitDefEqProofs -failIfUnchanged only [↓RA, RB, RS, fx74, cast0, cast1, cast2, implies_true, Nat.reduceLT, Nat.reduceAdd, Nat.reduceMul, Nat.reduceEqDiff, reduceIte, Nat.reduceBEq, Nat.reduceLeDiff, Nat.reduceSub, Int.reduceToNat, c1]
      refine CondH.ff (decide_eq_false (by omega)) (fun c4 => ?_)
      simp -dsimp -implicitDefEqProofs -failIfUnchanged only [↓RA, RB, RS, fx74, cast0, cast1, cast2, implies_true, Nat.reduceLT, Nat.reduceAdd, Nat.reduceMul, Nat.reduceEqDiff, reduceIte, Nat.reduceBEq, Nat.reduceLeDiff, Nat.reduceSub, Int.reduceToNat, c1, c4]
      have h := run_some h
      obtain rfl : _ = r := h
      refine FinH.l ?_
      simp -dsimp -implicitDefEqProofs -failIfUnchanged only [↓RA, RB, RS, fx74, cast0, cast1, cast2, implies_true, Nat.reduceLT, Nat.reduceAdd, Nat.reduceMul, Nat.reduceEqDiff, reduceIte, Nat.reduceBEq, Nat.reduceLeDiff, Nat.reduceSub, Int.reduceToNat]
  · replace h := run_f c1 h
    simp -dsimp -implicitDefEqProofs -failIfUnchanged only [↓RA, RB, RS, fx74, cast0, cast1, cast2, implies_true, Nat.reduceLT, Nat.reduceAdd, Nat.reduceMul, Nat.reduceEqDiff, reduceIte, Nat.reduceBEq, Nat.reduceLeDiff, Nat.reduceSub, Int.reduceToNat, c1]
    have h := run_some h
    obtain rfl : _ = r := h
    refine FinH.l ?_
    simp -dsimp -implicitDefEqProofs -failIfUnchanged only [↓RA, RB, RS, fx74, cast0, cast1, cast2, implies_true, Nat.reduceLT, Nat.reduceAdd, Nat.reduceMul, Nat.reduceEqDiff, reduceIte, Nat.reduceBEq, Nat.reduceLeDiff, Nat.reduceSub, Int.reduceToNat]

def fx27 := And.intro @ty_3 <| And.intro @zc_3 <| And.intro @z_3 <| And.intro @ty_4 <| And.intro @zc_4 <| And.intro @z_4 <| And.intro @u_4 <| And.intro @ty_43 <| And.intro @zc_43 <| And.intro @z_43 <| And.intro @es_43 <| And.intro @eb_43 <| And.intro @sl_43 <| And.intro @is_43 <| And.intro @el_43 <| And.intro @ze_43 <| And.intro @ez_43 <| And.intro @ty_45 <| And.intro @zc_45 <| And.intro @z_45 <| And.intro @fo_45_0 <| And.intro @fi_45_0 <| And.intro @ft_45_0 <| And.intro @fo_45_1 <| And.intro @fi_45_1 <| And.intro @ft_45_1 <| And.intro @fo_45_2 <| And.intro @fi_45_2 <| And.intro @ft_45_2 <| @lay_45
set_option maxHeartbeats 4000000 in
theorem eqSizeGraph_sat {a0 : SizeGraph} {a1 : SizeGraph}  {r : Bool} (h : eqSizeGraph a0 a1 = some r) : Sat Try.prog 27 [((SizeGraph.pv false) a0), ((SizeGraph.pv false) a1)] (B r) := by
  replace h := Run.of h
  unfold eqSizeGraph at h
  refine Sat.of_m (nt := 21) (rs := [.tmp 4]) (n := 100000) Try.func27 rfl rfl rfl rfl (by simp) ?_
  simp -dsimp -implicitDefEqProofs -failIfUnchanged only [↓RA, RB, RS, fx27, cast0, cast1, cast2, implies_true, Nat.reduceLT, Nat.reduceAdd, Nat.reduceMul, Nat.reduceEqDiff, reduceIte, Nat.reduceBEq, Nat.reduceLeDiff, Nat.reduceSub, Int.reduceToNat]
  repeat (first | with_reducible refine noR_and (by repeat (first | exact noR_empty _ _ | exact noR_nilS _ _ | refine noR_mk _ _ _ _ _ rfl ?_ | refine noR_mkS _ _ _ _ _ rfl ?_)) ?_ | with_reducible refine noC_and (by repeat (first | exact noC_empty _ _ (by simp -dsimp -implicitDefEqProofs -failIfUnchanged only [↓RA, RB, RS, fx27, cast0, cast1, cast2, implies_true, Nat.reduceLT, Nat.reduceAdd, Nat.reduceMul, Nat.reduceEqDiff, reduceIte, Nat.reduceBEq, Nat.reduceLeDiff, Nat.reduceSub, Int.reduceToNat]) | exact noC_nilS _ _ (by simp -dsimp -implicitDefEqProofs -failIfUnchanged only [↓RA, RB, RS, fx27, cast0, cast1, cast2, implies_true, Nat.reduceLT, Nat.reduceAdd, Nat.reduceMul, Nat.reduceEqDiff, reduceIte, Nat.reduceBEq, Nat.reduceLeDiff, Nat.reduceSub, Int.reduceToNat]) | refine noC_mk _ _ _ _ _ rfl ?_ | refine noC_mkS _ _ _ _ _ rfl ?_)) ?_ | with_reducible refine and_ac ?_ | with_reducible refine And.intro (a := _ = List.range _) (by rfl) ?_)
  refine CondH.mk (fun c1 => ?_) (fun c1 => ?_)
  · replace h := run_t c1 h
    simp -dsimp -implicitDefEqProofs -failIfUnchanged only [↓RA, RB, RS, fx27, cast0, cast1, cast2, implies_true, Nat.reduceLT, Nat.reduceAdd, Nat.reduceMul, Nat.reduceEqDiff, reduceIte, Nat.reduceBEq, Nat.reduceLeDiff, Nat.reduceSub, Int.reduceToNat, c1]
    refine CondH.mk (fun c2 => ?_) (fun c2 => ?_)
    · replace h := run_t c2 h
      simp -dsimp -implicitDefEqProofs -failIfUnchanged only [↓RA, RB, RS, fx27, cast0, cast1, cast2, implies_true, Nat.reduceLT, Nat.reduceAdd, Nat.reduceMul, Nat.reduceEqDiff, reduceIte, Nat.reduceBEq, Nat.reduceLeDiff, Nat.reduceSub, Int.reduceToNat, c1, c2]
      obtain ⟨v19, hv19, h⟩ := run_bind h
      refine CallH.mk [false, false] (eqSizeEdgeS_sat hv19) (by simp -dsimp -implicitDefEqProofs -failIfUnchanged only [↓RA, RB, RS, fx27, cast0, cast1, cast2, implies_true, Nat.reduceLT, Nat.reduceAdd, Nat.reduceMul, Nat.reduceEqDiff, reduceIte, Nat.reduceBEq, Nat.reduceLeDiff, Nat.reduceSub, Int.reduceToNat, c1, c2]) ?_
      simp -dsimp -implicitDefEqProofs -failIfUnchanged only [↓RA, RB, RS, fx27, cast0, cast1, cast2, implies_true, Nat.reduceLT, Nat.reduceAdd, Nat.reduceMul, Nat.reduceEqDiff, reduceIte, Nat.reduceBEq, Nat.reduceLeDiff, Nat.reduceSub, Int.reduceToNat, c1, c2]
      refine CondH.mk (fun c3 => ?_) (fun c3 => ?_)
      · replace h := run_t c3 h
        simp -dsimp -implicitDefEqProofs -failIfUnchanged only [↓RA, RB, RS, fx27, cast0, cast1, cast2, implies_true, Nat.reduceLT, Nat.reduceAdd, Nat.reduceMul, Nat.reduceEqDiff, reduceIte, Nat.reduceBEq, Nat.reduceLeDiff, Nat.reduceSub, Int.reduceToNat, c1, c2, c3]
        have h := run_some h
        obtain rfl : _ = r := h
        refine FinH.l ?_
        simp -dsimp -implicitDefEqProofs -failIfUnchanged only [↓RA, RB, RS, fx27, cast0, cast1, cast2, implies_true, Nat.reduceLT, Nat.reduceAdd, Nat.reduceMul, Nat.reduceEqDiff, reduceIte, Nat.reduceBEq, Nat.reduceLeDiff, Nat.reduceSub, Int.reduceToNat]
      · replace h := run_f c3 h
        simp -dsimp -implicitDefEqProofs -failIfUnchanged only [↓RA, RB, RS, fx27, cast0, cast1, cast2, implies_true, Nat.reduceLT, Nat.reduceAdd, Nat.reduceMul, Nat.reduceEqDiff, reduceIte, Nat.reduceBEq, Nat.reduceLeDiff, Nat.reduceSub, Int.reduceToNat, c1, c2, c3]
        have h := run_some h
        obtain rfl : _ = r := h
        refine FinH.l ?_
        simp -dsimp -implicitDefEqProofs -failIfUnchanged only [↓RA, RB, RS, fx27, cast0, cast1, cast2, implies_true, Nat.reduceLT, Nat.reduceAdd, Nat.reduceMul, Nat.reduceEqDiff, reduceIte, Nat.reduceBEq, Nat.reduceLeDiff, Nat.reduceSub, Int.reduceToNat]
    · replace h := run_f c2 h
      simp -dsimp -implicitDefEqProofs -failIfUnchanged only [↓RA, RB, RS, fx27, cast0, cast1, cast2, implies_true, Nat.reduceLT, Nat.reduceAdd, Nat.reduceMul, Nat.reduceEqDiff, reduceIte, Nat.reduceBEq, Nat.reduceLeDiff, Nat.reduceSub, Int.reduceToNat, c1, c2]
      have h := run_some h
      obtain rfl : _ = r := h
      refine FinH.l ?_
      simp -dsimp -implicitDefEqProofs -failIfUnchanged only [↓RA, RB, RS, fx27, cast0, cast1, cast2, implies_true, Nat.reduceLT, Nat.reduceAdd, Nat.reduceMul, Nat.reduceEqDiff, reduceIte, Nat.reduceBEq, Nat.reduceLeDiff, Nat.reduceSub, Int.reduceToNat]
  · replace h := run_f c1 h
    simp -dsimp -implicitDefEqProofs -failIfUnchanged only [↓RA, RB, RS, fx27, cast0, cast1, cast2, implies_true, Nat.reduceLT, Nat.reduceAdd, Nat.reduceMul, Nat.reduceEqDiff, reduceIte, Nat.reduceBEq, Nat.reduceLeDiff, Nat.reduceSub, Int.reduceToNat, c1]
    have h := run_some h
    obtain rfl : _ = r := h
    refine FinH.l ?_
    simp -dsimp -implicitDefEqProofs -failIfUnchanged only [↓RA, RB, RS, fx27, cast0, cast1, cast2, implies_true, Nat.reduceLT, Nat.reduceAdd, Nat.reduceMul, Nat.reduceEqDiff, reduceIte, Nat.reduceBEq, Nat.reduceLeDiff, Nat.reduceSub, Int.reduceToNat]

def fx98 := And.intro @ty_3 <| And.intro @zc_3 <| And.intro @z_3 <| And.intro @ty_4 <| And.intro @zc_4 <| And.intro @z_4 <| And.intro @u_4 <| And.intro @ty_45 <| And.intro @zc_45 <| And.intro @z_45 <| And.intro @fo_45_0 <| And.intro @fi_45_0 <| And.intro @ft_45_0 <| And.intro @fo_45_1 <| And.intro @fi_45_1 <| And.intro @ft_45_1 <| And.intro @fo_45_2 <| And.intro @fi_45_2 <| And.intro @ft_45_2 <| And.intro @lay_45 <| And.intro @ty_75 <| And.intro @zc_75 <| And.intro @z_75 <| And.intro @es_75 <| And.intro @eb_75 <| And.intro @sl_75 <| And.intro @is_75 <| And.intro @el_75 <| And.intro @ze_75 <| And.intro @ez_75 <| @mixedT
set_option maxHeartbeats 4000000 in
theorem eqSizeGraphS_sat {a0 : List SizeGraph} {a1 : List SizeGraph}  {r : Bool} (h : eqSizeGraphS a0 a1 = some r) : Sat Try.prog 98 [(.sl false 3 (a0.map (SizeGraph.pv false))), (.sl false 3 (a1.map (SizeGraph.pv false)))] (B r) := by
  replace h := Run.of h
  unfold eqSizeGraphS at h
  refine Sat.of_m (nt := 27) (rs := [.tmp 4]) (n := 100000) Try.func98 rfl rfl rfl rfl (by simp) ?_
  simp -dsimp -implicitDefEqProofs -failIfUnchanged only [↓RA, RB, RS, fx98, cast0, cast1, cast2, implies_true, Nat.reduceLT, Nat.reduceAdd, Nat.reduceMul, Nat.reduceEqDiff, reduceIte, Nat.reduceBEq, Nat.reduceLeDiff, Nat.reduceSub, Int.reduceToNat]
  refine CondH.mk (fun c1 => ?_) (fun c1 => ?_)
  · replace h := run_t c1 h
    simp -dsimp -implicitDefEqProofs -failIfUnchanged only [↓RA, RB, RS, fx98, cast0, cast1, cast2, implies_true, Nat.reduceLT, Nat.reduceAdd, Nat.reduceMul, Nat.reduceEqDiff, reduceIte, Nat.reduceBEq, Nat.reduceLeDiff, Nat.reduceSub, Int.reduceToNat, c1]
    refine Mg.know_sl (b := false) (sz := 3) (es := a0.map (SizeGraph.pv false)) 0 (by simp -dsimp -implicitDefEqProofs -failIfUnchanged only [↓RA, RB, RS, fx98, cast0, cast1, cast2, implies_true, Nat.reduceLT, Nat.reduceAdd, Nat.reduceMul, Nat.reduceEqDiff, reduceIte, Nat.reduceBEq, Nat.reduceLeDiff, Nat.reduceSub, Int.reduceToNat, c1]) fun hl0 => ?_; rw [List.length_map] at hl0
    replace h := run_loop h
    refine Mg.forN h (fun i4 s4 => [(0, .val (.pv (.sl false 3 (a0.map (SizeGraph.pv false))))), (1, .val (.pv (.sl false 3 (a1.map (SizeGraph.pv false))))), (5, .val (.pv (I (i4 : Int))))]) (fun i4 s4 => []) (St.le_mk (by simp -dsimp -implicitDefEqProofs -failIfUnchanged only [↓RA, RB, RS, fx98, cast0, cast1, cast2, implies_true, Nat.reduceLT, Nat.reduceAdd, Nat.reduceMul, Nat.reduceEqDiff, reduceIte, Nat.reduceBEq, Nat.reduceLeDiff, Nat.reduceSub, Int.reduceToNat, c1]) (by simp -dsimp -implicitDefEqProofs -failIfUnchanged only [↓RA, RB, RS, fx98, cast0, cast1, cast2, implies_true, Nat.reduceLT, Nat.reduceAdd, Nat.reduceMul, Nat.reduceEqDiff, reduceIte, Nat.reduceBEq, Nat.reduceLeDiff, Nat.reduceSub, Int.reduceToNat, c1])) (fun i4 s4 hi h => ?_) (fun s4 h => ?_)
    · have w4 := wrap_succ (i := i4) (by omega)
      simp -dsimp -implicitDefEqProofs -failIfUnchanged only [↓RA, RB, RS, fx98, cast0, cast1, cast2, implies_true, Nat.reduceLT, Nat.reduceAdd, Nat.reduceMul, Nat.reduceEqDiff, reduceIte, Nat.reduceBEq, Nat.reduceLeDiff, Nat.reduceSub, Int.reduceToNat, c1]
      refine CondH.tt (decide_eq_true (by omega)) (fun c2 => ?_)
      simp -dsimp -implicitDefEqProofs -failIfUnchanged only [↓RA, RB, RS, fx98, cast0, cast1, cast2, implies_true, Nat.reduceLT, Nat.reduceAdd, Nat.reduceMul, Nat.reduceEqDiff, reduceIte, Nat.reduceBEq, Nat.reduceLeDiff, Nat.reduceSub, Int.reduceToNat, c1, c2]
      obtain ⟨v19, hv19, h⟩ := run_bind h
      refine IdxH.mk (f := (SizeGraph.pv false)) hv19 (by simp -dsimp -implicitDefEqProofs -failIfUnchanged only [↓RA, RB, RS, fx98, cast0, cast1, cast2, implies_true, Nat.reduceLT, Nat.reduceAdd, Nat.reduceMul, Nat.reduceEqDiff, reduceIte, Nat.reduceBEq, Nat.reduceLeDiff, Nat.reduceSub, Int.reduceToNat, c1, c2]) ?_
      simp -dsimp -implicitDefEqProofs -failIfUnchanged only [↓RA, RB, RS, fx98, cast0, cast1, cast2, implies_true, Nat.reduceLT, Nat.reduceAdd, Nat.reduceMul, Nat.reduceEqDiff, reduceIte, Nat.reduceBEq, Nat.reduceLeDiff, Nat.reduceSub, Int.reduceToNat, c1, c2]
      obtain ⟨v23, hv23, h⟩ := run_bind h
      refine IdxH.mk (f := (SizeGraph.pv false)) hv23 (by simp -dsimp -implicitDefEqProofs -failIfUnchanged only [↓RA, RB, RS, fx98, cast0, cast1, cast2, implies_true, Nat.reduceLT, Nat.reduceAdd, Nat.reduceMul, Nat.reduceEqDiff, reduceIte, Nat.reduceBEq, Nat.reduceLeDiff, Nat.reduceSub, Int.reduceToNat, c1, c2]) ?_
      simp -dsimp -implicitDefEqProofs -failIfUnchanged only [↓RA, RB, RS, fx98, cast0, cast1, cast2, implies_true, Nat.reduceLT, Nat.reduceAdd, Nat.reduceMul, Nat.reduceEqDiff, reduceIte, Nat.reduceBEq, Nat.reduceLeDiff, Nat.reduceSub, Int.reduceToNat, c1, c2]
      obtain ⟨v25, hv25, h⟩ := run_bind h
      refine CallH.mk [false, false] (eqSizeGraph_sat hv25) (by simp -dsimp -implicitDefEqProofs -failIfUnchanged only [↓RA, RB, RS, fx98, cast0, cast1, cast2, implies_true, Nat.reduceLT, Nat.reduceAdd, Nat.reduceMul, Nat.reduceEqDiff, reduceIte, Nat.reduceBEq, Nat.reduceLeDiff, Nat.reduceSub, Int.reduceToNat, c1, c2]) ?_
      simp -dsimp -implicitDefEqProofs -failIfUnchanged only [↓RA, RB, RS, fx98, cast0, cast1, cast2, implies_true, Nat.reduceLT, Nat.reduceAdd, Nat.reduceMul, Nat.reduceEqDiff, reduceIte, Nat.reduceBEq, Nat.reduceLeDiff, Nat.reduceSub, Int.reduceToNat, c1, c2]
      refine And.intro (DrawH.none (by rfl) (by first | rfl | (simp -dsimp -implicitDefEqProofs -failIfUnchanged only [↓RA, RB, RS, fx98, cast0, cast1, cast2, implies_true, Nat.reduceLT, Nat.reduceAdd, Nat.reduceMul, Nat.reduceEqDiff, reduceIte, Nat.reduceBEq, Nat.reduceLeDiff, Nat.reduceSub, Int.reduceToNat] <;> rfl)) (by first | rfl | (simp -dsimp -implicitDefEqProofs -failIfUnchanged only [↓RA, RB, RS, fx98, cast0, cast1, cast2, implies_true, Nat.reduceLT, Nat.reduceAdd, Nat.reduceMul, Nat.reduceEqDiff, reduceIte, Nat.reduceBEq, Nat.reduceLeDiff, Nat.reduceSub, Int.reduceToNat] <;> rfl)) (by first | rfl | (simp -dsimp -implicitDefEqProofs -failIfUnchanged only [↓RA, RB, RS, fx98, cast0, cast1, cast2, implies_true, Nat.reduceLT, Nat.reduceAdd, Nat.reduceMul, Nat.reduceEqDiff, reduceIte, Nat.reduceBEq, Nat.reduceLeDiff, Nat.reduceSub, Int.reduceToNat] <;> rfl))) ?_
      simp -dsimp -implicitDefEqProofs -failIfUnchanged only [↓RA, RB, RS, fx98, cast0, cast1, cast2, implies_true, Nat.reduceLT, Nat.reduceAdd, Nat.reduceMul, Nat.reduceEqDiff, reduceIte, Nat.reduceBEq, Nat.reduceLeDiff, Nat.reduceSub, Int.reduceToNat, c1, c2]
      refine CondH.mk (fun c3 => ?_) (fun c3 => ?_)
      · replace h := run_t c3 h
        simp -dsimp -implicitDefEqProofs -failIfUnchanged only [↓RA, RB, RS, fx98, cast0, cast1, cast2, implies_true, Nat.reduceLT, Nat.reduceAdd, Nat.reduceMul, Nat.reduceEqDiff, reduceIte, Nat.reduceBEq, Nat.reduceLeDiff, Nat.reduceSub, Int.reduceToNat, c1, c2, c3]
        have h := run_some h
        refine RdH.mk ⟨_, h, ?_⟩
        refine St.le_mk ?_ ?_
        · simp -dsimp -implicitDefEqProofs -failIfUnchanged only [↓RA, RB, RS, fx98, cast0, cast1, cast2, implies_true, Nat.reduceLT, Nat.reduceAdd, Nat.reduceMul, Nat.reduceEqDiff, reduceIte, Nat.reduceBEq, Nat.reduceLeDiff, Nat.reduceSub, Int.reduceToNat, c1, c2, c3, w4]
        · simp -dsimp -implicitDefEqProofs -failIfUnchanged only [↓RA, RB, RS, fx98, cast0, cast1, cast2, implies_true, Nat.reduceLT, Nat.reduceAdd, Nat.reduceMul, Nat.reduceEqDiff, reduceIte, Nat.reduceBEq, Nat.reduceLeDiff, Nat.reduceSub, Int.reduceToNat, c1, c2, c3, w4]
      · replace h := run_f c3 h
        simp -dsimp -implicitDefEqProofs -failIfUnchanged only [↓RA, RB, RS, fx98, cast0, cast1, cast2, implies_true, Nat.reduceLT, Nat.reduceAdd, Nat.reduceMul, Nat.reduceEqDiff, reduceIte, Nat.reduceBEq, Nat.reduceLeDiff, Nat.reduceSub, Int.reduceToNat, c1, c2, c3]
        have h := run_some h
        obtain rfl : _ = r := h
        refine FinH.l ?_
        simp -dsimp -implicitDefEqProofs -failIfUnchanged only [↓RA, RB, RS, fx98, cast0, cast1, cast2, implies_true, Nat.reduceLT, Nat.reduceAdd, Nat.reduceMul, Nat.reduceEqDiff, reduceIte, Nat.reduceBEq, Nat.reduceLeDiff, Nat.reduceSub, Int.reduceToNat]
    · simp -dsimp -implicitDefEqProofs -failIfUnchanged only [↓RA, RB, RS, fx98, cast0, cast1, cast2, implies_true, Nat.reduceLT, Nat.reduceAdd, Nat.reduceMul, Nat.reduceEqDiff, reduceIte, Nat.reduceBEq, Nat.reduceLeDiff, Nat.reduceSub, Int.reduceToNat, c1]
      refine CondH.ff (decide_eq_false (by omega)) (fun c4 => ?_)
      simp -dsimp -implicitDefEqProofs -failIfUnchanged only [↓RA, RB, RS, fx98, cast0, cast1, cast2, implies_true, Nat.reduceLT, Nat.reduceAdd, Nat.reduceMul, Nat.reduceEqDiff, reduceIte, Nat.reduceBEq, Nat.reduceLeDiff, Nat.reduceSub, Int.reduceToNat, c1, c4]
      have h := run_some h
      obtain rfl : _ = r := h
      refine FinH.l ?_
      simp -dsimp -implicitDefEqProofs -failIfUnchanged only [↓RA, RB, RS, fx98, cast0, cast1, cast2, implies_true, Nat.reduceLT, Nat.reduceAdd, Nat.reduceMul, Nat.reduceEqDiff, reduceIte, Nat.reduceBEq, Nat.reduceLeDiff, Nat.reduceSub, Int.reduceToNat]
  · replace h := run_f c1 h
    simp -dsimp -implicitDefEqProofs -failIfUnchanged only [↓RA, RB, RS, fx98, cast0, cast1, cast2, implies_true, Nat.reduceLT, Nat.reduceAdd, Nat.reduceMul, Nat.reduceEqDiff, reduceIte, Nat.reduceBEq, Nat.reduceLeDiff, Nat.reduceSub, Int.reduceToNat, c1]
    have h := run_some h
    obtain rfl : _ = r := h
    refine FinH.l ?_
    simp -dsimp -implicitDefEqProofs -failIfUnchanged only [↓RA, RB, RS, fx98, cast0, cast1, cast2, implies_true, Nat.reduceLT, Nat.reduceAdd, Nat.reduceMul, Nat.reduceEqDiff, reduceIte, Nat.reduceBEq, Nat.reduceLeDiff, Nat.reduceSub, Int.reduceToNat]

def fx46 := And.intro @ty_4 <| And.intro @zc_4 <| And.intro @z_4 <| And.intro @u_4 <| And.intro @ty_50 <| And.intro @zc_50 <| And.intro @z_50 <| And.intro @es_50 <| And.intro @eb_50 <| And.intro @sl_50 <| And.intro @is_50 <| And.intro @el_50 <| And.intro @ze_50 <| And.intro @ez_50 <| And.intro @ty_75 <| And.intro @zc_75 <| And.intro @z_75 <| And.intro @es_75 <| And.intro @eb_75 <| And.intro @sl_75 <| And.intro @is_75 <| And.intro @el_75 <| And.intro @ze_75 <| And.intro @ez_75 <| And.intro @ty_77 <| And.intro @zc_77 <| And.intro @z_77 <| And.intro @fo_77_0 <| And.intro @fi_77_0 <| And.intro @ft_77_0 <| And.intro @fo_77_1 <| And.intro @fi_77_1 <| And.intro @ft_77_1 <| @lay_77
set_option maxHeartbeats 4000000 in
theorem eqCyclicProof_sat {a0 : CyclicProof} {a1 : CyclicProof}  {r : Bool} (h : eqCyclicProof a0 a1 = some r) : Sat Try.prog 46 [((CyclicProof.pv false) a0), ((CyclicProof.pv false) a1)] (B r) := by
  replace h := Run.of h
  unfold eqCyclicProof at h
  refine Sat.of_m (nt := 17) (rs := [.tmp 4]) (n := 100000) Try.func46 rfl rfl rfl rfl (by simp) ?_
  simp -dsimp -implicitDefEqProofs -failIfUnchanged only [↓RA, RB, RS, fx46, cast0, cast1, cast2, implies_true, Nat.reduceLT, Nat.reduceAdd, Nat.reduceMul, Nat.reduceEqDiff, reduceIte, Nat.reduceBEq, Nat.reduceLeDiff, Nat.reduceSub, Int.reduceToNat]
  repeat (first | with_reducible refine noR_and (by repeat (first | exact noR_empty _ _ | exact noR_nilS _ _ | refine noR_mk _ _ _ _ _ rfl ?_ | refine noR_mkS _ _ _ _ _ rfl ?_)) ?_ | with_reducible refine noC_and (by repeat (first | exact noC_empty _ _ (by simp -dsimp -implicitDefEqProofs -failIfUnchanged only [↓RA, RB, RS, fx46, cast0, cast1, cast2, implies_true, Nat.reduceLT, Nat.reduceAdd, Nat.reduceMul, Nat.reduceEqDiff, reduceIte, Nat.reduceBEq, Nat.reduceLeDiff, Nat.reduceSub, Int.reduceToNat]) | exact noC_nilS _ _ (by simp -dsimp -implicitDefEqProofs -failIfUnchanged only [↓RA, RB, RS, fx46, cast0, cast1, cast2, implies_true, Nat.reduceLT, Nat.reduceAdd, Nat.reduceMul, Nat.reduceEqDiff, reduceIte, Nat.reduceBEq, Nat.reduceLeDiff, Nat.reduceSub, Int.reduceToNat]) | refine noC_mk _ _ _ _ _ rfl ?_ | refine noC_mkS _ _ _ _ _ rfl ?_)) ?_ | with_reducible refine and_ac ?_ | with_reducible refine And.intro (a := _ = List.range _) (by rfl) ?_)
  obtain ⟨v9, hv9, h⟩ := run_bind h
  refine CallH.mk [false, false] (eqIntS_sat hv9) (by simp -dsimp -implicitDefEqProofs -failIfUnchanged only [↓RA, RB, RS, fx46, cast0, cast1, cast2, implies_true, Nat.reduceLT, Nat.reduceAdd, Nat.reduceMul, Nat.reduceEqDiff, reduceIte, Nat.reduceBEq, Nat.reduceLeDiff, Nat.reduceSub, Int.reduceToNat]) ?_
  simp -dsimp -implicitDefEqProofs -failIfUnchanged only [↓RA, RB, RS, fx46, cast0, cast1, cast2, implies_true, Nat.reduceLT, Nat.reduceAdd, Nat.reduceMul, Nat.reduceEqDiff, reduceIte, Nat.reduceBEq, Nat.reduceLeDiff, Nat.reduceSub, Int.reduceToNat]
  refine CondH.mk (fun c1 => ?_) (fun c1 => ?_)
  · replace h := run_t c1 h
    simp -dsimp -implicitDefEqProofs -failIfUnchanged only [↓RA, RB, RS, fx46, cast0, cast1, cast2, implies_true, Nat.reduceLT, Nat.reduceAdd, Nat.reduceMul, Nat.reduceEqDiff, reduceIte, Nat.reduceBEq, Nat.reduceLeDiff, Nat.reduceSub, Int.reduceToNat, c1]
    obtain ⟨v15, hv15, h⟩ := run_bind h
    refine CallH.mk [false, false] (eqSizeGraphS_sat hv15) (by simp -dsimp -implicitDefEqProofs -failIfUnchanged only [↓RA, RB, RS, fx46, cast0, cast1, cast2, implies_true, Nat.reduceLT, Nat.reduceAdd, Nat.reduceMul, Nat.reduceEqDiff, reduceIte, Nat.reduceBEq, Nat.reduceLeDiff, Nat.reduceSub, Int.reduceToNat, c1]) ?_
    simp -dsimp -implicitDefEqProofs -failIfUnchanged only [↓RA, RB, RS, fx46, cast0, cast1, cast2, implies_true, Nat.reduceLT, Nat.reduceAdd, Nat.reduceMul, Nat.reduceEqDiff, reduceIte, Nat.reduceBEq, Nat.reduceLeDiff, Nat.reduceSub, Int.reduceToNat, c1]
    refine CondH.mk (fun c2 => ?_) (fun c2 => ?_)
    · replace h := run_t c2 h
      simp -dsimp -implicitDefEqProofs -failIfUnchanged only [↓RA, RB, RS, fx46, cast0, cast1, cast2, implies_true, Nat.reduceLT, Nat.reduceAdd, Nat.reduceMul, Nat.reduceEqDiff, reduceIte, Nat.reduceBEq, Nat.reduceLeDiff, Nat.reduceSub, Int.reduceToNat, c1, c2]
      have h := run_some h
      obtain rfl : _ = r := h
      refine FinH.l ?_
      simp -dsimp -implicitDefEqProofs -failIfUnchanged only [↓RA, RB, RS, fx46, cast0, cast1, cast2, implies_true, Nat.reduceLT, Nat.reduceAdd, Nat.reduceMul, Nat.reduceEqDiff, reduceIte, Nat.reduceBEq, Nat.reduceLeDiff, Nat.reduceSub, Int.reduceToNat]
    · replace h := run_f c2 h
      simp -dsimp -implicitDefEqProofs -failIfUnchanged only [↓RA, RB, RS, fx46, cast0, cast1, cast2, implies_true, Nat.reduceLT, Nat.reduceAdd, Nat.reduceMul, Nat.reduceEqDiff, reduceIte, Nat.reduceBEq, Nat.reduceLeDiff, Nat.reduceSub, Int.reduceToNat, c1, c2]
      have h := run_some h
      obtain rfl : _ = r := h
      refine FinH.l ?_
      simp -dsimp -implicitDefEqProofs -failIfUnchanged only [↓RA, RB, RS, fx46, cast0, cast1, cast2, implies_true, Nat.reduceLT, Nat.reduceAdd, Nat.reduceMul, Nat.reduceEqDiff, reduceIte, Nat.reduceBEq, Nat.reduceLeDiff, Nat.reduceSub, Int.reduceToNat]
  · replace h := run_f c1 h
    simp -dsimp -implicitDefEqProofs -failIfUnchanged only [↓RA, RB, RS, fx46, cast0, cast1, cast2, implies_true, Nat.reduceLT, Nat.reduceAdd, Nat.reduceMul, Nat.reduceEqDiff, reduceIte, Nat.reduceBEq, Nat.reduceLeDiff, Nat.reduceSub, Int.reduceToNat, c1]
    have h := run_some h
    obtain rfl : _ = r := h
    refine FinH.l ?_
    simp -dsimp -implicitDefEqProofs -failIfUnchanged only [↓RA, RB, RS, fx46, cast0, cast1, cast2, implies_true, Nat.reduceLT, Nat.reduceAdd, Nat.reduceMul, Nat.reduceEqDiff, reduceIte, Nat.reduceBEq, Nat.reduceLeDiff, Nat.reduceSub, Int.reduceToNat]

def fx9 := And.intro @ty_3 <| And.intro @zc_3 <| And.intro @z_3 <| And.intro @ty_4 <| And.intro @zc_4 <| And.intro @z_4 <| And.intro @u_4 <| And.intro @ty_72 <| And.intro @zc_72 <| And.intro @z_72 <| And.intro @fo_72_0 <| And.intro @fi_72_0 <| And.intro @ft_72_0 <| And.intro @fo_72_1 <| And.intro @fi_72_1 <| And.intro @ft_72_1 <| And.intro @lay_72 <| And.intro @ty_77 <| And.intro @zc_77 <| And.intro @z_77 <| And.intro @fo_77_0 <| And.intro @fi_77_0 <| And.intro @ft_77_0 <| And.intro @fo_77_1 <| And.intro @fi_77_1 <| And.intro @ft_77_1 <| And.intro @lay_77 <| @mixedT
set_option maxHeartbeats 4000000 in
theorem FnExactIsValidCyclic_sat {a0 : CyclicProof}  {r : Bool} (h : FnExactIsValidCyclic a0 = some r) : Sat Try.prog 9 [((CyclicProof.pv false) a0)] (B r) := by
  replace h := Run.of h
  unfold FnExactIsValidCyclic at h
  refine Sat.of_m (nt := 27) (rs := [.tmp 2]) (n := 100000) Try.func9 rfl rfl rfl rfl (by simp) ?_
  simp -dsimp -implicitDefEqProofs -failIfUnchanged only [↓RA, RB, RS, fx9, cast0, cast1, cast2, implies_true, Nat.reduceLT, Nat.reduceAdd, Nat.reduceMul, Nat.reduceEqDiff, reduceIte, Nat.reduceBEq, Nat.reduceLeDiff, Nat.reduceSub, Int.reduceToNat]
  repeat (first | with_reducible refine noR_and (by repeat (first | exact noR_empty _ _ | exact noR_nilS _ _ | refine noR_mk _ _ _ _ _ rfl ?_ | refine noR_mkS _ _ _ _ _ rfl ?_)) ?_ | with_reducible refine noC_and (by repeat (first | exact noC_empty _ _ (by simp -dsimp -implicitDefEqProofs -failIfUnchanged only [↓RA, RB, RS, fx9, cast0, cast1, cast2, implies_true, Nat.reduceLT, Nat.reduceAdd, Nat.reduceMul, Nat.reduceEqDiff, reduceIte, Nat.reduceBEq, Nat.reduceLeDiff, Nat.reduceSub, Int.reduceToNat]) | exact noC_nilS _ _ (by simp -dsimp -implicitDefEqProofs -failIfUnchanged only [↓RA, RB, RS, fx9, cast0, cast1, cast2, implies_true, Nat.reduceLT, Nat.reduceAdd, Nat.reduceMul, Nat.reduceEqDiff, reduceIte, Nat.reduceBEq, Nat.reduceLeDiff, Nat.reduceSub, Int.reduceToNat]) | refine noC_mk _ _ _ _ _ rfl ?_ | refine noC_mkS _ _ _ _ _ rfl ?_)) ?_ | with_reducible refine and_ac ?_ | with_reducible refine And.intro (a := _ = List.range _) (by rfl) ?_)
  obtain ⟨v9, hv9, h⟩ := run_bind h
  refine CallH.mk [false, false] (szCyclicProof_sat hv9) (by simp -dsimp -implicitDefEqProofs -failIfUnchanged only [↓RA, RB, RS, fx9, cast0, cast1, cast2, implies_true, Nat.reduceLT, Nat.reduceAdd, Nat.reduceMul, Nat.reduceEqDiff, reduceIte, Nat.reduceBEq, Nat.reduceLeDiff, Nat.reduceSub, Int.reduceToNat]) ?_
  simp -dsimp -implicitDefEqProofs -failIfUnchanged only [↓RA, RB, RS, fx9, cast0, cast1, cast2, implies_true, Nat.reduceLT, Nat.reduceAdd, Nat.reduceMul, Nat.reduceEqDiff, reduceIte, Nat.reduceBEq, Nat.reduceLeDiff, Nat.reduceSub, Int.reduceToNat]
  refine CondH.mk (fun c1 => ?_) (fun c1 => ?_)
  · replace h := run_t c1 h
    simp -dsimp -implicitDefEqProofs -failIfUnchanged only [↓RA, RB, RS, fx9, cast0, cast1, cast2, implies_true, Nat.reduceLT, Nat.reduceAdd, Nat.reduceMul, Nat.reduceEqDiff, reduceIte, Nat.reduceBEq, Nat.reduceLeDiff, Nat.reduceSub, Int.reduceToNat, c1]
    have h := run_some h
    obtain rfl : _ = r := h
    refine FinH.l ?_
    simp -dsimp -implicitDefEqProofs -failIfUnchanged only [↓RA, RB, RS, fx9, cast0, cast1, cast2, implies_true, Nat.reduceLT, Nat.reduceAdd, Nat.reduceMul, Nat.reduceEqDiff, reduceIte, Nat.reduceBEq, Nat.reduceLeDiff, Nat.reduceSub, Int.reduceToNat]
  · replace h := run_f c1 h
    simp -dsimp -implicitDefEqProofs -failIfUnchanged only [↓RA, RB, RS, fx9, cast0, cast1, cast2, implies_true, Nat.reduceLT, Nat.reduceAdd, Nat.reduceMul, Nat.reduceEqDiff, reduceIte, Nat.reduceBEq, Nat.reduceLeDiff, Nat.reduceSub, Int.reduceToNat, c1]
    obtain ⟨v13, hv13, h⟩ := run_bind h
    refine CallH.mk [false] (toCyclicProof_sat hv13) (by simp -dsimp -implicitDefEqProofs -failIfUnchanged only [↓RA, RB, RS, fx9, cast0, cast1, cast2, implies_true, Nat.reduceLT, Nat.reduceAdd, Nat.reduceMul, Nat.reduceEqDiff, reduceIte, Nat.reduceBEq, Nat.reduceLeDiff, Nat.reduceSub, Int.reduceToNat, c1]) ?_
    simp -dsimp -implicitDefEqProofs -failIfUnchanged only [↓RA, RB, RS, fx9, cast0, cast1, cast2, implies_true, Nat.reduceLT, Nat.reduceAdd, Nat.reduceMul, Nat.reduceEqDiff, reduceIte, Nat.reduceBEq, Nat.reduceLeDiff, Nat.reduceSub, Int.reduceToNat, c1]
    repeat (first | with_reducible refine noR_and (by repeat (first | exact noR_empty _ _ | exact noR_nilS _ _ | refine noR_mk _ _ _ _ _ rfl ?_ | refine noR_mkS _ _ _ _ _ rfl ?_)) ?_ | with_reducible refine noC_and (by repeat (first | exact noC_empty _ _ (by simp -dsimp -implicitDefEqProofs -failIfUnchanged only [↓RA, RB, RS, fx9, cast0, cast1, cast2, implies_true, Nat.reduceLT, Nat.reduceAdd, Nat.reduceMul, Nat.reduceEqDiff, reduceIte, Nat.reduceBEq, Nat.reduceLeDiff, Nat.reduceSub, Int.reduceToNat]) | exact noC_nilS _ _ (by simp -dsimp -implicitDefEqProofs -failIfUnchanged only [↓RA, RB, RS, fx9, cast0, cast1, cast2, implies_true, Nat.reduceLT, Nat.reduceAdd, Nat.reduceMul, Nat.reduceEqDiff, reduceIte, Nat.reduceBEq, Nat.reduceLeDiff, Nat.reduceSub, Int.reduceToNat]) | refine noC_mk _ _ _ _ _ rfl ?_ | refine noC_mkS _ _ _ _ _ rfl ?_)) ?_ | with_reducible refine and_ac ?_ | with_reducible refine And.intro (a := _ = List.range _) (by rfl) ?_)
    obtain ⟨v14, hv14, h⟩ := run_bind h
    refine CallH.mk [false] (spec_IsValidCyclic_sat hv14) (by simp -dsimp -implicitDefEqProofs -failIfUnchanged only [↓RA, RB, RS, fx9, cast0, cast1, cast2, implies_true, Nat.reduceLT, Nat.reduceAdd, Nat.reduceMul, Nat.reduceEqDiff, reduceIte, Nat.reduceBEq, Nat.reduceLeDiff, Nat.reduceSub, Int.reduceToNat, c1]) ?_
    simp -dsimp -implicitDefEqProofs -failIfUnchanged only [↓RA, RB, RS, fx9, cast0, cast1, cast2, implies_true, Nat.reduceLT, Nat.reduceAdd, Nat.reduceMul, Nat.reduceEqDiff, reduceIte, Nat.reduceBEq, Nat.reduceLeDiff, Nat.reduceSub, Int.reduceToNat, c1]
    obtain ⟨v16, hv16, h⟩ := run_bind h
    refine CallH.mk [false] (toCyclicProof_sat hv16) (by simp -dsimp -implicitDefEqProofs -failIfUnchanged only [↓RA, RB, RS, fx9, cast0, cast1, cast2, implies_true, Nat.reduceLT, Nat.reduceAdd, Nat.reduceMul, Nat.reduceEqDiff, reduceIte, Nat.reduceBEq, Nat.reduceLeDiff, Nat.reduceSub, Int.reduceToNat, c1]) ?_
    simp -dsimp -implicitDefEqProofs -failIfUnchanged only [↓RA, RB, RS, fx9, cast0, cast1, cast2, implies_true, Nat.reduceLT, Nat.reduceAdd, Nat.reduceMul, Nat.reduceEqDiff, reduceIte, Nat.reduceBEq, Nat.reduceLeDiff, Nat.reduceSub, Int.reduceToNat, c1]
    repeat (first | with_reducible refine noR_and (by repeat (first | exact noR_empty _ _ | exact noR_nilS _ _ | refine noR_mk _ _ _ _ _ rfl ?_ | refine noR_mkS _ _ _ _ _ rfl ?_)) ?_ | with_reducible refine noC_and (by repeat (first | exact noC_empty _ _ (by simp -dsimp -implicitDefEqProofs -failIfUnchanged only [↓RA, RB, RS, fx9, cast0, cast1, cast2, implies_true, Nat.reduceLT, Nat.reduceAdd, Nat.reduceMul, Nat.reduceEqDiff, reduceIte, Nat.reduceBEq, Nat.reduceLeDiff, Nat.reduceSub, Int.reduceToNat]) | exact noC_nilS _ _ (by simp -dsimp -implicitDefEqProofs -failIfUnchanged only [↓RA, RB, RS, fx9, cast0, cast1, cast2, implies_true, Nat.reduceLT, Nat.reduceAdd, Nat.reduceMul, Nat.reduceEqDiff, reduceIte, Nat.reduceBEq, Nat.reduceLeDiff, Nat.reduceSub, Int.reduceToNat]) | refine noC_mk _ _ _ _ _ rfl ?_ | refine noC_mkS _ _ _ _ _ rfl ?_)) ?_ | with_reducible refine and_ac ?_ | with_reducible refine And.intro (a := _ = List.range _) (by rfl) ?_)
    obtain ⟨v18, hv18, h⟩ := run_bind h
    refine CallH.mk [false] (impl_IsValidCyclic_sat hv18) (by simp -dsimp -implicitDefEqProofs -failIfUnchanged only [↓RA, RB, RS, fx9, cast0, cast1, cast2, implies_true, Nat.reduceLT, Nat.reduceAdd, Nat.reduceMul, Nat.reduceEqDiff, reduceIte, Nat.reduceBEq, Nat.reduceLeDiff, Nat.reduceSub, Int.reduceToNat, c1]) ?_
    simp -dsimp -implicitDefEqProofs -failIfUnchanged only [↓RA, RB, RS, fx9, cast0, cast1, cast2, implies_true, Nat.reduceLT, Nat.reduceAdd, Nat.reduceMul, Nat.reduceEqDiff, reduceIte, Nat.reduceBEq, Nat.reduceLeDiff, Nat.reduceSub, Int.reduceToNat, c1]
    refine CondH.mk (fun c2 => ?_) (fun c2 => ?_)
    · replace h := run_t c2 h
      simp -dsimp -implicitDefEqProofs -failIfUnchanged only [↓RA, RB, RS, fx9, cast0, cast1, cast2, implies_true, Nat.reduceLT, Nat.reduceAdd, Nat.reduceMul, Nat.reduceEqDiff, reduceIte, Nat.reduceBEq, Nat.reduceLeDiff, Nat.reduceSub, Int.reduceToNat, c1, c2]
      obtain ⟨v24, hv24, h⟩ := run_bind h
      refine CallH.mk [false] (toCyclicProof_sat hv24) (by simp -dsimp -implicitDefEqProofs -failIfUnchanged only [↓RA, RB, RS, fx9, cast0, cast1, cast2, implies_true, Nat.reduceLT, Nat.reduceAdd, Nat.reduceMul, Nat.reduceEqDiff, reduceIte, Nat.reduceBEq, Nat.reduceLeDiff, Nat.reduceSub, Int.reduceToNat, c1, c2]) ?_
      simp -dsimp -implicitDefEqProofs -failIfUnchanged only [↓RA, RB, RS, fx9, cast0, cast1, cast2, implies_true, Nat.reduceLT, Nat.reduceAdd, Nat.reduceMul, Nat.reduceEqDiff, reduceIte, Nat.reduceBEq, Nat.reduceLeDiff, Nat.reduceSub, Int.reduceToNat, c1, c2]
      repeat (first | with_reducible refine noR_and (by repeat (first | exact noR_empty _ _ | exact noR_nilS _ _ | refine noR_mk _ _ _ _ _ rfl ?_ | refine noR_mkS _ _ _ _ _ rfl ?_)) ?_ | with_reducible refine noC_and (by repeat (first | exact noC_empty _ _ (by simp -dsimp -implicitDefEqProofs -failIfUnchanged only [↓RA, RB, RS, fx9, cast0, cast1, cast2, implies_true, Nat.reduceLT, Nat.reduceAdd, Nat.reduceMul, Nat.reduceEqDiff, reduceIte, Nat.reduceBEq, Nat.reduceLeDiff, Nat.reduceSub, Int.reduceToNat]) | exact noC_nilS _ _ (by simp -dsimp -implicitDefEqProofs -failIfUnchanged only [↓RA, RB, RS, fx9, cast0, cast1, cast2, implies_true, Nat.reduceLT, Nat.reduceAdd, Nat.reduceMul, Nat.reduceEqDiff, reduceIte, Nat.reduceBEq, Nat.reduceLeDiff, Nat.reduceSub, Int.reduceToNat]) | refine noC_mk _ _ _ _ _ rfl ?_ | refine noC_mkS _ _ _ _ _ rfl ?_)) ?_ | with_reducible refine and_ac ?_ | with_reducible refine And.intro (a := _ = List.range _) (by rfl) ?_)
      obtain ⟨v25, hv25, h⟩ := run_bind h
      refine CallH.mk [false, false] (eqCyclicProof_sat hv25) (by simp -dsimp -implicitDefEqProofs -failIfUnchanged only [↓RA, RB, RS, fx9, cast0, cast1, cast2, implies_true, Nat.reduceLT, Nat.reduceAdd, Nat.reduceMul, Nat.reduceEqDiff, reduceIte, Nat.reduceBEq, Nat.reduceLeDiff, Nat.reduceSub, Int.reduceToNat, c1, c2]) ?_
      simp -dsimp -implicitDefEqProofs -failIfUnchanged only [↓RA, RB, RS, fx9, cast0, cast1, cast2, implies_true, Nat.reduceLT, Nat.reduceAdd, Nat.reduceMul, Nat.reduceEqDiff, reduceIte, Nat.reduceBEq, Nat.reduceLeDiff, Nat.reduceSub, Int.reduceToNat, c1, c2]
      refine And.intro (DrawH.mk [] [384, 385] (by rfl) (by first | rfl | (simp -dsimp -implicitDefEqProofs -failIfUnchanged only [↓RA, RB, RS, fx9, cast0, cast1, cast2, implies_true, Nat.reduceLT, Nat.reduceAdd, Nat.reduceMul, Nat.reduceEqDiff, reduceIte, Nat.reduceBEq, Nat.reduceLeDiff, Nat.reduceSub, Int.reduceToNat] <;> rfl)) (by first | rfl | (simp -dsimp -implicitDefEqProofs -failIfUnchanged only [↓RA, RB, RS, fx9, cast0, cast1, cast2, implies_true, Nat.reduceLT, Nat.reduceAdd, Nat.reduceMul, Nat.reduceEqDiff, reduceIte, Nat.reduceBEq, Nat.reduceLeDiff, Nat.reduceSub, Int.reduceToNat] <;> rfl)) (by first | rfl | (simp -dsimp -implicitDefEqProofs -failIfUnchanged only [↓RA, RB, RS, fx9, cast0, cast1, cast2, implies_true, Nat.reduceLT, Nat.reduceAdd, Nat.reduceMul, Nat.reduceEqDiff, reduceIte, Nat.reduceBEq, Nat.reduceLeDiff, Nat.reduceSub, Int.reduceToNat] <;> rfl)) (by simp) (by simp -dsimp -implicitDefEqProofs -failIfUnchanged only [↓RA, RB, RS, fx9, cast0, cast1, cast2, implies_true, Nat.reduceLT, Nat.reduceAdd, Nat.reduceMul, Nat.reduceEqDiff, reduceIte, Nat.reduceBEq, Nat.reduceLeDiff, Nat.reduceSub, Int.reduceToNat]; repeat (first | exact noC_empty _ _ (by simp -dsimp -implicitDefEqProofs -failIfUnchanged only [↓RA, RB, RS, fx9, cast0, cast1, cast2, implies_true, Nat.reduceLT, Nat.reduceAdd, Nat.reduceMul, Nat.reduceEqDiff, reduceIte, Nat.reduceBEq, Nat.reduceLeDiff, Nat.reduceSub, Int.reduceToNat]) | exact noC_nilS _ _ (by simp -dsimp -implicitDefEqProofs -failIfUnchanged only [↓RA, RB, RS, fx9, cast0, cast1, cast2, implies_true, Nat.reduceLT, Nat.reduceAdd, Nat.reduceMul, Nat.reduceEqDiff, reduceIte, Nat.reduceBEq, Nat.reduceLeDiff, Nat.reduceSub, Int.reduceToNat]) | refine noC_mk _ _ _ _ _ rfl ?_ | refine noC_mkS _ _ _ _ _ rfl ?_ | refine And.intro ?_ ?_))) ?_
      simp -dsimp -implicitDefEqProofs -failIfUnchanged only [↓RA, RB, RS, fx9, cast0, cast1, cast2, implies_true, Nat.reduceLT, Nat.reduceAdd, Nat.reduceMul, Nat.reduceEqDiff, reduceIte, Nat.reduceBEq, Nat.reduceLeDiff, Nat.reduceSub, Int.reduceToNat, c1, c2]
      refine CondH.mk (fun c3 => ?_) (fun c3 => ?_)
      · replace h := run_t c3 h
        simp -dsimp -implicitDefEqProofs -failIfUnchanged only [↓RA, RB, RS, fx9, cast0, cast1, cast2, implies_true, Nat.reduceLT, Nat.reduceAdd, Nat.reduceMul, Nat.reduceEqDiff, reduceIte, Nat.reduceBEq, Nat.reduceLeDiff, Nat.reduceSub, Int.reduceToNat, c1, c2, c3]
        have h := run_some h
        obtain rfl : _ = r := h
        refine FinH.l ?_
        simp -dsimp -implicitDefEqProofs -failIfUnchanged only [↓RA, RB, RS, fx9, cast0, cast1, cast2, implies_true, Nat.reduceLT, Nat.reduceAdd, Nat.reduceMul, Nat.reduceEqDiff, reduceIte, Nat.reduceBEq, Nat.reduceLeDiff, Nat.reduceSub, Int.reduceToNat]
      · replace h := run_f c3 h
        simp -dsimp -implicitDefEqProofs -failIfUnchanged only [↓RA, RB, RS, fx9, cast0, cast1, cast2, implies_true, Nat.reduceLT, Nat.reduceAdd, Nat.reduceMul, Nat.reduceEqDiff, reduceIte, Nat.reduceBEq, Nat.reduceLeDiff, Nat.reduceSub, Int.reduceToNat, c1, c2, c3]
        have h := run_some h
        obtain rfl : _ = r := h
        refine FinH.l ?_
        simp -dsimp -implicitDefEqProofs -failIfUnchanged only [↓RA, RB, RS, fx9, cast0, cast1, cast2, implies_true, Nat.reduceLT, Nat.reduceAdd, Nat.reduceMul, Nat.reduceEqDiff, reduceIte, Nat.reduceBEq, Nat.reduceLeDiff, Nat.reduceSub, Int.reduceToNat]
    · replace h := run_f c2 h
      simp -dsimp -implicitDefEqProofs -failIfUnchanged only [↓RA, RB, RS, fx9, cast0, cast1, cast2, implies_true, Nat.reduceLT, Nat.reduceAdd, Nat.reduceMul, Nat.reduceEqDiff, reduceIte, Nat.reduceBEq, Nat.reduceLeDiff, Nat.reduceSub, Int.reduceToNat, c1, c2]
      have h := run_some h
      obtain rfl : _ = r := h
      refine FinH.l ?_
      simp -dsimp -implicitDefEqProofs -failIfUnchanged only [↓RA, RB, RS, fx9, cast0, cast1, cast2, implies_true, Nat.reduceLT, Nat.reduceAdd, Nat.reduceMul, Nat.reduceEqDiff, reduceIte, Nat.reduceBEq, Nat.reduceLeDiff, Nat.reduceSub, Int.reduceToNat]

end Go.Proofs.Ytfggcaohidajkaa
