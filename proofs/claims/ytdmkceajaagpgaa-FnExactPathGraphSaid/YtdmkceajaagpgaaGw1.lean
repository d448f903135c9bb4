/- A part of the proof: lemmas only; nothing is claimed here beyond what each lemma says. -/
import Derived.Test.YtdmkceajaagpgaaGw0
set_option linter.unusedSimpArgs false
set_option linter.unusedVariables false
set_option linter.defProp false
set_option maxRecDepth 4000
namespace Go.Proofs.Ytdmkceajaagpgaa
open Go.Av
open Nat renaming reduceLT → p1, reduceAdd → p2, reduceMul → p3, reduceEqDiff → p4, reduceBEq → p5, reduceLeDiff → p6, reduceSub → p7
open Int renaming reduceToNat → p8
def fx135 := And.intro @ty_3 <| And.intro @zc_3 <| And.intro @z_3 <| And.intro @ty_4 <| And.intro @zc_4 <| And.intro @z_4 <| And.intro @u_4 <| And.intro @ty_46 <| And.intro @zc_46 <| And.intro @z_46 <| And.intro @es_46 <| And.intro @eb_46 <| And.intro @sl_46 <| And.intro @is_46 <| And.intro @el_46 <| And.intro @ze_46 <| And.intro @ez_46 <| And.intro @ty_148 <| And.intro @zc_148 <| And.intro @z_148 <| And.intro @fo_148_0 <| And.intro @fi_148_0 <| And.intro @ft_148_0 <| And.intro @fo_148_1 <| And.intro @fi_148_1 <| And.intro @ft_148_1 <| And.intro @fo_148_2 <| And.intro @fi_148_2 <| And.intro @ft_148_2 <| And.intro @lay_148 <| @mixedT
set_option maxHeartbeats 4000000 in
theorem eqSizeEdgeS_sat {a0 : List SizeEdge} {a1 : List SizeEdge}  {r : Bool} (h : eqSizeEdgeS a0 a1 = some r) : Sat Try.prog 135 [(.sl false 3 (a0.map (SizeEdge.pv false))), (.sl false 3 (a1.map (SizeEdge.pv false)))] (B r) := by
  replace h := Run.of h
  unfold eqSizeEdgeS at h
  refine Sat.of_m (nt := 27) (rs := [.tmp 4]) (n := 100000) Try.func135 rfl rfl rfl rfl (by simp) ?_
  simp -failIfUnchanged only [↓RA, RB, RS, fx135, p1, p2, p3, p4, reduceIte, p5, p6, p7, p8]
  refine CondH.mk (fun c1 => ?_) (fun c1 => ?_)
  · replace h := run_t c1 h
    simp -failIfUnchanged only [↓RA, RB, RS, fx135, p1, p2, p3, p4, reduceIte, p5, p6, p7, p8, c1]
    refine Mg.know_sl (b := false) (sz := 3) (es := a0.map (SizeEdge.pv false)) 0 (by simp -failIfUnchanged only [↓RA, RB, RS, fx135, p1, p2, p3, p4, reduceIte, p5, p6, p7, p8, c1]) fun hl0 => ?_; rw [List.length_map] at hl0
    replace h := run_loop h
    refine Mg.forN h (fun i4 s4 => [(0, .val (.pv (.sl false 3 (a0.map (SizeEdge.pv false))))), (1, .val (.pv (.sl false 3 (a1.map (SizeEdge.pv false))))), (5, .val (.pv (I (i4 : Int))))]) (fun i4 s4 => []) (St.le_mk2 (by simp -failIfUnchanged only [↓RA, RB, RS, fx135, p1, p2, p3, p4, reduceIte, p5, p6, p7, p8, c1])) (fun i4 s4 hi h => ?_) (fun s4 h => ?_)
    · have w4 := wrap_succ (i := i4) (by omega)
      simp -failIfUnchanged only [↓RA, RB, RS, fx135, p1, p2, p3, p4, reduceIte, p5, p6, p7, p8, c1]
      refine CondH.tt (decide_eq_true (by omega)) (fun c2 => ?_)
      simp -failIfUnchanged only [↓RA, RB, RS, fx135, p1, p2, p3, p4, reduceIte, p5, p6, p7, p8, c1, c2]
      obtain ⟨v19, hv19, h⟩ := run_bind h
      refine IdxH.mk (f := (SizeEdge.pv false)) hv19 ?_ ?_ <;> simp -failIfUnchanged only [↓RA, RB, RS, fx135, p1, p2, p3, p4, reduceIte, p5, p6, p7, p8, c1, c2]
      obtain ⟨v23, hv23, h⟩ := run_bind h
      refine IdxH.mk (f := (SizeEdge.pv false)) hv23 ?_ ?_ <;> simp -failIfUnchanged only [↓RA, RB, RS, fx135, p1, p2, p3, p4, reduceIte, p5, p6, p7, p8, c1, c2]
      obtain ⟨v25, hv25, h⟩ := run_bind h
      refine CallH.mk [false, false] (eqSizeEdge_sat hv25) ?_ ?_ <;> simp -failIfUnchanged only [↓RA, RB, RS, fx135, p1, p2, p3, p4, reduceIte, p5, p6, p7, p8, c1, c2]
      refine And.intro (DrawH.none (by rfl) (by first | rfl | (simp -failIfUnchanged only [↓RA, RB, RS, fx135, p1, p2, p3, p4, reduceIte, p5, p6, p7, p8] <;> rfl)) (by first | rfl | (simp -failIfUnchanged only [↓RA, RB, RS, fx135, p1, p2, p3, p4, reduceIte, p5, p6, p7, p8] <;> rfl)) (by first | rfl | (simp -failIfUnchanged only [↓RA, RB, RS, fx135, p1, p2, p3, p4, reduceIte, p5, p6, p7, p8] <;> rfl))) ?_
      simp -failIfUnchanged only [↓RA, RB, RS, fx135, p1, p2, p3, p4, reduceIte, p5, p6, p7, p8, c1, c2]
      refine CondH.mk (fun c3 => ?_) (fun c3 => ?_)
      · replace h := run_t c3 h
        simp -failIfUnchanged only [↓RA, RB, RS, fx135, p1, p2, p3, p4, reduceIte, p5, p6, p7, p8, c1, c2, c3]
        have h := run_some h
        refine RdH.mk ⟨_, h, ?_⟩
        refine St.le_mk2 ?_
        simp -failIfUnchanged only [↓RA, RB, RS, fx135, p1, p2, p3, p4, reduceIte, p5, p6, p7, p8, c1, c2, c3, w4]
      · replace h := run_f c3 h
        simp -failIfUnchanged only [↓RA, RB, RS, fx135, p1, p2, p3, p4, reduceIte, p5, p6, p7, p8, c1, c2, c3]
        have h := run_some h
        obtain rfl : _ = r := h
        refine FinH.l ?_
        simp -failIfUnchanged only [↓RA, RB, RS, fx135, p1, p2, p3, p4, reduceIte, p5, p6, p7, p8, c1, c2, c3]
    · simp -failIfUnchanged only [↓RA, RB, RS, fx135, p1, p2, p3, p4, reduceIte, p5, p6, p7, p8, c1]
      refine CondH.ff (decide_eq_false (by omega)) (fun c4 => ?_)
      simp -failIfUnchanged only [↓RA, RB, RS, fx135, p1, p2, p3, p4, reduceIte, p5, p6, p7, p8, c1, c4]
      have h := run_some h
      obtain rfl : _ = r := h
      refine FinH.l ?_
      simp -failIfUnchanged only [↓RA, RB, RS, fx135, p1, p2, p3, p4, reduceIte, p5, p6, p7, p8, c1, c4]
  · replace h := run_f c1 h
    simp -failIfUnchanged only [↓RA, RB, RS, fx135, p1, p2, p3, p4, reduceIte, p5, p6, p7, p8, c1]
    have h := run_some h
    obtain rfl : _ = r := h
    refine FinH.l ?_
    simp -failIfUnchanged only [↓RA, RB, RS, fx135, p1, p2, p3, p4, reduceIte, p5, p6, p7, p8, c1]

def fx55 := And.intro @ty_3 <| And.intro @zc_3 <| And.intro @z_3 <| And.intro @ty_4 <| And.intro @zc_4 <| And.intro @z_4 <| And.intro @u_4 <| And.intro @ty_46 <| And.intro @zc_46 <| And.intro @z_46 <| And.intro @es_46 <| And.intro @eb_46 <| And.intro @sl_46 <| And.intro @is_46 <| And.intro @el_46 <| And.intro @ze_46 <| And.intro @ez_46 <| And.intro @ty_48 <| And.intro @zc_48 <| And.intro @z_48 <| And.intro @fo_48_0 <| And.intro @fi_48_0 <| And.intro @ft_48_0 <| And.intro @fo_48_1 <| And.intro @fi_48_1 <| And.intro @ft_48_1 <| And.intro @fo_48_2 <| And.intro @fi_48_2 <| And.intro @ft_48_2 <| @lay_48
set_option maxHeartbeats 4000000 in
theorem eqSizeGraph_sat {a0 : SizeGraph} {a1 : SizeGraph}  {r : Bool} (h : eqSizeGraph a0 a1 = some r) : Sat Try.prog 55 [((SizeGraph.pv false) a0), ((SizeGraph.pv false) a1)] (B r) := by
  replace h := Run.of h
  unfold eqSizeGraph at h
  refine Sat.of_m (nt := 21) (rs := [.tmp 4]) (n := 100000) Try.func55 rfl rfl rfl rfl (by simp) ?_
  simp -failIfUnchanged only [↓RA, RB, RS, fx55, p1, p2, p3, p4, reduceIte, p5, p6, p7, p8]
  repeat (first | with_reducible refine noR_and (by repeat (first | exact noR_empty _ _ | exact noR_nilS _ _ | refine noR_mk _ _ _ _ _ rfl ?_ | refine noR_mkS _ _ _ _ _ rfl ?_)) ?_ | with_reducible refine noC_and (by repeat (first | exact noC_empty _ _ (by simp -failIfUnchanged only [↓RA, RB, RS, fx55, p1, p2, p3, p4, reduceIte, p5, p6, p7, p8]) | exact noC_nilS _ _ (by simp -failIfUnchanged only [↓RA, RB, RS, fx55, p1, p2, p3, p4, reduceIte, p5, p6, p7, p8]) | refine noC_mk _ _ _ _ _ rfl ?_ | refine noC_mkS _ _ _ _ _ rfl ?_)) ?_ | with_reducible refine and_ac ?_ | with_reducible refine And.intro (a := _ = List.range _) (by rfl) ?_)
  refine CondH.mk (fun c1 => ?_) (fun c1 => ?_)
  · replace h := run_t c1 h
    simp -failIfUnchanged only [↓RA, RB, RS, fx55, p1, p2, p3, p4, reduceIte, p5, p6, p7, p8, c1]
    refine CondH.mk (fun c2 => ?_) (fun c2 => ?_)
    · replace h := run_t c2 h
      simp -failIfUnchanged only [↓RA, RB, RS, fx55, p1, p2, p3, p4, reduceIte, p5, p6, p7, p8, c1, c2]
      obtain ⟨v19, hv19, h⟩ := run_bind h
      refine CallH.mk [false, false] (eqSizeEdgeS_sat hv19) ?_ ?_ <;> simp -failIfUnchanged only [↓RA, RB, RS, fx55, p1, p2, p3, p4, reduceIte, p5, p6, p7, p8, c1, c2]
      refine CondH.mk (fun c3 => ?_) (fun c3 => ?_)
      · replace h := run_t c3 h
        simp -failIfUnchanged only [↓RA, RB, RS, fx55, p1, p2, p3, p4, reduceIte, p5, p6, p7, p8, c1, c2, c3]
        have h := run_some h
        obtain rfl : _ = r := h
        refine FinH.l ?_
        simp -failIfUnchanged only [↓RA, RB, RS, fx55, p1, p2, p3, p4, reduceIte, p5, p6, p7, p8, c1, c2, c3]
      · replace h := run_f c3 h
        simp -failIfUnchanged only [↓RA, RB, RS, fx55, p1, p2, p3, p4, reduceIte, p5, p6, p7, p8, c1, c2, c3]
        have h := run_some h
        obtain rfl : _ = r := h
        refine FinH.l ?_
        simp -failIfUnchanged only [↓RA, RB, RS, fx55, p1, p2, p3, p4, reduceIte, p5, p6, p7, p8, c1, c2, c3]
    · replace h := run_f c2 h
      simp -failIfUnchanged only [↓RA, RB, RS, fx55, p1, p2, p3, p4, reduceIte, p5, p6, p7, p8, c1, c2]
      have h := run_some h
      obtain rfl : _ = r := h
      refine FinH.l ?_
      simp -failIfUnchanged only [↓RA, RB, RS, fx55, p1, p2, p3, p4, reduceIte, p5, p6, p7, p8, c1, c2]
  · replace h := run_f c1 h
    simp -failIfUnchanged only [↓RA, RB, RS, fx55, p1, p2, p3, p4, reduceIte, p5, p6, p7, p8, c1]
    have h := run_some h
    obtain rfl : _ = r := h
    refine FinH.l ?_
    simp -failIfUnchanged only [↓RA, RB, RS, fx55, p1, p2, p3, p4, reduceIte, p5, p6, p7, p8, c1]

def fx49 := And.intro @ty_3 <| And.intro @zc_3 <| And.intro @z_3 <| And.intro @ty_55 <| And.intro @zc_55 <| And.intro @z_55 <| And.intro @es_55 <| And.intro @eb_55 <| And.intro @sl_55 <| And.intro @is_55 <| And.intro @el_55 <| And.intro @ze_55 <| And.intro @ez_55 <| @mixedT
set_option maxHeartbeats 4000000 in
theorem eqIntS_sat {a0 : List Int} {a1 : List Int}  {r : Bool} (h : eqIntS a0 a1 = some r) : Sat Try.prog 49 [(.sl false 1 (a0.map I)), (.sl false 1 (a1.map I))] (B r) := by
  replace h := Run.of h
  unfold eqIntS at h
  refine Sat.of_m (nt := 26) (rs := [.tmp 4]) (n := 100000) Try.func49 rfl rfl rfl rfl (by simp) ?_
  simp -failIfUnchanged only [↓RA, RB, RS, fx49, p1, p2, p3, p4, reduceIte, p5, p6, p7, p8]
  refine CondH.mk (fun c1 => ?_) (fun c1 => ?_)
  · replace h := run_t c1 h
    simp -failIfUnchanged only [↓RA, RB, RS, fx49, p1, p2, p3, p4, reduceIte, p5, p6, p7, p8, c1]
    refine Mg.know_sl (b := false) (sz := 1) (es := a0.map I) 0 (by simp -failIfUnchanged only [↓RA, RB, RS, fx49, p1, p2, p3, p4, reduceIte, p5, p6, p7, p8, c1]) fun hl0 => ?_; rw [List.length_map] at hl0
    replace h := run_loop h
    refine Mg.forN h (fun i4 s4 => [(0, .val (.pv (.sl false 1 (a0.map I)))), (1, .val (.pv (.sl false 1 (a1.map I)))), (5, .val (.pv (I (i4 : Int))))]) (fun i4 s4 => []) (St.le_mk2 (by simp -failIfUnchanged only [↓RA, RB, RS, fx49, p1, p2, p3, p4, reduceIte, p5, p6, p7, p8, c1])) (fun i4 s4 hi h => ?_) (fun s4 h => ?_)
    · have w4 := wrap_succ (i := i4) (by omega)
      simp -failIfUnchanged only [↓RA, RB, RS, fx49, p1, p2, p3, p4, reduceIte, p5, p6, p7, p8, c1]
      refine CondH.tt (decide_eq_true (by omega)) (fun c2 => ?_)
      simp -failIfUnchanged only [↓RA, RB, RS, fx49, p1, p2, p3, p4, reduceIte, p5, p6, p7, p8, c1, c2]
      obtain ⟨v19, hv19, h⟩ := run_bind h
      refine IdxH.mk (f := I) hv19 ?_ ?_ <;> simp -failIfUnchanged only [↓RA, RB, RS, fx49, p1, p2, p3, p4, reduceIte, p5, p6, p7, p8, c1, c2]
      obtain ⟨v23, hv23, h⟩ := run_bind h
      refine IdxH.mk (f := I) hv23 ?_ ?_ <;> simp -failIfUnchanged only [↓RA, RB, RS, fx49, p1, p2, p3, p4, reduceIte, p5, p6, p7, p8, c1, c2]
      refine And.intro (DrawH.none (by rfl) (by first | rfl | (simp -failIfUnchanged only [↓RA, RB, RS, fx49, p1, p2, p3, p4, reduceIte, p5, p6, p7, p8] <;> rfl)) (by first | rfl | (simp -failIfUnchanged only [↓RA, RB, RS, fx49, p1, p2, p3, p4, reduceIte, p5, p6, p7, p8] <;> rfl)) (by first | rfl | (simp -failIfUnchanged only [↓RA, RB, RS, fx49, p1, p2, p3, p4, reduceIte, p5, p6, p7, p8] <;> rfl))) ?_
      simp -failIfUnchanged only [↓RA, RB, RS, fx49, p1, p2, p3, p4, reduceIte, p5, p6, p7, p8, c1, c2]
      refine CondH.mk (fun c3 => ?_) (fun c3 => ?_)
      · replace h := run_t c3 h
        simp -failIfUnchanged only [↓RA, RB, RS, fx49, p1, p2, p3, p4, reduceIte, p5, p6, p7, p8, c1, c2, c3]
        have h := run_some h
        refine RdH.mk ⟨_, h, ?_⟩
        refine St.le_mk2 ?_
        simp -failIfUnchanged only [↓RA, RB, RS, fx49, p1, p2, p3, p4, reduceIte, p5, p6, p7, p8, c1, c2, c3, w4]
      · replace h := run_f c3 h
        simp -failIfUnchanged only [↓RA, RB, RS, fx49, p1, p2, p3, p4, reduceIte, p5, p6, p7, p8, c1, c2, c3]
        have h := run_some h
        obtain rfl : _ = r := h
        refine FinH.l ?_
        simp -failIfUnchanged only [↓RA, RB, RS, fx49, p1, p2, p3, p4, reduceIte, p5, p6, p7, p8, c1, c2, c3]
    · simp -failIfUnchanged only [↓RA, RB, RS, fx49, p1, p2, p3, p4, reduceIte, p5, p6, p7, p8, c1]
      refine CondH.ff (decide_eq_false (by omega)) (fun c4 => ?_)
      simp -failIfUnchanged only [↓RA, RB, RS, fx49, p1, p2, p3, p4, reduceIte, p5, p6, p7, p8, c1, c4]
      have h := run_some h
      obtain rfl : _ = r := h
      refine FinH.l ?_
      simp -failIfUnchanged only [↓RA, RB, RS, fx49, p1, p2, p3, p4, reduceIte, p5, p6, p7, p8, c1, c4]
  · replace h := run_f c1 h
    simp -failIfUnchanged only [↓RA, RB, RS, fx49, p1, p2, p3, p4, reduceIte, p5, p6, p7, p8, c1]
    have h := run_some h
    obtain rfl : _ = r := h
    refine FinH.l ?_
    simp -failIfUnchanged only [↓RA, RB, RS, fx49, p1, p2, p3, p4, reduceIte, p5, p6, p7, p8, c1]

def fx79 := And.intro @ty_3 <| And.intro @zc_3 <| And.intro @z_3 <| And.intro @ty_4 <| And.intro @zc_4 <| And.intro @z_4 <| And.intro @u_4 <| And.intro @ty_48 <| And.intro @zc_48 <| And.intro @z_48 <| And.intro @fo_48_0 <| And.intro @fi_48_0 <| And.intro @ft_48_0 <| And.intro @fo_48_1 <| And.intro @fi_48_1 <| And.intro @ft_48_1 <| And.intro @fo_48_2 <| And.intro @fi_48_2 <| And.intro @ft_48_2 <| And.intro @lay_48 <| And.intro @ty_56 <| And.intro @zc_56 <| And.intro @z_56 <| And.intro @es_56 <| And.intro @eb_56 <| And.intro @sl_56 <| And.intro @is_56 <| And.intro @el_56 <| And.intro @ze_56 <| And.intro @ez_56 <| @mixedT
set_option maxHeartbeats 4000000 in
theorem eqSizeGraphS_sat {a0 : List SizeGraph} {a1 : List SizeGraph}  {r : Bool} (h : eqSizeGraphS a0 a1 = some r) : Sat Try.prog 79 [(.sl false 3 (a0.map (SizeGraph.pv false))), (.sl false 3 (a1.map (SizeGraph.pv false)))] (B r) := by
  replace h := Run.of h
  unfold eqSizeGraphS at h
  refine Sat.of_m (nt := 27) (rs := [.tmp 4]) (n := 100000) Try.func79 rfl rfl rfl rfl (by simp) ?_
  simp -failIfUnchanged only [↓RA, RB, RS, fx79, p1, p2, p3, p4, reduceIte, p5, p6, p7, p8]
  refine CondH.mk (fun c1 => ?_) (fun c1 => ?_)
  · replace h := run_t c1 h
    simp -failIfUnchanged only [↓RA, RB, RS, fx79, p1, p2, p3, p4, reduceIte, p5, p6, p7, p8, c1]
    refine Mg.know_sl (b := false) (sz := 3) (es := a0.map (SizeGraph.pv false)) 0 (by simp -failIfUnchanged only [↓RA, RB, RS, fx79, p1, p2, p3, p4, reduceIte, p5, p6, p7, p8, c1]) fun hl0 => ?_; rw [List.length_map] at hl0
    replace h := run_loop h
    refine Mg.forN h (fun i4 s4 => [(0, .val (.pv (.sl false 3 (a0.map (SizeGraph.pv false))))), (1, .val (.pv (.sl false 3 (a1.map (SizeGraph.pv false))))), (5, .val (.pv (I (i4 : Int))))]) (fun i4 s4 => []) (St.le_mk2 (by simp -failIfUnchanged only [↓RA, RB, RS, fx79, p1, p2, p3, p4, reduceIte, p5, p6, p7, p8, c1])) (fun i4 s4 hi h => ?_) (fun s4 h => ?_)
    · have w4 := wrap_succ (i := i4) (by omega)
      simp -failIfUnchanged only [↓RA, RB, RS, fx79, p1, p2, p3, p4, reduceIte, p5, p6, p7, p8, c1]
      refine CondH.tt (decide_eq_true (by omega)) (fun c2 => ?_)
      simp -failIfUnchanged only [↓RA, RB, RS, fx79, p1, p2, p3, p4, reduceIte, p5, p6, p7, p8, c1, c2]
      obtain ⟨v19, hv19, h⟩ := run_bind h
      refine IdxH.mk (f := (SizeGraph.pv false)) hv19 ?_ ?_ <;> simp -failIfUnchanged only [↓RA, RB, RS, fx79, p1, p2, p3, p4, reduceIte, p5, p6, p7, p8, c1, c2]
      obtain ⟨v23, hv23, h⟩ := run_bind h
      refine IdxH.mk (f := (SizeGraph.pv false)) hv23 ?_ ?_ <;> simp -failIfUnchanged only [↓RA, RB, RS, fx79, p1, p2, p3, p4, reduceIte, p5, p6, p7, p8, c1, c2]
      obtain ⟨v25, hv25, h⟩ := run_bind h
      refine CallH.mk [false, false] (eqSizeGraph_sat hv25) ?_ ?_ <;> simp -failIfUnchanged only [↓RA, RB, RS, fx79, p1, p2, p3, p4, reduceIte, p5, p6, p7, p8, c1, c2]
      refine And.intro (DrawH.none (by rfl) (by first | rfl | (simp -failIfUnchanged only [↓RA, RB, RS, fx79, p1, p2, p3, p4, reduceIte, p5, p6, p7, p8] <;> rfl)) (by first | rfl | (simp -failIfUnchanged only [↓RA, RB, RS, fx79, p1, p2, p3, p4, reduceIte, p5, p6, p7, p8] <;> rfl)) (by first | rfl | (simp -failIfUnchanged only [↓RA, RB, RS, fx79, p1, p2, p3, p4, reduceIte, p5, p6, p7, p8] <;> rfl))) ?_
      simp -failIfUnchanged only [↓RA, RB, RS, fx79, p1, p2, p3, p4, reduceIte, p5, p6, p7, p8, c1, c2]
      refine CondH.mk (fun c3 => ?_) (fun c3 => ?_)
      · replace h := run_t c3 h
        simp -failIfUnchanged only [↓RA, RB, RS, fx79, p1, p2, p3, p4, reduceIte, p5, p6, p7, p8, c1, c2, c3]
        have h := run_some h
        refine RdH.mk ⟨_, h, ?_⟩
        refine St.le_mk2 ?_
        simp -failIfUnchanged only [↓RA, RB, RS, fx79, p1, p2, p3, p4, reduceIte, p5, p6, p7, p8, c1, c2, c3, w4]
      · replace h := run_f c3 h
        simp -failIfUnchanged only [↓RA, RB, RS, fx79, p1, p2, p3, p4, reduceIte, p5, p6, p7, p8, c1, c2, c3]
        have h := run_some h
        obtain rfl : _ = r := h
        refine FinH.l ?_
        simp -failIfUnchanged only [↓RA, RB, RS, fx79, p1, p2, p3, p4, reduceIte, p5, p6, p7, p8, c1, c2, c3]
    · simp -failIfUnchanged only [↓RA, RB, RS, fx79, p1, p2, p3, p4, reduceIte, p5, p6, p7, p8, c1]
      refine CondH.ff (decide_eq_false (by omega)) (fun c4 => ?_)
      simp -failIfUnchanged only [↓RA, RB, RS, fx79, p1, p2, p3, p4, reduceIte, p5, p6, p7, p8, c1, c4]
      have h := run_some h
      obtain rfl : _ = r := h
      refine FinH.l ?_
      simp -failIfUnchanged only [↓RA, RB, RS, fx79, p1, p2, p3, p4, reduceIte, p5, p6, p7, p8, c1, c4]
  · replace h := run_f c1 h
    simp -failIfUnchanged only [↓RA, RB, RS, fx79, p1, p2, p3, p4, reduceIte, p5, p6, p7, p8, c1]
    have h := run_some h
    obtain rfl : _ = r := h
    refine FinH.l ?_
    simp -failIfUnchanged only [↓RA, RB, RS, fx79, p1, p2, p3, p4, reduceIte, p5, p6, p7, p8, c1]

def fx56 := And.intro @ty_4 <| And.intro @zc_4 <| And.intro @z_4 <| And.intro @u_4 <| And.intro @ty_55 <| And.intro @zc_55 <| And.intro @z_55 <| And.intro @es_55 <| And.intro @eb_55 <| And.intro @sl_55 <| And.intro @is_55 <| And.intro @el_55 <| And.intro @ze_55 <| And.intro @ez_55 <| And.intro @ty_56 <| And.intro @zc_56 <| And.intro @z_56 <| And.intro @es_56 <| And.intro @eb_56 <| And.intro @sl_56 <| And.intro @is_56 <| And.intro @el_56 <| And.intro @ze_56 <| And.intro @ez_56 <| And.intro @ty_58 <| And.intro @zc_58 <| And.intro @z_58 <| And.intro @fo_58_0 <| And.intro @fi_58_0 <| And.intro @ft_58_0 <| And.intro @fo_58_1 <| And.intro @fi_58_1 <| And.intro @ft_58_1 <| @lay_58
set_option maxHeartbeats 4000000 in
theorem eqCyclicProof_sat {a0 : CyclicProof} {a1 : CyclicProof}  {r : Bool} (h : eqCyclicProof a0 a1 = some r) : Sat Try.prog 56 [((CyclicProof.pv false) a0), ((CyclicProof.pv false) a1)] (B r) := by
  replace h := Run.of h
  unfold eqCyclicProof at h
  refine Sat.of_m (nt := 17) (rs := [.tmp 4]) (n := 100000) Try.func56 rfl rfl rfl rfl (by simp) ?_
  simp -failIfUnchanged only [↓RA, RB, RS, fx56, p1, p2, p3, p4, reduceIte, p5, p6, p7, p8]
  repeat (first | with_reducible refine noR_and (by repeat (first | exact noR_empty _ _ | exact noR_nilS _ _ | refine noR_mk _ _ _ _ _ rfl ?_ | refine noR_mkS _ _ _ _ _ rfl ?_)) ?_ | with_reducible refine noC_and (by repeat (first | exact noC_empty _ _ (by simp -failIfUnchanged only [↓RA, RB, RS, fx56, p1, p2, p3, p4, reduceIte, p5, p6, p7, p8]) | exact noC_nilS _ _ (by simp -failIfUnchanged only [↓RA, RB, RS, fx56, p1, p2, p3, p4, reduceIte, p5, p6, p7, p8]) | refine noC_mk _ _ _ _ _ rfl ?_ | refine noC_mkS _ _ _ _ _ rfl ?_)) ?_ | with_reducible refine and_ac ?_ | with_reducible refine And.intro (a := _ = List.range _) (by rfl) ?_)
  obtain ⟨v9, hv9, h⟩ := run_bind h
  refine CallH.mk [false, false] (eqIntS_sat hv9) ?_ ?_ <;> simp -failIfUnchanged only [↓RA, RB, RS, fx56, p1, p2, p3, p4, reduceIte, p5, p6, p7, p8]
  refine CondH.mk (fun c1 => ?_) (fun c1 => ?_)
  · replace h := run_t c1 h
    simp -failIfUnchanged only [↓RA, RB, RS, fx56, p1, p2, p3, p4, reduceIte, p5, p6, p7, p8, c1]
    obtain ⟨v15, hv15, h⟩ := run_bind h
    refine CallH.mk [false, false] (eqSizeGraphS_sat hv15) ?_ ?_ <;> simp -failIfUnchanged only [↓RA, RB, RS, fx56, p1, p2, p3, p4, reduceIte, p5, p6, p7, p8, c1]
    refine CondH.mk (fun c2 => ?_) (fun c2 => ?_)
    · replace h := run_t c2 h
      simp -failIfUnchanged only [↓RA, RB, RS, fx56, p1, p2, p3, p4, reduceIte, p5, p6, p7, p8, c1, c2]
      have h := run_some h
      obtain rfl : _ = r := h
      refine FinH.l ?_
      simp -failIfUnchanged only [↓RA, RB, RS, fx56, p1, p2, p3, p4, reduceIte, p5, p6, p7, p8, c1, c2]
    · replace h := run_f c2 h
      simp -failIfUnchanged only [↓RA, RB, RS, fx56, p1, p2, p3, p4, reduceIte, p5, p6, p7, p8, c1, c2]
      have h := run_some h
      obtain rfl : _ = r := h
      refine FinH.l ?_
      simp -failIfUnchanged only [↓RA, RB, RS, fx56, p1, p2, p3, p4, reduceIte, p5, p6, p7, p8, c1, c2]
  · replace h := run_f c1 h
    simp -failIfUnchanged only [↓RA, RB, RS, fx56, p1, p2, p3, p4, reduceIte, p5, p6, p7, p8, c1]
    have h := run_some h
    obtain rfl : _ = r := h
    refine FinH.l ?_
    simp -failIfUnchanged only [↓RA, RB, RS, fx56, p1, p2, p3, p4, reduceIte, p5, p6, p7, p8, c1]

def fx58 := And.intro @ty_3 <| And.intro @zc_3 <| And.intro @z_3 <| And.intro @ty_55 <| And.intro @zc_55 <| And.intro @z_55 <| And.intro @es_55 <| And.intro @eb_55 <| And.intro @sl_55 <| And.intro @is_55 <| And.intro @el_55 <| And.intro @ze_55 <| @ez_55
set_option maxHeartbeats 4000000 in
theorem markIntS_sat {a0 : List Int} {a1 : Int}  {r : Int × (List Int)} (h : markIntS a0 a1 = some r) : SatIO Try.prog 58 [(.sl true 1 (a0.map I)), (I a1)] [(.sl true 1 (r.2.map I)), (I a1)] (I r.1) := by
  replace h := Run.of h
  unfold markIntS at h
  refine SatIO.of_m (nt := 19) (rs := [.tmp 4]) (n := 100000) Try.func58 rfl rfl rfl rfl (by simp) ?_
  simp -failIfUnchanged only [↓RA, ↓RI, RB, RJ, RS, fx58, p1, p2, p3, p4, reduceIte, p5, p6, p7, p8]
  replace h := run_loop h
  refine Mg.whileN h (fun s2 => [(0, .val (.own 10000)), (1, .val (.pv (I s2.2.1))), (5, .val (.pv (I s2.2.2)))]) (fun s2 => [(10000, (1, s2.1.map I))]) (St.le_mk2 (by simp -failIfUnchanged only [↓RA, ↓RI, RB, RJ, RS, fx58, p1, p2, p3, p4, reduceIte, p5, p6, p7, p8])) (fun n2 s2 h => ?_)
  simp -failIfUnchanged only [↓RA, ↓RI, RB, RJ, RS, fx58, p1, p2, p3, p4, reduceIte, p5, p6, p7, p8]
  refine CondH.mk (fun c1 => ?_) (fun c1 => ?_)
  · replace h := run_t c1 h
    simp -failIfUnchanged only [↓RA, ↓RI, RB, RJ, RS, fx58, p1, p2, p3, p4, reduceIte, p5, p6, p7, p8, c1]
    obtain ⟨v15, hv15, h⟩ := run_bind h
    refine IdxH.mk (f := I) hv15 ?_ ?_ <;> simp -failIfUnchanged only [↓RA, ↓RI, RB, RJ, RS, fx58, p1, p2, p3, p4, reduceIte, p5, p6, p7, p8, c1]
    obtain ⟨w2, hw2, h⟩ := run_bind h
    refine EldH.mk (f := I) hw2 rfl ?_ ?_ <;> simp -failIfUnchanged only [↓RA, ↓RI, RB, RJ, RS, fx58, p1, p2, p3, p4, reduceIte, p5, p6, p7, p8, c1]
    have h := run_some h
    refine RdH.mk ⟨_, h, ?_⟩
    refine St.le_mk2 ?_
    simp -failIfUnchanged only [↓RA, ↓RI, RB, RJ, RS, fx58, p1, p2, p3, p4, reduceIte, p5, p6, p7, p8, c1]
  · replace h := run_f c1 h
    simp -failIfUnchanged only [↓RA, ↓RI, RB, RJ, RS, fx58, p1, p2, p3, p4, reduceIte, p5, p6, p7, p8, c1]
    have h := run_some h
    have h := run_some h
    obtain rfl : _ = r := h
    refine FinIO.mk ?_
    simp -failIfUnchanged only [↓RA, ↓RI, RB, RJ, RS, fx58, p1, p2, p3, p4, reduceIte, p5, p6, p7, p8, c1]

def fx136 := And.intro @ty_3 <| And.intro @zc_3 <| And.intro @z_3 <| And.intro @ty_4 <| And.intro @zc_4 <| And.intro @z_4 <| And.intro @u_4 <| And.intro @ty_46 <| And.intro @zc_46 <| And.intro @z_46 <| And.intro @es_46 <| And.intro @eb_46 <| And.intro @sl_46 <| And.intro @is_46 <| And.intro @el_46 <| And.intro @ze_46 <| And.intro @ez_46 <| And.intro @ty_148 <| And.intro @zc_148 <| And.intro @z_148 <| And.intro @fo_148_0 <| And.intro @fi_148_0 <| And.intro @ft_148_0 <| And.intro @fo_148_1 <| And.intro @fi_148_1 <| And.intro @ft_148_1 <| And.intro @fo_148_2 <| And.intro @fi_148_2 <| And.intro @ft_148_2 <| @lay_148
set_option maxHeartbeats 4000000 in
theorem markSizeEdgeS_sat {a0 : List SizeEdge} {a1 : Int}  {r : Int × (List SizeEdge)} (h : markSizeEdgeS a0 a1 = some r) : SatIO Try.prog 136 [(.sl true 3 (a0.map (SizeEdge.pv false))), (I a1)] [(.sl true 3 (r.2.map (SizeEdge.pv false))), (I a1)] (I r.1) := by
  replace h := Run.of h
  unfold markSizeEdgeS at h
  refine SatIO.of_m (nt := 36) (rs := [.tmp 4]) (n := 100000) Try.func136 rfl rfl rfl rfl (by simp) ?_
  simp -failIfUnchanged only [↓RA, ↓RI, RB, RJ, RS, fx136, p1, p2, p3, p4, reduceIte, p5, p6, p7, p8]
  replace h := run_loop h
  refine Mg.whileN h (fun s2 => [(0, .val (.own 10000)), (1, .val (.pv (I s2.2.1))), (5, .val (.pv (I s2.2.2)))]) (fun s2 => [(10000, (3, s2.1.map (SizeEdge.pv false)))]) (St.le_mk2 (by simp -failIfUnchanged only [↓RA, ↓RI, RB, RJ, RS, fx136, p1, p2, p3, p4, reduceIte, p5, p6, p7, p8])) (fun n2 s2 h => ?_)
  simp -failIfUnchanged only [↓RA, ↓RI, RB, RJ, RS, fx136, p1, p2, p3, p4, reduceIte, p5, p6, p7, p8]
  refine CondH.mk (fun c1 => ?_) (fun c1 => ?_)
  · replace h := run_t c1 h
    simp -failIfUnchanged only [↓RA, ↓RI, RB, RJ, RS, fx136, p1, p2, p3, p4, reduceIte, p5, p6, p7, p8, c1]
    obtain ⟨v15, hv15, h⟩ := run_bind h
    refine IdxH.mk (f := (SizeEdge.pv false)) hv15 ?_ ?_ <;> simp -failIfUnchanged only [↓RA, ↓RI, RB, RJ, RS, fx136, p1, p2, p3, p4, reduceIte, p5, p6, p7, p8, c1]
    obtain ⟨w2, hw2, h⟩ := run_bind h
    refine EldH.mk (f := (SizeEdge.pv false)) hw2 rfl ?_ ?_ <;> simp -failIfUnchanged only [↓RA, ↓RI, RB, RJ, RS, fx136, p1, p2, p3, p4, reduceIte, p5, p6, p7, p8, c1]
    obtain ⟨v22, hv22, h⟩ := run_bind h
    refine IdxH.mk (f := (SizeEdge.pv false)) hv22 ?_ ?_ <;> simp -failIfUnchanged only [↓RA, ↓RI, RB, RJ, RS, fx136, p1, p2, p3, p4, reduceIte, p5, p6, p7, p8, c1]
    obtain ⟨w3, hw3, h⟩ := run_bind h
    refine EldH.mk (f := (SizeEdge.pv false)) hw3 rfl ?_ ?_ <;> simp -failIfUnchanged only [↓RA, ↓RI, RB, RJ, RS, fx136, p1, p2, p3, p4, reduceIte, p5, p6, p7, p8, c1]
    obtain ⟨v29, hv29, h⟩ := run_bind h
    refine remH.mk hv29 ?_
    simp -failIfUnchanged only [↓RA, ↓RI, RB, RJ, RS, fx136, p1, p2, p3, p4, reduceIte, p5, p6, p7, p8, c1]
    obtain ⟨v31, hv31, h⟩ := run_bind h
    refine IdxH.mk (f := (SizeEdge.pv false)) hv31 ?_ ?_ <;> simp -failIfUnchanged only [↓RA, ↓RI, RB, RJ, RS, fx136, p1, p2, p3, p4, reduceIte, p5, p6, p7, p8, c1]
    obtain ⟨w4, hw4, h⟩ := run_bind h
    refine EldH.mk (f := (SizeEdge.pv false)) hw4 rfl ?_ ?_ <;> simp -failIfUnchanged only [↓RA, ↓RI, RB, RJ, RS, fx136, p1, p2, p3, p4, reduceIte, p5, p6, p7, p8, c1]
    have h := run_some h
    refine RdH.mk ⟨_, h, ?_⟩
    refine St.le_mk2 ?_
    simp -failIfUnchanged only [↓RA, ↓RI, RB, RJ, RS, fx136, p1, p2, p3, p4, reduceIte, p5, p6, p7, p8, c1]
  · replace h := run_f c1 h
    simp -failIfUnchanged only [↓RA, ↓RI, RB, RJ, RS, fx136, p1, p2, p3, p4, reduceIte, p5, p6, p7, p8, c1]
    have h := run_some h
    have h := run_some h
    obtain rfl : _ = r := h
    refine FinIO.mk ?_
    simp -failIfUnchanged only [↓RA, ↓RI, RB, RJ, RS, fx136, p1, p2, p3, p4, reduceIte, p5, p6, p7, p8, c1]

def fx80 := And.intro @ty_3 <| And.intro @zc_3 <| And.intro @z_3 <| And.intro @ty_46 <| And.intro @zc_46 <| And.intro @z_46 <| And.intro @es_46 <| And.intro @eb_46 <| And.intro @sl_46 <| And.intro @is_46 <| And.intro @el_46 <| And.intro @ze_46 <| And.intro @ez_46 <| And.intro @ty_48 <| And.intro @zc_48 <| And.intro @z_48 <| And.intro @fo_48_0 <| And.intro @fi_48_0 <| And.intro @ft_48_0 <| And.intro @fo_48_1 <| And.intro @fi_48_1 <| And.intro @ft_48_1 <| And.intro @fo_48_2 <| And.intro @fi_48_2 <| And.intro @ft_48_2 <| And.intro @lay_48 <| And.intro @ty_56 <| And.intro @zc_56 <| And.intro @z_56 <| And.intro @es_56 <| And.intro @eb_56 <| And.intro @sl_56 <| And.intro @is_56 <| And.intro @el_56 <| And.intro @ze_56 <| @ez_56
set_option maxHeartbeats 4000000 in
theorem markSizeGraphS_sat {a0 : List SizeGraph} {a1 : Int}  {r : Int × (List SizeGraph)} (h : markSizeGraphS a0 a1 = some r) : SatIO Try.prog 80 [(.sl true 3 (a0.map (SizeGraph.pv true))), (I a1)] [(.sl true 3 (r.2.map (SizeGraph.pv true))), (I a1)] (I r.1) := by
  replace h := Run.of h
  unfold markSizeGraphS at h
  refine SatIO.of_mi (nt := 34) (rs := [.tmp 4]) (n := 100000) Try.func80 rfl rfl rfl rfl (by simp) ?_
  simp -failIfUnchanged only [↓RA, ↓RI, RB, RJ, RS, fx80, p1, p2, p3, p4, reduceIte, p5, p6, p7, p8]
  refine VSeq.step ?_
  simp -failIfUnchanged only [↓RA, ↓RI, RB, RJ, RS, fx80, p1, p2, p3, p4, reduceIte, p5, p6, p7, p8]
  refine VSeq.nil (Nat.le_of_eq rfl) ?_
  simp -failIfUnchanged only [↓RA, ↓RI, RB, RJ, RS, fx80, p1, p2, p3, p4, reduceIte, p5, p6, p7, p8]
  refine VSeq.step ?_
  simp -failIfUnchanged only [↓RA, ↓RI, RB, RJ, RS, fx80, p1, p2, p3, p4, reduceIte, p5, p6, p7, p8]
  refine VSeq.nil (Nat.le_of_eq rfl) ?_
  simp -failIfUnchanged only [↓RA, ↓RI, RB, RJ, RS, fx80, p1, p2, p3, p4, reduceIte, p5, p6, p7, p8]
  replace h := run_loop h
  refine MgI.whileN h (fun s2 => [(0, .val (.own 10000)), (1, .val (.pv (I s2.2.1))), (5, .val (.pv (I s2.2.2)))]) (fun s2 => [(10000, (3, s2.1.map (SizeGraph.pv true)))]) (St.le_mk2 (by simp -failIfUnchanged only [↓RA, ↓RI, RB, RJ, RS, fx80, p1, p2, p3, p4, reduceIte, p5, p6, p7, p8])) (fun n2 s2 h => ?_)
  simp -failIfUnchanged only [↓RA, ↓RI, RB, RJ, RS, fx80, p1, p2, p3, p4, reduceIte, p5, p6, p7, p8]
  refine VSeq.step ?_
  simp -failIfUnchanged only [↓RA, ↓RI, RB, RJ, RS, fx80, p1, p2, p3, p4, reduceIte, p5, p6, p7, p8]
  refine VSeq.step ?_
  simp -failIfUnchanged only [↓RA, ↓RI, RB, RJ, RS, fx80, p1, p2, p3, p4, reduceIte, p5, p6, p7, p8]
  refine VSeq.step ?_
  simp -failIfUnchanged only [↓RA, ↓RI, RB, RJ, RS, fx80, p1, p2, p3, p4, reduceIte, p5, p6, p7, p8]
  refine VSeq.step ?_
  simp -failIfUnchanged only [↓RA, ↓RI, RB, RJ, RS, fx80, p1, p2, p3, p4, reduceIte, p5, p6, p7, p8]
  refine VSeq.nil (Nat.le_of_eq rfl) ?_
  simp -failIfUnchanged only [↓RA, ↓RI, RB, RJ, RS, fx80, p1, p2, p3, p4, reduceIte, p5, p6, p7, p8]
  refine CondH.mk (fun c1 => ?_) (fun c1 => ?_)
  · replace h := run_t c1 h
    simp -failIfUnchanged only [↓RA, ↓RI, RB, RJ, RS, fx80, p1, p2, p3, p4, reduceIte, p5, p6, p7, p8, c1]
    refine VSeq.step ?_
    simp -failIfUnchanged only [↓RA, ↓RI, RB, RJ, RS, fx80, p1, p2, p3, p4, reduceIte, p5, p6, p7, p8, c1]
    refine VSeq.step ?_
    simp -failIfUnchanged only [↓RA, ↓RI, RB, RJ, RS, fx80, p1, p2, p3, p4, reduceIte, p5, p6, p7, p8, c1]
    refine VSeq.step ?_
    simp -failIfUnchanged only [↓RA, ↓RI, RB, RJ, RS, fx80, p1, p2, p3, p4, reduceIte, p5, p6, p7, p8, c1]
    refine VSeq.step ?_
    simp -failIfUnchanged only [↓RA, ↓RI, RB, RJ, RS, fx80, p1, p2, p3, p4, reduceIte, p5, p6, p7, p8, c1]
    obtain ⟨v15, hv15, h⟩ := run_bind h
    refine IdxH.mk (f := (SizeGraph.pv true)) hv15 ?_ ?_ <;> simp -failIfUnchanged only [↓RA, ↓RI, RB, RJ, RS, fx80, p1, p2, p3, p4, reduceIte, p5, p6, p7, p8, c1]
    refine VSeq.step ?_
    simp -failIfUnchanged only [↓RA, ↓RI, RB, RJ, RS, fx80, p1, p2, p3, p4, reduceIte, p5, p6, p7, p8, c1]
    refine VSeq.step ?_
    simp -failIfUnchanged only [↓RA, ↓RI, RB, RJ, RS, fx80, p1, p2, p3, p4, reduceIte, p5, p6, p7, p8, c1]
    obtain ⟨w2, hw2, h⟩ := run_bind h
    refine EldH.mk (f := (SizeGraph.pv true)) hw2 rfl ?_ ?_ <;> simp -failIfUnchanged only [↓RA, ↓RI, RB, RJ, RS, fx80, p1, p2, p3, p4, reduceIte, p5, p6, p7, p8, c1]
    refine VSeq.nil (Nat.le_of_eq rfl) ?_
    simp -failIfUnchanged only [↓RA, ↓RI, RB, RJ, RS, fx80, p1, p2, p3, p4, reduceIte, p5, p6, p7, p8, c1]
    refine VSeq.step ?_
    simp -failIfUnchanged only [↓RA, ↓RI, RB, RJ, RS, fx80, p1, p2, p3, p4, reduceIte, p5, p6, p7, p8, c1]
    refine VSeq.step ?_
    simp -failIfUnchanged only [↓RA, ↓RI, RB, RJ, RS, fx80, p1, p2, p3, p4, reduceIte, p5, p6, p7, p8, c1]
    refine VSeq.step ?_
    simp -failIfUnchanged only [↓RA, ↓RI, RB, RJ, RS, fx80, p1, p2, p3, p4, reduceIte, p5, p6, p7, p8, c1]
    refine VSeq.nil (Nat.le_of_eq rfl) ?_
    simp -failIfUnchanged only [↓RA, ↓RI, RB, RJ, RS, fx80, p1, p2, p3, p4, reduceIte, p5, p6, p7, p8, c1]
    refine VSeq.step ?_
    simp -failIfUnchanged only [↓RA, ↓RI, RB, RJ, RS, fx80, p1, p2, p3, p4, reduceIte, p5, p6, p7, p8, c1]
    refine VSeq.step ?_
    simp -failIfUnchanged only [↓RA, ↓RI, RB, RJ, RS, fx80, p1, p2, p3, p4, reduceIte, p5, p6, p7, p8, c1]
    refine VSeq.step ?_
    simp -failIfUnchanged only [↓RA, ↓RI, RB, RJ, RS, fx80, p1, p2, p3, p4, reduceIte, p5, p6, p7, p8, c1]
    refine VSeq.step ?_
    simp -failIfUnchanged only [↓RA, ↓RI, RB, RJ, RS, fx80, p1, p2, p3, p4, reduceIte, p5, p6, p7, p8, c1]
    obtain ⟨v22, hv22, h⟩ := run_bind h
    refine IdxH.mk (f := (SizeGraph.pv true)) hv22 ?_ ?_ <;> simp -failIfUnchanged only [↓RA, ↓RI, RB, RJ, RS, fx80, p1, p2, p3, p4, reduceIte, p5, p6, p7, p8, c1]
    refine VSeq.step ?_
    simp -failIfUnchanged only [↓RA, ↓RI, RB, RJ, RS, fx80, p1, p2, p3, p4, reduceIte, p5, p6, p7, p8, c1]
    refine VSeq.step ?_
    simp -failIfUnchanged only [↓RA, ↓RI, RB, RJ, RS, fx80, p1, p2, p3, p4, reduceIte, p5, p6, p7, p8, c1]
    obtain ⟨w3, hw3, h⟩ := run_bind h
    refine EldH.mk (f := (SizeGraph.pv true)) hw3 rfl ?_ ?_ <;> simp -failIfUnchanged only [↓RA, ↓RI, RB, RJ, RS, fx80, p1, p2, p3, p4, reduceIte, p5, p6, p7, p8, c1]
    refine VSeq.nil (Nat.le_of_eq rfl) ?_
    simp -failIfUnchanged only [↓RA, ↓RI, RB, RJ, RS, fx80, p1, p2, p3, p4, reduceIte, p5, p6, p7, p8, c1]
    refine VSeq.step ?_
    simp -failIfUnchanged only [↓RA, ↓RI, RB, RJ, RS, fx80, p1, p2, p3, p4, reduceIte, p5, p6, p7, p8, c1]
    refine VSeq.step ?_
    simp -failIfUnchanged only [↓RA, ↓RI, RB, RJ, RS, fx80, p1, p2, p3, p4, reduceIte, p5, p6, p7, p8, c1]
    refine VSeq.step ?_
    simp -failIfUnchanged only [↓RA, ↓RI, RB, RJ, RS, fx80, p1, p2, p3, p4, reduceIte, p5, p6, p7, p8, c1]
    refine VSeq.nil (Nat.le_of_eq rfl) ?_
    simp -failIfUnchanged only [↓RA, ↓RI, RB, RJ, RS, fx80, p1, p2, p3, p4, reduceIte, p5, p6, p7, p8, c1]
    refine VSeq.step ?_
    simp -failIfUnchanged only [↓RA, ↓RI, RB, RJ, RS, fx80, p1, p2, p3, p4, reduceIte, p5, p6, p7, p8, c1]
    refine VSeq.step ?_
    simp -failIfUnchanged only [↓RA, ↓RI, RB, RJ, RS, fx80, p1, p2, p3, p4, reduceIte, p5, p6, p7, p8, c1]
    refine VSeq.step ?_
    simp -failIfUnchanged only [↓RA, ↓RI, RB, RJ, RS, fx80, p1, p2, p3, p4, reduceIte, p5, p6, p7, p8, c1]
    obtain ⟨v28, hv28, h⟩ := run_bind h
    refine IdxH.mk (f := (SizeGraph.pv true)) hv28 ?_ ?_ <;> simp -failIfUnchanged only [↓RA, ↓RI, RB, RJ, RS, fx80, p1, p2, p3, p4, reduceIte, p5, p6, p7, p8, c1]
    refine VSeq.step ?_
    simp -failIfUnchanged only [↓RA, ↓RI, RB, RJ, RS, fx80, p1, p2, p3, p4, reduceIte, p5, p6, p7, p8, c1]
    obtain ⟨w4, hw4, h⟩ := run_bind h
    obtain ⟨v32, hv32, h⟩ := run_bind h
    refine VSeq.innerM (fx := (SizeGraph.pv true)) (c := 10000) (sz := 3) (p := [2]) (off := 2) (h1 := rfl) (h3 := rfl) (h2 := rfl) rfl rfl rfl rfl rfl rfl rfl rfl rfl hw4 (markSizeEdgeS_sat hv32) (by simp -failIfUnchanged only [↓RA, ↓RI, RB, RJ, RS, fx80, p1, p2, p3, p4, reduceIte, p5, p6, p7, p8, c1]) (by simp -failIfUnchanged only [↓RA, ↓RI, RB, RJ, RS, fx80, p1, p2, p3, p4, reduceIte, p5, p6, p7, p8, c1]) ?_
    simp -failIfUnchanged only [↓RA, ↓RI, RB, RJ, RS, fx80, p1, p2, p3, p4, reduceIte, p5, p6, p7, p8, c1]
    refine VSeq.step ?_
    simp -failIfUnchanged only [↓RA, ↓RI, RB, RJ, RS, fx80, p1, p2, p3, p4, reduceIte, p5, p6, p7, p8, c1]
    refine VSeq.nil (Nat.le_of_eq rfl) ?_
    simp -failIfUnchanged only [↓RA, ↓RI, RB, RJ, RS, fx80, p1, p2, p3, p4, reduceIte, p5, p6, p7, p8, c1]
    refine VSeq.step ?_
    simp -failIfUnchanged only [↓RA, ↓RI, RB, RJ, RS, fx80, p1, p2, p3, p4, reduceIte, p5, p6, p7, p8, c1]
    refine VSeq.step ?_
    simp -failIfUnchanged only [↓RA, ↓RI, RB, RJ, RS, fx80, p1, p2, p3, p4, reduceIte, p5, p6, p7, p8, c1]
    refine VSeq.step ?_
    simp -failIfUnchanged only [↓RA, ↓RI, RB, RJ, RS, fx80, p1, p2, p3, p4, reduceIte, p5, p6, p7, p8, c1]
    refine VSeq.nil (Nat.le_of_eq rfl) ?_
    simp -failIfUnchanged only [↓RA, ↓RI, RB, RJ, RS, fx80, p1, p2, p3, p4, reduceIte, p5, p6, p7, p8, c1]
    have h := run_some h
    refine RdH.mk ⟨_, h, ?_⟩
    refine St.le_mk2 ?_
    simp -failIfUnchanged only [↓RA, ↓RI, RB, RJ, RS, fx80, p1, p2, p3, p4, reduceIte, p5, p6, p7, p8, c1]
  · replace h := run_f c1 h
    simp -failIfUnchanged only [↓RA, ↓RI, RB, RJ, RS, fx80, p1, p2, p3, p4, reduceIte, p5, p6, p7, p8, c1]
    have h := run_some h
    refine VSeq.step ?_
    simp -failIfUnchanged only [↓RA, ↓RI, RB, RJ, RS, fx80, p1, p2, p3, p4, reduceIte, p5, p6, p7, p8, c1]
    refine VSeq.step ?_
    simp -failIfUnchanged only [↓RA, ↓RI, RB, RJ, RS, fx80, p1, p2, p3, p4, reduceIte, p5, p6, p7, p8, c1]
    refine VSeq.nil (Nat.le_of_eq rfl) ?_
    simp -failIfUnchanged only [↓RA, ↓RI, RB, RJ, RS, fx80, p1, p2, p3, p4, reduceIte, p5, p6, p7, p8, c1]
    have h := run_some h
    obtain rfl : _ = r := h
    refine FinIO.mk ?_
    simp -failIfUnchanged only [↓RA, ↓RI, RB, RJ, RS, fx80, p1, p2, p3, p4, reduceIte, p5, p6, p7, p8, c1]

def fx57 := And.intro @ty_3 <| And.intro @zc_3 <| And.intro @z_3 <| And.intro @ty_55 <| And.intro @zc_55 <| And.intro @z_55 <| And.intro @es_55 <| And.intro @eb_55 <| And.intro @sl_55 <| And.intro @is_55 <| And.intro @el_55 <| And.intro @ze_55 <| And.intro @ez_55 <| And.intro @ty_56 <| And.intro @zc_56 <| And.intro @z_56 <| And.intro @es_56 <| And.intro @eb_56 <| And.intro @sl_56 <| And.intro @is_56 <| And.intro @el_56 <| And.intro @ze_56 <| And.intro @ez_56 <| And.intro @ty_58 <| And.intro @zc_58 <| And.intro @z_58 <| And.intro @fo_58_0 <| And.intro @fi_58_0 <| And.intro @ft_58_0 <| And.intro @fo_58_1 <| And.intro @fi_58_1 <| And.intro @ft_58_1 <| @lay_58
set_option maxHeartbeats 4000000 in
theorem markCyclicProof_sat {a0 : CyclicProof} {a1 : Int}  {r : Int × (List Int) × (List SizeGraph)} (h : markCyclicProof a0 a1 = some r) : SatIO Try.prog 57 [((CyclicProof.pv true) a0), (I a1)] [((CyclicProof.pv true) (CyclicProof.mk r.2.1 r.2.2)), (I a1)] (I r.1) := by
  replace h := Run.of h
  unfold markCyclicProof at h
  refine SatIO.of_m (nt := 14) (rs := [.tmp 4]) (n := 100000) Try.func57 rfl rfl rfl rfl (by simp) ?_
  simp -failIfUnchanged only [↓RA, ↓RI, RB, RJ, RS, fx57, p1, p2, p3, p4, reduceIte, p5, p6, p7, p8]
  repeat (first | with_reducible refine noR_and (by repeat (first | exact noR_empty _ _ | exact noR_nilS _ _ | refine noR_mk _ _ _ _ _ rfl ?_ | refine noR_mkS _ _ _ _ _ rfl ?_)) ?_ | with_reducible refine noC_and (by repeat (first | exact noC_empty _ _ (by simp -failIfUnchanged only [↓RA, ↓RI, RB, RJ, RS, fx57, p1, p2, p3, p4, reduceIte, p5, p6, p7, p8]) | exact noC_nilS _ _ (by simp -failIfUnchanged only [↓RA, ↓RI, RB, RJ, RS, fx57, p1, p2, p3, p4, reduceIte, p5, p6, p7, p8]) | refine noC_mk _ _ _ _ _ rfl ?_ | refine noC_mkS _ _ _ _ _ rfl ?_)) ?_ | with_reducible refine and_ac ?_ | with_reducible refine And.intro (a := _ = List.range _) (by rfl) ?_)
  obtain ⟨v8, hv8, h⟩ := run_bind h
  refine CallH.io [(.own 10000), (.pv (I a1))] [(10000, (1, v8.2.map I))] (markIntS_sat hv8) ?_ ?_ <;> simp -failIfUnchanged only [↓RA, ↓RI, RB, RJ, RS, fx57, p1, p2, p3, p4, reduceIte, p5, p6, p7, p8]
  obtain ⟨v12, hv12, h⟩ := run_bind h
  refine CallH.io [(.own 10001), (.pv (I v8.1))] [(10001, (3, v12.2.map (SizeGraph.pv true)))] (markSizeGraphS_sat hv12) ?_ ?_ <;> simp -failIfUnchanged only [↓RA, ↓RI, RB, RJ, RS, fx57, p1, p2, p3, p4, reduceIte, p5, p6, p7, p8]
  have h := run_some h
  obtain rfl : _ = r := h
  refine FinIO.mk ?_
  simp -failIfUnchanged only [↓RA, ↓RI, RB, RJ, RS, fx57, p1, p2, p3, p4, reduceIte, p5, p6, p7, p8]

def fx59 := And.intro @ty_3 <| And.intro @zc_3 <| And.intro @z_3 <| And.intro @ty_46 <| And.intro @zc_46 <| And.intro @z_46 <| And.intro @es_46 <| And.intro @eb_46 <| And.intro @sl_46 <| And.intro @is_46 <| And.intro @el_46 <| And.intro @ze_46 <| And.intro @ez_46 <| And.intro @ty_48 <| And.intro @zc_48 <| And.intro @z_48 <| And.intro @fo_48_0 <| And.intro @fi_48_0 <| And.intro @ft_48_0 <| And.intro @fo_48_1 <| And.intro @fi_48_1 <| And.intro @ft_48_1 <| And.intro @fo_48_2 <| And.intro @fi_48_2 <| And.intro @ft_48_2 <| @lay_48
set_option maxHeartbeats 4000000 in
theorem markSizeGraph_sat {a0 : SizeGraph} {a1 : Int}  {r : Int × (List SizeEdge)} (h : markSizeGraph a0 a1 = some r) : SatIO Try.prog 59 [((SizeGraph.pv true) a0), (I a1)] [((SizeGraph.pv true) (SizeGraph.mk a0.Source a0.Target r.2)), (I a1)] (I r.1) := by
  replace h := Run.of h
  unfold markSizeGraph at h
  refine SatIO.of_m (nt := 10) (rs := [.tmp 4]) (n := 100000) Try.func59 rfl rfl rfl rfl (by simp) ?_
  simp -failIfUnchanged only [↓RA, ↓RI, RB, RJ, RS, fx59, p1, p2, p3, p4, reduceIte, p5, p6, p7, p8]
  repeat (first | with_reducible refine noR_and (by repeat (first | exact noR_empty _ _ | exact noR_nilS _ _ | refine noR_mk _ _ _ _ _ rfl ?_ | refine noR_mkS _ _ _ _ _ rfl ?_)) ?_ | with_reducible refine noC_and (by repeat (first | exact noC_empty _ _ (by simp -failIfUnchanged only [↓RA, ↓RI, RB, RJ, RS, fx59, p1, p2, p3, p4, reduceIte, p5, p6, p7, p8]) | exact noC_nilS _ _ (by simp -failIfUnchanged only [↓RA, ↓RI, RB, RJ, RS, fx59, p1, p2, p3, p4, reduceIte, p5, p6, p7, p8]) | refine noC_mk _ _ _ _ _ rfl ?_ | refine noC_mkS _ _ _ _ _ rfl ?_)) ?_ | with_reducible refine and_ac ?_ | with_reducible refine And.intro (a := _ = List.range _) (by rfl) ?_)
  obtain ⟨v8, hv8, h⟩ := run_bind h
  refine CallH.io [(.own 10000), (.pv (I a1))] [(10000, (3, v8.2.map (SizeEdge.pv false)))] (markSizeEdgeS_sat hv8) ?_ ?_ <;> simp -failIfUnchanged only [↓RA, ↓RI, RB, RJ, RS, fx59, p1, p2, p3, p4, reduceIte, p5, p6, p7, p8]
  have h := run_some h
  obtain rfl : _ = r := h
  refine FinIO.mk ?_
  simp -failIfUnchanged only [↓RA, ↓RI, RB, RJ, RS, fx59, p1, p2, p3, p4, reduceIte, p5, p6, p7, p8]

def fx137 := And.intro @ty_3 <| And.intro @zc_3 <| And.intro @z_3 <| And.intro @ty_4 <| And.intro @zc_4 <| And.intro @z_4 <| And.intro @u_4 <| And.intro @ty_46 <| And.intro @zc_46 <| And.intro @z_46 <| And.intro @es_46 <| And.intro @eb_46 <| And.intro @sl_46 <| And.intro @is_46 <| And.intro @el_46 <| And.intro @ze_46 <| And.intro @ez_46 <| And.intro @ty_148 <| And.intro @zc_148 <| And.intro @z_148 <| And.intro @fo_148_0 <| And.intro @fi_148_0 <| And.intro @ft_148_0 <| And.intro @fo_148_1 <| And.intro @fi_148_1 <| And.intro @ft_148_1 <| And.intro @fo_148_2 <| And.intro @fi_148_2 <| And.intro @ft_148_2 <| @lay_148
set_option maxHeartbeats 4000000 in
theorem heldSizeEdgeS_sat {a0 : List SizeEdge} {a1 : Int}  {r : Int} (h : heldSizeEdgeS a0 a1 = some r) : Sat Try.prog 137 [(.sl false 3 (a0.map (SizeEdge.pv false))), (I a1)] (I r) := by
  replace h := Run.of h
  unfold heldSizeEdgeS at h
  refine Sat.of_m (nt := 42) (rs := [.tmp 4]) (n := 100000) Try.func137 rfl rfl rfl rfl (by simp) ?_
  simp -failIfUnchanged only [↓RA, RB, RS, fx137, p1, p2, p3, p4, reduceIte, p5, p6, p7, p8]
  refine Mg.know_sl (b := false) (sz := 3) (es := a0.map (SizeEdge.pv false)) 0 (by simp -failIfUnchanged only [↓RA, RB, RS, fx137, p1, p2, p3, p4, reduceIte, p5, p6, p7, p8]) fun hl0 => ?_; rw [List.length_map] at hl0
  replace h := run_loop h
  refine Mg.forN h (fun i2 s2 => [(0, .val (.pv (.sl false 3 (a0.map (SizeEdge.pv false))))), (1, .val (.pv (I s2))), (5, .val (.pv (I (i2 : Int))))]) (fun i2 s2 => []) (St.le_mk2 (by simp -failIfUnchanged only [↓RA, RB, RS, fx137, p1, p2, p3, p4, reduceIte, p5, p6, p7, p8])) (fun i2 s2 hi h => ?_) (fun s2 h => ?_)
  · have w2 := wrap_succ (i := i2) (by omega)
    simp -failIfUnchanged only [↓RA, RB, RS, fx137, p1, p2, p3, p4, reduceIte, p5, p6, p7, p8]
    refine CondH.tt (decide_eq_true (by omega)) (fun c1 => ?_)
    simp -failIfUnchanged only [↓RA, RB, RS, fx137, p1, p2, p3, p4, reduceIte, p5, p6, p7, p8, c1]
    obtain ⟨v14, hv14, h⟩ := run_bind h
    refine IdxH.mk (f := (SizeEdge.pv false)) hv14 ?_ ?_ <;> simp -failIfUnchanged only [↓RA, RB, RS, fx137, p1, p2, p3, p4, reduceIte, p5, p6, p7, p8, c1]
    refine CondH.mk (fun c2 => ?_) (fun c2 => ?_)
    · replace h := run_t c2 h
      simp -failIfUnchanged only [↓RA, RB, RS, fx137, p1, p2, p3, p4, reduceIte, p5, p6, p7, p8, c1, c2]
      obtain ⟨v23, hv23, h⟩ := run_bind h
      refine IdxH.mk (f := (SizeEdge.pv false)) hv23 ?_ ?_ <;> simp -failIfUnchanged only [↓RA, RB, RS, fx137, p1, p2, p3, p4, reduceIte, p5, p6, p7, p8, c1, c2]
      refine CondH.mk (fun c3 => ?_) (fun c3 => ?_)
      · replace h := run_t c3 h
        simp -failIfUnchanged only [↓RA, RB, RS, fx137, p1, p2, p3, p4, reduceIte, p5, p6, p7, p8, c1, c2, c3]
        obtain ⟨v32, hv32, h⟩ := run_bind h
        refine IdxH.mk (f := (SizeEdge.pv false)) hv32 ?_ ?_ <;> simp -failIfUnchanged only [↓RA, RB, RS, fx137, p1, p2, p3, p4, reduceIte, p5, p6, p7, p8, c1, c2, c3]
        obtain ⟨v36, hv36, h⟩ := run_bind h
        refine remH.mk hv36 ?_
        simp -failIfUnchanged only [↓RA, RB, RS, fx137, p1, p2, p3, p4, reduceIte, p5, p6, p7, p8, c1, c2, c3]
        refine CondH.mk (fun c4 => ?_) (fun c4 => ?_)
        · replace h := run_t c4 h
          simp -failIfUnchanged only [↓RA, RB, RS, fx137, p1, p2, p3, p4, reduceIte, p5, p6, p7, p8, c1, c2, c3, c4]
          have h := run_some h
          refine RdH.mk ⟨_, h, ?_⟩
          refine St.le_mk2 ?_
          simp -failIfUnchanged only [↓RA, RB, RS, fx137, p1, p2, p3, p4, reduceIte, p5, p6, p7, p8, c1, c2, c3, c4, w2]
        · replace h := run_f c4 h
          simp -failIfUnchanged only [↓RA, RB, RS, fx137, p1, p2, p3, p4, reduceIte, p5, p6, p7, p8, c1, c2, c3, c4]
          have h := run_some h
          obtain rfl : _ = r := h
          refine FinH.l ?_
          simp -failIfUnchanged only [↓RA, RB, RS, fx137, p1, p2, p3, p4, reduceIte, p5, p6, p7, p8, c1, c2, c3, c4]
      · replace h := run_f c3 h
        simp -failIfUnchanged only [↓RA, RB, RS, fx137, p1, p2, p3, p4, reduceIte, p5, p6, p7, p8, c1, c2, c3]
        have h := run_some h
        obtain rfl : _ = r := h
        refine FinH.l ?_
        simp -failIfUnchanged only [↓RA, RB, RS, fx137, p1, p2, p3, p4, reduceIte, p5, p6, p7, p8, c1, c2, c3]
    · replace h := run_f c2 h
      simp -failIfUnchanged only [↓RA, RB, RS, fx137, p1, p2, p3, p4, reduceIte, p5, p6, p7, p8, c1, c2]
      have h := run_some h
      obtain rfl : _ = r := h
      refine FinH.l ?_
      simp -failIfUnchanged only [↓RA, RB, RS, fx137, p1, p2, p3, p4, reduceIte, p5, p6, p7, p8, c1, c2]
  · simp -failIfUnchanged only [↓RA, RB, RS, fx137, p1, p2, p3, p4, reduceIte, p5, p6, p7, p8]
    refine CondH.ff (decide_eq_false (by omega)) (fun c5 => ?_)
    simp -failIfUnchanged only [↓RA, RB, RS, fx137, p1, p2, p3, p4, reduceIte, p5, p6, p7, p8, c5]
    have h := run_some h
    obtain rfl : _ = r := h
    refine FinH.l ?_
    simp -failIfUnchanged only [↓RA, RB, RS, fx137, p1, p2, p3, p4, reduceIte, p5, p6, p7, p8, c5]

def fx60 := And.intro @ty_3 <| And.intro @zc_3 <| And.intro @z_3 <| And.intro @ty_46 <| And.intro @zc_46 <| And.intro @z_46 <| And.intro @es_46 <| And.intro @eb_46 <| And.intro @sl_46 <| And.intro @is_46 <| And.intro @el_46 <| And.intro @ze_46 <| And.intro @ez_46 <| And.intro @ty_48 <| And.intro @zc_48 <| And.intro @z_48 <| And.intro @fo_48_0 <| And.intro @fi_48_0 <| And.intro @ft_48_0 <| And.intro @fo_48_1 <| And.intro @fi_48_1 <| And.intro @ft_48_1 <| And.intro @fo_48_2 <| And.intro @fi_48_2 <| And.intro @ft_48_2 <| @lay_48
set_option maxHeartbeats 4000000 in
theorem heldSizeGraph_sat {a0 : SizeGraph} {a1 : Int}  {r : Int} (h : heldSizeGraph a0 a1 = some r) : Sat Try.prog 60 [((SizeGraph.pv false) a0), (I a1)] (I r) := by
  replace h := Run.of h
  unfold heldSizeGraph at h
  refine Sat.of_m (nt := 12) (rs := [.tmp 4]) (n := 100000) Try.func60 rfl rfl rfl rfl (by simp) ?_
  simp -failIfUnchanged only [↓RA, RB, RS, fx60, p1, p2, p3, p4, reduceIte, p5, p6, p7, p8]
  repeat (first | with_reducible refine noR_and (by repeat (first | exact noR_empty _ _ | exact noR_nilS _ _ | refine noR_mk _ _ _ _ _ rfl ?_ | refine noR_mkS _ _ _ _ _ rfl ?_)) ?_ | with_reducible refine noC_and (by repeat (first | exact noC_empty _ _ (by simp -failIfUnchanged only [↓RA, RB, RS, fx60, p1, p2, p3, p4, reduceIte, p5, p6, p7, p8]) | exact noC_nilS _ _ (by simp -failIfUnchanged only [↓RA, RB, RS, fx60, p1, p2, p3, p4, reduceIte, p5, p6, p7, p8]) | refine noC_mk _ _ _ _ _ rfl ?_ | refine noC_mkS _ _ _ _ _ rfl ?_)) ?_ | with_reducible refine and_ac ?_ | with_reducible refine And.intro (a := _ = List.range _) (by rfl) ?_)
  obtain ⟨v8, hv8, h⟩ := run_bind h
  refine CallH.mk [false, false] (heldSizeEdgeS_sat hv8) ?_ ?_ <;> simp -failIfUnchanged only [↓RA, RB, RS, fx60, p1, p2, p3, p4, reduceIte, p5, p6, p7, p8]
  refine CondH.mk (fun c1 => ?_) (fun c1 => ?_)
  · replace h := run_t c1 h
    simp -failIfUnchanged only [↓RA, RB, RS, fx60, p1, p2, p3, p4, reduceIte, p5, p6, p7, p8, c1]
    have h := run_some h
    obtain rfl : _ = r := h
    refine FinH.l ?_
    simp -failIfUnchanged only [↓RA, RB, RS, fx60, p1, p2, p3, p4, reduceIte, p5, p6, p7, p8, c1]
  · replace h := run_f c1 h
    simp -failIfUnchanged only [↓RA, RB, RS, fx60, p1, p2, p3, p4, reduceIte, p5, p6, p7, p8, c1]
    have h := run_some h
    obtain rfl : _ = r := h
    refine FinH.l ?_
    simp -failIfUnchanged only [↓RA, RB, RS, fx60, p1, p2, p3, p4, reduceIte, p5, p6, p7, p8, c1]

def fx7 := And.intro @ty_3 <| And.intro @zc_3 <| And.intro @z_3 <| And.intro @ty_4 <| And.intro @zc_4 <| And.intro @z_4 <| And.intro @u_4 <| And.intro @ty_48 <| And.intro @zc_48 <| And.intro @z_48 <| And.intro @fo_48_0 <| And.intro @fi_48_0 <| And.intro @ft_48_0 <| And.intro @fo_48_1 <| And.intro @fi_48_1 <| And.intro @ft_48_1 <| And.intro @fo_48_2 <| And.intro @fi_48_2 <| And.intro @ft_48_2 <| And.intro @lay_48 <| And.intro @ty_55 <| And.intro @zc_55 <| And.intro @z_55 <| And.intro @es_55 <| And.intro @eb_55 <| And.intro @sl_55 <| And.intro @is_55 <| And.intro @el_55 <| And.intro @ze_55 <| And.intro @ez_55 <| And.intro @ty_58 <| And.intro @zc_58 <| And.intro @z_58 <| And.intro @fo_58_0 <| And.intro @fi_58_0 <| And.intro @ft_58_0 <| And.intro @fo_58_1 <| And.intro @fi_58_1 <| And.intro @ft_58_1 <| And.intro @lay_58 <| And.intro @ty_85 <| And.intro @zc_85 <| And.intro @z_85 <| And.intro @fo_85_0 <| And.intro @fi_85_0 <| And.intro @ft_85_0 <| And.intro @fo_85_1 <| And.intro @fi_85_1 <| And.intro @ft_85_1 <| And.intro @lay_85 <| @mixedT
set_option maxHeartbeats 4000000 in
theorem FnExactPathGraph_sat {a0 : CyclicProof} {a1 : List Int}  {r : Bool} (h : FnExactPathGraph a0 a1 = some r) : Sat Try.prog 7 [((CyclicProof.pv false) a0), (.sl false 1 (a1.map I))] (B r) := by
  replace h := Run.of h
  unfold FnExactPathGraph at h
  refine Sat.of_m (nt := 117) (rs := [.tmp 4]) (n := 100000) Try.func7 rfl rfl rfl rfl (by simp) ?_
  simp -failIfUnchanged only [↓RA, RB, RJ, RS, fx7, p1, p2, p3, p4, reduceIte, p5, p6, p7, p8]
  repeat (first | with_reducible refine noR_and (by repeat (first | exact noR_empty _ _ | exact noR_nilS _ _ | refine noR_mk _ _ _ _ _ rfl ?_ | refine noR_mkS _ _ _ _ _ rfl ?_)) ?_ | with_reducible refine noC_and (by repeat (first | exact noC_empty _ _ (by simp -failIfUnchanged only [↓RA, RB, RJ, RS, fx7, p1, p2, p3, p4, reduceIte, p5, p6, p7, p8]) | exact noC_nilS _ _ (by simp -failIfUnchanged only [↓RA, RB, RJ, RS, fx7, p1, p2, p3, p4, reduceIte, p5, p6, p7, p8]) | refine noC_mk _ _ _ _ _ rfl ?_ | refine noC_mkS _ _ _ _ _ rfl ?_)) ?_ | with_reducible refine and_ac ?_ | with_reducible refine And.intro (a := _ = List.range _) (by rfl) ?_)
  refine CondH.mk (fun c1 => ?_) (fun c1 => ?_)
  · replace h := run_t c1 h
    simp -failIfUnchanged only [↓RA, RB, RJ, RS, fx7, p1, p2, p3, p4, reduceIte, p5, p6, p7, p8, c1]
    have h := run_some h
    obtain rfl : _ = r := h
    refine FinH.l ?_
    simp -failIfUnchanged only [↓RA, RB, RJ, RS, fx7, p1, p2, p3, p4, reduceIte, p5, p6, p7, p8, c1]
  · replace h := run_f c1 h
    simp -failIfUnchanged only [↓RA, RB, RJ, RS, fx7, p1, p2, p3, p4, reduceIte, p5, p6, p7, p8, c1]
    obtain ⟨v22, hv22, h⟩ := run_bind h
    refine CallH.mk [false, false] (szCyclicProof_sat hv22) ?_ ?_ <;> simp -failIfUnchanged only [↓RA, RB, RJ, RS, fx7, p1, p2, p3, p4, reduceIte, p5, p6, p7, p8, c1]
    refine CondH.mk (fun c2 => ?_) (fun c2 => ?_)
    · replace h := run_t c2 h
      simp -failIfUnchanged only [↓RA, RB, RJ, RS, fx7, p1, p2, p3, p4, reduceIte, p5, p6, p7, p8, c1, c2]
      have h := run_some h
      obtain rfl : _ = r := h
      refine FinH.l ?_
      simp -failIfUnchanged only [↓RA, RB, RJ, RS, fx7, p1, p2, p3, p4, reduceIte, p5, p6, p7, p8, c1, c2]
    · replace h := run_f c2 h
      simp -failIfUnchanged only [↓RA, RB, RJ, RS, fx7, p1, p2, p3, p4, reduceIte, p5, p6, p7, p8, c1, c2]
      obtain ⟨v27, hv27, h⟩ := run_bind h
      refine CallH.mk [false] (toCyclicProof_sat hv27) ?_ ?_ <;> simp -failIfUnchanged only [↓RA, RB, RJ, RS, fx7, p1, p2, p3, p4, reduceIte, p5, p6, p7, p8, c1, c2]
      repeat (first | with_reducible refine noR_and (by repeat (first | exact noR_empty _ _ | exact noR_nilS _ _ | refine noR_mk _ _ _ _ _ rfl ?_ | refine noR_mkS _ _ _ _ _ rfl ?_)) ?_ | with_reducible refine noC_and (by repeat (first | exact noC_empty _ _ (by simp -failIfUnchanged only [↓RA, RB, RJ, RS, fx7, p1, p2, p3, p4, reduceIte, p5, p6, p7, p8]) | exact noC_nilS _ _ (by simp -failIfUnchanged only [↓RA, RB, RJ, RS, fx7, p1, p2, p3, p4, reduceIte, p5, p6, p7, p8]) | refine noC_mk _ _ _ _ _ rfl ?_ | refine noC_mkS _ _ _ _ _ rfl ?_)) ?_ | with_reducible refine and_ac ?_ | with_reducible refine And.intro (a := _ = List.range _) (by rfl) ?_)
      obtain ⟨v29, hv29, h⟩ := run_bind h
      refine CallH.mk [false] (toIntS_sat hv29) ?_ ?_ <;> simp -failIfUnchanged only [↓RA, RB, RJ, RS, fx7, p1, p2, p3, p4, reduceIte, p5, p6, p7, p8, c1, c2]
      repeat (first | with_reducible refine noR_and (by repeat (first | exact noR_empty _ _ | exact noR_nilS _ _ | refine noR_mk _ _ _ _ _ rfl ?_ | refine noR_mkS _ _ _ _ _ rfl ?_)) ?_ | with_reducible refine noC_and (by repeat (first | exact noC_empty _ _ (by simp -failIfUnchanged only [↓RA, RB, RJ, RS, fx7, p1, p2, p3, p4, reduceIte, p5, p6, p7, p8]) | exact noC_nilS _ _ (by simp -failIfUnchanged only [↓RA, RB, RJ, RS, fx7, p1, p2, p3, p4, reduceIte, p5, p6, p7, p8]) | refine noC_mk _ _ _ _ _ rfl ?_ | refine noC_mkS _ _ _ _ _ rfl ?_)) ?_ | with_reducible refine and_ac ?_ | with_reducible refine And.intro (a := _ = List.range _) (by rfl) ?_)
      obtain ⟨v30, hv30, h⟩ := run_bind h
      refine CallH.mk [false, false] (spec_PathGraph_sat hv30) ?_ ?_ <;> simp -failIfUnchanged only [↓RA, RB, RJ, RS, fx7, p1, p2, p3, p4, reduceIte, p5, p6, p7, p8, c1, c2]
      repeat (first | with_reducible refine noR_and (by repeat (first | exact noR_empty _ _ | exact noR_nilS _ _ | refine noR_mk _ _ _ _ _ rfl ?_ | refine noR_mkS _ _ _ _ _ rfl ?_)) ?_ | with_reducible refine noC_and (by repeat (first | exact noC_empty _ _ (by simp -failIfUnchanged only [↓RA, RB, RJ, RS, fx7, p1, p2, p3, p4, reduceIte, p5, p6, p7, p8]) | exact noC_nilS _ _ (by simp -failIfUnchanged only [↓RA, RB, RJ, RS, fx7, p1, p2, p3, p4, reduceIte, p5, p6, p7, p8]) | refine noC_mk _ _ _ _ _ rfl ?_ | refine noC_mkS _ _ _ _ _ rfl ?_)) ?_ | with_reducible refine and_ac ?_ | with_reducible refine And.intro (a := _ = List.range _) (by rfl) ?_)
      obtain ⟨v34, hv34, h⟩ := run_bind h
      refine CallH.mk [false] (toCyclicProof_sat hv34) ?_ ?_ <;> simp -failIfUnchanged only [↓RA, RB, RJ, RS, fx7, p1, p2, p3, p4, reduceIte, p5, p6, p7, p8, c1, c2]
      repeat (first | with_reducible refine noR_and (by repeat (first | exact noR_empty _ _ | exact noR_nilS _ _ | refine noR_mk _ _ _ _ _ rfl ?_ | refine noR_mkS _ _ _ _ _ rfl ?_)) ?_ | with_reducible refine noC_and (by repeat (first | exact noC_empty _ _ (by simp -failIfUnchanged only [↓RA, RB, RJ, RS, fx7, p1, p2, p3, p4, reduceIte, p5, p6, p7, p8]) | exact noC_nilS _ _ (by simp -failIfUnchanged only [↓RA, RB, RJ, RS, fx7, p1, p2, p3, p4, reduceIte, p5, p6, p7, p8]) | refine noC_mk _ _ _ _ _ rfl ?_ | refine noC_mkS _ _ _ _ _ rfl ?_)) ?_ | with_reducible refine and_ac ?_ | with_reducible refine And.intro (a := _ = List.range _) (by rfl) ?_)
      obtain ⟨v36, hv36, h⟩ := run_bind h
      refine CallH.mk [false] (toIntS_sat hv36) ?_ ?_ <;> simp -failIfUnchanged only [↓RA, RB, RJ, RS, fx7, p1, p2, p3, p4, reduceIte, p5, p6, p7, p8, c1, c2]
      repeat (first | with_reducible refine noR_and (by repeat (first | exact noR_empty _ _ | exact noR_nilS _ _ | refine noR_mk _ _ _ _ _ rfl ?_ | refine noR_mkS _ _ _ _ _ rfl ?_)) ?_ | with_reducible refine noC_and (by repeat (first | exact noC_empty _ _ (by simp -failIfUnchanged only [↓RA, RB, RJ, RS, fx7, p1, p2, p3, p4, reduceIte, p5, p6, p7, p8]) | exact noC_nilS _ _ (by simp -failIfUnchanged only [↓RA, RB, RJ, RS, fx7, p1, p2, p3, p4, reduceIte, p5, p6, p7, p8]) | refine noC_mk _ _ _ _ _ rfl ?_ | refine noC_mkS _ _ _ _ _ rfl ?_)) ?_ | with_reducible refine and_ac ?_ | with_reducible refine And.intro (a := _ = List.range _) (by rfl) ?_)
      obtain ⟨v40, hv40, h⟩ := run_bind h
      refine CallH.mk [false, false] (impl_PathGraph_sat hv40) ?_ ?_ <;> simp -failIfUnchanged only [↓RA, RB, RJ, RS, fx7, p1, p2, p3, p4, reduceIte, p5, p6, p7, p8, c1, c2]
      repeat (first | with_reducible refine noR_and (by repeat (first | exact noR_empty _ _ | exact noR_nilS _ _ | refine noR_mk _ _ _ _ _ rfl ?_ | refine noR_mkS _ _ _ _ _ rfl ?_)) ?_ | with_reducible refine noC_and (by repeat (first | exact noC_empty _ _ (by simp -failIfUnchanged only [↓RA, RB, RJ, RS, fx7, p1, p2, p3, p4, reduceIte, p5, p6, p7, p8]) | exact noC_nilS _ _ (by simp -failIfUnchanged only [↓RA, RB, RJ, RS, fx7, p1, p2, p3, p4, reduceIte, p5, p6, p7, p8]) | refine noC_mk _ _ _ _ _ rfl ?_ | refine noC_mkS _ _ _ _ _ rfl ?_)) ?_ | with_reducible refine and_ac ?_ | with_reducible refine And.intro (a := _ = List.range _) (by rfl) ?_)
      obtain ⟨v45, hv45, h⟩ := run_bind h
      refine CallH.mk [false, false] (eqSizeGraph_sat hv45) ?_ ?_ <;> simp -failIfUnchanged only [↓RA, RB, RJ, RS, fx7, p1, p2, p3, p4, reduceIte, p5, p6, p7, p8, c1, c2]
      refine CondH.mk (fun c3 => ?_) (fun c3 => ?_)
      · replace h := run_t c3 h
        simp -failIfUnchanged only [↓RA, RB, RJ, RS, fx7, p1, p2, p3, p4, reduceIte, p5, p6, p7, p8, c1, c2, c3]
        refine CondH.mk (fun c4 => ?_) (fun c4 => ?_)
        · replace h := run_t c4 h
          simp -failIfUnchanged only [↓RA, RB, RJ, RS, fx7, p1, p2, p3, p4, reduceIte, p5, p6, p7, p8, c1, c2, c3, c4]
          obtain ⟨v54, hv54, h⟩ := run_bind h
          refine CallH.mk [false] (toCyclicProof_sat hv54) ?_ ?_ <;> simp -failIfUnchanged only [↓RA, RB, RJ, RS, fx7, p1, p2, p3, p4, reduceIte, p5, p6, p7, p8, c1, c2, c3, c4]
          repeat (first | with_reducible refine noR_and (by repeat (first | exact noR_empty _ _ | exact noR_nilS _ _ | refine noR_mk _ _ _ _ _ rfl ?_ | refine noR_mkS _ _ _ _ _ rfl ?_)) ?_ | with_reducible refine noC_and (by repeat (first | exact noC_empty _ _ (by simp -failIfUnchanged only [↓RA, RB, RJ, RS, fx7, p1, p2, p3, p4, reduceIte, p5, p6, p7, p8]) | exact noC_nilS _ _ (by simp -failIfUnchanged only [↓RA, RB, RJ, RS, fx7, p1, p2, p3, p4, reduceIte, p5, p6, p7, p8]) | refine noC_mk _ _ _ _ _ rfl ?_ | refine noC_mkS _ _ _ _ _ rfl ?_)) ?_ | with_reducible refine and_ac ?_ | with_reducible refine And.intro (a := _ = List.range _) (by rfl) ?_)
          obtain ⟨v55, hv55, h⟩ := run_bind h
          refine CallH.mk [false, false] (eqCyclicProof_sat hv55) ?_ ?_ <;> simp -failIfUnchanged only [↓RA, RB, RJ, RS, fx7, p1, p2, p3, p4, reduceIte, p5, p6, p7, p8, c1, c2, c3, c4]
          refine And.intro (DrawH.mk [] [864, 865] (by rfl) (by first | rfl | (simp -failIfUnchanged only [↓RA, RB, RJ, RS, fx7, p1, p2, p3, p4, reduceIte, p5, p6, p7, p8] <;> rfl)) (by first | rfl | (simp -failIfUnchanged only [↓RA, RB, RJ, RS, fx7, p1, p2, p3, p4, reduceIte, p5, p6, p7, p8] <;> rfl)) (by first | rfl | (simp -failIfUnchanged only [↓RA, RB, RJ, RS, fx7, p1, p2, p3, p4, reduceIte, p5, p6, p7, p8] <;> rfl)) (by simp) (by simp -failIfUnchanged only [↓RA, RB, RJ, RS, fx7, p1, p2, p3, p4, reduceIte, p5, p6, p7, p8]; repeat (first | exact noC_empty _ _ (by simp -failIfUnchanged only [↓RA, RB, RJ, RS, fx7, p1, p2, p3, p4, reduceIte, p5, p6, p7, p8]) | exact noC_nilS _ _ (by simp -failIfUnchanged only [↓RA, RB, RJ, RS, fx7, p1, p2, p3, p4, reduceIte, p5, p6, p7, p8]) | refine noC_mk _ _ _ _ _ rfl ?_ | refine noC_mkS _ _ _ _ _ rfl ?_ | refine And.intro ?_ ?_))) ?_
          simp -failIfUnchanged only [↓RA, RB, RJ, RS, fx7, p1, p2, p3, p4, reduceIte, p5, p6, p7, p8, c1, c2, c3, c4]
          refine CondH.mk (fun c5 => ?_) (fun c5 => ?_)
          · replace h := run_t c5 h
            simp -failIfUnchanged only [↓RA, RB, RJ, RS, fx7, p1, p2, p3, p4, reduceIte, p5, p6, p7, p8, c1, c2, c3, c4, c5]
            obtain ⟨v59, hv59, h⟩ := run_bind h
            refine CallH.mk [false] (toIntS_sat hv59) ?_ ?_ <;> simp -failIfUnchanged only [↓RA, RB, RJ, RS, fx7, p1, p2, p3, p4, reduceIte, p5, p6, p7, p8, c1, c2, c3, c4, c5]
            repeat (first | with_reducible refine noR_and (by repeat (first | exact noR_empty _ _ | exact noR_nilS _ _ | refine noR_mk _ _ _ _ _ rfl ?_ | refine noR_mkS _ _ _ _ _ rfl ?_)) ?_ | with_reducible refine noC_and (by repeat (first | exact noC_empty _ _ (by simp -failIfUnchanged only [↓RA, RB, RJ, RS, fx7, p1, p2, p3, p4, reduceIte, p5, p6, p7, p8]) | exact noC_nilS _ _ (by simp -failIfUnchanged only [↓RA, RB, RJ, RS, fx7, p1, p2, p3, p4, reduceIte, p5, p6, p7, p8]) | refine noC_mk _ _ _ _ _ rfl ?_ | refine noC_mkS _ _ _ _ _ rfl ?_)) ?_ | with_reducible refine and_ac ?_ | with_reducible refine And.intro (a := _ = List.range _) (by rfl) ?_)
            obtain ⟨v60, hv60, h⟩ := run_bind h
            refine CallH.mk [false, false] (eqIntS_sat hv60) ?_ ?_ <;> simp -failIfUnchanged only [↓RA, RB, RJ, RS, fx7, p1, p2, p3, p4, reduceIte, p5, p6, p7, p8, c1, c2, c3, c4, c5]
            refine CondH.mk (fun c6 => ?_) (fun c6 => ?_)
            · replace h := run_t c6 h
              simp -failIfUnchanged only [↓RA, RB, RJ, RS, fx7, p1, p2, p3, p4, reduceIte, p5, p6, p7, p8, c1, c2, c3, c4, c5, c6]
              obtain ⟨v64, hv64, h⟩ := run_bind h
              refine CallH.io [(.node [(.own 544), (.own 545)]), (.pv (I (1 : Int)))] [(544, (1, v64.2.1.map I)), (545, (3, v64.2.2.map (SizeGraph.pv true)))] (markCyclicProof_sat hv64) ?_ ?_ <;> simp -failIfUnchanged only [↓RA, RB, RJ, RS, fx7, p1, p2, p3, p4, reduceIte, p5, p6, p7, p8, c1, c2, c3, c4, c5, c6]
              obtain ⟨v67, hv67, h⟩ := run_bind h
              refine CallH.io [(.own 576), (.pv (I v64.1))] [(576, (1, v67.2.map I))] (markIntS_sat hv67) ?_ ?_ <;> simp -failIfUnchanged only [↓RA, RB, RJ, RS, fx7, p1, p2, p3, p4, reduceIte, p5, p6, p7, p8, c1, c2, c3, c4, c5, c6]
              refine CondH.mk (fun c7 => ?_) (fun c7 => ?_)
              · replace h := run_t c7 h
                simp -failIfUnchanged only [↓RA, RB, RJ, RS, fx7, p1, p2, p3, p4, reduceIte, p5, p6, p7, p8, c1, c2, c3, c4, c5, c6, c7]
                have h := run_some h
                obtain rfl : _ = r := h
                refine FinH.l ?_
                simp -failIfUnchanged only [↓RA, RB, RJ, RS, fx7, p1, p2, p3, p4, reduceIte, p5, p6, p7, p8, c1, c2, c3, c4, c5, c6, c7]
              · replace h := run_f c7 h
                simp -failIfUnchanged only [↓RA, RB, RJ, RS, fx7, p1, p2, p3, p4, reduceIte, p5, p6, p7, p8, c1, c2, c3, c4, c5, c6, c7]
                obtain ⟨v73, hv73, h⟩ := run_bind h
                refine CallH.mk [false, false] (eqSizeGraph_sat hv73) ?_ ?_ <;> simp -failIfUnchanged only [↓RA, RB, RJ, RS, fx7, p1, p2, p3, p4, reduceIte, p5, p6, p7, p8, c1, c2, c3, c4, c5, c6, c7]
                refine CondH.mk (fun c8 => ?_) (fun c8 => ?_)
                · replace h := run_t c8 h
                  simp -failIfUnchanged only [↓RA, RB, RJ, RS, fx7, p1, p2, p3, p4, reduceIte, p5, p6, p7, p8, c1, c2, c3, c4, c5, c6, c7, c8]
                  obtain ⟨v83, hv83, h⟩ := run_bind h
                  refine CallH.io [(.node [(.pv (I v40.1.Source)), (.pv (I v40.1.Target)), (.own 640)]), (.pv (I (1 : Int)))] [(640, (3, v83.2.map (SizeEdge.pv false)))] (markSizeGraph_sat hv83) ?_ ?_ <;> simp -failIfUnchanged only [↓RA, RB, RJ, RS, fx7, p1, p2, p3, p4, reduceIte, p5, p6, p7, p8, c1, c2, c3, c4, c5, c6, c7, c8]
                  obtain ⟨v86, hv86, h⟩ := run_bind h
                  refine CallH.mk [false, false] (heldSizeGraph_sat hv86) ?_ ?_ <;> simp -failIfUnchanged only [↓RA, RB, RJ, RS, fx7, p1, p2, p3, p4, reduceIte, p5, p6, p7, p8, c1, c2, c3, c4, c5, c6, c7, c8]
                  refine CondH.mk (fun c9 => ?_) (fun c9 => ?_)
                  · replace h := run_t c9 h
                    simp -failIfUnchanged only [↓RA, RB, RJ, RS, fx7, p1, p2, p3, p4, reduceIte, p5, p6, p7, p8, c1, c2, c3, c4, c5, c6, c7, c8, c9]
                    have h := run_some h
                    obtain rfl : _ = r := h
                    refine FinH.l ?_
                    simp -failIfUnchanged only [↓RA, RB, RJ, RS, fx7, p1, p2, p3, p4, reduceIte, p5, p6, p7, p8, c1, c2, c3, c4, c5, c6, c7, c8, c9]
                  · replace h := run_f c9 h
                    simp -failIfUnchanged only [↓RA, RB, RJ, RS, fx7, p1, p2, p3, p4, reduceIte, p5, p6, p7, p8, c1, c2, c3, c4, c5, c6, c7, c8, c9]
                    refine CondH.mk (fun c10 => ?_) (fun c10 => ?_)
                    · replace h := run_t c10 h
                      simp -failIfUnchanged only [↓RA, RB, RJ, RS, fx7, p1, p2, p3, p4, reduceIte, p5, p6, p7, p8, c1, c2, c3, c4, c5, c6, c7, c8, c9, c10]
                      obtain ⟨v94, hv94, h⟩ := run_bind h
                      refine CallH.mk [false] (toCyclicProof_sat hv94) ?_ ?_ <;> simp -failIfUnchanged only [↓RA, RB, RJ, RS, fx7, p1, p2, p3, p4, reduceIte, p5, p6, p7, p8, c1, c2, c3, c4, c5, c6, c7, c8, c9, c10]
                      repeat (first | with_reducible refine noR_and (by repeat (first | exact noR_empty _ _ | exact noR_nilS _ _ | refine noR_mk _ _ _ _ _ rfl ?_ | refine noR_mkS _ _ _ _ _ rfl ?_)) ?_ | with_reducible refine noC_and (by repeat (first | exact noC_empty _ _ (by simp -failIfUnchanged only [↓RA, RB, RJ, RS, fx7, p1, p2, p3, p4, reduceIte, p5, p6, p7, p8]) | exact noC_nilS _ _ (by simp -failIfUnchanged only [↓RA, RB, RJ, RS, fx7, p1, p2, p3, p4, reduceIte, p5, p6, p7, p8]) | refine noC_mk _ _ _ _ _ rfl ?_ | refine noC_mkS _ _ _ _ _ rfl ?_)) ?_ | with_reducible refine and_ac ?_ | with_reducible refine And.intro (a := _ = List.range _) (by rfl) ?_)
                      obtain ⟨v96, hv96, h⟩ := run_bind h
                      refine CallH.mk [false] (toIntS_sat hv96) ?_ ?_ <;> simp -failIfUnchanged only [↓RA, RB, RJ, RS, fx7, p1, p2, p3, p4, reduceIte, p5, p6, p7, p8, c1, c2, c3, c4, c5, c6, c7, c8, c9, c10]
                      repeat (first | with_reducible refine noR_and (by repeat (first | exact noR_empty _ _ | exact noR_nilS _ _ | refine noR_mk _ _ _ _ _ rfl ?_ | refine noR_mkS _ _ _ _ _ rfl ?_)) ?_ | with_reducible refine noC_and (by repeat (first | exact noC_empty _ _ (by simp -failIfUnchanged only [↓RA, RB, RJ, RS, fx7, p1, p2, p3, p4, reduceIte, p5, p6, p7, p8]) | exact noC_nilS _ _ (by simp -failIfUnchanged only [↓RA, RB, RJ, RS, fx7, p1, p2, p3, p4, reduceIte, p5, p6, p7, p8]) | refine noC_mk _ _ _ _ _ rfl ?_ | refine noC_mkS _ _ _ _ _ rfl ?_)) ?_ | with_reducible refine and_ac ?_ | with_reducible refine And.intro (a := _ = List.range _) (by rfl) ?_)
                      obtain ⟨v97, hv97, h⟩ := run_bind h
                      refine CallH.mk [false, false] (impl_PathGraph_sat hv97) ?_ ?_ <;> simp -failIfUnchanged only [↓RA, RB, RJ, RS, fx7, p1, p2, p3, p4, reduceIte, p5, p6, p7, p8, c1, c2, c3, c4, c5, c6, c7, c8, c9, c10]
                      repeat (first | with_reducible refine noR_and (by repeat (first | exact noR_empty _ _ | exact noR_nilS _ _ | refine noR_mk _ _ _ _ _ rfl ?_ | refine noR_mkS _ _ _ _ _ rfl ?_)) ?_ | with_reducible refine noC_and (by repeat (first | exact noC_empty _ _ (by simp -failIfUnchanged only [↓RA, RB, RJ, RS, fx7, p1, p2, p3, p4, reduceIte, p5, p6, p7, p8]) | exact noC_nilS _ _ (by simp -failIfUnchanged only [↓RA, RB, RJ, RS, fx7, p1, p2, p3, p4, reduceIte, p5, p6, p7, p8]) | refine noC_mk _ _ _ _ _ rfl ?_ | refine noC_mkS _ _ _ _ _ rfl ?_)) ?_ | with_reducible refine and_ac ?_ | with_reducible refine And.intro (a := _ = List.range _) (by rfl) ?_)
                      obtain ⟨v102, hv102, h⟩ := run_bind h
                      refine CallH.mk [false, false] (eqSizeGraph_sat hv102) ?_ ?_ <;> simp -failIfUnchanged only [↓RA, RB, RJ, RS, fx7, p1, p2, p3, p4, reduceIte, p5, p6, p7, p8, c1, c2, c3, c4, c5, c6, c7, c8, c9, c10]
                      refine CondH.mk (fun c11 => ?_) (fun c11 => ?_)
                      · replace h := run_t c11 h
                        simp -failIfUnchanged only [↓RA, RB, RJ, RS, fx7, p1, p2, p3, p4, reduceIte, p5, p6, p7, p8, c1, c2, c3, c4, c5, c6, c7, c8, c9, c10, c11]
                        refine CondH.mk (fun c12 => ?_) (fun c12 => ?_)
                        · replace h := run_t c12 h
                          simp -failIfUnchanged only [↓RA, RB, RJ, RS, fx7, p1, p2, p3, p4, reduceIte, p5, p6, p7, p8, c1, c2, c3, c4, c5, c6, c7, c8, c9, c10, c11, c12]
                          obtain ⟨v111, hv111, h⟩ := run_bind h
                          refine CallH.mk [false, false] (heldSizeGraph_sat hv111) ?_ ?_ <;> simp -failIfUnchanged only [↓RA, RB, RJ, RS, fx7, p1, p2, p3, p4, reduceIte, p5, p6, p7, p8, c1, c2, c3, c4, c5, c6, c7, c8, c9, c10, c11, c12]
                          refine CondH.mk (fun c13 => ?_) (fun c13 => ?_)
                          · replace h := run_t c13 h
                            simp -failIfUnchanged only [↓RA, RB, RJ, RS, fx7, p1, p2, p3, p4, reduceIte, p5, p6, p7, p8, c1, c2, c3, c4, c5, c6, c7, c8, c9, c10, c11, c12, c13]
                            have h := run_some h
                            obtain rfl : _ = r := h
                            refine FinH.l ?_
                            simp -failIfUnchanged only [↓RA, RB, RJ, RS, fx7, p1, p2, p3, p4, reduceIte, p5, p6, p7, p8, c1, c2, c3, c4, c5, c6, c7, c8, c9, c10, c11, c12, c13]
                          · replace h := run_f c13 h
                            simp -failIfUnchanged only [↓RA, RB, RJ, RS, fx7, p1, p2, p3, p4, reduceIte, p5, p6, p7, p8, c1, c2, c3, c4, c5, c6, c7, c8, c9, c10, c11, c12, c13]
                            refine CondH.mk (fun c14 => ?_) (fun c14 => ?_)
                            · replace h := run_t c14 h
                              simp -failIfUnchanged only [↓RA, RB, RJ, RS, fx7, p1, p2, p3, p4, reduceIte, p5, p6, p7, p8, c1, c2, c3, c4, c5, c6, c7, c8, c9, c10, c11, c12, c13, c14]
                              have h := run_some h
                              obtain rfl : _ = r := h
                              refine FinH.l ?_
                              simp -failIfUnchanged only [↓RA, RB, RJ, RS, fx7, p1, p2, p3, p4, reduceIte, p5, p6, p7, p8, c1, c2, c3, c4, c5, c6, c7, c8, c9, c10, c11, c12, c13, c14]
                            · replace h := run_f c14 h
                              simp -failIfUnchanged only [↓RA, RB, RJ, RS, fx7, p1, p2, p3, p4, reduceIte, p5, p6, p7, p8, c1, c2, c3, c4, c5, c6, c7, c8, c9, c10, c11, c12, c13, c14]
                              have h := run_some h
                              obtain rfl : _ = r := h
                              refine FinH.l ?_
                              simp -failIfUnchanged only [↓RA, RB, RJ, RS, fx7, p1, p2, p3, p4, reduceIte, p5, p6, p7, p8, c1, c2, c3, c4, c5, c6, c7, c8, c9, c10, c11, c12, c13, c14]
                        · replace h := run_f c12 h
                          simp -failIfUnchanged only [↓RA, RB, RJ, RS, fx7, p1, p2, p3, p4, reduceIte, p5, p6, p7, p8, c1, c2, c3, c4, c5, c6, c7, c8, c9, c10, c11, c12]
                          have h := run_some h
                          obtain rfl : _ = r := h
                          refine FinH.l ?_
                          simp -failIfUnchanged only [↓RA, RB, RJ, RS, fx7, p1, p2, p3, p4, reduceIte, p5, p6, p7, p8, c1, c2, c3, c4, c5, c6, c7, c8, c9, c10, c11, c12]
                      · replace h := run_f c11 h
                        simp -failIfUnchanged only [↓RA, RB, RJ, RS, fx7, p1, p2, p3, p4, reduceIte, p5, p6, p7, p8, c1, c2, c3, c4, c5, c6, c7, c8, c9, c10, c11]
                        have h := run_some h
                        obtain rfl : _ = r := h
                        refine FinH.l ?_
                        simp -failIfUnchanged only [↓RA, RB, RJ, RS, fx7, p1, p2, p3, p4, reduceIte, p5, p6, p7, p8, c1, c2, c3, c4, c5, c6, c7, c8, c9, c10, c11]
                    · replace h := run_f c10 h
                      simp -failIfUnchanged only [↓RA, RB, RJ, RS, fx7, p1, p2, p3, p4, reduceIte, p5, p6, p7, p8, c1, c2, c3, c4, c5, c6, c7, c8, c9, c10]
                      have h := run_some h
                      obtain rfl : _ = r := h
                      refine FinH.l ?_
                      simp -failIfUnchanged only [↓RA, RB, RJ, RS, fx7, p1, p2, p3, p4, reduceIte, p5, p6, p7, p8, c1, c2, c3, c4, c5, c6, c7, c8, c9, c10]
                · replace h := run_f c8 h
                  simp -failIfUnchanged only [↓RA, RB, RJ, RS, fx7, p1, p2, p3, p4, reduceIte, p5, p6, p7, p8, c1, c2, c3, c4, c5, c6, c7, c8]
                  have h := run_some h
                  obtain rfl : _ = r := h
                  refine FinH.l ?_
                  simp -failIfUnchanged only [↓RA, RB, RJ, RS, fx7, p1, p2, p3, p4, reduceIte, p5, p6, p7, p8, c1, c2, c3, c4, c5, c6, c7, c8]
            · replace h := run_f c6 h
              simp -failIfUnchanged only [↓RA, RB, RJ, RS, fx7, p1, p2, p3, p4, reduceIte, p5, p6, p7, p8, c1, c2, c3, c4, c5, c6]
              have h := run_some h
              obtain rfl : _ = r := h
              refine FinH.l ?_
              simp -failIfUnchanged only [↓RA, RB, RJ, RS, fx7, p1, p2, p3, p4, reduceIte, p5, p6, p7, p8, c1, c2, c3, c4, c5, c6]
          · replace h := run_f c5 h
            simp -failIfUnchanged only [↓RA, RB, RJ, RS, fx7, p1, p2, p3, p4, reduceIte, p5, p6, p7, p8, c1, c2, c3, c4, c5]
            have h := run_some h
            obtain rfl : _ = r := h
            refine FinH.l ?_
            simp -failIfUnchanged only [↓RA, RB, RJ, RS, fx7, p1, p2, p3, p4, reduceIte, p5, p6, p7, p8, c1, c2, c3, c4, c5]
        · replace h := run_f c4 h
          simp -failIfUnchanged only [↓RA, RB, RJ, RS, fx7, p1, p2, p3, p4, reduceIte, p5, p6, p7, p8, c1, c2, c3, c4]
          have h := run_some h
          obtain rfl : _ = r := h
          refine FinH.l ?_
          simp -failIfUnchanged only [↓RA, RB, RJ, RS, fx7, p1, p2, p3, p4, reduceIte, p5, p6, p7, p8, c1, c2, c3, c4]
      · replace h := run_f c3 h
        simp -failIfUnchanged only [↓RA, RB, RJ, RS, fx7, p1, p2, p3, p4, reduceIte, p5, p6, p7, p8, c1, c2, c3]
        have h := run_some h
        obtain rfl : _ = r := h
        refine FinH.l ?_
        simp -failIfUnchanged only [↓RA, RB, RJ, RS, fx7, p1, p2, p3, p4, reduceIte, p5, p6, p7, p8, c1, c2, c3]

end Go.Proofs.Ytdmkceajaagpgaa
