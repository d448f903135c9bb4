/- A part of the proof: lemmas only; nothing is claimed here beyond what each lemma says. -/
import Derived.Test.YtheihimhijkekaaGw0
set_option linter.unusedSimpArgs false
set_option linter.unusedVariables false
set_option linter.defProp false
set_option maxRecDepth 4000
namespace Go.Proofs.Ytheihimhijkekaa
open Go.Av
open Nat renaming reduceLT → p1, reduceAdd → p2, reduceMul → p3, reduceEqDiff → p4, reduceBEq → p5, reduceLeDiff → p6, reduceSub → p7
open Int renaming reduceToNat → p8
def fx44 := And.intro @ty_3 <| And.intro @zc_3 <| And.intro @z_3 <| And.intro @ty_4 <| And.intro @zc_4 <| And.intro @z_4 <| And.intro @u_4 <| And.intro @ty_51 <| And.intro @zc_51 <| And.intro @z_51 <| And.intro @es_51 <| And.intro @eb_51 <| And.intro @sl_51 <| And.intro @is_51 <| And.intro @el_51 <| And.intro @ze_51 <| And.intro @ez_51 <| And.intro @ty_53 <| And.intro @zc_53 <| And.intro @z_53 <| And.intro @fo_53_0 <| And.intro @fi_53_0 <| And.intro @ft_53_0 <| And.intro @fo_53_1 <| And.intro @fi_53_1 <| And.intro @ft_53_1 <| And.intro @fo_53_2 <| And.intro @fi_53_2 <| And.intro @ft_53_2 <| @lay_53
set_option maxHeartbeats 4000000 in
theorem eqSizeGraph_sat {a0 : SizeGraph} {a1 : SizeGraph}  {r : Bool} (h : eqSizeGraph a0 a1 = some r) : Sat Try.prog 44 [((SizeGraph.pv false) a0), ((SizeGraph.pv false) a1)] (B r) := by
  replace h := Run.of h
  unfold eqSizeGraph at h
  refine Sat.of_m (nt := 21) (rs := [.tmp 4]) (n := 100000) Try.func44 rfl rfl rfl rfl (by simp) ?_
  simp -failIfUnchanged only [↓RA, RB, RS, fx44, p1, p2, p3, p4, reduceIte, p5, p6, p7, p8]
  repeat (first | with_reducible refine noR_and (by repeat (first | exact noR_empty _ _ | exact noR_nilS _ _ | refine noR_mk _ _ _ _ _ rfl ?_ | refine noR_mkS _ _ _ _ _ rfl ?_)) ?_ | with_reducible refine noC_and (by repeat (first | exact noC_empty _ _ (by simp -failIfUnchanged only [↓RA, RB, RS, fx44, p1, p2, p3, p4, reduceIte, p5, p6, p7, p8]) | exact noC_nilS _ _ (by simp -failIfUnchanged only [↓RA, RB, RS, fx44, p1, p2, p3, p4, reduceIte, p5, p6, p7, p8]) | refine noC_mk _ _ _ _ _ rfl ?_ | refine noC_mkS _ _ _ _ _ rfl ?_)) ?_ | with_reducible refine and_ac ?_ | with_reducible refine And.intro (a := _ = List.range _) (by rfl) ?_)
  refine CondH.mk (fun c1 => ?_) (fun c1 => ?_)
  · replace h := run_t c1 h
    simp -failIfUnchanged only [↓RA, RB, RS, fx44, p1, p2, p3, p4, reduceIte, p5, p6, p7, p8, c1]
    refine CondH.mk (fun c2 => ?_) (fun c2 => ?_)
    · replace h := run_t c2 h
      simp -failIfUnchanged only [↓RA, RB, RS, fx44, p1, p2, p3, p4, reduceIte, p5, p6, p7, p8, c1, c2]
      obtain ⟨v19, hv19, h⟩ := run_bind h
      refine CallH.mk [false, false] (eqSizeEdgeS_sat hv19) ?_ ?_ <;> simp -failIfUnchanged only [↓RA, RB, RS, fx44, p1, p2, p3, p4, reduceIte, p5, p6, p7, p8, c1, c2]
      refine CondH.mk (fun c3 => ?_) (fun c3 => ?_)
      · replace h := run_t c3 h
        simp -failIfUnchanged only [↓RA, RB, RS, fx44, p1, p2, p3, p4, reduceIte, p5, p6, p7, p8, c1, c2, c3]
        have h := run_some h
        obtain rfl : _ = r := h
        refine FinH.l ?_
        simp -failIfUnchanged only [↓RA, RB, RS, fx44, p1, p2, p3, p4, reduceIte, p5, p6, p7, p8, c1, c2, c3]
      · replace h := run_f c3 h
        simp -failIfUnchanged only [↓RA, RB, RS, fx44, p1, p2, p3, p4, reduceIte, p5, p6, p7, p8, c1, c2, c3]
        have h := run_some h
        obtain rfl : _ = r := h
        refine FinH.l ?_
        simp -failIfUnchanged only [↓RA, RB, RS, fx44, p1, p2, p3, p4, reduceIte, p5, p6, p7, p8, c1, c2, c3]
    · replace h := run_f c2 h
      simp -failIfUnchanged only [↓RA, RB, RS, fx44, p1, p2, p3, p4, reduceIte, p5, p6, p7, p8, c1, c2]
      have h := run_some h
      obtain rfl : _ = r := h
      refine FinH.l ?_
      simp -failIfUnchanged only [↓RA, RB, RS, fx44, p1, p2, p3, p4, reduceIte, p5, p6, p7, p8, c1, c2]
  · replace h := run_f c1 h
    simp -failIfUnchanged only [↓RA, RB, RS, fx44, p1, p2, p3, p4, reduceIte, p5, p6, p7, p8, c1]
    have h := run_some h
    obtain rfl : _ = r := h
    refine FinH.l ?_
    simp -failIfUnchanged only [↓RA, RB, RS, fx44, p1, p2, p3, p4, reduceIte, p5, p6, p7, p8, c1]

def fx23 := And.intro @ty_3 <| And.intro @zc_3 <| And.intro @z_3 <| And.intro @ty_4 <| And.intro @zc_4 <| And.intro @z_4 <| And.intro @u_4 <| And.intro @ty_29 <| And.intro @zc_29 <| And.intro @z_29 <| And.intro @es_29 <| And.intro @eb_29 <| And.intro @sl_29 <| And.intro @is_29 <| And.intro @el_29 <| And.intro @ze_29 <| And.intro @ez_29 <| And.intro @ty_53 <| And.intro @zc_53 <| And.intro @z_53 <| And.intro @fo_53_0 <| And.intro @fi_53_0 <| And.intro @ft_53_0 <| And.intro @fo_53_1 <| And.intro @fi_53_1 <| And.intro @ft_53_1 <| And.intro @fo_53_2 <| And.intro @fi_53_2 <| And.intro @ft_53_2 <| And.intro @lay_53 <| @mixedT
set_option maxHeartbeats 4000000 in
theorem eqSizeGraphS_sat {a0 : List SizeGraph} {a1 : List SizeGraph}  {r : Bool} (h : eqSizeGraphS a0 a1 = some r) : Sat Try.prog 23 [(.sl false 3 (a0.map (SizeGraph.pv false))), (.sl false 3 (a1.map (SizeGraph.pv false)))] (B r) := by
  replace h := Run.of h
  unfold eqSizeGraphS at h
  refine Sat.of_m (nt := 27) (rs := [.tmp 4]) (n := 100000) Try.func23 rfl rfl rfl rfl (by simp) ?_
  simp -failIfUnchanged only [↓RA, RB, RS, fx23, p1, p2, p3, p4, reduceIte, p5, p6, p7, p8]
  refine CondH.mk (fun c1 => ?_) (fun c1 => ?_)
  · replace h := run_t c1 h
    simp -failIfUnchanged only [↓RA, RB, RS, fx23, p1, p2, p3, p4, reduceIte, p5, p6, p7, p8, c1]
    refine Mg.know_sl (b := false) (sz := 3) (es := a0.map (SizeGraph.pv false)) 0 (by simp -failIfUnchanged only [↓RA, RB, RS, fx23, p1, p2, p3, p4, reduceIte, p5, p6, p7, p8, c1]) fun hl0 => ?_; rw [List.length_map] at hl0
    replace h := run_loop h
    refine Mg.forN h (fun i4 s4 => [(0, .val (.pv (.sl false 3 (a0.map (SizeGraph.pv false))))), (1, .val (.pv (.sl false 3 (a1.map (SizeGraph.pv false))))), (5, .val (.pv (I (i4 : Int))))]) (fun i4 s4 => []) (St.le_mk2 (by simp -failIfUnchanged only [↓RA, RB, RS, fx23, p1, p2, p3, p4, reduceIte, p5, p6, p7, p8, c1])) (fun i4 s4 hi h => ?_) (fun s4 h => ?_)
    · have w4 := wrap_succ (i := i4) (by omega)
      simp -failIfUnchanged only [↓RA, RB, RS, fx23, p1, p2, p3, p4, reduceIte, p5, p6, p7, p8, c1]
      refine CondH.tt (decide_eq_true (by omega)) (fun c2 => ?_)
      simp -failIfUnchanged only [↓RA, RB, RS, fx23, p1, p2, p3, p4, reduceIte, p5, p6, p7, p8, c1, c2]
      obtain ⟨v19, hv19, h⟩ := run_bind h
      refine IdxH.mk (f := (SizeGraph.pv false)) hv19 ?_ ?_ <;> simp -failIfUnchanged only [↓RA, RB, RS, fx23, p1, p2, p3, p4, reduceIte, p5, p6, p7, p8, c1, c2]
      obtain ⟨v23, hv23, h⟩ := run_bind h
      refine IdxH.mk (f := (SizeGraph.pv false)) hv23 ?_ ?_ <;> simp -failIfUnchanged only [↓RA, RB, RS, fx23, p1, p2, p3, p4, reduceIte, p5, p6, p7, p8, c1, c2]
      obtain ⟨v25, hv25, h⟩ := run_bind h
      refine CallH.mk [false, false] (eqSizeGraph_sat hv25) ?_ ?_ <;> simp -failIfUnchanged only [↓RA, RB, RS, fx23, p1, p2, p3, p4, reduceIte, p5, p6, p7, p8, c1, c2]
      refine And.intro (DrawH.none (by rfl) (by first | rfl | (simp -failIfUnchanged only [↓RA, RB, RS, fx23, p1, p2, p3, p4, reduceIte, p5, p6, p7, p8] <;> rfl)) (by first | rfl | (simp -failIfUnchanged only [↓RA, RB, RS, fx23, p1, p2, p3, p4, reduceIte, p5, p6, p7, p8] <;> rfl)) (by first | rfl | (simp -failIfUnchanged only [↓RA, RB, RS, fx23, p1, p2, p3, p4, reduceIte, p5, p6, p7, p8] <;> rfl))) ?_
      simp -failIfUnchanged only [↓RA, RB, RS, fx23, p1, p2, p3, p4, reduceIte, p5, p6, p7, p8, c1, c2]
      refine CondH.mk (fun c3 => ?_) (fun c3 => ?_)
      · replace h := run_t c3 h
        simp -failIfUnchanged only [↓RA, RB, RS, fx23, p1, p2, p3, p4, reduceIte, p5, p6, p7, p8, c1, c2, c3]
        have h := run_some h
        refine RdH.mk ⟨_, h, ?_⟩
        refine St.le_mk2 ?_
        simp -failIfUnchanged only [↓RA, RB, RS, fx23, p1, p2, p3, p4, reduceIte, p5, p6, p7, p8, c1, c2, c3, w4]
      · replace h := run_f c3 h
        simp -failIfUnchanged only [↓RA, RB, RS, fx23, p1, p2, p3, p4, reduceIte, p5, p6, p7, p8, c1, c2, c3]
        have h := run_some h
        obtain rfl : _ = r := h
        refine FinH.l ?_
        simp -failIfUnchanged only [↓RA, RB, RS, fx23, p1, p2, p3, p4, reduceIte, p5, p6, p7, p8, c1, c2, c3]
    · simp -failIfUnchanged only [↓RA, RB, RS, fx23, p1, p2, p3, p4, reduceIte, p5, p6, p7, p8, c1]
      refine CondH.ff (decide_eq_false (by omega)) (fun c4 => ?_)
      simp -failIfUnchanged only [↓RA, RB, RS, fx23, p1, p2, p3, p4, reduceIte, p5, p6, p7, p8, c1, c4]
      have h := run_some h
      obtain rfl : _ = r := h
      refine FinH.l ?_
      simp -failIfUnchanged only [↓RA, RB, RS, fx23, p1, p2, p3, p4, reduceIte, p5, p6, p7, p8, c1, c4]
  · replace h := run_f c1 h
    simp -failIfUnchanged only [↓RA, RB, RS, fx23, p1, p2, p3, p4, reduceIte, p5, p6, p7, p8, c1]
    have h := run_some h
    obtain rfl : _ = r := h
    refine FinH.l ?_
    simp -failIfUnchanged only [↓RA, RB, RS, fx23, p1, p2, p3, p4, reduceIte, p5, p6, p7, p8, c1]

def fx12 := And.intro @ty_4 <| And.intro @zc_4 <| And.intro @z_4 <| And.intro @u_4 <| And.intro @ty_22 <| And.intro @zc_22 <| And.intro @z_22 <| And.intro @es_22 <| And.intro @eb_22 <| And.intro @sl_22 <| And.intro @is_22 <| And.intro @el_22 <| And.intro @ze_22 <| And.intro @ez_22 <| And.intro @ty_29 <| And.intro @zc_29 <| And.intro @z_29 <| And.intro @es_29 <| And.intro @eb_29 <| And.intro @sl_29 <| And.intro @is_29 <| And.intro @el_29 <| And.intro @ze_29 <| And.intro @ez_29 <| And.intro @ty_31 <| And.intro @zc_31 <| And.intro @z_31 <| And.intro @fo_31_0 <| And.intro @fi_31_0 <| And.intro @ft_31_0 <| And.intro @fo_31_1 <| And.intro @fi_31_1 <| And.intro @ft_31_1 <| @lay_31
set_option maxHeartbeats 4000000 in
theorem eqCyclicProof_sat {a0 : CyclicProof} {a1 : CyclicProof}  {r : Bool} (h : eqCyclicProof a0 a1 = some r) : Sat Try.prog 12 [((CyclicProof.pv false) a0), ((CyclicProof.pv false) a1)] (B r) := by
  replace h := Run.of h
  unfold eqCyclicProof at h
  refine Sat.of_m (nt := 17) (rs := [.tmp 4]) (n := 100000) Try.func12 rfl rfl rfl rfl (by simp) ?_
  simp -failIfUnchanged only [↓RA, RB, RS, fx12, p1, p2, p3, p4, reduceIte, p5, p6, p7, p8]
  repeat (first | with_reducible refine noR_and (by repeat (first | exact noR_empty _ _ | exact noR_nilS _ _ | refine noR_mk _ _ _ _ _ rfl ?_ | refine noR_mkS _ _ _ _ _ rfl ?_)) ?_ | with_reducible refine noC_and (by repeat (first | exact noC_empty _ _ (by simp -failIfUnchanged only [↓RA, RB, RS, fx12, p1, p2, p3, p4, reduceIte, p5, p6, p7, p8]) | exact noC_nilS _ _ (by simp -failIfUnchanged only [↓RA, RB, RS, fx12, p1, p2, p3, p4, reduceIte, p5, p6, p7, p8]) | refine noC_mk _ _ _ _ _ rfl ?_ | refine noC_mkS _ _ _ _ _ rfl ?_)) ?_ | with_reducible refine and_ac ?_ | with_reducible refine And.intro (a := _ = List.range _) (by rfl) ?_)
  obtain ⟨v9, hv9, h⟩ := run_bind h
  refine CallH.mk [false, false] (eqIntS_sat hv9) ?_ ?_ <;> simp -failIfUnchanged only [↓RA, RB, RS, fx12, p1, p2, p3, p4, reduceIte, p5, p6, p7, p8]
  refine CondH.mk (fun c1 => ?_) (fun c1 => ?_)
  · replace h := run_t c1 h
    simp -failIfUnchanged only [↓RA, RB, RS, fx12, p1, p2, p3, p4, reduceIte, p5, p6, p7, p8, c1]
    obtain ⟨v15, hv15, h⟩ := run_bind h
    refine CallH.mk [false, false] (eqSizeGraphS_sat hv15) ?_ ?_ <;> simp -failIfUnchanged only [↓RA, RB, RS, fx12, p1, p2, p3, p4, reduceIte, p5, p6, p7, p8, c1]
    refine CondH.mk (fun c2 => ?_) (fun c2 => ?_)
    · replace h := run_t c2 h
      simp -failIfUnchanged only [↓RA, RB, RS, fx12, p1, p2, p3, p4, reduceIte, p5, p6, p7, p8, c1, c2]
      have h := run_some h
      obtain rfl : _ = r := h
      refine FinH.l ?_
      simp -failIfUnchanged only [↓RA, RB, RS, fx12, p1, p2, p3, p4, reduceIte, p5, p6, p7, p8, c1, c2]
    · replace h := run_f c2 h
      simp -failIfUnchanged only [↓RA, RB, RS, fx12, p1, p2, p3, p4, reduceIte, p5, p6, p7, p8, c1, c2]
      have h := run_some h
      obtain rfl : _ = r := h
      refine FinH.l ?_
      simp -failIfUnchanged only [↓RA, RB, RS, fx12, p1, p2, p3, p4, reduceIte, p5, p6, p7, p8, c1, c2]
  · replace h := run_f c1 h
    simp -failIfUnchanged only [↓RA, RB, RS, fx12, p1, p2, p3, p4, reduceIte, p5, p6, p7, p8, c1]
    have h := run_some h
    obtain rfl : _ = r := h
    refine FinH.l ?_
    simp -failIfUnchanged only [↓RA, RB, RS, fx12, p1, p2, p3, p4, reduceIte, p5, p6, p7, p8, c1]

def fx3 := And.intro @ty_3 <| And.intro @zc_3 <| And.intro @z_3 <| And.intro @ty_4 <| And.intro @zc_4 <| And.intro @z_4 <| And.intro @u_4 <| And.intro @ty_22 <| And.intro @zc_22 <| And.intro @z_22 <| And.intro @es_22 <| And.intro @eb_22 <| And.intro @sl_22 <| And.intro @is_22 <| And.intro @el_22 <| And.intro @ze_22 <| And.intro @ez_22 <| And.intro @ty_25 <| And.intro @zc_25 <| And.intro @z_25 <| And.intro @fo_25_0 <| And.intro @fi_25_0 <| And.intro @ft_25_0 <| And.intro @fo_25_1 <| And.intro @fi_25_1 <| And.intro @ft_25_1 <| And.intro @lay_25 <| And.intro @ty_31 <| And.intro @zc_31 <| And.intro @z_31 <| And.intro @fo_31_0 <| And.intro @fi_31_0 <| And.intro @ft_31_0 <| And.intro @fo_31_1 <| And.intro @fi_31_1 <| And.intro @ft_31_1 <| And.intro @lay_31 <| @mixedT
set_option maxHeartbeats 4000000 in
theorem FnExactMostProgress_sat {a0 : CyclicProof} {a1 : List Int}  {r : Bool} (h : FnExactMostProgress a0 a1 = some r) : Sat Try.prog 3 [((CyclicProof.pv false) a0), (.sl false 1 (a1.map I))] (B r) := by
  replace h := Run.of h
  unfold FnExactMostProgress at h
  refine Sat.of_m (nt := 56) (rs := [.tmp 4]) (n := 100000) Try.func3 rfl rfl rfl rfl (by simp) ?_
  simp -failIfUnchanged only [↓RA, RB, RS, fx3, p1, p2, p3, p4, reduceIte, p5, p6, p7, p8]
  repeat (first | with_reducible refine noR_and (by repeat (first | exact noR_empty _ _ | exact noR_nilS _ _ | refine noR_mk _ _ _ _ _ rfl ?_ | refine noR_mkS _ _ _ _ _ rfl ?_)) ?_ | with_reducible refine noC_and (by repeat (first | exact noC_empty _ _ (by simp -failIfUnchanged only [↓RA, RB, RS, fx3, p1, p2, p3, p4, reduceIte, p5, p6, p7, p8]) | exact noC_nilS _ _ (by simp -failIfUnchanged only [↓RA, RB, RS, fx3, p1, p2, p3, p4, reduceIte, p5, p6, p7, p8]) | refine noC_mk _ _ _ _ _ rfl ?_ | refine noC_mkS _ _ _ _ _ rfl ?_)) ?_ | with_reducible refine and_ac ?_ | with_reducible refine And.intro (a := _ = List.range _) (by rfl) ?_)
  refine CondH.mk (fun c1 => ?_) (fun c1 => ?_)
  · replace h := run_t c1 h
    simp -failIfUnchanged only [↓RA, RB, RS, fx3, p1, p2, p3, p4, reduceIte, p5, p6, p7, p8, c1]
    have h := run_some h
    obtain rfl : _ = r := h
    refine FinH.l ?_
    simp -failIfUnchanged only [↓RA, RB, RS, fx3, p1, p2, p3, p4, reduceIte, p5, p6, p7, p8, c1]
  · replace h := run_f c1 h
    simp -failIfUnchanged only [↓RA, RB, RS, fx3, p1, p2, p3, p4, reduceIte, p5, p6, p7, p8, c1]
    obtain ⟨v17, hv17, h⟩ := run_bind h
    refine CallH.mk [false, false] (szCyclicProof_sat hv17) ?_ ?_ <;> simp -failIfUnchanged only [↓RA, RB, RS, fx3, p1, p2, p3, p4, reduceIte, p5, p6, p7, p8, c1]
    refine CondH.mk (fun c2 => ?_) (fun c2 => ?_)
    · replace h := run_t c2 h
      simp -failIfUnchanged only [↓RA, RB, RS, fx3, p1, p2, p3, p4, reduceIte, p5, p6, p7, p8, c1, c2]
      have h := run_some h
      obtain rfl : _ = r := h
      refine FinH.l ?_
      simp -failIfUnchanged only [↓RA, RB, RS, fx3, p1, p2, p3, p4, reduceIte, p5, p6, p7, p8, c1, c2]
    · replace h := run_f c2 h
      simp -failIfUnchanged only [↓RA, RB, RS, fx3, p1, p2, p3, p4, reduceIte, p5, p6, p7, p8, c1, c2]
      obtain ⟨v22, hv22, h⟩ := run_bind h
      refine CallH.mk [false] (toCyclicProof_sat hv22) ?_ ?_ <;> simp -failIfUnchanged only [↓RA, RB, RS, fx3, p1, p2, p3, p4, reduceIte, p5, p6, p7, p8, c1, c2]
      repeat (first | with_reducible refine noR_and (by repeat (first | exact noR_empty _ _ | exact noR_nilS _ _ | refine noR_mk _ _ _ _ _ rfl ?_ | refine noR_mkS _ _ _ _ _ rfl ?_)) ?_ | with_reducible refine noC_and (by repeat (first | exact noC_empty _ _ (by simp -failIfUnchanged only [↓RA, RB, RS, fx3, p1, p2, p3, p4, reduceIte, p5, p6, p7, p8]) | exact noC_nilS _ _ (by simp -failIfUnchanged only [↓RA, RB, RS, fx3, p1, p2, p3, p4, reduceIte, p5, p6, p7, p8]) | refine noC_mk _ _ _ _ _ rfl ?_ | refine noC_mkS _ _ _ _ _ rfl ?_)) ?_ | with_reducible refine and_ac ?_ | with_reducible refine And.intro (a := _ = List.range _) (by rfl) ?_)
      obtain ⟨v24, hv24, h⟩ := run_bind h
      refine CallH.mk [false] (toIntS_sat hv24) ?_ ?_ <;> simp -failIfUnchanged only [↓RA, RB, RS, fx3, p1, p2, p3, p4, reduceIte, p5, p6, p7, p8, c1, c2]
      repeat (first | with_reducible refine noR_and (by repeat (first | exact noR_empty _ _ | exact noR_nilS _ _ | refine noR_mk _ _ _ _ _ rfl ?_ | refine noR_mkS _ _ _ _ _ rfl ?_)) ?_ | with_reducible refine noC_and (by repeat (first | exact noC_empty _ _ (by simp -failIfUnchanged only [↓RA, RB, RS, fx3, p1, p2, p3, p4, reduceIte, p5, p6, p7, p8]) | exact noC_nilS _ _ (by simp -failIfUnchanged only [↓RA, RB, RS, fx3, p1, p2, p3, p4, reduceIte, p5, p6, p7, p8]) | refine noC_mk _ _ _ _ _ rfl ?_ | refine noC_mkS _ _ _ _ _ rfl ?_)) ?_ | with_reducible refine and_ac ?_ | with_reducible refine And.intro (a := _ = List.range _) (by rfl) ?_)
      obtain ⟨v25, hv25, h⟩ := run_bind h
      refine CallH.mk [false, false] (spec_MostProgress_sat hv25) ?_ ?_ <;> simp -failIfUnchanged only [↓RA, RB, RS, fx3, p1, p2, p3, p4, reduceIte, p5, p6, p7, p8, c1, c2]
      obtain ⟨v29, hv29, h⟩ := run_bind h
      refine CallH.mk [false] (toCyclicProof_sat hv29) ?_ ?_ <;> simp -failIfUnchanged only [↓RA, RB, RS, fx3, p1, p2, p3, p4, reduceIte, p5, p6, p7, p8, c1, c2]
      repeat (first | with_reducible refine noR_and (by repeat (first | exact noR_empty _ _ | exact noR_nilS _ _ | refine noR_mk _ _ _ _ _ rfl ?_ | refine noR_mkS _ _ _ _ _ rfl ?_)) ?_ | with_reducible refine noC_and (by repeat (first | exact noC_empty _ _ (by simp -failIfUnchanged only [↓RA, RB, RS, fx3, p1, p2, p3, p4, reduceIte, p5, p6, p7, p8]) | exact noC_nilS _ _ (by simp -failIfUnchanged only [↓RA, RB, RS, fx3, p1, p2, p3, p4, reduceIte, p5, p6, p7, p8]) | refine noC_mk _ _ _ _ _ rfl ?_ | refine noC_mkS _ _ _ _ _ rfl ?_)) ?_ | with_reducible refine and_ac ?_ | with_reducible refine And.intro (a := _ = List.range _) (by rfl) ?_)
      obtain ⟨v31, hv31, h⟩ := run_bind h
      refine CallH.mk [false] (toIntS_sat hv31) ?_ ?_ <;> simp -failIfUnchanged only [↓RA, RB, RS, fx3, p1, p2, p3, p4, reduceIte, p5, p6, p7, p8, c1, c2]
      repeat (first | with_reducible refine noR_and (by repeat (first | exact noR_empty _ _ | exact noR_nilS _ _ | refine noR_mk _ _ _ _ _ rfl ?_ | refine noR_mkS _ _ _ _ _ rfl ?_)) ?_ | with_reducible refine noC_and (by repeat (first | exact noC_empty _ _ (by simp -failIfUnchanged only [↓RA, RB, RS, fx3, p1, p2, p3, p4, reduceIte, p5, p6, p7, p8]) | exact noC_nilS _ _ (by simp -failIfUnchanged only [↓RA, RB, RS, fx3, p1, p2, p3, p4, reduceIte, p5, p6, p7, p8]) | refine noC_mk _ _ _ _ _ rfl ?_ | refine noC_mkS _ _ _ _ _ rfl ?_)) ?_ | with_reducible refine and_ac ?_ | with_reducible refine And.intro (a := _ = List.range _) (by rfl) ?_)
      obtain ⟨v35, hv35, h⟩ := run_bind h
      refine CallH.mk [false, false] (impl_MostProgress_sat hv35) ?_ ?_ <;> simp -failIfUnchanged only [↓RA, RB, RS, fx3, p1, p2, p3, p4, reduceIte, p5, p6, p7, p8, c1, c2]
      refine CondH.mk (fun c3 => ?_) (fun c3 => ?_)
      · replace h := run_t c3 h
        simp -failIfUnchanged only [↓RA, RB, RS, fx3, p1, p2, p3, p4, reduceIte, p5, p6, p7, p8, c1, c2, c3]
        refine CondH.mk (fun c4 => ?_) (fun c4 => ?_)
        · replace h := run_t c4 h
          simp -failIfUnchanged only [↓RA, RB, RS, fx3, p1, p2, p3, p4, reduceIte, p5, p6, p7, p8, c1, c2, c3, c4]
          obtain ⟨v48, hv48, h⟩ := run_bind h
          refine CallH.mk [false] (toCyclicProof_sat hv48) ?_ ?_ <;> simp -failIfUnchanged only [↓RA, RB, RS, fx3, p1, p2, p3, p4, reduceIte, p5, p6, p7, p8, c1, c2, c3, c4]
          repeat (first | with_reducible refine noR_and (by repeat (first | exact noR_empty _ _ | exact noR_nilS _ _ | refine noR_mk _ _ _ _ _ rfl ?_ | refine noR_mkS _ _ _ _ _ rfl ?_)) ?_ | with_reducible refine noC_and (by repeat (first | exact noC_empty _ _ (by simp -failIfUnchanged only [↓RA, RB, RS, fx3, p1, p2, p3, p4, reduceIte, p5, p6, p7, p8]) | exact noC_nilS _ _ (by simp -failIfUnchanged only [↓RA, RB, RS, fx3, p1, p2, p3, p4, reduceIte, p5, p6, p7, p8]) | refine noC_mk _ _ _ _ _ rfl ?_ | refine noC_mkS _ _ _ _ _ rfl ?_)) ?_ | with_reducible refine and_ac ?_ | with_reducible refine And.intro (a := _ = List.range _) (by rfl) ?_)
          obtain ⟨v49, hv49, h⟩ := run_bind h
          refine CallH.mk [false, false] (eqCyclicProof_sat hv49) ?_ ?_ <;> simp -failIfUnchanged only [↓RA, RB, RS, fx3, p1, p2, p3, p4, reduceIte, p5, p6, p7, p8, c1, c2, c3, c4]
          refine And.intro (DrawH.mk [] [768, 769] (by rfl) (by first | rfl | (simp -failIfUnchanged only [↓RA, RB, RS, fx3, p1, p2, p3, p4, reduceIte, p5, p6, p7, p8] <;> rfl)) (by first | rfl | (simp -failIfUnchanged only [↓RA, RB, RS, fx3, p1, p2, p3, p4, reduceIte, p5, p6, p7, p8] <;> rfl)) (by first | rfl | (simp -failIfUnchanged only [↓RA, RB, RS, fx3, p1, p2, p3, p4, reduceIte, p5, p6, p7, p8] <;> rfl)) (by simp) (by simp -failIfUnchanged only [↓RA, RB, RS, fx3, p1, p2, p3, p4, reduceIte, p5, p6, p7, p8]; repeat (first | exact noC_empty _ _ (by simp -failIfUnchanged only [↓RA, RB, RS, fx3, p1, p2, p3, p4, reduceIte, p5, p6, p7, p8]) | exact noC_nilS _ _ (by simp -failIfUnchanged only [↓RA, RB, RS, fx3, p1, p2, p3, p4, reduceIte, p5, p6, p7, p8]) | refine noC_mk _ _ _ _ _ rfl ?_ | refine noC_mkS _ _ _ _ _ rfl ?_ | refine And.intro ?_ ?_))) ?_
          simp -failIfUnchanged only [↓RA, RB, RS, fx3, p1, p2, p3, p4, reduceIte, p5, p6, p7, p8, c1, c2, c3, c4]
          refine CondH.mk (fun c5 => ?_) (fun c5 => ?_)
          · replace h := run_t c5 h
            simp -failIfUnchanged only [↓RA, RB, RS, fx3, p1, p2, p3, p4, reduceIte, p5, p6, p7, p8, c1, c2, c3, c4, c5]
            obtain ⟨v53, hv53, h⟩ := run_bind h
            refine CallH.mk [false] (toIntS_sat hv53) ?_ ?_ <;> simp -failIfUnchanged only [↓RA, RB, RS, fx3, p1, p2, p3, p4, reduceIte, p5, p6, p7, p8, c1, c2, c3, c4, c5]
            repeat (first | with_reducible refine noR_and (by repeat (first | exact noR_empty _ _ | exact noR_nilS _ _ | refine noR_mk _ _ _ _ _ rfl ?_ | refine noR_mkS _ _ _ _ _ rfl ?_)) ?_ | with_reducible refine noC_and (by repeat (first | exact noC_empty _ _ (by simp -failIfUnchanged only [↓RA, RB, RS, fx3, p1, p2, p3, p4, reduceIte, p5, p6, p7, p8]) | exact noC_nilS _ _ (by simp -failIfUnchanged only [↓RA, RB, RS, fx3, p1, p2, p3, p4, reduceIte, p5, p6, p7, p8]) | refine noC_mk _ _ _ _ _ rfl ?_ | refine noC_mkS _ _ _ _ _ rfl ?_)) ?_ | with_reducible refine and_ac ?_ | with_reducible refine And.intro (a := _ = List.range _) (by rfl) ?_)
            obtain ⟨v54, hv54, h⟩ := run_bind h
            refine CallH.mk [false, false] (eqIntS_sat hv54) ?_ ?_ <;> simp -failIfUnchanged only [↓RA, RB, RS, fx3, p1, p2, p3, p4, reduceIte, p5, p6, p7, p8, c1, c2, c3, c4, c5]
            refine CondH.mk (fun c6 => ?_) (fun c6 => ?_)
            · replace h := run_t c6 h
              simp -failIfUnchanged only [↓RA, RB, RS, fx3, p1, p2, p3, p4, reduceIte, p5, p6, p7, p8, c1, c2, c3, c4, c5, c6]
              have h := run_some h
              obtain rfl : _ = r := h
              refine FinH.l ?_
              simp -failIfUnchanged only [↓RA, RB, RS, fx3, p1, p2, p3, p4, reduceIte, p5, p6, p7, p8, c1, c2, c3, c4, c5, c6]
            · replace h := run_f c6 h
              simp -failIfUnchanged only [↓RA, RB, RS, fx3, p1, p2, p3, p4, reduceIte, p5, p6, p7, p8, c1, c2, c3, c4, c5, c6]
              have h := run_some h
              obtain rfl : _ = r := h
              refine FinH.l ?_
              simp -failIfUnchanged only [↓RA, RB, RS, fx3, p1, p2, p3, p4, reduceIte, p5, p6, p7, p8, c1, c2, c3, c4, c5, c6]
          · replace h := run_f c5 h
            simp -failIfUnchanged only [↓RA, RB, RS, fx3, p1, p2, p3, p4, reduceIte, p5, p6, p7, p8, c1, c2, c3, c4, c5]
            have h := run_some h
            obtain rfl : _ = r := h
            refine FinH.l ?_
            simp -failIfUnchanged only [↓RA, RB, RS, fx3, p1, p2, p3, p4, reduceIte, p5, p6, p7, p8, c1, c2, c3, c4, c5]
        · replace h := run_f c4 h
          simp -failIfUnchanged only [↓RA, RB, RS, fx3, p1, p2, p3, p4, reduceIte, p5, p6, p7, p8, c1, c2, c3, c4]
          have h := run_some h
          obtain rfl : _ = r := h
          refine FinH.l ?_
          simp -failIfUnchanged only [↓RA, RB, RS, fx3, p1, p2, p3, p4, reduceIte, p5, p6, p7, p8, c1, c2, c3, c4]
      · replace h := run_f c3 h
        simp -failIfUnchanged only [↓RA, RB, RS, fx3, p1, p2, p3, p4, reduceIte, p5, p6, p7, p8, c1, c2, c3]
        have h := run_some h
        obtain rfl : _ = r := h
        refine FinH.l ?_
        simp -failIfUnchanged only [↓RA, RB, RS, fx3, p1, p2, p3, p4, reduceIte, p5, p6, p7, p8, c1, c2, c3]

end Go.Proofs.Ytheihimhijkekaa
