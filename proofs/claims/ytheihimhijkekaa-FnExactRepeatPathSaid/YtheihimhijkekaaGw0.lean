/- A part of the proof: lemmas only; nothing is claimed here beyond what each lemma says. -/
import Derived.Test.YtheihimhijkekaaGm
import Derived.Test.YtheihimhijkekaaGf
set_option linter.unusedSimpArgs false
set_option linter.unusedVariables false
set_option linter.defProp false
set_option maxRecDepth 4000
namespace Go.Proofs.Ytheihimhijkekaa
open Go.Av
open Nat renaming reduceLT → p1, reduceAdd → p2, reduceMul → p3, reduceEqDiff → p4, reduceBEq → p5, reduceLeDiff → p6, reduceSub → p7
open Int renaming reduceToNat → p8
def fx26 := And.intro @ty_3 <| And.intro @zc_3 <| And.intro @z_3 <| And.intro @ty_22 <| And.intro @zc_22 <| And.intro @z_22 <| And.intro @es_22 <| And.intro @eb_22 <| And.intro @sl_22 <| And.intro @is_22 <| And.intro @el_22 <| And.intro @ze_22 <| @ez_22
set_option maxHeartbeats 4000000 in
theorem szIntS_sat {a0 : List Int} {a1 : Int}  {r : Int} (h : szIntS a0 a1 = some r) : Sat Try.prog 26 [(.sl false 1 (a0.map I)), (I a1)] (I r) := by
  replace h := Run.of h
  unfold szIntS at h
  refine Sat.of_m (nt := 12) (rs := [.tmp 4]) (n := 100000) Try.func26 rfl rfl rfl rfl (by simp) ?_
  simp -failIfUnchanged only [↓RA, RB, RS, fx26, p1, p2, p3, p4, reduceIte, p5, p6, p7, p8]
  refine CondH.mk (fun c1 => ?_) (fun c1 => ?_)
  · replace h := run_t c1 h
    simp -failIfUnchanged only [↓RA, RB, RS, fx26, p1, p2, p3, p4, reduceIte, p5, p6, p7, p8, c1]
    have h := run_some h
    obtain rfl : _ = r := h
    refine FinH.l ?_
    simp -failIfUnchanged only [↓RA, RB, RS, fx26, p1, p2, p3, p4, reduceIte, p5, p6, p7, p8, c1]
  · replace h := run_f c1 h
    simp -failIfUnchanged only [↓RA, RB, RS, fx26, p1, p2, p3, p4, reduceIte, p5, p6, p7, p8, c1]
    have h := run_some h
    obtain rfl : _ = r := h
    refine FinH.l ?_
    simp -failIfUnchanged only [↓RA, RB, RS, fx26, p1, p2, p3, p4, reduceIte, p5, p6, p7, p8, c1]

def fx73 := And.intro @ty_3 <| And.intro @zc_3 <| And.intro @z_3 <| And.intro @ty_76 <| And.intro @zc_76 <| And.intro @z_76 <| And.intro @es_76 <| And.intro @eb_76 <| And.intro @sl_76 <| And.intro @is_76 <| And.intro @el_76 <| And.intro @ze_76 <| @ez_76
set_option maxHeartbeats 4000000 in
theorem szSizeEdgeS_sat {a0 : List SizeEdge} {a1 : Int}  {r : Int} (h : szSizeEdgeS a0 a1 = some r) : Sat Try.prog 73 [(.sl false 3 (a0.map (SizeEdge.pv false))), (I a1)] (I r) := by
  replace h := Run.of h
  unfold szSizeEdgeS at h
  refine Sat.of_m (nt := 12) (rs := [.tmp 4]) (n := 100000) Try.func73 rfl rfl rfl rfl (by simp) ?_
  simp -failIfUnchanged only [↓RA, RB, RS, fx73, p1, p2, p3, p4, reduceIte, p5, p6, p7, p8]
  refine CondH.mk (fun c1 => ?_) (fun c1 => ?_)
  · replace h := run_t c1 h
    simp -failIfUnchanged only [↓RA, RB, RS, fx73, p1, p2, p3, p4, reduceIte, p5, p6, p7, p8, c1]
    have h := run_some h
    obtain rfl : _ = r := h
    refine FinH.l ?_
    simp -failIfUnchanged only [↓RA, RB, RS, fx73, p1, p2, p3, p4, reduceIte, p5, p6, p7, p8, c1]
  · replace h := run_f c1 h
    simp -failIfUnchanged only [↓RA, RB, RS, fx73, p1, p2, p3, p4, reduceIte, p5, p6, p7, p8, c1]
    have h := run_some h
    obtain rfl : _ = r := h
    refine FinH.l ?_
    simp -failIfUnchanged only [↓RA, RB, RS, fx73, p1, p2, p3, p4, reduceIte, p5, p6, p7, p8, c1]

def fx47 := And.intro @ty_3 <| And.intro @zc_3 <| And.intro @z_3 <| And.intro @ty_76 <| And.intro @zc_76 <| And.intro @z_76 <| And.intro @es_76 <| And.intro @eb_76 <| And.intro @sl_76 <| And.intro @is_76 <| And.intro @el_76 <| And.intro @ze_76 <| And.intro @ez_76 <| And.intro @ty_78 <| And.intro @zc_78 <| And.intro @z_78 <| And.intro @fo_78_0 <| And.intro @fi_78_0 <| And.intro @ft_78_0 <| And.intro @fo_78_1 <| And.intro @fi_78_1 <| And.intro @ft_78_1 <| And.intro @fo_78_2 <| And.intro @fi_78_2 <| And.intro @ft_78_2 <| @lay_78
set_option maxHeartbeats 4000000 in
theorem szSizeGraph_sat {a0 : SizeGraph} {a1 : Int}  {r : Int} (h : szSizeGraph a0 a1 = some r) : Sat Try.prog 47 [((SizeGraph.pv false) a0), (I a1)] (I r) := by
  replace h := Run.of h
  unfold szSizeGraph at h
  refine Sat.of_m (nt := 12) (rs := [.tmp 4]) (n := 100000) Try.func47 rfl rfl rfl rfl (by simp) ?_
  simp -failIfUnchanged only [↓RA, RB, RS, fx47, p1, p2, p3, p4, reduceIte, p5, p6, p7, p8]
  repeat (first | with_reducible refine noR_and (by repeat (first | exact noR_empty _ _ | exact noR_nilS _ _ | refine noR_mk _ _ _ _ _ rfl ?_ | refine noR_mkS _ _ _ _ _ rfl ?_)) ?_ | with_reducible refine noC_and (by repeat (first | exact noC_empty _ _ (by simp -failIfUnchanged only [↓RA, RB, RS, fx47, p1, p2, p3, p4, reduceIte, p5, p6, p7, p8]) | exact noC_nilS _ _ (by simp -failIfUnchanged only [↓RA, RB, RS, fx47, p1, p2, p3, p4, reduceIte, p5, p6, p7, p8]) | refine noC_mk _ _ _ _ _ rfl ?_ | refine noC_mkS _ _ _ _ _ rfl ?_)) ?_ | with_reducible refine and_ac ?_ | with_reducible refine And.intro (a := _ = List.range _) (by rfl) ?_)
  obtain ⟨v8, hv8, h⟩ := run_bind h
  refine CallH.mk [false, false] (szSizeEdgeS_sat hv8) ?_ ?_ <;> simp -failIfUnchanged only [↓RA, RB, RS, fx47, p1, p2, p3, p4, reduceIte, p5, p6, p7, p8]
  refine CondH.mk (fun c1 => ?_) (fun c1 => ?_)
  · replace h := run_t c1 h
    simp -failIfUnchanged only [↓RA, RB, RS, fx47, p1, p2, p3, p4, reduceIte, p5, p6, p7, p8, c1]
    have h := run_some h
    obtain rfl : _ = r := h
    refine FinH.l ?_
    simp -failIfUnchanged only [↓RA, RB, RS, fx47, p1, p2, p3, p4, reduceIte, p5, p6, p7, p8, c1]
  · replace h := run_f c1 h
    simp -failIfUnchanged only [↓RA, RB, RS, fx47, p1, p2, p3, p4, reduceIte, p5, p6, p7, p8, c1]
    have h := run_some h
    obtain rfl : _ = r := h
    refine FinH.l ?_
    simp -failIfUnchanged only [↓RA, RB, RS, fx47, p1, p2, p3, p4, reduceIte, p5, p6, p7, p8, c1]

def fx27 := And.intro @ty_3 <| And.intro @zc_3 <| And.intro @z_3 <| And.intro @ty_23 <| And.intro @zc_23 <| And.intro @z_23 <| And.intro @es_23 <| And.intro @eb_23 <| And.intro @sl_23 <| And.intro @is_23 <| And.intro @el_23 <| And.intro @ze_23 <| And.intro @ez_23 <| And.intro @ty_78 <| And.intro @zc_78 <| And.intro @z_78 <| And.intro @fo_78_0 <| And.intro @fi_78_0 <| And.intro @ft_78_0 <| And.intro @fo_78_1 <| And.intro @fi_78_1 <| And.intro @ft_78_1 <| And.intro @fo_78_2 <| And.intro @fi_78_2 <| And.intro @ft_78_2 <| @lay_78
set_option maxHeartbeats 4000000 in
theorem szSizeGraphS_sat {a0 : List SizeGraph} {a1 : Int}  {r : Int} (h : szSizeGraphS a0 a1 = some r) : Sat Try.prog 27 [(.sl false 3 (a0.map (SizeGraph.pv false))), (I a1)] (I r) := by
  replace h := Run.of h
  unfold szSizeGraphS at h
  refine Sat.of_m (nt := 27) (rs := [.tmp 4]) (n := 100000) Try.func27 rfl rfl rfl rfl (by simp) ?_
  simp -failIfUnchanged only [↓RA, RB, RS, fx27, p1, p2, p3, p4, reduceIte, p5, p6, p7, p8]
  refine CondH.mk (fun c1 => ?_) (fun c1 => ?_)
  · replace h := run_t c1 h
    simp -failIfUnchanged only [↓RA, RB, RS, fx27, p1, p2, p3, p4, reduceIte, p5, p6, p7, p8, c1]
    have h := run_some h
    obtain rfl : _ = r := h
    refine FinH.l ?_
    simp -failIfUnchanged only [↓RA, RB, RS, fx27, p1, p2, p3, p4, reduceIte, p5, p6, p7, p8, c1]
  · replace h := run_f c1 h
    simp -failIfUnchanged only [↓RA, RB, RS, fx27, p1, p2, p3, p4, reduceIte, p5, p6, p7, p8, c1]
    refine Mg.know_sl (b := false) (sz := 3) (es := a0.map (SizeGraph.pv false)) 0 (by simp -failIfUnchanged only [↓RA, RB, RS, fx27, p1, p2, p3, p4, reduceIte, p5, p6, p7, p8, c1]) fun hl0 => ?_; rw [List.length_map] at hl0
    replace h := run_loop h
    refine Mg.forN h (fun i5 s5 => [(0, .val (.pv (.sl false 3 (a0.map (SizeGraph.pv false))))), (1, .val (.pv (I s5))), (5, .val (.pv (I (i5 : Int))))]) (fun i5 s5 => []) (St.le_mk2 (by simp -failIfUnchanged only [↓RA, RB, RS, fx27, p1, p2, p3, p4, reduceIte, p5, p6, p7, p8, c1])) (fun i5 s5 hi h => ?_) (fun s5 h => ?_)
    · have w5 := wrap_succ (i := i5) (by omega)
      simp -failIfUnchanged only [↓RA, RB, RS, fx27, p1, p2, p3, p4, reduceIte, p5, p6, p7, p8, c1]
      refine CondH.tt (decide_eq_true (by omega)) (fun c2 => ?_)
      simp -failIfUnchanged only [↓RA, RB, RS, fx27, p1, p2, p3, p4, reduceIte, p5, p6, p7, p8, c1, c2]
      obtain ⟨v20, hv20, h⟩ := run_bind h
      refine IdxH.mk (f := (SizeGraph.pv false)) hv20 ?_ ?_ <;> simp -failIfUnchanged only [↓RA, RB, RS, fx27, p1, p2, p3, p4, reduceIte, p5, p6, p7, p8, c1, c2]
      obtain ⟨v23, hv23, h⟩ := run_bind h
      refine CallH.mk [false, false] (szSizeGraph_sat hv23) ?_ ?_ <;> simp -failIfUnchanged only [↓RA, RB, RS, fx27, p1, p2, p3, p4, reduceIte, p5, p6, p7, p8, c1, c2]
      refine CondH.mk (fun c3 => ?_) (fun c3 => ?_)
      · replace h := run_t c3 h
        simp -failIfUnchanged only [↓RA, RB, RS, fx27, p1, p2, p3, p4, reduceIte, p5, p6, p7, p8, c1, c2, c3]
        have h := run_some h
        obtain rfl : _ = r := h
        refine FinH.l ?_
        simp -failIfUnchanged only [↓RA, RB, RS, fx27, p1, p2, p3, p4, reduceIte, p5, p6, p7, p8, c1, c2, c3]
      · replace h := run_f c3 h
        simp -failIfUnchanged only [↓RA, RB, RS, fx27, p1, p2, p3, p4, reduceIte, p5, p6, p7, p8, c1, c2, c3]
        have h := run_some h
        refine RdH.mk ⟨_, h, ?_⟩
        refine St.le_mk2 ?_
        simp -failIfUnchanged only [↓RA, RB, RS, fx27, p1, p2, p3, p4, reduceIte, p5, p6, p7, p8, c1, c2, c3, w5]
    · simp -failIfUnchanged only [↓RA, RB, RS, fx27, p1, p2, p3, p4, reduceIte, p5, p6, p7, p8, c1]
      refine CondH.ff (decide_eq_false (by omega)) (fun c4 => ?_)
      simp -failIfUnchanged only [↓RA, RB, RS, fx27, p1, p2, p3, p4, reduceIte, p5, p6, p7, p8, c1, c4]
      have h := run_some h
      obtain rfl : _ = r := h
      refine FinH.l ?_
      simp -failIfUnchanged only [↓RA, RB, RS, fx27, p1, p2, p3, p4, reduceIte, p5, p6, p7, p8, c1, c4]

def fx7 := And.intro @ty_3 <| And.intro @zc_3 <| And.intro @z_3 <| And.intro @ty_22 <| And.intro @zc_22 <| And.intro @z_22 <| And.intro @es_22 <| And.intro @eb_22 <| And.intro @sl_22 <| And.intro @is_22 <| And.intro @el_22 <| And.intro @ze_22 <| And.intro @ez_22 <| And.intro @ty_23 <| And.intro @zc_23 <| And.intro @z_23 <| And.intro @es_23 <| And.intro @eb_23 <| And.intro @sl_23 <| And.intro @is_23 <| And.intro @el_23 <| And.intro @ze_23 <| And.intro @ez_23 <| And.intro @ty_25 <| And.intro @zc_25 <| And.intro @z_25 <| And.intro @fo_25_0 <| And.intro @fi_25_0 <| And.intro @ft_25_0 <| And.intro @fo_25_1 <| And.intro @fi_25_1 <| And.intro @ft_25_1 <| @lay_25
set_option maxHeartbeats 4000000 in
theorem szCyclicProof_sat {a0 : CyclicProof} {a1 : Int}  {r : Int} (h : szCyclicProof a0 a1 = some r) : Sat Try.prog 7 [((CyclicProof.pv false) a0), (I a1)] (I r) := by
  replace h := Run.of h
  unfold szCyclicProof at h
  refine Sat.of_m (nt := 18) (rs := [.tmp 4]) (n := 100000) Try.func7 rfl rfl rfl rfl (by simp) ?_
  simp -failIfUnchanged only [↓RA, RB, RS, fx7, p1, p2, p3, p4, reduceIte, p5, p6, p7, p8]
  repeat (first | with_reducible refine noR_and (by repeat (first | exact noR_empty _ _ | exact noR_nilS _ _ | refine noR_mk _ _ _ _ _ rfl ?_ | refine noR_mkS _ _ _ _ _ rfl ?_)) ?_ | with_reducible refine noC_and (by repeat (first | exact noC_empty _ _ (by simp -failIfUnchanged only [↓RA, RB, RS, fx7, p1, p2, p3, p4, reduceIte, p5, p6, p7, p8]) | exact noC_nilS _ _ (by simp -failIfUnchanged only [↓RA, RB, RS, fx7, p1, p2, p3, p4, reduceIte, p5, p6, p7, p8]) | refine noC_mk _ _ _ _ _ rfl ?_ | refine noC_mkS _ _ _ _ _ rfl ?_)) ?_ | with_reducible refine and_ac ?_ | with_reducible refine And.intro (a := _ = List.range _) (by rfl) ?_)
  obtain ⟨v8, hv8, h⟩ := run_bind h
  refine CallH.mk [false, false] (szIntS_sat hv8) ?_ ?_ <;> simp -failIfUnchanged only [↓RA, RB, RS, fx7, p1, p2, p3, p4, reduceIte, p5, p6, p7, p8]
  refine CondH.mk (fun c1 => ?_) (fun c1 => ?_)
  · replace h := run_t c1 h
    simp -failIfUnchanged only [↓RA, RB, RS, fx7, p1, p2, p3, p4, reduceIte, p5, p6, p7, p8, c1]
    have h := run_some h
    obtain rfl : _ = r := h
    refine FinH.l ?_
    simp -failIfUnchanged only [↓RA, RB, RS, fx7, p1, p2, p3, p4, reduceIte, p5, p6, p7, p8, c1]
  · replace h := run_f c1 h
    simp -failIfUnchanged only [↓RA, RB, RS, fx7, p1, p2, p3, p4, reduceIte, p5, p6, p7, p8, c1]
    obtain ⟨v14, hv14, h⟩ := run_bind h
    refine CallH.mk [false, false] (szSizeGraphS_sat hv14) ?_ ?_ <;> simp -failIfUnchanged only [↓RA, RB, RS, fx7, p1, p2, p3, p4, reduceIte, p5, p6, p7, p8, c1]
    refine CondH.mk (fun c2 => ?_) (fun c2 => ?_)
    · replace h := run_t c2 h
      simp -failIfUnchanged only [↓RA, RB, RS, fx7, p1, p2, p3, p4, reduceIte, p5, p6, p7, p8, c1, c2]
      have h := run_some h
      obtain rfl : _ = r := h
      refine FinH.l ?_
      simp -failIfUnchanged only [↓RA, RB, RS, fx7, p1, p2, p3, p4, reduceIte, p5, p6, p7, p8, c1, c2]
    · replace h := run_f c2 h
      simp -failIfUnchanged only [↓RA, RB, RS, fx7, p1, p2, p3, p4, reduceIte, p5, p6, p7, p8, c1, c2]
      have h := run_some h
      obtain rfl : _ = r := h
      refine FinH.l ?_
      simp -failIfUnchanged only [↓RA, RB, RS, fx7, p1, p2, p3, p4, reduceIte, p5, p6, p7, p8, c1, c2]

def fx10 := And.intro @ty_3 <| And.intro @zc_3 <| And.intro @z_3 <| And.intro @ty_22 <| And.intro @zc_22 <| And.intro @z_22 <| And.intro @es_22 <| And.intro @eb_22 <| And.intro @sl_22 <| And.intro @is_22 <| And.intro @el_22 <| And.intro @ze_22 <| @ez_22
set_option maxHeartbeats 4000000 in
theorem toIntS_sat {a0 : List Int}  {r : List Int} (h : toIntS a0 = some r) : Sat Try.prog 10 [(.sl false 1 (a0.map I))] (.sl true 1 (r.map I)) := by
  replace h := Run.of h
  unfold toIntS at h
  refine Sat.of_m (nt := 22) (rs := [.tmp 2]) (n := 100000) Try.func10 rfl rfl rfl rfl (by simp) ?_
  simp -failIfUnchanged only [↓RA, RB, RS, fx10, p1, p2, p3, p4, reduceIte, p5, p6, p7, p8]
  obtain ⟨n7, hn7, h⟩ := run_bind h
  refine MknH.mk hn7 ?_
  simp -failIfUnchanged only [↓RA, RB, RS, fx10, p1, p2, p3, p4, reduceIte, p5, p6, p7, p8]
  repeat (first | with_reducible refine noR_and (by repeat (first | exact noR_empty _ _ | exact noR_nilS _ _ | refine noR_mk _ _ _ _ _ rfl ?_ | refine noR_mkS _ _ _ _ _ rfl ?_)) ?_ | with_reducible refine noC_and (by repeat (first | exact noC_empty _ _ (by simp -failIfUnchanged only [↓RA, RB, RS, fx10, p1, p2, p3, p4, reduceIte, p5, p6, p7, p8]) | exact noC_nilS _ _ (by simp -failIfUnchanged only [↓RA, RB, RS, fx10, p1, p2, p3, p4, reduceIte, p5, p6, p7, p8]) | refine noC_mk _ _ _ _ _ rfl ?_ | refine noC_mkS _ _ _ _ _ rfl ?_)) ?_ | with_reducible refine and_ac ?_ | with_reducible refine And.intro (a := _ = List.range _) (by rfl) ?_)
  refine Mg.know_sl (b := false) (sz := 1) (es := a0.map I) 0 (by simp -failIfUnchanged only [↓RA, RB, RS, fx10, p1, p2, p3, p4, reduceIte, p5, p6, p7, p8]) fun hl0 => ?_; rw [List.length_map] at hl0
  replace h := run_loop h
  refine Mg.forN h (fun i3 s3 => [(0, .val (.pv (.sl false 1 (a0.map I)))), (3, .val (.own 112)), (4, .val (.pv (I (i3 : Int))))]) (fun i3 s3 => [(112, (1, s3.map I))]) (St.le_mk2 (by simp -failIfUnchanged only [↓RA, RB, RS, fx10, p1, p2, p3, p4, reduceIte, p5, p6, p7, p8])) (fun i3 s3 hi h => ?_) (fun s3 h => ?_)
  · have w3 := wrap_succ (i := i3) (by omega)
    simp -failIfUnchanged only [↓RA, RB, RS, fx10, p1, p2, p3, p4, reduceIte, p5, p6, p7, p8]
    refine CondH.tt (decide_eq_true (by omega)) (fun c1 => ?_)
    simp -failIfUnchanged only [↓RA, RB, RS, fx10, p1, p2, p3, p4, reduceIte, p5, p6, p7, p8, c1]
    obtain ⟨v18, hv18, h⟩ := run_bind h
    refine IdxH.mk (f := I) hv18 ?_ ?_ <;> simp -failIfUnchanged only [↓RA, RB, RS, fx10, p1, p2, p3, p4, reduceIte, p5, p6, p7, p8, c1]
    obtain ⟨v20, hv20, h⟩ := run_bind h
    refine IdxH.mk (f := I) hv20 ?_ ?_ <;> simp -failIfUnchanged only [↓RA, RB, RS, fx10, p1, p2, p3, p4, reduceIte, p5, p6, p7, p8, c1]
    obtain ⟨w2, hw2, h⟩ := run_bind h
    refine EldH.mk (f := I) hw2 rfl ?_ ?_ <;> simp -failIfUnchanged only [↓RA, RB, RS, fx10, p1, p2, p3, p4, reduceIte, p5, p6, p7, p8, c1]
    have h := run_some h
    refine RdH.mk ⟨_, h, ?_⟩
    refine St.le_mk2 ?_
    simp -failIfUnchanged only [↓RA, RB, RS, fx10, p1, p2, p3, p4, reduceIte, p5, p6, p7, p8, c1, w3]
  · simp -failIfUnchanged only [↓RA, RB, RS, fx10, p1, p2, p3, p4, reduceIte, p5, p6, p7, p8]
    refine CondH.ff (decide_eq_false (by omega)) (fun c3 => ?_)
    simp -failIfUnchanged only [↓RA, RB, RS, fx10, p1, p2, p3, p4, reduceIte, p5, p6, p7, p8, c3]
    have h := run_some h
    obtain rfl : _ = r := h
    refine FinH.l ?_
    simp -failIfUnchanged only [↓RA, RB, RS, fx10, p1, p2, p3, p4, reduceIte, p5, p6, p7, p8, c3]

def fx87 := And.intro @ty_3 <| And.intro @zc_3 <| And.intro @z_3 <| And.intro @ty_4 <| And.intro @zc_4 <| And.intro @z_4 <| And.intro @u_4 <| And.intro @ty_55 <| And.intro @zc_55 <| And.intro @z_55 <| And.intro @fo_55_0 <| And.intro @fi_55_0 <| And.intro @ft_55_0 <| And.intro @fo_55_1 <| And.intro @fi_55_1 <| And.intro @ft_55_1 <| And.intro @fo_55_2 <| And.intro @fi_55_2 <| And.intro @ft_55_2 <| And.intro @lay_55 <| And.intro @ty_113 <| And.intro @zc_113 <| And.intro @z_113 <| And.intro @fo_113_0 <| And.intro @fi_113_0 <| And.intro @ft_113_0 <| And.intro @fo_113_1 <| And.intro @fi_113_1 <| And.intro @ft_113_1 <| And.intro @fo_113_2 <| And.intro @fi_113_2 <| And.intro @ft_113_2 <| @lay_113
set_option maxHeartbeats 4000000 in
theorem toSizeEdge_sat {a0 : SizeEdge}  {r : SizeEdge} (h : toSizeEdge a0 = some r) : Sat Try.prog 87 [((SizeEdge.pv false) a0)] ((SizeEdge.pv false) r) := by
  replace h := Run.of h
  unfold toSizeEdge at h
  refine Sat.of_m (nt := 14) (rs := [.cell 2 55]) (n := 100000) Try.func87 rfl rfl rfl rfl (by simp) ?_
  simp -failIfUnchanged only [↓RA, RB, RS, fx87, p1, p2, p3, p4, reduceIte, p5, p6, p7, p8]
  repeat (first | with_reducible refine noR_and (by repeat (first | exact noR_empty _ _ | exact noR_nilS _ _ | refine noR_mk _ _ _ _ _ rfl ?_ | refine noR_mkS _ _ _ _ _ rfl ?_)) ?_ | with_reducible refine noC_and (by repeat (first | exact noC_empty _ _ (by simp -failIfUnchanged only [↓RA, RB, RS, fx87, p1, p2, p3, p4, reduceIte, p5, p6, p7, p8]) | exact noC_nilS _ _ (by simp -failIfUnchanged only [↓RA, RB, RS, fx87, p1, p2, p3, p4, reduceIte, p5, p6, p7, p8]) | refine noC_mk _ _ _ _ _ rfl ?_ | refine noC_mkS _ _ _ _ _ rfl ?_)) ?_ | with_reducible refine and_ac ?_ | with_reducible refine And.intro (a := _ = List.range _) (by rfl) ?_)
  have h := run_some h
  obtain rfl : _ = r := h
  refine FinH.l ?_
  simp -failIfUnchanged only [↓RA, RB, RS, fx87, p1, p2, p3, p4, reduceIte, p5, p6, p7, p8]

def fx74 := And.intro @ty_3 <| And.intro @zc_3 <| And.intro @z_3 <| And.intro @ty_51 <| And.intro @zc_51 <| And.intro @z_51 <| And.intro @es_51 <| And.intro @eb_51 <| And.intro @sl_51 <| And.intro @is_51 <| And.intro @el_51 <| And.intro @ze_51 <| And.intro @ez_51 <| And.intro @ty_55 <| And.intro @zc_55 <| And.intro @z_55 <| And.intro @fo_55_0 <| And.intro @fi_55_0 <| And.intro @ft_55_0 <| And.intro @fo_55_1 <| And.intro @fi_55_1 <| And.intro @ft_55_1 <| And.intro @fo_55_2 <| And.intro @fi_55_2 <| And.intro @ft_55_2 <| And.intro @lay_55 <| And.intro @ty_76 <| And.intro @zc_76 <| And.intro @z_76 <| And.intro @es_76 <| And.intro @eb_76 <| And.intro @sl_76 <| And.intro @is_76 <| And.intro @el_76 <| And.intro @ze_76 <| And.intro @ez_76 <| And.intro @ty_113 <| And.intro @zc_113 <| And.intro @z_113 <| And.intro @fo_113_0 <| And.intro @fi_113_0 <| And.intro @ft_113_0 <| And.intro @fo_113_1 <| And.intro @fi_113_1 <| And.intro @ft_113_1 <| And.intro @fo_113_2 <| And.intro @fi_113_2 <| And.intro @ft_113_2 <| @lay_113
set_option maxHeartbeats 4000000 in
theorem toSizeEdgeS_sat {a0 : List SizeEdge}  {r : List SizeEdge} (h : toSizeEdgeS a0 = some r) : Sat Try.prog 74 [(.sl false 3 (a0.map (SizeEdge.pv false)))] (.sl true 3 (r.map (SizeEdge.pv false))) := by
  replace h := Run.of h
  unfold toSizeEdgeS at h
  refine Sat.of_m (nt := 23) (rs := [.tmp 2]) (n := 100000) Try.func74 rfl rfl rfl rfl (by simp) ?_
  simp -failIfUnchanged only [↓RA, RB, RS, fx74, p1, p2, p3, p4, reduceIte, p5, p6, p7, p8]
  obtain ⟨n7, hn7, h⟩ := run_bind h
  refine MknH.mk hn7 ?_
  simp -failIfUnchanged only [↓RA, RB, RS, fx74, p1, p2, p3, p4, reduceIte, p5, p6, p7, p8]
  repeat (first | with_reducible refine noR_and (by repeat (first | exact noR_empty _ _ | exact noR_nilS _ _ | refine noR_mk _ _ _ _ _ rfl ?_ | refine noR_mkS _ _ _ _ _ rfl ?_)) ?_ | with_reducible refine noC_and (by repeat (first | exact noC_empty _ _ (by simp -failIfUnchanged only [↓RA, RB, RS, fx74, p1, p2, p3, p4, reduceIte, p5, p6, p7, p8]) | exact noC_nilS _ _ (by simp -failIfUnchanged only [↓RA, RB, RS, fx74, p1, p2, p3, p4, reduceIte, p5, p6, p7, p8]) | refine noC_mk _ _ _ _ _ rfl ?_ | refine noC_mkS _ _ _ _ _ rfl ?_)) ?_ | with_reducible refine and_ac ?_ | with_reducible refine And.intro (a := _ = List.range _) (by rfl) ?_)
  refine Mg.know_sl (b := false) (sz := 3) (es := a0.map (SizeEdge.pv false)) 0 (by simp -failIfUnchanged only [↓RA, RB, RS, fx74, p1, p2, p3, p4, reduceIte, p5, p6, p7, p8]) fun hl0 => ?_; rw [List.length_map] at hl0
  replace h := run_loop h
  refine Mg.forN h (fun i3 s3 => [(0, .val (.pv (.sl false 3 (a0.map (SizeEdge.pv false))))), (3, .val (.own 112)), (4, .val (.pv (I (i3 : Int))))]) (fun i3 s3 => [(112, (3, s3.map (SizeEdge.pv false)))]) (St.le_mk2 (by simp -failIfUnchanged only [↓RA, RB, RS, fx74, p1, p2, p3, p4, reduceIte, p5, p6, p7, p8])) (fun i3 s3 hi h => ?_) (fun s3 h => ?_)
  · have w3 := wrap_succ (i := i3) (by omega)
    simp -failIfUnchanged only [↓RA, RB, RS, fx74, p1, p2, p3, p4, reduceIte, p5, p6, p7, p8]
    refine CondH.tt (decide_eq_true (by omega)) (fun c1 => ?_)
    simp -failIfUnchanged only [↓RA, RB, RS, fx74, p1, p2, p3, p4, reduceIte, p5, p6, p7, p8, c1]
    obtain ⟨v18, hv18, h⟩ := run_bind h
    refine IdxH.mk (f := (SizeEdge.pv false)) hv18 ?_ ?_ <;> simp -failIfUnchanged only [↓RA, RB, RS, fx74, p1, p2, p3, p4, reduceIte, p5, p6, p7, p8, c1]
    obtain ⟨v20, hv20, h⟩ := run_bind h
    refine CallH.mk [false] (toSizeEdge_sat hv20) ?_ ?_ <;> simp -failIfUnchanged only [↓RA, RB, RS, fx74, p1, p2, p3, p4, reduceIte, p5, p6, p7, p8, c1]
    obtain ⟨v21, hv21, h⟩ := run_bind h
    refine IdxH.mk (f := (SizeEdge.pv false)) hv21 ?_ ?_ <;> simp -failIfUnchanged only [↓RA, RB, RS, fx74, p1, p2, p3, p4, reduceIte, p5, p6, p7, p8, c1]
    obtain ⟨w2, hw2, h⟩ := run_bind h
    refine EldH.mk (f := (SizeEdge.pv false)) hw2 rfl ?_ ?_ <;> simp -failIfUnchanged only [↓RA, RB, RS, fx74, p1, p2, p3, p4, reduceIte, p5, p6, p7, p8, c1]
    have h := run_some h
    refine RdH.mk ⟨_, h, ?_⟩
    refine St.le_mk2 ?_
    simp -failIfUnchanged only [↓RA, RB, RS, fx74, p1, p2, p3, p4, reduceIte, p5, p6, p7, p8, c1, w3]
  · simp -failIfUnchanged only [↓RA, RB, RS, fx74, p1, p2, p3, p4, reduceIte, p5, p6, p7, p8]
    refine CondH.ff (decide_eq_false (by omega)) (fun c3 => ?_)
    simp -failIfUnchanged only [↓RA, RB, RS, fx74, p1, p2, p3, p4, reduceIte, p5, p6, p7, p8, c3]
    have h := run_some h
    obtain rfl : _ = r := h
    refine FinH.l ?_
    simp -failIfUnchanged only [↓RA, RB, RS, fx74, p1, p2, p3, p4, reduceIte, p5, p6, p7, p8, c3]

def fx50 := And.intro @ty_3 <| And.intro @zc_3 <| And.intro @z_3 <| And.intro @ty_51 <| And.intro @zc_51 <| And.intro @z_51 <| And.intro @es_51 <| And.intro @eb_51 <| And.intro @sl_51 <| And.intro @is_51 <| And.intro @el_51 <| And.intro @ze_51 <| And.intro @ez_51 <| And.intro @ty_53 <| And.intro @zc_53 <| And.intro @z_53 <| And.intro @fo_53_0 <| And.intro @fi_53_0 <| And.intro @ft_53_0 <| And.intro @fo_53_1 <| And.intro @fi_53_1 <| And.intro @ft_53_1 <| And.intro @fo_53_2 <| And.intro @fi_53_2 <| And.intro @ft_53_2 <| And.intro @lay_53 <| And.intro @ty_76 <| And.intro @zc_76 <| And.intro @z_76 <| And.intro @es_76 <| And.intro @eb_76 <| And.intro @sl_76 <| And.intro @is_76 <| And.intro @el_76 <| And.intro @ze_76 <| And.intro @ez_76 <| And.intro @ty_78 <| And.intro @zc_78 <| And.intro @z_78 <| And.intro @fo_78_0 <| And.intro @fi_78_0 <| And.intro @ft_78_0 <| And.intro @fo_78_1 <| And.intro @fi_78_1 <| And.intro @ft_78_1 <| And.intro @fo_78_2 <| And.intro @fi_78_2 <| And.intro @ft_78_2 <| @lay_78
set_option maxHeartbeats 4000000 in
theorem toSizeGraph_sat {a0 : SizeGraph}  {r : SizeGraph} (h : toSizeGraph a0 = some r) : Sat Try.prog 50 [((SizeGraph.pv false) a0)] ((SizeGraph.pv true) r) := by
  replace h := Run.of h
  unfold toSizeGraph at h
  refine Sat.of_m (nt := 15) (rs := [.cell 2 53]) (n := 100000) Try.func50 rfl rfl rfl rfl (by simp) ?_
  simp -failIfUnchanged only [↓RA, RB, RS, fx50, p1, p2, p3, p4, reduceIte, p5, p6, p7, p8]
  repeat (first | with_reducible refine noR_and (by repeat (first | exact noR_empty _ _ | exact noR_nilS _ _ | refine noR_mk _ _ _ _ _ rfl ?_ | refine noR_mkS _ _ _ _ _ rfl ?_)) ?_ | with_reducible refine noC_and (by repeat (first | exact noC_empty _ _ (by simp -failIfUnchanged only [↓RA, RB, RS, fx50, p1, p2, p3, p4, reduceIte, p5, p6, p7, p8]) | exact noC_nilS _ _ (by simp -failIfUnchanged only [↓RA, RB, RS, fx50, p1, p2, p3, p4, reduceIte, p5, p6, p7, p8]) | refine noC_mk _ _ _ _ _ rfl ?_ | refine noC_mkS _ _ _ _ _ rfl ?_)) ?_ | with_reducible refine and_ac ?_ | with_reducible refine And.intro (a := _ = List.range _) (by rfl) ?_)
  obtain ⟨v12, hv12, h⟩ := run_bind h
  refine CallH.mk [false] (toSizeEdgeS_sat hv12) ?_ ?_ <;> simp -failIfUnchanged only [↓RA, RB, RS, fx50, p1, p2, p3, p4, reduceIte, p5, p6, p7, p8]
  repeat (first | with_reducible refine noR_and (by repeat (first | exact noR_empty _ _ | exact noR_nilS _ _ | refine noR_mk _ _ _ _ _ rfl ?_ | refine noR_mkS _ _ _ _ _ rfl ?_)) ?_ | with_reducible refine noC_and (by repeat (first | exact noC_empty _ _ (by simp -failIfUnchanged only [↓RA, RB, RS, fx50, p1, p2, p3, p4, reduceIte, p5, p6, p7, p8]) | exact noC_nilS _ _ (by simp -failIfUnchanged only [↓RA, RB, RS, fx50, p1, p2, p3, p4, reduceIte, p5, p6, p7, p8]) | refine noC_mk _ _ _ _ _ rfl ?_ | refine noC_mkS _ _ _ _ _ rfl ?_)) ?_ | with_reducible refine and_ac ?_ | with_reducible refine And.intro (a := _ = List.range _) (by rfl) ?_)
  have h := run_some h
  obtain rfl : _ = r := h
  refine FinH.l ?_
  simp -failIfUnchanged only [↓RA, RB, RS, fx50, p1, p2, p3, p4, reduceIte, p5, p6, p7, p8]

def fx31 := And.intro @ty_3 <| And.intro @zc_3 <| And.intro @z_3 <| And.intro @ty_23 <| And.intro @zc_23 <| And.intro @z_23 <| And.intro @es_23 <| And.intro @eb_23 <| And.intro @sl_23 <| And.intro @is_23 <| And.intro @el_23 <| And.intro @ze_23 <| And.intro @ez_23 <| And.intro @ty_29 <| And.intro @zc_29 <| And.intro @z_29 <| And.intro @es_29 <| And.intro @eb_29 <| And.intro @sl_29 <| And.intro @is_29 <| And.intro @el_29 <| And.intro @ze_29 <| And.intro @ez_29 <| And.intro @ty_53 <| And.intro @zc_53 <| And.intro @z_53 <| And.intro @fo_53_0 <| And.intro @fi_53_0 <| And.intro @ft_53_0 <| And.intro @fo_53_1 <| And.intro @fi_53_1 <| And.intro @ft_53_1 <| And.intro @fo_53_2 <| And.intro @fi_53_2 <| And.intro @ft_53_2 <| And.intro @lay_53 <| And.intro @ty_78 <| And.intro @zc_78 <| And.intro @z_78 <| And.intro @fo_78_0 <| And.intro @fi_78_0 <| And.intro @ft_78_0 <| And.intro @fo_78_1 <| And.intro @fi_78_1 <| And.intro @ft_78_1 <| And.intro @fo_78_2 <| And.intro @fi_78_2 <| And.intro @ft_78_2 <| @lay_78
set_option maxHeartbeats 4000000 in
theorem toSizeGraphS_sat {a0 : List SizeGraph}  {r : List SizeGraph} (h : toSizeGraphS a0 = some r) : Sat Try.prog 31 [(.sl false 3 (a0.map (SizeGraph.pv false)))] (.sl true 3 (r.map (SizeGraph.pv true))) := by
  replace h := Run.of h
  unfold toSizeGraphS at h
  refine Sat.of_m (nt := 23) (rs := [.tmp 2]) (n := 100000) Try.func31 rfl rfl rfl rfl (by simp) ?_
  simp -failIfUnchanged only [↓RA, RB, RS, fx31, p1, p2, p3, p4, reduceIte, p5, p6, p7, p8]
  obtain ⟨n7, hn7, h⟩ := run_bind h
  refine MknH.mk hn7 ?_
  simp -failIfUnchanged only [↓RA, RB, RS, fx31, p1, p2, p3, p4, reduceIte, p5, p6, p7, p8]
  repeat (first | with_reducible refine noR_and (by repeat (first | exact noR_empty _ _ | exact noR_nilS _ _ | refine noR_mk _ _ _ _ _ rfl ?_ | refine noR_mkS _ _ _ _ _ rfl ?_)) ?_ | with_reducible refine noC_and (by repeat (first | exact noC_empty _ _ (by simp -failIfUnchanged only [↓RA, RB, RS, fx31, p1, p2, p3, p4, reduceIte, p5, p6, p7, p8]) | exact noC_nilS _ _ (by simp -failIfUnchanged only [↓RA, RB, RS, fx31, p1, p2, p3, p4, reduceIte, p5, p6, p7, p8]) | refine noC_mk _ _ _ _ _ rfl ?_ | refine noC_mkS _ _ _ _ _ rfl ?_)) ?_ | with_reducible refine and_ac ?_ | with_reducible refine And.intro (a := _ = List.range _) (by rfl) ?_)
  refine Mg.know_sl (b := false) (sz := 3) (es := a0.map (SizeGraph.pv false)) 0 (by simp -failIfUnchanged only [↓RA, RB, RS, fx31, p1, p2, p3, p4, reduceIte, p5, p6, p7, p8]) fun hl0 => ?_; rw [List.length_map] at hl0
  replace h := run_loop h
  refine Mg.forN h (fun i3 s3 => [(0, .val (.pv (.sl false 3 (a0.map (SizeGraph.pv false))))), (3, .val (.own 112)), (4, .val (.pv (I (i3 : Int))))]) (fun i3 s3 => [(112, (3, s3.map (SizeGraph.pv true)))]) (St.le_mk2 (by simp -failIfUnchanged only [↓RA, RB, RS, fx31, p1, p2, p3, p4, reduceIte, p5, p6, p7, p8])) (fun i3 s3 hi h => ?_) (fun s3 h => ?_)
  · have w3 := wrap_succ (i := i3) (by omega)
    simp -failIfUnchanged only [↓RA, RB, RS, fx31, p1, p2, p3, p4, reduceIte, p5, p6, p7, p8]
    refine CondH.tt (decide_eq_true (by omega)) (fun c1 => ?_)
    simp -failIfUnchanged only [↓RA, RB, RS, fx31, p1, p2, p3, p4, reduceIte, p5, p6, p7, p8, c1]
    obtain ⟨v18, hv18, h⟩ := run_bind h
    refine IdxH.mk (f := (SizeGraph.pv false)) hv18 ?_ ?_ <;> simp -failIfUnchanged only [↓RA, RB, RS, fx31, p1, p2, p3, p4, reduceIte, p5, p6, p7, p8, c1]
    obtain ⟨v20, hv20, h⟩ := run_bind h
    refine CallH.mk [false] (toSizeGraph_sat hv20) ?_ ?_ <;> simp -failIfUnchanged only [↓RA, RB, RS, fx31, p1, p2, p3, p4, reduceIte, p5, p6, p7, p8, c1]
    repeat (first | with_reducible refine noR_and (by repeat (first | exact noR_empty _ _ | exact noR_nilS _ _ | refine noR_mk _ _ _ _ _ rfl ?_ | refine noR_mkS _ _ _ _ _ rfl ?_)) ?_ | with_reducible refine noC_and (by repeat (first | exact noC_empty _ _ (by simp -failIfUnchanged only [↓RA, RB, RS, fx31, p1, p2, p3, p4, reduceIte, p5, p6, p7, p8]) | exact noC_nilS _ _ (by simp -failIfUnchanged only [↓RA, RB, RS, fx31, p1, p2, p3, p4, reduceIte, p5, p6, p7, p8]) | refine noC_mk _ _ _ _ _ rfl ?_ | refine noC_mkS _ _ _ _ _ rfl ?_)) ?_ | with_reducible refine and_ac ?_ | with_reducible refine And.intro (a := _ = List.range _) (by rfl) ?_)
    obtain ⟨v21, hv21, h⟩ := run_bind h
    refine IdxH.mk (f := (SizeGraph.pv true)) hv21 ?_ ?_ <;> simp -failIfUnchanged only [↓RA, RB, RS, fx31, p1, p2, p3, p4, reduceIte, p5, p6, p7, p8, c1]
    obtain ⟨w2, hw2, h⟩ := run_bind h
    refine EldH.mk (f := (SizeGraph.pv true)) hw2 rfl ?_ ?_ <;> simp -failIfUnchanged only [↓RA, RB, RS, fx31, p1, p2, p3, p4, reduceIte, p5, p6, p7, p8, c1]
    have h := run_some h
    refine RdH.mk ⟨_, h, ?_⟩
    refine St.le_mk2 ?_
    simp -failIfUnchanged only [↓RA, RB, RS, fx31, p1, p2, p3, p4, reduceIte, p5, p6, p7, p8, c1, w3]
  · simp -failIfUnchanged only [↓RA, RB, RS, fx31, p1, p2, p3, p4, reduceIte, p5, p6, p7, p8]
    refine CondH.ff (decide_eq_false (by omega)) (fun c3 => ?_)
    simp -failIfUnchanged only [↓RA, RB, RS, fx31, p1, p2, p3, p4, reduceIte, p5, p6, p7, p8, c3]
    have h := run_some h
    obtain rfl : _ = r := h
    refine FinH.l ?_
    simp -failIfUnchanged only [↓RA, RB, RS, fx31, p1, p2, p3, p4, reduceIte, p5, p6, p7, p8, c3]

def fx9 := And.intro @ty_22 <| And.intro @zc_22 <| And.intro @z_22 <| And.intro @es_22 <| And.intro @eb_22 <| And.intro @sl_22 <| And.intro @is_22 <| And.intro @el_22 <| And.intro @ze_22 <| And.intro @ez_22 <| And.intro @ty_23 <| And.intro @zc_23 <| And.intro @z_23 <| And.intro @es_23 <| And.intro @eb_23 <| And.intro @sl_23 <| And.intro @is_23 <| And.intro @el_23 <| And.intro @ze_23 <| And.intro @ez_23 <| And.intro @ty_25 <| And.intro @zc_25 <| And.intro @z_25 <| And.intro @fo_25_0 <| And.intro @fi_25_0 <| And.intro @ft_25_0 <| And.intro @fo_25_1 <| And.intro @fi_25_1 <| And.intro @ft_25_1 <| And.intro @lay_25 <| And.intro @ty_29 <| And.intro @zc_29 <| And.intro @z_29 <| And.intro @es_29 <| And.intro @eb_29 <| And.intro @sl_29 <| And.intro @is_29 <| And.intro @el_29 <| And.intro @ze_29 <| And.intro @ez_29 <| And.intro @ty_31 <| And.intro @zc_31 <| And.intro @z_31 <| And.intro @fo_31_0 <| And.intro @fi_31_0 <| And.intro @ft_31_0 <| And.intro @fo_31_1 <| And.intro @fi_31_1 <| And.intro @ft_31_1 <| @lay_31
set_option maxHeartbeats 4000000 in
theorem toCyclicProof_sat {a0 : CyclicProof}  {r : CyclicProof} (h : toCyclicProof a0 = some r) : Sat Try.prog 9 [((CyclicProof.pv false) a0)] ((CyclicProof.pv true) r) := by
  replace h := Run.of h
  unfold toCyclicProof at h
  refine Sat.of_m (nt := 13) (rs := [.cell 2 31]) (n := 100000) Try.func9 rfl rfl rfl rfl (by simp) ?_
  simp -failIfUnchanged only [↓RA, RB, RS, fx9, p1, p2, p3, p4, reduceIte, p5, p6, p7, p8]
  repeat (first | with_reducible refine noR_and (by repeat (first | exact noR_empty _ _ | exact noR_nilS _ _ | refine noR_mk _ _ _ _ _ rfl ?_ | refine noR_mkS _ _ _ _ _ rfl ?_)) ?_ | with_reducible refine noC_and (by repeat (first | exact noC_empty _ _ (by simp -failIfUnchanged only [↓RA, RB, RS, fx9, p1, p2, p3, p4, reduceIte, p5, p6, p7, p8]) | exact noC_nilS _ _ (by simp -failIfUnchanged only [↓RA, RB, RS, fx9, p1, p2, p3, p4, reduceIte, p5, p6, p7, p8]) | refine noC_mk _ _ _ _ _ rfl ?_ | refine noC_mkS _ _ _ _ _ rfl ?_)) ?_ | with_reducible refine and_ac ?_ | with_reducible refine And.intro (a := _ = List.range _) (by rfl) ?_)
  obtain ⟨v6, hv6, h⟩ := run_bind h
  refine CallH.mk [false] (toIntS_sat hv6) ?_ ?_ <;> simp -failIfUnchanged only [↓RA, RB, RS, fx9, p1, p2, p3, p4, reduceIte, p5, p6, p7, p8]
  repeat (first | with_reducible refine noR_and (by repeat (first | exact noR_empty _ _ | exact noR_nilS _ _ | refine noR_mk _ _ _ _ _ rfl ?_ | refine noR_mkS _ _ _ _ _ rfl ?_)) ?_ | with_reducible refine noC_and (by repeat (first | exact noC_empty _ _ (by simp -failIfUnchanged only [↓RA, RB, RS, fx9, p1, p2, p3, p4, reduceIte, p5, p6, p7, p8]) | exact noC_nilS _ _ (by simp -failIfUnchanged only [↓RA, RB, RS, fx9, p1, p2, p3, p4, reduceIte, p5, p6, p7, p8]) | refine noC_mk _ _ _ _ _ rfl ?_ | refine noC_mkS _ _ _ _ _ rfl ?_)) ?_ | with_reducible refine and_ac ?_ | with_reducible refine And.intro (a := _ = List.range _) (by rfl) ?_)
  obtain ⟨v10, hv10, h⟩ := run_bind h
  refine CallH.mk [false] (toSizeGraphS_sat hv10) ?_ ?_ <;> simp -failIfUnchanged only [↓RA, RB, RS, fx9, p1, p2, p3, p4, reduceIte, p5, p6, p7, p8]
  repeat (first | with_reducible refine noR_and (by repeat (first | exact noR_empty _ _ | exact noR_nilS _ _ | refine noR_mk _ _ _ _ _ rfl ?_ | refine noR_mkS _ _ _ _ _ rfl ?_)) ?_ | with_reducible refine noC_and (by repeat (first | exact noC_empty _ _ (by simp -failIfUnchanged only [↓RA, RB, RS, fx9, p1, p2, p3, p4, reduceIte, p5, p6, p7, p8]) | exact noC_nilS _ _ (by simp -failIfUnchanged only [↓RA, RB, RS, fx9, p1, p2, p3, p4, reduceIte, p5, p6, p7, p8]) | refine noC_mk _ _ _ _ _ rfl ?_ | refine noC_mkS _ _ _ _ _ rfl ?_)) ?_ | with_reducible refine and_ac ?_ | with_reducible refine And.intro (a := _ = List.range _) (by rfl) ?_)
  have h := run_some h
  obtain rfl : _ = r := h
  refine FinH.l ?_
  simp -failIfUnchanged only [↓RA, RB, RS, fx9, p1, p2, p3, p4, reduceIte, p5, p6, p7, p8]

def fx48 := And.intro @ty_3 <| And.intro @zc_3 <| @z_3
set_option maxHeartbeats 4000000 in
theorem spec_l1In_sat {a0 : Int} {a1 : Int} {a2 : Int}  {r : Bool} (h : spec_l1In a0 a1 a2 = some r) : Sat Try.prog 48 [(I a0), (I a1), (I a2)] (B r) := by
  replace h := Run.of h
  unfold spec_l1In at h
  refine Sat.of_m (nt := 15) (rs := [.tmp 6]) (n := 100000) Try.func48 rfl rfl rfl rfl (by simp) ?_
  simp -failIfUnchanged only [↓RA, RB, RS, fx48, p1, p2, p3, p4, reduceIte, p5, p6, p7, p8]
  refine CondH.mk (fun c1 => ?_) (fun c1 => ?_)
  · replace h := run_t c1 h
    simp -failIfUnchanged only [↓RA, RB, RS, fx48, p1, p2, p3, p4, reduceIte, p5, p6, p7, p8, c1]
    have h := run_some h
    obtain rfl : _ = r := h
    refine FinH.l ?_
    simp -failIfUnchanged only [↓RA, RB, RS, fx48, p1, p2, p3, p4, reduceIte, p5, p6, p7, p8, c1]
  · replace h := run_f c1 h
    simp -failIfUnchanged only [↓RA, RB, RS, fx48, p1, p2, p3, p4, reduceIte, p5, p6, p7, p8, c1]
    have h := run_some h
    obtain rfl : _ = r := h
    refine FinH.l ?_
    simp -failIfUnchanged only [↓RA, RB, RS, fx48, p1, p2, p3, p4, reduceIte, p5, p6, p7, p8, c1]

def fx49 := And.intro @ty_3 <| And.intro @zc_3 <| And.intro @z_3 <| And.intro @ty_4 <| And.intro @zc_4 <| And.intro @z_4 <| And.intro @u_4 <| And.intro @ty_51 <| And.intro @zc_51 <| And.intro @z_51 <| And.intro @es_51 <| And.intro @eb_51 <| And.intro @sl_51 <| And.intro @is_51 <| And.intro @el_51 <| And.intro @ze_51 <| And.intro @ez_51 <| And.intro @ty_53 <| And.intro @zc_53 <| And.intro @z_53 <| And.intro @fo_53_0 <| And.intro @fi_53_0 <| And.intro @ft_53_0 <| And.intro @fo_53_1 <| And.intro @fi_53_1 <| And.intro @ft_53_1 <| And.intro @fo_53_2 <| And.intro @fi_53_2 <| And.intro @ft_53_2 <| And.intro @lay_53 <| And.intro @ty_55 <| And.intro @zc_55 <| And.intro @z_55 <| And.intro @fo_55_0 <| And.intro @fi_55_0 <| And.intro @ft_55_0 <| And.intro @fo_55_1 <| And.intro @fi_55_1 <| And.intro @ft_55_1 <| And.intro @fo_55_2 <| And.intro @fi_55_2 <| And.intro @ft_55_2 <| And.intro @lay_55 <| @mixedT
set_option maxHeartbeats 4000000 in
theorem spec_l24Graph_sat {a0 : SizeGraph}  {r : Bool} (h : spec_l24Graph a0 = some r) : Sat Try.prog 49 [((SizeGraph.pv false) a0)] (B r) := by
  replace h := Run.of h
  unfold spec_l24Graph at h
  refine Sat.of_m (nt := 64) (rs := [.tmp 2]) (n := 100000) Try.func49 rfl rfl rfl rfl (by simp) ?_
  simp -failIfUnchanged only [↓RA, RB, RS, fx49, p1, p2, p3, p4, reduceIte, p5, p6, p7, p8]
  repeat (first | with_reducible refine noR_and (by repeat (first | exact noR_empty _ _ | exact noR_nilS _ _ | refine noR_mk _ _ _ _ _ rfl ?_ | refine noR_mkS _ _ _ _ _ rfl ?_)) ?_ | with_reducible refine noC_and (by repeat (first | exact noC_empty _ _ (by simp -failIfUnchanged only [↓RA, RB, RS, fx49, p1, p2, p3, p4, reduceIte, p5, p6, p7, p8]) | exact noC_nilS _ _ (by simp -failIfUnchanged only [↓RA, RB, RS, fx49, p1, p2, p3, p4, reduceIte, p5, p6, p7, p8]) | refine noC_mk _ _ _ _ _ rfl ?_ | refine noC_mkS _ _ _ _ _ rfl ?_)) ?_ | with_reducible refine and_ac ?_ | with_reducible refine And.intro (a := _ = List.range _) (by rfl) ?_)
  obtain ⟨v7, hv7, h⟩ := run_bind h
  refine CallH.mk [false, false, false] (spec_l1In_sat hv7) ?_ ?_ <;> simp -failIfUnchanged only [↓RA, RB, RS, fx49, p1, p2, p3, p4, reduceIte, p5, p6, p7, p8]
  refine CondH.mk (fun c1 => ?_) (fun c1 => ?_)
  · replace h := run_t c1 h
    simp -failIfUnchanged only [↓RA, RB, RS, fx49, p1, p2, p3, p4, reduceIte, p5, p6, p7, p8, c1]
    obtain ⟨v12, hv12, h⟩ := run_bind h
    refine CallH.mk [false, false, false] (spec_l1In_sat hv12) ?_ ?_ <;> simp -failIfUnchanged only [↓RA, RB, RS, fx49, p1, p2, p3, p4, reduceIte, p5, p6, p7, p8, c1]
    refine CondH.mk (fun c2 => ?_) (fun c2 => ?_)
    · replace h := run_t c2 h
      simp -failIfUnchanged only [↓RA, RB, RS, fx49, p1, p2, p3, p4, reduceIte, p5, p6, p7, p8, c1, c2]
      refine Mg.know_val2 (b := false) (sz := 3) (es := a0.Edges.map (SizeEdge.pv false)) (x := (.pv ((SizeGraph.pv false) a0))) 0 [2] (by simp -failIfUnchanged only [↓RA, RB, RS, fx49, p1, p2, p3, p4, reduceIte, p5, p6, p7, p8, c1, c2]) fun hl0 => ?_; rw [List.length_map] at hl0
      replace h := run_loop h
      refine Mg.forN h (fun i4 s4 => [(1, .box (.pv ((SizeGraph.pv false) a0))), (3, .val (.pv (I (i4 : Int))))]) (fun i4 s4 => []) (St.le_mk2 (by simp -failIfUnchanged only [↓RA, RB, RS, fx49, p1, p2, p3, p4, reduceIte, p5, p6, p7, p8, c1, c2])) (fun i4 s4 hi h => ?_) (fun s4 h => ?_)
      · have w4 := wrap_succ (i := i4) (by omega)
        simp -failIfUnchanged only [↓RA, RB, RS, fx49, p1, p2, p3, p4, reduceIte, p5, p6, p7, p8, c1, c2]
        refine CondH.tt (decide_eq_true (by omega)) (fun c3 => ?_)
        simp -failIfUnchanged only [↓RA, RB, RS, fx49, p1, p2, p3, p4, reduceIte, p5, p6, p7, p8, c1, c2, c3]
        obtain ⟨v25, hv25, h⟩ := run_bind h
        refine IdxH.mk (f := (SizeEdge.pv false)) hv25 ?_ ?_ <;> simp -failIfUnchanged only [↓RA, RB, RS, fx49, p1, p2, p3, p4, reduceIte, p5, p6, p7, p8, c1, c2, c3]
        repeat (first | with_reducible refine noR_and (by repeat (first | exact noR_empty _ _ | exact noR_nilS _ _ | refine noR_mk _ _ _ _ _ rfl ?_ | refine noR_mkS _ _ _ _ _ rfl ?_)) ?_ | with_reducible refine noC_and (by repeat (first | exact noC_empty _ _ (by simp -failIfUnchanged only [↓RA, RB, RS, fx49, p1, p2, p3, p4, reduceIte, p5, p6, p7, p8]) | exact noC_nilS _ _ (by simp -failIfUnchanged only [↓RA, RB, RS, fx49, p1, p2, p3, p4, reduceIte, p5, p6, p7, p8]) | refine noC_mk _ _ _ _ _ rfl ?_ | refine noC_mkS _ _ _ _ _ rfl ?_)) ?_ | with_reducible refine and_ac ?_ | with_reducible refine And.intro (a := _ = List.range _) (by rfl) ?_)
        obtain ⟨v29, hv29, h⟩ := run_bind h
        refine CallH.mk [false, false, false] (spec_l1In_sat hv29) ?_ ?_ <;> simp -failIfUnchanged only [↓RA, RB, RS, fx49, p1, p2, p3, p4, reduceIte, p5, p6, p7, p8, c1, c2, c3]
        refine CondH.mk (fun c4 => ?_) (fun c4 => ?_)
        · replace h := run_t c4 h
          simp -failIfUnchanged only [↓RA, RB, RS, fx49, p1, p2, p3, p4, reduceIte, p5, p6, p7, p8, c1, c2, c3, c4]
          obtain ⟨v34, hv34, h⟩ := run_bind h
          refine CallH.mk [false, false, false] (spec_l1In_sat hv34) ?_ ?_ <;> simp -failIfUnchanged only [↓RA, RB, RS, fx49, p1, p2, p3, p4, reduceIte, p5, p6, p7, p8, c1, c2, c3, c4]
          refine CondH.mk (fun c5 => ?_) (fun c5 => ?_)
          · replace h := run_t c5 h
            simp -failIfUnchanged only [↓RA, RB, RS, fx49, p1, p2, p3, p4, reduceIte, p5, p6, p7, p8, c1, c2, c3, c4, c5]
            refine CondH.mk (fun c6 => ?_) (fun c6 => ?_)
            · replace h := run_t c6 h
              simp -failIfUnchanged only [↓RA, RB, RS, fx49, p1, p2, p3, p4, reduceIte, p5, p6, p7, p8, c1, c2, c3, c4, c5, c6]
              obtain ⟨v44, hv44, h⟩ := run_bind h
              refine IdxH.mk (f := (SizeEdge.pv false)) hv44 ?_ ?_ <;> simp -failIfUnchanged only [↓RA, RB, RS, fx49, p1, p2, p3, p4, reduceIte, p5, p6, p7, p8, c1, c2, c3, c4, c5, c6]
              obtain ⟨v52, hv52, h⟩ := run_bind h
              refine IdxH.mk (f := (SizeEdge.pv false)) hv52 ?_ ?_ <;> simp -failIfUnchanged only [↓RA, RB, RS, fx49, p1, p2, p3, p4, reduceIte, p5, p6, p7, p8, c1, c2, c3, c4, c5, c6]
              refine And.intro (DrawH.none (by rfl) (by first | rfl | (simp -failIfUnchanged only [↓RA, RB, RS, fx49, p1, p2, p3, p4, reduceIte, p5, p6, p7, p8] <;> rfl)) (by first | rfl | (simp -failIfUnchanged only [↓RA, RB, RS, fx49, p1, p2, p3, p4, reduceIte, p5, p6, p7, p8] <;> rfl)) (by first | rfl | (simp -failIfUnchanged only [↓RA, RB, RS, fx49, p1, p2, p3, p4, reduceIte, p5, p6, p7, p8] <;> rfl))) ?_
              simp -failIfUnchanged only [↓RA, RB, RS, fx49, p1, p2, p3, p4, reduceIte, p5, p6, p7, p8, c1, c2, c3, c4, c5, c6]
              refine CondH.mk (fun c7 => ?_) (fun c7 => ?_)
              · replace h := run_t c7 h
                simp -failIfUnchanged only [↓RA, RB, RS, fx49, p1, p2, p3, p4, reduceIte, p5, p6, p7, p8, c1, c2, c3, c4, c5, c6, c7]
                have h := run_some h
                obtain rfl : _ = r := h
                refine FinH.l ?_
                simp -failIfUnchanged only [↓RA, RB, RS, fx49, p1, p2, p3, p4, reduceIte, p5, p6, p7, p8, c1, c2, c3, c4, c5, c6, c7]
              · replace h := run_f c7 h
                simp -failIfUnchanged only [↓RA, RB, RS, fx49, p1, p2, p3, p4, reduceIte, p5, p6, p7, p8, c1, c2, c3, c4, c5, c6, c7]
                have h := run_some h
                refine RdH.mk ⟨_, h, ?_⟩
                refine St.le_mk2 ?_
                simp -failIfUnchanged only [↓RA, RB, RS, fx49, p1, p2, p3, p4, reduceIte, p5, p6, p7, p8, c1, c2, c3, c4, c5, c6, c7, w4]
            · replace h := run_f c6 h
              simp -failIfUnchanged only [↓RA, RB, RS, fx49, p1, p2, p3, p4, reduceIte, p5, p6, p7, p8, c1, c2, c3, c4, c5, c6]
              refine And.intro (DrawH.none (by rfl) (by first | rfl | (simp -failIfUnchanged only [↓RA, RB, RS, fx49, p1, p2, p3, p4, reduceIte, p5, p6, p7, p8] <;> rfl)) (by first | rfl | (simp -failIfUnchanged only [↓RA, RB, RS, fx49, p1, p2, p3, p4, reduceIte, p5, p6, p7, p8] <;> rfl)) (by first | rfl | (simp -failIfUnchanged only [↓RA, RB, RS, fx49, p1, p2, p3, p4, reduceIte, p5, p6, p7, p8] <;> rfl))) ?_
              simp -failIfUnchanged only [↓RA, RB, RS, fx49, p1, p2, p3, p4, reduceIte, p5, p6, p7, p8, c1, c2, c3, c4, c5, c6]
              have h := run_some h
              refine RdH.mk ⟨_, h, ?_⟩
              refine St.le_mk2 ?_
              simp -failIfUnchanged only [↓RA, RB, RS, fx49, p1, p2, p3, p4, reduceIte, p5, p6, p7, p8, c1, c2, c3, c4, c5, c6, w4]
          · replace h := run_f c5 h
            simp -failIfUnchanged only [↓RA, RB, RS, fx49, p1, p2, p3, p4, reduceIte, p5, p6, p7, p8, c1, c2, c3, c4, c5]
            have h := run_some h
            obtain rfl : _ = r := h
            refine FinH.l ?_
            simp -failIfUnchanged only [↓RA, RB, RS, fx49, p1, p2, p3, p4, reduceIte, p5, p6, p7, p8, c1, c2, c3, c4, c5]
        · replace h := run_f c4 h
          simp -failIfUnchanged only [↓RA, RB, RS, fx49, p1, p2, p3, p4, reduceIte, p5, p6, p7, p8, c1, c2, c3, c4]
          have h := run_some h
          obtain rfl : _ = r := h
          refine FinH.l ?_
          simp -failIfUnchanged only [↓RA, RB, RS, fx49, p1, p2, p3, p4, reduceIte, p5, p6, p7, p8, c1, c2, c3, c4]
      · simp -failIfUnchanged only [↓RA, RB, RS, fx49, p1, p2, p3, p4, reduceIte, p5, p6, p7, p8, c1, c2]
        refine CondH.ff (decide_eq_false (by omega)) (fun c8 => ?_)
        simp -failIfUnchanged only [↓RA, RB, RS, fx49, p1, p2, p3, p4, reduceIte, p5, p6, p7, p8, c1, c2, c8]
        have h := run_some h
        obtain rfl : _ = r := h
        refine FinH.l ?_
        simp -failIfUnchanged only [↓RA, RB, RS, fx49, p1, p2, p3, p4, reduceIte, p5, p6, p7, p8, c1, c2, c8]
    · replace h := run_f c2 h
      simp -failIfUnchanged only [↓RA, RB, RS, fx49, p1, p2, p3, p4, reduceIte, p5, p6, p7, p8, c1, c2]
      have h := run_some h
      obtain rfl : _ = r := h
      refine FinH.l ?_
      simp -failIfUnchanged only [↓RA, RB, RS, fx49, p1, p2, p3, p4, reduceIte, p5, p6, p7, p8, c1, c2]
  · replace h := run_f c1 h
    simp -failIfUnchanged only [↓RA, RB, RS, fx49, p1, p2, p3, p4, reduceIte, p5, p6, p7, p8, c1]
    have h := run_some h
    obtain rfl : _ = r := h
    refine FinH.l ?_
    simp -failIfUnchanged only [↓RA, RB, RS, fx49, p1, p2, p3, p4, reduceIte, p5, p6, p7, p8, c1]

def fx28 := And.intro @ty_3 <| And.intro @zc_3 <| And.intro @z_3 <| And.intro @ty_4 <| And.intro @zc_4 <| And.intro @z_4 <| And.intro @u_4 <| And.intro @ty_22 <| And.intro @zc_22 <| And.intro @z_22 <| And.intro @es_22 <| And.intro @eb_22 <| And.intro @sl_22 <| And.intro @is_22 <| And.intro @el_22 <| And.intro @ze_22 <| And.intro @ez_22 <| And.intro @ty_29 <| And.intro @zc_29 <| And.intro @z_29 <| And.intro @es_29 <| And.intro @eb_29 <| And.intro @sl_29 <| And.intro @is_29 <| And.intro @el_29 <| And.intro @ze_29 <| And.intro @ez_29 <| And.intro @ty_31 <| And.intro @zc_31 <| And.intro @z_31 <| And.intro @fo_31_0 <| And.intro @fi_31_0 <| And.intro @ft_31_0 <| And.intro @fo_31_1 <| And.intro @fi_31_1 <| And.intro @ft_31_1 <| And.intro @lay_31 <| And.intro @ty_51 <| And.intro @zc_51 <| And.intro @z_51 <| And.intro @es_51 <| And.intro @eb_51 <| And.intro @sl_51 <| And.intro @is_51 <| And.intro @el_51 <| And.intro @ze_51 <| And.intro @ez_51 <| And.intro @ty_53 <| And.intro @zc_53 <| And.intro @z_53 <| And.intro @fo_53_0 <| And.intro @fi_53_0 <| And.intro @ft_53_0 <| And.intro @fo_53_1 <| And.intro @fi_53_1 <| And.intro @ft_53_1 <| And.intro @fo_53_2 <| And.intro @fi_53_2 <| And.intro @ft_53_2 <| And.intro @lay_53 <| And.intro @ty_55 <| And.intro @zc_55 <| And.intro @z_55 <| And.intro @fo_55_0 <| And.intro @fi_55_0 <| And.intro @ft_55_0 <| And.intro @fo_55_1 <| And.intro @fi_55_1 <| And.intro @ft_55_1 <| And.intro @fo_55_2 <| And.intro @fi_55_2 <| And.intro @ft_55_2 <| And.intro @lay_55 <| @mixedT
set_option maxHeartbeats 4000000 in
theorem spec_l24Good_sat {a0 : CyclicProof}  {r : Bool} (h : spec_l24Good a0 = some r) : Sat Try.prog 28 [((CyclicProof.pv false) a0)] (B r) := by
  replace h := Run.of h
  unfold spec_l24Good at h
  refine Sat.of_m (nt := 94) (rs := [.tmp 2]) (n := 100000) Try.func28 rfl rfl rfl rfl (by simp) ?_
  simp -failIfUnchanged only [↓RA, RB, RS, fx28, p1, p2, p3, p4, reduceIte, p5, p6, p7, p8]
  repeat (first | with_reducible refine noR_and (by repeat (first | exact noR_empty _ _ | exact noR_nilS _ _ | refine noR_mk _ _ _ _ _ rfl ?_ | refine noR_mkS _ _ _ _ _ rfl ?_)) ?_ | with_reducible refine noC_and (by repeat (first | exact noC_empty _ _ (by simp -failIfUnchanged only [↓RA, RB, RS, fx28, p1, p2, p3, p4, reduceIte, p5, p6, p7, p8]) | exact noC_nilS _ _ (by simp -failIfUnchanged only [↓RA, RB, RS, fx28, p1, p2, p3, p4, reduceIte, p5, p6, p7, p8]) | refine noC_mk _ _ _ _ _ rfl ?_ | refine noC_mkS _ _ _ _ _ rfl ?_)) ?_ | with_reducible refine and_ac ?_ | with_reducible refine And.intro (a := _ = List.range _) (by rfl) ?_)
  obtain ⟨v12, hv12, h⟩ := run_bind h
  refine CallH.mk [false, false, false] (spec_l1In_sat hv12) ?_ ?_ <;> simp -failIfUnchanged only [↓RA, RB, RS, fx28, p1, p2, p3, p4, reduceIte, p5, p6, p7, p8]
  refine CondH.mk (fun c1 => ?_) (fun c1 => ?_)
  · replace h := run_t c1 h
    simp -failIfUnchanged only [↓RA, RB, RS, fx28, p1, p2, p3, p4, reduceIte, p5, p6, p7, p8, c1]
    refine CondH.mk (fun c2 => ?_) (fun c2 => ?_)
    · replace h := run_t c2 h
      simp -failIfUnchanged only [↓RA, RB, RS, fx28, p1, p2, p3, p4, reduceIte, p5, p6, p7, p8, c1, c2]
      have h := run_some h
      obtain rfl : _ = r := h
      refine FinH.l ?_
      simp -failIfUnchanged only [↓RA, RB, RS, fx28, p1, p2, p3, p4, reduceIte, p5, p6, p7, p8, c1, c2]
    · replace h := run_f c2 h
      simp -failIfUnchanged only [↓RA, RB, RS, fx28, p1, p2, p3, p4, reduceIte, p5, p6, p7, p8, c1, c2]
      refine Mg.know_sl (b := false) (sz := 1) (es := a0.Arities.map I) 9 (by simp -failIfUnchanged only [↓RA, RB, RS, fx28, p1, p2, p3, p4, reduceIte, p5, p6, p7, p8, c1, c2]) fun hl9 => ?_; rw [List.length_map] at hl9
      replace h := run_loop h
      refine Mg.forN h (fun i5 s5 => [(1, .box (.pv ((CyclicProof.pv false) a0))), (3, .val (.pv (I (a0.Arities.length : Int)))), (4, .val (.pv (I (i5 : Int))))]) (fun i5 s5 => []) (St.le_mk2 (by simp -failIfUnchanged only [↓RA, RB, RS, fx28, p1, p2, p3, p4, reduceIte, p5, p6, p7, p8, c1, c2])) (fun i5 s5 hi h => ?_) (fun s5 h => ?_)
      · have w5 := wrap_succ (i := i5) (by omega)
        simp -failIfUnchanged only [↓RA, RB, RS, fx28, p1, p2, p3, p4, reduceIte, p5, p6, p7, p8, c1, c2]
        refine CondH.tt (decide_eq_true (by omega)) (fun c3 => ?_)
        simp -failIfUnchanged only [↓RA, RB, RS, fx28, p1, p2, p3, p4, reduceIte, p5, p6, p7, p8, c1, c2, c3]
        obtain ⟨v28, hv28, h⟩ := run_bind h
        refine IdxH.mk (f := I) hv28 ?_ ?_ <;> simp -failIfUnchanged only [↓RA, RB, RS, fx28, p1, p2, p3, p4, reduceIte, p5, p6, p7, p8, c1, c2, c3]
        obtain ⟨v30, hv30, h⟩ := run_bind h
        refine CallH.mk [false, false, false] (spec_l1In_sat hv30) ?_ ?_ <;> simp -failIfUnchanged only [↓RA, RB, RS, fx28, p1, p2, p3, p4, reduceIte, p5, p6, p7, p8, c1, c2, c3]
        refine CondH.mk (fun c4 => ?_) (fun c4 => ?_)
        · replace h := run_t c4 h
          simp -failIfUnchanged only [↓RA, RB, RS, fx28, p1, p2, p3, p4, reduceIte, p5, p6, p7, p8, c1, c2, c3, c4]
          have h := run_some h
          refine RdH.mk ⟨_, h, ?_⟩
          refine St.le_mk2 ?_
          simp -failIfUnchanged only [↓RA, RB, RS, fx28, p1, p2, p3, p4, reduceIte, p5, p6, p7, p8, c1, c2, c3, c4, w5]
        · replace h := run_f c4 h
          simp -failIfUnchanged only [↓RA, RB, RS, fx28, p1, p2, p3, p4, reduceIte, p5, p6, p7, p8, c1, c2, c3, c4]
          have h := run_some h
          obtain rfl : _ = r := h
          refine FinH.l ?_
          simp -failIfUnchanged only [↓RA, RB, RS, fx28, p1, p2, p3, p4, reduceIte, p5, p6, p7, p8, c1, c2, c3, c4]
      · simp -failIfUnchanged only [↓RA, RB, RS, fx28, p1, p2, p3, p4, reduceIte, p5, p6, p7, p8, c1, c2]
        refine CondH.ff (decide_eq_false (by omega)) (fun c5 => ?_)
        simp -failIfUnchanged only [↓RA, RB, RS, fx28, p1, p2, p3, p4, reduceIte, p5, p6, p7, p8, c1, c2, c5]
        refine Mg.know_box2 (b := false) (sz := 3) (es := a0.Calls.map (SizeGraph.pv false)) (x := (.pv ((CyclicProof.pv false) a0))) 1 [1] (by simp -failIfUnchanged only [↓RA, RB, RS, fx28, p1, p2, p3, p4, reduceIte, p5, p6, p7, p8, c1, c2, c5]) fun hl1 => ?_; rw [List.length_map] at hl1
        replace h := run_loop h
        refine Mg.forN h (fun i10 s10 => [(1, .box (.pv ((CyclicProof.pv false) a0))), (3, .val (.pv (I (a0.Arities.length : Int)))), (5, .val (.pv (I (i10 : Int))))]) (fun i10 s10 => []) (St.le_mk2 (by simp -failIfUnchanged only [↓RA, RB, RS, fx28, p1, p2, p3, p4, reduceIte, p5, p6, p7, p8, c1, c2, c5])) (fun i10 s10 hi h => ?_) (fun s10 h => ?_)
        · have w10 := wrap_succ (i := i10) (by omega)
          simp -failIfUnchanged only [↓RA, RB, RS, fx28, p1, p2, p3, p4, reduceIte, p5, p6, p7, p8, c1, c2, c5]
          refine CondH.tt (decide_eq_true (by omega)) (fun c6 => ?_)
          simp -failIfUnchanged only [↓RA, RB, RS, fx28, p1, p2, p3, p4, reduceIte, p5, p6, p7, p8, c1, c2, c5, c6]
          obtain ⟨v42, hv42, h⟩ := run_bind h
          refine IdxH.mk (f := (SizeGraph.pv false)) hv42 ?_ ?_ <;> simp -failIfUnchanged only [↓RA, RB, RS, fx28, p1, p2, p3, p4, reduceIte, p5, p6, p7, p8, c1, c2, c5, c6]
          repeat (first | with_reducible refine noR_and (by repeat (first | exact noR_empty _ _ | exact noR_nilS _ _ | refine noR_mk _ _ _ _ _ rfl ?_ | refine noR_mkS _ _ _ _ _ rfl ?_)) ?_ | with_reducible refine noC_and (by repeat (first | exact noC_empty _ _ (by simp -failIfUnchanged only [↓RA, RB, RS, fx28, p1, p2, p3, p4, reduceIte, p5, p6, p7, p8]) | exact noC_nilS _ _ (by simp -failIfUnchanged only [↓RA, RB, RS, fx28, p1, p2, p3, p4, reduceIte, p5, p6, p7, p8]) | refine noC_mk _ _ _ _ _ rfl ?_ | refine noC_mkS _ _ _ _ _ rfl ?_)) ?_ | with_reducible refine and_ac ?_ | with_reducible refine And.intro (a := _ = List.range _) (by rfl) ?_)
          obtain ⟨v45, hv45, h⟩ := run_bind h
          refine CallH.mk [false] (spec_l24Graph_sat hv45) ?_ ?_ <;> simp -failIfUnchanged only [↓RA, RB, RS, fx28, p1, p2, p3, p4, reduceIte, p5, p6, p7, p8, c1, c2, c5, c6]
          refine CondH.mk (fun c7 => ?_) (fun c7 => ?_)
          · replace h := run_t c7 h
            simp -failIfUnchanged only [↓RA, RB, RS, fx28, p1, p2, p3, p4, reduceIte, p5, p6, p7, p8, c1, c2, c5, c6, c7]
            refine CondH.mk (fun c8 => ?_) (fun c8 => ?_)
            · replace h := run_t c8 h
              simp -failIfUnchanged only [↓RA, RB, RS, fx28, p1, p2, p3, p4, reduceIte, p5, p6, p7, p8, c1, c2, c5, c6, c7, c8]
              have h := run_some h
              obtain rfl : _ = r := h
              refine FinH.l ?_
              simp -failIfUnchanged only [↓RA, RB, RS, fx28, p1, p2, p3, p4, reduceIte, p5, p6, p7, p8, c1, c2, c5, c6, c7, c8]
            · replace h := run_f c8 h
              simp -failIfUnchanged only [↓RA, RB, RS, fx28, p1, p2, p3, p4, reduceIte, p5, p6, p7, p8, c1, c2, c5, c6, c7, c8]
              refine CondH.mk (fun c9 => ?_) (fun c9 => ?_)
              · replace h := run_t c9 h
                simp -failIfUnchanged only [↓RA, RB, RS, fx28, p1, p2, p3, p4, reduceIte, p5, p6, p7, p8, c1, c2, c5, c6, c7, c8, c9]
                have h := run_some h
                obtain rfl : _ = r := h
                refine FinH.l ?_
                simp -failIfUnchanged only [↓RA, RB, RS, fx28, p1, p2, p3, p4, reduceIte, p5, p6, p7, p8, c1, c2, c5, c6, c7, c8, c9]
              · replace h := run_f c9 h
                simp -failIfUnchanged only [↓RA, RB, RS, fx28, p1, p2, p3, p4, reduceIte, p5, p6, p7, p8, c1, c2, c5, c6, c7, c8, c9]
                refine Mg.know_box2 (b := false) (sz := 3) (es := v42.Edges.map (SizeEdge.pv false)) (x := (.pv ((SizeGraph.pv false) v42))) 6 [2] (by simp -failIfUnchanged only [↓RA, RB, RS, fx28, p1, p2, p3, p4, reduceIte, p5, p6, p7, p8, c1, c2, c5, c6, c7, c8, c9]) fun hl6 => ?_; rw [List.length_map] at hl6
                replace h := run_loop h
                refine Mg.forN h (fun i16 s16 => [(1, .box (.pv ((CyclicProof.pv false) a0))), (3, .val (.pv (I (a0.Arities.length : Int)))), (5, .val (.pv (I (i10 : Int)))), (6, .box (.pv ((SizeGraph.pv false) v42))), (7, .val (.pv (I (i16 : Int))))]) (fun i16 s16 => []) (St.le_mk2 (by simp -failIfUnchanged only [↓RA, RB, RS, fx28, p1, p2, p3, p4, reduceIte, p5, p6, p7, p8, c1, c2, c5, c6, c7, c8, c9])) (fun i16 s16 hi h => ?_) (fun s16 h => ?_)
                · have w16 := wrap_succ (i := i16) (by omega)
                  simp -failIfUnchanged only [↓RA, RB, RS, fx28, p1, p2, p3, p4, reduceIte, p5, p6, p7, p8, c1, c2, c5, c6, c7, c8, c9]
                  refine CondH.tt (decide_eq_true (by omega)) (fun c10 => ?_)
                  simp -failIfUnchanged only [↓RA, RB, RS, fx28, p1, p2, p3, p4, reduceIte, p5, p6, p7, p8, c1, c2, c5, c6, c7, c8, c9, c10]
                  obtain ⟨v69, hv69, h⟩ := run_bind h
                  refine IdxH.mk (f := (SizeEdge.pv false)) hv69 ?_ ?_ <;> simp -failIfUnchanged only [↓RA, RB, RS, fx28, p1, p2, p3, p4, reduceIte, p5, p6, p7, p8, c1, c2, c5, c6, c7, c8, c9, c10]
                  obtain ⟨v76, hv76, h⟩ := run_bind h
                  refine IdxH.mk (f := I) hv76 ?_ ?_ <;> simp -failIfUnchanged only [↓RA, RB, RS, fx28, p1, p2, p3, p4, reduceIte, p5, p6, p7, p8, c1, c2, c5, c6, c7, c8, c9, c10]
                  refine CondH.mk (fun c11 => ?_) (fun c11 => ?_)
                  · replace h := run_t c11 h
                    simp -failIfUnchanged only [↓RA, RB, RS, fx28, p1, p2, p3, p4, reduceIte, p5, p6, p7, p8, c1, c2, c5, c6, c7, c8, c9, c10, c11]
                    refine And.intro (DrawH.none (by rfl) (by first | rfl | (simp -failIfUnchanged only [↓RA, RB, RS, fx28, p1, p2, p3, p4, reduceIte, p5, p6, p7, p8] <;> rfl)) (by first | rfl | (simp -failIfUnchanged only [↓RA, RB, RS, fx28, p1, p2, p3, p4, reduceIte, p5, p6, p7, p8] <;> rfl)) (by first | rfl | (simp -failIfUnchanged only [↓RA, RB, RS, fx28, p1, p2, p3, p4, reduceIte, p5, p6, p7, p8] <;> rfl))) ?_
                    simp -failIfUnchanged only [↓RA, RB, RS, fx28, p1, p2, p3, p4, reduceIte, p5, p6, p7, p8, c1, c2, c5, c6, c7, c8, c9, c10, c11]
                    have h := run_some h
                    obtain rfl : _ = r := h
                    refine FinH.l ?_
                    simp -failIfUnchanged only [↓RA, RB, RS, fx28, p1, p2, p3, p4, reduceIte, p5, p6, p7, p8, c1, c2, c5, c6, c7, c8, c9, c10, c11]
                  · replace h := run_f c11 h
                    simp -failIfUnchanged only [↓RA, RB, RS, fx28, p1, p2, p3, p4, reduceIte, p5, p6, p7, p8, c1, c2, c5, c6, c7, c8, c9, c10, c11]
                    obtain ⟨v83, hv83, h⟩ := run_bind h
                    refine IdxH.mk (f := (SizeEdge.pv false)) hv83 ?_ ?_ <;> simp -failIfUnchanged only [↓RA, RB, RS, fx28, p1, p2, p3, p4, reduceIte, p5, p6, p7, p8, c1, c2, c5, c6, c7, c8, c9, c10, c11]
                    obtain ⟨v90, hv90, h⟩ := run_bind h
                    refine IdxH.mk (f := I) hv90 ?_ ?_ <;> simp -failIfUnchanged only [↓RA, RB, RS, fx28, p1, p2, p3, p4, reduceIte, p5, p6, p7, p8, c1, c2, c5, c6, c7, c8, c9, c10, c11]
                    refine And.intro (DrawH.none (by rfl) (by first | rfl | (simp -failIfUnchanged only [↓RA, RB, RS, fx28, p1, p2, p3, p4, reduceIte, p5, p6, p7, p8] <;> rfl)) (by first | rfl | (simp -failIfUnchanged only [↓RA, RB, RS, fx28, p1, p2, p3, p4, reduceIte, p5, p6, p7, p8] <;> rfl)) (by first | rfl | (simp -failIfUnchanged only [↓RA, RB, RS, fx28, p1, p2, p3, p4, reduceIte, p5, p6, p7, p8] <;> rfl))) ?_
                    simp -failIfUnchanged only [↓RA, RB, RS, fx28, p1, p2, p3, p4, reduceIte, p5, p6, p7, p8, c1, c2, c5, c6, c7, c8, c9, c10, c11]
                    refine CondH.mk (fun c12 => ?_) (fun c12 => ?_)
                    · replace h := run_t c12 h
                      simp -failIfUnchanged only [↓RA, RB, RS, fx28, p1, p2, p3, p4, reduceIte, p5, p6, p7, p8, c1, c2, c5, c6, c7, c8, c9, c10, c11, c12]
                      have h := run_some h
                      obtain rfl : _ = r := h
                      refine FinH.l ?_
                      simp -failIfUnchanged only [↓RA, RB, RS, fx28, p1, p2, p3, p4, reduceIte, p5, p6, p7, p8, c1, c2, c5, c6, c7, c8, c9, c10, c11, c12]
                    · replace h := run_f c12 h
                      simp -failIfUnchanged only [↓RA, RB, RS, fx28, p1, p2, p3, p4, reduceIte, p5, p6, p7, p8, c1, c2, c5, c6, c7, c8, c9, c10, c11, c12]
                      have h := run_some h
                      refine RdH.mk ⟨_, h, ?_⟩
                      refine St.le_mk2 ?_
                      simp -failIfUnchanged only [↓RA, RB, RS, fx28, p1, p2, p3, p4, reduceIte, p5, p6, p7, p8, c1, c2, c5, c6, c7, c8, c9, c10, c11, c12, w16]
                · simp -failIfUnchanged only [↓RA, RB, RS, fx28, p1, p2, p3, p4, reduceIte, p5, p6, p7, p8, c1, c2, c5, c6, c7, c8, c9]
                  refine CondH.ff (decide_eq_false (by omega)) (fun c13 => ?_)
                  simp -failIfUnchanged only [↓RA, RB, RS, fx28, p1, p2, p3, p4, reduceIte, p5, p6, p7, p8, c1, c2, c5, c6, c7, c8, c9, c13]
                  have h := run_some h
                  refine RdH.mk ⟨_, h, ?_⟩
                  refine St.le_mk2 ?_
                  simp -failIfUnchanged only [↓RA, RB, RS, fx28, p1, p2, p3, p4, reduceIte, p5, p6, p7, p8, c1, c2, c5, c6, c7, c8, c9, c13, w10]
          · replace h := run_f c7 h
            simp -failIfUnchanged only [↓RA, RB, RS, fx28, p1, p2, p3, p4, reduceIte, p5, p6, p7, p8, c1, c2, c5, c6, c7]
            have h := run_some h
            obtain rfl : _ = r := h
            refine FinH.l ?_
            simp -failIfUnchanged only [↓RA, RB, RS, fx28, p1, p2, p3, p4, reduceIte, p5, p6, p7, p8, c1, c2, c5, c6, c7]
        · simp -failIfUnchanged only [↓RA, RB, RS, fx28, p1, p2, p3, p4, reduceIte, p5, p6, p7, p8, c1, c2, c5]
          refine CondH.ff (decide_eq_false (by omega)) (fun c14 => ?_)
          simp -failIfUnchanged only [↓RA, RB, RS, fx28, p1, p2, p3, p4, reduceIte, p5, p6, p7, p8, c1, c2, c5, c14]
          have h := run_some h
          obtain rfl : _ = r := h
          refine FinH.l ?_
          simp -failIfUnchanged only [↓RA, RB, RS, fx28, p1, p2, p3, p4, reduceIte, p5, p6, p7, p8, c1, c2, c5, c14]
  · replace h := run_f c1 h
    simp -failIfUnchanged only [↓RA, RB, RS, fx28, p1, p2, p3, p4, reduceIte, p5, p6, p7, p8, c1]
    have h := run_some h
    obtain rfl : _ = r := h
    refine FinH.l ?_
    simp -failIfUnchanged only [↓RA, RB, RS, fx28, p1, p2, p3, p4, reduceIte, p5, p6, p7, p8, c1]

def fx29 := And.intro @ty_3 <| And.intro @zc_3 <| And.intro @z_3 <| And.intro @ty_4 <| And.intro @zc_4 <| And.intro @z_4 <| And.intro @u_4 <| And.intro @ty_22 <| And.intro @zc_22 <| And.intro @z_22 <| And.intro @es_22 <| And.intro @eb_22 <| And.intro @sl_22 <| And.intro @is_22 <| And.intro @el_22 <| And.intro @ze_22 <| And.intro @ez_22 <| And.intro @ty_29 <| And.intro @zc_29 <| And.intro @z_29 <| And.intro @es_29 <| And.intro @eb_29 <| And.intro @sl_29 <| And.intro @is_29 <| And.intro @el_29 <| And.intro @ze_29 <| And.intro @ez_29 <| And.intro @ty_31 <| And.intro @zc_31 <| And.intro @z_31 <| And.intro @fo_31_0 <| And.intro @fi_31_0 <| And.intro @ft_31_0 <| And.intro @fo_31_1 <| And.intro @fi_31_1 <| And.intro @ft_31_1 <| And.intro @lay_31 <| And.intro @ty_53 <| And.intro @zc_53 <| And.intro @z_53 <| And.intro @fo_53_0 <| And.intro @fi_53_0 <| And.intro @ft_53_0 <| And.intro @fo_53_1 <| And.intro @fi_53_1 <| And.intro @ft_53_1 <| And.intro @fo_53_2 <| And.intro @fi_53_2 <| And.intro @ft_53_2 <| And.intro @lay_53 <| @mixedT
set_option maxHeartbeats 4000000 in
theorem spec_l24Path_sat {a0 : CyclicProof} {a1 : List Int}  {r : Bool} (h : spec_l24Path a0 a1 = some r) : Sat Try.prog 29 [((CyclicProof.pv false) a0), (.sl false 1 (a1.map I))] (B r) := by
  replace h := Run.of h
  unfold spec_l24Path at h
  refine Sat.of_m (nt := 55) (rs := [.tmp 4]) (n := 100000) Try.func29 rfl rfl rfl rfl (by simp) ?_
  simp -failIfUnchanged only [↓RA, RB, RS, fx29, p1, p2, p3, p4, reduceIte, p5, p6, p7, p8]
  repeat (first | with_reducible refine noR_and (by repeat (first | exact noR_empty _ _ | exact noR_nilS _ _ | refine noR_mk _ _ _ _ _ rfl ?_ | refine noR_mkS _ _ _ _ _ rfl ?_)) ?_ | with_reducible refine noC_and (by repeat (first | exact noC_empty _ _ (by simp -failIfUnchanged only [↓RA, RB, RS, fx29, p1, p2, p3, p4, reduceIte, p5, p6, p7, p8]) | exact noC_nilS _ _ (by simp -failIfUnchanged only [↓RA, RB, RS, fx29, p1, p2, p3, p4, reduceIte, p5, p6, p7, p8]) | refine noC_mk _ _ _ _ _ rfl ?_ | refine noC_mkS _ _ _ _ _ rfl ?_)) ?_ | with_reducible refine and_ac ?_ | with_reducible refine And.intro (a := _ = List.range _) (by rfl) ?_)
  refine Mg.know_sl (b := false) (sz := 1) (es := a1.map I) 1 (by simp -failIfUnchanged only [↓RA, RB, RS, fx29, p1, p2, p3, p4, reduceIte, p5, p6, p7, p8]) fun hl1 => ?_; rw [List.length_map] at hl1
  replace h := run_loop h
  refine Mg.forN h (fun i2 s2 => [(1, .val (.pv (.sl false 1 (a1.map I)))), (2, .box (.pv ((CyclicProof.pv false) a0))), (5, .val (.pv (I (i2 : Int))))]) (fun i2 s2 => []) (St.le_mk2 (by simp -failIfUnchanged only [↓RA, RB, RS, fx29, p1, p2, p3, p4, reduceIte, p5, p6, p7, p8])) (fun i2 s2 hi h => ?_) (fun s2 h => ?_)
  · have w2 := wrap_succ (i := i2) (by omega)
    simp -failIfUnchanged only [↓RA, RB, RS, fx29, p1, p2, p3, p4, reduceIte, p5, p6, p7, p8]
    refine CondH.tt (decide_eq_true (by omega)) (fun c1 => ?_)
    simp -failIfUnchanged only [↓RA, RB, RS, fx29, p1, p2, p3, p4, reduceIte, p5, p6, p7, p8, c1]
    refine CondH.mk (fun c2 => ?_) (fun c2 => ?_)
    · replace h := run_t c2 h
      simp -failIfUnchanged only [↓RA, RB, RS, fx29, p1, p2, p3, p4, reduceIte, p5, p6, p7, p8, c1, c2]
      obtain ⟨v18, hv18, h⟩ := run_bind h
      refine IdxH.mk (f := I) hv18 ?_ ?_ <;> simp -failIfUnchanged only [↓RA, RB, RS, fx29, p1, p2, p3, p4, reduceIte, p5, p6, p7, p8, c1, c2]
      obtain ⟨v24, hv24, h⟩ := run_bind h
      refine CallH.mk [false, false, false] (spec_l1In_sat hv24) ?_ ?_ <;> simp -failIfUnchanged only [↓RA, RB, RS, fx29, p1, p2, p3, p4, reduceIte, p5, p6, p7, p8, c1, c2]
      refine CondH.mk (fun c3 => ?_) (fun c3 => ?_)
      · replace h := run_t c3 h
        simp -failIfUnchanged only [↓RA, RB, RS, fx29, p1, p2, p3, p4, reduceIte, p5, p6, p7, p8, c1, c2, c3]
        refine CondH.mk (fun c4 => ?_) (fun c4 => ?_)
        · replace h := run_t c4 h
          simp -failIfUnchanged only [↓RA, RB, RS, fx29, p1, p2, p3, p4, reduceIte, p5, p6, p7, p8, c1, c2, c3, c4]
          obtain ⟨v35, hv35, h⟩ := run_bind h
          refine IdxH.mk (f := I) hv35 ?_ ?_ <;> simp -failIfUnchanged only [↓RA, RB, RS, fx29, p1, p2, p3, p4, reduceIte, p5, p6, p7, p8, c1, c2, c3, c4]
          obtain ⟨v37, hv37, h⟩ := run_bind h
          refine IdxH.mk (f := (SizeGraph.pv false)) hv37 ?_ ?_ <;> simp -failIfUnchanged only [↓RA, RB, RS, fx29, p1, p2, p3, p4, reduceIte, p5, p6, p7, p8, c1, c2, c3, c4]
          obtain ⟨v44, hv44, h⟩ := run_bind h
          refine IdxH.mk (f := I) hv44 ?_ ?_ <;> simp -failIfUnchanged only [↓RA, RB, RS, fx29, p1, p2, p3, p4, reduceIte, p5, p6, p7, p8, c1, c2, c3, c4]
          obtain ⟨v46, hv46, h⟩ := run_bind h
          refine IdxH.mk (f := (SizeGraph.pv false)) hv46 ?_ ?_ <;> simp -failIfUnchanged only [↓RA, RB, RS, fx29, p1, p2, p3, p4, reduceIte, p5, p6, p7, p8, c1, c2, c3, c4]
          refine And.intro (DrawH.none (by rfl) (by first | rfl | (simp -failIfUnchanged only [↓RA, RB, RS, fx29, p1, p2, p3, p4, reduceIte, p5, p6, p7, p8] <;> rfl)) (by first | rfl | (simp -failIfUnchanged only [↓RA, RB, RS, fx29, p1, p2, p3, p4, reduceIte, p5, p6, p7, p8] <;> rfl)) (by first | rfl | (simp -failIfUnchanged only [↓RA, RB, RS, fx29, p1, p2, p3, p4, reduceIte, p5, p6, p7, p8] <;> rfl))) ?_
          simp -failIfUnchanged only [↓RA, RB, RS, fx29, p1, p2, p3, p4, reduceIte, p5, p6, p7, p8, c1, c2, c3, c4]
          refine CondH.mk (fun c5 => ?_) (fun c5 => ?_)
          · replace h := run_t c5 h
            simp -failIfUnchanged only [↓RA, RB, RS, fx29, p1, p2, p3, p4, reduceIte, p5, p6, p7, p8, c1, c2, c3, c4, c5]
            have h := run_some h
            refine RdH.mk ⟨_, h, ?_⟩
            refine St.le_mk2 ?_
            simp -failIfUnchanged only [↓RA, RB, RS, fx29, p1, p2, p3, p4, reduceIte, p5, p6, p7, p8, c1, c2, c3, c4, c5, w2]
          · replace h := run_f c5 h
            simp -failIfUnchanged only [↓RA, RB, RS, fx29, p1, p2, p3, p4, reduceIte, p5, p6, p7, p8, c1, c2, c3, c4, c5]
            have h := run_some h
            obtain rfl : _ = r := h
            refine FinH.l ?_
            simp -failIfUnchanged only [↓RA, RB, RS, fx29, p1, p2, p3, p4, reduceIte, p5, p6, p7, p8, c1, c2, c3, c4, c5]
        · replace h := run_f c4 h
          simp -failIfUnchanged only [↓RA, RB, RS, fx29, p1, p2, p3, p4, reduceIte, p5, p6, p7, p8, c1, c2, c3, c4]
          refine And.intro (DrawH.none (by rfl) (by first | rfl | (simp -failIfUnchanged only [↓RA, RB, RS, fx29, p1, p2, p3, p4, reduceIte, p5, p6, p7, p8] <;> rfl)) (by first | rfl | (simp -failIfUnchanged only [↓RA, RB, RS, fx29, p1, p2, p3, p4, reduceIte, p5, p6, p7, p8] <;> rfl)) (by first | rfl | (simp -failIfUnchanged only [↓RA, RB, RS, fx29, p1, p2, p3, p4, reduceIte, p5, p6, p7, p8] <;> rfl))) ?_
          simp -failIfUnchanged only [↓RA, RB, RS, fx29, p1, p2, p3, p4, reduceIte, p5, p6, p7, p8, c1, c2, c3, c4]
          have h := run_some h
          refine RdH.mk ⟨_, h, ?_⟩
          refine St.le_mk2 ?_
          simp -failIfUnchanged only [↓RA, RB, RS, fx29, p1, p2, p3, p4, reduceIte, p5, p6, p7, p8, c1, c2, c3, c4, w2]
      · replace h := run_f c3 h
        simp -failIfUnchanged only [↓RA, RB, RS, fx29, p1, p2, p3, p4, reduceIte, p5, p6, p7, p8, c1, c2, c3]
        refine And.intro (DrawH.none (by rfl) (by first | rfl | (simp -failIfUnchanged only [↓RA, RB, RS, fx29, p1, p2, p3, p4, reduceIte, p5, p6, p7, p8] <;> rfl)) (by first | rfl | (simp -failIfUnchanged only [↓RA, RB, RS, fx29, p1, p2, p3, p4, reduceIte, p5, p6, p7, p8] <;> rfl)) (by first | rfl | (simp -failIfUnchanged only [↓RA, RB, RS, fx29, p1, p2, p3, p4, reduceIte, p5, p6, p7, p8] <;> rfl))) ?_
        simp -failIfUnchanged only [↓RA, RB, RS, fx29, p1, p2, p3, p4, reduceIte, p5, p6, p7, p8, c1, c2, c3]
        have h := run_some h
        obtain rfl : _ = r := h
        refine FinH.l ?_
        simp -failIfUnchanged only [↓RA, RB, RS, fx29, p1, p2, p3, p4, reduceIte, p5, p6, p7, p8, c1, c2, c3]
    · replace h := run_f c2 h
      simp -failIfUnchanged only [↓RA, RB, RS, fx29, p1, p2, p3, p4, reduceIte, p5, p6, p7, p8, c1, c2]
      have h := run_some h
      obtain rfl : _ = r := h
      refine FinH.l ?_
      simp -failIfUnchanged only [↓RA, RB, RS, fx29, p1, p2, p3, p4, reduceIte, p5, p6, p7, p8, c1, c2]
  · simp -failIfUnchanged only [↓RA, RB, RS, fx29, p1, p2, p3, p4, reduceIte, p5, p6, p7, p8]
    refine CondH.ff (decide_eq_false (by omega)) (fun c6 => ?_)
    simp -failIfUnchanged only [↓RA, RB, RS, fx29, p1, p2, p3, p4, reduceIte, p5, p6, p7, p8, c6]
    have h := run_some h
    obtain rfl : _ = r := h
    refine FinH.l ?_
    simp -failIfUnchanged only [↓RA, RB, RS, fx29, p1, p2, p3, p4, reduceIte, p5, p6, p7, p8, c6]

def fx14 := And.intro @ty_3 <| And.intro @zc_3 <| And.intro @z_3 <| And.intro @ty_4 <| And.intro @zc_4 <| And.intro @z_4 <| And.intro @u_4 <| And.intro @ty_22 <| And.intro @zc_22 <| And.intro @z_22 <| And.intro @es_22 <| And.intro @eb_22 <| And.intro @sl_22 <| And.intro @is_22 <| And.intro @el_22 <| And.intro @ze_22 <| And.intro @ez_22 <| And.intro @ty_31 <| And.intro @zc_31 <| And.intro @z_31 <| And.intro @fo_31_0 <| And.intro @fi_31_0 <| And.intro @ft_31_0 <| And.intro @fo_31_1 <| And.intro @fi_31_1 <| And.intro @ft_31_1 <| @lay_31
set_option maxHeartbeats 4000000 in
theorem spec_RepeatPath_sat {a0 : CyclicProof} {a1 : List Int} {a2 : Int}  {r : (List Int) × Bool} (h : spec_RepeatPath a0 a1 a2 = some r) : Sat Try.prog 14 [((CyclicProof.pv false) a0), (.sl false 1 (a1.map I)), (I a2)] (.tup [(.sl true 1 (r.1.map I)), (B r.2)]) := by
  replace h := Run.of h
  unfold spec_RepeatPath at h
  refine Sat.of_m (nt := 53) (rs := [.tmp 6, .tmp 7]) (n := 100000) Try.func14 rfl rfl rfl rfl (by simp) ?_
  simp -failIfUnchanged only [↓RA, RB, RS, fx14, p1, p2, p3, p4, reduceIte, p5, p6, p7, p8]
  repeat (first | with_reducible refine noR_and (by repeat (first | exact noR_empty _ _ | exact noR_nilS _ _ | refine noR_mk _ _ _ _ _ rfl ?_ | refine noR_mkS _ _ _ _ _ rfl ?_)) ?_ | with_reducible refine noC_and (by repeat (first | exact noC_empty _ _ (by simp -failIfUnchanged only [↓RA, RB, RS, fx14, p1, p2, p3, p4, reduceIte, p5, p6, p7, p8]) | exact noC_nilS _ _ (by simp -failIfUnchanged only [↓RA, RB, RS, fx14, p1, p2, p3, p4, reduceIte, p5, p6, p7, p8]) | refine noC_mk _ _ _ _ _ rfl ?_ | refine noC_mkS _ _ _ _ _ rfl ?_)) ?_ | with_reducible refine and_ac ?_ | with_reducible refine And.intro (a := _ = List.range _) (by rfl) ?_)
  obtain ⟨v12, hv12, h⟩ := run_bind h
  refine CallH.mk [false] (spec_l24Good_sat hv12) ?_ ?_ <;> simp -failIfUnchanged only [↓RA, RB, RS, fx14, p1, p2, p3, p4, reduceIte, p5, p6, p7, p8]
  refine CondH.mk (fun c1 => ?_) (fun c1 => ?_)
  · replace h := run_t c1 h
    simp -failIfUnchanged only [↓RA, RB, RS, fx14, p1, p2, p3, p4, reduceIte, p5, p6, p7, p8, c1]
    obtain ⟨v17, hv17, h⟩ := run_bind h
    refine CallH.mk [false, false] (spec_l24Path_sat hv17) ?_ ?_ <;> simp -failIfUnchanged only [↓RA, RB, RS, fx14, p1, p2, p3, p4, reduceIte, p5, p6, p7, p8, c1]
    refine CondH.mk (fun c2 => ?_) (fun c2 => ?_)
    · replace h := run_t c2 h
      simp -failIfUnchanged only [↓RA, RB, RS, fx14, p1, p2, p3, p4, reduceIte, p5, p6, p7, p8, c1, c2]
      refine CondH.mk (fun c3 => ?_) (fun c3 => ?_)
      · replace h := run_t c3 h
        simp -failIfUnchanged only [↓RA, RB, RS, fx14, p1, p2, p3, p4, reduceIte, p5, p6, p7, p8, c1, c2, c3]
        have h := run_some h
        obtain rfl : _ = r := h
        refine FinH.l ?_
        simp -failIfUnchanged only [↓RA, RB, RS, fx14, p1, p2, p3, p4, reduceIte, p5, p6, p7, p8, c1, c2, c3]
      · replace h := run_f c3 h
        simp -failIfUnchanged only [↓RA, RB, RS, fx14, p1, p2, p3, p4, reduceIte, p5, p6, p7, p8, c1, c2, c3]
        refine CondH.mk (fun c4 => ?_) (fun c4 => ?_)
        · replace h := run_t c4 h
          simp -failIfUnchanged only [↓RA, RB, RS, fx14, p1, p2, p3, p4, reduceIte, p5, p6, p7, p8, c1, c2, c3, c4]
          refine CondH.mk (fun c5 => ?_) (fun c5 => ?_)
          · replace h := run_t c5 h
            simp -failIfUnchanged only [↓RA, RB, RS, fx14, p1, p2, p3, p4, reduceIte, p5, p6, p7, p8, c1, c2, c3, c4, c5]
            have h := run_some h
            obtain rfl : _ = r := h
            refine FinH.l ?_
            simp -failIfUnchanged only [↓RA, RB, RS, fx14, p1, p2, p3, p4, reduceIte, p5, p6, p7, p8, c1, c2, c3, c4, c5]
          · replace h := run_f c5 h
            simp -failIfUnchanged only [↓RA, RB, RS, fx14, p1, p2, p3, p4, reduceIte, p5, p6, p7, p8, c1, c2, c3, c4, c5]
            obtain ⟨N5, hN5, h⟩ := run_bind h
            obtain ⟨hN5a, hN5b⟩ := bnd_some hN5
            replace h := run_loop h
            refine Mg.forN h (fun i5 s5 => [(1, .val (.pv (.sl false 1 (a1.map I)))), (2, .val (.pv (I a2))), (3, .box (.pv ((CyclicProof.pv false) a0))), (8, .val (.own 160)), (9, .val (.pv (I (i5 : Int))))]) (fun i5 s5 => [(160, (1, s5.map I))]) (St.le_mk2 (by simp -failIfUnchanged only [↓RA, RB, RS, fx14, p1, p2, p3, p4, reduceIte, p5, p6, p7, p8, c1, c2, c3, c4, c5])) (fun i5 s5 hi h => ?_) (fun s5 h => ?_)
            · have w5 := wrap_succ (i := i5) (by omega)
              simp -failIfUnchanged only [↓RA, RB, RS, fx14, p1, p2, p3, p4, reduceIte, p5, p6, p7, p8, c1, c2, c3, c4, c5]
              refine CondH.tt (decide_eq_true (by omega)) (fun c6 => ?_)
              simp -failIfUnchanged only [↓RA, RB, RS, fx14, p1, p2, p3, p4, reduceIte, p5, p6, p7, p8, c1, c2, c3, c4, c5, c6]
              obtain ⟨v46, hv46, h⟩ := run_bind h
              refine AppH.mk (f := I) (fun _ => rfl) hv46 ?_ ?_ ?_ <;> simp -failIfUnchanged only [↓RA, RB, RS, fx14, p1, p2, p3, p4, reduceIte, p5, p6, p7, p8, c1, c2, c3, c4, c5, c6]
              repeat (first | with_reducible refine noR_and (by repeat (first | exact noR_empty _ _ | exact noR_nilS _ _ | refine noR_mk _ _ _ _ _ rfl ?_ | refine noR_mkS _ _ _ _ _ rfl ?_)) ?_ | with_reducible refine noC_and (by repeat (first | exact noC_empty _ _ (by simp -failIfUnchanged only [↓RA, RB, RS, fx14, p1, p2, p3, p4, reduceIte, p5, p6, p7, p8]) | exact noC_nilS _ _ (by simp -failIfUnchanged only [↓RA, RB, RS, fx14, p1, p2, p3, p4, reduceIte, p5, p6, p7, p8]) | refine noC_mk _ _ _ _ _ rfl ?_ | refine noC_mkS _ _ _ _ _ rfl ?_)) ?_ | with_reducible refine and_ac ?_ | with_reducible refine And.intro (a := _ = List.range _) (by rfl) ?_)
              have h := run_some h
              refine RdH.mk ⟨_, h, ?_⟩
              refine St.le_trans (St.le_mk (S := [(1, .val (.pv (.sl false 1 (a1.map I)))), (2, .val (.pv (I a2))), (3, .box (.pv ((CyclicProof.pv false) a0))), (8, .val (.own 736)), (9, .val (.pv (I (IntKind.i64.wrap ((i5 : Int) + (1 : Int))))))]) (O := [(736, (1, v46.map I))]) (by simp -failIfUnchanged only [↓RA, RB, RS, fx14, p1, p2, p3, p4, reduceIte, p5, p6, p7, p8, c1, c2, c3, c4, c5, c6, w5]) (by simp -failIfUnchanged only [↓RA, RB, RS, fx14, p1, p2, p3, p4, reduceIte, p5, p6, p7, p8, c1, c2, c3, c4, c5, c6, w5])) ?_
              refine St.le_rn 736 160 (by decide) (by repeat (first | exact noC_empty _ _ (by simp -failIfUnchanged only [↓RA, RB, RS, fx14, p1, p2, p3, p4, reduceIte, p5, p6, p7, p8]) | exact noC_nilS _ _ (by simp -failIfUnchanged only [↓RA, RB, RS, fx14, p1, p2, p3, p4, reduceIte, p5, p6, p7, p8]) | refine noC_mk _ _ _ _ _ rfl ?_ | refine noC_mkS _ _ _ _ _ rfl ?_)) ?_
              refine St.le_mk2 ?_
              simp -failIfUnchanged only [↓RA, RB, RS, fx14, p1, p2, p3, p4, reduceIte, p5, p6, p7, p8, c1, c2, c3, c4, c5, c6, w5]
            · simp -failIfUnchanged only [↓RA, RB, RS, fx14, p1, p2, p3, p4, reduceIte, p5, p6, p7, p8, c1, c2, c3, c4, c5]
              refine CondH.ff (decide_eq_false (by omega)) (fun c7 => ?_)
              simp -failIfUnchanged only [↓RA, RB, RS, fx14, p1, p2, p3, p4, reduceIte, p5, p6, p7, p8, c1, c2, c3, c4, c5, c7]
              obtain ⟨v49, hv49, h⟩ := run_bind h
              refine CallH.mk [false, false] (spec_l24Path_sat hv49) ?_ ?_ <;> simp -failIfUnchanged only [↓RA, RB, RS, fx14, p1, p2, p3, p4, reduceIte, p5, p6, p7, p8, c1, c2, c3, c4, c5, c7]
              refine CondH.mk (fun c8 => ?_) (fun c8 => ?_)
              · replace h := run_t c8 h
                simp -failIfUnchanged only [↓RA, RB, RS, fx14, p1, p2, p3, p4, reduceIte, p5, p6, p7, p8, c1, c2, c3, c4, c5, c7, c8]
                have h := run_some h
                obtain rfl : _ = r := h
                refine FinH.l ?_
                simp -failIfUnchanged only [↓RA, RB, RS, fx14, p1, p2, p3, p4, reduceIte, p5, p6, p7, p8, c1, c2, c3, c4, c5, c7, c8]
              · replace h := run_f c8 h
                simp -failIfUnchanged only [↓RA, RB, RS, fx14, p1, p2, p3, p4, reduceIte, p5, p6, p7, p8, c1, c2, c3, c4, c5, c7, c8]
                repeat (first | with_reducible refine noR_and (by repeat (first | exact noR_empty _ _ | exact noR_nilS _ _ | refine noR_mk _ _ _ _ _ rfl ?_ | refine noR_mkS _ _ _ _ _ rfl ?_)) ?_ | with_reducible refine noC_and (by repeat (first | exact noC_empty _ _ (by simp -failIfUnchanged only [↓RA, RB, RS, fx14, p1, p2, p3, p4, reduceIte, p5, p6, p7, p8]) | exact noC_nilS _ _ (by simp -failIfUnchanged only [↓RA, RB, RS, fx14, p1, p2, p3, p4, reduceIte, p5, p6, p7, p8]) | refine noC_mk _ _ _ _ _ rfl ?_ | refine noC_mkS _ _ _ _ _ rfl ?_)) ?_ | with_reducible refine and_ac ?_ | with_reducible refine And.intro (a := _ = List.range _) (by rfl) ?_)
                have h := run_some h
                obtain rfl : _ = r := h
                refine FinH.l ?_
                simp -failIfUnchanged only [↓RA, RB, RS, fx14, p1, p2, p3, p4, reduceIte, p5, p6, p7, p8, c1, c2, c3, c4, c5, c7, c8]
        · replace h := run_f c4 h
          simp -failIfUnchanged only [↓RA, RB, RS, fx14, p1, p2, p3, p4, reduceIte, p5, p6, p7, p8, c1, c2, c3, c4]
          replace h := run_loop h
          refine Mg.whileN h (fun s5 => [(1, .val (.pv (.sl false 1 (a1.map I)))), (2, .val (.pv (I a2))), (3, .box (.pv ((CyclicProof.pv false) a0))), (8, .val (.own 160)), (9, .val (.pv (I (0 : Int))))]) (fun s5 => [(160, (1, ([]).map I))]) (St.le_mk2 (by simp -failIfUnchanged only [↓RA, RB, RS, fx14, p1, p2, p3, p4, reduceIte, p5, p6, p7, p8, c1, c2, c3, c4])) (fun n5 s5 h => ?_)
          simp -failIfUnchanged only [↓RA, RB, RS, fx14, p1, p2, p3, p4, reduceIte, p5, p6, p7, p8, c1, c2, c3, c4]
          refine CondH.mk (fun c9 => ?_) (fun c9 => ?_)
          · replace h := run_t c9 h
            simp -failIfUnchanged only [↓RA, RB, RS, fx14, p1, p2, p3, p4, reduceIte, p5, p6, p7, p8, c1, c2, c3, c4, c9]
            have h := run_some h
            obtain ⟨v49, hv49, h⟩ := run_bind h
            refine CallH.mk [false, false] (spec_l24Path_sat hv49) ?_ ?_ <;> simp -failIfUnchanged only [↓RA, RB, RS, fx14, p1, p2, p3, p4, reduceIte, p5, p6, p7, p8, c1, c2, c3, c4, c9]
            refine CondH.mk (fun c10 => ?_) (fun c10 => ?_)
            · replace h := run_t c10 h
              simp -failIfUnchanged only [↓RA, RB, RS, fx14, p1, p2, p3, p4, reduceIte, p5, p6, p7, p8, c1, c2, c3, c4, c9, c10]
              have h := run_some h
              obtain rfl : _ = r := h
              refine FinH.l ?_
              simp -failIfUnchanged only [↓RA, RB, RS, fx14, p1, p2, p3, p4, reduceIte, p5, p6, p7, p8, c1, c2, c3, c4, c9, c10]
            · replace h := run_f c10 h
              simp -failIfUnchanged only [↓RA, RB, RS, fx14, p1, p2, p3, p4, reduceIte, p5, p6, p7, p8, c1, c2, c3, c4, c9, c10]
              repeat (first | with_reducible refine noR_and (by repeat (first | exact noR_empty _ _ | exact noR_nilS _ _ | refine noR_mk _ _ _ _ _ rfl ?_ | refine noR_mkS _ _ _ _ _ rfl ?_)) ?_ | with_reducible refine noC_and (by repeat (first | exact noC_empty _ _ (by simp -failIfUnchanged only [↓RA, RB, RS, fx14, p1, p2, p3, p4, reduceIte, p5, p6, p7, p8]) | exact noC_nilS _ _ (by simp -failIfUnchanged only [↓RA, RB, RS, fx14, p1, p2, p3, p4, reduceIte, p5, p6, p7, p8]) | refine noC_mk _ _ _ _ _ rfl ?_ | refine noC_mkS _ _ _ _ _ rfl ?_)) ?_ | with_reducible refine and_ac ?_ | with_reducible refine And.intro (a := _ = List.range _) (by rfl) ?_)
              have h := run_some h
              obtain rfl : _ = r := h
              refine FinH.l ?_
              simp -failIfUnchanged only [↓RA, RB, RS, fx14, p1, p2, p3, p4, reduceIte, p5, p6, p7, p8, c1, c2, c3, c4, c9, c10]
          · replace h := run_f c9 h
            simp -failIfUnchanged only [↓RA, RB, RS, fx14, p1, p2, p3, p4, reduceIte, p5, p6, p7, p8, c1, c2, c3, c4, c9]
            have h := run_some h
            obtain ⟨v49, hv49, h⟩ := run_bind h
            refine CallH.mk [false, false] (spec_l24Path_sat hv49) ?_ ?_ <;> simp -failIfUnchanged only [↓RA, RB, RS, fx14, p1, p2, p3, p4, reduceIte, p5, p6, p7, p8, c1, c2, c3, c4, c9]
            refine CondH.mk (fun c11 => ?_) (fun c11 => ?_)
            · replace h := run_t c11 h
              simp -failIfUnchanged only [↓RA, RB, RS, fx14, p1, p2, p3, p4, reduceIte, p5, p6, p7, p8, c1, c2, c3, c4, c9, c11]
              have h := run_some h
              obtain rfl : _ = r := h
              refine FinH.l ?_
              simp -failIfUnchanged only [↓RA, RB, RS, fx14, p1, p2, p3, p4, reduceIte, p5, p6, p7, p8, c1, c2, c3, c4, c9, c11]
            · replace h := run_f c11 h
              simp -failIfUnchanged only [↓RA, RB, RS, fx14, p1, p2, p3, p4, reduceIte, p5, p6, p7, p8, c1, c2, c3, c4, c9, c11]
              repeat (first | with_reducible refine noR_and (by repeat (first | exact noR_empty _ _ | exact noR_nilS _ _ | refine noR_mk _ _ _ _ _ rfl ?_ | refine noR_mkS _ _ _ _ _ rfl ?_)) ?_ | with_reducible refine noC_and (by repeat (first | exact noC_empty _ _ (by simp -failIfUnchanged only [↓RA, RB, RS, fx14, p1, p2, p3, p4, reduceIte, p5, p6, p7, p8]) | exact noC_nilS _ _ (by simp -failIfUnchanged only [↓RA, RB, RS, fx14, p1, p2, p3, p4, reduceIte, p5, p6, p7, p8]) | refine noC_mk _ _ _ _ _ rfl ?_ | refine noC_mkS _ _ _ _ _ rfl ?_)) ?_ | with_reducible refine and_ac ?_ | with_reducible refine And.intro (a := _ = List.range _) (by rfl) ?_)
              have h := run_some h
              obtain rfl : _ = r := h
              refine FinH.l ?_
              simp -failIfUnchanged only [↓RA, RB, RS, fx14, p1, p2, p3, p4, reduceIte, p5, p6, p7, p8, c1, c2, c3, c4, c9, c11]
    · replace h := run_f c2 h
      simp -failIfUnchanged only [↓RA, RB, RS, fx14, p1, p2, p3, p4, reduceIte, p5, p6, p7, p8, c1, c2]
      have h := run_some h
      obtain rfl : _ = r := h
      refine FinH.l ?_
      simp -failIfUnchanged only [↓RA, RB, RS, fx14, p1, p2, p3, p4, reduceIte, p5, p6, p7, p8, c1, c2]
  · replace h := run_f c1 h
    simp -failIfUnchanged only [↓RA, RB, RS, fx14, p1, p2, p3, p4, reduceIte, p5, p6, p7, p8, c1]
    have h := run_some h
    obtain rfl : _ = r := h
    refine FinH.l ?_
    simp -failIfUnchanged only [↓RA, RB, RS, fx14, p1, p2, p3, p4, reduceIte, p5, p6, p7, p8, c1]

def fx51 := And.intro @ty_3 <| And.intro @zc_3 <| @z_3
set_option maxHeartbeats 4000000 in
theorem impl_within_sat {a0 : Int} {a1 : Int} {a2 : Int}  {r : Bool} (h : impl_within a0 a1 a2 = some r) : Sat Try.prog 51 [(I a0), (I a1), (I a2)] (B r) := by
  replace h := Run.of h
  unfold impl_within at h
  refine Sat.of_m (nt := 15) (rs := [.tmp 6]) (n := 100000) Try.func51 rfl rfl rfl rfl (by simp) ?_
  simp -failIfUnchanged only [↓RA, RB, RS, fx51, p1, p2, p3, p4, reduceIte, p5, p6, p7, p8]
  refine CondH.mk (fun c1 => ?_) (fun c1 => ?_)
  · replace h := run_t c1 h
    simp -failIfUnchanged only [↓RA, RB, RS, fx51, p1, p2, p3, p4, reduceIte, p5, p6, p7, p8, c1]
    have h := run_some h
    obtain rfl : _ = r := h
    refine FinH.l ?_
    simp -failIfUnchanged only [↓RA, RB, RS, fx51, p1, p2, p3, p4, reduceIte, p5, p6, p7, p8, c1]
  · replace h := run_f c1 h
    simp -failIfUnchanged only [↓RA, RB, RS, fx51, p1, p2, p3, p4, reduceIte, p5, p6, p7, p8, c1]
    have h := run_some h
    obtain rfl : _ = r := h
    refine FinH.l ?_
    simp -failIfUnchanged only [↓RA, RB, RS, fx51, p1, p2, p3, p4, reduceIte, p5, p6, p7, p8, c1]

def fx53 := And.intro @ty_3 <| And.intro @zc_3 <| And.intro @z_3 <| And.intro @ty_4 <| And.intro @zc_4 <| And.intro @z_4 <| @u_4
set_option maxHeartbeats 4000000 in
theorem impl_IsValidCyclic_1_sat {a0 : Int}  {r : Bool} (h : impl_IsValidCyclic_1 a0 = some r) : Sat Try.prog 53 [(I a0)] (B r) := by
  replace h := Run.of h
  unfold impl_IsValidCyclic_1 at h
  refine Sat.of_m (nt := 6) (rs := [.tmp 2]) (n := 100000) Try.func53 rfl rfl rfl rfl (by simp) ?_
  simp -failIfUnchanged only [↓RA, RB, RS, fx53, p1, p2, p3, p4, reduceIte, p5, p6, p7, p8]
  obtain ⟨v4, hv4, h⟩ := run_bind h
  refine CallH.mk [false, false, false] (impl_within_sat hv4) ?_ ?_ <;> simp -failIfUnchanged only [↓RA, RB, RS, fx53, p1, p2, p3, p4, reduceIte, p5, p6, p7, p8]
  have h := run_some h
  obtain rfl : _ = r := h
  refine FinH.l ?_
  simp -failIfUnchanged only [↓RA, RB, RS, fx53, p1, p2, p3, p4, reduceIte, p5, p6, p7, p8]

def fx75 := And.intro @ty_3 <| And.intro @zc_3 <| And.intro @z_3 <| And.intro @ty_22 <| And.intro @zc_22 <| And.intro @z_22 <| And.intro @es_22 <| And.intro @eb_22 <| And.intro @sl_22 <| And.intro @is_22 <| And.intro @el_22 <| And.intro @ze_22 <| @ez_22
set_option maxHeartbeats 4000000 in
theorem slices_IndexFunc_Sint_int_sat {a0 : List Int} {a1 : Int → Option Bool} {a1_id : FuncId} {a1_cs : List PV} (a1_ok : ∀ y0 r, a1 y0 = some r → Sat Try.prog a1_id ((I y0) :: a1_cs) (B r)) (a1_cz : CapsOk a1_cs = True) {r : Int} (h : slices_IndexFunc_Sint_int a0 a1 = some r) : Sat Try.prog 75 [(.sl false 1 (a0.map I)), .clo a1_id a1_cs] (I r) := by
  replace h := Run.of h
  unfold slices_IndexFunc_Sint_int at h
  refine Sat.of_m (nt := 19) (rs := [.tmp 4]) (n := 100000) Try.func75 rfl rfl rfl rfl (by simp) ?_
  simp -failIfUnchanged only [↓RA, RB, RS, fx75, a1_cz, p1, p2, p3, p4, reduceIte, p5, p6, p7, p8]
  refine Mg.know_sl (b := false) (sz := 1) (es := a0.map I) 0 (by simp -failIfUnchanged only [↓RA, RB, RS, fx75, a1_cz, p1, p2, p3, p4, reduceIte, p5, p6, p7, p8]) fun hl0 => ?_; rw [List.length_map] at hl0
  replace h := run_loop h
  refine Mg.forN h (fun i2 s2 => [(0, .val (.pv (.sl false 1 (a0.map I)))), (1, .val (.pv (.clo a1_id a1_cs))), (7, .val (.pv (I (a0.length : Int)))), (8, .val (.pv (I (i2 : Int))))]) (fun i2 s2 => []) (St.le_mk2 (by simp -failIfUnchanged only [↓RA, RB, RS, fx75, a1_cz, p1, p2, p3, p4, reduceIte, p5, p6, p7, p8])) (fun i2 s2 hi h => ?_) (fun s2 h => ?_)
  · have w2 := wrap_succ (i := i2) (by omega)
    simp -failIfUnchanged only [↓RA, RB, RS, fx75, a1_cz, p1, p2, p3, p4, reduceIte, p5, p6, p7, p8]
    refine CondH.tt (decide_eq_true (by omega)) (fun c1 => ?_)
    simp -failIfUnchanged only [↓RA, RB, RS, fx75, a1_cz, p1, p2, p3, p4, reduceIte, p5, p6, p7, p8, c1]
    obtain ⟨v14, hv14, h⟩ := run_bind h
    refine IdxH.mk (f := I) hv14 ?_ ?_ <;> simp -failIfUnchanged only [↓RA, RB, RS, fx75, a1_cz, p1, p2, p3, p4, reduceIte, p5, p6, p7, p8, c1]
    obtain ⟨v16, hv16, h⟩ := run_bind h
    refine CallH.mk [false] (a1_ok _ _ hv16) ?_ ?_ <;> simp -failIfUnchanged only [↓RA, RB, RS, fx75, a1_cz, p1, p2, p3, p4, reduceIte, p5, p6, p7, p8, c1]
    refine CondH.mk (fun c2 => ?_) (fun c2 => ?_)
    · replace h := run_t c2 h
      simp -failIfUnchanged only [↓RA, RB, RS, fx75, a1_cz, p1, p2, p3, p4, reduceIte, p5, p6, p7, p8, c1, c2]
      have h := run_some h
      obtain rfl : _ = r := h
      refine FinH.l ?_
      simp -failIfUnchanged only [↓RA, RB, RS, fx75, a1_cz, p1, p2, p3, p4, reduceIte, p5, p6, p7, p8, c1, c2]
    · replace h := run_f c2 h
      simp -failIfUnchanged only [↓RA, RB, RS, fx75, a1_cz, p1, p2, p3, p4, reduceIte, p5, p6, p7, p8, c1, c2]
      have h := run_some h
      refine RdH.mk ⟨_, h, ?_⟩
      refine St.le_mk2 ?_
      simp -failIfUnchanged only [↓RA, RB, RS, fx75, a1_cz, p1, p2, p3, p4, reduceIte, p5, p6, p7, p8, c1, c2, w2]
  · simp -failIfUnchanged only [↓RA, RB, RS, fx75, a1_cz, p1, p2, p3, p4, reduceIte, p5, p6, p7, p8]
    refine CondH.ff (decide_eq_false (by omega)) (fun c3 => ?_)
    simp -failIfUnchanged only [↓RA, RB, RS, fx75, a1_cz, p1, p2, p3, p4, reduceIte, p5, p6, p7, p8, c3]
    have h := run_some h
    obtain rfl : _ = r := h
    refine FinH.l ?_
    simp -failIfUnchanged only [↓RA, RB, RS, fx75, a1_cz, p1, p2, p3, p4, reduceIte, p5, p6, p7, p8, c3]

def fx52 := And.intro @ty_3 <| And.intro @zc_3 <| And.intro @z_3 <| And.intro @ty_22 <| And.intro @zc_22 <| And.intro @z_22 <| And.intro @es_22 <| And.intro @eb_22 <| And.intro @sl_22 <| And.intro @is_22 <| And.intro @el_22 <| And.intro @ze_22 <| And.intro @ez_22 <| And.intro @ty_82 <| And.intro @zc_82 <| @z_82
set_option maxHeartbeats 4000000 in
theorem slices_ContainsFunc_Sint_int_sat {a0 : List Int} {a1 : Int → Option Bool} {a1_id : FuncId} {a1_cs : List PV} (a1_ok : ∀ y0 r, a1 y0 = some r → Sat Try.prog a1_id ((I y0) :: a1_cs) (B r)) (a1_cz : CapsOk a1_cs = True) {r : Bool} (h : slices_ContainsFunc_Sint_int a0 a1 = some r) : Sat Try.prog 52 [(.sl false 1 (a0.map I)), .clo a1_id a1_cs] (B r) := by
  replace h := Run.of h
  unfold slices_ContainsFunc_Sint_int at h
  refine Sat.of_m (nt := 9) (rs := [.tmp 4]) (n := 100000) Try.func52 rfl rfl rfl rfl (by simp) ?_
  simp -failIfUnchanged only [↓RA, RB, RS, fx52, a1_cz, p1, p2, p3, p4, reduceIte, p5, p6, p7, p8]
  obtain ⟨v7, hv7, h⟩ := run_bind h
  refine CallH.mk [false, false] (slices_IndexFunc_Sint_int_sat a1_ok a1_cz hv7) ?_ ?_ <;> simp -failIfUnchanged only [↓RA, RB, RS, fx52, a1_cz, p1, p2, p3, p4, reduceIte, p5, p6, p7, p8]
  have h := run_some h
  obtain rfl : _ = r := h
  refine FinH.l ?_
  simp -failIfUnchanged only [↓RA, RB, RS, fx52, a1_cz, p1, p2, p3, p4, reduceIte, p5, p6, p7, p8]

def fx92 := And.intro @ty_3 <| And.intro @zc_3 <| @z_3
set_option maxHeartbeats 4000000 in
theorem cmp_isNaN_int_sat {a0 : Int}  {r : Bool} (h : cmp_isNaN_int a0 = some r) : Sat Try.prog 92 [(I a0)] (B r) := by
  replace h := Run.of h
  unfold cmp_isNaN_int at h
  refine Sat.of_m (nt := 6) (rs := [.tmp 2]) (n := 100000) Try.func92 rfl rfl rfl rfl (by simp) ?_
  simp -failIfUnchanged only [↓RA, RB, RS, fx92, p1, p2, p3, p4, reduceIte, p5, p6, p7, p8]
  have h := run_some h
  obtain rfl : _ = r := h
  refine FinH.l ?_
  simp -failIfUnchanged only [↓RA, RB, RS, fx92, p1, p2, p3, p4, reduceIte, p5, p6, p7, p8]

def fx89 := And.intro @ty_3 <| And.intro @zc_3 <| @z_3
set_option maxHeartbeats 4000000 in
theorem cmp_Compare_int_sat {a0 : Int} {a1 : Int}  {r : Int} (h : cmp_Compare_int a0 a1 = some r) : Sat Try.prog 89 [(I a0), (I a1)] (I r) := by
  replace h := Run.of h
  unfold cmp_Compare_int at h
  refine Sat.of_m (nt := 20) (rs := [.tmp 4]) (n := 100000) Try.func89 rfl rfl rfl rfl (by simp) ?_
  simp -failIfUnchanged only [↓RA, RB, RS, fx89, p1, p2, p3, p4, reduceIte, p5, p6, p7, p8]
  obtain ⟨v8, hv8, h⟩ := run_bind h
  refine CallH.mk [false] (cmp_isNaN_int_sat hv8) ?_ ?_ <;> simp -failIfUnchanged only [↓RA, RB, RS, fx89, p1, p2, p3, p4, reduceIte, p5, p6, p7, p8]
  obtain ⟨v10, hv10, h⟩ := run_bind h
  refine CallH.mk [false] (cmp_isNaN_int_sat hv10) ?_ ?_ <;> simp -failIfUnchanged only [↓RA, RB, RS, fx89, p1, p2, p3, p4, reduceIte, p5, p6, p7, p8]
  refine CondH.mk (fun c1 => ?_) (fun c1 => ?_)
  · replace h := run_t c1 h
    simp -failIfUnchanged only [↓RA, RB, RS, fx89, p1, p2, p3, p4, reduceIte, p5, p6, p7, p8, c1]
    refine CondH.mk (fun c2 => ?_) (fun c2 => ?_)
    · replace h := run_t c2 h
      simp -failIfUnchanged only [↓RA, RB, RS, fx89, p1, p2, p3, p4, reduceIte, p5, p6, p7, p8, c1, c2]
      have h := run_some h
      obtain rfl : _ = r := h
      refine FinH.l ?_
      simp -failIfUnchanged only [↓RA, RB, RS, fx89, p1, p2, p3, p4, reduceIte, p5, p6, p7, p8, c1, c2]
    · replace h := run_f c2 h
      simp -failIfUnchanged only [↓RA, RB, RS, fx89, p1, p2, p3, p4, reduceIte, p5, p6, p7, p8, c1, c2]
      have h := run_some h
      obtain rfl : _ = r := h
      refine FinH.l ?_
      simp -failIfUnchanged only [↓RA, RB, RS, fx89, p1, p2, p3, p4, reduceIte, p5, p6, p7, p8, c1, c2]
  · replace h := run_f c1 h
    simp -failIfUnchanged only [↓RA, RB, RS, fx89, p1, p2, p3, p4, reduceIte, p5, p6, p7, p8, c1]
    refine CondH.mk (fun c3 => ?_) (fun c3 => ?_)
    · replace h := run_t c3 h
      simp -failIfUnchanged only [↓RA, RB, RS, fx89, p1, p2, p3, p4, reduceIte, p5, p6, p7, p8, c1, c3]
      have h := run_some h
      obtain rfl : _ = r := h
      refine FinH.l ?_
      simp -failIfUnchanged only [↓RA, RB, RS, fx89, p1, p2, p3, p4, reduceIte, p5, p6, p7, p8, c1, c3]
    · replace h := run_f c3 h
      simp -failIfUnchanged only [↓RA, RB, RS, fx89, p1, p2, p3, p4, reduceIte, p5, p6, p7, p8, c1, c3]
      refine CondH.mk (fun c4 => ?_) (fun c4 => ?_)
      · replace h := run_t c4 h
        simp -failIfUnchanged only [↓RA, RB, RS, fx89, p1, p2, p3, p4, reduceIte, p5, p6, p7, p8, c1, c3, c4]
        have h := run_some h
        obtain rfl : _ = r := h
        refine FinH.l ?_
        simp -failIfUnchanged only [↓RA, RB, RS, fx89, p1, p2, p3, p4, reduceIte, p5, p6, p7, p8, c1, c3, c4]
      · replace h := run_f c4 h
        simp -failIfUnchanged only [↓RA, RB, RS, fx89, p1, p2, p3, p4, reduceIte, p5, p6, p7, p8, c1, c3, c4]
        refine CondH.mk (fun c5 => ?_) (fun c5 => ?_)
        · replace h := run_t c5 h
          simp -failIfUnchanged only [↓RA, RB, RS, fx89, p1, p2, p3, p4, reduceIte, p5, p6, p7, p8, c1, c3, c4, c5]
          have h := run_some h
          obtain rfl : _ = r := h
          refine FinH.l ?_
          simp -failIfUnchanged only [↓RA, RB, RS, fx89, p1, p2, p3, p4, reduceIte, p5, p6, p7, p8, c1, c3, c4, c5]
        · replace h := run_f c5 h
          simp -failIfUnchanged only [↓RA, RB, RS, fx89, p1, p2, p3, p4, reduceIte, p5, p6, p7, p8, c1, c3, c4, c5]
          have h := run_some h
          obtain rfl : _ = r := h
          refine FinH.l ?_
          simp -failIfUnchanged only [↓RA, RB, RS, fx89, p1, p2, p3, p4, reduceIte, p5, p6, p7, p8, c1, c3, c4, c5]

def fx88 := And.intro @ty_3 <| And.intro @zc_3 <| And.intro @z_3 <| And.intro @ty_22 <| And.intro @zc_22 <| And.intro @z_22 <| And.intro @es_22 <| And.intro @eb_22 <| And.intro @sl_22 <| And.intro @is_22 <| And.intro @el_22 <| And.intro @ze_22 <| @ez_22
set_option maxHeartbeats 4000000 in
theorem cmp_Or_int_sat {a0 : List Int}  {r : Int} (h : cmp_Or_int a0 = some r) : Sat Try.prog 88 [(.sl false 1 (a0.map I))] (I r) := by
  replace h := Run.of h
  unfold cmp_Or_int at h
  refine Sat.of_m (nt := 18) (rs := [.tmp 2]) (n := 100000) Try.func88 rfl rfl rfl rfl (by simp) ?_
  simp -failIfUnchanged only [↓RA, RB, RS, fx88, p1, p2, p3, p4, reduceIte, p5, p6, p7, p8]
  refine Mg.know_sl (b := false) (sz := 1) (es := a0.map I) 0 (by simp -failIfUnchanged only [↓RA, RB, RS, fx88, p1, p2, p3, p4, reduceIte, p5, p6, p7, p8]) fun hl0 => ?_; rw [List.length_map] at hl0
  replace h := run_loop h
  refine Mg.forN h (fun i3 s3 => [(3, .val (.pv (I (0 : Int)))), (6, .val (.pv (.sl false 1 (a0.map I)))), (7, .val (.pv (I (a0.length : Int)))), (8, .val (.pv (I (i3 : Int))))]) (fun i3 s3 => []) (St.le_mk2 (by simp -failIfUnchanged only [↓RA, RB, RS, fx88, p1, p2, p3, p4, reduceIte, p5, p6, p7, p8])) (fun i3 s3 hi h => ?_) (fun s3 h => ?_)
  · have w3 := wrap_succ (i := i3) (by omega)
    simp -failIfUnchanged only [↓RA, RB, RS, fx88, p1, p2, p3, p4, reduceIte, p5, p6, p7, p8]
    refine CondH.tt (decide_eq_true (by omega)) (fun c1 => ?_)
    simp -failIfUnchanged only [↓RA, RB, RS, fx88, p1, p2, p3, p4, reduceIte, p5, p6, p7, p8, c1]
    obtain ⟨v10, hv10, h⟩ := run_bind h
    refine IdxH.mk (f := I) hv10 ?_ ?_ <;> simp -failIfUnchanged only [↓RA, RB, RS, fx88, p1, p2, p3, p4, reduceIte, p5, p6, p7, p8, c1]
    refine CondH.mk (fun c2 => ?_) (fun c2 => ?_)
    · replace h := run_t c2 h
      simp -failIfUnchanged only [↓RA, RB, RS, fx88, p1, p2, p3, p4, reduceIte, p5, p6, p7, p8, c1, c2]
      have h := run_some h
      refine RdH.mk ⟨_, h, ?_⟩
      refine St.le_mk2 ?_
      simp -failIfUnchanged only [↓RA, RB, RS, fx88, p1, p2, p3, p4, reduceIte, p5, p6, p7, p8, c1, c2, w3]
    · replace h := run_f c2 h
      simp -failIfUnchanged only [↓RA, RB, RS, fx88, p1, p2, p3, p4, reduceIte, p5, p6, p7, p8, c1, c2]
      have h := run_some h
      obtain rfl : _ = r := h
      refine FinH.l ?_
      simp -failIfUnchanged only [↓RA, RB, RS, fx88, p1, p2, p3, p4, reduceIte, p5, p6, p7, p8, c1, c2]
  · simp -failIfUnchanged only [↓RA, RB, RS, fx88, p1, p2, p3, p4, reduceIte, p5, p6, p7, p8]
    refine CondH.ff (decide_eq_false (by omega)) (fun c3 => ?_)
    simp -failIfUnchanged only [↓RA, RB, RS, fx88, p1, p2, p3, p4, reduceIte, p5, p6, p7, p8, c3]
    have h := run_some h
    obtain rfl : _ = r := h
    refine FinH.l ?_
    simp -failIfUnchanged only [↓RA, RB, RS, fx88, p1, p2, p3, p4, reduceIte, p5, p6, p7, p8, c3]

def fx77 := And.intro @ty_3 <| And.intro @zc_3 <| And.intro @z_3 <| And.intro @ty_22 <| And.intro @zc_22 <| And.intro @z_22 <| And.intro @es_22 <| And.intro @eb_22 <| And.intro @sl_22 <| And.intro @is_22 <| And.intro @el_22 <| And.intro @ze_22 <| And.intro @ez_22 <| And.intro @ty_55 <| And.intro @zc_55 <| And.intro @z_55 <| And.intro @fo_55_0 <| And.intro @fi_55_0 <| And.intro @ft_55_0 <| And.intro @fo_55_1 <| And.intro @fi_55_1 <| And.intro @ft_55_1 <| And.intro @fo_55_2 <| And.intro @fi_55_2 <| And.intro @ft_55_2 <| And.intro @lay_55 <| @mixedT
set_option maxHeartbeats 4000000 in
theorem impl_compareEdges_sat {a0 : SizeEdge} {a1 : SizeEdge}  {r : Int} (h : impl_compareEdges a0 a1 = some r) : Sat Try.prog 77 [((SizeEdge.pv false) a0), ((SizeEdge.pv false) a1)] (I r) := by
  replace h := Run.of h
  unfold impl_compareEdges at h
  refine Sat.of_m (nt := 17) (rs := [.tmp 4]) (n := 100000) Try.func77 rfl rfl rfl rfl (by simp) ?_
  simp -failIfUnchanged only [↓RA, RB, RS, fx77, p1, p2, p3, p4, reduceIte, p5, p6, p7, p8]
  repeat (first | with_reducible refine noR_and (by repeat (first | exact noR_empty _ _ | exact noR_nilS _ _ | refine noR_mk _ _ _ _ _ rfl ?_ | refine noR_mkS _ _ _ _ _ rfl ?_)) ?_ | with_reducible refine noC_and (by repeat (first | exact noC_empty _ _ (by simp -failIfUnchanged only [↓RA, RB, RS, fx77, p1, p2, p3, p4, reduceIte, p5, p6, p7, p8]) | exact noC_nilS _ _ (by simp -failIfUnchanged only [↓RA, RB, RS, fx77, p1, p2, p3, p4, reduceIte, p5, p6, p7, p8]) | refine noC_mk _ _ _ _ _ rfl ?_ | refine noC_mkS _ _ _ _ _ rfl ?_)) ?_ | with_reducible refine and_ac ?_ | with_reducible refine And.intro (a := _ = List.range _) (by rfl) ?_)
  obtain ⟨v9, hv9, h⟩ := run_bind h
  refine CallH.mk [false, false] (cmp_Compare_int_sat hv9) ?_ ?_ <;> simp -failIfUnchanged only [↓RA, RB, RS, fx77, p1, p2, p3, p4, reduceIte, p5, p6, p7, p8]
  obtain ⟨v14, hv14, h⟩ := run_bind h
  refine CallH.mk [false, false] (cmp_Compare_int_sat hv14) ?_ ?_ <;> simp -failIfUnchanged only [↓RA, RB, RS, fx77, p1, p2, p3, p4, reduceIte, p5, p6, p7, p8]
  repeat (first | with_reducible refine noR_and (by repeat (first | exact noR_empty _ _ | exact noR_nilS _ _ | refine noR_mk _ _ _ _ _ rfl ?_ | refine noR_mkS _ _ _ _ _ rfl ?_)) ?_ | with_reducible refine noC_and (by repeat (first | exact noC_empty _ _ (by simp -failIfUnchanged only [↓RA, RB, RS, fx77, p1, p2, p3, p4, reduceIte, p5, p6, p7, p8]) | exact noC_nilS _ _ (by simp -failIfUnchanged only [↓RA, RB, RS, fx77, p1, p2, p3, p4, reduceIte, p5, p6, p7, p8]) | refine noC_mk _ _ _ _ _ rfl ?_ | refine noC_mkS _ _ _ _ _ rfl ?_)) ?_ | with_reducible refine and_ac ?_ | with_reducible refine And.intro (a := _ = List.range _) (by rfl) ?_)
  obtain ⟨v16, hv16, h⟩ := run_bind h
  refine CallH.mk [false] (cmp_Or_int_sat hv16) ?_ ?_ <;> simp -failIfUnchanged only [↓RA, RB, RS, fx77, p1, p2, p3, p4, reduceIte, p5, p6, p7, p8]
  refine And.intro (DrawH.mk [] [240] (by rfl) (by first | rfl | (simp -failIfUnchanged only [↓RA, RB, RS, fx77, p1, p2, p3, p4, reduceIte, p5, p6, p7, p8] <;> rfl)) (by first | rfl | (simp -failIfUnchanged only [↓RA, RB, RS, fx77, p1, p2, p3, p4, reduceIte, p5, p6, p7, p8] <;> rfl)) (by first | rfl | (simp -failIfUnchanged only [↓RA, RB, RS, fx77, p1, p2, p3, p4, reduceIte, p5, p6, p7, p8] <;> rfl)) (by simp) (by simp -failIfUnchanged only [↓RA, RB, RS, fx77, p1, p2, p3, p4, reduceIte, p5, p6, p7, p8]; repeat (first | exact noC_empty _ _ (by simp -failIfUnchanged only [↓RA, RB, RS, fx77, p1, p2, p3, p4, reduceIte, p5, p6, p7, p8]) | exact noC_nilS _ _ (by simp -failIfUnchanged only [↓RA, RB, RS, fx77, p1, p2, p3, p4, reduceIte, p5, p6, p7, p8]) | refine noC_mk _ _ _ _ _ rfl ?_ | refine noC_mkS _ _ _ _ _ rfl ?_ | refine And.intro ?_ ?_))) ?_
  simp -failIfUnchanged only [↓RA, RB, RS, fx77, p1, p2, p3, p4, reduceIte, p5, p6, p7, p8]
  have h := run_some h
  obtain rfl : _ = r := h
  refine FinH.l ?_
  simp -failIfUnchanged only [↓RA, RB, RS, fx77, p1, p2, p3, p4, reduceIte, p5, p6, p7, p8]

def fx56 := And.intro @ty_3 <| And.intro @zc_3 <| And.intro @z_3 <| And.intro @ty_4 <| And.intro @zc_4 <| And.intro @z_4 <| And.intro @u_4 <| And.intro @ty_51 <| And.intro @zc_51 <| And.intro @z_51 <| And.intro @es_51 <| And.intro @eb_51 <| And.intro @sl_51 <| And.intro @is_51 <| And.intro @el_51 <| And.intro @ze_51 <| And.intro @ez_51 <| And.intro @ty_53 <| And.intro @zc_53 <| And.intro @z_53 <| And.intro @fo_53_0 <| And.intro @fi_53_0 <| And.intro @ft_53_0 <| And.intro @fo_53_1 <| And.intro @fi_53_1 <| And.intro @ft_53_1 <| And.intro @fo_53_2 <| And.intro @fi_53_2 <| And.intro @ft_53_2 <| And.intro @lay_53 <| And.intro @ty_55 <| And.intro @zc_55 <| And.intro @z_55 <| And.intro @fo_55_0 <| And.intro @fi_55_0 <| And.intro @ft_55_0 <| And.intro @fo_55_1 <| And.intro @fi_55_1 <| And.intro @ft_55_1 <| And.intro @fo_55_2 <| And.intro @fi_55_2 <| And.intro @ft_55_2 <| And.intro @lay_55 <| @mixedT
set_option maxHeartbeats 4000000 in
theorem impl_IsValidGraph_sat {a0 : SizeGraph}  {r : Bool} (h : impl_IsValidGraph a0 = some r) : Sat Try.prog 56 [((SizeGraph.pv false) a0)] (B r) := by
  replace h := Run.of h
  unfold impl_IsValidGraph at h
  refine Sat.of_m (nt := 47) (rs := [.tmp 2]) (n := 100000) Try.func56 rfl rfl rfl rfl (by simp) ?_
  simp -failIfUnchanged only [↓RA, RB, RS, fx56, p1, p2, p3, p4, reduceIte, p5, p6, p7, p8]
  repeat (first | with_reducible refine noR_and (by repeat (first | exact noR_empty _ _ | exact noR_nilS _ _ | refine noR_mk _ _ _ _ _ rfl ?_ | refine noR_mkS _ _ _ _ _ rfl ?_)) ?_ | with_reducible refine noC_and (by repeat (first | exact noC_empty _ _ (by simp -failIfUnchanged only [↓RA, RB, RS, fx56, p1, p2, p3, p4, reduceIte, p5, p6, p7, p8]) | exact noC_nilS _ _ (by simp -failIfUnchanged only [↓RA, RB, RS, fx56, p1, p2, p3, p4, reduceIte, p5, p6, p7, p8]) | refine noC_mk _ _ _ _ _ rfl ?_ | refine noC_mkS _ _ _ _ _ rfl ?_)) ?_ | with_reducible refine and_ac ?_ | with_reducible refine And.intro (a := _ = List.range _) (by rfl) ?_)
  refine Mg.know_sl (b := false) (sz := 3) (es := a0.Edges.map (SizeEdge.pv false)) 6 (by simp -failIfUnchanged only [↓RA, RB, RS, fx56, p1, p2, p3, p4, reduceIte, p5, p6, p7, p8]) fun hl6 => ?_; rw [List.length_map] at hl6
  replace h := run_loop h
  refine Mg.forN h (fun i2 s2 => [(1, .box (.pv ((SizeGraph.pv false) a0))), (6, .val (.pv (.sl false 3 (a0.Edges.map (SizeEdge.pv false))))), (7, .val (.pv (I (a0.Edges.length : Int)))), (8, .val (.pv (I (i2 : Int))))]) (fun i2 s2 => []) (St.le_mk2 (by simp -failIfUnchanged only [↓RA, RB, RS, fx56, p1, p2, p3, p4, reduceIte, p5, p6, p7, p8])) (fun i2 s2 hi h => ?_) (fun s2 h => ?_)
  · have w2 := wrap_succ (i := i2) (by omega)
    simp -failIfUnchanged only [↓RA, RB, RS, fx56, p1, p2, p3, p4, reduceIte, p5, p6, p7, p8]
    refine CondH.tt (decide_eq_true (by omega)) (fun c1 => ?_)
    simp -failIfUnchanged only [↓RA, RB, RS, fx56, p1, p2, p3, p4, reduceIte, p5, p6, p7, p8, c1]
    obtain ⟨v11, hv11, h⟩ := run_bind h
    refine IdxH.mk (f := (SizeEdge.pv false)) hv11 ?_ ?_ <;> simp -failIfUnchanged only [↓RA, RB, RS, fx56, p1, p2, p3, p4, reduceIte, p5, p6, p7, p8, c1]
    repeat (first | with_reducible refine noR_and (by repeat (first | exact noR_empty _ _ | exact noR_nilS _ _ | refine noR_mk _ _ _ _ _ rfl ?_ | refine noR_mkS _ _ _ _ _ rfl ?_)) ?_ | with_reducible refine noC_and (by repeat (first | exact noC_empty _ _ (by simp -failIfUnchanged only [↓RA, RB, RS, fx56, p1, p2, p3, p4, reduceIte, p5, p6, p7, p8]) | exact noC_nilS _ _ (by simp -failIfUnchanged only [↓RA, RB, RS, fx56, p1, p2, p3, p4, reduceIte, p5, p6, p7, p8]) | refine noC_mk _ _ _ _ _ rfl ?_ | refine noC_mkS _ _ _ _ _ rfl ?_)) ?_ | with_reducible refine and_ac ?_ | with_reducible refine And.intro (a := _ = List.range _) (by rfl) ?_)
    obtain ⟨v15, hv15, h⟩ := run_bind h
    refine CallH.mk [false, false, false] (impl_within_sat hv15) ?_ ?_ <;> simp -failIfUnchanged only [↓RA, RB, RS, fx56, p1, p2, p3, p4, reduceIte, p5, p6, p7, p8, c1]
    refine CondH.mk (fun c2 => ?_) (fun c2 => ?_)
    · replace h := run_t c2 h
      simp -failIfUnchanged only [↓RA, RB, RS, fx56, p1, p2, p3, p4, reduceIte, p5, p6, p7, p8, c1, c2]
      obtain ⟨v20, hv20, h⟩ := run_bind h
      refine CallH.mk [false, false, false] (impl_within_sat hv20) ?_ ?_ <;> simp -failIfUnchanged only [↓RA, RB, RS, fx56, p1, p2, p3, p4, reduceIte, p5, p6, p7, p8, c1, c2]
      refine CondH.mk (fun c3 => ?_) (fun c3 => ?_)
      · replace h := run_t c3 h
        simp -failIfUnchanged only [↓RA, RB, RS, fx56, p1, p2, p3, p4, reduceIte, p5, p6, p7, p8, c1, c2, c3]
        refine CondH.mk (fun c4 => ?_) (fun c4 => ?_)
        · replace h := run_t c4 h
          simp -failIfUnchanged only [↓RA, RB, RS, fx56, p1, p2, p3, p4, reduceIte, p5, p6, p7, p8, c1, c2, c3, c4]
          obtain ⟨v31, hv31, h⟩ := run_bind h
          refine IdxH.mk (f := (SizeEdge.pv false)) hv31 ?_ ?_ <;> simp -failIfUnchanged only [↓RA, RB, RS, fx56, p1, p2, p3, p4, reduceIte, p5, p6, p7, p8, c1, c2, c3, c4]
          obtain ⟨v34, hv34, h⟩ := run_bind h
          refine CallH.mk [false, false] (impl_compareEdges_sat hv34) ?_ ?_ <;> simp -failIfUnchanged only [↓RA, RB, RS, fx56, p1, p2, p3, p4, reduceIte, p5, p6, p7, p8, c1, c2, c3, c4]
          refine And.intro (DrawH.none (by rfl) (by first | rfl | (simp -failIfUnchanged only [↓RA, RB, RS, fx56, p1, p2, p3, p4, reduceIte, p5, p6, p7, p8] <;> rfl)) (by first | rfl | (simp -failIfUnchanged only [↓RA, RB, RS, fx56, p1, p2, p3, p4, reduceIte, p5, p6, p7, p8] <;> rfl)) (by first | rfl | (simp -failIfUnchanged only [↓RA, RB, RS, fx56, p1, p2, p3, p4, reduceIte, p5, p6, p7, p8] <;> rfl))) ?_
          simp -failIfUnchanged only [↓RA, RB, RS, fx56, p1, p2, p3, p4, reduceIte, p5, p6, p7, p8, c1, c2, c3, c4]
          refine CondH.mk (fun c5 => ?_) (fun c5 => ?_)
          · replace h := run_t c5 h
            simp -failIfUnchanged only [↓RA, RB, RS, fx56, p1, p2, p3, p4, reduceIte, p5, p6, p7, p8, c1, c2, c3, c4, c5]
            have h := run_some h
            obtain rfl : _ = r := h
            refine FinH.l ?_
            simp -failIfUnchanged only [↓RA, RB, RS, fx56, p1, p2, p3, p4, reduceIte, p5, p6, p7, p8, c1, c2, c3, c4, c5]
          · replace h := run_f c5 h
            simp -failIfUnchanged only [↓RA, RB, RS, fx56, p1, p2, p3, p4, reduceIte, p5, p6, p7, p8, c1, c2, c3, c4, c5]
            have h := run_some h
            refine RdH.mk ⟨_, h, ?_⟩
            refine St.le_mk2 ?_
            simp -failIfUnchanged only [↓RA, RB, RS, fx56, p1, p2, p3, p4, reduceIte, p5, p6, p7, p8, c1, c2, c3, c4, c5, w2]
        · replace h := run_f c4 h
          simp -failIfUnchanged only [↓RA, RB, RS, fx56, p1, p2, p3, p4, reduceIte, p5, p6, p7, p8, c1, c2, c3, c4]
          refine And.intro (DrawH.none (by rfl) (by first | rfl | (simp -failIfUnchanged only [↓RA, RB, RS, fx56, p1, p2, p3, p4, reduceIte, p5, p6, p7, p8] <;> rfl)) (by first | rfl | (simp -failIfUnchanged only [↓RA, RB, RS, fx56, p1, p2, p3, p4, reduceIte, p5, p6, p7, p8] <;> rfl)) (by first | rfl | (simp -failIfUnchanged only [↓RA, RB, RS, fx56, p1, p2, p3, p4, reduceIte, p5, p6, p7, p8] <;> rfl))) ?_
          simp -failIfUnchanged only [↓RA, RB, RS, fx56, p1, p2, p3, p4, reduceIte, p5, p6, p7, p8, c1, c2, c3, c4]
          have h := run_some h
          refine RdH.mk ⟨_, h, ?_⟩
          refine St.le_mk2 ?_
          simp -failIfUnchanged only [↓RA, RB, RS, fx56, p1, p2, p3, p4, reduceIte, p5, p6, p7, p8, c1, c2, c3, c4, w2]
      · replace h := run_f c3 h
        simp -failIfUnchanged only [↓RA, RB, RS, fx56, p1, p2, p3, p4, reduceIte, p5, p6, p7, p8, c1, c2, c3]
        refine And.intro (DrawH.none (by rfl) (by first | rfl | (simp -failIfUnchanged only [↓RA, RB, RS, fx56, p1, p2, p3, p4, reduceIte, p5, p6, p7, p8] <;> rfl)) (by first | rfl | (simp -failIfUnchanged only [↓RA, RB, RS, fx56, p1, p2, p3, p4, reduceIte, p5, p6, p7, p8] <;> rfl)) (by first | rfl | (simp -failIfUnchanged only [↓RA, RB, RS, fx56, p1, p2, p3, p4, reduceIte, p5, p6, p7, p8] <;> rfl))) ?_
        simp -failIfUnchanged only [↓RA, RB, RS, fx56, p1, p2, p3, p4, reduceIte, p5, p6, p7, p8, c1, c2, c3]
        have h := run_some h
        obtain rfl : _ = r := h
        refine FinH.l ?_
        simp -failIfUnchanged only [↓RA, RB, RS, fx56, p1, p2, p3, p4, reduceIte, p5, p6, p7, p8, c1, c2, c3]
    · replace h := run_f c2 h
      simp -failIfUnchanged only [↓RA, RB, RS, fx56, p1, p2, p3, p4, reduceIte, p5, p6, p7, p8, c1, c2]
      refine And.intro (DrawH.none (by rfl) (by first | rfl | (simp -failIfUnchanged only [↓RA, RB, RS, fx56, p1, p2, p3, p4, reduceIte, p5, p6, p7, p8] <;> rfl)) (by first | rfl | (simp -failIfUnchanged only [↓RA, RB, RS, fx56, p1, p2, p3, p4, reduceIte, p5, p6, p7, p8] <;> rfl)) (by first | rfl | (simp -failIfUnchanged only [↓RA, RB, RS, fx56, p1, p2, p3, p4, reduceIte, p5, p6, p7, p8] <;> rfl))) ?_
      simp -failIfUnchanged only [↓RA, RB, RS, fx56, p1, p2, p3, p4, reduceIte, p5, p6, p7, p8, c1, c2]
      have h := run_some h
      obtain rfl : _ = r := h
      refine FinH.l ?_
      simp -failIfUnchanged only [↓RA, RB, RS, fx56, p1, p2, p3, p4, reduceIte, p5, p6, p7, p8, c1, c2]
  · simp -failIfUnchanged only [↓RA, RB, RS, fx56, p1, p2, p3, p4, reduceIte, p5, p6, p7, p8]
    refine CondH.ff (decide_eq_false (by omega)) (fun c6 => ?_)
    simp -failIfUnchanged only [↓RA, RB, RS, fx56, p1, p2, p3, p4, reduceIte, p5, p6, p7, p8, c6]
    obtain ⟨v41, hv41, h⟩ := run_bind h
    refine CallH.mk [false, false, false] (impl_within_sat hv41) ?_ ?_ <;> simp -failIfUnchanged only [↓RA, RB, RS, fx56, p1, p2, p3, p4, reduceIte, p5, p6, p7, p8, c6]
    refine CondH.mk (fun c7 => ?_) (fun c7 => ?_)
    · replace h := run_t c7 h
      simp -failIfUnchanged only [↓RA, RB, RS, fx56, p1, p2, p3, p4, reduceIte, p5, p6, p7, p8, c6, c7]
      obtain ⟨v45, hv45, h⟩ := run_bind h
      refine CallH.mk [false, false, false] (impl_within_sat hv45) ?_ ?_ <;> simp -failIfUnchanged only [↓RA, RB, RS, fx56, p1, p2, p3, p4, reduceIte, p5, p6, p7, p8, c6, c7]
      have h := run_some h
      obtain rfl : _ = r := h
      refine FinH.l ?_
      simp -failIfUnchanged only [↓RA, RB, RS, fx56, p1, p2, p3, p4, reduceIte, p5, p6, p7, p8, c6, c7]
    · replace h := run_f c7 h
      simp -failIfUnchanged only [↓RA, RB, RS, fx56, p1, p2, p3, p4, reduceIte, p5, p6, p7, p8, c6, c7]
      have h := run_some h
      obtain rfl : _ = r := h
      refine FinH.l ?_
      simp -failIfUnchanged only [↓RA, RB, RS, fx56, p1, p2, p3, p4, reduceIte, p5, p6, p7, p8, c6, c7]

def fx57 := And.intro @ty_3 <| And.intro @zc_3 <| And.intro @z_3 <| And.intro @ty_22 <| And.intro @zc_22 <| And.intro @z_22 <| And.intro @es_22 <| And.intro @eb_22 <| And.intro @sl_22 <| And.intro @is_22 <| And.intro @el_22 <| And.intro @ze_22 <| And.intro @ez_22 <| And.intro @ty_31 <| And.intro @zc_31 <| And.intro @z_31 <| And.intro @fo_31_0 <| And.intro @fi_31_0 <| And.intro @ft_31_0 <| And.intro @fo_31_1 <| And.intro @fi_31_1 <| And.intro @ft_31_1 <| And.intro @lay_31 <| And.intro @ty_53 <| And.intro @zc_53 <| And.intro @z_53 <| And.intro @fo_53_0 <| And.intro @fi_53_0 <| And.intro @ft_53_0 <| And.intro @fo_53_1 <| And.intro @fi_53_1 <| And.intro @ft_53_1 <| And.intro @fo_53_2 <| And.intro @fi_53_2 <| And.intro @ft_53_2 <| And.intro @lay_53 <| And.intro @ty_55 <| And.intro @zc_55 <| And.intro @z_55 <| And.intro @fo_55_0 <| And.intro @fi_55_0 <| And.intro @ft_55_0 <| And.intro @fo_55_1 <| And.intro @fi_55_1 <| And.intro @ft_55_1 <| And.intro @fo_55_2 <| And.intro @fi_55_2 <| And.intro @ft_55_2 <| And.intro @lay_55 <| @mixedT
set_option maxHeartbeats 4000000 in
theorem impl_IsValidCyclic_2_1_sat {a0 : SizeEdge} {b0 : CyclicProof} {b1 : SizeGraph}  {r : Bool} (h : impl_IsValidCyclic_2_1 a0 b0 b1 = some r) : Sat Try.prog 57 [((SizeEdge.pv false) a0), .ptr ((CyclicProof.pv false) b0), .ptr ((SizeGraph.pv false) b1)] (B r) := by
  replace h := Run.of h
  unfold impl_IsValidCyclic_2_1 at h
  refine Sat.of_m (nt := 25) (rs := [.tmp 4]) (n := 100000) Try.func57 rfl rfl rfl rfl (by simp) ?_
  simp -failIfUnchanged only [↓RA, RB, RS, fx57, p1, p2, p3, p4, reduceIte, p5, p6, p7, p8]
  repeat (first | with_reducible refine noR_and (by repeat (first | exact noR_empty _ _ | exact noR_nilS _ _ | refine noR_mk _ _ _ _ _ rfl ?_ | refine noR_mkS _ _ _ _ _ rfl ?_)) ?_ | with_reducible refine noC_and (by repeat (first | exact noC_empty _ _ (by simp -failIfUnchanged only [↓RA, RB, RS, fx57, p1, p2, p3, p4, reduceIte, p5, p6, p7, p8]) | exact noC_nilS _ _ (by simp -failIfUnchanged only [↓RA, RB, RS, fx57, p1, p2, p3, p4, reduceIte, p5, p6, p7, p8]) | refine noC_mk _ _ _ _ _ rfl ?_ | refine noC_mkS _ _ _ _ _ rfl ?_)) ?_ | with_reducible refine and_ac ?_ | with_reducible refine And.intro (a := _ = List.range _) (by rfl) ?_)
  obtain ⟨v11, hv11, h⟩ := run_bind h
  refine IdxH.mk (f := I) hv11 ?_ ?_ <;> simp -failIfUnchanged only [↓RA, RB, RS, fx57, p1, p2, p3, p4, reduceIte, p5, p6, p7, p8]
  refine CondH.mk (fun c1 => ?_) (fun c1 => ?_)
  · replace h := run_t c1 h
    simp -failIfUnchanged only [↓RA, RB, RS, fx57, p1, p2, p3, p4, reduceIte, p5, p6, p7, p8, c1]
    refine And.intro (DrawH.none (by rfl) (by first | rfl | (simp -failIfUnchanged only [↓RA, RB, RS, fx57, p1, p2, p3, p4, reduceIte, p5, p6, p7, p8] <;> rfl)) (by first | rfl | (simp -failIfUnchanged only [↓RA, RB, RS, fx57, p1, p2, p3, p4, reduceIte, p5, p6, p7, p8] <;> rfl)) (by first | rfl | (simp -failIfUnchanged only [↓RA, RB, RS, fx57, p1, p2, p3, p4, reduceIte, p5, p6, p7, p8] <;> rfl))) ?_
    simp -failIfUnchanged only [↓RA, RB, RS, fx57, p1, p2, p3, p4, reduceIte, p5, p6, p7, p8, c1]
    have h := run_some h
    obtain rfl : _ = r := h
    refine FinH.l ?_
    simp -failIfUnchanged only [↓RA, RB, RS, fx57, p1, p2, p3, p4, reduceIte, p5, p6, p7, p8, c1]
  · replace h := run_f c1 h
    simp -failIfUnchanged only [↓RA, RB, RS, fx57, p1, p2, p3, p4, reduceIte, p5, p6, p7, p8, c1]
    obtain ⟨v21, hv21, h⟩ := run_bind h
    refine IdxH.mk (f := I) hv21 ?_ ?_ <;> simp -failIfUnchanged only [↓RA, RB, RS, fx57, p1, p2, p3, p4, reduceIte, p5, p6, p7, p8, c1]
    refine And.intro (DrawH.none (by rfl) (by first | rfl | (simp -failIfUnchanged only [↓RA, RB, RS, fx57, p1, p2, p3, p4, reduceIte, p5, p6, p7, p8] <;> rfl)) (by first | rfl | (simp -failIfUnchanged only [↓RA, RB, RS, fx57, p1, p2, p3, p4, reduceIte, p5, p6, p7, p8] <;> rfl)) (by first | rfl | (simp -failIfUnchanged only [↓RA, RB, RS, fx57, p1, p2, p3, p4, reduceIte, p5, p6, p7, p8] <;> rfl))) ?_
    simp -failIfUnchanged only [↓RA, RB, RS, fx57, p1, p2, p3, p4, reduceIte, p5, p6, p7, p8, c1]
    have h := run_some h
    obtain rfl : _ = r := h
    refine FinH.l ?_
    simp -failIfUnchanged only [↓RA, RB, RS, fx57, p1, p2, p3, p4, reduceIte, p5, p6, p7, p8, c1]

def fx71 := And.intro @ty_3 <| And.intro @zc_3 <| And.intro @z_3 <| And.intro @ty_51 <| And.intro @zc_51 <| And.intro @z_51 <| And.intro @es_51 <| And.intro @eb_51 <| And.intro @sl_51 <| And.intro @is_51 <| And.intro @el_51 <| And.intro @ze_51 <| And.intro @ez_51 <| And.intro @ty_55 <| And.intro @zc_55 <| And.intro @z_55 <| And.intro @fo_55_0 <| And.intro @fi_55_0 <| And.intro @ft_55_0 <| And.intro @fo_55_1 <| And.intro @fi_55_1 <| And.intro @ft_55_1 <| And.intro @fo_55_2 <| And.intro @fi_55_2 <| And.intro @ft_55_2 <| @lay_55
set_option maxHeartbeats 4000000 in
theorem slices_IndexFunc_Simpl_SizeEdge_impl_SizeEdge_sat {a0 : List SizeEdge} {a1 : SizeEdge → Option Bool} {a1_id : FuncId} {a1_cs : List PV} (a1_ok : ∀ y0 r, a1 y0 = some r → Sat Try.prog a1_id (((SizeEdge.pv false) y0) :: a1_cs) (B r)) (a1_cz : CapsOk a1_cs = True) {r : Int} (h : slices_IndexFunc_Simpl_SizeEdge_impl_SizeEdge a0 a1 = some r) : Sat Try.prog 71 [(.sl false 3 (a0.map (SizeEdge.pv false))), .clo a1_id a1_cs] (I r) := by
  replace h := Run.of h
  unfold slices_IndexFunc_Simpl_SizeEdge_impl_SizeEdge at h
  refine Sat.of_m (nt := 19) (rs := [.tmp 4]) (n := 100000) Try.func71 rfl rfl rfl rfl (by simp) ?_
  simp -failIfUnchanged only [↓RA, RB, RS, fx71, a1_cz, p1, p2, p3, p4, reduceIte, p5, p6, p7, p8]
  refine Mg.know_sl (b := false) (sz := 3) (es := a0.map (SizeEdge.pv false)) 0 (by simp -failIfUnchanged only [↓RA, RB, RS, fx71, a1_cz, p1, p2, p3, p4, reduceIte, p5, p6, p7, p8]) fun hl0 => ?_; rw [List.length_map] at hl0
  replace h := run_loop h
  refine Mg.forN h (fun i2 s2 => [(0, .val (.pv (.sl false 3 (a0.map (SizeEdge.pv false))))), (1, .val (.pv (.clo a1_id a1_cs))), (7, .val (.pv (I (a0.length : Int)))), (8, .val (.pv (I (i2 : Int))))]) (fun i2 s2 => []) (St.le_mk2 (by simp -failIfUnchanged only [↓RA, RB, RS, fx71, a1_cz, p1, p2, p3, p4, reduceIte, p5, p6, p7, p8])) (fun i2 s2 hi h => ?_) (fun s2 h => ?_)
  · have w2 := wrap_succ (i := i2) (by omega)
    simp -failIfUnchanged only [↓RA, RB, RS, fx71, a1_cz, p1, p2, p3, p4, reduceIte, p5, p6, p7, p8]
    refine CondH.tt (decide_eq_true (by omega)) (fun c1 => ?_)
    simp -failIfUnchanged only [↓RA, RB, RS, fx71, a1_cz, p1, p2, p3, p4, reduceIte, p5, p6, p7, p8, c1]
    obtain ⟨v14, hv14, h⟩ := run_bind h
    refine IdxH.mk (f := (SizeEdge.pv false)) hv14 ?_ ?_ <;> simp -failIfUnchanged only [↓RA, RB, RS, fx71, a1_cz, p1, p2, p3, p4, reduceIte, p5, p6, p7, p8, c1]
    obtain ⟨v16, hv16, h⟩ := run_bind h
    refine CallH.mk [false] (a1_ok _ _ hv16) ?_ ?_ <;> simp -failIfUnchanged only [↓RA, RB, RS, fx71, a1_cz, p1, p2, p3, p4, reduceIte, p5, p6, p7, p8, c1]
    refine CondH.mk (fun c2 => ?_) (fun c2 => ?_)
    · replace h := run_t c2 h
      simp -failIfUnchanged only [↓RA, RB, RS, fx71, a1_cz, p1, p2, p3, p4, reduceIte, p5, p6, p7, p8, c1, c2]
      have h := run_some h
      obtain rfl : _ = r := h
      refine FinH.l ?_
      simp -failIfUnchanged only [↓RA, RB, RS, fx71, a1_cz, p1, p2, p3, p4, reduceIte, p5, p6, p7, p8, c1, c2]
    · replace h := run_f c2 h
      simp -failIfUnchanged only [↓RA, RB, RS, fx71, a1_cz, p1, p2, p3, p4, reduceIte, p5, p6, p7, p8, c1, c2]
      have h := run_some h
      refine RdH.mk ⟨_, h, ?_⟩
      refine St.le_mk2 ?_
      simp -failIfUnchanged only [↓RA, RB, RS, fx71, a1_cz, p1, p2, p3, p4, reduceIte, p5, p6, p7, p8, c1, c2, w2]
  · simp -failIfUnchanged only [↓RA, RB, RS, fx71, a1_cz, p1, p2, p3, p4, reduceIte, p5, p6, p7, p8]
    refine CondH.ff (decide_eq_false (by omega)) (fun c3 => ?_)
    simp -failIfUnchanged only [↓RA, RB, RS, fx71, a1_cz, p1, p2, p3, p4, reduceIte, p5, p6, p7, p8, c3]
    have h := run_some h
    obtain rfl : _ = r := h
    refine FinH.l ?_
    simp -failIfUnchanged only [↓RA, RB, RS, fx71, a1_cz, p1, p2, p3, p4, reduceIte, p5, p6, p7, p8, c3]

def fx42 := And.intro @ty_3 <| And.intro @zc_3 <| And.intro @z_3 <| And.intro @ty_51 <| And.intro @zc_51 <| And.intro @z_51 <| And.intro @es_51 <| And.intro @eb_51 <| And.intro @sl_51 <| And.intro @is_51 <| And.intro @el_51 <| And.intro @ze_51 <| And.intro @ez_51 <| And.intro @ty_72 <| And.intro @zc_72 <| @z_72
set_option maxHeartbeats 4000000 in
theorem slices_ContainsFunc_Simpl_SizeEdge_impl_SizeEdge_sat {a0 : List SizeEdge} {a1 : SizeEdge → Option Bool} {a1_id : FuncId} {a1_cs : List PV} (a1_ok : ∀ y0 r, a1 y0 = some r → Sat Try.prog a1_id (((SizeEdge.pv false) y0) :: a1_cs) (B r)) (a1_cz : CapsOk a1_cs = True) {r : Bool} (h : slices_ContainsFunc_Simpl_SizeEdge_impl_SizeEdge a0 a1 = some r) : Sat Try.prog 42 [(.sl false 3 (a0.map (SizeEdge.pv false))), .clo a1_id a1_cs] (B r) := by
  replace h := Run.of h
  unfold slices_ContainsFunc_Simpl_SizeEdge_impl_SizeEdge at h
  refine Sat.of_m (nt := 9) (rs := [.tmp 4]) (n := 100000) Try.func42 rfl rfl rfl rfl (by simp) ?_
  simp -failIfUnchanged only [↓RA, RB, RS, fx42, a1_cz, p1, p2, p3, p4, reduceIte, p5, p6, p7, p8]
  obtain ⟨v7, hv7, h⟩ := run_bind h
  refine CallH.mk [false, false] (slices_IndexFunc_Simpl_SizeEdge_impl_SizeEdge_sat a1_ok a1_cz hv7) ?_ ?_ <;> simp -failIfUnchanged only [↓RA, RB, RS, fx42, a1_cz, p1, p2, p3, p4, reduceIte, p5, p6, p7, p8]
  have h := run_some h
  obtain rfl : _ = r := h
  refine FinH.l ?_
  simp -failIfUnchanged only [↓RA, RB, RS, fx42, a1_cz, p1, p2, p3, p4, reduceIte, p5, p6, p7, p8]

def fx55 := And.intro @ty_3 <| And.intro @zc_3 <| And.intro @z_3 <| And.intro @ty_4 <| And.intro @zc_4 <| And.intro @z_4 <| And.intro @u_4 <| And.intro @ty_51 <| And.intro @zc_51 <| And.intro @z_51 <| And.intro @es_51 <| And.intro @eb_51 <| And.intro @sl_51 <| And.intro @is_51 <| And.intro @el_51 <| And.intro @ze_51 <| And.intro @ez_51 <| And.intro @ty_53 <| And.intro @zc_53 <| And.intro @z_53 <| And.intro @fo_53_0 <| And.intro @fi_53_0 <| And.intro @ft_53_0 <| And.intro @fo_53_1 <| And.intro @fi_53_1 <| And.intro @ft_53_1 <| And.intro @fo_53_2 <| And.intro @fi_53_2 <| And.intro @ft_53_2 <| And.intro @lay_53 <| And.intro @ty_72 <| And.intro @zc_72 <| @z_72
set_option maxHeartbeats 4000000 in
theorem impl_IsValidCyclic_2_sat {a0 : SizeGraph} {b0 : Int} {b1 : CyclicProof}  {r : Bool} (h : impl_IsValidCyclic_2 a0 b0 b1 = some r) : Sat Try.prog 55 [((SizeGraph.pv false) a0), .ptr (I b0), .ptr ((CyclicProof.pv false) b1)] (B r) := by
  replace h := Run.of h
  unfold impl_IsValidCyclic_2 at h
  refine Sat.of_m (nt := 26) (rs := [.tmp 4]) (n := 100000) Try.func55 rfl rfl rfl rfl (by simp) ?_
  simp -failIfUnchanged only [↓RA, RB, RS, fx55, p1, p2, p3, p4, reduceIte, p5, p6, p7, p8]
  repeat (first | with_reducible refine noR_and (by repeat (first | exact noR_empty _ _ | exact noR_nilS _ _ | refine noR_mk _ _ _ _ _ rfl ?_ | refine noR_mkS _ _ _ _ _ rfl ?_)) ?_ | with_reducible refine noC_and (by repeat (first | exact noC_empty _ _ (by simp -failIfUnchanged only [↓RA, RB, RS, fx55, p1, p2, p3, p4, reduceIte, p5, p6, p7, p8]) | exact noC_nilS _ _ (by simp -failIfUnchanged only [↓RA, RB, RS, fx55, p1, p2, p3, p4, reduceIte, p5, p6, p7, p8]) | refine noC_mk _ _ _ _ _ rfl ?_ | refine noC_mkS _ _ _ _ _ rfl ?_)) ?_ | with_reducible refine and_ac ?_ | with_reducible refine And.intro (a := _ = List.range _) (by rfl) ?_)
  obtain ⟨v6, hv6, h⟩ := run_bind h
  refine CallH.mk [false] (impl_IsValidGraph_sat hv6) ?_ ?_ <;> simp -failIfUnchanged only [↓RA, RB, RS, fx55, p1, p2, p3, p4, reduceIte, p5, p6, p7, p8]
  refine CondH.mk (fun c1 => ?_) (fun c1 => ?_)
  · replace h := run_t c1 h
    simp -failIfUnchanged only [↓RA, RB, RS, fx55, p1, p2, p3, p4, reduceIte, p5, p6, p7, p8, c1]
    refine CondH.mk (fun c2 => ?_) (fun c2 => ?_)
    · replace h := run_t c2 h
      simp -failIfUnchanged only [↓RA, RB, RS, fx55, p1, p2, p3, p4, reduceIte, p5, p6, p7, p8, c1, c2]
      have h := run_some h
      obtain rfl : _ = r := h
      refine FinH.l ?_
      simp -failIfUnchanged only [↓RA, RB, RS, fx55, p1, p2, p3, p4, reduceIte, p5, p6, p7, p8, c1, c2]
    · replace h := run_f c2 h
      simp -failIfUnchanged only [↓RA, RB, RS, fx55, p1, p2, p3, p4, reduceIte, p5, p6, p7, p8, c1, c2]
      refine CondH.mk (fun c3 => ?_) (fun c3 => ?_)
      · replace h := run_t c3 h
        simp -failIfUnchanged only [↓RA, RB, RS, fx55, p1, p2, p3, p4, reduceIte, p5, p6, p7, p8, c1, c2, c3]
        have h := run_some h
        obtain rfl : _ = r := h
        refine FinH.l ?_
        simp -failIfUnchanged only [↓RA, RB, RS, fx55, p1, p2, p3, p4, reduceIte, p5, p6, p7, p8, c1, c2, c3]
      · replace h := run_f c3 h
        simp -failIfUnchanged only [↓RA, RB, RS, fx55, p1, p2, p3, p4, reduceIte, p5, p6, p7, p8, c1, c2, c3]
        obtain ⟨v24, hv24, h⟩ := run_bind h
        refine CallH.mk [false, false] (slices_ContainsFunc_Simpl_SizeEdge_impl_SizeEdge_sat (fun _ _ hh => impl_IsValidCyclic_2_1_sat hh) (by simp only [CapsOk_nil, CapsOk_cons]) hv24) ?_ ?_ <;> simp -failIfUnchanged only [↓RA, RB, RS, fx55, p1, p2, p3, p4, reduceIte, p5, p6, p7, p8, c1, c2, c3]
        have h := run_some h
        obtain rfl : _ = r := h
        refine FinH.l ?_
        simp -failIfUnchanged only [↓RA, RB, RS, fx55, p1, p2, p3, p4, reduceIte, p5, p6, p7, p8, c1, c2, c3]
  · replace h := run_f c1 h
    simp -failIfUnchanged only [↓RA, RB, RS, fx55, p1, p2, p3, p4, reduceIte, p5, p6, p7, p8, c1]
    have h := run_some h
    obtain rfl : _ = r := h
    refine FinH.l ?_
    simp -failIfUnchanged only [↓RA, RB, RS, fx55, p1, p2, p3, p4, reduceIte, p5, p6, p7, p8, c1]

def fx76 := And.intro @ty_3 <| And.intro @zc_3 <| And.intro @z_3 <| And.intro @ty_29 <| And.intro @zc_29 <| And.intro @z_29 <| And.intro @es_29 <| And.intro @eb_29 <| And.intro @sl_29 <| And.intro @is_29 <| And.intro @el_29 <| And.intro @ze_29 <| And.intro @ez_29 <| And.intro @ty_53 <| And.intro @zc_53 <| And.intro @z_53 <| And.intro @fo_53_0 <| And.intro @fi_53_0 <| And.intro @ft_53_0 <| And.intro @fo_53_1 <| And.intro @fi_53_1 <| And.intro @ft_53_1 <| And.intro @fo_53_2 <| And.intro @fi_53_2 <| And.intro @ft_53_2 <| @lay_53
set_option maxHeartbeats 4000000 in
theorem slices_IndexFunc_Simpl_SizeGraph_impl_SizeGraph_sat {a0 : List SizeGraph} {a1 : SizeGraph → Option Bool} {a1_id : FuncId} {a1_cs : List PV} (a1_ok : ∀ y0 r, a1 y0 = some r → Sat Try.prog a1_id (((SizeGraph.pv false) y0) :: a1_cs) (B r)) (a1_cz : CapsOk a1_cs = True) {r : Int} (h : slices_IndexFunc_Simpl_SizeGraph_impl_SizeGraph a0 a1 = some r) : Sat Try.prog 76 [(.sl false 3 (a0.map (SizeGraph.pv false))), .clo a1_id a1_cs] (I r) := by
  replace h := Run.of h
  unfold slices_IndexFunc_Simpl_SizeGraph_impl_SizeGraph at h
  refine Sat.of_m (nt := 19) (rs := [.tmp 4]) (n := 100000) Try.func76 rfl rfl rfl rfl (by simp) ?_
  simp -failIfUnchanged only [↓RA, RB, RS, fx76, a1_cz, p1, p2, p3, p4, reduceIte, p5, p6, p7, p8]
  refine Mg.know_sl (b := false) (sz := 3) (es := a0.map (SizeGraph.pv false)) 0 (by simp -failIfUnchanged only [↓RA, RB, RS, fx76, a1_cz, p1, p2, p3, p4, reduceIte, p5, p6, p7, p8]) fun hl0 => ?_; rw [List.length_map] at hl0
  replace h := run_loop h
  refine Mg.forN h (fun i2 s2 => [(0, .val (.pv (.sl false 3 (a0.map (SizeGraph.pv false))))), (1, .val (.pv (.clo a1_id a1_cs))), (7, .val (.pv (I (a0.length : Int)))), (8, .val (.pv (I (i2 : Int))))]) (fun i2 s2 => []) (St.le_mk2 (by simp -failIfUnchanged only [↓RA, RB, RS, fx76, a1_cz, p1, p2, p3, p4, reduceIte, p5, p6, p7, p8])) (fun i2 s2 hi h => ?_) (fun s2 h => ?_)
  · have w2 := wrap_succ (i := i2) (by omega)
    simp -failIfUnchanged only [↓RA, RB, RS, fx76, a1_cz, p1, p2, p3, p4, reduceIte, p5, p6, p7, p8]
    refine CondH.tt (decide_eq_true (by omega)) (fun c1 => ?_)
    simp -failIfUnchanged only [↓RA, RB, RS, fx76, a1_cz, p1, p2, p3, p4, reduceIte, p5, p6, p7, p8, c1]
    obtain ⟨v14, hv14, h⟩ := run_bind h
    refine IdxH.mk (f := (SizeGraph.pv false)) hv14 ?_ ?_ <;> simp -failIfUnchanged only [↓RA, RB, RS, fx76, a1_cz, p1, p2, p3, p4, reduceIte, p5, p6, p7, p8, c1]
    obtain ⟨v16, hv16, h⟩ := run_bind h
    refine CallH.mk [false] (a1_ok _ _ hv16) ?_ ?_ <;> simp -failIfUnchanged only [↓RA, RB, RS, fx76, a1_cz, p1, p2, p3, p4, reduceIte, p5, p6, p7, p8, c1]
    refine CondH.mk (fun c2 => ?_) (fun c2 => ?_)
    · replace h := run_t c2 h
      simp -failIfUnchanged only [↓RA, RB, RS, fx76, a1_cz, p1, p2, p3, p4, reduceIte, p5, p6, p7, p8, c1, c2]
      have h := run_some h
      obtain rfl : _ = r := h
      refine FinH.l ?_
      simp -failIfUnchanged only [↓RA, RB, RS, fx76, a1_cz, p1, p2, p3, p4, reduceIte, p5, p6, p7, p8, c1, c2]
    · replace h := run_f c2 h
      simp -failIfUnchanged only [↓RA, RB, RS, fx76, a1_cz, p1, p2, p3, p4, reduceIte, p5, p6, p7, p8, c1, c2]
      have h := run_some h
      refine RdH.mk ⟨_, h, ?_⟩
      refine St.le_mk2 ?_
      simp -failIfUnchanged only [↓RA, RB, RS, fx76, a1_cz, p1, p2, p3, p4, reduceIte, p5, p6, p7, p8, c1, c2, w2]
  · simp -failIfUnchanged only [↓RA, RB, RS, fx76, a1_cz, p1, p2, p3, p4, reduceIte, p5, p6, p7, p8]
    refine CondH.ff (decide_eq_false (by omega)) (fun c3 => ?_)
    simp -failIfUnchanged only [↓RA, RB, RS, fx76, a1_cz, p1, p2, p3, p4, reduceIte, p5, p6, p7, p8, c3]
    have h := run_some h
    obtain rfl : _ = r := h
    refine FinH.l ?_
    simp -failIfUnchanged only [↓RA, RB, RS, fx76, a1_cz, p1, p2, p3, p4, reduceIte, p5, p6, p7, p8, c3]

def fx54 := And.intro @ty_3 <| And.intro @zc_3 <| And.intro @z_3 <| And.intro @ty_29 <| And.intro @zc_29 <| And.intro @z_29 <| And.intro @es_29 <| And.intro @eb_29 <| And.intro @sl_29 <| And.intro @is_29 <| And.intro @el_29 <| And.intro @ze_29 <| And.intro @ez_29 <| And.intro @ty_65 <| And.intro @zc_65 <| @z_65
set_option maxHeartbeats 4000000 in
theorem slices_ContainsFunc_Simpl_SizeGraph_impl_SizeGraph_sat {a0 : List SizeGraph} {a1 : SizeGraph → Option Bool} {a1_id : FuncId} {a1_cs : List PV} (a1_ok : ∀ y0 r, a1 y0 = some r → Sat Try.prog a1_id (((SizeGraph.pv false) y0) :: a1_cs) (B r)) (a1_cz : CapsOk a1_cs = True) {r : Bool} (h : slices_ContainsFunc_Simpl_SizeGraph_impl_SizeGraph a0 a1 = some r) : Sat Try.prog 54 [(.sl false 3 (a0.map (SizeGraph.pv false))), .clo a1_id a1_cs] (B r) := by
  replace h := Run.of h
  unfold slices_ContainsFunc_Simpl_SizeGraph_impl_SizeGraph at h
  refine Sat.of_m (nt := 9) (rs := [.tmp 4]) (n := 100000) Try.func54 rfl rfl rfl rfl (by simp) ?_
  simp -failIfUnchanged only [↓RA, RB, RS, fx54, a1_cz, p1, p2, p3, p4, reduceIte, p5, p6, p7, p8]
  obtain ⟨v7, hv7, h⟩ := run_bind h
  refine CallH.mk [false, false] (slices_IndexFunc_Simpl_SizeGraph_impl_SizeGraph_sat a1_ok a1_cz hv7) ?_ ?_ <;> simp -failIfUnchanged only [↓RA, RB, RS, fx54, a1_cz, p1, p2, p3, p4, reduceIte, p5, p6, p7, p8]
  have h := run_some h
  obtain rfl : _ = r := h
  refine FinH.l ?_
  simp -failIfUnchanged only [↓RA, RB, RS, fx54, a1_cz, p1, p2, p3, p4, reduceIte, p5, p6, p7, p8]

def fx32 := And.intro @ty_3 <| And.intro @zc_3 <| And.intro @z_3 <| And.intro @ty_4 <| And.intro @zc_4 <| And.intro @z_4 <| And.intro @u_4 <| And.intro @ty_22 <| And.intro @zc_22 <| And.intro @z_22 <| And.intro @es_22 <| And.intro @eb_22 <| And.intro @sl_22 <| And.intro @is_22 <| And.intro @el_22 <| And.intro @ze_22 <| And.intro @ez_22 <| And.intro @ty_29 <| And.intro @zc_29 <| And.intro @z_29 <| And.intro @es_29 <| And.intro @eb_29 <| And.intro @sl_29 <| And.intro @is_29 <| And.intro @el_29 <| And.intro @ze_29 <| And.intro @ez_29 <| And.intro @ty_31 <| And.intro @zc_31 <| And.intro @z_31 <| And.intro @fo_31_0 <| And.intro @fi_31_0 <| And.intro @ft_31_0 <| And.intro @fo_31_1 <| And.intro @fi_31_1 <| And.intro @ft_31_1 <| And.intro @lay_31 <| And.intro @ty_65 <| And.intro @zc_65 <| And.intro @z_65 <| And.intro @ty_82 <| And.intro @zc_82 <| @z_82
set_option maxHeartbeats 4000000 in
theorem impl_IsValidCyclic_sat {a0 : CyclicProof}  {r : Bool} (h : impl_IsValidCyclic a0 = some r) : Sat Try.prog 32 [((CyclicProof.pv false) a0)] (B r) := by
  replace h := Run.of h
  unfold impl_IsValidCyclic at h
  refine Sat.of_m (nt := 26) (rs := [.tmp 2]) (n := 100000) Try.func32 rfl rfl rfl rfl (by simp) ?_
  simp -failIfUnchanged only [↓RA, RB, RS, fx32, p1, p2, p3, p4, reduceIte, p5, p6, p7, p8]
  repeat (first | with_reducible refine noR_and (by repeat (first | exact noR_empty _ _ | exact noR_nilS _ _ | refine noR_mk _ _ _ _ _ rfl ?_ | refine noR_mkS _ _ _ _ _ rfl ?_)) ?_ | with_reducible refine noC_and (by repeat (first | exact noC_empty _ _ (by simp -failIfUnchanged only [↓RA, RB, RS, fx32, p1, p2, p3, p4, reduceIte, p5, p6, p7, p8]) | exact noC_nilS _ _ (by simp -failIfUnchanged only [↓RA, RB, RS, fx32, p1, p2, p3, p4, reduceIte, p5, p6, p7, p8]) | refine noC_mk _ _ _ _ _ rfl ?_ | refine noC_mkS _ _ _ _ _ rfl ?_)) ?_ | with_reducible refine and_ac ?_ | with_reducible refine And.intro (a := _ = List.range _) (by rfl) ?_)
  obtain ⟨v8, hv8, h⟩ := run_bind h
  refine CallH.mk [false, false, false] (impl_within_sat hv8) ?_ ?_ <;> simp -failIfUnchanged only [↓RA, RB, RS, fx32, p1, p2, p3, p4, reduceIte, p5, p6, p7, p8]
  refine CondH.mk (fun c1 => ?_) (fun c1 => ?_)
  · replace h := run_t c1 h
    simp -failIfUnchanged only [↓RA, RB, RS, fx32, p1, p2, p3, p4, reduceIte, p5, p6, p7, p8, c1]
    refine CondH.mk (fun c2 => ?_) (fun c2 => ?_)
    · replace h := run_t c2 h
      simp -failIfUnchanged only [↓RA, RB, RS, fx32, p1, p2, p3, p4, reduceIte, p5, p6, p7, p8, c1, c2]
      have h := run_some h
      obtain rfl : _ = r := h
      refine FinH.l ?_
      simp -failIfUnchanged only [↓RA, RB, RS, fx32, p1, p2, p3, p4, reduceIte, p5, p6, p7, p8, c1, c2]
    · replace h := run_f c2 h
      simp -failIfUnchanged only [↓RA, RB, RS, fx32, p1, p2, p3, p4, reduceIte, p5, p6, p7, p8, c1, c2]
      obtain ⟨v19, hv19, h⟩ := run_bind h
      refine CallH.mk [false, false] (slices_ContainsFunc_Sint_int_sat (fun _ _ hh => impl_IsValidCyclic_1_sat hh) (by simp only [CapsOk_nil, CapsOk_cons]) hv19) ?_ ?_ <;> simp -failIfUnchanged only [↓RA, RB, RS, fx32, p1, p2, p3, p4, reduceIte, p5, p6, p7, p8, c1, c2]
      refine CondH.mk (fun c3 => ?_) (fun c3 => ?_)
      · replace h := run_t c3 h
        simp -failIfUnchanged only [↓RA, RB, RS, fx32, p1, p2, p3, p4, reduceIte, p5, p6, p7, p8, c1, c2, c3]
        have h := run_some h
        obtain rfl : _ = r := h
        refine FinH.l ?_
        simp -failIfUnchanged only [↓RA, RB, RS, fx32, p1, p2, p3, p4, reduceIte, p5, p6, p7, p8, c1, c2, c3]
      · replace h := run_f c3 h
        simp -failIfUnchanged only [↓RA, RB, RS, fx32, p1, p2, p3, p4, reduceIte, p5, p6, p7, p8, c1, c2, c3]
        obtain ⟨v24, hv24, h⟩ := run_bind h
        refine CallH.mk [false, false] (slices_ContainsFunc_Simpl_SizeGraph_impl_SizeGraph_sat (fun _ _ hh => impl_IsValidCyclic_2_sat hh) (by simp only [CapsOk_nil, CapsOk_cons]) hv24) ?_ ?_ <;> simp -failIfUnchanged only [↓RA, RB, RS, fx32, p1, p2, p3, p4, reduceIte, p5, p6, p7, p8, c1, c2, c3]
        have h := run_some h
        obtain rfl : _ = r := h
        refine FinH.l ?_
        simp -failIfUnchanged only [↓RA, RB, RS, fx32, p1, p2, p3, p4, reduceIte, p5, p6, p7, p8, c1, c2, c3]
  · replace h := run_f c1 h
    simp -failIfUnchanged only [↓RA, RB, RS, fx32, p1, p2, p3, p4, reduceIte, p5, p6, p7, p8, c1]
    have h := run_some h
    obtain rfl : _ = r := h
    refine FinH.l ?_
    simp -failIfUnchanged only [↓RA, RB, RS, fx32, p1, p2, p3, p4, reduceIte, p5, p6, p7, p8, c1]

def fx33 := And.intro @ty_3 <| And.intro @zc_3 <| And.intro @z_3 <| And.intro @ty_4 <| And.intro @zc_4 <| And.intro @z_4 <| And.intro @u_4 <| And.intro @ty_22 <| And.intro @zc_22 <| And.intro @z_22 <| And.intro @es_22 <| And.intro @eb_22 <| And.intro @sl_22 <| And.intro @is_22 <| And.intro @el_22 <| And.intro @ze_22 <| And.intro @ez_22 <| And.intro @ty_29 <| And.intro @zc_29 <| And.intro @z_29 <| And.intro @es_29 <| And.intro @eb_29 <| And.intro @sl_29 <| And.intro @is_29 <| And.intro @el_29 <| And.intro @ze_29 <| And.intro @ez_29 <| And.intro @ty_31 <| And.intro @zc_31 <| And.intro @z_31 <| And.intro @fo_31_0 <| And.intro @fi_31_0 <| And.intro @ft_31_0 <| And.intro @fo_31_1 <| And.intro @fi_31_1 <| And.intro @ft_31_1 <| And.intro @lay_31 <| And.intro @ty_53 <| And.intro @zc_53 <| And.intro @z_53 <| And.intro @fo_53_0 <| And.intro @fi_53_0 <| And.intro @ft_53_0 <| And.intro @fo_53_1 <| And.intro @fi_53_1 <| And.intro @ft_53_1 <| And.intro @fo_53_2 <| And.intro @fi_53_2 <| And.intro @ft_53_2 <| And.intro @lay_53 <| @mixedT
set_option maxHeartbeats 4000000 in
theorem impl_isPath_sat {a0 : CyclicProof} {a1 : List Int}  {r : Bool} (h : impl_isPath a0 a1 = some r) : Sat Try.prog 33 [((CyclicProof.pv false) a0), (.sl false 1 (a1.map I))] (B r) := by
  replace h := Run.of h
  unfold impl_isPath at h
  refine Sat.of_m (nt := 48) (rs := [.tmp 4]) (n := 100000) Try.func33 rfl rfl rfl rfl (by simp) ?_
  simp -failIfUnchanged only [↓RA, RB, RS, fx33, p1, p2, p3, p4, reduceIte, p5, p6, p7, p8]
  repeat (first | with_reducible refine noR_and (by repeat (first | exact noR_empty _ _ | exact noR_nilS _ _ | refine noR_mk _ _ _ _ _ rfl ?_ | refine noR_mkS _ _ _ _ _ rfl ?_)) ?_ | with_reducible refine noC_and (by repeat (first | exact noC_empty _ _ (by simp -failIfUnchanged only [↓RA, RB, RS, fx33, p1, p2, p3, p4, reduceIte, p5, p6, p7, p8]) | exact noC_nilS _ _ (by simp -failIfUnchanged only [↓RA, RB, RS, fx33, p1, p2, p3, p4, reduceIte, p5, p6, p7, p8]) | refine noC_mk _ _ _ _ _ rfl ?_ | refine noC_mkS _ _ _ _ _ rfl ?_)) ?_ | with_reducible refine and_ac ?_ | with_reducible refine And.intro (a := _ = List.range _) (by rfl) ?_)
  refine Mg.know_sl (b := false) (sz := 1) (es := a1.map I) 1 (by simp -failIfUnchanged only [↓RA, RB, RS, fx33, p1, p2, p3, p4, reduceIte, p5, p6, p7, p8]) fun hl1 => ?_; rw [List.length_map] at hl1
  replace h := run_loop h
  refine Mg.forN h (fun i2 s2 => [(1, .val (.pv (.sl false 1 (a1.map I)))), (2, .box (.pv ((CyclicProof.pv false) a0))), (7, .val (.pv (.sl false 1 (a1.map I)))), (8, .val (.pv (I (a1.length : Int)))), (9, .val (.pv (I (i2 : Int))))]) (fun i2 s2 => []) (St.le_mk2 (by simp -failIfUnchanged only [↓RA, RB, RS, fx33, p1, p2, p3, p4, reduceIte, p5, p6, p7, p8])) (fun i2 s2 hi h => ?_) (fun s2 h => ?_)
  · have w2 := wrap_succ (i := i2) (by omega)
    simp -failIfUnchanged only [↓RA, RB, RS, fx33, p1, p2, p3, p4, reduceIte, p5, p6, p7, p8]
    refine CondH.tt (decide_eq_true (by omega)) (fun c1 => ?_)
    simp -failIfUnchanged only [↓RA, RB, RS, fx33, p1, p2, p3, p4, reduceIte, p5, p6, p7, p8, c1]
    obtain ⟨v12, hv12, h⟩ := run_bind h
    refine IdxH.mk (f := I) hv12 ?_ ?_ <;> simp -failIfUnchanged only [↓RA, RB, RS, fx33, p1, p2, p3, p4, reduceIte, p5, p6, p7, p8, c1]
    obtain ⟨v19, hv19, h⟩ := run_bind h
    refine CallH.mk [false, false, false] (impl_within_sat hv19) ?_ ?_ <;> simp -failIfUnchanged only [↓RA, RB, RS, fx33, p1, p2, p3, p4, reduceIte, p5, p6, p7, p8, c1]
    refine CondH.mk (fun c2 => ?_) (fun c2 => ?_)
    · replace h := run_t c2 h
      simp -failIfUnchanged only [↓RA, RB, RS, fx33, p1, p2, p3, p4, reduceIte, p5, p6, p7, p8, c1, c2]
      refine CondH.mk (fun c3 => ?_) (fun c3 => ?_)
      · replace h := run_t c3 h
        simp -failIfUnchanged only [↓RA, RB, RS, fx33, p1, p2, p3, p4, reduceIte, p5, p6, p7, p8, c1, c2, c3]
        obtain ⟨v30, hv30, h⟩ := run_bind h
        refine IdxH.mk (f := I) hv30 ?_ ?_ <;> simp -failIfUnchanged only [↓RA, RB, RS, fx33, p1, p2, p3, p4, reduceIte, p5, p6, p7, p8, c1, c2, c3]
        obtain ⟨v32, hv32, h⟩ := run_bind h
        refine IdxH.mk (f := (SizeGraph.pv false)) hv32 ?_ ?_ <;> simp -failIfUnchanged only [↓RA, RB, RS, fx33, p1, p2, p3, p4, reduceIte, p5, p6, p7, p8, c1, c2, c3]
        obtain ⟨v38, hv38, h⟩ := run_bind h
        refine IdxH.mk (f := (SizeGraph.pv false)) hv38 ?_ ?_ <;> simp -failIfUnchanged only [↓RA, RB, RS, fx33, p1, p2, p3, p4, reduceIte, p5, p6, p7, p8, c1, c2, c3]
        refine And.intro (DrawH.none (by rfl) (by first | rfl | (simp -failIfUnchanged only [↓RA, RB, RS, fx33, p1, p2, p3, p4, reduceIte, p5, p6, p7, p8] <;> rfl)) (by first | rfl | (simp -failIfUnchanged only [↓RA, RB, RS, fx33, p1, p2, p3, p4, reduceIte, p5, p6, p7, p8] <;> rfl)) (by first | rfl | (simp -failIfUnchanged only [↓RA, RB, RS, fx33, p1, p2, p3, p4, reduceIte, p5, p6, p7, p8] <;> rfl))) ?_
        simp -failIfUnchanged only [↓RA, RB, RS, fx33, p1, p2, p3, p4, reduceIte, p5, p6, p7, p8, c1, c2, c3]
        refine CondH.mk (fun c4 => ?_) (fun c4 => ?_)
        · replace h := run_t c4 h
          simp -failIfUnchanged only [↓RA, RB, RS, fx33, p1, p2, p3, p4, reduceIte, p5, p6, p7, p8, c1, c2, c3, c4]
          have h := run_some h
          refine RdH.mk ⟨_, h, ?_⟩
          refine St.le_mk2 ?_
          simp -failIfUnchanged only [↓RA, RB, RS, fx33, p1, p2, p3, p4, reduceIte, p5, p6, p7, p8, c1, c2, c3, c4, w2]
        · replace h := run_f c4 h
          simp -failIfUnchanged only [↓RA, RB, RS, fx33, p1, p2, p3, p4, reduceIte, p5, p6, p7, p8, c1, c2, c3, c4]
          have h := run_some h
          obtain rfl : _ = r := h
          refine FinH.l ?_
          simp -failIfUnchanged only [↓RA, RB, RS, fx33, p1, p2, p3, p4, reduceIte, p5, p6, p7, p8, c1, c2, c3, c4]
      · replace h := run_f c3 h
        simp -failIfUnchanged only [↓RA, RB, RS, fx33, p1, p2, p3, p4, reduceIte, p5, p6, p7, p8, c1, c2, c3]
        refine And.intro (DrawH.none (by rfl) (by first | rfl | (simp -failIfUnchanged only [↓RA, RB, RS, fx33, p1, p2, p3, p4, reduceIte, p5, p6, p7, p8] <;> rfl)) (by first | rfl | (simp -failIfUnchanged only [↓RA, RB, RS, fx33, p1, p2, p3, p4, reduceIte, p5, p6, p7, p8] <;> rfl)) (by first | rfl | (simp -failIfUnchanged only [↓RA, RB, RS, fx33, p1, p2, p3, p4, reduceIte, p5, p6, p7, p8] <;> rfl))) ?_
        simp -failIfUnchanged only [↓RA, RB, RS, fx33, p1, p2, p3, p4, reduceIte, p5, p6, p7, p8, c1, c2, c3]
        have h := run_some h
        refine RdH.mk ⟨_, h, ?_⟩
        refine St.le_mk2 ?_
        simp -failIfUnchanged only [↓RA, RB, RS, fx33, p1, p2, p3, p4, reduceIte, p5, p6, p7, p8, c1, c2, c3, w2]
    · replace h := run_f c2 h
      simp -failIfUnchanged only [↓RA, RB, RS, fx33, p1, p2, p3, p4, reduceIte, p5, p6, p7, p8, c1, c2]
      refine And.intro (DrawH.none (by rfl) (by first | rfl | (simp -failIfUnchanged only [↓RA, RB, RS, fx33, p1, p2, p3, p4, reduceIte, p5, p6, p7, p8] <;> rfl)) (by first | rfl | (simp -failIfUnchanged only [↓RA, RB, RS, fx33, p1, p2, p3, p4, reduceIte, p5, p6, p7, p8] <;> rfl)) (by first | rfl | (simp -failIfUnchanged only [↓RA, RB, RS, fx33, p1, p2, p3, p4, reduceIte, p5, p6, p7, p8] <;> rfl))) ?_
      simp -failIfUnchanged only [↓RA, RB, RS, fx33, p1, p2, p3, p4, reduceIte, p5, p6, p7, p8, c1, c2]
      have h := run_some h
      obtain rfl : _ = r := h
      refine FinH.l ?_
      simp -failIfUnchanged only [↓RA, RB, RS, fx33, p1, p2, p3, p4, reduceIte, p5, p6, p7, p8, c1, c2]
  · simp -failIfUnchanged only [↓RA, RB, RS, fx33, p1, p2, p3, p4, reduceIte, p5, p6, p7, p8]
    refine CondH.ff (decide_eq_false (by omega)) (fun c5 => ?_)
    simp -failIfUnchanged only [↓RA, RB, RS, fx33, p1, p2, p3, p4, reduceIte, p5, p6, p7, p8, c5]
    have h := run_some h
    obtain rfl : _ = r := h
    refine FinH.l ?_
    simp -failIfUnchanged only [↓RA, RB, RS, fx33, p1, p2, p3, p4, reduceIte, p5, p6, p7, p8, c5]

def fx78 := And.intro @ty_100 <| And.intro @zc_100 <| And.intro @z_100 <| And.intro @ty_103 <| And.intro @zc_103 <| And.intro @z_103 <| And.intro @uk_100 <| @uk_103
set_option maxHeartbeats 4000000 in
theorem bits_Mul32_sat {a0 : Int} {a1 : Int}  {r : Int × Int} (h : bits_Mul32 a0 a1 = some r) : Sat Try.prog 78 [((Ik .u32) a0), ((Ik .u32) a1)] (.tup [((Ik .u32) r.1), ((Ik .u32) r.2)]) := by
  replace h := Run.of h
  unfold bits_Mul32 at h
  refine Sat.of_m (nt := 17) (rs := [.tmp 4, .tmp 5]) (n := 100000) Try.func78 rfl rfl rfl rfl (by simp) ?_
  simp -failIfUnchanged only [↓RA, RB, RS, fx78, p1, p2, p3, p4, reduceIte, p5, p6, p7, p8]
  obtain ⟨v13, hv13, h⟩ := run_bind h
  refine ShrH.mk hv13 ?_
  simp -failIfUnchanged only [↓RA, RB, RS, fx78, p1, p2, p3, p4, reduceIte, p5, p6, p7, p8]
  have h := run_some h
  obtain rfl : _ = r := h
  refine FinH.l ?_
  simp -failIfUnchanged only [↓RA, RB, RS, fx78, p1, p2, p3, p4, reduceIte, p5, p6, p7, p8]

def fx79 := And.intro @ty_103 <| And.intro @zc_103 <| @z_103
set_option maxHeartbeats 4000000 in
theorem bits_Mul64_sat {a0 : Int} {a1 : Int}  {r : Int × Int} (h : bits_Mul64 a0 a1 = some r) : Sat Try.prog 79 [((Ik .u64) a0), ((Ik .u64) a1)] (.tup [((Ik .u64) r.1), ((Ik .u64) r.2)]) := by
  replace h := Run.of h
  unfold bits_Mul64 at h
  refine Sat.of_m (nt := 51) (rs := [.tmp 4, .tmp 5]) (n := 100000) Try.func79 rfl rfl rfl rfl (by simp) ?_
  simp -failIfUnchanged only [↓RA, RB, RS, fx79, p1, p2, p3, p4, reduceIte, p5, p6, p7, p8]
  obtain ⟨v17, hv17, h⟩ := run_bind h
  refine ShrH.mk hv17 ?_
  simp -failIfUnchanged only [↓RA, RB, RS, fx79, p1, p2, p3, p4, reduceIte, p5, p6, p7, p8]
  obtain ⟨v21, hv21, h⟩ := run_bind h
  refine ShrH.mk hv21 ?_
  simp -failIfUnchanged only [↓RA, RB, RS, fx79, p1, p2, p3, p4, reduceIte, p5, p6, p7, p8]
  obtain ⟨v29, hv29, h⟩ := run_bind h
  refine ShrH.mk hv29 ?_
  simp -failIfUnchanged only [↓RA, RB, RS, fx79, p1, p2, p3, p4, reduceIte, p5, p6, p7, p8]
  obtain ⟨v34, hv34, h⟩ := run_bind h
  refine ShrH.mk hv34 ?_
  simp -failIfUnchanged only [↓RA, RB, RS, fx79, p1, p2, p3, p4, reduceIte, p5, p6, p7, p8]
  obtain ⟨v46, hv46, h⟩ := run_bind h
  refine ShrH.mk hv46 ?_
  simp -failIfUnchanged only [↓RA, RB, RS, fx79, p1, p2, p3, p4, reduceIte, p5, p6, p7, p8]
  have h := run_some h
  obtain rfl : _ = r := h
  refine FinH.l ?_
  simp -failIfUnchanged only [↓RA, RB, RS, fx79, p1, p2, p3, p4, reduceIte, p5, p6, p7, p8]

def fx58 := And.intro @ty_84 <| And.intro @zc_84 <| And.intro @z_84 <| And.intro @ty_100 <| And.intro @zc_100 <| And.intro @z_100 <| And.intro @ty_103 <| And.intro @zc_103 <| And.intro @z_103 <| And.intro @uk_84 <| @uk_100
set_option maxHeartbeats 4000000 in
theorem bits_Mul_sat {a0 : Int} {a1 : Int}  {r : Int × Int} (h : bits_Mul a0 a1 = some r) : Sat Try.prog 58 [((Ik .u64) a0), ((Ik .u64) a1)] (.tup [((Ik .u64) r.1), ((Ik .u64) r.2)]) := by
  replace h := Run.of h
  unfold bits_Mul at h
  refine Sat.of_m (nt := 30) (rs := [.tmp 4, .tmp 5]) (n := 100000) Try.func58 rfl rfl rfl rfl (by simp) ?_
  simp -failIfUnchanged only [↓RA, RB, RS, fx58, p1, p2, p3, p4, reduceIte, p5, p6, p7, p8]
  obtain ⟨v25, hv25, h⟩ := run_bind h
  refine CallH.mk [false, false] (bits_Mul64_sat hv25) ?_ ?_ <;> simp -failIfUnchanged only [↓RA, RB, RS, fx58, p1, p2, p3, p4, reduceIte, p5, p6, p7, p8]
  have h := run_some h
  obtain rfl : _ = r := h
  refine FinH.l ?_
  simp -failIfUnchanged only [↓RA, RB, RS, fx58, p1, p2, p3, p4, reduceIte, p5, p6, p7, p8]

def fx36 := And.intro @ty_3 <| And.intro @zc_3 <| And.intro @z_3 <| And.intro @ty_9 <| And.intro @zc_9 <| And.intro @z_9 <| And.intro @u_9 <| And.intro @ty_22 <| And.intro @zc_22 <| And.intro @z_22 <| And.intro @es_22 <| And.intro @eb_22 <| And.intro @sl_22 <| And.intro @is_22 <| And.intro @el_22 <| And.intro @ze_22 <| And.intro @ez_22 <| And.intro @ty_84 <| And.intro @zc_84 <| And.intro @z_84 <| And.intro @uk_3 <| And.intro @uk_84 <| @mixedT
set_option maxHeartbeats 4000000 in
theorem slices_Repeat_Sint_int_sat {a0 : List Int} {a1 : Int}  {r : List Int} (h : slices_Repeat_Sint_int a0 a1 = some r) : Sat Try.prog 36 [(.sl false 1 (a0.map I)), (I a1)] (.sl true 1 (r.map I)) := by
  replace h := Run.of h
  unfold slices_Repeat_Sint_int at h
  refine Sat.of_m (nt := 48) (rs := [.tmp 4]) (n := 100000) Try.func36 rfl rfl rfl rfl (by simp) ?_
  simp -failIfUnchanged only [↓RA, ↓RX, RB, RS, fx36, p1, p2, p3, p4, reduceIte, p5, p6, p7, p8]
  refine CondH.mk (fun c1 => ?_) (fun c1 => ?_)
  · replace h := run_t c1 h
    simp -failIfUnchanged only [↓RA, ↓RX, RB, RS, fx36, p1, p2, p3, p4, reduceIte, p5, p6, p7, p8, c1]
    exact run_none h
  · replace h := run_f c1 h
    simp -failIfUnchanged only [↓RA, ↓RX, RB, RS, fx36, p1, p2, p3, p4, reduceIte, p5, p6, p7, p8, c1]
    obtain ⟨v18, hv18, h⟩ := run_bind h
    refine CallH.mk [false, false] (bits_Mul_sat hv18) ?_ ?_ <;> simp -failIfUnchanged only [↓RA, ↓RX, RB, RS, fx36, p1, p2, p3, p4, reduceIte, p5, p6, p7, p8, c1]
    refine CondH.mk (fun c2 => ?_) (fun c2 => ?_)
    · replace h := run_t c2 h
      simp -failIfUnchanged only [↓RA, ↓RX, RB, RS, fx36, p1, p2, p3, p4, reduceIte, p5, p6, p7, p8, c1, c2]
      exact run_none h
    · replace h := run_f c2 h
      simp -failIfUnchanged only [↓RA, ↓RX, RB, RS, fx36, p1, p2, p3, p4, reduceIte, p5, p6, p7, p8, c1, c2]
      refine CondH.mk (fun c3 => ?_) (fun c3 => ?_)
      · replace h := run_t c3 h
        simp -failIfUnchanged only [↓RA, ↓RX, RB, RS, fx36, p1, p2, p3, p4, reduceIte, p5, p6, p7, p8, c1, c2, c3]
        exact run_none h
      · replace h := run_f c3 h
        simp -failIfUnchanged only [↓RA, ↓RX, RB, RS, fx36, p1, p2, p3, p4, reduceIte, p5, p6, p7, p8, c1, c2, c3]
        obtain ⟨n30, hn30, h⟩ := run_bind h
        refine MknH.mk hn30 ?_
        simp -failIfUnchanged only [↓RA, ↓RX, RB, RS, fx36, p1, p2, p3, p4, reduceIte, p5, p6, p7, p8, c1, c2, c3]
        repeat (first | with_reducible refine noR_and (by repeat (first | exact noR_empty _ _ | exact noR_nilS _ _ | refine noR_mk _ _ _ _ _ rfl ?_ | refine noR_mkS _ _ _ _ _ rfl ?_)) ?_ | with_reducible refine noC_and (by repeat (first | exact noC_empty _ _ (by simp -failIfUnchanged only [↓RA, ↓RX, RB, RS, fx36, p1, p2, p3, p4, reduceIte, p5, p6, p7, p8]) | exact noC_nilS _ _ (by simp -failIfUnchanged only [↓RA, ↓RX, RB, RS, fx36, p1, p2, p3, p4, reduceIte, p5, p6, p7, p8]) | refine noC_mk _ _ _ _ _ rfl ?_ | refine noC_mkS _ _ _ _ _ rfl ?_)) ?_ | with_reducible refine and_ac ?_ | with_reducible refine And.intro (a := _ = List.range _) (by rfl) ?_)
        refine CopyH.view (f := I) (c := 480) (sz := 1) (xs := List.replicate n30 (0 : Int)) (ys := a0) (es := (List.replicate n30 (0 : Int)).map I) (zs := (a0).map I) (fun _ => rfl) rfl rfl (by simp -failIfUnchanged only [↓RA, ↓RX, RB, RS, fx36, p1, p2, p3, p4, reduceIte, p5, p6, p7, p8, c1, c2, c3]) sl_22 (by simp -failIfUnchanged only [↓RA, ↓RX, RB, RS, fx36, p1, p2, p3, p4, reduceIte, p5, p6, p7, p8, c1, c2, c3]) (by simp -failIfUnchanged only [↓RA, ↓RX, RB, RS, fx36, p1, p2, p3, p4, reduceIte, p5, p6, p7, p8, c1, c2, c3]; try rfl) (by simp -failIfUnchanged only [↓RA, ↓RX, RB, RS, fx36, p1, p2, p3, p4, reduceIte, p5, p6, p7, p8, c1, c2, c3]; try rfl) rfl rfl ?_
        simp -failIfUnchanged only [↓RA, ↓RX, RB, RS, fx36, p1, p2, p3, p4, reduceIte, p5, p6, p7, p8, c1, c2, c3]
        replace h := run_loop h
        refine Mg.whileN h (fun s8 => [(7, .val (.own 480)), (8, .val (.pv (I s8.2)))]) (fun s8 => [(480, (1, s8.1.map I))]) (St.le_mk2 (by simp -failIfUnchanged only [↓RA, ↓RX, RB, RS, fx36, p1, p2, p3, p4, reduceIte, p5, p6, p7, p8, c1, c2, c3])) (fun n8 s8 h => ?_)
        simp -failIfUnchanged only [↓RA, ↓RX, RB, RS, fx36, p1, p2, p3, p4, reduceIte, p5, p6, p7, p8, c1, c2, c3]
        refine CondH.mk (fun c4 => ?_) (fun c4 => ?_)
        · replace h := run_t c4 h
          simp -failIfUnchanged only [↓RA, ↓RX, RB, RS, fx36, p1, p2, p3, p4, reduceIte, p5, p6, p7, p8, c1, c2, c3, c4]
          obtain ⟨v41, hv41, h⟩ := run_bind h
          refine SlcOH.sub (f := I) hv41 ?_ ?_ <;> simp -failIfUnchanged only [↓RA, ↓RX, RB, RS, fx36, p1, p2, p3, p4, reduceIte, p5, p6, p7, p8, c1, c2, c3, c4]
          obtain ⟨v44, hv44, h⟩ := run_bind h
          refine SlcOH.sub (f := I) hv44 ?_ ?_ <;> simp -failIfUnchanged only [↓RA, ↓RX, RB, RS, fx36, p1, p2, p3, p4, reduceIte, p5, p6, p7, p8, c1, c2, c3, c4]
          obtain ⟨v45, hv45, h⟩ := run_bind h
          refine CopyH.self (f := I) (c := 480) (sz := 1) (xs := s8.1) (lo := s8.2) (hi := s8.2) (es := (s8.1).map I) (l := Int.toNat (s8.2)) (h := Int.toNat (s8.2)) (m := (s8.1).length) (fun _ => rfl) hv45 rfl rfl ?_ sl_22 (by simp -failIfUnchanged only [↓RA, ↓RX, RB, RS, fx36, p1, p2, p3, p4, reduceIte, p5, p6, p7, p8, c1, c2, c3, c4]; try rfl) (by simp -failIfUnchanged only [↓RA, ↓RX, RB, RS, fx36, p1, p2, p3, p4, reduceIte, p5, p6, p7, p8, c1, c2, c3, c4]; try rfl) (by simp -failIfUnchanged only [↓RA, ↓RX, RB, RS, fx36, p1, p2, p3, p4, reduceIte, p5, p6, p7, p8, c1, c2, c3, c4]; try rfl) rfl rfl rfl rfl ?_ <;> simp -failIfUnchanged only [↓RA, ↓RX, RB, RS, fx36, p1, p2, p3, p4, reduceIte, p5, p6, p7, p8, c1, c2, c3, c4]
          refine And.intro (DrawH.none (by rfl) (by first | rfl | (simp -failIfUnchanged only [↓RA, ↓RX, RB, RS, fx36, p1, p2, p3, p4, reduceIte, p5, p6, p7, p8] <;> rfl)) (by first | rfl | (simp -failIfUnchanged only [↓RA, ↓RX, RB, RS, fx36, p1, p2, p3, p4, reduceIte, p5, p6, p7, p8] <;> rfl)) (by first | rfl | (simp -failIfUnchanged only [↓RA, ↓RX, RB, RS, fx36, p1, p2, p3, p4, reduceIte, p5, p6, p7, p8] <;> rfl))) ?_
          simp -failIfUnchanged only [↓RA, ↓RX, RB, RS, fx36, p1, p2, p3, p4, reduceIte, p5, p6, p7, p8, c1, c2, c3, c4]
          have h := run_some h
          refine RdH.mk ⟨_, h, ?_⟩
          refine St.le_mk2 ?_
          simp -failIfUnchanged only [↓RA, ↓RX, RB, RS, fx36, p1, p2, p3, p4, reduceIte, p5, p6, p7, p8, c1, c2, c3, c4]
        · replace h := run_f c4 h
          simp -failIfUnchanged only [↓RA, ↓RX, RB, RS, fx36, p1, p2, p3, p4, reduceIte, p5, p6, p7, p8, c1, c2, c3, c4]
          have h := run_some h
          have h := run_some h
          obtain rfl : _ = r := h
          refine FinH.l ?_
          simp -failIfUnchanged only [↓RA, ↓RX, RB, RS, fx36, p1, p2, p3, p4, reduceIte, p5, p6, p7, p8, c1, c2, c3, c4]

def fx15 := And.intro @ty_3 <| And.intro @zc_3 <| And.intro @z_3 <| And.intro @ty_4 <| And.intro @zc_4 <| And.intro @z_4 <| And.intro @u_4 <| And.intro @ty_22 <| And.intro @zc_22 <| And.intro @z_22 <| And.intro @es_22 <| And.intro @eb_22 <| And.intro @sl_22 <| And.intro @is_22 <| And.intro @el_22 <| And.intro @ze_22 <| And.intro @ez_22 <| And.intro @ty_31 <| And.intro @zc_31 <| And.intro @z_31 <| And.intro @fo_31_0 <| And.intro @fi_31_0 <| And.intro @ft_31_0 <| And.intro @fo_31_1 <| And.intro @fi_31_1 <| And.intro @ft_31_1 <| @lay_31
set_option maxHeartbeats 4000000 in
theorem impl_RepeatPath_sat {a0 : CyclicProof} {a1 : List Int} {a2 : Int}  {r : (List Int) × Bool} (h : impl_RepeatPath a0 a1 a2 = some r) : Sat Try.prog 15 [((CyclicProof.pv false) a0), (.sl false 1 (a1.map I)), (I a2)] (.tup [(.sl true 1 (r.1.map I)), (B r.2)]) := by
  replace h := Run.of h
  unfold impl_RepeatPath at h
  refine Sat.of_m (nt := 35) (rs := [.tmp 6, .tmp 7]) (n := 100000) Try.func15 rfl rfl rfl rfl (by simp) ?_
  simp -failIfUnchanged only [↓RA, RB, RS, fx15, p1, p2, p3, p4, reduceIte, p5, p6, p7, p8]
  repeat (first | with_reducible refine noR_and (by repeat (first | exact noR_empty _ _ | exact noR_nilS _ _ | refine noR_mk _ _ _ _ _ rfl ?_ | refine noR_mkS _ _ _ _ _ rfl ?_)) ?_ | with_reducible refine noC_and (by repeat (first | exact noC_empty _ _ (by simp -failIfUnchanged only [↓RA, RB, RS, fx15, p1, p2, p3, p4, reduceIte, p5, p6, p7, p8]) | exact noC_nilS _ _ (by simp -failIfUnchanged only [↓RA, RB, RS, fx15, p1, p2, p3, p4, reduceIte, p5, p6, p7, p8]) | refine noC_mk _ _ _ _ _ rfl ?_ | refine noC_mkS _ _ _ _ _ rfl ?_)) ?_ | with_reducible refine and_ac ?_ | with_reducible refine And.intro (a := _ = List.range _) (by rfl) ?_)
  obtain ⟨v10, hv10, h⟩ := run_bind h
  refine CallH.mk [false] (impl_IsValidCyclic_sat hv10) ?_ ?_ <;> simp -failIfUnchanged only [↓RA, RB, RS, fx15, p1, p2, p3, p4, reduceIte, p5, p6, p7, p8]
  refine CondH.mk (fun c1 => ?_) (fun c1 => ?_)
  · replace h := run_t c1 h
    simp -failIfUnchanged only [↓RA, RB, RS, fx15, p1, p2, p3, p4, reduceIte, p5, p6, p7, p8, c1]
    obtain ⟨v15, hv15, h⟩ := run_bind h
    refine CallH.mk [false, false] (impl_isPath_sat hv15) ?_ ?_ <;> simp -failIfUnchanged only [↓RA, RB, RS, fx15, p1, p2, p3, p4, reduceIte, p5, p6, p7, p8, c1]
    refine CondH.mk (fun c2 => ?_) (fun c2 => ?_)
    · replace h := run_t c2 h
      simp -failIfUnchanged only [↓RA, RB, RS, fx15, p1, p2, p3, p4, reduceIte, p5, p6, p7, p8, c1, c2]
      refine CondH.mk (fun c3 => ?_) (fun c3 => ?_)
      · replace h := run_t c3 h
        simp -failIfUnchanged only [↓RA, RB, RS, fx15, p1, p2, p3, p4, reduceIte, p5, p6, p7, p8, c1, c2, c3]
        have h := run_some h
        obtain rfl : _ = r := h
        refine FinH.l ?_
        simp -failIfUnchanged only [↓RA, RB, RS, fx15, p1, p2, p3, p4, reduceIte, p5, p6, p7, p8, c1, c2, c3]
      · replace h := run_f c3 h
        simp -failIfUnchanged only [↓RA, RB, RS, fx15, p1, p2, p3, p4, reduceIte, p5, p6, p7, p8, c1, c2, c3]
        refine CondH.mk (fun c4 => ?_) (fun c4 => ?_)
        · replace h := run_t c4 h
          simp -failIfUnchanged only [↓RA, RB, RS, fx15, p1, p2, p3, p4, reduceIte, p5, p6, p7, p8, c1, c2, c3, c4]
          have h := run_some h
          obtain rfl : _ = r := h
          refine FinH.l ?_
          simp -failIfUnchanged only [↓RA, RB, RS, fx15, p1, p2, p3, p4, reduceIte, p5, p6, p7, p8, c1, c2, c3, c4]
        · replace h := run_f c4 h
          simp -failIfUnchanged only [↓RA, RB, RS, fx15, p1, p2, p3, p4, reduceIte, p5, p6, p7, p8, c1, c2, c3, c4]
          refine CondH.mk (fun c5 => ?_) (fun c5 => ?_)
          · replace h := run_t c5 h
            simp -failIfUnchanged only [↓RA, RB, RS, fx15, p1, p2, p3, p4, reduceIte, p5, p6, p7, p8, c1, c2, c3, c4, c5]
            have h := run_some h
            obtain rfl : _ = r := h
            refine FinH.l ?_
            simp -failIfUnchanged only [↓RA, RB, RS, fx15, p1, p2, p3, p4, reduceIte, p5, p6, p7, p8, c1, c2, c3, c4, c5]
          · replace h := run_f c5 h
            simp -failIfUnchanged only [↓RA, RB, RS, fx15, p1, p2, p3, p4, reduceIte, p5, p6, p7, p8, c1, c2, c3, c4, c5]
            obtain ⟨v29, hv29, h⟩ := run_bind h
            refine CallH.mk [false, false] (slices_Repeat_Sint_int_sat hv29) ?_ ?_ <;> simp -failIfUnchanged only [↓RA, RB, RS, fx15, p1, p2, p3, p4, reduceIte, p5, p6, p7, p8, c1, c2, c3, c4, c5]
            repeat (first | with_reducible refine noR_and (by repeat (first | exact noR_empty _ _ | exact noR_nilS _ _ | refine noR_mk _ _ _ _ _ rfl ?_ | refine noR_mkS _ _ _ _ _ rfl ?_)) ?_ | with_reducible refine noC_and (by repeat (first | exact noC_empty _ _ (by simp -failIfUnchanged only [↓RA, RB, RS, fx15, p1, p2, p3, p4, reduceIte, p5, p6, p7, p8]) | exact noC_nilS _ _ (by simp -failIfUnchanged only [↓RA, RB, RS, fx15, p1, p2, p3, p4, reduceIte, p5, p6, p7, p8]) | refine noC_mk _ _ _ _ _ rfl ?_ | refine noC_mkS _ _ _ _ _ rfl ?_)) ?_ | with_reducible refine and_ac ?_ | with_reducible refine And.intro (a := _ = List.range _) (by rfl) ?_)
            obtain ⟨v32, hv32, h⟩ := run_bind h
            refine CallH.mk [false, false] (impl_isPath_sat hv32) ?_ ?_ <;> simp -failIfUnchanged only [↓RA, RB, RS, fx15, p1, p2, p3, p4, reduceIte, p5, p6, p7, p8, c1, c2, c3, c4, c5]
            refine CondH.mk (fun c6 => ?_) (fun c6 => ?_)
            · replace h := run_t c6 h
              simp -failIfUnchanged only [↓RA, RB, RS, fx15, p1, p2, p3, p4, reduceIte, p5, p6, p7, p8, c1, c2, c3, c4, c5, c6]
              have h := run_some h
              obtain rfl : _ = r := h
              refine FinH.l ?_
              simp -failIfUnchanged only [↓RA, RB, RS, fx15, p1, p2, p3, p4, reduceIte, p5, p6, p7, p8, c1, c2, c3, c4, c5, c6]
            · replace h := run_f c6 h
              simp -failIfUnchanged only [↓RA, RB, RS, fx15, p1, p2, p3, p4, reduceIte, p5, p6, p7, p8, c1, c2, c3, c4, c5, c6]
              have h := run_some h
              obtain rfl : _ = r := h
              refine FinH.l ?_
              simp -failIfUnchanged only [↓RA, RB, RS, fx15, p1, p2, p3, p4, reduceIte, p5, p6, p7, p8, c1, c2, c3, c4, c5, c6]
    · replace h := run_f c2 h
      simp -failIfUnchanged only [↓RA, RB, RS, fx15, p1, p2, p3, p4, reduceIte, p5, p6, p7, p8, c1, c2]
      have h := run_some h
      obtain rfl : _ = r := h
      refine FinH.l ?_
      simp -failIfUnchanged only [↓RA, RB, RS, fx15, p1, p2, p3, p4, reduceIte, p5, p6, p7, p8, c1, c2]
  · replace h := run_f c1 h
    simp -failIfUnchanged only [↓RA, RB, RS, fx15, p1, p2, p3, p4, reduceIte, p5, p6, p7, p8, c1]
    have h := run_some h
    obtain rfl : _ = r := h
    refine FinH.l ?_
    simp -failIfUnchanged only [↓RA, RB, RS, fx15, p1, p2, p3, p4, reduceIte, p5, p6, p7, p8, c1]

def fx13 := And.intro @ty_3 <| And.intro @zc_3 <| And.intro @z_3 <| And.intro @ty_22 <| And.intro @zc_22 <| And.intro @z_22 <| And.intro @es_22 <| And.intro @eb_22 <| And.intro @sl_22 <| And.intro @is_22 <| And.intro @el_22 <| And.intro @ze_22 <| And.intro @ez_22 <| @mixedT
set_option maxHeartbeats 4000000 in
theorem eqIntS_sat {a0 : List Int} {a1 : List Int}  {r : Bool} (h : eqIntS a0 a1 = some r) : Sat Try.prog 13 [(.sl false 1 (a0.map I)), (.sl false 1 (a1.map I))] (B r) := by
  replace h := Run.of h
  unfold eqIntS at h
  refine Sat.of_m (nt := 26) (rs := [.tmp 4]) (n := 100000) Try.func13 rfl rfl rfl rfl (by simp) ?_
  simp -failIfUnchanged only [↓RA, RB, RS, fx13, p1, p2, p3, p4, reduceIte, p5, p6, p7, p8]
  refine CondH.mk (fun c1 => ?_) (fun c1 => ?_)
  · replace h := run_t c1 h
    simp -failIfUnchanged only [↓RA, RB, RS, fx13, p1, p2, p3, p4, reduceIte, p5, p6, p7, p8, c1]
    refine Mg.know_sl (b := false) (sz := 1) (es := a0.map I) 0 (by simp -failIfUnchanged only [↓RA, RB, RS, fx13, p1, p2, p3, p4, reduceIte, p5, p6, p7, p8, c1]) fun hl0 => ?_; rw [List.length_map] at hl0
    replace h := run_loop h
    refine Mg.forN h (fun i4 s4 => [(0, .val (.pv (.sl false 1 (a0.map I)))), (1, .val (.pv (.sl false 1 (a1.map I)))), (5, .val (.pv (I (i4 : Int))))]) (fun i4 s4 => []) (St.le_mk2 (by simp -failIfUnchanged only [↓RA, RB, RS, fx13, p1, p2, p3, p4, reduceIte, p5, p6, p7, p8, c1])) (fun i4 s4 hi h => ?_) (fun s4 h => ?_)
    · have w4 := wrap_succ (i := i4) (by omega)
      simp -failIfUnchanged only [↓RA, RB, RS, fx13, p1, p2, p3, p4, reduceIte, p5, p6, p7, p8, c1]
      refine CondH.tt (decide_eq_true (by omega)) (fun c2 => ?_)
      simp -failIfUnchanged only [↓RA, RB, RS, fx13, p1, p2, p3, p4, reduceIte, p5, p6, p7, p8, c1, c2]
      obtain ⟨v19, hv19, h⟩ := run_bind h
      refine IdxH.mk (f := I) hv19 ?_ ?_ <;> simp -failIfUnchanged only [↓RA, RB, RS, fx13, p1, p2, p3, p4, reduceIte, p5, p6, p7, p8, c1, c2]
      obtain ⟨v23, hv23, h⟩ := run_bind h
      refine IdxH.mk (f := I) hv23 ?_ ?_ <;> simp -failIfUnchanged only [↓RA, RB, RS, fx13, p1, p2, p3, p4, reduceIte, p5, p6, p7, p8, c1, c2]
      refine And.intro (DrawH.none (by rfl) (by first | rfl | (simp -failIfUnchanged only [↓RA, RB, RS, fx13, p1, p2, p3, p4, reduceIte, p5, p6, p7, p8] <;> rfl)) (by first | rfl | (simp -failIfUnchanged only [↓RA, RB, RS, fx13, p1, p2, p3, p4, reduceIte, p5, p6, p7, p8] <;> rfl)) (by first | rfl | (simp -failIfUnchanged only [↓RA, RB, RS, fx13, p1, p2, p3, p4, reduceIte, p5, p6, p7, p8] <;> rfl))) ?_
      simp -failIfUnchanged only [↓RA, RB, RS, fx13, p1, p2, p3, p4, reduceIte, p5, p6, p7, p8, c1, c2]
      refine CondH.mk (fun c3 => ?_) (fun c3 => ?_)
      · replace h := run_t c3 h
        simp -failIfUnchanged only [↓RA, RB, RS, fx13, p1, p2, p3, p4, reduceIte, p5, p6, p7, p8, c1, c2, c3]
        have h := run_some h
        refine RdH.mk ⟨_, h, ?_⟩
        refine St.le_mk2 ?_
        simp -failIfUnchanged only [↓RA, RB, RS, fx13, p1, p2, p3, p4, reduceIte, p5, p6, p7, p8, c1, c2, c3, w4]
      · replace h := run_f c3 h
        simp -failIfUnchanged only [↓RA, RB, RS, fx13, p1, p2, p3, p4, reduceIte, p5, p6, p7, p8, c1, c2, c3]
        have h := run_some h
        obtain rfl : _ = r := h
        refine FinH.l ?_
        simp -failIfUnchanged only [↓RA, RB, RS, fx13, p1, p2, p3, p4, reduceIte, p5, p6, p7, p8, c1, c2, c3]
    · simp -failIfUnchanged only [↓RA, RB, RS, fx13, p1, p2, p3, p4, reduceIte, p5, p6, p7, p8, c1]
      refine CondH.ff (decide_eq_false (by omega)) (fun c4 => ?_)
      simp -failIfUnchanged only [↓RA, RB, RS, fx13, p1, p2, p3, p4, reduceIte, p5, p6, p7, p8, c1, c4]
      have h := run_some h
      obtain rfl : _ = r := h
      refine FinH.l ?_
      simp -failIfUnchanged only [↓RA, RB, RS, fx13, p1, p2, p3, p4, reduceIte, p5, p6, p7, p8, c1, c4]
  · replace h := run_f c1 h
    simp -failIfUnchanged only [↓RA, RB, RS, fx13, p1, p2, p3, p4, reduceIte, p5, p6, p7, p8, c1]
    have h := run_some h
    obtain rfl : _ = r := h
    refine FinH.l ?_
    simp -failIfUnchanged only [↓RA, RB, RS, fx13, p1, p2, p3, p4, reduceIte, p5, p6, p7, p8, c1]

def fx86 := And.intro @ty_3 <| And.intro @zc_3 <| And.intro @z_3 <| And.intro @ty_4 <| And.intro @zc_4 <| And.intro @z_4 <| And.intro @u_4 <| And.intro @ty_55 <| And.intro @zc_55 <| And.intro @z_55 <| And.intro @fo_55_0 <| And.intro @fi_55_0 <| And.intro @ft_55_0 <| And.intro @fo_55_1 <| And.intro @fi_55_1 <| And.intro @ft_55_1 <| And.intro @fo_55_2 <| And.intro @fi_55_2 <| And.intro @ft_55_2 <| @lay_55
set_option maxHeartbeats 4000000 in
theorem eqSizeEdge_sat {a0 : SizeEdge} {a1 : SizeEdge}  {r : Bool} (h : eqSizeEdge a0 a1 = some r) : Sat Try.prog 86 [((SizeEdge.pv false) a0), ((SizeEdge.pv false) a1)] (B r) := by
  replace h := Run.of h
  unfold eqSizeEdge at h
  refine Sat.of_m (nt := 20) (rs := [.tmp 4]) (n := 100000) Try.func86 rfl rfl rfl rfl (by simp) ?_
  simp -failIfUnchanged only [↓RA, RB, RS, fx86, p1, p2, p3, p4, reduceIte, p5, p6, p7, p8]
  repeat (first | with_reducible refine noR_and (by repeat (first | exact noR_empty _ _ | exact noR_nilS _ _ | refine noR_mk _ _ _ _ _ rfl ?_ | refine noR_mkS _ _ _ _ _ rfl ?_)) ?_ | with_reducible refine noC_and (by repeat (first | exact noC_empty _ _ (by simp -failIfUnchanged only [↓RA, RB, RS, fx86, p1, p2, p3, p4, reduceIte, p5, p6, p7, p8]) | exact noC_nilS _ _ (by simp -failIfUnchanged only [↓RA, RB, RS, fx86, p1, p2, p3, p4, reduceIte, p5, p6, p7, p8]) | refine noC_mk _ _ _ _ _ rfl ?_ | refine noC_mkS _ _ _ _ _ rfl ?_)) ?_ | with_reducible refine and_ac ?_ | with_reducible refine And.intro (a := _ = List.range _) (by rfl) ?_)
  refine CondH.mk (fun c1 => ?_) (fun c1 => ?_)
  · replace h := run_t c1 h
    simp -failIfUnchanged only [↓RA, RB, RS, fx86, p1, p2, p3, p4, reduceIte, p5, p6, p7, p8, c1]
    refine CondH.mk (fun c2 => ?_) (fun c2 => ?_)
    · replace h := run_t c2 h
      simp -failIfUnchanged only [↓RA, RB, RS, fx86, p1, p2, p3, p4, reduceIte, p5, p6, p7, p8, c1, c2]
      refine CondH.mk (fun c3 => ?_) (fun c3 => ?_)
      · replace h := run_t c3 h
        simp -failIfUnchanged only [↓RA, RB, RS, fx86, p1, p2, p3, p4, reduceIte, p5, p6, p7, p8, c1, c2, c3]
        have h := run_some h
        obtain rfl : _ = r := h
        refine FinH.l ?_
        simp -failIfUnchanged only [↓RA, RB, RS, fx86, p1, p2, p3, p4, reduceIte, p5, p6, p7, p8, c1, c2, c3]
      · replace h := run_f c3 h
        simp -failIfUnchanged only [↓RA, RB, RS, fx86, p1, p2, p3, p4, reduceIte, p5, p6, p7, p8, c1, c2, c3]
        have h := run_some h
        obtain rfl : _ = r := h
        refine FinH.l ?_
        simp -failIfUnchanged only [↓RA, RB, RS, fx86, p1, p2, p3, p4, reduceIte, p5, p6, p7, p8, c1, c2, c3]
    · replace h := run_f c2 h
      simp -failIfUnchanged only [↓RA, RB, RS, fx86, p1, p2, p3, p4, reduceIte, p5, p6, p7, p8, c1, c2]
      have h := run_some h
      obtain rfl : _ = r := h
      refine FinH.l ?_
      simp -failIfUnchanged only [↓RA, RB, RS, fx86, p1, p2, p3, p4, reduceIte, p5, p6, p7, p8, c1, c2]
  · replace h := run_f c1 h
    simp -failIfUnchanged only [↓RA, RB, RS, fx86, p1, p2, p3, p4, reduceIte, p5, p6, p7, p8, c1]
    have h := run_some h
    obtain rfl : _ = r := h
    refine FinH.l ?_
    simp -failIfUnchanged only [↓RA, RB, RS, fx86, p1, p2, p3, p4, reduceIte, p5, p6, p7, p8, c1]

def fx72 := And.intro @ty_3 <| And.intro @zc_3 <| And.intro @z_3 <| And.intro @ty_4 <| And.intro @zc_4 <| And.intro @z_4 <| And.intro @u_4 <| And.intro @ty_51 <| And.intro @zc_51 <| And.intro @z_51 <| And.intro @es_51 <| And.intro @eb_51 <| And.intro @sl_51 <| And.intro @is_51 <| And.intro @el_51 <| And.intro @ze_51 <| And.intro @ez_51 <| And.intro @ty_55 <| And.intro @zc_55 <| And.intro @z_55 <| And.intro @fo_55_0 <| And.intro @fi_55_0 <| And.intro @ft_55_0 <| And.intro @fo_55_1 <| And.intro @fi_55_1 <| And.intro @ft_55_1 <| And.intro @fo_55_2 <| And.intro @fi_55_2 <| And.intro @ft_55_2 <| And.intro @lay_55 <| @mixedT
set_option maxHeartbeats 4000000 in
theorem eqSizeEdgeS_sat {a0 : List SizeEdge} {a1 : List SizeEdge}  {r : Bool} (h : eqSizeEdgeS a0 a1 = some r) : Sat Try.prog 72 [(.sl false 3 (a0.map (SizeEdge.pv false))), (.sl false 3 (a1.map (SizeEdge.pv false)))] (B r) := by
  replace h := Run.of h
  unfold eqSizeEdgeS at h
  refine Sat.of_m (nt := 27) (rs := [.tmp 4]) (n := 100000) Try.func72 rfl rfl rfl rfl (by simp) ?_
  simp -failIfUnchanged only [↓RA, RB, RS, fx72, p1, p2, p3, p4, reduceIte, p5, p6, p7, p8]
  refine CondH.mk (fun c1 => ?_) (fun c1 => ?_)
  · replace h := run_t c1 h
    simp -failIfUnchanged only [↓RA, RB, RS, fx72, p1, p2, p3, p4, reduceIte, p5, p6, p7, p8, c1]
    refine Mg.know_sl (b := false) (sz := 3) (es := a0.map (SizeEdge.pv false)) 0 (by simp -failIfUnchanged only [↓RA, RB, RS, fx72, p1, p2, p3, p4, reduceIte, p5, p6, p7, p8, c1]) fun hl0 => ?_; rw [List.length_map] at hl0
    replace h := run_loop h
    refine Mg.forN h (fun i4 s4 => [(0, .val (.pv (.sl false 3 (a0.map (SizeEdge.pv false))))), (1, .val (.pv (.sl false 3 (a1.map (SizeEdge.pv false))))), (5, .val (.pv (I (i4 : Int))))]) (fun i4 s4 => []) (St.le_mk2 (by simp -failIfUnchanged only [↓RA, RB, RS, fx72, p1, p2, p3, p4, reduceIte, p5, p6, p7, p8, c1])) (fun i4 s4 hi h => ?_) (fun s4 h => ?_)
    · have w4 := wrap_succ (i := i4) (by omega)
      simp -failIfUnchanged only [↓RA, RB, RS, fx72, p1, p2, p3, p4, reduceIte, p5, p6, p7, p8, c1]
      refine CondH.tt (decide_eq_true (by omega)) (fun c2 => ?_)
      simp -failIfUnchanged only [↓RA, RB, RS, fx72, p1, p2, p3, p4, reduceIte, p5, p6, p7, p8, c1, c2]
      obtain ⟨v19, hv19, h⟩ := run_bind h
      refine IdxH.mk (f := (SizeEdge.pv false)) hv19 ?_ ?_ <;> simp -failIfUnchanged only [↓RA, RB, RS, fx72, p1, p2, p3, p4, reduceIte, p5, p6, p7, p8, c1, c2]
      obtain ⟨v23, hv23, h⟩ := run_bind h
      refine IdxH.mk (f := (SizeEdge.pv false)) hv23 ?_ ?_ <;> simp -failIfUnchanged only [↓RA, RB, RS, fx72, p1, p2, p3, p4, reduceIte, p5, p6, p7, p8, c1, c2]
      obtain ⟨v25, hv25, h⟩ := run_bind h
      refine CallH.mk [false, false] (eqSizeEdge_sat hv25) ?_ ?_ <;> simp -failIfUnchanged only [↓RA, RB, RS, fx72, p1, p2, p3, p4, reduceIte, p5, p6, p7, p8, c1, c2]
      refine And.intro (DrawH.none (by rfl) (by first | rfl | (simp -failIfUnchanged only [↓RA, RB, RS, fx72, p1, p2, p3, p4, reduceIte, p5, p6, p7, p8] <;> rfl)) (by first | rfl | (simp -failIfUnchanged only [↓RA, RB, RS, fx72, p1, p2, p3, p4, reduceIte, p5, p6, p7, p8] <;> rfl)) (by first | rfl | (simp -failIfUnchanged only [↓RA, RB, RS, fx72, p1, p2, p3, p4, reduceIte, p5, p6, p7, p8] <;> rfl))) ?_
      simp -failIfUnchanged only [↓RA, RB, RS, fx72, p1, p2, p3, p4, reduceIte, p5, p6, p7, p8, c1, c2]
      refine CondH.mk (fun c3 => ?_) (fun c3 => ?_)
      · replace h := run_t c3 h
        simp -failIfUnchanged only [↓RA, RB, RS, fx72, p1, p2, p3, p4, reduceIte, p5, p6, p7, p8, c1, c2, c3]
        have h := run_some h
        refine RdH.mk ⟨_, h, ?_⟩
        refine St.le_mk2 ?_
        simp -failIfUnchanged only [↓RA, RB, RS, fx72, p1, p2, p3, p4, reduceIte, p5, p6, p7, p8, c1, c2, c3, w4]
      · replace h := run_f c3 h
        simp -failIfUnchanged only [↓RA, RB, RS, fx72, p1, p2, p3, p4, reduceIte, p5, p6, p7, p8, c1, c2, c3]
        have h := run_some h
        obtain rfl : _ = r := h
        refine FinH.l ?_
        simp -failIfUnchanged only [↓RA, RB, RS, fx72, p1, p2, p3, p4, reduceIte, p5, p6, p7, p8, c1, c2, c3]
    · simp -failIfUnchanged only [↓RA, RB, RS, fx72, p1, p2, p3, p4, reduceIte, p5, p6, p7, p8, c1]
      refine CondH.ff (decide_eq_false (by omega)) (fun c4 => ?_)
      simp -failIfUnchanged only [↓RA, RB, RS, fx72, p1, p2, p3, p4, reduceIte, p5, p6, p7, p8, c1, c4]
      have h := run_some h
      obtain rfl : _ = r := h
      refine FinH.l ?_
      simp -failIfUnchanged only [↓RA, RB, RS, fx72, p1, p2, p3, p4, reduceIte, p5, p6, p7, p8, c1, c4]
  · replace h := run_f c1 h
    simp -failIfUnchanged only [↓RA, RB, RS, fx72, p1, p2, p3, p4, reduceIte, p5, p6, p7, p8, c1]
    have h := run_some h
    obtain rfl : _ = r := h
    refine FinH.l ?_
    simp -failIfUnchanged only [↓RA, RB, RS, fx72, p1, p2, p3, p4, reduceIte, p5, p6, p7, p8, c1]

def fx44 := And.intro @ty_3 <| And.intro @zc_3 <| And.intro @z_3 <| And.intro @ty_4 <| And.intro @zc_4 <| And.intro @z_4 <| And.intro @u_4 <| And.intro @ty_51 <| And.intro @zc_51 <| And.intro @z_51 <| And.intro @es_51 <| And.intro @eb_51 <| And.intro @sl_51 <| And.intro @is_51 <| And.intro @el_51 <| And.intro @ze_51 <| And.intro @ez_51 <| And.intro @ty_53 <| And.intro @zc_53 <| And.intro @z_53 <| And.intro @fo_53_0 <| And.intro @fi_53_0 <| And.intro @ft_53_0 <| And.intro @fo_53_1 <| And.intro @fi_53_1 <| And.intro @ft_53_1 <| And.intro @fo_53_2 <| And.intro @fi_53_2 <| And.intro @ft_53_2 <| @lay_53
set_option maxHeartbeats 4000000 in
theorem eqSizeGraph_sat {a0 : SizeGraph} {a1 : SizeGraph}  {r : Bool} (h : eqSizeGraph a0 a1 = some r) : Sat Try.prog 44 [((SizeGraph.pv false) a0), ((SizeGraph.pv false) a1)] (B r) := by
  replace h := Run.of h
  unfold eqSizeGraph at h
  refine Sat.of_m (nt := 21) (rs := [.tmp 4]) (n := 100000) Try.func44 rfl rfl rfl rfl (by simp) ?_
  simp -failIfUnchanged only [↓RA, RB, RS, fx44, p1, p2, p3, p4, reduceIte, p5, p6, p7, p8]
  repeat (first | with_reducible refine noR_and (by repeat (first | exact noR_empty _ _ | exact noR_nilS _ _ | refine noR_mk _ _ _ _ _ rfl ?_ | refine noR_mkS _ _ _ _ _ rfl ?_)) ?_ | with_reducible refine noC_and (by repeat (first | exact noC_empty _ _ (by simp -failIfUnchanged only [↓RA, RB, RS, fx44, p1, p2, p3, p4, reduceIte, p5, p6, p7, p8]) | exact noC_nilS _ _ (by simp -failIfUnchanged only [↓RA, RB, RS, fx44, p1, p2, p3, p4, reduceIte, p5, p6, p7, p8]) | refine noC_mk _ _ _ _ _ rfl ?_ | refine noC_mkS _ _ _ _ _ rfl ?_)) ?_ | with_reducible refine and_ac ?_ | with_reducible refine And.intro (a := _ = List.range _) (by rfl) ?_)
  refine CondH.mk (fun c1 => ?_) (fun c1 => ?_)
  · replace h := run_t c1 h
    simp -failIfUnchanged only [↓RA, RB, RS, fx44, p1, p2, p3, p4, reduceIte, p5, p6, p7, p8, c1]
    refine CondH.mk (fun c2 => ?_) (fun c2 => ?_)
    · replace h := run_t c2 h
      simp -failIfUnchanged only [↓RA, RB, RS, fx44, p1, p2, p3, p4, reduceIte, p5, p6, p7, p8, c1, c2]
      obtain ⟨v19, hv19, h⟩ := run_bind h
      refine CallH.mk [false, false] (eqSizeEdgeS_sat hv19) ?_ ?_ <;> simp -failIfUnchanged only [↓RA, RB, RS, fx44, p1, p2, p3, p4, reduceIte, p5, p6, p7, p8, c1, c2]
      refine CondH.mk (fun c3 => ?_) (fun c3 => ?_)
      · replace h := run_t c3 h
        simp -failIfUnchanged only [↓RA, RB, RS, fx44, p1, p2, p3, p4, reduceIte, p5, p6, p7, p8, c1, c2, c3]
        have h := run_some h
        obtain rfl : _ = r := h
        refine FinH.l ?_
        simp -failIfUnchanged only [↓RA, RB, RS, fx44, p1, p2, p3, p4, reduceIte, p5, p6, p7, p8, c1, c2, c3]
      · replace h := run_f c3 h
        simp -failIfUnchanged only [↓RA, RB, RS, fx44, p1, p2, p3, p4, reduceIte, p5, p6, p7, p8, c1, c2, c3]
        have h := run_some h
        obtain rfl : _ = r := h
        refine FinH.l ?_
        simp -failIfUnchanged only [↓RA, RB, RS, fx44, p1, p2, p3, p4, reduceIte, p5, p6, p7, p8, c1, c2, c3]
    · replace h := run_f c2 h
      simp -failIfUnchanged only [↓RA, RB, RS, fx44, p1, p2, p3, p4, reduceIte, p5, p6, p7, p8, c1, c2]
      have h := run_some h
      obtain rfl : _ = r := h
      refine FinH.l ?_
      simp -failIfUnchanged only [↓RA, RB, RS, fx44, p1, p2, p3, p4, reduceIte, p5, p6, p7, p8, c1, c2]
  · replace h := run_f c1 h
    simp -failIfUnchanged only [↓RA, RB, RS, fx44, p1, p2, p3, p4, reduceIte, p5, p6, p7, p8, c1]
    have h := run_some h
    obtain rfl : _ = r := h
    refine FinH.l ?_
    simp -failIfUnchanged only [↓RA, RB, RS, fx44, p1, p2, p3, p4, reduceIte, p5, p6, p7, p8, c1]

def fx23 := And.intro @ty_3 <| And.intro @zc_3 <| And.intro @z_3 <| And.intro @ty_4 <| And.intro @zc_4 <| And.intro @z_4 <| And.intro @u_4 <| And.intro @ty_29 <| And.intro @zc_29 <| And.intro @z_29 <| And.intro @es_29 <| And.intro @eb_29 <| And.intro @sl_29 <| And.intro @is_29 <| And.intro @el_29 <| And.intro @ze_29 <| And.intro @ez_29 <| And.intro @ty_53 <| And.intro @zc_53 <| And.intro @z_53 <| And.intro @fo_53_0 <| And.intro @fi_53_0 <| And.intro @ft_53_0 <| And.intro @fo_53_1 <| And.intro @fi_53_1 <| And.intro @ft_53_1 <| And.intro @fo_53_2 <| And.intro @fi_53_2 <| And.intro @ft_53_2 <| And.intro @lay_53 <| @mixedT
set_option maxHeartbeats 4000000 in
theorem eqSizeGraphS_sat {a0 : List SizeGraph} {a1 : List SizeGraph}  {r : Bool} (h : eqSizeGraphS a0 a1 = some r) : Sat Try.prog 23 [(.sl false 3 (a0.map (SizeGraph.pv false))), (.sl false 3 (a1.map (SizeGraph.pv false)))] (B r) := by
  replace h := Run.of h
  unfold eqSizeGraphS at h
  refine Sat.of_m (nt := 27) (rs := [.tmp 4]) (n := 100000) Try.func23 rfl rfl rfl rfl (by simp) ?_
  simp -failIfUnchanged only [↓RA, RB, RS, fx23, p1, p2, p3, p4, reduceIte, p5, p6, p7, p8]
  refine CondH.mk (fun c1 => ?_) (fun c1 => ?_)
  · replace h := run_t c1 h
    simp -failIfUnchanged only [↓RA, RB, RS, fx23, p1, p2, p3, p4, reduceIte, p5, p6, p7, p8, c1]
    refine Mg.know_sl (b := false) (sz := 3) (es := a0.map (SizeGraph.pv false)) 0 (by simp -failIfUnchanged only [↓RA, RB, RS, fx23, p1, p2, p3, p4, reduceIte, p5, p6, p7, p8, c1]) fun hl0 => ?_; rw [List.length_map] at hl0
    replace h := run_loop h
    refine Mg.forN h (fun i4 s4 => [(0, .val (.pv (.sl false 3 (a0.map (SizeGraph.pv false))))), (1, .val (.pv (.sl false 3 (a1.map (SizeGraph.pv false))))), (5, .val (.pv (I (i4 : Int))))]) (fun i4 s4 => []) (St.le_mk2 (by simp -failIfUnchanged only [↓RA, RB, RS, fx23, p1, p2, p3, p4, reduceIte, p5, p6, p7, p8, c1])) (fun i4 s4 hi h => ?_) (fun s4 h => ?_)
    · have w4 := wrap_succ (i := i4) (by omega)
      simp -failIfUnchanged only [↓RA, RB, RS, fx23, p1, p2, p3, p4, reduceIte, p5, p6, p7, p8, c1]
      refine CondH.tt (decide_eq_true (by omega)) (fun c2 => ?_)
      simp -failIfUnchanged only [↓RA, RB, RS, fx23, p1, p2, p3, p4, reduceIte, p5, p6, p7, p8, c1, c2]
      obtain ⟨v19, hv19, h⟩ := run_bind h
      refine IdxH.mk (f := (SizeGraph.pv false)) hv19 ?_ ?_ <;> simp -failIfUnchanged only [↓RA, RB, RS, fx23, p1, p2, p3, p4, reduceIte, p5, p6, p7, p8, c1, c2]
      obtain ⟨v23, hv23, h⟩ := run_bind h
      refine IdxH.mk (f := (SizeGraph.pv false)) hv23 ?_ ?_ <;> simp -failIfUnchanged only [↓RA, RB, RS, fx23, p1, p2, p3, p4, reduceIte, p5, p6, p7, p8, c1, c2]
      obtain ⟨v25, hv25, h⟩ := run_bind h
      refine CallH.mk [false, false] (eqSizeGraph_sat hv25) ?_ ?_ <;> simp -failIfUnchanged only [↓RA, RB, RS, fx23, p1, p2, p3, p4, reduceIte, p5, p6, p7, p8, c1, c2]
      refine And.intro (DrawH.none (by rfl) (by first | rfl | (simp -failIfUnchanged only [↓RA, RB, RS, fx23, p1, p2, p3, p4, reduceIte, p5, p6, p7, p8] <;> rfl)) (by first | rfl | (simp -failIfUnchanged only [↓RA, RB, RS, fx23, p1, p2, p3, p4, reduceIte, p5, p6, p7, p8] <;> rfl)) (by first | rfl | (simp -failIfUnchanged only [↓RA, RB, RS, fx23, p1, p2, p3, p4, reduceIte, p5, p6, p7, p8] <;> rfl))) ?_
      simp -failIfUnchanged only [↓RA, RB, RS, fx23, p1, p2, p3, p4, reduceIte, p5, p6, p7, p8, c1, c2]
      refine CondH.mk (fun c3 => ?_) (fun c3 => ?_)
      · replace h := run_t c3 h
        simp -failIfUnchanged only [↓RA, RB, RS, fx23, p1, p2, p3, p4, reduceIte, p5, p6, p7, p8, c1, c2, c3]
        have h := run_some h
        refine RdH.mk ⟨_, h, ?_⟩
        refine St.le_mk2 ?_
        simp -failIfUnchanged only [↓RA, RB, RS, fx23, p1, p2, p3, p4, reduceIte, p5, p6, p7, p8, c1, c2, c3, w4]
      · replace h := run_f c3 h
        simp -failIfUnchanged only [↓RA, RB, RS, fx23, p1, p2, p3, p4, reduceIte, p5, p6, p7, p8, c1, c2, c3]
        have h := run_some h
        obtain rfl : _ = r := h
        refine FinH.l ?_
        simp -failIfUnchanged only [↓RA, RB, RS, fx23, p1, p2, p3, p4, reduceIte, p5, p6, p7, p8, c1, c2, c3]
    · simp -failIfUnchanged only [↓RA, RB, RS, fx23, p1, p2, p3, p4, reduceIte, p5, p6, p7, p8, c1]
      refine CondH.ff (decide_eq_false (by omega)) (fun c4 => ?_)
      simp -failIfUnchanged only [↓RA, RB, RS, fx23, p1, p2, p3, p4, reduceIte, p5, p6, p7, p8, c1, c4]
      have h := run_some h
      obtain rfl : _ = r := h
      refine FinH.l ?_
      simp -failIfUnchanged only [↓RA, RB, RS, fx23, p1, p2, p3, p4, reduceIte, p5, p6, p7, p8, c1, c4]
  · replace h := run_f c1 h
    simp -failIfUnchanged only [↓RA, RB, RS, fx23, p1, p2, p3, p4, reduceIte, p5, p6, p7, p8, c1]
    have h := run_some h
    obtain rfl : _ = r := h
    refine FinH.l ?_
    simp -failIfUnchanged only [↓RA, RB, RS, fx23, p1, p2, p3, p4, reduceIte, p5, p6, p7, p8, c1]

def fx12 := And.intro @ty_4 <| And.intro @zc_4 <| And.intro @z_4 <| And.intro @u_4 <| And.intro @ty_22 <| And.intro @zc_22 <| And.intro @z_22 <| And.intro @es_22 <| And.intro @eb_22 <| And.intro @sl_22 <| And.intro @is_22 <| And.intro @el_22 <| And.intro @ze_22 <| And.intro @ez_22 <| And.intro @ty_29 <| And.intro @zc_29 <| And.intro @z_29 <| And.intro @es_29 <| And.intro @eb_29 <| And.intro @sl_29 <| And.intro @is_29 <| And.intro @el_29 <| And.intro @ze_29 <| And.intro @ez_29 <| And.intro @ty_31 <| And.intro @zc_31 <| And.intro @z_31 <| And.intro @fo_31_0 <| And.intro @fi_31_0 <| And.intro @ft_31_0 <| And.intro @fo_31_1 <| And.intro @fi_31_1 <| And.intro @ft_31_1 <| @lay_31
set_option maxHeartbeats 4000000 in
theorem eqCyclicProof_sat {a0 : CyclicProof} {a1 : CyclicProof}  {r : Bool} (h : eqCyclicProof a0 a1 = some r) : Sat Try.prog 12 [((CyclicProof.pv false) a0), ((CyclicProof.pv false) a1)] (B r) := by
  replace h := Run.of h
  unfold eqCyclicProof at h
  refine Sat.of_m (nt := 17) (rs := [.tmp 4]) (n := 100000) Try.func12 rfl rfl rfl rfl (by simp) ?_
  simp -failIfUnchanged only [↓RA, RB, RS, fx12, p1, p2, p3, p4, reduceIte, p5, p6, p7, p8]
  repeat (first | with_reducible refine noR_and (by repeat (first | exact noR_empty _ _ | exact noR_nilS _ _ | refine noR_mk _ _ _ _ _ rfl ?_ | refine noR_mkS _ _ _ _ _ rfl ?_)) ?_ | with_reducible refine noC_and (by repeat (first | exact noC_empty _ _ (by simp -failIfUnchanged only [↓RA, RB, RS, fx12, p1, p2, p3, p4, reduceIte, p5, p6, p7, p8]) | exact noC_nilS _ _ (by simp -failIfUnchanged only [↓RA, RB, RS, fx12, p1, p2, p3, p4, reduceIte, p5, p6, p7, p8]) | refine noC_mk _ _ _ _ _ rfl ?_ | refine noC_mkS _ _ _ _ _ rfl ?_)) ?_ | with_reducible refine and_ac ?_ | with_reducible refine And.intro (a := _ = List.range _) (by rfl) ?_)
  obtain ⟨v9, hv9, h⟩ := run_bind h
  refine CallH.mk [false, false] (eqIntS_sat hv9) ?_ ?_ <;> simp -failIfUnchanged only [↓RA, RB, RS, fx12, p1, p2, p3, p4, reduceIte, p5, p6, p7, p8]
  refine CondH.mk (fun c1 => ?_) (fun c1 => ?_)
  · replace h := run_t c1 h
    simp -failIfUnchanged only [↓RA, RB, RS, fx12, p1, p2, p3, p4, reduceIte, p5, p6, p7, p8, c1]
    obtain ⟨v15, hv15, h⟩ := run_bind h
    refine CallH.mk [false, false] (eqSizeGraphS_sat hv15) ?_ ?_ <;> simp -failIfUnchanged only [↓RA, RB, RS, fx12, p1, p2, p3, p4, reduceIte, p5, p6, p7, p8, c1]
    refine CondH.mk (fun c2 => ?_) (fun c2 => ?_)
    · replace h := run_t c2 h
      simp -failIfUnchanged only [↓RA, RB, RS, fx12, p1, p2, p3, p4, reduceIte, p5, p6, p7, p8, c1, c2]
      have h := run_some h
      obtain rfl : _ = r := h
      refine FinH.l ?_
      simp -failIfUnchanged only [↓RA, RB, RS, fx12, p1, p2, p3, p4, reduceIte, p5, p6, p7, p8, c1, c2]
    · replace h := run_f c2 h
      simp -failIfUnchanged only [↓RA, RB, RS, fx12, p1, p2, p3, p4, reduceIte, p5, p6, p7, p8, c1, c2]
      have h := run_some h
      obtain rfl : _ = r := h
      refine FinH.l ?_
      simp -failIfUnchanged only [↓RA, RB, RS, fx12, p1, p2, p3, p4, reduceIte, p5, p6, p7, p8, c1, c2]
  · replace h := run_f c1 h
    simp -failIfUnchanged only [↓RA, RB, RS, fx12, p1, p2, p3, p4, reduceIte, p5, p6, p7, p8, c1]
    have h := run_some h
    obtain rfl : _ = r := h
    refine FinH.l ?_
    simp -failIfUnchanged only [↓RA, RB, RS, fx12, p1, p2, p3, p4, reduceIte, p5, p6, p7, p8, c1]

def fx17 := And.intro @ty_3 <| And.intro @zc_3 <| And.intro @z_3 <| And.intro @ty_22 <| And.intro @zc_22 <| And.intro @z_22 <| And.intro @es_22 <| And.intro @eb_22 <| And.intro @sl_22 <| And.intro @is_22 <| And.intro @el_22 <| And.intro @ze_22 <| @ez_22
set_option maxHeartbeats 4000000 in
theorem markIntS_sat {a0 : List Int} {a1 : Int}  {r : Int × (List Int)} (h : markIntS a0 a1 = some r) : SatIO Try.prog 17 [(.sl true 1 (a0.map I)), (I a1)] [(.sl true 1 (r.2.map I)), (I a1)] (I r.1) := by
  replace h := Run.of h
  unfold markIntS at h
  refine SatIO.of_m (nt := 19) (rs := [.tmp 4]) (n := 100000) Try.func17 rfl rfl rfl rfl (by simp) ?_
  simp -failIfUnchanged only [↓RA, ↓RI, RB, RJ, RS, fx17, p1, p2, p3, p4, reduceIte, p5, p6, p7, p8]
  replace h := run_loop h
  refine Mg.whileN h (fun s2 => [(0, .val (.own 10000)), (1, .val (.pv (I s2.2.1))), (5, .val (.pv (I s2.2.2)))]) (fun s2 => [(10000, (1, s2.1.map I))]) (St.le_mk2 (by simp -failIfUnchanged only [↓RA, ↓RI, RB, RJ, RS, fx17, p1, p2, p3, p4, reduceIte, p5, p6, p7, p8])) (fun n2 s2 h => ?_)
  simp -failIfUnchanged only [↓RA, ↓RI, RB, RJ, RS, fx17, p1, p2, p3, p4, reduceIte, p5, p6, p7, p8]
  refine CondH.mk (fun c1 => ?_) (fun c1 => ?_)
  · replace h := run_t c1 h
    simp -failIfUnchanged only [↓RA, ↓RI, RB, RJ, RS, fx17, p1, p2, p3, p4, reduceIte, p5, p6, p7, p8, c1]
    obtain ⟨v15, hv15, h⟩ := run_bind h
    refine IdxH.mk (f := I) hv15 ?_ ?_ <;> simp -failIfUnchanged only [↓RA, ↓RI, RB, RJ, RS, fx17, p1, p2, p3, p4, reduceIte, p5, p6, p7, p8, c1]
    obtain ⟨w2, hw2, h⟩ := run_bind h
    refine EldH.mk (f := I) hw2 rfl ?_ ?_ <;> simp -failIfUnchanged only [↓RA, ↓RI, RB, RJ, RS, fx17, p1, p2, p3, p4, reduceIte, p5, p6, p7, p8, c1]
    have h := run_some h
    refine RdH.mk ⟨_, h, ?_⟩
    refine St.le_mk2 ?_
    simp -failIfUnchanged only [↓RA, ↓RI, RB, RJ, RS, fx17, p1, p2, p3, p4, reduceIte, p5, p6, p7, p8, c1]
  · replace h := run_f c1 h
    simp -failIfUnchanged only [↓RA, ↓RI, RB, RJ, RS, fx17, p1, p2, p3, p4, reduceIte, p5, p6, p7, p8, c1]
    have h := run_some h
    have h := run_some h
    obtain rfl : _ = r := h
    refine FinIO.mk ?_
    simp -failIfUnchanged only [↓RA, ↓RI, RB, RJ, RS, fx17, p1, p2, p3, p4, reduceIte, p5, p6, p7, p8, c1]

def fx45 := And.intro @ty_3 <| And.intro @zc_3 <| And.intro @z_3 <| And.intro @ty_4 <| And.intro @zc_4 <| And.intro @z_4 <| And.intro @u_4 <| And.intro @ty_51 <| And.intro @zc_51 <| And.intro @z_51 <| And.intro @es_51 <| And.intro @eb_51 <| And.intro @sl_51 <| And.intro @is_51 <| And.intro @el_51 <| And.intro @ze_51 <| And.intro @ez_51 <| And.intro @ty_55 <| And.intro @zc_55 <| And.intro @z_55 <| And.intro @fo_55_0 <| And.intro @fi_55_0 <| And.intro @ft_55_0 <| And.intro @fo_55_1 <| And.intro @fi_55_1 <| And.intro @ft_55_1 <| And.intro @fo_55_2 <| And.intro @fi_55_2 <| And.intro @ft_55_2 <| @lay_55
set_option maxHeartbeats 4000000 in
theorem markSizeEdgeS_sat {a0 : List SizeEdge} {a1 : Int}  {r : Int × (List SizeEdge)} (h : markSizeEdgeS a0 a1 = some r) : SatIO Try.prog 45 [(.sl true 3 (a0.map (SizeEdge.pv false))), (I a1)] [(.sl true 3 (r.2.map (SizeEdge.pv false))), (I a1)] (I r.1) := by
  replace h := Run.of h
  unfold markSizeEdgeS at h
  refine SatIO.of_m (nt := 36) (rs := [.tmp 4]) (n := 100000) Try.func45 rfl rfl rfl rfl (by simp) ?_
  simp -failIfUnchanged only [↓RA, ↓RI, RB, RJ, RS, fx45, p1, p2, p3, p4, reduceIte, p5, p6, p7, p8]
  replace h := run_loop h
  refine Mg.whileN h (fun s2 => [(0, .val (.own 10000)), (1, .val (.pv (I s2.2.1))), (5, .val (.pv (I s2.2.2)))]) (fun s2 => [(10000, (3, s2.1.map (SizeEdge.pv false)))]) (St.le_mk2 (by simp -failIfUnchanged only [↓RA, ↓RI, RB, RJ, RS, fx45, p1, p2, p3, p4, reduceIte, p5, p6, p7, p8])) (fun n2 s2 h => ?_)
  simp -failIfUnchanged only [↓RA, ↓RI, RB, RJ, RS, fx45, p1, p2, p3, p4, reduceIte, p5, p6, p7, p8]
  refine CondH.mk (fun c1 => ?_) (fun c1 => ?_)
  · replace h := run_t c1 h
    simp -failIfUnchanged only [↓RA, ↓RI, RB, RJ, RS, fx45, p1, p2, p3, p4, reduceIte, p5, p6, p7, p8, c1]
    obtain ⟨v15, hv15, h⟩ := run_bind h
    refine IdxH.mk (f := (SizeEdge.pv false)) hv15 ?_ ?_ <;> simp -failIfUnchanged only [↓RA, ↓RI, RB, RJ, RS, fx45, p1, p2, p3, p4, reduceIte, p5, p6, p7, p8, c1]
    obtain ⟨w2, hw2, h⟩ := run_bind h
    refine EldH.mk (f := (SizeEdge.pv false)) hw2 rfl ?_ ?_ <;> simp -failIfUnchanged only [↓RA, ↓RI, RB, RJ, RS, fx45, p1, p2, p3, p4, reduceIte, p5, p6, p7, p8, c1]
    obtain ⟨v22, hv22, h⟩ := run_bind h
    refine IdxH.mk (f := (SizeEdge.pv false)) hv22 ?_ ?_ <;> simp -failIfUnchanged only [↓RA, ↓RI, RB, RJ, RS, fx45, p1, p2, p3, p4, reduceIte, p5, p6, p7, p8, c1]
    obtain ⟨w3, hw3, h⟩ := run_bind h
    refine EldH.mk (f := (SizeEdge.pv false)) hw3 rfl ?_ ?_ <;> simp -failIfUnchanged only [↓RA, ↓RI, RB, RJ, RS, fx45, p1, p2, p3, p4, reduceIte, p5, p6, p7, p8, c1]
    obtain ⟨v29, hv29, h⟩ := run_bind h
    refine remH.mk hv29 ?_
    simp -failIfUnchanged only [↓RA, ↓RI, RB, RJ, RS, fx45, p1, p2, p3, p4, reduceIte, p5, p6, p7, p8, c1]
    obtain ⟨v31, hv31, h⟩ := run_bind h
    refine IdxH.mk (f := (SizeEdge.pv false)) hv31 ?_ ?_ <;> simp -failIfUnchanged only [↓RA, ↓RI, RB, RJ, RS, fx45, p1, p2, p3, p4, reduceIte, p5, p6, p7, p8, c1]
    obtain ⟨w4, hw4, h⟩ := run_bind h
    refine EldH.mk (f := (SizeEdge.pv false)) hw4 rfl ?_ ?_ <;> simp -failIfUnchanged only [↓RA, ↓RI, RB, RJ, RS, fx45, p1, p2, p3, p4, reduceIte, p5, p6, p7, p8, c1]
    have h := run_some h
    refine RdH.mk ⟨_, h, ?_⟩
    refine St.le_mk2 ?_
    simp -failIfUnchanged only [↓RA, ↓RI, RB, RJ, RS, fx45, p1, p2, p3, p4, reduceIte, p5, p6, p7, p8, c1]
  · replace h := run_f c1 h
    simp -failIfUnchanged only [↓RA, ↓RI, RB, RJ, RS, fx45, p1, p2, p3, p4, reduceIte, p5, p6, p7, p8, c1]
    have h := run_some h
    have h := run_some h
    obtain rfl : _ = r := h
    refine FinIO.mk ?_
    simp -failIfUnchanged only [↓RA, ↓RI, RB, RJ, RS, fx45, p1, p2, p3, p4, reduceIte, p5, p6, p7, p8, c1]

def fx24 := And.intro @ty_3 <| And.intro @zc_3 <| And.intro @z_3 <| And.intro @ty_29 <| And.intro @zc_29 <| And.intro @z_29 <| And.intro @es_29 <| And.intro @eb_29 <| And.intro @sl_29 <| And.intro @is_29 <| And.intro @el_29 <| And.intro @ze_29 <| And.intro @ez_29 <| And.intro @ty_51 <| And.intro @zc_51 <| And.intro @z_51 <| And.intro @es_51 <| And.intro @eb_51 <| And.intro @sl_51 <| And.intro @is_51 <| And.intro @el_51 <| And.intro @ze_51 <| And.intro @ez_51 <| And.intro @ty_53 <| And.intro @zc_53 <| And.intro @z_53 <| And.intro @fo_53_0 <| And.intro @fi_53_0 <| And.intro @ft_53_0 <| And.intro @fo_53_1 <| And.intro @fi_53_1 <| And.intro @ft_53_1 <| And.intro @fo_53_2 <| And.intro @fi_53_2 <| And.intro @ft_53_2 <| @lay_53
set_option maxHeartbeats 4000000 in
theorem markSizeGraphS_sat {a0 : List SizeGraph} {a1 : Int}  {r : Int × (List SizeGraph)} (h : markSizeGraphS a0 a1 = some r) : SatIO Try.prog 24 [(.sl true 3 (a0.map (SizeGraph.pv true))), (I a1)] [(.sl true 3 (r.2.map (SizeGraph.pv true))), (I a1)] (I r.1) := by
  replace h := Run.of h
  unfold markSizeGraphS at h
  refine SatIO.of_mi (nt := 34) (rs := [.tmp 4]) (n := 100000) Try.func24 rfl rfl rfl rfl (by simp) ?_
  simp -failIfUnchanged only [↓RA, ↓RI, RB, RJ, RS, fx24, p1, p2, p3, p4, reduceIte, p5, p6, p7, p8]
  refine VSeq.step ?_
  simp -failIfUnchanged only [↓RA, ↓RI, RB, RJ, RS, fx24, p1, p2, p3, p4, reduceIte, p5, p6, p7, p8]
  refine VSeq.nil (Nat.le_of_eq rfl) ?_
  simp -failIfUnchanged only [↓RA, ↓RI, RB, RJ, RS, fx24, p1, p2, p3, p4, reduceIte, p5, p6, p7, p8]
  refine VSeq.step ?_
  simp -failIfUnchanged only [↓RA, ↓RI, RB, RJ, RS, fx24, p1, p2, p3, p4, reduceIte, p5, p6, p7, p8]
  refine VSeq.nil (Nat.le_of_eq rfl) ?_
  simp -failIfUnchanged only [↓RA, ↓RI, RB, RJ, RS, fx24, p1, p2, p3, p4, reduceIte, p5, p6, p7, p8]
  replace h := run_loop h
  refine MgI.whileN h (fun s2 => [(0, .val (.own 10000)), (1, .val (.pv (I s2.2.1))), (5, .val (.pv (I s2.2.2)))]) (fun s2 => [(10000, (3, s2.1.map (SizeGraph.pv true)))]) (St.le_mk2 (by simp -failIfUnchanged only [↓RA, ↓RI, RB, RJ, RS, fx24, p1, p2, p3, p4, reduceIte, p5, p6, p7, p8])) (fun n2 s2 h => ?_)
  simp -failIfUnchanged only [↓RA, ↓RI, RB, RJ, RS, fx24, p1, p2, p3, p4, reduceIte, p5, p6, p7, p8]
  refine VSeq.step ?_
  simp -failIfUnchanged only [↓RA, ↓RI, RB, RJ, RS, fx24, p1, p2, p3, p4, reduceIte, p5, p6, p7, p8]
  refine VSeq.step ?_
  simp -failIfUnchanged only [↓RA, ↓RI, RB, RJ, RS, fx24, p1, p2, p3, p4, reduceIte, p5, p6, p7, p8]
  refine VSeq.step ?_
  simp -failIfUnchanged only [↓RA, ↓RI, RB, RJ, RS, fx24, p1, p2, p3, p4, reduceIte, p5, p6, p7, p8]
  refine VSeq.step ?_
  simp -failIfUnchanged only [↓RA, ↓RI, RB, RJ, RS, fx24, p1, p2, p3, p4, reduceIte, p5, p6, p7, p8]
  refine VSeq.nil (Nat.le_of_eq rfl) ?_
  simp -failIfUnchanged only [↓RA, ↓RI, RB, RJ, RS, fx24, p1, p2, p3, p4, reduceIte, p5, p6, p7, p8]
  refine CondH.mk (fun c1 => ?_) (fun c1 => ?_)
  · replace h := run_t c1 h
    simp -failIfUnchanged only [↓RA, ↓RI, RB, RJ, RS, fx24, p1, p2, p3, p4, reduceIte, p5, p6, p7, p8, c1]
    refine VSeq.step ?_
    simp -failIfUnchanged only [↓RA, ↓RI, RB, RJ, RS, fx24, p1, p2, p3, p4, reduceIte, p5, p6, p7, p8, c1]
    refine VSeq.step ?_
    simp -failIfUnchanged only [↓RA, ↓RI, RB, RJ, RS, fx24, p1, p2, p3, p4, reduceIte, p5, p6, p7, p8, c1]
    refine VSeq.step ?_
    simp -failIfUnchanged only [↓RA, ↓RI, RB, RJ, RS, fx24, p1, p2, p3, p4, reduceIte, p5, p6, p7, p8, c1]
    refine VSeq.step ?_
    simp -failIfUnchanged only [↓RA, ↓RI, RB, RJ, RS, fx24, p1, p2, p3, p4, reduceIte, p5, p6, p7, p8, c1]
    obtain ⟨v15, hv15, h⟩ := run_bind h
    refine IdxH.mk (f := (SizeGraph.pv true)) hv15 ?_ ?_ <;> simp -failIfUnchanged only [↓RA, ↓RI, RB, RJ, RS, fx24, p1, p2, p3, p4, reduceIte, p5, p6, p7, p8, c1]
    refine VSeq.step ?_
    simp -failIfUnchanged only [↓RA, ↓RI, RB, RJ, RS, fx24, p1, p2, p3, p4, reduceIte, p5, p6, p7, p8, c1]
    refine VSeq.step ?_
    simp -failIfUnchanged only [↓RA, ↓RI, RB, RJ, RS, fx24, p1, p2, p3, p4, reduceIte, p5, p6, p7, p8, c1]
    obtain ⟨w2, hw2, h⟩ := run_bind h
    refine EldH.mk (f := (SizeGraph.pv true)) hw2 rfl ?_ ?_ <;> simp -failIfUnchanged only [↓RA, ↓RI, RB, RJ, RS, fx24, p1, p2, p3, p4, reduceIte, p5, p6, p7, p8, c1]
    refine VSeq.nil (Nat.le_of_eq rfl) ?_
    simp -failIfUnchanged only [↓RA, ↓RI, RB, RJ, RS, fx24, p1, p2, p3, p4, reduceIte, p5, p6, p7, p8, c1]
    refine VSeq.step ?_
    simp -failIfUnchanged only [↓RA, ↓RI, RB, RJ, RS, fx24, p1, p2, p3, p4, reduceIte, p5, p6, p7, p8, c1]
    refine VSeq.step ?_
    simp -failIfUnchanged only [↓RA, ↓RI, RB, RJ, RS, fx24, p1, p2, p3, p4, reduceIte, p5, p6, p7, p8, c1]
    refine VSeq.step ?_
    simp -failIfUnchanged only [↓RA, ↓RI, RB, RJ, RS, fx24, p1, p2, p3, p4, reduceIte, p5, p6, p7, p8, c1]
    refine VSeq.nil (Nat.le_of_eq rfl) ?_
    simp -failIfUnchanged only [↓RA, ↓RI, RB, RJ, RS, fx24, p1, p2, p3, p4, reduceIte, p5, p6, p7, p8, c1]
    refine VSeq.step ?_
    simp -failIfUnchanged only [↓RA, ↓RI, RB, RJ, RS, fx24, p1, p2, p3, p4, reduceIte, p5, p6, p7, p8, c1]
    refine VSeq.step ?_
    simp -failIfUnchanged only [↓RA, ↓RI, RB, RJ, RS, fx24, p1, p2, p3, p4, reduceIte, p5, p6, p7, p8, c1]
    refine VSeq.step ?_
    simp -failIfUnchanged only [↓RA, ↓RI, RB, RJ, RS, fx24, p1, p2, p3, p4, reduceIte, p5, p6, p7, p8, c1]
    refine VSeq.step ?_
    simp -failIfUnchanged only [↓RA, ↓RI, RB, RJ, RS, fx24, p1, p2, p3, p4, reduceIte, p5, p6, p7, p8, c1]
    obtain ⟨v22, hv22, h⟩ := run_bind h
    refine IdxH.mk (f := (SizeGraph.pv true)) hv22 ?_ ?_ <;> simp -failIfUnchanged only [↓RA, ↓RI, RB, RJ, RS, fx24, p1, p2, p3, p4, reduceIte, p5, p6, p7, p8, c1]
    refine VSeq.step ?_
    simp -failIfUnchanged only [↓RA, ↓RI, RB, RJ, RS, fx24, p1, p2, p3, p4, reduceIte, p5, p6, p7, p8, c1]
    refine VSeq.step ?_
    simp -failIfUnchanged only [↓RA, ↓RI, RB, RJ, RS, fx24, p1, p2, p3, p4, reduceIte, p5, p6, p7, p8, c1]
    obtain ⟨w3, hw3, h⟩ := run_bind h
    refine EldH.mk (f := (SizeGraph.pv true)) hw3 rfl ?_ ?_ <;> simp -failIfUnchanged only [↓RA, ↓RI, RB, RJ, RS, fx24, p1, p2, p3, p4, reduceIte, p5, p6, p7, p8, c1]
    refine VSeq.nil (Nat.le_of_eq rfl) ?_
    simp -failIfUnchanged only [↓RA, ↓RI, RB, RJ, RS, fx24, p1, p2, p3, p4, reduceIte, p5, p6, p7, p8, c1]
    refine VSeq.step ?_
    simp -failIfUnchanged only [↓RA, ↓RI, RB, RJ, RS, fx24, p1, p2, p3, p4, reduceIte, p5, p6, p7, p8, c1]
    refine VSeq.step ?_
    simp -failIfUnchanged only [↓RA, ↓RI, RB, RJ, RS, fx24, p1, p2, p3, p4, reduceIte, p5, p6, p7, p8, c1]
    refine VSeq.step ?_
    simp -failIfUnchanged only [↓RA, ↓RI, RB, RJ, RS, fx24, p1, p2, p3, p4, reduceIte, p5, p6, p7, p8, c1]
    refine VSeq.nil (Nat.le_of_eq rfl) ?_
    simp -failIfUnchanged only [↓RA, ↓RI, RB, RJ, RS, fx24, p1, p2, p3, p4, reduceIte, p5, p6, p7, p8, c1]
    refine VSeq.step ?_
    simp -failIfUnchanged only [↓RA, ↓RI, RB, RJ, RS, fx24, p1, p2, p3, p4, reduceIte, p5, p6, p7, p8, c1]
    refine VSeq.step ?_
    simp -failIfUnchanged only [↓RA, ↓RI, RB, RJ, RS, fx24, p1, p2, p3, p4, reduceIte, p5, p6, p7, p8, c1]
    refine VSeq.step ?_
    simp -failIfUnchanged only [↓RA, ↓RI, RB, RJ, RS, fx24, p1, p2, p3, p4, reduceIte, p5, p6, p7, p8, c1]
    obtain ⟨v28, hv28, h⟩ := run_bind h
    refine IdxH.mk (f := (SizeGraph.pv true)) hv28 ?_ ?_ <;> simp -failIfUnchanged only [↓RA, ↓RI, RB, RJ, RS, fx24, p1, p2, p3, p4, reduceIte, p5, p6, p7, p8, c1]
    refine VSeq.step ?_
    simp -failIfUnchanged only [↓RA, ↓RI, RB, RJ, RS, fx24, p1, p2, p3, p4, reduceIte, p5, p6, p7, p8, c1]
    obtain ⟨w4, hw4, h⟩ := run_bind h
    obtain ⟨v32, hv32, h⟩ := run_bind h
    refine VSeq.innerM (fx := (SizeGraph.pv true)) (c := 10000) (sz := 3) (p := [2]) (off := 2) (h1 := rfl) (h3 := rfl) (h2 := rfl) rfl rfl rfl rfl rfl rfl rfl rfl rfl hw4 (markSizeEdgeS_sat hv32) (by simp -failIfUnchanged only [↓RA, ↓RI, RB, RJ, RS, fx24, p1, p2, p3, p4, reduceIte, p5, p6, p7, p8, c1]) (by simp -failIfUnchanged only [↓RA, ↓RI, RB, RJ, RS, fx24, p1, p2, p3, p4, reduceIte, p5, p6, p7, p8, c1]) ?_
    simp -failIfUnchanged only [↓RA, ↓RI, RB, RJ, RS, fx24, p1, p2, p3, p4, reduceIte, p5, p6, p7, p8, c1]
    refine VSeq.step ?_
    simp -failIfUnchanged only [↓RA, ↓RI, RB, RJ, RS, fx24, p1, p2, p3, p4, reduceIte, p5, p6, p7, p8, c1]
    refine VSeq.nil (Nat.le_of_eq rfl) ?_
    simp -failIfUnchanged only [↓RA, ↓RI, RB, RJ, RS, fx24, p1, p2, p3, p4, reduceIte, p5, p6, p7, p8, c1]
    refine VSeq.step ?_
    simp -failIfUnchanged only [↓RA, ↓RI, RB, RJ, RS, fx24, p1, p2, p3, p4, reduceIte, p5, p6, p7, p8, c1]
    refine VSeq.step ?_
    simp -failIfUnchanged only [↓RA, ↓RI, RB, RJ, RS, fx24, p1, p2, p3, p4, reduceIte, p5, p6, p7, p8, c1]
    refine VSeq.step ?_
    simp -failIfUnchanged only [↓RA, ↓RI, RB, RJ, RS, fx24, p1, p2, p3, p4, reduceIte, p5, p6, p7, p8, c1]
    refine VSeq.nil (Nat.le_of_eq rfl) ?_
    simp -failIfUnchanged only [↓RA, ↓RI, RB, RJ, RS, fx24, p1, p2, p3, p4, reduceIte, p5, p6, p7, p8, c1]
    have h := run_some h
    refine RdH.mk ⟨_, h, ?_⟩
    refine St.le_mk2 ?_
    simp -failIfUnchanged only [↓RA, ↓RI, RB, RJ, RS, fx24, p1, p2, p3, p4, reduceIte, p5, p6, p7, p8, c1]
  · replace h := run_f c1 h
    simp -failIfUnchanged only [↓RA, ↓RI, RB, RJ, RS, fx24, p1, p2, p3, p4, reduceIte, p5, p6, p7, p8, c1]
    have h := run_some h
    refine VSeq.step ?_
    simp -failIfUnchanged only [↓RA, ↓RI, RB, RJ, RS, fx24, p1, p2, p3, p4, reduceIte, p5, p6, p7, p8, c1]
    refine VSeq.step ?_
    simp -failIfUnchanged only [↓RA, ↓RI, RB, RJ, RS, fx24, p1, p2, p3, p4, reduceIte, p5, p6, p7, p8, c1]
    refine VSeq.nil (Nat.le_of_eq rfl) ?_
    simp -failIfUnchanged only [↓RA, ↓RI, RB, RJ, RS, fx24, p1, p2, p3, p4, reduceIte, p5, p6, p7, p8, c1]
    have h := run_some h
    obtain rfl : _ = r := h
    refine FinIO.mk ?_
    simp -failIfUnchanged only [↓RA, ↓RI, RB, RJ, RS, fx24, p1, p2, p3, p4, reduceIte, p5, p6, p7, p8, c1]

def fx16 := And.intro @ty_3 <| And.intro @zc_3 <| And.intro @z_3 <| And.intro @ty_22 <| And.intro @zc_22 <| And.intro @z_22 <| And.intro @es_22 <| And.intro @eb_22 <| And.intro @sl_22 <| And.intro @is_22 <| And.intro @el_22 <| And.intro @ze_22 <| And.intro @ez_22 <| And.intro @ty_29 <| And.intro @zc_29 <| And.intro @z_29 <| And.intro @es_29 <| And.intro @eb_29 <| And.intro @sl_29 <| And.intro @is_29 <| And.intro @el_29 <| And.intro @ze_29 <| And.intro @ez_29 <| And.intro @ty_31 <| And.intro @zc_31 <| And.intro @z_31 <| And.intro @fo_31_0 <| And.intro @fi_31_0 <| And.intro @ft_31_0 <| And.intro @fo_31_1 <| And.intro @fi_31_1 <| And.intro @ft_31_1 <| @lay_31
set_option maxHeartbeats 4000000 in
theorem markCyclicProof_sat {a0 : CyclicProof} {a1 : Int}  {r : Int × (List Int) × (List SizeGraph)} (h : markCyclicProof a0 a1 = some r) : SatIO Try.prog 16 [((CyclicProof.pv true) a0), (I a1)] [((CyclicProof.pv true) (CyclicProof.mk r.2.1 r.2.2)), (I a1)] (I r.1) := by
  replace h := Run.of h
  unfold markCyclicProof at h
  refine SatIO.of_m (nt := 14) (rs := [.tmp 4]) (n := 100000) Try.func16 rfl rfl rfl rfl (by simp) ?_
  simp -failIfUnchanged only [↓RA, ↓RI, RB, RJ, RS, fx16, p1, p2, p3, p4, reduceIte, p5, p6, p7, p8]
  repeat (first | with_reducible refine noR_and (by repeat (first | exact noR_empty _ _ | exact noR_nilS _ _ | refine noR_mk _ _ _ _ _ rfl ?_ | refine noR_mkS _ _ _ _ _ rfl ?_)) ?_ | with_reducible refine noC_and (by repeat (first | exact noC_empty _ _ (by simp -failIfUnchanged only [↓RA, ↓RI, RB, RJ, RS, fx16, p1, p2, p3, p4, reduceIte, p5, p6, p7, p8]) | exact noC_nilS _ _ (by simp -failIfUnchanged only [↓RA, ↓RI, RB, RJ, RS, fx16, p1, p2, p3, p4, reduceIte, p5, p6, p7, p8]) | refine noC_mk _ _ _ _ _ rfl ?_ | refine noC_mkS _ _ _ _ _ rfl ?_)) ?_ | with_reducible refine and_ac ?_ | with_reducible refine And.intro (a := _ = List.range _) (by rfl) ?_)
  obtain ⟨v8, hv8, h⟩ := run_bind h
  refine CallH.io [(.own 10000), (.pv (I a1))] [(10000, (1, v8.2.map I))] (markIntS_sat hv8) ?_ ?_ <;> simp -failIfUnchanged only [↓RA, ↓RI, RB, RJ, RS, fx16, p1, p2, p3, p4, reduceIte, p5, p6, p7, p8]
  obtain ⟨v12, hv12, h⟩ := run_bind h
  refine CallH.io [(.own 10001), (.pv (I v8.1))] [(10001, (3, v12.2.map (SizeGraph.pv true)))] (markSizeGraphS_sat hv12) ?_ ?_ <;> simp -failIfUnchanged only [↓RA, ↓RI, RB, RJ, RS, fx16, p1, p2, p3, p4, reduceIte, p5, p6, p7, p8]
  have h := run_some h
  obtain rfl : _ = r := h
  refine FinIO.mk ?_
  simp -failIfUnchanged only [↓RA, ↓RI, RB, RJ, RS, fx16, p1, p2, p3, p4, reduceIte, p5, p6, p7, p8]

def fx18 := And.intro @ty_3 <| And.intro @zc_3 <| And.intro @z_3 <| And.intro @ty_22 <| And.intro @zc_22 <| And.intro @z_22 <| And.intro @es_22 <| And.intro @eb_22 <| And.intro @sl_22 <| And.intro @is_22 <| And.intro @el_22 <| And.intro @ze_22 <| @ez_22
set_option maxHeartbeats 4000000 in
theorem heldIntS_sat {a0 : List Int} {a1 : Int}  {r : Int} (h : heldIntS a0 a1 = some r) : Sat Try.prog 18 [(.sl false 1 (a0.map I)), (I a1)] (I r) := by
  replace h := Run.of h
  unfold heldIntS at h
  refine Sat.of_m (nt := 21) (rs := [.tmp 4]) (n := 100000) Try.func18 rfl rfl rfl rfl (by simp) ?_
  simp -failIfUnchanged only [↓RA, RB, RS, fx18, p1, p2, p3, p4, reduceIte, p5, p6, p7, p8]
  refine Mg.know_sl (b := false) (sz := 1) (es := a0.map I) 0 (by simp -failIfUnchanged only [↓RA, RB, RS, fx18, p1, p2, p3, p4, reduceIte, p5, p6, p7, p8]) fun hl0 => ?_; rw [List.length_map] at hl0
  replace h := run_loop h
  refine Mg.forN h (fun i2 s2 => [(0, .val (.pv (.sl false 1 (a0.map I)))), (1, .val (.pv (I s2))), (5, .val (.pv (I (i2 : Int))))]) (fun i2 s2 => []) (St.le_mk2 (by simp -failIfUnchanged only [↓RA, RB, RS, fx18, p1, p2, p3, p4, reduceIte, p5, p6, p7, p8])) (fun i2 s2 hi h => ?_) (fun s2 h => ?_)
  · have w2 := wrap_succ (i := i2) (by omega)
    simp -failIfUnchanged only [↓RA, RB, RS, fx18, p1, p2, p3, p4, reduceIte, p5, p6, p7, p8]
    refine CondH.tt (decide_eq_true (by omega)) (fun c1 => ?_)
    simp -failIfUnchanged only [↓RA, RB, RS, fx18, p1, p2, p3, p4, reduceIte, p5, p6, p7, p8, c1]
    obtain ⟨v14, hv14, h⟩ := run_bind h
    refine IdxH.mk (f := I) hv14 ?_ ?_ <;> simp -failIfUnchanged only [↓RA, RB, RS, fx18, p1, p2, p3, p4, reduceIte, p5, p6, p7, p8, c1]
    refine CondH.mk (fun c2 => ?_) (fun c2 => ?_)
    · replace h := run_t c2 h
      simp -failIfUnchanged only [↓RA, RB, RS, fx18, p1, p2, p3, p4, reduceIte, p5, p6, p7, p8, c1, c2]
      have h := run_some h
      refine RdH.mk ⟨_, h, ?_⟩
      refine St.le_mk2 ?_
      simp -failIfUnchanged only [↓RA, RB, RS, fx18, p1, p2, p3, p4, reduceIte, p5, p6, p7, p8, c1, c2, w2]
    · replace h := run_f c2 h
      simp -failIfUnchanged only [↓RA, RB, RS, fx18, p1, p2, p3, p4, reduceIte, p5, p6, p7, p8, c1, c2]
      have h := run_some h
      obtain rfl : _ = r := h
      refine FinH.l ?_
      simp -failIfUnchanged only [↓RA, RB, RS, fx18, p1, p2, p3, p4, reduceIte, p5, p6, p7, p8, c1, c2]
  · simp -failIfUnchanged only [↓RA, RB, RS, fx18, p1, p2, p3, p4, reduceIte, p5, p6, p7, p8]
    refine CondH.ff (decide_eq_false (by omega)) (fun c3 => ?_)
    simp -failIfUnchanged only [↓RA, RB, RS, fx18, p1, p2, p3, p4, reduceIte, p5, p6, p7, p8, c3]
    have h := run_some h
    obtain rfl : _ = r := h
    refine FinH.l ?_
    simp -failIfUnchanged only [↓RA, RB, RS, fx18, p1, p2, p3, p4, reduceIte, p5, p6, p7, p8, c3]

end Go.Proofs.Ytheihimhijkekaa
