/- A part of the proof: lemmas only; nothing is claimed here beyond what each lemma says. -/
import Derived.Test.YtfggcaohidajkaaGm
import Derived.Test.YtfggcaohidajkaaGf
import Derived.Test.YtfggcaohidajkaaGinv
set_option linter.unusedSimpArgs false
set_option linter.unusedVariables false
set_option linter.defProp false
set_option maxRecDepth 4000
namespace Go.Proofs.Ytfggcaohidajkaa
open Go.Av
open Nat renaming reduceLT → p1, reduceAdd → p2, reduceMul → p3, reduceEqDiff → p4, reduceBEq → p5, reduceLeDiff → p6, reduceSub → p7
open Int renaming reduceToNat → p8
def fx70 := And.intro @ty_3 <| And.intro @zc_3 <| And.intro @z_3 <| And.intro @ty_38 <| And.intro @zc_38 <| And.intro @z_38 <| And.intro @es_38 <| And.intro @eb_38 <| And.intro @sl_38 <| And.intro @is_38 <| And.intro @el_38 <| And.intro @ze_38 <| @ez_38
set_option maxHeartbeats 4000000 in
theorem szSizeEdgeS_sat {a0 : List SizeEdge} {a1 : Int}  {r : Int} (h : szSizeEdgeS a0 a1 = some r) : Sat Try.prog 70 [(.sl false 3 (a0.map (SizeEdge.pv false))), (I a1)] (I r) := by
  replace h := Run.of h
  unfold szSizeEdgeS at h
  refine Sat.of_m (nt := 12) (rs := [.tmp 4]) (n := 100000) Try.func70 rfl rfl rfl rfl (by simp) ?_
  simp -failIfUnchanged only [↓RA, RB, RS, fx70, p1, p2, p3, p4, reduceIte, p5, p6, p7, p8]
  refine CondH.mk (fun c1 => ?_) (fun c1 => ?_)
  · replace h := run_t c1 h
    simp -failIfUnchanged only [↓RA, RB, RS, fx70, p1, p2, p3, p4, reduceIte, p5, p6, p7, p8, c1]
    have h := run_some h
    obtain rfl : _ = r := h
    refine FinH.l ?_
    simp -failIfUnchanged only [↓RA, RB, RS, fx70, p1, p2, p3, p4, reduceIte, p5, p6, p7, p8, c1]
  · replace h := run_f c1 h
    simp -failIfUnchanged only [↓RA, RB, RS, fx70, p1, p2, p3, p4, reduceIte, p5, p6, p7, p8, c1]
    have h := run_some h
    obtain rfl : _ = r := h
    refine FinH.l ?_
    simp -failIfUnchanged only [↓RA, RB, RS, fx70, p1, p2, p3, p4, reduceIte, p5, p6, p7, p8, c1]

def fx23 := And.intro @ty_3 <| And.intro @zc_3 <| And.intro @z_3 <| And.intro @ty_38 <| And.intro @zc_38 <| And.intro @z_38 <| And.intro @es_38 <| And.intro @eb_38 <| And.intro @sl_38 <| And.intro @is_38 <| And.intro @el_38 <| And.intro @ze_38 <| And.intro @ez_38 <| And.intro @ty_40 <| And.intro @zc_40 <| And.intro @z_40 <| And.intro @fo_40_0 <| And.intro @fi_40_0 <| And.intro @ft_40_0 <| And.intro @fo_40_1 <| And.intro @fi_40_1 <| And.intro @ft_40_1 <| And.intro @fo_40_2 <| And.intro @fi_40_2 <| And.intro @ft_40_2 <| @lay_40
set_option maxHeartbeats 4000000 in
theorem szSizeGraph_sat {a0 : SizeGraph} {a1 : Int}  {r : Int} (h : szSizeGraph a0 a1 = some r) : Sat Try.prog 23 [((SizeGraph.pv false) a0), (I a1)] (I r) := by
  replace h := Run.of h
  unfold szSizeGraph at h
  refine Sat.of_m (nt := 12) (rs := [.tmp 4]) (n := 100000) Try.func23 rfl rfl rfl rfl (by simp) ?_
  simp -failIfUnchanged only [↓RA, RB, RS, fx23, p1, p2, p3, p4, reduceIte, p5, p6, p7, p8]
  repeat (first | with_reducible refine noR_and (by repeat (first | exact noR_empty _ _ | exact noR_nilS _ _ | refine noR_mk _ _ _ _ _ rfl ?_ | refine noR_mkS _ _ _ _ _ rfl ?_)) ?_ | with_reducible refine noC_and (by repeat (first | exact noC_empty _ _ (by simp -failIfUnchanged only [↓RA, RB, RS, fx23, p1, p2, p3, p4, reduceIte, p5, p6, p7, p8]) | exact noC_nilS _ _ (by simp -failIfUnchanged only [↓RA, RB, RS, fx23, p1, p2, p3, p4, reduceIte, p5, p6, p7, p8]) | refine noC_mk _ _ _ _ _ rfl ?_ | refine noC_mkS _ _ _ _ _ rfl ?_)) ?_ | with_reducible refine and_ac ?_ | with_reducible refine And.intro (a := _ = List.range _) (by rfl) ?_)
  obtain ⟨v8, hv8, h⟩ := run_bind h
  refine CallH.mk [false, false] (szSizeEdgeS_sat hv8) ?_ ?_ <;> simp -failIfUnchanged only [↓RA, RB, RS, fx23, p1, p2, p3, p4, reduceIte, p5, p6, p7, p8]
  refine CondH.mk (fun c1 => ?_) (fun c1 => ?_)
  · replace h := run_t c1 h
    simp -failIfUnchanged only [↓RA, RB, RS, fx23, p1, p2, p3, p4, reduceIte, p5, p6, p7, p8, c1]
    have h := run_some h
    obtain rfl : _ = r := h
    refine FinH.l ?_
    simp -failIfUnchanged only [↓RA, RB, RS, fx23, p1, p2, p3, p4, reduceIte, p5, p6, p7, p8, c1]
  · replace h := run_f c1 h
    simp -failIfUnchanged only [↓RA, RB, RS, fx23, p1, p2, p3, p4, reduceIte, p5, p6, p7, p8, c1]
    have h := run_some h
    obtain rfl : _ = r := h
    refine FinH.l ?_
    simp -failIfUnchanged only [↓RA, RB, RS, fx23, p1, p2, p3, p4, reduceIte, p5, p6, p7, p8, c1]

def fx116 := And.intro @ty_3 <| And.intro @zc_3 <| And.intro @z_3 <| And.intro @ty_4 <| And.intro @zc_4 <| And.intro @z_4 <| And.intro @u_4 <| And.intro @ty_103 <| And.intro @zc_103 <| And.intro @z_103 <| And.intro @fo_103_0 <| And.intro @fi_103_0 <| And.intro @ft_103_0 <| And.intro @fo_103_1 <| And.intro @fi_103_1 <| And.intro @ft_103_1 <| And.intro @fo_103_2 <| And.intro @fi_103_2 <| And.intro @ft_103_2 <| And.intro @lay_103 <| And.intro @ty_138 <| And.intro @zc_138 <| And.intro @z_138 <| And.intro @fo_138_0 <| And.intro @fi_138_0 <| And.intro @ft_138_0 <| And.intro @fo_138_1 <| And.intro @fi_138_1 <| And.intro @ft_138_1 <| And.intro @fo_138_2 <| And.intro @fi_138_2 <| And.intro @ft_138_2 <| @lay_138
set_option maxHeartbeats 4000000 in
theorem toSizeEdge_sat {a0 : SizeEdge}  {r : SizeEdge} (h : toSizeEdge a0 = some r) : Sat Try.prog 116 [((SizeEdge.pv false) a0)] ((SizeEdge.pv false) r) := by
  replace h := Run.of h
  unfold toSizeEdge at h
  refine Sat.of_m (nt := 14) (rs := [.cell 2 103]) (n := 100000) Try.func116 rfl rfl rfl rfl (by simp) ?_
  simp -failIfUnchanged only [↓RA, RB, RS, fx116, p1, p2, p3, p4, reduceIte, p5, p6, p7, p8]
  repeat (first | with_reducible refine noR_and (by repeat (first | exact noR_empty _ _ | exact noR_nilS _ _ | refine noR_mk _ _ _ _ _ rfl ?_ | refine noR_mkS _ _ _ _ _ rfl ?_)) ?_ | with_reducible refine noC_and (by repeat (first | exact noC_empty _ _ (by simp -failIfUnchanged only [↓RA, RB, RS, fx116, p1, p2, p3, p4, reduceIte, p5, p6, p7, p8]) | exact noC_nilS _ _ (by simp -failIfUnchanged only [↓RA, RB, RS, fx116, p1, p2, p3, p4, reduceIte, p5, p6, p7, p8]) | refine noC_mk _ _ _ _ _ rfl ?_ | refine noC_mkS _ _ _ _ _ rfl ?_)) ?_ | with_reducible refine and_ac ?_ | with_reducible refine And.intro (a := _ = List.range _) (by rfl) ?_)
  have h := run_some h
  obtain rfl : _ = r := h
  refine FinH.l ?_
  simp -failIfUnchanged only [↓RA, RB, RS, fx116, p1, p2, p3, p4, reduceIte, p5, p6, p7, p8]

def fx72 := And.intro @ty_3 <| And.intro @zc_3 <| And.intro @z_3 <| And.intro @ty_38 <| And.intro @zc_38 <| And.intro @z_38 <| And.intro @es_38 <| And.intro @eb_38 <| And.intro @sl_38 <| And.intro @is_38 <| And.intro @el_38 <| And.intro @ze_38 <| And.intro @ez_38 <| And.intro @ty_43 <| And.intro @zc_43 <| And.intro @z_43 <| And.intro @es_43 <| And.intro @eb_43 <| And.intro @sl_43 <| And.intro @is_43 <| And.intro @el_43 <| And.intro @ze_43 <| And.intro @ez_43 <| And.intro @ty_103 <| And.intro @zc_103 <| And.intro @z_103 <| And.intro @fo_103_0 <| And.intro @fi_103_0 <| And.intro @ft_103_0 <| And.intro @fo_103_1 <| And.intro @fi_103_1 <| And.intro @ft_103_1 <| And.intro @fo_103_2 <| And.intro @fi_103_2 <| And.intro @ft_103_2 <| And.intro @lay_103 <| And.intro @ty_138 <| And.intro @zc_138 <| And.intro @z_138 <| And.intro @fo_138_0 <| And.intro @fi_138_0 <| And.intro @ft_138_0 <| And.intro @fo_138_1 <| And.intro @fi_138_1 <| And.intro @ft_138_1 <| And.intro @fo_138_2 <| And.intro @fi_138_2 <| And.intro @ft_138_2 <| @lay_138
set_option maxHeartbeats 4000000 in
theorem toSizeEdgeS_sat {a0 : List SizeEdge}  {r : List SizeEdge} (h : toSizeEdgeS a0 = some r) : Sat Try.prog 72 [(.sl false 3 (a0.map (SizeEdge.pv false)))] (.sl true 3 (r.map (SizeEdge.pv false))) := by
  replace h := Run.of h
  unfold toSizeEdgeS at h
  refine Sat.of_m (nt := 23) (rs := [.tmp 2]) (n := 100000) Try.func72 rfl rfl rfl rfl (by simp) ?_
  simp -failIfUnchanged only [↓RA, RB, RS, fx72, p1, p2, p3, p4, reduceIte, p5, p6, p7, p8]
  obtain ⟨n7, hn7, h⟩ := run_bind h
  refine MknH.mk hn7 ?_
  simp -failIfUnchanged only [↓RA, RB, RS, fx72, p1, p2, p3, p4, reduceIte, p5, p6, p7, p8]
  repeat (first | with_reducible refine noR_and (by repeat (first | exact noR_empty _ _ | exact noR_nilS _ _ | refine noR_mk _ _ _ _ _ rfl ?_ | refine noR_mkS _ _ _ _ _ rfl ?_)) ?_ | with_reducible refine noC_and (by repeat (first | exact noC_empty _ _ (by simp -failIfUnchanged only [↓RA, RB, RS, fx72, p1, p2, p3, p4, reduceIte, p5, p6, p7, p8]) | exact noC_nilS _ _ (by simp -failIfUnchanged only [↓RA, RB, RS, fx72, p1, p2, p3, p4, reduceIte, p5, p6, p7, p8]) | refine noC_mk _ _ _ _ _ rfl ?_ | refine noC_mkS _ _ _ _ _ rfl ?_)) ?_ | with_reducible refine and_ac ?_ | with_reducible refine And.intro (a := _ = List.range _) (by rfl) ?_)
  refine Mg.know_sl (b := false) (sz := 3) (es := a0.map (SizeEdge.pv false)) 0 (by simp -failIfUnchanged only [↓RA, RB, RS, fx72, p1, p2, p3, p4, reduceIte, p5, p6, p7, p8]) fun hl0 => ?_; rw [List.length_map] at hl0
  replace h := run_loop h
  refine Mg.forN h (fun i3 s3 => [(0, .val (.pv (.sl false 3 (a0.map (SizeEdge.pv false))))), (3, .val (.own 112)), (4, .val (.pv (I (i3 : Int))))]) (fun i3 s3 => [(112, (3, s3.map (SizeEdge.pv false)))]) (St.le_mk2 (by simp -failIfUnchanged only [↓RA, RB, RS, fx72, p1, p2, p3, p4, reduceIte, p5, p6, p7, p8])) (fun i3 s3 hi h => ?_) (fun s3 h => ?_)
  · have w3 := wrap_succ (i := i3) (by omega)
    simp -failIfUnchanged only [↓RA, RB, RS, fx72, p1, p2, p3, p4, reduceIte, p5, p6, p7, p8]
    refine CondH.tt (decide_eq_true (by omega)) (fun c1 => ?_)
    simp -failIfUnchanged only [↓RA, RB, RS, fx72, p1, p2, p3, p4, reduceIte, p5, p6, p7, p8, c1]
    obtain ⟨v18, hv18, h⟩ := run_bind h
    refine IdxH.mk (f := (SizeEdge.pv false)) hv18 ?_ ?_ <;> simp -failIfUnchanged only [↓RA, RB, RS, fx72, p1, p2, p3, p4, reduceIte, p5, p6, p7, p8, c1]
    obtain ⟨v20, hv20, h⟩ := run_bind h
    refine CallH.mk [false] (toSizeEdge_sat hv20) ?_ ?_ <;> simp -failIfUnchanged only [↓RA, RB, RS, fx72, p1, p2, p3, p4, reduceIte, p5, p6, p7, p8, c1]
    obtain ⟨v21, hv21, h⟩ := run_bind h
    refine IdxH.mk (f := (SizeEdge.pv false)) hv21 ?_ ?_ <;> simp -failIfUnchanged only [↓RA, RB, RS, fx72, p1, p2, p3, p4, reduceIte, p5, p6, p7, p8, c1]
    obtain ⟨w2, hw2, h⟩ := run_bind h
    refine EldH.mk (f := (SizeEdge.pv false)) hw2 rfl ?_ ?_ <;> simp -failIfUnchanged only [↓RA, RB, RS, fx72, p1, p2, p3, p4, reduceIte, p5, p6, p7, p8, c1]
    have h := run_some h
    refine RdH.mk ⟨_, h, ?_⟩
    refine St.le_mk2 ?_
    simp -failIfUnchanged only [↓RA, RB, RS, fx72, p1, p2, p3, p4, reduceIte, p5, p6, p7, p8, c1, w3]
  · simp -failIfUnchanged only [↓RA, RB, RS, fx72, p1, p2, p3, p4, reduceIte, p5, p6, p7, p8]
    refine CondH.ff (decide_eq_false (by omega)) (fun c3 => ?_)
    simp -failIfUnchanged only [↓RA, RB, RS, fx72, p1, p2, p3, p4, reduceIte, p5, p6, p7, p8, c3]
    have h := run_some h
    obtain rfl : _ = r := h
    refine FinH.l ?_
    simp -failIfUnchanged only [↓RA, RB, RS, fx72, p1, p2, p3, p4, reduceIte, p5, p6, p7, p8, c3]

def fx25 := And.intro @ty_3 <| And.intro @zc_3 <| And.intro @z_3 <| And.intro @ty_38 <| And.intro @zc_38 <| And.intro @z_38 <| And.intro @es_38 <| And.intro @eb_38 <| And.intro @sl_38 <| And.intro @is_38 <| And.intro @el_38 <| And.intro @ze_38 <| And.intro @ez_38 <| And.intro @ty_40 <| And.intro @zc_40 <| And.intro @z_40 <| And.intro @fo_40_0 <| And.intro @fi_40_0 <| And.intro @ft_40_0 <| And.intro @fo_40_1 <| And.intro @fi_40_1 <| And.intro @ft_40_1 <| And.intro @fo_40_2 <| And.intro @fi_40_2 <| And.intro @ft_40_2 <| And.intro @lay_40 <| And.intro @ty_43 <| And.intro @zc_43 <| And.intro @z_43 <| And.intro @es_43 <| And.intro @eb_43 <| And.intro @sl_43 <| And.intro @is_43 <| And.intro @el_43 <| And.intro @ze_43 <| And.intro @ez_43 <| And.intro @ty_45 <| And.intro @zc_45 <| And.intro @z_45 <| And.intro @fo_45_0 <| And.intro @fi_45_0 <| And.intro @ft_45_0 <| And.intro @fo_45_1 <| And.intro @fi_45_1 <| And.intro @ft_45_1 <| And.intro @fo_45_2 <| And.intro @fi_45_2 <| And.intro @ft_45_2 <| @lay_45
set_option maxHeartbeats 4000000 in
theorem toSizeGraph_sat {a0 : SizeGraph}  {r : SizeGraph} (h : toSizeGraph a0 = some r) : Sat Try.prog 25 [((SizeGraph.pv false) a0)] ((SizeGraph.pv true) r) := by
  replace h := Run.of h
  unfold toSizeGraph at h
  refine Sat.of_m (nt := 15) (rs := [.cell 2 45]) (n := 100000) Try.func25 rfl rfl rfl rfl (by simp) ?_
  simp -failIfUnchanged only [↓RA, RB, RS, fx25, p1, p2, p3, p4, reduceIte, p5, p6, p7, p8]
  repeat (first | with_reducible refine noR_and (by repeat (first | exact noR_empty _ _ | exact noR_nilS _ _ | refine noR_mk _ _ _ _ _ rfl ?_ | refine noR_mkS _ _ _ _ _ rfl ?_)) ?_ | with_reducible refine noC_and (by repeat (first | exact noC_empty _ _ (by simp -failIfUnchanged only [↓RA, RB, RS, fx25, p1, p2, p3, p4, reduceIte, p5, p6, p7, p8]) | exact noC_nilS _ _ (by simp -failIfUnchanged only [↓RA, RB, RS, fx25, p1, p2, p3, p4, reduceIte, p5, p6, p7, p8]) | refine noC_mk _ _ _ _ _ rfl ?_ | refine noC_mkS _ _ _ _ _ rfl ?_)) ?_ | with_reducible refine and_ac ?_ | with_reducible refine And.intro (a := _ = List.range _) (by rfl) ?_)
  obtain ⟨v12, hv12, h⟩ := run_bind h
  refine CallH.mk [false] (toSizeEdgeS_sat hv12) ?_ ?_ <;> simp -failIfUnchanged only [↓RA, RB, RS, fx25, p1, p2, p3, p4, reduceIte, p5, p6, p7, p8]
  repeat (first | with_reducible refine noR_and (by repeat (first | exact noR_empty _ _ | exact noR_nilS _ _ | refine noR_mk _ _ _ _ _ rfl ?_ | refine noR_mkS _ _ _ _ _ rfl ?_)) ?_ | with_reducible refine noC_and (by repeat (first | exact noC_empty _ _ (by simp -failIfUnchanged only [↓RA, RB, RS, fx25, p1, p2, p3, p4, reduceIte, p5, p6, p7, p8]) | exact noC_nilS _ _ (by simp -failIfUnchanged only [↓RA, RB, RS, fx25, p1, p2, p3, p4, reduceIte, p5, p6, p7, p8]) | refine noC_mk _ _ _ _ _ rfl ?_ | refine noC_mkS _ _ _ _ _ rfl ?_)) ?_ | with_reducible refine and_ac ?_ | with_reducible refine And.intro (a := _ = List.range _) (by rfl) ?_)
  have h := run_some h
  obtain rfl : _ = r := h
  refine FinH.l ?_
  simp -failIfUnchanged only [↓RA, RB, RS, fx25, p1, p2, p3, p4, reduceIte, p5, p6, p7, p8]

def fx60 := And.intro @ty_3 <| And.intro @zc_3 <| @z_3
set_option maxHeartbeats 4000000 in
theorem spec_l1In_sat {a0 : Int} {a1 : Int} {a2 : Int}  {r : Bool} (h : spec_l1In a0 a1 a2 = some r) : Sat Try.prog 60 [(I a0), (I a1), (I a2)] (B r) := by
  replace h := Run.of h
  unfold spec_l1In at h
  refine Sat.of_m (nt := 15) (rs := [.tmp 6]) (n := 100000) Try.func60 rfl rfl rfl rfl (by simp) ?_
  simp -failIfUnchanged only [↓RA, RB, RS, fx60, p1, p2, p3, p4, reduceIte, p5, p6, p7, p8]
  refine CondH.mk (fun c1 => ?_) (fun c1 => ?_)
  · replace h := run_t c1 h
    simp -failIfUnchanged only [↓RA, RB, RS, fx60, p1, p2, p3, p4, reduceIte, p5, p6, p7, p8, c1]
    have h := run_some h
    obtain rfl : _ = r := h
    refine FinH.l ?_
    simp -failIfUnchanged only [↓RA, RB, RS, fx60, p1, p2, p3, p4, reduceIte, p5, p6, p7, p8, c1]
  · replace h := run_f c1 h
    simp -failIfUnchanged only [↓RA, RB, RS, fx60, p1, p2, p3, p4, reduceIte, p5, p6, p7, p8, c1]
    have h := run_some h
    obtain rfl : _ = r := h
    refine FinH.l ?_
    simp -failIfUnchanged only [↓RA, RB, RS, fx60, p1, p2, p3, p4, reduceIte, p5, p6, p7, p8, c1]

def fx71 := And.intro @ty_3 <| And.intro @zc_3 <| And.intro @z_3 <| And.intro @ty_4 <| And.intro @zc_4 <| And.intro @z_4 <| And.intro @u_4 <| And.intro @ty_43 <| And.intro @zc_43 <| And.intro @z_43 <| And.intro @es_43 <| And.intro @eb_43 <| And.intro @sl_43 <| And.intro @is_43 <| And.intro @el_43 <| And.intro @ze_43 <| And.intro @ez_43 <| And.intro @ty_45 <| And.intro @zc_45 <| And.intro @z_45 <| And.intro @fo_45_0 <| And.intro @fi_45_0 <| And.intro @ft_45_0 <| And.intro @fo_45_1 <| And.intro @fi_45_1 <| And.intro @ft_45_1 <| And.intro @fo_45_2 <| And.intro @fi_45_2 <| And.intro @ft_45_2 <| And.intro @lay_45 <| And.intro @ty_103 <| And.intro @zc_103 <| And.intro @z_103 <| And.intro @fo_103_0 <| And.intro @fi_103_0 <| And.intro @ft_103_0 <| And.intro @fo_103_1 <| And.intro @fi_103_1 <| And.intro @ft_103_1 <| And.intro @fo_103_2 <| And.intro @fi_103_2 <| And.intro @ft_103_2 <| And.intro @lay_103 <| @mixedT
set_option maxHeartbeats 4000000 in
theorem spec_l24Graph_sat {a0 : SizeGraph}  {r : Bool} (h : spec_l24Graph a0 = some r) : Sat Try.prog 71 [((SizeGraph.pv false) a0)] (B r) := by
  replace h := Run.of h
  unfold spec_l24Graph at h
  refine Sat.of_m (nt := 64) (rs := [.tmp 2]) (n := 100000) Try.func71 rfl rfl rfl rfl (by simp) ?_
  simp -failIfUnchanged only [↓RA, RB, RS, fx71, p1, p2, p3, p4, reduceIte, p5, p6, p7, p8]
  repeat (first | with_reducible refine noR_and (by repeat (first | exact noR_empty _ _ | exact noR_nilS _ _ | refine noR_mk _ _ _ _ _ rfl ?_ | refine noR_mkS _ _ _ _ _ rfl ?_)) ?_ | with_reducible refine noC_and (by repeat (first | exact noC_empty _ _ (by simp -failIfUnchanged only [↓RA, RB, RS, fx71, p1, p2, p3, p4, reduceIte, p5, p6, p7, p8]) | exact noC_nilS _ _ (by simp -failIfUnchanged only [↓RA, RB, RS, fx71, p1, p2, p3, p4, reduceIte, p5, p6, p7, p8]) | refine noC_mk _ _ _ _ _ rfl ?_ | refine noC_mkS _ _ _ _ _ rfl ?_)) ?_ | with_reducible refine and_ac ?_ | with_reducible refine And.intro (a := _ = List.range _) (by rfl) ?_)
  obtain ⟨v7, hv7, h⟩ := run_bind h
  refine CallH.mk [false, false, false] (spec_l1In_sat hv7) ?_ ?_ <;> simp -failIfUnchanged only [↓RA, RB, RS, fx71, p1, p2, p3, p4, reduceIte, p5, p6, p7, p8]
  refine CondH.mk (fun c1 => ?_) (fun c1 => ?_)
  · replace h := run_t c1 h
    simp -failIfUnchanged only [↓RA, RB, RS, fx71, p1, p2, p3, p4, reduceIte, p5, p6, p7, p8, c1]
    obtain ⟨v12, hv12, h⟩ := run_bind h
    refine CallH.mk [false, false, false] (spec_l1In_sat hv12) ?_ ?_ <;> simp -failIfUnchanged only [↓RA, RB, RS, fx71, p1, p2, p3, p4, reduceIte, p5, p6, p7, p8, c1]
    refine CondH.mk (fun c2 => ?_) (fun c2 => ?_)
    · replace h := run_t c2 h
      simp -failIfUnchanged only [↓RA, RB, RS, fx71, p1, p2, p3, p4, reduceIte, p5, p6, p7, p8, c1, c2]
      refine Mg.know_val2 (b := false) (sz := 3) (es := a0.Edges.map (SizeEdge.pv false)) (x := (.pv ((SizeGraph.pv false) a0))) 0 [2] (by simp -failIfUnchanged only [↓RA, RB, RS, fx71, p1, p2, p3, p4, reduceIte, p5, p6, p7, p8, c1, c2]) fun hl0 => ?_; rw [List.length_map] at hl0
      replace h := run_loop h
      refine Mg.forN h (fun i4 s4 => [(1, .box (.pv ((SizeGraph.pv false) a0))), (3, .val (.pv (I (i4 : Int))))]) (fun i4 s4 => []) (St.le_mk2 (by simp -failIfUnchanged only [↓RA, RB, RS, fx71, p1, p2, p3, p4, reduceIte, p5, p6, p7, p8, c1, c2])) (fun i4 s4 hi h => ?_) (fun s4 h => ?_)
      · have w4 := wrap_succ (i := i4) (by omega)
        simp -failIfUnchanged only [↓RA, RB, RS, fx71, p1, p2, p3, p4, reduceIte, p5, p6, p7, p8, c1, c2]
        refine CondH.tt (decide_eq_true (by omega)) (fun c3 => ?_)
        simp -failIfUnchanged only [↓RA, RB, RS, fx71, p1, p2, p3, p4, reduceIte, p5, p6, p7, p8, c1, c2, c3]
        obtain ⟨v25, hv25, h⟩ := run_bind h
        refine IdxH.mk (f := (SizeEdge.pv false)) hv25 ?_ ?_ <;> simp -failIfUnchanged only [↓RA, RB, RS, fx71, p1, p2, p3, p4, reduceIte, p5, p6, p7, p8, c1, c2, c3]
        repeat (first | with_reducible refine noR_and (by repeat (first | exact noR_empty _ _ | exact noR_nilS _ _ | refine noR_mk _ _ _ _ _ rfl ?_ | refine noR_mkS _ _ _ _ _ rfl ?_)) ?_ | with_reducible refine noC_and (by repeat (first | exact noC_empty _ _ (by simp -failIfUnchanged only [↓RA, RB, RS, fx71, p1, p2, p3, p4, reduceIte, p5, p6, p7, p8]) | exact noC_nilS _ _ (by simp -failIfUnchanged only [↓RA, RB, RS, fx71, p1, p2, p3, p4, reduceIte, p5, p6, p7, p8]) | refine noC_mk _ _ _ _ _ rfl ?_ | refine noC_mkS _ _ _ _ _ rfl ?_)) ?_ | with_reducible refine and_ac ?_ | with_reducible refine And.intro (a := _ = List.range _) (by rfl) ?_)
        obtain ⟨v29, hv29, h⟩ := run_bind h
        refine CallH.mk [false, false, false] (spec_l1In_sat hv29) ?_ ?_ <;> simp -failIfUnchanged only [↓RA, RB, RS, fx71, p1, p2, p3, p4, reduceIte, p5, p6, p7, p8, c1, c2, c3]
        refine CondH.mk (fun c4 => ?_) (fun c4 => ?_)
        · replace h := run_t c4 h
          simp -failIfUnchanged only [↓RA, RB, RS, fx71, p1, p2, p3, p4, reduceIte, p5, p6, p7, p8, c1, c2, c3, c4]
          obtain ⟨v34, hv34, h⟩ := run_bind h
          refine CallH.mk [false, false, false] (spec_l1In_sat hv34) ?_ ?_ <;> simp -failIfUnchanged only [↓RA, RB, RS, fx71, p1, p2, p3, p4, reduceIte, p5, p6, p7, p8, c1, c2, c3, c4]
          refine CondH.mk (fun c5 => ?_) (fun c5 => ?_)
          · replace h := run_t c5 h
            simp -failIfUnchanged only [↓RA, RB, RS, fx71, p1, p2, p3, p4, reduceIte, p5, p6, p7, p8, c1, c2, c3, c4, c5]
            refine CondH.mk (fun c6 => ?_) (fun c6 => ?_)
            · replace h := run_t c6 h
              simp -failIfUnchanged only [↓RA, RB, RS, fx71, p1, p2, p3, p4, reduceIte, p5, p6, p7, p8, c1, c2, c3, c4, c5, c6]
              obtain ⟨v44, hv44, h⟩ := run_bind h
              refine IdxH.mk (f := (SizeEdge.pv false)) hv44 ?_ ?_ <;> simp -failIfUnchanged only [↓RA, RB, RS, fx71, p1, p2, p3, p4, reduceIte, p5, p6, p7, p8, c1, c2, c3, c4, c5, c6]
              obtain ⟨v52, hv52, h⟩ := run_bind h
              refine IdxH.mk (f := (SizeEdge.pv false)) hv52 ?_ ?_ <;> simp -failIfUnchanged only [↓RA, RB, RS, fx71, p1, p2, p3, p4, reduceIte, p5, p6, p7, p8, c1, c2, c3, c4, c5, c6]
              refine And.intro (DrawH.none (by rfl) (by first | rfl | (simp -failIfUnchanged only [↓RA, RB, RS, fx71, p1, p2, p3, p4, reduceIte, p5, p6, p7, p8] <;> rfl)) (by first | rfl | (simp -failIfUnchanged only [↓RA, RB, RS, fx71, p1, p2, p3, p4, reduceIte, p5, p6, p7, p8] <;> rfl)) (by first | rfl | (simp -failIfUnchanged only [↓RA, RB, RS, fx71, p1, p2, p3, p4, reduceIte, p5, p6, p7, p8] <;> rfl))) ?_
              simp -failIfUnchanged only [↓RA, RB, RS, fx71, p1, p2, p3, p4, reduceIte, p5, p6, p7, p8, c1, c2, c3, c4, c5, c6]
              refine CondH.mk (fun c7 => ?_) (fun c7 => ?_)
              · replace h := run_t c7 h
                simp -failIfUnchanged only [↓RA, RB, RS, fx71, p1, p2, p3, p4, reduceIte, p5, p6, p7, p8, c1, c2, c3, c4, c5, c6, c7]
                have h := run_some h
                obtain rfl : _ = r := h
                refine FinH.l ?_
                simp -failIfUnchanged only [↓RA, RB, RS, fx71, p1, p2, p3, p4, reduceIte, p5, p6, p7, p8, c1, c2, c3, c4, c5, c6, c7]
              · replace h := run_f c7 h
                simp -failIfUnchanged only [↓RA, RB, RS, fx71, p1, p2, p3, p4, reduceIte, p5, p6, p7, p8, c1, c2, c3, c4, c5, c6, c7]
                have h := run_some h
                refine RdH.mk ⟨_, h, ?_⟩
                refine St.le_mk2 ?_
                simp -failIfUnchanged only [↓RA, RB, RS, fx71, p1, p2, p3, p4, reduceIte, p5, p6, p7, p8, c1, c2, c3, c4, c5, c6, c7, w4]
            · replace h := run_f c6 h
              simp -failIfUnchanged only [↓RA, RB, RS, fx71, p1, p2, p3, p4, reduceIte, p5, p6, p7, p8, c1, c2, c3, c4, c5, c6]
              refine And.intro (DrawH.none (by rfl) (by first | rfl | (simp -failIfUnchanged only [↓RA, RB, RS, fx71, p1, p2, p3, p4, reduceIte, p5, p6, p7, p8] <;> rfl)) (by first | rfl | (simp -failIfUnchanged only [↓RA, RB, RS, fx71, p1, p2, p3, p4, reduceIte, p5, p6, p7, p8] <;> rfl)) (by first | rfl | (simp -failIfUnchanged only [↓RA, RB, RS, fx71, p1, p2, p3, p4, reduceIte, p5, p6, p7, p8] <;> rfl))) ?_
              simp -failIfUnchanged only [↓RA, RB, RS, fx71, p1, p2, p3, p4, reduceIte, p5, p6, p7, p8, c1, c2, c3, c4, c5, c6]
              have h := run_some h
              refine RdH.mk ⟨_, h, ?_⟩
              refine St.le_mk2 ?_
              simp -failIfUnchanged only [↓RA, RB, RS, fx71, p1, p2, p3, p4, reduceIte, p5, p6, p7, p8, c1, c2, c3, c4, c5, c6, w4]
          · replace h := run_f c5 h
            simp -failIfUnchanged only [↓RA, RB, RS, fx71, p1, p2, p3, p4, reduceIte, p5, p6, p7, p8, c1, c2, c3, c4, c5]
            have h := run_some h
            obtain rfl : _ = r := h
            refine FinH.l ?_
            simp -failIfUnchanged only [↓RA, RB, RS, fx71, p1, p2, p3, p4, reduceIte, p5, p6, p7, p8, c1, c2, c3, c4, c5]
        · replace h := run_f c4 h
          simp -failIfUnchanged only [↓RA, RB, RS, fx71, p1, p2, p3, p4, reduceIte, p5, p6, p7, p8, c1, c2, c3, c4]
          have h := run_some h
          obtain rfl : _ = r := h
          refine FinH.l ?_
          simp -failIfUnchanged only [↓RA, RB, RS, fx71, p1, p2, p3, p4, reduceIte, p5, p6, p7, p8, c1, c2, c3, c4]
      · simp -failIfUnchanged only [↓RA, RB, RS, fx71, p1, p2, p3, p4, reduceIte, p5, p6, p7, p8, c1, c2]
        refine CondH.ff (decide_eq_false (by omega)) (fun c8 => ?_)
        simp -failIfUnchanged only [↓RA, RB, RS, fx71, p1, p2, p3, p4, reduceIte, p5, p6, p7, p8, c1, c2, c8]
        have h := run_some h
        obtain rfl : _ = r := h
        refine FinH.l ?_
        simp -failIfUnchanged only [↓RA, RB, RS, fx71, p1, p2, p3, p4, reduceIte, p5, p6, p7, p8, c1, c2, c8]
    · replace h := run_f c2 h
      simp -failIfUnchanged only [↓RA, RB, RS, fx71, p1, p2, p3, p4, reduceIte, p5, p6, p7, p8, c1, c2]
      have h := run_some h
      obtain rfl : _ = r := h
      refine FinH.l ?_
      simp -failIfUnchanged only [↓RA, RB, RS, fx71, p1, p2, p3, p4, reduceIte, p5, p6, p7, p8, c1, c2]
  · replace h := run_f c1 h
    simp -failIfUnchanged only [↓RA, RB, RS, fx71, p1, p2, p3, p4, reduceIte, p5, p6, p7, p8, c1]
    have h := run_some h
    obtain rfl : _ = r := h
    refine FinH.l ?_
    simp -failIfUnchanged only [↓RA, RB, RS, fx71, p1, p2, p3, p4, reduceIte, p5, p6, p7, p8, c1]

def fx133 := And.intro @ty_3 <| And.intro @zc_3 <| And.intro @z_3 <| And.intro @ty_4 <| And.intro @zc_4 <| And.intro @z_4 <| And.intro @u_4 <| And.intro @ty_43 <| And.intro @zc_43 <| And.intro @z_43 <| And.intro @es_43 <| And.intro @eb_43 <| And.intro @sl_43 <| And.intro @is_43 <| And.intro @el_43 <| And.intro @ze_43 <| And.intro @ez_43 <| And.intro @ty_45 <| And.intro @zc_45 <| And.intro @z_45 <| And.intro @fo_45_0 <| And.intro @fi_45_0 <| And.intro @ft_45_0 <| And.intro @fo_45_1 <| And.intro @fi_45_1 <| And.intro @ft_45_1 <| And.intro @fo_45_2 <| And.intro @fi_45_2 <| And.intro @ft_45_2 <| And.intro @lay_45 <| And.intro @ty_103 <| And.intro @zc_103 <| And.intro @z_103 <| And.intro @fo_103_0 <| And.intro @fi_103_0 <| And.intro @ft_103_0 <| And.intro @fo_103_1 <| And.intro @fi_103_1 <| And.intro @ft_103_1 <| And.intro @fo_103_2 <| And.intro @fi_103_2 <| And.intro @ft_103_2 <| @lay_103
set_option maxHeartbeats 4000000 in
theorem spec_l24Level_sat {a0 : SizeGraph} {a1 : Int} {a2 : Int}  {r : Int} (h : spec_l24Level a0 a1 a2 = some r) : Sat Try.prog 133 [((SizeGraph.pv false) a0), (I a1), (I a2)] (I r) := by
  replace h := Run.of h
  unfold spec_l24Level at h
  refine Sat.of_m (nt := 39) (rs := [.tmp 6]) (n := 100000) Try.func133 rfl rfl rfl rfl (by simp) ?_
  simp -failIfUnchanged only [↓RA, RB, RS, fx133, p1, p2, p3, p4, reduceIte, p5, p6, p7, p8]
  repeat (first | with_reducible refine noR_and (by repeat (first | exact noR_empty _ _ | exact noR_nilS _ _ | refine noR_mk _ _ _ _ _ rfl ?_ | refine noR_mkS _ _ _ _ _ rfl ?_)) ?_ | with_reducible refine noC_and (by repeat (first | exact noC_empty _ _ (by simp -failIfUnchanged only [↓RA, RB, RS, fx133, p1, p2, p3, p4, reduceIte, p5, p6, p7, p8]) | exact noC_nilS _ _ (by simp -failIfUnchanged only [↓RA, RB, RS, fx133, p1, p2, p3, p4, reduceIte, p5, p6, p7, p8]) | refine noC_mk _ _ _ _ _ rfl ?_ | refine noC_mkS _ _ _ _ _ rfl ?_)) ?_ | with_reducible refine and_ac ?_ | with_reducible refine And.intro (a := _ = List.range _) (by rfl) ?_)
  refine Mg.know_val2 (b := false) (sz := 3) (es := a0.Edges.map (SizeEdge.pv false)) (x := (.pv ((SizeGraph.pv false) a0))) 0 [2] (by simp -failIfUnchanged only [↓RA, RB, RS, fx133, p1, p2, p3, p4, reduceIte, p5, p6, p7, p8]) fun hl0 => ?_; rw [List.length_map] at hl0
  replace h := run_loop h
  refine Mg.forN h (fun i2 s2 => [(1, .val (.pv (I a1))), (2, .val (.pv (I a2))), (3, .box (.pv ((SizeGraph.pv false) a0))), (7, .val (.pv (I (i2 : Int))))]) (fun i2 s2 => []) (St.le_mk2 (by simp -failIfUnchanged only [↓RA, RB, RS, fx133, p1, p2, p3, p4, reduceIte, p5, p6, p7, p8])) (fun i2 s2 hi h => ?_) (fun s2 h => ?_)
  · have w2 := wrap_succ (i := i2) (by omega)
    simp -failIfUnchanged only [↓RA, RB, RS, fx133, p1, p2, p3, p4, reduceIte, p5, p6, p7, p8]
    refine CondH.tt (decide_eq_true (by omega)) (fun c1 => ?_)
    simp -failIfUnchanged only [↓RA, RB, RS, fx133, p1, p2, p3, p4, reduceIte, p5, p6, p7, p8, c1]
    obtain ⟨v18, hv18, h⟩ := run_bind h
    refine IdxH.mk (f := (SizeEdge.pv false)) hv18 ?_ ?_ <;> simp -failIfUnchanged only [↓RA, RB, RS, fx133, p1, p2, p3, p4, reduceIte, p5, p6, p7, p8, c1]
    refine CondH.mk (fun c2 => ?_) (fun c2 => ?_)
    · replace h := run_t c2 h
      simp -failIfUnchanged only [↓RA, RB, RS, fx133, p1, p2, p3, p4, reduceIte, p5, p6, p7, p8, c1, c2]
      obtain ⟨v27, hv27, h⟩ := run_bind h
      refine IdxH.mk (f := (SizeEdge.pv false)) hv27 ?_ ?_ <;> simp -failIfUnchanged only [↓RA, RB, RS, fx133, p1, p2, p3, p4, reduceIte, p5, p6, p7, p8, c1, c2]
      refine CondH.mk (fun c3 => ?_) (fun c3 => ?_)
      · replace h := run_t c3 h
        simp -failIfUnchanged only [↓RA, RB, RS, fx133, p1, p2, p3, p4, reduceIte, p5, p6, p7, p8, c1, c2, c3]
        obtain ⟨v36, hv36, h⟩ := run_bind h
        refine IdxH.mk (f := (SizeEdge.pv false)) hv36 ?_ ?_ <;> simp -failIfUnchanged only [↓RA, RB, RS, fx133, p1, p2, p3, p4, reduceIte, p5, p6, p7, p8, c1, c2, c3]
        refine CondH.mk (fun c4 => ?_) (fun c4 => ?_)
        · replace h := run_t c4 h
          simp -failIfUnchanged only [↓RA, RB, RS, fx133, p1, p2, p3, p4, reduceIte, p5, p6, p7, p8, c1, c2, c3, c4]
          have h := run_some h
          obtain rfl : _ = r := h
          refine FinH.l ?_
          simp -failIfUnchanged only [↓RA, RB, RS, fx133, p1, p2, p3, p4, reduceIte, p5, p6, p7, p8, c1, c2, c3, c4]
        · replace h := run_f c4 h
          simp -failIfUnchanged only [↓RA, RB, RS, fx133, p1, p2, p3, p4, reduceIte, p5, p6, p7, p8, c1, c2, c3, c4]
          have h := run_some h
          obtain rfl : _ = r := h
          refine FinH.l ?_
          simp -failIfUnchanged only [↓RA, RB, RS, fx133, p1, p2, p3, p4, reduceIte, p5, p6, p7, p8, c1, c2, c3, c4]
      · replace h := run_f c3 h
        simp -failIfUnchanged only [↓RA, RB, RS, fx133, p1, p2, p3, p4, reduceIte, p5, p6, p7, p8, c1, c2, c3]
        have h := run_some h
        refine RdH.mk ⟨_, h, ?_⟩
        refine St.le_mk2 ?_
        simp -failIfUnchanged only [↓RA, RB, RS, fx133, p1, p2, p3, p4, reduceIte, p5, p6, p7, p8, c1, c2, c3, w2]
    · replace h := run_f c2 h
      simp -failIfUnchanged only [↓RA, RB, RS, fx133, p1, p2, p3, p4, reduceIte, p5, p6, p7, p8, c1, c2]
      have h := run_some h
      refine RdH.mk ⟨_, h, ?_⟩
      refine St.le_mk2 ?_
      simp -failIfUnchanged only [↓RA, RB, RS, fx133, p1, p2, p3, p4, reduceIte, p5, p6, p7, p8, c1, c2, w2]
  · simp -failIfUnchanged only [↓RA, RB, RS, fx133, p1, p2, p3, p4, reduceIte, p5, p6, p7, p8]
    refine CondH.ff (decide_eq_false (by omega)) (fun c5 => ?_)
    simp -failIfUnchanged only [↓RA, RB, RS, fx133, p1, p2, p3, p4, reduceIte, p5, p6, p7, p8, c5]
    have h := run_some h
    obtain rfl : _ = r := h
    refine FinH.l ?_
    simp -failIfUnchanged only [↓RA, RB, RS, fx133, p1, p2, p3, p4, reduceIte, p5, p6, p7, p8, c5]

def fx100 := And.intro @ty_3 <| And.intro @zc_3 <| @z_3
set_option maxHeartbeats 4000000 in
theorem spec_l1Most_sat {a0 : Int} {a1 : Int}  {r : Int} (h : spec_l1Most a0 a1 = some r) : Sat Try.prog 100 [(I a0), (I a1)] (I r) := by
  replace h := Run.of h
  unfold spec_l1Most at h
  refine Sat.of_m (nt := 10) (rs := [.tmp 4]) (n := 100000) Try.func100 rfl rfl rfl rfl (by simp) ?_
  simp -failIfUnchanged only [↓RA, RB, RS, fx100, p1, p2, p3, p4, reduceIte, p5, p6, p7, p8]
  refine CondH.mk (fun c1 => ?_) (fun c1 => ?_)
  · replace h := run_t c1 h
    simp -failIfUnchanged only [↓RA, RB, RS, fx100, p1, p2, p3, p4, reduceIte, p5, p6, p7, p8, c1]
    have h := run_some h
    obtain rfl : _ = r := h
    refine FinH.l ?_
    simp -failIfUnchanged only [↓RA, RB, RS, fx100, p1, p2, p3, p4, reduceIte, p5, p6, p7, p8, c1]
  · replace h := run_f c1 h
    simp -failIfUnchanged only [↓RA, RB, RS, fx100, p1, p2, p3, p4, reduceIte, p5, p6, p7, p8, c1]
    have h := run_some h
    obtain rfl : _ = r := h
    refine FinH.l ?_
    simp -failIfUnchanged only [↓RA, RB, RS, fx100, p1, p2, p3, p4, reduceIte, p5, p6, p7, p8, c1]

def fx106 := And.intro @ty_3 <| And.intro @zc_3 <| And.intro @z_3 <| And.intro @ty_43 <| And.intro @zc_43 <| And.intro @z_43 <| And.intro @es_43 <| And.intro @eb_43 <| And.intro @sl_43 <| And.intro @is_43 <| And.intro @el_43 <| And.intro @ze_43 <| And.intro @ez_43 <| And.intro @ty_45 <| And.intro @zc_45 <| And.intro @z_45 <| And.intro @fo_45_0 <| And.intro @fi_45_0 <| And.intro @ft_45_0 <| And.intro @fo_45_1 <| And.intro @fi_45_1 <| And.intro @ft_45_1 <| And.intro @fo_45_2 <| And.intro @fi_45_2 <| And.intro @ft_45_2 <| And.intro @lay_45 <| And.intro @ty_103 <| And.intro @zc_103 <| And.intro @z_103 <| And.intro @fo_103_0 <| And.intro @fi_103_0 <| And.intro @ft_103_0 <| And.intro @fo_103_1 <| And.intro @fi_103_1 <| And.intro @ft_103_1 <| And.intro @fo_103_2 <| And.intro @fi_103_2 <| And.intro @ft_103_2 <| And.intro @lay_103 <| @mixedT
set_option maxHeartbeats 4000000 in
theorem spec_l24Compose_sat {a0 : SizeGraph} {a1 : SizeGraph}  {r : SizeGraph} (h : spec_l24Compose a0 a1 = some r) : Sat Try.prog 106 [((SizeGraph.pv false) a0), ((SizeGraph.pv false) a1)] ((SizeGraph.pv true) r) := by
  replace h := Run.of h
  unfold spec_l24Compose at h
  refine Sat.of_m (nt := 62) (rs := [.cell 4 45]) (n := 100000) Try.func106 rfl rfl rfl rfl (by simp) ?_
  simp -failIfUnchanged only [↓RA, RB, RS, fx106, p1, p2, p3, p4, reduceIte, p5, p6, p7, p8]
  repeat (first | with_reducible refine noR_and (by repeat (first | exact noR_empty _ _ | exact noR_nilS _ _ | refine noR_mk _ _ _ _ _ rfl ?_ | refine noR_mkS _ _ _ _ _ rfl ?_)) ?_ | with_reducible refine noC_and (by repeat (first | exact noC_empty _ _ (by simp -failIfUnchanged only [↓RA, RB, RS, fx106, p1, p2, p3, p4, reduceIte, p5, p6, p7, p8]) | exact noC_nilS _ _ (by simp -failIfUnchanged only [↓RA, RB, RS, fx106, p1, p2, p3, p4, reduceIte, p5, p6, p7, p8]) | refine noC_mk _ _ _ _ _ rfl ?_ | refine noC_mkS _ _ _ _ _ rfl ?_)) ?_ | with_reducible refine and_ac ?_ | with_reducible refine And.intro (a := _ = List.range _) (by rfl) ?_)
  replace h := run_loop h
  refine Mg.forN h (fun i3 s3 => [(2, .box (.pv ((SizeGraph.pv false) a0))), (3, .box (.pv ((SizeGraph.pv false) a1))), (4, .box (.node [(.pv (I (0 : Int))), (.pv (I (0 : Int))), (.pv (.sl true 3 []))])), (5, .box (.node [(.pv (I a0.Source)), (.pv (I a1.Target)), (.own 256)])), (6, .val (.pv (I (i3 : Int))))]) (fun i3 s3 => [(256, (3, s3.map (SizeEdge.pv false)))]) (St.le_mk2 (by simp -failIfUnchanged only [↓RA, RB, RS, fx106, p1, p2, p3, p4, reduceIte, p5, p6, p7, p8])) (fun i3 s3 hi h => ?_) (fun s3 h => ?_)
  · have w3 := wrap_succ (i := i3) (by omega)
    simp -failIfUnchanged only [↓RA, RB, RS, fx106, p1, p2, p3, p4, reduceIte, p5, p6, p7, p8]
    refine CondH.tt (decide_eq_true (by omega)) (fun c1 => ?_)
    simp -failIfUnchanged only [↓RA, RB, RS, fx106, p1, p2, p3, p4, reduceIte, p5, p6, p7, p8, c1]
    replace h := run_loop h
    refine Mg.forN h (fun i6 s6 => [(2, .box (.pv ((SizeGraph.pv false) a0))), (3, .box (.pv ((SizeGraph.pv false) a1))), (4, .box (.node [(.pv (I (0 : Int))), (.pv (I (0 : Int))), (.pv (.sl true 3 []))])), (5, .box (.node [(.pv (I a0.Source)), (.pv (I a1.Target)), (.own 256)])), (6, .val (.pv (I (i3 : Int)))), (7, .val (.pv (I (i6 : Int))))]) (fun i6 s6 => [(256, (3, s6.map (SizeEdge.pv false)))]) (St.le_mk2 (by simp -failIfUnchanged only [↓RA, RB, RS, fx106, p1, p2, p3, p4, reduceIte, p5, p6, p7, p8, c1])) (fun i6 s6 hi h => ?_) (fun s6 h => ?_)
    · have w6 := wrap_succ (i := i6) (by omega)
      simp -failIfUnchanged only [↓RA, RB, RS, fx106, p1, p2, p3, p4, reduceIte, p5, p6, p7, p8, c1]
      refine CondH.tt (decide_eq_true (by omega)) (fun c2 => ?_)
      simp -failIfUnchanged only [↓RA, RB, RS, fx106, p1, p2, p3, p4, reduceIte, p5, p6, p7, p8, c1, c2]
      replace h := run_loop h
      refine Mg.forN h (fun i10 s10 => [(2, .box (.pv ((SizeGraph.pv false) a0))), (3, .box (.pv ((SizeGraph.pv false) a1))), (4, .box (.node [(.pv (I (0 : Int))), (.pv (I (0 : Int))), (.pv (.sl true 3 []))])), (5, .box (.node [(.pv (I a0.Source)), (.pv (I a1.Target)), (.own 256)])), (6, .val (.pv (I (i3 : Int)))), (7, .val (.pv (I (i6 : Int)))), (8, .val (.pv (I s10))), (9, .val (.pv (I (i10 : Int))))]) (fun i10 s10 => [(256, (3, s6.map (SizeEdge.pv false)))]) (St.le_mk2 (by simp -failIfUnchanged only [↓RA, RB, RS, fx106, p1, p2, p3, p4, reduceIte, p5, p6, p7, p8, c1, c2])) (fun i10 s10 hi h => ?_) (fun s10 h => ?_)
      · have w10 := wrap_succ (i := i10) (by omega)
        simp -failIfUnchanged only [↓RA, RB, RS, fx106, p1, p2, p3, p4, reduceIte, p5, p6, p7, p8, c1, c2]
        refine CondH.tt (decide_eq_true (by omega)) (fun c3 => ?_)
        simp -failIfUnchanged only [↓RA, RB, RS, fx106, p1, p2, p3, p4, reduceIte, p5, p6, p7, p8, c1, c2, c3]
        obtain ⟨v33, hv33, h⟩ := run_bind h
        refine CallH.mk [false, false, false] (spec_l24Level_sat hv33) ?_ ?_ <;> simp -failIfUnchanged only [↓RA, RB, RS, fx106, p1, p2, p3, p4, reduceIte, p5, p6, p7, p8, c1, c2, c3]
        obtain ⟨v37, hv37, h⟩ := run_bind h
        refine CallH.mk [false, false, false] (spec_l24Level_sat hv37) ?_ ?_ <;> simp -failIfUnchanged only [↓RA, RB, RS, fx106, p1, p2, p3, p4, reduceIte, p5, p6, p7, p8, c1, c2, c3]
        refine And.intro (DrawH.none (by rfl) (by first | rfl | (simp -failIfUnchanged only [↓RA, RB, RS, fx106, p1, p2, p3, p4, reduceIte, p5, p6, p7, p8] <;> rfl)) (by first | rfl | (simp -failIfUnchanged only [↓RA, RB, RS, fx106, p1, p2, p3, p4, reduceIte, p5, p6, p7, p8] <;> rfl)) (by first | rfl | (simp -failIfUnchanged only [↓RA, RB, RS, fx106, p1, p2, p3, p4, reduceIte, p5, p6, p7, p8] <;> rfl))) ?_
        simp -failIfUnchanged only [↓RA, RB, RS, fx106, p1, p2, p3, p4, reduceIte, p5, p6, p7, p8, c1, c2, c3]
        refine CondH.mk (fun c4 => ?_) (fun c4 => ?_)
        · replace h := run_t c4 h
          simp -failIfUnchanged only [↓RA, RB, RS, fx106, p1, p2, p3, p4, reduceIte, p5, p6, p7, p8, c1, c2, c3, c4]
          refine CondH.mk (fun c5 => ?_) (fun c5 => ?_)
          · replace h := run_t c5 h
            simp -failIfUnchanged only [↓RA, RB, RS, fx106, p1, p2, p3, p4, reduceIte, p5, p6, p7, p8, c1, c2, c3, c4, c5]
            obtain ⟨v47, hv47, h⟩ := run_bind h
            refine CallH.mk [false, false] (spec_l1Most_sat hv47) ?_ ?_ <;> simp -failIfUnchanged only [↓RA, RB, RS, fx106, p1, p2, p3, p4, reduceIte, p5, p6, p7, p8, c1, c2, c3, c4, c5]
            obtain ⟨v48, hv48, h⟩ := run_bind h
            refine CallH.mk [false, false] (spec_l1Most_sat hv48) ?_ ?_ <;> simp -failIfUnchanged only [↓RA, RB, RS, fx106, p1, p2, p3, p4, reduceIte, p5, p6, p7, p8, c1, c2, c3, c4, c5]
            have h := run_some h
            refine RdH.mk ⟨_, h, ?_⟩
            refine St.le_mk2 ?_
            simp -failIfUnchanged only [↓RA, RB, RS, fx106, p1, p2, p3, p4, reduceIte, p5, p6, p7, p8, c1, c2, c3, c4, c5, w10]
          · replace h := run_f c5 h
            simp -failIfUnchanged only [↓RA, RB, RS, fx106, p1, p2, p3, p4, reduceIte, p5, p6, p7, p8, c1, c2, c3, c4, c5]
            have h := run_some h
            refine RdH.mk ⟨_, h, ?_⟩
            refine St.le_mk2 ?_
            simp -failIfUnchanged only [↓RA, RB, RS, fx106, p1, p2, p3, p4, reduceIte, p5, p6, p7, p8, c1, c2, c3, c4, c5, w10]
        · replace h := run_f c4 h
          simp -failIfUnchanged only [↓RA, RB, RS, fx106, p1, p2, p3, p4, reduceIte, p5, p6, p7, p8, c1, c2, c3, c4]
          have h := run_some h
          refine RdH.mk ⟨_, h, ?_⟩
          refine St.le_mk2 ?_
          simp -failIfUnchanged only [↓RA, RB, RS, fx106, p1, p2, p3, p4, reduceIte, p5, p6, p7, p8, c1, c2, c3, c4, w10]
      · simp -failIfUnchanged only [↓RA, RB, RS, fx106, p1, p2, p3, p4, reduceIte, p5, p6, p7, p8, c1, c2]
        refine CondH.ff (decide_eq_false (by omega)) (fun c6 => ?_)
        simp -failIfUnchanged only [↓RA, RB, RS, fx106, p1, p2, p3, p4, reduceIte, p5, p6, p7, p8, c1, c2, c6]
        refine CondH.mk (fun c7 => ?_) (fun c7 => ?_)
        · replace h := run_t c7 h
          simp -failIfUnchanged only [↓RA, RB, RS, fx106, p1, p2, p3, p4, reduceIte, p5, p6, p7, p8, c1, c2, c6, c7]
          repeat (first | with_reducible refine noR_and (by repeat (first | exact noR_empty _ _ | exact noR_nilS _ _ | refine noR_mk _ _ _ _ _ rfl ?_ | refine noR_mkS _ _ _ _ _ rfl ?_)) ?_ | with_reducible refine noC_and (by repeat (first | exact noC_empty _ _ (by simp -failIfUnchanged only [↓RA, RB, RS, fx106, p1, p2, p3, p4, reduceIte, p5, p6, p7, p8]) | exact noC_nilS _ _ (by simp -failIfUnchanged only [↓RA, RB, RS, fx106, p1, p2, p3, p4, reduceIte, p5, p6, p7, p8]) | refine noC_mk _ _ _ _ _ rfl ?_ | refine noC_mkS _ _ _ _ _ rfl ?_)) ?_ | with_reducible refine and_ac ?_ | with_reducible refine And.intro (a := _ = List.range _) (by rfl) ?_)
          obtain ⟨v59, hv59, h⟩ := run_bind h
          refine AppH.mk (f := (SizeEdge.pv false)) (fun a => SizeEdge.psize _ a) hv59 ?_ ?_ ?_ <;> simp -failIfUnchanged only [↓RA, RB, RS, fx106, p1, p2, p3, p4, reduceIte, p5, p6, p7, p8, c1, c2, c6, c7]
          repeat (first | with_reducible refine noR_and (by repeat (first | exact noR_empty _ _ | exact noR_nilS _ _ | refine noR_mk _ _ _ _ _ rfl ?_ | refine noR_mkS _ _ _ _ _ rfl ?_)) ?_ | with_reducible refine noC_and (by repeat (first | exact noC_empty _ _ (by simp -failIfUnchanged only [↓RA, RB, RS, fx106, p1, p2, p3, p4, reduceIte, p5, p6, p7, p8]) | exact noC_nilS _ _ (by simp -failIfUnchanged only [↓RA, RB, RS, fx106, p1, p2, p3, p4, reduceIte, p5, p6, p7, p8]) | refine noC_mk _ _ _ _ _ rfl ?_ | refine noC_mkS _ _ _ _ _ rfl ?_)) ?_ | with_reducible refine and_ac ?_ | with_reducible refine And.intro (a := _ = List.range _) (by rfl) ?_)
          have h := run_some h
          refine RdH.mk ⟨_, h, ?_⟩
          refine St.le_trans (St.le_mk (S := [(2, .box (.pv ((SizeGraph.pv false) a0))), (3, .box (.pv ((SizeGraph.pv false) a1))), (4, .box (.node [(.pv (I (0 : Int))), (.pv (I (0 : Int))), (.pv (.sl true 3 []))])), (5, .box (.node [(.pv (I a0.Source)), (.pv (I a1.Target)), (.own 944)])), (6, .val (.pv (I (i3 : Int)))), (7, .val (.pv (I (IntKind.i64.wrap ((i6 : Int) + (1 : Int))))))]) (O := [(944, (3, v59.map (SizeEdge.pv false)))]) (by simp -failIfUnchanged only [↓RA, RB, RS, fx106, p1, p2, p3, p4, reduceIte, p5, p6, p7, p8, c1, c2, c6, c7, w6]) (by simp -failIfUnchanged only [↓RA, RB, RS, fx106, p1, p2, p3, p4, reduceIte, p5, p6, p7, p8, c1, c2, c6, c7, w6])) ?_
          refine St.le_rn 944 256 (by decide) (by repeat (first | exact noC_empty _ _ (by simp -failIfUnchanged only [↓RA, RB, RS, fx106, p1, p2, p3, p4, reduceIte, p5, p6, p7, p8]) | exact noC_nilS _ _ (by simp -failIfUnchanged only [↓RA, RB, RS, fx106, p1, p2, p3, p4, reduceIte, p5, p6, p7, p8]) | refine noC_mk _ _ _ _ _ rfl ?_ | refine noC_mkS _ _ _ _ _ rfl ?_)) ?_
          refine St.le_mk2 ?_
          simp -failIfUnchanged only [↓RA, RB, RS, fx106, p1, p2, p3, p4, reduceIte, p5, p6, p7, p8, c1, c2, c6, c7, w6]
        · replace h := run_f c7 h
          simp -failIfUnchanged only [↓RA, RB, RS, fx106, p1, p2, p3, p4, reduceIte, p5, p6, p7, p8, c1, c2, c6, c7]
          have h := run_some h
          refine RdH.mk ⟨_, h, ?_⟩
          refine St.le_mk2 ?_
          simp -failIfUnchanged only [↓RA, RB, RS, fx106, p1, p2, p3, p4, reduceIte, p5, p6, p7, p8, c1, c2, c6, c7, w6]
    · simp -failIfUnchanged only [↓RA, RB, RS, fx106, p1, p2, p3, p4, reduceIte, p5, p6, p7, p8, c1]
      refine CondH.ff (decide_eq_false (by omega)) (fun c8 => ?_)
      simp -failIfUnchanged only [↓RA, RB, RS, fx106, p1, p2, p3, p4, reduceIte, p5, p6, p7, p8, c1, c8]
      have h := run_some h
      refine RdH.mk ⟨_, h, ?_⟩
      refine St.le_mk2 ?_
      simp -failIfUnchanged only [↓RA, RB, RS, fx106, p1, p2, p3, p4, reduceIte, p5, p6, p7, p8, c1, c8, w3]
  · simp -failIfUnchanged only [↓RA, RB, RS, fx106, p1, p2, p3, p4, reduceIte, p5, p6, p7, p8]
    refine CondH.ff (decide_eq_false (by omega)) (fun c9 => ?_)
    simp -failIfUnchanged only [↓RA, RB, RS, fx106, p1, p2, p3, p4, reduceIte, p5, p6, p7, p8, c9]
    have h := run_some h
    obtain rfl : _ = r := h
    refine FinH.l ?_
    simp -failIfUnchanged only [↓RA, RB, RS, fx106, p1, p2, p3, p4, reduceIte, p5, p6, p7, p8, c9]

def fx51 := And.intro @ty_3 <| And.intro @zc_3 <| And.intro @z_3 <| And.intro @ty_4 <| And.intro @zc_4 <| And.intro @z_4 <| And.intro @u_4 <| And.intro @ty_45 <| And.intro @zc_45 <| And.intro @z_45 <| And.intro @fo_45_0 <| And.intro @fi_45_0 <| And.intro @ft_45_0 <| And.intro @fo_45_1 <| And.intro @fi_45_1 <| And.intro @ft_45_1 <| And.intro @fo_45_2 <| And.intro @fi_45_2 <| And.intro @ft_45_2 <| @lay_45
set_option maxHeartbeats 4000000 in
theorem spec_ComposeGraphs_sat {a0 : SizeGraph} {a1 : SizeGraph}  {r : SizeGraph × Bool} (h : spec_ComposeGraphs a0 a1 = some r) : Sat Try.prog 51 [((SizeGraph.pv false) a0), ((SizeGraph.pv false) a1)] (.tup [((SizeGraph.pv true) r.1), (B r.2)]) := by
  replace h := Run.of h
  unfold spec_ComposeGraphs at h
  refine Sat.of_m (nt := 25) (rs := [.cell 4 45, .tmp 5]) (n := 100000) Try.func51 rfl rfl rfl rfl (by simp) ?_
  simp -failIfUnchanged only [↓RA, RB, RS, fx51, p1, p2, p3, p4, reduceIte, p5, p6, p7, p8]
  repeat (first | with_reducible refine noR_and (by repeat (first | exact noR_empty _ _ | exact noR_nilS _ _ | refine noR_mk _ _ _ _ _ rfl ?_ | refine noR_mkS _ _ _ _ _ rfl ?_)) ?_ | with_reducible refine noC_and (by repeat (first | exact noC_empty _ _ (by simp -failIfUnchanged only [↓RA, RB, RS, fx51, p1, p2, p3, p4, reduceIte, p5, p6, p7, p8]) | exact noC_nilS _ _ (by simp -failIfUnchanged only [↓RA, RB, RS, fx51, p1, p2, p3, p4, reduceIte, p5, p6, p7, p8]) | refine noC_mk _ _ _ _ _ rfl ?_ | refine noC_mkS _ _ _ _ _ rfl ?_)) ?_ | with_reducible refine and_ac ?_ | with_reducible refine And.intro (a := _ = List.range _) (by rfl) ?_)
  obtain ⟨v7, hv7, h⟩ := run_bind h
  refine CallH.mk [false] (spec_l24Graph_sat hv7) ?_ ?_ <;> simp -failIfUnchanged only [↓RA, RB, RS, fx51, p1, p2, p3, p4, reduceIte, p5, p6, p7, p8]
  refine CondH.mk (fun c1 => ?_) (fun c1 => ?_)
  · replace h := run_t c1 h
    simp -failIfUnchanged only [↓RA, RB, RS, fx51, p1, p2, p3, p4, reduceIte, p5, p6, p7, p8, c1]
    obtain ⟨v11, hv11, h⟩ := run_bind h
    refine CallH.mk [false] (spec_l24Graph_sat hv11) ?_ ?_ <;> simp -failIfUnchanged only [↓RA, RB, RS, fx51, p1, p2, p3, p4, reduceIte, p5, p6, p7, p8, c1]
    refine CondH.mk (fun c2 => ?_) (fun c2 => ?_)
    · replace h := run_t c2 h
      simp -failIfUnchanged only [↓RA, RB, RS, fx51, p1, p2, p3, p4, reduceIte, p5, p6, p7, p8, c1, c2]
      refine CondH.mk (fun c3 => ?_) (fun c3 => ?_)
      · replace h := run_t c3 h
        simp -failIfUnchanged only [↓RA, RB, RS, fx51, p1, p2, p3, p4, reduceIte, p5, p6, p7, p8, c1, c2, c3]
        obtain ⟨v24, hv24, h⟩ := run_bind h
        refine CallH.mk [false, false] (spec_l24Compose_sat hv24) ?_ ?_ <;> simp -failIfUnchanged only [↓RA, RB, RS, fx51, p1, p2, p3, p4, reduceIte, p5, p6, p7, p8, c1, c2, c3]
        repeat (first | with_reducible refine noR_and (by repeat (first | exact noR_empty _ _ | exact noR_nilS _ _ | refine noR_mk _ _ _ _ _ rfl ?_ | refine noR_mkS _ _ _ _ _ rfl ?_)) ?_ | with_reducible refine noC_and (by repeat (first | exact noC_empty _ _ (by simp -failIfUnchanged only [↓RA, RB, RS, fx51, p1, p2, p3, p4, reduceIte, p5, p6, p7, p8]) | exact noC_nilS _ _ (by simp -failIfUnchanged only [↓RA, RB, RS, fx51, p1, p2, p3, p4, reduceIte, p5, p6, p7, p8]) | refine noC_mk _ _ _ _ _ rfl ?_ | refine noC_mkS _ _ _ _ _ rfl ?_)) ?_ | with_reducible refine and_ac ?_ | with_reducible refine And.intro (a := _ = List.range _) (by rfl) ?_)
        have h := run_some h
        obtain rfl : _ = r := h
        refine FinH.l ?_
        simp -failIfUnchanged only [↓RA, RB, RS, fx51, p1, p2, p3, p4, reduceIte, p5, p6, p7, p8, c1, c2, c3]
      · replace h := run_f c3 h
        simp -failIfUnchanged only [↓RA, RB, RS, fx51, p1, p2, p3, p4, reduceIte, p5, p6, p7, p8, c1, c2, c3]
        have h := run_some h
        obtain rfl : _ = r := h
        refine FinH.l ?_
        simp -failIfUnchanged only [↓RA, RB, RS, fx51, p1, p2, p3, p4, reduceIte, p5, p6, p7, p8, c1, c2, c3]
    · replace h := run_f c2 h
      simp -failIfUnchanged only [↓RA, RB, RS, fx51, p1, p2, p3, p4, reduceIte, p5, p6, p7, p8, c1, c2]
      have h := run_some h
      obtain rfl : _ = r := h
      refine FinH.l ?_
      simp -failIfUnchanged only [↓RA, RB, RS, fx51, p1, p2, p3, p4, reduceIte, p5, p6, p7, p8, c1, c2]
  · replace h := run_f c1 h
    simp -failIfUnchanged only [↓RA, RB, RS, fx51, p1, p2, p3, p4, reduceIte, p5, p6, p7, p8, c1]
    have h := run_some h
    obtain rfl : _ = r := h
    refine FinH.l ?_
    simp -failIfUnchanged only [↓RA, RB, RS, fx51, p1, p2, p3, p4, reduceIte, p5, p6, p7, p8, c1]

def fx62 := And.intro @ty_3 <| And.intro @zc_3 <| @z_3
set_option maxHeartbeats 4000000 in
theorem impl_within_sat {a0 : Int} {a1 : Int} {a2 : Int}  {r : Bool} (h : impl_within a0 a1 a2 = some r) : Sat Try.prog 62 [(I a0), (I a1), (I a2)] (B r) := by
  replace h := Run.of h
  unfold impl_within at h
  refine Sat.of_m (nt := 15) (rs := [.tmp 6]) (n := 100000) Try.func62 rfl rfl rfl rfl (by simp) ?_
  simp -failIfUnchanged only [↓RA, RB, RS, fx62, p1, p2, p3, p4, reduceIte, p5, p6, p7, p8]
  refine CondH.mk (fun c1 => ?_) (fun c1 => ?_)
  · replace h := run_t c1 h
    simp -failIfUnchanged only [↓RA, RB, RS, fx62, p1, p2, p3, p4, reduceIte, p5, p6, p7, p8, c1]
    have h := run_some h
    obtain rfl : _ = r := h
    refine FinH.l ?_
    simp -failIfUnchanged only [↓RA, RB, RS, fx62, p1, p2, p3, p4, reduceIte, p5, p6, p7, p8, c1]
  · replace h := run_f c1 h
    simp -failIfUnchanged only [↓RA, RB, RS, fx62, p1, p2, p3, p4, reduceIte, p5, p6, p7, p8, c1]
    have h := run_some h
    obtain rfl : _ = r := h
    refine FinH.l ?_
    simp -failIfUnchanged only [↓RA, RB, RS, fx62, p1, p2, p3, p4, reduceIte, p5, p6, p7, p8, c1]

def fx137 := And.intro @ty_3 <| And.intro @zc_3 <| @z_3
set_option maxHeartbeats 4000000 in
theorem cmp_isNaN_int_sat {a0 : Int}  {r : Bool} (h : cmp_isNaN_int a0 = some r) : Sat Try.prog 137 [(I a0)] (B r) := by
  replace h := Run.of h
  unfold cmp_isNaN_int at h
  refine Sat.of_m (nt := 6) (rs := [.tmp 2]) (n := 100000) Try.func137 rfl rfl rfl rfl (by simp) ?_
  simp -failIfUnchanged only [↓RA, RB, RS, fx137, p1, p2, p3, p4, reduceIte, p5, p6, p7, p8]
  have h := run_some h
  obtain rfl : _ = r := h
  refine FinH.l ?_
  simp -failIfUnchanged only [↓RA, RB, RS, fx137, p1, p2, p3, p4, reduceIte, p5, p6, p7, p8]

def fx118 := And.intro @ty_3 <| And.intro @zc_3 <| @z_3
set_option maxHeartbeats 4000000 in
theorem cmp_Compare_int_sat {a0 : Int} {a1 : Int}  {r : Int} (h : cmp_Compare_int a0 a1 = some r) : Sat Try.prog 118 [(I a0), (I a1)] (I r) := by
  replace h := Run.of h
  unfold cmp_Compare_int at h
  refine Sat.of_m (nt := 20) (rs := [.tmp 4]) (n := 100000) Try.func118 rfl rfl rfl rfl (by simp) ?_
  simp -failIfUnchanged only [↓RA, RB, RS, fx118, p1, p2, p3, p4, reduceIte, p5, p6, p7, p8]
  obtain ⟨v8, hv8, h⟩ := run_bind h
  refine CallH.mk [false] (cmp_isNaN_int_sat hv8) ?_ ?_ <;> simp -failIfUnchanged only [↓RA, RB, RS, fx118, p1, p2, p3, p4, reduceIte, p5, p6, p7, p8]
  obtain ⟨v10, hv10, h⟩ := run_bind h
  refine CallH.mk [false] (cmp_isNaN_int_sat hv10) ?_ ?_ <;> simp -failIfUnchanged only [↓RA, RB, RS, fx118, p1, p2, p3, p4, reduceIte, p5, p6, p7, p8]
  refine CondH.mk (fun c1 => ?_) (fun c1 => ?_)
  · replace h := run_t c1 h
    simp -failIfUnchanged only [↓RA, RB, RS, fx118, p1, p2, p3, p4, reduceIte, p5, p6, p7, p8, c1]
    refine CondH.mk (fun c2 => ?_) (fun c2 => ?_)
    · replace h := run_t c2 h
      simp -failIfUnchanged only [↓RA, RB, RS, fx118, p1, p2, p3, p4, reduceIte, p5, p6, p7, p8, c1, c2]
      have h := run_some h
      obtain rfl : _ = r := h
      refine FinH.l ?_
      simp -failIfUnchanged only [↓RA, RB, RS, fx118, p1, p2, p3, p4, reduceIte, p5, p6, p7, p8, c1, c2]
    · replace h := run_f c2 h
      simp -failIfUnchanged only [↓RA, RB, RS, fx118, p1, p2, p3, p4, reduceIte, p5, p6, p7, p8, c1, c2]
      have h := run_some h
      obtain rfl : _ = r := h
      refine FinH.l ?_
      simp -failIfUnchanged only [↓RA, RB, RS, fx118, p1, p2, p3, p4, reduceIte, p5, p6, p7, p8, c1, c2]
  · replace h := run_f c1 h
    simp -failIfUnchanged only [↓RA, RB, RS, fx118, p1, p2, p3, p4, reduceIte, p5, p6, p7, p8, c1]
    refine CondH.mk (fun c3 => ?_) (fun c3 => ?_)
    · replace h := run_t c3 h
      simp -failIfUnchanged only [↓RA, RB, RS, fx118, p1, p2, p3, p4, reduceIte, p5, p6, p7, p8, c1, c3]
      have h := run_some h
      obtain rfl : _ = r := h
      refine FinH.l ?_
      simp -failIfUnchanged only [↓RA, RB, RS, fx118, p1, p2, p3, p4, reduceIte, p5, p6, p7, p8, c1, c3]
    · replace h := run_f c3 h
      simp -failIfUnchanged only [↓RA, RB, RS, fx118, p1, p2, p3, p4, reduceIte, p5, p6, p7, p8, c1, c3]
      refine CondH.mk (fun c4 => ?_) (fun c4 => ?_)
      · replace h := run_t c4 h
        simp -failIfUnchanged only [↓RA, RB, RS, fx118, p1, p2, p3, p4, reduceIte, p5, p6, p7, p8, c1, c3, c4]
        have h := run_some h
        obtain rfl : _ = r := h
        refine FinH.l ?_
        simp -failIfUnchanged only [↓RA, RB, RS, fx118, p1, p2, p3, p4, reduceIte, p5, p6, p7, p8, c1, c3, c4]
      · replace h := run_f c4 h
        simp -failIfUnchanged only [↓RA, RB, RS, fx118, p1, p2, p3, p4, reduceIte, p5, p6, p7, p8, c1, c3, c4]
        refine CondH.mk (fun c5 => ?_) (fun c5 => ?_)
        · replace h := run_t c5 h
          simp -failIfUnchanged only [↓RA, RB, RS, fx118, p1, p2, p3, p4, reduceIte, p5, p6, p7, p8, c1, c3, c4, c5]
          have h := run_some h
          obtain rfl : _ = r := h
          refine FinH.l ?_
          simp -failIfUnchanged only [↓RA, RB, RS, fx118, p1, p2, p3, p4, reduceIte, p5, p6, p7, p8, c1, c3, c4, c5]
        · replace h := run_f c5 h
          simp -failIfUnchanged only [↓RA, RB, RS, fx118, p1, p2, p3, p4, reduceIte, p5, p6, p7, p8, c1, c3, c4, c5]
          have h := run_some h
          obtain rfl : _ = r := h
          refine FinH.l ?_
          simp -failIfUnchanged only [↓RA, RB, RS, fx118, p1, p2, p3, p4, reduceIte, p5, p6, p7, p8, c1, c3, c4, c5]

def fx117 := And.intro @ty_3 <| And.intro @zc_3 <| And.intro @z_3 <| And.intro @ty_50 <| And.intro @zc_50 <| And.intro @z_50 <| And.intro @es_50 <| And.intro @eb_50 <| And.intro @sl_50 <| And.intro @is_50 <| And.intro @el_50 <| And.intro @ze_50 <| @ez_50
set_option maxHeartbeats 4000000 in
theorem cmp_Or_int_sat {a0 : List Int}  {r : Int} (h : cmp_Or_int a0 = some r) : Sat Try.prog 117 [(.sl false 1 (a0.map I))] (I r) := by
  replace h := Run.of h
  unfold cmp_Or_int at h
  refine Sat.of_m (nt := 18) (rs := [.tmp 2]) (n := 100000) Try.func117 rfl rfl rfl rfl (by simp) ?_
  simp -failIfUnchanged only [↓RA, RB, RS, fx117, p1, p2, p3, p4, reduceIte, p5, p6, p7, p8]
  refine Mg.know_sl (b := false) (sz := 1) (es := a0.map I) 0 (by simp -failIfUnchanged only [↓RA, RB, RS, fx117, p1, p2, p3, p4, reduceIte, p5, p6, p7, p8]) fun hl0 => ?_; rw [List.length_map] at hl0
  replace h := run_loop h
  refine Mg.forN h (fun i3 s3 => [(3, .val (.pv (I (0 : Int)))), (6, .val (.pv (.sl false 1 (a0.map I)))), (7, .val (.pv (I (a0.length : Int)))), (8, .val (.pv (I (i3 : Int))))]) (fun i3 s3 => []) (St.le_mk2 (by simp -failIfUnchanged only [↓RA, RB, RS, fx117, p1, p2, p3, p4, reduceIte, p5, p6, p7, p8])) (fun i3 s3 hi h => ?_) (fun s3 h => ?_)
  · have w3 := wrap_succ (i := i3) (by omega)
    simp -failIfUnchanged only [↓RA, RB, RS, fx117, p1, p2, p3, p4, reduceIte, p5, p6, p7, p8]
    refine CondH.tt (decide_eq_true (by omega)) (fun c1 => ?_)
    simp -failIfUnchanged only [↓RA, RB, RS, fx117, p1, p2, p3, p4, reduceIte, p5, p6, p7, p8, c1]
    obtain ⟨v10, hv10, h⟩ := run_bind h
    refine IdxH.mk (f := I) hv10 ?_ ?_ <;> simp -failIfUnchanged only [↓RA, RB, RS, fx117, p1, p2, p3, p4, reduceIte, p5, p6, p7, p8, c1]
    refine CondH.mk (fun c2 => ?_) (fun c2 => ?_)
    · replace h := run_t c2 h
      simp -failIfUnchanged only [↓RA, RB, RS, fx117, p1, p2, p3, p4, reduceIte, p5, p6, p7, p8, c1, c2]
      have h := run_some h
      refine RdH.mk ⟨_, h, ?_⟩
      refine St.le_mk2 ?_
      simp -failIfUnchanged only [↓RA, RB, RS, fx117, p1, p2, p3, p4, reduceIte, p5, p6, p7, p8, c1, c2, w3]
    · replace h := run_f c2 h
      simp -failIfUnchanged only [↓RA, RB, RS, fx117, p1, p2, p3, p4, reduceIte, p5, p6, p7, p8, c1, c2]
      have h := run_some h
      obtain rfl : _ = r := h
      refine FinH.l ?_
      simp -failIfUnchanged only [↓RA, RB, RS, fx117, p1, p2, p3, p4, reduceIte, p5, p6, p7, p8, c1, c2]
  · simp -failIfUnchanged only [↓RA, RB, RS, fx117, p1, p2, p3, p4, reduceIte, p5, p6, p7, p8]
    refine CondH.ff (decide_eq_false (by omega)) (fun c3 => ?_)
    simp -failIfUnchanged only [↓RA, RB, RS, fx117, p1, p2, p3, p4, reduceIte, p5, p6, p7, p8, c3]
    have h := run_some h
    obtain rfl : _ = r := h
    refine FinH.l ?_
    simp -failIfUnchanged only [↓RA, RB, RS, fx117, p1, p2, p3, p4, reduceIte, p5, p6, p7, p8, c3]

def fx73 := And.intro @ty_3 <| And.intro @zc_3 <| And.intro @z_3 <| And.intro @ty_50 <| And.intro @zc_50 <| And.intro @z_50 <| And.intro @es_50 <| And.intro @eb_50 <| And.intro @sl_50 <| And.intro @is_50 <| And.intro @el_50 <| And.intro @ze_50 <| And.intro @ez_50 <| And.intro @ty_103 <| And.intro @zc_103 <| And.intro @z_103 <| And.intro @fo_103_0 <| And.intro @fi_103_0 <| And.intro @ft_103_0 <| And.intro @fo_103_1 <| And.intro @fi_103_1 <| And.intro @ft_103_1 <| And.intro @fo_103_2 <| And.intro @fi_103_2 <| And.intro @ft_103_2 <| And.intro @lay_103 <| @mixedT
set_option maxHeartbeats 4000000 in
theorem impl_compareEdges_sat {a0 : SizeEdge} {a1 : SizeEdge}  {r : Int} (h : impl_compareEdges a0 a1 = some r) : Sat Try.prog 73 [((SizeEdge.pv false) a0), ((SizeEdge.pv false) a1)] (I r) := by
  replace h := Run.of h
  unfold impl_compareEdges at h
  refine Sat.of_m (nt := 17) (rs := [.tmp 4]) (n := 100000) Try.func73 rfl rfl rfl rfl (by simp) ?_
  simp -failIfUnchanged only [↓RA, RB, RS, fx73, p1, p2, p3, p4, reduceIte, p5, p6, p7, p8]
  repeat (first | with_reducible refine noR_and (by repeat (first | exact noR_empty _ _ | exact noR_nilS _ _ | refine noR_mk _ _ _ _ _ rfl ?_ | refine noR_mkS _ _ _ _ _ rfl ?_)) ?_ | with_reducible refine noC_and (by repeat (first | exact noC_empty _ _ (by simp -failIfUnchanged only [↓RA, RB, RS, fx73, p1, p2, p3, p4, reduceIte, p5, p6, p7, p8]) | exact noC_nilS _ _ (by simp -failIfUnchanged only [↓RA, RB, RS, fx73, p1, p2, p3, p4, reduceIte, p5, p6, p7, p8]) | refine noC_mk _ _ _ _ _ rfl ?_ | refine noC_mkS _ _ _ _ _ rfl ?_)) ?_ | with_reducible refine and_ac ?_ | with_reducible refine And.intro (a := _ = List.range _) (by rfl) ?_)
  obtain ⟨v9, hv9, h⟩ := run_bind h
  refine CallH.mk [false, false] (cmp_Compare_int_sat hv9) ?_ ?_ <;> simp -failIfUnchanged only [↓RA, RB, RS, fx73, p1, p2, p3, p4, reduceIte, p5, p6, p7, p8]
  obtain ⟨v14, hv14, h⟩ := run_bind h
  refine CallH.mk [false, false] (cmp_Compare_int_sat hv14) ?_ ?_ <;> simp -failIfUnchanged only [↓RA, RB, RS, fx73, p1, p2, p3, p4, reduceIte, p5, p6, p7, p8]
  repeat (first | with_reducible refine noR_and (by repeat (first | exact noR_empty _ _ | exact noR_nilS _ _ | refine noR_mk _ _ _ _ _ rfl ?_ | refine noR_mkS _ _ _ _ _ rfl ?_)) ?_ | with_reducible refine noC_and (by repeat (first | exact noC_empty _ _ (by simp -failIfUnchanged only [↓RA, RB, RS, fx73, p1, p2, p3, p4, reduceIte, p5, p6, p7, p8]) | exact noC_nilS _ _ (by simp -failIfUnchanged only [↓RA, RB, RS, fx73, p1, p2, p3, p4, reduceIte, p5, p6, p7, p8]) | refine noC_mk _ _ _ _ _ rfl ?_ | refine noC_mkS _ _ _ _ _ rfl ?_)) ?_ | with_reducible refine and_ac ?_ | with_reducible refine And.intro (a := _ = List.range _) (by rfl) ?_)
  obtain ⟨v16, hv16, h⟩ := run_bind h
  refine CallH.mk [false] (cmp_Or_int_sat hv16) ?_ ?_ <;> simp -failIfUnchanged only [↓RA, RB, RS, fx73, p1, p2, p3, p4, reduceIte, p5, p6, p7, p8]
  refine And.intro (DrawH.mk [] [240] (by rfl) (by first | rfl | (simp -failIfUnchanged only [↓RA, RB, RS, fx73, p1, p2, p3, p4, reduceIte, p5, p6, p7, p8] <;> rfl)) (by first | rfl | (simp -failIfUnchanged only [↓RA, RB, RS, fx73, p1, p2, p3, p4, reduceIte, p5, p6, p7, p8] <;> rfl)) (by first | rfl | (simp -failIfUnchanged only [↓RA, RB, RS, fx73, p1, p2, p3, p4, reduceIte, p5, p6, p7, p8] <;> rfl)) (by simp) (by simp -failIfUnchanged only [↓RA, RB, RS, fx73, p1, p2, p3, p4, reduceIte, p5, p6, p7, p8]; repeat (first | exact noC_empty _ _ (by simp -failIfUnchanged only [↓RA, RB, RS, fx73, p1, p2, p3, p4, reduceIte, p5, p6, p7, p8]) | exact noC_nilS _ _ (by simp -failIfUnchanged only [↓RA, RB, RS, fx73, p1, p2, p3, p4, reduceIte, p5, p6, p7, p8]) | refine noC_mk _ _ _ _ _ rfl ?_ | refine noC_mkS _ _ _ _ _ rfl ?_ | refine And.intro ?_ ?_))) ?_
  simp -failIfUnchanged only [↓RA, RB, RS, fx73, p1, p2, p3, p4, reduceIte, p5, p6, p7, p8]
  have h := run_some h
  obtain rfl : _ = r := h
  refine FinH.l ?_
  simp -failIfUnchanged only [↓RA, RB, RS, fx73, p1, p2, p3, p4, reduceIte, p5, p6, p7, p8]

def fx26 := And.intro @ty_3 <| And.intro @zc_3 <| And.intro @z_3 <| And.intro @ty_4 <| And.intro @zc_4 <| And.intro @z_4 <| And.intro @u_4 <| And.intro @ty_43 <| And.intro @zc_43 <| And.intro @z_43 <| And.intro @es_43 <| And.intro @eb_43 <| And.intro @sl_43 <| And.intro @is_43 <| And.intro @el_43 <| And.intro @ze_43 <| And.intro @ez_43 <| And.intro @ty_45 <| And.intro @zc_45 <| And.intro @z_45 <| And.intro @fo_45_0 <| And.intro @fi_45_0 <| And.intro @ft_45_0 <| And.intro @fo_45_1 <| And.intro @fi_45_1 <| And.intro @ft_45_1 <| And.intro @fo_45_2 <| And.intro @fi_45_2 <| And.intro @ft_45_2 <| And.intro @lay_45 <| And.intro @ty_103 <| And.intro @zc_103 <| And.intro @z_103 <| And.intro @fo_103_0 <| And.intro @fi_103_0 <| And.intro @ft_103_0 <| And.intro @fo_103_1 <| And.intro @fi_103_1 <| And.intro @ft_103_1 <| And.intro @fo_103_2 <| And.intro @fi_103_2 <| And.intro @ft_103_2 <| And.intro @lay_103 <| @mixedT
set_option maxHeartbeats 4000000 in
theorem impl_IsValidGraph_sat {a0 : SizeGraph}  {r : Bool} (h : impl_IsValidGraph a0 = some r) : Sat Try.prog 26 [((SizeGraph.pv false) a0)] (B r) := by
  replace h := Run.of h
  unfold impl_IsValidGraph at h
  refine Sat.of_m (nt := 47) (rs := [.tmp 2]) (n := 100000) Try.func26 rfl rfl rfl rfl (by simp) ?_
  simp -failIfUnchanged only [↓RA, RB, RS, fx26, p1, p2, p3, p4, reduceIte, p5, p6, p7, p8]
  repeat (first | with_reducible refine noR_and (by repeat (first | exact noR_empty _ _ | exact noR_nilS _ _ | refine noR_mk _ _ _ _ _ rfl ?_ | refine noR_mkS _ _ _ _ _ rfl ?_)) ?_ | with_reducible refine noC_and (by repeat (first | exact noC_empty _ _ (by simp -failIfUnchanged only [↓RA, RB, RS, fx26, p1, p2, p3, p4, reduceIte, p5, p6, p7, p8]) | exact noC_nilS _ _ (by simp -failIfUnchanged only [↓RA, RB, RS, fx26, p1, p2, p3, p4, reduceIte, p5, p6, p7, p8]) | refine noC_mk _ _ _ _ _ rfl ?_ | refine noC_mkS _ _ _ _ _ rfl ?_)) ?_ | with_reducible refine and_ac ?_ | with_reducible refine And.intro (a := _ = List.range _) (by rfl) ?_)
  refine Mg.know_sl (b := false) (sz := 3) (es := a0.Edges.map (SizeEdge.pv false)) 6 (by simp -failIfUnchanged only [↓RA, RB, RS, fx26, p1, p2, p3, p4, reduceIte, p5, p6, p7, p8]) fun hl6 => ?_; rw [List.length_map] at hl6
  replace h := run_loop h
  refine Mg.forN h (fun i2 s2 => [(1, .box (.pv ((SizeGraph.pv false) a0))), (6, .val (.pv (.sl false 3 (a0.Edges.map (SizeEdge.pv false))))), (7, .val (.pv (I (a0.Edges.length : Int)))), (8, .val (.pv (I (i2 : Int))))]) (fun i2 s2 => []) (St.le_mk2 (by simp -failIfUnchanged only [↓RA, RB, RS, fx26, p1, p2, p3, p4, reduceIte, p5, p6, p7, p8])) (fun i2 s2 hi h => ?_) (fun s2 h => ?_)
  · have w2 := wrap_succ (i := i2) (by omega)
    simp -failIfUnchanged only [↓RA, RB, RS, fx26, p1, p2, p3, p4, reduceIte, p5, p6, p7, p8]
    refine CondH.tt (decide_eq_true (by omega)) (fun c1 => ?_)
    simp -failIfUnchanged only [↓RA, RB, RS, fx26, p1, p2, p3, p4, reduceIte, p5, p6, p7, p8, c1]
    obtain ⟨v11, hv11, h⟩ := run_bind h
    refine IdxH.mk (f := (SizeEdge.pv false)) hv11 ?_ ?_ <;> simp -failIfUnchanged only [↓RA, RB, RS, fx26, p1, p2, p3, p4, reduceIte, p5, p6, p7, p8, c1]
    repeat (first | with_reducible refine noR_and (by repeat (first | exact noR_empty _ _ | exact noR_nilS _ _ | refine noR_mk _ _ _ _ _ rfl ?_ | refine noR_mkS _ _ _ _ _ rfl ?_)) ?_ | with_reducible refine noC_and (by repeat (first | exact noC_empty _ _ (by simp -failIfUnchanged only [↓RA, RB, RS, fx26, p1, p2, p3, p4, reduceIte, p5, p6, p7, p8]) | exact noC_nilS _ _ (by simp -failIfUnchanged only [↓RA, RB, RS, fx26, p1, p2, p3, p4, reduceIte, p5, p6, p7, p8]) | refine noC_mk _ _ _ _ _ rfl ?_ | refine noC_mkS _ _ _ _ _ rfl ?_)) ?_ | with_reducible refine and_ac ?_ | with_reducible refine And.intro (a := _ = List.range _) (by rfl) ?_)
    obtain ⟨v15, hv15, h⟩ := run_bind h
    refine CallH.mk [false, false, false] (impl_within_sat hv15) ?_ ?_ <;> simp -failIfUnchanged only [↓RA, RB, RS, fx26, p1, p2, p3, p4, reduceIte, p5, p6, p7, p8, c1]
    refine CondH.mk (fun c2 => ?_) (fun c2 => ?_)
    · replace h := run_t c2 h
      simp -failIfUnchanged only [↓RA, RB, RS, fx26, p1, p2, p3, p4, reduceIte, p5, p6, p7, p8, c1, c2]
      obtain ⟨v20, hv20, h⟩ := run_bind h
      refine CallH.mk [false, false, false] (impl_within_sat hv20) ?_ ?_ <;> simp -failIfUnchanged only [↓RA, RB, RS, fx26, p1, p2, p3, p4, reduceIte, p5, p6, p7, p8, c1, c2]
      refine CondH.mk (fun c3 => ?_) (fun c3 => ?_)
      · replace h := run_t c3 h
        simp -failIfUnchanged only [↓RA, RB, RS, fx26, p1, p2, p3, p4, reduceIte, p5, p6, p7, p8, c1, c2, c3]
        refine CondH.mk (fun c4 => ?_) (fun c4 => ?_)
        · replace h := run_t c4 h
          simp -failIfUnchanged only [↓RA, RB, RS, fx26, p1, p2, p3, p4, reduceIte, p5, p6, p7, p8, c1, c2, c3, c4]
          obtain ⟨v31, hv31, h⟩ := run_bind h
          refine IdxH.mk (f := (SizeEdge.pv false)) hv31 ?_ ?_ <;> simp -failIfUnchanged only [↓RA, RB, RS, fx26, p1, p2, p3, p4, reduceIte, p5, p6, p7, p8, c1, c2, c3, c4]
          obtain ⟨v34, hv34, h⟩ := run_bind h
          refine CallH.mk [false, false] (impl_compareEdges_sat hv34) ?_ ?_ <;> simp -failIfUnchanged only [↓RA, RB, RS, fx26, p1, p2, p3, p4, reduceIte, p5, p6, p7, p8, c1, c2, c3, c4]
          refine And.intro (DrawH.none (by rfl) (by first | rfl | (simp -failIfUnchanged only [↓RA, RB, RS, fx26, p1, p2, p3, p4, reduceIte, p5, p6, p7, p8] <;> rfl)) (by first | rfl | (simp -failIfUnchanged only [↓RA, RB, RS, fx26, p1, p2, p3, p4, reduceIte, p5, p6, p7, p8] <;> rfl)) (by first | rfl | (simp -failIfUnchanged only [↓RA, RB, RS, fx26, p1, p2, p3, p4, reduceIte, p5, p6, p7, p8] <;> rfl))) ?_
          simp -failIfUnchanged only [↓RA, RB, RS, fx26, p1, p2, p3, p4, reduceIte, p5, p6, p7, p8, c1, c2, c3, c4]
          refine CondH.mk (fun c5 => ?_) (fun c5 => ?_)
          · replace h := run_t c5 h
            simp -failIfUnchanged only [↓RA, RB, RS, fx26, p1, p2, p3, p4, reduceIte, p5, p6, p7, p8, c1, c2, c3, c4, c5]
            have h := run_some h
            obtain rfl : _ = r := h
            refine FinH.l ?_
            simp -failIfUnchanged only [↓RA, RB, RS, fx26, p1, p2, p3, p4, reduceIte, p5, p6, p7, p8, c1, c2, c3, c4, c5]
          · replace h := run_f c5 h
            simp -failIfUnchanged only [↓RA, RB, RS, fx26, p1, p2, p3, p4, reduceIte, p5, p6, p7, p8, c1, c2, c3, c4, c5]
            have h := run_some h
            refine RdH.mk ⟨_, h, ?_⟩
            refine St.le_mk2 ?_
            simp -failIfUnchanged only [↓RA, RB, RS, fx26, p1, p2, p3, p4, reduceIte, p5, p6, p7, p8, c1, c2, c3, c4, c5, w2]
        · replace h := run_f c4 h
          simp -failIfUnchanged only [↓RA, RB, RS, fx26, p1, p2, p3, p4, reduceIte, p5, p6, p7, p8, c1, c2, c3, c4]
          refine And.intro (DrawH.none (by rfl) (by first | rfl | (simp -failIfUnchanged only [↓RA, RB, RS, fx26, p1, p2, p3, p4, reduceIte, p5, p6, p7, p8] <;> rfl)) (by first | rfl | (simp -failIfUnchanged only [↓RA, RB, RS, fx26, p1, p2, p3, p4, reduceIte, p5, p6, p7, p8] <;> rfl)) (by first | rfl | (simp -failIfUnchanged only [↓RA, RB, RS, fx26, p1, p2, p3, p4, reduceIte, p5, p6, p7, p8] <;> rfl))) ?_
          simp -failIfUnchanged only [↓RA, RB, RS, fx26, p1, p2, p3, p4, reduceIte, p5, p6, p7, p8, c1, c2, c3, c4]
          have h := run_some h
          refine RdH.mk ⟨_, h, ?_⟩
          refine St.le_mk2 ?_
          simp -failIfUnchanged only [↓RA, RB, RS, fx26, p1, p2, p3, p4, reduceIte, p5, p6, p7, p8, c1, c2, c3, c4, w2]
      · replace h := run_f c3 h
        simp -failIfUnchanged only [↓RA, RB, RS, fx26, p1, p2, p3, p4, reduceIte, p5, p6, p7, p8, c1, c2, c3]
        refine And.intro (DrawH.none (by rfl) (by first | rfl | (simp -failIfUnchanged only [↓RA, RB, RS, fx26, p1, p2, p3, p4, reduceIte, p5, p6, p7, p8] <;> rfl)) (by first | rfl | (simp -failIfUnchanged only [↓RA, RB, RS, fx26, p1, p2, p3, p4, reduceIte, p5, p6, p7, p8] <;> rfl)) (by first | rfl | (simp -failIfUnchanged only [↓RA, RB, RS, fx26, p1, p2, p3, p4, reduceIte, p5, p6, p7, p8] <;> rfl))) ?_
        simp -failIfUnchanged only [↓RA, RB, RS, fx26, p1, p2, p3, p4, reduceIte, p5, p6, p7, p8, c1, c2, c3]
        have h := run_some h
        obtain rfl : _ = r := h
        refine FinH.l ?_
        simp -failIfUnchanged only [↓RA, RB, RS, fx26, p1, p2, p3, p4, reduceIte, p5, p6, p7, p8, c1, c2, c3]
    · replace h := run_f c2 h
      simp -failIfUnchanged only [↓RA, RB, RS, fx26, p1, p2, p3, p4, reduceIte, p5, p6, p7, p8, c1, c2]
      refine And.intro (DrawH.none (by rfl) (by first | rfl | (simp -failIfUnchanged only [↓RA, RB, RS, fx26, p1, p2, p3, p4, reduceIte, p5, p6, p7, p8] <;> rfl)) (by first | rfl | (simp -failIfUnchanged only [↓RA, RB, RS, fx26, p1, p2, p3, p4, reduceIte, p5, p6, p7, p8] <;> rfl)) (by first | rfl | (simp -failIfUnchanged only [↓RA, RB, RS, fx26, p1, p2, p3, p4, reduceIte, p5, p6, p7, p8] <;> rfl))) ?_
      simp -failIfUnchanged only [↓RA, RB, RS, fx26, p1, p2, p3, p4, reduceIte, p5, p6, p7, p8, c1, c2]
      have h := run_some h
      obtain rfl : _ = r := h
      refine FinH.l ?_
      simp -failIfUnchanged only [↓RA, RB, RS, fx26, p1, p2, p3, p4, reduceIte, p5, p6, p7, p8, c1, c2]
  · simp -failIfUnchanged only [↓RA, RB, RS, fx26, p1, p2, p3, p4, reduceIte, p5, p6, p7, p8]
    refine CondH.ff (decide_eq_false (by omega)) (fun c6 => ?_)
    simp -failIfUnchanged only [↓RA, RB, RS, fx26, p1, p2, p3, p4, reduceIte, p5, p6, p7, p8, c6]
    obtain ⟨v41, hv41, h⟩ := run_bind h
    refine CallH.mk [false, false, false] (impl_within_sat hv41) ?_ ?_ <;> simp -failIfUnchanged only [↓RA, RB, RS, fx26, p1, p2, p3, p4, reduceIte, p5, p6, p7, p8, c6]
    refine CondH.mk (fun c7 => ?_) (fun c7 => ?_)
    · replace h := run_t c7 h
      simp -failIfUnchanged only [↓RA, RB, RS, fx26, p1, p2, p3, p4, reduceIte, p5, p6, p7, p8, c6, c7]
      obtain ⟨v45, hv45, h⟩ := run_bind h
      refine CallH.mk [false, false, false] (impl_within_sat hv45) ?_ ?_ <;> simp -failIfUnchanged only [↓RA, RB, RS, fx26, p1, p2, p3, p4, reduceIte, p5, p6, p7, p8, c6, c7]
      have h := run_some h
      obtain rfl : _ = r := h
      refine FinH.l ?_
      simp -failIfUnchanged only [↓RA, RB, RS, fx26, p1, p2, p3, p4, reduceIte, p5, p6, p7, p8, c6, c7]
    · replace h := run_f c7 h
      simp -failIfUnchanged only [↓RA, RB, RS, fx26, p1, p2, p3, p4, reduceIte, p5, p6, p7, p8, c6, c7]
      have h := run_some h
      obtain rfl : _ = r := h
      refine FinH.l ?_
      simp -failIfUnchanged only [↓RA, RB, RS, fx26, p1, p2, p3, p4, reduceIte, p5, p6, p7, p8, c6, c7]

def fx134 := And.intro @ty_3 <| And.intro @zc_3 <| And.intro @z_3 <| And.intro @ty_43 <| And.intro @zc_43 <| And.intro @z_43 <| And.intro @es_43 <| And.intro @eb_43 <| And.intro @sl_43 <| And.intro @is_43 <| And.intro @el_43 <| And.intro @ze_43 <| And.intro @ez_43 <| And.intro @ty_103 <| And.intro @zc_103 <| And.intro @z_103 <| And.intro @fo_103_0 <| And.intro @fi_103_0 <| And.intro @ft_103_0 <| And.intro @fo_103_1 <| And.intro @fi_103_1 <| And.intro @ft_103_1 <| And.intro @fo_103_2 <| And.intro @fi_103_2 <| And.intro @ft_103_2 <| And.intro @lay_103 <| And.intro @ty_151 <| And.intro @zc_151 <| And.intro @z_151 <| And.intro @uk_3 <| And.intro @uk_151 <| @mixedT
set_option maxHeartbeats 4000000 in
theorem slices_BinarySearchFunc_Simpl_SizeEdge_impl_SizeEdge_impl_SizeEdge_sat {a0 : List SizeEdge} {a1 : SizeEdge} {a2 : SizeEdge → SizeEdge → Option Int} {a2_id : FuncId} {a2_cs : List PV} (a2_ok : ∀ y0 y1 r, a2 y0 y1 = some r → Sat Try.prog a2_id (((SizeEdge.pv false) y0) :: ((SizeEdge.pv false) y1) :: a2_cs) (I r)) (a2_cz : CapsOk a2_cs = True) {r : Int × Bool} (h : slices_BinarySearchFunc_Simpl_SizeEdge_impl_SizeEdge_impl_SizeEdge a0 a1 a2 = some r) : Sat Try.prog 134 [(.sl false 3 (a0.map (SizeEdge.pv false))), ((SizeEdge.pv false) a1), .clo a2_id a2_cs] (.tup [(I r.1), (B r.2)]) := by
  replace h := Run.of h
  unfold slices_BinarySearchFunc_Simpl_SizeEdge_impl_SizeEdge_impl_SizeEdge at h
  refine Sat.of_m (nt := 49) (rs := [.tmp 6, .tmp 7]) (n := 100000) Try.func134 rfl rfl rfl rfl (by simp) ?_
  simp -failIfUnchanged only [↓RA, RB, RS, fx134, a2_cz, p1, p2, p3, p4, reduceIte, p5, p6, p7, p8]
  repeat (first | with_reducible refine noR_and (by repeat (first | exact noR_empty _ _ | exact noR_nilS _ _ | refine noR_mk _ _ _ _ _ rfl ?_ | refine noR_mkS _ _ _ _ _ rfl ?_)) ?_ | with_reducible refine noC_and (by repeat (first | exact noC_empty _ _ (by simp -failIfUnchanged only [↓RA, RB, RS, fx134, a2_cz, p1, p2, p3, p4, reduceIte, p5, p6, p7, p8]) | exact noC_nilS _ _ (by simp -failIfUnchanged only [↓RA, RB, RS, fx134, a2_cz, p1, p2, p3, p4, reduceIte, p5, p6, p7, p8]) | refine noC_mk _ _ _ _ _ rfl ?_ | refine noC_mkS _ _ _ _ _ rfl ?_)) ?_ | with_reducible refine and_ac ?_ | with_reducible refine And.intro (a := _ = List.range _) (by rfl) ?_)
  replace h := run_loop h
  refine Mg.whileN h (fun s3 => [(0, .val (.pv (.sl false 3 (a0.map (SizeEdge.pv false))))), (2, .val (.pv (.clo a2_id a2_cs))), (4, .box (.pv ((SizeEdge.pv false) a1))), (8, .val (.pv (I (a0.length : Int)))), (9, .val (.pv (I s3.1))), (10, .val (.pv (I s3.2)))]) (fun s3 => []) (St.le_mk2 (by simp -failIfUnchanged only [↓RA, RB, RS, fx134, a2_cz, p1, p2, p3, p4, reduceIte, p5, p6, p7, p8])) (fun n3 s3 h => ?_)
  simp -failIfUnchanged only [↓RA, RB, RS, fx134, a2_cz, p1, p2, p3, p4, reduceIte, p5, p6, p7, p8]
  refine CondH.mk (fun c1 => ?_) (fun c1 => ?_)
  · replace h := run_t c1 h
    simp -failIfUnchanged only [↓RA, RB, RS, fx134, a2_cz, p1, p2, p3, p4, reduceIte, p5, p6, p7, p8, c1]
    obtain ⟨v22, hv22, h⟩ := run_bind h
    refine ShrH.mk hv22 ?_
    simp -failIfUnchanged only [↓RA, RB, RS, fx134, a2_cz, p1, p2, p3, p4, reduceIte, p5, p6, p7, p8, c1]
    obtain ⟨v27, hv27, h⟩ := run_bind h
    refine IdxH.mk (f := (SizeEdge.pv false)) hv27 ?_ ?_ <;> simp -failIfUnchanged only [↓RA, RB, RS, fx134, a2_cz, p1, p2, p3, p4, reduceIte, p5, p6, p7, p8, c1]
    obtain ⟨v30, hv30, h⟩ := run_bind h
    refine CallH.mk [false, false] (a2_ok _ _ _ hv30) ?_ ?_ <;> simp -failIfUnchanged only [↓RA, RB, RS, fx134, a2_cz, p1, p2, p3, p4, reduceIte, p5, p6, p7, p8, c1]
    refine And.intro (DrawH.none (by rfl) (by first | rfl | (simp -failIfUnchanged only [↓RA, RB, RS, fx134, a2_cz, p1, p2, p3, p4, reduceIte, p5, p6, p7, p8] <;> rfl)) (by first | rfl | (simp -failIfUnchanged only [↓RA, RB, RS, fx134, a2_cz, p1, p2, p3, p4, reduceIte, p5, p6, p7, p8] <;> rfl)) (by first | rfl | (simp -failIfUnchanged only [↓RA, RB, RS, fx134, a2_cz, p1, p2, p3, p4, reduceIte, p5, p6, p7, p8] <;> rfl))) ?_
    simp -failIfUnchanged only [↓RA, RB, RS, fx134, a2_cz, p1, p2, p3, p4, reduceIte, p5, p6, p7, p8, c1]
    refine CondH.mk (fun c2 => ?_) (fun c2 => ?_)
    · replace h := run_t c2 h
      simp -failIfUnchanged only [↓RA, RB, RS, fx134, a2_cz, p1, p2, p3, p4, reduceIte, p5, p6, p7, p8, c1, c2]
      have h := run_some h
      refine RdH.mk ⟨_, h, ?_⟩
      refine St.le_mk2 ?_
      simp -failIfUnchanged only [↓RA, RB, RS, fx134, a2_cz, p1, p2, p3, p4, reduceIte, p5, p6, p7, p8, c1, c2]
    · replace h := run_f c2 h
      simp -failIfUnchanged only [↓RA, RB, RS, fx134, a2_cz, p1, p2, p3, p4, reduceIte, p5, p6, p7, p8, c1, c2]
      have h := run_some h
      refine RdH.mk ⟨_, h, ?_⟩
      refine St.le_mk2 ?_
      simp -failIfUnchanged only [↓RA, RB, RS, fx134, a2_cz, p1, p2, p3, p4, reduceIte, p5, p6, p7, p8, c1, c2]
  · replace h := run_f c1 h
    simp -failIfUnchanged only [↓RA, RB, RS, fx134, a2_cz, p1, p2, p3, p4, reduceIte, p5, p6, p7, p8, c1]
    have h := run_some h
    refine CondH.mk (fun c3 => ?_) (fun c3 => ?_)
    · replace h := run_t c3 h
      simp -failIfUnchanged only [↓RA, RB, RS, fx134, a2_cz, p1, p2, p3, p4, reduceIte, p5, p6, p7, p8, c1, c3]
      obtain ⟨v43, hv43, h⟩ := run_bind h
      refine IdxH.mk (f := (SizeEdge.pv false)) hv43 ?_ ?_ <;> simp -failIfUnchanged only [↓RA, RB, RS, fx134, a2_cz, p1, p2, p3, p4, reduceIte, p5, p6, p7, p8, c1, c3]
      obtain ⟨v46, hv46, h⟩ := run_bind h
      refine CallH.mk [false, false] (a2_ok _ _ _ hv46) ?_ ?_ <;> simp -failIfUnchanged only [↓RA, RB, RS, fx134, a2_cz, p1, p2, p3, p4, reduceIte, p5, p6, p7, p8, c1, c3]
      refine And.intro (DrawH.none (by rfl) (by first | rfl | (simp -failIfUnchanged only [↓RA, RB, RS, fx134, a2_cz, p1, p2, p3, p4, reduceIte, p5, p6, p7, p8] <;> rfl)) (by first | rfl | (simp -failIfUnchanged only [↓RA, RB, RS, fx134, a2_cz, p1, p2, p3, p4, reduceIte, p5, p6, p7, p8] <;> rfl)) (by first | rfl | (simp -failIfUnchanged only [↓RA, RB, RS, fx134, a2_cz, p1, p2, p3, p4, reduceIte, p5, p6, p7, p8] <;> rfl))) ?_
      simp -failIfUnchanged only [↓RA, RB, RS, fx134, a2_cz, p1, p2, p3, p4, reduceIte, p5, p6, p7, p8, c1, c3]
      have h := run_some h
      obtain rfl : _ = r := h
      refine FinH.l ?_
      simp -failIfUnchanged only [↓RA, RB, RS, fx134, a2_cz, p1, p2, p3, p4, reduceIte, p5, p6, p7, p8, c1, c3]
    · replace h := run_f c3 h
      simp -failIfUnchanged only [↓RA, RB, RS, fx134, a2_cz, p1, p2, p3, p4, reduceIte, p5, p6, p7, p8, c1, c3]
      refine And.intro (DrawH.none (by rfl) (by first | rfl | (simp -failIfUnchanged only [↓RA, RB, RS, fx134, a2_cz, p1, p2, p3, p4, reduceIte, p5, p6, p7, p8] <;> rfl)) (by first | rfl | (simp -failIfUnchanged only [↓RA, RB, RS, fx134, a2_cz, p1, p2, p3, p4, reduceIte, p5, p6, p7, p8] <;> rfl)) (by first | rfl | (simp -failIfUnchanged only [↓RA, RB, RS, fx134, a2_cz, p1, p2, p3, p4, reduceIte, p5, p6, p7, p8] <;> rfl))) ?_
      simp -failIfUnchanged only [↓RA, RB, RS, fx134, a2_cz, p1, p2, p3, p4, reduceIte, p5, p6, p7, p8, c1, c3]
      have h := run_some h
      obtain rfl : _ = r := h
      refine FinH.l ?_
      simp -failIfUnchanged only [↓RA, RB, RS, fx134, a2_cz, p1, p2, p3, p4, reduceIte, p5, p6, p7, p8, c1, c3]


def fx107 := And.intro @ty_3 <| And.intro @zc_3 <| And.intro @z_3 <| And.intro @ty_4 <| And.intro @zc_4 <| And.intro @z_4 <| And.intro @u_4 <| And.intro @ty_43 <| And.intro @zc_43 <| And.intro @z_43 <| And.intro @es_43 <| And.intro @eb_43 <| And.intro @sl_43 <| And.intro @is_43 <| And.intro @el_43 <| And.intro @ze_43 <| And.intro @ez_43 <| And.intro @ty_45 <| And.intro @zc_45 <| And.intro @z_45 <| And.intro @fo_45_0 <| And.intro @fi_45_0 <| And.intro @ft_45_0 <| And.intro @fo_45_1 <| And.intro @fi_45_1 <| And.intro @ft_45_1 <| And.intro @fo_45_2 <| And.intro @fi_45_2 <| And.intro @ft_45_2 <| And.intro @lay_45 <| And.intro @ty_103 <| And.intro @zc_103 <| And.intro @z_103 <| And.intro @fo_103_0 <| And.intro @fi_103_0 <| And.intro @ft_103_0 <| And.intro @fo_103_1 <| And.intro @fi_103_1 <| And.intro @ft_103_1 <| And.intro @fo_103_2 <| And.intro @fi_103_2 <| And.intro @ft_103_2 <| And.intro @lay_103 <| And.intro @ty_104 <| And.intro @zc_104 <| And.intro @z_104 <| @mixedT
set_option maxHeartbeats 4000000 in
theorem impl_compose_sat {a0 : SizeGraph} {a1 : SizeGraph}  {r : SizeGraph} (h : impl_compose a0 a1 = some r) : Sat Try.prog 107 [((SizeGraph.pv false) a0), ((SizeGraph.pv false) a1)] ((SizeGraph.pv true) r) := by
  replace h := Run.of h
  unfold impl_compose at h
  refine Sat.of_m (nt := 81) (rs := [.cell 4 45]) (n := 100000) Try.func107 rfl rfl rfl rfl (by simp) ?_
  simp -failIfUnchanged only [↓RA, RB, RS, fx107, p1, p2, p3, p4, reduceIte, p5, p6, p7, p8]
  repeat (first | with_reducible refine noR_and (by repeat (first | exact noR_empty _ _ | exact noR_nilS _ _ | refine noR_mk _ _ _ _ _ rfl ?_ | refine noR_mkS _ _ _ _ _ rfl ?_)) ?_ | with_reducible refine noC_and (by repeat (first | exact noC_empty _ _ (by simp -failIfUnchanged only [↓RA, RB, RS, fx107, p1, p2, p3, p4, reduceIte, p5, p6, p7, p8]) | exact noC_nilS _ _ (by simp -failIfUnchanged only [↓RA, RB, RS, fx107, p1, p2, p3, p4, reduceIte, p5, p6, p7, p8]) | refine noC_mk _ _ _ _ _ rfl ?_ | refine noC_mkS _ _ _ _ _ rfl ?_)) ?_ | with_reducible refine and_ac ?_ | with_reducible refine And.intro (a := _ = List.range _) (by rfl) ?_)
  refine Mg.know_sl (b := false) (sz := 3) (es := a0.Edges.map (SizeEdge.pv false)) 19 (by simp -failIfUnchanged only [↓RA, RB, RS, fx107, p1, p2, p3, p4, reduceIte, p5, p6, p7, p8]) fun hl19 => ?_; rw [List.length_map] at hl19
  replace h := run_loop h
  refine Mg.forN h (fun i3 s3 => [(3, .box (.pv ((SizeGraph.pv false) a1))), (4, .box (.node [(.pv (I (0 : Int))), (.pv (I (0 : Int))), (.pv (.sl true 3 []))])), (5, .box (.node [(.pv (I a0.Source)), (.pv (I a1.Target)), (.own 9309)])), (19, .val (.pv (.sl false 3 (a0.Edges.map (SizeEdge.pv false))))), (20, .val (.pv (I (a0.Edges.length : Int)))), (21, .val (.pv (I (i3 : Int))))]) (fun i3 s3 => [(9309, (3, s3.map (SizeEdge.pv false)))]) (St.le_trans (St.le_nilB (x := (.node [(.pv (I a0.Source)), (.pv (I a1.Target)), (.pv (.sl true 3 []))])) 5 [2] 9309 3 (by repeat (first | exact noC_empty _ _ (by simp -failIfUnchanged only [↓RA, RB, RS, fx107, p1, p2, p3, p4, reduceIte, p5, p6, p7, p8]) | exact noC_nilS _ _ (by simp -failIfUnchanged only [↓RA, RB, RS, fx107, p1, p2, p3, p4, reduceIte, p5, p6, p7, p8]) | refine noC_mk _ _ _ _ _ rfl ?_ | refine noC_mkS _ _ _ _ _ rfl ?_)) (by simp -failIfUnchanged only [↓RA, RB, RS, fx107, p1, p2, p3, p4, reduceIte, p5, p6, p7, p8]) (by simp -failIfUnchanged only [↓RA, RB, RS, fx107, p1, p2, p3, p4, reduceIte, p5, p6, p7, p8]) (by simp -failIfUnchanged only [↓RA, RB, RS, fx107, p1, p2, p3, p4, reduceIte, p5, p6, p7, p8])) (St.le_mk2 (by simp -failIfUnchanged only [↓RA, RB, RS, fx107, p1, p2, p3, p4, reduceIte, p5, p6, p7, p8]))) (fun i3 s3 hi h => ?_) (fun s3 h => ?_)
  · have w3 := wrap_succ (i := i3) (by omega)
    simp -failIfUnchanged only [↓RA, RB, RS, fx107, p1, p2, p3, p4, reduceIte, p5, p6, p7, p8]
    refine CondH.tt (decide_eq_true (by omega)) (fun c1 => ?_)
    simp -failIfUnchanged only [↓RA, RB, RS, fx107, p1, p2, p3, p4, reduceIte, p5, p6, p7, p8, c1]
    obtain ⟨v23, hv23, h⟩ := run_bind h
    refine IdxH.mk (f := (SizeEdge.pv false)) hv23 ?_ ?_ <;> simp -failIfUnchanged only [↓RA, RB, RS, fx107, p1, p2, p3, p4, reduceIte, p5, p6, p7, p8, c1]
    repeat (first | with_reducible refine noR_and (by repeat (first | exact noR_empty _ _ | exact noR_nilS _ _ | refine noR_mk _ _ _ _ _ rfl ?_ | refine noR_mkS _ _ _ _ _ rfl ?_)) ?_ | with_reducible refine noC_and (by repeat (first | exact noC_empty _ _ (by simp -failIfUnchanged only [↓RA, RB, RS, fx107, p1, p2, p3, p4, reduceIte, p5, p6, p7, p8]) | exact noC_nilS _ _ (by simp -failIfUnchanged only [↓RA, RB, RS, fx107, p1, p2, p3, p4, reduceIte, p5, p6, p7, p8]) | refine noC_mk _ _ _ _ _ rfl ?_ | refine noC_mkS _ _ _ _ _ rfl ?_)) ?_ | with_reducible refine and_ac ?_ | with_reducible refine And.intro (a := _ = List.range _) (by rfl) ?_)
    refine Mg.know_sl (b := false) (sz := 3) (es := a1.Edges.map (SizeEdge.pv false)) 26 (by simp -failIfUnchanged only [↓RA, RB, RS, fx107, p1, p2, p3, p4, reduceIte, p5, p6, p7, p8, c1]) fun hl26 => ?_; rw [List.length_map] at hl26
    replace h := run_loop h
    refine Mg.forN h (fun i6 s6 => [(3, .box (.pv ((SizeGraph.pv false) a1))), (4, .box (.node [(.pv (I (0 : Int))), (.pv (I (0 : Int))), (.pv (.sl true 3 []))])), (5, .box (.node [(.pv (I a0.Source)), (.pv (I a1.Target)), (.own 9309)])), (7, .box (.pv ((SizeEdge.pv false) v23))), (19, .val (.pv (.sl false 3 (a0.Edges.map (SizeEdge.pv false))))), (20, .val (.pv (I (a0.Edges.length : Int)))), (21, .val (.pv (I (i3 : Int)))), (26, .val (.pv (.sl false 3 (a1.Edges.map (SizeEdge.pv false))))), (27, .val (.pv (I (a1.Edges.length : Int)))), (28, .val (.pv (I (i6 : Int))))]) (fun i6 s6 => [(9309, (3, s6.map (SizeEdge.pv false)))]) (St.le_mk2 (by simp -failIfUnchanged only [↓RA, RB, RS, fx107, p1, p2, p3, p4, reduceIte, p5, p6, p7, p8, c1])) (fun i6 s6 hi h => ?_) (fun s6 h => ?_)
    · have w6 := wrap_succ (i := i6) (by omega)
      simp -failIfUnchanged only [↓RA, RB, RS, fx107, p1, p2, p3, p4, reduceIte, p5, p6, p7, p8, c1]
      refine CondH.tt (decide_eq_true (by omega)) (fun c2 => ?_)
      simp -failIfUnchanged only [↓RA, RB, RS, fx107, p1, p2, p3, p4, reduceIte, p5, p6, p7, p8, c1, c2]
      obtain ⟨v30, hv30, h⟩ := run_bind h
      refine IdxH.mk (f := (SizeEdge.pv false)) hv30 ?_ ?_ <;> simp -failIfUnchanged only [↓RA, RB, RS, fx107, p1, p2, p3, p4, reduceIte, p5, p6, p7, p8, c1, c2]
      repeat (first | with_reducible refine noR_and (by repeat (first | exact noR_empty _ _ | exact noR_nilS _ _ | refine noR_mk _ _ _ _ _ rfl ?_ | refine noR_mkS _ _ _ _ _ rfl ?_)) ?_ | with_reducible refine noC_and (by repeat (first | exact noC_empty _ _ (by simp -failIfUnchanged only [↓RA, RB, RS, fx107, p1, p2, p3, p4, reduceIte, p5, p6, p7, p8]) | exact noC_nilS _ _ (by simp -failIfUnchanged only [↓RA, RB, RS, fx107, p1, p2, p3, p4, reduceIte, p5, p6, p7, p8]) | refine noC_mk _ _ _ _ _ rfl ?_ | refine noC_mkS _ _ _ _ _ rfl ?_)) ?_ | with_reducible refine and_ac ?_ | with_reducible refine And.intro (a := _ = List.range _) (by rfl) ?_)
      refine CondH.mk (fun c3 => ?_) (fun c3 => ?_)
      · replace h := run_t c3 h
        simp -failIfUnchanged only [↓RA, RB, RS, fx107, p1, p2, p3, p4, reduceIte, p5, p6, p7, p8, c1, c2, c3]
        refine CondH.mk (fun c4 => ?_) (fun c4 => ?_)
        · replace h := run_t c4 h
          simp -failIfUnchanged only [↓RA, RB, RS, fx107, p1, p2, p3, p4, reduceIte, p5, p6, p7, p8, c1, c2, c3, c4]
          repeat (first | with_reducible refine noR_and (by repeat (first | exact noR_empty _ _ | exact noR_nilS _ _ | refine noR_mk _ _ _ _ _ rfl ?_ | refine noR_mkS _ _ _ _ _ rfl ?_)) ?_ | with_reducible refine noC_and (by repeat (first | exact noC_empty _ _ (by simp -failIfUnchanged only [↓RA, RB, RS, fx107, p1, p2, p3, p4, reduceIte, p5, p6, p7, p8]) | exact noC_nilS _ _ (by simp -failIfUnchanged only [↓RA, RB, RS, fx107, p1, p2, p3, p4, reduceIte, p5, p6, p7, p8]) | refine noC_mk _ _ _ _ _ rfl ?_ | refine noC_mkS _ _ _ _ _ rfl ?_)) ?_ | with_reducible refine and_ac ?_ | with_reducible refine And.intro (a := _ = List.range _) (by rfl) ?_)
          obtain ⟨v52, hv52, h⟩ := run_bind h
          refine CallH.mk [false, false, false] (slices_BinarySearchFunc_Simpl_SizeEdge_impl_SizeEdge_impl_SizeEdge_sat (fun _ _ _ hh => impl_compareEdges_sat hh) (by simp only [CapsOk_nil, CapsOk_cons]) hv52) ?_ ?_ <;> simp -failIfUnchanged only [↓RA, RB, RS, fx107, p1, p2, p3, p4, reduceIte, p5, p6, p7, p8, c1, c2, c3, c4]
          refine CondH.mk (fun c5 => ?_) (fun c5 => ?_)
          · replace h := run_t c5 h
            simp -failIfUnchanged only [↓RA, RB, RS, fx107, p1, p2, p3, p4, reduceIte, p5, p6, p7, p8, c1, c2, c3, c4, c5]
            obtain ⟨v62, hv62, h⟩ := run_bind h
            refine IdxH.mk (f := (SizeEdge.pv false)) hv62 ?_ ?_ <;> simp -failIfUnchanged only [↓RA, RB, RS, fx107, p1, p2, p3, p4, reduceIte, p5, p6, p7, p8, c1, c2, c3, c4, c5]
            obtain ⟨v64, hv64, h⟩ := run_bind h
            refine EldH.mk (f := (SizeEdge.pv false)) hv64 rfl ?_ ?_ <;> simp -failIfUnchanged only [↓RA, RB, RS, fx107, p1, p2, p3, p4, reduceIte, p5, p6, p7, p8, c1, c2, c3, c4, c5]
            refine CondH.mk (fun c6 => ?_) (fun c6 => ?_)
            · replace h := run_t c6 h
              simp -failIfUnchanged only [↓RA, RB, RS, fx107, p1, p2, p3, p4, reduceIte, p5, p6, p7, p8, c1, c2, c3, c4, c5, c6]
              obtain ⟨v69, hv69, h⟩ := run_bind h
              refine IdxH.mk (f := (SizeEdge.pv false)) hv69 ?_ ?_ <;> simp -failIfUnchanged only [↓RA, RB, RS, fx107, p1, p2, p3, p4, reduceIte, p5, p6, p7, p8, c1, c2, c3, c4, c5, c6]
              obtain ⟨w7, hw7, h⟩ := run_bind h
              refine EldH.mk (f := (SizeEdge.pv false)) hw7 rfl ?_ ?_ <;> simp -failIfUnchanged only [↓RA, RB, RS, fx107, p1, p2, p3, p4, reduceIte, p5, p6, p7, p8, c1, c2, c3, c4, c5, c6]
              refine And.intro (DrawH.none (by rfl) (by first | rfl | (simp -failIfUnchanged only [↓RA, RB, RS, fx107, p1, p2, p3, p4, reduceIte, p5, p6, p7, p8] <;> rfl)) (by first | rfl | (simp -failIfUnchanged only [↓RA, RB, RS, fx107, p1, p2, p3, p4, reduceIte, p5, p6, p7, p8] <;> rfl)) (by first | rfl | (simp -failIfUnchanged only [↓RA, RB, RS, fx107, p1, p2, p3, p4, reduceIte, p5, p6, p7, p8] <;> rfl))) ?_
              simp -failIfUnchanged only [↓RA, RB, RS, fx107, p1, p2, p3, p4, reduceIte, p5, p6, p7, p8, c1, c2, c3, c4, c5, c6]
              have h := run_some h
              refine RdH.mk ⟨_, h, ?_⟩
              refine St.le_mk2 ?_
              simp -failIfUnchanged only [↓RA, RB, RS, fx107, p1, p2, p3, p4, reduceIte, p5, p6, p7, p8, c1, c2, c3, c4, c5, c6, w6]
            · replace h := run_f c6 h
              simp -failIfUnchanged only [↓RA, RB, RS, fx107, p1, p2, p3, p4, reduceIte, p5, p6, p7, p8, c1, c2, c3, c4, c5, c6]
              obtain ⟨v69, hv69, h⟩ := run_bind h
              refine IdxH.mk (f := (SizeEdge.pv false)) hv69 ?_ ?_ <;> simp -failIfUnchanged only [↓RA, RB, RS, fx107, p1, p2, p3, p4, reduceIte, p5, p6, p7, p8, c1, c2, c3, c4, c5, c6]
              obtain ⟨w8, hw8, h⟩ := run_bind h
              refine EldH.mk (f := (SizeEdge.pv false)) hw8 rfl ?_ ?_ <;> simp -failIfUnchanged only [↓RA, RB, RS, fx107, p1, p2, p3, p4, reduceIte, p5, p6, p7, p8, c1, c2, c3, c4, c5, c6]
              refine And.intro (DrawH.none (by rfl) (by first | rfl | (simp -failIfUnchanged only [↓RA, RB, RS, fx107, p1, p2, p3, p4, reduceIte, p5, p6, p7, p8] <;> rfl)) (by first | rfl | (simp -failIfUnchanged only [↓RA, RB, RS, fx107, p1, p2, p3, p4, reduceIte, p5, p6, p7, p8] <;> rfl)) (by first | rfl | (simp -failIfUnchanged only [↓RA, RB, RS, fx107, p1, p2, p3, p4, reduceIte, p5, p6, p7, p8] <;> rfl))) ?_
              simp -failIfUnchanged only [↓RA, RB, RS, fx107, p1, p2, p3, p4, reduceIte, p5, p6, p7, p8, c1, c2, c3, c4, c5, c6]
              have h := run_some h
              refine RdH.mk ⟨_, h, ?_⟩
              refine St.le_mk2 ?_
              simp -failIfUnchanged only [↓RA, RB, RS, fx107, p1, p2, p3, p4, reduceIte, p5, p6, p7, p8, c1, c2, c3, c4, c5, c6, w6]
          · replace h := run_f c5 h
            simp -failIfUnchanged only [↓RA, RB, RS, fx107, p1, p2, p3, p4, reduceIte, p5, p6, p7, p8, c1, c2, c3, c4, c5]
            repeat (first | with_reducible refine noR_and (by repeat (first | exact noR_empty _ _ | exact noR_nilS _ _ | refine noR_mk _ _ _ _ _ rfl ?_ | refine noR_mkS _ _ _ _ _ rfl ?_)) ?_ | with_reducible refine noC_and (by repeat (first | exact noC_empty _ _ (by simp -failIfUnchanged only [↓RA, RB, RS, fx107, p1, p2, p3, p4, reduceIte, p5, p6, p7, p8]) | exact noC_nilS _ _ (by simp -failIfUnchanged only [↓RA, RB, RS, fx107, p1, p2, p3, p4, reduceIte, p5, p6, p7, p8]) | refine noC_mk _ _ _ _ _ rfl ?_ | refine noC_mkS _ _ _ _ _ rfl ?_)) ?_ | with_reducible refine and_ac ?_ | with_reducible refine And.intro (a := _ = List.range _) (by rfl) ?_)
            obtain ⟨v76, hv76, h⟩ := run_bind h
            refine CallH.mk [true, false, true] (slices_InsertE_sat hv76) ?_ ?_ <;> simp -failIfUnchanged only [↓RA, RB, RS, fx107, p1, p2, p3, p4, reduceIte, p5, p6, p7, p8, c1, c2, c3, c4, c5]
            repeat (first | with_reducible refine noR_and (by repeat (first | exact noR_empty _ _ | exact noR_nilS _ _ | refine noR_mk _ _ _ _ _ rfl ?_ | refine noR_mkS _ _ _ _ _ rfl ?_)) ?_ | with_reducible refine noC_and (by repeat (first | exact noC_empty _ _ (by simp -failIfUnchanged only [↓RA, RB, RS, fx107, p1, p2, p3, p4, reduceIte, p5, p6, p7, p8]) | exact noC_nilS _ _ (by simp -failIfUnchanged only [↓RA, RB, RS, fx107, p1, p2, p3, p4, reduceIte, p5, p6, p7, p8]) | refine noC_mk _ _ _ _ _ rfl ?_ | refine noC_mkS _ _ _ _ _ rfl ?_)) ?_ | with_reducible refine and_ac ?_ | with_reducible refine And.intro (a := _ = List.range _) (by rfl) ?_)
            have h := run_some h
            refine RdH.mk ⟨_, h, ?_⟩
            refine St.le_trans (St.le_mk (S := [(3, .box (.pv ((SizeGraph.pv false) a1))), (4, .box (.node [(.pv (I (0 : Int))), (.pv (I (0 : Int))), (.pv (.sl true 3 []))])), (5, .box (.node [(.pv (I a0.Source)), (.pv (I a1.Target)), (.own 1216)])), (7, .box (.pv ((SizeEdge.pv false) v23))), (19, .val (.pv (.sl false 3 (a0.Edges.map (SizeEdge.pv false))))), (20, .val (.pv (I (a0.Edges.length : Int)))), (21, .val (.pv (I (i3 : Int)))), (26, .val (.pv (.sl false 3 (a1.Edges.map (SizeEdge.pv false))))), (27, .val (.pv (I (a1.Edges.length : Int)))), (28, .val (.pv (I (IntKind.i64.wrap ((i6 : Int) + (1 : Int))))))]) (O := [(1216, (3, v76.map (SizeEdge.pv false)))]) (by simp -failIfUnchanged only [↓RA, RB, RS, fx107, p1, p2, p3, p4, reduceIte, p5, p6, p7, p8, c1, c2, c3, c4, c5, w6]) (by simp -failIfUnchanged only [↓RA, RB, RS, fx107, p1, p2, p3, p4, reduceIte, p5, p6, p7, p8, c1, c2, c3, c4, c5, w6])) ?_
            refine St.le_rn 1216 9309 (by decide) (by repeat (first | exact noC_empty _ _ (by simp -failIfUnchanged only [↓RA, RB, RS, fx107, p1, p2, p3, p4, reduceIte, p5, p6, p7, p8]) | exact noC_nilS _ _ (by simp -failIfUnchanged only [↓RA, RB, RS, fx107, p1, p2, p3, p4, reduceIte, p5, p6, p7, p8]) | refine noC_mk _ _ _ _ _ rfl ?_ | refine noC_mkS _ _ _ _ _ rfl ?_)) ?_
            refine St.le_mk2 ?_
            simp -failIfUnchanged only [↓RA, RB, RS, fx107, p1, p2, p3, p4, reduceIte, p5, p6, p7, p8, c1, c2, c3, c4, c5, w6]
        · replace h := run_f c4 h
          simp -failIfUnchanged only [↓RA, RB, RS, fx107, p1, p2, p3, p4, reduceIte, p5, p6, p7, p8, c1, c2, c3, c4]
          repeat (first | with_reducible refine noR_and (by repeat (first | exact noR_empty _ _ | exact noR_nilS _ _ | refine noR_mk _ _ _ _ _ rfl ?_ | refine noR_mkS _ _ _ _ _ rfl ?_)) ?_ | with_reducible refine noC_and (by repeat (first | exact noC_empty _ _ (by simp -failIfUnchanged only [↓RA, RB, RS, fx107, p1, p2, p3, p4, reduceIte, p5, p6, p7, p8]) | exact noC_nilS _ _ (by simp -failIfUnchanged only [↓RA, RB, RS, fx107, p1, p2, p3, p4, reduceIte, p5, p6, p7, p8]) | refine noC_mk _ _ _ _ _ rfl ?_ | refine noC_mkS _ _ _ _ _ rfl ?_)) ?_ | with_reducible refine and_ac ?_ | with_reducible refine And.intro (a := _ = List.range _) (by rfl) ?_)
          obtain ⟨v52, hv52, h⟩ := run_bind h
          refine CallH.mk [false, false, false] (slices_BinarySearchFunc_Simpl_SizeEdge_impl_SizeEdge_impl_SizeEdge_sat (fun _ _ _ hh => impl_compareEdges_sat hh) (by simp only [CapsOk_nil, CapsOk_cons]) hv52) ?_ ?_ <;> simp -failIfUnchanged only [↓RA, RB, RS, fx107, p1, p2, p3, p4, reduceIte, p5, p6, p7, p8, c1, c2, c3, c4]
          refine CondH.mk (fun c9 => ?_) (fun c9 => ?_)
          · replace h := run_t c9 h
            simp -failIfUnchanged only [↓RA, RB, RS, fx107, p1, p2, p3, p4, reduceIte, p5, p6, p7, p8, c1, c2, c3, c4, c9]
            obtain ⟨v62, hv62, h⟩ := run_bind h
            refine IdxH.mk (f := (SizeEdge.pv false)) hv62 ?_ ?_ <;> simp -failIfUnchanged only [↓RA, RB, RS, fx107, p1, p2, p3, p4, reduceIte, p5, p6, p7, p8, c1, c2, c3, c4, c9]
            obtain ⟨v64, hv64, h⟩ := run_bind h
            refine EldH.mk (f := (SizeEdge.pv false)) hv64 rfl ?_ ?_ <;> simp -failIfUnchanged only [↓RA, RB, RS, fx107, p1, p2, p3, p4, reduceIte, p5, p6, p7, p8, c1, c2, c3, c4, c9]
            refine CondH.mk (fun c10 => ?_) (fun c10 => ?_)
            · replace h := run_t c10 h
              simp -failIfUnchanged only [↓RA, RB, RS, fx107, p1, p2, p3, p4, reduceIte, p5, p6, p7, p8, c1, c2, c3, c4, c9, c10]
              obtain ⟨v69, hv69, h⟩ := run_bind h
              refine IdxH.mk (f := (SizeEdge.pv false)) hv69 ?_ ?_ <;> simp -failIfUnchanged only [↓RA, RB, RS, fx107, p1, p2, p3, p4, reduceIte, p5, p6, p7, p8, c1, c2, c3, c4, c9, c10]
              obtain ⟨w11, hw11, h⟩ := run_bind h
              refine EldH.mk (f := (SizeEdge.pv false)) hw11 rfl ?_ ?_ <;> simp -failIfUnchanged only [↓RA, RB, RS, fx107, p1, p2, p3, p4, reduceIte, p5, p6, p7, p8, c1, c2, c3, c4, c9, c10]
              refine And.intro (DrawH.none (by rfl) (by first | rfl | (simp -failIfUnchanged only [↓RA, RB, RS, fx107, p1, p2, p3, p4, reduceIte, p5, p6, p7, p8] <;> rfl)) (by first | rfl | (simp -failIfUnchanged only [↓RA, RB, RS, fx107, p1, p2, p3, p4, reduceIte, p5, p6, p7, p8] <;> rfl)) (by first | rfl | (simp -failIfUnchanged only [↓RA, RB, RS, fx107, p1, p2, p3, p4, reduceIte, p5, p6, p7, p8] <;> rfl))) ?_
              simp -failIfUnchanged only [↓RA, RB, RS, fx107, p1, p2, p3, p4, reduceIte, p5, p6, p7, p8, c1, c2, c3, c4, c9, c10]
              have h := run_some h
              refine RdH.mk ⟨_, h, ?_⟩
              refine St.le_mk2 ?_
              simp -failIfUnchanged only [↓RA, RB, RS, fx107, p1, p2, p3, p4, reduceIte, p5, p6, p7, p8, c1, c2, c3, c4, c9, c10, w6]
            · replace h := run_f c10 h
              simp -failIfUnchanged only [↓RA, RB, RS, fx107, p1, p2, p3, p4, reduceIte, p5, p6, p7, p8, c1, c2, c3, c4, c9, c10]
              obtain ⟨v69, hv69, h⟩ := run_bind h
              refine IdxH.mk (f := (SizeEdge.pv false)) hv69 ?_ ?_ <;> simp -failIfUnchanged only [↓RA, RB, RS, fx107, p1, p2, p3, p4, reduceIte, p5, p6, p7, p8, c1, c2, c3, c4, c9, c10]
              obtain ⟨w12, hw12, h⟩ := run_bind h
              refine EldH.mk (f := (SizeEdge.pv false)) hw12 rfl ?_ ?_ <;> simp -failIfUnchanged only [↓RA, RB, RS, fx107, p1, p2, p3, p4, reduceIte, p5, p6, p7, p8, c1, c2, c3, c4, c9, c10]
              refine And.intro (DrawH.none (by rfl) (by first | rfl | (simp -failIfUnchanged only [↓RA, RB, RS, fx107, p1, p2, p3, p4, reduceIte, p5, p6, p7, p8] <;> rfl)) (by first | rfl | (simp -failIfUnchanged only [↓RA, RB, RS, fx107, p1, p2, p3, p4, reduceIte, p5, p6, p7, p8] <;> rfl)) (by first | rfl | (simp -failIfUnchanged only [↓RA, RB, RS, fx107, p1, p2, p3, p4, reduceIte, p5, p6, p7, p8] <;> rfl))) ?_
              simp -failIfUnchanged only [↓RA, RB, RS, fx107, p1, p2, p3, p4, reduceIte, p5, p6, p7, p8, c1, c2, c3, c4, c9, c10]
              have h := run_some h
              refine RdH.mk ⟨_, h, ?_⟩
              refine St.le_mk2 ?_
              simp -failIfUnchanged only [↓RA, RB, RS, fx107, p1, p2, p3, p4, reduceIte, p5, p6, p7, p8, c1, c2, c3, c4, c9, c10, w6]
          · replace h := run_f c9 h
            simp -failIfUnchanged only [↓RA, RB, RS, fx107, p1, p2, p3, p4, reduceIte, p5, p6, p7, p8, c1, c2, c3, c4, c9]
            repeat (first | with_reducible refine noR_and (by repeat (first | exact noR_empty _ _ | exact noR_nilS _ _ | refine noR_mk _ _ _ _ _ rfl ?_ | refine noR_mkS _ _ _ _ _ rfl ?_)) ?_ | with_reducible refine noC_and (by repeat (first | exact noC_empty _ _ (by simp -failIfUnchanged only [↓RA, RB, RS, fx107, p1, p2, p3, p4, reduceIte, p5, p6, p7, p8]) | exact noC_nilS _ _ (by simp -failIfUnchanged only [↓RA, RB, RS, fx107, p1, p2, p3, p4, reduceIte, p5, p6, p7, p8]) | refine noC_mk _ _ _ _ _ rfl ?_ | refine noC_mkS _ _ _ _ _ rfl ?_)) ?_ | with_reducible refine and_ac ?_ | with_reducible refine And.intro (a := _ = List.range _) (by rfl) ?_)
            obtain ⟨v76, hv76, h⟩ := run_bind h
            refine CallH.mk [true, false, true] (slices_InsertE_sat hv76) ?_ ?_ <;> simp -failIfUnchanged only [↓RA, RB, RS, fx107, p1, p2, p3, p4, reduceIte, p5, p6, p7, p8, c1, c2, c3, c4, c9]
            repeat (first | with_reducible refine noR_and (by repeat (first | exact noR_empty _ _ | exact noR_nilS _ _ | refine noR_mk _ _ _ _ _ rfl ?_ | refine noR_mkS _ _ _ _ _ rfl ?_)) ?_ | with_reducible refine noC_and (by repeat (first | exact noC_empty _ _ (by simp -failIfUnchanged only [↓RA, RB, RS, fx107, p1, p2, p3, p4, reduceIte, p5, p6, p7, p8]) | exact noC_nilS _ _ (by simp -failIfUnchanged only [↓RA, RB, RS, fx107, p1, p2, p3, p4, reduceIte, p5, p6, p7, p8]) | refine noC_mk _ _ _ _ _ rfl ?_ | refine noC_mkS _ _ _ _ _ rfl ?_)) ?_ | with_reducible refine and_ac ?_ | with_reducible refine And.intro (a := _ = List.range _) (by rfl) ?_)
            have h := run_some h
            refine RdH.mk ⟨_, h, ?_⟩
            refine St.le_trans (St.le_mk (S := [(3, .box (.pv ((SizeGraph.pv false) a1))), (4, .box (.node [(.pv (I (0 : Int))), (.pv (I (0 : Int))), (.pv (.sl true 3 []))])), (5, .box (.node [(.pv (I a0.Source)), (.pv (I a1.Target)), (.own 1216)])), (7, .box (.pv ((SizeEdge.pv false) v23))), (19, .val (.pv (.sl false 3 (a0.Edges.map (SizeEdge.pv false))))), (20, .val (.pv (I (a0.Edges.length : Int)))), (21, .val (.pv (I (i3 : Int)))), (26, .val (.pv (.sl false 3 (a1.Edges.map (SizeEdge.pv false))))), (27, .val (.pv (I (a1.Edges.length : Int)))), (28, .val (.pv (I (IntKind.i64.wrap ((i6 : Int) + (1 : Int))))))]) (O := [(1216, (3, v76.map (SizeEdge.pv false)))]) (by simp -failIfUnchanged only [↓RA, RB, RS, fx107, p1, p2, p3, p4, reduceIte, p5, p6, p7, p8, c1, c2, c3, c4, c9, w6]) (by simp -failIfUnchanged only [↓RA, RB, RS, fx107, p1, p2, p3, p4, reduceIte, p5, p6, p7, p8, c1, c2, c3, c4, c9, w6])) ?_
            refine St.le_rn 1216 9309 (by decide) (by repeat (first | exact noC_empty _ _ (by simp -failIfUnchanged only [↓RA, RB, RS, fx107, p1, p2, p3, p4, reduceIte, p5, p6, p7, p8]) | exact noC_nilS _ _ (by simp -failIfUnchanged only [↓RA, RB, RS, fx107, p1, p2, p3, p4, reduceIte, p5, p6, p7, p8]) | refine noC_mk _ _ _ _ _ rfl ?_ | refine noC_mkS _ _ _ _ _ rfl ?_)) ?_
            refine St.le_mk2 ?_
            simp -failIfUnchanged only [↓RA, RB, RS, fx107, p1, p2, p3, p4, reduceIte, p5, p6, p7, p8, c1, c2, c3, c4, c9, w6]
      · replace h := run_f c3 h
        simp -failIfUnchanged only [↓RA, RB, RS, fx107, p1, p2, p3, p4, reduceIte, p5, p6, p7, p8, c1, c2, c3]
        have h := run_some h
        refine RdH.mk ⟨_, h, ?_⟩
        refine St.le_mk2 ?_
        simp -failIfUnchanged only [↓RA, RB, RS, fx107, p1, p2, p3, p4, reduceIte, p5, p6, p7, p8, c1, c2, c3, w6]
    · simp -failIfUnchanged only [↓RA, RB, RS, fx107, p1, p2, p3, p4, reduceIte, p5, p6, p7, p8, c1]
      refine CondH.ff (decide_eq_false (by omega)) (fun c13 => ?_)
      simp -failIfUnchanged only [↓RA, RB, RS, fx107, p1, p2, p3, p4, reduceIte, p5, p6, p7, p8, c1, c13]
      have h := run_some h
      refine RdH.mk ⟨_, h, ?_⟩
      refine St.le_mk2 ?_
      simp -failIfUnchanged only [↓RA, RB, RS, fx107, p1, p2, p3, p4, reduceIte, p5, p6, p7, p8, c1, c13, w3]
  · simp -failIfUnchanged only [↓RA, RB, RS, fx107, p1, p2, p3, p4, reduceIte, p5, p6, p7, p8]
    refine CondH.ff (decide_eq_false (by omega)) (fun c14 => ?_)
    simp -failIfUnchanged only [↓RA, RB, RS, fx107, p1, p2, p3, p4, reduceIte, p5, p6, p7, p8, c14]
    have h := run_some h
    obtain rfl : _ = r := h
    refine FinH.l ?_
    simp -failIfUnchanged only [↓RA, RB, RS, fx107, p1, p2, p3, p4, reduceIte, p5, p6, p7, p8, c14]

def fx52 := And.intro @ty_3 <| And.intro @zc_3 <| And.intro @z_3 <| And.intro @ty_4 <| And.intro @zc_4 <| And.intro @z_4 <| And.intro @u_4 <| And.intro @ty_45 <| And.intro @zc_45 <| And.intro @z_45 <| And.intro @fo_45_0 <| And.intro @fi_45_0 <| And.intro @ft_45_0 <| And.intro @fo_45_1 <| And.intro @fi_45_1 <| And.intro @ft_45_1 <| And.intro @fo_45_2 <| And.intro @fi_45_2 <| And.intro @ft_45_2 <| @lay_45
set_option maxHeartbeats 4000000 in
theorem impl_ComposeGraphs_sat {a0 : SizeGraph} {a1 : SizeGraph}  {r : SizeGraph × Bool} (h : impl_ComposeGraphs a0 a1 = some r) : Sat Try.prog 52 [((SizeGraph.pv false) a0), ((SizeGraph.pv false) a1)] (.tup [((SizeGraph.pv true) r.1), (B r.2)]) := by
  replace h := Run.of h
  unfold impl_ComposeGraphs at h
  refine Sat.of_m (nt := 25) (rs := [.cell 4 45, .tmp 5]) (n := 100000) Try.func52 rfl rfl rfl rfl (by simp) ?_
  simp -failIfUnchanged only [↓RA, RB, RS, fx52, p1, p2, p3, p4, reduceIte, p5, p6, p7, p8]
  repeat (first | with_reducible refine noR_and (by repeat (first | exact noR_empty _ _ | exact noR_nilS _ _ | refine noR_mk _ _ _ _ _ rfl ?_ | refine noR_mkS _ _ _ _ _ rfl ?_)) ?_ | with_reducible refine noC_and (by repeat (first | exact noC_empty _ _ (by simp -failIfUnchanged only [↓RA, RB, RS, fx52, p1, p2, p3, p4, reduceIte, p5, p6, p7, p8]) | exact noC_nilS _ _ (by simp -failIfUnchanged only [↓RA, RB, RS, fx52, p1, p2, p3, p4, reduceIte, p5, p6, p7, p8]) | refine noC_mk _ _ _ _ _ rfl ?_ | refine noC_mkS _ _ _ _ _ rfl ?_)) ?_ | with_reducible refine and_ac ?_ | with_reducible refine And.intro (a := _ = List.range _) (by rfl) ?_)
  obtain ⟨v7, hv7, h⟩ := run_bind h
  refine CallH.mk [false] (impl_IsValidGraph_sat hv7) ?_ ?_ <;> simp -failIfUnchanged only [↓RA, RB, RS, fx52, p1, p2, p3, p4, reduceIte, p5, p6, p7, p8]
  refine CondH.mk (fun c1 => ?_) (fun c1 => ?_)
  · replace h := run_t c1 h
    simp -failIfUnchanged only [↓RA, RB, RS, fx52, p1, p2, p3, p4, reduceIte, p5, p6, p7, p8, c1]
    obtain ⟨v11, hv11, h⟩ := run_bind h
    refine CallH.mk [false] (impl_IsValidGraph_sat hv11) ?_ ?_ <;> simp -failIfUnchanged only [↓RA, RB, RS, fx52, p1, p2, p3, p4, reduceIte, p5, p6, p7, p8, c1]
    refine CondH.mk (fun c2 => ?_) (fun c2 => ?_)
    · replace h := run_t c2 h
      simp -failIfUnchanged only [↓RA, RB, RS, fx52, p1, p2, p3, p4, reduceIte, p5, p6, p7, p8, c1, c2]
      refine CondH.mk (fun c3 => ?_) (fun c3 => ?_)
      · replace h := run_t c3 h
        simp -failIfUnchanged only [↓RA, RB, RS, fx52, p1, p2, p3, p4, reduceIte, p5, p6, p7, p8, c1, c2, c3]
        obtain ⟨v24, hv24, h⟩ := run_bind h
        refine CallH.mk [false, false] (impl_compose_sat hv24) ?_ ?_ <;> simp -failIfUnchanged only [↓RA, RB, RS, fx52, p1, p2, p3, p4, reduceIte, p5, p6, p7, p8, c1, c2, c3]
        repeat (first | with_reducible refine noR_and (by repeat (first | exact noR_empty _ _ | exact noR_nilS _ _ | refine noR_mk _ _ _ _ _ rfl ?_ | refine noR_mkS _ _ _ _ _ rfl ?_)) ?_ | with_reducible refine noC_and (by repeat (first | exact noC_empty _ _ (by simp -failIfUnchanged only [↓RA, RB, RS, fx52, p1, p2, p3, p4, reduceIte, p5, p6, p7, p8]) | exact noC_nilS _ _ (by simp -failIfUnchanged only [↓RA, RB, RS, fx52, p1, p2, p3, p4, reduceIte, p5, p6, p7, p8]) | refine noC_mk _ _ _ _ _ rfl ?_ | refine noC_mkS _ _ _ _ _ rfl ?_)) ?_ | with_reducible refine and_ac ?_ | with_reducible refine And.intro (a := _ = List.range _) (by rfl) ?_)
        have h := run_some h
        obtain rfl : _ = r := h
        refine FinH.l ?_
        simp -failIfUnchanged only [↓RA, RB, RS, fx52, p1, p2, p3, p4, reduceIte, p5, p6, p7, p8, c1, c2, c3]
      · replace h := run_f c3 h
        simp -failIfUnchanged only [↓RA, RB, RS, fx52, p1, p2, p3, p4, reduceIte, p5, p6, p7, p8, c1, c2, c3]
        have h := run_some h
        obtain rfl : _ = r := h
        refine FinH.l ?_
        simp -failIfUnchanged only [↓RA, RB, RS, fx52, p1, p2, p3, p4, reduceIte, p5, p6, p7, p8, c1, c2, c3]
    · replace h := run_f c2 h
      simp -failIfUnchanged only [↓RA, RB, RS, fx52, p1, p2, p3, p4, reduceIte, p5, p6, p7, p8, c1, c2]
      have h := run_some h
      obtain rfl : _ = r := h
      refine FinH.l ?_
      simp -failIfUnchanged only [↓RA, RB, RS, fx52, p1, p2, p3, p4, reduceIte, p5, p6, p7, p8, c1, c2]
  · replace h := run_f c1 h
    simp -failIfUnchanged only [↓RA, RB, RS, fx52, p1, p2, p3, p4, reduceIte, p5, p6, p7, p8, c1]
    have h := run_some h
    obtain rfl : _ = r := h
    refine FinH.l ?_
    simp -failIfUnchanged only [↓RA, RB, RS, fx52, p1, p2, p3, p4, reduceIte, p5, p6, p7, p8, c1]

def fx119 := And.intro @ty_3 <| And.intro @zc_3 <| And.intro @z_3 <| And.intro @ty_4 <| And.intro @zc_4 <| And.intro @z_4 <| And.intro @u_4 <| And.intro @ty_103 <| And.intro @zc_103 <| And.intro @z_103 <| And.intro @fo_103_0 <| And.intro @fi_103_0 <| And.intro @ft_103_0 <| And.intro @fo_103_1 <| And.intro @fi_103_1 <| And.intro @ft_103_1 <| And.intro @fo_103_2 <| And.intro @fi_103_2 <| And.intro @ft_103_2 <| @lay_103
set_option maxHeartbeats 4000000 in
theorem eqSizeEdge_sat {a0 : SizeEdge} {a1 : SizeEdge}  {r : Bool} (h : eqSizeEdge a0 a1 = some r) : Sat Try.prog 119 [((SizeEdge.pv false) a0), ((SizeEdge.pv false) a1)] (B r) := by
  replace h := Run.of h
  unfold eqSizeEdge at h
  refine Sat.of_m (nt := 20) (rs := [.tmp 4]) (n := 100000) Try.func119 rfl rfl rfl rfl (by simp) ?_
  simp -failIfUnchanged only [↓RA, RB, RS, fx119, p1, p2, p3, p4, reduceIte, p5, p6, p7, p8]
  repeat (first | with_reducible refine noR_and (by repeat (first | exact noR_empty _ _ | exact noR_nilS _ _ | refine noR_mk _ _ _ _ _ rfl ?_ | refine noR_mkS _ _ _ _ _ rfl ?_)) ?_ | with_reducible refine noC_and (by repeat (first | exact noC_empty _ _ (by simp -failIfUnchanged only [↓RA, RB, RS, fx119, p1, p2, p3, p4, reduceIte, p5, p6, p7, p8]) | exact noC_nilS _ _ (by simp -failIfUnchanged only [↓RA, RB, RS, fx119, p1, p2, p3, p4, reduceIte, p5, p6, p7, p8]) | refine noC_mk _ _ _ _ _ rfl ?_ | refine noC_mkS _ _ _ _ _ rfl ?_)) ?_ | with_reducible refine and_ac ?_ | with_reducible refine And.intro (a := _ = List.range _) (by rfl) ?_)
  refine CondH.mk (fun c1 => ?_) (fun c1 => ?_)
  · replace h := run_t c1 h
    simp -failIfUnchanged only [↓RA, RB, RS, fx119, p1, p2, p3, p4, reduceIte, p5, p6, p7, p8, c1]
    refine CondH.mk (fun c2 => ?_) (fun c2 => ?_)
    · replace h := run_t c2 h
      simp -failIfUnchanged only [↓RA, RB, RS, fx119, p1, p2, p3, p4, reduceIte, p5, p6, p7, p8, c1, c2]
      refine CondH.mk (fun c3 => ?_) (fun c3 => ?_)
      · replace h := run_t c3 h
        simp -failIfUnchanged only [↓RA, RB, RS, fx119, p1, p2, p3, p4, reduceIte, p5, p6, p7, p8, c1, c2, c3]
        have h := run_some h
        obtain rfl : _ = r := h
        refine FinH.l ?_
        simp -failIfUnchanged only [↓RA, RB, RS, fx119, p1, p2, p3, p4, reduceIte, p5, p6, p7, p8, c1, c2, c3]
      · replace h := run_f c3 h
        simp -failIfUnchanged only [↓RA, RB, RS, fx119, p1, p2, p3, p4, reduceIte, p5, p6, p7, p8, c1, c2, c3]
        have h := run_some h
        obtain rfl : _ = r := h
        refine FinH.l ?_
        simp -failIfUnchanged only [↓RA, RB, RS, fx119, p1, p2, p3, p4, reduceIte, p5, p6, p7, p8, c1, c2, c3]
    · replace h := run_f c2 h
      simp -failIfUnchanged only [↓RA, RB, RS, fx119, p1, p2, p3, p4, reduceIte, p5, p6, p7, p8, c1, c2]
      have h := run_some h
      obtain rfl : _ = r := h
      refine FinH.l ?_
      simp -failIfUnchanged only [↓RA, RB, RS, fx119, p1, p2, p3, p4, reduceIte, p5, p6, p7, p8, c1, c2]
  · replace h := run_f c1 h
    simp -failIfUnchanged only [↓RA, RB, RS, fx119, p1, p2, p3, p4, reduceIte, p5, p6, p7, p8, c1]
    have h := run_some h
    obtain rfl : _ = r := h
    refine FinH.l ?_
    simp -failIfUnchanged only [↓RA, RB, RS, fx119, p1, p2, p3, p4, reduceIte, p5, p6, p7, p8, c1]

def fx74 := And.intro @ty_3 <| And.intro @zc_3 <| And.intro @z_3 <| And.intro @ty_4 <| And.intro @zc_4 <| And.intro @z_4 <| And.intro @u_4 <| And.intro @ty_43 <| And.intro @zc_43 <| And.intro @z_43 <| And.intro @es_43 <| And.intro @eb_43 <| And.intro @sl_43 <| And.intro @is_43 <| And.intro @el_43 <| And.intro @ze_43 <| And.intro @ez_43 <| And.intro @ty_103 <| And.intro @zc_103 <| And.intro @z_103 <| And.intro @fo_103_0 <| And.intro @fi_103_0 <| And.intro @ft_103_0 <| And.intro @fo_103_1 <| And.intro @fi_103_1 <| And.intro @ft_103_1 <| And.intro @fo_103_2 <| And.intro @fi_103_2 <| And.intro @ft_103_2 <| And.intro @lay_103 <| @mixedT
set_option maxHeartbeats 4000000 in
theorem eqSizeEdgeS_sat {a0 : List SizeEdge} {a1 : List SizeEdge}  {r : Bool} (h : eqSizeEdgeS a0 a1 = some r) : Sat Try.prog 74 [(.sl false 3 (a0.map (SizeEdge.pv false))), (.sl false 3 (a1.map (SizeEdge.pv false)))] (B r) := by
  replace h := Run.of h
  unfold eqSizeEdgeS at h
  refine Sat.of_m (nt := 27) (rs := [.tmp 4]) (n := 100000) Try.func74 rfl rfl rfl rfl (by simp) ?_
  simp -failIfUnchanged only [↓RA, RB, RS, fx74, p1, p2, p3, p4, reduceIte, p5, p6, p7, p8]
  refine CondH.mk (fun c1 => ?_) (fun c1 => ?_)
  · replace h := run_t c1 h
    simp -failIfUnchanged only [↓RA, RB, RS, fx74, p1, p2, p3, p4, reduceIte, p5, p6, p7, p8, c1]
    refine Mg.know_sl (b := false) (sz := 3) (es := a0.map (SizeEdge.pv false)) 0 (by simp -failIfUnchanged only [↓RA, RB, RS, fx74, p1, p2, p3, p4, reduceIte, p5, p6, p7, p8, c1]) fun hl0 => ?_; rw [List.length_map] at hl0
    replace h := run_loop h
    refine Mg.forN h (fun i4 s4 => [(0, .val (.pv (.sl false 3 (a0.map (SizeEdge.pv false))))), (1, .val (.pv (.sl false 3 (a1.map (SizeEdge.pv false))))), (5, .val (.pv (I (i4 : Int))))]) (fun i4 s4 => []) (St.le_mk2 (by simp -failIfUnchanged only [↓RA, RB, RS, fx74, p1, p2, p3, p4, reduceIte, p5, p6, p7, p8, c1])) (fun i4 s4 hi h => ?_) (fun s4 h => ?_)
    · have w4 := wrap_succ (i := i4) (by omega)
      simp -failIfUnchanged only [↓RA, RB, RS, fx74, p1, p2, p3, p4, reduceIte, p5, p6, p7, p8, c1]
      refine CondH.tt (decide_eq_true (by omega)) (fun c2 => ?_)
      simp -failIfUnchanged only [↓RA, RB, RS, fx74, p1, p2, p3, p4, reduceIte, p5, p6, p7, p8, c1, c2]
      obtain ⟨v19, hv19, h⟩ := run_bind h
      refine IdxH.mk (f := (SizeEdge.pv false)) hv19 ?_ ?_ <;> simp -failIfUnchanged only [↓RA, RB, RS, fx74, p1, p2, p3, p4, reduceIte, p5, p6, p7, p8, c1, c2]
      obtain ⟨v23, hv23, h⟩ := run_bind h
      refine IdxH.mk (f := (SizeEdge.pv false)) hv23 ?_ ?_ <;> simp -failIfUnchanged only [↓RA, RB, RS, fx74, p1, p2, p3, p4, reduceIte, p5, p6, p7, p8, c1, c2]
      obtain ⟨v25, hv25, h⟩ := run_bind h
      refine CallH.mk [false, false] (eqSizeEdge_sat hv25) ?_ ?_ <;> simp -failIfUnchanged only [↓RA, RB, RS, fx74, p1, p2, p3, p4, reduceIte, p5, p6, p7, p8, c1, c2]
      refine And.intro (DrawH.none (by rfl) (by first | rfl | (simp -failIfUnchanged only [↓RA, RB, RS, fx74, p1, p2, p3, p4, reduceIte, p5, p6, p7, p8] <;> rfl)) (by first | rfl | (simp -failIfUnchanged only [↓RA, RB, RS, fx74, p1, p2, p3, p4, reduceIte, p5, p6, p7, p8] <;> rfl)) (by first | rfl | (simp -failIfUnchanged only [↓RA, RB, RS, fx74, p1, p2, p3, p4, reduceIte, p5, p6, p7, p8] <;> rfl))) ?_
      simp -failIfUnchanged only [↓RA, RB, RS, fx74, p1, p2, p3, p4, reduceIte, p5, p6, p7, p8, c1, c2]
      refine CondH.mk (fun c3 => ?_) (fun c3 => ?_)
      · replace h := run_t c3 h
        simp -failIfUnchanged only [↓RA, RB, RS, fx74, p1, p2, p3, p4, reduceIte, p5, p6, p7, p8, c1, c2, c3]
        have h := run_some h
        refine RdH.mk ⟨_, h, ?_⟩
        refine St.le_mk2 ?_
        simp -failIfUnchanged only [↓RA, RB, RS, fx74, p1, p2, p3, p4, reduceIte, p5, p6, p7, p8, c1, c2, c3, w4]
      · replace h := run_f c3 h
        simp -failIfUnchanged only [↓RA, RB, RS, fx74, p1, p2, p3, p4, reduceIte, p5, p6, p7, p8, c1, c2, c3]
        have h := run_some h
        obtain rfl : _ = r := h
        refine FinH.l ?_
        simp -failIfUnchanged only [↓RA, RB, RS, fx74, p1, p2, p3, p4, reduceIte, p5, p6, p7, p8, c1, c2, c3]
    · simp -failIfUnchanged only [↓RA, RB, RS, fx74, p1, p2, p3, p4, reduceIte, p5, p6, p7, p8, c1]
      refine CondH.ff (decide_eq_false (by omega)) (fun c4 => ?_)
      simp -failIfUnchanged only [↓RA, RB, RS, fx74, p1, p2, p3, p4, reduceIte, p5, p6, p7, p8, c1, c4]
      have h := run_some h
      obtain rfl : _ = r := h
      refine FinH.l ?_
      simp -failIfUnchanged only [↓RA, RB, RS, fx74, p1, p2, p3, p4, reduceIte, p5, p6, p7, p8, c1, c4]
  · replace h := run_f c1 h
    simp -failIfUnchanged only [↓RA, RB, RS, fx74, p1, p2, p3, p4, reduceIte, p5, p6, p7, p8, c1]
    have h := run_some h
    obtain rfl : _ = r := h
    refine FinH.l ?_
    simp -failIfUnchanged only [↓RA, RB, RS, fx74, p1, p2, p3, p4, reduceIte, p5, p6, p7, p8, c1]

def fx27 := And.intro @ty_3 <| And.intro @zc_3 <| And.intro @z_3 <| And.intro @ty_4 <| And.intro @zc_4 <| And.intro @z_4 <| And.intro @u_4 <| And.intro @ty_43 <| And.intro @zc_43 <| And.intro @z_43 <| And.intro @es_43 <| And.intro @eb_43 <| And.intro @sl_43 <| And.intro @is_43 <| And.intro @el_43 <| And.intro @ze_43 <| And.intro @ez_43 <| And.intro @ty_45 <| And.intro @zc_45 <| And.intro @z_45 <| And.intro @fo_45_0 <| And.intro @fi_45_0 <| And.intro @ft_45_0 <| And.intro @fo_45_1 <| And.intro @fi_45_1 <| And.intro @ft_45_1 <| And.intro @fo_45_2 <| And.intro @fi_45_2 <| And.intro @ft_45_2 <| @lay_45
set_option maxHeartbeats 4000000 in
theorem eqSizeGraph_sat {a0 : SizeGraph} {a1 : SizeGraph}  {r : Bool} (h : eqSizeGraph a0 a1 = some r) : Sat Try.prog 27 [((SizeGraph.pv false) a0), ((SizeGraph.pv false) a1)] (B r) := by
  replace h := Run.of h
  unfold eqSizeGraph at h
  refine Sat.of_m (nt := 21) (rs := [.tmp 4]) (n := 100000) Try.func27 rfl rfl rfl rfl (by simp) ?_
  simp -failIfUnchanged only [↓RA, RB, RS, fx27, p1, p2, p3, p4, reduceIte, p5, p6, p7, p8]
  repeat (first | with_reducible refine noR_and (by repeat (first | exact noR_empty _ _ | exact noR_nilS _ _ | refine noR_mk _ _ _ _ _ rfl ?_ | refine noR_mkS _ _ _ _ _ rfl ?_)) ?_ | with_reducible refine noC_and (by repeat (first | exact noC_empty _ _ (by simp -failIfUnchanged only [↓RA, RB, RS, fx27, p1, p2, p3, p4, reduceIte, p5, p6, p7, p8]) | exact noC_nilS _ _ (by simp -failIfUnchanged only [↓RA, RB, RS, fx27, p1, p2, p3, p4, reduceIte, p5, p6, p7, p8]) | refine noC_mk _ _ _ _ _ rfl ?_ | refine noC_mkS _ _ _ _ _ rfl ?_)) ?_ | with_reducible refine and_ac ?_ | with_reducible refine And.intro (a := _ = List.range _) (by rfl) ?_)
  refine CondH.mk (fun c1 => ?_) (fun c1 => ?_)
  · replace h := run_t c1 h
    simp -failIfUnchanged only [↓RA, RB, RS, fx27, p1, p2, p3, p4, reduceIte, p5, p6, p7, p8, c1]
    refine CondH.mk (fun c2 => ?_) (fun c2 => ?_)
    · replace h := run_t c2 h
      simp -failIfUnchanged only [↓RA, RB, RS, fx27, p1, p2, p3, p4, reduceIte, p5, p6, p7, p8, c1, c2]
      obtain ⟨v19, hv19, h⟩ := run_bind h
      refine CallH.mk [false, false] (eqSizeEdgeS_sat hv19) ?_ ?_ <;> simp -failIfUnchanged only [↓RA, RB, RS, fx27, p1, p2, p3, p4, reduceIte, p5, p6, p7, p8, c1, c2]
      refine CondH.mk (fun c3 => ?_) (fun c3 => ?_)
      · replace h := run_t c3 h
        simp -failIfUnchanged only [↓RA, RB, RS, fx27, p1, p2, p3, p4, reduceIte, p5, p6, p7, p8, c1, c2, c3]
        have h := run_some h
        obtain rfl : _ = r := h
        refine FinH.l ?_
        simp -failIfUnchanged only [↓RA, RB, RS, fx27, p1, p2, p3, p4, reduceIte, p5, p6, p7, p8, c1, c2, c3]
      · replace h := run_f c3 h
        simp -failIfUnchanged only [↓RA, RB, RS, fx27, p1, p2, p3, p4, reduceIte, p5, p6, p7, p8, c1, c2, c3]
        have h := run_some h
        obtain rfl : _ = r := h
        refine FinH.l ?_
        simp -failIfUnchanged only [↓RA, RB, RS, fx27, p1, p2, p3, p4, reduceIte, p5, p6, p7, p8, c1, c2, c3]
    · replace h := run_f c2 h
      simp -failIfUnchanged only [↓RA, RB, RS, fx27, p1, p2, p3, p4, reduceIte, p5, p6, p7, p8, c1, c2]
      have h := run_some h
      obtain rfl : _ = r := h
      refine FinH.l ?_
      simp -failIfUnchanged only [↓RA, RB, RS, fx27, p1, p2, p3, p4, reduceIte, p5, p6, p7, p8, c1, c2]
  · replace h := run_f c1 h
    simp -failIfUnchanged only [↓RA, RB, RS, fx27, p1, p2, p3, p4, reduceIte, p5, p6, p7, p8, c1]
    have h := run_some h
    obtain rfl : _ = r := h
    refine FinH.l ?_
    simp -failIfUnchanged only [↓RA, RB, RS, fx27, p1, p2, p3, p4, reduceIte, p5, p6, p7, p8, c1]

def fx108 := And.intro @ty_3 <| And.intro @zc_3 <| And.intro @z_3 <| And.intro @ty_4 <| And.intro @zc_4 <| And.intro @z_4 <| And.intro @u_4 <| And.intro @ty_43 <| And.intro @zc_43 <| And.intro @z_43 <| And.intro @es_43 <| And.intro @eb_43 <| And.intro @sl_43 <| And.intro @is_43 <| And.intro @el_43 <| And.intro @ze_43 <| And.intro @ez_43 <| And.intro @ty_103 <| And.intro @zc_103 <| And.intro @z_103 <| And.intro @fo_103_0 <| And.intro @fi_103_0 <| And.intro @ft_103_0 <| And.intro @fo_103_1 <| And.intro @fi_103_1 <| And.intro @ft_103_1 <| And.intro @fo_103_2 <| And.intro @fi_103_2 <| And.intro @ft_103_2 <| @lay_103
set_option maxHeartbeats 4000000 in
theorem markSizeEdgeS_sat {a0 : List SizeEdge} {a1 : Int}  {r : Int × (List SizeEdge)} (h : markSizeEdgeS a0 a1 = some r) : SatIO Try.prog 108 [(.sl true 3 (a0.map (SizeEdge.pv false))), (I a1)] [(.sl true 3 (r.2.map (SizeEdge.pv false))), (I a1)] (I r.1) := by
  replace h := Run.of h
  unfold markSizeEdgeS at h
  refine SatIO.of_m (nt := 36) (rs := [.tmp 4]) (n := 100000) Try.func108 rfl rfl rfl rfl (by simp) ?_
  simp -failIfUnchanged only [↓RA, ↓RI, RB, RJ, RS, fx108, p1, p2, p3, p4, reduceIte, p5, p6, p7, p8]
  replace h := run_loop h
  refine Mg.whileN h (fun s2 => [(0, .val (.own 10000)), (1, .val (.pv (I s2.2.1))), (5, .val (.pv (I s2.2.2)))]) (fun s2 => [(10000, (3, s2.1.map (SizeEdge.pv false)))]) (St.le_mk2 (by simp -failIfUnchanged only [↓RA, ↓RI, RB, RJ, RS, fx108, p1, p2, p3, p4, reduceIte, p5, p6, p7, p8])) (fun n2 s2 h => ?_)
  simp -failIfUnchanged only [↓RA, ↓RI, RB, RJ, RS, fx108, p1, p2, p3, p4, reduceIte, p5, p6, p7, p8]
  refine CondH.mk (fun c1 => ?_) (fun c1 => ?_)
  · replace h := run_t c1 h
    simp -failIfUnchanged only [↓RA, ↓RI, RB, RJ, RS, fx108, p1, p2, p3, p4, reduceIte, p5, p6, p7, p8, c1]
    obtain ⟨v15, hv15, h⟩ := run_bind h
    refine IdxH.mk (f := (SizeEdge.pv false)) hv15 ?_ ?_ <;> simp -failIfUnchanged only [↓RA, ↓RI, RB, RJ, RS, fx108, p1, p2, p3, p4, reduceIte, p5, p6, p7, p8, c1]
    obtain ⟨w2, hw2, h⟩ := run_bind h
    refine EldH.mk (f := (SizeEdge.pv false)) hw2 rfl ?_ ?_ <;> simp -failIfUnchanged only [↓RA, ↓RI, RB, RJ, RS, fx108, p1, p2, p3, p4, reduceIte, p5, p6, p7, p8, c1]
    obtain ⟨v22, hv22, h⟩ := run_bind h
    refine IdxH.mk (f := (SizeEdge.pv false)) hv22 ?_ ?_ <;> simp -failIfUnchanged only [↓RA, ↓RI, RB, RJ, RS, fx108, p1, p2, p3, p4, reduceIte, p5, p6, p7, p8, c1]
    obtain ⟨w3, hw3, h⟩ := run_bind h
    refine EldH.mk (f := (SizeEdge.pv false)) hw3 rfl ?_ ?_ <;> simp -failIfUnchanged only [↓RA, ↓RI, RB, RJ, RS, fx108, p1, p2, p3, p4, reduceIte, p5, p6, p7, p8, c1]
    obtain ⟨v29, hv29, h⟩ := run_bind h
    refine remH.mk hv29 ?_
    simp -failIfUnchanged only [↓RA, ↓RI, RB, RJ, RS, fx108, p1, p2, p3, p4, reduceIte, p5, p6, p7, p8, c1]
    obtain ⟨v31, hv31, h⟩ := run_bind h
    refine IdxH.mk (f := (SizeEdge.pv false)) hv31 ?_ ?_ <;> simp -failIfUnchanged only [↓RA, ↓RI, RB, RJ, RS, fx108, p1, p2, p3, p4, reduceIte, p5, p6, p7, p8, c1]
    obtain ⟨w4, hw4, h⟩ := run_bind h
    refine EldH.mk (f := (SizeEdge.pv false)) hw4 rfl ?_ ?_ <;> simp -failIfUnchanged only [↓RA, ↓RI, RB, RJ, RS, fx108, p1, p2, p3, p4, reduceIte, p5, p6, p7, p8, c1]
    have h := run_some h
    refine RdH.mk ⟨_, h, ?_⟩
    refine St.le_mk2 ?_
    simp -failIfUnchanged only [↓RA, ↓RI, RB, RJ, RS, fx108, p1, p2, p3, p4, reduceIte, p5, p6, p7, p8, c1]
  · replace h := run_f c1 h
    simp -failIfUnchanged only [↓RA, ↓RI, RB, RJ, RS, fx108, p1, p2, p3, p4, reduceIte, p5, p6, p7, p8, c1]
    have h := run_some h
    have h := run_some h
    obtain rfl : _ = r := h
    refine FinIO.mk ?_
    simp -failIfUnchanged only [↓RA, ↓RI, RB, RJ, RS, fx108, p1, p2, p3, p4, reduceIte, p5, p6, p7, p8, c1]

def fx53 := And.intro @ty_3 <| And.intro @zc_3 <| And.intro @z_3 <| And.intro @ty_43 <| And.intro @zc_43 <| And.intro @z_43 <| And.intro @es_43 <| And.intro @eb_43 <| And.intro @sl_43 <| And.intro @is_43 <| And.intro @el_43 <| And.intro @ze_43 <| And.intro @ez_43 <| And.intro @ty_45 <| And.intro @zc_45 <| And.intro @z_45 <| And.intro @fo_45_0 <| And.intro @fi_45_0 <| And.intro @ft_45_0 <| And.intro @fo_45_1 <| And.intro @fi_45_1 <| And.intro @ft_45_1 <| And.intro @fo_45_2 <| And.intro @fi_45_2 <| And.intro @ft_45_2 <| @lay_45
set_option maxHeartbeats 4000000 in
theorem markSizeGraph_sat {a0 : SizeGraph} {a1 : Int}  {r : Int × (List SizeEdge)} (h : markSizeGraph a0 a1 = some r) : SatIO Try.prog 53 [((SizeGraph.pv true) a0), (I a1)] [((SizeGraph.pv true) (SizeGraph.mk a0.Source a0.Target r.2)), (I a1)] (I r.1) := by
  replace h := Run.of h
  unfold markSizeGraph at h
  refine SatIO.of_m (nt := 10) (rs := [.tmp 4]) (n := 100000) Try.func53 rfl rfl rfl rfl (by simp) ?_
  simp -failIfUnchanged only [↓RA, ↓RI, RB, RJ, RS, fx53, p1, p2, p3, p4, reduceIte, p5, p6, p7, p8]
  repeat (first | with_reducible refine noR_and (by repeat (first | exact noR_empty _ _ | exact noR_nilS _ _ | refine noR_mk _ _ _ _ _ rfl ?_ | refine noR_mkS _ _ _ _ _ rfl ?_)) ?_ | with_reducible refine noC_and (by repeat (first | exact noC_empty _ _ (by simp -failIfUnchanged only [↓RA, ↓RI, RB, RJ, RS, fx53, p1, p2, p3, p4, reduceIte, p5, p6, p7, p8]) | exact noC_nilS _ _ (by simp -failIfUnchanged only [↓RA, ↓RI, RB, RJ, RS, fx53, p1, p2, p3, p4, reduceIte, p5, p6, p7, p8]) | refine noC_mk _ _ _ _ _ rfl ?_ | refine noC_mkS _ _ _ _ _ rfl ?_)) ?_ | with_reducible refine and_ac ?_ | with_reducible refine And.intro (a := _ = List.range _) (by rfl) ?_)
  obtain ⟨v8, hv8, h⟩ := run_bind h
  refine CallH.io [(.own 10000), (.pv (I a1))] [(10000, (3, v8.2.map (SizeEdge.pv false)))] (markSizeEdgeS_sat hv8) ?_ ?_ <;> simp -failIfUnchanged only [↓RA, ↓RI, RB, RJ, RS, fx53, p1, p2, p3, p4, reduceIte, p5, p6, p7, p8]
  have h := run_some h
  obtain rfl : _ = r := h
  refine FinIO.mk ?_
  simp -failIfUnchanged only [↓RA, ↓RI, RB, RJ, RS, fx53, p1, p2, p3, p4, reduceIte, p5, p6, p7, p8]

def fx109 := And.intro @ty_3 <| And.intro @zc_3 <| And.intro @z_3 <| And.intro @ty_4 <| And.intro @zc_4 <| And.intro @z_4 <| And.intro @u_4 <| And.intro @ty_43 <| And.intro @zc_43 <| And.intro @z_43 <| And.intro @es_43 <| And.intro @eb_43 <| And.intro @sl_43 <| And.intro @is_43 <| And.intro @el_43 <| And.intro @ze_43 <| And.intro @ez_43 <| And.intro @ty_103 <| And.intro @zc_103 <| And.intro @z_103 <| And.intro @fo_103_0 <| And.intro @fi_103_0 <| And.intro @ft_103_0 <| And.intro @fo_103_1 <| And.intro @fi_103_1 <| And.intro @ft_103_1 <| And.intro @fo_103_2 <| And.intro @fi_103_2 <| And.intro @ft_103_2 <| @lay_103
set_option maxHeartbeats 4000000 in
theorem heldSizeEdgeS_sat {a0 : List SizeEdge} {a1 : Int}  {r : Int} (h : heldSizeEdgeS a0 a1 = some r) : Sat Try.prog 109 [(.sl false 3 (a0.map (SizeEdge.pv false))), (I a1)] (I r) := by
  replace h := Run.of h
  unfold heldSizeEdgeS at h
  refine Sat.of_m (nt := 42) (rs := [.tmp 4]) (n := 100000) Try.func109 rfl rfl rfl rfl (by simp) ?_
  simp -failIfUnchanged only [↓RA, RB, RS, fx109, p1, p2, p3, p4, reduceIte, p5, p6, p7, p8]
  refine Mg.know_sl (b := false) (sz := 3) (es := a0.map (SizeEdge.pv false)) 0 (by simp -failIfUnchanged only [↓RA, RB, RS, fx109, p1, p2, p3, p4, reduceIte, p5, p6, p7, p8]) fun hl0 => ?_; rw [List.length_map] at hl0
  replace h := run_loop h
  refine Mg.forN h (fun i2 s2 => [(0, .val (.pv (.sl false 3 (a0.map (SizeEdge.pv false))))), (1, .val (.pv (I s2))), (5, .val (.pv (I (i2 : Int))))]) (fun i2 s2 => []) (St.le_mk2 (by simp -failIfUnchanged only [↓RA, RB, RS, fx109, p1, p2, p3, p4, reduceIte, p5, p6, p7, p8])) (fun i2 s2 hi h => ?_) (fun s2 h => ?_)
  · have w2 := wrap_succ (i := i2) (by omega)
    simp -failIfUnchanged only [↓RA, RB, RS, fx109, p1, p2, p3, p4, reduceIte, p5, p6, p7, p8]
    refine CondH.tt (decide_eq_true (by omega)) (fun c1 => ?_)
    simp -failIfUnchanged only [↓RA, RB, RS, fx109, p1, p2, p3, p4, reduceIte, p5, p6, p7, p8, c1]
    obtain ⟨v14, hv14, h⟩ := run_bind h
    refine IdxH.mk (f := (SizeEdge.pv false)) hv14 ?_ ?_ <;> simp -failIfUnchanged only [↓RA, RB, RS, fx109, p1, p2, p3, p4, reduceIte, p5, p6, p7, p8, c1]
    refine CondH.mk (fun c2 => ?_) (fun c2 => ?_)
    · replace h := run_t c2 h
      simp -failIfUnchanged only [↓RA, RB, RS, fx109, p1, p2, p3, p4, reduceIte, p5, p6, p7, p8, c1, c2]
      obtain ⟨v23, hv23, h⟩ := run_bind h
      refine IdxH.mk (f := (SizeEdge.pv false)) hv23 ?_ ?_ <;> simp -failIfUnchanged only [↓RA, RB, RS, fx109, p1, p2, p3, p4, reduceIte, p5, p6, p7, p8, c1, c2]
      refine CondH.mk (fun c3 => ?_) (fun c3 => ?_)
      · replace h := run_t c3 h
        simp -failIfUnchanged only [↓RA, RB, RS, fx109, p1, p2, p3, p4, reduceIte, p5, p6, p7, p8, c1, c2, c3]
        obtain ⟨v32, hv32, h⟩ := run_bind h
        refine IdxH.mk (f := (SizeEdge.pv false)) hv32 ?_ ?_ <;> simp -failIfUnchanged only [↓RA, RB, RS, fx109, p1, p2, p3, p4, reduceIte, p5, p6, p7, p8, c1, c2, c3]
        obtain ⟨v36, hv36, h⟩ := run_bind h
        refine remH.mk hv36 ?_
        simp -failIfUnchanged only [↓RA, RB, RS, fx109, p1, p2, p3, p4, reduceIte, p5, p6, p7, p8, c1, c2, c3]
        refine CondH.mk (fun c4 => ?_) (fun c4 => ?_)
        · replace h := run_t c4 h
          simp -failIfUnchanged only [↓RA, RB, RS, fx109, p1, p2, p3, p4, reduceIte, p5, p6, p7, p8, c1, c2, c3, c4]
          have h := run_some h
          refine RdH.mk ⟨_, h, ?_⟩
          refine St.le_mk2 ?_
          simp -failIfUnchanged only [↓RA, RB, RS, fx109, p1, p2, p3, p4, reduceIte, p5, p6, p7, p8, c1, c2, c3, c4, w2]
        · replace h := run_f c4 h
          simp -failIfUnchanged only [↓RA, RB, RS, fx109, p1, p2, p3, p4, reduceIte, p5, p6, p7, p8, c1, c2, c3, c4]
          have h := run_some h
          obtain rfl : _ = r := h
          refine FinH.l ?_
          simp -failIfUnchanged only [↓RA, RB, RS, fx109, p1, p2, p3, p4, reduceIte, p5, p6, p7, p8, c1, c2, c3, c4]
      · replace h := run_f c3 h
        simp -failIfUnchanged only [↓RA, RB, RS, fx109, p1, p2, p3, p4, reduceIte, p5, p6, p7, p8, c1, c2, c3]
        have h := run_some h
        obtain rfl : _ = r := h
        refine FinH.l ?_
        simp -failIfUnchanged only [↓RA, RB, RS, fx109, p1, p2, p3, p4, reduceIte, p5, p6, p7, p8, c1, c2, c3]
    · replace h := run_f c2 h
      simp -failIfUnchanged only [↓RA, RB, RS, fx109, p1, p2, p3, p4, reduceIte, p5, p6, p7, p8, c1, c2]
      have h := run_some h
      obtain rfl : _ = r := h
      refine FinH.l ?_
      simp -failIfUnchanged only [↓RA, RB, RS, fx109, p1, p2, p3, p4, reduceIte, p5, p6, p7, p8, c1, c2]
  · simp -failIfUnchanged only [↓RA, RB, RS, fx109, p1, p2, p3, p4, reduceIte, p5, p6, p7, p8]
    refine CondH.ff (decide_eq_false (by omega)) (fun c5 => ?_)
    simp -failIfUnchanged only [↓RA, RB, RS, fx109, p1, p2, p3, p4, reduceIte, p5, p6, p7, p8, c5]
    have h := run_some h
    obtain rfl : _ = r := h
    refine FinH.l ?_
    simp -failIfUnchanged only [↓RA, RB, RS, fx109, p1, p2, p3, p4, reduceIte, p5, p6, p7, p8, c5]

def fx54 := And.intro @ty_3 <| And.intro @zc_3 <| And.intro @z_3 <| And.intro @ty_43 <| And.intro @zc_43 <| And.intro @z_43 <| And.intro @es_43 <| And.intro @eb_43 <| And.intro @sl_43 <| And.intro @is_43 <| And.intro @el_43 <| And.intro @ze_43 <| And.intro @ez_43 <| And.intro @ty_45 <| And.intro @zc_45 <| And.intro @z_45 <| And.intro @fo_45_0 <| And.intro @fi_45_0 <| And.intro @ft_45_0 <| And.intro @fo_45_1 <| And.intro @fi_45_1 <| And.intro @ft_45_1 <| And.intro @fo_45_2 <| And.intro @fi_45_2 <| And.intro @ft_45_2 <| @lay_45
set_option maxHeartbeats 4000000 in
theorem heldSizeGraph_sat {a0 : SizeGraph} {a1 : Int}  {r : Int} (h : heldSizeGraph a0 a1 = some r) : Sat Try.prog 54 [((SizeGraph.pv false) a0), (I a1)] (I r) := by
  replace h := Run.of h
  unfold heldSizeGraph at h
  refine Sat.of_m (nt := 12) (rs := [.tmp 4]) (n := 100000) Try.func54 rfl rfl rfl rfl (by simp) ?_
  simp -failIfUnchanged only [↓RA, RB, RS, fx54, p1, p2, p3, p4, reduceIte, p5, p6, p7, p8]
  repeat (first | with_reducible refine noR_and (by repeat (first | exact noR_empty _ _ | exact noR_nilS _ _ | refine noR_mk _ _ _ _ _ rfl ?_ | refine noR_mkS _ _ _ _ _ rfl ?_)) ?_ | with_reducible refine noC_and (by repeat (first | exact noC_empty _ _ (by simp -failIfUnchanged only [↓RA, RB, RS, fx54, p1, p2, p3, p4, reduceIte, p5, p6, p7, p8]) | exact noC_nilS _ _ (by simp -failIfUnchanged only [↓RA, RB, RS, fx54, p1, p2, p3, p4, reduceIte, p5, p6, p7, p8]) | refine noC_mk _ _ _ _ _ rfl ?_ | refine noC_mkS _ _ _ _ _ rfl ?_)) ?_ | with_reducible refine and_ac ?_ | with_reducible refine And.intro (a := _ = List.range _) (by rfl) ?_)
  obtain ⟨v8, hv8, h⟩ := run_bind h
  refine CallH.mk [false, false] (heldSizeEdgeS_sat hv8) ?_ ?_ <;> simp -failIfUnchanged only [↓RA, RB, RS, fx54, p1, p2, p3, p4, reduceIte, p5, p6, p7, p8]
  refine CondH.mk (fun c1 => ?_) (fun c1 => ?_)
  · replace h := run_t c1 h
    simp -failIfUnchanged only [↓RA, RB, RS, fx54, p1, p2, p3, p4, reduceIte, p5, p6, p7, p8, c1]
    have h := run_some h
    obtain rfl : _ = r := h
    refine FinH.l ?_
    simp -failIfUnchanged only [↓RA, RB, RS, fx54, p1, p2, p3, p4, reduceIte, p5, p6, p7, p8, c1]
  · replace h := run_f c1 h
    simp -failIfUnchanged only [↓RA, RB, RS, fx54, p1, p2, p3, p4, reduceIte, p5, p6, p7, p8, c1]
    have h := run_some h
    obtain rfl : _ = r := h
    refine FinH.l ?_
    simp -failIfUnchanged only [↓RA, RB, RS, fx54, p1, p2, p3, p4, reduceIte, p5, p6, p7, p8, c1]

def fx12 := And.intro @ty_3 <| And.intro @zc_3 <| And.intro @z_3 <| And.intro @ty_4 <| And.intro @zc_4 <| And.intro @z_4 <| And.intro @u_4 <| And.intro @ty_40 <| And.intro @zc_40 <| And.intro @z_40 <| And.intro @fo_40_0 <| And.intro @fi_40_0 <| And.intro @ft_40_0 <| And.intro @fo_40_1 <| And.intro @fi_40_1 <| And.intro @ft_40_1 <| And.intro @fo_40_2 <| And.intro @fi_40_2 <| And.intro @ft_40_2 <| And.intro @lay_40 <| And.intro @ty_45 <| And.intro @zc_45 <| And.intro @z_45 <| And.intro @fo_45_0 <| And.intro @fi_45_0 <| And.intro @ft_45_0 <| And.intro @fo_45_1 <| And.intro @fi_45_1 <| And.intro @ft_45_1 <| And.intro @fo_45_2 <| And.intro @fi_45_2 <| And.intro @ft_45_2 <| And.intro @lay_45 <| @mixedT
set_option maxHeartbeats 4000000 in
theorem FnExactComposeGraphs_sat {a0 : SizeGraph} {a1 : SizeGraph}  {r : Bool} (h : FnExactComposeGraphs a0 a1 = some r) : Sat Try.prog 12 [((SizeGraph.pv false) a0), ((SizeGraph.pv false) a1)] (B r) := by
  replace h := Run.of h
  unfold FnExactComposeGraphs at h
  refine Sat.of_m (nt := 119) (rs := [.tmp 4]) (n := 100000) Try.func12 rfl rfl rfl rfl (by simp) ?_
  simp -failIfUnchanged only [↓RA, RB, RJ, RS, fx12, p1, p2, p3, p4, reduceIte, p5, p6, p7, p8]
  repeat (first | with_reducible refine noR_and (by repeat (first | exact noR_empty _ _ | exact noR_nilS _ _ | refine noR_mk _ _ _ _ _ rfl ?_ | refine noR_mkS _ _ _ _ _ rfl ?_)) ?_ | with_reducible refine noC_and (by repeat (first | exact noC_empty _ _ (by simp -failIfUnchanged only [↓RA, RB, RJ, RS, fx12, p1, p2, p3, p4, reduceIte, p5, p6, p7, p8]) | exact noC_nilS _ _ (by simp -failIfUnchanged only [↓RA, RB, RJ, RS, fx12, p1, p2, p3, p4, reduceIte, p5, p6, p7, p8]) | refine noC_mk _ _ _ _ _ rfl ?_ | refine noC_mkS _ _ _ _ _ rfl ?_)) ?_ | with_reducible refine and_ac ?_ | with_reducible refine And.intro (a := _ = List.range _) (by rfl) ?_)
  obtain ⟨v19, hv19, h⟩ := run_bind h
  refine CallH.mk [false, false] (szSizeGraph_sat hv19) ?_ ?_ <;> simp -failIfUnchanged only [↓RA, RB, RJ, RS, fx12, p1, p2, p3, p4, reduceIte, p5, p6, p7, p8]
  refine CondH.mk (fun c1 => ?_) (fun c1 => ?_)
  · replace h := run_t c1 h
    simp -failIfUnchanged only [↓RA, RB, RJ, RS, fx12, p1, p2, p3, p4, reduceIte, p5, p6, p7, p8, c1]
    have h := run_some h
    obtain rfl : _ = r := h
    refine FinH.l ?_
    simp -failIfUnchanged only [↓RA, RB, RJ, RS, fx12, p1, p2, p3, p4, reduceIte, p5, p6, p7, p8, c1]
  · replace h := run_f c1 h
    simp -failIfUnchanged only [↓RA, RB, RJ, RS, fx12, p1, p2, p3, p4, reduceIte, p5, p6, p7, p8, c1]
    obtain ⟨v24, hv24, h⟩ := run_bind h
    refine CallH.mk [false, false] (szSizeGraph_sat hv24) ?_ ?_ <;> simp -failIfUnchanged only [↓RA, RB, RJ, RS, fx12, p1, p2, p3, p4, reduceIte, p5, p6, p7, p8, c1]
    refine CondH.mk (fun c2 => ?_) (fun c2 => ?_)
    · replace h := run_t c2 h
      simp -failIfUnchanged only [↓RA, RB, RJ, RS, fx12, p1, p2, p3, p4, reduceIte, p5, p6, p7, p8, c1, c2]
      have h := run_some h
      obtain rfl : _ = r := h
      refine FinH.l ?_
      simp -failIfUnchanged only [↓RA, RB, RJ, RS, fx12, p1, p2, p3, p4, reduceIte, p5, p6, p7, p8, c1, c2]
    · replace h := run_f c2 h
      simp -failIfUnchanged only [↓RA, RB, RJ, RS, fx12, p1, p2, p3, p4, reduceIte, p5, p6, p7, p8, c1, c2]
      obtain ⟨v29, hv29, h⟩ := run_bind h
      refine CallH.mk [false] (toSizeGraph_sat hv29) ?_ ?_ <;> simp -failIfUnchanged only [↓RA, RB, RJ, RS, fx12, p1, p2, p3, p4, reduceIte, p5, p6, p7, p8, c1, c2]
      repeat (first | with_reducible refine noR_and (by repeat (first | exact noR_empty _ _ | exact noR_nilS _ _ | refine noR_mk _ _ _ _ _ rfl ?_ | refine noR_mkS _ _ _ _ _ rfl ?_)) ?_ | with_reducible refine noC_and (by repeat (first | exact noC_empty _ _ (by simp -failIfUnchanged only [↓RA, RB, RJ, RS, fx12, p1, p2, p3, p4, reduceIte, p5, p6, p7, p8]) | exact noC_nilS _ _ (by simp -failIfUnchanged only [↓RA, RB, RJ, RS, fx12, p1, p2, p3, p4, reduceIte, p5, p6, p7, p8]) | refine noC_mk _ _ _ _ _ rfl ?_ | refine noC_mkS _ _ _ _ _ rfl ?_)) ?_ | with_reducible refine and_ac ?_ | with_reducible refine And.intro (a := _ = List.range _) (by rfl) ?_)
      obtain ⟨v31, hv31, h⟩ := run_bind h
      refine CallH.mk [false] (toSizeGraph_sat hv31) ?_ ?_ <;> simp -failIfUnchanged only [↓RA, RB, RJ, RS, fx12, p1, p2, p3, p4, reduceIte, p5, p6, p7, p8, c1, c2]
      repeat (first | with_reducible refine noR_and (by repeat (first | exact noR_empty _ _ | exact noR_nilS _ _ | refine noR_mk _ _ _ _ _ rfl ?_ | refine noR_mkS _ _ _ _ _ rfl ?_)) ?_ | with_reducible refine noC_and (by repeat (first | exact noC_empty _ _ (by simp -failIfUnchanged only [↓RA, RB, RJ, RS, fx12, p1, p2, p3, p4, reduceIte, p5, p6, p7, p8]) | exact noC_nilS _ _ (by simp -failIfUnchanged only [↓RA, RB, RJ, RS, fx12, p1, p2, p3, p4, reduceIte, p5, p6, p7, p8]) | refine noC_mk _ _ _ _ _ rfl ?_ | refine noC_mkS _ _ _ _ _ rfl ?_)) ?_ | with_reducible refine and_ac ?_ | with_reducible refine And.intro (a := _ = List.range _) (by rfl) ?_)
      obtain ⟨v32, hv32, h⟩ := run_bind h
      refine CallH.mk [false, false] (spec_ComposeGraphs_sat hv32) ?_ ?_ <;> simp -failIfUnchanged only [↓RA, RB, RJ, RS, fx12, p1, p2, p3, p4, reduceIte, p5, p6, p7, p8, c1, c2]
      repeat (first | with_reducible refine noR_and (by repeat (first | exact noR_empty _ _ | exact noR_nilS _ _ | refine noR_mk _ _ _ _ _ rfl ?_ | refine noR_mkS _ _ _ _ _ rfl ?_)) ?_ | with_reducible refine noC_and (by repeat (first | exact noC_empty _ _ (by simp -failIfUnchanged only [↓RA, RB, RJ, RS, fx12, p1, p2, p3, p4, reduceIte, p5, p6, p7, p8]) | exact noC_nilS _ _ (by simp -failIfUnchanged only [↓RA, RB, RJ, RS, fx12, p1, p2, p3, p4, reduceIte, p5, p6, p7, p8]) | refine noC_mk _ _ _ _ _ rfl ?_ | refine noC_mkS _ _ _ _ _ rfl ?_)) ?_ | with_reducible refine and_ac ?_ | with_reducible refine And.intro (a := _ = List.range _) (by rfl) ?_)
      refine And.intro (DrawH.mk [6] [464, 496, 512] (by rfl) (by first | rfl | (simp -failIfUnchanged only [↓RA, RB, RJ, RS, fx12, p1, p2, p3, p4, reduceIte, p5, p6, p7, p8] <;> rfl)) (by first | rfl | (simp -failIfUnchanged only [↓RA, RB, RJ, RS, fx12, p1, p2, p3, p4, reduceIte, p5, p6, p7, p8] <;> rfl)) (by first | rfl | (simp -failIfUnchanged only [↓RA, RB, RJ, RS, fx12, p1, p2, p3, p4, reduceIte, p5, p6, p7, p8] <;> rfl)) (by simp -failIfUnchanged only [↓RA, RB, RJ, RS, fx12, p1, p2, p3, p4, reduceIte, p5, p6, p7, p8]; (try refine ⟨?_, ?_⟩) <;> repeat (first | exact noR_empty _ _ | exact noR_nilS _ _ | refine noR_mk _ _ _ _ _ rfl ?_ | refine noR_mkS _ _ _ _ _ rfl ?_)) (by simp -failIfUnchanged only [↓RA, RB, RJ, RS, fx12, p1, p2, p3, p4, reduceIte, p5, p6, p7, p8]; repeat (first | exact noC_empty _ _ (by simp -failIfUnchanged only [↓RA, RB, RJ, RS, fx12, p1, p2, p3, p4, reduceIte, p5, p6, p7, p8]) | exact noC_nilS _ _ (by simp -failIfUnchanged only [↓RA, RB, RJ, RS, fx12, p1, p2, p3, p4, reduceIte, p5, p6, p7, p8]) | refine noC_mk _ _ _ _ _ rfl ?_ | refine noC_mkS _ _ _ _ _ rfl ?_ | refine And.intro ?_ ?_))) ?_
      simp -failIfUnchanged only [↓RA, RB, RJ, RS, fx12, p1, p2, p3, p4, reduceIte, p5, p6, p7, p8, c1, c2]
      obtain ⟨v36, hv36, h⟩ := run_bind h
      refine CallH.mk [false] (toSizeGraph_sat hv36) ?_ ?_ <;> simp -failIfUnchanged only [↓RA, RB, RJ, RS, fx12, p1, p2, p3, p4, reduceIte, p5, p6, p7, p8, c1, c2]
      repeat (first | with_reducible refine noR_and (by repeat (first | exact noR_empty _ _ | exact noR_nilS _ _ | refine noR_mk _ _ _ _ _ rfl ?_ | refine noR_mkS _ _ _ _ _ rfl ?_)) ?_ | with_reducible refine noC_and (by repeat (first | exact noC_empty _ _ (by simp -failIfUnchanged only [↓RA, RB, RJ, RS, fx12, p1, p2, p3, p4, reduceIte, p5, p6, p7, p8]) | exact noC_nilS _ _ (by simp -failIfUnchanged only [↓RA, RB, RJ, RS, fx12, p1, p2, p3, p4, reduceIte, p5, p6, p7, p8]) | refine noC_mk _ _ _ _ _ rfl ?_ | refine noC_mkS _ _ _ _ _ rfl ?_)) ?_ | with_reducible refine and_ac ?_ | with_reducible refine And.intro (a := _ = List.range _) (by rfl) ?_)
      obtain ⟨v38, hv38, h⟩ := run_bind h
      refine CallH.mk [false] (toSizeGraph_sat hv38) ?_ ?_ <;> simp -failIfUnchanged only [↓RA, RB, RJ, RS, fx12, p1, p2, p3, p4, reduceIte, p5, p6, p7, p8, c1, c2]
      repeat (first | with_reducible refine noR_and (by repeat (first | exact noR_empty _ _ | exact noR_nilS _ _ | refine noR_mk _ _ _ _ _ rfl ?_ | refine noR_mkS _ _ _ _ _ rfl ?_)) ?_ | with_reducible refine noC_and (by repeat (first | exact noC_empty _ _ (by simp -failIfUnchanged only [↓RA, RB, RJ, RS, fx12, p1, p2, p3, p4, reduceIte, p5, p6, p7, p8]) | exact noC_nilS _ _ (by simp -failIfUnchanged only [↓RA, RB, RJ, RS, fx12, p1, p2, p3, p4, reduceIte, p5, p6, p7, p8]) | refine noC_mk _ _ _ _ _ rfl ?_ | refine noC_mkS _ _ _ _ _ rfl ?_)) ?_ | with_reducible refine and_ac ?_ | with_reducible refine And.intro (a := _ = List.range _) (by rfl) ?_)
      obtain ⟨v42, hv42, h⟩ := run_bind h
      refine CallH.mk [false, false] (impl_ComposeGraphs_sat hv42) ?_ ?_ <;> simp -failIfUnchanged only [↓RA, RB, RJ, RS, fx12, p1, p2, p3, p4, reduceIte, p5, p6, p7, p8, c1, c2]
      repeat (first | with_reducible refine noR_and (by repeat (first | exact noR_empty _ _ | exact noR_nilS _ _ | refine noR_mk _ _ _ _ _ rfl ?_ | refine noR_mkS _ _ _ _ _ rfl ?_)) ?_ | with_reducible refine noC_and (by repeat (first | exact noC_empty _ _ (by simp -failIfUnchanged only [↓RA, RB, RJ, RS, fx12, p1, p2, p3, p4, reduceIte, p5, p6, p7, p8]) | exact noC_nilS _ _ (by simp -failIfUnchanged only [↓RA, RB, RJ, RS, fx12, p1, p2, p3, p4, reduceIte, p5, p6, p7, p8]) | refine noC_mk _ _ _ _ _ rfl ?_ | refine noC_mkS _ _ _ _ _ rfl ?_)) ?_ | with_reducible refine and_ac ?_ | with_reducible refine And.intro (a := _ = List.range _) (by rfl) ?_)
      obtain ⟨v47, hv47, h⟩ := run_bind h
      refine CallH.mk [false, false] (eqSizeGraph_sat hv47) ?_ ?_ <;> simp -failIfUnchanged only [↓RA, RB, RJ, RS, fx12, p1, p2, p3, p4, reduceIte, p5, p6, p7, p8, c1, c2]
      refine CondH.mk (fun c3 => ?_) (fun c3 => ?_)
      · replace h := run_t c3 h
        simp -failIfUnchanged only [↓RA, RB, RJ, RS, fx12, p1, p2, p3, p4, reduceIte, p5, p6, p7, p8, c1, c2, c3]
        refine CondH.mk (fun c4 => ?_) (fun c4 => ?_)
        · replace h := run_t c4 h
          simp -failIfUnchanged only [↓RA, RB, RJ, RS, fx12, p1, p2, p3, p4, reduceIte, p5, p6, p7, p8, c1, c2, c3, c4]
          obtain ⟨v56, hv56, h⟩ := run_bind h
          refine CallH.mk [false] (toSizeGraph_sat hv56) ?_ ?_ <;> simp -failIfUnchanged only [↓RA, RB, RJ, RS, fx12, p1, p2, p3, p4, reduceIte, p5, p6, p7, p8, c1, c2, c3, c4]
          repeat (first | with_reducible refine noR_and (by repeat (first | exact noR_empty _ _ | exact noR_nilS _ _ | refine noR_mk _ _ _ _ _ rfl ?_ | refine noR_mkS _ _ _ _ _ rfl ?_)) ?_ | with_reducible refine noC_and (by repeat (first | exact noC_empty _ _ (by simp -failIfUnchanged only [↓RA, RB, RJ, RS, fx12, p1, p2, p3, p4, reduceIte, p5, p6, p7, p8]) | exact noC_nilS _ _ (by simp -failIfUnchanged only [↓RA, RB, RJ, RS, fx12, p1, p2, p3, p4, reduceIte, p5, p6, p7, p8]) | refine noC_mk _ _ _ _ _ rfl ?_ | refine noC_mkS _ _ _ _ _ rfl ?_)) ?_ | with_reducible refine and_ac ?_ | with_reducible refine And.intro (a := _ = List.range _) (by rfl) ?_)
          obtain ⟨v57, hv57, h⟩ := run_bind h
          refine CallH.mk [false, false] (eqSizeGraph_sat hv57) ?_ ?_ <;> simp -failIfUnchanged only [↓RA, RB, RJ, RS, fx12, p1, p2, p3, p4, reduceIte, p5, p6, p7, p8, c1, c2, c3, c4]
          refine And.intro (DrawH.mk [] [896] (by rfl) (by first | rfl | (simp -failIfUnchanged only [↓RA, RB, RJ, RS, fx12, p1, p2, p3, p4, reduceIte, p5, p6, p7, p8] <;> rfl)) (by first | rfl | (simp -failIfUnchanged only [↓RA, RB, RJ, RS, fx12, p1, p2, p3, p4, reduceIte, p5, p6, p7, p8] <;> rfl)) (by first | rfl | (simp -failIfUnchanged only [↓RA, RB, RJ, RS, fx12, p1, p2, p3, p4, reduceIte, p5, p6, p7, p8] <;> rfl)) (by simp) (by simp -failIfUnchanged only [↓RA, RB, RJ, RS, fx12, p1, p2, p3, p4, reduceIte, p5, p6, p7, p8]; repeat (first | exact noC_empty _ _ (by simp -failIfUnchanged only [↓RA, RB, RJ, RS, fx12, p1, p2, p3, p4, reduceIte, p5, p6, p7, p8]) | exact noC_nilS _ _ (by simp -failIfUnchanged only [↓RA, RB, RJ, RS, fx12, p1, p2, p3, p4, reduceIte, p5, p6, p7, p8]) | refine noC_mk _ _ _ _ _ rfl ?_ | refine noC_mkS _ _ _ _ _ rfl ?_ | refine And.intro ?_ ?_))) ?_
          simp -failIfUnchanged only [↓RA, RB, RJ, RS, fx12, p1, p2, p3, p4, reduceIte, p5, p6, p7, p8, c1, c2, c3, c4]
          refine CondH.mk (fun c5 => ?_) (fun c5 => ?_)
          · replace h := run_t c5 h
            simp -failIfUnchanged only [↓RA, RB, RJ, RS, fx12, p1, p2, p3, p4, reduceIte, p5, p6, p7, p8, c1, c2, c3, c4, c5]
            obtain ⟨v61, hv61, h⟩ := run_bind h
            refine CallH.mk [false] (toSizeGraph_sat hv61) ?_ ?_ <;> simp -failIfUnchanged only [↓RA, RB, RJ, RS, fx12, p1, p2, p3, p4, reduceIte, p5, p6, p7, p8, c1, c2, c3, c4, c5]
            repeat (first | with_reducible refine noR_and (by repeat (first | exact noR_empty _ _ | exact noR_nilS _ _ | refine noR_mk _ _ _ _ _ rfl ?_ | refine noR_mkS _ _ _ _ _ rfl ?_)) ?_ | with_reducible refine noC_and (by repeat (first | exact noC_empty _ _ (by simp -failIfUnchanged only [↓RA, RB, RJ, RS, fx12, p1, p2, p3, p4, reduceIte, p5, p6, p7, p8]) | exact noC_nilS _ _ (by simp -failIfUnchanged only [↓RA, RB, RJ, RS, fx12, p1, p2, p3, p4, reduceIte, p5, p6, p7, p8]) | refine noC_mk _ _ _ _ _ rfl ?_ | refine noC_mkS _ _ _ _ _ rfl ?_)) ?_ | with_reducible refine and_ac ?_ | with_reducible refine And.intro (a := _ = List.range _) (by rfl) ?_)
            obtain ⟨v62, hv62, h⟩ := run_bind h
            refine CallH.mk [false, false] (eqSizeGraph_sat hv62) ?_ ?_ <;> simp -failIfUnchanged only [↓RA, RB, RJ, RS, fx12, p1, p2, p3, p4, reduceIte, p5, p6, p7, p8, c1, c2, c3, c4, c5]
            refine And.intro (DrawH.mk [] [976] (by rfl) (by first | rfl | (simp -failIfUnchanged only [↓RA, RB, RJ, RS, fx12, p1, p2, p3, p4, reduceIte, p5, p6, p7, p8] <;> rfl)) (by first | rfl | (simp -failIfUnchanged only [↓RA, RB, RJ, RS, fx12, p1, p2, p3, p4, reduceIte, p5, p6, p7, p8] <;> rfl)) (by first | rfl | (simp -failIfUnchanged only [↓RA, RB, RJ, RS, fx12, p1, p2, p3, p4, reduceIte, p5, p6, p7, p8] <;> rfl)) (by simp) (by simp -failIfUnchanged only [↓RA, RB, RJ, RS, fx12, p1, p2, p3, p4, reduceIte, p5, p6, p7, p8]; repeat (first | exact noC_empty _ _ (by simp -failIfUnchanged only [↓RA, RB, RJ, RS, fx12, p1, p2, p3, p4, reduceIte, p5, p6, p7, p8]) | exact noC_nilS _ _ (by simp -failIfUnchanged only [↓RA, RB, RJ, RS, fx12, p1, p2, p3, p4, reduceIte, p5, p6, p7, p8]) | refine noC_mk _ _ _ _ _ rfl ?_ | refine noC_mkS _ _ _ _ _ rfl ?_ | refine And.intro ?_ ?_))) ?_
            simp -failIfUnchanged only [↓RA, RB, RJ, RS, fx12, p1, p2, p3, p4, reduceIte, p5, p6, p7, p8, c1, c2, c3, c4, c5]
            refine CondH.mk (fun c6 => ?_) (fun c6 => ?_)
            · replace h := run_t c6 h
              simp -failIfUnchanged only [↓RA, RB, RJ, RS, fx12, p1, p2, p3, p4, reduceIte, p5, p6, p7, p8, c1, c2, c3, c4, c5, c6]
              obtain ⟨v66, hv66, h⟩ := run_bind h
              refine CallH.io [(.node [(.pv (I v36.Source)), (.pv (I v36.Target)), (.own 576)]), (.pv (I (1 : Int)))] [(576, (3, v66.2.map (SizeEdge.pv false)))] (markSizeGraph_sat hv66) ?_ ?_ <;> simp -failIfUnchanged only [↓RA, RB, RJ, RS, fx12, p1, p2, p3, p4, reduceIte, p5, p6, p7, p8, c1, c2, c3, c4, c5, c6]
              obtain ⟨v69, hv69, h⟩ := run_bind h
              refine CallH.io [(.node [(.pv (I v38.Source)), (.pv (I v38.Target)), (.own 608)]), (.pv (I v66.1))] [(608, (3, v69.2.map (SizeEdge.pv false)))] (markSizeGraph_sat hv69) ?_ ?_ <;> simp -failIfUnchanged only [↓RA, RB, RJ, RS, fx12, p1, p2, p3, p4, reduceIte, p5, p6, p7, p8, c1, c2, c3, c4, c5, c6]
              refine CondH.mk (fun c7 => ?_) (fun c7 => ?_)
              · replace h := run_t c7 h
                simp -failIfUnchanged only [↓RA, RB, RJ, RS, fx12, p1, p2, p3, p4, reduceIte, p5, p6, p7, p8, c1, c2, c3, c4, c5, c6, c7]
                have h := run_some h
                obtain rfl : _ = r := h
                refine FinH.l ?_
                simp -failIfUnchanged only [↓RA, RB, RJ, RS, fx12, p1, p2, p3, p4, reduceIte, p5, p6, p7, p8, c1, c2, c3, c4, c5, c6, c7]
              · replace h := run_f c7 h
                simp -failIfUnchanged only [↓RA, RB, RJ, RS, fx12, p1, p2, p3, p4, reduceIte, p5, p6, p7, p8, c1, c2, c3, c4, c5, c6, c7]
                obtain ⟨v75, hv75, h⟩ := run_bind h
                refine CallH.mk [false, false] (eqSizeGraph_sat hv75) ?_ ?_ <;> simp -failIfUnchanged only [↓RA, RB, RJ, RS, fx12, p1, p2, p3, p4, reduceIte, p5, p6, p7, p8, c1, c2, c3, c4, c5, c6, c7]
                refine CondH.mk (fun c8 => ?_) (fun c8 => ?_)
                · replace h := run_t c8 h
                  simp -failIfUnchanged only [↓RA, RB, RJ, RS, fx12, p1, p2, p3, p4, reduceIte, p5, p6, p7, p8, c1, c2, c3, c4, c5, c6, c7, c8]
                  obtain ⟨v85, hv85, h⟩ := run_bind h
                  refine CallH.io [(.node [(.pv (I v42.1.Source)), (.pv (I v42.1.Target)), (.own 672)]), (.pv (I (1 : Int)))] [(672, (3, v85.2.map (SizeEdge.pv false)))] (markSizeGraph_sat hv85) ?_ ?_ <;> simp -failIfUnchanged only [↓RA, RB, RJ, RS, fx12, p1, p2, p3, p4, reduceIte, p5, p6, p7, p8, c1, c2, c3, c4, c5, c6, c7, c8]
                  obtain ⟨v88, hv88, h⟩ := run_bind h
                  refine CallH.mk [false, false] (heldSizeGraph_sat hv88) ?_ ?_ <;> simp -failIfUnchanged only [↓RA, RB, RJ, RS, fx12, p1, p2, p3, p4, reduceIte, p5, p6, p7, p8, c1, c2, c3, c4, c5, c6, c7, c8]
                  refine CondH.mk (fun c9 => ?_) (fun c9 => ?_)
                  · replace h := run_t c9 h
                    simp -failIfUnchanged only [↓RA, RB, RJ, RS, fx12, p1, p2, p3, p4, reduceIte, p5, p6, p7, p8, c1, c2, c3, c4, c5, c6, c7, c8, c9]
                    have h := run_some h
                    obtain rfl : _ = r := h
                    refine FinH.l ?_
                    simp -failIfUnchanged only [↓RA, RB, RJ, RS, fx12, p1, p2, p3, p4, reduceIte, p5, p6, p7, p8, c1, c2, c3, c4, c5, c6, c7, c8, c9]
                  · replace h := run_f c9 h
                    simp -failIfUnchanged only [↓RA, RB, RJ, RS, fx12, p1, p2, p3, p4, reduceIte, p5, p6, p7, p8, c1, c2, c3, c4, c5, c6, c7, c8, c9]
                    refine CondH.mk (fun c10 => ?_) (fun c10 => ?_)
                    · replace h := run_t c10 h
                      simp -failIfUnchanged only [↓RA, RB, RJ, RS, fx12, p1, p2, p3, p4, reduceIte, p5, p6, p7, p8, c1, c2, c3, c4, c5, c6, c7, c8, c9, c10]
                      obtain ⟨v96, hv96, h⟩ := run_bind h
                      refine CallH.mk [false] (toSizeGraph_sat hv96) ?_ ?_ <;> simp -failIfUnchanged only [↓RA, RB, RJ, RS, fx12, p1, p2, p3, p4, reduceIte, p5, p6, p7, p8, c1, c2, c3, c4, c5, c6, c7, c8, c9, c10]
                      repeat (first | with_reducible refine noR_and (by repeat (first | exact noR_empty _ _ | exact noR_nilS _ _ | refine noR_mk _ _ _ _ _ rfl ?_ | refine noR_mkS _ _ _ _ _ rfl ?_)) ?_ | with_reducible refine noC_and (by repeat (first | exact noC_empty _ _ (by simp -failIfUnchanged only [↓RA, RB, RJ, RS, fx12, p1, p2, p3, p4, reduceIte, p5, p6, p7, p8]) | exact noC_nilS _ _ (by simp -failIfUnchanged only [↓RA, RB, RJ, RS, fx12, p1, p2, p3, p4, reduceIte, p5, p6, p7, p8]) | refine noC_mk _ _ _ _ _ rfl ?_ | refine noC_mkS _ _ _ _ _ rfl ?_)) ?_ | with_reducible refine and_ac ?_ | with_reducible refine And.intro (a := _ = List.range _) (by rfl) ?_)
                      obtain ⟨v98, hv98, h⟩ := run_bind h
                      refine CallH.mk [false] (toSizeGraph_sat hv98) ?_ ?_ <;> simp -failIfUnchanged only [↓RA, RB, RJ, RS, fx12, p1, p2, p3, p4, reduceIte, p5, p6, p7, p8, c1, c2, c3, c4, c5, c6, c7, c8, c9, c10]
                      repeat (first | with_reducible refine noR_and (by repeat (first | exact noR_empty _ _ | exact noR_nilS _ _ | refine noR_mk _ _ _ _ _ rfl ?_ | refine noR_mkS _ _ _ _ _ rfl ?_)) ?_ | with_reducible refine noC_and (by repeat (first | exact noC_empty _ _ (by simp -failIfUnchanged only [↓RA, RB, RJ, RS, fx12, p1, p2, p3, p4, reduceIte, p5, p6, p7, p8]) | exact noC_nilS _ _ (by simp -failIfUnchanged only [↓RA, RB, RJ, RS, fx12, p1, p2, p3, p4, reduceIte, p5, p6, p7, p8]) | refine noC_mk _ _ _ _ _ rfl ?_ | refine noC_mkS _ _ _ _ _ rfl ?_)) ?_ | with_reducible refine and_ac ?_ | with_reducible refine And.intro (a := _ = List.range _) (by rfl) ?_)
                      obtain ⟨v99, hv99, h⟩ := run_bind h
                      refine CallH.mk [false, false] (impl_ComposeGraphs_sat hv99) ?_ ?_ <;> simp -failIfUnchanged only [↓RA, RB, RJ, RS, fx12, p1, p2, p3, p4, reduceIte, p5, p6, p7, p8, c1, c2, c3, c4, c5, c6, c7, c8, c9, c10]
                      repeat (first | with_reducible refine noR_and (by repeat (first | exact noR_empty _ _ | exact noR_nilS _ _ | refine noR_mk _ _ _ _ _ rfl ?_ | refine noR_mkS _ _ _ _ _ rfl ?_)) ?_ | with_reducible refine noC_and (by repeat (first | exact noC_empty _ _ (by simp -failIfUnchanged only [↓RA, RB, RJ, RS, fx12, p1, p2, p3, p4, reduceIte, p5, p6, p7, p8]) | exact noC_nilS _ _ (by simp -failIfUnchanged only [↓RA, RB, RJ, RS, fx12, p1, p2, p3, p4, reduceIte, p5, p6, p7, p8]) | refine noC_mk _ _ _ _ _ rfl ?_ | refine noC_mkS _ _ _ _ _ rfl ?_)) ?_ | with_reducible refine and_ac ?_ | with_reducible refine And.intro (a := _ = List.range _) (by rfl) ?_)
                      refine And.intro (DrawH.mk [15] [1536, 1568, 1584] (by rfl) (by first | rfl | (simp -failIfUnchanged only [↓RA, RB, RJ, RS, fx12, p1, p2, p3, p4, reduceIte, p5, p6, p7, p8] <;> rfl)) (by first | rfl | (simp -failIfUnchanged only [↓RA, RB, RJ, RS, fx12, p1, p2, p3, p4, reduceIte, p5, p6, p7, p8] <;> rfl)) (by first | rfl | (simp -failIfUnchanged only [↓RA, RB, RJ, RS, fx12, p1, p2, p3, p4, reduceIte, p5, p6, p7, p8] <;> rfl)) (by simp -failIfUnchanged only [↓RA, RB, RJ, RS, fx12, p1, p2, p3, p4, reduceIte, p5, p6, p7, p8]; (try refine ⟨?_, ?_⟩) <;> repeat (first | exact noR_empty _ _ | exact noR_nilS _ _ | refine noR_mk _ _ _ _ _ rfl ?_ | refine noR_mkS _ _ _ _ _ rfl ?_)) (by simp -failIfUnchanged only [↓RA, RB, RJ, RS, fx12, p1, p2, p3, p4, reduceIte, p5, p6, p7, p8]; repeat (first | exact noC_empty _ _ (by simp -failIfUnchanged only [↓RA, RB, RJ, RS, fx12, p1, p2, p3, p4, reduceIte, p5, p6, p7, p8]) | exact noC_nilS _ _ (by simp -failIfUnchanged only [↓RA, RB, RJ, RS, fx12, p1, p2, p3, p4, reduceIte, p5, p6, p7, p8]) | refine noC_mk _ _ _ _ _ rfl ?_ | refine noC_mkS _ _ _ _ _ rfl ?_ | refine And.intro ?_ ?_))) ?_
                      simp -failIfUnchanged only [↓RA, RB, RJ, RS, fx12, p1, p2, p3, p4, reduceIte, p5, p6, p7, p8, c1, c2, c3, c4, c5, c6, c7, c8, c9, c10]
                      obtain ⟨v104, hv104, h⟩ := run_bind h
                      refine CallH.mk [false, false] (eqSizeGraph_sat hv104) ?_ ?_ <;> simp -failIfUnchanged only [↓RA, RB, RJ, RS, fx12, p1, p2, p3, p4, reduceIte, p5, p6, p7, p8, c1, c2, c3, c4, c5, c6, c7, c8, c9, c10]
                      refine CondH.mk (fun c11 => ?_) (fun c11 => ?_)
                      · replace h := run_t c11 h
                        simp -failIfUnchanged only [↓RA, RB, RJ, RS, fx12, p1, p2, p3, p4, reduceIte, p5, p6, p7, p8, c1, c2, c3, c4, c5, c6, c7, c8, c9, c10, c11]
                        refine CondH.mk (fun c12 => ?_) (fun c12 => ?_)
                        · replace h := run_t c12 h
                          simp -failIfUnchanged only [↓RA, RB, RJ, RS, fx12, p1, p2, p3, p4, reduceIte, p5, p6, p7, p8, c1, c2, c3, c4, c5, c6, c7, c8, c9, c10, c11, c12]
                          obtain ⟨v113, hv113, h⟩ := run_bind h
                          refine CallH.mk [false, false] (heldSizeGraph_sat hv113) ?_ ?_ <;> simp -failIfUnchanged only [↓RA, RB, RJ, RS, fx12, p1, p2, p3, p4, reduceIte, p5, p6, p7, p8, c1, c2, c3, c4, c5, c6, c7, c8, c9, c10, c11, c12]
                          refine CondH.mk (fun c13 => ?_) (fun c13 => ?_)
                          · replace h := run_t c13 h
                            simp -failIfUnchanged only [↓RA, RB, RJ, RS, fx12, p1, p2, p3, p4, reduceIte, p5, p6, p7, p8, c1, c2, c3, c4, c5, c6, c7, c8, c9, c10, c11, c12, c13]
                            have h := run_some h
                            obtain rfl : _ = r := h
                            refine FinH.l ?_
                            simp -failIfUnchanged only [↓RA, RB, RJ, RS, fx12, p1, p2, p3, p4, reduceIte, p5, p6, p7, p8, c1, c2, c3, c4, c5, c6, c7, c8, c9, c10, c11, c12, c13]
                          · replace h := run_f c13 h
                            simp -failIfUnchanged only [↓RA, RB, RJ, RS, fx12, p1, p2, p3, p4, reduceIte, p5, p6, p7, p8, c1, c2, c3, c4, c5, c6, c7, c8, c9, c10, c11, c12, c13]
                            refine CondH.mk (fun c14 => ?_) (fun c14 => ?_)
                            · replace h := run_t c14 h
                              simp -failIfUnchanged only [↓RA, RB, RJ, RS, fx12, p1, p2, p3, p4, reduceIte, p5, p6, p7, p8, c1, c2, c3, c4, c5, c6, c7, c8, c9, c10, c11, c12, c13, c14]
                              have h := run_some h
                              obtain rfl : _ = r := h
                              refine FinH.l ?_
                              simp -failIfUnchanged only [↓RA, RB, RJ, RS, fx12, p1, p2, p3, p4, reduceIte, p5, p6, p7, p8, c1, c2, c3, c4, c5, c6, c7, c8, c9, c10, c11, c12, c13, c14]
                            · replace h := run_f c14 h
                              simp -failIfUnchanged only [↓RA, RB, RJ, RS, fx12, p1, p2, p3, p4, reduceIte, p5, p6, p7, p8, c1, c2, c3, c4, c5, c6, c7, c8, c9, c10, c11, c12, c13, c14]
                              have h := run_some h
                              obtain rfl : _ = r := h
                              refine FinH.l ?_
                              simp -failIfUnchanged only [↓RA, RB, RJ, RS, fx12, p1, p2, p3, p4, reduceIte, p5, p6, p7, p8, c1, c2, c3, c4, c5, c6, c7, c8, c9, c10, c11, c12, c13, c14]
                        · replace h := run_f c12 h
                          simp -failIfUnchanged only [↓RA, RB, RJ, RS, fx12, p1, p2, p3, p4, reduceIte, p5, p6, p7, p8, c1, c2, c3, c4, c5, c6, c7, c8, c9, c10, c11, c12]
                          have h := run_some h
                          obtain rfl : _ = r := h
                          refine FinH.l ?_
                          simp -failIfUnchanged only [↓RA, RB, RJ, RS, fx12, p1, p2, p3, p4, reduceIte, p5, p6, p7, p8, c1, c2, c3, c4, c5, c6, c7, c8, c9, c10, c11, c12]
                      · replace h := run_f c11 h
                        simp -failIfUnchanged only [↓RA, RB, RJ, RS, fx12, p1, p2, p3, p4, reduceIte, p5, p6, p7, p8, c1, c2, c3, c4, c5, c6, c7, c8, c9, c10, c11]
                        have h := run_some h
                        obtain rfl : _ = r := h
                        refine FinH.l ?_
                        simp -failIfUnchanged only [↓RA, RB, RJ, RS, fx12, p1, p2, p3, p4, reduceIte, p5, p6, p7, p8, c1, c2, c3, c4, c5, c6, c7, c8, c9, c10, c11]
                    · replace h := run_f c10 h
                      simp -failIfUnchanged only [↓RA, RB, RJ, RS, fx12, p1, p2, p3, p4, reduceIte, p5, p6, p7, p8, c1, c2, c3, c4, c5, c6, c7, c8, c9, c10]
                      have h := run_some h
                      obtain rfl : _ = r := h
                      refine FinH.l ?_
                      simp -failIfUnchanged only [↓RA, RB, RJ, RS, fx12, p1, p2, p3, p4, reduceIte, p5, p6, p7, p8, c1, c2, c3, c4, c5, c6, c7, c8, c9, c10]
                · replace h := run_f c8 h
                  simp -failIfUnchanged only [↓RA, RB, RJ, RS, fx12, p1, p2, p3, p4, reduceIte, p5, p6, p7, p8, c1, c2, c3, c4, c5, c6, c7, c8]
                  have h := run_some h
                  obtain rfl : _ = r := h
                  refine FinH.l ?_
                  simp -failIfUnchanged only [↓RA, RB, RJ, RS, fx12, p1, p2, p3, p4, reduceIte, p5, p6, p7, p8, c1, c2, c3, c4, c5, c6, c7, c8]
            · replace h := run_f c6 h
              simp -failIfUnchanged only [↓RA, RB, RJ, RS, fx12, p1, p2, p3, p4, reduceIte, p5, p6, p7, p8, c1, c2, c3, c4, c5, c6]
              have h := run_some h
              obtain rfl : _ = r := h
              refine FinH.l ?_
              simp -failIfUnchanged only [↓RA, RB, RJ, RS, fx12, p1, p2, p3, p4, reduceIte, p5, p6, p7, p8, c1, c2, c3, c4, c5, c6]
          · replace h := run_f c5 h
            simp -failIfUnchanged only [↓RA, RB, RJ, RS, fx12, p1, p2, p3, p4, reduceIte, p5, p6, p7, p8, c1, c2, c3, c4, c5]
            have h := run_some h
            obtain rfl : _ = r := h
            refine FinH.l ?_
            simp -failIfUnchanged only [↓RA, RB, RJ, RS, fx12, p1, p2, p3, p4, reduceIte, p5, p6, p7, p8, c1, c2, c3, c4, c5]
        · replace h := run_f c4 h
          simp -failIfUnchanged only [↓RA, RB, RJ, RS, fx12, p1, p2, p3, p4, reduceIte, p5, p6, p7, p8, c1, c2, c3, c4]
          have h := run_some h
          obtain rfl : _ = r := h
          refine FinH.l ?_
          simp -failIfUnchanged only [↓RA, RB, RJ, RS, fx12, p1, p2, p3, p4, reduceIte, p5, p6, p7, p8, c1, c2, c3, c4]
      · replace h := run_f c3 h
        simp -failIfUnchanged only [↓RA, RB, RJ, RS, fx12, p1, p2, p3, p4, reduceIte, p5, p6, p7, p8, c1, c2, c3]
        have h := run_some h
        obtain rfl : _ = r := h
        refine FinH.l ?_
        simp -failIfUnchanged only [↓RA, RB, RJ, RS, fx12, p1, p2, p3, p4, reduceIte, p5, p6, p7, p8, c1, c2, c3]

end Go.Proofs.Ytfggcaohidajkaa
