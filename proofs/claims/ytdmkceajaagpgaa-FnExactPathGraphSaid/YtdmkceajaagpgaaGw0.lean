/- A part of the proof: lemmas only; nothing is claimed here beyond what each lemma says. -/
import Derived.Test.YtdmkceajaagpgaaGm
import Derived.Test.YtdmkceajaagpgaaGf
import Derived.Test.YtdmkceajaagpgaaGinv
set_option linter.unusedSimpArgs false
set_option linter.unusedVariables false
set_option linter.defProp false
set_option maxRecDepth 4000
namespace Go.Proofs.Ytdmkceajaagpgaa
open Go.Av
open Nat renaming reduceLT → p1, reduceAdd → p2, reduceMul → p3, reduceEqDiff → p4, reduceBEq → p5, reduceLeDiff → p6, reduceSub → p7
open Int renaming reduceToNat → p8
def fx115 := And.intro @ty_3 <| And.intro @zc_3 <| And.intro @z_3 <| And.intro @ty_55 <| And.intro @zc_55 <| And.intro @z_55 <| And.intro @es_55 <| And.intro @eb_55 <| And.intro @sl_55 <| And.intro @is_55 <| And.intro @el_55 <| And.intro @ze_55 <| @ez_55
set_option maxHeartbeats 4000000 in
theorem szIntS_sat {a0 : List Int} {a1 : Int}  {r : Int} (h : szIntS a0 a1 = some r) : Sat Try.prog 115 [(.sl false 1 (a0.map I)), (I a1)] (I r) := by
  replace h := Run.of h
  unfold szIntS at h
  refine Sat.of_m (nt := 12) (rs := [.tmp 4]) (n := 100000) Try.func115 rfl rfl rfl rfl (by simp) ?_
  simp -failIfUnchanged only [↓RA, RB, RS, fx115, p1, p2, p3, p4, reduceIte, p5, p6, p7, p8]
  refine CondH.mk (fun c1 => ?_) (fun c1 => ?_)
  · replace h := run_t c1 h
    simp -failIfUnchanged only [↓RA, RB, RS, fx115, p1, p2, p3, p4, reduceIte, p5, p6, p7, p8, c1]
    have h := run_some h
    obtain rfl : _ = r := h
    refine FinH.l ?_
    simp -failIfUnchanged only [↓RA, RB, RS, fx115, p1, p2, p3, p4, reduceIte, p5, p6, p7, p8, c1]
  · replace h := run_f c1 h
    simp -failIfUnchanged only [↓RA, RB, RS, fx115, p1, p2, p3, p4, reduceIte, p5, p6, p7, p8, c1]
    have h := run_some h
    obtain rfl : _ = r := h
    refine FinH.l ?_
    simp -failIfUnchanged only [↓RA, RB, RS, fx115, p1, p2, p3, p4, reduceIte, p5, p6, p7, p8, c1]

def fx303 := And.intro @ty_3 <| And.intro @zc_3 <| And.intro @z_3 <| And.intro @ty_238 <| And.intro @zc_238 <| And.intro @z_238 <| And.intro @es_238 <| And.intro @eb_238 <| And.intro @sl_238 <| And.intro @is_238 <| And.intro @el_238 <| And.intro @ze_238 <| @ez_238
set_option maxHeartbeats 4000000 in
theorem szSizeEdgeS_sat {a0 : List SizeEdge} {a1 : Int}  {r : Int} (h : szSizeEdgeS a0 a1 = some r) : Sat Try.prog 303 [(.sl false 3 (a0.map (SizeEdge.pv false))), (I a1)] (I r) := by
  replace h := Run.of h
  unfold szSizeEdgeS at h
  refine Sat.of_m (nt := 12) (rs := [.tmp 4]) (n := 100000) Try.func303 rfl rfl rfl rfl (by simp) ?_
  simp -failIfUnchanged only [↓RA, RB, RS, fx303, p1, p2, p3, p4, reduceIte, p5, p6, p7, p8]
  refine CondH.mk (fun c1 => ?_) (fun c1 => ?_)
  · replace h := run_t c1 h
    simp -failIfUnchanged only [↓RA, RB, RS, fx303, p1, p2, p3, p4, reduceIte, p5, p6, p7, p8, c1]
    have h := run_some h
    obtain rfl : _ = r := h
    refine FinH.l ?_
    simp -failIfUnchanged only [↓RA, RB, RS, fx303, p1, p2, p3, p4, reduceIte, p5, p6, p7, p8, c1]
  · replace h := run_f c1 h
    simp -failIfUnchanged only [↓RA, RB, RS, fx303, p1, p2, p3, p4, reduceIte, p5, p6, p7, p8, c1]
    have h := run_some h
    obtain rfl : _ = r := h
    refine FinH.l ?_
    simp -failIfUnchanged only [↓RA, RB, RS, fx303, p1, p2, p3, p4, reduceIte, p5, p6, p7, p8, c1]

def fx235 := And.intro @ty_3 <| And.intro @zc_3 <| And.intro @z_3 <| And.intro @ty_238 <| And.intro @zc_238 <| And.intro @z_238 <| And.intro @es_238 <| And.intro @eb_238 <| And.intro @sl_238 <| And.intro @is_238 <| And.intro @el_238 <| And.intro @ze_238 <| And.intro @ez_238 <| And.intro @ty_240 <| And.intro @zc_240 <| And.intro @z_240 <| And.intro @fo_240_0 <| And.intro @fi_240_0 <| And.intro @ft_240_0 <| And.intro @fo_240_1 <| And.intro @fi_240_1 <| And.intro @ft_240_1 <| And.intro @fo_240_2 <| And.intro @fi_240_2 <| And.intro @ft_240_2 <| @lay_240
set_option maxHeartbeats 4000000 in
theorem szSizeGraph_sat {a0 : SizeGraph} {a1 : Int}  {r : Int} (h : szSizeGraph a0 a1 = some r) : Sat Try.prog 235 [((SizeGraph.pv false) a0), (I a1)] (I r) := by
  replace h := Run.of h
  unfold szSizeGraph at h
  refine Sat.of_m (nt := 12) (rs := [.tmp 4]) (n := 100000) Try.func235 rfl rfl rfl rfl (by simp) ?_
  simp -failIfUnchanged only [↓RA, RB, RS, fx235, p1, p2, p3, p4, reduceIte, p5, p6, p7, p8]
  repeat (first | with_reducible refine noR_and (by repeat (first | exact noR_empty _ _ | exact noR_nilS _ _ | refine noR_mk _ _ _ _ _ rfl ?_ | refine noR_mkS _ _ _ _ _ rfl ?_)) ?_ | with_reducible refine noC_and (by repeat (first | exact noC_empty _ _ (by simp -failIfUnchanged only [↓RA, RB, RS, fx235, p1, p2, p3, p4, reduceIte, p5, p6, p7, p8]) | exact noC_nilS _ _ (by simp -failIfUnchanged only [↓RA, RB, RS, fx235, p1, p2, p3, p4, reduceIte, p5, p6, p7, p8]) | refine noC_mk _ _ _ _ _ rfl ?_ | refine noC_mkS _ _ _ _ _ rfl ?_)) ?_ | with_reducible refine and_ac ?_ | with_reducible refine And.intro (a := _ = List.range _) (by rfl) ?_)
  obtain ⟨v8, hv8, h⟩ := run_bind h
  refine CallH.mk [false, false] (szSizeEdgeS_sat hv8) ?_ ?_ <;> simp -failIfUnchanged only [↓RA, RB, RS, fx235, p1, p2, p3, p4, reduceIte, p5, p6, p7, p8]
  refine CondH.mk (fun c1 => ?_) (fun c1 => ?_)
  · replace h := run_t c1 h
    simp -failIfUnchanged only [↓RA, RB, RS, fx235, p1, p2, p3, p4, reduceIte, p5, p6, p7, p8, c1]
    have h := run_some h
    obtain rfl : _ = r := h
    refine FinH.l ?_
    simp -failIfUnchanged only [↓RA, RB, RS, fx235, p1, p2, p3, p4, reduceIte, p5, p6, p7, p8, c1]
  · replace h := run_f c1 h
    simp -failIfUnchanged only [↓RA, RB, RS, fx235, p1, p2, p3, p4, reduceIte, p5, p6, p7, p8, c1]
    have h := run_some h
    obtain rfl : _ = r := h
    refine FinH.l ?_
    simp -failIfUnchanged only [↓RA, RB, RS, fx235, p1, p2, p3, p4, reduceIte, p5, p6, p7, p8, c1]

def fx129 := And.intro @ty_3 <| And.intro @zc_3 <| And.intro @z_3 <| And.intro @ty_83 <| And.intro @zc_83 <| And.intro @z_83 <| And.intro @es_83 <| And.intro @eb_83 <| And.intro @sl_83 <| And.intro @is_83 <| And.intro @el_83 <| And.intro @ze_83 <| And.intro @ez_83 <| And.intro @ty_240 <| And.intro @zc_240 <| And.intro @z_240 <| And.intro @fo_240_0 <| And.intro @fi_240_0 <| And.intro @ft_240_0 <| And.intro @fo_240_1 <| And.intro @fi_240_1 <| And.intro @ft_240_1 <| And.intro @fo_240_2 <| And.intro @fi_240_2 <| And.intro @ft_240_2 <| @lay_240
set_option maxHeartbeats 4000000 in
theorem szSizeGraphS_sat {a0 : List SizeGraph} {a1 : Int}  {r : Int} (h : szSizeGraphS a0 a1 = some r) : Sat Try.prog 129 [(.sl false 3 (a0.map (SizeGraph.pv false))), (I a1)] (I r) := by
  replace h := Run.of h
  unfold szSizeGraphS at h
  refine Sat.of_m (nt := 27) (rs := [.tmp 4]) (n := 100000) Try.func129 rfl rfl rfl rfl (by simp) ?_
  simp -failIfUnchanged only [↓RA, RB, RS, fx129, p1, p2, p3, p4, reduceIte, p5, p6, p7, p8]
  refine CondH.mk (fun c1 => ?_) (fun c1 => ?_)
  · replace h := run_t c1 h
    simp -failIfUnchanged only [↓RA, RB, RS, fx129, p1, p2, p3, p4, reduceIte, p5, p6, p7, p8, c1]
    have h := run_some h
    obtain rfl : _ = r := h
    refine FinH.l ?_
    simp -failIfUnchanged only [↓RA, RB, RS, fx129, p1, p2, p3, p4, reduceIte, p5, p6, p7, p8, c1]
  · replace h := run_f c1 h
    simp -failIfUnchanged only [↓RA, RB, RS, fx129, p1, p2, p3, p4, reduceIte, p5, p6, p7, p8, c1]
    refine Mg.know_sl (b := false) (sz := 3) (es := a0.map (SizeGraph.pv false)) 0 (by simp -failIfUnchanged only [↓RA, RB, RS, fx129, p1, p2, p3, p4, reduceIte, p5, p6, p7, p8, c1]) fun hl0 => ?_; rw [List.length_map] at hl0
    replace h := run_loop h
    refine Mg.forN h (fun i5 s5 => [(0, .val (.pv (.sl false 3 (a0.map (SizeGraph.pv false))))), (1, .val (.pv (I s5))), (5, .val (.pv (I (i5 : Int))))]) (fun i5 s5 => []) (St.le_mk2 (by simp -failIfUnchanged only [↓RA, RB, RS, fx129, p1, p2, p3, p4, reduceIte, p5, p6, p7, p8, c1])) (fun i5 s5 hi h => ?_) (fun s5 h => ?_)
    · have w5 := wrap_succ (i := i5) (by omega)
      simp -failIfUnchanged only [↓RA, RB, RS, fx129, p1, p2, p3, p4, reduceIte, p5, p6, p7, p8, c1]
      refine CondH.tt (decide_eq_true (by omega)) (fun c2 => ?_)
      simp -failIfUnchanged only [↓RA, RB, RS, fx129, p1, p2, p3, p4, reduceIte, p5, p6, p7, p8, c1, c2]
      obtain ⟨v20, hv20, h⟩ := run_bind h
      refine IdxH.mk (f := (SizeGraph.pv false)) hv20 ?_ ?_ <;> simp -failIfUnchanged only [↓RA, RB, RS, fx129, p1, p2, p3, p4, reduceIte, p5, p6, p7, p8, c1, c2]
      obtain ⟨v23, hv23, h⟩ := run_bind h
      refine CallH.mk [false, false] (szSizeGraph_sat hv23) ?_ ?_ <;> simp -failIfUnchanged only [↓RA, RB, RS, fx129, p1, p2, p3, p4, reduceIte, p5, p6, p7, p8, c1, c2]
      refine CondH.mk (fun c3 => ?_) (fun c3 => ?_)
      · replace h := run_t c3 h
        simp -failIfUnchanged only [↓RA, RB, RS, fx129, p1, p2, p3, p4, reduceIte, p5, p6, p7, p8, c1, c2, c3]
        have h := run_some h
        obtain rfl : _ = r := h
        refine FinH.l ?_
        simp -failIfUnchanged only [↓RA, RB, RS, fx129, p1, p2, p3, p4, reduceIte, p5, p6, p7, p8, c1, c2, c3]
      · replace h := run_f c3 h
        simp -failIfUnchanged only [↓RA, RB, RS, fx129, p1, p2, p3, p4, reduceIte, p5, p6, p7, p8, c1, c2, c3]
        have h := run_some h
        refine RdH.mk ⟨_, h, ?_⟩
        refine St.le_mk2 ?_
        simp -failIfUnchanged only [↓RA, RB, RS, fx129, p1, p2, p3, p4, reduceIte, p5, p6, p7, p8, c1, c2, c3, w5]
    · simp -failIfUnchanged only [↓RA, RB, RS, fx129, p1, p2, p3, p4, reduceIte, p5, p6, p7, p8, c1]
      refine CondH.ff (decide_eq_false (by omega)) (fun c4 => ?_)
      simp -failIfUnchanged only [↓RA, RB, RS, fx129, p1, p2, p3, p4, reduceIte, p5, p6, p7, p8, c1, c4]
      have h := run_some h
      obtain rfl : _ = r := h
      refine FinH.l ?_
      simp -failIfUnchanged only [↓RA, RB, RS, fx129, p1, p2, p3, p4, reduceIte, p5, p6, p7, p8, c1, c4]

def fx51 := And.intro @ty_3 <| And.intro @zc_3 <| And.intro @z_3 <| And.intro @ty_55 <| And.intro @zc_55 <| And.intro @z_55 <| And.intro @es_55 <| And.intro @eb_55 <| And.intro @sl_55 <| And.intro @is_55 <| And.intro @el_55 <| And.intro @ze_55 <| And.intro @ez_55 <| And.intro @ty_83 <| And.intro @zc_83 <| And.intro @z_83 <| And.intro @es_83 <| And.intro @eb_83 <| And.intro @sl_83 <| And.intro @is_83 <| And.intro @el_83 <| And.intro @ze_83 <| And.intro @ez_83 <| And.intro @ty_85 <| And.intro @zc_85 <| And.intro @z_85 <| And.intro @fo_85_0 <| And.intro @fi_85_0 <| And.intro @ft_85_0 <| And.intro @fo_85_1 <| And.intro @fi_85_1 <| And.intro @ft_85_1 <| @lay_85
set_option maxHeartbeats 4000000 in
theorem szCyclicProof_sat {a0 : CyclicProof} {a1 : Int}  {r : Int} (h : szCyclicProof a0 a1 = some r) : Sat Try.prog 51 [((CyclicProof.pv false) a0), (I a1)] (I r) := by
  replace h := Run.of h
  unfold szCyclicProof at h
  refine Sat.of_m (nt := 18) (rs := [.tmp 4]) (n := 100000) Try.func51 rfl rfl rfl rfl (by simp) ?_
  simp -failIfUnchanged only [↓RA, RB, RS, fx51, p1, p2, p3, p4, reduceIte, p5, p6, p7, p8]
  repeat (first | with_reducible refine noR_and (by repeat (first | exact noR_empty _ _ | exact noR_nilS _ _ | refine noR_mk _ _ _ _ _ rfl ?_ | refine noR_mkS _ _ _ _ _ rfl ?_)) ?_ | with_reducible refine noC_and (by repeat (first | exact noC_empty _ _ (by simp -failIfUnchanged only [↓RA, RB, RS, fx51, p1, p2, p3, p4, reduceIte, p5, p6, p7, p8]) | exact noC_nilS _ _ (by simp -failIfUnchanged only [↓RA, RB, RS, fx51, p1, p2, p3, p4, reduceIte, p5, p6, p7, p8]) | refine noC_mk _ _ _ _ _ rfl ?_ | refine noC_mkS _ _ _ _ _ rfl ?_)) ?_ | with_reducible refine and_ac ?_ | with_reducible refine And.intro (a := _ = List.range _) (by rfl) ?_)
  obtain ⟨v8, hv8, h⟩ := run_bind h
  refine CallH.mk [false, false] (szIntS_sat hv8) ?_ ?_ <;> simp -failIfUnchanged only [↓RA, RB, RS, fx51, p1, p2, p3, p4, reduceIte, p5, p6, p7, p8]
  refine CondH.mk (fun c1 => ?_) (fun c1 => ?_)
  · replace h := run_t c1 h
    simp -failIfUnchanged only [↓RA, RB, RS, fx51, p1, p2, p3, p4, reduceIte, p5, p6, p7, p8, c1]
    have h := run_some h
    obtain rfl : _ = r := h
    refine FinH.l ?_
    simp -failIfUnchanged only [↓RA, RB, RS, fx51, p1, p2, p3, p4, reduceIte, p5, p6, p7, p8, c1]
  · replace h := run_f c1 h
    simp -failIfUnchanged only [↓RA, RB, RS, fx51, p1, p2, p3, p4, reduceIte, p5, p6, p7, p8, c1]
    obtain ⟨v14, hv14, h⟩ := run_bind h
    refine CallH.mk [false, false] (szSizeGraphS_sat hv14) ?_ ?_ <;> simp -failIfUnchanged only [↓RA, RB, RS, fx51, p1, p2, p3, p4, reduceIte, p5, p6, p7, p8, c1]
    refine CondH.mk (fun c2 => ?_) (fun c2 => ?_)
    · replace h := run_t c2 h
      simp -failIfUnchanged only [↓RA, RB, RS, fx51, p1, p2, p3, p4, reduceIte, p5, p6, p7, p8, c1, c2]
      have h := run_some h
      obtain rfl : _ = r := h
      refine FinH.l ?_
      simp -failIfUnchanged only [↓RA, RB, RS, fx51, p1, p2, p3, p4, reduceIte, p5, p6, p7, p8, c1, c2]
    · replace h := run_f c2 h
      simp -failIfUnchanged only [↓RA, RB, RS, fx51, p1, p2, p3, p4, reduceIte, p5, p6, p7, p8, c1, c2]
      have h := run_some h
      obtain rfl : _ = r := h
      refine FinH.l ?_
      simp -failIfUnchanged only [↓RA, RB, RS, fx51, p1, p2, p3, p4, reduceIte, p5, p6, p7, p8, c1, c2]

def fx44 := And.intro @ty_3 <| And.intro @zc_3 <| And.intro @z_3 <| And.intro @ty_55 <| And.intro @zc_55 <| And.intro @z_55 <| And.intro @es_55 <| And.intro @eb_55 <| And.intro @sl_55 <| And.intro @is_55 <| And.intro @el_55 <| And.intro @ze_55 <| @ez_55
set_option maxHeartbeats 4000000 in
theorem toIntS_sat {a0 : List Int}  {r : List Int} (h : toIntS a0 = some r) : Sat Try.prog 44 [(.sl false 1 (a0.map I))] (.sl true 1 (r.map I)) := by
  replace h := Run.of h
  unfold toIntS at h
  refine Sat.of_m (nt := 22) (rs := [.tmp 2]) (n := 100000) Try.func44 rfl rfl rfl rfl (by simp) ?_
  simp -failIfUnchanged only [↓RA, RB, RS, fx44, p1, p2, p3, p4, reduceIte, p5, p6, p7, p8]
  obtain ⟨n7, hn7, h⟩ := run_bind h
  refine MknH.mk hn7 ?_
  simp -failIfUnchanged only [↓RA, RB, RS, fx44, p1, p2, p3, p4, reduceIte, p5, p6, p7, p8]
  repeat (first | with_reducible refine noR_and (by repeat (first | exact noR_empty _ _ | exact noR_nilS _ _ | refine noR_mk _ _ _ _ _ rfl ?_ | refine noR_mkS _ _ _ _ _ rfl ?_)) ?_ | with_reducible refine noC_and (by repeat (first | exact noC_empty _ _ (by simp -failIfUnchanged only [↓RA, RB, RS, fx44, p1, p2, p3, p4, reduceIte, p5, p6, p7, p8]) | exact noC_nilS _ _ (by simp -failIfUnchanged only [↓RA, RB, RS, fx44, p1, p2, p3, p4, reduceIte, p5, p6, p7, p8]) | refine noC_mk _ _ _ _ _ rfl ?_ | refine noC_mkS _ _ _ _ _ rfl ?_)) ?_ | with_reducible refine and_ac ?_ | with_reducible refine And.intro (a := _ = List.range _) (by rfl) ?_)
  refine Mg.know_sl (b := false) (sz := 1) (es := a0.map I) 0 (by simp -failIfUnchanged only [↓RA, RB, RS, fx44, p1, p2, p3, p4, reduceIte, p5, p6, p7, p8]) fun hl0 => ?_; rw [List.length_map] at hl0
  replace h := run_loop h
  refine Mg.forN h (fun i3 s3 => [(0, .val (.pv (.sl false 1 (a0.map I)))), (3, .val (.own 112)), (4, .val (.pv (I (i3 : Int))))]) (fun i3 s3 => [(112, (1, s3.map I))]) (St.le_mk2 (by simp -failIfUnchanged only [↓RA, RB, RS, fx44, p1, p2, p3, p4, reduceIte, p5, p6, p7, p8])) (fun i3 s3 hi h => ?_) (fun s3 h => ?_)
  · have w3 := wrap_succ (i := i3) (by omega)
    simp -failIfUnchanged only [↓RA, RB, RS, fx44, p1, p2, p3, p4, reduceIte, p5, p6, p7, p8]
    refine CondH.tt (decide_eq_true (by omega)) (fun c1 => ?_)
    simp -failIfUnchanged only [↓RA, RB, RS, fx44, p1, p2, p3, p4, reduceIte, p5, p6, p7, p8, c1]
    obtain ⟨v18, hv18, h⟩ := run_bind h
    refine IdxH.mk (f := I) hv18 ?_ ?_ <;> simp -failIfUnchanged only [↓RA, RB, RS, fx44, p1, p2, p3, p4, reduceIte, p5, p6, p7, p8, c1]
    obtain ⟨v20, hv20, h⟩ := run_bind h
    refine IdxH.mk (f := I) hv20 ?_ ?_ <;> simp -failIfUnchanged only [↓RA, RB, RS, fx44, p1, p2, p3, p4, reduceIte, p5, p6, p7, p8, c1]
    obtain ⟨w2, hw2, h⟩ := run_bind h
    refine EldH.mk (f := I) hw2 rfl ?_ ?_ <;> simp -failIfUnchanged only [↓RA, RB, RS, fx44, p1, p2, p3, p4, reduceIte, p5, p6, p7, p8, c1]
    have h := run_some h
    refine RdH.mk ⟨_, h, ?_⟩
    refine St.le_mk2 ?_
    simp -failIfUnchanged only [↓RA, RB, RS, fx44, p1, p2, p3, p4, reduceIte, p5, p6, p7, p8, c1, w3]
  · simp -failIfUnchanged only [↓RA, RB, RS, fx44, p1, p2, p3, p4, reduceIte, p5, p6, p7, p8]
    refine CondH.ff (decide_eq_false (by omega)) (fun c3 => ?_)
    simp -failIfUnchanged only [↓RA, RB, RS, fx44, p1, p2, p3, p4, reduceIte, p5, p6, p7, p8, c3]
    have h := run_some h
    obtain rfl : _ = r := h
    refine FinH.l ?_
    simp -failIfUnchanged only [↓RA, RB, RS, fx44, p1, p2, p3, p4, reduceIte, p5, p6, p7, p8, c3]

def fx334 := And.intro @ty_3 <| And.intro @zc_3 <| And.intro @z_3 <| And.intro @ty_4 <| And.intro @zc_4 <| And.intro @z_4 <| And.intro @u_4 <| And.intro @ty_148 <| And.intro @zc_148 <| And.intro @z_148 <| And.intro @fo_148_0 <| And.intro @fi_148_0 <| And.intro @ft_148_0 <| And.intro @fo_148_1 <| And.intro @fi_148_1 <| And.intro @ft_148_1 <| And.intro @fo_148_2 <| And.intro @fi_148_2 <| And.intro @ft_148_2 <| And.intro @lay_148 <| And.intro @ty_292 <| And.intro @zc_292 <| And.intro @z_292 <| And.intro @fo_292_0 <| And.intro @fi_292_0 <| And.intro @ft_292_0 <| And.intro @fo_292_1 <| And.intro @fi_292_1 <| And.intro @ft_292_1 <| And.intro @fo_292_2 <| And.intro @fi_292_2 <| And.intro @ft_292_2 <| @lay_292
set_option maxHeartbeats 4000000 in
theorem toSizeEdge_sat {a0 : SizeEdge}  {r : SizeEdge} (h : toSizeEdge a0 = some r) : Sat Try.prog 334 [((SizeEdge.pv false) a0)] ((SizeEdge.pv false) r) := by
  replace h := Run.of h
  unfold toSizeEdge at h
  refine Sat.of_m (nt := 14) (rs := [.cell 2 148]) (n := 100000) Try.func334 rfl rfl rfl rfl (by simp) ?_
  simp -failIfUnchanged only [↓RA, RB, RS, fx334, p1, p2, p3, p4, reduceIte, p5, p6, p7, p8]
  repeat (first | with_reducible refine noR_and (by repeat (first | exact noR_empty _ _ | exact noR_nilS _ _ | refine noR_mk _ _ _ _ _ rfl ?_ | refine noR_mkS _ _ _ _ _ rfl ?_)) ?_ | with_reducible refine noC_and (by repeat (first | exact noC_empty _ _ (by simp -failIfUnchanged only [↓RA, RB, RS, fx334, p1, p2, p3, p4, reduceIte, p5, p6, p7, p8]) | exact noC_nilS _ _ (by simp -failIfUnchanged only [↓RA, RB, RS, fx334, p1, p2, p3, p4, reduceIte, p5, p6, p7, p8]) | refine noC_mk _ _ _ _ _ rfl ?_ | refine noC_mkS _ _ _ _ _ rfl ?_)) ?_ | with_reducible refine and_ac ?_ | with_reducible refine And.intro (a := _ = List.range _) (by rfl) ?_)
  have h := run_some h
  obtain rfl : _ = r := h
  refine FinH.l ?_
  simp -failIfUnchanged only [↓RA, RB, RS, fx334, p1, p2, p3, p4, reduceIte, p5, p6, p7, p8]

def fx304 := And.intro @ty_3 <| And.intro @zc_3 <| And.intro @z_3 <| And.intro @ty_46 <| And.intro @zc_46 <| And.intro @z_46 <| And.intro @es_46 <| And.intro @eb_46 <| And.intro @sl_46 <| And.intro @is_46 <| And.intro @el_46 <| And.intro @ze_46 <| And.intro @ez_46 <| And.intro @ty_148 <| And.intro @zc_148 <| And.intro @z_148 <| And.intro @fo_148_0 <| And.intro @fi_148_0 <| And.intro @ft_148_0 <| And.intro @fo_148_1 <| And.intro @fi_148_1 <| And.intro @ft_148_1 <| And.intro @fo_148_2 <| And.intro @fi_148_2 <| And.intro @ft_148_2 <| And.intro @lay_148 <| And.intro @ty_238 <| And.intro @zc_238 <| And.intro @z_238 <| And.intro @es_238 <| And.intro @eb_238 <| And.intro @sl_238 <| And.intro @is_238 <| And.intro @el_238 <| And.intro @ze_238 <| And.intro @ez_238 <| And.intro @ty_292 <| And.intro @zc_292 <| And.intro @z_292 <| And.intro @fo_292_0 <| And.intro @fi_292_0 <| And.intro @ft_292_0 <| And.intro @fo_292_1 <| And.intro @fi_292_1 <| And.intro @ft_292_1 <| And.intro @fo_292_2 <| And.intro @fi_292_2 <| And.intro @ft_292_2 <| @lay_292
set_option maxHeartbeats 4000000 in
theorem toSizeEdgeS_sat {a0 : List SizeEdge}  {r : List SizeEdge} (h : toSizeEdgeS a0 = some r) : Sat Try.prog 304 [(.sl false 3 (a0.map (SizeEdge.pv false)))] (.sl true 3 (r.map (SizeEdge.pv false))) := by
  replace h := Run.of h
  unfold toSizeEdgeS at h
  refine Sat.of_m (nt := 23) (rs := [.tmp 2]) (n := 100000) Try.func304 rfl rfl rfl rfl (by simp) ?_
  simp -failIfUnchanged only [↓RA, RB, RS, fx304, p1, p2, p3, p4, reduceIte, p5, p6, p7, p8]
  obtain ⟨n7, hn7, h⟩ := run_bind h
  refine MknH.mk hn7 ?_
  simp -failIfUnchanged only [↓RA, RB, RS, fx304, p1, p2, p3, p4, reduceIte, p5, p6, p7, p8]
  repeat (first | with_reducible refine noR_and (by repeat (first | exact noR_empty _ _ | exact noR_nilS _ _ | refine noR_mk _ _ _ _ _ rfl ?_ | refine noR_mkS _ _ _ _ _ rfl ?_)) ?_ | with_reducible refine noC_and (by repeat (first | exact noC_empty _ _ (by simp -failIfUnchanged only [↓RA, RB, RS, fx304, p1, p2, p3, p4, reduceIte, p5, p6, p7, p8]) | exact noC_nilS _ _ (by simp -failIfUnchanged only [↓RA, RB, RS, fx304, p1, p2, p3, p4, reduceIte, p5, p6, p7, p8]) | refine noC_mk _ _ _ _ _ rfl ?_ | refine noC_mkS _ _ _ _ _ rfl ?_)) ?_ | with_reducible refine and_ac ?_ | with_reducible refine And.intro (a := _ = List.range _) (by rfl) ?_)
  refine Mg.know_sl (b := false) (sz := 3) (es := a0.map (SizeEdge.pv false)) 0 (by simp -failIfUnchanged only [↓RA, RB, RS, fx304, p1, p2, p3, p4, reduceIte, p5, p6, p7, p8]) fun hl0 => ?_; rw [List.length_map] at hl0
  replace h := run_loop h
  refine Mg.forN h (fun i3 s3 => [(0, .val (.pv (.sl false 3 (a0.map (SizeEdge.pv false))))), (3, .val (.own 112)), (4, .val (.pv (I (i3 : Int))))]) (fun i3 s3 => [(112, (3, s3.map (SizeEdge.pv false)))]) (St.le_mk2 (by simp -failIfUnchanged only [↓RA, RB, RS, fx304, p1, p2, p3, p4, reduceIte, p5, p6, p7, p8])) (fun i3 s3 hi h => ?_) (fun s3 h => ?_)
  · have w3 := wrap_succ (i := i3) (by omega)
    simp -failIfUnchanged only [↓RA, RB, RS, fx304, p1, p2, p3, p4, reduceIte, p5, p6, p7, p8]
    refine CondH.tt (decide_eq_true (by omega)) (fun c1 => ?_)
    simp -failIfUnchanged only [↓RA, RB, RS, fx304, p1, p2, p3, p4, reduceIte, p5, p6, p7, p8, c1]
    obtain ⟨v18, hv18, h⟩ := run_bind h
    refine IdxH.mk (f := (SizeEdge.pv false)) hv18 ?_ ?_ <;> simp -failIfUnchanged only [↓RA, RB, RS, fx304, p1, p2, p3, p4, reduceIte, p5, p6, p7, p8, c1]
    obtain ⟨v20, hv20, h⟩ := run_bind h
    refine CallH.mk [false] (toSizeEdge_sat hv20) ?_ ?_ <;> simp -failIfUnchanged only [↓RA, RB, RS, fx304, p1, p2, p3, p4, reduceIte, p5, p6, p7, p8, c1]
    obtain ⟨v21, hv21, h⟩ := run_bind h
    refine IdxH.mk (f := (SizeEdge.pv false)) hv21 ?_ ?_ <;> simp -failIfUnchanged only [↓RA, RB, RS, fx304, p1, p2, p3, p4, reduceIte, p5, p6, p7, p8, c1]
    obtain ⟨w2, hw2, h⟩ := run_bind h
    refine EldH.mk (f := (SizeEdge.pv false)) hw2 rfl ?_ ?_ <;> simp -failIfUnchanged only [↓RA, RB, RS, fx304, p1, p2, p3, p4, reduceIte, p5, p6, p7, p8, c1]
    have h := run_some h
    refine RdH.mk ⟨_, h, ?_⟩
    refine St.le_mk2 ?_
    simp -failIfUnchanged only [↓RA, RB, RS, fx304, p1, p2, p3, p4, reduceIte, p5, p6, p7, p8, c1, w3]
  · simp -failIfUnchanged only [↓RA, RB, RS, fx304, p1, p2, p3, p4, reduceIte, p5, p6, p7, p8]
    refine CondH.ff (decide_eq_false (by omega)) (fun c3 => ?_)
    simp -failIfUnchanged only [↓RA, RB, RS, fx304, p1, p2, p3, p4, reduceIte, p5, p6, p7, p8, c3]
    have h := run_some h
    obtain rfl : _ = r := h
    refine FinH.l ?_
    simp -failIfUnchanged only [↓RA, RB, RS, fx304, p1, p2, p3, p4, reduceIte, p5, p6, p7, p8, c3]

def fx236 := And.intro @ty_3 <| And.intro @zc_3 <| And.intro @z_3 <| And.intro @ty_46 <| And.intro @zc_46 <| And.intro @z_46 <| And.intro @es_46 <| And.intro @eb_46 <| And.intro @sl_46 <| And.intro @is_46 <| And.intro @el_46 <| And.intro @ze_46 <| And.intro @ez_46 <| And.intro @ty_48 <| And.intro @zc_48 <| And.intro @z_48 <| And.intro @fo_48_0 <| And.intro @fi_48_0 <| And.intro @ft_48_0 <| And.intro @fo_48_1 <| And.intro @fi_48_1 <| And.intro @ft_48_1 <| And.intro @fo_48_2 <| And.intro @fi_48_2 <| And.intro @ft_48_2 <| And.intro @lay_48 <| And.intro @ty_238 <| And.intro @zc_238 <| And.intro @z_238 <| And.intro @es_238 <| And.intro @eb_238 <| And.intro @sl_238 <| And.intro @is_238 <| And.intro @el_238 <| And.intro @ze_238 <| And.intro @ez_238 <| And.intro @ty_240 <| And.intro @zc_240 <| And.intro @z_240 <| And.intro @fo_240_0 <| And.intro @fi_240_0 <| And.intro @ft_240_0 <| And.intro @fo_240_1 <| And.intro @fi_240_1 <| And.intro @ft_240_1 <| And.intro @fo_240_2 <| And.intro @fi_240_2 <| And.intro @ft_240_2 <| @lay_240
set_option maxHeartbeats 4000000 in
theorem toSizeGraph_sat {a0 : SizeGraph}  {r : SizeGraph} (h : toSizeGraph a0 = some r) : Sat Try.prog 236 [((SizeGraph.pv false) a0)] ((SizeGraph.pv true) r) := by
  replace h := Run.of h
  unfold toSizeGraph at h
  refine Sat.of_m (nt := 15) (rs := [.cell 2 48]) (n := 100000) Try.func236 rfl rfl rfl rfl (by simp) ?_
  simp -failIfUnchanged only [↓RA, RB, RS, fx236, p1, p2, p3, p4, reduceIte, p5, p6, p7, p8]
  repeat (first | with_reducible refine noR_and (by repeat (first | exact noR_empty _ _ | exact noR_nilS _ _ | refine noR_mk _ _ _ _ _ rfl ?_ | refine noR_mkS _ _ _ _ _ rfl ?_)) ?_ | with_reducible refine noC_and (by repeat (first | exact noC_empty _ _ (by simp -failIfUnchanged only [↓RA, RB, RS, fx236, p1, p2, p3, p4, reduceIte, p5, p6, p7, p8]) | exact noC_nilS _ _ (by simp -failIfUnchanged only [↓RA, RB, RS, fx236, p1, p2, p3, p4, reduceIte, p5, p6, p7, p8]) | refine noC_mk _ _ _ _ _ rfl ?_ | refine noC_mkS _ _ _ _ _ rfl ?_)) ?_ | with_reducible refine and_ac ?_ | with_reducible refine And.intro (a := _ = List.range _) (by rfl) ?_)
  obtain ⟨v12, hv12, h⟩ := run_bind h
  refine CallH.mk [false] (toSizeEdgeS_sat hv12) ?_ ?_ <;> simp -failIfUnchanged only [↓RA, RB, RS, fx236, p1, p2, p3, p4, reduceIte, p5, p6, p7, p8]
  repeat (first | with_reducible refine noR_and (by repeat (first | exact noR_empty _ _ | exact noR_nilS _ _ | refine noR_mk _ _ _ _ _ rfl ?_ | refine noR_mkS _ _ _ _ _ rfl ?_)) ?_ | with_reducible refine noC_and (by repeat (first | exact noC_empty _ _ (by simp -failIfUnchanged only [↓RA, RB, RS, fx236, p1, p2, p3, p4, reduceIte, p5, p6, p7, p8]) | exact noC_nilS _ _ (by simp -failIfUnchanged only [↓RA, RB, RS, fx236, p1, p2, p3, p4, reduceIte, p5, p6, p7, p8]) | refine noC_mk _ _ _ _ _ rfl ?_ | refine noC_mkS _ _ _ _ _ rfl ?_)) ?_ | with_reducible refine and_ac ?_ | with_reducible refine And.intro (a := _ = List.range _) (by rfl) ?_)
  have h := run_some h
  obtain rfl : _ = r := h
  refine FinH.l ?_
  simp -failIfUnchanged only [↓RA, RB, RS, fx236, p1, p2, p3, p4, reduceIte, p5, p6, p7, p8]

def fx132 := And.intro @ty_3 <| And.intro @zc_3 <| And.intro @z_3 <| And.intro @ty_48 <| And.intro @zc_48 <| And.intro @z_48 <| And.intro @fo_48_0 <| And.intro @fi_48_0 <| And.intro @ft_48_0 <| And.intro @fo_48_1 <| And.intro @fi_48_1 <| And.intro @ft_48_1 <| And.intro @fo_48_2 <| And.intro @fi_48_2 <| And.intro @ft_48_2 <| And.intro @lay_48 <| And.intro @ty_56 <| And.intro @zc_56 <| And.intro @z_56 <| And.intro @es_56 <| And.intro @eb_56 <| And.intro @sl_56 <| And.intro @is_56 <| And.intro @el_56 <| And.intro @ze_56 <| And.intro @ez_56 <| And.intro @ty_83 <| And.intro @zc_83 <| And.intro @z_83 <| And.intro @es_83 <| And.intro @eb_83 <| And.intro @sl_83 <| And.intro @is_83 <| And.intro @el_83 <| And.intro @ze_83 <| And.intro @ez_83 <| And.intro @ty_240 <| And.intro @zc_240 <| And.intro @z_240 <| And.intro @fo_240_0 <| And.intro @fi_240_0 <| And.intro @ft_240_0 <| And.intro @fo_240_1 <| And.intro @fi_240_1 <| And.intro @ft_240_1 <| And.intro @fo_240_2 <| And.intro @fi_240_2 <| And.intro @ft_240_2 <| @lay_240
set_option maxHeartbeats 4000000 in
theorem toSizeGraphS_sat {a0 : List SizeGraph}  {r : List SizeGraph} (h : toSizeGraphS a0 = some r) : Sat Try.prog 132 [(.sl false 3 (a0.map (SizeGraph.pv false)))] (.sl true 3 (r.map (SizeGraph.pv true))) := by
  replace h := Run.of h
  unfold toSizeGraphS at h
  refine Sat.of_m (nt := 23) (rs := [.tmp 2]) (n := 100000) Try.func132 rfl rfl rfl rfl (by simp) ?_
  simp -failIfUnchanged only [↓RA, RB, RS, fx132, p1, p2, p3, p4, reduceIte, p5, p6, p7, p8]
  obtain ⟨n7, hn7, h⟩ := run_bind h
  refine MknH.mk hn7 ?_
  simp -failIfUnchanged only [↓RA, RB, RS, fx132, p1, p2, p3, p4, reduceIte, p5, p6, p7, p8]
  repeat (first | with_reducible refine noR_and (by repeat (first | exact noR_empty _ _ | exact noR_nilS _ _ | refine noR_mk _ _ _ _ _ rfl ?_ | refine noR_mkS _ _ _ _ _ rfl ?_)) ?_ | with_reducible refine noC_and (by repeat (first | exact noC_empty _ _ (by simp -failIfUnchanged only [↓RA, RB, RS, fx132, p1, p2, p3, p4, reduceIte, p5, p6, p7, p8]) | exact noC_nilS _ _ (by simp -failIfUnchanged only [↓RA, RB, RS, fx132, p1, p2, p3, p4, reduceIte, p5, p6, p7, p8]) | refine noC_mk _ _ _ _ _ rfl ?_ | refine noC_mkS _ _ _ _ _ rfl ?_)) ?_ | with_reducible refine and_ac ?_ | with_reducible refine And.intro (a := _ = List.range _) (by rfl) ?_)
  refine Mg.know_sl (b := false) (sz := 3) (es := a0.map (SizeGraph.pv false)) 0 (by simp -failIfUnchanged only [↓RA, RB, RS, fx132, p1, p2, p3, p4, reduceIte, p5, p6, p7, p8]) fun hl0 => ?_; rw [List.length_map] at hl0
  replace h := run_loop h
  refine Mg.forN h (fun i3 s3 => [(0, .val (.pv (.sl false 3 (a0.map (SizeGraph.pv false))))), (3, .val (.own 112)), (4, .val (.pv (I (i3 : Int))))]) (fun i3 s3 => [(112, (3, s3.map (SizeGraph.pv true)))]) (St.le_mk2 (by simp -failIfUnchanged only [↓RA, RB, RS, fx132, p1, p2, p3, p4, reduceIte, p5, p6, p7, p8])) (fun i3 s3 hi h => ?_) (fun s3 h => ?_)
  · have w3 := wrap_succ (i := i3) (by omega)
    simp -failIfUnchanged only [↓RA, RB, RS, fx132, p1, p2, p3, p4, reduceIte, p5, p6, p7, p8]
    refine CondH.tt (decide_eq_true (by omega)) (fun c1 => ?_)
    simp -failIfUnchanged only [↓RA, RB, RS, fx132, p1, p2, p3, p4, reduceIte, p5, p6, p7, p8, c1]
    obtain ⟨v18, hv18, h⟩ := run_bind h
    refine IdxH.mk (f := (SizeGraph.pv false)) hv18 ?_ ?_ <;> simp -failIfUnchanged only [↓RA, RB, RS, fx132, p1, p2, p3, p4, reduceIte, p5, p6, p7, p8, c1]
    obtain ⟨v20, hv20, h⟩ := run_bind h
    refine CallH.mk [false] (toSizeGraph_sat hv20) ?_ ?_ <;> simp -failIfUnchanged only [↓RA, RB, RS, fx132, p1, p2, p3, p4, reduceIte, p5, p6, p7, p8, c1]
    repeat (first | with_reducible refine noR_and (by repeat (first | exact noR_empty _ _ | exact noR_nilS _ _ | refine noR_mk _ _ _ _ _ rfl ?_ | refine noR_mkS _ _ _ _ _ rfl ?_)) ?_ | with_reducible refine noC_and (by repeat (first | exact noC_empty _ _ (by simp -failIfUnchanged only [↓RA, RB, RS, fx132, p1, p2, p3, p4, reduceIte, p5, p6, p7, p8]) | exact noC_nilS _ _ (by simp -failIfUnchanged only [↓RA, RB, RS, fx132, p1, p2, p3, p4, reduceIte, p5, p6, p7, p8]) | refine noC_mk _ _ _ _ _ rfl ?_ | refine noC_mkS _ _ _ _ _ rfl ?_)) ?_ | with_reducible refine and_ac ?_ | with_reducible refine And.intro (a := _ = List.range _) (by rfl) ?_)
    obtain ⟨v21, hv21, h⟩ := run_bind h
    refine IdxH.mk (f := (SizeGraph.pv true)) hv21 ?_ ?_ <;> simp -failIfUnchanged only [↓RA, RB, RS, fx132, p1, p2, p3, p4, reduceIte, p5, p6, p7, p8, c1]
    obtain ⟨w2, hw2, h⟩ := run_bind h
    refine EldH.mk (f := (SizeGraph.pv true)) hw2 rfl ?_ ?_ <;> simp -failIfUnchanged only [↓RA, RB, RS, fx132, p1, p2, p3, p4, reduceIte, p5, p6, p7, p8, c1]
    have h := run_some h
    refine RdH.mk ⟨_, h, ?_⟩
    refine St.le_mk2 ?_
    simp -failIfUnchanged only [↓RA, RB, RS, fx132, p1, p2, p3, p4, reduceIte, p5, p6, p7, p8, c1, w3]
  · simp -failIfUnchanged only [↓RA, RB, RS, fx132, p1, p2, p3, p4, reduceIte, p5, p6, p7, p8]
    refine CondH.ff (decide_eq_false (by omega)) (fun c3 => ?_)
    simp -failIfUnchanged only [↓RA, RB, RS, fx132, p1, p2, p3, p4, reduceIte, p5, p6, p7, p8, c3]
    have h := run_some h
    obtain rfl : _ = r := h
    refine FinH.l ?_
    simp -failIfUnchanged only [↓RA, RB, RS, fx132, p1, p2, p3, p4, reduceIte, p5, p6, p7, p8, c3]

def fx53 := And.intro @ty_55 <| And.intro @zc_55 <| And.intro @z_55 <| And.intro @es_55 <| And.intro @eb_55 <| And.intro @sl_55 <| And.intro @is_55 <| And.intro @el_55 <| And.intro @ze_55 <| And.intro @ez_55 <| And.intro @ty_56 <| And.intro @zc_56 <| And.intro @z_56 <| And.intro @es_56 <| And.intro @eb_56 <| And.intro @sl_56 <| And.intro @is_56 <| And.intro @el_56 <| And.intro @ze_56 <| And.intro @ez_56 <| And.intro @ty_58 <| And.intro @zc_58 <| And.intro @z_58 <| And.intro @fo_58_0 <| And.intro @fi_58_0 <| And.intro @ft_58_0 <| And.intro @fo_58_1 <| And.intro @fi_58_1 <| And.intro @ft_58_1 <| And.intro @lay_58 <| And.intro @ty_83 <| And.intro @zc_83 <| And.intro @z_83 <| And.intro @es_83 <| And.intro @eb_83 <| And.intro @sl_83 <| And.intro @is_83 <| And.intro @el_83 <| And.intro @ze_83 <| And.intro @ez_83 <| And.intro @ty_85 <| And.intro @zc_85 <| And.intro @z_85 <| And.intro @fo_85_0 <| And.intro @fi_85_0 <| And.intro @ft_85_0 <| And.intro @fo_85_1 <| And.intro @fi_85_1 <| And.intro @ft_85_1 <| @lay_85
set_option maxHeartbeats 4000000 in
theorem toCyclicProof_sat {a0 : CyclicProof}  {r : CyclicProof} (h : toCyclicProof a0 = some r) : Sat Try.prog 53 [((CyclicProof.pv false) a0)] ((CyclicProof.pv true) r) := by
  replace h := Run.of h
  unfold toCyclicProof at h
  refine Sat.of_m (nt := 13) (rs := [.cell 2 58]) (n := 100000) Try.func53 rfl rfl rfl rfl (by simp) ?_
  simp -failIfUnchanged only [↓RA, RB, RS, fx53, p1, p2, p3, p4, reduceIte, p5, p6, p7, p8]
  repeat (first | with_reducible refine noR_and (by repeat (first | exact noR_empty _ _ | exact noR_nilS _ _ | refine noR_mk _ _ _ _ _ rfl ?_ | refine noR_mkS _ _ _ _ _ rfl ?_)) ?_ | with_reducible refine noC_and (by repeat (first | exact noC_empty _ _ (by simp -failIfUnchanged only [↓RA, RB, RS, fx53, p1, p2, p3, p4, reduceIte, p5, p6, p7, p8]) | exact noC_nilS _ _ (by simp -failIfUnchanged only [↓RA, RB, RS, fx53, p1, p2, p3, p4, reduceIte, p5, p6, p7, p8]) | refine noC_mk _ _ _ _ _ rfl ?_ | refine noC_mkS _ _ _ _ _ rfl ?_)) ?_ | with_reducible refine and_ac ?_ | with_reducible refine And.intro (a := _ = List.range _) (by rfl) ?_)
  obtain ⟨v6, hv6, h⟩ := run_bind h
  refine CallH.mk [false] (toIntS_sat hv6) ?_ ?_ <;> simp -failIfUnchanged only [↓RA, RB, RS, fx53, p1, p2, p3, p4, reduceIte, p5, p6, p7, p8]
  repeat (first | with_reducible refine noR_and (by repeat (first | exact noR_empty _ _ | exact noR_nilS _ _ | refine noR_mk _ _ _ _ _ rfl ?_ | refine noR_mkS _ _ _ _ _ rfl ?_)) ?_ | with_reducible refine noC_and (by repeat (first | exact noC_empty _ _ (by simp -failIfUnchanged only [↓RA, RB, RS, fx53, p1, p2, p3, p4, reduceIte, p5, p6, p7, p8]) | exact noC_nilS _ _ (by simp -failIfUnchanged only [↓RA, RB, RS, fx53, p1, p2, p3, p4, reduceIte, p5, p6, p7, p8]) | refine noC_mk _ _ _ _ _ rfl ?_ | refine noC_mkS _ _ _ _ _ rfl ?_)) ?_ | with_reducible refine and_ac ?_ | with_reducible refine And.intro (a := _ = List.range _) (by rfl) ?_)
  obtain ⟨v10, hv10, h⟩ := run_bind h
  refine CallH.mk [false] (toSizeGraphS_sat hv10) ?_ ?_ <;> simp -failIfUnchanged only [↓RA, RB, RS, fx53, p1, p2, p3, p4, reduceIte, p5, p6, p7, p8]
  repeat (first | with_reducible refine noR_and (by repeat (first | exact noR_empty _ _ | exact noR_nilS _ _ | refine noR_mk _ _ _ _ _ rfl ?_ | refine noR_mkS _ _ _ _ _ rfl ?_)) ?_ | with_reducible refine noC_and (by repeat (first | exact noC_empty _ _ (by simp -failIfUnchanged only [↓RA, RB, RS, fx53, p1, p2, p3, p4, reduceIte, p5, p6, p7, p8]) | exact noC_nilS _ _ (by simp -failIfUnchanged only [↓RA, RB, RS, fx53, p1, p2, p3, p4, reduceIte, p5, p6, p7, p8]) | refine noC_mk _ _ _ _ _ rfl ?_ | refine noC_mkS _ _ _ _ _ rfl ?_)) ?_ | with_reducible refine and_ac ?_ | with_reducible refine And.intro (a := _ = List.range _) (by rfl) ?_)
  have h := run_some h
  obtain rfl : _ = r := h
  refine FinH.l ?_
  simp -failIfUnchanged only [↓RA, RB, RS, fx53, p1, p2, p3, p4, reduceIte, p5, p6, p7, p8]

def fx95 := And.intro @ty_3 <| And.intro @zc_3 <| @z_3
set_option maxHeartbeats 4000000 in
theorem spec_l1In_sat {a0 : Int} {a1 : Int} {a2 : Int}  {r : Bool} (h : spec_l1In a0 a1 a2 = some r) : Sat Try.prog 95 [(I a0), (I a1), (I a2)] (B r) := by
  replace h := Run.of h
  unfold spec_l1In at h
  refine Sat.of_m (nt := 15) (rs := [.tmp 6]) (n := 100000) Try.func95 rfl rfl rfl rfl (by simp) ?_
  simp -failIfUnchanged only [↓RA, RB, RS, fx95, p1, p2, p3, p4, reduceIte, p5, p6, p7, p8]
  refine CondH.mk (fun c1 => ?_) (fun c1 => ?_)
  · replace h := run_t c1 h
    simp -failIfUnchanged only [↓RA, RB, RS, fx95, p1, p2, p3, p4, reduceIte, p5, p6, p7, p8, c1]
    have h := run_some h
    obtain rfl : _ = r := h
    refine FinH.l ?_
    simp -failIfUnchanged only [↓RA, RB, RS, fx95, p1, p2, p3, p4, reduceIte, p5, p6, p7, p8, c1]
  · replace h := run_f c1 h
    simp -failIfUnchanged only [↓RA, RB, RS, fx95, p1, p2, p3, p4, reduceIte, p5, p6, p7, p8, c1]
    have h := run_some h
    obtain rfl : _ = r := h
    refine FinH.l ?_
    simp -failIfUnchanged only [↓RA, RB, RS, fx95, p1, p2, p3, p4, reduceIte, p5, p6, p7, p8, c1]

def fx106 := And.intro @ty_3 <| And.intro @zc_3 <| And.intro @z_3 <| And.intro @ty_4 <| And.intro @zc_4 <| And.intro @z_4 <| And.intro @u_4 <| And.intro @ty_46 <| And.intro @zc_46 <| And.intro @z_46 <| And.intro @es_46 <| And.intro @eb_46 <| And.intro @sl_46 <| And.intro @is_46 <| And.intro @el_46 <| And.intro @ze_46 <| And.intro @ez_46 <| And.intro @ty_48 <| And.intro @zc_48 <| And.intro @z_48 <| And.intro @fo_48_0 <| And.intro @fi_48_0 <| And.intro @ft_48_0 <| And.intro @fo_48_1 <| And.intro @fi_48_1 <| And.intro @ft_48_1 <| And.intro @fo_48_2 <| And.intro @fi_48_2 <| And.intro @ft_48_2 <| And.intro @lay_48 <| And.intro @ty_148 <| And.intro @zc_148 <| And.intro @z_148 <| And.intro @fo_148_0 <| And.intro @fi_148_0 <| And.intro @ft_148_0 <| And.intro @fo_148_1 <| And.intro @fi_148_1 <| And.intro @ft_148_1 <| And.intro @fo_148_2 <| And.intro @fi_148_2 <| And.intro @ft_148_2 <| And.intro @lay_148 <| @mixedT
set_option maxHeartbeats 4000000 in
theorem spec_l24Graph_sat {a0 : SizeGraph}  {r : Bool} (h : spec_l24Graph a0 = some r) : Sat Try.prog 106 [((SizeGraph.pv false) a0)] (B r) := by
  replace h := Run.of h
  unfold spec_l24Graph at h
  refine Sat.of_m (nt := 64) (rs := [.tmp 2]) (n := 100000) Try.func106 rfl rfl rfl rfl (by simp) ?_
  simp -failIfUnchanged only [↓RA, RB, RS, fx106, p1, p2, p3, p4, reduceIte, p5, p6, p7, p8]
  repeat (first | with_reducible refine noR_and (by repeat (first | exact noR_empty _ _ | exact noR_nilS _ _ | refine noR_mk _ _ _ _ _ rfl ?_ | refine noR_mkS _ _ _ _ _ rfl ?_)) ?_ | with_reducible refine noC_and (by repeat (first | exact noC_empty _ _ (by simp -failIfUnchanged only [↓RA, RB, RS, fx106, p1, p2, p3, p4, reduceIte, p5, p6, p7, p8]) | exact noC_nilS _ _ (by simp -failIfUnchanged only [↓RA, RB, RS, fx106, p1, p2, p3, p4, reduceIte, p5, p6, p7, p8]) | refine noC_mk _ _ _ _ _ rfl ?_ | refine noC_mkS _ _ _ _ _ rfl ?_)) ?_ | with_reducible refine and_ac ?_ | with_reducible refine And.intro (a := _ = List.range _) (by rfl) ?_)
  obtain ⟨v7, hv7, h⟩ := run_bind h
  refine CallH.mk [false, false, false] (spec_l1In_sat hv7) ?_ ?_ <;> simp -failIfUnchanged only [↓RA, RB, RS, fx106, p1, p2, p3, p4, reduceIte, p5, p6, p7, p8]
  refine CondH.mk (fun c1 => ?_) (fun c1 => ?_)
  · replace h := run_t c1 h
    simp -failIfUnchanged only [↓RA, RB, RS, fx106, p1, p2, p3, p4, reduceIte, p5, p6, p7, p8, c1]
    obtain ⟨v12, hv12, h⟩ := run_bind h
    refine CallH.mk [false, false, false] (spec_l1In_sat hv12) ?_ ?_ <;> simp -failIfUnchanged only [↓RA, RB, RS, fx106, p1, p2, p3, p4, reduceIte, p5, p6, p7, p8, c1]
    refine CondH.mk (fun c2 => ?_) (fun c2 => ?_)
    · replace h := run_t c2 h
      simp -failIfUnchanged only [↓RA, RB, RS, fx106, p1, p2, p3, p4, reduceIte, p5, p6, p7, p8, c1, c2]
      refine Mg.know_val2 (b := false) (sz := 3) (es := a0.Edges.map (SizeEdge.pv false)) (x := (.pv ((SizeGraph.pv false) a0))) 0 [2] (by simp -failIfUnchanged only [↓RA, RB, RS, fx106, p1, p2, p3, p4, reduceIte, p5, p6, p7, p8, c1, c2]) fun hl0 => ?_; rw [List.length_map] at hl0
      replace h := run_loop h
      refine Mg.forN h (fun i4 s4 => [(1, .box (.pv ((SizeGraph.pv false) a0))), (3, .val (.pv (I (i4 : Int))))]) (fun i4 s4 => []) (St.le_mk2 (by simp -failIfUnchanged only [↓RA, RB, RS, fx106, p1, p2, p3, p4, reduceIte, p5, p6, p7, p8, c1, c2])) (fun i4 s4 hi h => ?_) (fun s4 h => ?_)
      · have w4 := wrap_succ (i := i4) (by omega)
        simp -failIfUnchanged only [↓RA, RB, RS, fx106, p1, p2, p3, p4, reduceIte, p5, p6, p7, p8, c1, c2]
        refine CondH.tt (decide_eq_true (by omega)) (fun c3 => ?_)
        simp -failIfUnchanged only [↓RA, RB, RS, fx106, p1, p2, p3, p4, reduceIte, p5, p6, p7, p8, c1, c2, c3]
        obtain ⟨v25, hv25, h⟩ := run_bind h
        refine IdxH.mk (f := (SizeEdge.pv false)) hv25 ?_ ?_ <;> simp -failIfUnchanged only [↓RA, RB, RS, fx106, p1, p2, p3, p4, reduceIte, p5, p6, p7, p8, c1, c2, c3]
        repeat (first | with_reducible refine noR_and (by repeat (first | exact noR_empty _ _ | exact noR_nilS _ _ | refine noR_mk _ _ _ _ _ rfl ?_ | refine noR_mkS _ _ _ _ _ rfl ?_)) ?_ | with_reducible refine noC_and (by repeat (first | exact noC_empty _ _ (by simp -failIfUnchanged only [↓RA, RB, RS, fx106, p1, p2, p3, p4, reduceIte, p5, p6, p7, p8]) | exact noC_nilS _ _ (by simp -failIfUnchanged only [↓RA, RB, RS, fx106, p1, p2, p3, p4, reduceIte, p5, p6, p7, p8]) | refine noC_mk _ _ _ _ _ rfl ?_ | refine noC_mkS _ _ _ _ _ rfl ?_)) ?_ | with_reducible refine and_ac ?_ | with_reducible refine And.intro (a := _ = List.range _) (by rfl) ?_)
        obtain ⟨v29, hv29, h⟩ := run_bind h
        refine CallH.mk [false, false, false] (spec_l1In_sat hv29) ?_ ?_ <;> simp -failIfUnchanged only [↓RA, RB, RS, fx106, p1, p2, p3, p4, reduceIte, p5, p6, p7, p8, c1, c2, c3]
        refine CondH.mk (fun c4 => ?_) (fun c4 => ?_)
        · replace h := run_t c4 h
          simp -failIfUnchanged only [↓RA, RB, RS, fx106, p1, p2, p3, p4, reduceIte, p5, p6, p7, p8, c1, c2, c3, c4]
          obtain ⟨v34, hv34, h⟩ := run_bind h
          refine CallH.mk [false, false, false] (spec_l1In_sat hv34) ?_ ?_ <;> simp -failIfUnchanged only [↓RA, RB, RS, fx106, p1, p2, p3, p4, reduceIte, p5, p6, p7, p8, c1, c2, c3, c4]
          refine CondH.mk (fun c5 => ?_) (fun c5 => ?_)
          · replace h := run_t c5 h
            simp -failIfUnchanged only [↓RA, RB, RS, fx106, p1, p2, p3, p4, reduceIte, p5, p6, p7, p8, c1, c2, c3, c4, c5]
            refine CondH.mk (fun c6 => ?_) (fun c6 => ?_)
            · replace h := run_t c6 h
              simp -failIfUnchanged only [↓RA, RB, RS, fx106, p1, p2, p3, p4, reduceIte, p5, p6, p7, p8, c1, c2, c3, c4, c5, c6]
              obtain ⟨v44, hv44, h⟩ := run_bind h
              refine IdxH.mk (f := (SizeEdge.pv false)) hv44 ?_ ?_ <;> simp -failIfUnchanged only [↓RA, RB, RS, fx106, p1, p2, p3, p4, reduceIte, p5, p6, p7, p8, c1, c2, c3, c4, c5, c6]
              obtain ⟨v52, hv52, h⟩ := run_bind h
              refine IdxH.mk (f := (SizeEdge.pv false)) hv52 ?_ ?_ <;> simp -failIfUnchanged only [↓RA, RB, RS, fx106, p1, p2, p3, p4, reduceIte, p5, p6, p7, p8, c1, c2, c3, c4, c5, c6]
              refine And.intro (DrawH.none (by rfl) (by first | rfl | (simp -failIfUnchanged only [↓RA, RB, RS, fx106, p1, p2, p3, p4, reduceIte, p5, p6, p7, p8] <;> rfl)) (by first | rfl | (simp -failIfUnchanged only [↓RA, RB, RS, fx106, p1, p2, p3, p4, reduceIte, p5, p6, p7, p8] <;> rfl)) (by first | rfl | (simp -failIfUnchanged only [↓RA, RB, RS, fx106, p1, p2, p3, p4, reduceIte, p5, p6, p7, p8] <;> rfl))) ?_
              simp -failIfUnchanged only [↓RA, RB, RS, fx106, p1, p2, p3, p4, reduceIte, p5, p6, p7, p8, c1, c2, c3, c4, c5, c6]
              refine CondH.mk (fun c7 => ?_) (fun c7 => ?_)
              · replace h := run_t c7 h
                simp -failIfUnchanged only [↓RA, RB, RS, fx106, p1, p2, p3, p4, reduceIte, p5, p6, p7, p8, c1, c2, c3, c4, c5, c6, c7]
                have h := run_some h
                obtain rfl : _ = r := h
                refine FinH.l ?_
                simp -failIfUnchanged only [↓RA, RB, RS, fx106, p1, p2, p3, p4, reduceIte, p5, p6, p7, p8, c1, c2, c3, c4, c5, c6, c7]
              · replace h := run_f c7 h
                simp -failIfUnchanged only [↓RA, RB, RS, fx106, p1, p2, p3, p4, reduceIte, p5, p6, p7, p8, c1, c2, c3, c4, c5, c6, c7]
                have h := run_some h
                refine RdH.mk ⟨_, h, ?_⟩
                refine St.le_mk2 ?_
                simp -failIfUnchanged only [↓RA, RB, RS, fx106, p1, p2, p3, p4, reduceIte, p5, p6, p7, p8, c1, c2, c3, c4, c5, c6, c7, w4]
            · replace h := run_f c6 h
              simp -failIfUnchanged only [↓RA, RB, RS, fx106, p1, p2, p3, p4, reduceIte, p5, p6, p7, p8, c1, c2, c3, c4, c5, c6]
              refine And.intro (DrawH.none (by rfl) (by first | rfl | (simp -failIfUnchanged only [↓RA, RB, RS, fx106, p1, p2, p3, p4, reduceIte, p5, p6, p7, p8] <;> rfl)) (by first | rfl | (simp -failIfUnchanged only [↓RA, RB, RS, fx106, p1, p2, p3, p4, reduceIte, p5, p6, p7, p8] <;> rfl)) (by first | rfl | (simp -failIfUnchanged only [↓RA, RB, RS, fx106, p1, p2, p3, p4, reduceIte, p5, p6, p7, p8] <;> rfl))) ?_
              simp -failIfUnchanged only [↓RA, RB, RS, fx106, p1, p2, p3, p4, reduceIte, p5, p6, p7, p8, c1, c2, c3, c4, c5, c6]
              have h := run_some h
              refine RdH.mk ⟨_, h, ?_⟩
              refine St.le_mk2 ?_
              simp -failIfUnchanged only [↓RA, RB, RS, fx106, p1, p2, p3, p4, reduceIte, p5, p6, p7, p8, c1, c2, c3, c4, c5, c6, w4]
          · replace h := run_f c5 h
            simp -failIfUnchanged only [↓RA, RB, RS, fx106, p1, p2, p3, p4, reduceIte, p5, p6, p7, p8, c1, c2, c3, c4, c5]
            have h := run_some h
            obtain rfl : _ = r := h
            refine FinH.l ?_
            simp -failIfUnchanged only [↓RA, RB, RS, fx106, p1, p2, p3, p4, reduceIte, p5, p6, p7, p8, c1, c2, c3, c4, c5]
        · replace h := run_f c4 h
          simp -failIfUnchanged only [↓RA, RB, RS, fx106, p1, p2, p3, p4, reduceIte, p5, p6, p7, p8, c1, c2, c3, c4]
          have h := run_some h
          obtain rfl : _ = r := h
          refine FinH.l ?_
          simp -failIfUnchanged only [↓RA, RB, RS, fx106, p1, p2, p3, p4, reduceIte, p5, p6, p7, p8, c1, c2, c3, c4]
      · simp -failIfUnchanged only [↓RA, RB, RS, fx106, p1, p2, p3, p4, reduceIte, p5, p6, p7, p8, c1, c2]
        refine CondH.ff (decide_eq_false (by omega)) (fun c8 => ?_)
        simp -failIfUnchanged only [↓RA, RB, RS, fx106, p1, p2, p3, p4, reduceIte, p5, p6, p7, p8, c1, c2, c8]
        have h := run_some h
        obtain rfl : _ = r := h
        refine FinH.l ?_
        simp -failIfUnchanged only [↓RA, RB, RS, fx106, p1, p2, p3, p4, reduceIte, p5, p6, p7, p8, c1, c2, c8]
    · replace h := run_f c2 h
      simp -failIfUnchanged only [↓RA, RB, RS, fx106, p1, p2, p3, p4, reduceIte, p5, p6, p7, p8, c1, c2]
      have h := run_some h
      obtain rfl : _ = r := h
      refine FinH.l ?_
      simp -failIfUnchanged only [↓RA, RB, RS, fx106, p1, p2, p3, p4, reduceIte, p5, p6, p7, p8, c1, c2]
  · replace h := run_f c1 h
    simp -failIfUnchanged only [↓RA, RB, RS, fx106, p1, p2, p3, p4, reduceIte, p5, p6, p7, p8, c1]
    have h := run_some h
    obtain rfl : _ = r := h
    refine FinH.l ?_
    simp -failIfUnchanged only [↓RA, RB, RS, fx106, p1, p2, p3, p4, reduceIte, p5, p6, p7, p8, c1]

def fx111 := And.intro @ty_3 <| And.intro @zc_3 <| And.intro @z_3 <| And.intro @ty_4 <| And.intro @zc_4 <| And.intro @z_4 <| And.intro @u_4 <| And.intro @ty_46 <| And.intro @zc_46 <| And.intro @z_46 <| And.intro @es_46 <| And.intro @eb_46 <| And.intro @sl_46 <| And.intro @is_46 <| And.intro @el_46 <| And.intro @ze_46 <| And.intro @ez_46 <| And.intro @ty_48 <| And.intro @zc_48 <| And.intro @z_48 <| And.intro @fo_48_0 <| And.intro @fi_48_0 <| And.intro @ft_48_0 <| And.intro @fo_48_1 <| And.intro @fi_48_1 <| And.intro @ft_48_1 <| And.intro @fo_48_2 <| And.intro @fi_48_2 <| And.intro @ft_48_2 <| And.intro @lay_48 <| And.intro @ty_55 <| And.intro @zc_55 <| And.intro @z_55 <| And.intro @es_55 <| And.intro @eb_55 <| And.intro @sl_55 <| And.intro @is_55 <| And.intro @el_55 <| And.intro @ze_55 <| And.intro @ez_55 <| And.intro @ty_56 <| And.intro @zc_56 <| And.intro @z_56 <| And.intro @es_56 <| And.intro @eb_56 <| And.intro @sl_56 <| And.intro @is_56 <| And.intro @el_56 <| And.intro @ze_56 <| And.intro @ez_56 <| And.intro @ty_58 <| And.intro @zc_58 <| And.intro @z_58 <| And.intro @fo_58_0 <| And.intro @fi_58_0 <| And.intro @ft_58_0 <| And.intro @fo_58_1 <| And.intro @fi_58_1 <| And.intro @ft_58_1 <| And.intro @lay_58 <| And.intro @ty_148 <| And.intro @zc_148 <| And.intro @z_148 <| And.intro @fo_148_0 <| And.intro @fi_148_0 <| And.intro @ft_148_0 <| And.intro @fo_148_1 <| And.intro @fi_148_1 <| And.intro @ft_148_1 <| And.intro @fo_148_2 <| And.intro @fi_148_2 <| And.intro @ft_148_2 <| And.intro @lay_148 <| @mixedT
set_option maxHeartbeats 4000000 in
theorem spec_l24Good_sat {a0 : CyclicProof}  {r : Bool} (h : spec_l24Good a0 = some r) : Sat Try.prog 111 [((CyclicProof.pv false) a0)] (B r) := by
  replace h := Run.of h
  unfold spec_l24Good at h
  refine Sat.of_m (nt := 94) (rs := [.tmp 2]) (n := 100000) Try.func111 rfl rfl rfl rfl (by simp) ?_
  simp -failIfUnchanged only [↓RA, RB, RS, fx111, p1, p2, p3, p4, reduceIte, p5, p6, p7, p8]
  repeat (first | with_reducible refine noR_and (by repeat (first | exact noR_empty _ _ | exact noR_nilS _ _ | refine noR_mk _ _ _ _ _ rfl ?_ | refine noR_mkS _ _ _ _ _ rfl ?_)) ?_ | with_reducible refine noC_and (by repeat (first | exact noC_empty _ _ (by simp -failIfUnchanged only [↓RA, RB, RS, fx111, p1, p2, p3, p4, reduceIte, p5, p6, p7, p8]) | exact noC_nilS _ _ (by simp -failIfUnchanged only [↓RA, RB, RS, fx111, p1, p2, p3, p4, reduceIte, p5, p6, p7, p8]) | refine noC_mk _ _ _ _ _ rfl ?_ | refine noC_mkS _ _ _ _ _ rfl ?_)) ?_ | with_reducible refine and_ac ?_ | with_reducible refine And.intro (a := _ = List.range _) (by rfl) ?_)
  obtain ⟨v12, hv12, h⟩ := run_bind h
  refine CallH.mk [false, false, false] (spec_l1In_sat hv12) ?_ ?_ <;> simp -failIfUnchanged only [↓RA, RB, RS, fx111, p1, p2, p3, p4, reduceIte, p5, p6, p7, p8]
  refine CondH.mk (fun c1 => ?_) (fun c1 => ?_)
  · replace h := run_t c1 h
    simp -failIfUnchanged only [↓RA, RB, RS, fx111, p1, p2, p3, p4, reduceIte, p5, p6, p7, p8, c1]
    refine CondH.mk (fun c2 => ?_) (fun c2 => ?_)
    · replace h := run_t c2 h
      simp -failIfUnchanged only [↓RA, RB, RS, fx111, p1, p2, p3, p4, reduceIte, p5, p6, p7, p8, c1, c2]
      have h := run_some h
      obtain rfl : _ = r := h
      refine FinH.l ?_
      simp -failIfUnchanged only [↓RA, RB, RS, fx111, p1, p2, p3, p4, reduceIte, p5, p6, p7, p8, c1, c2]
    · replace h := run_f c2 h
      simp -failIfUnchanged only [↓RA, RB, RS, fx111, p1, p2, p3, p4, reduceIte, p5, p6, p7, p8, c1, c2]
      refine Mg.know_sl (b := false) (sz := 1) (es := a0.Arities.map I) 9 (by simp -failIfUnchanged only [↓RA, RB, RS, fx111, p1, p2, p3, p4, reduceIte, p5, p6, p7, p8, c1, c2]) fun hl9 => ?_; rw [List.length_map] at hl9
      replace h := run_loop h
      refine Mg.forN h (fun i5 s5 => [(1, .box (.pv ((CyclicProof.pv false) a0))), (3, .val (.pv (I (a0.Arities.length : Int)))), (4, .val (.pv (I (i5 : Int))))]) (fun i5 s5 => []) (St.le_mk2 (by simp -failIfUnchanged only [↓RA, RB, RS, fx111, p1, p2, p3, p4, reduceIte, p5, p6, p7, p8, c1, c2])) (fun i5 s5 hi h => ?_) (fun s5 h => ?_)
      · have w5 := wrap_succ (i := i5) (by omega)
        simp -failIfUnchanged only [↓RA, RB, RS, fx111, p1, p2, p3, p4, reduceIte, p5, p6, p7, p8, c1, c2]
        refine CondH.tt (decide_eq_true (by omega)) (fun c3 => ?_)
        simp -failIfUnchanged only [↓RA, RB, RS, fx111, p1, p2, p3, p4, reduceIte, p5, p6, p7, p8, c1, c2, c3]
        obtain ⟨v28, hv28, h⟩ := run_bind h
        refine IdxH.mk (f := I) hv28 ?_ ?_ <;> simp -failIfUnchanged only [↓RA, RB, RS, fx111, p1, p2, p3, p4, reduceIte, p5, p6, p7, p8, c1, c2, c3]
        obtain ⟨v30, hv30, h⟩ := run_bind h
        refine CallH.mk [false, false, false] (spec_l1In_sat hv30) ?_ ?_ <;> simp -failIfUnchanged only [↓RA, RB, RS, fx111, p1, p2, p3, p4, reduceIte, p5, p6, p7, p8, c1, c2, c3]
        refine CondH.mk (fun c4 => ?_) (fun c4 => ?_)
        · replace h := run_t c4 h
          simp -failIfUnchanged only [↓RA, RB, RS, fx111, p1, p2, p3, p4, reduceIte, p5, p6, p7, p8, c1, c2, c3, c4]
          have h := run_some h
          refine RdH.mk ⟨_, h, ?_⟩
          refine St.le_mk2 ?_
          simp -failIfUnchanged only [↓RA, RB, RS, fx111, p1, p2, p3, p4, reduceIte, p5, p6, p7, p8, c1, c2, c3, c4, w5]
        · replace h := run_f c4 h
          simp -failIfUnchanged only [↓RA, RB, RS, fx111, p1, p2, p3, p4, reduceIte, p5, p6, p7, p8, c1, c2, c3, c4]
          have h := run_some h
          obtain rfl : _ = r := h
          refine FinH.l ?_
          simp -failIfUnchanged only [↓RA, RB, RS, fx111, p1, p2, p3, p4, reduceIte, p5, p6, p7, p8, c1, c2, c3, c4]
      · simp -failIfUnchanged only [↓RA, RB, RS, fx111, p1, p2, p3, p4, reduceIte, p5, p6, p7, p8, c1, c2]
        refine CondH.ff (decide_eq_false (by omega)) (fun c5 => ?_)
        simp -failIfUnchanged only [↓RA, RB, RS, fx111, p1, p2, p3, p4, reduceIte, p5, p6, p7, p8, c1, c2, c5]
        refine Mg.know_box2 (b := false) (sz := 3) (es := a0.Calls.map (SizeGraph.pv false)) (x := (.pv ((CyclicProof.pv false) a0))) 1 [1] (by simp -failIfUnchanged only [↓RA, RB, RS, fx111, p1, p2, p3, p4, reduceIte, p5, p6, p7, p8, c1, c2, c5]) fun hl1 => ?_; rw [List.length_map] at hl1
        replace h := run_loop h
        refine Mg.forN h (fun i10 s10 => [(1, .box (.pv ((CyclicProof.pv false) a0))), (3, .val (.pv (I (a0.Arities.length : Int)))), (5, .val (.pv (I (i10 : Int))))]) (fun i10 s10 => []) (St.le_mk2 (by simp -failIfUnchanged only [↓RA, RB, RS, fx111, p1, p2, p3, p4, reduceIte, p5, p6, p7, p8, c1, c2, c5])) (fun i10 s10 hi h => ?_) (fun s10 h => ?_)
        · have w10 := wrap_succ (i := i10) (by omega)
          simp -failIfUnchanged only [↓RA, RB, RS, fx111, p1, p2, p3, p4, reduceIte, p5, p6, p7, p8, c1, c2, c5]
          refine CondH.tt (decide_eq_true (by omega)) (fun c6 => ?_)
          simp -failIfUnchanged only [↓RA, RB, RS, fx111, p1, p2, p3, p4, reduceIte, p5, p6, p7, p8, c1, c2, c5, c6]
          obtain ⟨v42, hv42, h⟩ := run_bind h
          refine IdxH.mk (f := (SizeGraph.pv false)) hv42 ?_ ?_ <;> simp -failIfUnchanged only [↓RA, RB, RS, fx111, p1, p2, p3, p4, reduceIte, p5, p6, p7, p8, c1, c2, c5, c6]
          repeat (first | with_reducible refine noR_and (by repeat (first | exact noR_empty _ _ | exact noR_nilS _ _ | refine noR_mk _ _ _ _ _ rfl ?_ | refine noR_mkS _ _ _ _ _ rfl ?_)) ?_ | with_reducible refine noC_and (by repeat (first | exact noC_empty _ _ (by simp -failIfUnchanged only [↓RA, RB, RS, fx111, p1, p2, p3, p4, reduceIte, p5, p6, p7, p8]) | exact noC_nilS _ _ (by simp -failIfUnchanged only [↓RA, RB, RS, fx111, p1, p2, p3, p4, reduceIte, p5, p6, p7, p8]) | refine noC_mk _ _ _ _ _ rfl ?_ | refine noC_mkS _ _ _ _ _ rfl ?_)) ?_ | with_reducible refine and_ac ?_ | with_reducible refine And.intro (a := _ = List.range _) (by rfl) ?_)
          obtain ⟨v45, hv45, h⟩ := run_bind h
          refine CallH.mk [false] (spec_l24Graph_sat hv45) ?_ ?_ <;> simp -failIfUnchanged only [↓RA, RB, RS, fx111, p1, p2, p3, p4, reduceIte, p5, p6, p7, p8, c1, c2, c5, c6]
          refine CondH.mk (fun c7 => ?_) (fun c7 => ?_)
          · replace h := run_t c7 h
            simp -failIfUnchanged only [↓RA, RB, RS, fx111, p1, p2, p3, p4, reduceIte, p5, p6, p7, p8, c1, c2, c5, c6, c7]
            refine CondH.mk (fun c8 => ?_) (fun c8 => ?_)
            · replace h := run_t c8 h
              simp -failIfUnchanged only [↓RA, RB, RS, fx111, p1, p2, p3, p4, reduceIte, p5, p6, p7, p8, c1, c2, c5, c6, c7, c8]
              have h := run_some h
              obtain rfl : _ = r := h
              refine FinH.l ?_
              simp -failIfUnchanged only [↓RA, RB, RS, fx111, p1, p2, p3, p4, reduceIte, p5, p6, p7, p8, c1, c2, c5, c6, c7, c8]
            · replace h := run_f c8 h
              simp -failIfUnchanged only [↓RA, RB, RS, fx111, p1, p2, p3, p4, reduceIte, p5, p6, p7, p8, c1, c2, c5, c6, c7, c8]
              refine CondH.mk (fun c9 => ?_) (fun c9 => ?_)
              · replace h := run_t c9 h
                simp -failIfUnchanged only [↓RA, RB, RS, fx111, p1, p2, p3, p4, reduceIte, p5, p6, p7, p8, c1, c2, c5, c6, c7, c8, c9]
                have h := run_some h
                obtain rfl : _ = r := h
                refine FinH.l ?_
                simp -failIfUnchanged only [↓RA, RB, RS, fx111, p1, p2, p3, p4, reduceIte, p5, p6, p7, p8, c1, c2, c5, c6, c7, c8, c9]
              · replace h := run_f c9 h
                simp -failIfUnchanged only [↓RA, RB, RS, fx111, p1, p2, p3, p4, reduceIte, p5, p6, p7, p8, c1, c2, c5, c6, c7, c8, c9]
                refine Mg.know_box2 (b := false) (sz := 3) (es := v42.Edges.map (SizeEdge.pv false)) (x := (.pv ((SizeGraph.pv false) v42))) 6 [2] (by simp -failIfUnchanged only [↓RA, RB, RS, fx111, p1, p2, p3, p4, reduceIte, p5, p6, p7, p8, c1, c2, c5, c6, c7, c8, c9]) fun hl6 => ?_; rw [List.length_map] at hl6
                replace h := run_loop h
                refine Mg.forN h (fun i16 s16 => [(1, .box (.pv ((CyclicProof.pv false) a0))), (3, .val (.pv (I (a0.Arities.length : Int)))), (5, .val (.pv (I (i10 : Int)))), (6, .box (.pv ((SizeGraph.pv false) v42))), (7, .val (.pv (I (i16 : Int))))]) (fun i16 s16 => []) (St.le_mk2 (by simp -failIfUnchanged only [↓RA, RB, RS, fx111, p1, p2, p3, p4, reduceIte, p5, p6, p7, p8, c1, c2, c5, c6, c7, c8, c9])) (fun i16 s16 hi h => ?_) (fun s16 h => ?_)
                · have w16 := wrap_succ (i := i16) (by omega)
                  simp -failIfUnchanged only [↓RA, RB, RS, fx111, p1, p2, p3, p4, reduceIte, p5, p6, p7, p8, c1, c2, c5, c6, c7, c8, c9]
                  refine CondH.tt (decide_eq_true (by omega)) (fun c10 => ?_)
                  simp -failIfUnchanged only [↓RA, RB, RS, fx111, p1, p2, p3, p4, reduceIte, p5, p6, p7, p8, c1, c2, c5, c6, c7, c8, c9, c10]
                  obtain ⟨v69, hv69, h⟩ := run_bind h
                  refine IdxH.mk (f := (SizeEdge.pv false)) hv69 ?_ ?_ <;> simp -failIfUnchanged only [↓RA, RB, RS, fx111, p1, p2, p3, p4, reduceIte, p5, p6, p7, p8, c1, c2, c5, c6, c7, c8, c9, c10]
                  obtain ⟨v76, hv76, h⟩ := run_bind h
                  refine IdxH.mk (f := I) hv76 ?_ ?_ <;> simp -failIfUnchanged only [↓RA, RB, RS, fx111, p1, p2, p3, p4, reduceIte, p5, p6, p7, p8, c1, c2, c5, c6, c7, c8, c9, c10]
                  refine CondH.mk (fun c11 => ?_) (fun c11 => ?_)
                  · replace h := run_t c11 h
                    simp -failIfUnchanged only [↓RA, RB, RS, fx111, p1, p2, p3, p4, reduceIte, p5, p6, p7, p8, c1, c2, c5, c6, c7, c8, c9, c10, c11]
                    refine And.intro (DrawH.none (by rfl) (by first | rfl | (simp -failIfUnchanged only [↓RA, RB, RS, fx111, p1, p2, p3, p4, reduceIte, p5, p6, p7, p8] <;> rfl)) (by first | rfl | (simp -failIfUnchanged only [↓RA, RB, RS, fx111, p1, p2, p3, p4, reduceIte, p5, p6, p7, p8] <;> rfl)) (by first | rfl | (simp -failIfUnchanged only [↓RA, RB, RS, fx111, p1, p2, p3, p4, reduceIte, p5, p6, p7, p8] <;> rfl))) ?_
                    simp -failIfUnchanged only [↓RA, RB, RS, fx111, p1, p2, p3, p4, reduceIte, p5, p6, p7, p8, c1, c2, c5, c6, c7, c8, c9, c10, c11]
                    have h := run_some h
                    obtain rfl : _ = r := h
                    refine FinH.l ?_
                    simp -failIfUnchanged only [↓RA, RB, RS, fx111, p1, p2, p3, p4, reduceIte, p5, p6, p7, p8, c1, c2, c5, c6, c7, c8, c9, c10, c11]
                  · replace h := run_f c11 h
                    simp -failIfUnchanged only [↓RA, RB, RS, fx111, p1, p2, p3, p4, reduceIte, p5, p6, p7, p8, c1, c2, c5, c6, c7, c8, c9, c10, c11]
                    obtain ⟨v83, hv83, h⟩ := run_bind h
                    refine IdxH.mk (f := (SizeEdge.pv false)) hv83 ?_ ?_ <;> simp -failIfUnchanged only [↓RA, RB, RS, fx111, p1, p2, p3, p4, reduceIte, p5, p6, p7, p8, c1, c2, c5, c6, c7, c8, c9, c10, c11]
                    obtain ⟨v90, hv90, h⟩ := run_bind h
                    refine IdxH.mk (f := I) hv90 ?_ ?_ <;> simp -failIfUnchanged only [↓RA, RB, RS, fx111, p1, p2, p3, p4, reduceIte, p5, p6, p7, p8, c1, c2, c5, c6, c7, c8, c9, c10, c11]
                    refine And.intro (DrawH.none (by rfl) (by first | rfl | (simp -failIfUnchanged only [↓RA, RB, RS, fx111, p1, p2, p3, p4, reduceIte, p5, p6, p7, p8] <;> rfl)) (by first | rfl | (simp -failIfUnchanged only [↓RA, RB, RS, fx111, p1, p2, p3, p4, reduceIte, p5, p6, p7, p8] <;> rfl)) (by first | rfl | (simp -failIfUnchanged only [↓RA, RB, RS, fx111, p1, p2, p3, p4, reduceIte, p5, p6, p7, p8] <;> rfl))) ?_
                    simp -failIfUnchanged only [↓RA, RB, RS, fx111, p1, p2, p3, p4, reduceIte, p5, p6, p7, p8, c1, c2, c5, c6, c7, c8, c9, c10, c11]
                    refine CondH.mk (fun c12 => ?_) (fun c12 => ?_)
                    · replace h := run_t c12 h
                      simp -failIfUnchanged only [↓RA, RB, RS, fx111, p1, p2, p3, p4, reduceIte, p5, p6, p7, p8, c1, c2, c5, c6, c7, c8, c9, c10, c11, c12]
                      have h := run_some h
                      obtain rfl : _ = r := h
                      refine FinH.l ?_
                      simp -failIfUnchanged only [↓RA, RB, RS, fx111, p1, p2, p3, p4, reduceIte, p5, p6, p7, p8, c1, c2, c5, c6, c7, c8, c9, c10, c11, c12]
                    · replace h := run_f c12 h
                      simp -failIfUnchanged only [↓RA, RB, RS, fx111, p1, p2, p3, p4, reduceIte, p5, p6, p7, p8, c1, c2, c5, c6, c7, c8, c9, c10, c11, c12]
                      have h := run_some h
                      refine RdH.mk ⟨_, h, ?_⟩
                      refine St.le_mk2 ?_
                      simp -failIfUnchanged only [↓RA, RB, RS, fx111, p1, p2, p3, p4, reduceIte, p5, p6, p7, p8, c1, c2, c5, c6, c7, c8, c9, c10, c11, c12, w16]
                · simp -failIfUnchanged only [↓RA, RB, RS, fx111, p1, p2, p3, p4, reduceIte, p5, p6, p7, p8, c1, c2, c5, c6, c7, c8, c9]
                  refine CondH.ff (decide_eq_false (by omega)) (fun c13 => ?_)
                  simp -failIfUnchanged only [↓RA, RB, RS, fx111, p1, p2, p3, p4, reduceIte, p5, p6, p7, p8, c1, c2, c5, c6, c7, c8, c9, c13]
                  have h := run_some h
                  refine RdH.mk ⟨_, h, ?_⟩
                  refine St.le_mk2 ?_
                  simp -failIfUnchanged only [↓RA, RB, RS, fx111, p1, p2, p3, p4, reduceIte, p5, p6, p7, p8, c1, c2, c5, c6, c7, c8, c9, c13, w10]
          · replace h := run_f c7 h
            simp -failIfUnchanged only [↓RA, RB, RS, fx111, p1, p2, p3, p4, reduceIte, p5, p6, p7, p8, c1, c2, c5, c6, c7]
            have h := run_some h
            obtain rfl : _ = r := h
            refine FinH.l ?_
            simp -failIfUnchanged only [↓RA, RB, RS, fx111, p1, p2, p3, p4, reduceIte, p5, p6, p7, p8, c1, c2, c5, c6, c7]
        · simp -failIfUnchanged only [↓RA, RB, RS, fx111, p1, p2, p3, p4, reduceIte, p5, p6, p7, p8, c1, c2, c5]
          refine CondH.ff (decide_eq_false (by omega)) (fun c14 => ?_)
          simp -failIfUnchanged only [↓RA, RB, RS, fx111, p1, p2, p3, p4, reduceIte, p5, p6, p7, p8, c1, c2, c5, c14]
          have h := run_some h
          obtain rfl : _ = r := h
          refine FinH.l ?_
          simp -failIfUnchanged only [↓RA, RB, RS, fx111, p1, p2, p3, p4, reduceIte, p5, p6, p7, p8, c1, c2, c5, c14]
  · replace h := run_f c1 h
    simp -failIfUnchanged only [↓RA, RB, RS, fx111, p1, p2, p3, p4, reduceIte, p5, p6, p7, p8, c1]
    have h := run_some h
    obtain rfl : _ = r := h
    refine FinH.l ?_
    simp -failIfUnchanged only [↓RA, RB, RS, fx111, p1, p2, p3, p4, reduceIte, p5, p6, p7, p8, c1]

def fx130 := And.intro @ty_3 <| And.intro @zc_3 <| And.intro @z_3 <| And.intro @ty_4 <| And.intro @zc_4 <| And.intro @z_4 <| And.intro @u_4 <| And.intro @ty_48 <| And.intro @zc_48 <| And.intro @z_48 <| And.intro @fo_48_0 <| And.intro @fi_48_0 <| And.intro @ft_48_0 <| And.intro @fo_48_1 <| And.intro @fi_48_1 <| And.intro @ft_48_1 <| And.intro @fo_48_2 <| And.intro @fi_48_2 <| And.intro @ft_48_2 <| And.intro @lay_48 <| And.intro @ty_55 <| And.intro @zc_55 <| And.intro @z_55 <| And.intro @es_55 <| And.intro @eb_55 <| And.intro @sl_55 <| And.intro @is_55 <| And.intro @el_55 <| And.intro @ze_55 <| And.intro @ez_55 <| And.intro @ty_56 <| And.intro @zc_56 <| And.intro @z_56 <| And.intro @es_56 <| And.intro @eb_56 <| And.intro @sl_56 <| And.intro @is_56 <| And.intro @el_56 <| And.intro @ze_56 <| And.intro @ez_56 <| And.intro @ty_58 <| And.intro @zc_58 <| And.intro @z_58 <| And.intro @fo_58_0 <| And.intro @fi_58_0 <| And.intro @ft_58_0 <| And.intro @fo_58_1 <| And.intro @fi_58_1 <| And.intro @ft_58_1 <| And.intro @lay_58 <| @mixedT
set_option maxHeartbeats 4000000 in
theorem spec_l24Path_sat {a0 : CyclicProof} {a1 : List Int}  {r : Bool} (h : spec_l24Path a0 a1 = some r) : Sat Try.prog 130 [((CyclicProof.pv false) a0), (.sl false 1 (a1.map I))] (B r) := by
  replace h := Run.of h
  unfold spec_l24Path at h
  refine Sat.of_m (nt := 55) (rs := [.tmp 4]) (n := 100000) Try.func130 rfl rfl rfl rfl (by simp) ?_
  simp -failIfUnchanged only [↓RA, RB, RS, fx130, p1, p2, p3, p4, reduceIte, p5, p6, p7, p8]
  repeat (first | with_reducible refine noR_and (by repeat (first | exact noR_empty _ _ | exact noR_nilS _ _ | refine noR_mk _ _ _ _ _ rfl ?_ | refine noR_mkS _ _ _ _ _ rfl ?_)) ?_ | with_reducible refine noC_and (by repeat (first | exact noC_empty _ _ (by simp -failIfUnchanged only [↓RA, RB, RS, fx130, p1, p2, p3, p4, reduceIte, p5, p6, p7, p8]) | exact noC_nilS _ _ (by simp -failIfUnchanged only [↓RA, RB, RS, fx130, p1, p2, p3, p4, reduceIte, p5, p6, p7, p8]) | refine noC_mk _ _ _ _ _ rfl ?_ | refine noC_mkS _ _ _ _ _ rfl ?_)) ?_ | with_reducible refine and_ac ?_ | with_reducible refine And.intro (a := _ = List.range _) (by rfl) ?_)
  refine Mg.know_sl (b := false) (sz := 1) (es := a1.map I) 1 (by simp -failIfUnchanged only [↓RA, RB, RS, fx130, p1, p2, p3, p4, reduceIte, p5, p6, p7, p8]) fun hl1 => ?_; rw [List.length_map] at hl1
  replace h := run_loop h
  refine Mg.forN h (fun i2 s2 => [(1, .val (.pv (.sl false 1 (a1.map I)))), (2, .box (.pv ((CyclicProof.pv false) a0))), (5, .val (.pv (I (i2 : Int))))]) (fun i2 s2 => []) (St.le_mk2 (by simp -failIfUnchanged only [↓RA, RB, RS, fx130, p1, p2, p3, p4, reduceIte, p5, p6, p7, p8])) (fun i2 s2 hi h => ?_) (fun s2 h => ?_)
  · have w2 := wrap_succ (i := i2) (by omega)
    simp -failIfUnchanged only [↓RA, RB, RS, fx130, p1, p2, p3, p4, reduceIte, p5, p6, p7, p8]
    refine CondH.tt (decide_eq_true (by omega)) (fun c1 => ?_)
    simp -failIfUnchanged only [↓RA, RB, RS, fx130, p1, p2, p3, p4, reduceIte, p5, p6, p7, p8, c1]
    refine CondH.mk (fun c2 => ?_) (fun c2 => ?_)
    · replace h := run_t c2 h
      simp -failIfUnchanged only [↓RA, RB, RS, fx130, p1, p2, p3, p4, reduceIte, p5, p6, p7, p8, c1, c2]
      obtain ⟨v18, hv18, h⟩ := run_bind h
      refine IdxH.mk (f := I) hv18 ?_ ?_ <;> simp -failIfUnchanged only [↓RA, RB, RS, fx130, p1, p2, p3, p4, reduceIte, p5, p6, p7, p8, c1, c2]
      obtain ⟨v24, hv24, h⟩ := run_bind h
      refine CallH.mk [false, false, false] (spec_l1In_sat hv24) ?_ ?_ <;> simp -failIfUnchanged only [↓RA, RB, RS, fx130, p1, p2, p3, p4, reduceIte, p5, p6, p7, p8, c1, c2]
      refine CondH.mk (fun c3 => ?_) (fun c3 => ?_)
      · replace h := run_t c3 h
        simp -failIfUnchanged only [↓RA, RB, RS, fx130, p1, p2, p3, p4, reduceIte, p5, p6, p7, p8, c1, c2, c3]
        refine CondH.mk (fun c4 => ?_) (fun c4 => ?_)
        · replace h := run_t c4 h
          simp -failIfUnchanged only [↓RA, RB, RS, fx130, p1, p2, p3, p4, reduceIte, p5, p6, p7, p8, c1, c2, c3, c4]
          obtain ⟨v35, hv35, h⟩ := run_bind h
          refine IdxH.mk (f := I) hv35 ?_ ?_ <;> simp -failIfUnchanged only [↓RA, RB, RS, fx130, p1, p2, p3, p4, reduceIte, p5, p6, p7, p8, c1, c2, c3, c4]
          obtain ⟨v37, hv37, h⟩ := run_bind h
          refine IdxH.mk (f := (SizeGraph.pv false)) hv37 ?_ ?_ <;> simp -failIfUnchanged only [↓RA, RB, RS, fx130, p1, p2, p3, p4, reduceIte, p5, p6, p7, p8, c1, c2, c3, c4]
          obtain ⟨v44, hv44, h⟩ := run_bind h
          refine IdxH.mk (f := I) hv44 ?_ ?_ <;> simp -failIfUnchanged only [↓RA, RB, RS, fx130, p1, p2, p3, p4, reduceIte, p5, p6, p7, p8, c1, c2, c3, c4]
          obtain ⟨v46, hv46, h⟩ := run_bind h
          refine IdxH.mk (f := (SizeGraph.pv false)) hv46 ?_ ?_ <;> simp -failIfUnchanged only [↓RA, RB, RS, fx130, p1, p2, p3, p4, reduceIte, p5, p6, p7, p8, c1, c2, c3, c4]
          refine And.intro (DrawH.none (by rfl) (by first | rfl | (simp -failIfUnchanged only [↓RA, RB, RS, fx130, p1, p2, p3, p4, reduceIte, p5, p6, p7, p8] <;> rfl)) (by first | rfl | (simp -failIfUnchanged only [↓RA, RB, RS, fx130, p1, p2, p3, p4, reduceIte, p5, p6, p7, p8] <;> rfl)) (by first | rfl | (simp -failIfUnchanged only [↓RA, RB, RS, fx130, p1, p2, p3, p4, reduceIte, p5, p6, p7, p8] <;> rfl))) ?_
          simp -failIfUnchanged only [↓RA, RB, RS, fx130, p1, p2, p3, p4, reduceIte, p5, p6, p7, p8, c1, c2, c3, c4]
          refine CondH.mk (fun c5 => ?_) (fun c5 => ?_)
          · replace h := run_t c5 h
            simp -failIfUnchanged only [↓RA, RB, RS, fx130, p1, p2, p3, p4, reduceIte, p5, p6, p7, p8, c1, c2, c3, c4, c5]
            have h := run_some h
            refine RdH.mk ⟨_, h, ?_⟩
            refine St.le_mk2 ?_
            simp -failIfUnchanged only [↓RA, RB, RS, fx130, p1, p2, p3, p4, reduceIte, p5, p6, p7, p8, c1, c2, c3, c4, c5, w2]
          · replace h := run_f c5 h
            simp -failIfUnchanged only [↓RA, RB, RS, fx130, p1, p2, p3, p4, reduceIte, p5, p6, p7, p8, c1, c2, c3, c4, c5]
            have h := run_some h
            obtain rfl : _ = r := h
            refine FinH.l ?_
            simp -failIfUnchanged only [↓RA, RB, RS, fx130, p1, p2, p3, p4, reduceIte, p5, p6, p7, p8, c1, c2, c3, c4, c5]
        · replace h := run_f c4 h
          simp -failIfUnchanged only [↓RA, RB, RS, fx130, p1, p2, p3, p4, reduceIte, p5, p6, p7, p8, c1, c2, c3, c4]
          refine And.intro (DrawH.none (by rfl) (by first | rfl | (simp -failIfUnchanged only [↓RA, RB, RS, fx130, p1, p2, p3, p4, reduceIte, p5, p6, p7, p8] <;> rfl)) (by first | rfl | (simp -failIfUnchanged only [↓RA, RB, RS, fx130, p1, p2, p3, p4, reduceIte, p5, p6, p7, p8] <;> rfl)) (by first | rfl | (simp -failIfUnchanged only [↓RA, RB, RS, fx130, p1, p2, p3, p4, reduceIte, p5, p6, p7, p8] <;> rfl))) ?_
          simp -failIfUnchanged only [↓RA, RB, RS, fx130, p1, p2, p3, p4, reduceIte, p5, p6, p7, p8, c1, c2, c3, c4]
          have h := run_some h
          refine RdH.mk ⟨_, h, ?_⟩
          refine St.le_mk2 ?_
          simp -failIfUnchanged only [↓RA, RB, RS, fx130, p1, p2, p3, p4, reduceIte, p5, p6, p7, p8, c1, c2, c3, c4, w2]
      · replace h := run_f c3 h
        simp -failIfUnchanged only [↓RA, RB, RS, fx130, p1, p2, p3, p4, reduceIte, p5, p6, p7, p8, c1, c2, c3]
        refine And.intro (DrawH.none (by rfl) (by first | rfl | (simp -failIfUnchanged only [↓RA, RB, RS, fx130, p1, p2, p3, p4, reduceIte, p5, p6, p7, p8] <;> rfl)) (by first | rfl | (simp -failIfUnchanged only [↓RA, RB, RS, fx130, p1, p2, p3, p4, reduceIte, p5, p6, p7, p8] <;> rfl)) (by first | rfl | (simp -failIfUnchanged only [↓RA, RB, RS, fx130, p1, p2, p3, p4, reduceIte, p5, p6, p7, p8] <;> rfl))) ?_
        simp -failIfUnchanged only [↓RA, RB, RS, fx130, p1, p2, p3, p4, reduceIte, p5, p6, p7, p8, c1, c2, c3]
        have h := run_some h
        obtain rfl : _ = r := h
        refine FinH.l ?_
        simp -failIfUnchanged only [↓RA, RB, RS, fx130, p1, p2, p3, p4, reduceIte, p5, p6, p7, p8, c1, c2, c3]
    · replace h := run_f c2 h
      simp -failIfUnchanged only [↓RA, RB, RS, fx130, p1, p2, p3, p4, reduceIte, p5, p6, p7, p8, c1, c2]
      have h := run_some h
      obtain rfl : _ = r := h
      refine FinH.l ?_
      simp -failIfUnchanged only [↓RA, RB, RS, fx130, p1, p2, p3, p4, reduceIte, p5, p6, p7, p8, c1, c2]
  · simp -failIfUnchanged only [↓RA, RB, RS, fx130, p1, p2, p3, p4, reduceIte, p5, p6, p7, p8]
    refine CondH.ff (decide_eq_false (by omega)) (fun c6 => ?_)
    simp -failIfUnchanged only [↓RA, RB, RS, fx130, p1, p2, p3, p4, reduceIte, p5, p6, p7, p8, c6]
    have h := run_some h
    obtain rfl : _ = r := h
    refine FinH.l ?_
    simp -failIfUnchanged only [↓RA, RB, RS, fx130, p1, p2, p3, p4, reduceIte, p5, p6, p7, p8, c6]

def fx131 := And.intro @ty_3 <| And.intro @zc_3 <| And.intro @z_3 <| And.intro @ty_46 <| And.intro @zc_46 <| And.intro @z_46 <| And.intro @es_46 <| And.intro @eb_46 <| And.intro @sl_46 <| And.intro @is_46 <| And.intro @el_46 <| And.intro @ze_46 <| And.intro @ez_46 <| And.intro @ty_48 <| And.intro @zc_48 <| And.intro @z_48 <| And.intro @fo_48_0 <| And.intro @fi_48_0 <| And.intro @ft_48_0 <| And.intro @fo_48_1 <| And.intro @fi_48_1 <| And.intro @ft_48_1 <| And.intro @fo_48_2 <| And.intro @fi_48_2 <| And.intro @ft_48_2 <| And.intro @lay_48 <| @mixedT
set_option maxHeartbeats 4000000 in
theorem spec_l24Own_sat {a0 : SizeGraph}  {r : SizeGraph} (h : spec_l24Own a0 = some r) : Sat Try.prog 131 [((SizeGraph.pv false) a0)] ((SizeGraph.pv true) r) := by
  replace h := Run.of h
  unfold spec_l24Own at h
  refine Sat.of_m (nt := 12) (rs := [.cell 2 48]) (n := 100000) Try.func131 rfl rfl rfl rfl (by simp) ?_
  simp -failIfUnchanged only [↓RA, RB, RS, fx131, p1, p2, p3, p4, reduceIte, p5, p6, p7, p8]
  repeat (first | with_reducible refine noR_and (by repeat (first | exact noR_empty _ _ | exact noR_nilS _ _ | refine noR_mk _ _ _ _ _ rfl ?_ | refine noR_mkS _ _ _ _ _ rfl ?_)) ?_ | with_reducible refine noC_and (by repeat (first | exact noC_empty _ _ (by simp -failIfUnchanged only [↓RA, RB, RS, fx131, p1, p2, p3, p4, reduceIte, p5, p6, p7, p8]) | exact noC_nilS _ _ (by simp -failIfUnchanged only [↓RA, RB, RS, fx131, p1, p2, p3, p4, reduceIte, p5, p6, p7, p8]) | refine noC_mk _ _ _ _ _ rfl ?_ | refine noC_mkS _ _ _ _ _ rfl ?_)) ?_ | with_reducible refine and_ac ?_ | with_reducible refine And.intro (a := _ = List.range _) (by rfl) ?_)
  obtain ⟨v10, hv10, h⟩ := run_bind h
  refine AppH.mk (f := (SizeEdge.pv false)) (fun a => SizeEdge.psize _ a) hv10 ?_ ?_ ?_ <;> simp -failIfUnchanged only [↓RA, RB, RS, fx131, p1, p2, p3, p4, reduceIte, p5, p6, p7, p8]
  repeat (first | with_reducible refine noR_and (by repeat (first | exact noR_empty _ _ | exact noR_nilS _ _ | refine noR_mk _ _ _ _ _ rfl ?_ | refine noR_mkS _ _ _ _ _ rfl ?_)) ?_ | with_reducible refine noC_and (by repeat (first | exact noC_empty _ _ (by simp -failIfUnchanged only [↓RA, RB, RS, fx131, p1, p2, p3, p4, reduceIte, p5, p6, p7, p8]) | exact noC_nilS _ _ (by simp -failIfUnchanged only [↓RA, RB, RS, fx131, p1, p2, p3, p4, reduceIte, p5, p6, p7, p8]) | refine noC_mk _ _ _ _ _ rfl ?_ | refine noC_mkS _ _ _ _ _ rfl ?_)) ?_ | with_reducible refine and_ac ?_ | with_reducible refine And.intro (a := _ = List.range _) (by rfl) ?_)
  refine And.intro (DrawH.mk [] [112, 160] (by rfl) (by first | rfl | (simp -failIfUnchanged only [↓RA, RB, RS, fx131, p1, p2, p3, p4, reduceIte, p5, p6, p7, p8] <;> rfl)) (by first | rfl | (simp -failIfUnchanged only [↓RA, RB, RS, fx131, p1, p2, p3, p4, reduceIte, p5, p6, p7, p8] <;> rfl)) (by first | rfl | (simp -failIfUnchanged only [↓RA, RB, RS, fx131, p1, p2, p3, p4, reduceIte, p5, p6, p7, p8] <;> rfl)) (by simp) (by simp -failIfUnchanged only [↓RA, RB, RS, fx131, p1, p2, p3, p4, reduceIte, p5, p6, p7, p8]; repeat (first | exact noC_empty _ _ (by simp -failIfUnchanged only [↓RA, RB, RS, fx131, p1, p2, p3, p4, reduceIte, p5, p6, p7, p8]) | exact noC_nilS _ _ (by simp -failIfUnchanged only [↓RA, RB, RS, fx131, p1, p2, p3, p4, reduceIte, p5, p6, p7, p8]) | refine noC_mk _ _ _ _ _ rfl ?_ | refine noC_mkS _ _ _ _ _ rfl ?_ | refine And.intro ?_ ?_))) ?_
  simp -failIfUnchanged only [↓RA, RB, RS, fx131, p1, p2, p3, p4, reduceIte, p5, p6, p7, p8]
  have h := run_some h
  obtain rfl : _ = r := h
  refine FinH.l ?_
  simp -failIfUnchanged only [↓RA, RB, RS, fx131, p1, p2, p3, p4, reduceIte, p5, p6, p7, p8]

def fx208 := And.intro @ty_3 <| And.intro @zc_3 <| And.intro @z_3 <| And.intro @ty_4 <| And.intro @zc_4 <| And.intro @z_4 <| And.intro @u_4 <| And.intro @ty_46 <| And.intro @zc_46 <| And.intro @z_46 <| And.intro @es_46 <| And.intro @eb_46 <| And.intro @sl_46 <| And.intro @is_46 <| And.intro @el_46 <| And.intro @ze_46 <| And.intro @ez_46 <| And.intro @ty_48 <| And.intro @zc_48 <| And.intro @z_48 <| And.intro @fo_48_0 <| And.intro @fi_48_0 <| And.intro @ft_48_0 <| And.intro @fo_48_1 <| And.intro @fi_48_1 <| And.intro @ft_48_1 <| And.intro @fo_48_2 <| And.intro @fi_48_2 <| And.intro @ft_48_2 <| And.intro @lay_48 <| And.intro @ty_148 <| And.intro @zc_148 <| And.intro @z_148 <| And.intro @fo_148_0 <| And.intro @fi_148_0 <| And.intro @ft_148_0 <| And.intro @fo_148_1 <| And.intro @fi_148_1 <| And.intro @ft_148_1 <| And.intro @fo_148_2 <| And.intro @fi_148_2 <| And.intro @ft_148_2 <| @lay_148
set_option maxHeartbeats 4000000 in
theorem spec_l24Level_sat {a0 : SizeGraph} {a1 : Int} {a2 : Int}  {r : Int} (h : spec_l24Level a0 a1 a2 = some r) : Sat Try.prog 208 [((SizeGraph.pv false) a0), (I a1), (I a2)] (I r) := by
  replace h := Run.of h
  unfold spec_l24Level at h
  refine Sat.of_m (nt := 39) (rs := [.tmp 6]) (n := 100000) Try.func208 rfl rfl rfl rfl (by simp) ?_
  simp -failIfUnchanged only [↓RA, RB, RS, fx208, p1, p2, p3, p4, reduceIte, p5, p6, p7, p8]
  repeat (first | with_reducible refine noR_and (by repeat (first | exact noR_empty _ _ | exact noR_nilS _ _ | refine noR_mk _ _ _ _ _ rfl ?_ | refine noR_mkS _ _ _ _ _ rfl ?_)) ?_ | with_reducible refine noC_and (by repeat (first | exact noC_empty _ _ (by simp -failIfUnchanged only [↓RA, RB, RS, fx208, p1, p2, p3, p4, reduceIte, p5, p6, p7, p8]) | exact noC_nilS _ _ (by simp -failIfUnchanged only [↓RA, RB, RS, fx208, p1, p2, p3, p4, reduceIte, p5, p6, p7, p8]) | refine noC_mk _ _ _ _ _ rfl ?_ | refine noC_mkS _ _ _ _ _ rfl ?_)) ?_ | with_reducible refine and_ac ?_ | with_reducible refine And.intro (a := _ = List.range _) (by rfl) ?_)
  refine Mg.know_val2 (b := false) (sz := 3) (es := a0.Edges.map (SizeEdge.pv false)) (x := (.pv ((SizeGraph.pv false) a0))) 0 [2] (by simp -failIfUnchanged only [↓RA, RB, RS, fx208, p1, p2, p3, p4, reduceIte, p5, p6, p7, p8]) fun hl0 => ?_; rw [List.length_map] at hl0
  replace h := run_loop h
  refine Mg.forN h (fun i2 s2 => [(1, .val (.pv (I a1))), (2, .val (.pv (I a2))), (3, .box (.pv ((SizeGraph.pv false) a0))), (7, .val (.pv (I (i2 : Int))))]) (fun i2 s2 => []) (St.le_mk2 (by simp -failIfUnchanged only [↓RA, RB, RS, fx208, p1, p2, p3, p4, reduceIte, p5, p6, p7, p8])) (fun i2 s2 hi h => ?_) (fun s2 h => ?_)
  · have w2 := wrap_succ (i := i2) (by omega)
    simp -failIfUnchanged only [↓RA, RB, RS, fx208, p1, p2, p3, p4, reduceIte, p5, p6, p7, p8]
    refine CondH.tt (decide_eq_true (by omega)) (fun c1 => ?_)
    simp -failIfUnchanged only [↓RA, RB, RS, fx208, p1, p2, p3, p4, reduceIte, p5, p6, p7, p8, c1]
    obtain ⟨v18, hv18, h⟩ := run_bind h
    refine IdxH.mk (f := (SizeEdge.pv false)) hv18 ?_ ?_ <;> simp -failIfUnchanged only [↓RA, RB, RS, fx208, p1, p2, p3, p4, reduceIte, p5, p6, p7, p8, c1]
    refine CondH.mk (fun c2 => ?_) (fun c2 => ?_)
    · replace h := run_t c2 h
      simp -failIfUnchanged only [↓RA, RB, RS, fx208, p1, p2, p3, p4, reduceIte, p5, p6, p7, p8, c1, c2]
      obtain ⟨v27, hv27, h⟩ := run_bind h
      refine IdxH.mk (f := (SizeEdge.pv false)) hv27 ?_ ?_ <;> simp -failIfUnchanged only [↓RA, RB, RS, fx208, p1, p2, p3, p4, reduceIte, p5, p6, p7, p8, c1, c2]
      refine CondH.mk (fun c3 => ?_) (fun c3 => ?_)
      · replace h := run_t c3 h
        simp -failIfUnchanged only [↓RA, RB, RS, fx208, p1, p2, p3, p4, reduceIte, p5, p6, p7, p8, c1, c2, c3]
        obtain ⟨v36, hv36, h⟩ := run_bind h
        refine IdxH.mk (f := (SizeEdge.pv false)) hv36 ?_ ?_ <;> simp -failIfUnchanged only [↓RA, RB, RS, fx208, p1, p2, p3, p4, reduceIte, p5, p6, p7, p8, c1, c2, c3]
        refine CondH.mk (fun c4 => ?_) (fun c4 => ?_)
        · replace h := run_t c4 h
          simp -failIfUnchanged only [↓RA, RB, RS, fx208, p1, p2, p3, p4, reduceIte, p5, p6, p7, p8, c1, c2, c3, c4]
          have h := run_some h
          obtain rfl : _ = r := h
          refine FinH.l ?_
          simp -failIfUnchanged only [↓RA, RB, RS, fx208, p1, p2, p3, p4, reduceIte, p5, p6, p7, p8, c1, c2, c3, c4]
        · replace h := run_f c4 h
          simp -failIfUnchanged only [↓RA, RB, RS, fx208, p1, p2, p3, p4, reduceIte, p5, p6, p7, p8, c1, c2, c3, c4]
          have h := run_some h
          obtain rfl : _ = r := h
          refine FinH.l ?_
          simp -failIfUnchanged only [↓RA, RB, RS, fx208, p1, p2, p3, p4, reduceIte, p5, p6, p7, p8, c1, c2, c3, c4]
      · replace h := run_f c3 h
        simp -failIfUnchanged only [↓RA, RB, RS, fx208, p1, p2, p3, p4, reduceIte, p5, p6, p7, p8, c1, c2, c3]
        have h := run_some h
        refine RdH.mk ⟨_, h, ?_⟩
        refine St.le_mk2 ?_
        simp -failIfUnchanged only [↓RA, RB, RS, fx208, p1, p2, p3, p4, reduceIte, p5, p6, p7, p8, c1, c2, c3, w2]
    · replace h := run_f c2 h
      simp -failIfUnchanged only [↓RA, RB, RS, fx208, p1, p2, p3, p4, reduceIte, p5, p6, p7, p8, c1, c2]
      have h := run_some h
      refine RdH.mk ⟨_, h, ?_⟩
      refine St.le_mk2 ?_
      simp -failIfUnchanged only [↓RA, RB, RS, fx208, p1, p2, p3, p4, reduceIte, p5, p6, p7, p8, c1, c2, w2]
  · simp -failIfUnchanged only [↓RA, RB, RS, fx208, p1, p2, p3, p4, reduceIte, p5, p6, p7, p8]
    refine CondH.ff (decide_eq_false (by omega)) (fun c5 => ?_)
    simp -failIfUnchanged only [↓RA, RB, RS, fx208, p1, p2, p3, p4, reduceIte, p5, p6, p7, p8, c5]
    have h := run_some h
    obtain rfl : _ = r := h
    refine FinH.l ?_
    simp -failIfUnchanged only [↓RA, RB, RS, fx208, p1, p2, p3, p4, reduceIte, p5, p6, p7, p8, c5]

def fx209 := And.intro @ty_3 <| And.intro @zc_3 <| @z_3
set_option maxHeartbeats 4000000 in
theorem spec_l1Most_sat {a0 : Int} {a1 : Int}  {r : Int} (h : spec_l1Most a0 a1 = some r) : Sat Try.prog 209 [(I a0), (I a1)] (I r) := by
  replace h := Run.of h
  unfold spec_l1Most at h
  refine Sat.of_m (nt := 10) (rs := [.tmp 4]) (n := 100000) Try.func209 rfl rfl rfl rfl (by simp) ?_
  simp -failIfUnchanged only [↓RA, RB, RS, fx209, p1, p2, p3, p4, reduceIte, p5, p6, p7, p8]
  refine CondH.mk (fun c1 => ?_) (fun c1 => ?_)
  · replace h := run_t c1 h
    simp -failIfUnchanged only [↓RA, RB, RS, fx209, p1, p2, p3, p4, reduceIte, p5, p6, p7, p8, c1]
    have h := run_some h
    obtain rfl : _ = r := h
    refine FinH.l ?_
    simp -failIfUnchanged only [↓RA, RB, RS, fx209, p1, p2, p3, p4, reduceIte, p5, p6, p7, p8, c1]
  · replace h := run_f c1 h
    simp -failIfUnchanged only [↓RA, RB, RS, fx209, p1, p2, p3, p4, reduceIte, p5, p6, p7, p8, c1]
    have h := run_some h
    obtain rfl : _ = r := h
    refine FinH.l ?_
    simp -failIfUnchanged only [↓RA, RB, RS, fx209, p1, p2, p3, p4, reduceIte, p5, p6, p7, p8, c1]

def fx107 := And.intro @ty_3 <| And.intro @zc_3 <| And.intro @z_3 <| And.intro @ty_46 <| And.intro @zc_46 <| And.intro @z_46 <| And.intro @es_46 <| And.intro @eb_46 <| And.intro @sl_46 <| And.intro @is_46 <| And.intro @el_46 <| And.intro @ze_46 <| And.intro @ez_46 <| And.intro @ty_48 <| And.intro @zc_48 <| And.intro @z_48 <| And.intro @fo_48_0 <| And.intro @fi_48_0 <| And.intro @ft_48_0 <| And.intro @fo_48_1 <| And.intro @fi_48_1 <| And.intro @ft_48_1 <| And.intro @fo_48_2 <| And.intro @fi_48_2 <| And.intro @ft_48_2 <| And.intro @lay_48 <| And.intro @ty_148 <| And.intro @zc_148 <| And.intro @z_148 <| And.intro @fo_148_0 <| And.intro @fi_148_0 <| And.intro @ft_148_0 <| And.intro @fo_148_1 <| And.intro @fi_148_1 <| And.intro @ft_148_1 <| And.intro @fo_148_2 <| And.intro @fi_148_2 <| And.intro @ft_148_2 <| And.intro @lay_148 <| @mixedT
set_option maxHeartbeats 4000000 in
theorem spec_l24Compose_sat {a0 : SizeGraph} {a1 : SizeGraph}  {r : SizeGraph} (h : spec_l24Compose a0 a1 = some r) : Sat Try.prog 107 [((SizeGraph.pv false) a0), ((SizeGraph.pv false) a1)] ((SizeGraph.pv true) r) := by
  replace h := Run.of h
  unfold spec_l24Compose at h
  refine Sat.of_m (nt := 62) (rs := [.cell 4 48]) (n := 100000) Try.func107 rfl rfl rfl rfl (by simp) ?_
  simp -failIfUnchanged only [↓RA, RB, RS, fx107, p1, p2, p3, p4, reduceIte, p5, p6, p7, p8]
  repeat (first | with_reducible refine noR_and (by repeat (first | exact noR_empty _ _ | exact noR_nilS _ _ | refine noR_mk _ _ _ _ _ rfl ?_ | refine noR_mkS _ _ _ _ _ rfl ?_)) ?_ | with_reducible refine noC_and (by repeat (first | exact noC_empty _ _ (by simp -failIfUnchanged only [↓RA, RB, RS, fx107, p1, p2, p3, p4, reduceIte, p5, p6, p7, p8]) | exact noC_nilS _ _ (by simp -failIfUnchanged only [↓RA, RB, RS, fx107, p1, p2, p3, p4, reduceIte, p5, p6, p7, p8]) | refine noC_mk _ _ _ _ _ rfl ?_ | refine noC_mkS _ _ _ _ _ rfl ?_)) ?_ | with_reducible refine and_ac ?_ | with_reducible refine And.intro (a := _ = List.range _) (by rfl) ?_)
  replace h := run_loop h
  refine Mg.forN h (fun i3 s3 => [(2, .box (.pv ((SizeGraph.pv false) a0))), (3, .box (.pv ((SizeGraph.pv false) a1))), (4, .box (.node [(.pv (I (0 : Int))), (.pv (I (0 : Int))), (.pv (.sl true 3 []))])), (5, .box (.node [(.pv (I a0.Source)), (.pv (I a1.Target)), (.own 256)])), (6, .val (.pv (I (i3 : Int))))]) (fun i3 s3 => [(256, (3, s3.map (SizeEdge.pv false)))]) (St.le_mk2 (by simp -failIfUnchanged only [↓RA, RB, RS, fx107, p1, p2, p3, p4, reduceIte, p5, p6, p7, p8])) (fun i3 s3 hi h => ?_) (fun s3 h => ?_)
  · have w3 := wrap_succ (i := i3) (by omega)
    simp -failIfUnchanged only [↓RA, RB, RS, fx107, p1, p2, p3, p4, reduceIte, p5, p6, p7, p8]
    refine CondH.tt (decide_eq_true (by omega)) (fun c1 => ?_)
    simp -failIfUnchanged only [↓RA, RB, RS, fx107, p1, p2, p3, p4, reduceIte, p5, p6, p7, p8, c1]
    replace h := run_loop h
    refine Mg.forN h (fun i6 s6 => [(2, .box (.pv ((SizeGraph.pv false) a0))), (3, .box (.pv ((SizeGraph.pv false) a1))), (4, .box (.node [(.pv (I (0 : Int))), (.pv (I (0 : Int))), (.pv (.sl true 3 []))])), (5, .box (.node [(.pv (I a0.Source)), (.pv (I a1.Target)), (.own 256)])), (6, .val (.pv (I (i3 : Int)))), (7, .val (.pv (I (i6 : Int))))]) (fun i6 s6 => [(256, (3, s6.map (SizeEdge.pv false)))]) (St.le_mk2 (by simp -failIfUnchanged only [↓RA, RB, RS, fx107, p1, p2, p3, p4, reduceIte, p5, p6, p7, p8, c1])) (fun i6 s6 hi h => ?_) (fun s6 h => ?_)
    · have w6 := wrap_succ (i := i6) (by omega)
      simp -failIfUnchanged only [↓RA, RB, RS, fx107, p1, p2, p3, p4, reduceIte, p5, p6, p7, p8, c1]
      refine CondH.tt (decide_eq_true (by omega)) (fun c2 => ?_)
      simp -failIfUnchanged only [↓RA, RB, RS, fx107, p1, p2, p3, p4, reduceIte, p5, p6, p7, p8, c1, c2]
      replace h := run_loop h
      refine Mg.forN h (fun i10 s10 => [(2, .box (.pv ((SizeGraph.pv false) a0))), (3, .box (.pv ((SizeGraph.pv false) a1))), (4, .box (.node [(.pv (I (0 : Int))), (.pv (I (0 : Int))), (.pv (.sl true 3 []))])), (5, .box (.node [(.pv (I a0.Source)), (.pv (I a1.Target)), (.own 256)])), (6, .val (.pv (I (i3 : Int)))), (7, .val (.pv (I (i6 : Int)))), (8, .val (.pv (I s10))), (9, .val (.pv (I (i10 : Int))))]) (fun i10 s10 => [(256, (3, s6.map (SizeEdge.pv false)))]) (St.le_mk2 (by simp -failIfUnchanged only [↓RA, RB, RS, fx107, p1, p2, p3, p4, reduceIte, p5, p6, p7, p8, c1, c2])) (fun i10 s10 hi h => ?_) (fun s10 h => ?_)
      · have w10 := wrap_succ (i := i10) (by omega)
        simp -failIfUnchanged only [↓RA, RB, RS, fx107, p1, p2, p3, p4, reduceIte, p5, p6, p7, p8, c1, c2]
        refine CondH.tt (decide_eq_true (by omega)) (fun c3 => ?_)
        simp -failIfUnchanged only [↓RA, RB, RS, fx107, p1, p2, p3, p4, reduceIte, p5, p6, p7, p8, c1, c2, c3]
        obtain ⟨v33, hv33, h⟩ := run_bind h
        refine CallH.mk [false, false, false] (spec_l24Level_sat hv33) ?_ ?_ <;> simp -failIfUnchanged only [↓RA, RB, RS, fx107, p1, p2, p3, p4, reduceIte, p5, p6, p7, p8, c1, c2, c3]
        obtain ⟨v37, hv37, h⟩ := run_bind h
        refine CallH.mk [false, false, false] (spec_l24Level_sat hv37) ?_ ?_ <;> simp -failIfUnchanged only [↓RA, RB, RS, fx107, p1, p2, p3, p4, reduceIte, p5, p6, p7, p8, c1, c2, c3]
        refine And.intro (DrawH.none (by rfl) (by first | rfl | (simp -failIfUnchanged only [↓RA, RB, RS, fx107, p1, p2, p3, p4, reduceIte, p5, p6, p7, p8] <;> rfl)) (by first | rfl | (simp -failIfUnchanged only [↓RA, RB, RS, fx107, p1, p2, p3, p4, reduceIte, p5, p6, p7, p8] <;> rfl)) (by first | rfl | (simp -failIfUnchanged only [↓RA, RB, RS, fx107, p1, p2, p3, p4, reduceIte, p5, p6, p7, p8] <;> rfl))) ?_
        simp -failIfUnchanged only [↓RA, RB, RS, fx107, p1, p2, p3, p4, reduceIte, p5, p6, p7, p8, c1, c2, c3]
        refine CondH.mk (fun c4 => ?_) (fun c4 => ?_)
        · replace h := run_t c4 h
          simp -failIfUnchanged only [↓RA, RB, RS, fx107, p1, p2, p3, p4, reduceIte, p5, p6, p7, p8, c1, c2, c3, c4]
          refine CondH.mk (fun c5 => ?_) (fun c5 => ?_)
          · replace h := run_t c5 h
            simp -failIfUnchanged only [↓RA, RB, RS, fx107, p1, p2, p3, p4, reduceIte, p5, p6, p7, p8, c1, c2, c3, c4, c5]
            obtain ⟨v47, hv47, h⟩ := run_bind h
            refine CallH.mk [false, false] (spec_l1Most_sat hv47) ?_ ?_ <;> simp -failIfUnchanged only [↓RA, RB, RS, fx107, p1, p2, p3, p4, reduceIte, p5, p6, p7, p8, c1, c2, c3, c4, c5]
            obtain ⟨v48, hv48, h⟩ := run_bind h
            refine CallH.mk [false, false] (spec_l1Most_sat hv48) ?_ ?_ <;> simp -failIfUnchanged only [↓RA, RB, RS, fx107, p1, p2, p3, p4, reduceIte, p5, p6, p7, p8, c1, c2, c3, c4, c5]
            have h := run_some h
            refine RdH.mk ⟨_, h, ?_⟩
            refine St.le_mk2 ?_
            simp -failIfUnchanged only [↓RA, RB, RS, fx107, p1, p2, p3, p4, reduceIte, p5, p6, p7, p8, c1, c2, c3, c4, c5, w10]
          · replace h := run_f c5 h
            simp -failIfUnchanged only [↓RA, RB, RS, fx107, p1, p2, p3, p4, reduceIte, p5, p6, p7, p8, c1, c2, c3, c4, c5]
            have h := run_some h
            refine RdH.mk ⟨_, h, ?_⟩
            refine St.le_mk2 ?_
            simp -failIfUnchanged only [↓RA, RB, RS, fx107, p1, p2, p3, p4, reduceIte, p5, p6, p7, p8, c1, c2, c3, c4, c5, w10]
        · replace h := run_f c4 h
          simp -failIfUnchanged only [↓RA, RB, RS, fx107, p1, p2, p3, p4, reduceIte, p5, p6, p7, p8, c1, c2, c3, c4]
          have h := run_some h
          refine RdH.mk ⟨_, h, ?_⟩
          refine St.le_mk2 ?_
          simp -failIfUnchanged only [↓RA, RB, RS, fx107, p1, p2, p3, p4, reduceIte, p5, p6, p7, p8, c1, c2, c3, c4, w10]
      · simp -failIfUnchanged only [↓RA, RB, RS, fx107, p1, p2, p3, p4, reduceIte, p5, p6, p7, p8, c1, c2]
        refine CondH.ff (decide_eq_false (by omega)) (fun c6 => ?_)
        simp -failIfUnchanged only [↓RA, RB, RS, fx107, p1, p2, p3, p4, reduceIte, p5, p6, p7, p8, c1, c2, c6]
        refine CondH.mk (fun c7 => ?_) (fun c7 => ?_)
        · replace h := run_t c7 h
          simp -failIfUnchanged only [↓RA, RB, RS, fx107, p1, p2, p3, p4, reduceIte, p5, p6, p7, p8, c1, c2, c6, c7]
          repeat (first | with_reducible refine noR_and (by repeat (first | exact noR_empty _ _ | exact noR_nilS _ _ | refine noR_mk _ _ _ _ _ rfl ?_ | refine noR_mkS _ _ _ _ _ rfl ?_)) ?_ | with_reducible refine noC_and (by repeat (first | exact noC_empty _ _ (by simp -failIfUnchanged only [↓RA, RB, RS, fx107, p1, p2, p3, p4, reduceIte, p5, p6, p7, p8]) | exact noC_nilS _ _ (by simp -failIfUnchanged only [↓RA, RB, RS, fx107, p1, p2, p3, p4, reduceIte, p5, p6, p7, p8]) | refine noC_mk _ _ _ _ _ rfl ?_ | refine noC_mkS _ _ _ _ _ rfl ?_)) ?_ | with_reducible refine and_ac ?_ | with_reducible refine And.intro (a := _ = List.range _) (by rfl) ?_)
          obtain ⟨v59, hv59, h⟩ := run_bind h
          refine AppH.mk (f := (SizeEdge.pv false)) (fun a => SizeEdge.psize _ a) hv59 ?_ ?_ ?_ <;> simp -failIfUnchanged only [↓RA, RB, RS, fx107, p1, p2, p3, p4, reduceIte, p5, p6, p7, p8, c1, c2, c6, c7]
          repeat (first | with_reducible refine noR_and (by repeat (first | exact noR_empty _ _ | exact noR_nilS _ _ | refine noR_mk _ _ _ _ _ rfl ?_ | refine noR_mkS _ _ _ _ _ rfl ?_)) ?_ | with_reducible refine noC_and (by repeat (first | exact noC_empty _ _ (by simp -failIfUnchanged only [↓RA, RB, RS, fx107, p1, p2, p3, p4, reduceIte, p5, p6, p7, p8]) | exact noC_nilS _ _ (by simp -failIfUnchanged only [↓RA, RB, RS, fx107, p1, p2, p3, p4, reduceIte, p5, p6, p7, p8]) | refine noC_mk _ _ _ _ _ rfl ?_ | refine noC_mkS _ _ _ _ _ rfl ?_)) ?_ | with_reducible refine and_ac ?_ | with_reducible refine And.intro (a := _ = List.range _) (by rfl) ?_)
          have h := run_some h
          refine RdH.mk ⟨_, h, ?_⟩
          refine St.le_trans (St.le_mk (S := [(2, .box (.pv ((SizeGraph.pv false) a0))), (3, .box (.pv ((SizeGraph.pv false) a1))), (4, .box (.node [(.pv (I (0 : Int))), (.pv (I (0 : Int))), (.pv (.sl true 3 []))])), (5, .box (.node [(.pv (I a0.Source)), (.pv (I a1.Target)), (.own 944)])), (6, .val (.pv (I (i3 : Int)))), (7, .val (.pv (I (IntKind.i64.wrap ((i6 : Int) + (1 : Int))))))]) (O := [(944, (3, v59.map (SizeEdge.pv false)))]) (by simp -failIfUnchanged only [↓RA, RB, RS, fx107, p1, p2, p3, p4, reduceIte, p5, p6, p7, p8, c1, c2, c6, c7, w6]) (by simp -failIfUnchanged only [↓RA, RB, RS, fx107, p1, p2, p3, p4, reduceIte, p5, p6, p7, p8, c1, c2, c6, c7, w6])) ?_
          refine St.le_rn 944 256 (by decide) (by repeat (first | exact noC_empty _ _ (by simp -failIfUnchanged only [↓RA, RB, RS, fx107, p1, p2, p3, p4, reduceIte, p5, p6, p7, p8]) | exact noC_nilS _ _ (by simp -failIfUnchanged only [↓RA, RB, RS, fx107, p1, p2, p3, p4, reduceIte, p5, p6, p7, p8]) | refine noC_mk _ _ _ _ _ rfl ?_ | refine noC_mkS _ _ _ _ _ rfl ?_)) ?_
          refine St.le_mk2 ?_
          simp -failIfUnchanged only [↓RA, RB, RS, fx107, p1, p2, p3, p4, reduceIte, p5, p6, p7, p8, c1, c2, c6, c7, w6]
        · replace h := run_f c7 h
          simp -failIfUnchanged only [↓RA, RB, RS, fx107, p1, p2, p3, p4, reduceIte, p5, p6, p7, p8, c1, c2, c6, c7]
          have h := run_some h
          refine RdH.mk ⟨_, h, ?_⟩
          refine St.le_mk2 ?_
          simp -failIfUnchanged only [↓RA, RB, RS, fx107, p1, p2, p3, p4, reduceIte, p5, p6, p7, p8, c1, c2, c6, c7, w6]
    · simp -failIfUnchanged only [↓RA, RB, RS, fx107, p1, p2, p3, p4, reduceIte, p5, p6, p7, p8, c1]
      refine CondH.ff (decide_eq_false (by omega)) (fun c8 => ?_)
      simp -failIfUnchanged only [↓RA, RB, RS, fx107, p1, p2, p3, p4, reduceIte, p5, p6, p7, p8, c1, c8]
      have h := run_some h
      refine RdH.mk ⟨_, h, ?_⟩
      refine St.le_mk2 ?_
      simp -failIfUnchanged only [↓RA, RB, RS, fx107, p1, p2, p3, p4, reduceIte, p5, p6, p7, p8, c1, c8, w3]
  · simp -failIfUnchanged only [↓RA, RB, RS, fx107, p1, p2, p3, p4, reduceIte, p5, p6, p7, p8]
    refine CondH.ff (decide_eq_false (by omega)) (fun c9 => ?_)
    simp -failIfUnchanged only [↓RA, RB, RS, fx107, p1, p2, p3, p4, reduceIte, p5, p6, p7, p8, c9]
    have h := run_some h
    obtain rfl : _ = r := h
    refine FinH.l ?_
    simp -failIfUnchanged only [↓RA, RB, RS, fx107, p1, p2, p3, p4, reduceIte, p5, p6, p7, p8, c9]

def fx52 := And.intro @ty_3 <| And.intro @zc_3 <| And.intro @z_3 <| And.intro @ty_4 <| And.intro @zc_4 <| And.intro @z_4 <| And.intro @u_4 <| And.intro @ty_48 <| And.intro @zc_48 <| And.intro @z_48 <| And.intro @fo_48_0 <| And.intro @fi_48_0 <| And.intro @ft_48_0 <| And.intro @fo_48_1 <| And.intro @fi_48_1 <| And.intro @ft_48_1 <| And.intro @fo_48_2 <| And.intro @fi_48_2 <| And.intro @ft_48_2 <| And.intro @lay_48 <| And.intro @ty_55 <| And.intro @zc_55 <| And.intro @z_55 <| And.intro @es_55 <| And.intro @eb_55 <| And.intro @sl_55 <| And.intro @is_55 <| And.intro @el_55 <| And.intro @ze_55 <| And.intro @ez_55 <| And.intro @ty_56 <| And.intro @zc_56 <| And.intro @z_56 <| And.intro @es_56 <| And.intro @eb_56 <| And.intro @sl_56 <| And.intro @is_56 <| And.intro @el_56 <| And.intro @ze_56 <| And.intro @ez_56 <| And.intro @ty_58 <| And.intro @zc_58 <| And.intro @z_58 <| And.intro @fo_58_0 <| And.intro @fi_58_0 <| And.intro @ft_58_0 <| And.intro @fo_58_1 <| And.intro @fi_58_1 <| And.intro @ft_58_1 <| And.intro @lay_58 <| @mixedT
set_option maxHeartbeats 4000000 in
theorem spec_PathGraph_sat {a0 : CyclicProof} {a1 : List Int}  {r : SizeGraph × Bool} (h : spec_PathGraph a0 a1 = some r) : Sat Try.prog 52 [((CyclicProof.pv false) a0), (.sl false 1 (a1.map I))] (.tup [((SizeGraph.pv true) r.1), (B r.2)]) := by
  replace h := Run.of h
  unfold spec_PathGraph at h
  refine Sat.of_m (nt := 48) (rs := [.cell 4 48, .tmp 5]) (n := 100000) Try.func52 rfl rfl rfl rfl (by simp) ?_
  simp -failIfUnchanged only [↓RA, RB, RS, fx52, p1, p2, p3, p4, reduceIte, p5, p6, p7, p8]
  repeat (first | with_reducible refine noR_and (by repeat (first | exact noR_empty _ _ | exact noR_nilS _ _ | refine noR_mk _ _ _ _ _ rfl ?_ | refine noR_mkS _ _ _ _ _ rfl ?_)) ?_ | with_reducible refine noC_and (by repeat (first | exact noC_empty _ _ (by simp -failIfUnchanged only [↓RA, RB, RS, fx52, p1, p2, p3, p4, reduceIte, p5, p6, p7, p8]) | exact noC_nilS _ _ (by simp -failIfUnchanged only [↓RA, RB, RS, fx52, p1, p2, p3, p4, reduceIte, p5, p6, p7, p8]) | refine noC_mk _ _ _ _ _ rfl ?_ | refine noC_mkS _ _ _ _ _ rfl ?_)) ?_ | with_reducible refine and_ac ?_ | with_reducible refine And.intro (a := _ = List.range _) (by rfl) ?_)
  obtain ⟨v9, hv9, h⟩ := run_bind h
  refine CallH.mk [false] (spec_l24Good_sat hv9) ?_ ?_ <;> simp -failIfUnchanged only [↓RA, RB, RS, fx52, p1, p2, p3, p4, reduceIte, p5, p6, p7, p8]
  refine CondH.mk (fun c1 => ?_) (fun c1 => ?_)
  · replace h := run_t c1 h
    simp -failIfUnchanged only [↓RA, RB, RS, fx52, p1, p2, p3, p4, reduceIte, p5, p6, p7, p8, c1]
    refine CondH.mk (fun c2 => ?_) (fun c2 => ?_)
    · replace h := run_t c2 h
      simp -failIfUnchanged only [↓RA, RB, RS, fx52, p1, p2, p3, p4, reduceIte, p5, p6, p7, p8, c1, c2]
      have h := run_some h
      obtain rfl : _ = r := h
      refine FinH.l ?_
      simp -failIfUnchanged only [↓RA, RB, RS, fx52, p1, p2, p3, p4, reduceIte, p5, p6, p7, p8, c1, c2]
    · replace h := run_f c2 h
      simp -failIfUnchanged only [↓RA, RB, RS, fx52, p1, p2, p3, p4, reduceIte, p5, p6, p7, p8, c1, c2]
      obtain ⟨v19, hv19, h⟩ := run_bind h
      refine CallH.mk [false, false] (spec_l24Path_sat hv19) ?_ ?_ <;> simp -failIfUnchanged only [↓RA, RB, RS, fx52, p1, p2, p3, p4, reduceIte, p5, p6, p7, p8, c1, c2]
      refine CondH.mk (fun c3 => ?_) (fun c3 => ?_)
      · replace h := run_t c3 h
        simp -failIfUnchanged only [↓RA, RB, RS, fx52, p1, p2, p3, p4, reduceIte, p5, p6, p7, p8, c1, c2, c3]
        obtain ⟨v26, hv26, h⟩ := run_bind h
        refine IdxH.mk (f := I) hv26 ?_ ?_ <;> simp -failIfUnchanged only [↓RA, RB, RS, fx52, p1, p2, p3, p4, reduceIte, p5, p6, p7, p8, c1, c2, c3]
        obtain ⟨v28, hv28, h⟩ := run_bind h
        refine IdxH.mk (f := (SizeGraph.pv false)) hv28 ?_ ?_ <;> simp -failIfUnchanged only [↓RA, RB, RS, fx52, p1, p2, p3, p4, reduceIte, p5, p6, p7, p8, c1, c2, c3]
        obtain ⟨v30, hv30, h⟩ := run_bind h
        refine CallH.mk [false] (spec_l24Own_sat hv30) ?_ ?_ <;> simp -failIfUnchanged only [↓RA, RB, RS, fx52, p1, p2, p3, p4, reduceIte, p5, p6, p7, p8, c1, c2, c3]
        repeat (first | with_reducible refine noR_and (by repeat (first | exact noR_empty _ _ | exact noR_nilS _ _ | refine noR_mk _ _ _ _ _ rfl ?_ | refine noR_mkS _ _ _ _ _ rfl ?_)) ?_ | with_reducible refine noC_and (by repeat (first | exact noC_empty _ _ (by simp -failIfUnchanged only [↓RA, RB, RS, fx52, p1, p2, p3, p4, reduceIte, p5, p6, p7, p8]) | exact noC_nilS _ _ (by simp -failIfUnchanged only [↓RA, RB, RS, fx52, p1, p2, p3, p4, reduceIte, p5, p6, p7, p8]) | refine noC_mk _ _ _ _ _ rfl ?_ | refine noC_mkS _ _ _ _ _ rfl ?_)) ?_ | with_reducible refine and_ac ?_ | with_reducible refine And.intro (a := _ = List.range _) (by rfl) ?_)
        refine And.intro (DrawH.mk [6] [480] (by rfl) (by first | rfl | (simp -failIfUnchanged only [↓RA, RB, RS, fx52, p1, p2, p3, p4, reduceIte, p5, p6, p7, p8] <;> rfl)) (by first | rfl | (simp -failIfUnchanged only [↓RA, RB, RS, fx52, p1, p2, p3, p4, reduceIte, p5, p6, p7, p8] <;> rfl)) (by first | rfl | (simp -failIfUnchanged only [↓RA, RB, RS, fx52, p1, p2, p3, p4, reduceIte, p5, p6, p7, p8] <;> rfl)) (by simp -failIfUnchanged only [↓RA, RB, RS, fx52, p1, p2, p3, p4, reduceIte, p5, p6, p7, p8]; (try refine ⟨?_, ?_⟩) <;> repeat (first | exact noR_empty _ _ | exact noR_nilS _ _ | refine noR_mk _ _ _ _ _ rfl ?_ | refine noR_mkS _ _ _ _ _ rfl ?_)) (by simp -failIfUnchanged only [↓RA, RB, RS, fx52, p1, p2, p3, p4, reduceIte, p5, p6, p7, p8]; repeat (first | exact noC_empty _ _ (by simp -failIfUnchanged only [↓RA, RB, RS, fx52, p1, p2, p3, p4, reduceIte, p5, p6, p7, p8]) | exact noC_nilS _ _ (by simp -failIfUnchanged only [↓RA, RB, RS, fx52, p1, p2, p3, p4, reduceIte, p5, p6, p7, p8]) | refine noC_mk _ _ _ _ _ rfl ?_ | refine noC_mkS _ _ _ _ _ rfl ?_ | refine And.intro ?_ ?_))) ?_
        simp -failIfUnchanged only [↓RA, RB, RS, fx52, p1, p2, p3, p4, reduceIte, p5, p6, p7, p8, c1, c2, c3]
        refine Mg.know_sl (b := false) (sz := 1) (es := a1.map I) 1 (by simp -failIfUnchanged only [↓RA, RB, RS, fx52, p1, p2, p3, p4, reduceIte, p5, p6, p7, p8, c1, c2, c3]) fun hl1 => ?_; rw [List.length_map] at hl1
        replace h := run_loop h
        refine Mg.forA (N := a1.length) (a := 1) h (fun i5 s5 => [(1, .val (.pv (.sl false 1 (a1.map I)))), (2, .box (.pv ((CyclicProof.pv false) a0))), (4, .box (.node [(.pv (I (0 : Int))), (.pv (I (0 : Int))), (.pv (.sl true 3 []))])), (6, .box (.node [(.pv (I s5.1)), (.pv (I s5.2.1)), (.own 480)])), (7, .val (.pv (I (i5 : Int))))]) (fun i5 s5 => [(480, (3, s5.2.2.map (SizeEdge.pv false)))]) (St.le_mk2 (by simp -failIfUnchanged only [↓RA, RB, RS, fx52, p1, p2, p3, p4, reduceIte, p5, p6, p7, p8, c1, c2, c3])) (fun i5 s5 hi hj h => ?_) (fun j5 s5 hj h => ?_)
        · have w5 := wrap_succ (i := i5) (by omega)
          simp -failIfUnchanged only [↓RA, RB, RS, fx52, p1, p2, p3, p4, reduceIte, p5, p6, p7, p8, c1, c2, c3]
          refine CondH.tt (decide_eq_true (by omega)) (fun c4 => ?_)
          simp -failIfUnchanged only [↓RA, RB, RS, fx52, p1, p2, p3, p4, reduceIte, p5, p6, p7, p8, c1, c2, c3, c4]
          obtain ⟨v42, hv42, h⟩ := run_bind h
          refine IdxH.mk (f := I) hv42 ?_ ?_ <;> simp -failIfUnchanged only [↓RA, RB, RS, fx52, p1, p2, p3, p4, reduceIte, p5, p6, p7, p8, c1, c2, c3, c4]
          obtain ⟨v44, hv44, h⟩ := run_bind h
          refine IdxH.mk (f := (SizeGraph.pv false)) hv44 ?_ ?_ <;> simp -failIfUnchanged only [↓RA, RB, RS, fx52, p1, p2, p3, p4, reduceIte, p5, p6, p7, p8, c1, c2, c3, c4]
          obtain ⟨v46, hv46, h⟩ := run_bind h
          refine CallH.mk [false, false] (spec_l24Compose_sat hv46) ?_ ?_ <;> simp -failIfUnchanged only [↓RA, RB, RS, fx52, p1, p2, p3, p4, reduceIte, p5, p6, p7, p8, c1, c2, c3, c4]
          repeat (first | with_reducible refine noR_and (by repeat (first | exact noR_empty _ _ | exact noR_nilS _ _ | refine noR_mk _ _ _ _ _ rfl ?_ | refine noR_mkS _ _ _ _ _ rfl ?_)) ?_ | with_reducible refine noC_and (by repeat (first | exact noC_empty _ _ (by simp -failIfUnchanged only [↓RA, RB, RS, fx52, p1, p2, p3, p4, reduceIte, p5, p6, p7, p8]) | exact noC_nilS _ _ (by simp -failIfUnchanged only [↓RA, RB, RS, fx52, p1, p2, p3, p4, reduceIte, p5, p6, p7, p8]) | refine noC_mk _ _ _ _ _ rfl ?_ | refine noC_mkS _ _ _ _ _ rfl ?_)) ?_ | with_reducible refine and_ac ?_ | with_reducible refine And.intro (a := _ = List.range _) (by rfl) ?_)
          refine And.intro (DrawH.mk [] [736] (by rfl) (by first | rfl | (simp -failIfUnchanged only [↓RA, RB, RS, fx52, p1, p2, p3, p4, reduceIte, p5, p6, p7, p8] <;> rfl)) (by first | rfl | (simp -failIfUnchanged only [↓RA, RB, RS, fx52, p1, p2, p3, p4, reduceIte, p5, p6, p7, p8] <;> rfl)) (by first | rfl | (simp -failIfUnchanged only [↓RA, RB, RS, fx52, p1, p2, p3, p4, reduceIte, p5, p6, p7, p8] <;> rfl)) (by simp) (by simp -failIfUnchanged only [↓RA, RB, RS, fx52, p1, p2, p3, p4, reduceIte, p5, p6, p7, p8]; repeat (first | exact noC_empty _ _ (by simp -failIfUnchanged only [↓RA, RB, RS, fx52, p1, p2, p3, p4, reduceIte, p5, p6, p7, p8]) | exact noC_nilS _ _ (by simp -failIfUnchanged only [↓RA, RB, RS, fx52, p1, p2, p3, p4, reduceIte, p5, p6, p7, p8]) | refine noC_mk _ _ _ _ _ rfl ?_ | refine noC_mkS _ _ _ _ _ rfl ?_ | refine And.intro ?_ ?_))) ?_
          simp -failIfUnchanged only [↓RA, RB, RS, fx52, p1, p2, p3, p4, reduceIte, p5, p6, p7, p8, c1, c2, c3, c4]
          have h := run_some h
          refine RdH.mk ⟨_, h, ?_⟩
          refine St.le_trans (St.le_mk (S := [(1, .val (.pv (.sl false 1 (a1.map I)))), (2, .box (.pv ((CyclicProof.pv false) a0))), (4, .box (.node [(.pv (I (0 : Int))), (.pv (I (0 : Int))), (.pv (.sl true 3 []))])), (6, .box (.node [(.pv (I v46.Source)), (.pv (I v46.Target)), (.own 736)])), (7, .val (.pv (I (IntKind.i64.wrap ((i5 : Int) + (1 : Int))))))]) (O := [(736, (3, v46.Edges.map (SizeEdge.pv false)))]) (by simp -failIfUnchanged only [↓RA, RB, RS, fx52, p1, p2, p3, p4, reduceIte, p5, p6, p7, p8, c1, c2, c3, c4, w5]) (by simp -failIfUnchanged only [↓RA, RB, RS, fx52, p1, p2, p3, p4, reduceIte, p5, p6, p7, p8, c1, c2, c3, c4, w5])) ?_
          refine St.le_rn 736 480 (by decide) (by repeat (first | exact noC_empty _ _ (by simp -failIfUnchanged only [↓RA, RB, RS, fx52, p1, p2, p3, p4, reduceIte, p5, p6, p7, p8]) | exact noC_nilS _ _ (by simp -failIfUnchanged only [↓RA, RB, RS, fx52, p1, p2, p3, p4, reduceIte, p5, p6, p7, p8]) | refine noC_mk _ _ _ _ _ rfl ?_ | refine noC_mkS _ _ _ _ _ rfl ?_)) ?_
          refine St.le_mk2 ?_
          simp -failIfUnchanged only [↓RA, RB, RS, fx52, p1, p2, p3, p4, reduceIte, p5, p6, p7, p8, c1, c2, c3, c4, w5]
        · simp -failIfUnchanged only [↓RA, RB, RS, fx52, p1, p2, p3, p4, reduceIte, p5, p6, p7, p8, c1, c2, c3]
          refine CondH.ff (decide_eq_false (by omega)) (fun c5 => ?_)
          simp -failIfUnchanged only [↓RA, RB, RS, fx52, p1, p2, p3, p4, reduceIte, p5, p6, p7, p8, c1, c2, c3, c5]
          have h := run_some h
          obtain rfl : _ = r := h
          refine FinH.l ?_
          simp -failIfUnchanged only [↓RA, RB, RS, fx52, p1, p2, p3, p4, reduceIte, p5, p6, p7, p8, c1, c2, c3, c5]
      · replace h := run_f c3 h
        simp -failIfUnchanged only [↓RA, RB, RS, fx52, p1, p2, p3, p4, reduceIte, p5, p6, p7, p8, c1, c2, c3]
        have h := run_some h
        obtain rfl : _ = r := h
        refine FinH.l ?_
        simp -failIfUnchanged only [↓RA, RB, RS, fx52, p1, p2, p3, p4, reduceIte, p5, p6, p7, p8, c1, c2, c3]
  · replace h := run_f c1 h
    simp -failIfUnchanged only [↓RA, RB, RS, fx52, p1, p2, p3, p4, reduceIte, p5, p6, p7, p8, c1]
    have h := run_some h
    obtain rfl : _ = r := h
    refine FinH.l ?_
    simp -failIfUnchanged only [↓RA, RB, RS, fx52, p1, p2, p3, p4, reduceIte, p5, p6, p7, p8, c1]

def fx98 := And.intro @ty_3 <| And.intro @zc_3 <| @z_3
set_option maxHeartbeats 4000000 in
theorem impl_within_sat {a0 : Int} {a1 : Int} {a2 : Int}  {r : Bool} (h : impl_within a0 a1 a2 = some r) : Sat Try.prog 98 [(I a0), (I a1), (I a2)] (B r) := by
  replace h := Run.of h
  unfold impl_within at h
  refine Sat.of_m (nt := 15) (rs := [.tmp 6]) (n := 100000) Try.func98 rfl rfl rfl rfl (by simp) ?_
  simp -failIfUnchanged only [↓RA, RB, RS, fx98, p1, p2, p3, p4, reduceIte, p5, p6, p7, p8]
  refine CondH.mk (fun c1 => ?_) (fun c1 => ?_)
  · replace h := run_t c1 h
    simp -failIfUnchanged only [↓RA, RB, RS, fx98, p1, p2, p3, p4, reduceIte, p5, p6, p7, p8, c1]
    have h := run_some h
    obtain rfl : _ = r := h
    refine FinH.l ?_
    simp -failIfUnchanged only [↓RA, RB, RS, fx98, p1, p2, p3, p4, reduceIte, p5, p6, p7, p8, c1]
  · replace h := run_f c1 h
    simp -failIfUnchanged only [↓RA, RB, RS, fx98, p1, p2, p3, p4, reduceIte, p5, p6, p7, p8, c1]
    have h := run_some h
    obtain rfl : _ = r := h
    refine FinH.l ?_
    simp -failIfUnchanged only [↓RA, RB, RS, fx98, p1, p2, p3, p4, reduceIte, p5, p6, p7, p8, c1]

def fx211 := And.intro @ty_3 <| And.intro @zc_3 <| And.intro @z_3 <| And.intro @ty_4 <| And.intro @zc_4 <| And.intro @z_4 <| @u_4
set_option maxHeartbeats 4000000 in
theorem impl_IsValidCyclic_1_sat {a0 : Int}  {r : Bool} (h : impl_IsValidCyclic_1 a0 = some r) : Sat Try.prog 211 [(I a0)] (B r) := by
  replace h := Run.of h
  unfold impl_IsValidCyclic_1 at h
  refine Sat.of_m (nt := 6) (rs := [.tmp 2]) (n := 100000) Try.func211 rfl rfl rfl rfl (by simp) ?_
  simp -failIfUnchanged only [↓RA, RB, RS, fx211, p1, p2, p3, p4, reduceIte, p5, p6, p7, p8]
  obtain ⟨v4, hv4, h⟩ := run_bind h
  refine CallH.mk [false, false, false] (impl_within_sat hv4) ?_ ?_ <;> simp -failIfUnchanged only [↓RA, RB, RS, fx211, p1, p2, p3, p4, reduceIte, p5, p6, p7, p8]
  have h := run_some h
  obtain rfl : _ = r := h
  refine FinH.l ?_
  simp -failIfUnchanged only [↓RA, RB, RS, fx211, p1, p2, p3, p4, reduceIte, p5, p6, p7, p8]

def fx230 := And.intro @ty_3 <| And.intro @zc_3 <| And.intro @z_3 <| And.intro @ty_55 <| And.intro @zc_55 <| And.intro @z_55 <| And.intro @es_55 <| And.intro @eb_55 <| And.intro @sl_55 <| And.intro @is_55 <| And.intro @el_55 <| And.intro @ze_55 <| @ez_55
set_option maxHeartbeats 4000000 in
theorem slices_IndexFunc_Sint_int_sat {a0 : List Int} {a1 : Int → Option Bool} {a1_id : FuncId} {a1_cs : List PV} (a1_ok : ∀ y0 r, a1 y0 = some r → Sat Try.prog a1_id ((I y0) :: a1_cs) (B r)) (a1_cz : CapsOk a1_cs = True) {r : Int} (h : slices_IndexFunc_Sint_int a0 a1 = some r) : Sat Try.prog 230 [(.sl false 1 (a0.map I)), .clo a1_id a1_cs] (I r) := by
  replace h := Run.of h
  unfold slices_IndexFunc_Sint_int at h
  refine Sat.of_m (nt := 19) (rs := [.tmp 4]) (n := 100000) Try.func230 rfl rfl rfl rfl (by simp) ?_
  simp -failIfUnchanged only [↓RA, RB, RS, fx230, a1_cz, p1, p2, p3, p4, reduceIte, p5, p6, p7, p8]
  refine Mg.know_sl (b := false) (sz := 1) (es := a0.map I) 0 (by simp -failIfUnchanged only [↓RA, RB, RS, fx230, a1_cz, p1, p2, p3, p4, reduceIte, p5, p6, p7, p8]) fun hl0 => ?_; rw [List.length_map] at hl0
  replace h := run_loop h
  refine Mg.forN h (fun i2 s2 => [(0, .val (.pv (.sl false 1 (a0.map I)))), (1, .val (.pv (.clo a1_id a1_cs))), (7, .val (.pv (I (a0.length : Int)))), (8, .val (.pv (I (i2 : Int))))]) (fun i2 s2 => []) (St.le_mk2 (by simp -failIfUnchanged only [↓RA, RB, RS, fx230, a1_cz, p1, p2, p3, p4, reduceIte, p5, p6, p7, p8])) (fun i2 s2 hi h => ?_) (fun s2 h => ?_)
  · have w2 := wrap_succ (i := i2) (by omega)
    simp -failIfUnchanged only [↓RA, RB, RS, fx230, a1_cz, p1, p2, p3, p4, reduceIte, p5, p6, p7, p8]
    refine CondH.tt (decide_eq_true (by omega)) (fun c1 => ?_)
    simp -failIfUnchanged only [↓RA, RB, RS, fx230, a1_cz, p1, p2, p3, p4, reduceIte, p5, p6, p7, p8, c1]
    obtain ⟨v14, hv14, h⟩ := run_bind h
    refine IdxH.mk (f := I) hv14 ?_ ?_ <;> simp -failIfUnchanged only [↓RA, RB, RS, fx230, a1_cz, p1, p2, p3, p4, reduceIte, p5, p6, p7, p8, c1]
    obtain ⟨v16, hv16, h⟩ := run_bind h
    refine CallH.mk [false] (a1_ok _ _ hv16) ?_ ?_ <;> simp -failIfUnchanged only [↓RA, RB, RS, fx230, a1_cz, p1, p2, p3, p4, reduceIte, p5, p6, p7, p8, c1]
    refine CondH.mk (fun c2 => ?_) (fun c2 => ?_)
    · replace h := run_t c2 h
      simp -failIfUnchanged only [↓RA, RB, RS, fx230, a1_cz, p1, p2, p3, p4, reduceIte, p5, p6, p7, p8, c1, c2]
      have h := run_some h
      obtain rfl : _ = r := h
      refine FinH.l ?_
      simp -failIfUnchanged only [↓RA, RB, RS, fx230, a1_cz, p1, p2, p3, p4, reduceIte, p5, p6, p7, p8, c1, c2]
    · replace h := run_f c2 h
      simp -failIfUnchanged only [↓RA, RB, RS, fx230, a1_cz, p1, p2, p3, p4, reduceIte, p5, p6, p7, p8, c1, c2]
      have h := run_some h
      refine RdH.mk ⟨_, h, ?_⟩
      refine St.le_mk2 ?_
      simp -failIfUnchanged only [↓RA, RB, RS, fx230, a1_cz, p1, p2, p3, p4, reduceIte, p5, p6, p7, p8, c1, c2, w2]
  · simp -failIfUnchanged only [↓RA, RB, RS, fx230, a1_cz, p1, p2, p3, p4, reduceIte, p5, p6, p7, p8]
    refine CondH.ff (decide_eq_false (by omega)) (fun c3 => ?_)
    simp -failIfUnchanged only [↓RA, RB, RS, fx230, a1_cz, p1, p2, p3, p4, reduceIte, p5, p6, p7, p8, c3]
    have h := run_some h
    obtain rfl : _ = r := h
    refine FinH.l ?_
    simp -failIfUnchanged only [↓RA, RB, RS, fx230, a1_cz, p1, p2, p3, p4, reduceIte, p5, p6, p7, p8, c3]

def fx123 := And.intro @ty_3 <| And.intro @zc_3 <| And.intro @z_3 <| And.intro @ty_55 <| And.intro @zc_55 <| And.intro @z_55 <| And.intro @es_55 <| And.intro @eb_55 <| And.intro @sl_55 <| And.intro @is_55 <| And.intro @el_55 <| And.intro @ze_55 <| And.intro @ez_55 <| And.intro @ty_144 <| And.intro @zc_144 <| @z_144
set_option maxHeartbeats 4000000 in
theorem slices_ContainsFunc_Sint_int_sat {a0 : List Int} {a1 : Int → Option Bool} {a1_id : FuncId} {a1_cs : List PV} (a1_ok : ∀ y0 r, a1 y0 = some r → Sat Try.prog a1_id ((I y0) :: a1_cs) (B r)) (a1_cz : CapsOk a1_cs = True) {r : Bool} (h : slices_ContainsFunc_Sint_int a0 a1 = some r) : Sat Try.prog 123 [(.sl false 1 (a0.map I)), .clo a1_id a1_cs] (B r) := by
  replace h := Run.of h
  unfold slices_ContainsFunc_Sint_int at h
  refine Sat.of_m (nt := 9) (rs := [.tmp 4]) (n := 100000) Try.func123 rfl rfl rfl rfl (by simp) ?_
  simp -failIfUnchanged only [↓RA, RB, RS, fx123, a1_cz, p1, p2, p3, p4, reduceIte, p5, p6, p7, p8]
  obtain ⟨v7, hv7, h⟩ := run_bind h
  refine CallH.mk [false, false] (slices_IndexFunc_Sint_int_sat a1_ok a1_cz hv7) ?_ ?_ <;> simp -failIfUnchanged only [↓RA, RB, RS, fx123, a1_cz, p1, p2, p3, p4, reduceIte, p5, p6, p7, p8]
  have h := run_some h
  obtain rfl : _ = r := h
  refine FinH.l ?_
  simp -failIfUnchanged only [↓RA, RB, RS, fx123, a1_cz, p1, p2, p3, p4, reduceIte, p5, p6, p7, p8]

def fx332 := And.intro @ty_3 <| And.intro @zc_3 <| @z_3
set_option maxHeartbeats 4000000 in
theorem cmp_isNaN_int_sat {a0 : Int}  {r : Bool} (h : cmp_isNaN_int a0 = some r) : Sat Try.prog 332 [(I a0)] (B r) := by
  replace h := Run.of h
  unfold cmp_isNaN_int at h
  refine Sat.of_m (nt := 6) (rs := [.tmp 2]) (n := 100000) Try.func332 rfl rfl rfl rfl (by simp) ?_
  simp -failIfUnchanged only [↓RA, RB, RS, fx332, p1, p2, p3, p4, reduceIte, p5, p6, p7, p8]
  have h := run_some h
  obtain rfl : _ = r := h
  refine FinH.l ?_
  simp -failIfUnchanged only [↓RA, RB, RS, fx332, p1, p2, p3, p4, reduceIte, p5, p6, p7, p8]

def fx287 := And.intro @ty_3 <| And.intro @zc_3 <| @z_3
set_option maxHeartbeats 4000000 in
theorem cmp_Compare_int_sat {a0 : Int} {a1 : Int}  {r : Int} (h : cmp_Compare_int a0 a1 = some r) : Sat Try.prog 287 [(I a0), (I a1)] (I r) := by
  replace h := Run.of h
  unfold cmp_Compare_int at h
  refine Sat.of_m (nt := 20) (rs := [.tmp 4]) (n := 100000) Try.func287 rfl rfl rfl rfl (by simp) ?_
  simp -failIfUnchanged only [↓RA, RB, RS, fx287, p1, p2, p3, p4, reduceIte, p5, p6, p7, p8]
  obtain ⟨v8, hv8, h⟩ := run_bind h
  refine CallH.mk [false] (cmp_isNaN_int_sat hv8) ?_ ?_ <;> simp -failIfUnchanged only [↓RA, RB, RS, fx287, p1, p2, p3, p4, reduceIte, p5, p6, p7, p8]
  obtain ⟨v10, hv10, h⟩ := run_bind h
  refine CallH.mk [false] (cmp_isNaN_int_sat hv10) ?_ ?_ <;> simp -failIfUnchanged only [↓RA, RB, RS, fx287, p1, p2, p3, p4, reduceIte, p5, p6, p7, p8]
  refine CondH.mk (fun c1 => ?_) (fun c1 => ?_)
  · replace h := run_t c1 h
    simp -failIfUnchanged only [↓RA, RB, RS, fx287, p1, p2, p3, p4, reduceIte, p5, p6, p7, p8, c1]
    refine CondH.mk (fun c2 => ?_) (fun c2 => ?_)
    · replace h := run_t c2 h
      simp -failIfUnchanged only [↓RA, RB, RS, fx287, p1, p2, p3, p4, reduceIte, p5, p6, p7, p8, c1, c2]
      have h := run_some h
      obtain rfl : _ = r := h
      refine FinH.l ?_
      simp -failIfUnchanged only [↓RA, RB, RS, fx287, p1, p2, p3, p4, reduceIte, p5, p6, p7, p8, c1, c2]
    · replace h := run_f c2 h
      simp -failIfUnchanged only [↓RA, RB, RS, fx287, p1, p2, p3, p4, reduceIte, p5, p6, p7, p8, c1, c2]
      have h := run_some h
      obtain rfl : _ = r := h
      refine FinH.l ?_
      simp -failIfUnchanged only [↓RA, RB, RS, fx287, p1, p2, p3, p4, reduceIte, p5, p6, p7, p8, c1, c2]
  · replace h := run_f c1 h
    simp -failIfUnchanged only [↓RA, RB, RS, fx287, p1, p2, p3, p4, reduceIte, p5, p6, p7, p8, c1]
    refine CondH.mk (fun c3 => ?_) (fun c3 => ?_)
    · replace h := run_t c3 h
      simp -failIfUnchanged only [↓RA, RB, RS, fx287, p1, p2, p3, p4, reduceIte, p5, p6, p7, p8, c1, c3]
      have h := run_some h
      obtain rfl : _ = r := h
      refine FinH.l ?_
      simp -failIfUnchanged only [↓RA, RB, RS, fx287, p1, p2, p3, p4, reduceIte, p5, p6, p7, p8, c1, c3]
    · replace h := run_f c3 h
      simp -failIfUnchanged only [↓RA, RB, RS, fx287, p1, p2, p3, p4, reduceIte, p5, p6, p7, p8, c1, c3]
      refine CondH.mk (fun c4 => ?_) (fun c4 => ?_)
      · replace h := run_t c4 h
        simp -failIfUnchanged only [↓RA, RB, RS, fx287, p1, p2, p3, p4, reduceIte, p5, p6, p7, p8, c1, c3, c4]
        have h := run_some h
        obtain rfl : _ = r := h
        refine FinH.l ?_
        simp -failIfUnchanged only [↓RA, RB, RS, fx287, p1, p2, p3, p4, reduceIte, p5, p6, p7, p8, c1, c3, c4]
      · replace h := run_f c4 h
        simp -failIfUnchanged only [↓RA, RB, RS, fx287, p1, p2, p3, p4, reduceIte, p5, p6, p7, p8, c1, c3, c4]
        refine CondH.mk (fun c5 => ?_) (fun c5 => ?_)
        · replace h := run_t c5 h
          simp -failIfUnchanged only [↓RA, RB, RS, fx287, p1, p2, p3, p4, reduceIte, p5, p6, p7, p8, c1, c3, c4, c5]
          have h := run_some h
          obtain rfl : _ = r := h
          refine FinH.l ?_
          simp -failIfUnchanged only [↓RA, RB, RS, fx287, p1, p2, p3, p4, reduceIte, p5, p6, p7, p8, c1, c3, c4, c5]
        · replace h := run_f c5 h
          simp -failIfUnchanged only [↓RA, RB, RS, fx287, p1, p2, p3, p4, reduceIte, p5, p6, p7, p8, c1, c3, c4, c5]
          have h := run_some h
          obtain rfl : _ = r := h
          refine FinH.l ?_
          simp -failIfUnchanged only [↓RA, RB, RS, fx287, p1, p2, p3, p4, reduceIte, p5, p6, p7, p8, c1, c3, c4, c5]

def fx285 := And.intro @ty_3 <| And.intro @zc_3 <| And.intro @z_3 <| And.intro @ty_55 <| And.intro @zc_55 <| And.intro @z_55 <| And.intro @es_55 <| And.intro @eb_55 <| And.intro @sl_55 <| And.intro @is_55 <| And.intro @el_55 <| And.intro @ze_55 <| @ez_55
set_option maxHeartbeats 4000000 in
theorem cmp_Or_int_sat {a0 : List Int}  {r : Int} (h : cmp_Or_int a0 = some r) : Sat Try.prog 285 [(.sl false 1 (a0.map I))] (I r) := by
  replace h := Run.of h
  unfold cmp_Or_int at h
  refine Sat.of_m (nt := 18) (rs := [.tmp 2]) (n := 100000) Try.func285 rfl rfl rfl rfl (by simp) ?_
  simp -failIfUnchanged only [↓RA, RB, RS, fx285, p1, p2, p3, p4, reduceIte, p5, p6, p7, p8]
  refine Mg.know_sl (b := false) (sz := 1) (es := a0.map I) 0 (by simp -failIfUnchanged only [↓RA, RB, RS, fx285, p1, p2, p3, p4, reduceIte, p5, p6, p7, p8]) fun hl0 => ?_; rw [List.length_map] at hl0
  replace h := run_loop h
  refine Mg.forN h (fun i3 s3 => [(3, .val (.pv (I (0 : Int)))), (6, .val (.pv (.sl false 1 (a0.map I)))), (7, .val (.pv (I (a0.length : Int)))), (8, .val (.pv (I (i3 : Int))))]) (fun i3 s3 => []) (St.le_mk2 (by simp -failIfUnchanged only [↓RA, RB, RS, fx285, p1, p2, p3, p4, reduceIte, p5, p6, p7, p8])) (fun i3 s3 hi h => ?_) (fun s3 h => ?_)
  · have w3 := wrap_succ (i := i3) (by omega)
    simp -failIfUnchanged only [↓RA, RB, RS, fx285, p1, p2, p3, p4, reduceIte, p5, p6, p7, p8]
    refine CondH.tt (decide_eq_true (by omega)) (fun c1 => ?_)
    simp -failIfUnchanged only [↓RA, RB, RS, fx285, p1, p2, p3, p4, reduceIte, p5, p6, p7, p8, c1]
    obtain ⟨v10, hv10, h⟩ := run_bind h
    refine IdxH.mk (f := I) hv10 ?_ ?_ <;> simp -failIfUnchanged only [↓RA, RB, RS, fx285, p1, p2, p3, p4, reduceIte, p5, p6, p7, p8, c1]
    refine CondH.mk (fun c2 => ?_) (fun c2 => ?_)
    · replace h := run_t c2 h
      simp -failIfUnchanged only [↓RA, RB, RS, fx285, p1, p2, p3, p4, reduceIte, p5, p6, p7, p8, c1, c2]
      have h := run_some h
      refine RdH.mk ⟨_, h, ?_⟩
      refine St.le_mk2 ?_
      simp -failIfUnchanged only [↓RA, RB, RS, fx285, p1, p2, p3, p4, reduceIte, p5, p6, p7, p8, c1, c2, w3]
    · replace h := run_f c2 h
      simp -failIfUnchanged only [↓RA, RB, RS, fx285, p1, p2, p3, p4, reduceIte, p5, p6, p7, p8, c1, c2]
      have h := run_some h
      obtain rfl : _ = r := h
      refine FinH.l ?_
      simp -failIfUnchanged only [↓RA, RB, RS, fx285, p1, p2, p3, p4, reduceIte, p5, p6, p7, p8, c1, c2]
  · simp -failIfUnchanged only [↓RA, RB, RS, fx285, p1, p2, p3, p4, reduceIte, p5, p6, p7, p8]
    refine CondH.ff (decide_eq_false (by omega)) (fun c3 => ?_)
    simp -failIfUnchanged only [↓RA, RB, RS, fx285, p1, p2, p3, p4, reduceIte, p5, p6, p7, p8, c3]
    have h := run_some h
    obtain rfl : _ = r := h
    refine FinH.l ?_
    simp -failIfUnchanged only [↓RA, RB, RS, fx285, p1, p2, p3, p4, reduceIte, p5, p6, p7, p8, c3]

def fx205 := And.intro @ty_3 <| And.intro @zc_3 <| And.intro @z_3 <| And.intro @ty_55 <| And.intro @zc_55 <| And.intro @z_55 <| And.intro @es_55 <| And.intro @eb_55 <| And.intro @sl_55 <| And.intro @is_55 <| And.intro @el_55 <| And.intro @ze_55 <| And.intro @ez_55 <| And.intro @ty_148 <| And.intro @zc_148 <| And.intro @z_148 <| And.intro @fo_148_0 <| And.intro @fi_148_0 <| And.intro @ft_148_0 <| And.intro @fo_148_1 <| And.intro @fi_148_1 <| And.intro @ft_148_1 <| And.intro @fo_148_2 <| And.intro @fi_148_2 <| And.intro @ft_148_2 <| And.intro @lay_148 <| @mixedT
set_option maxHeartbeats 4000000 in
theorem impl_compareEdges_sat {a0 : SizeEdge} {a1 : SizeEdge}  {r : Int} (h : impl_compareEdges a0 a1 = some r) : Sat Try.prog 205 [((SizeEdge.pv false) a0), ((SizeEdge.pv false) a1)] (I r) := by
  replace h := Run.of h
  unfold impl_compareEdges at h
  refine Sat.of_m (nt := 17) (rs := [.tmp 4]) (n := 100000) Try.func205 rfl rfl rfl rfl (by simp) ?_
  simp -failIfUnchanged only [↓RA, RB, RS, fx205, p1, p2, p3, p4, reduceIte, p5, p6, p7, p8]
  repeat (first | with_reducible refine noR_and (by repeat (first | exact noR_empty _ _ | exact noR_nilS _ _ | refine noR_mk _ _ _ _ _ rfl ?_ | refine noR_mkS _ _ _ _ _ rfl ?_)) ?_ | with_reducible refine noC_and (by repeat (first | exact noC_empty _ _ (by simp -failIfUnchanged only [↓RA, RB, RS, fx205, p1, p2, p3, p4, reduceIte, p5, p6, p7, p8]) | exact noC_nilS _ _ (by simp -failIfUnchanged only [↓RA, RB, RS, fx205, p1, p2, p3, p4, reduceIte, p5, p6, p7, p8]) | refine noC_mk _ _ _ _ _ rfl ?_ | refine noC_mkS _ _ _ _ _ rfl ?_)) ?_ | with_reducible refine and_ac ?_ | with_reducible refine And.intro (a := _ = List.range _) (by rfl) ?_)
  obtain ⟨v9, hv9, h⟩ := run_bind h
  refine CallH.mk [false, false] (cmp_Compare_int_sat hv9) ?_ ?_ <;> simp -failIfUnchanged only [↓RA, RB, RS, fx205, p1, p2, p3, p4, reduceIte, p5, p6, p7, p8]
  obtain ⟨v14, hv14, h⟩ := run_bind h
  refine CallH.mk [false, false] (cmp_Compare_int_sat hv14) ?_ ?_ <;> simp -failIfUnchanged only [↓RA, RB, RS, fx205, p1, p2, p3, p4, reduceIte, p5, p6, p7, p8]
  repeat (first | with_reducible refine noR_and (by repeat (first | exact noR_empty _ _ | exact noR_nilS _ _ | refine noR_mk _ _ _ _ _ rfl ?_ | refine noR_mkS _ _ _ _ _ rfl ?_)) ?_ | with_reducible refine noC_and (by repeat (first | exact noC_empty _ _ (by simp -failIfUnchanged only [↓RA, RB, RS, fx205, p1, p2, p3, p4, reduceIte, p5, p6, p7, p8]) | exact noC_nilS _ _ (by simp -failIfUnchanged only [↓RA, RB, RS, fx205, p1, p2, p3, p4, reduceIte, p5, p6, p7, p8]) | refine noC_mk _ _ _ _ _ rfl ?_ | refine noC_mkS _ _ _ _ _ rfl ?_)) ?_ | with_reducible refine and_ac ?_ | with_reducible refine And.intro (a := _ = List.range _) (by rfl) ?_)
  obtain ⟨v16, hv16, h⟩ := run_bind h
  refine CallH.mk [false] (cmp_Or_int_sat hv16) ?_ ?_ <;> simp -failIfUnchanged only [↓RA, RB, RS, fx205, p1, p2, p3, p4, reduceIte, p5, p6, p7, p8]
  refine And.intro (DrawH.mk [] [240] (by rfl) (by first | rfl | (simp -failIfUnchanged only [↓RA, RB, RS, fx205, p1, p2, p3, p4, reduceIte, p5, p6, p7, p8] <;> rfl)) (by first | rfl | (simp -failIfUnchanged only [↓RA, RB, RS, fx205, p1, p2, p3, p4, reduceIte, p5, p6, p7, p8] <;> rfl)) (by first | rfl | (simp -failIfUnchanged only [↓RA, RB, RS, fx205, p1, p2, p3, p4, reduceIte, p5, p6, p7, p8] <;> rfl)) (by simp) (by simp -failIfUnchanged only [↓RA, RB, RS, fx205, p1, p2, p3, p4, reduceIte, p5, p6, p7, p8]; repeat (first | exact noC_empty _ _ (by simp -failIfUnchanged only [↓RA, RB, RS, fx205, p1, p2, p3, p4, reduceIte, p5, p6, p7, p8]) | exact noC_nilS _ _ (by simp -failIfUnchanged only [↓RA, RB, RS, fx205, p1, p2, p3, p4, reduceIte, p5, p6, p7, p8]) | refine noC_mk _ _ _ _ _ rfl ?_ | refine noC_mkS _ _ _ _ _ rfl ?_ | refine And.intro ?_ ?_))) ?_
  simp -failIfUnchanged only [↓RA, RB, RS, fx205, p1, p2, p3, p4, reduceIte, p5, p6, p7, p8]
  have h := run_some h
  obtain rfl : _ = r := h
  refine FinH.l ?_
  simp -failIfUnchanged only [↓RA, RB, RS, fx205, p1, p2, p3, p4, reduceIte, p5, p6, p7, p8]

def fx104 := And.intro @ty_3 <| And.intro @zc_3 <| And.intro @z_3 <| And.intro @ty_4 <| And.intro @zc_4 <| And.intro @z_4 <| And.intro @u_4 <| And.intro @ty_46 <| And.intro @zc_46 <| And.intro @z_46 <| And.intro @es_46 <| And.intro @eb_46 <| And.intro @sl_46 <| And.intro @is_46 <| And.intro @el_46 <| And.intro @ze_46 <| And.intro @ez_46 <| And.intro @ty_48 <| And.intro @zc_48 <| And.intro @z_48 <| And.intro @fo_48_0 <| And.intro @fi_48_0 <| And.intro @ft_48_0 <| And.intro @fo_48_1 <| And.intro @fi_48_1 <| And.intro @ft_48_1 <| And.intro @fo_48_2 <| And.intro @fi_48_2 <| And.intro @ft_48_2 <| And.intro @lay_48 <| And.intro @ty_148 <| And.intro @zc_148 <| And.intro @z_148 <| And.intro @fo_148_0 <| And.intro @fi_148_0 <| And.intro @ft_148_0 <| And.intro @fo_148_1 <| And.intro @fi_148_1 <| And.intro @ft_148_1 <| And.intro @fo_148_2 <| And.intro @fi_148_2 <| And.intro @ft_148_2 <| And.intro @lay_148 <| @mixedT
set_option maxHeartbeats 4000000 in
theorem impl_IsValidGraph_sat {a0 : SizeGraph}  {r : Bool} (h : impl_IsValidGraph a0 = some r) : Sat Try.prog 104 [((SizeGraph.pv false) a0)] (B r) := by
  replace h := Run.of h
  unfold impl_IsValidGraph at h
  refine Sat.of_m (nt := 47) (rs := [.tmp 2]) (n := 100000) Try.func104 rfl rfl rfl rfl (by simp) ?_
  simp -failIfUnchanged only [↓RA, RB, RS, fx104, p1, p2, p3, p4, reduceIte, p5, p6, p7, p8]
  repeat (first | with_reducible refine noR_and (by repeat (first | exact noR_empty _ _ | exact noR_nilS _ _ | refine noR_mk _ _ _ _ _ rfl ?_ | refine noR_mkS _ _ _ _ _ rfl ?_)) ?_ | with_reducible refine noC_and (by repeat (first | exact noC_empty _ _ (by simp -failIfUnchanged only [↓RA, RB, RS, fx104, p1, p2, p3, p4, reduceIte, p5, p6, p7, p8]) | exact noC_nilS _ _ (by simp -failIfUnchanged only [↓RA, RB, RS, fx104, p1, p2, p3, p4, reduceIte, p5, p6, p7, p8]) | refine noC_mk _ _ _ _ _ rfl ?_ | refine noC_mkS _ _ _ _ _ rfl ?_)) ?_ | with_reducible refine and_ac ?_ | with_reducible refine And.intro (a := _ = List.range _) (by rfl) ?_)
  refine Mg.know_sl (b := false) (sz := 3) (es := a0.Edges.map (SizeEdge.pv false)) 6 (by simp -failIfUnchanged only [↓RA, RB, RS, fx104, p1, p2, p3, p4, reduceIte, p5, p6, p7, p8]) fun hl6 => ?_; rw [List.length_map] at hl6
  replace h := run_loop h
  refine Mg.forN h (fun i2 s2 => [(1, .box (.pv ((SizeGraph.pv false) a0))), (6, .val (.pv (.sl false 3 (a0.Edges.map (SizeEdge.pv false))))), (7, .val (.pv (I (a0.Edges.length : Int)))), (8, .val (.pv (I (i2 : Int))))]) (fun i2 s2 => []) (St.le_mk2 (by simp -failIfUnchanged only [↓RA, RB, RS, fx104, p1, p2, p3, p4, reduceIte, p5, p6, p7, p8])) (fun i2 s2 hi h => ?_) (fun s2 h => ?_)
  · have w2 := wrap_succ (i := i2) (by omega)
    simp -failIfUnchanged only [↓RA, RB, RS, fx104, p1, p2, p3, p4, reduceIte, p5, p6, p7, p8]
    refine CondH.tt (decide_eq_true (by omega)) (fun c1 => ?_)
    simp -failIfUnchanged only [↓RA, RB, RS, fx104, p1, p2, p3, p4, reduceIte, p5, p6, p7, p8, c1]
    obtain ⟨v11, hv11, h⟩ := run_bind h
    refine IdxH.mk (f := (SizeEdge.pv false)) hv11 ?_ ?_ <;> simp -failIfUnchanged only [↓RA, RB, RS, fx104, p1, p2, p3, p4, reduceIte, p5, p6, p7, p8, c1]
    repeat (first | with_reducible refine noR_and (by repeat (first | exact noR_empty _ _ | exact noR_nilS _ _ | refine noR_mk _ _ _ _ _ rfl ?_ | refine noR_mkS _ _ _ _ _ rfl ?_)) ?_ | with_reducible refine noC_and (by repeat (first | exact noC_empty _ _ (by simp -failIfUnchanged only [↓RA, RB, RS, fx104, p1, p2, p3, p4, reduceIte, p5, p6, p7, p8]) | exact noC_nilS _ _ (by simp -failIfUnchanged only [↓RA, RB, RS, fx104, p1, p2, p3, p4, reduceIte, p5, p6, p7, p8]) | refine noC_mk _ _ _ _ _ rfl ?_ | refine noC_mkS _ _ _ _ _ rfl ?_)) ?_ | with_reducible refine and_ac ?_ | with_reducible refine And.intro (a := _ = List.range _) (by rfl) ?_)
    obtain ⟨v15, hv15, h⟩ := run_bind h
    refine CallH.mk [false, false, false] (impl_within_sat hv15) ?_ ?_ <;> simp -failIfUnchanged only [↓RA, RB, RS, fx104, p1, p2, p3, p4, reduceIte, p5, p6, p7, p8, c1]
    refine CondH.mk (fun c2 => ?_) (fun c2 => ?_)
    · replace h := run_t c2 h
      simp -failIfUnchanged only [↓RA, RB, RS, fx104, p1, p2, p3, p4, reduceIte, p5, p6, p7, p8, c1, c2]
      obtain ⟨v20, hv20, h⟩ := run_bind h
      refine CallH.mk [false, false, false] (impl_within_sat hv20) ?_ ?_ <;> simp -failIfUnchanged only [↓RA, RB, RS, fx104, p1, p2, p3, p4, reduceIte, p5, p6, p7, p8, c1, c2]
      refine CondH.mk (fun c3 => ?_) (fun c3 => ?_)
      · replace h := run_t c3 h
        simp -failIfUnchanged only [↓RA, RB, RS, fx104, p1, p2, p3, p4, reduceIte, p5, p6, p7, p8, c1, c2, c3]
        refine CondH.mk (fun c4 => ?_) (fun c4 => ?_)
        · replace h := run_t c4 h
          simp -failIfUnchanged only [↓RA, RB, RS, fx104, p1, p2, p3, p4, reduceIte, p5, p6, p7, p8, c1, c2, c3, c4]
          obtain ⟨v31, hv31, h⟩ := run_bind h
          refine IdxH.mk (f := (SizeEdge.pv false)) hv31 ?_ ?_ <;> simp -failIfUnchanged only [↓RA, RB, RS, fx104, p1, p2, p3, p4, reduceIte, p5, p6, p7, p8, c1, c2, c3, c4]
          obtain ⟨v34, hv34, h⟩ := run_bind h
          refine CallH.mk [false, false] (impl_compareEdges_sat hv34) ?_ ?_ <;> simp -failIfUnchanged only [↓RA, RB, RS, fx104, p1, p2, p3, p4, reduceIte, p5, p6, p7, p8, c1, c2, c3, c4]
          refine And.intro (DrawH.none (by rfl) (by first | rfl | (simp -failIfUnchanged only [↓RA, RB, RS, fx104, p1, p2, p3, p4, reduceIte, p5, p6, p7, p8] <;> rfl)) (by first | rfl | (simp -failIfUnchanged only [↓RA, RB, RS, fx104, p1, p2, p3, p4, reduceIte, p5, p6, p7, p8] <;> rfl)) (by first | rfl | (simp -failIfUnchanged only [↓RA, RB, RS, fx104, p1, p2, p3, p4, reduceIte, p5, p6, p7, p8] <;> rfl))) ?_
          simp -failIfUnchanged only [↓RA, RB, RS, fx104, p1, p2, p3, p4, reduceIte, p5, p6, p7, p8, c1, c2, c3, c4]
          refine CondH.mk (fun c5 => ?_) (fun c5 => ?_)
          · replace h := run_t c5 h
            simp -failIfUnchanged only [↓RA, RB, RS, fx104, p1, p2, p3, p4, reduceIte, p5, p6, p7, p8, c1, c2, c3, c4, c5]
            have h := run_some h
            obtain rfl : _ = r := h
            refine FinH.l ?_
            simp -failIfUnchanged only [↓RA, RB, RS, fx104, p1, p2, p3, p4, reduceIte, p5, p6, p7, p8, c1, c2, c3, c4, c5]
          · replace h := run_f c5 h
            simp -failIfUnchanged only [↓RA, RB, RS, fx104, p1, p2, p3, p4, reduceIte, p5, p6, p7, p8, c1, c2, c3, c4, c5]
            have h := run_some h
            refine RdH.mk ⟨_, h, ?_⟩
            refine St.le_mk2 ?_
            simp -failIfUnchanged only [↓RA, RB, RS, fx104, p1, p2, p3, p4, reduceIte, p5, p6, p7, p8, c1, c2, c3, c4, c5, w2]
        · replace h := run_f c4 h
          simp -failIfUnchanged only [↓RA, RB, RS, fx104, p1, p2, p3, p4, reduceIte, p5, p6, p7, p8, c1, c2, c3, c4]
          refine And.intro (DrawH.none (by rfl) (by first | rfl | (simp -failIfUnchanged only [↓RA, RB, RS, fx104, p1, p2, p3, p4, reduceIte, p5, p6, p7, p8] <;> rfl)) (by first | rfl | (simp -failIfUnchanged only [↓RA, RB, RS, fx104, p1, p2, p3, p4, reduceIte, p5, p6, p7, p8] <;> rfl)) (by first | rfl | (simp -failIfUnchanged only [↓RA, RB, RS, fx104, p1, p2, p3, p4, reduceIte, p5, p6, p7, p8] <;> rfl))) ?_
          simp -failIfUnchanged only [↓RA, RB, RS, fx104, p1, p2, p3, p4, reduceIte, p5, p6, p7, p8, c1, c2, c3, c4]
          have h := run_some h
          refine RdH.mk ⟨_, h, ?_⟩
          refine St.le_mk2 ?_
          simp -failIfUnchanged only [↓RA, RB, RS, fx104, p1, p2, p3, p4, reduceIte, p5, p6, p7, p8, c1, c2, c3, c4, w2]
      · replace h := run_f c3 h
        simp -failIfUnchanged only [↓RA, RB, RS, fx104, p1, p2, p3, p4, reduceIte, p5, p6, p7, p8, c1, c2, c3]
        refine And.intro (DrawH.none (by rfl) (by first | rfl | (simp -failIfUnchanged only [↓RA, RB, RS, fx104, p1, p2, p3, p4, reduceIte, p5, p6, p7, p8] <;> rfl)) (by first | rfl | (simp -failIfUnchanged only [↓RA, RB, RS, fx104, p1, p2, p3, p4, reduceIte, p5, p6, p7, p8] <;> rfl)) (by first | rfl | (simp -failIfUnchanged only [↓RA, RB, RS, fx104, p1, p2, p3, p4, reduceIte, p5, p6, p7, p8] <;> rfl))) ?_
        simp -failIfUnchanged only [↓RA, RB, RS, fx104, p1, p2, p3, p4, reduceIte, p5, p6, p7, p8, c1, c2, c3]
        have h := run_some h
        obtain rfl : _ = r := h
        refine FinH.l ?_
        simp -failIfUnchanged only [↓RA, RB, RS, fx104, p1, p2, p3, p4, reduceIte, p5, p6, p7, p8, c1, c2, c3]
    · replace h := run_f c2 h
      simp -failIfUnchanged only [↓RA, RB, RS, fx104, p1, p2, p3, p4, reduceIte, p5, p6, p7, p8, c1, c2]
      refine And.intro (DrawH.none (by rfl) (by first | rfl | (simp -failIfUnchanged only [↓RA, RB, RS, fx104, p1, p2, p3, p4, reduceIte, p5, p6, p7, p8] <;> rfl)) (by first | rfl | (simp -failIfUnchanged only [↓RA, RB, RS, fx104, p1, p2, p3, p4, reduceIte, p5, p6, p7, p8] <;> rfl)) (by first | rfl | (simp -failIfUnchanged only [↓RA, RB, RS, fx104, p1, p2, p3, p4, reduceIte, p5, p6, p7, p8] <;> rfl))) ?_
      simp -failIfUnchanged only [↓RA, RB, RS, fx104, p1, p2, p3, p4, reduceIte, p5, p6, p7, p8, c1, c2]
      have h := run_some h
      obtain rfl : _ = r := h
      refine FinH.l ?_
      simp -failIfUnchanged only [↓RA, RB, RS, fx104, p1, p2, p3, p4, reduceIte, p5, p6, p7, p8, c1, c2]
  · simp -failIfUnchanged only [↓RA, RB, RS, fx104, p1, p2, p3, p4, reduceIte, p5, p6, p7, p8]
    refine CondH.ff (decide_eq_false (by omega)) (fun c6 => ?_)
    simp -failIfUnchanged only [↓RA, RB, RS, fx104, p1, p2, p3, p4, reduceIte, p5, p6, p7, p8, c6]
    obtain ⟨v41, hv41, h⟩ := run_bind h
    refine CallH.mk [false, false, false] (impl_within_sat hv41) ?_ ?_ <;> simp -failIfUnchanged only [↓RA, RB, RS, fx104, p1, p2, p3, p4, reduceIte, p5, p6, p7, p8, c6]
    refine CondH.mk (fun c7 => ?_) (fun c7 => ?_)
    · replace h := run_t c7 h
      simp -failIfUnchanged only [↓RA, RB, RS, fx104, p1, p2, p3, p4, reduceIte, p5, p6, p7, p8, c6, c7]
      obtain ⟨v45, hv45, h⟩ := run_bind h
      refine CallH.mk [false, false, false] (impl_within_sat hv45) ?_ ?_ <;> simp -failIfUnchanged only [↓RA, RB, RS, fx104, p1, p2, p3, p4, reduceIte, p5, p6, p7, p8, c6, c7]
      have h := run_some h
      obtain rfl : _ = r := h
      refine FinH.l ?_
      simp -failIfUnchanged only [↓RA, RB, RS, fx104, p1, p2, p3, p4, reduceIte, p5, p6, p7, p8, c6, c7]
    · replace h := run_f c7 h
      simp -failIfUnchanged only [↓RA, RB, RS, fx104, p1, p2, p3, p4, reduceIte, p5, p6, p7, p8, c6, c7]
      have h := run_some h
      obtain rfl : _ = r := h
      refine FinH.l ?_
      simp -failIfUnchanged only [↓RA, RB, RS, fx104, p1, p2, p3, p4, reduceIte, p5, p6, p7, p8, c6, c7]

def fx214 := And.intro @ty_3 <| And.intro @zc_3 <| And.intro @z_3 <| And.intro @ty_48 <| And.intro @zc_48 <| And.intro @z_48 <| And.intro @fo_48_0 <| And.intro @fi_48_0 <| And.intro @ft_48_0 <| And.intro @fo_48_1 <| And.intro @fi_48_1 <| And.intro @ft_48_1 <| And.intro @fo_48_2 <| And.intro @fi_48_2 <| And.intro @ft_48_2 <| And.intro @lay_48 <| And.intro @ty_55 <| And.intro @zc_55 <| And.intro @z_55 <| And.intro @es_55 <| And.intro @eb_55 <| And.intro @sl_55 <| And.intro @is_55 <| And.intro @el_55 <| And.intro @ze_55 <| And.intro @ez_55 <| And.intro @ty_58 <| And.intro @zc_58 <| And.intro @z_58 <| And.intro @fo_58_0 <| And.intro @fi_58_0 <| And.intro @ft_58_0 <| And.intro @fo_58_1 <| And.intro @fi_58_1 <| And.intro @ft_58_1 <| And.intro @lay_58 <| And.intro @ty_148 <| And.intro @zc_148 <| And.intro @z_148 <| And.intro @fo_148_0 <| And.intro @fi_148_0 <| And.intro @ft_148_0 <| And.intro @fo_148_1 <| And.intro @fi_148_1 <| And.intro @ft_148_1 <| And.intro @fo_148_2 <| And.intro @fi_148_2 <| And.intro @ft_148_2 <| And.intro @lay_148 <| @mixedT
set_option maxHeartbeats 4000000 in
theorem impl_IsValidCyclic_2_1_sat {a0 : SizeEdge} {b0 : CyclicProof} {b1 : SizeGraph}  {r : Bool} (h : impl_IsValidCyclic_2_1 a0 b0 b1 = some r) : Sat Try.prog 214 [((SizeEdge.pv false) a0), .ptr ((CyclicProof.pv false) b0), .ptr ((SizeGraph.pv false) b1)] (B r) := by
  replace h := Run.of h
  unfold impl_IsValidCyclic_2_1 at h
  refine Sat.of_m (nt := 25) (rs := [.tmp 4]) (n := 100000) Try.func214 rfl rfl rfl rfl (by simp) ?_
  simp -failIfUnchanged only [↓RA, RB, RS, fx214, p1, p2, p3, p4, reduceIte, p5, p6, p7, p8]
  repeat (first | with_reducible refine noR_and (by repeat (first | exact noR_empty _ _ | exact noR_nilS _ _ | refine noR_mk _ _ _ _ _ rfl ?_ | refine noR_mkS _ _ _ _ _ rfl ?_)) ?_ | with_reducible refine noC_and (by repeat (first | exact noC_empty _ _ (by simp -failIfUnchanged only [↓RA, RB, RS, fx214, p1, p2, p3, p4, reduceIte, p5, p6, p7, p8]) | exact noC_nilS _ _ (by simp -failIfUnchanged only [↓RA, RB, RS, fx214, p1, p2, p3, p4, reduceIte, p5, p6, p7, p8]) | refine noC_mk _ _ _ _ _ rfl ?_ | refine noC_mkS _ _ _ _ _ rfl ?_)) ?_ | with_reducible refine and_ac ?_ | with_reducible refine And.intro (a := _ = List.range _) (by rfl) ?_)
  obtain ⟨v11, hv11, h⟩ := run_bind h
  refine IdxH.mk (f := I) hv11 ?_ ?_ <;> simp -failIfUnchanged only [↓RA, RB, RS, fx214, p1, p2, p3, p4, reduceIte, p5, p6, p7, p8]
  refine CondH.mk (fun c1 => ?_) (fun c1 => ?_)
  · replace h := run_t c1 h
    simp -failIfUnchanged only [↓RA, RB, RS, fx214, p1, p2, p3, p4, reduceIte, p5, p6, p7, p8, c1]
    refine And.intro (DrawH.none (by rfl) (by first | rfl | (simp -failIfUnchanged only [↓RA, RB, RS, fx214, p1, p2, p3, p4, reduceIte, p5, p6, p7, p8] <;> rfl)) (by first | rfl | (simp -failIfUnchanged only [↓RA, RB, RS, fx214, p1, p2, p3, p4, reduceIte, p5, p6, p7, p8] <;> rfl)) (by first | rfl | (simp -failIfUnchanged only [↓RA, RB, RS, fx214, p1, p2, p3, p4, reduceIte, p5, p6, p7, p8] <;> rfl))) ?_
    simp -failIfUnchanged only [↓RA, RB, RS, fx214, p1, p2, p3, p4, reduceIte, p5, p6, p7, p8, c1]
    have h := run_some h
    obtain rfl : _ = r := h
    refine FinH.l ?_
    simp -failIfUnchanged only [↓RA, RB, RS, fx214, p1, p2, p3, p4, reduceIte, p5, p6, p7, p8, c1]
  · replace h := run_f c1 h
    simp -failIfUnchanged only [↓RA, RB, RS, fx214, p1, p2, p3, p4, reduceIte, p5, p6, p7, p8, c1]
    obtain ⟨v21, hv21, h⟩ := run_bind h
    refine IdxH.mk (f := I) hv21 ?_ ?_ <;> simp -failIfUnchanged only [↓RA, RB, RS, fx214, p1, p2, p3, p4, reduceIte, p5, p6, p7, p8, c1]
    refine And.intro (DrawH.none (by rfl) (by first | rfl | (simp -failIfUnchanged only [↓RA, RB, RS, fx214, p1, p2, p3, p4, reduceIte, p5, p6, p7, p8] <;> rfl)) (by first | rfl | (simp -failIfUnchanged only [↓RA, RB, RS, fx214, p1, p2, p3, p4, reduceIte, p5, p6, p7, p8] <;> rfl)) (by first | rfl | (simp -failIfUnchanged only [↓RA, RB, RS, fx214, p1, p2, p3, p4, reduceIte, p5, p6, p7, p8] <;> rfl))) ?_
    simp -failIfUnchanged only [↓RA, RB, RS, fx214, p1, p2, p3, p4, reduceIte, p5, p6, p7, p8, c1]
    have h := run_some h
    obtain rfl : _ = r := h
    refine FinH.l ?_
    simp -failIfUnchanged only [↓RA, RB, RS, fx214, p1, p2, p3, p4, reduceIte, p5, p6, p7, p8, c1]

def fx247 := And.intro @ty_3 <| And.intro @zc_3 <| And.intro @z_3 <| And.intro @ty_46 <| And.intro @zc_46 <| And.intro @z_46 <| And.intro @es_46 <| And.intro @eb_46 <| And.intro @sl_46 <| And.intro @is_46 <| And.intro @el_46 <| And.intro @ze_46 <| And.intro @ez_46 <| And.intro @ty_148 <| And.intro @zc_148 <| And.intro @z_148 <| And.intro @fo_148_0 <| And.intro @fi_148_0 <| And.intro @ft_148_0 <| And.intro @fo_148_1 <| And.intro @fi_148_1 <| And.intro @ft_148_1 <| And.intro @fo_148_2 <| And.intro @fi_148_2 <| And.intro @ft_148_2 <| @lay_148
set_option maxHeartbeats 4000000 in
theorem slices_IndexFunc_Simpl_SizeEdge_impl_SizeEdge_sat {a0 : List SizeEdge} {a1 : SizeEdge → Option Bool} {a1_id : FuncId} {a1_cs : List PV} (a1_ok : ∀ y0 r, a1 y0 = some r → Sat Try.prog a1_id (((SizeEdge.pv false) y0) :: a1_cs) (B r)) (a1_cz : CapsOk a1_cs = True) {r : Int} (h : slices_IndexFunc_Simpl_SizeEdge_impl_SizeEdge a0 a1 = some r) : Sat Try.prog 247 [(.sl false 3 (a0.map (SizeEdge.pv false))), .clo a1_id a1_cs] (I r) := by
  replace h := Run.of h
  unfold slices_IndexFunc_Simpl_SizeEdge_impl_SizeEdge at h
  refine Sat.of_m (nt := 19) (rs := [.tmp 4]) (n := 100000) Try.func247 rfl rfl rfl rfl (by simp) ?_
  simp -failIfUnchanged only [↓RA, RB, RS, fx247, a1_cz, p1, p2, p3, p4, reduceIte, p5, p6, p7, p8]
  refine Mg.know_sl (b := false) (sz := 3) (es := a0.map (SizeEdge.pv false)) 0 (by simp -failIfUnchanged only [↓RA, RB, RS, fx247, a1_cz, p1, p2, p3, p4, reduceIte, p5, p6, p7, p8]) fun hl0 => ?_; rw [List.length_map] at hl0
  replace h := run_loop h
  refine Mg.forN h (fun i2 s2 => [(0, .val (.pv (.sl false 3 (a0.map (SizeEdge.pv false))))), (1, .val (.pv (.clo a1_id a1_cs))), (7, .val (.pv (I (a0.length : Int)))), (8, .val (.pv (I (i2 : Int))))]) (fun i2 s2 => []) (St.le_mk2 (by simp -failIfUnchanged only [↓RA, RB, RS, fx247, a1_cz, p1, p2, p3, p4, reduceIte, p5, p6, p7, p8])) (fun i2 s2 hi h => ?_) (fun s2 h => ?_)
  · have w2 := wrap_succ (i := i2) (by omega)
    simp -failIfUnchanged only [↓RA, RB, RS, fx247, a1_cz, p1, p2, p3, p4, reduceIte, p5, p6, p7, p8]
    refine CondH.tt (decide_eq_true (by omega)) (fun c1 => ?_)
    simp -failIfUnchanged only [↓RA, RB, RS, fx247, a1_cz, p1, p2, p3, p4, reduceIte, p5, p6, p7, p8, c1]
    obtain ⟨v14, hv14, h⟩ := run_bind h
    refine IdxH.mk (f := (SizeEdge.pv false)) hv14 ?_ ?_ <;> simp -failIfUnchanged only [↓RA, RB, RS, fx247, a1_cz, p1, p2, p3, p4, reduceIte, p5, p6, p7, p8, c1]
    obtain ⟨v16, hv16, h⟩ := run_bind h
    refine CallH.mk [false] (a1_ok _ _ hv16) ?_ ?_ <;> simp -failIfUnchanged only [↓RA, RB, RS, fx247, a1_cz, p1, p2, p3, p4, reduceIte, p5, p6, p7, p8, c1]
    refine CondH.mk (fun c2 => ?_) (fun c2 => ?_)
    · replace h := run_t c2 h
      simp -failIfUnchanged only [↓RA, RB, RS, fx247, a1_cz, p1, p2, p3, p4, reduceIte, p5, p6, p7, p8, c1, c2]
      have h := run_some h
      obtain rfl : _ = r := h
      refine FinH.l ?_
      simp -failIfUnchanged only [↓RA, RB, RS, fx247, a1_cz, p1, p2, p3, p4, reduceIte, p5, p6, p7, p8, c1, c2]
    · replace h := run_f c2 h
      simp -failIfUnchanged only [↓RA, RB, RS, fx247, a1_cz, p1, p2, p3, p4, reduceIte, p5, p6, p7, p8, c1, c2]
      have h := run_some h
      refine RdH.mk ⟨_, h, ?_⟩
      refine St.le_mk2 ?_
      simp -failIfUnchanged only [↓RA, RB, RS, fx247, a1_cz, p1, p2, p3, p4, reduceIte, p5, p6, p7, p8, c1, c2, w2]
  · simp -failIfUnchanged only [↓RA, RB, RS, fx247, a1_cz, p1, p2, p3, p4, reduceIte, p5, p6, p7, p8]
    refine CondH.ff (decide_eq_false (by omega)) (fun c3 => ?_)
    simp -failIfUnchanged only [↓RA, RB, RS, fx247, a1_cz, p1, p2, p3, p4, reduceIte, p5, p6, p7, p8, c3]
    have h := run_some h
    obtain rfl : _ = r := h
    refine FinH.l ?_
    simp -failIfUnchanged only [↓RA, RB, RS, fx247, a1_cz, p1, p2, p3, p4, reduceIte, p5, p6, p7, p8, c3]

def fx155 := And.intro @ty_3 <| And.intro @zc_3 <| And.intro @z_3 <| And.intro @ty_46 <| And.intro @zc_46 <| And.intro @z_46 <| And.intro @es_46 <| And.intro @eb_46 <| And.intro @sl_46 <| And.intro @is_46 <| And.intro @el_46 <| And.intro @ze_46 <| And.intro @ez_46 <| And.intro @ty_187 <| And.intro @zc_187 <| @z_187
set_option maxHeartbeats 4000000 in
theorem slices_ContainsFunc_Simpl_SizeEdge_impl_SizeEdge_sat {a0 : List SizeEdge} {a1 : SizeEdge → Option Bool} {a1_id : FuncId} {a1_cs : List PV} (a1_ok : ∀ y0 r, a1 y0 = some r → Sat Try.prog a1_id (((SizeEdge.pv false) y0) :: a1_cs) (B r)) (a1_cz : CapsOk a1_cs = True) {r : Bool} (h : slices_ContainsFunc_Simpl_SizeEdge_impl_SizeEdge a0 a1 = some r) : Sat Try.prog 155 [(.sl false 3 (a0.map (SizeEdge.pv false))), .clo a1_id a1_cs] (B r) := by
  replace h := Run.of h
  unfold slices_ContainsFunc_Simpl_SizeEdge_impl_SizeEdge at h
  refine Sat.of_m (nt := 9) (rs := [.tmp 4]) (n := 100000) Try.func155 rfl rfl rfl rfl (by simp) ?_
  simp -failIfUnchanged only [↓RA, RB, RS, fx155, a1_cz, p1, p2, p3, p4, reduceIte, p5, p6, p7, p8]
  obtain ⟨v7, hv7, h⟩ := run_bind h
  refine CallH.mk [false, false] (slices_IndexFunc_Simpl_SizeEdge_impl_SizeEdge_sat a1_ok a1_cz hv7) ?_ ?_ <;> simp -failIfUnchanged only [↓RA, RB, RS, fx155, a1_cz, p1, p2, p3, p4, reduceIte, p5, p6, p7, p8]
  have h := run_some h
  obtain rfl : _ = r := h
  refine FinH.l ?_
  simp -failIfUnchanged only [↓RA, RB, RS, fx155, a1_cz, p1, p2, p3, p4, reduceIte, p5, p6, p7, p8]

def fx213 := And.intro @ty_3 <| And.intro @zc_3 <| And.intro @z_3 <| And.intro @ty_4 <| And.intro @zc_4 <| And.intro @z_4 <| And.intro @u_4 <| And.intro @ty_46 <| And.intro @zc_46 <| And.intro @z_46 <| And.intro @es_46 <| And.intro @eb_46 <| And.intro @sl_46 <| And.intro @is_46 <| And.intro @el_46 <| And.intro @ze_46 <| And.intro @ez_46 <| And.intro @ty_48 <| And.intro @zc_48 <| And.intro @z_48 <| And.intro @fo_48_0 <| And.intro @fi_48_0 <| And.intro @ft_48_0 <| And.intro @fo_48_1 <| And.intro @fi_48_1 <| And.intro @ft_48_1 <| And.intro @fo_48_2 <| And.intro @fi_48_2 <| And.intro @ft_48_2 <| And.intro @lay_48 <| And.intro @ty_187 <| And.intro @zc_187 <| @z_187
set_option maxHeartbeats 4000000 in
theorem impl_IsValidCyclic_2_sat {a0 : SizeGraph} {b0 : Int} {b1 : CyclicProof}  {r : Bool} (h : impl_IsValidCyclic_2 a0 b0 b1 = some r) : Sat Try.prog 213 [((SizeGraph.pv false) a0), .ptr (I b0), .ptr ((CyclicProof.pv false) b1)] (B r) := by
  replace h := Run.of h
  unfold impl_IsValidCyclic_2 at h
  refine Sat.of_m (nt := 26) (rs := [.tmp 4]) (n := 100000) Try.func213 rfl rfl rfl rfl (by simp) ?_
  simp -failIfUnchanged only [↓RA, RB, RS, fx213, p1, p2, p3, p4, reduceIte, p5, p6, p7, p8]
  repeat (first | with_reducible refine noR_and (by repeat (first | exact noR_empty _ _ | exact noR_nilS _ _ | refine noR_mk _ _ _ _ _ rfl ?_ | refine noR_mkS _ _ _ _ _ rfl ?_)) ?_ | with_reducible refine noC_and (by repeat (first | exact noC_empty _ _ (by simp -failIfUnchanged only [↓RA, RB, RS, fx213, p1, p2, p3, p4, reduceIte, p5, p6, p7, p8]) | exact noC_nilS _ _ (by simp -failIfUnchanged only [↓RA, RB, RS, fx213, p1, p2, p3, p4, reduceIte, p5, p6, p7, p8]) | refine noC_mk _ _ _ _ _ rfl ?_ | refine noC_mkS _ _ _ _ _ rfl ?_)) ?_ | with_reducible refine and_ac ?_ | with_reducible refine And.intro (a := _ = List.range _) (by rfl) ?_)
  obtain ⟨v6, hv6, h⟩ := run_bind h
  refine CallH.mk [false] (impl_IsValidGraph_sat hv6) ?_ ?_ <;> simp -failIfUnchanged only [↓RA, RB, RS, fx213, p1, p2, p3, p4, reduceIte, p5, p6, p7, p8]
  refine CondH.mk (fun c1 => ?_) (fun c1 => ?_)
  · replace h := run_t c1 h
    simp -failIfUnchanged only [↓RA, RB, RS, fx213, p1, p2, p3, p4, reduceIte, p5, p6, p7, p8, c1]
    refine CondH.mk (fun c2 => ?_) (fun c2 => ?_)
    · replace h := run_t c2 h
      simp -failIfUnchanged only [↓RA, RB, RS, fx213, p1, p2, p3, p4, reduceIte, p5, p6, p7, p8, c1, c2]
      have h := run_some h
      obtain rfl : _ = r := h
      refine FinH.l ?_
      simp -failIfUnchanged only [↓RA, RB, RS, fx213, p1, p2, p3, p4, reduceIte, p5, p6, p7, p8, c1, c2]
    · replace h := run_f c2 h
      simp -failIfUnchanged only [↓RA, RB, RS, fx213, p1, p2, p3, p4, reduceIte, p5, p6, p7, p8, c1, c2]
      refine CondH.mk (fun c3 => ?_) (fun c3 => ?_)
      · replace h := run_t c3 h
        simp -failIfUnchanged only [↓RA, RB, RS, fx213, p1, p2, p3, p4, reduceIte, p5, p6, p7, p8, c1, c2, c3]
        have h := run_some h
        obtain rfl : _ = r := h
        refine FinH.l ?_
        simp -failIfUnchanged only [↓RA, RB, RS, fx213, p1, p2, p3, p4, reduceIte, p5, p6, p7, p8, c1, c2, c3]
      · replace h := run_f c3 h
        simp -failIfUnchanged only [↓RA, RB, RS, fx213, p1, p2, p3, p4, reduceIte, p5, p6, p7, p8, c1, c2, c3]
        obtain ⟨v24, hv24, h⟩ := run_bind h
        refine CallH.mk [false, false] (slices_ContainsFunc_Simpl_SizeEdge_impl_SizeEdge_sat (fun _ _ hh => impl_IsValidCyclic_2_1_sat hh) (by simp only [CapsOk_nil, CapsOk_cons]) hv24) ?_ ?_ <;> simp -failIfUnchanged only [↓RA, RB, RS, fx213, p1, p2, p3, p4, reduceIte, p5, p6, p7, p8, c1, c2, c3]
        have h := run_some h
        obtain rfl : _ = r := h
        refine FinH.l ?_
        simp -failIfUnchanged only [↓RA, RB, RS, fx213, p1, p2, p3, p4, reduceIte, p5, p6, p7, p8, c1, c2, c3]
  · replace h := run_f c1 h
    simp -failIfUnchanged only [↓RA, RB, RS, fx213, p1, p2, p3, p4, reduceIte, p5, p6, p7, p8, c1]
    have h := run_some h
    obtain rfl : _ = r := h
    refine FinH.l ?_
    simp -failIfUnchanged only [↓RA, RB, RS, fx213, p1, p2, p3, p4, reduceIte, p5, p6, p7, p8, c1]

def fx292 := And.intro @ty_3 <| And.intro @zc_3 <| And.intro @z_3 <| And.intro @ty_48 <| And.intro @zc_48 <| And.intro @z_48 <| And.intro @fo_48_0 <| And.intro @fi_48_0 <| And.intro @ft_48_0 <| And.intro @fo_48_1 <| And.intro @fi_48_1 <| And.intro @ft_48_1 <| And.intro @fo_48_2 <| And.intro @fi_48_2 <| And.intro @ft_48_2 <| And.intro @lay_48 <| And.intro @ty_56 <| And.intro @zc_56 <| And.intro @z_56 <| And.intro @es_56 <| And.intro @eb_56 <| And.intro @sl_56 <| And.intro @is_56 <| And.intro @el_56 <| And.intro @ze_56 <| @ez_56
set_option maxHeartbeats 4000000 in
theorem slices_IndexFunc_Simpl_SizeGraph_impl_SizeGraph_sat {a0 : List SizeGraph} {a1 : SizeGraph → Option Bool} {a1_id : FuncId} {a1_cs : List PV} (a1_ok : ∀ y0 r, a1 y0 = some r → Sat Try.prog a1_id (((SizeGraph.pv false) y0) :: a1_cs) (B r)) (a1_cz : CapsOk a1_cs = True) {r : Int} (h : slices_IndexFunc_Simpl_SizeGraph_impl_SizeGraph a0 a1 = some r) : Sat Try.prog 292 [(.sl false 3 (a0.map (SizeGraph.pv false))), .clo a1_id a1_cs] (I r) := by
  replace h := Run.of h
  unfold slices_IndexFunc_Simpl_SizeGraph_impl_SizeGraph at h
  refine Sat.of_m (nt := 19) (rs := [.tmp 4]) (n := 100000) Try.func292 rfl rfl rfl rfl (by simp) ?_
  simp -failIfUnchanged only [↓RA, RB, RS, fx292, a1_cz, p1, p2, p3, p4, reduceIte, p5, p6, p7, p8]
  refine Mg.know_sl (b := false) (sz := 3) (es := a0.map (SizeGraph.pv false)) 0 (by simp -failIfUnchanged only [↓RA, RB, RS, fx292, a1_cz, p1, p2, p3, p4, reduceIte, p5, p6, p7, p8]) fun hl0 => ?_; rw [List.length_map] at hl0
  replace h := run_loop h
  refine Mg.forN h (fun i2 s2 => [(0, .val (.pv (.sl false 3 (a0.map (SizeGraph.pv false))))), (1, .val (.pv (.clo a1_id a1_cs))), (7, .val (.pv (I (a0.length : Int)))), (8, .val (.pv (I (i2 : Int))))]) (fun i2 s2 => []) (St.le_mk2 (by simp -failIfUnchanged only [↓RA, RB, RS, fx292, a1_cz, p1, p2, p3, p4, reduceIte, p5, p6, p7, p8])) (fun i2 s2 hi h => ?_) (fun s2 h => ?_)
  · have w2 := wrap_succ (i := i2) (by omega)
    simp -failIfUnchanged only [↓RA, RB, RS, fx292, a1_cz, p1, p2, p3, p4, reduceIte, p5, p6, p7, p8]
    refine CondH.tt (decide_eq_true (by omega)) (fun c1 => ?_)
    simp -failIfUnchanged only [↓RA, RB, RS, fx292, a1_cz, p1, p2, p3, p4, reduceIte, p5, p6, p7, p8, c1]
    obtain ⟨v14, hv14, h⟩ := run_bind h
    refine IdxH.mk (f := (SizeGraph.pv false)) hv14 ?_ ?_ <;> simp -failIfUnchanged only [↓RA, RB, RS, fx292, a1_cz, p1, p2, p3, p4, reduceIte, p5, p6, p7, p8, c1]
    obtain ⟨v16, hv16, h⟩ := run_bind h
    refine CallH.mk [false] (a1_ok _ _ hv16) ?_ ?_ <;> simp -failIfUnchanged only [↓RA, RB, RS, fx292, a1_cz, p1, p2, p3, p4, reduceIte, p5, p6, p7, p8, c1]
    refine CondH.mk (fun c2 => ?_) (fun c2 => ?_)
    · replace h := run_t c2 h
      simp -failIfUnchanged only [↓RA, RB, RS, fx292, a1_cz, p1, p2, p3, p4, reduceIte, p5, p6, p7, p8, c1, c2]
      have h := run_some h
      obtain rfl : _ = r := h
      refine FinH.l ?_
      simp -failIfUnchanged only [↓RA, RB, RS, fx292, a1_cz, p1, p2, p3, p4, reduceIte, p5, p6, p7, p8, c1, c2]
    · replace h := run_f c2 h
      simp -failIfUnchanged only [↓RA, RB, RS, fx292, a1_cz, p1, p2, p3, p4, reduceIte, p5, p6, p7, p8, c1, c2]
      have h := run_some h
      refine RdH.mk ⟨_, h, ?_⟩
      refine St.le_mk2 ?_
      simp -failIfUnchanged only [↓RA, RB, RS, fx292, a1_cz, p1, p2, p3, p4, reduceIte, p5, p6, p7, p8, c1, c2, w2]
  · simp -failIfUnchanged only [↓RA, RB, RS, fx292, a1_cz, p1, p2, p3, p4, reduceIte, p5, p6, p7, p8]
    refine CondH.ff (decide_eq_false (by omega)) (fun c3 => ?_)
    simp -failIfUnchanged only [↓RA, RB, RS, fx292, a1_cz, p1, p2, p3, p4, reduceIte, p5, p6, p7, p8, c3]
    have h := run_some h
    obtain rfl : _ = r := h
    refine FinH.l ?_
    simp -failIfUnchanged only [↓RA, RB, RS, fx292, a1_cz, p1, p2, p3, p4, reduceIte, p5, p6, p7, p8, c3]

def fx212 := And.intro @ty_3 <| And.intro @zc_3 <| And.intro @z_3 <| And.intro @ty_56 <| And.intro @zc_56 <| And.intro @z_56 <| And.intro @es_56 <| And.intro @eb_56 <| And.intro @sl_56 <| And.intro @is_56 <| And.intro @el_56 <| And.intro @ze_56 <| And.intro @ez_56 <| And.intro @ty_145 <| And.intro @zc_145 <| @z_145
set_option maxHeartbeats 4000000 in
theorem slices_ContainsFunc_Simpl_SizeGraph_impl_SizeGraph_sat {a0 : List SizeGraph} {a1 : SizeGraph → Option Bool} {a1_id : FuncId} {a1_cs : List PV} (a1_ok : ∀ y0 r, a1 y0 = some r → Sat Try.prog a1_id (((SizeGraph.pv false) y0) :: a1_cs) (B r)) (a1_cz : CapsOk a1_cs = True) {r : Bool} (h : slices_ContainsFunc_Simpl_SizeGraph_impl_SizeGraph a0 a1 = some r) : Sat Try.prog 212 [(.sl false 3 (a0.map (SizeGraph.pv false))), .clo a1_id a1_cs] (B r) := by
  replace h := Run.of h
  unfold slices_ContainsFunc_Simpl_SizeGraph_impl_SizeGraph at h
  refine Sat.of_m (nt := 9) (rs := [.tmp 4]) (n := 100000) Try.func212 rfl rfl rfl rfl (by simp) ?_
  simp -failIfUnchanged only [↓RA, RB, RS, fx212, a1_cz, p1, p2, p3, p4, reduceIte, p5, p6, p7, p8]
  obtain ⟨v7, hv7, h⟩ := run_bind h
  refine CallH.mk [false, false] (slices_IndexFunc_Simpl_SizeGraph_impl_SizeGraph_sat a1_ok a1_cz hv7) ?_ ?_ <;> simp -failIfUnchanged only [↓RA, RB, RS, fx212, a1_cz, p1, p2, p3, p4, reduceIte, p5, p6, p7, p8]
  have h := run_some h
  obtain rfl : _ = r := h
  refine FinH.l ?_
  simp -failIfUnchanged only [↓RA, RB, RS, fx212, a1_cz, p1, p2, p3, p4, reduceIte, p5, p6, p7, p8]

def fx109 := And.intro @ty_3 <| And.intro @zc_3 <| And.intro @z_3 <| And.intro @ty_4 <| And.intro @zc_4 <| And.intro @z_4 <| And.intro @u_4 <| And.intro @ty_55 <| And.intro @zc_55 <| And.intro @z_55 <| And.intro @es_55 <| And.intro @eb_55 <| And.intro @sl_55 <| And.intro @is_55 <| And.intro @el_55 <| And.intro @ze_55 <| And.intro @ez_55 <| And.intro @ty_56 <| And.intro @zc_56 <| And.intro @z_56 <| And.intro @es_56 <| And.intro @eb_56 <| And.intro @sl_56 <| And.intro @is_56 <| And.intro @el_56 <| And.intro @ze_56 <| And.intro @ez_56 <| And.intro @ty_58 <| And.intro @zc_58 <| And.intro @z_58 <| And.intro @fo_58_0 <| And.intro @fi_58_0 <| And.intro @ft_58_0 <| And.intro @fo_58_1 <| And.intro @fi_58_1 <| And.intro @ft_58_1 <| And.intro @lay_58 <| And.intro @ty_144 <| And.intro @zc_144 <| And.intro @z_144 <| And.intro @ty_145 <| And.intro @zc_145 <| @z_145
set_option maxHeartbeats 4000000 in
theorem impl_IsValidCyclic_sat {a0 : CyclicProof}  {r : Bool} (h : impl_IsValidCyclic a0 = some r) : Sat Try.prog 109 [((CyclicProof.pv false) a0)] (B r) := by
  replace h := Run.of h
  unfold impl_IsValidCyclic at h
  refine Sat.of_m (nt := 26) (rs := [.tmp 2]) (n := 100000) Try.func109 rfl rfl rfl rfl (by simp) ?_
  simp -failIfUnchanged only [↓RA, RB, RS, fx109, p1, p2, p3, p4, reduceIte, p5, p6, p7, p8]
  repeat (first | with_reducible refine noR_and (by repeat (first | exact noR_empty _ _ | exact noR_nilS _ _ | refine noR_mk _ _ _ _ _ rfl ?_ | refine noR_mkS _ _ _ _ _ rfl ?_)) ?_ | with_reducible refine noC_and (by repeat (first | exact noC_empty _ _ (by simp -failIfUnchanged only [↓RA, RB, RS, fx109, p1, p2, p3, p4, reduceIte, p5, p6, p7, p8]) | exact noC_nilS _ _ (by simp -failIfUnchanged only [↓RA, RB, RS, fx109, p1, p2, p3, p4, reduceIte, p5, p6, p7, p8]) | refine noC_mk _ _ _ _ _ rfl ?_ | refine noC_mkS _ _ _ _ _ rfl ?_)) ?_ | with_reducible refine and_ac ?_ | with_reducible refine And.intro (a := _ = List.range _) (by rfl) ?_)
  obtain ⟨v8, hv8, h⟩ := run_bind h
  refine CallH.mk [false, false, false] (impl_within_sat hv8) ?_ ?_ <;> simp -failIfUnchanged only [↓RA, RB, RS, fx109, p1, p2, p3, p4, reduceIte, p5, p6, p7, p8]
  refine CondH.mk (fun c1 => ?_) (fun c1 => ?_)
  · replace h := run_t c1 h
    simp -failIfUnchanged only [↓RA, RB, RS, fx109, p1, p2, p3, p4, reduceIte, p5, p6, p7, p8, c1]
    refine CondH.mk (fun c2 => ?_) (fun c2 => ?_)
    · replace h := run_t c2 h
      simp -failIfUnchanged only [↓RA, RB, RS, fx109, p1, p2, p3, p4, reduceIte, p5, p6, p7, p8, c1, c2]
      have h := run_some h
      obtain rfl : _ = r := h
      refine FinH.l ?_
      simp -failIfUnchanged only [↓RA, RB, RS, fx109, p1, p2, p3, p4, reduceIte, p5, p6, p7, p8, c1, c2]
    · replace h := run_f c2 h
      simp -failIfUnchanged only [↓RA, RB, RS, fx109, p1, p2, p3, p4, reduceIte, p5, p6, p7, p8, c1, c2]
      obtain ⟨v19, hv19, h⟩ := run_bind h
      refine CallH.mk [false, false] (slices_ContainsFunc_Sint_int_sat (fun _ _ hh => impl_IsValidCyclic_1_sat hh) (by simp only [CapsOk_nil, CapsOk_cons]) hv19) ?_ ?_ <;> simp -failIfUnchanged only [↓RA, RB, RS, fx109, p1, p2, p3, p4, reduceIte, p5, p6, p7, p8, c1, c2]
      refine CondH.mk (fun c3 => ?_) (fun c3 => ?_)
      · replace h := run_t c3 h
        simp -failIfUnchanged only [↓RA, RB, RS, fx109, p1, p2, p3, p4, reduceIte, p5, p6, p7, p8, c1, c2, c3]
        have h := run_some h
        obtain rfl : _ = r := h
        refine FinH.l ?_
        simp -failIfUnchanged only [↓RA, RB, RS, fx109, p1, p2, p3, p4, reduceIte, p5, p6, p7, p8, c1, c2, c3]
      · replace h := run_f c3 h
        simp -failIfUnchanged only [↓RA, RB, RS, fx109, p1, p2, p3, p4, reduceIte, p5, p6, p7, p8, c1, c2, c3]
        obtain ⟨v24, hv24, h⟩ := run_bind h
        refine CallH.mk [false, false] (slices_ContainsFunc_Simpl_SizeGraph_impl_SizeGraph_sat (fun _ _ hh => impl_IsValidCyclic_2_sat hh) (by simp only [CapsOk_nil, CapsOk_cons]) hv24) ?_ ?_ <;> simp -failIfUnchanged only [↓RA, RB, RS, fx109, p1, p2, p3, p4, reduceIte, p5, p6, p7, p8, c1, c2, c3]
        have h := run_some h
        obtain rfl : _ = r := h
        refine FinH.l ?_
        simp -failIfUnchanged only [↓RA, RB, RS, fx109, p1, p2, p3, p4, reduceIte, p5, p6, p7, p8, c1, c2, c3]
  · replace h := run_f c1 h
    simp -failIfUnchanged only [↓RA, RB, RS, fx109, p1, p2, p3, p4, reduceIte, p5, p6, p7, p8, c1]
    have h := run_some h
    obtain rfl : _ = r := h
    refine FinH.l ?_
    simp -failIfUnchanged only [↓RA, RB, RS, fx109, p1, p2, p3, p4, reduceIte, p5, p6, p7, p8, c1]

def fx133 := And.intro @ty_3 <| And.intro @zc_3 <| And.intro @z_3 <| And.intro @ty_4 <| And.intro @zc_4 <| And.intro @z_4 <| And.intro @u_4 <| And.intro @ty_48 <| And.intro @zc_48 <| And.intro @z_48 <| And.intro @fo_48_0 <| And.intro @fi_48_0 <| And.intro @ft_48_0 <| And.intro @fo_48_1 <| And.intro @fi_48_1 <| And.intro @ft_48_1 <| And.intro @fo_48_2 <| And.intro @fi_48_2 <| And.intro @ft_48_2 <| And.intro @lay_48 <| And.intro @ty_55 <| And.intro @zc_55 <| And.intro @z_55 <| And.intro @es_55 <| And.intro @eb_55 <| And.intro @sl_55 <| And.intro @is_55 <| And.intro @el_55 <| And.intro @ze_55 <| And.intro @ez_55 <| And.intro @ty_56 <| And.intro @zc_56 <| And.intro @z_56 <| And.intro @es_56 <| And.intro @eb_56 <| And.intro @sl_56 <| And.intro @is_56 <| And.intro @el_56 <| And.intro @ze_56 <| And.intro @ez_56 <| And.intro @ty_58 <| And.intro @zc_58 <| And.intro @z_58 <| And.intro @fo_58_0 <| And.intro @fi_58_0 <| And.intro @ft_58_0 <| And.intro @fo_58_1 <| And.intro @fi_58_1 <| And.intro @ft_58_1 <| And.intro @lay_58 <| @mixedT
set_option maxHeartbeats 4000000 in
theorem impl_isPath_sat {a0 : CyclicProof} {a1 : List Int}  {r : Bool} (h : impl_isPath a0 a1 = some r) : Sat Try.prog 133 [((CyclicProof.pv false) a0), (.sl false 1 (a1.map I))] (B r) := by
  replace h := Run.of h
  unfold impl_isPath at h
  refine Sat.of_m (nt := 48) (rs := [.tmp 4]) (n := 100000) Try.func133 rfl rfl rfl rfl (by simp) ?_
  simp -failIfUnchanged only [↓RA, RB, RS, fx133, p1, p2, p3, p4, reduceIte, p5, p6, p7, p8]
  repeat (first | with_reducible refine noR_and (by repeat (first | exact noR_empty _ _ | exact noR_nilS _ _ | refine noR_mk _ _ _ _ _ rfl ?_ | refine noR_mkS _ _ _ _ _ rfl ?_)) ?_ | with_reducible refine noC_and (by repeat (first | exact noC_empty _ _ (by simp -failIfUnchanged only [↓RA, RB, RS, fx133, p1, p2, p3, p4, reduceIte, p5, p6, p7, p8]) | exact noC_nilS _ _ (by simp -failIfUnchanged only [↓RA, RB, RS, fx133, p1, p2, p3, p4, reduceIte, p5, p6, p7, p8]) | refine noC_mk _ _ _ _ _ rfl ?_ | refine noC_mkS _ _ _ _ _ rfl ?_)) ?_ | with_reducible refine and_ac ?_ | with_reducible refine And.intro (a := _ = List.range _) (by rfl) ?_)
  refine Mg.know_sl (b := false) (sz := 1) (es := a1.map I) 1 (by simp -failIfUnchanged only [↓RA, RB, RS, fx133, p1, p2, p3, p4, reduceIte, p5, p6, p7, p8]) fun hl1 => ?_; rw [List.length_map] at hl1
  replace h := run_loop h
  refine Mg.forN h (fun i2 s2 => [(1, .val (.pv (.sl false 1 (a1.map I)))), (2, .box (.pv ((CyclicProof.pv false) a0))), (7, .val (.pv (.sl false 1 (a1.map I)))), (8, .val (.pv (I (a1.length : Int)))), (9, .val (.pv (I (i2 : Int))))]) (fun i2 s2 => []) (St.le_mk2 (by simp -failIfUnchanged only [↓RA, RB, RS, fx133, p1, p2, p3, p4, reduceIte, p5, p6, p7, p8])) (fun i2 s2 hi h => ?_) (fun s2 h => ?_)
  · have w2 := wrap_succ (i := i2) (by omega)
    simp -failIfUnchanged only [↓RA, RB, RS, fx133, p1, p2, p3, p4, reduceIte, p5, p6, p7, p8]
    refine CondH.tt (decide_eq_true (by omega)) (fun c1 => ?_)
    simp -failIfUnchanged only [↓RA, RB, RS, fx133, p1, p2, p3, p4, reduceIte, p5, p6, p7, p8, c1]
    obtain ⟨v12, hv12, h⟩ := run_bind h
    refine IdxH.mk (f := I) hv12 ?_ ?_ <;> simp -failIfUnchanged only [↓RA, RB, RS, fx133, p1, p2, p3, p4, reduceIte, p5, p6, p7, p8, c1]
    obtain ⟨v19, hv19, h⟩ := run_bind h
    refine CallH.mk [false, false, false] (impl_within_sat hv19) ?_ ?_ <;> simp -failIfUnchanged only [↓RA, RB, RS, fx133, p1, p2, p3, p4, reduceIte, p5, p6, p7, p8, c1]
    refine CondH.mk (fun c2 => ?_) (fun c2 => ?_)
    · replace h := run_t c2 h
      simp -failIfUnchanged only [↓RA, RB, RS, fx133, p1, p2, p3, p4, reduceIte, p5, p6, p7, p8, c1, c2]
      refine CondH.mk (fun c3 => ?_) (fun c3 => ?_)
      · replace h := run_t c3 h
        simp -failIfUnchanged only [↓RA, RB, RS, fx133, p1, p2, p3, p4, reduceIte, p5, p6, p7, p8, c1, c2, c3]
        obtain ⟨v30, hv30, h⟩ := run_bind h
        refine IdxH.mk (f := I) hv30 ?_ ?_ <;> simp -failIfUnchanged only [↓RA, RB, RS, fx133, p1, p2, p3, p4, reduceIte, p5, p6, p7, p8, c1, c2, c3]
        obtain ⟨v32, hv32, h⟩ := run_bind h
        refine IdxH.mk (f := (SizeGraph.pv false)) hv32 ?_ ?_ <;> simp -failIfUnchanged only [↓RA, RB, RS, fx133, p1, p2, p3, p4, reduceIte, p5, p6, p7, p8, c1, c2, c3]
        obtain ⟨v38, hv38, h⟩ := run_bind h
        refine IdxH.mk (f := (SizeGraph.pv false)) hv38 ?_ ?_ <;> simp -failIfUnchanged only [↓RA, RB, RS, fx133, p1, p2, p3, p4, reduceIte, p5, p6, p7, p8, c1, c2, c3]
        refine And.intro (DrawH.none (by rfl) (by first | rfl | (simp -failIfUnchanged only [↓RA, RB, RS, fx133, p1, p2, p3, p4, reduceIte, p5, p6, p7, p8] <;> rfl)) (by first | rfl | (simp -failIfUnchanged only [↓RA, RB, RS, fx133, p1, p2, p3, p4, reduceIte, p5, p6, p7, p8] <;> rfl)) (by first | rfl | (simp -failIfUnchanged only [↓RA, RB, RS, fx133, p1, p2, p3, p4, reduceIte, p5, p6, p7, p8] <;> rfl))) ?_
        simp -failIfUnchanged only [↓RA, RB, RS, fx133, p1, p2, p3, p4, reduceIte, p5, p6, p7, p8, c1, c2, c3]
        refine CondH.mk (fun c4 => ?_) (fun c4 => ?_)
        · replace h := run_t c4 h
          simp -failIfUnchanged only [↓RA, RB, RS, fx133, p1, p2, p3, p4, reduceIte, p5, p6, p7, p8, c1, c2, c3, c4]
          have h := run_some h
          refine RdH.mk ⟨_, h, ?_⟩
          refine St.le_mk2 ?_
          simp -failIfUnchanged only [↓RA, RB, RS, fx133, p1, p2, p3, p4, reduceIte, p5, p6, p7, p8, c1, c2, c3, c4, w2]
        · replace h := run_f c4 h
          simp -failIfUnchanged only [↓RA, RB, RS, fx133, p1, p2, p3, p4, reduceIte, p5, p6, p7, p8, c1, c2, c3, c4]
          have h := run_some h
          obtain rfl : _ = r := h
          refine FinH.l ?_
          simp -failIfUnchanged only [↓RA, RB, RS, fx133, p1, p2, p3, p4, reduceIte, p5, p6, p7, p8, c1, c2, c3, c4]
      · replace h := run_f c3 h
        simp -failIfUnchanged only [↓RA, RB, RS, fx133, p1, p2, p3, p4, reduceIte, p5, p6, p7, p8, c1, c2, c3]
        refine And.intro (DrawH.none (by rfl) (by first | rfl | (simp -failIfUnchanged only [↓RA, RB, RS, fx133, p1, p2, p3, p4, reduceIte, p5, p6, p7, p8] <;> rfl)) (by first | rfl | (simp -failIfUnchanged only [↓RA, RB, RS, fx133, p1, p2, p3, p4, reduceIte, p5, p6, p7, p8] <;> rfl)) (by first | rfl | (simp -failIfUnchanged only [↓RA, RB, RS, fx133, p1, p2, p3, p4, reduceIte, p5, p6, p7, p8] <;> rfl))) ?_
        simp -failIfUnchanged only [↓RA, RB, RS, fx133, p1, p2, p3, p4, reduceIte, p5, p6, p7, p8, c1, c2, c3]
        have h := run_some h
        refine RdH.mk ⟨_, h, ?_⟩
        refine St.le_mk2 ?_
        simp -failIfUnchanged only [↓RA, RB, RS, fx133, p1, p2, p3, p4, reduceIte, p5, p6, p7, p8, c1, c2, c3, w2]
    · replace h := run_f c2 h
      simp -failIfUnchanged only [↓RA, RB, RS, fx133, p1, p2, p3, p4, reduceIte, p5, p6, p7, p8, c1, c2]
      refine And.intro (DrawH.none (by rfl) (by first | rfl | (simp -failIfUnchanged only [↓RA, RB, RS, fx133, p1, p2, p3, p4, reduceIte, p5, p6, p7, p8] <;> rfl)) (by first | rfl | (simp -failIfUnchanged only [↓RA, RB, RS, fx133, p1, p2, p3, p4, reduceIte, p5, p6, p7, p8] <;> rfl)) (by first | rfl | (simp -failIfUnchanged only [↓RA, RB, RS, fx133, p1, p2, p3, p4, reduceIte, p5, p6, p7, p8] <;> rfl))) ?_
      simp -failIfUnchanged only [↓RA, RB, RS, fx133, p1, p2, p3, p4, reduceIte, p5, p6, p7, p8, c1, c2]
      have h := run_some h
      obtain rfl : _ = r := h
      refine FinH.l ?_
      simp -failIfUnchanged only [↓RA, RB, RS, fx133, p1, p2, p3, p4, reduceIte, p5, p6, p7, p8, c1, c2]
  · simp -failIfUnchanged only [↓RA, RB, RS, fx133, p1, p2, p3, p4, reduceIte, p5, p6, p7, p8]
    refine CondH.ff (decide_eq_false (by omega)) (fun c5 => ?_)
    simp -failIfUnchanged only [↓RA, RB, RS, fx133, p1, p2, p3, p4, reduceIte, p5, p6, p7, p8, c5]
    have h := run_some h
    obtain rfl : _ = r := h
    refine FinH.l ?_
    simp -failIfUnchanged only [↓RA, RB, RS, fx133, p1, p2, p3, p4, reduceIte, p5, p6, p7, p8, c5]

def fx237 := And.intro @ty_46 <| And.intro @zc_46 <| And.intro @z_46 <| And.intro @es_46 <| And.intro @eb_46 <| And.intro @sl_46 <| And.intro @is_46 <| And.intro @el_46 <| And.intro @ze_46 <| @ez_46
set_option maxHeartbeats 4000000 in
theorem slices_Clone_Simpl_SizeEdge_impl_SizeEdge_sat {a0 : List SizeEdge}  {r : List SizeEdge} (h : slices_Clone_Simpl_SizeEdge_impl_SizeEdge a0 = some r) : Sat Try.prog 237 [(.sl false 3 (a0.map (SizeEdge.pv false)))] (.sl true 3 (r.map (SizeEdge.pv false))) := by
  replace h := Run.of h
  unfold slices_Clone_Simpl_SizeEdge_impl_SizeEdge at h
  refine Sat.of_m (nt := 8) (rs := [.tmp 2]) (n := 100000) Try.func237 rfl rfl rfl rfl (by simp) ?_
  simp -failIfUnchanged only [↓RA, RB, RS, fx237, p1, p2, p3, p4, reduceIte, p5, p6, p7, p8]
  refine NilH.mk (fun e => ?_) ?_
  · obtain rfl : a0 = [] := List.map_eq_nil_iff.1 e
    simp only [app_nn, Option.bind_some] at h
    simp -failIfUnchanged only [↓RA, RB, RS, fx237, p1, p2, p3, p4, reduceIte, p5, p6, p7, p8]
    have h := run_some h
    obtain rfl : _ = r := h
    refine FinH.l ?_
    simp -failIfUnchanged only [↓RA, RB, RS, fx237, p1, p2, p3, p4, reduceIte, p5, p6, p7, p8]
  · skip
    simp -failIfUnchanged only [↓RA, RB, RS, fx237, p1, p2, p3, p4, reduceIte, p5, p6, p7, p8]
    repeat (first | with_reducible refine noR_and (by repeat (first | exact noR_empty _ _ | exact noR_nilS _ _ | refine noR_mk _ _ _ _ _ rfl ?_ | refine noR_mkS _ _ _ _ _ rfl ?_)) ?_ | with_reducible refine noC_and (by repeat (first | exact noC_empty _ _ (by simp -failIfUnchanged only [↓RA, RB, RS, fx237, p1, p2, p3, p4, reduceIte, p5, p6, p7, p8]) | exact noC_nilS _ _ (by simp -failIfUnchanged only [↓RA, RB, RS, fx237, p1, p2, p3, p4, reduceIte, p5, p6, p7, p8]) | refine noC_mk _ _ _ _ _ rfl ?_ | refine noC_mkS _ _ _ _ _ rfl ?_)) ?_ | with_reducible refine and_ac ?_ | with_reducible refine And.intro (a := _ = List.range _) (by rfl) ?_)
    obtain ⟨v7, hv7, h⟩ := run_bind h
    refine AppH.mk (f := (SizeEdge.pv false)) (fun a => SizeEdge.psize _ a) hv7 ?_ ?_ ?_ <;> simp -failIfUnchanged only [↓RA, RB, RS, fx237, p1, p2, p3, p4, reduceIte, p5, p6, p7, p8]
    repeat (first | with_reducible refine noR_and (by repeat (first | exact noR_empty _ _ | exact noR_nilS _ _ | refine noR_mk _ _ _ _ _ rfl ?_ | refine noR_mkS _ _ _ _ _ rfl ?_)) ?_ | with_reducible refine noC_and (by repeat (first | exact noC_empty _ _ (by simp -failIfUnchanged only [↓RA, RB, RS, fx237, p1, p2, p3, p4, reduceIte, p5, p6, p7, p8]) | exact noC_nilS _ _ (by simp -failIfUnchanged only [↓RA, RB, RS, fx237, p1, p2, p3, p4, reduceIte, p5, p6, p7, p8]) | refine noC_mk _ _ _ _ _ rfl ?_ | refine noC_mkS _ _ _ _ _ rfl ?_)) ?_ | with_reducible refine and_ac ?_ | with_reducible refine And.intro (a := _ = List.range _) (by rfl) ?_)
    have h := run_some h
    obtain rfl : _ = r := h
    refine FinH.l ?_
    simp -failIfUnchanged only [↓RA, RB, RS, fx237, p1, p2, p3, p4, reduceIte, p5, p6, p7, p8]

def fx134 := And.intro @ty_46 <| And.intro @zc_46 <| And.intro @z_46 <| And.intro @es_46 <| And.intro @eb_46 <| And.intro @sl_46 <| And.intro @is_46 <| And.intro @el_46 <| And.intro @ze_46 <| And.intro @ez_46 <| And.intro @ty_48 <| And.intro @zc_48 <| And.intro @z_48 <| And.intro @fo_48_0 <| And.intro @fi_48_0 <| And.intro @ft_48_0 <| And.intro @fo_48_1 <| And.intro @fi_48_1 <| And.intro @ft_48_1 <| And.intro @fo_48_2 <| And.intro @fi_48_2 <| And.intro @ft_48_2 <| @lay_48
set_option maxHeartbeats 4000000 in
theorem impl_copyGraph_sat {a0 : SizeGraph}  {r : SizeGraph} (h : impl_copyGraph a0 = some r) : Sat Try.prog 134 [((SizeGraph.pv false) a0)] ((SizeGraph.pv true) r) := by
  replace h := Run.of h
  unfold impl_copyGraph at h
  refine Sat.of_m (nt := 8) (rs := [.cell 2 48]) (n := 100000) Try.func134 rfl rfl rfl rfl (by simp) ?_
  simp -failIfUnchanged only [↓RA, RB, RS, fx134, p1, p2, p3, p4, reduceIte, p5, p6, p7, p8]
  repeat (first | with_reducible refine noR_and (by repeat (first | exact noR_empty _ _ | exact noR_nilS _ _ | refine noR_mk _ _ _ _ _ rfl ?_ | refine noR_mkS _ _ _ _ _ rfl ?_)) ?_ | with_reducible refine noC_and (by repeat (first | exact noC_empty _ _ (by simp -failIfUnchanged only [↓RA, RB, RS, fx134, p1, p2, p3, p4, reduceIte, p5, p6, p7, p8]) | exact noC_nilS _ _ (by simp -failIfUnchanged only [↓RA, RB, RS, fx134, p1, p2, p3, p4, reduceIte, p5, p6, p7, p8]) | refine noC_mk _ _ _ _ _ rfl ?_ | refine noC_mkS _ _ _ _ _ rfl ?_)) ?_ | with_reducible refine and_ac ?_ | with_reducible refine And.intro (a := _ = List.range _) (by rfl) ?_)
  obtain ⟨v5, hv5, h⟩ := run_bind h
  refine CallH.mk [false] (slices_Clone_Simpl_SizeEdge_impl_SizeEdge_sat hv5) ?_ ?_ <;> simp -failIfUnchanged only [↓RA, RB, RS, fx134, p1, p2, p3, p4, reduceIte, p5, p6, p7, p8]
  repeat (first | with_reducible refine noR_and (by repeat (first | exact noR_empty _ _ | exact noR_nilS _ _ | refine noR_mk _ _ _ _ _ rfl ?_ | refine noR_mkS _ _ _ _ _ rfl ?_)) ?_ | with_reducible refine noC_and (by repeat (first | exact noC_empty _ _ (by simp -failIfUnchanged only [↓RA, RB, RS, fx134, p1, p2, p3, p4, reduceIte, p5, p6, p7, p8]) | exact noC_nilS _ _ (by simp -failIfUnchanged only [↓RA, RB, RS, fx134, p1, p2, p3, p4, reduceIte, p5, p6, p7, p8]) | refine noC_mk _ _ _ _ _ rfl ?_ | refine noC_mkS _ _ _ _ _ rfl ?_)) ?_ | with_reducible refine and_ac ?_ | with_reducible refine And.intro (a := _ = List.range _) (by rfl) ?_)
  have h := run_some h
  obtain rfl : _ = r := h
  refine FinH.l ?_
  simp -failIfUnchanged only [↓RA, RB, RS, fx134, p1, p2, p3, p4, reduceIte, p5, p6, p7, p8]

def fx206 := And.intro @ty_3 <| And.intro @zc_3 <| And.intro @z_3 <| And.intro @ty_46 <| And.intro @zc_46 <| And.intro @z_46 <| And.intro @es_46 <| And.intro @eb_46 <| And.intro @sl_46 <| And.intro @is_46 <| And.intro @el_46 <| And.intro @ze_46 <| And.intro @ez_46 <| And.intro @ty_148 <| And.intro @zc_148 <| And.intro @z_148 <| And.intro @fo_148_0 <| And.intro @fi_148_0 <| And.intro @ft_148_0 <| And.intro @fo_148_1 <| And.intro @fi_148_1 <| And.intro @ft_148_1 <| And.intro @fo_148_2 <| And.intro @fi_148_2 <| And.intro @ft_148_2 <| And.intro @lay_148 <| And.intro @ty_196 <| And.intro @zc_196 <| And.intro @z_196 <| And.intro @uk_3 <| And.intro @uk_196 <| @mixedT
set_option maxHeartbeats 4000000 in
theorem slices_BinarySearchFunc_Simpl_SizeEdge_impl_SizeEdge_impl_SizeEdge_sat {a0 : List SizeEdge} {a1 : SizeEdge} {a2 : SizeEdge → SizeEdge → Option Int} {a2_id : FuncId} {a2_cs : List PV} (a2_ok : ∀ y0 y1 r, a2 y0 y1 = some r → Sat Try.prog a2_id (((SizeEdge.pv false) y0) :: ((SizeEdge.pv false) y1) :: a2_cs) (I r)) (a2_cz : CapsOk a2_cs = True) {r : Int × Bool} (h : slices_BinarySearchFunc_Simpl_SizeEdge_impl_SizeEdge_impl_SizeEdge a0 a1 a2 = some r) : Sat Try.prog 206 [(.sl false 3 (a0.map (SizeEdge.pv false))), ((SizeEdge.pv false) a1), .clo a2_id a2_cs] (.tup [(I r.1), (B r.2)]) := by
  replace h := Run.of h
  unfold slices_BinarySearchFunc_Simpl_SizeEdge_impl_SizeEdge_impl_SizeEdge at h
  refine Sat.of_m (nt := 49) (rs := [.tmp 6, .tmp 7]) (n := 100000) Try.func206 rfl rfl rfl rfl (by simp) ?_
  simp -failIfUnchanged only [↓RA, RB, RS, fx206, a2_cz, p1, p2, p3, p4, reduceIte, p5, p6, p7, p8]
  repeat (first | with_reducible refine noR_and (by repeat (first | exact noR_empty _ _ | exact noR_nilS _ _ | refine noR_mk _ _ _ _ _ rfl ?_ | refine noR_mkS _ _ _ _ _ rfl ?_)) ?_ | with_reducible refine noC_and (by repeat (first | exact noC_empty _ _ (by simp -failIfUnchanged only [↓RA, RB, RS, fx206, a2_cz, p1, p2, p3, p4, reduceIte, p5, p6, p7, p8]) | exact noC_nilS _ _ (by simp -failIfUnchanged only [↓RA, RB, RS, fx206, a2_cz, p1, p2, p3, p4, reduceIte, p5, p6, p7, p8]) | refine noC_mk _ _ _ _ _ rfl ?_ | refine noC_mkS _ _ _ _ _ rfl ?_)) ?_ | with_reducible refine and_ac ?_ | with_reducible refine And.intro (a := _ = List.range _) (by rfl) ?_)
  replace h := run_loop h
  refine Mg.whileN h (fun s3 => [(0, .val (.pv (.sl false 3 (a0.map (SizeEdge.pv false))))), (2, .val (.pv (.clo a2_id a2_cs))), (4, .box (.pv ((SizeEdge.pv false) a1))), (8, .val (.pv (I (a0.length : Int)))), (9, .val (.pv (I s3.1))), (10, .val (.pv (I s3.2)))]) (fun s3 => []) (St.le_mk2 (by simp -failIfUnchanged only [↓RA, RB, RS, fx206, a2_cz, p1, p2, p3, p4, reduceIte, p5, p6, p7, p8])) (fun n3 s3 h => ?_)
  simp -failIfUnchanged only [↓RA, RB, RS, fx206, a2_cz, p1, p2, p3, p4, reduceIte, p5, p6, p7, p8]
  refine CondH.mk (fun c1 => ?_) (fun c1 => ?_)
  · replace h := run_t c1 h
    simp -failIfUnchanged only [↓RA, RB, RS, fx206, a2_cz, p1, p2, p3, p4, reduceIte, p5, p6, p7, p8, c1]
    obtain ⟨v22, hv22, h⟩ := run_bind h
    refine ShrH.mk hv22 ?_
    simp -failIfUnchanged only [↓RA, RB, RS, fx206, a2_cz, p1, p2, p3, p4, reduceIte, p5, p6, p7, p8, c1]
    obtain ⟨v27, hv27, h⟩ := run_bind h
    refine IdxH.mk (f := (SizeEdge.pv false)) hv27 ?_ ?_ <;> simp -failIfUnchanged only [↓RA, RB, RS, fx206, a2_cz, p1, p2, p3, p4, reduceIte, p5, p6, p7, p8, c1]
    obtain ⟨v30, hv30, h⟩ := run_bind h
    refine CallH.mk [false, false] (a2_ok _ _ _ hv30) ?_ ?_ <;> simp -failIfUnchanged only [↓RA, RB, RS, fx206, a2_cz, p1, p2, p3, p4, reduceIte, p5, p6, p7, p8, c1]
    refine And.intro (DrawH.none (by rfl) (by first | rfl | (simp -failIfUnchanged only [↓RA, RB, RS, fx206, a2_cz, p1, p2, p3, p4, reduceIte, p5, p6, p7, p8] <;> rfl)) (by first | rfl | (simp -failIfUnchanged only [↓RA, RB, RS, fx206, a2_cz, p1, p2, p3, p4, reduceIte, p5, p6, p7, p8] <;> rfl)) (by first | rfl | (simp -failIfUnchanged only [↓RA, RB, RS, fx206, a2_cz, p1, p2, p3, p4, reduceIte, p5, p6, p7, p8] <;> rfl))) ?_
    simp -failIfUnchanged only [↓RA, RB, RS, fx206, a2_cz, p1, p2, p3, p4, reduceIte, p5, p6, p7, p8, c1]
    refine CondH.mk (fun c2 => ?_) (fun c2 => ?_)
    · replace h := run_t c2 h
      simp -failIfUnchanged only [↓RA, RB, RS, fx206, a2_cz, p1, p2, p3, p4, reduceIte, p5, p6, p7, p8, c1, c2]
      have h := run_some h
      refine RdH.mk ⟨_, h, ?_⟩
      refine St.le_mk2 ?_
      simp -failIfUnchanged only [↓RA, RB, RS, fx206, a2_cz, p1, p2, p3, p4, reduceIte, p5, p6, p7, p8, c1, c2]
    · replace h := run_f c2 h
      simp -failIfUnchanged only [↓RA, RB, RS, fx206, a2_cz, p1, p2, p3, p4, reduceIte, p5, p6, p7, p8, c1, c2]
      have h := run_some h
      refine RdH.mk ⟨_, h, ?_⟩
      refine St.le_mk2 ?_
      simp -failIfUnchanged only [↓RA, RB, RS, fx206, a2_cz, p1, p2, p3, p4, reduceIte, p5, p6, p7, p8, c1, c2]
  · replace h := run_f c1 h
    simp -failIfUnchanged only [↓RA, RB, RS, fx206, a2_cz, p1, p2, p3, p4, reduceIte, p5, p6, p7, p8, c1]
    have h := run_some h
    refine CondH.mk (fun c3 => ?_) (fun c3 => ?_)
    · replace h := run_t c3 h
      simp -failIfUnchanged only [↓RA, RB, RS, fx206, a2_cz, p1, p2, p3, p4, reduceIte, p5, p6, p7, p8, c1, c3]
      obtain ⟨v43, hv43, h⟩ := run_bind h
      refine IdxH.mk (f := (SizeEdge.pv false)) hv43 ?_ ?_ <;> simp -failIfUnchanged only [↓RA, RB, RS, fx206, a2_cz, p1, p2, p3, p4, reduceIte, p5, p6, p7, p8, c1, c3]
      obtain ⟨v46, hv46, h⟩ := run_bind h
      refine CallH.mk [false, false] (a2_ok _ _ _ hv46) ?_ ?_ <;> simp -failIfUnchanged only [↓RA, RB, RS, fx206, a2_cz, p1, p2, p3, p4, reduceIte, p5, p6, p7, p8, c1, c3]
      refine And.intro (DrawH.none (by rfl) (by first | rfl | (simp -failIfUnchanged only [↓RA, RB, RS, fx206, a2_cz, p1, p2, p3, p4, reduceIte, p5, p6, p7, p8] <;> rfl)) (by first | rfl | (simp -failIfUnchanged only [↓RA, RB, RS, fx206, a2_cz, p1, p2, p3, p4, reduceIte, p5, p6, p7, p8] <;> rfl)) (by first | rfl | (simp -failIfUnchanged only [↓RA, RB, RS, fx206, a2_cz, p1, p2, p3, p4, reduceIte, p5, p6, p7, p8] <;> rfl))) ?_
      simp -failIfUnchanged only [↓RA, RB, RS, fx206, a2_cz, p1, p2, p3, p4, reduceIte, p5, p6, p7, p8, c1, c3]
      have h := run_some h
      obtain rfl : _ = r := h
      refine FinH.l ?_
      simp -failIfUnchanged only [↓RA, RB, RS, fx206, a2_cz, p1, p2, p3, p4, reduceIte, p5, p6, p7, p8, c1, c3]
    · replace h := run_f c3 h
      simp -failIfUnchanged only [↓RA, RB, RS, fx206, a2_cz, p1, p2, p3, p4, reduceIte, p5, p6, p7, p8, c1, c3]
      refine And.intro (DrawH.none (by rfl) (by first | rfl | (simp -failIfUnchanged only [↓RA, RB, RS, fx206, a2_cz, p1, p2, p3, p4, reduceIte, p5, p6, p7, p8] <;> rfl)) (by first | rfl | (simp -failIfUnchanged only [↓RA, RB, RS, fx206, a2_cz, p1, p2, p3, p4, reduceIte, p5, p6, p7, p8] <;> rfl)) (by first | rfl | (simp -failIfUnchanged only [↓RA, RB, RS, fx206, a2_cz, p1, p2, p3, p4, reduceIte, p5, p6, p7, p8] <;> rfl))) ?_
      simp -failIfUnchanged only [↓RA, RB, RS, fx206, a2_cz, p1, p2, p3, p4, reduceIte, p5, p6, p7, p8, c1, c3]
      have h := run_some h
      obtain rfl : _ = r := h
      refine FinH.l ?_
      simp -failIfUnchanged only [↓RA, RB, RS, fx206, a2_cz, p1, p2, p3, p4, reduceIte, p5, p6, p7, p8, c1, c3]


def fx105 := And.intro @ty_3 <| And.intro @zc_3 <| And.intro @z_3 <| And.intro @ty_4 <| And.intro @zc_4 <| And.intro @z_4 <| And.intro @u_4 <| And.intro @ty_46 <| And.intro @zc_46 <| And.intro @z_46 <| And.intro @es_46 <| And.intro @eb_46 <| And.intro @sl_46 <| And.intro @is_46 <| And.intro @el_46 <| And.intro @ze_46 <| And.intro @ez_46 <| And.intro @ty_48 <| And.intro @zc_48 <| And.intro @z_48 <| And.intro @fo_48_0 <| And.intro @fi_48_0 <| And.intro @ft_48_0 <| And.intro @fo_48_1 <| And.intro @fi_48_1 <| And.intro @ft_48_1 <| And.intro @fo_48_2 <| And.intro @fi_48_2 <| And.intro @ft_48_2 <| And.intro @lay_48 <| And.intro @ty_148 <| And.intro @zc_148 <| And.intro @z_148 <| And.intro @fo_148_0 <| And.intro @fi_148_0 <| And.intro @ft_148_0 <| And.intro @fo_148_1 <| And.intro @fi_148_1 <| And.intro @ft_148_1 <| And.intro @fo_148_2 <| And.intro @fi_148_2 <| And.intro @ft_148_2 <| And.intro @lay_148 <| And.intro @ty_222 <| And.intro @zc_222 <| And.intro @z_222 <| @mixedT
set_option maxHeartbeats 4000000 in
theorem impl_compose_sat {a0 : SizeGraph} {a1 : SizeGraph}  {r : SizeGraph} (h : impl_compose a0 a1 = some r) : Sat Try.prog 105 [((SizeGraph.pv false) a0), ((SizeGraph.pv false) a1)] ((SizeGraph.pv true) r) := by
  replace h := Run.of h
  unfold impl_compose at h
  refine Sat.of_m (nt := 81) (rs := [.cell 4 48]) (n := 100000) Try.func105 rfl rfl rfl rfl (by simp) ?_
  simp -failIfUnchanged only [↓RA, RB, RS, fx105, p1, p2, p3, p4, reduceIte, p5, p6, p7, p8]
  repeat (first | with_reducible refine noR_and (by repeat (first | exact noR_empty _ _ | exact noR_nilS _ _ | refine noR_mk _ _ _ _ _ rfl ?_ | refine noR_mkS _ _ _ _ _ rfl ?_)) ?_ | with_reducible refine noC_and (by repeat (first | exact noC_empty _ _ (by simp -failIfUnchanged only [↓RA, RB, RS, fx105, p1, p2, p3, p4, reduceIte, p5, p6, p7, p8]) | exact noC_nilS _ _ (by simp -failIfUnchanged only [↓RA, RB, RS, fx105, p1, p2, p3, p4, reduceIte, p5, p6, p7, p8]) | refine noC_mk _ _ _ _ _ rfl ?_ | refine noC_mkS _ _ _ _ _ rfl ?_)) ?_ | with_reducible refine and_ac ?_ | with_reducible refine And.intro (a := _ = List.range _) (by rfl) ?_)
  refine Mg.know_sl (b := false) (sz := 3) (es := a0.Edges.map (SizeEdge.pv false)) 19 (by simp -failIfUnchanged only [↓RA, RB, RS, fx105, p1, p2, p3, p4, reduceIte, p5, p6, p7, p8]) fun hl19 => ?_; rw [List.length_map] at hl19
  replace h := run_loop h
  refine Mg.forN h (fun i3 s3 => [(3, .box (.pv ((SizeGraph.pv false) a1))), (4, .box (.node [(.pv (I (0 : Int))), (.pv (I (0 : Int))), (.pv (.sl true 3 []))])), (5, .box (.node [(.pv (I a0.Source)), (.pv (I a1.Target)), (.own 9309)])), (19, .val (.pv (.sl false 3 (a0.Edges.map (SizeEdge.pv false))))), (20, .val (.pv (I (a0.Edges.length : Int)))), (21, .val (.pv (I (i3 : Int))))]) (fun i3 s3 => [(9309, (3, s3.map (SizeEdge.pv false)))]) (St.le_trans (St.le_nilB (x := (.node [(.pv (I a0.Source)), (.pv (I a1.Target)), (.pv (.sl true 3 []))])) 5 [2] 9309 3 (by repeat (first | exact noC_empty _ _ (by simp -failIfUnchanged only [↓RA, RB, RS, fx105, p1, p2, p3, p4, reduceIte, p5, p6, p7, p8]) | exact noC_nilS _ _ (by simp -failIfUnchanged only [↓RA, RB, RS, fx105, p1, p2, p3, p4, reduceIte, p5, p6, p7, p8]) | refine noC_mk _ _ _ _ _ rfl ?_ | refine noC_mkS _ _ _ _ _ rfl ?_)) (by simp -failIfUnchanged only [↓RA, RB, RS, fx105, p1, p2, p3, p4, reduceIte, p5, p6, p7, p8]) (by simp -failIfUnchanged only [↓RA, RB, RS, fx105, p1, p2, p3, p4, reduceIte, p5, p6, p7, p8]) (by simp -failIfUnchanged only [↓RA, RB, RS, fx105, p1, p2, p3, p4, reduceIte, p5, p6, p7, p8])) (St.le_mk2 (by simp -failIfUnchanged only [↓RA, RB, RS, fx105, p1, p2, p3, p4, reduceIte, p5, p6, p7, p8]))) (fun i3 s3 hi h => ?_) (fun s3 h => ?_)
  · have w3 := wrap_succ (i := i3) (by omega)
    simp -failIfUnchanged only [↓RA, RB, RS, fx105, p1, p2, p3, p4, reduceIte, p5, p6, p7, p8]
    refine CondH.tt (decide_eq_true (by omega)) (fun c1 => ?_)
    simp -failIfUnchanged only [↓RA, RB, RS, fx105, p1, p2, p3, p4, reduceIte, p5, p6, p7, p8, c1]
    obtain ⟨v23, hv23, h⟩ := run_bind h
    refine IdxH.mk (f := (SizeEdge.pv false)) hv23 ?_ ?_ <;> simp -failIfUnchanged only [↓RA, RB, RS, fx105, p1, p2, p3, p4, reduceIte, p5, p6, p7, p8, c1]
    repeat (first | with_reducible refine noR_and (by repeat (first | exact noR_empty _ _ | exact noR_nilS _ _ | refine noR_mk _ _ _ _ _ rfl ?_ | refine noR_mkS _ _ _ _ _ rfl ?_)) ?_ | with_reducible refine noC_and (by repeat (first | exact noC_empty _ _ (by simp -failIfUnchanged only [↓RA, RB, RS, fx105, p1, p2, p3, p4, reduceIte, p5, p6, p7, p8]) | exact noC_nilS _ _ (by simp -failIfUnchanged only [↓RA, RB, RS, fx105, p1, p2, p3, p4, reduceIte, p5, p6, p7, p8]) | refine noC_mk _ _ _ _ _ rfl ?_ | refine noC_mkS _ _ _ _ _ rfl ?_)) ?_ | with_reducible refine and_ac ?_ | with_reducible refine And.intro (a := _ = List.range _) (by rfl) ?_)
    refine Mg.know_sl (b := false) (sz := 3) (es := a1.Edges.map (SizeEdge.pv false)) 26 (by simp -failIfUnchanged only [↓RA, RB, RS, fx105, p1, p2, p3, p4, reduceIte, p5, p6, p7, p8, c1]) fun hl26 => ?_; rw [List.length_map] at hl26
    replace h := run_loop h
    refine Mg.forN h (fun i6 s6 => [(3, .box (.pv ((SizeGraph.pv false) a1))), (4, .box (.node [(.pv (I (0 : Int))), (.pv (I (0 : Int))), (.pv (.sl true 3 []))])), (5, .box (.node [(.pv (I a0.Source)), (.pv (I a1.Target)), (.own 9309)])), (7, .box (.pv ((SizeEdge.pv false) v23))), (19, .val (.pv (.sl false 3 (a0.Edges.map (SizeEdge.pv false))))), (20, .val (.pv (I (a0.Edges.length : Int)))), (21, .val (.pv (I (i3 : Int)))), (26, .val (.pv (.sl false 3 (a1.Edges.map (SizeEdge.pv false))))), (27, .val (.pv (I (a1.Edges.length : Int)))), (28, .val (.pv (I (i6 : Int))))]) (fun i6 s6 => [(9309, (3, s6.map (SizeEdge.pv false)))]) (St.le_mk2 (by simp -failIfUnchanged only [↓RA, RB, RS, fx105, p1, p2, p3, p4, reduceIte, p5, p6, p7, p8, c1])) (fun i6 s6 hi h => ?_) (fun s6 h => ?_)
    · have w6 := wrap_succ (i := i6) (by omega)
      simp -failIfUnchanged only [↓RA, RB, RS, fx105, p1, p2, p3, p4, reduceIte, p5, p6, p7, p8, c1]
      refine CondH.tt (decide_eq_true (by omega)) (fun c2 => ?_)
      simp -failIfUnchanged only [↓RA, RB, RS, fx105, p1, p2, p3, p4, reduceIte, p5, p6, p7, p8, c1, c2]
      obtain ⟨v30, hv30, h⟩ := run_bind h
      refine IdxH.mk (f := (SizeEdge.pv false)) hv30 ?_ ?_ <;> simp -failIfUnchanged only [↓RA, RB, RS, fx105, p1, p2, p3, p4, reduceIte, p5, p6, p7, p8, c1, c2]
      repeat (first | with_reducible refine noR_and (by repeat (first | exact noR_empty _ _ | exact noR_nilS _ _ | refine noR_mk _ _ _ _ _ rfl ?_ | refine noR_mkS _ _ _ _ _ rfl ?_)) ?_ | with_reducible refine noC_and (by repeat (first | exact noC_empty _ _ (by simp -failIfUnchanged only [↓RA, RB, RS, fx105, p1, p2, p3, p4, reduceIte, p5, p6, p7, p8]) | exact noC_nilS _ _ (by simp -failIfUnchanged only [↓RA, RB, RS, fx105, p1, p2, p3, p4, reduceIte, p5, p6, p7, p8]) | refine noC_mk _ _ _ _ _ rfl ?_ | refine noC_mkS _ _ _ _ _ rfl ?_)) ?_ | with_reducible refine and_ac ?_ | with_reducible refine And.intro (a := _ = List.range _) (by rfl) ?_)
      refine CondH.mk (fun c3 => ?_) (fun c3 => ?_)
      · replace h := run_t c3 h
        simp -failIfUnchanged only [↓RA, RB, RS, fx105, p1, p2, p3, p4, reduceIte, p5, p6, p7, p8, c1, c2, c3]
        refine CondH.mk (fun c4 => ?_) (fun c4 => ?_)
        · replace h := run_t c4 h
          simp -failIfUnchanged only [↓RA, RB, RS, fx105, p1, p2, p3, p4, reduceIte, p5, p6, p7, p8, c1, c2, c3, c4]
          repeat (first | with_reducible refine noR_and (by repeat (first | exact noR_empty _ _ | exact noR_nilS _ _ | refine noR_mk _ _ _ _ _ rfl ?_ | refine noR_mkS _ _ _ _ _ rfl ?_)) ?_ | with_reducible refine noC_and (by repeat (first | exact noC_empty _ _ (by simp -failIfUnchanged only [↓RA, RB, RS, fx105, p1, p2, p3, p4, reduceIte, p5, p6, p7, p8]) | exact noC_nilS _ _ (by simp -failIfUnchanged only [↓RA, RB, RS, fx105, p1, p2, p3, p4, reduceIte, p5, p6, p7, p8]) | refine noC_mk _ _ _ _ _ rfl ?_ | refine noC_mkS _ _ _ _ _ rfl ?_)) ?_ | with_reducible refine and_ac ?_ | with_reducible refine And.intro (a := _ = List.range _) (by rfl) ?_)
          obtain ⟨v52, hv52, h⟩ := run_bind h
          refine CallH.mk [false, false, false] (slices_BinarySearchFunc_Simpl_SizeEdge_impl_SizeEdge_impl_SizeEdge_sat (fun _ _ _ hh => impl_compareEdges_sat hh) (by simp only [CapsOk_nil, CapsOk_cons]) hv52) ?_ ?_ <;> simp -failIfUnchanged only [↓RA, RB, RS, fx105, p1, p2, p3, p4, reduceIte, p5, p6, p7, p8, c1, c2, c3, c4]
          refine CondH.mk (fun c5 => ?_) (fun c5 => ?_)
          · replace h := run_t c5 h
            simp -failIfUnchanged only [↓RA, RB, RS, fx105, p1, p2, p3, p4, reduceIte, p5, p6, p7, p8, c1, c2, c3, c4, c5]
            obtain ⟨v62, hv62, h⟩ := run_bind h
            refine IdxH.mk (f := (SizeEdge.pv false)) hv62 ?_ ?_ <;> simp -failIfUnchanged only [↓RA, RB, RS, fx105, p1, p2, p3, p4, reduceIte, p5, p6, p7, p8, c1, c2, c3, c4, c5]
            obtain ⟨v64, hv64, h⟩ := run_bind h
            refine EldH.mk (f := (SizeEdge.pv false)) hv64 rfl ?_ ?_ <;> simp -failIfUnchanged only [↓RA, RB, RS, fx105, p1, p2, p3, p4, reduceIte, p5, p6, p7, p8, c1, c2, c3, c4, c5]
            refine CondH.mk (fun c6 => ?_) (fun c6 => ?_)
            · replace h := run_t c6 h
              simp -failIfUnchanged only [↓RA, RB, RS, fx105, p1, p2, p3, p4, reduceIte, p5, p6, p7, p8, c1, c2, c3, c4, c5, c6]
              obtain ⟨v69, hv69, h⟩ := run_bind h
              refine IdxH.mk (f := (SizeEdge.pv false)) hv69 ?_ ?_ <;> simp -failIfUnchanged only [↓RA, RB, RS, fx105, p1, p2, p3, p4, reduceIte, p5, p6, p7, p8, c1, c2, c3, c4, c5, c6]
              obtain ⟨w7, hw7, h⟩ := run_bind h
              refine EldH.mk (f := (SizeEdge.pv false)) hw7 rfl ?_ ?_ <;> simp -failIfUnchanged only [↓RA, RB, RS, fx105, p1, p2, p3, p4, reduceIte, p5, p6, p7, p8, c1, c2, c3, c4, c5, c6]
              refine And.intro (DrawH.none (by rfl) (by first | rfl | (simp -failIfUnchanged only [↓RA, RB, RS, fx105, p1, p2, p3, p4, reduceIte, p5, p6, p7, p8] <;> rfl)) (by first | rfl | (simp -failIfUnchanged only [↓RA, RB, RS, fx105, p1, p2, p3, p4, reduceIte, p5, p6, p7, p8] <;> rfl)) (by first | rfl | (simp -failIfUnchanged only [↓RA, RB, RS, fx105, p1, p2, p3, p4, reduceIte, p5, p6, p7, p8] <;> rfl))) ?_
              simp -failIfUnchanged only [↓RA, RB, RS, fx105, p1, p2, p3, p4, reduceIte, p5, p6, p7, p8, c1, c2, c3, c4, c5, c6]
              have h := run_some h
              refine RdH.mk ⟨_, h, ?_⟩
              refine St.le_mk2 ?_
              simp -failIfUnchanged only [↓RA, RB, RS, fx105, p1, p2, p3, p4, reduceIte, p5, p6, p7, p8, c1, c2, c3, c4, c5, c6, w6]
            · replace h := run_f c6 h
              simp -failIfUnchanged only [↓RA, RB, RS, fx105, p1, p2, p3, p4, reduceIte, p5, p6, p7, p8, c1, c2, c3, c4, c5, c6]
              obtain ⟨v69, hv69, h⟩ := run_bind h
              refine IdxH.mk (f := (SizeEdge.pv false)) hv69 ?_ ?_ <;> simp -failIfUnchanged only [↓RA, RB, RS, fx105, p1, p2, p3, p4, reduceIte, p5, p6, p7, p8, c1, c2, c3, c4, c5, c6]
              obtain ⟨w8, hw8, h⟩ := run_bind h
              refine EldH.mk (f := (SizeEdge.pv false)) hw8 rfl ?_ ?_ <;> simp -failIfUnchanged only [↓RA, RB, RS, fx105, p1, p2, p3, p4, reduceIte, p5, p6, p7, p8, c1, c2, c3, c4, c5, c6]
              refine And.intro (DrawH.none (by rfl) (by first | rfl | (simp -failIfUnchanged only [↓RA, RB, RS, fx105, p1, p2, p3, p4, reduceIte, p5, p6, p7, p8] <;> rfl)) (by first | rfl | (simp -failIfUnchanged only [↓RA, RB, RS, fx105, p1, p2, p3, p4, reduceIte, p5, p6, p7, p8] <;> rfl)) (by first | rfl | (simp -failIfUnchanged only [↓RA, RB, RS, fx105, p1, p2, p3, p4, reduceIte, p5, p6, p7, p8] <;> rfl))) ?_
              simp -failIfUnchanged only [↓RA, RB, RS, fx105, p1, p2, p3, p4, reduceIte, p5, p6, p7, p8, c1, c2, c3, c4, c5, c6]
              have h := run_some h
              refine RdH.mk ⟨_, h, ?_⟩
              refine St.le_mk2 ?_
              simp -failIfUnchanged only [↓RA, RB, RS, fx105, p1, p2, p3, p4, reduceIte, p5, p6, p7, p8, c1, c2, c3, c4, c5, c6, w6]
          · replace h := run_f c5 h
            simp -failIfUnchanged only [↓RA, RB, RS, fx105, p1, p2, p3, p4, reduceIte, p5, p6, p7, p8, c1, c2, c3, c4, c5]
            repeat (first | with_reducible refine noR_and (by repeat (first | exact noR_empty _ _ | exact noR_nilS _ _ | refine noR_mk _ _ _ _ _ rfl ?_ | refine noR_mkS _ _ _ _ _ rfl ?_)) ?_ | with_reducible refine noC_and (by repeat (first | exact noC_empty _ _ (by simp -failIfUnchanged only [↓RA, RB, RS, fx105, p1, p2, p3, p4, reduceIte, p5, p6, p7, p8]) | exact noC_nilS _ _ (by simp -failIfUnchanged only [↓RA, RB, RS, fx105, p1, p2, p3, p4, reduceIte, p5, p6, p7, p8]) | refine noC_mk _ _ _ _ _ rfl ?_ | refine noC_mkS _ _ _ _ _ rfl ?_)) ?_ | with_reducible refine and_ac ?_ | with_reducible refine And.intro (a := _ = List.range _) (by rfl) ?_)
            obtain ⟨v76, hv76, h⟩ := run_bind h
            refine CallH.mk [true, false, true] (slices_InsertE_sat hv76) ?_ ?_ <;> simp -failIfUnchanged only [↓RA, RB, RS, fx105, p1, p2, p3, p4, reduceIte, p5, p6, p7, p8, c1, c2, c3, c4, c5]
            repeat (first | with_reducible refine noR_and (by repeat (first | exact noR_empty _ _ | exact noR_nilS _ _ | refine noR_mk _ _ _ _ _ rfl ?_ | refine noR_mkS _ _ _ _ _ rfl ?_)) ?_ | with_reducible refine noC_and (by repeat (first | exact noC_empty _ _ (by simp -failIfUnchanged only [↓RA, RB, RS, fx105, p1, p2, p3, p4, reduceIte, p5, p6, p7, p8]) | exact noC_nilS _ _ (by simp -failIfUnchanged only [↓RA, RB, RS, fx105, p1, p2, p3, p4, reduceIte, p5, p6, p7, p8]) | refine noC_mk _ _ _ _ _ rfl ?_ | refine noC_mkS _ _ _ _ _ rfl ?_)) ?_ | with_reducible refine and_ac ?_ | with_reducible refine And.intro (a := _ = List.range _) (by rfl) ?_)
            have h := run_some h
            refine RdH.mk ⟨_, h, ?_⟩
            refine St.le_trans (St.le_mk (S := [(3, .box (.pv ((SizeGraph.pv false) a1))), (4, .box (.node [(.pv (I (0 : Int))), (.pv (I (0 : Int))), (.pv (.sl true 3 []))])), (5, .box (.node [(.pv (I a0.Source)), (.pv (I a1.Target)), (.own 1216)])), (7, .box (.pv ((SizeEdge.pv false) v23))), (19, .val (.pv (.sl false 3 (a0.Edges.map (SizeEdge.pv false))))), (20, .val (.pv (I (a0.Edges.length : Int)))), (21, .val (.pv (I (i3 : Int)))), (26, .val (.pv (.sl false 3 (a1.Edges.map (SizeEdge.pv false))))), (27, .val (.pv (I (a1.Edges.length : Int)))), (28, .val (.pv (I (IntKind.i64.wrap ((i6 : Int) + (1 : Int))))))]) (O := [(1216, (3, v76.map (SizeEdge.pv false)))]) (by simp -failIfUnchanged only [↓RA, RB, RS, fx105, p1, p2, p3, p4, reduceIte, p5, p6, p7, p8, c1, c2, c3, c4, c5, w6]) (by simp -failIfUnchanged only [↓RA, RB, RS, fx105, p1, p2, p3, p4, reduceIte, p5, p6, p7, p8, c1, c2, c3, c4, c5, w6])) ?_
            refine St.le_rn 1216 9309 (by decide) (by repeat (first | exact noC_empty _ _ (by simp -failIfUnchanged only [↓RA, RB, RS, fx105, p1, p2, p3, p4, reduceIte, p5, p6, p7, p8]) | exact noC_nilS _ _ (by simp -failIfUnchanged only [↓RA, RB, RS, fx105, p1, p2, p3, p4, reduceIte, p5, p6, p7, p8]) | refine noC_mk _ _ _ _ _ rfl ?_ | refine noC_mkS _ _ _ _ _ rfl ?_)) ?_
            refine St.le_mk2 ?_
            simp -failIfUnchanged only [↓RA, RB, RS, fx105, p1, p2, p3, p4, reduceIte, p5, p6, p7, p8, c1, c2, c3, c4, c5, w6]
        · replace h := run_f c4 h
          simp -failIfUnchanged only [↓RA, RB, RS, fx105, p1, p2, p3, p4, reduceIte, p5, p6, p7, p8, c1, c2, c3, c4]
          repeat (first | with_reducible refine noR_and (by repeat (first | exact noR_empty _ _ | exact noR_nilS _ _ | refine noR_mk _ _ _ _ _ rfl ?_ | refine noR_mkS _ _ _ _ _ rfl ?_)) ?_ | with_reducible refine noC_and (by repeat (first | exact noC_empty _ _ (by simp -failIfUnchanged only [↓RA, RB, RS, fx105, p1, p2, p3, p4, reduceIte, p5, p6, p7, p8]) | exact noC_nilS _ _ (by simp -failIfUnchanged only [↓RA, RB, RS, fx105, p1, p2, p3, p4, reduceIte, p5, p6, p7, p8]) | refine noC_mk _ _ _ _ _ rfl ?_ | refine noC_mkS _ _ _ _ _ rfl ?_)) ?_ | with_reducible refine and_ac ?_ | with_reducible refine And.intro (a := _ = List.range _) (by rfl) ?_)
          obtain ⟨v52, hv52, h⟩ := run_bind h
          refine CallH.mk [false, false, false] (slices_BinarySearchFunc_Simpl_SizeEdge_impl_SizeEdge_impl_SizeEdge_sat (fun _ _ _ hh => impl_compareEdges_sat hh) (by simp only [CapsOk_nil, CapsOk_cons]) hv52) ?_ ?_ <;> simp -failIfUnchanged only [↓RA, RB, RS, fx105, p1, p2, p3, p4, reduceIte, p5, p6, p7, p8, c1, c2, c3, c4]
          refine CondH.mk (fun c9 => ?_) (fun c9 => ?_)
          · replace h := run_t c9 h
            simp -failIfUnchanged only [↓RA, RB, RS, fx105, p1, p2, p3, p4, reduceIte, p5, p6, p7, p8, c1, c2, c3, c4, c9]
            obtain ⟨v62, hv62, h⟩ := run_bind h
            refine IdxH.mk (f := (SizeEdge.pv false)) hv62 ?_ ?_ <;> simp -failIfUnchanged only [↓RA, RB, RS, fx105, p1, p2, p3, p4, reduceIte, p5, p6, p7, p8, c1, c2, c3, c4, c9]
            obtain ⟨v64, hv64, h⟩ := run_bind h
            refine EldH.mk (f := (SizeEdge.pv false)) hv64 rfl ?_ ?_ <;> simp -failIfUnchanged only [↓RA, RB, RS, fx105, p1, p2, p3, p4, reduceIte, p5, p6, p7, p8, c1, c2, c3, c4, c9]
            refine CondH.mk (fun c10 => ?_) (fun c10 => ?_)
            · replace h := run_t c10 h
              simp -failIfUnchanged only [↓RA, RB, RS, fx105, p1, p2, p3, p4, reduceIte, p5, p6, p7, p8, c1, c2, c3, c4, c9, c10]
              obtain ⟨v69, hv69, h⟩ := run_bind h
              refine IdxH.mk (f := (SizeEdge.pv false)) hv69 ?_ ?_ <;> simp -failIfUnchanged only [↓RA, RB, RS, fx105, p1, p2, p3, p4, reduceIte, p5, p6, p7, p8, c1, c2, c3, c4, c9, c10]
              obtain ⟨w11, hw11, h⟩ := run_bind h
              refine EldH.mk (f := (SizeEdge.pv false)) hw11 rfl ?_ ?_ <;> simp -failIfUnchanged only [↓RA, RB, RS, fx105, p1, p2, p3, p4, reduceIte, p5, p6, p7, p8, c1, c2, c3, c4, c9, c10]
              refine And.intro (DrawH.none (by rfl) (by first | rfl | (simp -failIfUnchanged only [↓RA, RB, RS, fx105, p1, p2, p3, p4, reduceIte, p5, p6, p7, p8] <;> rfl)) (by first | rfl | (simp -failIfUnchanged only [↓RA, RB, RS, fx105, p1, p2, p3, p4, reduceIte, p5, p6, p7, p8] <;> rfl)) (by first | rfl | (simp -failIfUnchanged only [↓RA, RB, RS, fx105, p1, p2, p3, p4, reduceIte, p5, p6, p7, p8] <;> rfl))) ?_
              simp -failIfUnchanged only [↓RA, RB, RS, fx105, p1, p2, p3, p4, reduceIte, p5, p6, p7, p8, c1, c2, c3, c4, c9, c10]
              have h := run_some h
              refine RdH.mk ⟨_, h, ?_⟩
              refine St.le_mk2 ?_
              simp -failIfUnchanged only [↓RA, RB, RS, fx105, p1, p2, p3, p4, reduceIte, p5, p6, p7, p8, c1, c2, c3, c4, c9, c10, w6]
            · replace h := run_f c10 h
              simp -failIfUnchanged only [↓RA, RB, RS, fx105, p1, p2, p3, p4, reduceIte, p5, p6, p7, p8, c1, c2, c3, c4, c9, c10]
              obtain ⟨v69, hv69, h⟩ := run_bind h
              refine IdxH.mk (f := (SizeEdge.pv false)) hv69 ?_ ?_ <;> simp -failIfUnchanged only [↓RA, RB, RS, fx105, p1, p2, p3, p4, reduceIte, p5, p6, p7, p8, c1, c2, c3, c4, c9, c10]
              obtain ⟨w12, hw12, h⟩ := run_bind h
              refine EldH.mk (f := (SizeEdge.pv false)) hw12 rfl ?_ ?_ <;> simp -failIfUnchanged only [↓RA, RB, RS, fx105, p1, p2, p3, p4, reduceIte, p5, p6, p7, p8, c1, c2, c3, c4, c9, c10]
              refine And.intro (DrawH.none (by rfl) (by first | rfl | (simp -failIfUnchanged only [↓RA, RB, RS, fx105, p1, p2, p3, p4, reduceIte, p5, p6, p7, p8] <;> rfl)) (by first | rfl | (simp -failIfUnchanged only [↓RA, RB, RS, fx105, p1, p2, p3, p4, reduceIte, p5, p6, p7, p8] <;> rfl)) (by first | rfl | (simp -failIfUnchanged only [↓RA, RB, RS, fx105, p1, p2, p3, p4, reduceIte, p5, p6, p7, p8] <;> rfl))) ?_
              simp -failIfUnchanged only [↓RA, RB, RS, fx105, p1, p2, p3, p4, reduceIte, p5, p6, p7, p8, c1, c2, c3, c4, c9, c10]
              have h := run_some h
              refine RdH.mk ⟨_, h, ?_⟩
              refine St.le_mk2 ?_
              simp -failIfUnchanged only [↓RA, RB, RS, fx105, p1, p2, p3, p4, reduceIte, p5, p6, p7, p8, c1, c2, c3, c4, c9, c10, w6]
          · replace h := run_f c9 h
            simp -failIfUnchanged only [↓RA, RB, RS, fx105, p1, p2, p3, p4, reduceIte, p5, p6, p7, p8, c1, c2, c3, c4, c9]
            repeat (first | with_reducible refine noR_and (by repeat (first | exact noR_empty _ _ | exact noR_nilS _ _ | refine noR_mk _ _ _ _ _ rfl ?_ | refine noR_mkS _ _ _ _ _ rfl ?_)) ?_ | with_reducible refine noC_and (by repeat (first | exact noC_empty _ _ (by simp -failIfUnchanged only [↓RA, RB, RS, fx105, p1, p2, p3, p4, reduceIte, p5, p6, p7, p8]) | exact noC_nilS _ _ (by simp -failIfUnchanged only [↓RA, RB, RS, fx105, p1, p2, p3, p4, reduceIte, p5, p6, p7, p8]) | refine noC_mk _ _ _ _ _ rfl ?_ | refine noC_mkS _ _ _ _ _ rfl ?_)) ?_ | with_reducible refine and_ac ?_ | with_reducible refine And.intro (a := _ = List.range _) (by rfl) ?_)
            obtain ⟨v76, hv76, h⟩ := run_bind h
            refine CallH.mk [true, false, true] (slices_InsertE_sat hv76) ?_ ?_ <;> simp -failIfUnchanged only [↓RA, RB, RS, fx105, p1, p2, p3, p4, reduceIte, p5, p6, p7, p8, c1, c2, c3, c4, c9]
            repeat (first | with_reducible refine noR_and (by repeat (first | exact noR_empty _ _ | exact noR_nilS _ _ | refine noR_mk _ _ _ _ _ rfl ?_ | refine noR_mkS _ _ _ _ _ rfl ?_)) ?_ | with_reducible refine noC_and (by repeat (first | exact noC_empty _ _ (by simp -failIfUnchanged only [↓RA, RB, RS, fx105, p1, p2, p3, p4, reduceIte, p5, p6, p7, p8]) | exact noC_nilS _ _ (by simp -failIfUnchanged only [↓RA, RB, RS, fx105, p1, p2, p3, p4, reduceIte, p5, p6, p7, p8]) | refine noC_mk _ _ _ _ _ rfl ?_ | refine noC_mkS _ _ _ _ _ rfl ?_)) ?_ | with_reducible refine and_ac ?_ | with_reducible refine And.intro (a := _ = List.range _) (by rfl) ?_)
            have h := run_some h
            refine RdH.mk ⟨_, h, ?_⟩
            refine St.le_trans (St.le_mk (S := [(3, .box (.pv ((SizeGraph.pv false) a1))), (4, .box (.node [(.pv (I (0 : Int))), (.pv (I (0 : Int))), (.pv (.sl true 3 []))])), (5, .box (.node [(.pv (I a0.Source)), (.pv (I a1.Target)), (.own 1216)])), (7, .box (.pv ((SizeEdge.pv false) v23))), (19, .val (.pv (.sl false 3 (a0.Edges.map (SizeEdge.pv false))))), (20, .val (.pv (I (a0.Edges.length : Int)))), (21, .val (.pv (I (i3 : Int)))), (26, .val (.pv (.sl false 3 (a1.Edges.map (SizeEdge.pv false))))), (27, .val (.pv (I (a1.Edges.length : Int)))), (28, .val (.pv (I (IntKind.i64.wrap ((i6 : Int) + (1 : Int))))))]) (O := [(1216, (3, v76.map (SizeEdge.pv false)))]) (by simp -failIfUnchanged only [↓RA, RB, RS, fx105, p1, p2, p3, p4, reduceIte, p5, p6, p7, p8, c1, c2, c3, c4, c9, w6]) (by simp -failIfUnchanged only [↓RA, RB, RS, fx105, p1, p2, p3, p4, reduceIte, p5, p6, p7, p8, c1, c2, c3, c4, c9, w6])) ?_
            refine St.le_rn 1216 9309 (by decide) (by repeat (first | exact noC_empty _ _ (by simp -failIfUnchanged only [↓RA, RB, RS, fx105, p1, p2, p3, p4, reduceIte, p5, p6, p7, p8]) | exact noC_nilS _ _ (by simp -failIfUnchanged only [↓RA, RB, RS, fx105, p1, p2, p3, p4, reduceIte, p5, p6, p7, p8]) | refine noC_mk _ _ _ _ _ rfl ?_ | refine noC_mkS _ _ _ _ _ rfl ?_)) ?_
            refine St.le_mk2 ?_
            simp -failIfUnchanged only [↓RA, RB, RS, fx105, p1, p2, p3, p4, reduceIte, p5, p6, p7, p8, c1, c2, c3, c4, c9, w6]
      · replace h := run_f c3 h
        simp -failIfUnchanged only [↓RA, RB, RS, fx105, p1, p2, p3, p4, reduceIte, p5, p6, p7, p8, c1, c2, c3]
        have h := run_some h
        refine RdH.mk ⟨_, h, ?_⟩
        refine St.le_mk2 ?_
        simp -failIfUnchanged only [↓RA, RB, RS, fx105, p1, p2, p3, p4, reduceIte, p5, p6, p7, p8, c1, c2, c3, w6]
    · simp -failIfUnchanged only [↓RA, RB, RS, fx105, p1, p2, p3, p4, reduceIte, p5, p6, p7, p8, c1]
      refine CondH.ff (decide_eq_false (by omega)) (fun c13 => ?_)
      simp -failIfUnchanged only [↓RA, RB, RS, fx105, p1, p2, p3, p4, reduceIte, p5, p6, p7, p8, c1, c13]
      have h := run_some h
      refine RdH.mk ⟨_, h, ?_⟩
      refine St.le_mk2 ?_
      simp -failIfUnchanged only [↓RA, RB, RS, fx105, p1, p2, p3, p4, reduceIte, p5, p6, p7, p8, c1, c13, w3]
  · simp -failIfUnchanged only [↓RA, RB, RS, fx105, p1, p2, p3, p4, reduceIte, p5, p6, p7, p8]
    refine CondH.ff (decide_eq_false (by omega)) (fun c14 => ?_)
    simp -failIfUnchanged only [↓RA, RB, RS, fx105, p1, p2, p3, p4, reduceIte, p5, p6, p7, p8, c14]
    have h := run_some h
    obtain rfl : _ = r := h
    refine FinH.l ?_
    simp -failIfUnchanged only [↓RA, RB, RS, fx105, p1, p2, p3, p4, reduceIte, p5, p6, p7, p8, c14]

def fx54 := And.intro @ty_3 <| And.intro @zc_3 <| And.intro @z_3 <| And.intro @ty_4 <| And.intro @zc_4 <| And.intro @z_4 <| And.intro @u_4 <| And.intro @ty_48 <| And.intro @zc_48 <| And.intro @z_48 <| And.intro @fo_48_0 <| And.intro @fi_48_0 <| And.intro @ft_48_0 <| And.intro @fo_48_1 <| And.intro @fi_48_1 <| And.intro @ft_48_1 <| And.intro @fo_48_2 <| And.intro @fi_48_2 <| And.intro @ft_48_2 <| And.intro @lay_48 <| And.intro @ty_55 <| And.intro @zc_55 <| And.intro @z_55 <| And.intro @es_55 <| And.intro @eb_55 <| And.intro @sl_55 <| And.intro @is_55 <| And.intro @el_55 <| And.intro @ze_55 <| And.intro @ez_55 <| And.intro @ty_56 <| And.intro @zc_56 <| And.intro @z_56 <| And.intro @es_56 <| And.intro @eb_56 <| And.intro @sl_56 <| And.intro @is_56 <| And.intro @el_56 <| And.intro @ze_56 <| And.intro @ez_56 <| And.intro @ty_58 <| And.intro @zc_58 <| And.intro @z_58 <| And.intro @fo_58_0 <| And.intro @fi_58_0 <| And.intro @ft_58_0 <| And.intro @fo_58_1 <| And.intro @fi_58_1 <| And.intro @ft_58_1 <| And.intro @lay_58 <| @mixedT
set_option maxHeartbeats 4000000 in
theorem impl_PathGraph_sat {a0 : CyclicProof} {a1 : List Int}  {r : SizeGraph × Bool} (h : impl_PathGraph a0 a1 = some r) : Sat Try.prog 54 [((CyclicProof.pv false) a0), (.sl false 1 (a1.map I))] (.tup [((SizeGraph.pv true) r.1), (B r.2)]) := by
  replace h := Run.of h
  unfold impl_PathGraph at h
  refine Sat.of_m (nt := 48) (rs := [.cell 4 48, .tmp 5]) (n := 100000) Try.func54 rfl rfl rfl rfl (by simp) ?_
  simp -failIfUnchanged only [↓RA, RB, RS, fx54, p1, p2, p3, p4, reduceIte, p5, p6, p7, p8]
  repeat (first | with_reducible refine noR_and (by repeat (first | exact noR_empty _ _ | exact noR_nilS _ _ | refine noR_mk _ _ _ _ _ rfl ?_ | refine noR_mkS _ _ _ _ _ rfl ?_)) ?_ | with_reducible refine noC_and (by repeat (first | exact noC_empty _ _ (by simp -failIfUnchanged only [↓RA, RB, RS, fx54, p1, p2, p3, p4, reduceIte, p5, p6, p7, p8]) | exact noC_nilS _ _ (by simp -failIfUnchanged only [↓RA, RB, RS, fx54, p1, p2, p3, p4, reduceIte, p5, p6, p7, p8]) | refine noC_mk _ _ _ _ _ rfl ?_ | refine noC_mkS _ _ _ _ _ rfl ?_)) ?_ | with_reducible refine and_ac ?_ | with_reducible refine And.intro (a := _ = List.range _) (by rfl) ?_)
  obtain ⟨v10, hv10, h⟩ := run_bind h
  refine CallH.mk [false] (impl_IsValidCyclic_sat hv10) ?_ ?_ <;> simp -failIfUnchanged only [↓RA, RB, RS, fx54, p1, p2, p3, p4, reduceIte, p5, p6, p7, p8]
  refine CondH.mk (fun c1 => ?_) (fun c1 => ?_)
  · replace h := run_t c1 h
    simp -failIfUnchanged only [↓RA, RB, RS, fx54, p1, p2, p3, p4, reduceIte, p5, p6, p7, p8, c1]
    refine CondH.mk (fun c2 => ?_) (fun c2 => ?_)
    · replace h := run_t c2 h
      simp -failIfUnchanged only [↓RA, RB, RS, fx54, p1, p2, p3, p4, reduceIte, p5, p6, p7, p8, c1, c2]
      have h := run_some h
      obtain rfl : _ = r := h
      refine FinH.l ?_
      simp -failIfUnchanged only [↓RA, RB, RS, fx54, p1, p2, p3, p4, reduceIte, p5, p6, p7, p8, c1, c2]
    · replace h := run_f c2 h
      simp -failIfUnchanged only [↓RA, RB, RS, fx54, p1, p2, p3, p4, reduceIte, p5, p6, p7, p8, c1, c2]
      obtain ⟨v20, hv20, h⟩ := run_bind h
      refine CallH.mk [false, false] (impl_isPath_sat hv20) ?_ ?_ <;> simp -failIfUnchanged only [↓RA, RB, RS, fx54, p1, p2, p3, p4, reduceIte, p5, p6, p7, p8, c1, c2]
      refine CondH.mk (fun c3 => ?_) (fun c3 => ?_)
      · replace h := run_t c3 h
        simp -failIfUnchanged only [↓RA, RB, RS, fx54, p1, p2, p3, p4, reduceIte, p5, p6, p7, p8, c1, c2, c3]
        obtain ⟨v27, hv27, h⟩ := run_bind h
        refine IdxH.mk (f := I) hv27 ?_ ?_ <;> simp -failIfUnchanged only [↓RA, RB, RS, fx54, p1, p2, p3, p4, reduceIte, p5, p6, p7, p8, c1, c2, c3]
        obtain ⟨v29, hv29, h⟩ := run_bind h
        refine IdxH.mk (f := (SizeGraph.pv false)) hv29 ?_ ?_ <;> simp -failIfUnchanged only [↓RA, RB, RS, fx54, p1, p2, p3, p4, reduceIte, p5, p6, p7, p8, c1, c2, c3]
        obtain ⟨v31, hv31, h⟩ := run_bind h
        refine CallH.mk [false] (impl_copyGraph_sat hv31) ?_ ?_ <;> simp -failIfUnchanged only [↓RA, RB, RS, fx54, p1, p2, p3, p4, reduceIte, p5, p6, p7, p8, c1, c2, c3]
        repeat (first | with_reducible refine noR_and (by repeat (first | exact noR_empty _ _ | exact noR_nilS _ _ | refine noR_mk _ _ _ _ _ rfl ?_ | refine noR_mkS _ _ _ _ _ rfl ?_)) ?_ | with_reducible refine noC_and (by repeat (first | exact noC_empty _ _ (by simp -failIfUnchanged only [↓RA, RB, RS, fx54, p1, p2, p3, p4, reduceIte, p5, p6, p7, p8]) | exact noC_nilS _ _ (by simp -failIfUnchanged only [↓RA, RB, RS, fx54, p1, p2, p3, p4, reduceIte, p5, p6, p7, p8]) | refine noC_mk _ _ _ _ _ rfl ?_ | refine noC_mkS _ _ _ _ _ rfl ?_)) ?_ | with_reducible refine and_ac ?_ | with_reducible refine And.intro (a := _ = List.range _) (by rfl) ?_)
        refine And.intro (DrawH.mk [6] [496] (by rfl) (by first | rfl | (simp -failIfUnchanged only [↓RA, RB, RS, fx54, p1, p2, p3, p4, reduceIte, p5, p6, p7, p8] <;> rfl)) (by first | rfl | (simp -failIfUnchanged only [↓RA, RB, RS, fx54, p1, p2, p3, p4, reduceIte, p5, p6, p7, p8] <;> rfl)) (by first | rfl | (simp -failIfUnchanged only [↓RA, RB, RS, fx54, p1, p2, p3, p4, reduceIte, p5, p6, p7, p8] <;> rfl)) (by simp -failIfUnchanged only [↓RA, RB, RS, fx54, p1, p2, p3, p4, reduceIte, p5, p6, p7, p8]; (try refine ⟨?_, ?_⟩) <;> repeat (first | exact noR_empty _ _ | exact noR_nilS _ _ | refine noR_mk _ _ _ _ _ rfl ?_ | refine noR_mkS _ _ _ _ _ rfl ?_)) (by simp -failIfUnchanged only [↓RA, RB, RS, fx54, p1, p2, p3, p4, reduceIte, p5, p6, p7, p8]; repeat (first | exact noC_empty _ _ (by simp -failIfUnchanged only [↓RA, RB, RS, fx54, p1, p2, p3, p4, reduceIte, p5, p6, p7, p8]) | exact noC_nilS _ _ (by simp -failIfUnchanged only [↓RA, RB, RS, fx54, p1, p2, p3, p4, reduceIte, p5, p6, p7, p8]) | refine noC_mk _ _ _ _ _ rfl ?_ | refine noC_mkS _ _ _ _ _ rfl ?_ | refine And.intro ?_ ?_))) ?_
        simp -failIfUnchanged only [↓RA, RB, RS, fx54, p1, p2, p3, p4, reduceIte, p5, p6, p7, p8, c1, c2, c3]
        obtain ⟨v33, hv33, h⟩ := run_bind h
        refine SlcH.mk (f := I) hv33 ?_ ?_ <;> simp -failIfUnchanged only [↓RA, RB, RS, fx54, p1, p2, p3, p4, reduceIte, p5, p6, p7, p8, c1, c2, c3]
        refine Mg.know_sl (b := false) (sz := 1) (es := v33.map I) 33 (by simp -failIfUnchanged only [↓RA, RB, RS, fx54, p1, p2, p3, p4, reduceIte, p5, p6, p7, p8, c1, c2, c3]) fun hl33 => ?_; rw [List.length_map] at hl33
        replace h := run_loop h
        refine Mg.forN h (fun i5 s5 => [(2, .box (.pv ((CyclicProof.pv false) a0))), (4, .box (.node [(.pv (I (0 : Int))), (.pv (I (0 : Int))), (.pv (.sl true 3 []))])), (6, .box (.node [(.pv (I s5.1)), (.pv (I s5.2.1)), (.own 496)])), (33, .val (.pv (.sl false 1 (v33.map I)))), (34, .val (.pv (I (v33.length : Int)))), (35, .val (.pv (I (i5 : Int))))]) (fun i5 s5 => [(496, (3, s5.2.2.map (SizeEdge.pv false)))]) (St.le_mk2 (by simp -failIfUnchanged only [↓RA, RB, RS, fx54, p1, p2, p3, p4, reduceIte, p5, p6, p7, p8, c1, c2, c3])) (fun i5 s5 hi h => ?_) (fun s5 h => ?_)
        · have w5 := wrap_succ (i := i5) (by omega)
          simp -failIfUnchanged only [↓RA, RB, RS, fx54, p1, p2, p3, p4, reduceIte, p5, p6, p7, p8, c1, c2, c3]
          refine CondH.tt (decide_eq_true (by omega)) (fun c4 => ?_)
          simp -failIfUnchanged only [↓RA, RB, RS, fx54, p1, p2, p3, p4, reduceIte, p5, p6, p7, p8, c1, c2, c3, c4]
          obtain ⟨v37, hv37, h⟩ := run_bind h
          refine IdxH.mk (f := I) hv37 ?_ ?_ <;> simp -failIfUnchanged only [↓RA, RB, RS, fx54, p1, p2, p3, p4, reduceIte, p5, p6, p7, p8, c1, c2, c3, c4]
          obtain ⟨v43, hv43, h⟩ := run_bind h
          refine IdxH.mk (f := (SizeGraph.pv false)) hv43 ?_ ?_ <;> simp -failIfUnchanged only [↓RA, RB, RS, fx54, p1, p2, p3, p4, reduceIte, p5, p6, p7, p8, c1, c2, c3, c4]
          obtain ⟨v45, hv45, h⟩ := run_bind h
          refine CallH.mk [false, false] (impl_compose_sat hv45) ?_ ?_ <;> simp -failIfUnchanged only [↓RA, RB, RS, fx54, p1, p2, p3, p4, reduceIte, p5, p6, p7, p8, c1, c2, c3, c4]
          repeat (first | with_reducible refine noR_and (by repeat (first | exact noR_empty _ _ | exact noR_nilS _ _ | refine noR_mk _ _ _ _ _ rfl ?_ | refine noR_mkS _ _ _ _ _ rfl ?_)) ?_ | with_reducible refine noC_and (by repeat (first | exact noC_empty _ _ (by simp -failIfUnchanged only [↓RA, RB, RS, fx54, p1, p2, p3, p4, reduceIte, p5, p6, p7, p8]) | exact noC_nilS _ _ (by simp -failIfUnchanged only [↓RA, RB, RS, fx54, p1, p2, p3, p4, reduceIte, p5, p6, p7, p8]) | refine noC_mk _ _ _ _ _ rfl ?_ | refine noC_mkS _ _ _ _ _ rfl ?_)) ?_ | with_reducible refine and_ac ?_ | with_reducible refine And.intro (a := _ = List.range _) (by rfl) ?_)
          refine And.intro (DrawH.mk [] [720] (by rfl) (by first | rfl | (simp -failIfUnchanged only [↓RA, RB, RS, fx54, p1, p2, p3, p4, reduceIte, p5, p6, p7, p8] <;> rfl)) (by first | rfl | (simp -failIfUnchanged only [↓RA, RB, RS, fx54, p1, p2, p3, p4, reduceIte, p5, p6, p7, p8] <;> rfl)) (by first | rfl | (simp -failIfUnchanged only [↓RA, RB, RS, fx54, p1, p2, p3, p4, reduceIte, p5, p6, p7, p8] <;> rfl)) (by simp) (by simp -failIfUnchanged only [↓RA, RB, RS, fx54, p1, p2, p3, p4, reduceIte, p5, p6, p7, p8]; repeat (first | exact noC_empty _ _ (by simp -failIfUnchanged only [↓RA, RB, RS, fx54, p1, p2, p3, p4, reduceIte, p5, p6, p7, p8]) | exact noC_nilS _ _ (by simp -failIfUnchanged only [↓RA, RB, RS, fx54, p1, p2, p3, p4, reduceIte, p5, p6, p7, p8]) | refine noC_mk _ _ _ _ _ rfl ?_ | refine noC_mkS _ _ _ _ _ rfl ?_ | refine And.intro ?_ ?_))) ?_
          simp -failIfUnchanged only [↓RA, RB, RS, fx54, p1, p2, p3, p4, reduceIte, p5, p6, p7, p8, c1, c2, c3, c4]
          have h := run_some h
          refine RdH.mk ⟨_, h, ?_⟩
          refine St.le_trans (St.le_mk (S := [(2, .box (.pv ((CyclicProof.pv false) a0))), (4, .box (.node [(.pv (I (0 : Int))), (.pv (I (0 : Int))), (.pv (.sl true 3 []))])), (6, .box (.node [(.pv (I v45.Source)), (.pv (I v45.Target)), (.own 720)])), (33, .val (.pv (.sl false 1 (v33.map I)))), (34, .val (.pv (I (v33.length : Int)))), (35, .val (.pv (I (IntKind.i64.wrap ((i5 : Int) + (1 : Int))))))]) (O := [(720, (3, v45.Edges.map (SizeEdge.pv false)))]) (by simp -failIfUnchanged only [↓RA, RB, RS, fx54, p1, p2, p3, p4, reduceIte, p5, p6, p7, p8, c1, c2, c3, c4, w5]) (by simp -failIfUnchanged only [↓RA, RB, RS, fx54, p1, p2, p3, p4, reduceIte, p5, p6, p7, p8, c1, c2, c3, c4, w5])) ?_
          refine St.le_rn 720 496 (by decide) (by repeat (first | exact noC_empty _ _ (by simp -failIfUnchanged only [↓RA, RB, RS, fx54, p1, p2, p3, p4, reduceIte, p5, p6, p7, p8]) | exact noC_nilS _ _ (by simp -failIfUnchanged only [↓RA, RB, RS, fx54, p1, p2, p3, p4, reduceIte, p5, p6, p7, p8]) | refine noC_mk _ _ _ _ _ rfl ?_ | refine noC_mkS _ _ _ _ _ rfl ?_)) ?_
          refine St.le_mk2 ?_
          simp -failIfUnchanged only [↓RA, RB, RS, fx54, p1, p2, p3, p4, reduceIte, p5, p6, p7, p8, c1, c2, c3, c4, w5]
        · simp -failIfUnchanged only [↓RA, RB, RS, fx54, p1, p2, p3, p4, reduceIte, p5, p6, p7, p8, c1, c2, c3]
          refine CondH.ff (decide_eq_false (by omega)) (fun c5 => ?_)
          simp -failIfUnchanged only [↓RA, RB, RS, fx54, p1, p2, p3, p4, reduceIte, p5, p6, p7, p8, c1, c2, c3, c5]
          have h := run_some h
          obtain rfl : _ = r := h
          refine FinH.l ?_
          simp -failIfUnchanged only [↓RA, RB, RS, fx54, p1, p2, p3, p4, reduceIte, p5, p6, p7, p8, c1, c2, c3, c5]
      · replace h := run_f c3 h
        simp -failIfUnchanged only [↓RA, RB, RS, fx54, p1, p2, p3, p4, reduceIte, p5, p6, p7, p8, c1, c2, c3]
        have h := run_some h
        obtain rfl : _ = r := h
        refine FinH.l ?_
        simp -failIfUnchanged only [↓RA, RB, RS, fx54, p1, p2, p3, p4, reduceIte, p5, p6, p7, p8, c1, c2, c3]
  · replace h := run_f c1 h
    simp -failIfUnchanged only [↓RA, RB, RS, fx54, p1, p2, p3, p4, reduceIte, p5, p6, p7, p8, c1]
    have h := run_some h
    obtain rfl : _ = r := h
    refine FinH.l ?_
    simp -failIfUnchanged only [↓RA, RB, RS, fx54, p1, p2, p3, p4, reduceIte, p5, p6, p7, p8, c1]

def fx238 := And.intro @ty_3 <| And.intro @zc_3 <| And.intro @z_3 <| And.intro @ty_4 <| And.intro @zc_4 <| And.intro @z_4 <| And.intro @u_4 <| And.intro @ty_148 <| And.intro @zc_148 <| And.intro @z_148 <| And.intro @fo_148_0 <| And.intro @fi_148_0 <| And.intro @ft_148_0 <| And.intro @fo_148_1 <| And.intro @fi_148_1 <| And.intro @ft_148_1 <| And.intro @fo_148_2 <| And.intro @fi_148_2 <| And.intro @ft_148_2 <| @lay_148
set_option maxHeartbeats 4000000 in
theorem eqSizeEdge_sat {a0 : SizeEdge} {a1 : SizeEdge}  {r : Bool} (h : eqSizeEdge a0 a1 = some r) : Sat Try.prog 238 [((SizeEdge.pv false) a0), ((SizeEdge.pv false) a1)] (B r) := by
  replace h := Run.of h
  unfold eqSizeEdge at h
  refine Sat.of_m (nt := 20) (rs := [.tmp 4]) (n := 100000) Try.func238 rfl rfl rfl rfl (by simp) ?_
  simp -failIfUnchanged only [↓RA, RB, RS, fx238, p1, p2, p3, p4, reduceIte, p5, p6, p7, p8]
  repeat (first | with_reducible refine noR_and (by repeat (first | exact noR_empty _ _ | exact noR_nilS _ _ | refine noR_mk _ _ _ _ _ rfl ?_ | refine noR_mkS _ _ _ _ _ rfl ?_)) ?_ | with_reducible refine noC_and (by repeat (first | exact noC_empty _ _ (by simp -failIfUnchanged only [↓RA, RB, RS, fx238, p1, p2, p3, p4, reduceIte, p5, p6, p7, p8]) | exact noC_nilS _ _ (by simp -failIfUnchanged only [↓RA, RB, RS, fx238, p1, p2, p3, p4, reduceIte, p5, p6, p7, p8]) | refine noC_mk _ _ _ _ _ rfl ?_ | refine noC_mkS _ _ _ _ _ rfl ?_)) ?_ | with_reducible refine and_ac ?_ | with_reducible refine And.intro (a := _ = List.range _) (by rfl) ?_)
  refine CondH.mk (fun c1 => ?_) (fun c1 => ?_)
  · replace h := run_t c1 h
    simp -failIfUnchanged only [↓RA, RB, RS, fx238, p1, p2, p3, p4, reduceIte, p5, p6, p7, p8, c1]
    refine CondH.mk (fun c2 => ?_) (fun c2 => ?_)
    · replace h := run_t c2 h
      simp -failIfUnchanged only [↓RA, RB, RS, fx238, p1, p2, p3, p4, reduceIte, p5, p6, p7, p8, c1, c2]
      refine CondH.mk (fun c3 => ?_) (fun c3 => ?_)
      · replace h := run_t c3 h
        simp -failIfUnchanged only [↓RA, RB, RS, fx238, p1, p2, p3, p4, reduceIte, p5, p6, p7, p8, c1, c2, c3]
        have h := run_some h
        obtain rfl : _ = r := h
        refine FinH.l ?_
        simp -failIfUnchanged only [↓RA, RB, RS, fx238, p1, p2, p3, p4, reduceIte, p5, p6, p7, p8, c1, c2, c3]
      · replace h := run_f c3 h
        simp -failIfUnchanged only [↓RA, RB, RS, fx238, p1, p2, p3, p4, reduceIte, p5, p6, p7, p8, c1, c2, c3]
        have h := run_some h
        obtain rfl : _ = r := h
        refine FinH.l ?_
        simp -failIfUnchanged only [↓RA, RB, RS, fx238, p1, p2, p3, p4, reduceIte, p5, p6, p7, p8, c1, c2, c3]
    · replace h := run_f c2 h
      simp -failIfUnchanged only [↓RA, RB, RS, fx238, p1, p2, p3, p4, reduceIte, p5, p6, p7, p8, c1, c2]
      have h := run_some h
      obtain rfl : _ = r := h
      refine FinH.l ?_
      simp -failIfUnchanged only [↓RA, RB, RS, fx238, p1, p2, p3, p4, reduceIte, p5, p6, p7, p8, c1, c2]
  · replace h := run_f c1 h
    simp -failIfUnchanged only [↓RA, RB, RS, fx238, p1, p2, p3, p4, reduceIte, p5, p6, p7, p8, c1]
    have h := run_some h
    obtain rfl : _ = r := h
    refine FinH.l ?_
    simp -failIfUnchanged only [↓RA, RB, RS, fx238, p1, p2, p3, p4, reduceIte, p5, p6, p7, p8, c1]

end Go.Proofs.Ytdmkceajaagpgaa
