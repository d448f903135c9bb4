/- A part of the proof: lemmas only; nothing is claimed here beyond what each lemma says. -/
import Derived.Test.YtgbddapcjhgllaaGm
import Derived.Test.YtgbddapcjhgllaaGf
import Derived.Test.YtgbddapcjhgllaaGsrt
import Derived.Test.YtgbddapcjhgllaaGsrl
import Derived.Test.YtgbddapcjhgllaaGlin
set_option linter.unusedSimpArgs false
set_option linter.unusedVariables false
set_option linter.defProp false
set_option maxRecDepth 4000
namespace Go.Proofs.Ytgbddapcjhgllaa
open Go.Av
open Nat renaming reduceLT → p1, reduceAdd → p2, reduceMul → p3, reduceEqDiff → p4, reduceBEq → p5, reduceLeDiff → p6, reduceSub → p7
open Int renaming reduceToNat → p8
def fx14 := And.intro @ty_3 <| And.intro @zc_3 <| And.intro @z_3 <| And.intro @ty_9 <| And.intro @zc_9 <| And.intro @z_9 <| And.intro @u_9 <| And.intro @ty_22 <| And.intro @zc_22 <| And.intro @z_22 <| And.intro @es_22 <| And.intro @eb_22 <| And.intro @sl_22 <| And.intro @is_22 <| And.intro @el_22 <| And.intro @ze_22 <| @ez_22
set_option maxHeartbeats 4000000 in
theorem szStringS_sat {a0 : List ByteArray} {a1 : Int}  {r : Int} (h : szStringS a0 a1 = some r) : Sat Try.prog 14 [(.sl false 1 (a0.map Sx)), (I a1)] (I r) := by
  replace h := Run.of h
  unfold szStringS at h
  refine Sat.of_m (nt := 28) (rs := [.tmp 4]) (n := 100000) Try.func14 rfl rfl rfl rfl (by simp) ?_
  simp -failIfUnchanged only [↓RA, RB, RS, fx14, p1, p2, p3, p4, reduceIte, p5, p6, p7, p8]
  refine CondH.mk (fun c1 => ?_) (fun c1 => ?_)
  · replace h := run_t c1 h
    simp -failIfUnchanged only [↓RA, RB, RS, fx14, p1, p2, p3, p4, reduceIte, p5, p6, p7, p8, c1]
    have h := run_some h
    obtain rfl : _ = r := h
    refine FinH.l ?_
    simp -failIfUnchanged only [↓RA, RB, RS, fx14, p1, p2, p3, p4, reduceIte, p5, p6, p7, p8, c1]
  · replace h := run_f c1 h
    simp -failIfUnchanged only [↓RA, RB, RS, fx14, p1, p2, p3, p4, reduceIte, p5, p6, p7, p8, c1]
    refine Mg.know_sl (b := false) (sz := 1) (es := a0.map Sx) 0 (by simp -failIfUnchanged only [↓RA, RB, RS, fx14, p1, p2, p3, p4, reduceIte, p5, p6, p7, p8, c1]) fun hl0 => ?_; rw [List.length_map] at hl0
    replace h := run_loop h
    refine Mg.forN h (fun i5 s5 => [(0, .val (.pv (.sl false 1 (a0.map Sx)))), (1, .val (.pv (I s5))), (5, .val (.pv (I (i5 : Int))))]) (fun i5 s5 => []) (St.le_mk2 (by simp -failIfUnchanged only [↓RA, RB, RS, fx14, p1, p2, p3, p4, reduceIte, p5, p6, p7, p8, c1])) (fun i5 s5 hi h => ?_) (fun s5 h => ?_)
    · have w5 := wrap_succ (i := i5) (by omega)
      simp -failIfUnchanged only [↓RA, RB, RS, fx14, p1, p2, p3, p4, reduceIte, p5, p6, p7, p8, c1]
      refine CondH.tt (decide_eq_true (by omega)) (fun c2 => ?_)
      simp -failIfUnchanged only [↓RA, RB, RS, fx14, p1, p2, p3, p4, reduceIte, p5, p6, p7, p8, c1, c2]
      obtain ⟨v21, hv21, h⟩ := run_bind h
      refine IdxH.mk (f := Sx) hv21 ?_ ?_ <;> simp -failIfUnchanged only [↓RA, RB, RS, fx14, p1, p2, p3, p4, reduceIte, p5, p6, p7, p8, c1, c2]
      refine CondH.mk (fun c3 => ?_) (fun c3 => ?_)
      · replace h := run_t c3 h
        simp -failIfUnchanged only [↓RA, RB, RS, fx14, p1, p2, p3, p4, reduceIte, p5, p6, p7, p8, c1, c2, c3]
        have h := run_some h
        obtain rfl : _ = r := h
        refine FinH.l ?_
        simp -failIfUnchanged only [↓RA, RB, RS, fx14, p1, p2, p3, p4, reduceIte, p5, p6, p7, p8, c1, c2, c3]
      · replace h := run_f c3 h
        simp -failIfUnchanged only [↓RA, RB, RS, fx14, p1, p2, p3, p4, reduceIte, p5, p6, p7, p8, c1, c2, c3]
        have h := run_some h
        refine RdH.mk ⟨_, h, ?_⟩
        refine St.le_mk2 ?_
        simp -failIfUnchanged only [↓RA, RB, RS, fx14, p1, p2, p3, p4, reduceIte, p5, p6, p7, p8, c1, c2, c3, w5]
    · simp -failIfUnchanged only [↓RA, RB, RS, fx14, p1, p2, p3, p4, reduceIte, p5, p6, p7, p8, c1]
      refine CondH.ff (decide_eq_false (by omega)) (fun c4 => ?_)
      simp -failIfUnchanged only [↓RA, RB, RS, fx14, p1, p2, p3, p4, reduceIte, p5, p6, p7, p8, c1, c4]
      have h := run_some h
      obtain rfl : _ = r := h
      refine FinH.l ?_
      simp -failIfUnchanged only [↓RA, RB, RS, fx14, p1, p2, p3, p4, reduceIte, p5, p6, p7, p8, c1, c4]

def fx15 := And.intro @ty_3 <| And.intro @zc_3 <| And.intro @z_3 <| And.intro @ty_23 <| And.intro @zc_23 <| And.intro @z_23 <| And.intro @es_23 <| And.intro @eb_23 <| And.intro @sl_23 <| And.intro @is_23 <| And.intro @el_23 <| And.intro @ze_23 <| @ez_23
set_option maxHeartbeats 4000000 in
theorem szIntS_sat {a0 : List Int} {a1 : Int}  {r : Int} (h : szIntS a0 a1 = some r) : Sat Try.prog 15 [(.sl false 1 (a0.map I)), (I a1)] (I r) := by
  replace h := Run.of h
  unfold szIntS at h
  refine Sat.of_m (nt := 12) (rs := [.tmp 4]) (n := 100000) Try.func15 rfl rfl rfl rfl (by simp) ?_
  simp -failIfUnchanged only [↓RA, RB, RS, fx15, p1, p2, p3, p4, reduceIte, p5, p6, p7, p8]
  refine CondH.mk (fun c1 => ?_) (fun c1 => ?_)
  · replace h := run_t c1 h
    simp -failIfUnchanged only [↓RA, RB, RS, fx15, p1, p2, p3, p4, reduceIte, p5, p6, p7, p8, c1]
    have h := run_some h
    obtain rfl : _ = r := h
    refine FinH.l ?_
    simp -failIfUnchanged only [↓RA, RB, RS, fx15, p1, p2, p3, p4, reduceIte, p5, p6, p7, p8, c1]
  · replace h := run_f c1 h
    simp -failIfUnchanged only [↓RA, RB, RS, fx15, p1, p2, p3, p4, reduceIte, p5, p6, p7, p8, c1]
    have h := run_some h
    obtain rfl : _ = r := h
    refine FinH.l ?_
    simp -failIfUnchanged only [↓RA, RB, RS, fx15, p1, p2, p3, p4, reduceIte, p5, p6, p7, p8, c1]

def fx5 := And.intro @ty_3 <| And.intro @zc_3 <| And.intro @z_3 <| And.intro @ty_22 <| And.intro @zc_22 <| And.intro @z_22 <| And.intro @es_22 <| And.intro @eb_22 <| And.intro @sl_22 <| And.intro @is_22 <| And.intro @el_22 <| And.intro @ze_22 <| And.intro @ez_22 <| And.intro @ty_23 <| And.intro @zc_23 <| And.intro @z_23 <| And.intro @es_23 <| And.intro @eb_23 <| And.intro @sl_23 <| And.intro @is_23 <| And.intro @el_23 <| And.intro @ze_23 <| And.intro @ez_23 <| And.intro @ty_25 <| And.intro @zc_25 <| And.intro @z_25 <| And.intro @fo_25_0 <| And.intro @fi_25_0 <| And.intro @ft_25_0 <| And.intro @fo_25_1 <| And.intro @fi_25_1 <| And.intro @ft_25_1 <| And.intro @fo_25_2 <| And.intro @fi_25_2 <| And.intro @ft_25_2 <| @lay_25
set_option maxHeartbeats 4000000 in
theorem szLinear_sat {a0 : Linear} {a1 : Int}  {r : Int} (h : szLinear a0 a1 = some r) : Sat Try.prog 5 [((Linear.pv false) a0), (I a1)] (I r) := by
  replace h := Run.of h
  unfold szLinear at h
  refine Sat.of_m (nt := 18) (rs := [.tmp 4]) (n := 100000) Try.func5 rfl rfl rfl rfl (by simp) ?_
  simp -failIfUnchanged only [↓RA, RB, RS, fx5, p1, p2, p3, p4, reduceIte, p5, p6, p7, p8]
  repeat (first | with_reducible refine noR_and (by repeat (first | exact noR_empty _ _ | exact noR_nilS _ _ | refine noR_mk _ _ _ _ _ rfl ?_ | refine noR_mkS _ _ _ _ _ rfl ?_)) ?_ | with_reducible refine noC_and (by repeat (first | exact noC_empty _ _ (by simp -failIfUnchanged only [↓RA, RB, RS, fx5, p1, p2, p3, p4, reduceIte, p5, p6, p7, p8]) | exact noC_nilS _ _ (by simp -failIfUnchanged only [↓RA, RB, RS, fx5, p1, p2, p3, p4, reduceIte, p5, p6, p7, p8]) | refine noC_mk _ _ _ _ _ rfl ?_ | refine noC_mkS _ _ _ _ _ rfl ?_)) ?_ | with_reducible refine and_ac ?_ | with_reducible refine And.intro (a := _ = List.range _) (by rfl) ?_)
  obtain ⟨v8, hv8, h⟩ := run_bind h
  refine CallH.mk [false, false] (szStringS_sat hv8) ?_ ?_ <;> simp -failIfUnchanged only [↓RA, RB, RS, fx5, p1, p2, p3, p4, reduceIte, p5, p6, p7, p8]
  refine CondH.mk (fun c1 => ?_) (fun c1 => ?_)
  · replace h := run_t c1 h
    simp -failIfUnchanged only [↓RA, RB, RS, fx5, p1, p2, p3, p4, reduceIte, p5, p6, p7, p8, c1]
    have h := run_some h
    obtain rfl : _ = r := h
    refine FinH.l ?_
    simp -failIfUnchanged only [↓RA, RB, RS, fx5, p1, p2, p3, p4, reduceIte, p5, p6, p7, p8, c1]
  · replace h := run_f c1 h
    simp -failIfUnchanged only [↓RA, RB, RS, fx5, p1, p2, p3, p4, reduceIte, p5, p6, p7, p8, c1]
    obtain ⟨v14, hv14, h⟩ := run_bind h
    refine CallH.mk [false, false] (szIntS_sat hv14) ?_ ?_ <;> simp -failIfUnchanged only [↓RA, RB, RS, fx5, p1, p2, p3, p4, reduceIte, p5, p6, p7, p8, c1]
    refine CondH.mk (fun c2 => ?_) (fun c2 => ?_)
    · replace h := run_t c2 h
      simp -failIfUnchanged only [↓RA, RB, RS, fx5, p1, p2, p3, p4, reduceIte, p5, p6, p7, p8, c1, c2]
      have h := run_some h
      obtain rfl : _ = r := h
      refine FinH.l ?_
      simp -failIfUnchanged only [↓RA, RB, RS, fx5, p1, p2, p3, p4, reduceIte, p5, p6, p7, p8, c1, c2]
    · replace h := run_f c2 h
      simp -failIfUnchanged only [↓RA, RB, RS, fx5, p1, p2, p3, p4, reduceIte, p5, p6, p7, p8, c1, c2]
      have h := run_some h
      obtain rfl : _ = r := h
      refine FinH.l ?_
      simp -failIfUnchanged only [↓RA, RB, RS, fx5, p1, p2, p3, p4, reduceIte, p5, p6, p7, p8, c1, c2]

def fx18 := And.intro @ty_3 <| And.intro @zc_3 <| And.intro @z_3 <| And.intro @ty_9 <| And.intro @zc_9 <| And.intro @z_9 <| And.intro @u_9 <| And.intro @ty_22 <| And.intro @zc_22 <| And.intro @z_22 <| And.intro @es_22 <| And.intro @eb_22 <| And.intro @sl_22 <| And.intro @is_22 <| And.intro @el_22 <| And.intro @ze_22 <| @ez_22
set_option maxHeartbeats 4000000 in
theorem toStringS_sat {a0 : List ByteArray}  {r : List ByteArray} (h : toStringS a0 = some r) : Sat Try.prog 18 [(.sl false 1 (a0.map Sx))] (.sl true 1 (r.map Sx)) := by
  replace h := Run.of h
  unfold toStringS at h
  refine Sat.of_m (nt := 22) (rs := [.tmp 2]) (n := 100000) Try.func18 rfl rfl rfl rfl (by simp) ?_
  simp -failIfUnchanged only [↓RA, RB, RS, fx18, p1, p2, p3, p4, reduceIte, p5, p6, p7, p8]
  obtain ⟨n7, hn7, h⟩ := run_bind h
  refine MknH.mk hn7 ?_
  simp -failIfUnchanged only [↓RA, RB, RS, fx18, p1, p2, p3, p4, reduceIte, p5, p6, p7, p8]
  repeat (first | with_reducible refine noR_and (by repeat (first | exact noR_empty _ _ | exact noR_nilS _ _ | refine noR_mk _ _ _ _ _ rfl ?_ | refine noR_mkS _ _ _ _ _ rfl ?_)) ?_ | with_reducible refine noC_and (by repeat (first | exact noC_empty _ _ (by simp -failIfUnchanged only [↓RA, RB, RS, fx18, p1, p2, p3, p4, reduceIte, p5, p6, p7, p8]) | exact noC_nilS _ _ (by simp -failIfUnchanged only [↓RA, RB, RS, fx18, p1, p2, p3, p4, reduceIte, p5, p6, p7, p8]) | refine noC_mk _ _ _ _ _ rfl ?_ | refine noC_mkS _ _ _ _ _ rfl ?_)) ?_ | with_reducible refine and_ac ?_ | with_reducible refine And.intro (a := _ = List.range _) (by rfl) ?_)
  refine Mg.know_sl (b := false) (sz := 1) (es := a0.map Sx) 0 (by simp -failIfUnchanged only [↓RA, RB, RS, fx18, p1, p2, p3, p4, reduceIte, p5, p6, p7, p8]) fun hl0 => ?_; rw [List.length_map] at hl0
  replace h := run_loop h
  refine Mg.forN h (fun i3 s3 => [(0, .val (.pv (.sl false 1 (a0.map Sx)))), (3, .val (.own 112)), (4, .val (.pv (I (i3 : Int))))]) (fun i3 s3 => [(112, (1, s3.map Sx))]) (St.le_mk2 (by simp -failIfUnchanged only [↓RA, RB, RS, fx18, p1, p2, p3, p4, reduceIte, p5, p6, p7, p8])) (fun i3 s3 hi h => ?_) (fun s3 h => ?_)
  · have w3 := wrap_succ (i := i3) (by omega)
    simp -failIfUnchanged only [↓RA, RB, RS, fx18, p1, p2, p3, p4, reduceIte, p5, p6, p7, p8]
    refine CondH.tt (decide_eq_true (by omega)) (fun c1 => ?_)
    simp -failIfUnchanged only [↓RA, RB, RS, fx18, p1, p2, p3, p4, reduceIte, p5, p6, p7, p8, c1]
    obtain ⟨v18, hv18, h⟩ := run_bind h
    refine IdxH.mk (f := Sx) hv18 ?_ ?_ <;> simp -failIfUnchanged only [↓RA, RB, RS, fx18, p1, p2, p3, p4, reduceIte, p5, p6, p7, p8, c1]
    obtain ⟨v20, hv20, h⟩ := run_bind h
    refine IdxH.mk (f := Sx) hv20 ?_ ?_ <;> simp -failIfUnchanged only [↓RA, RB, RS, fx18, p1, p2, p3, p4, reduceIte, p5, p6, p7, p8, c1]
    obtain ⟨w2, hw2, h⟩ := run_bind h
    refine EldH.mk (f := Sx) hw2 rfl ?_ ?_ <;> simp -failIfUnchanged only [↓RA, RB, RS, fx18, p1, p2, p3, p4, reduceIte, p5, p6, p7, p8, c1]
    have h := run_some h
    refine RdH.mk ⟨_, h, ?_⟩
    refine St.le_mk2 ?_
    simp -failIfUnchanged only [↓RA, RB, RS, fx18, p1, p2, p3, p4, reduceIte, p5, p6, p7, p8, c1, w3]
  · simp -failIfUnchanged only [↓RA, RB, RS, fx18, p1, p2, p3, p4, reduceIte, p5, p6, p7, p8]
    refine CondH.ff (decide_eq_false (by omega)) (fun c3 => ?_)
    simp -failIfUnchanged only [↓RA, RB, RS, fx18, p1, p2, p3, p4, reduceIte, p5, p6, p7, p8, c3]
    have h := run_some h
    obtain rfl : _ = r := h
    refine FinH.l ?_
    simp -failIfUnchanged only [↓RA, RB, RS, fx18, p1, p2, p3, p4, reduceIte, p5, p6, p7, p8, c3]

def fx19 := And.intro @ty_3 <| And.intro @zc_3 <| And.intro @z_3 <| And.intro @ty_23 <| And.intro @zc_23 <| And.intro @z_23 <| And.intro @es_23 <| And.intro @eb_23 <| And.intro @sl_23 <| And.intro @is_23 <| And.intro @el_23 <| And.intro @ze_23 <| @ez_23
set_option maxHeartbeats 4000000 in
theorem toIntS_sat {a0 : List Int}  {r : List Int} (h : toIntS a0 = some r) : Sat Try.prog 19 [(.sl false 1 (a0.map I))] (.sl true 1 (r.map I)) := by
  replace h := Run.of h
  unfold toIntS at h
  refine Sat.of_m (nt := 22) (rs := [.tmp 2]) (n := 100000) Try.func19 rfl rfl rfl rfl (by simp) ?_
  simp -failIfUnchanged only [↓RA, RB, RS, fx19, p1, p2, p3, p4, reduceIte, p5, p6, p7, p8]
  obtain ⟨n7, hn7, h⟩ := run_bind h
  refine MknH.mk hn7 ?_
  simp -failIfUnchanged only [↓RA, RB, RS, fx19, p1, p2, p3, p4, reduceIte, p5, p6, p7, p8]
  repeat (first | with_reducible refine noR_and (by repeat (first | exact noR_empty _ _ | exact noR_nilS _ _ | refine noR_mk _ _ _ _ _ rfl ?_ | refine noR_mkS _ _ _ _ _ rfl ?_)) ?_ | with_reducible refine noC_and (by repeat (first | exact noC_empty _ _ (by simp -failIfUnchanged only [↓RA, RB, RS, fx19, p1, p2, p3, p4, reduceIte, p5, p6, p7, p8]) | exact noC_nilS _ _ (by simp -failIfUnchanged only [↓RA, RB, RS, fx19, p1, p2, p3, p4, reduceIte, p5, p6, p7, p8]) | refine noC_mk _ _ _ _ _ rfl ?_ | refine noC_mkS _ _ _ _ _ rfl ?_)) ?_ | with_reducible refine and_ac ?_ | with_reducible refine And.intro (a := _ = List.range _) (by rfl) ?_)
  refine Mg.know_sl (b := false) (sz := 1) (es := a0.map I) 0 (by simp -failIfUnchanged only [↓RA, RB, RS, fx19, p1, p2, p3, p4, reduceIte, p5, p6, p7, p8]) fun hl0 => ?_; rw [List.length_map] at hl0
  replace h := run_loop h
  refine Mg.forN h (fun i3 s3 => [(0, .val (.pv (.sl false 1 (a0.map I)))), (3, .val (.own 112)), (4, .val (.pv (I (i3 : Int))))]) (fun i3 s3 => [(112, (1, s3.map I))]) (St.le_mk2 (by simp -failIfUnchanged only [↓RA, RB, RS, fx19, p1, p2, p3, p4, reduceIte, p5, p6, p7, p8])) (fun i3 s3 hi h => ?_) (fun s3 h => ?_)
  · have w3 := wrap_succ (i := i3) (by omega)
    simp -failIfUnchanged only [↓RA, RB, RS, fx19, p1, p2, p3, p4, reduceIte, p5, p6, p7, p8]
    refine CondH.tt (decide_eq_true (by omega)) (fun c1 => ?_)
    simp -failIfUnchanged only [↓RA, RB, RS, fx19, p1, p2, p3, p4, reduceIte, p5, p6, p7, p8, c1]
    obtain ⟨v18, hv18, h⟩ := run_bind h
    refine IdxH.mk (f := I) hv18 ?_ ?_ <;> simp -failIfUnchanged only [↓RA, RB, RS, fx19, p1, p2, p3, p4, reduceIte, p5, p6, p7, p8, c1]
    obtain ⟨v20, hv20, h⟩ := run_bind h
    refine IdxH.mk (f := I) hv20 ?_ ?_ <;> simp -failIfUnchanged only [↓RA, RB, RS, fx19, p1, p2, p3, p4, reduceIte, p5, p6, p7, p8, c1]
    obtain ⟨w2, hw2, h⟩ := run_bind h
    refine EldH.mk (f := I) hw2 rfl ?_ ?_ <;> simp -failIfUnchanged only [↓RA, RB, RS, fx19, p1, p2, p3, p4, reduceIte, p5, p6, p7, p8, c1]
    have h := run_some h
    refine RdH.mk ⟨_, h, ?_⟩
    refine St.le_mk2 ?_
    simp -failIfUnchanged only [↓RA, RB, RS, fx19, p1, p2, p3, p4, reduceIte, p5, p6, p7, p8, c1, w3]
  · simp -failIfUnchanged only [↓RA, RB, RS, fx19, p1, p2, p3, p4, reduceIte, p5, p6, p7, p8]
    refine CondH.ff (decide_eq_false (by omega)) (fun c3 => ?_)
    simp -failIfUnchanged only [↓RA, RB, RS, fx19, p1, p2, p3, p4, reduceIte, p5, p6, p7, p8, c3]
    have h := run_some h
    obtain rfl : _ = r := h
    refine FinH.l ?_
    simp -failIfUnchanged only [↓RA, RB, RS, fx19, p1, p2, p3, p4, reduceIte, p5, p6, p7, p8, c3]

def fx7 := And.intro @ty_3 <| And.intro @zc_3 <| And.intro @z_3 <| And.intro @ty_22 <| And.intro @zc_22 <| And.intro @z_22 <| And.intro @es_22 <| And.intro @eb_22 <| And.intro @sl_22 <| And.intro @is_22 <| And.intro @el_22 <| And.intro @ze_22 <| And.intro @ez_22 <| And.intro @ty_23 <| And.intro @zc_23 <| And.intro @z_23 <| And.intro @es_23 <| And.intro @eb_23 <| And.intro @sl_23 <| And.intro @is_23 <| And.intro @el_23 <| And.intro @ze_23 <| And.intro @ez_23 <| And.intro @ty_25 <| And.intro @zc_25 <| And.intro @z_25 <| And.intro @fo_25_0 <| And.intro @fi_25_0 <| And.intro @ft_25_0 <| And.intro @fo_25_1 <| And.intro @fi_25_1 <| And.intro @ft_25_1 <| And.intro @fo_25_2 <| And.intro @fi_25_2 <| And.intro @ft_25_2 <| And.intro @lay_25 <| And.intro @ty_27 <| And.intro @zc_27 <| And.intro @z_27 <| And.intro @fo_27_0 <| And.intro @fi_27_0 <| And.intro @ft_27_0 <| And.intro @fo_27_1 <| And.intro @fi_27_1 <| And.intro @ft_27_1 <| And.intro @fo_27_2 <| And.intro @fi_27_2 <| And.intro @ft_27_2 <| @lay_27
set_option maxHeartbeats 4000000 in
theorem toLinear_sat {a0 : Linear}  {r : Linear} (h : toLinear a0 = some r) : Sat Try.prog 7 [((Linear.pv false) a0)] ((Linear.pv true) r) := by
  replace h := Run.of h
  unfold toLinear at h
  refine Sat.of_m (nt := 16) (rs := [.cell 2 27]) (n := 100000) Try.func7 rfl rfl rfl rfl (by simp) ?_
  simp -failIfUnchanged only [↓RA, RB, RS, fx7, p1, p2, p3, p4, reduceIte, p5, p6, p7, p8]
  repeat (first | with_reducible refine noR_and (by repeat (first | exact noR_empty _ _ | exact noR_nilS _ _ | refine noR_mk _ _ _ _ _ rfl ?_ | refine noR_mkS _ _ _ _ _ rfl ?_)) ?_ | with_reducible refine noC_and (by repeat (first | exact noC_empty _ _ (by simp -failIfUnchanged only [↓RA, RB, RS, fx7, p1, p2, p3, p4, reduceIte, p5, p6, p7, p8]) | exact noC_nilS _ _ (by simp -failIfUnchanged only [↓RA, RB, RS, fx7, p1, p2, p3, p4, reduceIte, p5, p6, p7, p8]) | refine noC_mk _ _ _ _ _ rfl ?_ | refine noC_mkS _ _ _ _ _ rfl ?_)) ?_ | with_reducible refine and_ac ?_ | with_reducible refine And.intro (a := _ = List.range _) (by rfl) ?_)
  obtain ⟨v6, hv6, h⟩ := run_bind h
  refine CallH.mk [false] (toStringS_sat hv6) ?_ ?_ <;> simp -failIfUnchanged only [↓RA, RB, RS, fx7, p1, p2, p3, p4, reduceIte, p5, p6, p7, p8]
  repeat (first | with_reducible refine noR_and (by repeat (first | exact noR_empty _ _ | exact noR_nilS _ _ | refine noR_mk _ _ _ _ _ rfl ?_ | refine noR_mkS _ _ _ _ _ rfl ?_)) ?_ | with_reducible refine noC_and (by repeat (first | exact noC_empty _ _ (by simp -failIfUnchanged only [↓RA, RB, RS, fx7, p1, p2, p3, p4, reduceIte, p5, p6, p7, p8]) | exact noC_nilS _ _ (by simp -failIfUnchanged only [↓RA, RB, RS, fx7, p1, p2, p3, p4, reduceIte, p5, p6, p7, p8]) | refine noC_mk _ _ _ _ _ rfl ?_ | refine noC_mkS _ _ _ _ _ rfl ?_)) ?_ | with_reducible refine and_ac ?_ | with_reducible refine And.intro (a := _ = List.range _) (by rfl) ?_)
  obtain ⟨v10, hv10, h⟩ := run_bind h
  refine CallH.mk [false] (toIntS_sat hv10) ?_ ?_ <;> simp -failIfUnchanged only [↓RA, RB, RS, fx7, p1, p2, p3, p4, reduceIte, p5, p6, p7, p8]
  repeat (first | with_reducible refine noR_and (by repeat (first | exact noR_empty _ _ | exact noR_nilS _ _ | refine noR_mk _ _ _ _ _ rfl ?_ | refine noR_mkS _ _ _ _ _ rfl ?_)) ?_ | with_reducible refine noC_and (by repeat (first | exact noC_empty _ _ (by simp -failIfUnchanged only [↓RA, RB, RS, fx7, p1, p2, p3, p4, reduceIte, p5, p6, p7, p8]) | exact noC_nilS _ _ (by simp -failIfUnchanged only [↓RA, RB, RS, fx7, p1, p2, p3, p4, reduceIte, p5, p6, p7, p8]) | refine noC_mk _ _ _ _ _ rfl ?_ | refine noC_mkS _ _ _ _ _ rfl ?_)) ?_ | with_reducible refine and_ac ?_ | with_reducible refine And.intro (a := _ = List.range _) (by rfl) ?_)
  have h := run_some h
  obtain rfl : _ = r := h
  refine FinH.l ?_
  simp -failIfUnchanged only [↓RA, RB, RS, fx7, p1, p2, p3, p4, reduceIte, p5, p6, p7, p8]

def fx35 := And.intro @ty_3 <| And.intro @zc_3 <| @z_3
set_option maxHeartbeats 4000000 in
theorem spec_l1In_sat {a0 : Int} {a1 : Int} {a2 : Int}  {r : Bool} (h : spec_l1In a0 a1 a2 = some r) : Sat Try.prog 35 [(I a0), (I a1), (I a2)] (B r) := by
  replace h := Run.of h
  unfold spec_l1In at h
  refine Sat.of_m (nt := 15) (rs := [.tmp 6]) (n := 100000) Try.func35 rfl rfl rfl rfl (by simp) ?_
  simp -failIfUnchanged only [↓RA, RB, RS, fx35, p1, p2, p3, p4, reduceIte, p5, p6, p7, p8]
  refine CondH.mk (fun c1 => ?_) (fun c1 => ?_)
  · replace h := run_t c1 h
    simp -failIfUnchanged only [↓RA, RB, RS, fx35, p1, p2, p3, p4, reduceIte, p5, p6, p7, p8, c1]
    have h := run_some h
    obtain rfl : _ = r := h
    refine FinH.l ?_
    simp -failIfUnchanged only [↓RA, RB, RS, fx35, p1, p2, p3, p4, reduceIte, p5, p6, p7, p8, c1]
  · replace h := run_f c1 h
    simp -failIfUnchanged only [↓RA, RB, RS, fx35, p1, p2, p3, p4, reduceIte, p5, p6, p7, p8, c1]
    have h := run_some h
    obtain rfl : _ = r := h
    refine FinH.l ?_
    simp -failIfUnchanged only [↓RA, RB, RS, fx35, p1, p2, p3, p4, reduceIte, p5, p6, p7, p8, c1]

def fx40 := And.intro @ty_5 <| And.intro @zc_5 <| @z_5
set_option maxHeartbeats 4000000 in
theorem spec_l2Small_sat {a0 : Int}  {r : Bool} (h : spec_l2Small a0 = some r) : Sat Try.prog 40 [((Ik .u8) a0)] (B r) := by
  replace h := Run.of h
  unfold spec_l2Small at h
  refine Sat.of_m (nt := 17) (rs := [.tmp 2]) (n := 100000) Try.func40 rfl rfl rfl rfl (by simp) ?_
  simp -failIfUnchanged only [↓RA, RB, RS, fx40, p1, p2, p3, p4, reduceIte, p5, p6, p7, p8]
  refine CondH.mk (fun c1 => ?_) (fun c1 => ?_)
  · replace h := run_t c1 h
    simp -failIfUnchanged only [↓RA, RB, RS, fx40, p1, p2, p3, p4, reduceIte, p5, p6, p7, p8, c1]
    refine CondH.mk (fun c2 => ?_) (fun c2 => ?_)
    · replace h := run_t c2 h
      simp -failIfUnchanged only [↓RA, RB, RS, fx40, p1, p2, p3, p4, reduceIte, p5, p6, p7, p8, c1, c2]
      have h := run_some h
      obtain rfl : _ = r := h
      refine FinH.l ?_
      simp -failIfUnchanged only [↓RA, RB, RS, fx40, p1, p2, p3, p4, reduceIte, p5, p6, p7, p8, c1, c2]
    · replace h := run_f c2 h
      simp -failIfUnchanged only [↓RA, RB, RS, fx40, p1, p2, p3, p4, reduceIte, p5, p6, p7, p8, c1, c2]
      refine CondH.mk (fun c3 => ?_) (fun c3 => ?_)
      · replace h := run_t c3 h
        simp -failIfUnchanged only [↓RA, RB, RS, fx40, p1, p2, p3, p4, reduceIte, p5, p6, p7, p8, c1, c2, c3]
        have h := run_some h
        obtain rfl : _ = r := h
        refine FinH.l ?_
        simp -failIfUnchanged only [↓RA, RB, RS, fx40, p1, p2, p3, p4, reduceIte, p5, p6, p7, p8, c1, c2, c3]
      · replace h := run_f c3 h
        simp -failIfUnchanged only [↓RA, RB, RS, fx40, p1, p2, p3, p4, reduceIte, p5, p6, p7, p8, c1, c2, c3]
        have h := run_some h
        obtain rfl : _ = r := h
        refine FinH.l ?_
        simp -failIfUnchanged only [↓RA, RB, RS, fx40, p1, p2, p3, p4, reduceIte, p5, p6, p7, p8, c1, c2, c3]
  · replace h := run_f c1 h
    simp -failIfUnchanged only [↓RA, RB, RS, fx40, p1, p2, p3, p4, reduceIte, p5, p6, p7, p8, c1]
    refine CondH.mk (fun c4 => ?_) (fun c4 => ?_)
    · replace h := run_t c4 h
      simp -failIfUnchanged only [↓RA, RB, RS, fx40, p1, p2, p3, p4, reduceIte, p5, p6, p7, p8, c1, c4]
      have h := run_some h
      obtain rfl : _ = r := h
      refine FinH.l ?_
      simp -failIfUnchanged only [↓RA, RB, RS, fx40, p1, p2, p3, p4, reduceIte, p5, p6, p7, p8, c1, c4]
    · replace h := run_f c4 h
      simp -failIfUnchanged only [↓RA, RB, RS, fx40, p1, p2, p3, p4, reduceIte, p5, p6, p7, p8, c1, c4]
      have h := run_some h
      obtain rfl : _ = r := h
      refine FinH.l ?_
      simp -failIfUnchanged only [↓RA, RB, RS, fx40, p1, p2, p3, p4, reduceIte, p5, p6, p7, p8, c1, c4]

def fx28 := And.intro @ty_3 <| And.intro @zc_3 <| And.intro @z_3 <| And.intro @ty_4 <| And.intro @zc_4 <| And.intro @z_4 <| And.intro @u_4 <| And.intro @ty_5 <| And.intro @zc_5 <| And.intro @z_5 <| And.intro @ty_9 <| And.intro @zc_9 <| And.intro @z_9 <| @u_9
set_option maxHeartbeats 4000000 in
theorem spec_l2Var_sat {a0 : ByteArray}  {r : Bool} (h : spec_l2Var a0 = some r) : Sat Try.prog 28 [(Sx a0)] (B r) := by
  replace h := Run.of h
  unfold spec_l2Var at h
  refine Sat.of_m (nt := 29) (rs := [.tmp 2]) (n := 100000) Try.func28 rfl rfl rfl rfl (by simp) ?_
  simp -failIfUnchanged only [↓RA, RB, RS, fx28, p1, p2, p3, p4, reduceIte, p5, p6, p7, p8]
  obtain ⟨v6, hv6, h⟩ := run_bind h
  refine CallH.mk [false, false, false] (spec_l1In_sat hv6) ?_ ?_ <;> simp -failIfUnchanged only [↓RA, RB, RS, fx28, p1, p2, p3, p4, reduceIte, p5, p6, p7, p8]
  refine CondH.mk (fun c1 => ?_) (fun c1 => ?_)
  · replace h := run_t c1 h
    simp -failIfUnchanged only [↓RA, RB, RS, fx28, p1, p2, p3, p4, reduceIte, p5, p6, p7, p8, c1]
    obtain ⟨v10, hv10, h⟩ := run_bind h
    refine SidxH.mk hv10 ?_
    simp -failIfUnchanged only [↓RA, RB, RS, fx28, p1, p2, p3, p4, reduceIte, p5, p6, p7, p8, c1]
    refine CondH.mk (fun c2 => ?_) (fun c2 => ?_)
    · replace h := run_t c2 h
      simp -failIfUnchanged only [↓RA, RB, RS, fx28, p1, p2, p3, p4, reduceIte, p5, p6, p7, p8, c1, c2]
      have h := run_some h
      obtain rfl : _ = r := h
      refine FinH.l ?_
      simp -failIfUnchanged only [↓RA, RB, RS, fx28, p1, p2, p3, p4, reduceIte, p5, p6, p7, p8, c1, c2]
    · replace h := run_f c2 h
      simp -failIfUnchanged only [↓RA, RB, RS, fx28, p1, p2, p3, p4, reduceIte, p5, p6, p7, p8, c1, c2]
      obtain ⟨v15, hv15, h⟩ := run_bind h
      refine SidxH.mk hv15 ?_
      simp -failIfUnchanged only [↓RA, RB, RS, fx28, p1, p2, p3, p4, reduceIte, p5, p6, p7, p8, c1, c2]
      refine CondH.mk (fun c3 => ?_) (fun c3 => ?_)
      · replace h := run_t c3 h
        simp -failIfUnchanged only [↓RA, RB, RS, fx28, p1, p2, p3, p4, reduceIte, p5, p6, p7, p8, c1, c2, c3]
        have h := run_some h
        obtain rfl : _ = r := h
        refine FinH.l ?_
        simp -failIfUnchanged only [↓RA, RB, RS, fx28, p1, p2, p3, p4, reduceIte, p5, p6, p7, p8, c1, c2, c3]
      · replace h := run_f c3 h
        simp -failIfUnchanged only [↓RA, RB, RS, fx28, p1, p2, p3, p4, reduceIte, p5, p6, p7, p8, c1, c2, c3]
        obtain ⟨N4, hN4, h⟩ := run_bind h
        obtain ⟨hN4a, hN4b⟩ := bnd_some hN4
        replace h := run_loop h
        refine Mg.forA (N := N4) (a := 1) h (fun i4 s4 => [(0, .val (.pv (Sx a0))), (3, .val (.pv (I (i4 : Int))))]) (fun i4 s4 => []) (St.le_mk2 (by simp -failIfUnchanged only [↓RA, RB, RS, fx28, p1, p2, p3, p4, reduceIte, p5, p6, p7, p8, c1, c2, c3])) (fun i4 s4 hi hj h => ?_) (fun j4 s4 hj h => ?_)
        · have w4 := wrap_succ (i := i4) (by omega)
          simp -failIfUnchanged only [↓RA, RB, RS, fx28, p1, p2, p3, p4, reduceIte, p5, p6, p7, p8, c1, c2, c3]
          refine CondH.tt (decide_eq_true (by omega)) (fun c4 => ?_)
          simp -failIfUnchanged only [↓RA, RB, RS, fx28, p1, p2, p3, p4, reduceIte, p5, p6, p7, p8, c1, c2, c3, c4]
          obtain ⟨v26, hv26, h⟩ := run_bind h
          refine SidxH.mk hv26 ?_
          simp -failIfUnchanged only [↓RA, RB, RS, fx28, p1, p2, p3, p4, reduceIte, p5, p6, p7, p8, c1, c2, c3, c4]
          obtain ⟨v27, hv27, h⟩ := run_bind h
          refine CallH.mk [false] (spec_l2Small_sat hv27) ?_ ?_ <;> simp -failIfUnchanged only [↓RA, RB, RS, fx28, p1, p2, p3, p4, reduceIte, p5, p6, p7, p8, c1, c2, c3, c4]
          refine CondH.mk (fun c5 => ?_) (fun c5 => ?_)
          · replace h := run_t c5 h
            simp -failIfUnchanged only [↓RA, RB, RS, fx28, p1, p2, p3, p4, reduceIte, p5, p6, p7, p8, c1, c2, c3, c4, c5]
            have h := run_some h
            refine RdH.mk ⟨_, h, ?_⟩
            refine St.le_mk2 ?_
            simp -failIfUnchanged only [↓RA, RB, RS, fx28, p1, p2, p3, p4, reduceIte, p5, p6, p7, p8, c1, c2, c3, c4, c5, w4]
          · replace h := run_f c5 h
            simp -failIfUnchanged only [↓RA, RB, RS, fx28, p1, p2, p3, p4, reduceIte, p5, p6, p7, p8, c1, c2, c3, c4, c5]
            have h := run_some h
            obtain rfl : _ = r := h
            refine FinH.l ?_
            simp -failIfUnchanged only [↓RA, RB, RS, fx28, p1, p2, p3, p4, reduceIte, p5, p6, p7, p8, c1, c2, c3, c4, c5]
        · simp -failIfUnchanged only [↓RA, RB, RS, fx28, p1, p2, p3, p4, reduceIte, p5, p6, p7, p8, c1, c2, c3]
          refine CondH.ff (decide_eq_false (by omega)) (fun c6 => ?_)
          simp -failIfUnchanged only [↓RA, RB, RS, fx28, p1, p2, p3, p4, reduceIte, p5, p6, p7, p8, c1, c2, c3, c6]
          have h := run_some h
          obtain rfl : _ = r := h
          refine FinH.l ?_
          simp -failIfUnchanged only [↓RA, RB, RS, fx28, p1, p2, p3, p4, reduceIte, p5, p6, p7, p8, c1, c2, c3, c6]
  · replace h := run_f c1 h
    simp -failIfUnchanged only [↓RA, RB, RS, fx28, p1, p2, p3, p4, reduceIte, p5, p6, p7, p8, c1]
    have h := run_some h
    obtain rfl : _ = r := h
    refine FinH.l ?_
    simp -failIfUnchanged only [↓RA, RB, RS, fx28, p1, p2, p3, p4, reduceIte, p5, p6, p7, p8, c1]

def fx16 := And.intro @ty_3 <| And.intro @zc_3 <| And.intro @z_3 <| And.intro @ty_4 <| And.intro @zc_4 <| And.intro @z_4 <| And.intro @u_4 <| And.intro @ty_9 <| And.intro @zc_9 <| And.intro @z_9 <| And.intro @u_9 <| And.intro @ty_22 <| And.intro @zc_22 <| And.intro @z_22 <| And.intro @es_22 <| And.intro @eb_22 <| And.intro @sl_22 <| And.intro @is_22 <| And.intro @el_22 <| And.intro @ze_22 <| And.intro @ez_22 <| And.intro @ty_23 <| And.intro @zc_23 <| And.intro @z_23 <| And.intro @es_23 <| And.intro @eb_23 <| And.intro @sl_23 <| And.intro @is_23 <| And.intro @el_23 <| And.intro @ze_23 <| And.intro @ez_23 <| And.intro @ty_27 <| And.intro @zc_27 <| And.intro @z_27 <| And.intro @fo_27_0 <| And.intro @fi_27_0 <| And.intro @ft_27_0 <| And.intro @fo_27_1 <| And.intro @fi_27_1 <| And.intro @ft_27_1 <| And.intro @fo_27_2 <| And.intro @fi_27_2 <| And.intro @ft_27_2 <| And.intro @lay_27 <| @mixedT
set_option maxHeartbeats 4000000 in
theorem spec_l25Linear_sat {a0 : Linear}  {r : Bool} (h : spec_l25Linear a0 = some r) : Sat Try.prog 16 [((Linear.pv false) a0)] (B r) := by
  replace h := Run.of h
  unfold spec_l25Linear at h
  refine Sat.of_m (nt := 64) (rs := [.tmp 2]) (n := 100000) Try.func16 rfl rfl rfl rfl (by simp) ?_
  simp -failIfUnchanged only [↓RA, RB, RS, fx16, p1, p2, p3, p4, reduceIte, p5, p6, p7, p8]
  repeat (first | with_reducible refine noR_and (by repeat (first | exact noR_empty _ _ | exact noR_nilS _ _ | refine noR_mk _ _ _ _ _ rfl ?_ | refine noR_mkS _ _ _ _ _ rfl ?_)) ?_ | with_reducible refine noC_and (by repeat (first | exact noC_empty _ _ (by simp -failIfUnchanged only [↓RA, RB, RS, fx16, p1, p2, p3, p4, reduceIte, p5, p6, p7, p8]) | exact noC_nilS _ _ (by simp -failIfUnchanged only [↓RA, RB, RS, fx16, p1, p2, p3, p4, reduceIte, p5, p6, p7, p8]) | refine noC_mk _ _ _ _ _ rfl ?_ | refine noC_mkS _ _ _ _ _ rfl ?_)) ?_ | with_reducible refine and_ac ?_ | with_reducible refine And.intro (a := _ = List.range _) (by rfl) ?_)
  refine CondH.mk (fun c1 => ?_) (fun c1 => ?_)
  · replace h := run_t c1 h
    simp -failIfUnchanged only [↓RA, RB, RS, fx16, p1, p2, p3, p4, reduceIte, p5, p6, p7, p8, c1]
    have h := run_some h
    obtain rfl : _ = r := h
    refine FinH.l ?_
    simp -failIfUnchanged only [↓RA, RB, RS, fx16, p1, p2, p3, p4, reduceIte, p5, p6, p7, p8, c1]
  · replace h := run_f c1 h
    simp -failIfUnchanged only [↓RA, RB, RS, fx16, p1, p2, p3, p4, reduceIte, p5, p6, p7, p8, c1]
    refine CondH.mk (fun c2 => ?_) (fun c2 => ?_)
    · replace h := run_t c2 h
      simp -failIfUnchanged only [↓RA, RB, RS, fx16, p1, p2, p3, p4, reduceIte, p5, p6, p7, p8, c1, c2]
      obtain ⟨v20, hv20, h⟩ := run_bind h
      refine CallH.mk [false, false, false] (spec_l1In_sat hv20) ?_ ?_ <;> simp -failIfUnchanged only [↓RA, RB, RS, fx16, p1, p2, p3, p4, reduceIte, p5, p6, p7, p8, c1, c2]
      refine CondH.mk (fun c3 => ?_) (fun c3 => ?_)
      · replace h := run_t c3 h
        simp -failIfUnchanged only [↓RA, RB, RS, fx16, p1, p2, p3, p4, reduceIte, p5, p6, p7, p8, c1, c2, c3]
        refine Mg.know_sl (b := false) (sz := 1) (es := a0.Vars.map Sx) 5 (by simp -failIfUnchanged only [↓RA, RB, RS, fx16, p1, p2, p3, p4, reduceIte, p5, p6, p7, p8, c1, c2, c3]) fun hl5 => ?_; rw [List.length_map] at hl5
        replace h := run_loop h
        refine Mg.forN h (fun i4 s4 => [(1, .box (.pv ((Linear.pv false) a0))), (3, .val (.pv (I (i4 : Int))))]) (fun i4 s4 => []) (St.le_mk2 (by simp -failIfUnchanged only [↓RA, RB, RS, fx16, p1, p2, p3, p4, reduceIte, p5, p6, p7, p8, c1, c2, c3])) (fun i4 s4 hi h => ?_) (fun s4 h => ?_)
        · have w4 := wrap_succ (i := i4) (by omega)
          simp -failIfUnchanged only [↓RA, RB, RS, fx16, p1, p2, p3, p4, reduceIte, p5, p6, p7, p8, c1, c2, c3]
          refine CondH.tt (decide_eq_true (by omega)) (fun c4 => ?_)
          simp -failIfUnchanged only [↓RA, RB, RS, fx16, p1, p2, p3, p4, reduceIte, p5, p6, p7, p8, c1, c2, c3, c4]
          obtain ⟨v33, hv33, h⟩ := run_bind h
          refine IdxH.mk (f := Sx) hv33 ?_ ?_ <;> simp -failIfUnchanged only [↓RA, RB, RS, fx16, p1, p2, p3, p4, reduceIte, p5, p6, p7, p8, c1, c2, c3, c4]
          obtain ⟨v35, hv35, h⟩ := run_bind h
          refine CallH.mk [false] (spec_l2Var_sat hv35) ?_ ?_ <;> simp -failIfUnchanged only [↓RA, RB, RS, fx16, p1, p2, p3, p4, reduceIte, p5, p6, p7, p8, c1, c2, c3, c4]
          refine CondH.mk (fun c5 => ?_) (fun c5 => ?_)
          · replace h := run_t c5 h
            simp -failIfUnchanged only [↓RA, RB, RS, fx16, p1, p2, p3, p4, reduceIte, p5, p6, p7, p8, c1, c2, c3, c4, c5]
            obtain ⟨v41, hv41, h⟩ := run_bind h
            refine IdxH.mk (f := I) hv41 ?_ ?_ <;> simp -failIfUnchanged only [↓RA, RB, RS, fx16, p1, p2, p3, p4, reduceIte, p5, p6, p7, p8, c1, c2, c3, c4, c5]
            obtain ⟨v43, hv43, h⟩ := run_bind h
            refine CallH.mk [false, false, false] (spec_l1In_sat hv43) ?_ ?_ <;> simp -failIfUnchanged only [↓RA, RB, RS, fx16, p1, p2, p3, p4, reduceIte, p5, p6, p7, p8, c1, c2, c3, c4, c5]
            refine CondH.mk (fun c6 => ?_) (fun c6 => ?_)
            · replace h := run_t c6 h
              simp -failIfUnchanged only [↓RA, RB, RS, fx16, p1, p2, p3, p4, reduceIte, p5, p6, p7, p8, c1, c2, c3, c4, c5, c6]
              refine CondH.mk (fun c7 => ?_) (fun c7 => ?_)
              · replace h := run_t c7 h
                simp -failIfUnchanged only [↓RA, RB, RS, fx16, p1, p2, p3, p4, reduceIte, p5, p6, p7, p8, c1, c2, c3, c4, c5, c6, c7]
                obtain ⟨v54, hv54, h⟩ := run_bind h
                refine IdxH.mk (f := Sx) hv54 ?_ ?_ <;> simp -failIfUnchanged only [↓RA, RB, RS, fx16, p1, p2, p3, p4, reduceIte, p5, p6, p7, p8, c1, c2, c3, c4, c5, c6, c7]
                obtain ⟨v59, hv59, h⟩ := run_bind h
                refine IdxH.mk (f := Sx) hv59 ?_ ?_ <;> simp -failIfUnchanged only [↓RA, RB, RS, fx16, p1, p2, p3, p4, reduceIte, p5, p6, p7, p8, c1, c2, c3, c4, c5, c6, c7]
                refine And.intro (DrawH.none (by rfl) (by first | rfl | (simp -failIfUnchanged only [↓RA, RB, RS, fx16, p1, p2, p3, p4, reduceIte, p5, p6, p7, p8] <;> rfl)) (by first | rfl | (simp -failIfUnchanged only [↓RA, RB, RS, fx16, p1, p2, p3, p4, reduceIte, p5, p6, p7, p8] <;> rfl)) (by first | rfl | (simp -failIfUnchanged only [↓RA, RB, RS, fx16, p1, p2, p3, p4, reduceIte, p5, p6, p7, p8] <;> rfl))) ?_
                simp -failIfUnchanged only [↓RA, RB, RS, fx16, p1, p2, p3, p4, reduceIte, p5, p6, p7, p8, c1, c2, c3, c4, c5, c6, c7]
                refine CondH.mk (fun c8 => ?_) (fun c8 => ?_)
                · replace h := run_t c8 h
                  simp -failIfUnchanged only [↓RA, RB, RS, fx16, p1, p2, p3, p4, reduceIte, p5, p6, p7, p8, c1, c2, c3, c4, c5, c6, c7, c8]
                  have h := run_some h
                  refine RdH.mk ⟨_, h, ?_⟩
                  refine St.le_mk2 ?_
                  simp -failIfUnchanged only [↓RA, RB, RS, fx16, p1, p2, p3, p4, reduceIte, p5, p6, p7, p8, c1, c2, c3, c4, c5, c6, c7, c8, w4]
                · replace h := run_f c8 h
                  simp -failIfUnchanged only [↓RA, RB, RS, fx16, p1, p2, p3, p4, reduceIte, p5, p6, p7, p8, c1, c2, c3, c4, c5, c6, c7, c8]
                  have h := run_some h
                  obtain rfl : _ = r := h
                  refine FinH.l ?_
                  simp -failIfUnchanged only [↓RA, RB, RS, fx16, p1, p2, p3, p4, reduceIte, p5, p6, p7, p8, c1, c2, c3, c4, c5, c6, c7, c8]
              · replace h := run_f c7 h
                simp -failIfUnchanged only [↓RA, RB, RS, fx16, p1, p2, p3, p4, reduceIte, p5, p6, p7, p8, c1, c2, c3, c4, c5, c6, c7]
                refine And.intro (DrawH.none (by rfl) (by first | rfl | (simp -failIfUnchanged only [↓RA, RB, RS, fx16, p1, p2, p3, p4, reduceIte, p5, p6, p7, p8] <;> rfl)) (by first | rfl | (simp -failIfUnchanged only [↓RA, RB, RS, fx16, p1, p2, p3, p4, reduceIte, p5, p6, p7, p8] <;> rfl)) (by first | rfl | (simp -failIfUnchanged only [↓RA, RB, RS, fx16, p1, p2, p3, p4, reduceIte, p5, p6, p7, p8] <;> rfl))) ?_
                simp -failIfUnchanged only [↓RA, RB, RS, fx16, p1, p2, p3, p4, reduceIte, p5, p6, p7, p8, c1, c2, c3, c4, c5, c6, c7]
                have h := run_some h
                refine RdH.mk ⟨_, h, ?_⟩
                refine St.le_mk2 ?_
                simp -failIfUnchanged only [↓RA, RB, RS, fx16, p1, p2, p3, p4, reduceIte, p5, p6, p7, p8, c1, c2, c3, c4, c5, c6, c7, w4]
            · replace h := run_f c6 h
              simp -failIfUnchanged only [↓RA, RB, RS, fx16, p1, p2, p3, p4, reduceIte, p5, p6, p7, p8, c1, c2, c3, c4, c5, c6]
              refine And.intro (DrawH.none (by rfl) (by first | rfl | (simp -failIfUnchanged only [↓RA, RB, RS, fx16, p1, p2, p3, p4, reduceIte, p5, p6, p7, p8] <;> rfl)) (by first | rfl | (simp -failIfUnchanged only [↓RA, RB, RS, fx16, p1, p2, p3, p4, reduceIte, p5, p6, p7, p8] <;> rfl)) (by first | rfl | (simp -failIfUnchanged only [↓RA, RB, RS, fx16, p1, p2, p3, p4, reduceIte, p5, p6, p7, p8] <;> rfl))) ?_
              simp -failIfUnchanged only [↓RA, RB, RS, fx16, p1, p2, p3, p4, reduceIte, p5, p6, p7, p8, c1, c2, c3, c4, c5, c6]
              have h := run_some h
              obtain rfl : _ = r := h
              refine FinH.l ?_
              simp -failIfUnchanged only [↓RA, RB, RS, fx16, p1, p2, p3, p4, reduceIte, p5, p6, p7, p8, c1, c2, c3, c4, c5, c6]
          · replace h := run_f c5 h
            simp -failIfUnchanged only [↓RA, RB, RS, fx16, p1, p2, p3, p4, reduceIte, p5, p6, p7, p8, c1, c2, c3, c4, c5]
            refine And.intro (DrawH.none (by rfl) (by first | rfl | (simp -failIfUnchanged only [↓RA, RB, RS, fx16, p1, p2, p3, p4, reduceIte, p5, p6, p7, p8] <;> rfl)) (by first | rfl | (simp -failIfUnchanged only [↓RA, RB, RS, fx16, p1, p2, p3, p4, reduceIte, p5, p6, p7, p8] <;> rfl)) (by first | rfl | (simp -failIfUnchanged only [↓RA, RB, RS, fx16, p1, p2, p3, p4, reduceIte, p5, p6, p7, p8] <;> rfl))) ?_
            simp -failIfUnchanged only [↓RA, RB, RS, fx16, p1, p2, p3, p4, reduceIte, p5, p6, p7, p8, c1, c2, c3, c4, c5]
            have h := run_some h
            obtain rfl : _ = r := h
            refine FinH.l ?_
            simp -failIfUnchanged only [↓RA, RB, RS, fx16, p1, p2, p3, p4, reduceIte, p5, p6, p7, p8, c1, c2, c3, c4, c5]
        · simp -failIfUnchanged only [↓RA, RB, RS, fx16, p1, p2, p3, p4, reduceIte, p5, p6, p7, p8, c1, c2, c3]
          refine CondH.ff (decide_eq_false (by omega)) (fun c9 => ?_)
          simp -failIfUnchanged only [↓RA, RB, RS, fx16, p1, p2, p3, p4, reduceIte, p5, p6, p7, p8, c1, c2, c3, c9]
          have h := run_some h
          obtain rfl : _ = r := h
          refine FinH.l ?_
          simp -failIfUnchanged only [↓RA, RB, RS, fx16, p1, p2, p3, p4, reduceIte, p5, p6, p7, p8, c1, c2, c3, c9]
      · replace h := run_f c3 h
        simp -failIfUnchanged only [↓RA, RB, RS, fx16, p1, p2, p3, p4, reduceIte, p5, p6, p7, p8, c1, c2, c3]
        have h := run_some h
        obtain rfl : _ = r := h
        refine FinH.l ?_
        simp -failIfUnchanged only [↓RA, RB, RS, fx16, p1, p2, p3, p4, reduceIte, p5, p6, p7, p8, c1, c2, c3]
    · replace h := run_f c2 h
      simp -failIfUnchanged only [↓RA, RB, RS, fx16, p1, p2, p3, p4, reduceIte, p5, p6, p7, p8, c1, c2]
      have h := run_some h
      obtain rfl : _ = r := h
      refine FinH.l ?_
      simp -failIfUnchanged only [↓RA, RB, RS, fx16, p1, p2, p3, p4, reduceIte, p5, p6, p7, p8, c1, c2]

def fx46 := And.intro @ty_3 <| And.intro @zc_3 <| And.intro @z_3 <| And.intro @ty_9 <| And.intro @zc_9 <| And.intro @z_9 <| And.intro @u_9 <| And.intro @ty_22 <| And.intro @zc_22 <| And.intro @z_22 <| And.intro @es_22 <| And.intro @eb_22 <| And.intro @sl_22 <| And.intro @is_22 <| And.intro @el_22 <| And.intro @ze_22 <| And.intro @ez_22 <| @mixedT
set_option maxHeartbeats 4000000 in
theorem spec_l2Put_sat {a0 : List ByteArray} {a1 : ByteArray}  {r : List ByteArray} (h : spec_l2Put a0 a1 = some r) : Sat Try.prog 46 [(.sl false 1 (a0.map Sx)), (Sx a1)] (.sl false 1 (r.map Sx)) := by
  replace h := Run.of h
  unfold spec_l2Put at h
  refine Sat.of_m (nt := 45) (rs := [.tmp 4]) (n := 100000) Try.func46 rfl rfl rfl rfl (by simp) ?_
  simp -failIfUnchanged only [↓RA, RB, RS, fx46, p1, p2, p3, p4, reduceIte, p5, p6, p7, p8]
  refine Mg.know_sl (b := false) (sz := 1) (es := a0.map Sx) 0 (by simp -failIfUnchanged only [↓RA, RB, RS, fx46, p1, p2, p3, p4, reduceIte, p5, p6, p7, p8]) fun hl0 => ?_; rw [List.length_map] at hl0
  replace h := run_loop h
  refine Mg.forN h (fun i2 s2 => [(0, .val (.pv (.sl false 1 (a0.map Sx)))), (1, .val (.pv (Sx a1))), (5, .val (.pv (I (i2 : Int))))]) (fun i2 s2 => []) (St.le_mk2 (by simp -failIfUnchanged only [↓RA, RB, RS, fx46, p1, p2, p3, p4, reduceIte, p5, p6, p7, p8])) (fun i2 s2 hi h => ?_) (fun s2 h => ?_)
  · have w2 := wrap_succ (i := i2) (by omega)
    simp -failIfUnchanged only [↓RA, RB, RS, fx46, p1, p2, p3, p4, reduceIte, p5, p6, p7, p8]
    refine CondH.tt (decide_eq_true (by omega)) (fun c1 => ?_)
    simp -failIfUnchanged only [↓RA, RB, RS, fx46, p1, p2, p3, p4, reduceIte, p5, p6, p7, p8, c1]
    obtain ⟨v13, hv13, h⟩ := run_bind h
    refine IdxH.mk (f := Sx) hv13 ?_ ?_ <;> simp -failIfUnchanged only [↓RA, RB, RS, fx46, p1, p2, p3, p4, reduceIte, p5, p6, p7, p8, c1]
    refine CondH.mk (fun c2 => ?_) (fun c2 => ?_)
    · replace h := run_t c2 h
      simp -failIfUnchanged only [↓RA, RB, RS, fx46, p1, p2, p3, p4, reduceIte, p5, p6, p7, p8, c1, c2]
      have h := run_some h
      refine RdH.mk ⟨_, h, ?_⟩
      refine St.le_mk2 ?_
      simp -failIfUnchanged only [↓RA, RB, RS, fx46, p1, p2, p3, p4, reduceIte, p5, p6, p7, p8, c1, c2, w2]
    · replace h := run_f c2 h
      simp -failIfUnchanged only [↓RA, RB, RS, fx46, p1, p2, p3, p4, reduceIte, p5, p6, p7, p8, c1, c2]
      obtain ⟨v27, hv27, h⟩ := run_bind h
      refine IdxH.mk (f := Sx) hv27 ?_ ?_ <;> simp -failIfUnchanged only [↓RA, RB, RS, fx46, p1, p2, p3, p4, reduceIte, p5, p6, p7, p8, c1, c2]
      refine CondH.mk (fun c3 => ?_) (fun c3 => ?_)
      · replace h := run_t c3 h
        simp -failIfUnchanged only [↓RA, RB, RS, fx46, p1, p2, p3, p4, reduceIte, p5, p6, p7, p8, c1, c2, c3]
        have h := run_some h
        obtain rfl : _ = r := h
        refine FinH.r ?_
        simp -failIfUnchanged only [↓RA, RB, RS, fx46, p1, p2, p3, p4, reduceIte, p5, p6, p7, p8, c1, c2, c3]
      · replace h := run_f c3 h
        simp -failIfUnchanged only [↓RA, RB, RS, fx46, p1, p2, p3, p4, reduceIte, p5, p6, p7, p8, c1, c2, c3]
        repeat (first | with_reducible refine noR_and (by repeat (first | exact noR_empty _ _ | exact noR_nilS _ _ | refine noR_mk _ _ _ _ _ rfl ?_ | refine noR_mkS _ _ _ _ _ rfl ?_)) ?_ | with_reducible refine noC_and (by repeat (first | exact noC_empty _ _ (by simp -failIfUnchanged only [↓RA, RB, RS, fx46, p1, p2, p3, p4, reduceIte, p5, p6, p7, p8]) | exact noC_nilS _ _ (by simp -failIfUnchanged only [↓RA, RB, RS, fx46, p1, p2, p3, p4, reduceIte, p5, p6, p7, p8]) | refine noC_mk _ _ _ _ _ rfl ?_ | refine noC_mkS _ _ _ _ _ rfl ?_)) ?_ | with_reducible refine and_ac ?_ | with_reducible refine And.intro (a := _ = List.range _) (by rfl) ?_)
        obtain ⟨v36, hv36, h⟩ := run_bind h
        refine SlcH.mk (f := Sx) hv36 ?_ ?_ <;> simp -failIfUnchanged only [↓RA, RB, RS, fx46, p1, p2, p3, p4, reduceIte, p5, p6, p7, p8, c1, c2, c3]
        obtain ⟨v37, hv37, h⟩ := run_bind h
        refine AppH.mk (f := Sx) (fun _ => rfl) hv37 ?_ ?_ ?_ <;> simp -failIfUnchanged only [↓RA, RB, RS, fx46, p1, p2, p3, p4, reduceIte, p5, p6, p7, p8, c1, c2, c3]
        repeat (first | with_reducible refine noR_and (by repeat (first | exact noR_empty _ _ | exact noR_nilS _ _ | refine noR_mk _ _ _ _ _ rfl ?_ | refine noR_mkS _ _ _ _ _ rfl ?_)) ?_ | with_reducible refine noC_and (by repeat (first | exact noC_empty _ _ (by simp -failIfUnchanged only [↓RA, RB, RS, fx46, p1, p2, p3, p4, reduceIte, p5, p6, p7, p8]) | exact noC_nilS _ _ (by simp -failIfUnchanged only [↓RA, RB, RS, fx46, p1, p2, p3, p4, reduceIte, p5, p6, p7, p8]) | refine noC_mk _ _ _ _ _ rfl ?_ | refine noC_mkS _ _ _ _ _ rfl ?_)) ?_ | with_reducible refine and_ac ?_ | with_reducible refine And.intro (a := _ = List.range _) (by rfl) ?_)
        obtain ⟨v40, hv40, h⟩ := run_bind h
        refine AppH.mk (f := Sx) (fun _ => rfl) hv40 ?_ ?_ ?_ <;> simp -failIfUnchanged only [↓RA, RB, RS, fx46, p1, p2, p3, p4, reduceIte, p5, p6, p7, p8, c1, c2, c3]
        repeat (first | with_reducible refine noR_and (by repeat (first | exact noR_empty _ _ | exact noR_nilS _ _ | refine noR_mk _ _ _ _ _ rfl ?_ | refine noR_mkS _ _ _ _ _ rfl ?_)) ?_ | with_reducible refine noC_and (by repeat (first | exact noC_empty _ _ (by simp -failIfUnchanged only [↓RA, RB, RS, fx46, p1, p2, p3, p4, reduceIte, p5, p6, p7, p8]) | exact noC_nilS _ _ (by simp -failIfUnchanged only [↓RA, RB, RS, fx46, p1, p2, p3, p4, reduceIte, p5, p6, p7, p8]) | refine noC_mk _ _ _ _ _ rfl ?_ | refine noC_mkS _ _ _ _ _ rfl ?_)) ?_ | with_reducible refine and_ac ?_ | with_reducible refine And.intro (a := _ = List.range _) (by rfl) ?_)
        obtain ⟨v43, hv43, h⟩ := run_bind h
        refine SlcH.mk (f := Sx) hv43 ?_ ?_ <;> simp -failIfUnchanged only [↓RA, RB, RS, fx46, p1, p2, p3, p4, reduceIte, p5, p6, p7, p8, c1, c2, c3]
        obtain ⟨v44, hv44, h⟩ := run_bind h
        refine AppH.mk (f := Sx) (fun _ => rfl) hv44 ?_ ?_ ?_ <;> simp -failIfUnchanged only [↓RA, RB, RS, fx46, p1, p2, p3, p4, reduceIte, p5, p6, p7, p8, c1, c2, c3]
        repeat (first | with_reducible refine noR_and (by repeat (first | exact noR_empty _ _ | exact noR_nilS _ _ | refine noR_mk _ _ _ _ _ rfl ?_ | refine noR_mkS _ _ _ _ _ rfl ?_)) ?_ | with_reducible refine noC_and (by repeat (first | exact noC_empty _ _ (by simp -failIfUnchanged only [↓RA, RB, RS, fx46, p1, p2, p3, p4, reduceIte, p5, p6, p7, p8]) | exact noC_nilS _ _ (by simp -failIfUnchanged only [↓RA, RB, RS, fx46, p1, p2, p3, p4, reduceIte, p5, p6, p7, p8]) | refine noC_mk _ _ _ _ _ rfl ?_ | refine noC_mkS _ _ _ _ _ rfl ?_)) ?_ | with_reducible refine and_ac ?_ | with_reducible refine And.intro (a := _ = List.range _) (by rfl) ?_)
        refine And.intro (DrawH.mk [] [528, 592, 624, 640, 704] (by rfl) (by first | rfl | (simp -failIfUnchanged only [↓RA, RB, RS, fx46, p1, p2, p3, p4, reduceIte, p5, p6, p7, p8] <;> rfl)) (by first | rfl | (simp -failIfUnchanged only [↓RA, RB, RS, fx46, p1, p2, p3, p4, reduceIte, p5, p6, p7, p8] <;> rfl)) (by first | rfl | (simp -failIfUnchanged only [↓RA, RB, RS, fx46, p1, p2, p3, p4, reduceIte, p5, p6, p7, p8] <;> rfl)) (by simp) (by simp -failIfUnchanged only [↓RA, RB, RS, fx46, p1, p2, p3, p4, reduceIte, p5, p6, p7, p8]; repeat (first | exact noC_empty _ _ (by simp -failIfUnchanged only [↓RA, RB, RS, fx46, p1, p2, p3, p4, reduceIte, p5, p6, p7, p8]) | exact noC_nilS _ _ (by simp -failIfUnchanged only [↓RA, RB, RS, fx46, p1, p2, p3, p4, reduceIte, p5, p6, p7, p8]) | refine noC_mk _ _ _ _ _ rfl ?_ | refine noC_mkS _ _ _ _ _ rfl ?_ | refine And.intro ?_ ?_))) ?_
        simp -failIfUnchanged only [↓RA, RB, RS, fx46, p1, p2, p3, p4, reduceIte, p5, p6, p7, p8, c1, c2, c3]
        have h := run_some h
        obtain rfl : _ = r := h
        refine FinH.r ?_
        simp -failIfUnchanged only [↓RA, RB, RS, fx46, p1, p2, p3, p4, reduceIte, p5, p6, p7, p8, c1, c2, c3]
  · simp -failIfUnchanged only [↓RA, RB, RS, fx46, p1, p2, p3, p4, reduceIte, p5, p6, p7, p8]
    refine CondH.ff (decide_eq_false (by omega)) (fun c4 => ?_)
    simp -failIfUnchanged only [↓RA, RB, RS, fx46, p1, p2, p3, p4, reduceIte, p5, p6, p7, p8, c4]
    repeat (first | with_reducible refine noR_and (by repeat (first | exact noR_empty _ _ | exact noR_nilS _ _ | refine noR_mk _ _ _ _ _ rfl ?_ | refine noR_mkS _ _ _ _ _ rfl ?_)) ?_ | with_reducible refine noC_and (by repeat (first | exact noC_empty _ _ (by simp -failIfUnchanged only [↓RA, RB, RS, fx46, p1, p2, p3, p4, reduceIte, p5, p6, p7, p8]) | exact noC_nilS _ _ (by simp -failIfUnchanged only [↓RA, RB, RS, fx46, p1, p2, p3, p4, reduceIte, p5, p6, p7, p8]) | refine noC_mk _ _ _ _ _ rfl ?_ | refine noC_mkS _ _ _ _ _ rfl ?_)) ?_ | with_reducible refine and_ac ?_ | with_reducible refine And.intro (a := _ = List.range _) (by rfl) ?_)
    obtain ⟨v36, hv36, h⟩ := run_bind h
    refine SlcH.mk (f := Sx) hv36 ?_ ?_ <;> simp -failIfUnchanged only [↓RA, RB, RS, fx46, p1, p2, p3, p4, reduceIte, p5, p6, p7, p8, c4]
    obtain ⟨v37, hv37, h⟩ := run_bind h
    refine AppH.mk (f := Sx) (fun _ => rfl) hv37 ?_ ?_ ?_ <;> simp -failIfUnchanged only [↓RA, RB, RS, fx46, p1, p2, p3, p4, reduceIte, p5, p6, p7, p8, c4]
    repeat (first | with_reducible refine noR_and (by repeat (first | exact noR_empty _ _ | exact noR_nilS _ _ | refine noR_mk _ _ _ _ _ rfl ?_ | refine noR_mkS _ _ _ _ _ rfl ?_)) ?_ | with_reducible refine noC_and (by repeat (first | exact noC_empty _ _ (by simp -failIfUnchanged only [↓RA, RB, RS, fx46, p1, p2, p3, p4, reduceIte, p5, p6, p7, p8]) | exact noC_nilS _ _ (by simp -failIfUnchanged only [↓RA, RB, RS, fx46, p1, p2, p3, p4, reduceIte, p5, p6, p7, p8]) | refine noC_mk _ _ _ _ _ rfl ?_ | refine noC_mkS _ _ _ _ _ rfl ?_)) ?_ | with_reducible refine and_ac ?_ | with_reducible refine And.intro (a := _ = List.range _) (by rfl) ?_)
    obtain ⟨v40, hv40, h⟩ := run_bind h
    refine AppH.mk (f := Sx) (fun _ => rfl) hv40 ?_ ?_ ?_ <;> simp -failIfUnchanged only [↓RA, RB, RS, fx46, p1, p2, p3, p4, reduceIte, p5, p6, p7, p8, c4]
    repeat (first | with_reducible refine noR_and (by repeat (first | exact noR_empty _ _ | exact noR_nilS _ _ | refine noR_mk _ _ _ _ _ rfl ?_ | refine noR_mkS _ _ _ _ _ rfl ?_)) ?_ | with_reducible refine noC_and (by repeat (first | exact noC_empty _ _ (by simp -failIfUnchanged only [↓RA, RB, RS, fx46, p1, p2, p3, p4, reduceIte, p5, p6, p7, p8]) | exact noC_nilS _ _ (by simp -failIfUnchanged only [↓RA, RB, RS, fx46, p1, p2, p3, p4, reduceIte, p5, p6, p7, p8]) | refine noC_mk _ _ _ _ _ rfl ?_ | refine noC_mkS _ _ _ _ _ rfl ?_)) ?_ | with_reducible refine and_ac ?_ | with_reducible refine And.intro (a := _ = List.range _) (by rfl) ?_)
    obtain ⟨v43, hv43, h⟩ := run_bind h
    refine SlcH.mk (f := Sx) hv43 ?_ ?_ <;> simp -failIfUnchanged only [↓RA, RB, RS, fx46, p1, p2, p3, p4, reduceIte, p5, p6, p7, p8, c4]
    obtain ⟨v44, hv44, h⟩ := run_bind h
    refine AppH.mk (f := Sx) (fun _ => rfl) hv44 ?_ ?_ ?_ <;> simp -failIfUnchanged only [↓RA, RB, RS, fx46, p1, p2, p3, p4, reduceIte, p5, p6, p7, p8, c4]
    repeat (first | with_reducible refine noR_and (by repeat (first | exact noR_empty _ _ | exact noR_nilS _ _ | refine noR_mk _ _ _ _ _ rfl ?_ | refine noR_mkS _ _ _ _ _ rfl ?_)) ?_ | with_reducible refine noC_and (by repeat (first | exact noC_empty _ _ (by simp -failIfUnchanged only [↓RA, RB, RS, fx46, p1, p2, p3, p4, reduceIte, p5, p6, p7, p8]) | exact noC_nilS _ _ (by simp -failIfUnchanged only [↓RA, RB, RS, fx46, p1, p2, p3, p4, reduceIte, p5, p6, p7, p8]) | refine noC_mk _ _ _ _ _ rfl ?_ | refine noC_mkS _ _ _ _ _ rfl ?_)) ?_ | with_reducible refine and_ac ?_ | with_reducible refine And.intro (a := _ = List.range _) (by rfl) ?_)
    refine And.intro (DrawH.mk [] [528, 592, 624, 640, 704] (by rfl) (by first | rfl | (simp -failIfUnchanged only [↓RA, RB, RS, fx46, p1, p2, p3, p4, reduceIte, p5, p6, p7, p8] <;> rfl)) (by first | rfl | (simp -failIfUnchanged only [↓RA, RB, RS, fx46, p1, p2, p3, p4, reduceIte, p5, p6, p7, p8] <;> rfl)) (by first | rfl | (simp -failIfUnchanged only [↓RA, RB, RS, fx46, p1, p2, p3, p4, reduceIte, p5, p6, p7, p8] <;> rfl)) (by simp) (by simp -failIfUnchanged only [↓RA, RB, RS, fx46, p1, p2, p3, p4, reduceIte, p5, p6, p7, p8]; repeat (first | exact noC_empty _ _ (by simp -failIfUnchanged only [↓RA, RB, RS, fx46, p1, p2, p3, p4, reduceIte, p5, p6, p7, p8]) | exact noC_nilS _ _ (by simp -failIfUnchanged only [↓RA, RB, RS, fx46, p1, p2, p3, p4, reduceIte, p5, p6, p7, p8]) | refine noC_mk _ _ _ _ _ rfl ?_ | refine noC_mkS _ _ _ _ _ rfl ?_ | refine And.intro ?_ ?_))) ?_
    simp -failIfUnchanged only [↓RA, RB, RS, fx46, p1, p2, p3, p4, reduceIte, p5, p6, p7, p8, c4]
    have h := run_some h
    obtain rfl : _ = r := h
    refine FinH.r ?_
    simp -failIfUnchanged only [↓RA, RB, RS, fx46, p1, p2, p3, p4, reduceIte, p5, p6, p7, p8, c4]

def fx36 := And.intro @ty_3 <| And.intro @zc_3 <| And.intro @z_3 <| And.intro @ty_9 <| And.intro @zc_9 <| And.intro @z_9 <| And.intro @u_9 <| And.intro @ty_22 <| And.intro @zc_22 <| And.intro @z_22 <| And.intro @es_22 <| And.intro @eb_22 <| And.intro @sl_22 <| And.intro @is_22 <| And.intro @el_22 <| And.intro @ze_22 <| And.intro @ez_22 <| And.intro @ty_27 <| And.intro @zc_27 <| And.intro @z_27 <| And.intro @fo_27_0 <| And.intro @fi_27_0 <| And.intro @ft_27_0 <| And.intro @fo_27_1 <| And.intro @fi_27_1 <| And.intro @ft_27_1 <| And.intro @fo_27_2 <| And.intro @fi_27_2 <| And.intro @ft_27_2 <| @lay_27
set_option maxHeartbeats 4000000 in
theorem spec_l25Names_sat {a0 : Linear} {a1 : Linear}  {r : List ByteArray} (h : spec_l25Names a0 a1 = some r) : Sat Try.prog 36 [((Linear.pv false) a0), ((Linear.pv false) a1)] (.sl false 1 (r.map Sx)) := by
  replace h := Run.of h
  unfold spec_l25Names at h
  refine Sat.of_m (nt := 38) (rs := [.tmp 4]) (n := 100000) Try.func36 rfl rfl rfl rfl (by simp) ?_
  simp -failIfUnchanged only [↓RA, RB, RS, fx36, p1, p2, p3, p4, reduceIte, p5, p6, p7, p8]
  repeat (first | with_reducible refine noR_and (by repeat (first | exact noR_empty _ _ | exact noR_nilS _ _ | refine noR_mk _ _ _ _ _ rfl ?_ | refine noR_mkS _ _ _ _ _ rfl ?_)) ?_ | with_reducible refine noC_and (by repeat (first | exact noC_empty _ _ (by simp -failIfUnchanged only [↓RA, RB, RS, fx36, p1, p2, p3, p4, reduceIte, p5, p6, p7, p8]) | exact noC_nilS _ _ (by simp -failIfUnchanged only [↓RA, RB, RS, fx36, p1, p2, p3, p4, reduceIte, p5, p6, p7, p8]) | refine noC_mk _ _ _ _ _ rfl ?_ | refine noC_mkS _ _ _ _ _ rfl ?_)) ?_ | with_reducible refine and_ac ?_ | with_reducible refine And.intro (a := _ = List.range _) (by rfl) ?_)
  refine Mg.know_val2 (b := false) (sz := 1) (es := a0.Vars.map Sx) (x := (.pv ((Linear.pv false) a0))) 0 [0] (by simp -failIfUnchanged only [↓RA, RB, RS, fx36, p1, p2, p3, p4, reduceIte, p5, p6, p7, p8]) fun hl0 => ?_; rw [List.length_map] at hl0
  replace h := run_loop h
  refine Mg.forN h (fun i3 s3 => [(2, .box (.pv ((Linear.pv false) a0))), (3, .box (.pv ((Linear.pv false) a1))), (5, .val (.pv (.sl false 1 (s3.map Sx)))), (6, .val (.pv (I (i3 : Int))))]) (fun i3 s3 => []) (St.le_trans (St.le_demV (x := (.own 128)) (sz := (1)) (es := ([]).map Sx) 5 [] 128 (by simp -failIfUnchanged only [↓RA, RB, RS, fx36, p1, p2, p3, p4, reduceIte, p5, p6, p7, p8])) (St.le_mk2 (by simp -failIfUnchanged only [↓RA, RB, RS, fx36, p1, p2, p3, p4, reduceIte, p5, p6, p7, p8]))) (fun i3 s3 hi h => ?_) (fun s3 h => ?_)
  · have w3 := wrap_succ (i := i3) (by omega)
    simp -failIfUnchanged only [↓RA, RB, RS, fx36, p1, p2, p3, p4, reduceIte, p5, p6, p7, p8]
    refine CondH.tt (decide_eq_true (by omega)) (fun c1 => ?_)
    simp -failIfUnchanged only [↓RA, RB, RS, fx36, p1, p2, p3, p4, reduceIte, p5, p6, p7, p8, c1]
    obtain ⟨v20, hv20, h⟩ := run_bind h
    refine IdxH.mk (f := Sx) hv20 ?_ ?_ <;> simp -failIfUnchanged only [↓RA, RB, RS, fx36, p1, p2, p3, p4, reduceIte, p5, p6, p7, p8, c1]
    obtain ⟨v22, hv22, h⟩ := run_bind h
    refine CallH.mk [false, false] (spec_l2Put_sat hv22) ?_ ?_ <;> simp -failIfUnchanged only [↓RA, RB, RS, fx36, p1, p2, p3, p4, reduceIte, p5, p6, p7, p8, c1]
    have h := run_some h
    refine RdH.mk ⟨_, h, ?_⟩
    refine St.le_mk2 ?_
    simp -failIfUnchanged only [↓RA, RB, RS, fx36, p1, p2, p3, p4, reduceIte, p5, p6, p7, p8, c1, w3]
  · simp -failIfUnchanged only [↓RA, RB, RS, fx36, p1, p2, p3, p4, reduceIte, p5, p6, p7, p8]
    refine CondH.ff (decide_eq_false (by omega)) (fun c2 => ?_)
    simp -failIfUnchanged only [↓RA, RB, RS, fx36, p1, p2, p3, p4, reduceIte, p5, p6, p7, p8, c2]
    refine Mg.know_box2 (b := false) (sz := 1) (es := a1.Vars.map Sx) (x := (.pv ((Linear.pv false) a1))) 3 [0] (by simp -failIfUnchanged only [↓RA, RB, RS, fx36, p1, p2, p3, p4, reduceIte, p5, p6, p7, p8, c2]) fun hl3 => ?_; rw [List.length_map] at hl3
    replace h := run_loop h
    refine Mg.forN h (fun i7 s7 => [(3, .box (.pv ((Linear.pv false) a1))), (5, .val (.pv (.sl false 1 (s7.map Sx)))), (7, .val (.pv (I (i7 : Int))))]) (fun i7 s7 => []) (St.le_mk2 (by simp -failIfUnchanged only [↓RA, RB, RS, fx36, p1, p2, p3, p4, reduceIte, p5, p6, p7, p8, c2])) (fun i7 s7 hi h => ?_) (fun s7 h => ?_)
    · have w7 := wrap_succ (i := i7) (by omega)
      simp -failIfUnchanged only [↓RA, RB, RS, fx36, p1, p2, p3, p4, reduceIte, p5, p6, p7, p8, c2]
      refine CondH.tt (decide_eq_true (by omega)) (fun c3 => ?_)
      simp -failIfUnchanged only [↓RA, RB, RS, fx36, p1, p2, p3, p4, reduceIte, p5, p6, p7, p8, c2, c3]
      obtain ⟨v34, hv34, h⟩ := run_bind h
      refine IdxH.mk (f := Sx) hv34 ?_ ?_ <;> simp -failIfUnchanged only [↓RA, RB, RS, fx36, p1, p2, p3, p4, reduceIte, p5, p6, p7, p8, c2, c3]
      obtain ⟨v36, hv36, h⟩ := run_bind h
      refine CallH.mk [false, false] (spec_l2Put_sat hv36) ?_ ?_ <;> simp -failIfUnchanged only [↓RA, RB, RS, fx36, p1, p2, p3, p4, reduceIte, p5, p6, p7, p8, c2, c3]
      have h := run_some h
      refine RdH.mk ⟨_, h, ?_⟩
      refine St.le_mk2 ?_
      simp -failIfUnchanged only [↓RA, RB, RS, fx36, p1, p2, p3, p4, reduceIte, p5, p6, p7, p8, c2, c3, w7]
    · simp -failIfUnchanged only [↓RA, RB, RS, fx36, p1, p2, p3, p4, reduceIte, p5, p6, p7, p8, c2]
      refine CondH.ff (decide_eq_false (by omega)) (fun c4 => ?_)
      simp -failIfUnchanged only [↓RA, RB, RS, fx36, p1, p2, p3, p4, reduceIte, p5, p6, p7, p8, c2, c4]
      have h := run_some h
      obtain rfl : _ = r := h
      refine FinH.r ?_
      simp -failIfUnchanged only [↓RA, RB, RS, fx36, p1, p2, p3, p4, reduceIte, p5, p6, p7, p8, c2, c4]

def fx37 := And.intro @ty_3 <| And.intro @zc_3 <| @z_3
set_option maxHeartbeats 4000000 in
theorem spec_l1Most_sat {a0 : Int} {a1 : Int}  {r : Int} (h : spec_l1Most a0 a1 = some r) : Sat Try.prog 37 [(I a0), (I a1)] (I r) := by
  replace h := Run.of h
  unfold spec_l1Most at h
  refine Sat.of_m (nt := 10) (rs := [.tmp 4]) (n := 100000) Try.func37 rfl rfl rfl rfl (by simp) ?_
  simp -failIfUnchanged only [↓RA, RB, RS, fx37, p1, p2, p3, p4, reduceIte, p5, p6, p7, p8]
  refine CondH.mk (fun c1 => ?_) (fun c1 => ?_)
  · replace h := run_t c1 h
    simp -failIfUnchanged only [↓RA, RB, RS, fx37, p1, p2, p3, p4, reduceIte, p5, p6, p7, p8, c1]
    have h := run_some h
    obtain rfl : _ = r := h
    refine FinH.l ?_
    simp -failIfUnchanged only [↓RA, RB, RS, fx37, p1, p2, p3, p4, reduceIte, p5, p6, p7, p8, c1]
  · replace h := run_f c1 h
    simp -failIfUnchanged only [↓RA, RB, RS, fx37, p1, p2, p3, p4, reduceIte, p5, p6, p7, p8, c1]
    have h := run_some h
    obtain rfl : _ = r := h
    refine FinH.l ?_
    simp -failIfUnchanged only [↓RA, RB, RS, fx37, p1, p2, p3, p4, reduceIte, p5, p6, p7, p8, c1]

def fx30 := And.intro @ty_3 <| And.intro @zc_3 <| And.intro @z_3 <| And.intro @ty_9 <| And.intro @zc_9 <| And.intro @z_9 <| And.intro @u_9 <| And.intro @ty_22 <| And.intro @zc_22 <| And.intro @z_22 <| And.intro @es_22 <| And.intro @eb_22 <| And.intro @sl_22 <| And.intro @is_22 <| And.intro @el_22 <| And.intro @ze_22 <| And.intro @ez_22 <| And.intro @ty_23 <| And.intro @zc_23 <| And.intro @z_23 <| And.intro @es_23 <| And.intro @eb_23 <| And.intro @sl_23 <| And.intro @is_23 <| And.intro @el_23 <| And.intro @ze_23 <| And.intro @ez_23 <| And.intro @ty_27 <| And.intro @zc_27 <| And.intro @z_27 <| And.intro @fo_27_0 <| And.intro @fi_27_0 <| And.intro @ft_27_0 <| And.intro @fo_27_1 <| And.intro @fi_27_1 <| And.intro @ft_27_1 <| And.intro @fo_27_2 <| And.intro @fi_27_2 <| And.intro @ft_27_2 <| @lay_27
set_option maxHeartbeats 4000000 in
theorem spec_l25Slope_sat {a0 : Linear} {a1 : ByteArray}  {r : Int} (h : spec_l25Slope a0 a1 = some r) : Sat Try.prog 30 [((Linear.pv false) a0), (Sx a1)] (I r) := by
  replace h := Run.of h
  unfold spec_l25Slope at h
  refine Sat.of_m (nt := 25) (rs := [.tmp 4]) (n := 100000) Try.func30 rfl rfl rfl rfl (by simp) ?_
  simp -failIfUnchanged only [↓RA, RB, RS, fx30, p1, p2, p3, p4, reduceIte, p5, p6, p7, p8]
  repeat (first | with_reducible refine noR_and (by repeat (first | exact noR_empty _ _ | exact noR_nilS _ _ | refine noR_mk _ _ _ _ _ rfl ?_ | refine noR_mkS _ _ _ _ _ rfl ?_)) ?_ | with_reducible refine noC_and (by repeat (first | exact noC_empty _ _ (by simp -failIfUnchanged only [↓RA, RB, RS, fx30, p1, p2, p3, p4, reduceIte, p5, p6, p7, p8]) | exact noC_nilS _ _ (by simp -failIfUnchanged only [↓RA, RB, RS, fx30, p1, p2, p3, p4, reduceIte, p5, p6, p7, p8]) | refine noC_mk _ _ _ _ _ rfl ?_ | refine noC_mkS _ _ _ _ _ rfl ?_)) ?_ | with_reducible refine and_ac ?_ | with_reducible refine And.intro (a := _ = List.range _) (by rfl) ?_)
  refine Mg.know_val2 (b := false) (sz := 1) (es := a0.Vars.map Sx) (x := (.pv ((Linear.pv false) a0))) 0 [0] (by simp -failIfUnchanged only [↓RA, RB, RS, fx30, p1, p2, p3, p4, reduceIte, p5, p6, p7, p8]) fun hl0 => ?_; rw [List.length_map] at hl0
  replace h := run_loop h
  refine Mg.forN h (fun i2 s2 => [(1, .val (.pv (Sx a1))), (2, .box (.pv ((Linear.pv false) a0))), (5, .val (.pv (I (i2 : Int))))]) (fun i2 s2 => []) (St.le_mk2 (by simp -failIfUnchanged only [↓RA, RB, RS, fx30, p1, p2, p3, p4, reduceIte, p5, p6, p7, p8])) (fun i2 s2 hi h => ?_) (fun s2 h => ?_)
  · have w2 := wrap_succ (i := i2) (by omega)
    simp -failIfUnchanged only [↓RA, RB, RS, fx30, p1, p2, p3, p4, reduceIte, p5, p6, p7, p8]
    refine CondH.tt (decide_eq_true (by omega)) (fun c1 => ?_)
    simp -failIfUnchanged only [↓RA, RB, RS, fx30, p1, p2, p3, p4, reduceIte, p5, p6, p7, p8, c1]
    obtain ⟨v16, hv16, h⟩ := run_bind h
    refine IdxH.mk (f := Sx) hv16 ?_ ?_ <;> simp -failIfUnchanged only [↓RA, RB, RS, fx30, p1, p2, p3, p4, reduceIte, p5, p6, p7, p8, c1]
    refine CondH.mk (fun c2 => ?_) (fun c2 => ?_)
    · replace h := run_t c2 h
      simp -failIfUnchanged only [↓RA, RB, RS, fx30, p1, p2, p3, p4, reduceIte, p5, p6, p7, p8, c1, c2]
      obtain ⟨v23, hv23, h⟩ := run_bind h
      refine IdxH.mk (f := I) hv23 ?_ ?_ <;> simp -failIfUnchanged only [↓RA, RB, RS, fx30, p1, p2, p3, p4, reduceIte, p5, p6, p7, p8, c1, c2]
      have h := run_some h
      obtain rfl : _ = r := h
      refine FinH.l ?_
      simp -failIfUnchanged only [↓RA, RB, RS, fx30, p1, p2, p3, p4, reduceIte, p5, p6, p7, p8, c1, c2]
    · replace h := run_f c2 h
      simp -failIfUnchanged only [↓RA, RB, RS, fx30, p1, p2, p3, p4, reduceIte, p5, p6, p7, p8, c1, c2]
      have h := run_some h
      refine RdH.mk ⟨_, h, ?_⟩
      refine St.le_mk2 ?_
      simp -failIfUnchanged only [↓RA, RB, RS, fx30, p1, p2, p3, p4, reduceIte, p5, p6, p7, p8, c1, c2, w2]
  · simp -failIfUnchanged only [↓RA, RB, RS, fx30, p1, p2, p3, p4, reduceIte, p5, p6, p7, p8]
    refine CondH.ff (decide_eq_false (by omega)) (fun c3 => ?_)
    simp -failIfUnchanged only [↓RA, RB, RS, fx30, p1, p2, p3, p4, reduceIte, p5, p6, p7, p8, c3]
    have h := run_some h
    obtain rfl : _ = r := h
    refine FinH.l ?_
    simp -failIfUnchanged only [↓RA, RB, RS, fx30, p1, p2, p3, p4, reduceIte, p5, p6, p7, p8, c3]

def fx17 := And.intro @ty_3 <| And.intro @zc_3 <| And.intro @z_3 <| And.intro @ty_9 <| And.intro @zc_9 <| And.intro @z_9 <| And.intro @u_9 <| And.intro @ty_22 <| And.intro @zc_22 <| And.intro @z_22 <| And.intro @es_22 <| And.intro @eb_22 <| And.intro @sl_22 <| And.intro @is_22 <| And.intro @el_22 <| And.intro @ze_22 <| And.intro @ez_22 <| And.intro @ty_23 <| And.intro @zc_23 <| And.intro @z_23 <| And.intro @es_23 <| And.intro @eb_23 <| And.intro @sl_23 <| And.intro @is_23 <| And.intro @el_23 <| And.intro @ze_23 <| And.intro @ez_23 <| And.intro @ty_27 <| And.intro @zc_27 <| And.intro @z_27 <| And.intro @fo_27_0 <| And.intro @fi_27_0 <| And.intro @ft_27_0 <| And.intro @fo_27_1 <| And.intro @fi_27_1 <| And.intro @ft_27_1 <| And.intro @fo_27_2 <| And.intro @fi_27_2 <| And.intro @ft_27_2 <| And.intro @lay_27 <| @mixedT
set_option maxHeartbeats 4000000 in
theorem spec_l25Join_sat {a0 : Linear} {a1 : Linear}  {r : Linear} (h : spec_l25Join a0 a1 = some r) : Sat Try.prog 17 [((Linear.pv false) a0), ((Linear.pv false) a1)] ((Linear.pv false) r) := by
  replace h := Run.of h
  unfold spec_l25Join at h
  refine Sat.of_m (nt := 45) (rs := [.cell 4 27]) (n := 100000) Try.func17 rfl rfl rfl rfl (by simp) ?_
  simp -failIfUnchanged only [↓RA, RB, RS, fx17, p1, p2, p3, p4, reduceIte, p5, p6, p7, p8]
  repeat (first | with_reducible refine noR_and (by repeat (first | exact noR_empty _ _ | exact noR_nilS _ _ | refine noR_mk _ _ _ _ _ rfl ?_ | refine noR_mkS _ _ _ _ _ rfl ?_)) ?_ | with_reducible refine noC_and (by repeat (first | exact noC_empty _ _ (by simp -failIfUnchanged only [↓RA, RB, RS, fx17, p1, p2, p3, p4, reduceIte, p5, p6, p7, p8]) | exact noC_nilS _ _ (by simp -failIfUnchanged only [↓RA, RB, RS, fx17, p1, p2, p3, p4, reduceIte, p5, p6, p7, p8]) | refine noC_mk _ _ _ _ _ rfl ?_ | refine noC_mkS _ _ _ _ _ rfl ?_)) ?_ | with_reducible refine and_ac ?_ | with_reducible refine And.intro (a := _ = List.range _) (by rfl) ?_)
  obtain ⟨v9, hv9, h⟩ := run_bind h
  refine CallH.mk [false, false] (spec_l25Names_sat hv9) ?_ ?_ <;> simp -failIfUnchanged only [↓RA, RB, RS, fx17, p1, p2, p3, p4, reduceIte, p5, p6, p7, p8]
  repeat (first | with_reducible refine noR_and (by repeat (first | exact noR_empty _ _ | exact noR_nilS _ _ | refine noR_mk _ _ _ _ _ rfl ?_ | refine noR_mkS _ _ _ _ _ rfl ?_)) ?_ | with_reducible refine noC_and (by repeat (first | exact noC_empty _ _ (by simp -failIfUnchanged only [↓RA, RB, RS, fx17, p1, p2, p3, p4, reduceIte, p5, p6, p7, p8]) | exact noC_nilS _ _ (by simp -failIfUnchanged only [↓RA, RB, RS, fx17, p1, p2, p3, p4, reduceIte, p5, p6, p7, p8]) | refine noC_mk _ _ _ _ _ rfl ?_ | refine noC_mkS _ _ _ _ _ rfl ?_)) ?_ | with_reducible refine and_ac ?_ | with_reducible refine And.intro (a := _ = List.range _) (by rfl) ?_)
  obtain ⟨v15, hv15, h⟩ := run_bind h
  refine CallH.mk [false, false] (spec_l1Most_sat hv15) ?_ ?_ <;> simp -failIfUnchanged only [↓RA, RB, RS, fx17, p1, p2, p3, p4, reduceIte, p5, p6, p7, p8]
  repeat (first | with_reducible refine noR_and (by repeat (first | exact noR_empty _ _ | exact noR_nilS _ _ | refine noR_mk _ _ _ _ _ rfl ?_ | refine noR_mkS _ _ _ _ _ rfl ?_)) ?_ | with_reducible refine noC_and (by repeat (first | exact noC_empty _ _ (by simp -failIfUnchanged only [↓RA, RB, RS, fx17, p1, p2, p3, p4, reduceIte, p5, p6, p7, p8]) | exact noC_nilS _ _ (by simp -failIfUnchanged only [↓RA, RB, RS, fx17, p1, p2, p3, p4, reduceIte, p5, p6, p7, p8]) | refine noC_mk _ _ _ _ _ rfl ?_ | refine noC_mkS _ _ _ _ _ rfl ?_)) ?_ | with_reducible refine and_ac ?_ | with_reducible refine And.intro (a := _ = List.range _) (by rfl) ?_)
  refine And.intro (DrawH.mk [5] [160] (by rfl) (by first | rfl | (simp -failIfUnchanged only [↓RA, RB, RS, fx17, p1, p2, p3, p4, reduceIte, p5, p6, p7, p8] <;> rfl)) (by first | rfl | (simp -failIfUnchanged only [↓RA, RB, RS, fx17, p1, p2, p3, p4, reduceIte, p5, p6, p7, p8] <;> rfl)) (by first | rfl | (simp -failIfUnchanged only [↓RA, RB, RS, fx17, p1, p2, p3, p4, reduceIte, p5, p6, p7, p8] <;> rfl)) (by simp -failIfUnchanged only [↓RA, RB, RS, fx17, p1, p2, p3, p4, reduceIte, p5, p6, p7, p8]; (try refine ⟨?_, ?_⟩) <;> repeat (first | exact noR_empty _ _ | exact noR_nilS _ _ | refine noR_mk _ _ _ _ _ rfl ?_ | refine noR_mkS _ _ _ _ _ rfl ?_)) (by simp -failIfUnchanged only [↓RA, RB, RS, fx17, p1, p2, p3, p4, reduceIte, p5, p6, p7, p8]; repeat (first | exact noC_empty _ _ (by simp -failIfUnchanged only [↓RA, RB, RS, fx17, p1, p2, p3, p4, reduceIte, p5, p6, p7, p8]) | exact noC_nilS _ _ (by simp -failIfUnchanged only [↓RA, RB, RS, fx17, p1, p2, p3, p4, reduceIte, p5, p6, p7, p8]) | refine noC_mk _ _ _ _ _ rfl ?_ | refine noC_mkS _ _ _ _ _ rfl ?_ | refine And.intro ?_ ?_))) ?_
  simp -failIfUnchanged only [↓RA, RB, RS, fx17, p1, p2, p3, p4, reduceIte, p5, p6, p7, p8]
  refine Mg.know_sl (b := false) (sz := 1) (es := v9.map Sx) 9 (by simp -failIfUnchanged only [↓RA, RB, RS, fx17, p1, p2, p3, p4, reduceIte, p5, p6, p7, p8]) fun hl9 => ?_; rw [List.length_map] at hl9
  replace h := run_loop h
  refine Mg.forN h (fun i3 s3 => [(2, .box (.pv ((Linear.pv false) a0))), (3, .box (.pv ((Linear.pv false) a1))), (4, .box (.node [(.pv (.sl true 1 [])), (.pv (.sl true 1 [])), (.pv (I (0 : Int)))])), (5, .box (.node [(.pv (.sl false 1 (v9.map Sx))), (.own 160), (.pv (I v15))])), (6, .val (.pv (I (i3 : Int))))]) (fun i3 s3 => [(160, (1, s3.map I))]) (St.le_mk2 (by simp -failIfUnchanged only [↓RA, RB, RS, fx17, p1, p2, p3, p4, reduceIte, p5, p6, p7, p8])) (fun i3 s3 hi h => ?_) (fun s3 h => ?_)
  · have w3 := wrap_succ (i := i3) (by omega)
    simp -failIfUnchanged only [↓RA, RB, RS, fx17, p1, p2, p3, p4, reduceIte, p5, p6, p7, p8]
    refine CondH.tt (decide_eq_true (by omega)) (fun c1 => ?_)
    simp -failIfUnchanged only [↓RA, RB, RS, fx17, p1, p2, p3, p4, reduceIte, p5, p6, p7, p8, c1]
    obtain ⟨v30, hv30, h⟩ := run_bind h
    refine IdxH.mk (f := Sx) hv30 ?_ ?_ <;> simp -failIfUnchanged only [↓RA, RB, RS, fx17, p1, p2, p3, p4, reduceIte, p5, p6, p7, p8, c1]
    obtain ⟨v32, hv32, h⟩ := run_bind h
    refine CallH.mk [false, false] (spec_l25Slope_sat hv32) ?_ ?_ <;> simp -failIfUnchanged only [↓RA, RB, RS, fx17, p1, p2, p3, p4, reduceIte, p5, p6, p7, p8, c1]
    obtain ⟨v37, hv37, h⟩ := run_bind h
    refine IdxH.mk (f := Sx) hv37 ?_ ?_ <;> simp -failIfUnchanged only [↓RA, RB, RS, fx17, p1, p2, p3, p4, reduceIte, p5, p6, p7, p8, c1]
    obtain ⟨v39, hv39, h⟩ := run_bind h
    refine CallH.mk [false, false] (spec_l25Slope_sat hv39) ?_ ?_ <;> simp -failIfUnchanged only [↓RA, RB, RS, fx17, p1, p2, p3, p4, reduceIte, p5, p6, p7, p8, c1]
    obtain ⟨v40, hv40, h⟩ := run_bind h
    refine CallH.mk [false, false] (spec_l1Most_sat hv40) ?_ ?_ <;> simp -failIfUnchanged only [↓RA, RB, RS, fx17, p1, p2, p3, p4, reduceIte, p5, p6, p7, p8, c1]
    repeat (first | with_reducible refine noR_and (by repeat (first | exact noR_empty _ _ | exact noR_nilS _ _ | refine noR_mk _ _ _ _ _ rfl ?_ | refine noR_mkS _ _ _ _ _ rfl ?_)) ?_ | with_reducible refine noC_and (by repeat (first | exact noC_empty _ _ (by simp -failIfUnchanged only [↓RA, RB, RS, fx17, p1, p2, p3, p4, reduceIte, p5, p6, p7, p8]) | exact noC_nilS _ _ (by simp -failIfUnchanged only [↓RA, RB, RS, fx17, p1, p2, p3, p4, reduceIte, p5, p6, p7, p8]) | refine noC_mk _ _ _ _ _ rfl ?_ | refine noC_mkS _ _ _ _ _ rfl ?_)) ?_ | with_reducible refine and_ac ?_ | with_reducible refine And.intro (a := _ = List.range _) (by rfl) ?_)
    obtain ⟨v42, hv42, h⟩ := run_bind h
    refine AppH.mk (f := I) (fun _ => rfl) hv42 ?_ ?_ ?_ <;> simp -failIfUnchanged only [↓RA, RB, RS, fx17, p1, p2, p3, p4, reduceIte, p5, p6, p7, p8, c1]
    repeat (first | with_reducible refine noR_and (by repeat (first | exact noR_empty _ _ | exact noR_nilS _ _ | refine noR_mk _ _ _ _ _ rfl ?_ | refine noR_mkS _ _ _ _ _ rfl ?_)) ?_ | with_reducible refine noC_and (by repeat (first | exact noC_empty _ _ (by simp -failIfUnchanged only [↓RA, RB, RS, fx17, p1, p2, p3, p4, reduceIte, p5, p6, p7, p8]) | exact noC_nilS _ _ (by simp -failIfUnchanged only [↓RA, RB, RS, fx17, p1, p2, p3, p4, reduceIte, p5, p6, p7, p8]) | refine noC_mk _ _ _ _ _ rfl ?_ | refine noC_mkS _ _ _ _ _ rfl ?_)) ?_ | with_reducible refine and_ac ?_ | with_reducible refine And.intro (a := _ = List.range _) (by rfl) ?_)
    refine And.intro (DrawH.mk [] [656, 672] (by rfl) (by first | rfl | (simp -failIfUnchanged only [↓RA, RB, RS, fx17, p1, p2, p3, p4, reduceIte, p5, p6, p7, p8] <;> rfl)) (by first | rfl | (simp -failIfUnchanged only [↓RA, RB, RS, fx17, p1, p2, p3, p4, reduceIte, p5, p6, p7, p8] <;> rfl)) (by first | rfl | (simp -failIfUnchanged only [↓RA, RB, RS, fx17, p1, p2, p3, p4, reduceIte, p5, p6, p7, p8] <;> rfl)) (by simp) (by simp -failIfUnchanged only [↓RA, RB, RS, fx17, p1, p2, p3, p4, reduceIte, p5, p6, p7, p8]; repeat (first | exact noC_empty _ _ (by simp -failIfUnchanged only [↓RA, RB, RS, fx17, p1, p2, p3, p4, reduceIte, p5, p6, p7, p8]) | exact noC_nilS _ _ (by simp -failIfUnchanged only [↓RA, RB, RS, fx17, p1, p2, p3, p4, reduceIte, p5, p6, p7, p8]) | refine noC_mk _ _ _ _ _ rfl ?_ | refine noC_mkS _ _ _ _ _ rfl ?_ | refine And.intro ?_ ?_))) ?_
    simp -failIfUnchanged only [↓RA, RB, RS, fx17, p1, p2, p3, p4, reduceIte, p5, p6, p7, p8, c1]
    have h := run_some h
    refine RdH.mk ⟨_, h, ?_⟩
    refine St.le_trans (St.le_mk (S := [(2, .box (.pv ((Linear.pv false) a0))), (3, .box (.pv ((Linear.pv false) a1))), (4, .box (.node [(.pv (.sl true 1 [])), (.pv (.sl true 1 [])), (.pv (I (0 : Int)))])), (5, .box (.node [(.pv (.sl false 1 (v9.map Sx))), (.own 672), (.pv (I v15))])), (6, .val (.pv (I (IntKind.i64.wrap ((i3 : Int) + (1 : Int))))))]) (O := [(672, (1, v42.map I))]) (by simp -failIfUnchanged only [↓RA, RB, RS, fx17, p1, p2, p3, p4, reduceIte, p5, p6, p7, p8, c1, w3]) (by simp -failIfUnchanged only [↓RA, RB, RS, fx17, p1, p2, p3, p4, reduceIte, p5, p6, p7, p8, c1, w3])) ?_
    refine St.le_rn 672 160 (by decide) (by repeat (first | exact noC_empty _ _ (by simp -failIfUnchanged only [↓RA, RB, RS, fx17, p1, p2, p3, p4, reduceIte, p5, p6, p7, p8]) | exact noC_nilS _ _ (by simp -failIfUnchanged only [↓RA, RB, RS, fx17, p1, p2, p3, p4, reduceIte, p5, p6, p7, p8]) | refine noC_mk _ _ _ _ _ rfl ?_ | refine noC_mkS _ _ _ _ _ rfl ?_)) ?_
    refine St.le_mk2 ?_
    simp -failIfUnchanged only [↓RA, RB, RS, fx17, p1, p2, p3, p4, reduceIte, p5, p6, p7, p8, c1, w3]
  · simp -failIfUnchanged only [↓RA, RB, RS, fx17, p1, p2, p3, p4, reduceIte, p5, p6, p7, p8]
    refine CondH.ff (decide_eq_false (by omega)) (fun c2 => ?_)
    simp -failIfUnchanged only [↓RA, RB, RS, fx17, p1, p2, p3, p4, reduceIte, p5, p6, p7, p8, c2]
    have h := run_some h
    obtain rfl : _ = r := h
    refine FinH.r ?_
    simp -failIfUnchanged only [↓RA, RB, RS, fx17, p1, p2, p3, p4, reduceIte, p5, p6, p7, p8, c2]

def fx6 := And.intro @ty_4 <| And.intro @zc_4 <| And.intro @z_4 <| And.intro @u_4 <| And.intro @ty_27 <| And.intro @zc_27 <| And.intro @z_27 <| And.intro @fo_27_0 <| And.intro @fi_27_0 <| And.intro @ft_27_0 <| And.intro @fo_27_1 <| And.intro @fi_27_1 <| And.intro @ft_27_1 <| And.intro @fo_27_2 <| And.intro @fi_27_2 <| And.intro @ft_27_2 <| @lay_27
set_option maxHeartbeats 4000000 in
theorem spec_JoinLinear_sat {a0 : Linear} {a1 : Linear}  {r : Linear × Bool} (h : spec_JoinLinear a0 a1 = some r) : Sat Try.prog 6 [((Linear.pv false) a0), ((Linear.pv false) a1)] (.tup [((Linear.pv false) r.1), (B r.2)]) := by
  replace h := Run.of h
  unfold spec_JoinLinear at h
  refine Sat.of_m (nt := 24) (rs := [.cell 4 27, .tmp 5]) (n := 100000) Try.func6 rfl rfl rfl rfl (by simp) ?_
  simp -failIfUnchanged only [↓RA, RB, RS, fx6, p1, p2, p3, p4, reduceIte, p5, p6, p7, p8]
  repeat (first | with_reducible refine noR_and (by repeat (first | exact noR_empty _ _ | exact noR_nilS _ _ | refine noR_mk _ _ _ _ _ rfl ?_ | refine noR_mkS _ _ _ _ _ rfl ?_)) ?_ | with_reducible refine noC_and (by repeat (first | exact noC_empty _ _ (by simp -failIfUnchanged only [↓RA, RB, RS, fx6, p1, p2, p3, p4, reduceIte, p5, p6, p7, p8]) | exact noC_nilS _ _ (by simp -failIfUnchanged only [↓RA, RB, RS, fx6, p1, p2, p3, p4, reduceIte, p5, p6, p7, p8]) | refine noC_mk _ _ _ _ _ rfl ?_ | refine noC_mkS _ _ _ _ _ rfl ?_)) ?_ | with_reducible refine and_ac ?_ | with_reducible refine And.intro (a := _ = List.range _) (by rfl) ?_)
  obtain ⟨v8, hv8, h⟩ := run_bind h
  refine CallH.mk [false] (spec_l25Linear_sat hv8) ?_ ?_ <;> simp -failIfUnchanged only [↓RA, RB, RS, fx6, p1, p2, p3, p4, reduceIte, p5, p6, p7, p8]
  refine CondH.mk (fun c1 => ?_) (fun c1 => ?_)
  · replace h := run_t c1 h
    simp -failIfUnchanged only [↓RA, RB, RS, fx6, p1, p2, p3, p4, reduceIte, p5, p6, p7, p8, c1]
    obtain ⟨v12, hv12, h⟩ := run_bind h
    refine CallH.mk [false] (spec_l25Linear_sat hv12) ?_ ?_ <;> simp -failIfUnchanged only [↓RA, RB, RS, fx6, p1, p2, p3, p4, reduceIte, p5, p6, p7, p8, c1]
    refine CondH.mk (fun c2 => ?_) (fun c2 => ?_)
    · replace h := run_t c2 h
      simp -failIfUnchanged only [↓RA, RB, RS, fx6, p1, p2, p3, p4, reduceIte, p5, p6, p7, p8, c1, c2]
      obtain ⟨v18, hv18, h⟩ := run_bind h
      refine CallH.mk [false, false] (spec_l25Join_sat hv18) ?_ ?_ <;> simp -failIfUnchanged only [↓RA, RB, RS, fx6, p1, p2, p3, p4, reduceIte, p5, p6, p7, p8, c1, c2]
      repeat (first | with_reducible refine noR_and (by repeat (first | exact noR_empty _ _ | exact noR_nilS _ _ | refine noR_mk _ _ _ _ _ rfl ?_ | refine noR_mkS _ _ _ _ _ rfl ?_)) ?_ | with_reducible refine noC_and (by repeat (first | exact noC_empty _ _ (by simp -failIfUnchanged only [↓RA, RB, RS, fx6, p1, p2, p3, p4, reduceIte, p5, p6, p7, p8]) | exact noC_nilS _ _ (by simp -failIfUnchanged only [↓RA, RB, RS, fx6, p1, p2, p3, p4, reduceIte, p5, p6, p7, p8]) | refine noC_mk _ _ _ _ _ rfl ?_ | refine noC_mkS _ _ _ _ _ rfl ?_)) ?_ | with_reducible refine and_ac ?_ | with_reducible refine And.intro (a := _ = List.range _) (by rfl) ?_)
      obtain ⟨v20, hv20, h⟩ := run_bind h
      refine CallH.mk [false] (spec_l25Linear_sat hv20) ?_ ?_ <;> simp -failIfUnchanged only [↓RA, RB, RS, fx6, p1, p2, p3, p4, reduceIte, p5, p6, p7, p8, c1, c2]
      refine CondH.mk (fun c3 => ?_) (fun c3 => ?_)
      · replace h := run_t c3 h
        simp -failIfUnchanged only [↓RA, RB, RS, fx6, p1, p2, p3, p4, reduceIte, p5, p6, p7, p8, c1, c2, c3]
        have h := run_some h
        obtain rfl : _ = r := h
        refine FinH.r ?_
        simp -failIfUnchanged only [↓RA, RB, RS, fx6, p1, p2, p3, p4, reduceIte, p5, p6, p7, p8, c1, c2, c3]
      · replace h := run_f c3 h
        simp -failIfUnchanged only [↓RA, RB, RS, fx6, p1, p2, p3, p4, reduceIte, p5, p6, p7, p8, c1, c2, c3]
        have h := run_some h
        obtain rfl : _ = r := h
        refine FinH.r ?_
        simp -failIfUnchanged only [↓RA, RB, RS, fx6, p1, p2, p3, p4, reduceIte, p5, p6, p7, p8, c1, c2, c3]
    · replace h := run_f c2 h
      simp -failIfUnchanged only [↓RA, RB, RS, fx6, p1, p2, p3, p4, reduceIte, p5, p6, p7, p8, c1, c2]
      have h := run_some h
      obtain rfl : _ = r := h
      refine FinH.r ?_
      simp -failIfUnchanged only [↓RA, RB, RS, fx6, p1, p2, p3, p4, reduceIte, p5, p6, p7, p8, c1, c2]
  · replace h := run_f c1 h
    simp -failIfUnchanged only [↓RA, RB, RS, fx6, p1, p2, p3, p4, reduceIte, p5, p6, p7, p8, c1]
    have h := run_some h
    obtain rfl : _ = r := h
    refine FinH.r ?_
    simp -failIfUnchanged only [↓RA, RB, RS, fx6, p1, p2, p3, p4, reduceIte, p5, p6, p7, p8, c1]

def fx38 := And.intro @ty_3 <| And.intro @zc_3 <| @z_3
set_option maxHeartbeats 4000000 in
theorem impl_within_sat {a0 : Int} {a1 : Int} {a2 : Int}  {r : Bool} (h : impl_within a0 a1 a2 = some r) : Sat Try.prog 38 [(I a0), (I a1), (I a2)] (B r) := by
  replace h := Run.of h
  unfold impl_within at h
  refine Sat.of_m (nt := 15) (rs := [.tmp 6]) (n := 100000) Try.func38 rfl rfl rfl rfl (by simp) ?_
  simp -failIfUnchanged only [↓RA, RB, RS, fx38, p1, p2, p3, p4, reduceIte, p5, p6, p7, p8]
  refine CondH.mk (fun c1 => ?_) (fun c1 => ?_)
  · replace h := run_t c1 h
    simp -failIfUnchanged only [↓RA, RB, RS, fx38, p1, p2, p3, p4, reduceIte, p5, p6, p7, p8, c1]
    have h := run_some h
    obtain rfl : _ = r := h
    refine FinH.l ?_
    simp -failIfUnchanged only [↓RA, RB, RS, fx38, p1, p2, p3, p4, reduceIte, p5, p6, p7, p8, c1]
  · replace h := run_f c1 h
    simp -failIfUnchanged only [↓RA, RB, RS, fx38, p1, p2, p3, p4, reduceIte, p5, p6, p7, p8, c1]
    have h := run_some h
    obtain rfl : _ = r := h
    refine FinH.l ?_
    simp -failIfUnchanged only [↓RA, RB, RS, fx38, p1, p2, p3, p4, reduceIte, p5, p6, p7, p8, c1]

def fx41 := And.intro @ty_5 <| And.intro @zc_5 <| @z_5
set_option maxHeartbeats 4000000 in
theorem impl_isUpper_sat {a0 : Int}  {r : Bool} (h : impl_isUpper a0 = some r) : Sat Try.prog 41 [((Ik .u8) a0)] (B r) := by
  replace h := Run.of h
  unfold impl_isUpper at h
  refine Sat.of_m (nt := 9) (rs := [.tmp 2]) (n := 100000) Try.func41 rfl rfl rfl rfl (by simp) ?_
  simp -failIfUnchanged only [↓RA, RB, RS, fx41, p1, p2, p3, p4, reduceIte, p5, p6, p7, p8]
  refine CondH.mk (fun c1 => ?_) (fun c1 => ?_)
  · replace h := run_t c1 h
    simp -failIfUnchanged only [↓RA, RB, RS, fx41, p1, p2, p3, p4, reduceIte, p5, p6, p7, p8, c1]
    have h := run_some h
    obtain rfl : _ = r := h
    refine FinH.l ?_
    simp -failIfUnchanged only [↓RA, RB, RS, fx41, p1, p2, p3, p4, reduceIte, p5, p6, p7, p8, c1]
  · replace h := run_f c1 h
    simp -failIfUnchanged only [↓RA, RB, RS, fx41, p1, p2, p3, p4, reduceIte, p5, p6, p7, p8, c1]
    have h := run_some h
    obtain rfl : _ = r := h
    refine FinH.l ?_
    simp -failIfUnchanged only [↓RA, RB, RS, fx41, p1, p2, p3, p4, reduceIte, p5, p6, p7, p8, c1]

def fx42 := And.intro @ty_5 <| And.intro @zc_5 <| @z_5
set_option maxHeartbeats 4000000 in
theorem impl_isLower_sat {a0 : Int}  {r : Bool} (h : impl_isLower a0 = some r) : Sat Try.prog 42 [((Ik .u8) a0)] (B r) := by
  replace h := Run.of h
  unfold impl_isLower at h
  refine Sat.of_m (nt := 9) (rs := [.tmp 2]) (n := 100000) Try.func42 rfl rfl rfl rfl (by simp) ?_
  simp -failIfUnchanged only [↓RA, RB, RS, fx42, p1, p2, p3, p4, reduceIte, p5, p6, p7, p8]
  refine CondH.mk (fun c1 => ?_) (fun c1 => ?_)
  · replace h := run_t c1 h
    simp -failIfUnchanged only [↓RA, RB, RS, fx42, p1, p2, p3, p4, reduceIte, p5, p6, p7, p8, c1]
    have h := run_some h
    obtain rfl : _ = r := h
    refine FinH.l ?_
    simp -failIfUnchanged only [↓RA, RB, RS, fx42, p1, p2, p3, p4, reduceIte, p5, p6, p7, p8, c1]
  · replace h := run_f c1 h
    simp -failIfUnchanged only [↓RA, RB, RS, fx42, p1, p2, p3, p4, reduceIte, p5, p6, p7, p8, c1]
    have h := run_some h
    obtain rfl : _ = r := h
    refine FinH.l ?_
    simp -failIfUnchanged only [↓RA, RB, RS, fx42, p1, p2, p3, p4, reduceIte, p5, p6, p7, p8, c1]

def fx43 := And.intro @ty_5 <| And.intro @zc_5 <| @z_5
set_option maxHeartbeats 4000000 in
theorem impl_isDigit_sat {a0 : Int}  {r : Bool} (h : impl_isDigit a0 = some r) : Sat Try.prog 43 [((Ik .u8) a0)] (B r) := by
  replace h := Run.of h
  unfold impl_isDigit at h
  refine Sat.of_m (nt := 9) (rs := [.tmp 2]) (n := 100000) Try.func43 rfl rfl rfl rfl (by simp) ?_
  simp -failIfUnchanged only [↓RA, RB, RS, fx43, p1, p2, p3, p4, reduceIte, p5, p6, p7, p8]
  refine CondH.mk (fun c1 => ?_) (fun c1 => ?_)
  · replace h := run_t c1 h
    simp -failIfUnchanged only [↓RA, RB, RS, fx43, p1, p2, p3, p4, reduceIte, p5, p6, p7, p8, c1]
    have h := run_some h
    obtain rfl : _ = r := h
    refine FinH.l ?_
    simp -failIfUnchanged only [↓RA, RB, RS, fx43, p1, p2, p3, p4, reduceIte, p5, p6, p7, p8, c1]
  · replace h := run_f c1 h
    simp -failIfUnchanged only [↓RA, RB, RS, fx43, p1, p2, p3, p4, reduceIte, p5, p6, p7, p8, c1]
    have h := run_some h
    obtain rfl : _ = r := h
    refine FinH.l ?_
    simp -failIfUnchanged only [↓RA, RB, RS, fx43, p1, p2, p3, p4, reduceIte, p5, p6, p7, p8, c1]

def fx31 := And.intro @ty_3 <| And.intro @zc_3 <| And.intro @z_3 <| And.intro @ty_4 <| And.intro @zc_4 <| And.intro @z_4 <| And.intro @u_4 <| And.intro @ty_5 <| And.intro @zc_5 <| And.intro @z_5 <| And.intro @ty_9 <| And.intro @zc_9 <| And.intro @z_9 <| @u_9
set_option maxHeartbeats 4000000 in
theorem impl_isVariable_sat {a0 : ByteArray}  {r : Bool} (h : impl_isVariable a0 = some r) : Sat Try.prog 31 [(Sx a0)] (B r) := by
  replace h := Run.of h
  unfold impl_isVariable at h
  refine Sat.of_m (nt := 40) (rs := [.tmp 2]) (n := 100000) Try.func31 rfl rfl rfl rfl (by simp) ?_
  simp -failIfUnchanged only [↓RA, RB, RS, fx31, p1, p2, p3, p4, reduceIte, p5, p6, p7, p8]
  obtain ⟨N2, hN2, h⟩ := run_bind h
  obtain ⟨hN2a, hN2b⟩ := bnd_some hN2
  replace h := run_loop h
  refine Mg.forN h (fun i2 s2 => [(0, .val (.pv (Sx a0))), (5, .val (.pv (I (a0.size : Int)))), (6, .val (.pv (I (i2 : Int))))]) (fun i2 s2 => []) (St.le_mk2 (by simp -failIfUnchanged only [↓RA, RB, RS, fx31, p1, p2, p3, p4, reduceIte, p5, p6, p7, p8])) (fun i2 s2 hi h => ?_) (fun s2 h => ?_)
  · have w2 := wrap_succ (i := i2) (by omega)
    simp -failIfUnchanged only [↓RA, RB, RS, fx31, p1, p2, p3, p4, reduceIte, p5, p6, p7, p8]
    refine CondH.tt (decide_eq_true (by omega)) (fun c1 => ?_)
    simp -failIfUnchanged only [↓RA, RB, RS, fx31, p1, p2, p3, p4, reduceIte, p5, p6, p7, p8, c1]
    refine CondH.mk (fun c2 => ?_) (fun c2 => ?_)
    · replace h := run_t c2 h
      simp -failIfUnchanged only [↓RA, RB, RS, fx31, p1, p2, p3, p4, reduceIte, p5, p6, p7, p8, c1, c2]
      obtain ⟨v14, hv14, h⟩ := run_bind h
      refine SidxH.mk hv14 ?_
      simp -failIfUnchanged only [↓RA, RB, RS, fx31, p1, p2, p3, p4, reduceIte, p5, p6, p7, p8, c1, c2]
      obtain ⟨v15, hv15, h⟩ := run_bind h
      refine CallH.mk [false] (impl_isUpper_sat hv15) ?_ ?_ <;> simp -failIfUnchanged only [↓RA, RB, RS, fx31, p1, p2, p3, p4, reduceIte, p5, p6, p7, p8, c1, c2]
      refine CondH.mk (fun c3 => ?_) (fun c3 => ?_)
      · replace h := run_t c3 h
        simp -failIfUnchanged only [↓RA, RB, RS, fx31, p1, p2, p3, p4, reduceIte, p5, p6, p7, p8, c1, c2, c3]
        refine CondH.mk (fun c4 => ?_) (fun c4 => ?_)
        · replace h := run_t c4 h
          simp -failIfUnchanged only [↓RA, RB, RS, fx31, p1, p2, p3, p4, reduceIte, p5, p6, p7, p8, c1, c2, c3, c4]
          obtain ⟨v24, hv24, h⟩ := run_bind h
          refine SidxH.mk hv24 ?_
          simp -failIfUnchanged only [↓RA, RB, RS, fx31, p1, p2, p3, p4, reduceIte, p5, p6, p7, p8, c1, c2, c3, c4]
          obtain ⟨v25, hv25, h⟩ := run_bind h
          refine CallH.mk [false] (impl_isLower_sat hv25) ?_ ?_ <;> simp -failIfUnchanged only [↓RA, RB, RS, fx31, p1, p2, p3, p4, reduceIte, p5, p6, p7, p8, c1, c2, c3, c4]
          refine CondH.mk (fun c5 => ?_) (fun c5 => ?_)
          · replace h := run_t c5 h
            simp -failIfUnchanged only [↓RA, RB, RS, fx31, p1, p2, p3, p4, reduceIte, p5, p6, p7, p8, c1, c2, c3, c4, c5]
            have h := run_some h
            refine RdH.mk ⟨_, h, ?_⟩
            refine St.le_mk2 ?_
            simp -failIfUnchanged only [↓RA, RB, RS, fx31, p1, p2, p3, p4, reduceIte, p5, p6, p7, p8, c1, c2, c3, c4, c5, w2]
          · replace h := run_f c5 h
            simp -failIfUnchanged only [↓RA, RB, RS, fx31, p1, p2, p3, p4, reduceIte, p5, p6, p7, p8, c1, c2, c3, c4, c5]
            obtain ⟨v31, hv31, h⟩ := run_bind h
            refine SidxH.mk hv31 ?_
            simp -failIfUnchanged only [↓RA, RB, RS, fx31, p1, p2, p3, p4, reduceIte, p5, p6, p7, p8, c1, c2, c3, c4, c5]
            obtain ⟨v32, hv32, h⟩ := run_bind h
            refine CallH.mk [false] (impl_isDigit_sat hv32) ?_ ?_ <;> simp -failIfUnchanged only [↓RA, RB, RS, fx31, p1, p2, p3, p4, reduceIte, p5, p6, p7, p8, c1, c2, c3, c4, c5]
            refine CondH.mk (fun c6 => ?_) (fun c6 => ?_)
            · replace h := run_t c6 h
              simp -failIfUnchanged only [↓RA, RB, RS, fx31, p1, p2, p3, p4, reduceIte, p5, p6, p7, p8, c1, c2, c3, c4, c5, c6]
              have h := run_some h
              refine RdH.mk ⟨_, h, ?_⟩
              refine St.le_mk2 ?_
              simp -failIfUnchanged only [↓RA, RB, RS, fx31, p1, p2, p3, p4, reduceIte, p5, p6, p7, p8, c1, c2, c3, c4, c5, c6, w2]
            · replace h := run_f c6 h
              simp -failIfUnchanged only [↓RA, RB, RS, fx31, p1, p2, p3, p4, reduceIte, p5, p6, p7, p8, c1, c2, c3, c4, c5, c6]
              have h := run_some h
              obtain rfl : _ = r := h
              refine FinH.l ?_
              simp -failIfUnchanged only [↓RA, RB, RS, fx31, p1, p2, p3, p4, reduceIte, p5, p6, p7, p8, c1, c2, c3, c4, c5, c6]
        · replace h := run_f c4 h
          simp -failIfUnchanged only [↓RA, RB, RS, fx31, p1, p2, p3, p4, reduceIte, p5, p6, p7, p8, c1, c2, c3, c4]
          have h := run_some h
          refine RdH.mk ⟨_, h, ?_⟩
          refine St.le_mk2 ?_
          simp -failIfUnchanged only [↓RA, RB, RS, fx31, p1, p2, p3, p4, reduceIte, p5, p6, p7, p8, c1, c2, c3, c4, w2]
      · replace h := run_f c3 h
        simp -failIfUnchanged only [↓RA, RB, RS, fx31, p1, p2, p3, p4, reduceIte, p5, p6, p7, p8, c1, c2, c3]
        have h := run_some h
        obtain rfl : _ = r := h
        refine FinH.l ?_
        simp -failIfUnchanged only [↓RA, RB, RS, fx31, p1, p2, p3, p4, reduceIte, p5, p6, p7, p8, c1, c2, c3]
    · replace h := run_f c2 h
      simp -failIfUnchanged only [↓RA, RB, RS, fx31, p1, p2, p3, p4, reduceIte, p5, p6, p7, p8, c1, c2]
      refine CondH.mk (fun c7 => ?_) (fun c7 => ?_)
      · replace h := run_t c7 h
        simp -failIfUnchanged only [↓RA, RB, RS, fx31, p1, p2, p3, p4, reduceIte, p5, p6, p7, p8, c1, c2, c7]
        obtain ⟨v24, hv24, h⟩ := run_bind h
        refine SidxH.mk hv24 ?_
        simp -failIfUnchanged only [↓RA, RB, RS, fx31, p1, p2, p3, p4, reduceIte, p5, p6, p7, p8, c1, c2, c7]
        obtain ⟨v25, hv25, h⟩ := run_bind h
        refine CallH.mk [false] (impl_isLower_sat hv25) ?_ ?_ <;> simp -failIfUnchanged only [↓RA, RB, RS, fx31, p1, p2, p3, p4, reduceIte, p5, p6, p7, p8, c1, c2, c7]
        refine CondH.mk (fun c8 => ?_) (fun c8 => ?_)
        · replace h := run_t c8 h
          simp -failIfUnchanged only [↓RA, RB, RS, fx31, p1, p2, p3, p4, reduceIte, p5, p6, p7, p8, c1, c2, c7, c8]
          have h := run_some h
          refine RdH.mk ⟨_, h, ?_⟩
          refine St.le_mk2 ?_
          simp -failIfUnchanged only [↓RA, RB, RS, fx31, p1, p2, p3, p4, reduceIte, p5, p6, p7, p8, c1, c2, c7, c8, w2]
        · replace h := run_f c8 h
          simp -failIfUnchanged only [↓RA, RB, RS, fx31, p1, p2, p3, p4, reduceIte, p5, p6, p7, p8, c1, c2, c7, c8]
          obtain ⟨v31, hv31, h⟩ := run_bind h
          refine SidxH.mk hv31 ?_
          simp -failIfUnchanged only [↓RA, RB, RS, fx31, p1, p2, p3, p4, reduceIte, p5, p6, p7, p8, c1, c2, c7, c8]
          obtain ⟨v32, hv32, h⟩ := run_bind h
          refine CallH.mk [false] (impl_isDigit_sat hv32) ?_ ?_ <;> simp -failIfUnchanged only [↓RA, RB, RS, fx31, p1, p2, p3, p4, reduceIte, p5, p6, p7, p8, c1, c2, c7, c8]
          refine CondH.mk (fun c9 => ?_) (fun c9 => ?_)
          · replace h := run_t c9 h
            simp -failIfUnchanged only [↓RA, RB, RS, fx31, p1, p2, p3, p4, reduceIte, p5, p6, p7, p8, c1, c2, c7, c8, c9]
            have h := run_some h
            refine RdH.mk ⟨_, h, ?_⟩
            refine St.le_mk2 ?_
            simp -failIfUnchanged only [↓RA, RB, RS, fx31, p1, p2, p3, p4, reduceIte, p5, p6, p7, p8, c1, c2, c7, c8, c9, w2]
          · replace h := run_f c9 h
            simp -failIfUnchanged only [↓RA, RB, RS, fx31, p1, p2, p3, p4, reduceIte, p5, p6, p7, p8, c1, c2, c7, c8, c9]
            have h := run_some h
            obtain rfl : _ = r := h
            refine FinH.l ?_
            simp -failIfUnchanged only [↓RA, RB, RS, fx31, p1, p2, p3, p4, reduceIte, p5, p6, p7, p8, c1, c2, c7, c8, c9]
      · replace h := run_f c7 h
        simp -failIfUnchanged only [↓RA, RB, RS, fx31, p1, p2, p3, p4, reduceIte, p5, p6, p7, p8, c1, c2, c7]
        have h := run_some h
        refine RdH.mk ⟨_, h, ?_⟩
        refine St.le_mk2 ?_
        simp -failIfUnchanged only [↓RA, RB, RS, fx31, p1, p2, p3, p4, reduceIte, p5, p6, p7, p8, c1, c2, c7, w2]
  · simp -failIfUnchanged only [↓RA, RB, RS, fx31, p1, p2, p3, p4, reduceIte, p5, p6, p7, p8]
    refine CondH.ff (decide_eq_false (by omega)) (fun c10 => ?_)
    simp -failIfUnchanged only [↓RA, RB, RS, fx31, p1, p2, p3, p4, reduceIte, p5, p6, p7, p8, c10]
    obtain ⟨v39, hv39, h⟩ := run_bind h
    refine CallH.mk [false, false, false] (impl_within_sat hv39) ?_ ?_ <;> simp -failIfUnchanged only [↓RA, RB, RS, fx31, p1, p2, p3, p4, reduceIte, p5, p6, p7, p8, c10]
    have h := run_some h
    obtain rfl : _ = r := h
    refine FinH.l ?_
    simp -failIfUnchanged only [↓RA, RB, RS, fx31, p1, p2, p3, p4, reduceIte, p5, p6, p7, p8, c10]

def fx20 := And.intro @ty_3 <| And.intro @zc_3 <| And.intro @z_3 <| And.intro @ty_4 <| And.intro @zc_4 <| And.intro @z_4 <| And.intro @u_4 <| And.intro @ty_9 <| And.intro @zc_9 <| And.intro @z_9 <| And.intro @u_9 <| And.intro @ty_22 <| And.intro @zc_22 <| And.intro @z_22 <| And.intro @es_22 <| And.intro @eb_22 <| And.intro @sl_22 <| And.intro @is_22 <| And.intro @el_22 <| And.intro @ze_22 <| And.intro @ez_22 <| And.intro @ty_23 <| And.intro @zc_23 <| And.intro @z_23 <| And.intro @es_23 <| And.intro @eb_23 <| And.intro @sl_23 <| And.intro @is_23 <| And.intro @el_23 <| And.intro @ze_23 <| And.intro @ez_23 <| And.intro @ty_27 <| And.intro @zc_27 <| And.intro @z_27 <| And.intro @fo_27_0 <| And.intro @fi_27_0 <| And.intro @ft_27_0 <| And.intro @fo_27_1 <| And.intro @fi_27_1 <| And.intro @ft_27_1 <| And.intro @fo_27_2 <| And.intro @fi_27_2 <| And.intro @ft_27_2 <| @lay_27
set_option maxHeartbeats 4000000 in
theorem impl_IsValidLinear_sat {a0 : Linear}  {r : Bool} (h : impl_IsValidLinear a0 = some r) : Sat Try.prog 20 [((Linear.pv false) a0)] (B r) := by
  replace h := Run.of h
  unfold impl_IsValidLinear at h
  refine Sat.of_m (nt := 59) (rs := [.tmp 2]) (n := 100000) Try.func20 rfl rfl rfl rfl (by simp) ?_
  simp -failIfUnchanged only [↓RA, RB, RS, fx20, p1, p2, p3, p4, reduceIte, p5, p6, p7, p8]
  repeat (first | with_reducible refine noR_and (by repeat (first | exact noR_empty _ _ | exact noR_nilS _ _ | refine noR_mk _ _ _ _ _ rfl ?_ | refine noR_mkS _ _ _ _ _ rfl ?_)) ?_ | with_reducible refine noC_and (by repeat (first | exact noC_empty _ _ (by simp -failIfUnchanged only [↓RA, RB, RS, fx20, p1, p2, p3, p4, reduceIte, p5, p6, p7, p8]) | exact noC_nilS _ _ (by simp -failIfUnchanged only [↓RA, RB, RS, fx20, p1, p2, p3, p4, reduceIte, p5, p6, p7, p8]) | refine noC_mk _ _ _ _ _ rfl ?_ | refine noC_mkS _ _ _ _ _ rfl ?_)) ?_ | with_reducible refine and_ac ?_ | with_reducible refine And.intro (a := _ = List.range _) (by rfl) ?_)
  refine CondH.mk (fun c1 => ?_) (fun c1 => ?_)
  · replace h := run_t c1 h
    simp -failIfUnchanged only [↓RA, RB, RS, fx20, p1, p2, p3, p4, reduceIte, p5, p6, p7, p8, c1]
    have h := run_some h
    obtain rfl : _ = r := h
    refine FinH.l ?_
    simp -failIfUnchanged only [↓RA, RB, RS, fx20, p1, p2, p3, p4, reduceIte, p5, p6, p7, p8, c1]
  · replace h := run_f c1 h
    simp -failIfUnchanged only [↓RA, RB, RS, fx20, p1, p2, p3, p4, reduceIte, p5, p6, p7, p8, c1]
    refine CondH.mk (fun c2 => ?_) (fun c2 => ?_)
    · replace h := run_t c2 h
      simp -failIfUnchanged only [↓RA, RB, RS, fx20, p1, p2, p3, p4, reduceIte, p5, p6, p7, p8, c1, c2]
      obtain ⟨v21, hv21, h⟩ := run_bind h
      refine CallH.mk [false, false, false] (impl_within_sat hv21) ?_ ?_ <;> simp -failIfUnchanged only [↓RA, RB, RS, fx20, p1, p2, p3, p4, reduceIte, p5, p6, p7, p8, c1, c2]
      refine CondH.mk (fun c3 => ?_) (fun c3 => ?_)
      · replace h := run_t c3 h
        simp -failIfUnchanged only [↓RA, RB, RS, fx20, p1, p2, p3, p4, reduceIte, p5, p6, p7, p8, c1, c2, c3]
        refine Mg.know_sl (b := false) (sz := 1) (es := a0.Vars.map Sx) 6 (by simp -failIfUnchanged only [↓RA, RB, RS, fx20, p1, p2, p3, p4, reduceIte, p5, p6, p7, p8, c1, c2, c3]) fun hl6 => ?_; rw [List.length_map] at hl6
        replace h := run_loop h
        refine Mg.forN h (fun i4 s4 => [(1, .box (.pv ((Linear.pv false) a0))), (25, .val (.pv (.sl false 1 (a0.Vars.map Sx)))), (26, .val (.pv (I (a0.Vars.length : Int)))), (27, .val (.pv (I (i4 : Int))))]) (fun i4 s4 => []) (St.le_mk2 (by simp -failIfUnchanged only [↓RA, RB, RS, fx20, p1, p2, p3, p4, reduceIte, p5, p6, p7, p8, c1, c2, c3])) (fun i4 s4 hi h => ?_) (fun s4 h => ?_)
        · have w4 := wrap_succ (i := i4) (by omega)
          simp -failIfUnchanged only [↓RA, RB, RS, fx20, p1, p2, p3, p4, reduceIte, p5, p6, p7, p8, c1, c2, c3]
          refine CondH.tt (decide_eq_true (by omega)) (fun c4 => ?_)
          simp -failIfUnchanged only [↓RA, RB, RS, fx20, p1, p2, p3, p4, reduceIte, p5, p6, p7, p8, c1, c2, c3, c4]
          obtain ⟨v30, hv30, h⟩ := run_bind h
          refine IdxH.mk (f := Sx) hv30 ?_ ?_ <;> simp -failIfUnchanged only [↓RA, RB, RS, fx20, p1, p2, p3, p4, reduceIte, p5, p6, p7, p8, c1, c2, c3, c4]
          obtain ⟨v33, hv33, h⟩ := run_bind h
          refine CallH.mk [false] (impl_isVariable_sat hv33) ?_ ?_ <;> simp -failIfUnchanged only [↓RA, RB, RS, fx20, p1, p2, p3, p4, reduceIte, p5, p6, p7, p8, c1, c2, c3, c4]
          refine CondH.mk (fun c5 => ?_) (fun c5 => ?_)
          · replace h := run_t c5 h
            simp -failIfUnchanged only [↓RA, RB, RS, fx20, p1, p2, p3, p4, reduceIte, p5, p6, p7, p8, c1, c2, c3, c4, c5]
            refine CondH.mk (fun c6 => ?_) (fun c6 => ?_)
            · replace h := run_t c6 h
              simp -failIfUnchanged only [↓RA, RB, RS, fx20, p1, p2, p3, p4, reduceIte, p5, p6, p7, p8, c1, c2, c3, c4, c5, c6]
              obtain ⟨v44, hv44, h⟩ := run_bind h
              refine IdxH.mk (f := Sx) hv44 ?_ ?_ <;> simp -failIfUnchanged only [↓RA, RB, RS, fx20, p1, p2, p3, p4, reduceIte, p5, p6, p7, p8, c1, c2, c3, c4, c5, c6]
              refine CondH.mk (fun c7 => ?_) (fun c7 => ?_)
              · replace h := run_t c7 h
                simp -failIfUnchanged only [↓RA, RB, RS, fx20, p1, p2, p3, p4, reduceIte, p5, p6, p7, p8, c1, c2, c3, c4, c5, c6, c7]
                have h := run_some h
                obtain rfl : _ = r := h
                refine FinH.l ?_
                simp -failIfUnchanged only [↓RA, RB, RS, fx20, p1, p2, p3, p4, reduceIte, p5, p6, p7, p8, c1, c2, c3, c4, c5, c6, c7]
              · replace h := run_f c7 h
                simp -failIfUnchanged only [↓RA, RB, RS, fx20, p1, p2, p3, p4, reduceIte, p5, p6, p7, p8, c1, c2, c3, c4, c5, c6, c7]
                obtain ⟨v53, hv53, h⟩ := run_bind h
                refine IdxH.mk (f := I) hv53 ?_ ?_ <;> simp -failIfUnchanged only [↓RA, RB, RS, fx20, p1, p2, p3, p4, reduceIte, p5, p6, p7, p8, c1, c2, c3, c4, c5, c6, c7]
                obtain ⟨v55, hv55, h⟩ := run_bind h
                refine CallH.mk [false, false, false] (impl_within_sat hv55) ?_ ?_ <;> simp -failIfUnchanged only [↓RA, RB, RS, fx20, p1, p2, p3, p4, reduceIte, p5, p6, p7, p8, c1, c2, c3, c4, c5, c6, c7]
                refine CondH.mk (fun c8 => ?_) (fun c8 => ?_)
                · replace h := run_t c8 h
                  simp -failIfUnchanged only [↓RA, RB, RS, fx20, p1, p2, p3, p4, reduceIte, p5, p6, p7, p8, c1, c2, c3, c4, c5, c6, c7, c8]
                  have h := run_some h
                  refine RdH.mk ⟨_, h, ?_⟩
                  refine St.le_mk2 ?_
                  simp -failIfUnchanged only [↓RA, RB, RS, fx20, p1, p2, p3, p4, reduceIte, p5, p6, p7, p8, c1, c2, c3, c4, c5, c6, c7, c8, w4]
                · replace h := run_f c8 h
                  simp -failIfUnchanged only [↓RA, RB, RS, fx20, p1, p2, p3, p4, reduceIte, p5, p6, p7, p8, c1, c2, c3, c4, c5, c6, c7, c8]
                  have h := run_some h
                  obtain rfl : _ = r := h
                  refine FinH.l ?_
                  simp -failIfUnchanged only [↓RA, RB, RS, fx20, p1, p2, p3, p4, reduceIte, p5, p6, p7, p8, c1, c2, c3, c4, c5, c6, c7, c8]
            · replace h := run_f c6 h
              simp -failIfUnchanged only [↓RA, RB, RS, fx20, p1, p2, p3, p4, reduceIte, p5, p6, p7, p8, c1, c2, c3, c4, c5, c6]
              obtain ⟨v53, hv53, h⟩ := run_bind h
              refine IdxH.mk (f := I) hv53 ?_ ?_ <;> simp -failIfUnchanged only [↓RA, RB, RS, fx20, p1, p2, p3, p4, reduceIte, p5, p6, p7, p8, c1, c2, c3, c4, c5, c6]
              obtain ⟨v55, hv55, h⟩ := run_bind h
              refine CallH.mk [false, false, false] (impl_within_sat hv55) ?_ ?_ <;> simp -failIfUnchanged only [↓RA, RB, RS, fx20, p1, p2, p3, p4, reduceIte, p5, p6, p7, p8, c1, c2, c3, c4, c5, c6]
              refine CondH.mk (fun c9 => ?_) (fun c9 => ?_)
              · replace h := run_t c9 h
                simp -failIfUnchanged only [↓RA, RB, RS, fx20, p1, p2, p3, p4, reduceIte, p5, p6, p7, p8, c1, c2, c3, c4, c5, c6, c9]
                have h := run_some h
                refine RdH.mk ⟨_, h, ?_⟩
                refine St.le_mk2 ?_
                simp -failIfUnchanged only [↓RA, RB, RS, fx20, p1, p2, p3, p4, reduceIte, p5, p6, p7, p8, c1, c2, c3, c4, c5, c6, c9, w4]
              · replace h := run_f c9 h
                simp -failIfUnchanged only [↓RA, RB, RS, fx20, p1, p2, p3, p4, reduceIte, p5, p6, p7, p8, c1, c2, c3, c4, c5, c6, c9]
                have h := run_some h
                obtain rfl : _ = r := h
                refine FinH.l ?_
                simp -failIfUnchanged only [↓RA, RB, RS, fx20, p1, p2, p3, p4, reduceIte, p5, p6, p7, p8, c1, c2, c3, c4, c5, c6, c9]
          · replace h := run_f c5 h
            simp -failIfUnchanged only [↓RA, RB, RS, fx20, p1, p2, p3, p4, reduceIte, p5, p6, p7, p8, c1, c2, c3, c4, c5]
            have h := run_some h
            obtain rfl : _ = r := h
            refine FinH.l ?_
            simp -failIfUnchanged only [↓RA, RB, RS, fx20, p1, p2, p3, p4, reduceIte, p5, p6, p7, p8, c1, c2, c3, c4, c5]
        · simp -failIfUnchanged only [↓RA, RB, RS, fx20, p1, p2, p3, p4, reduceIte, p5, p6, p7, p8, c1, c2, c3]
          refine CondH.ff (decide_eq_false (by omega)) (fun c10 => ?_)
          simp -failIfUnchanged only [↓RA, RB, RS, fx20, p1, p2, p3, p4, reduceIte, p5, p6, p7, p8, c1, c2, c3, c10]
          have h := run_some h
          obtain rfl : _ = r := h
          refine FinH.l ?_
          simp -failIfUnchanged only [↓RA, RB, RS, fx20, p1, p2, p3, p4, reduceIte, p5, p6, p7, p8, c1, c2, c3, c10]
      · replace h := run_f c3 h
        simp -failIfUnchanged only [↓RA, RB, RS, fx20, p1, p2, p3, p4, reduceIte, p5, p6, p7, p8, c1, c2, c3]
        have h := run_some h
        obtain rfl : _ = r := h
        refine FinH.l ?_
        simp -failIfUnchanged only [↓RA, RB, RS, fx20, p1, p2, p3, p4, reduceIte, p5, p6, p7, p8, c1, c2, c3]
    · replace h := run_f c2 h
      simp -failIfUnchanged only [↓RA, RB, RS, fx20, p1, p2, p3, p4, reduceIte, p5, p6, p7, p8, c1, c2]
      have h := run_some h
      obtain rfl : _ = r := h
      refine FinH.l ?_
      simp -failIfUnchanged only [↓RA, RB, RS, fx20, p1, p2, p3, p4, reduceIte, p5, p6, p7, p8, c1, c2]


def fx34 := And.intro @ty_3 <| And.intro @zc_3 <| And.intro @z_3 <| And.intro @ty_4 <| And.intro @zc_4 <| And.intro @z_4 <| And.intro @u_4 <| And.intro @ty_9 <| And.intro @zc_9 <| And.intro @z_9 <| And.intro @u_9 <| And.intro @ty_22 <| And.intro @zc_22 <| And.intro @z_22 <| And.intro @es_22 <| And.intro @eb_22 <| And.intro @sl_22 <| And.intro @is_22 <| And.intro @el_22 <| And.intro @ze_22 <| And.intro @ez_22 <| And.intro @ty_23 <| And.intro @zc_23 <| And.intro @z_23 <| And.intro @es_23 <| And.intro @eb_23 <| And.intro @sl_23 <| And.intro @is_23 <| And.intro @el_23 <| And.intro @ze_23 <| And.intro @ez_23 <| And.intro @ty_27 <| And.intro @zc_27 <| And.intro @z_27 <| And.intro @fo_27_0 <| And.intro @fi_27_0 <| And.intro @ft_27_0 <| And.intro @fo_27_1 <| And.intro @fi_27_1 <| And.intro @ft_27_1 <| And.intro @fo_27_2 <| And.intro @fi_27_2 <| And.intro @ft_27_2 <| And.intro @lay_27 <| @ty_47
set_option maxHeartbeats 4000000 in
theorem impl_linearR_sat {a0 : GMap Int} {a1 : Int} {r : Linear × Bool} (h : ∀ ord, ord.Perm a0.es → impl_linearR ord a0 a1 = some r) : SatH Try.prog 34 [] [(I a1)] .mp [] (.mp (gmap I a0.es) a0.clock) (.mp (gmap I a0.es) a0.clock) (.tup [((Linear.pv true) r.1), (B r.2)]) := by
  replace h := fun ord ho => Run.of (h ord ho)
  simp only [impl_linearR] at h
  refine SatH.of_ki (nt := 52) (rs := [.cell 4 27, .tmp 5]) (n := 100000) 0 Try.func34 rfl rfl rfl rfl rfl (Nat.le_of_ble_eq_true rfl) (by decide) (Nat.le_of_ble_eq_true rfl) ?_
  simp -failIfUnchanged only [↓RA, ↓RI, RH, RB, RJ, RS, fx34, p1, p2, p3, p4, reduceIte, p5, p6, p7, p8]
  refine VSeq.step ?_
  simp -failIfUnchanged only [↓RA, ↓RI, RH, RB, RJ, RS, fx34, p1, p2, p3, p4, reduceIte, p5, p6, p7, p8]
  repeat (first | with_reducible refine noR_and (by repeat (first | exact noR_empty _ _ | exact noR_nilS _ _ | refine noR_mk _ _ _ _ _ rfl ?_ | refine noR_mkS _ _ _ _ _ rfl ?_)) ?_ | with_reducible refine noC_and (by repeat (first | exact noC_empty _ _ (by simp -failIfUnchanged only [↓RA, ↓RI, RH, RB, RJ, RS, fx34, p1, p2, p3, p4, reduceIte, p5, p6, p7, p8]) | exact noC_nilS _ _ (by simp -failIfUnchanged only [↓RA, ↓RI, RH, RB, RJ, RS, fx34, p1, p2, p3, p4, reduceIte, p5, p6, p7, p8]) | refine noC_mk _ _ _ _ _ rfl ?_ | refine noC_mkS _ _ _ _ _ rfl ?_)) ?_ | with_reducible refine and_ac ?_ | with_reducible refine And.intro (a := _ = List.range _) (by rfl) ?_)
  refine VSeq.step ?_
  simp -failIfUnchanged only [↓RA, ↓RI, RH, RB, RJ, RS, fx34, p1, p2, p3, p4, reduceIte, p5, p6, p7, p8]
  refine VSeq.nil (Nat.le_of_eq rfl) ?_
  simp -failIfUnchanged only [↓RA, ↓RI, RH, RB, RJ, RS, fx34, p1, p2, p3, p4, reduceIte, p5, p6, p7, p8]
  refine VSeq.step ?_
  simp -failIfUnchanged only [↓RA, ↓RI, RH, RB, RJ, RS, fx34, p1, p2, p3, p4, reduceIte, p5, p6, p7, p8]
  refine VSeq.step ?_
  simp -failIfUnchanged only [↓RA, ↓RI, RH, RB, RJ, RS, fx34, p1, p2, p3, p4, reduceIte, p5, p6, p7, p8]
  refine VSeq.step ?_
  simp -failIfUnchanged only [↓RA, ↓RI, RH, RB, RJ, RS, fx34, p1, p2, p3, p4, reduceIte, p5, p6, p7, p8]
  repeat (first | with_reducible refine noR_and (by repeat (first | exact noR_empty _ _ | exact noR_nilS _ _ | refine noR_mk _ _ _ _ _ rfl ?_ | refine noR_mkS _ _ _ _ _ rfl ?_)) ?_ | with_reducible refine noC_and (by repeat (first | exact noC_empty _ _ (by simp -failIfUnchanged only [↓RA, ↓RI, RH, RB, RJ, RS, fx34, p1, p2, p3, p4, reduceIte, p5, p6, p7, p8]) | exact noC_nilS _ _ (by simp -failIfUnchanged only [↓RA, ↓RI, RH, RB, RJ, RS, fx34, p1, p2, p3, p4, reduceIte, p5, p6, p7, p8]) | refine noC_mk _ _ _ _ _ rfl ?_ | refine noC_mkS _ _ _ _ _ rfl ?_)) ?_ | with_reducible refine and_ac ?_ | with_reducible refine And.intro (a := _ = List.range _) (by rfl) ?_)
  refine VSeq.step ?_
  simp -failIfUnchanged only [↓RA, ↓RI, RH, RB, RJ, RS, fx34, p1, p2, p3, p4, reduceIte, p5, p6, p7, p8]
  refine VSeq.nil (Nat.le_of_eq rfl) ?_
  simp -failIfUnchanged only [↓RA, ↓RI, RH, RB, RJ, RS, fx34, p1, p2, p3, p4, reduceIte, p5, p6, p7, p8]
  refine VSeq.step ?_
  simp -failIfUnchanged only [↓RA, ↓RI, RH, RB, RJ, RS, fx34, p1, p2, p3, p4, reduceIte, p5, p6, p7, p8]
  refine VSeq.step ?_
  simp -failIfUnchanged only [↓RA, ↓RI, RH, RB, RJ, RS, fx34, p1, p2, p3, p4, reduceIte, p5, p6, p7, p8]
  refine HandH.range (E := 3) (r := 0) (sh := .mp) (ps := []) (m := a0) (f := I) mt_47 (by simp -failIfUnchanged only [↓RA, ↓RI, RH, RB, RJ, RS, fx34, p1, p2, p3, p4, reduceIte, p5, p6, p7, p8]) ?_
  simp -failIfUnchanged only [↓RA, ↓RI, RH, RB, RJ, RS, fx34, p1, p2, p3, p4, reduceIte, p5, p6, p7, p8]
  repeat (first | with_reducible refine noR_and (by repeat (first | exact noR_empty _ _ | exact noR_nilS _ _ | refine noR_mk _ _ _ _ _ rfl ?_ | refine noR_mkS _ _ _ _ _ rfl ?_)) ?_ | with_reducible refine noC_and (by repeat (first | exact noC_empty _ _ (by simp -failIfUnchanged only [↓RA, ↓RI, RH, RB, RJ, RS, fx34, p1, p2, p3, p4, reduceIte, p5, p6, p7, p8]) | exact noC_nilS _ _ (by simp -failIfUnchanged only [↓RA, ↓RI, RH, RB, RJ, RS, fx34, p1, p2, p3, p4, reduceIte, p5, p6, p7, p8]) | refine noC_mk _ _ _ _ _ rfl ?_ | refine noC_mkS _ _ _ _ _ rfl ?_)) ?_ | with_reducible refine and_ac ?_ | with_reducible refine And.intro (a := _ = List.range _) (by rfl) ?_)
  refine VSeq.nil (Nat.le_of_eq rfl) ?_
  simp -failIfUnchanged only [↓RA, ↓RI, RH, RB, RJ, RS, fx34, p1, p2, p3, p4, reduceIte, p5, p6, p7, p8]
  replace h := fun ord ho => run_loop (h ord ho)
  refine MgI.range (fun e => e.2.2) h (fun pre3 s3 => [(0, .hold .mp [] (.mp (gmap I (a0).es) (a0).clock)), (4, .box (.node [(.pv (.sl true 1 [])), (.pv (.sl true 1 [])), (.pv (I (0 : Int)))])), (6, .box (.node [(.own 9309), (.pv (.sl true 1 [])), (.pv (I a1))])), (14, .hold .ptr [] (.it 0 (a0).clock (pre3.map fun e => e.2.2) (a0).clock)), (20000, gh 0)]) (fun pre3 s3 => [(9309, (1, s3.map Sx))]) (St.le_trans (St.le_nilB (x := (.node [(.pv (.sl true 1 [])), (.pv (.sl true 1 [])), (.pv (I a1))])) 6 [0] 9309 1 (by repeat (first | exact noC_empty _ _ (by simp -failIfUnchanged only [↓RA, ↓RI, RH, RB, RJ, RS, fx34, p1, p2, p3, p4, reduceIte, p5, p6, p7, p8]) | exact noC_nilS _ _ (by simp -failIfUnchanged only [↓RA, ↓RI, RH, RB, RJ, RS, fx34, p1, p2, p3, p4, reduceIte, p5, p6, p7, p8]) | refine noC_mk _ _ _ _ _ rfl ?_ | refine noC_mkS _ _ _ _ _ rfl ?_)) (by simp -failIfUnchanged only [↓RA, ↓RI, RH, RB, RJ, RS, fx34, p1, p2, p3, p4, reduceIte, p5, p6, p7, p8]) (by simp -failIfUnchanged only [↓RA, ↓RI, RH, RB, RJ, RS, fx34, p1, p2, p3, p4, reduceIte, p5, p6, p7, p8]) (by simp -failIfUnchanged only [↓RA, ↓RI, RH, RB, RJ, RS, fx34, p1, p2, p3, p4, reduceIte, p5, p6, p7, p8])) (St.le_mk2 (by simp -failIfUnchanged only [↓RA, ↓RI, RH, RB, RJ, RS, fx34, p1, p2, p3, p4, reduceIte, p5, p6, p7, p8]))) (fun pre3 s3 hI3 => ?_)
  simp -failIfUnchanged only [↓RA, ↓RI, RH, RB, RJ, RS, fx34, p1, p2, p3, p4, reduceIte, p5, p6, p7, p8]
  refine VSeq.next (r := 0) (kt := 14) (m := a0) (f := I) (seen := pre3.map fun e => e.2.2) (sh := .mp) (ps := []) rfl rfl rfl rfl (by decide) (by decide) rfl (by simp -failIfUnchanged only [↓RA, ↓RI, RH, RB, RJ, RS, fx34, p1, p2, p3, p4, reduceIte, p5, p6, p7, p8]) (fun hd3 ha3 => ?_) (fun e3 he3 hn3 => ?_)
  · replace h := RngI.done hI3 hd3 ha3
    refine VSeq.step ?_
    simp -failIfUnchanged only [↓RA, ↓RI, RH, RB, RJ, RS, fx34, p1, p2, p3, p4, reduceIte, p5, p6, p7, p8]
    refine VSeq.nil (Nat.le_of_eq rfl) ?_
    simp -failIfUnchanged only [↓RA, ↓RI, RH, RB, RJ, RS, fx34, p1, p2, p3, p4, reduceIte, p5, p6, p7, p8]
    refine VSeq.step ?_
    simp -failIfUnchanged only [↓RA, ↓RI, RH, RB, RJ, RS, fx34, p1, p2, p3, p4, reduceIte, p5, p6, p7, p8]
    refine VSeq.step ?_
    simp -failIfUnchanged only [↓RA, ↓RI, RH, RB, RJ, RS, fx34, p1, p2, p3, p4, reduceIte, p5, p6, p7, p8]
    refine VSeq.step ?_
    simp -failIfUnchanged only [↓RA, ↓RI, RH, RB, RJ, RS, fx34, p1, p2, p3, p4, reduceIte, p5, p6, p7, p8]
    obtain ⟨v30, hv30, h⟩ := run_bind h
    refine CallH.io0 [(.own 9309)] [(9309, (1, v30.2.map Sx))] (slices_SortS_sat hv30) ?_ ?_ <;> simp -failIfUnchanged only [↓RA, ↓RI, RH, RB, RJ, RS, fx34, p1, p2, p3, p4, reduceIte, p5, p6, p7, p8]
    refine VSeq.nil (Nat.le_of_eq rfl) ?_
    simp -failIfUnchanged only [↓RA, ↓RI, RH, RB, RJ, RS, fx34, p1, p2, p3, p4, reduceIte, p5, p6, p7, p8]
    refine VSeq.step ?_
    simp -failIfUnchanged only [↓RA, ↓RI, RH, RB, RJ, RS, fx34, p1, p2, p3, p4, reduceIte, p5, p6, p7, p8]
    refine VSeq.step ?_
    simp -failIfUnchanged only [↓RA, ↓RI, RH, RB, RJ, RS, fx34, p1, p2, p3, p4, reduceIte, p5, p6, p7, p8]
    refine VSeq.step ?_
    simp -failIfUnchanged only [↓RA, ↓RI, RH, RB, RJ, RS, fx34, p1, p2, p3, p4, reduceIte, p5, p6, p7, p8]
    refine VSeq.step ?_
    simp -failIfUnchanged only [↓RA, ↓RI, RH, RB, RJ, RS, fx34, p1, p2, p3, p4, reduceIte, p5, p6, p7, p8]
    refine VSeq.nil (Nat.le_of_eq rfl) ?_
    simp -failIfUnchanged only [↓RA, ↓RI, RH, RB, RJ, RS, fx34, p1, p2, p3, p4, reduceIte, p5, p6, p7, p8]
    refine MgI.know_own (sz := 1) (es := v30.2.map Sx) 9309 (by simp -failIfUnchanged only [↓RA, ↓RI, RH, RB, RJ, RS, fx34, p1, p2, p3, p4, reduceIte, p5, p6, p7, p8]) fun hl9309 => ?_; rw [List.length_map] at hl9309
    replace h := run_loop h
    refine MgI.forN h (fun i9 s9 => [(0, .hold .mp [] (.mp (gmap I (a0).es) (a0).clock)), (4, .box (.node [(.pv (.sl true 1 [])), (.pv (.sl true 1 [])), (.pv (I (0 : Int)))])), (6, .box (.node [(.own 9309), (.own 9327), (.pv (I a1))])), (32, .val (.own 9309)), (33, .val (.pv (I (v30.2.length : Int)))), (34, .val (.pv (I (i9 : Int)))), (20000, gh 0)]) (fun i9 s9 => [(9309, (1, v30.2.map Sx)), (9327, (1, s9.map I))]) (St.le_trans (St.le_nilB (x := (.node [(.own 9309), (.pv (.sl true 1 [])), (.pv (I a1))])) 6 [1] 9327 1 (by repeat (first | exact noC_empty _ _ (by simp -failIfUnchanged only [↓RA, ↓RI, RH, RB, RJ, RS, fx34, p1, p2, p3, p4, reduceIte, p5, p6, p7, p8]) | exact noC_nilS _ _ (by simp -failIfUnchanged only [↓RA, ↓RI, RH, RB, RJ, RS, fx34, p1, p2, p3, p4, reduceIte, p5, p6, p7, p8]) | refine noC_mk _ _ _ _ _ rfl ?_ | refine noC_mkS _ _ _ _ _ rfl ?_)) (by simp -failIfUnchanged only [↓RA, ↓RI, RH, RB, RJ, RS, fx34, p1, p2, p3, p4, reduceIte, p5, p6, p7, p8]) (by simp -failIfUnchanged only [↓RA, ↓RI, RH, RB, RJ, RS, fx34, p1, p2, p3, p4, reduceIte, p5, p6, p7, p8]) (by simp -failIfUnchanged only [↓RA, ↓RI, RH, RB, RJ, RS, fx34, p1, p2, p3, p4, reduceIte, p5, p6, p7, p8])) (St.le_mk2 (by simp -failIfUnchanged only [↓RA, ↓RI, RH, RB, RJ, RS, fx34, p1, p2, p3, p4, reduceIte, p5, p6, p7, p8]))) (fun i9 s9 hi h => ?_) (fun s9 h => ?_)
    · have w9 := wrap_succ (i := i9) (by omega)
      simp -failIfUnchanged only [↓RA, ↓RI, RH, RB, RJ, RS, fx34, p1, p2, p3, p4, reduceIte, p5, p6, p7, p8]
      refine VSeq.step ?_
      simp -failIfUnchanged only [↓RA, ↓RI, RH, RB, RJ, RS, fx34, p1, p2, p3, p4, reduceIte, p5, p6, p7, p8]
      refine VSeq.nil (Nat.le_of_eq rfl) ?_
      simp -failIfUnchanged only [↓RA, ↓RI, RH, RB, RJ, RS, fx34, p1, p2, p3, p4, reduceIte, p5, p6, p7, p8]
      refine CondH.tt (decide_eq_true (by omega)) (fun c2 => ?_)
      simp -failIfUnchanged only [↓RA, ↓RI, RH, RB, RJ, RS, fx34, p1, p2, p3, p4, reduceIte, p5, p6, p7, p8, c2]
      refine VSeq.step ?_
      simp -failIfUnchanged only [↓RA, ↓RI, RH, RB, RJ, RS, fx34, p1, p2, p3, p4, reduceIte, p5, p6, p7, p8, c2]
      obtain ⟨v36, hv36, h⟩ := run_bind h
      refine IdxH.mk (f := Sx) hv36 ?_ ?_ <;> simp -failIfUnchanged only [↓RA, ↓RI, RH, RB, RJ, RS, fx34, p1, p2, p3, p4, reduceIte, p5, p6, p7, p8, c2]
      refine VSeq.step ?_
      simp -failIfUnchanged only [↓RA, ↓RI, RH, RB, RJ, RS, fx34, p1, p2, p3, p4, reduceIte, p5, p6, p7, p8, c2]
      obtain ⟨v37, hv37, h⟩ := run_bind h
      refine EldH.mk (f := Sx) hv37 rfl ?_ ?_ <;> simp -failIfUnchanged only [↓RA, ↓RI, RH, RB, RJ, RS, fx34, p1, p2, p3, p4, reduceIte, p5, p6, p7, p8, c2]
      refine VSeq.step ?_
      simp -failIfUnchanged only [↓RA, ↓RI, RH, RB, RJ, RS, fx34, p1, p2, p3, p4, reduceIte, p5, p6, p7, p8, c2]
      refine VSeq.nil (Nat.le_of_eq rfl) ?_
      simp -failIfUnchanged only [↓RA, ↓RI, RH, RB, RJ, RS, fx34, p1, p2, p3, p4, reduceIte, p5, p6, p7, p8, c2]
      refine VSeq.step ?_
      simp -failIfUnchanged only [↓RA, ↓RI, RH, RB, RJ, RS, fx34, p1, p2, p3, p4, reduceIte, p5, p6, p7, p8, c2]
      refine VSeq.step ?_
      simp -failIfUnchanged only [↓RA, ↓RI, RH, RB, RJ, RS, fx34, p1, p2, p3, p4, reduceIte, p5, p6, p7, p8, c2]
      refine VSeq.step ?_
      simp -failIfUnchanged only [↓RA, ↓RI, RH, RB, RJ, RS, fx34, p1, p2, p3, p4, reduceIte, p5, p6, p7, p8, c2]
      refine VSeq.step ?_
      simp -failIfUnchanged only [↓RA, ↓RI, RH, RB, RJ, RS, fx34, p1, p2, p3, p4, reduceIte, p5, p6, p7, p8, c2]
      refine VSeq.step ?_
      simp -failIfUnchanged only [↓RA, ↓RI, RH, RB, RJ, RS, fx34, p1, p2, p3, p4, reduceIte, p5, p6, p7, p8, c2]
      refine HandH.lookup (E := 3) (r := 0) (sh := .mp) (ps := []) (m := a0) (f := I) (k := v37) (z0 := (0 : Int)) mt_47 mz_3 (by simp -failIfUnchanged only [↓RA, ↓RI, RH, RB, RJ, RS, fx34, p1, p2, p3, p4, reduceIte, p5, p6, p7, p8, c2]) ?_
      simp -failIfUnchanged only [↓RA, ↓RI, RH, RB, RJ, RS, fx34, p1, p2, p3, p4, reduceIte, p5, p6, p7, p8, c2]
      refine VSeq.step ?_
      simp -failIfUnchanged only [↓RA, ↓RI, RH, RB, RJ, RS, fx34, p1, p2, p3, p4, reduceIte, p5, p6, p7, p8, c2]
      repeat (first | with_reducible refine noR_and (by repeat (first | exact noR_empty _ _ | exact noR_nilS _ _ | refine noR_mk _ _ _ _ _ rfl ?_ | refine noR_mkS _ _ _ _ _ rfl ?_)) ?_ | with_reducible refine noC_and (by repeat (first | exact noC_empty _ _ (by simp -failIfUnchanged only [↓RA, ↓RI, RH, RB, RJ, RS, fx34, p1, p2, p3, p4, reduceIte, p5, p6, p7, p8]) | exact noC_nilS _ _ (by simp -failIfUnchanged only [↓RA, ↓RI, RH, RB, RJ, RS, fx34, p1, p2, p3, p4, reduceIte, p5, p6, p7, p8]) | refine noC_mk _ _ _ _ _ rfl ?_ | refine noC_mkS _ _ _ _ _ rfl ?_)) ?_ | with_reducible refine and_ac ?_ | with_reducible refine And.intro (a := _ = List.range _) (by rfl) ?_)
      refine VSeq.step ?_
      simp -failIfUnchanged only [↓RA, ↓RI, RH, RB, RJ, RS, fx34, p1, p2, p3, p4, reduceIte, p5, p6, p7, p8, c2]
      obtain ⟨v44, hv44, h⟩ := run_bind h
      refine AppH.mk (f := I) (fun _ => rfl) hv44 ?_ ?_ ?_ <;> simp -failIfUnchanged only [↓RA, ↓RI, RH, RB, RJ, RS, fx34, p1, p2, p3, p4, reduceIte, p5, p6, p7, p8, c2]
      repeat (first | with_reducible refine noR_and (by repeat (first | exact noR_empty _ _ | exact noR_nilS _ _ | refine noR_mk _ _ _ _ _ rfl ?_ | refine noR_mkS _ _ _ _ _ rfl ?_)) ?_ | with_reducible refine noC_and (by repeat (first | exact noC_empty _ _ (by simp -failIfUnchanged only [↓RA, ↓RI, RH, RB, RJ, RS, fx34, p1, p2, p3, p4, reduceIte, p5, p6, p7, p8]) | exact noC_nilS _ _ (by simp -failIfUnchanged only [↓RA, ↓RI, RH, RB, RJ, RS, fx34, p1, p2, p3, p4, reduceIte, p5, p6, p7, p8]) | refine noC_mk _ _ _ _ _ rfl ?_ | refine noC_mkS _ _ _ _ _ rfl ?_)) ?_ | with_reducible refine and_ac ?_ | with_reducible refine And.intro (a := _ = List.range _) (by rfl) ?_)
      refine VSeq.step ?_
      simp -failIfUnchanged only [↓RA, ↓RI, RH, RB, RJ, RS, fx34, p1, p2, p3, p4, reduceIte, p5, p6, p7, p8, c2]
      refine VSeq.step ?_
      simp -failIfUnchanged only [↓RA, ↓RI, RH, RB, RJ, RS, fx34, p1, p2, p3, p4, reduceIte, p5, p6, p7, p8, c2]
      refine VSeq.nil (Nat.le_of_eq rfl) ?_
      simp -failIfUnchanged only [↓RA, ↓RI, RH, RB, RJ, RS, fx34, p1, p2, p3, p4, reduceIte, p5, p6, p7, p8, c2]
      refine VSeq.step ?_
      simp -failIfUnchanged only [↓RA, ↓RI, RH, RB, RJ, RS, fx34, p1, p2, p3, p4, reduceIte, p5, p6, p7, p8, c2]
      refine VSeq.step ?_
      simp -failIfUnchanged only [↓RA, ↓RI, RH, RB, RJ, RS, fx34, p1, p2, p3, p4, reduceIte, p5, p6, p7, p8, c2]
      refine VSeq.nil (Nat.le_of_eq rfl) ?_
      simp -failIfUnchanged only [↓RA, ↓RI, RH, RB, RJ, RS, fx34, p1, p2, p3, p4, reduceIte, p5, p6, p7, p8, c2]
      have h := run_some h
      refine RdH.mk ⟨_, h, ?_⟩
      refine St.le_trans (St.le_mk (S := [(0, .hold .mp [] (.mp (gmap I (a0).es) (a0).clock)), (4, .box (.node [(.pv (.sl true 1 [])), (.pv (.sl true 1 [])), (.pv (I (0 : Int)))])), (6, .box (.node [(.own 9309), (.own 704), (.pv (I a1))])), (32, .val (.own 9309)), (33, .val (.pv (I (v30.2.length : Int)))), (34, .val (.pv (I (IntKind.i64.wrap ((i9 : Int) + (1 : Int)))))), (20000, gh 0)]) (O := [(9309, (1, v30.2.map Sx)), (704, (1, v44.map I))]) (by simp -failIfUnchanged only [↓RA, ↓RI, RH, RB, RJ, RS, fx34, p1, p2, p3, p4, reduceIte, p5, p6, p7, p8, c2, w9]) (by simp -failIfUnchanged only [↓RA, ↓RI, RH, RB, RJ, RS, fx34, p1, p2, p3, p4, reduceIte, p5, p6, p7, p8, c2, w9])) ?_
      refine St.le_rn 704 9327 (by decide) (by repeat (first | exact noC_empty _ _ (by simp -failIfUnchanged only [↓RA, ↓RI, RH, RB, RJ, RS, fx34, p1, p2, p3, p4, reduceIte, p5, p6, p7, p8]) | exact noC_nilS _ _ (by simp -failIfUnchanged only [↓RA, ↓RI, RH, RB, RJ, RS, fx34, p1, p2, p3, p4, reduceIte, p5, p6, p7, p8]) | refine noC_mk _ _ _ _ _ rfl ?_ | refine noC_mkS _ _ _ _ _ rfl ?_)) ?_
      refine St.le_mk2 ?_
      simp -failIfUnchanged only [↓RA, ↓RI, RH, RB, RJ, RS, fx34, p1, p2, p3, p4, reduceIte, p5, p6, p7, p8, c2, w9]
    · simp -failIfUnchanged only [↓RA, ↓RI, RH, RB, RJ, RS, fx34, p1, p2, p3, p4, reduceIte, p5, p6, p7, p8]
      refine VSeq.step ?_
      simp -failIfUnchanged only [↓RA, ↓RI, RH, RB, RJ, RS, fx34, p1, p2, p3, p4, reduceIte, p5, p6, p7, p8]
      refine VSeq.nil (Nat.le_of_eq rfl) ?_
      simp -failIfUnchanged only [↓RA, ↓RI, RH, RB, RJ, RS, fx34, p1, p2, p3, p4, reduceIte, p5, p6, p7, p8]
      refine CondH.ff (decide_eq_false (by omega)) (fun c3 => ?_)
      simp -failIfUnchanged only [↓RA, ↓RI, RH, RB, RJ, RS, fx34, p1, p2, p3, p4, reduceIte, p5, p6, p7, p8, c3]
      refine VSeq.step ?_
      simp -failIfUnchanged only [↓RA, ↓RI, RH, RB, RJ, RS, fx34, p1, p2, p3, p4, reduceIte, p5, p6, p7, p8, c3]
      refine VSeq.step ?_
      simp -failIfUnchanged only [↓RA, ↓RI, RH, RB, RJ, RS, fx34, p1, p2, p3, p4, reduceIte, p5, p6, p7, p8, c3]
      obtain ⟨v48, hv48, h⟩ := run_bind h
      refine CallH.mk [false] (impl_IsValidLinear_sat hv48) ?_ ?_ <;> simp -failIfUnchanged only [↓RA, ↓RI, RH, RB, RJ, RS, fx34, p1, p2, p3, p4, reduceIte, p5, p6, p7, p8, c3]
      refine VSeq.step ?_
      simp -failIfUnchanged only [↓RA, ↓RI, RH, RB, RJ, RS, fx34, p1, p2, p3, p4, reduceIte, p5, p6, p7, p8, c3]
      refine VSeq.nil (Nat.le_of_eq rfl) ?_
      simp -failIfUnchanged only [↓RA, ↓RI, RH, RB, RJ, RS, fx34, p1, p2, p3, p4, reduceIte, p5, p6, p7, p8, c3]
      refine CondH.mk (fun c4 => ?_) (fun c4 => ?_)
      · replace h := run_t c4 h
        simp -failIfUnchanged only [↓RA, ↓RI, RH, RB, RJ, RS, fx34, p1, p2, p3, p4, reduceIte, p5, p6, p7, p8, c3, c4]
        refine VSeq.step ?_
        simp -failIfUnchanged only [↓RA, ↓RI, RH, RB, RJ, RS, fx34, p1, p2, p3, p4, reduceIte, p5, p6, p7, p8, c3, c4]
        refine VSeq.step ?_
        simp -failIfUnchanged only [↓RA, ↓RI, RH, RB, RJ, RS, fx34, p1, p2, p3, p4, reduceIte, p5, p6, p7, p8, c3, c4]
        refine VSeq.step ?_
        simp -failIfUnchanged only [↓RA, ↓RI, RH, RB, RJ, RS, fx34, p1, p2, p3, p4, reduceIte, p5, p6, p7, p8, c3, c4]
        refine VSeq.nil (Nat.le_of_eq rfl) ?_
        simp -failIfUnchanged only [↓RA, ↓RI, RH, RB, RJ, RS, fx34, p1, p2, p3, p4, reduceIte, p5, p6, p7, p8, c3, c4]
        have h := run_some h
        obtain rfl : _ = r := h
        refine RetHB.l ?_
        simp -failIfUnchanged only [↓RA, ↓RI, RH, RB, RJ, RS, fx34, p1, p2, p3, p4, reduceIte, p5, p6, p7, p8, c3, c4]
      · replace h := run_f c4 h
        simp -failIfUnchanged only [↓RA, ↓RI, RH, RB, RJ, RS, fx34, p1, p2, p3, p4, reduceIte, p5, p6, p7, p8, c3, c4]
        refine VSeq.step ?_
        simp -failIfUnchanged only [↓RA, ↓RI, RH, RB, RJ, RS, fx34, p1, p2, p3, p4, reduceIte, p5, p6, p7, p8, c3, c4]
        refine VSeq.step ?_
        simp -failIfUnchanged only [↓RA, ↓RI, RH, RB, RJ, RS, fx34, p1, p2, p3, p4, reduceIte, p5, p6, p7, p8, c3, c4]
        refine VSeq.step ?_
        simp -failIfUnchanged only [↓RA, ↓RI, RH, RB, RJ, RS, fx34, p1, p2, p3, p4, reduceIte, p5, p6, p7, p8, c3, c4]
        refine VSeq.nil (Nat.le_of_eq rfl) ?_
        simp -failIfUnchanged only [↓RA, ↓RI, RH, RB, RJ, RS, fx34, p1, p2, p3, p4, reduceIte, p5, p6, p7, p8, c3, c4]
        have h := run_some h
        obtain rfl : _ = r := h
        refine RetHB.l ?_
        simp -failIfUnchanged only [↓RA, ↓RI, RH, RB, RJ, RS, fx34, p1, p2, p3, p4, reduceIte, p5, p6, p7, p8, c3, c4]
  · replace h := RngI.pick (key := fun e => e.2.2) hI3 he3 hn3
    refine VSeq.step ?_
    simp -failIfUnchanged only [↓RA, ↓RI, RH, RB, RJ, RS, fx34, p1, p2, p3, p4, reduceIte, p5, p6, p7, p8]
    refine VSeq.nil (Nat.le_of_eq rfl) ?_
    simp -failIfUnchanged only [↓RA, ↓RI, RH, RB, RJ, RS, fx34, p1, p2, p3, p4, reduceIte, p5, p6, p7, p8]
    refine VSeq.step ?_
    simp -failIfUnchanged only [↓RA, ↓RI, RH, RB, RJ, RS, fx34, p1, p2, p3, p4, reduceIte, p5, p6, p7, p8]
    refine HandH.entry (kt := 14) (r := 0) (sh := .mp) (ps := []) (m := a0) (f := I) (e := e3) (s0 := pre3.map fun e => e.2.2) he3 (by simp -failIfUnchanged only [↓RA, ↓RI, RH, RB, RJ, RS, fx34, p1, p2, p3, p4, reduceIte, p5, p6, p7, p8]) ?_
    simp -failIfUnchanged only [↓RA, ↓RI, RH, RB, RJ, RS, fx34, p1, p2, p3, p4, reduceIte, p5, p6, p7, p8]
    refine VSeq.step ?_
    simp -failIfUnchanged only [↓RA, ↓RI, RH, RB, RJ, RS, fx34, p1, p2, p3, p4, reduceIte, p5, p6, p7, p8]
    refine VSeq.step ?_
    simp -failIfUnchanged only [↓RA, ↓RI, RH, RB, RJ, RS, fx34, p1, p2, p3, p4, reduceIte, p5, p6, p7, p8]
    refine VSeq.step ?_
    simp -failIfUnchanged only [↓RA, ↓RI, RH, RB, RJ, RS, fx34, p1, p2, p3, p4, reduceIte, p5, p6, p7, p8]
    refine VSeq.step ?_
    simp -failIfUnchanged only [↓RA, ↓RI, RH, RB, RJ, RS, fx34, p1, p2, p3, p4, reduceIte, p5, p6, p7, p8]
    refine VSeq.nil (Nat.le_of_eq rfl) ?_
    simp -failIfUnchanged only [↓RA, ↓RI, RH, RB, RJ, RS, fx34, p1, p2, p3, p4, reduceIte, p5, p6, p7, p8]
    refine VSeq.step ?_
    simp -failIfUnchanged only [↓RA, ↓RI, RH, RB, RJ, RS, fx34, p1, p2, p3, p4, reduceIte, p5, p6, p7, p8]
    refine VSeq.step ?_
    simp -failIfUnchanged only [↓RA, ↓RI, RH, RB, RJ, RS, fx34, p1, p2, p3, p4, reduceIte, p5, p6, p7, p8]
    refine VSeq.nil (Nat.le_of_eq rfl) ?_
    simp -failIfUnchanged only [↓RA, ↓RI, RH, RB, RJ, RS, fx34, p1, p2, p3, p4, reduceIte, p5, p6, p7, p8]
    refine CondH.mk (fun c1 => ?_) (fun c1 => ?_)
    · replace h := run_t c1 h
      simp -failIfUnchanged only [↓RA, ↓RI, RH, RB, RJ, RS, fx34, p1, p2, p3, p4, reduceIte, p5, p6, p7, p8, c1]
      have h := run_some h
      refine RdH.mk ⟨_, e3, he3, hn3, h, ?_⟩
      refine St.le_mk2 ?_
      simp -failIfUnchanged only [↓RA, ↓RI, RH, RB, RJ, RS, fx34, p1, p2, p3, p4, reduceIte, p5, p6, p7, p8, c1]
    · replace h := run_f c1 h
      simp -failIfUnchanged only [↓RA, ↓RI, RH, RB, RJ, RS, fx34, p1, p2, p3, p4, reduceIte, p5, p6, p7, p8, c1]
      refine VSeq.step ?_
      simp -failIfUnchanged only [↓RA, ↓RI, RH, RB, RJ, RS, fx34, p1, p2, p3, p4, reduceIte, p5, p6, p7, p8, c1]
      refine VSeq.step ?_
      simp -failIfUnchanged only [↓RA, ↓RI, RH, RB, RJ, RS, fx34, p1, p2, p3, p4, reduceIte, p5, p6, p7, p8, c1]
      refine VSeq.step ?_
      simp -failIfUnchanged only [↓RA, ↓RI, RH, RB, RJ, RS, fx34, p1, p2, p3, p4, reduceIte, p5, p6, p7, p8, c1]
      refine VSeq.step ?_
      simp -failIfUnchanged only [↓RA, ↓RI, RH, RB, RJ, RS, fx34, p1, p2, p3, p4, reduceIte, p5, p6, p7, p8, c1]
      repeat (first | with_reducible refine noR_and (by repeat (first | exact noR_empty _ _ | exact noR_nilS _ _ | refine noR_mk _ _ _ _ _ rfl ?_ | refine noR_mkS _ _ _ _ _ rfl ?_)) ?_ | with_reducible refine noC_and (by repeat (first | exact noC_empty _ _ (by simp -failIfUnchanged only [↓RA, ↓RI, RH, RB, RJ, RS, fx34, p1, p2, p3, p4, reduceIte, p5, p6, p7, p8]) | exact noC_nilS _ _ (by simp -failIfUnchanged only [↓RA, ↓RI, RH, RB, RJ, RS, fx34, p1, p2, p3, p4, reduceIte, p5, p6, p7, p8]) | refine noC_mk _ _ _ _ _ rfl ?_ | refine noC_mkS _ _ _ _ _ rfl ?_)) ?_ | with_reducible refine and_ac ?_ | with_reducible refine And.intro (a := _ = List.range _) (by rfl) ?_)
      refine VSeq.step ?_
      simp -failIfUnchanged only [↓RA, ↓RI, RH, RB, RJ, RS, fx34, p1, p2, p3, p4, reduceIte, p5, p6, p7, p8, c1]
      obtain ⟨v26, hv26, h⟩ := run_bind h
      refine AppH.mk (f := Sx) (fun _ => rfl) hv26 ?_ ?_ ?_ <;> simp -failIfUnchanged only [↓RA, ↓RI, RH, RB, RJ, RS, fx34, p1, p2, p3, p4, reduceIte, p5, p6, p7, p8, c1]
      repeat (first | with_reducible refine noR_and (by repeat (first | exact noR_empty _ _ | exact noR_nilS _ _ | refine noR_mk _ _ _ _ _ rfl ?_ | refine noR_mkS _ _ _ _ _ rfl ?_)) ?_ | with_reducible refine noC_and (by repeat (first | exact noC_empty _ _ (by simp -failIfUnchanged only [↓RA, ↓RI, RH, RB, RJ, RS, fx34, p1, p2, p3, p4, reduceIte, p5, p6, p7, p8]) | exact noC_nilS _ _ (by simp -failIfUnchanged only [↓RA, ↓RI, RH, RB, RJ, RS, fx34, p1, p2, p3, p4, reduceIte, p5, p6, p7, p8]) | refine noC_mk _ _ _ _ _ rfl ?_ | refine noC_mkS _ _ _ _ _ rfl ?_)) ?_ | with_reducible refine and_ac ?_ | with_reducible refine And.intro (a := _ = List.range _) (by rfl) ?_)
      refine VSeq.step ?_
      simp -failIfUnchanged only [↓RA, ↓RI, RH, RB, RJ, RS, fx34, p1, p2, p3, p4, reduceIte, p5, p6, p7, p8, c1]
      refine VSeq.step ?_
      simp -failIfUnchanged only [↓RA, ↓RI, RH, RB, RJ, RS, fx34, p1, p2, p3, p4, reduceIte, p5, p6, p7, p8, c1]
      refine VSeq.nil (Nat.le_of_eq rfl) ?_
      simp -failIfUnchanged only [↓RA, ↓RI, RH, RB, RJ, RS, fx34, p1, p2, p3, p4, reduceIte, p5, p6, p7, p8, c1]
      have h := run_some h
      refine RdH.mk ⟨_, e3, he3, hn3, h, ?_⟩
      refine St.le_trans (St.le_mk (S := [(0, .hold .mp [] (.mp (gmap I (a0).es) (a0).clock)), (4, .box (.node [(.pv (.sl true 1 [])), (.pv (.sl true 1 [])), (.pv (I (0 : Int)))])), (6, .box (.node [(.own 416), (.pv (.sl true 1 [])), (.pv (I a1))])), (14, .hold .ptr [] (.it 0 (a0).clock ((pre3.map fun e => e.2.2) ++ [e3.2.2]) (a0).clock)), (20000, gh 0)]) (O := [(416, (1, v26.map Sx))]) (by simp -failIfUnchanged only [↓RA, ↓RI, RH, RB, RJ, RS, fx34, p1, p2, p3, p4, reduceIte, p5, p6, p7, p8, c1]) (by simp -failIfUnchanged only [↓RA, ↓RI, RH, RB, RJ, RS, fx34, p1, p2, p3, p4, reduceIte, p5, p6, p7, p8, c1])) ?_
      refine St.le_rn 416 9309 (by decide) (by repeat (first | exact noC_empty _ _ (by simp -failIfUnchanged only [↓RA, ↓RI, RH, RB, RJ, RS, fx34, p1, p2, p3, p4, reduceIte, p5, p6, p7, p8]) | exact noC_nilS _ _ (by simp -failIfUnchanged only [↓RA, ↓RI, RH, RB, RJ, RS, fx34, p1, p2, p3, p4, reduceIte, p5, p6, p7, p8]) | refine noC_mk _ _ _ _ _ rfl ?_ | refine noC_mkS _ _ _ _ _ rfl ?_)) ?_
      refine St.le_mk2 ?_
      simp -failIfUnchanged only [↓RA, ↓RI, RH, RB, RJ, RS, fx34, p1, p2, p3, p4, reduceIte, p5, p6, p7, p8, c1]
theorem impl_linear_sat {a0 : GMap Int} {a1 : Int} {r : Linear × Bool} (h : impl_linear a0 a1 = some r) : SatH Try.prog 34 [] [(I a1)] .mp [] (.mp (gmap I a0.es) a0.clock) (.mp (gmap I a0.es) a0.clock) (.tup [((Linear.pv true) r.1), (B r.2)]) := impl_linearR_sat fun ord ho => linear_ord ho h

def fx21 := And.intro @ty_3 <| And.intro @zc_3 <| And.intro @z_3 <| And.intro @ty_9 <| And.intro @zc_9 <| And.intro @z_9 <| And.intro @u_9 <| And.intro @ty_22 <| And.intro @zc_22 <| And.intro @z_22 <| And.intro @es_22 <| And.intro @eb_22 <| And.intro @sl_22 <| And.intro @is_22 <| And.intro @el_22 <| And.intro @ze_22 <| And.intro @ez_22 <| And.intro @ty_23 <| And.intro @zc_23 <| And.intro @z_23 <| And.intro @es_23 <| And.intro @eb_23 <| And.intro @sl_23 <| And.intro @is_23 <| And.intro @el_23 <| And.intro @ze_23 <| And.intro @ez_23 <| And.intro @ty_27 <| And.intro @zc_27 <| And.intro @z_27 <| And.intro @fo_27_0 <| And.intro @fi_27_0 <| And.intro @ft_27_0 <| And.intro @fo_27_1 <| And.intro @fi_27_1 <| And.intro @ft_27_1 <| And.intro @fo_27_2 <| And.intro @fi_27_2 <| And.intro @ft_27_2 <| And.intro @lay_27 <| And.intro @ty_47 <| And.intro @ty_54 <| And.intro @zc_54 <| And.intro @z_54 <| And.intro @es_54 <| And.intro @eb_54 <| And.intro @sl_54 <| And.intro @is_54 <| And.intro @el_54 <| And.intro @ze_54 <| And.intro @ez_54 <| @mixedT
set_option maxHeartbeats 4000000 in
theorem impl_join_sat {a0 : Linear} {a1 : Linear}  {r : Linear × Bool} (h : impl_join a0 a1 = some r) : Sat Try.prog 21 [((Linear.pv false) a0), ((Linear.pv false) a1)] (.tup [((Linear.pv true) r.1), (B r.2)]) := by
  replace h := Run.of h
  unfold impl_join at h
  refine Sat.of_m (nt := 50) (rs := [.cell 4 27, .tmp 5]) (n := 100000) Try.func21 rfl rfl rfl rfl (by simp) ?_
  simp -failIfUnchanged only [↓RA, RH, RB, RS, fx21, p1, p2, p3, p4, reduceIte, p5, p6, p7, p8]
  repeat (first | with_reducible refine noR_and (by repeat (first | exact noR_empty _ _ | exact noR_nilS _ _ | refine noR_mk _ _ _ _ _ rfl ?_ | refine noR_mkS _ _ _ _ _ rfl ?_)) ?_ | with_reducible refine noC_and (by repeat (first | exact noC_empty _ _ (by simp -failIfUnchanged only [↓RA, RH, RB, RS, fx21, p1, p2, p3, p4, reduceIte, p5, p6, p7, p8]) | exact noC_nilS _ _ (by simp -failIfUnchanged only [↓RA, RH, RB, RS, fx21, p1, p2, p3, p4, reduceIte, p5, p6, p7, p8]) | refine noC_mk _ _ _ _ _ rfl ?_ | refine noC_mkS _ _ _ _ _ rfl ?_)) ?_ | with_reducible refine and_ac ?_ | with_reducible refine And.intro (a := _ = List.range _) (by rfl) ?_)
  refine HandH.makeMap (α := Int) I (by decide) ?_
  simp -failIfUnchanged only [↓RA, RH, RB, RS, fx21, p1, p2, p3, p4, reduceIte, p5, p6, p7, p8]
  repeat (first | with_reducible refine noR_and (by repeat (first | exact noR_empty _ _ | exact noR_nilS _ _ | refine noR_mk _ _ _ _ _ rfl ?_ | refine noR_mkS _ _ _ _ _ rfl ?_)) ?_ | with_reducible refine noC_and (by repeat (first | exact noC_empty _ _ (by simp -failIfUnchanged only [↓RA, RH, RB, RS, fx21, p1, p2, p3, p4, reduceIte, p5, p6, p7, p8]) | exact noC_nilS _ _ (by simp -failIfUnchanged only [↓RA, RH, RB, RS, fx21, p1, p2, p3, p4, reduceIte, p5, p6, p7, p8]) | refine noC_mk _ _ _ _ _ rfl ?_ | refine noC_mkS _ _ _ _ _ rfl ?_)) ?_ | with_reducible refine and_ac ?_ | with_reducible refine And.intro (a := _ = List.range _) (by rfl) ?_)
  refine Mg.know_own (sz := 3) (es := ([a0, a1]).map (Linear.pv false)) 224 (by simp -failIfUnchanged only [↓RA, RH, RB, RS, fx21, p1, p2, p3, p4, reduceIte, p5, p6, p7, p8]) fun hl224 => ?_; rw [List.length_map] at hl224
  replace h := run_loop h
  refine Mg.forN h (fun i3 s3 => [(2, .box (.pv ((Linear.pv false) a0))), (3, .box (.pv ((Linear.pv false) a1))), (4, .box (.node [(.pv (.sl true 1 [])), (.pv (.sl true 1 [])), (.pv (I (0 : Int)))])), (6, .hptr 11 .mp []), (11, .hold .mp [] (.mp (gmap I (s3).es) (s3).clock)), (14, .val (.own 224)), (15, .val (.pv (I (([a0, a1]).length : Int)))), (16, .val (.pv (I (i3 : Int))))]) (fun i3 s3 => [(224, (3, ([a0, a1]).map (Linear.pv false)))]) (St.le_mk2 (by simp -failIfUnchanged only [↓RA, RH, RB, RS, fx21, p1, p2, p3, p4, reduceIte, p5, p6, p7, p8])) (fun i3 s3 hi h => ?_) (fun s3 h => ?_)
  · have w3 := wrap_succ (i := i3) (by omega)
    simp -failIfUnchanged only [↓RA, RH, RB, RS, fx21, p1, p2, p3, p4, reduceIte, p5, p6, p7, p8]
    refine CondH.tt (decide_eq_true (by first | omega | (simp only [List.length_cons, List.length_nil] at *; omega))) (fun c1 => ?_)
    simp -failIfUnchanged only [↓RA, RH, RB, RS, fx21, p1, p2, p3, p4, reduceIte, p5, p6, p7, p8, c1]
    obtain ⟨v18, hv18, h⟩ := run_bind h
    refine IdxH.mk (f := (Linear.pv false)) hv18 ?_ ?_ <;> simp -failIfUnchanged only [↓RA, RH, RB, RS, fx21, p1, p2, p3, p4, reduceIte, p5, p6, p7, p8, c1]
    obtain ⟨v19, hv19, h⟩ := run_bind h
    refine EldH.mk (f := (Linear.pv false)) hv19 rfl ?_ ?_ <;> simp -failIfUnchanged only [↓RA, RH, RB, RS, fx21, p1, p2, p3, p4, reduceIte, p5, p6, p7, p8, c1]
    repeat (first | with_reducible refine noR_and (by repeat (first | exact noR_empty _ _ | exact noR_nilS _ _ | refine noR_mk _ _ _ _ _ rfl ?_ | refine noR_mkS _ _ _ _ _ rfl ?_)) ?_ | with_reducible refine noC_and (by repeat (first | exact noC_empty _ _ (by simp -failIfUnchanged only [↓RA, RH, RB, RS, fx21, p1, p2, p3, p4, reduceIte, p5, p6, p7, p8]) | exact noC_nilS _ _ (by simp -failIfUnchanged only [↓RA, RH, RB, RS, fx21, p1, p2, p3, p4, reduceIte, p5, p6, p7, p8]) | refine noC_mk _ _ _ _ _ rfl ?_ | refine noC_mkS _ _ _ _ _ rfl ?_)) ?_ | with_reducible refine and_ac ?_ | with_reducible refine And.intro (a := _ = List.range _) (by rfl) ?_)
    refine Mg.know_sl (b := false) (sz := 1) (es := v19.Vars.map Sx) 21 (by simp -failIfUnchanged only [↓RA, RH, RB, RS, fx21, p1, p2, p3, p4, reduceIte, p5, p6, p7, p8, c1]) fun hl21 => ?_; rw [List.length_map] at hl21
    replace h := run_loop h
    refine Mg.forN h (fun i6 s6 => [(2, .box (.pv ((Linear.pv false) a0))), (3, .box (.pv ((Linear.pv false) a1))), (4, .box (.node [(.pv (.sl true 1 [])), (.pv (.sl true 1 [])), (.pv (I (0 : Int)))])), (6, .hptr 11 .mp []), (8, .box (.pv ((Linear.pv false) v19))), (11, .hold .mp [] (.mp (gmap I (s6).es) (s6).clock)), (14, .val (.own 224)), (15, .val (.pv (I (([a0, a1]).length : Int)))), (16, .val (.pv (I (i3 : Int)))), (21, .val (.pv (.sl false 1 (v19.Vars.map Sx)))), (22, .val (.pv (I (v19.Vars.length : Int)))), (23, .val (.pv (I (i6 : Int))))]) (fun i6 s6 => [(224, (3, ([a0, a1]).map (Linear.pv false)))]) (St.le_mk2 (by simp -failIfUnchanged only [↓RA, RH, RB, RS, fx21, p1, p2, p3, p4, reduceIte, p5, p6, p7, p8, c1])) (fun i6 s6 hi h => ?_) (fun s6 h => ?_)
    · have w6 := wrap_succ (i := i6) (by omega)
      simp -failIfUnchanged only [↓RA, RH, RB, RS, fx21, p1, p2, p3, p4, reduceIte, p5, p6, p7, p8, c1]
      refine CondH.tt (decide_eq_true (by omega)) (fun c2 => ?_)
      simp -failIfUnchanged only [↓RA, RH, RB, RS, fx21, p1, p2, p3, p4, reduceIte, p5, p6, p7, p8, c1, c2]
      obtain ⟨v26, hv26, h⟩ := run_bind h
      refine IdxH.mk (f := Sx) hv26 ?_ ?_ <;> simp -failIfUnchanged only [↓RA, RH, RB, RS, fx21, p1, p2, p3, p4, reduceIte, p5, p6, p7, p8, c1, c2]
      refine HandH.lookup (E := 3) (r := 11) (sh := .mp) (ps := []) (m := s6) (f := I) (k := v26) (z0 := (0 : Int)) mt_47 mz_3 (by simp -failIfUnchanged only [↓RA, RH, RB, RS, fx21, p1, p2, p3, p4, reduceIte, p5, p6, p7, p8, c1, c2]) ?_
      simp -failIfUnchanged only [↓RA, RH, RB, RS, fx21, p1, p2, p3, p4, reduceIte, p5, p6, p7, p8, c1, c2]
      obtain ⟨v36, hv36, h⟩ := run_bind h
      refine IdxH.mk (f := I) hv36 ?_ ?_ <;> simp -failIfUnchanged only [↓RA, RH, RB, RS, fx21, p1, p2, p3, p4, reduceIte, p5, p6, p7, p8, c1, c2]
      refine HandH.put (E := 3) (r := 11) (sh := .mp) (ps := []) (m := s6) (f := I) (k := v26) (v0 := max (GMap.get s6 v26 (0 : Int)) v36) (c := (.pv (I (max (GMap.get s6 v26 (0 : Int)) v36)))) mt_47 (by simp -failIfUnchanged only [↓RA, RH, RB, RS, fx21, p1, p2, p3, p4, reduceIte, p5, p6, p7, p8, c1, c2]) ?_
      simp -failIfUnchanged only [↓RA, RH, RB, RS, fx21, p1, p2, p3, p4, reduceIte, p5, p6, p7, p8, c1, c2]
      refine And.intro (DrawH.none (by rfl) (by first | rfl | (simp -failIfUnchanged only [↓RA, RH, RB, RS, fx21, p1, p2, p3, p4, reduceIte, p5, p6, p7, p8] <;> rfl)) (by first | rfl | (simp -failIfUnchanged only [↓RA, RH, RB, RS, fx21, p1, p2, p3, p4, reduceIte, p5, p6, p7, p8] <;> rfl)) (by first | rfl | (simp -failIfUnchanged only [↓RA, RH, RB, RS, fx21, p1, p2, p3, p4, reduceIte, p5, p6, p7, p8] <;> rfl))) ?_
      simp -failIfUnchanged only [↓RA, RH, RB, RS, fx21, p1, p2, p3, p4, reduceIte, p5, p6, p7, p8, c1, c2]
      have h := run_some h
      refine RdH.mk ⟨_, h, ?_⟩
      refine St.le_mk2 ?_
      simp -failIfUnchanged only [↓RA, RH, RB, RS, fx21, p1, p2, p3, p4, reduceIte, p5, p6, p7, p8, c1, c2, w6]
    · simp -failIfUnchanged only [↓RA, RH, RB, RS, fx21, p1, p2, p3, p4, reduceIte, p5, p6, p7, p8, c1]
      refine CondH.ff (decide_eq_false (by omega)) (fun c3 => ?_)
      simp -failIfUnchanged only [↓RA, RH, RB, RS, fx21, p1, p2, p3, p4, reduceIte, p5, p6, p7, p8, c1, c3]
      have h := run_some h
      refine RdH.mk ⟨_, h, ?_⟩
      refine St.le_mk2 ?_
      simp -failIfUnchanged only [↓RA, RH, RB, RS, fx21, p1, p2, p3, p4, reduceIte, p5, p6, p7, p8, c1, c3, w3]
  · simp -failIfUnchanged only [↓RA, RH, RB, RS, fx21, p1, p2, p3, p4, reduceIte, p5, p6, p7, p8]
    refine CondH.ff (decide_eq_false (by first | omega | (simp only [List.length_cons, List.length_nil] at *; omega))) (fun c4 => ?_)
    simp -failIfUnchanged only [↓RA, RH, RB, RS, fx21, p1, p2, p3, p4, reduceIte, p5, p6, p7, p8, c4]
    obtain ⟨v47, hv47, h⟩ := run_bind h
    refine HandH.call (r := 11) (hc := .mp (gmap I (s3).es) (s3).clock) 0 [] [_] [] [(.pv (I (max a0.Constant a1.Constant)))] [false] (impl_linear_sat hv47) rfl rfl rfl ?_ ?_ <;> simp -failIfUnchanged only [↓RA, RH, RB, RS, fx21, p1, p2, p3, p4, reduceIte, p5, p6, p7, p8, c4]
    repeat (first | with_reducible refine noR_and (by repeat (first | exact noR_empty _ _ | exact noR_nilS _ _ | refine noR_mk _ _ _ _ _ rfl ?_ | refine noR_mkS _ _ _ _ _ rfl ?_)) ?_ | with_reducible refine noC_and (by repeat (first | exact noC_empty _ _ (by simp -failIfUnchanged only [↓RA, RH, RB, RS, fx21, p1, p2, p3, p4, reduceIte, p5, p6, p7, p8]) | exact noC_nilS _ _ (by simp -failIfUnchanged only [↓RA, RH, RB, RS, fx21, p1, p2, p3, p4, reduceIte, p5, p6, p7, p8]) | refine noC_mk _ _ _ _ _ rfl ?_ | refine noC_mkS _ _ _ _ _ rfl ?_)) ?_ | with_reducible refine and_ac ?_ | with_reducible refine And.intro (a := _ = List.range _) (by rfl) ?_)
    have h := run_some h
    obtain rfl : _ = r := h
    refine FinH.l ?_
    simp -failIfUnchanged only [↓RA, RH, RB, RS, fx21, p1, p2, p3, p4, reduceIte, p5, p6, p7, p8, c4]

def fx8 := And.intro @ty_4 <| And.intro @zc_4 <| And.intro @z_4 <| And.intro @u_4 <| And.intro @ty_27 <| And.intro @zc_27 <| And.intro @z_27 <| And.intro @fo_27_0 <| And.intro @fi_27_0 <| And.intro @ft_27_0 <| And.intro @fo_27_1 <| And.intro @fi_27_1 <| And.intro @ft_27_1 <| And.intro @fo_27_2 <| And.intro @fi_27_2 <| And.intro @ft_27_2 <| @lay_27
set_option maxHeartbeats 4000000 in
theorem impl_JoinLinear_sat {a0 : Linear} {a1 : Linear}  {r : Linear × Bool} (h : impl_JoinLinear a0 a1 = some r) : Sat Try.prog 8 [((Linear.pv false) a0), ((Linear.pv false) a1)] (.tup [((Linear.pv true) r.1), (B r.2)]) := by
  replace h := Run.of h
  unfold impl_JoinLinear at h
  refine Sat.of_m (nt := 20) (rs := [.cell 4 27, .tmp 5]) (n := 100000) Try.func8 rfl rfl rfl rfl (by simp) ?_
  simp -failIfUnchanged only [↓RA, RB, RS, fx8, p1, p2, p3, p4, reduceIte, p5, p6, p7, p8]
  repeat (first | with_reducible refine noR_and (by repeat (first | exact noR_empty _ _ | exact noR_nilS _ _ | refine noR_mk _ _ _ _ _ rfl ?_ | refine noR_mkS _ _ _ _ _ rfl ?_)) ?_ | with_reducible refine noC_and (by repeat (first | exact noC_empty _ _ (by simp -failIfUnchanged only [↓RA, RB, RS, fx8, p1, p2, p3, p4, reduceIte, p5, p6, p7, p8]) | exact noC_nilS _ _ (by simp -failIfUnchanged only [↓RA, RB, RS, fx8, p1, p2, p3, p4, reduceIte, p5, p6, p7, p8]) | refine noC_mk _ _ _ _ _ rfl ?_ | refine noC_mkS _ _ _ _ _ rfl ?_)) ?_ | with_reducible refine and_ac ?_ | with_reducible refine And.intro (a := _ = List.range _) (by rfl) ?_)
  obtain ⟨v7, hv7, h⟩ := run_bind h
  refine CallH.mk [false] (impl_IsValidLinear_sat hv7) ?_ ?_ <;> simp -failIfUnchanged only [↓RA, RB, RS, fx8, p1, p2, p3, p4, reduceIte, p5, p6, p7, p8]
  refine CondH.mk (fun c1 => ?_) (fun c1 => ?_)
  · replace h := run_t c1 h
    simp -failIfUnchanged only [↓RA, RB, RS, fx8, p1, p2, p3, p4, reduceIte, p5, p6, p7, p8, c1]
    obtain ⟨v11, hv11, h⟩ := run_bind h
    refine CallH.mk [false] (impl_IsValidLinear_sat hv11) ?_ ?_ <;> simp -failIfUnchanged only [↓RA, RB, RS, fx8, p1, p2, p3, p4, reduceIte, p5, p6, p7, p8, c1]
    refine CondH.mk (fun c2 => ?_) (fun c2 => ?_)
    · replace h := run_t c2 h
      simp -failIfUnchanged only [↓RA, RB, RS, fx8, p1, p2, p3, p4, reduceIte, p5, p6, p7, p8, c1, c2]
      obtain ⟨v17, hv17, h⟩ := run_bind h
      refine CallH.mk [false, false] (impl_join_sat hv17) ?_ ?_ <;> simp -failIfUnchanged only [↓RA, RB, RS, fx8, p1, p2, p3, p4, reduceIte, p5, p6, p7, p8, c1, c2]
      repeat (first | with_reducible refine noR_and (by repeat (first | exact noR_empty _ _ | exact noR_nilS _ _ | refine noR_mk _ _ _ _ _ rfl ?_ | refine noR_mkS _ _ _ _ _ rfl ?_)) ?_ | with_reducible refine noC_and (by repeat (first | exact noC_empty _ _ (by simp -failIfUnchanged only [↓RA, RB, RS, fx8, p1, p2, p3, p4, reduceIte, p5, p6, p7, p8]) | exact noC_nilS _ _ (by simp -failIfUnchanged only [↓RA, RB, RS, fx8, p1, p2, p3, p4, reduceIte, p5, p6, p7, p8]) | refine noC_mk _ _ _ _ _ rfl ?_ | refine noC_mkS _ _ _ _ _ rfl ?_)) ?_ | with_reducible refine and_ac ?_ | with_reducible refine And.intro (a := _ = List.range _) (by rfl) ?_)
      have h := run_some h
      obtain rfl : _ = r := h
      refine FinH.l ?_
      simp -failIfUnchanged only [↓RA, RB, RS, fx8, p1, p2, p3, p4, reduceIte, p5, p6, p7, p8, c1, c2]
    · replace h := run_f c2 h
      simp -failIfUnchanged only [↓RA, RB, RS, fx8, p1, p2, p3, p4, reduceIte, p5, p6, p7, p8, c1, c2]
      have h := run_some h
      obtain rfl : _ = r := h
      refine FinH.l ?_
      simp -failIfUnchanged only [↓RA, RB, RS, fx8, p1, p2, p3, p4, reduceIte, p5, p6, p7, p8, c1, c2]
  · replace h := run_f c1 h
    simp -failIfUnchanged only [↓RA, RB, RS, fx8, p1, p2, p3, p4, reduceIte, p5, p6, p7, p8, c1]
    have h := run_some h
    obtain rfl : _ = r := h
    refine FinH.l ?_
    simp -failIfUnchanged only [↓RA, RB, RS, fx8, p1, p2, p3, p4, reduceIte, p5, p6, p7, p8, c1]

def fx22 := And.intro @ty_3 <| And.intro @zc_3 <| And.intro @z_3 <| And.intro @ty_9 <| And.intro @zc_9 <| And.intro @z_9 <| And.intro @u_9 <| And.intro @ty_22 <| And.intro @zc_22 <| And.intro @z_22 <| And.intro @es_22 <| And.intro @eb_22 <| And.intro @sl_22 <| And.intro @is_22 <| And.intro @el_22 <| And.intro @ze_22 <| And.intro @ez_22 <| @mixedT
set_option maxHeartbeats 4000000 in
theorem eqStringS_sat {a0 : List ByteArray} {a1 : List ByteArray}  {r : Bool} (h : eqStringS a0 a1 = some r) : Sat Try.prog 22 [(.sl false 1 (a0.map Sx)), (.sl false 1 (a1.map Sx))] (B r) := by
  replace h := Run.of h
  unfold eqStringS at h
  refine Sat.of_m (nt := 26) (rs := [.tmp 4]) (n := 100000) Try.func22 rfl rfl rfl rfl (by simp) ?_
  simp -failIfUnchanged only [↓RA, RB, RS, fx22, p1, p2, p3, p4, reduceIte, p5, p6, p7, p8]
  refine CondH.mk (fun c1 => ?_) (fun c1 => ?_)
  · replace h := run_t c1 h
    simp -failIfUnchanged only [↓RA, RB, RS, fx22, p1, p2, p3, p4, reduceIte, p5, p6, p7, p8, c1]
    refine Mg.know_sl (b := false) (sz := 1) (es := a0.map Sx) 0 (by simp -failIfUnchanged only [↓RA, RB, RS, fx22, p1, p2, p3, p4, reduceIte, p5, p6, p7, p8, c1]) fun hl0 => ?_; rw [List.length_map] at hl0
    replace h := run_loop h
    refine Mg.forN h (fun i4 s4 => [(0, .val (.pv (.sl false 1 (a0.map Sx)))), (1, .val (.pv (.sl false 1 (a1.map Sx)))), (5, .val (.pv (I (i4 : Int))))]) (fun i4 s4 => []) (St.le_mk2 (by simp -failIfUnchanged only [↓RA, RB, RS, fx22, p1, p2, p3, p4, reduceIte, p5, p6, p7, p8, c1])) (fun i4 s4 hi h => ?_) (fun s4 h => ?_)
    · have w4 := wrap_succ (i := i4) (by omega)
      simp -failIfUnchanged only [↓RA, RB, RS, fx22, p1, p2, p3, p4, reduceIte, p5, p6, p7, p8, c1]
      refine CondH.tt (decide_eq_true (by omega)) (fun c2 => ?_)
      simp -failIfUnchanged only [↓RA, RB, RS, fx22, p1, p2, p3, p4, reduceIte, p5, p6, p7, p8, c1, c2]
      obtain ⟨v19, hv19, h⟩ := run_bind h
      refine IdxH.mk (f := Sx) hv19 ?_ ?_ <;> simp -failIfUnchanged only [↓RA, RB, RS, fx22, p1, p2, p3, p4, reduceIte, p5, p6, p7, p8, c1, c2]
      obtain ⟨v23, hv23, h⟩ := run_bind h
      refine IdxH.mk (f := Sx) hv23 ?_ ?_ <;> simp -failIfUnchanged only [↓RA, RB, RS, fx22, p1, p2, p3, p4, reduceIte, p5, p6, p7, p8, c1, c2]
      refine And.intro (DrawH.none (by rfl) (by first | rfl | (simp -failIfUnchanged only [↓RA, RB, RS, fx22, p1, p2, p3, p4, reduceIte, p5, p6, p7, p8] <;> rfl)) (by first | rfl | (simp -failIfUnchanged only [↓RA, RB, RS, fx22, p1, p2, p3, p4, reduceIte, p5, p6, p7, p8] <;> rfl)) (by first | rfl | (simp -failIfUnchanged only [↓RA, RB, RS, fx22, p1, p2, p3, p4, reduceIte, p5, p6, p7, p8] <;> rfl))) ?_
      simp -failIfUnchanged only [↓RA, RB, RS, fx22, p1, p2, p3, p4, reduceIte, p5, p6, p7, p8, c1, c2]
      refine CondH.mk (fun c3 => ?_) (fun c3 => ?_)
      · replace h := run_t c3 h
        simp -failIfUnchanged only [↓RA, RB, RS, fx22, p1, p2, p3, p4, reduceIte, p5, p6, p7, p8, c1, c2, c3]
        have h := run_some h
        refine RdH.mk ⟨_, h, ?_⟩
        refine St.le_mk2 ?_
        simp -failIfUnchanged only [↓RA, RB, RS, fx22, p1, p2, p3, p4, reduceIte, p5, p6, p7, p8, c1, c2, c3, w4]
      · replace h := run_f c3 h
        simp -failIfUnchanged only [↓RA, RB, RS, fx22, p1, p2, p3, p4, reduceIte, p5, p6, p7, p8, c1, c2, c3]
        have h := run_some h
        obtain rfl : _ = r := h
        refine FinH.l ?_
        simp -failIfUnchanged only [↓RA, RB, RS, fx22, p1, p2, p3, p4, reduceIte, p5, p6, p7, p8, c1, c2, c3]
    · simp -failIfUnchanged only [↓RA, RB, RS, fx22, p1, p2, p3, p4, reduceIte, p5, p6, p7, p8, c1]
      refine CondH.ff (decide_eq_false (by omega)) (fun c4 => ?_)
      simp -failIfUnchanged only [↓RA, RB, RS, fx22, p1, p2, p3, p4, reduceIte, p5, p6, p7, p8, c1, c4]
      have h := run_some h
      obtain rfl : _ = r := h
      refine FinH.l ?_
      simp -failIfUnchanged only [↓RA, RB, RS, fx22, p1, p2, p3, p4, reduceIte, p5, p6, p7, p8, c1, c4]
  · replace h := run_f c1 h
    simp -failIfUnchanged only [↓RA, RB, RS, fx22, p1, p2, p3, p4, reduceIte, p5, p6, p7, p8, c1]
    have h := run_some h
    obtain rfl : _ = r := h
    refine FinH.l ?_
    simp -failIfUnchanged only [↓RA, RB, RS, fx22, p1, p2, p3, p4, reduceIte, p5, p6, p7, p8, c1]

def fx23 := And.intro @ty_3 <| And.intro @zc_3 <| And.intro @z_3 <| And.intro @ty_23 <| And.intro @zc_23 <| And.intro @z_23 <| And.intro @es_23 <| And.intro @eb_23 <| And.intro @sl_23 <| And.intro @is_23 <| And.intro @el_23 <| And.intro @ze_23 <| And.intro @ez_23 <| @mixedT
set_option maxHeartbeats 4000000 in
theorem eqIntS_sat {a0 : List Int} {a1 : List Int}  {r : Bool} (h : eqIntS a0 a1 = some r) : Sat Try.prog 23 [(.sl false 1 (a0.map I)), (.sl false 1 (a1.map I))] (B r) := by
  replace h := Run.of h
  unfold eqIntS at h
  refine Sat.of_m (nt := 26) (rs := [.tmp 4]) (n := 100000) Try.func23 rfl rfl rfl rfl (by simp) ?_
  simp -failIfUnchanged only [↓RA, RB, RS, fx23, p1, p2, p3, p4, reduceIte, p5, p6, p7, p8]
  refine CondH.mk (fun c1 => ?_) (fun c1 => ?_)
  · replace h := run_t c1 h
    simp -failIfUnchanged only [↓RA, RB, RS, fx23, p1, p2, p3, p4, reduceIte, p5, p6, p7, p8, c1]
    refine Mg.know_sl (b := false) (sz := 1) (es := a0.map I) 0 (by simp -failIfUnchanged only [↓RA, RB, RS, fx23, p1, p2, p3, p4, reduceIte, p5, p6, p7, p8, c1]) fun hl0 => ?_; rw [List.length_map] at hl0
    replace h := run_loop h
    refine Mg.forN h (fun i4 s4 => [(0, .val (.pv (.sl false 1 (a0.map I)))), (1, .val (.pv (.sl false 1 (a1.map I)))), (5, .val (.pv (I (i4 : Int))))]) (fun i4 s4 => []) (St.le_mk2 (by simp -failIfUnchanged only [↓RA, RB, RS, fx23, p1, p2, p3, p4, reduceIte, p5, p6, p7, p8, c1])) (fun i4 s4 hi h => ?_) (fun s4 h => ?_)
    · have w4 := wrap_succ (i := i4) (by omega)
      simp -failIfUnchanged only [↓RA, RB, RS, fx23, p1, p2, p3, p4, reduceIte, p5, p6, p7, p8, c1]
      refine CondH.tt (decide_eq_true (by omega)) (fun c2 => ?_)
      simp -failIfUnchanged only [↓RA, RB, RS, fx23, p1, p2, p3, p4, reduceIte, p5, p6, p7, p8, c1, c2]
      obtain ⟨v19, hv19, h⟩ := run_bind h
      refine IdxH.mk (f := I) hv19 ?_ ?_ <;> simp -failIfUnchanged only [↓RA, RB, RS, fx23, p1, p2, p3, p4, reduceIte, p5, p6, p7, p8, c1, c2]
      obtain ⟨v23, hv23, h⟩ := run_bind h
      refine IdxH.mk (f := I) hv23 ?_ ?_ <;> simp -failIfUnchanged only [↓RA, RB, RS, fx23, p1, p2, p3, p4, reduceIte, p5, p6, p7, p8, c1, c2]
      refine And.intro (DrawH.none (by rfl) (by first | rfl | (simp -failIfUnchanged only [↓RA, RB, RS, fx23, p1, p2, p3, p4, reduceIte, p5, p6, p7, p8] <;> rfl)) (by first | rfl | (simp -failIfUnchanged only [↓RA, RB, RS, fx23, p1, p2, p3, p4, reduceIte, p5, p6, p7, p8] <;> rfl)) (by first | rfl | (simp -failIfUnchanged only [↓RA, RB, RS, fx23, p1, p2, p3, p4, reduceIte, p5, p6, p7, p8] <;> rfl))) ?_
      simp -failIfUnchanged only [↓RA, RB, RS, fx23, p1, p2, p3, p4, reduceIte, p5, p6, p7, p8, c1, c2]
      refine CondH.mk (fun c3 => ?_) (fun c3 => ?_)
      · replace h := run_t c3 h
        simp -failIfUnchanged only [↓RA, RB, RS, fx23, p1, p2, p3, p4, reduceIte, p5, p6, p7, p8, c1, c2, c3]
        have h := run_some h
        refine RdH.mk ⟨_, h, ?_⟩
        refine St.le_mk2 ?_
        simp -failIfUnchanged only [↓RA, RB, RS, fx23, p1, p2, p3, p4, reduceIte, p5, p6, p7, p8, c1, c2, c3, w4]
      · replace h := run_f c3 h
        simp -failIfUnchanged only [↓RA, RB, RS, fx23, p1, p2, p3, p4, reduceIte, p5, p6, p7, p8, c1, c2, c3]
        have h := run_some h
        obtain rfl : _ = r := h
        refine FinH.l ?_
        simp -failIfUnchanged only [↓RA, RB, RS, fx23, p1, p2, p3, p4, reduceIte, p5, p6, p7, p8, c1, c2, c3]
    · simp -failIfUnchanged only [↓RA, RB, RS, fx23, p1, p2, p3, p4, reduceIte, p5, p6, p7, p8, c1]
      refine CondH.ff (decide_eq_false (by omega)) (fun c4 => ?_)
      simp -failIfUnchanged only [↓RA, RB, RS, fx23, p1, p2, p3, p4, reduceIte, p5, p6, p7, p8, c1, c4]
      have h := run_some h
      obtain rfl : _ = r := h
      refine FinH.l ?_
      simp -failIfUnchanged only [↓RA, RB, RS, fx23, p1, p2, p3, p4, reduceIte, p5, p6, p7, p8, c1, c4]
  · replace h := run_f c1 h
    simp -failIfUnchanged only [↓RA, RB, RS, fx23, p1, p2, p3, p4, reduceIte, p5, p6, p7, p8, c1]
    have h := run_some h
    obtain rfl : _ = r := h
    refine FinH.l ?_
    simp -failIfUnchanged only [↓RA, RB, RS, fx23, p1, p2, p3, p4, reduceIte, p5, p6, p7, p8, c1]

def fx9 := And.intro @ty_3 <| And.intro @zc_3 <| And.intro @z_3 <| And.intro @ty_4 <| And.intro @zc_4 <| And.intro @z_4 <| And.intro @u_4 <| And.intro @ty_22 <| And.intro @zc_22 <| And.intro @z_22 <| And.intro @es_22 <| And.intro @eb_22 <| And.intro @sl_22 <| And.intro @is_22 <| And.intro @el_22 <| And.intro @ze_22 <| And.intro @ez_22 <| And.intro @ty_23 <| And.intro @zc_23 <| And.intro @z_23 <| And.intro @es_23 <| And.intro @eb_23 <| And.intro @sl_23 <| And.intro @is_23 <| And.intro @el_23 <| And.intro @ze_23 <| And.intro @ez_23 <| And.intro @ty_27 <| And.intro @zc_27 <| And.intro @z_27 <| And.intro @fo_27_0 <| And.intro @fi_27_0 <| And.intro @ft_27_0 <| And.intro @fo_27_1 <| And.intro @fi_27_1 <| And.intro @ft_27_1 <| And.intro @fo_27_2 <| And.intro @fi_27_2 <| And.intro @ft_27_2 <| @lay_27
set_option maxHeartbeats 4000000 in
theorem eqLinear_sat {a0 : Linear} {a1 : Linear}  {r : Bool} (h : eqLinear a0 a1 = some r) : Sat Try.prog 9 [((Linear.pv false) a0), ((Linear.pv false) a1)] (B r) := by
  replace h := Run.of h
  unfold eqLinear at h
  refine Sat.of_m (nt := 22) (rs := [.tmp 4]) (n := 100000) Try.func9 rfl rfl rfl rfl (by simp) ?_
  simp -failIfUnchanged only [↓RA, RB, RS, fx9, p1, p2, p3, p4, reduceIte, p5, p6, p7, p8]
  repeat (first | with_reducible refine noR_and (by repeat (first | exact noR_empty _ _ | exact noR_nilS _ _ | refine noR_mk _ _ _ _ _ rfl ?_ | refine noR_mkS _ _ _ _ _ rfl ?_)) ?_ | with_reducible refine noC_and (by repeat (first | exact noC_empty _ _ (by simp -failIfUnchanged only [↓RA, RB, RS, fx9, p1, p2, p3, p4, reduceIte, p5, p6, p7, p8]) | exact noC_nilS _ _ (by simp -failIfUnchanged only [↓RA, RB, RS, fx9, p1, p2, p3, p4, reduceIte, p5, p6, p7, p8]) | refine noC_mk _ _ _ _ _ rfl ?_ | refine noC_mkS _ _ _ _ _ rfl ?_)) ?_ | with_reducible refine and_ac ?_ | with_reducible refine And.intro (a := _ = List.range _) (by rfl) ?_)
  obtain ⟨v9, hv9, h⟩ := run_bind h
  refine CallH.mk [false, false] (eqStringS_sat hv9) ?_ ?_ <;> simp -failIfUnchanged only [↓RA, RB, RS, fx9, p1, p2, p3, p4, reduceIte, p5, p6, p7, p8]
  refine CondH.mk (fun c1 => ?_) (fun c1 => ?_)
  · replace h := run_t c1 h
    simp -failIfUnchanged only [↓RA, RB, RS, fx9, p1, p2, p3, p4, reduceIte, p5, p6, p7, p8, c1]
    obtain ⟨v15, hv15, h⟩ := run_bind h
    refine CallH.mk [false, false] (eqIntS_sat hv15) ?_ ?_ <;> simp -failIfUnchanged only [↓RA, RB, RS, fx9, p1, p2, p3, p4, reduceIte, p5, p6, p7, p8, c1]
    refine CondH.mk (fun c2 => ?_) (fun c2 => ?_)
    · replace h := run_t c2 h
      simp -failIfUnchanged only [↓RA, RB, RS, fx9, p1, p2, p3, p4, reduceIte, p5, p6, p7, p8, c1, c2]
      refine CondH.mk (fun c3 => ?_) (fun c3 => ?_)
      · replace h := run_t c3 h
        simp -failIfUnchanged only [↓RA, RB, RS, fx9, p1, p2, p3, p4, reduceIte, p5, p6, p7, p8, c1, c2, c3]
        have h := run_some h
        obtain rfl : _ = r := h
        refine FinH.l ?_
        simp -failIfUnchanged only [↓RA, RB, RS, fx9, p1, p2, p3, p4, reduceIte, p5, p6, p7, p8, c1, c2, c3]
      · replace h := run_f c3 h
        simp -failIfUnchanged only [↓RA, RB, RS, fx9, p1, p2, p3, p4, reduceIte, p5, p6, p7, p8, c1, c2, c3]
        have h := run_some h
        obtain rfl : _ = r := h
        refine FinH.l ?_
        simp -failIfUnchanged only [↓RA, RB, RS, fx9, p1, p2, p3, p4, reduceIte, p5, p6, p7, p8, c1, c2, c3]
    · replace h := run_f c2 h
      simp -failIfUnchanged only [↓RA, RB, RS, fx9, p1, p2, p3, p4, reduceIte, p5, p6, p7, p8, c1, c2]
      have h := run_some h
      obtain rfl : _ = r := h
      refine FinH.l ?_
      simp -failIfUnchanged only [↓RA, RB, RS, fx9, p1, p2, p3, p4, reduceIte, p5, p6, p7, p8, c1, c2]
  · replace h := run_f c1 h
    simp -failIfUnchanged only [↓RA, RB, RS, fx9, p1, p2, p3, p4, reduceIte, p5, p6, p7, p8, c1]
    have h := run_some h
    obtain rfl : _ = r := h
    refine FinH.l ?_
    simp -failIfUnchanged only [↓RA, RB, RS, fx9, p1, p2, p3, p4, reduceIte, p5, p6, p7, p8, c1]

def fx39 := And.intro @ty_3 <| And.intro @zc_3 <| And.intro @z_3 <| And.intro @ty_5 <| And.intro @zc_5 <| And.intro @z_5 <| And.intro @ty_9 <| And.intro @zc_9 <| And.intro @z_9 <| And.intro @u_9 <| And.intro @ty_61 <| And.intro @zc_61 <| And.intro @z_61 <| And.intro @es_61 <| And.intro @eb_61 <| And.intro @sl_61 <| And.intro @by_61 <| And.intro @is_61 <| And.intro @el_61 <| And.intro @ze_61 <| And.intro @ez_61 <| And.intro @uk_3 <| And.intro @uk_5 <| @uk_9
set_option maxHeartbeats 4000000 in
theorem markText_sat {a0 : Int}  {r : ByteArray} (h : markText a0 = some r) : Sat Try.prog 39 [(I a0)] (Sx r) := by
  replace h := Run.of h
  unfold markText at h
  refine Sat.of_m (nt := 20) (rs := [.tmp 2]) (n := 100000) Try.func39 rfl rfl rfl rfl (by simp) ?_
  simp -failIfUnchanged only [↓RA, RB, RS, fx39, p1, p2, p3, p4, reduceIte, p5, p6, p7, p8]
  refine CondH.mk (fun c1 => ?_) (fun c1 => ?_)
  · replace h := run_t c1 h
    simp -failIfUnchanged only [↓RA, RB, RS, fx39, p1, p2, p3, p4, reduceIte, p5, p6, p7, p8, c1]
    have h := run_some h
    obtain rfl : _ = r := h
    refine FinH.l ?_
    simp -failIfUnchanged only [↓RA, RB, RS, fx39, p1, p2, p3, p4, reduceIte, p5, p6, p7, p8, c1]
  · replace h := run_f c1 h
    simp -failIfUnchanged only [↓RA, RB, RS, fx39, p1, p2, p3, p4, reduceIte, p5, p6, p7, p8, c1]
    replace h := run_loop h
    refine Mg.whileN h (fun s4 => [(0, .val (.pv (I s4.1))), (3, .val (.pv (Sx s4.2)))]) (fun s4 => []) (St.le_mk2 (by simp -failIfUnchanged only [↓RA, RB, RS, fx39, p1, p2, p3, p4, reduceIte, p5, p6, p7, p8, c1])) (fun n4 s4 h => ?_)
    simp -failIfUnchanged only [↓RA, RB, RS, fx39, p1, p2, p3, p4, reduceIte, p5, p6, p7, p8, c1]
    refine CondH.mk (fun c2 => ?_) (fun c2 => ?_)
    · replace h := run_t c2 h
      simp -failIfUnchanged only [↓RA, RB, RS, fx39, p1, p2, p3, p4, reduceIte, p5, p6, p7, p8, c1, c2]
      obtain ⟨v9, hv9, h⟩ := run_bind h
      refine remH.mk hv9 ?_
      simp -failIfUnchanged only [↓RA, RB, RS, fx39, p1, p2, p3, p4, reduceIte, p5, p6, p7, p8, c1, c2]
      repeat (first | with_reducible refine noR_and (by repeat (first | exact noR_empty _ _ | exact noR_nilS _ _ | refine noR_mk _ _ _ _ _ rfl ?_ | refine noR_mkS _ _ _ _ _ rfl ?_)) ?_ | with_reducible refine noC_and (by repeat (first | exact noC_empty _ _ (by simp -failIfUnchanged only [↓RA, RB, RS, fx39, p1, p2, p3, p4, reduceIte, p5, p6, p7, p8]) | exact noC_nilS _ _ (by simp -failIfUnchanged only [↓RA, RB, RS, fx39, p1, p2, p3, p4, reduceIte, p5, p6, p7, p8]) | refine noC_mk _ _ _ _ _ rfl ?_ | refine noC_mkS _ _ _ _ _ rfl ?_)) ?_ | with_reducible refine and_ac ?_ | with_reducible refine And.intro (a := _ = List.range _) (by rfl) ?_)
      obtain ⟨v13, hv13, h⟩ := run_bind h
      refine BstrH.mk hv13 ?_ ?_ <;> simp -failIfUnchanged only [↓RA, RB, RS, fx39, p1, p2, p3, p4, reduceIte, p5, p6, p7, p8, c1, c2]
      obtain ⟨v15, hv15, h⟩ := run_bind h
      refine SappH.mk hv15 ?_
      simp -failIfUnchanged only [↓RA, RB, RS, fx39, p1, p2, p3, p4, reduceIte, p5, p6, p7, p8, c1, c2]
      obtain ⟨v17, hv17, h⟩ := run_bind h
      refine quoH.mk hv17 ?_
      simp -failIfUnchanged only [↓RA, RB, RS, fx39, p1, p2, p3, p4, reduceIte, p5, p6, p7, p8, c1, c2]
      have h := run_some h
      refine RdH.mk ⟨_, h, ?_⟩
      refine St.le_mk2 ?_
      simp -failIfUnchanged only [↓RA, RB, RS, fx39, p1, p2, p3, p4, reduceIte, p5, p6, p7, p8, c1, c2]
    · replace h := run_f c2 h
      simp -failIfUnchanged only [↓RA, RB, RS, fx39, p1, p2, p3, p4, reduceIte, p5, p6, p7, p8, c1, c2]
      have h := run_some h
      obtain ⟨v19, hv19, h⟩ := run_bind h
      refine SappH.mk hv19 ?_
      simp -failIfUnchanged only [↓RA, RB, RS, fx39, p1, p2, p3, p4, reduceIte, p5, p6, p7, p8, c1, c2]
      have h := run_some h
      obtain rfl : _ = r := h
      refine FinH.l ?_
      simp -failIfUnchanged only [↓RA, RB, RS, fx39, p1, p2, p3, p4, reduceIte, p5, p6, p7, p8, c1, c2]

def fx24 := And.intro @ty_3 <| And.intro @zc_3 <| And.intro @z_3 <| And.intro @ty_9 <| And.intro @zc_9 <| And.intro @z_9 <| And.intro @u_9 <| And.intro @ty_22 <| And.intro @zc_22 <| And.intro @z_22 <| And.intro @es_22 <| And.intro @eb_22 <| And.intro @sl_22 <| And.intro @is_22 <| And.intro @el_22 <| And.intro @ze_22 <| @ez_22
set_option maxHeartbeats 4000000 in
theorem markStringS_sat {a0 : List ByteArray} {a1 : Int}  {r : Int × (List ByteArray)} (h : markStringS a0 a1 = some r) : SatIO Try.prog 24 [(.sl true 1 (a0.map Sx)), (I a1)] [(.sl true 1 (r.2.map Sx)), (I a1)] (I r.1) := by
  replace h := Run.of h
  unfold markStringS at h
  refine SatIO.of_m (nt := 20) (rs := [.tmp 4]) (n := 100000) Try.func24 rfl rfl rfl rfl (by simp) ?_
  simp -failIfUnchanged only [↓RA, ↓RI, RB, RJ, RS, fx24, p1, p2, p3, p4, reduceIte, p5, p6, p7, p8]
  replace h := run_loop h
  refine Mg.whileN h (fun s2 => [(0, .val (.own 10000)), (1, .val (.pv (I s2.2.1))), (5, .val (.pv (I s2.2.2)))]) (fun s2 => [(10000, (1, s2.1.map Sx))]) (St.le_mk2 (by simp -failIfUnchanged only [↓RA, ↓RI, RB, RJ, RS, fx24, p1, p2, p3, p4, reduceIte, p5, p6, p7, p8])) (fun n2 s2 h => ?_)
  simp -failIfUnchanged only [↓RA, ↓RI, RB, RJ, RS, fx24, p1, p2, p3, p4, reduceIte, p5, p6, p7, p8]
  refine CondH.mk (fun c1 => ?_) (fun c1 => ?_)
  · replace h := run_t c1 h
    simp -failIfUnchanged only [↓RA, ↓RI, RB, RJ, RS, fx24, p1, p2, p3, p4, reduceIte, p5, p6, p7, p8, c1]
    obtain ⟨v15, hv15, h⟩ := run_bind h
    refine CallH.mk [false] (markText_sat hv15) ?_ ?_ <;> simp -failIfUnchanged only [↓RA, ↓RI, RB, RJ, RS, fx24, p1, p2, p3, p4, reduceIte, p5, p6, p7, p8, c1]
    obtain ⟨v16, hv16, h⟩ := run_bind h
    refine IdxH.mk (f := Sx) hv16 ?_ ?_ <;> simp -failIfUnchanged only [↓RA, ↓RI, RB, RJ, RS, fx24, p1, p2, p3, p4, reduceIte, p5, p6, p7, p8, c1]
    obtain ⟨w2, hw2, h⟩ := run_bind h
    refine EldH.mk (f := Sx) hw2 rfl ?_ ?_ <;> simp -failIfUnchanged only [↓RA, ↓RI, RB, RJ, RS, fx24, p1, p2, p3, p4, reduceIte, p5, p6, p7, p8, c1]
    have h := run_some h
    refine RdH.mk ⟨_, h, ?_⟩
    refine St.le_mk2 ?_
    simp -failIfUnchanged only [↓RA, ↓RI, RB, RJ, RS, fx24, p1, p2, p3, p4, reduceIte, p5, p6, p7, p8, c1]
  · replace h := run_f c1 h
    simp -failIfUnchanged only [↓RA, ↓RI, RB, RJ, RS, fx24, p1, p2, p3, p4, reduceIte, p5, p6, p7, p8, c1]
    have h := run_some h
    have h := run_some h
    obtain rfl : _ = r := h
    refine FinIO.mk ?_
    simp -failIfUnchanged only [↓RA, ↓RI, RB, RJ, RS, fx24, p1, p2, p3, p4, reduceIte, p5, p6, p7, p8, c1]

def fx25 := And.intro @ty_3 <| And.intro @zc_3 <| And.intro @z_3 <| And.intro @ty_23 <| And.intro @zc_23 <| And.intro @z_23 <| And.intro @es_23 <| And.intro @eb_23 <| And.intro @sl_23 <| And.intro @is_23 <| And.intro @el_23 <| And.intro @ze_23 <| @ez_23
set_option maxHeartbeats 4000000 in
theorem markIntS_sat {a0 : List Int} {a1 : Int}  {r : Int × (List Int)} (h : markIntS a0 a1 = some r) : SatIO Try.prog 25 [(.sl true 1 (a0.map I)), (I a1)] [(.sl true 1 (r.2.map I)), (I a1)] (I r.1) := by
  replace h := Run.of h
  unfold markIntS at h
  refine SatIO.of_m (nt := 19) (rs := [.tmp 4]) (n := 100000) Try.func25 rfl rfl rfl rfl (by simp) ?_
  simp -failIfUnchanged only [↓RA, ↓RI, RB, RJ, RS, fx25, p1, p2, p3, p4, reduceIte, p5, p6, p7, p8]
  replace h := run_loop h
  refine Mg.whileN h (fun s2 => [(0, .val (.own 10000)), (1, .val (.pv (I s2.2.1))), (5, .val (.pv (I s2.2.2)))]) (fun s2 => [(10000, (1, s2.1.map I))]) (St.le_mk2 (by simp -failIfUnchanged only [↓RA, ↓RI, RB, RJ, RS, fx25, p1, p2, p3, p4, reduceIte, p5, p6, p7, p8])) (fun n2 s2 h => ?_)
  simp -failIfUnchanged only [↓RA, ↓RI, RB, RJ, RS, fx25, p1, p2, p3, p4, reduceIte, p5, p6, p7, p8]
  refine CondH.mk (fun c1 => ?_) (fun c1 => ?_)
  · replace h := run_t c1 h
    simp -failIfUnchanged only [↓RA, ↓RI, RB, RJ, RS, fx25, p1, p2, p3, p4, reduceIte, p5, p6, p7, p8, c1]
    obtain ⟨v15, hv15, h⟩ := run_bind h
    refine IdxH.mk (f := I) hv15 ?_ ?_ <;> simp -failIfUnchanged only [↓RA, ↓RI, RB, RJ, RS, fx25, p1, p2, p3, p4, reduceIte, p5, p6, p7, p8, c1]
    obtain ⟨w2, hw2, h⟩ := run_bind h
    refine EldH.mk (f := I) hw2 rfl ?_ ?_ <;> simp -failIfUnchanged only [↓RA, ↓RI, RB, RJ, RS, fx25, p1, p2, p3, p4, reduceIte, p5, p6, p7, p8, c1]
    have h := run_some h
    refine RdH.mk ⟨_, h, ?_⟩
    refine St.le_mk2 ?_
    simp -failIfUnchanged only [↓RA, ↓RI, RB, RJ, RS, fx25, p1, p2, p3, p4, reduceIte, p5, p6, p7, p8, c1]
  · replace h := run_f c1 h
    simp -failIfUnchanged only [↓RA, ↓RI, RB, RJ, RS, fx25, p1, p2, p3, p4, reduceIte, p5, p6, p7, p8, c1]
    have h := run_some h
    have h := run_some h
    obtain rfl : _ = r := h
    refine FinIO.mk ?_
    simp -failIfUnchanged only [↓RA, ↓RI, RB, RJ, RS, fx25, p1, p2, p3, p4, reduceIte, p5, p6, p7, p8, c1]

def fx10 := And.intro @ty_3 <| And.intro @zc_3 <| And.intro @z_3 <| And.intro @ty_22 <| And.intro @zc_22 <| And.intro @z_22 <| And.intro @es_22 <| And.intro @eb_22 <| And.intro @sl_22 <| And.intro @is_22 <| And.intro @el_22 <| And.intro @ze_22 <| And.intro @ez_22 <| And.intro @ty_23 <| And.intro @zc_23 <| And.intro @z_23 <| And.intro @es_23 <| And.intro @eb_23 <| And.intro @sl_23 <| And.intro @is_23 <| And.intro @el_23 <| And.intro @ze_23 <| And.intro @ez_23 <| And.intro @ty_27 <| And.intro @zc_27 <| And.intro @z_27 <| And.intro @fo_27_0 <| And.intro @fi_27_0 <| And.intro @ft_27_0 <| And.intro @fo_27_1 <| And.intro @fi_27_1 <| And.intro @ft_27_1 <| And.intro @fo_27_2 <| And.intro @fi_27_2 <| And.intro @ft_27_2 <| @lay_27
set_option maxHeartbeats 4000000 in
theorem markLinear_sat {a0 : Linear} {a1 : Int}  {r : Int × (List ByteArray) × (List Int)} (h : markLinear a0 a1 = some r) : SatIO Try.prog 10 [((Linear.pv true) a0), (I a1)] [((Linear.pv true) (Linear.mk r.2.1 r.2.2 a0.Constant)), (I a1)] (I r.1) := by
  replace h := Run.of h
  unfold markLinear at h
  refine SatIO.of_m (nt := 14) (rs := [.tmp 4]) (n := 100000) Try.func10 rfl rfl rfl rfl (by simp) ?_
  simp -failIfUnchanged only [↓RA, ↓RI, RB, RJ, RS, fx10, p1, p2, p3, p4, reduceIte, p5, p6, p7, p8]
  repeat (first | with_reducible refine noR_and (by repeat (first | exact noR_empty _ _ | exact noR_nilS _ _ | refine noR_mk _ _ _ _ _ rfl ?_ | refine noR_mkS _ _ _ _ _ rfl ?_)) ?_ | with_reducible refine noC_and (by repeat (first | exact noC_empty _ _ (by simp -failIfUnchanged only [↓RA, ↓RI, RB, RJ, RS, fx10, p1, p2, p3, p4, reduceIte, p5, p6, p7, p8]) | exact noC_nilS _ _ (by simp -failIfUnchanged only [↓RA, ↓RI, RB, RJ, RS, fx10, p1, p2, p3, p4, reduceIte, p5, p6, p7, p8]) | refine noC_mk _ _ _ _ _ rfl ?_ | refine noC_mkS _ _ _ _ _ rfl ?_)) ?_ | with_reducible refine and_ac ?_ | with_reducible refine And.intro (a := _ = List.range _) (by rfl) ?_)
  obtain ⟨v8, hv8, h⟩ := run_bind h
  refine CallH.io [(.own 10000), (.pv (I a1))] [(10000, (1, v8.2.map Sx))] (markStringS_sat hv8) ?_ ?_ <;> simp -failIfUnchanged only [↓RA, ↓RI, RB, RJ, RS, fx10, p1, p2, p3, p4, reduceIte, p5, p6, p7, p8]
  obtain ⟨v12, hv12, h⟩ := run_bind h
  refine CallH.io [(.own 10001), (.pv (I v8.1))] [(10001, (1, v12.2.map I))] (markIntS_sat hv12) ?_ ?_ <;> simp -failIfUnchanged only [↓RA, ↓RI, RB, RJ, RS, fx10, p1, p2, p3, p4, reduceIte, p5, p6, p7, p8]
  have h := run_some h
  obtain rfl : _ = r := h
  refine FinIO.mk ?_
  simp -failIfUnchanged only [↓RA, ↓RI, RB, RJ, RS, fx10, p1, p2, p3, p4, reduceIte, p5, p6, p7, p8]

def fx26 := And.intro @ty_3 <| And.intro @zc_3 <| And.intro @z_3 <| And.intro @ty_9 <| And.intro @zc_9 <| And.intro @z_9 <| And.intro @u_9 <| And.intro @ty_22 <| And.intro @zc_22 <| And.intro @z_22 <| And.intro @es_22 <| And.intro @eb_22 <| And.intro @sl_22 <| And.intro @is_22 <| And.intro @el_22 <| And.intro @ze_22 <| And.intro @ez_22 <| @mixedT
set_option maxHeartbeats 4000000 in
theorem heldStringS_sat {a0 : List ByteArray} {a1 : Int}  {r : Int} (h : heldStringS a0 a1 = some r) : Sat Try.prog 26 [(.sl false 1 (a0.map Sx)), (I a1)] (I r) := by
  replace h := Run.of h
  unfold heldStringS at h
  refine Sat.of_m (nt := 22) (rs := [.tmp 4]) (n := 100000) Try.func26 rfl rfl rfl rfl (by simp) ?_
  simp -failIfUnchanged only [↓RA, RB, RS, fx26, p1, p2, p3, p4, reduceIte, p5, p6, p7, p8]
  refine Mg.know_sl (b := false) (sz := 1) (es := a0.map Sx) 0 (by simp -failIfUnchanged only [↓RA, RB, RS, fx26, p1, p2, p3, p4, reduceIte, p5, p6, p7, p8]) fun hl0 => ?_; rw [List.length_map] at hl0
  replace h := run_loop h
  refine Mg.forN h (fun i2 s2 => [(0, .val (.pv (.sl false 1 (a0.map Sx)))), (1, .val (.pv (I s2))), (5, .val (.pv (I (i2 : Int))))]) (fun i2 s2 => []) (St.le_mk2 (by simp -failIfUnchanged only [↓RA, RB, RS, fx26, p1, p2, p3, p4, reduceIte, p5, p6, p7, p8])) (fun i2 s2 hi h => ?_) (fun s2 h => ?_)
  · have w2 := wrap_succ (i := i2) (by omega)
    simp -failIfUnchanged only [↓RA, RB, RS, fx26, p1, p2, p3, p4, reduceIte, p5, p6, p7, p8]
    refine CondH.tt (decide_eq_true (by omega)) (fun c1 => ?_)
    simp -failIfUnchanged only [↓RA, RB, RS, fx26, p1, p2, p3, p4, reduceIte, p5, p6, p7, p8, c1]
    obtain ⟨v14, hv14, h⟩ := run_bind h
    refine IdxH.mk (f := Sx) hv14 ?_ ?_ <;> simp -failIfUnchanged only [↓RA, RB, RS, fx26, p1, p2, p3, p4, reduceIte, p5, p6, p7, p8, c1]
    obtain ⟨v17, hv17, h⟩ := run_bind h
    refine CallH.mk [false] (markText_sat hv17) ?_ ?_ <;> simp -failIfUnchanged only [↓RA, RB, RS, fx26, p1, p2, p3, p4, reduceIte, p5, p6, p7, p8, c1]
    refine And.intro (DrawH.none (by rfl) (by first | rfl | (simp -failIfUnchanged only [↓RA, RB, RS, fx26, p1, p2, p3, p4, reduceIte, p5, p6, p7, p8] <;> rfl)) (by first | rfl | (simp -failIfUnchanged only [↓RA, RB, RS, fx26, p1, p2, p3, p4, reduceIte, p5, p6, p7, p8] <;> rfl)) (by first | rfl | (simp -failIfUnchanged only [↓RA, RB, RS, fx26, p1, p2, p3, p4, reduceIte, p5, p6, p7, p8] <;> rfl))) ?_
    simp -failIfUnchanged only [↓RA, RB, RS, fx26, p1, p2, p3, p4, reduceIte, p5, p6, p7, p8, c1]
    refine CondH.mk (fun c2 => ?_) (fun c2 => ?_)
    · replace h := run_t c2 h
      simp -failIfUnchanged only [↓RA, RB, RS, fx26, p1, p2, p3, p4, reduceIte, p5, p6, p7, p8, c1, c2]
      have h := run_some h
      refine RdH.mk ⟨_, h, ?_⟩
      refine St.le_mk2 ?_
      simp -failIfUnchanged only [↓RA, RB, RS, fx26, p1, p2, p3, p4, reduceIte, p5, p6, p7, p8, c1, c2, w2]
    · replace h := run_f c2 h
      simp -failIfUnchanged only [↓RA, RB, RS, fx26, p1, p2, p3, p4, reduceIte, p5, p6, p7, p8, c1, c2]
      have h := run_some h
      obtain rfl : _ = r := h
      refine FinH.l ?_
      simp -failIfUnchanged only [↓RA, RB, RS, fx26, p1, p2, p3, p4, reduceIte, p5, p6, p7, p8, c1, c2]
  · simp -failIfUnchanged only [↓RA, RB, RS, fx26, p1, p2, p3, p4, reduceIte, p5, p6, p7, p8]
    refine CondH.ff (decide_eq_false (by omega)) (fun c3 => ?_)
    simp -failIfUnchanged only [↓RA, RB, RS, fx26, p1, p2, p3, p4, reduceIte, p5, p6, p7, p8, c3]
    have h := run_some h
    obtain rfl : _ = r := h
    refine FinH.l ?_
    simp -failIfUnchanged only [↓RA, RB, RS, fx26, p1, p2, p3, p4, reduceIte, p5, p6, p7, p8, c3]

def fx27 := And.intro @ty_3 <| And.intro @zc_3 <| And.intro @z_3 <| And.intro @ty_23 <| And.intro @zc_23 <| And.intro @z_23 <| And.intro @es_23 <| And.intro @eb_23 <| And.intro @sl_23 <| And.intro @is_23 <| And.intro @el_23 <| And.intro @ze_23 <| @ez_23
set_option maxHeartbeats 4000000 in
theorem heldIntS_sat {a0 : List Int} {a1 : Int}  {r : Int} (h : heldIntS a0 a1 = some r) : Sat Try.prog 27 [(.sl false 1 (a0.map I)), (I a1)] (I r) := by
  replace h := Run.of h
  unfold heldIntS at h
  refine Sat.of_m (nt := 21) (rs := [.tmp 4]) (n := 100000) Try.func27 rfl rfl rfl rfl (by simp) ?_
  simp -failIfUnchanged only [↓RA, RB, RS, fx27, p1, p2, p3, p4, reduceIte, p5, p6, p7, p8]
  refine Mg.know_sl (b := false) (sz := 1) (es := a0.map I) 0 (by simp -failIfUnchanged only [↓RA, RB, RS, fx27, p1, p2, p3, p4, reduceIte, p5, p6, p7, p8]) fun hl0 => ?_; rw [List.length_map] at hl0
  replace h := run_loop h
  refine Mg.forN h (fun i2 s2 => [(0, .val (.pv (.sl false 1 (a0.map I)))), (1, .val (.pv (I s2))), (5, .val (.pv (I (i2 : Int))))]) (fun i2 s2 => []) (St.le_mk2 (by simp -failIfUnchanged only [↓RA, RB, RS, fx27, p1, p2, p3, p4, reduceIte, p5, p6, p7, p8])) (fun i2 s2 hi h => ?_) (fun s2 h => ?_)
  · have w2 := wrap_succ (i := i2) (by omega)
    simp -failIfUnchanged only [↓RA, RB, RS, fx27, p1, p2, p3, p4, reduceIte, p5, p6, p7, p8]
    refine CondH.tt (decide_eq_true (by omega)) (fun c1 => ?_)
    simp -failIfUnchanged only [↓RA, RB, RS, fx27, p1, p2, p3, p4, reduceIte, p5, p6, p7, p8, c1]
    obtain ⟨v14, hv14, h⟩ := run_bind h
    refine IdxH.mk (f := I) hv14 ?_ ?_ <;> simp -failIfUnchanged only [↓RA, RB, RS, fx27, p1, p2, p3, p4, reduceIte, p5, p6, p7, p8, c1]
    refine CondH.mk (fun c2 => ?_) (fun c2 => ?_)
    · replace h := run_t c2 h
      simp -failIfUnchanged only [↓RA, RB, RS, fx27, p1, p2, p3, p4, reduceIte, p5, p6, p7, p8, c1, c2]
      have h := run_some h
      refine RdH.mk ⟨_, h, ?_⟩
      refine St.le_mk2 ?_
      simp -failIfUnchanged only [↓RA, RB, RS, fx27, p1, p2, p3, p4, reduceIte, p5, p6, p7, p8, c1, c2, w2]
    · replace h := run_f c2 h
      simp -failIfUnchanged only [↓RA, RB, RS, fx27, p1, p2, p3, p4, reduceIte, p5, p6, p7, p8, c1, c2]
      have h := run_some h
      obtain rfl : _ = r := h
      refine FinH.l ?_
      simp -failIfUnchanged only [↓RA, RB, RS, fx27, p1, p2, p3, p4, reduceIte, p5, p6, p7, p8, c1, c2]
  · simp -failIfUnchanged only [↓RA, RB, RS, fx27, p1, p2, p3, p4, reduceIte, p5, p6, p7, p8]
    refine CondH.ff (decide_eq_false (by omega)) (fun c3 => ?_)
    simp -failIfUnchanged only [↓RA, RB, RS, fx27, p1, p2, p3, p4, reduceIte, p5, p6, p7, p8, c3]
    have h := run_some h
    obtain rfl : _ = r := h
    refine FinH.l ?_
    simp -failIfUnchanged only [↓RA, RB, RS, fx27, p1, p2, p3, p4, reduceIte, p5, p6, p7, p8, c3]

def fx11 := And.intro @ty_3 <| And.intro @zc_3 <| And.intro @z_3 <| And.intro @ty_22 <| And.intro @zc_22 <| And.intro @z_22 <| And.intro @es_22 <| And.intro @eb_22 <| And.intro @sl_22 <| And.intro @is_22 <| And.intro @el_22 <| And.intro @ze_22 <| And.intro @ez_22 <| And.intro @ty_23 <| And.intro @zc_23 <| And.intro @z_23 <| And.intro @es_23 <| And.intro @eb_23 <| And.intro @sl_23 <| And.intro @is_23 <| And.intro @el_23 <| And.intro @ze_23 <| And.intro @ez_23 <| And.intro @ty_27 <| And.intro @zc_27 <| And.intro @z_27 <| And.intro @fo_27_0 <| And.intro @fi_27_0 <| And.intro @ft_27_0 <| And.intro @fo_27_1 <| And.intro @fi_27_1 <| And.intro @ft_27_1 <| And.intro @fo_27_2 <| And.intro @fi_27_2 <| And.intro @ft_27_2 <| @lay_27
set_option maxHeartbeats 4000000 in
theorem heldLinear_sat {a0 : Linear} {a1 : Int}  {r : Int} (h : heldLinear a0 a1 = some r) : Sat Try.prog 11 [((Linear.pv false) a0), (I a1)] (I r) := by
  replace h := Run.of h
  unfold heldLinear at h
  refine Sat.of_m (nt := 18) (rs := [.tmp 4]) (n := 100000) Try.func11 rfl rfl rfl rfl (by simp) ?_
  simp -failIfUnchanged only [↓RA, RB, RS, fx11, p1, p2, p3, p4, reduceIte, p5, p6, p7, p8]
  repeat (first | with_reducible refine noR_and (by repeat (first | exact noR_empty _ _ | exact noR_nilS _ _ | refine noR_mk _ _ _ _ _ rfl ?_ | refine noR_mkS _ _ _ _ _ rfl ?_)) ?_ | with_reducible refine noC_and (by repeat (first | exact noC_empty _ _ (by simp -failIfUnchanged only [↓RA, RB, RS, fx11, p1, p2, p3, p4, reduceIte, p5, p6, p7, p8]) | exact noC_nilS _ _ (by simp -failIfUnchanged only [↓RA, RB, RS, fx11, p1, p2, p3, p4, reduceIte, p5, p6, p7, p8]) | refine noC_mk _ _ _ _ _ rfl ?_ | refine noC_mkS _ _ _ _ _ rfl ?_)) ?_ | with_reducible refine and_ac ?_ | with_reducible refine And.intro (a := _ = List.range _) (by rfl) ?_)
  obtain ⟨v8, hv8, h⟩ := run_bind h
  refine CallH.mk [false, false] (heldStringS_sat hv8) ?_ ?_ <;> simp -failIfUnchanged only [↓RA, RB, RS, fx11, p1, p2, p3, p4, reduceIte, p5, p6, p7, p8]
  refine CondH.mk (fun c1 => ?_) (fun c1 => ?_)
  · replace h := run_t c1 h
    simp -failIfUnchanged only [↓RA, RB, RS, fx11, p1, p2, p3, p4, reduceIte, p5, p6, p7, p8, c1]
    have h := run_some h
    obtain rfl : _ = r := h
    refine FinH.l ?_
    simp -failIfUnchanged only [↓RA, RB, RS, fx11, p1, p2, p3, p4, reduceIte, p5, p6, p7, p8, c1]
  · replace h := run_f c1 h
    simp -failIfUnchanged only [↓RA, RB, RS, fx11, p1, p2, p3, p4, reduceIte, p5, p6, p7, p8, c1]
    obtain ⟨v14, hv14, h⟩ := run_bind h
    refine CallH.mk [false, false] (heldIntS_sat hv14) ?_ ?_ <;> simp -failIfUnchanged only [↓RA, RB, RS, fx11, p1, p2, p3, p4, reduceIte, p5, p6, p7, p8, c1]
    refine CondH.mk (fun c2 => ?_) (fun c2 => ?_)
    · replace h := run_t c2 h
      simp -failIfUnchanged only [↓RA, RB, RS, fx11, p1, p2, p3, p4, reduceIte, p5, p6, p7, p8, c1, c2]
      have h := run_some h
      obtain rfl : _ = r := h
      refine FinH.l ?_
      simp -failIfUnchanged only [↓RA, RB, RS, fx11, p1, p2, p3, p4, reduceIte, p5, p6, p7, p8, c1, c2]
    · replace h := run_f c2 h
      simp -failIfUnchanged only [↓RA, RB, RS, fx11, p1, p2, p3, p4, reduceIte, p5, p6, p7, p8, c1, c2]
      have h := run_some h
      obtain rfl : _ = r := h
      refine FinH.l ?_
      simp -failIfUnchanged only [↓RA, RB, RS, fx11, p1, p2, p3, p4, reduceIte, p5, p6, p7, p8, c1, c2]

def fx3 := And.intro @ty_3 <| And.intro @zc_3 <| And.intro @z_3 <| And.intro @ty_4 <| And.intro @zc_4 <| And.intro @z_4 <| And.intro @u_4 <| And.intro @ty_25 <| And.intro @zc_25 <| And.intro @z_25 <| And.intro @fo_25_0 <| And.intro @fi_25_0 <| And.intro @ft_25_0 <| And.intro @fo_25_1 <| And.intro @fi_25_1 <| And.intro @ft_25_1 <| And.intro @fo_25_2 <| And.intro @fi_25_2 <| And.intro @ft_25_2 <| And.intro @lay_25 <| And.intro @ty_27 <| And.intro @zc_27 <| And.intro @z_27 <| And.intro @fo_27_0 <| And.intro @fi_27_0 <| And.intro @ft_27_0 <| And.intro @fo_27_1 <| And.intro @fi_27_1 <| And.intro @ft_27_1 <| And.intro @fo_27_2 <| And.intro @fi_27_2 <| And.intro @ft_27_2 <| And.intro @lay_27 <| @mixedT
set_option maxHeartbeats 4000000 in
theorem FnExactJoinLinear_sat {a0 : Linear} {a1 : Linear}  {r : Bool} (h : FnExactJoinLinear a0 a1 = some r) : Sat Try.prog 3 [((Linear.pv false) a0), ((Linear.pv false) a1)] (B r) := by
  replace h := Run.of h
  unfold FnExactJoinLinear at h
  refine Sat.of_m (nt := 119) (rs := [.tmp 4]) (n := 100000) Try.func3 rfl rfl rfl rfl (by simp) ?_
  simp -failIfUnchanged only [↓RA, RB, RJ, RS, fx3, p1, p2, p3, p4, reduceIte, p5, p6, p7, p8]
  repeat (first | with_reducible refine noR_and (by repeat (first | exact noR_empty _ _ | exact noR_nilS _ _ | refine noR_mk _ _ _ _ _ rfl ?_ | refine noR_mkS _ _ _ _ _ rfl ?_)) ?_ | with_reducible refine noC_and (by repeat (first | exact noC_empty _ _ (by simp -failIfUnchanged only [↓RA, RB, RJ, RS, fx3, p1, p2, p3, p4, reduceIte, p5, p6, p7, p8]) | exact noC_nilS _ _ (by simp -failIfUnchanged only [↓RA, RB, RJ, RS, fx3, p1, p2, p3, p4, reduceIte, p5, p6, p7, p8]) | refine noC_mk _ _ _ _ _ rfl ?_ | refine noC_mkS _ _ _ _ _ rfl ?_)) ?_ | with_reducible refine and_ac ?_ | with_reducible refine And.intro (a := _ = List.range _) (by rfl) ?_)
  obtain ⟨v19, hv19, h⟩ := run_bind h
  refine CallH.mk [false, false] (szLinear_sat hv19) ?_ ?_ <;> simp -failIfUnchanged only [↓RA, RB, RJ, RS, fx3, p1, p2, p3, p4, reduceIte, p5, p6, p7, p8]
  refine CondH.mk (fun c1 => ?_) (fun c1 => ?_)
  · replace h := run_t c1 h
    simp -failIfUnchanged only [↓RA, RB, RJ, RS, fx3, p1, p2, p3, p4, reduceIte, p5, p6, p7, p8, c1]
    have h := run_some h
    obtain rfl : _ = r := h
    refine FinH.l ?_
    simp -failIfUnchanged only [↓RA, RB, RJ, RS, fx3, p1, p2, p3, p4, reduceIte, p5, p6, p7, p8, c1]
  · replace h := run_f c1 h
    simp -failIfUnchanged only [↓RA, RB, RJ, RS, fx3, p1, p2, p3, p4, reduceIte, p5, p6, p7, p8, c1]
    obtain ⟨v24, hv24, h⟩ := run_bind h
    refine CallH.mk [false, false] (szLinear_sat hv24) ?_ ?_ <;> simp -failIfUnchanged only [↓RA, RB, RJ, RS, fx3, p1, p2, p3, p4, reduceIte, p5, p6, p7, p8, c1]
    refine CondH.mk (fun c2 => ?_) (fun c2 => ?_)
    · replace h := run_t c2 h
      simp -failIfUnchanged only [↓RA, RB, RJ, RS, fx3, p1, p2, p3, p4, reduceIte, p5, p6, p7, p8, c1, c2]
      have h := run_some h
      obtain rfl : _ = r := h
      refine FinH.l ?_
      simp -failIfUnchanged only [↓RA, RB, RJ, RS, fx3, p1, p2, p3, p4, reduceIte, p5, p6, p7, p8, c1, c2]
    · replace h := run_f c2 h
      simp -failIfUnchanged only [↓RA, RB, RJ, RS, fx3, p1, p2, p3, p4, reduceIte, p5, p6, p7, p8, c1, c2]
      obtain ⟨v29, hv29, h⟩ := run_bind h
      refine CallH.mk [false] (toLinear_sat hv29) ?_ ?_ <;> simp -failIfUnchanged only [↓RA, RB, RJ, RS, fx3, p1, p2, p3, p4, reduceIte, p5, p6, p7, p8, c1, c2]
      repeat (first | with_reducible refine noR_and (by repeat (first | exact noR_empty _ _ | exact noR_nilS _ _ | refine noR_mk _ _ _ _ _ rfl ?_ | refine noR_mkS _ _ _ _ _ rfl ?_)) ?_ | with_reducible refine noC_and (by repeat (first | exact noC_empty _ _ (by simp -failIfUnchanged only [↓RA, RB, RJ, RS, fx3, p1, p2, p3, p4, reduceIte, p5, p6, p7, p8]) | exact noC_nilS _ _ (by simp -failIfUnchanged only [↓RA, RB, RJ, RS, fx3, p1, p2, p3, p4, reduceIte, p5, p6, p7, p8]) | refine noC_mk _ _ _ _ _ rfl ?_ | refine noC_mkS _ _ _ _ _ rfl ?_)) ?_ | with_reducible refine and_ac ?_ | with_reducible refine And.intro (a := _ = List.range _) (by rfl) ?_)
      obtain ⟨v31, hv31, h⟩ := run_bind h
      refine CallH.mk [false] (toLinear_sat hv31) ?_ ?_ <;> simp -failIfUnchanged only [↓RA, RB, RJ, RS, fx3, p1, p2, p3, p4, reduceIte, p5, p6, p7, p8, c1, c2]
      repeat (first | with_reducible refine noR_and (by repeat (first | exact noR_empty _ _ | exact noR_nilS _ _ | refine noR_mk _ _ _ _ _ rfl ?_ | refine noR_mkS _ _ _ _ _ rfl ?_)) ?_ | with_reducible refine noC_and (by repeat (first | exact noC_empty _ _ (by simp -failIfUnchanged only [↓RA, RB, RJ, RS, fx3, p1, p2, p3, p4, reduceIte, p5, p6, p7, p8]) | exact noC_nilS _ _ (by simp -failIfUnchanged only [↓RA, RB, RJ, RS, fx3, p1, p2, p3, p4, reduceIte, p5, p6, p7, p8]) | refine noC_mk _ _ _ _ _ rfl ?_ | refine noC_mkS _ _ _ _ _ rfl ?_)) ?_ | with_reducible refine and_ac ?_ | with_reducible refine And.intro (a := _ = List.range _) (by rfl) ?_)
      obtain ⟨v32, hv32, h⟩ := run_bind h
      refine CallH.mk [true, true] (Sat.give (args := [(.agg [(.sl true 1 (v29.Vars.map Sx)), (.sl true 1 (v29.Slopes.map I)), (I v29.Constant)]), (.agg [(.sl true 1 (v31.Vars.map Sx)), (.sl true 1 (v31.Slopes.map I)), (I v31.Constant)])]) [true, true] (by have gg := spec_JoinLinear_sat hv32; simp only [gv_t, gv_f, gv_n, view_sl, view_agg, view_lit, PV.views, RB, RS] at gg ⊢; exact gg)) (by simp -failIfUnchanged only [↓RA, RB, RJ, RS, fx3, p1, p2, p3, p4, reduceIte, p5, p6, p7, p8, c1, c2]) ?_
      simp -failIfUnchanged only [↓RA, RB, RJ, RS, fx3, p1, p2, p3, p4, reduceIte, p5, p6, p7, p8, c1, c2]
      repeat (first | with_reducible refine noR_and (by repeat (first | exact noR_empty _ _ | exact noR_nilS _ _ | refine noR_mk _ _ _ _ _ rfl ?_ | refine noR_mkS _ _ _ _ _ rfl ?_)) ?_ | with_reducible refine noC_and (by repeat (first | exact noC_empty _ _ (by simp -failIfUnchanged only [↓RA, RB, RJ, RS, fx3, p1, p2, p3, p4, reduceIte, p5, p6, p7, p8]) | exact noC_nilS _ _ (by simp -failIfUnchanged only [↓RA, RB, RJ, RS, fx3, p1, p2, p3, p4, reduceIte, p5, p6, p7, p8]) | refine noC_mk _ _ _ _ _ rfl ?_ | refine noC_mkS _ _ _ _ _ rfl ?_)) ?_ | with_reducible refine and_ac ?_ | with_reducible refine And.intro (a := _ = List.range _) (by rfl) ?_)
      refine And.intro (DrawH.mk [6] [464, 465, 496, 497] (by rfl) (by first | rfl | (simp -failIfUnchanged only [↓RA, RB, RJ, RS, fx3, p1, p2, p3, p4, reduceIte, p5, p6, p7, p8] <;> rfl)) (by first | rfl | (simp -failIfUnchanged only [↓RA, RB, RJ, RS, fx3, p1, p2, p3, p4, reduceIte, p5, p6, p7, p8] <;> rfl)) (by first | rfl | (simp -failIfUnchanged only [↓RA, RB, RJ, RS, fx3, p1, p2, p3, p4, reduceIte, p5, p6, p7, p8] <;> rfl)) (by simp -failIfUnchanged only [↓RA, RB, RJ, RS, fx3, p1, p2, p3, p4, reduceIte, p5, p6, p7, p8]; (try refine ⟨?_, ?_⟩) <;> repeat (first | exact noR_empty _ _ | exact noR_nilS _ _ | refine noR_mk _ _ _ _ _ rfl ?_ | refine noR_mkS _ _ _ _ _ rfl ?_)) (by simp -failIfUnchanged only [↓RA, RB, RJ, RS, fx3, p1, p2, p3, p4, reduceIte, p5, p6, p7, p8]; repeat (first | exact noC_empty _ _ (by simp -failIfUnchanged only [↓RA, RB, RJ, RS, fx3, p1, p2, p3, p4, reduceIte, p5, p6, p7, p8]) | exact noC_nilS _ _ (by simp -failIfUnchanged only [↓RA, RB, RJ, RS, fx3, p1, p2, p3, p4, reduceIte, p5, p6, p7, p8]) | refine noC_mk _ _ _ _ _ rfl ?_ | refine noC_mkS _ _ _ _ _ rfl ?_ | refine And.intro ?_ ?_))) ?_
      simp -failIfUnchanged only [↓RA, RB, RJ, RS, fx3, p1, p2, p3, p4, reduceIte, p5, p6, p7, p8, c1, c2]
      obtain ⟨v36, hv36, h⟩ := run_bind h
      refine CallH.mk [false] (toLinear_sat hv36) ?_ ?_ <;> simp -failIfUnchanged only [↓RA, RB, RJ, RS, fx3, p1, p2, p3, p4, reduceIte, p5, p6, p7, p8, c1, c2]
      repeat (first | with_reducible refine noR_and (by repeat (first | exact noR_empty _ _ | exact noR_nilS _ _ | refine noR_mk _ _ _ _ _ rfl ?_ | refine noR_mkS _ _ _ _ _ rfl ?_)) ?_ | with_reducible refine noC_and (by repeat (first | exact noC_empty _ _ (by simp -failIfUnchanged only [↓RA, RB, RJ, RS, fx3, p1, p2, p3, p4, reduceIte, p5, p6, p7, p8]) | exact noC_nilS _ _ (by simp -failIfUnchanged only [↓RA, RB, RJ, RS, fx3, p1, p2, p3, p4, reduceIte, p5, p6, p7, p8]) | refine noC_mk _ _ _ _ _ rfl ?_ | refine noC_mkS _ _ _ _ _ rfl ?_)) ?_ | with_reducible refine and_ac ?_ | with_reducible refine And.intro (a := _ = List.range _) (by rfl) ?_)
      obtain ⟨v38, hv38, h⟩ := run_bind h
      refine CallH.mk [false] (toLinear_sat hv38) ?_ ?_ <;> simp -failIfUnchanged only [↓RA, RB, RJ, RS, fx3, p1, p2, p3, p4, reduceIte, p5, p6, p7, p8, c1, c2]
      repeat (first | with_reducible refine noR_and (by repeat (first | exact noR_empty _ _ | exact noR_nilS _ _ | refine noR_mk _ _ _ _ _ rfl ?_ | refine noR_mkS _ _ _ _ _ rfl ?_)) ?_ | with_reducible refine noC_and (by repeat (first | exact noC_empty _ _ (by simp -failIfUnchanged only [↓RA, RB, RJ, RS, fx3, p1, p2, p3, p4, reduceIte, p5, p6, p7, p8]) | exact noC_nilS _ _ (by simp -failIfUnchanged only [↓RA, RB, RJ, RS, fx3, p1, p2, p3, p4, reduceIte, p5, p6, p7, p8]) | refine noC_mk _ _ _ _ _ rfl ?_ | refine noC_mkS _ _ _ _ _ rfl ?_)) ?_ | with_reducible refine and_ac ?_ | with_reducible refine And.intro (a := _ = List.range _) (by rfl) ?_)
      obtain ⟨v42, hv42, h⟩ := run_bind h
      refine CallH.mk [false, false] (impl_JoinLinear_sat hv42) ?_ ?_ <;> simp -failIfUnchanged only [↓RA, RB, RJ, RS, fx3, p1, p2, p3, p4, reduceIte, p5, p6, p7, p8, c1, c2]
      repeat (first | with_reducible refine noR_and (by repeat (first | exact noR_empty _ _ | exact noR_nilS _ _ | refine noR_mk _ _ _ _ _ rfl ?_ | refine noR_mkS _ _ _ _ _ rfl ?_)) ?_ | with_reducible refine noC_and (by repeat (first | exact noC_empty _ _ (by simp -failIfUnchanged only [↓RA, RB, RJ, RS, fx3, p1, p2, p3, p4, reduceIte, p5, p6, p7, p8]) | exact noC_nilS _ _ (by simp -failIfUnchanged only [↓RA, RB, RJ, RS, fx3, p1, p2, p3, p4, reduceIte, p5, p6, p7, p8]) | refine noC_mk _ _ _ _ _ rfl ?_ | refine noC_mkS _ _ _ _ _ rfl ?_)) ?_ | with_reducible refine and_ac ?_ | with_reducible refine And.intro (a := _ = List.range _) (by rfl) ?_)
      obtain ⟨v47, hv47, h⟩ := run_bind h
      refine CallH.mk [false, false] (eqLinear_sat hv47) ?_ ?_ <;> simp -failIfUnchanged only [↓RA, RB, RJ, RS, fx3, p1, p2, p3, p4, reduceIte, p5, p6, p7, p8, c1, c2]
      refine CondH.mk (fun c3 => ?_) (fun c3 => ?_)
      · replace h := run_t c3 h
        simp -failIfUnchanged only [↓RA, RB, RJ, RS, fx3, p1, p2, p3, p4, reduceIte, p5, p6, p7, p8, c1, c2, c3]
        refine CondH.mk (fun c4 => ?_) (fun c4 => ?_)
        · replace h := run_t c4 h
          simp -failIfUnchanged only [↓RA, RB, RJ, RS, fx3, p1, p2, p3, p4, reduceIte, p5, p6, p7, p8, c1, c2, c3, c4]
          obtain ⟨v56, hv56, h⟩ := run_bind h
          refine CallH.mk [false] (toLinear_sat hv56) ?_ ?_ <;> simp -failIfUnchanged only [↓RA, RB, RJ, RS, fx3, p1, p2, p3, p4, reduceIte, p5, p6, p7, p8, c1, c2, c3, c4]
          repeat (first | with_reducible refine noR_and (by repeat (first | exact noR_empty _ _ | exact noR_nilS _ _ | refine noR_mk _ _ _ _ _ rfl ?_ | refine noR_mkS _ _ _ _ _ rfl ?_)) ?_ | with_reducible refine noC_and (by repeat (first | exact noC_empty _ _ (by simp -failIfUnchanged only [↓RA, RB, RJ, RS, fx3, p1, p2, p3, p4, reduceIte, p5, p6, p7, p8]) | exact noC_nilS _ _ (by simp -failIfUnchanged only [↓RA, RB, RJ, RS, fx3, p1, p2, p3, p4, reduceIte, p5, p6, p7, p8]) | refine noC_mk _ _ _ _ _ rfl ?_ | refine noC_mkS _ _ _ _ _ rfl ?_)) ?_ | with_reducible refine and_ac ?_ | with_reducible refine And.intro (a := _ = List.range _) (by rfl) ?_)
          obtain ⟨v57, hv57, h⟩ := run_bind h
          refine CallH.mk [false, false] (eqLinear_sat hv57) ?_ ?_ <;> simp -failIfUnchanged only [↓RA, RB, RJ, RS, fx3, p1, p2, p3, p4, reduceIte, p5, p6, p7, p8, c1, c2, c3, c4]
          refine And.intro (DrawH.mk [] [896, 897] (by rfl) (by first | rfl | (simp -failIfUnchanged only [↓RA, RB, RJ, RS, fx3, p1, p2, p3, p4, reduceIte, p5, p6, p7, p8] <;> rfl)) (by first | rfl | (simp -failIfUnchanged only [↓RA, RB, RJ, RS, fx3, p1, p2, p3, p4, reduceIte, p5, p6, p7, p8] <;> rfl)) (by first | rfl | (simp -failIfUnchanged only [↓RA, RB, RJ, RS, fx3, p1, p2, p3, p4, reduceIte, p5, p6, p7, p8] <;> rfl)) (by simp) (by simp -failIfUnchanged only [↓RA, RB, RJ, RS, fx3, p1, p2, p3, p4, reduceIte, p5, p6, p7, p8]; repeat (first | exact noC_empty _ _ (by simp -failIfUnchanged only [↓RA, RB, RJ, RS, fx3, p1, p2, p3, p4, reduceIte, p5, p6, p7, p8]) | exact noC_nilS _ _ (by simp -failIfUnchanged only [↓RA, RB, RJ, RS, fx3, p1, p2, p3, p4, reduceIte, p5, p6, p7, p8]) | refine noC_mk _ _ _ _ _ rfl ?_ | refine noC_mkS _ _ _ _ _ rfl ?_ | refine And.intro ?_ ?_))) ?_
          simp -failIfUnchanged only [↓RA, RB, RJ, RS, fx3, p1, p2, p3, p4, reduceIte, p5, p6, p7, p8, c1, c2, c3, c4]
          refine CondH.mk (fun c5 => ?_) (fun c5 => ?_)
          · replace h := run_t c5 h
            simp -failIfUnchanged only [↓RA, RB, RJ, RS, fx3, p1, p2, p3, p4, reduceIte, p5, p6, p7, p8, c1, c2, c3, c4, c5]
            obtain ⟨v61, hv61, h⟩ := run_bind h
            refine CallH.mk [false] (toLinear_sat hv61) ?_ ?_ <;> simp -failIfUnchanged only [↓RA, RB, RJ, RS, fx3, p1, p2, p3, p4, reduceIte, p5, p6, p7, p8, c1, c2, c3, c4, c5]
            repeat (first | with_reducible refine noR_and (by repeat (first | exact noR_empty _ _ | exact noR_nilS _ _ | refine noR_mk _ _ _ _ _ rfl ?_ | refine noR_mkS _ _ _ _ _ rfl ?_)) ?_ | with_reducible refine noC_and (by repeat (first | exact noC_empty _ _ (by simp -failIfUnchanged only [↓RA, RB, RJ, RS, fx3, p1, p2, p3, p4, reduceIte, p5, p6, p7, p8]) | exact noC_nilS _ _ (by simp -failIfUnchanged only [↓RA, RB, RJ, RS, fx3, p1, p2, p3, p4, reduceIte, p5, p6, p7, p8]) | refine noC_mk _ _ _ _ _ rfl ?_ | refine noC_mkS _ _ _ _ _ rfl ?_)) ?_ | with_reducible refine and_ac ?_ | with_reducible refine And.intro (a := _ = List.range _) (by rfl) ?_)
            obtain ⟨v62, hv62, h⟩ := run_bind h
            refine CallH.mk [false, false] (eqLinear_sat hv62) ?_ ?_ <;> simp -failIfUnchanged only [↓RA, RB, RJ, RS, fx3, p1, p2, p3, p4, reduceIte, p5, p6, p7, p8, c1, c2, c3, c4, c5]
            refine And.intro (DrawH.mk [] [976, 977] (by rfl) (by first | rfl | (simp -failIfUnchanged only [↓RA, RB, RJ, RS, fx3, p1, p2, p3, p4, reduceIte, p5, p6, p7, p8] <;> rfl)) (by first | rfl | (simp -failIfUnchanged only [↓RA, RB, RJ, RS, fx3, p1, p2, p3, p4, reduceIte, p5, p6, p7, p8] <;> rfl)) (by first | rfl | (simp -failIfUnchanged only [↓RA, RB, RJ, RS, fx3, p1, p2, p3, p4, reduceIte, p5, p6, p7, p8] <;> rfl)) (by simp) (by simp -failIfUnchanged only [↓RA, RB, RJ, RS, fx3, p1, p2, p3, p4, reduceIte, p5, p6, p7, p8]; repeat (first | exact noC_empty _ _ (by simp -failIfUnchanged only [↓RA, RB, RJ, RS, fx3, p1, p2, p3, p4, reduceIte, p5, p6, p7, p8]) | exact noC_nilS _ _ (by simp -failIfUnchanged only [↓RA, RB, RJ, RS, fx3, p1, p2, p3, p4, reduceIte, p5, p6, p7, p8]) | refine noC_mk _ _ _ _ _ rfl ?_ | refine noC_mkS _ _ _ _ _ rfl ?_ | refine And.intro ?_ ?_))) ?_
            simp -failIfUnchanged only [↓RA, RB, RJ, RS, fx3, p1, p2, p3, p4, reduceIte, p5, p6, p7, p8, c1, c2, c3, c4, c5]
            refine CondH.mk (fun c6 => ?_) (fun c6 => ?_)
            · replace h := run_t c6 h
              simp -failIfUnchanged only [↓RA, RB, RJ, RS, fx3, p1, p2, p3, p4, reduceIte, p5, p6, p7, p8, c1, c2, c3, c4, c5, c6]
              obtain ⟨v66, hv66, h⟩ := run_bind h
              refine CallH.io [(.node [(.own 576), (.own 577), (.pv (I v36.Constant))]), (.pv (I (1 : Int)))] [(576, (1, v66.2.1.map Sx)), (577, (1, v66.2.2.map I))] (markLinear_sat hv66) ?_ ?_ <;> simp -failIfUnchanged only [↓RA, RB, RJ, RS, fx3, p1, p2, p3, p4, reduceIte, p5, p6, p7, p8, c1, c2, c3, c4, c5, c6]
              obtain ⟨v69, hv69, h⟩ := run_bind h
              refine CallH.io [(.node [(.own 608), (.own 609), (.pv (I v38.Constant))]), (.pv (I v66.1))] [(608, (1, v69.2.1.map Sx)), (609, (1, v69.2.2.map I))] (markLinear_sat hv69) ?_ ?_ <;> simp -failIfUnchanged only [↓RA, RB, RJ, RS, fx3, p1, p2, p3, p4, reduceIte, p5, p6, p7, p8, c1, c2, c3, c4, c5, c6]
              refine CondH.mk (fun c7 => ?_) (fun c7 => ?_)
              · replace h := run_t c7 h
                simp -failIfUnchanged only [↓RA, RB, RJ, RS, fx3, p1, p2, p3, p4, reduceIte, p5, p6, p7, p8, c1, c2, c3, c4, c5, c6, c7]
                have h := run_some h
                obtain rfl : _ = r := h
                refine FinH.l ?_
                simp -failIfUnchanged only [↓RA, RB, RJ, RS, fx3, p1, p2, p3, p4, reduceIte, p5, p6, p7, p8, c1, c2, c3, c4, c5, c6, c7]
              · replace h := run_f c7 h
                simp -failIfUnchanged only [↓RA, RB, RJ, RS, fx3, p1, p2, p3, p4, reduceIte, p5, p6, p7, p8, c1, c2, c3, c4, c5, c6, c7]
                obtain ⟨v75, hv75, h⟩ := run_bind h
                refine CallH.mk [false, false] (eqLinear_sat hv75) ?_ ?_ <;> simp -failIfUnchanged only [↓RA, RB, RJ, RS, fx3, p1, p2, p3, p4, reduceIte, p5, p6, p7, p8, c1, c2, c3, c4, c5, c6, c7]
                refine CondH.mk (fun c8 => ?_) (fun c8 => ?_)
                · replace h := run_t c8 h
                  simp -failIfUnchanged only [↓RA, RB, RJ, RS, fx3, p1, p2, p3, p4, reduceIte, p5, p6, p7, p8, c1, c2, c3, c4, c5, c6, c7, c8]
                  obtain ⟨v85, hv85, h⟩ := run_bind h
                  refine CallH.io [(.node [(.own 672), (.own 673), (.pv (I v42.1.Constant))]), (.pv (I (1 : Int)))] [(672, (1, v85.2.1.map Sx)), (673, (1, v85.2.2.map I))] (markLinear_sat hv85) ?_ ?_ <;> simp -failIfUnchanged only [↓RA, RB, RJ, RS, fx3, p1, p2, p3, p4, reduceIte, p5, p6, p7, p8, c1, c2, c3, c4, c5, c6, c7, c8]
                  obtain ⟨v88, hv88, h⟩ := run_bind h
                  refine CallH.mk [false, false] (heldLinear_sat hv88) ?_ ?_ <;> simp -failIfUnchanged only [↓RA, RB, RJ, RS, fx3, p1, p2, p3, p4, reduceIte, p5, p6, p7, p8, c1, c2, c3, c4, c5, c6, c7, c8]
                  refine CondH.mk (fun c9 => ?_) (fun c9 => ?_)
                  · replace h := run_t c9 h
                    simp -failIfUnchanged only [↓RA, RB, RJ, RS, fx3, p1, p2, p3, p4, reduceIte, p5, p6, p7, p8, c1, c2, c3, c4, c5, c6, c7, c8, c9]
                    have h := run_some h
                    obtain rfl : _ = r := h
                    refine FinH.l ?_
                    simp -failIfUnchanged only [↓RA, RB, RJ, RS, fx3, p1, p2, p3, p4, reduceIte, p5, p6, p7, p8, c1, c2, c3, c4, c5, c6, c7, c8, c9]
                  · replace h := run_f c9 h
                    simp -failIfUnchanged only [↓RA, RB, RJ, RS, fx3, p1, p2, p3, p4, reduceIte, p5, p6, p7, p8, c1, c2, c3, c4, c5, c6, c7, c8, c9]
                    refine CondH.mk (fun c10 => ?_) (fun c10 => ?_)
                    · replace h := run_t c10 h
                      simp -failIfUnchanged only [↓RA, RB, RJ, RS, fx3, p1, p2, p3, p4, reduceIte, p5, p6, p7, p8, c1, c2, c3, c4, c5, c6, c7, c8, c9, c10]
                      obtain ⟨v96, hv96, h⟩ := run_bind h
                      refine CallH.mk [false] (toLinear_sat hv96) ?_ ?_ <;> simp -failIfUnchanged only [↓RA, RB, RJ, RS, fx3, p1, p2, p3, p4, reduceIte, p5, p6, p7, p8, c1, c2, c3, c4, c5, c6, c7, c8, c9, c10]
                      repeat (first | with_reducible refine noR_and (by repeat (first | exact noR_empty _ _ | exact noR_nilS _ _ | refine noR_mk _ _ _ _ _ rfl ?_ | refine noR_mkS _ _ _ _ _ rfl ?_)) ?_ | with_reducible refine noC_and (by repeat (first | exact noC_empty _ _ (by simp -failIfUnchanged only [↓RA, RB, RJ, RS, fx3, p1, p2, p3, p4, reduceIte, p5, p6, p7, p8]) | exact noC_nilS _ _ (by simp -failIfUnchanged only [↓RA, RB, RJ, RS, fx3, p1, p2, p3, p4, reduceIte, p5, p6, p7, p8]) | refine noC_mk _ _ _ _ _ rfl ?_ | refine noC_mkS _ _ _ _ _ rfl ?_)) ?_ | with_reducible refine and_ac ?_ | with_reducible refine And.intro (a := _ = List.range _) (by rfl) ?_)
                      obtain ⟨v98, hv98, h⟩ := run_bind h
                      refine CallH.mk [false] (toLinear_sat hv98) ?_ ?_ <;> simp -failIfUnchanged only [↓RA, RB, RJ, RS, fx3, p1, p2, p3, p4, reduceIte, p5, p6, p7, p8, c1, c2, c3, c4, c5, c6, c7, c8, c9, c10]
                      repeat (first | with_reducible refine noR_and (by repeat (first | exact noR_empty _ _ | exact noR_nilS _ _ | refine noR_mk _ _ _ _ _ rfl ?_ | refine noR_mkS _ _ _ _ _ rfl ?_)) ?_ | with_reducible refine noC_and (by repeat (first | exact noC_empty _ _ (by simp -failIfUnchanged only [↓RA, RB, RJ, RS, fx3, p1, p2, p3, p4, reduceIte, p5, p6, p7, p8]) | exact noC_nilS _ _ (by simp -failIfUnchanged only [↓RA, RB, RJ, RS, fx3, p1, p2, p3, p4, reduceIte, p5, p6, p7, p8]) | refine noC_mk _ _ _ _ _ rfl ?_ | refine noC_mkS _ _ _ _ _ rfl ?_)) ?_ | with_reducible refine and_ac ?_ | with_reducible refine And.intro (a := _ = List.range _) (by rfl) ?_)
                      obtain ⟨v99, hv99, h⟩ := run_bind h
                      refine CallH.mk [false, false] (impl_JoinLinear_sat hv99) ?_ ?_ <;> simp -failIfUnchanged only [↓RA, RB, RJ, RS, fx3, p1, p2, p3, p4, reduceIte, p5, p6, p7, p8, c1, c2, c3, c4, c5, c6, c7, c8, c9, c10]
                      repeat (first | with_reducible refine noR_and (by repeat (first | exact noR_empty _ _ | exact noR_nilS _ _ | refine noR_mk _ _ _ _ _ rfl ?_ | refine noR_mkS _ _ _ _ _ rfl ?_)) ?_ | with_reducible refine noC_and (by repeat (first | exact noC_empty _ _ (by simp -failIfUnchanged only [↓RA, RB, RJ, RS, fx3, p1, p2, p3, p4, reduceIte, p5, p6, p7, p8]) | exact noC_nilS _ _ (by simp -failIfUnchanged only [↓RA, RB, RJ, RS, fx3, p1, p2, p3, p4, reduceIte, p5, p6, p7, p8]) | refine noC_mk _ _ _ _ _ rfl ?_ | refine noC_mkS _ _ _ _ _ rfl ?_)) ?_ | with_reducible refine and_ac ?_ | with_reducible refine And.intro (a := _ = List.range _) (by rfl) ?_)
                      refine And.intro (DrawH.mk [15] [1536, 1537, 1568, 1569, 1584, 1585] (by rfl) (by first | rfl | (simp -failIfUnchanged only [↓RA, RB, RJ, RS, fx3, p1, p2, p3, p4, reduceIte, p5, p6, p7, p8] <;> rfl)) (by first | rfl | (simp -failIfUnchanged only [↓RA, RB, RJ, RS, fx3, p1, p2, p3, p4, reduceIte, p5, p6, p7, p8] <;> rfl)) (by first | rfl | (simp -failIfUnchanged only [↓RA, RB, RJ, RS, fx3, p1, p2, p3, p4, reduceIte, p5, p6, p7, p8] <;> rfl)) (by simp -failIfUnchanged only [↓RA, RB, RJ, RS, fx3, p1, p2, p3, p4, reduceIte, p5, p6, p7, p8]; (try refine ⟨?_, ?_⟩) <;> repeat (first | exact noR_empty _ _ | exact noR_nilS _ _ | refine noR_mk _ _ _ _ _ rfl ?_ | refine noR_mkS _ _ _ _ _ rfl ?_)) (by simp -failIfUnchanged only [↓RA, RB, RJ, RS, fx3, p1, p2, p3, p4, reduceIte, p5, p6, p7, p8]; repeat (first | exact noC_empty _ _ (by simp -failIfUnchanged only [↓RA, RB, RJ, RS, fx3, p1, p2, p3, p4, reduceIte, p5, p6, p7, p8]) | exact noC_nilS _ _ (by simp -failIfUnchanged only [↓RA, RB, RJ, RS, fx3, p1, p2, p3, p4, reduceIte, p5, p6, p7, p8]) | refine noC_mk _ _ _ _ _ rfl ?_ | refine noC_mkS _ _ _ _ _ rfl ?_ | refine And.intro ?_ ?_))) ?_
                      simp -failIfUnchanged only [↓RA, RB, RJ, RS, fx3, p1, p2, p3, p4, reduceIte, p5, p6, p7, p8, c1, c2, c3, c4, c5, c6, c7, c8, c9, c10]
                      obtain ⟨v104, hv104, h⟩ := run_bind h
                      refine CallH.mk [false, false] (eqLinear_sat hv104) ?_ ?_ <;> simp -failIfUnchanged only [↓RA, RB, RJ, RS, fx3, p1, p2, p3, p4, reduceIte, p5, p6, p7, p8, c1, c2, c3, c4, c5, c6, c7, c8, c9, c10]
                      refine CondH.mk (fun c11 => ?_) (fun c11 => ?_)
                      · replace h := run_t c11 h
                        simp -failIfUnchanged only [↓RA, RB, RJ, RS, fx3, p1, p2, p3, p4, reduceIte, p5, p6, p7, p8, c1, c2, c3, c4, c5, c6, c7, c8, c9, c10, c11]
                        refine CondH.mk (fun c12 => ?_) (fun c12 => ?_)
                        · replace h := run_t c12 h
                          simp -failIfUnchanged only [↓RA, RB, RJ, RS, fx3, p1, p2, p3, p4, reduceIte, p5, p6, p7, p8, c1, c2, c3, c4, c5, c6, c7, c8, c9, c10, c11, c12]
                          obtain ⟨v113, hv113, h⟩ := run_bind h
                          refine CallH.mk [false, false] (heldLinear_sat hv113) ?_ ?_ <;> simp -failIfUnchanged only [↓RA, RB, RJ, RS, fx3, p1, p2, p3, p4, reduceIte, p5, p6, p7, p8, c1, c2, c3, c4, c5, c6, c7, c8, c9, c10, c11, c12]
                          refine CondH.mk (fun c13 => ?_) (fun c13 => ?_)
                          · replace h := run_t c13 h
                            simp -failIfUnchanged only [↓RA, RB, RJ, RS, fx3, p1, p2, p3, p4, reduceIte, p5, p6, p7, p8, c1, c2, c3, c4, c5, c6, c7, c8, c9, c10, c11, c12, c13]
                            have h := run_some h
                            obtain rfl : _ = r := h
                            refine FinH.l ?_
                            simp -failIfUnchanged only [↓RA, RB, RJ, RS, fx3, p1, p2, p3, p4, reduceIte, p5, p6, p7, p8, c1, c2, c3, c4, c5, c6, c7, c8, c9, c10, c11, c12, c13]
                          · replace h := run_f c13 h
                            simp -failIfUnchanged only [↓RA, RB, RJ, RS, fx3, p1, p2, p3, p4, reduceIte, p5, p6, p7, p8, c1, c2, c3, c4, c5, c6, c7, c8, c9, c10, c11, c12, c13]
                            refine CondH.mk (fun c14 => ?_) (fun c14 => ?_)
                            · replace h := run_t c14 h
                              simp -failIfUnchanged only [↓RA, RB, RJ, RS, fx3, p1, p2, p3, p4, reduceIte, p5, p6, p7, p8, c1, c2, c3, c4, c5, c6, c7, c8, c9, c10, c11, c12, c13, c14]
                              have h := run_some h
                              obtain rfl : _ = r := h
                              refine FinH.l ?_
                              simp -failIfUnchanged only [↓RA, RB, RJ, RS, fx3, p1, p2, p3, p4, reduceIte, p5, p6, p7, p8, c1, c2, c3, c4, c5, c6, c7, c8, c9, c10, c11, c12, c13, c14]
                            · replace h := run_f c14 h
                              simp -failIfUnchanged only [↓RA, RB, RJ, RS, fx3, p1, p2, p3, p4, reduceIte, p5, p6, p7, p8, c1, c2, c3, c4, c5, c6, c7, c8, c9, c10, c11, c12, c13, c14]
                              have h := run_some h
                              obtain rfl : _ = r := h
                              refine FinH.l ?_
                              simp -failIfUnchanged only [↓RA, RB, RJ, RS, fx3, p1, p2, p3, p4, reduceIte, p5, p6, p7, p8, c1, c2, c3, c4, c5, c6, c7, c8, c9, c10, c11, c12, c13, c14]
                        · replace h := run_f c12 h
                          simp -failIfUnchanged only [↓RA, RB, RJ, RS, fx3, p1, p2, p3, p4, reduceIte, p5, p6, p7, p8, c1, c2, c3, c4, c5, c6, c7, c8, c9, c10, c11, c12]
                          have h := run_some h
                          obtain rfl : _ = r := h
                          refine FinH.l ?_
                          simp -failIfUnchanged only [↓RA, RB, RJ, RS, fx3, p1, p2, p3, p4, reduceIte, p5, p6, p7, p8, c1, c2, c3, c4, c5, c6, c7, c8, c9, c10, c11, c12]
                      · replace h := run_f c11 h
                        simp -failIfUnchanged only [↓RA, RB, RJ, RS, fx3, p1, p2, p3, p4, reduceIte, p5, p6, p7, p8, c1, c2, c3, c4, c5, c6, c7, c8, c9, c10, c11]
                        have h := run_some h
                        obtain rfl : _ = r := h
                        refine FinH.l ?_
                        simp -failIfUnchanged only [↓RA, RB, RJ, RS, fx3, p1, p2, p3, p4, reduceIte, p5, p6, p7, p8, c1, c2, c3, c4, c5, c6, c7, c8, c9, c10, c11]
                    · replace h := run_f c10 h
                      simp -failIfUnchanged only [↓RA, RB, RJ, RS, fx3, p1, p2, p3, p4, reduceIte, p5, p6, p7, p8, c1, c2, c3, c4, c5, c6, c7, c8, c9, c10]
                      have h := run_some h
                      obtain rfl : _ = r := h
                      refine FinH.l ?_
                      simp -failIfUnchanged only [↓RA, RB, RJ, RS, fx3, p1, p2, p3, p4, reduceIte, p5, p6, p7, p8, c1, c2, c3, c4, c5, c6, c7, c8, c9, c10]
                · replace h := run_f c8 h
                  simp -failIfUnchanged only [↓RA, RB, RJ, RS, fx3, p1, p2, p3, p4, reduceIte, p5, p6, p7, p8, c1, c2, c3, c4, c5, c6, c7, c8]
                  have h := run_some h
                  obtain rfl : _ = r := h
                  refine FinH.l ?_
                  simp -failIfUnchanged only [↓RA, RB, RJ, RS, fx3, p1, p2, p3, p4, reduceIte, p5, p6, p7, p8, c1, c2, c3, c4, c5, c6, c7, c8]
            · replace h := run_f c6 h
              simp -failIfUnchanged only [↓RA, RB, RJ, RS, fx3, p1, p2, p3, p4, reduceIte, p5, p6, p7, p8, c1, c2, c3, c4, c5, c6]
              have h := run_some h
              obtain rfl : _ = r := h
              refine FinH.l ?_
              simp -failIfUnchanged only [↓RA, RB, RJ, RS, fx3, p1, p2, p3, p4, reduceIte, p5, p6, p7, p8, c1, c2, c3, c4, c5, c6]
          · replace h := run_f c5 h
            simp -failIfUnchanged only [↓RA, RB, RJ, RS, fx3, p1, p2, p3, p4, reduceIte, p5, p6, p7, p8, c1, c2, c3, c4, c5]
            have h := run_some h
            obtain rfl : _ = r := h
            refine FinH.l ?_
            simp -failIfUnchanged only [↓RA, RB, RJ, RS, fx3, p1, p2, p3, p4, reduceIte, p5, p6, p7, p8, c1, c2, c3, c4, c5]
        · replace h := run_f c4 h
          simp -failIfUnchanged only [↓RA, RB, RJ, RS, fx3, p1, p2, p3, p4, reduceIte, p5, p6, p7, p8, c1, c2, c3, c4]
          have h := run_some h
          obtain rfl : _ = r := h
          refine FinH.l ?_
          simp -failIfUnchanged only [↓RA, RB, RJ, RS, fx3, p1, p2, p3, p4, reduceIte, p5, p6, p7, p8, c1, c2, c3, c4]
      · replace h := run_f c3 h
        simp -failIfUnchanged only [↓RA, RB, RJ, RS, fx3, p1, p2, p3, p4, reduceIte, p5, p6, p7, p8, c1, c2, c3]
        have h := run_some h
        obtain rfl : _ = r := h
        refine FinH.l ?_
        simp -failIfUnchanged only [↓RA, RB, RJ, RS, fx3, p1, p2, p3, p4, reduceIte, p5, p6, p7, p8, c1, c2, c3]

end Go.Proofs.Ytgbddapcjhgllaa
