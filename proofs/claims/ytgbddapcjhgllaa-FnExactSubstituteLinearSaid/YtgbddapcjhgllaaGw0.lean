/- A part of the proof: lemmas only; nothing is claimed here beyond what each lemma says. -/
import Derived.Test.YtgbddapcjhgllaaGm
import Derived.Test.YtgbddapcjhgllaaGf
import Derived.Test.YtgbddapcjhgllaaGsrt
import Derived.Test.YtgbddapcjhgllaaGsrl
import Derived.Test.YtgbddapcjhgllaaGlin
set_option linter.unusedSimpArgs false
set_option linter.unusedVariables false
set_option linter.defProp false
set_option maxRecDepth 4000
namespace Go.Proofs.Ytgbddapcjhgllaa
open Go.Av
open Nat renaming reduceLT → p1, reduceAdd → p2, reduceMul → p3, reduceEqDiff → p4, reduceBEq → p5, reduceLeDiff → p6, reduceSub → p7
open Int renaming reduceToNat → p8
def fx14 := And.intro @ty_3 <| And.intro @zc_3 <| And.intro @z_3 <| And.intro @ty_9 <| And.intro @zc_9 <| And.intro @z_9 <| And.intro @u_9 <| And.intro @ty_22 <| And.intro @zc_22 <| And.intro @z_22 <| And.intro @es_22 <| And.intro @eb_22 <| And.intro @sl_22 <| And.intro @is_22 <| And.intro @el_22 <| And.intro @ze_22 <| @ez_22
set_option maxHeartbeats 4000000 in
theorem szStringS_sat {a0 : List ByteArray} {a1 : Int}  {r : Int} (h : szStringS a0 a1 = some r) : Sat Try.prog 14 [(.sl false 1 (a0.map Sx)), (I a1)] (I r) := by
  replace h := Run.of h
  unfold szStringS at h
  refine Sat.of_m (nt := 28) (rs := [.tmp 4]) (n := 100000) Try.func14 rfl rfl rfl rfl (by simp) ?_
  simp -failIfUnchanged only [↓RA, RB, RS, fx14, p1, p2, p3, p4, reduceIte, p5, p6, p7, p8]
  refine CondH.mk (fun c1 => ?_) (fun c1 => ?_)
  · replace h := run_t c1 h
    simp -failIfUnchanged only [↓RA, RB, RS, fx14, p1, p2, p3, p4, reduceIte, p5, p6, p7, p8, c1]
    have h := run_some h
    obtain rfl : _ = r := h
    refine FinH.l ?_
    simp -failIfUnchanged only [↓RA, RB, RS, fx14, p1, p2, p3, p4, reduceIte, p5, p6, p7, p8, c1]
  · replace h := run_f c1 h
    simp -failIfUnchanged only [↓RA, RB, RS, fx14, p1, p2, p3, p4, reduceIte, p5, p6, p7, p8, c1]
    refine Mg.know_sl (b := false) (sz := 1) (es := a0.map Sx) 0 (by simp -failIfUnchanged only [↓RA, RB, RS, fx14, p1, p2, p3, p4, reduceIte, p5, p6, p7, p8, c1]) fun hl0 => ?_; rw [List.length_map] at hl0
    replace h := run_loop h
    refine Mg.forN h (fun i5 s5 => [(0, .val (.pv (.sl false 1 (a0.map Sx)))), (1, .val (.pv (I s5))), (5, .val (.pv (I (i5 : Int))))]) (fun i5 s5 => []) (St.le_mk2 (by simp -failIfUnchanged only [↓RA, RB, RS, fx14, p1, p2, p3, p4, reduceIte, p5, p6, p7, p8, c1])) (fun i5 s5 hi h => ?_) (fun s5 h => ?_)
    · have w5 := wrap_succ (i := i5) (by omega)
      simp -failIfUnchanged only [↓RA, RB, RS, fx14, p1, p2, p3, p4, reduceIte, p5, p6, p7, p8, c1]
      refine CondH.tt (decide_eq_true (by omega)) (fun c2 => ?_)
      simp -failIfUnchanged only [↓RA, RB, RS, fx14, p1, p2, p3, p4, reduceIte, p5, p6, p7, p8, c1, c2]
      obtain ⟨v21, hv21, h⟩ := run_bind h
      refine IdxH.mk (f := Sx) hv21 ?_ ?_ <;> simp -failIfUnchanged only [↓RA, RB, RS, fx14, p1, p2, p3, p4, reduceIte, p5, p6, p7, p8, c1, c2]
      refine CondH.mk (fun c3 => ?_) (fun c3 => ?_)
      · replace h := run_t c3 h
        simp -failIfUnchanged only [↓RA, RB, RS, fx14, p1, p2, p3, p4, reduceIte, p5, p6, p7, p8, c1, c2, c3]
        have h := run_some h
        obtain rfl : _ = r := h
        refine FinH.l ?_
        simp -failIfUnchanged only [↓RA, RB, RS, fx14, p1, p2, p3, p4, reduceIte, p5, p6, p7, p8, c1, c2, c3]
      · replace h := run_f c3 h
        simp -failIfUnchanged only [↓RA, RB, RS, fx14, p1, p2, p3, p4, reduceIte, p5, p6, p7, p8, c1, c2, c3]
        have h := run_some h
        refine RdH.mk ⟨_, h, ?_⟩
        refine St.le_mk2 ?_
        simp -failIfUnchanged only [↓RA, RB, RS, fx14, p1, p2, p3, p4, reduceIte, p5, p6, p7, p8, c1, c2, c3, w5]
    · simp -failIfUnchanged only [↓RA, RB, RS, fx14, p1, p2, p3, p4, reduceIte, p5, p6, p7, p8, c1]
      refine CondH.ff (decide_eq_false (by omega)) (fun c4 => ?_)
      simp -failIfUnchanged only [↓RA, RB, RS, fx14, p1, p2, p3, p4, reduceIte, p5, p6, p7, p8, c1, c4]
      have h := run_some h
      obtain rfl : _ = r := h
      refine FinH.l ?_
      simp -failIfUnchanged only [↓RA, RB, RS, fx14, p1, p2, p3, p4, reduceIte, p5, p6, p7, p8, c1, c4]

def fx15 := And.intro @ty_3 <| And.intro @zc_3 <| And.intro @z_3 <| And.intro @ty_23 <| And.intro @zc_23 <| And.intro @z_23 <| And.intro @es_23 <| And.intro @eb_23 <| And.intro @sl_23 <| And.intro @is_23 <| And.intro @el_23 <| And.intro @ze_23 <| @ez_23
set_option maxHeartbeats 4000000 in
theorem szIntS_sat {a0 : List Int} {a1 : Int}  {r : Int} (h : szIntS a0 a1 = some r) : Sat Try.prog 15 [(.sl false 1 (a0.map I)), (I a1)] (I r) := by
  replace h := Run.of h
  unfold szIntS at h
  refine Sat.of_m (nt := 12) (rs := [.tmp 4]) (n := 100000) Try.func15 rfl rfl rfl rfl (by simp) ?_
  simp -failIfUnchanged only [↓RA, RB, RS, fx15, p1, p2, p3, p4, reduceIte, p5, p6, p7, p8]
  refine CondH.mk (fun c1 => ?_) (fun c1 => ?_)
  · replace h := run_t c1 h
    simp -failIfUnchanged only [↓RA, RB, RS, fx15, p1, p2, p3, p4, reduceIte, p5, p6, p7, p8, c1]
    have h := run_some h
    obtain rfl : _ = r := h
    refine FinH.l ?_
    simp -failIfUnchanged only [↓RA, RB, RS, fx15, p1, p2, p3, p4, reduceIte, p5, p6, p7, p8, c1]
  · replace h := run_f c1 h
    simp -failIfUnchanged only [↓RA, RB, RS, fx15, p1, p2, p3, p4, reduceIte, p5, p6, p7, p8, c1]
    have h := run_some h
    obtain rfl : _ = r := h
    refine FinH.l ?_
    simp -failIfUnchanged only [↓RA, RB, RS, fx15, p1, p2, p3, p4, reduceIte, p5, p6, p7, p8, c1]

def fx5 := And.intro @ty_3 <| And.intro @zc_3 <| And.intro @z_3 <| And.intro @ty_22 <| And.intro @zc_22 <| And.intro @z_22 <| And.intro @es_22 <| And.intro @eb_22 <| And.intro @sl_22 <| And.intro @is_22 <| And.intro @el_22 <| And.intro @ze_22 <| And.intro @ez_22 <| And.intro @ty_23 <| And.intro @zc_23 <| And.intro @z_23 <| And.intro @es_23 <| And.intro @eb_23 <| And.intro @sl_23 <| And.intro @is_23 <| And.intro @el_23 <| And.intro @ze_23 <| And.intro @ez_23 <| And.intro @ty_25 <| And.intro @zc_25 <| And.intro @z_25 <| And.intro @fo_25_0 <| And.intro @fi_25_0 <| And.intro @ft_25_0 <| And.intro @fo_25_1 <| And.intro @fi_25_1 <| And.intro @ft_25_1 <| And.intro @fo_25_2 <| And.intro @fi_25_2 <| And.intro @ft_25_2 <| @lay_25
set_option maxHeartbeats 4000000 in
theorem szLinear_sat {a0 : Linear} {a1 : Int}  {r : Int} (h : szLinear a0 a1 = some r) : Sat Try.prog 5 [((Linear.pv false) a0), (I a1)] (I r) := by
  replace h := Run.of h
  unfold szLinear at h
  refine Sat.of_m (nt := 18) (rs := [.tmp 4]) (n := 100000) Try.func5 rfl rfl rfl rfl (by simp) ?_
  simp -failIfUnchanged only [↓RA, RB, RS, fx5, p1, p2, p3, p4, reduceIte, p5, p6, p7, p8]
  repeat (first | with_reducible refine noR_and (by repeat (first | exact noR_empty _ _ | exact noR_nilS _ _ | refine noR_mk _ _ _ _ _ rfl ?_ | refine noR_mkS _ _ _ _ _ rfl ?_)) ?_ | with_reducible refine noC_and (by repeat (first | exact noC_empty _ _ (by simp -failIfUnchanged only [↓RA, RB, RS, fx5, p1, p2, p3, p4, reduceIte, p5, p6, p7, p8]) | exact noC_nilS _ _ (by simp -failIfUnchanged only [↓RA, RB, RS, fx5, p1, p2, p3, p4, reduceIte, p5, p6, p7, p8]) | refine noC_mk _ _ _ _ _ rfl ?_ | refine noC_mkS _ _ _ _ _ rfl ?_)) ?_ | with_reducible refine and_ac ?_ | with_reducible refine And.intro (a := _ = List.range _) (by rfl) ?_)
  obtain ⟨v8, hv8, h⟩ := run_bind h
  refine CallH.mk [false, false] (szStringS_sat hv8) ?_ ?_ <;> simp -failIfUnchanged only [↓RA, RB, RS, fx5, p1, p2, p3, p4, reduceIte, p5, p6, p7, p8]
  refine CondH.mk (fun c1 => ?_) (fun c1 => ?_)
  · replace h := run_t c1 h
    simp -failIfUnchanged only [↓RA, RB, RS, fx5, p1, p2, p3, p4, reduceIte, p5, p6, p7, p8, c1]
    have h := run_some h
    obtain rfl : _ = r := h
    refine FinH.l ?_
    simp -failIfUnchanged only [↓RA, RB, RS, fx5, p1, p2, p3, p4, reduceIte, p5, p6, p7, p8, c1]
  · replace h := run_f c1 h
    simp -failIfUnchanged only [↓RA, RB, RS, fx5, p1, p2, p3, p4, reduceIte, p5, p6, p7, p8, c1]
    obtain ⟨v14, hv14, h⟩ := run_bind h
    refine CallH.mk [false, false] (szIntS_sat hv14) ?_ ?_ <;> simp -failIfUnchanged only [↓RA, RB, RS, fx5, p1, p2, p3, p4, reduceIte, p5, p6, p7, p8, c1]
    refine CondH.mk (fun c2 => ?_) (fun c2 => ?_)
    · replace h := run_t c2 h
      simp -failIfUnchanged only [↓RA, RB, RS, fx5, p1, p2, p3, p4, reduceIte, p5, p6, p7, p8, c1, c2]
      have h := run_some h
      obtain rfl : _ = r := h
      refine FinH.l ?_
      simp -failIfUnchanged only [↓RA, RB, RS, fx5, p1, p2, p3, p4, reduceIte, p5, p6, p7, p8, c1, c2]
    · replace h := run_f c2 h
      simp -failIfUnchanged only [↓RA, RB, RS, fx5, p1, p2, p3, p4, reduceIte, p5, p6, p7, p8, c1, c2]
      have h := run_some h
      obtain rfl : _ = r := h
      refine FinH.l ?_
      simp -failIfUnchanged only [↓RA, RB, RS, fx5, p1, p2, p3, p4, reduceIte, p5, p6, p7, p8, c1, c2]

def fx18 := And.intro @ty_3 <| And.intro @zc_3 <| And.intro @z_3 <| And.intro @ty_9 <| And.intro @zc_9 <| And.intro @z_9 <| And.intro @u_9 <| And.intro @ty_22 <| And.intro @zc_22 <| And.intro @z_22 <| And.intro @es_22 <| And.intro @eb_22 <| And.intro @sl_22 <| And.intro @is_22 <| And.intro @el_22 <| And.intro @ze_22 <| @ez_22
set_option maxHeartbeats 4000000 in
theorem toStringS_sat {a0 : List ByteArray}  {r : List ByteArray} (h : toStringS a0 = some r) : Sat Try.prog 18 [(.sl false 1 (a0.map Sx))] (.sl true 1 (r.map Sx)) := by
  replace h := Run.of h
  unfold toStringS at h
  refine Sat.of_m (nt := 22) (rs := [.tmp 2]) (n := 100000) Try.func18 rfl rfl rfl rfl (by simp) ?_
  simp -failIfUnchanged only [↓RA, RB, RS, fx18, p1, p2, p3, p4, reduceIte, p5, p6, p7, p8]
  obtain ⟨n7, hn7, h⟩ := run_bind h
  refine MknH.mk hn7 ?_
  simp -failIfUnchanged only [↓RA, RB, RS, fx18, p1, p2, p3, p4, reduceIte, p5, p6, p7, p8]
  repeat (first | with_reducible refine noR_and (by repeat (first | exact noR_empty _ _ | exact noR_nilS _ _ | refine noR_mk _ _ _ _ _ rfl ?_ | refine noR_mkS _ _ _ _ _ rfl ?_)) ?_ | with_reducible refine noC_and (by repeat (first | exact noC_empty _ _ (by simp -failIfUnchanged only [↓RA, RB, RS, fx18, p1, p2, p3, p4, reduceIte, p5, p6, p7, p8]) | exact noC_nilS _ _ (by simp -failIfUnchanged only [↓RA, RB, RS, fx18, p1, p2, p3, p4, reduceIte, p5, p6, p7, p8]) | refine noC_mk _ _ _ _ _ rfl ?_ | refine noC_mkS _ _ _ _ _ rfl ?_)) ?_ | with_reducible refine and_ac ?_ | with_reducible refine And.intro (a := _ = List.range _) (by rfl) ?_)
  refine Mg.know_sl (b := false) (sz := 1) (es := a0.map Sx) 0 (by simp -failIfUnchanged only [↓RA, RB, RS, fx18, p1, p2, p3, p4, reduceIte, p5, p6, p7, p8]) fun hl0 => ?_; rw [List.length_map] at hl0
  replace h := run_loop h
  refine Mg.forN h (fun i3 s3 => [(0, .val (.pv (.sl false 1 (a0.map Sx)))), (3, .val (.own 112)), (4, .val (.pv (I (i3 : Int))))]) (fun i3 s3 => [(112, (1, s3.map Sx))]) (St.le_mk2 (by simp -failIfUnchanged only [↓RA, RB, RS, fx18, p1, p2, p3, p4, reduceIte, p5, p6, p7, p8])) (fun i3 s3 hi h => ?_) (fun s3 h => ?_)
  · have w3 := wrap_succ (i := i3) (by omega)
    simp -failIfUnchanged only [↓RA, RB, RS, fx18, p1, p2, p3, p4, reduceIte, p5, p6, p7, p8]
    refine CondH.tt (decide_eq_true (by omega)) (fun c1 => ?_)
    simp -failIfUnchanged only [↓RA, RB, RS, fx18, p1, p2, p3, p4, reduceIte, p5, p6, p7, p8, c1]
    obtain ⟨v18, hv18, h⟩ := run_bind h
    refine IdxH.mk (f := Sx) hv18 ?_ ?_ <;> simp -failIfUnchanged only [↓RA, RB, RS, fx18, p1, p2, p3, p4, reduceIte, p5, p6, p7, p8, c1]
    obtain ⟨v20, hv20, h⟩ := run_bind h
    refine IdxH.mk (f := Sx) hv20 ?_ ?_ <;> simp -failIfUnchanged only [↓RA, RB, RS, fx18, p1, p2, p3, p4, reduceIte, p5, p6, p7, p8, c1]
    obtain ⟨w2, hw2, h⟩ := run_bind h
    refine EldH.mk (f := Sx) hw2 rfl ?_ ?_ <;> simp -failIfUnchanged only [↓RA, RB, RS, fx18, p1, p2, p3, p4, reduceIte, p5, p6, p7, p8, c1]
    have h := run_some h
    refine RdH.mk ⟨_, h, ?_⟩
    refine St.le_mk2 ?_
    simp -failIfUnchanged only [↓RA, RB, RS, fx18, p1, p2, p3, p4, reduceIte, p5, p6, p7, p8, c1, w3]
  · simp -failIfUnchanged only [↓RA, RB, RS, fx18, p1, p2, p3, p4, reduceIte, p5, p6, p7, p8]
    refine CondH.ff (decide_eq_false (by omega)) (fun c3 => ?_)
    simp -failIfUnchanged only [↓RA, RB, RS, fx18, p1, p2, p3, p4, reduceIte, p5, p6, p7, p8, c3]
    have h := run_some h
    obtain rfl : _ = r := h
    refine FinH.l ?_
    simp -failIfUnchanged only [↓RA, RB, RS, fx18, p1, p2, p3, p4, reduceIte, p5, p6, p7, p8, c3]

def fx19 := And.intro @ty_3 <| And.intro @zc_3 <| And.intro @z_3 <| And.intro @ty_23 <| And.intro @zc_23 <| And.intro @z_23 <| And.intro @es_23 <| And.intro @eb_23 <| And.intro @sl_23 <| And.intro @is_23 <| And.intro @el_23 <| And.intro @ze_23 <| @ez_23
set_option maxHeartbeats 4000000 in
theorem toIntS_sat {a0 : List Int}  {r : List Int} (h : toIntS a0 = some r) : Sat Try.prog 19 [(.sl false 1 (a0.map I))] (.sl true 1 (r.map I)) := by
  replace h := Run.of h
  unfold toIntS at h
  refine Sat.of_m (nt := 22) (rs := [.tmp 2]) (n := 100000) Try.func19 rfl rfl rfl rfl (by simp) ?_
  simp -failIfUnchanged only [↓RA, RB, RS, fx19, p1, p2, p3, p4, reduceIte, p5, p6, p7, p8]
  obtain ⟨n7, hn7, h⟩ := run_bind h
  refine MknH.mk hn7 ?_
  simp -failIfUnchanged only [↓RA, RB, RS, fx19, p1, p2, p3, p4, reduceIte, p5, p6, p7, p8]
  repeat (first | with_reducible refine noR_and (by repeat (first | exact noR_empty _ _ | exact noR_nilS _ _ | refine noR_mk _ _ _ _ _ rfl ?_ | refine noR_mkS _ _ _ _ _ rfl ?_)) ?_ | with_reducible refine noC_and (by repeat (first | exact noC_empty _ _ (by simp -failIfUnchanged only [↓RA, RB, RS, fx19, p1, p2, p3, p4, reduceIte, p5, p6, p7, p8]) | exact noC_nilS _ _ (by simp -failIfUnchanged only [↓RA, RB, RS, fx19, p1, p2, p3, p4, reduceIte, p5, p6, p7, p8]) | refine noC_mk _ _ _ _ _ rfl ?_ | refine noC_mkS _ _ _ _ _ rfl ?_)) ?_ | with_reducible refine and_ac ?_ | with_reducible refine And.intro (a := _ = List.range _) (by rfl) ?_)
  refine Mg.know_sl (b := false) (sz := 1) (es := a0.map I) 0 (by simp -failIfUnchanged only [↓RA, RB, RS, fx19, p1, p2, p3, p4, reduceIte, p5, p6, p7, p8]) fun hl0 => ?_; rw [List.length_map] at hl0
  replace h := run_loop h
  refine Mg.forN h (fun i3 s3 => [(0, .val (.pv (.sl false 1 (a0.map I)))), (3, .val (.own 112)), (4, .val (.pv (I (i3 : Int))))]) (fun i3 s3 => [(112, (1, s3.map I))]) (St.le_mk2 (by simp -failIfUnchanged only [↓RA, RB, RS, fx19, p1, p2, p3, p4, reduceIte, p5, p6, p7, p8])) (fun i3 s3 hi h => ?_) (fun s3 h => ?_)
  · have w3 := wrap_succ (i := i3) (by omega)
    simp -failIfUnchanged only [↓RA, RB, RS, fx19, p1, p2, p3, p4, reduceIte, p5, p6, p7, p8]
    refine CondH.tt (decide_eq_true (by omega)) (fun c1 => ?_)
    simp -failIfUnchanged only [↓RA, RB, RS, fx19, p1, p2, p3, p4, reduceIte, p5, p6, p7, p8, c1]
    obtain ⟨v18, hv18, h⟩ := run_bind h
    refine IdxH.mk (f := I) hv18 ?_ ?_ <;> simp -failIfUnchanged only [↓RA, RB, RS, fx19, p1, p2, p3, p4, reduceIte, p5, p6, p7, p8, c1]
    obtain ⟨v20, hv20, h⟩ := run_bind h
    refine IdxH.mk (f := I) hv20 ?_ ?_ <;> simp -failIfUnchanged only [↓RA, RB, RS, fx19, p1, p2, p3, p4, reduceIte, p5, p6, p7, p8, c1]
    obtain ⟨w2, hw2, h⟩ := run_bind h
    refine EldH.mk (f := I) hw2 rfl ?_ ?_ <;> simp -failIfUnchanged only [↓RA, RB, RS, fx19, p1, p2, p3, p4, reduceIte, p5, p6, p7, p8, c1]
    have h := run_some h
    refine RdH.mk ⟨_, h, ?_⟩
    refine St.le_mk2 ?_
    simp -failIfUnchanged only [↓RA, RB, RS, fx19, p1, p2, p3, p4, reduceIte, p5, p6, p7, p8, c1, w3]
  · simp -failIfUnchanged only [↓RA, RB, RS, fx19, p1, p2, p3, p4, reduceIte, p5, p6, p7, p8]
    refine CondH.ff (decide_eq_false (by omega)) (fun c3 => ?_)
    simp -failIfUnchanged only [↓RA, RB, RS, fx19, p1, p2, p3, p4, reduceIte, p5, p6, p7, p8, c3]
    have h := run_some h
    obtain rfl : _ = r := h
    refine FinH.l ?_
    simp -failIfUnchanged only [↓RA, RB, RS, fx19, p1, p2, p3, p4, reduceIte, p5, p6, p7, p8, c3]

def fx7 := And.intro @ty_3 <| And.intro @zc_3 <| And.intro @z_3 <| And.intro @ty_22 <| And.intro @zc_22 <| And.intro @z_22 <| And.intro @es_22 <| And.intro @eb_22 <| And.intro @sl_22 <| And.intro @is_22 <| And.intro @el_22 <| And.intro @ze_22 <| And.intro @ez_22 <| And.intro @ty_23 <| And.intro @zc_23 <| And.intro @z_23 <| And.intro @es_23 <| And.intro @eb_23 <| And.intro @sl_23 <| And.intro @is_23 <| And.intro @el_23 <| And.intro @ze_23 <| And.intro @ez_23 <| And.intro @ty_25 <| And.intro @zc_25 <| And.intro @z_25 <| And.intro @fo_25_0 <| And.intro @fi_25_0 <| And.intro @ft_25_0 <| And.intro @fo_25_1 <| And.intro @fi_25_1 <| And.intro @ft_25_1 <| And.intro @fo_25_2 <| And.intro @fi_25_2 <| And.intro @ft_25_2 <| And.intro @lay_25 <| And.intro @ty_27 <| And.intro @zc_27 <| And.intro @z_27 <| And.intro @fo_27_0 <| And.intro @fi_27_0 <| And.intro @ft_27_0 <| And.intro @fo_27_1 <| And.intro @fi_27_1 <| And.intro @ft_27_1 <| And.intro @fo_27_2 <| And.intro @fi_27_2 <| And.intro @ft_27_2 <| @lay_27
set_option maxHeartbeats 4000000 in
theorem toLinear_sat {a0 : Linear}  {r : Linear} (h : toLinear a0 = some r) : Sat Try.prog 7 [((Linear.pv false) a0)] ((Linear.pv true) r) := by
  replace h := Run.of h
  unfold toLinear at h
  refine Sat.of_m (nt := 16) (rs := [.cell 2 27]) (n := 100000) Try.func7 rfl rfl rfl rfl (by simp) ?_
  simp -failIfUnchanged only [↓RA, RB, RS, fx7, p1, p2, p3, p4, reduceIte, p5, p6, p7, p8]
  repeat (first | with_reducible refine noR_and (by repeat (first | exact noR_empty _ _ | exact noR_nilS _ _ | refine noR_mk _ _ _ _ _ rfl ?_ | refine noR_mkS _ _ _ _ _ rfl ?_)) ?_ | with_reducible refine noC_and (by repeat (first | exact noC_empty _ _ (by simp -failIfUnchanged only [↓RA, RB, RS, fx7, p1, p2, p3, p4, reduceIte, p5, p6, p7, p8]) | exact noC_nilS _ _ (by simp -failIfUnchanged only [↓RA, RB, RS, fx7, p1, p2, p3, p4, reduceIte, p5, p6, p7, p8]) | refine noC_mk _ _ _ _ _ rfl ?_ | refine noC_mkS _ _ _ _ _ rfl ?_)) ?_ | with_reducible refine and_ac ?_ | with_reducible refine And.intro (a := _ = List.range _) (by rfl) ?_)
  obtain ⟨v6, hv6, h⟩ := run_bind h
  refine CallH.mk [false] (toStringS_sat hv6) ?_ ?_ <;> simp -failIfUnchanged only [↓RA, RB, RS, fx7, p1, p2, p3, p4, reduceIte, p5, p6, p7, p8]
  repeat (first | with_reducible refine noR_and (by repeat (first | exact noR_empty _ _ | exact noR_nilS _ _ | refine noR_mk _ _ _ _ _ rfl ?_ | refine noR_mkS _ _ _ _ _ rfl ?_)) ?_ | with_reducible refine noC_and (by repeat (first | exact noC_empty _ _ (by simp -failIfUnchanged only [↓RA, RB, RS, fx7, p1, p2, p3, p4, reduceIte, p5, p6, p7, p8]) | exact noC_nilS _ _ (by simp -failIfUnchanged only [↓RA, RB, RS, fx7, p1, p2, p3, p4, reduceIte, p5, p6, p7, p8]) | refine noC_mk _ _ _ _ _ rfl ?_ | refine noC_mkS _ _ _ _ _ rfl ?_)) ?_ | with_reducible refine and_ac ?_ | with_reducible refine And.intro (a := _ = List.range _) (by rfl) ?_)
  obtain ⟨v10, hv10, h⟩ := run_bind h
  refine CallH.mk [false] (toIntS_sat hv10) ?_ ?_ <;> simp -failIfUnchanged only [↓RA, RB, RS, fx7, p1, p2, p3, p4, reduceIte, p5, p6, p7, p8]
  repeat (first | with_reducible refine noR_and (by repeat (first | exact noR_empty _ _ | exact noR_nilS _ _ | refine noR_mk _ _ _ _ _ rfl ?_ | refine noR_mkS _ _ _ _ _ rfl ?_)) ?_ | with_reducible refine noC_and (by repeat (first | exact noC_empty _ _ (by simp -failIfUnchanged only [↓RA, RB, RS, fx7, p1, p2, p3, p4, reduceIte, p5, p6, p7, p8]) | exact noC_nilS _ _ (by simp -failIfUnchanged only [↓RA, RB, RS, fx7, p1, p2, p3, p4, reduceIte, p5, p6, p7, p8]) | refine noC_mk _ _ _ _ _ rfl ?_ | refine noC_mkS _ _ _ _ _ rfl ?_)) ?_ | with_reducible refine and_ac ?_ | with_reducible refine And.intro (a := _ = List.range _) (by rfl) ?_)
  have h := run_some h
  obtain rfl : _ = r := h
  refine FinH.l ?_
  simp -failIfUnchanged only [↓RA, RB, RS, fx7, p1, p2, p3, p4, reduceIte, p5, p6, p7, p8]

def fx35 := And.intro @ty_3 <| And.intro @zc_3 <| @z_3
set_option maxHeartbeats 4000000 in
theorem spec_l1In_sat {a0 : Int} {a1 : Int} {a2 : Int}  {r : Bool} (h : spec_l1In a0 a1 a2 = some r) : Sat Try.prog 35 [(I a0), (I a1), (I a2)] (B r) := by
  replace h := Run.of h
  unfold spec_l1In at h
  refine Sat.of_m (nt := 15) (rs := [.tmp 6]) (n := 100000) Try.func35 rfl rfl rfl rfl (by simp) ?_
  simp -failIfUnchanged only [↓RA, RB, RS, fx35, p1, p2, p3, p4, reduceIte, p5, p6, p7, p8]
  refine CondH.mk (fun c1 => ?_) (fun c1 => ?_)
  · replace h := run_t c1 h
    simp -failIfUnchanged only [↓RA, RB, RS, fx35, p1, p2, p3, p4, reduceIte, p5, p6, p7, p8, c1]
    have h := run_some h
    obtain rfl : _ = r := h
    refine FinH.l ?_
    simp -failIfUnchanged only [↓RA, RB, RS, fx35, p1, p2, p3, p4, reduceIte, p5, p6, p7, p8, c1]
  · replace h := run_f c1 h
    simp -failIfUnchanged only [↓RA, RB, RS, fx35, p1, p2, p3, p4, reduceIte, p5, p6, p7, p8, c1]
    have h := run_some h
    obtain rfl : _ = r := h
    refine FinH.l ?_
    simp -failIfUnchanged only [↓RA, RB, RS, fx35, p1, p2, p3, p4, reduceIte, p5, p6, p7, p8, c1]

def fx40 := And.intro @ty_5 <| And.intro @zc_5 <| @z_5
set_option maxHeartbeats 4000000 in
theorem spec_l2Small_sat {a0 : Int}  {r : Bool} (h : spec_l2Small a0 = some r) : Sat Try.prog 40 [((Ik .u8) a0)] (B r) := by
  replace h := Run.of h
  unfold spec_l2Small at h
  refine Sat.of_m (nt := 17) (rs := [.tmp 2]) (n := 100000) Try.func40 rfl rfl rfl rfl (by simp) ?_
  simp -failIfUnchanged only [↓RA, RB, RS, fx40, p1, p2, p3, p4, reduceIte, p5, p6, p7, p8]
  refine CondH.mk (fun c1 => ?_) (fun c1 => ?_)
  · replace h := run_t c1 h
    simp -failIfUnchanged only [↓RA, RB, RS, fx40, p1, p2, p3, p4, reduceIte, p5, p6, p7, p8, c1]
    refine CondH.mk (fun c2 => ?_) (fun c2 => ?_)
    · replace h := run_t c2 h
      simp -failIfUnchanged only [↓RA, RB, RS, fx40, p1, p2, p3, p4, reduceIte, p5, p6, p7, p8, c1, c2]
      have h := run_some h
      obtain rfl : _ = r := h
      refine FinH.l ?_
      simp -failIfUnchanged only [↓RA, RB, RS, fx40, p1, p2, p3, p4, reduceIte, p5, p6, p7, p8, c1, c2]
    · replace h := run_f c2 h
      simp -failIfUnchanged only [↓RA, RB, RS, fx40, p1, p2, p3, p4, reduceIte, p5, p6, p7, p8, c1, c2]
      refine CondH.mk (fun c3 => ?_) (fun c3 => ?_)
      · replace h := run_t c3 h
        simp -failIfUnchanged only [↓RA, RB, RS, fx40, p1, p2, p3, p4, reduceIte, p5, p6, p7, p8, c1, c2, c3]
        have h := run_some h
        obtain rfl : _ = r := h
        refine FinH.l ?_
        simp -failIfUnchanged only [↓RA, RB, RS, fx40, p1, p2, p3, p4, reduceIte, p5, p6, p7, p8, c1, c2, c3]
      · replace h := run_f c3 h
        simp -failIfUnchanged only [↓RA, RB, RS, fx40, p1, p2, p3, p4, reduceIte, p5, p6, p7, p8, c1, c2, c3]
        have h := run_some h
        obtain rfl : _ = r := h
        refine FinH.l ?_
        simp -failIfUnchanged only [↓RA, RB, RS, fx40, p1, p2, p3, p4, reduceIte, p5, p6, p7, p8, c1, c2, c3]
  · replace h := run_f c1 h
    simp -failIfUnchanged only [↓RA, RB, RS, fx40, p1, p2, p3, p4, reduceIte, p5, p6, p7, p8, c1]
    refine CondH.mk (fun c4 => ?_) (fun c4 => ?_)
    · replace h := run_t c4 h
      simp -failIfUnchanged only [↓RA, RB, RS, fx40, p1, p2, p3, p4, reduceIte, p5, p6, p7, p8, c1, c4]
      have h := run_some h
      obtain rfl : _ = r := h
      refine FinH.l ?_
      simp -failIfUnchanged only [↓RA, RB, RS, fx40, p1, p2, p3, p4, reduceIte, p5, p6, p7, p8, c1, c4]
    · replace h := run_f c4 h
      simp -failIfUnchanged only [↓RA, RB, RS, fx40, p1, p2, p3, p4, reduceIte, p5, p6, p7, p8, c1, c4]
      have h := run_some h
      obtain rfl : _ = r := h
      refine FinH.l ?_
      simp -failIfUnchanged only [↓RA, RB, RS, fx40, p1, p2, p3, p4, reduceIte, p5, p6, p7, p8, c1, c4]

def fx28 := And.intro @ty_3 <| And.intro @zc_3 <| And.intro @z_3 <| And.intro @ty_4 <| And.intro @zc_4 <| And.intro @z_4 <| And.intro @u_4 <| And.intro @ty_5 <| And.intro @zc_5 <| And.intro @z_5 <| And.intro @ty_9 <| And.intro @zc_9 <| And.intro @z_9 <| @u_9
set_option maxHeartbeats 4000000 in
theorem spec_l2Var_sat {a0 : ByteArray}  {r : Bool} (h : spec_l2Var a0 = some r) : Sat Try.prog 28 [(Sx a0)] (B r) := by
  replace h := Run.of h
  unfold spec_l2Var at h
  refine Sat.of_m (nt := 29) (rs := [.tmp 2]) (n := 100000) Try.func28 rfl rfl rfl rfl (by simp) ?_
  simp -failIfUnchanged only [↓RA, RB, RS, fx28, p1, p2, p3, p4, reduceIte, p5, p6, p7, p8]
  obtain ⟨v6, hv6, h⟩ := run_bind h
  refine CallH.mk [false, false, false] (spec_l1In_sat hv6) ?_ ?_ <;> simp -failIfUnchanged only [↓RA, RB, RS, fx28, p1, p2, p3, p4, reduceIte, p5, p6, p7, p8]
  refine CondH.mk (fun c1 => ?_) (fun c1 => ?_)
  · replace h := run_t c1 h
    simp -failIfUnchanged only [↓RA, RB, RS, fx28, p1, p2, p3, p4, reduceIte, p5, p6, p7, p8, c1]
    obtain ⟨v10, hv10, h⟩ := run_bind h
    refine SidxH.mk hv10 ?_
    simp -failIfUnchanged only [↓RA, RB, RS, fx28, p1, p2, p3, p4, reduceIte, p5, p6, p7, p8, c1]
    refine CondH.mk (fun c2 => ?_) (fun c2 => ?_)
    · replace h := run_t c2 h
      simp -failIfUnchanged only [↓RA, RB, RS, fx28, p1, p2, p3, p4, reduceIte, p5, p6, p7, p8, c1, c2]
      have h := run_some h
      obtain rfl : _ = r := h
      refine FinH.l ?_
      simp -failIfUnchanged only [↓RA, RB, RS, fx28, p1, p2, p3, p4, reduceIte, p5, p6, p7, p8, c1, c2]
    · replace h := run_f c2 h
      simp -failIfUnchanged only [↓RA, RB, RS, fx28, p1, p2, p3, p4, reduceIte, p5, p6, p7, p8, c1, c2]
      obtain ⟨v15, hv15, h⟩ := run_bind h
      refine SidxH.mk hv15 ?_
      simp -failIfUnchanged only [↓RA, RB, RS, fx28, p1, p2, p3, p4, reduceIte, p5, p6, p7, p8, c1, c2]
      refine CondH.mk (fun c3 => ?_) (fun c3 => ?_)
      · replace h := run_t c3 h
        simp -failIfUnchanged only [↓RA, RB, RS, fx28, p1, p2, p3, p4, reduceIte, p5, p6, p7, p8, c1, c2, c3]
        have h := run_some h
        obtain rfl : _ = r := h
        refine FinH.l ?_
        simp -failIfUnchanged only [↓RA, RB, RS, fx28, p1, p2, p3, p4, reduceIte, p5, p6, p7, p8, c1, c2, c3]
      · replace h := run_f c3 h
        simp -failIfUnchanged only [↓RA, RB, RS, fx28, p1, p2, p3, p4, reduceIte, p5, p6, p7, p8, c1, c2, c3]
        obtain ⟨N4, hN4, h⟩ := run_bind h
        obtain ⟨hN4a, hN4b⟩ := bnd_some hN4
        replace h := run_loop h
        refine Mg.forA (N := N4) (a := 1) h (fun i4 s4 => [(0, .val (.pv (Sx a0))), (3, .val (.pv (I (i4 : Int))))]) (fun i4 s4 => []) (St.le_mk2 (by simp -failIfUnchanged only [↓RA, RB, RS, fx28, p1, p2, p3, p4, reduceIte, p5, p6, p7, p8, c1, c2, c3])) (fun i4 s4 hi hj h => ?_) (fun j4 s4 hj h => ?_)
        · have w4 := wrap_succ (i := i4) (by omega)
          simp -failIfUnchanged only [↓RA, RB, RS, fx28, p1, p2, p3, p4, reduceIte, p5, p6, p7, p8, c1, c2, c3]
          refine CondH.tt (decide_eq_true (by omega)) (fun c4 => ?_)
          simp -failIfUnchanged only [↓RA, RB, RS, fx28, p1, p2, p3, p4, reduceIte, p5, p6, p7, p8, c1, c2, c3, c4]
          obtain ⟨v26, hv26, h⟩ := run_bind h
          refine SidxH.mk hv26 ?_
          simp -failIfUnchanged only [↓RA, RB, RS, fx28, p1, p2, p3, p4, reduceIte, p5, p6, p7, p8, c1, c2, c3, c4]
          obtain ⟨v27, hv27, h⟩ := run_bind h
          refine CallH.mk [false] (spec_l2Small_sat hv27) ?_ ?_ <;> simp -failIfUnchanged only [↓RA, RB, RS, fx28, p1, p2, p3, p4, reduceIte, p5, p6, p7, p8, c1, c2, c3, c4]
          refine CondH.mk (fun c5 => ?_) (fun c5 => ?_)
          · replace h := run_t c5 h
            simp -failIfUnchanged only [↓RA, RB, RS, fx28, p1, p2, p3, p4, reduceIte, p5, p6, p7, p8, c1, c2, c3, c4, c5]
            have h := run_some h
            refine RdH.mk ⟨_, h, ?_⟩
            refine St.le_mk2 ?_
            simp -failIfUnchanged only [↓RA, RB, RS, fx28, p1, p2, p3, p4, reduceIte, p5, p6, p7, p8, c1, c2, c3, c4, c5, w4]
          · replace h := run_f c5 h
            simp -failIfUnchanged only [↓RA, RB, RS, fx28, p1, p2, p3, p4, reduceIte, p5, p6, p7, p8, c1, c2, c3, c4, c5]
            have h := run_some h
            obtain rfl : _ = r := h
            refine FinH.l ?_
            simp -failIfUnchanged only [↓RA, RB, RS, fx28, p1, p2, p3, p4, reduceIte, p5, p6, p7, p8, c1, c2, c3, c4, c5]
        · simp -failIfUnchanged only [↓RA, RB, RS, fx28, p1, p2, p3, p4, reduceIte, p5, p6, p7, p8, c1, c2, c3]
          refine CondH.ff (decide_eq_false (by omega)) (fun c6 => ?_)
          simp -failIfUnchanged only [↓RA, RB, RS, fx28, p1, p2, p3, p4, reduceIte, p5, p6, p7, p8, c1, c2, c3, c6]
          have h := run_some h
          obtain rfl : _ = r := h
          refine FinH.l ?_
          simp -failIfUnchanged only [↓RA, RB, RS, fx28, p1, p2, p3, p4, reduceIte, p5, p6, p7, p8, c1, c2, c3, c6]
  · replace h := run_f c1 h
    simp -failIfUnchanged only [↓RA, RB, RS, fx28, p1, p2, p3, p4, reduceIte, p5, p6, p7, p8, c1]
    have h := run_some h
    obtain rfl : _ = r := h
    refine FinH.l ?_
    simp -failIfUnchanged only [↓RA, RB, RS, fx28, p1, p2, p3, p4, reduceIte, p5, p6, p7, p8, c1]

def fx16 := And.intro @ty_3 <| And.intro @zc_3 <| And.intro @z_3 <| And.intro @ty_4 <| And.intro @zc_4 <| And.intro @z_4 <| And.intro @u_4 <| And.intro @ty_9 <| And.intro @zc_9 <| And.intro @z_9 <| And.intro @u_9 <| And.intro @ty_22 <| And.intro @zc_22 <| And.intro @z_22 <| And.intro @es_22 <| And.intro @eb_22 <| And.intro @sl_22 <| And.intro @is_22 <| And.intro @el_22 <| And.intro @ze_22 <| And.intro @ez_22 <| And.intro @ty_23 <| And.intro @zc_23 <| And.intro @z_23 <| And.intro @es_23 <| And.intro @eb_23 <| And.intro @sl_23 <| And.intro @is_23 <| And.intro @el_23 <| And.intro @ze_23 <| And.intro @ez_23 <| And.intro @ty_27 <| And.intro @zc_27 <| And.intro @z_27 <| And.intro @fo_27_0 <| And.intro @fi_27_0 <| And.intro @ft_27_0 <| And.intro @fo_27_1 <| And.intro @fi_27_1 <| And.intro @ft_27_1 <| And.intro @fo_27_2 <| And.intro @fi_27_2 <| And.intro @ft_27_2 <| And.intro @lay_27 <| @mixedT
set_option maxHeartbeats 4000000 in
theorem spec_l25Linear_sat {a0 : Linear}  {r : Bool} (h : spec_l25Linear a0 = some r) : Sat Try.prog 16 [((Linear.pv false) a0)] (B r) := by
  replace h := Run.of h
  unfold spec_l25Linear at h
  refine Sat.of_m (nt := 64) (rs := [.tmp 2]) (n := 100000) Try.func16 rfl rfl rfl rfl (by simp) ?_
  simp -failIfUnchanged only [↓RA, RB, RS, fx16, p1, p2, p3, p4, reduceIte, p5, p6, p7, p8]
  repeat (first | with_reducible refine noR_and (by repeat (first | exact noR_empty _ _ | exact noR_nilS _ _ | refine noR_mk _ _ _ _ _ rfl ?_ | refine noR_mkS _ _ _ _ _ rfl ?_)) ?_ | with_reducible refine noC_and (by repeat (first | exact noC_empty _ _ (by simp -failIfUnchanged only [↓RA, RB, RS, fx16, p1, p2, p3, p4, reduceIte, p5, p6, p7, p8]) | exact noC_nilS _ _ (by simp -failIfUnchanged only [↓RA, RB, RS, fx16, p1, p2, p3, p4, reduceIte, p5, p6, p7, p8]) | refine noC_mk _ _ _ _ _ rfl ?_ | refine noC_mkS _ _ _ _ _ rfl ?_)) ?_ | with_reducible refine and_ac ?_ | with_reducible refine And.intro (a := _ = List.range _) (by rfl) ?_)
  refine CondH.mk (fun c1 => ?_) (fun c1 => ?_)
  · replace h := run_t c1 h
    simp -failIfUnchanged only [↓RA, RB, RS, fx16, p1, p2, p3, p4, reduceIte, p5, p6, p7, p8, c1]
    have h := run_some h
    obtain rfl : _ = r := h
    refine FinH.l ?_
    simp -failIfUnchanged only [↓RA, RB, RS, fx16, p1, p2, p3, p4, reduceIte, p5, p6, p7, p8, c1]
  · replace h := run_f c1 h
    simp -failIfUnchanged only [↓RA, RB, RS, fx16, p1, p2, p3, p4, reduceIte, p5, p6, p7, p8, c1]
    refine CondH.mk (fun c2 => ?_) (fun c2 => ?_)
    · replace h := run_t c2 h
      simp -failIfUnchanged only [↓RA, RB, RS, fx16, p1, p2, p3, p4, reduceIte, p5, p6, p7, p8, c1, c2]
      obtain ⟨v20, hv20, h⟩ := run_bind h
      refine CallH.mk [false, false, false] (spec_l1In_sat hv20) ?_ ?_ <;> simp -failIfUnchanged only [↓RA, RB, RS, fx16, p1, p2, p3, p4, reduceIte, p5, p6, p7, p8, c1, c2]
      refine CondH.mk (fun c3 => ?_) (fun c3 => ?_)
      · replace h := run_t c3 h
        simp -failIfUnchanged only [↓RA, RB, RS, fx16, p1, p2, p3, p4, reduceIte, p5, p6, p7, p8, c1, c2, c3]
        refine Mg.know_sl (b := false) (sz := 1) (es := a0.Vars.map Sx) 5 (by simp -failIfUnchanged only [↓RA, RB, RS, fx16, p1, p2, p3, p4, reduceIte, p5, p6, p7, p8, c1, c2, c3]) fun hl5 => ?_; rw [List.length_map] at hl5
        replace h := run_loop h
        refine Mg.forN h (fun i4 s4 => [(1, .box (.pv ((Linear.pv false) a0))), (3, .val (.pv (I (i4 : Int))))]) (fun i4 s4 => []) (St.le_mk2 (by simp -failIfUnchanged only [↓RA, RB, RS, fx16, p1, p2, p3, p4, reduceIte, p5, p6, p7, p8, c1, c2, c3])) (fun i4 s4 hi h => ?_) (fun s4 h => ?_)
        · have w4 := wrap_succ (i := i4) (by omega)
          simp -failIfUnchanged only [↓RA, RB, RS, fx16, p1, p2, p3, p4, reduceIte, p5, p6, p7, p8, c1, c2, c3]
          refine CondH.tt (decide_eq_true (by omega)) (fun c4 => ?_)
          simp -failIfUnchanged only [↓RA, RB, RS, fx16, p1, p2, p3, p4, reduceIte, p5, p6, p7, p8, c1, c2, c3, c4]
          obtain ⟨v33, hv33, h⟩ := run_bind h
          refine IdxH.mk (f := Sx) hv33 ?_ ?_ <;> simp -failIfUnchanged only [↓RA, RB, RS, fx16, p1, p2, p3, p4, reduceIte, p5, p6, p7, p8, c1, c2, c3, c4]
          obtain ⟨v35, hv35, h⟩ := run_bind h
          refine CallH.mk [false] (spec_l2Var_sat hv35) ?_ ?_ <;> simp -failIfUnchanged only [↓RA, RB, RS, fx16, p1, p2, p3, p4, reduceIte, p5, p6, p7, p8, c1, c2, c3, c4]
          refine CondH.mk (fun c5 => ?_) (fun c5 => ?_)
          · replace h := run_t c5 h
            simp -failIfUnchanged only [↓RA, RB, RS, fx16, p1, p2, p3, p4, reduceIte, p5, p6, p7, p8, c1, c2, c3, c4, c5]
            obtain ⟨v41, hv41, h⟩ := run_bind h
            refine IdxH.mk (f := I) hv41 ?_ ?_ <;> simp -failIfUnchanged only [↓RA, RB, RS, fx16, p1, p2, p3, p4, reduceIte, p5, p6, p7, p8, c1, c2, c3, c4, c5]
            obtain ⟨v43, hv43, h⟩ := run_bind h
            refine CallH.mk [false, false, false] (spec_l1In_sat hv43) ?_ ?_ <;> simp -failIfUnchanged only [↓RA, RB, RS, fx16, p1, p2, p3, p4, reduceIte, p5, p6, p7, p8, c1, c2, c3, c4, c5]
            refine CondH.mk (fun c6 => ?_) (fun c6 => ?_)
            · replace h := run_t c6 h
              simp -failIfUnchanged only [↓RA, RB, RS, fx16, p1, p2, p3, p4, reduceIte, p5, p6, p7, p8, c1, c2, c3, c4, c5, c6]
              refine CondH.mk (fun c7 => ?_) (fun c7 => ?_)
              · replace h := run_t c7 h
                simp -failIfUnchanged only [↓RA, RB, RS, fx16, p1, p2, p3, p4, reduceIte, p5, p6, p7, p8, c1, c2, c3, c4, c5, c6, c7]
                obtain ⟨v54, hv54, h⟩ := run_bind h
                refine IdxH.mk (f := Sx) hv54 ?_ ?_ <;> simp -failIfUnchanged only [↓RA, RB, RS, fx16, p1, p2, p3, p4, reduceIte, p5, p6, p7, p8, c1, c2, c3, c4, c5, c6, c7]
                obtain ⟨v59, hv59, h⟩ := run_bind h
                refine IdxH.mk (f := Sx) hv59 ?_ ?_ <;> simp -failIfUnchanged only [↓RA, RB, RS, fx16, p1, p2, p3, p4, reduceIte, p5, p6, p7, p8, c1, c2, c3, c4, c5, c6, c7]
                refine And.intro (DrawH.none (by rfl) (by first | rfl | (simp -failIfUnchanged only [↓RA, RB, RS, fx16, p1, p2, p3, p4, reduceIte, p5, p6, p7, p8] <;> rfl)) (by first | rfl | (simp -failIfUnchanged only [↓RA, RB, RS, fx16, p1, p2, p3, p4, reduceIte, p5, p6, p7, p8] <;> rfl)) (by first | rfl | (simp -failIfUnchanged only [↓RA, RB, RS, fx16, p1, p2, p3, p4, reduceIte, p5, p6, p7, p8] <;> rfl))) ?_
                simp -failIfUnchanged only [↓RA, RB, RS, fx16, p1, p2, p3, p4, reduceIte, p5, p6, p7, p8, c1, c2, c3, c4, c5, c6, c7]
                refine CondH.mk (fun c8 => ?_) (fun c8 => ?_)
                · replace h := run_t c8 h
                  simp -failIfUnchanged only [↓RA, RB, RS, fx16, p1, p2, p3, p4, reduceIte, p5, p6, p7, p8, c1, c2, c3, c4, c5, c6, c7, c8]
                  have h := run_some h
                  refine RdH.mk ⟨_, h, ?_⟩
                  refine St.le_mk2 ?_
                  simp -failIfUnchanged only [↓RA, RB, RS, fx16, p1, p2, p3, p4, reduceIte, p5, p6, p7, p8, c1, c2, c3, c4, c5, c6, c7, c8, w4]
                · replace h := run_f c8 h
                  simp -failIfUnchanged only [↓RA, RB, RS, fx16, p1, p2, p3, p4, reduceIte, p5, p6, p7, p8, c1, c2, c3, c4, c5, c6, c7, c8]
                  have h := run_some h
                  obtain rfl : _ = r := h
                  refine FinH.l ?_
                  simp -failIfUnchanged only [↓RA, RB, RS, fx16, p1, p2, p3, p4, reduceIte, p5, p6, p7, p8, c1, c2, c3, c4, c5, c6, c7, c8]
              · replace h := run_f c7 h
                simp -failIfUnchanged only [↓RA, RB, RS, fx16, p1, p2, p3, p4, reduceIte, p5, p6, p7, p8, c1, c2, c3, c4, c5, c6, c7]
                refine And.intro (DrawH.none (by rfl) (by first | rfl | (simp -failIfUnchanged only [↓RA, RB, RS, fx16, p1, p2, p3, p4, reduceIte, p5, p6, p7, p8] <;> rfl)) (by first | rfl | (simp -failIfUnchanged only [↓RA, RB, RS, fx16, p1, p2, p3, p4, reduceIte, p5, p6, p7, p8] <;> rfl)) (by first | rfl | (simp -failIfUnchanged only [↓RA, RB, RS, fx16, p1, p2, p3, p4, reduceIte, p5, p6, p7, p8] <;> rfl))) ?_
                simp -failIfUnchanged only [↓RA, RB, RS, fx16, p1, p2, p3, p4, reduceIte, p5, p6, p7, p8, c1, c2, c3, c4, c5, c6, c7]
                have h := run_some h
                refine RdH.mk ⟨_, h, ?_⟩
                refine St.le_mk2 ?_
                simp -failIfUnchanged only [↓RA, RB, RS, fx16, p1, p2, p3, p4, reduceIte, p5, p6, p7, p8, c1, c2, c3, c4, c5, c6, c7, w4]
            · replace h := run_f c6 h
              simp -failIfUnchanged only [↓RA, RB, RS, fx16, p1, p2, p3, p4, reduceIte, p5, p6, p7, p8, c1, c2, c3, c4, c5, c6]
              refine And.intro (DrawH.none (by rfl) (by first | rfl | (simp -failIfUnchanged only [↓RA, RB, RS, fx16, p1, p2, p3, p4, reduceIte, p5, p6, p7, p8] <;> rfl)) (by first | rfl | (simp -failIfUnchanged only [↓RA, RB, RS, fx16, p1, p2, p3, p4, reduceIte, p5, p6, p7, p8] <;> rfl)) (by first | rfl | (simp -failIfUnchanged only [↓RA, RB, RS, fx16, p1, p2, p3, p4, reduceIte, p5, p6, p7, p8] <;> rfl))) ?_
              simp -failIfUnchanged only [↓RA, RB, RS, fx16, p1, p2, p3, p4, reduceIte, p5, p6, p7, p8, c1, c2, c3, c4, c5, c6]
              have h := run_some h
              obtain rfl : _ = r := h
              refine FinH.l ?_
              simp -failIfUnchanged only [↓RA, RB, RS, fx16, p1, p2, p3, p4, reduceIte, p5, p6, p7, p8, c1, c2, c3, c4, c5, c6]
          · replace h := run_f c5 h
            simp -failIfUnchanged only [↓RA, RB, RS, fx16, p1, p2, p3, p4, reduceIte, p5, p6, p7, p8, c1, c2, c3, c4, c5]
            refine And.intro (DrawH.none (by rfl) (by first | rfl | (simp -failIfUnchanged only [↓RA, RB, RS, fx16, p1, p2, p3, p4, reduceIte, p5, p6, p7, p8] <;> rfl)) (by first | rfl | (simp -failIfUnchanged only [↓RA, RB, RS, fx16, p1, p2, p3, p4, reduceIte, p5, p6, p7, p8] <;> rfl)) (by first | rfl | (simp -failIfUnchanged only [↓RA, RB, RS, fx16, p1, p2, p3, p4, reduceIte, p5, p6, p7, p8] <;> rfl))) ?_
            simp -failIfUnchanged only [↓RA, RB, RS, fx16, p1, p2, p3, p4, reduceIte, p5, p6, p7, p8, c1, c2, c3, c4, c5]
            have h := run_some h
            obtain rfl : _ = r := h
            refine FinH.l ?_
            simp -failIfUnchanged only [↓RA, RB, RS, fx16, p1, p2, p3, p4, reduceIte, p5, p6, p7, p8, c1, c2, c3, c4, c5]
        · simp -failIfUnchanged only [↓RA, RB, RS, fx16, p1, p2, p3, p4, reduceIte, p5, p6, p7, p8, c1, c2, c3]
          refine CondH.ff (decide_eq_false (by omega)) (fun c9 => ?_)
          simp -failIfUnchanged only [↓RA, RB, RS, fx16, p1, p2, p3, p4, reduceIte, p5, p6, p7, p8, c1, c2, c3, c9]
          have h := run_some h
          obtain rfl : _ = r := h
          refine FinH.l ?_
          simp -failIfUnchanged only [↓RA, RB, RS, fx16, p1, p2, p3, p4, reduceIte, p5, p6, p7, p8, c1, c2, c3, c9]
      · replace h := run_f c3 h
        simp -failIfUnchanged only [↓RA, RB, RS, fx16, p1, p2, p3, p4, reduceIte, p5, p6, p7, p8, c1, c2, c3]
        have h := run_some h
        obtain rfl : _ = r := h
        refine FinH.l ?_
        simp -failIfUnchanged only [↓RA, RB, RS, fx16, p1, p2, p3, p4, reduceIte, p5, p6, p7, p8, c1, c2, c3]
    · replace h := run_f c2 h
      simp -failIfUnchanged only [↓RA, RB, RS, fx16, p1, p2, p3, p4, reduceIte, p5, p6, p7, p8, c1, c2]
      have h := run_some h
      obtain rfl : _ = r := h
      refine FinH.l ?_
      simp -failIfUnchanged only [↓RA, RB, RS, fx16, p1, p2, p3, p4, reduceIte, p5, p6, p7, p8, c1, c2]

def fx30 := And.intro @ty_3 <| And.intro @zc_3 <| And.intro @z_3 <| And.intro @ty_9 <| And.intro @zc_9 <| And.intro @z_9 <| And.intro @u_9 <| And.intro @ty_22 <| And.intro @zc_22 <| And.intro @z_22 <| And.intro @es_22 <| And.intro @eb_22 <| And.intro @sl_22 <| And.intro @is_22 <| And.intro @el_22 <| And.intro @ze_22 <| And.intro @ez_22 <| And.intro @ty_23 <| And.intro @zc_23 <| And.intro @z_23 <| And.intro @es_23 <| And.intro @eb_23 <| And.intro @sl_23 <| And.intro @is_23 <| And.intro @el_23 <| And.intro @ze_23 <| And.intro @ez_23 <| And.intro @ty_27 <| And.intro @zc_27 <| And.intro @z_27 <| And.intro @fo_27_0 <| And.intro @fi_27_0 <| And.intro @ft_27_0 <| And.intro @fo_27_1 <| And.intro @fi_27_1 <| And.intro @ft_27_1 <| And.intro @fo_27_2 <| And.intro @fi_27_2 <| And.intro @ft_27_2 <| @lay_27
set_option maxHeartbeats 4000000 in
theorem spec_l25Slope_sat {a0 : Linear} {a1 : ByteArray}  {r : Int} (h : spec_l25Slope a0 a1 = some r) : Sat Try.prog 30 [((Linear.pv false) a0), (Sx a1)] (I r) := by
  replace h := Run.of h
  unfold spec_l25Slope at h
  refine Sat.of_m (nt := 25) (rs := [.tmp 4]) (n := 100000) Try.func30 rfl rfl rfl rfl (by simp) ?_
  simp -failIfUnchanged only [↓RA, RB, RS, fx30, p1, p2, p3, p4, reduceIte, p5, p6, p7, p8]
  repeat (first | with_reducible refine noR_and (by repeat (first | exact noR_empty _ _ | exact noR_nilS _ _ | refine noR_mk _ _ _ _ _ rfl ?_ | refine noR_mkS _ _ _ _ _ rfl ?_)) ?_ | with_reducible refine noC_and (by repeat (first | exact noC_empty _ _ (by simp -failIfUnchanged only [↓RA, RB, RS, fx30, p1, p2, p3, p4, reduceIte, p5, p6, p7, p8]) | exact noC_nilS _ _ (by simp -failIfUnchanged only [↓RA, RB, RS, fx30, p1, p2, p3, p4, reduceIte, p5, p6, p7, p8]) | refine noC_mk _ _ _ _ _ rfl ?_ | refine noC_mkS _ _ _ _ _ rfl ?_)) ?_ | with_reducible refine and_ac ?_ | with_reducible refine And.intro (a := _ = List.range _) (by rfl) ?_)
  refine Mg.know_val2 (b := false) (sz := 1) (es := a0.Vars.map Sx) (x := (.pv ((Linear.pv false) a0))) 0 [0] (by simp -failIfUnchanged only [↓RA, RB, RS, fx30, p1, p2, p3, p4, reduceIte, p5, p6, p7, p8]) fun hl0 => ?_; rw [List.length_map] at hl0
  replace h := run_loop h
  refine Mg.forN h (fun i2 s2 => [(1, .val (.pv (Sx a1))), (2, .box (.pv ((Linear.pv false) a0))), (5, .val (.pv (I (i2 : Int))))]) (fun i2 s2 => []) (St.le_mk2 (by simp -failIfUnchanged only [↓RA, RB, RS, fx30, p1, p2, p3, p4, reduceIte, p5, p6, p7, p8])) (fun i2 s2 hi h => ?_) (fun s2 h => ?_)
  · have w2 := wrap_succ (i := i2) (by omega)
    simp -failIfUnchanged only [↓RA, RB, RS, fx30, p1, p2, p3, p4, reduceIte, p5, p6, p7, p8]
    refine CondH.tt (decide_eq_true (by omega)) (fun c1 => ?_)
    simp -failIfUnchanged only [↓RA, RB, RS, fx30, p1, p2, p3, p4, reduceIte, p5, p6, p7, p8, c1]
    obtain ⟨v16, hv16, h⟩ := run_bind h
    refine IdxH.mk (f := Sx) hv16 ?_ ?_ <;> simp -failIfUnchanged only [↓RA, RB, RS, fx30, p1, p2, p3, p4, reduceIte, p5, p6, p7, p8, c1]
    refine CondH.mk (fun c2 => ?_) (fun c2 => ?_)
    · replace h := run_t c2 h
      simp -failIfUnchanged only [↓RA, RB, RS, fx30, p1, p2, p3, p4, reduceIte, p5, p6, p7, p8, c1, c2]
      obtain ⟨v23, hv23, h⟩ := run_bind h
      refine IdxH.mk (f := I) hv23 ?_ ?_ <;> simp -failIfUnchanged only [↓RA, RB, RS, fx30, p1, p2, p3, p4, reduceIte, p5, p6, p7, p8, c1, c2]
      have h := run_some h
      obtain rfl : _ = r := h
      refine FinH.l ?_
      simp -failIfUnchanged only [↓RA, RB, RS, fx30, p1, p2, p3, p4, reduceIte, p5, p6, p7, p8, c1, c2]
    · replace h := run_f c2 h
      simp -failIfUnchanged only [↓RA, RB, RS, fx30, p1, p2, p3, p4, reduceIte, p5, p6, p7, p8, c1, c2]
      have h := run_some h
      refine RdH.mk ⟨_, h, ?_⟩
      refine St.le_mk2 ?_
      simp -failIfUnchanged only [↓RA, RB, RS, fx30, p1, p2, p3, p4, reduceIte, p5, p6, p7, p8, c1, c2, w2]
  · simp -failIfUnchanged only [↓RA, RB, RS, fx30, p1, p2, p3, p4, reduceIte, p5, p6, p7, p8]
    refine CondH.ff (decide_eq_false (by omega)) (fun c3 => ?_)
    simp -failIfUnchanged only [↓RA, RB, RS, fx30, p1, p2, p3, p4, reduceIte, p5, p6, p7, p8, c3]
    have h := run_some h
    obtain rfl : _ = r := h
    refine FinH.l ?_
    simp -failIfUnchanged only [↓RA, RB, RS, fx30, p1, p2, p3, p4, reduceIte, p5, p6, p7, p8, c3]

def fx46 := And.intro @ty_3 <| And.intro @zc_3 <| And.intro @z_3 <| And.intro @ty_9 <| And.intro @zc_9 <| And.intro @z_9 <| And.intro @u_9 <| And.intro @ty_22 <| And.intro @zc_22 <| And.intro @z_22 <| And.intro @es_22 <| And.intro @eb_22 <| And.intro @sl_22 <| And.intro @is_22 <| And.intro @el_22 <| And.intro @ze_22 <| And.intro @ez_22 <| @mixedT
set_option maxHeartbeats 4000000 in
theorem spec_l2Put_sat {a0 : List ByteArray} {a1 : ByteArray}  {r : List ByteArray} (h : spec_l2Put a0 a1 = some r) : Sat Try.prog 46 [(.sl false 1 (a0.map Sx)), (Sx a1)] (.sl false 1 (r.map Sx)) := by
  replace h := Run.of h
  unfold spec_l2Put at h
  refine Sat.of_m (nt := 45) (rs := [.tmp 4]) (n := 100000) Try.func46 rfl rfl rfl rfl (by simp) ?_
  simp -failIfUnchanged only [↓RA, RB, RS, fx46, p1, p2, p3, p4, reduceIte, p5, p6, p7, p8]
  refine Mg.know_sl (b := false) (sz := 1) (es := a0.map Sx) 0 (by simp -failIfUnchanged only [↓RA, RB, RS, fx46, p1, p2, p3, p4, reduceIte, p5, p6, p7, p8]) fun hl0 => ?_; rw [List.length_map] at hl0
  replace h := run_loop h
  refine Mg.forN h (fun i2 s2 => [(0, .val (.pv (.sl false 1 (a0.map Sx)))), (1, .val (.pv (Sx a1))), (5, .val (.pv (I (i2 : Int))))]) (fun i2 s2 => []) (St.le_mk2 (by simp -failIfUnchanged only [↓RA, RB, RS, fx46, p1, p2, p3, p4, reduceIte, p5, p6, p7, p8])) (fun i2 s2 hi h => ?_) (fun s2 h => ?_)
  · have w2 := wrap_succ (i := i2) (by omega)
    simp -failIfUnchanged only [↓RA, RB, RS, fx46, p1, p2, p3, p4, reduceIte, p5, p6, p7, p8]
    refine CondH.tt (decide_eq_true (by omega)) (fun c1 => ?_)
    simp -failIfUnchanged only [↓RA, RB, RS, fx46, p1, p2, p3, p4, reduceIte, p5, p6, p7, p8, c1]
    obtain ⟨v13, hv13, h⟩ := run_bind h
    refine IdxH.mk (f := Sx) hv13 ?_ ?_ <;> simp -failIfUnchanged only [↓RA, RB, RS, fx46, p1, p2, p3, p4, reduceIte, p5, p6, p7, p8, c1]
    refine CondH.mk (fun c2 => ?_) (fun c2 => ?_)
    · replace h := run_t c2 h
      simp -failIfUnchanged only [↓RA, RB, RS, fx46, p1, p2, p3, p4, reduceIte, p5, p6, p7, p8, c1, c2]
      have h := run_some h
      refine RdH.mk ⟨_, h, ?_⟩
      refine St.le_mk2 ?_
      simp -failIfUnchanged only [↓RA, RB, RS, fx46, p1, p2, p3, p4, reduceIte, p5, p6, p7, p8, c1, c2, w2]
    · replace h := run_f c2 h
      simp -failIfUnchanged only [↓RA, RB, RS, fx46, p1, p2, p3, p4, reduceIte, p5, p6, p7, p8, c1, c2]
      obtain ⟨v27, hv27, h⟩ := run_bind h
      refine IdxH.mk (f := Sx) hv27 ?_ ?_ <;> simp -failIfUnchanged only [↓RA, RB, RS, fx46, p1, p2, p3, p4, reduceIte, p5, p6, p7, p8, c1, c2]
      refine CondH.mk (fun c3 => ?_) (fun c3 => ?_)
      · replace h := run_t c3 h
        simp -failIfUnchanged only [↓RA, RB, RS, fx46, p1, p2, p3, p4, reduceIte, p5, p6, p7, p8, c1, c2, c3]
        have h := run_some h
        obtain rfl : _ = r := h
        refine FinH.r ?_
        simp -failIfUnchanged only [↓RA, RB, RS, fx46, p1, p2, p3, p4, reduceIte, p5, p6, p7, p8, c1, c2, c3]
      · replace h := run_f c3 h
        simp -failIfUnchanged only [↓RA, RB, RS, fx46, p1, p2, p3, p4, reduceIte, p5, p6, p7, p8, c1, c2, c3]
        repeat (first | with_reducible refine noR_and (by repeat (first | exact noR_empty _ _ | exact noR_nilS _ _ | refine noR_mk _ _ _ _ _ rfl ?_ | refine noR_mkS _ _ _ _ _ rfl ?_)) ?_ | with_reducible refine noC_and (by repeat (first | exact noC_empty _ _ (by simp -failIfUnchanged only [↓RA, RB, RS, fx46, p1, p2, p3, p4, reduceIte, p5, p6, p7, p8]) | exact noC_nilS _ _ (by simp -failIfUnchanged only [↓RA, RB, RS, fx46, p1, p2, p3, p4, reduceIte, p5, p6, p7, p8]) | refine noC_mk _ _ _ _ _ rfl ?_ | refine noC_mkS _ _ _ _ _ rfl ?_)) ?_ | with_reducible refine and_ac ?_ | with_reducible refine And.intro (a := _ = List.range _) (by rfl) ?_)
        obtain ⟨v36, hv36, h⟩ := run_bind h
        refine SlcH.mk (f := Sx) hv36 ?_ ?_ <;> simp -failIfUnchanged only [↓RA, RB, RS, fx46, p1, p2, p3, p4, reduceIte, p5, p6, p7, p8, c1, c2, c3]
        obtain ⟨v37, hv37, h⟩ := run_bind h
        refine AppH.mk (f := Sx) (fun _ => rfl) hv37 ?_ ?_ ?_ <;> simp -failIfUnchanged only [↓RA, RB, RS, fx46, p1, p2, p3, p4, reduceIte, p5, p6, p7, p8, c1, c2, c3]
        repeat (first | with_reducible refine noR_and (by repeat (first | exact noR_empty _ _ | exact noR_nilS _ _ | refine noR_mk _ _ _ _ _ rfl ?_ | refine noR_mkS _ _ _ _ _ rfl ?_)) ?_ | with_reducible refine noC_and (by repeat (first | exact noC_empty _ _ (by simp -failIfUnchanged only [↓RA, RB, RS, fx46, p1, p2, p3, p4, reduceIte, p5, p6, p7, p8]) | exact noC_nilS _ _ (by simp -failIfUnchanged only [↓RA, RB, RS, fx46, p1, p2, p3, p4, reduceIte, p5, p6, p7, p8]) | refine noC_mk _ _ _ _ _ rfl ?_ | refine noC_mkS _ _ _ _ _ rfl ?_)) ?_ | with_reducible refine and_ac ?_ | with_reducible refine And.intro (a := _ = List.range _) (by rfl) ?_)
        obtain ⟨v40, hv40, h⟩ := run_bind h
        refine AppH.mk (f := Sx) (fun _ => rfl) hv40 ?_ ?_ ?_ <;> simp -failIfUnchanged only [↓RA, RB, RS, fx46, p1, p2, p3, p4, reduceIte, p5, p6, p7, p8, c1, c2, c3]
        repeat (first | with_reducible refine noR_and (by repeat (first | exact noR_empty _ _ | exact noR_nilS _ _ | refine noR_mk _ _ _ _ _ rfl ?_ | refine noR_mkS _ _ _ _ _ rfl ?_)) ?_ | with_reducible refine noC_and (by repeat (first | exact noC_empty _ _ (by simp -failIfUnchanged only [↓RA, RB, RS, fx46, p1, p2, p3, p4, reduceIte, p5, p6, p7, p8]) | exact noC_nilS _ _ (by simp -failIfUnchanged only [↓RA, RB, RS, fx46, p1, p2, p3, p4, reduceIte, p5, p6, p7, p8]) | refine noC_mk _ _ _ _ _ rfl ?_ | refine noC_mkS _ _ _ _ _ rfl ?_)) ?_ | with_reducible refine and_ac ?_ | with_reducible refine And.intro (a := _ = List.range _) (by rfl) ?_)
        obtain ⟨v43, hv43, h⟩ := run_bind h
        refine SlcH.mk (f := Sx) hv43 ?_ ?_ <;> simp -failIfUnchanged only [↓RA, RB, RS, fx46, p1, p2, p3, p4, reduceIte, p5, p6, p7, p8, c1, c2, c3]
        obtain ⟨v44, hv44, h⟩ := run_bind h
        refine AppH.mk (f := Sx) (fun _ => rfl) hv44 ?_ ?_ ?_ <;> simp -failIfUnchanged only [↓RA, RB, RS, fx46, p1, p2, p3, p4, reduceIte, p5, p6, p7, p8, c1, c2, c3]
        repeat (first | with_reducible refine noR_and (by repeat (first | exact noR_empty _ _ | exact noR_nilS _ _ | refine noR_mk _ _ _ _ _ rfl ?_ | refine noR_mkS _ _ _ _ _ rfl ?_)) ?_ | with_reducible refine noC_and (by repeat (first | exact noC_empty _ _ (by simp -failIfUnchanged only [↓RA, RB, RS, fx46, p1, p2, p3, p4, reduceIte, p5, p6, p7, p8]) | exact noC_nilS _ _ (by simp -failIfUnchanged only [↓RA, RB, RS, fx46, p1, p2, p3, p4, reduceIte, p5, p6, p7, p8]) | refine noC_mk _ _ _ _ _ rfl ?_ | refine noC_mkS _ _ _ _ _ rfl ?_)) ?_ | with_reducible refine and_ac ?_ | with_reducible refine And.intro (a := _ = List.range _) (by rfl) ?_)
        refine And.intro (DrawH.mk [] [528, 592, 624, 640, 704] (by rfl) (by first | rfl | (simp -failIfUnchanged only [↓RA, RB, RS, fx46, p1, p2, p3, p4, reduceIte, p5, p6, p7, p8] <;> rfl)) (by first | rfl | (simp -failIfUnchanged only [↓RA, RB, RS, fx46, p1, p2, p3, p4, reduceIte, p5, p6, p7, p8] <;> rfl)) (by first | rfl | (simp -failIfUnchanged only [↓RA, RB, RS, fx46, p1, p2, p3, p4, reduceIte, p5, p6, p7, p8] <;> rfl)) (by simp) (by simp -failIfUnchanged only [↓RA, RB, RS, fx46, p1, p2, p3, p4, reduceIte, p5, p6, p7, p8]; repeat (first | exact noC_empty _ _ (by simp -failIfUnchanged only [↓RA, RB, RS, fx46, p1, p2, p3, p4, reduceIte, p5, p6, p7, p8]) | exact noC_nilS _ _ (by simp -failIfUnchanged only [↓RA, RB, RS, fx46, p1, p2, p3, p4, reduceIte, p5, p6, p7, p8]) | refine noC_mk _ _ _ _ _ rfl ?_ | refine noC_mkS _ _ _ _ _ rfl ?_ | refine And.intro ?_ ?_))) ?_
        simp -failIfUnchanged only [↓RA, RB, RS, fx46, p1, p2, p3, p4, reduceIte, p5, p6, p7, p8, c1, c2, c3]
        have h := run_some h
        obtain rfl : _ = r := h
        refine FinH.r ?_
        simp -failIfUnchanged only [↓RA, RB, RS, fx46, p1, p2, p3, p4, reduceIte, p5, p6, p7, p8, c1, c2, c3]
  · simp -failIfUnchanged only [↓RA, RB, RS, fx46, p1, p2, p3, p4, reduceIte, p5, p6, p7, p8]
    refine CondH.ff (decide_eq_false (by omega)) (fun c4 => ?_)
    simp -failIfUnchanged only [↓RA, RB, RS, fx46, p1, p2, p3, p4, reduceIte, p5, p6, p7, p8, c4]
    repeat (first | with_reducible refine noR_and (by repeat (first | exact noR_empty _ _ | exact noR_nilS _ _ | refine noR_mk _ _ _ _ _ rfl ?_ | refine noR_mkS _ _ _ _ _ rfl ?_)) ?_ | with_reducible refine noC_and (by repeat (first | exact noC_empty _ _ (by simp -failIfUnchanged only [↓RA, RB, RS, fx46, p1, p2, p3, p4, reduceIte, p5, p6, p7, p8]) | exact noC_nilS _ _ (by simp -failIfUnchanged only [↓RA, RB, RS, fx46, p1, p2, p3, p4, reduceIte, p5, p6, p7, p8]) | refine noC_mk _ _ _ _ _ rfl ?_ | refine noC_mkS _ _ _ _ _ rfl ?_)) ?_ | with_reducible refine and_ac ?_ | with_reducible refine And.intro (a := _ = List.range _) (by rfl) ?_)
    obtain ⟨v36, hv36, h⟩ := run_bind h
    refine SlcH.mk (f := Sx) hv36 ?_ ?_ <;> simp -failIfUnchanged only [↓RA, RB, RS, fx46, p1, p2, p3, p4, reduceIte, p5, p6, p7, p8, c4]
    obtain ⟨v37, hv37, h⟩ := run_bind h
    refine AppH.mk (f := Sx) (fun _ => rfl) hv37 ?_ ?_ ?_ <;> simp -failIfUnchanged only [↓RA, RB, RS, fx46, p1, p2, p3, p4, reduceIte, p5, p6, p7, p8, c4]
    repeat (first | with_reducible refine noR_and (by repeat (first | exact noR_empty _ _ | exact noR_nilS _ _ | refine noR_mk _ _ _ _ _ rfl ?_ | refine noR_mkS _ _ _ _ _ rfl ?_)) ?_ | with_reducible refine noC_and (by repeat (first | exact noC_empty _ _ (by simp -failIfUnchanged only [↓RA, RB, RS, fx46, p1, p2, p3, p4, reduceIte, p5, p6, p7, p8]) | exact noC_nilS _ _ (by simp -failIfUnchanged only [↓RA, RB, RS, fx46, p1, p2, p3, p4, reduceIte, p5, p6, p7, p8]) | refine noC_mk _ _ _ _ _ rfl ?_ | refine noC_mkS _ _ _ _ _ rfl ?_)) ?_ | with_reducible refine and_ac ?_ | with_reducible refine And.intro (a := _ = List.range _) (by rfl) ?_)
    obtain ⟨v40, hv40, h⟩ := run_bind h
    refine AppH.mk (f := Sx) (fun _ => rfl) hv40 ?_ ?_ ?_ <;> simp -failIfUnchanged only [↓RA, RB, RS, fx46, p1, p2, p3, p4, reduceIte, p5, p6, p7, p8, c4]
    repeat (first | with_reducible refine noR_and (by repeat (first | exact noR_empty _ _ | exact noR_nilS _ _ | refine noR_mk _ _ _ _ _ rfl ?_ | refine noR_mkS _ _ _ _ _ rfl ?_)) ?_ | with_reducible refine noC_and (by repeat (first | exact noC_empty _ _ (by simp -failIfUnchanged only [↓RA, RB, RS, fx46, p1, p2, p3, p4, reduceIte, p5, p6, p7, p8]) | exact noC_nilS _ _ (by simp -failIfUnchanged only [↓RA, RB, RS, fx46, p1, p2, p3, p4, reduceIte, p5, p6, p7, p8]) | refine noC_mk _ _ _ _ _ rfl ?_ | refine noC_mkS _ _ _ _ _ rfl ?_)) ?_ | with_reducible refine and_ac ?_ | with_reducible refine And.intro (a := _ = List.range _) (by rfl) ?_)
    obtain ⟨v43, hv43, h⟩ := run_bind h
    refine SlcH.mk (f := Sx) hv43 ?_ ?_ <;> simp -failIfUnchanged only [↓RA, RB, RS, fx46, p1, p2, p3, p4, reduceIte, p5, p6, p7, p8, c4]
    obtain ⟨v44, hv44, h⟩ := run_bind h
    refine AppH.mk (f := Sx) (fun _ => rfl) hv44 ?_ ?_ ?_ <;> simp -failIfUnchanged only [↓RA, RB, RS, fx46, p1, p2, p3, p4, reduceIte, p5, p6, p7, p8, c4]
    repeat (first | with_reducible refine noR_and (by repeat (first | exact noR_empty _ _ | exact noR_nilS _ _ | refine noR_mk _ _ _ _ _ rfl ?_ | refine noR_mkS _ _ _ _ _ rfl ?_)) ?_ | with_reducible refine noC_and (by repeat (first | exact noC_empty _ _ (by simp -failIfUnchanged only [↓RA, RB, RS, fx46, p1, p2, p3, p4, reduceIte, p5, p6, p7, p8]) | exact noC_nilS _ _ (by simp -failIfUnchanged only [↓RA, RB, RS, fx46, p1, p2, p3, p4, reduceIte, p5, p6, p7, p8]) | refine noC_mk _ _ _ _ _ rfl ?_ | refine noC_mkS _ _ _ _ _ rfl ?_)) ?_ | with_reducible refine and_ac ?_ | with_reducible refine And.intro (a := _ = List.range _) (by rfl) ?_)
    refine And.intro (DrawH.mk [] [528, 592, 624, 640, 704] (by rfl) (by first | rfl | (simp -failIfUnchanged only [↓RA, RB, RS, fx46, p1, p2, p3, p4, reduceIte, p5, p6, p7, p8] <;> rfl)) (by first | rfl | (simp -failIfUnchanged only [↓RA, RB, RS, fx46, p1, p2, p3, p4, reduceIte, p5, p6, p7, p8] <;> rfl)) (by first | rfl | (simp -failIfUnchanged only [↓RA, RB, RS, fx46, p1, p2, p3, p4, reduceIte, p5, p6, p7, p8] <;> rfl)) (by simp) (by simp -failIfUnchanged only [↓RA, RB, RS, fx46, p1, p2, p3, p4, reduceIte, p5, p6, p7, p8]; repeat (first | exact noC_empty _ _ (by simp -failIfUnchanged only [↓RA, RB, RS, fx46, p1, p2, p3, p4, reduceIte, p5, p6, p7, p8]) | exact noC_nilS _ _ (by simp -failIfUnchanged only [↓RA, RB, RS, fx46, p1, p2, p3, p4, reduceIte, p5, p6, p7, p8]) | refine noC_mk _ _ _ _ _ rfl ?_ | refine noC_mkS _ _ _ _ _ rfl ?_ | refine And.intro ?_ ?_))) ?_
    simp -failIfUnchanged only [↓RA, RB, RS, fx46, p1, p2, p3, p4, reduceIte, p5, p6, p7, p8, c4]
    have h := run_some h
    obtain rfl : _ = r := h
    refine FinH.r ?_
    simp -failIfUnchanged only [↓RA, RB, RS, fx46, p1, p2, p3, p4, reduceIte, p5, p6, p7, p8, c4]

def fx36 := And.intro @ty_3 <| And.intro @zc_3 <| And.intro @z_3 <| And.intro @ty_9 <| And.intro @zc_9 <| And.intro @z_9 <| And.intro @u_9 <| And.intro @ty_22 <| And.intro @zc_22 <| And.intro @z_22 <| And.intro @es_22 <| And.intro @eb_22 <| And.intro @sl_22 <| And.intro @is_22 <| And.intro @el_22 <| And.intro @ze_22 <| And.intro @ez_22 <| And.intro @ty_27 <| And.intro @zc_27 <| And.intro @z_27 <| And.intro @fo_27_0 <| And.intro @fi_27_0 <| And.intro @ft_27_0 <| And.intro @fo_27_1 <| And.intro @fi_27_1 <| And.intro @ft_27_1 <| And.intro @fo_27_2 <| And.intro @fi_27_2 <| And.intro @ft_27_2 <| @lay_27
set_option maxHeartbeats 4000000 in
theorem spec_l25Names_sat {a0 : Linear} {a1 : Linear}  {r : List ByteArray} (h : spec_l25Names a0 a1 = some r) : Sat Try.prog 36 [((Linear.pv false) a0), ((Linear.pv false) a1)] (.sl false 1 (r.map Sx)) := by
  replace h := Run.of h
  unfold spec_l25Names at h
  refine Sat.of_m (nt := 38) (rs := [.tmp 4]) (n := 100000) Try.func36 rfl rfl rfl rfl (by simp) ?_
  simp -failIfUnchanged only [↓RA, RB, RS, fx36, p1, p2, p3, p4, reduceIte, p5, p6, p7, p8]
  repeat (first | with_reducible refine noR_and (by repeat (first | exact noR_empty _ _ | exact noR_nilS _ _ | refine noR_mk _ _ _ _ _ rfl ?_ | refine noR_mkS _ _ _ _ _ rfl ?_)) ?_ | with_reducible refine noC_and (by repeat (first | exact noC_empty _ _ (by simp -failIfUnchanged only [↓RA, RB, RS, fx36, p1, p2, p3, p4, reduceIte, p5, p6, p7, p8]) | exact noC_nilS _ _ (by simp -failIfUnchanged only [↓RA, RB, RS, fx36, p1, p2, p3, p4, reduceIte, p5, p6, p7, p8]) | refine noC_mk _ _ _ _ _ rfl ?_ | refine noC_mkS _ _ _ _ _ rfl ?_)) ?_ | with_reducible refine and_ac ?_ | with_reducible refine And.intro (a := _ = List.range _) (by rfl) ?_)
  refine Mg.know_val2 (b := false) (sz := 1) (es := a0.Vars.map Sx) (x := (.pv ((Linear.pv false) a0))) 0 [0] (by simp -failIfUnchanged only [↓RA, RB, RS, fx36, p1, p2, p3, p4, reduceIte, p5, p6, p7, p8]) fun hl0 => ?_; rw [List.length_map] at hl0
  replace h := run_loop h
  refine Mg.forN h (fun i3 s3 => [(2, .box (.pv ((Linear.pv false) a0))), (3, .box (.pv ((Linear.pv false) a1))), (5, .val (.pv (.sl false 1 (s3.map Sx)))), (6, .val (.pv (I (i3 : Int))))]) (fun i3 s3 => []) (St.le_trans (St.le_demV (x := (.own 128)) (sz := (1)) (es := ([]).map Sx) 5 [] 128 (by simp -failIfUnchanged only [↓RA, RB, RS, fx36, p1, p2, p3, p4, reduceIte, p5, p6, p7, p8])) (St.le_mk2 (by simp -failIfUnchanged only [↓RA, RB, RS, fx36, p1, p2, p3, p4, reduceIte, p5, p6, p7, p8]))) (fun i3 s3 hi h => ?_) (fun s3 h => ?_)
  · have w3 := wrap_succ (i := i3) (by omega)
    simp -failIfUnchanged only [↓RA, RB, RS, fx36, p1, p2, p3, p4, reduceIte, p5, p6, p7, p8]
    refine CondH.tt (decide_eq_true (by omega)) (fun c1 => ?_)
    simp -failIfUnchanged only [↓RA, RB, RS, fx36, p1, p2, p3, p4, reduceIte, p5, p6, p7, p8, c1]
    obtain ⟨v20, hv20, h⟩ := run_bind h
    refine IdxH.mk (f := Sx) hv20 ?_ ?_ <;> simp -failIfUnchanged only [↓RA, RB, RS, fx36, p1, p2, p3, p4, reduceIte, p5, p6, p7, p8, c1]
    obtain ⟨v22, hv22, h⟩ := run_bind h
    refine CallH.mk [false, false] (spec_l2Put_sat hv22) ?_ ?_ <;> simp -failIfUnchanged only [↓RA, RB, RS, fx36, p1, p2, p3, p4, reduceIte, p5, p6, p7, p8, c1]
    have h := run_some h
    refine RdH.mk ⟨_, h, ?_⟩
    refine St.le_mk2 ?_
    simp -failIfUnchanged only [↓RA, RB, RS, fx36, p1, p2, p3, p4, reduceIte, p5, p6, p7, p8, c1, w3]
  · simp -failIfUnchanged only [↓RA, RB, RS, fx36, p1, p2, p3, p4, reduceIte, p5, p6, p7, p8]
    refine CondH.ff (decide_eq_false (by omega)) (fun c2 => ?_)
    simp -failIfUnchanged only [↓RA, RB, RS, fx36, p1, p2, p3, p4, reduceIte, p5, p6, p7, p8, c2]
    refine Mg.know_box2 (b := false) (sz := 1) (es := a1.Vars.map Sx) (x := (.pv ((Linear.pv false) a1))) 3 [0] (by simp -failIfUnchanged only [↓RA, RB, RS, fx36, p1, p2, p3, p4, reduceIte, p5, p6, p7, p8, c2]) fun hl3 => ?_; rw [List.length_map] at hl3
    replace h := run_loop h
    refine Mg.forN h (fun i7 s7 => [(3, .box (.pv ((Linear.pv false) a1))), (5, .val (.pv (.sl false 1 (s7.map Sx)))), (7, .val (.pv (I (i7 : Int))))]) (fun i7 s7 => []) (St.le_mk2 (by simp -failIfUnchanged only [↓RA, RB, RS, fx36, p1, p2, p3, p4, reduceIte, p5, p6, p7, p8, c2])) (fun i7 s7 hi h => ?_) (fun s7 h => ?_)
    · have w7 := wrap_succ (i := i7) (by omega)
      simp -failIfUnchanged only [↓RA, RB, RS, fx36, p1, p2, p3, p4, reduceIte, p5, p6, p7, p8, c2]
      refine CondH.tt (decide_eq_true (by omega)) (fun c3 => ?_)
      simp -failIfUnchanged only [↓RA, RB, RS, fx36, p1, p2, p3, p4, reduceIte, p5, p6, p7, p8, c2, c3]
      obtain ⟨v34, hv34, h⟩ := run_bind h
      refine IdxH.mk (f := Sx) hv34 ?_ ?_ <;> simp -failIfUnchanged only [↓RA, RB, RS, fx36, p1, p2, p3, p4, reduceIte, p5, p6, p7, p8, c2, c3]
      obtain ⟨v36, hv36, h⟩ := run_bind h
      refine CallH.mk [false, false] (spec_l2Put_sat hv36) ?_ ?_ <;> simp -failIfUnchanged only [↓RA, RB, RS, fx36, p1, p2, p3, p4, reduceIte, p5, p6, p7, p8, c2, c3]
      have h := run_some h
      refine RdH.mk ⟨_, h, ?_⟩
      refine St.le_mk2 ?_
      simp -failIfUnchanged only [↓RA, RB, RS, fx36, p1, p2, p3, p4, reduceIte, p5, p6, p7, p8, c2, c3, w7]
    · simp -failIfUnchanged only [↓RA, RB, RS, fx36, p1, p2, p3, p4, reduceIte, p5, p6, p7, p8, c2]
      refine CondH.ff (decide_eq_false (by omega)) (fun c4 => ?_)
      simp -failIfUnchanged only [↓RA, RB, RS, fx36, p1, p2, p3, p4, reduceIte, p5, p6, p7, p8, c2, c4]
      have h := run_some h
      obtain rfl : _ = r := h
      refine FinH.r ?_
      simp -failIfUnchanged only [↓RA, RB, RS, fx36, p1, p2, p3, p4, reduceIte, p5, p6, p7, p8, c2, c4]

def fx29 := And.intro @ty_3 <| And.intro @zc_3 <| And.intro @z_3 <| And.intro @ty_9 <| And.intro @zc_9 <| And.intro @z_9 <| And.intro @u_9 <| And.intro @ty_22 <| And.intro @zc_22 <| And.intro @z_22 <| And.intro @es_22 <| And.intro @eb_22 <| And.intro @sl_22 <| And.intro @is_22 <| And.intro @el_22 <| And.intro @ze_22 <| And.intro @ez_22 <| And.intro @ty_23 <| And.intro @zc_23 <| And.intro @z_23 <| And.intro @es_23 <| And.intro @eb_23 <| And.intro @sl_23 <| And.intro @is_23 <| And.intro @el_23 <| And.intro @ze_23 <| And.intro @ez_23 <| And.intro @ty_27 <| And.intro @zc_27 <| And.intro @z_27 <| And.intro @fo_27_0 <| And.intro @fi_27_0 <| And.intro @ft_27_0 <| And.intro @fo_27_1 <| And.intro @fi_27_1 <| And.intro @ft_27_1 <| And.intro @fo_27_2 <| And.intro @fi_27_2 <| And.intro @ft_27_2 <| And.intro @lay_27 <| @mixedT
set_option maxHeartbeats 4000000 in
theorem spec_l25Plus_sat {a0 : Linear} {a1 : Linear} {a2 : Int}  {r : Linear} (h : spec_l25Plus a0 a1 a2 = some r) : Sat Try.prog 29 [((Linear.pv false) a0), ((Linear.pv false) a1), (I a2)] ((Linear.pv true) r) := by
  replace h := Run.of h
  unfold spec_l25Plus at h
  refine Sat.of_m (nt := 63) (rs := [.cell 6 27]) (n := 100000) Try.func29 rfl rfl rfl rfl (by simp) ?_
  simp -failIfUnchanged only [↓RA, RB, RS, fx29, p1, p2, p3, p4, reduceIte, p5, p6, p7, p8]
  repeat (first | with_reducible refine noR_and (by repeat (first | exact noR_empty _ _ | exact noR_nilS _ _ | refine noR_mk _ _ _ _ _ rfl ?_ | refine noR_mkS _ _ _ _ _ rfl ?_)) ?_ | with_reducible refine noC_and (by repeat (first | exact noC_empty _ _ (by simp -failIfUnchanged only [↓RA, RB, RS, fx29, p1, p2, p3, p4, reduceIte, p5, p6, p7, p8]) | exact noC_nilS _ _ (by simp -failIfUnchanged only [↓RA, RB, RS, fx29, p1, p2, p3, p4, reduceIte, p5, p6, p7, p8]) | refine noC_mk _ _ _ _ _ rfl ?_ | refine noC_mkS _ _ _ _ _ rfl ?_)) ?_ | with_reducible refine and_ac ?_ | with_reducible refine And.intro (a := _ = List.range _) (by rfl) ?_)
  obtain ⟨v23, hv23, h⟩ := run_bind h
  refine CallH.mk [false, false] (spec_l25Names_sat hv23) ?_ ?_ <;> simp -failIfUnchanged only [↓RA, RB, RS, fx29, p1, p2, p3, p4, reduceIte, p5, p6, p7, p8]
  refine Mg.know_sl (b := false) (sz := 1) (es := v23.map Sx) 8 (by simp -failIfUnchanged only [↓RA, RB, RS, fx29, p1, p2, p3, p4, reduceIte, p5, p6, p7, p8]) fun hl8 => ?_; rw [List.length_map] at hl8
  replace h := run_loop h
  refine Mg.forN h (fun i4 s4 => [(2, .val (.pv (I a2))), (3, .box (.pv ((Linear.pv false) a0))), (4, .box (.pv ((Linear.pv false) a1))), (6, .box (.node [(.pv (.sl true 1 [])), (.pv (.sl true 1 [])), (.pv (I (0 : Int)))])), (7, .box (.node [(.own 176), (.own 192), (.pv (I (IntKind.i64.wrap (a0.Constant + (IntKind.i64.wrap (a2 * a1.Constant))))))])), (8, .val (.pv (.sl false 1 (v23.map Sx)))), (9, .val (.pv (I (i4 : Int))))]) (fun i4 s4 => [(176, (1, s4.1.map Sx)), (192, (1, s4.2.map I))]) (St.le_mk2 (by simp -failIfUnchanged only [↓RA, RB, RS, fx29, p1, p2, p3, p4, reduceIte, p5, p6, p7, p8])) (fun i4 s4 hi h => ?_) (fun s4 h => ?_)
  · have w4 := wrap_succ (i := i4) (by omega)
    simp -failIfUnchanged only [↓RA, RB, RS, fx29, p1, p2, p3, p4, reduceIte, p5, p6, p7, p8]
    refine CondH.tt (decide_eq_true (by omega)) (fun c1 => ?_)
    simp -failIfUnchanged only [↓RA, RB, RS, fx29, p1, p2, p3, p4, reduceIte, p5, p6, p7, p8, c1]
    obtain ⟨v33, hv33, h⟩ := run_bind h
    refine IdxH.mk (f := Sx) hv33 ?_ ?_ <;> simp -failIfUnchanged only [↓RA, RB, RS, fx29, p1, p2, p3, p4, reduceIte, p5, p6, p7, p8, c1]
    obtain ⟨v35, hv35, h⟩ := run_bind h
    refine CallH.mk [false, false] (spec_l25Slope_sat hv35) ?_ ?_ <;> simp -failIfUnchanged only [↓RA, RB, RS, fx29, p1, p2, p3, p4, reduceIte, p5, p6, p7, p8, c1]
    obtain ⟨v40, hv40, h⟩ := run_bind h
    refine IdxH.mk (f := Sx) hv40 ?_ ?_ <;> simp -failIfUnchanged only [↓RA, RB, RS, fx29, p1, p2, p3, p4, reduceIte, p5, p6, p7, p8, c1]
    obtain ⟨v42, hv42, h⟩ := run_bind h
    refine CallH.mk [false, false] (spec_l25Slope_sat hv42) ?_ ?_ <;> simp -failIfUnchanged only [↓RA, RB, RS, fx29, p1, p2, p3, p4, reduceIte, p5, p6, p7, p8, c1]
    refine And.intro (DrawH.none (by rfl) (by first | rfl | (simp -failIfUnchanged only [↓RA, RB, RS, fx29, p1, p2, p3, p4, reduceIte, p5, p6, p7, p8] <;> rfl)) (by first | rfl | (simp -failIfUnchanged only [↓RA, RB, RS, fx29, p1, p2, p3, p4, reduceIte, p5, p6, p7, p8] <;> rfl)) (by first | rfl | (simp -failIfUnchanged only [↓RA, RB, RS, fx29, p1, p2, p3, p4, reduceIte, p5, p6, p7, p8] <;> rfl))) ?_
    simp -failIfUnchanged only [↓RA, RB, RS, fx29, p1, p2, p3, p4, reduceIte, p5, p6, p7, p8, c1]
    refine CondH.mk (fun c2 => ?_) (fun c2 => ?_)
    · replace h := run_t c2 h
      simp -failIfUnchanged only [↓RA, RB, RS, fx29, p1, p2, p3, p4, reduceIte, p5, p6, p7, p8, c1, c2]
      obtain ⟨v51, hv51, h⟩ := run_bind h
      refine IdxH.mk (f := Sx) hv51 ?_ ?_ <;> simp -failIfUnchanged only [↓RA, RB, RS, fx29, p1, p2, p3, p4, reduceIte, p5, p6, p7, p8, c1, c2]
      repeat (first | with_reducible refine noR_and (by repeat (first | exact noR_empty _ _ | exact noR_nilS _ _ | refine noR_mk _ _ _ _ _ rfl ?_ | refine noR_mkS _ _ _ _ _ rfl ?_)) ?_ | with_reducible refine noC_and (by repeat (first | exact noC_empty _ _ (by simp -failIfUnchanged only [↓RA, RB, RS, fx29, p1, p2, p3, p4, reduceIte, p5, p6, p7, p8]) | exact noC_nilS _ _ (by simp -failIfUnchanged only [↓RA, RB, RS, fx29, p1, p2, p3, p4, reduceIte, p5, p6, p7, p8]) | refine noC_mk _ _ _ _ _ rfl ?_ | refine noC_mkS _ _ _ _ _ rfl ?_)) ?_ | with_reducible refine and_ac ?_ | with_reducible refine And.intro (a := _ = List.range _) (by rfl) ?_)
      obtain ⟨v54, hv54, h⟩ := run_bind h
      refine AppH.mk (f := Sx) (fun _ => rfl) hv54 ?_ ?_ ?_ <;> simp -failIfUnchanged only [↓RA, RB, RS, fx29, p1, p2, p3, p4, reduceIte, p5, p6, p7, p8, c1, c2]
      repeat (first | with_reducible refine noR_and (by repeat (first | exact noR_empty _ _ | exact noR_nilS _ _ | refine noR_mk _ _ _ _ _ rfl ?_ | refine noR_mkS _ _ _ _ _ rfl ?_)) ?_ | with_reducible refine noC_and (by repeat (first | exact noC_empty _ _ (by simp -failIfUnchanged only [↓RA, RB, RS, fx29, p1, p2, p3, p4, reduceIte, p5, p6, p7, p8]) | exact noC_nilS _ _ (by simp -failIfUnchanged only [↓RA, RB, RS, fx29, p1, p2, p3, p4, reduceIte, p5, p6, p7, p8]) | refine noC_mk _ _ _ _ _ rfl ?_ | refine noC_mkS _ _ _ _ _ rfl ?_)) ?_ | with_reducible refine and_ac ?_ | with_reducible refine And.intro (a := _ = List.range _) (by rfl) ?_)
      refine And.intro (DrawH.mk [] [848, 864] (by rfl) (by first | rfl | (simp -failIfUnchanged only [↓RA, RB, RS, fx29, p1, p2, p3, p4, reduceIte, p5, p6, p7, p8] <;> rfl)) (by first | rfl | (simp -failIfUnchanged only [↓RA, RB, RS, fx29, p1, p2, p3, p4, reduceIte, p5, p6, p7, p8] <;> rfl)) (by first | rfl | (simp -failIfUnchanged only [↓RA, RB, RS, fx29, p1, p2, p3, p4, reduceIte, p5, p6, p7, p8] <;> rfl)) (by simp) (by simp -failIfUnchanged only [↓RA, RB, RS, fx29, p1, p2, p3, p4, reduceIte, p5, p6, p7, p8]; repeat (first | exact noC_empty _ _ (by simp -failIfUnchanged only [↓RA, RB, RS, fx29, p1, p2, p3, p4, reduceIte, p5, p6, p7, p8]) | exact noC_nilS _ _ (by simp -failIfUnchanged only [↓RA, RB, RS, fx29, p1, p2, p3, p4, reduceIte, p5, p6, p7, p8]) | refine noC_mk _ _ _ _ _ rfl ?_ | refine noC_mkS _ _ _ _ _ rfl ?_ | refine And.intro ?_ ?_))) ?_
      simp -failIfUnchanged only [↓RA, RB, RS, fx29, p1, p2, p3, p4, reduceIte, p5, p6, p7, p8, c1, c2]
      repeat (first | with_reducible refine noR_and (by repeat (first | exact noR_empty _ _ | exact noR_nilS _ _ | refine noR_mk _ _ _ _ _ rfl ?_ | refine noR_mkS _ _ _ _ _ rfl ?_)) ?_ | with_reducible refine noC_and (by repeat (first | exact noC_empty _ _ (by simp -failIfUnchanged only [↓RA, RB, RS, fx29, p1, p2, p3, p4, reduceIte, p5, p6, p7, p8]) | exact noC_nilS _ _ (by simp -failIfUnchanged only [↓RA, RB, RS, fx29, p1, p2, p3, p4, reduceIte, p5, p6, p7, p8]) | refine noC_mk _ _ _ _ _ rfl ?_ | refine noC_mkS _ _ _ _ _ rfl ?_)) ?_ | with_reducible refine and_ac ?_ | with_reducible refine And.intro (a := _ = List.range _) (by rfl) ?_)
      obtain ⟨v60, hv60, h⟩ := run_bind h
      refine AppH.mk (f := I) (fun _ => rfl) hv60 ?_ ?_ ?_ <;> simp -failIfUnchanged only [↓RA, RB, RS, fx29, p1, p2, p3, p4, reduceIte, p5, p6, p7, p8, c1, c2]
      repeat (first | with_reducible refine noR_and (by repeat (first | exact noR_empty _ _ | exact noR_nilS _ _ | refine noR_mk _ _ _ _ _ rfl ?_ | refine noR_mkS _ _ _ _ _ rfl ?_)) ?_ | with_reducible refine noC_and (by repeat (first | exact noC_empty _ _ (by simp -failIfUnchanged only [↓RA, RB, RS, fx29, p1, p2, p3, p4, reduceIte, p5, p6, p7, p8]) | exact noC_nilS _ _ (by simp -failIfUnchanged only [↓RA, RB, RS, fx29, p1, p2, p3, p4, reduceIte, p5, p6, p7, p8]) | refine noC_mk _ _ _ _ _ rfl ?_ | refine noC_mkS _ _ _ _ _ rfl ?_)) ?_ | with_reducible refine and_ac ?_ | with_reducible refine And.intro (a := _ = List.range _) (by rfl) ?_)
      have h := run_some h
      refine RdH.mk ⟨_, h, ?_⟩
      refine St.le_trans (St.le_mk (S := [(2, .val (.pv (I a2))), (3, .box (.pv ((Linear.pv false) a0))), (4, .box (.pv ((Linear.pv false) a1))), (6, .box (.node [(.pv (.sl true 1 [])), (.pv (.sl true 1 [])), (.pv (I (0 : Int)))])), (7, .box (.node [(.own 864), (.own 960), (.pv (I (IntKind.i64.wrap (a0.Constant + (IntKind.i64.wrap (a2 * a1.Constant))))))])), (8, .val (.pv (.sl false 1 (v23.map Sx)))), (9, .val (.pv (I (IntKind.i64.wrap ((i4 : Int) + (1 : Int))))))]) (O := [(864, (1, v54.map Sx)), (960, (1, v60.map I))]) (by simp -failIfUnchanged only [↓RA, RB, RS, fx29, p1, p2, p3, p4, reduceIte, p5, p6, p7, p8, c1, c2, w4]) (by simp -failIfUnchanged only [↓RA, RB, RS, fx29, p1, p2, p3, p4, reduceIte, p5, p6, p7, p8, c1, c2, w4])) ?_
      refine St.le_rn 864 176 (by decide) (by repeat (first | exact noC_empty _ _ (by simp -failIfUnchanged only [↓RA, RB, RS, fx29, p1, p2, p3, p4, reduceIte, p5, p6, p7, p8]) | exact noC_nilS _ _ (by simp -failIfUnchanged only [↓RA, RB, RS, fx29, p1, p2, p3, p4, reduceIte, p5, p6, p7, p8]) | refine noC_mk _ _ _ _ _ rfl ?_ | refine noC_mkS _ _ _ _ _ rfl ?_)) ?_
      refine St.le_trans (St.le_mk (S := [(2, .val (.pv (I a2))), (3, .box (.pv ((Linear.pv false) a0))), (4, .box (.pv ((Linear.pv false) a1))), (6, .box (.node [(.pv (.sl true 1 [])), (.pv (.sl true 1 [])), (.pv (I (0 : Int)))])), (7, .box (.node [(.own 176), (.own 960), (.pv (I (IntKind.i64.wrap (a0.Constant + (IntKind.i64.wrap (a2 * a1.Constant))))))])), (8, .val (.pv (.sl false 1 (v23.map Sx)))), (9, .val (.pv (I (IntKind.i64.wrap ((i4 : Int) + (1 : Int))))))]) (O := [(176, (1, v54.map Sx)), (960, (1, v60.map I))]) (by simp -failIfUnchanged only [↓RA, RB, RS, fx29, p1, p2, p3, p4, reduceIte, p5, p6, p7, p8, c1, c2, w4]) (by simp -failIfUnchanged only [↓RA, RB, RS, fx29, p1, p2, p3, p4, reduceIte, p5, p6, p7, p8, c1, c2, w4])) ?_
      refine St.le_rn 960 192 (by decide) (by repeat (first | exact noC_empty _ _ (by simp -failIfUnchanged only [↓RA, RB, RS, fx29, p1, p2, p3, p4, reduceIte, p5, p6, p7, p8]) | exact noC_nilS _ _ (by simp -failIfUnchanged only [↓RA, RB, RS, fx29, p1, p2, p3, p4, reduceIte, p5, p6, p7, p8]) | refine noC_mk _ _ _ _ _ rfl ?_ | refine noC_mkS _ _ _ _ _ rfl ?_)) ?_
      refine St.le_mk2 ?_
      simp -failIfUnchanged only [↓RA, RB, RS, fx29, p1, p2, p3, p4, reduceIte, p5, p6, p7, p8, c1, c2, w4]
    · replace h := run_f c2 h
      simp -failIfUnchanged only [↓RA, RB, RS, fx29, p1, p2, p3, p4, reduceIte, p5, p6, p7, p8, c1, c2]
      have h := run_some h
      refine RdH.mk ⟨_, h, ?_⟩
      refine St.le_mk2 ?_
      simp -failIfUnchanged only [↓RA, RB, RS, fx29, p1, p2, p3, p4, reduceIte, p5, p6, p7, p8, c1, c2, w4]
  · simp -failIfUnchanged only [↓RA, RB, RS, fx29, p1, p2, p3, p4, reduceIte, p5, p6, p7, p8]
    refine CondH.ff (decide_eq_false (by omega)) (fun c3 => ?_)
    simp -failIfUnchanged only [↓RA, RB, RS, fx29, p1, p2, p3, p4, reduceIte, p5, p6, p7, p8, c3]
    have h := run_some h
    obtain rfl : _ = r := h
    refine FinH.l ?_
    simp -failIfUnchanged only [↓RA, RB, RS, fx29, p1, p2, p3, p4, reduceIte, p5, p6, p7, p8, c3]

def fx12 := And.intro @ty_3 <| And.intro @zc_3 <| And.intro @z_3 <| And.intro @ty_4 <| And.intro @zc_4 <| And.intro @z_4 <| And.intro @u_4 <| And.intro @ty_9 <| And.intro @zc_9 <| And.intro @z_9 <| And.intro @u_9 <| And.intro @ty_22 <| And.intro @zc_22 <| And.intro @z_22 <| And.intro @es_22 <| And.intro @eb_22 <| And.intro @sl_22 <| And.intro @is_22 <| And.intro @el_22 <| And.intro @ze_22 <| And.intro @ez_22 <| And.intro @ty_23 <| And.intro @zc_23 <| And.intro @z_23 <| And.intro @es_23 <| And.intro @eb_23 <| And.intro @sl_23 <| And.intro @is_23 <| And.intro @el_23 <| And.intro @ze_23 <| And.intro @ez_23 <| And.intro @ty_27 <| And.intro @zc_27 <| And.intro @z_27 <| And.intro @fo_27_0 <| And.intro @fi_27_0 <| And.intro @ft_27_0 <| And.intro @fo_27_1 <| And.intro @fi_27_1 <| And.intro @ft_27_1 <| And.intro @fo_27_2 <| And.intro @fi_27_2 <| And.intro @ft_27_2 <| And.intro @lay_27 <| @mixedT
set_option maxHeartbeats 4000000 in
theorem spec_SubstituteLinear_sat {a0 : Linear} {a1 : ByteArray} {a2 : Linear}  {r : Linear × Bool} (h : spec_SubstituteLinear a0 a1 a2 = some r) : Sat Try.prog 12 [((Linear.pv false) a0), (Sx a1), ((Linear.pv false) a2)] (.tup [((Linear.pv true) r.1), (B r.2)]) := by
  replace h := Run.of h
  unfold spec_SubstituteLinear at h
  refine Sat.of_m (nt := 73) (rs := [.cell 6 27, .tmp 7]) (n := 100000) Try.func12 rfl rfl rfl rfl (by simp) ?_
  simp -failIfUnchanged only [↓RA, RB, RS, fx12, p1, p2, p3, p4, reduceIte, p5, p6, p7, p8]
  repeat (first | with_reducible refine noR_and (by repeat (first | exact noR_empty _ _ | exact noR_nilS _ _ | refine noR_mk _ _ _ _ _ rfl ?_ | refine noR_mkS _ _ _ _ _ rfl ?_)) ?_ | with_reducible refine noC_and (by repeat (first | exact noC_empty _ _ (by simp -failIfUnchanged only [↓RA, RB, RS, fx12, p1, p2, p3, p4, reduceIte, p5, p6, p7, p8]) | exact noC_nilS _ _ (by simp -failIfUnchanged only [↓RA, RB, RS, fx12, p1, p2, p3, p4, reduceIte, p5, p6, p7, p8]) | refine noC_mk _ _ _ _ _ rfl ?_ | refine noC_mkS _ _ _ _ _ rfl ?_)) ?_ | with_reducible refine and_ac ?_ | with_reducible refine And.intro (a := _ = List.range _) (by rfl) ?_)
  obtain ⟨v12, hv12, h⟩ := run_bind h
  refine CallH.mk [false] (spec_l25Linear_sat hv12) ?_ ?_ <;> simp -failIfUnchanged only [↓RA, RB, RS, fx12, p1, p2, p3, p4, reduceIte, p5, p6, p7, p8]
  refine CondH.mk (fun c1 => ?_) (fun c1 => ?_)
  · replace h := run_t c1 h
    simp -failIfUnchanged only [↓RA, RB, RS, fx12, p1, p2, p3, p4, reduceIte, p5, p6, p7, p8, c1]
    obtain ⟨v16, hv16, h⟩ := run_bind h
    refine CallH.mk [false] (spec_l2Var_sat hv16) ?_ ?_ <;> simp -failIfUnchanged only [↓RA, RB, RS, fx12, p1, p2, p3, p4, reduceIte, p5, p6, p7, p8, c1]
    refine CondH.mk (fun c2 => ?_) (fun c2 => ?_)
    · replace h := run_t c2 h
      simp -failIfUnchanged only [↓RA, RB, RS, fx12, p1, p2, p3, p4, reduceIte, p5, p6, p7, p8, c1, c2]
      obtain ⟨v21, hv21, h⟩ := run_bind h
      refine CallH.mk [false] (spec_l25Linear_sat hv21) ?_ ?_ <;> simp -failIfUnchanged only [↓RA, RB, RS, fx12, p1, p2, p3, p4, reduceIte, p5, p6, p7, p8, c1, c2]
      refine CondH.mk (fun c3 => ?_) (fun c3 => ?_)
      · replace h := run_t c3 h
        simp -failIfUnchanged only [↓RA, RB, RS, fx12, p1, p2, p3, p4, reduceIte, p5, p6, p7, p8, c1, c2, c3]
        repeat (first | with_reducible refine noR_and (by repeat (first | exact noR_empty _ _ | exact noR_nilS _ _ | refine noR_mk _ _ _ _ _ rfl ?_ | refine noR_mkS _ _ _ _ _ rfl ?_)) ?_ | with_reducible refine noC_and (by repeat (first | exact noC_empty _ _ (by simp -failIfUnchanged only [↓RA, RB, RS, fx12, p1, p2, p3, p4, reduceIte, p5, p6, p7, p8]) | exact noC_nilS _ _ (by simp -failIfUnchanged only [↓RA, RB, RS, fx12, p1, p2, p3, p4, reduceIte, p5, p6, p7, p8]) | refine noC_mk _ _ _ _ _ rfl ?_ | refine noC_mkS _ _ _ _ _ rfl ?_)) ?_ | with_reducible refine and_ac ?_ | with_reducible refine And.intro (a := _ = List.range _) (by rfl) ?_)
        refine Mg.know_val2 (b := false) (sz := 1) (es := a0.Vars.map Sx) (x := (.pv ((Linear.pv false) a0))) 0 [0] (by simp -failIfUnchanged only [↓RA, RB, RS, fx12, p1, p2, p3, p4, reduceIte, p5, p6, p7, p8, c1, c2, c3]) fun hl0 => ?_; rw [List.length_map] at hl0
        replace h := run_loop h
        refine Mg.forN h (fun i5 s5 => [(1, .val (.pv (Sx a1))), (3, .box (.pv ((Linear.pv false) a0))), (5, .box (.pv ((Linear.pv false) a2))), (6, .box (.node [(.pv (.sl true 1 [])), (.pv (.sl true 1 [])), (.pv (I (0 : Int)))])), (8, .box (.node [(.own 9315), (.own 9316), (.pv (I a0.Constant))])), (9, .val (.pv (I (i5 : Int))))]) (fun i5 s5 => [(9315, (1, s5.1.map Sx)), (9316, (1, s5.2.map I))]) (St.le_trans (St.le_nilB (x := (.node [(.pv (.sl true 1 [])), (.pv (.sl true 1 [])), (.pv (I a0.Constant))])) 8 [0] 9315 1 (by repeat (first | exact noC_empty _ _ (by simp -failIfUnchanged only [↓RA, RB, RS, fx12, p1, p2, p3, p4, reduceIte, p5, p6, p7, p8]) | exact noC_nilS _ _ (by simp -failIfUnchanged only [↓RA, RB, RS, fx12, p1, p2, p3, p4, reduceIte, p5, p6, p7, p8]) | refine noC_mk _ _ _ _ _ rfl ?_ | refine noC_mkS _ _ _ _ _ rfl ?_)) (by simp -failIfUnchanged only [↓RA, RB, RS, fx12, p1, p2, p3, p4, reduceIte, p5, p6, p7, p8, c1, c2, c3]) (by simp -failIfUnchanged only [↓RA, RB, RS, fx12, p1, p2, p3, p4, reduceIte, p5, p6, p7, p8, c1, c2, c3]) (by simp -failIfUnchanged only [↓RA, RB, RS, fx12, p1, p2, p3, p4, reduceIte, p5, p6, p7, p8, c1, c2, c3])) (St.le_trans (St.le_nilB (x := (.node [(.own 9315), (.pv (.sl true 1 [])), (.pv (I a0.Constant))])) 8 [1] 9316 1 (by repeat (first | exact noC_empty _ _ (by simp -failIfUnchanged only [↓RA, RB, RS, fx12, p1, p2, p3, p4, reduceIte, p5, p6, p7, p8]) | exact noC_nilS _ _ (by simp -failIfUnchanged only [↓RA, RB, RS, fx12, p1, p2, p3, p4, reduceIte, p5, p6, p7, p8]) | refine noC_mk _ _ _ _ _ rfl ?_ | refine noC_mkS _ _ _ _ _ rfl ?_)) (by simp -failIfUnchanged only [↓RA, RB, RS, fx12, p1, p2, p3, p4, reduceIte, p5, p6, p7, p8, c1, c2, c3]) (by simp -failIfUnchanged only [↓RA, RB, RS, fx12, p1, p2, p3, p4, reduceIte, p5, p6, p7, p8, c1, c2, c3]) (by simp -failIfUnchanged only [↓RA, RB, RS, fx12, p1, p2, p3, p4, reduceIte, p5, p6, p7, p8, c1, c2, c3])) (St.le_mk2 (by simp -failIfUnchanged only [↓RA, RB, RS, fx12, p1, p2, p3, p4, reduceIte, p5, p6, p7, p8, c1, c2, c3])))) (fun i5 s5 hi h => ?_) (fun s5 h => ?_)
        · have w5 := wrap_succ (i := i5) (by omega)
          simp -failIfUnchanged only [↓RA, RB, RS, fx12, p1, p2, p3, p4, reduceIte, p5, p6, p7, p8, c1, c2, c3]
          refine CondH.tt (decide_eq_true (by omega)) (fun c4 => ?_)
          simp -failIfUnchanged only [↓RA, RB, RS, fx12, p1, p2, p3, p4, reduceIte, p5, p6, p7, p8, c1, c2, c3, c4]
          obtain ⟨v38, hv38, h⟩ := run_bind h
          refine IdxH.mk (f := Sx) hv38 ?_ ?_ <;> simp -failIfUnchanged only [↓RA, RB, RS, fx12, p1, p2, p3, p4, reduceIte, p5, p6, p7, p8, c1, c2, c3, c4]
          refine CondH.mk (fun c5 => ?_) (fun c5 => ?_)
          · replace h := run_t c5 h
            simp -failIfUnchanged only [↓RA, RB, RS, fx12, p1, p2, p3, p4, reduceIte, p5, p6, p7, p8, c1, c2, c3, c4, c5]
            have h := run_some h
            refine RdH.mk ⟨_, h, ?_⟩
            refine St.le_mk2 ?_
            simp -failIfUnchanged only [↓RA, RB, RS, fx12, p1, p2, p3, p4, reduceIte, p5, p6, p7, p8, c1, c2, c3, c4, c5, w5]
          · replace h := run_f c5 h
            simp -failIfUnchanged only [↓RA, RB, RS, fx12, p1, p2, p3, p4, reduceIte, p5, p6, p7, p8, c1, c2, c3, c4, c5]
            obtain ⟨v47, hv47, h⟩ := run_bind h
            refine IdxH.mk (f := Sx) hv47 ?_ ?_ <;> simp -failIfUnchanged only [↓RA, RB, RS, fx12, p1, p2, p3, p4, reduceIte, p5, p6, p7, p8, c1, c2, c3, c4, c5]
            repeat (first | with_reducible refine noR_and (by repeat (first | exact noR_empty _ _ | exact noR_nilS _ _ | refine noR_mk _ _ _ _ _ rfl ?_ | refine noR_mkS _ _ _ _ _ rfl ?_)) ?_ | with_reducible refine noC_and (by repeat (first | exact noC_empty _ _ (by simp -failIfUnchanged only [↓RA, RB, RS, fx12, p1, p2, p3, p4, reduceIte, p5, p6, p7, p8]) | exact noC_nilS _ _ (by simp -failIfUnchanged only [↓RA, RB, RS, fx12, p1, p2, p3, p4, reduceIte, p5, p6, p7, p8]) | refine noC_mk _ _ _ _ _ rfl ?_ | refine noC_mkS _ _ _ _ _ rfl ?_)) ?_ | with_reducible refine and_ac ?_ | with_reducible refine And.intro (a := _ = List.range _) (by rfl) ?_)
            obtain ⟨v50, hv50, h⟩ := run_bind h
            refine AppH.mk (f := Sx) (fun _ => rfl) hv50 ?_ ?_ ?_ <;> simp -failIfUnchanged only [↓RA, RB, RS, fx12, p1, p2, p3, p4, reduceIte, p5, p6, p7, p8, c1, c2, c3, c4, c5]
            repeat (first | with_reducible refine noR_and (by repeat (first | exact noR_empty _ _ | exact noR_nilS _ _ | refine noR_mk _ _ _ _ _ rfl ?_ | refine noR_mkS _ _ _ _ _ rfl ?_)) ?_ | with_reducible refine noC_and (by repeat (first | exact noC_empty _ _ (by simp -failIfUnchanged only [↓RA, RB, RS, fx12, p1, p2, p3, p4, reduceIte, p5, p6, p7, p8]) | exact noC_nilS _ _ (by simp -failIfUnchanged only [↓RA, RB, RS, fx12, p1, p2, p3, p4, reduceIte, p5, p6, p7, p8]) | refine noC_mk _ _ _ _ _ rfl ?_ | refine noC_mkS _ _ _ _ _ rfl ?_)) ?_ | with_reducible refine and_ac ?_ | with_reducible refine And.intro (a := _ = List.range _) (by rfl) ?_)
            refine And.intro (DrawH.mk [] [784, 800] (by rfl) (by first | rfl | (simp -failIfUnchanged only [↓RA, RB, RS, fx12, p1, p2, p3, p4, reduceIte, p5, p6, p7, p8] <;> rfl)) (by first | rfl | (simp -failIfUnchanged only [↓RA, RB, RS, fx12, p1, p2, p3, p4, reduceIte, p5, p6, p7, p8] <;> rfl)) (by first | rfl | (simp -failIfUnchanged only [↓RA, RB, RS, fx12, p1, p2, p3, p4, reduceIte, p5, p6, p7, p8] <;> rfl)) (by simp) (by simp -failIfUnchanged only [↓RA, RB, RS, fx12, p1, p2, p3, p4, reduceIte, p5, p6, p7, p8]; repeat (first | exact noC_empty _ _ (by simp -failIfUnchanged only [↓RA, RB, RS, fx12, p1, p2, p3, p4, reduceIte, p5, p6, p7, p8]) | exact noC_nilS _ _ (by simp -failIfUnchanged only [↓RA, RB, RS, fx12, p1, p2, p3, p4, reduceIte, p5, p6, p7, p8]) | refine noC_mk _ _ _ _ _ rfl ?_ | refine noC_mkS _ _ _ _ _ rfl ?_ | refine And.intro ?_ ?_))) ?_
            simp -failIfUnchanged only [↓RA, RB, RS, fx12, p1, p2, p3, p4, reduceIte, p5, p6, p7, p8, c1, c2, c3, c4, c5]
            obtain ⟨v57, hv57, h⟩ := run_bind h
            refine IdxH.mk (f := I) hv57 ?_ ?_ <;> simp -failIfUnchanged only [↓RA, RB, RS, fx12, p1, p2, p3, p4, reduceIte, p5, p6, p7, p8, c1, c2, c3, c4, c5]
            repeat (first | with_reducible refine noR_and (by repeat (first | exact noR_empty _ _ | exact noR_nilS _ _ | refine noR_mk _ _ _ _ _ rfl ?_ | refine noR_mkS _ _ _ _ _ rfl ?_)) ?_ | with_reducible refine noC_and (by repeat (first | exact noC_empty _ _ (by simp -failIfUnchanged only [↓RA, RB, RS, fx12, p1, p2, p3, p4, reduceIte, p5, p6, p7, p8]) | exact noC_nilS _ _ (by simp -failIfUnchanged only [↓RA, RB, RS, fx12, p1, p2, p3, p4, reduceIte, p5, p6, p7, p8]) | refine noC_mk _ _ _ _ _ rfl ?_ | refine noC_mkS _ _ _ _ _ rfl ?_)) ?_ | with_reducible refine and_ac ?_ | with_reducible refine And.intro (a := _ = List.range _) (by rfl) ?_)
            obtain ⟨v60, hv60, h⟩ := run_bind h
            refine AppH.mk (f := I) (fun _ => rfl) hv60 ?_ ?_ ?_ <;> simp -failIfUnchanged only [↓RA, RB, RS, fx12, p1, p2, p3, p4, reduceIte, p5, p6, p7, p8, c1, c2, c3, c4, c5]
            repeat (first | with_reducible refine noR_and (by repeat (first | exact noR_empty _ _ | exact noR_nilS _ _ | refine noR_mk _ _ _ _ _ rfl ?_ | refine noR_mkS _ _ _ _ _ rfl ?_)) ?_ | with_reducible refine noC_and (by repeat (first | exact noC_empty _ _ (by simp -failIfUnchanged only [↓RA, RB, RS, fx12, p1, p2, p3, p4, reduceIte, p5, p6, p7, p8]) | exact noC_nilS _ _ (by simp -failIfUnchanged only [↓RA, RB, RS, fx12, p1, p2, p3, p4, reduceIte, p5, p6, p7, p8]) | refine noC_mk _ _ _ _ _ rfl ?_ | refine noC_mkS _ _ _ _ _ rfl ?_)) ?_ | with_reducible refine and_ac ?_ | with_reducible refine And.intro (a := _ = List.range _) (by rfl) ?_)
            refine And.intro (DrawH.mk [] [944, 960] (by rfl) (by first | rfl | (simp -failIfUnchanged only [↓RA, RB, RS, fx12, p1, p2, p3, p4, reduceIte, p5, p6, p7, p8] <;> rfl)) (by first | rfl | (simp -failIfUnchanged only [↓RA, RB, RS, fx12, p1, p2, p3, p4, reduceIte, p5, p6, p7, p8] <;> rfl)) (by first | rfl | (simp -failIfUnchanged only [↓RA, RB, RS, fx12, p1, p2, p3, p4, reduceIte, p5, p6, p7, p8] <;> rfl)) (by simp) (by simp -failIfUnchanged only [↓RA, RB, RS, fx12, p1, p2, p3, p4, reduceIte, p5, p6, p7, p8]; repeat (first | exact noC_empty _ _ (by simp -failIfUnchanged only [↓RA, RB, RS, fx12, p1, p2, p3, p4, reduceIte, p5, p6, p7, p8]) | exact noC_nilS _ _ (by simp -failIfUnchanged only [↓RA, RB, RS, fx12, p1, p2, p3, p4, reduceIte, p5, p6, p7, p8]) | refine noC_mk _ _ _ _ _ rfl ?_ | refine noC_mkS _ _ _ _ _ rfl ?_ | refine And.intro ?_ ?_))) ?_
            simp -failIfUnchanged only [↓RA, RB, RS, fx12, p1, p2, p3, p4, reduceIte, p5, p6, p7, p8, c1, c2, c3, c4, c5]
            have h := run_some h
            refine RdH.mk ⟨_, h, ?_⟩
            refine St.le_trans (St.le_mk (S := [(1, .val (.pv (Sx a1))), (3, .box (.pv ((Linear.pv false) a0))), (5, .box (.pv ((Linear.pv false) a2))), (6, .box (.node [(.pv (.sl true 1 [])), (.pv (.sl true 1 [])), (.pv (I (0 : Int)))])), (8, .box (.node [(.own 800), (.own 960), (.pv (I a0.Constant))])), (9, .val (.pv (I (IntKind.i64.wrap ((i5 : Int) + (1 : Int))))))]) (O := [(800, (1, v50.map Sx)), (960, (1, v60.map I))]) (by simp -failIfUnchanged only [↓RA, RB, RS, fx12, p1, p2, p3, p4, reduceIte, p5, p6, p7, p8, c1, c2, c3, c4, c5, w5]) (by simp -failIfUnchanged only [↓RA, RB, RS, fx12, p1, p2, p3, p4, reduceIte, p5, p6, p7, p8, c1, c2, c3, c4, c5, w5])) ?_
            refine St.le_rn 800 9315 (by decide) (by repeat (first | exact noC_empty _ _ (by simp -failIfUnchanged only [↓RA, RB, RS, fx12, p1, p2, p3, p4, reduceIte, p5, p6, p7, p8]) | exact noC_nilS _ _ (by simp -failIfUnchanged only [↓RA, RB, RS, fx12, p1, p2, p3, p4, reduceIte, p5, p6, p7, p8]) | refine noC_mk _ _ _ _ _ rfl ?_ | refine noC_mkS _ _ _ _ _ rfl ?_)) ?_
            refine St.le_trans (St.le_mk (S := [(1, .val (.pv (Sx a1))), (3, .box (.pv ((Linear.pv false) a0))), (5, .box (.pv ((Linear.pv false) a2))), (6, .box (.node [(.pv (.sl true 1 [])), (.pv (.sl true 1 [])), (.pv (I (0 : Int)))])), (8, .box (.node [(.own 9315), (.own 960), (.pv (I a0.Constant))])), (9, .val (.pv (I (IntKind.i64.wrap ((i5 : Int) + (1 : Int))))))]) (O := [(9315, (1, v50.map Sx)), (960, (1, v60.map I))]) (by simp -failIfUnchanged only [↓RA, RB, RS, fx12, p1, p2, p3, p4, reduceIte, p5, p6, p7, p8, c1, c2, c3, c4, c5, w5]) (by simp -failIfUnchanged only [↓RA, RB, RS, fx12, p1, p2, p3, p4, reduceIte, p5, p6, p7, p8, c1, c2, c3, c4, c5, w5])) ?_
            refine St.le_rn 960 9316 (by decide) (by repeat (first | exact noC_empty _ _ (by simp -failIfUnchanged only [↓RA, RB, RS, fx12, p1, p2, p3, p4, reduceIte, p5, p6, p7, p8]) | exact noC_nilS _ _ (by simp -failIfUnchanged only [↓RA, RB, RS, fx12, p1, p2, p3, p4, reduceIte, p5, p6, p7, p8]) | refine noC_mk _ _ _ _ _ rfl ?_ | refine noC_mkS _ _ _ _ _ rfl ?_)) ?_
            refine St.le_mk2 ?_
            simp -failIfUnchanged only [↓RA, RB, RS, fx12, p1, p2, p3, p4, reduceIte, p5, p6, p7, p8, c1, c2, c3, c4, c5, w5]
        · simp -failIfUnchanged only [↓RA, RB, RS, fx12, p1, p2, p3, p4, reduceIte, p5, p6, p7, p8, c1, c2, c3]
          refine CondH.ff (decide_eq_false (by omega)) (fun c6 => ?_)
          simp -failIfUnchanged only [↓RA, RB, RS, fx12, p1, p2, p3, p4, reduceIte, p5, p6, p7, p8, c1, c2, c3, c6]
          obtain ⟨v66, hv66, h⟩ := run_bind h
          refine CallH.mk [false, false] (spec_l25Slope_sat hv66) ?_ ?_ <;> simp -failIfUnchanged only [↓RA, RB, RS, fx12, p1, p2, p3, p4, reduceIte, p5, p6, p7, p8, c1, c2, c3, c6]
          obtain ⟨v67, hv67, h⟩ := run_bind h
          refine CallH.mk [false, false, false] (spec_l25Plus_sat hv67) ?_ ?_ <;> simp -failIfUnchanged only [↓RA, RB, RS, fx12, p1, p2, p3, p4, reduceIte, p5, p6, p7, p8, c1, c2, c3, c6]
          repeat (first | with_reducible refine noR_and (by repeat (first | exact noR_empty _ _ | exact noR_nilS _ _ | refine noR_mk _ _ _ _ _ rfl ?_ | refine noR_mkS _ _ _ _ _ rfl ?_)) ?_ | with_reducible refine noC_and (by repeat (first | exact noC_empty _ _ (by simp -failIfUnchanged only [↓RA, RB, RS, fx12, p1, p2, p3, p4, reduceIte, p5, p6, p7, p8]) | exact noC_nilS _ _ (by simp -failIfUnchanged only [↓RA, RB, RS, fx12, p1, p2, p3, p4, reduceIte, p5, p6, p7, p8]) | refine noC_mk _ _ _ _ _ rfl ?_ | refine noC_mkS _ _ _ _ _ rfl ?_)) ?_ | with_reducible refine and_ac ?_ | with_reducible refine And.intro (a := _ = List.range _) (by rfl) ?_)
          refine And.intro (DrawH.mk [10] [1072, 1073] (by rfl) (by first | rfl | (simp -failIfUnchanged only [↓RA, RB, RS, fx12, p1, p2, p3, p4, reduceIte, p5, p6, p7, p8] <;> rfl)) (by first | rfl | (simp -failIfUnchanged only [↓RA, RB, RS, fx12, p1, p2, p3, p4, reduceIte, p5, p6, p7, p8] <;> rfl)) (by first | rfl | (simp -failIfUnchanged only [↓RA, RB, RS, fx12, p1, p2, p3, p4, reduceIte, p5, p6, p7, p8] <;> rfl)) (by simp -failIfUnchanged only [↓RA, RB, RS, fx12, p1, p2, p3, p4, reduceIte, p5, p6, p7, p8]; (try refine ⟨?_, ?_⟩) <;> repeat (first | exact noR_empty _ _ | exact noR_nilS _ _ | refine noR_mk _ _ _ _ _ rfl ?_ | refine noR_mkS _ _ _ _ _ rfl ?_)) (by simp -failIfUnchanged only [↓RA, RB, RS, fx12, p1, p2, p3, p4, reduceIte, p5, p6, p7, p8]; repeat (first | exact noC_empty _ _ (by simp -failIfUnchanged only [↓RA, RB, RS, fx12, p1, p2, p3, p4, reduceIte, p5, p6, p7, p8]) | exact noC_nilS _ _ (by simp -failIfUnchanged only [↓RA, RB, RS, fx12, p1, p2, p3, p4, reduceIte, p5, p6, p7, p8]) | refine noC_mk _ _ _ _ _ rfl ?_ | refine noC_mkS _ _ _ _ _ rfl ?_ | refine And.intro ?_ ?_))) ?_
          simp -failIfUnchanged only [↓RA, RB, RS, fx12, p1, p2, p3, p4, reduceIte, p5, p6, p7, p8, c1, c2, c3, c6]
          obtain ⟨v69, hv69, h⟩ := run_bind h
          refine CallH.mk [false] (spec_l25Linear_sat hv69) ?_ ?_ <;> simp -failIfUnchanged only [↓RA, RB, RS, fx12, p1, p2, p3, p4, reduceIte, p5, p6, p7, p8, c1, c2, c3, c6]
          refine CondH.mk (fun c7 => ?_) (fun c7 => ?_)
          · replace h := run_t c7 h
            simp -failIfUnchanged only [↓RA, RB, RS, fx12, p1, p2, p3, p4, reduceIte, p5, p6, p7, p8, c1, c2, c3, c6, c7]
            have h := run_some h
            obtain rfl : _ = r := h
            refine FinH.l ?_
            simp -failIfUnchanged only [↓RA, RB, RS, fx12, p1, p2, p3, p4, reduceIte, p5, p6, p7, p8, c1, c2, c3, c6, c7]
          · replace h := run_f c7 h
            simp -failIfUnchanged only [↓RA, RB, RS, fx12, p1, p2, p3, p4, reduceIte, p5, p6, p7, p8, c1, c2, c3, c6, c7]
            have h := run_some h
            obtain rfl : _ = r := h
            refine FinH.l ?_
            simp -failIfUnchanged only [↓RA, RB, RS, fx12, p1, p2, p3, p4, reduceIte, p5, p6, p7, p8, c1, c2, c3, c6, c7]
      · replace h := run_f c3 h
        simp -failIfUnchanged only [↓RA, RB, RS, fx12, p1, p2, p3, p4, reduceIte, p5, p6, p7, p8, c1, c2, c3]
        have h := run_some h
        obtain rfl : _ = r := h
        refine FinH.l ?_
        simp -failIfUnchanged only [↓RA, RB, RS, fx12, p1, p2, p3, p4, reduceIte, p5, p6, p7, p8, c1, c2, c3]
    · replace h := run_f c2 h
      simp -failIfUnchanged only [↓RA, RB, RS, fx12, p1, p2, p3, p4, reduceIte, p5, p6, p7, p8, c1, c2]
      have h := run_some h
      obtain rfl : _ = r := h
      refine FinH.l ?_
      simp -failIfUnchanged only [↓RA, RB, RS, fx12, p1, p2, p3, p4, reduceIte, p5, p6, p7, p8, c1, c2]
  · replace h := run_f c1 h
    simp -failIfUnchanged only [↓RA, RB, RS, fx12, p1, p2, p3, p4, reduceIte, p5, p6, p7, p8, c1]
    have h := run_some h
    obtain rfl : _ = r := h
    refine FinH.l ?_
    simp -failIfUnchanged only [↓RA, RB, RS, fx12, p1, p2, p3, p4, reduceIte, p5, p6, p7, p8, c1]

def fx38 := And.intro @ty_3 <| And.intro @zc_3 <| @z_3
set_option maxHeartbeats 4000000 in
theorem impl_within_sat {a0 : Int} {a1 : Int} {a2 : Int}  {r : Bool} (h : impl_within a0 a1 a2 = some r) : Sat Try.prog 38 [(I a0), (I a1), (I a2)] (B r) := by
  replace h := Run.of h
  unfold impl_within at h
  refine Sat.of_m (nt := 15) (rs := [.tmp 6]) (n := 100000) Try.func38 rfl rfl rfl rfl (by simp) ?_
  simp -failIfUnchanged only [↓RA, RB, RS, fx38, p1, p2, p3, p4, reduceIte, p5, p6, p7, p8]
  refine CondH.mk (fun c1 => ?_) (fun c1 => ?_)
  · replace h := run_t c1 h
    simp -failIfUnchanged only [↓RA, RB, RS, fx38, p1, p2, p3, p4, reduceIte, p5, p6, p7, p8, c1]
    have h := run_some h
    obtain rfl : _ = r := h
    refine FinH.l ?_
    simp -failIfUnchanged only [↓RA, RB, RS, fx38, p1, p2, p3, p4, reduceIte, p5, p6, p7, p8, c1]
  · replace h := run_f c1 h
    simp -failIfUnchanged only [↓RA, RB, RS, fx38, p1, p2, p3, p4, reduceIte, p5, p6, p7, p8, c1]
    have h := run_some h
    obtain rfl : _ = r := h
    refine FinH.l ?_
    simp -failIfUnchanged only [↓RA, RB, RS, fx38, p1, p2, p3, p4, reduceIte, p5, p6, p7, p8, c1]

def fx41 := And.intro @ty_5 <| And.intro @zc_5 <| @z_5
set_option maxHeartbeats 4000000 in
theorem impl_isUpper_sat {a0 : Int}  {r : Bool} (h : impl_isUpper a0 = some r) : Sat Try.prog 41 [((Ik .u8) a0)] (B r) := by
  replace h := Run.of h
  unfold impl_isUpper at h
  refine Sat.of_m (nt := 9) (rs := [.tmp 2]) (n := 100000) Try.func41 rfl rfl rfl rfl (by simp) ?_
  simp -failIfUnchanged only [↓RA, RB, RS, fx41, p1, p2, p3, p4, reduceIte, p5, p6, p7, p8]
  refine CondH.mk (fun c1 => ?_) (fun c1 => ?_)
  · replace h := run_t c1 h
    simp -failIfUnchanged only [↓RA, RB, RS, fx41, p1, p2, p3, p4, reduceIte, p5, p6, p7, p8, c1]
    have h := run_some h
    obtain rfl : _ = r := h
    refine FinH.l ?_
    simp -failIfUnchanged only [↓RA, RB, RS, fx41, p1, p2, p3, p4, reduceIte, p5, p6, p7, p8, c1]
  · replace h := run_f c1 h
    simp -failIfUnchanged only [↓RA, RB, RS, fx41, p1, p2, p3, p4, reduceIte, p5, p6, p7, p8, c1]
    have h := run_some h
    obtain rfl : _ = r := h
    refine FinH.l ?_
    simp -failIfUnchanged only [↓RA, RB, RS, fx41, p1, p2, p3, p4, reduceIte, p5, p6, p7, p8, c1]

def fx42 := And.intro @ty_5 <| And.intro @zc_5 <| @z_5
set_option maxHeartbeats 4000000 in
theorem impl_isLower_sat {a0 : Int}  {r : Bool} (h : impl_isLower a0 = some r) : Sat Try.prog 42 [((Ik .u8) a0)] (B r) := by
  replace h := Run.of h
  unfold impl_isLower at h
  refine Sat.of_m (nt := 9) (rs := [.tmp 2]) (n := 100000) Try.func42 rfl rfl rfl rfl (by simp) ?_
  simp -failIfUnchanged only [↓RA, RB, RS, fx42, p1, p2, p3, p4, reduceIte, p5, p6, p7, p8]
  refine CondH.mk (fun c1 => ?_) (fun c1 => ?_)
  · replace h := run_t c1 h
    simp -failIfUnchanged only [↓RA, RB, RS, fx42, p1, p2, p3, p4, reduceIte, p5, p6, p7, p8, c1]
    have h := run_some h
    obtain rfl : _ = r := h
    refine FinH.l ?_
    simp -failIfUnchanged only [↓RA, RB, RS, fx42, p1, p2, p3, p4, reduceIte, p5, p6, p7, p8, c1]
  · replace h := run_f c1 h
    simp -failIfUnchanged only [↓RA, RB, RS, fx42, p1, p2, p3, p4, reduceIte, p5, p6, p7, p8, c1]
    have h := run_some h
    obtain rfl : _ = r := h
    refine FinH.l ?_
    simp -failIfUnchanged only [↓RA, RB, RS, fx42, p1, p2, p3, p4, reduceIte, p5, p6, p7, p8, c1]

def fx43 := And.intro @ty_5 <| And.intro @zc_5 <| @z_5
set_option maxHeartbeats 4000000 in
theorem impl_isDigit_sat {a0 : Int}  {r : Bool} (h : impl_isDigit a0 = some r) : Sat Try.prog 43 [((Ik .u8) a0)] (B r) := by
  replace h := Run.of h
  unfold impl_isDigit at h
  refine Sat.of_m (nt := 9) (rs := [.tmp 2]) (n := 100000) Try.func43 rfl rfl rfl rfl (by simp) ?_
  simp -failIfUnchanged only [↓RA, RB, RS, fx43, p1, p2, p3, p4, reduceIte, p5, p6, p7, p8]
  refine CondH.mk (fun c1 => ?_) (fun c1 => ?_)
  · replace h := run_t c1 h
    simp -failIfUnchanged only [↓RA, RB, RS, fx43, p1, p2, p3, p4, reduceIte, p5, p6, p7, p8, c1]
    have h := run_some h
    obtain rfl : _ = r := h
    refine FinH.l ?_
    simp -failIfUnchanged only [↓RA, RB, RS, fx43, p1, p2, p3, p4, reduceIte, p5, p6, p7, p8, c1]
  · replace h := run_f c1 h
    simp -failIfUnchanged only [↓RA, RB, RS, fx43, p1, p2, p3, p4, reduceIte, p5, p6, p7, p8, c1]
    have h := run_some h
    obtain rfl : _ = r := h
    refine FinH.l ?_
    simp -failIfUnchanged only [↓RA, RB, RS, fx43, p1, p2, p3, p4, reduceIte, p5, p6, p7, p8, c1]

def fx31 := And.intro @ty_3 <| And.intro @zc_3 <| And.intro @z_3 <| And.intro @ty_4 <| And.intro @zc_4 <| And.intro @z_4 <| And.intro @u_4 <| And.intro @ty_5 <| And.intro @zc_5 <| And.intro @z_5 <| And.intro @ty_9 <| And.intro @zc_9 <| And.intro @z_9 <| @u_9
set_option maxHeartbeats 4000000 in
theorem impl_isVariable_sat {a0 : ByteArray}  {r : Bool} (h : impl_isVariable a0 = some r) : Sat Try.prog 31 [(Sx a0)] (B r) := by
  replace h := Run.of h
  unfold impl_isVariable at h
  refine Sat.of_m (nt := 40) (rs := [.tmp 2]) (n := 100000) Try.func31 rfl rfl rfl rfl (by simp) ?_
  simp -failIfUnchanged only [↓RA, RB, RS, fx31, p1, p2, p3, p4, reduceIte, p5, p6, p7, p8]
  obtain ⟨N2, hN2, h⟩ := run_bind h
  obtain ⟨hN2a, hN2b⟩ := bnd_some hN2
  replace h := run_loop h
  refine Mg.forN h (fun i2 s2 => [(0, .val (.pv (Sx a0))), (5, .val (.pv (I (a0.size : Int)))), (6, .val (.pv (I (i2 : Int))))]) (fun i2 s2 => []) (St.le_mk2 (by simp -failIfUnchanged only [↓RA, RB, RS, fx31, p1, p2, p3, p4, reduceIte, p5, p6, p7, p8])) (fun i2 s2 hi h => ?_) (fun s2 h => ?_)
  · have w2 := wrap_succ (i := i2) (by omega)
    simp -failIfUnchanged only [↓RA, RB, RS, fx31, p1, p2, p3, p4, reduceIte, p5, p6, p7, p8]
    refine CondH.tt (decide_eq_true (by omega)) (fun c1 => ?_)
    simp -failIfUnchanged only [↓RA, RB, RS, fx31, p1, p2, p3, p4, reduceIte, p5, p6, p7, p8, c1]
    refine CondH.mk (fun c2 => ?_) (fun c2 => ?_)
    · replace h := run_t c2 h
      simp -failIfUnchanged only [↓RA, RB, RS, fx31, p1, p2, p3, p4, reduceIte, p5, p6, p7, p8, c1, c2]
      obtain ⟨v14, hv14, h⟩ := run_bind h
      refine SidxH.mk hv14 ?_
      simp -failIfUnchanged only [↓RA, RB, RS, fx31, p1, p2, p3, p4, reduceIte, p5, p6, p7, p8, c1, c2]
      obtain ⟨v15, hv15, h⟩ := run_bind h
      refine CallH.mk [false] (impl_isUpper_sat hv15) ?_ ?_ <;> simp -failIfUnchanged only [↓RA, RB, RS, fx31, p1, p2, p3, p4, reduceIte, p5, p6, p7, p8, c1, c2]
      refine CondH.mk (fun c3 => ?_) (fun c3 => ?_)
      · replace h := run_t c3 h
        simp -failIfUnchanged only [↓RA, RB, RS, fx31, p1, p2, p3, p4, reduceIte, p5, p6, p7, p8, c1, c2, c3]
        refine CondH.mk (fun c4 => ?_) (fun c4 => ?_)
        · replace h := run_t c4 h
          simp -failIfUnchanged only [↓RA, RB, RS, fx31, p1, p2, p3, p4, reduceIte, p5, p6, p7, p8, c1, c2, c3, c4]
          obtain ⟨v24, hv24, h⟩ := run_bind h
          refine SidxH.mk hv24 ?_
          simp -failIfUnchanged only [↓RA, RB, RS, fx31, p1, p2, p3, p4, reduceIte, p5, p6, p7, p8, c1, c2, c3, c4]
          obtain ⟨v25, hv25, h⟩ := run_bind h
          refine CallH.mk [false] (impl_isLower_sat hv25) ?_ ?_ <;> simp -failIfUnchanged only [↓RA, RB, RS, fx31, p1, p2, p3, p4, reduceIte, p5, p6, p7, p8, c1, c2, c3, c4]
          refine CondH.mk (fun c5 => ?_) (fun c5 => ?_)
          · replace h := run_t c5 h
            simp -failIfUnchanged only [↓RA, RB, RS, fx31, p1, p2, p3, p4, reduceIte, p5, p6, p7, p8, c1, c2, c3, c4, c5]
            have h := run_some h
            refine RdH.mk ⟨_, h, ?_⟩
            refine St.le_mk2 ?_
            simp -failIfUnchanged only [↓RA, RB, RS, fx31, p1, p2, p3, p4, reduceIte, p5, p6, p7, p8, c1, c2, c3, c4, c5, w2]
          · replace h := run_f c5 h
            simp -failIfUnchanged only [↓RA, RB, RS, fx31, p1, p2, p3, p4, reduceIte, p5, p6, p7, p8, c1, c2, c3, c4, c5]
            obtain ⟨v31, hv31, h⟩ := run_bind h
            refine SidxH.mk hv31 ?_
            simp -failIfUnchanged only [↓RA, RB, RS, fx31, p1, p2, p3, p4, reduceIte, p5, p6, p7, p8, c1, c2, c3, c4, c5]
            obtain ⟨v32, hv32, h⟩ := run_bind h
            refine CallH.mk [false] (impl_isDigit_sat hv32) ?_ ?_ <;> simp -failIfUnchanged only [↓RA, RB, RS, fx31, p1, p2, p3, p4, reduceIte, p5, p6, p7, p8, c1, c2, c3, c4, c5]
            refine CondH.mk (fun c6 => ?_) (fun c6 => ?_)
            · replace h := run_t c6 h
              simp -failIfUnchanged only [↓RA, RB, RS, fx31, p1, p2, p3, p4, reduceIte, p5, p6, p7, p8, c1, c2, c3, c4, c5, c6]
              have h := run_some h
              refine RdH.mk ⟨_, h, ?_⟩
              refine St.le_mk2 ?_
              simp -failIfUnchanged only [↓RA, RB, RS, fx31, p1, p2, p3, p4, reduceIte, p5, p6, p7, p8, c1, c2, c3, c4, c5, c6, w2]
            · replace h := run_f c6 h
              simp -failIfUnchanged only [↓RA, RB, RS, fx31, p1, p2, p3, p4, reduceIte, p5, p6, p7, p8, c1, c2, c3, c4, c5, c6]
              have h := run_some h
              obtain rfl : _ = r := h
              refine FinH.l ?_
              simp -failIfUnchanged only [↓RA, RB, RS, fx31, p1, p2, p3, p4, reduceIte, p5, p6, p7, p8, c1, c2, c3, c4, c5, c6]
        · replace h := run_f c4 h
          simp -failIfUnchanged only [↓RA, RB, RS, fx31, p1, p2, p3, p4, reduceIte, p5, p6, p7, p8, c1, c2, c3, c4]
          have h := run_some h
          refine RdH.mk ⟨_, h, ?_⟩
          refine St.le_mk2 ?_
          simp -failIfUnchanged only [↓RA, RB, RS, fx31, p1, p2, p3, p4, reduceIte, p5, p6, p7, p8, c1, c2, c3, c4, w2]
      · replace h := run_f c3 h
        simp -failIfUnchanged only [↓RA, RB, RS, fx31, p1, p2, p3, p4, reduceIte, p5, p6, p7, p8, c1, c2, c3]
        have h := run_some h
        obtain rfl : _ = r := h
        refine FinH.l ?_
        simp -failIfUnchanged only [↓RA, RB, RS, fx31, p1, p2, p3, p4, reduceIte, p5, p6, p7, p8, c1, c2, c3]
    · replace h := run_f c2 h
      simp -failIfUnchanged only [↓RA, RB, RS, fx31, p1, p2, p3, p4, reduceIte, p5, p6, p7, p8, c1, c2]
      refine CondH.mk (fun c7 => ?_) (fun c7 => ?_)
      · replace h := run_t c7 h
        simp -failIfUnchanged only [↓RA, RB, RS, fx31, p1, p2, p3, p4, reduceIte, p5, p6, p7, p8, c1, c2, c7]
        obtain ⟨v24, hv24, h⟩ := run_bind h
        refine SidxH.mk hv24 ?_
        simp -failIfUnchanged only [↓RA, RB, RS, fx31, p1, p2, p3, p4, reduceIte, p5, p6, p7, p8, c1, c2, c7]
        obtain ⟨v25, hv25, h⟩ := run_bind h
        refine CallH.mk [false] (impl_isLower_sat hv25) ?_ ?_ <;> simp -failIfUnchanged only [↓RA, RB, RS, fx31, p1, p2, p3, p4, reduceIte, p5, p6, p7, p8, c1, c2, c7]
        refine CondH.mk (fun c8 => ?_) (fun c8 => ?_)
        · replace h := run_t c8 h
          simp -failIfUnchanged only [↓RA, RB, RS, fx31, p1, p2, p3, p4, reduceIte, p5, p6, p7, p8, c1, c2, c7, c8]
          have h := run_some h
          refine RdH.mk ⟨_, h, ?_⟩
          refine St.le_mk2 ?_
          simp -failIfUnchanged only [↓RA, RB, RS, fx31, p1, p2, p3, p4, reduceIte, p5, p6, p7, p8, c1, c2, c7, c8, w2]
        · replace h := run_f c8 h
          simp -failIfUnchanged only [↓RA, RB, RS, fx31, p1, p2, p3, p4, reduceIte, p5, p6, p7, p8, c1, c2, c7, c8]
          obtain ⟨v31, hv31, h⟩ := run_bind h
          refine SidxH.mk hv31 ?_
          simp -failIfUnchanged only [↓RA, RB, RS, fx31, p1, p2, p3, p4, reduceIte, p5, p6, p7, p8, c1, c2, c7, c8]
          obtain ⟨v32, hv32, h⟩ := run_bind h
          refine CallH.mk [false] (impl_isDigit_sat hv32) ?_ ?_ <;> simp -failIfUnchanged only [↓RA, RB, RS, fx31, p1, p2, p3, p4, reduceIte, p5, p6, p7, p8, c1, c2, c7, c8]
          refine CondH.mk (fun c9 => ?_) (fun c9 => ?_)
          · replace h := run_t c9 h
            simp -failIfUnchanged only [↓RA, RB, RS, fx31, p1, p2, p3, p4, reduceIte, p5, p6, p7, p8, c1, c2, c7, c8, c9]
            have h := run_some h
            refine RdH.mk ⟨_, h, ?_⟩
            refine St.le_mk2 ?_
            simp -failIfUnchanged only [↓RA, RB, RS, fx31, p1, p2, p3, p4, reduceIte, p5, p6, p7, p8, c1, c2, c7, c8, c9, w2]
          · replace h := run_f c9 h
            simp -failIfUnchanged only [↓RA, RB, RS, fx31, p1, p2, p3, p4, reduceIte, p5, p6, p7, p8, c1, c2, c7, c8, c9]
            have h := run_some h
            obtain rfl : _ = r := h
            refine FinH.l ?_
            simp -failIfUnchanged only [↓RA, RB, RS, fx31, p1, p2, p3, p4, reduceIte, p5, p6, p7, p8, c1, c2, c7, c8, c9]
      · replace h := run_f c7 h
        simp -failIfUnchanged only [↓RA, RB, RS, fx31, p1, p2, p3, p4, reduceIte, p5, p6, p7, p8, c1, c2, c7]
        have h := run_some h
        refine RdH.mk ⟨_, h, ?_⟩
        refine St.le_mk2 ?_
        simp -failIfUnchanged only [↓RA, RB, RS, fx31, p1, p2, p3, p4, reduceIte, p5, p6, p7, p8, c1, c2, c7, w2]
  · simp -failIfUnchanged only [↓RA, RB, RS, fx31, p1, p2, p3, p4, reduceIte, p5, p6, p7, p8]
    refine CondH.ff (decide_eq_false (by omega)) (fun c10 => ?_)
    simp -failIfUnchanged only [↓RA, RB, RS, fx31, p1, p2, p3, p4, reduceIte, p5, p6, p7, p8, c10]
    obtain ⟨v39, hv39, h⟩ := run_bind h
    refine CallH.mk [false, false, false] (impl_within_sat hv39) ?_ ?_ <;> simp -failIfUnchanged only [↓RA, RB, RS, fx31, p1, p2, p3, p4, reduceIte, p5, p6, p7, p8, c10]
    have h := run_some h
    obtain rfl : _ = r := h
    refine FinH.l ?_
    simp -failIfUnchanged only [↓RA, RB, RS, fx31, p1, p2, p3, p4, reduceIte, p5, p6, p7, p8, c10]

def fx20 := And.intro @ty_3 <| And.intro @zc_3 <| And.intro @z_3 <| And.intro @ty_4 <| And.intro @zc_4 <| And.intro @z_4 <| And.intro @u_4 <| And.intro @ty_9 <| And.intro @zc_9 <| And.intro @z_9 <| And.intro @u_9 <| And.intro @ty_22 <| And.intro @zc_22 <| And.intro @z_22 <| And.intro @es_22 <| And.intro @eb_22 <| And.intro @sl_22 <| And.intro @is_22 <| And.intro @el_22 <| And.intro @ze_22 <| And.intro @ez_22 <| And.intro @ty_23 <| And.intro @zc_23 <| And.intro @z_23 <| And.intro @es_23 <| And.intro @eb_23 <| And.intro @sl_23 <| And.intro @is_23 <| And.intro @el_23 <| And.intro @ze_23 <| And.intro @ez_23 <| And.intro @ty_27 <| And.intro @zc_27 <| And.intro @z_27 <| And.intro @fo_27_0 <| And.intro @fi_27_0 <| And.intro @ft_27_0 <| And.intro @fo_27_1 <| And.intro @fi_27_1 <| And.intro @ft_27_1 <| And.intro @fo_27_2 <| And.intro @fi_27_2 <| And.intro @ft_27_2 <| @lay_27
set_option maxHeartbeats 4000000 in
theorem impl_IsValidLinear_sat {a0 : Linear}  {r : Bool} (h : impl_IsValidLinear a0 = some r) : Sat Try.prog 20 [((Linear.pv false) a0)] (B r) := by
  replace h := Run.of h
  unfold impl_IsValidLinear at h
  refine Sat.of_m (nt := 59) (rs := [.tmp 2]) (n := 100000) Try.func20 rfl rfl rfl rfl (by simp) ?_
  simp -failIfUnchanged only [↓RA, RB, RS, fx20, p1, p2, p3, p4, reduceIte, p5, p6, p7, p8]
  repeat (first | with_reducible refine noR_and (by repeat (first | exact noR_empty _ _ | exact noR_nilS _ _ | refine noR_mk _ _ _ _ _ rfl ?_ | refine noR_mkS _ _ _ _ _ rfl ?_)) ?_ | with_reducible refine noC_and (by repeat (first | exact noC_empty _ _ (by simp -failIfUnchanged only [↓RA, RB, RS, fx20, p1, p2, p3, p4, reduceIte, p5, p6, p7, p8]) | exact noC_nilS _ _ (by simp -failIfUnchanged only [↓RA, RB, RS, fx20, p1, p2, p3, p4, reduceIte, p5, p6, p7, p8]) | refine noC_mk _ _ _ _ _ rfl ?_ | refine noC_mkS _ _ _ _ _ rfl ?_)) ?_ | with_reducible refine and_ac ?_ | with_reducible refine And.intro (a := _ = List.range _) (by rfl) ?_)
  refine CondH.mk (fun c1 => ?_) (fun c1 => ?_)
  · replace h := run_t c1 h
    simp -failIfUnchanged only [↓RA, RB, RS, fx20, p1, p2, p3, p4, reduceIte, p5, p6, p7, p8, c1]
    have h := run_some h
    obtain rfl : _ = r := h
    refine FinH.l ?_
    simp -failIfUnchanged only [↓RA, RB, RS, fx20, p1, p2, p3, p4, reduceIte, p5, p6, p7, p8, c1]
  · replace h := run_f c1 h
    simp -failIfUnchanged only [↓RA, RB, RS, fx20, p1, p2, p3, p4, reduceIte, p5, p6, p7, p8, c1]
    refine CondH.mk (fun c2 => ?_) (fun c2 => ?_)
    · replace h := run_t c2 h
      simp -failIfUnchanged only [↓RA, RB, RS, fx20, p1, p2, p3, p4, reduceIte, p5, p6, p7, p8, c1, c2]
      obtain ⟨v21, hv21, h⟩ := run_bind h
      refine CallH.mk [false, false, false] (impl_within_sat hv21) ?_ ?_ <;> simp -failIfUnchanged only [↓RA, RB, RS, fx20, p1, p2, p3, p4, reduceIte, p5, p6, p7, p8, c1, c2]
      refine CondH.mk (fun c3 => ?_) (fun c3 => ?_)
      · replace h := run_t c3 h
        simp -failIfUnchanged only [↓RA, RB, RS, fx20, p1, p2, p3, p4, reduceIte, p5, p6, p7, p8, c1, c2, c3]
        refine Mg.know_sl (b := false) (sz := 1) (es := a0.Vars.map Sx) 6 (by simp -failIfUnchanged only [↓RA, RB, RS, fx20, p1, p2, p3, p4, reduceIte, p5, p6, p7, p8, c1, c2, c3]) fun hl6 => ?_; rw [List.length_map] at hl6
        replace h := run_loop h
        refine Mg.forN h (fun i4 s4 => [(1, .box (.pv ((Linear.pv false) a0))), (25, .val (.pv (.sl false 1 (a0.Vars.map Sx)))), (26, .val (.pv (I (a0.Vars.length : Int)))), (27, .val (.pv (I (i4 : Int))))]) (fun i4 s4 => []) (St.le_mk2 (by simp -failIfUnchanged only [↓RA, RB, RS, fx20, p1, p2, p3, p4, reduceIte, p5, p6, p7, p8, c1, c2, c3])) (fun i4 s4 hi h => ?_) (fun s4 h => ?_)
        · have w4 := wrap_succ (i := i4) (by omega)
          simp -failIfUnchanged only [↓RA, RB, RS, fx20, p1, p2, p3, p4, reduceIte, p5, p6, p7, p8, c1, c2, c3]
          refine CondH.tt (decide_eq_true (by omega)) (fun c4 => ?_)
          simp -failIfUnchanged only [↓RA, RB, RS, fx20, p1, p2, p3, p4, reduceIte, p5, p6, p7, p8, c1, c2, c3, c4]
          obtain ⟨v30, hv30, h⟩ := run_bind h
          refine IdxH.mk (f := Sx) hv30 ?_ ?_ <;> simp -failIfUnchanged only [↓RA, RB, RS, fx20, p1, p2, p3, p4, reduceIte, p5, p6, p7, p8, c1, c2, c3, c4]
          obtain ⟨v33, hv33, h⟩ := run_bind h
          refine CallH.mk [false] (impl_isVariable_sat hv33) ?_ ?_ <;> simp -failIfUnchanged only [↓RA, RB, RS, fx20, p1, p2, p3, p4, reduceIte, p5, p6, p7, p8, c1, c2, c3, c4]
          refine CondH.mk (fun c5 => ?_) (fun c5 => ?_)
          · replace h := run_t c5 h
            simp -failIfUnchanged only [↓RA, RB, RS, fx20, p1, p2, p3, p4, reduceIte, p5, p6, p7, p8, c1, c2, c3, c4, c5]
            refine CondH.mk (fun c6 => ?_) (fun c6 => ?_)
            · replace h := run_t c6 h
              simp -failIfUnchanged only [↓RA, RB, RS, fx20, p1, p2, p3, p4, reduceIte, p5, p6, p7, p8, c1, c2, c3, c4, c5, c6]
              obtain ⟨v44, hv44, h⟩ := run_bind h
              refine IdxH.mk (f := Sx) hv44 ?_ ?_ <;> simp -failIfUnchanged only [↓RA, RB, RS, fx20, p1, p2, p3, p4, reduceIte, p5, p6, p7, p8, c1, c2, c3, c4, c5, c6]
              refine CondH.mk (fun c7 => ?_) (fun c7 => ?_)
              · replace h := run_t c7 h
                simp -failIfUnchanged only [↓RA, RB, RS, fx20, p1, p2, p3, p4, reduceIte, p5, p6, p7, p8, c1, c2, c3, c4, c5, c6, c7]
                have h := run_some h
                obtain rfl : _ = r := h
                refine FinH.l ?_
                simp -failIfUnchanged only [↓RA, RB, RS, fx20, p1, p2, p3, p4, reduceIte, p5, p6, p7, p8, c1, c2, c3, c4, c5, c6, c7]
              · replace h := run_f c7 h
                simp -failIfUnchanged only [↓RA, RB, RS, fx20, p1, p2, p3, p4, reduceIte, p5, p6, p7, p8, c1, c2, c3, c4, c5, c6, c7]
                obtain ⟨v53, hv53, h⟩ := run_bind h
                refine IdxH.mk (f := I) hv53 ?_ ?_ <;> simp -failIfUnchanged only [↓RA, RB, RS, fx20, p1, p2, p3, p4, reduceIte, p5, p6, p7, p8, c1, c2, c3, c4, c5, c6, c7]
                obtain ⟨v55, hv55, h⟩ := run_bind h
                refine CallH.mk [false, false, false] (impl_within_sat hv55) ?_ ?_ <;> simp -failIfUnchanged only [↓RA, RB, RS, fx20, p1, p2, p3, p4, reduceIte, p5, p6, p7, p8, c1, c2, c3, c4, c5, c6, c7]
                refine CondH.mk (fun c8 => ?_) (fun c8 => ?_)
                · replace h := run_t c8 h
                  simp -failIfUnchanged only [↓RA, RB, RS, fx20, p1, p2, p3, p4, reduceIte, p5, p6, p7, p8, c1, c2, c3, c4, c5, c6, c7, c8]
                  have h := run_some h
                  refine RdH.mk ⟨_, h, ?_⟩
                  refine St.le_mk2 ?_
                  simp -failIfUnchanged only [↓RA, RB, RS, fx20, p1, p2, p3, p4, reduceIte, p5, p6, p7, p8, c1, c2, c3, c4, c5, c6, c7, c8, w4]
                · replace h := run_f c8 h
                  simp -failIfUnchanged only [↓RA, RB, RS, fx20, p1, p2, p3, p4, reduceIte, p5, p6, p7, p8, c1, c2, c3, c4, c5, c6, c7, c8]
                  have h := run_some h
                  obtain rfl : _ = r := h
                  refine FinH.l ?_
                  simp -failIfUnchanged only [↓RA, RB, RS, fx20, p1, p2, p3, p4, reduceIte, p5, p6, p7, p8, c1, c2, c3, c4, c5, c6, c7, c8]
            · replace h := run_f c6 h
              simp -failIfUnchanged only [↓RA, RB, RS, fx20, p1, p2, p3, p4, reduceIte, p5, p6, p7, p8, c1, c2, c3, c4, c5, c6]
              obtain ⟨v53, hv53, h⟩ := run_bind h
              refine IdxH.mk (f := I) hv53 ?_ ?_ <;> simp -failIfUnchanged only [↓RA, RB, RS, fx20, p1, p2, p3, p4, reduceIte, p5, p6, p7, p8, c1, c2, c3, c4, c5, c6]
              obtain ⟨v55, hv55, h⟩ := run_bind h
              refine CallH.mk [false, false, false] (impl_within_sat hv55) ?_ ?_ <;> simp -failIfUnchanged only [↓RA, RB, RS, fx20, p1, p2, p3, p4, reduceIte, p5, p6, p7, p8, c1, c2, c3, c4, c5, c6]
              refine CondH.mk (fun c9 => ?_) (fun c9 => ?_)
              · replace h := run_t c9 h
                simp -failIfUnchanged only [↓RA, RB, RS, fx20, p1, p2, p3, p4, reduceIte, p5, p6, p7, p8, c1, c2, c3, c4, c5, c6, c9]
                have h := run_some h
                refine RdH.mk ⟨_, h, ?_⟩
                refine St.le_mk2 ?_
                simp -failIfUnchanged only [↓RA, RB, RS, fx20, p1, p2, p3, p4, reduceIte, p5, p6, p7, p8, c1, c2, c3, c4, c5, c6, c9, w4]
              · replace h := run_f c9 h
                simp -failIfUnchanged only [↓RA, RB, RS, fx20, p1, p2, p3, p4, reduceIte, p5, p6, p7, p8, c1, c2, c3, c4, c5, c6, c9]
                have h := run_some h
                obtain rfl : _ = r := h
                refine FinH.l ?_
                simp -failIfUnchanged only [↓RA, RB, RS, fx20, p1, p2, p3, p4, reduceIte, p5, p6, p7, p8, c1, c2, c3, c4, c5, c6, c9]
          · replace h := run_f c5 h
            simp -failIfUnchanged only [↓RA, RB, RS, fx20, p1, p2, p3, p4, reduceIte, p5, p6, p7, p8, c1, c2, c3, c4, c5]
            have h := run_some h
            obtain rfl : _ = r := h
            refine FinH.l ?_
            simp -failIfUnchanged only [↓RA, RB, RS, fx20, p1, p2, p3, p4, reduceIte, p5, p6, p7, p8, c1, c2, c3, c4, c5]
        · simp -failIfUnchanged only [↓RA, RB, RS, fx20, p1, p2, p3, p4, reduceIte, p5, p6, p7, p8, c1, c2, c3]
          refine CondH.ff (decide_eq_false (by omega)) (fun c10 => ?_)
          simp -failIfUnchanged only [↓RA, RB, RS, fx20, p1, p2, p3, p4, reduceIte, p5, p6, p7, p8, c1, c2, c3, c10]
          have h := run_some h
          obtain rfl : _ = r := h
          refine FinH.l ?_
          simp -failIfUnchanged only [↓RA, RB, RS, fx20, p1, p2, p3, p4, reduceIte, p5, p6, p7, p8, c1, c2, c3, c10]
      · replace h := run_f c3 h
        simp -failIfUnchanged only [↓RA, RB, RS, fx20, p1, p2, p3, p4, reduceIte, p5, p6, p7, p8, c1, c2, c3]
        have h := run_some h
        obtain rfl : _ = r := h
        refine FinH.l ?_
        simp -failIfUnchanged only [↓RA, RB, RS, fx20, p1, p2, p3, p4, reduceIte, p5, p6, p7, p8, c1, c2, c3]
    · replace h := run_f c2 h
      simp -failIfUnchanged only [↓RA, RB, RS, fx20, p1, p2, p3, p4, reduceIte, p5, p6, p7, p8, c1, c2]
      have h := run_some h
      obtain rfl : _ = r := h
      refine FinH.l ?_
      simp -failIfUnchanged only [↓RA, RB, RS, fx20, p1, p2, p3, p4, reduceIte, p5, p6, p7, p8, c1, c2]

def fx32 := And.intro @ty_3 <| And.intro @zc_3 <| And.intro @z_3 <| And.intro @ty_9 <| And.intro @zc_9 <| And.intro @z_9 <| And.intro @u_9 <| And.intro @ty_22 <| And.intro @zc_22 <| And.intro @z_22 <| And.intro @es_22 <| And.intro @eb_22 <| And.intro @sl_22 <| And.intro @is_22 <| And.intro @el_22 <| And.intro @ze_22 <| And.intro @ez_22 <| And.intro @ty_23 <| And.intro @zc_23 <| And.intro @z_23 <| And.intro @es_23 <| And.intro @eb_23 <| And.intro @sl_23 <| And.intro @is_23 <| And.intro @el_23 <| And.intro @ze_23 <| And.intro @ez_23 <| And.intro @ty_27 <| And.intro @zc_27 <| And.intro @z_27 <| And.intro @fo_27_0 <| And.intro @fi_27_0 <| And.intro @ft_27_0 <| And.intro @fo_27_1 <| And.intro @fi_27_1 <| And.intro @ft_27_1 <| And.intro @fo_27_2 <| And.intro @fi_27_2 <| And.intro @ft_27_2 <| And.intro @lay_27 <| And.intro @ty_47 <| @mixedT
set_option maxHeartbeats 4000000 in
theorem impl_Linear__add_sat {a0 : Linear} {a1 : GMap Int} {a2 : Int}  {r : Int × (GMap Int)} (h : impl_Linear__add a0 a1 a2 = some r) : SatH Try.prog 32 [((Linear.pv false) a0)] [(I a2)] .mp [] (.mp (gmap I a1.es) a1.clock) (.mp (gmap I r.2.es) r.2.clock) (I r.1) := by
  replace h := Run.of h
  unfold impl_Linear__add at h
  refine SatH.of_k (nt := 33) (rs := [.tmp 6]) (n := 100000) 1 Try.func32 rfl rfl rfl rfl rfl (Nat.le_of_ble_eq_true rfl) (by decide) (Nat.le_of_ble_eq_true rfl) ?_
  simp -failIfUnchanged only [↓RA, RH, RB, RS, fx32, p1, p2, p3, p4, reduceIte, p5, p6, p7, p8]
  repeat (first | with_reducible refine noR_and (by repeat (first | exact noR_empty _ _ | exact noR_nilS _ _ | refine noR_mk _ _ _ _ _ rfl ?_ | refine noR_mkS _ _ _ _ _ rfl ?_)) ?_ | with_reducible refine noC_and (by repeat (first | exact noC_empty _ _ (by simp -failIfUnchanged only [↓RA, RH, RB, RS, fx32, p1, p2, p3, p4, reduceIte, p5, p6, p7, p8]) | exact noC_nilS _ _ (by simp -failIfUnchanged only [↓RA, RH, RB, RS, fx32, p1, p2, p3, p4, reduceIte, p5, p6, p7, p8]) | refine noC_mk _ _ _ _ _ rfl ?_ | refine noC_mkS _ _ _ _ _ rfl ?_)) ?_ | with_reducible refine and_ac ?_ | with_reducible refine And.intro (a := _ = List.range _) (by rfl) ?_)
  refine Mg.know_sl (b := false) (sz := 1) (es := a0.Vars.map Sx) 10 (by simp -failIfUnchanged only [↓RA, RH, RB, RS, fx32, p1, p2, p3, p4, reduceIte, p5, p6, p7, p8]) fun hl10 => ?_; rw [List.length_map] at hl10
  replace h := run_loop h
  refine Mg.forN h (fun i2 s2 => [(1, .hold .mp [] (.mp (gmap I (s2).es) (s2).clock)), (2, .val (.pv (I a2))), (3, .box (.pv ((Linear.pv false) a0))), (10, .val (.pv (.sl false 1 (a0.Vars.map Sx)))), (11, .val (.pv (I (a0.Vars.length : Int)))), (12, .val (.pv (I (i2 : Int)))), (20000, gh 1)]) (fun i2 s2 => []) (St.le_mk2 (by simp -failIfUnchanged only [↓RA, RH, RB, RS, fx32, p1, p2, p3, p4, reduceIte, p5, p6, p7, p8])) (fun i2 s2 hi h => ?_) (fun s2 h => ?_)
  · have w2 := wrap_succ (i := i2) (by omega)
    simp -failIfUnchanged only [↓RA, RH, RB, RS, fx32, p1, p2, p3, p4, reduceIte, p5, p6, p7, p8]
    refine CondH.tt (decide_eq_true (by omega)) (fun c1 => ?_)
    simp -failIfUnchanged only [↓RA, RH, RB, RS, fx32, p1, p2, p3, p4, reduceIte, p5, p6, p7, p8, c1]
    obtain ⟨v15, hv15, h⟩ := run_bind h
    refine IdxH.mk (f := Sx) hv15 ?_ ?_ <;> simp -failIfUnchanged only [↓RA, RH, RB, RS, fx32, p1, p2, p3, p4, reduceIte, p5, p6, p7, p8, c1]
    refine HandH.lookup (E := 3) (r := 1) (sh := .mp) (ps := []) (m := s2) (f := I) (k := v15) (z0 := (0 : Int)) mt_47 mz_3 (by simp -failIfUnchanged only [↓RA, RH, RB, RS, fx32, p1, p2, p3, p4, reduceIte, p5, p6, p7, p8, c1]) ?_
    simp -failIfUnchanged only [↓RA, RH, RB, RS, fx32, p1, p2, p3, p4, reduceIte, p5, p6, p7, p8, c1]
    obtain ⟨v24, hv24, h⟩ := run_bind h
    refine IdxH.mk (f := I) hv24 ?_ ?_ <;> simp -failIfUnchanged only [↓RA, RH, RB, RS, fx32, p1, p2, p3, p4, reduceIte, p5, p6, p7, p8, c1]
    refine HandH.put (E := 3) (r := 1) (sh := .mp) (ps := []) (m := s2) (f := I) (k := v15) (v0 := IntKind.i64.wrap ((GMap.get s2 v15 (0 : Int)) + (IntKind.i64.wrap (a2 * v24)))) (c := (.pv (I (IntKind.i64.wrap ((GMap.get s2 v15 (0 : Int)) + (IntKind.i64.wrap (a2 * v24))))))) mt_47 (by simp -failIfUnchanged only [↓RA, RH, RB, RS, fx32, p1, p2, p3, p4, reduceIte, p5, p6, p7, p8, c1]) ?_
    simp -failIfUnchanged only [↓RA, RH, RB, RS, fx32, p1, p2, p3, p4, reduceIte, p5, p6, p7, p8, c1]
    refine And.intro (DrawH.none (by rfl) (by first | rfl | (simp -failIfUnchanged only [↓RA, RH, RB, RS, fx32, p1, p2, p3, p4, reduceIte, p5, p6, p7, p8] <;> rfl)) (by first | rfl | (simp -failIfUnchanged only [↓RA, RH, RB, RS, fx32, p1, p2, p3, p4, reduceIte, p5, p6, p7, p8] <;> rfl)) (by first | rfl | (simp -failIfUnchanged only [↓RA, RH, RB, RS, fx32, p1, p2, p3, p4, reduceIte, p5, p6, p7, p8] <;> rfl))) ?_
    simp -failIfUnchanged only [↓RA, RH, RB, RS, fx32, p1, p2, p3, p4, reduceIte, p5, p6, p7, p8, c1]
    have h := run_some h
    refine RdH.mk ⟨_, h, ?_⟩
    refine St.le_mk2 ?_
    simp -failIfUnchanged only [↓RA, RH, RB, RS, fx32, p1, p2, p3, p4, reduceIte, p5, p6, p7, p8, c1, w2]
  · simp -failIfUnchanged only [↓RA, RH, RB, RS, fx32, p1, p2, p3, p4, reduceIte, p5, p6, p7, p8]
    refine CondH.ff (decide_eq_false (by omega)) (fun c2 => ?_)
    simp -failIfUnchanged only [↓RA, RH, RB, RS, fx32, p1, p2, p3, p4, reduceIte, p5, p6, p7, p8, c2]
    have h := run_some h
    obtain rfl : _ = r := h
    refine RetHB.l ?_
    simp -failIfUnchanged only [↓RA, RH, RB, RS, fx32, p1, p2, p3, p4, reduceIte, p5, p6, p7, p8, c2]

def fx51 := And.intro @ty_9 <| And.intro @zc_9 <| And.intro @z_9 <| @u_9
set_option maxHeartbeats 4000000 in
theorem cmp_isNaN_string_sat {a0 : ByteArray}  {r : Bool} (h : cmp_isNaN_string a0 = some r) : Sat Try.prog 51 [(Sx a0)] (B r) := by
  replace h := Run.of h
  unfold cmp_isNaN_string at h
  refine Sat.of_m (nt := 6) (rs := [.tmp 2]) (n := 100000) Try.func51 rfl rfl rfl rfl (by simp) ?_
  simp -failIfUnchanged only [↓RA, RB, RS, fx51, p1, p2, p3, p4, reduceIte, p5, p6, p7, p8]
  have h := run_some h
  obtain rfl : _ = r := h
  refine FinH.l ?_
  simp -failIfUnchanged only [↓RA, RB, RS, fx51, p1, p2, p3, p4, reduceIte, p5, p6, p7, p8]

def fx47 := And.intro @ty_4 <| And.intro @zc_4 <| And.intro @z_4 <| And.intro @u_4 <| And.intro @ty_9 <| And.intro @zc_9 <| And.intro @z_9 <| @u_9
set_option maxHeartbeats 4000000 in
theorem cmp_Less_string_sat {a0 : ByteArray} {a1 : ByteArray}  {r : Bool} (h : cmp_Less_string a0 a1 = some r) : Sat Try.prog 47 [(Sx a0), (Sx a1)] (B r) := by
  replace h := Run.of h
  unfold cmp_Less_string at h
  refine Sat.of_m (nt := 17) (rs := [.tmp 4]) (n := 100000) Try.func47 rfl rfl rfl rfl (by simp) ?_
  simp -failIfUnchanged only [↓RA, RB, RS, fx47, p1, p2, p3, p4, reduceIte, p5, p6, p7, p8]
  obtain ⟨v6, hv6, h⟩ := run_bind h
  refine CallH.mk [false] (cmp_isNaN_string_sat hv6) ?_ ?_ <;> simp -failIfUnchanged only [↓RA, RB, RS, fx47, p1, p2, p3, p4, reduceIte, p5, p6, p7, p8]
  refine CondH.mk (fun c1 => ?_) (fun c1 => ?_)
  · replace h := run_t c1 h
    simp -failIfUnchanged only [↓RA, RB, RS, fx47, p1, p2, p3, p4, reduceIte, p5, p6, p7, p8, c1]
    obtain ⟨v9, hv9, h⟩ := run_bind h
    refine CallH.mk [false] (cmp_isNaN_string_sat hv9) ?_ ?_ <;> simp -failIfUnchanged only [↓RA, RB, RS, fx47, p1, p2, p3, p4, reduceIte, p5, p6, p7, p8, c1]
    refine CondH.mk (fun c2 => ?_) (fun c2 => ?_)
    · replace h := run_t c2 h
      simp -failIfUnchanged only [↓RA, RB, RS, fx47, p1, p2, p3, p4, reduceIte, p5, p6, p7, p8, c1, c2]
      have h := run_some h
      obtain rfl : _ = r := h
      refine FinH.l ?_
      simp -failIfUnchanged only [↓RA, RB, RS, fx47, p1, p2, p3, p4, reduceIte, p5, p6, p7, p8, c1, c2]
    · replace h := run_f c2 h
      simp -failIfUnchanged only [↓RA, RB, RS, fx47, p1, p2, p3, p4, reduceIte, p5, p6, p7, p8, c1, c2]
      have h := run_some h
      obtain rfl : _ = r := h
      refine FinH.l ?_
      simp -failIfUnchanged only [↓RA, RB, RS, fx47, p1, p2, p3, p4, reduceIte, p5, p6, p7, p8, c1, c2]
  · replace h := run_f c1 h
    simp -failIfUnchanged only [↓RA, RB, RS, fx47, p1, p2, p3, p4, reduceIte, p5, p6, p7, p8, c1]
    have h := run_some h
    obtain rfl : _ = r := h
    refine FinH.l ?_
    simp -failIfUnchanged only [↓RA, RB, RS, fx47, p1, p2, p3, p4, reduceIte, p5, p6, p7, p8, c1]

def fx48 := And.intro @ty_9 <| And.intro @zc_9 <| And.intro @z_9 <| @u_9
set_option maxHeartbeats 4000000 in
theorem slices_isNaN_string_sat {a0 : ByteArray}  {r : Bool} (h : slices_isNaN_string a0 = some r) : Sat Try.prog 48 [(Sx a0)] (B r) := by
  replace h := Run.of h
  unfold slices_isNaN_string at h
  refine Sat.of_m (nt := 6) (rs := [.tmp 2]) (n := 100000) Try.func48 rfl rfl rfl rfl (by simp) ?_
  simp -failIfUnchanged only [↓RA, RB, RS, fx48, p1, p2, p3, p4, reduceIte, p5, p6, p7, p8]
  have h := run_some h
  obtain rfl : _ = r := h
  refine FinH.l ?_
  simp -failIfUnchanged only [↓RA, RB, RS, fx48, p1, p2, p3, p4, reduceIte, p5, p6, p7, p8]

def fx44 := And.intro @ty_3 <| And.intro @zc_3 <| And.intro @z_3 <| And.intro @ty_9 <| And.intro @zc_9 <| And.intro @z_9 <| And.intro @u_9 <| And.intro @ty_22 <| And.intro @zc_22 <| And.intro @z_22 <| And.intro @es_22 <| And.intro @eb_22 <| And.intro @sl_22 <| And.intro @is_22 <| And.intro @el_22 <| And.intro @ze_22 <| And.intro @ez_22 <| And.intro @ty_62 <| And.intro @zc_62 <| And.intro @z_62 <| And.intro @uk_3 <| @uk_62
set_option maxHeartbeats 4000000 in
theorem slices_BinarySearch_Sstring_string_sat {a0 : List ByteArray} {a1 : ByteArray}  {r : Int × Bool} (h : slices_BinarySearch_Sstring_string a0 a1 = some r) : Sat Try.prog 44 [(.sl false 1 (a0.map Sx)), (Sx a1)] (.tup [(I r.1), (B r.2)]) := by
  replace h := Run.of h
  unfold slices_BinarySearch_Sstring_string at h
  refine Sat.of_m (nt := 54) (rs := [.tmp 4, .tmp 5]) (n := 100000) Try.func44 rfl rfl rfl rfl (by simp) ?_
  simp -failIfUnchanged only [↓RA, RB, RS, fx44, p1, p2, p3, p4, reduceIte, p5, p6, p7, p8]
  replace h := run_loop h
  refine Mg.whileN h (fun s3 => [(0, .val (.pv (.sl false 1 (a0.map Sx)))), (1, .val (.pv (Sx a1))), (6, .val (.pv (I (a0.length : Int)))), (7, .val (.pv (I s3.1))), (8, .val (.pv (I s3.2)))]) (fun s3 => []) (St.le_mk2 (by simp -failIfUnchanged only [↓RA, RB, RS, fx44, p1, p2, p3, p4, reduceIte, p5, p6, p7, p8])) (fun n3 s3 h => ?_)
  simp -failIfUnchanged only [↓RA, RB, RS, fx44, p1, p2, p3, p4, reduceIte, p5, p6, p7, p8]
  refine CondH.mk (fun c1 => ?_) (fun c1 => ?_)
  · replace h := run_t c1 h
    simp -failIfUnchanged only [↓RA, RB, RS, fx44, p1, p2, p3, p4, reduceIte, p5, p6, p7, p8, c1]
    obtain ⟨v20, hv20, h⟩ := run_bind h
    refine ShrH.mk hv20 ?_
    simp -failIfUnchanged only [↓RA, RB, RS, fx44, p1, p2, p3, p4, reduceIte, p5, p6, p7, p8, c1]
    obtain ⟨v24, hv24, h⟩ := run_bind h
    refine IdxH.mk (f := Sx) hv24 ?_ ?_ <;> simp -failIfUnchanged only [↓RA, RB, RS, fx44, p1, p2, p3, p4, reduceIte, p5, p6, p7, p8, c1]
    obtain ⟨v27, hv27, h⟩ := run_bind h
    refine CallH.mk [false, false] (cmp_Less_string_sat hv27) ?_ ?_ <;> simp -failIfUnchanged only [↓RA, RB, RS, fx44, p1, p2, p3, p4, reduceIte, p5, p6, p7, p8, c1]
    refine CondH.mk (fun c2 => ?_) (fun c2 => ?_)
    · replace h := run_t c2 h
      simp -failIfUnchanged only [↓RA, RB, RS, fx44, p1, p2, p3, p4, reduceIte, p5, p6, p7, p8, c1, c2]
      have h := run_some h
      refine RdH.mk ⟨_, h, ?_⟩
      refine St.le_mk2 ?_
      simp -failIfUnchanged only [↓RA, RB, RS, fx44, p1, p2, p3, p4, reduceIte, p5, p6, p7, p8, c1, c2]
    · replace h := run_f c2 h
      simp -failIfUnchanged only [↓RA, RB, RS, fx44, p1, p2, p3, p4, reduceIte, p5, p6, p7, p8, c1, c2]
      have h := run_some h
      refine RdH.mk ⟨_, h, ?_⟩
      refine St.le_mk2 ?_
      simp -failIfUnchanged only [↓RA, RB, RS, fx44, p1, p2, p3, p4, reduceIte, p5, p6, p7, p8, c1, c2]
  · replace h := run_f c1 h
    simp -failIfUnchanged only [↓RA, RB, RS, fx44, p1, p2, p3, p4, reduceIte, p5, p6, p7, p8, c1]
    have h := run_some h
    refine CondH.mk (fun c3 => ?_) (fun c3 => ?_)
    · replace h := run_t c3 h
      simp -failIfUnchanged only [↓RA, RB, RS, fx44, p1, p2, p3, p4, reduceIte, p5, p6, p7, p8, c1, c3]
      obtain ⟨v38, hv38, h⟩ := run_bind h
      refine IdxH.mk (f := Sx) hv38 ?_ ?_ <;> simp -failIfUnchanged only [↓RA, RB, RS, fx44, p1, p2, p3, p4, reduceIte, p5, p6, p7, p8, c1, c3]
      refine CondH.mk (fun c4 => ?_) (fun c4 => ?_)
      · replace h := run_t c4 h
        simp -failIfUnchanged only [↓RA, RB, RS, fx44, p1, p2, p3, p4, reduceIte, p5, p6, p7, p8, c1, c3, c4]
        have h := run_some h
        obtain rfl : _ = r := h
        refine FinH.l ?_
        simp -failIfUnchanged only [↓RA, RB, RS, fx44, p1, p2, p3, p4, reduceIte, p5, p6, p7, p8, c1, c3, c4]
      · replace h := run_f c4 h
        simp -failIfUnchanged only [↓RA, RB, RS, fx44, p1, p2, p3, p4, reduceIte, p5, p6, p7, p8, c1, c3, c4]
        obtain ⟨v45, hv45, h⟩ := run_bind h
        refine IdxH.mk (f := Sx) hv45 ?_ ?_ <;> simp -failIfUnchanged only [↓RA, RB, RS, fx44, p1, p2, p3, p4, reduceIte, p5, p6, p7, p8, c1, c3, c4]
        obtain ⟨v47, hv47, h⟩ := run_bind h
        refine CallH.mk [false] (slices_isNaN_string_sat hv47) ?_ ?_ <;> simp -failIfUnchanged only [↓RA, RB, RS, fx44, p1, p2, p3, p4, reduceIte, p5, p6, p7, p8, c1, c3, c4]
        refine CondH.mk (fun c5 => ?_) (fun c5 => ?_)
        · replace h := run_t c5 h
          simp -failIfUnchanged only [↓RA, RB, RS, fx44, p1, p2, p3, p4, reduceIte, p5, p6, p7, p8, c1, c3, c4, c5]
          obtain ⟨v50, hv50, h⟩ := run_bind h
          refine CallH.mk [false] (slices_isNaN_string_sat hv50) ?_ ?_ <;> simp -failIfUnchanged only [↓RA, RB, RS, fx44, p1, p2, p3, p4, reduceIte, p5, p6, p7, p8, c1, c3, c4, c5]
          have h := run_some h
          obtain rfl : _ = r := h
          refine FinH.l ?_
          simp -failIfUnchanged only [↓RA, RB, RS, fx44, p1, p2, p3, p4, reduceIte, p5, p6, p7, p8, c1, c3, c4, c5]
        · replace h := run_f c5 h
          simp -failIfUnchanged only [↓RA, RB, RS, fx44, p1, p2, p3, p4, reduceIte, p5, p6, p7, p8, c1, c3, c4, c5]
          have h := run_some h
          obtain rfl : _ = r := h
          refine FinH.l ?_
          simp -failIfUnchanged only [↓RA, RB, RS, fx44, p1, p2, p3, p4, reduceIte, p5, p6, p7, p8, c1, c3, c4, c5]
    · replace h := run_f c3 h
      simp -failIfUnchanged only [↓RA, RB, RS, fx44, p1, p2, p3, p4, reduceIte, p5, p6, p7, p8, c1, c3]
      have h := run_some h
      obtain rfl : _ = r := h
      refine FinH.l ?_
      simp -failIfUnchanged only [↓RA, RB, RS, fx44, p1, p2, p3, p4, reduceIte, p5, p6, p7, p8, c1, c3]

def fx33 := And.intro @ty_3 <| And.intro @zc_3 <| And.intro @z_3 <| And.intro @ty_4 <| And.intro @zc_4 <| And.intro @z_4 <| And.intro @u_4 <| And.intro @ty_9 <| And.intro @zc_9 <| And.intro @z_9 <| And.intro @u_9 <| And.intro @ty_22 <| And.intro @zc_22 <| And.intro @z_22 <| And.intro @es_22 <| And.intro @eb_22 <| And.intro @sl_22 <| And.intro @is_22 <| And.intro @el_22 <| And.intro @ze_22 <| And.intro @ez_22 <| And.intro @ty_23 <| And.intro @zc_23 <| And.intro @z_23 <| And.intro @es_23 <| And.intro @eb_23 <| And.intro @sl_23 <| And.intro @is_23 <| And.intro @el_23 <| And.intro @ze_23 <| And.intro @ez_23 <| And.intro @ty_27 <| And.intro @zc_27 <| And.intro @z_27 <| And.intro @fo_27_0 <| And.intro @fi_27_0 <| And.intro @ft_27_0 <| And.intro @fo_27_1 <| And.intro @fi_27_1 <| And.intro @ft_27_1 <| And.intro @fo_27_2 <| And.intro @fi_27_2 <| And.intro @ft_27_2 <| @lay_27
set_option maxHeartbeats 4000000 in
theorem impl_Linear__slope_sat {a0 : Linear} {a1 : ByteArray}  {r : Int} (h : impl_Linear__slope a0 a1 = some r) : Sat Try.prog 33 [((Linear.pv false) a0), (Sx a1)] (I r) := by
  replace h := Run.of h
  unfold impl_Linear__slope at h
  refine Sat.of_m (nt := 21) (rs := [.tmp 4]) (n := 100000) Try.func33 rfl rfl rfl rfl (by simp) ?_
  simp -failIfUnchanged only [↓RA, RB, RS, fx33, p1, p2, p3, p4, reduceIte, p5, p6, p7, p8]
  repeat (first | with_reducible refine noR_and (by repeat (first | exact noR_empty _ _ | exact noR_nilS _ _ | refine noR_mk _ _ _ _ _ rfl ?_ | refine noR_mkS _ _ _ _ _ rfl ?_)) ?_ | with_reducible refine noC_and (by repeat (first | exact noC_empty _ _ (by simp -failIfUnchanged only [↓RA, RB, RS, fx33, p1, p2, p3, p4, reduceIte, p5, p6, p7, p8]) | exact noC_nilS _ _ (by simp -failIfUnchanged only [↓RA, RB, RS, fx33, p1, p2, p3, p4, reduceIte, p5, p6, p7, p8]) | refine noC_mk _ _ _ _ _ rfl ?_ | refine noC_mkS _ _ _ _ _ rfl ?_)) ?_ | with_reducible refine and_ac ?_ | with_reducible refine And.intro (a := _ = List.range _) (by rfl) ?_)
  obtain ⟨v11, hv11, h⟩ := run_bind h
  refine CallH.mk [false, false] (slices_BinarySearch_Sstring_string_sat hv11) ?_ ?_ <;> simp -failIfUnchanged only [↓RA, RB, RS, fx33, p1, p2, p3, p4, reduceIte, p5, p6, p7, p8]
  refine CondH.mk (fun c1 => ?_) (fun c1 => ?_)
  · replace h := run_t c1 h
    simp -failIfUnchanged only [↓RA, RB, RS, fx33, p1, p2, p3, p4, reduceIte, p5, p6, p7, p8, c1]
    obtain ⟨v19, hv19, h⟩ := run_bind h
    refine IdxH.mk (f := I) hv19 ?_ ?_ <;> simp -failIfUnchanged only [↓RA, RB, RS, fx33, p1, p2, p3, p4, reduceIte, p5, p6, p7, p8, c1]
    have h := run_some h
    obtain rfl : _ = r := h
    refine FinH.l ?_
    simp -failIfUnchanged only [↓RA, RB, RS, fx33, p1, p2, p3, p4, reduceIte, p5, p6, p7, p8, c1]
  · replace h := run_f c1 h
    simp -failIfUnchanged only [↓RA, RB, RS, fx33, p1, p2, p3, p4, reduceIte, p5, p6, p7, p8, c1]
    have h := run_some h
    obtain rfl : _ = r := h
    refine FinH.l ?_
    simp -failIfUnchanged only [↓RA, RB, RS, fx33, p1, p2, p3, p4, reduceIte, p5, p6, p7, p8, c1]


def fx34 := And.intro @ty_3 <| And.intro @zc_3 <| And.intro @z_3 <| And.intro @ty_4 <| And.intro @zc_4 <| And.intro @z_4 <| And.intro @u_4 <| And.intro @ty_9 <| And.intro @zc_9 <| And.intro @z_9 <| And.intro @u_9 <| And.intro @ty_22 <| And.intro @zc_22 <| And.intro @z_22 <| And.intro @es_22 <| And.intro @eb_22 <| And.intro @sl_22 <| And.intro @is_22 <| And.intro @el_22 <| And.intro @ze_22 <| And.intro @ez_22 <| And.intro @ty_23 <| And.intro @zc_23 <| And.intro @z_23 <| And.intro @es_23 <| And.intro @eb_23 <| And.intro @sl_23 <| And.intro @is_23 <| And.intro @el_23 <| And.intro @ze_23 <| And.intro @ez_23 <| And.intro @ty_27 <| And.intro @zc_27 <| And.intro @z_27 <| And.intro @fo_27_0 <| And.intro @fi_27_0 <| And.intro @ft_27_0 <| And.intro @fo_27_1 <| And.intro @fi_27_1 <| And.intro @ft_27_1 <| And.intro @fo_27_2 <| And.intro @fi_27_2 <| And.intro @ft_27_2 <| And.intro @lay_27 <| @ty_47
set_option maxHeartbeats 4000000 in
theorem impl_linearR_sat {a0 : GMap Int} {a1 : Int} {r : Linear × Bool} (h : ∀ ord, ord.Perm a0.es → impl_linearR ord a0 a1 = some r) : SatH Try.prog 34 [] [(I a1)] .mp [] (.mp (gmap I a0.es) a0.clock) (.mp (gmap I a0.es) a0.clock) (.tup [((Linear.pv true) r.1), (B r.2)]) := by
  replace h := fun ord ho => Run.of (h ord ho)
  simp only [impl_linearR] at h
  refine SatH.of_ki (nt := 52) (rs := [.cell 4 27, .tmp 5]) (n := 100000) 0 Try.func34 rfl rfl rfl rfl rfl (Nat.le_of_ble_eq_true rfl) (by decide) (Nat.le_of_ble_eq_true rfl) ?_
  simp -failIfUnchanged only [↓RA, ↓RI, RH, RB, RJ, RS, fx34, p1, p2, p3, p4, reduceIte, p5, p6, p7, p8]
  refine VSeq.step ?_
  simp -failIfUnchanged only [↓RA, ↓RI, RH, RB, RJ, RS, fx34, p1, p2, p3, p4, reduceIte, p5, p6, p7, p8]
  repeat (first | with_reducible refine noR_and (by repeat (first | exact noR_empty _ _ | exact noR_nilS _ _ | refine noR_mk _ _ _ _ _ rfl ?_ | refine noR_mkS _ _ _ _ _ rfl ?_)) ?_ | with_reducible refine noC_and (by repeat (first | exact noC_empty _ _ (by simp -failIfUnchanged only [↓RA, ↓RI, RH, RB, RJ, RS, fx34, p1, p2, p3, p4, reduceIte, p5, p6, p7, p8]) | exact noC_nilS _ _ (by simp -failIfUnchanged only [↓RA, ↓RI, RH, RB, RJ, RS, fx34, p1, p2, p3, p4, reduceIte, p5, p6, p7, p8]) | refine noC_mk _ _ _ _ _ rfl ?_ | refine noC_mkS _ _ _ _ _ rfl ?_)) ?_ | with_reducible refine and_ac ?_ | with_reducible refine And.intro (a := _ = List.range _) (by rfl) ?_)
  refine VSeq.step ?_
  simp -failIfUnchanged only [↓RA, ↓RI, RH, RB, RJ, RS, fx34, p1, p2, p3, p4, reduceIte, p5, p6, p7, p8]
  refine VSeq.nil (Nat.le_of_eq rfl) ?_
  simp -failIfUnchanged only [↓RA, ↓RI, RH, RB, RJ, RS, fx34, p1, p2, p3, p4, reduceIte, p5, p6, p7, p8]
  refine VSeq.step ?_
  simp -failIfUnchanged only [↓RA, ↓RI, RH, RB, RJ, RS, fx34, p1, p2, p3, p4, reduceIte, p5, p6, p7, p8]
  refine VSeq.step ?_
  simp -failIfUnchanged only [↓RA, ↓RI, RH, RB, RJ, RS, fx34, p1, p2, p3, p4, reduceIte, p5, p6, p7, p8]
  refine VSeq.step ?_
  simp -failIfUnchanged only [↓RA, ↓RI, RH, RB, RJ, RS, fx34, p1, p2, p3, p4, reduceIte, p5, p6, p7, p8]
  repeat (first | with_reducible refine noR_and (by repeat (first | exact noR_empty _ _ | exact noR_nilS _ _ | refine noR_mk _ _ _ _ _ rfl ?_ | refine noR_mkS _ _ _ _ _ rfl ?_)) ?_ | with_reducible refine noC_and (by repeat (first | exact noC_empty _ _ (by simp -failIfUnchanged only [↓RA, ↓RI, RH, RB, RJ, RS, fx34, p1, p2, p3, p4, reduceIte, p5, p6, p7, p8]) | exact noC_nilS _ _ (by simp -failIfUnchanged only [↓RA, ↓RI, RH, RB, RJ, RS, fx34, p1, p2, p3, p4, reduceIte, p5, p6, p7, p8]) | refine noC_mk _ _ _ _ _ rfl ?_ | refine noC_mkS _ _ _ _ _ rfl ?_)) ?_ | with_reducible refine and_ac ?_ | with_reducible refine And.intro (a := _ = List.range _) (by rfl) ?_)
  refine VSeq.step ?_
  simp -failIfUnchanged only [↓RA, ↓RI, RH, RB, RJ, RS, fx34, p1, p2, p3, p4, reduceIte, p5, p6, p7, p8]
  refine VSeq.nil (Nat.le_of_eq rfl) ?_
  simp -failIfUnchanged only [↓RA, ↓RI, RH, RB, RJ, RS, fx34, p1, p2, p3, p4, reduceIte, p5, p6, p7, p8]
  refine VSeq.step ?_
  simp -failIfUnchanged only [↓RA, ↓RI, RH, RB, RJ, RS, fx34, p1, p2, p3, p4, reduceIte, p5, p6, p7, p8]
  refine VSeq.step ?_
  simp -failIfUnchanged only [↓RA, ↓RI, RH, RB, RJ, RS, fx34, p1, p2, p3, p4, reduceIte, p5, p6, p7, p8]
  refine HandH.range (E := 3) (r := 0) (sh := .mp) (ps := []) (m := a0) (f := I) mt_47 (by simp -failIfUnchanged only [↓RA, ↓RI, RH, RB, RJ, RS, fx34, p1, p2, p3, p4, reduceIte, p5, p6, p7, p8]) ?_
  simp -failIfUnchanged only [↓RA, ↓RI, RH, RB, RJ, RS, fx34, p1, p2, p3, p4, reduceIte, p5, p6, p7, p8]
  repeat (first | with_reducible refine noR_and (by repeat (first | exact noR_empty _ _ | exact noR_nilS _ _ | refine noR_mk _ _ _ _ _ rfl ?_ | refine noR_mkS _ _ _ _ _ rfl ?_)) ?_ | with_reducible refine noC_and (by repeat (first | exact noC_empty _ _ (by simp -failIfUnchanged only [↓RA, ↓RI, RH, RB, RJ, RS, fx34, p1, p2, p3, p4, reduceIte, p5, p6, p7, p8]) | exact noC_nilS _ _ (by simp -failIfUnchanged only [↓RA, ↓RI, RH, RB, RJ, RS, fx34, p1, p2, p3, p4, reduceIte, p5, p6, p7, p8]) | refine noC_mk _ _ _ _ _ rfl ?_ | refine noC_mkS _ _ _ _ _ rfl ?_)) ?_ | with_reducible refine and_ac ?_ | with_reducible refine And.intro (a := _ = List.range _) (by rfl) ?_)
  refine VSeq.nil (Nat.le_of_eq rfl) ?_
  simp -failIfUnchanged only [↓RA, ↓RI, RH, RB, RJ, RS, fx34, p1, p2, p3, p4, reduceIte, p5, p6, p7, p8]
  replace h := fun ord ho => run_loop (h ord ho)
  refine MgI.range (fun e => e.2.2) h (fun pre3 s3 => [(0, .hold .mp [] (.mp (gmap I (a0).es) (a0).clock)), (4, .box (.node [(.pv (.sl true 1 [])), (.pv (.sl true 1 [])), (.pv (I (0 : Int)))])), (6, .box (.node [(.own 9309), (.pv (.sl true 1 [])), (.pv (I a1))])), (14, .hold .ptr [] (.it 0 (a0).clock (pre3.map fun e => e.2.2) (a0).clock)), (20000, gh 0)]) (fun pre3 s3 => [(9309, (1, s3.map Sx))]) (St.le_trans (St.le_nilB (x := (.node [(.pv (.sl true 1 [])), (.pv (.sl true 1 [])), (.pv (I a1))])) 6 [0] 9309 1 (by repeat (first | exact noC_empty _ _ (by simp -failIfUnchanged only [↓RA, ↓RI, RH, RB, RJ, RS, fx34, p1, p2, p3, p4, reduceIte, p5, p6, p7, p8]) | exact noC_nilS _ _ (by simp -failIfUnchanged only [↓RA, ↓RI, RH, RB, RJ, RS, fx34, p1, p2, p3, p4, reduceIte, p5, p6, p7, p8]) | refine noC_mk _ _ _ _ _ rfl ?_ | refine noC_mkS _ _ _ _ _ rfl ?_)) (by simp -failIfUnchanged only [↓RA, ↓RI, RH, RB, RJ, RS, fx34, p1, p2, p3, p4, reduceIte, p5, p6, p7, p8]) (by simp -failIfUnchanged only [↓RA, ↓RI, RH, RB, RJ, RS, fx34, p1, p2, p3, p4, reduceIte, p5, p6, p7, p8]) (by simp -failIfUnchanged only [↓RA, ↓RI, RH, RB, RJ, RS, fx34, p1, p2, p3, p4, reduceIte, p5, p6, p7, p8])) (St.le_mk2 (by simp -failIfUnchanged only [↓RA, ↓RI, RH, RB, RJ, RS, fx34, p1, p2, p3, p4, reduceIte, p5, p6, p7, p8]))) (fun pre3 s3 hI3 => ?_)
  simp -failIfUnchanged only [↓RA, ↓RI, RH, RB, RJ, RS, fx34, p1, p2, p3, p4, reduceIte, p5, p6, p7, p8]
  refine VSeq.next (r := 0) (kt := 14) (m := a0) (f := I) (seen := pre3.map fun e => e.2.2) (sh := .mp) (ps := []) rfl rfl rfl rfl (by decide) (by decide) rfl (by simp -failIfUnchanged only [↓RA, ↓RI, RH, RB, RJ, RS, fx34, p1, p2, p3, p4, reduceIte, p5, p6, p7, p8]) (fun hd3 ha3 => ?_) (fun e3 he3 hn3 => ?_)
  · replace h := RngI.done hI3 hd3 ha3
    refine VSeq.step ?_
    simp -failIfUnchanged only [↓RA, ↓RI, RH, RB, RJ, RS, fx34, p1, p2, p3, p4, reduceIte, p5, p6, p7, p8]
    refine VSeq.nil (Nat.le_of_eq rfl) ?_
    simp -failIfUnchanged only [↓RA, ↓RI, RH, RB, RJ, RS, fx34, p1, p2, p3, p4, reduceIte, p5, p6, p7, p8]
    refine VSeq.step ?_
    simp -failIfUnchanged only [↓RA, ↓RI, RH, RB, RJ, RS, fx34, p1, p2, p3, p4, reduceIte, p5, p6, p7, p8]
    refine VSeq.step ?_
    simp -failIfUnchanged only [↓RA, ↓RI, RH, RB, RJ, RS, fx34, p1, p2, p3, p4, reduceIte, p5, p6, p7, p8]
    refine VSeq.step ?_
    simp -failIfUnchanged only [↓RA, ↓RI, RH, RB, RJ, RS, fx34, p1, p2, p3, p4, reduceIte, p5, p6, p7, p8]
    obtain ⟨v30, hv30, h⟩ := run_bind h
    refine CallH.io0 [(.own 9309)] [(9309, (1, v30.2.map Sx))] (slices_SortS_sat hv30) ?_ ?_ <;> simp -failIfUnchanged only [↓RA, ↓RI, RH, RB, RJ, RS, fx34, p1, p2, p3, p4, reduceIte, p5, p6, p7, p8]
    refine VSeq.nil (Nat.le_of_eq rfl) ?_
    simp -failIfUnchanged only [↓RA, ↓RI, RH, RB, RJ, RS, fx34, p1, p2, p3, p4, reduceIte, p5, p6, p7, p8]
    refine VSeq.step ?_
    simp -failIfUnchanged only [↓RA, ↓RI, RH, RB, RJ, RS, fx34, p1, p2, p3, p4, reduceIte, p5, p6, p7, p8]
    refine VSeq.step ?_
    simp -failIfUnchanged only [↓RA, ↓RI, RH, RB, RJ, RS, fx34, p1, p2, p3, p4, reduceIte, p5, p6, p7, p8]
    refine VSeq.step ?_
    simp -failIfUnchanged only [↓RA, ↓RI, RH, RB, RJ, RS, fx34, p1, p2, p3, p4, reduceIte, p5, p6, p7, p8]
    refine VSeq.step ?_
    simp -failIfUnchanged only [↓RA, ↓RI, RH, RB, RJ, RS, fx34, p1, p2, p3, p4, reduceIte, p5, p6, p7, p8]
    refine VSeq.nil (Nat.le_of_eq rfl) ?_
    simp -failIfUnchanged only [↓RA, ↓RI, RH, RB, RJ, RS, fx34, p1, p2, p3, p4, reduceIte, p5, p6, p7, p8]
    refine MgI.know_own (sz := 1) (es := v30.2.map Sx) 9309 (by simp -failIfUnchanged only [↓RA, ↓RI, RH, RB, RJ, RS, fx34, p1, p2, p3, p4, reduceIte, p5, p6, p7, p8]) fun hl9309 => ?_; rw [List.length_map] at hl9309
    replace h := run_loop h
    refine MgI.forN h (fun i9 s9 => [(0, .hold .mp [] (.mp (gmap I (a0).es) (a0).clock)), (4, .box (.node [(.pv (.sl true 1 [])), (.pv (.sl true 1 [])), (.pv (I (0 : Int)))])), (6, .box (.node [(.own 9309), (.own 9327), (.pv (I a1))])), (32, .val (.own 9309)), (33, .val (.pv (I (v30.2.length : Int)))), (34, .val (.pv (I (i9 : Int)))), (20000, gh 0)]) (fun i9 s9 => [(9309, (1, v30.2.map Sx)), (9327, (1, s9.map I))]) (St.le_trans (St.le_nilB (x := (.node [(.own 9309), (.pv (.sl true 1 [])), (.pv (I a1))])) 6 [1] 9327 1 (by repeat (first | exact noC_empty _ _ (by simp -failIfUnchanged only [↓RA, ↓RI, RH, RB, RJ, RS, fx34, p1, p2, p3, p4, reduceIte, p5, p6, p7, p8]) | exact noC_nilS _ _ (by simp -failIfUnchanged only [↓RA, ↓RI, RH, RB, RJ, RS, fx34, p1, p2, p3, p4, reduceIte, p5, p6, p7, p8]) | refine noC_mk _ _ _ _ _ rfl ?_ | refine noC_mkS _ _ _ _ _ rfl ?_)) (by simp -failIfUnchanged only [↓RA, ↓RI, RH, RB, RJ, RS, fx34, p1, p2, p3, p4, reduceIte, p5, p6, p7, p8]) (by simp -failIfUnchanged only [↓RA, ↓RI, RH, RB, RJ, RS, fx34, p1, p2, p3, p4, reduceIte, p5, p6, p7, p8]) (by simp -failIfUnchanged only [↓RA, ↓RI, RH, RB, RJ, RS, fx34, p1, p2, p3, p4, reduceIte, p5, p6, p7, p8])) (St.le_mk2 (by simp -failIfUnchanged only [↓RA, ↓RI, RH, RB, RJ, RS, fx34, p1, p2, p3, p4, reduceIte, p5, p6, p7, p8]))) (fun i9 s9 hi h => ?_) (fun s9 h => ?_)
    · have w9 := wrap_succ (i := i9) (by omega)
      simp -failIfUnchanged only [↓RA, ↓RI, RH, RB, RJ, RS, fx34, p1, p2, p3, p4, reduceIte, p5, p6, p7, p8]
      refine VSeq.step ?_
      simp -failIfUnchanged only [↓RA, ↓RI, RH, RB, RJ, RS, fx34, p1, p2, p3, p4, reduceIte, p5, p6, p7, p8]
      refine VSeq.nil (Nat.le_of_eq rfl) ?_
      simp -failIfUnchanged only [↓RA, ↓RI, RH, RB, RJ, RS, fx34, p1, p2, p3, p4, reduceIte, p5, p6, p7, p8]
      refine CondH.tt (decide_eq_true (by omega)) (fun c2 => ?_)
      simp -failIfUnchanged only [↓RA, ↓RI, RH, RB, RJ, RS, fx34, p1, p2, p3, p4, reduceIte, p5, p6, p7, p8, c2]
      refine VSeq.step ?_
      simp -failIfUnchanged only [↓RA, ↓RI, RH, RB, RJ, RS, fx34, p1, p2, p3, p4, reduceIte, p5, p6, p7, p8, c2]
      obtain ⟨v36, hv36, h⟩ := run_bind h
      refine IdxH.mk (f := Sx) hv36 ?_ ?_ <;> simp -failIfUnchanged only [↓RA, ↓RI, RH, RB, RJ, RS, fx34, p1, p2, p3, p4, reduceIte, p5, p6, p7, p8, c2]
      refine VSeq.step ?_
      simp -failIfUnchanged only [↓RA, ↓RI, RH, RB, RJ, RS, fx34, p1, p2, p3, p4, reduceIte, p5, p6, p7, p8, c2]
      obtain ⟨v37, hv37, h⟩ := run_bind h
      refine EldH.mk (f := Sx) hv37 rfl ?_ ?_ <;> simp -failIfUnchanged only [↓RA, ↓RI, RH, RB, RJ, RS, fx34, p1, p2, p3, p4, reduceIte, p5, p6, p7, p8, c2]
      refine VSeq.step ?_
      simp -failIfUnchanged only [↓RA, ↓RI, RH, RB, RJ, RS, fx34, p1, p2, p3, p4, reduceIte, p5, p6, p7, p8, c2]
      refine VSeq.nil (Nat.le_of_eq rfl) ?_
      simp -failIfUnchanged only [↓RA, ↓RI, RH, RB, RJ, RS, fx34, p1, p2, p3, p4, reduceIte, p5, p6, p7, p8, c2]
      refine VSeq.step ?_
      simp -failIfUnchanged only [↓RA, ↓RI, RH, RB, RJ, RS, fx34, p1, p2, p3, p4, reduceIte, p5, p6, p7, p8, c2]
      refine VSeq.step ?_
      simp -failIfUnchanged only [↓RA, ↓RI, RH, RB, RJ, RS, fx34, p1, p2, p3, p4, reduceIte, p5, p6, p7, p8, c2]
      refine VSeq.step ?_
      simp -failIfUnchanged only [↓RA, ↓RI, RH, RB, RJ, RS, fx34, p1, p2, p3, p4, reduceIte, p5, p6, p7, p8, c2]
      refine VSeq.step ?_
      simp -failIfUnchanged only [↓RA, ↓RI, RH, RB, RJ, RS, fx34, p1, p2, p3, p4, reduceIte, p5, p6, p7, p8, c2]
      refine VSeq.step ?_
      simp -failIfUnchanged only [↓RA, ↓RI, RH, RB, RJ, RS, fx34, p1, p2, p3, p4, reduceIte, p5, p6, p7, p8, c2]
      refine HandH.lookup (E := 3) (r := 0) (sh := .mp) (ps := []) (m := a0) (f := I) (k := v37) (z0 := (0 : Int)) mt_47 mz_3 (by simp -failIfUnchanged only [↓RA, ↓RI, RH, RB, RJ, RS, fx34, p1, p2, p3, p4, reduceIte, p5, p6, p7, p8, c2]) ?_
      simp -failIfUnchanged only [↓RA, ↓RI, RH, RB, RJ, RS, fx34, p1, p2, p3, p4, reduceIte, p5, p6, p7, p8, c2]
      refine VSeq.step ?_
      simp -failIfUnchanged only [↓RA, ↓RI, RH, RB, RJ, RS, fx34, p1, p2, p3, p4, reduceIte, p5, p6, p7, p8, c2]
      repeat (first | with_reducible refine noR_and (by repeat (first | exact noR_empty _ _ | exact noR_nilS _ _ | refine noR_mk _ _ _ _ _ rfl ?_ | refine noR_mkS _ _ _ _ _ rfl ?_)) ?_ | with_reducible refine noC_and (by repeat (first | exact noC_empty _ _ (by simp -failIfUnchanged only [↓RA, ↓RI, RH, RB, RJ, RS, fx34, p1, p2, p3, p4, reduceIte, p5, p6, p7, p8]) | exact noC_nilS _ _ (by simp -failIfUnchanged only [↓RA, ↓RI, RH, RB, RJ, RS, fx34, p1, p2, p3, p4, reduceIte, p5, p6, p7, p8]) | refine noC_mk _ _ _ _ _ rfl ?_ | refine noC_mkS _ _ _ _ _ rfl ?_)) ?_ | with_reducible refine and_ac ?_ | with_reducible refine And.intro (a := _ = List.range _) (by rfl) ?_)
      refine VSeq.step ?_
      simp -failIfUnchanged only [↓RA, ↓RI, RH, RB, RJ, RS, fx34, p1, p2, p3, p4, reduceIte, p5, p6, p7, p8, c2]
      obtain ⟨v44, hv44, h⟩ := run_bind h
      refine AppH.mk (f := I) (fun _ => rfl) hv44 ?_ ?_ ?_ <;> simp -failIfUnchanged only [↓RA, ↓RI, RH, RB, RJ, RS, fx34, p1, p2, p3, p4, reduceIte, p5, p6, p7, p8, c2]
      repeat (first | with_reducible refine noR_and (by repeat (first | exact noR_empty _ _ | exact noR_nilS _ _ | refine noR_mk _ _ _ _ _ rfl ?_ | refine noR_mkS _ _ _ _ _ rfl ?_)) ?_ | with_reducible refine noC_and (by repeat (first | exact noC_empty _ _ (by simp -failIfUnchanged only [↓RA, ↓RI, RH, RB, RJ, RS, fx34, p1, p2, p3, p4, reduceIte, p5, p6, p7, p8]) | exact noC_nilS _ _ (by simp -failIfUnchanged only [↓RA, ↓RI, RH, RB, RJ, RS, fx34, p1, p2, p3, p4, reduceIte, p5, p6, p7, p8]) | refine noC_mk _ _ _ _ _ rfl ?_ | refine noC_mkS _ _ _ _ _ rfl ?_)) ?_ | with_reducible refine and_ac ?_ | with_reducible refine And.intro (a := _ = List.range _) (by rfl) ?_)
      refine VSeq.step ?_
      simp -failIfUnchanged only [↓RA, ↓RI, RH, RB, RJ, RS, fx34, p1, p2, p3, p4, reduceIte, p5, p6, p7, p8, c2]
      refine VSeq.step ?_
      simp -failIfUnchanged only [↓RA, ↓RI, RH, RB, RJ, RS, fx34, p1, p2, p3, p4, reduceIte, p5, p6, p7, p8, c2]
      refine VSeq.nil (Nat.le_of_eq rfl) ?_
      simp -failIfUnchanged only [↓RA, ↓RI, RH, RB, RJ, RS, fx34, p1, p2, p3, p4, reduceIte, p5, p6, p7, p8, c2]
      refine VSeq.step ?_
      simp -failIfUnchanged only [↓RA, ↓RI, RH, RB, RJ, RS, fx34, p1, p2, p3, p4, reduceIte, p5, p6, p7, p8, c2]
      refine VSeq.step ?_
      simp -failIfUnchanged only [↓RA, ↓RI, RH, RB, RJ, RS, fx34, p1, p2, p3, p4, reduceIte, p5, p6, p7, p8, c2]
      refine VSeq.nil (Nat.le_of_eq rfl) ?_
      simp -failIfUnchanged only [↓RA, ↓RI, RH, RB, RJ, RS, fx34, p1, p2, p3, p4, reduceIte, p5, p6, p7, p8, c2]
      have h := run_some h
      refine RdH.mk ⟨_, h, ?_⟩
      refine St.le_trans (St.le_mk (S := [(0, .hold .mp [] (.mp (gmap I (a0).es) (a0).clock)), (4, .box (.node [(.pv (.sl true 1 [])), (.pv (.sl true 1 [])), (.pv (I (0 : Int)))])), (6, .box (.node [(.own 9309), (.own 704), (.pv (I a1))])), (32, .val (.own 9309)), (33, .val (.pv (I (v30.2.length : Int)))), (34, .val (.pv (I (IntKind.i64.wrap ((i9 : Int) + (1 : Int)))))), (20000, gh 0)]) (O := [(9309, (1, v30.2.map Sx)), (704, (1, v44.map I))]) (by simp -failIfUnchanged only [↓RA, ↓RI, RH, RB, RJ, RS, fx34, p1, p2, p3, p4, reduceIte, p5, p6, p7, p8, c2, w9]) (by simp -failIfUnchanged only [↓RA, ↓RI, RH, RB, RJ, RS, fx34, p1, p2, p3, p4, reduceIte, p5, p6, p7, p8, c2, w9])) ?_
      refine St.le_rn 704 9327 (by decide) (by repeat (first | exact noC_empty _ _ (by simp -failIfUnchanged only [↓RA, ↓RI, RH, RB, RJ, RS, fx34, p1, p2, p3, p4, reduceIte, p5, p6, p7, p8]) | exact noC_nilS _ _ (by simp -failIfUnchanged only [↓RA, ↓RI, RH, RB, RJ, RS, fx34, p1, p2, p3, p4, reduceIte, p5, p6, p7, p8]) | refine noC_mk _ _ _ _ _ rfl ?_ | refine noC_mkS _ _ _ _ _ rfl ?_)) ?_
      refine St.le_mk2 ?_
      simp -failIfUnchanged only [↓RA, ↓RI, RH, RB, RJ, RS, fx34, p1, p2, p3, p4, reduceIte, p5, p6, p7, p8, c2, w9]
    · simp -failIfUnchanged only [↓RA, ↓RI, RH, RB, RJ, RS, fx34, p1, p2, p3, p4, reduceIte, p5, p6, p7, p8]
      refine VSeq.step ?_
      simp -failIfUnchanged only [↓RA, ↓RI, RH, RB, RJ, RS, fx34, p1, p2, p3, p4, reduceIte, p5, p6, p7, p8]
      refine VSeq.nil (Nat.le_of_eq rfl) ?_
      simp -failIfUnchanged only [↓RA, ↓RI, RH, RB, RJ, RS, fx34, p1, p2, p3, p4, reduceIte, p5, p6, p7, p8]
      refine CondH.ff (decide_eq_false (by omega)) (fun c3 => ?_)
      simp -failIfUnchanged only [↓RA, ↓RI, RH, RB, RJ, RS, fx34, p1, p2, p3, p4, reduceIte, p5, p6, p7, p8, c3]
      refine VSeq.step ?_
      simp -failIfUnchanged only [↓RA, ↓RI, RH, RB, RJ, RS, fx34, p1, p2, p3, p4, reduceIte, p5, p6, p7, p8, c3]
      refine VSeq.step ?_
      simp -failIfUnchanged only [↓RA, ↓RI, RH, RB, RJ, RS, fx34, p1, p2, p3, p4, reduceIte, p5, p6, p7, p8, c3]
      obtain ⟨v48, hv48, h⟩ := run_bind h
      refine CallH.mk [false] (impl_IsValidLinear_sat hv48) ?_ ?_ <;> simp -failIfUnchanged only [↓RA, ↓RI, RH, RB, RJ, RS, fx34, p1, p2, p3, p4, reduceIte, p5, p6, p7, p8, c3]
      refine VSeq.step ?_
      simp -failIfUnchanged only [↓RA, ↓RI, RH, RB, RJ, RS, fx34, p1, p2, p3, p4, reduceIte, p5, p6, p7, p8, c3]
      refine VSeq.nil (Nat.le_of_eq rfl) ?_
      simp -failIfUnchanged only [↓RA, ↓RI, RH, RB, RJ, RS, fx34, p1, p2, p3, p4, reduceIte, p5, p6, p7, p8, c3]
      refine CondH.mk (fun c4 => ?_) (fun c4 => ?_)
      · replace h := run_t c4 h
        simp -failIfUnchanged only [↓RA, ↓RI, RH, RB, RJ, RS, fx34, p1, p2, p3, p4, reduceIte, p5, p6, p7, p8, c3, c4]
        refine VSeq.step ?_
        simp -failIfUnchanged only [↓RA, ↓RI, RH, RB, RJ, RS, fx34, p1, p2, p3, p4, reduceIte, p5, p6, p7, p8, c3, c4]
        refine VSeq.step ?_
        simp -failIfUnchanged only [↓RA, ↓RI, RH, RB, RJ, RS, fx34, p1, p2, p3, p4, reduceIte, p5, p6, p7, p8, c3, c4]
        refine VSeq.step ?_
        simp -failIfUnchanged only [↓RA, ↓RI, RH, RB, RJ, RS, fx34, p1, p2, p3, p4, reduceIte, p5, p6, p7, p8, c3, c4]
        refine VSeq.nil (Nat.le_of_eq rfl) ?_
        simp -failIfUnchanged only [↓RA, ↓RI, RH, RB, RJ, RS, fx34, p1, p2, p3, p4, reduceIte, p5, p6, p7, p8, c3, c4]
        have h := run_some h
        obtain rfl : _ = r := h
        refine RetHB.l ?_
        simp -failIfUnchanged only [↓RA, ↓RI, RH, RB, RJ, RS, fx34, p1, p2, p3, p4, reduceIte, p5, p6, p7, p8, c3, c4]
      · replace h := run_f c4 h
        simp -failIfUnchanged only [↓RA, ↓RI, RH, RB, RJ, RS, fx34, p1, p2, p3, p4, reduceIte, p5, p6, p7, p8, c3, c4]
        refine VSeq.step ?_
        simp -failIfUnchanged only [↓RA, ↓RI, RH, RB, RJ, RS, fx34, p1, p2, p3, p4, reduceIte, p5, p6, p7, p8, c3, c4]
        refine VSeq.step ?_
        simp -failIfUnchanged only [↓RA, ↓RI, RH, RB, RJ, RS, fx34, p1, p2, p3, p4, reduceIte, p5, p6, p7, p8, c3, c4]
        refine VSeq.step ?_
        simp -failIfUnchanged only [↓RA, ↓RI, RH, RB, RJ, RS, fx34, p1, p2, p3, p4, reduceIte, p5, p6, p7, p8, c3, c4]
        refine VSeq.nil (Nat.le_of_eq rfl) ?_
        simp -failIfUnchanged only [↓RA, ↓RI, RH, RB, RJ, RS, fx34, p1, p2, p3, p4, reduceIte, p5, p6, p7, p8, c3, c4]
        have h := run_some h
        obtain rfl : _ = r := h
        refine RetHB.l ?_
        simp -failIfUnchanged only [↓RA, ↓RI, RH, RB, RJ, RS, fx34, p1, p2, p3, p4, reduceIte, p5, p6, p7, p8, c3, c4]
  · replace h := RngI.pick (key := fun e => e.2.2) hI3 he3 hn3
    refine VSeq.step ?_
    simp -failIfUnchanged only [↓RA, ↓RI, RH, RB, RJ, RS, fx34, p1, p2, p3, p4, reduceIte, p5, p6, p7, p8]
    refine VSeq.nil (Nat.le_of_eq rfl) ?_
    simp -failIfUnchanged only [↓RA, ↓RI, RH, RB, RJ, RS, fx34, p1, p2, p3, p4, reduceIte, p5, p6, p7, p8]
    refine VSeq.step ?_
    simp -failIfUnchanged only [↓RA, ↓RI, RH, RB, RJ, RS, fx34, p1, p2, p3, p4, reduceIte, p5, p6, p7, p8]
    refine HandH.entry (kt := 14) (r := 0) (sh := .mp) (ps := []) (m := a0) (f := I) (e := e3) (s0 := pre3.map fun e => e.2.2) he3 (by simp -failIfUnchanged only [↓RA, ↓RI, RH, RB, RJ, RS, fx34, p1, p2, p3, p4, reduceIte, p5, p6, p7, p8]) ?_
    simp -failIfUnchanged only [↓RA, ↓RI, RH, RB, RJ, RS, fx34, p1, p2, p3, p4, reduceIte, p5, p6, p7, p8]
    refine VSeq.step ?_
    simp -failIfUnchanged only [↓RA, ↓RI, RH, RB, RJ, RS, fx34, p1, p2, p3, p4, reduceIte, p5, p6, p7, p8]
    refine VSeq.step ?_
    simp -failIfUnchanged only [↓RA, ↓RI, RH, RB, RJ, RS, fx34, p1, p2, p3, p4, reduceIte, p5, p6, p7, p8]
    refine VSeq.step ?_
    simp -failIfUnchanged only [↓RA, ↓RI, RH, RB, RJ, RS, fx34, p1, p2, p3, p4, reduceIte, p5, p6, p7, p8]
    refine VSeq.step ?_
    simp -failIfUnchanged only [↓RA, ↓RI, RH, RB, RJ, RS, fx34, p1, p2, p3, p4, reduceIte, p5, p6, p7, p8]
    refine VSeq.nil (Nat.le_of_eq rfl) ?_
    simp -failIfUnchanged only [↓RA, ↓RI, RH, RB, RJ, RS, fx34, p1, p2, p3, p4, reduceIte, p5, p6, p7, p8]
    refine VSeq.step ?_
    simp -failIfUnchanged only [↓RA, ↓RI, RH, RB, RJ, RS, fx34, p1, p2, p3, p4, reduceIte, p5, p6, p7, p8]
    refine VSeq.step ?_
    simp -failIfUnchanged only [↓RA, ↓RI, RH, RB, RJ, RS, fx34, p1, p2, p3, p4, reduceIte, p5, p6, p7, p8]
    refine VSeq.nil (Nat.le_of_eq rfl) ?_
    simp -failIfUnchanged only [↓RA, ↓RI, RH, RB, RJ, RS, fx34, p1, p2, p3, p4, reduceIte, p5, p6, p7, p8]
    refine CondH.mk (fun c1 => ?_) (fun c1 => ?_)
    · replace h := run_t c1 h
      simp -failIfUnchanged only [↓RA, ↓RI, RH, RB, RJ, RS, fx34, p1, p2, p3, p4, reduceIte, p5, p6, p7, p8, c1]
      have h := run_some h
      refine RdH.mk ⟨_, e3, he3, hn3, h, ?_⟩
      refine St.le_mk2 ?_
      simp -failIfUnchanged only [↓RA, ↓RI, RH, RB, RJ, RS, fx34, p1, p2, p3, p4, reduceIte, p5, p6, p7, p8, c1]
    · replace h := run_f c1 h
      simp -failIfUnchanged only [↓RA, ↓RI, RH, RB, RJ, RS, fx34, p1, p2, p3, p4, reduceIte, p5, p6, p7, p8, c1]
      refine VSeq.step ?_
      simp -failIfUnchanged only [↓RA, ↓RI, RH, RB, RJ, RS, fx34, p1, p2, p3, p4, reduceIte, p5, p6, p7, p8, c1]
      refine VSeq.step ?_
      simp -failIfUnchanged only [↓RA, ↓RI, RH, RB, RJ, RS, fx34, p1, p2, p3, p4, reduceIte, p5, p6, p7, p8, c1]
      refine VSeq.step ?_
      simp -failIfUnchanged only [↓RA, ↓RI, RH, RB, RJ, RS, fx34, p1, p2, p3, p4, reduceIte, p5, p6, p7, p8, c1]
      refine VSeq.step ?_
      simp -failIfUnchanged only [↓RA, ↓RI, RH, RB, RJ, RS, fx34, p1, p2, p3, p4, reduceIte, p5, p6, p7, p8, c1]
      repeat (first | with_reducible refine noR_and (by repeat (first | exact noR_empty _ _ | exact noR_nilS _ _ | refine noR_mk _ _ _ _ _ rfl ?_ | refine noR_mkS _ _ _ _ _ rfl ?_)) ?_ | with_reducible refine noC_and (by repeat (first | exact noC_empty _ _ (by simp -failIfUnchanged only [↓RA, ↓RI, RH, RB, RJ, RS, fx34, p1, p2, p3, p4, reduceIte, p5, p6, p7, p8]) | exact noC_nilS _ _ (by simp -failIfUnchanged only [↓RA, ↓RI, RH, RB, RJ, RS, fx34, p1, p2, p3, p4, reduceIte, p5, p6, p7, p8]) | refine noC_mk _ _ _ _ _ rfl ?_ | refine noC_mkS _ _ _ _ _ rfl ?_)) ?_ | with_reducible refine and_ac ?_ | with_reducible refine And.intro (a := _ = List.range _) (by rfl) ?_)
      refine VSeq.step ?_
      simp -failIfUnchanged only [↓RA, ↓RI, RH, RB, RJ, RS, fx34, p1, p2, p3, p4, reduceIte, p5, p6, p7, p8, c1]
      obtain ⟨v26, hv26, h⟩ := run_bind h
      refine AppH.mk (f := Sx) (fun _ => rfl) hv26 ?_ ?_ ?_ <;> simp -failIfUnchanged only [↓RA, ↓RI, RH, RB, RJ, RS, fx34, p1, p2, p3, p4, reduceIte, p5, p6, p7, p8, c1]
      repeat (first | with_reducible refine noR_and (by repeat (first | exact noR_empty _ _ | exact noR_nilS _ _ | refine noR_mk _ _ _ _ _ rfl ?_ | refine noR_mkS _ _ _ _ _ rfl ?_)) ?_ | with_reducible refine noC_and (by repeat (first | exact noC_empty _ _ (by simp -failIfUnchanged only [↓RA, ↓RI, RH, RB, RJ, RS, fx34, p1, p2, p3, p4, reduceIte, p5, p6, p7, p8]) | exact noC_nilS _ _ (by simp -failIfUnchanged only [↓RA, ↓RI, RH, RB, RJ, RS, fx34, p1, p2, p3, p4, reduceIte, p5, p6, p7, p8]) | refine noC_mk _ _ _ _ _ rfl ?_ | refine noC_mkS _ _ _ _ _ rfl ?_)) ?_ | with_reducible refine and_ac ?_ | with_reducible refine And.intro (a := _ = List.range _) (by rfl) ?_)
      refine VSeq.step ?_
      simp -failIfUnchanged only [↓RA, ↓RI, RH, RB, RJ, RS, fx34, p1, p2, p3, p4, reduceIte, p5, p6, p7, p8, c1]
      refine VSeq.step ?_
      simp -failIfUnchanged only [↓RA, ↓RI, RH, RB, RJ, RS, fx34, p1, p2, p3, p4, reduceIte, p5, p6, p7, p8, c1]
      refine VSeq.nil (Nat.le_of_eq rfl) ?_
      simp -failIfUnchanged only [↓RA, ↓RI, RH, RB, RJ, RS, fx34, p1, p2, p3, p4, reduceIte, p5, p6, p7, p8, c1]
      have h := run_some h
      refine RdH.mk ⟨_, e3, he3, hn3, h, ?_⟩
      refine St.le_trans (St.le_mk (S := [(0, .hold .mp [] (.mp (gmap I (a0).es) (a0).clock)), (4, .box (.node [(.pv (.sl true 1 [])), (.pv (.sl true 1 [])), (.pv (I (0 : Int)))])), (6, .box (.node [(.own 416), (.pv (.sl true 1 [])), (.pv (I a1))])), (14, .hold .ptr [] (.it 0 (a0).clock ((pre3.map fun e => e.2.2) ++ [e3.2.2]) (a0).clock)), (20000, gh 0)]) (O := [(416, (1, v26.map Sx))]) (by simp -failIfUnchanged only [↓RA, ↓RI, RH, RB, RJ, RS, fx34, p1, p2, p3, p4, reduceIte, p5, p6, p7, p8, c1]) (by simp -failIfUnchanged only [↓RA, ↓RI, RH, RB, RJ, RS, fx34, p1, p2, p3, p4, reduceIte, p5, p6, p7, p8, c1])) ?_
      refine St.le_rn 416 9309 (by decide) (by repeat (first | exact noC_empty _ _ (by simp -failIfUnchanged only [↓RA, ↓RI, RH, RB, RJ, RS, fx34, p1, p2, p3, p4, reduceIte, p5, p6, p7, p8]) | exact noC_nilS _ _ (by simp -failIfUnchanged only [↓RA, ↓RI, RH, RB, RJ, RS, fx34, p1, p2, p3, p4, reduceIte, p5, p6, p7, p8]) | refine noC_mk _ _ _ _ _ rfl ?_ | refine noC_mkS _ _ _ _ _ rfl ?_)) ?_
      refine St.le_mk2 ?_
      simp -failIfUnchanged only [↓RA, ↓RI, RH, RB, RJ, RS, fx34, p1, p2, p3, p4, reduceIte, p5, p6, p7, p8, c1]
theorem impl_linear_sat {a0 : GMap Int} {a1 : Int} {r : Linear × Bool} (h : impl_linear a0 a1 = some r) : SatH Try.prog 34 [] [(I a1)] .mp [] (.mp (gmap I a0.es) a0.clock) (.mp (gmap I a0.es) a0.clock) (.tup [((Linear.pv true) r.1), (B r.2)]) := impl_linearR_sat fun ord ho => linear_ord ho h

def fx13 := And.intro @ty_3 <| And.intro @zc_3 <| And.intro @z_3 <| And.intro @ty_4 <| And.intro @zc_4 <| And.intro @z_4 <| And.intro @u_4 <| And.intro @ty_9 <| And.intro @zc_9 <| And.intro @z_9 <| And.intro @u_9 <| And.intro @ty_27 <| And.intro @zc_27 <| And.intro @z_27 <| And.intro @fo_27_0 <| And.intro @fi_27_0 <| And.intro @ft_27_0 <| And.intro @fo_27_1 <| And.intro @fi_27_1 <| And.intro @ft_27_1 <| And.intro @fo_27_2 <| And.intro @fi_27_2 <| And.intro @ft_27_2 <| And.intro @lay_27 <| And.intro @ty_47 <| @mixedT
set_option maxHeartbeats 4000000 in
theorem impl_SubstituteLinear_sat {a0 : Linear} {a1 : ByteArray} {a2 : Linear}  {r : Linear × Bool} (h : impl_SubstituteLinear a0 a1 a2 = some r) : Sat Try.prog 13 [((Linear.pv false) a0), (Sx a1), ((Linear.pv false) a2)] (.tup [((Linear.pv true) r.1), (B r.2)]) := by
  replace h := Run.of h
  unfold impl_SubstituteLinear at h
  refine Sat.of_m (nt := 43) (rs := [.cell 6 27, .tmp 7]) (n := 100000) Try.func13 rfl rfl rfl rfl (by simp) ?_
  simp -failIfUnchanged only [↓RA, RH, RB, RS, fx13, p1, p2, p3, p4, reduceIte, p5, p6, p7, p8]
  repeat (first | with_reducible refine noR_and (by repeat (first | exact noR_empty _ _ | exact noR_nilS _ _ | refine noR_mk _ _ _ _ _ rfl ?_ | refine noR_mkS _ _ _ _ _ rfl ?_)) ?_ | with_reducible refine noC_and (by repeat (first | exact noC_empty _ _ (by simp -failIfUnchanged only [↓RA, RH, RB, RS, fx13, p1, p2, p3, p4, reduceIte, p5, p6, p7, p8]) | exact noC_nilS _ _ (by simp -failIfUnchanged only [↓RA, RH, RB, RS, fx13, p1, p2, p3, p4, reduceIte, p5, p6, p7, p8]) | refine noC_mk _ _ _ _ _ rfl ?_ | refine noC_mkS _ _ _ _ _ rfl ?_)) ?_ | with_reducible refine and_ac ?_ | with_reducible refine And.intro (a := _ = List.range _) (by rfl) ?_)
  obtain ⟨v11, hv11, h⟩ := run_bind h
  refine CallH.mk [false] (impl_IsValidLinear_sat hv11) ?_ ?_ <;> simp -failIfUnchanged only [↓RA, RH, RB, RS, fx13, p1, p2, p3, p4, reduceIte, p5, p6, p7, p8]
  refine CondH.mk (fun c1 => ?_) (fun c1 => ?_)
  · replace h := run_t c1 h
    simp -failIfUnchanged only [↓RA, RH, RB, RS, fx13, p1, p2, p3, p4, reduceIte, p5, p6, p7, p8, c1]
    obtain ⟨v15, hv15, h⟩ := run_bind h
    refine CallH.mk [false] (impl_isVariable_sat hv15) ?_ ?_ <;> simp -failIfUnchanged only [↓RA, RH, RB, RS, fx13, p1, p2, p3, p4, reduceIte, p5, p6, p7, p8, c1]
    refine CondH.mk (fun c2 => ?_) (fun c2 => ?_)
    · replace h := run_t c2 h
      simp -failIfUnchanged only [↓RA, RH, RB, RS, fx13, p1, p2, p3, p4, reduceIte, p5, p6, p7, p8, c1, c2]
      obtain ⟨v20, hv20, h⟩ := run_bind h
      refine CallH.mk [false] (impl_IsValidLinear_sat hv20) ?_ ?_ <;> simp -failIfUnchanged only [↓RA, RH, RB, RS, fx13, p1, p2, p3, p4, reduceIte, p5, p6, p7, p8, c1, c2]
      refine CondH.mk (fun c3 => ?_) (fun c3 => ?_)
      · replace h := run_t c3 h
        simp -failIfUnchanged only [↓RA, RH, RB, RS, fx13, p1, p2, p3, p4, reduceIte, p5, p6, p7, p8, c1, c2, c3]
        refine HandH.makeMap (α := Int) I (by decide) ?_
        simp -failIfUnchanged only [↓RA, RH, RB, RS, fx13, p1, p2, p3, p4, reduceIte, p5, p6, p7, p8, c1, c2, c3]
        repeat (first | with_reducible refine noR_and (by repeat (first | exact noR_empty _ _ | exact noR_nilS _ _ | refine noR_mk _ _ _ _ _ rfl ?_ | refine noR_mkS _ _ _ _ _ rfl ?_)) ?_ | with_reducible refine noC_and (by repeat (first | exact noC_empty _ _ (by simp -failIfUnchanged only [↓RA, RH, RB, RS, fx13, p1, p2, p3, p4, reduceIte, p5, p6, p7, p8]) | exact noC_nilS _ _ (by simp -failIfUnchanged only [↓RA, RH, RB, RS, fx13, p1, p2, p3, p4, reduceIte, p5, p6, p7, p8]) | refine noC_mk _ _ _ _ _ rfl ?_ | refine noC_mkS _ _ _ _ _ rfl ?_)) ?_ | with_reducible refine and_ac ?_ | with_reducible refine And.intro (a := _ = List.range _) (by rfl) ?_)
        obtain ⟨v27, hv27, h⟩ := run_bind h
        refine HandH.call (r := 24) (hc := .mp (gmap I ((GMap.empty : GMap Int)).es) ((GMap.empty : GMap Int)).clock) 1 [_] [_] [(.pv ((Linear.pv false) a0))] [(.pv (I (1 : Int)))] [false, false] (impl_Linear__add_sat hv27) rfl rfl rfl ?_ ?_ <;> simp -failIfUnchanged only [↓RA, RH, RB, RS, fx13, p1, p2, p3, p4, reduceIte, p5, p6, p7, p8, c1, c2, c3]
        refine HandH.del (E := 3) (r := 24) (sh := .mp) (ps := []) (m := v27.2) (f := I) (k := a1) mt_47 (by simp -failIfUnchanged only [↓RA, RH, RB, RS, fx13, p1, p2, p3, p4, reduceIte, p5, p6, p7, p8, c1, c2, c3]) ?_
        simp -failIfUnchanged only [↓RA, RH, RB, RS, fx13, p1, p2, p3, p4, reduceIte, p5, p6, p7, p8, c1, c2, c3]
        obtain ⟨v35, hv35, h⟩ := run_bind h
        refine CallH.mk [false, false] (impl_Linear__slope_sat hv35) ?_ ?_ <;> simp -failIfUnchanged only [↓RA, RH, RB, RS, fx13, p1, p2, p3, p4, reduceIte, p5, p6, p7, p8, c1, c2, c3]
        obtain ⟨v36, hv36, h⟩ := run_bind h
        refine HandH.call (r := 24) (hc := .mp (gmap I (GMap.del v27.2 a1).es) (GMap.del v27.2 a1).clock) 1 [_] [_] [(.pv ((Linear.pv false) a2))] [(.pv (I v35))] [false, false] (impl_Linear__add_sat hv36) rfl rfl rfl ?_ ?_ <;> simp -failIfUnchanged only [↓RA, RH, RB, RS, fx13, p1, p2, p3, p4, reduceIte, p5, p6, p7, p8, c1, c2, c3]
        refine And.intro (DrawH.none (by rfl) (by first | rfl | (simp -failIfUnchanged only [↓RA, RH, RB, RS, fx13, p1, p2, p3, p4, reduceIte, p5, p6, p7, p8] <;> rfl)) (by first | rfl | (simp -failIfUnchanged only [↓RA, RH, RB, RS, fx13, p1, p2, p3, p4, reduceIte, p5, p6, p7, p8] <;> rfl)) (by first | rfl | (simp -failIfUnchanged only [↓RA, RH, RB, RS, fx13, p1, p2, p3, p4, reduceIte, p5, p6, p7, p8] <;> rfl))) ?_
        simp -failIfUnchanged only [↓RA, RH, RB, RS, fx13, p1, p2, p3, p4, reduceIte, p5, p6, p7, p8, c1, c2, c3]
        obtain ⟨v40, hv40, h⟩ := run_bind h
        refine HandH.call (r := 24) (hc := .mp (gmap I (v36.2).es) (v36.2).clock) 0 [] [_] [] [(.pv (I (IntKind.i64.wrap (v27.1 + v36.1))))] [false] (impl_linear_sat hv40) rfl rfl rfl ?_ ?_ <;> simp -failIfUnchanged only [↓RA, RH, RB, RS, fx13, p1, p2, p3, p4, reduceIte, p5, p6, p7, p8, c1, c2, c3]
        repeat (first | with_reducible refine noR_and (by repeat (first | exact noR_empty _ _ | exact noR_nilS _ _ | refine noR_mk _ _ _ _ _ rfl ?_ | refine noR_mkS _ _ _ _ _ rfl ?_)) ?_ | with_reducible refine noC_and (by repeat (first | exact noC_empty _ _ (by simp -failIfUnchanged only [↓RA, RH, RB, RS, fx13, p1, p2, p3, p4, reduceIte, p5, p6, p7, p8]) | exact noC_nilS _ _ (by simp -failIfUnchanged only [↓RA, RH, RB, RS, fx13, p1, p2, p3, p4, reduceIte, p5, p6, p7, p8]) | refine noC_mk _ _ _ _ _ rfl ?_ | refine noC_mkS _ _ _ _ _ rfl ?_)) ?_ | with_reducible refine and_ac ?_ | with_reducible refine And.intro (a := _ = List.range _) (by rfl) ?_)
        have h := run_some h
        obtain rfl : _ = r := h
        refine FinH.l ?_
        simp -failIfUnchanged only [↓RA, RH, RB, RS, fx13, p1, p2, p3, p4, reduceIte, p5, p6, p7, p8, c1, c2, c3]
      · replace h := run_f c3 h
        simp -failIfUnchanged only [↓RA, RH, RB, RS, fx13, p1, p2, p3, p4, reduceIte, p5, p6, p7, p8, c1, c2, c3]
        have h := run_some h
        obtain rfl : _ = r := h
        refine FinH.l ?_
        simp -failIfUnchanged only [↓RA, RH, RB, RS, fx13, p1, p2, p3, p4, reduceIte, p5, p6, p7, p8, c1, c2, c3]
    · replace h := run_f c2 h
      simp -failIfUnchanged only [↓RA, RH, RB, RS, fx13, p1, p2, p3, p4, reduceIte, p5, p6, p7, p8, c1, c2]
      have h := run_some h
      obtain rfl : _ = r := h
      refine FinH.l ?_
      simp -failIfUnchanged only [↓RA, RH, RB, RS, fx13, p1, p2, p3, p4, reduceIte, p5, p6, p7, p8, c1, c2]
  · replace h := run_f c1 h
    simp -failIfUnchanged only [↓RA, RH, RB, RS, fx13, p1, p2, p3, p4, reduceIte, p5, p6, p7, p8, c1]
    have h := run_some h
    obtain rfl : _ = r := h
    refine FinH.l ?_
    simp -failIfUnchanged only [↓RA, RH, RB, RS, fx13, p1, p2, p3, p4, reduceIte, p5, p6, p7, p8, c1]

def fx22 := And.intro @ty_3 <| And.intro @zc_3 <| And.intro @z_3 <| And.intro @ty_9 <| And.intro @zc_9 <| And.intro @z_9 <| And.intro @u_9 <| And.intro @ty_22 <| And.intro @zc_22 <| And.intro @z_22 <| And.intro @es_22 <| And.intro @eb_22 <| And.intro @sl_22 <| And.intro @is_22 <| And.intro @el_22 <| And.intro @ze_22 <| And.intro @ez_22 <| @mixedT
set_option maxHeartbeats 4000000 in
theorem eqStringS_sat {a0 : List ByteArray} {a1 : List ByteArray}  {r : Bool} (h : eqStringS a0 a1 = some r) : Sat Try.prog 22 [(.sl false 1 (a0.map Sx)), (.sl false 1 (a1.map Sx))] (B r) := by
  replace h := Run.of h
  unfold eqStringS at h
  refine Sat.of_m (nt := 26) (rs := [.tmp 4]) (n := 100000) Try.func22 rfl rfl rfl rfl (by simp) ?_
  simp -failIfUnchanged only [↓RA, RB, RS, fx22, p1, p2, p3, p4, reduceIte, p5, p6, p7, p8]
  refine CondH.mk (fun c1 => ?_) (fun c1 => ?_)
  · replace h := run_t c1 h
    simp -failIfUnchanged only [↓RA, RB, RS, fx22, p1, p2, p3, p4, reduceIte, p5, p6, p7, p8, c1]
    refine Mg.know_sl (b := false) (sz := 1) (es := a0.map Sx) 0 (by simp -failIfUnchanged only [↓RA, RB, RS, fx22, p1, p2, p3, p4, reduceIte, p5, p6, p7, p8, c1]) fun hl0 => ?_; rw [List.length_map] at hl0
    replace h := run_loop h
    refine Mg.forN h (fun i4 s4 => [(0, .val (.pv (.sl false 1 (a0.map Sx)))), (1, .val (.pv (.sl false 1 (a1.map Sx)))), (5, .val (.pv (I (i4 : Int))))]) (fun i4 s4 => []) (St.le_mk2 (by simp -failIfUnchanged only [↓RA, RB, RS, fx22, p1, p2, p3, p4, reduceIte, p5, p6, p7, p8, c1])) (fun i4 s4 hi h => ?_) (fun s4 h => ?_)
    · have w4 := wrap_succ (i := i4) (by omega)
      simp -failIfUnchanged only [↓RA, RB, RS, fx22, p1, p2, p3, p4, reduceIte, p5, p6, p7, p8, c1]
      refine CondH.tt (decide_eq_true (by omega)) (fun c2 => ?_)
      simp -failIfUnchanged only [↓RA, RB, RS, fx22, p1, p2, p3, p4, reduceIte, p5, p6, p7, p8, c1, c2]
      obtain ⟨v19, hv19, h⟩ := run_bind h
      refine IdxH.mk (f := Sx) hv19 ?_ ?_ <;> simp -failIfUnchanged only [↓RA, RB, RS, fx22, p1, p2, p3, p4, reduceIte, p5, p6, p7, p8, c1, c2]
      obtain ⟨v23, hv23, h⟩ := run_bind h
      refine IdxH.mk (f := Sx) hv23 ?_ ?_ <;> simp -failIfUnchanged only [↓RA, RB, RS, fx22, p1, p2, p3, p4, reduceIte, p5, p6, p7, p8, c1, c2]
      refine And.intro (DrawH.none (by rfl) (by first | rfl | (simp -failIfUnchanged only [↓RA, RB, RS, fx22, p1, p2, p3, p4, reduceIte, p5, p6, p7, p8] <;> rfl)) (by first | rfl | (simp -failIfUnchanged only [↓RA, RB, RS, fx22, p1, p2, p3, p4, reduceIte, p5, p6, p7, p8] <;> rfl)) (by first | rfl | (simp -failIfUnchanged only [↓RA, RB, RS, fx22, p1, p2, p3, p4, reduceIte, p5, p6, p7, p8] <;> rfl))) ?_
      simp -failIfUnchanged only [↓RA, RB, RS, fx22, p1, p2, p3, p4, reduceIte, p5, p6, p7, p8, c1, c2]
      refine CondH.mk (fun c3 => ?_) (fun c3 => ?_)
      · replace h := run_t c3 h
        simp -failIfUnchanged only [↓RA, RB, RS, fx22, p1, p2, p3, p4, reduceIte, p5, p6, p7, p8, c1, c2, c3]
        have h := run_some h
        refine RdH.mk ⟨_, h, ?_⟩
        refine St.le_mk2 ?_
        simp -failIfUnchanged only [↓RA, RB, RS, fx22, p1, p2, p3, p4, reduceIte, p5, p6, p7, p8, c1, c2, c3, w4]
      · replace h := run_f c3 h
        simp -failIfUnchanged only [↓RA, RB, RS, fx22, p1, p2, p3, p4, reduceIte, p5, p6, p7, p8, c1, c2, c3]
        have h := run_some h
        obtain rfl : _ = r := h
        refine FinH.l ?_
        simp -failIfUnchanged only [↓RA, RB, RS, fx22, p1, p2, p3, p4, reduceIte, p5, p6, p7, p8, c1, c2, c3]
    · simp -failIfUnchanged only [↓RA, RB, RS, fx22, p1, p2, p3, p4, reduceIte, p5, p6, p7, p8, c1]
      refine CondH.ff (decide_eq_false (by omega)) (fun c4 => ?_)
      simp -failIfUnchanged only [↓RA, RB, RS, fx22, p1, p2, p3, p4, reduceIte, p5, p6, p7, p8, c1, c4]
      have h := run_some h
      obtain rfl : _ = r := h
      refine FinH.l ?_
      simp -failIfUnchanged only [↓RA, RB, RS, fx22, p1, p2, p3, p4, reduceIte, p5, p6, p7, p8, c1, c4]
  · replace h := run_f c1 h
    simp -failIfUnchanged only [↓RA, RB, RS, fx22, p1, p2, p3, p4, reduceIte, p5, p6, p7, p8, c1]
    have h := run_some h
    obtain rfl : _ = r := h
    refine FinH.l ?_
    simp -failIfUnchanged only [↓RA, RB, RS, fx22, p1, p2, p3, p4, reduceIte, p5, p6, p7, p8, c1]

def fx23 := And.intro @ty_3 <| And.intro @zc_3 <| And.intro @z_3 <| And.intro @ty_23 <| And.intro @zc_23 <| And.intro @z_23 <| And.intro @es_23 <| And.intro @eb_23 <| And.intro @sl_23 <| And.intro @is_23 <| And.intro @el_23 <| And.intro @ze_23 <| And.intro @ez_23 <| @mixedT
set_option maxHeartbeats 4000000 in
theorem eqIntS_sat {a0 : List Int} {a1 : List Int}  {r : Bool} (h : eqIntS a0 a1 = some r) : Sat Try.prog 23 [(.sl false 1 (a0.map I)), (.sl false 1 (a1.map I))] (B r) := by
  replace h := Run.of h
  unfold eqIntS at h
  refine Sat.of_m (nt := 26) (rs := [.tmp 4]) (n := 100000) Try.func23 rfl rfl rfl rfl (by simp) ?_
  simp -failIfUnchanged only [↓RA, RB, RS, fx23, p1, p2, p3, p4, reduceIte, p5, p6, p7, p8]
  refine CondH.mk (fun c1 => ?_) (fun c1 => ?_)
  · replace h := run_t c1 h
    simp -failIfUnchanged only [↓RA, RB, RS, fx23, p1, p2, p3, p4, reduceIte, p5, p6, p7, p8, c1]
    refine Mg.know_sl (b := false) (sz := 1) (es := a0.map I) 0 (by simp -failIfUnchanged only [↓RA, RB, RS, fx23, p1, p2, p3, p4, reduceIte, p5, p6, p7, p8, c1]) fun hl0 => ?_; rw [List.length_map] at hl0
    replace h := run_loop h
    refine Mg.forN h (fun i4 s4 => [(0, .val (.pv (.sl false 1 (a0.map I)))), (1, .val (.pv (.sl false 1 (a1.map I)))), (5, .val (.pv (I (i4 : Int))))]) (fun i4 s4 => []) (St.le_mk2 (by simp -failIfUnchanged only [↓RA, RB, RS, fx23, p1, p2, p3, p4, reduceIte, p5, p6, p7, p8, c1])) (fun i4 s4 hi h => ?_) (fun s4 h => ?_)
    · have w4 := wrap_succ (i := i4) (by omega)
      simp -failIfUnchanged only [↓RA, RB, RS, fx23, p1, p2, p3, p4, reduceIte, p5, p6, p7, p8, c1]
      refine CondH.tt (decide_eq_true (by omega)) (fun c2 => ?_)
      simp -failIfUnchanged only [↓RA, RB, RS, fx23, p1, p2, p3, p4, reduceIte, p5, p6, p7, p8, c1, c2]
      obtain ⟨v19, hv19, h⟩ := run_bind h
      refine IdxH.mk (f := I) hv19 ?_ ?_ <;> simp -failIfUnchanged only [↓RA, RB, RS, fx23, p1, p2, p3, p4, reduceIte, p5, p6, p7, p8, c1, c2]
      obtain ⟨v23, hv23, h⟩ := run_bind h
      refine IdxH.mk (f := I) hv23 ?_ ?_ <;> simp -failIfUnchanged only [↓RA, RB, RS, fx23, p1, p2, p3, p4, reduceIte, p5, p6, p7, p8, c1, c2]
      refine And.intro (DrawH.none (by rfl) (by first | rfl | (simp -failIfUnchanged only [↓RA, RB, RS, fx23, p1, p2, p3, p4, reduceIte, p5, p6, p7, p8] <;> rfl)) (by first | rfl | (simp -failIfUnchanged only [↓RA, RB, RS, fx23, p1, p2, p3, p4, reduceIte, p5, p6, p7, p8] <;> rfl)) (by first | rfl | (simp -failIfUnchanged only [↓RA, RB, RS, fx23, p1, p2, p3, p4, reduceIte, p5, p6, p7, p8] <;> rfl))) ?_
      simp -failIfUnchanged only [↓RA, RB, RS, fx23, p1, p2, p3, p4, reduceIte, p5, p6, p7, p8, c1, c2]
      refine CondH.mk (fun c3 => ?_) (fun c3 => ?_)
      · replace h := run_t c3 h
        simp -failIfUnchanged only [↓RA, RB, RS, fx23, p1, p2, p3, p4, reduceIte, p5, p6, p7, p8, c1, c2, c3]
        have h := run_some h
        refine RdH.mk ⟨_, h, ?_⟩
        refine St.le_mk2 ?_
        simp -failIfUnchanged only [↓RA, RB, RS, fx23, p1, p2, p3, p4, reduceIte, p5, p6, p7, p8, c1, c2, c3, w4]
      · replace h := run_f c3 h
        simp -failIfUnchanged only [↓RA, RB, RS, fx23, p1, p2, p3, p4, reduceIte, p5, p6, p7, p8, c1, c2, c3]
        have h := run_some h
        obtain rfl : _ = r := h
        refine FinH.l ?_
        simp -failIfUnchanged only [↓RA, RB, RS, fx23, p1, p2, p3, p4, reduceIte, p5, p6, p7, p8, c1, c2, c3]
    · simp -failIfUnchanged only [↓RA, RB, RS, fx23, p1, p2, p3, p4, reduceIte, p5, p6, p7, p8, c1]
      refine CondH.ff (decide_eq_false (by omega)) (fun c4 => ?_)
      simp -failIfUnchanged only [↓RA, RB, RS, fx23, p1, p2, p3, p4, reduceIte, p5, p6, p7, p8, c1, c4]
      have h := run_some h
      obtain rfl : _ = r := h
      refine FinH.l ?_
      simp -failIfUnchanged only [↓RA, RB, RS, fx23, p1, p2, p3, p4, reduceIte, p5, p6, p7, p8, c1, c4]
  · replace h := run_f c1 h
    simp -failIfUnchanged only [↓RA, RB, RS, fx23, p1, p2, p3, p4, reduceIte, p5, p6, p7, p8, c1]
    have h := run_some h
    obtain rfl : _ = r := h
    refine FinH.l ?_
    simp -failIfUnchanged only [↓RA, RB, RS, fx23, p1, p2, p3, p4, reduceIte, p5, p6, p7, p8, c1]

def fx9 := And.intro @ty_3 <| And.intro @zc_3 <| And.intro @z_3 <| And.intro @ty_4 <| And.intro @zc_4 <| And.intro @z_4 <| And.intro @u_4 <| And.intro @ty_22 <| And.intro @zc_22 <| And.intro @z_22 <| And.intro @es_22 <| And.intro @eb_22 <| And.intro @sl_22 <| And.intro @is_22 <| And.intro @el_22 <| And.intro @ze_22 <| And.intro @ez_22 <| And.intro @ty_23 <| And.intro @zc_23 <| And.intro @z_23 <| And.intro @es_23 <| And.intro @eb_23 <| And.intro @sl_23 <| And.intro @is_23 <| And.intro @el_23 <| And.intro @ze_23 <| And.intro @ez_23 <| And.intro @ty_27 <| And.intro @zc_27 <| And.intro @z_27 <| And.intro @fo_27_0 <| And.intro @fi_27_0 <| And.intro @ft_27_0 <| And.intro @fo_27_1 <| And.intro @fi_27_1 <| And.intro @ft_27_1 <| And.intro @fo_27_2 <| And.intro @fi_27_2 <| And.intro @ft_27_2 <| @lay_27
set_option maxHeartbeats 4000000 in
theorem eqLinear_sat {a0 : Linear} {a1 : Linear}  {r : Bool} (h : eqLinear a0 a1 = some r) : Sat Try.prog 9 [((Linear.pv false) a0), ((Linear.pv false) a1)] (B r) := by
  replace h := Run.of h
  unfold eqLinear at h
  refine Sat.of_m (nt := 22) (rs := [.tmp 4]) (n := 100000) Try.func9 rfl rfl rfl rfl (by simp) ?_
  simp -failIfUnchanged only [↓RA, RB, RS, fx9, p1, p2, p3, p4, reduceIte, p5, p6, p7, p8]
  repeat (first | with_reducible refine noR_and (by repeat (first | exact noR_empty _ _ | exact noR_nilS _ _ | refine noR_mk _ _ _ _ _ rfl ?_ | refine noR_mkS _ _ _ _ _ rfl ?_)) ?_ | with_reducible refine noC_and (by repeat (first | exact noC_empty _ _ (by simp -failIfUnchanged only [↓RA, RB, RS, fx9, p1, p2, p3, p4, reduceIte, p5, p6, p7, p8]) | exact noC_nilS _ _ (by simp -failIfUnchanged only [↓RA, RB, RS, fx9, p1, p2, p3, p4, reduceIte, p5, p6, p7, p8]) | refine noC_mk _ _ _ _ _ rfl ?_ | refine noC_mkS _ _ _ _ _ rfl ?_)) ?_ | with_reducible refine and_ac ?_ | with_reducible refine And.intro (a := _ = List.range _) (by rfl) ?_)
  obtain ⟨v9, hv9, h⟩ := run_bind h
  refine CallH.mk [false, false] (eqStringS_sat hv9) ?_ ?_ <;> simp -failIfUnchanged only [↓RA, RB, RS, fx9, p1, p2, p3, p4, reduceIte, p5, p6, p7, p8]
  refine CondH.mk (fun c1 => ?_) (fun c1 => ?_)
  · replace h := run_t c1 h
    simp -failIfUnchanged only [↓RA, RB, RS, fx9, p1, p2, p3, p4, reduceIte, p5, p6, p7, p8, c1]
    obtain ⟨v15, hv15, h⟩ := run_bind h
    refine CallH.mk [false, false] (eqIntS_sat hv15) ?_ ?_ <;> simp -failIfUnchanged only [↓RA, RB, RS, fx9, p1, p2, p3, p4, reduceIte, p5, p6, p7, p8, c1]
    refine CondH.mk (fun c2 => ?_) (fun c2 => ?_)
    · replace h := run_t c2 h
      simp -failIfUnchanged only [↓RA, RB, RS, fx9, p1, p2, p3, p4, reduceIte, p5, p6, p7, p8, c1, c2]
      refine CondH.mk (fun c3 => ?_) (fun c3 => ?_)
      · replace h := run_t c3 h
        simp -failIfUnchanged only [↓RA, RB, RS, fx9, p1, p2, p3, p4, reduceIte, p5, p6, p7, p8, c1, c2, c3]
        have h := run_some h
        obtain rfl : _ = r := h
        refine FinH.l ?_
        simp -failIfUnchanged only [↓RA, RB, RS, fx9, p1, p2, p3, p4, reduceIte, p5, p6, p7, p8, c1, c2, c3]
      · replace h := run_f c3 h
        simp -failIfUnchanged only [↓RA, RB, RS, fx9, p1, p2, p3, p4, reduceIte, p5, p6, p7, p8, c1, c2, c3]
        have h := run_some h
        obtain rfl : _ = r := h
        refine FinH.l ?_
        simp -failIfUnchanged only [↓RA, RB, RS, fx9, p1, p2, p3, p4, reduceIte, p5, p6, p7, p8, c1, c2, c3]
    · replace h := run_f c2 h
      simp -failIfUnchanged only [↓RA, RB, RS, fx9, p1, p2, p3, p4, reduceIte, p5, p6, p7, p8, c1, c2]
      have h := run_some h
      obtain rfl : _ = r := h
      refine FinH.l ?_
      simp -failIfUnchanged only [↓RA, RB, RS, fx9, p1, p2, p3, p4, reduceIte, p5, p6, p7, p8, c1, c2]
  · replace h := run_f c1 h
    simp -failIfUnchanged only [↓RA, RB, RS, fx9, p1, p2, p3, p4, reduceIte, p5, p6, p7, p8, c1]
    have h := run_some h
    obtain rfl : _ = r := h
    refine FinH.l ?_
    simp -failIfUnchanged only [↓RA, RB, RS, fx9, p1, p2, p3, p4, reduceIte, p5, p6, p7, p8, c1]

def fx39 := And.intro @ty_3 <| And.intro @zc_3 <| And.intro @z_3 <| And.intro @ty_5 <| And.intro @zc_5 <| And.intro @z_5 <| And.intro @ty_9 <| And.intro @zc_9 <| And.intro @z_9 <| And.intro @u_9 <| And.intro @ty_61 <| And.intro @zc_61 <| And.intro @z_61 <| And.intro @es_61 <| And.intro @eb_61 <| And.intro @sl_61 <| And.intro @by_61 <| And.intro @is_61 <| And.intro @el_61 <| And.intro @ze_61 <| And.intro @ez_61 <| And.intro @uk_3 <| And.intro @uk_5 <| @uk_9
set_option maxHeartbeats 4000000 in
theorem markText_sat {a0 : Int}  {r : ByteArray} (h : markText a0 = some r) : Sat Try.prog 39 [(I a0)] (Sx r) := by
  replace h := Run.of h
  unfold markText at h
  refine Sat.of_m (nt := 20) (rs := [.tmp 2]) (n := 100000) Try.func39 rfl rfl rfl rfl (by simp) ?_
  simp -failIfUnchanged only [↓RA, RB, RS, fx39, p1, p2, p3, p4, reduceIte, p5, p6, p7, p8]
  refine CondH.mk (fun c1 => ?_) (fun c1 => ?_)
  · replace h := run_t c1 h
    simp -failIfUnchanged only [↓RA, RB, RS, fx39, p1, p2, p3, p4, reduceIte, p5, p6, p7, p8, c1]
    have h := run_some h
    obtain rfl : _ = r := h
    refine FinH.l ?_
    simp -failIfUnchanged only [↓RA, RB, RS, fx39, p1, p2, p3, p4, reduceIte, p5, p6, p7, p8, c1]
  · replace h := run_f c1 h
    simp -failIfUnchanged only [↓RA, RB, RS, fx39, p1, p2, p3, p4, reduceIte, p5, p6, p7, p8, c1]
    replace h := run_loop h
    refine Mg.whileN h (fun s4 => [(0, .val (.pv (I s4.1))), (3, .val (.pv (Sx s4.2)))]) (fun s4 => []) (St.le_mk2 (by simp -failIfUnchanged only [↓RA, RB, RS, fx39, p1, p2, p3, p4, reduceIte, p5, p6, p7, p8, c1])) (fun n4 s4 h => ?_)
    simp -failIfUnchanged only [↓RA, RB, RS, fx39, p1, p2, p3, p4, reduceIte, p5, p6, p7, p8, c1]
    refine CondH.mk (fun c2 => ?_) (fun c2 => ?_)
    · replace h := run_t c2 h
      simp -failIfUnchanged only [↓RA, RB, RS, fx39, p1, p2, p3, p4, reduceIte, p5, p6, p7, p8, c1, c2]
      obtain ⟨v9, hv9, h⟩ := run_bind h
      refine remH.mk hv9 ?_
      simp -failIfUnchanged only [↓RA, RB, RS, fx39, p1, p2, p3, p4, reduceIte, p5, p6, p7, p8, c1, c2]
      repeat (first | with_reducible refine noR_and (by repeat (first | exact noR_empty _ _ | exact noR_nilS _ _ | refine noR_mk _ _ _ _ _ rfl ?_ | refine noR_mkS _ _ _ _ _ rfl ?_)) ?_ | with_reducible refine noC_and (by repeat (first | exact noC_empty _ _ (by simp -failIfUnchanged only [↓RA, RB, RS, fx39, p1, p2, p3, p4, reduceIte, p5, p6, p7, p8]) | exact noC_nilS _ _ (by simp -failIfUnchanged only [↓RA, RB, RS, fx39, p1, p2, p3, p4, reduceIte, p5, p6, p7, p8]) | refine noC_mk _ _ _ _ _ rfl ?_ | refine noC_mkS _ _ _ _ _ rfl ?_)) ?_ | with_reducible refine and_ac ?_ | with_reducible refine And.intro (a := _ = List.range _) (by rfl) ?_)
      obtain ⟨v13, hv13, h⟩ := run_bind h
      refine BstrH.mk hv13 ?_ ?_ <;> simp -failIfUnchanged only [↓RA, RB, RS, fx39, p1, p2, p3, p4, reduceIte, p5, p6, p7, p8, c1, c2]
      obtain ⟨v15, hv15, h⟩ := run_bind h
      refine SappH.mk hv15 ?_
      simp -failIfUnchanged only [↓RA, RB, RS, fx39, p1, p2, p3, p4, reduceIte, p5, p6, p7, p8, c1, c2]
      obtain ⟨v17, hv17, h⟩ := run_bind h
      refine quoH.mk hv17 ?_
      simp -failIfUnchanged only [↓RA, RB, RS, fx39, p1, p2, p3, p4, reduceIte, p5, p6, p7, p8, c1, c2]
      have h := run_some h
      refine RdH.mk ⟨_, h, ?_⟩
      refine St.le_mk2 ?_
      simp -failIfUnchanged only [↓RA, RB, RS, fx39, p1, p2, p3, p4, reduceIte, p5, p6, p7, p8, c1, c2]
    · replace h := run_f c2 h
      simp -failIfUnchanged only [↓RA, RB, RS, fx39, p1, p2, p3, p4, reduceIte, p5, p6, p7, p8, c1, c2]
      have h := run_some h
      obtain ⟨v19, hv19, h⟩ := run_bind h
      refine SappH.mk hv19 ?_
      simp -failIfUnchanged only [↓RA, RB, RS, fx39, p1, p2, p3, p4, reduceIte, p5, p6, p7, p8, c1, c2]
      have h := run_some h
      obtain rfl : _ = r := h
      refine FinH.l ?_
      simp -failIfUnchanged only [↓RA, RB, RS, fx39, p1, p2, p3, p4, reduceIte, p5, p6, p7, p8, c1, c2]

def fx24 := And.intro @ty_3 <| And.intro @zc_3 <| And.intro @z_3 <| And.intro @ty_9 <| And.intro @zc_9 <| And.intro @z_9 <| And.intro @u_9 <| And.intro @ty_22 <| And.intro @zc_22 <| And.intro @z_22 <| And.intro @es_22 <| And.intro @eb_22 <| And.intro @sl_22 <| And.intro @is_22 <| And.intro @el_22 <| And.intro @ze_22 <| @ez_22
set_option maxHeartbeats 4000000 in
theorem markStringS_sat {a0 : List ByteArray} {a1 : Int}  {r : Int × (List ByteArray)} (h : markStringS a0 a1 = some r) : SatIO Try.prog 24 [(.sl true 1 (a0.map Sx)), (I a1)] [(.sl true 1 (r.2.map Sx)), (I a1)] (I r.1) := by
  replace h := Run.of h
  unfold markStringS at h
  refine SatIO.of_m (nt := 20) (rs := [.tmp 4]) (n := 100000) Try.func24 rfl rfl rfl rfl (by simp) ?_
  simp -failIfUnchanged only [↓RA, ↓RI, RB, RJ, RS, fx24, p1, p2, p3, p4, reduceIte, p5, p6, p7, p8]
  replace h := run_loop h
  refine Mg.whileN h (fun s2 => [(0, .val (.own 10000)), (1, .val (.pv (I s2.2.1))), (5, .val (.pv (I s2.2.2)))]) (fun s2 => [(10000, (1, s2.1.map Sx))]) (St.le_mk2 (by simp -failIfUnchanged only [↓RA, ↓RI, RB, RJ, RS, fx24, p1, p2, p3, p4, reduceIte, p5, p6, p7, p8])) (fun n2 s2 h => ?_)
  simp -failIfUnchanged only [↓RA, ↓RI, RB, RJ, RS, fx24, p1, p2, p3, p4, reduceIte, p5, p6, p7, p8]
  refine CondH.mk (fun c1 => ?_) (fun c1 => ?_)
  · replace h := run_t c1 h
    simp -failIfUnchanged only [↓RA, ↓RI, RB, RJ, RS, fx24, p1, p2, p3, p4, reduceIte, p5, p6, p7, p8, c1]
    obtain ⟨v15, hv15, h⟩ := run_bind h
    refine CallH.mk [false] (markText_sat hv15) ?_ ?_ <;> simp -failIfUnchanged only [↓RA, ↓RI, RB, RJ, RS, fx24, p1, p2, p3, p4, reduceIte, p5, p6, p7, p8, c1]
    obtain ⟨v16, hv16, h⟩ := run_bind h
    refine IdxH.mk (f := Sx) hv16 ?_ ?_ <;> simp -failIfUnchanged only [↓RA, ↓RI, RB, RJ, RS, fx24, p1, p2, p3, p4, reduceIte, p5, p6, p7, p8, c1]
    obtain ⟨w2, hw2, h⟩ := run_bind h
    refine EldH.mk (f := Sx) hw2 rfl ?_ ?_ <;> simp -failIfUnchanged only [↓RA, ↓RI, RB, RJ, RS, fx24, p1, p2, p3, p4, reduceIte, p5, p6, p7, p8, c1]
    have h := run_some h
    refine RdH.mk ⟨_, h, ?_⟩
    refine St.le_mk2 ?_
    simp -failIfUnchanged only [↓RA, ↓RI, RB, RJ, RS, fx24, p1, p2, p3, p4, reduceIte, p5, p6, p7, p8, c1]
  · replace h := run_f c1 h
    simp -failIfUnchanged only [↓RA, ↓RI, RB, RJ, RS, fx24, p1, p2, p3, p4, reduceIte, p5, p6, p7, p8, c1]
    have h := run_some h
    have h := run_some h
    obtain rfl : _ = r := h
    refine FinIO.mk ?_
    simp -failIfUnchanged only [↓RA, ↓RI, RB, RJ, RS, fx24, p1, p2, p3, p4, reduceIte, p5, p6, p7, p8, c1]

def fx25 := And.intro @ty_3 <| And.intro @zc_3 <| And.intro @z_3 <| And.intro @ty_23 <| And.intro @zc_23 <| And.intro @z_23 <| And.intro @es_23 <| And.intro @eb_23 <| And.intro @sl_23 <| And.intro @is_23 <| And.intro @el_23 <| And.intro @ze_23 <| @ez_23
set_option maxHeartbeats 4000000 in
theorem markIntS_sat {a0 : List Int} {a1 : Int}  {r : Int × (List Int)} (h : markIntS a0 a1 = some r) : SatIO Try.prog 25 [(.sl true 1 (a0.map I)), (I a1)] [(.sl true 1 (r.2.map I)), (I a1)] (I r.1) := by
  replace h := Run.of h
  unfold markIntS at h
  refine SatIO.of_m (nt := 19) (rs := [.tmp 4]) (n := 100000) Try.func25 rfl rfl rfl rfl (by simp) ?_
  simp -failIfUnchanged only [↓RA, ↓RI, RB, RJ, RS, fx25, p1, p2, p3, p4, reduceIte, p5, p6, p7, p8]
  replace h := run_loop h
  refine Mg.whileN h (fun s2 => [(0, .val (.own 10000)), (1, .val (.pv (I s2.2.1))), (5, .val (.pv (I s2.2.2)))]) (fun s2 => [(10000, (1, s2.1.map I))]) (St.le_mk2 (by simp -failIfUnchanged only [↓RA, ↓RI, RB, RJ, RS, fx25, p1, p2, p3, p4, reduceIte, p5, p6, p7, p8])) (fun n2 s2 h => ?_)
  simp -failIfUnchanged only [↓RA, ↓RI, RB, RJ, RS, fx25, p1, p2, p3, p4, reduceIte, p5, p6, p7, p8]
  refine CondH.mk (fun c1 => ?_) (fun c1 => ?_)
  · replace h := run_t c1 h
    simp -failIfUnchanged only [↓RA, ↓RI, RB, RJ, RS, fx25, p1, p2, p3, p4, reduceIte, p5, p6, p7, p8, c1]
    obtain ⟨v15, hv15, h⟩ := run_bind h
    refine IdxH.mk (f := I) hv15 ?_ ?_ <;> simp -failIfUnchanged only [↓RA, ↓RI, RB, RJ, RS, fx25, p1, p2, p3, p4, reduceIte, p5, p6, p7, p8, c1]
    obtain ⟨w2, hw2, h⟩ := run_bind h
    refine EldH.mk (f := I) hw2 rfl ?_ ?_ <;> simp -failIfUnchanged only [↓RA, ↓RI, RB, RJ, RS, fx25, p1, p2, p3, p4, reduceIte, p5, p6, p7, p8, c1]
    have h := run_some h
    refine RdH.mk ⟨_, h, ?_⟩
    refine St.le_mk2 ?_
    simp -failIfUnchanged only [↓RA, ↓RI, RB, RJ, RS, fx25, p1, p2, p3, p4, reduceIte, p5, p6, p7, p8, c1]
  · replace h := run_f c1 h
    simp -failIfUnchanged only [↓RA, ↓RI, RB, RJ, RS, fx25, p1, p2, p3, p4, reduceIte, p5, p6, p7, p8, c1]
    have h := run_some h
    have h := run_some h
    obtain rfl : _ = r := h
    refine FinIO.mk ?_
    simp -failIfUnchanged only [↓RA, ↓RI, RB, RJ, RS, fx25, p1, p2, p3, p4, reduceIte, p5, p6, p7, p8, c1]

def fx10 := And.intro @ty_3 <| And.intro @zc_3 <| And.intro @z_3 <| And.intro @ty_22 <| And.intro @zc_22 <| And.intro @z_22 <| And.intro @es_22 <| And.intro @eb_22 <| And.intro @sl_22 <| And.intro @is_22 <| And.intro @el_22 <| And.intro @ze_22 <| And.intro @ez_22 <| And.intro @ty_23 <| And.intro @zc_23 <| And.intro @z_23 <| And.intro @es_23 <| And.intro @eb_23 <| And.intro @sl_23 <| And.intro @is_23 <| And.intro @el_23 <| And.intro @ze_23 <| And.intro @ez_23 <| And.intro @ty_27 <| And.intro @zc_27 <| And.intro @z_27 <| And.intro @fo_27_0 <| And.intro @fi_27_0 <| And.intro @ft_27_0 <| And.intro @fo_27_1 <| And.intro @fi_27_1 <| And.intro @ft_27_1 <| And.intro @fo_27_2 <| And.intro @fi_27_2 <| And.intro @ft_27_2 <| @lay_27
set_option maxHeartbeats 4000000 in
theorem markLinear_sat {a0 : Linear} {a1 : Int}  {r : Int × (List ByteArray) × (List Int)} (h : markLinear a0 a1 = some r) : SatIO Try.prog 10 [((Linear.pv true) a0), (I a1)] [((Linear.pv true) (Linear.mk r.2.1 r.2.2 a0.Constant)), (I a1)] (I r.1) := by
  replace h := Run.of h
  unfold markLinear at h
  refine SatIO.of_m (nt := 14) (rs := [.tmp 4]) (n := 100000) Try.func10 rfl rfl rfl rfl (by simp) ?_
  simp -failIfUnchanged only [↓RA, ↓RI, RB, RJ, RS, fx10, p1, p2, p3, p4, reduceIte, p5, p6, p7, p8]
  repeat (first | with_reducible refine noR_and (by repeat (first | exact noR_empty _ _ | exact noR_nilS _ _ | refine noR_mk _ _ _ _ _ rfl ?_ | refine noR_mkS _ _ _ _ _ rfl ?_)) ?_ | with_reducible refine noC_and (by repeat (first | exact noC_empty _ _ (by simp -failIfUnchanged only [↓RA, ↓RI, RB, RJ, RS, fx10, p1, p2, p3, p4, reduceIte, p5, p6, p7, p8]) | exact noC_nilS _ _ (by simp -failIfUnchanged only [↓RA, ↓RI, RB, RJ, RS, fx10, p1, p2, p3, p4, reduceIte, p5, p6, p7, p8]) | refine noC_mk _ _ _ _ _ rfl ?_ | refine noC_mkS _ _ _ _ _ rfl ?_)) ?_ | with_reducible refine and_ac ?_ | with_reducible refine And.intro (a := _ = List.range _) (by rfl) ?_)
  obtain ⟨v8, hv8, h⟩ := run_bind h
  refine CallH.io [(.own 10000), (.pv (I a1))] [(10000, (1, v8.2.map Sx))] (markStringS_sat hv8) ?_ ?_ <;> simp -failIfUnchanged only [↓RA, ↓RI, RB, RJ, RS, fx10, p1, p2, p3, p4, reduceIte, p5, p6, p7, p8]
  obtain ⟨v12, hv12, h⟩ := run_bind h
  refine CallH.io [(.own 10001), (.pv (I v8.1))] [(10001, (1, v12.2.map I))] (markIntS_sat hv12) ?_ ?_ <;> simp -failIfUnchanged only [↓RA, ↓RI, RB, RJ, RS, fx10, p1, p2, p3, p4, reduceIte, p5, p6, p7, p8]
  have h := run_some h
  obtain rfl : _ = r := h
  refine FinIO.mk ?_
  simp -failIfUnchanged only [↓RA, ↓RI, RB, RJ, RS, fx10, p1, p2, p3, p4, reduceIte, p5, p6, p7, p8]

def fx26 := And.intro @ty_3 <| And.intro @zc_3 <| And.intro @z_3 <| And.intro @ty_9 <| And.intro @zc_9 <| And.intro @z_9 <| And.intro @u_9 <| And.intro @ty_22 <| And.intro @zc_22 <| And.intro @z_22 <| And.intro @es_22 <| And.intro @eb_22 <| And.intro @sl_22 <| And.intro @is_22 <| And.intro @el_22 <| And.intro @ze_22 <| And.intro @ez_22 <| @mixedT
set_option maxHeartbeats 4000000 in
theorem heldStringS_sat {a0 : List ByteArray} {a1 : Int}  {r : Int} (h : heldStringS a0 a1 = some r) : Sat Try.prog 26 [(.sl false 1 (a0.map Sx)), (I a1)] (I r) := by
  replace h := Run.of h
  unfold heldStringS at h
  refine Sat.of_m (nt := 22) (rs := [.tmp 4]) (n := 100000) Try.func26 rfl rfl rfl rfl (by simp) ?_
  simp -failIfUnchanged only [↓RA, RB, RS, fx26, p1, p2, p3, p4, reduceIte, p5, p6, p7, p8]
  refine Mg.know_sl (b := false) (sz := 1) (es := a0.map Sx) 0 (by simp -failIfUnchanged only [↓RA, RB, RS, fx26, p1, p2, p3, p4, reduceIte, p5, p6, p7, p8]) fun hl0 => ?_; rw [List.length_map] at hl0
  replace h := run_loop h
  refine Mg.forN h (fun i2 s2 => [(0, .val (.pv (.sl false 1 (a0.map Sx)))), (1, .val (.pv (I s2))), (5, .val (.pv (I (i2 : Int))))]) (fun i2 s2 => []) (St.le_mk2 (by simp -failIfUnchanged only [↓RA, RB, RS, fx26, p1, p2, p3, p4, reduceIte, p5, p6, p7, p8])) (fun i2 s2 hi h => ?_) (fun s2 h => ?_)
  · have w2 := wrap_succ (i := i2) (by omega)
    simp -failIfUnchanged only [↓RA, RB, RS, fx26, p1, p2, p3, p4, reduceIte, p5, p6, p7, p8]
    refine CondH.tt (decide_eq_true (by omega)) (fun c1 => ?_)
    simp -failIfUnchanged only [↓RA, RB, RS, fx26, p1, p2, p3, p4, reduceIte, p5, p6, p7, p8, c1]
    obtain ⟨v14, hv14, h⟩ := run_bind h
    refine IdxH.mk (f := Sx) hv14 ?_ ?_ <;> simp -failIfUnchanged only [↓RA, RB, RS, fx26, p1, p2, p3, p4, reduceIte, p5, p6, p7, p8, c1]
    obtain ⟨v17, hv17, h⟩ := run_bind h
    refine CallH.mk [false] (markText_sat hv17) ?_ ?_ <;> simp -failIfUnchanged only [↓RA, RB, RS, fx26, p1, p2, p3, p4, reduceIte, p5, p6, p7, p8, c1]
    refine And.intro (DrawH.none (by rfl) (by first | rfl | (simp -failIfUnchanged only [↓RA, RB, RS, fx26, p1, p2, p3, p4, reduceIte, p5, p6, p7, p8] <;> rfl)) (by first | rfl | (simp -failIfUnchanged only [↓RA, RB, RS, fx26, p1, p2, p3, p4, reduceIte, p5, p6, p7, p8] <;> rfl)) (by first | rfl | (simp -failIfUnchanged only [↓RA, RB, RS, fx26, p1, p2, p3, p4, reduceIte, p5, p6, p7, p8] <;> rfl))) ?_
    simp -failIfUnchanged only [↓RA, RB, RS, fx26, p1, p2, p3, p4, reduceIte, p5, p6, p7, p8, c1]
    refine CondH.mk (fun c2 => ?_) (fun c2 => ?_)
    · replace h := run_t c2 h
      simp -failIfUnchanged only [↓RA, RB, RS, fx26, p1, p2, p3, p4, reduceIte, p5, p6, p7, p8, c1, c2]
      have h := run_some h
      refine RdH.mk ⟨_, h, ?_⟩
      refine St.le_mk2 ?_
      simp -failIfUnchanged only [↓RA, RB, RS, fx26, p1, p2, p3, p4, reduceIte, p5, p6, p7, p8, c1, c2, w2]
    · replace h := run_f c2 h
      simp -failIfUnchanged only [↓RA, RB, RS, fx26, p1, p2, p3, p4, reduceIte, p5, p6, p7, p8, c1, c2]
      have h := run_some h
      obtain rfl : _ = r := h
      refine FinH.l ?_
      simp -failIfUnchanged only [↓RA, RB, RS, fx26, p1, p2, p3, p4, reduceIte, p5, p6, p7, p8, c1, c2]
  · simp -failIfUnchanged only [↓RA, RB, RS, fx26, p1, p2, p3, p4, reduceIte, p5, p6, p7, p8]
    refine CondH.ff (decide_eq_false (by omega)) (fun c3 => ?_)
    simp -failIfUnchanged only [↓RA, RB, RS, fx26, p1, p2, p3, p4, reduceIte, p5, p6, p7, p8, c3]
    have h := run_some h
    obtain rfl : _ = r := h
    refine FinH.l ?_
    simp -failIfUnchanged only [↓RA, RB, RS, fx26, p1, p2, p3, p4, reduceIte, p5, p6, p7, p8, c3]

def fx27 := And.intro @ty_3 <| And.intro @zc_3 <| And.intro @z_3 <| And.intro @ty_23 <| And.intro @zc_23 <| And.intro @z_23 <| And.intro @es_23 <| And.intro @eb_23 <| And.intro @sl_23 <| And.intro @is_23 <| And.intro @el_23 <| And.intro @ze_23 <| @ez_23
set_option maxHeartbeats 4000000 in
theorem heldIntS_sat {a0 : List Int} {a1 : Int}  {r : Int} (h : heldIntS a0 a1 = some r) : Sat Try.prog 27 [(.sl false 1 (a0.map I)), (I a1)] (I r) := by
  replace h := Run.of h
  unfold heldIntS at h
  refine Sat.of_m (nt := 21) (rs := [.tmp 4]) (n := 100000) Try.func27 rfl rfl rfl rfl (by simp) ?_
  simp -failIfUnchanged only [↓RA, RB, RS, fx27, p1, p2, p3, p4, reduceIte, p5, p6, p7, p8]
  refine Mg.know_sl (b := false) (sz := 1) (es := a0.map I) 0 (by simp -failIfUnchanged only [↓RA, RB, RS, fx27, p1, p2, p3, p4, reduceIte, p5, p6, p7, p8]) fun hl0 => ?_; rw [List.length_map] at hl0
  replace h := run_loop h
  refine Mg.forN h (fun i2 s2 => [(0, .val (.pv (.sl false 1 (a0.map I)))), (1, .val (.pv (I s2))), (5, .val (.pv (I (i2 : Int))))]) (fun i2 s2 => []) (St.le_mk2 (by simp -failIfUnchanged only [↓RA, RB, RS, fx27, p1, p2, p3, p4, reduceIte, p5, p6, p7, p8])) (fun i2 s2 hi h => ?_) (fun s2 h => ?_)
  · have w2 := wrap_succ (i := i2) (by omega)
    simp -failIfUnchanged only [↓RA, RB, RS, fx27, p1, p2, p3, p4, reduceIte, p5, p6, p7, p8]
    refine CondH.tt (decide_eq_true (by omega)) (fun c1 => ?_)
    simp -failIfUnchanged only [↓RA, RB, RS, fx27, p1, p2, p3, p4, reduceIte, p5, p6, p7, p8, c1]
    obtain ⟨v14, hv14, h⟩ := run_bind h
    refine IdxH.mk (f := I) hv14 ?_ ?_ <;> simp -failIfUnchanged only [↓RA, RB, RS, fx27, p1, p2, p3, p4, reduceIte, p5, p6, p7, p8, c1]
    refine CondH.mk (fun c2 => ?_) (fun c2 => ?_)
    · replace h := run_t c2 h
      simp -failIfUnchanged only [↓RA, RB, RS, fx27, p1, p2, p3, p4, reduceIte, p5, p6, p7, p8, c1, c2]
      have h := run_some h
      refine RdH.mk ⟨_, h, ?_⟩
      refine St.le_mk2 ?_
      simp -failIfUnchanged only [↓RA, RB, RS, fx27, p1, p2, p3, p4, reduceIte, p5, p6, p7, p8, c1, c2, w2]
    · replace h := run_f c2 h
      simp -failIfUnchanged only [↓RA, RB, RS, fx27, p1, p2, p3, p4, reduceIte, p5, p6, p7, p8, c1, c2]
      have h := run_some h
      obtain rfl : _ = r := h
      refine FinH.l ?_
      simp -failIfUnchanged only [↓RA, RB, RS, fx27, p1, p2, p3, p4, reduceIte, p5, p6, p7, p8, c1, c2]
  · simp -failIfUnchanged only [↓RA, RB, RS, fx27, p1, p2, p3, p4, reduceIte, p5, p6, p7, p8]
    refine CondH.ff (decide_eq_false (by omega)) (fun c3 => ?_)
    simp -failIfUnchanged only [↓RA, RB, RS, fx27, p1, p2, p3, p4, reduceIte, p5, p6, p7, p8, c3]
    have h := run_some h
    obtain rfl : _ = r := h
    refine FinH.l ?_
    simp -failIfUnchanged only [↓RA, RB, RS, fx27, p1, p2, p3, p4, reduceIte, p5, p6, p7, p8, c3]

def fx11 := And.intro @ty_3 <| And.intro @zc_3 <| And.intro @z_3 <| And.intro @ty_22 <| And.intro @zc_22 <| And.intro @z_22 <| And.intro @es_22 <| And.intro @eb_22 <| And.intro @sl_22 <| And.intro @is_22 <| And.intro @el_22 <| And.intro @ze_22 <| And.intro @ez_22 <| And.intro @ty_23 <| And.intro @zc_23 <| And.intro @z_23 <| And.intro @es_23 <| And.intro @eb_23 <| And.intro @sl_23 <| And.intro @is_23 <| And.intro @el_23 <| And.intro @ze_23 <| And.intro @ez_23 <| And.intro @ty_27 <| And.intro @zc_27 <| And.intro @z_27 <| And.intro @fo_27_0 <| And.intro @fi_27_0 <| And.intro @ft_27_0 <| And.intro @fo_27_1 <| And.intro @fi_27_1 <| And.intro @ft_27_1 <| And.intro @fo_27_2 <| And.intro @fi_27_2 <| And.intro @ft_27_2 <| @lay_27
set_option maxHeartbeats 4000000 in
theorem heldLinear_sat {a0 : Linear} {a1 : Int}  {r : Int} (h : heldLinear a0 a1 = some r) : Sat Try.prog 11 [((Linear.pv false) a0), (I a1)] (I r) := by
  replace h := Run.of h
  unfold heldLinear at h
  refine Sat.of_m (nt := 18) (rs := [.tmp 4]) (n := 100000) Try.func11 rfl rfl rfl rfl (by simp) ?_
  simp -failIfUnchanged only [↓RA, RB, RS, fx11, p1, p2, p3, p4, reduceIte, p5, p6, p7, p8]
  repeat (first | with_reducible refine noR_and (by repeat (first | exact noR_empty _ _ | exact noR_nilS _ _ | refine noR_mk _ _ _ _ _ rfl ?_ | refine noR_mkS _ _ _ _ _ rfl ?_)) ?_ | with_reducible refine noC_and (by repeat (first | exact noC_empty _ _ (by simp -failIfUnchanged only [↓RA, RB, RS, fx11, p1, p2, p3, p4, reduceIte, p5, p6, p7, p8]) | exact noC_nilS _ _ (by simp -failIfUnchanged only [↓RA, RB, RS, fx11, p1, p2, p3, p4, reduceIte, p5, p6, p7, p8]) | refine noC_mk _ _ _ _ _ rfl ?_ | refine noC_mkS _ _ _ _ _ rfl ?_)) ?_ | with_reducible refine and_ac ?_ | with_reducible refine And.intro (a := _ = List.range _) (by rfl) ?_)
  obtain ⟨v8, hv8, h⟩ := run_bind h
  refine CallH.mk [false, false] (heldStringS_sat hv8) ?_ ?_ <;> simp -failIfUnchanged only [↓RA, RB, RS, fx11, p1, p2, p3, p4, reduceIte, p5, p6, p7, p8]
  refine CondH.mk (fun c1 => ?_) (fun c1 => ?_)
  · replace h := run_t c1 h
    simp -failIfUnchanged only [↓RA, RB, RS, fx11, p1, p2, p3, p4, reduceIte, p5, p6, p7, p8, c1]
    have h := run_some h
    obtain rfl : _ = r := h
    refine FinH.l ?_
    simp -failIfUnchanged only [↓RA, RB, RS, fx11, p1, p2, p3, p4, reduceIte, p5, p6, p7, p8, c1]
  · replace h := run_f c1 h
    simp -failIfUnchanged only [↓RA, RB, RS, fx11, p1, p2, p3, p4, reduceIte, p5, p6, p7, p8, c1]
    obtain ⟨v14, hv14, h⟩ := run_bind h
    refine CallH.mk [false, false] (heldIntS_sat hv14) ?_ ?_ <;> simp -failIfUnchanged only [↓RA, RB, RS, fx11, p1, p2, p3, p4, reduceIte, p5, p6, p7, p8, c1]
    refine CondH.mk (fun c2 => ?_) (fun c2 => ?_)
    · replace h := run_t c2 h
      simp -failIfUnchanged only [↓RA, RB, RS, fx11, p1, p2, p3, p4, reduceIte, p5, p6, p7, p8, c1, c2]
      have h := run_some h
      obtain rfl : _ = r := h
      refine FinH.l ?_
      simp -failIfUnchanged only [↓RA, RB, RS, fx11, p1, p2, p3, p4, reduceIte, p5, p6, p7, p8, c1, c2]
    · replace h := run_f c2 h
      simp -failIfUnchanged only [↓RA, RB, RS, fx11, p1, p2, p3, p4, reduceIte, p5, p6, p7, p8, c1, c2]
      have h := run_some h
      obtain rfl : _ = r := h
      refine FinH.l ?_
      simp -failIfUnchanged only [↓RA, RB, RS, fx11, p1, p2, p3, p4, reduceIte, p5, p6, p7, p8, c1, c2]

end Go.Proofs.Ytgbddapcjhgllaa
