/- A part of the proof: lemmas only; nothing is claimed here beyond what each lemma says. -/
import Derived.Test.YtgbddapcjhgllaaGreatGw0
set_option linter.unusedSimpArgs false
set_option linter.unusedVariables false
set_option linter.defProp false
set_option maxRecDepth 4000
namespace Go.Proofs.YtgbddapcjhgllaaGreat
open Go.Av
open Nat renaming reduceLT → p1, reduceAdd → p2, reduceMul → p3, reduceEqDiff → p4, reduceBEq → p5, reduceLeDiff → p6, reduceSub → p7
open Int renaming reduceToNat → p8
def fx77 := And.intro @ty_3 <| And.intro @zc_3 <| And.intro @z_3 <| And.intro @ty_36 <| And.intro @zc_36 <| And.intro @z_36 <| And.intro @es_36 <| And.intro @eb_36 <| And.intro @sl_36 <| And.intro @is_36 <| And.intro @el_36 <| And.intro @ze_36 <| And.intro @ez_36 <| And.intro @ty_38 <| And.intro @zc_38 <| And.intro @z_38 <| And.intro @fo_38_0 <| And.intro @fi_38_0 <| And.intro @ft_38_0 <| And.intro @fo_38_1 <| And.intro @fi_38_1 <| And.intro @ft_38_1 <| @lay_38
set_option maxHeartbeats 4000000 in
theorem impl_sizeN_sat (n : Nat) : (∀ (a0 : Term) (r : Int), impl_sizeN n a0 = some r → Sat Tryz.prog 77 [((Term.pv false) a0)] (I r)) := by
  induction n with
  | zero => exact fun _ _ h => by simp [impl_sizeN] at h
  | succ n ih =>
    refine fun a0 r h => ?_
    replace h := Run.of h
    rw [impl_sizeN] at h
    refine Sat.of_m (nt := 22) (rs := [.tmp 2]) (n := 100000) Tryz.func77 rfl rfl rfl rfl (by simp) ?_
    simp -failIfUnchanged only [↓RA, RB, RS, fx77, p1, p2, p3, p4, reduceIte, p5, p6, p7, p8]
    repeat (first | with_reducible refine noR_and (by repeat (first | exact noR_empty _ _ | exact noR_nilS _ _ | refine noR_mk _ _ _ _ _ rfl ?_ | refine noR_mkS _ _ _ _ _ rfl ?_)) ?_ | with_reducible refine noC_and (by repeat (first | exact noC_empty _ _ (by simp -failIfUnchanged only [↓RA, RB, RS, fx77, p1, p2, p3, p4, reduceIte, p5, p6, p7, p8]) | exact noC_nilS _ _ (by simp -failIfUnchanged only [↓RA, RB, RS, fx77, p1, p2, p3, p4, reduceIte, p5, p6, p7, p8]) | refine noC_mk _ _ _ _ _ rfl ?_ | refine noC_mkS _ _ _ _ _ rfl ?_)) ?_ | with_reducible refine and_ac ?_ | with_reducible refine And.intro (a := _ = List.range _) (by rfl) ?_)
    refine Mg.know_sl (b := false) (sz := 2) (es := a0.Args.map (Term.pv false)) 7 (by simp -failIfUnchanged only [↓RA, RB, RS, fx77, p1, p2, p3, p4, reduceIte, p5, p6, p7, p8]) fun hl7 => ?_; rw [List.length_map] at hl7
    replace h := run_loop h
    refine Mg.forN h (fun i3 s3 => [(3, .val (.pv (I s3))), (7, .val (.pv (.sl false 2 (a0.Args.map (Term.pv false))))), (8, .val (.pv (I (a0.Args.length : Int)))), (9, .val (.pv (I (i3 : Int))))]) (fun i3 s3 => []) (St.le_mk2 (by simp -failIfUnchanged only [↓RA, RB, RS, fx77, p1, p2, p3, p4, reduceIte, p5, p6, p7, p8])) (fun i3 s3 hi h => ?_) (fun s3 h => ?_)
    · have w3 := wrap_succ (i := i3) (by omega)
      simp -failIfUnchanged only [↓RA, RB, RS, fx77, p1, p2, p3, p4, reduceIte, p5, p6, p7, p8]
      refine CondH.tt (decide_eq_true (by omega)) (fun c1 => ?_)
      simp -failIfUnchanged only [↓RA, RB, RS, fx77, p1, p2, p3, p4, reduceIte, p5, p6, p7, p8, c1]
      obtain ⟨v11, hv11, h⟩ := run_bind h
      refine IdxH.mk (f := (Term.pv false)) hv11 ?_ ?_ <;> simp -failIfUnchanged only [↓RA, RB, RS, fx77, p1, p2, p3, p4, reduceIte, p5, p6, p7, p8, c1]
      repeat (first | with_reducible refine noR_and (by repeat (first | exact noR_empty _ _ | exact noR_nilS _ _ | refine noR_mk _ _ _ _ _ rfl ?_ | refine noR_mkS _ _ _ _ _ rfl ?_)) ?_ | with_reducible refine noC_and (by repeat (first | exact noC_empty _ _ (by simp -failIfUnchanged only [↓RA, RB, RS, fx77, p1, p2, p3, p4, reduceIte, p5, p6, p7, p8]) | exact noC_nilS _ _ (by simp -failIfUnchanged only [↓RA, RB, RS, fx77, p1, p2, p3, p4, reduceIte, p5, p6, p7, p8]) | refine noC_mk _ _ _ _ _ rfl ?_ | refine noC_mkS _ _ _ _ _ rfl ?_)) ?_ | with_reducible refine and_ac ?_ | with_reducible refine And.intro (a := _ = List.range _) (by rfl) ?_)
      refine CondH.mk (fun c2 => ?_) (fun c2 => ?_)
      · replace h := run_t c2 h
        simp -failIfUnchanged only [↓RA, RB, RS, fx77, p1, p2, p3, p4, reduceIte, p5, p6, p7, p8, c1, c2]
        have h := run_some h
        obtain rfl : _ = r := h
        refine FinH.l ?_
        simp -failIfUnchanged only [↓RA, RB, RS, fx77, p1, p2, p3, p4, reduceIte, p5, p6, p7, p8, c1, c2]
      · replace h := run_f c2 h
        simp -failIfUnchanged only [↓RA, RB, RS, fx77, p1, p2, p3, p4, reduceIte, p5, p6, p7, p8, c1, c2]
        obtain ⟨v18, hv18, h⟩ := run_bind h
        refine CallH.mk [false] (ih _ _ hv18) ?_ ?_ <;> simp -failIfUnchanged only [↓RA, RB, RS, fx77, p1, p2, p3, p4, reduceIte, p5, p6, p7, p8, c1, c2]
        have h := run_some h
        refine RdH.mk ⟨_, h, ?_⟩
        refine St.le_mk2 ?_
        simp -failIfUnchanged only [↓RA, RB, RS, fx77, p1, p2, p3, p4, reduceIte, p5, p6, p7, p8, c1, c2, w3]
    · simp -failIfUnchanged only [↓RA, RB, RS, fx77, p1, p2, p3, p4, reduceIte, p5, p6, p7, p8]
      refine CondH.ff (decide_eq_false (by omega)) (fun c3 => ?_)
      simp -failIfUnchanged only [↓RA, RB, RS, fx77, p1, p2, p3, p4, reduceIte, p5, p6, p7, p8, c3]
      have h := run_some h
      obtain rfl : _ = r := h
      refine FinH.l ?_
      simp -failIfUnchanged only [↓RA, RB, RS, fx77, p1, p2, p3, p4, reduceIte, p5, p6, p7, p8, c3]
theorem impl_size_sat {a0 : Term} {r : Int} (h : impl_size a0 = some r) : Sat Tryz.prog 77 [((Term.pv false) a0)] (I r) := by
  obtain ⟨n, hn⟩ := lim_some h
  exact (impl_sizeN_sat n) _ _ hn

def fx78 := And.intro @ty_3 <| And.intro @zc_3 <| And.intro @z_3 <| And.intro @ty_36 <| And.intro @zc_36 <| And.intro @z_36 <| And.intro @es_36 <| And.intro @eb_36 <| And.intro @sl_36 <| And.intro @is_36 <| And.intro @el_36 <| And.intro @ze_36 <| And.intro @ez_36 <| And.intro @ty_38 <| And.intro @zc_38 <| And.intro @z_38 <| And.intro @fo_38_0 <| And.intro @fi_38_0 <| And.intro @ft_38_0 <| And.intro @fo_38_1 <| And.intro @fi_38_1 <| And.intro @ft_38_1 <| @lay_38
set_option maxHeartbeats 4000000 in
theorem impl_depthN_sat (n : Nat) : (∀ (a0 : Term) (r : Int), impl_depthN n a0 = some r → Sat Tryz.prog 78 [((Term.pv false) a0)] (I r)) := by
  induction n with
  | zero => exact fun _ _ h => by simp [impl_depthN] at h
  | succ n ih =>
    refine fun a0 r h => ?_
    replace h := Run.of h
    rw [impl_depthN] at h
    refine Sat.of_m (nt := 20) (rs := [.tmp 2]) (n := 100000) Tryz.func78 rfl rfl rfl rfl (by simp) ?_
    simp -failIfUnchanged only [↓RA, RB, RS, fx78, p1, p2, p3, p4, reduceIte, p5, p6, p7, p8]
    repeat (first | with_reducible refine noR_and (by repeat (first | exact noR_empty _ _ | exact noR_nilS _ _ | refine noR_mk _ _ _ _ _ rfl ?_ | refine noR_mkS _ _ _ _ _ rfl ?_)) ?_ | with_reducible refine noC_and (by repeat (first | exact noC_empty _ _ (by simp -failIfUnchanged only [↓RA, RB, RS, fx78, p1, p2, p3, p4, reduceIte, p5, p6, p7, p8]) | exact noC_nilS _ _ (by simp -failIfUnchanged only [↓RA, RB, RS, fx78, p1, p2, p3, p4, reduceIte, p5, p6, p7, p8]) | refine noC_mk _ _ _ _ _ rfl ?_ | refine noC_mkS _ _ _ _ _ rfl ?_)) ?_ | with_reducible refine and_ac ?_ | with_reducible refine And.intro (a := _ = List.range _) (by rfl) ?_)
    refine Mg.know_sl (b := false) (sz := 2) (es := a0.Args.map (Term.pv false)) 7 (by simp -failIfUnchanged only [↓RA, RB, RS, fx78, p1, p2, p3, p4, reduceIte, p5, p6, p7, p8]) fun hl7 => ?_; rw [List.length_map] at hl7
    replace h := run_loop h
    refine Mg.forN h (fun i3 s3 => [(3, .val (.pv (I s3))), (7, .val (.pv (.sl false 2 (a0.Args.map (Term.pv false))))), (8, .val (.pv (I (a0.Args.length : Int)))), (9, .val (.pv (I (i3 : Int))))]) (fun i3 s3 => []) (St.le_mk2 (by simp -failIfUnchanged only [↓RA, RB, RS, fx78, p1, p2, p3, p4, reduceIte, p5, p6, p7, p8])) (fun i3 s3 hi h => ?_) (fun s3 h => ?_)
    · have w3 := wrap_succ (i := i3) (by omega)
      simp -failIfUnchanged only [↓RA, RB, RS, fx78, p1, p2, p3, p4, reduceIte, p5, p6, p7, p8]
      refine CondH.tt (decide_eq_true (by omega)) (fun c1 => ?_)
      simp -failIfUnchanged only [↓RA, RB, RS, fx78, p1, p2, p3, p4, reduceIte, p5, p6, p7, p8, c1]
      obtain ⟨v11, hv11, h⟩ := run_bind h
      refine IdxH.mk (f := (Term.pv false)) hv11 ?_ ?_ <;> simp -failIfUnchanged only [↓RA, RB, RS, fx78, p1, p2, p3, p4, reduceIte, p5, p6, p7, p8, c1]
      repeat (first | with_reducible refine noR_and (by repeat (first | exact noR_empty _ _ | exact noR_nilS _ _ | refine noR_mk _ _ _ _ _ rfl ?_ | refine noR_mkS _ _ _ _ _ rfl ?_)) ?_ | with_reducible refine noC_and (by repeat (first | exact noC_empty _ _ (by simp -failIfUnchanged only [↓RA, RB, RS, fx78, p1, p2, p3, p4, reduceIte, p5, p6, p7, p8]) | exact noC_nilS _ _ (by simp -failIfUnchanged only [↓RA, RB, RS, fx78, p1, p2, p3, p4, reduceIte, p5, p6, p7, p8]) | refine noC_mk _ _ _ _ _ rfl ?_ | refine noC_mkS _ _ _ _ _ rfl ?_)) ?_ | with_reducible refine and_ac ?_ | with_reducible refine And.intro (a := _ = List.range _) (by rfl) ?_)
      obtain ⟨v15, hv15, h⟩ := run_bind h
      refine CallH.mk [false] (ih _ _ hv15) ?_ ?_ <;> simp -failIfUnchanged only [↓RA, RB, RS, fx78, p1, p2, p3, p4, reduceIte, p5, p6, p7, p8, c1]
      have h := run_some h
      refine RdH.mk ⟨_, h, ?_⟩
      refine St.le_mk2 ?_
      simp -failIfUnchanged only [↓RA, RB, RS, fx78, p1, p2, p3, p4, reduceIte, p5, p6, p7, p8, c1, w3]
    · simp -failIfUnchanged only [↓RA, RB, RS, fx78, p1, p2, p3, p4, reduceIte, p5, p6, p7, p8]
      refine CondH.ff (decide_eq_false (by omega)) (fun c2 => ?_)
      simp -failIfUnchanged only [↓RA, RB, RS, fx78, p1, p2, p3, p4, reduceIte, p5, p6, p7, p8, c2]
      have h := run_some h
      obtain rfl : _ = r := h
      refine FinH.l ?_
      simp -failIfUnchanged only [↓RA, RB, RS, fx78, p1, p2, p3, p4, reduceIte, p5, p6, p7, p8, c2]
theorem impl_depth_sat {a0 : Term} {r : Int} (h : impl_depth a0 = some r) : Sat Tryz.prog 78 [((Term.pv false) a0)] (I r) := by
  obtain ⟨n, hn⟩ := lim_some h
  exact (impl_depthN_sat n) _ _ hn

def fx57 := And.intro @ty_3 <| And.intro @zc_3 <| And.intro @z_3 <| And.intro @ty_38 <| And.intro @zc_38 <| And.intro @z_38 <| And.intro @fo_38_0 <| And.intro @fi_38_0 <| And.intro @ft_38_0 <| And.intro @fo_38_1 <| And.intro @fi_38_1 <| And.intro @ft_38_1 <| @lay_38
set_option maxHeartbeats 4000000 in
theorem impl_isSmall_sat {a0 : Term}  {r : Bool} (h : impl_isSmall a0 = some r) : Sat Tryz.prog 57 [((Term.pv false) a0)] (B r) := by
  replace h := Run.of h
  unfold impl_isSmall at h
  refine Sat.of_m (nt := 11) (rs := [.tmp 2]) (n := 100000) Tryz.func57 rfl rfl rfl rfl (by simp) ?_
  simp -failIfUnchanged only [↓RA, RB, RS, fx57, p1, p2, p3, p4, reduceIte, p5, p6, p7, p8]
  repeat (first | with_reducible refine noR_and (by repeat (first | exact noR_empty _ _ | exact noR_nilS _ _ | refine noR_mk _ _ _ _ _ rfl ?_ | refine noR_mkS _ _ _ _ _ rfl ?_)) ?_ | with_reducible refine noC_and (by repeat (first | exact noC_empty _ _ (by simp -failIfUnchanged only [↓RA, RB, RS, fx57, p1, p2, p3, p4, reduceIte, p5, p6, p7, p8]) | exact noC_nilS _ _ (by simp -failIfUnchanged only [↓RA, RB, RS, fx57, p1, p2, p3, p4, reduceIte, p5, p6, p7, p8]) | refine noC_mk _ _ _ _ _ rfl ?_ | refine noC_mkS _ _ _ _ _ rfl ?_)) ?_ | with_reducible refine and_ac ?_ | with_reducible refine And.intro (a := _ = List.range _) (by rfl) ?_)
  obtain ⟨v4, hv4, h⟩ := run_bind h
  refine CallH.mk [false] (impl_size_sat hv4) ?_ ?_ <;> simp -failIfUnchanged only [↓RA, RB, RS, fx57, p1, p2, p3, p4, reduceIte, p5, p6, p7, p8]
  refine CondH.mk (fun c1 => ?_) (fun c1 => ?_)
  · replace h := run_t c1 h
    simp -failIfUnchanged only [↓RA, RB, RS, fx57, p1, p2, p3, p4, reduceIte, p5, p6, p7, p8, c1]
    obtain ⟨v8, hv8, h⟩ := run_bind h
    refine CallH.mk [false] (impl_depth_sat hv8) ?_ ?_ <;> simp -failIfUnchanged only [↓RA, RB, RS, fx57, p1, p2, p3, p4, reduceIte, p5, p6, p7, p8, c1]
    have h := run_some h
    obtain rfl : _ = r := h
    refine FinH.l ?_
    simp -failIfUnchanged only [↓RA, RB, RS, fx57, p1, p2, p3, p4, reduceIte, p5, p6, p7, p8, c1]
  · replace h := run_f c1 h
    simp -failIfUnchanged only [↓RA, RB, RS, fx57, p1, p2, p3, p4, reduceIte, p5, p6, p7, p8, c1]
    have h := run_some h
    obtain rfl : _ = r := h
    refine FinH.l ?_
    simp -failIfUnchanged only [↓RA, RB, RS, fx57, p1, p2, p3, p4, reduceIte, p5, p6, p7, p8, c1]

def fx82 := And.intro @ty_5 <| And.intro @zc_5 <| @z_5
set_option maxHeartbeats 4000000 in
theorem impl_isUpper_sat {a0 : Int}  {r : Bool} (h : impl_isUpper a0 = some r) : Sat Tryz.prog 82 [((Ik .u8) a0)] (B r) := by
  replace h := Run.of h
  unfold impl_isUpper at h
  refine Sat.of_m (nt := 9) (rs := [.tmp 2]) (n := 100000) Tryz.func82 rfl rfl rfl rfl (by simp) ?_
  simp -failIfUnchanged only [↓RA, RB, RS, fx82, p1, p2, p3, p4, reduceIte, p5, p6, p7, p8]
  refine CondH.mk (fun c1 => ?_) (fun c1 => ?_)
  · replace h := run_t c1 h
    simp -failIfUnchanged only [↓RA, RB, RS, fx82, p1, p2, p3, p4, reduceIte, p5, p6, p7, p8, c1]
    have h := run_some h
    obtain rfl : _ = r := h
    refine FinH.l ?_
    simp -failIfUnchanged only [↓RA, RB, RS, fx82, p1, p2, p3, p4, reduceIte, p5, p6, p7, p8, c1]
  · replace h := run_f c1 h
    simp -failIfUnchanged only [↓RA, RB, RS, fx82, p1, p2, p3, p4, reduceIte, p5, p6, p7, p8, c1]
    have h := run_some h
    obtain rfl : _ = r := h
    refine FinH.l ?_
    simp -failIfUnchanged only [↓RA, RB, RS, fx82, p1, p2, p3, p4, reduceIte, p5, p6, p7, p8, c1]

def fx79 := And.intro @ty_3 <| And.intro @zc_3 <| And.intro @z_3 <| And.intro @ty_4 <| And.intro @zc_4 <| And.intro @z_4 <| And.intro @u_4 <| And.intro @ty_5 <| And.intro @zc_5 <| And.intro @z_5 <| And.intro @ty_9 <| And.intro @zc_9 <| And.intro @z_9 <| @u_9
set_option maxHeartbeats 4000000 in
theorem impl_isVariable_sat {a0 : ByteArray}  {r : Bool} (h : impl_isVariable a0 = some r) : Sat Tryz.prog 79 [(Sx a0)] (B r) := by
  replace h := Run.of h
  unfold impl_isVariable at h
  refine Sat.of_m (nt := 40) (rs := [.tmp 2]) (n := 100000) Tryz.func79 rfl rfl rfl rfl (by simp) ?_
  simp -failIfUnchanged only [↓RA, RB, RS, fx79, p1, p2, p3, p4, reduceIte, p5, p6, p7, p8]
  obtain ⟨N2, hN2, h⟩ := run_bind h
  obtain ⟨hN2a, hN2b⟩ := bnd_some hN2
  replace h := run_loop h
  refine Mg.forN h (fun i2 s2 => [(0, .val (.pv (Sx a0))), (5, .val (.pv (I (a0.size : Int)))), (6, .val (.pv (I (i2 : Int))))]) (fun i2 s2 => []) (St.le_mk2 (by simp -failIfUnchanged only [↓RA, RB, RS, fx79, p1, p2, p3, p4, reduceIte, p5, p6, p7, p8])) (fun i2 s2 hi h => ?_) (fun s2 h => ?_)
  · have w2 := wrap_succ (i := i2) (by omega)
    simp -failIfUnchanged only [↓RA, RB, RS, fx79, p1, p2, p3, p4, reduceIte, p5, p6, p7, p8]
    refine CondH.tt (decide_eq_true (by omega)) (fun c1 => ?_)
    simp -failIfUnchanged only [↓RA, RB, RS, fx79, p1, p2, p3, p4, reduceIte, p5, p6, p7, p8, c1]
    refine CondH.mk (fun c2 => ?_) (fun c2 => ?_)
    · replace h := run_t c2 h
      simp -failIfUnchanged only [↓RA, RB, RS, fx79, p1, p2, p3, p4, reduceIte, p5, p6, p7, p8, c1, c2]
      obtain ⟨v14, hv14, h⟩ := run_bind h
      refine SidxH.mk hv14 ?_
      simp -failIfUnchanged only [↓RA, RB, RS, fx79, p1, p2, p3, p4, reduceIte, p5, p6, p7, p8, c1, c2]
      obtain ⟨v15, hv15, h⟩ := run_bind h
      refine CallH.mk [false] (impl_isUpper_sat hv15) ?_ ?_ <;> simp -failIfUnchanged only [↓RA, RB, RS, fx79, p1, p2, p3, p4, reduceIte, p5, p6, p7, p8, c1, c2]
      refine CondH.mk (fun c3 => ?_) (fun c3 => ?_)
      · replace h := run_t c3 h
        simp -failIfUnchanged only [↓RA, RB, RS, fx79, p1, p2, p3, p4, reduceIte, p5, p6, p7, p8, c1, c2, c3]
        refine CondH.mk (fun c4 => ?_) (fun c4 => ?_)
        · replace h := run_t c4 h
          simp -failIfUnchanged only [↓RA, RB, RS, fx79, p1, p2, p3, p4, reduceIte, p5, p6, p7, p8, c1, c2, c3, c4]
          obtain ⟨v24, hv24, h⟩ := run_bind h
          refine SidxH.mk hv24 ?_
          simp -failIfUnchanged only [↓RA, RB, RS, fx79, p1, p2, p3, p4, reduceIte, p5, p6, p7, p8, c1, c2, c3, c4]
          obtain ⟨v25, hv25, h⟩ := run_bind h
          refine CallH.mk [false] (impl_isLower_sat hv25) ?_ ?_ <;> simp -failIfUnchanged only [↓RA, RB, RS, fx79, p1, p2, p3, p4, reduceIte, p5, p6, p7, p8, c1, c2, c3, c4]
          refine CondH.mk (fun c5 => ?_) (fun c5 => ?_)
          · replace h := run_t c5 h
            simp -failIfUnchanged only [↓RA, RB, RS, fx79, p1, p2, p3, p4, reduceIte, p5, p6, p7, p8, c1, c2, c3, c4, c5]
            have h := run_some h
            refine RdH.mk ⟨_, h, ?_⟩
            refine St.le_mk2 ?_
            simp -failIfUnchanged only [↓RA, RB, RS, fx79, p1, p2, p3, p4, reduceIte, p5, p6, p7, p8, c1, c2, c3, c4, c5, w2]
          · replace h := run_f c5 h
            simp -failIfUnchanged only [↓RA, RB, RS, fx79, p1, p2, p3, p4, reduceIte, p5, p6, p7, p8, c1, c2, c3, c4, c5]
            obtain ⟨v31, hv31, h⟩ := run_bind h
            refine SidxH.mk hv31 ?_
            simp -failIfUnchanged only [↓RA, RB, RS, fx79, p1, p2, p3, p4, reduceIte, p5, p6, p7, p8, c1, c2, c3, c4, c5]
            obtain ⟨v32, hv32, h⟩ := run_bind h
            refine CallH.mk [false] (impl_isDigit_sat hv32) ?_ ?_ <;> simp -failIfUnchanged only [↓RA, RB, RS, fx79, p1, p2, p3, p4, reduceIte, p5, p6, p7, p8, c1, c2, c3, c4, c5]
            refine CondH.mk (fun c6 => ?_) (fun c6 => ?_)
            · replace h := run_t c6 h
              simp -failIfUnchanged only [↓RA, RB, RS, fx79, p1, p2, p3, p4, reduceIte, p5, p6, p7, p8, c1, c2, c3, c4, c5, c6]
              have h := run_some h
              refine RdH.mk ⟨_, h, ?_⟩
              refine St.le_mk2 ?_
              simp -failIfUnchanged only [↓RA, RB, RS, fx79, p1, p2, p3, p4, reduceIte, p5, p6, p7, p8, c1, c2, c3, c4, c5, c6, w2]
            · replace h := run_f c6 h
              simp -failIfUnchanged only [↓RA, RB, RS, fx79, p1, p2, p3, p4, reduceIte, p5, p6, p7, p8, c1, c2, c3, c4, c5, c6]
              have h := run_some h
              obtain rfl : _ = r := h
              refine FinH.l ?_
              simp -failIfUnchanged only [↓RA, RB, RS, fx79, p1, p2, p3, p4, reduceIte, p5, p6, p7, p8, c1, c2, c3, c4, c5, c6]
        · replace h := run_f c4 h
          simp -failIfUnchanged only [↓RA, RB, RS, fx79, p1, p2, p3, p4, reduceIte, p5, p6, p7, p8, c1, c2, c3, c4]
          have h := run_some h
          refine RdH.mk ⟨_, h, ?_⟩
          refine St.le_mk2 ?_
          simp -failIfUnchanged only [↓RA, RB, RS, fx79, p1, p2, p3, p4, reduceIte, p5, p6, p7, p8, c1, c2, c3, c4, w2]
      · replace h := run_f c3 h
        simp -failIfUnchanged only [↓RA, RB, RS, fx79, p1, p2, p3, p4, reduceIte, p5, p6, p7, p8, c1, c2, c3]
        have h := run_some h
        obtain rfl : _ = r := h
        refine FinH.l ?_
        simp -failIfUnchanged only [↓RA, RB, RS, fx79, p1, p2, p3, p4, reduceIte, p5, p6, p7, p8, c1, c2, c3]
    · replace h := run_f c2 h
      simp -failIfUnchanged only [↓RA, RB, RS, fx79, p1, p2, p3, p4, reduceIte, p5, p6, p7, p8, c1, c2]
      refine CondH.mk (fun c7 => ?_) (fun c7 => ?_)
      · replace h := run_t c7 h
        simp -failIfUnchanged only [↓RA, RB, RS, fx79, p1, p2, p3, p4, reduceIte, p5, p6, p7, p8, c1, c2, c7]
        obtain ⟨v24, hv24, h⟩ := run_bind h
        refine SidxH.mk hv24 ?_
        simp -failIfUnchanged only [↓RA, RB, RS, fx79, p1, p2, p3, p4, reduceIte, p5, p6, p7, p8, c1, c2, c7]
        obtain ⟨v25, hv25, h⟩ := run_bind h
        refine CallH.mk [false] (impl_isLower_sat hv25) ?_ ?_ <;> simp -failIfUnchanged only [↓RA, RB, RS, fx79, p1, p2, p3, p4, reduceIte, p5, p6, p7, p8, c1, c2, c7]
        refine CondH.mk (fun c8 => ?_) (fun c8 => ?_)
        · replace h := run_t c8 h
          simp -failIfUnchanged only [↓RA, RB, RS, fx79, p1, p2, p3, p4, reduceIte, p5, p6, p7, p8, c1, c2, c7, c8]
          have h := run_some h
          refine RdH.mk ⟨_, h, ?_⟩
          refine St.le_mk2 ?_
          simp -failIfUnchanged only [↓RA, RB, RS, fx79, p1, p2, p3, p4, reduceIte, p5, p6, p7, p8, c1, c2, c7, c8, w2]
        · replace h := run_f c8 h
          simp -failIfUnchanged only [↓RA, RB, RS, fx79, p1, p2, p3, p4, reduceIte, p5, p6, p7, p8, c1, c2, c7, c8]
          obtain ⟨v31, hv31, h⟩ := run_bind h
          refine SidxH.mk hv31 ?_
          simp -failIfUnchanged only [↓RA, RB, RS, fx79, p1, p2, p3, p4, reduceIte, p5, p6, p7, p8, c1, c2, c7, c8]
          obtain ⟨v32, hv32, h⟩ := run_bind h
          refine CallH.mk [false] (impl_isDigit_sat hv32) ?_ ?_ <;> simp -failIfUnchanged only [↓RA, RB, RS, fx79, p1, p2, p3, p4, reduceIte, p5, p6, p7, p8, c1, c2, c7, c8]
          refine CondH.mk (fun c9 => ?_) (fun c9 => ?_)
          · replace h := run_t c9 h
            simp -failIfUnchanged only [↓RA, RB, RS, fx79, p1, p2, p3, p4, reduceIte, p5, p6, p7, p8, c1, c2, c7, c8, c9]
            have h := run_some h
            refine RdH.mk ⟨_, h, ?_⟩
            refine St.le_mk2 ?_
            simp -failIfUnchanged only [↓RA, RB, RS, fx79, p1, p2, p3, p4, reduceIte, p5, p6, p7, p8, c1, c2, c7, c8, c9, w2]
          · replace h := run_f c9 h
            simp -failIfUnchanged only [↓RA, RB, RS, fx79, p1, p2, p3, p4, reduceIte, p5, p6, p7, p8, c1, c2, c7, c8, c9]
            have h := run_some h
            obtain rfl : _ = r := h
            refine FinH.l ?_
            simp -failIfUnchanged only [↓RA, RB, RS, fx79, p1, p2, p3, p4, reduceIte, p5, p6, p7, p8, c1, c2, c7, c8, c9]
      · replace h := run_f c7 h
        simp -failIfUnchanged only [↓RA, RB, RS, fx79, p1, p2, p3, p4, reduceIte, p5, p6, p7, p8, c1, c2, c7]
        have h := run_some h
        refine RdH.mk ⟨_, h, ?_⟩
        refine St.le_mk2 ?_
        simp -failIfUnchanged only [↓RA, RB, RS, fx79, p1, p2, p3, p4, reduceIte, p5, p6, p7, p8, c1, c2, c7, w2]
  · simp -failIfUnchanged only [↓RA, RB, RS, fx79, p1, p2, p3, p4, reduceIte, p5, p6, p7, p8]
    refine CondH.ff (decide_eq_false (by omega)) (fun c10 => ?_)
    simp -failIfUnchanged only [↓RA, RB, RS, fx79, p1, p2, p3, p4, reduceIte, p5, p6, p7, p8, c10]
    obtain ⟨v39, hv39, h⟩ := run_bind h
    refine CallH.mk [false, false, false] (impl_within_sat hv39) ?_ ?_ <;> simp -failIfUnchanged only [↓RA, RB, RS, fx79, p1, p2, p3, p4, reduceIte, p5, p6, p7, p8, c10]
    have h := run_some h
    obtain rfl : _ = r := h
    refine FinH.l ?_
    simp -failIfUnchanged only [↓RA, RB, RS, fx79, p1, p2, p3, p4, reduceIte, p5, p6, p7, p8, c10]

def fx91 := And.intro @ty_3 <| And.intro @zc_3 <| And.intro @z_3 <| And.intro @ty_36 <| And.intro @zc_36 <| And.intro @z_36 <| And.intro @es_36 <| And.intro @eb_36 <| And.intro @sl_36 <| And.intro @is_36 <| And.intro @el_36 <| And.intro @ze_36 <| And.intro @ez_36 <| And.intro @ty_38 <| And.intro @zc_38 <| And.intro @z_38 <| And.intro @fo_38_0 <| And.intro @fi_38_0 <| And.intro @ft_38_0 <| And.intro @fo_38_1 <| And.intro @fi_38_1 <| And.intro @ft_38_1 <| @lay_38
set_option maxHeartbeats 4000000 in
theorem slices_IndexFunc_Simpl_Term_impl_Term_sat {a0 : List Term} {a1 : Term → Option Bool} {a1_id : FuncId} {a1_cs : List PV} (a1_ok : ∀ y0 r, a1 y0 = some r → Sat Tryz.prog a1_id (((Term.pv false) y0) :: a1_cs) (B r)) (a1_cz : CapsOk a1_cs = True) {r : Int} (h : slices_IndexFunc_Simpl_Term_impl_Term a0 a1 = some r) : Sat Tryz.prog 91 [(.sl false 2 (a0.map (Term.pv false))), .clo a1_id a1_cs] (I r) := by
  replace h := Run.of h
  unfold slices_IndexFunc_Simpl_Term_impl_Term at h
  refine Sat.of_m (nt := 19) (rs := [.tmp 4]) (n := 100000) Tryz.func91 rfl rfl rfl rfl (by simp) ?_
  simp -failIfUnchanged only [↓RA, RB, RS, fx91, a1_cz, p1, p2, p3, p4, reduceIte, p5, p6, p7, p8]
  refine Mg.know_sl (b := false) (sz := 2) (es := a0.map (Term.pv false)) 0 (by simp -failIfUnchanged only [↓RA, RB, RS, fx91, a1_cz, p1, p2, p3, p4, reduceIte, p5, p6, p7, p8]) fun hl0 => ?_; rw [List.length_map] at hl0
  replace h := run_loop h
  refine Mg.forN h (fun i2 s2 => [(0, .val (.pv (.sl false 2 (a0.map (Term.pv false))))), (1, .val (.pv (.clo a1_id a1_cs))), (7, .val (.pv (I (a0.length : Int)))), (8, .val (.pv (I (i2 : Int))))]) (fun i2 s2 => []) (St.le_mk2 (by simp -failIfUnchanged only [↓RA, RB, RS, fx91, a1_cz, p1, p2, p3, p4, reduceIte, p5, p6, p7, p8])) (fun i2 s2 hi h => ?_) (fun s2 h => ?_)
  · have w2 := wrap_succ (i := i2) (by omega)
    simp -failIfUnchanged only [↓RA, RB, RS, fx91, a1_cz, p1, p2, p3, p4, reduceIte, p5, p6, p7, p8]
    refine CondH.tt (decide_eq_true (by omega)) (fun c1 => ?_)
    simp -failIfUnchanged only [↓RA, RB, RS, fx91, a1_cz, p1, p2, p3, p4, reduceIte, p5, p6, p7, p8, c1]
    obtain ⟨v14, hv14, h⟩ := run_bind h
    refine IdxH.mk (f := (Term.pv false)) hv14 ?_ ?_ <;> simp -failIfUnchanged only [↓RA, RB, RS, fx91, a1_cz, p1, p2, p3, p4, reduceIte, p5, p6, p7, p8, c1]
    obtain ⟨v16, hv16, h⟩ := run_bind h
    refine CallH.mk [false] (a1_ok _ _ hv16) ?_ ?_ <;> simp -failIfUnchanged only [↓RA, RB, RS, fx91, a1_cz, p1, p2, p3, p4, reduceIte, p5, p6, p7, p8, c1]
    refine CondH.mk (fun c2 => ?_) (fun c2 => ?_)
    · replace h := run_t c2 h
      simp -failIfUnchanged only [↓RA, RB, RS, fx91, a1_cz, p1, p2, p3, p4, reduceIte, p5, p6, p7, p8, c1, c2]
      have h := run_some h
      obtain rfl : _ = r := h
      refine FinH.l ?_
      simp -failIfUnchanged only [↓RA, RB, RS, fx91, a1_cz, p1, p2, p3, p4, reduceIte, p5, p6, p7, p8, c1, c2]
    · replace h := run_f c2 h
      simp -failIfUnchanged only [↓RA, RB, RS, fx91, a1_cz, p1, p2, p3, p4, reduceIte, p5, p6, p7, p8, c1, c2]
      have h := run_some h
      refine RdH.mk ⟨_, h, ?_⟩
      refine St.le_mk2 ?_
      simp -failIfUnchanged only [↓RA, RB, RS, fx91, a1_cz, p1, p2, p3, p4, reduceIte, p5, p6, p7, p8, c1, c2, w2]
  · simp -failIfUnchanged only [↓RA, RB, RS, fx91, a1_cz, p1, p2, p3, p4, reduceIte, p5, p6, p7, p8]
    refine CondH.ff (decide_eq_false (by omega)) (fun c3 => ?_)
    simp -failIfUnchanged only [↓RA, RB, RS, fx91, a1_cz, p1, p2, p3, p4, reduceIte, p5, p6, p7, p8, c3]
    have h := run_some h
    obtain rfl : _ = r := h
    refine FinH.l ?_
    simp -failIfUnchanged only [↓RA, RB, RS, fx91, a1_cz, p1, p2, p3, p4, reduceIte, p5, p6, p7, p8, c3]

def fx80 := And.intro @ty_3 <| And.intro @zc_3 <| And.intro @z_3 <| And.intro @ty_36 <| And.intro @zc_36 <| And.intro @z_36 <| And.intro @es_36 <| And.intro @eb_36 <| And.intro @sl_36 <| And.intro @is_36 <| And.intro @el_36 <| And.intro @ze_36 <| And.intro @ez_36 <| And.intro @ty_57 <| And.intro @zc_57 <| @z_57
set_option maxHeartbeats 4000000 in
theorem slices_ContainsFunc_Simpl_Term_impl_Term_sat {a0 : List Term} {a1 : Term → Option Bool} {a1_id : FuncId} {a1_cs : List PV} (a1_ok : ∀ y0 r, a1 y0 = some r → Sat Tryz.prog a1_id (((Term.pv false) y0) :: a1_cs) (B r)) (a1_cz : CapsOk a1_cs = True) {r : Bool} (h : slices_ContainsFunc_Simpl_Term_impl_Term a0 a1 = some r) : Sat Tryz.prog 80 [(.sl false 2 (a0.map (Term.pv false))), .clo a1_id a1_cs] (B r) := by
  replace h := Run.of h
  unfold slices_ContainsFunc_Simpl_Term_impl_Term at h
  refine Sat.of_m (nt := 9) (rs := [.tmp 4]) (n := 100000) Tryz.func80 rfl rfl rfl rfl (by simp) ?_
  simp -failIfUnchanged only [↓RA, RB, RS, fx80, a1_cz, p1, p2, p3, p4, reduceIte, p5, p6, p7, p8]
  obtain ⟨v7, hv7, h⟩ := run_bind h
  refine CallH.mk [false, false] (slices_IndexFunc_Simpl_Term_impl_Term_sat a1_ok a1_cz hv7) ?_ ?_ <;> simp -failIfUnchanged only [↓RA, RB, RS, fx80, a1_cz, p1, p2, p3, p4, reduceIte, p5, p6, p7, p8]
  have h := run_some h
  obtain rfl : _ = r := h
  refine FinH.l ?_
  simp -failIfUnchanged only [↓RA, RB, RS, fx80, a1_cz, p1, p2, p3, p4, reduceIte, p5, p6, p7, p8]

def fx58 := And.intro @ty_3 <| And.intro @zc_3 <| And.intro @z_3 <| And.intro @ty_4 <| And.intro @zc_4 <| And.intro @z_4 <| And.intro @u_4 <| And.intro @ty_9 <| And.intro @zc_9 <| And.intro @z_9 <| And.intro @u_9 <| And.intro @ty_36 <| And.intro @zc_36 <| And.intro @z_36 <| And.intro @es_36 <| And.intro @eb_36 <| And.intro @sl_36 <| And.intro @is_36 <| And.intro @el_36 <| And.intro @ze_36 <| And.intro @ez_36 <| And.intro @ty_38 <| And.intro @zc_38 <| And.intro @z_38 <| And.intro @fo_38_0 <| And.intro @fi_38_0 <| And.intro @ft_38_0 <| And.intro @fo_38_1 <| And.intro @fi_38_1 <| And.intro @ft_38_1 <| And.intro @lay_38 <| And.intro @ty_57 <| And.intro @zc_57 <| @z_57
def fx81 := And.intro @ty_4 <| And.intro @zc_4 <| And.intro @z_4 <| And.intro @u_4 <| And.intro @ty_38 <| And.intro @zc_38 <| And.intro @z_38 <| And.intro @fo_38_0 <| And.intro @fi_38_0 <| And.intro @ft_38_0 <| And.intro @fo_38_1 <| And.intro @fi_38_1 <| And.intro @ft_38_1 <| @lay_38
set_option maxHeartbeats 4000000 in
theorem impl_hasNamesN_sat (n : Nat) : (∀ (a0 : Term) (r : Bool), impl_hasNamesN n a0 = some r → Sat Tryz.prog 58 [((Term.pv false) a0)] (B r)) ∧ (∀ (a0 : Term) (r : Bool), impl_hasNames_1N n a0 = some r → Sat Tryz.prog 81 [((Term.pv false) a0)] (B r)) := by
  induction n with
  | zero => exact ⟨fun _ _ h => by simp [impl_hasNamesN] at h, fun _ _ h => by simp [impl_hasNames_1N] at h⟩
  | succ n ih =>
    refine ⟨fun a0 r h => ?_, fun a0 r h => ?_⟩
    · replace h := Run.of h
      rw [impl_hasNamesN] at h
      refine Sat.of_m (nt := 25) (rs := [.tmp 2]) (n := 100000) Tryz.func58 rfl rfl rfl rfl (by simp) ?_
      simp -failIfUnchanged only [↓RA, RB, RS, fx58, p1, p2, p3, p4, reduceIte, p5, p6, p7, p8]
      repeat (first | with_reducible refine noR_and (by repeat (first | exact noR_empty _ _ | exact noR_nilS _ _ | refine noR_mk _ _ _ _ _ rfl ?_ | refine noR_mkS _ _ _ _ _ rfl ?_)) ?_ | with_reducible refine noC_and (by repeat (first | exact noC_empty _ _ (by simp -failIfUnchanged only [↓RA, RB, RS, fx58, p1, p2, p3, p4, reduceIte, p5, p6, p7, p8]) | exact noC_nilS _ _ (by simp -failIfUnchanged only [↓RA, RB, RS, fx58, p1, p2, p3, p4, reduceIte, p5, p6, p7, p8]) | refine noC_mk _ _ _ _ _ rfl ?_ | refine noC_mkS _ _ _ _ _ rfl ?_)) ?_ | with_reducible refine and_ac ?_ | with_reducible refine And.intro (a := _ = List.range _) (by rfl) ?_)
      obtain ⟨v5, hv5, h⟩ := run_bind h
      refine CallH.mk [false] (impl_isVariable_sat hv5) ?_ ?_ <;> simp -failIfUnchanged only [↓RA, RB, RS, fx58, p1, p2, p3, p4, reduceIte, p5, p6, p7, p8]
      refine CondH.mk (fun c1 => ?_) (fun c1 => ?_)
      · replace h := run_t c1 h
        simp -failIfUnchanged only [↓RA, RB, RS, fx58, p1, p2, p3, p4, reduceIte, p5, p6, p7, p8, c1]
        have h := run_some h
        obtain rfl : _ = r := h
        refine FinH.l ?_
        simp -failIfUnchanged only [↓RA, RB, RS, fx58, p1, p2, p3, p4, reduceIte, p5, p6, p7, p8, c1]
      · replace h := run_f c1 h
        simp -failIfUnchanged only [↓RA, RB, RS, fx58, p1, p2, p3, p4, reduceIte, p5, p6, p7, p8, c1]
        obtain ⟨v12, hv12, h⟩ := run_bind h
        refine CallH.mk [false] (impl_isSymbol_sat hv12) ?_ ?_ <;> simp -failIfUnchanged only [↓RA, RB, RS, fx58, p1, p2, p3, p4, reduceIte, p5, p6, p7, p8, c1]
        refine CondH.mk (fun c2 => ?_) (fun c2 => ?_)
        · replace h := run_t c2 h
          simp -failIfUnchanged only [↓RA, RB, RS, fx58, p1, p2, p3, p4, reduceIte, p5, p6, p7, p8, c1, c2]
          refine CondH.mk (fun c3 => ?_) (fun c3 => ?_)
          · replace h := run_t c3 h
            simp -failIfUnchanged only [↓RA, RB, RS, fx58, p1, p2, p3, p4, reduceIte, p5, p6, p7, p8, c1, c2, c3]
            obtain ⟨v22, hv22, h⟩ := run_bind h
            refine CallH.mk [false, false] (slices_ContainsFunc_Simpl_Term_impl_Term_sat (fun _ _ hh => ih.2 _ _ hh) (by simp only [CapsOk_nil, CapsOk_cons]) hv22) ?_ ?_ <;> simp -failIfUnchanged only [↓RA, RB, RS, fx58, p1, p2, p3, p4, reduceIte, p5, p6, p7, p8, c1, c2, c3]
            have h := run_some h
            obtain rfl : _ = r := h
            refine FinH.l ?_
            simp -failIfUnchanged only [↓RA, RB, RS, fx58, p1, p2, p3, p4, reduceIte, p5, p6, p7, p8, c1, c2, c3]
          · replace h := run_f c3 h
            simp -failIfUnchanged only [↓RA, RB, RS, fx58, p1, p2, p3, p4, reduceIte, p5, p6, p7, p8, c1, c2, c3]
            have h := run_some h
            obtain rfl : _ = r := h
            refine FinH.l ?_
            simp -failIfUnchanged only [↓RA, RB, RS, fx58, p1, p2, p3, p4, reduceIte, p5, p6, p7, p8, c1, c2, c3]
        · replace h := run_f c2 h
          simp -failIfUnchanged only [↓RA, RB, RS, fx58, p1, p2, p3, p4, reduceIte, p5, p6, p7, p8, c1, c2]
          have h := run_some h
          obtain rfl : _ = r := h
          refine FinH.l ?_
          simp -failIfUnchanged only [↓RA, RB, RS, fx58, p1, p2, p3, p4, reduceIte, p5, p6, p7, p8, c1, c2]
    · replace h := Run.of h
      rw [impl_hasNames_1N] at h
      refine Sat.of_m (nt := 6) (rs := [.tmp 2]) (n := 100000) Tryz.func81 rfl rfl rfl rfl (by simp) ?_
      simp -failIfUnchanged only [↓RA, RB, RS, fx81, p1, p2, p3, p4, reduceIte, p5, p6, p7, p8]
      repeat (first | with_reducible refine noR_and (by repeat (first | exact noR_empty _ _ | exact noR_nilS _ _ | refine noR_mk _ _ _ _ _ rfl ?_ | refine noR_mkS _ _ _ _ _ rfl ?_)) ?_ | with_reducible refine noC_and (by repeat (first | exact noC_empty _ _ (by simp -failIfUnchanged only [↓RA, RB, RS, fx81, p1, p2, p3, p4, reduceIte, p5, p6, p7, p8]) | exact noC_nilS _ _ (by simp -failIfUnchanged only [↓RA, RB, RS, fx81, p1, p2, p3, p4, reduceIte, p5, p6, p7, p8]) | refine noC_mk _ _ _ _ _ rfl ?_ | refine noC_mkS _ _ _ _ _ rfl ?_)) ?_ | with_reducible refine and_ac ?_ | with_reducible refine And.intro (a := _ = List.range _) (by rfl) ?_)
      obtain ⟨v4, hv4, h⟩ := run_bind h
      refine CallH.mk [false] (ih.1 _ _ hv4) ?_ ?_ <;> simp -failIfUnchanged only [↓RA, RB, RS, fx81, p1, p2, p3, p4, reduceIte, p5, p6, p7, p8]
      have h := run_some h
      obtain rfl : _ = r := h
      refine FinH.l ?_
      simp -failIfUnchanged only [↓RA, RB, RS, fx81, p1, p2, p3, p4, reduceIte, p5, p6, p7, p8]
theorem impl_hasNames_sat {a0 : Term} {r : Bool} (h : impl_hasNames a0 = some r) : Sat Tryz.prog 58 [((Term.pv false) a0)] (B r) := by
  obtain ⟨n, hn⟩ := lim_some h
  exact (impl_hasNamesN_sat n).1 _ _ hn
theorem impl_hasNames_1_sat {a0 : Term} {r : Bool} (h : impl_hasNames_1 a0 = some r) : Sat Tryz.prog 81 [((Term.pv false) a0)] (B r) := by
  obtain ⟨n, hn⟩ := lim_some h
  exact (impl_hasNamesN_sat n).2 _ _ hn

def fx30 := And.intro @ty_38 <| And.intro @zc_38 <| And.intro @z_38 <| And.intro @fo_38_0 <| And.intro @fi_38_0 <| And.intro @ft_38_0 <| And.intro @fo_38_1 <| And.intro @fi_38_1 <| And.intro @ft_38_1 <| @lay_38
set_option maxHeartbeats 4000000 in
theorem impl_IsValidTerm_sat {a0 : Term}  {r : Bool} (h : impl_IsValidTerm a0 = some r) : Sat Tryz.prog 30 [((Term.pv false) a0)] (B r) := by
  replace h := Run.of h
  unfold impl_IsValidTerm at h
  refine Sat.of_m (nt := 9) (rs := [.tmp 2]) (n := 100000) Tryz.func30 rfl rfl rfl rfl (by simp) ?_
  simp -failIfUnchanged only [↓RA, RB, RS, fx30, p1, p2, p3, p4, reduceIte, p5, p6, p7, p8]
  repeat (first | with_reducible refine noR_and (by repeat (first | exact noR_empty _ _ | exact noR_nilS _ _ | refine noR_mk _ _ _ _ _ rfl ?_ | refine noR_mkS _ _ _ _ _ rfl ?_)) ?_ | with_reducible refine noC_and (by repeat (first | exact noC_empty _ _ (by simp -failIfUnchanged only [↓RA, RB, RS, fx30, p1, p2, p3, p4, reduceIte, p5, p6, p7, p8]) | exact noC_nilS _ _ (by simp -failIfUnchanged only [↓RA, RB, RS, fx30, p1, p2, p3, p4, reduceIte, p5, p6, p7, p8]) | refine noC_mk _ _ _ _ _ rfl ?_ | refine noC_mkS _ _ _ _ _ rfl ?_)) ?_ | with_reducible refine and_ac ?_ | with_reducible refine And.intro (a := _ = List.range _) (by rfl) ?_)
  obtain ⟨v4, hv4, h⟩ := run_bind h
  refine CallH.mk [false] (impl_isSmall_sat hv4) ?_ ?_ <;> simp -failIfUnchanged only [↓RA, RB, RS, fx30, p1, p2, p3, p4, reduceIte, p5, p6, p7, p8]
  refine CondH.mk (fun c1 => ?_) (fun c1 => ?_)
  · replace h := run_t c1 h
    simp -failIfUnchanged only [↓RA, RB, RS, fx30, p1, p2, p3, p4, reduceIte, p5, p6, p7, p8, c1]
    obtain ⟨v7, hv7, h⟩ := run_bind h
    refine CallH.mk [false] (impl_hasNames_sat hv7) ?_ ?_ <;> simp -failIfUnchanged only [↓RA, RB, RS, fx30, p1, p2, p3, p4, reduceIte, p5, p6, p7, p8, c1]
    have h := run_some h
    obtain rfl : _ = r := h
    refine FinH.l ?_
    simp -failIfUnchanged only [↓RA, RB, RS, fx30, p1, p2, p3, p4, reduceIte, p5, p6, p7, p8, c1]
  · replace h := run_f c1 h
    simp -failIfUnchanged only [↓RA, RB, RS, fx30, p1, p2, p3, p4, reduceIte, p5, p6, p7, p8, c1]
    have h := run_some h
    obtain rfl : _ = r := h
    refine FinH.l ?_
    simp -failIfUnchanged only [↓RA, RB, RS, fx30, p1, p2, p3, p4, reduceIte, p5, p6, p7, p8, c1]

def fx59 := And.intro @ty_5 <| And.intro @zc_5 <| And.intro @z_5 <| And.intro @ty_9 <| And.intro @zc_9 <| And.intro @z_9 <| And.intro @u_9 <| And.intro @ty_38 <| And.intro @zc_38 <| And.intro @z_38 <| And.intro @fo_38_0 <| And.intro @fi_38_0 <| And.intro @ft_38_0 <| And.intro @fo_38_1 <| And.intro @fi_38_1 <| And.intro @ft_38_1 <| @lay_38
set_option maxHeartbeats 4000000 in
theorem impl_isVar_sat {a0 : Term}  {r : Bool} (h : impl_isVar a0 = some r) : Sat Tryz.prog 59 [((Term.pv false) a0)] (B r) := by
  replace h := Run.of h
  unfold impl_isVar at h
  refine Sat.of_m (nt := 7) (rs := [.tmp 2]) (n := 100000) Tryz.func59 rfl rfl rfl rfl (by simp) ?_
  simp -failIfUnchanged only [↓RA, RB, RS, fx59, p1, p2, p3, p4, reduceIte, p5, p6, p7, p8]
  repeat (first | with_reducible refine noR_and (by repeat (first | exact noR_empty _ _ | exact noR_nilS _ _ | refine noR_mk _ _ _ _ _ rfl ?_ | refine noR_mkS _ _ _ _ _ rfl ?_)) ?_ | with_reducible refine noC_and (by repeat (first | exact noC_empty _ _ (by simp -failIfUnchanged only [↓RA, RB, RS, fx59, p1, p2, p3, p4, reduceIte, p5, p6, p7, p8]) | exact noC_nilS _ _ (by simp -failIfUnchanged only [↓RA, RB, RS, fx59, p1, p2, p3, p4, reduceIte, p5, p6, p7, p8]) | refine noC_mk _ _ _ _ _ rfl ?_ | refine noC_mkS _ _ _ _ _ rfl ?_)) ?_ | with_reducible refine and_ac ?_ | with_reducible refine And.intro (a := _ = List.range _) (by rfl) ?_)
  obtain ⟨v5, hv5, h⟩ := run_bind h
  refine SidxH.mk hv5 ?_
  simp -failIfUnchanged only [↓RA, RB, RS, fx59, p1, p2, p3, p4, reduceIte, p5, p6, p7, p8]
  obtain ⟨v6, hv6, h⟩ := run_bind h
  refine CallH.mk [false] (impl_isUpper_sat hv6) ?_ ?_ <;> simp -failIfUnchanged only [↓RA, RB, RS, fx59, p1, p2, p3, p4, reduceIte, p5, p6, p7, p8]
  have h := run_some h
  obtain rfl : _ = r := h
  refine FinH.l ?_
  simp -failIfUnchanged only [↓RA, RB, RS, fx59, p1, p2, p3, p4, reduceIte, p5, p6, p7, p8]

def fx84 := And.intro @ty_3 <| And.intro @zc_3 <| And.intro @z_3 <| And.intro @ty_9 <| And.intro @zc_9 <| And.intro @z_9 <| And.intro @u_9 <| And.intro @ty_29 <| And.intro @zc_29 <| And.intro @z_29 <| And.intro @es_29 <| And.intro @eb_29 <| And.intro @sl_29 <| And.intro @is_29 <| And.intro @el_29 <| And.intro @ze_29 <| And.intro @ez_29 <| And.intro @ty_36 <| And.intro @zc_36 <| And.intro @z_36 <| And.intro @es_36 <| And.intro @eb_36 <| And.intro @sl_36 <| And.intro @is_36 <| And.intro @el_36 <| And.intro @ze_36 <| And.intro @ez_36 <| And.intro @ty_38 <| And.intro @zc_38 <| And.intro @z_38 <| And.intro @fo_38_0 <| And.intro @fi_38_0 <| And.intro @ft_38_0 <| And.intro @fo_38_1 <| And.intro @fi_38_1 <| And.intro @ft_38_1 <| And.intro @lay_38 <| And.intro @ty_58 <| And.intro @zc_58 <| And.intro @z_58 <| And.intro @fo_58_0 <| And.intro @fi_58_0 <| And.intro @ft_58_0 <| And.intro @fo_58_1 <| And.intro @fi_58_1 <| And.intro @ft_58_1 <| And.intro @fo_58_2 <| And.intro @fi_58_2 <| And.intro @ft_58_2 <| @lay_58
set_option maxHeartbeats 4000000 in
theorem impl_majorant_1_sat {a0 : Majorant} {b0 : Term}  {r : Bool} (h : impl_majorant_1 a0 b0 = some r) : Sat Tryz.prog 84 [((Majorant.pv false) a0), .ptr ((Term.pv false) b0)] (B r) := by
  replace h := Run.of h
  unfold impl_majorant_1 at h
  refine Sat.of_m (nt := 18) (rs := [.tmp 3]) (n := 100000) Tryz.func84 rfl rfl rfl rfl (by simp) ?_
  simp -failIfUnchanged only [↓RA, RB, RS, fx84, p1, p2, p3, p4, reduceIte, p5, p6, p7, p8]
  repeat (first | with_reducible refine noR_and (by repeat (first | exact noR_empty _ _ | exact noR_nilS _ _ | refine noR_mk _ _ _ _ _ rfl ?_ | refine noR_mkS _ _ _ _ _ rfl ?_)) ?_ | with_reducible refine noC_and (by repeat (first | exact noC_empty _ _ (by simp -failIfUnchanged only [↓RA, RB, RS, fx84, p1, p2, p3, p4, reduceIte, p5, p6, p7, p8]) | exact noC_nilS _ _ (by simp -failIfUnchanged only [↓RA, RB, RS, fx84, p1, p2, p3, p4, reduceIte, p5, p6, p7, p8]) | refine noC_mk _ _ _ _ _ rfl ?_ | refine noC_mkS _ _ _ _ _ rfl ?_)) ?_ | with_reducible refine and_ac ?_ | with_reducible refine And.intro (a := _ = List.range _) (by rfl) ?_)
  refine CondH.mk (fun c1 => ?_) (fun c1 => ?_)
  · replace h := run_t c1 h
    simp -failIfUnchanged only [↓RA, RB, RS, fx84, p1, p2, p3, p4, reduceIte, p5, p6, p7, p8, c1]
    have h := run_some h
    obtain rfl : _ = r := h
    refine FinH.l ?_
    simp -failIfUnchanged only [↓RA, RB, RS, fx84, p1, p2, p3, p4, reduceIte, p5, p6, p7, p8, c1]
  · replace h := run_f c1 h
    simp -failIfUnchanged only [↓RA, RB, RS, fx84, p1, p2, p3, p4, reduceIte, p5, p6, p7, p8, c1]
    have h := run_some h
    obtain rfl : _ = r := h
    refine FinH.l ?_
    simp -failIfUnchanged only [↓RA, RB, RS, fx84, p1, p2, p3, p4, reduceIte, p5, p6, p7, p8, c1]

def fx83 := And.intro @ty_3 <| And.intro @zc_3 <| And.intro @z_3 <| And.intro @ty_34 <| And.intro @zc_34 <| And.intro @z_34 <| And.intro @es_34 <| And.intro @eb_34 <| And.intro @sl_34 <| And.intro @is_34 <| And.intro @el_34 <| And.intro @ze_34 <| And.intro @ez_34 <| And.intro @ty_58 <| And.intro @zc_58 <| And.intro @z_58 <| And.intro @fo_58_0 <| And.intro @fi_58_0 <| And.intro @ft_58_0 <| And.intro @fo_58_1 <| And.intro @fi_58_1 <| And.intro @ft_58_1 <| And.intro @fo_58_2 <| And.intro @fi_58_2 <| And.intro @ft_58_2 <| @lay_58
set_option maxHeartbeats 4000000 in
theorem slices_IndexFunc_Simpl_Majorant_impl_Majorant_sat {a0 : List Majorant} {a1 : Majorant → Option Bool} {a1_id : FuncId} {a1_cs : List PV} (a1_ok : ∀ y0 r, a1 y0 = some r → Sat Tryz.prog a1_id (((Majorant.pv false) y0) :: a1_cs) (B r)) (a1_cz : CapsOk a1_cs = True) {r : Int} (h : slices_IndexFunc_Simpl_Majorant_impl_Majorant a0 a1 = some r) : Sat Tryz.prog 83 [(.sl false 3 (a0.map (Majorant.pv false))), .clo a1_id a1_cs] (I r) := by
  replace h := Run.of h
  unfold slices_IndexFunc_Simpl_Majorant_impl_Majorant at h
  refine Sat.of_m (nt := 19) (rs := [.tmp 4]) (n := 100000) Tryz.func83 rfl rfl rfl rfl (by simp) ?_
  simp -failIfUnchanged only [↓RA, RB, RS, fx83, a1_cz, p1, p2, p3, p4, reduceIte, p5, p6, p7, p8]
  refine Mg.know_sl (b := false) (sz := 3) (es := a0.map (Majorant.pv false)) 0 (by simp -failIfUnchanged only [↓RA, RB, RS, fx83, a1_cz, p1, p2, p3, p4, reduceIte, p5, p6, p7, p8]) fun hl0 => ?_; rw [List.length_map] at hl0
  replace h := run_loop h
  refine Mg.forN h (fun i2 s2 => [(0, .val (.pv (.sl false 3 (a0.map (Majorant.pv false))))), (1, .val (.pv (.clo a1_id a1_cs))), (7, .val (.pv (I (a0.length : Int)))), (8, .val (.pv (I (i2 : Int))))]) (fun i2 s2 => []) (St.le_mk2 (by simp -failIfUnchanged only [↓RA, RB, RS, fx83, a1_cz, p1, p2, p3, p4, reduceIte, p5, p6, p7, p8])) (fun i2 s2 hi h => ?_) (fun s2 h => ?_)
  · have w2 := wrap_succ (i := i2) (by omega)
    simp -failIfUnchanged only [↓RA, RB, RS, fx83, a1_cz, p1, p2, p3, p4, reduceIte, p5, p6, p7, p8]
    refine CondH.tt (decide_eq_true (by omega)) (fun c1 => ?_)
    simp -failIfUnchanged only [↓RA, RB, RS, fx83, a1_cz, p1, p2, p3, p4, reduceIte, p5, p6, p7, p8, c1]
    obtain ⟨v14, hv14, h⟩ := run_bind h
    refine IdxH.mk (f := (Majorant.pv false)) hv14 ?_ ?_ <;> simp -failIfUnchanged only [↓RA, RB, RS, fx83, a1_cz, p1, p2, p3, p4, reduceIte, p5, p6, p7, p8, c1]
    obtain ⟨v16, hv16, h⟩ := run_bind h
    refine CallH.mk [false] (a1_ok _ _ hv16) ?_ ?_ <;> simp -failIfUnchanged only [↓RA, RB, RS, fx83, a1_cz, p1, p2, p3, p4, reduceIte, p5, p6, p7, p8, c1]
    refine CondH.mk (fun c2 => ?_) (fun c2 => ?_)
    · replace h := run_t c2 h
      simp -failIfUnchanged only [↓RA, RB, RS, fx83, a1_cz, p1, p2, p3, p4, reduceIte, p5, p6, p7, p8, c1, c2]
      have h := run_some h
      obtain rfl : _ = r := h
      refine FinH.l ?_
      simp -failIfUnchanged only [↓RA, RB, RS, fx83, a1_cz, p1, p2, p3, p4, reduceIte, p5, p6, p7, p8, c1, c2]
    · replace h := run_f c2 h
      simp -failIfUnchanged only [↓RA, RB, RS, fx83, a1_cz, p1, p2, p3, p4, reduceIte, p5, p6, p7, p8, c1, c2]
      have h := run_some h
      refine RdH.mk ⟨_, h, ?_⟩
      refine St.le_mk2 ?_
      simp -failIfUnchanged only [↓RA, RB, RS, fx83, a1_cz, p1, p2, p3, p4, reduceIte, p5, p6, p7, p8, c1, c2, w2]
  · simp -failIfUnchanged only [↓RA, RB, RS, fx83, a1_cz, p1, p2, p3, p4, reduceIte, p5, p6, p7, p8]
    refine CondH.ff (decide_eq_false (by omega)) (fun c3 => ?_)
    simp -failIfUnchanged only [↓RA, RB, RS, fx83, a1_cz, p1, p2, p3, p4, reduceIte, p5, p6, p7, p8, c3]
    have h := run_some h
    obtain rfl : _ = r := h
    refine FinH.l ?_
    simp -failIfUnchanged only [↓RA, RB, RS, fx83, a1_cz, p1, p2, p3, p4, reduceIte, p5, p6, p7, p8, c3]

def fx60 := And.intro @ty_34 <| And.intro @zc_34 <| And.intro @z_34 <| And.intro @es_34 <| And.intro @eb_34 <| And.intro @sl_34 <| And.intro @is_34 <| And.intro @el_34 <| And.intro @ze_34 <| And.intro @ez_34 <| And.intro @ty_38 <| And.intro @zc_38 <| And.intro @z_38 <| And.intro @fo_38_0 <| And.intro @fi_38_0 <| And.intro @ft_38_0 <| And.intro @fo_38_1 <| And.intro @fi_38_1 <| And.intro @ft_38_1 <| And.intro @lay_38 <| And.intro @ty_95 <| And.intro @zc_95 <| @z_95
set_option maxHeartbeats 4000000 in
theorem impl_majorant_sat {a0 : List Majorant} {a1 : Term}  {r : Int} (h : impl_majorant a0 a1 = some r) : Sat Tryz.prog 60 [(.sl false 3 (a0.map (Majorant.pv false))), ((Term.pv false) a1)] (I r) := by
  replace h := Run.of h
  unfold impl_majorant at h
  refine Sat.of_m (nt := 8) (rs := [.tmp 4]) (n := 100000) Tryz.func60 rfl rfl rfl rfl (by simp) ?_
  simp -failIfUnchanged only [↓RA, RB, RS, fx60, p1, p2, p3, p4, reduceIte, p5, p6, p7, p8]
  repeat (first | with_reducible refine noR_and (by repeat (first | exact noR_empty _ _ | exact noR_nilS _ _ | refine noR_mk _ _ _ _ _ rfl ?_ | refine noR_mkS _ _ _ _ _ rfl ?_)) ?_ | with_reducible refine noC_and (by repeat (first | exact noC_empty _ _ (by simp -failIfUnchanged only [↓RA, RB, RS, fx60, p1, p2, p3, p4, reduceIte, p5, p6, p7, p8]) | exact noC_nilS _ _ (by simp -failIfUnchanged only [↓RA, RB, RS, fx60, p1, p2, p3, p4, reduceIte, p5, p6, p7, p8]) | refine noC_mk _ _ _ _ _ rfl ?_ | refine noC_mkS _ _ _ _ _ rfl ?_)) ?_ | with_reducible refine and_ac ?_ | with_reducible refine And.intro (a := _ = List.range _) (by rfl) ?_)
  refine MfH.fr ?_
  simp -failIfUnchanged only [↓RA, RB, RS, fx60, p1, p2, p3, p4, reduceIte, p5, p6, p7, p8]
  obtain ⟨v7, hv7, h⟩ := run_bind h
  refine CallH.mk [false, false] (slices_IndexFunc_Simpl_Majorant_impl_Majorant_sat (fun _ _ hh => impl_majorant_1_sat hh) (by simp only [CapsOk_nil, CapsOk_cons]) hv7) ?_ ?_ <;> simp -failIfUnchanged only [↓RA, RB, RS, fx60, p1, p2, p3, p4, reduceIte, p5, p6, p7, p8]
  have h := run_some h
  obtain rfl : _ = r := h
  refine FinH.l ?_
  simp -failIfUnchanged only [↓RA, RB, RS, fx60, p1, p2, p3, p4, reduceIte, p5, p6, p7, p8]

def fx61 := And.intro @ty_3 <| And.intro @zc_3 <| And.intro @z_3 <| And.intro @ty_9 <| And.intro @zc_9 <| And.intro @z_9 <| And.intro @u_9 <| And.intro @ty_28 <| And.intro @zc_28 <| And.intro @z_28 <| And.intro @es_28 <| And.intro @eb_28 <| And.intro @sl_28 <| And.intro @is_28 <| And.intro @el_28 <| And.intro @ze_28 <| And.intro @ez_28 <| And.intro @ty_29 <| And.intro @zc_29 <| And.intro @z_29 <| And.intro @es_29 <| And.intro @eb_29 <| And.intro @sl_29 <| And.intro @is_29 <| And.intro @el_29 <| And.intro @ze_29 <| And.intro @ez_29 <| And.intro @ty_31 <| And.intro @zc_31 <| And.intro @z_31 <| And.intro @fo_31_0 <| And.intro @fi_31_0 <| And.intro @ft_31_0 <| And.intro @fo_31_1 <| And.intro @fi_31_1 <| And.intro @ft_31_1 <| And.intro @fo_31_2 <| And.intro @fi_31_2 <| And.intro @ft_31_2 <| And.intro @lay_31 <| And.intro @ty_78 <| @mixedT
set_option maxHeartbeats 4000000 in
theorem impl_Linear__add_sat {a0 : Linear} {a1 : GMap Int} {a2 : Int}  {r : Int × (GMap Int)} (h : impl_Linear__add a0 a1 a2 = some r) : SatH Tryz.prog 61 [((Linear.pv false) a0)] [(I a2)] .mp [] (.mp (gmap I a1.es) a1.clock) (.mp (gmap I r.2.es) r.2.clock) (I r.1) := by
  replace h := Run.of h
  unfold impl_Linear__add at h
  refine SatH.of_k (nt := 33) (rs := [.tmp 6]) (n := 100000) 1 Tryz.func61 rfl rfl rfl rfl rfl (Nat.le_of_ble_eq_true rfl) (by decide) (Nat.le_of_ble_eq_true rfl) ?_
  simp -failIfUnchanged only [↓RA, RH, RB, RS, fx61, p1, p2, p3, p4, reduceIte, p5, p6, p7, p8]
  repeat (first | with_reducible refine noR_and (by repeat (first | exact noR_empty _ _ | exact noR_nilS _ _ | refine noR_mk _ _ _ _ _ rfl ?_ | refine noR_mkS _ _ _ _ _ rfl ?_)) ?_ | with_reducible refine noC_and (by repeat (first | exact noC_empty _ _ (by simp -failIfUnchanged only [↓RA, RH, RB, RS, fx61, p1, p2, p3, p4, reduceIte, p5, p6, p7, p8]) | exact noC_nilS _ _ (by simp -failIfUnchanged only [↓RA, RH, RB, RS, fx61, p1, p2, p3, p4, reduceIte, p5, p6, p7, p8]) | refine noC_mk _ _ _ _ _ rfl ?_ | refine noC_mkS _ _ _ _ _ rfl ?_)) ?_ | with_reducible refine and_ac ?_ | with_reducible refine And.intro (a := _ = List.range _) (by rfl) ?_)
  refine Mg.know_sl (b := false) (sz := 1) (es := a0.Vars.map Sx) 10 (by simp -failIfUnchanged only [↓RA, RH, RB, RS, fx61, p1, p2, p3, p4, reduceIte, p5, p6, p7, p8]) fun hl10 => ?_; rw [List.length_map] at hl10
  replace h := run_loop h
  refine Mg.forN h (fun i2 s2 => [(1, .hold .mp [] (.mp (gmap I (s2).es) (s2).clock)), (2, .val (.pv (I a2))), (3, .box (.pv ((Linear.pv false) a0))), (10, .val (.pv (.sl false 1 (a0.Vars.map Sx)))), (11, .val (.pv (I (a0.Vars.length : Int)))), (12, .val (.pv (I (i2 : Int)))), (20000, gh 1)]) (fun i2 s2 => []) (St.le_mk2 (by simp -failIfUnchanged only [↓RA, RH, RB, RS, fx61, p1, p2, p3, p4, reduceIte, p5, p6, p7, p8])) (fun i2 s2 hi h => ?_) (fun s2 h => ?_)
  · have w2 := wrap_succ (i := i2) (by omega)
    simp -failIfUnchanged only [↓RA, RH, RB, RS, fx61, p1, p2, p3, p4, reduceIte, p5, p6, p7, p8]
    refine CondH.tt (decide_eq_true (by omega)) (fun c1 => ?_)
    simp -failIfUnchanged only [↓RA, RH, RB, RS, fx61, p1, p2, p3, p4, reduceIte, p5, p6, p7, p8, c1]
    obtain ⟨v15, hv15, h⟩ := run_bind h
    refine IdxH.mk (f := Sx) hv15 ?_ ?_ <;> simp -failIfUnchanged only [↓RA, RH, RB, RS, fx61, p1, p2, p3, p4, reduceIte, p5, p6, p7, p8, c1]
    refine HandH.lookup (E := 3) (r := 1) (sh := .mp) (ps := []) (m := s2) (f := I) (k := v15) (z0 := (0 : Int)) mt_78 mz_3 (by simp -failIfUnchanged only [↓RA, RH, RB, RS, fx61, p1, p2, p3, p4, reduceIte, p5, p6, p7, p8, c1]) ?_
    simp -failIfUnchanged only [↓RA, RH, RB, RS, fx61, p1, p2, p3, p4, reduceIte, p5, p6, p7, p8, c1]
    obtain ⟨v24, hv24, h⟩ := run_bind h
    refine IdxH.mk (f := I) hv24 ?_ ?_ <;> simp -failIfUnchanged only [↓RA, RH, RB, RS, fx61, p1, p2, p3, p4, reduceIte, p5, p6, p7, p8, c1]
    refine HandH.put (E := 3) (r := 1) (sh := .mp) (ps := []) (m := s2) (f := I) (k := v15) (v0 := IntKind.i64.wrap ((GMap.get s2 v15 (0 : Int)) + (IntKind.i64.wrap (a2 * v24)))) (c := (.pv (I (IntKind.i64.wrap ((GMap.get s2 v15 (0 : Int)) + (IntKind.i64.wrap (a2 * v24))))))) mt_78 (by simp -failIfUnchanged only [↓RA, RH, RB, RS, fx61, p1, p2, p3, p4, reduceIte, p5, p6, p7, p8, c1]) ?_
    simp -failIfUnchanged only [↓RA, RH, RB, RS, fx61, p1, p2, p3, p4, reduceIte, p5, p6, p7, p8, c1]
    refine And.intro (DrawH.none (by rfl) (by first | rfl | (simp -failIfUnchanged only [↓RA, RH, RB, RS, fx61, p1, p2, p3, p4, reduceIte, p5, p6, p7, p8] <;> rfl)) (by first | rfl | (simp -failIfUnchanged only [↓RA, RH, RB, RS, fx61, p1, p2, p3, p4, reduceIte, p5, p6, p7, p8] <;> rfl)) (by first | rfl | (simp -failIfUnchanged only [↓RA, RH, RB, RS, fx61, p1, p2, p3, p4, reduceIte, p5, p6, p7, p8] <;> rfl))) ?_
    simp -failIfUnchanged only [↓RA, RH, RB, RS, fx61, p1, p2, p3, p4, reduceIte, p5, p6, p7, p8, c1]
    have h := run_some h
    refine RdH.mk ⟨_, h, ?_⟩
    refine St.le_mk2 ?_
    simp -failIfUnchanged only [↓RA, RH, RB, RS, fx61, p1, p2, p3, p4, reduceIte, p5, p6, p7, p8, c1, w2]
  · simp -failIfUnchanged only [↓RA, RH, RB, RS, fx61, p1, p2, p3, p4, reduceIte, p5, p6, p7, p8]
    refine CondH.ff (decide_eq_false (by omega)) (fun c2 => ?_)
    simp -failIfUnchanged only [↓RA, RH, RB, RS, fx61, p1, p2, p3, p4, reduceIte, p5, p6, p7, p8, c2]
    have h := run_some h
    obtain rfl : _ = r := h
    refine RetHB.l ?_
    simp -failIfUnchanged only [↓RA, RH, RB, RS, fx61, p1, p2, p3, p4, reduceIte, p5, p6, p7, p8, c2]


def fx86 := And.intro @ty_3 <| And.intro @zc_3 <| And.intro @z_3 <| And.intro @ty_4 <| And.intro @zc_4 <| And.intro @z_4 <| And.intro @u_4 <| And.intro @ty_9 <| And.intro @zc_9 <| And.intro @z_9 <| And.intro @u_9 <| And.intro @ty_28 <| And.intro @zc_28 <| And.intro @z_28 <| And.intro @es_28 <| And.intro @eb_28 <| And.intro @sl_28 <| And.intro @is_28 <| And.intro @el_28 <| And.intro @ze_28 <| And.intro @ez_28 <| And.intro @ty_29 <| And.intro @zc_29 <| And.intro @z_29 <| And.intro @es_29 <| And.intro @eb_29 <| And.intro @sl_29 <| And.intro @is_29 <| And.intro @el_29 <| And.intro @ze_29 <| And.intro @ez_29 <| And.intro @ty_31 <| And.intro @zc_31 <| And.intro @z_31 <| And.intro @fo_31_0 <| And.intro @fi_31_0 <| And.intro @ft_31_0 <| And.intro @fo_31_1 <| And.intro @fi_31_1 <| And.intro @ft_31_1 <| And.intro @fo_31_2 <| And.intro @fi_31_2 <| And.intro @ft_31_2 <| @lay_31
set_option maxHeartbeats 4000000 in
theorem impl_IsValidLinear_sat {a0 : Linear}  {r : Bool} (h : impl_IsValidLinear a0 = some r) : Sat Tryz.prog 86 [((Linear.pv false) a0)] (B r) := by
  replace h := Run.of h
  unfold impl_IsValidLinear at h
  refine Sat.of_m (nt := 59) (rs := [.tmp 2]) (n := 100000) Tryz.func86 rfl rfl rfl rfl (by simp) ?_
  simp -failIfUnchanged only [↓RA, RB, RS, fx86, p1, p2, p3, p4, reduceIte, p5, p6, p7, p8]
  repeat (first | with_reducible refine noR_and (by repeat (first | exact noR_empty _ _ | exact noR_nilS _ _ | refine noR_mk _ _ _ _ _ rfl ?_ | refine noR_mkS _ _ _ _ _ rfl ?_)) ?_ | with_reducible refine noC_and (by repeat (first | exact noC_empty _ _ (by simp -failIfUnchanged only [↓RA, RB, RS, fx86, p1, p2, p3, p4, reduceIte, p5, p6, p7, p8]) | exact noC_nilS _ _ (by simp -failIfUnchanged only [↓RA, RB, RS, fx86, p1, p2, p3, p4, reduceIte, p5, p6, p7, p8]) | refine noC_mk _ _ _ _ _ rfl ?_ | refine noC_mkS _ _ _ _ _ rfl ?_)) ?_ | with_reducible refine and_ac ?_ | with_reducible refine And.intro (a := _ = List.range _) (by rfl) ?_)
  refine CondH.mk (fun c1 => ?_) (fun c1 => ?_)
  · replace h := run_t c1 h
    simp -failIfUnchanged only [↓RA, RB, RS, fx86, p1, p2, p3, p4, reduceIte, p5, p6, p7, p8, c1]
    have h := run_some h
    obtain rfl : _ = r := h
    refine FinH.l ?_
    simp -failIfUnchanged only [↓RA, RB, RS, fx86, p1, p2, p3, p4, reduceIte, p5, p6, p7, p8, c1]
  · replace h := run_f c1 h
    simp -failIfUnchanged only [↓RA, RB, RS, fx86, p1, p2, p3, p4, reduceIte, p5, p6, p7, p8, c1]
    refine CondH.mk (fun c2 => ?_) (fun c2 => ?_)
    · replace h := run_t c2 h
      simp -failIfUnchanged only [↓RA, RB, RS, fx86, p1, p2, p3, p4, reduceIte, p5, p6, p7, p8, c1, c2]
      obtain ⟨v21, hv21, h⟩ := run_bind h
      refine CallH.mk [false, false, false] (impl_within_sat hv21) ?_ ?_ <;> simp -failIfUnchanged only [↓RA, RB, RS, fx86, p1, p2, p3, p4, reduceIte, p5, p6, p7, p8, c1, c2]
      refine CondH.mk (fun c3 => ?_) (fun c3 => ?_)
      · replace h := run_t c3 h
        simp -failIfUnchanged only [↓RA, RB, RS, fx86, p1, p2, p3, p4, reduceIte, p5, p6, p7, p8, c1, c2, c3]
        refine Mg.know_sl (b := false) (sz := 1) (es := a0.Vars.map Sx) 6 (by simp -failIfUnchanged only [↓RA, RB, RS, fx86, p1, p2, p3, p4, reduceIte, p5, p6, p7, p8, c1, c2, c3]) fun hl6 => ?_; rw [List.length_map] at hl6
        replace h := run_loop h
        refine Mg.forN h (fun i4 s4 => [(1, .box (.pv ((Linear.pv false) a0))), (25, .val (.pv (.sl false 1 (a0.Vars.map Sx)))), (26, .val (.pv (I (a0.Vars.length : Int)))), (27, .val (.pv (I (i4 : Int))))]) (fun i4 s4 => []) (St.le_mk2 (by simp -failIfUnchanged only [↓RA, RB, RS, fx86, p1, p2, p3, p4, reduceIte, p5, p6, p7, p8, c1, c2, c3])) (fun i4 s4 hi h => ?_) (fun s4 h => ?_)
        · have w4 := wrap_succ (i := i4) (by omega)
          simp -failIfUnchanged only [↓RA, RB, RS, fx86, p1, p2, p3, p4, reduceIte, p5, p6, p7, p8, c1, c2, c3]
          refine CondH.tt (decide_eq_true (by omega)) (fun c4 => ?_)
          simp -failIfUnchanged only [↓RA, RB, RS, fx86, p1, p2, p3, p4, reduceIte, p5, p6, p7, p8, c1, c2, c3, c4]
          obtain ⟨v30, hv30, h⟩ := run_bind h
          refine IdxH.mk (f := Sx) hv30 ?_ ?_ <;> simp -failIfUnchanged only [↓RA, RB, RS, fx86, p1, p2, p3, p4, reduceIte, p5, p6, p7, p8, c1, c2, c3, c4]
          obtain ⟨v33, hv33, h⟩ := run_bind h
          refine CallH.mk [false] (impl_isVariable_sat hv33) ?_ ?_ <;> simp -failIfUnchanged only [↓RA, RB, RS, fx86, p1, p2, p3, p4, reduceIte, p5, p6, p7, p8, c1, c2, c3, c4]
          refine CondH.mk (fun c5 => ?_) (fun c5 => ?_)
          · replace h := run_t c5 h
            simp -failIfUnchanged only [↓RA, RB, RS, fx86, p1, p2, p3, p4, reduceIte, p5, p6, p7, p8, c1, c2, c3, c4, c5]
            refine CondH.mk (fun c6 => ?_) (fun c6 => ?_)
            · replace h := run_t c6 h
              simp -failIfUnchanged only [↓RA, RB, RS, fx86, p1, p2, p3, p4, reduceIte, p5, p6, p7, p8, c1, c2, c3, c4, c5, c6]
              obtain ⟨v44, hv44, h⟩ := run_bind h
              refine IdxH.mk (f := Sx) hv44 ?_ ?_ <;> simp -failIfUnchanged only [↓RA, RB, RS, fx86, p1, p2, p3, p4, reduceIte, p5, p6, p7, p8, c1, c2, c3, c4, c5, c6]
              refine CondH.mk (fun c7 => ?_) (fun c7 => ?_)
              · replace h := run_t c7 h
                simp -failIfUnchanged only [↓RA, RB, RS, fx86, p1, p2, p3, p4, reduceIte, p5, p6, p7, p8, c1, c2, c3, c4, c5, c6, c7]
                have h := run_some h
                obtain rfl : _ = r := h
                refine FinH.l ?_
                simp -failIfUnchanged only [↓RA, RB, RS, fx86, p1, p2, p3, p4, reduceIte, p5, p6, p7, p8, c1, c2, c3, c4, c5, c6, c7]
              · replace h := run_f c7 h
                simp -failIfUnchanged only [↓RA, RB, RS, fx86, p1, p2, p3, p4, reduceIte, p5, p6, p7, p8, c1, c2, c3, c4, c5, c6, c7]
                obtain ⟨v53, hv53, h⟩ := run_bind h
                refine IdxH.mk (f := I) hv53 ?_ ?_ <;> simp -failIfUnchanged only [↓RA, RB, RS, fx86, p1, p2, p3, p4, reduceIte, p5, p6, p7, p8, c1, c2, c3, c4, c5, c6, c7]
                obtain ⟨v55, hv55, h⟩ := run_bind h
                refine CallH.mk [false, false, false] (impl_within_sat hv55) ?_ ?_ <;> simp -failIfUnchanged only [↓RA, RB, RS, fx86, p1, p2, p3, p4, reduceIte, p5, p6, p7, p8, c1, c2, c3, c4, c5, c6, c7]
                refine CondH.mk (fun c8 => ?_) (fun c8 => ?_)
                · replace h := run_t c8 h
                  simp -failIfUnchanged only [↓RA, RB, RS, fx86, p1, p2, p3, p4, reduceIte, p5, p6, p7, p8, c1, c2, c3, c4, c5, c6, c7, c8]
                  have h := run_some h
                  refine RdH.mk ⟨_, h, ?_⟩
                  refine St.le_mk2 ?_
                  simp -failIfUnchanged only [↓RA, RB, RS, fx86, p1, p2, p3, p4, reduceIte, p5, p6, p7, p8, c1, c2, c3, c4, c5, c6, c7, c8, w4]
                · replace h := run_f c8 h
                  simp -failIfUnchanged only [↓RA, RB, RS, fx86, p1, p2, p3, p4, reduceIte, p5, p6, p7, p8, c1, c2, c3, c4, c5, c6, c7, c8]
                  have h := run_some h
                  obtain rfl : _ = r := h
                  refine FinH.l ?_
                  simp -failIfUnchanged only [↓RA, RB, RS, fx86, p1, p2, p3, p4, reduceIte, p5, p6, p7, p8, c1, c2, c3, c4, c5, c6, c7, c8]
            · replace h := run_f c6 h
              simp -failIfUnchanged only [↓RA, RB, RS, fx86, p1, p2, p3, p4, reduceIte, p5, p6, p7, p8, c1, c2, c3, c4, c5, c6]
              obtain ⟨v53, hv53, h⟩ := run_bind h
              refine IdxH.mk (f := I) hv53 ?_ ?_ <;> simp -failIfUnchanged only [↓RA, RB, RS, fx86, p1, p2, p3, p4, reduceIte, p5, p6, p7, p8, c1, c2, c3, c4, c5, c6]
              obtain ⟨v55, hv55, h⟩ := run_bind h
              refine CallH.mk [false, false, false] (impl_within_sat hv55) ?_ ?_ <;> simp -failIfUnchanged only [↓RA, RB, RS, fx86, p1, p2, p3, p4, reduceIte, p5, p6, p7, p8, c1, c2, c3, c4, c5, c6]
              refine CondH.mk (fun c9 => ?_) (fun c9 => ?_)
              · replace h := run_t c9 h
                simp -failIfUnchanged only [↓RA, RB, RS, fx86, p1, p2, p3, p4, reduceIte, p5, p6, p7, p8, c1, c2, c3, c4, c5, c6, c9]
                have h := run_some h
                refine RdH.mk ⟨_, h, ?_⟩
                refine St.le_mk2 ?_
                simp -failIfUnchanged only [↓RA, RB, RS, fx86, p1, p2, p3, p4, reduceIte, p5, p6, p7, p8, c1, c2, c3, c4, c5, c6, c9, w4]
              · replace h := run_f c9 h
                simp -failIfUnchanged only [↓RA, RB, RS, fx86, p1, p2, p3, p4, reduceIte, p5, p6, p7, p8, c1, c2, c3, c4, c5, c6, c9]
                have h := run_some h
                obtain rfl : _ = r := h
                refine FinH.l ?_
                simp -failIfUnchanged only [↓RA, RB, RS, fx86, p1, p2, p3, p4, reduceIte, p5, p6, p7, p8, c1, c2, c3, c4, c5, c6, c9]
          · replace h := run_f c5 h
            simp -failIfUnchanged only [↓RA, RB, RS, fx86, p1, p2, p3, p4, reduceIte, p5, p6, p7, p8, c1, c2, c3, c4, c5]
            have h := run_some h
            obtain rfl : _ = r := h
            refine FinH.l ?_
            simp -failIfUnchanged only [↓RA, RB, RS, fx86, p1, p2, p3, p4, reduceIte, p5, p6, p7, p8, c1, c2, c3, c4, c5]
        · simp -failIfUnchanged only [↓RA, RB, RS, fx86, p1, p2, p3, p4, reduceIte, p5, p6, p7, p8, c1, c2, c3]
          refine CondH.ff (decide_eq_false (by omega)) (fun c10 => ?_)
          simp -failIfUnchanged only [↓RA, RB, RS, fx86, p1, p2, p3, p4, reduceIte, p5, p6, p7, p8, c1, c2, c3, c10]
          have h := run_some h
          obtain rfl : _ = r := h
          refine FinH.l ?_
          simp -failIfUnchanged only [↓RA, RB, RS, fx86, p1, p2, p3, p4, reduceIte, p5, p6, p7, p8, c1, c2, c3, c10]
      · replace h := run_f c3 h
        simp -failIfUnchanged only [↓RA, RB, RS, fx86, p1, p2, p3, p4, reduceIte, p5, p6, p7, p8, c1, c2, c3]
        have h := run_some h
        obtain rfl : _ = r := h
        refine FinH.l ?_
        simp -failIfUnchanged only [↓RA, RB, RS, fx86, p1, p2, p3, p4, reduceIte, p5, p6, p7, p8, c1, c2, c3]
    · replace h := run_f c2 h
      simp -failIfUnchanged only [↓RA, RB, RS, fx86, p1, p2, p3, p4, reduceIte, p5, p6, p7, p8, c1, c2]
      have h := run_some h
      obtain rfl : _ = r := h
      refine FinH.l ?_
      simp -failIfUnchanged only [↓RA, RB, RS, fx86, p1, p2, p3, p4, reduceIte, p5, p6, p7, p8, c1, c2]

def fx62 := And.intro @ty_3 <| And.intro @zc_3 <| And.intro @z_3 <| And.intro @ty_4 <| And.intro @zc_4 <| And.intro @z_4 <| And.intro @u_4 <| And.intro @ty_9 <| And.intro @zc_9 <| And.intro @z_9 <| And.intro @u_9 <| And.intro @ty_28 <| And.intro @zc_28 <| And.intro @z_28 <| And.intro @es_28 <| And.intro @eb_28 <| And.intro @sl_28 <| And.intro @is_28 <| And.intro @el_28 <| And.intro @ze_28 <| And.intro @ez_28 <| And.intro @ty_29 <| And.intro @zc_29 <| And.intro @z_29 <| And.intro @es_29 <| And.intro @eb_29 <| And.intro @sl_29 <| And.intro @is_29 <| And.intro @el_29 <| And.intro @ze_29 <| And.intro @ez_29 <| And.intro @ty_31 <| And.intro @zc_31 <| And.intro @z_31 <| And.intro @fo_31_0 <| And.intro @fi_31_0 <| And.intro @ft_31_0 <| And.intro @fo_31_1 <| And.intro @fi_31_1 <| And.intro @ft_31_1 <| And.intro @fo_31_2 <| And.intro @fi_31_2 <| And.intro @ft_31_2 <| And.intro @lay_31 <| @ty_78
set_option maxHeartbeats 4000000 in
theorem impl_linearR_sat {a0 : GMap Int} {a1 : Int} {r : Linear × Bool} (h : ∀ ord, ord.Perm a0.es → impl_linearR ord a0 a1 = some r) : SatH Tryz.prog 62 [] [(I a1)] .mp [] (.mp (gmap I a0.es) a0.clock) (.mp (gmap I a0.es) a0.clock) (.tup [((Linear.pv true) r.1), (B r.2)]) := by
  replace h := fun ord ho => Run.of (h ord ho)
  simp only [impl_linearR] at h
  refine SatH.of_ki (nt := 52) (rs := [.cell 4 31, .tmp 5]) (n := 100000) 0 Tryz.func62 rfl rfl rfl rfl rfl (Nat.le_of_ble_eq_true rfl) (by decide) (Nat.le_of_ble_eq_true rfl) ?_
  simp -failIfUnchanged only [↓RA, ↓RI, RH, RB, RJ, RS, fx62, p1, p2, p3, p4, reduceIte, p5, p6, p7, p8]
  refine VSeq.step ?_
  simp -failIfUnchanged only [↓RA, ↓RI, RH, RB, RJ, RS, fx62, p1, p2, p3, p4, reduceIte, p5, p6, p7, p8]
  repeat (first | with_reducible refine noR_and (by repeat (first | exact noR_empty _ _ | exact noR_nilS _ _ | refine noR_mk _ _ _ _ _ rfl ?_ | refine noR_mkS _ _ _ _ _ rfl ?_)) ?_ | with_reducible refine noC_and (by repeat (first | exact noC_empty _ _ (by simp -failIfUnchanged only [↓RA, ↓RI, RH, RB, RJ, RS, fx62, p1, p2, p3, p4, reduceIte, p5, p6, p7, p8]) | exact noC_nilS _ _ (by simp -failIfUnchanged only [↓RA, ↓RI, RH, RB, RJ, RS, fx62, p1, p2, p3, p4, reduceIte, p5, p6, p7, p8]) | refine noC_mk _ _ _ _ _ rfl ?_ | refine noC_mkS _ _ _ _ _ rfl ?_)) ?_ | with_reducible refine and_ac ?_ | with_reducible refine And.intro (a := _ = List.range _) (by rfl) ?_)
  refine VSeq.step ?_
  simp -failIfUnchanged only [↓RA, ↓RI, RH, RB, RJ, RS, fx62, p1, p2, p3, p4, reduceIte, p5, p6, p7, p8]
  refine VSeq.nil (Nat.le_of_eq rfl) ?_
  simp -failIfUnchanged only [↓RA, ↓RI, RH, RB, RJ, RS, fx62, p1, p2, p3, p4, reduceIte, p5, p6, p7, p8]
  refine VSeq.step ?_
  simp -failIfUnchanged only [↓RA, ↓RI, RH, RB, RJ, RS, fx62, p1, p2, p3, p4, reduceIte, p5, p6, p7, p8]
  refine VSeq.step ?_
  simp -failIfUnchanged only [↓RA, ↓RI, RH, RB, RJ, RS, fx62, p1, p2, p3, p4, reduceIte, p5, p6, p7, p8]
  refine VSeq.step ?_
  simp -failIfUnchanged only [↓RA, ↓RI, RH, RB, RJ, RS, fx62, p1, p2, p3, p4, reduceIte, p5, p6, p7, p8]
  repeat (first | with_reducible refine noR_and (by repeat (first | exact noR_empty _ _ | exact noR_nilS _ _ | refine noR_mk _ _ _ _ _ rfl ?_ | refine noR_mkS _ _ _ _ _ rfl ?_)) ?_ | with_reducible refine noC_and (by repeat (first | exact noC_empty _ _ (by simp -failIfUnchanged only [↓RA, ↓RI, RH, RB, RJ, RS, fx62, p1, p2, p3, p4, reduceIte, p5, p6, p7, p8]) | exact noC_nilS _ _ (by simp -failIfUnchanged only [↓RA, ↓RI, RH, RB, RJ, RS, fx62, p1, p2, p3, p4, reduceIte, p5, p6, p7, p8]) | refine noC_mk _ _ _ _ _ rfl ?_ | refine noC_mkS _ _ _ _ _ rfl ?_)) ?_ | with_reducible refine and_ac ?_ | with_reducible refine And.intro (a := _ = List.range _) (by rfl) ?_)
  refine VSeq.step ?_
  simp -failIfUnchanged only [↓RA, ↓RI, RH, RB, RJ, RS, fx62, p1, p2, p3, p4, reduceIte, p5, p6, p7, p8]
  refine VSeq.nil (Nat.le_of_eq rfl) ?_
  simp -failIfUnchanged only [↓RA, ↓RI, RH, RB, RJ, RS, fx62, p1, p2, p3, p4, reduceIte, p5, p6, p7, p8]
  refine VSeq.step ?_
  simp -failIfUnchanged only [↓RA, ↓RI, RH, RB, RJ, RS, fx62, p1, p2, p3, p4, reduceIte, p5, p6, p7, p8]
  refine VSeq.step ?_
  simp -failIfUnchanged only [↓RA, ↓RI, RH, RB, RJ, RS, fx62, p1, p2, p3, p4, reduceIte, p5, p6, p7, p8]
  refine HandH.range (E := 3) (r := 0) (sh := .mp) (ps := []) (m := a0) (f := I) mt_78 (by simp -failIfUnchanged only [↓RA, ↓RI, RH, RB, RJ, RS, fx62, p1, p2, p3, p4, reduceIte, p5, p6, p7, p8]) ?_
  simp -failIfUnchanged only [↓RA, ↓RI, RH, RB, RJ, RS, fx62, p1, p2, p3, p4, reduceIte, p5, p6, p7, p8]
  repeat (first | with_reducible refine noR_and (by repeat (first | exact noR_empty _ _ | exact noR_nilS _ _ | refine noR_mk _ _ _ _ _ rfl ?_ | refine noR_mkS _ _ _ _ _ rfl ?_)) ?_ | with_reducible refine noC_and (by repeat (first | exact noC_empty _ _ (by simp -failIfUnchanged only [↓RA, ↓RI, RH, RB, RJ, RS, fx62, p1, p2, p3, p4, reduceIte, p5, p6, p7, p8]) | exact noC_nilS _ _ (by simp -failIfUnchanged only [↓RA, ↓RI, RH, RB, RJ, RS, fx62, p1, p2, p3, p4, reduceIte, p5, p6, p7, p8]) | refine noC_mk _ _ _ _ _ rfl ?_ | refine noC_mkS _ _ _ _ _ rfl ?_)) ?_ | with_reducible refine and_ac ?_ | with_reducible refine And.intro (a := _ = List.range _) (by rfl) ?_)
  refine VSeq.nil (Nat.le_of_eq rfl) ?_
  simp -failIfUnchanged only [↓RA, ↓RI, RH, RB, RJ, RS, fx62, p1, p2, p3, p4, reduceIte, p5, p6, p7, p8]
  replace h := fun ord ho => run_loop (h ord ho)
  refine MgI.range (fun e => e.2.2) h (fun pre3 s3 => [(0, .hold .mp [] (.mp (gmap I (a0).es) (a0).clock)), (4, .box (.node [(.pv (.sl true 1 [])), (.pv (.sl true 1 [])), (.pv (I (0 : Int)))])), (6, .box (.node [(.own 9309), (.pv (.sl true 1 [])), (.pv (I a1))])), (14, .hold .ptr [] (.it 0 (a0).clock (pre3.map fun e => e.2.2) (a0).clock)), (20000, gh 0)]) (fun pre3 s3 => [(9309, (1, s3.map Sx))]) (St.le_trans (St.le_nilB (x := (.node [(.pv (.sl true 1 [])), (.pv (.sl true 1 [])), (.pv (I a1))])) 6 [0] 9309 1 (by repeat (first | exact noC_empty _ _ (by simp -failIfUnchanged only [↓RA, ↓RI, RH, RB, RJ, RS, fx62, p1, p2, p3, p4, reduceIte, p5, p6, p7, p8]) | exact noC_nilS _ _ (by simp -failIfUnchanged only [↓RA, ↓RI, RH, RB, RJ, RS, fx62, p1, p2, p3, p4, reduceIte, p5, p6, p7, p8]) | refine noC_mk _ _ _ _ _ rfl ?_ | refine noC_mkS _ _ _ _ _ rfl ?_)) (by simp -failIfUnchanged only [↓RA, ↓RI, RH, RB, RJ, RS, fx62, p1, p2, p3, p4, reduceIte, p5, p6, p7, p8]) (by simp -failIfUnchanged only [↓RA, ↓RI, RH, RB, RJ, RS, fx62, p1, p2, p3, p4, reduceIte, p5, p6, p7, p8]) (by simp -failIfUnchanged only [↓RA, ↓RI, RH, RB, RJ, RS, fx62, p1, p2, p3, p4, reduceIte, p5, p6, p7, p8])) (St.le_mk2 (by simp -failIfUnchanged only [↓RA, ↓RI, RH, RB, RJ, RS, fx62, p1, p2, p3, p4, reduceIte, p5, p6, p7, p8]))) (fun pre3 s3 hI3 => ?_)
  simp -failIfUnchanged only [↓RA, ↓RI, RH, RB, RJ, RS, fx62, p1, p2, p3, p4, reduceIte, p5, p6, p7, p8]
  refine VSeq.next (r := 0) (kt := 14) (m := a0) (f := I) (seen := pre3.map fun e => e.2.2) (sh := .mp) (ps := []) rfl rfl rfl rfl (by decide) (by decide) rfl (by simp -failIfUnchanged only [↓RA, ↓RI, RH, RB, RJ, RS, fx62, p1, p2, p3, p4, reduceIte, p5, p6, p7, p8]) (fun hd3 ha3 => ?_) (fun e3 he3 hn3 => ?_)
  · replace h := RngI.done hI3 hd3 ha3
    refine VSeq.step ?_
    simp -failIfUnchanged only [↓RA, ↓RI, RH, RB, RJ, RS, fx62, p1, p2, p3, p4, reduceIte, p5, p6, p7, p8]
    refine VSeq.nil (Nat.le_of_eq rfl) ?_
    simp -failIfUnchanged only [↓RA, ↓RI, RH, RB, RJ, RS, fx62, p1, p2, p3, p4, reduceIte, p5, p6, p7, p8]
    refine VSeq.step ?_
    simp -failIfUnchanged only [↓RA, ↓RI, RH, RB, RJ, RS, fx62, p1, p2, p3, p4, reduceIte, p5, p6, p7, p8]
    refine VSeq.step ?_
    simp -failIfUnchanged only [↓RA, ↓RI, RH, RB, RJ, RS, fx62, p1, p2, p3, p4, reduceIte, p5, p6, p7, p8]
    refine VSeq.step ?_
    simp -failIfUnchanged only [↓RA, ↓RI, RH, RB, RJ, RS, fx62, p1, p2, p3, p4, reduceIte, p5, p6, p7, p8]
    obtain ⟨v30, hv30, h⟩ := run_bind h
    refine CallH.io0 [(.own 9309)] [(9309, (1, v30.2.map Sx))] (slices_SortS_sat hv30) ?_ ?_ <;> simp -failIfUnchanged only [↓RA, ↓RI, RH, RB, RJ, RS, fx62, p1, p2, p3, p4, reduceIte, p5, p6, p7, p8]
    refine VSeq.nil (Nat.le_of_eq rfl) ?_
    simp -failIfUnchanged only [↓RA, ↓RI, RH, RB, RJ, RS, fx62, p1, p2, p3, p4, reduceIte, p5, p6, p7, p8]
    refine VSeq.step ?_
    simp -failIfUnchanged only [↓RA, ↓RI, RH, RB, RJ, RS, fx62, p1, p2, p3, p4, reduceIte, p5, p6, p7, p8]
    refine VSeq.step ?_
    simp -failIfUnchanged only [↓RA, ↓RI, RH, RB, RJ, RS, fx62, p1, p2, p3, p4, reduceIte, p5, p6, p7, p8]
    refine VSeq.step ?_
    simp -failIfUnchanged only [↓RA, ↓RI, RH, RB, RJ, RS, fx62, p1, p2, p3, p4, reduceIte, p5, p6, p7, p8]
    refine VSeq.step ?_
    simp -failIfUnchanged only [↓RA, ↓RI, RH, RB, RJ, RS, fx62, p1, p2, p3, p4, reduceIte, p5, p6, p7, p8]
    refine VSeq.nil (Nat.le_of_eq rfl) ?_
    simp -failIfUnchanged only [↓RA, ↓RI, RH, RB, RJ, RS, fx62, p1, p2, p3, p4, reduceIte, p5, p6, p7, p8]
    refine MgI.know_own (sz := 1) (es := v30.2.map Sx) 9309 (by simp -failIfUnchanged only [↓RA, ↓RI, RH, RB, RJ, RS, fx62, p1, p2, p3, p4, reduceIte, p5, p6, p7, p8]) fun hl9309 => ?_; rw [List.length_map] at hl9309
    replace h := run_loop h
    refine MgI.forN h (fun i9 s9 => [(0, .hold .mp [] (.mp (gmap I (a0).es) (a0).clock)), (4, .box (.node [(.pv (.sl true 1 [])), (.pv (.sl true 1 [])), (.pv (I (0 : Int)))])), (6, .box (.node [(.own 9309), (.own 9327), (.pv (I a1))])), (32, .val (.own 9309)), (33, .val (.pv (I (v30.2.length : Int)))), (34, .val (.pv (I (i9 : Int)))), (20000, gh 0)]) (fun i9 s9 => [(9309, (1, v30.2.map Sx)), (9327, (1, s9.map I))]) (St.le_trans (St.le_nilB (x := (.node [(.own 9309), (.pv (.sl true 1 [])), (.pv (I a1))])) 6 [1] 9327 1 (by repeat (first | exact noC_empty _ _ (by simp -failIfUnchanged only [↓RA, ↓RI, RH, RB, RJ, RS, fx62, p1, p2, p3, p4, reduceIte, p5, p6, p7, p8]) | exact noC_nilS _ _ (by simp -failIfUnchanged only [↓RA, ↓RI, RH, RB, RJ, RS, fx62, p1, p2, p3, p4, reduceIte, p5, p6, p7, p8]) | refine noC_mk _ _ _ _ _ rfl ?_ | refine noC_mkS _ _ _ _ _ rfl ?_)) (by simp -failIfUnchanged only [↓RA, ↓RI, RH, RB, RJ, RS, fx62, p1, p2, p3, p4, reduceIte, p5, p6, p7, p8]) (by simp -failIfUnchanged only [↓RA, ↓RI, RH, RB, RJ, RS, fx62, p1, p2, p3, p4, reduceIte, p5, p6, p7, p8]) (by simp -failIfUnchanged only [↓RA, ↓RI, RH, RB, RJ, RS, fx62, p1, p2, p3, p4, reduceIte, p5, p6, p7, p8])) (St.le_mk2 (by simp -failIfUnchanged only [↓RA, ↓RI, RH, RB, RJ, RS, fx62, p1, p2, p3, p4, reduceIte, p5, p6, p7, p8]))) (fun i9 s9 hi h => ?_) (fun s9 h => ?_)
    · have w9 := wrap_succ (i := i9) (by omega)
      simp -failIfUnchanged only [↓RA, ↓RI, RH, RB, RJ, RS, fx62, p1, p2, p3, p4, reduceIte, p5, p6, p7, p8]
      refine VSeq.step ?_
      simp -failIfUnchanged only [↓RA, ↓RI, RH, RB, RJ, RS, fx62, p1, p2, p3, p4, reduceIte, p5, p6, p7, p8]
      refine VSeq.nil (Nat.le_of_eq rfl) ?_
      simp -failIfUnchanged only [↓RA, ↓RI, RH, RB, RJ, RS, fx62, p1, p2, p3, p4, reduceIte, p5, p6, p7, p8]
      refine CondH.tt (decide_eq_true (by omega)) (fun c2 => ?_)
      simp -failIfUnchanged only [↓RA, ↓RI, RH, RB, RJ, RS, fx62, p1, p2, p3, p4, reduceIte, p5, p6, p7, p8, c2]
      refine VSeq.step ?_
      simp -failIfUnchanged only [↓RA, ↓RI, RH, RB, RJ, RS, fx62, p1, p2, p3, p4, reduceIte, p5, p6, p7, p8, c2]
      obtain ⟨v36, hv36, h⟩ := run_bind h
      refine IdxH.mk (f := Sx) hv36 ?_ ?_ <;> simp -failIfUnchanged only [↓RA, ↓RI, RH, RB, RJ, RS, fx62, p1, p2, p3, p4, reduceIte, p5, p6, p7, p8, c2]
      refine VSeq.step ?_
      simp -failIfUnchanged only [↓RA, ↓RI, RH, RB, RJ, RS, fx62, p1, p2, p3, p4, reduceIte, p5, p6, p7, p8, c2]
      obtain ⟨v37, hv37, h⟩ := run_bind h
      refine EldH.mk (f := Sx) hv37 rfl ?_ ?_ <;> simp -failIfUnchanged only [↓RA, ↓RI, RH, RB, RJ, RS, fx62, p1, p2, p3, p4, reduceIte, p5, p6, p7, p8, c2]
      refine VSeq.step ?_
      simp -failIfUnchanged only [↓RA, ↓RI, RH, RB, RJ, RS, fx62, p1, p2, p3, p4, reduceIte, p5, p6, p7, p8, c2]
      refine VSeq.nil (Nat.le_of_eq rfl) ?_
      simp -failIfUnchanged only [↓RA, ↓RI, RH, RB, RJ, RS, fx62, p1, p2, p3, p4, reduceIte, p5, p6, p7, p8, c2]
      refine VSeq.step ?_
      simp -failIfUnchanged only [↓RA, ↓RI, RH, RB, RJ, RS, fx62, p1, p2, p3, p4, reduceIte, p5, p6, p7, p8, c2]
      refine VSeq.step ?_
      simp -failIfUnchanged only [↓RA, ↓RI, RH, RB, RJ, RS, fx62, p1, p2, p3, p4, reduceIte, p5, p6, p7, p8, c2]
      refine VSeq.step ?_
      simp -failIfUnchanged only [↓RA, ↓RI, RH, RB, RJ, RS, fx62, p1, p2, p3, p4, reduceIte, p5, p6, p7, p8, c2]
      refine VSeq.step ?_
      simp -failIfUnchanged only [↓RA, ↓RI, RH, RB, RJ, RS, fx62, p1, p2, p3, p4, reduceIte, p5, p6, p7, p8, c2]
      refine VSeq.step ?_
      simp -failIfUnchanged only [↓RA, ↓RI, RH, RB, RJ, RS, fx62, p1, p2, p3, p4, reduceIte, p5, p6, p7, p8, c2]
      refine HandH.lookup (E := 3) (r := 0) (sh := .mp) (ps := []) (m := a0) (f := I) (k := v37) (z0 := (0 : Int)) mt_78 mz_3 (by simp -failIfUnchanged only [↓RA, ↓RI, RH, RB, RJ, RS, fx62, p1, p2, p3, p4, reduceIte, p5, p6, p7, p8, c2]) ?_
      simp -failIfUnchanged only [↓RA, ↓RI, RH, RB, RJ, RS, fx62, p1, p2, p3, p4, reduceIte, p5, p6, p7, p8, c2]
      refine VSeq.step ?_
      simp -failIfUnchanged only [↓RA, ↓RI, RH, RB, RJ, RS, fx62, p1, p2, p3, p4, reduceIte, p5, p6, p7, p8, c2]
      repeat (first | with_reducible refine noR_and (by repeat (first | exact noR_empty _ _ | exact noR_nilS _ _ | refine noR_mk _ _ _ _ _ rfl ?_ | refine noR_mkS _ _ _ _ _ rfl ?_)) ?_ | with_reducible refine noC_and (by repeat (first | exact noC_empty _ _ (by simp -failIfUnchanged only [↓RA, ↓RI, RH, RB, RJ, RS, fx62, p1, p2, p3, p4, reduceIte, p5, p6, p7, p8]) | exact noC_nilS _ _ (by simp -failIfUnchanged only [↓RA, ↓RI, RH, RB, RJ, RS, fx62, p1, p2, p3, p4, reduceIte, p5, p6, p7, p8]) | refine noC_mk _ _ _ _ _ rfl ?_ | refine noC_mkS _ _ _ _ _ rfl ?_)) ?_ | with_reducible refine and_ac ?_ | with_reducible refine And.intro (a := _ = List.range _) (by rfl) ?_)
      refine VSeq.step ?_
      simp -failIfUnchanged only [↓RA, ↓RI, RH, RB, RJ, RS, fx62, p1, p2, p3, p4, reduceIte, p5, p6, p7, p8, c2]
      obtain ⟨v44, hv44, h⟩ := run_bind h
      refine AppH.mk (f := I) (fun _ => rfl) hv44 ?_ ?_ ?_ <;> simp -failIfUnchanged only [↓RA, ↓RI, RH, RB, RJ, RS, fx62, p1, p2, p3, p4, reduceIte, p5, p6, p7, p8, c2]
      repeat (first | with_reducible refine noR_and (by repeat (first | exact noR_empty _ _ | exact noR_nilS _ _ | refine noR_mk _ _ _ _ _ rfl ?_ | refine noR_mkS _ _ _ _ _ rfl ?_)) ?_ | with_reducible refine noC_and (by repeat (first | exact noC_empty _ _ (by simp -failIfUnchanged only [↓RA, ↓RI, RH, RB, RJ, RS, fx62, p1, p2, p3, p4, reduceIte, p5, p6, p7, p8]) | exact noC_nilS _ _ (by simp -failIfUnchanged only [↓RA, ↓RI, RH, RB, RJ, RS, fx62, p1, p2, p3, p4, reduceIte, p5, p6, p7, p8]) | refine noC_mk _ _ _ _ _ rfl ?_ | refine noC_mkS _ _ _ _ _ rfl ?_)) ?_ | with_reducible refine and_ac ?_ | with_reducible refine And.intro (a := _ = List.range _) (by rfl) ?_)
      refine VSeq.step ?_
      simp -failIfUnchanged only [↓RA, ↓RI, RH, RB, RJ, RS, fx62, p1, p2, p3, p4, reduceIte, p5, p6, p7, p8, c2]
      refine VSeq.step ?_
      simp -failIfUnchanged only [↓RA, ↓RI, RH, RB, RJ, RS, fx62, p1, p2, p3, p4, reduceIte, p5, p6, p7, p8, c2]
      refine VSeq.nil (Nat.le_of_eq rfl) ?_
      simp -failIfUnchanged only [↓RA, ↓RI, RH, RB, RJ, RS, fx62, p1, p2, p3, p4, reduceIte, p5, p6, p7, p8, c2]
      refine VSeq.step ?_
      simp -failIfUnchanged only [↓RA, ↓RI, RH, RB, RJ, RS, fx62, p1, p2, p3, p4, reduceIte, p5, p6, p7, p8, c2]
      refine VSeq.step ?_
      simp -failIfUnchanged only [↓RA, ↓RI, RH, RB, RJ, RS, fx62, p1, p2, p3, p4, reduceIte, p5, p6, p7, p8, c2]
      refine VSeq.nil (Nat.le_of_eq rfl) ?_
      simp -failIfUnchanged only [↓RA, ↓RI, RH, RB, RJ, RS, fx62, p1, p2, p3, p4, reduceIte, p5, p6, p7, p8, c2]
      have h := run_some h
      refine RdH.mk ⟨_, h, ?_⟩
      refine St.le_trans (St.le_mk (S := [(0, .hold .mp [] (.mp (gmap I (a0).es) (a0).clock)), (4, .box (.node [(.pv (.sl true 1 [])), (.pv (.sl true 1 [])), (.pv (I (0 : Int)))])), (6, .box (.node [(.own 9309), (.own 704), (.pv (I a1))])), (32, .val (.own 9309)), (33, .val (.pv (I (v30.2.length : Int)))), (34, .val (.pv (I (IntKind.i64.wrap ((i9 : Int) + (1 : Int)))))), (20000, gh 0)]) (O := [(9309, (1, v30.2.map Sx)), (704, (1, v44.map I))]) (by simp -failIfUnchanged only [↓RA, ↓RI, RH, RB, RJ, RS, fx62, p1, p2, p3, p4, reduceIte, p5, p6, p7, p8, c2, w9]) (by simp -failIfUnchanged only [↓RA, ↓RI, RH, RB, RJ, RS, fx62, p1, p2, p3, p4, reduceIte, p5, p6, p7, p8, c2, w9])) ?_
      refine St.le_rn 704 9327 (by decide) (by repeat (first | exact noC_empty _ _ (by simp -failIfUnchanged only [↓RA, ↓RI, RH, RB, RJ, RS, fx62, p1, p2, p3, p4, reduceIte, p5, p6, p7, p8]) | exact noC_nilS _ _ (by simp -failIfUnchanged only [↓RA, ↓RI, RH, RB, RJ, RS, fx62, p1, p2, p3, p4, reduceIte, p5, p6, p7, p8]) | refine noC_mk _ _ _ _ _ rfl ?_ | refine noC_mkS _ _ _ _ _ rfl ?_)) ?_
      refine St.le_mk2 ?_
      simp -failIfUnchanged only [↓RA, ↓RI, RH, RB, RJ, RS, fx62, p1, p2, p3, p4, reduceIte, p5, p6, p7, p8, c2, w9]
    · simp -failIfUnchanged only [↓RA, ↓RI, RH, RB, RJ, RS, fx62, p1, p2, p3, p4, reduceIte, p5, p6, p7, p8]
      refine VSeq.step ?_
      simp -failIfUnchanged only [↓RA, ↓RI, RH, RB, RJ, RS, fx62, p1, p2, p3, p4, reduceIte, p5, p6, p7, p8]
      refine VSeq.nil (Nat.le_of_eq rfl) ?_
      simp -failIfUnchanged only [↓RA, ↓RI, RH, RB, RJ, RS, fx62, p1, p2, p3, p4, reduceIte, p5, p6, p7, p8]
      refine CondH.ff (decide_eq_false (by omega)) (fun c3 => ?_)
      simp -failIfUnchanged only [↓RA, ↓RI, RH, RB, RJ, RS, fx62, p1, p2, p3, p4, reduceIte, p5, p6, p7, p8, c3]
      refine VSeq.step ?_
      simp -failIfUnchanged only [↓RA, ↓RI, RH, RB, RJ, RS, fx62, p1, p2, p3, p4, reduceIte, p5, p6, p7, p8, c3]
      refine VSeq.step ?_
      simp -failIfUnchanged only [↓RA, ↓RI, RH, RB, RJ, RS, fx62, p1, p2, p3, p4, reduceIte, p5, p6, p7, p8, c3]
      obtain ⟨v48, hv48, h⟩ := run_bind h
      refine CallH.mk [false] (impl_IsValidLinear_sat hv48) ?_ ?_ <;> simp -failIfUnchanged only [↓RA, ↓RI, RH, RB, RJ, RS, fx62, p1, p2, p3, p4, reduceIte, p5, p6, p7, p8, c3]
      refine VSeq.step ?_
      simp -failIfUnchanged only [↓RA, ↓RI, RH, RB, RJ, RS, fx62, p1, p2, p3, p4, reduceIte, p5, p6, p7, p8, c3]
      refine VSeq.nil (Nat.le_of_eq rfl) ?_
      simp -failIfUnchanged only [↓RA, ↓RI, RH, RB, RJ, RS, fx62, p1, p2, p3, p4, reduceIte, p5, p6, p7, p8, c3]
      refine CondH.mk (fun c4 => ?_) (fun c4 => ?_)
      · replace h := run_t c4 h
        simp -failIfUnchanged only [↓RA, ↓RI, RH, RB, RJ, RS, fx62, p1, p2, p3, p4, reduceIte, p5, p6, p7, p8, c3, c4]
        refine VSeq.step ?_
        simp -failIfUnchanged only [↓RA, ↓RI, RH, RB, RJ, RS, fx62, p1, p2, p3, p4, reduceIte, p5, p6, p7, p8, c3, c4]
        refine VSeq.step ?_
        simp -failIfUnchanged only [↓RA, ↓RI, RH, RB, RJ, RS, fx62, p1, p2, p3, p4, reduceIte, p5, p6, p7, p8, c3, c4]
        refine VSeq.step ?_
        simp -failIfUnchanged only [↓RA, ↓RI, RH, RB, RJ, RS, fx62, p1, p2, p3, p4, reduceIte, p5, p6, p7, p8, c3, c4]
        refine VSeq.nil (Nat.le_of_eq rfl) ?_
        simp -failIfUnchanged only [↓RA, ↓RI, RH, RB, RJ, RS, fx62, p1, p2, p3, p4, reduceIte, p5, p6, p7, p8, c3, c4]
        have h := run_some h
        obtain rfl : _ = r := h
        refine RetHB.l ?_
        simp -failIfUnchanged only [↓RA, ↓RI, RH, RB, RJ, RS, fx62, p1, p2, p3, p4, reduceIte, p5, p6, p7, p8, c3, c4]
      · replace h := run_f c4 h
        simp -failIfUnchanged only [↓RA, ↓RI, RH, RB, RJ, RS, fx62, p1, p2, p3, p4, reduceIte, p5, p6, p7, p8, c3, c4]
        refine VSeq.step ?_
        simp -failIfUnchanged only [↓RA, ↓RI, RH, RB, RJ, RS, fx62, p1, p2, p3, p4, reduceIte, p5, p6, p7, p8, c3, c4]
        refine VSeq.step ?_
        simp -failIfUnchanged only [↓RA, ↓RI, RH, RB, RJ, RS, fx62, p1, p2, p3, p4, reduceIte, p5, p6, p7, p8, c3, c4]
        refine VSeq.step ?_
        simp -failIfUnchanged only [↓RA, ↓RI, RH, RB, RJ, RS, fx62, p1, p2, p3, p4, reduceIte, p5, p6, p7, p8, c3, c4]
        refine VSeq.nil (Nat.le_of_eq rfl) ?_
        simp -failIfUnchanged only [↓RA, ↓RI, RH, RB, RJ, RS, fx62, p1, p2, p3, p4, reduceIte, p5, p6, p7, p8, c3, c4]
        have h := run_some h
        obtain rfl : _ = r := h
        refine RetHB.l ?_
        simp -failIfUnchanged only [↓RA, ↓RI, RH, RB, RJ, RS, fx62, p1, p2, p3, p4, reduceIte, p5, p6, p7, p8, c3, c4]
  · replace h := RngI.pick (key := fun e => e.2.2) hI3 he3 hn3
    refine VSeq.step ?_
    simp -failIfUnchanged only [↓RA, ↓RI, RH, RB, RJ, RS, fx62, p1, p2, p3, p4, reduceIte, p5, p6, p7, p8]
    refine VSeq.nil (Nat.le_of_eq rfl) ?_
    simp -failIfUnchanged only [↓RA, ↓RI, RH, RB, RJ, RS, fx62, p1, p2, p3, p4, reduceIte, p5, p6, p7, p8]
    refine VSeq.step ?_
    simp -failIfUnchanged only [↓RA, ↓RI, RH, RB, RJ, RS, fx62, p1, p2, p3, p4, reduceIte, p5, p6, p7, p8]
    refine HandH.entry (kt := 14) (r := 0) (sh := .mp) (ps := []) (m := a0) (f := I) (e := e3) (s0 := pre3.map fun e => e.2.2) he3 (by simp -failIfUnchanged only [↓RA, ↓RI, RH, RB, RJ, RS, fx62, p1, p2, p3, p4, reduceIte, p5, p6, p7, p8]) ?_
    simp -failIfUnchanged only [↓RA, ↓RI, RH, RB, RJ, RS, fx62, p1, p2, p3, p4, reduceIte, p5, p6, p7, p8]
    refine VSeq.step ?_
    simp -failIfUnchanged only [↓RA, ↓RI, RH, RB, RJ, RS, fx62, p1, p2, p3, p4, reduceIte, p5, p6, p7, p8]
    refine VSeq.step ?_
    simp -failIfUnchanged only [↓RA, ↓RI, RH, RB, RJ, RS, fx62, p1, p2, p3, p4, reduceIte, p5, p6, p7, p8]
    refine VSeq.step ?_
    simp -failIfUnchanged only [↓RA, ↓RI, RH, RB, RJ, RS, fx62, p1, p2, p3, p4, reduceIte, p5, p6, p7, p8]
    refine VSeq.step ?_
    simp -failIfUnchanged only [↓RA, ↓RI, RH, RB, RJ, RS, fx62, p1, p2, p3, p4, reduceIte, p5, p6, p7, p8]
    refine VSeq.nil (Nat.le_of_eq rfl) ?_
    simp -failIfUnchanged only [↓RA, ↓RI, RH, RB, RJ, RS, fx62, p1, p2, p3, p4, reduceIte, p5, p6, p7, p8]
    refine VSeq.step ?_
    simp -failIfUnchanged only [↓RA, ↓RI, RH, RB, RJ, RS, fx62, p1, p2, p3, p4, reduceIte, p5, p6, p7, p8]
    refine VSeq.step ?_
    simp -failIfUnchanged only [↓RA, ↓RI, RH, RB, RJ, RS, fx62, p1, p2, p3, p4, reduceIte, p5, p6, p7, p8]
    refine VSeq.nil (Nat.le_of_eq rfl) ?_
    simp -failIfUnchanged only [↓RA, ↓RI, RH, RB, RJ, RS, fx62, p1, p2, p3, p4, reduceIte, p5, p6, p7, p8]
    refine CondH.mk (fun c1 => ?_) (fun c1 => ?_)
    · replace h := run_t c1 h
      simp -failIfUnchanged only [↓RA, ↓RI, RH, RB, RJ, RS, fx62, p1, p2, p3, p4, reduceIte, p5, p6, p7, p8, c1]
      have h := run_some h
      refine RdH.mk ⟨_, e3, he3, hn3, h, ?_⟩
      refine St.le_mk2 ?_
      simp -failIfUnchanged only [↓RA, ↓RI, RH, RB, RJ, RS, fx62, p1, p2, p3, p4, reduceIte, p5, p6, p7, p8, c1]
    · replace h := run_f c1 h
      simp -failIfUnchanged only [↓RA, ↓RI, RH, RB, RJ, RS, fx62, p1, p2, p3, p4, reduceIte, p5, p6, p7, p8, c1]
      refine VSeq.step ?_
      simp -failIfUnchanged only [↓RA, ↓RI, RH, RB, RJ, RS, fx62, p1, p2, p3, p4, reduceIte, p5, p6, p7, p8, c1]
      refine VSeq.step ?_
      simp -failIfUnchanged only [↓RA, ↓RI, RH, RB, RJ, RS, fx62, p1, p2, p3, p4, reduceIte, p5, p6, p7, p8, c1]
      refine VSeq.step ?_
      simp -failIfUnchanged only [↓RA, ↓RI, RH, RB, RJ, RS, fx62, p1, p2, p3, p4, reduceIte, p5, p6, p7, p8, c1]
      refine VSeq.step ?_
      simp -failIfUnchanged only [↓RA, ↓RI, RH, RB, RJ, RS, fx62, p1, p2, p3, p4, reduceIte, p5, p6, p7, p8, c1]
      repeat (first | with_reducible refine noR_and (by repeat (first | exact noR_empty _ _ | exact noR_nilS _ _ | refine noR_mk _ _ _ _ _ rfl ?_ | refine noR_mkS _ _ _ _ _ rfl ?_)) ?_ | with_reducible refine noC_and (by repeat (first | exact noC_empty _ _ (by simp -failIfUnchanged only [↓RA, ↓RI, RH, RB, RJ, RS, fx62, p1, p2, p3, p4, reduceIte, p5, p6, p7, p8]) | exact noC_nilS _ _ (by simp -failIfUnchanged only [↓RA, ↓RI, RH, RB, RJ, RS, fx62, p1, p2, p3, p4, reduceIte, p5, p6, p7, p8]) | refine noC_mk _ _ _ _ _ rfl ?_ | refine noC_mkS _ _ _ _ _ rfl ?_)) ?_ | with_reducible refine and_ac ?_ | with_reducible refine And.intro (a := _ = List.range _) (by rfl) ?_)
      refine VSeq.step ?_
      simp -failIfUnchanged only [↓RA, ↓RI, RH, RB, RJ, RS, fx62, p1, p2, p3, p4, reduceIte, p5, p6, p7, p8, c1]
      obtain ⟨v26, hv26, h⟩ := run_bind h
      refine AppH.mk (f := Sx) (fun _ => rfl) hv26 ?_ ?_ ?_ <;> simp -failIfUnchanged only [↓RA, ↓RI, RH, RB, RJ, RS, fx62, p1, p2, p3, p4, reduceIte, p5, p6, p7, p8, c1]
      repeat (first | with_reducible refine noR_and (by repeat (first | exact noR_empty _ _ | exact noR_nilS _ _ | refine noR_mk _ _ _ _ _ rfl ?_ | refine noR_mkS _ _ _ _ _ rfl ?_)) ?_ | with_reducible refine noC_and (by repeat (first | exact noC_empty _ _ (by simp -failIfUnchanged only [↓RA, ↓RI, RH, RB, RJ, RS, fx62, p1, p2, p3, p4, reduceIte, p5, p6, p7, p8]) | exact noC_nilS _ _ (by simp -failIfUnchanged only [↓RA, ↓RI, RH, RB, RJ, RS, fx62, p1, p2, p3, p4, reduceIte, p5, p6, p7, p8]) | refine noC_mk _ _ _ _ _ rfl ?_ | refine noC_mkS _ _ _ _ _ rfl ?_)) ?_ | with_reducible refine and_ac ?_ | with_reducible refine And.intro (a := _ = List.range _) (by rfl) ?_)
      refine VSeq.step ?_
      simp -failIfUnchanged only [↓RA, ↓RI, RH, RB, RJ, RS, fx62, p1, p2, p3, p4, reduceIte, p5, p6, p7, p8, c1]
      refine VSeq.step ?_
      simp -failIfUnchanged only [↓RA, ↓RI, RH, RB, RJ, RS, fx62, p1, p2, p3, p4, reduceIte, p5, p6, p7, p8, c1]
      refine VSeq.nil (Nat.le_of_eq rfl) ?_
      simp -failIfUnchanged only [↓RA, ↓RI, RH, RB, RJ, RS, fx62, p1, p2, p3, p4, reduceIte, p5, p6, p7, p8, c1]
      have h := run_some h
      refine RdH.mk ⟨_, e3, he3, hn3, h, ?_⟩
      refine St.le_trans (St.le_mk (S := [(0, .hold .mp [] (.mp (gmap I (a0).es) (a0).clock)), (4, .box (.node [(.pv (.sl true 1 [])), (.pv (.sl true 1 [])), (.pv (I (0 : Int)))])), (6, .box (.node [(.own 416), (.pv (.sl true 1 [])), (.pv (I a1))])), (14, .hold .ptr [] (.it 0 (a0).clock ((pre3.map fun e => e.2.2) ++ [e3.2.2]) (a0).clock)), (20000, gh 0)]) (O := [(416, (1, v26.map Sx))]) (by simp -failIfUnchanged only [↓RA, ↓RI, RH, RB, RJ, RS, fx62, p1, p2, p3, p4, reduceIte, p5, p6, p7, p8, c1]) (by simp -failIfUnchanged only [↓RA, ↓RI, RH, RB, RJ, RS, fx62, p1, p2, p3, p4, reduceIte, p5, p6, p7, p8, c1])) ?_
      refine St.le_rn 416 9309 (by decide) (by repeat (first | exact noC_empty _ _ (by simp -failIfUnchanged only [↓RA, ↓RI, RH, RB, RJ, RS, fx62, p1, p2, p3, p4, reduceIte, p5, p6, p7, p8]) | exact noC_nilS _ _ (by simp -failIfUnchanged only [↓RA, ↓RI, RH, RB, RJ, RS, fx62, p1, p2, p3, p4, reduceIte, p5, p6, p7, p8]) | refine noC_mk _ _ _ _ _ rfl ?_ | refine noC_mkS _ _ _ _ _ rfl ?_)) ?_
      refine St.le_mk2 ?_
      simp -failIfUnchanged only [↓RA, ↓RI, RH, RB, RJ, RS, fx62, p1, p2, p3, p4, reduceIte, p5, p6, p7, p8, c1]
theorem impl_linear_sat {a0 : GMap Int} {a1 : Int} {r : Linear × Bool} (h : impl_linear a0 a1 = some r) : SatH Tryz.prog 62 [] [(I a1)] .mp [] (.mp (gmap I a0.es) a0.clock) (.mp (gmap I a0.es) a0.clock) (.tup [((Linear.pv true) r.1), (B r.2)]) := impl_linearR_sat fun ord ho => linear_ord ho h

def fx31 := And.intro @ty_3 <| And.intro @zc_3 <| And.intro @z_3 <| And.intro @ty_4 <| And.intro @zc_4 <| And.intro @z_4 <| And.intro @u_4 <| And.intro @ty_9 <| And.intro @zc_9 <| And.intro @z_9 <| And.intro @u_9 <| And.intro @ty_28 <| And.intro @zc_28 <| And.intro @z_28 <| And.intro @es_28 <| And.intro @eb_28 <| And.intro @sl_28 <| And.intro @is_28 <| And.intro @el_28 <| And.intro @ze_28 <| And.intro @ez_28 <| And.intro @ty_29 <| And.intro @zc_29 <| And.intro @z_29 <| And.intro @es_29 <| And.intro @eb_29 <| And.intro @sl_29 <| And.intro @is_29 <| And.intro @el_29 <| And.intro @ze_29 <| And.intro @ez_29 <| And.intro @ty_31 <| And.intro @zc_31 <| And.intro @z_31 <| And.intro @fo_31_0 <| And.intro @fi_31_0 <| And.intro @ft_31_0 <| And.intro @fo_31_1 <| And.intro @fi_31_1 <| And.intro @ft_31_1 <| And.intro @fo_31_2 <| And.intro @fi_31_2 <| And.intro @ft_31_2 <| And.intro @lay_31 <| And.intro @ty_34 <| And.intro @zc_34 <| And.intro @z_34 <| And.intro @es_34 <| And.intro @eb_34 <| And.intro @sl_34 <| And.intro @is_34 <| And.intro @el_34 <| And.intro @ze_34 <| And.intro @ez_34 <| And.intro @ty_36 <| And.intro @zc_36 <| And.intro @z_36 <| And.intro @es_36 <| And.intro @eb_36 <| And.intro @sl_36 <| And.intro @is_36 <| And.intro @el_36 <| And.intro @ze_36 <| And.intro @ez_36 <| And.intro @ty_38 <| And.intro @zc_38 <| And.intro @z_38 <| And.intro @fo_38_0 <| And.intro @fi_38_0 <| And.intro @ft_38_0 <| And.intro @fo_38_1 <| And.intro @fi_38_1 <| And.intro @ft_38_1 <| And.intro @lay_38 <| And.intro @ty_58 <| And.intro @zc_58 <| And.intro @z_58 <| And.intro @fo_58_0 <| And.intro @fi_58_0 <| And.intro @ft_58_0 <| And.intro @fo_58_1 <| And.intro @fi_58_1 <| And.intro @ft_58_1 <| And.intro @fo_58_2 <| And.intro @fi_58_2 <| And.intro @ft_58_2 <| And.intro @lay_58 <| And.intro @ty_78 <| @mixedT
set_option maxHeartbeats 4000000 in
theorem impl_boundOfN_sat (n : Nat) : (∀ (a0 : List Majorant) (a1 : Term) (r : Linear × Bool), impl_boundOfN n a0 a1 = some r → Sat Tryz.prog 31 [(.sl false 3 (a0.map (Majorant.pv false))), ((Term.pv false) a1)] (.tup [((Linear.pv true) r.1), (B r.2)])) := by
  induction n with
  | zero => exact fun _ _ _ h => by simp [impl_boundOfN] at h
  | succ n ih =>
    refine fun a0 a1 r h => ?_
    replace h := Run.of h
    rw [impl_boundOfN] at h
    refine Sat.of_m (nt := 68) (rs := [.cell 4 31, .tmp 5]) (n := 100000) Tryz.func31 rfl rfl rfl rfl (by simp) ?_
    simp -failIfUnchanged only [↓RA, RH, RB, RS, fx31, p1, p2, p3, p4, reduceIte, p5, p6, p7, p8]
    repeat (first | with_reducible refine noR_and (by repeat (first | exact noR_empty _ _ | exact noR_nilS _ _ | refine noR_mk _ _ _ _ _ rfl ?_ | refine noR_mkS _ _ _ _ _ rfl ?_)) ?_ | with_reducible refine noC_and (by repeat (first | exact noC_empty _ _ (by simp -failIfUnchanged only [↓RA, RH, RB, RS, fx31, p1, p2, p3, p4, reduceIte, p5, p6, p7, p8]) | exact noC_nilS _ _ (by simp -failIfUnchanged only [↓RA, RH, RB, RS, fx31, p1, p2, p3, p4, reduceIte, p5, p6, p7, p8]) | refine noC_mk _ _ _ _ _ rfl ?_ | refine noC_mkS _ _ _ _ _ rfl ?_)) ?_ | with_reducible refine and_ac ?_ | with_reducible refine And.intro (a := _ = List.range _) (by rfl) ?_)
    obtain ⟨v14, hv14, h⟩ := run_bind h
    refine CallH.mk [false] (impl_isVar_sat hv14) ?_ ?_ <;> simp -failIfUnchanged only [↓RA, RH, RB, RS, fx31, p1, p2, p3, p4, reduceIte, p5, p6, p7, p8]
    refine CondH.mk (fun c1 => ?_) (fun c1 => ?_)
    · replace h := run_t c1 h
      simp -failIfUnchanged only [↓RA, RH, RB, RS, fx31, p1, p2, p3, p4, reduceIte, p5, p6, p7, p8, c1]
      repeat (first | with_reducible refine noR_and (by repeat (first | exact noR_empty _ _ | exact noR_nilS _ _ | refine noR_mk _ _ _ _ _ rfl ?_ | refine noR_mkS _ _ _ _ _ rfl ?_)) ?_ | with_reducible refine noC_and (by repeat (first | exact noC_empty _ _ (by simp -failIfUnchanged only [↓RA, RH, RB, RS, fx31, p1, p2, p3, p4, reduceIte, p5, p6, p7, p8]) | exact noC_nilS _ _ (by simp -failIfUnchanged only [↓RA, RH, RB, RS, fx31, p1, p2, p3, p4, reduceIte, p5, p6, p7, p8]) | refine noC_mk _ _ _ _ _ rfl ?_ | refine noC_mkS _ _ _ _ _ rfl ?_)) ?_ | with_reducible refine and_ac ?_ | with_reducible refine And.intro (a := _ = List.range _) (by rfl) ?_)
      have h := run_some h
      obtain rfl : _ = r := h
      refine FinH.l ?_
      simp -failIfUnchanged only [↓RA, RH, RB, RS, fx31, p1, p2, p3, p4, reduceIte, p5, p6, p7, p8, c1]
    · replace h := run_f c1 h
      simp -failIfUnchanged only [↓RA, RH, RB, RS, fx31, p1, p2, p3, p4, reduceIte, p5, p6, p7, p8, c1]
      obtain ⟨v22, hv22, h⟩ := run_bind h
      refine CallH.mk [false, false] (impl_majorant_sat hv22) ?_ ?_ <;> simp -failIfUnchanged only [↓RA, RH, RB, RS, fx31, p1, p2, p3, p4, reduceIte, p5, p6, p7, p8, c1]
      refine CondH.mk (fun c2 => ?_) (fun c2 => ?_)
      · replace h := run_t c2 h
        simp -failIfUnchanged only [↓RA, RH, RB, RS, fx31, p1, p2, p3, p4, reduceIte, p5, p6, p7, p8, c1, c2]
        have h := run_some h
        obtain rfl : _ = r := h
        refine FinH.l ?_
        simp -failIfUnchanged only [↓RA, RH, RB, RS, fx31, p1, p2, p3, p4, reduceIte, p5, p6, p7, p8, c1, c2]
      · replace h := run_f c2 h
        simp -failIfUnchanged only [↓RA, RH, RB, RS, fx31, p1, p2, p3, p4, reduceIte, p5, p6, p7, p8, c1, c2]
        refine HandH.makeMap (α := Int) I (by decide) ?_
        simp -failIfUnchanged only [↓RA, RH, RB, RS, fx31, p1, p2, p3, p4, reduceIte, p5, p6, p7, p8, c1, c2]
        repeat (first | with_reducible refine noR_and (by repeat (first | exact noR_empty _ _ | exact noR_nilS _ _ | refine noR_mk _ _ _ _ _ rfl ?_ | refine noR_mkS _ _ _ _ _ rfl ?_)) ?_ | with_reducible refine noC_and (by repeat (first | exact noC_empty _ _ (by simp -failIfUnchanged only [↓RA, RH, RB, RS, fx31, p1, p2, p3, p4, reduceIte, p5, p6, p7, p8]) | exact noC_nilS _ _ (by simp -failIfUnchanged only [↓RA, RH, RB, RS, fx31, p1, p2, p3, p4, reduceIte, p5, p6, p7, p8]) | refine noC_mk _ _ _ _ _ rfl ?_ | refine noC_mkS _ _ _ _ _ rfl ?_)) ?_ | with_reducible refine and_ac ?_ | with_reducible refine And.intro (a := _ = List.range _) (by rfl) ?_)
        obtain ⟨v29, hv29, h⟩ := run_bind h
        refine IdxH.mk (f := (Majorant.pv false)) hv29 ?_ ?_ <;> simp -failIfUnchanged only [↓RA, RH, RB, RS, fx31, p1, p2, p3, p4, reduceIte, p5, p6, p7, p8, c1, c2]
        refine Mg.know_sl (b := false) (sz := 2) (es := a1.Args.map (Term.pv false)) 33 (by simp -failIfUnchanged only [↓RA, RH, RB, RS, fx31, p1, p2, p3, p4, reduceIte, p5, p6, p7, p8, c1, c2]) fun hl33 => ?_; rw [List.length_map] at hl33
        replace h := run_loop h
        refine Mg.forN h (fun i9 s9 => [(0, .val (.pv (.sl false 3 (a0.map (Majorant.pv false))))), (4, .box (.node [(.pv (.sl true 1 [])), (.pv (.sl true 1 [])), (.pv (I (0 : Int)))])), (6, .val (.pv (I v22))), (7, .hptr 26 .mp []), (8, .val (.pv (I s9.1))), (26, .hold .mp [] (.mp (gmap I (s9.2).es) (s9.2).clock)), (33, .val (.pv (.sl false 2 (a1.Args.map (Term.pv false))))), (34, .val (.pv (I (a1.Args.length : Int)))), (35, .val (.pv (I (i9 : Int))))]) (fun i9 s9 => []) (St.le_mk2 (by simp -failIfUnchanged only [↓RA, RH, RB, RS, fx31, p1, p2, p3, p4, reduceIte, p5, p6, p7, p8, c1, c2])) (fun i9 s9 hi h => ?_) (fun s9 h => ?_)
        · have w9 := wrap_succ (i := i9) (by omega)
          simp -failIfUnchanged only [↓RA, RH, RB, RS, fx31, p1, p2, p3, p4, reduceIte, p5, p6, p7, p8, c1, c2]
          refine CondH.tt (decide_eq_true (by omega)) (fun c3 => ?_)
          simp -failIfUnchanged only [↓RA, RH, RB, RS, fx31, p1, p2, p3, p4, reduceIte, p5, p6, p7, p8, c1, c2, c3]
          obtain ⟨v38, hv38, h⟩ := run_bind h
          refine IdxH.mk (f := (Term.pv false)) hv38 ?_ ?_ <;> simp -failIfUnchanged only [↓RA, RH, RB, RS, fx31, p1, p2, p3, p4, reduceIte, p5, p6, p7, p8, c1, c2, c3]
          repeat (first | with_reducible refine noR_and (by repeat (first | exact noR_empty _ _ | exact noR_nilS _ _ | refine noR_mk _ _ _ _ _ rfl ?_ | refine noR_mkS _ _ _ _ _ rfl ?_)) ?_ | with_reducible refine noC_and (by repeat (first | exact noC_empty _ _ (by simp -failIfUnchanged only [↓RA, RH, RB, RS, fx31, p1, p2, p3, p4, reduceIte, p5, p6, p7, p8]) | exact noC_nilS _ _ (by simp -failIfUnchanged only [↓RA, RH, RB, RS, fx31, p1, p2, p3, p4, reduceIte, p5, p6, p7, p8]) | refine noC_mk _ _ _ _ _ rfl ?_ | refine noC_mkS _ _ _ _ _ rfl ?_)) ?_ | with_reducible refine and_ac ?_ | with_reducible refine And.intro (a := _ = List.range _) (by rfl) ?_)
          obtain ⟨v43, hv43, h⟩ := run_bind h
          refine CallH.mk [false, false] (ih _ _ _ hv43) ?_ ?_ <;> simp -failIfUnchanged only [↓RA, RH, RB, RS, fx31, p1, p2, p3, p4, reduceIte, p5, p6, p7, p8, c1, c2, c3]
          repeat (first | with_reducible refine noR_and (by repeat (first | exact noR_empty _ _ | exact noR_nilS _ _ | refine noR_mk _ _ _ _ _ rfl ?_ | refine noR_mkS _ _ _ _ _ rfl ?_)) ?_ | with_reducible refine noC_and (by repeat (first | exact noC_empty _ _ (by simp -failIfUnchanged only [↓RA, RH, RB, RS, fx31, p1, p2, p3, p4, reduceIte, p5, p6, p7, p8]) | exact noC_nilS _ _ (by simp -failIfUnchanged only [↓RA, RH, RB, RS, fx31, p1, p2, p3, p4, reduceIte, p5, p6, p7, p8]) | refine noC_mk _ _ _ _ _ rfl ?_ | refine noC_mkS _ _ _ _ _ rfl ?_)) ?_ | with_reducible refine and_ac ?_ | with_reducible refine And.intro (a := _ = List.range _) (by rfl) ?_)
          refine CondH.mk (fun c4 => ?_) (fun c4 => ?_)
          · replace h := run_t c4 h
            simp -failIfUnchanged only [↓RA, RH, RB, RS, fx31, p1, p2, p3, p4, reduceIte, p5, p6, p7, p8, c1, c2, c3, c4]
            obtain ⟨v54, hv54, h⟩ := run_bind h
            refine IdxH.mk (f := (Majorant.pv false)) hv54 ?_ ?_ <;> simp -failIfUnchanged only [↓RA, RH, RB, RS, fx31, p1, p2, p3, p4, reduceIte, p5, p6, p7, p8, c1, c2, c3, c4]
            obtain ⟨v58, hv58, h⟩ := run_bind h
            refine IdxH.mk (f := I) hv58 ?_ ?_ <;> simp -failIfUnchanged only [↓RA, RH, RB, RS, fx31, p1, p2, p3, p4, reduceIte, p5, p6, p7, p8, c1, c2, c3, c4]
            obtain ⟨v60, hv60, h⟩ := run_bind h
            refine HandH.callV (r := 26) (hc := .mp (gmap I (s9.2).es) (s9.2).clock) 1 [_] [_] [(.node [(.own 688), (.own 689), (.pv (I v43.1.Constant))])] [(.pv (I v58))] [false, false] (fun _ => rfl) (impl_Linear__add_sat hv60) rfl rfl rfl ?_ ?_ <;> simp -failIfUnchanged only [↓RA, RH, RB, RS, fx31, p1, p2, p3, p4, reduceIte, p5, p6, p7, p8, c1, c2, c3, c4]
            refine And.intro (DrawH.none (by rfl) (by first | rfl | (simp -failIfUnchanged only [↓RA, RH, RB, RS, fx31, p1, p2, p3, p4, reduceIte, p5, p6, p7, p8] <;> rfl)) (by first | rfl | (simp -failIfUnchanged only [↓RA, RH, RB, RS, fx31, p1, p2, p3, p4, reduceIte, p5, p6, p7, p8] <;> rfl)) (by first | rfl | (simp -failIfUnchanged only [↓RA, RH, RB, RS, fx31, p1, p2, p3, p4, reduceIte, p5, p6, p7, p8] <;> rfl))) ?_
            simp -failIfUnchanged only [↓RA, RH, RB, RS, fx31, p1, p2, p3, p4, reduceIte, p5, p6, p7, p8, c1, c2, c3, c4]
            have h := run_some h
            refine RdH.mk ⟨_, h, ?_⟩
            refine St.le_mk2 ?_
            simp -failIfUnchanged only [↓RA, RH, RB, RS, fx31, p1, p2, p3, p4, reduceIte, p5, p6, p7, p8, c1, c2, c3, c4, w9]
          · replace h := run_f c4 h
            simp -failIfUnchanged only [↓RA, RH, RB, RS, fx31, p1, p2, p3, p4, reduceIte, p5, p6, p7, p8, c1, c2, c3, c4]
            have h := run_some h
            obtain rfl : _ = r := h
            refine FinH.l ?_
            simp -failIfUnchanged only [↓RA, RH, RB, RS, fx31, p1, p2, p3, p4, reduceIte, p5, p6, p7, p8, c1, c2, c3, c4]
        · simp -failIfUnchanged only [↓RA, RH, RB, RS, fx31, p1, p2, p3, p4, reduceIte, p5, p6, p7, p8, c1, c2]
          refine CondH.ff (decide_eq_false (by omega)) (fun c5 => ?_)
          simp -failIfUnchanged only [↓RA, RH, RB, RS, fx31, p1, p2, p3, p4, reduceIte, p5, p6, p7, p8, c1, c2, c5]
          obtain ⟨v65, hv65, h⟩ := run_bind h
          refine HandH.call (r := 26) (hc := .mp (gmap I (s9.2).es) (s9.2).clock) 0 [] [_] [] [(.pv (I s9.1))] [false] (impl_linear_sat hv65) rfl rfl rfl ?_ ?_ <;> simp -failIfUnchanged only [↓RA, RH, RB, RS, fx31, p1, p2, p3, p4, reduceIte, p5, p6, p7, p8, c1, c2, c5]
          repeat (first | with_reducible refine noR_and (by repeat (first | exact noR_empty _ _ | exact noR_nilS _ _ | refine noR_mk _ _ _ _ _ rfl ?_ | refine noR_mkS _ _ _ _ _ rfl ?_)) ?_ | with_reducible refine noC_and (by repeat (first | exact noC_empty _ _ (by simp -failIfUnchanged only [↓RA, RH, RB, RS, fx31, p1, p2, p3, p4, reduceIte, p5, p6, p7, p8]) | exact noC_nilS _ _ (by simp -failIfUnchanged only [↓RA, RH, RB, RS, fx31, p1, p2, p3, p4, reduceIte, p5, p6, p7, p8]) | refine noC_mk _ _ _ _ _ rfl ?_ | refine noC_mkS _ _ _ _ _ rfl ?_)) ?_ | with_reducible refine and_ac ?_ | with_reducible refine And.intro (a := _ = List.range _) (by rfl) ?_)
          have h := run_some h
          obtain rfl : _ = r := h
          refine FinH.l ?_
          simp -failIfUnchanged only [↓RA, RH, RB, RS, fx31, p1, p2, p3, p4, reduceIte, p5, p6, p7, p8, c1, c2, c5]
theorem impl_boundOf_sat {a0 : List Majorant} {a1 : Term} {r : Linear × Bool} (h : impl_boundOf a0 a1 = some r) : Sat Tryz.prog 31 [(.sl false 3 (a0.map (Majorant.pv false))), ((Term.pv false) a1)] (.tup [((Linear.pv true) r.1), (B r.2)]) := by
  obtain ⟨n, hn⟩ := lim_some h
  exact (impl_boundOfN_sat n) _ _ _ hn

def fx10 := And.intro @ty_4 <| And.intro @zc_4 <| And.intro @z_4 <| And.intro @u_4 <| And.intro @ty_31 <| And.intro @zc_31 <| And.intro @z_31 <| And.intro @fo_31_0 <| And.intro @fi_31_0 <| And.intro @ft_31_0 <| And.intro @fo_31_1 <| And.intro @fi_31_1 <| And.intro @ft_31_1 <| And.intro @fo_31_2 <| And.intro @fi_31_2 <| And.intro @ft_31_2 <| And.intro @lay_31 <| And.intro @ty_34 <| And.intro @zc_34 <| And.intro @z_34 <| And.intro @es_34 <| And.intro @eb_34 <| And.intro @sl_34 <| And.intro @is_34 <| And.intro @el_34 <| And.intro @ze_34 <| And.intro @ez_34 <| And.intro @ty_38 <| And.intro @zc_38 <| And.intro @z_38 <| And.intro @fo_38_0 <| And.intro @fi_38_0 <| And.intro @ft_38_0 <| And.intro @fo_38_1 <| And.intro @fi_38_1 <| And.intro @ft_38_1 <| @lay_38
set_option maxHeartbeats 4000000 in
theorem impl_MajorantOf_sat {a0 : List Majorant} {a1 : Term}  {r : Linear × Bool} (h : impl_MajorantOf a0 a1 = some r) : Sat Tryz.prog 10 [(.sl false 3 (a0.map (Majorant.pv false))), ((Term.pv false) a1)] (.tup [((Linear.pv true) r.1), (B r.2)]) := by
  replace h := Run.of h
  unfold impl_MajorantOf at h
  refine Sat.of_m (nt := 20) (rs := [.cell 4 31, .tmp 5]) (n := 100000) Tryz.func10 rfl rfl rfl rfl (by simp) ?_
  simp -failIfUnchanged only [↓RA, RB, RS, fx10, p1, p2, p3, p4, reduceIte, p5, p6, p7, p8]
  repeat (first | with_reducible refine noR_and (by repeat (first | exact noR_empty _ _ | exact noR_nilS _ _ | refine noR_mk _ _ _ _ _ rfl ?_ | refine noR_mkS _ _ _ _ _ rfl ?_)) ?_ | with_reducible refine noC_and (by repeat (first | exact noC_empty _ _ (by simp -failIfUnchanged only [↓RA, RB, RS, fx10, p1, p2, p3, p4, reduceIte, p5, p6, p7, p8]) | exact noC_nilS _ _ (by simp -failIfUnchanged only [↓RA, RB, RS, fx10, p1, p2, p3, p4, reduceIte, p5, p6, p7, p8]) | refine noC_mk _ _ _ _ _ rfl ?_ | refine noC_mkS _ _ _ _ _ rfl ?_)) ?_ | with_reducible refine and_ac ?_ | with_reducible refine And.intro (a := _ = List.range _) (by rfl) ?_)
  obtain ⟨v7, hv7, h⟩ := run_bind h
  refine CallH.mk [false] (impl_IsValidMajorants_sat hv7) ?_ ?_ <;> simp -failIfUnchanged only [↓RA, RB, RS, fx10, p1, p2, p3, p4, reduceIte, p5, p6, p7, p8]
  refine CondH.mk (fun c1 => ?_) (fun c1 => ?_)
  · replace h := run_t c1 h
    simp -failIfUnchanged only [↓RA, RB, RS, fx10, p1, p2, p3, p4, reduceIte, p5, p6, p7, p8, c1]
    obtain ⟨v11, hv11, h⟩ := run_bind h
    refine CallH.mk [false] (impl_IsValidTerm_sat hv11) ?_ ?_ <;> simp -failIfUnchanged only [↓RA, RB, RS, fx10, p1, p2, p3, p4, reduceIte, p5, p6, p7, p8, c1]
    refine CondH.mk (fun c2 => ?_) (fun c2 => ?_)
    · replace h := run_t c2 h
      simp -failIfUnchanged only [↓RA, RB, RS, fx10, p1, p2, p3, p4, reduceIte, p5, p6, p7, p8, c1, c2]
      obtain ⟨v17, hv17, h⟩ := run_bind h
      refine CallH.mk [false, false] (impl_boundOf_sat hv17) ?_ ?_ <;> simp -failIfUnchanged only [↓RA, RB, RS, fx10, p1, p2, p3, p4, reduceIte, p5, p6, p7, p8, c1, c2]
      repeat (first | with_reducible refine noR_and (by repeat (first | exact noR_empty _ _ | exact noR_nilS _ _ | refine noR_mk _ _ _ _ _ rfl ?_ | refine noR_mkS _ _ _ _ _ rfl ?_)) ?_ | with_reducible refine noC_and (by repeat (first | exact noC_empty _ _ (by simp -failIfUnchanged only [↓RA, RB, RS, fx10, p1, p2, p3, p4, reduceIte, p5, p6, p7, p8]) | exact noC_nilS _ _ (by simp -failIfUnchanged only [↓RA, RB, RS, fx10, p1, p2, p3, p4, reduceIte, p5, p6, p7, p8]) | refine noC_mk _ _ _ _ _ rfl ?_ | refine noC_mkS _ _ _ _ _ rfl ?_)) ?_ | with_reducible refine and_ac ?_ | with_reducible refine And.intro (a := _ = List.range _) (by rfl) ?_)
      have h := run_some h
      obtain rfl : _ = r := h
      refine FinH.l ?_
      simp -failIfUnchanged only [↓RA, RB, RS, fx10, p1, p2, p3, p4, reduceIte, p5, p6, p7, p8, c1, c2]
    · replace h := run_f c2 h
      simp -failIfUnchanged only [↓RA, RB, RS, fx10, p1, p2, p3, p4, reduceIte, p5, p6, p7, p8, c1, c2]
      have h := run_some h
      obtain rfl : _ = r := h
      refine FinH.l ?_
      simp -failIfUnchanged only [↓RA, RB, RS, fx10, p1, p2, p3, p4, reduceIte, p5, p6, p7, p8, c1, c2]
  · replace h := run_f c1 h
    simp -failIfUnchanged only [↓RA, RB, RS, fx10, p1, p2, p3, p4, reduceIte, p5, p6, p7, p8, c1]
    have h := run_some h
    obtain rfl : _ = r := h
    refine FinH.l ?_
    simp -failIfUnchanged only [↓RA, RB, RS, fx10, p1, p2, p3, p4, reduceIte, p5, p6, p7, p8, c1]

def fx32 := And.intro @ty_3 <| And.intro @zc_3 <| And.intro @z_3 <| And.intro @ty_9 <| And.intro @zc_9 <| And.intro @z_9 <| And.intro @u_9 <| And.intro @ty_28 <| And.intro @zc_28 <| And.intro @z_28 <| And.intro @es_28 <| And.intro @eb_28 <| And.intro @sl_28 <| And.intro @is_28 <| And.intro @el_28 <| And.intro @ze_28 <| And.intro @ez_28 <| @mixedT
set_option maxHeartbeats 4000000 in
theorem eqStringS_sat {a0 : List ByteArray} {a1 : List ByteArray}  {r : Bool} (h : eqStringS a0 a1 = some r) : Sat Tryz.prog 32 [(.sl false 1 (a0.map Sx)), (.sl false 1 (a1.map Sx))] (B r) := by
  replace h := Run.of h
  unfold eqStringS at h
  refine Sat.of_m (nt := 26) (rs := [.tmp 4]) (n := 100000) Tryz.func32 rfl rfl rfl rfl (by simp) ?_
  simp -failIfUnchanged only [↓RA, RB, RS, fx32, p1, p2, p3, p4, reduceIte, p5, p6, p7, p8]
  refine CondH.mk (fun c1 => ?_) (fun c1 => ?_)
  · replace h := run_t c1 h
    simp -failIfUnchanged only [↓RA, RB, RS, fx32, p1, p2, p3, p4, reduceIte, p5, p6, p7, p8, c1]
    refine Mg.know_sl (b := false) (sz := 1) (es := a0.map Sx) 0 (by simp -failIfUnchanged only [↓RA, RB, RS, fx32, p1, p2, p3, p4, reduceIte, p5, p6, p7, p8, c1]) fun hl0 => ?_; rw [List.length_map] at hl0
    replace h := run_loop h
    refine Mg.forN h (fun i4 s4 => [(0, .val (.pv (.sl false 1 (a0.map Sx)))), (1, .val (.pv (.sl false 1 (a1.map Sx)))), (5, .val (.pv (I (i4 : Int))))]) (fun i4 s4 => []) (St.le_mk2 (by simp -failIfUnchanged only [↓RA, RB, RS, fx32, p1, p2, p3, p4, reduceIte, p5, p6, p7, p8, c1])) (fun i4 s4 hi h => ?_) (fun s4 h => ?_)
    · have w4 := wrap_succ (i := i4) (by omega)
      simp -failIfUnchanged only [↓RA, RB, RS, fx32, p1, p2, p3, p4, reduceIte, p5, p6, p7, p8, c1]
      refine CondH.tt (decide_eq_true (by omega)) (fun c2 => ?_)
      simp -failIfUnchanged only [↓RA, RB, RS, fx32, p1, p2, p3, p4, reduceIte, p5, p6, p7, p8, c1, c2]
      obtain ⟨v19, hv19, h⟩ := run_bind h
      refine IdxH.mk (f := Sx) hv19 ?_ ?_ <;> simp -failIfUnchanged only [↓RA, RB, RS, fx32, p1, p2, p3, p4, reduceIte, p5, p6, p7, p8, c1, c2]
      obtain ⟨v23, hv23, h⟩ := run_bind h
      refine IdxH.mk (f := Sx) hv23 ?_ ?_ <;> simp -failIfUnchanged only [↓RA, RB, RS, fx32, p1, p2, p3, p4, reduceIte, p5, p6, p7, p8, c1, c2]
      refine And.intro (DrawH.none (by rfl) (by first | rfl | (simp -failIfUnchanged only [↓RA, RB, RS, fx32, p1, p2, p3, p4, reduceIte, p5, p6, p7, p8] <;> rfl)) (by first | rfl | (simp -failIfUnchanged only [↓RA, RB, RS, fx32, p1, p2, p3, p4, reduceIte, p5, p6, p7, p8] <;> rfl)) (by first | rfl | (simp -failIfUnchanged only [↓RA, RB, RS, fx32, p1, p2, p3, p4, reduceIte, p5, p6, p7, p8] <;> rfl))) ?_
      simp -failIfUnchanged only [↓RA, RB, RS, fx32, p1, p2, p3, p4, reduceIte, p5, p6, p7, p8, c1, c2]
      refine CondH.mk (fun c3 => ?_) (fun c3 => ?_)
      · replace h := run_t c3 h
        simp -failIfUnchanged only [↓RA, RB, RS, fx32, p1, p2, p3, p4, reduceIte, p5, p6, p7, p8, c1, c2, c3]
        have h := run_some h
        refine RdH.mk ⟨_, h, ?_⟩
        refine St.le_mk2 ?_
        simp -failIfUnchanged only [↓RA, RB, RS, fx32, p1, p2, p3, p4, reduceIte, p5, p6, p7, p8, c1, c2, c3, w4]
      · replace h := run_f c3 h
        simp -failIfUnchanged only [↓RA, RB, RS, fx32, p1, p2, p3, p4, reduceIte, p5, p6, p7, p8, c1, c2, c3]
        have h := run_some h
        obtain rfl : _ = r := h
        refine FinH.l ?_
        simp -failIfUnchanged only [↓RA, RB, RS, fx32, p1, p2, p3, p4, reduceIte, p5, p6, p7, p8, c1, c2, c3]
    · simp -failIfUnchanged only [↓RA, RB, RS, fx32, p1, p2, p3, p4, reduceIte, p5, p6, p7, p8, c1]
      refine CondH.ff (decide_eq_false (by omega)) (fun c4 => ?_)
      simp -failIfUnchanged only [↓RA, RB, RS, fx32, p1, p2, p3, p4, reduceIte, p5, p6, p7, p8, c1, c4]
      have h := run_some h
      obtain rfl : _ = r := h
      refine FinH.l ?_
      simp -failIfUnchanged only [↓RA, RB, RS, fx32, p1, p2, p3, p4, reduceIte, p5, p6, p7, p8, c1, c4]
  · replace h := run_f c1 h
    simp -failIfUnchanged only [↓RA, RB, RS, fx32, p1, p2, p3, p4, reduceIte, p5, p6, p7, p8, c1]
    have h := run_some h
    obtain rfl : _ = r := h
    refine FinH.l ?_
    simp -failIfUnchanged only [↓RA, RB, RS, fx32, p1, p2, p3, p4, reduceIte, p5, p6, p7, p8, c1]

def fx33 := And.intro @ty_3 <| And.intro @zc_3 <| And.intro @z_3 <| And.intro @ty_29 <| And.intro @zc_29 <| And.intro @z_29 <| And.intro @es_29 <| And.intro @eb_29 <| And.intro @sl_29 <| And.intro @is_29 <| And.intro @el_29 <| And.intro @ze_29 <| And.intro @ez_29 <| @mixedT
set_option maxHeartbeats 4000000 in
theorem eqIntS_sat {a0 : List Int} {a1 : List Int}  {r : Bool} (h : eqIntS a0 a1 = some r) : Sat Tryz.prog 33 [(.sl false 1 (a0.map I)), (.sl false 1 (a1.map I))] (B r) := by
  replace h := Run.of h
  unfold eqIntS at h
  refine Sat.of_m (nt := 26) (rs := [.tmp 4]) (n := 100000) Tryz.func33 rfl rfl rfl rfl (by simp) ?_
  simp -failIfUnchanged only [↓RA, RB, RS, fx33, p1, p2, p3, p4, reduceIte, p5, p6, p7, p8]
  refine CondH.mk (fun c1 => ?_) (fun c1 => ?_)
  · replace h := run_t c1 h
    simp -failIfUnchanged only [↓RA, RB, RS, fx33, p1, p2, p3, p4, reduceIte, p5, p6, p7, p8, c1]
    refine Mg.know_sl (b := false) (sz := 1) (es := a0.map I) 0 (by simp -failIfUnchanged only [↓RA, RB, RS, fx33, p1, p2, p3, p4, reduceIte, p5, p6, p7, p8, c1]) fun hl0 => ?_; rw [List.length_map] at hl0
    replace h := run_loop h
    refine Mg.forN h (fun i4 s4 => [(0, .val (.pv (.sl false 1 (a0.map I)))), (1, .val (.pv (.sl false 1 (a1.map I)))), (5, .val (.pv (I (i4 : Int))))]) (fun i4 s4 => []) (St.le_mk2 (by simp -failIfUnchanged only [↓RA, RB, RS, fx33, p1, p2, p3, p4, reduceIte, p5, p6, p7, p8, c1])) (fun i4 s4 hi h => ?_) (fun s4 h => ?_)
    · have w4 := wrap_succ (i := i4) (by omega)
      simp -failIfUnchanged only [↓RA, RB, RS, fx33, p1, p2, p3, p4, reduceIte, p5, p6, p7, p8, c1]
      refine CondH.tt (decide_eq_true (by omega)) (fun c2 => ?_)
      simp -failIfUnchanged only [↓RA, RB, RS, fx33, p1, p2, p3, p4, reduceIte, p5, p6, p7, p8, c1, c2]
      obtain ⟨v19, hv19, h⟩ := run_bind h
      refine IdxH.mk (f := I) hv19 ?_ ?_ <;> simp -failIfUnchanged only [↓RA, RB, RS, fx33, p1, p2, p3, p4, reduceIte, p5, p6, p7, p8, c1, c2]
      obtain ⟨v23, hv23, h⟩ := run_bind h
      refine IdxH.mk (f := I) hv23 ?_ ?_ <;> simp -failIfUnchanged only [↓RA, RB, RS, fx33, p1, p2, p3, p4, reduceIte, p5, p6, p7, p8, c1, c2]
      refine And.intro (DrawH.none (by rfl) (by first | rfl | (simp -failIfUnchanged only [↓RA, RB, RS, fx33, p1, p2, p3, p4, reduceIte, p5, p6, p7, p8] <;> rfl)) (by first | rfl | (simp -failIfUnchanged only [↓RA, RB, RS, fx33, p1, p2, p3, p4, reduceIte, p5, p6, p7, p8] <;> rfl)) (by first | rfl | (simp -failIfUnchanged only [↓RA, RB, RS, fx33, p1, p2, p3, p4, reduceIte, p5, p6, p7, p8] <;> rfl))) ?_
      simp -failIfUnchanged only [↓RA, RB, RS, fx33, p1, p2, p3, p4, reduceIte, p5, p6, p7, p8, c1, c2]
      refine CondH.mk (fun c3 => ?_) (fun c3 => ?_)
      · replace h := run_t c3 h
        simp -failIfUnchanged only [↓RA, RB, RS, fx33, p1, p2, p3, p4, reduceIte, p5, p6, p7, p8, c1, c2, c3]
        have h := run_some h
        refine RdH.mk ⟨_, h, ?_⟩
        refine St.le_mk2 ?_
        simp -failIfUnchanged only [↓RA, RB, RS, fx33, p1, p2, p3, p4, reduceIte, p5, p6, p7, p8, c1, c2, c3, w4]
      · replace h := run_f c3 h
        simp -failIfUnchanged only [↓RA, RB, RS, fx33, p1, p2, p3, p4, reduceIte, p5, p6, p7, p8, c1, c2, c3]
        have h := run_some h
        obtain rfl : _ = r := h
        refine FinH.l ?_
        simp -failIfUnchanged only [↓RA, RB, RS, fx33, p1, p2, p3, p4, reduceIte, p5, p6, p7, p8, c1, c2, c3]
    · simp -failIfUnchanged only [↓RA, RB, RS, fx33, p1, p2, p3, p4, reduceIte, p5, p6, p7, p8, c1]
      refine CondH.ff (decide_eq_false (by omega)) (fun c4 => ?_)
      simp -failIfUnchanged only [↓RA, RB, RS, fx33, p1, p2, p3, p4, reduceIte, p5, p6, p7, p8, c1, c4]
      have h := run_some h
      obtain rfl : _ = r := h
      refine FinH.l ?_
      simp -failIfUnchanged only [↓RA, RB, RS, fx33, p1, p2, p3, p4, reduceIte, p5, p6, p7, p8, c1, c4]
  · replace h := run_f c1 h
    simp -failIfUnchanged only [↓RA, RB, RS, fx33, p1, p2, p3, p4, reduceIte, p5, p6, p7, p8, c1]
    have h := run_some h
    obtain rfl : _ = r := h
    refine FinH.l ?_
    simp -failIfUnchanged only [↓RA, RB, RS, fx33, p1, p2, p3, p4, reduceIte, p5, p6, p7, p8, c1]

def fx11 := And.intro @ty_3 <| And.intro @zc_3 <| And.intro @z_3 <| And.intro @ty_4 <| And.intro @zc_4 <| And.intro @z_4 <| And.intro @u_4 <| And.intro @ty_28 <| And.intro @zc_28 <| And.intro @z_28 <| And.intro @es_28 <| And.intro @eb_28 <| And.intro @sl_28 <| And.intro @is_28 <| And.intro @el_28 <| And.intro @ze_28 <| And.intro @ez_28 <| And.intro @ty_29 <| And.intro @zc_29 <| And.intro @z_29 <| And.intro @es_29 <| And.intro @eb_29 <| And.intro @sl_29 <| And.intro @is_29 <| And.intro @el_29 <| And.intro @ze_29 <| And.intro @ez_29 <| And.intro @ty_31 <| And.intro @zc_31 <| And.intro @z_31 <| And.intro @fo_31_0 <| And.intro @fi_31_0 <| And.intro @ft_31_0 <| And.intro @fo_31_1 <| And.intro @fi_31_1 <| And.intro @ft_31_1 <| And.intro @fo_31_2 <| And.intro @fi_31_2 <| And.intro @ft_31_2 <| @lay_31
set_option maxHeartbeats 4000000 in
theorem eqLinear_sat {a0 : Linear} {a1 : Linear}  {r : Bool} (h : eqLinear a0 a1 = some r) : Sat Tryz.prog 11 [((Linear.pv false) a0), ((Linear.pv false) a1)] (B r) := by
  replace h := Run.of h
  unfold eqLinear at h
  refine Sat.of_m (nt := 22) (rs := [.tmp 4]) (n := 100000) Tryz.func11 rfl rfl rfl rfl (by simp) ?_
  simp -failIfUnchanged only [↓RA, RB, RS, fx11, p1, p2, p3, p4, reduceIte, p5, p6, p7, p8]
  repeat (first | with_reducible refine noR_and (by repeat (first | exact noR_empty _ _ | exact noR_nilS _ _ | refine noR_mk _ _ _ _ _ rfl ?_ | refine noR_mkS _ _ _ _ _ rfl ?_)) ?_ | with_reducible refine noC_and (by repeat (first | exact noC_empty _ _ (by simp -failIfUnchanged only [↓RA, RB, RS, fx11, p1, p2, p3, p4, reduceIte, p5, p6, p7, p8]) | exact noC_nilS _ _ (by simp -failIfUnchanged only [↓RA, RB, RS, fx11, p1, p2, p3, p4, reduceIte, p5, p6, p7, p8]) | refine noC_mk _ _ _ _ _ rfl ?_ | refine noC_mkS _ _ _ _ _ rfl ?_)) ?_ | with_reducible refine and_ac ?_ | with_reducible refine And.intro (a := _ = List.range _) (by rfl) ?_)
  obtain ⟨v9, hv9, h⟩ := run_bind h
  refine CallH.mk [false, false] (eqStringS_sat hv9) ?_ ?_ <;> simp -failIfUnchanged only [↓RA, RB, RS, fx11, p1, p2, p3, p4, reduceIte, p5, p6, p7, p8]
  refine CondH.mk (fun c1 => ?_) (fun c1 => ?_)
  · replace h := run_t c1 h
    simp -failIfUnchanged only [↓RA, RB, RS, fx11, p1, p2, p3, p4, reduceIte, p5, p6, p7, p8, c1]
    obtain ⟨v15, hv15, h⟩ := run_bind h
    refine CallH.mk [false, false] (eqIntS_sat hv15) ?_ ?_ <;> simp -failIfUnchanged only [↓RA, RB, RS, fx11, p1, p2, p3, p4, reduceIte, p5, p6, p7, p8, c1]
    refine CondH.mk (fun c2 => ?_) (fun c2 => ?_)
    · replace h := run_t c2 h
      simp -failIfUnchanged only [↓RA, RB, RS, fx11, p1, p2, p3, p4, reduceIte, p5, p6, p7, p8, c1, c2]
      refine CondH.mk (fun c3 => ?_) (fun c3 => ?_)
      · replace h := run_t c3 h
        simp -failIfUnchanged only [↓RA, RB, RS, fx11, p1, p2, p3, p4, reduceIte, p5, p6, p7, p8, c1, c2, c3]
        have h := run_some h
        obtain rfl : _ = r := h
        refine FinH.l ?_
        simp -failIfUnchanged only [↓RA, RB, RS, fx11, p1, p2, p3, p4, reduceIte, p5, p6, p7, p8, c1, c2, c3]
      · replace h := run_f c3 h
        simp -failIfUnchanged only [↓RA, RB, RS, fx11, p1, p2, p3, p4, reduceIte, p5, p6, p7, p8, c1, c2, c3]
        have h := run_some h
        obtain rfl : _ = r := h
        refine FinH.l ?_
        simp -failIfUnchanged only [↓RA, RB, RS, fx11, p1, p2, p3, p4, reduceIte, p5, p6, p7, p8, c1, c2, c3]
    · replace h := run_f c2 h
      simp -failIfUnchanged only [↓RA, RB, RS, fx11, p1, p2, p3, p4, reduceIte, p5, p6, p7, p8, c1, c2]
      have h := run_some h
      obtain rfl : _ = r := h
      refine FinH.l ?_
      simp -failIfUnchanged only [↓RA, RB, RS, fx11, p1, p2, p3, p4, reduceIte, p5, p6, p7, p8, c1, c2]
  · replace h := run_f c1 h
    simp -failIfUnchanged only [↓RA, RB, RS, fx11, p1, p2, p3, p4, reduceIte, p5, p6, p7, p8, c1]
    have h := run_some h
    obtain rfl : _ = r := h
    refine FinH.l ?_
    simp -failIfUnchanged only [↓RA, RB, RS, fx11, p1, p2, p3, p4, reduceIte, p5, p6, p7, p8, c1]

def fx34 := And.intro @ty_3 <| And.intro @zc_3 <| And.intro @z_3 <| And.intro @ty_4 <| And.intro @zc_4 <| And.intro @z_4 <| And.intro @u_4 <| And.intro @ty_9 <| And.intro @zc_9 <| And.intro @z_9 <| And.intro @u_9 <| And.intro @ty_29 <| And.intro @zc_29 <| And.intro @z_29 <| And.intro @es_29 <| And.intro @eb_29 <| And.intro @sl_29 <| And.intro @is_29 <| And.intro @el_29 <| And.intro @ze_29 <| And.intro @ez_29 <| And.intro @ty_58 <| And.intro @zc_58 <| And.intro @z_58 <| And.intro @fo_58_0 <| And.intro @fi_58_0 <| And.intro @ft_58_0 <| And.intro @fo_58_1 <| And.intro @fi_58_1 <| And.intro @ft_58_1 <| And.intro @fo_58_2 <| And.intro @fi_58_2 <| And.intro @ft_58_2 <| @lay_58
set_option maxHeartbeats 4000000 in
theorem eqMajorant_sat {a0 : Majorant} {a1 : Majorant}  {r : Bool} (h : eqMajorant a0 a1 = some r) : Sat Tryz.prog 34 [((Majorant.pv false) a0), ((Majorant.pv false) a1)] (B r) := by
  replace h := Run.of h
  unfold eqMajorant at h
  refine Sat.of_m (nt := 21) (rs := [.tmp 4]) (n := 100000) Tryz.func34 rfl rfl rfl rfl (by simp) ?_
  simp -failIfUnchanged only [↓RA, RB, RS, fx34, p1, p2, p3, p4, reduceIte, p5, p6, p7, p8]
  repeat (first | with_reducible refine noR_and (by repeat (first | exact noR_empty _ _ | exact noR_nilS _ _ | refine noR_mk _ _ _ _ _ rfl ?_ | refine noR_mkS _ _ _ _ _ rfl ?_)) ?_ | with_reducible refine noC_and (by repeat (first | exact noC_empty _ _ (by simp -failIfUnchanged only [↓RA, RB, RS, fx34, p1, p2, p3, p4, reduceIte, p5, p6, p7, p8]) | exact noC_nilS _ _ (by simp -failIfUnchanged only [↓RA, RB, RS, fx34, p1, p2, p3, p4, reduceIte, p5, p6, p7, p8]) | refine noC_mk _ _ _ _ _ rfl ?_ | refine noC_mkS _ _ _ _ _ rfl ?_)) ?_ | with_reducible refine and_ac ?_ | with_reducible refine And.intro (a := _ = List.range _) (by rfl) ?_)
  refine CondH.mk (fun c1 => ?_) (fun c1 => ?_)
  · replace h := run_t c1 h
    simp -failIfUnchanged only [↓RA, RB, RS, fx34, p1, p2, p3, p4, reduceIte, p5, p6, p7, p8, c1]
    obtain ⟨v14, hv14, h⟩ := run_bind h
    refine CallH.mk [false, false] (eqIntS_sat hv14) ?_ ?_ <;> simp -failIfUnchanged only [↓RA, RB, RS, fx34, p1, p2, p3, p4, reduceIte, p5, p6, p7, p8, c1]
    refine CondH.mk (fun c2 => ?_) (fun c2 => ?_)
    · replace h := run_t c2 h
      simp -failIfUnchanged only [↓RA, RB, RS, fx34, p1, p2, p3, p4, reduceIte, p5, p6, p7, p8, c1, c2]
      refine CondH.mk (fun c3 => ?_) (fun c3 => ?_)
      · replace h := run_t c3 h
        simp -failIfUnchanged only [↓RA, RB, RS, fx34, p1, p2, p3, p4, reduceIte, p5, p6, p7, p8, c1, c2, c3]
        have h := run_some h
        obtain rfl : _ = r := h
        refine FinH.l ?_
        simp -failIfUnchanged only [↓RA, RB, RS, fx34, p1, p2, p3, p4, reduceIte, p5, p6, p7, p8, c1, c2, c3]
      · replace h := run_f c3 h
        simp -failIfUnchanged only [↓RA, RB, RS, fx34, p1, p2, p3, p4, reduceIte, p5, p6, p7, p8, c1, c2, c3]
        have h := run_some h
        obtain rfl : _ = r := h
        refine FinH.l ?_
        simp -failIfUnchanged only [↓RA, RB, RS, fx34, p1, p2, p3, p4, reduceIte, p5, p6, p7, p8, c1, c2, c3]
    · replace h := run_f c2 h
      simp -failIfUnchanged only [↓RA, RB, RS, fx34, p1, p2, p3, p4, reduceIte, p5, p6, p7, p8, c1, c2]
      have h := run_some h
      obtain rfl : _ = r := h
      refine FinH.l ?_
      simp -failIfUnchanged only [↓RA, RB, RS, fx34, p1, p2, p3, p4, reduceIte, p5, p6, p7, p8, c1, c2]
  · replace h := run_f c1 h
    simp -failIfUnchanged only [↓RA, RB, RS, fx34, p1, p2, p3, p4, reduceIte, p5, p6, p7, p8, c1]
    have h := run_some h
    obtain rfl : _ = r := h
    refine FinH.l ?_
    simp -failIfUnchanged only [↓RA, RB, RS, fx34, p1, p2, p3, p4, reduceIte, p5, p6, p7, p8, c1]

def fx12 := And.intro @ty_3 <| And.intro @zc_3 <| And.intro @z_3 <| And.intro @ty_4 <| And.intro @zc_4 <| And.intro @z_4 <| And.intro @u_4 <| And.intro @ty_34 <| And.intro @zc_34 <| And.intro @z_34 <| And.intro @es_34 <| And.intro @eb_34 <| And.intro @sl_34 <| And.intro @is_34 <| And.intro @el_34 <| And.intro @ze_34 <| And.intro @ez_34 <| And.intro @ty_58 <| And.intro @zc_58 <| And.intro @z_58 <| And.intro @fo_58_0 <| And.intro @fi_58_0 <| And.intro @ft_58_0 <| And.intro @fo_58_1 <| And.intro @fi_58_1 <| And.intro @ft_58_1 <| And.intro @fo_58_2 <| And.intro @fi_58_2 <| And.intro @ft_58_2 <| And.intro @lay_58 <| @mixedT
set_option maxHeartbeats 4000000 in
theorem eqMajorantS_sat {a0 : List Majorant} {a1 : List Majorant}  {r : Bool} (h : eqMajorantS a0 a1 = some r) : Sat Tryz.prog 12 [(.sl false 3 (a0.map (Majorant.pv false))), (.sl false 3 (a1.map (Majorant.pv false)))] (B r) := by
  replace h := Run.of h
  unfold eqMajorantS at h
  refine Sat.of_m (nt := 27) (rs := [.tmp 4]) (n := 100000) Tryz.func12 rfl rfl rfl rfl (by simp) ?_
  simp -failIfUnchanged only [↓RA, RB, RS, fx12, p1, p2, p3, p4, reduceIte, p5, p6, p7, p8]
  refine CondH.mk (fun c1 => ?_) (fun c1 => ?_)
  · replace h := run_t c1 h
    simp -failIfUnchanged only [↓RA, RB, RS, fx12, p1, p2, p3, p4, reduceIte, p5, p6, p7, p8, c1]
    refine Mg.know_sl (b := false) (sz := 3) (es := a0.map (Majorant.pv false)) 0 (by simp -failIfUnchanged only [↓RA, RB, RS, fx12, p1, p2, p3, p4, reduceIte, p5, p6, p7, p8, c1]) fun hl0 => ?_; rw [List.length_map] at hl0
    replace h := run_loop h
    refine Mg.forN h (fun i4 s4 => [(0, .val (.pv (.sl false 3 (a0.map (Majorant.pv false))))), (1, .val (.pv (.sl false 3 (a1.map (Majorant.pv false))))), (5, .val (.pv (I (i4 : Int))))]) (fun i4 s4 => []) (St.le_mk2 (by simp -failIfUnchanged only [↓RA, RB, RS, fx12, p1, p2, p3, p4, reduceIte, p5, p6, p7, p8, c1])) (fun i4 s4 hi h => ?_) (fun s4 h => ?_)
    · have w4 := wrap_succ (i := i4) (by omega)
      simp -failIfUnchanged only [↓RA, RB, RS, fx12, p1, p2, p3, p4, reduceIte, p5, p6, p7, p8, c1]
      refine CondH.tt (decide_eq_true (by omega)) (fun c2 => ?_)
      simp -failIfUnchanged only [↓RA, RB, RS, fx12, p1, p2, p3, p4, reduceIte, p5, p6, p7, p8, c1, c2]
      obtain ⟨v19, hv19, h⟩ := run_bind h
      refine IdxH.mk (f := (Majorant.pv false)) hv19 ?_ ?_ <;> simp -failIfUnchanged only [↓RA, RB, RS, fx12, p1, p2, p3, p4, reduceIte, p5, p6, p7, p8, c1, c2]
      obtain ⟨v23, hv23, h⟩ := run_bind h
      refine IdxH.mk (f := (Majorant.pv false)) hv23 ?_ ?_ <;> simp -failIfUnchanged only [↓RA, RB, RS, fx12, p1, p2, p3, p4, reduceIte, p5, p6, p7, p8, c1, c2]
      obtain ⟨v25, hv25, h⟩ := run_bind h
      refine CallH.mk [false, false] (eqMajorant_sat hv25) ?_ ?_ <;> simp -failIfUnchanged only [↓RA, RB, RS, fx12, p1, p2, p3, p4, reduceIte, p5, p6, p7, p8, c1, c2]
      refine And.intro (DrawH.none (by rfl) (by first | rfl | (simp -failIfUnchanged only [↓RA, RB, RS, fx12, p1, p2, p3, p4, reduceIte, p5, p6, p7, p8] <;> rfl)) (by first | rfl | (simp -failIfUnchanged only [↓RA, RB, RS, fx12, p1, p2, p3, p4, reduceIte, p5, p6, p7, p8] <;> rfl)) (by first | rfl | (simp -failIfUnchanged only [↓RA, RB, RS, fx12, p1, p2, p3, p4, reduceIte, p5, p6, p7, p8] <;> rfl))) ?_
      simp -failIfUnchanged only [↓RA, RB, RS, fx12, p1, p2, p3, p4, reduceIte, p5, p6, p7, p8, c1, c2]
      refine CondH.mk (fun c3 => ?_) (fun c3 => ?_)
      · replace h := run_t c3 h
        simp -failIfUnchanged only [↓RA, RB, RS, fx12, p1, p2, p3, p4, reduceIte, p5, p6, p7, p8, c1, c2, c3]
        have h := run_some h
        refine RdH.mk ⟨_, h, ?_⟩
        refine St.le_mk2 ?_
        simp -failIfUnchanged only [↓RA, RB, RS, fx12, p1, p2, p3, p4, reduceIte, p5, p6, p7, p8, c1, c2, c3, w4]
      · replace h := run_f c3 h
        simp -failIfUnchanged only [↓RA, RB, RS, fx12, p1, p2, p3, p4, reduceIte, p5, p6, p7, p8, c1, c2, c3]
        have h := run_some h
        obtain rfl : _ = r := h
        refine FinH.l ?_
        simp -failIfUnchanged only [↓RA, RB, RS, fx12, p1, p2, p3, p4, reduceIte, p5, p6, p7, p8, c1, c2, c3]
    · simp -failIfUnchanged only [↓RA, RB, RS, fx12, p1, p2, p3, p4, reduceIte, p5, p6, p7, p8, c1]
      refine CondH.ff (decide_eq_false (by omega)) (fun c4 => ?_)
      simp -failIfUnchanged only [↓RA, RB, RS, fx12, p1, p2, p3, p4, reduceIte, p5, p6, p7, p8, c1, c4]
      have h := run_some h
      obtain rfl : _ = r := h
      refine FinH.l ?_
      simp -failIfUnchanged only [↓RA, RB, RS, fx12, p1, p2, p3, p4, reduceIte, p5, p6, p7, p8, c1, c4]
  · replace h := run_f c1 h
    simp -failIfUnchanged only [↓RA, RB, RS, fx12, p1, p2, p3, p4, reduceIte, p5, p6, p7, p8, c1]
    have h := run_some h
    obtain rfl : _ = r := h
    refine FinH.l ?_
    simp -failIfUnchanged only [↓RA, RB, RS, fx12, p1, p2, p3, p4, reduceIte, p5, p6, p7, p8, c1]

def fx13 := And.intro @ty_4 <| And.intro @zc_4 <| And.intro @z_4 <| And.intro @u_4 <| And.intro @ty_9 <| And.intro @zc_9 <| And.intro @z_9 <| And.intro @u_9 <| And.intro @ty_36 <| And.intro @zc_36 <| And.intro @z_36 <| And.intro @es_36 <| And.intro @eb_36 <| And.intro @sl_36 <| And.intro @is_36 <| And.intro @el_36 <| And.intro @ze_36 <| And.intro @ez_36 <| And.intro @ty_38 <| And.intro @zc_38 <| And.intro @z_38 <| And.intro @fo_38_0 <| And.intro @fi_38_0 <| And.intro @ft_38_0 <| And.intro @fo_38_1 <| And.intro @fi_38_1 <| And.intro @ft_38_1 <| @lay_38
def fx22 := And.intro @ty_3 <| And.intro @zc_3 <| And.intro @z_3 <| And.intro @ty_4 <| And.intro @zc_4 <| And.intro @z_4 <| And.intro @u_4 <| And.intro @ty_36 <| And.intro @zc_36 <| And.intro @z_36 <| And.intro @es_36 <| And.intro @eb_36 <| And.intro @sl_36 <| And.intro @is_36 <| And.intro @el_36 <| And.intro @ze_36 <| And.intro @ez_36 <| And.intro @ty_38 <| And.intro @zc_38 <| And.intro @z_38 <| And.intro @fo_38_0 <| And.intro @fi_38_0 <| And.intro @ft_38_0 <| And.intro @fo_38_1 <| And.intro @fi_38_1 <| And.intro @ft_38_1 <| And.intro @lay_38 <| @mixedT
set_option maxHeartbeats 4000000 in
theorem eqTermN_sat (n : Nat) : (∀ (a0 : Term) (a1 : Term) (r : Bool), eqTermN n a0 a1 = some r → Sat Tryz.prog 13 [((Term.pv false) a0), ((Term.pv false) a1)] (B r)) ∧ (∀ (a0 : List Term) (a1 : List Term) (r : Bool), eqTermSN n a0 a1 = some r → Sat Tryz.prog 22 [(.sl false 2 (a0.map (Term.pv false))), (.sl false 2 (a1.map (Term.pv false)))] (B r)) := by
  induction n with
  | zero => exact ⟨fun _ _ _ h => by simp [eqTermN] at h, fun _ _ _ h => by simp [eqTermSN] at h⟩
  | succ n ih =>
    refine ⟨fun a0 a1 r h => ?_, fun a0 a1 r h => ?_⟩
    · replace h := Run.of h
      rw [eqTermN] at h
      refine Sat.of_m (nt := 16) (rs := [.tmp 4]) (n := 100000) Tryz.func13 rfl rfl rfl rfl (by simp) ?_
      simp -failIfUnchanged only [↓RA, RB, RS, fx13, p1, p2, p3, p4, reduceIte, p5, p6, p7, p8]
      repeat (first | with_reducible refine noR_and (by repeat (first | exact noR_empty _ _ | exact noR_nilS _ _ | refine noR_mk _ _ _ _ _ rfl ?_ | refine noR_mkS _ _ _ _ _ rfl ?_)) ?_ | with_reducible refine noC_and (by repeat (first | exact noC_empty _ _ (by simp -failIfUnchanged only [↓RA, RB, RS, fx13, p1, p2, p3, p4, reduceIte, p5, p6, p7, p8]) | exact noC_nilS _ _ (by simp -failIfUnchanged only [↓RA, RB, RS, fx13, p1, p2, p3, p4, reduceIte, p5, p6, p7, p8]) | refine noC_mk _ _ _ _ _ rfl ?_ | refine noC_mkS _ _ _ _ _ rfl ?_)) ?_ | with_reducible refine and_ac ?_ | with_reducible refine And.intro (a := _ = List.range _) (by rfl) ?_)
      refine CondH.mk (fun c1 => ?_) (fun c1 => ?_)
      · replace h := run_t c1 h
        simp -failIfUnchanged only [↓RA, RB, RS, fx13, p1, p2, p3, p4, reduceIte, p5, p6, p7, p8, c1]
        obtain ⟨v14, hv14, h⟩ := run_bind h
        refine CallH.mk [false, false] (ih.2 _ _ _ hv14) ?_ ?_ <;> simp -failIfUnchanged only [↓RA, RB, RS, fx13, p1, p2, p3, p4, reduceIte, p5, p6, p7, p8, c1]
        refine CondH.mk (fun c2 => ?_) (fun c2 => ?_)
        · replace h := run_t c2 h
          simp -failIfUnchanged only [↓RA, RB, RS, fx13, p1, p2, p3, p4, reduceIte, p5, p6, p7, p8, c1, c2]
          have h := run_some h
          obtain rfl : _ = r := h
          refine FinH.l ?_
          simp -failIfUnchanged only [↓RA, RB, RS, fx13, p1, p2, p3, p4, reduceIte, p5, p6, p7, p8, c1, c2]
        · replace h := run_f c2 h
          simp -failIfUnchanged only [↓RA, RB, RS, fx13, p1, p2, p3, p4, reduceIte, p5, p6, p7, p8, c1, c2]
          have h := run_some h
          obtain rfl : _ = r := h
          refine FinH.l ?_
          simp -failIfUnchanged only [↓RA, RB, RS, fx13, p1, p2, p3, p4, reduceIte, p5, p6, p7, p8, c1, c2]
      · replace h := run_f c1 h
        simp -failIfUnchanged only [↓RA, RB, RS, fx13, p1, p2, p3, p4, reduceIte, p5, p6, p7, p8, c1]
        have h := run_some h
        obtain rfl : _ = r := h
        refine FinH.l ?_
        simp -failIfUnchanged only [↓RA, RB, RS, fx13, p1, p2, p3, p4, reduceIte, p5, p6, p7, p8, c1]
    · replace h := Run.of h
      rw [eqTermSN] at h
      refine Sat.of_m (nt := 27) (rs := [.tmp 4]) (n := 100000) Tryz.func22 rfl rfl rfl rfl (by simp) ?_
      simp -failIfUnchanged only [↓RA, RB, RS, fx22, p1, p2, p3, p4, reduceIte, p5, p6, p7, p8]
      refine CondH.mk (fun c1 => ?_) (fun c1 => ?_)
      · replace h := run_t c1 h
        simp -failIfUnchanged only [↓RA, RB, RS, fx22, p1, p2, p3, p4, reduceIte, p5, p6, p7, p8, c1]
        refine Mg.know_sl (b := false) (sz := 2) (es := a0.map (Term.pv false)) 0 (by simp -failIfUnchanged only [↓RA, RB, RS, fx22, p1, p2, p3, p4, reduceIte, p5, p6, p7, p8, c1]) fun hl0 => ?_; rw [List.length_map] at hl0
        replace h := run_loop h
        refine Mg.forN h (fun i4 s4 => [(0, .val (.pv (.sl false 2 (a0.map (Term.pv false))))), (1, .val (.pv (.sl false 2 (a1.map (Term.pv false))))), (5, .val (.pv (I (i4 : Int))))]) (fun i4 s4 => []) (St.le_mk2 (by simp -failIfUnchanged only [↓RA, RB, RS, fx22, p1, p2, p3, p4, reduceIte, p5, p6, p7, p8, c1])) (fun i4 s4 hi h => ?_) (fun s4 h => ?_)
        · have w4 := wrap_succ (i := i4) (by omega)
          simp -failIfUnchanged only [↓RA, RB, RS, fx22, p1, p2, p3, p4, reduceIte, p5, p6, p7, p8, c1]
          refine CondH.tt (decide_eq_true (by omega)) (fun c2 => ?_)
          simp -failIfUnchanged only [↓RA, RB, RS, fx22, p1, p2, p3, p4, reduceIte, p5, p6, p7, p8, c1, c2]
          obtain ⟨v19, hv19, h⟩ := run_bind h
          refine IdxH.mk (f := (Term.pv false)) hv19 ?_ ?_ <;> simp -failIfUnchanged only [↓RA, RB, RS, fx22, p1, p2, p3, p4, reduceIte, p5, p6, p7, p8, c1, c2]
          obtain ⟨v23, hv23, h⟩ := run_bind h
          refine IdxH.mk (f := (Term.pv false)) hv23 ?_ ?_ <;> simp -failIfUnchanged only [↓RA, RB, RS, fx22, p1, p2, p3, p4, reduceIte, p5, p6, p7, p8, c1, c2]
          obtain ⟨v25, hv25, h⟩ := run_bind h
          refine CallH.mk [false, false] (ih.1 _ _ _ hv25) ?_ ?_ <;> simp -failIfUnchanged only [↓RA, RB, RS, fx22, p1, p2, p3, p4, reduceIte, p5, p6, p7, p8, c1, c2]
          refine And.intro (DrawH.none (by rfl) (by first | rfl | (simp -failIfUnchanged only [↓RA, RB, RS, fx22, p1, p2, p3, p4, reduceIte, p5, p6, p7, p8] <;> rfl)) (by first | rfl | (simp -failIfUnchanged only [↓RA, RB, RS, fx22, p1, p2, p3, p4, reduceIte, p5, p6, p7, p8] <;> rfl)) (by first | rfl | (simp -failIfUnchanged only [↓RA, RB, RS, fx22, p1, p2, p3, p4, reduceIte, p5, p6, p7, p8] <;> rfl))) ?_
          simp -failIfUnchanged only [↓RA, RB, RS, fx22, p1, p2, p3, p4, reduceIte, p5, p6, p7, p8, c1, c2]
          refine CondH.mk (fun c3 => ?_) (fun c3 => ?_)
          · replace h := run_t c3 h
            simp -failIfUnchanged only [↓RA, RB, RS, fx22, p1, p2, p3, p4, reduceIte, p5, p6, p7, p8, c1, c2, c3]
            have h := run_some h
            refine RdH.mk ⟨_, h, ?_⟩
            refine St.le_mk2 ?_
            simp -failIfUnchanged only [↓RA, RB, RS, fx22, p1, p2, p3, p4, reduceIte, p5, p6, p7, p8, c1, c2, c3, w4]
          · replace h := run_f c3 h
            simp -failIfUnchanged only [↓RA, RB, RS, fx22, p1, p2, p3, p4, reduceIte, p5, p6, p7, p8, c1, c2, c3]
            have h := run_some h
            obtain rfl : _ = r := h
            refine FinH.l ?_
            simp -failIfUnchanged only [↓RA, RB, RS, fx22, p1, p2, p3, p4, reduceIte, p5, p6, p7, p8, c1, c2, c3]
        · simp -failIfUnchanged only [↓RA, RB, RS, fx22, p1, p2, p3, p4, reduceIte, p5, p6, p7, p8, c1]
          refine CondH.ff (decide_eq_false (by omega)) (fun c4 => ?_)
          simp -failIfUnchanged only [↓RA, RB, RS, fx22, p1, p2, p3, p4, reduceIte, p5, p6, p7, p8, c1, c4]
          have h := run_some h
          obtain rfl : _ = r := h
          refine FinH.l ?_
          simp -failIfUnchanged only [↓RA, RB, RS, fx22, p1, p2, p3, p4, reduceIte, p5, p6, p7, p8, c1, c4]
      · replace h := run_f c1 h
        simp -failIfUnchanged only [↓RA, RB, RS, fx22, p1, p2, p3, p4, reduceIte, p5, p6, p7, p8, c1]
        have h := run_some h
        obtain rfl : _ = r := h
        refine FinH.l ?_
        simp -failIfUnchanged only [↓RA, RB, RS, fx22, p1, p2, p3, p4, reduceIte, p5, p6, p7, p8, c1]
theorem eqTerm_sat {a0 : Term} {a1 : Term} {r : Bool} (h : eqTerm a0 a1 = some r) : Sat Tryz.prog 13 [((Term.pv false) a0), ((Term.pv false) a1)] (B r) := by
  obtain ⟨n, hn⟩ := lim_some h
  exact (eqTermN_sat n).1 _ _ _ hn
theorem eqTermS_sat {a0 : List Term} {a1 : List Term} {r : Bool} (h : eqTermS a0 a1 = some r) : Sat Tryz.prog 22 [(.sl false 2 (a0.map (Term.pv false))), (.sl false 2 (a1.map (Term.pv false)))] (B r) := by
  obtain ⟨n, hn⟩ := lim_some h
  exact (eqTermN_sat n).2 _ _ _ hn

def fx35 := And.intro @ty_3 <| And.intro @zc_3 <| And.intro @z_3 <| And.intro @ty_5 <| And.intro @zc_5 <| And.intro @z_5 <| And.intro @ty_9 <| And.intro @zc_9 <| And.intro @z_9 <| And.intro @u_9 <| And.intro @ty_81 <| And.intro @zc_81 <| And.intro @z_81 <| And.intro @es_81 <| And.intro @eb_81 <| And.intro @sl_81 <| And.intro @by_81 <| And.intro @is_81 <| And.intro @el_81 <| And.intro @ze_81 <| And.intro @ez_81 <| And.intro @uk_3 <| And.intro @uk_5 <| @uk_9
set_option maxHeartbeats 4000000 in
theorem markText_sat {a0 : Int}  {r : ByteArray} (h : markText a0 = some r) : Sat Tryz.prog 35 [(I a0)] (Sx r) := by
  replace h := Run.of h
  unfold markText at h
  refine Sat.of_m (nt := 20) (rs := [.tmp 2]) (n := 100000) Tryz.func35 rfl rfl rfl rfl (by simp) ?_
  simp -failIfUnchanged only [↓RA, RB, RS, fx35, p1, p2, p3, p4, reduceIte, p5, p6, p7, p8]
  refine CondH.mk (fun c1 => ?_) (fun c1 => ?_)
  · replace h := run_t c1 h
    simp -failIfUnchanged only [↓RA, RB, RS, fx35, p1, p2, p3, p4, reduceIte, p5, p6, p7, p8, c1]
    have h := run_some h
    obtain rfl : _ = r := h
    refine FinH.l ?_
    simp -failIfUnchanged only [↓RA, RB, RS, fx35, p1, p2, p3, p4, reduceIte, p5, p6, p7, p8, c1]
  · replace h := run_f c1 h
    simp -failIfUnchanged only [↓RA, RB, RS, fx35, p1, p2, p3, p4, reduceIte, p5, p6, p7, p8, c1]
    replace h := run_loop h
    refine Mg.whileN h (fun s4 => [(0, .val (.pv (I s4.1))), (3, .val (.pv (Sx s4.2)))]) (fun s4 => []) (St.le_mk2 (by simp -failIfUnchanged only [↓RA, RB, RS, fx35, p1, p2, p3, p4, reduceIte, p5, p6, p7, p8, c1])) (fun n4 s4 h => ?_)
    simp -failIfUnchanged only [↓RA, RB, RS, fx35, p1, p2, p3, p4, reduceIte, p5, p6, p7, p8, c1]
    refine CondH.mk (fun c2 => ?_) (fun c2 => ?_)
    · replace h := run_t c2 h
      simp -failIfUnchanged only [↓RA, RB, RS, fx35, p1, p2, p3, p4, reduceIte, p5, p6, p7, p8, c1, c2]
      obtain ⟨v9, hv9, h⟩ := run_bind h
      refine remH.mk hv9 ?_
      simp -failIfUnchanged only [↓RA, RB, RS, fx35, p1, p2, p3, p4, reduceIte, p5, p6, p7, p8, c1, c2]
      repeat (first | with_reducible refine noR_and (by repeat (first | exact noR_empty _ _ | exact noR_nilS _ _ | refine noR_mk _ _ _ _ _ rfl ?_ | refine noR_mkS _ _ _ _ _ rfl ?_)) ?_ | with_reducible refine noC_and (by repeat (first | exact noC_empty _ _ (by simp -failIfUnchanged only [↓RA, RB, RS, fx35, p1, p2, p3, p4, reduceIte, p5, p6, p7, p8]) | exact noC_nilS _ _ (by simp -failIfUnchanged only [↓RA, RB, RS, fx35, p1, p2, p3, p4, reduceIte, p5, p6, p7, p8]) | refine noC_mk _ _ _ _ _ rfl ?_ | refine noC_mkS _ _ _ _ _ rfl ?_)) ?_ | with_reducible refine and_ac ?_ | with_reducible refine And.intro (a := _ = List.range _) (by rfl) ?_)
      obtain ⟨v13, hv13, h⟩ := run_bind h
      refine BstrH.mk hv13 ?_ ?_ <;> simp -failIfUnchanged only [↓RA, RB, RS, fx35, p1, p2, p3, p4, reduceIte, p5, p6, p7, p8, c1, c2]
      obtain ⟨v15, hv15, h⟩ := run_bind h
      refine SappH.mk hv15 ?_
      simp -failIfUnchanged only [↓RA, RB, RS, fx35, p1, p2, p3, p4, reduceIte, p5, p6, p7, p8, c1, c2]
      obtain ⟨v17, hv17, h⟩ := run_bind h
      refine quoH.mk hv17 ?_
      simp -failIfUnchanged only [↓RA, RB, RS, fx35, p1, p2, p3, p4, reduceIte, p5, p6, p7, p8, c1, c2]
      have h := run_some h
      refine RdH.mk ⟨_, h, ?_⟩
      refine St.le_mk2 ?_
      simp -failIfUnchanged only [↓RA, RB, RS, fx35, p1, p2, p3, p4, reduceIte, p5, p6, p7, p8, c1, c2]
    · replace h := run_f c2 h
      simp -failIfUnchanged only [↓RA, RB, RS, fx35, p1, p2, p3, p4, reduceIte, p5, p6, p7, p8, c1, c2]
      have h := run_some h
      obtain ⟨v19, hv19, h⟩ := run_bind h
      refine SappH.mk hv19 ?_
      simp -failIfUnchanged only [↓RA, RB, RS, fx35, p1, p2, p3, p4, reduceIte, p5, p6, p7, p8, c1, c2]
      have h := run_some h
      obtain rfl : _ = r := h
      refine FinH.l ?_
      simp -failIfUnchanged only [↓RA, RB, RS, fx35, p1, p2, p3, p4, reduceIte, p5, p6, p7, p8, c1, c2]

def fx36 := And.intro @ty_3 <| And.intro @zc_3 <| And.intro @z_3 <| And.intro @ty_29 <| And.intro @zc_29 <| And.intro @z_29 <| And.intro @es_29 <| And.intro @eb_29 <| And.intro @sl_29 <| And.intro @is_29 <| And.intro @el_29 <| And.intro @ze_29 <| @ez_29
set_option maxHeartbeats 4000000 in
theorem markIntS_sat {a0 : List Int} {a1 : Int}  {r : Int × (List Int)} (h : markIntS a0 a1 = some r) : SatIO Tryz.prog 36 [(.sl true 1 (a0.map I)), (I a1)] [(.sl true 1 (r.2.map I)), (I a1)] (I r.1) := by
  replace h := Run.of h
  unfold markIntS at h
  refine SatIO.of_m (nt := 19) (rs := [.tmp 4]) (n := 100000) Tryz.func36 rfl rfl rfl rfl (by simp) ?_
  simp -failIfUnchanged only [↓RA, ↓RI, RB, RJ, RS, fx36, p1, p2, p3, p4, reduceIte, p5, p6, p7, p8]
  replace h := run_loop h
  refine Mg.whileN h (fun s2 => [(0, .val (.own 10000)), (1, .val (.pv (I s2.2.1))), (5, .val (.pv (I s2.2.2)))]) (fun s2 => [(10000, (1, s2.1.map I))]) (St.le_mk2 (by simp -failIfUnchanged only [↓RA, ↓RI, RB, RJ, RS, fx36, p1, p2, p3, p4, reduceIte, p5, p6, p7, p8])) (fun n2 s2 h => ?_)
  simp -failIfUnchanged only [↓RA, ↓RI, RB, RJ, RS, fx36, p1, p2, p3, p4, reduceIte, p5, p6, p7, p8]
  refine CondH.mk (fun c1 => ?_) (fun c1 => ?_)
  · replace h := run_t c1 h
    simp -failIfUnchanged only [↓RA, ↓RI, RB, RJ, RS, fx36, p1, p2, p3, p4, reduceIte, p5, p6, p7, p8, c1]
    obtain ⟨v15, hv15, h⟩ := run_bind h
    refine IdxH.mk (f := I) hv15 ?_ ?_ <;> simp -failIfUnchanged only [↓RA, ↓RI, RB, RJ, RS, fx36, p1, p2, p3, p4, reduceIte, p5, p6, p7, p8, c1]
    obtain ⟨w2, hw2, h⟩ := run_bind h
    refine EldH.mk (f := I) hw2 rfl ?_ ?_ <;> simp -failIfUnchanged only [↓RA, ↓RI, RB, RJ, RS, fx36, p1, p2, p3, p4, reduceIte, p5, p6, p7, p8, c1]
    have h := run_some h
    refine RdH.mk ⟨_, h, ?_⟩
    refine St.le_mk2 ?_
    simp -failIfUnchanged only [↓RA, ↓RI, RB, RJ, RS, fx36, p1, p2, p3, p4, reduceIte, p5, p6, p7, p8, c1]
  · replace h := run_f c1 h
    simp -failIfUnchanged only [↓RA, ↓RI, RB, RJ, RS, fx36, p1, p2, p3, p4, reduceIte, p5, p6, p7, p8, c1]
    have h := run_some h
    have h := run_some h
    obtain rfl : _ = r := h
    refine FinIO.mk ?_
    simp -failIfUnchanged only [↓RA, ↓RI, RB, RJ, RS, fx36, p1, p2, p3, p4, reduceIte, p5, p6, p7, p8, c1]

def fx14 := And.intro @ty_3 <| And.intro @zc_3 <| And.intro @z_3 <| And.intro @ty_9 <| And.intro @zc_9 <| And.intro @z_9 <| And.intro @u_9 <| And.intro @ty_29 <| And.intro @zc_29 <| And.intro @z_29 <| And.intro @es_29 <| And.intro @eb_29 <| And.intro @sl_29 <| And.intro @is_29 <| And.intro @el_29 <| And.intro @ze_29 <| And.intro @ez_29 <| And.intro @ty_34 <| And.intro @zc_34 <| And.intro @z_34 <| And.intro @es_34 <| And.intro @eb_34 <| And.intro @sl_34 <| And.intro @is_34 <| And.intro @el_34 <| And.intro @ze_34 <| And.intro @ez_34 <| And.intro @ty_58 <| And.intro @zc_58 <| And.intro @z_58 <| And.intro @fo_58_0 <| And.intro @fi_58_0 <| And.intro @ft_58_0 <| And.intro @fo_58_1 <| And.intro @fi_58_1 <| And.intro @ft_58_1 <| And.intro @fo_58_2 <| And.intro @fi_58_2 <| And.intro @ft_58_2 <| @lay_58
set_option maxHeartbeats 4000000 in
theorem markMajorantS_sat {a0 : List Majorant} {a1 : Int}  {r : Int × (List Majorant)} (h : markMajorantS a0 a1 = some r) : SatIO Tryz.prog 14 [(.sl true 3 (a0.map (Majorant.pv true))), (I a1)] [(.sl true 3 (r.2.map (Majorant.pv true))), (I a1)] (I r.1) := by
  replace h := Run.of h
  unfold markMajorantS at h
  refine SatIO.of_mi (nt := 35) (rs := [.tmp 4]) (n := 100000) Tryz.func14 rfl rfl rfl rfl (by simp) ?_
  simp -failIfUnchanged only [↓RA, ↓RI, RB, RJ, RS, fx14, p1, p2, p3, p4, reduceIte, p5, p6, p7, p8]
  refine VSeq.step ?_
  simp -failIfUnchanged only [↓RA, ↓RI, RB, RJ, RS, fx14, p1, p2, p3, p4, reduceIte, p5, p6, p7, p8]
  refine VSeq.nil (Nat.le_of_eq rfl) ?_
  simp -failIfUnchanged only [↓RA, ↓RI, RB, RJ, RS, fx14, p1, p2, p3, p4, reduceIte, p5, p6, p7, p8]
  refine VSeq.step ?_
  simp -failIfUnchanged only [↓RA, ↓RI, RB, RJ, RS, fx14, p1, p2, p3, p4, reduceIte, p5, p6, p7, p8]
  refine VSeq.nil (Nat.le_of_eq rfl) ?_
  simp -failIfUnchanged only [↓RA, ↓RI, RB, RJ, RS, fx14, p1, p2, p3, p4, reduceIte, p5, p6, p7, p8]
  replace h := run_loop h
  refine MgI.whileN h (fun s2 => [(0, .val (.own 10000)), (1, .val (.pv (I s2.2.1))), (5, .val (.pv (I s2.2.2)))]) (fun s2 => [(10000, (3, s2.1.map (Majorant.pv true)))]) (St.le_mk2 (by simp -failIfUnchanged only [↓RA, ↓RI, RB, RJ, RS, fx14, p1, p2, p3, p4, reduceIte, p5, p6, p7, p8])) (fun n2 s2 h => ?_)
  simp -failIfUnchanged only [↓RA, ↓RI, RB, RJ, RS, fx14, p1, p2, p3, p4, reduceIte, p5, p6, p7, p8]
  refine VSeq.step ?_
  simp -failIfUnchanged only [↓RA, ↓RI, RB, RJ, RS, fx14, p1, p2, p3, p4, reduceIte, p5, p6, p7, p8]
  refine VSeq.step ?_
  simp -failIfUnchanged only [↓RA, ↓RI, RB, RJ, RS, fx14, p1, p2, p3, p4, reduceIte, p5, p6, p7, p8]
  refine VSeq.step ?_
  simp -failIfUnchanged only [↓RA, ↓RI, RB, RJ, RS, fx14, p1, p2, p3, p4, reduceIte, p5, p6, p7, p8]
  refine VSeq.step ?_
  simp -failIfUnchanged only [↓RA, ↓RI, RB, RJ, RS, fx14, p1, p2, p3, p4, reduceIte, p5, p6, p7, p8]
  refine VSeq.nil (Nat.le_of_eq rfl) ?_
  simp -failIfUnchanged only [↓RA, ↓RI, RB, RJ, RS, fx14, p1, p2, p3, p4, reduceIte, p5, p6, p7, p8]
  refine CondH.mk (fun c1 => ?_) (fun c1 => ?_)
  · replace h := run_t c1 h
    simp -failIfUnchanged only [↓RA, ↓RI, RB, RJ, RS, fx14, p1, p2, p3, p4, reduceIte, p5, p6, p7, p8, c1]
    refine VSeq.step ?_
    simp -failIfUnchanged only [↓RA, ↓RI, RB, RJ, RS, fx14, p1, p2, p3, p4, reduceIte, p5, p6, p7, p8, c1]
    refine VSeq.step ?_
    simp -failIfUnchanged only [↓RA, ↓RI, RB, RJ, RS, fx14, p1, p2, p3, p4, reduceIte, p5, p6, p7, p8, c1]
    refine VSeq.step ?_
    simp -failIfUnchanged only [↓RA, ↓RI, RB, RJ, RS, fx14, p1, p2, p3, p4, reduceIte, p5, p6, p7, p8, c1]
    refine VSeq.step ?_
    simp -failIfUnchanged only [↓RA, ↓RI, RB, RJ, RS, fx14, p1, p2, p3, p4, reduceIte, p5, p6, p7, p8, c1]
    obtain ⟨v15, hv15, h⟩ := run_bind h
    refine CallH.mk [false] (markText_sat hv15) ?_ ?_ <;> simp -failIfUnchanged only [↓RA, ↓RI, RB, RJ, RS, fx14, p1, p2, p3, p4, reduceIte, p5, p6, p7, p8, c1]
    refine VSeq.step ?_
    simp -failIfUnchanged only [↓RA, ↓RI, RB, RJ, RS, fx14, p1, p2, p3, p4, reduceIte, p5, p6, p7, p8, c1]
    obtain ⟨v16, hv16, h⟩ := run_bind h
    refine IdxH.mk (f := (Majorant.pv true)) hv16 ?_ ?_ <;> simp -failIfUnchanged only [↓RA, ↓RI, RB, RJ, RS, fx14, p1, p2, p3, p4, reduceIte, p5, p6, p7, p8, c1]
    refine VSeq.step ?_
    simp -failIfUnchanged only [↓RA, ↓RI, RB, RJ, RS, fx14, p1, p2, p3, p4, reduceIte, p5, p6, p7, p8, c1]
    refine VSeq.step ?_
    simp -failIfUnchanged only [↓RA, ↓RI, RB, RJ, RS, fx14, p1, p2, p3, p4, reduceIte, p5, p6, p7, p8, c1]
    obtain ⟨w2, hw2, h⟩ := run_bind h
    refine EldH.mk (f := (Majorant.pv true)) hw2 rfl ?_ ?_ <;> simp -failIfUnchanged only [↓RA, ↓RI, RB, RJ, RS, fx14, p1, p2, p3, p4, reduceIte, p5, p6, p7, p8, c1]
    refine VSeq.nil (Nat.le_of_eq rfl) ?_
    simp -failIfUnchanged only [↓RA, ↓RI, RB, RJ, RS, fx14, p1, p2, p3, p4, reduceIte, p5, p6, p7, p8, c1]
    refine VSeq.step ?_
    simp -failIfUnchanged only [↓RA, ↓RI, RB, RJ, RS, fx14, p1, p2, p3, p4, reduceIte, p5, p6, p7, p8, c1]
    refine VSeq.step ?_
    simp -failIfUnchanged only [↓RA, ↓RI, RB, RJ, RS, fx14, p1, p2, p3, p4, reduceIte, p5, p6, p7, p8, c1]
    refine VSeq.step ?_
    simp -failIfUnchanged only [↓RA, ↓RI, RB, RJ, RS, fx14, p1, p2, p3, p4, reduceIte, p5, p6, p7, p8, c1]
    refine VSeq.nil (Nat.le_of_eq rfl) ?_
    simp -failIfUnchanged only [↓RA, ↓RI, RB, RJ, RS, fx14, p1, p2, p3, p4, reduceIte, p5, p6, p7, p8, c1]
    refine VSeq.step ?_
    simp -failIfUnchanged only [↓RA, ↓RI, RB, RJ, RS, fx14, p1, p2, p3, p4, reduceIte, p5, p6, p7, p8, c1]
    refine VSeq.step ?_
    simp -failIfUnchanged only [↓RA, ↓RI, RB, RJ, RS, fx14, p1, p2, p3, p4, reduceIte, p5, p6, p7, p8, c1]
    refine VSeq.step ?_
    simp -failIfUnchanged only [↓RA, ↓RI, RB, RJ, RS, fx14, p1, p2, p3, p4, reduceIte, p5, p6, p7, p8, c1]
    obtain ⟨v22, hv22, h⟩ := run_bind h
    refine IdxH.mk (f := (Majorant.pv true)) hv22 ?_ ?_ <;> simp -failIfUnchanged only [↓RA, ↓RI, RB, RJ, RS, fx14, p1, p2, p3, p4, reduceIte, p5, p6, p7, p8, c1]
    refine VSeq.step ?_
    simp -failIfUnchanged only [↓RA, ↓RI, RB, RJ, RS, fx14, p1, p2, p3, p4, reduceIte, p5, p6, p7, p8, c1]
    obtain ⟨w3, hw3, h⟩ := run_bind h
    obtain ⟨v26, hv26, h⟩ := run_bind h
    refine VSeq.innerM (fx := (Majorant.pv true)) (c := 10000) (sz := 3) (p := [1]) (off := 1) (h1 := rfl) (h3 := rfl) (h2 := rfl) rfl rfl rfl rfl rfl rfl rfl rfl rfl hw3 (markIntS_sat hv26) (by simp -failIfUnchanged only [↓RA, ↓RI, RB, RJ, RS, fx14, p1, p2, p3, p4, reduceIte, p5, p6, p7, p8, c1]) (by simp -failIfUnchanged only [↓RA, ↓RI, RB, RJ, RS, fx14, p1, p2, p3, p4, reduceIte, p5, p6, p7, p8, c1]) ?_
    simp -failIfUnchanged only [↓RA, ↓RI, RB, RJ, RS, fx14, p1, p2, p3, p4, reduceIte, p5, p6, p7, p8, c1]
    refine VSeq.step ?_
    simp -failIfUnchanged only [↓RA, ↓RI, RB, RJ, RS, fx14, p1, p2, p3, p4, reduceIte, p5, p6, p7, p8, c1]
    refine VSeq.nil (Nat.le_of_eq rfl) ?_
    simp -failIfUnchanged only [↓RA, ↓RI, RB, RJ, RS, fx14, p1, p2, p3, p4, reduceIte, p5, p6, p7, p8, c1]
    refine VSeq.step ?_
    simp -failIfUnchanged only [↓RA, ↓RI, RB, RJ, RS, fx14, p1, p2, p3, p4, reduceIte, p5, p6, p7, p8, c1]
    refine VSeq.step ?_
    simp -failIfUnchanged only [↓RA, ↓RI, RB, RJ, RS, fx14, p1, p2, p3, p4, reduceIte, p5, p6, p7, p8, c1]
    refine VSeq.step ?_
    simp -failIfUnchanged only [↓RA, ↓RI, RB, RJ, RS, fx14, p1, p2, p3, p4, reduceIte, p5, p6, p7, p8, c1]
    refine VSeq.step ?_
    simp -failIfUnchanged only [↓RA, ↓RI, RB, RJ, RS, fx14, p1, p2, p3, p4, reduceIte, p5, p6, p7, p8, c1]
    obtain ⟨v30, hv30, h⟩ := run_bind h
    refine IdxH.mk (f := (Majorant.pv true)) hv30 ?_ ?_ <;> simp -failIfUnchanged only [↓RA, ↓RI, RB, RJ, RS, fx14, p1, p2, p3, p4, reduceIte, p5, p6, p7, p8, c1]
    refine VSeq.step ?_
    simp -failIfUnchanged only [↓RA, ↓RI, RB, RJ, RS, fx14, p1, p2, p3, p4, reduceIte, p5, p6, p7, p8, c1]
    refine VSeq.step ?_
    simp -failIfUnchanged only [↓RA, ↓RI, RB, RJ, RS, fx14, p1, p2, p3, p4, reduceIte, p5, p6, p7, p8, c1]
    obtain ⟨w4, hw4, h⟩ := run_bind h
    refine EldH.mk (f := (Majorant.pv true)) hw4 rfl ?_ ?_ <;> simp -failIfUnchanged only [↓RA, ↓RI, RB, RJ, RS, fx14, p1, p2, p3, p4, reduceIte, p5, p6, p7, p8, c1]
    refine VSeq.nil (Nat.le_of_eq rfl) ?_
    simp -failIfUnchanged only [↓RA, ↓RI, RB, RJ, RS, fx14, p1, p2, p3, p4, reduceIte, p5, p6, p7, p8, c1]
    refine VSeq.step ?_
    simp -failIfUnchanged only [↓RA, ↓RI, RB, RJ, RS, fx14, p1, p2, p3, p4, reduceIte, p5, p6, p7, p8, c1]
    refine VSeq.step ?_
    simp -failIfUnchanged only [↓RA, ↓RI, RB, RJ, RS, fx14, p1, p2, p3, p4, reduceIte, p5, p6, p7, p8, c1]
    refine VSeq.step ?_
    simp -failIfUnchanged only [↓RA, ↓RI, RB, RJ, RS, fx14, p1, p2, p3, p4, reduceIte, p5, p6, p7, p8, c1]
    refine VSeq.nil (Nat.le_of_eq rfl) ?_
    simp -failIfUnchanged only [↓RA, ↓RI, RB, RJ, RS, fx14, p1, p2, p3, p4, reduceIte, p5, p6, p7, p8, c1]
    refine VSeq.step ?_
    simp -failIfUnchanged only [↓RA, ↓RI, RB, RJ, RS, fx14, p1, p2, p3, p4, reduceIte, p5, p6, p7, p8, c1]
    refine VSeq.step ?_
    simp -failIfUnchanged only [↓RA, ↓RI, RB, RJ, RS, fx14, p1, p2, p3, p4, reduceIte, p5, p6, p7, p8, c1]
    refine VSeq.step ?_
    simp -failIfUnchanged only [↓RA, ↓RI, RB, RJ, RS, fx14, p1, p2, p3, p4, reduceIte, p5, p6, p7, p8, c1]
    refine VSeq.nil (Nat.le_of_eq rfl) ?_
    simp -failIfUnchanged only [↓RA, ↓RI, RB, RJ, RS, fx14, p1, p2, p3, p4, reduceIte, p5, p6, p7, p8, c1]
    have h := run_some h
    refine RdH.mk ⟨_, h, ?_⟩
    refine St.le_mk2 ?_
    simp -failIfUnchanged only [↓RA, ↓RI, RB, RJ, RS, fx14, p1, p2, p3, p4, reduceIte, p5, p6, p7, p8, c1]
  · replace h := run_f c1 h
    simp -failIfUnchanged only [↓RA, ↓RI, RB, RJ, RS, fx14, p1, p2, p3, p4, reduceIte, p5, p6, p7, p8, c1]
    have h := run_some h
    refine VSeq.step ?_
    simp -failIfUnchanged only [↓RA, ↓RI, RB, RJ, RS, fx14, p1, p2, p3, p4, reduceIte, p5, p6, p7, p8, c1]
    refine VSeq.step ?_
    simp -failIfUnchanged only [↓RA, ↓RI, RB, RJ, RS, fx14, p1, p2, p3, p4, reduceIte, p5, p6, p7, p8, c1]
    refine VSeq.nil (Nat.le_of_eq rfl) ?_
    simp -failIfUnchanged only [↓RA, ↓RI, RB, RJ, RS, fx14, p1, p2, p3, p4, reduceIte, p5, p6, p7, p8, c1]
    have h := run_some h
    obtain rfl : _ = r := h
    refine FinIO.mk ?_
    simp -failIfUnchanged only [↓RA, ↓RI, RB, RJ, RS, fx14, p1, p2, p3, p4, reduceIte, p5, p6, p7, p8, c1]

def fx23 := And.intro @ty_3 <| And.intro @zc_3 <| And.intro @z_3 <| And.intro @ty_9 <| And.intro @zc_9 <| And.intro @z_9 <| And.intro @u_9 <| And.intro @ty_36 <| And.intro @zc_36 <| And.intro @z_36 <| And.intro @es_36 <| And.intro @eb_36 <| And.intro @sl_36 <| And.intro @is_36 <| And.intro @el_36 <| And.intro @ze_36 <| And.intro @ez_36 <| And.intro @ty_38 <| And.intro @zc_38 <| And.intro @z_38 <| And.intro @fo_38_0 <| And.intro @fi_38_0 <| And.intro @ft_38_0 <| And.intro @fo_38_1 <| And.intro @fi_38_1 <| And.intro @ft_38_1 <| @lay_38
set_option maxHeartbeats 4000000 in
theorem markTermSN_sat (n : Nat) : (∀ (a0 : List Term) (a1 : Int) (r : Int × (List Term)), markTermSN n a0 a1 = some r → SatIO Tryz.prog 23 [(.sl true 2 (a0.map (Term.pv true))), (I a1)] [(.sl true 2 (r.2.map (Term.pv true))), (I a1)] (I r.1)) := by
  induction n with
  | zero => exact fun _ _ _ h => by simp [markTermSN] at h
  | succ n ih =>
    refine fun a0 a1 r h => ?_
    replace h := Run.of h
    rw [markTermSN] at h
    refine SatIO.of_mi (nt := 28) (rs := [.tmp 4]) (n := 100000) Tryz.func23 rfl rfl rfl rfl (by simp) ?_
    simp -failIfUnchanged only [↓RA, ↓RI, RB, RJ, RS, fx23, p1, p2, p3, p4, reduceIte, p5, p6, p7, p8]
    refine VSeq.step ?_
    simp -failIfUnchanged only [↓RA, ↓RI, RB, RJ, RS, fx23, p1, p2, p3, p4, reduceIte, p5, p6, p7, p8]
    refine VSeq.nil (Nat.le_of_eq rfl) ?_
    simp -failIfUnchanged only [↓RA, ↓RI, RB, RJ, RS, fx23, p1, p2, p3, p4, reduceIte, p5, p6, p7, p8]
    refine VSeq.step ?_
    simp -failIfUnchanged only [↓RA, ↓RI, RB, RJ, RS, fx23, p1, p2, p3, p4, reduceIte, p5, p6, p7, p8]
    refine VSeq.nil (Nat.le_of_eq rfl) ?_
    simp -failIfUnchanged only [↓RA, ↓RI, RB, RJ, RS, fx23, p1, p2, p3, p4, reduceIte, p5, p6, p7, p8]
    replace h := run_loop h
    refine MgI.whileN h (fun s2 => [(0, .val (.own 10000)), (1, .val (.pv (I s2.2.1))), (5, .val (.pv (I s2.2.2)))]) (fun s2 => [(10000, (2, s2.1.map (Term.pv true)))]) (St.le_mk2 (by simp -failIfUnchanged only [↓RA, ↓RI, RB, RJ, RS, fx23, p1, p2, p3, p4, reduceIte, p5, p6, p7, p8])) (fun n2 s2 h => ?_)
    simp -failIfUnchanged only [↓RA, ↓RI, RB, RJ, RS, fx23, p1, p2, p3, p4, reduceIte, p5, p6, p7, p8]
    refine VSeq.step ?_
    simp -failIfUnchanged only [↓RA, ↓RI, RB, RJ, RS, fx23, p1, p2, p3, p4, reduceIte, p5, p6, p7, p8]
    refine VSeq.step ?_
    simp -failIfUnchanged only [↓RA, ↓RI, RB, RJ, RS, fx23, p1, p2, p3, p4, reduceIte, p5, p6, p7, p8]
    refine VSeq.step ?_
    simp -failIfUnchanged only [↓RA, ↓RI, RB, RJ, RS, fx23, p1, p2, p3, p4, reduceIte, p5, p6, p7, p8]
    refine VSeq.step ?_
    simp -failIfUnchanged only [↓RA, ↓RI, RB, RJ, RS, fx23, p1, p2, p3, p4, reduceIte, p5, p6, p7, p8]
    refine VSeq.nil (Nat.le_of_eq rfl) ?_
    simp -failIfUnchanged only [↓RA, ↓RI, RB, RJ, RS, fx23, p1, p2, p3, p4, reduceIte, p5, p6, p7, p8]
    refine CondH.mk (fun c1 => ?_) (fun c1 => ?_)
    · replace h := run_t c1 h
      simp -failIfUnchanged only [↓RA, ↓RI, RB, RJ, RS, fx23, p1, p2, p3, p4, reduceIte, p5, p6, p7, p8, c1]
      refine VSeq.step ?_
      simp -failIfUnchanged only [↓RA, ↓RI, RB, RJ, RS, fx23, p1, p2, p3, p4, reduceIte, p5, p6, p7, p8, c1]
      refine VSeq.step ?_
      simp -failIfUnchanged only [↓RA, ↓RI, RB, RJ, RS, fx23, p1, p2, p3, p4, reduceIte, p5, p6, p7, p8, c1]
      refine VSeq.step ?_
      simp -failIfUnchanged only [↓RA, ↓RI, RB, RJ, RS, fx23, p1, p2, p3, p4, reduceIte, p5, p6, p7, p8, c1]
      refine VSeq.step ?_
      simp -failIfUnchanged only [↓RA, ↓RI, RB, RJ, RS, fx23, p1, p2, p3, p4, reduceIte, p5, p6, p7, p8, c1]
      obtain ⟨v15, hv15, h⟩ := run_bind h
      refine CallH.mk [false] (markText_sat hv15) ?_ ?_ <;> simp -failIfUnchanged only [↓RA, ↓RI, RB, RJ, RS, fx23, p1, p2, p3, p4, reduceIte, p5, p6, p7, p8, c1]
      refine VSeq.step ?_
      simp -failIfUnchanged only [↓RA, ↓RI, RB, RJ, RS, fx23, p1, p2, p3, p4, reduceIte, p5, p6, p7, p8, c1]
      obtain ⟨v16, hv16, h⟩ := run_bind h
      refine IdxH.mk (f := (Term.pv true)) hv16 ?_ ?_ <;> simp -failIfUnchanged only [↓RA, ↓RI, RB, RJ, RS, fx23, p1, p2, p3, p4, reduceIte, p5, p6, p7, p8, c1]
      refine VSeq.step ?_
      simp -failIfUnchanged only [↓RA, ↓RI, RB, RJ, RS, fx23, p1, p2, p3, p4, reduceIte, p5, p6, p7, p8, c1]
      refine VSeq.step ?_
      simp -failIfUnchanged only [↓RA, ↓RI, RB, RJ, RS, fx23, p1, p2, p3, p4, reduceIte, p5, p6, p7, p8, c1]
      obtain ⟨w2, hw2, h⟩ := run_bind h
      refine EldH.mk (f := (Term.pv true)) hw2 rfl ?_ ?_ <;> simp -failIfUnchanged only [↓RA, ↓RI, RB, RJ, RS, fx23, p1, p2, p3, p4, reduceIte, p5, p6, p7, p8, c1]
      refine VSeq.nil (Nat.le_of_eq rfl) ?_
      simp -failIfUnchanged only [↓RA, ↓RI, RB, RJ, RS, fx23, p1, p2, p3, p4, reduceIte, p5, p6, p7, p8, c1]
      refine VSeq.step ?_
      simp -failIfUnchanged only [↓RA, ↓RI, RB, RJ, RS, fx23, p1, p2, p3, p4, reduceIte, p5, p6, p7, p8, c1]
      refine VSeq.step ?_
      simp -failIfUnchanged only [↓RA, ↓RI, RB, RJ, RS, fx23, p1, p2, p3, p4, reduceIte, p5, p6, p7, p8, c1]
      refine VSeq.step ?_
      simp -failIfUnchanged only [↓RA, ↓RI, RB, RJ, RS, fx23, p1, p2, p3, p4, reduceIte, p5, p6, p7, p8, c1]
      refine VSeq.nil (Nat.le_of_eq rfl) ?_
      simp -failIfUnchanged only [↓RA, ↓RI, RB, RJ, RS, fx23, p1, p2, p3, p4, reduceIte, p5, p6, p7, p8, c1]
      refine VSeq.step ?_
      simp -failIfUnchanged only [↓RA, ↓RI, RB, RJ, RS, fx23, p1, p2, p3, p4, reduceIte, p5, p6, p7, p8, c1]
      refine VSeq.step ?_
      simp -failIfUnchanged only [↓RA, ↓RI, RB, RJ, RS, fx23, p1, p2, p3, p4, reduceIte, p5, p6, p7, p8, c1]
      refine VSeq.step ?_
      simp -failIfUnchanged only [↓RA, ↓RI, RB, RJ, RS, fx23, p1, p2, p3, p4, reduceIte, p5, p6, p7, p8, c1]
      obtain ⟨v22, hv22, h⟩ := run_bind h
      refine IdxH.mk (f := (Term.pv true)) hv22 ?_ ?_ <;> simp -failIfUnchanged only [↓RA, ↓RI, RB, RJ, RS, fx23, p1, p2, p3, p4, reduceIte, p5, p6, p7, p8, c1]
      refine VSeq.step ?_
      simp -failIfUnchanged only [↓RA, ↓RI, RB, RJ, RS, fx23, p1, p2, p3, p4, reduceIte, p5, p6, p7, p8, c1]
      obtain ⟨w3, hw3, h⟩ := run_bind h
      obtain ⟨v26, hv26, h⟩ := run_bind h
      refine VSeq.innerM (fx := (Term.pv true)) (c := 10000) (sz := 2) (p := [1]) (off := 1) (h1 := rfl) (h3 := rfl) (h2 := rfl) rfl rfl rfl rfl rfl rfl rfl rfl rfl hw3 (ih _ _ _ hv26) (by simp -failIfUnchanged only [↓RA, ↓RI, RB, RJ, RS, fx23, p1, p2, p3, p4, reduceIte, p5, p6, p7, p8, c1]) (by simp -failIfUnchanged only [↓RA, ↓RI, RB, RJ, RS, fx23, p1, p2, p3, p4, reduceIte, p5, p6, p7, p8, c1]) ?_
      simp -failIfUnchanged only [↓RA, ↓RI, RB, RJ, RS, fx23, p1, p2, p3, p4, reduceIte, p5, p6, p7, p8, c1]
      refine VSeq.step ?_
      simp -failIfUnchanged only [↓RA, ↓RI, RB, RJ, RS, fx23, p1, p2, p3, p4, reduceIte, p5, p6, p7, p8, c1]
      refine VSeq.nil (Nat.le_of_eq rfl) ?_
      simp -failIfUnchanged only [↓RA, ↓RI, RB, RJ, RS, fx23, p1, p2, p3, p4, reduceIte, p5, p6, p7, p8, c1]
      refine VSeq.step ?_
      simp -failIfUnchanged only [↓RA, ↓RI, RB, RJ, RS, fx23, p1, p2, p3, p4, reduceIte, p5, p6, p7, p8, c1]
      refine VSeq.step ?_
      simp -failIfUnchanged only [↓RA, ↓RI, RB, RJ, RS, fx23, p1, p2, p3, p4, reduceIte, p5, p6, p7, p8, c1]
      refine VSeq.step ?_
      simp -failIfUnchanged only [↓RA, ↓RI, RB, RJ, RS, fx23, p1, p2, p3, p4, reduceIte, p5, p6, p7, p8, c1]
      refine VSeq.nil (Nat.le_of_eq rfl) ?_
      simp -failIfUnchanged only [↓RA, ↓RI, RB, RJ, RS, fx23, p1, p2, p3, p4, reduceIte, p5, p6, p7, p8, c1]
      have h := run_some h
      refine RdH.mk ⟨_, h, ?_⟩
      refine St.le_mk2 ?_
      simp -failIfUnchanged only [↓RA, ↓RI, RB, RJ, RS, fx23, p1, p2, p3, p4, reduceIte, p5, p6, p7, p8, c1]
    · replace h := run_f c1 h
      simp -failIfUnchanged only [↓RA, ↓RI, RB, RJ, RS, fx23, p1, p2, p3, p4, reduceIte, p5, p6, p7, p8, c1]
      have h := run_some h
      refine VSeq.step ?_
      simp -failIfUnchanged only [↓RA, ↓RI, RB, RJ, RS, fx23, p1, p2, p3, p4, reduceIte, p5, p6, p7, p8, c1]
      refine VSeq.step ?_
      simp -failIfUnchanged only [↓RA, ↓RI, RB, RJ, RS, fx23, p1, p2, p3, p4, reduceIte, p5, p6, p7, p8, c1]
      refine VSeq.nil (Nat.le_of_eq rfl) ?_
      simp -failIfUnchanged only [↓RA, ↓RI, RB, RJ, RS, fx23, p1, p2, p3, p4, reduceIte, p5, p6, p7, p8, c1]
      have h := run_some h
      obtain rfl : _ = r := h
      refine FinIO.mk ?_
      simp -failIfUnchanged only [↓RA, ↓RI, RB, RJ, RS, fx23, p1, p2, p3, p4, reduceIte, p5, p6, p7, p8, c1]
theorem markTermS_sat {a0 : List Term} {a1 : Int} {r : Int × (List Term)} (h : markTermS a0 a1 = some r) : SatIO Tryz.prog 23 [(.sl true 2 (a0.map (Term.pv true))), (I a1)] [(.sl true 2 (r.2.map (Term.pv true))), (I a1)] (I r.1) := by
  obtain ⟨n, hn⟩ := lim_some h
  exact (markTermSN_sat n) _ _ _ hn

def fx15 := And.intro @ty_3 <| And.intro @zc_3 <| And.intro @z_3 <| And.intro @ty_36 <| And.intro @zc_36 <| And.intro @z_36 <| And.intro @es_36 <| And.intro @eb_36 <| And.intro @sl_36 <| And.intro @is_36 <| And.intro @el_36 <| And.intro @ze_36 <| And.intro @ez_36 <| And.intro @ty_38 <| And.intro @zc_38 <| And.intro @z_38 <| And.intro @fo_38_0 <| And.intro @fi_38_0 <| And.intro @ft_38_0 <| And.intro @fo_38_1 <| And.intro @fi_38_1 <| And.intro @ft_38_1 <| @lay_38
set_option maxHeartbeats 4000000 in
theorem markTerm_sat {a0 : Term} {a1 : Int}  {r : Int × (List Term)} (h : markTerm a0 a1 = some r) : SatIO Tryz.prog 15 [((Term.pv true) a0), (I a1)] [((Term.pv true) (Term.mk a0.Name r.2)), (I a1)] (I r.1) := by
  replace h := Run.of h
  unfold markTerm at h
  refine SatIO.of_m (nt := 10) (rs := [.tmp 4]) (n := 100000) Tryz.func15 rfl rfl rfl rfl (by simp) ?_
  simp -failIfUnchanged only [↓RA, ↓RI, RB, RJ, RS, fx15, p1, p2, p3, p4, reduceIte, p5, p6, p7, p8]
  repeat (first | with_reducible refine noR_and (by repeat (first | exact noR_empty _ _ | exact noR_nilS _ _ | refine noR_mk _ _ _ _ _ rfl ?_ | refine noR_mkS _ _ _ _ _ rfl ?_)) ?_ | with_reducible refine noC_and (by repeat (first | exact noC_empty _ _ (by simp -failIfUnchanged only [↓RA, ↓RI, RB, RJ, RS, fx15, p1, p2, p3, p4, reduceIte, p5, p6, p7, p8]) | exact noC_nilS _ _ (by simp -failIfUnchanged only [↓RA, ↓RI, RB, RJ, RS, fx15, p1, p2, p3, p4, reduceIte, p5, p6, p7, p8]) | refine noC_mk _ _ _ _ _ rfl ?_ | refine noC_mkS _ _ _ _ _ rfl ?_)) ?_ | with_reducible refine and_ac ?_ | with_reducible refine And.intro (a := _ = List.range _) (by rfl) ?_)
  obtain ⟨v8, hv8, h⟩ := run_bind h
  refine CallH.io [(.own 10000), (.pv (I a1))] [(10000, (2, v8.2.map (Term.pv true)))] (markTermS_sat hv8) ?_ ?_ <;> simp -failIfUnchanged only [↓RA, ↓RI, RB, RJ, RS, fx15, p1, p2, p3, p4, reduceIte, p5, p6, p7, p8]
  have h := run_some h
  obtain rfl : _ = r := h
  refine FinIO.mk ?_
  simp -failIfUnchanged only [↓RA, ↓RI, RB, RJ, RS, fx15, p1, p2, p3, p4, reduceIte, p5, p6, p7, p8]

def fx37 := And.intro @ty_3 <| And.intro @zc_3 <| And.intro @z_3 <| And.intro @ty_9 <| And.intro @zc_9 <| And.intro @z_9 <| And.intro @u_9 <| And.intro @ty_28 <| And.intro @zc_28 <| And.intro @z_28 <| And.intro @es_28 <| And.intro @eb_28 <| And.intro @sl_28 <| And.intro @is_28 <| And.intro @el_28 <| And.intro @ze_28 <| @ez_28
set_option maxHeartbeats 4000000 in
theorem markStringS_sat {a0 : List ByteArray} {a1 : Int}  {r : Int × (List ByteArray)} (h : markStringS a0 a1 = some r) : SatIO Tryz.prog 37 [(.sl true 1 (a0.map Sx)), (I a1)] [(.sl true 1 (r.2.map Sx)), (I a1)] (I r.1) := by
  replace h := Run.of h
  unfold markStringS at h
  refine SatIO.of_m (nt := 20) (rs := [.tmp 4]) (n := 100000) Tryz.func37 rfl rfl rfl rfl (by simp) ?_
  simp -failIfUnchanged only [↓RA, ↓RI, RB, RJ, RS, fx37, p1, p2, p3, p4, reduceIte, p5, p6, p7, p8]
  replace h := run_loop h
  refine Mg.whileN h (fun s2 => [(0, .val (.own 10000)), (1, .val (.pv (I s2.2.1))), (5, .val (.pv (I s2.2.2)))]) (fun s2 => [(10000, (1, s2.1.map Sx))]) (St.le_mk2 (by simp -failIfUnchanged only [↓RA, ↓RI, RB, RJ, RS, fx37, p1, p2, p3, p4, reduceIte, p5, p6, p7, p8])) (fun n2 s2 h => ?_)
  simp -failIfUnchanged only [↓RA, ↓RI, RB, RJ, RS, fx37, p1, p2, p3, p4, reduceIte, p5, p6, p7, p8]
  refine CondH.mk (fun c1 => ?_) (fun c1 => ?_)
  · replace h := run_t c1 h
    simp -failIfUnchanged only [↓RA, ↓RI, RB, RJ, RS, fx37, p1, p2, p3, p4, reduceIte, p5, p6, p7, p8, c1]
    obtain ⟨v15, hv15, h⟩ := run_bind h
    refine CallH.mk [false] (markText_sat hv15) ?_ ?_ <;> simp -failIfUnchanged only [↓RA, ↓RI, RB, RJ, RS, fx37, p1, p2, p3, p4, reduceIte, p5, p6, p7, p8, c1]
    obtain ⟨v16, hv16, h⟩ := run_bind h
    refine IdxH.mk (f := Sx) hv16 ?_ ?_ <;> simp -failIfUnchanged only [↓RA, ↓RI, RB, RJ, RS, fx37, p1, p2, p3, p4, reduceIte, p5, p6, p7, p8, c1]
    obtain ⟨w2, hw2, h⟩ := run_bind h
    refine EldH.mk (f := Sx) hw2 rfl ?_ ?_ <;> simp -failIfUnchanged only [↓RA, ↓RI, RB, RJ, RS, fx37, p1, p2, p3, p4, reduceIte, p5, p6, p7, p8, c1]
    have h := run_some h
    refine RdH.mk ⟨_, h, ?_⟩
    refine St.le_mk2 ?_
    simp -failIfUnchanged only [↓RA, ↓RI, RB, RJ, RS, fx37, p1, p2, p3, p4, reduceIte, p5, p6, p7, p8, c1]
  · replace h := run_f c1 h
    simp -failIfUnchanged only [↓RA, ↓RI, RB, RJ, RS, fx37, p1, p2, p3, p4, reduceIte, p5, p6, p7, p8, c1]
    have h := run_some h
    have h := run_some h
    obtain rfl : _ = r := h
    refine FinIO.mk ?_
    simp -failIfUnchanged only [↓RA, ↓RI, RB, RJ, RS, fx37, p1, p2, p3, p4, reduceIte, p5, p6, p7, p8, c1]

def fx16 := And.intro @ty_3 <| And.intro @zc_3 <| And.intro @z_3 <| And.intro @ty_28 <| And.intro @zc_28 <| And.intro @z_28 <| And.intro @es_28 <| And.intro @eb_28 <| And.intro @sl_28 <| And.intro @is_28 <| And.intro @el_28 <| And.intro @ze_28 <| And.intro @ez_28 <| And.intro @ty_29 <| And.intro @zc_29 <| And.intro @z_29 <| And.intro @es_29 <| And.intro @eb_29 <| And.intro @sl_29 <| And.intro @is_29 <| And.intro @el_29 <| And.intro @ze_29 <| And.intro @ez_29 <| And.intro @ty_31 <| And.intro @zc_31 <| And.intro @z_31 <| And.intro @fo_31_0 <| And.intro @fi_31_0 <| And.intro @ft_31_0 <| And.intro @fo_31_1 <| And.intro @fi_31_1 <| And.intro @ft_31_1 <| And.intro @fo_31_2 <| And.intro @fi_31_2 <| And.intro @ft_31_2 <| @lay_31
set_option maxHeartbeats 4000000 in
theorem markLinear_sat {a0 : Linear} {a1 : Int}  {r : Int × (List ByteArray) × (List Int)} (h : markLinear a0 a1 = some r) : SatIO Tryz.prog 16 [((Linear.pv true) a0), (I a1)] [((Linear.pv true) (Linear.mk r.2.1 r.2.2 a0.Constant)), (I a1)] (I r.1) := by
  replace h := Run.of h
  unfold markLinear at h
  refine SatIO.of_m (nt := 14) (rs := [.tmp 4]) (n := 100000) Tryz.func16 rfl rfl rfl rfl (by simp) ?_
  simp -failIfUnchanged only [↓RA, ↓RI, RB, RJ, RS, fx16, p1, p2, p3, p4, reduceIte, p5, p6, p7, p8]
  repeat (first | with_reducible refine noR_and (by repeat (first | exact noR_empty _ _ | exact noR_nilS _ _ | refine noR_mk _ _ _ _ _ rfl ?_ | refine noR_mkS _ _ _ _ _ rfl ?_)) ?_ | with_reducible refine noC_and (by repeat (first | exact noC_empty _ _ (by simp -failIfUnchanged only [↓RA, ↓RI, RB, RJ, RS, fx16, p1, p2, p3, p4, reduceIte, p5, p6, p7, p8]) | exact noC_nilS _ _ (by simp -failIfUnchanged only [↓RA, ↓RI, RB, RJ, RS, fx16, p1, p2, p3, p4, reduceIte, p5, p6, p7, p8]) | refine noC_mk _ _ _ _ _ rfl ?_ | refine noC_mkS _ _ _ _ _ rfl ?_)) ?_ | with_reducible refine and_ac ?_ | with_reducible refine And.intro (a := _ = List.range _) (by rfl) ?_)
  obtain ⟨v8, hv8, h⟩ := run_bind h
  refine CallH.io [(.own 10000), (.pv (I a1))] [(10000, (1, v8.2.map Sx))] (markStringS_sat hv8) ?_ ?_ <;> simp -failIfUnchanged only [↓RA, ↓RI, RB, RJ, RS, fx16, p1, p2, p3, p4, reduceIte, p5, p6, p7, p8]
  obtain ⟨v12, hv12, h⟩ := run_bind h
  refine CallH.io [(.own 10001), (.pv (I v8.1))] [(10001, (1, v12.2.map I))] (markIntS_sat hv12) ?_ ?_ <;> simp -failIfUnchanged only [↓RA, ↓RI, RB, RJ, RS, fx16, p1, p2, p3, p4, reduceIte, p5, p6, p7, p8]
  have h := run_some h
  obtain rfl : _ = r := h
  refine FinIO.mk ?_
  simp -failIfUnchanged only [↓RA, ↓RI, RB, RJ, RS, fx16, p1, p2, p3, p4, reduceIte, p5, p6, p7, p8]

def fx38 := And.intro @ty_3 <| And.intro @zc_3 <| And.intro @z_3 <| And.intro @ty_9 <| And.intro @zc_9 <| And.intro @z_9 <| And.intro @u_9 <| And.intro @ty_28 <| And.intro @zc_28 <| And.intro @z_28 <| And.intro @es_28 <| And.intro @eb_28 <| And.intro @sl_28 <| And.intro @is_28 <| And.intro @el_28 <| And.intro @ze_28 <| And.intro @ez_28 <| @mixedT
set_option maxHeartbeats 4000000 in
theorem heldStringS_sat {a0 : List ByteArray} {a1 : Int}  {r : Int} (h : heldStringS a0 a1 = some r) : Sat Tryz.prog 38 [(.sl false 1 (a0.map Sx)), (I a1)] (I r) := by
  replace h := Run.of h
  unfold heldStringS at h
  refine Sat.of_m (nt := 22) (rs := [.tmp 4]) (n := 100000) Tryz.func38 rfl rfl rfl rfl (by simp) ?_
  simp -failIfUnchanged only [↓RA, RB, RS, fx38, p1, p2, p3, p4, reduceIte, p5, p6, p7, p8]
  refine Mg.know_sl (b := false) (sz := 1) (es := a0.map Sx) 0 (by simp -failIfUnchanged only [↓RA, RB, RS, fx38, p1, p2, p3, p4, reduceIte, p5, p6, p7, p8]) fun hl0 => ?_; rw [List.length_map] at hl0
  replace h := run_loop h
  refine Mg.forN h (fun i2 s2 => [(0, .val (.pv (.sl false 1 (a0.map Sx)))), (1, .val (.pv (I s2))), (5, .val (.pv (I (i2 : Int))))]) (fun i2 s2 => []) (St.le_mk2 (by simp -failIfUnchanged only [↓RA, RB, RS, fx38, p1, p2, p3, p4, reduceIte, p5, p6, p7, p8])) (fun i2 s2 hi h => ?_) (fun s2 h => ?_)
  · have w2 := wrap_succ (i := i2) (by omega)
    simp -failIfUnchanged only [↓RA, RB, RS, fx38, p1, p2, p3, p4, reduceIte, p5, p6, p7, p8]
    refine CondH.tt (decide_eq_true (by omega)) (fun c1 => ?_)
    simp -failIfUnchanged only [↓RA, RB, RS, fx38, p1, p2, p3, p4, reduceIte, p5, p6, p7, p8, c1]
    obtain ⟨v14, hv14, h⟩ := run_bind h
    refine IdxH.mk (f := Sx) hv14 ?_ ?_ <;> simp -failIfUnchanged only [↓RA, RB, RS, fx38, p1, p2, p3, p4, reduceIte, p5, p6, p7, p8, c1]
    obtain ⟨v17, hv17, h⟩ := run_bind h
    refine CallH.mk [false] (markText_sat hv17) ?_ ?_ <;> simp -failIfUnchanged only [↓RA, RB, RS, fx38, p1, p2, p3, p4, reduceIte, p5, p6, p7, p8, c1]
    refine And.intro (DrawH.none (by rfl) (by first | rfl | (simp -failIfUnchanged only [↓RA, RB, RS, fx38, p1, p2, p3, p4, reduceIte, p5, p6, p7, p8] <;> rfl)) (by first | rfl | (simp -failIfUnchanged only [↓RA, RB, RS, fx38, p1, p2, p3, p4, reduceIte, p5, p6, p7, p8] <;> rfl)) (by first | rfl | (simp -failIfUnchanged only [↓RA, RB, RS, fx38, p1, p2, p3, p4, reduceIte, p5, p6, p7, p8] <;> rfl))) ?_
    simp -failIfUnchanged only [↓RA, RB, RS, fx38, p1, p2, p3, p4, reduceIte, p5, p6, p7, p8, c1]
    refine CondH.mk (fun c2 => ?_) (fun c2 => ?_)
    · replace h := run_t c2 h
      simp -failIfUnchanged only [↓RA, RB, RS, fx38, p1, p2, p3, p4, reduceIte, p5, p6, p7, p8, c1, c2]
      have h := run_some h
      refine RdH.mk ⟨_, h, ?_⟩
      refine St.le_mk2 ?_
      simp -failIfUnchanged only [↓RA, RB, RS, fx38, p1, p2, p3, p4, reduceIte, p5, p6, p7, p8, c1, c2, w2]
    · replace h := run_f c2 h
      simp -failIfUnchanged only [↓RA, RB, RS, fx38, p1, p2, p3, p4, reduceIte, p5, p6, p7, p8, c1, c2]
      have h := run_some h
      obtain rfl : _ = r := h
      refine FinH.l ?_
      simp -failIfUnchanged only [↓RA, RB, RS, fx38, p1, p2, p3, p4, reduceIte, p5, p6, p7, p8, c1, c2]
  · simp -failIfUnchanged only [↓RA, RB, RS, fx38, p1, p2, p3, p4, reduceIte, p5, p6, p7, p8]
    refine CondH.ff (decide_eq_false (by omega)) (fun c3 => ?_)
    simp -failIfUnchanged only [↓RA, RB, RS, fx38, p1, p2, p3, p4, reduceIte, p5, p6, p7, p8, c3]
    have h := run_some h
    obtain rfl : _ = r := h
    refine FinH.l ?_
    simp -failIfUnchanged only [↓RA, RB, RS, fx38, p1, p2, p3, p4, reduceIte, p5, p6, p7, p8, c3]

def fx39 := And.intro @ty_3 <| And.intro @zc_3 <| And.intro @z_3 <| And.intro @ty_29 <| And.intro @zc_29 <| And.intro @z_29 <| And.intro @es_29 <| And.intro @eb_29 <| And.intro @sl_29 <| And.intro @is_29 <| And.intro @el_29 <| And.intro @ze_29 <| @ez_29
set_option maxHeartbeats 4000000 in
theorem heldIntS_sat {a0 : List Int} {a1 : Int}  {r : Int} (h : heldIntS a0 a1 = some r) : Sat Tryz.prog 39 [(.sl false 1 (a0.map I)), (I a1)] (I r) := by
  replace h := Run.of h
  unfold heldIntS at h
  refine Sat.of_m (nt := 21) (rs := [.tmp 4]) (n := 100000) Tryz.func39 rfl rfl rfl rfl (by simp) ?_
  simp -failIfUnchanged only [↓RA, RB, RS, fx39, p1, p2, p3, p4, reduceIte, p5, p6, p7, p8]
  refine Mg.know_sl (b := false) (sz := 1) (es := a0.map I) 0 (by simp -failIfUnchanged only [↓RA, RB, RS, fx39, p1, p2, p3, p4, reduceIte, p5, p6, p7, p8]) fun hl0 => ?_; rw [List.length_map] at hl0
  replace h := run_loop h
  refine Mg.forN h (fun i2 s2 => [(0, .val (.pv (.sl false 1 (a0.map I)))), (1, .val (.pv (I s2))), (5, .val (.pv (I (i2 : Int))))]) (fun i2 s2 => []) (St.le_mk2 (by simp -failIfUnchanged only [↓RA, RB, RS, fx39, p1, p2, p3, p4, reduceIte, p5, p6, p7, p8])) (fun i2 s2 hi h => ?_) (fun s2 h => ?_)
  · have w2 := wrap_succ (i := i2) (by omega)
    simp -failIfUnchanged only [↓RA, RB, RS, fx39, p1, p2, p3, p4, reduceIte, p5, p6, p7, p8]
    refine CondH.tt (decide_eq_true (by omega)) (fun c1 => ?_)
    simp -failIfUnchanged only [↓RA, RB, RS, fx39, p1, p2, p3, p4, reduceIte, p5, p6, p7, p8, c1]
    obtain ⟨v14, hv14, h⟩ := run_bind h
    refine IdxH.mk (f := I) hv14 ?_ ?_ <;> simp -failIfUnchanged only [↓RA, RB, RS, fx39, p1, p2, p3, p4, reduceIte, p5, p6, p7, p8, c1]
    refine CondH.mk (fun c2 => ?_) (fun c2 => ?_)
    · replace h := run_t c2 h
      simp -failIfUnchanged only [↓RA, RB, RS, fx39, p1, p2, p3, p4, reduceIte, p5, p6, p7, p8, c1, c2]
      have h := run_some h
      refine RdH.mk ⟨_, h, ?_⟩
      refine St.le_mk2 ?_
      simp -failIfUnchanged only [↓RA, RB, RS, fx39, p1, p2, p3, p4, reduceIte, p5, p6, p7, p8, c1, c2, w2]
    · replace h := run_f c2 h
      simp -failIfUnchanged only [↓RA, RB, RS, fx39, p1, p2, p3, p4, reduceIte, p5, p6, p7, p8, c1, c2]
      have h := run_some h
      obtain rfl : _ = r := h
      refine FinH.l ?_
      simp -failIfUnchanged only [↓RA, RB, RS, fx39, p1, p2, p3, p4, reduceIte, p5, p6, p7, p8, c1, c2]
  · simp -failIfUnchanged only [↓RA, RB, RS, fx39, p1, p2, p3, p4, reduceIte, p5, p6, p7, p8]
    refine CondH.ff (decide_eq_false (by omega)) (fun c3 => ?_)
    simp -failIfUnchanged only [↓RA, RB, RS, fx39, p1, p2, p3, p4, reduceIte, p5, p6, p7, p8, c3]
    have h := run_some h
    obtain rfl : _ = r := h
    refine FinH.l ?_
    simp -failIfUnchanged only [↓RA, RB, RS, fx39, p1, p2, p3, p4, reduceIte, p5, p6, p7, p8, c3]

def fx17 := And.intro @ty_3 <| And.intro @zc_3 <| And.intro @z_3 <| And.intro @ty_28 <| And.intro @zc_28 <| And.intro @z_28 <| And.intro @es_28 <| And.intro @eb_28 <| And.intro @sl_28 <| And.intro @is_28 <| And.intro @el_28 <| And.intro @ze_28 <| And.intro @ez_28 <| And.intro @ty_29 <| And.intro @zc_29 <| And.intro @z_29 <| And.intro @es_29 <| And.intro @eb_29 <| And.intro @sl_29 <| And.intro @is_29 <| And.intro @el_29 <| And.intro @ze_29 <| And.intro @ez_29 <| And.intro @ty_31 <| And.intro @zc_31 <| And.intro @z_31 <| And.intro @fo_31_0 <| And.intro @fi_31_0 <| And.intro @ft_31_0 <| And.intro @fo_31_1 <| And.intro @fi_31_1 <| And.intro @ft_31_1 <| And.intro @fo_31_2 <| And.intro @fi_31_2 <| And.intro @ft_31_2 <| @lay_31
set_option maxHeartbeats 4000000 in
theorem heldLinear_sat {a0 : Linear} {a1 : Int}  {r : Int} (h : heldLinear a0 a1 = some r) : Sat Tryz.prog 17 [((Linear.pv false) a0), (I a1)] (I r) := by
  replace h := Run.of h
  unfold heldLinear at h
  refine Sat.of_m (nt := 18) (rs := [.tmp 4]) (n := 100000) Tryz.func17 rfl rfl rfl rfl (by simp) ?_
  simp -failIfUnchanged only [↓RA, RB, RS, fx17, p1, p2, p3, p4, reduceIte, p5, p6, p7, p8]
  repeat (first | with_reducible refine noR_and (by repeat (first | exact noR_empty _ _ | exact noR_nilS _ _ | refine noR_mk _ _ _ _ _ rfl ?_ | refine noR_mkS _ _ _ _ _ rfl ?_)) ?_ | with_reducible refine noC_and (by repeat (first | exact noC_empty _ _ (by simp -failIfUnchanged only [↓RA, RB, RS, fx17, p1, p2, p3, p4, reduceIte, p5, p6, p7, p8]) | exact noC_nilS _ _ (by simp -failIfUnchanged only [↓RA, RB, RS, fx17, p1, p2, p3, p4, reduceIte, p5, p6, p7, p8]) | refine noC_mk _ _ _ _ _ rfl ?_ | refine noC_mkS _ _ _ _ _ rfl ?_)) ?_ | with_reducible refine and_ac ?_ | with_reducible refine And.intro (a := _ = List.range _) (by rfl) ?_)
  obtain ⟨v8, hv8, h⟩ := run_bind h
  refine CallH.mk [false, false] (heldStringS_sat hv8) ?_ ?_ <;> simp -failIfUnchanged only [↓RA, RB, RS, fx17, p1, p2, p3, p4, reduceIte, p5, p6, p7, p8]
  refine CondH.mk (fun c1 => ?_) (fun c1 => ?_)
  · replace h := run_t c1 h
    simp -failIfUnchanged only [↓RA, RB, RS, fx17, p1, p2, p3, p4, reduceIte, p5, p6, p7, p8, c1]
    have h := run_some h
    obtain rfl : _ = r := h
    refine FinH.l ?_
    simp -failIfUnchanged only [↓RA, RB, RS, fx17, p1, p2, p3, p4, reduceIte, p5, p6, p7, p8, c1]
  · replace h := run_f c1 h
    simp -failIfUnchanged only [↓RA, RB, RS, fx17, p1, p2, p3, p4, reduceIte, p5, p6, p7, p8, c1]
    obtain ⟨v14, hv14, h⟩ := run_bind h
    refine CallH.mk [false, false] (heldIntS_sat hv14) ?_ ?_ <;> simp -failIfUnchanged only [↓RA, RB, RS, fx17, p1, p2, p3, p4, reduceIte, p5, p6, p7, p8, c1]
    refine CondH.mk (fun c2 => ?_) (fun c2 => ?_)
    · replace h := run_t c2 h
      simp -failIfUnchanged only [↓RA, RB, RS, fx17, p1, p2, p3, p4, reduceIte, p5, p6, p7, p8, c1, c2]
      have h := run_some h
      obtain rfl : _ = r := h
      refine FinH.l ?_
      simp -failIfUnchanged only [↓RA, RB, RS, fx17, p1, p2, p3, p4, reduceIte, p5, p6, p7, p8, c1, c2]
    · replace h := run_f c2 h
      simp -failIfUnchanged only [↓RA, RB, RS, fx17, p1, p2, p3, p4, reduceIte, p5, p6, p7, p8, c1, c2]
      have h := run_some h
      obtain rfl : _ = r := h
      refine FinH.l ?_
      simp -failIfUnchanged only [↓RA, RB, RS, fx17, p1, p2, p3, p4, reduceIte, p5, p6, p7, p8, c1, c2]

def fx3 := And.intro @ty_3 <| And.intro @zc_3 <| And.intro @z_3 <| And.intro @ty_4 <| And.intro @zc_4 <| And.intro @z_4 <| And.intro @u_4 <| And.intro @ty_22 <| And.intro @zc_22 <| And.intro @z_22 <| And.intro @es_22 <| And.intro @eb_22 <| And.intro @sl_22 <| And.intro @is_22 <| And.intro @el_22 <| And.intro @ze_22 <| And.intro @ez_22 <| And.intro @ty_25 <| And.intro @zc_25 <| And.intro @z_25 <| And.intro @fo_25_0 <| And.intro @fi_25_0 <| And.intro @ft_25_0 <| And.intro @fo_25_1 <| And.intro @fi_25_1 <| And.intro @ft_25_1 <| And.intro @lay_25 <| And.intro @ty_31 <| And.intro @zc_31 <| And.intro @z_31 <| And.intro @fo_31_0 <| And.intro @fi_31_0 <| And.intro @ft_31_0 <| And.intro @fo_31_1 <| And.intro @fi_31_1 <| And.intro @ft_31_1 <| And.intro @fo_31_2 <| And.intro @fi_31_2 <| And.intro @ft_31_2 <| And.intro @lay_31 <| And.intro @ty_34 <| And.intro @zc_34 <| And.intro @z_34 <| And.intro @es_34 <| And.intro @eb_34 <| And.intro @sl_34 <| And.intro @is_34 <| And.intro @el_34 <| And.intro @ze_34 <| And.intro @ez_34 <| And.intro @ty_38 <| And.intro @zc_38 <| And.intro @z_38 <| And.intro @fo_38_0 <| And.intro @fi_38_0 <| And.intro @ft_38_0 <| And.intro @fo_38_1 <| And.intro @fi_38_1 <| And.intro @ft_38_1 <| And.intro @lay_38 <| @mixedT
set_option maxHeartbeats 4000000 in
theorem FnExactMajorantOf_sat {a0 : List Majorant} {a1 : Term}  {r : Bool} (h : FnExactMajorantOf a0 a1 = some r) : Sat Tryz.prog 3 [(.sl false 3 (a0.map (Majorant.pv false))), ((Term.pv false) a1)] (B r) := by
  replace h := Run.of h
  unfold FnExactMajorantOf at h
  refine Sat.of_m (nt := 119) (rs := [.tmp 4]) (n := 100000) Tryz.func3 rfl rfl rfl rfl (by simp) ?_
  simp -failIfUnchanged only [↓RA, RB, RJ, RS, fx3, p1, p2, p3, p4, reduceIte, p5, p6, p7, p8]
  repeat (first | with_reducible refine noR_and (by repeat (first | exact noR_empty _ _ | exact noR_nilS _ _ | refine noR_mk _ _ _ _ _ rfl ?_ | refine noR_mkS _ _ _ _ _ rfl ?_)) ?_ | with_reducible refine noC_and (by repeat (first | exact noC_empty _ _ (by simp -failIfUnchanged only [↓RA, RB, RJ, RS, fx3, p1, p2, p3, p4, reduceIte, p5, p6, p7, p8]) | exact noC_nilS _ _ (by simp -failIfUnchanged only [↓RA, RB, RJ, RS, fx3, p1, p2, p3, p4, reduceIte, p5, p6, p7, p8]) | refine noC_mk _ _ _ _ _ rfl ?_ | refine noC_mkS _ _ _ _ _ rfl ?_)) ?_ | with_reducible refine and_ac ?_ | with_reducible refine And.intro (a := _ = List.range _) (by rfl) ?_)
  obtain ⟨v19, hv19, h⟩ := run_bind h
  refine CallH.mk [false, false] (szMajorantS_sat hv19) ?_ ?_ <;> simp -failIfUnchanged only [↓RA, RB, RJ, RS, fx3, p1, p2, p3, p4, reduceIte, p5, p6, p7, p8]
  refine CondH.mk (fun c1 => ?_) (fun c1 => ?_)
  · replace h := run_t c1 h
    simp -failIfUnchanged only [↓RA, RB, RJ, RS, fx3, p1, p2, p3, p4, reduceIte, p5, p6, p7, p8, c1]
    have h := run_some h
    obtain rfl : _ = r := h
    refine FinH.l ?_
    simp -failIfUnchanged only [↓RA, RB, RJ, RS, fx3, p1, p2, p3, p4, reduceIte, p5, p6, p7, p8, c1]
  · replace h := run_f c1 h
    simp -failIfUnchanged only [↓RA, RB, RJ, RS, fx3, p1, p2, p3, p4, reduceIte, p5, p6, p7, p8, c1]
    obtain ⟨v24, hv24, h⟩ := run_bind h
    refine CallH.mk [false, false] (szTerm_sat hv24) ?_ ?_ <;> simp -failIfUnchanged only [↓RA, RB, RJ, RS, fx3, p1, p2, p3, p4, reduceIte, p5, p6, p7, p8, c1]
    refine CondH.mk (fun c2 => ?_) (fun c2 => ?_)
    · replace h := run_t c2 h
      simp -failIfUnchanged only [↓RA, RB, RJ, RS, fx3, p1, p2, p3, p4, reduceIte, p5, p6, p7, p8, c1, c2]
      have h := run_some h
      obtain rfl : _ = r := h
      refine FinH.l ?_
      simp -failIfUnchanged only [↓RA, RB, RJ, RS, fx3, p1, p2, p3, p4, reduceIte, p5, p6, p7, p8, c1, c2]
    · replace h := run_f c2 h
      simp -failIfUnchanged only [↓RA, RB, RJ, RS, fx3, p1, p2, p3, p4, reduceIte, p5, p6, p7, p8, c1, c2]
      obtain ⟨v29, hv29, h⟩ := run_bind h
      refine CallH.mk [false] (toMajorantS_sat hv29) ?_ ?_ <;> simp -failIfUnchanged only [↓RA, RB, RJ, RS, fx3, p1, p2, p3, p4, reduceIte, p5, p6, p7, p8, c1, c2]
      repeat (first | with_reducible refine noR_and (by repeat (first | exact noR_empty _ _ | exact noR_nilS _ _ | refine noR_mk _ _ _ _ _ rfl ?_ | refine noR_mkS _ _ _ _ _ rfl ?_)) ?_ | with_reducible refine noC_and (by repeat (first | exact noC_empty _ _ (by simp -failIfUnchanged only [↓RA, RB, RJ, RS, fx3, p1, p2, p3, p4, reduceIte, p5, p6, p7, p8]) | exact noC_nilS _ _ (by simp -failIfUnchanged only [↓RA, RB, RJ, RS, fx3, p1, p2, p3, p4, reduceIte, p5, p6, p7, p8]) | refine noC_mk _ _ _ _ _ rfl ?_ | refine noC_mkS _ _ _ _ _ rfl ?_)) ?_ | with_reducible refine and_ac ?_ | with_reducible refine And.intro (a := _ = List.range _) (by rfl) ?_)
      obtain ⟨v31, hv31, h⟩ := run_bind h
      refine CallH.mk [false] (toTerm_sat hv31) ?_ ?_ <;> simp -failIfUnchanged only [↓RA, RB, RJ, RS, fx3, p1, p2, p3, p4, reduceIte, p5, p6, p7, p8, c1, c2]
      repeat (first | with_reducible refine noR_and (by repeat (first | exact noR_empty _ _ | exact noR_nilS _ _ | refine noR_mk _ _ _ _ _ rfl ?_ | refine noR_mkS _ _ _ _ _ rfl ?_)) ?_ | with_reducible refine noC_and (by repeat (first | exact noC_empty _ _ (by simp -failIfUnchanged only [↓RA, RB, RJ, RS, fx3, p1, p2, p3, p4, reduceIte, p5, p6, p7, p8]) | exact noC_nilS _ _ (by simp -failIfUnchanged only [↓RA, RB, RJ, RS, fx3, p1, p2, p3, p4, reduceIte, p5, p6, p7, p8]) | refine noC_mk _ _ _ _ _ rfl ?_ | refine noC_mkS _ _ _ _ _ rfl ?_)) ?_ | with_reducible refine and_ac ?_ | with_reducible refine And.intro (a := _ = List.range _) (by rfl) ?_)
      obtain ⟨v32, hv32, h⟩ := run_bind h
      refine CallH.mk [false, false] (spec_MajorantOf_sat hv32) ?_ ?_ <;> simp -failIfUnchanged only [↓RA, RB, RJ, RS, fx3, p1, p2, p3, p4, reduceIte, p5, p6, p7, p8, c1, c2]
      repeat (first | with_reducible refine noR_and (by repeat (first | exact noR_empty _ _ | exact noR_nilS _ _ | refine noR_mk _ _ _ _ _ rfl ?_ | refine noR_mkS _ _ _ _ _ rfl ?_)) ?_ | with_reducible refine noC_and (by repeat (first | exact noC_empty _ _ (by simp -failIfUnchanged only [↓RA, RB, RJ, RS, fx3, p1, p2, p3, p4, reduceIte, p5, p6, p7, p8]) | exact noC_nilS _ _ (by simp -failIfUnchanged only [↓RA, RB, RJ, RS, fx3, p1, p2, p3, p4, reduceIte, p5, p6, p7, p8]) | refine noC_mk _ _ _ _ _ rfl ?_ | refine noC_mkS _ _ _ _ _ rfl ?_)) ?_ | with_reducible refine and_ac ?_ | with_reducible refine And.intro (a := _ = List.range _) (by rfl) ?_)
      refine And.intro (DrawH.mk [6] [464, 496, 512, 513] (by rfl) (by first | rfl | (simp -failIfUnchanged only [↓RA, RB, RJ, RS, fx3, p1, p2, p3, p4, reduceIte, p5, p6, p7, p8] <;> rfl)) (by first | rfl | (simp -failIfUnchanged only [↓RA, RB, RJ, RS, fx3, p1, p2, p3, p4, reduceIte, p5, p6, p7, p8] <;> rfl)) (by first | rfl | (simp -failIfUnchanged only [↓RA, RB, RJ, RS, fx3, p1, p2, p3, p4, reduceIte, p5, p6, p7, p8] <;> rfl)) (by simp -failIfUnchanged only [↓RA, RB, RJ, RS, fx3, p1, p2, p3, p4, reduceIte, p5, p6, p7, p8]; (try refine ⟨?_, ?_⟩) <;> repeat (first | exact noR_empty _ _ | exact noR_nilS _ _ | refine noR_mk _ _ _ _ _ rfl ?_ | refine noR_mkS _ _ _ _ _ rfl ?_)) (by simp -failIfUnchanged only [↓RA, RB, RJ, RS, fx3, p1, p2, p3, p4, reduceIte, p5, p6, p7, p8]; repeat (first | exact noC_empty _ _ (by simp -failIfUnchanged only [↓RA, RB, RJ, RS, fx3, p1, p2, p3, p4, reduceIte, p5, p6, p7, p8]) | exact noC_nilS _ _ (by simp -failIfUnchanged only [↓RA, RB, RJ, RS, fx3, p1, p2, p3, p4, reduceIte, p5, p6, p7, p8]) | refine noC_mk _ _ _ _ _ rfl ?_ | refine noC_mkS _ _ _ _ _ rfl ?_ | refine And.intro ?_ ?_))) ?_
      simp -failIfUnchanged only [↓RA, RB, RJ, RS, fx3, p1, p2, p3, p4, reduceIte, p5, p6, p7, p8, c1, c2]
      obtain ⟨v36, hv36, h⟩ := run_bind h
      refine CallH.mk [false] (toMajorantS_sat hv36) ?_ ?_ <;> simp -failIfUnchanged only [↓RA, RB, RJ, RS, fx3, p1, p2, p3, p4, reduceIte, p5, p6, p7, p8, c1, c2]
      repeat (first | with_reducible refine noR_and (by repeat (first | exact noR_empty _ _ | exact noR_nilS _ _ | refine noR_mk _ _ _ _ _ rfl ?_ | refine noR_mkS _ _ _ _ _ rfl ?_)) ?_ | with_reducible refine noC_and (by repeat (first | exact noC_empty _ _ (by simp -failIfUnchanged only [↓RA, RB, RJ, RS, fx3, p1, p2, p3, p4, reduceIte, p5, p6, p7, p8]) | exact noC_nilS _ _ (by simp -failIfUnchanged only [↓RA, RB, RJ, RS, fx3, p1, p2, p3, p4, reduceIte, p5, p6, p7, p8]) | refine noC_mk _ _ _ _ _ rfl ?_ | refine noC_mkS _ _ _ _ _ rfl ?_)) ?_ | with_reducible refine and_ac ?_ | with_reducible refine And.intro (a := _ = List.range _) (by rfl) ?_)
      obtain ⟨v38, hv38, h⟩ := run_bind h
      refine CallH.mk [false] (toTerm_sat hv38) ?_ ?_ <;> simp -failIfUnchanged only [↓RA, RB, RJ, RS, fx3, p1, p2, p3, p4, reduceIte, p5, p6, p7, p8, c1, c2]
      repeat (first | with_reducible refine noR_and (by repeat (first | exact noR_empty _ _ | exact noR_nilS _ _ | refine noR_mk _ _ _ _ _ rfl ?_ | refine noR_mkS _ _ _ _ _ rfl ?_)) ?_ | with_reducible refine noC_and (by repeat (first | exact noC_empty _ _ (by simp -failIfUnchanged only [↓RA, RB, RJ, RS, fx3, p1, p2, p3, p4, reduceIte, p5, p6, p7, p8]) | exact noC_nilS _ _ (by simp -failIfUnchanged only [↓RA, RB, RJ, RS, fx3, p1, p2, p3, p4, reduceIte, p5, p6, p7, p8]) | refine noC_mk _ _ _ _ _ rfl ?_ | refine noC_mkS _ _ _ _ _ rfl ?_)) ?_ | with_reducible refine and_ac ?_ | with_reducible refine And.intro (a := _ = List.range _) (by rfl) ?_)
      obtain ⟨v42, hv42, h⟩ := run_bind h
      refine CallH.mk [false, false] (impl_MajorantOf_sat hv42) ?_ ?_ <;> simp -failIfUnchanged only [↓RA, RB, RJ, RS, fx3, p1, p2, p3, p4, reduceIte, p5, p6, p7, p8, c1, c2]
      repeat (first | with_reducible refine noR_and (by repeat (first | exact noR_empty _ _ | exact noR_nilS _ _ | refine noR_mk _ _ _ _ _ rfl ?_ | refine noR_mkS _ _ _ _ _ rfl ?_)) ?_ | with_reducible refine noC_and (by repeat (first | exact noC_empty _ _ (by simp -failIfUnchanged only [↓RA, RB, RJ, RS, fx3, p1, p2, p3, p4, reduceIte, p5, p6, p7, p8]) | exact noC_nilS _ _ (by simp -failIfUnchanged only [↓RA, RB, RJ, RS, fx3, p1, p2, p3, p4, reduceIte, p5, p6, p7, p8]) | refine noC_mk _ _ _ _ _ rfl ?_ | refine noC_mkS _ _ _ _ _ rfl ?_)) ?_ | with_reducible refine and_ac ?_ | with_reducible refine And.intro (a := _ = List.range _) (by rfl) ?_)
      obtain ⟨v47, hv47, h⟩ := run_bind h
      refine CallH.mk [false, false] (eqLinear_sat hv47) ?_ ?_ <;> simp -failIfUnchanged only [↓RA, RB, RJ, RS, fx3, p1, p2, p3, p4, reduceIte, p5, p6, p7, p8, c1, c2]
      refine CondH.mk (fun c3 => ?_) (fun c3 => ?_)
      · replace h := run_t c3 h
        simp -failIfUnchanged only [↓RA, RB, RJ, RS, fx3, p1, p2, p3, p4, reduceIte, p5, p6, p7, p8, c1, c2, c3]
        refine CondH.mk (fun c4 => ?_) (fun c4 => ?_)
        · replace h := run_t c4 h
          simp -failIfUnchanged only [↓RA, RB, RJ, RS, fx3, p1, p2, p3, p4, reduceIte, p5, p6, p7, p8, c1, c2, c3, c4]
          obtain ⟨v56, hv56, h⟩ := run_bind h
          refine CallH.mk [false] (toMajorantS_sat hv56) ?_ ?_ <;> simp -failIfUnchanged only [↓RA, RB, RJ, RS, fx3, p1, p2, p3, p4, reduceIte, p5, p6, p7, p8, c1, c2, c3, c4]
          repeat (first | with_reducible refine noR_and (by repeat (first | exact noR_empty _ _ | exact noR_nilS _ _ | refine noR_mk _ _ _ _ _ rfl ?_ | refine noR_mkS _ _ _ _ _ rfl ?_)) ?_ | with_reducible refine noC_and (by repeat (first | exact noC_empty _ _ (by simp -failIfUnchanged only [↓RA, RB, RJ, RS, fx3, p1, p2, p3, p4, reduceIte, p5, p6, p7, p8]) | exact noC_nilS _ _ (by simp -failIfUnchanged only [↓RA, RB, RJ, RS, fx3, p1, p2, p3, p4, reduceIte, p5, p6, p7, p8]) | refine noC_mk _ _ _ _ _ rfl ?_ | refine noC_mkS _ _ _ _ _ rfl ?_)) ?_ | with_reducible refine and_ac ?_ | with_reducible refine And.intro (a := _ = List.range _) (by rfl) ?_)
          obtain ⟨v57, hv57, h⟩ := run_bind h
          refine CallH.mk [false, false] (eqMajorantS_sat hv57) ?_ ?_ <;> simp -failIfUnchanged only [↓RA, RB, RJ, RS, fx3, p1, p2, p3, p4, reduceIte, p5, p6, p7, p8, c1, c2, c3, c4]
          refine CondH.mk (fun c5 => ?_) (fun c5 => ?_)
          · replace h := run_t c5 h
            simp -failIfUnchanged only [↓RA, RB, RJ, RS, fx3, p1, p2, p3, p4, reduceIte, p5, p6, p7, p8, c1, c2, c3, c4, c5]
            obtain ⟨v61, hv61, h⟩ := run_bind h
            refine CallH.mk [false] (toTerm_sat hv61) ?_ ?_ <;> simp -failIfUnchanged only [↓RA, RB, RJ, RS, fx3, p1, p2, p3, p4, reduceIte, p5, p6, p7, p8, c1, c2, c3, c4, c5]
            repeat (first | with_reducible refine noR_and (by repeat (first | exact noR_empty _ _ | exact noR_nilS _ _ | refine noR_mk _ _ _ _ _ rfl ?_ | refine noR_mkS _ _ _ _ _ rfl ?_)) ?_ | with_reducible refine noC_and (by repeat (first | exact noC_empty _ _ (by simp -failIfUnchanged only [↓RA, RB, RJ, RS, fx3, p1, p2, p3, p4, reduceIte, p5, p6, p7, p8]) | exact noC_nilS _ _ (by simp -failIfUnchanged only [↓RA, RB, RJ, RS, fx3, p1, p2, p3, p4, reduceIte, p5, p6, p7, p8]) | refine noC_mk _ _ _ _ _ rfl ?_ | refine noC_mkS _ _ _ _ _ rfl ?_)) ?_ | with_reducible refine and_ac ?_ | with_reducible refine And.intro (a := _ = List.range _) (by rfl) ?_)
            obtain ⟨v62, hv62, h⟩ := run_bind h
            refine CallH.mk [false, false] (eqTerm_sat hv62) ?_ ?_ <;> simp -failIfUnchanged only [↓RA, RB, RJ, RS, fx3, p1, p2, p3, p4, reduceIte, p5, p6, p7, p8, c1, c2, c3, c4, c5]
            refine And.intro (DrawH.mk [] [976] (by rfl) (by first | rfl | (simp -failIfUnchanged only [↓RA, RB, RJ, RS, fx3, p1, p2, p3, p4, reduceIte, p5, p6, p7, p8] <;> rfl)) (by first | rfl | (simp -failIfUnchanged only [↓RA, RB, RJ, RS, fx3, p1, p2, p3, p4, reduceIte, p5, p6, p7, p8] <;> rfl)) (by first | rfl | (simp -failIfUnchanged only [↓RA, RB, RJ, RS, fx3, p1, p2, p3, p4, reduceIte, p5, p6, p7, p8] <;> rfl)) (by simp) (by simp -failIfUnchanged only [↓RA, RB, RJ, RS, fx3, p1, p2, p3, p4, reduceIte, p5, p6, p7, p8]; repeat (first | exact noC_empty _ _ (by simp -failIfUnchanged only [↓RA, RB, RJ, RS, fx3, p1, p2, p3, p4, reduceIte, p5, p6, p7, p8]) | exact noC_nilS _ _ (by simp -failIfUnchanged only [↓RA, RB, RJ, RS, fx3, p1, p2, p3, p4, reduceIte, p5, p6, p7, p8]) | refine noC_mk _ _ _ _ _ rfl ?_ | refine noC_mkS _ _ _ _ _ rfl ?_ | refine And.intro ?_ ?_))) ?_
            simp -failIfUnchanged only [↓RA, RB, RJ, RS, fx3, p1, p2, p3, p4, reduceIte, p5, p6, p7, p8, c1, c2, c3, c4, c5]
            refine CondH.mk (fun c6 => ?_) (fun c6 => ?_)
            · replace h := run_t c6 h
              simp -failIfUnchanged only [↓RA, RB, RJ, RS, fx3, p1, p2, p3, p4, reduceIte, p5, p6, p7, p8, c1, c2, c3, c4, c5, c6]
              obtain ⟨v66, hv66, h⟩ := run_bind h
              refine CallH.io [(.own 576), (.pv (I (1 : Int)))] [(576, (3, v66.2.map (Majorant.pv true)))] (markMajorantS_sat hv66) ?_ ?_ <;> simp -failIfUnchanged only [↓RA, RB, RJ, RS, fx3, p1, p2, p3, p4, reduceIte, p5, p6, p7, p8, c1, c2, c3, c4, c5, c6]
              obtain ⟨v69, hv69, h⟩ := run_bind h
              refine CallH.io [(.node [(.pv (Sx v38.Name)), (.own 608)]), (.pv (I v66.1))] [(608, (2, v69.2.map (Term.pv true)))] (markTerm_sat hv69) ?_ ?_ <;> simp -failIfUnchanged only [↓RA, RB, RJ, RS, fx3, p1, p2, p3, p4, reduceIte, p5, p6, p7, p8, c1, c2, c3, c4, c5, c6]
              refine CondH.mk (fun c7 => ?_) (fun c7 => ?_)
              · replace h := run_t c7 h
                simp -failIfUnchanged only [↓RA, RB, RJ, RS, fx3, p1, p2, p3, p4, reduceIte, p5, p6, p7, p8, c1, c2, c3, c4, c5, c6, c7]
                have h := run_some h
                obtain rfl : _ = r := h
                refine FinH.l ?_
                simp -failIfUnchanged only [↓RA, RB, RJ, RS, fx3, p1, p2, p3, p4, reduceIte, p5, p6, p7, p8, c1, c2, c3, c4, c5, c6, c7]
              · replace h := run_f c7 h
                simp -failIfUnchanged only [↓RA, RB, RJ, RS, fx3, p1, p2, p3, p4, reduceIte, p5, p6, p7, p8, c1, c2, c3, c4, c5, c6, c7]
                obtain ⟨v75, hv75, h⟩ := run_bind h
                refine CallH.mk [false, false] (eqLinear_sat hv75) ?_ ?_ <;> simp -failIfUnchanged only [↓RA, RB, RJ, RS, fx3, p1, p2, p3, p4, reduceIte, p5, p6, p7, p8, c1, c2, c3, c4, c5, c6, c7]
                refine CondH.mk (fun c8 => ?_) (fun c8 => ?_)
                · replace h := run_t c8 h
                  simp -failIfUnchanged only [↓RA, RB, RJ, RS, fx3, p1, p2, p3, p4, reduceIte, p5, p6, p7, p8, c1, c2, c3, c4, c5, c6, c7, c8]
                  obtain ⟨v85, hv85, h⟩ := run_bind h
                  refine CallH.io [(.node [(.own 672), (.own 673), (.pv (I v42.1.Constant))]), (.pv (I (1 : Int)))] [(672, (1, v85.2.1.map Sx)), (673, (1, v85.2.2.map I))] (markLinear_sat hv85) ?_ ?_ <;> simp -failIfUnchanged only [↓RA, RB, RJ, RS, fx3, p1, p2, p3, p4, reduceIte, p5, p6, p7, p8, c1, c2, c3, c4, c5, c6, c7, c8]
                  obtain ⟨v88, hv88, h⟩ := run_bind h
                  refine CallH.mk [false, false] (heldLinear_sat hv88) ?_ ?_ <;> simp -failIfUnchanged only [↓RA, RB, RJ, RS, fx3, p1, p2, p3, p4, reduceIte, p5, p6, p7, p8, c1, c2, c3, c4, c5, c6, c7, c8]
                  refine CondH.mk (fun c9 => ?_) (fun c9 => ?_)
                  · replace h := run_t c9 h
                    simp -failIfUnchanged only [↓RA, RB, RJ, RS, fx3, p1, p2, p3, p4, reduceIte, p5, p6, p7, p8, c1, c2, c3, c4, c5, c6, c7, c8, c9]
                    have h := run_some h
                    obtain rfl : _ = r := h
                    refine FinH.l ?_
                    simp -failIfUnchanged only [↓RA, RB, RJ, RS, fx3, p1, p2, p3, p4, reduceIte, p5, p6, p7, p8, c1, c2, c3, c4, c5, c6, c7, c8, c9]
                  · replace h := run_f c9 h
                    simp -failIfUnchanged only [↓RA, RB, RJ, RS, fx3, p1, p2, p3, p4, reduceIte, p5, p6, p7, p8, c1, c2, c3, c4, c5, c6, c7, c8, c9]
                    refine CondH.mk (fun c10 => ?_) (fun c10 => ?_)
                    · replace h := run_t c10 h
                      simp -failIfUnchanged only [↓RA, RB, RJ, RS, fx3, p1, p2, p3, p4, reduceIte, p5, p6, p7, p8, c1, c2, c3, c4, c5, c6, c7, c8, c9, c10]
                      obtain ⟨v96, hv96, h⟩ := run_bind h
                      refine CallH.mk [false] (toMajorantS_sat hv96) ?_ ?_ <;> simp -failIfUnchanged only [↓RA, RB, RJ, RS, fx3, p1, p2, p3, p4, reduceIte, p5, p6, p7, p8, c1, c2, c3, c4, c5, c6, c7, c8, c9, c10]
                      repeat (first | with_reducible refine noR_and (by repeat (first | exact noR_empty _ _ | exact noR_nilS _ _ | refine noR_mk _ _ _ _ _ rfl ?_ | refine noR_mkS _ _ _ _ _ rfl ?_)) ?_ | with_reducible refine noC_and (by repeat (first | exact noC_empty _ _ (by simp -failIfUnchanged only [↓RA, RB, RJ, RS, fx3, p1, p2, p3, p4, reduceIte, p5, p6, p7, p8]) | exact noC_nilS _ _ (by simp -failIfUnchanged only [↓RA, RB, RJ, RS, fx3, p1, p2, p3, p4, reduceIte, p5, p6, p7, p8]) | refine noC_mk _ _ _ _ _ rfl ?_ | refine noC_mkS _ _ _ _ _ rfl ?_)) ?_ | with_reducible refine and_ac ?_ | with_reducible refine And.intro (a := _ = List.range _) (by rfl) ?_)
                      obtain ⟨v98, hv98, h⟩ := run_bind h
                      refine CallH.mk [false] (toTerm_sat hv98) ?_ ?_ <;> simp -failIfUnchanged only [↓RA, RB, RJ, RS, fx3, p1, p2, p3, p4, reduceIte, p5, p6, p7, p8, c1, c2, c3, c4, c5, c6, c7, c8, c9, c10]
                      repeat (first | with_reducible refine noR_and (by repeat (first | exact noR_empty _ _ | exact noR_nilS _ _ | refine noR_mk _ _ _ _ _ rfl ?_ | refine noR_mkS _ _ _ _ _ rfl ?_)) ?_ | with_reducible refine noC_and (by repeat (first | exact noC_empty _ _ (by simp -failIfUnchanged only [↓RA, RB, RJ, RS, fx3, p1, p2, p3, p4, reduceIte, p5, p6, p7, p8]) | exact noC_nilS _ _ (by simp -failIfUnchanged only [↓RA, RB, RJ, RS, fx3, p1, p2, p3, p4, reduceIte, p5, p6, p7, p8]) | refine noC_mk _ _ _ _ _ rfl ?_ | refine noC_mkS _ _ _ _ _ rfl ?_)) ?_ | with_reducible refine and_ac ?_ | with_reducible refine And.intro (a := _ = List.range _) (by rfl) ?_)
                      obtain ⟨v99, hv99, h⟩ := run_bind h
                      refine CallH.mk [false, false] (impl_MajorantOf_sat hv99) ?_ ?_ <;> simp -failIfUnchanged only [↓RA, RB, RJ, RS, fx3, p1, p2, p3, p4, reduceIte, p5, p6, p7, p8, c1, c2, c3, c4, c5, c6, c7, c8, c9, c10]
                      repeat (first | with_reducible refine noR_and (by repeat (first | exact noR_empty _ _ | exact noR_nilS _ _ | refine noR_mk _ _ _ _ _ rfl ?_ | refine noR_mkS _ _ _ _ _ rfl ?_)) ?_ | with_reducible refine noC_and (by repeat (first | exact noC_empty _ _ (by simp -failIfUnchanged only [↓RA, RB, RJ, RS, fx3, p1, p2, p3, p4, reduceIte, p5, p6, p7, p8]) | exact noC_nilS _ _ (by simp -failIfUnchanged only [↓RA, RB, RJ, RS, fx3, p1, p2, p3, p4, reduceIte, p5, p6, p7, p8]) | refine noC_mk _ _ _ _ _ rfl ?_ | refine noC_mkS _ _ _ _ _ rfl ?_)) ?_ | with_reducible refine and_ac ?_ | with_reducible refine And.intro (a := _ = List.range _) (by rfl) ?_)
                      refine And.intro (DrawH.mk [15] [1536, 1568, 1584, 1585] (by rfl) (by first | rfl | (simp -failIfUnchanged only [↓RA, RB, RJ, RS, fx3, p1, p2, p3, p4, reduceIte, p5, p6, p7, p8] <;> rfl)) (by first | rfl | (simp -failIfUnchanged only [↓RA, RB, RJ, RS, fx3, p1, p2, p3, p4, reduceIte, p5, p6, p7, p8] <;> rfl)) (by first | rfl | (simp -failIfUnchanged only [↓RA, RB, RJ, RS, fx3, p1, p2, p3, p4, reduceIte, p5, p6, p7, p8] <;> rfl)) (by simp -failIfUnchanged only [↓RA, RB, RJ, RS, fx3, p1, p2, p3, p4, reduceIte, p5, p6, p7, p8]; (try refine ⟨?_, ?_⟩) <;> repeat (first | exact noR_empty _ _ | exact noR_nilS _ _ | refine noR_mk _ _ _ _ _ rfl ?_ | refine noR_mkS _ _ _ _ _ rfl ?_)) (by simp -failIfUnchanged only [↓RA, RB, RJ, RS, fx3, p1, p2, p3, p4, reduceIte, p5, p6, p7, p8]; repeat (first | exact noC_empty _ _ (by simp -failIfUnchanged only [↓RA, RB, RJ, RS, fx3, p1, p2, p3, p4, reduceIte, p5, p6, p7, p8]) | exact noC_nilS _ _ (by simp -failIfUnchanged only [↓RA, RB, RJ, RS, fx3, p1, p2, p3, p4, reduceIte, p5, p6, p7, p8]) | refine noC_mk _ _ _ _ _ rfl ?_ | refine noC_mkS _ _ _ _ _ rfl ?_ | refine And.intro ?_ ?_))) ?_
                      simp -failIfUnchanged only [↓RA, RB, RJ, RS, fx3, p1, p2, p3, p4, reduceIte, p5, p6, p7, p8, c1, c2, c3, c4, c5, c6, c7, c8, c9, c10]
                      obtain ⟨v104, hv104, h⟩ := run_bind h
                      refine CallH.mk [false, false] (eqLinear_sat hv104) ?_ ?_ <;> simp -failIfUnchanged only [↓RA, RB, RJ, RS, fx3, p1, p2, p3, p4, reduceIte, p5, p6, p7, p8, c1, c2, c3, c4, c5, c6, c7, c8, c9, c10]
                      refine CondH.mk (fun c11 => ?_) (fun c11 => ?_)
                      · replace h := run_t c11 h
                        simp -failIfUnchanged only [↓RA, RB, RJ, RS, fx3, p1, p2, p3, p4, reduceIte, p5, p6, p7, p8, c1, c2, c3, c4, c5, c6, c7, c8, c9, c10, c11]
                        refine CondH.mk (fun c12 => ?_) (fun c12 => ?_)
                        · replace h := run_t c12 h
                          simp -failIfUnchanged only [↓RA, RB, RJ, RS, fx3, p1, p2, p3, p4, reduceIte, p5, p6, p7, p8, c1, c2, c3, c4, c5, c6, c7, c8, c9, c10, c11, c12]
                          obtain ⟨v113, hv113, h⟩ := run_bind h
                          refine CallH.mk [false, false] (heldLinear_sat hv113) ?_ ?_ <;> simp -failIfUnchanged only [↓RA, RB, RJ, RS, fx3, p1, p2, p3, p4, reduceIte, p5, p6, p7, p8, c1, c2, c3, c4, c5, c6, c7, c8, c9, c10, c11, c12]
                          refine CondH.mk (fun c13 => ?_) (fun c13 => ?_)
                          · replace h := run_t c13 h
                            simp -failIfUnchanged only [↓RA, RB, RJ, RS, fx3, p1, p2, p3, p4, reduceIte, p5, p6, p7, p8, c1, c2, c3, c4, c5, c6, c7, c8, c9, c10, c11, c12, c13]
                            have h := run_some h
                            obtain rfl : _ = r := h
                            refine FinH.l ?_
                            simp -failIfUnchanged only [↓RA, RB, RJ, RS, fx3, p1, p2, p3, p4, reduceIte, p5, p6, p7, p8, c1, c2, c3, c4, c5, c6, c7, c8, c9, c10, c11, c12, c13]
                          · replace h := run_f c13 h
                            simp -failIfUnchanged only [↓RA, RB, RJ, RS, fx3, p1, p2, p3, p4, reduceIte, p5, p6, p7, p8, c1, c2, c3, c4, c5, c6, c7, c8, c9, c10, c11, c12, c13]
                            refine CondH.mk (fun c14 => ?_) (fun c14 => ?_)
                            · replace h := run_t c14 h
                              simp -failIfUnchanged only [↓RA, RB, RJ, RS, fx3, p1, p2, p3, p4, reduceIte, p5, p6, p7, p8, c1, c2, c3, c4, c5, c6, c7, c8, c9, c10, c11, c12, c13, c14]
                              have h := run_some h
                              obtain rfl : _ = r := h
                              refine FinH.l ?_
                              simp -failIfUnchanged only [↓RA, RB, RJ, RS, fx3, p1, p2, p3, p4, reduceIte, p5, p6, p7, p8, c1, c2, c3, c4, c5, c6, c7, c8, c9, c10, c11, c12, c13, c14]
                            · replace h := run_f c14 h
                              simp -failIfUnchanged only [↓RA, RB, RJ, RS, fx3, p1, p2, p3, p4, reduceIte, p5, p6, p7, p8, c1, c2, c3, c4, c5, c6, c7, c8, c9, c10, c11, c12, c13, c14]
                              have h := run_some h
                              obtain rfl : _ = r := h
                              refine FinH.l ?_
                              simp -failIfUnchanged only [↓RA, RB, RJ, RS, fx3, p1, p2, p3, p4, reduceIte, p5, p6, p7, p8, c1, c2, c3, c4, c5, c6, c7, c8, c9, c10, c11, c12, c13, c14]
                        · replace h := run_f c12 h
                          simp -failIfUnchanged only [↓RA, RB, RJ, RS, fx3, p1, p2, p3, p4, reduceIte, p5, p6, p7, p8, c1, c2, c3, c4, c5, c6, c7, c8, c9, c10, c11, c12]
                          have h := run_some h
                          obtain rfl : _ = r := h
                          refine FinH.l ?_
                          simp -failIfUnchanged only [↓RA, RB, RJ, RS, fx3, p1, p2, p3, p4, reduceIte, p5, p6, p7, p8, c1, c2, c3, c4, c5, c6, c7, c8, c9, c10, c11, c12]
                      · replace h := run_f c11 h
                        simp -failIfUnchanged only [↓RA, RB, RJ, RS, fx3, p1, p2, p3, p4, reduceIte, p5, p6, p7, p8, c1, c2, c3, c4, c5, c6, c7, c8, c9, c10, c11]
                        have h := run_some h
                        obtain rfl : _ = r := h
                        refine FinH.l ?_
                        simp -failIfUnchanged only [↓RA, RB, RJ, RS, fx3, p1, p2, p3, p4, reduceIte, p5, p6, p7, p8, c1, c2, c3, c4, c5, c6, c7, c8, c9, c10, c11]
                    · replace h := run_f c10 h
                      simp -failIfUnchanged only [↓RA, RB, RJ, RS, fx3, p1, p2, p3, p4, reduceIte, p5, p6, p7, p8, c1, c2, c3, c4, c5, c6, c7, c8, c9, c10]
                      have h := run_some h
                      obtain rfl : _ = r := h
                      refine FinH.l ?_
                      simp -failIfUnchanged only [↓RA, RB, RJ, RS, fx3, p1, p2, p3, p4, reduceIte, p5, p6, p7, p8, c1, c2, c3, c4, c5, c6, c7, c8, c9, c10]
                · replace h := run_f c8 h
                  simp -failIfUnchanged only [↓RA, RB, RJ, RS, fx3, p1, p2, p3, p4, reduceIte, p5, p6, p7, p8, c1, c2, c3, c4, c5, c6, c7, c8]
                  have h := run_some h
                  obtain rfl : _ = r := h
                  refine FinH.l ?_
                  simp -failIfUnchanged only [↓RA, RB, RJ, RS, fx3, p1, p2, p3, p4, reduceIte, p5, p6, p7, p8, c1, c2, c3, c4, c5, c6, c7, c8]
            · replace h := run_f c6 h
              simp -failIfUnchanged only [↓RA, RB, RJ, RS, fx3, p1, p2, p3, p4, reduceIte, p5, p6, p7, p8, c1, c2, c3, c4, c5, c6]
              have h := run_some h
              obtain rfl : _ = r := h
              refine FinH.l ?_
              simp -failIfUnchanged only [↓RA, RB, RJ, RS, fx3, p1, p2, p3, p4, reduceIte, p5, p6, p7, p8, c1, c2, c3, c4, c5, c6]
          · replace h := run_f c5 h
            simp -failIfUnchanged only [↓RA, RB, RJ, RS, fx3, p1, p2, p3, p4, reduceIte, p5, p6, p7, p8, c1, c2, c3, c4, c5]
            have h := run_some h
            obtain rfl : _ = r := h
            refine FinH.l ?_
            simp -failIfUnchanged only [↓RA, RB, RJ, RS, fx3, p1, p2, p3, p4, reduceIte, p5, p6, p7, p8, c1, c2, c3, c4, c5]
        · replace h := run_f c4 h
          simp -failIfUnchanged only [↓RA, RB, RJ, RS, fx3, p1, p2, p3, p4, reduceIte, p5, p6, p7, p8, c1, c2, c3, c4]
          have h := run_some h
          obtain rfl : _ = r := h
          refine FinH.l ?_
          simp -failIfUnchanged only [↓RA, RB, RJ, RS, fx3, p1, p2, p3, p4, reduceIte, p5, p6, p7, p8, c1, c2, c3, c4]
      · replace h := run_f c3 h
        simp -failIfUnchanged only [↓RA, RB, RJ, RS, fx3, p1, p2, p3, p4, reduceIte, p5, p6, p7, p8, c1, c2, c3]
        have h := run_some h
        obtain rfl : _ = r := h
        refine FinH.l ?_
        simp -failIfUnchanged only [↓RA, RB, RJ, RS, fx3, p1, p2, p3, p4, reduceIte, p5, p6, p7, p8, c1, c2, c3]

end Go.Proofs.YtgbddapcjhgllaaGreat
