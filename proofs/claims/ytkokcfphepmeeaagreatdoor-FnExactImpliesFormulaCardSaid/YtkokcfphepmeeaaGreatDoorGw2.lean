/- A part of the proof: lemmas only; nothing is claimed here beyond what each lemma says. -/
import Derived.Test.YtkokcfphepmeeaaGreatDoorGw1
set_option linter.unusedSimpArgs false
set_option linter.unusedVariables false
set_option linter.defProp false
set_option maxRecDepth 4000
namespace Go.Proofs.YtkokcfphepmeeaaGreatDoor
open Go.Av
open Nat renaming reduceLT → p1, reduceAdd → p2, reduceMul → p3, reduceEqDiff → p4, reduceBEq → p5, reduceLeDiff → p6, reduceSub → p7
open Int renaming reduceToNat → p8
def fx29 := And.intro @ty_3 <| And.intro @zc_3 <| And.intro @z_3 <| And.intro @ty_4 <| And.intro @zc_4 <| And.intro @z_4 <| And.intro @u_4 <| And.intro @ty_28 <| And.intro @zc_28 <| And.intro @z_28 <| And.intro @es_28 <| And.intro @eb_28 <| And.intro @sl_28 <| And.intro @is_28 <| And.intro @el_28 <| And.intro @ze_28 <| And.intro @ez_28 <| And.intro @ty_32 <| And.intro @zc_32 <| And.intro @z_32 <| And.intro @es_32 <| And.intro @eb_32 <| And.intro @sl_32 <| And.intro @is_32 <| And.intro @el_32 <| And.intro @ze_32 <| And.intro @ez_32 <| And.intro @ty_34 <| And.intro @zc_34 <| And.intro @z_34 <| And.intro @fo_34_0 <| And.intro @fi_34_0 <| And.intro @ft_34_0 <| And.intro @fo_34_1 <| And.intro @fi_34_1 <| And.intro @ft_34_1 <| And.intro @lay_34 <| And.intro @ty_37 <| And.intro @zc_37 <| And.intro @z_37 <| And.intro @fo_37_0 <| And.intro @fi_37_0 <| And.intro @ft_37_0 <| And.intro @fo_37_1 <| And.intro @fi_37_1 <| And.intro @ft_37_1 <| And.intro @fo_37_2 <| And.intro @fi_37_2 <| And.intro @ft_37_2 <| And.intro @fo_37_3 <| And.intro @fi_37_3 <| And.intro @ft_37_3 <| @lay_37
set_option maxHeartbeats 4000000 in
theorem impl_variablesOf_sat {a0 : Formula}  {r : (List Int) × Bool} (h : impl_variablesOf a0 = some r) : Sat Tryz.prog 29 [((Formula.pv false) a0)] (.tup [(.sl true 1 (r.1.map I)), (B r.2)]) := by
  replace h := Run.of h
  unfold impl_variablesOf at h
  refine Sat.of_m (nt := 34) (rs := [.tmp 2, .tmp 3]) (n := 100000) Tryz.func29 rfl rfl rfl rfl (by simp) ?_
  simp -failIfUnchanged only [↓RA, RB, RS, fx29, p1, p2, p3, p4, reduceIte, p5, p6, p7, p8]
  repeat (first | with_reducible refine noR_and (by repeat (first | exact noR_empty _ _ | exact noR_nilS _ _ | refine noR_mk _ _ _ _ _ rfl ?_ | refine noR_mkS _ _ _ _ _ rfl ?_)) ?_ | with_reducible refine noC_and (by repeat (first | exact noC_empty _ _ (by simp -failIfUnchanged only [↓RA, RB, RS, fx29, p1, p2, p3, p4, reduceIte, p5, p6, p7, p8]) | exact noC_nilS _ _ (by simp -failIfUnchanged only [↓RA, RB, RS, fx29, p1, p2, p3, p4, reduceIte, p5, p6, p7, p8]) | refine noC_mk _ _ _ _ _ rfl ?_ | refine noC_mkS _ _ _ _ _ rfl ?_)) ?_ | with_reducible refine and_ac ?_ | with_reducible refine And.intro (a := _ = List.range _) (by rfl) ?_)
  obtain ⟨v9, hv9, h⟩ := run_bind h
  refine CallH.mk [false] (impl_IsValidFormula_sat hv9) ?_ ?_ <;> simp -failIfUnchanged only [↓RA, RB, RS, fx29, p1, p2, p3, p4, reduceIte, p5, p6, p7, p8]
  refine CondH.mk (fun c1 => ?_) (fun c1 => ?_)
  · replace h := run_t c1 h
    simp -failIfUnchanged only [↓RA, RB, RS, fx29, p1, p2, p3, p4, reduceIte, p5, p6, p7, p8, c1]
    repeat (first | with_reducible refine noR_and (by repeat (first | exact noR_empty _ _ | exact noR_nilS _ _ | refine noR_mk _ _ _ _ _ rfl ?_ | refine noR_mkS _ _ _ _ _ rfl ?_)) ?_ | with_reducible refine noC_and (by repeat (first | exact noC_empty _ _ (by simp -failIfUnchanged only [↓RA, RB, RS, fx29, p1, p2, p3, p4, reduceIte, p5, p6, p7, p8]) | exact noC_nilS _ _ (by simp -failIfUnchanged only [↓RA, RB, RS, fx29, p1, p2, p3, p4, reduceIte, p5, p6, p7, p8]) | refine noC_mk _ _ _ _ _ rfl ?_ | refine noC_mkS _ _ _ _ _ rfl ?_)) ?_ | with_reducible refine and_ac ?_ | with_reducible refine And.intro (a := _ = List.range _) (by rfl) ?_)
    obtain ⟨v14, hv14, h⟩ := run_bind h
    refine CallH.mk [false, false] (impl_hasOp_sat hv14) ?_ ?_ <;> simp -failIfUnchanged only [↓RA, RB, RS, fx29, p1, p2, p3, p4, reduceIte, p5, p6, p7, p8, c1]
    refine CondH.mk (fun c2 => ?_) (fun c2 => ?_)
    · replace h := run_t c2 h
      simp -failIfUnchanged only [↓RA, RB, RS, fx29, p1, p2, p3, p4, reduceIte, p5, p6, p7, p8, c1, c2]
      have h := run_some h
      obtain rfl : _ = r := h
      refine FinH.l ?_
      simp -failIfUnchanged only [↓RA, RB, RS, fx29, p1, p2, p3, p4, reduceIte, p5, p6, p7, p8, c1, c2]
    · replace h := run_f c2 h
      simp -failIfUnchanged only [↓RA, RB, RS, fx29, p1, p2, p3, p4, reduceIte, p5, p6, p7, p8, c1, c2]
      repeat (first | with_reducible refine noR_and (by repeat (first | exact noR_empty _ _ | exact noR_nilS _ _ | refine noR_mk _ _ _ _ _ rfl ?_ | refine noR_mkS _ _ _ _ _ rfl ?_)) ?_ | with_reducible refine noC_and (by repeat (first | exact noC_empty _ _ (by simp -failIfUnchanged only [↓RA, RB, RS, fx29, p1, p2, p3, p4, reduceIte, p5, p6, p7, p8]) | exact noC_nilS _ _ (by simp -failIfUnchanged only [↓RA, RB, RS, fx29, p1, p2, p3, p4, reduceIte, p5, p6, p7, p8]) | refine noC_mk _ _ _ _ _ rfl ?_ | refine noC_mkS _ _ _ _ _ rfl ?_)) ?_ | with_reducible refine and_ac ?_ | with_reducible refine And.intro (a := _ = List.range _) (by rfl) ?_)
      obtain ⟨v18, hv18, h⟩ := run_bind h
      refine CallH.mk [false] (impl_atomsOf_sat hv18) ?_ ?_ <;> simp -failIfUnchanged only [↓RA, RB, RS, fx29, p1, p2, p3, p4, reduceIte, p5, p6, p7, p8, c1, c2]
      repeat (first | with_reducible refine noR_and (by repeat (first | exact noR_empty _ _ | exact noR_nilS _ _ | refine noR_mk _ _ _ _ _ rfl ?_ | refine noR_mkS _ _ _ _ _ rfl ?_)) ?_ | with_reducible refine noC_and (by repeat (first | exact noC_empty _ _ (by simp -failIfUnchanged only [↓RA, RB, RS, fx29, p1, p2, p3, p4, reduceIte, p5, p6, p7, p8]) | exact noC_nilS _ _ (by simp -failIfUnchanged only [↓RA, RB, RS, fx29, p1, p2, p3, p4, reduceIte, p5, p6, p7, p8]) | refine noC_mk _ _ _ _ _ rfl ?_ | refine noC_mkS _ _ _ _ _ rfl ?_)) ?_ | with_reducible refine and_ac ?_ | with_reducible refine And.intro (a := _ = List.range _) (by rfl) ?_)
      refine Mg.know_own (sz := 2) (es := v18.map (Term.pv false)) 288 (by simp -failIfUnchanged only [↓RA, RB, RS, fx29, p1, p2, p3, p4, reduceIte, p5, p6, p7, p8, c1, c2]) fun hl288 => ?_; rw [List.length_map] at hl288
      replace h := run_loop h
      refine Mg.forN h (fun i5 s5 => [(4, .val (.own 256)), (18, .val (.own 288)), (19, .val (.pv (I (v18.length : Int)))), (20, .val (.pv (I (i5 : Int))))]) (fun i5 s5 => [(256, (1, s5.map I)), (288, (2, v18.map (Term.pv false)))]) (St.le_mk2 (by simp -failIfUnchanged only [↓RA, RB, RS, fx29, p1, p2, p3, p4, reduceIte, p5, p6, p7, p8, c1, c2])) (fun i5 s5 hi h => ?_) (fun s5 h => ?_)
      · have w5 := wrap_succ (i := i5) (by omega)
        simp -failIfUnchanged only [↓RA, RB, RS, fx29, p1, p2, p3, p4, reduceIte, p5, p6, p7, p8, c1, c2]
        refine CondH.tt (decide_eq_true (by omega)) (fun c3 => ?_)
        simp -failIfUnchanged only [↓RA, RB, RS, fx29, p1, p2, p3, p4, reduceIte, p5, p6, p7, p8, c1, c2, c3]
        obtain ⟨v22, hv22, h⟩ := run_bind h
        refine IdxH.mk (f := (Term.pv false)) hv22 ?_ ?_ <;> simp -failIfUnchanged only [↓RA, RB, RS, fx29, p1, p2, p3, p4, reduceIte, p5, p6, p7, p8, c1, c2, c3]
        obtain ⟨v23, hv23, h⟩ := run_bind h
        refine EldH.mk (f := (Term.pv false)) hv23 rfl ?_ ?_ <;> simp -failIfUnchanged only [↓RA, RB, RS, fx29, p1, p2, p3, p4, reduceIte, p5, p6, p7, p8, c1, c2, c3]
        repeat (first | with_reducible refine noR_and (by repeat (first | exact noR_empty _ _ | exact noR_nilS _ _ | refine noR_mk _ _ _ _ _ rfl ?_ | refine noR_mkS _ _ _ _ _ rfl ?_)) ?_ | with_reducible refine noC_and (by repeat (first | exact noC_empty _ _ (by simp -failIfUnchanged only [↓RA, RB, RS, fx29, p1, p2, p3, p4, reduceIte, p5, p6, p7, p8]) | exact noC_nilS _ _ (by simp -failIfUnchanged only [↓RA, RB, RS, fx29, p1, p2, p3, p4, reduceIte, p5, p6, p7, p8]) | refine noC_mk _ _ _ _ _ rfl ?_ | refine noC_mkS _ _ _ _ _ rfl ?_)) ?_ | with_reducible refine and_ac ?_ | with_reducible refine And.intro (a := _ = List.range _) (by rfl) ?_)
        obtain ⟨v25, hv25, h⟩ := run_bind h
        refine CallH.mk [false] (impl_variableOf_sat hv25) ?_ ?_ <;> simp -failIfUnchanged only [↓RA, RB, RS, fx29, p1, p2, p3, p4, reduceIte, p5, p6, p7, p8, c1, c2, c3]
        refine CondH.mk (fun c4 => ?_) (fun c4 => ?_)
        · replace h := run_t c4 h
          simp -failIfUnchanged only [↓RA, RB, RS, fx29, p1, p2, p3, p4, reduceIte, p5, p6, p7, p8, c1, c2, c3, c4]
          have h := run_some h
          obtain rfl : _ = r := h
          refine FinH.l ?_
          simp -failIfUnchanged only [↓RA, RB, RS, fx29, p1, p2, p3, p4, reduceIte, p5, p6, p7, p8, c1, c2, c3, c4]
        · replace h := run_f c4 h
          simp -failIfUnchanged only [↓RA, RB, RS, fx29, p1, p2, p3, p4, reduceIte, p5, p6, p7, p8, c1, c2, c3, c4]
          repeat (first | with_reducible refine noR_and (by repeat (first | exact noR_empty _ _ | exact noR_nilS _ _ | refine noR_mk _ _ _ _ _ rfl ?_ | refine noR_mkS _ _ _ _ _ rfl ?_)) ?_ | with_reducible refine noC_and (by repeat (first | exact noC_empty _ _ (by simp -failIfUnchanged only [↓RA, RB, RS, fx29, p1, p2, p3, p4, reduceIte, p5, p6, p7, p8]) | exact noC_nilS _ _ (by simp -failIfUnchanged only [↓RA, RB, RS, fx29, p1, p2, p3, p4, reduceIte, p5, p6, p7, p8]) | refine noC_mk _ _ _ _ _ rfl ?_ | refine noC_mkS _ _ _ _ _ rfl ?_)) ?_ | with_reducible refine and_ac ?_ | with_reducible refine And.intro (a := _ = List.range _) (by rfl) ?_)
          obtain ⟨v31, hv31, h⟩ := run_bind h
          refine AppH.mk (f := I) (fun _ => rfl) hv31 ?_ ?_ ?_ <;> simp -failIfUnchanged only [↓RA, RB, RS, fx29, p1, p2, p3, p4, reduceIte, p5, p6, p7, p8, c1, c2, c3, c4]
          repeat (first | with_reducible refine noR_and (by repeat (first | exact noR_empty _ _ | exact noR_nilS _ _ | refine noR_mk _ _ _ _ _ rfl ?_ | refine noR_mkS _ _ _ _ _ rfl ?_)) ?_ | with_reducible refine noC_and (by repeat (first | exact noC_empty _ _ (by simp -failIfUnchanged only [↓RA, RB, RS, fx29, p1, p2, p3, p4, reduceIte, p5, p6, p7, p8]) | exact noC_nilS _ _ (by simp -failIfUnchanged only [↓RA, RB, RS, fx29, p1, p2, p3, p4, reduceIte, p5, p6, p7, p8]) | refine noC_mk _ _ _ _ _ rfl ?_ | refine noC_mkS _ _ _ _ _ rfl ?_)) ?_ | with_reducible refine and_ac ?_ | with_reducible refine And.intro (a := _ = List.range _) (by rfl) ?_)
          have h := run_some h
          refine RdH.mk ⟨_, h, ?_⟩
          refine St.le_trans (St.le_mk (S := [(4, .val (.own 496)), (18, .val (.own 288)), (19, .val (.pv (I (v18.length : Int)))), (20, .val (.pv (I (IntKind.i64.wrap ((i5 : Int) + (1 : Int))))))]) (O := [(496, (1, v31.map I)), (288, (2, v18.map (Term.pv false)))]) (by simp -failIfUnchanged only [↓RA, RB, RS, fx29, p1, p2, p3, p4, reduceIte, p5, p6, p7, p8, c1, c2, c3, c4, w5]) (by simp -failIfUnchanged only [↓RA, RB, RS, fx29, p1, p2, p3, p4, reduceIte, p5, p6, p7, p8, c1, c2, c3, c4, w5])) ?_
          refine St.le_rn 496 256 (by decide) (by repeat (first | exact noC_empty _ _ (by simp -failIfUnchanged only [↓RA, RB, RS, fx29, p1, p2, p3, p4, reduceIte, p5, p6, p7, p8]) | exact noC_nilS _ _ (by simp -failIfUnchanged only [↓RA, RB, RS, fx29, p1, p2, p3, p4, reduceIte, p5, p6, p7, p8]) | refine noC_mk _ _ _ _ _ rfl ?_ | refine noC_mkS _ _ _ _ _ rfl ?_)) ?_
          refine St.le_mk2 ?_
          simp -failIfUnchanged only [↓RA, RB, RS, fx29, p1, p2, p3, p4, reduceIte, p5, p6, p7, p8, c1, c2, c3, c4, w5]
      · simp -failIfUnchanged only [↓RA, RB, RS, fx29, p1, p2, p3, p4, reduceIte, p5, p6, p7, p8, c1, c2]
        refine CondH.ff (decide_eq_false (by omega)) (fun c5 => ?_)
        simp -failIfUnchanged only [↓RA, RB, RS, fx29, p1, p2, p3, p4, reduceIte, p5, p6, p7, p8, c1, c2, c5]
        have h := run_some h
        obtain rfl : _ = r := h
        refine FinH.l ?_
        simp -failIfUnchanged only [↓RA, RB, RS, fx29, p1, p2, p3, p4, reduceIte, p5, p6, p7, p8, c1, c2, c5]
  · replace h := run_f c1 h
    simp -failIfUnchanged only [↓RA, RB, RS, fx29, p1, p2, p3, p4, reduceIte, p5, p6, p7, p8, c1]
    have h := run_some h
    obtain rfl : _ = r := h
    refine FinH.l ?_
    simp -failIfUnchanged only [↓RA, RB, RS, fx29, p1, p2, p3, p4, reduceIte, p5, p6, p7, p8, c1]

def fx166 := And.intro @ty_3 <| And.intro @zc_3 <| And.intro @z_3 <| And.intro @ty_9 <| And.intro @zc_9 <| And.intro @z_9 <| And.intro @u_9 <| And.intro @ty_28 <| And.intro @zc_28 <| And.intro @z_28 <| And.intro @es_28 <| And.intro @eb_28 <| And.intro @sl_28 <| And.intro @is_28 <| And.intro @el_28 <| And.intro @ze_28 <| And.intro @ez_28 <| @isIntB_i
set_option maxHeartbeats 4000000 in
theorem slices_Grow_Sint_int_nil0_sat {a1 : Int}  {r : List Int} (h : slices_Grow_Sint_int_nil0 a1 = some r) : Sat Tryz.prog 69 [(.lit (.slice none 0 0)), (I a1)] (.sl true 1 (r.map I)) := by
  replace h := Run.of h
  unfold slices_Grow_Sint_int_nil0 at h
  refine Sat.of_nil (sz := 1) (nt := 27) (rs := [.tmp 4]) (n := 100000) Tryz.func69 rfl rfl rfl rfl (by simp) ?_
  simp -failIfUnchanged only [↓RA, RB, RS, fx166, p1, p2, p3, p4, reduceIte, p5, p6, p7, p8]
  refine CondH.mk (fun c1 => ?_) (fun c1 => ?_)
  · replace h := run_t c1 h
    simp -failIfUnchanged only [↓RA, RB, RS, fx166, p1, p2, p3, p4, reduceIte, p5, p6, p7, p8, c1]
    exact run_none h
  · replace h := run_f c1 h
    simp -failIfUnchanged only [↓RA, RB, RS, fx166, p1, p2, p3, p4, reduceIte, p5, p6, p7, p8, c1]
    refine CondH.mk (fun c2 => ?_) (fun c2 => ?_)
    · replace h := run_t c2 h
      simp -failIfUnchanged only [↓RA, RB, RS, fx166, p1, p2, p3, p4, reduceIte, p5, p6, p7, p8, c1, c2]
      obtain ⟨n22, hn22, h⟩ := run_bind h
      refine AppzH.mk hn22 ?_
      simp -failIfUnchanged only [↓RA, RB, RS, fx166, p1, p2, p3, p4, reduceIte, p5, p6, p7, p8, c1, c2]
      repeat (first | with_reducible refine noR_and (by repeat (first | exact noR_empty _ _ | exact noR_nilS _ _ | refine noR_mk _ _ _ _ _ rfl ?_ | refine noR_mkS _ _ _ _ _ rfl ?_)) ?_ | with_reducible refine noC_and (by repeat (first | exact noC_empty _ _ (by simp -failIfUnchanged only [↓RA, RB, RS, fx166, p1, p2, p3, p4, reduceIte, p5, p6, p7, p8]) | exact noC_nilS _ _ (by simp -failIfUnchanged only [↓RA, RB, RS, fx166, p1, p2, p3, p4, reduceIte, p5, p6, p7, p8]) | refine noC_mk _ _ _ _ _ rfl ?_ | refine noC_mkS _ _ _ _ _ rfl ?_)) ?_ | with_reducible refine and_ac ?_ | with_reducible refine And.intro (a := _ = List.range _) (by rfl) ?_)
      obtain ⟨v25, hv25, h⟩ := run_bind h
      refine SlcOH.mk (f := I) hv25 ?_ ?_ <;> simp -failIfUnchanged only [↓RA, RB, RS, fx166, p1, p2, p3, p4, reduceIte, p5, p6, p7, p8, c1, c2]
      repeat (first | with_reducible refine noR_and (by repeat (first | exact noR_empty _ _ | exact noR_nilS _ _ | refine noR_mk _ _ _ _ _ rfl ?_ | refine noR_mkS _ _ _ _ _ rfl ?_)) ?_ | with_reducible refine noC_and (by repeat (first | exact noC_empty _ _ (by simp -failIfUnchanged only [↓RA, RB, RS, fx166, p1, p2, p3, p4, reduceIte, p5, p6, p7, p8]) | exact noC_nilS _ _ (by simp -failIfUnchanged only [↓RA, RB, RS, fx166, p1, p2, p3, p4, reduceIte, p5, p6, p7, p8]) | refine noC_mk _ _ _ _ _ rfl ?_ | refine noC_mkS _ _ _ _ _ rfl ?_)) ?_ | with_reducible refine and_ac ?_ | with_reducible refine And.intro (a := _ = List.range _) (by rfl) ?_)
      have h := run_some h
      obtain rfl : _ = r := h
      refine FinH.l ?_
      simp -failIfUnchanged only [↓RA, RB, RS, fx166, p1, p2, p3, p4, reduceIte, p5, p6, p7, p8, c1, c2]
    · replace h := run_f c2 h
      simp -failIfUnchanged only [↓RA, RB, RS, fx166, p1, p2, p3, p4, reduceIte, p5, p6, p7, p8, c1, c2]
      have h := run_some h
      obtain rfl : _ = r := h
      refine FinH.l ?_
      simp -failIfUnchanged only [↓RA, RB, RS, fx166, p1, p2, p3, p4, reduceIte, p5, p6, p7, p8, c1, c2]

def fx37 := And.intro @ty_3 <| And.intro @zc_3 <| And.intro @z_3 <| And.intro @ty_9 <| And.intro @zc_9 <| And.intro @z_9 <| And.intro @u_9 <| And.intro @ty_28 <| And.intro @zc_28 <| And.intro @z_28 <| And.intro @es_28 <| And.intro @eb_28 <| And.intro @sl_28 <| And.intro @is_28 <| And.intro @el_28 <| And.intro @ze_28 <| And.intro @ez_28 <| And.intro @ty_45 <| And.intro @zc_45 <| And.intro @z_45 <| And.intro @es_45 <| And.intro @eb_45 <| And.intro @sl_45 <| And.intro @is_45 <| And.intro @el_45 <| And.intro @ze_45 <| @ez_45
set_option maxHeartbeats 4000000 in
theorem slices_Concat_Sint_int_sat {a0 : List (List Int)}  {r : List Int} (h : slices_Concat_Sint_int a0 = some r) : Sat Tryz.prog 37 [(.sl false 1 (a0.map (Lv false 1 I)))] (.sl true 1 (r.map I)) := by
  replace h := Run.of h
  unfold slices_Concat_Sint_int at h
  refine Sat.of_m (nt := 36) (rs := [.tmp 2]) (n := 100000) Tryz.func37 rfl rfl rfl rfl (by simp) ?_
  simp -failIfUnchanged only [↓RA, RB, RS, fx37, p1, p2, p3, p4, reduceIte, p5, p6, p7, p8]
  refine Mg.know_sl (b := false) (sz := 1) (es := a0.map (Lv false 1 I)) 0 (by simp -failIfUnchanged only [↓RA, RB, RS, fx37, p1, p2, p3, p4, reduceIte, p5, p6, p7, p8]) fun hl0 => ?_; rw [List.length_map] at hl0
  replace h := run_loop h
  refine Mg.forN h (fun i3 s3 => [(0, .val (.pv (.sl false 1 (a0.map (Lv false 1 I))))), (3, .val (.pv (I s3))), (9, .val (.pv (.sl false 1 (a0.map (Lv false 1 I))))), (10, .val (.pv (I (a0.length : Int)))), (11, .val (.pv (I (i3 : Int))))]) (fun i3 s3 => []) (St.le_mk2 (by simp -failIfUnchanged only [↓RA, RB, RS, fx37, p1, p2, p3, p4, reduceIte, p5, p6, p7, p8])) (fun i3 s3 hi h => ?_) (fun s3 h => ?_)
  · have w3 := wrap_succ (i := i3) (by omega)
    simp -failIfUnchanged only [↓RA, RB, RS, fx37, p1, p2, p3, p4, reduceIte, p5, p6, p7, p8]
    refine CondH.tt (decide_eq_true (by omega)) (fun c1 => ?_)
    simp -failIfUnchanged only [↓RA, RB, RS, fx37, p1, p2, p3, p4, reduceIte, p5, p6, p7, p8, c1]
    obtain ⟨v13, hv13, h⟩ := run_bind h
    refine IdxH.mk (f := (Lv false 1 I)) hv13 ?_ ?_ <;> simp -failIfUnchanged only [↓RA, RB, RS, fx37, p1, p2, p3, p4, reduceIte, p5, p6, p7, p8, c1]
    refine CondH.mk (fun c2 => ?_) (fun c2 => ?_)
    · replace h := run_t c2 h
      simp -failIfUnchanged only [↓RA, RB, RS, fx37, p1, p2, p3, p4, reduceIte, p5, p6, p7, p8, c1, c2]
      exact run_none h
    · replace h := run_f c2 h
      simp -failIfUnchanged only [↓RA, RB, RS, fx37, p1, p2, p3, p4, reduceIte, p5, p6, p7, p8, c1, c2]
      have h := run_some h
      refine RdH.mk ⟨_, h, ?_⟩
      refine St.le_mk2 ?_
      simp -failIfUnchanged only [↓RA, RB, RS, fx37, p1, p2, p3, p4, reduceIte, p5, p6, p7, p8, c1, c2, w3]
  · simp -failIfUnchanged only [↓RA, RB, RS, fx37, p1, p2, p3, p4, reduceIte, p5, p6, p7, p8]
    refine CondH.ff (decide_eq_false (by omega)) (fun c3 => ?_)
    simp -failIfUnchanged only [↓RA, RB, RS, fx37, p1, p2, p3, p4, reduceIte, p5, p6, p7, p8, c3]
    obtain ⟨v24, hv24, h⟩ := run_bind h
    refine CallH.nil0 (h := slices_Grow_Sint_int_nil0_sat hv24) (by simp -failIfUnchanged only [↓RA, RB, RS, fx37, p1, p2, p3, p4, reduceIte, p5, p6, p7, p8, c3]; repeat (first | exact noC_empty _ _ (by simp -failIfUnchanged only [↓RA, RB, RS, fx37, p1, p2, p3, p4, reduceIte, p5, p6, p7, p8]) | exact noC_nilS _ _ (by simp -failIfUnchanged only [↓RA, RB, RS, fx37, p1, p2, p3, p4, reduceIte, p5, p6, p7, p8]) | refine noC_mk _ _ _ _ _ rfl ?_ | refine noC_mkS _ _ _ _ _ rfl ?_)) ?_
    simp -failIfUnchanged only [↓RA, RB, RS, fx37, p1, p2, p3, p4, reduceIte, p5, p6, p7, p8, c3]
    repeat (first | with_reducible refine noR_and (by repeat (first | exact noR_empty _ _ | exact noR_nilS _ _ | refine noR_mk _ _ _ _ _ rfl ?_ | refine noR_mkS _ _ _ _ _ rfl ?_)) ?_ | with_reducible refine noC_and (by repeat (first | exact noC_empty _ _ (by simp -failIfUnchanged only [↓RA, RB, RS, fx37, p1, p2, p3, p4, reduceIte, p5, p6, p7, p8]) | exact noC_nilS _ _ (by simp -failIfUnchanged only [↓RA, RB, RS, fx37, p1, p2, p3, p4, reduceIte, p5, p6, p7, p8]) | refine noC_mk _ _ _ _ _ rfl ?_ | refine noC_mkS _ _ _ _ _ rfl ?_)) ?_ | with_reducible refine and_ac ?_ | with_reducible refine And.intro (a := _ = List.range _) (by rfl) ?_)
    refine Mg.know_sl (b := false) (sz := 1) (es := a0.map (Lv false 1 I)) 0 (by simp -failIfUnchanged only [↓RA, RB, RS, fx37, p1, p2, p3, p4, reduceIte, p5, p6, p7, p8, c3]) fun hl0 => ?_; rw [List.length_map] at hl0
    replace h := run_loop h
    refine Mg.forN h (fun i11 s11 => [(6, .val (.own 384)), (25, .val (.pv (.sl false 1 (a0.map (Lv false 1 I))))), (26, .val (.pv (I (a0.length : Int)))), (27, .val (.pv (I (i11 : Int))))]) (fun i11 s11 => [(384, (1, s11.map I))]) (St.le_mk2 (by simp -failIfUnchanged only [↓RA, RB, RS, fx37, p1, p2, p3, p4, reduceIte, p5, p6, p7, p8, c3])) (fun i11 s11 hi h => ?_) (fun s11 h => ?_)
    · have w11 := wrap_succ (i := i11) (by omega)
      simp -failIfUnchanged only [↓RA, RB, RS, fx37, p1, p2, p3, p4, reduceIte, p5, p6, p7, p8, c3]
      refine CondH.tt (decide_eq_true (by omega)) (fun c4 => ?_)
      simp -failIfUnchanged only [↓RA, RB, RS, fx37, p1, p2, p3, p4, reduceIte, p5, p6, p7, p8, c3, c4]
      obtain ⟨v29, hv29, h⟩ := run_bind h
      refine IdxH.mk (f := (Lv false 1 I)) hv29 ?_ ?_ <;> simp -failIfUnchanged only [↓RA, RB, RS, fx37, p1, p2, p3, p4, reduceIte, p5, p6, p7, p8, c3, c4]
      obtain ⟨v33, hv33, h⟩ := run_bind h
      refine AppH.mk (f := I) (fun _ => rfl) hv33 ?_ ?_ ?_ <;> simp -failIfUnchanged only [↓RA, RB, RS, fx37, p1, p2, p3, p4, reduceIte, p5, p6, p7, p8, c3, c4]
      repeat (first | with_reducible refine noR_and (by repeat (first | exact noR_empty _ _ | exact noR_nilS _ _ | refine noR_mk _ _ _ _ _ rfl ?_ | refine noR_mkS _ _ _ _ _ rfl ?_)) ?_ | with_reducible refine noC_and (by repeat (first | exact noC_empty _ _ (by simp -failIfUnchanged only [↓RA, RB, RS, fx37, p1, p2, p3, p4, reduceIte, p5, p6, p7, p8]) | exact noC_nilS _ _ (by simp -failIfUnchanged only [↓RA, RB, RS, fx37, p1, p2, p3, p4, reduceIte, p5, p6, p7, p8]) | refine noC_mk _ _ _ _ _ rfl ?_ | refine noC_mkS _ _ _ _ _ rfl ?_)) ?_ | with_reducible refine and_ac ?_ | with_reducible refine And.intro (a := _ = List.range _) (by rfl) ?_)
      have h := run_some h
      refine RdH.mk ⟨_, h, ?_⟩
      refine St.le_trans (St.le_mk (S := [(6, .val (.own 528)), (25, .val (.pv (.sl false 1 (a0.map (Lv false 1 I))))), (26, .val (.pv (I (a0.length : Int)))), (27, .val (.pv (I (IntKind.i64.wrap ((i11 : Int) + (1 : Int))))))]) (O := [(528, (1, v33.map I))]) (by simp -failIfUnchanged only [↓RA, RB, RS, fx37, p1, p2, p3, p4, reduceIte, p5, p6, p7, p8, c3, c4, w11]) (by simp -failIfUnchanged only [↓RA, RB, RS, fx37, p1, p2, p3, p4, reduceIte, p5, p6, p7, p8, c3, c4, w11])) ?_
      refine St.le_rn 528 384 (by decide) (by repeat (first | exact noC_empty _ _ (by simp -failIfUnchanged only [↓RA, RB, RS, fx37, p1, p2, p3, p4, reduceIte, p5, p6, p7, p8]) | exact noC_nilS _ _ (by simp -failIfUnchanged only [↓RA, RB, RS, fx37, p1, p2, p3, p4, reduceIte, p5, p6, p7, p8]) | refine noC_mk _ _ _ _ _ rfl ?_ | refine noC_mkS _ _ _ _ _ rfl ?_)) ?_
      refine St.le_mk2 ?_
      simp -failIfUnchanged only [↓RA, RB, RS, fx37, p1, p2, p3, p4, reduceIte, p5, p6, p7, p8, c3, c4, w11]
    · simp -failIfUnchanged only [↓RA, RB, RS, fx37, p1, p2, p3, p4, reduceIte, p5, p6, p7, p8, c3]
      have h := run_some h
      obtain rfl : _ = r := h
      refine FinH.l ?_
      simp -failIfUnchanged only [↓RA, RB, RS, fx37, p1, p2, p3, p4, reduceIte, p5, p6, p7, p8, c3]

def fx38 := And.intro @ty_3 <| And.intro @zc_3 <| And.intro @z_3 <| And.intro @ty_28 <| And.intro @zc_28 <| And.intro @z_28 <| And.intro @es_28 <| And.intro @eb_28 <| And.intro @sl_28 <| And.intro @is_28 <| And.intro @el_28 <| And.intro @ze_28 <| @ez_28
set_option maxHeartbeats 4000000 in
theorem impl_assignmentOf_sat {a0 : Int} {a1 : Int}  {r : List Int} (h : impl_assignmentOf a0 a1 = some r) : Sat Tryz.prog 38 [(I a0), (I a1)] (.sl true 1 (r.map I)) := by
  replace h := Run.of h
  unfold impl_assignmentOf at h
  refine Sat.of_m (nt := 31) (rs := [.tmp 4]) (n := 100000) Tryz.func38 rfl rfl rfl rfl (by simp) ?_
  simp -failIfUnchanged only [↓RA, RB, RS, fx38, p1, p2, p3, p4, reduceIte, p5, p6, p7, p8]
  obtain ⟨n8, hn8, h⟩ := run_bind h
  refine MknH.mk hn8 ?_
  simp -failIfUnchanged only [↓RA, RB, RS, fx38, p1, p2, p3, p4, reduceIte, p5, p6, p7, p8]
  repeat (first | with_reducible refine noR_and (by repeat (first | exact noR_empty _ _ | exact noR_nilS _ _ | refine noR_mk _ _ _ _ _ rfl ?_ | refine noR_mkS _ _ _ _ _ rfl ?_)) ?_ | with_reducible refine noC_and (by repeat (first | exact noC_empty _ _ (by simp -failIfUnchanged only [↓RA, RB, RS, fx38, p1, p2, p3, p4, reduceIte, p5, p6, p7, p8]) | exact noC_nilS _ _ (by simp -failIfUnchanged only [↓RA, RB, RS, fx38, p1, p2, p3, p4, reduceIte, p5, p6, p7, p8]) | refine noC_mk _ _ _ _ _ rfl ?_ | refine noC_mkS _ _ _ _ _ rfl ?_)) ?_ | with_reducible refine and_ac ?_ | with_reducible refine And.intro (a := _ = List.range _) (by rfl) ?_)
  replace h := run_loop h
  refine Mg.whileN h (fun s3 => [(0, .val (.pv (I s3.1))), (5, .val (.own 128)), (6, .val (.pv (I s3.2.2)))]) (fun s3 => [(128, (1, s3.2.1.map I))]) (St.le_mk2 (by simp -failIfUnchanged only [↓RA, RB, RS, fx38, p1, p2, p3, p4, reduceIte, p5, p6, p7, p8])) (fun n3 s3 h => ?_)
  simp -failIfUnchanged only [↓RA, RB, RS, fx38, p1, p2, p3, p4, reduceIte, p5, p6, p7, p8]
  refine CondH.mk (fun c1 => ?_) (fun c1 => ?_)
  · replace h := run_t c1 h
    simp -failIfUnchanged only [↓RA, RB, RS, fx38, p1, p2, p3, p4, reduceIte, p5, p6, p7, p8, c1]
    obtain ⟨v18, hv18, h⟩ := run_bind h
    refine IdxH.mk (f := I) hv18 ?_ ?_ <;> simp -failIfUnchanged only [↓RA, RB, RS, fx38, p1, p2, p3, p4, reduceIte, p5, p6, p7, p8, c1]
    obtain ⟨w2, hw2, h⟩ := run_bind h
    refine EldH.mk (f := I) hw2 rfl ?_ ?_ <;> simp -failIfUnchanged only [↓RA, RB, RS, fx38, p1, p2, p3, p4, reduceIte, p5, p6, p7, p8, c1]
    refine CondH.mk (fun c3 => ?_) (fun c3 => ?_)
    · replace h := run_t c3 h
      simp -failIfUnchanged only [↓RA, RB, RS, fx38, p1, p2, p3, p4, reduceIte, p5, p6, p7, p8, c1, c3]
      obtain ⟨v27, hv27, h⟩ := run_bind h
      refine IdxH.mk (f := I) hv27 ?_ ?_ <;> simp -failIfUnchanged only [↓RA, RB, RS, fx38, p1, p2, p3, p4, reduceIte, p5, p6, p7, p8, c1, c3]
      obtain ⟨w4, hw4, h⟩ := run_bind h
      refine EldH.mk (f := I) hw4 rfl ?_ ?_ <;> simp -failIfUnchanged only [↓RA, RB, RS, fx38, p1, p2, p3, p4, reduceIte, p5, p6, p7, p8, c1, c3]
      obtain ⟨v29, hv29, h⟩ := run_bind h
      refine ShrH.mk hv29 ?_
      simp -failIfUnchanged only [↓RA, RB, RS, fx38, p1, p2, p3, p4, reduceIte, p5, p6, p7, p8, c1, c3]
      have h := run_some h
      refine RdH.mk ⟨_, h, ?_⟩
      refine St.le_mk2 ?_
      simp -failIfUnchanged only [↓RA, RB, RS, fx38, p1, p2, p3, p4, reduceIte, p5, p6, p7, p8, c1, c3]
    · replace h := run_f c3 h
      simp -failIfUnchanged only [↓RA, RB, RS, fx38, p1, p2, p3, p4, reduceIte, p5, p6, p7, p8, c1, c3]
      obtain ⟨v29, hv29, h⟩ := run_bind h
      refine ShrH.mk hv29 ?_
      simp -failIfUnchanged only [↓RA, RB, RS, fx38, p1, p2, p3, p4, reduceIte, p5, p6, p7, p8, c1, c3]
      have h := run_some h
      refine RdH.mk ⟨_, h, ?_⟩
      refine St.le_mk2 ?_
      simp -failIfUnchanged only [↓RA, RB, RS, fx38, p1, p2, p3, p4, reduceIte, p5, p6, p7, p8, c1, c3]
  · replace h := run_f c1 h
    simp -failIfUnchanged only [↓RA, RB, RS, fx38, p1, p2, p3, p4, reduceIte, p5, p6, p7, p8, c1]
    have h := run_some h
    have h := run_some h
    obtain rfl : _ = r := h
    refine FinH.l ?_
    simp -failIfUnchanged only [↓RA, RB, RS, fx38, p1, p2, p3, p4, reduceIte, p5, p6, p7, p8, c1]

def fx118 := And.intro @ty_3 <| And.intro @zc_3 <| And.intro @z_3 <| And.intro @ty_4 <| And.intro @zc_4 <| And.intro @z_4 <| And.intro @u_4 <| And.intro @ty_32 <| And.intro @zc_32 <| And.intro @z_32 <| And.intro @es_32 <| And.intro @eb_32 <| And.intro @sl_32 <| And.intro @is_32 <| And.intro @el_32 <| And.intro @ze_32 <| And.intro @ez_32 <| And.intro @ty_34 <| And.intro @zc_34 <| And.intro @z_34 <| And.intro @fo_34_0 <| And.intro @fi_34_0 <| And.intro @ft_34_0 <| And.intro @fo_34_1 <| And.intro @fi_34_1 <| And.intro @ft_34_1 <| @lay_34
set_option maxHeartbeats 4000000 in
theorem slices_EqualFunc_Simpl_Term_Simpl_Term_impl_Term_impl_Term_sat {a0 : List Term} {a1 : List Term} {a2 : Term → Term → Option Bool} {a2_id : FuncId} {a2_cs : List PV} (a2_ok : ∀ y0 y1 r, a2 y0 y1 = some r → Sat Tryz.prog a2_id (((Term.pv false) y0) :: ((Term.pv false) y1) :: a2_cs) (B r)) (a2_cz : CapsOk a2_cs = True) {r : Bool} (h : slices_EqualFunc_Simpl_Term_Simpl_Term_impl_Term_impl_Term a0 a1 a2 = some r) : Sat Tryz.prog 118 [(.sl false 2 (a0.map (Term.pv false))), (.sl false 2 (a1.map (Term.pv false))), .clo a2_id a2_cs] (B r) := by
  replace h := Run.of h
  unfold slices_EqualFunc_Simpl_Term_Simpl_Term_impl_Term_impl_Term at h
  refine Sat.of_m (nt := 32) (rs := [.tmp 6]) (n := 100000) Tryz.func118 rfl rfl rfl rfl (by simp) ?_
  simp -failIfUnchanged only [↓RA, RB, RS, fx118, a2_cz, p1, p2, p3, p4, reduceIte, p5, p6, p7, p8]
  refine CondH.mk (fun c1 => ?_) (fun c1 => ?_)
  · replace h := run_t c1 h
    simp -failIfUnchanged only [↓RA, RB, RS, fx118, a2_cz, p1, p2, p3, p4, reduceIte, p5, p6, p7, p8, c1]
    refine Mg.know_sl (b := false) (sz := 2) (es := a0.map (Term.pv false)) 0 (by simp -failIfUnchanged only [↓RA, RB, RS, fx118, a2_cz, p1, p2, p3, p4, reduceIte, p5, p6, p7, p8, c1]) fun hl0 => ?_; rw [List.length_map] at hl0
    replace h := run_loop h
    refine Mg.forN h (fun i4 s4 => [(1, .val (.pv (.sl false 2 (a1.map (Term.pv false))))), (2, .val (.pv (.clo a2_id a2_cs))), (15, .val (.pv (.sl false 2 (a0.map (Term.pv false))))), (16, .val (.pv (I (a0.length : Int)))), (17, .val (.pv (I (i4 : Int))))]) (fun i4 s4 => []) (St.le_mk2 (by simp -failIfUnchanged only [↓RA, RB, RS, fx118, a2_cz, p1, p2, p3, p4, reduceIte, p5, p6, p7, p8, c1])) (fun i4 s4 hi h => ?_) (fun s4 h => ?_)
    · have w4 := wrap_succ (i := i4) (by omega)
      simp -failIfUnchanged only [↓RA, RB, RS, fx118, a2_cz, p1, p2, p3, p4, reduceIte, p5, p6, p7, p8, c1]
      refine CondH.tt (decide_eq_true (by omega)) (fun c2 => ?_)
      simp -failIfUnchanged only [↓RA, RB, RS, fx118, a2_cz, p1, p2, p3, p4, reduceIte, p5, p6, p7, p8, c1, c2]
      obtain ⟨v20, hv20, h⟩ := run_bind h
      refine IdxH.mk (f := (Term.pv false)) hv20 ?_ ?_ <;> simp -failIfUnchanged only [↓RA, RB, RS, fx118, a2_cz, p1, p2, p3, p4, reduceIte, p5, p6, p7, p8, c1, c2]
      repeat (first | with_reducible refine noR_and (by repeat (first | exact noR_empty _ _ | exact noR_nilS _ _ | refine noR_mk _ _ _ _ _ rfl ?_ | refine noR_mkS _ _ _ _ _ rfl ?_)) ?_ | with_reducible refine noC_and (by repeat (first | exact noC_empty _ _ (by simp -failIfUnchanged only [↓RA, RB, RS, fx118, a2_cz, p1, p2, p3, p4, reduceIte, p5, p6, p7, p8]) | exact noC_nilS _ _ (by simp -failIfUnchanged only [↓RA, RB, RS, fx118, a2_cz, p1, p2, p3, p4, reduceIte, p5, p6, p7, p8]) | refine noC_mk _ _ _ _ _ rfl ?_ | refine noC_mkS _ _ _ _ _ rfl ?_)) ?_ | with_reducible refine and_ac ?_ | with_reducible refine And.intro (a := _ = List.range _) (by rfl) ?_)
      obtain ⟨v24, hv24, h⟩ := run_bind h
      refine IdxH.mk (f := (Term.pv false)) hv24 ?_ ?_ <;> simp -failIfUnchanged only [↓RA, RB, RS, fx118, a2_cz, p1, p2, p3, p4, reduceIte, p5, p6, p7, p8, c1, c2]
      repeat (first | with_reducible refine noR_and (by repeat (first | exact noR_empty _ _ | exact noR_nilS _ _ | refine noR_mk _ _ _ _ _ rfl ?_ | refine noR_mkS _ _ _ _ _ rfl ?_)) ?_ | with_reducible refine noC_and (by repeat (first | exact noC_empty _ _ (by simp -failIfUnchanged only [↓RA, RB, RS, fx118, a2_cz, p1, p2, p3, p4, reduceIte, p5, p6, p7, p8]) | exact noC_nilS _ _ (by simp -failIfUnchanged only [↓RA, RB, RS, fx118, a2_cz, p1, p2, p3, p4, reduceIte, p5, p6, p7, p8]) | refine noC_mk _ _ _ _ _ rfl ?_ | refine noC_mkS _ _ _ _ _ rfl ?_)) ?_ | with_reducible refine and_ac ?_ | with_reducible refine And.intro (a := _ = List.range _) (by rfl) ?_)
      obtain ⟨v29, hv29, h⟩ := run_bind h
      refine CallH.mk [false, false] (a2_ok _ _ _ hv29) ?_ ?_ <;> simp -failIfUnchanged only [↓RA, RB, RS, fx118, a2_cz, p1, p2, p3, p4, reduceIte, p5, p6, p7, p8, c1, c2]
      refine CondH.mk (fun c3 => ?_) (fun c3 => ?_)
      · replace h := run_t c3 h
        simp -failIfUnchanged only [↓RA, RB, RS, fx118, a2_cz, p1, p2, p3, p4, reduceIte, p5, p6, p7, p8, c1, c2, c3]
        have h := run_some h
        refine RdH.mk ⟨_, h, ?_⟩
        refine St.le_mk2 ?_
        simp -failIfUnchanged only [↓RA, RB, RS, fx118, a2_cz, p1, p2, p3, p4, reduceIte, p5, p6, p7, p8, c1, c2, c3, w4]
      · replace h := run_f c3 h
        simp -failIfUnchanged only [↓RA, RB, RS, fx118, a2_cz, p1, p2, p3, p4, reduceIte, p5, p6, p7, p8, c1, c2, c3]
        have h := run_some h
        obtain rfl : _ = r := h
        refine FinH.l ?_
        simp -failIfUnchanged only [↓RA, RB, RS, fx118, a2_cz, p1, p2, p3, p4, reduceIte, p5, p6, p7, p8, c1, c2, c3]
    · simp -failIfUnchanged only [↓RA, RB, RS, fx118, a2_cz, p1, p2, p3, p4, reduceIte, p5, p6, p7, p8, c1]
      refine CondH.ff (decide_eq_false (by omega)) (fun c4 => ?_)
      simp -failIfUnchanged only [↓RA, RB, RS, fx118, a2_cz, p1, p2, p3, p4, reduceIte, p5, p6, p7, p8, c1, c4]
      have h := run_some h
      obtain rfl : _ = r := h
      refine FinH.l ?_
      simp -failIfUnchanged only [↓RA, RB, RS, fx118, a2_cz, p1, p2, p3, p4, reduceIte, p5, p6, p7, p8, c1, c4]
  · replace h := run_f c1 h
    simp -failIfUnchanged only [↓RA, RB, RS, fx118, a2_cz, p1, p2, p3, p4, reduceIte, p5, p6, p7, p8, c1]
    have h := run_some h
    obtain rfl : _ = r := h
    refine FinH.l ?_
    simp -failIfUnchanged only [↓RA, RB, RS, fx118, a2_cz, p1, p2, p3, p4, reduceIte, p5, p6, p7, p8, c1]

def fx102 := And.intro @ty_9 <| And.intro @zc_9 <| And.intro @z_9 <| And.intro @u_9 <| And.intro @ty_32 <| And.intro @zc_32 <| And.intro @z_32 <| And.intro @es_32 <| And.intro @eb_32 <| And.intro @sl_32 <| And.intro @is_32 <| And.intro @el_32 <| And.intro @ze_32 <| And.intro @ez_32 <| And.intro @ty_34 <| And.intro @zc_34 <| And.intro @z_34 <| And.intro @fo_34_0 <| And.intro @fi_34_0 <| And.intro @ft_34_0 <| And.intro @fo_34_1 <| And.intro @fi_34_1 <| And.intro @ft_34_1 <| And.intro @lay_34 <| And.intro @ty_64 <| And.intro @zc_64 <| @z_64
set_option maxHeartbeats 4000000 in
theorem impl_EqualTermsN_sat (n : Nat) : (∀ (a0 : Term) (a1 : Term) (r : Bool), impl_EqualTermsN n a0 a1 = some r → Sat Tryz.prog 102 [((Term.pv false) a0), ((Term.pv false) a1)] (B r)) := by
  induction n with
  | zero => exact fun _ _ _ h => by simp [impl_EqualTermsN] at h
  | succ n ih =>
    refine fun a0 a1 r h => ?_
    replace h := Run.of h
    rw [impl_EqualTermsN] at h
    refine Sat.of_m (nt := 17) (rs := [.tmp 4]) (n := 100000) Tryz.func102 rfl rfl rfl rfl (by simp) ?_
    simp -failIfUnchanged only [↓RA, RB, RS, fx102, p1, p2, p3, p4, reduceIte, p5, p6, p7, p8]
    repeat (first | with_reducible refine noR_and (by repeat (first | exact noR_empty _ _ | exact noR_nilS _ _ | refine noR_mk _ _ _ _ _ rfl ?_ | refine noR_mkS _ _ _ _ _ rfl ?_)) ?_ | with_reducible refine noC_and (by repeat (first | exact noC_empty _ _ (by simp -failIfUnchanged only [↓RA, RB, RS, fx102, p1, p2, p3, p4, reduceIte, p5, p6, p7, p8]) | exact noC_nilS _ _ (by simp -failIfUnchanged only [↓RA, RB, RS, fx102, p1, p2, p3, p4, reduceIte, p5, p6, p7, p8]) | refine noC_mk _ _ _ _ _ rfl ?_ | refine noC_mkS _ _ _ _ _ rfl ?_)) ?_ | with_reducible refine and_ac ?_ | with_reducible refine And.intro (a := _ = List.range _) (by rfl) ?_)
    refine CondH.mk (fun c1 => ?_) (fun c1 => ?_)
    · replace h := run_t c1 h
      simp -failIfUnchanged only [↓RA, RB, RS, fx102, p1, p2, p3, p4, reduceIte, p5, p6, p7, p8, c1]
      obtain ⟨v15, hv15, h⟩ := run_bind h
      refine CallH.mk [false, false, false] (slices_EqualFunc_Simpl_Term_Simpl_Term_impl_Term_impl_Term_sat (fun _ _ _ hh => ih _ _ _ hh) (by simp only [CapsOk_nil, CapsOk_cons]) hv15) ?_ ?_ <;> simp -failIfUnchanged only [↓RA, RB, RS, fx102, p1, p2, p3, p4, reduceIte, p5, p6, p7, p8, c1]
      have h := run_some h
      obtain rfl : _ = r := h
      refine FinH.l ?_
      simp -failIfUnchanged only [↓RA, RB, RS, fx102, p1, p2, p3, p4, reduceIte, p5, p6, p7, p8, c1]
    · replace h := run_f c1 h
      simp -failIfUnchanged only [↓RA, RB, RS, fx102, p1, p2, p3, p4, reduceIte, p5, p6, p7, p8, c1]
      have h := run_some h
      obtain rfl : _ = r := h
      refine FinH.l ?_
      simp -failIfUnchanged only [↓RA, RB, RS, fx102, p1, p2, p3, p4, reduceIte, p5, p6, p7, p8, c1]
theorem impl_EqualTerms_sat {a0 : Term} {a1 : Term} {r : Bool} (h : impl_EqualTerms a0 a1 = some r) : Sat Tryz.prog 102 [((Term.pv false) a0), ((Term.pv false) a1)] (B r) := by
  obtain ⟨n, hn⟩ := lim_some h
  exact (impl_EqualTermsN_sat n) _ _ _ hn

def fx101 := And.intro @ty_34 <| And.intro @zc_34 <| And.intro @z_34 <| And.intro @fo_34_0 <| And.intro @fi_34_0 <| And.intro @ft_34_0 <| And.intro @fo_34_1 <| And.intro @fi_34_1 <| And.intro @ft_34_1 <| @lay_34
set_option maxHeartbeats 4000000 in
theorem impl_addAtom_1_sat {a0 : Term} {b0 : Term}  {r : Bool} (h : impl_addAtom_1 a0 b0 = some r) : Sat Tryz.prog 101 [((Term.pv false) a0), .ptr ((Term.pv false) b0)] (B r) := by
  replace h := Run.of h
  unfold impl_addAtom_1 at h
  refine Sat.of_m (nt := 7) (rs := [.tmp 3]) (n := 100000) Tryz.func101 rfl rfl rfl rfl (by simp) ?_
  simp -failIfUnchanged only [↓RA, RB, RS, fx101, p1, p2, p3, p4, reduceIte, p5, p6, p7, p8]
  repeat (first | with_reducible refine noR_and (by repeat (first | exact noR_empty _ _ | exact noR_nilS _ _ | refine noR_mk _ _ _ _ _ rfl ?_ | refine noR_mkS _ _ _ _ _ rfl ?_)) ?_ | with_reducible refine noC_and (by repeat (first | exact noC_empty _ _ (by simp -failIfUnchanged only [↓RA, RB, RS, fx101, p1, p2, p3, p4, reduceIte, p5, p6, p7, p8]) | exact noC_nilS _ _ (by simp -failIfUnchanged only [↓RA, RB, RS, fx101, p1, p2, p3, p4, reduceIte, p5, p6, p7, p8]) | refine noC_mk _ _ _ _ _ rfl ?_ | refine noC_mkS _ _ _ _ _ rfl ?_)) ?_ | with_reducible refine and_ac ?_ | with_reducible refine And.intro (a := _ = List.range _) (by rfl) ?_)
  obtain ⟨v6, hv6, h⟩ := run_bind h
  refine CallH.mk [false, false] (impl_EqualTerms_sat hv6) ?_ ?_ <;> simp -failIfUnchanged only [↓RA, RB, RS, fx101, p1, p2, p3, p4, reduceIte, p5, p6, p7, p8]
  have h := run_some h
  obtain rfl : _ = r := h
  refine FinH.l ?_
  simp -failIfUnchanged only [↓RA, RB, RS, fx101, p1, p2, p3, p4, reduceIte, p5, p6, p7, p8]

def fx103 := And.intro @ty_9 <| And.intro @zc_9 <| And.intro @z_9 <| And.intro @u_9 <| And.intro @ty_32 <| And.intro @zc_32 <| And.intro @z_32 <| And.intro @es_32 <| And.intro @eb_32 <| And.intro @sl_32 <| And.intro @is_32 <| And.intro @el_32 <| And.intro @ze_32 <| And.intro @ez_32 <| And.intro @ty_34 <| And.intro @zc_34 <| And.intro @z_34 <| And.intro @fo_34_0 <| And.intro @fi_34_0 <| And.intro @ft_34_0 <| And.intro @fo_34_1 <| And.intro @fi_34_1 <| And.intro @ft_34_1 <| And.intro @lay_34 <| @mixedT
def fx119 := And.intro @ty_3 <| And.intro @zc_3 <| And.intro @z_3 <| And.intro @ty_32 <| And.intro @zc_32 <| And.intro @z_32 <| And.intro @es_32 <| And.intro @eb_32 <| And.intro @sl_32 <| And.intro @is_32 <| And.intro @el_32 <| And.intro @ze_32 <| And.intro @ez_32 <| And.intro @ty_34 <| And.intro @zc_34 <| And.intro @z_34 <| And.intro @fo_34_0 <| And.intro @fi_34_0 <| And.intro @ft_34_0 <| And.intro @fo_34_1 <| And.intro @fi_34_1 <| And.intro @ft_34_1 <| @lay_34
set_option maxHeartbeats 4000000 in
theorem impl_copyTermN_sat (n : Nat) : (∀ (a0 : Term) (r : Term), impl_copyTermN n a0 = some r → Sat Tryz.prog 103 [((Term.pv false) a0)] ((Term.pv true) r)) ∧ (∀ (a0 : List Term) (r : List Term), impl_copyTermsN n a0 = some r → Sat Tryz.prog 119 [(.sl false 2 (a0.map (Term.pv false)))] (.sl true 2 (r.map (Term.pv true)))) := by
  induction n with
  | zero => exact ⟨fun _ _ h => by simp [impl_copyTermN] at h, fun _ _ h => by simp [impl_copyTermsN] at h⟩
  | succ n ih =>
    refine ⟨fun a0 r h => ?_, fun a0 r h => ?_⟩
    · replace h := Run.of h
      rw [impl_copyTermN] at h
      refine Sat.of_m (nt := 9) (rs := [.cell 2 34]) (n := 100000) Tryz.func103 rfl rfl rfl rfl (by simp) ?_
      simp -failIfUnchanged only [↓RA, RB, RS, fx103, p1, p2, p3, p4, reduceIte, p5, p6, p7, p8]
      repeat (first | with_reducible refine noR_and (by repeat (first | exact noR_empty _ _ | exact noR_nilS _ _ | refine noR_mk _ _ _ _ _ rfl ?_ | refine noR_mkS _ _ _ _ _ rfl ?_)) ?_ | with_reducible refine noC_and (by repeat (first | exact noC_empty _ _ (by simp -failIfUnchanged only [↓RA, RB, RS, fx103, p1, p2, p3, p4, reduceIte, p5, p6, p7, p8]) | exact noC_nilS _ _ (by simp -failIfUnchanged only [↓RA, RB, RS, fx103, p1, p2, p3, p4, reduceIte, p5, p6, p7, p8]) | refine noC_mk _ _ _ _ _ rfl ?_ | refine noC_mkS _ _ _ _ _ rfl ?_)) ?_ | with_reducible refine and_ac ?_ | with_reducible refine And.intro (a := _ = List.range _) (by rfl) ?_)
      obtain ⟨v7, hv7, h⟩ := run_bind h
      refine CallH.mk [false] (ih.2 _ _ hv7) ?_ ?_ <;> simp -failIfUnchanged only [↓RA, RB, RS, fx103, p1, p2, p3, p4, reduceIte, p5, p6, p7, p8]
      repeat (first | with_reducible refine noR_and (by repeat (first | exact noR_empty _ _ | exact noR_nilS _ _ | refine noR_mk _ _ _ _ _ rfl ?_ | refine noR_mkS _ _ _ _ _ rfl ?_)) ?_ | with_reducible refine noC_and (by repeat (first | exact noC_empty _ _ (by simp -failIfUnchanged only [↓RA, RB, RS, fx103, p1, p2, p3, p4, reduceIte, p5, p6, p7, p8]) | exact noC_nilS _ _ (by simp -failIfUnchanged only [↓RA, RB, RS, fx103, p1, p2, p3, p4, reduceIte, p5, p6, p7, p8]) | refine noC_mk _ _ _ _ _ rfl ?_ | refine noC_mkS _ _ _ _ _ rfl ?_)) ?_ | with_reducible refine and_ac ?_ | with_reducible refine And.intro (a := _ = List.range _) (by rfl) ?_)
      refine And.intro (DrawH.mk [] [112] (by rfl) (by first | rfl | (simp -failIfUnchanged only [↓RA, RB, RS, fx103, p1, p2, p3, p4, reduceIte, p5, p6, p7, p8] <;> rfl)) (by first | rfl | (simp -failIfUnchanged only [↓RA, RB, RS, fx103, p1, p2, p3, p4, reduceIte, p5, p6, p7, p8] <;> rfl)) (by first | rfl | (simp -failIfUnchanged only [↓RA, RB, RS, fx103, p1, p2, p3, p4, reduceIte, p5, p6, p7, p8] <;> rfl)) (by simp) (by simp -failIfUnchanged only [↓RA, RB, RS, fx103, p1, p2, p3, p4, reduceIte, p5, p6, p7, p8]; repeat (first | exact noC_empty _ _ (by simp -failIfUnchanged only [↓RA, RB, RS, fx103, p1, p2, p3, p4, reduceIte, p5, p6, p7, p8]) | exact noC_nilS _ _ (by simp -failIfUnchanged only [↓RA, RB, RS, fx103, p1, p2, p3, p4, reduceIte, p5, p6, p7, p8]) | refine noC_mk _ _ _ _ _ rfl ?_ | refine noC_mkS _ _ _ _ _ rfl ?_ | refine And.intro ?_ ?_))) ?_
      simp -failIfUnchanged only [↓RA, RB, RS, fx103, p1, p2, p3, p4, reduceIte, p5, p6, p7, p8]
      have h := run_some h
      obtain rfl : _ = r := h
      refine FinH.l ?_
      simp -failIfUnchanged only [↓RA, RB, RS, fx103, p1, p2, p3, p4, reduceIte, p5, p6, p7, p8]
    · replace h := Run.of h
      rw [impl_copyTermsN] at h
      refine Sat.of_m (nt := 26) (rs := [.tmp 2]) (n := 100000) Tryz.func119 rfl rfl rfl rfl (by simp) ?_
      simp -failIfUnchanged only [↓RA, RB, RS, fx119, p1, p2, p3, p4, reduceIte, p5, p6, p7, p8]
      refine CondH.mk (fun c1 => ?_) (fun c1 => ?_)
      · replace h := run_t c1 h
        simp -failIfUnchanged only [↓RA, RB, RS, fx119, p1, p2, p3, p4, reduceIte, p5, p6, p7, p8, c1]
        have h := run_some h
        obtain rfl : _ = r := h
        refine FinH.l ?_
        simp -failIfUnchanged only [↓RA, RB, RS, fx119, p1, p2, p3, p4, reduceIte, p5, p6, p7, p8, c1]
      · replace h := run_f c1 h
        simp -failIfUnchanged only [↓RA, RB, RS, fx119, p1, p2, p3, p4, reduceIte, p5, p6, p7, p8, c1]
        obtain ⟨n11, hn11, h⟩ := run_bind h
        refine MknH.mk hn11 ?_
        simp -failIfUnchanged only [↓RA, RB, RS, fx119, p1, p2, p3, p4, reduceIte, p5, p6, p7, p8, c1]
        repeat (first | with_reducible refine noR_and (by repeat (first | exact noR_empty _ _ | exact noR_nilS _ _ | refine noR_mk _ _ _ _ _ rfl ?_ | refine noR_mkS _ _ _ _ _ rfl ?_)) ?_ | with_reducible refine noC_and (by repeat (first | exact noC_empty _ _ (by simp -failIfUnchanged only [↓RA, RB, RS, fx119, p1, p2, p3, p4, reduceIte, p5, p6, p7, p8]) | exact noC_nilS _ _ (by simp -failIfUnchanged only [↓RA, RB, RS, fx119, p1, p2, p3, p4, reduceIte, p5, p6, p7, p8]) | refine noC_mk _ _ _ _ _ rfl ?_ | refine noC_mkS _ _ _ _ _ rfl ?_)) ?_ | with_reducible refine and_ac ?_ | with_reducible refine And.intro (a := _ = List.range _) (by rfl) ?_)
        refine Mg.know_sl (b := false) (sz := 2) (es := a0.map (Term.pv false)) 0 (by simp -failIfUnchanged only [↓RA, RB, RS, fx119, p1, p2, p3, p4, reduceIte, p5, p6, p7, p8, c1]) fun hl0 => ?_; rw [List.length_map] at hl0
        replace h := run_loop h
        refine Mg.forN h (fun i5 s5 => [(3, .val (.own 176)), (12, .val (.pv (.sl false 2 (a0.map (Term.pv false))))), (13, .val (.pv (I (a0.length : Int)))), (14, .val (.pv (I (i5 : Int))))]) (fun i5 s5 => [(176, (2, s5.map (Term.pv true)))]) (St.le_mk2 (by simp -failIfUnchanged only [↓RA, RB, RS, fx119, p1, p2, p3, p4, reduceIte, p5, p6, p7, p8, c1])) (fun i5 s5 hi h => ?_) (fun s5 h => ?_)
        · have w5 := wrap_succ (i := i5) (by omega)
          simp -failIfUnchanged only [↓RA, RB, RS, fx119, p1, p2, p3, p4, reduceIte, p5, p6, p7, p8, c1]
          refine CondH.tt (decide_eq_true (by omega)) (fun c2 => ?_)
          simp -failIfUnchanged only [↓RA, RB, RS, fx119, p1, p2, p3, p4, reduceIte, p5, p6, p7, p8, c1, c2]
          obtain ⟨v17, hv17, h⟩ := run_bind h
          refine IdxH.mk (f := (Term.pv false)) hv17 ?_ ?_ <;> simp -failIfUnchanged only [↓RA, RB, RS, fx119, p1, p2, p3, p4, reduceIte, p5, p6, p7, p8, c1, c2]
          repeat (first | with_reducible refine noR_and (by repeat (first | exact noR_empty _ _ | exact noR_nilS _ _ | refine noR_mk _ _ _ _ _ rfl ?_ | refine noR_mkS _ _ _ _ _ rfl ?_)) ?_ | with_reducible refine noC_and (by repeat (first | exact noC_empty _ _ (by simp -failIfUnchanged only [↓RA, RB, RS, fx119, p1, p2, p3, p4, reduceIte, p5, p6, p7, p8]) | exact noC_nilS _ _ (by simp -failIfUnchanged only [↓RA, RB, RS, fx119, p1, p2, p3, p4, reduceIte, p5, p6, p7, p8]) | refine noC_mk _ _ _ _ _ rfl ?_ | refine noC_mkS _ _ _ _ _ rfl ?_)) ?_ | with_reducible refine and_ac ?_ | with_reducible refine And.intro (a := _ = List.range _) (by rfl) ?_)
          obtain ⟨v22, hv22, h⟩ := run_bind h
          refine CallH.mk [false] (ih.1 _ _ hv22) ?_ ?_ <;> simp -failIfUnchanged only [↓RA, RB, RS, fx119, p1, p2, p3, p4, reduceIte, p5, p6, p7, p8, c1, c2]
          repeat (first | with_reducible refine noR_and (by repeat (first | exact noR_empty _ _ | exact noR_nilS _ _ | refine noR_mk _ _ _ _ _ rfl ?_ | refine noR_mkS _ _ _ _ _ rfl ?_)) ?_ | with_reducible refine noC_and (by repeat (first | exact noC_empty _ _ (by simp -failIfUnchanged only [↓RA, RB, RS, fx119, p1, p2, p3, p4, reduceIte, p5, p6, p7, p8]) | exact noC_nilS _ _ (by simp -failIfUnchanged only [↓RA, RB, RS, fx119, p1, p2, p3, p4, reduceIte, p5, p6, p7, p8]) | refine noC_mk _ _ _ _ _ rfl ?_ | refine noC_mkS _ _ _ _ _ rfl ?_)) ?_ | with_reducible refine and_ac ?_ | with_reducible refine And.intro (a := _ = List.range _) (by rfl) ?_)
          obtain ⟨v23, hv23, h⟩ := run_bind h
          refine IdxH.mk (f := (Term.pv true)) hv23 ?_ ?_ <;> simp -failIfUnchanged only [↓RA, RB, RS, fx119, p1, p2, p3, p4, reduceIte, p5, p6, p7, p8, c1, c2]
          obtain ⟨w3, hw3, h⟩ := run_bind h
          refine EldH.mk (f := (Term.pv true)) hw3 rfl ?_ ?_ <;> simp -failIfUnchanged only [↓RA, RB, RS, fx119, p1, p2, p3, p4, reduceIte, p5, p6, p7, p8, c1, c2]
          have h := run_some h
          refine RdH.mk ⟨_, h, ?_⟩
          refine St.le_mk2 ?_
          simp -failIfUnchanged only [↓RA, RB, RS, fx119, p1, p2, p3, p4, reduceIte, p5, p6, p7, p8, c1, c2, w5]
        · simp -failIfUnchanged only [↓RA, RB, RS, fx119, p1, p2, p3, p4, reduceIte, p5, p6, p7, p8, c1]
          refine CondH.ff (decide_eq_false (by omega)) (fun c4 => ?_)
          simp -failIfUnchanged only [↓RA, RB, RS, fx119, p1, p2, p3, p4, reduceIte, p5, p6, p7, p8, c1, c4]
          have h := run_some h
          obtain rfl : _ = r := h
          refine FinH.l ?_
          simp -failIfUnchanged only [↓RA, RB, RS, fx119, p1, p2, p3, p4, reduceIte, p5, p6, p7, p8, c1, c4]
theorem impl_copyTerm_sat {a0 : Term} {r : Term} (h : impl_copyTerm a0 = some r) : Sat Tryz.prog 103 [((Term.pv false) a0)] ((Term.pv true) r) := by
  obtain ⟨n, hn⟩ := lim_some h
  exact (impl_copyTermN_sat n).1 _ _ hn
theorem impl_copyTerms_sat {a0 : List Term} {r : List Term} (h : impl_copyTerms a0 = some r) : Sat Tryz.prog 119 [(.sl false 2 (a0.map (Term.pv false)))] (.sl true 2 (r.map (Term.pv true))) := by
  obtain ⟨n, hn⟩ := lim_some h
  exact (impl_copyTermN_sat n).2 _ _ hn

def fx85 := And.intro @ty_32 <| And.intro @zc_32 <| And.intro @z_32 <| And.intro @es_32 <| And.intro @eb_32 <| And.intro @sl_32 <| And.intro @is_32 <| And.intro @el_32 <| And.intro @ze_32 <| And.intro @ez_32 <| And.intro @ty_34 <| And.intro @zc_34 <| And.intro @z_34 <| And.intro @fo_34_0 <| And.intro @fi_34_0 <| And.intro @ft_34_0 <| And.intro @fo_34_1 <| And.intro @fi_34_1 <| And.intro @ft_34_1 <| And.intro @lay_34 <| And.intro @ty_101 <| And.intro @zc_101 <| @z_101
set_option maxHeartbeats 4000000 in
theorem impl_addAtom_sat {a0 : List Term} {a1 : Term}  {r : List Term} (h : impl_addAtom a0 a1 = some r) : Sat Tryz.prog 85 [(.sl true 2 (a0.map (Term.pv true))), ((Term.pv false) a1)] (.sl true 2 (r.map (Term.pv true))) := by
  replace h := Run.of h
  unfold impl_addAtom at h
  refine Sat.of_m (nt := 14) (rs := [.tmp 4]) (n := 100000) Tryz.func85 rfl rfl rfl rfl (by simp) ?_
  simp -failIfUnchanged only [↓RA, RB, RS, fx85, p1, p2, p3, p4, reduceIte, p5, p6, p7, p8]
  repeat (first | with_reducible refine noR_and (by repeat (first | exact noR_empty _ _ | exact noR_nilS _ _ | refine noR_mk _ _ _ _ _ rfl ?_ | refine noR_mkS _ _ _ _ _ rfl ?_)) ?_ | with_reducible refine noC_and (by repeat (first | exact noC_empty _ _ (by simp -failIfUnchanged only [↓RA, RB, RS, fx85, p1, p2, p3, p4, reduceIte, p5, p6, p7, p8]) | exact noC_nilS _ _ (by simp -failIfUnchanged only [↓RA, RB, RS, fx85, p1, p2, p3, p4, reduceIte, p5, p6, p7, p8]) | refine noC_mk _ _ _ _ _ rfl ?_ | refine noC_mkS _ _ _ _ _ rfl ?_)) ?_ | with_reducible refine and_ac ?_ | with_reducible refine And.intro (a := _ = List.range _) (by rfl) ?_)
  obtain ⟨v7, hv7, h⟩ := run_bind h
  refine CallH.mk [false, false] (slices_ContainsFunc_Simpl_Term_impl_Term_sat (fun _ _ hh => impl_addAtom_1_sat hh) (by simp only [CapsOk_nil, CapsOk_cons]) hv7) ?_ ?_ <;> simp -failIfUnchanged only [↓RA, RB, RS, fx85, p1, p2, p3, p4, reduceIte, p5, p6, p7, p8]
  refine CondH.mk (fun c1 => ?_) (fun c1 => ?_)
  · replace h := run_t c1 h
    simp -failIfUnchanged only [↓RA, RB, RS, fx85, p1, p2, p3, p4, reduceIte, p5, p6, p7, p8, c1]
    have h := run_some h
    obtain rfl : _ = r := h
    refine FinH.l ?_
    simp -failIfUnchanged only [↓RA, RB, RS, fx85, p1, p2, p3, p4, reduceIte, p5, p6, p7, p8, c1]
  · replace h := run_f c1 h
    simp -failIfUnchanged only [↓RA, RB, RS, fx85, p1, p2, p3, p4, reduceIte, p5, p6, p7, p8, c1]
    obtain ⟨v11, hv11, h⟩ := run_bind h
    refine CallH.mk [false] (impl_copyTerm_sat hv11) ?_ ?_ <;> simp -failIfUnchanged only [↓RA, RB, RS, fx85, p1, p2, p3, p4, reduceIte, p5, p6, p7, p8, c1]
    repeat (first | with_reducible refine noR_and (by repeat (first | exact noR_empty _ _ | exact noR_nilS _ _ | refine noR_mk _ _ _ _ _ rfl ?_ | refine noR_mkS _ _ _ _ _ rfl ?_)) ?_ | with_reducible refine noC_and (by repeat (first | exact noC_empty _ _ (by simp -failIfUnchanged only [↓RA, RB, RS, fx85, p1, p2, p3, p4, reduceIte, p5, p6, p7, p8]) | exact noC_nilS _ _ (by simp -failIfUnchanged only [↓RA, RB, RS, fx85, p1, p2, p3, p4, reduceIte, p5, p6, p7, p8]) | refine noC_mk _ _ _ _ _ rfl ?_ | refine noC_mkS _ _ _ _ _ rfl ?_)) ?_ | with_reducible refine and_ac ?_ | with_reducible refine And.intro (a := _ = List.range _) (by rfl) ?_)
    obtain ⟨v13, hv13, h⟩ := run_bind h
    refine AppH.mk (f := (Term.pv true)) (fun a => Term.psize _ a) hv13 ?_ ?_ ?_ <;> simp -failIfUnchanged only [↓RA, RB, RS, fx85, p1, p2, p3, p4, reduceIte, p5, p6, p7, p8, c1]
    repeat (first | with_reducible refine noR_and (by repeat (first | exact noR_empty _ _ | exact noR_nilS _ _ | refine noR_mk _ _ _ _ _ rfl ?_ | refine noR_mkS _ _ _ _ _ rfl ?_)) ?_ | with_reducible refine noC_and (by repeat (first | exact noC_empty _ _ (by simp -failIfUnchanged only [↓RA, RB, RS, fx85, p1, p2, p3, p4, reduceIte, p5, p6, p7, p8]) | exact noC_nilS _ _ (by simp -failIfUnchanged only [↓RA, RB, RS, fx85, p1, p2, p3, p4, reduceIte, p5, p6, p7, p8]) | refine noC_mk _ _ _ _ _ rfl ?_ | refine noC_mkS _ _ _ _ _ rfl ?_)) ?_ | with_reducible refine and_ac ?_ | with_reducible refine And.intro (a := _ = List.range _) (by rfl) ?_)
    have h := run_some h
    obtain rfl : _ = r := h
    refine FinH.l ?_
    simp -failIfUnchanged only [↓RA, RB, RS, fx85, p1, p2, p3, p4, reduceIte, p5, p6, p7, p8, c1]

def fx65 := And.intro @ty_3 <| And.intro @zc_3 <| And.intro @z_3 <| And.intro @ty_32 <| And.intro @zc_32 <| And.intro @z_32 <| And.intro @es_32 <| And.intro @eb_32 <| And.intro @sl_32 <| And.intro @is_32 <| And.intro @el_32 <| And.intro @ze_32 <| And.intro @ez_32 <| And.intro @ty_34 <| And.intro @zc_34 <| And.intro @z_34 <| And.intro @fo_34_0 <| And.intro @fi_34_0 <| And.intro @ft_34_0 <| And.intro @fo_34_1 <| And.intro @fi_34_1 <| And.intro @ft_34_1 <| And.intro @lay_34 <| And.intro @ty_37 <| And.intro @zc_37 <| And.intro @z_37 <| And.intro @fo_37_0 <| And.intro @fi_37_0 <| And.intro @ft_37_0 <| And.intro @fo_37_1 <| And.intro @fi_37_1 <| And.intro @ft_37_1 <| And.intro @fo_37_2 <| And.intro @fi_37_2 <| And.intro @ft_37_2 <| And.intro @fo_37_3 <| And.intro @fi_37_3 <| And.intro @ft_37_3 <| @lay_37
set_option maxHeartbeats 4000000 in
theorem impl_differentAtoms_sat {a0 : Formula}  {r : List Term} (h : impl_differentAtoms a0 = some r) : Sat Tryz.prog 65 [((Formula.pv false) a0)] (.sl true 2 (r.map (Term.pv true))) := by
  replace h := Run.of h
  unfold impl_differentAtoms at h
  refine Sat.of_m (nt := 19) (rs := [.tmp 2]) (n := 100000) Tryz.func65 rfl rfl rfl rfl (by simp) ?_
  simp -failIfUnchanged only [↓RA, RB, RS, fx65, p1, p2, p3, p4, reduceIte, p5, p6, p7, p8]
  repeat (first | with_reducible refine noR_and (by repeat (first | exact noR_empty _ _ | exact noR_nilS _ _ | refine noR_mk _ _ _ _ _ rfl ?_ | refine noR_mkS _ _ _ _ _ rfl ?_)) ?_ | with_reducible refine noC_and (by repeat (first | exact noC_empty _ _ (by simp -failIfUnchanged only [↓RA, RB, RS, fx65, p1, p2, p3, p4, reduceIte, p5, p6, p7, p8]) | exact noC_nilS _ _ (by simp -failIfUnchanged only [↓RA, RB, RS, fx65, p1, p2, p3, p4, reduceIte, p5, p6, p7, p8]) | refine noC_mk _ _ _ _ _ rfl ?_ | refine noC_mkS _ _ _ _ _ rfl ?_)) ?_ | with_reducible refine and_ac ?_ | with_reducible refine And.intro (a := _ = List.range _) (by rfl) ?_)
  obtain ⟨v8, hv8, h⟩ := run_bind h
  refine CallH.mk [false] (impl_atomsOf_sat hv8) ?_ ?_ <;> simp -failIfUnchanged only [↓RA, RB, RS, fx65, p1, p2, p3, p4, reduceIte, p5, p6, p7, p8]
  repeat (first | with_reducible refine noR_and (by repeat (first | exact noR_empty _ _ | exact noR_nilS _ _ | refine noR_mk _ _ _ _ _ rfl ?_ | refine noR_mkS _ _ _ _ _ rfl ?_)) ?_ | with_reducible refine noC_and (by repeat (first | exact noC_empty _ _ (by simp -failIfUnchanged only [↓RA, RB, RS, fx65, p1, p2, p3, p4, reduceIte, p5, p6, p7, p8]) | exact noC_nilS _ _ (by simp -failIfUnchanged only [↓RA, RB, RS, fx65, p1, p2, p3, p4, reduceIte, p5, p6, p7, p8]) | refine noC_mk _ _ _ _ _ rfl ?_ | refine noC_mkS _ _ _ _ _ rfl ?_)) ?_ | with_reducible refine and_ac ?_ | with_reducible refine And.intro (a := _ = List.range _) (by rfl) ?_)
  refine Mg.know_own (sz := 2) (es := v8.map (Term.pv false)) 128 (by simp -failIfUnchanged only [↓RA, RB, RS, fx65, p1, p2, p3, p4, reduceIte, p5, p6, p7, p8]) fun hl128 => ?_; rw [List.length_map] at hl128
  replace h := run_loop h
  refine Mg.forN h (fun i3 s3 => [(3, .val (.own 96)), (8, .val (.own 128)), (9, .val (.pv (I (v8.length : Int)))), (10, .val (.pv (I (i3 : Int))))]) (fun i3 s3 => [(96, (2, s3.map (Term.pv true))), (128, (2, v8.map (Term.pv false)))]) (St.le_mk2 (by simp -failIfUnchanged only [↓RA, RB, RS, fx65, p1, p2, p3, p4, reduceIte, p5, p6, p7, p8])) (fun i3 s3 hi h => ?_) (fun s3 h => ?_)
  · have w3 := wrap_succ (i := i3) (by omega)
    simp -failIfUnchanged only [↓RA, RB, RS, fx65, p1, p2, p3, p4, reduceIte, p5, p6, p7, p8]
    refine CondH.tt (decide_eq_true (by omega)) (fun c1 => ?_)
    simp -failIfUnchanged only [↓RA, RB, RS, fx65, p1, p2, p3, p4, reduceIte, p5, p6, p7, p8, c1]
    obtain ⟨v12, hv12, h⟩ := run_bind h
    refine IdxH.mk (f := (Term.pv false)) hv12 ?_ ?_ <;> simp -failIfUnchanged only [↓RA, RB, RS, fx65, p1, p2, p3, p4, reduceIte, p5, p6, p7, p8, c1]
    obtain ⟨v13, hv13, h⟩ := run_bind h
    refine EldH.mk (f := (Term.pv false)) hv13 rfl ?_ ?_ <;> simp -failIfUnchanged only [↓RA, RB, RS, fx65, p1, p2, p3, p4, reduceIte, p5, p6, p7, p8, c1]
    repeat (first | with_reducible refine noR_and (by repeat (first | exact noR_empty _ _ | exact noR_nilS _ _ | refine noR_mk _ _ _ _ _ rfl ?_ | refine noR_mkS _ _ _ _ _ rfl ?_)) ?_ | with_reducible refine noC_and (by repeat (first | exact noC_empty _ _ (by simp -failIfUnchanged only [↓RA, RB, RS, fx65, p1, p2, p3, p4, reduceIte, p5, p6, p7, p8]) | exact noC_nilS _ _ (by simp -failIfUnchanged only [↓RA, RB, RS, fx65, p1, p2, p3, p4, reduceIte, p5, p6, p7, p8]) | refine noC_mk _ _ _ _ _ rfl ?_ | refine noC_mkS _ _ _ _ _ rfl ?_)) ?_ | with_reducible refine and_ac ?_ | with_reducible refine And.intro (a := _ = List.range _) (by rfl) ?_)
    obtain ⟨v16, hv16, h⟩ := run_bind h
    refine CallH.mk [true, false] (impl_addAtom_sat hv16) ?_ ?_ <;> simp -failIfUnchanged only [↓RA, RB, RS, fx65, p1, p2, p3, p4, reduceIte, p5, p6, p7, p8, c1]
    repeat (first | with_reducible refine noR_and (by repeat (first | exact noR_empty _ _ | exact noR_nilS _ _ | refine noR_mk _ _ _ _ _ rfl ?_ | refine noR_mkS _ _ _ _ _ rfl ?_)) ?_ | with_reducible refine noC_and (by repeat (first | exact noC_empty _ _ (by simp -failIfUnchanged only [↓RA, RB, RS, fx65, p1, p2, p3, p4, reduceIte, p5, p6, p7, p8]) | exact noC_nilS _ _ (by simp -failIfUnchanged only [↓RA, RB, RS, fx65, p1, p2, p3, p4, reduceIte, p5, p6, p7, p8]) | refine noC_mk _ _ _ _ _ rfl ?_ | refine noC_mkS _ _ _ _ _ rfl ?_)) ?_ | with_reducible refine and_ac ?_ | with_reducible refine And.intro (a := _ = List.range _) (by rfl) ?_)
    have h := run_some h
    refine RdH.mk ⟨_, h, ?_⟩
    refine St.le_trans (St.le_mk (S := [(3, .val (.own 256)), (8, .val (.own 128)), (9, .val (.pv (I (v8.length : Int)))), (10, .val (.pv (I (IntKind.i64.wrap ((i3 : Int) + (1 : Int))))))]) (O := [(256, (2, v16.map (Term.pv true))), (128, (2, v8.map (Term.pv false)))]) (by simp -failIfUnchanged only [↓RA, RB, RS, fx65, p1, p2, p3, p4, reduceIte, p5, p6, p7, p8, c1, w3]) (by simp -failIfUnchanged only [↓RA, RB, RS, fx65, p1, p2, p3, p4, reduceIte, p5, p6, p7, p8, c1, w3])) ?_
    refine St.le_rn 256 96 (by decide) (by repeat (first | exact noC_empty _ _ (by simp -failIfUnchanged only [↓RA, RB, RS, fx65, p1, p2, p3, p4, reduceIte, p5, p6, p7, p8]) | exact noC_nilS _ _ (by simp -failIfUnchanged only [↓RA, RB, RS, fx65, p1, p2, p3, p4, reduceIte, p5, p6, p7, p8]) | refine noC_mk _ _ _ _ _ rfl ?_ | refine noC_mkS _ _ _ _ _ rfl ?_)) ?_
    refine St.le_mk2 ?_
    simp -failIfUnchanged only [↓RA, RB, RS, fx65, p1, p2, p3, p4, reduceIte, p5, p6, p7, p8, c1, w3]
  · simp -failIfUnchanged only [↓RA, RB, RS, fx65, p1, p2, p3, p4, reduceIte, p5, p6, p7, p8]
    refine CondH.ff (decide_eq_false (by omega)) (fun c2 => ?_)
    simp -failIfUnchanged only [↓RA, RB, RS, fx65, p1, p2, p3, p4, reduceIte, p5, p6, p7, p8, c2]
    have h := run_some h
    obtain rfl : _ = r := h
    refine FinH.l ?_
    simp -failIfUnchanged only [↓RA, RB, RS, fx65, p1, p2, p3, p4, reduceIte, p5, p6, p7, p8, c2]

set_option maxHeartbeats 4000000 in
theorem impl_flag_sat {a0 : Bool}  {r : Int} (h : impl_flag a0 = some r) : Sat Tryz.prog 66 [(B a0)] (I r) := by
  replace h := Run.of h
  unfold impl_flag at h
  refine Sat.of_m (nt := 4) (rs := [.tmp 2]) (n := 100000) Tryz.func66 rfl rfl rfl rfl (by simp) ?_
  simp -failIfUnchanged only [↓RA, RB, RS, p1, p2, p3, p4, reduceIte, p5, p6, p7, p8]
  refine CondH.mk (fun c1 => ?_) (fun c1 => ?_)
  · replace h := run_t c1 h
    simp -failIfUnchanged only [↓RA, RB, RS, p1, p2, p3, p4, reduceIte, p5, p6, p7, p8, c1]
    have h := run_some h
    obtain rfl : _ = r := h
    refine FinH.l ?_
    simp -failIfUnchanged only [↓RA, RB, RS, p1, p2, p3, p4, reduceIte, p5, p6, p7, p8, c1]
  · replace h := run_f c1 h
    simp -failIfUnchanged only [↓RA, RB, RS, p1, p2, p3, p4, reduceIte, p5, p6, p7, p8, c1]
    have h := run_some h
    obtain rfl : _ = r := h
    refine FinH.l ?_
    simp -failIfUnchanged only [↓RA, RB, RS, p1, p2, p3, p4, reduceIte, p5, p6, p7, p8, c1]

def fx105 := And.intro @ty_34 <| And.intro @zc_34 <| And.intro @z_34 <| And.intro @fo_34_0 <| And.intro @fi_34_0 <| And.intro @ft_34_0 <| And.intro @fo_34_1 <| And.intro @fi_34_1 <| And.intro @ft_34_1 <| @lay_34
set_option maxHeartbeats 4000000 in
theorem impl_indexOfAtom_1_sat {a0 : Term} {b0 : Term}  {r : Bool} (h : impl_indexOfAtom_1 a0 b0 = some r) : Sat Tryz.prog 105 [((Term.pv false) a0), .ptr ((Term.pv false) b0)] (B r) := by
  replace h := Run.of h
  unfold impl_indexOfAtom_1 at h
  refine Sat.of_m (nt := 7) (rs := [.tmp 3]) (n := 100000) Tryz.func105 rfl rfl rfl rfl (by simp) ?_
  simp -failIfUnchanged only [↓RA, RB, RS, fx105, p1, p2, p3, p4, reduceIte, p5, p6, p7, p8]
  repeat (first | with_reducible refine noR_and (by repeat (first | exact noR_empty _ _ | exact noR_nilS _ _ | refine noR_mk _ _ _ _ _ rfl ?_ | refine noR_mkS _ _ _ _ _ rfl ?_)) ?_ | with_reducible refine noC_and (by repeat (first | exact noC_empty _ _ (by simp -failIfUnchanged only [↓RA, RB, RS, fx105, p1, p2, p3, p4, reduceIte, p5, p6, p7, p8]) | exact noC_nilS _ _ (by simp -failIfUnchanged only [↓RA, RB, RS, fx105, p1, p2, p3, p4, reduceIte, p5, p6, p7, p8]) | refine noC_mk _ _ _ _ _ rfl ?_ | refine noC_mkS _ _ _ _ _ rfl ?_)) ?_ | with_reducible refine and_ac ?_ | with_reducible refine And.intro (a := _ = List.range _) (by rfl) ?_)
  obtain ⟨v6, hv6, h⟩ := run_bind h
  refine CallH.mk [false, false] (impl_EqualTerms_sat hv6) ?_ ?_ <;> simp -failIfUnchanged only [↓RA, RB, RS, fx105, p1, p2, p3, p4, reduceIte, p5, p6, p7, p8]
  have h := run_some h
  obtain rfl : _ = r := h
  refine FinH.l ?_
  simp -failIfUnchanged only [↓RA, RB, RS, fx105, p1, p2, p3, p4, reduceIte, p5, p6, p7, p8]

def fx86 := And.intro @ty_32 <| And.intro @zc_32 <| And.intro @z_32 <| And.intro @es_32 <| And.intro @eb_32 <| And.intro @sl_32 <| And.intro @is_32 <| And.intro @el_32 <| And.intro @ze_32 <| And.intro @ez_32 <| And.intro @ty_34 <| And.intro @zc_34 <| And.intro @z_34 <| And.intro @fo_34_0 <| And.intro @fi_34_0 <| And.intro @ft_34_0 <| And.intro @fo_34_1 <| And.intro @fi_34_1 <| And.intro @ft_34_1 <| And.intro @lay_34 <| And.intro @ty_101 <| And.intro @zc_101 <| @z_101
set_option maxHeartbeats 4000000 in
theorem impl_indexOfAtom_sat {a0 : List Term} {a1 : Term}  {r : Int} (h : impl_indexOfAtom a0 a1 = some r) : Sat Tryz.prog 86 [(.sl false 2 (a0.map (Term.pv false))), ((Term.pv false) a1)] (I r) := by
  replace h := Run.of h
  unfold impl_indexOfAtom at h
  refine Sat.of_m (nt := 8) (rs := [.tmp 4]) (n := 100000) Tryz.func86 rfl rfl rfl rfl (by simp) ?_
  simp -failIfUnchanged only [↓RA, RB, RS, fx86, p1, p2, p3, p4, reduceIte, p5, p6, p7, p8]
  repeat (first | with_reducible refine noR_and (by repeat (first | exact noR_empty _ _ | exact noR_nilS _ _ | refine noR_mk _ _ _ _ _ rfl ?_ | refine noR_mkS _ _ _ _ _ rfl ?_)) ?_ | with_reducible refine noC_and (by repeat (first | exact noC_empty _ _ (by simp -failIfUnchanged only [↓RA, RB, RS, fx86, p1, p2, p3, p4, reduceIte, p5, p6, p7, p8]) | exact noC_nilS _ _ (by simp -failIfUnchanged only [↓RA, RB, RS, fx86, p1, p2, p3, p4, reduceIte, p5, p6, p7, p8]) | refine noC_mk _ _ _ _ _ rfl ?_ | refine noC_mkS _ _ _ _ _ rfl ?_)) ?_ | with_reducible refine and_ac ?_ | with_reducible refine And.intro (a := _ = List.range _) (by rfl) ?_)
  obtain ⟨v7, hv7, h⟩ := run_bind h
  refine CallH.mk [false, false] (slices_IndexFunc_Simpl_Term_impl_Term_sat (fun _ _ hh => impl_indexOfAtom_1_sat hh) (by simp only [CapsOk_nil, CapsOk_cons]) hv7) ?_ ?_ <;> simp -failIfUnchanged only [↓RA, RB, RS, fx86, p1, p2, p3, p4, reduceIte, p5, p6, p7, p8]
  have h := run_some h
  obtain rfl : _ = r := h
  refine FinH.l ?_
  simp -failIfUnchanged only [↓RA, RB, RS, fx86, p1, p2, p3, p4, reduceIte, p5, p6, p7, p8]

def fx67 := And.intro @ty_3 <| And.intro @zc_3 <| And.intro @z_3 <| And.intro @ty_4 <| And.intro @zc_4 <| And.intro @z_4 <| And.intro @u_4 <| And.intro @ty_32 <| And.intro @zc_32 <| And.intro @z_32 <| And.intro @es_32 <| And.intro @eb_32 <| And.intro @sl_32 <| And.intro @is_32 <| And.intro @el_32 <| And.intro @ze_32 <| And.intro @ez_32 <| And.intro @ty_34 <| And.intro @zc_34 <| And.intro @z_34 <| And.intro @fo_34_0 <| And.intro @fi_34_0 <| And.intro @ft_34_0 <| And.intro @fo_34_1 <| And.intro @fi_34_1 <| And.intro @ft_34_1 <| And.intro @lay_34 <| And.intro @ty_35 <| And.intro @zc_35 <| And.intro @z_35 <| And.intro @es_35 <| And.intro @eb_35 <| And.intro @sl_35 <| And.intro @is_35 <| And.intro @el_35 <| And.intro @ze_35 <| And.intro @ez_35 <| And.intro @ty_37 <| And.intro @zc_37 <| And.intro @z_37 <| And.intro @fo_37_0 <| And.intro @fi_37_0 <| And.intro @ft_37_0 <| And.intro @fo_37_1 <| And.intro @fi_37_1 <| And.intro @ft_37_1 <| And.intro @fo_37_2 <| And.intro @fi_37_2 <| And.intro @ft_37_2 <| And.intro @fo_37_3 <| And.intro @fi_37_3 <| And.intro @ft_37_3 <| @lay_37
set_option maxHeartbeats 4000000 in
theorem impl_truthOfN_sat (n : Nat) : (∀ (a0 : Formula) (a1 : List Term) (a2 : Int) (r : Bool), impl_truthOfN n a0 a1 a2 = some r → Sat Tryz.prog 67 [((Formula.pv false) a0), (.sl false 2 (a1.map (Term.pv false))), (I a2)] (B r)) := by
  induction n with
  | zero => exact fun _ _ _ _ h => by simp [impl_truthOfN] at h
  | succ n ih =>
    refine fun a0 a1 a2 r h => ?_
    replace h := Run.of h
    rw [impl_truthOfN] at h
    refine Sat.of_m (nt := 86) (rs := [.tmp 6]) (n := 100000) Tryz.func67 rfl rfl rfl rfl (by simp) ?_
    simp -failIfUnchanged only [↓RA, RB, RS, fx67, p1, p2, p3, p4, reduceIte, p5, p6, p7, p8]
    repeat (first | with_reducible refine noR_and (by repeat (first | exact noR_empty _ _ | exact noR_nilS _ _ | refine noR_mk _ _ _ _ _ rfl ?_ | refine noR_mkS _ _ _ _ _ rfl ?_)) ?_ | with_reducible refine noC_and (by repeat (first | exact noC_empty _ _ (by simp -failIfUnchanged only [↓RA, RB, RS, fx67, p1, p2, p3, p4, reduceIte, p5, p6, p7, p8]) | exact noC_nilS _ _ (by simp -failIfUnchanged only [↓RA, RB, RS, fx67, p1, p2, p3, p4, reduceIte, p5, p6, p7, p8]) | refine noC_mk _ _ _ _ _ rfl ?_ | refine noC_mkS _ _ _ _ _ rfl ?_)) ?_ | with_reducible refine and_ac ?_ | with_reducible refine And.intro (a := _ = List.range _) (by rfl) ?_)
    refine CondH.mk (fun c1 => ?_) (fun c1 => ?_)
    · replace h := run_t c1 h
      simp -failIfUnchanged only [↓RA, RB, RS, fx67, p1, p2, p3, p4, reduceIte, p5, p6, p7, p8, c1]
      have h := run_some h
      obtain rfl : _ = r := h
      refine FinH.l ?_
      simp -failIfUnchanged only [↓RA, RB, RS, fx67, p1, p2, p3, p4, reduceIte, p5, p6, p7, p8, c1]
    · replace h := run_f c1 h
      simp -failIfUnchanged only [↓RA, RB, RS, fx67, p1, p2, p3, p4, reduceIte, p5, p6, p7, p8, c1]
      refine CondH.mk (fun c2 => ?_) (fun c2 => ?_)
      · replace h := run_t c2 h
        simp -failIfUnchanged only [↓RA, RB, RS, fx67, p1, p2, p3, p4, reduceIte, p5, p6, p7, p8, c1, c2]
        obtain ⟨v17, hv17, h⟩ := run_bind h
        refine CallH.mk [false, false] (impl_indexOfAtom_sat hv17) ?_ ?_ <;> simp -failIfUnchanged only [↓RA, RB, RS, fx67, p1, p2, p3, p4, reduceIte, p5, p6, p7, p8, c1, c2]
        obtain ⟨v18, hv18, h⟩ := run_bind h
        refine ShrH.mk hv18 ?_
        simp -failIfUnchanged only [↓RA, RB, RS, fx67, p1, p2, p3, p4, reduceIte, p5, p6, p7, p8, c1, c2]
        have h := run_some h
        obtain rfl : _ = r := h
        refine FinH.l ?_
        simp -failIfUnchanged only [↓RA, RB, RS, fx67, p1, p2, p3, p4, reduceIte, p5, p6, p7, p8, c1, c2]
      · replace h := run_f c2 h
        simp -failIfUnchanged only [↓RA, RB, RS, fx67, p1, p2, p3, p4, reduceIte, p5, p6, p7, p8, c1, c2]
        refine CondH.mk (fun c3 => ?_) (fun c3 => ?_)
        · replace h := run_t c3 h
          simp -failIfUnchanged only [↓RA, RB, RS, fx67, p1, p2, p3, p4, reduceIte, p5, p6, p7, p8, c1, c2, c3]
          obtain ⟨v25, hv25, h⟩ := run_bind h
          refine IdxH.mk (f := (Formula.pv false)) hv25 ?_ ?_ <;> simp -failIfUnchanged only [↓RA, RB, RS, fx67, p1, p2, p3, p4, reduceIte, p5, p6, p7, p8, c1, c2, c3]
          obtain ⟨v29, hv29, h⟩ := run_bind h
          refine CallH.mk [false, false, false] (ih _ _ _ _ hv29) ?_ ?_ <;> simp -failIfUnchanged only [↓RA, RB, RS, fx67, p1, p2, p3, p4, reduceIte, p5, p6, p7, p8, c1, c2, c3]
          have h := run_some h
          obtain rfl : _ = r := h
          refine FinH.l ?_
          simp -failIfUnchanged only [↓RA, RB, RS, fx67, p1, p2, p3, p4, reduceIte, p5, p6, p7, p8, c1, c2, c3]
        · replace h := run_f c3 h
          simp -failIfUnchanged only [↓RA, RB, RS, fx67, p1, p2, p3, p4, reduceIte, p5, p6, p7, p8, c1, c2, c3]
          refine CondH.mk (fun c4 => ?_) (fun c4 => ?_)
          · replace h := run_t c4 h
            simp -failIfUnchanged only [↓RA, RB, RS, fx67, p1, p2, p3, p4, reduceIte, p5, p6, p7, p8, c1, c2, c3, c4]
            obtain ⟨v35, hv35, h⟩ := run_bind h
            refine IdxH.mk (f := (Formula.pv false)) hv35 ?_ ?_ <;> simp -failIfUnchanged only [↓RA, RB, RS, fx67, p1, p2, p3, p4, reduceIte, p5, p6, p7, p8, c1, c2, c3, c4]
            obtain ⟨v39, hv39, h⟩ := run_bind h
            refine CallH.mk [false, false, false] (ih _ _ _ _ hv39) ?_ ?_ <;> simp -failIfUnchanged only [↓RA, RB, RS, fx67, p1, p2, p3, p4, reduceIte, p5, p6, p7, p8, c1, c2, c3, c4]
            refine CondH.mk (fun c5 => ?_) (fun c5 => ?_)
            · replace h := run_t c5 h
              simp -failIfUnchanged only [↓RA, RB, RS, fx67, p1, p2, p3, p4, reduceIte, p5, p6, p7, p8, c1, c2, c3, c4, c5]
              obtain ⟨v43, hv43, h⟩ := run_bind h
              refine IdxH.mk (f := (Formula.pv false)) hv43 ?_ ?_ <;> simp -failIfUnchanged only [↓RA, RB, RS, fx67, p1, p2, p3, p4, reduceIte, p5, p6, p7, p8, c1, c2, c3, c4, c5]
              obtain ⟨v47, hv47, h⟩ := run_bind h
              refine CallH.mk [false, false, false] (ih _ _ _ _ hv47) ?_ ?_ <;> simp -failIfUnchanged only [↓RA, RB, RS, fx67, p1, p2, p3, p4, reduceIte, p5, p6, p7, p8, c1, c2, c3, c4, c5]
              have h := run_some h
              obtain rfl : _ = r := h
              refine FinH.l ?_
              simp -failIfUnchanged only [↓RA, RB, RS, fx67, p1, p2, p3, p4, reduceIte, p5, p6, p7, p8, c1, c2, c3, c4, c5]
            · replace h := run_f c5 h
              simp -failIfUnchanged only [↓RA, RB, RS, fx67, p1, p2, p3, p4, reduceIte, p5, p6, p7, p8, c1, c2, c3, c4, c5]
              have h := run_some h
              obtain rfl : _ = r := h
              refine FinH.l ?_
              simp -failIfUnchanged only [↓RA, RB, RS, fx67, p1, p2, p3, p4, reduceIte, p5, p6, p7, p8, c1, c2, c3, c4, c5]
          · replace h := run_f c4 h
            simp -failIfUnchanged only [↓RA, RB, RS, fx67, p1, p2, p3, p4, reduceIte, p5, p6, p7, p8, c1, c2, c3, c4]
            refine CondH.mk (fun c6 => ?_) (fun c6 => ?_)
            · replace h := run_t c6 h
              simp -failIfUnchanged only [↓RA, RB, RS, fx67, p1, p2, p3, p4, reduceIte, p5, p6, p7, p8, c1, c2, c3, c4, c6]
              obtain ⟨v53, hv53, h⟩ := run_bind h
              refine IdxH.mk (f := (Formula.pv false)) hv53 ?_ ?_ <;> simp -failIfUnchanged only [↓RA, RB, RS, fx67, p1, p2, p3, p4, reduceIte, p5, p6, p7, p8, c1, c2, c3, c4, c6]
              obtain ⟨v57, hv57, h⟩ := run_bind h
              refine CallH.mk [false, false, false] (ih _ _ _ _ hv57) ?_ ?_ <;> simp -failIfUnchanged only [↓RA, RB, RS, fx67, p1, p2, p3, p4, reduceIte, p5, p6, p7, p8, c1, c2, c3, c4, c6]
              refine CondH.mk (fun c7 => ?_) (fun c7 => ?_)
              · replace h := run_t c7 h
                simp -failIfUnchanged only [↓RA, RB, RS, fx67, p1, p2, p3, p4, reduceIte, p5, p6, p7, p8, c1, c2, c3, c4, c6, c7]
                have h := run_some h
                obtain rfl : _ = r := h
                refine FinH.l ?_
                simp -failIfUnchanged only [↓RA, RB, RS, fx67, p1, p2, p3, p4, reduceIte, p5, p6, p7, p8, c1, c2, c3, c4, c6, c7]
              · replace h := run_f c7 h
                simp -failIfUnchanged only [↓RA, RB, RS, fx67, p1, p2, p3, p4, reduceIte, p5, p6, p7, p8, c1, c2, c3, c4, c6, c7]
                obtain ⟨v61, hv61, h⟩ := run_bind h
                refine IdxH.mk (f := (Formula.pv false)) hv61 ?_ ?_ <;> simp -failIfUnchanged only [↓RA, RB, RS, fx67, p1, p2, p3, p4, reduceIte, p5, p6, p7, p8, c1, c2, c3, c4, c6, c7]
                obtain ⟨v65, hv65, h⟩ := run_bind h
                refine CallH.mk [false, false, false] (ih _ _ _ _ hv65) ?_ ?_ <;> simp -failIfUnchanged only [↓RA, RB, RS, fx67, p1, p2, p3, p4, reduceIte, p5, p6, p7, p8, c1, c2, c3, c4, c6, c7]
                have h := run_some h
                obtain rfl : _ = r := h
                refine FinH.l ?_
                simp -failIfUnchanged only [↓RA, RB, RS, fx67, p1, p2, p3, p4, reduceIte, p5, p6, p7, p8, c1, c2, c3, c4, c6, c7]
            · replace h := run_f c6 h
              simp -failIfUnchanged only [↓RA, RB, RS, fx67, p1, p2, p3, p4, reduceIte, p5, p6, p7, p8, c1, c2, c3, c4, c6]
              refine CondH.mk (fun c8 => ?_) (fun c8 => ?_)
              · replace h := run_t c8 h
                simp -failIfUnchanged only [↓RA, RB, RS, fx67, p1, p2, p3, p4, reduceIte, p5, p6, p7, p8, c1, c2, c3, c4, c6, c8]
                obtain ⟨v71, hv71, h⟩ := run_bind h
                refine IdxH.mk (f := (Formula.pv false)) hv71 ?_ ?_ <;> simp -failIfUnchanged only [↓RA, RB, RS, fx67, p1, p2, p3, p4, reduceIte, p5, p6, p7, p8, c1, c2, c3, c4, c6, c8]
                obtain ⟨v75, hv75, h⟩ := run_bind h
                refine CallH.mk [false, false, false] (ih _ _ _ _ hv75) ?_ ?_ <;> simp -failIfUnchanged only [↓RA, RB, RS, fx67, p1, p2, p3, p4, reduceIte, p5, p6, p7, p8, c1, c2, c3, c4, c6, c8]
                refine CondH.mk (fun c9 => ?_) (fun c9 => ?_)
                · replace h := run_t c9 h
                  simp -failIfUnchanged only [↓RA, RB, RS, fx67, p1, p2, p3, p4, reduceIte, p5, p6, p7, p8, c1, c2, c3, c4, c6, c8, c9]
                  obtain ⟨v80, hv80, h⟩ := run_bind h
                  refine IdxH.mk (f := (Formula.pv false)) hv80 ?_ ?_ <;> simp -failIfUnchanged only [↓RA, RB, RS, fx67, p1, p2, p3, p4, reduceIte, p5, p6, p7, p8, c1, c2, c3, c4, c6, c8, c9]
                  obtain ⟨v84, hv84, h⟩ := run_bind h
                  refine CallH.mk [false, false, false] (ih _ _ _ _ hv84) ?_ ?_ <;> simp -failIfUnchanged only [↓RA, RB, RS, fx67, p1, p2, p3, p4, reduceIte, p5, p6, p7, p8, c1, c2, c3, c4, c6, c8, c9]
                  have h := run_some h
                  obtain rfl : _ = r := h
                  refine FinH.l ?_
                  simp -failIfUnchanged only [↓RA, RB, RS, fx67, p1, p2, p3, p4, reduceIte, p5, p6, p7, p8, c1, c2, c3, c4, c6, c8, c9]
                · replace h := run_f c9 h
                  simp -failIfUnchanged only [↓RA, RB, RS, fx67, p1, p2, p3, p4, reduceIte, p5, p6, p7, p8, c1, c2, c3, c4, c6, c8, c9]
                  have h := run_some h
                  obtain rfl : _ = r := h
                  refine FinH.l ?_
                  simp -failIfUnchanged only [↓RA, RB, RS, fx67, p1, p2, p3, p4, reduceIte, p5, p6, p7, p8, c1, c2, c3, c4, c6, c8, c9]
              · replace h := run_f c8 h
                simp -failIfUnchanged only [↓RA, RB, RS, fx67, p1, p2, p3, p4, reduceIte, p5, p6, p7, p8, c1, c2, c3, c4, c6, c8]
                have h := run_some h
                obtain rfl : _ = r := h
                refine FinH.l ?_
                simp -failIfUnchanged only [↓RA, RB, RS, fx67, p1, p2, p3, p4, reduceIte, p5, p6, p7, p8, c1, c2, c3, c4, c6, c8]
theorem impl_truthOf_sat {a0 : Formula} {a1 : List Term} {a2 : Int} {r : Bool} (h : impl_truthOf a0 a1 a2 = some r) : Sat Tryz.prog 67 [((Formula.pv false) a0), (.sl false 2 (a1.map (Term.pv false))), (I a2)] (B r) := by
  obtain ⟨n, hn⟩ := lim_some h
  exact (impl_truthOfN_sat n) _ _ _ _ hn

def fx34 := And.intro @ty_3 <| And.intro @zc_3 <| And.intro @z_3 <| And.intro @ty_4 <| And.intro @zc_4 <| And.intro @z_4 <| And.intro @u_4 <| And.intro @ty_28 <| And.intro @zc_28 <| And.intro @z_28 <| And.intro @es_28 <| And.intro @eb_28 <| And.intro @sl_28 <| And.intro @is_28 <| And.intro @el_28 <| And.intro @ze_28 <| And.intro @ez_28 <| And.intro @ty_32 <| And.intro @zc_32 <| And.intro @z_32 <| And.intro @es_32 <| And.intro @eb_32 <| And.intro @sl_32 <| And.intro @is_32 <| And.intro @el_32 <| And.intro @ze_32 <| And.intro @ez_32 <| And.intro @ty_34 <| And.intro @zc_34 <| And.intro @z_34 <| And.intro @fo_34_0 <| And.intro @fi_34_0 <| And.intro @ft_34_0 <| And.intro @fo_34_1 <| And.intro @fi_34_1 <| And.intro @ft_34_1 <| And.intro @lay_34 <| And.intro @ty_37 <| And.intro @zc_37 <| And.intro @z_37 <| And.intro @fo_37_0 <| And.intro @fi_37_0 <| And.intro @ft_37_0 <| And.intro @fo_37_1 <| And.intro @fi_37_1 <| And.intro @ft_37_1 <| And.intro @fo_37_2 <| And.intro @fi_37_2 <| And.intro @ft_37_2 <| And.intro @fo_37_3 <| And.intro @fi_37_3 <| And.intro @ft_37_3 <| @lay_37
set_option maxHeartbeats 4000000 in
theorem impl_evaluateOn_sat {a0 : Formula} {a1 : List Int}  {r : Bool} (h : impl_evaluateOn a0 a1 = some r) : Sat Tryz.prog 34 [((Formula.pv false) a0), (.sl false 1 (a1.map I))] (B r) := by
  replace h := Run.of h
  unfold impl_evaluateOn at h
  refine Sat.of_m (nt := 32) (rs := [.tmp 4]) (n := 100000) Tryz.func34 rfl rfl rfl rfl (by simp) ?_
  simp -failIfUnchanged only [↓RA, RB, RS, fx34, p1, p2, p3, p4, reduceIte, p5, p6, p7, p8]
  repeat (first | with_reducible refine noR_and (by repeat (first | exact noR_empty _ _ | exact noR_nilS _ _ | refine noR_mk _ _ _ _ _ rfl ?_ | refine noR_mkS _ _ _ _ _ rfl ?_)) ?_ | with_reducible refine noC_and (by repeat (first | exact noC_empty _ _ (by simp -failIfUnchanged only [↓RA, RB, RS, fx34, p1, p2, p3, p4, reduceIte, p5, p6, p7, p8]) | exact noC_nilS _ _ (by simp -failIfUnchanged only [↓RA, RB, RS, fx34, p1, p2, p3, p4, reduceIte, p5, p6, p7, p8]) | refine noC_mk _ _ _ _ _ rfl ?_ | refine noC_mkS _ _ _ _ _ rfl ?_)) ?_ | with_reducible refine and_ac ?_ | with_reducible refine And.intro (a := _ = List.range _) (by rfl) ?_)
  obtain ⟨v10, hv10, h⟩ := run_bind h
  refine CallH.mk [false] (Sat.vwOf (res' := (.sl false 2 (v10.map (Term.pv false)))) (impl_differentAtoms_sat hv10) (by simp only [view_tup, view_sl, view_agg, view_lit, PV.views, RB, RS])) ?_ ?_ <;> simp -failIfUnchanged only [↓RA, RB, RS, fx34, p1, p2, p3, p4, reduceIte, p5, p6, p7, p8]
  refine Mg.know_sl (b := false) (sz := 2) (es := v10.map (Term.pv false)) 5 (by simp -failIfUnchanged only [↓RA, RB, RS, fx34, p1, p2, p3, p4, reduceIte, p5, p6, p7, p8]) fun hl5 => ?_; rw [List.length_map] at hl5
  replace h := run_loop h
  refine Mg.forN h (fun i4 s4 => [(1, .val (.pv (.sl false 1 (a1.map I)))), (2, .box (.pv ((Formula.pv false) a0))), (5, .val (.pv (.sl false 2 (v10.map (Term.pv false))))), (6, .val (.pv (I s4))), (11, .val (.pv (.sl false 2 (v10.map (Term.pv false))))), (12, .val (.pv (I (v10.length : Int)))), (13, .val (.pv (I (i4 : Int))))]) (fun i4 s4 => []) (St.le_mk2 (by simp -failIfUnchanged only [↓RA, RB, RS, fx34, p1, p2, p3, p4, reduceIte, p5, p6, p7, p8])) (fun i4 s4 hi h => ?_) (fun s4 h => ?_)
  · have w4 := wrap_succ (i := i4) (by omega)
    simp -failIfUnchanged only [↓RA, RB, RS, fx34, p1, p2, p3, p4, reduceIte, p5, p6, p7, p8]
    refine CondH.tt (decide_eq_true (by omega)) (fun c1 => ?_)
    simp -failIfUnchanged only [↓RA, RB, RS, fx34, p1, p2, p3, p4, reduceIte, p5, p6, p7, p8, c1]
    obtain ⟨v16, hv16, h⟩ := run_bind h
    refine IdxH.mk (f := (Term.pv false)) hv16 ?_ ?_ <;> simp -failIfUnchanged only [↓RA, RB, RS, fx34, p1, p2, p3, p4, reduceIte, p5, p6, p7, p8, c1]
    repeat (first | with_reducible refine noR_and (by repeat (first | exact noR_empty _ _ | exact noR_nilS _ _ | refine noR_mk _ _ _ _ _ rfl ?_ | refine noR_mkS _ _ _ _ _ rfl ?_)) ?_ | with_reducible refine noC_and (by repeat (first | exact noC_empty _ _ (by simp -failIfUnchanged only [↓RA, RB, RS, fx34, p1, p2, p3, p4, reduceIte, p5, p6, p7, p8]) | exact noC_nilS _ _ (by simp -failIfUnchanged only [↓RA, RB, RS, fx34, p1, p2, p3, p4, reduceIte, p5, p6, p7, p8]) | refine noC_mk _ _ _ _ _ rfl ?_ | refine noC_mkS _ _ _ _ _ rfl ?_)) ?_ | with_reducible refine and_ac ?_ | with_reducible refine And.intro (a := _ = List.range _) (by rfl) ?_)
    obtain ⟨v21, hv21, h⟩ := run_bind h
    refine CallH.mk [false] (impl_variableOf_sat hv21) ?_ ?_ <;> simp -failIfUnchanged only [↓RA, RB, RS, fx34, p1, p2, p3, p4, reduceIte, p5, p6, p7, p8, c1]
    obtain ⟨v22, hv22, h⟩ := run_bind h
    refine CallH.mk [false, false] (slices_Contains_Sint_int_sat hv22) ?_ ?_ <;> simp -failIfUnchanged only [↓RA, RB, RS, fx34, p1, p2, p3, p4, reduceIte, p5, p6, p7, p8, c1]
    obtain ⟨v23, hv23, h⟩ := run_bind h
    refine CallH.mk [false] (impl_flag_sat hv23) ?_ ?_ <;> simp -failIfUnchanged only [↓RA, RB, RS, fx34, p1, p2, p3, p4, reduceIte, p5, p6, p7, p8, c1]
    obtain ⟨v25, hv25, h⟩ := run_bind h
    refine ShlH.mk hv25 ?_
    simp -failIfUnchanged only [↓RA, RB, RS, fx34, p1, p2, p3, p4, reduceIte, p5, p6, p7, p8, c1]
    have h := run_some h
    refine RdH.mk ⟨_, h, ?_⟩
    refine St.le_mk2 ?_
    simp -failIfUnchanged only [↓RA, RB, RS, fx34, p1, p2, p3, p4, reduceIte, p5, p6, p7, p8, c1, w4]
  · simp -failIfUnchanged only [↓RA, RB, RS, fx34, p1, p2, p3, p4, reduceIte, p5, p6, p7, p8]
    refine CondH.ff (decide_eq_false (by omega)) (fun c2 => ?_)
    simp -failIfUnchanged only [↓RA, RB, RS, fx34, p1, p2, p3, p4, reduceIte, p5, p6, p7, p8, c2]
    obtain ⟨v31, hv31, h⟩ := run_bind h
    refine CallH.mk [false, false, false] (impl_truthOf_sat hv31) ?_ ?_ <;> simp -failIfUnchanged only [↓RA, RB, RS, fx34, p1, p2, p3, p4, reduceIte, p5, p6, p7, p8, c2]
    have h := run_some h
    obtain rfl : _ = r := h
    refine FinH.l ?_
    simp -failIfUnchanged only [↓RA, RB, RS, fx34, p1, p2, p3, p4, reduceIte, p5, p6, p7, p8, c2]

def fx14 := And.intro @ty_3 <| And.intro @zc_3 <| And.intro @z_3 <| And.intro @ty_4 <| And.intro @zc_4 <| And.intro @z_4 <| And.intro @u_4 <| And.intro @ty_28 <| And.intro @zc_28 <| And.intro @z_28 <| And.intro @es_28 <| And.intro @eb_28 <| And.intro @sl_28 <| And.intro @is_28 <| And.intro @el_28 <| And.intro @ze_28 <| And.intro @ez_28 <| And.intro @ty_37 <| And.intro @zc_37 <| And.intro @z_37 <| And.intro @fo_37_0 <| And.intro @fi_37_0 <| And.intro @ft_37_0 <| And.intro @fo_37_1 <| And.intro @fi_37_1 <| And.intro @ft_37_1 <| And.intro @fo_37_2 <| And.intro @fi_37_2 <| And.intro @ft_37_2 <| And.intro @fo_37_3 <| And.intro @fi_37_3 <| And.intro @ft_37_3 <| And.intro @lay_37 <| And.intro @ty_45 <| And.intro @zc_45 <| And.intro @z_45 <| And.intro @es_45 <| And.intro @eb_45 <| And.intro @sl_45 <| And.intro @is_45 <| And.intro @el_45 <| And.intro @ze_45 <| @ez_45
set_option maxHeartbeats 4000000 in
theorem impl_ImpliesFormula_sat {a0 : Formula} {a1 : Formula}  {r : Bool × Bool} (h : impl_ImpliesFormula a0 a1 = some r) : Sat Tryz.prog 14 [((Formula.pv false) a0), ((Formula.pv false) a1)] (.tup [(B r.1), (B r.2)]) := by
  replace h := Run.of h
  unfold impl_ImpliesFormula at h
  refine Sat.of_m (nt := 62) (rs := [.tmp 4, .tmp 5]) (n := 100000) Tryz.func14 rfl rfl rfl rfl (by simp) ?_
  simp -failIfUnchanged only [↓RA, RB, RS, fx14, p1, p2, p3, p4, reduceIte, p5, p6, p7, p8]
  repeat (first | with_reducible refine noR_and (by repeat (first | exact noR_empty _ _ | exact noR_nilS _ _ | refine noR_mk _ _ _ _ _ rfl ?_ | refine noR_mkS _ _ _ _ _ rfl ?_)) ?_ | with_reducible refine noC_and (by repeat (first | exact noC_empty _ _ (by simp -failIfUnchanged only [↓RA, RB, RS, fx14, p1, p2, p3, p4, reduceIte, p5, p6, p7, p8]) | exact noC_nilS _ _ (by simp -failIfUnchanged only [↓RA, RB, RS, fx14, p1, p2, p3, p4, reduceIte, p5, p6, p7, p8]) | refine noC_mk _ _ _ _ _ rfl ?_ | refine noC_mkS _ _ _ _ _ rfl ?_)) ?_ | with_reducible refine and_ac ?_ | with_reducible refine And.intro (a := _ = List.range _) (by rfl) ?_)
  obtain ⟨v17, hv17, h⟩ := run_bind h
  refine CallH.mk [false] (impl_variablesOf_sat hv17) ?_ ?_ <;> simp -failIfUnchanged only [↓RA, RB, RS, fx14, p1, p2, p3, p4, reduceIte, p5, p6, p7, p8]
  repeat (first | with_reducible refine noR_and (by repeat (first | exact noR_empty _ _ | exact noR_nilS _ _ | refine noR_mk _ _ _ _ _ rfl ?_ | refine noR_mkS _ _ _ _ _ rfl ?_)) ?_ | with_reducible refine noC_and (by repeat (first | exact noC_empty _ _ (by simp -failIfUnchanged only [↓RA, RB, RS, fx14, p1, p2, p3, p4, reduceIte, p5, p6, p7, p8]) | exact noC_nilS _ _ (by simp -failIfUnchanged only [↓RA, RB, RS, fx14, p1, p2, p3, p4, reduceIte, p5, p6, p7, p8]) | refine noC_mk _ _ _ _ _ rfl ?_ | refine noC_mkS _ _ _ _ _ rfl ?_)) ?_ | with_reducible refine and_ac ?_ | with_reducible refine And.intro (a := _ = List.range _) (by rfl) ?_)
  obtain ⟨v22, hv22, h⟩ := run_bind h
  refine CallH.mk [false] (impl_variablesOf_sat hv22) ?_ ?_ <;> simp -failIfUnchanged only [↓RA, RB, RS, fx14, p1, p2, p3, p4, reduceIte, p5, p6, p7, p8]
  repeat (first | with_reducible refine noR_and (by repeat (first | exact noR_empty _ _ | exact noR_nilS _ _ | refine noR_mk _ _ _ _ _ rfl ?_ | refine noR_mkS _ _ _ _ _ rfl ?_)) ?_ | with_reducible refine noC_and (by repeat (first | exact noC_empty _ _ (by simp -failIfUnchanged only [↓RA, RB, RS, fx14, p1, p2, p3, p4, reduceIte, p5, p6, p7, p8]) | exact noC_nilS _ _ (by simp -failIfUnchanged only [↓RA, RB, RS, fx14, p1, p2, p3, p4, reduceIte, p5, p6, p7, p8]) | refine noC_mk _ _ _ _ _ rfl ?_ | refine noC_mkS _ _ _ _ _ rfl ?_)) ?_ | with_reducible refine and_ac ?_ | with_reducible refine And.intro (a := _ = List.range _) (by rfl) ?_)
  refine CondH.mk (fun c1 => ?_) (fun c1 => ?_)
  · replace h := run_t c1 h
    simp -failIfUnchanged only [↓RA, RB, RS, fx14, p1, p2, p3, p4, reduceIte, p5, p6, p7, p8, c1]
    refine CondH.mk (fun c2 => ?_) (fun c2 => ?_)
    · replace h := run_t c2 h
      simp -failIfUnchanged only [↓RA, RB, RS, fx14, p1, p2, p3, p4, reduceIte, p5, p6, p7, p8, c1, c2]
      repeat (first | with_reducible refine noR_and (by repeat (first | exact noR_empty _ _ | exact noR_nilS _ _ | refine noR_mk _ _ _ _ _ rfl ?_ | refine noR_mkS _ _ _ _ _ rfl ?_)) ?_ | with_reducible refine noC_and (by repeat (first | exact noC_empty _ _ (by simp -failIfUnchanged only [↓RA, RB, RS, fx14, p1, p2, p3, p4, reduceIte, p5, p6, p7, p8]) | exact noC_nilS _ _ (by simp -failIfUnchanged only [↓RA, RB, RS, fx14, p1, p2, p3, p4, reduceIte, p5, p6, p7, p8]) | refine noC_mk _ _ _ _ _ rfl ?_ | refine noC_mkS _ _ _ _ _ rfl ?_)) ?_ | with_reducible refine and_ac ?_ | with_reducible refine And.intro (a := _ = List.range _) (by rfl) ?_)
      obtain ⟨v34, hv34, h⟩ := run_bind h
      refine CallH.mk [false] (slices_Concat_Sint_int_sat hv34) ?_ ?_ <;> simp -failIfUnchanged only [↓RA, RB, RS, fx14, p1, p2, p3, p4, reduceIte, p5, p6, p7, p8, c1, c2]
      repeat (first | with_reducible refine noR_and (by repeat (first | exact noR_empty _ _ | exact noR_nilS _ _ | refine noR_mk _ _ _ _ _ rfl ?_ | refine noR_mkS _ _ _ _ _ rfl ?_)) ?_ | with_reducible refine noC_and (by repeat (first | exact noC_empty _ _ (by simp -failIfUnchanged only [↓RA, RB, RS, fx14, p1, p2, p3, p4, reduceIte, p5, p6, p7, p8]) | exact noC_nilS _ _ (by simp -failIfUnchanged only [↓RA, RB, RS, fx14, p1, p2, p3, p4, reduceIte, p5, p6, p7, p8]) | refine noC_mk _ _ _ _ _ rfl ?_ | refine noC_mkS _ _ _ _ _ rfl ?_)) ?_ | with_reducible refine and_ac ?_ | with_reducible refine And.intro (a := _ = List.range _) (by rfl) ?_)
      refine Mg.know_own (sz := 1) (es := v34.map I) 544 (by simp -failIfUnchanged only [↓RA, RB, RS, fx14, p1, p2, p3, p4, reduceIte, p5, p6, p7, p8, c1, c2]) fun hl544 => ?_; rw [List.length_map] at hl544
      replace h := run_loop h
      refine Mg.forN h (fun i7 s7 => [(2, .box (.pv ((Formula.pv false) a0))), (3, .box (.pv ((Formula.pv false) a1))), (10, .val (.pv (I s7))), (34, .val (.own 544)), (35, .val (.pv (I (v34.length : Int)))), (36, .val (.pv (I (i7 : Int))))]) (fun i7 s7 => [(544, (1, v34.map I))]) (St.le_mk2 (by simp -failIfUnchanged only [↓RA, RB, RS, fx14, p1, p2, p3, p4, reduceIte, p5, p6, p7, p8, c1, c2])) (fun i7 s7 hi h => ?_) (fun s7 h => ?_)
      · have w7 := wrap_succ (i := i7) (by omega)
        simp -failIfUnchanged only [↓RA, RB, RS, fx14, p1, p2, p3, p4, reduceIte, p5, p6, p7, p8, c1, c2]
        refine CondH.tt (decide_eq_true (by omega)) (fun c3 => ?_)
        simp -failIfUnchanged only [↓RA, RB, RS, fx14, p1, p2, p3, p4, reduceIte, p5, p6, p7, p8, c1, c2, c3]
        obtain ⟨v38, hv38, h⟩ := run_bind h
        refine IdxH.mk (f := I) hv38 ?_ ?_ <;> simp -failIfUnchanged only [↓RA, RB, RS, fx14, p1, p2, p3, p4, reduceIte, p5, p6, p7, p8, c1, c2, c3]
        obtain ⟨v39, hv39, h⟩ := run_bind h
        refine EldH.mk (f := I) hv39 rfl ?_ ?_ <;> simp -failIfUnchanged only [↓RA, RB, RS, fx14, p1, p2, p3, p4, reduceIte, p5, p6, p7, p8, c1, c2, c3]
        have h := run_some h
        refine RdH.mk ⟨_, h, ?_⟩
        refine St.le_mk2 ?_
        simp -failIfUnchanged only [↓RA, RB, RS, fx14, p1, p2, p3, p4, reduceIte, p5, p6, p7, p8, c1, c2, c3, w7]
      · simp -failIfUnchanged only [↓RA, RB, RS, fx14, p1, p2, p3, p4, reduceIte, p5, p6, p7, p8, c1, c2]
        refine CondH.ff (decide_eq_false (by omega)) (fun c4 => ?_)
        simp -failIfUnchanged only [↓RA, RB, RS, fx14, p1, p2, p3, p4, reduceIte, p5, p6, p7, p8, c1, c2, c4]
        obtain ⟨v45, hv45, h⟩ := run_bind h
        refine ShlH.mk hv45 ?_
        simp -failIfUnchanged only [↓RA, RB, RS, fx14, p1, p2, p3, p4, reduceIte, p5, p6, p7, p8, c1, c2, c4]
        obtain ⟨N12, hN12, h⟩ := run_bind h
        obtain ⟨hN12a, hN12b⟩ := bnd_some hN12
        replace h := run_loop h
        refine Mg.forN h (fun i12 s12 => [(2, .box (.pv ((Formula.pv false) a0))), (3, .box (.pv ((Formula.pv false) a1))), (10, .val (.pv (I s7))), (45, .val (.pv (I v45))), (46, .val (.pv (I (i12 : Int))))]) (fun i12 s12 => []) (St.le_mk2 (by simp -failIfUnchanged only [↓RA, RB, RS, fx14, p1, p2, p3, p4, reduceIte, p5, p6, p7, p8, c1, c2, c4])) (fun i12 s12 hi h => ?_) (fun s12 h => ?_)
        · have w12 := wrap_succ (i := i12) (by omega)
          simp -failIfUnchanged only [↓RA, RB, RS, fx14, p1, p2, p3, p4, reduceIte, p5, p6, p7, p8, c1, c2, c4]
          refine CondH.tt (decide_eq_true (by omega)) (fun c5 => ?_)
          simp -failIfUnchanged only [↓RA, RB, RS, fx14, p1, p2, p3, p4, reduceIte, p5, p6, p7, p8, c1, c2, c4, c5]
          obtain ⟨v51, hv51, h⟩ := run_bind h
          refine CallH.mk [false, false] (impl_assignmentOf_sat hv51) ?_ ?_ <;> simp -failIfUnchanged only [↓RA, RB, RS, fx14, p1, p2, p3, p4, reduceIte, p5, p6, p7, p8, c1, c2, c4, c5]
          repeat (first | with_reducible refine noR_and (by repeat (first | exact noR_empty _ _ | exact noR_nilS _ _ | refine noR_mk _ _ _ _ _ rfl ?_ | refine noR_mkS _ _ _ _ _ rfl ?_)) ?_ | with_reducible refine noC_and (by repeat (first | exact noC_empty _ _ (by simp -failIfUnchanged only [↓RA, RB, RS, fx14, p1, p2, p3, p4, reduceIte, p5, p6, p7, p8]) | exact noC_nilS _ _ (by simp -failIfUnchanged only [↓RA, RB, RS, fx14, p1, p2, p3, p4, reduceIte, p5, p6, p7, p8]) | refine noC_mk _ _ _ _ _ rfl ?_ | refine noC_mkS _ _ _ _ _ rfl ?_)) ?_ | with_reducible refine and_ac ?_ | with_reducible refine And.intro (a := _ = List.range _) (by rfl) ?_)
          obtain ⟨v54, hv54, h⟩ := run_bind h
          refine CallH.mk [false, false] (impl_evaluateOn_sat hv54) ?_ ?_ <;> simp -failIfUnchanged only [↓RA, RB, RS, fx14, p1, p2, p3, p4, reduceIte, p5, p6, p7, p8, c1, c2, c4, c5]
          refine CondH.mk (fun c6 => ?_) (fun c6 => ?_)
          · replace h := run_t c6 h
            simp -failIfUnchanged only [↓RA, RB, RS, fx14, p1, p2, p3, p4, reduceIte, p5, p6, p7, p8, c1, c2, c4, c5, c6]
            obtain ⟨v58, hv58, h⟩ := run_bind h
            refine CallH.mk [false, false] (impl_evaluateOn_sat hv58) ?_ ?_ <;> simp -failIfUnchanged only [↓RA, RB, RS, fx14, p1, p2, p3, p4, reduceIte, p5, p6, p7, p8, c1, c2, c4, c5, c6]
            refine CondH.mk (fun c7 => ?_) (fun c7 => ?_)
            · replace h := run_t c7 h
              simp -failIfUnchanged only [↓RA, RB, RS, fx14, p1, p2, p3, p4, reduceIte, p5, p6, p7, p8, c1, c2, c4, c5, c6, c7]
              have h := run_some h
              refine RdH.mk ⟨_, h, ?_⟩
              refine St.le_mk2 ?_
              simp -failIfUnchanged only [↓RA, RB, RS, fx14, p1, p2, p3, p4, reduceIte, p5, p6, p7, p8, c1, c2, c4, c5, c6, c7, w12]
            · replace h := run_f c7 h
              simp -failIfUnchanged only [↓RA, RB, RS, fx14, p1, p2, p3, p4, reduceIte, p5, p6, p7, p8, c1, c2, c4, c5, c6, c7]
              have h := run_some h
              obtain rfl : _ = r := h
              refine FinH.l ?_
              simp -failIfUnchanged only [↓RA, RB, RS, fx14, p1, p2, p3, p4, reduceIte, p5, p6, p7, p8, c1, c2, c4, c5, c6, c7]
          · replace h := run_f c6 h
            simp -failIfUnchanged only [↓RA, RB, RS, fx14, p1, p2, p3, p4, reduceIte, p5, p6, p7, p8, c1, c2, c4, c5, c6]
            have h := run_some h
            refine RdH.mk ⟨_, h, ?_⟩
            refine St.le_mk2 ?_
            simp -failIfUnchanged only [↓RA, RB, RS, fx14, p1, p2, p3, p4, reduceIte, p5, p6, p7, p8, c1, c2, c4, c5, c6, w12]
        · simp -failIfUnchanged only [↓RA, RB, RS, fx14, p1, p2, p3, p4, reduceIte, p5, p6, p7, p8, c1, c2, c4]
          refine CondH.ff (decide_eq_false (by omega)) (fun c8 => ?_)
          simp -failIfUnchanged only [↓RA, RB, RS, fx14, p1, p2, p3, p4, reduceIte, p5, p6, p7, p8, c1, c2, c4, c8]
          have h := run_some h
          obtain rfl : _ = r := h
          refine FinH.l ?_
          simp -failIfUnchanged only [↓RA, RB, RS, fx14, p1, p2, p3, p4, reduceIte, p5, p6, p7, p8, c1, c2, c4, c8]
    · replace h := run_f c2 h
      simp -failIfUnchanged only [↓RA, RB, RS, fx14, p1, p2, p3, p4, reduceIte, p5, p6, p7, p8, c1, c2]
      have h := run_some h
      obtain rfl : _ = r := h
      refine FinH.l ?_
      simp -failIfUnchanged only [↓RA, RB, RS, fx14, p1, p2, p3, p4, reduceIte, p5, p6, p7, p8, c1, c2]
  · replace h := run_f c1 h
    simp -failIfUnchanged only [↓RA, RB, RS, fx14, p1, p2, p3, p4, reduceIte, p5, p6, p7, p8, c1]
    have h := run_some h
    obtain rfl : _ = r := h
    refine FinH.l ?_
    simp -failIfUnchanged only [↓RA, RB, RS, fx14, p1, p2, p3, p4, reduceIte, p5, p6, p7, p8, c1]

def fx35 := And.intro @ty_4 <| And.intro @zc_4 <| And.intro @z_4 <| And.intro @u_4 <| And.intro @ty_9 <| And.intro @zc_9 <| And.intro @z_9 <| And.intro @u_9 <| And.intro @ty_32 <| And.intro @zc_32 <| And.intro @z_32 <| And.intro @es_32 <| And.intro @eb_32 <| And.intro @sl_32 <| And.intro @is_32 <| And.intro @el_32 <| And.intro @ze_32 <| And.intro @ez_32 <| And.intro @ty_34 <| And.intro @zc_34 <| And.intro @z_34 <| And.intro @fo_34_0 <| And.intro @fi_34_0 <| And.intro @ft_34_0 <| And.intro @fo_34_1 <| And.intro @fi_34_1 <| And.intro @ft_34_1 <| @lay_34
def fx68 := And.intro @ty_3 <| And.intro @zc_3 <| And.intro @z_3 <| And.intro @ty_4 <| And.intro @zc_4 <| And.intro @z_4 <| And.intro @u_4 <| And.intro @ty_32 <| And.intro @zc_32 <| And.intro @z_32 <| And.intro @es_32 <| And.intro @eb_32 <| And.intro @sl_32 <| And.intro @is_32 <| And.intro @el_32 <| And.intro @ze_32 <| And.intro @ez_32 <| And.intro @ty_34 <| And.intro @zc_34 <| And.intro @z_34 <| And.intro @fo_34_0 <| And.intro @fi_34_0 <| And.intro @ft_34_0 <| And.intro @fo_34_1 <| And.intro @fi_34_1 <| And.intro @ft_34_1 <| And.intro @lay_34 <| @mixedT
set_option maxHeartbeats 4000000 in
theorem eqTermN_sat (n : Nat) : (∀ (a0 : Term) (a1 : Term) (r : Bool), eqTermN n a0 a1 = some r → Sat Tryz.prog 35 [((Term.pv false) a0), ((Term.pv false) a1)] (B r)) ∧ (∀ (a0 : List Term) (a1 : List Term) (r : Bool), eqTermSN n a0 a1 = some r → Sat Tryz.prog 68 [(.sl false 2 (a0.map (Term.pv false))), (.sl false 2 (a1.map (Term.pv false)))] (B r)) := by
  induction n with
  | zero => exact ⟨fun _ _ _ h => by simp [eqTermN] at h, fun _ _ _ h => by simp [eqTermSN] at h⟩
  | succ n ih =>
    refine ⟨fun a0 a1 r h => ?_, fun a0 a1 r h => ?_⟩
    · replace h := Run.of h
      rw [eqTermN] at h
      refine Sat.of_m (nt := 16) (rs := [.tmp 4]) (n := 100000) Tryz.func35 rfl rfl rfl rfl (by simp) ?_
      simp -failIfUnchanged only [↓RA, RB, RS, fx35, p1, p2, p3, p4, reduceIte, p5, p6, p7, p8]
      repeat (first | with_reducible refine noR_and (by repeat (first | exact noR_empty _ _ | exact noR_nilS _ _ | refine noR_mk _ _ _ _ _ rfl ?_ | refine noR_mkS _ _ _ _ _ rfl ?_)) ?_ | with_reducible refine noC_and (by repeat (first | exact noC_empty _ _ (by simp -failIfUnchanged only [↓RA, RB, RS, fx35, p1, p2, p3, p4, reduceIte, p5, p6, p7, p8]) | exact noC_nilS _ _ (by simp -failIfUnchanged only [↓RA, RB, RS, fx35, p1, p2, p3, p4, reduceIte, p5, p6, p7, p8]) | refine noC_mk _ _ _ _ _ rfl ?_ | refine noC_mkS _ _ _ _ _ rfl ?_)) ?_ | with_reducible refine and_ac ?_ | with_reducible refine And.intro (a := _ = List.range _) (by rfl) ?_)
      refine CondH.mk (fun c1 => ?_) (fun c1 => ?_)
      · replace h := run_t c1 h
        simp -failIfUnchanged only [↓RA, RB, RS, fx35, p1, p2, p3, p4, reduceIte, p5, p6, p7, p8, c1]
        obtain ⟨v14, hv14, h⟩ := run_bind h
        refine CallH.mk [false, false] (ih.2 _ _ _ hv14) ?_ ?_ <;> simp -failIfUnchanged only [↓RA, RB, RS, fx35, p1, p2, p3, p4, reduceIte, p5, p6, p7, p8, c1]
        refine CondH.mk (fun c2 => ?_) (fun c2 => ?_)
        · replace h := run_t c2 h
          simp -failIfUnchanged only [↓RA, RB, RS, fx35, p1, p2, p3, p4, reduceIte, p5, p6, p7, p8, c1, c2]
          have h := run_some h
          obtain rfl : _ = r := h
          refine FinH.l ?_
          simp -failIfUnchanged only [↓RA, RB, RS, fx35, p1, p2, p3, p4, reduceIte, p5, p6, p7, p8, c1, c2]
        · replace h := run_f c2 h
          simp -failIfUnchanged only [↓RA, RB, RS, fx35, p1, p2, p3, p4, reduceIte, p5, p6, p7, p8, c1, c2]
          have h := run_some h
          obtain rfl : _ = r := h
          refine FinH.l ?_
          simp -failIfUnchanged only [↓RA, RB, RS, fx35, p1, p2, p3, p4, reduceIte, p5, p6, p7, p8, c1, c2]
      · replace h := run_f c1 h
        simp -failIfUnchanged only [↓RA, RB, RS, fx35, p1, p2, p3, p4, reduceIte, p5, p6, p7, p8, c1]
        have h := run_some h
        obtain rfl : _ = r := h
        refine FinH.l ?_
        simp -failIfUnchanged only [↓RA, RB, RS, fx35, p1, p2, p3, p4, reduceIte, p5, p6, p7, p8, c1]
    · replace h := Run.of h
      rw [eqTermSN] at h
      refine Sat.of_m (nt := 27) (rs := [.tmp 4]) (n := 100000) Tryz.func68 rfl rfl rfl rfl (by simp) ?_
      simp -failIfUnchanged only [↓RA, RB, RS, fx68, p1, p2, p3, p4, reduceIte, p5, p6, p7, p8]
      refine CondH.mk (fun c1 => ?_) (fun c1 => ?_)
      · replace h := run_t c1 h
        simp -failIfUnchanged only [↓RA, RB, RS, fx68, p1, p2, p3, p4, reduceIte, p5, p6, p7, p8, c1]
        refine Mg.know_sl (b := false) (sz := 2) (es := a0.map (Term.pv false)) 0 (by simp -failIfUnchanged only [↓RA, RB, RS, fx68, p1, p2, p3, p4, reduceIte, p5, p6, p7, p8, c1]) fun hl0 => ?_; rw [List.length_map] at hl0
        replace h := run_loop h
        refine Mg.forN h (fun i4 s4 => [(0, .val (.pv (.sl false 2 (a0.map (Term.pv false))))), (1, .val (.pv (.sl false 2 (a1.map (Term.pv false))))), (5, .val (.pv (I (i4 : Int))))]) (fun i4 s4 => []) (St.le_mk2 (by simp -failIfUnchanged only [↓RA, RB, RS, fx68, p1, p2, p3, p4, reduceIte, p5, p6, p7, p8, c1])) (fun i4 s4 hi h => ?_) (fun s4 h => ?_)
        · have w4 := wrap_succ (i := i4) (by omega)
          simp -failIfUnchanged only [↓RA, RB, RS, fx68, p1, p2, p3, p4, reduceIte, p5, p6, p7, p8, c1]
          refine CondH.tt (decide_eq_true (by omega)) (fun c2 => ?_)
          simp -failIfUnchanged only [↓RA, RB, RS, fx68, p1, p2, p3, p4, reduceIte, p5, p6, p7, p8, c1, c2]
          obtain ⟨v19, hv19, h⟩ := run_bind h
          refine IdxH.mk (f := (Term.pv false)) hv19 ?_ ?_ <;> simp -failIfUnchanged only [↓RA, RB, RS, fx68, p1, p2, p3, p4, reduceIte, p5, p6, p7, p8, c1, c2]
          obtain ⟨v23, hv23, h⟩ := run_bind h
          refine IdxH.mk (f := (Term.pv false)) hv23 ?_ ?_ <;> simp -failIfUnchanged only [↓RA, RB, RS, fx68, p1, p2, p3, p4, reduceIte, p5, p6, p7, p8, c1, c2]
          obtain ⟨v25, hv25, h⟩ := run_bind h
          refine CallH.mk [false, false] (ih.1 _ _ _ hv25) ?_ ?_ <;> simp -failIfUnchanged only [↓RA, RB, RS, fx68, p1, p2, p3, p4, reduceIte, p5, p6, p7, p8, c1, c2]
          refine And.intro (DrawH.none (by rfl) (by first | rfl | (simp -failIfUnchanged only [↓RA, RB, RS, fx68, p1, p2, p3, p4, reduceIte, p5, p6, p7, p8] <;> rfl)) (by first | rfl | (simp -failIfUnchanged only [↓RA, RB, RS, fx68, p1, p2, p3, p4, reduceIte, p5, p6, p7, p8] <;> rfl)) (by first | rfl | (simp -failIfUnchanged only [↓RA, RB, RS, fx68, p1, p2, p3, p4, reduceIte, p5, p6, p7, p8] <;> rfl))) ?_
          simp -failIfUnchanged only [↓RA, RB, RS, fx68, p1, p2, p3, p4, reduceIte, p5, p6, p7, p8, c1, c2]
          refine CondH.mk (fun c3 => ?_) (fun c3 => ?_)
          · replace h := run_t c3 h
            simp -failIfUnchanged only [↓RA, RB, RS, fx68, p1, p2, p3, p4, reduceIte, p5, p6, p7, p8, c1, c2, c3]
            have h := run_some h
            refine RdH.mk ⟨_, h, ?_⟩
            refine St.le_mk2 ?_
            simp -failIfUnchanged only [↓RA, RB, RS, fx68, p1, p2, p3, p4, reduceIte, p5, p6, p7, p8, c1, c2, c3, w4]
          · replace h := run_f c3 h
            simp -failIfUnchanged only [↓RA, RB, RS, fx68, p1, p2, p3, p4, reduceIte, p5, p6, p7, p8, c1, c2, c3]
            have h := run_some h
            obtain rfl : _ = r := h
            refine FinH.l ?_
            simp -failIfUnchanged only [↓RA, RB, RS, fx68, p1, p2, p3, p4, reduceIte, p5, p6, p7, p8, c1, c2, c3]
        · simp -failIfUnchanged only [↓RA, RB, RS, fx68, p1, p2, p3, p4, reduceIte, p5, p6, p7, p8, c1]
          refine CondH.ff (decide_eq_false (by omega)) (fun c4 => ?_)
          simp -failIfUnchanged only [↓RA, RB, RS, fx68, p1, p2, p3, p4, reduceIte, p5, p6, p7, p8, c1, c4]
          have h := run_some h
          obtain rfl : _ = r := h
          refine FinH.l ?_
          simp -failIfUnchanged only [↓RA, RB, RS, fx68, p1, p2, p3, p4, reduceIte, p5, p6, p7, p8, c1, c4]
      · replace h := run_f c1 h
        simp -failIfUnchanged only [↓RA, RB, RS, fx68, p1, p2, p3, p4, reduceIte, p5, p6, p7, p8, c1]
        have h := run_some h
        obtain rfl : _ = r := h
        refine FinH.l ?_
        simp -failIfUnchanged only [↓RA, RB, RS, fx68, p1, p2, p3, p4, reduceIte, p5, p6, p7, p8, c1]
theorem eqTerm_sat {a0 : Term} {a1 : Term} {r : Bool} (h : eqTerm a0 a1 = some r) : Sat Tryz.prog 35 [((Term.pv false) a0), ((Term.pv false) a1)] (B r) := by
  obtain ⟨n, hn⟩ := lim_some h
  exact (eqTermN_sat n).1 _ _ _ hn
theorem eqTermS_sat {a0 : List Term} {a1 : List Term} {r : Bool} (h : eqTermS a0 a1 = some r) : Sat Tryz.prog 68 [(.sl false 2 (a0.map (Term.pv false))), (.sl false 2 (a1.map (Term.pv false)))] (B r) := by
  obtain ⟨n, hn⟩ := lim_some h
  exact (eqTermN_sat n).2 _ _ _ hn

def fx11 := And.intro @ty_3 <| And.intro @zc_3 <| And.intro @z_3 <| And.intro @ty_4 <| And.intro @zc_4 <| And.intro @z_4 <| And.intro @u_4 <| And.intro @ty_9 <| And.intro @zc_9 <| And.intro @z_9 <| And.intro @u_9 <| And.intro @ty_34 <| And.intro @zc_34 <| And.intro @z_34 <| And.intro @fo_34_0 <| And.intro @fi_34_0 <| And.intro @ft_34_0 <| And.intro @fo_34_1 <| And.intro @fi_34_1 <| And.intro @ft_34_1 <| And.intro @lay_34 <| And.intro @ty_35 <| And.intro @zc_35 <| And.intro @z_35 <| And.intro @es_35 <| And.intro @eb_35 <| And.intro @sl_35 <| And.intro @is_35 <| And.intro @el_35 <| And.intro @ze_35 <| And.intro @ez_35 <| And.intro @ty_37 <| And.intro @zc_37 <| And.intro @z_37 <| And.intro @fo_37_0 <| And.intro @fi_37_0 <| And.intro @ft_37_0 <| And.intro @fo_37_1 <| And.intro @fi_37_1 <| And.intro @ft_37_1 <| And.intro @fo_37_2 <| And.intro @fi_37_2 <| And.intro @ft_37_2 <| And.intro @fo_37_3 <| And.intro @fi_37_3 <| And.intro @ft_37_3 <| @lay_37
def fx36 := And.intro @ty_3 <| And.intro @zc_3 <| And.intro @z_3 <| And.intro @ty_4 <| And.intro @zc_4 <| And.intro @z_4 <| And.intro @u_4 <| And.intro @ty_35 <| And.intro @zc_35 <| And.intro @z_35 <| And.intro @es_35 <| And.intro @eb_35 <| And.intro @sl_35 <| And.intro @is_35 <| And.intro @el_35 <| And.intro @ze_35 <| And.intro @ez_35 <| And.intro @ty_37 <| And.intro @zc_37 <| And.intro @z_37 <| And.intro @fo_37_0 <| And.intro @fi_37_0 <| And.intro @ft_37_0 <| And.intro @fo_37_1 <| And.intro @fi_37_1 <| And.intro @ft_37_1 <| And.intro @fo_37_2 <| And.intro @fi_37_2 <| And.intro @ft_37_2 <| And.intro @fo_37_3 <| And.intro @fi_37_3 <| And.intro @ft_37_3 <| And.intro @lay_37 <| @mixedT
set_option maxHeartbeats 4000000 in
theorem eqFormulaN_sat (n : Nat) : (∀ (a0 : Formula) (a1 : Formula) (r : Bool), eqFormulaN n a0 a1 = some r → Sat Tryz.prog 11 [((Formula.pv false) a0), ((Formula.pv false) a1)] (B r)) ∧ (∀ (a0 : List Formula) (a1 : List Formula) (r : Bool), eqFormulaSN n a0 a1 = some r → Sat Tryz.prog 36 [(.sl false 5 (a0.map (Formula.pv false))), (.sl false 5 (a1.map (Formula.pv false)))] (B r)) := by
  induction n with
  | zero => exact ⟨fun _ _ _ h => by simp [eqFormulaN] at h, fun _ _ _ h => by simp [eqFormulaSN] at h⟩
  | succ n ih =>
    refine ⟨fun a0 a1 r h => ?_, fun a0 a1 r h => ?_⟩
    · replace h := Run.of h
      rw [eqFormulaN] at h
      refine Sat.of_m (nt := 27) (rs := [.tmp 4]) (n := 100000) Tryz.func11 rfl rfl rfl rfl (by simp) ?_
      simp -failIfUnchanged only [↓RA, RB, RS, fx11, p1, p2, p3, p4, reduceIte, p5, p6, p7, p8]
      repeat (first | with_reducible refine noR_and (by repeat (first | exact noR_empty _ _ | exact noR_nilS _ _ | refine noR_mk _ _ _ _ _ rfl ?_ | refine noR_mkS _ _ _ _ _ rfl ?_)) ?_ | with_reducible refine noC_and (by repeat (first | exact noC_empty _ _ (by simp -failIfUnchanged only [↓RA, RB, RS, fx11, p1, p2, p3, p4, reduceIte, p5, p6, p7, p8]) | exact noC_nilS _ _ (by simp -failIfUnchanged only [↓RA, RB, RS, fx11, p1, p2, p3, p4, reduceIte, p5, p6, p7, p8]) | refine noC_mk _ _ _ _ _ rfl ?_ | refine noC_mkS _ _ _ _ _ rfl ?_)) ?_ | with_reducible refine and_ac ?_ | with_reducible refine And.intro (a := _ = List.range _) (by rfl) ?_)
      refine CondH.mk (fun c1 => ?_) (fun c1 => ?_)
      · replace h := run_t c1 h
        simp -failIfUnchanged only [↓RA, RB, RS, fx11, p1, p2, p3, p4, reduceIte, p5, p6, p7, p8, c1]
        obtain ⟨v14, hv14, h⟩ := run_bind h
        refine CallH.mk [false, false] (eqTerm_sat hv14) ?_ ?_ <;> simp -failIfUnchanged only [↓RA, RB, RS, fx11, p1, p2, p3, p4, reduceIte, p5, p6, p7, p8, c1]
        refine CondH.mk (fun c2 => ?_) (fun c2 => ?_)
        · replace h := run_t c2 h
          simp -failIfUnchanged only [↓RA, RB, RS, fx11, p1, p2, p3, p4, reduceIte, p5, p6, p7, p8, c1, c2]
          refine CondH.mk (fun c3 => ?_) (fun c3 => ?_)
          · replace h := run_t c3 h
            simp -failIfUnchanged only [↓RA, RB, RS, fx11, p1, p2, p3, p4, reduceIte, p5, p6, p7, p8, c1, c2, c3]
            obtain ⟨v25, hv25, h⟩ := run_bind h
            refine CallH.mk [false, false] (ih.2 _ _ _ hv25) ?_ ?_ <;> simp -failIfUnchanged only [↓RA, RB, RS, fx11, p1, p2, p3, p4, reduceIte, p5, p6, p7, p8, c1, c2, c3]
            refine CondH.mk (fun c4 => ?_) (fun c4 => ?_)
            · replace h := run_t c4 h
              simp -failIfUnchanged only [↓RA, RB, RS, fx11, p1, p2, p3, p4, reduceIte, p5, p6, p7, p8, c1, c2, c3, c4]
              have h := run_some h
              obtain rfl : _ = r := h
              refine FinH.l ?_
              simp -failIfUnchanged only [↓RA, RB, RS, fx11, p1, p2, p3, p4, reduceIte, p5, p6, p7, p8, c1, c2, c3, c4]
            · replace h := run_f c4 h
              simp -failIfUnchanged only [↓RA, RB, RS, fx11, p1, p2, p3, p4, reduceIte, p5, p6, p7, p8, c1, c2, c3, c4]
              have h := run_some h
              obtain rfl : _ = r := h
              refine FinH.l ?_
              simp -failIfUnchanged only [↓RA, RB, RS, fx11, p1, p2, p3, p4, reduceIte, p5, p6, p7, p8, c1, c2, c3, c4]
          · replace h := run_f c3 h
            simp -failIfUnchanged only [↓RA, RB, RS, fx11, p1, p2, p3, p4, reduceIte, p5, p6, p7, p8, c1, c2, c3]
            have h := run_some h
            obtain rfl : _ = r := h
            refine FinH.l ?_
            simp -failIfUnchanged only [↓RA, RB, RS, fx11, p1, p2, p3, p4, reduceIte, p5, p6, p7, p8, c1, c2, c3]
        · replace h := run_f c2 h
          simp -failIfUnchanged only [↓RA, RB, RS, fx11, p1, p2, p3, p4, reduceIte, p5, p6, p7, p8, c1, c2]
          have h := run_some h
          obtain rfl : _ = r := h
          refine FinH.l ?_
          simp -failIfUnchanged only [↓RA, RB, RS, fx11, p1, p2, p3, p4, reduceIte, p5, p6, p7, p8, c1, c2]
      · replace h := run_f c1 h
        simp -failIfUnchanged only [↓RA, RB, RS, fx11, p1, p2, p3, p4, reduceIte, p5, p6, p7, p8, c1]
        have h := run_some h
        obtain rfl : _ = r := h
        refine FinH.l ?_
        simp -failIfUnchanged only [↓RA, RB, RS, fx11, p1, p2, p3, p4, reduceIte, p5, p6, p7, p8, c1]
    · replace h := Run.of h
      rw [eqFormulaSN] at h
      refine Sat.of_m (nt := 27) (rs := [.tmp 4]) (n := 100000) Tryz.func36 rfl rfl rfl rfl (by simp) ?_
      simp -failIfUnchanged only [↓RA, RB, RS, fx36, p1, p2, p3, p4, reduceIte, p5, p6, p7, p8]
      refine CondH.mk (fun c1 => ?_) (fun c1 => ?_)
      · replace h := run_t c1 h
        simp -failIfUnchanged only [↓RA, RB, RS, fx36, p1, p2, p3, p4, reduceIte, p5, p6, p7, p8, c1]
        refine Mg.know_sl (b := false) (sz := 5) (es := a0.map (Formula.pv false)) 0 (by simp -failIfUnchanged only [↓RA, RB, RS, fx36, p1, p2, p3, p4, reduceIte, p5, p6, p7, p8, c1]) fun hl0 => ?_; rw [List.length_map] at hl0
        replace h := run_loop h
        refine Mg.forN h (fun i4 s4 => [(0, .val (.pv (.sl false 5 (a0.map (Formula.pv false))))), (1, .val (.pv (.sl false 5 (a1.map (Formula.pv false))))), (5, .val (.pv (I (i4 : Int))))]) (fun i4 s4 => []) (St.le_mk2 (by simp -failIfUnchanged only [↓RA, RB, RS, fx36, p1, p2, p3, p4, reduceIte, p5, p6, p7, p8, c1])) (fun i4 s4 hi h => ?_) (fun s4 h => ?_)
        · have w4 := wrap_succ (i := i4) (by omega)
          simp -failIfUnchanged only [↓RA, RB, RS, fx36, p1, p2, p3, p4, reduceIte, p5, p6, p7, p8, c1]
          refine CondH.tt (decide_eq_true (by omega)) (fun c2 => ?_)
          simp -failIfUnchanged only [↓RA, RB, RS, fx36, p1, p2, p3, p4, reduceIte, p5, p6, p7, p8, c1, c2]
          obtain ⟨v19, hv19, h⟩ := run_bind h
          refine IdxH.mk (f := (Formula.pv false)) hv19 ?_ ?_ <;> simp -failIfUnchanged only [↓RA, RB, RS, fx36, p1, p2, p3, p4, reduceIte, p5, p6, p7, p8, c1, c2]
          obtain ⟨v23, hv23, h⟩ := run_bind h
          refine IdxH.mk (f := (Formula.pv false)) hv23 ?_ ?_ <;> simp -failIfUnchanged only [↓RA, RB, RS, fx36, p1, p2, p3, p4, reduceIte, p5, p6, p7, p8, c1, c2]
          obtain ⟨v25, hv25, h⟩ := run_bind h
          refine CallH.mk [false, false] (ih.1 _ _ _ hv25) ?_ ?_ <;> simp -failIfUnchanged only [↓RA, RB, RS, fx36, p1, p2, p3, p4, reduceIte, p5, p6, p7, p8, c1, c2]
          refine And.intro (DrawH.none (by rfl) (by first | rfl | (simp -failIfUnchanged only [↓RA, RB, RS, fx36, p1, p2, p3, p4, reduceIte, p5, p6, p7, p8] <;> rfl)) (by first | rfl | (simp -failIfUnchanged only [↓RA, RB, RS, fx36, p1, p2, p3, p4, reduceIte, p5, p6, p7, p8] <;> rfl)) (by first | rfl | (simp -failIfUnchanged only [↓RA, RB, RS, fx36, p1, p2, p3, p4, reduceIte, p5, p6, p7, p8] <;> rfl))) ?_
          simp -failIfUnchanged only [↓RA, RB, RS, fx36, p1, p2, p3, p4, reduceIte, p5, p6, p7, p8, c1, c2]
          refine CondH.mk (fun c3 => ?_) (fun c3 => ?_)
          · replace h := run_t c3 h
            simp -failIfUnchanged only [↓RA, RB, RS, fx36, p1, p2, p3, p4, reduceIte, p5, p6, p7, p8, c1, c2, c3]
            have h := run_some h
            refine RdH.mk ⟨_, h, ?_⟩
            refine St.le_mk2 ?_
            simp -failIfUnchanged only [↓RA, RB, RS, fx36, p1, p2, p3, p4, reduceIte, p5, p6, p7, p8, c1, c2, c3, w4]
          · replace h := run_f c3 h
            simp -failIfUnchanged only [↓RA, RB, RS, fx36, p1, p2, p3, p4, reduceIte, p5, p6, p7, p8, c1, c2, c3]
            have h := run_some h
            obtain rfl : _ = r := h
            refine FinH.l ?_
            simp -failIfUnchanged only [↓RA, RB, RS, fx36, p1, p2, p3, p4, reduceIte, p5, p6, p7, p8, c1, c2, c3]
        · simp -failIfUnchanged only [↓RA, RB, RS, fx36, p1, p2, p3, p4, reduceIte, p5, p6, p7, p8, c1]
          refine CondH.ff (decide_eq_false (by omega)) (fun c4 => ?_)
          simp -failIfUnchanged only [↓RA, RB, RS, fx36, p1, p2, p3, p4, reduceIte, p5, p6, p7, p8, c1, c4]
          have h := run_some h
          obtain rfl : _ = r := h
          refine FinH.l ?_
          simp -failIfUnchanged only [↓RA, RB, RS, fx36, p1, p2, p3, p4, reduceIte, p5, p6, p7, p8, c1, c4]
      · replace h := run_f c1 h
        simp -failIfUnchanged only [↓RA, RB, RS, fx36, p1, p2, p3, p4, reduceIte, p5, p6, p7, p8, c1]
        have h := run_some h
        obtain rfl : _ = r := h
        refine FinH.l ?_
        simp -failIfUnchanged only [↓RA, RB, RS, fx36, p1, p2, p3, p4, reduceIte, p5, p6, p7, p8, c1]
theorem eqFormula_sat {a0 : Formula} {a1 : Formula} {r : Bool} (h : eqFormula a0 a1 = some r) : Sat Tryz.prog 11 [((Formula.pv false) a0), ((Formula.pv false) a1)] (B r) := by
  obtain ⟨n, hn⟩ := lim_some h
  exact (eqFormulaN_sat n).1 _ _ _ hn
theorem eqFormulaS_sat {a0 : List Formula} {a1 : List Formula} {r : Bool} (h : eqFormulaS a0 a1 = some r) : Sat Tryz.prog 36 [(.sl false 5 (a0.map (Formula.pv false))), (.sl false 5 (a1.map (Formula.pv false)))] (B r) := by
  obtain ⟨n, hn⟩ := lim_some h
  exact (eqFormulaN_sat n).2 _ _ _ hn

def fx4 := And.intro @ty_3 <| And.intro @zc_3 <| And.intro @z_3 <| And.intro @ty_4 <| And.intro @zc_4 <| And.intro @z_4 <| And.intro @u_4 <| And.intro @ty_27 <| And.intro @zc_27 <| And.intro @z_27 <| And.intro @fo_27_0 <| And.intro @fi_27_0 <| And.intro @ft_27_0 <| And.intro @fo_27_1 <| And.intro @fi_27_1 <| And.intro @ft_27_1 <| And.intro @fo_27_2 <| And.intro @fi_27_2 <| And.intro @ft_27_2 <| And.intro @fo_27_3 <| And.intro @fi_27_3 <| And.intro @ft_27_3 <| And.intro @lay_27 <| And.intro @ty_37 <| And.intro @zc_37 <| And.intro @z_37 <| And.intro @fo_37_0 <| And.intro @fi_37_0 <| And.intro @ft_37_0 <| And.intro @fo_37_1 <| And.intro @fi_37_1 <| And.intro @ft_37_1 <| And.intro @fo_37_2 <| And.intro @fi_37_2 <| And.intro @ft_37_2 <| And.intro @fo_37_3 <| And.intro @fi_37_3 <| And.intro @ft_37_3 <| And.intro @lay_37 <| @mixedT
set_option maxHeartbeats 4000000 in
theorem FnExactImpliesFormula_sat {a0 : Formula} {a1 : Formula}  {r : Bool} (h : FnExactImpliesFormula a0 a1 = some r) : Sat Tryz.prog 4 [((Formula.pv false) a0), ((Formula.pv false) a1)] (B r) := by
  replace h := Run.of h
  unfold FnExactImpliesFormula at h
  refine Sat.of_m (nt := 58) (rs := [.tmp 4]) (n := 100000) Tryz.func4 rfl rfl rfl rfl (by simp) ?_
  simp -failIfUnchanged only [↓RA, RB, RS, fx4, p1, p2, p3, p4, reduceIte, p5, p6, p7, p8]
  repeat (first | with_reducible refine noR_and (by repeat (first | exact noR_empty _ _ | exact noR_nilS _ _ | refine noR_mk _ _ _ _ _ rfl ?_ | refine noR_mkS _ _ _ _ _ rfl ?_)) ?_ | with_reducible refine noC_and (by repeat (first | exact noC_empty _ _ (by simp -failIfUnchanged only [↓RA, RB, RS, fx4, p1, p2, p3, p4, reduceIte, p5, p6, p7, p8]) | exact noC_nilS _ _ (by simp -failIfUnchanged only [↓RA, RB, RS, fx4, p1, p2, p3, p4, reduceIte, p5, p6, p7, p8]) | refine noC_mk _ _ _ _ _ rfl ?_ | refine noC_mkS _ _ _ _ _ rfl ?_)) ?_ | with_reducible refine and_ac ?_ | with_reducible refine And.intro (a := _ = List.range _) (by rfl) ?_)
  obtain ⟨v14, hv14, h⟩ := run_bind h
  refine CallH.mk [false, false] (szFormula_sat hv14) ?_ ?_ <;> simp -failIfUnchanged only [↓RA, RB, RS, fx4, p1, p2, p3, p4, reduceIte, p5, p6, p7, p8]
  refine CondH.mk (fun c1 => ?_) (fun c1 => ?_)
  · replace h := run_t c1 h
    simp -failIfUnchanged only [↓RA, RB, RS, fx4, p1, p2, p3, p4, reduceIte, p5, p6, p7, p8, c1]
    have h := run_some h
    obtain rfl : _ = r := h
    refine FinH.l ?_
    simp -failIfUnchanged only [↓RA, RB, RS, fx4, p1, p2, p3, p4, reduceIte, p5, p6, p7, p8, c1]
  · replace h := run_f c1 h
    simp -failIfUnchanged only [↓RA, RB, RS, fx4, p1, p2, p3, p4, reduceIte, p5, p6, p7, p8, c1]
    obtain ⟨v19, hv19, h⟩ := run_bind h
    refine CallH.mk [false, false] (szFormula_sat hv19) ?_ ?_ <;> simp -failIfUnchanged only [↓RA, RB, RS, fx4, p1, p2, p3, p4, reduceIte, p5, p6, p7, p8, c1]
    refine CondH.mk (fun c2 => ?_) (fun c2 => ?_)
    · replace h := run_t c2 h
      simp -failIfUnchanged only [↓RA, RB, RS, fx4, p1, p2, p3, p4, reduceIte, p5, p6, p7, p8, c1, c2]
      have h := run_some h
      obtain rfl : _ = r := h
      refine FinH.l ?_
      simp -failIfUnchanged only [↓RA, RB, RS, fx4, p1, p2, p3, p4, reduceIte, p5, p6, p7, p8, c1, c2]
    · replace h := run_f c2 h
      simp -failIfUnchanged only [↓RA, RB, RS, fx4, p1, p2, p3, p4, reduceIte, p5, p6, p7, p8, c1, c2]
      obtain ⟨v24, hv24, h⟩ := run_bind h
      refine CallH.mk [false] (toFormula_sat hv24) ?_ ?_ <;> simp -failIfUnchanged only [↓RA, RB, RS, fx4, p1, p2, p3, p4, reduceIte, p5, p6, p7, p8, c1, c2]
      repeat (first | with_reducible refine noR_and (by repeat (first | exact noR_empty _ _ | exact noR_nilS _ _ | refine noR_mk _ _ _ _ _ rfl ?_ | refine noR_mkS _ _ _ _ _ rfl ?_)) ?_ | with_reducible refine noC_and (by repeat (first | exact noC_empty _ _ (by simp -failIfUnchanged only [↓RA, RB, RS, fx4, p1, p2, p3, p4, reduceIte, p5, p6, p7, p8]) | exact noC_nilS _ _ (by simp -failIfUnchanged only [↓RA, RB, RS, fx4, p1, p2, p3, p4, reduceIte, p5, p6, p7, p8]) | refine noC_mk _ _ _ _ _ rfl ?_ | refine noC_mkS _ _ _ _ _ rfl ?_)) ?_ | with_reducible refine and_ac ?_ | with_reducible refine And.intro (a := _ = List.range _) (by rfl) ?_)
      obtain ⟨v26, hv26, h⟩ := run_bind h
      refine CallH.mk [false] (toFormula_sat hv26) ?_ ?_ <;> simp -failIfUnchanged only [↓RA, RB, RS, fx4, p1, p2, p3, p4, reduceIte, p5, p6, p7, p8, c1, c2]
      repeat (first | with_reducible refine noR_and (by repeat (first | exact noR_empty _ _ | exact noR_nilS _ _ | refine noR_mk _ _ _ _ _ rfl ?_ | refine noR_mkS _ _ _ _ _ rfl ?_)) ?_ | with_reducible refine noC_and (by repeat (first | exact noC_empty _ _ (by simp -failIfUnchanged only [↓RA, RB, RS, fx4, p1, p2, p3, p4, reduceIte, p5, p6, p7, p8]) | exact noC_nilS _ _ (by simp -failIfUnchanged only [↓RA, RB, RS, fx4, p1, p2, p3, p4, reduceIte, p5, p6, p7, p8]) | refine noC_mk _ _ _ _ _ rfl ?_ | refine noC_mkS _ _ _ _ _ rfl ?_)) ?_ | with_reducible refine and_ac ?_ | with_reducible refine And.intro (a := _ = List.range _) (by rfl) ?_)
      obtain ⟨v27, hv27, h⟩ := run_bind h
      refine CallH.mk [false, false] (spec_ImpliesFormula_sat hv27) ?_ ?_ <;> simp -failIfUnchanged only [↓RA, RB, RS, fx4, p1, p2, p3, p4, reduceIte, p5, p6, p7, p8, c1, c2]
      refine And.intro (DrawH.mk [] [384, 385, 416, 417] (by rfl) (by first | rfl | (simp -failIfUnchanged only [↓RA, RB, RS, fx4, p1, p2, p3, p4, reduceIte, p5, p6, p7, p8] <;> rfl)) (by first | rfl | (simp -failIfUnchanged only [↓RA, RB, RS, fx4, p1, p2, p3, p4, reduceIte, p5, p6, p7, p8] <;> rfl)) (by first | rfl | (simp -failIfUnchanged only [↓RA, RB, RS, fx4, p1, p2, p3, p4, reduceIte, p5, p6, p7, p8] <;> rfl)) (by simp) (by simp -failIfUnchanged only [↓RA, RB, RS, fx4, p1, p2, p3, p4, reduceIte, p5, p6, p7, p8]; repeat (first | exact noC_empty _ _ (by simp -failIfUnchanged only [↓RA, RB, RS, fx4, p1, p2, p3, p4, reduceIte, p5, p6, p7, p8]) | exact noC_nilS _ _ (by simp -failIfUnchanged only [↓RA, RB, RS, fx4, p1, p2, p3, p4, reduceIte, p5, p6, p7, p8]) | refine noC_mk _ _ _ _ _ rfl ?_ | refine noC_mkS _ _ _ _ _ rfl ?_ | refine And.intro ?_ ?_))) ?_
      simp -failIfUnchanged only [↓RA, RB, RS, fx4, p1, p2, p3, p4, reduceIte, p5, p6, p7, p8, c1, c2]
      obtain ⟨v31, hv31, h⟩ := run_bind h
      refine CallH.mk [false] (toFormula_sat hv31) ?_ ?_ <;> simp -failIfUnchanged only [↓RA, RB, RS, fx4, p1, p2, p3, p4, reduceIte, p5, p6, p7, p8, c1, c2]
      repeat (first | with_reducible refine noR_and (by repeat (first | exact noR_empty _ _ | exact noR_nilS _ _ | refine noR_mk _ _ _ _ _ rfl ?_ | refine noR_mkS _ _ _ _ _ rfl ?_)) ?_ | with_reducible refine noC_and (by repeat (first | exact noC_empty _ _ (by simp -failIfUnchanged only [↓RA, RB, RS, fx4, p1, p2, p3, p4, reduceIte, p5, p6, p7, p8]) | exact noC_nilS _ _ (by simp -failIfUnchanged only [↓RA, RB, RS, fx4, p1, p2, p3, p4, reduceIte, p5, p6, p7, p8]) | refine noC_mk _ _ _ _ _ rfl ?_ | refine noC_mkS _ _ _ _ _ rfl ?_)) ?_ | with_reducible refine and_ac ?_ | with_reducible refine And.intro (a := _ = List.range _) (by rfl) ?_)
      obtain ⟨v33, hv33, h⟩ := run_bind h
      refine CallH.mk [false] (toFormula_sat hv33) ?_ ?_ <;> simp -failIfUnchanged only [↓RA, RB, RS, fx4, p1, p2, p3, p4, reduceIte, p5, p6, p7, p8, c1, c2]
      repeat (first | with_reducible refine noR_and (by repeat (first | exact noR_empty _ _ | exact noR_nilS _ _ | refine noR_mk _ _ _ _ _ rfl ?_ | refine noR_mkS _ _ _ _ _ rfl ?_)) ?_ | with_reducible refine noC_and (by repeat (first | exact noC_empty _ _ (by simp -failIfUnchanged only [↓RA, RB, RS, fx4, p1, p2, p3, p4, reduceIte, p5, p6, p7, p8]) | exact noC_nilS _ _ (by simp -failIfUnchanged only [↓RA, RB, RS, fx4, p1, p2, p3, p4, reduceIte, p5, p6, p7, p8]) | refine noC_mk _ _ _ _ _ rfl ?_ | refine noC_mkS _ _ _ _ _ rfl ?_)) ?_ | with_reducible refine and_ac ?_ | with_reducible refine And.intro (a := _ = List.range _) (by rfl) ?_)
      obtain ⟨v37, hv37, h⟩ := run_bind h
      refine CallH.mk [false, false] (impl_ImpliesFormula_sat hv37) ?_ ?_ <;> simp -failIfUnchanged only [↓RA, RB, RS, fx4, p1, p2, p3, p4, reduceIte, p5, p6, p7, p8, c1, c2]
      refine CondH.mk (fun c3 => ?_) (fun c3 => ?_)
      · replace h := run_t c3 h
        simp -failIfUnchanged only [↓RA, RB, RS, fx4, p1, p2, p3, p4, reduceIte, p5, p6, p7, p8, c1, c2, c3]
        refine CondH.mk (fun c4 => ?_) (fun c4 => ?_)
        · replace h := run_t c4 h
          simp -failIfUnchanged only [↓RA, RB, RS, fx4, p1, p2, p3, p4, reduceIte, p5, p6, p7, p8, c1, c2, c3, c4]
          obtain ⟨v50, hv50, h⟩ := run_bind h
          refine CallH.mk [false] (toFormula_sat hv50) ?_ ?_ <;> simp -failIfUnchanged only [↓RA, RB, RS, fx4, p1, p2, p3, p4, reduceIte, p5, p6, p7, p8, c1, c2, c3, c4]
          repeat (first | with_reducible refine noR_and (by repeat (first | exact noR_empty _ _ | exact noR_nilS _ _ | refine noR_mk _ _ _ _ _ rfl ?_ | refine noR_mkS _ _ _ _ _ rfl ?_)) ?_ | with_reducible refine noC_and (by repeat (first | exact noC_empty _ _ (by simp -failIfUnchanged only [↓RA, RB, RS, fx4, p1, p2, p3, p4, reduceIte, p5, p6, p7, p8]) | exact noC_nilS _ _ (by simp -failIfUnchanged only [↓RA, RB, RS, fx4, p1, p2, p3, p4, reduceIte, p5, p6, p7, p8]) | refine noC_mk _ _ _ _ _ rfl ?_ | refine noC_mkS _ _ _ _ _ rfl ?_)) ?_ | with_reducible refine and_ac ?_ | with_reducible refine And.intro (a := _ = List.range _) (by rfl) ?_)
          obtain ⟨v51, hv51, h⟩ := run_bind h
          refine CallH.mk [false, false] (eqFormula_sat hv51) ?_ ?_ <;> simp -failIfUnchanged only [↓RA, RB, RS, fx4, p1, p2, p3, p4, reduceIte, p5, p6, p7, p8, c1, c2, c3, c4]
          refine And.intro (DrawH.mk [] [800, 801] (by rfl) (by first | rfl | (simp -failIfUnchanged only [↓RA, RB, RS, fx4, p1, p2, p3, p4, reduceIte, p5, p6, p7, p8] <;> rfl)) (by first | rfl | (simp -failIfUnchanged only [↓RA, RB, RS, fx4, p1, p2, p3, p4, reduceIte, p5, p6, p7, p8] <;> rfl)) (by first | rfl | (simp -failIfUnchanged only [↓RA, RB, RS, fx4, p1, p2, p3, p4, reduceIte, p5, p6, p7, p8] <;> rfl)) (by simp) (by simp -failIfUnchanged only [↓RA, RB, RS, fx4, p1, p2, p3, p4, reduceIte, p5, p6, p7, p8]; repeat (first | exact noC_empty _ _ (by simp -failIfUnchanged only [↓RA, RB, RS, fx4, p1, p2, p3, p4, reduceIte, p5, p6, p7, p8]) | exact noC_nilS _ _ (by simp -failIfUnchanged only [↓RA, RB, RS, fx4, p1, p2, p3, p4, reduceIte, p5, p6, p7, p8]) | refine noC_mk _ _ _ _ _ rfl ?_ | refine noC_mkS _ _ _ _ _ rfl ?_ | refine And.intro ?_ ?_))) ?_
          simp -failIfUnchanged only [↓RA, RB, RS, fx4, p1, p2, p3, p4, reduceIte, p5, p6, p7, p8, c1, c2, c3, c4]
          refine CondH.mk (fun c5 => ?_) (fun c5 => ?_)
          · replace h := run_t c5 h
            simp -failIfUnchanged only [↓RA, RB, RS, fx4, p1, p2, p3, p4, reduceIte, p5, p6, p7, p8, c1, c2, c3, c4, c5]
            obtain ⟨v55, hv55, h⟩ := run_bind h
            refine CallH.mk [false] (toFormula_sat hv55) ?_ ?_ <;> simp -failIfUnchanged only [↓RA, RB, RS, fx4, p1, p2, p3, p4, reduceIte, p5, p6, p7, p8, c1, c2, c3, c4, c5]
            repeat (first | with_reducible refine noR_and (by repeat (first | exact noR_empty _ _ | exact noR_nilS _ _ | refine noR_mk _ _ _ _ _ rfl ?_ | refine noR_mkS _ _ _ _ _ rfl ?_)) ?_ | with_reducible refine noC_and (by repeat (first | exact noC_empty _ _ (by simp -failIfUnchanged only [↓RA, RB, RS, fx4, p1, p2, p3, p4, reduceIte, p5, p6, p7, p8]) | exact noC_nilS _ _ (by simp -failIfUnchanged only [↓RA, RB, RS, fx4, p1, p2, p3, p4, reduceIte, p5, p6, p7, p8]) | refine noC_mk _ _ _ _ _ rfl ?_ | refine noC_mkS _ _ _ _ _ rfl ?_)) ?_ | with_reducible refine and_ac ?_ | with_reducible refine And.intro (a := _ = List.range _) (by rfl) ?_)
            obtain ⟨v56, hv56, h⟩ := run_bind h
            refine CallH.mk [false, false] (eqFormula_sat hv56) ?_ ?_ <;> simp -failIfUnchanged only [↓RA, RB, RS, fx4, p1, p2, p3, p4, reduceIte, p5, p6, p7, p8, c1, c2, c3, c4, c5]
            refine And.intro (DrawH.mk [] [880, 881] (by rfl) (by first | rfl | (simp -failIfUnchanged only [↓RA, RB, RS, fx4, p1, p2, p3, p4, reduceIte, p5, p6, p7, p8] <;> rfl)) (by first | rfl | (simp -failIfUnchanged only [↓RA, RB, RS, fx4, p1, p2, p3, p4, reduceIte, p5, p6, p7, p8] <;> rfl)) (by first | rfl | (simp -failIfUnchanged only [↓RA, RB, RS, fx4, p1, p2, p3, p4, reduceIte, p5, p6, p7, p8] <;> rfl)) (by simp) (by simp -failIfUnchanged only [↓RA, RB, RS, fx4, p1, p2, p3, p4, reduceIte, p5, p6, p7, p8]; repeat (first | exact noC_empty _ _ (by simp -failIfUnchanged only [↓RA, RB, RS, fx4, p1, p2, p3, p4, reduceIte, p5, p6, p7, p8]) | exact noC_nilS _ _ (by simp -failIfUnchanged only [↓RA, RB, RS, fx4, p1, p2, p3, p4, reduceIte, p5, p6, p7, p8]) | refine noC_mk _ _ _ _ _ rfl ?_ | refine noC_mkS _ _ _ _ _ rfl ?_ | refine And.intro ?_ ?_))) ?_
            simp -failIfUnchanged only [↓RA, RB, RS, fx4, p1, p2, p3, p4, reduceIte, p5, p6, p7, p8, c1, c2, c3, c4, c5]
            refine CondH.mk (fun c6 => ?_) (fun c6 => ?_)
            · replace h := run_t c6 h
              simp -failIfUnchanged only [↓RA, RB, RS, fx4, p1, p2, p3, p4, reduceIte, p5, p6, p7, p8, c1, c2, c3, c4, c5, c6]
              have h := run_some h
              obtain rfl : _ = r := h
              refine FinH.l ?_
              simp -failIfUnchanged only [↓RA, RB, RS, fx4, p1, p2, p3, p4, reduceIte, p5, p6, p7, p8, c1, c2, c3, c4, c5, c6]
            · replace h := run_f c6 h
              simp -failIfUnchanged only [↓RA, RB, RS, fx4, p1, p2, p3, p4, reduceIte, p5, p6, p7, p8, c1, c2, c3, c4, c5, c6]
              have h := run_some h
              obtain rfl : _ = r := h
              refine FinH.l ?_
              simp -failIfUnchanged only [↓RA, RB, RS, fx4, p1, p2, p3, p4, reduceIte, p5, p6, p7, p8, c1, c2, c3, c4, c5, c6]
          · replace h := run_f c5 h
            simp -failIfUnchanged only [↓RA, RB, RS, fx4, p1, p2, p3, p4, reduceIte, p5, p6, p7, p8, c1, c2, c3, c4, c5]
            have h := run_some h
            obtain rfl : _ = r := h
            refine FinH.l ?_
            simp -failIfUnchanged only [↓RA, RB, RS, fx4, p1, p2, p3, p4, reduceIte, p5, p6, p7, p8, c1, c2, c3, c4, c5]
        · replace h := run_f c4 h
          simp -failIfUnchanged only [↓RA, RB, RS, fx4, p1, p2, p3, p4, reduceIte, p5, p6, p7, p8, c1, c2, c3, c4]
          have h := run_some h
          obtain rfl : _ = r := h
          refine FinH.l ?_
          simp -failIfUnchanged only [↓RA, RB, RS, fx4, p1, p2, p3, p4, reduceIte, p5, p6, p7, p8, c1, c2, c3, c4]
      · replace h := run_f c3 h
        simp -failIfUnchanged only [↓RA, RB, RS, fx4, p1, p2, p3, p4, reduceIte, p5, p6, p7, p8, c1, c2, c3]
        have h := run_some h
        obtain rfl : _ = r := h
        refine FinH.l ?_
        simp -failIfUnchanged only [↓RA, RB, RS, fx4, p1, p2, p3, p4, reduceIte, p5, p6, p7, p8, c1, c2, c3]

end Go.Proofs.YtkokcfphepmeeaaGreatDoor
