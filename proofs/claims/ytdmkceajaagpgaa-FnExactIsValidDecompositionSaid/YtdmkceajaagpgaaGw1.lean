/- A part of the proof: lemmas only; nothing is claimed here beyond what each lemma says. -/
import Derived.Test.YtdmkceajaagpgaaGw0
set_option linter.unusedSimpArgs false
set_option linter.unusedVariables false
set_option linter.defProp false
set_option maxRecDepth 4000
namespace Go.Proofs.Ytdmkceajaagpgaa
open Go.Av
def fx144 := And.intro @ty_3 <| And.intro @zc_3 <| And.intro @z_3 <| And.intro @ty_4 <| And.intro @zc_4 <| And.intro @z_4 <| And.intro @u_4 <| And.intro @ty_5 <| And.intro @zc_5 <| And.intro @z_5 <| And.intro @ty_9 <| And.intro @zc_9 <| And.intro @z_9 <| @u_9
set_option maxHeartbeats 4000000 in
theorem impl_isVariable_sat {a0 : ByteArray}  {r : Bool} (h : impl_isVariable a0 = some r) : Sat Try.prog 144 [(Sx a0)] (B r) := by
  replace h := Run.of h
  unfold impl_isVariable at h
  refine Sat.of_m (nt := 40) (rs := [.tmp 2]) (n := 100000) Try.func144 rfl rfl rfl rfl (by simp) ?_
  simp -dsimp -implicitDefEqProofs -failIfUnchanged only [↓RA, RB, RS, fx144, Nat.reduceLT, Nat.reduceAdd, Nat.reduceMul, Nat.reduceEqDiff, reduceIte, Nat.reduceBEq, Nat.reduceLeDiff, Nat.reduceSub, Int.reduceToNat]
  obtain ⟨N2, hN2, h⟩ := run_bind h
  obtain ⟨hN2a, hN2b⟩ := bnd_some hN2
  replace h := run_loop h
  refine Mg.forN h (fun i2 s2 => [(0, .val (.pv (Sx a0))), (5, .val (.pv (I (a0.size : Int)))), (6, .val (.pv (I (i2 : Int))))]) (fun i2 s2 => []) (St.le_mk2 (by simp -dsimp -implicitDefEqProofs -failIfUnchanged only [↓RA, RB, RS, fx144, Nat.reduceLT, Nat.reduceAdd, Nat.reduceMul, Nat.reduceEqDiff, reduceIte, Nat.reduceBEq, Nat.reduceLeDiff, Nat.reduceSub, Int.reduceToNat])) (fun i2 s2 hi h => ?_) (fun s2 h => ?_)
  · have w2 := wrap_succ (i := i2) (by omega)
    simp -dsimp -implicitDefEqProofs -failIfUnchanged only [↓RA, RB, RS, fx144, Nat.reduceLT, Nat.reduceAdd, Nat.reduceMul, Nat.reduceEqDiff, reduceIte, Nat.reduceBEq, Nat.reduceLeDiff, Nat.reduceSub, Int.reduceToNat]
    refine CondH.tt (decide_eq_true (by omega)) (fun c1 => ?_)
    simp -dsimp -implicitDefEqProofs -failIfUnchanged only [↓RA, RB, RS, fx144, Nat.reduceLT, Nat.reduceAdd, Nat.reduceMul, Nat.reduceEqDiff, reduceIte, Nat.reduceBEq, Nat.reduceLeDiff, Nat.reduceSub, Int.reduceToNat, c1]
    refine CondH.mk (fun c2 => ?_) (fun c2 => ?_)
    · replace h := run_t c2 h
      simp -dsimp -implicitDefEqProofs -failIfUnchanged only [↓RA, RB, RS, fx144, Nat.reduceLT, Nat.reduceAdd, Nat.reduceMul, Nat.reduceEqDiff, reduceIte, Nat.reduceBEq, Nat.reduceLeDiff, Nat.reduceSub, Int.reduceToNat, c1, c2]
      obtain ⟨v14, hv14, h⟩ := run_bind h
      refine SidxH.mk hv14 ?_
      simp -dsimp -implicitDefEqProofs -failIfUnchanged only [↓RA, RB, RS, fx144, Nat.reduceLT, Nat.reduceAdd, Nat.reduceMul, Nat.reduceEqDiff, reduceIte, Nat.reduceBEq, Nat.reduceLeDiff, Nat.reduceSub, Int.reduceToNat, c1, c2]
      obtain ⟨v15, hv15, h⟩ := run_bind h
      refine CallH.mk [false] (impl_isUpper_sat hv15) ?_ ?_ <;> simp -dsimp -implicitDefEqProofs -failIfUnchanged only [↓RA, RB, RS, fx144, Nat.reduceLT, Nat.reduceAdd, Nat.reduceMul, Nat.reduceEqDiff, reduceIte, Nat.reduceBEq, Nat.reduceLeDiff, Nat.reduceSub, Int.reduceToNat, c1, c2]
      refine CondH.mk (fun c3 => ?_) (fun c3 => ?_)
      · replace h := run_t c3 h
        simp -dsimp -implicitDefEqProofs -failIfUnchanged only [↓RA, RB, RS, fx144, Nat.reduceLT, Nat.reduceAdd, Nat.reduceMul, Nat.reduceEqDiff, reduceIte, Nat.reduceBEq, Nat.reduceLeDiff, Nat.reduceSub, Int.reduceToNat, c1, c2, c3]
        refine CondH.mk (fun c4 => ?_) (fun c4 => ?_)
        · replace h := run_t c4 h
          simp -dsimp -implicitDefEqProofs -failIfUnchanged only [↓RA, RB, RS, fx144, Nat.reduceLT, Nat.reduceAdd, Nat.reduceMul, Nat.reduceEqDiff, reduceIte, Nat.reduceBEq, Nat.reduceLeDiff, Nat.reduceSub, Int.reduceToNat, c1, c2, c3, c4]
          obtain ⟨v24, hv24, h⟩ := run_bind h
          refine SidxH.mk hv24 ?_
          simp -dsimp -implicitDefEqProofs -failIfUnchanged only [↓RA, RB, RS, fx144, Nat.reduceLT, Nat.reduceAdd, Nat.reduceMul, Nat.reduceEqDiff, reduceIte, Nat.reduceBEq, Nat.reduceLeDiff, Nat.reduceSub, Int.reduceToNat, c1, c2, c3, c4]
          obtain ⟨v25, hv25, h⟩ := run_bind h
          refine CallH.mk [false] (impl_isLower_sat hv25) ?_ ?_ <;> simp -dsimp -implicitDefEqProofs -failIfUnchanged only [↓RA, RB, RS, fx144, Nat.reduceLT, Nat.reduceAdd, Nat.reduceMul, Nat.reduceEqDiff, reduceIte, Nat.reduceBEq, Nat.reduceLeDiff, Nat.reduceSub, Int.reduceToNat, c1, c2, c3, c4]
          refine CondH.mk (fun c5 => ?_) (fun c5 => ?_)
          · replace h := run_t c5 h
            simp -dsimp -implicitDefEqProofs -failIfUnchanged only [↓RA, RB, RS, fx144, Nat.reduceLT, Nat.reduceAdd, Nat.reduceMul, Nat.reduceEqDiff, reduceIte, Nat.reduceBEq, Nat.reduceLeDiff, Nat.reduceSub, Int.reduceToNat, c1, c2, c3, c4, c5]
            have h := run_some h
            refine RdH.mk ⟨_, h, ?_⟩
            refine St.le_mk2 ?_
            simp -dsimp -implicitDefEqProofs -failIfUnchanged only [↓RA, RB, RS, fx144, Nat.reduceLT, Nat.reduceAdd, Nat.reduceMul, Nat.reduceEqDiff, reduceIte, Nat.reduceBEq, Nat.reduceLeDiff, Nat.reduceSub, Int.reduceToNat, c1, c2, c3, c4, c5, w2]
          · replace h := run_f c5 h
            simp -dsimp -implicitDefEqProofs -failIfUnchanged only [↓RA, RB, RS, fx144, Nat.reduceLT, Nat.reduceAdd, Nat.reduceMul, Nat.reduceEqDiff, reduceIte, Nat.reduceBEq, Nat.reduceLeDiff, Nat.reduceSub, Int.reduceToNat, c1, c2, c3, c4, c5]
            obtain ⟨v31, hv31, h⟩ := run_bind h
            refine SidxH.mk hv31 ?_
            simp -dsimp -implicitDefEqProofs -failIfUnchanged only [↓RA, RB, RS, fx144, Nat.reduceLT, Nat.reduceAdd, Nat.reduceMul, Nat.reduceEqDiff, reduceIte, Nat.reduceBEq, Nat.reduceLeDiff, Nat.reduceSub, Int.reduceToNat, c1, c2, c3, c4, c5]
            obtain ⟨v32, hv32, h⟩ := run_bind h
            refine CallH.mk [false] (impl_isDigit_sat hv32) ?_ ?_ <;> simp -dsimp -implicitDefEqProofs -failIfUnchanged only [↓RA, RB, RS, fx144, Nat.reduceLT, Nat.reduceAdd, Nat.reduceMul, Nat.reduceEqDiff, reduceIte, Nat.reduceBEq, Nat.reduceLeDiff, Nat.reduceSub, Int.reduceToNat, c1, c2, c3, c4, c5]
            refine CondH.mk (fun c6 => ?_) (fun c6 => ?_)
            · replace h := run_t c6 h
              simp -dsimp -implicitDefEqProofs -failIfUnchanged only [↓RA, RB, RS, fx144, Nat.reduceLT, Nat.reduceAdd, Nat.reduceMul, Nat.reduceEqDiff, reduceIte, Nat.reduceBEq, Nat.reduceLeDiff, Nat.reduceSub, Int.reduceToNat, c1, c2, c3, c4, c5, c6]
              have h := run_some h
              refine RdH.mk ⟨_, h, ?_⟩
              refine St.le_mk2 ?_
              simp -dsimp -implicitDefEqProofs -failIfUnchanged only [↓RA, RB, RS, fx144, Nat.reduceLT, Nat.reduceAdd, Nat.reduceMul, Nat.reduceEqDiff, reduceIte, Nat.reduceBEq, Nat.reduceLeDiff, Nat.reduceSub, Int.reduceToNat, c1, c2, c3, c4, c5, c6, w2]
            · replace h := run_f c6 h
              simp -dsimp -implicitDefEqProofs -failIfUnchanged only [↓RA, RB, RS, fx144, Nat.reduceLT, Nat.reduceAdd, Nat.reduceMul, Nat.reduceEqDiff, reduceIte, Nat.reduceBEq, Nat.reduceLeDiff, Nat.reduceSub, Int.reduceToNat, c1, c2, c3, c4, c5, c6]
              have h := run_some h
              obtain rfl : _ = r := h
              refine FinH.l ?_
              simp -dsimp -implicitDefEqProofs -failIfUnchanged only [↓RA, RB, RS, fx144, Nat.reduceLT, Nat.reduceAdd, Nat.reduceMul, Nat.reduceEqDiff, reduceIte, Nat.reduceBEq, Nat.reduceLeDiff, Nat.reduceSub, Int.reduceToNat]
        · replace h := run_f c4 h
          simp -dsimp -implicitDefEqProofs -failIfUnchanged only [↓RA, RB, RS, fx144, Nat.reduceLT, Nat.reduceAdd, Nat.reduceMul, Nat.reduceEqDiff, reduceIte, Nat.reduceBEq, Nat.reduceLeDiff, Nat.reduceSub, Int.reduceToNat, c1, c2, c3, c4]
          have h := run_some h
          refine RdH.mk ⟨_, h, ?_⟩
          refine St.le_mk2 ?_
          simp -dsimp -implicitDefEqProofs -failIfUnchanged only [↓RA, RB, RS, fx144, Nat.reduceLT, Nat.reduceAdd, Nat.reduceMul, Nat.reduceEqDiff, reduceIte, Nat.reduceBEq, Nat.reduceLeDiff, Nat.reduceSub, Int.reduceToNat, c1, c2, c3, c4, w2]
      · replace h := run_f c3 h
        simp -dsimp -implicitDefEqProofs -failIfUnchanged only [↓RA, RB, RS, fx144, Nat.reduceLT, Nat.reduceAdd, Nat.reduceMul, Nat.reduceEqDiff, reduceIte, Nat.reduceBEq, Nat.reduceLeDiff, Nat.reduceSub, Int.reduceToNat, c1, c2, c3]
        have h := run_some h
        obtain rfl : _ = r := h
        refine FinH.l ?_
        simp -dsimp -implicitDefEqProofs -failIfUnchanged only [↓RA, RB, RS, fx144, Nat.reduceLT, Nat.reduceAdd, Nat.reduceMul, Nat.reduceEqDiff, reduceIte, Nat.reduceBEq, Nat.reduceLeDiff, Nat.reduceSub, Int.reduceToNat]
    · replace h := run_f c2 h
      simp -dsimp -implicitDefEqProofs -failIfUnchanged only [↓RA, RB, RS, fx144, Nat.reduceLT, Nat.reduceAdd, Nat.reduceMul, Nat.reduceEqDiff, reduceIte, Nat.reduceBEq, Nat.reduceLeDiff, Nat.reduceSub, Int.reduceToNat, c1, c2]
      refine CondH.mk (fun c7 => ?_) (fun c7 => ?_)
      · replace h := run_t c7 h
        simp -dsimp -implicitDefEqProofs -failIfUnchanged only [↓RA, RB, RS, fx144, Nat.reduceLT, Nat.reduceAdd, Nat.reduceMul, Nat.reduceEqDiff, reduceIte, Nat.reduceBEq, Nat.reduceLeDiff, Nat.reduceSub, Int.reduceToNat, c1, c2, c7]
        obtain ⟨v24, hv24, h⟩ := run_bind h
        refine SidxH.mk hv24 ?_
        simp -dsimp -implicitDefEqProofs -failIfUnchanged only [↓RA, RB, RS, fx144, Nat.reduceLT, Nat.reduceAdd, Nat.reduceMul, Nat.reduceEqDiff, reduceIte, Nat.reduceBEq, Nat.reduceLeDiff, Nat.reduceSub, Int.reduceToNat, c1, c2, c7]
        obtain ⟨v25, hv25, h⟩ := run_bind h
        refine CallH.mk [false] (impl_isLower_sat hv25) ?_ ?_ <;> simp -dsimp -implicitDefEqProofs -failIfUnchanged only [↓RA, RB, RS, fx144, Nat.reduceLT, Nat.reduceAdd, Nat.reduceMul, Nat.reduceEqDiff, reduceIte, Nat.reduceBEq, Nat.reduceLeDiff, Nat.reduceSub, Int.reduceToNat, c1, c2, c7]
        refine CondH.mk (fun c8 => ?_) (fun c8 => ?_)
        · replace h := run_t c8 h
          simp -dsimp -implicitDefEqProofs -failIfUnchanged only [↓RA, RB, RS, fx144, Nat.reduceLT, Nat.reduceAdd, Nat.reduceMul, Nat.reduceEqDiff, reduceIte, Nat.reduceBEq, Nat.reduceLeDiff, Nat.reduceSub, Int.reduceToNat, c1, c2, c7, c8]
          have h := run_some h
          refine RdH.mk ⟨_, h, ?_⟩
          refine St.le_mk2 ?_
          simp -dsimp -implicitDefEqProofs -failIfUnchanged only [↓RA, RB, RS, fx144, Nat.reduceLT, Nat.reduceAdd, Nat.reduceMul, Nat.reduceEqDiff, reduceIte, Nat.reduceBEq, Nat.reduceLeDiff, Nat.reduceSub, Int.reduceToNat, c1, c2, c7, c8, w2]
        · replace h := run_f c8 h
          simp -dsimp -implicitDefEqProofs -failIfUnchanged only [↓RA, RB, RS, fx144, Nat.reduceLT, Nat.reduceAdd, Nat.reduceMul, Nat.reduceEqDiff, reduceIte, Nat.reduceBEq, Nat.reduceLeDiff, Nat.reduceSub, Int.reduceToNat, c1, c2, c7, c8]
          obtain ⟨v31, hv31, h⟩ := run_bind h
          refine SidxH.mk hv31 ?_
          simp -dsimp -implicitDefEqProofs -failIfUnchanged only [↓RA, RB, RS, fx144, Nat.reduceLT, Nat.reduceAdd, Nat.reduceMul, Nat.reduceEqDiff, reduceIte, Nat.reduceBEq, Nat.reduceLeDiff, Nat.reduceSub, Int.reduceToNat, c1, c2, c7, c8]
          obtain ⟨v32, hv32, h⟩ := run_bind h
          refine CallH.mk [false] (impl_isDigit_sat hv32) ?_ ?_ <;> simp -dsimp -implicitDefEqProofs -failIfUnchanged only [↓RA, RB, RS, fx144, Nat.reduceLT, Nat.reduceAdd, Nat.reduceMul, Nat.reduceEqDiff, reduceIte, Nat.reduceBEq, Nat.reduceLeDiff, Nat.reduceSub, Int.reduceToNat, c1, c2, c7, c8]
          refine CondH.mk (fun c9 => ?_) (fun c9 => ?_)
          · replace h := run_t c9 h
            simp -dsimp -implicitDefEqProofs -failIfUnchanged only [↓RA, RB, RS, fx144, Nat.reduceLT, Nat.reduceAdd, Nat.reduceMul, Nat.reduceEqDiff, reduceIte, Nat.reduceBEq, Nat.reduceLeDiff, Nat.reduceSub, Int.reduceToNat, c1, c2, c7, c8, c9]
            have h := run_some h
            refine RdH.mk ⟨_, h, ?_⟩
            refine St.le_mk2 ?_
            simp -dsimp -implicitDefEqProofs -failIfUnchanged only [↓RA, RB, RS, fx144, Nat.reduceLT, Nat.reduceAdd, Nat.reduceMul, Nat.reduceEqDiff, reduceIte, Nat.reduceBEq, Nat.reduceLeDiff, Nat.reduceSub, Int.reduceToNat, c1, c2, c7, c8, c9, w2]
          · replace h := run_f c9 h
            simp -dsimp -implicitDefEqProofs -failIfUnchanged only [↓RA, RB, RS, fx144, Nat.reduceLT, Nat.reduceAdd, Nat.reduceMul, Nat.reduceEqDiff, reduceIte, Nat.reduceBEq, Nat.reduceLeDiff, Nat.reduceSub, Int.reduceToNat, c1, c2, c7, c8, c9]
            have h := run_some h
            obtain rfl : _ = r := h
            refine FinH.l ?_
            simp -dsimp -implicitDefEqProofs -failIfUnchanged only [↓RA, RB, RS, fx144, Nat.reduceLT, Nat.reduceAdd, Nat.reduceMul, Nat.reduceEqDiff, reduceIte, Nat.reduceBEq, Nat.reduceLeDiff, Nat.reduceSub, Int.reduceToNat]
      · replace h := run_f c7 h
        simp -dsimp -implicitDefEqProofs -failIfUnchanged only [↓RA, RB, RS, fx144, Nat.reduceLT, Nat.reduceAdd, Nat.reduceMul, Nat.reduceEqDiff, reduceIte, Nat.reduceBEq, Nat.reduceLeDiff, Nat.reduceSub, Int.reduceToNat, c1, c2, c7]
        have h := run_some h
        refine RdH.mk ⟨_, h, ?_⟩
        refine St.le_mk2 ?_
        simp -dsimp -implicitDefEqProofs -failIfUnchanged only [↓RA, RB, RS, fx144, Nat.reduceLT, Nat.reduceAdd, Nat.reduceMul, Nat.reduceEqDiff, reduceIte, Nat.reduceBEq, Nat.reduceLeDiff, Nat.reduceSub, Int.reduceToNat, c1, c2, c7, w2]
  · simp -dsimp -implicitDefEqProofs -failIfUnchanged only [↓RA, RB, RS, fx144, Nat.reduceLT, Nat.reduceAdd, Nat.reduceMul, Nat.reduceEqDiff, reduceIte, Nat.reduceBEq, Nat.reduceLeDiff, Nat.reduceSub, Int.reduceToNat]
    refine CondH.ff (decide_eq_false (by omega)) (fun c10 => ?_)
    simp -dsimp -implicitDefEqProofs -failIfUnchanged only [↓RA, RB, RS, fx144, Nat.reduceLT, Nat.reduceAdd, Nat.reduceMul, Nat.reduceEqDiff, reduceIte, Nat.reduceBEq, Nat.reduceLeDiff, Nat.reduceSub, Int.reduceToNat, c10]
    obtain ⟨v39, hv39, h⟩ := run_bind h
    refine CallH.mk [false, false, false] (impl_within_sat hv39) ?_ ?_ <;> simp -dsimp -implicitDefEqProofs -failIfUnchanged only [↓RA, RB, RS, fx144, Nat.reduceLT, Nat.reduceAdd, Nat.reduceMul, Nat.reduceEqDiff, reduceIte, Nat.reduceBEq, Nat.reduceLeDiff, Nat.reduceSub, Int.reduceToNat, c10]
    have h := run_some h
    obtain rfl : _ = r := h
    refine FinH.l ?_
    simp -dsimp -implicitDefEqProofs -failIfUnchanged only [↓RA, RB, RS, fx144, Nat.reduceLT, Nat.reduceAdd, Nat.reduceMul, Nat.reduceEqDiff, reduceIte, Nat.reduceBEq, Nat.reduceLeDiff, Nat.reduceSub, Int.reduceToNat]

def fx297 := And.intro @ty_65 <| And.intro @zc_65 <| And.intro @z_65 <| And.intro @es_65 <| And.intro @eb_65 <| And.intro @sl_65 <| And.intro @is_65 <| And.intro @el_65 <| And.intro @ze_65 <| @ez_65
set_option maxHeartbeats 4000000 in
theorem impl_reserved_sat   {r : List ByteArray} (h : impl_reserved  = some r) : Sat Try.prog 297 [] (.sl true 1 (r.map Sx)) := by
  replace h := Run.of h
  unfold impl_reserved at h
  refine Sat.of_m (nt := 2) (rs := [.tmp 0]) (n := 100000) Try.func297 rfl rfl rfl rfl (by simp) ?_
  simp -dsimp -implicitDefEqProofs -failIfUnchanged only [↓RA, RB, RS, fx297, Nat.reduceLT, Nat.reduceAdd, Nat.reduceMul, Nat.reduceEqDiff, reduceIte, Nat.reduceBEq, Nat.reduceLeDiff, Nat.reduceSub, Int.reduceToNat]
  repeat (first | with_reducible refine noR_and (by repeat (first | exact noR_empty _ _ | exact noR_nilS _ _ | refine noR_mk _ _ _ _ _ rfl ?_ | refine noR_mkS _ _ _ _ _ rfl ?_)) ?_ | with_reducible refine noC_and (by repeat (first | exact noC_empty _ _ (by simp -dsimp -implicitDefEqProofs -failIfUnchanged only [↓RA, RB, RS, fx297, Nat.reduceLT, Nat.reduceAdd, Nat.reduceMul, Nat.reduceEqDiff, reduceIte, Nat.reduceBEq, Nat.reduceLeDiff, Nat.reduceSub, Int.reduceToNat]) | exact noC_nilS _ _ (by simp -dsimp -implicitDefEqProofs -failIfUnchanged only [↓RA, RB, RS, fx297, Nat.reduceLT, Nat.reduceAdd, Nat.reduceMul, Nat.reduceEqDiff, reduceIte, Nat.reduceBEq, Nat.reduceLeDiff, Nat.reduceSub, Int.reduceToNat]) | refine noC_mk _ _ _ _ _ rfl ?_ | refine noC_mkS _ _ _ _ _ rfl ?_)) ?_ | with_reducible refine and_ac ?_ | with_reducible refine And.intro (a := _ = List.range _) (by rfl) ?_)
  have h := run_some h
  obtain rfl : _ = r := h
  refine FinH.l ?_
  simp -dsimp -implicitDefEqProofs -failIfUnchanged only [↓RA, RB, RS, fx297, Nat.reduceLT, Nat.reduceAdd, Nat.reduceMul, Nat.reduceEqDiff, reduceIte, Nat.reduceBEq, Nat.reduceLeDiff, Nat.reduceSub, Int.reduceToNat]

def fx330 := And.intro @ty_3 <| And.intro @zc_3 <| And.intro @z_3 <| And.intro @ty_9 <| And.intro @zc_9 <| And.intro @z_9 <| And.intro @u_9 <| And.intro @ty_65 <| And.intro @zc_65 <| And.intro @z_65 <| And.intro @es_65 <| And.intro @eb_65 <| And.intro @sl_65 <| And.intro @is_65 <| And.intro @el_65 <| And.intro @ze_65 <| @ez_65
set_option maxHeartbeats 4000000 in
theorem slices_Index_Sstring_string_sat {a0 : List ByteArray} {a1 : ByteArray}  {r : Int} (h : slices_Index_Sstring_string a0 a1 = some r) : Sat Try.prog 330 [(.sl false 1 (a0.map Sx)), (Sx a1)] (I r) := by
  replace h := Run.of h
  unfold slices_Index_Sstring_string at h
  refine Sat.of_m (nt := 19) (rs := [.tmp 4]) (n := 100000) Try.func330 rfl rfl rfl rfl (by simp) ?_
  simp -dsimp -implicitDefEqProofs -failIfUnchanged only [↓RA, RB, RS, fx330, Nat.reduceLT, Nat.reduceAdd, Nat.reduceMul, Nat.reduceEqDiff, reduceIte, Nat.reduceBEq, Nat.reduceLeDiff, Nat.reduceSub, Int.reduceToNat]
  refine Mg.know_sl (b := false) (sz := 1) (es := a0.map Sx) 0 (by simp -dsimp -implicitDefEqProofs -failIfUnchanged only [↓RA, RB, RS, fx330, Nat.reduceLT, Nat.reduceAdd, Nat.reduceMul, Nat.reduceEqDiff, reduceIte, Nat.reduceBEq, Nat.reduceLeDiff, Nat.reduceSub, Int.reduceToNat]) fun hl0 => ?_; rw [List.length_map] at hl0
  replace h := run_loop h
  refine Mg.forN h (fun i2 s2 => [(0, .val (.pv (.sl false 1 (a0.map Sx)))), (1, .val (.pv (Sx a1))), (7, .val (.pv (I (a0.length : Int)))), (8, .val (.pv (I (i2 : Int))))]) (fun i2 s2 => []) (St.le_mk2 (by simp -dsimp -implicitDefEqProofs -failIfUnchanged only [↓RA, RB, RS, fx330, Nat.reduceLT, Nat.reduceAdd, Nat.reduceMul, Nat.reduceEqDiff, reduceIte, Nat.reduceBEq, Nat.reduceLeDiff, Nat.reduceSub, Int.reduceToNat])) (fun i2 s2 hi h => ?_) (fun s2 h => ?_)
  · have w2 := wrap_succ (i := i2) (by omega)
    simp -dsimp -implicitDefEqProofs -failIfUnchanged only [↓RA, RB, RS, fx330, Nat.reduceLT, Nat.reduceAdd, Nat.reduceMul, Nat.reduceEqDiff, reduceIte, Nat.reduceBEq, Nat.reduceLeDiff, Nat.reduceSub, Int.reduceToNat]
    refine CondH.tt (decide_eq_true (by omega)) (fun c1 => ?_)
    simp -dsimp -implicitDefEqProofs -failIfUnchanged only [↓RA, RB, RS, fx330, Nat.reduceLT, Nat.reduceAdd, Nat.reduceMul, Nat.reduceEqDiff, reduceIte, Nat.reduceBEq, Nat.reduceLeDiff, Nat.reduceSub, Int.reduceToNat, c1]
    obtain ⟨v14, hv14, h⟩ := run_bind h
    refine IdxH.mk (f := Sx) hv14 ?_ ?_ <;> simp -dsimp -implicitDefEqProofs -failIfUnchanged only [↓RA, RB, RS, fx330, Nat.reduceLT, Nat.reduceAdd, Nat.reduceMul, Nat.reduceEqDiff, reduceIte, Nat.reduceBEq, Nat.reduceLeDiff, Nat.reduceSub, Int.reduceToNat, c1]
    refine CondH.mk (fun c2 => ?_) (fun c2 => ?_)
    · replace h := run_t c2 h
      simp -dsimp -implicitDefEqProofs -failIfUnchanged only [↓RA, RB, RS, fx330, Nat.reduceLT, Nat.reduceAdd, Nat.reduceMul, Nat.reduceEqDiff, reduceIte, Nat.reduceBEq, Nat.reduceLeDiff, Nat.reduceSub, Int.reduceToNat, c1, c2]
      have h := run_some h
      obtain rfl : _ = r := h
      refine FinH.l ?_
      simp -dsimp -implicitDefEqProofs -failIfUnchanged only [↓RA, RB, RS, fx330, Nat.reduceLT, Nat.reduceAdd, Nat.reduceMul, Nat.reduceEqDiff, reduceIte, Nat.reduceBEq, Nat.reduceLeDiff, Nat.reduceSub, Int.reduceToNat]
    · replace h := run_f c2 h
      simp -dsimp -implicitDefEqProofs -failIfUnchanged only [↓RA, RB, RS, fx330, Nat.reduceLT, Nat.reduceAdd, Nat.reduceMul, Nat.reduceEqDiff, reduceIte, Nat.reduceBEq, Nat.reduceLeDiff, Nat.reduceSub, Int.reduceToNat, c1, c2]
      have h := run_some h
      refine RdH.mk ⟨_, h, ?_⟩
      refine St.le_mk2 ?_
      simp -dsimp -implicitDefEqProofs -failIfUnchanged only [↓RA, RB, RS, fx330, Nat.reduceLT, Nat.reduceAdd, Nat.reduceMul, Nat.reduceEqDiff, reduceIte, Nat.reduceBEq, Nat.reduceLeDiff, Nat.reduceSub, Int.reduceToNat, c1, c2, w2]
  · simp -dsimp -implicitDefEqProofs -failIfUnchanged only [↓RA, RB, RS, fx330, Nat.reduceLT, Nat.reduceAdd, Nat.reduceMul, Nat.reduceEqDiff, reduceIte, Nat.reduceBEq, Nat.reduceLeDiff, Nat.reduceSub, Int.reduceToNat]
    refine CondH.ff (decide_eq_false (by omega)) (fun c3 => ?_)
    simp -dsimp -implicitDefEqProofs -failIfUnchanged only [↓RA, RB, RS, fx330, Nat.reduceLT, Nat.reduceAdd, Nat.reduceMul, Nat.reduceEqDiff, reduceIte, Nat.reduceBEq, Nat.reduceLeDiff, Nat.reduceSub, Int.reduceToNat, c3]
    have h := run_some h
    obtain rfl : _ = r := h
    refine FinH.l ?_
    simp -dsimp -implicitDefEqProofs -failIfUnchanged only [↓RA, RB, RS, fx330, Nat.reduceLT, Nat.reduceAdd, Nat.reduceMul, Nat.reduceEqDiff, reduceIte, Nat.reduceBEq, Nat.reduceLeDiff, Nat.reduceSub, Int.reduceToNat]

def fx284 := And.intro @ty_3 <| And.intro @zc_3 <| And.intro @z_3 <| And.intro @ty_9 <| And.intro @zc_9 <| And.intro @z_9 <| And.intro @u_9 <| And.intro @ty_65 <| And.intro @zc_65 <| And.intro @z_65 <| And.intro @es_65 <| And.intro @eb_65 <| And.intro @sl_65 <| And.intro @is_65 <| And.intro @el_65 <| And.intro @ze_65 <| @ez_65
set_option maxHeartbeats 4000000 in
theorem slices_Contains_Sstring_string_sat {a0 : List ByteArray} {a1 : ByteArray}  {r : Bool} (h : slices_Contains_Sstring_string a0 a1 = some r) : Sat Try.prog 284 [(.sl false 1 (a0.map Sx)), (Sx a1)] (B r) := by
  replace h := Run.of h
  unfold slices_Contains_Sstring_string at h
  refine Sat.of_m (nt := 9) (rs := [.tmp 4]) (n := 100000) Try.func284 rfl rfl rfl rfl (by simp) ?_
  simp -dsimp -implicitDefEqProofs -failIfUnchanged only [↓RA, RB, RS, fx284, Nat.reduceLT, Nat.reduceAdd, Nat.reduceMul, Nat.reduceEqDiff, reduceIte, Nat.reduceBEq, Nat.reduceLeDiff, Nat.reduceSub, Int.reduceToNat]
  obtain ⟨v7, hv7, h⟩ := run_bind h
  refine CallH.mk [false, false] (slices_Index_Sstring_string_sat hv7) ?_ ?_ <;> simp -dsimp -implicitDefEqProofs -failIfUnchanged only [↓RA, RB, RS, fx284, Nat.reduceLT, Nat.reduceAdd, Nat.reduceMul, Nat.reduceEqDiff, reduceIte, Nat.reduceBEq, Nat.reduceLeDiff, Nat.reduceSub, Int.reduceToNat]
  have h := run_some h
  obtain rfl : _ = r := h
  refine FinH.l ?_
  simp -dsimp -implicitDefEqProofs -failIfUnchanged only [↓RA, RB, RS, fx284, Nat.reduceLT, Nat.reduceAdd, Nat.reduceMul, Nat.reduceEqDiff, reduceIte, Nat.reduceBEq, Nat.reduceLeDiff, Nat.reduceSub, Int.reduceToNat]

def fx227 := And.intro @ty_3 <| And.intro @zc_3 <| And.intro @z_3 <| And.intro @ty_4 <| And.intro @zc_4 <| And.intro @z_4 <| And.intro @u_4 <| And.intro @ty_5 <| And.intro @zc_5 <| And.intro @z_5 <| And.intro @ty_9 <| And.intro @zc_9 <| And.intro @z_9 <| And.intro @u_9 <| And.intro @ty_65 <| And.intro @zc_65 <| And.intro @z_65 <| And.intro @es_65 <| And.intro @eb_65 <| And.intro @sl_65 <| And.intro @is_65 <| And.intro @el_65 <| And.intro @ze_65 <| @ez_65
set_option maxHeartbeats 4000000 in
theorem impl_isSymbol_sat {a0 : ByteArray}  {r : Bool} (h : impl_isSymbol a0 = some r) : Sat Try.prog 227 [(Sx a0)] (B r) := by
  replace h := Run.of h
  unfold impl_isSymbol at h
  refine Sat.of_m (nt := 48) (rs := [.tmp 2]) (n := 100000) Try.func227 rfl rfl rfl rfl (by simp) ?_
  simp -dsimp -implicitDefEqProofs -failIfUnchanged only [↓RA, RB, RS, fx227, Nat.reduceLT, Nat.reduceAdd, Nat.reduceMul, Nat.reduceEqDiff, reduceIte, Nat.reduceBEq, Nat.reduceLeDiff, Nat.reduceSub, Int.reduceToNat]
  obtain ⟨N2, hN2, h⟩ := run_bind h
  obtain ⟨hN2a, hN2b⟩ := bnd_some hN2
  replace h := run_loop h
  refine Mg.forN h (fun i2 s2 => [(0, .val (.pv (Sx a0))), (5, .val (.pv (I (a0.size : Int)))), (6, .val (.pv (I (i2 : Int))))]) (fun i2 s2 => []) (St.le_mk2 (by simp -dsimp -implicitDefEqProofs -failIfUnchanged only [↓RA, RB, RS, fx227, Nat.reduceLT, Nat.reduceAdd, Nat.reduceMul, Nat.reduceEqDiff, reduceIte, Nat.reduceBEq, Nat.reduceLeDiff, Nat.reduceSub, Int.reduceToNat])) (fun i2 s2 hi h => ?_) (fun s2 h => ?_)
  · have w2 := wrap_succ (i := i2) (by omega)
    simp -dsimp -implicitDefEqProofs -failIfUnchanged only [↓RA, RB, RS, fx227, Nat.reduceLT, Nat.reduceAdd, Nat.reduceMul, Nat.reduceEqDiff, reduceIte, Nat.reduceBEq, Nat.reduceLeDiff, Nat.reduceSub, Int.reduceToNat]
    refine CondH.tt (decide_eq_true (by omega)) (fun c1 => ?_)
    simp -dsimp -implicitDefEqProofs -failIfUnchanged only [↓RA, RB, RS, fx227, Nat.reduceLT, Nat.reduceAdd, Nat.reduceMul, Nat.reduceEqDiff, reduceIte, Nat.reduceBEq, Nat.reduceLeDiff, Nat.reduceSub, Int.reduceToNat, c1]
    refine CondH.mk (fun c2 => ?_) (fun c2 => ?_)
    · replace h := run_t c2 h
      simp -dsimp -implicitDefEqProofs -failIfUnchanged only [↓RA, RB, RS, fx227, Nat.reduceLT, Nat.reduceAdd, Nat.reduceMul, Nat.reduceEqDiff, reduceIte, Nat.reduceBEq, Nat.reduceLeDiff, Nat.reduceSub, Int.reduceToNat, c1, c2]
      obtain ⟨v14, hv14, h⟩ := run_bind h
      refine SidxH.mk hv14 ?_
      simp -dsimp -implicitDefEqProofs -failIfUnchanged only [↓RA, RB, RS, fx227, Nat.reduceLT, Nat.reduceAdd, Nat.reduceMul, Nat.reduceEqDiff, reduceIte, Nat.reduceBEq, Nat.reduceLeDiff, Nat.reduceSub, Int.reduceToNat, c1, c2]
      obtain ⟨v15, hv15, h⟩ := run_bind h
      refine CallH.mk [false] (impl_isLower_sat hv15) ?_ ?_ <;> simp -dsimp -implicitDefEqProofs -failIfUnchanged only [↓RA, RB, RS, fx227, Nat.reduceLT, Nat.reduceAdd, Nat.reduceMul, Nat.reduceEqDiff, reduceIte, Nat.reduceBEq, Nat.reduceLeDiff, Nat.reduceSub, Int.reduceToNat, c1, c2]
      refine CondH.mk (fun c3 => ?_) (fun c3 => ?_)
      · replace h := run_t c3 h
        simp -dsimp -implicitDefEqProofs -failIfUnchanged only [↓RA, RB, RS, fx227, Nat.reduceLT, Nat.reduceAdd, Nat.reduceMul, Nat.reduceEqDiff, reduceIte, Nat.reduceBEq, Nat.reduceLeDiff, Nat.reduceSub, Int.reduceToNat, c1, c2, c3]
        obtain ⟨v21, hv21, h⟩ := run_bind h
        refine SidxH.mk hv21 ?_
        simp -dsimp -implicitDefEqProofs -failIfUnchanged only [↓RA, RB, RS, fx227, Nat.reduceLT, Nat.reduceAdd, Nat.reduceMul, Nat.reduceEqDiff, reduceIte, Nat.reduceBEq, Nat.reduceLeDiff, Nat.reduceSub, Int.reduceToNat, c1, c2, c3]
        obtain ⟨v22, hv22, h⟩ := run_bind h
        refine CallH.mk [false] (impl_isLower_sat hv22) ?_ ?_ <;> simp -dsimp -implicitDefEqProofs -failIfUnchanged only [↓RA, RB, RS, fx227, Nat.reduceLT, Nat.reduceAdd, Nat.reduceMul, Nat.reduceEqDiff, reduceIte, Nat.reduceBEq, Nat.reduceLeDiff, Nat.reduceSub, Int.reduceToNat, c1, c2, c3]
        refine CondH.mk (fun c4 => ?_) (fun c4 => ?_)
        · replace h := run_t c4 h
          simp -dsimp -implicitDefEqProofs -failIfUnchanged only [↓RA, RB, RS, fx227, Nat.reduceLT, Nat.reduceAdd, Nat.reduceMul, Nat.reduceEqDiff, reduceIte, Nat.reduceBEq, Nat.reduceLeDiff, Nat.reduceSub, Int.reduceToNat, c1, c2, c3, c4]
          have h := run_some h
          refine RdH.mk ⟨_, h, ?_⟩
          refine St.le_mk2 ?_
          simp -dsimp -implicitDefEqProofs -failIfUnchanged only [↓RA, RB, RS, fx227, Nat.reduceLT, Nat.reduceAdd, Nat.reduceMul, Nat.reduceEqDiff, reduceIte, Nat.reduceBEq, Nat.reduceLeDiff, Nat.reduceSub, Int.reduceToNat, c1, c2, c3, c4, w2]
        · replace h := run_f c4 h
          simp -dsimp -implicitDefEqProofs -failIfUnchanged only [↓RA, RB, RS, fx227, Nat.reduceLT, Nat.reduceAdd, Nat.reduceMul, Nat.reduceEqDiff, reduceIte, Nat.reduceBEq, Nat.reduceLeDiff, Nat.reduceSub, Int.reduceToNat, c1, c2, c3, c4]
          obtain ⟨v27, hv27, h⟩ := run_bind h
          refine SidxH.mk hv27 ?_
          simp -dsimp -implicitDefEqProofs -failIfUnchanged only [↓RA, RB, RS, fx227, Nat.reduceLT, Nat.reduceAdd, Nat.reduceMul, Nat.reduceEqDiff, reduceIte, Nat.reduceBEq, Nat.reduceLeDiff, Nat.reduceSub, Int.reduceToNat, c1, c2, c3, c4]
          obtain ⟨v28, hv28, h⟩ := run_bind h
          refine CallH.mk [false] (impl_isDigit_sat hv28) ?_ ?_ <;> simp -dsimp -implicitDefEqProofs -failIfUnchanged only [↓RA, RB, RS, fx227, Nat.reduceLT, Nat.reduceAdd, Nat.reduceMul, Nat.reduceEqDiff, reduceIte, Nat.reduceBEq, Nat.reduceLeDiff, Nat.reduceSub, Int.reduceToNat, c1, c2, c3, c4]
          refine CondH.mk (fun c5 => ?_) (fun c5 => ?_)
          · replace h := run_t c5 h
            simp -dsimp -implicitDefEqProofs -failIfUnchanged only [↓RA, RB, RS, fx227, Nat.reduceLT, Nat.reduceAdd, Nat.reduceMul, Nat.reduceEqDiff, reduceIte, Nat.reduceBEq, Nat.reduceLeDiff, Nat.reduceSub, Int.reduceToNat, c1, c2, c3, c4, c5]
            have h := run_some h
            refine RdH.mk ⟨_, h, ?_⟩
            refine St.le_mk2 ?_
            simp -dsimp -implicitDefEqProofs -failIfUnchanged only [↓RA, RB, RS, fx227, Nat.reduceLT, Nat.reduceAdd, Nat.reduceMul, Nat.reduceEqDiff, reduceIte, Nat.reduceBEq, Nat.reduceLeDiff, Nat.reduceSub, Int.reduceToNat, c1, c2, c3, c4, c5, w2]
          · replace h := run_f c5 h
            simp -dsimp -implicitDefEqProofs -failIfUnchanged only [↓RA, RB, RS, fx227, Nat.reduceLT, Nat.reduceAdd, Nat.reduceMul, Nat.reduceEqDiff, reduceIte, Nat.reduceBEq, Nat.reduceLeDiff, Nat.reduceSub, Int.reduceToNat, c1, c2, c3, c4, c5]
            obtain ⟨v34, hv34, h⟩ := run_bind h
            refine SidxH.mk hv34 ?_
            simp -dsimp -implicitDefEqProofs -failIfUnchanged only [↓RA, RB, RS, fx227, Nat.reduceLT, Nat.reduceAdd, Nat.reduceMul, Nat.reduceEqDiff, reduceIte, Nat.reduceBEq, Nat.reduceLeDiff, Nat.reduceSub, Int.reduceToNat, c1, c2, c3, c4, c5]
            refine CondH.mk (fun c6 => ?_) (fun c6 => ?_)
            · replace h := run_t c6 h
              simp -dsimp -implicitDefEqProofs -failIfUnchanged only [↓RA, RB, RS, fx227, Nat.reduceLT, Nat.reduceAdd, Nat.reduceMul, Nat.reduceEqDiff, reduceIte, Nat.reduceBEq, Nat.reduceLeDiff, Nat.reduceSub, Int.reduceToNat, c1, c2, c3, c4, c5, c6]
              have h := run_some h
              refine RdH.mk ⟨_, h, ?_⟩
              refine St.le_mk2 ?_
              simp -dsimp -implicitDefEqProofs -failIfUnchanged only [↓RA, RB, RS, fx227, Nat.reduceLT, Nat.reduceAdd, Nat.reduceMul, Nat.reduceEqDiff, reduceIte, Nat.reduceBEq, Nat.reduceLeDiff, Nat.reduceSub, Int.reduceToNat, c1, c2, c3, c4, c5, c6, w2]
            · replace h := run_f c6 h
              simp -dsimp -implicitDefEqProofs -failIfUnchanged only [↓RA, RB, RS, fx227, Nat.reduceLT, Nat.reduceAdd, Nat.reduceMul, Nat.reduceEqDiff, reduceIte, Nat.reduceBEq, Nat.reduceLeDiff, Nat.reduceSub, Int.reduceToNat, c1, c2, c3, c4, c5, c6]
              have h := run_some h
              obtain rfl : _ = r := h
              refine FinH.l ?_
              simp -dsimp -implicitDefEqProofs -failIfUnchanged only [↓RA, RB, RS, fx227, Nat.reduceLT, Nat.reduceAdd, Nat.reduceMul, Nat.reduceEqDiff, reduceIte, Nat.reduceBEq, Nat.reduceLeDiff, Nat.reduceSub, Int.reduceToNat]
      · replace h := run_f c3 h
        simp -dsimp -implicitDefEqProofs -failIfUnchanged only [↓RA, RB, RS, fx227, Nat.reduceLT, Nat.reduceAdd, Nat.reduceMul, Nat.reduceEqDiff, reduceIte, Nat.reduceBEq, Nat.reduceLeDiff, Nat.reduceSub, Int.reduceToNat, c1, c2, c3]
        have h := run_some h
        obtain rfl : _ = r := h
        refine FinH.l ?_
        simp -dsimp -implicitDefEqProofs -failIfUnchanged only [↓RA, RB, RS, fx227, Nat.reduceLT, Nat.reduceAdd, Nat.reduceMul, Nat.reduceEqDiff, reduceIte, Nat.reduceBEq, Nat.reduceLeDiff, Nat.reduceSub, Int.reduceToNat]
    · replace h := run_f c2 h
      simp -dsimp -implicitDefEqProofs -failIfUnchanged only [↓RA, RB, RS, fx227, Nat.reduceLT, Nat.reduceAdd, Nat.reduceMul, Nat.reduceEqDiff, reduceIte, Nat.reduceBEq, Nat.reduceLeDiff, Nat.reduceSub, Int.reduceToNat, c1, c2]
      obtain ⟨v21, hv21, h⟩ := run_bind h
      refine SidxH.mk hv21 ?_
      simp -dsimp -implicitDefEqProofs -failIfUnchanged only [↓RA, RB, RS, fx227, Nat.reduceLT, Nat.reduceAdd, Nat.reduceMul, Nat.reduceEqDiff, reduceIte, Nat.reduceBEq, Nat.reduceLeDiff, Nat.reduceSub, Int.reduceToNat, c1, c2]
      obtain ⟨v22, hv22, h⟩ := run_bind h
      refine CallH.mk [false] (impl_isLower_sat hv22) ?_ ?_ <;> simp -dsimp -implicitDefEqProofs -failIfUnchanged only [↓RA, RB, RS, fx227, Nat.reduceLT, Nat.reduceAdd, Nat.reduceMul, Nat.reduceEqDiff, reduceIte, Nat.reduceBEq, Nat.reduceLeDiff, Nat.reduceSub, Int.reduceToNat, c1, c2]
      refine CondH.mk (fun c7 => ?_) (fun c7 => ?_)
      · replace h := run_t c7 h
        simp -dsimp -implicitDefEqProofs -failIfUnchanged only [↓RA, RB, RS, fx227, Nat.reduceLT, Nat.reduceAdd, Nat.reduceMul, Nat.reduceEqDiff, reduceIte, Nat.reduceBEq, Nat.reduceLeDiff, Nat.reduceSub, Int.reduceToNat, c1, c2, c7]
        have h := run_some h
        refine RdH.mk ⟨_, h, ?_⟩
        refine St.le_mk2 ?_
        simp -dsimp -implicitDefEqProofs -failIfUnchanged only [↓RA, RB, RS, fx227, Nat.reduceLT, Nat.reduceAdd, Nat.reduceMul, Nat.reduceEqDiff, reduceIte, Nat.reduceBEq, Nat.reduceLeDiff, Nat.reduceSub, Int.reduceToNat, c1, c2, c7, w2]
      · replace h := run_f c7 h
        simp -dsimp -implicitDefEqProofs -failIfUnchanged only [↓RA, RB, RS, fx227, Nat.reduceLT, Nat.reduceAdd, Nat.reduceMul, Nat.reduceEqDiff, reduceIte, Nat.reduceBEq, Nat.reduceLeDiff, Nat.reduceSub, Int.reduceToNat, c1, c2, c7]
        obtain ⟨v27, hv27, h⟩ := run_bind h
        refine SidxH.mk hv27 ?_
        simp -dsimp -implicitDefEqProofs -failIfUnchanged only [↓RA, RB, RS, fx227, Nat.reduceLT, Nat.reduceAdd, Nat.reduceMul, Nat.reduceEqDiff, reduceIte, Nat.reduceBEq, Nat.reduceLeDiff, Nat.reduceSub, Int.reduceToNat, c1, c2, c7]
        obtain ⟨v28, hv28, h⟩ := run_bind h
        refine CallH.mk [false] (impl_isDigit_sat hv28) ?_ ?_ <;> simp -dsimp -implicitDefEqProofs -failIfUnchanged only [↓RA, RB, RS, fx227, Nat.reduceLT, Nat.reduceAdd, Nat.reduceMul, Nat.reduceEqDiff, reduceIte, Nat.reduceBEq, Nat.reduceLeDiff, Nat.reduceSub, Int.reduceToNat, c1, c2, c7]
        refine CondH.mk (fun c8 => ?_) (fun c8 => ?_)
        · replace h := run_t c8 h
          simp -dsimp -implicitDefEqProofs -failIfUnchanged only [↓RA, RB, RS, fx227, Nat.reduceLT, Nat.reduceAdd, Nat.reduceMul, Nat.reduceEqDiff, reduceIte, Nat.reduceBEq, Nat.reduceLeDiff, Nat.reduceSub, Int.reduceToNat, c1, c2, c7, c8]
          have h := run_some h
          refine RdH.mk ⟨_, h, ?_⟩
          refine St.le_mk2 ?_
          simp -dsimp -implicitDefEqProofs -failIfUnchanged only [↓RA, RB, RS, fx227, Nat.reduceLT, Nat.reduceAdd, Nat.reduceMul, Nat.reduceEqDiff, reduceIte, Nat.reduceBEq, Nat.reduceLeDiff, Nat.reduceSub, Int.reduceToNat, c1, c2, c7, c8, w2]
        · replace h := run_f c8 h
          simp -dsimp -implicitDefEqProofs -failIfUnchanged only [↓RA, RB, RS, fx227, Nat.reduceLT, Nat.reduceAdd, Nat.reduceMul, Nat.reduceEqDiff, reduceIte, Nat.reduceBEq, Nat.reduceLeDiff, Nat.reduceSub, Int.reduceToNat, c1, c2, c7, c8]
          obtain ⟨v34, hv34, h⟩ := run_bind h
          refine SidxH.mk hv34 ?_
          simp -dsimp -implicitDefEqProofs -failIfUnchanged only [↓RA, RB, RS, fx227, Nat.reduceLT, Nat.reduceAdd, Nat.reduceMul, Nat.reduceEqDiff, reduceIte, Nat.reduceBEq, Nat.reduceLeDiff, Nat.reduceSub, Int.reduceToNat, c1, c2, c7, c8]
          refine CondH.mk (fun c9 => ?_) (fun c9 => ?_)
          · replace h := run_t c9 h
            simp -dsimp -implicitDefEqProofs -failIfUnchanged only [↓RA, RB, RS, fx227, Nat.reduceLT, Nat.reduceAdd, Nat.reduceMul, Nat.reduceEqDiff, reduceIte, Nat.reduceBEq, Nat.reduceLeDiff, Nat.reduceSub, Int.reduceToNat, c1, c2, c7, c8, c9]
            have h := run_some h
            refine RdH.mk ⟨_, h, ?_⟩
            refine St.le_mk2 ?_
            simp -dsimp -implicitDefEqProofs -failIfUnchanged only [↓RA, RB, RS, fx227, Nat.reduceLT, Nat.reduceAdd, Nat.reduceMul, Nat.reduceEqDiff, reduceIte, Nat.reduceBEq, Nat.reduceLeDiff, Nat.reduceSub, Int.reduceToNat, c1, c2, c7, c8, c9, w2]
          · replace h := run_f c9 h
            simp -dsimp -implicitDefEqProofs -failIfUnchanged only [↓RA, RB, RS, fx227, Nat.reduceLT, Nat.reduceAdd, Nat.reduceMul, Nat.reduceEqDiff, reduceIte, Nat.reduceBEq, Nat.reduceLeDiff, Nat.reduceSub, Int.reduceToNat, c1, c2, c7, c8, c9]
            have h := run_some h
            obtain rfl : _ = r := h
            refine FinH.l ?_
            simp -dsimp -implicitDefEqProofs -failIfUnchanged only [↓RA, RB, RS, fx227, Nat.reduceLT, Nat.reduceAdd, Nat.reduceMul, Nat.reduceEqDiff, reduceIte, Nat.reduceBEq, Nat.reduceLeDiff, Nat.reduceSub, Int.reduceToNat]
  · simp -dsimp -implicitDefEqProofs -failIfUnchanged only [↓RA, RB, RS, fx227, Nat.reduceLT, Nat.reduceAdd, Nat.reduceMul, Nat.reduceEqDiff, reduceIte, Nat.reduceBEq, Nat.reduceLeDiff, Nat.reduceSub, Int.reduceToNat]
    refine CondH.ff (decide_eq_false (by omega)) (fun c10 => ?_)
    simp -dsimp -implicitDefEqProofs -failIfUnchanged only [↓RA, RB, RS, fx227, Nat.reduceLT, Nat.reduceAdd, Nat.reduceMul, Nat.reduceEqDiff, reduceIte, Nat.reduceBEq, Nat.reduceLeDiff, Nat.reduceSub, Int.reduceToNat, c10]
    obtain ⟨v41, hv41, h⟩ := run_bind h
    refine CallH.mk [false, false, false] (impl_within_sat hv41) ?_ ?_ <;> simp -dsimp -implicitDefEqProofs -failIfUnchanged only [↓RA, RB, RS, fx227, Nat.reduceLT, Nat.reduceAdd, Nat.reduceMul, Nat.reduceEqDiff, reduceIte, Nat.reduceBEq, Nat.reduceLeDiff, Nat.reduceSub, Int.reduceToNat, c10]
    refine CondH.mk (fun c11 => ?_) (fun c11 => ?_)
    · replace h := run_t c11 h
      simp -dsimp -implicitDefEqProofs -failIfUnchanged only [↓RA, RB, RS, fx227, Nat.reduceLT, Nat.reduceAdd, Nat.reduceMul, Nat.reduceEqDiff, reduceIte, Nat.reduceBEq, Nat.reduceLeDiff, Nat.reduceSub, Int.reduceToNat, c10, c11]
      obtain ⟨v43, hv43, h⟩ := run_bind h
      refine CallH.mk [] (impl_reserved_sat hv43) ?_ ?_ <;> simp -dsimp -implicitDefEqProofs -failIfUnchanged only [↓RA, RB, RS, fx227, Nat.reduceLT, Nat.reduceAdd, Nat.reduceMul, Nat.reduceEqDiff, reduceIte, Nat.reduceBEq, Nat.reduceLeDiff, Nat.reduceSub, Int.reduceToNat, c10, c11]
      repeat (first | with_reducible refine noR_and (by repeat (first | exact noR_empty _ _ | exact noR_nilS _ _ | refine noR_mk _ _ _ _ _ rfl ?_ | refine noR_mkS _ _ _ _ _ rfl ?_)) ?_ | with_reducible refine noC_and (by repeat (first | exact noC_empty _ _ (by simp -dsimp -implicitDefEqProofs -failIfUnchanged only [↓RA, RB, RS, fx227, Nat.reduceLT, Nat.reduceAdd, Nat.reduceMul, Nat.reduceEqDiff, reduceIte, Nat.reduceBEq, Nat.reduceLeDiff, Nat.reduceSub, Int.reduceToNat]) | exact noC_nilS _ _ (by simp -dsimp -implicitDefEqProofs -failIfUnchanged only [↓RA, RB, RS, fx227, Nat.reduceLT, Nat.reduceAdd, Nat.reduceMul, Nat.reduceEqDiff, reduceIte, Nat.reduceBEq, Nat.reduceLeDiff, Nat.reduceSub, Int.reduceToNat]) | refine noC_mk _ _ _ _ _ rfl ?_ | refine noC_mkS _ _ _ _ _ rfl ?_)) ?_ | with_reducible refine and_ac ?_ | with_reducible refine And.intro (a := _ = List.range _) (by rfl) ?_)
      obtain ⟨v45, hv45, h⟩ := run_bind h
      refine CallH.mk [false, false] (slices_Contains_Sstring_string_sat hv45) ?_ ?_ <;> simp -dsimp -implicitDefEqProofs -failIfUnchanged only [↓RA, RB, RS, fx227, Nat.reduceLT, Nat.reduceAdd, Nat.reduceMul, Nat.reduceEqDiff, reduceIte, Nat.reduceBEq, Nat.reduceLeDiff, Nat.reduceSub, Int.reduceToNat, c10, c11]
      have h := run_some h
      obtain rfl : _ = r := h
      refine FinH.l ?_
      simp -dsimp -implicitDefEqProofs -failIfUnchanged only [↓RA, RB, RS, fx227, Nat.reduceLT, Nat.reduceAdd, Nat.reduceMul, Nat.reduceEqDiff, reduceIte, Nat.reduceBEq, Nat.reduceLeDiff, Nat.reduceSub, Int.reduceToNat]
    · replace h := run_f c11 h
      simp -dsimp -implicitDefEqProofs -failIfUnchanged only [↓RA, RB, RS, fx227, Nat.reduceLT, Nat.reduceAdd, Nat.reduceMul, Nat.reduceEqDiff, reduceIte, Nat.reduceBEq, Nat.reduceLeDiff, Nat.reduceSub, Int.reduceToNat, c10, c11]
      have h := run_some h
      obtain rfl : _ = r := h
      refine FinH.l ?_
      simp -dsimp -implicitDefEqProofs -failIfUnchanged only [↓RA, RB, RS, fx227, Nat.reduceLT, Nat.reduceAdd, Nat.reduceMul, Nat.reduceEqDiff, reduceIte, Nat.reduceBEq, Nat.reduceLeDiff, Nat.reduceSub, Int.reduceToNat]

def fx185 := And.intro @ty_3 <| And.intro @zc_3 <| And.intro @z_3 <| And.intro @ty_27 <| And.intro @zc_27 <| And.intro @z_27 <| And.intro @es_27 <| And.intro @eb_27 <| And.intro @sl_27 <| And.intro @is_27 <| And.intro @el_27 <| And.intro @ze_27 <| And.intro @ez_27 <| And.intro @ty_35 <| And.intro @zc_35 <| And.intro @z_35 <| And.intro @fo_35_0 <| And.intro @fi_35_0 <| And.intro @ft_35_0 <| And.intro @fo_35_1 <| And.intro @fi_35_1 <| And.intro @ft_35_1 <| @lay_35
set_option maxHeartbeats 4000000 in
theorem slices_IndexFunc_Simpl_Term_impl_Term_sat {a0 : List Term} {a1 : Term → Option Bool} {a1_id : FuncId} {a1_cs : List PV} (a1_ok : ∀ y0 r, a1 y0 = some r → Sat Try.prog a1_id (((Term.pv false) y0) :: a1_cs) (B r)) (a1_cz : CapsOk a1_cs = True) {r : Int} (h : slices_IndexFunc_Simpl_Term_impl_Term a0 a1 = some r) : Sat Try.prog 185 [(.sl false 2 (a0.map (Term.pv false))), .clo a1_id a1_cs] (I r) := by
  replace h := Run.of h
  unfold slices_IndexFunc_Simpl_Term_impl_Term at h
  refine Sat.of_m (nt := 19) (rs := [.tmp 4]) (n := 100000) Try.func185 rfl rfl rfl rfl (by simp) ?_
  simp -dsimp -implicitDefEqProofs -failIfUnchanged only [↓RA, RB, RS, fx185, a1_cz, Nat.reduceLT, Nat.reduceAdd, Nat.reduceMul, Nat.reduceEqDiff, reduceIte, Nat.reduceBEq, Nat.reduceLeDiff, Nat.reduceSub, Int.reduceToNat]
  refine Mg.know_sl (b := false) (sz := 2) (es := a0.map (Term.pv false)) 0 (by simp -dsimp -implicitDefEqProofs -failIfUnchanged only [↓RA, RB, RS, fx185, a1_cz, Nat.reduceLT, Nat.reduceAdd, Nat.reduceMul, Nat.reduceEqDiff, reduceIte, Nat.reduceBEq, Nat.reduceLeDiff, Nat.reduceSub, Int.reduceToNat]) fun hl0 => ?_; rw [List.length_map] at hl0
  replace h := run_loop h
  refine Mg.forN h (fun i2 s2 => [(0, .val (.pv (.sl false 2 (a0.map (Term.pv false))))), (1, .val (.pv (.clo a1_id a1_cs))), (7, .val (.pv (I (a0.length : Int)))), (8, .val (.pv (I (i2 : Int))))]) (fun i2 s2 => []) (St.le_mk2 (by simp -dsimp -implicitDefEqProofs -failIfUnchanged only [↓RA, RB, RS, fx185, a1_cz, Nat.reduceLT, Nat.reduceAdd, Nat.reduceMul, Nat.reduceEqDiff, reduceIte, Nat.reduceBEq, Nat.reduceLeDiff, Nat.reduceSub, Int.reduceToNat])) (fun i2 s2 hi h => ?_) (fun s2 h => ?_)
  · have w2 := wrap_succ (i := i2) (by omega)
    simp -dsimp -implicitDefEqProofs -failIfUnchanged only [↓RA, RB, RS, fx185, a1_cz, Nat.reduceLT, Nat.reduceAdd, Nat.reduceMul, Nat.reduceEqDiff, reduceIte, Nat.reduceBEq, Nat.reduceLeDiff, Nat.reduceSub, Int.reduceToNat]
    refine CondH.tt (decide_eq_true (by omega)) (fun c1 => ?_)
    simp -dsimp -implicitDefEqProofs -failIfUnchanged only [↓RA, RB, RS, fx185, a1_cz, Nat.reduceLT, Nat.reduceAdd, Nat.reduceMul, Nat.reduceEqDiff, reduceIte, Nat.reduceBEq, Nat.reduceLeDiff, Nat.reduceSub, Int.reduceToNat, c1]
    obtain ⟨v14, hv14, h⟩ := run_bind h
    refine IdxH.mk (f := (Term.pv false)) hv14 ?_ ?_ <;> simp -dsimp -implicitDefEqProofs -failIfUnchanged only [↓RA, RB, RS, fx185, a1_cz, Nat.reduceLT, Nat.reduceAdd, Nat.reduceMul, Nat.reduceEqDiff, reduceIte, Nat.reduceBEq, Nat.reduceLeDiff, Nat.reduceSub, Int.reduceToNat, c1]
    obtain ⟨v16, hv16, h⟩ := run_bind h
    refine CallH.mk [false] (a1_ok _ _ hv16) ?_ ?_ <;> simp -dsimp -implicitDefEqProofs -failIfUnchanged only [↓RA, RB, RS, fx185, a1_cz, Nat.reduceLT, Nat.reduceAdd, Nat.reduceMul, Nat.reduceEqDiff, reduceIte, Nat.reduceBEq, Nat.reduceLeDiff, Nat.reduceSub, Int.reduceToNat, c1]
    refine CondH.mk (fun c2 => ?_) (fun c2 => ?_)
    · replace h := run_t c2 h
      simp -dsimp -implicitDefEqProofs -failIfUnchanged only [↓RA, RB, RS, fx185, a1_cz, Nat.reduceLT, Nat.reduceAdd, Nat.reduceMul, Nat.reduceEqDiff, reduceIte, Nat.reduceBEq, Nat.reduceLeDiff, Nat.reduceSub, Int.reduceToNat, c1, c2]
      have h := run_some h
      obtain rfl : _ = r := h
      refine FinH.l ?_
      simp -dsimp -implicitDefEqProofs -failIfUnchanged only [↓RA, RB, RS, fx185, a1_cz, Nat.reduceLT, Nat.reduceAdd, Nat.reduceMul, Nat.reduceEqDiff, reduceIte, Nat.reduceBEq, Nat.reduceLeDiff, Nat.reduceSub, Int.reduceToNat]
    · replace h := run_f c2 h
      simp -dsimp -implicitDefEqProofs -failIfUnchanged only [↓RA, RB, RS, fx185, a1_cz, Nat.reduceLT, Nat.reduceAdd, Nat.reduceMul, Nat.reduceEqDiff, reduceIte, Nat.reduceBEq, Nat.reduceLeDiff, Nat.reduceSub, Int.reduceToNat, c1, c2]
      have h := run_some h
      refine RdH.mk ⟨_, h, ?_⟩
      refine St.le_mk2 ?_
      simp -dsimp -implicitDefEqProofs -failIfUnchanged only [↓RA, RB, RS, fx185, a1_cz, Nat.reduceLT, Nat.reduceAdd, Nat.reduceMul, Nat.reduceEqDiff, reduceIte, Nat.reduceBEq, Nat.reduceLeDiff, Nat.reduceSub, Int.reduceToNat, c1, c2, w2]
  · simp -dsimp -implicitDefEqProofs -failIfUnchanged only [↓RA, RB, RS, fx185, a1_cz, Nat.reduceLT, Nat.reduceAdd, Nat.reduceMul, Nat.reduceEqDiff, reduceIte, Nat.reduceBEq, Nat.reduceLeDiff, Nat.reduceSub, Int.reduceToNat]
    refine CondH.ff (decide_eq_false (by omega)) (fun c3 => ?_)
    simp -dsimp -implicitDefEqProofs -failIfUnchanged only [↓RA, RB, RS, fx185, a1_cz, Nat.reduceLT, Nat.reduceAdd, Nat.reduceMul, Nat.reduceEqDiff, reduceIte, Nat.reduceBEq, Nat.reduceLeDiff, Nat.reduceSub, Int.reduceToNat, c3]
    have h := run_some h
    obtain rfl : _ = r := h
    refine FinH.l ?_
    simp -dsimp -implicitDefEqProofs -failIfUnchanged only [↓RA, RB, RS, fx185, a1_cz, Nat.reduceLT, Nat.reduceAdd, Nat.reduceMul, Nat.reduceEqDiff, reduceIte, Nat.reduceBEq, Nat.reduceLeDiff, Nat.reduceSub, Int.reduceToNat]

def fx90 := And.intro @ty_3 <| And.intro @zc_3 <| And.intro @z_3 <| And.intro @ty_27 <| And.intro @zc_27 <| And.intro @z_27 <| And.intro @es_27 <| And.intro @eb_27 <| And.intro @sl_27 <| And.intro @is_27 <| And.intro @el_27 <| And.intro @ze_27 <| And.intro @ez_27 <| And.intro @ty_132 <| And.intro @zc_132 <| @z_132
set_option maxHeartbeats 4000000 in
theorem slices_ContainsFunc_Simpl_Term_impl_Term_sat {a0 : List Term} {a1 : Term → Option Bool} {a1_id : FuncId} {a1_cs : List PV} (a1_ok : ∀ y0 r, a1 y0 = some r → Sat Try.prog a1_id (((Term.pv false) y0) :: a1_cs) (B r)) (a1_cz : CapsOk a1_cs = True) {r : Bool} (h : slices_ContainsFunc_Simpl_Term_impl_Term a0 a1 = some r) : Sat Try.prog 90 [(.sl false 2 (a0.map (Term.pv false))), .clo a1_id a1_cs] (B r) := by
  replace h := Run.of h
  unfold slices_ContainsFunc_Simpl_Term_impl_Term at h
  refine Sat.of_m (nt := 9) (rs := [.tmp 4]) (n := 100000) Try.func90 rfl rfl rfl rfl (by simp) ?_
  simp -dsimp -implicitDefEqProofs -failIfUnchanged only [↓RA, RB, RS, fx90, a1_cz, Nat.reduceLT, Nat.reduceAdd, Nat.reduceMul, Nat.reduceEqDiff, reduceIte, Nat.reduceBEq, Nat.reduceLeDiff, Nat.reduceSub, Int.reduceToNat]
  obtain ⟨v7, hv7, h⟩ := run_bind h
  refine CallH.mk [false, false] (slices_IndexFunc_Simpl_Term_impl_Term_sat a1_ok a1_cz hv7) ?_ ?_ <;> simp -dsimp -implicitDefEqProofs -failIfUnchanged only [↓RA, RB, RS, fx90, a1_cz, Nat.reduceLT, Nat.reduceAdd, Nat.reduceMul, Nat.reduceEqDiff, reduceIte, Nat.reduceBEq, Nat.reduceLeDiff, Nat.reduceSub, Int.reduceToNat]
  have h := run_some h
  obtain rfl : _ = r := h
  refine FinH.l ?_
  simp -dsimp -implicitDefEqProofs -failIfUnchanged only [↓RA, RB, RS, fx90, a1_cz, Nat.reduceLT, Nat.reduceAdd, Nat.reduceMul, Nat.reduceEqDiff, reduceIte, Nat.reduceBEq, Nat.reduceLeDiff, Nat.reduceSub, Int.reduceToNat]

def fx232 := And.intro @ty_3 <| And.intro @zc_3 <| And.intro @z_3 <| And.intro @ty_4 <| And.intro @zc_4 <| And.intro @z_4 <| And.intro @u_4 <| And.intro @ty_9 <| And.intro @zc_9 <| And.intro @z_9 <| And.intro @u_9 <| And.intro @ty_27 <| And.intro @zc_27 <| And.intro @z_27 <| And.intro @es_27 <| And.intro @eb_27 <| And.intro @sl_27 <| And.intro @is_27 <| And.intro @el_27 <| And.intro @ze_27 <| And.intro @ez_27 <| And.intro @ty_35 <| And.intro @zc_35 <| And.intro @z_35 <| And.intro @fo_35_0 <| And.intro @fi_35_0 <| And.intro @ft_35_0 <| And.intro @fo_35_1 <| And.intro @fi_35_1 <| And.intro @ft_35_1 <| And.intro @lay_35 <| And.intro @ty_132 <| And.intro @zc_132 <| @z_132
def fx300 := And.intro @ty_4 <| And.intro @zc_4 <| And.intro @z_4 <| And.intro @u_4 <| And.intro @ty_35 <| And.intro @zc_35 <| And.intro @z_35 <| And.intro @fo_35_0 <| And.intro @fi_35_0 <| And.intro @ft_35_0 <| And.intro @fo_35_1 <| And.intro @fi_35_1 <| And.intro @ft_35_1 <| @lay_35
set_option maxHeartbeats 4000000 in
theorem impl_hasNamesN_sat (n : Nat) : (∀ (a0 : Term) (r : Bool), impl_hasNamesN n a0 = some r → Sat Try.prog 232 [((Term.pv false) a0)] (B r)) ∧ (∀ (a0 : Term) (r : Bool), impl_hasNames_1N n a0 = some r → Sat Try.prog 300 [((Term.pv false) a0)] (B r)) := by
  induction n with
  | zero => exact ⟨fun _ _ h => by simp [impl_hasNamesN] at h, fun _ _ h => by simp [impl_hasNames_1N] at h⟩
  | succ n ih =>
    refine ⟨fun a0 r h => ?_, fun a0 r h => ?_⟩
    · replace h := Run.of h
      rw [impl_hasNamesN] at h
      refine Sat.of_m (nt := 25) (rs := [.tmp 2]) (n := 100000) Try.func232 rfl rfl rfl rfl (by simp) ?_
      simp -dsimp -implicitDefEqProofs -failIfUnchanged only [↓RA, RB, RS, fx232, Nat.reduceLT, Nat.reduceAdd, Nat.reduceMul, Nat.reduceEqDiff, reduceIte, Nat.reduceBEq, Nat.reduceLeDiff, Nat.reduceSub, Int.reduceToNat]
      repeat (first | with_reducible refine noR_and (by repeat (first | exact noR_empty _ _ | exact noR_nilS _ _ | refine noR_mk _ _ _ _ _ rfl ?_ | refine noR_mkS _ _ _ _ _ rfl ?_)) ?_ | with_reducible refine noC_and (by repeat (first | exact noC_empty _ _ (by simp -dsimp -implicitDefEqProofs -failIfUnchanged only [↓RA, RB, RS, fx232, Nat.reduceLT, Nat.reduceAdd, Nat.reduceMul, Nat.reduceEqDiff, reduceIte, Nat.reduceBEq, Nat.reduceLeDiff, Nat.reduceSub, Int.reduceToNat]) | exact noC_nilS _ _ (by simp -dsimp -implicitDefEqProofs -failIfUnchanged only [↓RA, RB, RS, fx232, Nat.reduceLT, Nat.reduceAdd, Nat.reduceMul, Nat.reduceEqDiff, reduceIte, Nat.reduceBEq, Nat.reduceLeDiff, Nat.reduceSub, Int.reduceToNat]) | refine noC_mk _ _ _ _ _ rfl ?_ | refine noC_mkS _ _ _ _ _ rfl ?_)) ?_ | with_reducible refine and_ac ?_ | with_reducible refine And.intro (a := _ = List.range _) (by rfl) ?_)
      obtain ⟨v5, hv5, h⟩ := run_bind h
      refine CallH.mk [false] (impl_isVariable_sat hv5) ?_ ?_ <;> simp -dsimp -implicitDefEqProofs -failIfUnchanged only [↓RA, RB, RS, fx232, Nat.reduceLT, Nat.reduceAdd, Nat.reduceMul, Nat.reduceEqDiff, reduceIte, Nat.reduceBEq, Nat.reduceLeDiff, Nat.reduceSub, Int.reduceToNat]
      refine CondH.mk (fun c1 => ?_) (fun c1 => ?_)
      · replace h := run_t c1 h
        simp -dsimp -implicitDefEqProofs -failIfUnchanged only [↓RA, RB, RS, fx232, Nat.reduceLT, Nat.reduceAdd, Nat.reduceMul, Nat.reduceEqDiff, reduceIte, Nat.reduceBEq, Nat.reduceLeDiff, Nat.reduceSub, Int.reduceToNat, c1]
        have h := run_some h
        obtain rfl : _ = r := h
        refine FinH.l ?_
        simp -dsimp -implicitDefEqProofs -failIfUnchanged only [↓RA, RB, RS, fx232, Nat.reduceLT, Nat.reduceAdd, Nat.reduceMul, Nat.reduceEqDiff, reduceIte, Nat.reduceBEq, Nat.reduceLeDiff, Nat.reduceSub, Int.reduceToNat]
      · replace h := run_f c1 h
        simp -dsimp -implicitDefEqProofs -failIfUnchanged only [↓RA, RB, RS, fx232, Nat.reduceLT, Nat.reduceAdd, Nat.reduceMul, Nat.reduceEqDiff, reduceIte, Nat.reduceBEq, Nat.reduceLeDiff, Nat.reduceSub, Int.reduceToNat, c1]
        obtain ⟨v12, hv12, h⟩ := run_bind h
        refine CallH.mk [false] (impl_isSymbol_sat hv12) ?_ ?_ <;> simp -dsimp -implicitDefEqProofs -failIfUnchanged only [↓RA, RB, RS, fx232, Nat.reduceLT, Nat.reduceAdd, Nat.reduceMul, Nat.reduceEqDiff, reduceIte, Nat.reduceBEq, Nat.reduceLeDiff, Nat.reduceSub, Int.reduceToNat, c1]
        refine CondH.mk (fun c2 => ?_) (fun c2 => ?_)
        · replace h := run_t c2 h
          simp -dsimp -implicitDefEqProofs -failIfUnchanged only [↓RA, RB, RS, fx232, Nat.reduceLT, Nat.reduceAdd, Nat.reduceMul, Nat.reduceEqDiff, reduceIte, Nat.reduceBEq, Nat.reduceLeDiff, Nat.reduceSub, Int.reduceToNat, c1, c2]
          refine CondH.mk (fun c3 => ?_) (fun c3 => ?_)
          · replace h := run_t c3 h
            simp -dsimp -implicitDefEqProofs -failIfUnchanged only [↓RA, RB, RS, fx232, Nat.reduceLT, Nat.reduceAdd, Nat.reduceMul, Nat.reduceEqDiff, reduceIte, Nat.reduceBEq, Nat.reduceLeDiff, Nat.reduceSub, Int.reduceToNat, c1, c2, c3]
            obtain ⟨v22, hv22, h⟩ := run_bind h
            refine CallH.mk [false, false] (slices_ContainsFunc_Simpl_Term_impl_Term_sat (fun _ _ hh => ih.2 _ _ hh) (by simp only [CapsOk_nil, CapsOk_cons]) hv22) ?_ ?_ <;> simp -dsimp -implicitDefEqProofs -failIfUnchanged only [↓RA, RB, RS, fx232, Nat.reduceLT, Nat.reduceAdd, Nat.reduceMul, Nat.reduceEqDiff, reduceIte, Nat.reduceBEq, Nat.reduceLeDiff, Nat.reduceSub, Int.reduceToNat, c1, c2, c3]
            have h := run_some h
            obtain rfl : _ = r := h
            refine FinH.l ?_
            simp -dsimp -implicitDefEqProofs -failIfUnchanged only [↓RA, RB, RS, fx232, Nat.reduceLT, Nat.reduceAdd, Nat.reduceMul, Nat.reduceEqDiff, reduceIte, Nat.reduceBEq, Nat.reduceLeDiff, Nat.reduceSub, Int.reduceToNat]
          · replace h := run_f c3 h
            simp -dsimp -implicitDefEqProofs -failIfUnchanged only [↓RA, RB, RS, fx232, Nat.reduceLT, Nat.reduceAdd, Nat.reduceMul, Nat.reduceEqDiff, reduceIte, Nat.reduceBEq, Nat.reduceLeDiff, Nat.reduceSub, Int.reduceToNat, c1, c2, c3]
            have h := run_some h
            obtain rfl : _ = r := h
            refine FinH.l ?_
            simp -dsimp -implicitDefEqProofs -failIfUnchanged only [↓RA, RB, RS, fx232, Nat.reduceLT, Nat.reduceAdd, Nat.reduceMul, Nat.reduceEqDiff, reduceIte, Nat.reduceBEq, Nat.reduceLeDiff, Nat.reduceSub, Int.reduceToNat]
        · replace h := run_f c2 h
          simp -dsimp -implicitDefEqProofs -failIfUnchanged only [↓RA, RB, RS, fx232, Nat.reduceLT, Nat.reduceAdd, Nat.reduceMul, Nat.reduceEqDiff, reduceIte, Nat.reduceBEq, Nat.reduceLeDiff, Nat.reduceSub, Int.reduceToNat, c1, c2]
          have h := run_some h
          obtain rfl : _ = r := h
          refine FinH.l ?_
          simp -dsimp -implicitDefEqProofs -failIfUnchanged only [↓RA, RB, RS, fx232, Nat.reduceLT, Nat.reduceAdd, Nat.reduceMul, Nat.reduceEqDiff, reduceIte, Nat.reduceBEq, Nat.reduceLeDiff, Nat.reduceSub, Int.reduceToNat]
    · replace h := Run.of h
      rw [impl_hasNames_1N] at h
      refine Sat.of_m (nt := 6) (rs := [.tmp 2]) (n := 100000) Try.func300 rfl rfl rfl rfl (by simp) ?_
      simp -dsimp -implicitDefEqProofs -failIfUnchanged only [↓RA, RB, RS, fx300, Nat.reduceLT, Nat.reduceAdd, Nat.reduceMul, Nat.reduceEqDiff, reduceIte, Nat.reduceBEq, Nat.reduceLeDiff, Nat.reduceSub, Int.reduceToNat]
      repeat (first | with_reducible refine noR_and (by repeat (first | exact noR_empty _ _ | exact noR_nilS _ _ | refine noR_mk _ _ _ _ _ rfl ?_ | refine noR_mkS _ _ _ _ _ rfl ?_)) ?_ | with_reducible refine noC_and (by repeat (first | exact noC_empty _ _ (by simp -dsimp -implicitDefEqProofs -failIfUnchanged only [↓RA, RB, RS, fx300, Nat.reduceLT, Nat.reduceAdd, Nat.reduceMul, Nat.reduceEqDiff, reduceIte, Nat.reduceBEq, Nat.reduceLeDiff, Nat.reduceSub, Int.reduceToNat]) | exact noC_nilS _ _ (by simp -dsimp -implicitDefEqProofs -failIfUnchanged only [↓RA, RB, RS, fx300, Nat.reduceLT, Nat.reduceAdd, Nat.reduceMul, Nat.reduceEqDiff, reduceIte, Nat.reduceBEq, Nat.reduceLeDiff, Nat.reduceSub, Int.reduceToNat]) | refine noC_mk _ _ _ _ _ rfl ?_ | refine noC_mkS _ _ _ _ _ rfl ?_)) ?_ | with_reducible refine and_ac ?_ | with_reducible refine And.intro (a := _ = List.range _) (by rfl) ?_)
      obtain ⟨v4, hv4, h⟩ := run_bind h
      refine CallH.mk [false] (ih.1 _ _ hv4) ?_ ?_ <;> simp -dsimp -implicitDefEqProofs -failIfUnchanged only [↓RA, RB, RS, fx300, Nat.reduceLT, Nat.reduceAdd, Nat.reduceMul, Nat.reduceEqDiff, reduceIte, Nat.reduceBEq, Nat.reduceLeDiff, Nat.reduceSub, Int.reduceToNat]
      have h := run_some h
      obtain rfl : _ = r := h
      refine FinH.l ?_
      simp -dsimp -implicitDefEqProofs -failIfUnchanged only [↓RA, RB, RS, fx300, Nat.reduceLT, Nat.reduceAdd, Nat.reduceMul, Nat.reduceEqDiff, reduceIte, Nat.reduceBEq, Nat.reduceLeDiff, Nat.reduceSub, Int.reduceToNat]
theorem impl_hasNames_sat {a0 : Term} {r : Bool} (h : impl_hasNames a0 = some r) : Sat Try.prog 232 [((Term.pv false) a0)] (B r) := by
  obtain ⟨n, hn⟩ := lim_some h
  exact (impl_hasNamesN_sat n).1 _ _ hn
theorem impl_hasNames_1_sat {a0 : Term} {r : Bool} (h : impl_hasNames_1 a0 = some r) : Sat Try.prog 300 [((Term.pv false) a0)] (B r) := by
  obtain ⟨n, hn⟩ := lim_some h
  exact (impl_hasNamesN_sat n).2 _ _ hn

def fx125 := And.intro @ty_35 <| And.intro @zc_35 <| And.intro @z_35 <| And.intro @fo_35_0 <| And.intro @fi_35_0 <| And.intro @ft_35_0 <| And.intro @fo_35_1 <| And.intro @fi_35_1 <| And.intro @ft_35_1 <| @lay_35
set_option maxHeartbeats 4000000 in
theorem impl_IsValidTerm_sat {a0 : Term}  {r : Bool} (h : impl_IsValidTerm a0 = some r) : Sat Try.prog 125 [((Term.pv false) a0)] (B r) := by
  replace h := Run.of h
  unfold impl_IsValidTerm at h
  refine Sat.of_m (nt := 9) (rs := [.tmp 2]) (n := 100000) Try.func125 rfl rfl rfl rfl (by simp) ?_
  simp -dsimp -implicitDefEqProofs -failIfUnchanged only [↓RA, RB, RS, fx125, Nat.reduceLT, Nat.reduceAdd, Nat.reduceMul, Nat.reduceEqDiff, reduceIte, Nat.reduceBEq, Nat.reduceLeDiff, Nat.reduceSub, Int.reduceToNat]
  repeat (first | with_reducible refine noR_and (by repeat (first | exact noR_empty _ _ | exact noR_nilS _ _ | refine noR_mk _ _ _ _ _ rfl ?_ | refine noR_mkS _ _ _ _ _ rfl ?_)) ?_ | with_reducible refine noC_and (by repeat (first | exact noC_empty _ _ (by simp -dsimp -implicitDefEqProofs -failIfUnchanged only [↓RA, RB, RS, fx125, Nat.reduceLT, Nat.reduceAdd, Nat.reduceMul, Nat.reduceEqDiff, reduceIte, Nat.reduceBEq, Nat.reduceLeDiff, Nat.reduceSub, Int.reduceToNat]) | exact noC_nilS _ _ (by simp -dsimp -implicitDefEqProofs -failIfUnchanged only [↓RA, RB, RS, fx125, Nat.reduceLT, Nat.reduceAdd, Nat.reduceMul, Nat.reduceEqDiff, reduceIte, Nat.reduceBEq, Nat.reduceLeDiff, Nat.reduceSub, Int.reduceToNat]) | refine noC_mk _ _ _ _ _ rfl ?_ | refine noC_mkS _ _ _ _ _ rfl ?_)) ?_ | with_reducible refine and_ac ?_ | with_reducible refine And.intro (a := _ = List.range _) (by rfl) ?_)
  obtain ⟨v4, hv4, h⟩ := run_bind h
  refine CallH.mk [false] (impl_isSmall_sat hv4) ?_ ?_ <;> simp -dsimp -implicitDefEqProofs -failIfUnchanged only [↓RA, RB, RS, fx125, Nat.reduceLT, Nat.reduceAdd, Nat.reduceMul, Nat.reduceEqDiff, reduceIte, Nat.reduceBEq, Nat.reduceLeDiff, Nat.reduceSub, Int.reduceToNat]
  refine CondH.mk (fun c1 => ?_) (fun c1 => ?_)
  · replace h := run_t c1 h
    simp -dsimp -implicitDefEqProofs -failIfUnchanged only [↓RA, RB, RS, fx125, Nat.reduceLT, Nat.reduceAdd, Nat.reduceMul, Nat.reduceEqDiff, reduceIte, Nat.reduceBEq, Nat.reduceLeDiff, Nat.reduceSub, Int.reduceToNat, c1]
    obtain ⟨v7, hv7, h⟩ := run_bind h
    refine CallH.mk [false] (impl_hasNames_sat hv7) ?_ ?_ <;> simp -dsimp -implicitDefEqProofs -failIfUnchanged only [↓RA, RB, RS, fx125, Nat.reduceLT, Nat.reduceAdd, Nat.reduceMul, Nat.reduceEqDiff, reduceIte, Nat.reduceBEq, Nat.reduceLeDiff, Nat.reduceSub, Int.reduceToNat, c1]
    have h := run_some h
    obtain rfl : _ = r := h
    refine FinH.l ?_
    simp -dsimp -implicitDefEqProofs -failIfUnchanged only [↓RA, RB, RS, fx125, Nat.reduceLT, Nat.reduceAdd, Nat.reduceMul, Nat.reduceEqDiff, reduceIte, Nat.reduceBEq, Nat.reduceLeDiff, Nat.reduceSub, Int.reduceToNat]
  · replace h := run_f c1 h
    simp -dsimp -implicitDefEqProofs -failIfUnchanged only [↓RA, RB, RS, fx125, Nat.reduceLT, Nat.reduceAdd, Nat.reduceMul, Nat.reduceEqDiff, reduceIte, Nat.reduceBEq, Nat.reduceLeDiff, Nat.reduceSub, Int.reduceToNat, c1]
    have h := run_some h
    obtain rfl : _ = r := h
    refine FinH.l ?_
    simp -dsimp -implicitDefEqProofs -failIfUnchanged only [↓RA, RB, RS, fx125, Nat.reduceLT, Nat.reduceAdd, Nat.reduceMul, Nat.reduceEqDiff, reduceIte, Nat.reduceBEq, Nat.reduceLeDiff, Nat.reduceSub, Int.reduceToNat]

def fx233 := And.intro @ty_5 <| And.intro @zc_5 <| And.intro @z_5 <| And.intro @ty_9 <| And.intro @zc_9 <| And.intro @z_9 <| And.intro @u_9 <| And.intro @ty_35 <| And.intro @zc_35 <| And.intro @z_35 <| And.intro @fo_35_0 <| And.intro @fi_35_0 <| And.intro @ft_35_0 <| And.intro @fo_35_1 <| And.intro @fi_35_1 <| And.intro @ft_35_1 <| @lay_35
set_option maxHeartbeats 4000000 in
theorem impl_isVar_sat {a0 : Term}  {r : Bool} (h : impl_isVar a0 = some r) : Sat Try.prog 233 [((Term.pv false) a0)] (B r) := by
  replace h := Run.of h
  unfold impl_isVar at h
  refine Sat.of_m (nt := 7) (rs := [.tmp 2]) (n := 100000) Try.func233 rfl rfl rfl rfl (by simp) ?_
  simp -dsimp -implicitDefEqProofs -failIfUnchanged only [↓RA, RB, RS, fx233, Nat.reduceLT, Nat.reduceAdd, Nat.reduceMul, Nat.reduceEqDiff, reduceIte, Nat.reduceBEq, Nat.reduceLeDiff, Nat.reduceSub, Int.reduceToNat]
  repeat (first | with_reducible refine noR_and (by repeat (first | exact noR_empty _ _ | exact noR_nilS _ _ | refine noR_mk _ _ _ _ _ rfl ?_ | refine noR_mkS _ _ _ _ _ rfl ?_)) ?_ | with_reducible refine noC_and (by repeat (first | exact noC_empty _ _ (by simp -dsimp -implicitDefEqProofs -failIfUnchanged only [↓RA, RB, RS, fx233, Nat.reduceLT, Nat.reduceAdd, Nat.reduceMul, Nat.reduceEqDiff, reduceIte, Nat.reduceBEq, Nat.reduceLeDiff, Nat.reduceSub, Int.reduceToNat]) | exact noC_nilS _ _ (by simp -dsimp -implicitDefEqProofs -failIfUnchanged only [↓RA, RB, RS, fx233, Nat.reduceLT, Nat.reduceAdd, Nat.reduceMul, Nat.reduceEqDiff, reduceIte, Nat.reduceBEq, Nat.reduceLeDiff, Nat.reduceSub, Int.reduceToNat]) | refine noC_mk _ _ _ _ _ rfl ?_ | refine noC_mkS _ _ _ _ _ rfl ?_)) ?_ | with_reducible refine and_ac ?_ | with_reducible refine And.intro (a := _ = List.range _) (by rfl) ?_)
  obtain ⟨v5, hv5, h⟩ := run_bind h
  refine SidxH.mk hv5 ?_
  simp -dsimp -implicitDefEqProofs -failIfUnchanged only [↓RA, RB, RS, fx233, Nat.reduceLT, Nat.reduceAdd, Nat.reduceMul, Nat.reduceEqDiff, reduceIte, Nat.reduceBEq, Nat.reduceLeDiff, Nat.reduceSub, Int.reduceToNat]
  obtain ⟨v6, hv6, h⟩ := run_bind h
  refine CallH.mk [false] (impl_isUpper_sat hv6) ?_ ?_ <;> simp -dsimp -implicitDefEqProofs -failIfUnchanged only [↓RA, RB, RS, fx233, Nat.reduceLT, Nat.reduceAdd, Nat.reduceMul, Nat.reduceEqDiff, reduceIte, Nat.reduceBEq, Nat.reduceLeDiff, Nat.reduceSub, Int.reduceToNat]
  have h := run_some h
  obtain rfl : _ = r := h
  refine FinH.l ?_
  simp -dsimp -implicitDefEqProofs -failIfUnchanged only [↓RA, RB, RS, fx233, Nat.reduceLT, Nat.reduceAdd, Nat.reduceMul, Nat.reduceEqDiff, reduceIte, Nat.reduceBEq, Nat.reduceLeDiff, Nat.reduceSub, Int.reduceToNat]

def fx188 := And.intro @ty_3 <| And.intro @zc_3 <| And.intro @z_3 <| And.intro @ty_4 <| And.intro @zc_4 <| And.intro @z_4 <| And.intro @u_4 <| And.intro @ty_9 <| And.intro @zc_9 <| And.intro @z_9 <| And.intro @u_9 <| And.intro @ty_27 <| And.intro @zc_27 <| And.intro @z_27 <| And.intro @es_27 <| And.intro @eb_27 <| And.intro @sl_27 <| And.intro @is_27 <| And.intro @el_27 <| And.intro @ze_27 <| And.intro @ez_27 <| And.intro @ty_35 <| And.intro @zc_35 <| And.intro @z_35 <| And.intro @fo_35_0 <| And.intro @fi_35_0 <| And.intro @ft_35_0 <| And.intro @fo_35_1 <| And.intro @fi_35_1 <| And.intro @ft_35_1 <| And.intro @lay_35 <| And.intro @ty_65 <| And.intro @zc_65 <| And.intro @z_65 <| And.intro @es_65 <| And.intro @eb_65 <| And.intro @sl_65 <| And.intro @is_65 <| And.intro @el_65 <| And.intro @ze_65 <| @ez_65
set_option maxHeartbeats 4000000 in
theorem impl_collectN_sat (n : Nat) : (∀ (a0 : List ByteArray) (a1 : Term) (r : List ByteArray), impl_collectN n a0 a1 = some r → Sat Try.prog 188 [(.sl true 1 (a0.map Sx)), ((Term.pv false) a1)] (.sl true 1 (r.map Sx))) := by
  induction n with
  | zero => exact fun _ _ _ h => by simp [impl_collectN] at h
  | succ n ih =>
    refine fun a0 a1 r h => ?_
    replace h := Run.of h
    rw [impl_collectN] at h
    refine Sat.of_m (nt := 38) (rs := [.tmp 4]) (n := 100000) Try.func188 rfl rfl rfl rfl (by simp) ?_
    simp -dsimp -implicitDefEqProofs -failIfUnchanged only [↓RA, RB, RS, fx188, Nat.reduceLT, Nat.reduceAdd, Nat.reduceMul, Nat.reduceEqDiff, reduceIte, Nat.reduceBEq, Nat.reduceLeDiff, Nat.reduceSub, Int.reduceToNat]
    repeat (first | with_reducible refine noR_and (by repeat (first | exact noR_empty _ _ | exact noR_nilS _ _ | refine noR_mk _ _ _ _ _ rfl ?_ | refine noR_mkS _ _ _ _ _ rfl ?_)) ?_ | with_reducible refine noC_and (by repeat (first | exact noC_empty _ _ (by simp -dsimp -implicitDefEqProofs -failIfUnchanged only [↓RA, RB, RS, fx188, Nat.reduceLT, Nat.reduceAdd, Nat.reduceMul, Nat.reduceEqDiff, reduceIte, Nat.reduceBEq, Nat.reduceLeDiff, Nat.reduceSub, Int.reduceToNat]) | exact noC_nilS _ _ (by simp -dsimp -implicitDefEqProofs -failIfUnchanged only [↓RA, RB, RS, fx188, Nat.reduceLT, Nat.reduceAdd, Nat.reduceMul, Nat.reduceEqDiff, reduceIte, Nat.reduceBEq, Nat.reduceLeDiff, Nat.reduceSub, Int.reduceToNat]) | refine noC_mk _ _ _ _ _ rfl ?_ | refine noC_mkS _ _ _ _ _ rfl ?_)) ?_ | with_reducible refine and_ac ?_ | with_reducible refine And.intro (a := _ = List.range _) (by rfl) ?_)
    refine CondH.mk (fun c1 => ?_) (fun c1 => ?_)
    · replace h := run_t c1 h
      simp -dsimp -implicitDefEqProofs -failIfUnchanged only [↓RA, RB, RS, fx188, Nat.reduceLT, Nat.reduceAdd, Nat.reduceMul, Nat.reduceEqDiff, reduceIte, Nat.reduceBEq, Nat.reduceLeDiff, Nat.reduceSub, Int.reduceToNat, c1]
      obtain ⟨v13, hv13, h⟩ := run_bind h
      refine CallH.mk [false] (impl_isVar_sat hv13) ?_ ?_ <;> simp -dsimp -implicitDefEqProofs -failIfUnchanged only [↓RA, RB, RS, fx188, Nat.reduceLT, Nat.reduceAdd, Nat.reduceMul, Nat.reduceEqDiff, reduceIte, Nat.reduceBEq, Nat.reduceLeDiff, Nat.reduceSub, Int.reduceToNat, c1]
      refine CondH.mk (fun c2 => ?_) (fun c2 => ?_)
      · replace h := run_t c2 h
        simp -dsimp -implicitDefEqProofs -failIfUnchanged only [↓RA, RB, RS, fx188, Nat.reduceLT, Nat.reduceAdd, Nat.reduceMul, Nat.reduceEqDiff, reduceIte, Nat.reduceBEq, Nat.reduceLeDiff, Nat.reduceSub, Int.reduceToNat, c1, c2]
        obtain ⟨v18, hv18, h⟩ := run_bind h
        refine CallH.mk [false, false] (slices_Contains_Sstring_string_sat hv18) ?_ ?_ <;> simp -dsimp -implicitDefEqProofs -failIfUnchanged only [↓RA, RB, RS, fx188, Nat.reduceLT, Nat.reduceAdd, Nat.reduceMul, Nat.reduceEqDiff, reduceIte, Nat.reduceBEq, Nat.reduceLeDiff, Nat.reduceSub, Int.reduceToNat, c1, c2]
        refine CondH.mk (fun c3 => ?_) (fun c3 => ?_)
        · replace h := run_t c3 h
          simp -dsimp -implicitDefEqProofs -failIfUnchanged only [↓RA, RB, RS, fx188, Nat.reduceLT, Nat.reduceAdd, Nat.reduceMul, Nat.reduceEqDiff, reduceIte, Nat.reduceBEq, Nat.reduceLeDiff, Nat.reduceSub, Int.reduceToNat, c1, c2, c3]
          have h := run_some h
          obtain rfl : _ = r := h
          refine FinH.l ?_
          simp -dsimp -implicitDefEqProofs -failIfUnchanged only [↓RA, RB, RS, fx188, Nat.reduceLT, Nat.reduceAdd, Nat.reduceMul, Nat.reduceEqDiff, reduceIte, Nat.reduceBEq, Nat.reduceLeDiff, Nat.reduceSub, Int.reduceToNat]
        · replace h := run_f c3 h
          simp -dsimp -implicitDefEqProofs -failIfUnchanged only [↓RA, RB, RS, fx188, Nat.reduceLT, Nat.reduceAdd, Nat.reduceMul, Nat.reduceEqDiff, reduceIte, Nat.reduceBEq, Nat.reduceLeDiff, Nat.reduceSub, Int.reduceToNat, c1, c2, c3]
          repeat (first | with_reducible refine noR_and (by repeat (first | exact noR_empty _ _ | exact noR_nilS _ _ | refine noR_mk _ _ _ _ _ rfl ?_ | refine noR_mkS _ _ _ _ _ rfl ?_)) ?_ | with_reducible refine noC_and (by repeat (first | exact noC_empty _ _ (by simp -dsimp -implicitDefEqProofs -failIfUnchanged only [↓RA, RB, RS, fx188, Nat.reduceLT, Nat.reduceAdd, Nat.reduceMul, Nat.reduceEqDiff, reduceIte, Nat.reduceBEq, Nat.reduceLeDiff, Nat.reduceSub, Int.reduceToNat]) | exact noC_nilS _ _ (by simp -dsimp -implicitDefEqProofs -failIfUnchanged only [↓RA, RB, RS, fx188, Nat.reduceLT, Nat.reduceAdd, Nat.reduceMul, Nat.reduceEqDiff, reduceIte, Nat.reduceBEq, Nat.reduceLeDiff, Nat.reduceSub, Int.reduceToNat]) | refine noC_mk _ _ _ _ _ rfl ?_ | refine noC_mkS _ _ _ _ _ rfl ?_)) ?_ | with_reducible refine and_ac ?_ | with_reducible refine And.intro (a := _ = List.range _) (by rfl) ?_)
          obtain ⟨v24, hv24, h⟩ := run_bind h
          refine AppH.mk (f := Sx) (fun _ => rfl) hv24 ?_ ?_ ?_ <;> simp -dsimp -implicitDefEqProofs -failIfUnchanged only [↓RA, RB, RS, fx188, Nat.reduceLT, Nat.reduceAdd, Nat.reduceMul, Nat.reduceEqDiff, reduceIte, Nat.reduceBEq, Nat.reduceLeDiff, Nat.reduceSub, Int.reduceToNat, c1, c2, c3]
          repeat (first | with_reducible refine noR_and (by repeat (first | exact noR_empty _ _ | exact noR_nilS _ _ | refine noR_mk _ _ _ _ _ rfl ?_ | refine noR_mkS _ _ _ _ _ rfl ?_)) ?_ | with_reducible refine noC_and (by repeat (first | exact noC_empty _ _ (by simp -dsimp -implicitDefEqProofs -failIfUnchanged only [↓RA, RB, RS, fx188, Nat.reduceLT, Nat.reduceAdd, Nat.reduceMul, Nat.reduceEqDiff, reduceIte, Nat.reduceBEq, Nat.reduceLeDiff, Nat.reduceSub, Int.reduceToNat]) | exact noC_nilS _ _ (by simp -dsimp -implicitDefEqProofs -failIfUnchanged only [↓RA, RB, RS, fx188, Nat.reduceLT, Nat.reduceAdd, Nat.reduceMul, Nat.reduceEqDiff, reduceIte, Nat.reduceBEq, Nat.reduceLeDiff, Nat.reduceSub, Int.reduceToNat]) | refine noC_mk _ _ _ _ _ rfl ?_ | refine noC_mkS _ _ _ _ _ rfl ?_)) ?_ | with_reducible refine and_ac ?_ | with_reducible refine And.intro (a := _ = List.range _) (by rfl) ?_)
          have h := run_some h
          obtain rfl : _ = r := h
          refine FinH.l ?_
          simp -dsimp -implicitDefEqProofs -failIfUnchanged only [↓RA, RB, RS, fx188, Nat.reduceLT, Nat.reduceAdd, Nat.reduceMul, Nat.reduceEqDiff, reduceIte, Nat.reduceBEq, Nat.reduceLeDiff, Nat.reduceSub, Int.reduceToNat]
      · replace h := run_f c2 h
        simp -dsimp -implicitDefEqProofs -failIfUnchanged only [↓RA, RB, RS, fx188, Nat.reduceLT, Nat.reduceAdd, Nat.reduceMul, Nat.reduceEqDiff, reduceIte, Nat.reduceBEq, Nat.reduceLeDiff, Nat.reduceSub, Int.reduceToNat, c1, c2]
        refine Mg.know_sl (b := false) (sz := 2) (es := a1.Args.map (Term.pv false)) 8 (by simp -dsimp -implicitDefEqProofs -failIfUnchanged only [↓RA, RB, RS, fx188, Nat.reduceLT, Nat.reduceAdd, Nat.reduceMul, Nat.reduceEqDiff, reduceIte, Nat.reduceBEq, Nat.reduceLeDiff, Nat.reduceSub, Int.reduceToNat, c1, c2]) fun hl8 => ?_; rw [List.length_map] at hl8
        replace h := run_loop h
        refine Mg.forN h (fun i6 s6 => [(0, .val (.own 10000)), (27, .val (.pv (.sl false 2 (a1.Args.map (Term.pv false))))), (28, .val (.pv (I (a1.Args.length : Int)))), (29, .val (.pv (I (i6 : Int))))]) (fun i6 s6 => [(10000, (1, s6.map Sx))]) (St.le_mk2 (by simp -dsimp -implicitDefEqProofs -failIfUnchanged only [↓RA, RB, RS, fx188, Nat.reduceLT, Nat.reduceAdd, Nat.reduceMul, Nat.reduceEqDiff, reduceIte, Nat.reduceBEq, Nat.reduceLeDiff, Nat.reduceSub, Int.reduceToNat, c1, c2])) (fun i6 s6 hi h => ?_) (fun s6 h => ?_)
        · have w6 := wrap_succ (i := i6) (by omega)
          simp -dsimp -implicitDefEqProofs -failIfUnchanged only [↓RA, RB, RS, fx188, Nat.reduceLT, Nat.reduceAdd, Nat.reduceMul, Nat.reduceEqDiff, reduceIte, Nat.reduceBEq, Nat.reduceLeDiff, Nat.reduceSub, Int.reduceToNat, c1, c2]
          refine CondH.tt (decide_eq_true (by omega)) (fun c4 => ?_)
          simp -dsimp -implicitDefEqProofs -failIfUnchanged only [↓RA, RB, RS, fx188, Nat.reduceLT, Nat.reduceAdd, Nat.reduceMul, Nat.reduceEqDiff, reduceIte, Nat.reduceBEq, Nat.reduceLeDiff, Nat.reduceSub, Int.reduceToNat, c1, c2, c4]
          obtain ⟨v31, hv31, h⟩ := run_bind h
          refine IdxH.mk (f := (Term.pv false)) hv31 ?_ ?_ <;> simp -dsimp -implicitDefEqProofs -failIfUnchanged only [↓RA, RB, RS, fx188, Nat.reduceLT, Nat.reduceAdd, Nat.reduceMul, Nat.reduceEqDiff, reduceIte, Nat.reduceBEq, Nat.reduceLeDiff, Nat.reduceSub, Int.reduceToNat, c1, c2, c4]
          repeat (first | with_reducible refine noR_and (by repeat (first | exact noR_empty _ _ | exact noR_nilS _ _ | refine noR_mk _ _ _ _ _ rfl ?_ | refine noR_mkS _ _ _ _ _ rfl ?_)) ?_ | with_reducible refine noC_and (by repeat (first | exact noC_empty _ _ (by simp -dsimp -implicitDefEqProofs -failIfUnchanged only [↓RA, RB, RS, fx188, Nat.reduceLT, Nat.reduceAdd, Nat.reduceMul, Nat.reduceEqDiff, reduceIte, Nat.reduceBEq, Nat.reduceLeDiff, Nat.reduceSub, Int.reduceToNat]) | exact noC_nilS _ _ (by simp -dsimp -implicitDefEqProofs -failIfUnchanged only [↓RA, RB, RS, fx188, Nat.reduceLT, Nat.reduceAdd, Nat.reduceMul, Nat.reduceEqDiff, reduceIte, Nat.reduceBEq, Nat.reduceLeDiff, Nat.reduceSub, Int.reduceToNat]) | refine noC_mk _ _ _ _ _ rfl ?_ | refine noC_mkS _ _ _ _ _ rfl ?_)) ?_ | with_reducible refine and_ac ?_ | with_reducible refine And.intro (a := _ = List.range _) (by rfl) ?_)
          obtain ⟨v35, hv35, h⟩ := run_bind h
          refine CallH.mk [true, false] (ih _ _ _ hv35) ?_ ?_ <;> simp -dsimp -implicitDefEqProofs -failIfUnchanged only [↓RA, RB, RS, fx188, Nat.reduceLT, Nat.reduceAdd, Nat.reduceMul, Nat.reduceEqDiff, reduceIte, Nat.reduceBEq, Nat.reduceLeDiff, Nat.reduceSub, Int.reduceToNat, c1, c2, c4]
          repeat (first | with_reducible refine noR_and (by repeat (first | exact noR_empty _ _ | exact noR_nilS _ _ | refine noR_mk _ _ _ _ _ rfl ?_ | refine noR_mkS _ _ _ _ _ rfl ?_)) ?_ | with_reducible refine noC_and (by repeat (first | exact noC_empty _ _ (by simp -dsimp -implicitDefEqProofs -failIfUnchanged only [↓RA, RB, RS, fx188, Nat.reduceLT, Nat.reduceAdd, Nat.reduceMul, Nat.reduceEqDiff, reduceIte, Nat.reduceBEq, Nat.reduceLeDiff, Nat.reduceSub, Int.reduceToNat]) | exact noC_nilS _ _ (by simp -dsimp -implicitDefEqProofs -failIfUnchanged only [↓RA, RB, RS, fx188, Nat.reduceLT, Nat.reduceAdd, Nat.reduceMul, Nat.reduceEqDiff, reduceIte, Nat.reduceBEq, Nat.reduceLeDiff, Nat.reduceSub, Int.reduceToNat]) | refine noC_mk _ _ _ _ _ rfl ?_ | refine noC_mkS _ _ _ _ _ rfl ?_)) ?_ | with_reducible refine and_ac ?_ | with_reducible refine And.intro (a := _ = List.range _) (by rfl) ?_)
          have h := run_some h
          refine RdH.mk ⟨_, h, ?_⟩
          refine St.le_trans (St.le_mk (S := [(0, .val (.own 560)), (27, .val (.pv (.sl false 2 (a1.Args.map (Term.pv false))))), (28, .val (.pv (I (a1.Args.length : Int)))), (29, .val (.pv (I (IntKind.i64.wrap ((i6 : Int) + (1 : Int))))))]) (O := [(560, (1, v35.map Sx))]) (by simp -dsimp -implicitDefEqProofs -failIfUnchanged only [↓RA, RB, RS, fx188, Nat.reduceLT, Nat.reduceAdd, Nat.reduceMul, Nat.reduceEqDiff, reduceIte, Nat.reduceBEq, Nat.reduceLeDiff, Nat.reduceSub, Int.reduceToNat, c1, c2, c4, w6]) (by simp -dsimp -implicitDefEqProofs -failIfUnchanged only [↓RA, RB, RS, fx188, Nat.reduceLT, Nat.reduceAdd, Nat.reduceMul, Nat.reduceEqDiff, reduceIte, Nat.reduceBEq, Nat.reduceLeDiff, Nat.reduceSub, Int.reduceToNat, c1, c2, c4, w6])) ?_
          refine St.le_rn 560 10000 (by decide) (by repeat (first | exact noC_empty _ _ (by simp -dsimp -implicitDefEqProofs -failIfUnchanged only [↓RA, RB, RS, fx188, Nat.reduceLT, Nat.reduceAdd, Nat.reduceMul, Nat.reduceEqDiff, reduceIte, Nat.reduceBEq, Nat.reduceLeDiff, Nat.reduceSub, Int.reduceToNat]) | exact noC_nilS _ _ (by simp -dsimp -implicitDefEqProofs -failIfUnchanged only [↓RA, RB, RS, fx188, Nat.reduceLT, Nat.reduceAdd, Nat.reduceMul, Nat.reduceEqDiff, reduceIte, Nat.reduceBEq, Nat.reduceLeDiff, Nat.reduceSub, Int.reduceToNat]) | refine noC_mk _ _ _ _ _ rfl ?_ | refine noC_mkS _ _ _ _ _ rfl ?_)) ?_
          refine St.le_mk2 ?_
          simp -dsimp -implicitDefEqProofs -failIfUnchanged only [↓RA, RB, RS, fx188, Nat.reduceLT, Nat.reduceAdd, Nat.reduceMul, Nat.reduceEqDiff, reduceIte, Nat.reduceBEq, Nat.reduceLeDiff, Nat.reduceSub, Int.reduceToNat, c1, c2, c4, w6]
        · simp -dsimp -implicitDefEqProofs -failIfUnchanged only [↓RA, RB, RS, fx188, Nat.reduceLT, Nat.reduceAdd, Nat.reduceMul, Nat.reduceEqDiff, reduceIte, Nat.reduceBEq, Nat.reduceLeDiff, Nat.reduceSub, Int.reduceToNat, c1, c2]
          refine CondH.ff (decide_eq_false (by omega)) (fun c5 => ?_)
          simp -dsimp -implicitDefEqProofs -failIfUnchanged only [↓RA, RB, RS, fx188, Nat.reduceLT, Nat.reduceAdd, Nat.reduceMul, Nat.reduceEqDiff, reduceIte, Nat.reduceBEq, Nat.reduceLeDiff, Nat.reduceSub, Int.reduceToNat, c1, c2, c5]
          have h := run_some h
          obtain rfl : _ = r := h
          refine FinH.l ?_
          simp -dsimp -implicitDefEqProofs -failIfUnchanged only [↓RA, RB, RS, fx188, Nat.reduceLT, Nat.reduceAdd, Nat.reduceMul, Nat.reduceEqDiff, reduceIte, Nat.reduceBEq, Nat.reduceLeDiff, Nat.reduceSub, Int.reduceToNat]
    · replace h := run_f c1 h
      simp -dsimp -implicitDefEqProofs -failIfUnchanged only [↓RA, RB, RS, fx188, Nat.reduceLT, Nat.reduceAdd, Nat.reduceMul, Nat.reduceEqDiff, reduceIte, Nat.reduceBEq, Nat.reduceLeDiff, Nat.reduceSub, Int.reduceToNat, c1]
      refine Mg.know_sl (b := false) (sz := 2) (es := a1.Args.map (Term.pv false)) 8 (by simp -dsimp -implicitDefEqProofs -failIfUnchanged only [↓RA, RB, RS, fx188, Nat.reduceLT, Nat.reduceAdd, Nat.reduceMul, Nat.reduceEqDiff, reduceIte, Nat.reduceBEq, Nat.reduceLeDiff, Nat.reduceSub, Int.reduceToNat, c1]) fun hl8 => ?_; rw [List.length_map] at hl8
      replace h := run_loop h
      refine Mg.forN h (fun i6 s6 => [(0, .val (.own 10000)), (27, .val (.pv (.sl false 2 (a1.Args.map (Term.pv false))))), (28, .val (.pv (I (a1.Args.length : Int)))), (29, .val (.pv (I (i6 : Int))))]) (fun i6 s6 => [(10000, (1, s6.map Sx))]) (St.le_mk2 (by simp -dsimp -implicitDefEqProofs -failIfUnchanged only [↓RA, RB, RS, fx188, Nat.reduceLT, Nat.reduceAdd, Nat.reduceMul, Nat.reduceEqDiff, reduceIte, Nat.reduceBEq, Nat.reduceLeDiff, Nat.reduceSub, Int.reduceToNat, c1])) (fun i6 s6 hi h => ?_) (fun s6 h => ?_)
      · have w6 := wrap_succ (i := i6) (by omega)
        simp -dsimp -implicitDefEqProofs -failIfUnchanged only [↓RA, RB, RS, fx188, Nat.reduceLT, Nat.reduceAdd, Nat.reduceMul, Nat.reduceEqDiff, reduceIte, Nat.reduceBEq, Nat.reduceLeDiff, Nat.reduceSub, Int.reduceToNat, c1]
        refine CondH.tt (decide_eq_true (by omega)) (fun c6 => ?_)
        simp -dsimp -implicitDefEqProofs -failIfUnchanged only [↓RA, RB, RS, fx188, Nat.reduceLT, Nat.reduceAdd, Nat.reduceMul, Nat.reduceEqDiff, reduceIte, Nat.reduceBEq, Nat.reduceLeDiff, Nat.reduceSub, Int.reduceToNat, c1, c6]
        obtain ⟨v31, hv31, h⟩ := run_bind h
        refine IdxH.mk (f := (Term.pv false)) hv31 ?_ ?_ <;> simp -dsimp -implicitDefEqProofs -failIfUnchanged only [↓RA, RB, RS, fx188, Nat.reduceLT, Nat.reduceAdd, Nat.reduceMul, Nat.reduceEqDiff, reduceIte, Nat.reduceBEq, Nat.reduceLeDiff, Nat.reduceSub, Int.reduceToNat, c1, c6]
        repeat (first | with_reducible refine noR_and (by repeat (first | exact noR_empty _ _ | exact noR_nilS _ _ | refine noR_mk _ _ _ _ _ rfl ?_ | refine noR_mkS _ _ _ _ _ rfl ?_)) ?_ | with_reducible refine noC_and (by repeat (first | exact noC_empty _ _ (by simp -dsimp -implicitDefEqProofs -failIfUnchanged only [↓RA, RB, RS, fx188, Nat.reduceLT, Nat.reduceAdd, Nat.reduceMul, Nat.reduceEqDiff, reduceIte, Nat.reduceBEq, Nat.reduceLeDiff, Nat.reduceSub, Int.reduceToNat]) | exact noC_nilS _ _ (by simp -dsimp -implicitDefEqProofs -failIfUnchanged only [↓RA, RB, RS, fx188, Nat.reduceLT, Nat.reduceAdd, Nat.reduceMul, Nat.reduceEqDiff, reduceIte, Nat.reduceBEq, Nat.reduceLeDiff, Nat.reduceSub, Int.reduceToNat]) | refine noC_mk _ _ _ _ _ rfl ?_ | refine noC_mkS _ _ _ _ _ rfl ?_)) ?_ | with_reducible refine and_ac ?_ | with_reducible refine And.intro (a := _ = List.range _) (by rfl) ?_)
        obtain ⟨v35, hv35, h⟩ := run_bind h
        refine CallH.mk [true, false] (ih _ _ _ hv35) ?_ ?_ <;> simp -dsimp -implicitDefEqProofs -failIfUnchanged only [↓RA, RB, RS, fx188, Nat.reduceLT, Nat.reduceAdd, Nat.reduceMul, Nat.reduceEqDiff, reduceIte, Nat.reduceBEq, Nat.reduceLeDiff, Nat.reduceSub, Int.reduceToNat, c1, c6]
        repeat (first | with_reducible refine noR_and (by repeat (first | exact noR_empty _ _ | exact noR_nilS _ _ | refine noR_mk _ _ _ _ _ rfl ?_ | refine noR_mkS _ _ _ _ _ rfl ?_)) ?_ | with_reducible refine noC_and (by repeat (first | exact noC_empty _ _ (by simp -dsimp -implicitDefEqProofs -failIfUnchanged only [↓RA, RB, RS, fx188, Nat.reduceLT, Nat.reduceAdd, Nat.reduceMul, Nat.reduceEqDiff, reduceIte, Nat.reduceBEq, Nat.reduceLeDiff, Nat.reduceSub, Int.reduceToNat]) | exact noC_nilS _ _ (by simp -dsimp -implicitDefEqProofs -failIfUnchanged only [↓RA, RB, RS, fx188, Nat.reduceLT, Nat.reduceAdd, Nat.reduceMul, Nat.reduceEqDiff, reduceIte, Nat.reduceBEq, Nat.reduceLeDiff, Nat.reduceSub, Int.reduceToNat]) | refine noC_mk _ _ _ _ _ rfl ?_ | refine noC_mkS _ _ _ _ _ rfl ?_)) ?_ | with_reducible refine and_ac ?_ | with_reducible refine And.intro (a := _ = List.range _) (by rfl) ?_)
        have h := run_some h
        refine RdH.mk ⟨_, h, ?_⟩
        refine St.le_trans (St.le_mk (S := [(0, .val (.own 560)), (27, .val (.pv (.sl false 2 (a1.Args.map (Term.pv false))))), (28, .val (.pv (I (a1.Args.length : Int)))), (29, .val (.pv (I (IntKind.i64.wrap ((i6 : Int) + (1 : Int))))))]) (O := [(560, (1, v35.map Sx))]) (by simp -dsimp -implicitDefEqProofs -failIfUnchanged only [↓RA, RB, RS, fx188, Nat.reduceLT, Nat.reduceAdd, Nat.reduceMul, Nat.reduceEqDiff, reduceIte, Nat.reduceBEq, Nat.reduceLeDiff, Nat.reduceSub, Int.reduceToNat, c1, c6, w6]) (by simp -dsimp -implicitDefEqProofs -failIfUnchanged only [↓RA, RB, RS, fx188, Nat.reduceLT, Nat.reduceAdd, Nat.reduceMul, Nat.reduceEqDiff, reduceIte, Nat.reduceBEq, Nat.reduceLeDiff, Nat.reduceSub, Int.reduceToNat, c1, c6, w6])) ?_
        refine St.le_rn 560 10000 (by decide) (by repeat (first | exact noC_empty _ _ (by simp -dsimp -implicitDefEqProofs -failIfUnchanged only [↓RA, RB, RS, fx188, Nat.reduceLT, Nat.reduceAdd, Nat.reduceMul, Nat.reduceEqDiff, reduceIte, Nat.reduceBEq, Nat.reduceLeDiff, Nat.reduceSub, Int.reduceToNat]) | exact noC_nilS _ _ (by simp -dsimp -implicitDefEqProofs -failIfUnchanged only [↓RA, RB, RS, fx188, Nat.reduceLT, Nat.reduceAdd, Nat.reduceMul, Nat.reduceEqDiff, reduceIte, Nat.reduceBEq, Nat.reduceLeDiff, Nat.reduceSub, Int.reduceToNat]) | refine noC_mk _ _ _ _ _ rfl ?_ | refine noC_mkS _ _ _ _ _ rfl ?_)) ?_
        refine St.le_mk2 ?_
        simp -dsimp -implicitDefEqProofs -failIfUnchanged only [↓RA, RB, RS, fx188, Nat.reduceLT, Nat.reduceAdd, Nat.reduceMul, Nat.reduceEqDiff, reduceIte, Nat.reduceBEq, Nat.reduceLeDiff, Nat.reduceSub, Int.reduceToNat, c1, c6, w6]
      · simp -dsimp -implicitDefEqProofs -failIfUnchanged only [↓RA, RB, RS, fx188, Nat.reduceLT, Nat.reduceAdd, Nat.reduceMul, Nat.reduceEqDiff, reduceIte, Nat.reduceBEq, Nat.reduceLeDiff, Nat.reduceSub, Int.reduceToNat, c1]
        refine CondH.ff (decide_eq_false (by omega)) (fun c7 => ?_)
        simp -dsimp -implicitDefEqProofs -failIfUnchanged only [↓RA, RB, RS, fx188, Nat.reduceLT, Nat.reduceAdd, Nat.reduceMul, Nat.reduceEqDiff, reduceIte, Nat.reduceBEq, Nat.reduceLeDiff, Nat.reduceSub, Int.reduceToNat, c1, c7]
        have h := run_some h
        obtain rfl : _ = r := h
        refine FinH.l ?_
        simp -dsimp -implicitDefEqProofs -failIfUnchanged only [↓RA, RB, RS, fx188, Nat.reduceLT, Nat.reduceAdd, Nat.reduceMul, Nat.reduceEqDiff, reduceIte, Nat.reduceBEq, Nat.reduceLeDiff, Nat.reduceSub, Int.reduceToNat]
theorem impl_collect_sat {a0 : List ByteArray} {a1 : Term} {r : List ByteArray} (h : impl_collect a0 a1 = some r) : Sat Try.prog 188 [(.sl true 1 (a0.map Sx)), ((Term.pv false) a1)] (.sl true 1 (r.map Sx)) := by
  obtain ⟨n, hn⟩ := lim_some h
  exact (impl_collectN_sat n) _ _ _ hn

def fx186 := And.intro @ty_3 <| And.intro @zc_3 <| And.intro @z_3 <| And.intro @ty_35 <| And.intro @zc_35 <| And.intro @z_35 <| And.intro @fo_35_0 <| And.intro @fi_35_0 <| And.intro @ft_35_0 <| And.intro @fo_35_1 <| And.intro @fi_35_1 <| And.intro @ft_35_1 <| And.intro @lay_35 <| And.intro @ty_65 <| And.intro @zc_65 <| And.intro @z_65 <| And.intro @es_65 <| And.intro @eb_65 <| And.intro @sl_65 <| And.intro @is_65 <| And.intro @el_65 <| And.intro @ze_65 <| @ez_65
set_option maxHeartbeats 4000000 in
theorem impl_isGroundTerm_sat {a0 : Term}  {r : Bool} (h : impl_isGroundTerm a0 = some r) : Sat Try.prog 186 [((Term.pv false) a0)] (B r) := by
  replace h := Run.of h
  unfold impl_isGroundTerm at h
  refine Sat.of_m (nt := 11) (rs := [.tmp 2]) (n := 100000) Try.func186 rfl rfl rfl rfl (by simp) ?_
  simp -dsimp -implicitDefEqProofs -failIfUnchanged only [↓RA, RB, RS, fx186, Nat.reduceLT, Nat.reduceAdd, Nat.reduceMul, Nat.reduceEqDiff, reduceIte, Nat.reduceBEq, Nat.reduceLeDiff, Nat.reduceSub, Int.reduceToNat]
  repeat (first | with_reducible refine noR_and (by repeat (first | exact noR_empty _ _ | exact noR_nilS _ _ | refine noR_mk _ _ _ _ _ rfl ?_ | refine noR_mkS _ _ _ _ _ rfl ?_)) ?_ | with_reducible refine noC_and (by repeat (first | exact noC_empty _ _ (by simp -dsimp -implicitDefEqProofs -failIfUnchanged only [↓RA, RB, RS, fx186, Nat.reduceLT, Nat.reduceAdd, Nat.reduceMul, Nat.reduceEqDiff, reduceIte, Nat.reduceBEq, Nat.reduceLeDiff, Nat.reduceSub, Int.reduceToNat]) | exact noC_nilS _ _ (by simp -dsimp -implicitDefEqProofs -failIfUnchanged only [↓RA, RB, RS, fx186, Nat.reduceLT, Nat.reduceAdd, Nat.reduceMul, Nat.reduceEqDiff, reduceIte, Nat.reduceBEq, Nat.reduceLeDiff, Nat.reduceSub, Int.reduceToNat]) | refine noC_mk _ _ _ _ _ rfl ?_ | refine noC_mkS _ _ _ _ _ rfl ?_)) ?_ | with_reducible refine and_ac ?_ | with_reducible refine And.intro (a := _ = List.range _) (by rfl) ?_)
  obtain ⟨v4, hv4, h⟩ := run_bind h
  refine CallH.mk [false] (impl_IsValidTerm_sat hv4) ?_ ?_ <;> simp -dsimp -implicitDefEqProofs -failIfUnchanged only [↓RA, RB, RS, fx186, Nat.reduceLT, Nat.reduceAdd, Nat.reduceMul, Nat.reduceEqDiff, reduceIte, Nat.reduceBEq, Nat.reduceLeDiff, Nat.reduceSub, Int.reduceToNat]
  refine CondH.mk (fun c1 => ?_) (fun c1 => ?_)
  · replace h := run_t c1 h
    simp -dsimp -implicitDefEqProofs -failIfUnchanged only [↓RA, RB, RS, fx186, Nat.reduceLT, Nat.reduceAdd, Nat.reduceMul, Nat.reduceEqDiff, reduceIte, Nat.reduceBEq, Nat.reduceLeDiff, Nat.reduceSub, Int.reduceToNat, c1]
    obtain ⟨v7, hv7, h⟩ := run_bind h
    refine CallH.mk [true, false] (impl_collect_sat hv7) ?_ ?_ <;> simp -dsimp -implicitDefEqProofs -failIfUnchanged only [↓RA, RB, RS, fx186, Nat.reduceLT, Nat.reduceAdd, Nat.reduceMul, Nat.reduceEqDiff, reduceIte, Nat.reduceBEq, Nat.reduceLeDiff, Nat.reduceSub, Int.reduceToNat, c1]
    repeat (first | with_reducible refine noR_and (by repeat (first | exact noR_empty _ _ | exact noR_nilS _ _ | refine noR_mk _ _ _ _ _ rfl ?_ | refine noR_mkS _ _ _ _ _ rfl ?_)) ?_ | with_reducible refine noC_and (by repeat (first | exact noC_empty _ _ (by simp -dsimp -implicitDefEqProofs -failIfUnchanged only [↓RA, RB, RS, fx186, Nat.reduceLT, Nat.reduceAdd, Nat.reduceMul, Nat.reduceEqDiff, reduceIte, Nat.reduceBEq, Nat.reduceLeDiff, Nat.reduceSub, Int.reduceToNat]) | exact noC_nilS _ _ (by simp -dsimp -implicitDefEqProofs -failIfUnchanged only [↓RA, RB, RS, fx186, Nat.reduceLT, Nat.reduceAdd, Nat.reduceMul, Nat.reduceEqDiff, reduceIte, Nat.reduceBEq, Nat.reduceLeDiff, Nat.reduceSub, Int.reduceToNat]) | refine noC_mk _ _ _ _ _ rfl ?_ | refine noC_mkS _ _ _ _ _ rfl ?_)) ?_ | with_reducible refine and_ac ?_ | with_reducible refine And.intro (a := _ = List.range _) (by rfl) ?_)
    have h := run_some h
    obtain rfl : _ = r := h
    refine FinH.l ?_
    simp -dsimp -implicitDefEqProofs -failIfUnchanged only [↓RA, RB, RS, fx186, Nat.reduceLT, Nat.reduceAdd, Nat.reduceMul, Nat.reduceEqDiff, reduceIte, Nat.reduceBEq, Nat.reduceLeDiff, Nat.reduceSub, Int.reduceToNat]
  · replace h := run_f c1 h
    simp -dsimp -implicitDefEqProofs -failIfUnchanged only [↓RA, RB, RS, fx186, Nat.reduceLT, Nat.reduceAdd, Nat.reduceMul, Nat.reduceEqDiff, reduceIte, Nat.reduceBEq, Nat.reduceLeDiff, Nat.reduceSub, Int.reduceToNat, c1]
    have h := run_some h
    obtain rfl : _ = r := h
    refine FinH.l ?_
    simp -dsimp -implicitDefEqProofs -failIfUnchanged only [↓RA, RB, RS, fx186, Nat.reduceLT, Nat.reduceAdd, Nat.reduceMul, Nat.reduceEqDiff, reduceIte, Nat.reduceBEq, Nat.reduceLeDiff, Nat.reduceSub, Int.reduceToNat]

def fx91 := And.intro @ty_4 <| And.intro @zc_4 <| And.intro @z_4 <| And.intro @u_4 <| And.intro @ty_35 <| And.intro @zc_35 <| And.intro @z_35 <| And.intro @fo_35_0 <| And.intro @fi_35_0 <| And.intro @ft_35_0 <| And.intro @fo_35_1 <| And.intro @fi_35_1 <| And.intro @ft_35_1 <| @lay_35
set_option maxHeartbeats 4000000 in
theorem impl_notGround_sat {a0 : Term}  {r : Bool} (h : impl_notGround a0 = some r) : Sat Try.prog 91 [((Term.pv false) a0)] (B r) := by
  replace h := Run.of h
  unfold impl_notGround at h
  refine Sat.of_m (nt := 6) (rs := [.tmp 2]) (n := 100000) Try.func91 rfl rfl rfl rfl (by simp) ?_
  simp -dsimp -implicitDefEqProofs -failIfUnchanged only [↓RA, RB, RS, fx91, Nat.reduceLT, Nat.reduceAdd, Nat.reduceMul, Nat.reduceEqDiff, reduceIte, Nat.reduceBEq, Nat.reduceLeDiff, Nat.reduceSub, Int.reduceToNat]
  repeat (first | with_reducible refine noR_and (by repeat (first | exact noR_empty _ _ | exact noR_nilS _ _ | refine noR_mk _ _ _ _ _ rfl ?_ | refine noR_mkS _ _ _ _ _ rfl ?_)) ?_ | with_reducible refine noC_and (by repeat (first | exact noC_empty _ _ (by simp -dsimp -implicitDefEqProofs -failIfUnchanged only [↓RA, RB, RS, fx91, Nat.reduceLT, Nat.reduceAdd, Nat.reduceMul, Nat.reduceEqDiff, reduceIte, Nat.reduceBEq, Nat.reduceLeDiff, Nat.reduceSub, Int.reduceToNat]) | exact noC_nilS _ _ (by simp -dsimp -implicitDefEqProofs -failIfUnchanged only [↓RA, RB, RS, fx91, Nat.reduceLT, Nat.reduceAdd, Nat.reduceMul, Nat.reduceEqDiff, reduceIte, Nat.reduceBEq, Nat.reduceLeDiff, Nat.reduceSub, Int.reduceToNat]) | refine noC_mk _ _ _ _ _ rfl ?_ | refine noC_mkS _ _ _ _ _ rfl ?_)) ?_ | with_reducible refine and_ac ?_ | with_reducible refine And.intro (a := _ = List.range _) (by rfl) ?_)
  obtain ⟨v4, hv4, h⟩ := run_bind h
  refine CallH.mk [false] (impl_isGroundTerm_sat hv4) ?_ ?_ <;> simp -dsimp -implicitDefEqProofs -failIfUnchanged only [↓RA, RB, RS, fx91, Nat.reduceLT, Nat.reduceAdd, Nat.reduceMul, Nat.reduceEqDiff, reduceIte, Nat.reduceBEq, Nat.reduceLeDiff, Nat.reduceSub, Int.reduceToNat]
  have h := run_some h
  obtain rfl : _ = r := h
  refine FinH.l ?_
  simp -dsimp -implicitDefEqProofs -failIfUnchanged only [↓RA, RB, RS, fx91, Nat.reduceLT, Nat.reduceAdd, Nat.reduceMul, Nat.reduceEqDiff, reduceIte, Nat.reduceBEq, Nat.reduceLeDiff, Nat.reduceSub, Int.reduceToNat]

def fx189 := And.intro @ty_9 <| And.intro @zc_9 <| And.intro @z_9 <| @u_9
set_option maxHeartbeats 4000000 in
theorem impl_isPattern_1_sat {a0 : ByteArray}  {r : Bool} (h : impl_isPattern_1 a0 = some r) : Sat Try.prog 189 [(Sx a0)] (B r) := by
  replace h := Run.of h
  unfold impl_isPattern_1 at h
  refine Sat.of_m (nt := 5) (rs := [.tmp 2]) (n := 100000) Try.func189 rfl rfl rfl rfl (by simp) ?_
  simp -dsimp -implicitDefEqProofs -failIfUnchanged only [↓RA, RB, RS, fx189, Nat.reduceLT, Nat.reduceAdd, Nat.reduceMul, Nat.reduceEqDiff, reduceIte, Nat.reduceBEq, Nat.reduceLeDiff, Nat.reduceSub, Int.reduceToNat]
  have h := run_some h
  obtain rfl : _ = r := h
  refine FinH.l ?_
  simp -dsimp -implicitDefEqProofs -failIfUnchanged only [↓RA, RB, RS, fx189, Nat.reduceLT, Nat.reduceAdd, Nat.reduceMul, Nat.reduceEqDiff, reduceIte, Nat.reduceBEq, Nat.reduceLeDiff, Nat.reduceSub, Int.reduceToNat]

def fx283 := And.intro @ty_3 <| And.intro @zc_3 <| And.intro @z_3 <| And.intro @ty_9 <| And.intro @zc_9 <| And.intro @z_9 <| And.intro @u_9 <| And.intro @ty_65 <| And.intro @zc_65 <| And.intro @z_65 <| And.intro @es_65 <| And.intro @eb_65 <| And.intro @sl_65 <| And.intro @is_65 <| And.intro @el_65 <| And.intro @ze_65 <| @ez_65
set_option maxHeartbeats 4000000 in
theorem slices_IndexFunc_Sstring_string_sat {a0 : List ByteArray} {a1 : ByteArray → Option Bool} {a1_id : FuncId} {a1_cs : List PV} (a1_ok : ∀ y0 r, a1 y0 = some r → Sat Try.prog a1_id ((Sx y0) :: a1_cs) (B r)) (a1_cz : CapsOk a1_cs = True) {r : Int} (h : slices_IndexFunc_Sstring_string a0 a1 = some r) : Sat Try.prog 283 [(.sl false 1 (a0.map Sx)), .clo a1_id a1_cs] (I r) := by
  replace h := Run.of h
  unfold slices_IndexFunc_Sstring_string at h
  refine Sat.of_m (nt := 19) (rs := [.tmp 4]) (n := 100000) Try.func283 rfl rfl rfl rfl (by simp) ?_
  simp -dsimp -implicitDefEqProofs -failIfUnchanged only [↓RA, RB, RS, fx283, a1_cz, Nat.reduceLT, Nat.reduceAdd, Nat.reduceMul, Nat.reduceEqDiff, reduceIte, Nat.reduceBEq, Nat.reduceLeDiff, Nat.reduceSub, Int.reduceToNat]
  refine Mg.know_sl (b := false) (sz := 1) (es := a0.map Sx) 0 (by simp -dsimp -implicitDefEqProofs -failIfUnchanged only [↓RA, RB, RS, fx283, a1_cz, Nat.reduceLT, Nat.reduceAdd, Nat.reduceMul, Nat.reduceEqDiff, reduceIte, Nat.reduceBEq, Nat.reduceLeDiff, Nat.reduceSub, Int.reduceToNat]) fun hl0 => ?_; rw [List.length_map] at hl0
  replace h := run_loop h
  refine Mg.forN h (fun i2 s2 => [(0, .val (.pv (.sl false 1 (a0.map Sx)))), (1, .val (.pv (.clo a1_id a1_cs))), (7, .val (.pv (I (a0.length : Int)))), (8, .val (.pv (I (i2 : Int))))]) (fun i2 s2 => []) (St.le_mk2 (by simp -dsimp -implicitDefEqProofs -failIfUnchanged only [↓RA, RB, RS, fx283, a1_cz, Nat.reduceLT, Nat.reduceAdd, Nat.reduceMul, Nat.reduceEqDiff, reduceIte, Nat.reduceBEq, Nat.reduceLeDiff, Nat.reduceSub, Int.reduceToNat])) (fun i2 s2 hi h => ?_) (fun s2 h => ?_)
  · have w2 := wrap_succ (i := i2) (by omega)
    simp -dsimp -implicitDefEqProofs -failIfUnchanged only [↓RA, RB, RS, fx283, a1_cz, Nat.reduceLT, Nat.reduceAdd, Nat.reduceMul, Nat.reduceEqDiff, reduceIte, Nat.reduceBEq, Nat.reduceLeDiff, Nat.reduceSub, Int.reduceToNat]
    refine CondH.tt (decide_eq_true (by omega)) (fun c1 => ?_)
    simp -dsimp -implicitDefEqProofs -failIfUnchanged only [↓RA, RB, RS, fx283, a1_cz, Nat.reduceLT, Nat.reduceAdd, Nat.reduceMul, Nat.reduceEqDiff, reduceIte, Nat.reduceBEq, Nat.reduceLeDiff, Nat.reduceSub, Int.reduceToNat, c1]
    obtain ⟨v14, hv14, h⟩ := run_bind h
    refine IdxH.mk (f := Sx) hv14 ?_ ?_ <;> simp -dsimp -implicitDefEqProofs -failIfUnchanged only [↓RA, RB, RS, fx283, a1_cz, Nat.reduceLT, Nat.reduceAdd, Nat.reduceMul, Nat.reduceEqDiff, reduceIte, Nat.reduceBEq, Nat.reduceLeDiff, Nat.reduceSub, Int.reduceToNat, c1]
    obtain ⟨v16, hv16, h⟩ := run_bind h
    refine CallH.mk [false] (a1_ok _ _ hv16) ?_ ?_ <;> simp -dsimp -implicitDefEqProofs -failIfUnchanged only [↓RA, RB, RS, fx283, a1_cz, Nat.reduceLT, Nat.reduceAdd, Nat.reduceMul, Nat.reduceEqDiff, reduceIte, Nat.reduceBEq, Nat.reduceLeDiff, Nat.reduceSub, Int.reduceToNat, c1]
    refine CondH.mk (fun c2 => ?_) (fun c2 => ?_)
    · replace h := run_t c2 h
      simp -dsimp -implicitDefEqProofs -failIfUnchanged only [↓RA, RB, RS, fx283, a1_cz, Nat.reduceLT, Nat.reduceAdd, Nat.reduceMul, Nat.reduceEqDiff, reduceIte, Nat.reduceBEq, Nat.reduceLeDiff, Nat.reduceSub, Int.reduceToNat, c1, c2]
      have h := run_some h
      obtain rfl : _ = r := h
      refine FinH.l ?_
      simp -dsimp -implicitDefEqProofs -failIfUnchanged only [↓RA, RB, RS, fx283, a1_cz, Nat.reduceLT, Nat.reduceAdd, Nat.reduceMul, Nat.reduceEqDiff, reduceIte, Nat.reduceBEq, Nat.reduceLeDiff, Nat.reduceSub, Int.reduceToNat]
    · replace h := run_f c2 h
      simp -dsimp -implicitDefEqProofs -failIfUnchanged only [↓RA, RB, RS, fx283, a1_cz, Nat.reduceLT, Nat.reduceAdd, Nat.reduceMul, Nat.reduceEqDiff, reduceIte, Nat.reduceBEq, Nat.reduceLeDiff, Nat.reduceSub, Int.reduceToNat, c1, c2]
      have h := run_some h
      refine RdH.mk ⟨_, h, ?_⟩
      refine St.le_mk2 ?_
      simp -dsimp -implicitDefEqProofs -failIfUnchanged only [↓RA, RB, RS, fx283, a1_cz, Nat.reduceLT, Nat.reduceAdd, Nat.reduceMul, Nat.reduceEqDiff, reduceIte, Nat.reduceBEq, Nat.reduceLeDiff, Nat.reduceSub, Int.reduceToNat, c1, c2, w2]
  · simp -dsimp -implicitDefEqProofs -failIfUnchanged only [↓RA, RB, RS, fx283, a1_cz, Nat.reduceLT, Nat.reduceAdd, Nat.reduceMul, Nat.reduceEqDiff, reduceIte, Nat.reduceBEq, Nat.reduceLeDiff, Nat.reduceSub, Int.reduceToNat]
    refine CondH.ff (decide_eq_false (by omega)) (fun c3 => ?_)
    simp -dsimp -implicitDefEqProofs -failIfUnchanged only [↓RA, RB, RS, fx283, a1_cz, Nat.reduceLT, Nat.reduceAdd, Nat.reduceMul, Nat.reduceEqDiff, reduceIte, Nat.reduceBEq, Nat.reduceLeDiff, Nat.reduceSub, Int.reduceToNat, c3]
    have h := run_some h
    obtain rfl : _ = r := h
    refine FinH.l ?_
    simp -dsimp -implicitDefEqProofs -failIfUnchanged only [↓RA, RB, RS, fx283, a1_cz, Nat.reduceLT, Nat.reduceAdd, Nat.reduceMul, Nat.reduceEqDiff, reduceIte, Nat.reduceBEq, Nat.reduceLeDiff, Nat.reduceSub, Int.reduceToNat]

def fx187 := And.intro @ty_3 <| And.intro @zc_3 <| And.intro @z_3 <| And.intro @ty_65 <| And.intro @zc_65 <| And.intro @z_65 <| And.intro @es_65 <| And.intro @eb_65 <| And.intro @sl_65 <| And.intro @is_65 <| And.intro @el_65 <| And.intro @ze_65 <| And.intro @ez_65 <| And.intro @ty_178 <| And.intro @zc_178 <| @z_178
set_option maxHeartbeats 4000000 in
theorem slices_ContainsFunc_Sstring_string_sat {a0 : List ByteArray} {a1 : ByteArray → Option Bool} {a1_id : FuncId} {a1_cs : List PV} (a1_ok : ∀ y0 r, a1 y0 = some r → Sat Try.prog a1_id ((Sx y0) :: a1_cs) (B r)) (a1_cz : CapsOk a1_cs = True) {r : Bool} (h : slices_ContainsFunc_Sstring_string a0 a1 = some r) : Sat Try.prog 187 [(.sl false 1 (a0.map Sx)), .clo a1_id a1_cs] (B r) := by
  replace h := Run.of h
  unfold slices_ContainsFunc_Sstring_string at h
  refine Sat.of_m (nt := 9) (rs := [.tmp 4]) (n := 100000) Try.func187 rfl rfl rfl rfl (by simp) ?_
  simp -dsimp -implicitDefEqProofs -failIfUnchanged only [↓RA, RB, RS, fx187, a1_cz, Nat.reduceLT, Nat.reduceAdd, Nat.reduceMul, Nat.reduceEqDiff, reduceIte, Nat.reduceBEq, Nat.reduceLeDiff, Nat.reduceSub, Int.reduceToNat]
  obtain ⟨v7, hv7, h⟩ := run_bind h
  refine CallH.mk [false, false] (slices_IndexFunc_Sstring_string_sat a1_ok a1_cz hv7) ?_ ?_ <;> simp -dsimp -implicitDefEqProofs -failIfUnchanged only [↓RA, RB, RS, fx187, a1_cz, Nat.reduceLT, Nat.reduceAdd, Nat.reduceMul, Nat.reduceEqDiff, reduceIte, Nat.reduceBEq, Nat.reduceLeDiff, Nat.reduceSub, Int.reduceToNat]
  have h := run_some h
  obtain rfl : _ = r := h
  refine FinH.l ?_
  simp -dsimp -implicitDefEqProofs -failIfUnchanged only [↓RA, RB, RS, fx187, a1_cz, Nat.reduceLT, Nat.reduceAdd, Nat.reduceMul, Nat.reduceEqDiff, reduceIte, Nat.reduceBEq, Nat.reduceLeDiff, Nat.reduceSub, Int.reduceToNat]

def fx93 := And.intro @ty_4 <| And.intro @zc_4 <| And.intro @z_4 <| And.intro @u_4 <| And.intro @ty_35 <| And.intro @zc_35 <| And.intro @z_35 <| And.intro @fo_35_0 <| And.intro @fi_35_0 <| And.intro @ft_35_0 <| And.intro @fo_35_1 <| And.intro @fi_35_1 <| And.intro @ft_35_1 <| And.intro @lay_35 <| And.intro @ty_65 <| And.intro @zc_65 <| And.intro @z_65 <| And.intro @es_65 <| And.intro @eb_65 <| And.intro @sl_65 <| And.intro @is_65 <| And.intro @el_65 <| And.intro @ze_65 <| And.intro @ez_65 <| And.intro @ty_178 <| And.intro @zc_178 <| @z_178
set_option maxHeartbeats 4000000 in
theorem impl_isPattern_sat {a0 : Term}  {r : Bool} (h : impl_isPattern a0 = some r) : Sat Try.prog 93 [((Term.pv false) a0)] (B r) := by
  replace h := Run.of h
  unfold impl_isPattern at h
  refine Sat.of_m (nt := 11) (rs := [.tmp 2]) (n := 100000) Try.func93 rfl rfl rfl rfl (by simp) ?_
  simp -dsimp -implicitDefEqProofs -failIfUnchanged only [↓RA, RB, RS, fx93, Nat.reduceLT, Nat.reduceAdd, Nat.reduceMul, Nat.reduceEqDiff, reduceIte, Nat.reduceBEq, Nat.reduceLeDiff, Nat.reduceSub, Int.reduceToNat]
  repeat (first | with_reducible refine noR_and (by repeat (first | exact noR_empty _ _ | exact noR_nilS _ _ | refine noR_mk _ _ _ _ _ rfl ?_ | refine noR_mkS _ _ _ _ _ rfl ?_)) ?_ | with_reducible refine noC_and (by repeat (first | exact noC_empty _ _ (by simp -dsimp -implicitDefEqProofs -failIfUnchanged only [↓RA, RB, RS, fx93, Nat.reduceLT, Nat.reduceAdd, Nat.reduceMul, Nat.reduceEqDiff, reduceIte, Nat.reduceBEq, Nat.reduceLeDiff, Nat.reduceSub, Int.reduceToNat]) | exact noC_nilS _ _ (by simp -dsimp -implicitDefEqProofs -failIfUnchanged only [↓RA, RB, RS, fx93, Nat.reduceLT, Nat.reduceAdd, Nat.reduceMul, Nat.reduceEqDiff, reduceIte, Nat.reduceBEq, Nat.reduceLeDiff, Nat.reduceSub, Int.reduceToNat]) | refine noC_mk _ _ _ _ _ rfl ?_ | refine noC_mkS _ _ _ _ _ rfl ?_)) ?_ | with_reducible refine and_ac ?_ | with_reducible refine And.intro (a := _ = List.range _) (by rfl) ?_)
  obtain ⟨v4, hv4, h⟩ := run_bind h
  refine CallH.mk [false] (impl_IsValidTerm_sat hv4) ?_ ?_ <;> simp -dsimp -implicitDefEqProofs -failIfUnchanged only [↓RA, RB, RS, fx93, Nat.reduceLT, Nat.reduceAdd, Nat.reduceMul, Nat.reduceEqDiff, reduceIte, Nat.reduceBEq, Nat.reduceLeDiff, Nat.reduceSub, Int.reduceToNat]
  refine CondH.mk (fun c1 => ?_) (fun c1 => ?_)
  · replace h := run_t c1 h
    simp -dsimp -implicitDefEqProofs -failIfUnchanged only [↓RA, RB, RS, fx93, Nat.reduceLT, Nat.reduceAdd, Nat.reduceMul, Nat.reduceEqDiff, reduceIte, Nat.reduceBEq, Nat.reduceLeDiff, Nat.reduceSub, Int.reduceToNat, c1]
    obtain ⟨v7, hv7, h⟩ := run_bind h
    refine CallH.mk [true, false] (impl_collect_sat hv7) ?_ ?_ <;> simp -dsimp -implicitDefEqProofs -failIfUnchanged only [↓RA, RB, RS, fx93, Nat.reduceLT, Nat.reduceAdd, Nat.reduceMul, Nat.reduceEqDiff, reduceIte, Nat.reduceBEq, Nat.reduceLeDiff, Nat.reduceSub, Int.reduceToNat, c1]
    repeat (first | with_reducible refine noR_and (by repeat (first | exact noR_empty _ _ | exact noR_nilS _ _ | refine noR_mk _ _ _ _ _ rfl ?_ | refine noR_mkS _ _ _ _ _ rfl ?_)) ?_ | with_reducible refine noC_and (by repeat (first | exact noC_empty _ _ (by simp -dsimp -implicitDefEqProofs -failIfUnchanged only [↓RA, RB, RS, fx93, Nat.reduceLT, Nat.reduceAdd, Nat.reduceMul, Nat.reduceEqDiff, reduceIte, Nat.reduceBEq, Nat.reduceLeDiff, Nat.reduceSub, Int.reduceToNat]) | exact noC_nilS _ _ (by simp -dsimp -implicitDefEqProofs -failIfUnchanged only [↓RA, RB, RS, fx93, Nat.reduceLT, Nat.reduceAdd, Nat.reduceMul, Nat.reduceEqDiff, reduceIte, Nat.reduceBEq, Nat.reduceLeDiff, Nat.reduceSub, Int.reduceToNat]) | refine noC_mk _ _ _ _ _ rfl ?_ | refine noC_mkS _ _ _ _ _ rfl ?_)) ?_ | with_reducible refine and_ac ?_ | with_reducible refine And.intro (a := _ = List.range _) (by rfl) ?_)
    obtain ⟨v8, hv8, h⟩ := run_bind h
    refine CallH.mk [false, false] (slices_ContainsFunc_Sstring_string_sat (fun _ _ hh => impl_isPattern_1_sat hh) (by simp only [CapsOk_nil, CapsOk_cons]) hv8) ?_ ?_ <;> simp -dsimp -implicitDefEqProofs -failIfUnchanged only [↓RA, RB, RS, fx93, Nat.reduceLT, Nat.reduceAdd, Nat.reduceMul, Nat.reduceEqDiff, reduceIte, Nat.reduceBEq, Nat.reduceLeDiff, Nat.reduceSub, Int.reduceToNat, c1]
    have h := run_some h
    obtain rfl : _ = r := h
    refine FinH.l ?_
    simp -dsimp -implicitDefEqProofs -failIfUnchanged only [↓RA, RB, RS, fx93, Nat.reduceLT, Nat.reduceAdd, Nat.reduceMul, Nat.reduceEqDiff, reduceIte, Nat.reduceBEq, Nat.reduceLeDiff, Nat.reduceSub, Int.reduceToNat]
  · replace h := run_f c1 h
    simp -dsimp -implicitDefEqProofs -failIfUnchanged only [↓RA, RB, RS, fx93, Nat.reduceLT, Nat.reduceAdd, Nat.reduceMul, Nat.reduceEqDiff, reduceIte, Nat.reduceBEq, Nat.reduceLeDiff, Nat.reduceSub, Int.reduceToNat, c1]
    have h := run_some h
    obtain rfl : _ = r := h
    refine FinH.l ?_
    simp -dsimp -implicitDefEqProofs -failIfUnchanged only [↓RA, RB, RS, fx93, Nat.reduceLT, Nat.reduceAdd, Nat.reduceMul, Nat.reduceEqDiff, reduceIte, Nat.reduceBEq, Nat.reduceLeDiff, Nat.reduceSub, Int.reduceToNat]

def fx92 := And.intro @ty_4 <| And.intro @zc_4 <| And.intro @z_4 <| And.intro @u_4 <| And.intro @ty_35 <| And.intro @zc_35 <| And.intro @z_35 <| And.intro @fo_35_0 <| And.intro @fi_35_0 <| And.intro @ft_35_0 <| And.intro @fo_35_1 <| And.intro @fi_35_1 <| And.intro @ft_35_1 <| @lay_35
set_option maxHeartbeats 4000000 in
theorem impl_IsValidDecomposition_1_sat {a0 : Term}  {r : Bool} (h : impl_IsValidDecomposition_1 a0 = some r) : Sat Try.prog 92 [((Term.pv false) a0)] (B r) := by
  replace h := Run.of h
  unfold impl_IsValidDecomposition_1 at h
  refine Sat.of_m (nt := 6) (rs := [.tmp 2]) (n := 100000) Try.func92 rfl rfl rfl rfl (by simp) ?_
  simp -dsimp -implicitDefEqProofs -failIfUnchanged only [↓RA, RB, RS, fx92, Nat.reduceLT, Nat.reduceAdd, Nat.reduceMul, Nat.reduceEqDiff, reduceIte, Nat.reduceBEq, Nat.reduceLeDiff, Nat.reduceSub, Int.reduceToNat]
  repeat (first | with_reducible refine noR_and (by repeat (first | exact noR_empty _ _ | exact noR_nilS _ _ | refine noR_mk _ _ _ _ _ rfl ?_ | refine noR_mkS _ _ _ _ _ rfl ?_)) ?_ | with_reducible refine noC_and (by repeat (first | exact noC_empty _ _ (by simp -dsimp -implicitDefEqProofs -failIfUnchanged only [↓RA, RB, RS, fx92, Nat.reduceLT, Nat.reduceAdd, Nat.reduceMul, Nat.reduceEqDiff, reduceIte, Nat.reduceBEq, Nat.reduceLeDiff, Nat.reduceSub, Int.reduceToNat]) | exact noC_nilS _ _ (by simp -dsimp -implicitDefEqProofs -failIfUnchanged only [↓RA, RB, RS, fx92, Nat.reduceLT, Nat.reduceAdd, Nat.reduceMul, Nat.reduceEqDiff, reduceIte, Nat.reduceBEq, Nat.reduceLeDiff, Nat.reduceSub, Int.reduceToNat]) | refine noC_mk _ _ _ _ _ rfl ?_ | refine noC_mkS _ _ _ _ _ rfl ?_)) ?_ | with_reducible refine and_ac ?_ | with_reducible refine And.intro (a := _ = List.range _) (by rfl) ?_)
  obtain ⟨v4, hv4, h⟩ := run_bind h
  refine CallH.mk [false] (impl_isPattern_sat hv4) ?_ ?_ <;> simp -dsimp -implicitDefEqProofs -failIfUnchanged only [↓RA, RB, RS, fx92, Nat.reduceLT, Nat.reduceAdd, Nat.reduceMul, Nat.reduceEqDiff, reduceIte, Nat.reduceBEq, Nat.reduceLeDiff, Nat.reduceSub, Int.reduceToNat]
  have h := run_some h
  obtain rfl : _ = r := h
  refine FinH.l ?_
  simp -dsimp -implicitDefEqProofs -failIfUnchanged only [↓RA, RB, RS, fx92, Nat.reduceLT, Nat.reduceAdd, Nat.reduceMul, Nat.reduceEqDiff, reduceIte, Nat.reduceBEq, Nat.reduceLeDiff, Nat.reduceSub, Int.reduceToNat]

def fx331 := And.intro @ty_9 <| And.intro @zc_9 <| And.intro @z_9 <| @u_9
set_option maxHeartbeats 4000000 in
theorem cmp_isNaN_string_sat {a0 : ByteArray}  {r : Bool} (h : cmp_isNaN_string a0 = some r) : Sat Try.prog 331 [(Sx a0)] (B r) := by
  replace h := Run.of h
  unfold cmp_isNaN_string at h
  refine Sat.of_m (nt := 6) (rs := [.tmp 2]) (n := 100000) Try.func331 rfl rfl rfl rfl (by simp) ?_
  simp -dsimp -implicitDefEqProofs -failIfUnchanged only [↓RA, RB, RS, fx331, Nat.reduceLT, Nat.reduceAdd, Nat.reduceMul, Nat.reduceEqDiff, reduceIte, Nat.reduceBEq, Nat.reduceLeDiff, Nat.reduceSub, Int.reduceToNat]
  have h := run_some h
  obtain rfl : _ = r := h
  refine FinH.l ?_
  simp -dsimp -implicitDefEqProofs -failIfUnchanged only [↓RA, RB, RS, fx331, Nat.reduceLT, Nat.reduceAdd, Nat.reduceMul, Nat.reduceEqDiff, reduceIte, Nat.reduceBEq, Nat.reduceLeDiff, Nat.reduceSub, Int.reduceToNat]

def fx286 := And.intro @ty_9 <| And.intro @zc_9 <| And.intro @z_9 <| @u_9
set_option maxHeartbeats 4000000 in
theorem cmp_Compare_string_sat {a0 : ByteArray} {a1 : ByteArray}  {r : Int} (h : cmp_Compare_string a0 a1 = some r) : Sat Try.prog 286 [(Sx a0), (Sx a1)] (I r) := by
  replace h := Run.of h
  unfold cmp_Compare_string at h
  refine Sat.of_m (nt := 20) (rs := [.tmp 4]) (n := 100000) Try.func286 rfl rfl rfl rfl (by simp) ?_
  simp -dsimp -implicitDefEqProofs -failIfUnchanged only [↓RA, RB, RS, fx286, Nat.reduceLT, Nat.reduceAdd, Nat.reduceMul, Nat.reduceEqDiff, reduceIte, Nat.reduceBEq, Nat.reduceLeDiff, Nat.reduceSub, Int.reduceToNat]
  obtain ⟨v8, hv8, h⟩ := run_bind h
  refine CallH.mk [false] (cmp_isNaN_string_sat hv8) ?_ ?_ <;> simp -dsimp -implicitDefEqProofs -failIfUnchanged only [↓RA, RB, RS, fx286, Nat.reduceLT, Nat.reduceAdd, Nat.reduceMul, Nat.reduceEqDiff, reduceIte, Nat.reduceBEq, Nat.reduceLeDiff, Nat.reduceSub, Int.reduceToNat]
  obtain ⟨v10, hv10, h⟩ := run_bind h
  refine CallH.mk [false] (cmp_isNaN_string_sat hv10) ?_ ?_ <;> simp -dsimp -implicitDefEqProofs -failIfUnchanged only [↓RA, RB, RS, fx286, Nat.reduceLT, Nat.reduceAdd, Nat.reduceMul, Nat.reduceEqDiff, reduceIte, Nat.reduceBEq, Nat.reduceLeDiff, Nat.reduceSub, Int.reduceToNat]
  refine CondH.mk (fun c1 => ?_) (fun c1 => ?_)
  · replace h := run_t c1 h
    simp -dsimp -implicitDefEqProofs -failIfUnchanged only [↓RA, RB, RS, fx286, Nat.reduceLT, Nat.reduceAdd, Nat.reduceMul, Nat.reduceEqDiff, reduceIte, Nat.reduceBEq, Nat.reduceLeDiff, Nat.reduceSub, Int.reduceToNat, c1]
    refine CondH.mk (fun c2 => ?_) (fun c2 => ?_)
    · replace h := run_t c2 h
      simp -dsimp -implicitDefEqProofs -failIfUnchanged only [↓RA, RB, RS, fx286, Nat.reduceLT, Nat.reduceAdd, Nat.reduceMul, Nat.reduceEqDiff, reduceIte, Nat.reduceBEq, Nat.reduceLeDiff, Nat.reduceSub, Int.reduceToNat, c1, c2]
      have h := run_some h
      obtain rfl : _ = r := h
      refine FinH.l ?_
      simp -dsimp -implicitDefEqProofs -failIfUnchanged only [↓RA, RB, RS, fx286, Nat.reduceLT, Nat.reduceAdd, Nat.reduceMul, Nat.reduceEqDiff, reduceIte, Nat.reduceBEq, Nat.reduceLeDiff, Nat.reduceSub, Int.reduceToNat]
    · replace h := run_f c2 h
      simp -dsimp -implicitDefEqProofs -failIfUnchanged only [↓RA, RB, RS, fx286, Nat.reduceLT, Nat.reduceAdd, Nat.reduceMul, Nat.reduceEqDiff, reduceIte, Nat.reduceBEq, Nat.reduceLeDiff, Nat.reduceSub, Int.reduceToNat, c1, c2]
      have h := run_some h
      obtain rfl : _ = r := h
      refine FinH.l ?_
      simp -dsimp -implicitDefEqProofs -failIfUnchanged only [↓RA, RB, RS, fx286, Nat.reduceLT, Nat.reduceAdd, Nat.reduceMul, Nat.reduceEqDiff, reduceIte, Nat.reduceBEq, Nat.reduceLeDiff, Nat.reduceSub, Int.reduceToNat]
  · replace h := run_f c1 h
    simp -dsimp -implicitDefEqProofs -failIfUnchanged only [↓RA, RB, RS, fx286, Nat.reduceLT, Nat.reduceAdd, Nat.reduceMul, Nat.reduceEqDiff, reduceIte, Nat.reduceBEq, Nat.reduceLeDiff, Nat.reduceSub, Int.reduceToNat, c1]
    refine CondH.mk (fun c3 => ?_) (fun c3 => ?_)
    · replace h := run_t c3 h
      simp -dsimp -implicitDefEqProofs -failIfUnchanged only [↓RA, RB, RS, fx286, Nat.reduceLT, Nat.reduceAdd, Nat.reduceMul, Nat.reduceEqDiff, reduceIte, Nat.reduceBEq, Nat.reduceLeDiff, Nat.reduceSub, Int.reduceToNat, c1, c3]
      have h := run_some h
      obtain rfl : _ = r := h
      refine FinH.l ?_
      simp -dsimp -implicitDefEqProofs -failIfUnchanged only [↓RA, RB, RS, fx286, Nat.reduceLT, Nat.reduceAdd, Nat.reduceMul, Nat.reduceEqDiff, reduceIte, Nat.reduceBEq, Nat.reduceLeDiff, Nat.reduceSub, Int.reduceToNat]
    · replace h := run_f c3 h
      simp -dsimp -implicitDefEqProofs -failIfUnchanged only [↓RA, RB, RS, fx286, Nat.reduceLT, Nat.reduceAdd, Nat.reduceMul, Nat.reduceEqDiff, reduceIte, Nat.reduceBEq, Nat.reduceLeDiff, Nat.reduceSub, Int.reduceToNat, c1, c3]
      refine CondH.mk (fun c4 => ?_) (fun c4 => ?_)
      · replace h := run_t c4 h
        simp -dsimp -implicitDefEqProofs -failIfUnchanged only [↓RA, RB, RS, fx286, Nat.reduceLT, Nat.reduceAdd, Nat.reduceMul, Nat.reduceEqDiff, reduceIte, Nat.reduceBEq, Nat.reduceLeDiff, Nat.reduceSub, Int.reduceToNat, c1, c3, c4]
        have h := run_some h
        obtain rfl : _ = r := h
        refine FinH.l ?_
        simp -dsimp -implicitDefEqProofs -failIfUnchanged only [↓RA, RB, RS, fx286, Nat.reduceLT, Nat.reduceAdd, Nat.reduceMul, Nat.reduceEqDiff, reduceIte, Nat.reduceBEq, Nat.reduceLeDiff, Nat.reduceSub, Int.reduceToNat]
      · replace h := run_f c4 h
        simp -dsimp -implicitDefEqProofs -failIfUnchanged only [↓RA, RB, RS, fx286, Nat.reduceLT, Nat.reduceAdd, Nat.reduceMul, Nat.reduceEqDiff, reduceIte, Nat.reduceBEq, Nat.reduceLeDiff, Nat.reduceSub, Int.reduceToNat, c1, c3, c4]
        refine CondH.mk (fun c5 => ?_) (fun c5 => ?_)
        · replace h := run_t c5 h
          simp -dsimp -implicitDefEqProofs -failIfUnchanged only [↓RA, RB, RS, fx286, Nat.reduceLT, Nat.reduceAdd, Nat.reduceMul, Nat.reduceEqDiff, reduceIte, Nat.reduceBEq, Nat.reduceLeDiff, Nat.reduceSub, Int.reduceToNat, c1, c3, c4, c5]
          have h := run_some h
          obtain rfl : _ = r := h
          refine FinH.l ?_
          simp -dsimp -implicitDefEqProofs -failIfUnchanged only [↓RA, RB, RS, fx286, Nat.reduceLT, Nat.reduceAdd, Nat.reduceMul, Nat.reduceEqDiff, reduceIte, Nat.reduceBEq, Nat.reduceLeDiff, Nat.reduceSub, Int.reduceToNat]
        · replace h := run_f c5 h
          simp -dsimp -implicitDefEqProofs -failIfUnchanged only [↓RA, RB, RS, fx286, Nat.reduceLT, Nat.reduceAdd, Nat.reduceMul, Nat.reduceEqDiff, reduceIte, Nat.reduceBEq, Nat.reduceLeDiff, Nat.reduceSub, Int.reduceToNat, c1, c3, c4, c5]
          have h := run_some h
          obtain rfl : _ = r := h
          refine FinH.l ?_
          simp -dsimp -implicitDefEqProofs -failIfUnchanged only [↓RA, RB, RS, fx286, Nat.reduceLT, Nat.reduceAdd, Nat.reduceMul, Nat.reduceEqDiff, reduceIte, Nat.reduceBEq, Nat.reduceLeDiff, Nat.reduceSub, Int.reduceToNat]

def fx332 := And.intro @ty_3 <| And.intro @zc_3 <| @z_3
set_option maxHeartbeats 4000000 in
theorem cmp_isNaN_int_sat {a0 : Int}  {r : Bool} (h : cmp_isNaN_int a0 = some r) : Sat Try.prog 332 [(I a0)] (B r) := by
  replace h := Run.of h
  unfold cmp_isNaN_int at h
  refine Sat.of_m (nt := 6) (rs := [.tmp 2]) (n := 100000) Try.func332 rfl rfl rfl rfl (by simp) ?_
  simp -dsimp -implicitDefEqProofs -failIfUnchanged only [↓RA, RB, RS, fx332, Nat.reduceLT, Nat.reduceAdd, Nat.reduceMul, Nat.reduceEqDiff, reduceIte, Nat.reduceBEq, Nat.reduceLeDiff, Nat.reduceSub, Int.reduceToNat]
  have h := run_some h
  obtain rfl : _ = r := h
  refine FinH.l ?_
  simp -dsimp -implicitDefEqProofs -failIfUnchanged only [↓RA, RB, RS, fx332, Nat.reduceLT, Nat.reduceAdd, Nat.reduceMul, Nat.reduceEqDiff, reduceIte, Nat.reduceBEq, Nat.reduceLeDiff, Nat.reduceSub, Int.reduceToNat]

def fx287 := And.intro @ty_3 <| And.intro @zc_3 <| @z_3
set_option maxHeartbeats 4000000 in
theorem cmp_Compare_int_sat {a0 : Int} {a1 : Int}  {r : Int} (h : cmp_Compare_int a0 a1 = some r) : Sat Try.prog 287 [(I a0), (I a1)] (I r) := by
  replace h := Run.of h
  unfold cmp_Compare_int at h
  refine Sat.of_m (nt := 20) (rs := [.tmp 4]) (n := 100000) Try.func287 rfl rfl rfl rfl (by simp) ?_
  simp -dsimp -implicitDefEqProofs -failIfUnchanged only [↓RA, RB, RS, fx287, Nat.reduceLT, Nat.reduceAdd, Nat.reduceMul, Nat.reduceEqDiff, reduceIte, Nat.reduceBEq, Nat.reduceLeDiff, Nat.reduceSub, Int.reduceToNat]
  obtain ⟨v8, hv8, h⟩ := run_bind h
  refine CallH.mk [false] (cmp_isNaN_int_sat hv8) ?_ ?_ <;> simp -dsimp -implicitDefEqProofs -failIfUnchanged only [↓RA, RB, RS, fx287, Nat.reduceLT, Nat.reduceAdd, Nat.reduceMul, Nat.reduceEqDiff, reduceIte, Nat.reduceBEq, Nat.reduceLeDiff, Nat.reduceSub, Int.reduceToNat]
  obtain ⟨v10, hv10, h⟩ := run_bind h
  refine CallH.mk [false] (cmp_isNaN_int_sat hv10) ?_ ?_ <;> simp -dsimp -implicitDefEqProofs -failIfUnchanged only [↓RA, RB, RS, fx287, Nat.reduceLT, Nat.reduceAdd, Nat.reduceMul, Nat.reduceEqDiff, reduceIte, Nat.reduceBEq, Nat.reduceLeDiff, Nat.reduceSub, Int.reduceToNat]
  refine CondH.mk (fun c1 => ?_) (fun c1 => ?_)
  · replace h := run_t c1 h
    simp -dsimp -implicitDefEqProofs -failIfUnchanged only [↓RA, RB, RS, fx287, Nat.reduceLT, Nat.reduceAdd, Nat.reduceMul, Nat.reduceEqDiff, reduceIte, Nat.reduceBEq, Nat.reduceLeDiff, Nat.reduceSub, Int.reduceToNat, c1]
    refine CondH.mk (fun c2 => ?_) (fun c2 => ?_)
    · replace h := run_t c2 h
      simp -dsimp -implicitDefEqProofs -failIfUnchanged only [↓RA, RB, RS, fx287, Nat.reduceLT, Nat.reduceAdd, Nat.reduceMul, Nat.reduceEqDiff, reduceIte, Nat.reduceBEq, Nat.reduceLeDiff, Nat.reduceSub, Int.reduceToNat, c1, c2]
      have h := run_some h
      obtain rfl : _ = r := h
      refine FinH.l ?_
      simp -dsimp -implicitDefEqProofs -failIfUnchanged only [↓RA, RB, RS, fx287, Nat.reduceLT, Nat.reduceAdd, Nat.reduceMul, Nat.reduceEqDiff, reduceIte, Nat.reduceBEq, Nat.reduceLeDiff, Nat.reduceSub, Int.reduceToNat]
    · replace h := run_f c2 h
      simp -dsimp -implicitDefEqProofs -failIfUnchanged only [↓RA, RB, RS, fx287, Nat.reduceLT, Nat.reduceAdd, Nat.reduceMul, Nat.reduceEqDiff, reduceIte, Nat.reduceBEq, Nat.reduceLeDiff, Nat.reduceSub, Int.reduceToNat, c1, c2]
      have h := run_some h
      obtain rfl : _ = r := h
      refine FinH.l ?_
      simp -dsimp -implicitDefEqProofs -failIfUnchanged only [↓RA, RB, RS, fx287, Nat.reduceLT, Nat.reduceAdd, Nat.reduceMul, Nat.reduceEqDiff, reduceIte, Nat.reduceBEq, Nat.reduceLeDiff, Nat.reduceSub, Int.reduceToNat]
  · replace h := run_f c1 h
    simp -dsimp -implicitDefEqProofs -failIfUnchanged only [↓RA, RB, RS, fx287, Nat.reduceLT, Nat.reduceAdd, Nat.reduceMul, Nat.reduceEqDiff, reduceIte, Nat.reduceBEq, Nat.reduceLeDiff, Nat.reduceSub, Int.reduceToNat, c1]
    refine CondH.mk (fun c3 => ?_) (fun c3 => ?_)
    · replace h := run_t c3 h
      simp -dsimp -implicitDefEqProofs -failIfUnchanged only [↓RA, RB, RS, fx287, Nat.reduceLT, Nat.reduceAdd, Nat.reduceMul, Nat.reduceEqDiff, reduceIte, Nat.reduceBEq, Nat.reduceLeDiff, Nat.reduceSub, Int.reduceToNat, c1, c3]
      have h := run_some h
      obtain rfl : _ = r := h
      refine FinH.l ?_
      simp -dsimp -implicitDefEqProofs -failIfUnchanged only [↓RA, RB, RS, fx287, Nat.reduceLT, Nat.reduceAdd, Nat.reduceMul, Nat.reduceEqDiff, reduceIte, Nat.reduceBEq, Nat.reduceLeDiff, Nat.reduceSub, Int.reduceToNat]
    · replace h := run_f c3 h
      simp -dsimp -implicitDefEqProofs -failIfUnchanged only [↓RA, RB, RS, fx287, Nat.reduceLT, Nat.reduceAdd, Nat.reduceMul, Nat.reduceEqDiff, reduceIte, Nat.reduceBEq, Nat.reduceLeDiff, Nat.reduceSub, Int.reduceToNat, c1, c3]
      refine CondH.mk (fun c4 => ?_) (fun c4 => ?_)
      · replace h := run_t c4 h
        simp -dsimp -implicitDefEqProofs -failIfUnchanged only [↓RA, RB, RS, fx287, Nat.reduceLT, Nat.reduceAdd, Nat.reduceMul, Nat.reduceEqDiff, reduceIte, Nat.reduceBEq, Nat.reduceLeDiff, Nat.reduceSub, Int.reduceToNat, c1, c3, c4]
        have h := run_some h
        obtain rfl : _ = r := h
        refine FinH.l ?_
        simp -dsimp -implicitDefEqProofs -failIfUnchanged only [↓RA, RB, RS, fx287, Nat.reduceLT, Nat.reduceAdd, Nat.reduceMul, Nat.reduceEqDiff, reduceIte, Nat.reduceBEq, Nat.reduceLeDiff, Nat.reduceSub, Int.reduceToNat]
      · replace h := run_f c4 h
        simp -dsimp -implicitDefEqProofs -failIfUnchanged only [↓RA, RB, RS, fx287, Nat.reduceLT, Nat.reduceAdd, Nat.reduceMul, Nat.reduceEqDiff, reduceIte, Nat.reduceBEq, Nat.reduceLeDiff, Nat.reduceSub, Int.reduceToNat, c1, c3, c4]
        refine CondH.mk (fun c5 => ?_) (fun c5 => ?_)
        · replace h := run_t c5 h
          simp -dsimp -implicitDefEqProofs -failIfUnchanged only [↓RA, RB, RS, fx287, Nat.reduceLT, Nat.reduceAdd, Nat.reduceMul, Nat.reduceEqDiff, reduceIte, Nat.reduceBEq, Nat.reduceLeDiff, Nat.reduceSub, Int.reduceToNat, c1, c3, c4, c5]
          have h := run_some h
          obtain rfl : _ = r := h
          refine FinH.l ?_
          simp -dsimp -implicitDefEqProofs -failIfUnchanged only [↓RA, RB, RS, fx287, Nat.reduceLT, Nat.reduceAdd, Nat.reduceMul, Nat.reduceEqDiff, reduceIte, Nat.reduceBEq, Nat.reduceLeDiff, Nat.reduceSub, Int.reduceToNat]
        · replace h := run_f c5 h
          simp -dsimp -implicitDefEqProofs -failIfUnchanged only [↓RA, RB, RS, fx287, Nat.reduceLT, Nat.reduceAdd, Nat.reduceMul, Nat.reduceEqDiff, reduceIte, Nat.reduceBEq, Nat.reduceLeDiff, Nat.reduceSub, Int.reduceToNat, c1, c3, c4, c5]
          have h := run_some h
          obtain rfl : _ = r := h
          refine FinH.l ?_
          simp -dsimp -implicitDefEqProofs -failIfUnchanged only [↓RA, RB, RS, fx287, Nat.reduceLT, Nat.reduceAdd, Nat.reduceMul, Nat.reduceEqDiff, reduceIte, Nat.reduceBEq, Nat.reduceLeDiff, Nat.reduceSub, Int.reduceToNat]

def fx285 := And.intro @ty_3 <| And.intro @zc_3 <| And.intro @z_3 <| And.intro @ty_55 <| And.intro @zc_55 <| And.intro @z_55 <| And.intro @es_55 <| And.intro @eb_55 <| And.intro @sl_55 <| And.intro @is_55 <| And.intro @el_55 <| And.intro @ze_55 <| @ez_55
set_option maxHeartbeats 4000000 in
theorem cmp_Or_int_sat {a0 : List Int}  {r : Int} (h : cmp_Or_int a0 = some r) : Sat Try.prog 285 [(.sl false 1 (a0.map I))] (I r) := by
  replace h := Run.of h
  unfold cmp_Or_int at h
  refine Sat.of_m (nt := 18) (rs := [.tmp 2]) (n := 100000) Try.func285 rfl rfl rfl rfl (by simp) ?_
  simp -dsimp -implicitDefEqProofs -failIfUnchanged only [↓RA, RB, RS, fx285, Nat.reduceLT, Nat.reduceAdd, Nat.reduceMul, Nat.reduceEqDiff, reduceIte, Nat.reduceBEq, Nat.reduceLeDiff, Nat.reduceSub, Int.reduceToNat]
  refine Mg.know_sl (b := false) (sz := 1) (es := a0.map I) 0 (by simp -dsimp -implicitDefEqProofs -failIfUnchanged only [↓RA, RB, RS, fx285, Nat.reduceLT, Nat.reduceAdd, Nat.reduceMul, Nat.reduceEqDiff, reduceIte, Nat.reduceBEq, Nat.reduceLeDiff, Nat.reduceSub, Int.reduceToNat]) fun hl0 => ?_; rw [List.length_map] at hl0
  replace h := run_loop h
  refine Mg.forN h (fun i3 s3 => [(3, .val (.pv (I (0 : Int)))), (6, .val (.pv (.sl false 1 (a0.map I)))), (7, .val (.pv (I (a0.length : Int)))), (8, .val (.pv (I (i3 : Int))))]) (fun i3 s3 => []) (St.le_mk2 (by simp -dsimp -implicitDefEqProofs -failIfUnchanged only [↓RA, RB, RS, fx285, Nat.reduceLT, Nat.reduceAdd, Nat.reduceMul, Nat.reduceEqDiff, reduceIte, Nat.reduceBEq, Nat.reduceLeDiff, Nat.reduceSub, Int.reduceToNat])) (fun i3 s3 hi h => ?_) (fun s3 h => ?_)
  · have w3 := wrap_succ (i := i3) (by omega)
    simp -dsimp -implicitDefEqProofs -failIfUnchanged only [↓RA, RB, RS, fx285, Nat.reduceLT, Nat.reduceAdd, Nat.reduceMul, Nat.reduceEqDiff, reduceIte, Nat.reduceBEq, Nat.reduceLeDiff, Nat.reduceSub, Int.reduceToNat]
    refine CondH.tt (decide_eq_true (by omega)) (fun c1 => ?_)
    simp -dsimp -implicitDefEqProofs -failIfUnchanged only [↓RA, RB, RS, fx285, Nat.reduceLT, Nat.reduceAdd, Nat.reduceMul, Nat.reduceEqDiff, reduceIte, Nat.reduceBEq, Nat.reduceLeDiff, Nat.reduceSub, Int.reduceToNat, c1]
    obtain ⟨v10, hv10, h⟩ := run_bind h
    refine IdxH.mk (f := I) hv10 ?_ ?_ <;> simp -dsimp -implicitDefEqProofs -failIfUnchanged only [↓RA, RB, RS, fx285, Nat.reduceLT, Nat.reduceAdd, Nat.reduceMul, Nat.reduceEqDiff, reduceIte, Nat.reduceBEq, Nat.reduceLeDiff, Nat.reduceSub, Int.reduceToNat, c1]
    refine CondH.mk (fun c2 => ?_) (fun c2 => ?_)
    · replace h := run_t c2 h
      simp -dsimp -implicitDefEqProofs -failIfUnchanged only [↓RA, RB, RS, fx285, Nat.reduceLT, Nat.reduceAdd, Nat.reduceMul, Nat.reduceEqDiff, reduceIte, Nat.reduceBEq, Nat.reduceLeDiff, Nat.reduceSub, Int.reduceToNat, c1, c2]
      have h := run_some h
      refine RdH.mk ⟨_, h, ?_⟩
      refine St.le_mk2 ?_
      simp -dsimp -implicitDefEqProofs -failIfUnchanged only [↓RA, RB, RS, fx285, Nat.reduceLT, Nat.reduceAdd, Nat.reduceMul, Nat.reduceEqDiff, reduceIte, Nat.reduceBEq, Nat.reduceLeDiff, Nat.reduceSub, Int.reduceToNat, c1, c2, w3]
    · replace h := run_f c2 h
      simp -dsimp -implicitDefEqProofs -failIfUnchanged only [↓RA, RB, RS, fx285, Nat.reduceLT, Nat.reduceAdd, Nat.reduceMul, Nat.reduceEqDiff, reduceIte, Nat.reduceBEq, Nat.reduceLeDiff, Nat.reduceSub, Int.reduceToNat, c1, c2]
      have h := run_some h
      obtain rfl : _ = r := h
      refine FinH.l ?_
      simp -dsimp -implicitDefEqProofs -failIfUnchanged only [↓RA, RB, RS, fx285, Nat.reduceLT, Nat.reduceAdd, Nat.reduceMul, Nat.reduceEqDiff, reduceIte, Nat.reduceBEq, Nat.reduceLeDiff, Nat.reduceSub, Int.reduceToNat]
  · simp -dsimp -implicitDefEqProofs -failIfUnchanged only [↓RA, RB, RS, fx285, Nat.reduceLT, Nat.reduceAdd, Nat.reduceMul, Nat.reduceEqDiff, reduceIte, Nat.reduceBEq, Nat.reduceLeDiff, Nat.reduceSub, Int.reduceToNat]
    refine CondH.ff (decide_eq_false (by omega)) (fun c3 => ?_)
    simp -dsimp -implicitDefEqProofs -failIfUnchanged only [↓RA, RB, RS, fx285, Nat.reduceLT, Nat.reduceAdd, Nat.reduceMul, Nat.reduceEqDiff, reduceIte, Nat.reduceBEq, Nat.reduceLeDiff, Nat.reduceSub, Int.reduceToNat, c3]
    have h := run_some h
    obtain rfl : _ = r := h
    refine FinH.l ?_
    simp -dsimp -implicitDefEqProofs -failIfUnchanged only [↓RA, RB, RS, fx285, Nat.reduceLT, Nat.reduceAdd, Nat.reduceMul, Nat.reduceEqDiff, reduceIte, Nat.reduceBEq, Nat.reduceLeDiff, Nat.reduceSub, Int.reduceToNat]

def fx288 := And.intro @ty_3 <| And.intro @zc_3 <| And.intro @z_3 <| And.intro @ty_27 <| And.intro @zc_27 <| And.intro @z_27 <| And.intro @es_27 <| And.intro @eb_27 <| And.intro @sl_27 <| And.intro @is_27 <| And.intro @el_27 <| And.intro @ze_27 <| And.intro @ez_27 <| And.intro @ty_35 <| And.intro @zc_35 <| And.intro @z_35 <| And.intro @fo_35_0 <| And.intro @fi_35_0 <| And.intro @ft_35_0 <| And.intro @fo_35_1 <| And.intro @fi_35_1 <| And.intro @ft_35_1 <| @lay_35
set_option maxHeartbeats 4000000 in
theorem slices_CompareFunc_Simpl_Term_Simpl_Term_impl_Term_impl_Term_sat {a0 : List Term} {a1 : List Term} {a2 : Term → Term → Option Int} {a2_id : FuncId} {a2_cs : List PV} (a2_ok : ∀ y0 y1 r, a2 y0 y1 = some r → Sat Try.prog a2_id (((Term.pv false) y0) :: ((Term.pv false) y1) :: a2_cs) (I r)) (a2_cz : CapsOk a2_cs = True) {r : Int} (h : slices_CompareFunc_Simpl_Term_Simpl_Term_impl_Term_impl_Term a0 a1 a2 = some r) : Sat Try.prog 288 [(.sl false 2 (a0.map (Term.pv false))), (.sl false 2 (a1.map (Term.pv false))), .clo a2_id a2_cs] (I r) := by
  replace h := Run.of h
  unfold slices_CompareFunc_Simpl_Term_Simpl_Term_impl_Term_impl_Term at h
  refine Sat.of_m (nt := 39) (rs := [.tmp 6]) (n := 100000) Try.func288 rfl rfl rfl rfl (by simp) ?_
  simp -dsimp -implicitDefEqProofs -failIfUnchanged only [↓RA, RB, RS, fx288, a2_cz, Nat.reduceLT, Nat.reduceAdd, Nat.reduceMul, Nat.reduceEqDiff, reduceIte, Nat.reduceBEq, Nat.reduceLeDiff, Nat.reduceSub, Int.reduceToNat]
  refine Mg.know_sl (b := false) (sz := 2) (es := a0.map (Term.pv false)) 0 (by simp -dsimp -implicitDefEqProofs -failIfUnchanged only [↓RA, RB, RS, fx288, a2_cz, Nat.reduceLT, Nat.reduceAdd, Nat.reduceMul, Nat.reduceEqDiff, reduceIte, Nat.reduceBEq, Nat.reduceLeDiff, Nat.reduceSub, Int.reduceToNat]) fun hl0 => ?_; rw [List.length_map] at hl0
  replace h := run_loop h
  refine Mg.forN h (fun i2 s2 => [(0, .val (.pv (.sl false 2 (a0.map (Term.pv false))))), (1, .val (.pv (.sl false 2 (a1.map (Term.pv false))))), (2, .val (.pv (.clo a2_id a2_cs))), (11, .val (.pv (.sl false 2 (a0.map (Term.pv false))))), (12, .val (.pv (I (a0.length : Int)))), (13, .val (.pv (I (i2 : Int))))]) (fun i2 s2 => []) (St.le_mk2 (by simp -dsimp -implicitDefEqProofs -failIfUnchanged only [↓RA, RB, RS, fx288, a2_cz, Nat.reduceLT, Nat.reduceAdd, Nat.reduceMul, Nat.reduceEqDiff, reduceIte, Nat.reduceBEq, Nat.reduceLeDiff, Nat.reduceSub, Int.reduceToNat])) (fun i2 s2 hi h => ?_) (fun s2 h => ?_)
  · have w2 := wrap_succ (i := i2) (by omega)
    simp -dsimp -implicitDefEqProofs -failIfUnchanged only [↓RA, RB, RS, fx288, a2_cz, Nat.reduceLT, Nat.reduceAdd, Nat.reduceMul, Nat.reduceEqDiff, reduceIte, Nat.reduceBEq, Nat.reduceLeDiff, Nat.reduceSub, Int.reduceToNat]
    refine CondH.tt (decide_eq_true (by omega)) (fun c1 => ?_)
    simp -dsimp -implicitDefEqProofs -failIfUnchanged only [↓RA, RB, RS, fx288, a2_cz, Nat.reduceLT, Nat.reduceAdd, Nat.reduceMul, Nat.reduceEqDiff, reduceIte, Nat.reduceBEq, Nat.reduceLeDiff, Nat.reduceSub, Int.reduceToNat, c1]
    obtain ⟨v16, hv16, h⟩ := run_bind h
    refine IdxH.mk (f := (Term.pv false)) hv16 ?_ ?_ <;> simp -dsimp -implicitDefEqProofs -failIfUnchanged only [↓RA, RB, RS, fx288, a2_cz, Nat.reduceLT, Nat.reduceAdd, Nat.reduceMul, Nat.reduceEqDiff, reduceIte, Nat.reduceBEq, Nat.reduceLeDiff, Nat.reduceSub, Int.reduceToNat, c1]
    repeat (first | with_reducible refine noR_and (by repeat (first | exact noR_empty _ _ | exact noR_nilS _ _ | refine noR_mk _ _ _ _ _ rfl ?_ | refine noR_mkS _ _ _ _ _ rfl ?_)) ?_ | with_reducible refine noC_and (by repeat (first | exact noC_empty _ _ (by simp -dsimp -implicitDefEqProofs -failIfUnchanged only [↓RA, RB, RS, fx288, a2_cz, Nat.reduceLT, Nat.reduceAdd, Nat.reduceMul, Nat.reduceEqDiff, reduceIte, Nat.reduceBEq, Nat.reduceLeDiff, Nat.reduceSub, Int.reduceToNat]) | exact noC_nilS _ _ (by simp -dsimp -implicitDefEqProofs -failIfUnchanged only [↓RA, RB, RS, fx288, a2_cz, Nat.reduceLT, Nat.reduceAdd, Nat.reduceMul, Nat.reduceEqDiff, reduceIte, Nat.reduceBEq, Nat.reduceLeDiff, Nat.reduceSub, Int.reduceToNat]) | refine noC_mk _ _ _ _ _ rfl ?_ | refine noC_mkS _ _ _ _ _ rfl ?_)) ?_ | with_reducible refine and_ac ?_ | with_reducible refine And.intro (a := _ = List.range _) (by rfl) ?_)
    refine CondH.mk (fun c2 => ?_) (fun c2 => ?_)
    · replace h := run_t c2 h
      simp -dsimp -implicitDefEqProofs -failIfUnchanged only [↓RA, RB, RS, fx288, a2_cz, Nat.reduceLT, Nat.reduceAdd, Nat.reduceMul, Nat.reduceEqDiff, reduceIte, Nat.reduceBEq, Nat.reduceLeDiff, Nat.reduceSub, Int.reduceToNat, c1, c2]
      have h := run_some h
      obtain rfl : _ = r := h
      refine FinH.l ?_
      simp -dsimp -implicitDefEqProofs -failIfUnchanged only [↓RA, RB, RS, fx288, a2_cz, Nat.reduceLT, Nat.reduceAdd, Nat.reduceMul, Nat.reduceEqDiff, reduceIte, Nat.reduceBEq, Nat.reduceLeDiff, Nat.reduceSub, Int.reduceToNat]
    · replace h := run_f c2 h
      simp -dsimp -implicitDefEqProofs -failIfUnchanged only [↓RA, RB, RS, fx288, a2_cz, Nat.reduceLT, Nat.reduceAdd, Nat.reduceMul, Nat.reduceEqDiff, reduceIte, Nat.reduceBEq, Nat.reduceLeDiff, Nat.reduceSub, Int.reduceToNat, c1, c2]
      obtain ⟨v24, hv24, h⟩ := run_bind h
      refine IdxH.mk (f := (Term.pv false)) hv24 ?_ ?_ <;> simp -dsimp -implicitDefEqProofs -failIfUnchanged only [↓RA, RB, RS, fx288, a2_cz, Nat.reduceLT, Nat.reduceAdd, Nat.reduceMul, Nat.reduceEqDiff, reduceIte, Nat.reduceBEq, Nat.reduceLeDiff, Nat.reduceSub, Int.reduceToNat, c1, c2]
      repeat (first | with_reducible refine noR_and (by repeat (first | exact noR_empty _ _ | exact noR_nilS _ _ | refine noR_mk _ _ _ _ _ rfl ?_ | refine noR_mkS _ _ _ _ _ rfl ?_)) ?_ | with_reducible refine noC_and (by repeat (first | exact noC_empty _ _ (by simp -dsimp -implicitDefEqProofs -failIfUnchanged only [↓RA, RB, RS, fx288, a2_cz, Nat.reduceLT, Nat.reduceAdd, Nat.reduceMul, Nat.reduceEqDiff, reduceIte, Nat.reduceBEq, Nat.reduceLeDiff, Nat.reduceSub, Int.reduceToNat]) | exact noC_nilS _ _ (by simp -dsimp -implicitDefEqProofs -failIfUnchanged only [↓RA, RB, RS, fx288, a2_cz, Nat.reduceLT, Nat.reduceAdd, Nat.reduceMul, Nat.reduceEqDiff, reduceIte, Nat.reduceBEq, Nat.reduceLeDiff, Nat.reduceSub, Int.reduceToNat]) | refine noC_mk _ _ _ _ _ rfl ?_ | refine noC_mkS _ _ _ _ _ rfl ?_)) ?_ | with_reducible refine and_ac ?_ | with_reducible refine And.intro (a := _ = List.range _) (by rfl) ?_)
      obtain ⟨v29, hv29, h⟩ := run_bind h
      refine CallH.mk [false, false] (a2_ok _ _ _ hv29) ?_ ?_ <;> simp -dsimp -implicitDefEqProofs -failIfUnchanged only [↓RA, RB, RS, fx288, a2_cz, Nat.reduceLT, Nat.reduceAdd, Nat.reduceMul, Nat.reduceEqDiff, reduceIte, Nat.reduceBEq, Nat.reduceLeDiff, Nat.reduceSub, Int.reduceToNat, c1, c2]
      refine CondH.mk (fun c3 => ?_) (fun c3 => ?_)
      · replace h := run_t c3 h
        simp -dsimp -implicitDefEqProofs -failIfUnchanged only [↓RA, RB, RS, fx288, a2_cz, Nat.reduceLT, Nat.reduceAdd, Nat.reduceMul, Nat.reduceEqDiff, reduceIte, Nat.reduceBEq, Nat.reduceLeDiff, Nat.reduceSub, Int.reduceToNat, c1, c2, c3]
        have h := run_some h
        refine RdH.mk ⟨_, h, ?_⟩
        refine St.le_mk2 ?_
        simp -dsimp -implicitDefEqProofs -failIfUnchanged only [↓RA, RB, RS, fx288, a2_cz, Nat.reduceLT, Nat.reduceAdd, Nat.reduceMul, Nat.reduceEqDiff, reduceIte, Nat.reduceBEq, Nat.reduceLeDiff, Nat.reduceSub, Int.reduceToNat, c1, c2, c3, w2]
      · replace h := run_f c3 h
        simp -dsimp -implicitDefEqProofs -failIfUnchanged only [↓RA, RB, RS, fx288, a2_cz, Nat.reduceLT, Nat.reduceAdd, Nat.reduceMul, Nat.reduceEqDiff, reduceIte, Nat.reduceBEq, Nat.reduceLeDiff, Nat.reduceSub, Int.reduceToNat, c1, c2, c3]
        have h := run_some h
        obtain rfl : _ = r := h
        refine FinH.l ?_
        simp -dsimp -implicitDefEqProofs -failIfUnchanged only [↓RA, RB, RS, fx288, a2_cz, Nat.reduceLT, Nat.reduceAdd, Nat.reduceMul, Nat.reduceEqDiff, reduceIte, Nat.reduceBEq, Nat.reduceLeDiff, Nat.reduceSub, Int.reduceToNat]
  · simp -dsimp -implicitDefEqProofs -failIfUnchanged only [↓RA, RB, RS, fx288, a2_cz, Nat.reduceLT, Nat.reduceAdd, Nat.reduceMul, Nat.reduceEqDiff, reduceIte, Nat.reduceBEq, Nat.reduceLeDiff, Nat.reduceSub, Int.reduceToNat]
    refine CondH.ff (decide_eq_false (by omega)) (fun c4 => ?_)
    simp -dsimp -implicitDefEqProofs -failIfUnchanged only [↓RA, RB, RS, fx288, a2_cz, Nat.reduceLT, Nat.reduceAdd, Nat.reduceMul, Nat.reduceEqDiff, reduceIte, Nat.reduceBEq, Nat.reduceLeDiff, Nat.reduceSub, Int.reduceToNat, c4]
    refine CondH.mk (fun c5 => ?_) (fun c5 => ?_)
    · replace h := run_t c5 h
      simp -dsimp -implicitDefEqProofs -failIfUnchanged only [↓RA, RB, RS, fx288, a2_cz, Nat.reduceLT, Nat.reduceAdd, Nat.reduceMul, Nat.reduceEqDiff, reduceIte, Nat.reduceBEq, Nat.reduceLeDiff, Nat.reduceSub, Int.reduceToNat, c4, c5]
      have h := run_some h
      obtain rfl : _ = r := h
      refine FinH.l ?_
      simp -dsimp -implicitDefEqProofs -failIfUnchanged only [↓RA, RB, RS, fx288, a2_cz, Nat.reduceLT, Nat.reduceAdd, Nat.reduceMul, Nat.reduceEqDiff, reduceIte, Nat.reduceBEq, Nat.reduceLeDiff, Nat.reduceSub, Int.reduceToNat]
    · replace h := run_f c5 h
      simp -dsimp -implicitDefEqProofs -failIfUnchanged only [↓RA, RB, RS, fx288, a2_cz, Nat.reduceLT, Nat.reduceAdd, Nat.reduceMul, Nat.reduceEqDiff, reduceIte, Nat.reduceBEq, Nat.reduceLeDiff, Nat.reduceSub, Int.reduceToNat, c4, c5]
      have h := run_some h
      obtain rfl : _ = r := h
      refine FinH.l ?_
      simp -dsimp -implicitDefEqProofs -failIfUnchanged only [↓RA, RB, RS, fx288, a2_cz, Nat.reduceLT, Nat.reduceAdd, Nat.reduceMul, Nat.reduceEqDiff, reduceIte, Nat.reduceBEq, Nat.reduceLeDiff, Nat.reduceSub, Int.reduceToNat]

def fx190 := And.intro @ty_3 <| And.intro @zc_3 <| And.intro @z_3 <| And.intro @ty_4 <| And.intro @zc_4 <| And.intro @z_4 <| And.intro @u_4 <| And.intro @ty_9 <| And.intro @zc_9 <| And.intro @z_9 <| And.intro @u_9 <| And.intro @ty_27 <| And.intro @zc_27 <| And.intro @z_27 <| And.intro @es_27 <| And.intro @eb_27 <| And.intro @sl_27 <| And.intro @is_27 <| And.intro @el_27 <| And.intro @ze_27 <| And.intro @ez_27 <| And.intro @ty_35 <| And.intro @zc_35 <| And.intro @z_35 <| And.intro @fo_35_0 <| And.intro @fi_35_0 <| And.intro @ft_35_0 <| And.intro @fo_35_1 <| And.intro @fi_35_1 <| And.intro @ft_35_1 <| And.intro @lay_35 <| And.intro @ty_55 <| And.intro @zc_55 <| And.intro @z_55 <| And.intro @es_55 <| And.intro @eb_55 <| And.intro @sl_55 <| And.intro @is_55 <| And.intro @el_55 <| And.intro @ze_55 <| And.intro @ez_55 <| And.intro @ty_215 <| And.intro @zc_215 <| And.intro @z_215 <| @mixedT
set_option maxHeartbeats 4000000 in
theorem impl_compareTermsN_sat (n : Nat) : (∀ (a0 : Term) (a1 : Term) (r : Int), impl_compareTermsN n a0 a1 = some r → Sat Try.prog 190 [((Term.pv false) a0), ((Term.pv false) a1)] (I r)) := by
  induction n with
  | zero => exact fun _ _ _ h => by simp [impl_compareTermsN] at h
  | succ n ih =>
    refine fun a0 a1 r h => ?_
    replace h := Run.of h
    rw [impl_compareTermsN] at h
    refine Sat.of_m (nt := 46) (rs := [.tmp 4]) (n := 100000) Try.func190 rfl rfl rfl rfl (by simp) ?_
    simp -dsimp -implicitDefEqProofs -failIfUnchanged only [↓RA, RB, RS, fx190, Nat.reduceLT, Nat.reduceAdd, Nat.reduceMul, Nat.reduceEqDiff, reduceIte, Nat.reduceBEq, Nat.reduceLeDiff, Nat.reduceSub, Int.reduceToNat]
    repeat (first | with_reducible refine noR_and (by repeat (first | exact noR_empty _ _ | exact noR_nilS _ _ | refine noR_mk _ _ _ _ _ rfl ?_ | refine noR_mkS _ _ _ _ _ rfl ?_)) ?_ | with_reducible refine noC_and (by repeat (first | exact noC_empty _ _ (by simp -dsimp -implicitDefEqProofs -failIfUnchanged only [↓RA, RB, RS, fx190, Nat.reduceLT, Nat.reduceAdd, Nat.reduceMul, Nat.reduceEqDiff, reduceIte, Nat.reduceBEq, Nat.reduceLeDiff, Nat.reduceSub, Int.reduceToNat]) | exact noC_nilS _ _ (by simp -dsimp -implicitDefEqProofs -failIfUnchanged only [↓RA, RB, RS, fx190, Nat.reduceLT, Nat.reduceAdd, Nat.reduceMul, Nat.reduceEqDiff, reduceIte, Nat.reduceBEq, Nat.reduceLeDiff, Nat.reduceSub, Int.reduceToNat]) | refine noC_mk _ _ _ _ _ rfl ?_ | refine noC_mkS _ _ _ _ _ rfl ?_)) ?_ | with_reducible refine and_ac ?_ | with_reducible refine And.intro (a := _ = List.range _) (by rfl) ?_)
    obtain ⟨v9, hv9, h⟩ := run_bind h
    refine CallH.mk [false] (impl_isVar_sat hv9) ?_ ?_ <;> simp -dsimp -implicitDefEqProofs -failIfUnchanged only [↓RA, RB, RS, fx190, Nat.reduceLT, Nat.reduceAdd, Nat.reduceMul, Nat.reduceEqDiff, reduceIte, Nat.reduceBEq, Nat.reduceLeDiff, Nat.reduceSub, Int.reduceToNat]
    obtain ⟨v11, hv11, h⟩ := run_bind h
    refine CallH.mk [false] (impl_isVar_sat hv11) ?_ ?_ <;> simp -dsimp -implicitDefEqProofs -failIfUnchanged only [↓RA, RB, RS, fx190, Nat.reduceLT, Nat.reduceAdd, Nat.reduceMul, Nat.reduceEqDiff, reduceIte, Nat.reduceBEq, Nat.reduceLeDiff, Nat.reduceSub, Int.reduceToNat]
    refine And.intro (DrawH.none (by rfl) (by first | rfl | (simp -dsimp -implicitDefEqProofs -failIfUnchanged only [↓RA, RB, RS, fx190, Nat.reduceLT, Nat.reduceAdd, Nat.reduceMul, Nat.reduceEqDiff, reduceIte, Nat.reduceBEq, Nat.reduceLeDiff, Nat.reduceSub, Int.reduceToNat] <;> rfl)) (by first | rfl | (simp -dsimp -implicitDefEqProofs -failIfUnchanged only [↓RA, RB, RS, fx190, Nat.reduceLT, Nat.reduceAdd, Nat.reduceMul, Nat.reduceEqDiff, reduceIte, Nat.reduceBEq, Nat.reduceLeDiff, Nat.reduceSub, Int.reduceToNat] <;> rfl)) (by first | rfl | (simp -dsimp -implicitDefEqProofs -failIfUnchanged only [↓RA, RB, RS, fx190, Nat.reduceLT, Nat.reduceAdd, Nat.reduceMul, Nat.reduceEqDiff, reduceIte, Nat.reduceBEq, Nat.reduceLeDiff, Nat.reduceSub, Int.reduceToNat] <;> rfl))) ?_
    simp -dsimp -implicitDefEqProofs -failIfUnchanged only [↓RA, RB, RS, fx190, Nat.reduceLT, Nat.reduceAdd, Nat.reduceMul, Nat.reduceEqDiff, reduceIte, Nat.reduceBEq, Nat.reduceLeDiff, Nat.reduceSub, Int.reduceToNat]
    refine CondH.mk (fun c1 => ?_) (fun c1 => ?_)
    · replace h := run_t c1 h
      simp -dsimp -implicitDefEqProofs -failIfUnchanged only [↓RA, RB, RS, fx190, Nat.reduceLT, Nat.reduceAdd, Nat.reduceMul, Nat.reduceEqDiff, reduceIte, Nat.reduceBEq, Nat.reduceLeDiff, Nat.reduceSub, Int.reduceToNat, c1]
      refine CondH.mk (fun c2 => ?_) (fun c2 => ?_)
      · replace h := run_t c2 h
        simp -dsimp -implicitDefEqProofs -failIfUnchanged only [↓RA, RB, RS, fx190, Nat.reduceLT, Nat.reduceAdd, Nat.reduceMul, Nat.reduceEqDiff, reduceIte, Nat.reduceBEq, Nat.reduceLeDiff, Nat.reduceSub, Int.reduceToNat, c1, c2]
        obtain ⟨v28, hv28, h⟩ := run_bind h
        refine CallH.mk [false, false] (cmp_Compare_string_sat hv28) ?_ ?_ <;> simp -dsimp -implicitDefEqProofs -failIfUnchanged only [↓RA, RB, RS, fx190, Nat.reduceLT, Nat.reduceAdd, Nat.reduceMul, Nat.reduceEqDiff, reduceIte, Nat.reduceBEq, Nat.reduceLeDiff, Nat.reduceSub, Int.reduceToNat, c1, c2]
        obtain ⟨v35, hv35, h⟩ := run_bind h
        refine CallH.mk [false, false] (cmp_Compare_int_sat hv35) ?_ ?_ <;> simp -dsimp -implicitDefEqProofs -failIfUnchanged only [↓RA, RB, RS, fx190, Nat.reduceLT, Nat.reduceAdd, Nat.reduceMul, Nat.reduceEqDiff, reduceIte, Nat.reduceBEq, Nat.reduceLeDiff, Nat.reduceSub, Int.reduceToNat, c1, c2]
        repeat (first | with_reducible refine noR_and (by repeat (first | exact noR_empty _ _ | exact noR_nilS _ _ | refine noR_mk _ _ _ _ _ rfl ?_ | refine noR_mkS _ _ _ _ _ rfl ?_)) ?_ | with_reducible refine noC_and (by repeat (first | exact noC_empty _ _ (by simp -dsimp -implicitDefEqProofs -failIfUnchanged only [↓RA, RB, RS, fx190, Nat.reduceLT, Nat.reduceAdd, Nat.reduceMul, Nat.reduceEqDiff, reduceIte, Nat.reduceBEq, Nat.reduceLeDiff, Nat.reduceSub, Int.reduceToNat]) | exact noC_nilS _ _ (by simp -dsimp -implicitDefEqProofs -failIfUnchanged only [↓RA, RB, RS, fx190, Nat.reduceLT, Nat.reduceAdd, Nat.reduceMul, Nat.reduceEqDiff, reduceIte, Nat.reduceBEq, Nat.reduceLeDiff, Nat.reduceSub, Int.reduceToNat]) | refine noC_mk _ _ _ _ _ rfl ?_ | refine noC_mkS _ _ _ _ _ rfl ?_)) ?_ | with_reducible refine and_ac ?_ | with_reducible refine And.intro (a := _ = List.range _) (by rfl) ?_)
        obtain ⟨v37, hv37, h⟩ := run_bind h
        refine CallH.mk [false] (cmp_Or_int_sat hv37) ?_ ?_ <;> simp -dsimp -implicitDefEqProofs -failIfUnchanged only [↓RA, RB, RS, fx190, Nat.reduceLT, Nat.reduceAdd, Nat.reduceMul, Nat.reduceEqDiff, reduceIte, Nat.reduceBEq, Nat.reduceLeDiff, Nat.reduceSub, Int.reduceToNat, c1, c2]
        refine And.intro (DrawH.mk [] [576] (by rfl) (by first | rfl | (simp -dsimp -implicitDefEqProofs -failIfUnchanged only [↓RA, RB, RS, fx190, Nat.reduceLT, Nat.reduceAdd, Nat.reduceMul, Nat.reduceEqDiff, reduceIte, Nat.reduceBEq, Nat.reduceLeDiff, Nat.reduceSub, Int.reduceToNat] <;> rfl)) (by first | rfl | (simp -dsimp -implicitDefEqProofs -failIfUnchanged only [↓RA, RB, RS, fx190, Nat.reduceLT, Nat.reduceAdd, Nat.reduceMul, Nat.reduceEqDiff, reduceIte, Nat.reduceBEq, Nat.reduceLeDiff, Nat.reduceSub, Int.reduceToNat] <;> rfl)) (by first | rfl | (simp -dsimp -implicitDefEqProofs -failIfUnchanged only [↓RA, RB, RS, fx190, Nat.reduceLT, Nat.reduceAdd, Nat.reduceMul, Nat.reduceEqDiff, reduceIte, Nat.reduceBEq, Nat.reduceLeDiff, Nat.reduceSub, Int.reduceToNat] <;> rfl)) (by simp) (by simp -dsimp -implicitDefEqProofs -failIfUnchanged only [↓RA, RB, RS, fx190, Nat.reduceLT, Nat.reduceAdd, Nat.reduceMul, Nat.reduceEqDiff, reduceIte, Nat.reduceBEq, Nat.reduceLeDiff, Nat.reduceSub, Int.reduceToNat]; repeat (first | exact noC_empty _ _ (by simp -dsimp -implicitDefEqProofs -failIfUnchanged only [↓RA, RB, RS, fx190, Nat.reduceLT, Nat.reduceAdd, Nat.reduceMul, Nat.reduceEqDiff, reduceIte, Nat.reduceBEq, Nat.reduceLeDiff, Nat.reduceSub, Int.reduceToNat]) | exact noC_nilS _ _ (by simp -dsimp -implicitDefEqProofs -failIfUnchanged only [↓RA, RB, RS, fx190, Nat.reduceLT, Nat.reduceAdd, Nat.reduceMul, Nat.reduceEqDiff, reduceIte, Nat.reduceBEq, Nat.reduceLeDiff, Nat.reduceSub, Int.reduceToNat]) | refine noC_mk _ _ _ _ _ rfl ?_ | refine noC_mkS _ _ _ _ _ rfl ?_ | refine And.intro ?_ ?_))) ?_
        simp -dsimp -implicitDefEqProofs -failIfUnchanged only [↓RA, RB, RS, fx190, Nat.reduceLT, Nat.reduceAdd, Nat.reduceMul, Nat.reduceEqDiff, reduceIte, Nat.reduceBEq, Nat.reduceLeDiff, Nat.reduceSub, Int.reduceToNat, c1, c2]
        refine CondH.mk (fun c3 => ?_) (fun c3 => ?_)
        · replace h := run_t c3 h
          simp -dsimp -implicitDefEqProofs -failIfUnchanged only [↓RA, RB, RS, fx190, Nat.reduceLT, Nat.reduceAdd, Nat.reduceMul, Nat.reduceEqDiff, reduceIte, Nat.reduceBEq, Nat.reduceLeDiff, Nat.reduceSub, Int.reduceToNat, c1, c2, c3]
          obtain ⟨v45, hv45, h⟩ := run_bind h
          refine CallH.mk [false, false, false] (slices_CompareFunc_Simpl_Term_Simpl_Term_impl_Term_impl_Term_sat (fun _ _ _ hh => ih _ _ _ hh) (by simp only [CapsOk_nil, CapsOk_cons]) hv45) ?_ ?_ <;> simp -dsimp -implicitDefEqProofs -failIfUnchanged only [↓RA, RB, RS, fx190, Nat.reduceLT, Nat.reduceAdd, Nat.reduceMul, Nat.reduceEqDiff, reduceIte, Nat.reduceBEq, Nat.reduceLeDiff, Nat.reduceSub, Int.reduceToNat, c1, c2, c3]
          have h := run_some h
          obtain rfl : _ = r := h
          refine FinH.l ?_
          simp -dsimp -implicitDefEqProofs -failIfUnchanged only [↓RA, RB, RS, fx190, Nat.reduceLT, Nat.reduceAdd, Nat.reduceMul, Nat.reduceEqDiff, reduceIte, Nat.reduceBEq, Nat.reduceLeDiff, Nat.reduceSub, Int.reduceToNat]
        · replace h := run_f c3 h
          simp -dsimp -implicitDefEqProofs -failIfUnchanged only [↓RA, RB, RS, fx190, Nat.reduceLT, Nat.reduceAdd, Nat.reduceMul, Nat.reduceEqDiff, reduceIte, Nat.reduceBEq, Nat.reduceLeDiff, Nat.reduceSub, Int.reduceToNat, c1, c2, c3]
          have h := run_some h
          obtain rfl : _ = r := h
          refine FinH.l ?_
          simp -dsimp -implicitDefEqProofs -failIfUnchanged only [↓RA, RB, RS, fx190, Nat.reduceLT, Nat.reduceAdd, Nat.reduceMul, Nat.reduceEqDiff, reduceIte, Nat.reduceBEq, Nat.reduceLeDiff, Nat.reduceSub, Int.reduceToNat]
      · replace h := run_f c2 h
        simp -dsimp -implicitDefEqProofs -failIfUnchanged only [↓RA, RB, RS, fx190, Nat.reduceLT, Nat.reduceAdd, Nat.reduceMul, Nat.reduceEqDiff, reduceIte, Nat.reduceBEq, Nat.reduceLeDiff, Nat.reduceSub, Int.reduceToNat, c1, c2]
        have h := run_some h
        obtain rfl : _ = r := h
        refine FinH.l ?_
        simp -dsimp -implicitDefEqProofs -failIfUnchanged only [↓RA, RB, RS, fx190, Nat.reduceLT, Nat.reduceAdd, Nat.reduceMul, Nat.reduceEqDiff, reduceIte, Nat.reduceBEq, Nat.reduceLeDiff, Nat.reduceSub, Int.reduceToNat]
    · replace h := run_f c1 h
      simp -dsimp -implicitDefEqProofs -failIfUnchanged only [↓RA, RB, RS, fx190, Nat.reduceLT, Nat.reduceAdd, Nat.reduceMul, Nat.reduceEqDiff, reduceIte, Nat.reduceBEq, Nat.reduceLeDiff, Nat.reduceSub, Int.reduceToNat, c1]
      refine CondH.mk (fun c4 => ?_) (fun c4 => ?_)
      · replace h := run_t c4 h
        simp -dsimp -implicitDefEqProofs -failIfUnchanged only [↓RA, RB, RS, fx190, Nat.reduceLT, Nat.reduceAdd, Nat.reduceMul, Nat.reduceEqDiff, reduceIte, Nat.reduceBEq, Nat.reduceLeDiff, Nat.reduceSub, Int.reduceToNat, c1, c4]
        have h := run_some h
        obtain rfl : _ = r := h
        refine FinH.l ?_
        simp -dsimp -implicitDefEqProofs -failIfUnchanged only [↓RA, RB, RS, fx190, Nat.reduceLT, Nat.reduceAdd, Nat.reduceMul, Nat.reduceEqDiff, reduceIte, Nat.reduceBEq, Nat.reduceLeDiff, Nat.reduceSub, Int.reduceToNat]
      · replace h := run_f c4 h
        simp -dsimp -implicitDefEqProofs -failIfUnchanged only [↓RA, RB, RS, fx190, Nat.reduceLT, Nat.reduceAdd, Nat.reduceMul, Nat.reduceEqDiff, reduceIte, Nat.reduceBEq, Nat.reduceLeDiff, Nat.reduceSub, Int.reduceToNat, c1, c4]
        obtain ⟨v28, hv28, h⟩ := run_bind h
        refine CallH.mk [false, false] (cmp_Compare_string_sat hv28) ?_ ?_ <;> simp -dsimp -implicitDefEqProofs -failIfUnchanged only [↓RA, RB, RS, fx190, Nat.reduceLT, Nat.reduceAdd, Nat.reduceMul, Nat.reduceEqDiff, reduceIte, Nat.reduceBEq, Nat.reduceLeDiff, Nat.reduceSub, Int.reduceToNat, c1, c4]
        obtain ⟨v35, hv35, h⟩ := run_bind h
        refine CallH.mk [false, false] (cmp_Compare_int_sat hv35) ?_ ?_ <;> simp -dsimp -implicitDefEqProofs -failIfUnchanged only [↓RA, RB, RS, fx190, Nat.reduceLT, Nat.reduceAdd, Nat.reduceMul, Nat.reduceEqDiff, reduceIte, Nat.reduceBEq, Nat.reduceLeDiff, Nat.reduceSub, Int.reduceToNat, c1, c4]
        repeat (first | with_reducible refine noR_and (by repeat (first | exact noR_empty _ _ | exact noR_nilS _ _ | refine noR_mk _ _ _ _ _ rfl ?_ | refine noR_mkS _ _ _ _ _ rfl ?_)) ?_ | with_reducible refine noC_and (by repeat (first | exact noC_empty _ _ (by simp -dsimp -implicitDefEqProofs -failIfUnchanged only [↓RA, RB, RS, fx190, Nat.reduceLT, Nat.reduceAdd, Nat.reduceMul, Nat.reduceEqDiff, reduceIte, Nat.reduceBEq, Nat.reduceLeDiff, Nat.reduceSub, Int.reduceToNat]) | exact noC_nilS _ _ (by simp -dsimp -implicitDefEqProofs -failIfUnchanged only [↓RA, RB, RS, fx190, Nat.reduceLT, Nat.reduceAdd, Nat.reduceMul, Nat.reduceEqDiff, reduceIte, Nat.reduceBEq, Nat.reduceLeDiff, Nat.reduceSub, Int.reduceToNat]) | refine noC_mk _ _ _ _ _ rfl ?_ | refine noC_mkS _ _ _ _ _ rfl ?_)) ?_ | with_reducible refine and_ac ?_ | with_reducible refine And.intro (a := _ = List.range _) (by rfl) ?_)
        obtain ⟨v37, hv37, h⟩ := run_bind h
        refine CallH.mk [false] (cmp_Or_int_sat hv37) ?_ ?_ <;> simp -dsimp -implicitDefEqProofs -failIfUnchanged only [↓RA, RB, RS, fx190, Nat.reduceLT, Nat.reduceAdd, Nat.reduceMul, Nat.reduceEqDiff, reduceIte, Nat.reduceBEq, Nat.reduceLeDiff, Nat.reduceSub, Int.reduceToNat, c1, c4]
        refine And.intro (DrawH.mk [] [576] (by rfl) (by first | rfl | (simp -dsimp -implicitDefEqProofs -failIfUnchanged only [↓RA, RB, RS, fx190, Nat.reduceLT, Nat.reduceAdd, Nat.reduceMul, Nat.reduceEqDiff, reduceIte, Nat.reduceBEq, Nat.reduceLeDiff, Nat.reduceSub, Int.reduceToNat] <;> rfl)) (by first | rfl | (simp -dsimp -implicitDefEqProofs -failIfUnchanged only [↓RA, RB, RS, fx190, Nat.reduceLT, Nat.reduceAdd, Nat.reduceMul, Nat.reduceEqDiff, reduceIte, Nat.reduceBEq, Nat.reduceLeDiff, Nat.reduceSub, Int.reduceToNat] <;> rfl)) (by first | rfl | (simp -dsimp -implicitDefEqProofs -failIfUnchanged only [↓RA, RB, RS, fx190, Nat.reduceLT, Nat.reduceAdd, Nat.reduceMul, Nat.reduceEqDiff, reduceIte, Nat.reduceBEq, Nat.reduceLeDiff, Nat.reduceSub, Int.reduceToNat] <;> rfl)) (by simp) (by simp -dsimp -implicitDefEqProofs -failIfUnchanged only [↓RA, RB, RS, fx190, Nat.reduceLT, Nat.reduceAdd, Nat.reduceMul, Nat.reduceEqDiff, reduceIte, Nat.reduceBEq, Nat.reduceLeDiff, Nat.reduceSub, Int.reduceToNat]; repeat (first | exact noC_empty _ _ (by simp -dsimp -implicitDefEqProofs -failIfUnchanged only [↓RA, RB, RS, fx190, Nat.reduceLT, Nat.reduceAdd, Nat.reduceMul, Nat.reduceEqDiff, reduceIte, Nat.reduceBEq, Nat.reduceLeDiff, Nat.reduceSub, Int.reduceToNat]) | exact noC_nilS _ _ (by simp -dsimp -implicitDefEqProofs -failIfUnchanged only [↓RA, RB, RS, fx190, Nat.reduceLT, Nat.reduceAdd, Nat.reduceMul, Nat.reduceEqDiff, reduceIte, Nat.reduceBEq, Nat.reduceLeDiff, Nat.reduceSub, Int.reduceToNat]) | refine noC_mk _ _ _ _ _ rfl ?_ | refine noC_mkS _ _ _ _ _ rfl ?_ | refine And.intro ?_ ?_))) ?_
        simp -dsimp -implicitDefEqProofs -failIfUnchanged only [↓RA, RB, RS, fx190, Nat.reduceLT, Nat.reduceAdd, Nat.reduceMul, Nat.reduceEqDiff, reduceIte, Nat.reduceBEq, Nat.reduceLeDiff, Nat.reduceSub, Int.reduceToNat, c1, c4]
        refine CondH.mk (fun c5 => ?_) (fun c5 => ?_)
        · replace h := run_t c5 h
          simp -dsimp -implicitDefEqProofs -failIfUnchanged only [↓RA, RB, RS, fx190, Nat.reduceLT, Nat.reduceAdd, Nat.reduceMul, Nat.reduceEqDiff, reduceIte, Nat.reduceBEq, Nat.reduceLeDiff, Nat.reduceSub, Int.reduceToNat, c1, c4, c5]
          obtain ⟨v45, hv45, h⟩ := run_bind h
          refine CallH.mk [false, false, false] (slices_CompareFunc_Simpl_Term_Simpl_Term_impl_Term_impl_Term_sat (fun _ _ _ hh => ih _ _ _ hh) (by simp only [CapsOk_nil, CapsOk_cons]) hv45) ?_ ?_ <;> simp -dsimp -implicitDefEqProofs -failIfUnchanged only [↓RA, RB, RS, fx190, Nat.reduceLT, Nat.reduceAdd, Nat.reduceMul, Nat.reduceEqDiff, reduceIte, Nat.reduceBEq, Nat.reduceLeDiff, Nat.reduceSub, Int.reduceToNat, c1, c4, c5]
          have h := run_some h
          obtain rfl : _ = r := h
          refine FinH.l ?_
          simp -dsimp -implicitDefEqProofs -failIfUnchanged only [↓RA, RB, RS, fx190, Nat.reduceLT, Nat.reduceAdd, Nat.reduceMul, Nat.reduceEqDiff, reduceIte, Nat.reduceBEq, Nat.reduceLeDiff, Nat.reduceSub, Int.reduceToNat]
        · replace h := run_f c5 h
          simp -dsimp -implicitDefEqProofs -failIfUnchanged only [↓RA, RB, RS, fx190, Nat.reduceLT, Nat.reduceAdd, Nat.reduceMul, Nat.reduceEqDiff, reduceIte, Nat.reduceBEq, Nat.reduceLeDiff, Nat.reduceSub, Int.reduceToNat, c1, c4, c5]
          have h := run_some h
          obtain rfl : _ = r := h
          refine FinH.l ?_
          simp -dsimp -implicitDefEqProofs -failIfUnchanged only [↓RA, RB, RS, fx190, Nat.reduceLT, Nat.reduceAdd, Nat.reduceMul, Nat.reduceEqDiff, reduceIte, Nat.reduceBEq, Nat.reduceLeDiff, Nat.reduceSub, Int.reduceToNat]
theorem impl_compareTerms_sat {a0 : Term} {a1 : Term} {r : Int} (h : impl_compareTerms a0 a1 = some r) : Sat Try.prog 190 [((Term.pv false) a0), ((Term.pv false) a1)] (I r) := by
  obtain ⟨n, hn⟩ := lim_some h
  exact (impl_compareTermsN_sat n) _ _ _ hn

def fx94 := And.intro @ty_3 <| And.intro @zc_3 <| And.intro @z_3 <| And.intro @ty_27 <| And.intro @zc_27 <| And.intro @z_27 <| And.intro @es_27 <| And.intro @eb_27 <| And.intro @sl_27 <| And.intro @is_27 <| And.intro @el_27 <| And.intro @ze_27 <| And.intro @ez_27 <| And.intro @ty_35 <| And.intro @zc_35 <| And.intro @z_35 <| And.intro @fo_35_0 <| And.intro @fi_35_0 <| And.intro @ft_35_0 <| And.intro @fo_35_1 <| And.intro @fi_35_1 <| And.intro @ft_35_1 <| And.intro @lay_35 <| @mixedT
set_option maxHeartbeats 4000000 in
theorem impl_areAscending_sat {a0 : List Term}  {r : Bool} (h : impl_areAscending a0 = some r) : Sat Try.prog 94 [(.sl false 2 (a0.map (Term.pv false)))] (B r) := by
  replace h := Run.of h
  unfold impl_areAscending at h
  refine Sat.of_m (nt := 28) (rs := [.tmp 2]) (n := 100000) Try.func94 rfl rfl rfl rfl (by simp) ?_
  simp -dsimp -implicitDefEqProofs -failIfUnchanged only [↓RA, RB, RS, fx94, Nat.reduceLT, Nat.reduceAdd, Nat.reduceMul, Nat.reduceEqDiff, reduceIte, Nat.reduceBEq, Nat.reduceLeDiff, Nat.reduceSub, Int.reduceToNat]
  refine Mg.know_sl (b := false) (sz := 2) (es := a0.map (Term.pv false)) 0 (by simp -dsimp -implicitDefEqProofs -failIfUnchanged only [↓RA, RB, RS, fx94, Nat.reduceLT, Nat.reduceAdd, Nat.reduceMul, Nat.reduceEqDiff, reduceIte, Nat.reduceBEq, Nat.reduceLeDiff, Nat.reduceSub, Int.reduceToNat]) fun hl0 => ?_; rw [List.length_map] at hl0
  replace h := run_loop h
  refine Mg.forN h (fun i2 s2 => [(0, .val (.pv (.sl false 2 (a0.map (Term.pv false))))), (5, .val (.pv (I (a0.length : Int)))), (6, .val (.pv (I (i2 : Int))))]) (fun i2 s2 => []) (St.le_mk2 (by simp -dsimp -implicitDefEqProofs -failIfUnchanged only [↓RA, RB, RS, fx94, Nat.reduceLT, Nat.reduceAdd, Nat.reduceMul, Nat.reduceEqDiff, reduceIte, Nat.reduceBEq, Nat.reduceLeDiff, Nat.reduceSub, Int.reduceToNat])) (fun i2 s2 hi h => ?_) (fun s2 h => ?_)
  · have w2 := wrap_succ (i := i2) (by omega)
    simp -dsimp -implicitDefEqProofs -failIfUnchanged only [↓RA, RB, RS, fx94, Nat.reduceLT, Nat.reduceAdd, Nat.reduceMul, Nat.reduceEqDiff, reduceIte, Nat.reduceBEq, Nat.reduceLeDiff, Nat.reduceSub, Int.reduceToNat]
    refine CondH.tt (decide_eq_true (by omega)) (fun c1 => ?_)
    simp -dsimp -implicitDefEqProofs -failIfUnchanged only [↓RA, RB, RS, fx94, Nat.reduceLT, Nat.reduceAdd, Nat.reduceMul, Nat.reduceEqDiff, reduceIte, Nat.reduceBEq, Nat.reduceLeDiff, Nat.reduceSub, Int.reduceToNat, c1]
    refine CondH.mk (fun c2 => ?_) (fun c2 => ?_)
    · replace h := run_t c2 h
      simp -dsimp -implicitDefEqProofs -failIfUnchanged only [↓RA, RB, RS, fx94, Nat.reduceLT, Nat.reduceAdd, Nat.reduceMul, Nat.reduceEqDiff, reduceIte, Nat.reduceBEq, Nat.reduceLeDiff, Nat.reduceSub, Int.reduceToNat, c1, c2]
      obtain ⟨v15, hv15, h⟩ := run_bind h
      refine IdxH.mk (f := (Term.pv false)) hv15 ?_ ?_ <;> simp -dsimp -implicitDefEqProofs -failIfUnchanged only [↓RA, RB, RS, fx94, Nat.reduceLT, Nat.reduceAdd, Nat.reduceMul, Nat.reduceEqDiff, reduceIte, Nat.reduceBEq, Nat.reduceLeDiff, Nat.reduceSub, Int.reduceToNat, c1, c2]
      obtain ⟨v19, hv19, h⟩ := run_bind h
      refine IdxH.mk (f := (Term.pv false)) hv19 ?_ ?_ <;> simp -dsimp -implicitDefEqProofs -failIfUnchanged only [↓RA, RB, RS, fx94, Nat.reduceLT, Nat.reduceAdd, Nat.reduceMul, Nat.reduceEqDiff, reduceIte, Nat.reduceBEq, Nat.reduceLeDiff, Nat.reduceSub, Int.reduceToNat, c1, c2]
      obtain ⟨v21, hv21, h⟩ := run_bind h
      refine CallH.mk [false, false] (impl_compareTerms_sat hv21) ?_ ?_ <;> simp -dsimp -implicitDefEqProofs -failIfUnchanged only [↓RA, RB, RS, fx94, Nat.reduceLT, Nat.reduceAdd, Nat.reduceMul, Nat.reduceEqDiff, reduceIte, Nat.reduceBEq, Nat.reduceLeDiff, Nat.reduceSub, Int.reduceToNat, c1, c2]
      refine And.intro (DrawH.none (by rfl) (by first | rfl | (simp -dsimp -implicitDefEqProofs -failIfUnchanged only [↓RA, RB, RS, fx94, Nat.reduceLT, Nat.reduceAdd, Nat.reduceMul, Nat.reduceEqDiff, reduceIte, Nat.reduceBEq, Nat.reduceLeDiff, Nat.reduceSub, Int.reduceToNat] <;> rfl)) (by first | rfl | (simp -dsimp -implicitDefEqProofs -failIfUnchanged only [↓RA, RB, RS, fx94, Nat.reduceLT, Nat.reduceAdd, Nat.reduceMul, Nat.reduceEqDiff, reduceIte, Nat.reduceBEq, Nat.reduceLeDiff, Nat.reduceSub, Int.reduceToNat] <;> rfl)) (by first | rfl | (simp -dsimp -implicitDefEqProofs -failIfUnchanged only [↓RA, RB, RS, fx94, Nat.reduceLT, Nat.reduceAdd, Nat.reduceMul, Nat.reduceEqDiff, reduceIte, Nat.reduceBEq, Nat.reduceLeDiff, Nat.reduceSub, Int.reduceToNat] <;> rfl))) ?_
      simp -dsimp -implicitDefEqProofs -failIfUnchanged only [↓RA, RB, RS, fx94, Nat.reduceLT, Nat.reduceAdd, Nat.reduceMul, Nat.reduceEqDiff, reduceIte, Nat.reduceBEq, Nat.reduceLeDiff, Nat.reduceSub, Int.reduceToNat, c1, c2]
      refine CondH.mk (fun c3 => ?_) (fun c3 => ?_)
      · replace h := run_t c3 h
        simp -dsimp -implicitDefEqProofs -failIfUnchanged only [↓RA, RB, RS, fx94, Nat.reduceLT, Nat.reduceAdd, Nat.reduceMul, Nat.reduceEqDiff, reduceIte, Nat.reduceBEq, Nat.reduceLeDiff, Nat.reduceSub, Int.reduceToNat, c1, c2, c3]
        have h := run_some h
        obtain rfl : _ = r := h
        refine FinH.l ?_
        simp -dsimp -implicitDefEqProofs -failIfUnchanged only [↓RA, RB, RS, fx94, Nat.reduceLT, Nat.reduceAdd, Nat.reduceMul, Nat.reduceEqDiff, reduceIte, Nat.reduceBEq, Nat.reduceLeDiff, Nat.reduceSub, Int.reduceToNat]
      · replace h := run_f c3 h
        simp -dsimp -implicitDefEqProofs -failIfUnchanged only [↓RA, RB, RS, fx94, Nat.reduceLT, Nat.reduceAdd, Nat.reduceMul, Nat.reduceEqDiff, reduceIte, Nat.reduceBEq, Nat.reduceLeDiff, Nat.reduceSub, Int.reduceToNat, c1, c2, c3]
        have h := run_some h
        refine RdH.mk ⟨_, h, ?_⟩
        refine St.le_mk2 ?_
        simp -dsimp -implicitDefEqProofs -failIfUnchanged only [↓RA, RB, RS, fx94, Nat.reduceLT, Nat.reduceAdd, Nat.reduceMul, Nat.reduceEqDiff, reduceIte, Nat.reduceBEq, Nat.reduceLeDiff, Nat.reduceSub, Int.reduceToNat, c1, c2, c3, w2]
    · replace h := run_f c2 h
      simp -dsimp -implicitDefEqProofs -failIfUnchanged only [↓RA, RB, RS, fx94, Nat.reduceLT, Nat.reduceAdd, Nat.reduceMul, Nat.reduceEqDiff, reduceIte, Nat.reduceBEq, Nat.reduceLeDiff, Nat.reduceSub, Int.reduceToNat, c1, c2]
      refine And.intro (DrawH.none (by rfl) (by first | rfl | (simp -dsimp -implicitDefEqProofs -failIfUnchanged only [↓RA, RB, RS, fx94, Nat.reduceLT, Nat.reduceAdd, Nat.reduceMul, Nat.reduceEqDiff, reduceIte, Nat.reduceBEq, Nat.reduceLeDiff, Nat.reduceSub, Int.reduceToNat] <;> rfl)) (by first | rfl | (simp -dsimp -implicitDefEqProofs -failIfUnchanged only [↓RA, RB, RS, fx94, Nat.reduceLT, Nat.reduceAdd, Nat.reduceMul, Nat.reduceEqDiff, reduceIte, Nat.reduceBEq, Nat.reduceLeDiff, Nat.reduceSub, Int.reduceToNat] <;> rfl)) (by first | rfl | (simp -dsimp -implicitDefEqProofs -failIfUnchanged only [↓RA, RB, RS, fx94, Nat.reduceLT, Nat.reduceAdd, Nat.reduceMul, Nat.reduceEqDiff, reduceIte, Nat.reduceBEq, Nat.reduceLeDiff, Nat.reduceSub, Int.reduceToNat] <;> rfl))) ?_
      simp -dsimp -implicitDefEqProofs -failIfUnchanged only [↓RA, RB, RS, fx94, Nat.reduceLT, Nat.reduceAdd, Nat.reduceMul, Nat.reduceEqDiff, reduceIte, Nat.reduceBEq, Nat.reduceLeDiff, Nat.reduceSub, Int.reduceToNat, c1, c2]
      have h := run_some h
      refine RdH.mk ⟨_, h, ?_⟩
      refine St.le_mk2 ?_
      simp -dsimp -implicitDefEqProofs -failIfUnchanged only [↓RA, RB, RS, fx94, Nat.reduceLT, Nat.reduceAdd, Nat.reduceMul, Nat.reduceEqDiff, reduceIte, Nat.reduceBEq, Nat.reduceLeDiff, Nat.reduceSub, Int.reduceToNat, c1, c2, w2]
  · simp -dsimp -implicitDefEqProofs -failIfUnchanged only [↓RA, RB, RS, fx94, Nat.reduceLT, Nat.reduceAdd, Nat.reduceMul, Nat.reduceEqDiff, reduceIte, Nat.reduceBEq, Nat.reduceLeDiff, Nat.reduceSub, Int.reduceToNat]
    refine CondH.ff (decide_eq_false (by omega)) (fun c4 => ?_)
    simp -dsimp -implicitDefEqProofs -failIfUnchanged only [↓RA, RB, RS, fx94, Nat.reduceLT, Nat.reduceAdd, Nat.reduceMul, Nat.reduceEqDiff, reduceIte, Nat.reduceBEq, Nat.reduceLeDiff, Nat.reduceSub, Int.reduceToNat, c4]
    have h := run_some h
    obtain rfl : _ = r := h
    refine FinH.l ?_
    simp -dsimp -implicitDefEqProofs -failIfUnchanged only [↓RA, RB, RS, fx94, Nat.reduceLT, Nat.reduceAdd, Nat.reduceMul, Nat.reduceEqDiff, reduceIte, Nat.reduceBEq, Nat.reduceLeDiff, Nat.reduceSub, Int.reduceToNat]

def fx18 := And.intro @ty_3 <| And.intro @zc_3 <| And.intro @z_3 <| And.intro @ty_4 <| And.intro @zc_4 <| And.intro @z_4 <| And.intro @u_4 <| And.intro @ty_27 <| And.intro @zc_27 <| And.intro @z_27 <| And.intro @es_27 <| And.intro @eb_27 <| And.intro @sl_27 <| And.intro @is_27 <| And.intro @el_27 <| And.intro @ze_27 <| And.intro @ez_27 <| And.intro @ty_29 <| And.intro @zc_29 <| And.intro @z_29 <| And.intro @fo_29_0 <| And.intro @fi_29_0 <| And.intro @ft_29_0 <| And.intro @fo_29_1 <| And.intro @fi_29_1 <| And.intro @ft_29_1 <| And.intro @lay_29 <| And.intro @ty_132 <| And.intro @zc_132 <| @z_132
set_option maxHeartbeats 4000000 in
theorem impl_IsValidDecomposition_sat {a0 : Decomposition}  {r : Bool} (h : impl_IsValidDecomposition a0 = some r) : Sat Try.prog 18 [((Decomposition.pv false) a0)] (B r) := by
  replace h := Run.of h
  unfold impl_IsValidDecomposition at h
  refine Sat.of_m (nt := 31) (rs := [.tmp 2]) (n := 100000) Try.func18 rfl rfl rfl rfl (by simp) ?_
  simp -dsimp -implicitDefEqProofs -failIfUnchanged only [↓RA, RB, RS, fx18, Nat.reduceLT, Nat.reduceAdd, Nat.reduceMul, Nat.reduceEqDiff, reduceIte, Nat.reduceBEq, Nat.reduceLeDiff, Nat.reduceSub, Int.reduceToNat]
  repeat (first | with_reducible refine noR_and (by repeat (first | exact noR_empty _ _ | exact noR_nilS _ _ | refine noR_mk _ _ _ _ _ rfl ?_ | refine noR_mkS _ _ _ _ _ rfl ?_)) ?_ | with_reducible refine noC_and (by repeat (first | exact noC_empty _ _ (by simp -dsimp -implicitDefEqProofs -failIfUnchanged only [↓RA, RB, RS, fx18, Nat.reduceLT, Nat.reduceAdd, Nat.reduceMul, Nat.reduceEqDiff, reduceIte, Nat.reduceBEq, Nat.reduceLeDiff, Nat.reduceSub, Int.reduceToNat]) | exact noC_nilS _ _ (by simp -dsimp -implicitDefEqProofs -failIfUnchanged only [↓RA, RB, RS, fx18, Nat.reduceLT, Nat.reduceAdd, Nat.reduceMul, Nat.reduceEqDiff, reduceIte, Nat.reduceBEq, Nat.reduceLeDiff, Nat.reduceSub, Int.reduceToNat]) | refine noC_mk _ _ _ _ _ rfl ?_ | refine noC_mkS _ _ _ _ _ rfl ?_)) ?_ | with_reducible refine and_ac ?_ | with_reducible refine And.intro (a := _ = List.range _) (by rfl) ?_)
  obtain ⟨v5, hv5, h⟩ := run_bind h
  refine CallH.mk [false, false] (slices_ContainsFunc_Simpl_Term_impl_Term_sat (fun _ _ hh => impl_notGround_sat hh) (by simp only [CapsOk_nil, CapsOk_cons]) hv5) ?_ ?_ <;> simp -dsimp -implicitDefEqProofs -failIfUnchanged only [↓RA, RB, RS, fx18, Nat.reduceLT, Nat.reduceAdd, Nat.reduceMul, Nat.reduceEqDiff, reduceIte, Nat.reduceBEq, Nat.reduceLeDiff, Nat.reduceSub, Int.reduceToNat]
  refine CondH.mk (fun c1 => ?_) (fun c1 => ?_)
  · replace h := run_t c1 h
    simp -dsimp -implicitDefEqProofs -failIfUnchanged only [↓RA, RB, RS, fx18, Nat.reduceLT, Nat.reduceAdd, Nat.reduceMul, Nat.reduceEqDiff, reduceIte, Nat.reduceBEq, Nat.reduceLeDiff, Nat.reduceSub, Int.reduceToNat, c1]
    have h := run_some h
    obtain rfl : _ = r := h
    refine FinH.l ?_
    simp -dsimp -implicitDefEqProofs -failIfUnchanged only [↓RA, RB, RS, fx18, Nat.reduceLT, Nat.reduceAdd, Nat.reduceMul, Nat.reduceEqDiff, reduceIte, Nat.reduceBEq, Nat.reduceLeDiff, Nat.reduceSub, Int.reduceToNat]
  · replace h := run_f c1 h
    simp -dsimp -implicitDefEqProofs -failIfUnchanged only [↓RA, RB, RS, fx18, Nat.reduceLT, Nat.reduceAdd, Nat.reduceMul, Nat.reduceEqDiff, reduceIte, Nat.reduceBEq, Nat.reduceLeDiff, Nat.reduceSub, Int.reduceToNat, c1]
    obtain ⟨v9, hv9, h⟩ := run_bind h
    refine CallH.mk [false, false] (slices_ContainsFunc_Simpl_Term_impl_Term_sat (fun _ _ hh => impl_IsValidDecomposition_1_sat hh) (by simp only [CapsOk_nil, CapsOk_cons]) hv9) ?_ ?_ <;> simp -dsimp -implicitDefEqProofs -failIfUnchanged only [↓RA, RB, RS, fx18, Nat.reduceLT, Nat.reduceAdd, Nat.reduceMul, Nat.reduceEqDiff, reduceIte, Nat.reduceBEq, Nat.reduceLeDiff, Nat.reduceSub, Int.reduceToNat, c1]
    refine CondH.mk (fun c2 => ?_) (fun c2 => ?_)
    · replace h := run_t c2 h
      simp -dsimp -implicitDefEqProofs -failIfUnchanged only [↓RA, RB, RS, fx18, Nat.reduceLT, Nat.reduceAdd, Nat.reduceMul, Nat.reduceEqDiff, reduceIte, Nat.reduceBEq, Nat.reduceLeDiff, Nat.reduceSub, Int.reduceToNat, c1, c2]
      have h := run_some h
      obtain rfl : _ = r := h
      refine FinH.l ?_
      simp -dsimp -implicitDefEqProofs -failIfUnchanged only [↓RA, RB, RS, fx18, Nat.reduceLT, Nat.reduceAdd, Nat.reduceMul, Nat.reduceEqDiff, reduceIte, Nat.reduceBEq, Nat.reduceLeDiff, Nat.reduceSub, Int.reduceToNat]
    · replace h := run_f c2 h
      simp -dsimp -implicitDefEqProofs -failIfUnchanged only [↓RA, RB, RS, fx18, Nat.reduceLT, Nat.reduceAdd, Nat.reduceMul, Nat.reduceEqDiff, reduceIte, Nat.reduceBEq, Nat.reduceLeDiff, Nat.reduceSub, Int.reduceToNat, c1, c2]
      obtain ⟨v13, hv13, h⟩ := run_bind h
      refine CallH.mk [false] (impl_areAscending_sat hv13) ?_ ?_ <;> simp -dsimp -implicitDefEqProofs -failIfUnchanged only [↓RA, RB, RS, fx18, Nat.reduceLT, Nat.reduceAdd, Nat.reduceMul, Nat.reduceEqDiff, reduceIte, Nat.reduceBEq, Nat.reduceLeDiff, Nat.reduceSub, Int.reduceToNat, c1, c2]
      refine CondH.mk (fun c3 => ?_) (fun c3 => ?_)
      · replace h := run_t c3 h
        simp -dsimp -implicitDefEqProofs -failIfUnchanged only [↓RA, RB, RS, fx18, Nat.reduceLT, Nat.reduceAdd, Nat.reduceMul, Nat.reduceEqDiff, reduceIte, Nat.reduceBEq, Nat.reduceLeDiff, Nat.reduceSub, Int.reduceToNat, c1, c2, c3]
        obtain ⟨v17, hv17, h⟩ := run_bind h
        refine CallH.mk [false] (impl_areAscending_sat hv17) ?_ ?_ <;> simp -dsimp -implicitDefEqProofs -failIfUnchanged only [↓RA, RB, RS, fx18, Nat.reduceLT, Nat.reduceAdd, Nat.reduceMul, Nat.reduceEqDiff, reduceIte, Nat.reduceBEq, Nat.reduceLeDiff, Nat.reduceSub, Int.reduceToNat, c1, c2, c3]
        refine CondH.mk (fun c4 => ?_) (fun c4 => ?_)
        · replace h := run_t c4 h
          simp -dsimp -implicitDefEqProofs -failIfUnchanged only [↓RA, RB, RS, fx18, Nat.reduceLT, Nat.reduceAdd, Nat.reduceMul, Nat.reduceEqDiff, reduceIte, Nat.reduceBEq, Nat.reduceLeDiff, Nat.reduceSub, Int.reduceToNat, c1, c2, c3, c4]
          refine CondH.mk (fun c5 => ?_) (fun c5 => ?_)
          · replace h := run_t c5 h
            simp -dsimp -implicitDefEqProofs -failIfUnchanged only [↓RA, RB, RS, fx18, Nat.reduceLT, Nat.reduceAdd, Nat.reduceMul, Nat.reduceEqDiff, reduceIte, Nat.reduceBEq, Nat.reduceLeDiff, Nat.reduceSub, Int.reduceToNat, c1, c2, c3, c4, c5]
            have h := run_some h
            obtain rfl : _ = r := h
            refine FinH.l ?_
            simp -dsimp -implicitDefEqProofs -failIfUnchanged only [↓RA, RB, RS, fx18, Nat.reduceLT, Nat.reduceAdd, Nat.reduceMul, Nat.reduceEqDiff, reduceIte, Nat.reduceBEq, Nat.reduceLeDiff, Nat.reduceSub, Int.reduceToNat]
          · replace h := run_f c5 h
            simp -dsimp -implicitDefEqProofs -failIfUnchanged only [↓RA, RB, RS, fx18, Nat.reduceLT, Nat.reduceAdd, Nat.reduceMul, Nat.reduceEqDiff, reduceIte, Nat.reduceBEq, Nat.reduceLeDiff, Nat.reduceSub, Int.reduceToNat, c1, c2, c3, c4, c5]
            obtain ⟨v27, hv27, h⟩ := run_bind h
            refine CallH.mk [false, false] (slices_ContainsFunc_Simpl_Term_impl_Term_sat (fun _ _ hh => impl_notGround_sat hh) (by simp only [CapsOk_nil, CapsOk_cons]) hv27) ?_ ?_ <;> simp -dsimp -implicitDefEqProofs -failIfUnchanged only [↓RA, RB, RS, fx18, Nat.reduceLT, Nat.reduceAdd, Nat.reduceMul, Nat.reduceEqDiff, reduceIte, Nat.reduceBEq, Nat.reduceLeDiff, Nat.reduceSub, Int.reduceToNat, c1, c2, c3, c4, c5]
            have h := run_some h
            obtain rfl : _ = r := h
            refine FinH.l ?_
            simp -dsimp -implicitDefEqProofs -failIfUnchanged only [↓RA, RB, RS, fx18, Nat.reduceLT, Nat.reduceAdd, Nat.reduceMul, Nat.reduceEqDiff, reduceIte, Nat.reduceBEq, Nat.reduceLeDiff, Nat.reduceSub, Int.reduceToNat]
        · replace h := run_f c4 h
          simp -dsimp -implicitDefEqProofs -failIfUnchanged only [↓RA, RB, RS, fx18, Nat.reduceLT, Nat.reduceAdd, Nat.reduceMul, Nat.reduceEqDiff, reduceIte, Nat.reduceBEq, Nat.reduceLeDiff, Nat.reduceSub, Int.reduceToNat, c1, c2, c3, c4]
          have h := run_some h
          obtain rfl : _ = r := h
          refine FinH.l ?_
          simp -dsimp -implicitDefEqProofs -failIfUnchanged only [↓RA, RB, RS, fx18, Nat.reduceLT, Nat.reduceAdd, Nat.reduceMul, Nat.reduceEqDiff, reduceIte, Nat.reduceBEq, Nat.reduceLeDiff, Nat.reduceSub, Int.reduceToNat]
      · replace h := run_f c3 h
        simp -dsimp -implicitDefEqProofs -failIfUnchanged only [↓RA, RB, RS, fx18, Nat.reduceLT, Nat.reduceAdd, Nat.reduceMul, Nat.reduceEqDiff, reduceIte, Nat.reduceBEq, Nat.reduceLeDiff, Nat.reduceSub, Int.reduceToNat, c1, c2, c3]
        have h := run_some h
        obtain rfl : _ = r := h
        refine FinH.l ?_
        simp -dsimp -implicitDefEqProofs -failIfUnchanged only [↓RA, RB, RS, fx18, Nat.reduceLT, Nat.reduceAdd, Nat.reduceMul, Nat.reduceEqDiff, reduceIte, Nat.reduceBEq, Nat.reduceLeDiff, Nat.reduceSub, Int.reduceToNat]

def fx24 := And.intro @ty_4 <| And.intro @zc_4 <| And.intro @z_4 <| And.intro @u_4 <| And.intro @ty_9 <| And.intro @zc_9 <| And.intro @z_9 <| And.intro @u_9 <| And.intro @ty_27 <| And.intro @zc_27 <| And.intro @z_27 <| And.intro @es_27 <| And.intro @eb_27 <| And.intro @sl_27 <| And.intro @is_27 <| And.intro @el_27 <| And.intro @ze_27 <| And.intro @ez_27 <| And.intro @ty_35 <| And.intro @zc_35 <| And.intro @z_35 <| And.intro @fo_35_0 <| And.intro @fi_35_0 <| And.intro @ft_35_0 <| And.intro @fo_35_1 <| And.intro @fi_35_1 <| And.intro @ft_35_1 <| @lay_35
def fx25 := And.intro @ty_3 <| And.intro @zc_3 <| And.intro @z_3 <| And.intro @ty_4 <| And.intro @zc_4 <| And.intro @z_4 <| And.intro @u_4 <| And.intro @ty_27 <| And.intro @zc_27 <| And.intro @z_27 <| And.intro @es_27 <| And.intro @eb_27 <| And.intro @sl_27 <| And.intro @is_27 <| And.intro @el_27 <| And.intro @ze_27 <| And.intro @ez_27 <| And.intro @ty_35 <| And.intro @zc_35 <| And.intro @z_35 <| And.intro @fo_35_0 <| And.intro @fi_35_0 <| And.intro @ft_35_0 <| And.intro @fo_35_1 <| And.intro @fi_35_1 <| And.intro @ft_35_1 <| And.intro @lay_35 <| @mixedT
set_option maxHeartbeats 4000000 in
theorem eqTermN_sat (n : Nat) : (∀ (a0 : Term) (a1 : Term) (r : Bool), eqTermN n a0 a1 = some r → Sat Try.prog 24 [((Term.pv false) a0), ((Term.pv false) a1)] (B r)) ∧ (∀ (a0 : List Term) (a1 : List Term) (r : Bool), eqTermSN n a0 a1 = some r → Sat Try.prog 25 [(.sl false 2 (a0.map (Term.pv false))), (.sl false 2 (a1.map (Term.pv false)))] (B r)) := by
  induction n with
  | zero => exact ⟨fun _ _ _ h => by simp [eqTermN] at h, fun _ _ _ h => by simp [eqTermSN] at h⟩
  | succ n ih =>
    refine ⟨fun a0 a1 r h => ?_, fun a0 a1 r h => ?_⟩
    · replace h := Run.of h
      rw [eqTermN] at h
      refine Sat.of_m (nt := 16) (rs := [.tmp 4]) (n := 100000) Try.func24 rfl rfl rfl rfl (by simp) ?_
      simp -dsimp -implicitDefEqProofs -failIfUnchanged only [↓RA, RB, RS, fx24, Nat.reduceLT, Nat.reduceAdd, Nat.reduceMul, Nat.reduceEqDiff, reduceIte, Nat.reduceBEq, Nat.reduceLeDiff, Nat.reduceSub, Int.reduceToNat]
      repeat (first | with_reducible refine noR_and (by repeat (first | exact noR_empty _ _ | exact noR_nilS _ _ | refine noR_mk _ _ _ _ _ rfl ?_ | refine noR_mkS _ _ _ _ _ rfl ?_)) ?_ | with_reducible refine noC_and (by repeat (first | exact noC_empty _ _ (by simp -dsimp -implicitDefEqProofs -failIfUnchanged only [↓RA, RB, RS, fx24, Nat.reduceLT, Nat.reduceAdd, Nat.reduceMul, Nat.reduceEqDiff, reduceIte, Nat.reduceBEq, Nat.reduceLeDiff, Nat.reduceSub, Int.reduceToNat]) | exact noC_nilS _ _ (by simp -dsimp -implicitDefEqProofs -failIfUnchanged only [↓RA, RB, RS, fx24, Nat.reduceLT, Nat.reduceAdd, Nat.reduceMul, Nat.reduceEqDiff, reduceIte, Nat.reduceBEq, Nat.reduceLeDiff, Nat.reduceSub, Int.reduceToNat]) | refine noC_mk _ _ _ _ _ rfl ?_ | refine noC_mkS _ _ _ _ _ rfl ?_)) ?_ | with_reducible refine and_ac ?_ | with_reducible refine And.intro (a := _ = List.range _) (by rfl) ?_)
      refine CondH.mk (fun c1 => ?_) (fun c1 => ?_)
      · replace h := run_t c1 h
        simp -dsimp -implicitDefEqProofs -failIfUnchanged only [↓RA, RB, RS, fx24, Nat.reduceLT, Nat.reduceAdd, Nat.reduceMul, Nat.reduceEqDiff, reduceIte, Nat.reduceBEq, Nat.reduceLeDiff, Nat.reduceSub, Int.reduceToNat, c1]
        obtain ⟨v14, hv14, h⟩ := run_bind h
        refine CallH.mk [false, false] (ih.2 _ _ _ hv14) ?_ ?_ <;> simp -dsimp -implicitDefEqProofs -failIfUnchanged only [↓RA, RB, RS, fx24, Nat.reduceLT, Nat.reduceAdd, Nat.reduceMul, Nat.reduceEqDiff, reduceIte, Nat.reduceBEq, Nat.reduceLeDiff, Nat.reduceSub, Int.reduceToNat, c1]
        refine CondH.mk (fun c2 => ?_) (fun c2 => ?_)
        · replace h := run_t c2 h
          simp -dsimp -implicitDefEqProofs -failIfUnchanged only [↓RA, RB, RS, fx24, Nat.reduceLT, Nat.reduceAdd, Nat.reduceMul, Nat.reduceEqDiff, reduceIte, Nat.reduceBEq, Nat.reduceLeDiff, Nat.reduceSub, Int.reduceToNat, c1, c2]
          have h := run_some h
          obtain rfl : _ = r := h
          refine FinH.l ?_
          simp -dsimp -implicitDefEqProofs -failIfUnchanged only [↓RA, RB, RS, fx24, Nat.reduceLT, Nat.reduceAdd, Nat.reduceMul, Nat.reduceEqDiff, reduceIte, Nat.reduceBEq, Nat.reduceLeDiff, Nat.reduceSub, Int.reduceToNat]
        · replace h := run_f c2 h
          simp -dsimp -implicitDefEqProofs -failIfUnchanged only [↓RA, RB, RS, fx24, Nat.reduceLT, Nat.reduceAdd, Nat.reduceMul, Nat.reduceEqDiff, reduceIte, Nat.reduceBEq, Nat.reduceLeDiff, Nat.reduceSub, Int.reduceToNat, c1, c2]
          have h := run_some h
          obtain rfl : _ = r := h
          refine FinH.l ?_
          simp -dsimp -implicitDefEqProofs -failIfUnchanged only [↓RA, RB, RS, fx24, Nat.reduceLT, Nat.reduceAdd, Nat.reduceMul, Nat.reduceEqDiff, reduceIte, Nat.reduceBEq, Nat.reduceLeDiff, Nat.reduceSub, Int.reduceToNat]
      · replace h := run_f c1 h
        simp -dsimp -implicitDefEqProofs -failIfUnchanged only [↓RA, RB, RS, fx24, Nat.reduceLT, Nat.reduceAdd, Nat.reduceMul, Nat.reduceEqDiff, reduceIte, Nat.reduceBEq, Nat.reduceLeDiff, Nat.reduceSub, Int.reduceToNat, c1]
        have h := run_some h
        obtain rfl : _ = r := h
        refine FinH.l ?_
        simp -dsimp -implicitDefEqProofs -failIfUnchanged only [↓RA, RB, RS, fx24, Nat.reduceLT, Nat.reduceAdd, Nat.reduceMul, Nat.reduceEqDiff, reduceIte, Nat.reduceBEq, Nat.reduceLeDiff, Nat.reduceSub, Int.reduceToNat]
    · replace h := Run.of h
      rw [eqTermSN] at h
      refine Sat.of_m (nt := 27) (rs := [.tmp 4]) (n := 100000) Try.func25 rfl rfl rfl rfl (by simp) ?_
      simp -dsimp -implicitDefEqProofs -failIfUnchanged only [↓RA, RB, RS, fx25, Nat.reduceLT, Nat.reduceAdd, Nat.reduceMul, Nat.reduceEqDiff, reduceIte, Nat.reduceBEq, Nat.reduceLeDiff, Nat.reduceSub, Int.reduceToNat]
      refine CondH.mk (fun c1 => ?_) (fun c1 => ?_)
      · replace h := run_t c1 h
        simp -dsimp -implicitDefEqProofs -failIfUnchanged only [↓RA, RB, RS, fx25, Nat.reduceLT, Nat.reduceAdd, Nat.reduceMul, Nat.reduceEqDiff, reduceIte, Nat.reduceBEq, Nat.reduceLeDiff, Nat.reduceSub, Int.reduceToNat, c1]
        refine Mg.know_sl (b := false) (sz := 2) (es := a0.map (Term.pv false)) 0 (by simp -dsimp -implicitDefEqProofs -failIfUnchanged only [↓RA, RB, RS, fx25, Nat.reduceLT, Nat.reduceAdd, Nat.reduceMul, Nat.reduceEqDiff, reduceIte, Nat.reduceBEq, Nat.reduceLeDiff, Nat.reduceSub, Int.reduceToNat, c1]) fun hl0 => ?_; rw [List.length_map] at hl0
        replace h := run_loop h
        refine Mg.forN h (fun i4 s4 => [(0, .val (.pv (.sl false 2 (a0.map (Term.pv false))))), (1, .val (.pv (.sl false 2 (a1.map (Term.pv false))))), (5, .val (.pv (I (i4 : Int))))]) (fun i4 s4 => []) (St.le_mk2 (by simp -dsimp -implicitDefEqProofs -failIfUnchanged only [↓RA, RB, RS, fx25, Nat.reduceLT, Nat.reduceAdd, Nat.reduceMul, Nat.reduceEqDiff, reduceIte, Nat.reduceBEq, Nat.reduceLeDiff, Nat.reduceSub, Int.reduceToNat, c1])) (fun i4 s4 hi h => ?_) (fun s4 h => ?_)
        · have w4 := wrap_succ (i := i4) (by omega)
          simp -dsimp -implicitDefEqProofs -failIfUnchanged only [↓RA, RB, RS, fx25, Nat.reduceLT, Nat.reduceAdd, Nat.reduceMul, Nat.reduceEqDiff, reduceIte, Nat.reduceBEq, Nat.reduceLeDiff, Nat.reduceSub, Int.reduceToNat, c1]
          refine CondH.tt (decide_eq_true (by omega)) (fun c2 => ?_)
          simp -dsimp -implicitDefEqProofs -failIfUnchanged only [↓RA, RB, RS, fx25, Nat.reduceLT, Nat.reduceAdd, Nat.reduceMul, Nat.reduceEqDiff, reduceIte, Nat.reduceBEq, Nat.reduceLeDiff, Nat.reduceSub, Int.reduceToNat, c1, c2]
          obtain ⟨v19, hv19, h⟩ := run_bind h
          refine IdxH.mk (f := (Term.pv false)) hv19 ?_ ?_ <;> simp -dsimp -implicitDefEqProofs -failIfUnchanged only [↓RA, RB, RS, fx25, Nat.reduceLT, Nat.reduceAdd, Nat.reduceMul, Nat.reduceEqDiff, reduceIte, Nat.reduceBEq, Nat.reduceLeDiff, Nat.reduceSub, Int.reduceToNat, c1, c2]
          obtain ⟨v23, hv23, h⟩ := run_bind h
          refine IdxH.mk (f := (Term.pv false)) hv23 ?_ ?_ <;> simp -dsimp -implicitDefEqProofs -failIfUnchanged only [↓RA, RB, RS, fx25, Nat.reduceLT, Nat.reduceAdd, Nat.reduceMul, Nat.reduceEqDiff, reduceIte, Nat.reduceBEq, Nat.reduceLeDiff, Nat.reduceSub, Int.reduceToNat, c1, c2]
          obtain ⟨v25, hv25, h⟩ := run_bind h
          refine CallH.mk [false, false] (ih.1 _ _ _ hv25) ?_ ?_ <;> simp -dsimp -implicitDefEqProofs -failIfUnchanged only [↓RA, RB, RS, fx25, Nat.reduceLT, Nat.reduceAdd, Nat.reduceMul, Nat.reduceEqDiff, reduceIte, Nat.reduceBEq, Nat.reduceLeDiff, Nat.reduceSub, Int.reduceToNat, c1, c2]
          refine And.intro (DrawH.none (by rfl) (by first | rfl | (simp -dsimp -implicitDefEqProofs -failIfUnchanged only [↓RA, RB, RS, fx25, Nat.reduceLT, Nat.reduceAdd, Nat.reduceMul, Nat.reduceEqDiff, reduceIte, Nat.reduceBEq, Nat.reduceLeDiff, Nat.reduceSub, Int.reduceToNat] <;> rfl)) (by first | rfl | (simp -dsimp -implicitDefEqProofs -failIfUnchanged only [↓RA, RB, RS, fx25, Nat.reduceLT, Nat.reduceAdd, Nat.reduceMul, Nat.reduceEqDiff, reduceIte, Nat.reduceBEq, Nat.reduceLeDiff, Nat.reduceSub, Int.reduceToNat] <;> rfl)) (by first | rfl | (simp -dsimp -implicitDefEqProofs -failIfUnchanged only [↓RA, RB, RS, fx25, Nat.reduceLT, Nat.reduceAdd, Nat.reduceMul, Nat.reduceEqDiff, reduceIte, Nat.reduceBEq, Nat.reduceLeDiff, Nat.reduceSub, Int.reduceToNat] <;> rfl))) ?_
          simp -dsimp -implicitDefEqProofs -failIfUnchanged only [↓RA, RB, RS, fx25, Nat.reduceLT, Nat.reduceAdd, Nat.reduceMul, Nat.reduceEqDiff, reduceIte, Nat.reduceBEq, Nat.reduceLeDiff, Nat.reduceSub, Int.reduceToNat, c1, c2]
          refine CondH.mk (fun c3 => ?_) (fun c3 => ?_)
          · replace h := run_t c3 h
            simp -dsimp -implicitDefEqProofs -failIfUnchanged only [↓RA, RB, RS, fx25, Nat.reduceLT, Nat.reduceAdd, Nat.reduceMul, Nat.reduceEqDiff, reduceIte, Nat.reduceBEq, Nat.reduceLeDiff, Nat.reduceSub, Int.reduceToNat, c1, c2, c3]
            have h := run_some h
            refine RdH.mk ⟨_, h, ?_⟩
            refine St.le_mk2 ?_
            simp -dsimp -implicitDefEqProofs -failIfUnchanged only [↓RA, RB, RS, fx25, Nat.reduceLT, Nat.reduceAdd, Nat.reduceMul, Nat.reduceEqDiff, reduceIte, Nat.reduceBEq, Nat.reduceLeDiff, Nat.reduceSub, Int.reduceToNat, c1, c2, c3, w4]
          · replace h := run_f c3 h
            simp -dsimp -implicitDefEqProofs -failIfUnchanged only [↓RA, RB, RS, fx25, Nat.reduceLT, Nat.reduceAdd, Nat.reduceMul, Nat.reduceEqDiff, reduceIte, Nat.reduceBEq, Nat.reduceLeDiff, Nat.reduceSub, Int.reduceToNat, c1, c2, c3]
            have h := run_some h
            obtain rfl : _ = r := h
            refine FinH.l ?_
            simp -dsimp -implicitDefEqProofs -failIfUnchanged only [↓RA, RB, RS, fx25, Nat.reduceLT, Nat.reduceAdd, Nat.reduceMul, Nat.reduceEqDiff, reduceIte, Nat.reduceBEq, Nat.reduceLeDiff, Nat.reduceSub, Int.reduceToNat]
        · simp -dsimp -implicitDefEqProofs -failIfUnchanged only [↓RA, RB, RS, fx25, Nat.reduceLT, Nat.reduceAdd, Nat.reduceMul, Nat.reduceEqDiff, reduceIte, Nat.reduceBEq, Nat.reduceLeDiff, Nat.reduceSub, Int.reduceToNat, c1]
          refine CondH.ff (decide_eq_false (by omega)) (fun c4 => ?_)
          simp -dsimp -implicitDefEqProofs -failIfUnchanged only [↓RA, RB, RS, fx25, Nat.reduceLT, Nat.reduceAdd, Nat.reduceMul, Nat.reduceEqDiff, reduceIte, Nat.reduceBEq, Nat.reduceLeDiff, Nat.reduceSub, Int.reduceToNat, c1, c4]
          have h := run_some h
          obtain rfl : _ = r := h
          refine FinH.l ?_
          simp -dsimp -implicitDefEqProofs -failIfUnchanged only [↓RA, RB, RS, fx25, Nat.reduceLT, Nat.reduceAdd, Nat.reduceMul, Nat.reduceEqDiff, reduceIte, Nat.reduceBEq, Nat.reduceLeDiff, Nat.reduceSub, Int.reduceToNat]
      · replace h := run_f c1 h
        simp -dsimp -implicitDefEqProofs -failIfUnchanged only [↓RA, RB, RS, fx25, Nat.reduceLT, Nat.reduceAdd, Nat.reduceMul, Nat.reduceEqDiff, reduceIte, Nat.reduceBEq, Nat.reduceLeDiff, Nat.reduceSub, Int.reduceToNat, c1]
        have h := run_some h
        obtain rfl : _ = r := h
        refine FinH.l ?_
        simp -dsimp -implicitDefEqProofs -failIfUnchanged only [↓RA, RB, RS, fx25, Nat.reduceLT, Nat.reduceAdd, Nat.reduceMul, Nat.reduceEqDiff, reduceIte, Nat.reduceBEq, Nat.reduceLeDiff, Nat.reduceSub, Int.reduceToNat]
theorem eqTerm_sat {a0 : Term} {a1 : Term} {r : Bool} (h : eqTerm a0 a1 = some r) : Sat Try.prog 24 [((Term.pv false) a0), ((Term.pv false) a1)] (B r) := by
  obtain ⟨n, hn⟩ := lim_some h
  exact (eqTermN_sat n).1 _ _ _ hn
theorem eqTermS_sat {a0 : List Term} {a1 : List Term} {r : Bool} (h : eqTermS a0 a1 = some r) : Sat Try.prog 25 [(.sl false 2 (a0.map (Term.pv false))), (.sl false 2 (a1.map (Term.pv false)))] (B r) := by
  obtain ⟨n, hn⟩ := lim_some h
  exact (eqTermN_sat n).2 _ _ _ hn

def fx19 := And.intro @ty_4 <| And.intro @zc_4 <| And.intro @z_4 <| And.intro @u_4 <| And.intro @ty_27 <| And.intro @zc_27 <| And.intro @z_27 <| And.intro @es_27 <| And.intro @eb_27 <| And.intro @sl_27 <| And.intro @is_27 <| And.intro @el_27 <| And.intro @ze_27 <| And.intro @ez_27 <| And.intro @ty_29 <| And.intro @zc_29 <| And.intro @z_29 <| And.intro @fo_29_0 <| And.intro @fi_29_0 <| And.intro @ft_29_0 <| And.intro @fo_29_1 <| And.intro @fi_29_1 <| And.intro @ft_29_1 <| @lay_29
set_option maxHeartbeats 4000000 in
theorem eqDecomposition_sat {a0 : Decomposition} {a1 : Decomposition}  {r : Bool} (h : eqDecomposition a0 a1 = some r) : Sat Try.prog 19 [((Decomposition.pv false) a0), ((Decomposition.pv false) a1)] (B r) := by
  replace h := Run.of h
  unfold eqDecomposition at h
  refine Sat.of_m (nt := 17) (rs := [.tmp 4]) (n := 100000) Try.func19 rfl rfl rfl rfl (by simp) ?_
  simp -dsimp -implicitDefEqProofs -failIfUnchanged only [↓RA, RB, RS, fx19, Nat.reduceLT, Nat.reduceAdd, Nat.reduceMul, Nat.reduceEqDiff, reduceIte, Nat.reduceBEq, Nat.reduceLeDiff, Nat.reduceSub, Int.reduceToNat]
  repeat (first | with_reducible refine noR_and (by repeat (first | exact noR_empty _ _ | exact noR_nilS _ _ | refine noR_mk _ _ _ _ _ rfl ?_ | refine noR_mkS _ _ _ _ _ rfl ?_)) ?_ | with_reducible refine noC_and (by repeat (first | exact noC_empty _ _ (by simp -dsimp -implicitDefEqProofs -failIfUnchanged only [↓RA, RB, RS, fx19, Nat.reduceLT, Nat.reduceAdd, Nat.reduceMul, Nat.reduceEqDiff, reduceIte, Nat.reduceBEq, Nat.reduceLeDiff, Nat.reduceSub, Int.reduceToNat]) | exact noC_nilS _ _ (by simp -dsimp -implicitDefEqProofs -failIfUnchanged only [↓RA, RB, RS, fx19, Nat.reduceLT, Nat.reduceAdd, Nat.reduceMul, Nat.reduceEqDiff, reduceIte, Nat.reduceBEq, Nat.reduceLeDiff, Nat.reduceSub, Int.reduceToNat]) | refine noC_mk _ _ _ _ _ rfl ?_ | refine noC_mkS _ _ _ _ _ rfl ?_)) ?_ | with_reducible refine and_ac ?_ | with_reducible refine And.intro (a := _ = List.range _) (by rfl) ?_)
  obtain ⟨v9, hv9, h⟩ := run_bind h
  refine CallH.mk [false, false] (eqTermS_sat hv9) ?_ ?_ <;> simp -dsimp -implicitDefEqProofs -failIfUnchanged only [↓RA, RB, RS, fx19, Nat.reduceLT, Nat.reduceAdd, Nat.reduceMul, Nat.reduceEqDiff, reduceIte, Nat.reduceBEq, Nat.reduceLeDiff, Nat.reduceSub, Int.reduceToNat]
  refine CondH.mk (fun c1 => ?_) (fun c1 => ?_)
  · replace h := run_t c1 h
    simp -dsimp -implicitDefEqProofs -failIfUnchanged only [↓RA, RB, RS, fx19, Nat.reduceLT, Nat.reduceAdd, Nat.reduceMul, Nat.reduceEqDiff, reduceIte, Nat.reduceBEq, Nat.reduceLeDiff, Nat.reduceSub, Int.reduceToNat, c1]
    obtain ⟨v15, hv15, h⟩ := run_bind h
    refine CallH.mk [false, false] (eqTermS_sat hv15) ?_ ?_ <;> simp -dsimp -implicitDefEqProofs -failIfUnchanged only [↓RA, RB, RS, fx19, Nat.reduceLT, Nat.reduceAdd, Nat.reduceMul, Nat.reduceEqDiff, reduceIte, Nat.reduceBEq, Nat.reduceLeDiff, Nat.reduceSub, Int.reduceToNat, c1]
    refine CondH.mk (fun c2 => ?_) (fun c2 => ?_)
    · replace h := run_t c2 h
      simp -dsimp -implicitDefEqProofs -failIfUnchanged only [↓RA, RB, RS, fx19, Nat.reduceLT, Nat.reduceAdd, Nat.reduceMul, Nat.reduceEqDiff, reduceIte, Nat.reduceBEq, Nat.reduceLeDiff, Nat.reduceSub, Int.reduceToNat, c1, c2]
      have h := run_some h
      obtain rfl : _ = r := h
      refine FinH.l ?_
      simp -dsimp -implicitDefEqProofs -failIfUnchanged only [↓RA, RB, RS, fx19, Nat.reduceLT, Nat.reduceAdd, Nat.reduceMul, Nat.reduceEqDiff, reduceIte, Nat.reduceBEq, Nat.reduceLeDiff, Nat.reduceSub, Int.reduceToNat]
    · replace h := run_f c2 h
      simp -dsimp -implicitDefEqProofs -failIfUnchanged only [↓RA, RB, RS, fx19, Nat.reduceLT, Nat.reduceAdd, Nat.reduceMul, Nat.reduceEqDiff, reduceIte, Nat.reduceBEq, Nat.reduceLeDiff, Nat.reduceSub, Int.reduceToNat, c1, c2]
      have h := run_some h
      obtain rfl : _ = r := h
      refine FinH.l ?_
      simp -dsimp -implicitDefEqProofs -failIfUnchanged only [↓RA, RB, RS, fx19, Nat.reduceLT, Nat.reduceAdd, Nat.reduceMul, Nat.reduceEqDiff, reduceIte, Nat.reduceBEq, Nat.reduceLeDiff, Nat.reduceSub, Int.reduceToNat]
  · replace h := run_f c1 h
    simp -dsimp -implicitDefEqProofs -failIfUnchanged only [↓RA, RB, RS, fx19, Nat.reduceLT, Nat.reduceAdd, Nat.reduceMul, Nat.reduceEqDiff, reduceIte, Nat.reduceBEq, Nat.reduceLeDiff, Nat.reduceSub, Int.reduceToNat, c1]
    have h := run_some h
    obtain rfl : _ = r := h
    refine FinH.l ?_
    simp -dsimp -implicitDefEqProofs -failIfUnchanged only [↓RA, RB, RS, fx19, Nat.reduceLT, Nat.reduceAdd, Nat.reduceMul, Nat.reduceEqDiff, reduceIte, Nat.reduceBEq, Nat.reduceLeDiff, Nat.reduceSub, Int.reduceToNat]

def fx3 := And.intro @ty_3 <| And.intro @zc_3 <| And.intro @z_3 <| And.intro @ty_4 <| And.intro @zc_4 <| And.intro @z_4 <| And.intro @u_4 <| And.intro @ty_24 <| And.intro @zc_24 <| And.intro @z_24 <| And.intro @fo_24_0 <| And.intro @fi_24_0 <| And.intro @ft_24_0 <| And.intro @fo_24_1 <| And.intro @fi_24_1 <| And.intro @ft_24_1 <| And.intro @lay_24 <| And.intro @ty_29 <| And.intro @zc_29 <| And.intro @z_29 <| And.intro @fo_29_0 <| And.intro @fi_29_0 <| And.intro @ft_29_0 <| And.intro @fo_29_1 <| And.intro @fi_29_1 <| And.intro @ft_29_1 <| And.intro @lay_29 <| @mixedT
set_option maxHeartbeats 4000000 in
theorem FnExactIsValidDecomposition_sat {a0 : Decomposition}  {r : Bool} (h : FnExactIsValidDecomposition a0 = some r) : Sat Try.prog 3 [((Decomposition.pv false) a0)] (B r) := by
  replace h := Run.of h
  unfold FnExactIsValidDecomposition at h
  refine Sat.of_m (nt := 27) (rs := [.tmp 2]) (n := 100000) Try.func3 rfl rfl rfl rfl (by simp) ?_
  simp -dsimp -implicitDefEqProofs -failIfUnchanged only [↓RA, RB, RS, fx3, Nat.reduceLT, Nat.reduceAdd, Nat.reduceMul, Nat.reduceEqDiff, reduceIte, Nat.reduceBEq, Nat.reduceLeDiff, Nat.reduceSub, Int.reduceToNat]
  repeat (first | with_reducible refine noR_and (by repeat (first | exact noR_empty _ _ | exact noR_nilS _ _ | refine noR_mk _ _ _ _ _ rfl ?_ | refine noR_mkS _ _ _ _ _ rfl ?_)) ?_ | with_reducible refine noC_and (by repeat (first | exact noC_empty _ _ (by simp -dsimp -implicitDefEqProofs -failIfUnchanged only [↓RA, RB, RS, fx3, Nat.reduceLT, Nat.reduceAdd, Nat.reduceMul, Nat.reduceEqDiff, reduceIte, Nat.reduceBEq, Nat.reduceLeDiff, Nat.reduceSub, Int.reduceToNat]) | exact noC_nilS _ _ (by simp -dsimp -implicitDefEqProofs -failIfUnchanged only [↓RA, RB, RS, fx3, Nat.reduceLT, Nat.reduceAdd, Nat.reduceMul, Nat.reduceEqDiff, reduceIte, Nat.reduceBEq, Nat.reduceLeDiff, Nat.reduceSub, Int.reduceToNat]) | refine noC_mk _ _ _ _ _ rfl ?_ | refine noC_mkS _ _ _ _ _ rfl ?_)) ?_ | with_reducible refine and_ac ?_ | with_reducible refine And.intro (a := _ = List.range _) (by rfl) ?_)
  obtain ⟨v9, hv9, h⟩ := run_bind h
  refine CallH.mk [false, false] (szDecomposition_sat hv9) ?_ ?_ <;> simp -dsimp -implicitDefEqProofs -failIfUnchanged only [↓RA, RB, RS, fx3, Nat.reduceLT, Nat.reduceAdd, Nat.reduceMul, Nat.reduceEqDiff, reduceIte, Nat.reduceBEq, Nat.reduceLeDiff, Nat.reduceSub, Int.reduceToNat]
  refine CondH.mk (fun c1 => ?_) (fun c1 => ?_)
  · replace h := run_t c1 h
    simp -dsimp -implicitDefEqProofs -failIfUnchanged only [↓RA, RB, RS, fx3, Nat.reduceLT, Nat.reduceAdd, Nat.reduceMul, Nat.reduceEqDiff, reduceIte, Nat.reduceBEq, Nat.reduceLeDiff, Nat.reduceSub, Int.reduceToNat, c1]
    have h := run_some h
    obtain rfl : _ = r := h
    refine FinH.l ?_
    simp -dsimp -implicitDefEqProofs -failIfUnchanged only [↓RA, RB, RS, fx3, Nat.reduceLT, Nat.reduceAdd, Nat.reduceMul, Nat.reduceEqDiff, reduceIte, Nat.reduceBEq, Nat.reduceLeDiff, Nat.reduceSub, Int.reduceToNat]
  · replace h := run_f c1 h
    simp -dsimp -implicitDefEqProofs -failIfUnchanged only [↓RA, RB, RS, fx3, Nat.reduceLT, Nat.reduceAdd, Nat.reduceMul, Nat.reduceEqDiff, reduceIte, Nat.reduceBEq, Nat.reduceLeDiff, Nat.reduceSub, Int.reduceToNat, c1]
    obtain ⟨v13, hv13, h⟩ := run_bind h
    refine CallH.mk [false] (toDecomposition_sat hv13) ?_ ?_ <;> simp -dsimp -implicitDefEqProofs -failIfUnchanged only [↓RA, RB, RS, fx3, Nat.reduceLT, Nat.reduceAdd, Nat.reduceMul, Nat.reduceEqDiff, reduceIte, Nat.reduceBEq, Nat.reduceLeDiff, Nat.reduceSub, Int.reduceToNat, c1]
    repeat (first | with_reducible refine noR_and (by repeat (first | exact noR_empty _ _ | exact noR_nilS _ _ | refine noR_mk _ _ _ _ _ rfl ?_ | refine noR_mkS _ _ _ _ _ rfl ?_)) ?_ | with_reducible refine noC_and (by repeat (first | exact noC_empty _ _ (by simp -dsimp -implicitDefEqProofs -failIfUnchanged only [↓RA, RB, RS, fx3, Nat.reduceLT, Nat.reduceAdd, Nat.reduceMul, Nat.reduceEqDiff, reduceIte, Nat.reduceBEq, Nat.reduceLeDiff, Nat.reduceSub, Int.reduceToNat]) | exact noC_nilS _ _ (by simp -dsimp -implicitDefEqProofs -failIfUnchanged only [↓RA, RB, RS, fx3, Nat.reduceLT, Nat.reduceAdd, Nat.reduceMul, Nat.reduceEqDiff, reduceIte, Nat.reduceBEq, Nat.reduceLeDiff, Nat.reduceSub, Int.reduceToNat]) | refine noC_mk _ _ _ _ _ rfl ?_ | refine noC_mkS _ _ _ _ _ rfl ?_)) ?_ | with_reducible refine and_ac ?_ | with_reducible refine And.intro (a := _ = List.range _) (by rfl) ?_)
    obtain ⟨v14, hv14, h⟩ := run_bind h
    refine CallH.mk [false] (spec_IsValidDecomposition_sat hv14) ?_ ?_ <;> simp -dsimp -implicitDefEqProofs -failIfUnchanged only [↓RA, RB, RS, fx3, Nat.reduceLT, Nat.reduceAdd, Nat.reduceMul, Nat.reduceEqDiff, reduceIte, Nat.reduceBEq, Nat.reduceLeDiff, Nat.reduceSub, Int.reduceToNat, c1]
    obtain ⟨v16, hv16, h⟩ := run_bind h
    refine CallH.mk [false] (toDecomposition_sat hv16) ?_ ?_ <;> simp -dsimp -implicitDefEqProofs -failIfUnchanged only [↓RA, RB, RS, fx3, Nat.reduceLT, Nat.reduceAdd, Nat.reduceMul, Nat.reduceEqDiff, reduceIte, Nat.reduceBEq, Nat.reduceLeDiff, Nat.reduceSub, Int.reduceToNat, c1]
    repeat (first | with_reducible refine noR_and (by repeat (first | exact noR_empty _ _ | exact noR_nilS _ _ | refine noR_mk _ _ _ _ _ rfl ?_ | refine noR_mkS _ _ _ _ _ rfl ?_)) ?_ | with_reducible refine noC_and (by repeat (first | exact noC_empty _ _ (by simp -dsimp -implicitDefEqProofs -failIfUnchanged only [↓RA, RB, RS, fx3, Nat.reduceLT, Nat.reduceAdd, Nat.reduceMul, Nat.reduceEqDiff, reduceIte, Nat.reduceBEq, Nat.reduceLeDiff, Nat.reduceSub, Int.reduceToNat]) | exact noC_nilS _ _ (by simp -dsimp -implicitDefEqProofs -failIfUnchanged only [↓RA, RB, RS, fx3, Nat.reduceLT, Nat.reduceAdd, Nat.reduceMul, Nat.reduceEqDiff, reduceIte, Nat.reduceBEq, Nat.reduceLeDiff, Nat.reduceSub, Int.reduceToNat]) | refine noC_mk _ _ _ _ _ rfl ?_ | refine noC_mkS _ _ _ _ _ rfl ?_)) ?_ | with_reducible refine and_ac ?_ | with_reducible refine And.intro (a := _ = List.range _) (by rfl) ?_)
    obtain ⟨v18, hv18, h⟩ := run_bind h
    refine CallH.mk [false] (impl_IsValidDecomposition_sat hv18) ?_ ?_ <;> simp -dsimp -implicitDefEqProofs -failIfUnchanged only [↓RA, RB, RS, fx3, Nat.reduceLT, Nat.reduceAdd, Nat.reduceMul, Nat.reduceEqDiff, reduceIte, Nat.reduceBEq, Nat.reduceLeDiff, Nat.reduceSub, Int.reduceToNat, c1]
    refine CondH.mk (fun c2 => ?_) (fun c2 => ?_)
    · replace h := run_t c2 h
      simp -dsimp -implicitDefEqProofs -failIfUnchanged only [↓RA, RB, RS, fx3, Nat.reduceLT, Nat.reduceAdd, Nat.reduceMul, Nat.reduceEqDiff, reduceIte, Nat.reduceBEq, Nat.reduceLeDiff, Nat.reduceSub, Int.reduceToNat, c1, c2]
      obtain ⟨v24, hv24, h⟩ := run_bind h
      refine CallH.mk [false] (toDecomposition_sat hv24) ?_ ?_ <;> simp -dsimp -implicitDefEqProofs -failIfUnchanged only [↓RA, RB, RS, fx3, Nat.reduceLT, Nat.reduceAdd, Nat.reduceMul, Nat.reduceEqDiff, reduceIte, Nat.reduceBEq, Nat.reduceLeDiff, Nat.reduceSub, Int.reduceToNat, c1, c2]
      repeat (first | with_reducible refine noR_and (by repeat (first | exact noR_empty _ _ | exact noR_nilS _ _ | refine noR_mk _ _ _ _ _ rfl ?_ | refine noR_mkS _ _ _ _ _ rfl ?_)) ?_ | with_reducible refine noC_and (by repeat (first | exact noC_empty _ _ (by simp -dsimp -implicitDefEqProofs -failIfUnchanged only [↓RA, RB, RS, fx3, Nat.reduceLT, Nat.reduceAdd, Nat.reduceMul, Nat.reduceEqDiff, reduceIte, Nat.reduceBEq, Nat.reduceLeDiff, Nat.reduceSub, Int.reduceToNat]) | exact noC_nilS _ _ (by simp -dsimp -implicitDefEqProofs -failIfUnchanged only [↓RA, RB, RS, fx3, Nat.reduceLT, Nat.reduceAdd, Nat.reduceMul, Nat.reduceEqDiff, reduceIte, Nat.reduceBEq, Nat.reduceLeDiff, Nat.reduceSub, Int.reduceToNat]) | refine noC_mk _ _ _ _ _ rfl ?_ | refine noC_mkS _ _ _ _ _ rfl ?_)) ?_ | with_reducible refine and_ac ?_ | with_reducible refine And.intro (a := _ = List.range _) (by rfl) ?_)
      obtain ⟨v25, hv25, h⟩ := run_bind h
      refine CallH.mk [false, false] (eqDecomposition_sat hv25) ?_ ?_ <;> simp -dsimp -implicitDefEqProofs -failIfUnchanged only [↓RA, RB, RS, fx3, Nat.reduceLT, Nat.reduceAdd, Nat.reduceMul, Nat.reduceEqDiff, reduceIte, Nat.reduceBEq, Nat.reduceLeDiff, Nat.reduceSub, Int.reduceToNat, c1, c2]
      refine And.intro (DrawH.mk [] [384, 385] (by rfl) (by first | rfl | (simp -dsimp -implicitDefEqProofs -failIfUnchanged only [↓RA, RB, RS, fx3, Nat.reduceLT, Nat.reduceAdd, Nat.reduceMul, Nat.reduceEqDiff, reduceIte, Nat.reduceBEq, Nat.reduceLeDiff, Nat.reduceSub, Int.reduceToNat] <;> rfl)) (by first | rfl | (simp -dsimp -implicitDefEqProofs -failIfUnchanged only [↓RA, RB, RS, fx3, Nat.reduceLT, Nat.reduceAdd, Nat.reduceMul, Nat.reduceEqDiff, reduceIte, Nat.reduceBEq, Nat.reduceLeDiff, Nat.reduceSub, Int.reduceToNat] <;> rfl)) (by first | rfl | (simp -dsimp -implicitDefEqProofs -failIfUnchanged only [↓RA, RB, RS, fx3, Nat.reduceLT, Nat.reduceAdd, Nat.reduceMul, Nat.reduceEqDiff, reduceIte, Nat.reduceBEq, Nat.reduceLeDiff, Nat.reduceSub, Int.reduceToNat] <;> rfl)) (by simp) (by simp -dsimp -implicitDefEqProofs -failIfUnchanged only [↓RA, RB, RS, fx3, Nat.reduceLT, Nat.reduceAdd, Nat.reduceMul, Nat.reduceEqDiff, reduceIte, Nat.reduceBEq, Nat.reduceLeDiff, Nat.reduceSub, Int.reduceToNat]; repeat (first | exact noC_empty _ _ (by simp -dsimp -implicitDefEqProofs -failIfUnchanged only [↓RA, RB, RS, fx3, Nat.reduceLT, Nat.reduceAdd, Nat.reduceMul, Nat.reduceEqDiff, reduceIte, Nat.reduceBEq, Nat.reduceLeDiff, Nat.reduceSub, Int.reduceToNat]) | exact noC_nilS _ _ (by simp -dsimp -implicitDefEqProofs -failIfUnchanged only [↓RA, RB, RS, fx3, Nat.reduceLT, Nat.reduceAdd, Nat.reduceMul, Nat.reduceEqDiff, reduceIte, Nat.reduceBEq, Nat.reduceLeDiff, Nat.reduceSub, Int.reduceToNat]) | refine noC_mk _ _ _ _ _ rfl ?_ | refine noC_mkS _ _ _ _ _ rfl ?_ | refine And.intro ?_ ?_))) ?_
      simp -dsimp -implicitDefEqProofs -failIfUnchanged only [↓RA, RB, RS, fx3, Nat.reduceLT, Nat.reduceAdd, Nat.reduceMul, Nat.reduceEqDiff, reduceIte, Nat.reduceBEq, Nat.reduceLeDiff, Nat.reduceSub, Int.reduceToNat, c1, c2]
      refine CondH.mk (fun c3 => ?_) (fun c3 => ?_)
      · replace h := run_t c3 h
        simp -dsimp -implicitDefEqProofs -failIfUnchanged only [↓RA, RB, RS, fx3, Nat.reduceLT, Nat.reduceAdd, Nat.reduceMul, Nat.reduceEqDiff, reduceIte, Nat.reduceBEq, Nat.reduceLeDiff, Nat.reduceSub, Int.reduceToNat, c1, c2, c3]
        have h := run_some h
        obtain rfl : _ = r := h
        refine FinH.l ?_
        simp -dsimp -implicitDefEqProofs -failIfUnchanged only [↓RA, RB, RS, fx3, Nat.reduceLT, Nat.reduceAdd, Nat.reduceMul, Nat.reduceEqDiff, reduceIte, Nat.reduceBEq, Nat.reduceLeDiff, Nat.reduceSub, Int.reduceToNat]
      · replace h := run_f c3 h
        simp -dsimp -implicitDefEqProofs -failIfUnchanged only [↓RA, RB, RS, fx3, Nat.reduceLT, Nat.reduceAdd, Nat.reduceMul, Nat.reduceEqDiff, reduceIte, Nat.reduceBEq, Nat.reduceLeDiff, Nat.reduceSub, Int.reduceToNat, c1, c2, c3]
        have h := run_some h
        obtain rfl : _ = r := h
        refine FinH.l ?_
        simp -dsimp -implicitDefEqProofs -failIfUnchanged only [↓RA, RB, RS, fx3, Nat.reduceLT, Nat.reduceAdd, Nat.reduceMul, Nat.reduceEqDiff, reduceIte, Nat.reduceBEq, Nat.reduceLeDiff, Nat.reduceSub, Int.reduceToNat]
    · replace h := run_f c2 h
      simp -dsimp -implicitDefEqProofs -failIfUnchanged only [↓RA, RB, RS, fx3, Nat.reduceLT, Nat.reduceAdd, Nat.reduceMul, Nat.reduceEqDiff, reduceIte, Nat.reduceBEq, Nat.reduceLeDiff, Nat.reduceSub, Int.reduceToNat, c1, c2]
      have h := run_some h
      obtain rfl : _ = r := h
      refine FinH.l ?_
      simp -dsimp -implicitDefEqProofs -failIfUnchanged only [↓RA, RB, RS, fx3, Nat.reduceLT, Nat.reduceAdd, Nat.reduceMul, Nat.reduceEqDiff, reduceIte, Nat.reduceBEq, Nat.reduceLeDiff, Nat.reduceSub, Int.reduceToNat]

end Go.Proofs.Ytdmkceajaagpgaa
