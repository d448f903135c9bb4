/- A part of the proof: lemmas only; nothing is claimed here beyond what each lemma says. -/
import Derived.Test.YtkokcfphepmeeaaGreatDoorGm
import Derived.Test.YtkokcfphepmeeaaGreatDoorGf
set_option linter.unusedSimpArgs false
set_option linter.unusedVariables false
set_option linter.defProp false
set_option maxRecDepth 4000
namespace Go.Proofs.YtkokcfphepmeeaaGreatDoor
open Go.Av
open Nat renaming reduceLT → p1, reduceAdd → p2, reduceMul → p3, reduceEqDiff → p4, reduceBEq → p5, reduceLeDiff → p6, reduceSub → p7
open Int renaming reduceToNat → p8
def fx20 := And.intro @ty_3 <| And.intro @zc_3 <| And.intro @z_3 <| And.intro @ty_9 <| And.intro @zc_9 <| And.intro @z_9 <| And.intro @u_9 <| And.intro @ty_22 <| And.intro @zc_22 <| And.intro @z_22 <| And.intro @es_22 <| And.intro @eb_22 <| And.intro @sl_22 <| And.intro @is_22 <| And.intro @el_22 <| And.intro @ze_22 <| And.intro @ez_22 <| And.intro @ty_24 <| And.intro @zc_24 <| And.intro @z_24 <| And.intro @fo_24_0 <| And.intro @fi_24_0 <| And.intro @ft_24_0 <| And.intro @fo_24_1 <| And.intro @fi_24_1 <| And.intro @ft_24_1 <| @lay_24
def fx50 := And.intro @ty_3 <| And.intro @zc_3 <| And.intro @z_3 <| And.intro @ty_22 <| And.intro @zc_22 <| And.intro @z_22 <| And.intro @es_22 <| And.intro @eb_22 <| And.intro @sl_22 <| And.intro @is_22 <| And.intro @el_22 <| And.intro @ze_22 <| And.intro @ez_22 <| And.intro @ty_24 <| And.intro @zc_24 <| And.intro @z_24 <| And.intro @fo_24_0 <| And.intro @fi_24_0 <| And.intro @ft_24_0 <| And.intro @fo_24_1 <| And.intro @fi_24_1 <| And.intro @ft_24_1 <| @lay_24
set_option maxHeartbeats 4000000 in
theorem szTermN_sat (n : Nat) : (∀ (a0 : Term) (a1 : Int) (r : Int), szTermN n a0 a1 = some r → Sat Tryz.prog 20 [((Term.pv false) a0), (I a1)] (I r)) ∧ (∀ (a0 : List Term) (a1 : Int) (r : Int), szTermSN n a0 a1 = some r → Sat Tryz.prog 50 [(.sl false 2 (a0.map (Term.pv false))), (I a1)] (I r)) := by
  induction n with
  | zero => exact ⟨fun _ _ _ h => by simp [szTermN] at h, fun _ _ _ h => by simp [szTermSN] at h⟩
  | succ n ih =>
    refine ⟨fun a0 a1 r h => ?_, fun a0 a1 r h => ?_⟩
    · replace h := Run.of h
      rw [szTermN] at h
      refine Sat.of_m (nt := 19) (rs := [.tmp 4]) (n := 100000) Tryz.func20 rfl rfl rfl rfl (by simp) ?_
      simp -failIfUnchanged only [↓RA, RB, RS, fx20, p1, p2, p3, p4, reduceIte, p5, p6, p7, p8]
      repeat (first | with_reducible refine noR_and (by repeat (first | exact noR_empty _ _ | exact noR_nilS _ _ | refine noR_mk _ _ _ _ _ rfl ?_ | refine noR_mkS _ _ _ _ _ rfl ?_)) ?_ | with_reducible refine noC_and (by repeat (first | exact noC_empty _ _ (by simp -failIfUnchanged only [↓RA, RB, RS, fx20, p1, p2, p3, p4, reduceIte, p5, p6, p7, p8]) | exact noC_nilS _ _ (by simp -failIfUnchanged only [↓RA, RB, RS, fx20, p1, p2, p3, p4, reduceIte, p5, p6, p7, p8]) | refine noC_mk _ _ _ _ _ rfl ?_ | refine noC_mkS _ _ _ _ _ rfl ?_)) ?_ | with_reducible refine and_ac ?_ | with_reducible refine And.intro (a := _ = List.range _) (by rfl) ?_)
      refine CondH.mk (fun c1 => ?_) (fun c1 => ?_)
      · replace h := run_t c1 h
        simp -failIfUnchanged only [↓RA, RB, RS, fx20, p1, p2, p3, p4, reduceIte, p5, p6, p7, p8, c1]
        have h := run_some h
        obtain rfl : _ = r := h
        refine FinH.l ?_
        simp -failIfUnchanged only [↓RA, RB, RS, fx20, p1, p2, p3, p4, reduceIte, p5, p6, p7, p8, c1]
      · replace h := run_f c1 h
        simp -failIfUnchanged only [↓RA, RB, RS, fx20, p1, p2, p3, p4, reduceIte, p5, p6, p7, p8, c1]
        obtain ⟨v15, hv15, h⟩ := run_bind h
        refine CallH.mk [false, false] (ih.2 _ _ _ hv15) ?_ ?_ <;> simp -failIfUnchanged only [↓RA, RB, RS, fx20, p1, p2, p3, p4, reduceIte, p5, p6, p7, p8, c1]
        refine CondH.mk (fun c2 => ?_) (fun c2 => ?_)
        · replace h := run_t c2 h
          simp -failIfUnchanged only [↓RA, RB, RS, fx20, p1, p2, p3, p4, reduceIte, p5, p6, p7, p8, c1, c2]
          have h := run_some h
          obtain rfl : _ = r := h
          refine FinH.l ?_
          simp -failIfUnchanged only [↓RA, RB, RS, fx20, p1, p2, p3, p4, reduceIte, p5, p6, p7, p8, c1, c2]
        · replace h := run_f c2 h
          simp -failIfUnchanged only [↓RA, RB, RS, fx20, p1, p2, p3, p4, reduceIte, p5, p6, p7, p8, c1, c2]
          have h := run_some h
          obtain rfl : _ = r := h
          refine FinH.l ?_
          simp -failIfUnchanged only [↓RA, RB, RS, fx20, p1, p2, p3, p4, reduceIte, p5, p6, p7, p8, c1, c2]
    · replace h := Run.of h
      rw [szTermSN] at h
      refine Sat.of_m (nt := 27) (rs := [.tmp 4]) (n := 100000) Tryz.func50 rfl rfl rfl rfl (by simp) ?_
      simp -failIfUnchanged only [↓RA, RB, RS, fx50, p1, p2, p3, p4, reduceIte, p5, p6, p7, p8]
      refine CondH.mk (fun c1 => ?_) (fun c1 => ?_)
      · replace h := run_t c1 h
        simp -failIfUnchanged only [↓RA, RB, RS, fx50, p1, p2, p3, p4, reduceIte, p5, p6, p7, p8, c1]
        have h := run_some h
        obtain rfl : _ = r := h
        refine FinH.l ?_
        simp -failIfUnchanged only [↓RA, RB, RS, fx50, p1, p2, p3, p4, reduceIte, p5, p6, p7, p8, c1]
      · replace h := run_f c1 h
        simp -failIfUnchanged only [↓RA, RB, RS, fx50, p1, p2, p3, p4, reduceIte, p5, p6, p7, p8, c1]
        refine Mg.know_sl (b := false) (sz := 2) (es := a0.map (Term.pv false)) 0 (by simp -failIfUnchanged only [↓RA, RB, RS, fx50, p1, p2, p3, p4, reduceIte, p5, p6, p7, p8, c1]) fun hl0 => ?_; rw [List.length_map] at hl0
        replace h := run_loop h
        refine Mg.forN h (fun i5 s5 => [(0, .val (.pv (.sl false 2 (a0.map (Term.pv false))))), (1, .val (.pv (I s5))), (5, .val (.pv (I (i5 : Int))))]) (fun i5 s5 => []) (St.le_mk2 (by simp -failIfUnchanged only [↓RA, RB, RS, fx50, p1, p2, p3, p4, reduceIte, p5, p6, p7, p8, c1])) (fun i5 s5 hi h => ?_) (fun s5 h => ?_)
        · have w5 := wrap_succ (i := i5) (by omega)
          simp -failIfUnchanged only [↓RA, RB, RS, fx50, p1, p2, p3, p4, reduceIte, p5, p6, p7, p8, c1]
          refine CondH.tt (decide_eq_true (by omega)) (fun c2 => ?_)
          simp -failIfUnchanged only [↓RA, RB, RS, fx50, p1, p2, p3, p4, reduceIte, p5, p6, p7, p8, c1, c2]
          obtain ⟨v20, hv20, h⟩ := run_bind h
          refine IdxH.mk (f := (Term.pv false)) hv20 ?_ ?_ <;> simp -failIfUnchanged only [↓RA, RB, RS, fx50, p1, p2, p3, p4, reduceIte, p5, p6, p7, p8, c1, c2]
          obtain ⟨v23, hv23, h⟩ := run_bind h
          refine CallH.mk [false, false] (ih.1 _ _ _ hv23) ?_ ?_ <;> simp -failIfUnchanged only [↓RA, RB, RS, fx50, p1, p2, p3, p4, reduceIte, p5, p6, p7, p8, c1, c2]
          refine CondH.mk (fun c3 => ?_) (fun c3 => ?_)
          · replace h := run_t c3 h
            simp -failIfUnchanged only [↓RA, RB, RS, fx50, p1, p2, p3, p4, reduceIte, p5, p6, p7, p8, c1, c2, c3]
            have h := run_some h
            obtain rfl : _ = r := h
            refine FinH.l ?_
            simp -failIfUnchanged only [↓RA, RB, RS, fx50, p1, p2, p3, p4, reduceIte, p5, p6, p7, p8, c1, c2, c3]
          · replace h := run_f c3 h
            simp -failIfUnchanged only [↓RA, RB, RS, fx50, p1, p2, p3, p4, reduceIte, p5, p6, p7, p8, c1, c2, c3]
            have h := run_some h
            refine RdH.mk ⟨_, h, ?_⟩
            refine St.le_mk2 ?_
            simp -failIfUnchanged only [↓RA, RB, RS, fx50, p1, p2, p3, p4, reduceIte, p5, p6, p7, p8, c1, c2, c3, w5]
        · simp -failIfUnchanged only [↓RA, RB, RS, fx50, p1, p2, p3, p4, reduceIte, p5, p6, p7, p8, c1]
          refine CondH.ff (decide_eq_false (by omega)) (fun c4 => ?_)
          simp -failIfUnchanged only [↓RA, RB, RS, fx50, p1, p2, p3, p4, reduceIte, p5, p6, p7, p8, c1, c4]
          have h := run_some h
          obtain rfl : _ = r := h
          refine FinH.l ?_
          simp -failIfUnchanged only [↓RA, RB, RS, fx50, p1, p2, p3, p4, reduceIte, p5, p6, p7, p8, c1, c4]
theorem szTerm_sat {a0 : Term} {a1 : Int} {r : Int} (h : szTerm a0 a1 = some r) : Sat Tryz.prog 20 [((Term.pv false) a0), (I a1)] (I r) := by
  obtain ⟨n, hn⟩ := lim_some h
  exact (szTermN_sat n).1 _ _ _ hn
theorem szTermS_sat {a0 : List Term} {a1 : Int} {r : Int} (h : szTermS a0 a1 = some r) : Sat Tryz.prog 50 [(.sl false 2 (a0.map (Term.pv false))), (I a1)] (I r) := by
  obtain ⟨n, hn⟩ := lim_some h
  exact (szTermN_sat n).2 _ _ _ hn

def fx6 := And.intro @ty_3 <| And.intro @zc_3 <| And.intro @z_3 <| And.intro @ty_9 <| And.intro @zc_9 <| And.intro @z_9 <| And.intro @u_9 <| And.intro @ty_24 <| And.intro @zc_24 <| And.intro @z_24 <| And.intro @fo_24_0 <| And.intro @fi_24_0 <| And.intro @ft_24_0 <| And.intro @fo_24_1 <| And.intro @fi_24_1 <| And.intro @ft_24_1 <| And.intro @lay_24 <| And.intro @ty_25 <| And.intro @zc_25 <| And.intro @z_25 <| And.intro @es_25 <| And.intro @eb_25 <| And.intro @sl_25 <| And.intro @is_25 <| And.intro @el_25 <| And.intro @ze_25 <| And.intro @ez_25 <| And.intro @ty_27 <| And.intro @zc_27 <| And.intro @z_27 <| And.intro @fo_27_0 <| And.intro @fi_27_0 <| And.intro @ft_27_0 <| And.intro @fo_27_1 <| And.intro @fi_27_1 <| And.intro @ft_27_1 <| And.intro @fo_27_2 <| And.intro @fi_27_2 <| And.intro @ft_27_2 <| And.intro @fo_27_3 <| And.intro @fi_27_3 <| And.intro @ft_27_3 <| @lay_27
def fx21 := And.intro @ty_3 <| And.intro @zc_3 <| And.intro @z_3 <| And.intro @ty_25 <| And.intro @zc_25 <| And.intro @z_25 <| And.intro @es_25 <| And.intro @eb_25 <| And.intro @sl_25 <| And.intro @is_25 <| And.intro @el_25 <| And.intro @ze_25 <| And.intro @ez_25 <| And.intro @ty_27 <| And.intro @zc_27 <| And.intro @z_27 <| And.intro @fo_27_0 <| And.intro @fi_27_0 <| And.intro @ft_27_0 <| And.intro @fo_27_1 <| And.intro @fi_27_1 <| And.intro @ft_27_1 <| And.intro @fo_27_2 <| And.intro @fi_27_2 <| And.intro @ft_27_2 <| And.intro @fo_27_3 <| And.intro @fi_27_3 <| And.intro @ft_27_3 <| @lay_27
set_option maxHeartbeats 4000000 in
theorem szFormulaN_sat (n : Nat) : (∀ (a0 : Formula) (a1 : Int) (r : Int), szFormulaN n a0 a1 = some r → Sat Tryz.prog 6 [((Formula.pv false) a0), (I a1)] (I r)) ∧ (∀ (a0 : List Formula) (a1 : Int) (r : Int), szFormulaSN n a0 a1 = some r → Sat Tryz.prog 21 [(.sl false 5 (a0.map (Formula.pv false))), (I a1)] (I r)) := by
  induction n with
  | zero => exact ⟨fun _ _ _ h => by simp [szFormulaN] at h, fun _ _ _ h => by simp [szFormulaSN] at h⟩
  | succ n ih =>
    refine ⟨fun a0 a1 r h => ?_, fun a0 a1 r h => ?_⟩
    · replace h := Run.of h
      rw [szFormulaN] at h
      refine Sat.of_m (nt := 25) (rs := [.tmp 4]) (n := 100000) Tryz.func6 rfl rfl rfl rfl (by simp) ?_
      simp -failIfUnchanged only [↓RA, RB, RS, fx6, p1, p2, p3, p4, reduceIte, p5, p6, p7, p8]
      repeat (first | with_reducible refine noR_and (by repeat (first | exact noR_empty _ _ | exact noR_nilS _ _ | refine noR_mk _ _ _ _ _ rfl ?_ | refine noR_mkS _ _ _ _ _ rfl ?_)) ?_ | with_reducible refine noC_and (by repeat (first | exact noC_empty _ _ (by simp -failIfUnchanged only [↓RA, RB, RS, fx6, p1, p2, p3, p4, reduceIte, p5, p6, p7, p8]) | exact noC_nilS _ _ (by simp -failIfUnchanged only [↓RA, RB, RS, fx6, p1, p2, p3, p4, reduceIte, p5, p6, p7, p8]) | refine noC_mk _ _ _ _ _ rfl ?_ | refine noC_mkS _ _ _ _ _ rfl ?_)) ?_ | with_reducible refine and_ac ?_ | with_reducible refine And.intro (a := _ = List.range _) (by rfl) ?_)
      obtain ⟨v8, hv8, h⟩ := run_bind h
      refine CallH.mk [false, false] (szTerm_sat hv8) ?_ ?_ <;> simp -failIfUnchanged only [↓RA, RB, RS, fx6, p1, p2, p3, p4, reduceIte, p5, p6, p7, p8]
      refine CondH.mk (fun c1 => ?_) (fun c1 => ?_)
      · replace h := run_t c1 h
        simp -failIfUnchanged only [↓RA, RB, RS, fx6, p1, p2, p3, p4, reduceIte, p5, p6, p7, p8, c1]
        have h := run_some h
        obtain rfl : _ = r := h
        refine FinH.l ?_
        simp -failIfUnchanged only [↓RA, RB, RS, fx6, p1, p2, p3, p4, reduceIte, p5, p6, p7, p8, c1]
      · replace h := run_f c1 h
        simp -failIfUnchanged only [↓RA, RB, RS, fx6, p1, p2, p3, p4, reduceIte, p5, p6, p7, p8, c1]
        refine CondH.mk (fun c2 => ?_) (fun c2 => ?_)
        · replace h := run_t c2 h
          simp -failIfUnchanged only [↓RA, RB, RS, fx6, p1, p2, p3, p4, reduceIte, p5, p6, p7, p8, c1, c2]
          have h := run_some h
          obtain rfl : _ = r := h
          refine FinH.l ?_
          simp -failIfUnchanged only [↓RA, RB, RS, fx6, p1, p2, p3, p4, reduceIte, p5, p6, p7, p8, c1, c2]
        · replace h := run_f c2 h
          simp -failIfUnchanged only [↓RA, RB, RS, fx6, p1, p2, p3, p4, reduceIte, p5, p6, p7, p8, c1, c2]
          obtain ⟨v21, hv21, h⟩ := run_bind h
          refine CallH.mk [false, false] (ih.2 _ _ _ hv21) ?_ ?_ <;> simp -failIfUnchanged only [↓RA, RB, RS, fx6, p1, p2, p3, p4, reduceIte, p5, p6, p7, p8, c1, c2]
          refine CondH.mk (fun c3 => ?_) (fun c3 => ?_)
          · replace h := run_t c3 h
            simp -failIfUnchanged only [↓RA, RB, RS, fx6, p1, p2, p3, p4, reduceIte, p5, p6, p7, p8, c1, c2, c3]
            have h := run_some h
            obtain rfl : _ = r := h
            refine FinH.l ?_
            simp -failIfUnchanged only [↓RA, RB, RS, fx6, p1, p2, p3, p4, reduceIte, p5, p6, p7, p8, c1, c2, c3]
          · replace h := run_f c3 h
            simp -failIfUnchanged only [↓RA, RB, RS, fx6, p1, p2, p3, p4, reduceIte, p5, p6, p7, p8, c1, c2, c3]
            have h := run_some h
            obtain rfl : _ = r := h
            refine FinH.l ?_
            simp -failIfUnchanged only [↓RA, RB, RS, fx6, p1, p2, p3, p4, reduceIte, p5, p6, p7, p8, c1, c2, c3]
    · replace h := Run.of h
      rw [szFormulaSN] at h
      refine Sat.of_m (nt := 27) (rs := [.tmp 4]) (n := 100000) Tryz.func21 rfl rfl rfl rfl (by simp) ?_
      simp -failIfUnchanged only [↓RA, RB, RS, fx21, p1, p2, p3, p4, reduceIte, p5, p6, p7, p8]
      refine CondH.mk (fun c1 => ?_) (fun c1 => ?_)
      · replace h := run_t c1 h
        simp -failIfUnchanged only [↓RA, RB, RS, fx21, p1, p2, p3, p4, reduceIte, p5, p6, p7, p8, c1]
        have h := run_some h
        obtain rfl : _ = r := h
        refine FinH.l ?_
        simp -failIfUnchanged only [↓RA, RB, RS, fx21, p1, p2, p3, p4, reduceIte, p5, p6, p7, p8, c1]
      · replace h := run_f c1 h
        simp -failIfUnchanged only [↓RA, RB, RS, fx21, p1, p2, p3, p4, reduceIte, p5, p6, p7, p8, c1]
        refine Mg.know_sl (b := false) (sz := 5) (es := a0.map (Formula.pv false)) 0 (by simp -failIfUnchanged only [↓RA, RB, RS, fx21, p1, p2, p3, p4, reduceIte, p5, p6, p7, p8, c1]) fun hl0 => ?_; rw [List.length_map] at hl0
        replace h := run_loop h
        refine Mg.forN h (fun i5 s5 => [(0, .val (.pv (.sl false 5 (a0.map (Formula.pv false))))), (1, .val (.pv (I s5))), (5, .val (.pv (I (i5 : Int))))]) (fun i5 s5 => []) (St.le_mk2 (by simp -failIfUnchanged only [↓RA, RB, RS, fx21, p1, p2, p3, p4, reduceIte, p5, p6, p7, p8, c1])) (fun i5 s5 hi h => ?_) (fun s5 h => ?_)
        · have w5 := wrap_succ (i := i5) (by omega)
          simp -failIfUnchanged only [↓RA, RB, RS, fx21, p1, p2, p3, p4, reduceIte, p5, p6, p7, p8, c1]
          refine CondH.tt (decide_eq_true (by omega)) (fun c2 => ?_)
          simp -failIfUnchanged only [↓RA, RB, RS, fx21, p1, p2, p3, p4, reduceIte, p5, p6, p7, p8, c1, c2]
          obtain ⟨v20, hv20, h⟩ := run_bind h
          refine IdxH.mk (f := (Formula.pv false)) hv20 ?_ ?_ <;> simp -failIfUnchanged only [↓RA, RB, RS, fx21, p1, p2, p3, p4, reduceIte, p5, p6, p7, p8, c1, c2]
          obtain ⟨v23, hv23, h⟩ := run_bind h
          refine CallH.mk [false, false] (ih.1 _ _ _ hv23) ?_ ?_ <;> simp -failIfUnchanged only [↓RA, RB, RS, fx21, p1, p2, p3, p4, reduceIte, p5, p6, p7, p8, c1, c2]
          refine CondH.mk (fun c3 => ?_) (fun c3 => ?_)
          · replace h := run_t c3 h
            simp -failIfUnchanged only [↓RA, RB, RS, fx21, p1, p2, p3, p4, reduceIte, p5, p6, p7, p8, c1, c2, c3]
            have h := run_some h
            obtain rfl : _ = r := h
            refine FinH.l ?_
            simp -failIfUnchanged only [↓RA, RB, RS, fx21, p1, p2, p3, p4, reduceIte, p5, p6, p7, p8, c1, c2, c3]
          · replace h := run_f c3 h
            simp -failIfUnchanged only [↓RA, RB, RS, fx21, p1, p2, p3, p4, reduceIte, p5, p6, p7, p8, c1, c2, c3]
            have h := run_some h
            refine RdH.mk ⟨_, h, ?_⟩
            refine St.le_mk2 ?_
            simp -failIfUnchanged only [↓RA, RB, RS, fx21, p1, p2, p3, p4, reduceIte, p5, p6, p7, p8, c1, c2, c3, w5]
        · simp -failIfUnchanged only [↓RA, RB, RS, fx21, p1, p2, p3, p4, reduceIte, p5, p6, p7, p8, c1]
          refine CondH.ff (decide_eq_false (by omega)) (fun c4 => ?_)
          simp -failIfUnchanged only [↓RA, RB, RS, fx21, p1, p2, p3, p4, reduceIte, p5, p6, p7, p8, c1, c4]
          have h := run_some h
          obtain rfl : _ = r := h
          refine FinH.l ?_
          simp -failIfUnchanged only [↓RA, RB, RS, fx21, p1, p2, p3, p4, reduceIte, p5, p6, p7, p8, c1, c4]
theorem szFormula_sat {a0 : Formula} {a1 : Int} {r : Int} (h : szFormula a0 a1 = some r) : Sat Tryz.prog 6 [((Formula.pv false) a0), (I a1)] (I r) := by
  obtain ⟨n, hn⟩ := lim_some h
  exact (szFormulaN_sat n).1 _ _ _ hn
theorem szFormulaS_sat {a0 : List Formula} {a1 : Int} {r : Int} (h : szFormulaS a0 a1 = some r) : Sat Tryz.prog 21 [(.sl false 5 (a0.map (Formula.pv false))), (I a1)] (I r) := by
  obtain ⟨n, hn⟩ := lim_some h
  exact (szFormulaN_sat n).2 _ _ _ hn

def fx27 := And.intro @ty_9 <| And.intro @zc_9 <| And.intro @z_9 <| And.intro @u_9 <| And.intro @ty_22 <| And.intro @zc_22 <| And.intro @z_22 <| And.intro @es_22 <| And.intro @eb_22 <| And.intro @sl_22 <| And.intro @is_22 <| And.intro @el_22 <| And.intro @ze_22 <| And.intro @ez_22 <| And.intro @ty_24 <| And.intro @zc_24 <| And.intro @z_24 <| And.intro @fo_24_0 <| And.intro @fi_24_0 <| And.intro @ft_24_0 <| And.intro @fo_24_1 <| And.intro @fi_24_1 <| And.intro @ft_24_1 <| And.intro @lay_24 <| And.intro @ty_32 <| And.intro @zc_32 <| And.intro @z_32 <| And.intro @es_32 <| And.intro @eb_32 <| And.intro @sl_32 <| And.intro @is_32 <| And.intro @el_32 <| And.intro @ze_32 <| And.intro @ez_32 <| And.intro @ty_34 <| And.intro @zc_34 <| And.intro @z_34 <| And.intro @fo_34_0 <| And.intro @fi_34_0 <| And.intro @ft_34_0 <| And.intro @fo_34_1 <| And.intro @fi_34_1 <| And.intro @ft_34_1 <| @lay_34
def fx56 := And.intro @ty_3 <| And.intro @zc_3 <| And.intro @z_3 <| And.intro @ty_22 <| And.intro @zc_22 <| And.intro @z_22 <| And.intro @es_22 <| And.intro @eb_22 <| And.intro @sl_22 <| And.intro @is_22 <| And.intro @el_22 <| And.intro @ze_22 <| And.intro @ez_22 <| And.intro @ty_24 <| And.intro @zc_24 <| And.intro @z_24 <| And.intro @fo_24_0 <| And.intro @fi_24_0 <| And.intro @ft_24_0 <| And.intro @fo_24_1 <| And.intro @fi_24_1 <| And.intro @ft_24_1 <| And.intro @lay_24 <| And.intro @ty_32 <| And.intro @zc_32 <| And.intro @z_32 <| And.intro @es_32 <| And.intro @eb_32 <| And.intro @sl_32 <| And.intro @is_32 <| And.intro @el_32 <| And.intro @ze_32 <| And.intro @ez_32 <| And.intro @ty_34 <| And.intro @zc_34 <| And.intro @z_34 <| And.intro @fo_34_0 <| And.intro @fi_34_0 <| And.intro @ft_34_0 <| And.intro @fo_34_1 <| And.intro @fi_34_1 <| And.intro @ft_34_1 <| @lay_34
set_option maxHeartbeats 4000000 in
theorem toTermN_sat (n : Nat) : (∀ (a0 : Term) (r : Term), toTermN n a0 = some r → Sat Tryz.prog 27 [((Term.pv false) a0)] ((Term.pv true) r)) ∧ (∀ (a0 : List Term) (r : List Term), toTermSN n a0 = some r → Sat Tryz.prog 56 [(.sl false 2 (a0.map (Term.pv false)))] (.sl true 2 (r.map (Term.pv true)))) := by
  induction n with
  | zero => exact ⟨fun _ _ h => by simp [toTermN] at h, fun _ _ h => by simp [toTermSN] at h⟩
  | succ n ih =>
    refine ⟨fun a0 r h => ?_, fun a0 r h => ?_⟩
    · replace h := Run.of h
      rw [toTermN] at h
      refine Sat.of_m (nt := 12) (rs := [.cell 2 34]) (n := 100000) Tryz.func27 rfl rfl rfl rfl (by simp) ?_
      simp -failIfUnchanged only [↓RA, RB, RS, fx27, p1, p2, p3, p4, reduceIte, p5, p6, p7, p8]
      repeat (first | with_reducible refine noR_and (by repeat (first | exact noR_empty _ _ | exact noR_nilS _ _ | refine noR_mk _ _ _ _ _ rfl ?_ | refine noR_mkS _ _ _ _ _ rfl ?_)) ?_ | with_reducible refine noC_and (by repeat (first | exact noC_empty _ _ (by simp -failIfUnchanged only [↓RA, RB, RS, fx27, p1, p2, p3, p4, reduceIte, p5, p6, p7, p8]) | exact noC_nilS _ _ (by simp -failIfUnchanged only [↓RA, RB, RS, fx27, p1, p2, p3, p4, reduceIte, p5, p6, p7, p8]) | refine noC_mk _ _ _ _ _ rfl ?_ | refine noC_mkS _ _ _ _ _ rfl ?_)) ?_ | with_reducible refine and_ac ?_ | with_reducible refine And.intro (a := _ = List.range _) (by rfl) ?_)
      obtain ⟨v9, hv9, h⟩ := run_bind h
      refine CallH.mk [false] (ih.2 _ _ hv9) ?_ ?_ <;> simp -failIfUnchanged only [↓RA, RB, RS, fx27, p1, p2, p3, p4, reduceIte, p5, p6, p7, p8]
      repeat (first | with_reducible refine noR_and (by repeat (first | exact noR_empty _ _ | exact noR_nilS _ _ | refine noR_mk _ _ _ _ _ rfl ?_ | refine noR_mkS _ _ _ _ _ rfl ?_)) ?_ | with_reducible refine noC_and (by repeat (first | exact noC_empty _ _ (by simp -failIfUnchanged only [↓RA, RB, RS, fx27, p1, p2, p3, p4, reduceIte, p5, p6, p7, p8]) | exact noC_nilS _ _ (by simp -failIfUnchanged only [↓RA, RB, RS, fx27, p1, p2, p3, p4, reduceIte, p5, p6, p7, p8]) | refine noC_mk _ _ _ _ _ rfl ?_ | refine noC_mkS _ _ _ _ _ rfl ?_)) ?_ | with_reducible refine and_ac ?_ | with_reducible refine And.intro (a := _ = List.range _) (by rfl) ?_)
      have h := run_some h
      obtain rfl : _ = r := h
      refine FinH.l ?_
      simp -failIfUnchanged only [↓RA, RB, RS, fx27, p1, p2, p3, p4, reduceIte, p5, p6, p7, p8]
    · replace h := Run.of h
      rw [toTermSN] at h
      refine Sat.of_m (nt := 23) (rs := [.tmp 2]) (n := 100000) Tryz.func56 rfl rfl rfl rfl (by simp) ?_
      simp -failIfUnchanged only [↓RA, RB, RS, fx56, p1, p2, p3, p4, reduceIte, p5, p6, p7, p8]
      obtain ⟨n7, hn7, h⟩ := run_bind h
      refine MknH.mk hn7 ?_
      simp -failIfUnchanged only [↓RA, RB, RS, fx56, p1, p2, p3, p4, reduceIte, p5, p6, p7, p8]
      repeat (first | with_reducible refine noR_and (by repeat (first | exact noR_empty _ _ | exact noR_nilS _ _ | refine noR_mk _ _ _ _ _ rfl ?_ | refine noR_mkS _ _ _ _ _ rfl ?_)) ?_ | with_reducible refine noC_and (by repeat (first | exact noC_empty _ _ (by simp -failIfUnchanged only [↓RA, RB, RS, fx56, p1, p2, p3, p4, reduceIte, p5, p6, p7, p8]) | exact noC_nilS _ _ (by simp -failIfUnchanged only [↓RA, RB, RS, fx56, p1, p2, p3, p4, reduceIte, p5, p6, p7, p8]) | refine noC_mk _ _ _ _ _ rfl ?_ | refine noC_mkS _ _ _ _ _ rfl ?_)) ?_ | with_reducible refine and_ac ?_ | with_reducible refine And.intro (a := _ = List.range _) (by rfl) ?_)
      refine Mg.know_sl (b := false) (sz := 2) (es := a0.map (Term.pv false)) 0 (by simp -failIfUnchanged only [↓RA, RB, RS, fx56, p1, p2, p3, p4, reduceIte, p5, p6, p7, p8]) fun hl0 => ?_; rw [List.length_map] at hl0
      replace h := run_loop h
      refine Mg.forN h (fun i3 s3 => [(0, .val (.pv (.sl false 2 (a0.map (Term.pv false))))), (3, .val (.own 112)), (4, .val (.pv (I (i3 : Int))))]) (fun i3 s3 => [(112, (2, s3.map (Term.pv true)))]) (St.le_mk2 (by simp -failIfUnchanged only [↓RA, RB, RS, fx56, p1, p2, p3, p4, reduceIte, p5, p6, p7, p8])) (fun i3 s3 hi h => ?_) (fun s3 h => ?_)
      · have w3 := wrap_succ (i := i3) (by omega)
        simp -failIfUnchanged only [↓RA, RB, RS, fx56, p1, p2, p3, p4, reduceIte, p5, p6, p7, p8]
        refine CondH.tt (decide_eq_true (by omega)) (fun c1 => ?_)
        simp -failIfUnchanged only [↓RA, RB, RS, fx56, p1, p2, p3, p4, reduceIte, p5, p6, p7, p8, c1]
        obtain ⟨v18, hv18, h⟩ := run_bind h
        refine IdxH.mk (f := (Term.pv false)) hv18 ?_ ?_ <;> simp -failIfUnchanged only [↓RA, RB, RS, fx56, p1, p2, p3, p4, reduceIte, p5, p6, p7, p8, c1]
        obtain ⟨v20, hv20, h⟩ := run_bind h
        refine CallH.mk [false] (ih.1 _ _ hv20) ?_ ?_ <;> simp -failIfUnchanged only [↓RA, RB, RS, fx56, p1, p2, p3, p4, reduceIte, p5, p6, p7, p8, c1]
        repeat (first | with_reducible refine noR_and (by repeat (first | exact noR_empty _ _ | exact noR_nilS _ _ | refine noR_mk _ _ _ _ _ rfl ?_ | refine noR_mkS _ _ _ _ _ rfl ?_)) ?_ | with_reducible refine noC_and (by repeat (first | exact noC_empty _ _ (by simp -failIfUnchanged only [↓RA, RB, RS, fx56, p1, p2, p3, p4, reduceIte, p5, p6, p7, p8]) | exact noC_nilS _ _ (by simp -failIfUnchanged only [↓RA, RB, RS, fx56, p1, p2, p3, p4, reduceIte, p5, p6, p7, p8]) | refine noC_mk _ _ _ _ _ rfl ?_ | refine noC_mkS _ _ _ _ _ rfl ?_)) ?_ | with_reducible refine and_ac ?_ | with_reducible refine And.intro (a := _ = List.range _) (by rfl) ?_)
        obtain ⟨v21, hv21, h⟩ := run_bind h
        refine IdxH.mk (f := (Term.pv true)) hv21 ?_ ?_ <;> simp -failIfUnchanged only [↓RA, RB, RS, fx56, p1, p2, p3, p4, reduceIte, p5, p6, p7, p8, c1]
        obtain ⟨w2, hw2, h⟩ := run_bind h
        refine EldH.mk (f := (Term.pv true)) hw2 rfl ?_ ?_ <;> simp -failIfUnchanged only [↓RA, RB, RS, fx56, p1, p2, p3, p4, reduceIte, p5, p6, p7, p8, c1]
        have h := run_some h
        refine RdH.mk ⟨_, h, ?_⟩
        refine St.le_mk2 ?_
        simp -failIfUnchanged only [↓RA, RB, RS, fx56, p1, p2, p3, p4, reduceIte, p5, p6, p7, p8, c1, w3]
      · simp -failIfUnchanged only [↓RA, RB, RS, fx56, p1, p2, p3, p4, reduceIte, p5, p6, p7, p8]
        refine CondH.ff (decide_eq_false (by omega)) (fun c3 => ?_)
        simp -failIfUnchanged only [↓RA, RB, RS, fx56, p1, p2, p3, p4, reduceIte, p5, p6, p7, p8, c3]
        have h := run_some h
        obtain rfl : _ = r := h
        refine FinH.l ?_
        simp -failIfUnchanged only [↓RA, RB, RS, fx56, p1, p2, p3, p4, reduceIte, p5, p6, p7, p8, c3]
theorem toTerm_sat {a0 : Term} {r : Term} (h : toTerm a0 = some r) : Sat Tryz.prog 27 [((Term.pv false) a0)] ((Term.pv true) r) := by
  obtain ⟨n, hn⟩ := lim_some h
  exact (toTermN_sat n).1 _ _ hn
theorem toTermS_sat {a0 : List Term} {r : List Term} (h : toTermS a0 = some r) : Sat Tryz.prog 56 [(.sl false 2 (a0.map (Term.pv false)))] (.sl true 2 (r.map (Term.pv true))) := by
  obtain ⟨n, hn⟩ := lim_some h
  exact (toTermN_sat n).2 _ _ hn

def fx8 := And.intro @ty_3 <| And.intro @zc_3 <| And.intro @z_3 <| And.intro @ty_9 <| And.intro @zc_9 <| And.intro @z_9 <| And.intro @u_9 <| And.intro @ty_24 <| And.intro @zc_24 <| And.intro @z_24 <| And.intro @fo_24_0 <| And.intro @fi_24_0 <| And.intro @ft_24_0 <| And.intro @fo_24_1 <| And.intro @fi_24_1 <| And.intro @ft_24_1 <| And.intro @lay_24 <| And.intro @ty_25 <| And.intro @zc_25 <| And.intro @z_25 <| And.intro @es_25 <| And.intro @eb_25 <| And.intro @sl_25 <| And.intro @is_25 <| And.intro @el_25 <| And.intro @ze_25 <| And.intro @ez_25 <| And.intro @ty_27 <| And.intro @zc_27 <| And.intro @z_27 <| And.intro @fo_27_0 <| And.intro @fi_27_0 <| And.intro @ft_27_0 <| And.intro @fo_27_1 <| And.intro @fi_27_1 <| And.intro @ft_27_1 <| And.intro @fo_27_2 <| And.intro @fi_27_2 <| And.intro @ft_27_2 <| And.intro @fo_27_3 <| And.intro @fi_27_3 <| And.intro @ft_27_3 <| And.intro @lay_27 <| And.intro @ty_34 <| And.intro @zc_34 <| And.intro @z_34 <| And.intro @fo_34_0 <| And.intro @fi_34_0 <| And.intro @ft_34_0 <| And.intro @fo_34_1 <| And.intro @fi_34_1 <| And.intro @ft_34_1 <| And.intro @lay_34 <| And.intro @ty_35 <| And.intro @zc_35 <| And.intro @z_35 <| And.intro @es_35 <| And.intro @eb_35 <| And.intro @sl_35 <| And.intro @is_35 <| And.intro @el_35 <| And.intro @ze_35 <| And.intro @ez_35 <| And.intro @ty_37 <| And.intro @zc_37 <| And.intro @z_37 <| And.intro @fo_37_0 <| And.intro @fi_37_0 <| And.intro @ft_37_0 <| And.intro @fo_37_1 <| And.intro @fi_37_1 <| And.intro @ft_37_1 <| And.intro @fo_37_2 <| And.intro @fi_37_2 <| And.intro @ft_37_2 <| And.intro @fo_37_3 <| And.intro @fi_37_3 <| And.intro @ft_37_3 <| @lay_37
def fx28 := And.intro @ty_3 <| And.intro @zc_3 <| And.intro @z_3 <| And.intro @ty_25 <| And.intro @zc_25 <| And.intro @z_25 <| And.intro @es_25 <| And.intro @eb_25 <| And.intro @sl_25 <| And.intro @is_25 <| And.intro @el_25 <| And.intro @ze_25 <| And.intro @ez_25 <| And.intro @ty_27 <| And.intro @zc_27 <| And.intro @z_27 <| And.intro @fo_27_0 <| And.intro @fi_27_0 <| And.intro @ft_27_0 <| And.intro @fo_27_1 <| And.intro @fi_27_1 <| And.intro @ft_27_1 <| And.intro @fo_27_2 <| And.intro @fi_27_2 <| And.intro @ft_27_2 <| And.intro @fo_27_3 <| And.intro @fi_27_3 <| And.intro @ft_27_3 <| And.intro @lay_27 <| And.intro @ty_35 <| And.intro @zc_35 <| And.intro @z_35 <| And.intro @es_35 <| And.intro @eb_35 <| And.intro @sl_35 <| And.intro @is_35 <| And.intro @el_35 <| And.intro @ze_35 <| And.intro @ez_35 <| And.intro @ty_37 <| And.intro @zc_37 <| And.intro @z_37 <| And.intro @fo_37_0 <| And.intro @fi_37_0 <| And.intro @ft_37_0 <| And.intro @fo_37_1 <| And.intro @fi_37_1 <| And.intro @ft_37_1 <| And.intro @fo_37_2 <| And.intro @fi_37_2 <| And.intro @ft_37_2 <| And.intro @fo_37_3 <| And.intro @fi_37_3 <| And.intro @ft_37_3 <| @lay_37
set_option maxHeartbeats 4000000 in
theorem toFormulaN_sat (n : Nat) : (∀ (a0 : Formula) (r : Formula), toFormulaN n a0 = some r → Sat Tryz.prog 8 [((Formula.pv false) a0)] ((Formula.pv true) r)) ∧ (∀ (a0 : List Formula) (r : List Formula), toFormulaSN n a0 = some r → Sat Tryz.prog 28 [(.sl false 5 (a0.map (Formula.pv false)))] (.sl true 5 (r.map (Formula.pv true)))) := by
  induction n with
  | zero => exact ⟨fun _ _ h => by simp [toFormulaN] at h, fun _ _ h => by simp [toFormulaSN] at h⟩
  | succ n ih =>
    refine ⟨fun a0 r h => ?_, fun a0 r h => ?_⟩
    · replace h := Run.of h
      rw [toFormulaN] at h
      refine Sat.of_m (nt := 19) (rs := [.cell 2 37]) (n := 100000) Tryz.func8 rfl rfl rfl rfl (by simp) ?_
      simp -failIfUnchanged only [↓RA, RB, RS, fx8, p1, p2, p3, p4, reduceIte, p5, p6, p7, p8]
      repeat (first | with_reducible refine noR_and (by repeat (first | exact noR_empty _ _ | exact noR_nilS _ _ | refine noR_mk _ _ _ _ _ rfl ?_ | refine noR_mkS _ _ _ _ _ rfl ?_)) ?_ | with_reducible refine noC_and (by repeat (first | exact noC_empty _ _ (by simp -failIfUnchanged only [↓RA, RB, RS, fx8, p1, p2, p3, p4, reduceIte, p5, p6, p7, p8]) | exact noC_nilS _ _ (by simp -failIfUnchanged only [↓RA, RB, RS, fx8, p1, p2, p3, p4, reduceIte, p5, p6, p7, p8]) | refine noC_mk _ _ _ _ _ rfl ?_ | refine noC_mkS _ _ _ _ _ rfl ?_)) ?_ | with_reducible refine and_ac ?_ | with_reducible refine And.intro (a := _ = List.range _) (by rfl) ?_)
      obtain ⟨v9, hv9, h⟩ := run_bind h
      refine CallH.mk [false] (toTerm_sat hv9) ?_ ?_ <;> simp -failIfUnchanged only [↓RA, RB, RS, fx8, p1, p2, p3, p4, reduceIte, p5, p6, p7, p8]
      repeat (first | with_reducible refine noR_and (by repeat (first | exact noR_empty _ _ | exact noR_nilS _ _ | refine noR_mk _ _ _ _ _ rfl ?_ | refine noR_mkS _ _ _ _ _ rfl ?_)) ?_ | with_reducible refine noC_and (by repeat (first | exact noC_empty _ _ (by simp -failIfUnchanged only [↓RA, RB, RS, fx8, p1, p2, p3, p4, reduceIte, p5, p6, p7, p8]) | exact noC_nilS _ _ (by simp -failIfUnchanged only [↓RA, RB, RS, fx8, p1, p2, p3, p4, reduceIte, p5, p6, p7, p8]) | refine noC_mk _ _ _ _ _ rfl ?_ | refine noC_mkS _ _ _ _ _ rfl ?_)) ?_ | with_reducible refine and_ac ?_ | with_reducible refine And.intro (a := _ = List.range _) (by rfl) ?_)
      obtain ⟨v16, hv16, h⟩ := run_bind h
      refine CallH.mk [false] (ih.2 _ _ hv16) ?_ ?_ <;> simp -failIfUnchanged only [↓RA, RB, RS, fx8, p1, p2, p3, p4, reduceIte, p5, p6, p7, p8]
      repeat (first | with_reducible refine noR_and (by repeat (first | exact noR_empty _ _ | exact noR_nilS _ _ | refine noR_mk _ _ _ _ _ rfl ?_ | refine noR_mkS _ _ _ _ _ rfl ?_)) ?_ | with_reducible refine noC_and (by repeat (first | exact noC_empty _ _ (by simp -failIfUnchanged only [↓RA, RB, RS, fx8, p1, p2, p3, p4, reduceIte, p5, p6, p7, p8]) | exact noC_nilS _ _ (by simp -failIfUnchanged only [↓RA, RB, RS, fx8, p1, p2, p3, p4, reduceIte, p5, p6, p7, p8]) | refine noC_mk _ _ _ _ _ rfl ?_ | refine noC_mkS _ _ _ _ _ rfl ?_)) ?_ | with_reducible refine and_ac ?_ | with_reducible refine And.intro (a := _ = List.range _) (by rfl) ?_)
      have h := run_some h
      obtain rfl : _ = r := h
      refine FinH.l ?_
      simp -failIfUnchanged only [↓RA, RB, RS, fx8, p1, p2, p3, p4, reduceIte, p5, p6, p7, p8]
    · replace h := Run.of h
      rw [toFormulaSN] at h
      refine Sat.of_m (nt := 23) (rs := [.tmp 2]) (n := 100000) Tryz.func28 rfl rfl rfl rfl (by simp) ?_
      simp -failIfUnchanged only [↓RA, RB, RS, fx28, p1, p2, p3, p4, reduceIte, p5, p6, p7, p8]
      obtain ⟨n7, hn7, h⟩ := run_bind h
      refine MknH.mk hn7 ?_
      simp -failIfUnchanged only [↓RA, RB, RS, fx28, p1, p2, p3, p4, reduceIte, p5, p6, p7, p8]
      repeat (first | with_reducible refine noR_and (by repeat (first | exact noR_empty _ _ | exact noR_nilS _ _ | refine noR_mk _ _ _ _ _ rfl ?_ | refine noR_mkS _ _ _ _ _ rfl ?_)) ?_ | with_reducible refine noC_and (by repeat (first | exact noC_empty _ _ (by simp -failIfUnchanged only [↓RA, RB, RS, fx28, p1, p2, p3, p4, reduceIte, p5, p6, p7, p8]) | exact noC_nilS _ _ (by simp -failIfUnchanged only [↓RA, RB, RS, fx28, p1, p2, p3, p4, reduceIte, p5, p6, p7, p8]) | refine noC_mk _ _ _ _ _ rfl ?_ | refine noC_mkS _ _ _ _ _ rfl ?_)) ?_ | with_reducible refine and_ac ?_ | with_reducible refine And.intro (a := _ = List.range _) (by rfl) ?_)
      refine Mg.know_sl (b := false) (sz := 5) (es := a0.map (Formula.pv false)) 0 (by simp -failIfUnchanged only [↓RA, RB, RS, fx28, p1, p2, p3, p4, reduceIte, p5, p6, p7, p8]) fun hl0 => ?_; rw [List.length_map] at hl0
      replace h := run_loop h
      refine Mg.forN h (fun i3 s3 => [(0, .val (.pv (.sl false 5 (a0.map (Formula.pv false))))), (3, .val (.own 112)), (4, .val (.pv (I (i3 : Int))))]) (fun i3 s3 => [(112, (5, s3.map (Formula.pv true)))]) (St.le_mk2 (by simp -failIfUnchanged only [↓RA, RB, RS, fx28, p1, p2, p3, p4, reduceIte, p5, p6, p7, p8])) (fun i3 s3 hi h => ?_) (fun s3 h => ?_)
      · have w3 := wrap_succ (i := i3) (by omega)
        simp -failIfUnchanged only [↓RA, RB, RS, fx28, p1, p2, p3, p4, reduceIte, p5, p6, p7, p8]
        refine CondH.tt (decide_eq_true (by omega)) (fun c1 => ?_)
        simp -failIfUnchanged only [↓RA, RB, RS, fx28, p1, p2, p3, p4, reduceIte, p5, p6, p7, p8, c1]
        obtain ⟨v18, hv18, h⟩ := run_bind h
        refine IdxH.mk (f := (Formula.pv false)) hv18 ?_ ?_ <;> simp -failIfUnchanged only [↓RA, RB, RS, fx28, p1, p2, p3, p4, reduceIte, p5, p6, p7, p8, c1]
        obtain ⟨v20, hv20, h⟩ := run_bind h
        refine CallH.mk [false] (ih.1 _ _ hv20) ?_ ?_ <;> simp -failIfUnchanged only [↓RA, RB, RS, fx28, p1, p2, p3, p4, reduceIte, p5, p6, p7, p8, c1]
        repeat (first | with_reducible refine noR_and (by repeat (first | exact noR_empty _ _ | exact noR_nilS _ _ | refine noR_mk _ _ _ _ _ rfl ?_ | refine noR_mkS _ _ _ _ _ rfl ?_)) ?_ | with_reducible refine noC_and (by repeat (first | exact noC_empty _ _ (by simp -failIfUnchanged only [↓RA, RB, RS, fx28, p1, p2, p3, p4, reduceIte, p5, p6, p7, p8]) | exact noC_nilS _ _ (by simp -failIfUnchanged only [↓RA, RB, RS, fx28, p1, p2, p3, p4, reduceIte, p5, p6, p7, p8]) | refine noC_mk _ _ _ _ _ rfl ?_ | refine noC_mkS _ _ _ _ _ rfl ?_)) ?_ | with_reducible refine and_ac ?_ | with_reducible refine And.intro (a := _ = List.range _) (by rfl) ?_)
        obtain ⟨v21, hv21, h⟩ := run_bind h
        refine IdxH.mk (f := (Formula.pv true)) hv21 ?_ ?_ <;> simp -failIfUnchanged only [↓RA, RB, RS, fx28, p1, p2, p3, p4, reduceIte, p5, p6, p7, p8, c1]
        obtain ⟨w2, hw2, h⟩ := run_bind h
        refine EldH.mk (f := (Formula.pv true)) hw2 rfl ?_ ?_ <;> simp -failIfUnchanged only [↓RA, RB, RS, fx28, p1, p2, p3, p4, reduceIte, p5, p6, p7, p8, c1]
        have h := run_some h
        refine RdH.mk ⟨_, h, ?_⟩
        refine St.le_mk2 ?_
        simp -failIfUnchanged only [↓RA, RB, RS, fx28, p1, p2, p3, p4, reduceIte, p5, p6, p7, p8, c1, w3]
      · simp -failIfUnchanged only [↓RA, RB, RS, fx28, p1, p2, p3, p4, reduceIte, p5, p6, p7, p8]
        refine CondH.ff (decide_eq_false (by omega)) (fun c3 => ?_)
        simp -failIfUnchanged only [↓RA, RB, RS, fx28, p1, p2, p3, p4, reduceIte, p5, p6, p7, p8, c3]
        have h := run_some h
        obtain rfl : _ = r := h
        refine FinH.l ?_
        simp -failIfUnchanged only [↓RA, RB, RS, fx28, p1, p2, p3, p4, reduceIte, p5, p6, p7, p8, c3]
theorem toFormula_sat {a0 : Formula} {r : Formula} (h : toFormula a0 = some r) : Sat Tryz.prog 8 [((Formula.pv false) a0)] ((Formula.pv true) r) := by
  obtain ⟨n, hn⟩ := lim_some h
  exact (toFormulaN_sat n).1 _ _ hn
theorem toFormulaS_sat {a0 : List Formula} {r : List Formula} (h : toFormulaS a0 = some r) : Sat Tryz.prog 28 [(.sl false 5 (a0.map (Formula.pv false)))] (.sl true 5 (r.map (Formula.pv true))) := by
  obtain ⟨n, hn⟩ := lim_some h
  exact (toFormulaN_sat n).2 _ _ hn

def fx77 := And.intro @ty_3 <| And.intro @zc_3 <| And.intro @z_3 <| And.intro @ty_35 <| And.intro @zc_35 <| And.intro @z_35 <| And.intro @es_35 <| And.intro @eb_35 <| And.intro @sl_35 <| And.intro @is_35 <| And.intro @el_35 <| And.intro @ze_35 <| And.intro @ez_35 <| And.intro @ty_37 <| And.intro @zc_37 <| And.intro @z_37 <| And.intro @fo_37_0 <| And.intro @fi_37_0 <| And.intro @ft_37_0 <| And.intro @fo_37_1 <| And.intro @fi_37_1 <| And.intro @ft_37_1 <| And.intro @fo_37_2 <| And.intro @fi_37_2 <| And.intro @ft_37_2 <| And.intro @fo_37_3 <| And.intro @fi_37_3 <| And.intro @ft_37_3 <| @lay_37
set_option maxHeartbeats 4000000 in
theorem spec_l8ManyN_sat (n : Nat) : (∀ (a0 : Formula) (a1 : Int) (r : Int), spec_l8ManyN n a0 a1 = some r → Sat Tryz.prog 77 [((Formula.pv false) a0), (I a1)] (I r)) := by
  induction n with
  | zero => exact fun _ _ _ h => by simp [spec_l8ManyN] at h
  | succ n ih =>
    refine fun a0 a1 r h => ?_
    replace h := Run.of h
    rw [spec_l8ManyN] at h
    refine Sat.of_m (nt := 31) (rs := [.tmp 4]) (n := 100000) Tryz.func77 rfl rfl rfl rfl (by simp) ?_
    simp -failIfUnchanged only [↓RA, RB, RS, fx77, p1, p2, p3, p4, reduceIte, p5, p6, p7, p8]
    repeat (first | with_reducible refine noR_and (by repeat (first | exact noR_empty _ _ | exact noR_nilS _ _ | refine noR_mk _ _ _ _ _ rfl ?_ | refine noR_mkS _ _ _ _ _ rfl ?_)) ?_ | with_reducible refine noC_and (by repeat (first | exact noC_empty _ _ (by simp -failIfUnchanged only [↓RA, RB, RS, fx77, p1, p2, p3, p4, reduceIte, p5, p6, p7, p8]) | exact noC_nilS _ _ (by simp -failIfUnchanged only [↓RA, RB, RS, fx77, p1, p2, p3, p4, reduceIte, p5, p6, p7, p8]) | refine noC_mk _ _ _ _ _ rfl ?_ | refine noC_mkS _ _ _ _ _ rfl ?_)) ?_ | with_reducible refine and_ac ?_ | with_reducible refine And.intro (a := _ = List.range _) (by rfl) ?_)
    refine Mg.know_val2 (b := false) (sz := 5) (es := a0.Parts.map (Formula.pv false)) (x := (.pv ((Formula.pv false) a0))) 0 [3] (by simp -failIfUnchanged only [↓RA, RB, RS, fx77, p1, p2, p3, p4, reduceIte, p5, p6, p7, p8]) fun hl0 => ?_; rw [List.length_map] at hl0
    replace h := run_loop h
    refine Mg.forN h (fun i3 s3 => [(1, .val (.pv (I a1))), (2, .box (.pv ((Formula.pv false) a0))), (5, .val (.pv (I s3))), (6, .val (.pv (I (i3 : Int))))]) (fun i3 s3 => []) (St.le_mk2 (by simp -failIfUnchanged only [↓RA, RB, RS, fx77, p1, p2, p3, p4, reduceIte, p5, p6, p7, p8])) (fun i3 s3 hi h => ?_) (fun s3 h => ?_)
    · have w3 := wrap_succ (i := i3) (by omega)
      simp -failIfUnchanged only [↓RA, RB, RS, fx77, p1, p2, p3, p4, reduceIte, p5, p6, p7, p8]
      refine CondH.tt (decide_eq_true (by omega)) (fun c1 => ?_)
      simp -failIfUnchanged only [↓RA, RB, RS, fx77, p1, p2, p3, p4, reduceIte, p5, p6, p7, p8, c1]
      refine CondH.mk (fun c2 => ?_) (fun c2 => ?_)
      · replace h := run_t c2 h
        simp -failIfUnchanged only [↓RA, RB, RS, fx77, p1, p2, p3, p4, reduceIte, p5, p6, p7, p8, c1, c2]
        obtain ⟨v23, hv23, h⟩ := run_bind h
        refine IdxH.mk (f := (Formula.pv false)) hv23 ?_ ?_ <;> simp -failIfUnchanged only [↓RA, RB, RS, fx77, p1, p2, p3, p4, reduceIte, p5, p6, p7, p8, c1, c2]
        obtain ⟨v28, hv28, h⟩ := run_bind h
        refine CallH.mk [false, false] (ih _ _ _ hv28) ?_ ?_ <;> simp -failIfUnchanged only [↓RA, RB, RS, fx77, p1, p2, p3, p4, reduceIte, p5, p6, p7, p8, c1, c2]
        have h := run_some h
        refine RdH.mk ⟨_, h, ?_⟩
        refine St.le_mk2 ?_
        simp -failIfUnchanged only [↓RA, RB, RS, fx77, p1, p2, p3, p4, reduceIte, p5, p6, p7, p8, c1, c2, w3]
      · replace h := run_f c2 h
        simp -failIfUnchanged only [↓RA, RB, RS, fx77, p1, p2, p3, p4, reduceIte, p5, p6, p7, p8, c1, c2]
        have h := run_some h
        obtain rfl : _ = r := h
        refine FinH.l ?_
        simp -failIfUnchanged only [↓RA, RB, RS, fx77, p1, p2, p3, p4, reduceIte, p5, p6, p7, p8, c1, c2]
    · simp -failIfUnchanged only [↓RA, RB, RS, fx77, p1, p2, p3, p4, reduceIte, p5, p6, p7, p8]
      refine CondH.ff (decide_eq_false (by omega)) (fun c3 => ?_)
      simp -failIfUnchanged only [↓RA, RB, RS, fx77, p1, p2, p3, p4, reduceIte, p5, p6, p7, p8, c3]
      have h := run_some h
      obtain rfl : _ = r := h
      refine FinH.l ?_
      simp -failIfUnchanged only [↓RA, RB, RS, fx77, p1, p2, p3, p4, reduceIte, p5, p6, p7, p8, c3]
theorem spec_l8Many_sat {a0 : Formula} {a1 : Int} {r : Int} (h : spec_l8Many a0 a1 = some r) : Sat Tryz.prog 77 [((Formula.pv false) a0), (I a1)] (I r) := by
  obtain ⟨n, hn⟩ := lim_some h
  exact (spec_l8ManyN_sat n) _ _ _ hn

def fx106 := And.intro @ty_3 <| And.intro @zc_3 <| And.intro @z_3 <| And.intro @ty_9 <| And.intro @zc_9 <| And.intro @z_9 <| And.intro @u_9 <| And.intro @ty_32 <| And.intro @zc_32 <| And.intro @z_32 <| And.intro @es_32 <| And.intro @eb_32 <| And.intro @sl_32 <| And.intro @is_32 <| And.intro @el_32 <| And.intro @ze_32 <| And.intro @ez_32 <| And.intro @ty_34 <| And.intro @zc_34 <| And.intro @z_34 <| And.intro @fo_34_0 <| And.intro @fi_34_0 <| And.intro @ft_34_0 <| And.intro @fo_34_1 <| And.intro @fi_34_1 <| And.intro @ft_34_1 <| @lay_34
set_option maxHeartbeats 4000000 in
theorem spec_l8None_sat {a0 : Term}  {r : Bool} (h : spec_l8None a0 = some r) : Sat Tryz.prog 106 [((Term.pv false) a0)] (B r) := by
  replace h := Run.of h
  unfold spec_l8None at h
  refine Sat.of_m (nt := 12) (rs := [.tmp 2]) (n := 100000) Tryz.func106 rfl rfl rfl rfl (by simp) ?_
  simp -failIfUnchanged only [↓RA, RB, RS, fx106, p1, p2, p3, p4, reduceIte, p5, p6, p7, p8]
  repeat (first | with_reducible refine noR_and (by repeat (first | exact noR_empty _ _ | exact noR_nilS _ _ | refine noR_mk _ _ _ _ _ rfl ?_ | refine noR_mkS _ _ _ _ _ rfl ?_)) ?_ | with_reducible refine noC_and (by repeat (first | exact noC_empty _ _ (by simp -failIfUnchanged only [↓RA, RB, RS, fx106, p1, p2, p3, p4, reduceIte, p5, p6, p7, p8]) | exact noC_nilS _ _ (by simp -failIfUnchanged only [↓RA, RB, RS, fx106, p1, p2, p3, p4, reduceIte, p5, p6, p7, p8]) | refine noC_mk _ _ _ _ _ rfl ?_ | refine noC_mkS _ _ _ _ _ rfl ?_)) ?_ | with_reducible refine and_ac ?_ | with_reducible refine And.intro (a := _ = List.range _) (by rfl) ?_)
  refine CondH.mk (fun c1 => ?_) (fun c1 => ?_)
  · replace h := run_t c1 h
    simp -failIfUnchanged only [↓RA, RB, RS, fx106, p1, p2, p3, p4, reduceIte, p5, p6, p7, p8, c1]
    have h := run_some h
    obtain rfl : _ = r := h
    refine FinH.l ?_
    simp -failIfUnchanged only [↓RA, RB, RS, fx106, p1, p2, p3, p4, reduceIte, p5, p6, p7, p8, c1]
  · replace h := run_f c1 h
    simp -failIfUnchanged only [↓RA, RB, RS, fx106, p1, p2, p3, p4, reduceIte, p5, p6, p7, p8, c1]
    have h := run_some h
    obtain rfl : _ = r := h
    refine FinH.l ?_
    simp -failIfUnchanged only [↓RA, RB, RS, fx106, p1, p2, p3, p4, reduceIte, p5, p6, p7, p8, c1]

def fx134 := And.intro @ty_3 <| And.intro @zc_3 <| And.intro @z_3 <| And.intro @ty_32 <| And.intro @zc_32 <| And.intro @z_32 <| And.intro @es_32 <| And.intro @eb_32 <| And.intro @sl_32 <| And.intro @is_32 <| And.intro @el_32 <| And.intro @ze_32 <| And.intro @ez_32 <| And.intro @ty_34 <| And.intro @zc_34 <| And.intro @z_34 <| And.intro @fo_34_0 <| And.intro @fi_34_0 <| And.intro @ft_34_0 <| And.intro @fo_34_1 <| And.intro @fi_34_1 <| And.intro @ft_34_1 <| @lay_34
set_option maxHeartbeats 4000000 in
theorem spec_l2ManyN_sat (n : Nat) : (∀ (a0 : Term) (a1 : Int) (r : Int), spec_l2ManyN n a0 a1 = some r → Sat Tryz.prog 134 [((Term.pv false) a0), (I a1)] (I r)) := by
  induction n with
  | zero => exact fun _ _ _ h => by simp [spec_l2ManyN] at h
  | succ n ih =>
    refine fun a0 a1 r h => ?_
    replace h := Run.of h
    rw [spec_l2ManyN] at h
    refine Sat.of_m (nt := 31) (rs := [.tmp 4]) (n := 100000) Tryz.func134 rfl rfl rfl rfl (by simp) ?_
    simp -failIfUnchanged only [↓RA, RB, RS, fx134, p1, p2, p3, p4, reduceIte, p5, p6, p7, p8]
    repeat (first | with_reducible refine noR_and (by repeat (first | exact noR_empty _ _ | exact noR_nilS _ _ | refine noR_mk _ _ _ _ _ rfl ?_ | refine noR_mkS _ _ _ _ _ rfl ?_)) ?_ | with_reducible refine noC_and (by repeat (first | exact noC_empty _ _ (by simp -failIfUnchanged only [↓RA, RB, RS, fx134, p1, p2, p3, p4, reduceIte, p5, p6, p7, p8]) | exact noC_nilS _ _ (by simp -failIfUnchanged only [↓RA, RB, RS, fx134, p1, p2, p3, p4, reduceIte, p5, p6, p7, p8]) | refine noC_mk _ _ _ _ _ rfl ?_ | refine noC_mkS _ _ _ _ _ rfl ?_)) ?_ | with_reducible refine and_ac ?_ | with_reducible refine And.intro (a := _ = List.range _) (by rfl) ?_)
    refine Mg.know_val2 (b := false) (sz := 2) (es := a0.Args.map (Term.pv false)) (x := (.pv ((Term.pv false) a0))) 0 [1] (by simp -failIfUnchanged only [↓RA, RB, RS, fx134, p1, p2, p3, p4, reduceIte, p5, p6, p7, p8]) fun hl0 => ?_; rw [List.length_map] at hl0
    replace h := run_loop h
    refine Mg.forN h (fun i3 s3 => [(1, .val (.pv (I a1))), (2, .box (.pv ((Term.pv false) a0))), (5, .val (.pv (I s3))), (6, .val (.pv (I (i3 : Int))))]) (fun i3 s3 => []) (St.le_mk2 (by simp -failIfUnchanged only [↓RA, RB, RS, fx134, p1, p2, p3, p4, reduceIte, p5, p6, p7, p8])) (fun i3 s3 hi h => ?_) (fun s3 h => ?_)
    · have w3 := wrap_succ (i := i3) (by omega)
      simp -failIfUnchanged only [↓RA, RB, RS, fx134, p1, p2, p3, p4, reduceIte, p5, p6, p7, p8]
      refine CondH.tt (decide_eq_true (by omega)) (fun c1 => ?_)
      simp -failIfUnchanged only [↓RA, RB, RS, fx134, p1, p2, p3, p4, reduceIte, p5, p6, p7, p8, c1]
      refine CondH.mk (fun c2 => ?_) (fun c2 => ?_)
      · replace h := run_t c2 h
        simp -failIfUnchanged only [↓RA, RB, RS, fx134, p1, p2, p3, p4, reduceIte, p5, p6, p7, p8, c1, c2]
        obtain ⟨v23, hv23, h⟩ := run_bind h
        refine IdxH.mk (f := (Term.pv false)) hv23 ?_ ?_ <;> simp -failIfUnchanged only [↓RA, RB, RS, fx134, p1, p2, p3, p4, reduceIte, p5, p6, p7, p8, c1, c2]
        obtain ⟨v28, hv28, h⟩ := run_bind h
        refine CallH.mk [false, false] (ih _ _ _ hv28) ?_ ?_ <;> simp -failIfUnchanged only [↓RA, RB, RS, fx134, p1, p2, p3, p4, reduceIte, p5, p6, p7, p8, c1, c2]
        have h := run_some h
        refine RdH.mk ⟨_, h, ?_⟩
        refine St.le_mk2 ?_
        simp -failIfUnchanged only [↓RA, RB, RS, fx134, p1, p2, p3, p4, reduceIte, p5, p6, p7, p8, c1, c2, w3]
      · replace h := run_f c2 h
        simp -failIfUnchanged only [↓RA, RB, RS, fx134, p1, p2, p3, p4, reduceIte, p5, p6, p7, p8, c1, c2]
        have h := run_some h
        obtain rfl : _ = r := h
        refine FinH.l ?_
        simp -failIfUnchanged only [↓RA, RB, RS, fx134, p1, p2, p3, p4, reduceIte, p5, p6, p7, p8, c1, c2]
    · simp -failIfUnchanged only [↓RA, RB, RS, fx134, p1, p2, p3, p4, reduceIte, p5, p6, p7, p8]
      refine CondH.ff (decide_eq_false (by omega)) (fun c3 => ?_)
      simp -failIfUnchanged only [↓RA, RB, RS, fx134, p1, p2, p3, p4, reduceIte, p5, p6, p7, p8, c3]
      have h := run_some h
      obtain rfl : _ = r := h
      refine FinH.l ?_
      simp -failIfUnchanged only [↓RA, RB, RS, fx134, p1, p2, p3, p4, reduceIte, p5, p6, p7, p8, c3]
theorem spec_l2Many_sat {a0 : Term} {a1 : Int} {r : Int} (h : spec_l2Many a0 a1 = some r) : Sat Tryz.prog 134 [((Term.pv false) a0), (I a1)] (I r) := by
  obtain ⟨n, hn⟩ := lim_some h
  exact (spec_l2ManyN_sat n) _ _ _ hn

def fx70 := And.intro @ty_3 <| And.intro @zc_3 <| @z_3
set_option maxHeartbeats 4000000 in
theorem spec_l1Most_sat {a0 : Int} {a1 : Int}  {r : Int} (h : spec_l1Most a0 a1 = some r) : Sat Tryz.prog 70 [(I a0), (I a1)] (I r) := by
  replace h := Run.of h
  unfold spec_l1Most at h
  refine Sat.of_m (nt := 10) (rs := [.tmp 4]) (n := 100000) Tryz.func70 rfl rfl rfl rfl (by simp) ?_
  simp -failIfUnchanged only [↓RA, RB, RS, fx70, p1, p2, p3, p4, reduceIte, p5, p6, p7, p8]
  refine CondH.mk (fun c1 => ?_) (fun c1 => ?_)
  · replace h := run_t c1 h
    simp -failIfUnchanged only [↓RA, RB, RS, fx70, p1, p2, p3, p4, reduceIte, p5, p6, p7, p8, c1]
    have h := run_some h
    obtain rfl : _ = r := h
    refine FinH.l ?_
    simp -failIfUnchanged only [↓RA, RB, RS, fx70, p1, p2, p3, p4, reduceIte, p5, p6, p7, p8, c1]
  · replace h := run_f c1 h
    simp -failIfUnchanged only [↓RA, RB, RS, fx70, p1, p2, p3, p4, reduceIte, p5, p6, p7, p8, c1]
    have h := run_some h
    obtain rfl : _ = r := h
    refine FinH.l ?_
    simp -failIfUnchanged only [↓RA, RB, RS, fx70, p1, p2, p3, p4, reduceIte, p5, p6, p7, p8, c1]

def fx135 := And.intro @ty_3 <| And.intro @zc_3 <| And.intro @z_3 <| And.intro @ty_32 <| And.intro @zc_32 <| And.intro @z_32 <| And.intro @es_32 <| And.intro @eb_32 <| And.intro @sl_32 <| And.intro @is_32 <| And.intro @el_32 <| And.intro @ze_32 <| And.intro @ez_32 <| And.intro @ty_34 <| And.intro @zc_34 <| And.intro @z_34 <| And.intro @fo_34_0 <| And.intro @fi_34_0 <| And.intro @ft_34_0 <| And.intro @fo_34_1 <| And.intro @fi_34_1 <| And.intro @ft_34_1 <| @lay_34
set_option maxHeartbeats 4000000 in
theorem spec_l2DepthN_sat (n : Nat) : (∀ (a0 : Term) (r : Int), spec_l2DepthN n a0 = some r → Sat Tryz.prog 135 [((Term.pv false) a0)] (I r)) := by
  induction n with
  | zero => exact fun _ _ h => by simp [spec_l2DepthN] at h
  | succ n ih =>
    refine fun a0 r h => ?_
    replace h := Run.of h
    rw [spec_l2DepthN] at h
    refine Sat.of_m (nt := 22) (rs := [.tmp 2]) (n := 100000) Tryz.func135 rfl rfl rfl rfl (by simp) ?_
    simp -failIfUnchanged only [↓RA, RB, RS, fx135, p1, p2, p3, p4, reduceIte, p5, p6, p7, p8]
    repeat (first | with_reducible refine noR_and (by repeat (first | exact noR_empty _ _ | exact noR_nilS _ _ | refine noR_mk _ _ _ _ _ rfl ?_ | refine noR_mkS _ _ _ _ _ rfl ?_)) ?_ | with_reducible refine noC_and (by repeat (first | exact noC_empty _ _ (by simp -failIfUnchanged only [↓RA, RB, RS, fx135, p1, p2, p3, p4, reduceIte, p5, p6, p7, p8]) | exact noC_nilS _ _ (by simp -failIfUnchanged only [↓RA, RB, RS, fx135, p1, p2, p3, p4, reduceIte, p5, p6, p7, p8]) | refine noC_mk _ _ _ _ _ rfl ?_ | refine noC_mkS _ _ _ _ _ rfl ?_)) ?_ | with_reducible refine and_ac ?_ | with_reducible refine And.intro (a := _ = List.range _) (by rfl) ?_)
    refine Mg.know_val2 (b := false) (sz := 2) (es := a0.Args.map (Term.pv false)) (x := (.pv ((Term.pv false) a0))) 0 [1] (by simp -failIfUnchanged only [↓RA, RB, RS, fx135, p1, p2, p3, p4, reduceIte, p5, p6, p7, p8]) fun hl0 => ?_; rw [List.length_map] at hl0
    replace h := run_loop h
    refine Mg.forN h (fun i3 s3 => [(1, .box (.pv ((Term.pv false) a0))), (3, .val (.pv (I s3))), (4, .val (.pv (I (i3 : Int))))]) (fun i3 s3 => []) (St.le_mk2 (by simp -failIfUnchanged only [↓RA, RB, RS, fx135, p1, p2, p3, p4, reduceIte, p5, p6, p7, p8])) (fun i3 s3 hi h => ?_) (fun s3 h => ?_)
    · have w3 := wrap_succ (i := i3) (by omega)
      simp -failIfUnchanged only [↓RA, RB, RS, fx135, p1, p2, p3, p4, reduceIte, p5, p6, p7, p8]
      refine CondH.tt (decide_eq_true (by omega)) (fun c1 => ?_)
      simp -failIfUnchanged only [↓RA, RB, RS, fx135, p1, p2, p3, p4, reduceIte, p5, p6, p7, p8, c1]
      obtain ⟨v16, hv16, h⟩ := run_bind h
      refine IdxH.mk (f := (Term.pv false)) hv16 ?_ ?_ <;> simp -failIfUnchanged only [↓RA, RB, RS, fx135, p1, p2, p3, p4, reduceIte, p5, p6, p7, p8, c1]
      obtain ⟨v18, hv18, h⟩ := run_bind h
      refine CallH.mk [false] (ih _ _ hv18) ?_ ?_ <;> simp -failIfUnchanged only [↓RA, RB, RS, fx135, p1, p2, p3, p4, reduceIte, p5, p6, p7, p8, c1]
      obtain ⟨v19, hv19, h⟩ := run_bind h
      refine CallH.mk [false, false] (spec_l1Most_sat hv19) ?_ ?_ <;> simp -failIfUnchanged only [↓RA, RB, RS, fx135, p1, p2, p3, p4, reduceIte, p5, p6, p7, p8, c1]
      have h := run_some h
      refine RdH.mk ⟨_, h, ?_⟩
      refine St.le_mk2 ?_
      simp -failIfUnchanged only [↓RA, RB, RS, fx135, p1, p2, p3, p4, reduceIte, p5, p6, p7, p8, c1, w3]
    · simp -failIfUnchanged only [↓RA, RB, RS, fx135, p1, p2, p3, p4, reduceIte, p5, p6, p7, p8]
      refine CondH.ff (decide_eq_false (by omega)) (fun c2 => ?_)
      simp -failIfUnchanged only [↓RA, RB, RS, fx135, p1, p2, p3, p4, reduceIte, p5, p6, p7, p8, c2]
      have h := run_some h
      obtain rfl : _ = r := h
      refine FinH.l ?_
      simp -failIfUnchanged only [↓RA, RB, RS, fx135, p1, p2, p3, p4, reduceIte, p5, p6, p7, p8, c2]
theorem spec_l2Depth_sat {a0 : Term} {r : Int} (h : spec_l2Depth a0 = some r) : Sat Tryz.prog 135 [((Term.pv false) a0)] (I r) := by
  obtain ⟨n, hn⟩ := lim_some h
  exact (spec_l2DepthN_sat n) _ _ hn

def fx120 := And.intro @ty_3 <| And.intro @zc_3 <| And.intro @z_3 <| And.intro @ty_34 <| And.intro @zc_34 <| And.intro @z_34 <| And.intro @fo_34_0 <| And.intro @fi_34_0 <| And.intro @ft_34_0 <| And.intro @fo_34_1 <| And.intro @fi_34_1 <| And.intro @ft_34_1 <| @lay_34
set_option maxHeartbeats 4000000 in
theorem spec_l2Fits_sat {a0 : Term}  {r : Bool} (h : spec_l2Fits a0 = some r) : Sat Tryz.prog 120 [((Term.pv false) a0)] (B r) := by
  replace h := Run.of h
  unfold spec_l2Fits at h
  refine Sat.of_m (nt := 11) (rs := [.tmp 2]) (n := 100000) Tryz.func120 rfl rfl rfl rfl (by simp) ?_
  simp -failIfUnchanged only [↓RA, RB, RS, fx120, p1, p2, p3, p4, reduceIte, p5, p6, p7, p8]
  repeat (first | with_reducible refine noR_and (by repeat (first | exact noR_empty _ _ | exact noR_nilS _ _ | refine noR_mk _ _ _ _ _ rfl ?_ | refine noR_mkS _ _ _ _ _ rfl ?_)) ?_ | with_reducible refine noC_and (by repeat (first | exact noC_empty _ _ (by simp -failIfUnchanged only [↓RA, RB, RS, fx120, p1, p2, p3, p4, reduceIte, p5, p6, p7, p8]) | exact noC_nilS _ _ (by simp -failIfUnchanged only [↓RA, RB, RS, fx120, p1, p2, p3, p4, reduceIte, p5, p6, p7, p8]) | refine noC_mk _ _ _ _ _ rfl ?_ | refine noC_mkS _ _ _ _ _ rfl ?_)) ?_ | with_reducible refine and_ac ?_ | with_reducible refine And.intro (a := _ = List.range _) (by rfl) ?_)
  obtain ⟨v4, hv4, h⟩ := run_bind h
  refine CallH.mk [false, false] (spec_l2Many_sat hv4) ?_ ?_ <;> simp -failIfUnchanged only [↓RA, RB, RS, fx120, p1, p2, p3, p4, reduceIte, p5, p6, p7, p8]
  refine CondH.mk (fun c1 => ?_) (fun c1 => ?_)
  · replace h := run_t c1 h
    simp -failIfUnchanged only [↓RA, RB, RS, fx120, p1, p2, p3, p4, reduceIte, p5, p6, p7, p8, c1]
    obtain ⟨v8, hv8, h⟩ := run_bind h
    refine CallH.mk [false] (spec_l2Depth_sat hv8) ?_ ?_ <;> simp -failIfUnchanged only [↓RA, RB, RS, fx120, p1, p2, p3, p4, reduceIte, p5, p6, p7, p8, c1]
    have h := run_some h
    obtain rfl : _ = r := h
    refine FinH.l ?_
    simp -failIfUnchanged only [↓RA, RB, RS, fx120, p1, p2, p3, p4, reduceIte, p5, p6, p7, p8, c1]
  · replace h := run_f c1 h
    simp -failIfUnchanged only [↓RA, RB, RS, fx120, p1, p2, p3, p4, reduceIte, p5, p6, p7, p8, c1]
    have h := run_some h
    obtain rfl : _ = r := h
    refine FinH.l ?_
    simp -failIfUnchanged only [↓RA, RB, RS, fx120, p1, p2, p3, p4, reduceIte, p5, p6, p7, p8, c1]

def fx41 := And.intro @ty_3 <| And.intro @zc_3 <| @z_3
set_option maxHeartbeats 4000000 in
theorem spec_l1In_sat {a0 : Int} {a1 : Int} {a2 : Int}  {r : Bool} (h : spec_l1In a0 a1 a2 = some r) : Sat Tryz.prog 41 [(I a0), (I a1), (I a2)] (B r) := by
  replace h := Run.of h
  unfold spec_l1In at h
  refine Sat.of_m (nt := 15) (rs := [.tmp 6]) (n := 100000) Tryz.func41 rfl rfl rfl rfl (by simp) ?_
  simp -failIfUnchanged only [↓RA, RB, RS, fx41, p1, p2, p3, p4, reduceIte, p5, p6, p7, p8]
  refine CondH.mk (fun c1 => ?_) (fun c1 => ?_)
  · replace h := run_t c1 h
    simp -failIfUnchanged only [↓RA, RB, RS, fx41, p1, p2, p3, p4, reduceIte, p5, p6, p7, p8, c1]
    have h := run_some h
    obtain rfl : _ = r := h
    refine FinH.l ?_
    simp -failIfUnchanged only [↓RA, RB, RS, fx41, p1, p2, p3, p4, reduceIte, p5, p6, p7, p8, c1]
  · replace h := run_f c1 h
    simp -failIfUnchanged only [↓RA, RB, RS, fx41, p1, p2, p3, p4, reduceIte, p5, p6, p7, p8, c1]
    have h := run_some h
    obtain rfl : _ = r := h
    refine FinH.l ?_
    simp -failIfUnchanged only [↓RA, RB, RS, fx41, p1, p2, p3, p4, reduceIte, p5, p6, p7, p8, c1]

def fx124 := And.intro @ty_5 <| And.intro @zc_5 <| @z_5
set_option maxHeartbeats 4000000 in
theorem spec_l2Small_sat {a0 : Int}  {r : Bool} (h : spec_l2Small a0 = some r) : Sat Tryz.prog 124 [((Ik .u8) a0)] (B r) := by
  replace h := Run.of h
  unfold spec_l2Small at h
  refine Sat.of_m (nt := 17) (rs := [.tmp 2]) (n := 100000) Tryz.func124 rfl rfl rfl rfl (by simp) ?_
  simp -failIfUnchanged only [↓RA, RB, RS, fx124, p1, p2, p3, p4, reduceIte, p5, p6, p7, p8]
  refine CondH.mk (fun c1 => ?_) (fun c1 => ?_)
  · replace h := run_t c1 h
    simp -failIfUnchanged only [↓RA, RB, RS, fx124, p1, p2, p3, p4, reduceIte, p5, p6, p7, p8, c1]
    refine CondH.mk (fun c2 => ?_) (fun c2 => ?_)
    · replace h := run_t c2 h
      simp -failIfUnchanged only [↓RA, RB, RS, fx124, p1, p2, p3, p4, reduceIte, p5, p6, p7, p8, c1, c2]
      have h := run_some h
      obtain rfl : _ = r := h
      refine FinH.l ?_
      simp -failIfUnchanged only [↓RA, RB, RS, fx124, p1, p2, p3, p4, reduceIte, p5, p6, p7, p8, c1, c2]
    · replace h := run_f c2 h
      simp -failIfUnchanged only [↓RA, RB, RS, fx124, p1, p2, p3, p4, reduceIte, p5, p6, p7, p8, c1, c2]
      refine CondH.mk (fun c3 => ?_) (fun c3 => ?_)
      · replace h := run_t c3 h
        simp -failIfUnchanged only [↓RA, RB, RS, fx124, p1, p2, p3, p4, reduceIte, p5, p6, p7, p8, c1, c2, c3]
        have h := run_some h
        obtain rfl : _ = r := h
        refine FinH.l ?_
        simp -failIfUnchanged only [↓RA, RB, RS, fx124, p1, p2, p3, p4, reduceIte, p5, p6, p7, p8, c1, c2, c3]
      · replace h := run_f c3 h
        simp -failIfUnchanged only [↓RA, RB, RS, fx124, p1, p2, p3, p4, reduceIte, p5, p6, p7, p8, c1, c2, c3]
        have h := run_some h
        obtain rfl : _ = r := h
        refine FinH.l ?_
        simp -failIfUnchanged only [↓RA, RB, RS, fx124, p1, p2, p3, p4, reduceIte, p5, p6, p7, p8, c1, c2, c3]
  · replace h := run_f c1 h
    simp -failIfUnchanged only [↓RA, RB, RS, fx124, p1, p2, p3, p4, reduceIte, p5, p6, p7, p8, c1]
    refine CondH.mk (fun c4 => ?_) (fun c4 => ?_)
    · replace h := run_t c4 h
      simp -failIfUnchanged only [↓RA, RB, RS, fx124, p1, p2, p3, p4, reduceIte, p5, p6, p7, p8, c1, c4]
      have h := run_some h
      obtain rfl : _ = r := h
      refine FinH.l ?_
      simp -failIfUnchanged only [↓RA, RB, RS, fx124, p1, p2, p3, p4, reduceIte, p5, p6, p7, p8, c1, c4]
    · replace h := run_f c4 h
      simp -failIfUnchanged only [↓RA, RB, RS, fx124, p1, p2, p3, p4, reduceIte, p5, p6, p7, p8, c1, c4]
      have h := run_some h
      obtain rfl : _ = r := h
      refine FinH.l ?_
      simp -failIfUnchanged only [↓RA, RB, RS, fx124, p1, p2, p3, p4, reduceIte, p5, p6, p7, p8, c1, c4]

def fx108 := And.intro @ty_3 <| And.intro @zc_3 <| And.intro @z_3 <| And.intro @ty_4 <| And.intro @zc_4 <| And.intro @z_4 <| And.intro @u_4 <| And.intro @ty_5 <| And.intro @zc_5 <| And.intro @z_5 <| And.intro @ty_9 <| And.intro @zc_9 <| And.intro @z_9 <| @u_9
set_option maxHeartbeats 4000000 in
theorem spec_l2Var_sat {a0 : ByteArray}  {r : Bool} (h : spec_l2Var a0 = some r) : Sat Tryz.prog 108 [(Sx a0)] (B r) := by
  replace h := Run.of h
  unfold spec_l2Var at h
  refine Sat.of_m (nt := 29) (rs := [.tmp 2]) (n := 100000) Tryz.func108 rfl rfl rfl rfl (by simp) ?_
  simp -failIfUnchanged only [↓RA, RB, RS, fx108, p1, p2, p3, p4, reduceIte, p5, p6, p7, p8]
  obtain ⟨v6, hv6, h⟩ := run_bind h
  refine CallH.mk [false, false, false] (spec_l1In_sat hv6) ?_ ?_ <;> simp -failIfUnchanged only [↓RA, RB, RS, fx108, p1, p2, p3, p4, reduceIte, p5, p6, p7, p8]
  refine CondH.mk (fun c1 => ?_) (fun c1 => ?_)
  · replace h := run_t c1 h
    simp -failIfUnchanged only [↓RA, RB, RS, fx108, p1, p2, p3, p4, reduceIte, p5, p6, p7, p8, c1]
    obtain ⟨v10, hv10, h⟩ := run_bind h
    refine SidxH.mk hv10 ?_
    simp -failIfUnchanged only [↓RA, RB, RS, fx108, p1, p2, p3, p4, reduceIte, p5, p6, p7, p8, c1]
    refine CondH.mk (fun c2 => ?_) (fun c2 => ?_)
    · replace h := run_t c2 h
      simp -failIfUnchanged only [↓RA, RB, RS, fx108, p1, p2, p3, p4, reduceIte, p5, p6, p7, p8, c1, c2]
      have h := run_some h
      obtain rfl : _ = r := h
      refine FinH.l ?_
      simp -failIfUnchanged only [↓RA, RB, RS, fx108, p1, p2, p3, p4, reduceIte, p5, p6, p7, p8, c1, c2]
    · replace h := run_f c2 h
      simp -failIfUnchanged only [↓RA, RB, RS, fx108, p1, p2, p3, p4, reduceIte, p5, p6, p7, p8, c1, c2]
      obtain ⟨v15, hv15, h⟩ := run_bind h
      refine SidxH.mk hv15 ?_
      simp -failIfUnchanged only [↓RA, RB, RS, fx108, p1, p2, p3, p4, reduceIte, p5, p6, p7, p8, c1, c2]
      refine CondH.mk (fun c3 => ?_) (fun c3 => ?_)
      · replace h := run_t c3 h
        simp -failIfUnchanged only [↓RA, RB, RS, fx108, p1, p2, p3, p4, reduceIte, p5, p6, p7, p8, c1, c2, c3]
        have h := run_some h
        obtain rfl : _ = r := h
        refine FinH.l ?_
        simp -failIfUnchanged only [↓RA, RB, RS, fx108, p1, p2, p3, p4, reduceIte, p5, p6, p7, p8, c1, c2, c3]
      · replace h := run_f c3 h
        simp -failIfUnchanged only [↓RA, RB, RS, fx108, p1, p2, p3, p4, reduceIte, p5, p6, p7, p8, c1, c2, c3]
        obtain ⟨N4, hN4, h⟩ := run_bind h
        obtain ⟨hN4a, hN4b⟩ := bnd_some hN4
        replace h := run_loop h
        refine Mg.forA (N := N4) (a := 1) h (fun i4 s4 => [(0, .val (.pv (Sx a0))), (3, .val (.pv (I (i4 : Int))))]) (fun i4 s4 => []) (St.le_mk2 (by simp -failIfUnchanged only [↓RA, RB, RS, fx108, p1, p2, p3, p4, reduceIte, p5, p6, p7, p8, c1, c2, c3])) (fun i4 s4 hi hj h => ?_) (fun j4 s4 hj h => ?_)
        · have w4 := wrap_succ (i := i4) (by omega)
          simp -failIfUnchanged only [↓RA, RB, RS, fx108, p1, p2, p3, p4, reduceIte, p5, p6, p7, p8, c1, c2, c3]
          refine CondH.tt (decide_eq_true (by omega)) (fun c4 => ?_)
          simp -failIfUnchanged only [↓RA, RB, RS, fx108, p1, p2, p3, p4, reduceIte, p5, p6, p7, p8, c1, c2, c3, c4]
          obtain ⟨v26, hv26, h⟩ := run_bind h
          refine SidxH.mk hv26 ?_
          simp -failIfUnchanged only [↓RA, RB, RS, fx108, p1, p2, p3, p4, reduceIte, p5, p6, p7, p8, c1, c2, c3, c4]
          obtain ⟨v27, hv27, h⟩ := run_bind h
          refine CallH.mk [false] (spec_l2Small_sat hv27) ?_ ?_ <;> simp -failIfUnchanged only [↓RA, RB, RS, fx108, p1, p2, p3, p4, reduceIte, p5, p6, p7, p8, c1, c2, c3, c4]
          refine CondH.mk (fun c5 => ?_) (fun c5 => ?_)
          · replace h := run_t c5 h
            simp -failIfUnchanged only [↓RA, RB, RS, fx108, p1, p2, p3, p4, reduceIte, p5, p6, p7, p8, c1, c2, c3, c4, c5]
            have h := run_some h
            refine RdH.mk ⟨_, h, ?_⟩
            refine St.le_mk2 ?_
            simp -failIfUnchanged only [↓RA, RB, RS, fx108, p1, p2, p3, p4, reduceIte, p5, p6, p7, p8, c1, c2, c3, c4, c5, w4]
          · replace h := run_f c5 h
            simp -failIfUnchanged only [↓RA, RB, RS, fx108, p1, p2, p3, p4, reduceIte, p5, p6, p7, p8, c1, c2, c3, c4, c5]
            have h := run_some h
            obtain rfl : _ = r := h
            refine FinH.l ?_
            simp -failIfUnchanged only [↓RA, RB, RS, fx108, p1, p2, p3, p4, reduceIte, p5, p6, p7, p8, c1, c2, c3, c4, c5]
        · simp -failIfUnchanged only [↓RA, RB, RS, fx108, p1, p2, p3, p4, reduceIte, p5, p6, p7, p8, c1, c2, c3]
          refine CondH.ff (decide_eq_false (by omega)) (fun c6 => ?_)
          simp -failIfUnchanged only [↓RA, RB, RS, fx108, p1, p2, p3, p4, reduceIte, p5, p6, p7, p8, c1, c2, c3, c6]
          have h := run_some h
          obtain rfl : _ = r := h
          refine FinH.l ?_
          simp -failIfUnchanged only [↓RA, RB, RS, fx108, p1, p2, p3, p4, reduceIte, p5, p6, p7, p8, c1, c2, c3, c6]
  · replace h := run_f c1 h
    simp -failIfUnchanged only [↓RA, RB, RS, fx108, p1, p2, p3, p4, reduceIte, p5, p6, p7, p8, c1]
    have h := run_some h
    obtain rfl : _ = r := h
    refine FinH.l ?_
    simp -failIfUnchanged only [↓RA, RB, RS, fx108, p1, p2, p3, p4, reduceIte, p5, p6, p7, p8, c1]

def fx122 := And.intro @ty_3 <| And.intro @zc_3 <| And.intro @z_3 <| And.intro @ty_4 <| And.intro @zc_4 <| And.intro @z_4 <| And.intro @u_4 <| And.intro @ty_5 <| And.intro @zc_5 <| And.intro @z_5 <| And.intro @ty_9 <| And.intro @zc_9 <| And.intro @z_9 <| @u_9
set_option maxHeartbeats 4000000 in
theorem spec_l2Symbol_sat {a0 : ByteArray}  {r : Bool} (h : spec_l2Symbol a0 = some r) : Sat Tryz.prog 122 [(Sx a0)] (B r) := by
  replace h := Run.of h
  unfold spec_l2Symbol at h
  refine Sat.of_m (nt := 45) (rs := [.tmp 2]) (n := 100000) Tryz.func122 rfl rfl rfl rfl (by simp) ?_
  simp -failIfUnchanged only [↓RA, RB, RS, fx122, p1, p2, p3, p4, reduceIte, p5, p6, p7, p8]
  obtain ⟨v6, hv6, h⟩ := run_bind h
  refine CallH.mk [false, false, false] (spec_l1In_sat hv6) ?_ ?_ <;> simp -failIfUnchanged only [↓RA, RB, RS, fx122, p1, p2, p3, p4, reduceIte, p5, p6, p7, p8]
  refine CondH.mk (fun c1 => ?_) (fun c1 => ?_)
  · replace h := run_t c1 h
    simp -failIfUnchanged only [↓RA, RB, RS, fx122, p1, p2, p3, p4, reduceIte, p5, p6, p7, p8, c1]
    obtain ⟨v10, hv10, h⟩ := run_bind h
    refine SidxH.mk hv10 ?_
    simp -failIfUnchanged only [↓RA, RB, RS, fx122, p1, p2, p3, p4, reduceIte, p5, p6, p7, p8, c1]
    refine CondH.mk (fun c2 => ?_) (fun c2 => ?_)
    · replace h := run_t c2 h
      simp -failIfUnchanged only [↓RA, RB, RS, fx122, p1, p2, p3, p4, reduceIte, p5, p6, p7, p8, c1, c2]
      have h := run_some h
      obtain rfl : _ = r := h
      refine FinH.l ?_
      simp -failIfUnchanged only [↓RA, RB, RS, fx122, p1, p2, p3, p4, reduceIte, p5, p6, p7, p8, c1, c2]
    · replace h := run_f c2 h
      simp -failIfUnchanged only [↓RA, RB, RS, fx122, p1, p2, p3, p4, reduceIte, p5, p6, p7, p8, c1, c2]
      obtain ⟨v15, hv15, h⟩ := run_bind h
      refine SidxH.mk hv15 ?_
      simp -failIfUnchanged only [↓RA, RB, RS, fx122, p1, p2, p3, p4, reduceIte, p5, p6, p7, p8, c1, c2]
      refine CondH.mk (fun c3 => ?_) (fun c3 => ?_)
      · replace h := run_t c3 h
        simp -failIfUnchanged only [↓RA, RB, RS, fx122, p1, p2, p3, p4, reduceIte, p5, p6, p7, p8, c1, c2, c3]
        have h := run_some h
        obtain rfl : _ = r := h
        refine FinH.l ?_
        simp -failIfUnchanged only [↓RA, RB, RS, fx122, p1, p2, p3, p4, reduceIte, p5, p6, p7, p8, c1, c2, c3]
      · replace h := run_f c3 h
        simp -failIfUnchanged only [↓RA, RB, RS, fx122, p1, p2, p3, p4, reduceIte, p5, p6, p7, p8, c1, c2, c3]
        refine CondH.mk (fun c4 => ?_) (fun c4 => ?_)
        · replace h := run_t c4 h
          simp -failIfUnchanged only [↓RA, RB, RS, fx122, p1, p2, p3, p4, reduceIte, p5, p6, p7, p8, c1, c2, c3, c4]
          have h := run_some h
          obtain rfl : _ = r := h
          refine FinH.l ?_
          simp -failIfUnchanged only [↓RA, RB, RS, fx122, p1, p2, p3, p4, reduceIte, p5, p6, p7, p8, c1, c2, c3, c4]
        · replace h := run_f c4 h
          simp -failIfUnchanged only [↓RA, RB, RS, fx122, p1, p2, p3, p4, reduceIte, p5, p6, p7, p8, c1, c2, c3, c4]
          refine CondH.mk (fun c5 => ?_) (fun c5 => ?_)
          · replace h := run_t c5 h
            simp -failIfUnchanged only [↓RA, RB, RS, fx122, p1, p2, p3, p4, reduceIte, p5, p6, p7, p8, c1, c2, c3, c4, c5]
            have h := run_some h
            obtain rfl : _ = r := h
            refine FinH.l ?_
            simp -failIfUnchanged only [↓RA, RB, RS, fx122, p1, p2, p3, p4, reduceIte, p5, p6, p7, p8, c1, c2, c3, c4, c5]
          · replace h := run_f c5 h
            simp -failIfUnchanged only [↓RA, RB, RS, fx122, p1, p2, p3, p4, reduceIte, p5, p6, p7, p8, c1, c2, c3, c4, c5]
            refine CondH.mk (fun c6 => ?_) (fun c6 => ?_)
            · replace h := run_t c6 h
              simp -failIfUnchanged only [↓RA, RB, RS, fx122, p1, p2, p3, p4, reduceIte, p5, p6, p7, p8, c1, c2, c3, c4, c5, c6]
              have h := run_some h
              obtain rfl : _ = r := h
              refine FinH.l ?_
              simp -failIfUnchanged only [↓RA, RB, RS, fx122, p1, p2, p3, p4, reduceIte, p5, p6, p7, p8, c1, c2, c3, c4, c5, c6]
            · replace h := run_f c6 h
              simp -failIfUnchanged only [↓RA, RB, RS, fx122, p1, p2, p3, p4, reduceIte, p5, p6, p7, p8, c1, c2, c3, c4, c5, c6]
              refine CondH.mk (fun c7 => ?_) (fun c7 => ?_)
              · replace h := run_t c7 h
                simp -failIfUnchanged only [↓RA, RB, RS, fx122, p1, p2, p3, p4, reduceIte, p5, p6, p7, p8, c1, c2, c3, c4, c5, c6, c7]
                have h := run_some h
                obtain rfl : _ = r := h
                refine FinH.l ?_
                simp -failIfUnchanged only [↓RA, RB, RS, fx122, p1, p2, p3, p4, reduceIte, p5, p6, p7, p8, c1, c2, c3, c4, c5, c6, c7]
              · replace h := run_f c7 h
                simp -failIfUnchanged only [↓RA, RB, RS, fx122, p1, p2, p3, p4, reduceIte, p5, p6, p7, p8, c1, c2, c3, c4, c5, c6, c7]
                refine CondH.mk (fun c8 => ?_) (fun c8 => ?_)
                · replace h := run_t c8 h
                  simp -failIfUnchanged only [↓RA, RB, RS, fx122, p1, p2, p3, p4, reduceIte, p5, p6, p7, p8, c1, c2, c3, c4, c5, c6, c7, c8]
                  have h := run_some h
                  obtain rfl : _ = r := h
                  refine FinH.l ?_
                  simp -failIfUnchanged only [↓RA, RB, RS, fx122, p1, p2, p3, p4, reduceIte, p5, p6, p7, p8, c1, c2, c3, c4, c5, c6, c7, c8]
                · replace h := run_f c8 h
                  simp -failIfUnchanged only [↓RA, RB, RS, fx122, p1, p2, p3, p4, reduceIte, p5, p6, p7, p8, c1, c2, c3, c4, c5, c6, c7, c8]
                  refine CondH.mk (fun c9 => ?_) (fun c9 => ?_)
                  · replace h := run_t c9 h
                    simp -failIfUnchanged only [↓RA, RB, RS, fx122, p1, p2, p3, p4, reduceIte, p5, p6, p7, p8, c1, c2, c3, c4, c5, c6, c7, c8, c9]
                    have h := run_some h
                    obtain rfl : _ = r := h
                    refine FinH.l ?_
                    simp -failIfUnchanged only [↓RA, RB, RS, fx122, p1, p2, p3, p4, reduceIte, p5, p6, p7, p8, c1, c2, c3, c4, c5, c6, c7, c8, c9]
                  · replace h := run_f c9 h
                    simp -failIfUnchanged only [↓RA, RB, RS, fx122, p1, p2, p3, p4, reduceIte, p5, p6, p7, p8, c1, c2, c3, c4, c5, c6, c7, c8, c9]
                    refine CondH.mk (fun c10 => ?_) (fun c10 => ?_)
                    · replace h := run_t c10 h
                      simp -failIfUnchanged only [↓RA, RB, RS, fx122, p1, p2, p3, p4, reduceIte, p5, p6, p7, p8, c1, c2, c3, c4, c5, c6, c7, c8, c9, c10]
                      have h := run_some h
                      obtain rfl : _ = r := h
                      refine FinH.l ?_
                      simp -failIfUnchanged only [↓RA, RB, RS, fx122, p1, p2, p3, p4, reduceIte, p5, p6, p7, p8, c1, c2, c3, c4, c5, c6, c7, c8, c9, c10]
                    · replace h := run_f c10 h
                      simp -failIfUnchanged only [↓RA, RB, RS, fx122, p1, p2, p3, p4, reduceIte, p5, p6, p7, p8, c1, c2, c3, c4, c5, c6, c7, c8, c9, c10]
                      refine CondH.mk (fun c11 => ?_) (fun c11 => ?_)
                      · replace h := run_t c11 h
                        simp -failIfUnchanged only [↓RA, RB, RS, fx122, p1, p2, p3, p4, reduceIte, p5, p6, p7, p8, c1, c2, c3, c4, c5, c6, c7, c8, c9, c10, c11]
                        have h := run_some h
                        obtain rfl : _ = r := h
                        refine FinH.l ?_
                        simp -failIfUnchanged only [↓RA, RB, RS, fx122, p1, p2, p3, p4, reduceIte, p5, p6, p7, p8, c1, c2, c3, c4, c5, c6, c7, c8, c9, c10, c11]
                      · replace h := run_f c11 h
                        simp -failIfUnchanged only [↓RA, RB, RS, fx122, p1, p2, p3, p4, reduceIte, p5, p6, p7, p8, c1, c2, c3, c4, c5, c6, c7, c8, c9, c10, c11]
                        obtain ⟨N14, hN14, h⟩ := run_bind h
                        obtain ⟨hN14a, hN14b⟩ := bnd_some hN14
                        replace h := run_loop h
                        refine Mg.forA (N := N14) (a := 1) h (fun i14 s14 => [(0, .val (.pv (Sx a0))), (3, .val (.pv (I (i14 : Int))))]) (fun i14 s14 => []) (St.le_mk2 (by simp -failIfUnchanged only [↓RA, RB, RS, fx122, p1, p2, p3, p4, reduceIte, p5, p6, p7, p8, c1, c2, c3, c4, c5, c6, c7, c8, c9, c10, c11])) (fun i14 s14 hi hj h => ?_) (fun j14 s14 hj h => ?_)
                        · have w14 := wrap_succ (i := i14) (by omega)
                          simp -failIfUnchanged only [↓RA, RB, RS, fx122, p1, p2, p3, p4, reduceIte, p5, p6, p7, p8, c1, c2, c3, c4, c5, c6, c7, c8, c9, c10, c11]
                          refine CondH.tt (decide_eq_true (by omega)) (fun c12 => ?_)
                          simp -failIfUnchanged only [↓RA, RB, RS, fx122, p1, p2, p3, p4, reduceIte, p5, p6, p7, p8, c1, c2, c3, c4, c5, c6, c7, c8, c9, c10, c11, c12]
                          obtain ⟨v36, hv36, h⟩ := run_bind h
                          refine SidxH.mk hv36 ?_
                          simp -failIfUnchanged only [↓RA, RB, RS, fx122, p1, p2, p3, p4, reduceIte, p5, p6, p7, p8, c1, c2, c3, c4, c5, c6, c7, c8, c9, c10, c11, c12]
                          obtain ⟨v37, hv37, h⟩ := run_bind h
                          refine CallH.mk [false] (spec_l2Small_sat hv37) ?_ ?_ <;> simp -failIfUnchanged only [↓RA, RB, RS, fx122, p1, p2, p3, p4, reduceIte, p5, p6, p7, p8, c1, c2, c3, c4, c5, c6, c7, c8, c9, c10, c11, c12]
                          refine CondH.mk (fun c13 => ?_) (fun c13 => ?_)
                          · replace h := run_t c13 h
                            simp -failIfUnchanged only [↓RA, RB, RS, fx122, p1, p2, p3, p4, reduceIte, p5, p6, p7, p8, c1, c2, c3, c4, c5, c6, c7, c8, c9, c10, c11, c12, c13]
                            have h := run_some h
                            refine RdH.mk ⟨_, h, ?_⟩
                            refine St.le_mk2 ?_
                            simp -failIfUnchanged only [↓RA, RB, RS, fx122, p1, p2, p3, p4, reduceIte, p5, p6, p7, p8, c1, c2, c3, c4, c5, c6, c7, c8, c9, c10, c11, c12, c13, w14]
                          · replace h := run_f c13 h
                            simp -failIfUnchanged only [↓RA, RB, RS, fx122, p1, p2, p3, p4, reduceIte, p5, p6, p7, p8, c1, c2, c3, c4, c5, c6, c7, c8, c9, c10, c11, c12, c13]
                            obtain ⟨v42, hv42, h⟩ := run_bind h
                            refine SidxH.mk hv42 ?_
                            simp -failIfUnchanged only [↓RA, RB, RS, fx122, p1, p2, p3, p4, reduceIte, p5, p6, p7, p8, c1, c2, c3, c4, c5, c6, c7, c8, c9, c10, c11, c12, c13]
                            refine CondH.mk (fun c14 => ?_) (fun c14 => ?_)
                            · replace h := run_t c14 h
                              simp -failIfUnchanged only [↓RA, RB, RS, fx122, p1, p2, p3, p4, reduceIte, p5, p6, p7, p8, c1, c2, c3, c4, c5, c6, c7, c8, c9, c10, c11, c12, c13, c14]
                              have h := run_some h
                              refine RdH.mk ⟨_, h, ?_⟩
                              refine St.le_mk2 ?_
                              simp -failIfUnchanged only [↓RA, RB, RS, fx122, p1, p2, p3, p4, reduceIte, p5, p6, p7, p8, c1, c2, c3, c4, c5, c6, c7, c8, c9, c10, c11, c12, c13, c14, w14]
                            · replace h := run_f c14 h
                              simp -failIfUnchanged only [↓RA, RB, RS, fx122, p1, p2, p3, p4, reduceIte, p5, p6, p7, p8, c1, c2, c3, c4, c5, c6, c7, c8, c9, c10, c11, c12, c13, c14]
                              have h := run_some h
                              obtain rfl : _ = r := h
                              refine FinH.l ?_
                              simp -failIfUnchanged only [↓RA, RB, RS, fx122, p1, p2, p3, p4, reduceIte, p5, p6, p7, p8, c1, c2, c3, c4, c5, c6, c7, c8, c9, c10, c11, c12, c13, c14]
                        · simp -failIfUnchanged only [↓RA, RB, RS, fx122, p1, p2, p3, p4, reduceIte, p5, p6, p7, p8, c1, c2, c3, c4, c5, c6, c7, c8, c9, c10, c11]
                          refine CondH.ff (decide_eq_false (by omega)) (fun c15 => ?_)
                          simp -failIfUnchanged only [↓RA, RB, RS, fx122, p1, p2, p3, p4, reduceIte, p5, p6, p7, p8, c1, c2, c3, c4, c5, c6, c7, c8, c9, c10, c11, c15]
                          have h := run_some h
                          obtain rfl : _ = r := h
                          refine FinH.l ?_
                          simp -failIfUnchanged only [↓RA, RB, RS, fx122, p1, p2, p3, p4, reduceIte, p5, p6, p7, p8, c1, c2, c3, c4, c5, c6, c7, c8, c9, c10, c11, c15]
  · replace h := run_f c1 h
    simp -failIfUnchanged only [↓RA, RB, RS, fx122, p1, p2, p3, p4, reduceIte, p5, p6, p7, p8, c1]
    have h := run_some h
    obtain rfl : _ = r := h
    refine FinH.l ?_
    simp -failIfUnchanged only [↓RA, RB, RS, fx122, p1, p2, p3, p4, reduceIte, p5, p6, p7, p8, c1]

def fx121 := And.intro @ty_3 <| And.intro @zc_3 <| And.intro @z_3 <| And.intro @ty_4 <| And.intro @zc_4 <| And.intro @z_4 <| And.intro @u_4 <| And.intro @ty_9 <| And.intro @zc_9 <| And.intro @z_9 <| And.intro @u_9 <| And.intro @ty_32 <| And.intro @zc_32 <| And.intro @z_32 <| And.intro @es_32 <| And.intro @eb_32 <| And.intro @sl_32 <| And.intro @is_32 <| And.intro @el_32 <| And.intro @ze_32 <| And.intro @ez_32 <| And.intro @ty_34 <| And.intro @zc_34 <| And.intro @z_34 <| And.intro @fo_34_0 <| And.intro @fi_34_0 <| And.intro @ft_34_0 <| And.intro @fo_34_1 <| And.intro @fi_34_1 <| And.intro @ft_34_1 <| @lay_34
set_option maxHeartbeats 4000000 in
theorem spec_l2NodesN_sat (n : Nat) : (∀ (a0 : Term) (r : Bool), spec_l2NodesN n a0 = some r → Sat Tryz.prog 121 [((Term.pv false) a0)] (B r)) := by
  induction n with
  | zero => exact fun _ _ h => by simp [spec_l2NodesN] at h
  | succ n ih =>
    refine fun a0 r h => ?_
    replace h := Run.of h
    rw [spec_l2NodesN] at h
    refine Sat.of_m (nt := 35) (rs := [.tmp 2]) (n := 100000) Tryz.func121 rfl rfl rfl rfl (by simp) ?_
    simp -failIfUnchanged only [↓RA, RB, RS, fx121, p1, p2, p3, p4, reduceIte, p5, p6, p7, p8]
    repeat (first | with_reducible refine noR_and (by repeat (first | exact noR_empty _ _ | exact noR_nilS _ _ | refine noR_mk _ _ _ _ _ rfl ?_ | refine noR_mkS _ _ _ _ _ rfl ?_)) ?_ | with_reducible refine noC_and (by repeat (first | exact noC_empty _ _ (by simp -failIfUnchanged only [↓RA, RB, RS, fx121, p1, p2, p3, p4, reduceIte, p5, p6, p7, p8]) | exact noC_nilS _ _ (by simp -failIfUnchanged only [↓RA, RB, RS, fx121, p1, p2, p3, p4, reduceIte, p5, p6, p7, p8]) | refine noC_mk _ _ _ _ _ rfl ?_ | refine noC_mkS _ _ _ _ _ rfl ?_)) ?_ | with_reducible refine and_ac ?_ | with_reducible refine And.intro (a := _ = List.range _) (by rfl) ?_)
    obtain ⟨v6, hv6, h⟩ := run_bind h
    refine CallH.mk [false] (spec_l2Var_sat hv6) ?_ ?_ <;> simp -failIfUnchanged only [↓RA, RB, RS, fx121, p1, p2, p3, p4, reduceIte, p5, p6, p7, p8]
    refine CondH.mk (fun c1 => ?_) (fun c1 => ?_)
    · replace h := run_t c1 h
      simp -failIfUnchanged only [↓RA, RB, RS, fx121, p1, p2, p3, p4, reduceIte, p5, p6, p7, p8, c1]
      have h := run_some h
      obtain rfl : _ = r := h
      refine FinH.l ?_
      simp -failIfUnchanged only [↓RA, RB, RS, fx121, p1, p2, p3, p4, reduceIte, p5, p6, p7, p8, c1]
    · replace h := run_f c1 h
      simp -failIfUnchanged only [↓RA, RB, RS, fx121, p1, p2, p3, p4, reduceIte, p5, p6, p7, p8, c1]
      obtain ⟨v13, hv13, h⟩ := run_bind h
      refine CallH.mk [false] (spec_l2Symbol_sat hv13) ?_ ?_ <;> simp -failIfUnchanged only [↓RA, RB, RS, fx121, p1, p2, p3, p4, reduceIte, p5, p6, p7, p8, c1]
      refine CondH.mk (fun c2 => ?_) (fun c2 => ?_)
      · replace h := run_t c2 h
        simp -failIfUnchanged only [↓RA, RB, RS, fx121, p1, p2, p3, p4, reduceIte, p5, p6, p7, p8, c1, c2]
        refine CondH.mk (fun c3 => ?_) (fun c3 => ?_)
        · replace h := run_t c3 h
          simp -failIfUnchanged only [↓RA, RB, RS, fx121, p1, p2, p3, p4, reduceIte, p5, p6, p7, p8, c1, c2, c3]
          have h := run_some h
          obtain rfl : _ = r := h
          refine FinH.l ?_
          simp -failIfUnchanged only [↓RA, RB, RS, fx121, p1, p2, p3, p4, reduceIte, p5, p6, p7, p8, c1, c2, c3]
        · replace h := run_f c3 h
          simp -failIfUnchanged only [↓RA, RB, RS, fx121, p1, p2, p3, p4, reduceIte, p5, p6, p7, p8, c1, c2, c3]
          refine Mg.know_sl (b := false) (sz := 2) (es := a0.Args.map (Term.pv false)) 17 (by simp -failIfUnchanged only [↓RA, RB, RS, fx121, p1, p2, p3, p4, reduceIte, p5, p6, p7, p8, c1, c2, c3]) fun hl17 => ?_; rw [List.length_map] at hl17
          replace h := run_loop h
          refine Mg.forN h (fun i6 s6 => [(1, .box (.pv ((Term.pv false) a0))), (3, .val (.pv (I (i6 : Int))))]) (fun i6 s6 => []) (St.le_mk2 (by simp -failIfUnchanged only [↓RA, RB, RS, fx121, p1, p2, p3, p4, reduceIte, p5, p6, p7, p8, c1, c2, c3])) (fun i6 s6 hi h => ?_) (fun s6 h => ?_)
          · have w6 := wrap_succ (i := i6) (by omega)
            simp -failIfUnchanged only [↓RA, RB, RS, fx121, p1, p2, p3, p4, reduceIte, p5, p6, p7, p8, c1, c2, c3]
            refine CondH.tt (decide_eq_true (by omega)) (fun c4 => ?_)
            simp -failIfUnchanged only [↓RA, RB, RS, fx121, p1, p2, p3, p4, reduceIte, p5, p6, p7, p8, c1, c2, c3, c4]
            obtain ⟨v31, hv31, h⟩ := run_bind h
            refine IdxH.mk (f := (Term.pv false)) hv31 ?_ ?_ <;> simp -failIfUnchanged only [↓RA, RB, RS, fx121, p1, p2, p3, p4, reduceIte, p5, p6, p7, p8, c1, c2, c3, c4]
            obtain ⟨v33, hv33, h⟩ := run_bind h
            refine CallH.mk [false] (ih _ _ hv33) ?_ ?_ <;> simp -failIfUnchanged only [↓RA, RB, RS, fx121, p1, p2, p3, p4, reduceIte, p5, p6, p7, p8, c1, c2, c3, c4]
            refine CondH.mk (fun c5 => ?_) (fun c5 => ?_)
            · replace h := run_t c5 h
              simp -failIfUnchanged only [↓RA, RB, RS, fx121, p1, p2, p3, p4, reduceIte, p5, p6, p7, p8, c1, c2, c3, c4, c5]
              have h := run_some h
              refine RdH.mk ⟨_, h, ?_⟩
              refine St.le_mk2 ?_
              simp -failIfUnchanged only [↓RA, RB, RS, fx121, p1, p2, p3, p4, reduceIte, p5, p6, p7, p8, c1, c2, c3, c4, c5, w6]
            · replace h := run_f c5 h
              simp -failIfUnchanged only [↓RA, RB, RS, fx121, p1, p2, p3, p4, reduceIte, p5, p6, p7, p8, c1, c2, c3, c4, c5]
              have h := run_some h
              obtain rfl : _ = r := h
              refine FinH.l ?_
              simp -failIfUnchanged only [↓RA, RB, RS, fx121, p1, p2, p3, p4, reduceIte, p5, p6, p7, p8, c1, c2, c3, c4, c5]
          · simp -failIfUnchanged only [↓RA, RB, RS, fx121, p1, p2, p3, p4, reduceIte, p5, p6, p7, p8, c1, c2, c3]
            refine CondH.ff (decide_eq_false (by omega)) (fun c6 => ?_)
            simp -failIfUnchanged only [↓RA, RB, RS, fx121, p1, p2, p3, p4, reduceIte, p5, p6, p7, p8, c1, c2, c3, c6]
            have h := run_some h
            obtain rfl : _ = r := h
            refine FinH.l ?_
            simp -failIfUnchanged only [↓RA, RB, RS, fx121, p1, p2, p3, p4, reduceIte, p5, p6, p7, p8, c1, c2, c3, c6]
      · replace h := run_f c2 h
        simp -failIfUnchanged only [↓RA, RB, RS, fx121, p1, p2, p3, p4, reduceIte, p5, p6, p7, p8, c1, c2]
        have h := run_some h
        obtain rfl : _ = r := h
        refine FinH.l ?_
        simp -failIfUnchanged only [↓RA, RB, RS, fx121, p1, p2, p3, p4, reduceIte, p5, p6, p7, p8, c1, c2]
theorem spec_l2Nodes_sat {a0 : Term} {r : Bool} (h : spec_l2Nodes a0 = some r) : Sat Tryz.prog 121 [((Term.pv false) a0)] (B r) := by
  obtain ⟨n, hn⟩ := lim_some h
  exact (spec_l2NodesN_sat n) _ _ hn

def fx123 := And.intro @ty_34 <| And.intro @zc_34 <| And.intro @z_34 <| And.intro @fo_34_0 <| And.intro @fi_34_0 <| And.intro @ft_34_0 <| And.intro @fo_34_1 <| And.intro @fi_34_1 <| And.intro @ft_34_1 <| @lay_34
set_option maxHeartbeats 4000000 in
theorem spec_l2Good_sat {a0 : Term}  {r : Bool} (h : spec_l2Good a0 = some r) : Sat Tryz.prog 123 [((Term.pv false) a0)] (B r) := by
  replace h := Run.of h
  unfold spec_l2Good at h
  refine Sat.of_m (nt := 9) (rs := [.tmp 2]) (n := 100000) Tryz.func123 rfl rfl rfl rfl (by simp) ?_
  simp -failIfUnchanged only [↓RA, RB, RS, fx123, p1, p2, p3, p4, reduceIte, p5, p6, p7, p8]
  repeat (first | with_reducible refine noR_and (by repeat (first | exact noR_empty _ _ | exact noR_nilS _ _ | refine noR_mk _ _ _ _ _ rfl ?_ | refine noR_mkS _ _ _ _ _ rfl ?_)) ?_ | with_reducible refine noC_and (by repeat (first | exact noC_empty _ _ (by simp -failIfUnchanged only [↓RA, RB, RS, fx123, p1, p2, p3, p4, reduceIte, p5, p6, p7, p8]) | exact noC_nilS _ _ (by simp -failIfUnchanged only [↓RA, RB, RS, fx123, p1, p2, p3, p4, reduceIte, p5, p6, p7, p8]) | refine noC_mk _ _ _ _ _ rfl ?_ | refine noC_mkS _ _ _ _ _ rfl ?_)) ?_ | with_reducible refine and_ac ?_ | with_reducible refine And.intro (a := _ = List.range _) (by rfl) ?_)
  obtain ⟨v4, hv4, h⟩ := run_bind h
  refine CallH.mk [false] (spec_l2Fits_sat hv4) ?_ ?_ <;> simp -failIfUnchanged only [↓RA, RB, RS, fx123, p1, p2, p3, p4, reduceIte, p5, p6, p7, p8]
  refine CondH.mk (fun c1 => ?_) (fun c1 => ?_)
  · replace h := run_t c1 h
    simp -failIfUnchanged only [↓RA, RB, RS, fx123, p1, p2, p3, p4, reduceIte, p5, p6, p7, p8, c1]
    obtain ⟨v7, hv7, h⟩ := run_bind h
    refine CallH.mk [false] (spec_l2Nodes_sat hv7) ?_ ?_ <;> simp -failIfUnchanged only [↓RA, RB, RS, fx123, p1, p2, p3, p4, reduceIte, p5, p6, p7, p8, c1]
    have h := run_some h
    obtain rfl : _ = r := h
    refine FinH.l ?_
    simp -failIfUnchanged only [↓RA, RB, RS, fx123, p1, p2, p3, p4, reduceIte, p5, p6, p7, p8, c1]
  · replace h := run_f c1 h
    simp -failIfUnchanged only [↓RA, RB, RS, fx123, p1, p2, p3, p4, reduceIte, p5, p6, p7, p8, c1]
    have h := run_some h
    obtain rfl : _ = r := h
    refine FinH.l ?_
    simp -failIfUnchanged only [↓RA, RB, RS, fx123, p1, p2, p3, p4, reduceIte, p5, p6, p7, p8, c1]

def fx107 := And.intro @ty_3 <| And.intro @zc_3 <| And.intro @z_3 <| And.intro @ty_9 <| And.intro @zc_9 <| And.intro @z_9 <| And.intro @u_9 <| And.intro @ty_32 <| And.intro @zc_32 <| And.intro @z_32 <| And.intro @es_32 <| And.intro @eb_32 <| And.intro @sl_32 <| And.intro @is_32 <| And.intro @el_32 <| And.intro @ze_32 <| And.intro @ez_32 <| And.intro @ty_34 <| And.intro @zc_34 <| And.intro @z_34 <| And.intro @fo_34_0 <| And.intro @fi_34_0 <| And.intro @ft_34_0 <| And.intro @fo_34_1 <| And.intro @fi_34_1 <| And.intro @ft_34_1 <| @lay_34
set_option maxHeartbeats 4000000 in
theorem spec_l2Atom_sat {a0 : Term}  {r : Bool} (h : spec_l2Atom a0 = some r) : Sat Tryz.prog 107 [((Term.pv false) a0)] (B r) := by
  replace h := Run.of h
  unfold spec_l2Atom at h
  refine Sat.of_m (nt := 35) (rs := [.tmp 2]) (n := 100000) Tryz.func107 rfl rfl rfl rfl (by simp) ?_
  simp -failIfUnchanged only [↓RA, RB, RS, fx107, p1, p2, p3, p4, reduceIte, p5, p6, p7, p8]
  repeat (first | with_reducible refine noR_and (by repeat (first | exact noR_empty _ _ | exact noR_nilS _ _ | refine noR_mk _ _ _ _ _ rfl ?_ | refine noR_mkS _ _ _ _ _ rfl ?_)) ?_ | with_reducible refine noC_and (by repeat (first | exact noC_empty _ _ (by simp -failIfUnchanged only [↓RA, RB, RS, fx107, p1, p2, p3, p4, reduceIte, p5, p6, p7, p8]) | exact noC_nilS _ _ (by simp -failIfUnchanged only [↓RA, RB, RS, fx107, p1, p2, p3, p4, reduceIte, p5, p6, p7, p8]) | refine noC_mk _ _ _ _ _ rfl ?_ | refine noC_mkS _ _ _ _ _ rfl ?_)) ?_ | with_reducible refine and_ac ?_ | with_reducible refine And.intro (a := _ = List.range _) (by rfl) ?_)
  refine CondH.mk (fun c1 => ?_) (fun c1 => ?_)
  · replace h := run_t c1 h
    simp -failIfUnchanged only [↓RA, RB, RS, fx107, p1, p2, p3, p4, reduceIte, p5, p6, p7, p8, c1]
    refine CondH.mk (fun c2 => ?_) (fun c2 => ?_)
    · replace h := run_t c2 h
      simp -failIfUnchanged only [↓RA, RB, RS, fx107, p1, p2, p3, p4, reduceIte, p5, p6, p7, p8, c1, c2]
      obtain ⟨v12, hv12, h⟩ := run_bind h
      refine CallH.mk [false] (spec_l2Fits_sat hv12) ?_ ?_ <;> simp -failIfUnchanged only [↓RA, RB, RS, fx107, p1, p2, p3, p4, reduceIte, p5, p6, p7, p8, c1, c2]
      refine CondH.mk (fun c3 => ?_) (fun c3 => ?_)
      · replace h := run_t c3 h
        simp -failIfUnchanged only [↓RA, RB, RS, fx107, p1, p2, p3, p4, reduceIte, p5, p6, p7, p8, c1, c2, c3]
        obtain ⟨v17, hv17, h⟩ := run_bind h
        refine IdxH.mk (f := (Term.pv false)) hv17 ?_ ?_ <;> simp -failIfUnchanged only [↓RA, RB, RS, fx107, p1, p2, p3, p4, reduceIte, p5, p6, p7, p8, c1, c2, c3]
        obtain ⟨v19, hv19, h⟩ := run_bind h
        refine CallH.mk [false] (spec_l2Nodes_sat hv19) ?_ ?_ <;> simp -failIfUnchanged only [↓RA, RB, RS, fx107, p1, p2, p3, p4, reduceIte, p5, p6, p7, p8, c1, c2, c3]
        refine CondH.mk (fun c4 => ?_) (fun c4 => ?_)
        · replace h := run_t c4 h
          simp -failIfUnchanged only [↓RA, RB, RS, fx107, p1, p2, p3, p4, reduceIte, p5, p6, p7, p8, c1, c2, c3, c4]
          obtain ⟨v24, hv24, h⟩ := run_bind h
          refine IdxH.mk (f := (Term.pv false)) hv24 ?_ ?_ <;> simp -failIfUnchanged only [↓RA, RB, RS, fx107, p1, p2, p3, p4, reduceIte, p5, p6, p7, p8, c1, c2, c3, c4]
          obtain ⟨v26, hv26, h⟩ := run_bind h
          refine CallH.mk [false] (spec_l2Nodes_sat hv26) ?_ ?_ <;> simp -failIfUnchanged only [↓RA, RB, RS, fx107, p1, p2, p3, p4, reduceIte, p5, p6, p7, p8, c1, c2, c3, c4]
          have h := run_some h
          obtain rfl : _ = r := h
          refine FinH.l ?_
          simp -failIfUnchanged only [↓RA, RB, RS, fx107, p1, p2, p3, p4, reduceIte, p5, p6, p7, p8, c1, c2, c3, c4]
        · replace h := run_f c4 h
          simp -failIfUnchanged only [↓RA, RB, RS, fx107, p1, p2, p3, p4, reduceIte, p5, p6, p7, p8, c1, c2, c3, c4]
          have h := run_some h
          obtain rfl : _ = r := h
          refine FinH.l ?_
          simp -failIfUnchanged only [↓RA, RB, RS, fx107, p1, p2, p3, p4, reduceIte, p5, p6, p7, p8, c1, c2, c3, c4]
      · replace h := run_f c3 h
        simp -failIfUnchanged only [↓RA, RB, RS, fx107, p1, p2, p3, p4, reduceIte, p5, p6, p7, p8, c1, c2, c3]
        have h := run_some h
        obtain rfl : _ = r := h
        refine FinH.l ?_
        simp -failIfUnchanged only [↓RA, RB, RS, fx107, p1, p2, p3, p4, reduceIte, p5, p6, p7, p8, c1, c2, c3]
    · replace h := run_f c2 h
      simp -failIfUnchanged only [↓RA, RB, RS, fx107, p1, p2, p3, p4, reduceIte, p5, p6, p7, p8, c1, c2]
      have h := run_some h
      obtain rfl : _ = r := h
      refine FinH.l ?_
      simp -failIfUnchanged only [↓RA, RB, RS, fx107, p1, p2, p3, p4, reduceIte, p5, p6, p7, p8, c1, c2]
  · replace h := run_f c1 h
    simp -failIfUnchanged only [↓RA, RB, RS, fx107, p1, p2, p3, p4, reduceIte, p5, p6, p7, p8, c1]
    obtain ⟨v30, hv30, h⟩ := run_bind h
    refine CallH.mk [false] (spec_l2Symbol_sat hv30) ?_ ?_ <;> simp -failIfUnchanged only [↓RA, RB, RS, fx107, p1, p2, p3, p4, reduceIte, p5, p6, p7, p8, c1]
    refine CondH.mk (fun c5 => ?_) (fun c5 => ?_)
    · replace h := run_t c5 h
      simp -failIfUnchanged only [↓RA, RB, RS, fx107, p1, p2, p3, p4, reduceIte, p5, p6, p7, p8, c1, c5]
      obtain ⟨v33, hv33, h⟩ := run_bind h
      refine CallH.mk [false] (spec_l2Good_sat hv33) ?_ ?_ <;> simp -failIfUnchanged only [↓RA, RB, RS, fx107, p1, p2, p3, p4, reduceIte, p5, p6, p7, p8, c1, c5]
      have h := run_some h
      obtain rfl : _ = r := h
      refine FinH.l ?_
      simp -failIfUnchanged only [↓RA, RB, RS, fx107, p1, p2, p3, p4, reduceIte, p5, p6, p7, p8, c1, c5]
    · replace h := run_f c5 h
      simp -failIfUnchanged only [↓RA, RB, RS, fx107, p1, p2, p3, p4, reduceIte, p5, p6, p7, p8, c1, c5]
      have h := run_some h
      obtain rfl : _ = r := h
      refine FinH.l ?_
      simp -failIfUnchanged only [↓RA, RB, RS, fx107, p1, p2, p3, p4, reduceIte, p5, p6, p7, p8, c1, c5]

def fx90 := And.intro @ty_3 <| And.intro @zc_3 <| And.intro @z_3 <| And.intro @ty_9 <| And.intro @zc_9 <| And.intro @z_9 <| And.intro @u_9 <| And.intro @ty_34 <| And.intro @zc_34 <| And.intro @z_34 <| And.intro @fo_34_0 <| And.intro @fi_34_0 <| And.intro @ft_34_0 <| And.intro @fo_34_1 <| And.intro @fi_34_1 <| And.intro @ft_34_1 <| And.intro @lay_34 <| And.intro @ty_35 <| And.intro @zc_35 <| And.intro @z_35 <| And.intro @es_35 <| And.intro @eb_35 <| And.intro @sl_35 <| And.intro @is_35 <| And.intro @el_35 <| And.intro @ze_35 <| And.intro @ez_35 <| And.intro @ty_37 <| And.intro @zc_37 <| And.intro @z_37 <| And.intro @fo_37_0 <| And.intro @fi_37_0 <| And.intro @ft_37_0 <| And.intro @fo_37_1 <| And.intro @fi_37_1 <| And.intro @ft_37_1 <| And.intro @fo_37_2 <| And.intro @fi_37_2 <| And.intro @ft_37_2 <| And.intro @fo_37_3 <| And.intro @fi_37_3 <| And.intro @ft_37_3 <| @lay_37
set_option maxHeartbeats 4000000 in
theorem spec_l8Form_sat {a0 : Formula}  {r : Bool} (h : spec_l8Form a0 = some r) : Sat Tryz.prog 90 [((Formula.pv false) a0)] (B r) := by
  replace h := Run.of h
  unfold spec_l8Form at h
  refine Sat.of_m (nt := 83) (rs := [.tmp 2]) (n := 100000) Tryz.func90 rfl rfl rfl rfl (by simp) ?_
  simp -failIfUnchanged only [↓RA, RB, RS, fx90, p1, p2, p3, p4, reduceIte, p5, p6, p7, p8]
  repeat (first | with_reducible refine noR_and (by repeat (first | exact noR_empty _ _ | exact noR_nilS _ _ | refine noR_mk _ _ _ _ _ rfl ?_ | refine noR_mkS _ _ _ _ _ rfl ?_)) ?_ | with_reducible refine noC_and (by repeat (first | exact noC_empty _ _ (by simp -failIfUnchanged only [↓RA, RB, RS, fx90, p1, p2, p3, p4, reduceIte, p5, p6, p7, p8]) | exact noC_nilS _ _ (by simp -failIfUnchanged only [↓RA, RB, RS, fx90, p1, p2, p3, p4, reduceIte, p5, p6, p7, p8]) | refine noC_mk _ _ _ _ _ rfl ?_ | refine noC_mkS _ _ _ _ _ rfl ?_)) ?_ | with_reducible refine and_ac ?_ | with_reducible refine And.intro (a := _ = List.range _) (by rfl) ?_)
  refine CondH.mk (fun c1 => ?_) (fun c1 => ?_)
  · replace h := run_t c1 h
    simp -failIfUnchanged only [↓RA, RB, RS, fx90, p1, p2, p3, p4, reduceIte, p5, p6, p7, p8, c1]
    refine CondH.mk (fun c2 => ?_) (fun c2 => ?_)
    · replace h := run_t c2 h
      simp -failIfUnchanged only [↓RA, RB, RS, fx90, p1, p2, p3, p4, reduceIte, p5, p6, p7, p8, c1, c2]
      obtain ⟨v17, hv17, h⟩ := run_bind h
      refine CallH.mk [false] (spec_l8None_sat hv17) ?_ ?_ <;> simp -failIfUnchanged only [↓RA, RB, RS, fx90, p1, p2, p3, p4, reduceIte, p5, p6, p7, p8, c1, c2]
      refine CondH.mk (fun c3 => ?_) (fun c3 => ?_)
      · replace h := run_t c3 h
        simp -failIfUnchanged only [↓RA, RB, RS, fx90, p1, p2, p3, p4, reduceIte, p5, p6, p7, p8, c1, c2, c3]
        have h := run_some h
        obtain rfl : _ = r := h
        refine FinH.l ?_
        simp -failIfUnchanged only [↓RA, RB, RS, fx90, p1, p2, p3, p4, reduceIte, p5, p6, p7, p8, c1, c2, c3]
      · replace h := run_f c3 h
        simp -failIfUnchanged only [↓RA, RB, RS, fx90, p1, p2, p3, p4, reduceIte, p5, p6, p7, p8, c1, c2, c3]
        have h := run_some h
        obtain rfl : _ = r := h
        refine FinH.l ?_
        simp -failIfUnchanged only [↓RA, RB, RS, fx90, p1, p2, p3, p4, reduceIte, p5, p6, p7, p8, c1, c2, c3]
    · replace h := run_f c2 h
      simp -failIfUnchanged only [↓RA, RB, RS, fx90, p1, p2, p3, p4, reduceIte, p5, p6, p7, p8, c1, c2]
      have h := run_some h
      obtain rfl : _ = r := h
      refine FinH.l ?_
      simp -failIfUnchanged only [↓RA, RB, RS, fx90, p1, p2, p3, p4, reduceIte, p5, p6, p7, p8, c1, c2]
  · replace h := run_f c1 h
    simp -failIfUnchanged only [↓RA, RB, RS, fx90, p1, p2, p3, p4, reduceIte, p5, p6, p7, p8, c1]
    refine CondH.mk (fun c4 => ?_) (fun c4 => ?_)
    · replace h := run_t c4 h
      simp -failIfUnchanged only [↓RA, RB, RS, fx90, p1, p2, p3, p4, reduceIte, p5, p6, p7, p8, c1, c4]
      refine CondH.mk (fun c5 => ?_) (fun c5 => ?_)
      · replace h := run_t c5 h
        simp -failIfUnchanged only [↓RA, RB, RS, fx90, p1, p2, p3, p4, reduceIte, p5, p6, p7, p8, c1, c4, c5]
        obtain ⟨v17, hv17, h⟩ := run_bind h
        refine CallH.mk [false] (spec_l8None_sat hv17) ?_ ?_ <;> simp -failIfUnchanged only [↓RA, RB, RS, fx90, p1, p2, p3, p4, reduceIte, p5, p6, p7, p8, c1, c4, c5]
        refine CondH.mk (fun c6 => ?_) (fun c6 => ?_)
        · replace h := run_t c6 h
          simp -failIfUnchanged only [↓RA, RB, RS, fx90, p1, p2, p3, p4, reduceIte, p5, p6, p7, p8, c1, c4, c5, c6]
          have h := run_some h
          obtain rfl : _ = r := h
          refine FinH.l ?_
          simp -failIfUnchanged only [↓RA, RB, RS, fx90, p1, p2, p3, p4, reduceIte, p5, p6, p7, p8, c1, c4, c5, c6]
        · replace h := run_f c6 h
          simp -failIfUnchanged only [↓RA, RB, RS, fx90, p1, p2, p3, p4, reduceIte, p5, p6, p7, p8, c1, c4, c5, c6]
          have h := run_some h
          obtain rfl : _ = r := h
          refine FinH.l ?_
          simp -failIfUnchanged only [↓RA, RB, RS, fx90, p1, p2, p3, p4, reduceIte, p5, p6, p7, p8, c1, c4, c5, c6]
      · replace h := run_f c5 h
        simp -failIfUnchanged only [↓RA, RB, RS, fx90, p1, p2, p3, p4, reduceIte, p5, p6, p7, p8, c1, c4, c5]
        have h := run_some h
        obtain rfl : _ = r := h
        refine FinH.l ?_
        simp -failIfUnchanged only [↓RA, RB, RS, fx90, p1, p2, p3, p4, reduceIte, p5, p6, p7, p8, c1, c4, c5]
    · replace h := run_f c4 h
      simp -failIfUnchanged only [↓RA, RB, RS, fx90, p1, p2, p3, p4, reduceIte, p5, p6, p7, p8, c1, c4]
      refine CondH.mk (fun c7 => ?_) (fun c7 => ?_)
      · replace h := run_t c7 h
        simp -failIfUnchanged only [↓RA, RB, RS, fx90, p1, p2, p3, p4, reduceIte, p5, p6, p7, p8, c1, c4, c7]
        refine CondH.mk (fun c8 => ?_) (fun c8 => ?_)
        · replace h := run_t c8 h
          simp -failIfUnchanged only [↓RA, RB, RS, fx90, p1, p2, p3, p4, reduceIte, p5, p6, p7, p8, c1, c4, c7, c8]
          obtain ⟨v31, hv31, h⟩ := run_bind h
          refine CallH.mk [false] (spec_l2Atom_sat hv31) ?_ ?_ <;> simp -failIfUnchanged only [↓RA, RB, RS, fx90, p1, p2, p3, p4, reduceIte, p5, p6, p7, p8, c1, c4, c7, c8]
          refine CondH.mk (fun c9 => ?_) (fun c9 => ?_)
          · replace h := run_t c9 h
            simp -failIfUnchanged only [↓RA, RB, RS, fx90, p1, p2, p3, p4, reduceIte, p5, p6, p7, p8, c1, c4, c7, c8, c9]
            have h := run_some h
            obtain rfl : _ = r := h
            refine FinH.l ?_
            simp -failIfUnchanged only [↓RA, RB, RS, fx90, p1, p2, p3, p4, reduceIte, p5, p6, p7, p8, c1, c4, c7, c8, c9]
          · replace h := run_f c9 h
            simp -failIfUnchanged only [↓RA, RB, RS, fx90, p1, p2, p3, p4, reduceIte, p5, p6, p7, p8, c1, c4, c7, c8, c9]
            have h := run_some h
            obtain rfl : _ = r := h
            refine FinH.l ?_
            simp -failIfUnchanged only [↓RA, RB, RS, fx90, p1, p2, p3, p4, reduceIte, p5, p6, p7, p8, c1, c4, c7, c8, c9]
        · replace h := run_f c8 h
          simp -failIfUnchanged only [↓RA, RB, RS, fx90, p1, p2, p3, p4, reduceIte, p5, p6, p7, p8, c1, c4, c7, c8]
          have h := run_some h
          obtain rfl : _ = r := h
          refine FinH.l ?_
          simp -failIfUnchanged only [↓RA, RB, RS, fx90, p1, p2, p3, p4, reduceIte, p5, p6, p7, p8, c1, c4, c7, c8]
      · replace h := run_f c7 h
        simp -failIfUnchanged only [↓RA, RB, RS, fx90, p1, p2, p3, p4, reduceIte, p5, p6, p7, p8, c1, c4, c7]
        refine CondH.mk (fun c10 => ?_) (fun c10 => ?_)
        · replace h := run_t c10 h
          simp -failIfUnchanged only [↓RA, RB, RS, fx90, p1, p2, p3, p4, reduceIte, p5, p6, p7, p8, c1, c4, c7, c10]
          refine CondH.mk (fun c11 => ?_) (fun c11 => ?_)
          · replace h := run_t c11 h
            simp -failIfUnchanged only [↓RA, RB, RS, fx90, p1, p2, p3, p4, reduceIte, p5, p6, p7, p8, c1, c4, c7, c10, c11]
            obtain ⟨v45, hv45, h⟩ := run_bind h
            refine CallH.mk [false] (spec_l8None_sat hv45) ?_ ?_ <;> simp -failIfUnchanged only [↓RA, RB, RS, fx90, p1, p2, p3, p4, reduceIte, p5, p6, p7, p8, c1, c4, c7, c10, c11]
            refine CondH.mk (fun c12 => ?_) (fun c12 => ?_)
            · replace h := run_t c12 h
              simp -failIfUnchanged only [↓RA, RB, RS, fx90, p1, p2, p3, p4, reduceIte, p5, p6, p7, p8, c1, c4, c7, c10, c11, c12]
              have h := run_some h
              obtain rfl : _ = r := h
              refine FinH.l ?_
              simp -failIfUnchanged only [↓RA, RB, RS, fx90, p1, p2, p3, p4, reduceIte, p5, p6, p7, p8, c1, c4, c7, c10, c11, c12]
            · replace h := run_f c12 h
              simp -failIfUnchanged only [↓RA, RB, RS, fx90, p1, p2, p3, p4, reduceIte, p5, p6, p7, p8, c1, c4, c7, c10, c11, c12]
              have h := run_some h
              obtain rfl : _ = r := h
              refine FinH.l ?_
              simp -failIfUnchanged only [↓RA, RB, RS, fx90, p1, p2, p3, p4, reduceIte, p5, p6, p7, p8, c1, c4, c7, c10, c11, c12]
          · replace h := run_f c11 h
            simp -failIfUnchanged only [↓RA, RB, RS, fx90, p1, p2, p3, p4, reduceIte, p5, p6, p7, p8, c1, c4, c7, c10, c11]
            have h := run_some h
            obtain rfl : _ = r := h
            refine FinH.l ?_
            simp -failIfUnchanged only [↓RA, RB, RS, fx90, p1, p2, p3, p4, reduceIte, p5, p6, p7, p8, c1, c4, c7, c10, c11]
        · replace h := run_f c10 h
          simp -failIfUnchanged only [↓RA, RB, RS, fx90, p1, p2, p3, p4, reduceIte, p5, p6, p7, p8, c1, c4, c7, c10]
          refine CondH.mk (fun c13 => ?_) (fun c13 => ?_)
          · replace h := run_t c13 h
            simp -failIfUnchanged only [↓RA, RB, RS, fx90, p1, p2, p3, p4, reduceIte, p5, p6, p7, p8, c1, c4, c7, c10, c13]
            refine CondH.mk (fun c14 => ?_) (fun c14 => ?_)
            · replace h := run_t c14 h
              simp -failIfUnchanged only [↓RA, RB, RS, fx90, p1, p2, p3, p4, reduceIte, p5, p6, p7, p8, c1, c4, c7, c10, c13, c14]
              obtain ⟨v61, hv61, h⟩ := run_bind h
              refine CallH.mk [false] (spec_l8None_sat hv61) ?_ ?_ <;> simp -failIfUnchanged only [↓RA, RB, RS, fx90, p1, p2, p3, p4, reduceIte, p5, p6, p7, p8, c1, c4, c7, c10, c13, c14]
              refine CondH.mk (fun c15 => ?_) (fun c15 => ?_)
              · replace h := run_t c15 h
                simp -failIfUnchanged only [↓RA, RB, RS, fx90, p1, p2, p3, p4, reduceIte, p5, p6, p7, p8, c1, c4, c7, c10, c13, c14, c15]
                have h := run_some h
                obtain rfl : _ = r := h
                refine FinH.l ?_
                simp -failIfUnchanged only [↓RA, RB, RS, fx90, p1, p2, p3, p4, reduceIte, p5, p6, p7, p8, c1, c4, c7, c10, c13, c14, c15]
              · replace h := run_f c15 h
                simp -failIfUnchanged only [↓RA, RB, RS, fx90, p1, p2, p3, p4, reduceIte, p5, p6, p7, p8, c1, c4, c7, c10, c13, c14, c15]
                have h := run_some h
                obtain rfl : _ = r := h
                refine FinH.l ?_
                simp -failIfUnchanged only [↓RA, RB, RS, fx90, p1, p2, p3, p4, reduceIte, p5, p6, p7, p8, c1, c4, c7, c10, c13, c14, c15]
            · replace h := run_f c14 h
              simp -failIfUnchanged only [↓RA, RB, RS, fx90, p1, p2, p3, p4, reduceIte, p5, p6, p7, p8, c1, c4, c7, c10, c13, c14]
              have h := run_some h
              obtain rfl : _ = r := h
              refine FinH.l ?_
              simp -failIfUnchanged only [↓RA, RB, RS, fx90, p1, p2, p3, p4, reduceIte, p5, p6, p7, p8, c1, c4, c7, c10, c13, c14]
          · replace h := run_f c13 h
            simp -failIfUnchanged only [↓RA, RB, RS, fx90, p1, p2, p3, p4, reduceIte, p5, p6, p7, p8, c1, c4, c7, c10, c13]
            refine CondH.mk (fun c16 => ?_) (fun c16 => ?_)
            · replace h := run_t c16 h
              simp -failIfUnchanged only [↓RA, RB, RS, fx90, p1, p2, p3, p4, reduceIte, p5, p6, p7, p8, c1, c4, c7, c10, c13, c16]
              refine CondH.mk (fun c17 => ?_) (fun c17 => ?_)
              · replace h := run_t c17 h
                simp -failIfUnchanged only [↓RA, RB, RS, fx90, p1, p2, p3, p4, reduceIte, p5, p6, p7, p8, c1, c4, c7, c10, c13, c16, c17]
                obtain ⟨v61, hv61, h⟩ := run_bind h
                refine CallH.mk [false] (spec_l8None_sat hv61) ?_ ?_ <;> simp -failIfUnchanged only [↓RA, RB, RS, fx90, p1, p2, p3, p4, reduceIte, p5, p6, p7, p8, c1, c4, c7, c10, c13, c16, c17]
                refine CondH.mk (fun c18 => ?_) (fun c18 => ?_)
                · replace h := run_t c18 h
                  simp -failIfUnchanged only [↓RA, RB, RS, fx90, p1, p2, p3, p4, reduceIte, p5, p6, p7, p8, c1, c4, c7, c10, c13, c16, c17, c18]
                  have h := run_some h
                  obtain rfl : _ = r := h
                  refine FinH.l ?_
                  simp -failIfUnchanged only [↓RA, RB, RS, fx90, p1, p2, p3, p4, reduceIte, p5, p6, p7, p8, c1, c4, c7, c10, c13, c16, c17, c18]
                · replace h := run_f c18 h
                  simp -failIfUnchanged only [↓RA, RB, RS, fx90, p1, p2, p3, p4, reduceIte, p5, p6, p7, p8, c1, c4, c7, c10, c13, c16, c17, c18]
                  have h := run_some h
                  obtain rfl : _ = r := h
                  refine FinH.l ?_
                  simp -failIfUnchanged only [↓RA, RB, RS, fx90, p1, p2, p3, p4, reduceIte, p5, p6, p7, p8, c1, c4, c7, c10, c13, c16, c17, c18]
              · replace h := run_f c17 h
                simp -failIfUnchanged only [↓RA, RB, RS, fx90, p1, p2, p3, p4, reduceIte, p5, p6, p7, p8, c1, c4, c7, c10, c13, c16, c17]
                have h := run_some h
                obtain rfl : _ = r := h
                refine FinH.l ?_
                simp -failIfUnchanged only [↓RA, RB, RS, fx90, p1, p2, p3, p4, reduceIte, p5, p6, p7, p8, c1, c4, c7, c10, c13, c16, c17]
            · replace h := run_f c16 h
              simp -failIfUnchanged only [↓RA, RB, RS, fx90, p1, p2, p3, p4, reduceIte, p5, p6, p7, p8, c1, c4, c7, c10, c13, c16]
              refine CondH.mk (fun c19 => ?_) (fun c19 => ?_)
              · replace h := run_t c19 h
                simp -failIfUnchanged only [↓RA, RB, RS, fx90, p1, p2, p3, p4, reduceIte, p5, p6, p7, p8, c1, c4, c7, c10, c13, c16, c19]
                refine CondH.mk (fun c20 => ?_) (fun c20 => ?_)
                · replace h := run_t c20 h
                  simp -failIfUnchanged only [↓RA, RB, RS, fx90, p1, p2, p3, p4, reduceIte, p5, p6, p7, p8, c1, c4, c7, c10, c13, c16, c19, c20]
                  obtain ⟨v61, hv61, h⟩ := run_bind h
                  refine CallH.mk [false] (spec_l8None_sat hv61) ?_ ?_ <;> simp -failIfUnchanged only [↓RA, RB, RS, fx90, p1, p2, p3, p4, reduceIte, p5, p6, p7, p8, c1, c4, c7, c10, c13, c16, c19, c20]
                  refine CondH.mk (fun c21 => ?_) (fun c21 => ?_)
                  · replace h := run_t c21 h
                    simp -failIfUnchanged only [↓RA, RB, RS, fx90, p1, p2, p3, p4, reduceIte, p5, p6, p7, p8, c1, c4, c7, c10, c13, c16, c19, c20, c21]
                    have h := run_some h
                    obtain rfl : _ = r := h
                    refine FinH.l ?_
                    simp -failIfUnchanged only [↓RA, RB, RS, fx90, p1, p2, p3, p4, reduceIte, p5, p6, p7, p8, c1, c4, c7, c10, c13, c16, c19, c20, c21]
                  · replace h := run_f c21 h
                    simp -failIfUnchanged only [↓RA, RB, RS, fx90, p1, p2, p3, p4, reduceIte, p5, p6, p7, p8, c1, c4, c7, c10, c13, c16, c19, c20, c21]
                    have h := run_some h
                    obtain rfl : _ = r := h
                    refine FinH.l ?_
                    simp -failIfUnchanged only [↓RA, RB, RS, fx90, p1, p2, p3, p4, reduceIte, p5, p6, p7, p8, c1, c4, c7, c10, c13, c16, c19, c20, c21]
                · replace h := run_f c20 h
                  simp -failIfUnchanged only [↓RA, RB, RS, fx90, p1, p2, p3, p4, reduceIte, p5, p6, p7, p8, c1, c4, c7, c10, c13, c16, c19, c20]
                  have h := run_some h
                  obtain rfl : _ = r := h
                  refine FinH.l ?_
                  simp -failIfUnchanged only [↓RA, RB, RS, fx90, p1, p2, p3, p4, reduceIte, p5, p6, p7, p8, c1, c4, c7, c10, c13, c16, c19, c20]
              · replace h := run_f c19 h
                simp -failIfUnchanged only [↓RA, RB, RS, fx90, p1, p2, p3, p4, reduceIte, p5, p6, p7, p8, c1, c4, c7, c10, c13, c16, c19]
                refine CondH.mk (fun c22 => ?_) (fun c22 => ?_)
                · replace h := run_t c22 h
                  simp -failIfUnchanged only [↓RA, RB, RS, fx90, p1, p2, p3, p4, reduceIte, p5, p6, p7, p8, c1, c4, c7, c10, c13, c16, c19, c22]
                  refine CondH.mk (fun c23 => ?_) (fun c23 => ?_)
                  · replace h := run_t c23 h
                    simp -failIfUnchanged only [↓RA, RB, RS, fx90, p1, p2, p3, p4, reduceIte, p5, p6, p7, p8, c1, c4, c7, c10, c13, c16, c19, c22, c23]
                    obtain ⟨v76, hv76, h⟩ := run_bind h
                    refine CallH.mk [false] (spec_l8None_sat hv76) ?_ ?_ <;> simp -failIfUnchanged only [↓RA, RB, RS, fx90, p1, p2, p3, p4, reduceIte, p5, p6, p7, p8, c1, c4, c7, c10, c13, c16, c19, c22, c23]
                    refine CondH.mk (fun c24 => ?_) (fun c24 => ?_)
                    · replace h := run_t c24 h
                      simp -failIfUnchanged only [↓RA, RB, RS, fx90, p1, p2, p3, p4, reduceIte, p5, p6, p7, p8, c1, c4, c7, c10, c13, c16, c19, c22, c23, c24]
                      obtain ⟨v81, hv81, h⟩ := run_bind h
                      refine CallH.mk [false] (spec_l2Var_sat hv81) ?_ ?_ <;> simp -failIfUnchanged only [↓RA, RB, RS, fx90, p1, p2, p3, p4, reduceIte, p5, p6, p7, p8, c1, c4, c7, c10, c13, c16, c19, c22, c23, c24]
                      have h := run_some h
                      obtain rfl : _ = r := h
                      refine FinH.l ?_
                      simp -failIfUnchanged only [↓RA, RB, RS, fx90, p1, p2, p3, p4, reduceIte, p5, p6, p7, p8, c1, c4, c7, c10, c13, c16, c19, c22, c23, c24]
                    · replace h := run_f c24 h
                      simp -failIfUnchanged only [↓RA, RB, RS, fx90, p1, p2, p3, p4, reduceIte, p5, p6, p7, p8, c1, c4, c7, c10, c13, c16, c19, c22, c23, c24]
                      have h := run_some h
                      obtain rfl : _ = r := h
                      refine FinH.l ?_
                      simp -failIfUnchanged only [↓RA, RB, RS, fx90, p1, p2, p3, p4, reduceIte, p5, p6, p7, p8, c1, c4, c7, c10, c13, c16, c19, c22, c23, c24]
                  · replace h := run_f c23 h
                    simp -failIfUnchanged only [↓RA, RB, RS, fx90, p1, p2, p3, p4, reduceIte, p5, p6, p7, p8, c1, c4, c7, c10, c13, c16, c19, c22, c23]
                    have h := run_some h
                    obtain rfl : _ = r := h
                    refine FinH.l ?_
                    simp -failIfUnchanged only [↓RA, RB, RS, fx90, p1, p2, p3, p4, reduceIte, p5, p6, p7, p8, c1, c4, c7, c10, c13, c16, c19, c22, c23]
                · replace h := run_f c22 h
                  simp -failIfUnchanged only [↓RA, RB, RS, fx90, p1, p2, p3, p4, reduceIte, p5, p6, p7, p8, c1, c4, c7, c10, c13, c16, c19, c22]
                  refine CondH.mk (fun c25 => ?_) (fun c25 => ?_)
                  · replace h := run_t c25 h
                    simp -failIfUnchanged only [↓RA, RB, RS, fx90, p1, p2, p3, p4, reduceIte, p5, p6, p7, p8, c1, c4, c7, c10, c13, c16, c19, c22, c25]
                    refine CondH.mk (fun c26 => ?_) (fun c26 => ?_)
                    · replace h := run_t c26 h
                      simp -failIfUnchanged only [↓RA, RB, RS, fx90, p1, p2, p3, p4, reduceIte, p5, p6, p7, p8, c1, c4, c7, c10, c13, c16, c19, c22, c25, c26]
                      obtain ⟨v76, hv76, h⟩ := run_bind h
                      refine CallH.mk [false] (spec_l8None_sat hv76) ?_ ?_ <;> simp -failIfUnchanged only [↓RA, RB, RS, fx90, p1, p2, p3, p4, reduceIte, p5, p6, p7, p8, c1, c4, c7, c10, c13, c16, c19, c22, c25, c26]
                      refine CondH.mk (fun c27 => ?_) (fun c27 => ?_)
                      · replace h := run_t c27 h
                        simp -failIfUnchanged only [↓RA, RB, RS, fx90, p1, p2, p3, p4, reduceIte, p5, p6, p7, p8, c1, c4, c7, c10, c13, c16, c19, c22, c25, c26, c27]
                        obtain ⟨v81, hv81, h⟩ := run_bind h
                        refine CallH.mk [false] (spec_l2Var_sat hv81) ?_ ?_ <;> simp -failIfUnchanged only [↓RA, RB, RS, fx90, p1, p2, p3, p4, reduceIte, p5, p6, p7, p8, c1, c4, c7, c10, c13, c16, c19, c22, c25, c26, c27]
                        have h := run_some h
                        obtain rfl : _ = r := h
                        refine FinH.l ?_
                        simp -failIfUnchanged only [↓RA, RB, RS, fx90, p1, p2, p3, p4, reduceIte, p5, p6, p7, p8, c1, c4, c7, c10, c13, c16, c19, c22, c25, c26, c27]
                      · replace h := run_f c27 h
                        simp -failIfUnchanged only [↓RA, RB, RS, fx90, p1, p2, p3, p4, reduceIte, p5, p6, p7, p8, c1, c4, c7, c10, c13, c16, c19, c22, c25, c26, c27]
                        have h := run_some h
                        obtain rfl : _ = r := h
                        refine FinH.l ?_
                        simp -failIfUnchanged only [↓RA, RB, RS, fx90, p1, p2, p3, p4, reduceIte, p5, p6, p7, p8, c1, c4, c7, c10, c13, c16, c19, c22, c25, c26, c27]
                    · replace h := run_f c26 h
                      simp -failIfUnchanged only [↓RA, RB, RS, fx90, p1, p2, p3, p4, reduceIte, p5, p6, p7, p8, c1, c4, c7, c10, c13, c16, c19, c22, c25, c26]
                      have h := run_some h
                      obtain rfl : _ = r := h
                      refine FinH.l ?_
                      simp -failIfUnchanged only [↓RA, RB, RS, fx90, p1, p2, p3, p4, reduceIte, p5, p6, p7, p8, c1, c4, c7, c10, c13, c16, c19, c22, c25, c26]
                  · replace h := run_f c25 h
                    simp -failIfUnchanged only [↓RA, RB, RS, fx90, p1, p2, p3, p4, reduceIte, p5, p6, p7, p8, c1, c4, c7, c10, c13, c16, c19, c22, c25]
                    have h := run_some h
                    obtain rfl : _ = r := h
                    refine FinH.l ?_
                    simp -failIfUnchanged only [↓RA, RB, RS, fx90, p1, p2, p3, p4, reduceIte, p5, p6, p7, p8, c1, c4, c7, c10, c13, c16, c19, c22, c25]

def fx78 := And.intro @ty_3 <| And.intro @zc_3 <| And.intro @z_3 <| And.intro @ty_4 <| And.intro @zc_4 <| And.intro @z_4 <| And.intro @u_4 <| And.intro @ty_35 <| And.intro @zc_35 <| And.intro @z_35 <| And.intro @es_35 <| And.intro @eb_35 <| And.intro @sl_35 <| And.intro @is_35 <| And.intro @el_35 <| And.intro @ze_35 <| And.intro @ez_35 <| And.intro @ty_37 <| And.intro @zc_37 <| And.intro @z_37 <| And.intro @fo_37_0 <| And.intro @fi_37_0 <| And.intro @ft_37_0 <| And.intro @fo_37_1 <| And.intro @fi_37_1 <| And.intro @ft_37_1 <| And.intro @fo_37_2 <| And.intro @fi_37_2 <| And.intro @ft_37_2 <| And.intro @fo_37_3 <| And.intro @fi_37_3 <| And.intro @ft_37_3 <| @lay_37
set_option maxHeartbeats 4000000 in
theorem spec_l8FormsN_sat (n : Nat) : (∀ (a0 : Formula) (r : Bool), spec_l8FormsN n a0 = some r → Sat Tryz.prog 78 [((Formula.pv false) a0)] (B r)) := by
  induction n with
  | zero => exact fun _ _ h => by simp [spec_l8FormsN] at h
  | succ n ih =>
    refine fun a0 r h => ?_
    replace h := Run.of h
    rw [spec_l8FormsN] at h
    refine Sat.of_m (nt := 21) (rs := [.tmp 2]) (n := 100000) Tryz.func78 rfl rfl rfl rfl (by simp) ?_
    simp -failIfUnchanged only [↓RA, RB, RS, fx78, p1, p2, p3, p4, reduceIte, p5, p6, p7, p8]
    repeat (first | with_reducible refine noR_and (by repeat (first | exact noR_empty _ _ | exact noR_nilS _ _ | refine noR_mk _ _ _ _ _ rfl ?_ | refine noR_mkS _ _ _ _ _ rfl ?_)) ?_ | with_reducible refine noC_and (by repeat (first | exact noC_empty _ _ (by simp -failIfUnchanged only [↓RA, RB, RS, fx78, p1, p2, p3, p4, reduceIte, p5, p6, p7, p8]) | exact noC_nilS _ _ (by simp -failIfUnchanged only [↓RA, RB, RS, fx78, p1, p2, p3, p4, reduceIte, p5, p6, p7, p8]) | refine noC_mk _ _ _ _ _ rfl ?_ | refine noC_mkS _ _ _ _ _ rfl ?_)) ?_ | with_reducible refine and_ac ?_ | with_reducible refine And.intro (a := _ = List.range _) (by rfl) ?_)
    obtain ⟨v5, hv5, h⟩ := run_bind h
    refine CallH.mk [false] (spec_l8Form_sat hv5) ?_ ?_ <;> simp -failIfUnchanged only [↓RA, RB, RS, fx78, p1, p2, p3, p4, reduceIte, p5, p6, p7, p8]
    refine CondH.mk (fun c1 => ?_) (fun c1 => ?_)
    · replace h := run_t c1 h
      simp -failIfUnchanged only [↓RA, RB, RS, fx78, p1, p2, p3, p4, reduceIte, p5, p6, p7, p8, c1]
      refine Mg.know_val2 (b := false) (sz := 5) (es := a0.Parts.map (Formula.pv false)) (x := (.pv ((Formula.pv false) a0))) 0 [3] (by simp -failIfUnchanged only [↓RA, RB, RS, fx78, p1, p2, p3, p4, reduceIte, p5, p6, p7, p8, c1]) fun hl0 => ?_; rw [List.length_map] at hl0
      replace h := run_loop h
      refine Mg.forN h (fun i4 s4 => [(1, .box (.pv ((Formula.pv false) a0))), (3, .val (.pv (I (i4 : Int))))]) (fun i4 s4 => []) (St.le_mk2 (by simp -failIfUnchanged only [↓RA, RB, RS, fx78, p1, p2, p3, p4, reduceIte, p5, p6, p7, p8, c1])) (fun i4 s4 hi h => ?_) (fun s4 h => ?_)
      · have w4 := wrap_succ (i := i4) (by omega)
        simp -failIfUnchanged only [↓RA, RB, RS, fx78, p1, p2, p3, p4, reduceIte, p5, p6, p7, p8, c1]
        refine CondH.tt (decide_eq_true (by omega)) (fun c2 => ?_)
        simp -failIfUnchanged only [↓RA, RB, RS, fx78, p1, p2, p3, p4, reduceIte, p5, p6, p7, p8, c1, c2]
        obtain ⟨v17, hv17, h⟩ := run_bind h
        refine IdxH.mk (f := (Formula.pv false)) hv17 ?_ ?_ <;> simp -failIfUnchanged only [↓RA, RB, RS, fx78, p1, p2, p3, p4, reduceIte, p5, p6, p7, p8, c1, c2]
        obtain ⟨v19, hv19, h⟩ := run_bind h
        refine CallH.mk [false] (ih _ _ hv19) ?_ ?_ <;> simp -failIfUnchanged only [↓RA, RB, RS, fx78, p1, p2, p3, p4, reduceIte, p5, p6, p7, p8, c1, c2]
        refine CondH.mk (fun c3 => ?_) (fun c3 => ?_)
        · replace h := run_t c3 h
          simp -failIfUnchanged only [↓RA, RB, RS, fx78, p1, p2, p3, p4, reduceIte, p5, p6, p7, p8, c1, c2, c3]
          have h := run_some h
          refine RdH.mk ⟨_, h, ?_⟩
          refine St.le_mk2 ?_
          simp -failIfUnchanged only [↓RA, RB, RS, fx78, p1, p2, p3, p4, reduceIte, p5, p6, p7, p8, c1, c2, c3, w4]
        · replace h := run_f c3 h
          simp -failIfUnchanged only [↓RA, RB, RS, fx78, p1, p2, p3, p4, reduceIte, p5, p6, p7, p8, c1, c2, c3]
          have h := run_some h
          obtain rfl : _ = r := h
          refine FinH.l ?_
          simp -failIfUnchanged only [↓RA, RB, RS, fx78, p1, p2, p3, p4, reduceIte, p5, p6, p7, p8, c1, c2, c3]
      · simp -failIfUnchanged only [↓RA, RB, RS, fx78, p1, p2, p3, p4, reduceIte, p5, p6, p7, p8, c1]
        refine CondH.ff (decide_eq_false (by omega)) (fun c4 => ?_)
        simp -failIfUnchanged only [↓RA, RB, RS, fx78, p1, p2, p3, p4, reduceIte, p5, p6, p7, p8, c1, c4]
        have h := run_some h
        obtain rfl : _ = r := h
        refine FinH.l ?_
        simp -failIfUnchanged only [↓RA, RB, RS, fx78, p1, p2, p3, p4, reduceIte, p5, p6, p7, p8, c1, c4]
    · replace h := run_f c1 h
      simp -failIfUnchanged only [↓RA, RB, RS, fx78, p1, p2, p3, p4, reduceIte, p5, p6, p7, p8, c1]
      have h := run_some h
      obtain rfl : _ = r := h
      refine FinH.l ?_
      simp -failIfUnchanged only [↓RA, RB, RS, fx78, p1, p2, p3, p4, reduceIte, p5, p6, p7, p8, c1]
theorem spec_l8Forms_sat {a0 : Formula} {r : Bool} (h : spec_l8Forms a0 = some r) : Sat Tryz.prog 78 [((Formula.pv false) a0)] (B r) := by
  obtain ⟨n, hn⟩ := lim_some h
  exact (spec_l8FormsN_sat n) _ _ hn

def fx51 := And.intro @ty_3 <| And.intro @zc_3 <| And.intro @z_3 <| And.intro @ty_37 <| And.intro @zc_37 <| And.intro @z_37 <| And.intro @fo_37_0 <| And.intro @fi_37_0 <| And.intro @ft_37_0 <| And.intro @fo_37_1 <| And.intro @fi_37_1 <| And.intro @ft_37_1 <| And.intro @fo_37_2 <| And.intro @fi_37_2 <| And.intro @ft_37_2 <| And.intro @fo_37_3 <| And.intro @fi_37_3 <| And.intro @ft_37_3 <| @lay_37
set_option maxHeartbeats 4000000 in
theorem spec_l8Good_sat {a0 : Formula}  {r : Bool} (h : spec_l8Good a0 = some r) : Sat Tryz.prog 51 [((Formula.pv false) a0)] (B r) := by
  replace h := Run.of h
  unfold spec_l8Good at h
  refine Sat.of_m (nt := 10) (rs := [.tmp 2]) (n := 100000) Tryz.func51 rfl rfl rfl rfl (by simp) ?_
  simp -failIfUnchanged only [↓RA, RB, RS, fx51, p1, p2, p3, p4, reduceIte, p5, p6, p7, p8]
  repeat (first | with_reducible refine noR_and (by repeat (first | exact noR_empty _ _ | exact noR_nilS _ _ | refine noR_mk _ _ _ _ _ rfl ?_ | refine noR_mkS _ _ _ _ _ rfl ?_)) ?_ | with_reducible refine noC_and (by repeat (first | exact noC_empty _ _ (by simp -failIfUnchanged only [↓RA, RB, RS, fx51, p1, p2, p3, p4, reduceIte, p5, p6, p7, p8]) | exact noC_nilS _ _ (by simp -failIfUnchanged only [↓RA, RB, RS, fx51, p1, p2, p3, p4, reduceIte, p5, p6, p7, p8]) | refine noC_mk _ _ _ _ _ rfl ?_ | refine noC_mkS _ _ _ _ _ rfl ?_)) ?_ | with_reducible refine and_ac ?_ | with_reducible refine And.intro (a := _ = List.range _) (by rfl) ?_)
  obtain ⟨v4, hv4, h⟩ := run_bind h
  refine CallH.mk [false, false] (spec_l8Many_sat hv4) ?_ ?_ <;> simp -failIfUnchanged only [↓RA, RB, RS, fx51, p1, p2, p3, p4, reduceIte, p5, p6, p7, p8]
  refine CondH.mk (fun c1 => ?_) (fun c1 => ?_)
  · replace h := run_t c1 h
    simp -failIfUnchanged only [↓RA, RB, RS, fx51, p1, p2, p3, p4, reduceIte, p5, p6, p7, p8, c1]
    obtain ⟨v8, hv8, h⟩ := run_bind h
    refine CallH.mk [false] (spec_l8Forms_sat hv8) ?_ ?_ <;> simp -failIfUnchanged only [↓RA, RB, RS, fx51, p1, p2, p3, p4, reduceIte, p5, p6, p7, p8, c1]
    have h := run_some h
    obtain rfl : _ = r := h
    refine FinH.l ?_
    simp -failIfUnchanged only [↓RA, RB, RS, fx51, p1, p2, p3, p4, reduceIte, p5, p6, p7, p8, c1]
  · replace h := run_f c1 h
    simp -failIfUnchanged only [↓RA, RB, RS, fx51, p1, p2, p3, p4, reduceIte, p5, p6, p7, p8, c1]
    have h := run_some h
    obtain rfl : _ = r := h
    refine FinH.l ?_
    simp -failIfUnchanged only [↓RA, RB, RS, fx51, p1, p2, p3, p4, reduceIte, p5, p6, p7, p8, c1]

def fx91 := And.intro @ty_3 <| And.intro @zc_3 <| And.intro @z_3 <| And.intro @ty_9 <| And.intro @zc_9 <| And.intro @z_9 <| And.intro @u_9 <| @mixedT
set_option maxHeartbeats 4000000 in
theorem spec_l1NumN_sat (n : Nat) : (∀ (a0 : Int) (r : ByteArray), spec_l1NumN n a0 = some r → Sat Tryz.prog 91 [(I a0)] (Sx r)) := by
  induction n with
  | zero => exact fun _ _ h => by simp [spec_l1NumN] at h
  | succ n ih =>
    refine fun a0 r h => ?_
    replace h := Run.of h
    rw [spec_l1NumN] at h
    refine Sat.of_m (nt := 25) (rs := [.tmp 2]) (n := 100000) Tryz.func91 rfl rfl rfl rfl (by simp) ?_
    simp -failIfUnchanged only [↓RA, RB, RS, fx91, p1, p2, p3, p4, reduceIte, p5, p6, p7, p8]
    refine CondH.mk (fun c1 => ?_) (fun c1 => ?_)
    · replace h := run_t c1 h
      simp -failIfUnchanged only [↓RA, RB, RS, fx91, p1, p2, p3, p4, reduceIte, p5, p6, p7, p8, c1]
      obtain ⟨v7, hv7, h⟩ := run_bind h
      refine CallH.mk [false] (ih _ _ hv7) ?_ ?_ <;> simp -failIfUnchanged only [↓RA, RB, RS, fx91, p1, p2, p3, p4, reduceIte, p5, p6, p7, p8, c1]
      obtain ⟨v8, hv8, h⟩ := run_bind h
      refine SappH.mk hv8 ?_
      simp -failIfUnchanged only [↓RA, RB, RS, fx91, p1, p2, p3, p4, reduceIte, p5, p6, p7, p8, c1]
      have h := run_some h
      obtain rfl : _ = r := h
      refine FinH.l ?_
      simp -failIfUnchanged only [↓RA, RB, RS, fx91, p1, p2, p3, p4, reduceIte, p5, p6, p7, p8, c1]
    · replace h := run_f c1 h
      simp -failIfUnchanged only [↓RA, RB, RS, fx91, p1, p2, p3, p4, reduceIte, p5, p6, p7, p8, c1]
      refine CondH.mk (fun c2 => ?_) (fun c2 => ?_)
      · replace h := run_t c2 h
        simp -failIfUnchanged only [↓RA, RB, RS, fx91, p1, p2, p3, p4, reduceIte, p5, p6, p7, p8, c1, c2]
        obtain ⟨v14, hv14, h⟩ := run_bind h
        refine SslcH.mk hv14 ?_
        simp -failIfUnchanged only [↓RA, RB, RS, fx91, p1, p2, p3, p4, reduceIte, p5, p6, p7, p8, c1, c2]
        have h := run_some h
        obtain rfl : _ = r := h
        refine FinH.l ?_
        simp -failIfUnchanged only [↓RA, RB, RS, fx91, p1, p2, p3, p4, reduceIte, p5, p6, p7, p8, c1, c2]
      · replace h := run_f c2 h
        simp -failIfUnchanged only [↓RA, RB, RS, fx91, p1, p2, p3, p4, reduceIte, p5, p6, p7, p8, c1, c2]
        obtain ⟨v16, hv16, h⟩ := run_bind h
        refine quoH.mk hv16 ?_
        simp -failIfUnchanged only [↓RA, RB, RS, fx91, p1, p2, p3, p4, reduceIte, p5, p6, p7, p8, c1, c2]
        obtain ⟨v17, hv17, h⟩ := run_bind h
        refine CallH.mk [false] (ih _ _ hv17) ?_ ?_ <;> simp -failIfUnchanged only [↓RA, RB, RS, fx91, p1, p2, p3, p4, reduceIte, p5, p6, p7, p8, c1, c2]
        obtain ⟨v19, hv19, h⟩ := run_bind h
        refine remH.mk hv19 ?_
        simp -failIfUnchanged only [↓RA, RB, RS, fx91, p1, p2, p3, p4, reduceIte, p5, p6, p7, p8, c1, c2]
        obtain ⟨v21, hv21, h⟩ := run_bind h
        refine remH.mk hv21 ?_
        simp -failIfUnchanged only [↓RA, RB, RS, fx91, p1, p2, p3, p4, reduceIte, p5, p6, p7, p8, c1, c2]
        obtain ⟨v23, hv23, h⟩ := run_bind h
        refine SslcH.mk hv23 ?_
        simp -failIfUnchanged only [↓RA, RB, RS, fx91, p1, p2, p3, p4, reduceIte, p5, p6, p7, p8, c1, c2]
        obtain ⟨v24, hv24, h⟩ := run_bind h
        refine SappH.mk hv24 ?_
        simp -failIfUnchanged only [↓RA, RB, RS, fx91, p1, p2, p3, p4, reduceIte, p5, p6, p7, p8, c1, c2]
        refine And.intro (DrawH.none (by rfl) (by first | rfl | (simp -failIfUnchanged only [↓RA, RB, RS, fx91, p1, p2, p3, p4, reduceIte, p5, p6, p7, p8] <;> rfl)) (by first | rfl | (simp -failIfUnchanged only [↓RA, RB, RS, fx91, p1, p2, p3, p4, reduceIte, p5, p6, p7, p8] <;> rfl)) (by first | rfl | (simp -failIfUnchanged only [↓RA, RB, RS, fx91, p1, p2, p3, p4, reduceIte, p5, p6, p7, p8] <;> rfl))) ?_
        simp -failIfUnchanged only [↓RA, RB, RS, fx91, p1, p2, p3, p4, reduceIte, p5, p6, p7, p8, c1, c2]
        have h := run_some h
        obtain rfl : _ = r := h
        refine FinH.l ?_
        simp -failIfUnchanged only [↓RA, RB, RS, fx91, p1, p2, p3, p4, reduceIte, p5, p6, p7, p8, c1, c2]
theorem spec_l1Num_sat {a0 : Int} {r : ByteArray} (h : spec_l1Num a0 = some r) : Sat Tryz.prog 91 [(I a0)] (Sx r) := by
  obtain ⟨n, hn⟩ := lim_some h
  exact (spec_l1NumN_sat n) _ _ hn

def fx79 := And.intro @ty_3 <| And.intro @zc_3 <| And.intro @z_3 <| And.intro @ty_4 <| And.intro @zc_4 <| And.intro @z_4 <| And.intro @u_4 <| And.intro @ty_5 <| And.intro @zc_5 <| And.intro @z_5 <| And.intro @ty_9 <| And.intro @zc_9 <| And.intro @z_9 <| And.intro @u_9 <| And.intro @uk_3 <| @uk_5
set_option maxHeartbeats 4000000 in
theorem spec_l1Read_sat {a0 : ByteArray}  {r : Int × Bool} (h : spec_l1Read a0 = some r) : Sat Tryz.prog 79 [(Sx a0)] (.tup [(I r.1), (B r.2)]) := by
  replace h := Run.of h
  unfold spec_l1Read at h
  refine Sat.of_m (nt := 58) (rs := [.tmp 2, .tmp 3]) (n := 100000) Tryz.func79 rfl rfl rfl rfl (by simp) ?_
  simp -failIfUnchanged only [↓RA, RB, RS, fx79, p1, p2, p3, p4, reduceIte, p5, p6, p7, p8]
  refine CondH.mk (fun c1 => ?_) (fun c1 => ?_)
  · replace h := run_t c1 h
    simp -failIfUnchanged only [↓RA, RB, RS, fx79, p1, p2, p3, p4, reduceIte, p5, p6, p7, p8, c1]
    obtain ⟨v13, hv13, h⟩ := run_bind h
    refine SidxH.mk hv13 ?_
    simp -failIfUnchanged only [↓RA, RB, RS, fx79, p1, p2, p3, p4, reduceIte, p5, p6, p7, p8, c1]
    refine CondH.mk (fun c2 => ?_) (fun c2 => ?_)
    · replace h := run_t c2 h
      simp -failIfUnchanged only [↓RA, RB, RS, fx79, p1, p2, p3, p4, reduceIte, p5, p6, p7, p8, c1, c2]
      obtain ⟨v17, hv17, h⟩ := run_bind h
      refine SslcH.mk hv17 ?_
      simp -failIfUnchanged only [↓RA, RB, RS, fx79, p1, p2, p3, p4, reduceIte, p5, p6, p7, p8, c1, c2]
      obtain ⟨v20, hv20, h⟩ := run_bind h
      refine CallH.mk [false, false, false] (spec_l1In_sat hv20) ?_ ?_ <;> simp -failIfUnchanged only [↓RA, RB, RS, fx79, p1, p2, p3, p4, reduceIte, p5, p6, p7, p8, c1, c2]
      refine CondH.mk (fun c3 => ?_) (fun c3 => ?_)
      · replace h := run_t c3 h
        simp -failIfUnchanged only [↓RA, RB, RS, fx79, p1, p2, p3, p4, reduceIte, p5, p6, p7, p8, c1, c2, c3]
        obtain ⟨N8, hN8, h⟩ := run_bind h
        obtain ⟨hN8a, hN8b⟩ := bnd_some hN8
        replace h := run_loop h
        refine Mg.forN h (fun i8 s8 => [(0, .val (.pv (Sx a0))), (4, .val (.pv (Sx v17))), (5, .val (.pv (I s8))), (6, .val (.pv (I (i8 : Int))))]) (fun i8 s8 => []) (St.le_mk2 (by simp -failIfUnchanged only [↓RA, RB, RS, fx79, p1, p2, p3, p4, reduceIte, p5, p6, p7, p8, c1, c2, c3])) (fun i8 s8 hi h => ?_) (fun s8 h => ?_)
        · have w8 := wrap_succ (i := i8) (by omega)
          simp -failIfUnchanged only [↓RA, RB, RS, fx79, p1, p2, p3, p4, reduceIte, p5, p6, p7, p8, c1, c2, c3]
          refine CondH.tt (decide_eq_true (by omega)) (fun c4 => ?_)
          simp -failIfUnchanged only [↓RA, RB, RS, fx79, p1, p2, p3, p4, reduceIte, p5, p6, p7, p8, c1, c2, c3, c4]
          obtain ⟨v30, hv30, h⟩ := run_bind h
          refine SidxH.mk hv30 ?_
          simp -failIfUnchanged only [↓RA, RB, RS, fx79, p1, p2, p3, p4, reduceIte, p5, p6, p7, p8, c1, c2, c3, c4]
          refine CondH.mk (fun c5 => ?_) (fun c5 => ?_)
          · replace h := run_t c5 h
            simp -failIfUnchanged only [↓RA, RB, RS, fx79, p1, p2, p3, p4, reduceIte, p5, p6, p7, p8, c1, c2, c3, c4, c5]
            have h := run_some h
            obtain rfl : _ = r := h
            refine FinH.l ?_
            simp -failIfUnchanged only [↓RA, RB, RS, fx79, p1, p2, p3, p4, reduceIte, p5, p6, p7, p8, c1, c2, c3, c4, c5]
          · replace h := run_f c5 h
            simp -failIfUnchanged only [↓RA, RB, RS, fx79, p1, p2, p3, p4, reduceIte, p5, p6, p7, p8, c1, c2, c3, c4, c5]
            obtain ⟨v35, hv35, h⟩ := run_bind h
            refine SidxH.mk hv35 ?_
            simp -failIfUnchanged only [↓RA, RB, RS, fx79, p1, p2, p3, p4, reduceIte, p5, p6, p7, p8, c1, c2, c3, c4, c5]
            refine CondH.mk (fun c6 => ?_) (fun c6 => ?_)
            · replace h := run_t c6 h
              simp -failIfUnchanged only [↓RA, RB, RS, fx79, p1, p2, p3, p4, reduceIte, p5, p6, p7, p8, c1, c2, c3, c4, c5, c6]
              have h := run_some h
              obtain rfl : _ = r := h
              refine FinH.l ?_
              simp -failIfUnchanged only [↓RA, RB, RS, fx79, p1, p2, p3, p4, reduceIte, p5, p6, p7, p8, c1, c2, c3, c4, c5, c6]
            · replace h := run_f c6 h
              simp -failIfUnchanged only [↓RA, RB, RS, fx79, p1, p2, p3, p4, reduceIte, p5, p6, p7, p8, c1, c2, c3, c4, c5, c6]
              obtain ⟨v42, hv42, h⟩ := run_bind h
              refine SidxH.mk hv42 ?_
              simp -failIfUnchanged only [↓RA, RB, RS, fx79, p1, p2, p3, p4, reduceIte, p5, p6, p7, p8, c1, c2, c3, c4, c5, c6]
              have h := run_some h
              refine RdH.mk ⟨_, h, ?_⟩
              refine St.le_mk2 ?_
              simp -failIfUnchanged only [↓RA, RB, RS, fx79, p1, p2, p3, p4, reduceIte, p5, p6, p7, p8, c1, c2, c3, c4, c5, c6, w8]
        · simp -failIfUnchanged only [↓RA, RB, RS, fx79, p1, p2, p3, p4, reduceIte, p5, p6, p7, p8, c1, c2, c3]
          refine CondH.ff (decide_eq_false (by omega)) (fun c7 => ?_)
          simp -failIfUnchanged only [↓RA, RB, RS, fx79, p1, p2, p3, p4, reduceIte, p5, p6, p7, p8, c1, c2, c3, c7]
          refine CondH.mk (fun c8 => ?_) (fun c8 => ?_)
          · replace h := run_t c8 h
            simp -failIfUnchanged only [↓RA, RB, RS, fx79, p1, p2, p3, p4, reduceIte, p5, p6, p7, p8, c1, c2, c3, c7, c8]
            obtain ⟨v54, hv54, h⟩ := run_bind h
            refine CallH.mk [false] (spec_l1Num_sat hv54) ?_ ?_ <;> simp -failIfUnchanged only [↓RA, RB, RS, fx79, p1, p2, p3, p4, reduceIte, p5, p6, p7, p8, c1, c2, c3, c7, c8]
            refine CondH.mk (fun c9 => ?_) (fun c9 => ?_)
            · replace h := run_t c9 h
              simp -failIfUnchanged only [↓RA, RB, RS, fx79, p1, p2, p3, p4, reduceIte, p5, p6, p7, p8, c1, c2, c3, c7, c8, c9]
              have h := run_some h
              obtain rfl : _ = r := h
              refine FinH.l ?_
              simp -failIfUnchanged only [↓RA, RB, RS, fx79, p1, p2, p3, p4, reduceIte, p5, p6, p7, p8, c1, c2, c3, c7, c8, c9]
            · replace h := run_f c9 h
              simp -failIfUnchanged only [↓RA, RB, RS, fx79, p1, p2, p3, p4, reduceIte, p5, p6, p7, p8, c1, c2, c3, c7, c8, c9]
              have h := run_some h
              obtain rfl : _ = r := h
              refine FinH.l ?_
              simp -failIfUnchanged only [↓RA, RB, RS, fx79, p1, p2, p3, p4, reduceIte, p5, p6, p7, p8, c1, c2, c3, c7, c8, c9]
          · replace h := run_f c8 h
            simp -failIfUnchanged only [↓RA, RB, RS, fx79, p1, p2, p3, p4, reduceIte, p5, p6, p7, p8, c1, c2, c3, c7, c8]
            obtain ⟨v54, hv54, h⟩ := run_bind h
            refine CallH.mk [false] (spec_l1Num_sat hv54) ?_ ?_ <;> simp -failIfUnchanged only [↓RA, RB, RS, fx79, p1, p2, p3, p4, reduceIte, p5, p6, p7, p8, c1, c2, c3, c7, c8]
            refine CondH.mk (fun c10 => ?_) (fun c10 => ?_)
            · replace h := run_t c10 h
              simp -failIfUnchanged only [↓RA, RB, RS, fx79, p1, p2, p3, p4, reduceIte, p5, p6, p7, p8, c1, c2, c3, c7, c8, c10]
              have h := run_some h
              obtain rfl : _ = r := h
              refine FinH.l ?_
              simp -failIfUnchanged only [↓RA, RB, RS, fx79, p1, p2, p3, p4, reduceIte, p5, p6, p7, p8, c1, c2, c3, c7, c8, c10]
            · replace h := run_f c10 h
              simp -failIfUnchanged only [↓RA, RB, RS, fx79, p1, p2, p3, p4, reduceIte, p5, p6, p7, p8, c1, c2, c3, c7, c8, c10]
              have h := run_some h
              obtain rfl : _ = r := h
              refine FinH.l ?_
              simp -failIfUnchanged only [↓RA, RB, RS, fx79, p1, p2, p3, p4, reduceIte, p5, p6, p7, p8, c1, c2, c3, c7, c8, c10]
      · replace h := run_f c3 h
        simp -failIfUnchanged only [↓RA, RB, RS, fx79, p1, p2, p3, p4, reduceIte, p5, p6, p7, p8, c1, c2, c3]
        have h := run_some h
        obtain rfl : _ = r := h
        refine FinH.l ?_
        simp -failIfUnchanged only [↓RA, RB, RS, fx79, p1, p2, p3, p4, reduceIte, p5, p6, p7, p8, c1, c2, c3]
    · replace h := run_f c2 h
      simp -failIfUnchanged only [↓RA, RB, RS, fx79, p1, p2, p3, p4, reduceIte, p5, p6, p7, p8, c1, c2]
      obtain ⟨v20, hv20, h⟩ := run_bind h
      refine CallH.mk [false, false, false] (spec_l1In_sat hv20) ?_ ?_ <;> simp -failIfUnchanged only [↓RA, RB, RS, fx79, p1, p2, p3, p4, reduceIte, p5, p6, p7, p8, c1, c2]
      refine CondH.mk (fun c11 => ?_) (fun c11 => ?_)
      · replace h := run_t c11 h
        simp -failIfUnchanged only [↓RA, RB, RS, fx79, p1, p2, p3, p4, reduceIte, p5, p6, p7, p8, c1, c2, c11]
        obtain ⟨N8, hN8, h⟩ := run_bind h
        obtain ⟨hN8a, hN8b⟩ := bnd_some hN8
        replace h := run_loop h
        refine Mg.forN h (fun i8 s8 => [(0, .val (.pv (Sx a0))), (4, .val (.pv (Sx a0))), (5, .val (.pv (I s8))), (6, .val (.pv (I (i8 : Int))))]) (fun i8 s8 => []) (St.le_mk2 (by simp -failIfUnchanged only [↓RA, RB, RS, fx79, p1, p2, p3, p4, reduceIte, p5, p6, p7, p8, c1, c2, c11])) (fun i8 s8 hi h => ?_) (fun s8 h => ?_)
        · have w8 := wrap_succ (i := i8) (by omega)
          simp -failIfUnchanged only [↓RA, RB, RS, fx79, p1, p2, p3, p4, reduceIte, p5, p6, p7, p8, c1, c2, c11]
          refine CondH.tt (decide_eq_true (by omega)) (fun c12 => ?_)
          simp -failIfUnchanged only [↓RA, RB, RS, fx79, p1, p2, p3, p4, reduceIte, p5, p6, p7, p8, c1, c2, c11, c12]
          obtain ⟨v30, hv30, h⟩ := run_bind h
          refine SidxH.mk hv30 ?_
          simp -failIfUnchanged only [↓RA, RB, RS, fx79, p1, p2, p3, p4, reduceIte, p5, p6, p7, p8, c1, c2, c11, c12]
          refine CondH.mk (fun c13 => ?_) (fun c13 => ?_)
          · replace h := run_t c13 h
            simp -failIfUnchanged only [↓RA, RB, RS, fx79, p1, p2, p3, p4, reduceIte, p5, p6, p7, p8, c1, c2, c11, c12, c13]
            have h := run_some h
            obtain rfl : _ = r := h
            refine FinH.l ?_
            simp -failIfUnchanged only [↓RA, RB, RS, fx79, p1, p2, p3, p4, reduceIte, p5, p6, p7, p8, c1, c2, c11, c12, c13]
          · replace h := run_f c13 h
            simp -failIfUnchanged only [↓RA, RB, RS, fx79, p1, p2, p3, p4, reduceIte, p5, p6, p7, p8, c1, c2, c11, c12, c13]
            obtain ⟨v35, hv35, h⟩ := run_bind h
            refine SidxH.mk hv35 ?_
            simp -failIfUnchanged only [↓RA, RB, RS, fx79, p1, p2, p3, p4, reduceIte, p5, p6, p7, p8, c1, c2, c11, c12, c13]
            refine CondH.mk (fun c14 => ?_) (fun c14 => ?_)
            · replace h := run_t c14 h
              simp -failIfUnchanged only [↓RA, RB, RS, fx79, p1, p2, p3, p4, reduceIte, p5, p6, p7, p8, c1, c2, c11, c12, c13, c14]
              have h := run_some h
              obtain rfl : _ = r := h
              refine FinH.l ?_
              simp -failIfUnchanged only [↓RA, RB, RS, fx79, p1, p2, p3, p4, reduceIte, p5, p6, p7, p8, c1, c2, c11, c12, c13, c14]
            · replace h := run_f c14 h
              simp -failIfUnchanged only [↓RA, RB, RS, fx79, p1, p2, p3, p4, reduceIte, p5, p6, p7, p8, c1, c2, c11, c12, c13, c14]
              obtain ⟨v42, hv42, h⟩ := run_bind h
              refine SidxH.mk hv42 ?_
              simp -failIfUnchanged only [↓RA, RB, RS, fx79, p1, p2, p3, p4, reduceIte, p5, p6, p7, p8, c1, c2, c11, c12, c13, c14]
              have h := run_some h
              refine RdH.mk ⟨_, h, ?_⟩
              refine St.le_mk2 ?_
              simp -failIfUnchanged only [↓RA, RB, RS, fx79, p1, p2, p3, p4, reduceIte, p5, p6, p7, p8, c1, c2, c11, c12, c13, c14, w8]
        · simp -failIfUnchanged only [↓RA, RB, RS, fx79, p1, p2, p3, p4, reduceIte, p5, p6, p7, p8, c1, c2, c11]
          refine CondH.ff (decide_eq_false (by omega)) (fun c15 => ?_)
          simp -failIfUnchanged only [↓RA, RB, RS, fx79, p1, p2, p3, p4, reduceIte, p5, p6, p7, p8, c1, c2, c11, c15]
          refine CondH.mk (fun c16 => ?_) (fun c16 => ?_)
          · replace h := run_t c16 h
            simp -failIfUnchanged only [↓RA, RB, RS, fx79, p1, p2, p3, p4, reduceIte, p5, p6, p7, p8, c1, c2, c11, c15, c16]
            obtain ⟨v54, hv54, h⟩ := run_bind h
            refine CallH.mk [false] (spec_l1Num_sat hv54) ?_ ?_ <;> simp -failIfUnchanged only [↓RA, RB, RS, fx79, p1, p2, p3, p4, reduceIte, p5, p6, p7, p8, c1, c2, c11, c15, c16]
            refine CondH.mk (fun c17 => ?_) (fun c17 => ?_)
            · replace h := run_t c17 h
              simp -failIfUnchanged only [↓RA, RB, RS, fx79, p1, p2, p3, p4, reduceIte, p5, p6, p7, p8, c1, c2, c11, c15, c16, c17]
              have h := run_some h
              obtain rfl : _ = r := h
              refine FinH.l ?_
              simp -failIfUnchanged only [↓RA, RB, RS, fx79, p1, p2, p3, p4, reduceIte, p5, p6, p7, p8, c1, c2, c11, c15, c16, c17]
            · replace h := run_f c17 h
              simp -failIfUnchanged only [↓RA, RB, RS, fx79, p1, p2, p3, p4, reduceIte, p5, p6, p7, p8, c1, c2, c11, c15, c16, c17]
              have h := run_some h
              obtain rfl : _ = r := h
              refine FinH.l ?_
              simp -failIfUnchanged only [↓RA, RB, RS, fx79, p1, p2, p3, p4, reduceIte, p5, p6, p7, p8, c1, c2, c11, c15, c16, c17]
          · replace h := run_f c16 h
            simp -failIfUnchanged only [↓RA, RB, RS, fx79, p1, p2, p3, p4, reduceIte, p5, p6, p7, p8, c1, c2, c11, c15, c16]
            obtain ⟨v54, hv54, h⟩ := run_bind h
            refine CallH.mk [false] (spec_l1Num_sat hv54) ?_ ?_ <;> simp -failIfUnchanged only [↓RA, RB, RS, fx79, p1, p2, p3, p4, reduceIte, p5, p6, p7, p8, c1, c2, c11, c15, c16]
            refine CondH.mk (fun c18 => ?_) (fun c18 => ?_)
            · replace h := run_t c18 h
              simp -failIfUnchanged only [↓RA, RB, RS, fx79, p1, p2, p3, p4, reduceIte, p5, p6, p7, p8, c1, c2, c11, c15, c16, c18]
              have h := run_some h
              obtain rfl : _ = r := h
              refine FinH.l ?_
              simp -failIfUnchanged only [↓RA, RB, RS, fx79, p1, p2, p3, p4, reduceIte, p5, p6, p7, p8, c1, c2, c11, c15, c16, c18]
            · replace h := run_f c18 h
              simp -failIfUnchanged only [↓RA, RB, RS, fx79, p1, p2, p3, p4, reduceIte, p5, p6, p7, p8, c1, c2, c11, c15, c16, c18]
              have h := run_some h
              obtain rfl : _ = r := h
              refine FinH.l ?_
              simp -failIfUnchanged only [↓RA, RB, RS, fx79, p1, p2, p3, p4, reduceIte, p5, p6, p7, p8, c1, c2, c11, c15, c16, c18]
      · replace h := run_f c11 h
        simp -failIfUnchanged only [↓RA, RB, RS, fx79, p1, p2, p3, p4, reduceIte, p5, p6, p7, p8, c1, c2, c11]
        have h := run_some h
        obtain rfl : _ = r := h
        refine FinH.l ?_
        simp -failIfUnchanged only [↓RA, RB, RS, fx79, p1, p2, p3, p4, reduceIte, p5, p6, p7, p8, c1, c2, c11]
  · replace h := run_f c1 h
    simp -failIfUnchanged only [↓RA, RB, RS, fx79, p1, p2, p3, p4, reduceIte, p5, p6, p7, p8, c1]
    obtain ⟨v20, hv20, h⟩ := run_bind h
    refine CallH.mk [false, false, false] (spec_l1In_sat hv20) ?_ ?_ <;> simp -failIfUnchanged only [↓RA, RB, RS, fx79, p1, p2, p3, p4, reduceIte, p5, p6, p7, p8, c1]
    refine CondH.mk (fun c19 => ?_) (fun c19 => ?_)
    · replace h := run_t c19 h
      simp -failIfUnchanged only [↓RA, RB, RS, fx79, p1, p2, p3, p4, reduceIte, p5, p6, p7, p8, c1, c19]
      obtain ⟨N8, hN8, h⟩ := run_bind h
      obtain ⟨hN8a, hN8b⟩ := bnd_some hN8
      replace h := run_loop h
      refine Mg.forN h (fun i8 s8 => [(0, .val (.pv (Sx a0))), (4, .val (.pv (Sx a0))), (5, .val (.pv (I s8))), (6, .val (.pv (I (i8 : Int))))]) (fun i8 s8 => []) (St.le_mk2 (by simp -failIfUnchanged only [↓RA, RB, RS, fx79, p1, p2, p3, p4, reduceIte, p5, p6, p7, p8, c1, c19])) (fun i8 s8 hi h => ?_) (fun s8 h => ?_)
      · have w8 := wrap_succ (i := i8) (by omega)
        simp -failIfUnchanged only [↓RA, RB, RS, fx79, p1, p2, p3, p4, reduceIte, p5, p6, p7, p8, c1, c19]
        refine CondH.tt (decide_eq_true (by omega)) (fun c20 => ?_)
        simp -failIfUnchanged only [↓RA, RB, RS, fx79, p1, p2, p3, p4, reduceIte, p5, p6, p7, p8, c1, c19, c20]
        obtain ⟨v30, hv30, h⟩ := run_bind h
        refine SidxH.mk hv30 ?_
        simp -failIfUnchanged only [↓RA, RB, RS, fx79, p1, p2, p3, p4, reduceIte, p5, p6, p7, p8, c1, c19, c20]
        refine CondH.mk (fun c21 => ?_) (fun c21 => ?_)
        · replace h := run_t c21 h
          simp -failIfUnchanged only [↓RA, RB, RS, fx79, p1, p2, p3, p4, reduceIte, p5, p6, p7, p8, c1, c19, c20, c21]
          have h := run_some h
          obtain rfl : _ = r := h
          refine FinH.l ?_
          simp -failIfUnchanged only [↓RA, RB, RS, fx79, p1, p2, p3, p4, reduceIte, p5, p6, p7, p8, c1, c19, c20, c21]
        · replace h := run_f c21 h
          simp -failIfUnchanged only [↓RA, RB, RS, fx79, p1, p2, p3, p4, reduceIte, p5, p6, p7, p8, c1, c19, c20, c21]
          obtain ⟨v35, hv35, h⟩ := run_bind h
          refine SidxH.mk hv35 ?_
          simp -failIfUnchanged only [↓RA, RB, RS, fx79, p1, p2, p3, p4, reduceIte, p5, p6, p7, p8, c1, c19, c20, c21]
          refine CondH.mk (fun c22 => ?_) (fun c22 => ?_)
          · replace h := run_t c22 h
            simp -failIfUnchanged only [↓RA, RB, RS, fx79, p1, p2, p3, p4, reduceIte, p5, p6, p7, p8, c1, c19, c20, c21, c22]
            have h := run_some h
            obtain rfl : _ = r := h
            refine FinH.l ?_
            simp -failIfUnchanged only [↓RA, RB, RS, fx79, p1, p2, p3, p4, reduceIte, p5, p6, p7, p8, c1, c19, c20, c21, c22]
          · replace h := run_f c22 h
            simp -failIfUnchanged only [↓RA, RB, RS, fx79, p1, p2, p3, p4, reduceIte, p5, p6, p7, p8, c1, c19, c20, c21, c22]
            obtain ⟨v42, hv42, h⟩ := run_bind h
            refine SidxH.mk hv42 ?_
            simp -failIfUnchanged only [↓RA, RB, RS, fx79, p1, p2, p3, p4, reduceIte, p5, p6, p7, p8, c1, c19, c20, c21, c22]
            have h := run_some h
            refine RdH.mk ⟨_, h, ?_⟩
            refine St.le_mk2 ?_
            simp -failIfUnchanged only [↓RA, RB, RS, fx79, p1, p2, p3, p4, reduceIte, p5, p6, p7, p8, c1, c19, c20, c21, c22, w8]
      · simp -failIfUnchanged only [↓RA, RB, RS, fx79, p1, p2, p3, p4, reduceIte, p5, p6, p7, p8, c1, c19]
        refine CondH.ff (decide_eq_false (by omega)) (fun c23 => ?_)
        simp -failIfUnchanged only [↓RA, RB, RS, fx79, p1, p2, p3, p4, reduceIte, p5, p6, p7, p8, c1, c19, c23]
        refine CondH.mk (fun c24 => ?_) (fun c24 => ?_)
        · replace h := run_t c24 h
          simp -failIfUnchanged only [↓RA, RB, RS, fx79, p1, p2, p3, p4, reduceIte, p5, p6, p7, p8, c1, c19, c23, c24]
          obtain ⟨v54, hv54, h⟩ := run_bind h
          refine CallH.mk [false] (spec_l1Num_sat hv54) ?_ ?_ <;> simp -failIfUnchanged only [↓RA, RB, RS, fx79, p1, p2, p3, p4, reduceIte, p5, p6, p7, p8, c1, c19, c23, c24]
          refine CondH.mk (fun c25 => ?_) (fun c25 => ?_)
          · replace h := run_t c25 h
            simp -failIfUnchanged only [↓RA, RB, RS, fx79, p1, p2, p3, p4, reduceIte, p5, p6, p7, p8, c1, c19, c23, c24, c25]
            have h := run_some h
            obtain rfl : _ = r := h
            refine FinH.l ?_
            simp -failIfUnchanged only [↓RA, RB, RS, fx79, p1, p2, p3, p4, reduceIte, p5, p6, p7, p8, c1, c19, c23, c24, c25]
          · replace h := run_f c25 h
            simp -failIfUnchanged only [↓RA, RB, RS, fx79, p1, p2, p3, p4, reduceIte, p5, p6, p7, p8, c1, c19, c23, c24, c25]
            have h := run_some h
            obtain rfl : _ = r := h
            refine FinH.l ?_
            simp -failIfUnchanged only [↓RA, RB, RS, fx79, p1, p2, p3, p4, reduceIte, p5, p6, p7, p8, c1, c19, c23, c24, c25]
        · replace h := run_f c24 h
          simp -failIfUnchanged only [↓RA, RB, RS, fx79, p1, p2, p3, p4, reduceIte, p5, p6, p7, p8, c1, c19, c23, c24]
          obtain ⟨v54, hv54, h⟩ := run_bind h
          refine CallH.mk [false] (spec_l1Num_sat hv54) ?_ ?_ <;> simp -failIfUnchanged only [↓RA, RB, RS, fx79, p1, p2, p3, p4, reduceIte, p5, p6, p7, p8, c1, c19, c23, c24]
          refine CondH.mk (fun c26 => ?_) (fun c26 => ?_)
          · replace h := run_t c26 h
            simp -failIfUnchanged only [↓RA, RB, RS, fx79, p1, p2, p3, p4, reduceIte, p5, p6, p7, p8, c1, c19, c23, c24, c26]
            have h := run_some h
            obtain rfl : _ = r := h
            refine FinH.l ?_
            simp -failIfUnchanged only [↓RA, RB, RS, fx79, p1, p2, p3, p4, reduceIte, p5, p6, p7, p8, c1, c19, c23, c24, c26]
          · replace h := run_f c26 h
            simp -failIfUnchanged only [↓RA, RB, RS, fx79, p1, p2, p3, p4, reduceIte, p5, p6, p7, p8, c1, c19, c23, c24, c26]
            have h := run_some h
            obtain rfl : _ = r := h
            refine FinH.l ?_
            simp -failIfUnchanged only [↓RA, RB, RS, fx79, p1, p2, p3, p4, reduceIte, p5, p6, p7, p8, c1, c19, c23, c24, c26]
    · replace h := run_f c19 h
      simp -failIfUnchanged only [↓RA, RB, RS, fx79, p1, p2, p3, p4, reduceIte, p5, p6, p7, p8, c1, c19]
      have h := run_some h
      obtain rfl : _ = r := h
      refine FinH.l ?_
      simp -failIfUnchanged only [↓RA, RB, RS, fx79, p1, p2, p3, p4, reduceIte, p5, p6, p7, p8, c1, c19]

def fx55 := And.intro @ty_3 <| And.intro @zc_3 <| And.intro @z_3 <| And.intro @ty_4 <| And.intro @zc_4 <| And.intro @z_4 <| And.intro @u_4 <| And.intro @ty_5 <| And.intro @zc_5 <| And.intro @z_5 <| And.intro @ty_9 <| And.intro @zc_9 <| And.intro @z_9 <| And.intro @u_9 <| And.intro @ty_32 <| And.intro @zc_32 <| And.intro @z_32 <| And.intro @es_32 <| And.intro @eb_32 <| And.intro @sl_32 <| And.intro @is_32 <| And.intro @el_32 <| And.intro @ze_32 <| And.intro @ez_32 <| And.intro @ty_34 <| And.intro @zc_34 <| And.intro @z_34 <| And.intro @fo_34_0 <| And.intro @fi_34_0 <| And.intro @ft_34_0 <| And.intro @fo_34_1 <| And.intro @fi_34_1 <| And.intro @ft_34_1 <| @lay_34
set_option maxHeartbeats 4000000 in
theorem spec_l20Variable_sat {a0 : Term}  {r : Int} (h : spec_l20Variable a0 = some r) : Sat Tryz.prog 55 [((Term.pv false) a0)] (I r) := by
  replace h := Run.of h
  unfold spec_l20Variable at h
  refine Sat.of_m (nt := 36) (rs := [.tmp 2]) (n := 100000) Tryz.func55 rfl rfl rfl rfl (by simp) ?_
  simp -failIfUnchanged only [↓RA, RB, RS, fx55, p1, p2, p3, p4, reduceIte, p5, p6, p7, p8]
  repeat (first | with_reducible refine noR_and (by repeat (first | exact noR_empty _ _ | exact noR_nilS _ _ | refine noR_mk _ _ _ _ _ rfl ?_ | refine noR_mkS _ _ _ _ _ rfl ?_)) ?_ | with_reducible refine noC_and (by repeat (first | exact noC_empty _ _ (by simp -failIfUnchanged only [↓RA, RB, RS, fx55, p1, p2, p3, p4, reduceIte, p5, p6, p7, p8]) | exact noC_nilS _ _ (by simp -failIfUnchanged only [↓RA, RB, RS, fx55, p1, p2, p3, p4, reduceIte, p5, p6, p7, p8]) | refine noC_mk _ _ _ _ _ rfl ?_ | refine noC_mkS _ _ _ _ _ rfl ?_)) ?_ | with_reducible refine and_ac ?_ | with_reducible refine And.intro (a := _ = List.range _) (by rfl) ?_)
  refine CondH.mk (fun c1 => ?_) (fun c1 => ?_)
  · replace h := run_t c1 h
    simp -failIfUnchanged only [↓RA, RB, RS, fx55, p1, p2, p3, p4, reduceIte, p5, p6, p7, p8, c1]
    have h := run_some h
    obtain rfl : _ = r := h
    refine FinH.l ?_
    simp -failIfUnchanged only [↓RA, RB, RS, fx55, p1, p2, p3, p4, reduceIte, p5, p6, p7, p8, c1]
  · replace h := run_f c1 h
    simp -failIfUnchanged only [↓RA, RB, RS, fx55, p1, p2, p3, p4, reduceIte, p5, p6, p7, p8, c1]
    refine CondH.mk (fun c2 => ?_) (fun c2 => ?_)
    · replace h := run_t c2 h
      simp -failIfUnchanged only [↓RA, RB, RS, fx55, p1, p2, p3, p4, reduceIte, p5, p6, p7, p8, c1, c2]
      have h := run_some h
      obtain rfl : _ = r := h
      refine FinH.l ?_
      simp -failIfUnchanged only [↓RA, RB, RS, fx55, p1, p2, p3, p4, reduceIte, p5, p6, p7, p8, c1, c2]
    · replace h := run_f c2 h
      simp -failIfUnchanged only [↓RA, RB, RS, fx55, p1, p2, p3, p4, reduceIte, p5, p6, p7, p8, c1, c2]
      obtain ⟨v18, hv18, h⟩ := run_bind h
      refine SidxH.mk hv18 ?_
      simp -failIfUnchanged only [↓RA, RB, RS, fx55, p1, p2, p3, p4, reduceIte, p5, p6, p7, p8, c1, c2]
      refine CondH.mk (fun c3 => ?_) (fun c3 => ?_)
      · replace h := run_t c3 h
        simp -failIfUnchanged only [↓RA, RB, RS, fx55, p1, p2, p3, p4, reduceIte, p5, p6, p7, p8, c1, c2, c3]
        obtain ⟨v24, hv24, h⟩ := run_bind h
        refine SslcH.mk hv24 ?_
        simp -failIfUnchanged only [↓RA, RB, RS, fx55, p1, p2, p3, p4, reduceIte, p5, p6, p7, p8, c1, c2, c3]
        obtain ⟨v25, hv25, h⟩ := run_bind h
        refine CallH.mk [false] (spec_l1Read_sat hv25) ?_ ?_ <;> simp -failIfUnchanged only [↓RA, RB, RS, fx55, p1, p2, p3, p4, reduceIte, p5, p6, p7, p8, c1, c2, c3]
        refine CondH.mk (fun c4 => ?_) (fun c4 => ?_)
        · replace h := run_t c4 h
          simp -failIfUnchanged only [↓RA, RB, RS, fx55, p1, p2, p3, p4, reduceIte, p5, p6, p7, p8, c1, c2, c3, c4]
          obtain ⟨v32, hv32, h⟩ := run_bind h
          refine CallH.mk [false, false, false] (spec_l1In_sat hv32) ?_ ?_ <;> simp -failIfUnchanged only [↓RA, RB, RS, fx55, p1, p2, p3, p4, reduceIte, p5, p6, p7, p8, c1, c2, c3, c4]
          refine CondH.mk (fun c5 => ?_) (fun c5 => ?_)
          · replace h := run_t c5 h
            simp -failIfUnchanged only [↓RA, RB, RS, fx55, p1, p2, p3, p4, reduceIte, p5, p6, p7, p8, c1, c2, c3, c4, c5]
            have h := run_some h
            obtain rfl : _ = r := h
            refine FinH.l ?_
            simp -failIfUnchanged only [↓RA, RB, RS, fx55, p1, p2, p3, p4, reduceIte, p5, p6, p7, p8, c1, c2, c3, c4, c5]
          · replace h := run_f c5 h
            simp -failIfUnchanged only [↓RA, RB, RS, fx55, p1, p2, p3, p4, reduceIte, p5, p6, p7, p8, c1, c2, c3, c4, c5]
            have h := run_some h
            obtain rfl : _ = r := h
            refine FinH.l ?_
            simp -failIfUnchanged only [↓RA, RB, RS, fx55, p1, p2, p3, p4, reduceIte, p5, p6, p7, p8, c1, c2, c3, c4, c5]
        · replace h := run_f c4 h
          simp -failIfUnchanged only [↓RA, RB, RS, fx55, p1, p2, p3, p4, reduceIte, p5, p6, p7, p8, c1, c2, c3, c4]
          have h := run_some h
          obtain rfl : _ = r := h
          refine FinH.l ?_
          simp -failIfUnchanged only [↓RA, RB, RS, fx55, p1, p2, p3, p4, reduceIte, p5, p6, p7, p8, c1, c2, c3, c4]
      · replace h := run_f c3 h
        simp -failIfUnchanged only [↓RA, RB, RS, fx55, p1, p2, p3, p4, reduceIte, p5, p6, p7, p8, c1, c2, c3]
        have h := run_some h
        obtain rfl : _ = r := h
        refine FinH.l ?_
        simp -failIfUnchanged only [↓RA, RB, RS, fx55, p1, p2, p3, p4, reduceIte, p5, p6, p7, p8, c1, c2, c3]

def fx52 := And.intro @ty_3 <| And.intro @zc_3 <| And.intro @z_3 <| And.intro @ty_4 <| And.intro @zc_4 <| And.intro @z_4 <| And.intro @u_4 <| And.intro @ty_34 <| And.intro @zc_34 <| And.intro @z_34 <| And.intro @fo_34_0 <| And.intro @fi_34_0 <| And.intro @ft_34_0 <| And.intro @fo_34_1 <| And.intro @fi_34_1 <| And.intro @ft_34_1 <| And.intro @lay_34 <| And.intro @ty_35 <| And.intro @zc_35 <| And.intro @z_35 <| And.intro @es_35 <| And.intro @eb_35 <| And.intro @sl_35 <| And.intro @is_35 <| And.intro @el_35 <| And.intro @ze_35 <| And.intro @ez_35 <| And.intro @ty_37 <| And.intro @zc_37 <| And.intro @z_37 <| And.intro @fo_37_0 <| And.intro @fi_37_0 <| And.intro @ft_37_0 <| And.intro @fo_37_1 <| And.intro @fi_37_1 <| And.intro @ft_37_1 <| And.intro @fo_37_2 <| And.intro @fi_37_2 <| And.intro @ft_37_2 <| And.intro @fo_37_3 <| And.intro @fi_37_3 <| And.intro @ft_37_3 <| @lay_37
set_option maxHeartbeats 4000000 in
theorem spec_l20FormN_sat (n : Nat) : (∀ (a0 : Formula) (r : Bool), spec_l20FormN n a0 = some r → Sat Tryz.prog 52 [((Formula.pv false) a0)] (B r)) := by
  induction n with
  | zero => exact fun _ _ h => by simp [spec_l20FormN] at h
  | succ n ih =>
    refine fun a0 r h => ?_
    replace h := Run.of h
    rw [spec_l20FormN] at h
    refine Sat.of_m (nt := 33) (rs := [.tmp 2]) (n := 100000) Tryz.func52 rfl rfl rfl rfl (by simp) ?_
    simp -failIfUnchanged only [↓RA, RB, RS, fx52, p1, p2, p3, p4, reduceIte, p5, p6, p7, p8]
    repeat (first | with_reducible refine noR_and (by repeat (first | exact noR_empty _ _ | exact noR_nilS _ _ | refine noR_mk _ _ _ _ _ rfl ?_ | refine noR_mkS _ _ _ _ _ rfl ?_)) ?_ | with_reducible refine noC_and (by repeat (first | exact noC_empty _ _ (by simp -failIfUnchanged only [↓RA, RB, RS, fx52, p1, p2, p3, p4, reduceIte, p5, p6, p7, p8]) | exact noC_nilS _ _ (by simp -failIfUnchanged only [↓RA, RB, RS, fx52, p1, p2, p3, p4, reduceIte, p5, p6, p7, p8]) | refine noC_mk _ _ _ _ _ rfl ?_ | refine noC_mkS _ _ _ _ _ rfl ?_)) ?_ | with_reducible refine and_ac ?_ | with_reducible refine And.intro (a := _ = List.range _) (by rfl) ?_)
    refine CondH.mk (fun c1 => ?_) (fun c1 => ?_)
    · replace h := run_t c1 h
      simp -failIfUnchanged only [↓RA, RB, RS, fx52, p1, p2, p3, p4, reduceIte, p5, p6, p7, p8, c1]
      obtain ⟨v9, hv9, h⟩ := run_bind h
      refine CallH.mk [false] (spec_l20Variable_sat hv9) ?_ ?_ <;> simp -failIfUnchanged only [↓RA, RB, RS, fx52, p1, p2, p3, p4, reduceIte, p5, p6, p7, p8, c1]
      have h := run_some h
      obtain rfl : _ = r := h
      refine FinH.l ?_
      simp -failIfUnchanged only [↓RA, RB, RS, fx52, p1, p2, p3, p4, reduceIte, p5, p6, p7, p8, c1]
    · replace h := run_f c1 h
      simp -failIfUnchanged only [↓RA, RB, RS, fx52, p1, p2, p3, p4, reduceIte, p5, p6, p7, p8, c1]
      refine CondH.mk (fun c2 => ?_) (fun c2 => ?_)
      · replace h := run_t c2 h
        simp -failIfUnchanged only [↓RA, RB, RS, fx52, p1, p2, p3, p4, reduceIte, p5, p6, p7, p8, c1, c2]
        have h := run_some h
        obtain rfl : _ = r := h
        refine FinH.l ?_
        simp -failIfUnchanged only [↓RA, RB, RS, fx52, p1, p2, p3, p4, reduceIte, p5, p6, p7, p8, c1, c2]
      · replace h := run_f c2 h
        simp -failIfUnchanged only [↓RA, RB, RS, fx52, p1, p2, p3, p4, reduceIte, p5, p6, p7, p8, c1, c2]
        refine CondH.mk (fun c3 => ?_) (fun c3 => ?_)
        · replace h := run_t c3 h
          simp -failIfUnchanged only [↓RA, RB, RS, fx52, p1, p2, p3, p4, reduceIte, p5, p6, p7, p8, c1, c2, c3]
          have h := run_some h
          obtain rfl : _ = r := h
          refine FinH.l ?_
          simp -failIfUnchanged only [↓RA, RB, RS, fx52, p1, p2, p3, p4, reduceIte, p5, p6, p7, p8, c1, c2, c3]
        · replace h := run_f c3 h
          simp -failIfUnchanged only [↓RA, RB, RS, fx52, p1, p2, p3, p4, reduceIte, p5, p6, p7, p8, c1, c2, c3]
          refine Mg.know_val2 (b := false) (sz := 5) (es := a0.Parts.map (Formula.pv false)) (x := (.pv ((Formula.pv false) a0))) 0 [3] (by simp -failIfUnchanged only [↓RA, RB, RS, fx52, p1, p2, p3, p4, reduceIte, p5, p6, p7, p8, c1, c2, c3]) fun hl0 => ?_; rw [List.length_map] at hl0
          replace h := run_loop h
          refine Mg.forN h (fun i6 s6 => [(1, .box (.pv ((Formula.pv false) a0))), (3, .val (.pv (I (i6 : Int))))]) (fun i6 s6 => []) (St.le_mk2 (by simp -failIfUnchanged only [↓RA, RB, RS, fx52, p1, p2, p3, p4, reduceIte, p5, p6, p7, p8, c1, c2, c3])) (fun i6 s6 hi h => ?_) (fun s6 h => ?_)
          · have w6 := wrap_succ (i := i6) (by omega)
            simp -failIfUnchanged only [↓RA, RB, RS, fx52, p1, p2, p3, p4, reduceIte, p5, p6, p7, p8, c1, c2, c3]
            refine CondH.tt (decide_eq_true (by omega)) (fun c4 => ?_)
            simp -failIfUnchanged only [↓RA, RB, RS, fx52, p1, p2, p3, p4, reduceIte, p5, p6, p7, p8, c1, c2, c3, c4]
            obtain ⟨v29, hv29, h⟩ := run_bind h
            refine IdxH.mk (f := (Formula.pv false)) hv29 ?_ ?_ <;> simp -failIfUnchanged only [↓RA, RB, RS, fx52, p1, p2, p3, p4, reduceIte, p5, p6, p7, p8, c1, c2, c3, c4]
            obtain ⟨v31, hv31, h⟩ := run_bind h
            refine CallH.mk [false] (ih _ _ hv31) ?_ ?_ <;> simp -failIfUnchanged only [↓RA, RB, RS, fx52, p1, p2, p3, p4, reduceIte, p5, p6, p7, p8, c1, c2, c3, c4]
            refine CondH.mk (fun c5 => ?_) (fun c5 => ?_)
            · replace h := run_t c5 h
              simp -failIfUnchanged only [↓RA, RB, RS, fx52, p1, p2, p3, p4, reduceIte, p5, p6, p7, p8, c1, c2, c3, c4, c5]
              have h := run_some h
              refine RdH.mk ⟨_, h, ?_⟩
              refine St.le_mk2 ?_
              simp -failIfUnchanged only [↓RA, RB, RS, fx52, p1, p2, p3, p4, reduceIte, p5, p6, p7, p8, c1, c2, c3, c4, c5, w6]
            · replace h := run_f c5 h
              simp -failIfUnchanged only [↓RA, RB, RS, fx52, p1, p2, p3, p4, reduceIte, p5, p6, p7, p8, c1, c2, c3, c4, c5]
              have h := run_some h
              obtain rfl : _ = r := h
              refine FinH.l ?_
              simp -failIfUnchanged only [↓RA, RB, RS, fx52, p1, p2, p3, p4, reduceIte, p5, p6, p7, p8, c1, c2, c3, c4, c5]
          · simp -failIfUnchanged only [↓RA, RB, RS, fx52, p1, p2, p3, p4, reduceIte, p5, p6, p7, p8, c1, c2, c3]
            refine CondH.ff (decide_eq_false (by omega)) (fun c6 => ?_)
            simp -failIfUnchanged only [↓RA, RB, RS, fx52, p1, p2, p3, p4, reduceIte, p5, p6, p7, p8, c1, c2, c3, c6]
            have h := run_some h
            obtain rfl : _ = r := h
            refine FinH.l ?_
            simp -failIfUnchanged only [↓RA, RB, RS, fx52, p1, p2, p3, p4, reduceIte, p5, p6, p7, p8, c1, c2, c3, c6]
theorem spec_l20Form_sat {a0 : Formula} {r : Bool} (h : spec_l20Form a0 = some r) : Sat Tryz.prog 52 [((Formula.pv false) a0)] (B r) := by
  obtain ⟨n, hn⟩ := lim_some h
  exact (spec_l20FormN_sat n) _ _ hn

def fx22 := And.intro @ty_37 <| And.intro @zc_37 <| And.intro @z_37 <| And.intro @fo_37_0 <| And.intro @fi_37_0 <| And.intro @ft_37_0 <| And.intro @fo_37_1 <| And.intro @fi_37_1 <| And.intro @ft_37_1 <| And.intro @fo_37_2 <| And.intro @fi_37_2 <| And.intro @ft_37_2 <| And.intro @fo_37_3 <| And.intro @fi_37_3 <| And.intro @ft_37_3 <| @lay_37
set_option maxHeartbeats 4000000 in
theorem spec_l20Good_sat {a0 : Formula}  {r : Bool} (h : spec_l20Good a0 = some r) : Sat Tryz.prog 22 [((Formula.pv false) a0)] (B r) := by
  replace h := Run.of h
  unfold spec_l20Good at h
  refine Sat.of_m (nt := 9) (rs := [.tmp 2]) (n := 100000) Tryz.func22 rfl rfl rfl rfl (by simp) ?_
  simp -failIfUnchanged only [↓RA, RB, RS, fx22, p1, p2, p3, p4, reduceIte, p5, p6, p7, p8]
  repeat (first | with_reducible refine noR_and (by repeat (first | exact noR_empty _ _ | exact noR_nilS _ _ | refine noR_mk _ _ _ _ _ rfl ?_ | refine noR_mkS _ _ _ _ _ rfl ?_)) ?_ | with_reducible refine noC_and (by repeat (first | exact noC_empty _ _ (by simp -failIfUnchanged only [↓RA, RB, RS, fx22, p1, p2, p3, p4, reduceIte, p5, p6, p7, p8]) | exact noC_nilS _ _ (by simp -failIfUnchanged only [↓RA, RB, RS, fx22, p1, p2, p3, p4, reduceIte, p5, p6, p7, p8]) | refine noC_mk _ _ _ _ _ rfl ?_ | refine noC_mkS _ _ _ _ _ rfl ?_)) ?_ | with_reducible refine and_ac ?_ | with_reducible refine And.intro (a := _ = List.range _) (by rfl) ?_)
  obtain ⟨v4, hv4, h⟩ := run_bind h
  refine CallH.mk [false] (spec_l8Good_sat hv4) ?_ ?_ <;> simp -failIfUnchanged only [↓RA, RB, RS, fx22, p1, p2, p3, p4, reduceIte, p5, p6, p7, p8]
  refine CondH.mk (fun c1 => ?_) (fun c1 => ?_)
  · replace h := run_t c1 h
    simp -failIfUnchanged only [↓RA, RB, RS, fx22, p1, p2, p3, p4, reduceIte, p5, p6, p7, p8, c1]
    obtain ⟨v7, hv7, h⟩ := run_bind h
    refine CallH.mk [false] (spec_l20Form_sat hv7) ?_ ?_ <;> simp -failIfUnchanged only [↓RA, RB, RS, fx22, p1, p2, p3, p4, reduceIte, p5, p6, p7, p8, c1]
    have h := run_some h
    obtain rfl : _ = r := h
    refine FinH.l ?_
    simp -failIfUnchanged only [↓RA, RB, RS, fx22, p1, p2, p3, p4, reduceIte, p5, p6, p7, p8, c1]
  · replace h := run_f c1 h
    simp -failIfUnchanged only [↓RA, RB, RS, fx22, p1, p2, p3, p4, reduceIte, p5, p6, p7, p8, c1]
    have h := run_some h
    obtain rfl : _ = r := h
    refine FinH.l ?_
    simp -failIfUnchanged only [↓RA, RB, RS, fx22, p1, p2, p3, p4, reduceIte, p5, p6, p7, p8, c1]

def fx54 := And.intro @ty_3 <| And.intro @zc_3 <| And.intro @z_3 <| And.intro @ty_28 <| And.intro @zc_28 <| And.intro @z_28 <| And.intro @es_28 <| And.intro @eb_28 <| And.intro @sl_28 <| And.intro @is_28 <| And.intro @el_28 <| And.intro @ze_28 <| And.intro @ez_28 <| @mixedT
set_option maxHeartbeats 4000000 in
theorem spec_l1Put_sat {a0 : List Int} {a1 : Int}  {r : List Int} (h : spec_l1Put a0 a1 = some r) : Sat Tryz.prog 54 [(.sl false 1 (a0.map I)), (I a1)] (.sl false 1 (r.map I)) := by
  replace h := Run.of h
  unfold spec_l1Put at h
  refine Sat.of_m (nt := 45) (rs := [.tmp 4]) (n := 100000) Tryz.func54 rfl rfl rfl rfl (by simp) ?_
  simp -failIfUnchanged only [↓RA, RB, RS, fx54, p1, p2, p3, p4, reduceIte, p5, p6, p7, p8]
  refine Mg.know_sl (b := false) (sz := 1) (es := a0.map I) 0 (by simp -failIfUnchanged only [↓RA, RB, RS, fx54, p1, p2, p3, p4, reduceIte, p5, p6, p7, p8]) fun hl0 => ?_; rw [List.length_map] at hl0
  replace h := run_loop h
  refine Mg.forN h (fun i2 s2 => [(0, .val (.pv (.sl false 1 (a0.map I)))), (1, .val (.pv (I a1))), (5, .val (.pv (I (i2 : Int))))]) (fun i2 s2 => []) (St.le_mk2 (by simp -failIfUnchanged only [↓RA, RB, RS, fx54, p1, p2, p3, p4, reduceIte, p5, p6, p7, p8])) (fun i2 s2 hi h => ?_) (fun s2 h => ?_)
  · have w2 := wrap_succ (i := i2) (by omega)
    simp -failIfUnchanged only [↓RA, RB, RS, fx54, p1, p2, p3, p4, reduceIte, p5, p6, p7, p8]
    refine CondH.tt (decide_eq_true (by omega)) (fun c1 => ?_)
    simp -failIfUnchanged only [↓RA, RB, RS, fx54, p1, p2, p3, p4, reduceIte, p5, p6, p7, p8, c1]
    obtain ⟨v13, hv13, h⟩ := run_bind h
    refine IdxH.mk (f := I) hv13 ?_ ?_ <;> simp -failIfUnchanged only [↓RA, RB, RS, fx54, p1, p2, p3, p4, reduceIte, p5, p6, p7, p8, c1]
    refine CondH.mk (fun c2 => ?_) (fun c2 => ?_)
    · replace h := run_t c2 h
      simp -failIfUnchanged only [↓RA, RB, RS, fx54, p1, p2, p3, p4, reduceIte, p5, p6, p7, p8, c1, c2]
      have h := run_some h
      refine RdH.mk ⟨_, h, ?_⟩
      refine St.le_mk2 ?_
      simp -failIfUnchanged only [↓RA, RB, RS, fx54, p1, p2, p3, p4, reduceIte, p5, p6, p7, p8, c1, c2, w2]
    · replace h := run_f c2 h
      simp -failIfUnchanged only [↓RA, RB, RS, fx54, p1, p2, p3, p4, reduceIte, p5, p6, p7, p8, c1, c2]
      obtain ⟨v27, hv27, h⟩ := run_bind h
      refine IdxH.mk (f := I) hv27 ?_ ?_ <;> simp -failIfUnchanged only [↓RA, RB, RS, fx54, p1, p2, p3, p4, reduceIte, p5, p6, p7, p8, c1, c2]
      refine CondH.mk (fun c3 => ?_) (fun c3 => ?_)
      · replace h := run_t c3 h
        simp -failIfUnchanged only [↓RA, RB, RS, fx54, p1, p2, p3, p4, reduceIte, p5, p6, p7, p8, c1, c2, c3]
        have h := run_some h
        obtain rfl : _ = r := h
        refine FinH.r ?_
        simp -failIfUnchanged only [↓RA, RB, RS, fx54, p1, p2, p3, p4, reduceIte, p5, p6, p7, p8, c1, c2, c3]
      · replace h := run_f c3 h
        simp -failIfUnchanged only [↓RA, RB, RS, fx54, p1, p2, p3, p4, reduceIte, p5, p6, p7, p8, c1, c2, c3]
        repeat (first | with_reducible refine noR_and (by repeat (first | exact noR_empty _ _ | exact noR_nilS _ _ | refine noR_mk _ _ _ _ _ rfl ?_ | refine noR_mkS _ _ _ _ _ rfl ?_)) ?_ | with_reducible refine noC_and (by repeat (first | exact noC_empty _ _ (by simp -failIfUnchanged only [↓RA, RB, RS, fx54, p1, p2, p3, p4, reduceIte, p5, p6, p7, p8]) | exact noC_nilS _ _ (by simp -failIfUnchanged only [↓RA, RB, RS, fx54, p1, p2, p3, p4, reduceIte, p5, p6, p7, p8]) | refine noC_mk _ _ _ _ _ rfl ?_ | refine noC_mkS _ _ _ _ _ rfl ?_)) ?_ | with_reducible refine and_ac ?_ | with_reducible refine And.intro (a := _ = List.range _) (by rfl) ?_)
        obtain ⟨v36, hv36, h⟩ := run_bind h
        refine SlcH.mk (f := I) hv36 ?_ ?_ <;> simp -failIfUnchanged only [↓RA, RB, RS, fx54, p1, p2, p3, p4, reduceIte, p5, p6, p7, p8, c1, c2, c3]
        obtain ⟨v37, hv37, h⟩ := run_bind h
        refine AppH.mk (f := I) (fun _ => rfl) hv37 ?_ ?_ ?_ <;> simp -failIfUnchanged only [↓RA, RB, RS, fx54, p1, p2, p3, p4, reduceIte, p5, p6, p7, p8, c1, c2, c3]
        repeat (first | with_reducible refine noR_and (by repeat (first | exact noR_empty _ _ | exact noR_nilS _ _ | refine noR_mk _ _ _ _ _ rfl ?_ | refine noR_mkS _ _ _ _ _ rfl ?_)) ?_ | with_reducible refine noC_and (by repeat (first | exact noC_empty _ _ (by simp -failIfUnchanged only [↓RA, RB, RS, fx54, p1, p2, p3, p4, reduceIte, p5, p6, p7, p8]) | exact noC_nilS _ _ (by simp -failIfUnchanged only [↓RA, RB, RS, fx54, p1, p2, p3, p4, reduceIte, p5, p6, p7, p8]) | refine noC_mk _ _ _ _ _ rfl ?_ | refine noC_mkS _ _ _ _ _ rfl ?_)) ?_ | with_reducible refine and_ac ?_ | with_reducible refine And.intro (a := _ = List.range _) (by rfl) ?_)
        obtain ⟨v40, hv40, h⟩ := run_bind h
        refine AppH.mk (f := I) (fun _ => rfl) hv40 ?_ ?_ ?_ <;> simp -failIfUnchanged only [↓RA, RB, RS, fx54, p1, p2, p3, p4, reduceIte, p5, p6, p7, p8, c1, c2, c3]
        repeat (first | with_reducible refine noR_and (by repeat (first | exact noR_empty _ _ | exact noR_nilS _ _ | refine noR_mk _ _ _ _ _ rfl ?_ | refine noR_mkS _ _ _ _ _ rfl ?_)) ?_ | with_reducible refine noC_and (by repeat (first | exact noC_empty _ _ (by simp -failIfUnchanged only [↓RA, RB, RS, fx54, p1, p2, p3, p4, reduceIte, p5, p6, p7, p8]) | exact noC_nilS _ _ (by simp -failIfUnchanged only [↓RA, RB, RS, fx54, p1, p2, p3, p4, reduceIte, p5, p6, p7, p8]) | refine noC_mk _ _ _ _ _ rfl ?_ | refine noC_mkS _ _ _ _ _ rfl ?_)) ?_ | with_reducible refine and_ac ?_ | with_reducible refine And.intro (a := _ = List.range _) (by rfl) ?_)
        obtain ⟨v43, hv43, h⟩ := run_bind h
        refine SlcH.mk (f := I) hv43 ?_ ?_ <;> simp -failIfUnchanged only [↓RA, RB, RS, fx54, p1, p2, p3, p4, reduceIte, p5, p6, p7, p8, c1, c2, c3]
        obtain ⟨v44, hv44, h⟩ := run_bind h
        refine AppH.mk (f := I) (fun _ => rfl) hv44 ?_ ?_ ?_ <;> simp -failIfUnchanged only [↓RA, RB, RS, fx54, p1, p2, p3, p4, reduceIte, p5, p6, p7, p8, c1, c2, c3]
        repeat (first | with_reducible refine noR_and (by repeat (first | exact noR_empty _ _ | exact noR_nilS _ _ | refine noR_mk _ _ _ _ _ rfl ?_ | refine noR_mkS _ _ _ _ _ rfl ?_)) ?_ | with_reducible refine noC_and (by repeat (first | exact noC_empty _ _ (by simp -failIfUnchanged only [↓RA, RB, RS, fx54, p1, p2, p3, p4, reduceIte, p5, p6, p7, p8]) | exact noC_nilS _ _ (by simp -failIfUnchanged only [↓RA, RB, RS, fx54, p1, p2, p3, p4, reduceIte, p5, p6, p7, p8]) | refine noC_mk _ _ _ _ _ rfl ?_ | refine noC_mkS _ _ _ _ _ rfl ?_)) ?_ | with_reducible refine and_ac ?_ | with_reducible refine And.intro (a := _ = List.range _) (by rfl) ?_)
        refine And.intro (DrawH.mk [] [528, 592, 624, 640, 704] (by rfl) (by first | rfl | (simp -failIfUnchanged only [↓RA, RB, RS, fx54, p1, p2, p3, p4, reduceIte, p5, p6, p7, p8] <;> rfl)) (by first | rfl | (simp -failIfUnchanged only [↓RA, RB, RS, fx54, p1, p2, p3, p4, reduceIte, p5, p6, p7, p8] <;> rfl)) (by first | rfl | (simp -failIfUnchanged only [↓RA, RB, RS, fx54, p1, p2, p3, p4, reduceIte, p5, p6, p7, p8] <;> rfl)) (by simp) (by simp -failIfUnchanged only [↓RA, RB, RS, fx54, p1, p2, p3, p4, reduceIte, p5, p6, p7, p8]; repeat (first | exact noC_empty _ _ (by simp -failIfUnchanged only [↓RA, RB, RS, fx54, p1, p2, p3, p4, reduceIte, p5, p6, p7, p8]) | exact noC_nilS _ _ (by simp -failIfUnchanged only [↓RA, RB, RS, fx54, p1, p2, p3, p4, reduceIte, p5, p6, p7, p8]) | refine noC_mk _ _ _ _ _ rfl ?_ | refine noC_mkS _ _ _ _ _ rfl ?_ | refine And.intro ?_ ?_))) ?_
        simp -failIfUnchanged only [↓RA, RB, RS, fx54, p1, p2, p3, p4, reduceIte, p5, p6, p7, p8, c1, c2, c3]
        have h := run_some h
        obtain rfl : _ = r := h
        refine FinH.r ?_
        simp -failIfUnchanged only [↓RA, RB, RS, fx54, p1, p2, p3, p4, reduceIte, p5, p6, p7, p8, c1, c2, c3]
  · simp -failIfUnchanged only [↓RA, RB, RS, fx54, p1, p2, p3, p4, reduceIte, p5, p6, p7, p8]
    refine CondH.ff (decide_eq_false (by omega)) (fun c4 => ?_)
    simp -failIfUnchanged only [↓RA, RB, RS, fx54, p1, p2, p3, p4, reduceIte, p5, p6, p7, p8, c4]
    repeat (first | with_reducible refine noR_and (by repeat (first | exact noR_empty _ _ | exact noR_nilS _ _ | refine noR_mk _ _ _ _ _ rfl ?_ | refine noR_mkS _ _ _ _ _ rfl ?_)) ?_ | with_reducible refine noC_and (by repeat (first | exact noC_empty _ _ (by simp -failIfUnchanged only [↓RA, RB, RS, fx54, p1, p2, p3, p4, reduceIte, p5, p6, p7, p8]) | exact noC_nilS _ _ (by simp -failIfUnchanged only [↓RA, RB, RS, fx54, p1, p2, p3, p4, reduceIte, p5, p6, p7, p8]) | refine noC_mk _ _ _ _ _ rfl ?_ | refine noC_mkS _ _ _ _ _ rfl ?_)) ?_ | with_reducible refine and_ac ?_ | with_reducible refine And.intro (a := _ = List.range _) (by rfl) ?_)
    obtain ⟨v36, hv36, h⟩ := run_bind h
    refine SlcH.mk (f := I) hv36 ?_ ?_ <;> simp -failIfUnchanged only [↓RA, RB, RS, fx54, p1, p2, p3, p4, reduceIte, p5, p6, p7, p8, c4]
    obtain ⟨v37, hv37, h⟩ := run_bind h
    refine AppH.mk (f := I) (fun _ => rfl) hv37 ?_ ?_ ?_ <;> simp -failIfUnchanged only [↓RA, RB, RS, fx54, p1, p2, p3, p4, reduceIte, p5, p6, p7, p8, c4]
    repeat (first | with_reducible refine noR_and (by repeat (first | exact noR_empty _ _ | exact noR_nilS _ _ | refine noR_mk _ _ _ _ _ rfl ?_ | refine noR_mkS _ _ _ _ _ rfl ?_)) ?_ | with_reducible refine noC_and (by repeat (first | exact noC_empty _ _ (by simp -failIfUnchanged only [↓RA, RB, RS, fx54, p1, p2, p3, p4, reduceIte, p5, p6, p7, p8]) | exact noC_nilS _ _ (by simp -failIfUnchanged only [↓RA, RB, RS, fx54, p1, p2, p3, p4, reduceIte, p5, p6, p7, p8]) | refine noC_mk _ _ _ _ _ rfl ?_ | refine noC_mkS _ _ _ _ _ rfl ?_)) ?_ | with_reducible refine and_ac ?_ | with_reducible refine And.intro (a := _ = List.range _) (by rfl) ?_)
    obtain ⟨v40, hv40, h⟩ := run_bind h
    refine AppH.mk (f := I) (fun _ => rfl) hv40 ?_ ?_ ?_ <;> simp -failIfUnchanged only [↓RA, RB, RS, fx54, p1, p2, p3, p4, reduceIte, p5, p6, p7, p8, c4]
    repeat (first | with_reducible refine noR_and (by repeat (first | exact noR_empty _ _ | exact noR_nilS _ _ | refine noR_mk _ _ _ _ _ rfl ?_ | refine noR_mkS _ _ _ _ _ rfl ?_)) ?_ | with_reducible refine noC_and (by repeat (first | exact noC_empty _ _ (by simp -failIfUnchanged only [↓RA, RB, RS, fx54, p1, p2, p3, p4, reduceIte, p5, p6, p7, p8]) | exact noC_nilS _ _ (by simp -failIfUnchanged only [↓RA, RB, RS, fx54, p1, p2, p3, p4, reduceIte, p5, p6, p7, p8]) | refine noC_mk _ _ _ _ _ rfl ?_ | refine noC_mkS _ _ _ _ _ rfl ?_)) ?_ | with_reducible refine and_ac ?_ | with_reducible refine And.intro (a := _ = List.range _) (by rfl) ?_)
    obtain ⟨v43, hv43, h⟩ := run_bind h
    refine SlcH.mk (f := I) hv43 ?_ ?_ <;> simp -failIfUnchanged only [↓RA, RB, RS, fx54, p1, p2, p3, p4, reduceIte, p5, p6, p7, p8, c4]
    obtain ⟨v44, hv44, h⟩ := run_bind h
    refine AppH.mk (f := I) (fun _ => rfl) hv44 ?_ ?_ ?_ <;> simp -failIfUnchanged only [↓RA, RB, RS, fx54, p1, p2, p3, p4, reduceIte, p5, p6, p7, p8, c4]
    repeat (first | with_reducible refine noR_and (by repeat (first | exact noR_empty _ _ | exact noR_nilS _ _ | refine noR_mk _ _ _ _ _ rfl ?_ | refine noR_mkS _ _ _ _ _ rfl ?_)) ?_ | with_reducible refine noC_and (by repeat (first | exact noC_empty _ _ (by simp -failIfUnchanged only [↓RA, RB, RS, fx54, p1, p2, p3, p4, reduceIte, p5, p6, p7, p8]) | exact noC_nilS _ _ (by simp -failIfUnchanged only [↓RA, RB, RS, fx54, p1, p2, p3, p4, reduceIte, p5, p6, p7, p8]) | refine noC_mk _ _ _ _ _ rfl ?_ | refine noC_mkS _ _ _ _ _ rfl ?_)) ?_ | with_reducible refine and_ac ?_ | with_reducible refine And.intro (a := _ = List.range _) (by rfl) ?_)
    refine And.intro (DrawH.mk [] [528, 592, 624, 640, 704] (by rfl) (by first | rfl | (simp -failIfUnchanged only [↓RA, RB, RS, fx54, p1, p2, p3, p4, reduceIte, p5, p6, p7, p8] <;> rfl)) (by first | rfl | (simp -failIfUnchanged only [↓RA, RB, RS, fx54, p1, p2, p3, p4, reduceIte, p5, p6, p7, p8] <;> rfl)) (by first | rfl | (simp -failIfUnchanged only [↓RA, RB, RS, fx54, p1, p2, p3, p4, reduceIte, p5, p6, p7, p8] <;> rfl)) (by simp) (by simp -failIfUnchanged only [↓RA, RB, RS, fx54, p1, p2, p3, p4, reduceIte, p5, p6, p7, p8]; repeat (first | exact noC_empty _ _ (by simp -failIfUnchanged only [↓RA, RB, RS, fx54, p1, p2, p3, p4, reduceIte, p5, p6, p7, p8]) | exact noC_nilS _ _ (by simp -failIfUnchanged only [↓RA, RB, RS, fx54, p1, p2, p3, p4, reduceIte, p5, p6, p7, p8]) | refine noC_mk _ _ _ _ _ rfl ?_ | refine noC_mkS _ _ _ _ _ rfl ?_ | refine And.intro ?_ ?_))) ?_
    simp -failIfUnchanged only [↓RA, RB, RS, fx54, p1, p2, p3, p4, reduceIte, p5, p6, p7, p8, c4]
    have h := run_some h
    obtain rfl : _ = r := h
    refine FinH.r ?_
    simp -failIfUnchanged only [↓RA, RB, RS, fx54, p1, p2, p3, p4, reduceIte, p5, p6, p7, p8, c4]

def fx24 := And.intro @ty_3 <| And.intro @zc_3 <| And.intro @z_3 <| And.intro @ty_28 <| And.intro @zc_28 <| And.intro @z_28 <| And.intro @es_28 <| And.intro @eb_28 <| And.intro @sl_28 <| And.intro @is_28 <| And.intro @el_28 <| And.intro @ze_28 <| And.intro @ez_28 <| And.intro @ty_34 <| And.intro @zc_34 <| And.intro @z_34 <| And.intro @fo_34_0 <| And.intro @fi_34_0 <| And.intro @ft_34_0 <| And.intro @fo_34_1 <| And.intro @fi_34_1 <| And.intro @ft_34_1 <| And.intro @lay_34 <| And.intro @ty_35 <| And.intro @zc_35 <| And.intro @z_35 <| And.intro @es_35 <| And.intro @eb_35 <| And.intro @sl_35 <| And.intro @is_35 <| And.intro @el_35 <| And.intro @ze_35 <| And.intro @ez_35 <| And.intro @ty_37 <| And.intro @zc_37 <| And.intro @z_37 <| And.intro @fo_37_0 <| And.intro @fi_37_0 <| And.intro @ft_37_0 <| And.intro @fo_37_1 <| And.intro @fi_37_1 <| And.intro @ft_37_1 <| And.intro @fo_37_2 <| And.intro @fi_37_2 <| And.intro @ft_37_2 <| And.intro @fo_37_3 <| And.intro @fi_37_3 <| And.intro @ft_37_3 <| @lay_37
set_option maxHeartbeats 4000000 in
theorem spec_l20IntoN_sat (n : Nat) : (∀ (a0 : List Int) (a1 : Formula) (r : List Int), spec_l20IntoN n a0 a1 = some r → Sat Tryz.prog 24 [(.sl false 1 (a0.map I)), ((Formula.pv false) a1)] (.sl false 1 (r.map I))) := by
  induction n with
  | zero => exact fun _ _ _ h => by simp [spec_l20IntoN] at h
  | succ n ih =>
    refine fun a0 a1 r h => ?_
    replace h := Run.of h
    rw [spec_l20IntoN] at h
    refine Sat.of_m (nt := 29) (rs := [.tmp 4]) (n := 100000) Tryz.func24 rfl rfl rfl rfl (by simp) ?_
    simp -failIfUnchanged only [↓RA, RB, RS, fx24, p1, p2, p3, p4, reduceIte, p5, p6, p7, p8]
    repeat (first | with_reducible refine noR_and (by repeat (first | exact noR_empty _ _ | exact noR_nilS _ _ | refine noR_mk _ _ _ _ _ rfl ?_ | refine noR_mkS _ _ _ _ _ rfl ?_)) ?_ | with_reducible refine noC_and (by repeat (first | exact noC_empty _ _ (by simp -failIfUnchanged only [↓RA, RB, RS, fx24, p1, p2, p3, p4, reduceIte, p5, p6, p7, p8]) | exact noC_nilS _ _ (by simp -failIfUnchanged only [↓RA, RB, RS, fx24, p1, p2, p3, p4, reduceIte, p5, p6, p7, p8]) | refine noC_mk _ _ _ _ _ rfl ?_ | refine noC_mkS _ _ _ _ _ rfl ?_)) ?_ | with_reducible refine and_ac ?_ | with_reducible refine And.intro (a := _ = List.range _) (by rfl) ?_)
    refine CondH.mk (fun c1 => ?_) (fun c1 => ?_)
    · replace h := run_t c1 h
      simp -failIfUnchanged only [↓RA, RB, RS, fx24, p1, p2, p3, p4, reduceIte, p5, p6, p7, p8, c1]
      obtain ⟨v12, hv12, h⟩ := run_bind h
      refine CallH.mk [false] (spec_l20Variable_sat hv12) ?_ ?_ <;> simp -failIfUnchanged only [↓RA, RB, RS, fx24, p1, p2, p3, p4, reduceIte, p5, p6, p7, p8, c1]
      obtain ⟨v13, hv13, h⟩ := run_bind h
      refine CallH.mk [false, false] (spec_l1Put_sat hv13) ?_ ?_ <;> simp -failIfUnchanged only [↓RA, RB, RS, fx24, p1, p2, p3, p4, reduceIte, p5, p6, p7, p8, c1]
      have h := run_some h
      obtain rfl : _ = r := h
      refine FinH.r ?_
      simp -failIfUnchanged only [↓RA, RB, RS, fx24, p1, p2, p3, p4, reduceIte, p5, p6, p7, p8, c1]
    · replace h := run_f c1 h
      simp -failIfUnchanged only [↓RA, RB, RS, fx24, p1, p2, p3, p4, reduceIte, p5, p6, p7, p8, c1]
      refine Mg.know_val2 (b := false) (sz := 5) (es := a1.Parts.map (Formula.pv false)) (x := (.pv ((Formula.pv false) a1))) 1 [3] (by simp -failIfUnchanged only [↓RA, RB, RS, fx24, p1, p2, p3, p4, reduceIte, p5, p6, p7, p8, c1]) fun hl1 => ?_; rw [List.length_map] at hl1
      replace h := run_loop h
      refine Mg.forN h (fun i4 s4 => [(0, .val (.pv (.sl false 1 (s4.map I)))), (3, .box (.pv ((Formula.pv false) a1))), (5, .val (.pv (I (i4 : Int))))]) (fun i4 s4 => []) (St.le_mk2 (by simp -failIfUnchanged only [↓RA, RB, RS, fx24, p1, p2, p3, p4, reduceIte, p5, p6, p7, p8, c1])) (fun i4 s4 hi h => ?_) (fun s4 h => ?_)
      · have w4 := wrap_succ (i := i4) (by omega)
        simp -failIfUnchanged only [↓RA, RB, RS, fx24, p1, p2, p3, p4, reduceIte, p5, p6, p7, p8, c1]
        refine CondH.tt (decide_eq_true (by omega)) (fun c2 => ?_)
        simp -failIfUnchanged only [↓RA, RB, RS, fx24, p1, p2, p3, p4, reduceIte, p5, p6, p7, p8, c1, c2]
        obtain ⟨v25, hv25, h⟩ := run_bind h
        refine IdxH.mk (f := (Formula.pv false)) hv25 ?_ ?_ <;> simp -failIfUnchanged only [↓RA, RB, RS, fx24, p1, p2, p3, p4, reduceIte, p5, p6, p7, p8, c1, c2]
        obtain ⟨v27, hv27, h⟩ := run_bind h
        refine CallH.mk [false, false] (ih _ _ _ hv27) ?_ ?_ <;> simp -failIfUnchanged only [↓RA, RB, RS, fx24, p1, p2, p3, p4, reduceIte, p5, p6, p7, p8, c1, c2]
        have h := run_some h
        refine RdH.mk ⟨_, h, ?_⟩
        refine St.le_mk2 ?_
        simp -failIfUnchanged only [↓RA, RB, RS, fx24, p1, p2, p3, p4, reduceIte, p5, p6, p7, p8, c1, c2, w4]
      · simp -failIfUnchanged only [↓RA, RB, RS, fx24, p1, p2, p3, p4, reduceIte, p5, p6, p7, p8, c1]
        refine CondH.ff (decide_eq_false (by omega)) (fun c3 => ?_)
        simp -failIfUnchanged only [↓RA, RB, RS, fx24, p1, p2, p3, p4, reduceIte, p5, p6, p7, p8, c1, c3]
        have h := run_some h
        obtain rfl : _ = r := h
        refine FinH.r ?_
        simp -failIfUnchanged only [↓RA, RB, RS, fx24, p1, p2, p3, p4, reduceIte, p5, p6, p7, p8, c1, c3]
theorem spec_l20Into_sat {a0 : List Int} {a1 : Formula} {r : List Int} (h : spec_l20Into a0 a1 = some r) : Sat Tryz.prog 24 [(.sl false 1 (a0.map I)), ((Formula.pv false) a1)] (.sl false 1 (r.map I)) := by
  obtain ⟨n, hn⟩ := lim_some h
  exact (spec_l20IntoN_sat n) _ _ _ hn

def fx25 := And.intro @ty_3 <| And.intro @zc_3 <| And.intro @z_3 <| And.intro @ty_28 <| And.intro @zc_28 <| And.intro @z_28 <| And.intro @es_28 <| And.intro @eb_28 <| And.intro @sl_28 <| And.intro @is_28 <| And.intro @el_28 <| And.intro @ze_28 <| @ez_28
set_option maxHeartbeats 4000000 in
theorem spec_l1Has_sat {a0 : List Int} {a1 : Int}  {r : Bool} (h : spec_l1Has a0 a1 = some r) : Sat Tryz.prog 25 [(.sl false 1 (a0.map I)), (I a1)] (B r) := by
  replace h := Run.of h
  unfold spec_l1Has at h
  refine Sat.of_m (nt := 18) (rs := [.tmp 4]) (n := 100000) Tryz.func25 rfl rfl rfl rfl (by simp) ?_
  simp -failIfUnchanged only [↓RA, RB, RS, fx25, p1, p2, p3, p4, reduceIte, p5, p6, p7, p8]
  refine Mg.know_sl (b := false) (sz := 1) (es := a0.map I) 0 (by simp -failIfUnchanged only [↓RA, RB, RS, fx25, p1, p2, p3, p4, reduceIte, p5, p6, p7, p8]) fun hl0 => ?_; rw [List.length_map] at hl0
  replace h := run_loop h
  refine Mg.forN h (fun i2 s2 => [(0, .val (.pv (.sl false 1 (a0.map I)))), (1, .val (.pv (I a1))), (5, .val (.pv (I (i2 : Int))))]) (fun i2 s2 => []) (St.le_mk2 (by simp -failIfUnchanged only [↓RA, RB, RS, fx25, p1, p2, p3, p4, reduceIte, p5, p6, p7, p8])) (fun i2 s2 hi h => ?_) (fun s2 h => ?_)
  · have w2 := wrap_succ (i := i2) (by omega)
    simp -failIfUnchanged only [↓RA, RB, RS, fx25, p1, p2, p3, p4, reduceIte, p5, p6, p7, p8]
    refine CondH.tt (decide_eq_true (by omega)) (fun c1 => ?_)
    simp -failIfUnchanged only [↓RA, RB, RS, fx25, p1, p2, p3, p4, reduceIte, p5, p6, p7, p8, c1]
    obtain ⟨v14, hv14, h⟩ := run_bind h
    refine IdxH.mk (f := I) hv14 ?_ ?_ <;> simp -failIfUnchanged only [↓RA, RB, RS, fx25, p1, p2, p3, p4, reduceIte, p5, p6, p7, p8, c1]
    refine CondH.mk (fun c2 => ?_) (fun c2 => ?_)
    · replace h := run_t c2 h
      simp -failIfUnchanged only [↓RA, RB, RS, fx25, p1, p2, p3, p4, reduceIte, p5, p6, p7, p8, c1, c2]
      have h := run_some h
      obtain rfl : _ = r := h
      refine FinH.l ?_
      simp -failIfUnchanged only [↓RA, RB, RS, fx25, p1, p2, p3, p4, reduceIte, p5, p6, p7, p8, c1, c2]
    · replace h := run_f c2 h
      simp -failIfUnchanged only [↓RA, RB, RS, fx25, p1, p2, p3, p4, reduceIte, p5, p6, p7, p8, c1, c2]
      have h := run_some h
      refine RdH.mk ⟨_, h, ?_⟩
      refine St.le_mk2 ?_
      simp -failIfUnchanged only [↓RA, RB, RS, fx25, p1, p2, p3, p4, reduceIte, p5, p6, p7, p8, c1, c2, w2]
  · simp -failIfUnchanged only [↓RA, RB, RS, fx25, p1, p2, p3, p4, reduceIte, p5, p6, p7, p8]
    refine CondH.ff (decide_eq_false (by omega)) (fun c3 => ?_)
    simp -failIfUnchanged only [↓RA, RB, RS, fx25, p1, p2, p3, p4, reduceIte, p5, p6, p7, p8, c3]
    have h := run_some h
    obtain rfl : _ = r := h
    refine FinH.l ?_
    simp -failIfUnchanged only [↓RA, RB, RS, fx25, p1, p2, p3, p4, reduceIte, p5, p6, p7, p8, c3]

def fx26 := And.intro @ty_3 <| And.intro @zc_3 <| And.intro @z_3 <| And.intro @ty_4 <| And.intro @zc_4 <| And.intro @z_4 <| And.intro @u_4 <| And.intro @ty_28 <| And.intro @zc_28 <| And.intro @z_28 <| And.intro @es_28 <| And.intro @eb_28 <| And.intro @sl_28 <| And.intro @is_28 <| And.intro @el_28 <| And.intro @ze_28 <| And.intro @ez_28 <| And.intro @ty_34 <| And.intro @zc_34 <| And.intro @z_34 <| And.intro @fo_34_0 <| And.intro @fi_34_0 <| And.intro @ft_34_0 <| And.intro @fo_34_1 <| And.intro @fi_34_1 <| And.intro @ft_34_1 <| And.intro @lay_34 <| And.intro @ty_35 <| And.intro @zc_35 <| And.intro @z_35 <| And.intro @es_35 <| And.intro @eb_35 <| And.intro @sl_35 <| And.intro @is_35 <| And.intro @el_35 <| And.intro @ze_35 <| And.intro @ez_35 <| And.intro @ty_37 <| And.intro @zc_37 <| And.intro @z_37 <| And.intro @fo_37_0 <| And.intro @fi_37_0 <| And.intro @ft_37_0 <| And.intro @fo_37_1 <| And.intro @fi_37_1 <| And.intro @ft_37_1 <| And.intro @fo_37_2 <| And.intro @fi_37_2 <| And.intro @ft_37_2 <| And.intro @fo_37_3 <| And.intro @fi_37_3 <| And.intro @ft_37_3 <| @lay_37
set_option maxHeartbeats 4000000 in
theorem spec_l20ValueN_sat (n : Nat) : (∀ (a0 : Formula) (a1 : List Int) (r : Bool), spec_l20ValueN n a0 a1 = some r → Sat Tryz.prog 26 [((Formula.pv false) a0), (.sl false 1 (a1.map I))] (B r)) := by
  induction n with
  | zero => exact fun _ _ _ h => by simp [spec_l20ValueN] at h
  | succ n ih =>
    refine fun a0 a1 r h => ?_
    replace h := Run.of h
    rw [spec_l20ValueN] at h
    refine Sat.of_m (nt := 76) (rs := [.tmp 4]) (n := 100000) Tryz.func26 rfl rfl rfl rfl (by simp) ?_
    simp -failIfUnchanged only [↓RA, RB, RS, fx26, p1, p2, p3, p4, reduceIte, p5, p6, p7, p8]
    repeat (first | with_reducible refine noR_and (by repeat (first | exact noR_empty _ _ | exact noR_nilS _ _ | refine noR_mk _ _ _ _ _ rfl ?_ | refine noR_mkS _ _ _ _ _ rfl ?_)) ?_ | with_reducible refine noC_and (by repeat (first | exact noC_empty _ _ (by simp -failIfUnchanged only [↓RA, RB, RS, fx26, p1, p2, p3, p4, reduceIte, p5, p6, p7, p8]) | exact noC_nilS _ _ (by simp -failIfUnchanged only [↓RA, RB, RS, fx26, p1, p2, p3, p4, reduceIte, p5, p6, p7, p8]) | refine noC_mk _ _ _ _ _ rfl ?_ | refine noC_mkS _ _ _ _ _ rfl ?_)) ?_ | with_reducible refine and_ac ?_ | with_reducible refine And.intro (a := _ = List.range _) (by rfl) ?_)
    refine CondH.mk (fun c1 => ?_) (fun c1 => ?_)
    · replace h := run_t c1 h
      simp -failIfUnchanged only [↓RA, RB, RS, fx26, p1, p2, p3, p4, reduceIte, p5, p6, p7, p8, c1]
      have h := run_some h
      obtain rfl : _ = r := h
      refine FinH.l ?_
      simp -failIfUnchanged only [↓RA, RB, RS, fx26, p1, p2, p3, p4, reduceIte, p5, p6, p7, p8, c1]
    · replace h := run_f c1 h
      simp -failIfUnchanged only [↓RA, RB, RS, fx26, p1, p2, p3, p4, reduceIte, p5, p6, p7, p8, c1]
      refine CondH.mk (fun c2 => ?_) (fun c2 => ?_)
      · replace h := run_t c2 h
        simp -failIfUnchanged only [↓RA, RB, RS, fx26, p1, p2, p3, p4, reduceIte, p5, p6, p7, p8, c1, c2]
        have h := run_some h
        obtain rfl : _ = r := h
        refine FinH.l ?_
        simp -failIfUnchanged only [↓RA, RB, RS, fx26, p1, p2, p3, p4, reduceIte, p5, p6, p7, p8, c1, c2]
      · replace h := run_f c2 h
        simp -failIfUnchanged only [↓RA, RB, RS, fx26, p1, p2, p3, p4, reduceIte, p5, p6, p7, p8, c1, c2]
        refine CondH.mk (fun c3 => ?_) (fun c3 => ?_)
        · replace h := run_t c3 h
          simp -failIfUnchanged only [↓RA, RB, RS, fx26, p1, p2, p3, p4, reduceIte, p5, p6, p7, p8, c1, c2, c3]
          obtain ⟨v18, hv18, h⟩ := run_bind h
          refine CallH.mk [false] (spec_l20Variable_sat hv18) ?_ ?_ <;> simp -failIfUnchanged only [↓RA, RB, RS, fx26, p1, p2, p3, p4, reduceIte, p5, p6, p7, p8, c1, c2, c3]
          obtain ⟨v19, hv19, h⟩ := run_bind h
          refine CallH.mk [false, false] (spec_l1Has_sat hv19) ?_ ?_ <;> simp -failIfUnchanged only [↓RA, RB, RS, fx26, p1, p2, p3, p4, reduceIte, p5, p6, p7, p8, c1, c2, c3]
          have h := run_some h
          obtain rfl : _ = r := h
          refine FinH.l ?_
          simp -failIfUnchanged only [↓RA, RB, RS, fx26, p1, p2, p3, p4, reduceIte, p5, p6, p7, p8, c1, c2, c3]
        · replace h := run_f c3 h
          simp -failIfUnchanged only [↓RA, RB, RS, fx26, p1, p2, p3, p4, reduceIte, p5, p6, p7, p8, c1, c2, c3]
          refine CondH.mk (fun c4 => ?_) (fun c4 => ?_)
          · replace h := run_t c4 h
            simp -failIfUnchanged only [↓RA, RB, RS, fx26, p1, p2, p3, p4, reduceIte, p5, p6, p7, p8, c1, c2, c3, c4]
            obtain ⟨v24, hv24, h⟩ := run_bind h
            refine IdxH.mk (f := (Formula.pv false)) hv24 ?_ ?_ <;> simp -failIfUnchanged only [↓RA, RB, RS, fx26, p1, p2, p3, p4, reduceIte, p5, p6, p7, p8, c1, c2, c3, c4]
            obtain ⟨v27, hv27, h⟩ := run_bind h
            refine CallH.mk [false, false] (ih _ _ _ hv27) ?_ ?_ <;> simp -failIfUnchanged only [↓RA, RB, RS, fx26, p1, p2, p3, p4, reduceIte, p5, p6, p7, p8, c1, c2, c3, c4]
            have h := run_some h
            obtain rfl : _ = r := h
            refine FinH.l ?_
            simp -failIfUnchanged only [↓RA, RB, RS, fx26, p1, p2, p3, p4, reduceIte, p5, p6, p7, p8, c1, c2, c3, c4]
          · replace h := run_f c4 h
            simp -failIfUnchanged only [↓RA, RB, RS, fx26, p1, p2, p3, p4, reduceIte, p5, p6, p7, p8, c1, c2, c3, c4]
            refine CondH.mk (fun c5 => ?_) (fun c5 => ?_)
            · replace h := run_t c5 h
              simp -failIfUnchanged only [↓RA, RB, RS, fx26, p1, p2, p3, p4, reduceIte, p5, p6, p7, p8, c1, c2, c3, c4, c5]
              obtain ⟨v33, hv33, h⟩ := run_bind h
              refine IdxH.mk (f := (Formula.pv false)) hv33 ?_ ?_ <;> simp -failIfUnchanged only [↓RA, RB, RS, fx26, p1, p2, p3, p4, reduceIte, p5, p6, p7, p8, c1, c2, c3, c4, c5]
              obtain ⟨v36, hv36, h⟩ := run_bind h
              refine CallH.mk [false, false] (ih _ _ _ hv36) ?_ ?_ <;> simp -failIfUnchanged only [↓RA, RB, RS, fx26, p1, p2, p3, p4, reduceIte, p5, p6, p7, p8, c1, c2, c3, c4, c5]
              refine CondH.mk (fun c6 => ?_) (fun c6 => ?_)
              · replace h := run_t c6 h
                simp -failIfUnchanged only [↓RA, RB, RS, fx26, p1, p2, p3, p4, reduceIte, p5, p6, p7, p8, c1, c2, c3, c4, c5, c6]
                obtain ⟨v40, hv40, h⟩ := run_bind h
                refine IdxH.mk (f := (Formula.pv false)) hv40 ?_ ?_ <;> simp -failIfUnchanged only [↓RA, RB, RS, fx26, p1, p2, p3, p4, reduceIte, p5, p6, p7, p8, c1, c2, c3, c4, c5, c6]
                obtain ⟨v43, hv43, h⟩ := run_bind h
                refine CallH.mk [false, false] (ih _ _ _ hv43) ?_ ?_ <;> simp -failIfUnchanged only [↓RA, RB, RS, fx26, p1, p2, p3, p4, reduceIte, p5, p6, p7, p8, c1, c2, c3, c4, c5, c6]
                have h := run_some h
                obtain rfl : _ = r := h
                refine FinH.l ?_
                simp -failIfUnchanged only [↓RA, RB, RS, fx26, p1, p2, p3, p4, reduceIte, p5, p6, p7, p8, c1, c2, c3, c4, c5, c6]
              · replace h := run_f c6 h
                simp -failIfUnchanged only [↓RA, RB, RS, fx26, p1, p2, p3, p4, reduceIte, p5, p6, p7, p8, c1, c2, c3, c4, c5, c6]
                have h := run_some h
                obtain rfl : _ = r := h
                refine FinH.l ?_
                simp -failIfUnchanged only [↓RA, RB, RS, fx26, p1, p2, p3, p4, reduceIte, p5, p6, p7, p8, c1, c2, c3, c4, c5, c6]
            · replace h := run_f c5 h
              simp -failIfUnchanged only [↓RA, RB, RS, fx26, p1, p2, p3, p4, reduceIte, p5, p6, p7, p8, c1, c2, c3, c4, c5]
              refine CondH.mk (fun c7 => ?_) (fun c7 => ?_)
              · replace h := run_t c7 h
                simp -failIfUnchanged only [↓RA, RB, RS, fx26, p1, p2, p3, p4, reduceIte, p5, p6, p7, p8, c1, c2, c3, c4, c5, c7]
                obtain ⟨v49, hv49, h⟩ := run_bind h
                refine IdxH.mk (f := (Formula.pv false)) hv49 ?_ ?_ <;> simp -failIfUnchanged only [↓RA, RB, RS, fx26, p1, p2, p3, p4, reduceIte, p5, p6, p7, p8, c1, c2, c3, c4, c5, c7]
                obtain ⟨v52, hv52, h⟩ := run_bind h
                refine CallH.mk [false, false] (ih _ _ _ hv52) ?_ ?_ <;> simp -failIfUnchanged only [↓RA, RB, RS, fx26, p1, p2, p3, p4, reduceIte, p5, p6, p7, p8, c1, c2, c3, c4, c5, c7]
                refine CondH.mk (fun c8 => ?_) (fun c8 => ?_)
                · replace h := run_t c8 h
                  simp -failIfUnchanged only [↓RA, RB, RS, fx26, p1, p2, p3, p4, reduceIte, p5, p6, p7, p8, c1, c2, c3, c4, c5, c7, c8]
                  have h := run_some h
                  obtain rfl : _ = r := h
                  refine FinH.l ?_
                  simp -failIfUnchanged only [↓RA, RB, RS, fx26, p1, p2, p3, p4, reduceIte, p5, p6, p7, p8, c1, c2, c3, c4, c5, c7, c8]
                · replace h := run_f c8 h
                  simp -failIfUnchanged only [↓RA, RB, RS, fx26, p1, p2, p3, p4, reduceIte, p5, p6, p7, p8, c1, c2, c3, c4, c5, c7, c8]
                  obtain ⟨v56, hv56, h⟩ := run_bind h
                  refine IdxH.mk (f := (Formula.pv false)) hv56 ?_ ?_ <;> simp -failIfUnchanged only [↓RA, RB, RS, fx26, p1, p2, p3, p4, reduceIte, p5, p6, p7, p8, c1, c2, c3, c4, c5, c7, c8]
                  obtain ⟨v59, hv59, h⟩ := run_bind h
                  refine CallH.mk [false, false] (ih _ _ _ hv59) ?_ ?_ <;> simp -failIfUnchanged only [↓RA, RB, RS, fx26, p1, p2, p3, p4, reduceIte, p5, p6, p7, p8, c1, c2, c3, c4, c5, c7, c8]
                  have h := run_some h
                  obtain rfl : _ = r := h
                  refine FinH.l ?_
                  simp -failIfUnchanged only [↓RA, RB, RS, fx26, p1, p2, p3, p4, reduceIte, p5, p6, p7, p8, c1, c2, c3, c4, c5, c7, c8]
              · replace h := run_f c7 h
                simp -failIfUnchanged only [↓RA, RB, RS, fx26, p1, p2, p3, p4, reduceIte, p5, p6, p7, p8, c1, c2, c3, c4, c5, c7]
                obtain ⟨v63, hv63, h⟩ := run_bind h
                refine IdxH.mk (f := (Formula.pv false)) hv63 ?_ ?_ <;> simp -failIfUnchanged only [↓RA, RB, RS, fx26, p1, p2, p3, p4, reduceIte, p5, p6, p7, p8, c1, c2, c3, c4, c5, c7]
                obtain ⟨v66, hv66, h⟩ := run_bind h
                refine CallH.mk [false, false] (ih _ _ _ hv66) ?_ ?_ <;> simp -failIfUnchanged only [↓RA, RB, RS, fx26, p1, p2, p3, p4, reduceIte, p5, p6, p7, p8, c1, c2, c3, c4, c5, c7]
                refine CondH.mk (fun c9 => ?_) (fun c9 => ?_)
                · replace h := run_t c9 h
                  simp -failIfUnchanged only [↓RA, RB, RS, fx26, p1, p2, p3, p4, reduceIte, p5, p6, p7, p8, c1, c2, c3, c4, c5, c7, c9]
                  obtain ⟨v71, hv71, h⟩ := run_bind h
                  refine IdxH.mk (f := (Formula.pv false)) hv71 ?_ ?_ <;> simp -failIfUnchanged only [↓RA, RB, RS, fx26, p1, p2, p3, p4, reduceIte, p5, p6, p7, p8, c1, c2, c3, c4, c5, c7, c9]
                  obtain ⟨v74, hv74, h⟩ := run_bind h
                  refine CallH.mk [false, false] (ih _ _ _ hv74) ?_ ?_ <;> simp -failIfUnchanged only [↓RA, RB, RS, fx26, p1, p2, p3, p4, reduceIte, p5, p6, p7, p8, c1, c2, c3, c4, c5, c7, c9]
                  have h := run_some h
                  obtain rfl : _ = r := h
                  refine FinH.l ?_
                  simp -failIfUnchanged only [↓RA, RB, RS, fx26, p1, p2, p3, p4, reduceIte, p5, p6, p7, p8, c1, c2, c3, c4, c5, c7, c9]
                · replace h := run_f c9 h
                  simp -failIfUnchanged only [↓RA, RB, RS, fx26, p1, p2, p3, p4, reduceIte, p5, p6, p7, p8, c1, c2, c3, c4, c5, c7, c9]
                  have h := run_some h
                  obtain rfl : _ = r := h
                  refine FinH.l ?_
                  simp -failIfUnchanged only [↓RA, RB, RS, fx26, p1, p2, p3, p4, reduceIte, p5, p6, p7, p8, c1, c2, c3, c4, c5, c7, c9]
theorem spec_l20Value_sat {a0 : Formula} {a1 : List Int} {r : Bool} (h : spec_l20Value a0 a1 = some r) : Sat Tryz.prog 26 [((Formula.pv false) a0), (.sl false 1 (a1.map I))] (B r) := by
  obtain ⟨n, hn⟩ := lim_some h
  exact (spec_l20ValueN_sat n) _ _ _ hn

def fx13 := And.intro @ty_3 <| And.intro @zc_3 <| And.intro @z_3 <| And.intro @ty_4 <| And.intro @zc_4 <| And.intro @z_4 <| And.intro @u_4 <| And.intro @ty_28 <| And.intro @zc_28 <| And.intro @z_28 <| And.intro @es_28 <| And.intro @eb_28 <| And.intro @sl_28 <| And.intro @is_28 <| And.intro @el_28 <| And.intro @ze_28 <| And.intro @ez_28 <| And.intro @ty_37 <| And.intro @zc_37 <| And.intro @z_37 <| And.intro @fo_37_0 <| And.intro @fi_37_0 <| And.intro @ft_37_0 <| And.intro @fo_37_1 <| And.intro @fi_37_1 <| And.intro @ft_37_1 <| And.intro @fo_37_2 <| And.intro @fi_37_2 <| And.intro @ft_37_2 <| And.intro @fo_37_3 <| And.intro @fi_37_3 <| And.intro @ft_37_3 <| And.intro @lay_37 <| And.intro @ty_66 <| And.intro @zc_66 <| And.intro @z_66 <| And.intro @uk_3 <| And.intro @uk_66 <| @mixedT
set_option maxHeartbeats 4000000 in
theorem spec_ImpliesFormula_sat {a0 : Formula} {a1 : Formula}  {r : Bool × Bool} (h : spec_ImpliesFormula a0 a1 = some r) : Sat Tryz.prog 13 [((Formula.pv false) a0), ((Formula.pv false) a1)] (.tup [(B r.1), (B r.2)]) := by
  replace h := Run.of h
  unfold spec_ImpliesFormula at h
  refine Sat.of_m (nt := 68) (rs := [.tmp 4, .tmp 5]) (n := 100000) Tryz.func13 rfl rfl rfl rfl (by simp) ?_
  simp -failIfUnchanged only [↓RA, RB, RS, fx13, p1, p2, p3, p4, reduceIte, p5, p6, p7, p8]
  repeat (first | with_reducible refine noR_and (by repeat (first | exact noR_empty _ _ | exact noR_nilS _ _ | refine noR_mk _ _ _ _ _ rfl ?_ | refine noR_mkS _ _ _ _ _ rfl ?_)) ?_ | with_reducible refine noC_and (by repeat (first | exact noC_empty _ _ (by simp -failIfUnchanged only [↓RA, RB, RS, fx13, p1, p2, p3, p4, reduceIte, p5, p6, p7, p8]) | exact noC_nilS _ _ (by simp -failIfUnchanged only [↓RA, RB, RS, fx13, p1, p2, p3, p4, reduceIte, p5, p6, p7, p8]) | refine noC_mk _ _ _ _ _ rfl ?_ | refine noC_mkS _ _ _ _ _ rfl ?_)) ?_ | with_reducible refine and_ac ?_ | with_reducible refine And.intro (a := _ = List.range _) (by rfl) ?_)
  obtain ⟨v11, hv11, h⟩ := run_bind h
  refine CallH.mk [false] (spec_l20Good_sat hv11) ?_ ?_ <;> simp -failIfUnchanged only [↓RA, RB, RS, fx13, p1, p2, p3, p4, reduceIte, p5, p6, p7, p8]
  refine CondH.mk (fun c1 => ?_) (fun c1 => ?_)
  · replace h := run_t c1 h
    simp -failIfUnchanged only [↓RA, RB, RS, fx13, p1, p2, p3, p4, reduceIte, p5, p6, p7, p8, c1]
    obtain ⟨v15, hv15, h⟩ := run_bind h
    refine CallH.mk [false] (spec_l20Good_sat hv15) ?_ ?_ <;> simp -failIfUnchanged only [↓RA, RB, RS, fx13, p1, p2, p3, p4, reduceIte, p5, p6, p7, p8, c1]
    refine CondH.mk (fun c2 => ?_) (fun c2 => ?_)
    · replace h := run_t c2 h
      simp -failIfUnchanged only [↓RA, RB, RS, fx13, p1, p2, p3, p4, reduceIte, p5, p6, p7, p8, c1, c2]
      repeat (first | with_reducible refine noR_and (by repeat (first | exact noR_empty _ _ | exact noR_nilS _ _ | refine noR_mk _ _ _ _ _ rfl ?_ | refine noR_mkS _ _ _ _ _ rfl ?_)) ?_ | with_reducible refine noC_and (by repeat (first | exact noC_empty _ _ (by simp -failIfUnchanged only [↓RA, RB, RS, fx13, p1, p2, p3, p4, reduceIte, p5, p6, p7, p8]) | exact noC_nilS _ _ (by simp -failIfUnchanged only [↓RA, RB, RS, fx13, p1, p2, p3, p4, reduceIte, p5, p6, p7, p8]) | refine noC_mk _ _ _ _ _ rfl ?_ | refine noC_mkS _ _ _ _ _ rfl ?_)) ?_ | with_reducible refine and_ac ?_ | with_reducible refine And.intro (a := _ = List.range _) (by rfl) ?_)
      obtain ⟨v20, hv20, h⟩ := run_bind h
      refine CallH.mk [true, false] (Sat.give (args := [(.sl true 1 (([]).map I)), ((Formula.pv false) a0)]) [true, false] (by have gg := spec_l20Into_sat hv20; simp only [gv_t, gv_f, gv_n, view_sl, view_agg, view_lit, PV.views, RB, RS] at gg ⊢; exact gg)) (by simp -failIfUnchanged only [↓RA, RB, RS, fx13, p1, p2, p3, p4, reduceIte, p5, p6, p7, p8, c1, c2]) ?_
      simp -failIfUnchanged only [↓RA, RB, RS, fx13, p1, p2, p3, p4, reduceIte, p5, p6, p7, p8, c1, c2]
      obtain ⟨v22, hv22, h⟩ := run_bind h
      refine CallH.mk [false, false] (spec_l20Into_sat hv22) ?_ ?_ <;> simp -failIfUnchanged only [↓RA, RB, RS, fx13, p1, p2, p3, p4, reduceIte, p5, p6, p7, p8, c1, c2]
      refine And.intro (DrawH.mk [] [288] (by rfl) (by first | rfl | (simp -failIfUnchanged only [↓RA, RB, RS, fx13, p1, p2, p3, p4, reduceIte, p5, p6, p7, p8] <;> rfl)) (by first | rfl | (simp -failIfUnchanged only [↓RA, RB, RS, fx13, p1, p2, p3, p4, reduceIte, p5, p6, p7, p8] <;> rfl)) (by first | rfl | (simp -failIfUnchanged only [↓RA, RB, RS, fx13, p1, p2, p3, p4, reduceIte, p5, p6, p7, p8] <;> rfl)) (by simp) (by simp -failIfUnchanged only [↓RA, RB, RS, fx13, p1, p2, p3, p4, reduceIte, p5, p6, p7, p8]; repeat (first | exact noC_empty _ _ (by simp -failIfUnchanged only [↓RA, RB, RS, fx13, p1, p2, p3, p4, reduceIte, p5, p6, p7, p8]) | exact noC_nilS _ _ (by simp -failIfUnchanged only [↓RA, RB, RS, fx13, p1, p2, p3, p4, reduceIte, p5, p6, p7, p8]) | refine noC_mk _ _ _ _ _ rfl ?_ | refine noC_mkS _ _ _ _ _ rfl ?_ | refine And.intro ?_ ?_))) ?_
      simp -failIfUnchanged only [↓RA, RB, RS, fx13, p1, p2, p3, p4, reduceIte, p5, p6, p7, p8, c1, c2]
      replace h := run_loop h
      refine Mg.whileN h (fun s5 => [(2, .box (.pv ((Formula.pv false) a0))), (3, .box (.pv ((Formula.pv false) a1))), (6, .val (.pv (.sl false 1 (v22.map I)))), (7, .val (.pv (I s5)))]) (fun s5 => []) (St.le_mk2 (by simp -failIfUnchanged only [↓RA, RB, RS, fx13, p1, p2, p3, p4, reduceIte, p5, p6, p7, p8, c1, c2])) (fun n5 s5 h => ?_)
      simp -failIfUnchanged only [↓RA, RB, RS, fx13, p1, p2, p3, p4, reduceIte, p5, p6, p7, p8, c1, c2]
      obtain ⟨v27, hv27, h⟩ := run_bind h
      refine ShlH.mk hv27 ?_
      simp -failIfUnchanged only [↓RA, RB, RS, fx13, p1, p2, p3, p4, reduceIte, p5, p6, p7, p8, c1, c2]
      refine CondH.mk (fun c3 => ?_) (fun c3 => ?_)
      · replace h := run_t c3 h
        simp -failIfUnchanged only [↓RA, RB, RS, fx13, p1, p2, p3, p4, reduceIte, p5, p6, p7, p8, c1, c2, c3]
        repeat (first | with_reducible refine noR_and (by repeat (first | exact noR_empty _ _ | exact noR_nilS _ _ | refine noR_mk _ _ _ _ _ rfl ?_ | refine noR_mkS _ _ _ _ _ rfl ?_)) ?_ | with_reducible refine noC_and (by repeat (first | exact noC_empty _ _ (by simp -failIfUnchanged only [↓RA, RB, RS, fx13, p1, p2, p3, p4, reduceIte, p5, p6, p7, p8]) | exact noC_nilS _ _ (by simp -failIfUnchanged only [↓RA, RB, RS, fx13, p1, p2, p3, p4, reduceIte, p5, p6, p7, p8]) | refine noC_mk _ _ _ _ _ rfl ?_ | refine noC_mkS _ _ _ _ _ rfl ?_)) ?_ | with_reducible refine and_ac ?_ | with_reducible refine And.intro (a := _ = List.range _) (by rfl) ?_)
        refine Mg.know_sl (b := false) (sz := 1) (es := v22.map I) 6 (by simp -failIfUnchanged only [↓RA, RB, RS, fx13, p1, p2, p3, p4, reduceIte, p5, p6, p7, p8, c1, c2, c3]) fun hl6 => ?_; rw [List.length_map] at hl6
        replace h := run_loop h
        refine Mg.forN h (fun i9 s9 => [(2, .box (.pv ((Formula.pv false) a0))), (3, .box (.pv ((Formula.pv false) a1))), (6, .val (.pv (.sl false 1 (v22.map I)))), (7, .val (.pv (I s5))), (8, .val (.own 496)), (9, .val (.pv (I (i9 : Int))))]) (fun i9 s9 => [(496, (1, s9.map I))]) (St.le_mk2 (by simp -failIfUnchanged only [↓RA, RB, RS, fx13, p1, p2, p3, p4, reduceIte, p5, p6, p7, p8, c1, c2, c3])) (fun i9 s9 hi h => ?_) (fun s9 h => ?_)
        · have w9 := wrap_succ (i := i9) (by omega)
          simp -failIfUnchanged only [↓RA, RB, RS, fx13, p1, p2, p3, p4, reduceIte, p5, p6, p7, p8, c1, c2, c3]
          refine CondH.tt (decide_eq_true (by omega)) (fun c4 => ?_)
          simp -failIfUnchanged only [↓RA, RB, RS, fx13, p1, p2, p3, p4, reduceIte, p5, p6, p7, p8, c1, c2, c3, c4]
          obtain ⟨v41, hv41, h⟩ := run_bind h
          refine ShrH.mk hv41 ?_
          simp -failIfUnchanged only [↓RA, RB, RS, fx13, p1, p2, p3, p4, reduceIte, p5, p6, p7, p8, c1, c2, c3, c4]
          refine CondH.mk (fun c5 => ?_) (fun c5 => ?_)
          · replace h := run_t c5 h
            simp -failIfUnchanged only [↓RA, RB, RS, fx13, p1, p2, p3, p4, reduceIte, p5, p6, p7, p8, c1, c2, c3, c4, c5]
            obtain ⟨v47, hv47, h⟩ := run_bind h
            refine IdxH.mk (f := I) hv47 ?_ ?_ <;> simp -failIfUnchanged only [↓RA, RB, RS, fx13, p1, p2, p3, p4, reduceIte, p5, p6, p7, p8, c1, c2, c3, c4, c5]
            repeat (first | with_reducible refine noR_and (by repeat (first | exact noR_empty _ _ | exact noR_nilS _ _ | refine noR_mk _ _ _ _ _ rfl ?_ | refine noR_mkS _ _ _ _ _ rfl ?_)) ?_ | with_reducible refine noC_and (by repeat (first | exact noC_empty _ _ (by simp -failIfUnchanged only [↓RA, RB, RS, fx13, p1, p2, p3, p4, reduceIte, p5, p6, p7, p8]) | exact noC_nilS _ _ (by simp -failIfUnchanged only [↓RA, RB, RS, fx13, p1, p2, p3, p4, reduceIte, p5, p6, p7, p8]) | refine noC_mk _ _ _ _ _ rfl ?_ | refine noC_mkS _ _ _ _ _ rfl ?_)) ?_ | with_reducible refine and_ac ?_ | with_reducible refine And.intro (a := _ = List.range _) (by rfl) ?_)
            obtain ⟨v50, hv50, h⟩ := run_bind h
            refine AppH.mk (f := I) (fun _ => rfl) hv50 ?_ ?_ ?_ <;> simp -failIfUnchanged only [↓RA, RB, RS, fx13, p1, p2, p3, p4, reduceIte, p5, p6, p7, p8, c1, c2, c3, c4, c5]
            repeat (first | with_reducible refine noR_and (by repeat (first | exact noR_empty _ _ | exact noR_nilS _ _ | refine noR_mk _ _ _ _ _ rfl ?_ | refine noR_mkS _ _ _ _ _ rfl ?_)) ?_ | with_reducible refine noC_and (by repeat (first | exact noC_empty _ _ (by simp -failIfUnchanged only [↓RA, RB, RS, fx13, p1, p2, p3, p4, reduceIte, p5, p6, p7, p8]) | exact noC_nilS _ _ (by simp -failIfUnchanged only [↓RA, RB, RS, fx13, p1, p2, p3, p4, reduceIte, p5, p6, p7, p8]) | refine noC_mk _ _ _ _ _ rfl ?_ | refine noC_mkS _ _ _ _ _ rfl ?_)) ?_ | with_reducible refine and_ac ?_ | with_reducible refine And.intro (a := _ = List.range _) (by rfl) ?_)
            have h := run_some h
            refine RdH.mk ⟨_, h, ?_⟩
            refine St.le_trans (St.le_mk (S := [(2, .box (.pv ((Formula.pv false) a0))), (3, .box (.pv ((Formula.pv false) a1))), (6, .val (.pv (.sl false 1 (v22.map I)))), (7, .val (.pv (I s5))), (8, .val (.own 800)), (9, .val (.pv (I (IntKind.i64.wrap ((i9 : Int) + (1 : Int))))))]) (O := [(800, (1, v50.map I))]) (by simp -failIfUnchanged only [↓RA, RB, RS, fx13, p1, p2, p3, p4, reduceIte, p5, p6, p7, p8, c1, c2, c3, c4, c5, w9]) (by simp -failIfUnchanged only [↓RA, RB, RS, fx13, p1, p2, p3, p4, reduceIte, p5, p6, p7, p8, c1, c2, c3, c4, c5, w9])) ?_
            refine St.le_rn 800 496 (by decide) (by repeat (first | exact noC_empty _ _ (by simp -failIfUnchanged only [↓RA, RB, RS, fx13, p1, p2, p3, p4, reduceIte, p5, p6, p7, p8]) | exact noC_nilS _ _ (by simp -failIfUnchanged only [↓RA, RB, RS, fx13, p1, p2, p3, p4, reduceIte, p5, p6, p7, p8]) | refine noC_mk _ _ _ _ _ rfl ?_ | refine noC_mkS _ _ _ _ _ rfl ?_)) ?_
            refine St.le_mk2 ?_
            simp -failIfUnchanged only [↓RA, RB, RS, fx13, p1, p2, p3, p4, reduceIte, p5, p6, p7, p8, c1, c2, c3, c4, c5, w9]
          · replace h := run_f c5 h
            simp -failIfUnchanged only [↓RA, RB, RS, fx13, p1, p2, p3, p4, reduceIte, p5, p6, p7, p8, c1, c2, c3, c4, c5]
            obtain ⟨v54, hv54, h⟩ := run_bind h
            refine IdxH.mk (f := I) hv54 ?_ ?_ <;> simp -failIfUnchanged only [↓RA, RB, RS, fx13, p1, p2, p3, p4, reduceIte, p5, p6, p7, p8, c1, c2, c3, c4, c5]
            repeat (first | with_reducible refine noR_and (by repeat (first | exact noR_empty _ _ | exact noR_nilS _ _ | refine noR_mk _ _ _ _ _ rfl ?_ | refine noR_mkS _ _ _ _ _ rfl ?_)) ?_ | with_reducible refine noC_and (by repeat (first | exact noC_empty _ _ (by simp -failIfUnchanged only [↓RA, RB, RS, fx13, p1, p2, p3, p4, reduceIte, p5, p6, p7, p8]) | exact noC_nilS _ _ (by simp -failIfUnchanged only [↓RA, RB, RS, fx13, p1, p2, p3, p4, reduceIte, p5, p6, p7, p8]) | refine noC_mk _ _ _ _ _ rfl ?_ | refine noC_mkS _ _ _ _ _ rfl ?_)) ?_ | with_reducible refine and_ac ?_ | with_reducible refine And.intro (a := _ = List.range _) (by rfl) ?_)
            obtain ⟨v58, hv58, h⟩ := run_bind h
            refine AppH.mk (f := I) (fun _ => rfl) hv58 ?_ ?_ ?_ <;> simp -failIfUnchanged only [↓RA, RB, RS, fx13, p1, p2, p3, p4, reduceIte, p5, p6, p7, p8, c1, c2, c3, c4, c5]
            repeat (first | with_reducible refine noR_and (by repeat (first | exact noR_empty _ _ | exact noR_nilS _ _ | refine noR_mk _ _ _ _ _ rfl ?_ | refine noR_mkS _ _ _ _ _ rfl ?_)) ?_ | with_reducible refine noC_and (by repeat (first | exact noC_empty _ _ (by simp -failIfUnchanged only [↓RA, RB, RS, fx13, p1, p2, p3, p4, reduceIte, p5, p6, p7, p8]) | exact noC_nilS _ _ (by simp -failIfUnchanged only [↓RA, RB, RS, fx13, p1, p2, p3, p4, reduceIte, p5, p6, p7, p8]) | refine noC_mk _ _ _ _ _ rfl ?_ | refine noC_mkS _ _ _ _ _ rfl ?_)) ?_ | with_reducible refine and_ac ?_ | with_reducible refine And.intro (a := _ = List.range _) (by rfl) ?_)
            have h := run_some h
            refine RdH.mk ⟨_, h, ?_⟩
            refine St.le_trans (St.le_mk (S := [(2, .box (.pv ((Formula.pv false) a0))), (3, .box (.pv ((Formula.pv false) a1))), (6, .val (.pv (.sl false 1 (v22.map I)))), (7, .val (.pv (I s5))), (8, .val (.own 928)), (9, .val (.pv (I (IntKind.i64.wrap ((i9 : Int) + (1 : Int))))))]) (O := [(928, (1, v58.map I))]) (by simp -failIfUnchanged only [↓RA, RB, RS, fx13, p1, p2, p3, p4, reduceIte, p5, p6, p7, p8, c1, c2, c3, c4, c5, w9]) (by simp -failIfUnchanged only [↓RA, RB, RS, fx13, p1, p2, p3, p4, reduceIte, p5, p6, p7, p8, c1, c2, c3, c4, c5, w9])) ?_
            refine St.le_rn 928 496 (by decide) (by repeat (first | exact noC_empty _ _ (by simp -failIfUnchanged only [↓RA, RB, RS, fx13, p1, p2, p3, p4, reduceIte, p5, p6, p7, p8]) | exact noC_nilS _ _ (by simp -failIfUnchanged only [↓RA, RB, RS, fx13, p1, p2, p3, p4, reduceIte, p5, p6, p7, p8]) | refine noC_mk _ _ _ _ _ rfl ?_ | refine noC_mkS _ _ _ _ _ rfl ?_)) ?_
            refine St.le_mk2 ?_
            simp -failIfUnchanged only [↓RA, RB, RS, fx13, p1, p2, p3, p4, reduceIte, p5, p6, p7, p8, c1, c2, c3, c4, c5, w9]
        · simp -failIfUnchanged only [↓RA, RB, RS, fx13, p1, p2, p3, p4, reduceIte, p5, p6, p7, p8, c1, c2, c3]
          refine CondH.ff (decide_eq_false (by omega)) (fun c6 => ?_)
          simp -failIfUnchanged only [↓RA, RB, RS, fx13, p1, p2, p3, p4, reduceIte, p5, p6, p7, p8, c1, c2, c3, c6]
          obtain ⟨v61, hv61, h⟩ := run_bind h
          refine CallH.mk [false, false] (spec_l20Value_sat hv61) ?_ ?_ <;> simp -failIfUnchanged only [↓RA, RB, RS, fx13, p1, p2, p3, p4, reduceIte, p5, p6, p7, p8, c1, c2, c3, c6]
          refine CondH.mk (fun c7 => ?_) (fun c7 => ?_)
          · replace h := run_t c7 h
            simp -failIfUnchanged only [↓RA, RB, RS, fx13, p1, p2, p3, p4, reduceIte, p5, p6, p7, p8, c1, c2, c3, c6, c7]
            obtain ⟨v65, hv65, h⟩ := run_bind h
            refine CallH.mk [false, false] (spec_l20Value_sat hv65) ?_ ?_ <;> simp -failIfUnchanged only [↓RA, RB, RS, fx13, p1, p2, p3, p4, reduceIte, p5, p6, p7, p8, c1, c2, c3, c6, c7]
            refine CondH.mk (fun c8 => ?_) (fun c8 => ?_)
            · replace h := run_t c8 h
              simp -failIfUnchanged only [↓RA, RB, RS, fx13, p1, p2, p3, p4, reduceIte, p5, p6, p7, p8, c1, c2, c3, c6, c7, c8]
              have h := run_some h
              refine RdH.mk ⟨_, h, ?_⟩
              refine St.le_mk2 ?_
              simp -failIfUnchanged only [↓RA, RB, RS, fx13, p1, p2, p3, p4, reduceIte, p5, p6, p7, p8, c1, c2, c3, c6, c7, c8]
            · replace h := run_f c8 h
              simp -failIfUnchanged only [↓RA, RB, RS, fx13, p1, p2, p3, p4, reduceIte, p5, p6, p7, p8, c1, c2, c3, c6, c7, c8]
              have h := run_some h
              obtain rfl : _ = r := h
              refine FinH.l ?_
              simp -failIfUnchanged only [↓RA, RB, RS, fx13, p1, p2, p3, p4, reduceIte, p5, p6, p7, p8, c1, c2, c3, c6, c7, c8]
          · replace h := run_f c7 h
            simp -failIfUnchanged only [↓RA, RB, RS, fx13, p1, p2, p3, p4, reduceIte, p5, p6, p7, p8, c1, c2, c3, c6, c7]
            have h := run_some h
            refine RdH.mk ⟨_, h, ?_⟩
            refine St.le_mk2 ?_
            simp -failIfUnchanged only [↓RA, RB, RS, fx13, p1, p2, p3, p4, reduceIte, p5, p6, p7, p8, c1, c2, c3, c6, c7]
      · replace h := run_f c3 h
        simp -failIfUnchanged only [↓RA, RB, RS, fx13, p1, p2, p3, p4, reduceIte, p5, p6, p7, p8, c1, c2, c3]
        have h := run_some h
        have h := run_some h
        obtain rfl : _ = r := h
        refine FinH.l ?_
        simp -failIfUnchanged only [↓RA, RB, RS, fx13, p1, p2, p3, p4, reduceIte, p5, p6, p7, p8, c1, c2, c3]
    · replace h := run_f c2 h
      simp -failIfUnchanged only [↓RA, RB, RS, fx13, p1, p2, p3, p4, reduceIte, p5, p6, p7, p8, c1, c2]
      have h := run_some h
      obtain rfl : _ = r := h
      refine FinH.l ?_
      simp -failIfUnchanged only [↓RA, RB, RS, fx13, p1, p2, p3, p4, reduceIte, p5, p6, p7, p8, c1, c2]
  · replace h := run_f c1 h
    simp -failIfUnchanged only [↓RA, RB, RS, fx13, p1, p2, p3, p4, reduceIte, p5, p6, p7, p8, c1]
    have h := run_some h
    obtain rfl : _ = r := h
    refine FinH.l ?_
    simp -failIfUnchanged only [↓RA, RB, RS, fx13, p1, p2, p3, p4, reduceIte, p5, p6, p7, p8, c1]

def fx80 := And.intro @ty_3 <| And.intro @zc_3 <| And.intro @z_3 <| And.intro @ty_35 <| And.intro @zc_35 <| And.intro @z_35 <| And.intro @es_35 <| And.intro @eb_35 <| And.intro @sl_35 <| And.intro @is_35 <| And.intro @el_35 <| And.intro @ze_35 <| And.intro @ez_35 <| And.intro @ty_37 <| And.intro @zc_37 <| And.intro @z_37 <| And.intro @fo_37_0 <| And.intro @fi_37_0 <| And.intro @ft_37_0 <| And.intro @fo_37_1 <| And.intro @fi_37_1 <| And.intro @ft_37_1 <| And.intro @fo_37_2 <| And.intro @fi_37_2 <| And.intro @ft_37_2 <| And.intro @fo_37_3 <| And.intro @fi_37_3 <| And.intro @ft_37_3 <| @lay_37
set_option maxHeartbeats 4000000 in
theorem impl_sizeOfN_sat (n : Nat) : (∀ (a0 : Formula) (r : Int), impl_sizeOfN n a0 = some r → Sat Tryz.prog 80 [((Formula.pv false) a0)] (I r)) := by
  induction n with
  | zero => exact fun _ _ h => by simp [impl_sizeOfN] at h
  | succ n ih =>
    refine fun a0 r h => ?_
    replace h := Run.of h
    rw [impl_sizeOfN] at h
    refine Sat.of_m (nt := 22) (rs := [.tmp 2]) (n := 100000) Tryz.func80 rfl rfl rfl rfl (by simp) ?_
    simp -failIfUnchanged only [↓RA, RB, RS, fx80, p1, p2, p3, p4, reduceIte, p5, p6, p7, p8]
    repeat (first | with_reducible refine noR_and (by repeat (first | exact noR_empty _ _ | exact noR_nilS _ _ | refine noR_mk _ _ _ _ _ rfl ?_ | refine noR_mkS _ _ _ _ _ rfl ?_)) ?_ | with_reducible refine noC_and (by repeat (first | exact noC_empty _ _ (by simp -failIfUnchanged only [↓RA, RB, RS, fx80, p1, p2, p3, p4, reduceIte, p5, p6, p7, p8]) | exact noC_nilS _ _ (by simp -failIfUnchanged only [↓RA, RB, RS, fx80, p1, p2, p3, p4, reduceIte, p5, p6, p7, p8]) | refine noC_mk _ _ _ _ _ rfl ?_ | refine noC_mkS _ _ _ _ _ rfl ?_)) ?_ | with_reducible refine and_ac ?_ | with_reducible refine And.intro (a := _ = List.range _) (by rfl) ?_)
    refine Mg.know_sl (b := false) (sz := 5) (es := a0.Parts.map (Formula.pv false)) 7 (by simp -failIfUnchanged only [↓RA, RB, RS, fx80, p1, p2, p3, p4, reduceIte, p5, p6, p7, p8]) fun hl7 => ?_; rw [List.length_map] at hl7
    replace h := run_loop h
    refine Mg.forN h (fun i3 s3 => [(3, .val (.pv (I s3))), (7, .val (.pv (.sl false 5 (a0.Parts.map (Formula.pv false))))), (8, .val (.pv (I (a0.Parts.length : Int)))), (9, .val (.pv (I (i3 : Int))))]) (fun i3 s3 => []) (St.le_mk2 (by simp -failIfUnchanged only [↓RA, RB, RS, fx80, p1, p2, p3, p4, reduceIte, p5, p6, p7, p8])) (fun i3 s3 hi h => ?_) (fun s3 h => ?_)
    · have w3 := wrap_succ (i := i3) (by omega)
      simp -failIfUnchanged only [↓RA, RB, RS, fx80, p1, p2, p3, p4, reduceIte, p5, p6, p7, p8]
      refine CondH.tt (decide_eq_true (by omega)) (fun c1 => ?_)
      simp -failIfUnchanged only [↓RA, RB, RS, fx80, p1, p2, p3, p4, reduceIte, p5, p6, p7, p8, c1]
      obtain ⟨v11, hv11, h⟩ := run_bind h
      refine IdxH.mk (f := (Formula.pv false)) hv11 ?_ ?_ <;> simp -failIfUnchanged only [↓RA, RB, RS, fx80, p1, p2, p3, p4, reduceIte, p5, p6, p7, p8, c1]
      repeat (first | with_reducible refine noR_and (by repeat (first | exact noR_empty _ _ | exact noR_nilS _ _ | refine noR_mk _ _ _ _ _ rfl ?_ | refine noR_mkS _ _ _ _ _ rfl ?_)) ?_ | with_reducible refine noC_and (by repeat (first | exact noC_empty _ _ (by simp -failIfUnchanged only [↓RA, RB, RS, fx80, p1, p2, p3, p4, reduceIte, p5, p6, p7, p8]) | exact noC_nilS _ _ (by simp -failIfUnchanged only [↓RA, RB, RS, fx80, p1, p2, p3, p4, reduceIte, p5, p6, p7, p8]) | refine noC_mk _ _ _ _ _ rfl ?_ | refine noC_mkS _ _ _ _ _ rfl ?_)) ?_ | with_reducible refine and_ac ?_ | with_reducible refine And.intro (a := _ = List.range _) (by rfl) ?_)
      refine CondH.mk (fun c2 => ?_) (fun c2 => ?_)
      · replace h := run_t c2 h
        simp -failIfUnchanged only [↓RA, RB, RS, fx80, p1, p2, p3, p4, reduceIte, p5, p6, p7, p8, c1, c2]
        have h := run_some h
        obtain rfl : _ = r := h
        refine FinH.l ?_
        simp -failIfUnchanged only [↓RA, RB, RS, fx80, p1, p2, p3, p4, reduceIte, p5, p6, p7, p8, c1, c2]
      · replace h := run_f c2 h
        simp -failIfUnchanged only [↓RA, RB, RS, fx80, p1, p2, p3, p4, reduceIte, p5, p6, p7, p8, c1, c2]
        obtain ⟨v18, hv18, h⟩ := run_bind h
        refine CallH.mk [false] (ih _ _ hv18) ?_ ?_ <;> simp -failIfUnchanged only [↓RA, RB, RS, fx80, p1, p2, p3, p4, reduceIte, p5, p6, p7, p8, c1, c2]
        have h := run_some h
        refine RdH.mk ⟨_, h, ?_⟩
        refine St.le_mk2 ?_
        simp -failIfUnchanged only [↓RA, RB, RS, fx80, p1, p2, p3, p4, reduceIte, p5, p6, p7, p8, c1, c2, w3]
    · simp -failIfUnchanged only [↓RA, RB, RS, fx80, p1, p2, p3, p4, reduceIte, p5, p6, p7, p8]
      refine CondH.ff (decide_eq_false (by omega)) (fun c3 => ?_)
      simp -failIfUnchanged only [↓RA, RB, RS, fx80, p1, p2, p3, p4, reduceIte, p5, p6, p7, p8, c3]
      have h := run_some h
      obtain rfl : _ = r := h
      refine FinH.l ?_
      simp -failIfUnchanged only [↓RA, RB, RS, fx80, p1, p2, p3, p4, reduceIte, p5, p6, p7, p8, c3]
theorem impl_sizeOf_sat {a0 : Formula} {r : Int} (h : impl_sizeOf a0 = some r) : Sat Tryz.prog 80 [((Formula.pv false) a0)] (I r) := by
  obtain ⟨n, hn⟩ := lim_some h
  exact (impl_sizeOfN_sat n) _ _ hn

def fx92 := And.intro @ty_3 <| And.intro @zc_3 <| @z_3
set_option maxHeartbeats 4000000 in
theorem impl_isQuantifier_sat {a0 : Int}  {r : Bool} (h : impl_isQuantifier a0 = some r) : Sat Tryz.prog 92 [(I a0)] (B r) := by
  replace h := Run.of h
  unfold impl_isQuantifier at h
  refine Sat.of_m (nt := 9) (rs := [.tmp 2]) (n := 100000) Tryz.func92 rfl rfl rfl rfl (by simp) ?_
  simp -failIfUnchanged only [↓RA, RB, RS, fx92, p1, p2, p3, p4, reduceIte, p5, p6, p7, p8]
  refine CondH.mk (fun c1 => ?_) (fun c1 => ?_)
  · replace h := run_t c1 h
    simp -failIfUnchanged only [↓RA, RB, RS, fx92, p1, p2, p3, p4, reduceIte, p5, p6, p7, p8, c1]
    have h := run_some h
    obtain rfl : _ = r := h
    refine FinH.l ?_
    simp -failIfUnchanged only [↓RA, RB, RS, fx92, p1, p2, p3, p4, reduceIte, p5, p6, p7, p8, c1]
  · replace h := run_f c1 h
    simp -failIfUnchanged only [↓RA, RB, RS, fx92, p1, p2, p3, p4, reduceIte, p5, p6, p7, p8, c1]
    have h := run_some h
    obtain rfl : _ = r := h
    refine FinH.l ?_
    simp -failIfUnchanged only [↓RA, RB, RS, fx92, p1, p2, p3, p4, reduceIte, p5, p6, p7, p8, c1]

def fx93 := And.intro @ty_3 <| And.intro @zc_3 <| @z_3
set_option maxHeartbeats 4000000 in
theorem impl_isBinary_sat {a0 : Int}  {r : Bool} (h : impl_isBinary a0 = some r) : Sat Tryz.prog 93 [(I a0)] (B r) := by
  replace h := Run.of h
  unfold impl_isBinary at h
  refine Sat.of_m (nt := 13) (rs := [.tmp 2]) (n := 100000) Tryz.func93 rfl rfl rfl rfl (by simp) ?_
  simp -failIfUnchanged only [↓RA, RB, RS, fx93, p1, p2, p3, p4, reduceIte, p5, p6, p7, p8]
  refine CondH.mk (fun c1 => ?_) (fun c1 => ?_)
  · replace h := run_t c1 h
    simp -failIfUnchanged only [↓RA, RB, RS, fx93, p1, p2, p3, p4, reduceIte, p5, p6, p7, p8, c1]
    have h := run_some h
    obtain rfl : _ = r := h
    refine FinH.l ?_
    simp -failIfUnchanged only [↓RA, RB, RS, fx93, p1, p2, p3, p4, reduceIte, p5, p6, p7, p8, c1]
  · replace h := run_f c1 h
    simp -failIfUnchanged only [↓RA, RB, RS, fx93, p1, p2, p3, p4, reduceIte, p5, p6, p7, p8, c1]
    refine CondH.mk (fun c2 => ?_) (fun c2 => ?_)
    · replace h := run_t c2 h
      simp -failIfUnchanged only [↓RA, RB, RS, fx93, p1, p2, p3, p4, reduceIte, p5, p6, p7, p8, c1, c2]
      have h := run_some h
      obtain rfl : _ = r := h
      refine FinH.l ?_
      simp -failIfUnchanged only [↓RA, RB, RS, fx93, p1, p2, p3, p4, reduceIte, p5, p6, p7, p8, c1, c2]
    · replace h := run_f c2 h
      simp -failIfUnchanged only [↓RA, RB, RS, fx93, p1, p2, p3, p4, reduceIte, p5, p6, p7, p8, c1, c2]
      have h := run_some h
      obtain rfl : _ = r := h
      refine FinH.l ?_
      simp -failIfUnchanged only [↓RA, RB, RS, fx93, p1, p2, p3, p4, reduceIte, p5, p6, p7, p8, c1, c2]

end Go.Proofs.YtkokcfphepmeeaaGreatDoor
