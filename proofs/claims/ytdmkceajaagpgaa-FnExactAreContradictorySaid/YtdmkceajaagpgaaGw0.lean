/- A part of the proof: lemmas only; nothing is claimed here beyond what each lemma says. -/
import Derived.Test.YtdmkceajaagpgaaGm
import Derived.Test.YtdmkceajaagpgaaGf
set_option linter.unusedSimpArgs false
set_option linter.unusedVariables false
set_option linter.defProp false
set_option maxRecDepth 4000
namespace Go.Proofs.Ytdmkceajaagpgaa
open Go.Av
open Nat renaming reduceLT → p1, reduceAdd → p2, reduceMul → p3, reduceEqDiff → p4, reduceBEq → p5, reduceLeDiff → p6, reduceSub → p7
open Int renaming reduceToNat → p8
def fx20 := And.intro @ty_3 <| And.intro @zc_3 <| And.intro @z_3 <| And.intro @ty_22 <| And.intro @zc_22 <| And.intro @z_22 <| And.intro @es_22 <| And.intro @eb_22 <| And.intro @sl_22 <| And.intro @is_22 <| And.intro @el_22 <| And.intro @ze_22 <| And.intro @ez_22 <| And.intro @ty_64 <| And.intro @zc_64 <| And.intro @z_64 <| And.intro @fo_64_0 <| And.intro @fi_64_0 <| And.intro @ft_64_0 <| And.intro @fo_64_1 <| And.intro @fi_64_1 <| And.intro @ft_64_1 <| @lay_64
def fx40 := And.intro @ty_3 <| And.intro @zc_3 <| And.intro @z_3 <| And.intro @ty_9 <| And.intro @zc_9 <| And.intro @z_9 <| And.intro @u_9 <| And.intro @ty_22 <| And.intro @zc_22 <| And.intro @z_22 <| And.intro @es_22 <| And.intro @eb_22 <| And.intro @sl_22 <| And.intro @is_22 <| And.intro @el_22 <| And.intro @ze_22 <| And.intro @ez_22 <| And.intro @ty_64 <| And.intro @zc_64 <| And.intro @z_64 <| And.intro @fo_64_0 <| And.intro @fi_64_0 <| And.intro @ft_64_0 <| And.intro @fo_64_1 <| And.intro @fi_64_1 <| And.intro @ft_64_1 <| @lay_64
set_option maxHeartbeats 4000000 in
theorem szTermSN_sat (n : Nat) : (∀ (a0 : List Term) (a1 : Int) (r : Int), szTermSN n a0 a1 = some r → Sat Try.prog 20 [(.sl false 2 (a0.map (Term.pv false))), (I a1)] (I r)) ∧ (∀ (a0 : Term) (a1 : Int) (r : Int), szTermN n a0 a1 = some r → Sat Try.prog 40 [((Term.pv false) a0), (I a1)] (I r)) := by
  induction n with
  | zero => exact ⟨fun _ _ _ h => by simp [szTermSN] at h, fun _ _ _ h => by simp [szTermN] at h⟩
  | succ n ih =>
    refine ⟨fun a0 a1 r h => ?_, fun a0 a1 r h => ?_⟩
    · replace h := Run.of h
      rw [szTermSN] at h
      refine Sat.of_m (nt := 27) (rs := [.tmp 4]) (n := 100000) Try.func20 rfl rfl rfl rfl (by simp) ?_
      simp -failIfUnchanged only [↓RA, RB, RS, fx20, p1, p2, p3, p4, reduceIte, p5, p6, p7, p8]
      refine CondH.mk (fun c1 => ?_) (fun c1 => ?_)
      · replace h := run_t c1 h
        simp -failIfUnchanged only [↓RA, RB, RS, fx20, p1, p2, p3, p4, reduceIte, p5, p6, p7, p8, c1]
        have h := run_some h
        obtain rfl : _ = r := h
        refine FinH.l ?_
        simp -failIfUnchanged only [↓RA, RB, RS, fx20, p1, p2, p3, p4, reduceIte, p5, p6, p7, p8, c1]
      · replace h := run_f c1 h
        simp -failIfUnchanged only [↓RA, RB, RS, fx20, p1, p2, p3, p4, reduceIte, p5, p6, p7, p8, c1]
        refine Mg.know_sl (b := false) (sz := 2) (es := a0.map (Term.pv false)) 0 (by simp -failIfUnchanged only [↓RA, RB, RS, fx20, p1, p2, p3, p4, reduceIte, p5, p6, p7, p8, c1]) fun hl0 => ?_; rw [List.length_map] at hl0
        replace h := run_loop h
        refine Mg.forN h (fun i5 s5 => [(0, .val (.pv (.sl false 2 (a0.map (Term.pv false))))), (1, .val (.pv (I s5))), (5, .val (.pv (I (i5 : Int))))]) (fun i5 s5 => []) (St.le_mk2 (by simp -failIfUnchanged only [↓RA, RB, RS, fx20, p1, p2, p3, p4, reduceIte, p5, p6, p7, p8, c1])) (fun i5 s5 hi h => ?_) (fun s5 h => ?_)
        · have w5 := wrap_succ (i := i5) (by omega)
          simp -failIfUnchanged only [↓RA, RB, RS, fx20, p1, p2, p3, p4, reduceIte, p5, p6, p7, p8, c1]
          refine CondH.tt (decide_eq_true (by omega)) (fun c2 => ?_)
          simp -failIfUnchanged only [↓RA, RB, RS, fx20, p1, p2, p3, p4, reduceIte, p5, p6, p7, p8, c1, c2]
          obtain ⟨v20, hv20, h⟩ := run_bind h
          refine IdxH.mk (f := (Term.pv false)) hv20 ?_ ?_ <;> simp -failIfUnchanged only [↓RA, RB, RS, fx20, p1, p2, p3, p4, reduceIte, p5, p6, p7, p8, c1, c2]
          obtain ⟨v23, hv23, h⟩ := run_bind h
          refine CallH.mk [false, false] (ih.2 _ _ _ hv23) ?_ ?_ <;> simp -failIfUnchanged only [↓RA, RB, RS, fx20, p1, p2, p3, p4, reduceIte, p5, p6, p7, p8, c1, c2]
          refine CondH.mk (fun c3 => ?_) (fun c3 => ?_)
          · replace h := run_t c3 h
            simp -failIfUnchanged only [↓RA, RB, RS, fx20, p1, p2, p3, p4, reduceIte, p5, p6, p7, p8, c1, c2, c3]
            have h := run_some h
            obtain rfl : _ = r := h
            refine FinH.l ?_
            simp -failIfUnchanged only [↓RA, RB, RS, fx20, p1, p2, p3, p4, reduceIte, p5, p6, p7, p8, c1, c2, c3]
          · replace h := run_f c3 h
            simp -failIfUnchanged only [↓RA, RB, RS, fx20, p1, p2, p3, p4, reduceIte, p5, p6, p7, p8, c1, c2, c3]
            have h := run_some h
            refine RdH.mk ⟨_, h, ?_⟩
            refine St.le_mk2 ?_
            simp -failIfUnchanged only [↓RA, RB, RS, fx20, p1, p2, p3, p4, reduceIte, p5, p6, p7, p8, c1, c2, c3, w5]
        · simp -failIfUnchanged only [↓RA, RB, RS, fx20, p1, p2, p3, p4, reduceIte, p5, p6, p7, p8, c1]
          refine CondH.ff (decide_eq_false (by omega)) (fun c4 => ?_)
          simp -failIfUnchanged only [↓RA, RB, RS, fx20, p1, p2, p3, p4, reduceIte, p5, p6, p7, p8, c1, c4]
          have h := run_some h
          obtain rfl : _ = r := h
          refine FinH.l ?_
          simp -failIfUnchanged only [↓RA, RB, RS, fx20, p1, p2, p3, p4, reduceIte, p5, p6, p7, p8, c1, c4]
    · replace h := Run.of h
      rw [szTermN] at h
      refine Sat.of_m (nt := 19) (rs := [.tmp 4]) (n := 100000) Try.func40 rfl rfl rfl rfl (by simp) ?_
      simp -failIfUnchanged only [↓RA, RB, RS, fx40, p1, p2, p3, p4, reduceIte, p5, p6, p7, p8]
      repeat (first | with_reducible refine noR_and (by repeat (first | exact noR_empty _ _ | exact noR_nilS _ _ | refine noR_mk _ _ _ _ _ rfl ?_ | refine noR_mkS _ _ _ _ _ rfl ?_)) ?_ | with_reducible refine noC_and (by repeat (first | exact noC_empty _ _ (by simp -failIfUnchanged only [↓RA, RB, RS, fx40, p1, p2, p3, p4, reduceIte, p5, p6, p7, p8]) | exact noC_nilS _ _ (by simp -failIfUnchanged only [↓RA, RB, RS, fx40, p1, p2, p3, p4, reduceIte, p5, p6, p7, p8]) | refine noC_mk _ _ _ _ _ rfl ?_ | refine noC_mkS _ _ _ _ _ rfl ?_)) ?_ | with_reducible refine and_ac ?_ | with_reducible refine And.intro (a := _ = List.range _) (by rfl) ?_)
      refine CondH.mk (fun c1 => ?_) (fun c1 => ?_)
      · replace h := run_t c1 h
        simp -failIfUnchanged only [↓RA, RB, RS, fx40, p1, p2, p3, p4, reduceIte, p5, p6, p7, p8, c1]
        have h := run_some h
        obtain rfl : _ = r := h
        refine FinH.l ?_
        simp -failIfUnchanged only [↓RA, RB, RS, fx40, p1, p2, p3, p4, reduceIte, p5, p6, p7, p8, c1]
      · replace h := run_f c1 h
        simp -failIfUnchanged only [↓RA, RB, RS, fx40, p1, p2, p3, p4, reduceIte, p5, p6, p7, p8, c1]
        obtain ⟨v15, hv15, h⟩ := run_bind h
        refine CallH.mk [false, false] (ih.1 _ _ _ hv15) ?_ ?_ <;> simp -failIfUnchanged only [↓RA, RB, RS, fx40, p1, p2, p3, p4, reduceIte, p5, p6, p7, p8, c1]
        refine CondH.mk (fun c2 => ?_) (fun c2 => ?_)
        · replace h := run_t c2 h
          simp -failIfUnchanged only [↓RA, RB, RS, fx40, p1, p2, p3, p4, reduceIte, p5, p6, p7, p8, c1, c2]
          have h := run_some h
          obtain rfl : _ = r := h
          refine FinH.l ?_
          simp -failIfUnchanged only [↓RA, RB, RS, fx40, p1, p2, p3, p4, reduceIte, p5, p6, p7, p8, c1, c2]
        · replace h := run_f c2 h
          simp -failIfUnchanged only [↓RA, RB, RS, fx40, p1, p2, p3, p4, reduceIte, p5, p6, p7, p8, c1, c2]
          have h := run_some h
          obtain rfl : _ = r := h
          refine FinH.l ?_
          simp -failIfUnchanged only [↓RA, RB, RS, fx40, p1, p2, p3, p4, reduceIte, p5, p6, p7, p8, c1, c2]
theorem szTermS_sat {a0 : List Term} {a1 : Int} {r : Int} (h : szTermS a0 a1 = some r) : Sat Try.prog 20 [(.sl false 2 (a0.map (Term.pv false))), (I a1)] (I r) := by
  obtain ⟨n, hn⟩ := lim_some h
  exact (szTermSN_sat n).1 _ _ _ hn
theorem szTerm_sat {a0 : Term} {a1 : Int} {r : Int} (h : szTerm a0 a1 = some r) : Sat Try.prog 40 [((Term.pv false) a0), (I a1)] (I r) := by
  obtain ⟨n, hn⟩ := lim_some h
  exact (szTermSN_sat n).2 _ _ _ hn

def fx248 := And.intro @ty_3 <| And.intro @zc_3 <| And.intro @z_3 <| And.intro @ty_189 <| And.intro @zc_189 <| And.intro @z_189 <| And.intro @es_189 <| And.intro @eb_189 <| And.intro @sl_189 <| And.intro @is_189 <| And.intro @el_189 <| And.intro @ze_189 <| And.intro @ez_189 <| And.intro @ty_285 <| And.intro @zc_285 <| And.intro @z_285 <| And.intro @fo_285_0 <| And.intro @fi_285_0 <| And.intro @ft_285_0 <| And.intro @fo_285_1 <| And.intro @fi_285_1 <| And.intro @ft_285_1 <| And.intro @fo_285_2 <| And.intro @fi_285_2 <| And.intro @ft_285_2 <| And.intro @fo_285_3 <| And.intro @fi_285_3 <| And.intro @ft_285_3 <| @lay_285
def fx310 := And.intro @ty_3 <| And.intro @zc_3 <| And.intro @z_3 <| And.intro @ty_9 <| And.intro @zc_9 <| And.intro @z_9 <| And.intro @u_9 <| And.intro @ty_64 <| And.intro @zc_64 <| And.intro @z_64 <| And.intro @fo_64_0 <| And.intro @fi_64_0 <| And.intro @ft_64_0 <| And.intro @fo_64_1 <| And.intro @fi_64_1 <| And.intro @ft_64_1 <| And.intro @lay_64 <| And.intro @ty_189 <| And.intro @zc_189 <| And.intro @z_189 <| And.intro @es_189 <| And.intro @eb_189 <| And.intro @sl_189 <| And.intro @is_189 <| And.intro @el_189 <| And.intro @ze_189 <| And.intro @ez_189 <| And.intro @ty_285 <| And.intro @zc_285 <| And.intro @z_285 <| And.intro @fo_285_0 <| And.intro @fi_285_0 <| And.intro @ft_285_0 <| And.intro @fo_285_1 <| And.intro @fi_285_1 <| And.intro @ft_285_1 <| And.intro @fo_285_2 <| And.intro @fi_285_2 <| And.intro @ft_285_2 <| And.intro @fo_285_3 <| And.intro @fi_285_3 <| And.intro @ft_285_3 <| @lay_285
set_option maxHeartbeats 4000000 in
theorem szFormulaSN_sat (n : Nat) : (∀ (a0 : List Formula) (a1 : Int) (r : Int), szFormulaSN n a0 a1 = some r → Sat Try.prog 248 [(.sl false 5 (a0.map (Formula.pv false))), (I a1)] (I r)) ∧ (∀ (a0 : Formula) (a1 : Int) (r : Int), szFormulaN n a0 a1 = some r → Sat Try.prog 310 [((Formula.pv false) a0), (I a1)] (I r)) := by
  induction n with
  | zero => exact ⟨fun _ _ _ h => by simp [szFormulaSN] at h, fun _ _ _ h => by simp [szFormulaN] at h⟩
  | succ n ih =>
    refine ⟨fun a0 a1 r h => ?_, fun a0 a1 r h => ?_⟩
    · replace h := Run.of h
      rw [szFormulaSN] at h
      refine Sat.of_m (nt := 27) (rs := [.tmp 4]) (n := 100000) Try.func248 rfl rfl rfl rfl (by simp) ?_
      simp -failIfUnchanged only [↓RA, RB, RS, fx248, p1, p2, p3, p4, reduceIte, p5, p6, p7, p8]
      refine CondH.mk (fun c1 => ?_) (fun c1 => ?_)
      · replace h := run_t c1 h
        simp -failIfUnchanged only [↓RA, RB, RS, fx248, p1, p2, p3, p4, reduceIte, p5, p6, p7, p8, c1]
        have h := run_some h
        obtain rfl : _ = r := h
        refine FinH.l ?_
        simp -failIfUnchanged only [↓RA, RB, RS, fx248, p1, p2, p3, p4, reduceIte, p5, p6, p7, p8, c1]
      · replace h := run_f c1 h
        simp -failIfUnchanged only [↓RA, RB, RS, fx248, p1, p2, p3, p4, reduceIte, p5, p6, p7, p8, c1]
        refine Mg.know_sl (b := false) (sz := 5) (es := a0.map (Formula.pv false)) 0 (by simp -failIfUnchanged only [↓RA, RB, RS, fx248, p1, p2, p3, p4, reduceIte, p5, p6, p7, p8, c1]) fun hl0 => ?_; rw [List.length_map] at hl0
        replace h := run_loop h
        refine Mg.forN h (fun i5 s5 => [(0, .val (.pv (.sl false 5 (a0.map (Formula.pv false))))), (1, .val (.pv (I s5))), (5, .val (.pv (I (i5 : Int))))]) (fun i5 s5 => []) (St.le_mk2 (by simp -failIfUnchanged only [↓RA, RB, RS, fx248, p1, p2, p3, p4, reduceIte, p5, p6, p7, p8, c1])) (fun i5 s5 hi h => ?_) (fun s5 h => ?_)
        · have w5 := wrap_succ (i := i5) (by omega)
          simp -failIfUnchanged only [↓RA, RB, RS, fx248, p1, p2, p3, p4, reduceIte, p5, p6, p7, p8, c1]
          refine CondH.tt (decide_eq_true (by omega)) (fun c2 => ?_)
          simp -failIfUnchanged only [↓RA, RB, RS, fx248, p1, p2, p3, p4, reduceIte, p5, p6, p7, p8, c1, c2]
          obtain ⟨v20, hv20, h⟩ := run_bind h
          refine IdxH.mk (f := (Formula.pv false)) hv20 ?_ ?_ <;> simp -failIfUnchanged only [↓RA, RB, RS, fx248, p1, p2, p3, p4, reduceIte, p5, p6, p7, p8, c1, c2]
          obtain ⟨v23, hv23, h⟩ := run_bind h
          refine CallH.mk [false, false] (ih.2 _ _ _ hv23) ?_ ?_ <;> simp -failIfUnchanged only [↓RA, RB, RS, fx248, p1, p2, p3, p4, reduceIte, p5, p6, p7, p8, c1, c2]
          refine CondH.mk (fun c3 => ?_) (fun c3 => ?_)
          · replace h := run_t c3 h
            simp -failIfUnchanged only [↓RA, RB, RS, fx248, p1, p2, p3, p4, reduceIte, p5, p6, p7, p8, c1, c2, c3]
            have h := run_some h
            obtain rfl : _ = r := h
            refine FinH.l ?_
            simp -failIfUnchanged only [↓RA, RB, RS, fx248, p1, p2, p3, p4, reduceIte, p5, p6, p7, p8, c1, c2, c3]
          · replace h := run_f c3 h
            simp -failIfUnchanged only [↓RA, RB, RS, fx248, p1, p2, p3, p4, reduceIte, p5, p6, p7, p8, c1, c2, c3]
            have h := run_some h
            refine RdH.mk ⟨_, h, ?_⟩
            refine St.le_mk2 ?_
            simp -failIfUnchanged only [↓RA, RB, RS, fx248, p1, p2, p3, p4, reduceIte, p5, p6, p7, p8, c1, c2, c3, w5]
        · simp -failIfUnchanged only [↓RA, RB, RS, fx248, p1, p2, p3, p4, reduceIte, p5, p6, p7, p8, c1]
          refine CondH.ff (decide_eq_false (by omega)) (fun c4 => ?_)
          simp -failIfUnchanged only [↓RA, RB, RS, fx248, p1, p2, p3, p4, reduceIte, p5, p6, p7, p8, c1, c4]
          have h := run_some h
          obtain rfl : _ = r := h
          refine FinH.l ?_
          simp -failIfUnchanged only [↓RA, RB, RS, fx248, p1, p2, p3, p4, reduceIte, p5, p6, p7, p8, c1, c4]
    · replace h := Run.of h
      rw [szFormulaN] at h
      refine Sat.of_m (nt := 25) (rs := [.tmp 4]) (n := 100000) Try.func310 rfl rfl rfl rfl (by simp) ?_
      simp -failIfUnchanged only [↓RA, RB, RS, fx310, p1, p2, p3, p4, reduceIte, p5, p6, p7, p8]
      repeat (first | with_reducible refine noR_and (by repeat (first | exact noR_empty _ _ | exact noR_nilS _ _ | refine noR_mk _ _ _ _ _ rfl ?_ | refine noR_mkS _ _ _ _ _ rfl ?_)) ?_ | with_reducible refine noC_and (by repeat (first | exact noC_empty _ _ (by simp -failIfUnchanged only [↓RA, RB, RS, fx310, p1, p2, p3, p4, reduceIte, p5, p6, p7, p8]) | exact noC_nilS _ _ (by simp -failIfUnchanged only [↓RA, RB, RS, fx310, p1, p2, p3, p4, reduceIte, p5, p6, p7, p8]) | refine noC_mk _ _ _ _ _ rfl ?_ | refine noC_mkS _ _ _ _ _ rfl ?_)) ?_ | with_reducible refine and_ac ?_ | with_reducible refine And.intro (a := _ = List.range _) (by rfl) ?_)
      obtain ⟨v8, hv8, h⟩ := run_bind h
      refine CallH.mk [false, false] (szTerm_sat hv8) ?_ ?_ <;> simp -failIfUnchanged only [↓RA, RB, RS, fx310, p1, p2, p3, p4, reduceIte, p5, p6, p7, p8]
      refine CondH.mk (fun c1 => ?_) (fun c1 => ?_)
      · replace h := run_t c1 h
        simp -failIfUnchanged only [↓RA, RB, RS, fx310, p1, p2, p3, p4, reduceIte, p5, p6, p7, p8, c1]
        have h := run_some h
        obtain rfl : _ = r := h
        refine FinH.l ?_
        simp -failIfUnchanged only [↓RA, RB, RS, fx310, p1, p2, p3, p4, reduceIte, p5, p6, p7, p8, c1]
      · replace h := run_f c1 h
        simp -failIfUnchanged only [↓RA, RB, RS, fx310, p1, p2, p3, p4, reduceIte, p5, p6, p7, p8, c1]
        refine CondH.mk (fun c2 => ?_) (fun c2 => ?_)
        · replace h := run_t c2 h
          simp -failIfUnchanged only [↓RA, RB, RS, fx310, p1, p2, p3, p4, reduceIte, p5, p6, p7, p8, c1, c2]
          have h := run_some h
          obtain rfl : _ = r := h
          refine FinH.l ?_
          simp -failIfUnchanged only [↓RA, RB, RS, fx310, p1, p2, p3, p4, reduceIte, p5, p6, p7, p8, c1, c2]
        · replace h := run_f c2 h
          simp -failIfUnchanged only [↓RA, RB, RS, fx310, p1, p2, p3, p4, reduceIte, p5, p6, p7, p8, c1, c2]
          obtain ⟨v21, hv21, h⟩ := run_bind h
          refine CallH.mk [false, false] (ih.1 _ _ _ hv21) ?_ ?_ <;> simp -failIfUnchanged only [↓RA, RB, RS, fx310, p1, p2, p3, p4, reduceIte, p5, p6, p7, p8, c1, c2]
          refine CondH.mk (fun c3 => ?_) (fun c3 => ?_)
          · replace h := run_t c3 h
            simp -failIfUnchanged only [↓RA, RB, RS, fx310, p1, p2, p3, p4, reduceIte, p5, p6, p7, p8, c1, c2, c3]
            have h := run_some h
            obtain rfl : _ = r := h
            refine FinH.l ?_
            simp -failIfUnchanged only [↓RA, RB, RS, fx310, p1, p2, p3, p4, reduceIte, p5, p6, p7, p8, c1, c2, c3]
          · replace h := run_f c3 h
            simp -failIfUnchanged only [↓RA, RB, RS, fx310, p1, p2, p3, p4, reduceIte, p5, p6, p7, p8, c1, c2, c3]
            have h := run_some h
            obtain rfl : _ = r := h
            refine FinH.l ?_
            simp -failIfUnchanged only [↓RA, RB, RS, fx310, p1, p2, p3, p4, reduceIte, p5, p6, p7, p8, c1, c2, c3]
theorem szFormulaS_sat {a0 : List Formula} {a1 : Int} {r : Int} (h : szFormulaS a0 a1 = some r) : Sat Try.prog 248 [(.sl false 5 (a0.map (Formula.pv false))), (I a1)] (I r) := by
  obtain ⟨n, hn⟩ := lim_some h
  exact (szFormulaSN_sat n).1 _ _ _ hn
theorem szFormula_sat {a0 : Formula} {a1 : Int} {r : Int} (h : szFormula a0 a1 = some r) : Sat Try.prog 310 [((Formula.pv false) a0), (I a1)] (I r) := by
  obtain ⟨n, hn⟩ := lim_some h
  exact (szFormulaSN_sat n).2 _ _ _ hn

def fx157 := And.intro @ty_3 <| And.intro @zc_3 <| And.intro @z_3 <| And.intro @ty_189 <| And.intro @zc_189 <| And.intro @z_189 <| And.intro @es_189 <| And.intro @eb_189 <| And.intro @sl_189 <| And.intro @is_189 <| And.intro @el_189 <| And.intro @ze_189 <| And.intro @ez_189 <| And.intro @ty_191 <| And.intro @zc_191 <| And.intro @z_191 <| And.intro @fo_191_0 <| And.intro @fi_191_0 <| And.intro @ft_191_0 <| And.intro @fo_191_1 <| And.intro @fi_191_1 <| And.intro @ft_191_1 <| @lay_191
set_option maxHeartbeats 4000000 in
theorem szSequent_sat {a0 : Sequent} {a1 : Int}  {r : Int} (h : szSequent a0 a1 = some r) : Sat Try.prog 157 [((Sequent.pv false) a0), (I a1)] (I r) := by
  replace h := Run.of h
  unfold szSequent at h
  refine Sat.of_m (nt := 18) (rs := [.tmp 4]) (n := 100000) Try.func157 rfl rfl rfl rfl (by simp) ?_
  simp -failIfUnchanged only [↓RA, RB, RS, fx157, p1, p2, p3, p4, reduceIte, p5, p6, p7, p8]
  repeat (first | with_reducible refine noR_and (by repeat (first | exact noR_empty _ _ | exact noR_nilS _ _ | refine noR_mk _ _ _ _ _ rfl ?_ | refine noR_mkS _ _ _ _ _ rfl ?_)) ?_ | with_reducible refine noC_and (by repeat (first | exact noC_empty _ _ (by simp -failIfUnchanged only [↓RA, RB, RS, fx157, p1, p2, p3, p4, reduceIte, p5, p6, p7, p8]) | exact noC_nilS _ _ (by simp -failIfUnchanged only [↓RA, RB, RS, fx157, p1, p2, p3, p4, reduceIte, p5, p6, p7, p8]) | refine noC_mk _ _ _ _ _ rfl ?_ | refine noC_mkS _ _ _ _ _ rfl ?_)) ?_ | with_reducible refine and_ac ?_ | with_reducible refine And.intro (a := _ = List.range _) (by rfl) ?_)
  obtain ⟨v8, hv8, h⟩ := run_bind h
  refine CallH.mk [false, false] (szFormulaS_sat hv8) ?_ ?_ <;> simp -failIfUnchanged only [↓RA, RB, RS, fx157, p1, p2, p3, p4, reduceIte, p5, p6, p7, p8]
  refine CondH.mk (fun c1 => ?_) (fun c1 => ?_)
  · replace h := run_t c1 h
    simp -failIfUnchanged only [↓RA, RB, RS, fx157, p1, p2, p3, p4, reduceIte, p5, p6, p7, p8, c1]
    have h := run_some h
    obtain rfl : _ = r := h
    refine FinH.l ?_
    simp -failIfUnchanged only [↓RA, RB, RS, fx157, p1, p2, p3, p4, reduceIte, p5, p6, p7, p8, c1]
  · replace h := run_f c1 h
    simp -failIfUnchanged only [↓RA, RB, RS, fx157, p1, p2, p3, p4, reduceIte, p5, p6, p7, p8, c1]
    obtain ⟨v14, hv14, h⟩ := run_bind h
    refine CallH.mk [false, false] (szFormulaS_sat hv14) ?_ ?_ <;> simp -failIfUnchanged only [↓RA, RB, RS, fx157, p1, p2, p3, p4, reduceIte, p5, p6, p7, p8, c1]
    refine CondH.mk (fun c2 => ?_) (fun c2 => ?_)
    · replace h := run_t c2 h
      simp -failIfUnchanged only [↓RA, RB, RS, fx157, p1, p2, p3, p4, reduceIte, p5, p6, p7, p8, c1, c2]
      have h := run_some h
      obtain rfl : _ = r := h
      refine FinH.l ?_
      simp -failIfUnchanged only [↓RA, RB, RS, fx157, p1, p2, p3, p4, reduceIte, p5, p6, p7, p8, c1, c2]
    · replace h := run_f c2 h
      simp -failIfUnchanged only [↓RA, RB, RS, fx157, p1, p2, p3, p4, reduceIte, p5, p6, p7, p8, c1, c2]
      have h := run_some h
      obtain rfl : _ = r := h
      refine FinH.l ?_
      simp -failIfUnchanged only [↓RA, RB, RS, fx157, p1, p2, p3, p4, reduceIte, p5, p6, p7, p8, c1, c2]

def fx74 := And.intro @ty_3 <| And.intro @zc_3 <| And.intro @z_3 <| And.intro @ty_108 <| And.intro @zc_108 <| And.intro @z_108 <| And.intro @es_108 <| And.intro @eb_108 <| And.intro @sl_108 <| And.intro @is_108 <| And.intro @el_108 <| And.intro @ze_108 <| And.intro @ez_108 <| And.intro @ty_191 <| And.intro @zc_191 <| And.intro @z_191 <| And.intro @fo_191_0 <| And.intro @fi_191_0 <| And.intro @ft_191_0 <| And.intro @fo_191_1 <| And.intro @fi_191_1 <| And.intro @ft_191_1 <| @lay_191
set_option maxHeartbeats 4000000 in
theorem szSequentS_sat {a0 : List Sequent} {a1 : Int}  {r : Int} (h : szSequentS a0 a1 = some r) : Sat Try.prog 74 [(.sl false 2 (a0.map (Sequent.pv false))), (I a1)] (I r) := by
  replace h := Run.of h
  unfold szSequentS at h
  refine Sat.of_m (nt := 27) (rs := [.tmp 4]) (n := 100000) Try.func74 rfl rfl rfl rfl (by simp) ?_
  simp -failIfUnchanged only [↓RA, RB, RS, fx74, p1, p2, p3, p4, reduceIte, p5, p6, p7, p8]
  refine CondH.mk (fun c1 => ?_) (fun c1 => ?_)
  · replace h := run_t c1 h
    simp -failIfUnchanged only [↓RA, RB, RS, fx74, p1, p2, p3, p4, reduceIte, p5, p6, p7, p8, c1]
    have h := run_some h
    obtain rfl : _ = r := h
    refine FinH.l ?_
    simp -failIfUnchanged only [↓RA, RB, RS, fx74, p1, p2, p3, p4, reduceIte, p5, p6, p7, p8, c1]
  · replace h := run_f c1 h
    simp -failIfUnchanged only [↓RA, RB, RS, fx74, p1, p2, p3, p4, reduceIte, p5, p6, p7, p8, c1]
    refine Mg.know_sl (b := false) (sz := 2) (es := a0.map (Sequent.pv false)) 0 (by simp -failIfUnchanged only [↓RA, RB, RS, fx74, p1, p2, p3, p4, reduceIte, p5, p6, p7, p8, c1]) fun hl0 => ?_; rw [List.length_map] at hl0
    replace h := run_loop h
    refine Mg.forN h (fun i5 s5 => [(0, .val (.pv (.sl false 2 (a0.map (Sequent.pv false))))), (1, .val (.pv (I s5))), (5, .val (.pv (I (i5 : Int))))]) (fun i5 s5 => []) (St.le_mk2 (by simp -failIfUnchanged only [↓RA, RB, RS, fx74, p1, p2, p3, p4, reduceIte, p5, p6, p7, p8, c1])) (fun i5 s5 hi h => ?_) (fun s5 h => ?_)
    · have w5 := wrap_succ (i := i5) (by omega)
      simp -failIfUnchanged only [↓RA, RB, RS, fx74, p1, p2, p3, p4, reduceIte, p5, p6, p7, p8, c1]
      refine CondH.tt (decide_eq_true (by omega)) (fun c2 => ?_)
      simp -failIfUnchanged only [↓RA, RB, RS, fx74, p1, p2, p3, p4, reduceIte, p5, p6, p7, p8, c1, c2]
      obtain ⟨v20, hv20, h⟩ := run_bind h
      refine IdxH.mk (f := (Sequent.pv false)) hv20 ?_ ?_ <;> simp -failIfUnchanged only [↓RA, RB, RS, fx74, p1, p2, p3, p4, reduceIte, p5, p6, p7, p8, c1, c2]
      obtain ⟨v23, hv23, h⟩ := run_bind h
      refine CallH.mk [false, false] (szSequent_sat hv23) ?_ ?_ <;> simp -failIfUnchanged only [↓RA, RB, RS, fx74, p1, p2, p3, p4, reduceIte, p5, p6, p7, p8, c1, c2]
      refine CondH.mk (fun c3 => ?_) (fun c3 => ?_)
      · replace h := run_t c3 h
        simp -failIfUnchanged only [↓RA, RB, RS, fx74, p1, p2, p3, p4, reduceIte, p5, p6, p7, p8, c1, c2, c3]
        have h := run_some h
        obtain rfl : _ = r := h
        refine FinH.l ?_
        simp -failIfUnchanged only [↓RA, RB, RS, fx74, p1, p2, p3, p4, reduceIte, p5, p6, p7, p8, c1, c2, c3]
      · replace h := run_f c3 h
        simp -failIfUnchanged only [↓RA, RB, RS, fx74, p1, p2, p3, p4, reduceIte, p5, p6, p7, p8, c1, c2, c3]
        have h := run_some h
        refine RdH.mk ⟨_, h, ?_⟩
        refine St.le_mk2 ?_
        simp -failIfUnchanged only [↓RA, RB, RS, fx74, p1, p2, p3, p4, reduceIte, p5, p6, p7, p8, c1, c2, c3, w5]
    · simp -failIfUnchanged only [↓RA, RB, RS, fx74, p1, p2, p3, p4, reduceIte, p5, p6, p7, p8, c1]
      refine CondH.ff (decide_eq_false (by omega)) (fun c4 => ?_)
      simp -failIfUnchanged only [↓RA, RB, RS, fx74, p1, p2, p3, p4, reduceIte, p5, p6, p7, p8, c1, c4]
      have h := run_some h
      obtain rfl : _ = r := h
      refine FinH.l ?_
      simp -failIfUnchanged only [↓RA, RB, RS, fx74, p1, p2, p3, p4, reduceIte, p5, p6, p7, p8, c1, c4]

def fx22 := And.intro @ty_3 <| And.intro @zc_3 <| And.intro @z_3 <| And.intro @ty_22 <| And.intro @zc_22 <| And.intro @z_22 <| And.intro @es_22 <| And.intro @eb_22 <| And.intro @sl_22 <| And.intro @is_22 <| And.intro @el_22 <| And.intro @ze_22 <| And.intro @ez_22 <| And.intro @ty_27 <| And.intro @zc_27 <| And.intro @z_27 <| And.intro @es_27 <| And.intro @eb_27 <| And.intro @sl_27 <| And.intro @is_27 <| And.intro @el_27 <| And.intro @ze_27 <| And.intro @ez_27 <| And.intro @ty_35 <| And.intro @zc_35 <| And.intro @z_35 <| And.intro @fo_35_0 <| And.intro @fi_35_0 <| And.intro @ft_35_0 <| And.intro @fo_35_1 <| And.intro @fi_35_1 <| And.intro @ft_35_1 <| And.intro @lay_35 <| And.intro @ty_64 <| And.intro @zc_64 <| And.intro @z_64 <| And.intro @fo_64_0 <| And.intro @fi_64_0 <| And.intro @ft_64_0 <| And.intro @fo_64_1 <| And.intro @fi_64_1 <| And.intro @ft_64_1 <| @lay_64
def fx45 := And.intro @ty_9 <| And.intro @zc_9 <| And.intro @z_9 <| And.intro @u_9 <| And.intro @ty_22 <| And.intro @zc_22 <| And.intro @z_22 <| And.intro @es_22 <| And.intro @eb_22 <| And.intro @sl_22 <| And.intro @is_22 <| And.intro @el_22 <| And.intro @ze_22 <| And.intro @ez_22 <| And.intro @ty_27 <| And.intro @zc_27 <| And.intro @z_27 <| And.intro @es_27 <| And.intro @eb_27 <| And.intro @sl_27 <| And.intro @is_27 <| And.intro @el_27 <| And.intro @ze_27 <| And.intro @ez_27 <| And.intro @ty_35 <| And.intro @zc_35 <| And.intro @z_35 <| And.intro @fo_35_0 <| And.intro @fi_35_0 <| And.intro @ft_35_0 <| And.intro @fo_35_1 <| And.intro @fi_35_1 <| And.intro @ft_35_1 <| And.intro @lay_35 <| And.intro @ty_64 <| And.intro @zc_64 <| And.intro @z_64 <| And.intro @fo_64_0 <| And.intro @fi_64_0 <| And.intro @ft_64_0 <| And.intro @fo_64_1 <| And.intro @fi_64_1 <| And.intro @ft_64_1 <| @lay_64
set_option maxHeartbeats 4000000 in
theorem toTermSN_sat (n : Nat) : (∀ (a0 : List Term) (r : List Term), toTermSN n a0 = some r → Sat Try.prog 22 [(.sl false 2 (a0.map (Term.pv false)))] (.sl true 2 (r.map (Term.pv true)))) ∧ (∀ (a0 : Term) (r : Term), toTermN n a0 = some r → Sat Try.prog 45 [((Term.pv false) a0)] ((Term.pv true) r)) := by
  induction n with
  | zero => exact ⟨fun _ _ h => by simp [toTermSN] at h, fun _ _ h => by simp [toTermN] at h⟩
  | succ n ih =>
    refine ⟨fun a0 r h => ?_, fun a0 r h => ?_⟩
    · replace h := Run.of h
      rw [toTermSN] at h
      refine Sat.of_m (nt := 23) (rs := [.tmp 2]) (n := 100000) Try.func22 rfl rfl rfl rfl (by simp) ?_
      simp -failIfUnchanged only [↓RA, RB, RS, fx22, p1, p2, p3, p4, reduceIte, p5, p6, p7, p8]
      obtain ⟨n7, hn7, h⟩ := run_bind h
      refine MknH.mk hn7 ?_
      simp -failIfUnchanged only [↓RA, RB, RS, fx22, p1, p2, p3, p4, reduceIte, p5, p6, p7, p8]
      repeat (first | with_reducible refine noR_and (by repeat (first | exact noR_empty _ _ | exact noR_nilS _ _ | refine noR_mk _ _ _ _ _ rfl ?_ | refine noR_mkS _ _ _ _ _ rfl ?_)) ?_ | with_reducible refine noC_and (by repeat (first | exact noC_empty _ _ (by simp -failIfUnchanged only [↓RA, RB, RS, fx22, p1, p2, p3, p4, reduceIte, p5, p6, p7, p8]) | exact noC_nilS _ _ (by simp -failIfUnchanged only [↓RA, RB, RS, fx22, p1, p2, p3, p4, reduceIte, p5, p6, p7, p8]) | refine noC_mk _ _ _ _ _ rfl ?_ | refine noC_mkS _ _ _ _ _ rfl ?_)) ?_ | with_reducible refine and_ac ?_ | with_reducible refine And.intro (a := _ = List.range _) (by rfl) ?_)
      refine Mg.know_sl (b := false) (sz := 2) (es := a0.map (Term.pv false)) 0 (by simp -failIfUnchanged only [↓RA, RB, RS, fx22, p1, p2, p3, p4, reduceIte, p5, p6, p7, p8]) fun hl0 => ?_; rw [List.length_map] at hl0
      replace h := run_loop h
      refine Mg.forN h (fun i3 s3 => [(0, .val (.pv (.sl false 2 (a0.map (Term.pv false))))), (3, .val (.own 112)), (4, .val (.pv (I (i3 : Int))))]) (fun i3 s3 => [(112, (2, s3.map (Term.pv true)))]) (St.le_mk2 (by simp -failIfUnchanged only [↓RA, RB, RS, fx22, p1, p2, p3, p4, reduceIte, p5, p6, p7, p8])) (fun i3 s3 hi h => ?_) (fun s3 h => ?_)
      · have w3 := wrap_succ (i := i3) (by omega)
        simp -failIfUnchanged only [↓RA, RB, RS, fx22, p1, p2, p3, p4, reduceIte, p5, p6, p7, p8]
        refine CondH.tt (decide_eq_true (by omega)) (fun c1 => ?_)
        simp -failIfUnchanged only [↓RA, RB, RS, fx22, p1, p2, p3, p4, reduceIte, p5, p6, p7, p8, c1]
        obtain ⟨v18, hv18, h⟩ := run_bind h
        refine IdxH.mk (f := (Term.pv false)) hv18 ?_ ?_ <;> simp -failIfUnchanged only [↓RA, RB, RS, fx22, p1, p2, p3, p4, reduceIte, p5, p6, p7, p8, c1]
        obtain ⟨v20, hv20, h⟩ := run_bind h
        refine CallH.mk [false] (ih.2 _ _ hv20) ?_ ?_ <;> simp -failIfUnchanged only [↓RA, RB, RS, fx22, p1, p2, p3, p4, reduceIte, p5, p6, p7, p8, c1]
        repeat (first | with_reducible refine noR_and (by repeat (first | exact noR_empty _ _ | exact noR_nilS _ _ | refine noR_mk _ _ _ _ _ rfl ?_ | refine noR_mkS _ _ _ _ _ rfl ?_)) ?_ | with_reducible refine noC_and (by repeat (first | exact noC_empty _ _ (by simp -failIfUnchanged only [↓RA, RB, RS, fx22, p1, p2, p3, p4, reduceIte, p5, p6, p7, p8]) | exact noC_nilS _ _ (by simp -failIfUnchanged only [↓RA, RB, RS, fx22, p1, p2, p3, p4, reduceIte, p5, p6, p7, p8]) | refine noC_mk _ _ _ _ _ rfl ?_ | refine noC_mkS _ _ _ _ _ rfl ?_)) ?_ | with_reducible refine and_ac ?_ | with_reducible refine And.intro (a := _ = List.range _) (by rfl) ?_)
        obtain ⟨v21, hv21, h⟩ := run_bind h
        refine IdxH.mk (f := (Term.pv true)) hv21 ?_ ?_ <;> simp -failIfUnchanged only [↓RA, RB, RS, fx22, p1, p2, p3, p4, reduceIte, p5, p6, p7, p8, c1]
        obtain ⟨w2, hw2, h⟩ := run_bind h
        refine EldH.mk (f := (Term.pv true)) hw2 rfl ?_ ?_ <;> simp -failIfUnchanged only [↓RA, RB, RS, fx22, p1, p2, p3, p4, reduceIte, p5, p6, p7, p8, c1]
        have h := run_some h
        refine RdH.mk ⟨_, h, ?_⟩
        refine St.le_mk2 ?_
        simp -failIfUnchanged only [↓RA, RB, RS, fx22, p1, p2, p3, p4, reduceIte, p5, p6, p7, p8, c1, w3]
      · simp -failIfUnchanged only [↓RA, RB, RS, fx22, p1, p2, p3, p4, reduceIte, p5, p6, p7, p8]
        refine CondH.ff (decide_eq_false (by omega)) (fun c3 => ?_)
        simp -failIfUnchanged only [↓RA, RB, RS, fx22, p1, p2, p3, p4, reduceIte, p5, p6, p7, p8, c3]
        have h := run_some h
        obtain rfl : _ = r := h
        refine FinH.l ?_
        simp -failIfUnchanged only [↓RA, RB, RS, fx22, p1, p2, p3, p4, reduceIte, p5, p6, p7, p8, c3]
    · replace h := Run.of h
      rw [toTermN] at h
      refine Sat.of_m (nt := 12) (rs := [.cell 2 35]) (n := 100000) Try.func45 rfl rfl rfl rfl (by simp) ?_
      simp -failIfUnchanged only [↓RA, RB, RS, fx45, p1, p2, p3, p4, reduceIte, p5, p6, p7, p8]
      repeat (first | with_reducible refine noR_and (by repeat (first | exact noR_empty _ _ | exact noR_nilS _ _ | refine noR_mk _ _ _ _ _ rfl ?_ | refine noR_mkS _ _ _ _ _ rfl ?_)) ?_ | with_reducible refine noC_and (by repeat (first | exact noC_empty _ _ (by simp -failIfUnchanged only [↓RA, RB, RS, fx45, p1, p2, p3, p4, reduceIte, p5, p6, p7, p8]) | exact noC_nilS _ _ (by simp -failIfUnchanged only [↓RA, RB, RS, fx45, p1, p2, p3, p4, reduceIte, p5, p6, p7, p8]) | refine noC_mk _ _ _ _ _ rfl ?_ | refine noC_mkS _ _ _ _ _ rfl ?_)) ?_ | with_reducible refine and_ac ?_ | with_reducible refine And.intro (a := _ = List.range _) (by rfl) ?_)
      obtain ⟨v9, hv9, h⟩ := run_bind h
      refine CallH.mk [false] (ih.1 _ _ hv9) ?_ ?_ <;> simp -failIfUnchanged only [↓RA, RB, RS, fx45, p1, p2, p3, p4, reduceIte, p5, p6, p7, p8]
      repeat (first | with_reducible refine noR_and (by repeat (first | exact noR_empty _ _ | exact noR_nilS _ _ | refine noR_mk _ _ _ _ _ rfl ?_ | refine noR_mkS _ _ _ _ _ rfl ?_)) ?_ | with_reducible refine noC_and (by repeat (first | exact noC_empty _ _ (by simp -failIfUnchanged only [↓RA, RB, RS, fx45, p1, p2, p3, p4, reduceIte, p5, p6, p7, p8]) | exact noC_nilS _ _ (by simp -failIfUnchanged only [↓RA, RB, RS, fx45, p1, p2, p3, p4, reduceIte, p5, p6, p7, p8]) | refine noC_mk _ _ _ _ _ rfl ?_ | refine noC_mkS _ _ _ _ _ rfl ?_)) ?_ | with_reducible refine and_ac ?_ | with_reducible refine And.intro (a := _ = List.range _) (by rfl) ?_)
      have h := run_some h
      obtain rfl : _ = r := h
      refine FinH.l ?_
      simp -failIfUnchanged only [↓RA, RB, RS, fx45, p1, p2, p3, p4, reduceIte, p5, p6, p7, p8]
theorem toTermS_sat {a0 : List Term} {r : List Term} (h : toTermS a0 = some r) : Sat Try.prog 22 [(.sl false 2 (a0.map (Term.pv false)))] (.sl true 2 (r.map (Term.pv true))) := by
  obtain ⟨n, hn⟩ := lim_some h
  exact (toTermSN_sat n).1 _ _ hn
theorem toTerm_sat {a0 : Term} {r : Term} (h : toTerm a0 = some r) : Sat Try.prog 45 [((Term.pv false) a0)] ((Term.pv true) r) := by
  obtain ⟨n, hn⟩ := lim_some h
  exact (toTermSN_sat n).2 _ _ hn

def fx253 := And.intro @ty_3 <| And.intro @zc_3 <| And.intro @z_3 <| And.intro @ty_119 <| And.intro @zc_119 <| And.intro @z_119 <| And.intro @es_119 <| And.intro @eb_119 <| And.intro @sl_119 <| And.intro @is_119 <| And.intro @el_119 <| And.intro @ze_119 <| And.intro @ez_119 <| And.intro @ty_121 <| And.intro @zc_121 <| And.intro @z_121 <| And.intro @fo_121_0 <| And.intro @fi_121_0 <| And.intro @ft_121_0 <| And.intro @fo_121_1 <| And.intro @fi_121_1 <| And.intro @ft_121_1 <| And.intro @fo_121_2 <| And.intro @fi_121_2 <| And.intro @ft_121_2 <| And.intro @fo_121_3 <| And.intro @fi_121_3 <| And.intro @ft_121_3 <| And.intro @lay_121 <| And.intro @ty_189 <| And.intro @zc_189 <| And.intro @z_189 <| And.intro @es_189 <| And.intro @eb_189 <| And.intro @sl_189 <| And.intro @is_189 <| And.intro @el_189 <| And.intro @ze_189 <| And.intro @ez_189 <| And.intro @ty_285 <| And.intro @zc_285 <| And.intro @z_285 <| And.intro @fo_285_0 <| And.intro @fi_285_0 <| And.intro @ft_285_0 <| And.intro @fo_285_1 <| And.intro @fi_285_1 <| And.intro @ft_285_1 <| And.intro @fo_285_2 <| And.intro @fi_285_2 <| And.intro @ft_285_2 <| And.intro @fo_285_3 <| And.intro @fi_285_3 <| And.intro @ft_285_3 <| @lay_285
def fx311 := And.intro @ty_3 <| And.intro @zc_3 <| And.intro @z_3 <| And.intro @ty_9 <| And.intro @zc_9 <| And.intro @z_9 <| And.intro @u_9 <| And.intro @ty_35 <| And.intro @zc_35 <| And.intro @z_35 <| And.intro @fo_35_0 <| And.intro @fi_35_0 <| And.intro @ft_35_0 <| And.intro @fo_35_1 <| And.intro @fi_35_1 <| And.intro @ft_35_1 <| And.intro @lay_35 <| And.intro @ty_64 <| And.intro @zc_64 <| And.intro @z_64 <| And.intro @fo_64_0 <| And.intro @fi_64_0 <| And.intro @ft_64_0 <| And.intro @fo_64_1 <| And.intro @fi_64_1 <| And.intro @ft_64_1 <| And.intro @lay_64 <| And.intro @ty_119 <| And.intro @zc_119 <| And.intro @z_119 <| And.intro @es_119 <| And.intro @eb_119 <| And.intro @sl_119 <| And.intro @is_119 <| And.intro @el_119 <| And.intro @ze_119 <| And.intro @ez_119 <| And.intro @ty_121 <| And.intro @zc_121 <| And.intro @z_121 <| And.intro @fo_121_0 <| And.intro @fi_121_0 <| And.intro @ft_121_0 <| And.intro @fo_121_1 <| And.intro @fi_121_1 <| And.intro @ft_121_1 <| And.intro @fo_121_2 <| And.intro @fi_121_2 <| And.intro @ft_121_2 <| And.intro @fo_121_3 <| And.intro @fi_121_3 <| And.intro @ft_121_3 <| And.intro @lay_121 <| And.intro @ty_189 <| And.intro @zc_189 <| And.intro @z_189 <| And.intro @es_189 <| And.intro @eb_189 <| And.intro @sl_189 <| And.intro @is_189 <| And.intro @el_189 <| And.intro @ze_189 <| And.intro @ez_189 <| And.intro @ty_285 <| And.intro @zc_285 <| And.intro @z_285 <| And.intro @fo_285_0 <| And.intro @fi_285_0 <| And.intro @ft_285_0 <| And.intro @fo_285_1 <| And.intro @fi_285_1 <| And.intro @ft_285_1 <| And.intro @fo_285_2 <| And.intro @fi_285_2 <| And.intro @ft_285_2 <| And.intro @fo_285_3 <| And.intro @fi_285_3 <| And.intro @ft_285_3 <| @lay_285
set_option maxHeartbeats 4000000 in
theorem toFormulaSN_sat (n : Nat) : (∀ (a0 : List Formula) (r : List Formula), toFormulaSN n a0 = some r → Sat Try.prog 253 [(.sl false 5 (a0.map (Formula.pv false)))] (.sl true 5 (r.map (Formula.pv true)))) ∧ (∀ (a0 : Formula) (r : Formula), toFormulaN n a0 = some r → Sat Try.prog 311 [((Formula.pv false) a0)] ((Formula.pv true) r)) := by
  induction n with
  | zero => exact ⟨fun _ _ h => by simp [toFormulaSN] at h, fun _ _ h => by simp [toFormulaN] at h⟩
  | succ n ih =>
    refine ⟨fun a0 r h => ?_, fun a0 r h => ?_⟩
    · replace h := Run.of h
      rw [toFormulaSN] at h
      refine Sat.of_m (nt := 23) (rs := [.tmp 2]) (n := 100000) Try.func253 rfl rfl rfl rfl (by simp) ?_
      simp -failIfUnchanged only [↓RA, RB, RS, fx253, p1, p2, p3, p4, reduceIte, p5, p6, p7, p8]
      obtain ⟨n7, hn7, h⟩ := run_bind h
      refine MknH.mk hn7 ?_
      simp -failIfUnchanged only [↓RA, RB, RS, fx253, p1, p2, p3, p4, reduceIte, p5, p6, p7, p8]
      repeat (first | with_reducible refine noR_and (by repeat (first | exact noR_empty _ _ | exact noR_nilS _ _ | refine noR_mk _ _ _ _ _ rfl ?_ | refine noR_mkS _ _ _ _ _ rfl ?_)) ?_ | with_reducible refine noC_and (by repeat (first | exact noC_empty _ _ (by simp -failIfUnchanged only [↓RA, RB, RS, fx253, p1, p2, p3, p4, reduceIte, p5, p6, p7, p8]) | exact noC_nilS _ _ (by simp -failIfUnchanged only [↓RA, RB, RS, fx253, p1, p2, p3, p4, reduceIte, p5, p6, p7, p8]) | refine noC_mk _ _ _ _ _ rfl ?_ | refine noC_mkS _ _ _ _ _ rfl ?_)) ?_ | with_reducible refine and_ac ?_ | with_reducible refine And.intro (a := _ = List.range _) (by rfl) ?_)
      refine Mg.know_sl (b := false) (sz := 5) (es := a0.map (Formula.pv false)) 0 (by simp -failIfUnchanged only [↓RA, RB, RS, fx253, p1, p2, p3, p4, reduceIte, p5, p6, p7, p8]) fun hl0 => ?_; rw [List.length_map] at hl0
      replace h := run_loop h
      refine Mg.forN h (fun i3 s3 => [(0, .val (.pv (.sl false 5 (a0.map (Formula.pv false))))), (3, .val (.own 112)), (4, .val (.pv (I (i3 : Int))))]) (fun i3 s3 => [(112, (5, s3.map (Formula.pv true)))]) (St.le_mk2 (by simp -failIfUnchanged only [↓RA, RB, RS, fx253, p1, p2, p3, p4, reduceIte, p5, p6, p7, p8])) (fun i3 s3 hi h => ?_) (fun s3 h => ?_)
      · have w3 := wrap_succ (i := i3) (by omega)
        simp -failIfUnchanged only [↓RA, RB, RS, fx253, p1, p2, p3, p4, reduceIte, p5, p6, p7, p8]
        refine CondH.tt (decide_eq_true (by omega)) (fun c1 => ?_)
        simp -failIfUnchanged only [↓RA, RB, RS, fx253, p1, p2, p3, p4, reduceIte, p5, p6, p7, p8, c1]
        obtain ⟨v18, hv18, h⟩ := run_bind h
        refine IdxH.mk (f := (Formula.pv false)) hv18 ?_ ?_ <;> simp -failIfUnchanged only [↓RA, RB, RS, fx253, p1, p2, p3, p4, reduceIte, p5, p6, p7, p8, c1]
        obtain ⟨v20, hv20, h⟩ := run_bind h
        refine CallH.mk [false] (ih.2 _ _ hv20) ?_ ?_ <;> simp -failIfUnchanged only [↓RA, RB, RS, fx253, p1, p2, p3, p4, reduceIte, p5, p6, p7, p8, c1]
        repeat (first | with_reducible refine noR_and (by repeat (first | exact noR_empty _ _ | exact noR_nilS _ _ | refine noR_mk _ _ _ _ _ rfl ?_ | refine noR_mkS _ _ _ _ _ rfl ?_)) ?_ | with_reducible refine noC_and (by repeat (first | exact noC_empty _ _ (by simp -failIfUnchanged only [↓RA, RB, RS, fx253, p1, p2, p3, p4, reduceIte, p5, p6, p7, p8]) | exact noC_nilS _ _ (by simp -failIfUnchanged only [↓RA, RB, RS, fx253, p1, p2, p3, p4, reduceIte, p5, p6, p7, p8]) | refine noC_mk _ _ _ _ _ rfl ?_ | refine noC_mkS _ _ _ _ _ rfl ?_)) ?_ | with_reducible refine and_ac ?_ | with_reducible refine And.intro (a := _ = List.range _) (by rfl) ?_)
        obtain ⟨v21, hv21, h⟩ := run_bind h
        refine IdxH.mk (f := (Formula.pv true)) hv21 ?_ ?_ <;> simp -failIfUnchanged only [↓RA, RB, RS, fx253, p1, p2, p3, p4, reduceIte, p5, p6, p7, p8, c1]
        obtain ⟨w2, hw2, h⟩ := run_bind h
        refine EldH.mk (f := (Formula.pv true)) hw2 rfl ?_ ?_ <;> simp -failIfUnchanged only [↓RA, RB, RS, fx253, p1, p2, p3, p4, reduceIte, p5, p6, p7, p8, c1]
        have h := run_some h
        refine RdH.mk ⟨_, h, ?_⟩
        refine St.le_mk2 ?_
        simp -failIfUnchanged only [↓RA, RB, RS, fx253, p1, p2, p3, p4, reduceIte, p5, p6, p7, p8, c1, w3]
      · simp -failIfUnchanged only [↓RA, RB, RS, fx253, p1, p2, p3, p4, reduceIte, p5, p6, p7, p8]
        refine CondH.ff (decide_eq_false (by omega)) (fun c3 => ?_)
        simp -failIfUnchanged only [↓RA, RB, RS, fx253, p1, p2, p3, p4, reduceIte, p5, p6, p7, p8, c3]
        have h := run_some h
        obtain rfl : _ = r := h
        refine FinH.l ?_
        simp -failIfUnchanged only [↓RA, RB, RS, fx253, p1, p2, p3, p4, reduceIte, p5, p6, p7, p8, c3]
    · replace h := Run.of h
      rw [toFormulaN] at h
      refine Sat.of_m (nt := 19) (rs := [.cell 2 121]) (n := 100000) Try.func311 rfl rfl rfl rfl (by simp) ?_
      simp -failIfUnchanged only [↓RA, RB, RS, fx311, p1, p2, p3, p4, reduceIte, p5, p6, p7, p8]
      repeat (first | with_reducible refine noR_and (by repeat (first | exact noR_empty _ _ | exact noR_nilS _ _ | refine noR_mk _ _ _ _ _ rfl ?_ | refine noR_mkS _ _ _ _ _ rfl ?_)) ?_ | with_reducible refine noC_and (by repeat (first | exact noC_empty _ _ (by simp -failIfUnchanged only [↓RA, RB, RS, fx311, p1, p2, p3, p4, reduceIte, p5, p6, p7, p8]) | exact noC_nilS _ _ (by simp -failIfUnchanged only [↓RA, RB, RS, fx311, p1, p2, p3, p4, reduceIte, p5, p6, p7, p8]) | refine noC_mk _ _ _ _ _ rfl ?_ | refine noC_mkS _ _ _ _ _ rfl ?_)) ?_ | with_reducible refine and_ac ?_ | with_reducible refine And.intro (a := _ = List.range _) (by rfl) ?_)
      obtain ⟨v9, hv9, h⟩ := run_bind h
      refine CallH.mk [false] (toTerm_sat hv9) ?_ ?_ <;> simp -failIfUnchanged only [↓RA, RB, RS, fx311, p1, p2, p3, p4, reduceIte, p5, p6, p7, p8]
      repeat (first | with_reducible refine noR_and (by repeat (first | exact noR_empty _ _ | exact noR_nilS _ _ | refine noR_mk _ _ _ _ _ rfl ?_ | refine noR_mkS _ _ _ _ _ rfl ?_)) ?_ | with_reducible refine noC_and (by repeat (first | exact noC_empty _ _ (by simp -failIfUnchanged only [↓RA, RB, RS, fx311, p1, p2, p3, p4, reduceIte, p5, p6, p7, p8]) | exact noC_nilS _ _ (by simp -failIfUnchanged only [↓RA, RB, RS, fx311, p1, p2, p3, p4, reduceIte, p5, p6, p7, p8]) | refine noC_mk _ _ _ _ _ rfl ?_ | refine noC_mkS _ _ _ _ _ rfl ?_)) ?_ | with_reducible refine and_ac ?_ | with_reducible refine And.intro (a := _ = List.range _) (by rfl) ?_)
      obtain ⟨v16, hv16, h⟩ := run_bind h
      refine CallH.mk [false] (ih.1 _ _ hv16) ?_ ?_ <;> simp -failIfUnchanged only [↓RA, RB, RS, fx311, p1, p2, p3, p4, reduceIte, p5, p6, p7, p8]
      repeat (first | with_reducible refine noR_and (by repeat (first | exact noR_empty _ _ | exact noR_nilS _ _ | refine noR_mk _ _ _ _ _ rfl ?_ | refine noR_mkS _ _ _ _ _ rfl ?_)) ?_ | with_reducible refine noC_and (by repeat (first | exact noC_empty _ _ (by simp -failIfUnchanged only [↓RA, RB, RS, fx311, p1, p2, p3, p4, reduceIte, p5, p6, p7, p8]) | exact noC_nilS _ _ (by simp -failIfUnchanged only [↓RA, RB, RS, fx311, p1, p2, p3, p4, reduceIte, p5, p6, p7, p8]) | refine noC_mk _ _ _ _ _ rfl ?_ | refine noC_mkS _ _ _ _ _ rfl ?_)) ?_ | with_reducible refine and_ac ?_ | with_reducible refine And.intro (a := _ = List.range _) (by rfl) ?_)
      have h := run_some h
      obtain rfl : _ = r := h
      refine FinH.l ?_
      simp -failIfUnchanged only [↓RA, RB, RS, fx311, p1, p2, p3, p4, reduceIte, p5, p6, p7, p8]
theorem toFormulaS_sat {a0 : List Formula} {r : List Formula} (h : toFormulaS a0 = some r) : Sat Try.prog 253 [(.sl false 5 (a0.map (Formula.pv false)))] (.sl true 5 (r.map (Formula.pv true))) := by
  obtain ⟨n, hn⟩ := lim_some h
  exact (toFormulaSN_sat n).1 _ _ hn
theorem toFormula_sat {a0 : Formula} {r : Formula} (h : toFormula a0 = some r) : Sat Try.prog 311 [((Formula.pv false) a0)] ((Formula.pv true) r) := by
  obtain ⟨n, hn⟩ := lim_some h
  exact (toFormulaSN_sat n).2 _ _ hn

def fx161 := And.intro @ty_119 <| And.intro @zc_119 <| And.intro @z_119 <| And.intro @es_119 <| And.intro @eb_119 <| And.intro @sl_119 <| And.intro @is_119 <| And.intro @el_119 <| And.intro @ze_119 <| And.intro @ez_119 <| And.intro @ty_189 <| And.intro @zc_189 <| And.intro @z_189 <| And.intro @es_189 <| And.intro @eb_189 <| And.intro @sl_189 <| And.intro @is_189 <| And.intro @el_189 <| And.intro @ze_189 <| And.intro @ez_189 <| And.intro @ty_191 <| And.intro @zc_191 <| And.intro @z_191 <| And.intro @fo_191_0 <| And.intro @fi_191_0 <| And.intro @ft_191_0 <| And.intro @fo_191_1 <| And.intro @fi_191_1 <| And.intro @ft_191_1 <| And.intro @lay_191 <| And.intro @ty_194 <| And.intro @zc_194 <| And.intro @z_194 <| And.intro @fo_194_0 <| And.intro @fi_194_0 <| And.intro @ft_194_0 <| And.intro @fo_194_1 <| And.intro @fi_194_1 <| And.intro @ft_194_1 <| @lay_194
set_option maxHeartbeats 4000000 in
theorem toSequent_sat {a0 : Sequent}  {r : Sequent} (h : toSequent a0 = some r) : Sat Try.prog 161 [((Sequent.pv false) a0)] ((Sequent.pv true) r) := by
  replace h := Run.of h
  unfold toSequent at h
  refine Sat.of_m (nt := 13) (rs := [.cell 2 194]) (n := 100000) Try.func161 rfl rfl rfl rfl (by simp) ?_
  simp -failIfUnchanged only [↓RA, RB, RS, fx161, p1, p2, p3, p4, reduceIte, p5, p6, p7, p8]
  repeat (first | with_reducible refine noR_and (by repeat (first | exact noR_empty _ _ | exact noR_nilS _ _ | refine noR_mk _ _ _ _ _ rfl ?_ | refine noR_mkS _ _ _ _ _ rfl ?_)) ?_ | with_reducible refine noC_and (by repeat (first | exact noC_empty _ _ (by simp -failIfUnchanged only [↓RA, RB, RS, fx161, p1, p2, p3, p4, reduceIte, p5, p6, p7, p8]) | exact noC_nilS _ _ (by simp -failIfUnchanged only [↓RA, RB, RS, fx161, p1, p2, p3, p4, reduceIte, p5, p6, p7, p8]) | refine noC_mk _ _ _ _ _ rfl ?_ | refine noC_mkS _ _ _ _ _ rfl ?_)) ?_ | with_reducible refine and_ac ?_ | with_reducible refine And.intro (a := _ = List.range _) (by rfl) ?_)
  obtain ⟨v6, hv6, h⟩ := run_bind h
  refine CallH.mk [false] (toFormulaS_sat hv6) ?_ ?_ <;> simp -failIfUnchanged only [↓RA, RB, RS, fx161, p1, p2, p3, p4, reduceIte, p5, p6, p7, p8]
  repeat (first | with_reducible refine noR_and (by repeat (first | exact noR_empty _ _ | exact noR_nilS _ _ | refine noR_mk _ _ _ _ _ rfl ?_ | refine noR_mkS _ _ _ _ _ rfl ?_)) ?_ | with_reducible refine noC_and (by repeat (first | exact noC_empty _ _ (by simp -failIfUnchanged only [↓RA, RB, RS, fx161, p1, p2, p3, p4, reduceIte, p5, p6, p7, p8]) | exact noC_nilS _ _ (by simp -failIfUnchanged only [↓RA, RB, RS, fx161, p1, p2, p3, p4, reduceIte, p5, p6, p7, p8]) | refine noC_mk _ _ _ _ _ rfl ?_ | refine noC_mkS _ _ _ _ _ rfl ?_)) ?_ | with_reducible refine and_ac ?_ | with_reducible refine And.intro (a := _ = List.range _) (by rfl) ?_)
  obtain ⟨v10, hv10, h⟩ := run_bind h
  refine CallH.mk [false] (toFormulaS_sat hv10) ?_ ?_ <;> simp -failIfUnchanged only [↓RA, RB, RS, fx161, p1, p2, p3, p4, reduceIte, p5, p6, p7, p8]
  repeat (first | with_reducible refine noR_and (by repeat (first | exact noR_empty _ _ | exact noR_nilS _ _ | refine noR_mk _ _ _ _ _ rfl ?_ | refine noR_mkS _ _ _ _ _ rfl ?_)) ?_ | with_reducible refine noC_and (by repeat (first | exact noC_empty _ _ (by simp -failIfUnchanged only [↓RA, RB, RS, fx161, p1, p2, p3, p4, reduceIte, p5, p6, p7, p8]) | exact noC_nilS _ _ (by simp -failIfUnchanged only [↓RA, RB, RS, fx161, p1, p2, p3, p4, reduceIte, p5, p6, p7, p8]) | refine noC_mk _ _ _ _ _ rfl ?_ | refine noC_mkS _ _ _ _ _ rfl ?_)) ?_ | with_reducible refine and_ac ?_ | with_reducible refine And.intro (a := _ = List.range _) (by rfl) ?_)
  have h := run_some h
  obtain rfl : _ = r := h
  refine FinH.l ?_
  simp -failIfUnchanged only [↓RA, RB, RS, fx161, p1, p2, p3, p4, reduceIte, p5, p6, p7, p8]

def fx76 := And.intro @ty_3 <| And.intro @zc_3 <| And.intro @z_3 <| And.intro @ty_108 <| And.intro @zc_108 <| And.intro @z_108 <| And.intro @es_108 <| And.intro @eb_108 <| And.intro @sl_108 <| And.intro @is_108 <| And.intro @el_108 <| And.intro @ze_108 <| And.intro @ez_108 <| And.intro @ty_112 <| And.intro @zc_112 <| And.intro @z_112 <| And.intro @es_112 <| And.intro @eb_112 <| And.intro @sl_112 <| And.intro @is_112 <| And.intro @el_112 <| And.intro @ze_112 <| And.intro @ez_112 <| And.intro @ty_191 <| And.intro @zc_191 <| And.intro @z_191 <| And.intro @fo_191_0 <| And.intro @fi_191_0 <| And.intro @ft_191_0 <| And.intro @fo_191_1 <| And.intro @fi_191_1 <| And.intro @ft_191_1 <| And.intro @lay_191 <| And.intro @ty_194 <| And.intro @zc_194 <| And.intro @z_194 <| And.intro @fo_194_0 <| And.intro @fi_194_0 <| And.intro @ft_194_0 <| And.intro @fo_194_1 <| And.intro @fi_194_1 <| And.intro @ft_194_1 <| @lay_194
set_option maxHeartbeats 4000000 in
theorem toSequentS_sat {a0 : List Sequent}  {r : List Sequent} (h : toSequentS a0 = some r) : Sat Try.prog 76 [(.sl false 2 (a0.map (Sequent.pv false)))] (.sl true 2 (r.map (Sequent.pv true))) := by
  replace h := Run.of h
  unfold toSequentS at h
  refine Sat.of_m (nt := 23) (rs := [.tmp 2]) (n := 100000) Try.func76 rfl rfl rfl rfl (by simp) ?_
  simp -failIfUnchanged only [↓RA, RB, RS, fx76, p1, p2, p3, p4, reduceIte, p5, p6, p7, p8]
  obtain ⟨n7, hn7, h⟩ := run_bind h
  refine MknH.mk hn7 ?_
  simp -failIfUnchanged only [↓RA, RB, RS, fx76, p1, p2, p3, p4, reduceIte, p5, p6, p7, p8]
  repeat (first | with_reducible refine noR_and (by repeat (first | exact noR_empty _ _ | exact noR_nilS _ _ | refine noR_mk _ _ _ _ _ rfl ?_ | refine noR_mkS _ _ _ _ _ rfl ?_)) ?_ | with_reducible refine noC_and (by repeat (first | exact noC_empty _ _ (by simp -failIfUnchanged only [↓RA, RB, RS, fx76, p1, p2, p3, p4, reduceIte, p5, p6, p7, p8]) | exact noC_nilS _ _ (by simp -failIfUnchanged only [↓RA, RB, RS, fx76, p1, p2, p3, p4, reduceIte, p5, p6, p7, p8]) | refine noC_mk _ _ _ _ _ rfl ?_ | refine noC_mkS _ _ _ _ _ rfl ?_)) ?_ | with_reducible refine and_ac ?_ | with_reducible refine And.intro (a := _ = List.range _) (by rfl) ?_)
  refine Mg.know_sl (b := false) (sz := 2) (es := a0.map (Sequent.pv false)) 0 (by simp -failIfUnchanged only [↓RA, RB, RS, fx76, p1, p2, p3, p4, reduceIte, p5, p6, p7, p8]) fun hl0 => ?_; rw [List.length_map] at hl0
  replace h := run_loop h
  refine Mg.forN h (fun i3 s3 => [(0, .val (.pv (.sl false 2 (a0.map (Sequent.pv false))))), (3, .val (.own 112)), (4, .val (.pv (I (i3 : Int))))]) (fun i3 s3 => [(112, (2, s3.map (Sequent.pv true)))]) (St.le_mk2 (by simp -failIfUnchanged only [↓RA, RB, RS, fx76, p1, p2, p3, p4, reduceIte, p5, p6, p7, p8])) (fun i3 s3 hi h => ?_) (fun s3 h => ?_)
  · have w3 := wrap_succ (i := i3) (by omega)
    simp -failIfUnchanged only [↓RA, RB, RS, fx76, p1, p2, p3, p4, reduceIte, p5, p6, p7, p8]
    refine CondH.tt (decide_eq_true (by omega)) (fun c1 => ?_)
    simp -failIfUnchanged only [↓RA, RB, RS, fx76, p1, p2, p3, p4, reduceIte, p5, p6, p7, p8, c1]
    obtain ⟨v18, hv18, h⟩ := run_bind h
    refine IdxH.mk (f := (Sequent.pv false)) hv18 ?_ ?_ <;> simp -failIfUnchanged only [↓RA, RB, RS, fx76, p1, p2, p3, p4, reduceIte, p5, p6, p7, p8, c1]
    obtain ⟨v20, hv20, h⟩ := run_bind h
    refine CallH.mk [false] (toSequent_sat hv20) ?_ ?_ <;> simp -failIfUnchanged only [↓RA, RB, RS, fx76, p1, p2, p3, p4, reduceIte, p5, p6, p7, p8, c1]
    repeat (first | with_reducible refine noR_and (by repeat (first | exact noR_empty _ _ | exact noR_nilS _ _ | refine noR_mk _ _ _ _ _ rfl ?_ | refine noR_mkS _ _ _ _ _ rfl ?_)) ?_ | with_reducible refine noC_and (by repeat (first | exact noC_empty _ _ (by simp -failIfUnchanged only [↓RA, RB, RS, fx76, p1, p2, p3, p4, reduceIte, p5, p6, p7, p8]) | exact noC_nilS _ _ (by simp -failIfUnchanged only [↓RA, RB, RS, fx76, p1, p2, p3, p4, reduceIte, p5, p6, p7, p8]) | refine noC_mk _ _ _ _ _ rfl ?_ | refine noC_mkS _ _ _ _ _ rfl ?_)) ?_ | with_reducible refine and_ac ?_ | with_reducible refine And.intro (a := _ = List.range _) (by rfl) ?_)
    obtain ⟨v21, hv21, h⟩ := run_bind h
    refine IdxH.mk (f := (Sequent.pv true)) hv21 ?_ ?_ <;> simp -failIfUnchanged only [↓RA, RB, RS, fx76, p1, p2, p3, p4, reduceIte, p5, p6, p7, p8, c1]
    obtain ⟨w2, hw2, h⟩ := run_bind h
    refine EldH.mk (f := (Sequent.pv true)) hw2 rfl ?_ ?_ <;> simp -failIfUnchanged only [↓RA, RB, RS, fx76, p1, p2, p3, p4, reduceIte, p5, p6, p7, p8, c1]
    have h := run_some h
    refine RdH.mk ⟨_, h, ?_⟩
    refine St.le_mk2 ?_
    simp -failIfUnchanged only [↓RA, RB, RS, fx76, p1, p2, p3, p4, reduceIte, p5, p6, p7, p8, c1, w3]
  · simp -failIfUnchanged only [↓RA, RB, RS, fx76, p1, p2, p3, p4, reduceIte, p5, p6, p7, p8]
    refine CondH.ff (decide_eq_false (by omega)) (fun c3 => ?_)
    simp -failIfUnchanged only [↓RA, RB, RS, fx76, p1, p2, p3, p4, reduceIte, p5, p6, p7, p8, c3]
    have h := run_some h
    obtain rfl : _ = r := h
    refine FinH.l ?_
    simp -failIfUnchanged only [↓RA, RB, RS, fx76, p1, p2, p3, p4, reduceIte, p5, p6, p7, p8, c3]

def fx274 := And.intro @ty_3 <| And.intro @zc_3 <| And.intro @z_3 <| And.intro @ty_119 <| And.intro @zc_119 <| And.intro @z_119 <| And.intro @es_119 <| And.intro @eb_119 <| And.intro @sl_119 <| And.intro @is_119 <| And.intro @el_119 <| And.intro @ze_119 <| And.intro @ez_119 <| And.intro @ty_121 <| And.intro @zc_121 <| And.intro @z_121 <| And.intro @fo_121_0 <| And.intro @fi_121_0 <| And.intro @ft_121_0 <| And.intro @fo_121_1 <| And.intro @fi_121_1 <| And.intro @ft_121_1 <| And.intro @fo_121_2 <| And.intro @fi_121_2 <| And.intro @ft_121_2 <| And.intro @fo_121_3 <| And.intro @fi_121_3 <| And.intro @ft_121_3 <| @lay_121
set_option maxHeartbeats 4000000 in
theorem spec_l8ManyN_sat (n : Nat) : (∀ (a0 : Formula) (a1 : Int) (r : Int), spec_l8ManyN n a0 a1 = some r → Sat Try.prog 274 [((Formula.pv false) a0), (I a1)] (I r)) := by
  induction n with
  | zero => exact fun _ _ _ h => by simp [spec_l8ManyN] at h
  | succ n ih =>
    refine fun a0 a1 r h => ?_
    replace h := Run.of h
    rw [spec_l8ManyN] at h
    refine Sat.of_m (nt := 31) (rs := [.tmp 4]) (n := 100000) Try.func274 rfl rfl rfl rfl (by simp) ?_
    simp -failIfUnchanged only [↓RA, RB, RS, fx274, p1, p2, p3, p4, reduceIte, p5, p6, p7, p8]
    repeat (first | with_reducible refine noR_and (by repeat (first | exact noR_empty _ _ | exact noR_nilS _ _ | refine noR_mk _ _ _ _ _ rfl ?_ | refine noR_mkS _ _ _ _ _ rfl ?_)) ?_ | with_reducible refine noC_and (by repeat (first | exact noC_empty _ _ (by simp -failIfUnchanged only [↓RA, RB, RS, fx274, p1, p2, p3, p4, reduceIte, p5, p6, p7, p8]) | exact noC_nilS _ _ (by simp -failIfUnchanged only [↓RA, RB, RS, fx274, p1, p2, p3, p4, reduceIte, p5, p6, p7, p8]) | refine noC_mk _ _ _ _ _ rfl ?_ | refine noC_mkS _ _ _ _ _ rfl ?_)) ?_ | with_reducible refine and_ac ?_ | with_reducible refine And.intro (a := _ = List.range _) (by rfl) ?_)
    refine Mg.know_val2 (b := false) (sz := 5) (es := a0.Parts.map (Formula.pv false)) (x := (.pv ((Formula.pv false) a0))) 0 [3] (by simp -failIfUnchanged only [↓RA, RB, RS, fx274, p1, p2, p3, p4, reduceIte, p5, p6, p7, p8]) fun hl0 => ?_; rw [List.length_map] at hl0
    replace h := run_loop h
    refine Mg.forN h (fun i3 s3 => [(1, .val (.pv (I a1))), (2, .box (.pv ((Formula.pv false) a0))), (5, .val (.pv (I s3))), (6, .val (.pv (I (i3 : Int))))]) (fun i3 s3 => []) (St.le_mk2 (by simp -failIfUnchanged only [↓RA, RB, RS, fx274, p1, p2, p3, p4, reduceIte, p5, p6, p7, p8])) (fun i3 s3 hi h => ?_) (fun s3 h => ?_)
    · have w3 := wrap_succ (i := i3) (by omega)
      simp -failIfUnchanged only [↓RA, RB, RS, fx274, p1, p2, p3, p4, reduceIte, p5, p6, p7, p8]
      refine CondH.tt (decide_eq_true (by omega)) (fun c1 => ?_)
      simp -failIfUnchanged only [↓RA, RB, RS, fx274, p1, p2, p3, p4, reduceIte, p5, p6, p7, p8, c1]
      refine CondH.mk (fun c2 => ?_) (fun c2 => ?_)
      · replace h := run_t c2 h
        simp -failIfUnchanged only [↓RA, RB, RS, fx274, p1, p2, p3, p4, reduceIte, p5, p6, p7, p8, c1, c2]
        obtain ⟨v23, hv23, h⟩ := run_bind h
        refine IdxH.mk (f := (Formula.pv false)) hv23 ?_ ?_ <;> simp -failIfUnchanged only [↓RA, RB, RS, fx274, p1, p2, p3, p4, reduceIte, p5, p6, p7, p8, c1, c2]
        obtain ⟨v28, hv28, h⟩ := run_bind h
        refine CallH.mk [false, false] (ih _ _ _ hv28) ?_ ?_ <;> simp -failIfUnchanged only [↓RA, RB, RS, fx274, p1, p2, p3, p4, reduceIte, p5, p6, p7, p8, c1, c2]
        have h := run_some h
        refine RdH.mk ⟨_, h, ?_⟩
        refine St.le_mk2 ?_
        simp -failIfUnchanged only [↓RA, RB, RS, fx274, p1, p2, p3, p4, reduceIte, p5, p6, p7, p8, c1, c2, w3]
      · replace h := run_f c2 h
        simp -failIfUnchanged only [↓RA, RB, RS, fx274, p1, p2, p3, p4, reduceIte, p5, p6, p7, p8, c1, c2]
        have h := run_some h
        obtain rfl : _ = r := h
        refine FinH.l ?_
        simp -failIfUnchanged only [↓RA, RB, RS, fx274, p1, p2, p3, p4, reduceIte, p5, p6, p7, p8, c1, c2]
    · simp -failIfUnchanged only [↓RA, RB, RS, fx274, p1, p2, p3, p4, reduceIte, p5, p6, p7, p8]
      refine CondH.ff (decide_eq_false (by omega)) (fun c3 => ?_)
      simp -failIfUnchanged only [↓RA, RB, RS, fx274, p1, p2, p3, p4, reduceIte, p5, p6, p7, p8, c3]
      have h := run_some h
      obtain rfl : _ = r := h
      refine FinH.l ?_
      simp -failIfUnchanged only [↓RA, RB, RS, fx274, p1, p2, p3, p4, reduceIte, p5, p6, p7, p8, c3]
theorem spec_l8Many_sat {a0 : Formula} {a1 : Int} {r : Int} (h : spec_l8Many a0 a1 = some r) : Sat Try.prog 274 [((Formula.pv false) a0), (I a1)] (I r) := by
  obtain ⟨n, hn⟩ := lim_some h
  exact (spec_l8ManyN_sat n) _ _ _ hn

def fx348 := And.intro @ty_3 <| And.intro @zc_3 <| And.intro @z_3 <| And.intro @ty_9 <| And.intro @zc_9 <| And.intro @z_9 <| And.intro @u_9 <| And.intro @ty_27 <| And.intro @zc_27 <| And.intro @z_27 <| And.intro @es_27 <| And.intro @eb_27 <| And.intro @sl_27 <| And.intro @is_27 <| And.intro @el_27 <| And.intro @ze_27 <| And.intro @ez_27 <| And.intro @ty_35 <| And.intro @zc_35 <| And.intro @z_35 <| And.intro @fo_35_0 <| And.intro @fi_35_0 <| And.intro @ft_35_0 <| And.intro @fo_35_1 <| And.intro @fi_35_1 <| And.intro @ft_35_1 <| @lay_35
set_option maxHeartbeats 4000000 in
theorem spec_l8None_sat {a0 : Term}  {r : Bool} (h : spec_l8None a0 = some r) : Sat Try.prog 348 [((Term.pv false) a0)] (B r) := by
  replace h := Run.of h
  unfold spec_l8None at h
  refine Sat.of_m (nt := 12) (rs := [.tmp 2]) (n := 100000) Try.func348 rfl rfl rfl rfl (by simp) ?_
  simp -failIfUnchanged only [↓RA, RB, RS, fx348, p1, p2, p3, p4, reduceIte, p5, p6, p7, p8]
  repeat (first | with_reducible refine noR_and (by repeat (first | exact noR_empty _ _ | exact noR_nilS _ _ | refine noR_mk _ _ _ _ _ rfl ?_ | refine noR_mkS _ _ _ _ _ rfl ?_)) ?_ | with_reducible refine noC_and (by repeat (first | exact noC_empty _ _ (by simp -failIfUnchanged only [↓RA, RB, RS, fx348, p1, p2, p3, p4, reduceIte, p5, p6, p7, p8]) | exact noC_nilS _ _ (by simp -failIfUnchanged only [↓RA, RB, RS, fx348, p1, p2, p3, p4, reduceIte, p5, p6, p7, p8]) | refine noC_mk _ _ _ _ _ rfl ?_ | refine noC_mkS _ _ _ _ _ rfl ?_)) ?_ | with_reducible refine and_ac ?_ | with_reducible refine And.intro (a := _ = List.range _) (by rfl) ?_)
  refine CondH.mk (fun c1 => ?_) (fun c1 => ?_)
  · replace h := run_t c1 h
    simp -failIfUnchanged only [↓RA, RB, RS, fx348, p1, p2, p3, p4, reduceIte, p5, p6, p7, p8, c1]
    have h := run_some h
    obtain rfl : _ = r := h
    refine FinH.l ?_
    simp -failIfUnchanged only [↓RA, RB, RS, fx348, p1, p2, p3, p4, reduceIte, p5, p6, p7, p8, c1]
  · replace h := run_f c1 h
    simp -failIfUnchanged only [↓RA, RB, RS, fx348, p1, p2, p3, p4, reduceIte, p5, p6, p7, p8, c1]
    have h := run_some h
    obtain rfl : _ = r := h
    refine FinH.l ?_
    simp -failIfUnchanged only [↓RA, RB, RS, fx348, p1, p2, p3, p4, reduceIte, p5, p6, p7, p8, c1]

def fx295 := And.intro @ty_3 <| And.intro @zc_3 <| And.intro @z_3 <| And.intro @ty_27 <| And.intro @zc_27 <| And.intro @z_27 <| And.intro @es_27 <| And.intro @eb_27 <| And.intro @sl_27 <| And.intro @is_27 <| And.intro @el_27 <| And.intro @ze_27 <| And.intro @ez_27 <| And.intro @ty_35 <| And.intro @zc_35 <| And.intro @z_35 <| And.intro @fo_35_0 <| And.intro @fi_35_0 <| And.intro @ft_35_0 <| And.intro @fo_35_1 <| And.intro @fi_35_1 <| And.intro @ft_35_1 <| @lay_35
set_option maxHeartbeats 4000000 in
theorem spec_l2ManyN_sat (n : Nat) : (∀ (a0 : Term) (a1 : Int) (r : Int), spec_l2ManyN n a0 a1 = some r → Sat Try.prog 295 [((Term.pv false) a0), (I a1)] (I r)) := by
  induction n with
  | zero => exact fun _ _ _ h => by simp [spec_l2ManyN] at h
  | succ n ih =>
    refine fun a0 a1 r h => ?_
    replace h := Run.of h
    rw [spec_l2ManyN] at h
    refine Sat.of_m (nt := 31) (rs := [.tmp 4]) (n := 100000) Try.func295 rfl rfl rfl rfl (by simp) ?_
    simp -failIfUnchanged only [↓RA, RB, RS, fx295, p1, p2, p3, p4, reduceIte, p5, p6, p7, p8]
    repeat (first | with_reducible refine noR_and (by repeat (first | exact noR_empty _ _ | exact noR_nilS _ _ | refine noR_mk _ _ _ _ _ rfl ?_ | refine noR_mkS _ _ _ _ _ rfl ?_)) ?_ | with_reducible refine noC_and (by repeat (first | exact noC_empty _ _ (by simp -failIfUnchanged only [↓RA, RB, RS, fx295, p1, p2, p3, p4, reduceIte, p5, p6, p7, p8]) | exact noC_nilS _ _ (by simp -failIfUnchanged only [↓RA, RB, RS, fx295, p1, p2, p3, p4, reduceIte, p5, p6, p7, p8]) | refine noC_mk _ _ _ _ _ rfl ?_ | refine noC_mkS _ _ _ _ _ rfl ?_)) ?_ | with_reducible refine and_ac ?_ | with_reducible refine And.intro (a := _ = List.range _) (by rfl) ?_)
    refine Mg.know_val2 (b := false) (sz := 2) (es := a0.Args.map (Term.pv false)) (x := (.pv ((Term.pv false) a0))) 0 [1] (by simp -failIfUnchanged only [↓RA, RB, RS, fx295, p1, p2, p3, p4, reduceIte, p5, p6, p7, p8]) fun hl0 => ?_; rw [List.length_map] at hl0
    replace h := run_loop h
    refine Mg.forN h (fun i3 s3 => [(1, .val (.pv (I a1))), (2, .box (.pv ((Term.pv false) a0))), (5, .val (.pv (I s3))), (6, .val (.pv (I (i3 : Int))))]) (fun i3 s3 => []) (St.le_mk2 (by simp -failIfUnchanged only [↓RA, RB, RS, fx295, p1, p2, p3, p4, reduceIte, p5, p6, p7, p8])) (fun i3 s3 hi h => ?_) (fun s3 h => ?_)
    · have w3 := wrap_succ (i := i3) (by omega)
      simp -failIfUnchanged only [↓RA, RB, RS, fx295, p1, p2, p3, p4, reduceIte, p5, p6, p7, p8]
      refine CondH.tt (decide_eq_true (by omega)) (fun c1 => ?_)
      simp -failIfUnchanged only [↓RA, RB, RS, fx295, p1, p2, p3, p4, reduceIte, p5, p6, p7, p8, c1]
      refine CondH.mk (fun c2 => ?_) (fun c2 => ?_)
      · replace h := run_t c2 h
        simp -failIfUnchanged only [↓RA, RB, RS, fx295, p1, p2, p3, p4, reduceIte, p5, p6, p7, p8, c1, c2]
        obtain ⟨v23, hv23, h⟩ := run_bind h
        refine IdxH.mk (f := (Term.pv false)) hv23 ?_ ?_ <;> simp -failIfUnchanged only [↓RA, RB, RS, fx295, p1, p2, p3, p4, reduceIte, p5, p6, p7, p8, c1, c2]
        obtain ⟨v28, hv28, h⟩ := run_bind h
        refine CallH.mk [false, false] (ih _ _ _ hv28) ?_ ?_ <;> simp -failIfUnchanged only [↓RA, RB, RS, fx295, p1, p2, p3, p4, reduceIte, p5, p6, p7, p8, c1, c2]
        have h := run_some h
        refine RdH.mk ⟨_, h, ?_⟩
        refine St.le_mk2 ?_
        simp -failIfUnchanged only [↓RA, RB, RS, fx295, p1, p2, p3, p4, reduceIte, p5, p6, p7, p8, c1, c2, w3]
      · replace h := run_f c2 h
        simp -failIfUnchanged only [↓RA, RB, RS, fx295, p1, p2, p3, p4, reduceIte, p5, p6, p7, p8, c1, c2]
        have h := run_some h
        obtain rfl : _ = r := h
        refine FinH.l ?_
        simp -failIfUnchanged only [↓RA, RB, RS, fx295, p1, p2, p3, p4, reduceIte, p5, p6, p7, p8, c1, c2]
    · simp -failIfUnchanged only [↓RA, RB, RS, fx295, p1, p2, p3, p4, reduceIte, p5, p6, p7, p8]
      refine CondH.ff (decide_eq_false (by omega)) (fun c3 => ?_)
      simp -failIfUnchanged only [↓RA, RB, RS, fx295, p1, p2, p3, p4, reduceIte, p5, p6, p7, p8, c3]
      have h := run_some h
      obtain rfl : _ = r := h
      refine FinH.l ?_
      simp -failIfUnchanged only [↓RA, RB, RS, fx295, p1, p2, p3, p4, reduceIte, p5, p6, p7, p8, c3]
theorem spec_l2Many_sat {a0 : Term} {a1 : Int} {r : Int} (h : spec_l2Many a0 a1 = some r) : Sat Try.prog 295 [((Term.pv false) a0), (I a1)] (I r) := by
  obtain ⟨n, hn⟩ := lim_some h
  exact (spec_l2ManyN_sat n) _ _ _ hn

def fx209 := And.intro @ty_3 <| And.intro @zc_3 <| @z_3
set_option maxHeartbeats 4000000 in
theorem spec_l1Most_sat {a0 : Int} {a1 : Int}  {r : Int} (h : spec_l1Most a0 a1 = some r) : Sat Try.prog 209 [(I a0), (I a1)] (I r) := by
  replace h := Run.of h
  unfold spec_l1Most at h
  refine Sat.of_m (nt := 10) (rs := [.tmp 4]) (n := 100000) Try.func209 rfl rfl rfl rfl (by simp) ?_
  simp -failIfUnchanged only [↓RA, RB, RS, fx209, p1, p2, p3, p4, reduceIte, p5, p6, p7, p8]
  refine CondH.mk (fun c1 => ?_) (fun c1 => ?_)
  · replace h := run_t c1 h
    simp -failIfUnchanged only [↓RA, RB, RS, fx209, p1, p2, p3, p4, reduceIte, p5, p6, p7, p8, c1]
    have h := run_some h
    obtain rfl : _ = r := h
    refine FinH.l ?_
    simp -failIfUnchanged only [↓RA, RB, RS, fx209, p1, p2, p3, p4, reduceIte, p5, p6, p7, p8, c1]
  · replace h := run_f c1 h
    simp -failIfUnchanged only [↓RA, RB, RS, fx209, p1, p2, p3, p4, reduceIte, p5, p6, p7, p8, c1]
    have h := run_some h
    obtain rfl : _ = r := h
    refine FinH.l ?_
    simp -failIfUnchanged only [↓RA, RB, RS, fx209, p1, p2, p3, p4, reduceIte, p5, p6, p7, p8, c1]

def fx296 := And.intro @ty_3 <| And.intro @zc_3 <| And.intro @z_3 <| And.intro @ty_27 <| And.intro @zc_27 <| And.intro @z_27 <| And.intro @es_27 <| And.intro @eb_27 <| And.intro @sl_27 <| And.intro @is_27 <| And.intro @el_27 <| And.intro @ze_27 <| And.intro @ez_27 <| And.intro @ty_35 <| And.intro @zc_35 <| And.intro @z_35 <| And.intro @fo_35_0 <| And.intro @fi_35_0 <| And.intro @ft_35_0 <| And.intro @fo_35_1 <| And.intro @fi_35_1 <| And.intro @ft_35_1 <| @lay_35
set_option maxHeartbeats 4000000 in
theorem spec_l2DepthN_sat (n : Nat) : (∀ (a0 : Term) (r : Int), spec_l2DepthN n a0 = some r → Sat Try.prog 296 [((Term.pv false) a0)] (I r)) := by
  induction n with
  | zero => exact fun _ _ h => by simp [spec_l2DepthN] at h
  | succ n ih =>
    refine fun a0 r h => ?_
    replace h := Run.of h
    rw [spec_l2DepthN] at h
    refine Sat.of_m (nt := 22) (rs := [.tmp 2]) (n := 100000) Try.func296 rfl rfl rfl rfl (by simp) ?_
    simp -failIfUnchanged only [↓RA, RB, RS, fx296, p1, p2, p3, p4, reduceIte, p5, p6, p7, p8]
    repeat (first | with_reducible refine noR_and (by repeat (first | exact noR_empty _ _ | exact noR_nilS _ _ | refine noR_mk _ _ _ _ _ rfl ?_ | refine noR_mkS _ _ _ _ _ rfl ?_)) ?_ | with_reducible refine noC_and (by repeat (first | exact noC_empty _ _ (by simp -failIfUnchanged only [↓RA, RB, RS, fx296, p1, p2, p3, p4, reduceIte, p5, p6, p7, p8]) | exact noC_nilS _ _ (by simp -failIfUnchanged only [↓RA, RB, RS, fx296, p1, p2, p3, p4, reduceIte, p5, p6, p7, p8]) | refine noC_mk _ _ _ _ _ rfl ?_ | refine noC_mkS _ _ _ _ _ rfl ?_)) ?_ | with_reducible refine and_ac ?_ | with_reducible refine And.intro (a := _ = List.range _) (by rfl) ?_)
    refine Mg.know_val2 (b := false) (sz := 2) (es := a0.Args.map (Term.pv false)) (x := (.pv ((Term.pv false) a0))) 0 [1] (by simp -failIfUnchanged only [↓RA, RB, RS, fx296, p1, p2, p3, p4, reduceIte, p5, p6, p7, p8]) fun hl0 => ?_; rw [List.length_map] at hl0
    replace h := run_loop h
    refine Mg.forN h (fun i3 s3 => [(1, .box (.pv ((Term.pv false) a0))), (3, .val (.pv (I s3))), (4, .val (.pv (I (i3 : Int))))]) (fun i3 s3 => []) (St.le_mk2 (by simp -failIfUnchanged only [↓RA, RB, RS, fx296, p1, p2, p3, p4, reduceIte, p5, p6, p7, p8])) (fun i3 s3 hi h => ?_) (fun s3 h => ?_)
    · have w3 := wrap_succ (i := i3) (by omega)
      simp -failIfUnchanged only [↓RA, RB, RS, fx296, p1, p2, p3, p4, reduceIte, p5, p6, p7, p8]
      refine CondH.tt (decide_eq_true (by omega)) (fun c1 => ?_)
      simp -failIfUnchanged only [↓RA, RB, RS, fx296, p1, p2, p3, p4, reduceIte, p5, p6, p7, p8, c1]
      obtain ⟨v16, hv16, h⟩ := run_bind h
      refine IdxH.mk (f := (Term.pv false)) hv16 ?_ ?_ <;> simp -failIfUnchanged only [↓RA, RB, RS, fx296, p1, p2, p3, p4, reduceIte, p5, p6, p7, p8, c1]
      obtain ⟨v18, hv18, h⟩ := run_bind h
      refine CallH.mk [false] (ih _ _ hv18) ?_ ?_ <;> simp -failIfUnchanged only [↓RA, RB, RS, fx296, p1, p2, p3, p4, reduceIte, p5, p6, p7, p8, c1]
      obtain ⟨v19, hv19, h⟩ := run_bind h
      refine CallH.mk [false, false] (spec_l1Most_sat hv19) ?_ ?_ <;> simp -failIfUnchanged only [↓RA, RB, RS, fx296, p1, p2, p3, p4, reduceIte, p5, p6, p7, p8, c1]
      have h := run_some h
      refine RdH.mk ⟨_, h, ?_⟩
      refine St.le_mk2 ?_
      simp -failIfUnchanged only [↓RA, RB, RS, fx296, p1, p2, p3, p4, reduceIte, p5, p6, p7, p8, c1, w3]
    · simp -failIfUnchanged only [↓RA, RB, RS, fx296, p1, p2, p3, p4, reduceIte, p5, p6, p7, p8]
      refine CondH.ff (decide_eq_false (by omega)) (fun c2 => ?_)
      simp -failIfUnchanged only [↓RA, RB, RS, fx296, p1, p2, p3, p4, reduceIte, p5, p6, p7, p8, c2]
      have h := run_some h
      obtain rfl : _ = r := h
      refine FinH.l ?_
      simp -failIfUnchanged only [↓RA, RB, RS, fx296, p1, p2, p3, p4, reduceIte, p5, p6, p7, p8, c2]
theorem spec_l2Depth_sat {a0 : Term} {r : Int} (h : spec_l2Depth a0 = some r) : Sat Try.prog 296 [((Term.pv false) a0)] (I r) := by
  obtain ⟨n, hn⟩ := lim_some h
  exact (spec_l2DepthN_sat n) _ _ hn

def fx223 := And.intro @ty_3 <| And.intro @zc_3 <| And.intro @z_3 <| And.intro @ty_35 <| And.intro @zc_35 <| And.intro @z_35 <| And.intro @fo_35_0 <| And.intro @fi_35_0 <| And.intro @ft_35_0 <| And.intro @fo_35_1 <| And.intro @fi_35_1 <| And.intro @ft_35_1 <| @lay_35
set_option maxHeartbeats 4000000 in
theorem spec_l2Fits_sat {a0 : Term}  {r : Bool} (h : spec_l2Fits a0 = some r) : Sat Try.prog 223 [((Term.pv false) a0)] (B r) := by
  replace h := Run.of h
  unfold spec_l2Fits at h
  refine Sat.of_m (nt := 11) (rs := [.tmp 2]) (n := 100000) Try.func223 rfl rfl rfl rfl (by simp) ?_
  simp -failIfUnchanged only [↓RA, RB, RS, fx223, p1, p2, p3, p4, reduceIte, p5, p6, p7, p8]
  repeat (first | with_reducible refine noR_and (by repeat (first | exact noR_empty _ _ | exact noR_nilS _ _ | refine noR_mk _ _ _ _ _ rfl ?_ | refine noR_mkS _ _ _ _ _ rfl ?_)) ?_ | with_reducible refine noC_and (by repeat (first | exact noC_empty _ _ (by simp -failIfUnchanged only [↓RA, RB, RS, fx223, p1, p2, p3, p4, reduceIte, p5, p6, p7, p8]) | exact noC_nilS _ _ (by simp -failIfUnchanged only [↓RA, RB, RS, fx223, p1, p2, p3, p4, reduceIte, p5, p6, p7, p8]) | refine noC_mk _ _ _ _ _ rfl ?_ | refine noC_mkS _ _ _ _ _ rfl ?_)) ?_ | with_reducible refine and_ac ?_ | with_reducible refine And.intro (a := _ = List.range _) (by rfl) ?_)
  obtain ⟨v4, hv4, h⟩ := run_bind h
  refine CallH.mk [false, false] (spec_l2Many_sat hv4) ?_ ?_ <;> simp -failIfUnchanged only [↓RA, RB, RS, fx223, p1, p2, p3, p4, reduceIte, p5, p6, p7, p8]
  refine CondH.mk (fun c1 => ?_) (fun c1 => ?_)
  · replace h := run_t c1 h
    simp -failIfUnchanged only [↓RA, RB, RS, fx223, p1, p2, p3, p4, reduceIte, p5, p6, p7, p8, c1]
    obtain ⟨v8, hv8, h⟩ := run_bind h
    refine CallH.mk [false] (spec_l2Depth_sat hv8) ?_ ?_ <;> simp -failIfUnchanged only [↓RA, RB, RS, fx223, p1, p2, p3, p4, reduceIte, p5, p6, p7, p8, c1]
    have h := run_some h
    obtain rfl : _ = r := h
    refine FinH.l ?_
    simp -failIfUnchanged only [↓RA, RB, RS, fx223, p1, p2, p3, p4, reduceIte, p5, p6, p7, p8, c1]
  · replace h := run_f c1 h
    simp -failIfUnchanged only [↓RA, RB, RS, fx223, p1, p2, p3, p4, reduceIte, p5, p6, p7, p8, c1]
    have h := run_some h
    obtain rfl : _ = r := h
    refine FinH.l ?_
    simp -failIfUnchanged only [↓RA, RB, RS, fx223, p1, p2, p3, p4, reduceIte, p5, p6, p7, p8, c1]

def fx95 := And.intro @ty_3 <| And.intro @zc_3 <| @z_3
set_option maxHeartbeats 4000000 in
theorem spec_l1In_sat {a0 : Int} {a1 : Int} {a2 : Int}  {r : Bool} (h : spec_l1In a0 a1 a2 = some r) : Sat Try.prog 95 [(I a0), (I a1), (I a2)] (B r) := by
  replace h := Run.of h
  unfold spec_l1In at h
  refine Sat.of_m (nt := 15) (rs := [.tmp 6]) (n := 100000) Try.func95 rfl rfl rfl rfl (by simp) ?_
  simp -failIfUnchanged only [↓RA, RB, RS, fx95, p1, p2, p3, p4, reduceIte, p5, p6, p7, p8]
  refine CondH.mk (fun c1 => ?_) (fun c1 => ?_)
  · replace h := run_t c1 h
    simp -failIfUnchanged only [↓RA, RB, RS, fx95, p1, p2, p3, p4, reduceIte, p5, p6, p7, p8, c1]
    have h := run_some h
    obtain rfl : _ = r := h
    refine FinH.l ?_
    simp -failIfUnchanged only [↓RA, RB, RS, fx95, p1, p2, p3, p4, reduceIte, p5, p6, p7, p8, c1]
  · replace h := run_f c1 h
    simp -failIfUnchanged only [↓RA, RB, RS, fx95, p1, p2, p3, p4, reduceIte, p5, p6, p7, p8, c1]
    have h := run_some h
    obtain rfl : _ = r := h
    refine FinH.l ?_
    simp -failIfUnchanged only [↓RA, RB, RS, fx95, p1, p2, p3, p4, reduceIte, p5, p6, p7, p8, c1]

def fx245 := And.intro @ty_5 <| And.intro @zc_5 <| @z_5
set_option maxHeartbeats 4000000 in
theorem spec_l2Small_sat {a0 : Int}  {r : Bool} (h : spec_l2Small a0 = some r) : Sat Try.prog 245 [((Ik .u8) a0)] (B r) := by
  replace h := Run.of h
  unfold spec_l2Small at h
  refine Sat.of_m (nt := 17) (rs := [.tmp 2]) (n := 100000) Try.func245 rfl rfl rfl rfl (by simp) ?_
  simp -failIfUnchanged only [↓RA, RB, RS, fx245, p1, p2, p3, p4, reduceIte, p5, p6, p7, p8]
  refine CondH.mk (fun c1 => ?_) (fun c1 => ?_)
  · replace h := run_t c1 h
    simp -failIfUnchanged only [↓RA, RB, RS, fx245, p1, p2, p3, p4, reduceIte, p5, p6, p7, p8, c1]
    refine CondH.mk (fun c2 => ?_) (fun c2 => ?_)
    · replace h := run_t c2 h
      simp -failIfUnchanged only [↓RA, RB, RS, fx245, p1, p2, p3, p4, reduceIte, p5, p6, p7, p8, c1, c2]
      have h := run_some h
      obtain rfl : _ = r := h
      refine FinH.l ?_
      simp -failIfUnchanged only [↓RA, RB, RS, fx245, p1, p2, p3, p4, reduceIte, p5, p6, p7, p8, c1, c2]
    · replace h := run_f c2 h
      simp -failIfUnchanged only [↓RA, RB, RS, fx245, p1, p2, p3, p4, reduceIte, p5, p6, p7, p8, c1, c2]
      refine CondH.mk (fun c3 => ?_) (fun c3 => ?_)
      · replace h := run_t c3 h
        simp -failIfUnchanged only [↓RA, RB, RS, fx245, p1, p2, p3, p4, reduceIte, p5, p6, p7, p8, c1, c2, c3]
        have h := run_some h
        obtain rfl : _ = r := h
        refine FinH.l ?_
        simp -failIfUnchanged only [↓RA, RB, RS, fx245, p1, p2, p3, p4, reduceIte, p5, p6, p7, p8, c1, c2, c3]
      · replace h := run_f c3 h
        simp -failIfUnchanged only [↓RA, RB, RS, fx245, p1, p2, p3, p4, reduceIte, p5, p6, p7, p8, c1, c2, c3]
        have h := run_some h
        obtain rfl : _ = r := h
        refine FinH.l ?_
        simp -failIfUnchanged only [↓RA, RB, RS, fx245, p1, p2, p3, p4, reduceIte, p5, p6, p7, p8, c1, c2, c3]
  · replace h := run_f c1 h
    simp -failIfUnchanged only [↓RA, RB, RS, fx245, p1, p2, p3, p4, reduceIte, p5, p6, p7, p8, c1]
    refine CondH.mk (fun c4 => ?_) (fun c4 => ?_)
    · replace h := run_t c4 h
      simp -failIfUnchanged only [↓RA, RB, RS, fx245, p1, p2, p3, p4, reduceIte, p5, p6, p7, p8, c1, c4]
      have h := run_some h
      obtain rfl : _ = r := h
      refine FinH.l ?_
      simp -failIfUnchanged only [↓RA, RB, RS, fx245, p1, p2, p3, p4, reduceIte, p5, p6, p7, p8, c1, c4]
    · replace h := run_f c4 h
      simp -failIfUnchanged only [↓RA, RB, RS, fx245, p1, p2, p3, p4, reduceIte, p5, p6, p7, p8, c1, c4]
      have h := run_some h
      obtain rfl : _ = r := h
      refine FinH.l ?_
      simp -failIfUnchanged only [↓RA, RB, RS, fx245, p1, p2, p3, p4, reduceIte, p5, p6, p7, p8, c1, c4]

def fx149 := And.intro @ty_3 <| And.intro @zc_3 <| And.intro @z_3 <| And.intro @ty_4 <| And.intro @zc_4 <| And.intro @z_4 <| And.intro @u_4 <| And.intro @ty_5 <| And.intro @zc_5 <| And.intro @z_5 <| And.intro @ty_9 <| And.intro @zc_9 <| And.intro @z_9 <| @u_9
set_option maxHeartbeats 4000000 in
theorem spec_l2Var_sat {a0 : ByteArray}  {r : Bool} (h : spec_l2Var a0 = some r) : Sat Try.prog 149 [(Sx a0)] (B r) := by
  replace h := Run.of h
  unfold spec_l2Var at h
  refine Sat.of_m (nt := 29) (rs := [.tmp 2]) (n := 100000) Try.func149 rfl rfl rfl rfl (by simp) ?_
  simp -failIfUnchanged only [↓RA, RB, RS, fx149, p1, p2, p3, p4, reduceIte, p5, p6, p7, p8]
  obtain ⟨v6, hv6, h⟩ := run_bind h
  refine CallH.mk [false, false, false] (spec_l1In_sat hv6) ?_ ?_ <;> simp -failIfUnchanged only [↓RA, RB, RS, fx149, p1, p2, p3, p4, reduceIte, p5, p6, p7, p8]
  refine CondH.mk (fun c1 => ?_) (fun c1 => ?_)
  · replace h := run_t c1 h
    simp -failIfUnchanged only [↓RA, RB, RS, fx149, p1, p2, p3, p4, reduceIte, p5, p6, p7, p8, c1]
    obtain ⟨v10, hv10, h⟩ := run_bind h
    refine SidxH.mk hv10 ?_
    simp -failIfUnchanged only [↓RA, RB, RS, fx149, p1, p2, p3, p4, reduceIte, p5, p6, p7, p8, c1]
    refine CondH.mk (fun c2 => ?_) (fun c2 => ?_)
    · replace h := run_t c2 h
      simp -failIfUnchanged only [↓RA, RB, RS, fx149, p1, p2, p3, p4, reduceIte, p5, p6, p7, p8, c1, c2]
      have h := run_some h
      obtain rfl : _ = r := h
      refine FinH.l ?_
      simp -failIfUnchanged only [↓RA, RB, RS, fx149, p1, p2, p3, p4, reduceIte, p5, p6, p7, p8, c1, c2]
    · replace h := run_f c2 h
      simp -failIfUnchanged only [↓RA, RB, RS, fx149, p1, p2, p3, p4, reduceIte, p5, p6, p7, p8, c1, c2]
      obtain ⟨v15, hv15, h⟩ := run_bind h
      refine SidxH.mk hv15 ?_
      simp -failIfUnchanged only [↓RA, RB, RS, fx149, p1, p2, p3, p4, reduceIte, p5, p6, p7, p8, c1, c2]
      refine CondH.mk (fun c3 => ?_) (fun c3 => ?_)
      · replace h := run_t c3 h
        simp -failIfUnchanged only [↓RA, RB, RS, fx149, p1, p2, p3, p4, reduceIte, p5, p6, p7, p8, c1, c2, c3]
        have h := run_some h
        obtain rfl : _ = r := h
        refine FinH.l ?_
        simp -failIfUnchanged only [↓RA, RB, RS, fx149, p1, p2, p3, p4, reduceIte, p5, p6, p7, p8, c1, c2, c3]
      · replace h := run_f c3 h
        simp -failIfUnchanged only [↓RA, RB, RS, fx149, p1, p2, p3, p4, reduceIte, p5, p6, p7, p8, c1, c2, c3]
        obtain ⟨N4, hN4, h⟩ := run_bind h
        obtain ⟨hN4a, hN4b⟩ := bnd_some hN4
        replace h := run_loop h
        refine Mg.forA (N := N4) (a := 1) h (fun i4 s4 => [(0, .val (.pv (Sx a0))), (3, .val (.pv (I (i4 : Int))))]) (fun i4 s4 => []) (St.le_mk2 (by simp -failIfUnchanged only [↓RA, RB, RS, fx149, p1, p2, p3, p4, reduceIte, p5, p6, p7, p8, c1, c2, c3])) (fun i4 s4 hi hj h => ?_) (fun j4 s4 hj h => ?_)
        · have w4 := wrap_succ (i := i4) (by omega)
          simp -failIfUnchanged only [↓RA, RB, RS, fx149, p1, p2, p3, p4, reduceIte, p5, p6, p7, p8, c1, c2, c3]
          refine CondH.tt (decide_eq_true (by omega)) (fun c4 => ?_)
          simp -failIfUnchanged only [↓RA, RB, RS, fx149, p1, p2, p3, p4, reduceIte, p5, p6, p7, p8, c1, c2, c3, c4]
          obtain ⟨v26, hv26, h⟩ := run_bind h
          refine SidxH.mk hv26 ?_
          simp -failIfUnchanged only [↓RA, RB, RS, fx149, p1, p2, p3, p4, reduceIte, p5, p6, p7, p8, c1, c2, c3, c4]
          obtain ⟨v27, hv27, h⟩ := run_bind h
          refine CallH.mk [false] (spec_l2Small_sat hv27) ?_ ?_ <;> simp -failIfUnchanged only [↓RA, RB, RS, fx149, p1, p2, p3, p4, reduceIte, p5, p6, p7, p8, c1, c2, c3, c4]
          refine CondH.mk (fun c5 => ?_) (fun c5 => ?_)
          · replace h := run_t c5 h
            simp -failIfUnchanged only [↓RA, RB, RS, fx149, p1, p2, p3, p4, reduceIte, p5, p6, p7, p8, c1, c2, c3, c4, c5]
            have h := run_some h
            refine RdH.mk ⟨_, h, ?_⟩
            refine St.le_mk2 ?_
            simp -failIfUnchanged only [↓RA, RB, RS, fx149, p1, p2, p3, p4, reduceIte, p5, p6, p7, p8, c1, c2, c3, c4, c5, w4]
          · replace h := run_f c5 h
            simp -failIfUnchanged only [↓RA, RB, RS, fx149, p1, p2, p3, p4, reduceIte, p5, p6, p7, p8, c1, c2, c3, c4, c5]
            have h := run_some h
            obtain rfl : _ = r := h
            refine FinH.l ?_
            simp -failIfUnchanged only [↓RA, RB, RS, fx149, p1, p2, p3, p4, reduceIte, p5, p6, p7, p8, c1, c2, c3, c4, c5]
        · simp -failIfUnchanged only [↓RA, RB, RS, fx149, p1, p2, p3, p4, reduceIte, p5, p6, p7, p8, c1, c2, c3]
          refine CondH.ff (decide_eq_false (by omega)) (fun c6 => ?_)
          simp -failIfUnchanged only [↓RA, RB, RS, fx149, p1, p2, p3, p4, reduceIte, p5, p6, p7, p8, c1, c2, c3, c6]
          have h := run_some h
          obtain rfl : _ = r := h
          refine FinH.l ?_
          simp -failIfUnchanged only [↓RA, RB, RS, fx149, p1, p2, p3, p4, reduceIte, p5, p6, p7, p8, c1, c2, c3, c6]
  · replace h := run_f c1 h
    simp -failIfUnchanged only [↓RA, RB, RS, fx149, p1, p2, p3, p4, reduceIte, p5, p6, p7, p8, c1]
    have h := run_some h
    obtain rfl : _ = r := h
    refine FinH.l ?_
    simp -failIfUnchanged only [↓RA, RB, RS, fx149, p1, p2, p3, p4, reduceIte, p5, p6, p7, p8, c1]

def fx222 := And.intro @ty_3 <| And.intro @zc_3 <| And.intro @z_3 <| And.intro @ty_4 <| And.intro @zc_4 <| And.intro @z_4 <| And.intro @u_4 <| And.intro @ty_5 <| And.intro @zc_5 <| And.intro @z_5 <| And.intro @ty_9 <| And.intro @zc_9 <| And.intro @z_9 <| @u_9
set_option maxHeartbeats 4000000 in
theorem spec_l2Symbol_sat {a0 : ByteArray}  {r : Bool} (h : spec_l2Symbol a0 = some r) : Sat Try.prog 222 [(Sx a0)] (B r) := by
  replace h := Run.of h
  unfold spec_l2Symbol at h
  refine Sat.of_m (nt := 45) (rs := [.tmp 2]) (n := 100000) Try.func222 rfl rfl rfl rfl (by simp) ?_
  simp -failIfUnchanged only [↓RA, RB, RS, fx222, p1, p2, p3, p4, reduceIte, p5, p6, p7, p8]
  obtain ⟨v6, hv6, h⟩ := run_bind h
  refine CallH.mk [false, false, false] (spec_l1In_sat hv6) ?_ ?_ <;> simp -failIfUnchanged only [↓RA, RB, RS, fx222, p1, p2, p3, p4, reduceIte, p5, p6, p7, p8]
  refine CondH.mk (fun c1 => ?_) (fun c1 => ?_)
  · replace h := run_t c1 h
    simp -failIfUnchanged only [↓RA, RB, RS, fx222, p1, p2, p3, p4, reduceIte, p5, p6, p7, p8, c1]
    obtain ⟨v10, hv10, h⟩ := run_bind h
    refine SidxH.mk hv10 ?_
    simp -failIfUnchanged only [↓RA, RB, RS, fx222, p1, p2, p3, p4, reduceIte, p5, p6, p7, p8, c1]
    refine CondH.mk (fun c2 => ?_) (fun c2 => ?_)
    · replace h := run_t c2 h
      simp -failIfUnchanged only [↓RA, RB, RS, fx222, p1, p2, p3, p4, reduceIte, p5, p6, p7, p8, c1, c2]
      have h := run_some h
      obtain rfl : _ = r := h
      refine FinH.l ?_
      simp -failIfUnchanged only [↓RA, RB, RS, fx222, p1, p2, p3, p4, reduceIte, p5, p6, p7, p8, c1, c2]
    · replace h := run_f c2 h
      simp -failIfUnchanged only [↓RA, RB, RS, fx222, p1, p2, p3, p4, reduceIte, p5, p6, p7, p8, c1, c2]
      obtain ⟨v15, hv15, h⟩ := run_bind h
      refine SidxH.mk hv15 ?_
      simp -failIfUnchanged only [↓RA, RB, RS, fx222, p1, p2, p3, p4, reduceIte, p5, p6, p7, p8, c1, c2]
      refine CondH.mk (fun c3 => ?_) (fun c3 => ?_)
      · replace h := run_t c3 h
        simp -failIfUnchanged only [↓RA, RB, RS, fx222, p1, p2, p3, p4, reduceIte, p5, p6, p7, p8, c1, c2, c3]
        have h := run_some h
        obtain rfl : _ = r := h
        refine FinH.l ?_
        simp -failIfUnchanged only [↓RA, RB, RS, fx222, p1, p2, p3, p4, reduceIte, p5, p6, p7, p8, c1, c2, c3]
      · replace h := run_f c3 h
        simp -failIfUnchanged only [↓RA, RB, RS, fx222, p1, p2, p3, p4, reduceIte, p5, p6, p7, p8, c1, c2, c3]
        refine CondH.mk (fun c4 => ?_) (fun c4 => ?_)
        · replace h := run_t c4 h
          simp -failIfUnchanged only [↓RA, RB, RS, fx222, p1, p2, p3, p4, reduceIte, p5, p6, p7, p8, c1, c2, c3, c4]
          have h := run_some h
          obtain rfl : _ = r := h
          refine FinH.l ?_
          simp -failIfUnchanged only [↓RA, RB, RS, fx222, p1, p2, p3, p4, reduceIte, p5, p6, p7, p8, c1, c2, c3, c4]
        · replace h := run_f c4 h
          simp -failIfUnchanged only [↓RA, RB, RS, fx222, p1, p2, p3, p4, reduceIte, p5, p6, p7, p8, c1, c2, c3, c4]
          refine CondH.mk (fun c5 => ?_) (fun c5 => ?_)
          · replace h := run_t c5 h
            simp -failIfUnchanged only [↓RA, RB, RS, fx222, p1, p2, p3, p4, reduceIte, p5, p6, p7, p8, c1, c2, c3, c4, c5]
            have h := run_some h
            obtain rfl : _ = r := h
            refine FinH.l ?_
            simp -failIfUnchanged only [↓RA, RB, RS, fx222, p1, p2, p3, p4, reduceIte, p5, p6, p7, p8, c1, c2, c3, c4, c5]
          · replace h := run_f c5 h
            simp -failIfUnchanged only [↓RA, RB, RS, fx222, p1, p2, p3, p4, reduceIte, p5, p6, p7, p8, c1, c2, c3, c4, c5]
            refine CondH.mk (fun c6 => ?_) (fun c6 => ?_)
            · replace h := run_t c6 h
              simp -failIfUnchanged only [↓RA, RB, RS, fx222, p1, p2, p3, p4, reduceIte, p5, p6, p7, p8, c1, c2, c3, c4, c5, c6]
              have h := run_some h
              obtain rfl : _ = r := h
              refine FinH.l ?_
              simp -failIfUnchanged only [↓RA, RB, RS, fx222, p1, p2, p3, p4, reduceIte, p5, p6, p7, p8, c1, c2, c3, c4, c5, c6]
            · replace h := run_f c6 h
              simp -failIfUnchanged only [↓RA, RB, RS, fx222, p1, p2, p3, p4, reduceIte, p5, p6, p7, p8, c1, c2, c3, c4, c5, c6]
              refine CondH.mk (fun c7 => ?_) (fun c7 => ?_)
              · replace h := run_t c7 h
                simp -failIfUnchanged only [↓RA, RB, RS, fx222, p1, p2, p3, p4, reduceIte, p5, p6, p7, p8, c1, c2, c3, c4, c5, c6, c7]
                have h := run_some h
                obtain rfl : _ = r := h
                refine FinH.l ?_
                simp -failIfUnchanged only [↓RA, RB, RS, fx222, p1, p2, p3, p4, reduceIte, p5, p6, p7, p8, c1, c2, c3, c4, c5, c6, c7]
              · replace h := run_f c7 h
                simp -failIfUnchanged only [↓RA, RB, RS, fx222, p1, p2, p3, p4, reduceIte, p5, p6, p7, p8, c1, c2, c3, c4, c5, c6, c7]
                refine CondH.mk (fun c8 => ?_) (fun c8 => ?_)
                · replace h := run_t c8 h
                  simp -failIfUnchanged only [↓RA, RB, RS, fx222, p1, p2, p3, p4, reduceIte, p5, p6, p7, p8, c1, c2, c3, c4, c5, c6, c7, c8]
                  have h := run_some h
                  obtain rfl : _ = r := h
                  refine FinH.l ?_
                  simp -failIfUnchanged only [↓RA, RB, RS, fx222, p1, p2, p3, p4, reduceIte, p5, p6, p7, p8, c1, c2, c3, c4, c5, c6, c7, c8]
                · replace h := run_f c8 h
                  simp -failIfUnchanged only [↓RA, RB, RS, fx222, p1, p2, p3, p4, reduceIte, p5, p6, p7, p8, c1, c2, c3, c4, c5, c6, c7, c8]
                  refine CondH.mk (fun c9 => ?_) (fun c9 => ?_)
                  · replace h := run_t c9 h
                    simp -failIfUnchanged only [↓RA, RB, RS, fx222, p1, p2, p3, p4, reduceIte, p5, p6, p7, p8, c1, c2, c3, c4, c5, c6, c7, c8, c9]
                    have h := run_some h
                    obtain rfl : _ = r := h
                    refine FinH.l ?_
                    simp -failIfUnchanged only [↓RA, RB, RS, fx222, p1, p2, p3, p4, reduceIte, p5, p6, p7, p8, c1, c2, c3, c4, c5, c6, c7, c8, c9]
                  · replace h := run_f c9 h
                    simp -failIfUnchanged only [↓RA, RB, RS, fx222, p1, p2, p3, p4, reduceIte, p5, p6, p7, p8, c1, c2, c3, c4, c5, c6, c7, c8, c9]
                    refine CondH.mk (fun c10 => ?_) (fun c10 => ?_)
                    · replace h := run_t c10 h
                      simp -failIfUnchanged only [↓RA, RB, RS, fx222, p1, p2, p3, p4, reduceIte, p5, p6, p7, p8, c1, c2, c3, c4, c5, c6, c7, c8, c9, c10]
                      have h := run_some h
                      obtain rfl : _ = r := h
                      refine FinH.l ?_
                      simp -failIfUnchanged only [↓RA, RB, RS, fx222, p1, p2, p3, p4, reduceIte, p5, p6, p7, p8, c1, c2, c3, c4, c5, c6, c7, c8, c9, c10]
                    · replace h := run_f c10 h
                      simp -failIfUnchanged only [↓RA, RB, RS, fx222, p1, p2, p3, p4, reduceIte, p5, p6, p7, p8, c1, c2, c3, c4, c5, c6, c7, c8, c9, c10]
                      refine CondH.mk (fun c11 => ?_) (fun c11 => ?_)
                      · replace h := run_t c11 h
                        simp -failIfUnchanged only [↓RA, RB, RS, fx222, p1, p2, p3, p4, reduceIte, p5, p6, p7, p8, c1, c2, c3, c4, c5, c6, c7, c8, c9, c10, c11]
                        have h := run_some h
                        obtain rfl : _ = r := h
                        refine FinH.l ?_
                        simp -failIfUnchanged only [↓RA, RB, RS, fx222, p1, p2, p3, p4, reduceIte, p5, p6, p7, p8, c1, c2, c3, c4, c5, c6, c7, c8, c9, c10, c11]
                      · replace h := run_f c11 h
                        simp -failIfUnchanged only [↓RA, RB, RS, fx222, p1, p2, p3, p4, reduceIte, p5, p6, p7, p8, c1, c2, c3, c4, c5, c6, c7, c8, c9, c10, c11]
                        obtain ⟨N14, hN14, h⟩ := run_bind h
                        obtain ⟨hN14a, hN14b⟩ := bnd_some hN14
                        replace h := run_loop h
                        refine Mg.forA (N := N14) (a := 1) h (fun i14 s14 => [(0, .val (.pv (Sx a0))), (3, .val (.pv (I (i14 : Int))))]) (fun i14 s14 => []) (St.le_mk2 (by simp -failIfUnchanged only [↓RA, RB, RS, fx222, p1, p2, p3, p4, reduceIte, p5, p6, p7, p8, c1, c2, c3, c4, c5, c6, c7, c8, c9, c10, c11])) (fun i14 s14 hi hj h => ?_) (fun j14 s14 hj h => ?_)
                        · have w14 := wrap_succ (i := i14) (by omega)
                          simp -failIfUnchanged only [↓RA, RB, RS, fx222, p1, p2, p3, p4, reduceIte, p5, p6, p7, p8, c1, c2, c3, c4, c5, c6, c7, c8, c9, c10, c11]
                          refine CondH.tt (decide_eq_true (by omega)) (fun c12 => ?_)
                          simp -failIfUnchanged only [↓RA, RB, RS, fx222, p1, p2, p3, p4, reduceIte, p5, p6, p7, p8, c1, c2, c3, c4, c5, c6, c7, c8, c9, c10, c11, c12]
                          obtain ⟨v36, hv36, h⟩ := run_bind h
                          refine SidxH.mk hv36 ?_
                          simp -failIfUnchanged only [↓RA, RB, RS, fx222, p1, p2, p3, p4, reduceIte, p5, p6, p7, p8, c1, c2, c3, c4, c5, c6, c7, c8, c9, c10, c11, c12]
                          obtain ⟨v37, hv37, h⟩ := run_bind h
                          refine CallH.mk [false] (spec_l2Small_sat hv37) ?_ ?_ <;> simp -failIfUnchanged only [↓RA, RB, RS, fx222, p1, p2, p3, p4, reduceIte, p5, p6, p7, p8, c1, c2, c3, c4, c5, c6, c7, c8, c9, c10, c11, c12]
                          refine CondH.mk (fun c13 => ?_) (fun c13 => ?_)
                          · replace h := run_t c13 h
                            simp -failIfUnchanged only [↓RA, RB, RS, fx222, p1, p2, p3, p4, reduceIte, p5, p6, p7, p8, c1, c2, c3, c4, c5, c6, c7, c8, c9, c10, c11, c12, c13]
                            have h := run_some h
                            refine RdH.mk ⟨_, h, ?_⟩
                            refine St.le_mk2 ?_
                            simp -failIfUnchanged only [↓RA, RB, RS, fx222, p1, p2, p3, p4, reduceIte, p5, p6, p7, p8, c1, c2, c3, c4, c5, c6, c7, c8, c9, c10, c11, c12, c13, w14]
                          · replace h := run_f c13 h
                            simp -failIfUnchanged only [↓RA, RB, RS, fx222, p1, p2, p3, p4, reduceIte, p5, p6, p7, p8, c1, c2, c3, c4, c5, c6, c7, c8, c9, c10, c11, c12, c13]
                            obtain ⟨v42, hv42, h⟩ := run_bind h
                            refine SidxH.mk hv42 ?_
                            simp -failIfUnchanged only [↓RA, RB, RS, fx222, p1, p2, p3, p4, reduceIte, p5, p6, p7, p8, c1, c2, c3, c4, c5, c6, c7, c8, c9, c10, c11, c12, c13]
                            refine CondH.mk (fun c14 => ?_) (fun c14 => ?_)
                            · replace h := run_t c14 h
                              simp -failIfUnchanged only [↓RA, RB, RS, fx222, p1, p2, p3, p4, reduceIte, p5, p6, p7, p8, c1, c2, c3, c4, c5, c6, c7, c8, c9, c10, c11, c12, c13, c14]
                              have h := run_some h
                              refine RdH.mk ⟨_, h, ?_⟩
                              refine St.le_mk2 ?_
                              simp -failIfUnchanged only [↓RA, RB, RS, fx222, p1, p2, p3, p4, reduceIte, p5, p6, p7, p8, c1, c2, c3, c4, c5, c6, c7, c8, c9, c10, c11, c12, c13, c14, w14]
                            · replace h := run_f c14 h
                              simp -failIfUnchanged only [↓RA, RB, RS, fx222, p1, p2, p3, p4, reduceIte, p5, p6, p7, p8, c1, c2, c3, c4, c5, c6, c7, c8, c9, c10, c11, c12, c13, c14]
                              have h := run_some h
                              obtain rfl : _ = r := h
                              refine FinH.l ?_
                              simp -failIfUnchanged only [↓RA, RB, RS, fx222, p1, p2, p3, p4, reduceIte, p5, p6, p7, p8, c1, c2, c3, c4, c5, c6, c7, c8, c9, c10, c11, c12, c13, c14]
                        · simp -failIfUnchanged only [↓RA, RB, RS, fx222, p1, p2, p3, p4, reduceIte, p5, p6, p7, p8, c1, c2, c3, c4, c5, c6, c7, c8, c9, c10, c11]
                          refine CondH.ff (decide_eq_false (by omega)) (fun c15 => ?_)
                          simp -failIfUnchanged only [↓RA, RB, RS, fx222, p1, p2, p3, p4, reduceIte, p5, p6, p7, p8, c1, c2, c3, c4, c5, c6, c7, c8, c9, c10, c11, c15]
                          have h := run_some h
                          obtain rfl : _ = r := h
                          refine FinH.l ?_
                          simp -failIfUnchanged only [↓RA, RB, RS, fx222, p1, p2, p3, p4, reduceIte, p5, p6, p7, p8, c1, c2, c3, c4, c5, c6, c7, c8, c9, c10, c11, c15]
  · replace h := run_f c1 h
    simp -failIfUnchanged only [↓RA, RB, RS, fx222, p1, p2, p3, p4, reduceIte, p5, p6, p7, p8, c1]
    have h := run_some h
    obtain rfl : _ = r := h
    refine FinH.l ?_
    simp -failIfUnchanged only [↓RA, RB, RS, fx222, p1, p2, p3, p4, reduceIte, p5, p6, p7, p8, c1]

def fx224 := And.intro @ty_3 <| And.intro @zc_3 <| And.intro @z_3 <| And.intro @ty_4 <| And.intro @zc_4 <| And.intro @z_4 <| And.intro @u_4 <| And.intro @ty_9 <| And.intro @zc_9 <| And.intro @z_9 <| And.intro @u_9 <| And.intro @ty_27 <| And.intro @zc_27 <| And.intro @z_27 <| And.intro @es_27 <| And.intro @eb_27 <| And.intro @sl_27 <| And.intro @is_27 <| And.intro @el_27 <| And.intro @ze_27 <| And.intro @ez_27 <| And.intro @ty_35 <| And.intro @zc_35 <| And.intro @z_35 <| And.intro @fo_35_0 <| And.intro @fi_35_0 <| And.intro @ft_35_0 <| And.intro @fo_35_1 <| And.intro @fi_35_1 <| And.intro @ft_35_1 <| @lay_35
set_option maxHeartbeats 4000000 in
theorem spec_l2NodesN_sat (n : Nat) : (∀ (a0 : Term) (r : Bool), spec_l2NodesN n a0 = some r → Sat Try.prog 224 [((Term.pv false) a0)] (B r)) := by
  induction n with
  | zero => exact fun _ _ h => by simp [spec_l2NodesN] at h
  | succ n ih =>
    refine fun a0 r h => ?_
    replace h := Run.of h
    rw [spec_l2NodesN] at h
    refine Sat.of_m (nt := 35) (rs := [.tmp 2]) (n := 100000) Try.func224 rfl rfl rfl rfl (by simp) ?_
    simp -failIfUnchanged only [↓RA, RB, RS, fx224, p1, p2, p3, p4, reduceIte, p5, p6, p7, p8]
    repeat (first | with_reducible refine noR_and (by repeat (first | exact noR_empty _ _ | exact noR_nilS _ _ | refine noR_mk _ _ _ _ _ rfl ?_ | refine noR_mkS _ _ _ _ _ rfl ?_)) ?_ | with_reducible refine noC_and (by repeat (first | exact noC_empty _ _ (by simp -failIfUnchanged only [↓RA, RB, RS, fx224, p1, p2, p3, p4, reduceIte, p5, p6, p7, p8]) | exact noC_nilS _ _ (by simp -failIfUnchanged only [↓RA, RB, RS, fx224, p1, p2, p3, p4, reduceIte, p5, p6, p7, p8]) | refine noC_mk _ _ _ _ _ rfl ?_ | refine noC_mkS _ _ _ _ _ rfl ?_)) ?_ | with_reducible refine and_ac ?_ | with_reducible refine And.intro (a := _ = List.range _) (by rfl) ?_)
    obtain ⟨v6, hv6, h⟩ := run_bind h
    refine CallH.mk [false] (spec_l2Var_sat hv6) ?_ ?_ <;> simp -failIfUnchanged only [↓RA, RB, RS, fx224, p1, p2, p3, p4, reduceIte, p5, p6, p7, p8]
    refine CondH.mk (fun c1 => ?_) (fun c1 => ?_)
    · replace h := run_t c1 h
      simp -failIfUnchanged only [↓RA, RB, RS, fx224, p1, p2, p3, p4, reduceIte, p5, p6, p7, p8, c1]
      have h := run_some h
      obtain rfl : _ = r := h
      refine FinH.l ?_
      simp -failIfUnchanged only [↓RA, RB, RS, fx224, p1, p2, p3, p4, reduceIte, p5, p6, p7, p8, c1]
    · replace h := run_f c1 h
      simp -failIfUnchanged only [↓RA, RB, RS, fx224, p1, p2, p3, p4, reduceIte, p5, p6, p7, p8, c1]
      obtain ⟨v13, hv13, h⟩ := run_bind h
      refine CallH.mk [false] (spec_l2Symbol_sat hv13) ?_ ?_ <;> simp -failIfUnchanged only [↓RA, RB, RS, fx224, p1, p2, p3, p4, reduceIte, p5, p6, p7, p8, c1]
      refine CondH.mk (fun c2 => ?_) (fun c2 => ?_)
      · replace h := run_t c2 h
        simp -failIfUnchanged only [↓RA, RB, RS, fx224, p1, p2, p3, p4, reduceIte, p5, p6, p7, p8, c1, c2]
        refine CondH.mk (fun c3 => ?_) (fun c3 => ?_)
        · replace h := run_t c3 h
          simp -failIfUnchanged only [↓RA, RB, RS, fx224, p1, p2, p3, p4, reduceIte, p5, p6, p7, p8, c1, c2, c3]
          have h := run_some h
          obtain rfl : _ = r := h
          refine FinH.l ?_
          simp -failIfUnchanged only [↓RA, RB, RS, fx224, p1, p2, p3, p4, reduceIte, p5, p6, p7, p8, c1, c2, c3]
        · replace h := run_f c3 h
          simp -failIfUnchanged only [↓RA, RB, RS, fx224, p1, p2, p3, p4, reduceIte, p5, p6, p7, p8, c1, c2, c3]
          refine Mg.know_sl (b := false) (sz := 2) (es := a0.Args.map (Term.pv false)) 17 (by simp -failIfUnchanged only [↓RA, RB, RS, fx224, p1, p2, p3, p4, reduceIte, p5, p6, p7, p8, c1, c2, c3]) fun hl17 => ?_; rw [List.length_map] at hl17
          replace h := run_loop h
          refine Mg.forN h (fun i6 s6 => [(1, .box (.pv ((Term.pv false) a0))), (3, .val (.pv (I (i6 : Int))))]) (fun i6 s6 => []) (St.le_mk2 (by simp -failIfUnchanged only [↓RA, RB, RS, fx224, p1, p2, p3, p4, reduceIte, p5, p6, p7, p8, c1, c2, c3])) (fun i6 s6 hi h => ?_) (fun s6 h => ?_)
          · have w6 := wrap_succ (i := i6) (by omega)
            simp -failIfUnchanged only [↓RA, RB, RS, fx224, p1, p2, p3, p4, reduceIte, p5, p6, p7, p8, c1, c2, c3]
            refine CondH.tt (decide_eq_true (by omega)) (fun c4 => ?_)
            simp -failIfUnchanged only [↓RA, RB, RS, fx224, p1, p2, p3, p4, reduceIte, p5, p6, p7, p8, c1, c2, c3, c4]
            obtain ⟨v31, hv31, h⟩ := run_bind h
            refine IdxH.mk (f := (Term.pv false)) hv31 ?_ ?_ <;> simp -failIfUnchanged only [↓RA, RB, RS, fx224, p1, p2, p3, p4, reduceIte, p5, p6, p7, p8, c1, c2, c3, c4]
            obtain ⟨v33, hv33, h⟩ := run_bind h
            refine CallH.mk [false] (ih _ _ hv33) ?_ ?_ <;> simp -failIfUnchanged only [↓RA, RB, RS, fx224, p1, p2, p3, p4, reduceIte, p5, p6, p7, p8, c1, c2, c3, c4]
            refine CondH.mk (fun c5 => ?_) (fun c5 => ?_)
            · replace h := run_t c5 h
              simp -failIfUnchanged only [↓RA, RB, RS, fx224, p1, p2, p3, p4, reduceIte, p5, p6, p7, p8, c1, c2, c3, c4, c5]
              have h := run_some h
              refine RdH.mk ⟨_, h, ?_⟩
              refine St.le_mk2 ?_
              simp -failIfUnchanged only [↓RA, RB, RS, fx224, p1, p2, p3, p4, reduceIte, p5, p6, p7, p8, c1, c2, c3, c4, c5, w6]
            · replace h := run_f c5 h
              simp -failIfUnchanged only [↓RA, RB, RS, fx224, p1, p2, p3, p4, reduceIte, p5, p6, p7, p8, c1, c2, c3, c4, c5]
              have h := run_some h
              obtain rfl : _ = r := h
              refine FinH.l ?_
              simp -failIfUnchanged only [↓RA, RB, RS, fx224, p1, p2, p3, p4, reduceIte, p5, p6, p7, p8, c1, c2, c3, c4, c5]
          · simp -failIfUnchanged only [↓RA, RB, RS, fx224, p1, p2, p3, p4, reduceIte, p5, p6, p7, p8, c1, c2, c3]
            refine CondH.ff (decide_eq_false (by omega)) (fun c6 => ?_)
            simp -failIfUnchanged only [↓RA, RB, RS, fx224, p1, p2, p3, p4, reduceIte, p5, p6, p7, p8, c1, c2, c3, c6]
            have h := run_some h
            obtain rfl : _ = r := h
            refine FinH.l ?_
            simp -failIfUnchanged only [↓RA, RB, RS, fx224, p1, p2, p3, p4, reduceIte, p5, p6, p7, p8, c1, c2, c3, c6]
      · replace h := run_f c2 h
        simp -failIfUnchanged only [↓RA, RB, RS, fx224, p1, p2, p3, p4, reduceIte, p5, p6, p7, p8, c1, c2]
        have h := run_some h
        obtain rfl : _ = r := h
        refine FinH.l ?_
        simp -failIfUnchanged only [↓RA, RB, RS, fx224, p1, p2, p3, p4, reduceIte, p5, p6, p7, p8, c1, c2]
theorem spec_l2Nodes_sat {a0 : Term} {r : Bool} (h : spec_l2Nodes a0 = some r) : Sat Try.prog 224 [((Term.pv false) a0)] (B r) := by
  obtain ⟨n, hn⟩ := lim_some h
  exact (spec_l2NodesN_sat n) _ _ hn

def fx117 := And.intro @ty_35 <| And.intro @zc_35 <| And.intro @z_35 <| And.intro @fo_35_0 <| And.intro @fi_35_0 <| And.intro @ft_35_0 <| And.intro @fo_35_1 <| And.intro @fi_35_1 <| And.intro @ft_35_1 <| @lay_35
set_option maxHeartbeats 4000000 in
theorem spec_l2Good_sat {a0 : Term}  {r : Bool} (h : spec_l2Good a0 = some r) : Sat Try.prog 117 [((Term.pv false) a0)] (B r) := by
  replace h := Run.of h
  unfold spec_l2Good at h
  refine Sat.of_m (nt := 9) (rs := [.tmp 2]) (n := 100000) Try.func117 rfl rfl rfl rfl (by simp) ?_
  simp -failIfUnchanged only [↓RA, RB, RS, fx117, p1, p2, p3, p4, reduceIte, p5, p6, p7, p8]
  repeat (first | with_reducible refine noR_and (by repeat (first | exact noR_empty _ _ | exact noR_nilS _ _ | refine noR_mk _ _ _ _ _ rfl ?_ | refine noR_mkS _ _ _ _ _ rfl ?_)) ?_ | with_reducible refine noC_and (by repeat (first | exact noC_empty _ _ (by simp -failIfUnchanged only [↓RA, RB, RS, fx117, p1, p2, p3, p4, reduceIte, p5, p6, p7, p8]) | exact noC_nilS _ _ (by simp -failIfUnchanged only [↓RA, RB, RS, fx117, p1, p2, p3, p4, reduceIte, p5, p6, p7, p8]) | refine noC_mk _ _ _ _ _ rfl ?_ | refine noC_mkS _ _ _ _ _ rfl ?_)) ?_ | with_reducible refine and_ac ?_ | with_reducible refine And.intro (a := _ = List.range _) (by rfl) ?_)
  obtain ⟨v4, hv4, h⟩ := run_bind h
  refine CallH.mk [false] (spec_l2Fits_sat hv4) ?_ ?_ <;> simp -failIfUnchanged only [↓RA, RB, RS, fx117, p1, p2, p3, p4, reduceIte, p5, p6, p7, p8]
  refine CondH.mk (fun c1 => ?_) (fun c1 => ?_)
  · replace h := run_t c1 h
    simp -failIfUnchanged only [↓RA, RB, RS, fx117, p1, p2, p3, p4, reduceIte, p5, p6, p7, p8, c1]
    obtain ⟨v7, hv7, h⟩ := run_bind h
    refine CallH.mk [false] (spec_l2Nodes_sat hv7) ?_ ?_ <;> simp -failIfUnchanged only [↓RA, RB, RS, fx117, p1, p2, p3, p4, reduceIte, p5, p6, p7, p8, c1]
    have h := run_some h
    obtain rfl : _ = r := h
    refine FinH.l ?_
    simp -failIfUnchanged only [↓RA, RB, RS, fx117, p1, p2, p3, p4, reduceIte, p5, p6, p7, p8, c1]
  · replace h := run_f c1 h
    simp -failIfUnchanged only [↓RA, RB, RS, fx117, p1, p2, p3, p4, reduceIte, p5, p6, p7, p8, c1]
    have h := run_some h
    obtain rfl : _ = r := h
    refine FinH.l ?_
    simp -failIfUnchanged only [↓RA, RB, RS, fx117, p1, p2, p3, p4, reduceIte, p5, p6, p7, p8, c1]

def fx349 := And.intro @ty_3 <| And.intro @zc_3 <| And.intro @z_3 <| And.intro @ty_9 <| And.intro @zc_9 <| And.intro @z_9 <| And.intro @u_9 <| And.intro @ty_27 <| And.intro @zc_27 <| And.intro @z_27 <| And.intro @es_27 <| And.intro @eb_27 <| And.intro @sl_27 <| And.intro @is_27 <| And.intro @el_27 <| And.intro @ze_27 <| And.intro @ez_27 <| And.intro @ty_35 <| And.intro @zc_35 <| And.intro @z_35 <| And.intro @fo_35_0 <| And.intro @fi_35_0 <| And.intro @ft_35_0 <| And.intro @fo_35_1 <| And.intro @fi_35_1 <| And.intro @ft_35_1 <| @lay_35
set_option maxHeartbeats 4000000 in
theorem spec_l2Atom_sat {a0 : Term}  {r : Bool} (h : spec_l2Atom a0 = some r) : Sat Try.prog 349 [((Term.pv false) a0)] (B r) := by
  replace h := Run.of h
  unfold spec_l2Atom at h
  refine Sat.of_m (nt := 35) (rs := [.tmp 2]) (n := 100000) Try.func349 rfl rfl rfl rfl (by simp) ?_
  simp -failIfUnchanged only [↓RA, RB, RS, fx349, p1, p2, p3, p4, reduceIte, p5, p6, p7, p8]
  repeat (first | with_reducible refine noR_and (by repeat (first | exact noR_empty _ _ | exact noR_nilS _ _ | refine noR_mk _ _ _ _ _ rfl ?_ | refine noR_mkS _ _ _ _ _ rfl ?_)) ?_ | with_reducible refine noC_and (by repeat (first | exact noC_empty _ _ (by simp -failIfUnchanged only [↓RA, RB, RS, fx349, p1, p2, p3, p4, reduceIte, p5, p6, p7, p8]) | exact noC_nilS _ _ (by simp -failIfUnchanged only [↓RA, RB, RS, fx349, p1, p2, p3, p4, reduceIte, p5, p6, p7, p8]) | refine noC_mk _ _ _ _ _ rfl ?_ | refine noC_mkS _ _ _ _ _ rfl ?_)) ?_ | with_reducible refine and_ac ?_ | with_reducible refine And.intro (a := _ = List.range _) (by rfl) ?_)
  refine CondH.mk (fun c1 => ?_) (fun c1 => ?_)
  · replace h := run_t c1 h
    simp -failIfUnchanged only [↓RA, RB, RS, fx349, p1, p2, p3, p4, reduceIte, p5, p6, p7, p8, c1]
    refine CondH.mk (fun c2 => ?_) (fun c2 => ?_)
    · replace h := run_t c2 h
      simp -failIfUnchanged only [↓RA, RB, RS, fx349, p1, p2, p3, p4, reduceIte, p5, p6, p7, p8, c1, c2]
      obtain ⟨v12, hv12, h⟩ := run_bind h
      refine CallH.mk [false] (spec_l2Fits_sat hv12) ?_ ?_ <;> simp -failIfUnchanged only [↓RA, RB, RS, fx349, p1, p2, p3, p4, reduceIte, p5, p6, p7, p8, c1, c2]
      refine CondH.mk (fun c3 => ?_) (fun c3 => ?_)
      · replace h := run_t c3 h
        simp -failIfUnchanged only [↓RA, RB, RS, fx349, p1, p2, p3, p4, reduceIte, p5, p6, p7, p8, c1, c2, c3]
        obtain ⟨v17, hv17, h⟩ := run_bind h
        refine IdxH.mk (f := (Term.pv false)) hv17 ?_ ?_ <;> simp -failIfUnchanged only [↓RA, RB, RS, fx349, p1, p2, p3, p4, reduceIte, p5, p6, p7, p8, c1, c2, c3]
        obtain ⟨v19, hv19, h⟩ := run_bind h
        refine CallH.mk [false] (spec_l2Nodes_sat hv19) ?_ ?_ <;> simp -failIfUnchanged only [↓RA, RB, RS, fx349, p1, p2, p3, p4, reduceIte, p5, p6, p7, p8, c1, c2, c3]
        refine CondH.mk (fun c4 => ?_) (fun c4 => ?_)
        · replace h := run_t c4 h
          simp -failIfUnchanged only [↓RA, RB, RS, fx349, p1, p2, p3, p4, reduceIte, p5, p6, p7, p8, c1, c2, c3, c4]
          obtain ⟨v24, hv24, h⟩ := run_bind h
          refine IdxH.mk (f := (Term.pv false)) hv24 ?_ ?_ <;> simp -failIfUnchanged only [↓RA, RB, RS, fx349, p1, p2, p3, p4, reduceIte, p5, p6, p7, p8, c1, c2, c3, c4]
          obtain ⟨v26, hv26, h⟩ := run_bind h
          refine CallH.mk [false] (spec_l2Nodes_sat hv26) ?_ ?_ <;> simp -failIfUnchanged only [↓RA, RB, RS, fx349, p1, p2, p3, p4, reduceIte, p5, p6, p7, p8, c1, c2, c3, c4]
          have h := run_some h
          obtain rfl : _ = r := h
          refine FinH.l ?_
          simp -failIfUnchanged only [↓RA, RB, RS, fx349, p1, p2, p3, p4, reduceIte, p5, p6, p7, p8, c1, c2, c3, c4]
        · replace h := run_f c4 h
          simp -failIfUnchanged only [↓RA, RB, RS, fx349, p1, p2, p3, p4, reduceIte, p5, p6, p7, p8, c1, c2, c3, c4]
          have h := run_some h
          obtain rfl : _ = r := h
          refine FinH.l ?_
          simp -failIfUnchanged only [↓RA, RB, RS, fx349, p1, p2, p3, p4, reduceIte, p5, p6, p7, p8, c1, c2, c3, c4]
      · replace h := run_f c3 h
        simp -failIfUnchanged only [↓RA, RB, RS, fx349, p1, p2, p3, p4, reduceIte, p5, p6, p7, p8, c1, c2, c3]
        have h := run_some h
        obtain rfl : _ = r := h
        refine FinH.l ?_
        simp -failIfUnchanged only [↓RA, RB, RS, fx349, p1, p2, p3, p4, reduceIte, p5, p6, p7, p8, c1, c2, c3]
    · replace h := run_f c2 h
      simp -failIfUnchanged only [↓RA, RB, RS, fx349, p1, p2, p3, p4, reduceIte, p5, p6, p7, p8, c1, c2]
      have h := run_some h
      obtain rfl : _ = r := h
      refine FinH.l ?_
      simp -failIfUnchanged only [↓RA, RB, RS, fx349, p1, p2, p3, p4, reduceIte, p5, p6, p7, p8, c1, c2]
  · replace h := run_f c1 h
    simp -failIfUnchanged only [↓RA, RB, RS, fx349, p1, p2, p3, p4, reduceIte, p5, p6, p7, p8, c1]
    obtain ⟨v30, hv30, h⟩ := run_bind h
    refine CallH.mk [false] (spec_l2Symbol_sat hv30) ?_ ?_ <;> simp -failIfUnchanged only [↓RA, RB, RS, fx349, p1, p2, p3, p4, reduceIte, p5, p6, p7, p8, c1]
    refine CondH.mk (fun c5 => ?_) (fun c5 => ?_)
    · replace h := run_t c5 h
      simp -failIfUnchanged only [↓RA, RB, RS, fx349, p1, p2, p3, p4, reduceIte, p5, p6, p7, p8, c1, c5]
      obtain ⟨v33, hv33, h⟩ := run_bind h
      refine CallH.mk [false] (spec_l2Good_sat hv33) ?_ ?_ <;> simp -failIfUnchanged only [↓RA, RB, RS, fx349, p1, p2, p3, p4, reduceIte, p5, p6, p7, p8, c1, c5]
      have h := run_some h
      obtain rfl : _ = r := h
      refine FinH.l ?_
      simp -failIfUnchanged only [↓RA, RB, RS, fx349, p1, p2, p3, p4, reduceIte, p5, p6, p7, p8, c1, c5]
    · replace h := run_f c5 h
      simp -failIfUnchanged only [↓RA, RB, RS, fx349, p1, p2, p3, p4, reduceIte, p5, p6, p7, p8, c1, c5]
      have h := run_some h
      obtain rfl : _ = r := h
      refine FinH.l ?_
      simp -failIfUnchanged only [↓RA, RB, RS, fx349, p1, p2, p3, p4, reduceIte, p5, p6, p7, p8, c1, c5]

def fx327 := And.intro @ty_3 <| And.intro @zc_3 <| And.intro @z_3 <| And.intro @ty_9 <| And.intro @zc_9 <| And.intro @z_9 <| And.intro @u_9 <| And.intro @ty_35 <| And.intro @zc_35 <| And.intro @z_35 <| And.intro @fo_35_0 <| And.intro @fi_35_0 <| And.intro @ft_35_0 <| And.intro @fo_35_1 <| And.intro @fi_35_1 <| And.intro @ft_35_1 <| And.intro @lay_35 <| And.intro @ty_119 <| And.intro @zc_119 <| And.intro @z_119 <| And.intro @es_119 <| And.intro @eb_119 <| And.intro @sl_119 <| And.intro @is_119 <| And.intro @el_119 <| And.intro @ze_119 <| And.intro @ez_119 <| And.intro @ty_121 <| And.intro @zc_121 <| And.intro @z_121 <| And.intro @fo_121_0 <| And.intro @fi_121_0 <| And.intro @ft_121_0 <| And.intro @fo_121_1 <| And.intro @fi_121_1 <| And.intro @ft_121_1 <| And.intro @fo_121_2 <| And.intro @fi_121_2 <| And.intro @ft_121_2 <| And.intro @fo_121_3 <| And.intro @fi_121_3 <| And.intro @ft_121_3 <| @lay_121
set_option maxHeartbeats 4000000 in
theorem spec_l8Form_sat {a0 : Formula}  {r : Bool} (h : spec_l8Form a0 = some r) : Sat Try.prog 327 [((Formula.pv false) a0)] (B r) := by
  replace h := Run.of h
  unfold spec_l8Form at h
  refine Sat.of_m (nt := 83) (rs := [.tmp 2]) (n := 100000) Try.func327 rfl rfl rfl rfl (by simp) ?_
  simp -failIfUnchanged only [↓RA, RB, RS, fx327, p1, p2, p3, p4, reduceIte, p5, p6, p7, p8]
  repeat (first | with_reducible refine noR_and (by repeat (first | exact noR_empty _ _ | exact noR_nilS _ _ | refine noR_mk _ _ _ _ _ rfl ?_ | refine noR_mkS _ _ _ _ _ rfl ?_)) ?_ | with_reducible refine noC_and (by repeat (first | exact noC_empty _ _ (by simp -failIfUnchanged only [↓RA, RB, RS, fx327, p1, p2, p3, p4, reduceIte, p5, p6, p7, p8]) | exact noC_nilS _ _ (by simp -failIfUnchanged only [↓RA, RB, RS, fx327, p1, p2, p3, p4, reduceIte, p5, p6, p7, p8]) | refine noC_mk _ _ _ _ _ rfl ?_ | refine noC_mkS _ _ _ _ _ rfl ?_)) ?_ | with_reducible refine and_ac ?_ | with_reducible refine And.intro (a := _ = List.range _) (by rfl) ?_)
  refine CondH.mk (fun c1 => ?_) (fun c1 => ?_)
  · replace h := run_t c1 h
    simp -failIfUnchanged only [↓RA, RB, RS, fx327, p1, p2, p3, p4, reduceIte, p5, p6, p7, p8, c1]
    refine CondH.mk (fun c2 => ?_) (fun c2 => ?_)
    · replace h := run_t c2 h
      simp -failIfUnchanged only [↓RA, RB, RS, fx327, p1, p2, p3, p4, reduceIte, p5, p6, p7, p8, c1, c2]
      obtain ⟨v17, hv17, h⟩ := run_bind h
      refine CallH.mk [false] (spec_l8None_sat hv17) ?_ ?_ <;> simp -failIfUnchanged only [↓RA, RB, RS, fx327, p1, p2, p3, p4, reduceIte, p5, p6, p7, p8, c1, c2]
      refine CondH.mk (fun c3 => ?_) (fun c3 => ?_)
      · replace h := run_t c3 h
        simp -failIfUnchanged only [↓RA, RB, RS, fx327, p1, p2, p3, p4, reduceIte, p5, p6, p7, p8, c1, c2, c3]
        have h := run_some h
        obtain rfl : _ = r := h
        refine FinH.l ?_
        simp -failIfUnchanged only [↓RA, RB, RS, fx327, p1, p2, p3, p4, reduceIte, p5, p6, p7, p8, c1, c2, c3]
      · replace h := run_f c3 h
        simp -failIfUnchanged only [↓RA, RB, RS, fx327, p1, p2, p3, p4, reduceIte, p5, p6, p7, p8, c1, c2, c3]
        have h := run_some h
        obtain rfl : _ = r := h
        refine FinH.l ?_
        simp -failIfUnchanged only [↓RA, RB, RS, fx327, p1, p2, p3, p4, reduceIte, p5, p6, p7, p8, c1, c2, c3]
    · replace h := run_f c2 h
      simp -failIfUnchanged only [↓RA, RB, RS, fx327, p1, p2, p3, p4, reduceIte, p5, p6, p7, p8, c1, c2]
      have h := run_some h
      obtain rfl : _ = r := h
      refine FinH.l ?_
      simp -failIfUnchanged only [↓RA, RB, RS, fx327, p1, p2, p3, p4, reduceIte, p5, p6, p7, p8, c1, c2]
  · replace h := run_f c1 h
    simp -failIfUnchanged only [↓RA, RB, RS, fx327, p1, p2, p3, p4, reduceIte, p5, p6, p7, p8, c1]
    refine CondH.mk (fun c4 => ?_) (fun c4 => ?_)
    · replace h := run_t c4 h
      simp -failIfUnchanged only [↓RA, RB, RS, fx327, p1, p2, p3, p4, reduceIte, p5, p6, p7, p8, c1, c4]
      refine CondH.mk (fun c5 => ?_) (fun c5 => ?_)
      · replace h := run_t c5 h
        simp -failIfUnchanged only [↓RA, RB, RS, fx327, p1, p2, p3, p4, reduceIte, p5, p6, p7, p8, c1, c4, c5]
        obtain ⟨v17, hv17, h⟩ := run_bind h
        refine CallH.mk [false] (spec_l8None_sat hv17) ?_ ?_ <;> simp -failIfUnchanged only [↓RA, RB, RS, fx327, p1, p2, p3, p4, reduceIte, p5, p6, p7, p8, c1, c4, c5]
        refine CondH.mk (fun c6 => ?_) (fun c6 => ?_)
        · replace h := run_t c6 h
          simp -failIfUnchanged only [↓RA, RB, RS, fx327, p1, p2, p3, p4, reduceIte, p5, p6, p7, p8, c1, c4, c5, c6]
          have h := run_some h
          obtain rfl : _ = r := h
          refine FinH.l ?_
          simp -failIfUnchanged only [↓RA, RB, RS, fx327, p1, p2, p3, p4, reduceIte, p5, p6, p7, p8, c1, c4, c5, c6]
        · replace h := run_f c6 h
          simp -failIfUnchanged only [↓RA, RB, RS, fx327, p1, p2, p3, p4, reduceIte, p5, p6, p7, p8, c1, c4, c5, c6]
          have h := run_some h
          obtain rfl : _ = r := h
          refine FinH.l ?_
          simp -failIfUnchanged only [↓RA, RB, RS, fx327, p1, p2, p3, p4, reduceIte, p5, p6, p7, p8, c1, c4, c5, c6]
      · replace h := run_f c5 h
        simp -failIfUnchanged only [↓RA, RB, RS, fx327, p1, p2, p3, p4, reduceIte, p5, p6, p7, p8, c1, c4, c5]
        have h := run_some h
        obtain rfl : _ = r := h
        refine FinH.l ?_
        simp -failIfUnchanged only [↓RA, RB, RS, fx327, p1, p2, p3, p4, reduceIte, p5, p6, p7, p8, c1, c4, c5]
    · replace h := run_f c4 h
      simp -failIfUnchanged only [↓RA, RB, RS, fx327, p1, p2, p3, p4, reduceIte, p5, p6, p7, p8, c1, c4]
      refine CondH.mk (fun c7 => ?_) (fun c7 => ?_)
      · replace h := run_t c7 h
        simp -failIfUnchanged only [↓RA, RB, RS, fx327, p1, p2, p3, p4, reduceIte, p5, p6, p7, p8, c1, c4, c7]
        refine CondH.mk (fun c8 => ?_) (fun c8 => ?_)
        · replace h := run_t c8 h
          simp -failIfUnchanged only [↓RA, RB, RS, fx327, p1, p2, p3, p4, reduceIte, p5, p6, p7, p8, c1, c4, c7, c8]
          obtain ⟨v31, hv31, h⟩ := run_bind h
          refine CallH.mk [false] (spec_l2Atom_sat hv31) ?_ ?_ <;> simp -failIfUnchanged only [↓RA, RB, RS, fx327, p1, p2, p3, p4, reduceIte, p5, p6, p7, p8, c1, c4, c7, c8]
          refine CondH.mk (fun c9 => ?_) (fun c9 => ?_)
          · replace h := run_t c9 h
            simp -failIfUnchanged only [↓RA, RB, RS, fx327, p1, p2, p3, p4, reduceIte, p5, p6, p7, p8, c1, c4, c7, c8, c9]
            have h := run_some h
            obtain rfl : _ = r := h
            refine FinH.l ?_
            simp -failIfUnchanged only [↓RA, RB, RS, fx327, p1, p2, p3, p4, reduceIte, p5, p6, p7, p8, c1, c4, c7, c8, c9]
          · replace h := run_f c9 h
            simp -failIfUnchanged only [↓RA, RB, RS, fx327, p1, p2, p3, p4, reduceIte, p5, p6, p7, p8, c1, c4, c7, c8, c9]
            have h := run_some h
            obtain rfl : _ = r := h
            refine FinH.l ?_
            simp -failIfUnchanged only [↓RA, RB, RS, fx327, p1, p2, p3, p4, reduceIte, p5, p6, p7, p8, c1, c4, c7, c8, c9]
        · replace h := run_f c8 h
          simp -failIfUnchanged only [↓RA, RB, RS, fx327, p1, p2, p3, p4, reduceIte, p5, p6, p7, p8, c1, c4, c7, c8]
          have h := run_some h
          obtain rfl : _ = r := h
          refine FinH.l ?_
          simp -failIfUnchanged only [↓RA, RB, RS, fx327, p1, p2, p3, p4, reduceIte, p5, p6, p7, p8, c1, c4, c7, c8]
      · replace h := run_f c7 h
        simp -failIfUnchanged only [↓RA, RB, RS, fx327, p1, p2, p3, p4, reduceIte, p5, p6, p7, p8, c1, c4, c7]
        refine CondH.mk (fun c10 => ?_) (fun c10 => ?_)
        · replace h := run_t c10 h
          simp -failIfUnchanged only [↓RA, RB, RS, fx327, p1, p2, p3, p4, reduceIte, p5, p6, p7, p8, c1, c4, c7, c10]
          refine CondH.mk (fun c11 => ?_) (fun c11 => ?_)
          · replace h := run_t c11 h
            simp -failIfUnchanged only [↓RA, RB, RS, fx327, p1, p2, p3, p4, reduceIte, p5, p6, p7, p8, c1, c4, c7, c10, c11]
            obtain ⟨v45, hv45, h⟩ := run_bind h
            refine CallH.mk [false] (spec_l8None_sat hv45) ?_ ?_ <;> simp -failIfUnchanged only [↓RA, RB, RS, fx327, p1, p2, p3, p4, reduceIte, p5, p6, p7, p8, c1, c4, c7, c10, c11]
            refine CondH.mk (fun c12 => ?_) (fun c12 => ?_)
            · replace h := run_t c12 h
              simp -failIfUnchanged only [↓RA, RB, RS, fx327, p1, p2, p3, p4, reduceIte, p5, p6, p7, p8, c1, c4, c7, c10, c11, c12]
              have h := run_some h
              obtain rfl : _ = r := h
              refine FinH.l ?_
              simp -failIfUnchanged only [↓RA, RB, RS, fx327, p1, p2, p3, p4, reduceIte, p5, p6, p7, p8, c1, c4, c7, c10, c11, c12]
            · replace h := run_f c12 h
              simp -failIfUnchanged only [↓RA, RB, RS, fx327, p1, p2, p3, p4, reduceIte, p5, p6, p7, p8, c1, c4, c7, c10, c11, c12]
              have h := run_some h
              obtain rfl : _ = r := h
              refine FinH.l ?_
              simp -failIfUnchanged only [↓RA, RB, RS, fx327, p1, p2, p3, p4, reduceIte, p5, p6, p7, p8, c1, c4, c7, c10, c11, c12]
          · replace h := run_f c11 h
            simp -failIfUnchanged only [↓RA, RB, RS, fx327, p1, p2, p3, p4, reduceIte, p5, p6, p7, p8, c1, c4, c7, c10, c11]
            have h := run_some h
            obtain rfl : _ = r := h
            refine FinH.l ?_
            simp -failIfUnchanged only [↓RA, RB, RS, fx327, p1, p2, p3, p4, reduceIte, p5, p6, p7, p8, c1, c4, c7, c10, c11]
        · replace h := run_f c10 h
          simp -failIfUnchanged only [↓RA, RB, RS, fx327, p1, p2, p3, p4, reduceIte, p5, p6, p7, p8, c1, c4, c7, c10]
          refine CondH.mk (fun c13 => ?_) (fun c13 => ?_)
          · replace h := run_t c13 h
            simp -failIfUnchanged only [↓RA, RB, RS, fx327, p1, p2, p3, p4, reduceIte, p5, p6, p7, p8, c1, c4, c7, c10, c13]
            refine CondH.mk (fun c14 => ?_) (fun c14 => ?_)
            · replace h := run_t c14 h
              simp -failIfUnchanged only [↓RA, RB, RS, fx327, p1, p2, p3, p4, reduceIte, p5, p6, p7, p8, c1, c4, c7, c10, c13, c14]
              obtain ⟨v61, hv61, h⟩ := run_bind h
              refine CallH.mk [false] (spec_l8None_sat hv61) ?_ ?_ <;> simp -failIfUnchanged only [↓RA, RB, RS, fx327, p1, p2, p3, p4, reduceIte, p5, p6, p7, p8, c1, c4, c7, c10, c13, c14]
              refine CondH.mk (fun c15 => ?_) (fun c15 => ?_)
              · replace h := run_t c15 h
                simp -failIfUnchanged only [↓RA, RB, RS, fx327, p1, p2, p3, p4, reduceIte, p5, p6, p7, p8, c1, c4, c7, c10, c13, c14, c15]
                have h := run_some h
                obtain rfl : _ = r := h
                refine FinH.l ?_
                simp -failIfUnchanged only [↓RA, RB, RS, fx327, p1, p2, p3, p4, reduceIte, p5, p6, p7, p8, c1, c4, c7, c10, c13, c14, c15]
              · replace h := run_f c15 h
                simp -failIfUnchanged only [↓RA, RB, RS, fx327, p1, p2, p3, p4, reduceIte, p5, p6, p7, p8, c1, c4, c7, c10, c13, c14, c15]
                have h := run_some h
                obtain rfl : _ = r := h
                refine FinH.l ?_
                simp -failIfUnchanged only [↓RA, RB, RS, fx327, p1, p2, p3, p4, reduceIte, p5, p6, p7, p8, c1, c4, c7, c10, c13, c14, c15]
            · replace h := run_f c14 h
              simp -failIfUnchanged only [↓RA, RB, RS, fx327, p1, p2, p3, p4, reduceIte, p5, p6, p7, p8, c1, c4, c7, c10, c13, c14]
              have h := run_some h
              obtain rfl : _ = r := h
              refine FinH.l ?_
              simp -failIfUnchanged only [↓RA, RB, RS, fx327, p1, p2, p3, p4, reduceIte, p5, p6, p7, p8, c1, c4, c7, c10, c13, c14]
          · replace h := run_f c13 h
            simp -failIfUnchanged only [↓RA, RB, RS, fx327, p1, p2, p3, p4, reduceIte, p5, p6, p7, p8, c1, c4, c7, c10, c13]
            refine CondH.mk (fun c16 => ?_) (fun c16 => ?_)
            · replace h := run_t c16 h
              simp -failIfUnchanged only [↓RA, RB, RS, fx327, p1, p2, p3, p4, reduceIte, p5, p6, p7, p8, c1, c4, c7, c10, c13, c16]
              refine CondH.mk (fun c17 => ?_) (fun c17 => ?_)
              · replace h := run_t c17 h
                simp -failIfUnchanged only [↓RA, RB, RS, fx327, p1, p2, p3, p4, reduceIte, p5, p6, p7, p8, c1, c4, c7, c10, c13, c16, c17]
                obtain ⟨v61, hv61, h⟩ := run_bind h
                refine CallH.mk [false] (spec_l8None_sat hv61) ?_ ?_ <;> simp -failIfUnchanged only [↓RA, RB, RS, fx327, p1, p2, p3, p4, reduceIte, p5, p6, p7, p8, c1, c4, c7, c10, c13, c16, c17]
                refine CondH.mk (fun c18 => ?_) (fun c18 => ?_)
                · replace h := run_t c18 h
                  simp -failIfUnchanged only [↓RA, RB, RS, fx327, p1, p2, p3, p4, reduceIte, p5, p6, p7, p8, c1, c4, c7, c10, c13, c16, c17, c18]
                  have h := run_some h
                  obtain rfl : _ = r := h
                  refine FinH.l ?_
                  simp -failIfUnchanged only [↓RA, RB, RS, fx327, p1, p2, p3, p4, reduceIte, p5, p6, p7, p8, c1, c4, c7, c10, c13, c16, c17, c18]
                · replace h := run_f c18 h
                  simp -failIfUnchanged only [↓RA, RB, RS, fx327, p1, p2, p3, p4, reduceIte, p5, p6, p7, p8, c1, c4, c7, c10, c13, c16, c17, c18]
                  have h := run_some h
                  obtain rfl : _ = r := h
                  refine FinH.l ?_
                  simp -failIfUnchanged only [↓RA, RB, RS, fx327, p1, p2, p3, p4, reduceIte, p5, p6, p7, p8, c1, c4, c7, c10, c13, c16, c17, c18]
              · replace h := run_f c17 h
                simp -failIfUnchanged only [↓RA, RB, RS, fx327, p1, p2, p3, p4, reduceIte, p5, p6, p7, p8, c1, c4, c7, c10, c13, c16, c17]
                have h := run_some h
                obtain rfl : _ = r := h
                refine FinH.l ?_
                simp -failIfUnchanged only [↓RA, RB, RS, fx327, p1, p2, p3, p4, reduceIte, p5, p6, p7, p8, c1, c4, c7, c10, c13, c16, c17]
            · replace h := run_f c16 h
              simp -failIfUnchanged only [↓RA, RB, RS, fx327, p1, p2, p3, p4, reduceIte, p5, p6, p7, p8, c1, c4, c7, c10, c13, c16]
              refine CondH.mk (fun c19 => ?_) (fun c19 => ?_)
              · replace h := run_t c19 h
                simp -failIfUnchanged only [↓RA, RB, RS, fx327, p1, p2, p3, p4, reduceIte, p5, p6, p7, p8, c1, c4, c7, c10, c13, c16, c19]
                refine CondH.mk (fun c20 => ?_) (fun c20 => ?_)
                · replace h := run_t c20 h
                  simp -failIfUnchanged only [↓RA, RB, RS, fx327, p1, p2, p3, p4, reduceIte, p5, p6, p7, p8, c1, c4, c7, c10, c13, c16, c19, c20]
                  obtain ⟨v61, hv61, h⟩ := run_bind h
                  refine CallH.mk [false] (spec_l8None_sat hv61) ?_ ?_ <;> simp -failIfUnchanged only [↓RA, RB, RS, fx327, p1, p2, p3, p4, reduceIte, p5, p6, p7, p8, c1, c4, c7, c10, c13, c16, c19, c20]
                  refine CondH.mk (fun c21 => ?_) (fun c21 => ?_)
                  · replace h := run_t c21 h
                    simp -failIfUnchanged only [↓RA, RB, RS, fx327, p1, p2, p3, p4, reduceIte, p5, p6, p7, p8, c1, c4, c7, c10, c13, c16, c19, c20, c21]
                    have h := run_some h
                    obtain rfl : _ = r := h
                    refine FinH.l ?_
                    simp -failIfUnchanged only [↓RA, RB, RS, fx327, p1, p2, p3, p4, reduceIte, p5, p6, p7, p8, c1, c4, c7, c10, c13, c16, c19, c20, c21]
                  · replace h := run_f c21 h
                    simp -failIfUnchanged only [↓RA, RB, RS, fx327, p1, p2, p3, p4, reduceIte, p5, p6, p7, p8, c1, c4, c7, c10, c13, c16, c19, c20, c21]
                    have h := run_some h
                    obtain rfl : _ = r := h
                    refine FinH.l ?_
                    simp -failIfUnchanged only [↓RA, RB, RS, fx327, p1, p2, p3, p4, reduceIte, p5, p6, p7, p8, c1, c4, c7, c10, c13, c16, c19, c20, c21]
                · replace h := run_f c20 h
                  simp -failIfUnchanged only [↓RA, RB, RS, fx327, p1, p2, p3, p4, reduceIte, p5, p6, p7, p8, c1, c4, c7, c10, c13, c16, c19, c20]
                  have h := run_some h
                  obtain rfl : _ = r := h
                  refine FinH.l ?_
                  simp -failIfUnchanged only [↓RA, RB, RS, fx327, p1, p2, p3, p4, reduceIte, p5, p6, p7, p8, c1, c4, c7, c10, c13, c16, c19, c20]
              · replace h := run_f c19 h
                simp -failIfUnchanged only [↓RA, RB, RS, fx327, p1, p2, p3, p4, reduceIte, p5, p6, p7, p8, c1, c4, c7, c10, c13, c16, c19]
                refine CondH.mk (fun c22 => ?_) (fun c22 => ?_)
                · replace h := run_t c22 h
                  simp -failIfUnchanged only [↓RA, RB, RS, fx327, p1, p2, p3, p4, reduceIte, p5, p6, p7, p8, c1, c4, c7, c10, c13, c16, c19, c22]
                  refine CondH.mk (fun c23 => ?_) (fun c23 => ?_)
                  · replace h := run_t c23 h
                    simp -failIfUnchanged only [↓RA, RB, RS, fx327, p1, p2, p3, p4, reduceIte, p5, p6, p7, p8, c1, c4, c7, c10, c13, c16, c19, c22, c23]
                    obtain ⟨v76, hv76, h⟩ := run_bind h
                    refine CallH.mk [false] (spec_l8None_sat hv76) ?_ ?_ <;> simp -failIfUnchanged only [↓RA, RB, RS, fx327, p1, p2, p3, p4, reduceIte, p5, p6, p7, p8, c1, c4, c7, c10, c13, c16, c19, c22, c23]
                    refine CondH.mk (fun c24 => ?_) (fun c24 => ?_)
                    · replace h := run_t c24 h
                      simp -failIfUnchanged only [↓RA, RB, RS, fx327, p1, p2, p3, p4, reduceIte, p5, p6, p7, p8, c1, c4, c7, c10, c13, c16, c19, c22, c23, c24]
                      obtain ⟨v81, hv81, h⟩ := run_bind h
                      refine CallH.mk [false] (spec_l2Var_sat hv81) ?_ ?_ <;> simp -failIfUnchanged only [↓RA, RB, RS, fx327, p1, p2, p3, p4, reduceIte, p5, p6, p7, p8, c1, c4, c7, c10, c13, c16, c19, c22, c23, c24]
                      have h := run_some h
                      obtain rfl : _ = r := h
                      refine FinH.l ?_
                      simp -failIfUnchanged only [↓RA, RB, RS, fx327, p1, p2, p3, p4, reduceIte, p5, p6, p7, p8, c1, c4, c7, c10, c13, c16, c19, c22, c23, c24]
                    · replace h := run_f c24 h
                      simp -failIfUnchanged only [↓RA, RB, RS, fx327, p1, p2, p3, p4, reduceIte, p5, p6, p7, p8, c1, c4, c7, c10, c13, c16, c19, c22, c23, c24]
                      have h := run_some h
                      obtain rfl : _ = r := h
                      refine FinH.l ?_
                      simp -failIfUnchanged only [↓RA, RB, RS, fx327, p1, p2, p3, p4, reduceIte, p5, p6, p7, p8, c1, c4, c7, c10, c13, c16, c19, c22, c23, c24]
                  · replace h := run_f c23 h
                    simp -failIfUnchanged only [↓RA, RB, RS, fx327, p1, p2, p3, p4, reduceIte, p5, p6, p7, p8, c1, c4, c7, c10, c13, c16, c19, c22, c23]
                    have h := run_some h
                    obtain rfl : _ = r := h
                    refine FinH.l ?_
                    simp -failIfUnchanged only [↓RA, RB, RS, fx327, p1, p2, p3, p4, reduceIte, p5, p6, p7, p8, c1, c4, c7, c10, c13, c16, c19, c22, c23]
                · replace h := run_f c22 h
                  simp -failIfUnchanged only [↓RA, RB, RS, fx327, p1, p2, p3, p4, reduceIte, p5, p6, p7, p8, c1, c4, c7, c10, c13, c16, c19, c22]
                  refine CondH.mk (fun c25 => ?_) (fun c25 => ?_)
                  · replace h := run_t c25 h
                    simp -failIfUnchanged only [↓RA, RB, RS, fx327, p1, p2, p3, p4, reduceIte, p5, p6, p7, p8, c1, c4, c7, c10, c13, c16, c19, c22, c25]
                    refine CondH.mk (fun c26 => ?_) (fun c26 => ?_)
                    · replace h := run_t c26 h
                      simp -failIfUnchanged only [↓RA, RB, RS, fx327, p1, p2, p3, p4, reduceIte, p5, p6, p7, p8, c1, c4, c7, c10, c13, c16, c19, c22, c25, c26]
                      obtain ⟨v76, hv76, h⟩ := run_bind h
                      refine CallH.mk [false] (spec_l8None_sat hv76) ?_ ?_ <;> simp -failIfUnchanged only [↓RA, RB, RS, fx327, p1, p2, p3, p4, reduceIte, p5, p6, p7, p8, c1, c4, c7, c10, c13, c16, c19, c22, c25, c26]
                      refine CondH.mk (fun c27 => ?_) (fun c27 => ?_)
                      · replace h := run_t c27 h
                        simp -failIfUnchanged only [↓RA, RB, RS, fx327, p1, p2, p3, p4, reduceIte, p5, p6, p7, p8, c1, c4, c7, c10, c13, c16, c19, c22, c25, c26, c27]
                        obtain ⟨v81, hv81, h⟩ := run_bind h
                        refine CallH.mk [false] (spec_l2Var_sat hv81) ?_ ?_ <;> simp -failIfUnchanged only [↓RA, RB, RS, fx327, p1, p2, p3, p4, reduceIte, p5, p6, p7, p8, c1, c4, c7, c10, c13, c16, c19, c22, c25, c26, c27]
                        have h := run_some h
                        obtain rfl : _ = r := h
                        refine FinH.l ?_
                        simp -failIfUnchanged only [↓RA, RB, RS, fx327, p1, p2, p3, p4, reduceIte, p5, p6, p7, p8, c1, c4, c7, c10, c13, c16, c19, c22, c25, c26, c27]
                      · replace h := run_f c27 h
                        simp -failIfUnchanged only [↓RA, RB, RS, fx327, p1, p2, p3, p4, reduceIte, p5, p6, p7, p8, c1, c4, c7, c10, c13, c16, c19, c22, c25, c26, c27]
                        have h := run_some h
                        obtain rfl : _ = r := h
                        refine FinH.l ?_
                        simp -failIfUnchanged only [↓RA, RB, RS, fx327, p1, p2, p3, p4, reduceIte, p5, p6, p7, p8, c1, c4, c7, c10, c13, c16, c19, c22, c25, c26, c27]
                    · replace h := run_f c26 h
                      simp -failIfUnchanged only [↓RA, RB, RS, fx327, p1, p2, p3, p4, reduceIte, p5, p6, p7, p8, c1, c4, c7, c10, c13, c16, c19, c22, c25, c26]
                      have h := run_some h
                      obtain rfl : _ = r := h
                      refine FinH.l ?_
                      simp -failIfUnchanged only [↓RA, RB, RS, fx327, p1, p2, p3, p4, reduceIte, p5, p6, p7, p8, c1, c4, c7, c10, c13, c16, c19, c22, c25, c26]
                  · replace h := run_f c25 h
                    simp -failIfUnchanged only [↓RA, RB, RS, fx327, p1, p2, p3, p4, reduceIte, p5, p6, p7, p8, c1, c4, c7, c10, c13, c16, c19, c22, c25]
                    have h := run_some h
                    obtain rfl : _ = r := h
                    refine FinH.l ?_
                    simp -failIfUnchanged only [↓RA, RB, RS, fx327, p1, p2, p3, p4, reduceIte, p5, p6, p7, p8, c1, c4, c7, c10, c13, c16, c19, c22, c25]

def fx275 := And.intro @ty_3 <| And.intro @zc_3 <| And.intro @z_3 <| And.intro @ty_4 <| And.intro @zc_4 <| And.intro @z_4 <| And.intro @u_4 <| And.intro @ty_119 <| And.intro @zc_119 <| And.intro @z_119 <| And.intro @es_119 <| And.intro @eb_119 <| And.intro @sl_119 <| And.intro @is_119 <| And.intro @el_119 <| And.intro @ze_119 <| And.intro @ez_119 <| And.intro @ty_121 <| And.intro @zc_121 <| And.intro @z_121 <| And.intro @fo_121_0 <| And.intro @fi_121_0 <| And.intro @ft_121_0 <| And.intro @fo_121_1 <| And.intro @fi_121_1 <| And.intro @ft_121_1 <| And.intro @fo_121_2 <| And.intro @fi_121_2 <| And.intro @ft_121_2 <| And.intro @fo_121_3 <| And.intro @fi_121_3 <| And.intro @ft_121_3 <| @lay_121
set_option maxHeartbeats 4000000 in
theorem spec_l8FormsN_sat (n : Nat) : (∀ (a0 : Formula) (r : Bool), spec_l8FormsN n a0 = some r → Sat Try.prog 275 [((Formula.pv false) a0)] (B r)) := by
  induction n with
  | zero => exact fun _ _ h => by simp [spec_l8FormsN] at h
  | succ n ih =>
    refine fun a0 r h => ?_
    replace h := Run.of h
    rw [spec_l8FormsN] at h
    refine Sat.of_m (nt := 21) (rs := [.tmp 2]) (n := 100000) Try.func275 rfl rfl rfl rfl (by simp) ?_
    simp -failIfUnchanged only [↓RA, RB, RS, fx275, p1, p2, p3, p4, reduceIte, p5, p6, p7, p8]
    repeat (first | with_reducible refine noR_and (by repeat (first | exact noR_empty _ _ | exact noR_nilS _ _ | refine noR_mk _ _ _ _ _ rfl ?_ | refine noR_mkS _ _ _ _ _ rfl ?_)) ?_ | with_reducible refine noC_and (by repeat (first | exact noC_empty _ _ (by simp -failIfUnchanged only [↓RA, RB, RS, fx275, p1, p2, p3, p4, reduceIte, p5, p6, p7, p8]) | exact noC_nilS _ _ (by simp -failIfUnchanged only [↓RA, RB, RS, fx275, p1, p2, p3, p4, reduceIte, p5, p6, p7, p8]) | refine noC_mk _ _ _ _ _ rfl ?_ | refine noC_mkS _ _ _ _ _ rfl ?_)) ?_ | with_reducible refine and_ac ?_ | with_reducible refine And.intro (a := _ = List.range _) (by rfl) ?_)
    obtain ⟨v5, hv5, h⟩ := run_bind h
    refine CallH.mk [false] (spec_l8Form_sat hv5) ?_ ?_ <;> simp -failIfUnchanged only [↓RA, RB, RS, fx275, p1, p2, p3, p4, reduceIte, p5, p6, p7, p8]
    refine CondH.mk (fun c1 => ?_) (fun c1 => ?_)
    · replace h := run_t c1 h
      simp -failIfUnchanged only [↓RA, RB, RS, fx275, p1, p2, p3, p4, reduceIte, p5, p6, p7, p8, c1]
      refine Mg.know_val2 (b := false) (sz := 5) (es := a0.Parts.map (Formula.pv false)) (x := (.pv ((Formula.pv false) a0))) 0 [3] (by simp -failIfUnchanged only [↓RA, RB, RS, fx275, p1, p2, p3, p4, reduceIte, p5, p6, p7, p8, c1]) fun hl0 => ?_; rw [List.length_map] at hl0
      replace h := run_loop h
      refine Mg.forN h (fun i4 s4 => [(1, .box (.pv ((Formula.pv false) a0))), (3, .val (.pv (I (i4 : Int))))]) (fun i4 s4 => []) (St.le_mk2 (by simp -failIfUnchanged only [↓RA, RB, RS, fx275, p1, p2, p3, p4, reduceIte, p5, p6, p7, p8, c1])) (fun i4 s4 hi h => ?_) (fun s4 h => ?_)
      · have w4 := wrap_succ (i := i4) (by omega)
        simp -failIfUnchanged only [↓RA, RB, RS, fx275, p1, p2, p3, p4, reduceIte, p5, p6, p7, p8, c1]
        refine CondH.tt (decide_eq_true (by omega)) (fun c2 => ?_)
        simp -failIfUnchanged only [↓RA, RB, RS, fx275, p1, p2, p3, p4, reduceIte, p5, p6, p7, p8, c1, c2]
        obtain ⟨v17, hv17, h⟩ := run_bind h
        refine IdxH.mk (f := (Formula.pv false)) hv17 ?_ ?_ <;> simp -failIfUnchanged only [↓RA, RB, RS, fx275, p1, p2, p3, p4, reduceIte, p5, p6, p7, p8, c1, c2]
        obtain ⟨v19, hv19, h⟩ := run_bind h
        refine CallH.mk [false] (ih _ _ hv19) ?_ ?_ <;> simp -failIfUnchanged only [↓RA, RB, RS, fx275, p1, p2, p3, p4, reduceIte, p5, p6, p7, p8, c1, c2]
        refine CondH.mk (fun c3 => ?_) (fun c3 => ?_)
        · replace h := run_t c3 h
          simp -failIfUnchanged only [↓RA, RB, RS, fx275, p1, p2, p3, p4, reduceIte, p5, p6, p7, p8, c1, c2, c3]
          have h := run_some h
          refine RdH.mk ⟨_, h, ?_⟩
          refine St.le_mk2 ?_
          simp -failIfUnchanged only [↓RA, RB, RS, fx275, p1, p2, p3, p4, reduceIte, p5, p6, p7, p8, c1, c2, c3, w4]
        · replace h := run_f c3 h
          simp -failIfUnchanged only [↓RA, RB, RS, fx275, p1, p2, p3, p4, reduceIte, p5, p6, p7, p8, c1, c2, c3]
          have h := run_some h
          obtain rfl : _ = r := h
          refine FinH.l ?_
          simp -failIfUnchanged only [↓RA, RB, RS, fx275, p1, p2, p3, p4, reduceIte, p5, p6, p7, p8, c1, c2, c3]
      · simp -failIfUnchanged only [↓RA, RB, RS, fx275, p1, p2, p3, p4, reduceIte, p5, p6, p7, p8, c1]
        refine CondH.ff (decide_eq_false (by omega)) (fun c4 => ?_)
        simp -failIfUnchanged only [↓RA, RB, RS, fx275, p1, p2, p3, p4, reduceIte, p5, p6, p7, p8, c1, c4]
        have h := run_some h
        obtain rfl : _ = r := h
        refine FinH.l ?_
        simp -failIfUnchanged only [↓RA, RB, RS, fx275, p1, p2, p3, p4, reduceIte, p5, p6, p7, p8, c1, c4]
    · replace h := run_f c1 h
      simp -failIfUnchanged only [↓RA, RB, RS, fx275, p1, p2, p3, p4, reduceIte, p5, p6, p7, p8, c1]
      have h := run_some h
      obtain rfl : _ = r := h
      refine FinH.l ?_
      simp -failIfUnchanged only [↓RA, RB, RS, fx275, p1, p2, p3, p4, reduceIte, p5, p6, p7, p8, c1]
theorem spec_l8Forms_sat {a0 : Formula} {r : Bool} (h : spec_l8Forms a0 = some r) : Sat Try.prog 275 [((Formula.pv false) a0)] (B r) := by
  obtain ⟨n, hn⟩ := lim_some h
  exact (spec_l8FormsN_sat n) _ _ hn

def fx177 := And.intro @ty_3 <| And.intro @zc_3 <| And.intro @z_3 <| And.intro @ty_121 <| And.intro @zc_121 <| And.intro @z_121 <| And.intro @fo_121_0 <| And.intro @fi_121_0 <| And.intro @ft_121_0 <| And.intro @fo_121_1 <| And.intro @fi_121_1 <| And.intro @ft_121_1 <| And.intro @fo_121_2 <| And.intro @fi_121_2 <| And.intro @ft_121_2 <| And.intro @fo_121_3 <| And.intro @fi_121_3 <| And.intro @ft_121_3 <| @lay_121
set_option maxHeartbeats 4000000 in
theorem spec_l8Good_sat {a0 : Formula}  {r : Bool} (h : spec_l8Good a0 = some r) : Sat Try.prog 177 [((Formula.pv false) a0)] (B r) := by
  replace h := Run.of h
  unfold spec_l8Good at h
  refine Sat.of_m (nt := 10) (rs := [.tmp 2]) (n := 100000) Try.func177 rfl rfl rfl rfl (by simp) ?_
  simp -failIfUnchanged only [↓RA, RB, RS, fx177, p1, p2, p3, p4, reduceIte, p5, p6, p7, p8]
  repeat (first | with_reducible refine noR_and (by repeat (first | exact noR_empty _ _ | exact noR_nilS _ _ | refine noR_mk _ _ _ _ _ rfl ?_ | refine noR_mkS _ _ _ _ _ rfl ?_)) ?_ | with_reducible refine noC_and (by repeat (first | exact noC_empty _ _ (by simp -failIfUnchanged only [↓RA, RB, RS, fx177, p1, p2, p3, p4, reduceIte, p5, p6, p7, p8]) | exact noC_nilS _ _ (by simp -failIfUnchanged only [↓RA, RB, RS, fx177, p1, p2, p3, p4, reduceIte, p5, p6, p7, p8]) | refine noC_mk _ _ _ _ _ rfl ?_ | refine noC_mkS _ _ _ _ _ rfl ?_)) ?_ | with_reducible refine and_ac ?_ | with_reducible refine And.intro (a := _ = List.range _) (by rfl) ?_)
  obtain ⟨v4, hv4, h⟩ := run_bind h
  refine CallH.mk [false, false] (spec_l8Many_sat hv4) ?_ ?_ <;> simp -failIfUnchanged only [↓RA, RB, RS, fx177, p1, p2, p3, p4, reduceIte, p5, p6, p7, p8]
  refine CondH.mk (fun c1 => ?_) (fun c1 => ?_)
  · replace h := run_t c1 h
    simp -failIfUnchanged only [↓RA, RB, RS, fx177, p1, p2, p3, p4, reduceIte, p5, p6, p7, p8, c1]
    obtain ⟨v8, hv8, h⟩ := run_bind h
    refine CallH.mk [false] (spec_l8Forms_sat hv8) ?_ ?_ <;> simp -failIfUnchanged only [↓RA, RB, RS, fx177, p1, p2, p3, p4, reduceIte, p5, p6, p7, p8, c1]
    have h := run_some h
    obtain rfl : _ = r := h
    refine FinH.l ?_
    simp -failIfUnchanged only [↓RA, RB, RS, fx177, p1, p2, p3, p4, reduceIte, p5, p6, p7, p8, c1]
  · replace h := run_f c1 h
    simp -failIfUnchanged only [↓RA, RB, RS, fx177, p1, p2, p3, p4, reduceIte, p5, p6, p7, p8, c1]
    have h := run_some h
    obtain rfl : _ = r := h
    refine FinH.l ?_
    simp -failIfUnchanged only [↓RA, RB, RS, fx177, p1, p2, p3, p4, reduceIte, p5, p6, p7, p8, c1]

def fx249 := And.intro @ty_3 <| And.intro @zc_3 <| And.intro @z_3 <| And.intro @ty_4 <| And.intro @zc_4 <| And.intro @z_4 <| And.intro @u_4 <| And.intro @ty_119 <| And.intro @zc_119 <| And.intro @z_119 <| And.intro @es_119 <| And.intro @eb_119 <| And.intro @sl_119 <| And.intro @is_119 <| And.intro @el_119 <| And.intro @ze_119 <| And.intro @ez_119 <| And.intro @ty_121 <| And.intro @zc_121 <| And.intro @z_121 <| And.intro @fo_121_0 <| And.intro @fi_121_0 <| And.intro @ft_121_0 <| And.intro @fo_121_1 <| And.intro @fi_121_1 <| And.intro @ft_121_1 <| And.intro @fo_121_2 <| And.intro @fi_121_2 <| And.intro @ft_121_2 <| And.intro @fo_121_3 <| And.intro @fi_121_3 <| And.intro @ft_121_3 <| @lay_121
set_option maxHeartbeats 4000000 in
theorem spec_l18Side_sat {a0 : List Formula}  {r : Bool} (h : spec_l18Side a0 = some r) : Sat Try.prog 249 [(.sl false 5 (a0.map (Formula.pv false)))] (B r) := by
  replace h := Run.of h
  unfold spec_l18Side at h
  refine Sat.of_m (nt := 23) (rs := [.tmp 2]) (n := 100000) Try.func249 rfl rfl rfl rfl (by simp) ?_
  simp -failIfUnchanged only [↓RA, RB, RS, fx249, p1, p2, p3, p4, reduceIte, p5, p6, p7, p8]
  refine Mg.know_sl (b := false) (sz := 5) (es := a0.map (Formula.pv false)) 0 (by simp -failIfUnchanged only [↓RA, RB, RS, fx249, p1, p2, p3, p4, reduceIte, p5, p6, p7, p8]) fun hl0 => ?_; rw [List.length_map] at hl0
  replace h := run_loop h
  refine Mg.forN h (fun i2 s2 => [(0, .val (.pv (.sl false 5 (a0.map (Formula.pv false))))), (3, .val (.pv (I (i2 : Int))))]) (fun i2 s2 => []) (St.le_mk2 (by simp -failIfUnchanged only [↓RA, RB, RS, fx249, p1, p2, p3, p4, reduceIte, p5, p6, p7, p8])) (fun i2 s2 hi h => ?_) (fun s2 h => ?_)
  · have w2 := wrap_succ (i := i2) (by omega)
    simp -failIfUnchanged only [↓RA, RB, RS, fx249, p1, p2, p3, p4, reduceIte, p5, p6, p7, p8]
    refine CondH.tt (decide_eq_true (by omega)) (fun c1 => ?_)
    simp -failIfUnchanged only [↓RA, RB, RS, fx249, p1, p2, p3, p4, reduceIte, p5, p6, p7, p8, c1]
    refine CondH.mk (fun c2 => ?_) (fun c2 => ?_)
    · replace h := run_t c2 h
      simp -failIfUnchanged only [↓RA, RB, RS, fx249, p1, p2, p3, p4, reduceIte, p5, p6, p7, p8, c1, c2]
      obtain ⟨v16, hv16, h⟩ := run_bind h
      refine IdxH.mk (f := (Formula.pv false)) hv16 ?_ ?_ <;> simp -failIfUnchanged only [↓RA, RB, RS, fx249, p1, p2, p3, p4, reduceIte, p5, p6, p7, p8, c1, c2]
      obtain ⟨v18, hv18, h⟩ := run_bind h
      refine CallH.mk [false] (spec_l8Good_sat hv18) ?_ ?_ <;> simp -failIfUnchanged only [↓RA, RB, RS, fx249, p1, p2, p3, p4, reduceIte, p5, p6, p7, p8, c1, c2]
      refine CondH.mk (fun c3 => ?_) (fun c3 => ?_)
      · replace h := run_t c3 h
        simp -failIfUnchanged only [↓RA, RB, RS, fx249, p1, p2, p3, p4, reduceIte, p5, p6, p7, p8, c1, c2, c3]
        have h := run_some h
        refine RdH.mk ⟨_, h, ?_⟩
        refine St.le_mk2 ?_
        simp -failIfUnchanged only [↓RA, RB, RS, fx249, p1, p2, p3, p4, reduceIte, p5, p6, p7, p8, c1, c2, c3, w2]
      · replace h := run_f c3 h
        simp -failIfUnchanged only [↓RA, RB, RS, fx249, p1, p2, p3, p4, reduceIte, p5, p6, p7, p8, c1, c2, c3]
        have h := run_some h
        obtain rfl : _ = r := h
        refine FinH.l ?_
        simp -failIfUnchanged only [↓RA, RB, RS, fx249, p1, p2, p3, p4, reduceIte, p5, p6, p7, p8, c1, c2, c3]
    · replace h := run_f c2 h
      simp -failIfUnchanged only [↓RA, RB, RS, fx249, p1, p2, p3, p4, reduceIte, p5, p6, p7, p8, c1, c2]
      have h := run_some h
      obtain rfl : _ = r := h
      refine FinH.l ?_
      simp -failIfUnchanged only [↓RA, RB, RS, fx249, p1, p2, p3, p4, reduceIte, p5, p6, p7, p8, c1, c2]
  · simp -failIfUnchanged only [↓RA, RB, RS, fx249, p1, p2, p3, p4, reduceIte, p5, p6, p7, p8]
    refine CondH.ff (decide_eq_false (by omega)) (fun c4 => ?_)
    simp -failIfUnchanged only [↓RA, RB, RS, fx249, p1, p2, p3, p4, reduceIte, p5, p6, p7, p8, c4]
    have h := run_some h
    obtain rfl : _ = r := h
    refine FinH.l ?_
    simp -failIfUnchanged only [↓RA, RB, RS, fx249, p1, p2, p3, p4, reduceIte, p5, p6, p7, p8, c4]

def fx158 := And.intro @ty_119 <| And.intro @zc_119 <| And.intro @z_119 <| And.intro @es_119 <| And.intro @eb_119 <| And.intro @sl_119 <| And.intro @is_119 <| And.intro @el_119 <| And.intro @ze_119 <| And.intro @ez_119 <| And.intro @ty_194 <| And.intro @zc_194 <| And.intro @z_194 <| And.intro @fo_194_0 <| And.intro @fi_194_0 <| And.intro @ft_194_0 <| And.intro @fo_194_1 <| And.intro @fi_194_1 <| And.intro @ft_194_1 <| @lay_194
set_option maxHeartbeats 4000000 in
theorem spec_l18Good_sat {a0 : Sequent}  {r : Bool} (h : spec_l18Good a0 = some r) : Sat Try.prog 158 [((Sequent.pv false) a0)] (B r) := by
  replace h := Run.of h
  unfold spec_l18Good at h
  refine Sat.of_m (nt := 11) (rs := [.tmp 2]) (n := 100000) Try.func158 rfl rfl rfl rfl (by simp) ?_
  simp -failIfUnchanged only [↓RA, RB, RS, fx158, p1, p2, p3, p4, reduceIte, p5, p6, p7, p8]
  repeat (first | with_reducible refine noR_and (by repeat (first | exact noR_empty _ _ | exact noR_nilS _ _ | refine noR_mk _ _ _ _ _ rfl ?_ | refine noR_mkS _ _ _ _ _ rfl ?_)) ?_ | with_reducible refine noC_and (by repeat (first | exact noC_empty _ _ (by simp -failIfUnchanged only [↓RA, RB, RS, fx158, p1, p2, p3, p4, reduceIte, p5, p6, p7, p8]) | exact noC_nilS _ _ (by simp -failIfUnchanged only [↓RA, RB, RS, fx158, p1, p2, p3, p4, reduceIte, p5, p6, p7, p8]) | refine noC_mk _ _ _ _ _ rfl ?_ | refine noC_mkS _ _ _ _ _ rfl ?_)) ?_ | with_reducible refine and_ac ?_ | with_reducible refine And.intro (a := _ = List.range _) (by rfl) ?_)
  obtain ⟨v5, hv5, h⟩ := run_bind h
  refine CallH.mk [false] (spec_l18Side_sat hv5) ?_ ?_ <;> simp -failIfUnchanged only [↓RA, RB, RS, fx158, p1, p2, p3, p4, reduceIte, p5, p6, p7, p8]
  refine CondH.mk (fun c1 => ?_) (fun c1 => ?_)
  · replace h := run_t c1 h
    simp -failIfUnchanged only [↓RA, RB, RS, fx158, p1, p2, p3, p4, reduceIte, p5, p6, p7, p8, c1]
    obtain ⟨v9, hv9, h⟩ := run_bind h
    refine CallH.mk [false] (spec_l18Side_sat hv9) ?_ ?_ <;> simp -failIfUnchanged only [↓RA, RB, RS, fx158, p1, p2, p3, p4, reduceIte, p5, p6, p7, p8, c1]
    have h := run_some h
    obtain rfl : _ = r := h
    refine FinH.l ?_
    simp -failIfUnchanged only [↓RA, RB, RS, fx158, p1, p2, p3, p4, reduceIte, p5, p6, p7, p8, c1]
  · replace h := run_f c1 h
    simp -failIfUnchanged only [↓RA, RB, RS, fx158, p1, p2, p3, p4, reduceIte, p5, p6, p7, p8, c1]
    have h := run_some h
    obtain rfl : _ = r := h
    refine FinH.l ?_
    simp -failIfUnchanged only [↓RA, RB, RS, fx158, p1, p2, p3, p4, reduceIte, p5, p6, p7, p8, c1]

def fx250 := And.intro @ty_3 <| And.intro @zc_3 <| And.intro @z_3 <| And.intro @ty_121 <| And.intro @zc_121 <| And.intro @z_121 <| And.intro @fo_121_0 <| And.intro @fi_121_0 <| And.intro @ft_121_0 <| And.intro @fo_121_1 <| And.intro @fi_121_1 <| And.intro @ft_121_1 <| And.intro @fo_121_2 <| And.intro @fi_121_2 <| And.intro @ft_121_2 <| And.intro @fo_121_3 <| And.intro @fi_121_3 <| And.intro @ft_121_3 <| @lay_121
set_option maxHeartbeats 4000000 in
theorem spec_l17Quantifier_sat {a0 : Formula}  {r : Bool} (h : spec_l17Quantifier a0 = some r) : Sat Try.prog 250 [((Formula.pv false) a0)] (B r) := by
  replace h := Run.of h
  unfold spec_l17Quantifier at h
  refine Sat.of_m (nt := 11) (rs := [.tmp 2]) (n := 100000) Try.func250 rfl rfl rfl rfl (by simp) ?_
  simp -failIfUnchanged only [↓RA, RB, RS, fx250, p1, p2, p3, p4, reduceIte, p5, p6, p7, p8]
  repeat (first | with_reducible refine noR_and (by repeat (first | exact noR_empty _ _ | exact noR_nilS _ _ | refine noR_mk _ _ _ _ _ rfl ?_ | refine noR_mkS _ _ _ _ _ rfl ?_)) ?_ | with_reducible refine noC_and (by repeat (first | exact noC_empty _ _ (by simp -failIfUnchanged only [↓RA, RB, RS, fx250, p1, p2, p3, p4, reduceIte, p5, p6, p7, p8]) | exact noC_nilS _ _ (by simp -failIfUnchanged only [↓RA, RB, RS, fx250, p1, p2, p3, p4, reduceIte, p5, p6, p7, p8]) | refine noC_mk _ _ _ _ _ rfl ?_ | refine noC_mkS _ _ _ _ _ rfl ?_)) ?_ | with_reducible refine and_ac ?_ | with_reducible refine And.intro (a := _ = List.range _) (by rfl) ?_)
  refine CondH.mk (fun c1 => ?_) (fun c1 => ?_)
  · replace h := run_t c1 h
    simp -failIfUnchanged only [↓RA, RB, RS, fx250, p1, p2, p3, p4, reduceIte, p5, p6, p7, p8, c1]
    have h := run_some h
    obtain rfl : _ = r := h
    refine FinH.l ?_
    simp -failIfUnchanged only [↓RA, RB, RS, fx250, p1, p2, p3, p4, reduceIte, p5, p6, p7, p8, c1]
  · replace h := run_f c1 h
    simp -failIfUnchanged only [↓RA, RB, RS, fx250, p1, p2, p3, p4, reduceIte, p5, p6, p7, p8, c1]
    have h := run_some h
    obtain rfl : _ = r := h
    refine FinH.l ?_
    simp -failIfUnchanged only [↓RA, RB, RS, fx250, p1, p2, p3, p4, reduceIte, p5, p6, p7, p8, c1]

def fx192 := And.intro @ty_3 <| And.intro @zc_3 <| And.intro @z_3 <| And.intro @ty_4 <| And.intro @zc_4 <| And.intro @z_4 <| And.intro @u_4 <| And.intro @ty_9 <| And.intro @zc_9 <| And.intro @z_9 <| And.intro @u_9 <| And.intro @ty_27 <| And.intro @zc_27 <| And.intro @z_27 <| And.intro @es_27 <| And.intro @eb_27 <| And.intro @sl_27 <| And.intro @is_27 <| And.intro @el_27 <| And.intro @ze_27 <| And.intro @ez_27 <| And.intro @ty_35 <| And.intro @zc_35 <| And.intro @z_35 <| And.intro @fo_35_0 <| And.intro @fi_35_0 <| And.intro @ft_35_0 <| And.intro @fo_35_1 <| And.intro @fi_35_1 <| And.intro @ft_35_1 <| And.intro @lay_35 <| @mixedT
set_option maxHeartbeats 4000000 in
theorem spec_l2SameN_sat (n : Nat) : (∀ (a0 : Term) (a1 : Term) (r : Bool), spec_l2SameN n a0 a1 = some r → Sat Try.prog 192 [((Term.pv false) a0), ((Term.pv false) a1)] (B r)) := by
  induction n with
  | zero => exact fun _ _ _ h => by simp [spec_l2SameN] at h
  | succ n ih =>
    refine fun a0 a1 r h => ?_
    replace h := Run.of h
    rw [spec_l2SameN] at h
    refine Sat.of_m (nt := 39) (rs := [.tmp 4]) (n := 100000) Try.func192 rfl rfl rfl rfl (by simp) ?_
    simp -failIfUnchanged only [↓RA, RB, RS, fx192, p1, p2, p3, p4, reduceIte, p5, p6, p7, p8]
    repeat (first | with_reducible refine noR_and (by repeat (first | exact noR_empty _ _ | exact noR_nilS _ _ | refine noR_mk _ _ _ _ _ rfl ?_ | refine noR_mkS _ _ _ _ _ rfl ?_)) ?_ | with_reducible refine noC_and (by repeat (first | exact noC_empty _ _ (by simp -failIfUnchanged only [↓RA, RB, RS, fx192, p1, p2, p3, p4, reduceIte, p5, p6, p7, p8]) | exact noC_nilS _ _ (by simp -failIfUnchanged only [↓RA, RB, RS, fx192, p1, p2, p3, p4, reduceIte, p5, p6, p7, p8]) | refine noC_mk _ _ _ _ _ rfl ?_ | refine noC_mkS _ _ _ _ _ rfl ?_)) ?_ | with_reducible refine and_ac ?_ | with_reducible refine And.intro (a := _ = List.range _) (by rfl) ?_)
    refine CondH.mk (fun c1 => ?_) (fun c1 => ?_)
    · replace h := run_t c1 h
      simp -failIfUnchanged only [↓RA, RB, RS, fx192, p1, p2, p3, p4, reduceIte, p5, p6, p7, p8, c1]
      refine CondH.mk (fun c2 => ?_) (fun c2 => ?_)
      · replace h := run_t c2 h
        simp -failIfUnchanged only [↓RA, RB, RS, fx192, p1, p2, p3, p4, reduceIte, p5, p6, p7, p8, c1, c2]
        refine Mg.know_sl (b := false) (sz := 2) (es := a0.Args.map (Term.pv false)) 13 (by simp -failIfUnchanged only [↓RA, RB, RS, fx192, p1, p2, p3, p4, reduceIte, p5, p6, p7, p8, c1, c2]) fun hl13 => ?_; rw [List.length_map] at hl13
        replace h := run_loop h
        refine Mg.forN h (fun i4 s4 => [(2, .box (.pv ((Term.pv false) a0))), (3, .box (.pv ((Term.pv false) a1))), (5, .val (.pv (I (i4 : Int))))]) (fun i4 s4 => []) (St.le_mk2 (by simp -failIfUnchanged only [↓RA, RB, RS, fx192, p1, p2, p3, p4, reduceIte, p5, p6, p7, p8, c1, c2])) (fun i4 s4 hi h => ?_) (fun s4 h => ?_)
        · have w4 := wrap_succ (i := i4) (by omega)
          simp -failIfUnchanged only [↓RA, RB, RS, fx192, p1, p2, p3, p4, reduceIte, p5, p6, p7, p8, c1, c2]
          refine CondH.tt (decide_eq_true (by omega)) (fun c3 => ?_)
          simp -failIfUnchanged only [↓RA, RB, RS, fx192, p1, p2, p3, p4, reduceIte, p5, p6, p7, p8, c1, c2, c3]
          obtain ⟨v30, hv30, h⟩ := run_bind h
          refine IdxH.mk (f := (Term.pv false)) hv30 ?_ ?_ <;> simp -failIfUnchanged only [↓RA, RB, RS, fx192, p1, p2, p3, p4, reduceIte, p5, p6, p7, p8, c1, c2, c3]
          obtain ⟨v35, hv35, h⟩ := run_bind h
          refine IdxH.mk (f := (Term.pv false)) hv35 ?_ ?_ <;> simp -failIfUnchanged only [↓RA, RB, RS, fx192, p1, p2, p3, p4, reduceIte, p5, p6, p7, p8, c1, c2, c3]
          obtain ⟨v37, hv37, h⟩ := run_bind h
          refine CallH.mk [false, false] (ih _ _ _ hv37) ?_ ?_ <;> simp -failIfUnchanged only [↓RA, RB, RS, fx192, p1, p2, p3, p4, reduceIte, p5, p6, p7, p8, c1, c2, c3]
          refine And.intro (DrawH.none (by rfl) (by first | rfl | (simp -failIfUnchanged only [↓RA, RB, RS, fx192, p1, p2, p3, p4, reduceIte, p5, p6, p7, p8] <;> rfl)) (by first | rfl | (simp -failIfUnchanged only [↓RA, RB, RS, fx192, p1, p2, p3, p4, reduceIte, p5, p6, p7, p8] <;> rfl)) (by first | rfl | (simp -failIfUnchanged only [↓RA, RB, RS, fx192, p1, p2, p3, p4, reduceIte, p5, p6, p7, p8] <;> rfl))) ?_
          simp -failIfUnchanged only [↓RA, RB, RS, fx192, p1, p2, p3, p4, reduceIte, p5, p6, p7, p8, c1, c2, c3]
          refine CondH.mk (fun c4 => ?_) (fun c4 => ?_)
          · replace h := run_t c4 h
            simp -failIfUnchanged only [↓RA, RB, RS, fx192, p1, p2, p3, p4, reduceIte, p5, p6, p7, p8, c1, c2, c3, c4]
            have h := run_some h
            refine RdH.mk ⟨_, h, ?_⟩
            refine St.le_mk2 ?_
            simp -failIfUnchanged only [↓RA, RB, RS, fx192, p1, p2, p3, p4, reduceIte, p5, p6, p7, p8, c1, c2, c3, c4, w4]
          · replace h := run_f c4 h
            simp -failIfUnchanged only [↓RA, RB, RS, fx192, p1, p2, p3, p4, reduceIte, p5, p6, p7, p8, c1, c2, c3, c4]
            have h := run_some h
            obtain rfl : _ = r := h
            refine FinH.l ?_
            simp -failIfUnchanged only [↓RA, RB, RS, fx192, p1, p2, p3, p4, reduceIte, p5, p6, p7, p8, c1, c2, c3, c4]
        · simp -failIfUnchanged only [↓RA, RB, RS, fx192, p1, p2, p3, p4, reduceIte, p5, p6, p7, p8, c1, c2]
          refine CondH.ff (decide_eq_false (by omega)) (fun c5 => ?_)
          simp -failIfUnchanged only [↓RA, RB, RS, fx192, p1, p2, p3, p4, reduceIte, p5, p6, p7, p8, c1, c2, c5]
          have h := run_some h
          obtain rfl : _ = r := h
          refine FinH.l ?_
          simp -failIfUnchanged only [↓RA, RB, RS, fx192, p1, p2, p3, p4, reduceIte, p5, p6, p7, p8, c1, c2, c5]
      · replace h := run_f c2 h
        simp -failIfUnchanged only [↓RA, RB, RS, fx192, p1, p2, p3, p4, reduceIte, p5, p6, p7, p8, c1, c2]
        have h := run_some h
        obtain rfl : _ = r := h
        refine FinH.l ?_
        simp -failIfUnchanged only [↓RA, RB, RS, fx192, p1, p2, p3, p4, reduceIte, p5, p6, p7, p8, c1, c2]
    · replace h := run_f c1 h
      simp -failIfUnchanged only [↓RA, RB, RS, fx192, p1, p2, p3, p4, reduceIte, p5, p6, p7, p8, c1]
      have h := run_some h
      obtain rfl : _ = r := h
      refine FinH.l ?_
      simp -failIfUnchanged only [↓RA, RB, RS, fx192, p1, p2, p3, p4, reduceIte, p5, p6, p7, p8, c1]
theorem spec_l2Same_sat {a0 : Term} {a1 : Term} {r : Bool} (h : spec_l2Same a0 a1 = some r) : Sat Try.prog 192 [((Term.pv false) a0), ((Term.pv false) a1)] (B r) := by
  obtain ⟨n, hn⟩ := lim_some h
  exact (spec_l2SameN_sat n) _ _ _ hn

def fx279 := And.intro @ty_3 <| And.intro @zc_3 <| And.intro @z_3 <| And.intro @ty_4 <| And.intro @zc_4 <| And.intro @z_4 <| And.intro @u_4 <| And.intro @ty_9 <| And.intro @zc_9 <| And.intro @z_9 <| And.intro @u_9 <| And.intro @ty_35 <| And.intro @zc_35 <| And.intro @z_35 <| And.intro @fo_35_0 <| And.intro @fi_35_0 <| And.intro @ft_35_0 <| And.intro @fo_35_1 <| And.intro @fi_35_1 <| And.intro @ft_35_1 <| And.intro @lay_35 <| And.intro @ty_119 <| And.intro @zc_119 <| And.intro @z_119 <| And.intro @es_119 <| And.intro @eb_119 <| And.intro @sl_119 <| And.intro @is_119 <| And.intro @el_119 <| And.intro @ze_119 <| And.intro @ez_119 <| And.intro @ty_121 <| And.intro @zc_121 <| And.intro @z_121 <| And.intro @fo_121_0 <| And.intro @fi_121_0 <| And.intro @ft_121_0 <| And.intro @fo_121_1 <| And.intro @fi_121_1 <| And.intro @ft_121_1 <| And.intro @fo_121_2 <| And.intro @fi_121_2 <| And.intro @ft_121_2 <| And.intro @fo_121_3 <| And.intro @fi_121_3 <| And.intro @ft_121_3 <| And.intro @lay_121 <| @mixedT
set_option maxHeartbeats 4000000 in
theorem spec_l8SameN_sat (n : Nat) : (∀ (a0 : Formula) (a1 : Formula) (r : Bool), spec_l8SameN n a0 a1 = some r → Sat Try.prog 279 [((Formula.pv false) a0), ((Formula.pv false) a1)] (B r)) := by
  induction n with
  | zero => exact fun _ _ _ h => by simp [spec_l8SameN] at h
  | succ n ih =>
    refine fun a0 a1 r h => ?_
    replace h := Run.of h
    rw [spec_l8SameN] at h
    refine Sat.of_m (nt := 54) (rs := [.tmp 4]) (n := 100000) Try.func279 rfl rfl rfl rfl (by simp) ?_
    simp -failIfUnchanged only [↓RA, RB, RS, fx279, p1, p2, p3, p4, reduceIte, p5, p6, p7, p8]
    repeat (first | with_reducible refine noR_and (by repeat (first | exact noR_empty _ _ | exact noR_nilS _ _ | refine noR_mk _ _ _ _ _ rfl ?_ | refine noR_mkS _ _ _ _ _ rfl ?_)) ?_ | with_reducible refine noC_and (by repeat (first | exact noC_empty _ _ (by simp -failIfUnchanged only [↓RA, RB, RS, fx279, p1, p2, p3, p4, reduceIte, p5, p6, p7, p8]) | exact noC_nilS _ _ (by simp -failIfUnchanged only [↓RA, RB, RS, fx279, p1, p2, p3, p4, reduceIte, p5, p6, p7, p8]) | refine noC_mk _ _ _ _ _ rfl ?_ | refine noC_mkS _ _ _ _ _ rfl ?_)) ?_ | with_reducible refine and_ac ?_ | with_reducible refine And.intro (a := _ = List.range _) (by rfl) ?_)
    refine CondH.mk (fun c1 => ?_) (fun c1 => ?_)
    · replace h := run_t c1 h
      simp -failIfUnchanged only [↓RA, RB, RS, fx279, p1, p2, p3, p4, reduceIte, p5, p6, p7, p8, c1]
      refine CondH.mk (fun c2 => ?_) (fun c2 => ?_)
      · replace h := run_t c2 h
        simp -failIfUnchanged only [↓RA, RB, RS, fx279, p1, p2, p3, p4, reduceIte, p5, p6, p7, p8, c1, c2]
        obtain ⟨v23, hv23, h⟩ := run_bind h
        refine CallH.mk [false, false] (spec_l2Same_sat hv23) ?_ ?_ <;> simp -failIfUnchanged only [↓RA, RB, RS, fx279, p1, p2, p3, p4, reduceIte, p5, p6, p7, p8, c1, c2]
        refine CondH.mk (fun c3 => ?_) (fun c3 => ?_)
        · replace h := run_t c3 h
          simp -failIfUnchanged only [↓RA, RB, RS, fx279, p1, p2, p3, p4, reduceIte, p5, p6, p7, p8, c1, c2, c3]
          refine CondH.mk (fun c4 => ?_) (fun c4 => ?_)
          · replace h := run_t c4 h
            simp -failIfUnchanged only [↓RA, RB, RS, fx279, p1, p2, p3, p4, reduceIte, p5, p6, p7, p8, c1, c2, c3, c4]
            refine Mg.know_sl (b := false) (sz := 5) (es := a0.Parts.map (Formula.pv false)) 28 (by simp -failIfUnchanged only [↓RA, RB, RS, fx279, p1, p2, p3, p4, reduceIte, p5, p6, p7, p8, c1, c2, c3, c4]) fun hl28 => ?_; rw [List.length_map] at hl28
            replace h := run_loop h
            refine Mg.forN h (fun i4 s4 => [(2, .box (.pv ((Formula.pv false) a0))), (3, .box (.pv ((Formula.pv false) a1))), (5, .val (.pv (I (i4 : Int))))]) (fun i4 s4 => []) (St.le_mk2 (by simp -failIfUnchanged only [↓RA, RB, RS, fx279, p1, p2, p3, p4, reduceIte, p5, p6, p7, p8, c1, c2, c3, c4])) (fun i4 s4 hi h => ?_) (fun s4 h => ?_)
            · have w4 := wrap_succ (i := i4) (by omega)
              simp -failIfUnchanged only [↓RA, RB, RS, fx279, p1, p2, p3, p4, reduceIte, p5, p6, p7, p8, c1, c2, c3, c4]
              refine CondH.tt (decide_eq_true (by omega)) (fun c5 => ?_)
              simp -failIfUnchanged only [↓RA, RB, RS, fx279, p1, p2, p3, p4, reduceIte, p5, p6, p7, p8, c1, c2, c3, c4, c5]
              obtain ⟨v45, hv45, h⟩ := run_bind h
              refine IdxH.mk (f := (Formula.pv false)) hv45 ?_ ?_ <;> simp -failIfUnchanged only [↓RA, RB, RS, fx279, p1, p2, p3, p4, reduceIte, p5, p6, p7, p8, c1, c2, c3, c4, c5]
              obtain ⟨v50, hv50, h⟩ := run_bind h
              refine IdxH.mk (f := (Formula.pv false)) hv50 ?_ ?_ <;> simp -failIfUnchanged only [↓RA, RB, RS, fx279, p1, p2, p3, p4, reduceIte, p5, p6, p7, p8, c1, c2, c3, c4, c5]
              obtain ⟨v52, hv52, h⟩ := run_bind h
              refine CallH.mk [false, false] (ih _ _ _ hv52) ?_ ?_ <;> simp -failIfUnchanged only [↓RA, RB, RS, fx279, p1, p2, p3, p4, reduceIte, p5, p6, p7, p8, c1, c2, c3, c4, c5]
              refine And.intro (DrawH.none (by rfl) (by first | rfl | (simp -failIfUnchanged only [↓RA, RB, RS, fx279, p1, p2, p3, p4, reduceIte, p5, p6, p7, p8] <;> rfl)) (by first | rfl | (simp -failIfUnchanged only [↓RA, RB, RS, fx279, p1, p2, p3, p4, reduceIte, p5, p6, p7, p8] <;> rfl)) (by first | rfl | (simp -failIfUnchanged only [↓RA, RB, RS, fx279, p1, p2, p3, p4, reduceIte, p5, p6, p7, p8] <;> rfl))) ?_
              simp -failIfUnchanged only [↓RA, RB, RS, fx279, p1, p2, p3, p4, reduceIte, p5, p6, p7, p8, c1, c2, c3, c4, c5]
              refine CondH.mk (fun c6 => ?_) (fun c6 => ?_)
              · replace h := run_t c6 h
                simp -failIfUnchanged only [↓RA, RB, RS, fx279, p1, p2, p3, p4, reduceIte, p5, p6, p7, p8, c1, c2, c3, c4, c5, c6]
                have h := run_some h
                refine RdH.mk ⟨_, h, ?_⟩
                refine St.le_mk2 ?_
                simp -failIfUnchanged only [↓RA, RB, RS, fx279, p1, p2, p3, p4, reduceIte, p5, p6, p7, p8, c1, c2, c3, c4, c5, c6, w4]
              · replace h := run_f c6 h
                simp -failIfUnchanged only [↓RA, RB, RS, fx279, p1, p2, p3, p4, reduceIte, p5, p6, p7, p8, c1, c2, c3, c4, c5, c6]
                have h := run_some h
                obtain rfl : _ = r := h
                refine FinH.l ?_
                simp -failIfUnchanged only [↓RA, RB, RS, fx279, p1, p2, p3, p4, reduceIte, p5, p6, p7, p8, c1, c2, c3, c4, c5, c6]
            · simp -failIfUnchanged only [↓RA, RB, RS, fx279, p1, p2, p3, p4, reduceIte, p5, p6, p7, p8, c1, c2, c3, c4]
              refine CondH.ff (decide_eq_false (by omega)) (fun c7 => ?_)
              simp -failIfUnchanged only [↓RA, RB, RS, fx279, p1, p2, p3, p4, reduceIte, p5, p6, p7, p8, c1, c2, c3, c4, c7]
              have h := run_some h
              obtain rfl : _ = r := h
              refine FinH.l ?_
              simp -failIfUnchanged only [↓RA, RB, RS, fx279, p1, p2, p3, p4, reduceIte, p5, p6, p7, p8, c1, c2, c3, c4, c7]
          · replace h := run_f c4 h
            simp -failIfUnchanged only [↓RA, RB, RS, fx279, p1, p2, p3, p4, reduceIte, p5, p6, p7, p8, c1, c2, c3, c4]
            have h := run_some h
            obtain rfl : _ = r := h
            refine FinH.l ?_
            simp -failIfUnchanged only [↓RA, RB, RS, fx279, p1, p2, p3, p4, reduceIte, p5, p6, p7, p8, c1, c2, c3, c4]
        · replace h := run_f c3 h
          simp -failIfUnchanged only [↓RA, RB, RS, fx279, p1, p2, p3, p4, reduceIte, p5, p6, p7, p8, c1, c2, c3]
          have h := run_some h
          obtain rfl : _ = r := h
          refine FinH.l ?_
          simp -failIfUnchanged only [↓RA, RB, RS, fx279, p1, p2, p3, p4, reduceIte, p5, p6, p7, p8, c1, c2, c3]
      · replace h := run_f c2 h
        simp -failIfUnchanged only [↓RA, RB, RS, fx279, p1, p2, p3, p4, reduceIte, p5, p6, p7, p8, c1, c2]
        have h := run_some h
        obtain rfl : _ = r := h
        refine FinH.l ?_
        simp -failIfUnchanged only [↓RA, RB, RS, fx279, p1, p2, p3, p4, reduceIte, p5, p6, p7, p8, c1, c2]
    · replace h := run_f c1 h
      simp -failIfUnchanged only [↓RA, RB, RS, fx279, p1, p2, p3, p4, reduceIte, p5, p6, p7, p8, c1]
      have h := run_some h
      obtain rfl : _ = r := h
      refine FinH.l ?_
      simp -failIfUnchanged only [↓RA, RB, RS, fx279, p1, p2, p3, p4, reduceIte, p5, p6, p7, p8, c1]
theorem spec_l8Same_sat {a0 : Formula} {a1 : Formula} {r : Bool} (h : spec_l8Same a0 a1 = some r) : Sat Try.prog 279 [((Formula.pv false) a0), ((Formula.pv false) a1)] (B r) := by
  obtain ⟨n, hn⟩ := lim_some h
  exact (spec_l8SameN_sat n) _ _ _ hn

def fx251 := And.intro @ty_3 <| And.intro @zc_3 <| And.intro @z_3 <| And.intro @ty_119 <| And.intro @zc_119 <| And.intro @z_119 <| And.intro @es_119 <| And.intro @eb_119 <| And.intro @sl_119 <| And.intro @is_119 <| And.intro @el_119 <| And.intro @ze_119 <| And.intro @ez_119 <| And.intro @ty_121 <| And.intro @zc_121 <| And.intro @z_121 <| And.intro @fo_121_0 <| And.intro @fi_121_0 <| And.intro @ft_121_0 <| And.intro @fo_121_1 <| And.intro @fi_121_1 <| And.intro @ft_121_1 <| And.intro @fo_121_2 <| And.intro @fi_121_2 <| And.intro @ft_121_2 <| And.intro @fo_121_3 <| And.intro @fi_121_3 <| And.intro @ft_121_3 <| And.intro @lay_121 <| @mixedT
set_option maxHeartbeats 4000000 in
theorem spec_l18Has_sat {a0 : List Formula} {a1 : Formula}  {r : Bool} (h : spec_l18Has a0 a1 = some r) : Sat Try.prog 251 [(.sl false 5 (a0.map (Formula.pv false))), ((Formula.pv false) a1)] (B r) := by
  replace h := Run.of h
  unfold spec_l18Has at h
  refine Sat.of_m (nt := 18) (rs := [.tmp 4]) (n := 100000) Try.func251 rfl rfl rfl rfl (by simp) ?_
  simp -failIfUnchanged only [↓RA, RB, RS, fx251, p1, p2, p3, p4, reduceIte, p5, p6, p7, p8]
  repeat (first | with_reducible refine noR_and (by repeat (first | exact noR_empty _ _ | exact noR_nilS _ _ | refine noR_mk _ _ _ _ _ rfl ?_ | refine noR_mkS _ _ _ _ _ rfl ?_)) ?_ | with_reducible refine noC_and (by repeat (first | exact noC_empty _ _ (by simp -failIfUnchanged only [↓RA, RB, RS, fx251, p1, p2, p3, p4, reduceIte, p5, p6, p7, p8]) | exact noC_nilS _ _ (by simp -failIfUnchanged only [↓RA, RB, RS, fx251, p1, p2, p3, p4, reduceIte, p5, p6, p7, p8]) | refine noC_mk _ _ _ _ _ rfl ?_ | refine noC_mkS _ _ _ _ _ rfl ?_)) ?_ | with_reducible refine and_ac ?_ | with_reducible refine And.intro (a := _ = List.range _) (by rfl) ?_)
  refine Mg.know_sl (b := false) (sz := 5) (es := a0.map (Formula.pv false)) 0 (by simp -failIfUnchanged only [↓RA, RB, RS, fx251, p1, p2, p3, p4, reduceIte, p5, p6, p7, p8]) fun hl0 => ?_; rw [List.length_map] at hl0
  replace h := run_loop h
  refine Mg.forN h (fun i2 s2 => [(0, .val (.pv (.sl false 5 (a0.map (Formula.pv false))))), (3, .box (.pv ((Formula.pv false) a1))), (5, .val (.pv (I (i2 : Int))))]) (fun i2 s2 => []) (St.le_mk2 (by simp -failIfUnchanged only [↓RA, RB, RS, fx251, p1, p2, p3, p4, reduceIte, p5, p6, p7, p8])) (fun i2 s2 hi h => ?_) (fun s2 h => ?_)
  · have w2 := wrap_succ (i := i2) (by omega)
    simp -failIfUnchanged only [↓RA, RB, RS, fx251, p1, p2, p3, p4, reduceIte, p5, p6, p7, p8]
    refine CondH.tt (decide_eq_true (by omega)) (fun c1 => ?_)
    simp -failIfUnchanged only [↓RA, RB, RS, fx251, p1, p2, p3, p4, reduceIte, p5, p6, p7, p8, c1]
    obtain ⟨v14, hv14, h⟩ := run_bind h
    refine IdxH.mk (f := (Formula.pv false)) hv14 ?_ ?_ <;> simp -failIfUnchanged only [↓RA, RB, RS, fx251, p1, p2, p3, p4, reduceIte, p5, p6, p7, p8, c1]
    obtain ⟨v17, hv17, h⟩ := run_bind h
    refine CallH.mk [false, false] (spec_l8Same_sat hv17) ?_ ?_ <;> simp -failIfUnchanged only [↓RA, RB, RS, fx251, p1, p2, p3, p4, reduceIte, p5, p6, p7, p8, c1]
    refine And.intro (DrawH.none (by rfl) (by first | rfl | (simp -failIfUnchanged only [↓RA, RB, RS, fx251, p1, p2, p3, p4, reduceIte, p5, p6, p7, p8] <;> rfl)) (by first | rfl | (simp -failIfUnchanged only [↓RA, RB, RS, fx251, p1, p2, p3, p4, reduceIte, p5, p6, p7, p8] <;> rfl)) (by first | rfl | (simp -failIfUnchanged only [↓RA, RB, RS, fx251, p1, p2, p3, p4, reduceIte, p5, p6, p7, p8] <;> rfl))) ?_
    simp -failIfUnchanged only [↓RA, RB, RS, fx251, p1, p2, p3, p4, reduceIte, p5, p6, p7, p8, c1]
    refine CondH.mk (fun c2 => ?_) (fun c2 => ?_)
    · replace h := run_t c2 h
      simp -failIfUnchanged only [↓RA, RB, RS, fx251, p1, p2, p3, p4, reduceIte, p5, p6, p7, p8, c1, c2]
      have h := run_some h
      obtain rfl : _ = r := h
      refine FinH.l ?_
      simp -failIfUnchanged only [↓RA, RB, RS, fx251, p1, p2, p3, p4, reduceIte, p5, p6, p7, p8, c1, c2]
    · replace h := run_f c2 h
      simp -failIfUnchanged only [↓RA, RB, RS, fx251, p1, p2, p3, p4, reduceIte, p5, p6, p7, p8, c1, c2]
      have h := run_some h
      refine RdH.mk ⟨_, h, ?_⟩
      refine St.le_mk2 ?_
      simp -failIfUnchanged only [↓RA, RB, RS, fx251, p1, p2, p3, p4, reduceIte, p5, p6, p7, p8, c1, c2, w2]
  · simp -failIfUnchanged only [↓RA, RB, RS, fx251, p1, p2, p3, p4, reduceIte, p5, p6, p7, p8]
    refine CondH.ff (decide_eq_false (by omega)) (fun c3 => ?_)
    simp -failIfUnchanged only [↓RA, RB, RS, fx251, p1, p2, p3, p4, reduceIte, p5, p6, p7, p8, c3]
    have h := run_some h
    obtain rfl : _ = r := h
    refine FinH.l ?_
    simp -failIfUnchanged only [↓RA, RB, RS, fx251, p1, p2, p3, p4, reduceIte, p5, p6, p7, p8, c3]

def fx159 := And.intro @ty_3 <| And.intro @zc_3 <| And.intro @z_3 <| And.intro @ty_119 <| And.intro @zc_119 <| And.intro @z_119 <| And.intro @es_119 <| And.intro @eb_119 <| And.intro @sl_119 <| And.intro @is_119 <| And.intro @el_119 <| And.intro @ze_119 <| And.intro @ez_119 <| And.intro @ty_121 <| And.intro @zc_121 <| And.intro @z_121 <| And.intro @fo_121_0 <| And.intro @fi_121_0 <| And.intro @ft_121_0 <| And.intro @fo_121_1 <| And.intro @fi_121_1 <| And.intro @ft_121_1 <| And.intro @fo_121_2 <| And.intro @fi_121_2 <| And.intro @ft_121_2 <| And.intro @fo_121_3 <| And.intro @fi_121_3 <| And.intro @ft_121_3 <| @lay_121
set_option maxHeartbeats 4000000 in
theorem spec_l21IntoN_sat (n : Nat) : (∀ (a0 : List Formula) (a1 : Formula) (r : List Formula), spec_l21IntoN n a0 a1 = some r → Sat Try.prog 159 [(.sl true 5 (a0.map (Formula.pv false))), ((Formula.pv false) a1)] (.sl true 5 (r.map (Formula.pv false)))) := by
  induction n with
  | zero => exact fun _ _ _ h => by simp [spec_l21IntoN] at h
  | succ n ih =>
    refine fun a0 a1 r h => ?_
    replace h := Run.of h
    rw [spec_l21IntoN] at h
    refine Sat.of_m (nt := 36) (rs := [.tmp 4]) (n := 100000) Try.func159 rfl rfl rfl rfl (by simp) ?_
    simp -failIfUnchanged only [↓RA, RB, RS, fx159, p1, p2, p3, p4, reduceIte, p5, p6, p7, p8]
    repeat (first | with_reducible refine noR_and (by repeat (first | exact noR_empty _ _ | exact noR_nilS _ _ | refine noR_mk _ _ _ _ _ rfl ?_ | refine noR_mkS _ _ _ _ _ rfl ?_)) ?_ | with_reducible refine noC_and (by repeat (first | exact noC_empty _ _ (by simp -failIfUnchanged only [↓RA, RB, RS, fx159, p1, p2, p3, p4, reduceIte, p5, p6, p7, p8]) | exact noC_nilS _ _ (by simp -failIfUnchanged only [↓RA, RB, RS, fx159, p1, p2, p3, p4, reduceIte, p5, p6, p7, p8]) | refine noC_mk _ _ _ _ _ rfl ?_ | refine noC_mkS _ _ _ _ _ rfl ?_)) ?_ | with_reducible refine and_ac ?_ | with_reducible refine And.intro (a := _ = List.range _) (by rfl) ?_)
    refine CondH.mk (fun c1 => ?_) (fun c1 => ?_)
    · replace h := run_t c1 h
      simp -failIfUnchanged only [↓RA, RB, RS, fx159, p1, p2, p3, p4, reduceIte, p5, p6, p7, p8, c1]
      obtain ⟨v15, hv15, h⟩ := run_bind h
      refine CallH.mk [false, false] (spec_l18Has_sat hv15) ?_ ?_ <;> simp -failIfUnchanged only [↓RA, RB, RS, fx159, p1, p2, p3, p4, reduceIte, p5, p6, p7, p8, c1]
      refine CondH.mk (fun c2 => ?_) (fun c2 => ?_)
      · replace h := run_t c2 h
        simp -failIfUnchanged only [↓RA, RB, RS, fx159, p1, p2, p3, p4, reduceIte, p5, p6, p7, p8, c1, c2]
        have h := run_some h
        obtain rfl : _ = r := h
        refine FinH.l ?_
        simp -failIfUnchanged only [↓RA, RB, RS, fx159, p1, p2, p3, p4, reduceIte, p5, p6, p7, p8, c1, c2]
      · replace h := run_f c2 h
        simp -failIfUnchanged only [↓RA, RB, RS, fx159, p1, p2, p3, p4, reduceIte, p5, p6, p7, p8, c1, c2]
        repeat (first | with_reducible refine noR_and (by repeat (first | exact noR_empty _ _ | exact noR_nilS _ _ | refine noR_mk _ _ _ _ _ rfl ?_ | refine noR_mkS _ _ _ _ _ rfl ?_)) ?_ | with_reducible refine noC_and (by repeat (first | exact noC_empty _ _ (by simp -failIfUnchanged only [↓RA, RB, RS, fx159, p1, p2, p3, p4, reduceIte, p5, p6, p7, p8]) | exact noC_nilS _ _ (by simp -failIfUnchanged only [↓RA, RB, RS, fx159, p1, p2, p3, p4, reduceIte, p5, p6, p7, p8]) | refine noC_mk _ _ _ _ _ rfl ?_ | refine noC_mkS _ _ _ _ _ rfl ?_)) ?_ | with_reducible refine and_ac ?_ | with_reducible refine And.intro (a := _ = List.range _) (by rfl) ?_)
        obtain ⟨v20, hv20, h⟩ := run_bind h
        refine AppH.mk (f := (Formula.pv false)) (fun a => Formula.psize _ a) hv20 ?_ ?_ ?_ <;> simp -failIfUnchanged only [↓RA, RB, RS, fx159, p1, p2, p3, p4, reduceIte, p5, p6, p7, p8, c1, c2]
        repeat (first | with_reducible refine noR_and (by repeat (first | exact noR_empty _ _ | exact noR_nilS _ _ | refine noR_mk _ _ _ _ _ rfl ?_ | refine noR_mkS _ _ _ _ _ rfl ?_)) ?_ | with_reducible refine noC_and (by repeat (first | exact noC_empty _ _ (by simp -failIfUnchanged only [↓RA, RB, RS, fx159, p1, p2, p3, p4, reduceIte, p5, p6, p7, p8]) | exact noC_nilS _ _ (by simp -failIfUnchanged only [↓RA, RB, RS, fx159, p1, p2, p3, p4, reduceIte, p5, p6, p7, p8]) | refine noC_mk _ _ _ _ _ rfl ?_ | refine noC_mkS _ _ _ _ _ rfl ?_)) ?_ | with_reducible refine and_ac ?_ | with_reducible refine And.intro (a := _ = List.range _) (by rfl) ?_)
        have h := run_some h
        obtain rfl : _ = r := h
        refine FinH.l ?_
        simp -failIfUnchanged only [↓RA, RB, RS, fx159, p1, p2, p3, p4, reduceIte, p5, p6, p7, p8, c1, c2]
    · replace h := run_f c1 h
      simp -failIfUnchanged only [↓RA, RB, RS, fx159, p1, p2, p3, p4, reduceIte, p5, p6, p7, p8, c1]
      obtain ⟨v11, hv11, h⟩ := run_bind h
      refine CallH.mk [false] (spec_l17Quantifier_sat hv11) ?_ ?_ <;> simp -failIfUnchanged only [↓RA, RB, RS, fx159, p1, p2, p3, p4, reduceIte, p5, p6, p7, p8, c1]
      refine CondH.mk (fun c3 => ?_) (fun c3 => ?_)
      · replace h := run_t c3 h
        simp -failIfUnchanged only [↓RA, RB, RS, fx159, p1, p2, p3, p4, reduceIte, p5, p6, p7, p8, c1, c3]
        obtain ⟨v15, hv15, h⟩ := run_bind h
        refine CallH.mk [false, false] (spec_l18Has_sat hv15) ?_ ?_ <;> simp -failIfUnchanged only [↓RA, RB, RS, fx159, p1, p2, p3, p4, reduceIte, p5, p6, p7, p8, c1, c3]
        refine CondH.mk (fun c4 => ?_) (fun c4 => ?_)
        · replace h := run_t c4 h
          simp -failIfUnchanged only [↓RA, RB, RS, fx159, p1, p2, p3, p4, reduceIte, p5, p6, p7, p8, c1, c3, c4]
          have h := run_some h
          obtain rfl : _ = r := h
          refine FinH.l ?_
          simp -failIfUnchanged only [↓RA, RB, RS, fx159, p1, p2, p3, p4, reduceIte, p5, p6, p7, p8, c1, c3, c4]
        · replace h := run_f c4 h
          simp -failIfUnchanged only [↓RA, RB, RS, fx159, p1, p2, p3, p4, reduceIte, p5, p6, p7, p8, c1, c3, c4]
          repeat (first | with_reducible refine noR_and (by repeat (first | exact noR_empty _ _ | exact noR_nilS _ _ | refine noR_mk _ _ _ _ _ rfl ?_ | refine noR_mkS _ _ _ _ _ rfl ?_)) ?_ | with_reducible refine noC_and (by repeat (first | exact noC_empty _ _ (by simp -failIfUnchanged only [↓RA, RB, RS, fx159, p1, p2, p3, p4, reduceIte, p5, p6, p7, p8]) | exact noC_nilS _ _ (by simp -failIfUnchanged only [↓RA, RB, RS, fx159, p1, p2, p3, p4, reduceIte, p5, p6, p7, p8]) | refine noC_mk _ _ _ _ _ rfl ?_ | refine noC_mkS _ _ _ _ _ rfl ?_)) ?_ | with_reducible refine and_ac ?_ | with_reducible refine And.intro (a := _ = List.range _) (by rfl) ?_)
          obtain ⟨v20, hv20, h⟩ := run_bind h
          refine AppH.mk (f := (Formula.pv false)) (fun a => Formula.psize _ a) hv20 ?_ ?_ ?_ <;> simp -failIfUnchanged only [↓RA, RB, RS, fx159, p1, p2, p3, p4, reduceIte, p5, p6, p7, p8, c1, c3, c4]
          repeat (first | with_reducible refine noR_and (by repeat (first | exact noR_empty _ _ | exact noR_nilS _ _ | refine noR_mk _ _ _ _ _ rfl ?_ | refine noR_mkS _ _ _ _ _ rfl ?_)) ?_ | with_reducible refine noC_and (by repeat (first | exact noC_empty _ _ (by simp -failIfUnchanged only [↓RA, RB, RS, fx159, p1, p2, p3, p4, reduceIte, p5, p6, p7, p8]) | exact noC_nilS _ _ (by simp -failIfUnchanged only [↓RA, RB, RS, fx159, p1, p2, p3, p4, reduceIte, p5, p6, p7, p8]) | refine noC_mk _ _ _ _ _ rfl ?_ | refine noC_mkS _ _ _ _ _ rfl ?_)) ?_ | with_reducible refine and_ac ?_ | with_reducible refine And.intro (a := _ = List.range _) (by rfl) ?_)
          have h := run_some h
          obtain rfl : _ = r := h
          refine FinH.l ?_
          simp -failIfUnchanged only [↓RA, RB, RS, fx159, p1, p2, p3, p4, reduceIte, p5, p6, p7, p8, c1, c3, c4]
      · replace h := run_f c3 h
        simp -failIfUnchanged only [↓RA, RB, RS, fx159, p1, p2, p3, p4, reduceIte, p5, p6, p7, p8, c1, c3]
        refine Mg.know_val2 (b := false) (sz := 5) (es := a1.Parts.map (Formula.pv false)) (x := (.pv ((Formula.pv false) a1))) 1 [3] (by simp -failIfUnchanged only [↓RA, RB, RS, fx159, p1, p2, p3, p4, reduceIte, p5, p6, p7, p8, c1, c3]) fun hl1 => ?_; rw [List.length_map] at hl1
        replace h := run_loop h
        refine Mg.forN h (fun i6 s6 => [(0, .val (.own 9000)), (3, .box (.pv ((Formula.pv false) a1))), (5, .val (.pv (I (i6 : Int))))]) (fun i6 s6 => [(9000, (5, s6.map (Formula.pv false)))]) (St.le_mk2 (by simp -failIfUnchanged only [↓RA, RB, RS, fx159, p1, p2, p3, p4, reduceIte, p5, p6, p7, p8, c1, c3])) (fun i6 s6 hi h => ?_) (fun s6 h => ?_)
        · have w6 := wrap_succ (i := i6) (by omega)
          simp -failIfUnchanged only [↓RA, RB, RS, fx159, p1, p2, p3, p4, reduceIte, p5, p6, p7, p8, c1, c3]
          refine CondH.tt (decide_eq_true (by omega)) (fun c5 => ?_)
          simp -failIfUnchanged only [↓RA, RB, RS, fx159, p1, p2, p3, p4, reduceIte, p5, p6, p7, p8, c1, c3, c5]
          obtain ⟨v32, hv32, h⟩ := run_bind h
          refine IdxH.mk (f := (Formula.pv false)) hv32 ?_ ?_ <;> simp -failIfUnchanged only [↓RA, RB, RS, fx159, p1, p2, p3, p4, reduceIte, p5, p6, p7, p8, c1, c3, c5]
          obtain ⟨v34, hv34, h⟩ := run_bind h
          refine CallH.mk [true, false] (ih _ _ _ hv34) ?_ ?_ <;> simp -failIfUnchanged only [↓RA, RB, RS, fx159, p1, p2, p3, p4, reduceIte, p5, p6, p7, p8, c1, c3, c5]
          repeat (first | with_reducible refine noR_and (by repeat (first | exact noR_empty _ _ | exact noR_nilS _ _ | refine noR_mk _ _ _ _ _ rfl ?_ | refine noR_mkS _ _ _ _ _ rfl ?_)) ?_ | with_reducible refine noC_and (by repeat (first | exact noC_empty _ _ (by simp -failIfUnchanged only [↓RA, RB, RS, fx159, p1, p2, p3, p4, reduceIte, p5, p6, p7, p8]) | exact noC_nilS _ _ (by simp -failIfUnchanged only [↓RA, RB, RS, fx159, p1, p2, p3, p4, reduceIte, p5, p6, p7, p8]) | refine noC_mk _ _ _ _ _ rfl ?_ | refine noC_mkS _ _ _ _ _ rfl ?_)) ?_ | with_reducible refine and_ac ?_ | with_reducible refine And.intro (a := _ = List.range _) (by rfl) ?_)
          have h := run_some h
          refine RdH.mk ⟨_, h, ?_⟩
          refine St.le_trans (St.le_mk (S := [(0, .val (.own 544)), (3, .box (.pv ((Formula.pv false) a1))), (5, .val (.pv (I (IntKind.i64.wrap ((i6 : Int) + (1 : Int))))))]) (O := [(544, (5, v34.map (Formula.pv false)))]) (by simp -failIfUnchanged only [↓RA, RB, RS, fx159, p1, p2, p3, p4, reduceIte, p5, p6, p7, p8, c1, c3, c5, w6]) (by simp -failIfUnchanged only [↓RA, RB, RS, fx159, p1, p2, p3, p4, reduceIte, p5, p6, p7, p8, c1, c3, c5, w6])) ?_
          refine St.le_rn 544 9000 (by decide) (by repeat (first | exact noC_empty _ _ (by simp -failIfUnchanged only [↓RA, RB, RS, fx159, p1, p2, p3, p4, reduceIte, p5, p6, p7, p8]) | exact noC_nilS _ _ (by simp -failIfUnchanged only [↓RA, RB, RS, fx159, p1, p2, p3, p4, reduceIte, p5, p6, p7, p8]) | refine noC_mk _ _ _ _ _ rfl ?_ | refine noC_mkS _ _ _ _ _ rfl ?_)) ?_
          refine St.le_mk2 ?_
          simp -failIfUnchanged only [↓RA, RB, RS, fx159, p1, p2, p3, p4, reduceIte, p5, p6, p7, p8, c1, c3, c5, w6]
        · simp -failIfUnchanged only [↓RA, RB, RS, fx159, p1, p2, p3, p4, reduceIte, p5, p6, p7, p8, c1, c3]
          refine CondH.ff (decide_eq_false (by omega)) (fun c6 => ?_)
          simp -failIfUnchanged only [↓RA, RB, RS, fx159, p1, p2, p3, p4, reduceIte, p5, p6, p7, p8, c1, c3, c6]
          have h := run_some h
          obtain rfl : _ = r := h
          refine FinH.l ?_
          simp -failIfUnchanged only [↓RA, RB, RS, fx159, p1, p2, p3, p4, reduceIte, p5, p6, p7, p8, c1, c3, c6]
theorem spec_l21Into_sat {a0 : List Formula} {a1 : Formula} {r : List Formula} (h : spec_l21Into a0 a1 = some r) : Sat Try.prog 159 [(.sl true 5 (a0.map (Formula.pv false))), ((Formula.pv false) a1)] (.sl true 5 (r.map (Formula.pv false))) := by
  obtain ⟨n, hn⟩ := lim_some h
  exact (spec_l21IntoN_sat n) _ _ _ hn

def fx252 := And.intro @ty_3 <| And.intro @zc_3 <| And.intro @z_3 <| And.intro @ty_4 <| And.intro @zc_4 <| And.intro @z_4 <| And.intro @u_4 <| And.intro @ty_119 <| And.intro @zc_119 <| And.intro @z_119 <| And.intro @es_119 <| And.intro @eb_119 <| And.intro @sl_119 <| And.intro @is_119 <| And.intro @el_119 <| And.intro @ze_119 <| And.intro @ez_119 <| And.intro @ty_121 <| And.intro @zc_121 <| And.intro @z_121 <| And.intro @fo_121_0 <| And.intro @fi_121_0 <| And.intro @ft_121_0 <| And.intro @fo_121_1 <| And.intro @fi_121_1 <| And.intro @ft_121_1 <| And.intro @fo_121_2 <| And.intro @fi_121_2 <| And.intro @ft_121_2 <| And.intro @fo_121_3 <| And.intro @fi_121_3 <| And.intro @ft_121_3 <| And.intro @lay_121 <| And.intro @ty_196 <| And.intro @zc_196 <| And.intro @z_196 <| And.intro @uk_3 <| And.intro @uk_196 <| @mixedT
set_option maxHeartbeats 4000000 in
theorem spec_l21HoldsN_sat (n : Nat) : (∀ (a0 : Formula) (a1 : List Formula) (a2 : Int) (r : Bool), spec_l21HoldsN n a0 a1 a2 = some r → Sat Try.prog 252 [((Formula.pv false) a0), (.sl false 5 (a1.map (Formula.pv false))), (I a2)] (B r)) := by
  induction n with
  | zero => exact fun _ _ _ _ h => by simp [spec_l21HoldsN] at h
  | succ n ih =>
    refine fun a0 a1 a2 r h => ?_
    replace h := Run.of h
    rw [spec_l21HoldsN] at h
    refine Sat.of_m (nt := 99) (rs := [.tmp 6]) (n := 100000) Try.func252 rfl rfl rfl rfl (by simp) ?_
    simp -failIfUnchanged only [↓RA, RB, RS, fx252, p1, p2, p3, p4, reduceIte, p5, p6, p7, p8]
    repeat (first | with_reducible refine noR_and (by repeat (first | exact noR_empty _ _ | exact noR_nilS _ _ | refine noR_mk _ _ _ _ _ rfl ?_ | refine noR_mkS _ _ _ _ _ rfl ?_)) ?_ | with_reducible refine noC_and (by repeat (first | exact noC_empty _ _ (by simp -failIfUnchanged only [↓RA, RB, RS, fx252, p1, p2, p3, p4, reduceIte, p5, p6, p7, p8]) | exact noC_nilS _ _ (by simp -failIfUnchanged only [↓RA, RB, RS, fx252, p1, p2, p3, p4, reduceIte, p5, p6, p7, p8]) | refine noC_mk _ _ _ _ _ rfl ?_ | refine noC_mkS _ _ _ _ _ rfl ?_)) ?_ | with_reducible refine and_ac ?_ | with_reducible refine And.intro (a := _ = List.range _) (by rfl) ?_)
    refine CondH.mk (fun c1 => ?_) (fun c1 => ?_)
    · replace h := run_t c1 h
      simp -failIfUnchanged only [↓RA, RB, RS, fx252, p1, p2, p3, p4, reduceIte, p5, p6, p7, p8, c1]
      have h := run_some h
      obtain rfl : _ = r := h
      refine FinH.l ?_
      simp -failIfUnchanged only [↓RA, RB, RS, fx252, p1, p2, p3, p4, reduceIte, p5, p6, p7, p8, c1]
    · replace h := run_f c1 h
      simp -failIfUnchanged only [↓RA, RB, RS, fx252, p1, p2, p3, p4, reduceIte, p5, p6, p7, p8, c1]
      refine CondH.mk (fun c2 => ?_) (fun c2 => ?_)
      · replace h := run_t c2 h
        simp -failIfUnchanged only [↓RA, RB, RS, fx252, p1, p2, p3, p4, reduceIte, p5, p6, p7, p8, c1, c2]
        have h := run_some h
        obtain rfl : _ = r := h
        refine FinH.l ?_
        simp -failIfUnchanged only [↓RA, RB, RS, fx252, p1, p2, p3, p4, reduceIte, p5, p6, p7, p8, c1, c2]
      · replace h := run_f c2 h
        simp -failIfUnchanged only [↓RA, RB, RS, fx252, p1, p2, p3, p4, reduceIte, p5, p6, p7, p8, c1, c2]
        refine CondH.mk (fun c3 => ?_) (fun c3 => ?_)
        · replace h := run_t c3 h
          simp -failIfUnchanged only [↓RA, RB, RS, fx252, p1, p2, p3, p4, reduceIte, p5, p6, p7, p8, c1, c2, c3]
          obtain ⟨v20, hv20, h⟩ := run_bind h
          refine IdxH.mk (f := (Formula.pv false)) hv20 ?_ ?_ <;> simp -failIfUnchanged only [↓RA, RB, RS, fx252, p1, p2, p3, p4, reduceIte, p5, p6, p7, p8, c1, c2, c3]
          obtain ⟨v24, hv24, h⟩ := run_bind h
          refine CallH.mk [false, false, false] (ih _ _ _ _ hv24) ?_ ?_ <;> simp -failIfUnchanged only [↓RA, RB, RS, fx252, p1, p2, p3, p4, reduceIte, p5, p6, p7, p8, c1, c2, c3]
          have h := run_some h
          obtain rfl : _ = r := h
          refine FinH.l ?_
          simp -failIfUnchanged only [↓RA, RB, RS, fx252, p1, p2, p3, p4, reduceIte, p5, p6, p7, p8, c1, c2, c3]
        · replace h := run_f c3 h
          simp -failIfUnchanged only [↓RA, RB, RS, fx252, p1, p2, p3, p4, reduceIte, p5, p6, p7, p8, c1, c2, c3]
          refine CondH.mk (fun c4 => ?_) (fun c4 => ?_)
          · replace h := run_t c4 h
            simp -failIfUnchanged only [↓RA, RB, RS, fx252, p1, p2, p3, p4, reduceIte, p5, p6, p7, p8, c1, c2, c3, c4]
            obtain ⟨v30, hv30, h⟩ := run_bind h
            refine IdxH.mk (f := (Formula.pv false)) hv30 ?_ ?_ <;> simp -failIfUnchanged only [↓RA, RB, RS, fx252, p1, p2, p3, p4, reduceIte, p5, p6, p7, p8, c1, c2, c3, c4]
            obtain ⟨v34, hv34, h⟩ := run_bind h
            refine CallH.mk [false, false, false] (ih _ _ _ _ hv34) ?_ ?_ <;> simp -failIfUnchanged only [↓RA, RB, RS, fx252, p1, p2, p3, p4, reduceIte, p5, p6, p7, p8, c1, c2, c3, c4]
            refine CondH.mk (fun c5 => ?_) (fun c5 => ?_)
            · replace h := run_t c5 h
              simp -failIfUnchanged only [↓RA, RB, RS, fx252, p1, p2, p3, p4, reduceIte, p5, p6, p7, p8, c1, c2, c3, c4, c5]
              obtain ⟨v38, hv38, h⟩ := run_bind h
              refine IdxH.mk (f := (Formula.pv false)) hv38 ?_ ?_ <;> simp -failIfUnchanged only [↓RA, RB, RS, fx252, p1, p2, p3, p4, reduceIte, p5, p6, p7, p8, c1, c2, c3, c4, c5]
              obtain ⟨v42, hv42, h⟩ := run_bind h
              refine CallH.mk [false, false, false] (ih _ _ _ _ hv42) ?_ ?_ <;> simp -failIfUnchanged only [↓RA, RB, RS, fx252, p1, p2, p3, p4, reduceIte, p5, p6, p7, p8, c1, c2, c3, c4, c5]
              have h := run_some h
              obtain rfl : _ = r := h
              refine FinH.l ?_
              simp -failIfUnchanged only [↓RA, RB, RS, fx252, p1, p2, p3, p4, reduceIte, p5, p6, p7, p8, c1, c2, c3, c4, c5]
            · replace h := run_f c5 h
              simp -failIfUnchanged only [↓RA, RB, RS, fx252, p1, p2, p3, p4, reduceIte, p5, p6, p7, p8, c1, c2, c3, c4, c5]
              have h := run_some h
              obtain rfl : _ = r := h
              refine FinH.l ?_
              simp -failIfUnchanged only [↓RA, RB, RS, fx252, p1, p2, p3, p4, reduceIte, p5, p6, p7, p8, c1, c2, c3, c4, c5]
          · replace h := run_f c4 h
            simp -failIfUnchanged only [↓RA, RB, RS, fx252, p1, p2, p3, p4, reduceIte, p5, p6, p7, p8, c1, c2, c3, c4]
            refine CondH.mk (fun c6 => ?_) (fun c6 => ?_)
            · replace h := run_t c6 h
              simp -failIfUnchanged only [↓RA, RB, RS, fx252, p1, p2, p3, p4, reduceIte, p5, p6, p7, p8, c1, c2, c3, c4, c6]
              obtain ⟨v48, hv48, h⟩ := run_bind h
              refine IdxH.mk (f := (Formula.pv false)) hv48 ?_ ?_ <;> simp -failIfUnchanged only [↓RA, RB, RS, fx252, p1, p2, p3, p4, reduceIte, p5, p6, p7, p8, c1, c2, c3, c4, c6]
              obtain ⟨v52, hv52, h⟩ := run_bind h
              refine CallH.mk [false, false, false] (ih _ _ _ _ hv52) ?_ ?_ <;> simp -failIfUnchanged only [↓RA, RB, RS, fx252, p1, p2, p3, p4, reduceIte, p5, p6, p7, p8, c1, c2, c3, c4, c6]
              refine CondH.mk (fun c7 => ?_) (fun c7 => ?_)
              · replace h := run_t c7 h
                simp -failIfUnchanged only [↓RA, RB, RS, fx252, p1, p2, p3, p4, reduceIte, p5, p6, p7, p8, c1, c2, c3, c4, c6, c7]
                have h := run_some h
                obtain rfl : _ = r := h
                refine FinH.l ?_
                simp -failIfUnchanged only [↓RA, RB, RS, fx252, p1, p2, p3, p4, reduceIte, p5, p6, p7, p8, c1, c2, c3, c4, c6, c7]
              · replace h := run_f c7 h
                simp -failIfUnchanged only [↓RA, RB, RS, fx252, p1, p2, p3, p4, reduceIte, p5, p6, p7, p8, c1, c2, c3, c4, c6, c7]
                obtain ⟨v56, hv56, h⟩ := run_bind h
                refine IdxH.mk (f := (Formula.pv false)) hv56 ?_ ?_ <;> simp -failIfUnchanged only [↓RA, RB, RS, fx252, p1, p2, p3, p4, reduceIte, p5, p6, p7, p8, c1, c2, c3, c4, c6, c7]
                obtain ⟨v60, hv60, h⟩ := run_bind h
                refine CallH.mk [false, false, false] (ih _ _ _ _ hv60) ?_ ?_ <;> simp -failIfUnchanged only [↓RA, RB, RS, fx252, p1, p2, p3, p4, reduceIte, p5, p6, p7, p8, c1, c2, c3, c4, c6, c7]
                have h := run_some h
                obtain rfl : _ = r := h
                refine FinH.l ?_
                simp -failIfUnchanged only [↓RA, RB, RS, fx252, p1, p2, p3, p4, reduceIte, p5, p6, p7, p8, c1, c2, c3, c4, c6, c7]
            · replace h := run_f c6 h
              simp -failIfUnchanged only [↓RA, RB, RS, fx252, p1, p2, p3, p4, reduceIte, p5, p6, p7, p8, c1, c2, c3, c4, c6]
              refine CondH.mk (fun c8 => ?_) (fun c8 => ?_)
              · replace h := run_t c8 h
                simp -failIfUnchanged only [↓RA, RB, RS, fx252, p1, p2, p3, p4, reduceIte, p5, p6, p7, p8, c1, c2, c3, c4, c6, c8]
                obtain ⟨v66, hv66, h⟩ := run_bind h
                refine IdxH.mk (f := (Formula.pv false)) hv66 ?_ ?_ <;> simp -failIfUnchanged only [↓RA, RB, RS, fx252, p1, p2, p3, p4, reduceIte, p5, p6, p7, p8, c1, c2, c3, c4, c6, c8]
                obtain ⟨v70, hv70, h⟩ := run_bind h
                refine CallH.mk [false, false, false] (ih _ _ _ _ hv70) ?_ ?_ <;> simp -failIfUnchanged only [↓RA, RB, RS, fx252, p1, p2, p3, p4, reduceIte, p5, p6, p7, p8, c1, c2, c3, c4, c6, c8]
                refine CondH.mk (fun c9 => ?_) (fun c9 => ?_)
                · replace h := run_t c9 h
                  simp -failIfUnchanged only [↓RA, RB, RS, fx252, p1, p2, p3, p4, reduceIte, p5, p6, p7, p8, c1, c2, c3, c4, c6, c8, c9]
                  obtain ⟨v75, hv75, h⟩ := run_bind h
                  refine IdxH.mk (f := (Formula.pv false)) hv75 ?_ ?_ <;> simp -failIfUnchanged only [↓RA, RB, RS, fx252, p1, p2, p3, p4, reduceIte, p5, p6, p7, p8, c1, c2, c3, c4, c6, c8, c9]
                  obtain ⟨v79, hv79, h⟩ := run_bind h
                  refine CallH.mk [false, false, false] (ih _ _ _ _ hv79) ?_ ?_ <;> simp -failIfUnchanged only [↓RA, RB, RS, fx252, p1, p2, p3, p4, reduceIte, p5, p6, p7, p8, c1, c2, c3, c4, c6, c8, c9]
                  have h := run_some h
                  obtain rfl : _ = r := h
                  refine FinH.l ?_
                  simp -failIfUnchanged only [↓RA, RB, RS, fx252, p1, p2, p3, p4, reduceIte, p5, p6, p7, p8, c1, c2, c3, c4, c6, c8, c9]
                · replace h := run_f c9 h
                  simp -failIfUnchanged only [↓RA, RB, RS, fx252, p1, p2, p3, p4, reduceIte, p5, p6, p7, p8, c1, c2, c3, c4, c6, c8, c9]
                  have h := run_some h
                  obtain rfl : _ = r := h
                  refine FinH.l ?_
                  simp -failIfUnchanged only [↓RA, RB, RS, fx252, p1, p2, p3, p4, reduceIte, p5, p6, p7, p8, c1, c2, c3, c4, c6, c8, c9]
              · replace h := run_f c8 h
                simp -failIfUnchanged only [↓RA, RB, RS, fx252, p1, p2, p3, p4, reduceIte, p5, p6, p7, p8, c1, c2, c3, c4, c6, c8]
                refine Mg.know_sl (b := false) (sz := 5) (es := a1.map (Formula.pv false)) 1 (by simp -failIfUnchanged only [↓RA, RB, RS, fx252, p1, p2, p3, p4, reduceIte, p5, p6, p7, p8, c1, c2, c3, c4, c6, c8]) fun hl1 => ?_; rw [List.length_map] at hl1
                replace h := run_loop h
                refine Mg.forN h (fun i14 s14 => [(1, .val (.pv (.sl false 5 (a1.map (Formula.pv false))))), (2, .val (.pv (I a2))), (3, .box (.pv ((Formula.pv false) a0))), (7, .val (.pv (I (i14 : Int))))]) (fun i14 s14 => []) (St.le_mk2 (by simp -failIfUnchanged only [↓RA, RB, RS, fx252, p1, p2, p3, p4, reduceIte, p5, p6, p7, p8, c1, c2, c3, c4, c6, c8])) (fun i14 s14 hi h => ?_) (fun s14 h => ?_)
                · have w14 := wrap_succ (i := i14) (by omega)
                  simp -failIfUnchanged only [↓RA, RB, RS, fx252, p1, p2, p3, p4, reduceIte, p5, p6, p7, p8, c1, c2, c3, c4, c6, c8]
                  refine CondH.tt (decide_eq_true (by omega)) (fun c10 => ?_)
                  simp -failIfUnchanged only [↓RA, RB, RS, fx252, p1, p2, p3, p4, reduceIte, p5, p6, p7, p8, c1, c2, c3, c4, c6, c8, c10]
                  obtain ⟨v89, hv89, h⟩ := run_bind h
                  refine IdxH.mk (f := (Formula.pv false)) hv89 ?_ ?_ <;> simp -failIfUnchanged only [↓RA, RB, RS, fx252, p1, p2, p3, p4, reduceIte, p5, p6, p7, p8, c1, c2, c3, c4, c6, c8, c10]
                  obtain ⟨v92, hv92, h⟩ := run_bind h
                  refine CallH.mk [false, false] (spec_l8Same_sat hv92) ?_ ?_ <;> simp -failIfUnchanged only [↓RA, RB, RS, fx252, p1, p2, p3, p4, reduceIte, p5, p6, p7, p8, c1, c2, c3, c4, c6, c8, c10]
                  refine And.intro (DrawH.none (by rfl) (by first | rfl | (simp -failIfUnchanged only [↓RA, RB, RS, fx252, p1, p2, p3, p4, reduceIte, p5, p6, p7, p8] <;> rfl)) (by first | rfl | (simp -failIfUnchanged only [↓RA, RB, RS, fx252, p1, p2, p3, p4, reduceIte, p5, p6, p7, p8] <;> rfl)) (by first | rfl | (simp -failIfUnchanged only [↓RA, RB, RS, fx252, p1, p2, p3, p4, reduceIte, p5, p6, p7, p8] <;> rfl))) ?_
                  simp -failIfUnchanged only [↓RA, RB, RS, fx252, p1, p2, p3, p4, reduceIte, p5, p6, p7, p8, c1, c2, c3, c4, c6, c8, c10]
                  refine CondH.mk (fun c11 => ?_) (fun c11 => ?_)
                  · replace h := run_t c11 h
                    simp -failIfUnchanged only [↓RA, RB, RS, fx252, p1, p2, p3, p4, reduceIte, p5, p6, p7, p8, c1, c2, c3, c4, c6, c8, c10, c11]
                    obtain ⟨v96, hv96, h⟩ := run_bind h
                    refine ShrH.mk hv96 ?_
                    simp -failIfUnchanged only [↓RA, RB, RS, fx252, p1, p2, p3, p4, reduceIte, p5, p6, p7, p8, c1, c2, c3, c4, c6, c8, c10, c11]
                    have h := run_some h
                    obtain rfl : _ = r := h
                    refine FinH.l ?_
                    simp -failIfUnchanged only [↓RA, RB, RS, fx252, p1, p2, p3, p4, reduceIte, p5, p6, p7, p8, c1, c2, c3, c4, c6, c8, c10, c11]
                  · replace h := run_f c11 h
                    simp -failIfUnchanged only [↓RA, RB, RS, fx252, p1, p2, p3, p4, reduceIte, p5, p6, p7, p8, c1, c2, c3, c4, c6, c8, c10, c11]
                    have h := run_some h
                    refine RdH.mk ⟨_, h, ?_⟩
                    refine St.le_mk2 ?_
                    simp -failIfUnchanged only [↓RA, RB, RS, fx252, p1, p2, p3, p4, reduceIte, p5, p6, p7, p8, c1, c2, c3, c4, c6, c8, c10, c11, w14]
                · simp -failIfUnchanged only [↓RA, RB, RS, fx252, p1, p2, p3, p4, reduceIte, p5, p6, p7, p8, c1, c2, c3, c4, c6, c8]
                  refine CondH.ff (decide_eq_false (by omega)) (fun c12 => ?_)
                  simp -failIfUnchanged only [↓RA, RB, RS, fx252, p1, p2, p3, p4, reduceIte, p5, p6, p7, p8, c1, c2, c3, c4, c6, c8, c12]
                  have h := run_some h
                  obtain rfl : _ = r := h
                  refine FinH.l ?_
                  simp -failIfUnchanged only [↓RA, RB, RS, fx252, p1, p2, p3, p4, reduceIte, p5, p6, p7, p8, c1, c2, c3, c4, c6, c8, c12]
theorem spec_l21Holds_sat {a0 : Formula} {a1 : List Formula} {a2 : Int} {r : Bool} (h : spec_l21Holds a0 a1 a2 = some r) : Sat Try.prog 252 [((Formula.pv false) a0), (.sl false 5 (a1.map (Formula.pv false))), (I a2)] (B r) := by
  obtain ⟨n, hn⟩ := lim_some h
  exact (spec_l21HoldsN_sat n) _ _ _ _ hn

def fx160 := And.intro @ty_3 <| And.intro @zc_3 <| And.intro @z_3 <| And.intro @ty_4 <| And.intro @zc_4 <| And.intro @z_4 <| And.intro @u_4 <| And.intro @ty_119 <| And.intro @zc_119 <| And.intro @z_119 <| And.intro @es_119 <| And.intro @eb_119 <| And.intro @sl_119 <| And.intro @is_119 <| And.intro @el_119 <| And.intro @ze_119 <| And.intro @ez_119 <| And.intro @ty_121 <| And.intro @zc_121 <| And.intro @z_121 <| And.intro @fo_121_0 <| And.intro @fi_121_0 <| And.intro @ft_121_0 <| And.intro @fo_121_1 <| And.intro @fi_121_1 <| And.intro @ft_121_1 <| And.intro @fo_121_2 <| And.intro @fi_121_2 <| And.intro @ft_121_2 <| And.intro @fo_121_3 <| And.intro @fi_121_3 <| And.intro @ft_121_3 <| And.intro @lay_121 <| And.intro @ty_194 <| And.intro @zc_194 <| And.intro @z_194 <| And.intro @fo_194_0 <| And.intro @fi_194_0 <| And.intro @ft_194_0 <| And.intro @fo_194_1 <| And.intro @fi_194_1 <| And.intro @ft_194_1 <| @lay_194
set_option maxHeartbeats 4000000 in
theorem spec_l21Sequent_sat {a0 : Sequent} {a1 : List Formula} {a2 : Int}  {r : Bool} (h : spec_l21Sequent a0 a1 a2 = some r) : Sat Try.prog 160 [((Sequent.pv false) a0), (.sl false 5 (a1.map (Formula.pv false))), (I a2)] (B r) := by
  replace h := Run.of h
  unfold spec_l21Sequent at h
  refine Sat.of_m (nt := 40) (rs := [.tmp 6]) (n := 100000) Try.func160 rfl rfl rfl rfl (by simp) ?_
  simp -failIfUnchanged only [↓RA, RB, RS, fx160, p1, p2, p3, p4, reduceIte, p5, p6, p7, p8]
  repeat (first | with_reducible refine noR_and (by repeat (first | exact noR_empty _ _ | exact noR_nilS _ _ | refine noR_mk _ _ _ _ _ rfl ?_ | refine noR_mkS _ _ _ _ _ rfl ?_)) ?_ | with_reducible refine noC_and (by repeat (first | exact noC_empty _ _ (by simp -failIfUnchanged only [↓RA, RB, RS, fx160, p1, p2, p3, p4, reduceIte, p5, p6, p7, p8]) | exact noC_nilS _ _ (by simp -failIfUnchanged only [↓RA, RB, RS, fx160, p1, p2, p3, p4, reduceIte, p5, p6, p7, p8]) | refine noC_mk _ _ _ _ _ rfl ?_ | refine noC_mkS _ _ _ _ _ rfl ?_)) ?_ | with_reducible refine and_ac ?_ | with_reducible refine And.intro (a := _ = List.range _) (by rfl) ?_)
  refine Mg.know_val2 (b := false) (sz := 5) (es := a0.Left.map (Formula.pv false)) (x := (.pv ((Sequent.pv false) a0))) 0 [0] (by simp -failIfUnchanged only [↓RA, RB, RS, fx160, p1, p2, p3, p4, reduceIte, p5, p6, p7, p8]) fun hl0 => ?_; rw [List.length_map] at hl0
  replace h := run_loop h
  refine Mg.forN h (fun i2 s2 => [(1, .val (.pv (.sl false 5 (a1.map (Formula.pv false))))), (2, .val (.pv (I a2))), (3, .box (.pv ((Sequent.pv false) a0))), (7, .val (.pv (I (i2 : Int))))]) (fun i2 s2 => []) (St.le_mk2 (by simp -failIfUnchanged only [↓RA, RB, RS, fx160, p1, p2, p3, p4, reduceIte, p5, p6, p7, p8])) (fun i2 s2 hi h => ?_) (fun s2 h => ?_)
  · have w2 := wrap_succ (i := i2) (by omega)
    simp -failIfUnchanged only [↓RA, RB, RS, fx160, p1, p2, p3, p4, reduceIte, p5, p6, p7, p8]
    refine CondH.tt (decide_eq_true (by omega)) (fun c1 => ?_)
    simp -failIfUnchanged only [↓RA, RB, RS, fx160, p1, p2, p3, p4, reduceIte, p5, p6, p7, p8, c1]
    obtain ⟨v19, hv19, h⟩ := run_bind h
    refine IdxH.mk (f := (Formula.pv false)) hv19 ?_ ?_ <;> simp -failIfUnchanged only [↓RA, RB, RS, fx160, p1, p2, p3, p4, reduceIte, p5, p6, p7, p8, c1]
    obtain ⟨v23, hv23, h⟩ := run_bind h
    refine CallH.mk [false, false, false] (spec_l21Holds_sat hv23) ?_ ?_ <;> simp -failIfUnchanged only [↓RA, RB, RS, fx160, p1, p2, p3, p4, reduceIte, p5, p6, p7, p8, c1]
    refine CondH.mk (fun c2 => ?_) (fun c2 => ?_)
    · replace h := run_t c2 h
      simp -failIfUnchanged only [↓RA, RB, RS, fx160, p1, p2, p3, p4, reduceIte, p5, p6, p7, p8, c1, c2]
      have h := run_some h
      refine RdH.mk ⟨_, h, ?_⟩
      refine St.le_mk2 ?_
      simp -failIfUnchanged only [↓RA, RB, RS, fx160, p1, p2, p3, p4, reduceIte, p5, p6, p7, p8, c1, c2, w2]
    · replace h := run_f c2 h
      simp -failIfUnchanged only [↓RA, RB, RS, fx160, p1, p2, p3, p4, reduceIte, p5, p6, p7, p8, c1, c2]
      have h := run_some h
      obtain rfl : _ = r := h
      refine FinH.l ?_
      simp -failIfUnchanged only [↓RA, RB, RS, fx160, p1, p2, p3, p4, reduceIte, p5, p6, p7, p8, c1, c2]
  · simp -failIfUnchanged only [↓RA, RB, RS, fx160, p1, p2, p3, p4, reduceIte, p5, p6, p7, p8]
    refine CondH.ff (decide_eq_false (by omega)) (fun c3 => ?_)
    simp -failIfUnchanged only [↓RA, RB, RS, fx160, p1, p2, p3, p4, reduceIte, p5, p6, p7, p8, c3]
    refine Mg.know_box2 (b := false) (sz := 5) (es := a0.Right.map (Formula.pv false)) (x := (.pv ((Sequent.pv false) a0))) 3 [1] (by simp -failIfUnchanged only [↓RA, RB, RS, fx160, p1, p2, p3, p4, reduceIte, p5, p6, p7, p8, c3]) fun hl3 => ?_; rw [List.length_map] at hl3
    replace h := run_loop h
    refine Mg.forN h (fun i7 s7 => [(1, .val (.pv (.sl false 5 (a1.map (Formula.pv false))))), (2, .val (.pv (I a2))), (3, .box (.pv ((Sequent.pv false) a0))), (8, .val (.pv (I (i7 : Int))))]) (fun i7 s7 => []) (St.le_mk2 (by simp -failIfUnchanged only [↓RA, RB, RS, fx160, p1, p2, p3, p4, reduceIte, p5, p6, p7, p8, c3])) (fun i7 s7 hi h => ?_) (fun s7 h => ?_)
    · have w7 := wrap_succ (i := i7) (by omega)
      simp -failIfUnchanged only [↓RA, RB, RS, fx160, p1, p2, p3, p4, reduceIte, p5, p6, p7, p8, c3]
      refine CondH.tt (decide_eq_true (by omega)) (fun c4 => ?_)
      simp -failIfUnchanged only [↓RA, RB, RS, fx160, p1, p2, p3, p4, reduceIte, p5, p6, p7, p8, c3, c4]
      obtain ⟨v35, hv35, h⟩ := run_bind h
      refine IdxH.mk (f := (Formula.pv false)) hv35 ?_ ?_ <;> simp -failIfUnchanged only [↓RA, RB, RS, fx160, p1, p2, p3, p4, reduceIte, p5, p6, p7, p8, c3, c4]
      obtain ⟨v39, hv39, h⟩ := run_bind h
      refine CallH.mk [false, false, false] (spec_l21Holds_sat hv39) ?_ ?_ <;> simp -failIfUnchanged only [↓RA, RB, RS, fx160, p1, p2, p3, p4, reduceIte, p5, p6, p7, p8, c3, c4]
      refine CondH.mk (fun c5 => ?_) (fun c5 => ?_)
      · replace h := run_t c5 h
        simp -failIfUnchanged only [↓RA, RB, RS, fx160, p1, p2, p3, p4, reduceIte, p5, p6, p7, p8, c3, c4, c5]
        have h := run_some h
        obtain rfl : _ = r := h
        refine FinH.l ?_
        simp -failIfUnchanged only [↓RA, RB, RS, fx160, p1, p2, p3, p4, reduceIte, p5, p6, p7, p8, c3, c4, c5]
      · replace h := run_f c5 h
        simp -failIfUnchanged only [↓RA, RB, RS, fx160, p1, p2, p3, p4, reduceIte, p5, p6, p7, p8, c3, c4, c5]
        have h := run_some h
        refine RdH.mk ⟨_, h, ?_⟩
        refine St.le_mk2 ?_
        simp -failIfUnchanged only [↓RA, RB, RS, fx160, p1, p2, p3, p4, reduceIte, p5, p6, p7, p8, c3, c4, c5, w7]
    · simp -failIfUnchanged only [↓RA, RB, RS, fx160, p1, p2, p3, p4, reduceIte, p5, p6, p7, p8, c3]
      refine CondH.ff (decide_eq_false (by omega)) (fun c6 => ?_)
      simp -failIfUnchanged only [↓RA, RB, RS, fx160, p1, p2, p3, p4, reduceIte, p5, p6, p7, p8, c3, c6]
      have h := run_some h
      obtain rfl : _ = r := h
      refine FinH.l ?_
      simp -failIfUnchanged only [↓RA, RB, RS, fx160, p1, p2, p3, p4, reduceIte, p5, p6, p7, p8, c3, c6]

def fx75 := And.intro @ty_3 <| And.intro @zc_3 <| And.intro @z_3 <| And.intro @ty_4 <| And.intro @zc_4 <| And.intro @z_4 <| And.intro @u_4 <| And.intro @ty_112 <| And.intro @zc_112 <| And.intro @z_112 <| And.intro @es_112 <| And.intro @eb_112 <| And.intro @sl_112 <| And.intro @is_112 <| And.intro @el_112 <| And.intro @ze_112 <| And.intro @ez_112 <| And.intro @ty_119 <| And.intro @zc_119 <| And.intro @z_119 <| And.intro @es_119 <| And.intro @eb_119 <| And.intro @sl_119 <| And.intro @is_119 <| And.intro @el_119 <| And.intro @ze_119 <| And.intro @ez_119 <| And.intro @ty_121 <| And.intro @zc_121 <| And.intro @z_121 <| And.intro @fo_121_0 <| And.intro @fi_121_0 <| And.intro @ft_121_0 <| And.intro @fo_121_1 <| And.intro @fi_121_1 <| And.intro @ft_121_1 <| And.intro @fo_121_2 <| And.intro @fi_121_2 <| And.intro @ft_121_2 <| And.intro @fo_121_3 <| And.intro @fi_121_3 <| And.intro @ft_121_3 <| And.intro @lay_121 <| And.intro @ty_194 <| And.intro @zc_194 <| And.intro @z_194 <| And.intro @fo_194_0 <| And.intro @fi_194_0 <| And.intro @ft_194_0 <| And.intro @fo_194_1 <| And.intro @fi_194_1 <| And.intro @ft_194_1 <| And.intro @lay_194 <| And.intro @ty_196 <| And.intro @zc_196 <| And.intro @z_196 <| And.intro @uk_3 <| @uk_196
set_option maxHeartbeats 4000000 in
theorem spec_AreContradictory_sat {a0 : List Sequent}  {r : Bool × Bool} (h : spec_AreContradictory a0 = some r) : Sat Try.prog 75 [(.sl false 2 (a0.map (Sequent.pv false)))] (.tup [(B r.1), (B r.2)]) := by
  replace h := Run.of h
  unfold spec_AreContradictory at h
  refine Sat.of_m (nt := 95) (rs := [.tmp 2, .tmp 3]) (n := 100000) Try.func75 rfl rfl rfl rfl (by simp) ?_
  simp -failIfUnchanged only [↓RA, RB, RS, fx75, p1, p2, p3, p4, reduceIte, p5, p6, p7, p8]
  refine CondH.mk (fun c1 => ?_) (fun c1 => ?_)
  · replace h := run_t c1 h
    simp -failIfUnchanged only [↓RA, RB, RS, fx75, p1, p2, p3, p4, reduceIte, p5, p6, p7, p8, c1]
    have h := run_some h
    obtain rfl : _ = r := h
    refine FinH.l ?_
    simp -failIfUnchanged only [↓RA, RB, RS, fx75, p1, p2, p3, p4, reduceIte, p5, p6, p7, p8, c1]
  · replace h := run_f c1 h
    simp -failIfUnchanged only [↓RA, RB, RS, fx75, p1, p2, p3, p4, reduceIte, p5, p6, p7, p8, c1]
    repeat (first | with_reducible refine noR_and (by repeat (first | exact noR_empty _ _ | exact noR_nilS _ _ | refine noR_mk _ _ _ _ _ rfl ?_ | refine noR_mkS _ _ _ _ _ rfl ?_)) ?_ | with_reducible refine noC_and (by repeat (first | exact noC_empty _ _ (by simp -failIfUnchanged only [↓RA, RB, RS, fx75, p1, p2, p3, p4, reduceIte, p5, p6, p7, p8]) | exact noC_nilS _ _ (by simp -failIfUnchanged only [↓RA, RB, RS, fx75, p1, p2, p3, p4, reduceIte, p5, p6, p7, p8]) | refine noC_mk _ _ _ _ _ rfl ?_ | refine noC_mkS _ _ _ _ _ rfl ?_)) ?_ | with_reducible refine and_ac ?_ | with_reducible refine And.intro (a := _ = List.range _) (by rfl) ?_)
    refine Mg.know_sl (b := false) (sz := 2) (es := a0.map (Sequent.pv false)) 0 (by simp -failIfUnchanged only [↓RA, RB, RS, fx75, p1, p2, p3, p4, reduceIte, p5, p6, p7, p8, c1]) fun hl0 => ?_; rw [List.length_map] at hl0
    replace h := run_loop h
    refine Mg.forN h (fun i5 s5 => [(0, .val (.pv (.sl false 2 (a0.map (Sequent.pv false))))), (4, .val (.own 224)), (5, .val (.pv (I (i5 : Int))))]) (fun i5 s5 => [(224, (5, s5.map (Formula.pv false)))]) (St.le_mk2 (by simp -failIfUnchanged only [↓RA, RB, RS, fx75, p1, p2, p3, p4, reduceIte, p5, p6, p7, p8, c1])) (fun i5 s5 hi h => ?_) (fun s5 h => ?_)
    · have w5 := wrap_succ (i := i5) (by omega)
      simp -failIfUnchanged only [↓RA, RB, RS, fx75, p1, p2, p3, p4, reduceIte, p5, p6, p7, p8, c1]
      refine CondH.tt (decide_eq_true (by omega)) (fun c2 => ?_)
      simp -failIfUnchanged only [↓RA, RB, RS, fx75, p1, p2, p3, p4, reduceIte, p5, p6, p7, p8, c1, c2]
      obtain ⟨v23, hv23, h⟩ := run_bind h
      refine IdxH.mk (f := (Sequent.pv false)) hv23 ?_ ?_ <;> simp -failIfUnchanged only [↓RA, RB, RS, fx75, p1, p2, p3, p4, reduceIte, p5, p6, p7, p8, c1, c2]
      obtain ⟨v25, hv25, h⟩ := run_bind h
      refine CallH.mk [false] (spec_l18Good_sat hv25) ?_ ?_ <;> simp -failIfUnchanged only [↓RA, RB, RS, fx75, p1, p2, p3, p4, reduceIte, p5, p6, p7, p8, c1, c2]
      refine CondH.mk (fun c3 => ?_) (fun c3 => ?_)
      · replace h := run_t c3 h
        simp -failIfUnchanged only [↓RA, RB, RS, fx75, p1, p2, p3, p4, reduceIte, p5, p6, p7, p8, c1, c2, c3]
        replace h := run_loop h
        refine Mg.whileN h (fun s10 => [(0, .val (.pv (.sl false 2 (a0.map (Sequent.pv false))))), (4, .val (.own 224)), (5, .val (.pv (I (i5 : Int)))), (6, .val (.pv (I s10.2)))]) (fun s10 => [(224, (5, s10.1.map (Formula.pv false)))]) (St.le_mk2 (by simp -failIfUnchanged only [↓RA, RB, RS, fx75, p1, p2, p3, p4, reduceIte, p5, p6, p7, p8, c1, c2, c3])) (fun n10 s10 h => ?_)
        simp -failIfUnchanged only [↓RA, RB, RS, fx75, p1, p2, p3, p4, reduceIte, p5, p6, p7, p8, c1, c2, c3]
        obtain ⟨v30, hv30, h⟩ := run_bind h
        refine IdxH.mk (f := (Sequent.pv false)) hv30 ?_ ?_ <;> simp -failIfUnchanged only [↓RA, RB, RS, fx75, p1, p2, p3, p4, reduceIte, p5, p6, p7, p8, c1, c2, c3]
        refine CondH.mk (fun c4 => ?_) (fun c4 => ?_)
        · replace h := run_t c4 h
          simp -failIfUnchanged only [↓RA, RB, RS, fx75, p1, p2, p3, p4, reduceIte, p5, p6, p7, p8, c1, c2, c3, c4]
          obtain ⟨v40, hv40, h⟩ := run_bind h
          refine IdxH.mk (f := (Sequent.pv false)) hv40 ?_ ?_ <;> simp -failIfUnchanged only [↓RA, RB, RS, fx75, p1, p2, p3, p4, reduceIte, p5, p6, p7, p8, c1, c2, c3, c4]
          obtain ⟨v44, hv44, h⟩ := run_bind h
          refine IdxH.mk (f := (Formula.pv false)) hv44 ?_ ?_ <;> simp -failIfUnchanged only [↓RA, RB, RS, fx75, p1, p2, p3, p4, reduceIte, p5, p6, p7, p8, c1, c2, c3, c4]
          obtain ⟨v46, hv46, h⟩ := run_bind h
          refine CallH.mk [true, false] (spec_l21Into_sat hv46) ?_ ?_ <;> simp -failIfUnchanged only [↓RA, RB, RS, fx75, p1, p2, p3, p4, reduceIte, p5, p6, p7, p8, c1, c2, c3, c4]
          repeat (first | with_reducible refine noR_and (by repeat (first | exact noR_empty _ _ | exact noR_nilS _ _ | refine noR_mk _ _ _ _ _ rfl ?_ | refine noR_mkS _ _ _ _ _ rfl ?_)) ?_ | with_reducible refine noC_and (by repeat (first | exact noC_empty _ _ (by simp -failIfUnchanged only [↓RA, RB, RS, fx75, p1, p2, p3, p4, reduceIte, p5, p6, p7, p8]) | exact noC_nilS _ _ (by simp -failIfUnchanged only [↓RA, RB, RS, fx75, p1, p2, p3, p4, reduceIte, p5, p6, p7, p8]) | refine noC_mk _ _ _ _ _ rfl ?_ | refine noC_mkS _ _ _ _ _ rfl ?_)) ?_ | with_reducible refine and_ac ?_ | with_reducible refine And.intro (a := _ = List.range _) (by rfl) ?_)
          have h := run_some h
          refine RdH.mk ⟨_, h, ?_⟩
          refine St.le_trans (St.le_mk (S := [(0, .val (.pv (.sl false 2 (a0.map (Sequent.pv false))))), (4, .val (.own 736)), (5, .val (.pv (I (i5 : Int)))), (6, .val (.pv (I (IntKind.i64.wrap (s10.2 + (1 : Int))))))]) (O := [(736, (5, v46.map (Formula.pv false)))]) (by simp -failIfUnchanged only [↓RA, RB, RS, fx75, p1, p2, p3, p4, reduceIte, p5, p6, p7, p8, c1, c2, c3, c4]) (by simp -failIfUnchanged only [↓RA, RB, RS, fx75, p1, p2, p3, p4, reduceIte, p5, p6, p7, p8, c1, c2, c3, c4])) ?_
          refine St.le_rn 736 224 (by decide) (by repeat (first | exact noC_empty _ _ (by simp -failIfUnchanged only [↓RA, RB, RS, fx75, p1, p2, p3, p4, reduceIte, p5, p6, p7, p8]) | exact noC_nilS _ _ (by simp -failIfUnchanged only [↓RA, RB, RS, fx75, p1, p2, p3, p4, reduceIte, p5, p6, p7, p8]) | refine noC_mk _ _ _ _ _ rfl ?_ | refine noC_mkS _ _ _ _ _ rfl ?_)) ?_
          refine St.le_mk2 ?_
          simp -failIfUnchanged only [↓RA, RB, RS, fx75, p1, p2, p3, p4, reduceIte, p5, p6, p7, p8, c1, c2, c3, c4]
        · replace h := run_f c4 h
          simp -failIfUnchanged only [↓RA, RB, RS, fx75, p1, p2, p3, p4, reduceIte, p5, p6, p7, p8, c1, c2, c3, c4]
          have h := run_some h
          replace h := run_loop h
          refine Mg.whileN h (fun s14 => [(0, .val (.pv (.sl false 2 (a0.map (Sequent.pv false))))), (4, .val (.own 224)), (5, .val (.pv (I (i5 : Int)))), (7, .val (.pv (I s14.2)))]) (fun s14 => [(224, (5, s14.1.map (Formula.pv false)))]) (St.le_mk2 (by simp -failIfUnchanged only [↓RA, RB, RS, fx75, p1, p2, p3, p4, reduceIte, p5, p6, p7, p8, c1, c2, c3, c4])) (fun n14 s14 h => ?_)
          simp -failIfUnchanged only [↓RA, RB, RS, fx75, p1, p2, p3, p4, reduceIte, p5, p6, p7, p8, c1, c2, c3, c4]
          obtain ⟨v50, hv50, h⟩ := run_bind h
          refine IdxH.mk (f := (Sequent.pv false)) hv50 ?_ ?_ <;> simp -failIfUnchanged only [↓RA, RB, RS, fx75, p1, p2, p3, p4, reduceIte, p5, p6, p7, p8, c1, c2, c3, c4]
          refine CondH.mk (fun c5 => ?_) (fun c5 => ?_)
          · replace h := run_t c5 h
            simp -failIfUnchanged only [↓RA, RB, RS, fx75, p1, p2, p3, p4, reduceIte, p5, p6, p7, p8, c1, c2, c3, c4, c5]
            obtain ⟨v60, hv60, h⟩ := run_bind h
            refine IdxH.mk (f := (Sequent.pv false)) hv60 ?_ ?_ <;> simp -failIfUnchanged only [↓RA, RB, RS, fx75, p1, p2, p3, p4, reduceIte, p5, p6, p7, p8, c1, c2, c3, c4, c5]
            obtain ⟨v64, hv64, h⟩ := run_bind h
            refine IdxH.mk (f := (Formula.pv false)) hv64 ?_ ?_ <;> simp -failIfUnchanged only [↓RA, RB, RS, fx75, p1, p2, p3, p4, reduceIte, p5, p6, p7, p8, c1, c2, c3, c4, c5]
            obtain ⟨v66, hv66, h⟩ := run_bind h
            refine CallH.mk [true, false] (spec_l21Into_sat hv66) ?_ ?_ <;> simp -failIfUnchanged only [↓RA, RB, RS, fx75, p1, p2, p3, p4, reduceIte, p5, p6, p7, p8, c1, c2, c3, c4, c5]
            repeat (first | with_reducible refine noR_and (by repeat (first | exact noR_empty _ _ | exact noR_nilS _ _ | refine noR_mk _ _ _ _ _ rfl ?_ | refine noR_mkS _ _ _ _ _ rfl ?_)) ?_ | with_reducible refine noC_and (by repeat (first | exact noC_empty _ _ (by simp -failIfUnchanged only [↓RA, RB, RS, fx75, p1, p2, p3, p4, reduceIte, p5, p6, p7, p8]) | exact noC_nilS _ _ (by simp -failIfUnchanged only [↓RA, RB, RS, fx75, p1, p2, p3, p4, reduceIte, p5, p6, p7, p8]) | refine noC_mk _ _ _ _ _ rfl ?_ | refine noC_mkS _ _ _ _ _ rfl ?_)) ?_ | with_reducible refine and_ac ?_ | with_reducible refine And.intro (a := _ = List.range _) (by rfl) ?_)
            have h := run_some h
            refine RdH.mk ⟨_, h, ?_⟩
            refine St.le_trans (St.le_mk (S := [(0, .val (.pv (.sl false 2 (a0.map (Sequent.pv false))))), (4, .val (.own 1056)), (5, .val (.pv (I (i5 : Int)))), (7, .val (.pv (I (IntKind.i64.wrap (s14.2 + (1 : Int))))))]) (O := [(1056, (5, v66.map (Formula.pv false)))]) (by simp -failIfUnchanged only [↓RA, RB, RS, fx75, p1, p2, p3, p4, reduceIte, p5, p6, p7, p8, c1, c2, c3, c4, c5]) (by simp -failIfUnchanged only [↓RA, RB, RS, fx75, p1, p2, p3, p4, reduceIte, p5, p6, p7, p8, c1, c2, c3, c4, c5])) ?_
            refine St.le_rn 1056 224 (by decide) (by repeat (first | exact noC_empty _ _ (by simp -failIfUnchanged only [↓RA, RB, RS, fx75, p1, p2, p3, p4, reduceIte, p5, p6, p7, p8]) | exact noC_nilS _ _ (by simp -failIfUnchanged only [↓RA, RB, RS, fx75, p1, p2, p3, p4, reduceIte, p5, p6, p7, p8]) | refine noC_mk _ _ _ _ _ rfl ?_ | refine noC_mkS _ _ _ _ _ rfl ?_)) ?_
            refine St.le_mk2 ?_
            simp -failIfUnchanged only [↓RA, RB, RS, fx75, p1, p2, p3, p4, reduceIte, p5, p6, p7, p8, c1, c2, c3, c4, c5]
          · replace h := run_f c5 h
            simp -failIfUnchanged only [↓RA, RB, RS, fx75, p1, p2, p3, p4, reduceIte, p5, p6, p7, p8, c1, c2, c3, c4, c5]
            have h := run_some h
            have h := run_some h
            refine RdH.mk ⟨_, h, ?_⟩
            refine St.le_mk2 ?_
            simp -failIfUnchanged only [↓RA, RB, RS, fx75, p1, p2, p3, p4, reduceIte, p5, p6, p7, p8, c1, c2, c3, c4, c5, w5]
      · replace h := run_f c3 h
        simp -failIfUnchanged only [↓RA, RB, RS, fx75, p1, p2, p3, p4, reduceIte, p5, p6, p7, p8, c1, c2, c3]
        have h := run_some h
        obtain rfl : _ = r := h
        refine FinH.l ?_
        simp -failIfUnchanged only [↓RA, RB, RS, fx75, p1, p2, p3, p4, reduceIte, p5, p6, p7, p8, c1, c2, c3]
    · simp -failIfUnchanged only [↓RA, RB, RS, fx75, p1, p2, p3, p4, reduceIte, p5, p6, p7, p8, c1]
      refine CondH.ff (decide_eq_false (by omega)) (fun c6 => ?_)
      simp -failIfUnchanged only [↓RA, RB, RS, fx75, p1, p2, p3, p4, reduceIte, p5, p6, p7, p8, c1, c6]
      refine CondH.mk (fun c7 => ?_) (fun c7 => ?_)
      · replace h := run_t c7 h
        simp -failIfUnchanged only [↓RA, RB, RS, fx75, p1, p2, p3, p4, reduceIte, p5, p6, p7, p8, c1, c6, c7]
        have h := run_some h
        obtain rfl : _ = r := h
        refine FinH.l ?_
        simp -failIfUnchanged only [↓RA, RB, RS, fx75, p1, p2, p3, p4, reduceIte, p5, p6, p7, p8, c1, c6, c7]
      · replace h := run_f c7 h
        simp -failIfUnchanged only [↓RA, RB, RS, fx75, p1, p2, p3, p4, reduceIte, p5, p6, p7, p8, c1, c6, c7]
        replace h := run_loop h
        refine Mg.whileN h (fun s20 => [(0, .val (.pv (.sl false 2 (a0.map (Sequent.pv false))))), (4, .val (.own 224)), (8, .val (.pv (I s20)))]) (fun s20 => [(224, (5, s5.map (Formula.pv false)))]) (St.le_mk2 (by simp -failIfUnchanged only [↓RA, RB, RS, fx75, p1, p2, p3, p4, reduceIte, p5, p6, p7, p8, c1, c6, c7])) (fun n20 s20 h => ?_)
        simp -failIfUnchanged only [↓RA, RB, RS, fx75, p1, p2, p3, p4, reduceIte, p5, p6, p7, p8, c1, c6, c7]
        obtain ⟨v74, hv74, h⟩ := run_bind h
        refine ShlH.mk hv74 ?_
        simp -failIfUnchanged only [↓RA, RB, RS, fx75, p1, p2, p3, p4, reduceIte, p5, p6, p7, p8, c1, c6, c7]
        refine CondH.mk (fun c8 => ?_) (fun c8 => ?_)
        · replace h := run_t c8 h
          simp -failIfUnchanged only [↓RA, RB, RS, fx75, p1, p2, p3, p4, reduceIte, p5, p6, p7, p8, c1, c6, c7, c8]
          refine Mg.know_sl (b := false) (sz := 2) (es := a0.map (Sequent.pv false)) 0 (by simp -failIfUnchanged only [↓RA, RB, RS, fx75, p1, p2, p3, p4, reduceIte, p5, p6, p7, p8, c1, c6, c7, c8]) fun hl0 => ?_; rw [List.length_map] at hl0
          replace h := run_loop h
          refine Mg.forN h (fun i24 s24 => [(0, .val (.pv (.sl false 2 (a0.map (Sequent.pv false))))), (4, .val (.own 224)), (8, .val (.pv (I s20))), (9, .val (.pv (B s24))), (10, .val (.pv (I (i24 : Int))))]) (fun i24 s24 => [(224, (5, s5.map (Formula.pv false)))]) (St.le_mk2 (by simp -failIfUnchanged only [↓RA, RB, RS, fx75, p1, p2, p3, p4, reduceIte, p5, p6, p7, p8, c1, c6, c7, c8])) (fun i24 s24 hi h => ?_) (fun s24 h => ?_)
          · have w24 := wrap_succ (i := i24) (by omega)
            simp -failIfUnchanged only [↓RA, RB, RS, fx75, p1, p2, p3, p4, reduceIte, p5, p6, p7, p8, c1, c6, c7, c8]
            refine CondH.tt (decide_eq_true (by omega)) (fun c9 => ?_)
            simp -failIfUnchanged only [↓RA, RB, RS, fx75, p1, p2, p3, p4, reduceIte, p5, p6, p7, p8, c1, c6, c7, c8, c9]
            refine CondH.mk (fun c10 => ?_) (fun c10 => ?_)
            · replace h := run_t c10 h
              simp -failIfUnchanged only [↓RA, RB, RS, fx75, p1, p2, p3, p4, reduceIte, p5, p6, p7, p8, c1, c6, c7, c8, c9, c10]
              obtain ⟨v89, hv89, h⟩ := run_bind h
              refine IdxH.mk (f := (Sequent.pv false)) hv89 ?_ ?_ <;> simp -failIfUnchanged only [↓RA, RB, RS, fx75, p1, p2, p3, p4, reduceIte, p5, p6, p7, p8, c1, c6, c7, c8, c9, c10]
              obtain ⟨v93, hv93, h⟩ := run_bind h
              refine CallH.mk [false, false, false] (spec_l21Sequent_sat hv93) ?_ ?_ <;> simp -failIfUnchanged only [↓RA, RB, RS, fx75, p1, p2, p3, p4, reduceIte, p5, p6, p7, p8, c1, c6, c7, c8, c9, c10]
              have h := run_some h
              refine RdH.mk ⟨_, h, ?_⟩
              refine St.le_mk2 ?_
              simp -failIfUnchanged only [↓RA, RB, RS, fx75, p1, p2, p3, p4, reduceIte, p5, p6, p7, p8, c1, c6, c7, c8, c9, c10, w24]
            · replace h := run_f c10 h
              simp -failIfUnchanged only [↓RA, RB, RS, fx75, p1, p2, p3, p4, reduceIte, p5, p6, p7, p8, c1, c6, c7, c8, c9, c10]
              have h := run_some h
              refine RdH.mk ⟨_, h, ?_⟩
              refine St.le_mk2 ?_
              simp -failIfUnchanged only [↓RA, RB, RS, fx75, p1, p2, p3, p4, reduceIte, p5, p6, p7, p8, c1, c6, c7, c8, c9, c10]
          · simp -failIfUnchanged only [↓RA, RB, RS, fx75, p1, p2, p3, p4, reduceIte, p5, p6, p7, p8, c1, c6, c7, c8]
            refine CondH.mk (fun c12 => ?_) (fun c12 => ?_)
            · replace h := run_t c12 h
              simp -failIfUnchanged only [↓RA, RB, RS, fx75, p1, p2, p3, p4, reduceIte, p5, p6, p7, p8, c1, c6, c7, c8, c12]
              have h := run_some h
              obtain rfl : _ = r := h
              refine FinH.l ?_
              simp -failIfUnchanged only [↓RA, RB, RS, fx75, p1, p2, p3, p4, reduceIte, p5, p6, p7, p8, c1, c6, c7, c8, c12]
            · replace h := run_f c12 h
              simp -failIfUnchanged only [↓RA, RB, RS, fx75, p1, p2, p3, p4, reduceIte, p5, p6, p7, p8, c1, c6, c7, c8, c12]
              have h := run_some h
              refine RdH.mk ⟨_, h, ?_⟩
              refine St.le_mk2 ?_
              simp -failIfUnchanged only [↓RA, RB, RS, fx75, p1, p2, p3, p4, reduceIte, p5, p6, p7, p8, c1, c6, c7, c8, c12]
        · replace h := run_f c8 h
          simp -failIfUnchanged only [↓RA, RB, RS, fx75, p1, p2, p3, p4, reduceIte, p5, p6, p7, p8, c1, c6, c7, c8]
          have h := run_some h
          have h := run_some h
          obtain rfl : _ = r := h
          refine FinH.l ?_
          simp -failIfUnchanged only [↓RA, RB, RS, fx75, p1, p2, p3, p4, reduceIte, p5, p6, p7, p8, c1, c6, c7, c8]

end Go.Proofs.Ytdmkceajaagpgaa
