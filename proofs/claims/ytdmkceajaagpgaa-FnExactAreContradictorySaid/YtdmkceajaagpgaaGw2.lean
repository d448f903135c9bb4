/- A part of the proof: lemmas only; nothing is claimed here beyond what each lemma says. -/
import Derived.Test.YtdmkceajaagpgaaGw1
set_option linter.unusedSimpArgs false
set_option linter.unusedVariables false
set_option linter.defProp false
set_option maxRecDepth 4000
namespace Go.Proofs.Ytdmkceajaagpgaa
open Go.Av
open Nat renaming reduceLT → p1, reduceAdd → p2, reduceMul → p3, reduceEqDiff → p4, reduceBEq → p5, reduceLeDiff → p6, reduceSub → p7
open Int renaming reduceToNat → p8
def fx259 := And.intro @ty_3 <| And.intro @zc_3 <| And.intro @z_3 <| And.intro @ty_9 <| And.intro @zc_9 <| And.intro @z_9 <| And.intro @u_9 <| And.intro @ty_35 <| And.intro @zc_35 <| And.intro @z_35 <| And.intro @fo_35_0 <| And.intro @fi_35_0 <| And.intro @ft_35_0 <| And.intro @fo_35_1 <| And.intro @fi_35_1 <| And.intro @ft_35_1 <| And.intro @lay_35 <| And.intro @ty_119 <| And.intro @zc_119 <| And.intro @z_119 <| And.intro @es_119 <| And.intro @eb_119 <| And.intro @sl_119 <| And.intro @is_119 <| And.intro @el_119 <| And.intro @ze_119 <| And.intro @ez_119 <| And.intro @ty_121 <| And.intro @zc_121 <| And.intro @z_121 <| And.intro @fo_121_0 <| And.intro @fi_121_0 <| And.intro @ft_121_0 <| And.intro @fo_121_1 <| And.intro @fi_121_1 <| And.intro @ft_121_1 <| And.intro @fo_121_2 <| And.intro @fi_121_2 <| And.intro @ft_121_2 <| And.intro @fo_121_3 <| And.intro @fi_121_3 <| And.intro @ft_121_3 <| And.intro @lay_121 <| And.intro @ty_126 <| And.intro @zc_126 <| @z_126
set_option maxHeartbeats 4000000 in
theorem impl_sameFormulaN_sat (n : Nat) : (∀ (a0 : Formula) (a1 : Formula) (r : Bool), impl_sameFormulaN n a0 a1 = some r → Sat Try.prog 259 [((Formula.pv false) a0), ((Formula.pv false) a1)] (B r)) := by
  induction n with
  | zero => exact fun _ _ _ h => by simp [impl_sameFormulaN] at h
  | succ n ih =>
    refine fun a0 a1 r h => ?_
    replace h := Run.of h
    rw [impl_sameFormulaN] at h
    refine Sat.of_m (nt := 31) (rs := [.tmp 4]) (n := 100000) Try.func259 rfl rfl rfl rfl (by simp) ?_
    simp -failIfUnchanged only [↓RA, RB, RS, fx259, p1, p2, p3, p4, reduceIte, p5, p6, p7, p8]
    repeat (first | with_reducible refine noR_and (by repeat (first | exact noR_empty _ _ | exact noR_nilS _ _ | refine noR_mk _ _ _ _ _ rfl ?_ | refine noR_mkS _ _ _ _ _ rfl ?_)) ?_ | with_reducible refine noC_and (by repeat (first | exact noC_empty _ _ (by simp -failIfUnchanged only [↓RA, RB, RS, fx259, p1, p2, p3, p4, reduceIte, p5, p6, p7, p8]) | exact noC_nilS _ _ (by simp -failIfUnchanged only [↓RA, RB, RS, fx259, p1, p2, p3, p4, reduceIte, p5, p6, p7, p8]) | refine noC_mk _ _ _ _ _ rfl ?_ | refine noC_mkS _ _ _ _ _ rfl ?_)) ?_ | with_reducible refine and_ac ?_ | with_reducible refine And.intro (a := _ = List.range _) (by rfl) ?_)
    refine CondH.mk (fun c1 => ?_) (fun c1 => ?_)
    · replace h := run_t c1 h
      simp -failIfUnchanged only [↓RA, RB, RS, fx259, p1, p2, p3, p4, reduceIte, p5, p6, p7, p8, c1]
      obtain ⟨v15, hv15, h⟩ := run_bind h
      refine CallH.mk [false, false] (impl_EqualTerms_sat hv15) ?_ ?_ <;> simp -failIfUnchanged only [↓RA, RB, RS, fx259, p1, p2, p3, p4, reduceIte, p5, p6, p7, p8, c1]
      refine CondH.mk (fun c2 => ?_) (fun c2 => ?_)
      · replace h := run_t c2 h
        simp -failIfUnchanged only [↓RA, RB, RS, fx259, p1, p2, p3, p4, reduceIte, p5, p6, p7, p8, c1, c2]
        refine CondH.mk (fun c3 => ?_) (fun c3 => ?_)
        · replace h := run_t c3 h
          simp -failIfUnchanged only [↓RA, RB, RS, fx259, p1, p2, p3, p4, reduceIte, p5, p6, p7, p8, c1, c2, c3]
          obtain ⟨v29, hv29, h⟩ := run_bind h
          refine CallH.mk [false, false, false] (slices_EqualFunc_Simpl_Formula_Simpl_Formula_impl_Formula_impl_Formula_sat (fun _ _ _ hh => ih _ _ _ hh) (by simp only [CapsOk_nil, CapsOk_cons]) hv29) ?_ ?_ <;> simp -failIfUnchanged only [↓RA, RB, RS, fx259, p1, p2, p3, p4, reduceIte, p5, p6, p7, p8, c1, c2, c3]
          have h := run_some h
          obtain rfl : _ = r := h
          refine FinH.l ?_
          simp -failIfUnchanged only [↓RA, RB, RS, fx259, p1, p2, p3, p4, reduceIte, p5, p6, p7, p8, c1, c2, c3]
        · replace h := run_f c3 h
          simp -failIfUnchanged only [↓RA, RB, RS, fx259, p1, p2, p3, p4, reduceIte, p5, p6, p7, p8, c1, c2, c3]
          have h := run_some h
          obtain rfl : _ = r := h
          refine FinH.l ?_
          simp -failIfUnchanged only [↓RA, RB, RS, fx259, p1, p2, p3, p4, reduceIte, p5, p6, p7, p8, c1, c2, c3]
      · replace h := run_f c2 h
        simp -failIfUnchanged only [↓RA, RB, RS, fx259, p1, p2, p3, p4, reduceIte, p5, p6, p7, p8, c1, c2]
        have h := run_some h
        obtain rfl : _ = r := h
        refine FinH.l ?_
        simp -failIfUnchanged only [↓RA, RB, RS, fx259, p1, p2, p3, p4, reduceIte, p5, p6, p7, p8, c1, c2]
    · replace h := run_f c1 h
      simp -failIfUnchanged only [↓RA, RB, RS, fx259, p1, p2, p3, p4, reduceIte, p5, p6, p7, p8, c1]
      have h := run_some h
      obtain rfl : _ = r := h
      refine FinH.l ?_
      simp -failIfUnchanged only [↓RA, RB, RS, fx259, p1, p2, p3, p4, reduceIte, p5, p6, p7, p8, c1]
theorem impl_sameFormula_sat {a0 : Formula} {a1 : Formula} {r : Bool} (h : impl_sameFormula a0 a1 = some r) : Sat Try.prog 259 [((Formula.pv false) a0), ((Formula.pv false) a1)] (B r) := by
  obtain ⟨n, hn⟩ := lim_some h
  exact (impl_sameFormulaN_sat n) _ _ _ hn

def fx258 := And.intro @ty_121 <| And.intro @zc_121 <| And.intro @z_121 <| And.intro @fo_121_0 <| And.intro @fi_121_0 <| And.intro @ft_121_0 <| And.intro @fo_121_1 <| And.intro @fi_121_1 <| And.intro @ft_121_1 <| And.intro @fo_121_2 <| And.intro @fi_121_2 <| And.intro @ft_121_2 <| And.intro @fo_121_3 <| And.intro @fi_121_3 <| And.intro @ft_121_3 <| @lay_121
set_option maxHeartbeats 4000000 in
theorem impl_leaves_1_sat {a0 : Formula} {b0 : Formula}  {r : Bool} (h : impl_leaves_1 a0 b0 = some r) : Sat Try.prog 258 [((Formula.pv false) a0), .ptr ((Formula.pv false) b0)] (B r) := by
  replace h := Run.of h
  unfold impl_leaves_1 at h
  refine Sat.of_m (nt := 7) (rs := [.tmp 3]) (n := 100000) Try.func258 rfl rfl rfl rfl (by simp) ?_
  simp -failIfUnchanged only [↓RA, RB, RS, fx258, p1, p2, p3, p4, reduceIte, p5, p6, p7, p8]
  repeat (first | with_reducible refine noR_and (by repeat (first | exact noR_empty _ _ | exact noR_nilS _ _ | refine noR_mk _ _ _ _ _ rfl ?_ | refine noR_mkS _ _ _ _ _ rfl ?_)) ?_ | with_reducible refine noC_and (by repeat (first | exact noC_empty _ _ (by simp -failIfUnchanged only [↓RA, RB, RS, fx258, p1, p2, p3, p4, reduceIte, p5, p6, p7, p8]) | exact noC_nilS _ _ (by simp -failIfUnchanged only [↓RA, RB, RS, fx258, p1, p2, p3, p4, reduceIte, p5, p6, p7, p8]) | refine noC_mk _ _ _ _ _ rfl ?_ | refine noC_mkS _ _ _ _ _ rfl ?_)) ?_ | with_reducible refine and_ac ?_ | with_reducible refine And.intro (a := _ = List.range _) (by rfl) ?_)
  obtain ⟨v6, hv6, h⟩ := run_bind h
  refine CallH.mk [false, false] (impl_sameFormula_sat hv6) ?_ ?_ <;> simp -failIfUnchanged only [↓RA, RB, RS, fx258, p1, p2, p3, p4, reduceIte, p5, p6, p7, p8]
  have h := run_some h
  obtain rfl : _ = r := h
  refine FinH.l ?_
  simp -failIfUnchanged only [↓RA, RB, RS, fx258, p1, p2, p3, p4, reduceIte, p5, p6, p7, p8]

def fx166 := And.intro @ty_3 <| And.intro @zc_3 <| And.intro @z_3 <| And.intro @ty_119 <| And.intro @zc_119 <| And.intro @z_119 <| And.intro @es_119 <| And.intro @eb_119 <| And.intro @sl_119 <| And.intro @is_119 <| And.intro @el_119 <| And.intro @ze_119 <| And.intro @ez_119 <| And.intro @ty_121 <| And.intro @zc_121 <| And.intro @z_121 <| And.intro @fo_121_0 <| And.intro @fi_121_0 <| And.intro @ft_121_0 <| And.intro @fo_121_1 <| And.intro @fi_121_1 <| And.intro @ft_121_1 <| And.intro @fo_121_2 <| And.intro @fi_121_2 <| And.intro @ft_121_2 <| And.intro @fo_121_3 <| And.intro @fi_121_3 <| And.intro @ft_121_3 <| And.intro @lay_121 <| And.intro @ty_203 <| And.intro @zc_203 <| @z_203
set_option maxHeartbeats 4000000 in
theorem impl_leavesN_sat (n : Nat) : (∀ (a0 : List Formula) (a1 : Formula) (r : List Formula), impl_leavesN n a0 a1 = some r → Sat Try.prog 166 [(.sl true 5 (a0.map (Formula.pv false))), ((Formula.pv false) a1)] (.sl true 5 (r.map (Formula.pv false)))) := by
  induction n with
  | zero => exact fun _ _ _ h => by simp [impl_leavesN] at h
  | succ n ih =>
    refine fun a0 a1 r h => ?_
    replace h := Run.of h
    rw [impl_leavesN] at h
    refine Sat.of_m (nt := 35) (rs := [.tmp 4]) (n := 100000) Try.func166 rfl rfl rfl rfl (by simp) ?_
    simp -failIfUnchanged only [↓RA, RB, RS, fx166, p1, p2, p3, p4, reduceIte, p5, p6, p7, p8]
    repeat (first | with_reducible refine noR_and (by repeat (first | exact noR_empty _ _ | exact noR_nilS _ _ | refine noR_mk _ _ _ _ _ rfl ?_ | refine noR_mkS _ _ _ _ _ rfl ?_)) ?_ | with_reducible refine noC_and (by repeat (first | exact noC_empty _ _ (by simp -failIfUnchanged only [↓RA, RB, RS, fx166, p1, p2, p3, p4, reduceIte, p5, p6, p7, p8]) | exact noC_nilS _ _ (by simp -failIfUnchanged only [↓RA, RB, RS, fx166, p1, p2, p3, p4, reduceIte, p5, p6, p7, p8]) | refine noC_mk _ _ _ _ _ rfl ?_ | refine noC_mkS _ _ _ _ _ rfl ?_)) ?_ | with_reducible refine and_ac ?_ | with_reducible refine And.intro (a := _ = List.range _) (by rfl) ?_)
    refine CondH.mk (fun c1 => ?_) (fun c1 => ?_)
    · replace h := run_t c1 h
      simp -failIfUnchanged only [↓RA, RB, RS, fx166, p1, p2, p3, p4, reduceIte, p5, p6, p7, p8, c1]
      obtain ⟨v17, hv17, h⟩ := run_bind h
      refine CallH.mk [false, false] (slices_ContainsFunc_Simpl_Formula_impl_Formula_sat (fun _ _ hh => impl_leaves_1_sat hh) (by simp only [CapsOk_nil, CapsOk_cons]) hv17) ?_ ?_ <;> simp -failIfUnchanged only [↓RA, RB, RS, fx166, p1, p2, p3, p4, reduceIte, p5, p6, p7, p8, c1]
      refine CondH.mk (fun c2 => ?_) (fun c2 => ?_)
      · replace h := run_t c2 h
        simp -failIfUnchanged only [↓RA, RB, RS, fx166, p1, p2, p3, p4, reduceIte, p5, p6, p7, p8, c1, c2]
        have h := run_some h
        obtain rfl : _ = r := h
        refine FinH.l ?_
        simp -failIfUnchanged only [↓RA, RB, RS, fx166, p1, p2, p3, p4, reduceIte, p5, p6, p7, p8, c1, c2]
      · replace h := run_f c2 h
        simp -failIfUnchanged only [↓RA, RB, RS, fx166, p1, p2, p3, p4, reduceIte, p5, p6, p7, p8, c1, c2]
        repeat (first | with_reducible refine noR_and (by repeat (first | exact noR_empty _ _ | exact noR_nilS _ _ | refine noR_mk _ _ _ _ _ rfl ?_ | refine noR_mkS _ _ _ _ _ rfl ?_)) ?_ | with_reducible refine noC_and (by repeat (first | exact noC_empty _ _ (by simp -failIfUnchanged only [↓RA, RB, RS, fx166, p1, p2, p3, p4, reduceIte, p5, p6, p7, p8]) | exact noC_nilS _ _ (by simp -failIfUnchanged only [↓RA, RB, RS, fx166, p1, p2, p3, p4, reduceIte, p5, p6, p7, p8]) | refine noC_mk _ _ _ _ _ rfl ?_ | refine noC_mkS _ _ _ _ _ rfl ?_)) ?_ | with_reducible refine and_ac ?_ | with_reducible refine And.intro (a := _ = List.range _) (by rfl) ?_)
        obtain ⟨v22, hv22, h⟩ := run_bind h
        refine AppH.mk (f := (Formula.pv false)) (fun a => Formula.psize _ a) hv22 ?_ ?_ ?_ <;> simp -failIfUnchanged only [↓RA, RB, RS, fx166, p1, p2, p3, p4, reduceIte, p5, p6, p7, p8, c1, c2]
        repeat (first | with_reducible refine noR_and (by repeat (first | exact noR_empty _ _ | exact noR_nilS _ _ | refine noR_mk _ _ _ _ _ rfl ?_ | refine noR_mkS _ _ _ _ _ rfl ?_)) ?_ | with_reducible refine noC_and (by repeat (first | exact noC_empty _ _ (by simp -failIfUnchanged only [↓RA, RB, RS, fx166, p1, p2, p3, p4, reduceIte, p5, p6, p7, p8]) | exact noC_nilS _ _ (by simp -failIfUnchanged only [↓RA, RB, RS, fx166, p1, p2, p3, p4, reduceIte, p5, p6, p7, p8]) | refine noC_mk _ _ _ _ _ rfl ?_ | refine noC_mkS _ _ _ _ _ rfl ?_)) ?_ | with_reducible refine and_ac ?_ | with_reducible refine And.intro (a := _ = List.range _) (by rfl) ?_)
        have h := run_some h
        obtain rfl : _ = r := h
        refine FinH.l ?_
        simp -failIfUnchanged only [↓RA, RB, RS, fx166, p1, p2, p3, p4, reduceIte, p5, p6, p7, p8, c1, c2]
    · replace h := run_f c1 h
      simp -failIfUnchanged only [↓RA, RB, RS, fx166, p1, p2, p3, p4, reduceIte, p5, p6, p7, p8, c1]
      obtain ⟨v13, hv13, h⟩ := run_bind h
      refine CallH.mk [false] (impl_isQuantifier_sat hv13) ?_ ?_ <;> simp -failIfUnchanged only [↓RA, RB, RS, fx166, p1, p2, p3, p4, reduceIte, p5, p6, p7, p8, c1]
      refine CondH.mk (fun c3 => ?_) (fun c3 => ?_)
      · replace h := run_t c3 h
        simp -failIfUnchanged only [↓RA, RB, RS, fx166, p1, p2, p3, p4, reduceIte, p5, p6, p7, p8, c1, c3]
        obtain ⟨v17, hv17, h⟩ := run_bind h
        refine CallH.mk [false, false] (slices_ContainsFunc_Simpl_Formula_impl_Formula_sat (fun _ _ hh => impl_leaves_1_sat hh) (by simp only [CapsOk_nil, CapsOk_cons]) hv17) ?_ ?_ <;> simp -failIfUnchanged only [↓RA, RB, RS, fx166, p1, p2, p3, p4, reduceIte, p5, p6, p7, p8, c1, c3]
        refine CondH.mk (fun c4 => ?_) (fun c4 => ?_)
        · replace h := run_t c4 h
          simp -failIfUnchanged only [↓RA, RB, RS, fx166, p1, p2, p3, p4, reduceIte, p5, p6, p7, p8, c1, c3, c4]
          have h := run_some h
          obtain rfl : _ = r := h
          refine FinH.l ?_
          simp -failIfUnchanged only [↓RA, RB, RS, fx166, p1, p2, p3, p4, reduceIte, p5, p6, p7, p8, c1, c3, c4]
        · replace h := run_f c4 h
          simp -failIfUnchanged only [↓RA, RB, RS, fx166, p1, p2, p3, p4, reduceIte, p5, p6, p7, p8, c1, c3, c4]
          repeat (first | with_reducible refine noR_and (by repeat (first | exact noR_empty _ _ | exact noR_nilS _ _ | refine noR_mk _ _ _ _ _ rfl ?_ | refine noR_mkS _ _ _ _ _ rfl ?_)) ?_ | with_reducible refine noC_and (by repeat (first | exact noC_empty _ _ (by simp -failIfUnchanged only [↓RA, RB, RS, fx166, p1, p2, p3, p4, reduceIte, p5, p6, p7, p8]) | exact noC_nilS _ _ (by simp -failIfUnchanged only [↓RA, RB, RS, fx166, p1, p2, p3, p4, reduceIte, p5, p6, p7, p8]) | refine noC_mk _ _ _ _ _ rfl ?_ | refine noC_mkS _ _ _ _ _ rfl ?_)) ?_ | with_reducible refine and_ac ?_ | with_reducible refine And.intro (a := _ = List.range _) (by rfl) ?_)
          obtain ⟨v22, hv22, h⟩ := run_bind h
          refine AppH.mk (f := (Formula.pv false)) (fun a => Formula.psize _ a) hv22 ?_ ?_ ?_ <;> simp -failIfUnchanged only [↓RA, RB, RS, fx166, p1, p2, p3, p4, reduceIte, p5, p6, p7, p8, c1, c3, c4]
          repeat (first | with_reducible refine noR_and (by repeat (first | exact noR_empty _ _ | exact noR_nilS _ _ | refine noR_mk _ _ _ _ _ rfl ?_ | refine noR_mkS _ _ _ _ _ rfl ?_)) ?_ | with_reducible refine noC_and (by repeat (first | exact noC_empty _ _ (by simp -failIfUnchanged only [↓RA, RB, RS, fx166, p1, p2, p3, p4, reduceIte, p5, p6, p7, p8]) | exact noC_nilS _ _ (by simp -failIfUnchanged only [↓RA, RB, RS, fx166, p1, p2, p3, p4, reduceIte, p5, p6, p7, p8]) | refine noC_mk _ _ _ _ _ rfl ?_ | refine noC_mkS _ _ _ _ _ rfl ?_)) ?_ | with_reducible refine and_ac ?_ | with_reducible refine And.intro (a := _ = List.range _) (by rfl) ?_)
          have h := run_some h
          obtain rfl : _ = r := h
          refine FinH.l ?_
          simp -failIfUnchanged only [↓RA, RB, RS, fx166, p1, p2, p3, p4, reduceIte, p5, p6, p7, p8, c1, c3, c4]
      · replace h := run_f c3 h
        simp -failIfUnchanged only [↓RA, RB, RS, fx166, p1, p2, p3, p4, reduceIte, p5, p6, p7, p8, c1, c3]
        refine Mg.know_sl (b := false) (sz := 5) (es := a1.Parts.map (Formula.pv false)) 24 (by simp -failIfUnchanged only [↓RA, RB, RS, fx166, p1, p2, p3, p4, reduceIte, p5, p6, p7, p8, c1, c3]) fun hl24 => ?_; rw [List.length_map] at hl24
        replace h := run_loop h
        refine Mg.forN h (fun i6 s6 => [(0, .val (.own 9000)), (24, .val (.pv (.sl false 5 (a1.Parts.map (Formula.pv false))))), (25, .val (.pv (I (a1.Parts.length : Int)))), (26, .val (.pv (I (i6 : Int))))]) (fun i6 s6 => [(9000, (5, s6.map (Formula.pv false)))]) (St.le_mk2 (by simp -failIfUnchanged only [↓RA, RB, RS, fx166, p1, p2, p3, p4, reduceIte, p5, p6, p7, p8, c1, c3])) (fun i6 s6 hi h => ?_) (fun s6 h => ?_)
        · have w6 := wrap_succ (i := i6) (by omega)
          simp -failIfUnchanged only [↓RA, RB, RS, fx166, p1, p2, p3, p4, reduceIte, p5, p6, p7, p8, c1, c3]
          refine CondH.tt (decide_eq_true (by omega)) (fun c5 => ?_)
          simp -failIfUnchanged only [↓RA, RB, RS, fx166, p1, p2, p3, p4, reduceIte, p5, p6, p7, p8, c1, c3, c5]
          obtain ⟨v28, hv28, h⟩ := run_bind h
          refine IdxH.mk (f := (Formula.pv false)) hv28 ?_ ?_ <;> simp -failIfUnchanged only [↓RA, RB, RS, fx166, p1, p2, p3, p4, reduceIte, p5, p6, p7, p8, c1, c3, c5]
          repeat (first | with_reducible refine noR_and (by repeat (first | exact noR_empty _ _ | exact noR_nilS _ _ | refine noR_mk _ _ _ _ _ rfl ?_ | refine noR_mkS _ _ _ _ _ rfl ?_)) ?_ | with_reducible refine noC_and (by repeat (first | exact noC_empty _ _ (by simp -failIfUnchanged only [↓RA, RB, RS, fx166, p1, p2, p3, p4, reduceIte, p5, p6, p7, p8]) | exact noC_nilS _ _ (by simp -failIfUnchanged only [↓RA, RB, RS, fx166, p1, p2, p3, p4, reduceIte, p5, p6, p7, p8]) | refine noC_mk _ _ _ _ _ rfl ?_ | refine noC_mkS _ _ _ _ _ rfl ?_)) ?_ | with_reducible refine and_ac ?_ | with_reducible refine And.intro (a := _ = List.range _) (by rfl) ?_)
          obtain ⟨v32, hv32, h⟩ := run_bind h
          refine CallH.mk [true, false] (ih _ _ _ hv32) ?_ ?_ <;> simp -failIfUnchanged only [↓RA, RB, RS, fx166, p1, p2, p3, p4, reduceIte, p5, p6, p7, p8, c1, c3, c5]
          repeat (first | with_reducible refine noR_and (by repeat (first | exact noR_empty _ _ | exact noR_nilS _ _ | refine noR_mk _ _ _ _ _ rfl ?_ | refine noR_mkS _ _ _ _ _ rfl ?_)) ?_ | with_reducible refine noC_and (by repeat (first | exact noC_empty _ _ (by simp -failIfUnchanged only [↓RA, RB, RS, fx166, p1, p2, p3, p4, reduceIte, p5, p6, p7, p8]) | exact noC_nilS _ _ (by simp -failIfUnchanged only [↓RA, RB, RS, fx166, p1, p2, p3, p4, reduceIte, p5, p6, p7, p8]) | refine noC_mk _ _ _ _ _ rfl ?_ | refine noC_mkS _ _ _ _ _ rfl ?_)) ?_ | with_reducible refine and_ac ?_ | with_reducible refine And.intro (a := _ = List.range _) (by rfl) ?_)
          have h := run_some h
          refine RdH.mk ⟨_, h, ?_⟩
          refine St.le_trans (St.le_mk (S := [(0, .val (.own 512)), (24, .val (.pv (.sl false 5 (a1.Parts.map (Formula.pv false))))), (25, .val (.pv (I (a1.Parts.length : Int)))), (26, .val (.pv (I (IntKind.i64.wrap ((i6 : Int) + (1 : Int))))))]) (O := [(512, (5, v32.map (Formula.pv false)))]) (by simp -failIfUnchanged only [↓RA, RB, RS, fx166, p1, p2, p3, p4, reduceIte, p5, p6, p7, p8, c1, c3, c5, w6]) (by simp -failIfUnchanged only [↓RA, RB, RS, fx166, p1, p2, p3, p4, reduceIte, p5, p6, p7, p8, c1, c3, c5, w6])) ?_
          refine St.le_rn 512 9000 (by decide) (by repeat (first | exact noC_empty _ _ (by simp -failIfUnchanged only [↓RA, RB, RS, fx166, p1, p2, p3, p4, reduceIte, p5, p6, p7, p8]) | exact noC_nilS _ _ (by simp -failIfUnchanged only [↓RA, RB, RS, fx166, p1, p2, p3, p4, reduceIte, p5, p6, p7, p8]) | refine noC_mk _ _ _ _ _ rfl ?_ | refine noC_mkS _ _ _ _ _ rfl ?_)) ?_
          refine St.le_mk2 ?_
          simp -failIfUnchanged only [↓RA, RB, RS, fx166, p1, p2, p3, p4, reduceIte, p5, p6, p7, p8, c1, c3, c5, w6]
        · simp -failIfUnchanged only [↓RA, RB, RS, fx166, p1, p2, p3, p4, reduceIte, p5, p6, p7, p8, c1, c3]
          refine CondH.ff (decide_eq_false (by omega)) (fun c6 => ?_)
          simp -failIfUnchanged only [↓RA, RB, RS, fx166, p1, p2, p3, p4, reduceIte, p5, p6, p7, p8, c1, c3, c6]
          have h := run_some h
          obtain rfl : _ = r := h
          refine FinH.l ?_
          simp -failIfUnchanged only [↓RA, RB, RS, fx166, p1, p2, p3, p4, reduceIte, p5, p6, p7, p8, c1, c3, c6]
theorem impl_leaves_sat {a0 : List Formula} {a1 : Formula} {r : List Formula} (h : impl_leaves a0 a1 = some r) : Sat Try.prog 166 [(.sl true 5 (a0.map (Formula.pv false))), ((Formula.pv false) a1)] (.sl true 5 (r.map (Formula.pv false))) := by
  obtain ⟨n, hn⟩ := lim_some h
  exact (impl_leavesN_sat n) _ _ _ hn

def fx262 := And.intro @ty_121 <| And.intro @zc_121 <| And.intro @z_121 <| And.intro @fo_121_0 <| And.intro @fi_121_0 <| And.intro @ft_121_0 <| And.intro @fo_121_1 <| And.intro @fi_121_1 <| And.intro @ft_121_1 <| And.intro @fo_121_2 <| And.intro @fi_121_2 <| And.intro @ft_121_2 <| And.intro @fo_121_3 <| And.intro @fi_121_3 <| And.intro @ft_121_3 <| @lay_121
set_option maxHeartbeats 4000000 in
theorem impl_leafTruth_2_sat {a0 : Formula} {b0 : Formula}  {r : Bool} (h : impl_leafTruth_2 a0 b0 = some r) : Sat Try.prog 262 [((Formula.pv false) a0), .ptr ((Formula.pv false) b0)] (B r) := by
  replace h := Run.of h
  unfold impl_leafTruth_2 at h
  refine Sat.of_m (nt := 7) (rs := [.tmp 3]) (n := 100000) Try.func262 rfl rfl rfl rfl (by simp) ?_
  simp -failIfUnchanged only [↓RA, RB, RS, fx262, p1, p2, p3, p4, reduceIte, p5, p6, p7, p8]
  repeat (first | with_reducible refine noR_and (by repeat (first | exact noR_empty _ _ | exact noR_nilS _ _ | refine noR_mk _ _ _ _ _ rfl ?_ | refine noR_mkS _ _ _ _ _ rfl ?_)) ?_ | with_reducible refine noC_and (by repeat (first | exact noC_empty _ _ (by simp -failIfUnchanged only [↓RA, RB, RS, fx262, p1, p2, p3, p4, reduceIte, p5, p6, p7, p8]) | exact noC_nilS _ _ (by simp -failIfUnchanged only [↓RA, RB, RS, fx262, p1, p2, p3, p4, reduceIte, p5, p6, p7, p8]) | refine noC_mk _ _ _ _ _ rfl ?_ | refine noC_mkS _ _ _ _ _ rfl ?_)) ?_ | with_reducible refine and_ac ?_ | with_reducible refine And.intro (a := _ = List.range _) (by rfl) ?_)
  obtain ⟨v6, hv6, h⟩ := run_bind h
  refine CallH.mk [false, false] (impl_sameFormula_sat hv6) ?_ ?_ <;> simp -failIfUnchanged only [↓RA, RB, RS, fx262, p1, p2, p3, p4, reduceIte, p5, p6, p7, p8]
  have h := run_some h
  obtain rfl : _ = r := h
  refine FinH.l ?_
  simp -failIfUnchanged only [↓RA, RB, RS, fx262, p1, p2, p3, p4, reduceIte, p5, p6, p7, p8]

def fx170 := And.intro @ty_3 <| And.intro @zc_3 <| And.intro @z_3 <| And.intro @ty_4 <| And.intro @zc_4 <| And.intro @z_4 <| And.intro @u_4 <| And.intro @ty_119 <| And.intro @zc_119 <| And.intro @z_119 <| And.intro @es_119 <| And.intro @eb_119 <| And.intro @sl_119 <| And.intro @is_119 <| And.intro @el_119 <| And.intro @ze_119 <| And.intro @ez_119 <| And.intro @ty_121 <| And.intro @zc_121 <| And.intro @z_121 <| And.intro @fo_121_0 <| And.intro @fi_121_0 <| And.intro @ft_121_0 <| And.intro @fo_121_1 <| And.intro @fi_121_1 <| And.intro @ft_121_1 <| And.intro @fo_121_2 <| And.intro @fi_121_2 <| And.intro @ft_121_2 <| And.intro @fo_121_3 <| And.intro @fi_121_3 <| And.intro @ft_121_3 <| And.intro @lay_121 <| And.intro @ty_203 <| And.intro @zc_203 <| And.intro @z_203 <| @mixedT
def fx261 := And.intro @ty_3 <| And.intro @zc_3 <| And.intro @z_3 <| And.intro @ty_119 <| And.intro @zc_119 <| And.intro @z_119 <| And.intro @es_119 <| And.intro @eb_119 <| And.intro @sl_119 <| And.intro @is_119 <| And.intro @el_119 <| And.intro @ze_119 <| And.intro @ez_119 <| And.intro @ty_121 <| And.intro @zc_121 <| And.intro @z_121 <| And.intro @fo_121_0 <| And.intro @fi_121_0 <| And.intro @ft_121_0 <| And.intro @fo_121_1 <| And.intro @fi_121_1 <| And.intro @ft_121_1 <| And.intro @fo_121_2 <| And.intro @fi_121_2 <| And.intro @ft_121_2 <| And.intro @fo_121_3 <| And.intro @fi_121_3 <| And.intro @ft_121_3 <| And.intro @lay_121 <| @mixedT
set_option maxHeartbeats 4000000 in
theorem impl_leafTruthN_sat (n : Nat) : (∀ (a0 : Formula) (a1 : List Formula) (a2 : Int) (r : Bool), impl_leafTruthN n a0 a1 a2 = some r → Sat Try.prog 170 [((Formula.pv false) a0), (.sl false 5 (a1.map (Formula.pv false))), (I a2)] (B r)) ∧ (∀ (a0 : Int) (b0 : Formula) (b1 : List Formula) (b2 : Int) (r : Bool), impl_leafTruth_1N n a0 b0 b1 b2 = some r → Sat Try.prog 261 [(I a0), .ptr ((Formula.pv false) b0), .ptr (.sl false 5 (b1.map (Formula.pv false))), .ptr (I b2)] (B r)) := by
  induction n with
  | zero => exact ⟨fun _ _ _ _ h => by simp [impl_leafTruthN] at h, fun _ _ _ _ _ h => by simp [impl_leafTruth_1N] at h⟩
  | succ n ih =>
    refine ⟨fun a0 a1 a2 r h => ?_, fun a0 b0 b1 b2 r h => ?_⟩
    · replace h := Run.of h
      rw [impl_leafTruthN] at h
      refine Sat.of_m (nt := 52) (rs := [.tmp 6]) (n := 100000) Try.func170 rfl rfl rfl rfl (by simp) ?_
      simp -failIfUnchanged only [↓RA, RB, RS, fx170, p1, p2, p3, p4, reduceIte, p5, p6, p7, p8]
      repeat (first | with_reducible refine noR_and (by repeat (first | exact noR_empty _ _ | exact noR_nilS _ _ | refine noR_mk _ _ _ _ _ rfl ?_ | refine noR_mkS _ _ _ _ _ rfl ?_)) ?_ | with_reducible refine noC_and (by repeat (first | exact noC_empty _ _ (by simp -failIfUnchanged only [↓RA, RB, RS, fx170, p1, p2, p3, p4, reduceIte, p5, p6, p7, p8]) | exact noC_nilS _ _ (by simp -failIfUnchanged only [↓RA, RB, RS, fx170, p1, p2, p3, p4, reduceIte, p5, p6, p7, p8]) | refine noC_mk _ _ _ _ _ rfl ?_ | refine noC_mkS _ _ _ _ _ rfl ?_)) ?_ | with_reducible refine and_ac ?_ | with_reducible refine And.intro (a := _ = List.range _) (by rfl) ?_)
      refine CondH.mk (fun c1 => ?_) (fun c1 => ?_)
      · replace h := run_t c1 h
        simp -failIfUnchanged only [↓RA, RB, RS, fx170, p1, p2, p3, p4, reduceIte, p5, p6, p7, p8, c1]
        have h := run_some h
        obtain rfl : _ = r := h
        refine FinH.l ?_
        simp -failIfUnchanged only [↓RA, RB, RS, fx170, p1, p2, p3, p4, reduceIte, p5, p6, p7, p8, c1]
      · replace h := run_f c1 h
        simp -failIfUnchanged only [↓RA, RB, RS, fx170, p1, p2, p3, p4, reduceIte, p5, p6, p7, p8, c1]
        refine CondH.mk (fun c2 => ?_) (fun c2 => ?_)
        · replace h := run_t c2 h
          simp -failIfUnchanged only [↓RA, RB, RS, fx170, p1, p2, p3, p4, reduceIte, p5, p6, p7, p8, c1, c2]
          have h := run_some h
          obtain rfl : _ = r := h
          refine FinH.l ?_
          simp -failIfUnchanged only [↓RA, RB, RS, fx170, p1, p2, p3, p4, reduceIte, p5, p6, p7, p8, c1, c2]
        · replace h := run_f c2 h
          simp -failIfUnchanged only [↓RA, RB, RS, fx170, p1, p2, p3, p4, reduceIte, p5, p6, p7, p8, c1, c2]
          refine CondH.mk (fun c3 => ?_) (fun c3 => ?_)
          · replace h := run_t c3 h
            simp -failIfUnchanged only [↓RA, RB, RS, fx170, p1, p2, p3, p4, reduceIte, p5, p6, p7, p8, c1, c2, c3]
            obtain ⟨v18, hv18, h⟩ := run_bind h
            refine CallH.mk [false] (ih.2 _ _ _ _ _ hv18) ?_ ?_ <;> simp -failIfUnchanged only [↓RA, RB, RS, fx170, p1, p2, p3, p4, reduceIte, p5, p6, p7, p8, c1, c2, c3]
            have h := run_some h
            obtain rfl : _ = r := h
            refine FinH.l ?_
            simp -failIfUnchanged only [↓RA, RB, RS, fx170, p1, p2, p3, p4, reduceIte, p5, p6, p7, p8, c1, c2, c3]
          · replace h := run_f c3 h
            simp -failIfUnchanged only [↓RA, RB, RS, fx170, p1, p2, p3, p4, reduceIte, p5, p6, p7, p8, c1, c2, c3]
            refine CondH.mk (fun c4 => ?_) (fun c4 => ?_)
            · replace h := run_t c4 h
              simp -failIfUnchanged only [↓RA, RB, RS, fx170, p1, p2, p3, p4, reduceIte, p5, p6, p7, p8, c1, c2, c3, c4]
              obtain ⟨v23, hv23, h⟩ := run_bind h
              refine CallH.mk [false] (ih.2 _ _ _ _ _ hv23) ?_ ?_ <;> simp -failIfUnchanged only [↓RA, RB, RS, fx170, p1, p2, p3, p4, reduceIte, p5, p6, p7, p8, c1, c2, c3, c4]
              refine CondH.mk (fun c5 => ?_) (fun c5 => ?_)
              · replace h := run_t c5 h
                simp -failIfUnchanged only [↓RA, RB, RS, fx170, p1, p2, p3, p4, reduceIte, p5, p6, p7, p8, c1, c2, c3, c4, c5]
                obtain ⟨v26, hv26, h⟩ := run_bind h
                refine CallH.mk [false] (ih.2 _ _ _ _ _ hv26) ?_ ?_ <;> simp -failIfUnchanged only [↓RA, RB, RS, fx170, p1, p2, p3, p4, reduceIte, p5, p6, p7, p8, c1, c2, c3, c4, c5]
                have h := run_some h
                obtain rfl : _ = r := h
                refine FinH.l ?_
                simp -failIfUnchanged only [↓RA, RB, RS, fx170, p1, p2, p3, p4, reduceIte, p5, p6, p7, p8, c1, c2, c3, c4, c5]
              · replace h := run_f c5 h
                simp -failIfUnchanged only [↓RA, RB, RS, fx170, p1, p2, p3, p4, reduceIte, p5, p6, p7, p8, c1, c2, c3, c4, c5]
                have h := run_some h
                obtain rfl : _ = r := h
                refine FinH.l ?_
                simp -failIfUnchanged only [↓RA, RB, RS, fx170, p1, p2, p3, p4, reduceIte, p5, p6, p7, p8, c1, c2, c3, c4, c5]
            · replace h := run_f c4 h
              simp -failIfUnchanged only [↓RA, RB, RS, fx170, p1, p2, p3, p4, reduceIte, p5, p6, p7, p8, c1, c2, c3, c4]
              refine CondH.mk (fun c6 => ?_) (fun c6 => ?_)
              · replace h := run_t c6 h
                simp -failIfUnchanged only [↓RA, RB, RS, fx170, p1, p2, p3, p4, reduceIte, p5, p6, p7, p8, c1, c2, c3, c4, c6]
                obtain ⟨v31, hv31, h⟩ := run_bind h
                refine CallH.mk [false] (ih.2 _ _ _ _ _ hv31) ?_ ?_ <;> simp -failIfUnchanged only [↓RA, RB, RS, fx170, p1, p2, p3, p4, reduceIte, p5, p6, p7, p8, c1, c2, c3, c4, c6]
                refine CondH.mk (fun c7 => ?_) (fun c7 => ?_)
                · replace h := run_t c7 h
                  simp -failIfUnchanged only [↓RA, RB, RS, fx170, p1, p2, p3, p4, reduceIte, p5, p6, p7, p8, c1, c2, c3, c4, c6, c7]
                  have h := run_some h
                  obtain rfl : _ = r := h
                  refine FinH.l ?_
                  simp -failIfUnchanged only [↓RA, RB, RS, fx170, p1, p2, p3, p4, reduceIte, p5, p6, p7, p8, c1, c2, c3, c4, c6, c7]
                · replace h := run_f c7 h
                  simp -failIfUnchanged only [↓RA, RB, RS, fx170, p1, p2, p3, p4, reduceIte, p5, p6, p7, p8, c1, c2, c3, c4, c6, c7]
                  obtain ⟨v34, hv34, h⟩ := run_bind h
                  refine CallH.mk [false] (ih.2 _ _ _ _ _ hv34) ?_ ?_ <;> simp -failIfUnchanged only [↓RA, RB, RS, fx170, p1, p2, p3, p4, reduceIte, p5, p6, p7, p8, c1, c2, c3, c4, c6, c7]
                  have h := run_some h
                  obtain rfl : _ = r := h
                  refine FinH.l ?_
                  simp -failIfUnchanged only [↓RA, RB, RS, fx170, p1, p2, p3, p4, reduceIte, p5, p6, p7, p8, c1, c2, c3, c4, c6, c7]
              · replace h := run_f c6 h
                simp -failIfUnchanged only [↓RA, RB, RS, fx170, p1, p2, p3, p4, reduceIte, p5, p6, p7, p8, c1, c2, c3, c4, c6]
                refine CondH.mk (fun c8 => ?_) (fun c8 => ?_)
                · replace h := run_t c8 h
                  simp -failIfUnchanged only [↓RA, RB, RS, fx170, p1, p2, p3, p4, reduceIte, p5, p6, p7, p8, c1, c2, c3, c4, c6, c8]
                  obtain ⟨v39, hv39, h⟩ := run_bind h
                  refine CallH.mk [false] (ih.2 _ _ _ _ _ hv39) ?_ ?_ <;> simp -failIfUnchanged only [↓RA, RB, RS, fx170, p1, p2, p3, p4, reduceIte, p5, p6, p7, p8, c1, c2, c3, c4, c6, c8]
                  refine CondH.mk (fun c9 => ?_) (fun c9 => ?_)
                  · replace h := run_t c9 h
                    simp -failIfUnchanged only [↓RA, RB, RS, fx170, p1, p2, p3, p4, reduceIte, p5, p6, p7, p8, c1, c2, c3, c4, c6, c8, c9]
                    obtain ⟨v43, hv43, h⟩ := run_bind h
                    refine CallH.mk [false] (ih.2 _ _ _ _ _ hv43) ?_ ?_ <;> simp -failIfUnchanged only [↓RA, RB, RS, fx170, p1, p2, p3, p4, reduceIte, p5, p6, p7, p8, c1, c2, c3, c4, c6, c8, c9]
                    have h := run_some h
                    obtain rfl : _ = r := h
                    refine FinH.l ?_
                    simp -failIfUnchanged only [↓RA, RB, RS, fx170, p1, p2, p3, p4, reduceIte, p5, p6, p7, p8, c1, c2, c3, c4, c6, c8, c9]
                  · replace h := run_f c9 h
                    simp -failIfUnchanged only [↓RA, RB, RS, fx170, p1, p2, p3, p4, reduceIte, p5, p6, p7, p8, c1, c2, c3, c4, c6, c8, c9]
                    have h := run_some h
                    obtain rfl : _ = r := h
                    refine FinH.l ?_
                    simp -failIfUnchanged only [↓RA, RB, RS, fx170, p1, p2, p3, p4, reduceIte, p5, p6, p7, p8, c1, c2, c3, c4, c6, c8, c9]
                · replace h := run_f c8 h
                  simp -failIfUnchanged only [↓RA, RB, RS, fx170, p1, p2, p3, p4, reduceIte, p5, p6, p7, p8, c1, c2, c3, c4, c6, c8]
                  obtain ⟨v48, hv48, h⟩ := run_bind h
                  refine CallH.mk [false, false] (slices_IndexFunc_Simpl_Formula_impl_Formula_sat (fun _ _ hh => impl_leafTruth_2_sat hh) (by simp only [CapsOk_nil, CapsOk_cons]) hv48) ?_ ?_ <;> simp -failIfUnchanged only [↓RA, RB, RS, fx170, p1, p2, p3, p4, reduceIte, p5, p6, p7, p8, c1, c2, c3, c4, c6, c8]
                  obtain ⟨v49, hv49, h⟩ := run_bind h
                  refine ShrH.mk hv49 ?_
                  simp -failIfUnchanged only [↓RA, RB, RS, fx170, p1, p2, p3, p4, reduceIte, p5, p6, p7, p8, c1, c2, c3, c4, c6, c8]
                  refine And.intro (DrawH.none (by rfl) (by first | rfl | (simp -failIfUnchanged only [↓RA, RB, RS, fx170, p1, p2, p3, p4, reduceIte, p5, p6, p7, p8] <;> rfl)) (by first | rfl | (simp -failIfUnchanged only [↓RA, RB, RS, fx170, p1, p2, p3, p4, reduceIte, p5, p6, p7, p8] <;> rfl)) (by first | rfl | (simp -failIfUnchanged only [↓RA, RB, RS, fx170, p1, p2, p3, p4, reduceIte, p5, p6, p7, p8] <;> rfl))) ?_
                  simp -failIfUnchanged only [↓RA, RB, RS, fx170, p1, p2, p3, p4, reduceIte, p5, p6, p7, p8, c1, c2, c3, c4, c6, c8]
                  have h := run_some h
                  obtain rfl : _ = r := h
                  refine FinH.l ?_
                  simp -failIfUnchanged only [↓RA, RB, RS, fx170, p1, p2, p3, p4, reduceIte, p5, p6, p7, p8, c1, c2, c3, c4, c6, c8]
    · replace h := Run.of h
      rw [impl_leafTruth_1N] at h
      refine Sat.of_m (nt := 14) (rs := [.tmp 5]) (n := 100000) Try.func261 rfl rfl rfl rfl (by simp) ?_
      simp -failIfUnchanged only [↓RA, RB, RS, fx261, p1, p2, p3, p4, reduceIte, p5, p6, p7, p8]
      obtain ⟨v9, hv9, h⟩ := run_bind h
      refine IdxH.mk (f := (Formula.pv false)) hv9 ?_ ?_ <;> simp -failIfUnchanged only [↓RA, RB, RS, fx261, p1, p2, p3, p4, reduceIte, p5, p6, p7, p8]
      obtain ⟨v13, hv13, h⟩ := run_bind h
      refine CallH.mk [false, false, false] (ih.1 _ _ _ _ hv13) ?_ ?_ <;> simp -failIfUnchanged only [↓RA, RB, RS, fx261, p1, p2, p3, p4, reduceIte, p5, p6, p7, p8]
      refine And.intro (DrawH.none (by rfl) (by first | rfl | (simp -failIfUnchanged only [↓RA, RB, RS, fx261, p1, p2, p3, p4, reduceIte, p5, p6, p7, p8] <;> rfl)) (by first | rfl | (simp -failIfUnchanged only [↓RA, RB, RS, fx261, p1, p2, p3, p4, reduceIte, p5, p6, p7, p8] <;> rfl)) (by first | rfl | (simp -failIfUnchanged only [↓RA, RB, RS, fx261, p1, p2, p3, p4, reduceIte, p5, p6, p7, p8] <;> rfl))) ?_
      simp -failIfUnchanged only [↓RA, RB, RS, fx261, p1, p2, p3, p4, reduceIte, p5, p6, p7, p8]
      have h := run_some h
      obtain rfl : _ = r := h
      refine FinH.l ?_
      simp -failIfUnchanged only [↓RA, RB, RS, fx261, p1, p2, p3, p4, reduceIte, p5, p6, p7, p8]
theorem impl_leafTruth_sat {a0 : Formula} {a1 : List Formula} {a2 : Int} {r : Bool} (h : impl_leafTruth a0 a1 a2 = some r) : Sat Try.prog 170 [((Formula.pv false) a0), (.sl false 5 (a1.map (Formula.pv false))), (I a2)] (B r) := by
  obtain ⟨n, hn⟩ := lim_some h
  exact (impl_leafTruthN_sat n).1 _ _ _ _ hn
theorem impl_leafTruth_1_sat {a0 : Int} {b0 : Formula} {b1 : List Formula} {b2 : Int} {r : Bool} (h : impl_leafTruth_1 a0 b0 b1 b2 = some r) : Sat Try.prog 261 [(I a0), .ptr ((Formula.pv false) b0), .ptr (.sl false 5 (b1.map (Formula.pv false))), .ptr (I b2)] (B r) := by
  obtain ⟨n, hn⟩ := lim_some h
  exact (impl_leafTruthN_sat n).2 _ _ _ _ _ hn

def fx169 := And.intro @ty_3 <| And.intro @zc_3 <| And.intro @z_3 <| And.intro @ty_4 <| And.intro @zc_4 <| And.intro @z_4 <| And.intro @u_4 <| And.intro @ty_119 <| And.intro @zc_119 <| And.intro @z_119 <| And.intro @es_119 <| And.intro @eb_119 <| And.intro @sl_119 <| And.intro @is_119 <| And.intro @el_119 <| And.intro @ze_119 <| And.intro @ez_119 <| And.intro @ty_121 <| And.intro @zc_121 <| And.intro @z_121 <| And.intro @fo_121_0 <| And.intro @fi_121_0 <| And.intro @ft_121_0 <| And.intro @fo_121_1 <| And.intro @fi_121_1 <| And.intro @ft_121_1 <| And.intro @fo_121_2 <| And.intro @fi_121_2 <| And.intro @ft_121_2 <| And.intro @fo_121_3 <| And.intro @fi_121_3 <| And.intro @ft_121_3 <| @lay_121
set_option maxHeartbeats 4000000 in
theorem impl_AreContradictory_2_1_sat {a0 : Formula} {b0 : List Formula} {b1 : Int}  {r : Bool} (h : impl_AreContradictory_2_1 a0 b0 b1 = some r) : Sat Try.prog 169 [((Formula.pv false) a0), .ptr (.sl false 5 (b0.map (Formula.pv false))), .ptr (I b1)] (B r) := by
  replace h := Run.of h
  unfold impl_AreContradictory_2_1 at h
  refine Sat.of_m (nt := 10) (rs := [.tmp 4]) (n := 100000) Try.func169 rfl rfl rfl rfl (by simp) ?_
  simp -failIfUnchanged only [↓RA, RB, RS, fx169, p1, p2, p3, p4, reduceIte, p5, p6, p7, p8]
  repeat (first | with_reducible refine noR_and (by repeat (first | exact noR_empty _ _ | exact noR_nilS _ _ | refine noR_mk _ _ _ _ _ rfl ?_ | refine noR_mkS _ _ _ _ _ rfl ?_)) ?_ | with_reducible refine noC_and (by repeat (first | exact noC_empty _ _ (by simp -failIfUnchanged only [↓RA, RB, RS, fx169, p1, p2, p3, p4, reduceIte, p5, p6, p7, p8]) | exact noC_nilS _ _ (by simp -failIfUnchanged only [↓RA, RB, RS, fx169, p1, p2, p3, p4, reduceIte, p5, p6, p7, p8]) | refine noC_mk _ _ _ _ _ rfl ?_ | refine noC_mkS _ _ _ _ _ rfl ?_)) ?_ | with_reducible refine and_ac ?_ | with_reducible refine And.intro (a := _ = List.range _) (by rfl) ?_)
  obtain ⟨v8, hv8, h⟩ := run_bind h
  refine CallH.mk [false, false, false] (impl_leafTruth_sat hv8) ?_ ?_ <;> simp -failIfUnchanged only [↓RA, RB, RS, fx169, p1, p2, p3, p4, reduceIte, p5, p6, p7, p8]
  have h := run_some h
  obtain rfl : _ = r := h
  refine FinH.l ?_
  simp -failIfUnchanged only [↓RA, RB, RS, fx169, p1, p2, p3, p4, reduceIte, p5, p6, p7, p8]

def fx171 := And.intro @ty_3 <| And.intro @zc_3 <| And.intro @z_3 <| And.intro @ty_119 <| And.intro @zc_119 <| And.intro @z_119 <| And.intro @es_119 <| And.intro @eb_119 <| And.intro @sl_119 <| And.intro @is_119 <| And.intro @el_119 <| And.intro @ze_119 <| And.intro @ez_119 <| And.intro @ty_121 <| And.intro @zc_121 <| And.intro @z_121 <| And.intro @fo_121_0 <| And.intro @fi_121_0 <| And.intro @ft_121_0 <| And.intro @fo_121_1 <| And.intro @fi_121_1 <| And.intro @ft_121_1 <| And.intro @fo_121_2 <| And.intro @fi_121_2 <| And.intro @ft_121_2 <| And.intro @fo_121_3 <| And.intro @fi_121_3 <| And.intro @ft_121_3 <| @lay_121
set_option maxHeartbeats 4000000 in
theorem impl_AreContradictory_2_2_sat {a0 : Formula} {b0 : List Formula} {b1 : Int}  {r : Bool} (h : impl_AreContradictory_2_2 a0 b0 b1 = some r) : Sat Try.prog 171 [((Formula.pv false) a0), .ptr (.sl false 5 (b0.map (Formula.pv false))), .ptr (I b1)] (B r) := by
  replace h := Run.of h
  unfold impl_AreContradictory_2_2 at h
  refine Sat.of_m (nt := 9) (rs := [.tmp 4]) (n := 100000) Try.func171 rfl rfl rfl rfl (by simp) ?_
  simp -failIfUnchanged only [↓RA, RB, RS, fx171, p1, p2, p3, p4, reduceIte, p5, p6, p7, p8]
  repeat (first | with_reducible refine noR_and (by repeat (first | exact noR_empty _ _ | exact noR_nilS _ _ | refine noR_mk _ _ _ _ _ rfl ?_ | refine noR_mkS _ _ _ _ _ rfl ?_)) ?_ | with_reducible refine noC_and (by repeat (first | exact noC_empty _ _ (by simp -failIfUnchanged only [↓RA, RB, RS, fx171, p1, p2, p3, p4, reduceIte, p5, p6, p7, p8]) | exact noC_nilS _ _ (by simp -failIfUnchanged only [↓RA, RB, RS, fx171, p1, p2, p3, p4, reduceIte, p5, p6, p7, p8]) | refine noC_mk _ _ _ _ _ rfl ?_ | refine noC_mkS _ _ _ _ _ rfl ?_)) ?_ | with_reducible refine and_ac ?_ | with_reducible refine And.intro (a := _ = List.range _) (by rfl) ?_)
  obtain ⟨v8, hv8, h⟩ := run_bind h
  refine CallH.mk [false, false, false] (impl_leafTruth_sat hv8) ?_ ?_ <;> simp -failIfUnchanged only [↓RA, RB, RS, fx171, p1, p2, p3, p4, reduceIte, p5, p6, p7, p8]
  have h := run_some h
  obtain rfl : _ = r := h
  refine FinH.l ?_
  simp -failIfUnchanged only [↓RA, RB, RS, fx171, p1, p2, p3, p4, reduceIte, p5, p6, p7, p8]

def fx167 := And.intro @ty_4 <| And.intro @zc_4 <| And.intro @z_4 <| And.intro @u_4 <| And.intro @ty_119 <| And.intro @zc_119 <| And.intro @z_119 <| And.intro @es_119 <| And.intro @eb_119 <| And.intro @sl_119 <| And.intro @is_119 <| And.intro @el_119 <| And.intro @ze_119 <| And.intro @ez_119 <| And.intro @ty_194 <| And.intro @zc_194 <| And.intro @z_194 <| And.intro @fo_194_0 <| And.intro @fi_194_0 <| And.intro @ft_194_0 <| And.intro @fo_194_1 <| And.intro @fi_194_1 <| And.intro @ft_194_1 <| And.intro @lay_194 <| And.intro @ty_203 <| And.intro @zc_203 <| @z_203
set_option maxHeartbeats 4000000 in
theorem impl_AreContradictory_2_sat {a0 : Sequent} {b0 : List Formula} {b1 : Int}  {r : Bool} (h : impl_AreContradictory_2 a0 b0 b1 = some r) : Sat Try.prog 167 [((Sequent.pv false) a0), .ptr (.sl false 5 (b0.map (Formula.pv false))), .ptr (I b1)] (B r) := by
  replace h := Run.of h
  unfold impl_AreContradictory_2 at h
  refine Sat.of_m (nt := 17) (rs := [.tmp 4]) (n := 100000) Try.func167 rfl rfl rfl rfl (by simp) ?_
  simp -failIfUnchanged only [↓RA, RB, RS, fx167, p1, p2, p3, p4, reduceIte, p5, p6, p7, p8]
  repeat (first | with_reducible refine noR_and (by repeat (first | exact noR_empty _ _ | exact noR_nilS _ _ | refine noR_mk _ _ _ _ _ rfl ?_ | refine noR_mkS _ _ _ _ _ rfl ?_)) ?_ | with_reducible refine noC_and (by repeat (first | exact noC_empty _ _ (by simp -failIfUnchanged only [↓RA, RB, RS, fx167, p1, p2, p3, p4, reduceIte, p5, p6, p7, p8]) | exact noC_nilS _ _ (by simp -failIfUnchanged only [↓RA, RB, RS, fx167, p1, p2, p3, p4, reduceIte, p5, p6, p7, p8]) | refine noC_mk _ _ _ _ _ rfl ?_ | refine noC_mkS _ _ _ _ _ rfl ?_)) ?_ | with_reducible refine and_ac ?_ | with_reducible refine And.intro (a := _ = List.range _) (by rfl) ?_)
  obtain ⟨v8, hv8, h⟩ := run_bind h
  refine CallH.mk [false, false] (slices_ContainsFunc_Simpl_Formula_impl_Formula_sat (fun _ _ hh => impl_AreContradictory_2_1_sat hh) (by simp only [CapsOk_nil, CapsOk_cons]) hv8) ?_ ?_ <;> simp -failIfUnchanged only [↓RA, RB, RS, fx167, p1, p2, p3, p4, reduceIte, p5, p6, p7, p8]
  refine CondH.mk (fun c1 => ?_) (fun c1 => ?_)
  · replace h := run_t c1 h
    simp -failIfUnchanged only [↓RA, RB, RS, fx167, p1, p2, p3, p4, reduceIte, p5, p6, p7, p8, c1]
    have h := run_some h
    obtain rfl : _ = r := h
    refine FinH.l ?_
    simp -failIfUnchanged only [↓RA, RB, RS, fx167, p1, p2, p3, p4, reduceIte, p5, p6, p7, p8, c1]
  · replace h := run_f c1 h
    simp -failIfUnchanged only [↓RA, RB, RS, fx167, p1, p2, p3, p4, reduceIte, p5, p6, p7, p8, c1]
    obtain ⟨v14, hv14, h⟩ := run_bind h
    refine CallH.mk [false, false] (slices_ContainsFunc_Simpl_Formula_impl_Formula_sat (fun _ _ hh => impl_AreContradictory_2_2_sat hh) (by simp only [CapsOk_nil, CapsOk_cons]) hv14) ?_ ?_ <;> simp -failIfUnchanged only [↓RA, RB, RS, fx167, p1, p2, p3, p4, reduceIte, p5, p6, p7, p8, c1]
    have h := run_some h
    obtain rfl : _ = r := h
    refine FinH.l ?_
    simp -failIfUnchanged only [↓RA, RB, RS, fx167, p1, p2, p3, p4, reduceIte, p5, p6, p7, p8, c1]

def fx77 := And.intro @ty_3 <| And.intro @zc_3 <| And.intro @z_3 <| And.intro @ty_4 <| And.intro @zc_4 <| And.intro @z_4 <| And.intro @u_4 <| And.intro @ty_112 <| And.intro @zc_112 <| And.intro @z_112 <| And.intro @es_112 <| And.intro @eb_112 <| And.intro @sl_112 <| And.intro @is_112 <| And.intro @el_112 <| And.intro @ze_112 <| And.intro @ez_112 <| And.intro @ty_119 <| And.intro @zc_119 <| And.intro @z_119 <| And.intro @es_119 <| And.intro @eb_119 <| And.intro @sl_119 <| And.intro @is_119 <| And.intro @el_119 <| And.intro @ze_119 <| And.intro @ez_119 <| And.intro @ty_121 <| And.intro @zc_121 <| And.intro @z_121 <| And.intro @fo_121_0 <| And.intro @fi_121_0 <| And.intro @ft_121_0 <| And.intro @fo_121_1 <| And.intro @fi_121_1 <| And.intro @ft_121_1 <| And.intro @fo_121_2 <| And.intro @fi_121_2 <| And.intro @ft_121_2 <| And.intro @fo_121_3 <| And.intro @fi_121_3 <| And.intro @ft_121_3 <| And.intro @lay_121 <| And.intro @ty_192 <| And.intro @zc_192 <| And.intro @z_192 <| And.intro @ty_194 <| And.intro @zc_194 <| And.intro @z_194 <| And.intro @fo_194_0 <| And.intro @fi_194_0 <| And.intro @ft_194_0 <| And.intro @fo_194_1 <| And.intro @fi_194_1 <| And.intro @ft_194_1 <| And.intro @lay_194 <| And.intro @ty_255 <| And.intro @zc_255 <| And.intro @z_255 <| And.intro @es_255 <| And.intro @eb_255 <| And.intro @sl_255 <| And.intro @is_255 <| And.intro @el_255 <| And.intro @ze_255 <| @ez_255
set_option maxHeartbeats 4000000 in
theorem impl_AreContradictory_sat {a0 : List Sequent}  {r : Bool × Bool} (h : impl_AreContradictory a0 = some r) : Sat Try.prog 77 [(.sl false 2 (a0.map (Sequent.pv false)))] (.tup [(B r.1), (B r.2)]) := by
  replace h := Run.of h
  unfold impl_AreContradictory at h
  refine Sat.of_m (nt := 54) (rs := [.tmp 2, .tmp 3]) (n := 100000) Try.func77 rfl rfl rfl rfl (by simp) ?_
  simp -failIfUnchanged only [↓RA, RB, RS, fx77, p1, p2, p3, p4, reduceIte, p5, p6, p7, p8]
  refine CondH.mk (fun c1 => ?_) (fun c1 => ?_)
  · replace h := run_t c1 h
    simp -failIfUnchanged only [↓RA, RB, RS, fx77, p1, p2, p3, p4, reduceIte, p5, p6, p7, p8, c1]
    have h := run_some h
    obtain rfl : _ = r := h
    refine FinH.l ?_
    simp -failIfUnchanged only [↓RA, RB, RS, fx77, p1, p2, p3, p4, reduceIte, p5, p6, p7, p8, c1]
  · replace h := run_f c1 h
    simp -failIfUnchanged only [↓RA, RB, RS, fx77, p1, p2, p3, p4, reduceIte, p5, p6, p7, p8, c1]
    obtain ⟨v15, hv15, h⟩ := run_bind h
    refine CallH.mk [false, false] (slices_ContainsFunc_Simpl_Sequent_impl_Sequent_sat (fun _ _ hh => impl_AreContradictory_1_sat hh) (by simp only [CapsOk_nil, CapsOk_cons]) hv15) ?_ ?_ <;> simp -failIfUnchanged only [↓RA, RB, RS, fx77, p1, p2, p3, p4, reduceIte, p5, p6, p7, p8, c1]
    refine CondH.mk (fun c2 => ?_) (fun c2 => ?_)
    · replace h := run_t c2 h
      simp -failIfUnchanged only [↓RA, RB, RS, fx77, p1, p2, p3, p4, reduceIte, p5, p6, p7, p8, c1, c2]
      have h := run_some h
      obtain rfl : _ = r := h
      refine FinH.l ?_
      simp -failIfUnchanged only [↓RA, RB, RS, fx77, p1, p2, p3, p4, reduceIte, p5, p6, p7, p8, c1, c2]
    · replace h := run_f c2 h
      simp -failIfUnchanged only [↓RA, RB, RS, fx77, p1, p2, p3, p4, reduceIte, p5, p6, p7, p8, c1, c2]
      repeat (first | with_reducible refine noR_and (by repeat (first | exact noR_empty _ _ | exact noR_nilS _ _ | refine noR_mk _ _ _ _ _ rfl ?_ | refine noR_mkS _ _ _ _ _ rfl ?_)) ?_ | with_reducible refine noC_and (by repeat (first | exact noC_empty _ _ (by simp -failIfUnchanged only [↓RA, RB, RS, fx77, p1, p2, p3, p4, reduceIte, p5, p6, p7, p8]) | exact noC_nilS _ _ (by simp -failIfUnchanged only [↓RA, RB, RS, fx77, p1, p2, p3, p4, reduceIte, p5, p6, p7, p8]) | refine noC_mk _ _ _ _ _ rfl ?_ | refine noC_mkS _ _ _ _ _ rfl ?_)) ?_ | with_reducible refine and_ac ?_ | with_reducible refine And.intro (a := _ = List.range _) (by rfl) ?_)
      refine Mg.know_sl (b := false) (sz := 2) (es := a0.map (Sequent.pv false)) 0 (by simp -failIfUnchanged only [↓RA, RB, RS, fx77, p1, p2, p3, p4, reduceIte, p5, p6, p7, p8, c1, c2]) fun hl0 => ?_; rw [List.length_map] at hl0
      replace h := run_loop h
      refine Mg.forN h (fun i5 s5 => [(0, .val (.pv (.sl false 2 (a0.map (Sequent.pv false))))), (4, .box (.own 272)), (18, .val (.pv (.sl false 2 (a0.map (Sequent.pv false))))), (19, .val (.pv (I (a0.length : Int)))), (20, .val (.pv (I (i5 : Int))))]) (fun i5 s5 => [(272, (5, s5.map (Formula.pv false)))]) (St.le_mk2 (by simp -failIfUnchanged only [↓RA, RB, RS, fx77, p1, p2, p3, p4, reduceIte, p5, p6, p7, p8, c1, c2])) (fun i5 s5 hi h => ?_) (fun s5 h => ?_)
      · have w5 := wrap_succ (i := i5) (by omega)
        simp -failIfUnchanged only [↓RA, RB, RS, fx77, p1, p2, p3, p4, reduceIte, p5, p6, p7, p8, c1, c2]
        refine CondH.tt (decide_eq_true (by omega)) (fun c3 => ?_)
        simp -failIfUnchanged only [↓RA, RB, RS, fx77, p1, p2, p3, p4, reduceIte, p5, p6, p7, p8, c1, c2, c3]
        obtain ⟨v22, hv22, h⟩ := run_bind h
        refine IdxH.mk (f := (Sequent.pv false)) hv22 ?_ ?_ <;> simp -failIfUnchanged only [↓RA, RB, RS, fx77, p1, p2, p3, p4, reduceIte, p5, p6, p7, p8, c1, c2, c3]
        repeat (first | with_reducible refine noR_and (by repeat (first | exact noR_empty _ _ | exact noR_nilS _ _ | refine noR_mk _ _ _ _ _ rfl ?_ | refine noR_mkS _ _ _ _ _ rfl ?_)) ?_ | with_reducible refine noC_and (by repeat (first | exact noC_empty _ _ (by simp -failIfUnchanged only [↓RA, RB, RS, fx77, p1, p2, p3, p4, reduceIte, p5, p6, p7, p8]) | exact noC_nilS _ _ (by simp -failIfUnchanged only [↓RA, RB, RS, fx77, p1, p2, p3, p4, reduceIte, p5, p6, p7, p8]) | refine noC_mk _ _ _ _ _ rfl ?_ | refine noC_mkS _ _ _ _ _ rfl ?_)) ?_ | with_reducible refine and_ac ?_ | with_reducible refine And.intro (a := _ = List.range _) (by rfl) ?_)
        obtain ⟨v29, hv29, h⟩ := run_bind h
        refine CallH.mk [true] (Sat.give (args := [(.sl true 1 (([v22.Left, v22.Right]).map (Lv false 5 (Formula.pv false))))]) [true] (by have gg := slices_Concat_Simpl_Formula_impl_Formula_sat hv29; simp only [gv_t, gv_f, gv_n, view_sl, view_agg, view_lit, PV.views, RB, RS] at gg ⊢; exact gg)) (by simp -failIfUnchanged only [↓RA, RB, RS, fx77, p1, p2, p3, p4, reduceIte, p5, p6, p7, p8, c1, c2, c3]) ?_
        simp -failIfUnchanged only [↓RA, RB, RS, fx77, p1, p2, p3, p4, reduceIte, p5, p6, p7, p8, c1, c2, c3]
        repeat (first | with_reducible refine noR_and (by repeat (first | exact noR_empty _ _ | exact noR_nilS _ _ | refine noR_mk _ _ _ _ _ rfl ?_ | refine noR_mkS _ _ _ _ _ rfl ?_)) ?_ | with_reducible refine noC_and (by repeat (first | exact noC_empty _ _ (by simp -failIfUnchanged only [↓RA, RB, RS, fx77, p1, p2, p3, p4, reduceIte, p5, p6, p7, p8]) | exact noC_nilS _ _ (by simp -failIfUnchanged only [↓RA, RB, RS, fx77, p1, p2, p3, p4, reduceIte, p5, p6, p7, p8]) | refine noC_mk _ _ _ _ _ rfl ?_ | refine noC_mkS _ _ _ _ _ rfl ?_)) ?_ | with_reducible refine and_ac ?_ | with_reducible refine And.intro (a := _ = List.range _) (by rfl) ?_)
        refine Mg.know_own (sz := 5) (es := v29.map (Formula.pv false)) 464 (by simp -failIfUnchanged only [↓RA, RB, RS, fx77, p1, p2, p3, p4, reduceIte, p5, p6, p7, p8, c1, c2, c3]) fun hl464 => ?_; rw [List.length_map] at hl464
        replace h := run_loop h
        refine Mg.forN h (fun i8 s8 => [(0, .val (.pv (.sl false 2 (a0.map (Sequent.pv false))))), (4, .box (.own 272)), (18, .val (.pv (.sl false 2 (a0.map (Sequent.pv false))))), (19, .val (.pv (I (a0.length : Int)))), (20, .val (.pv (I (i5 : Int)))), (29, .val (.own 464)), (30, .val (.pv (I (v29.length : Int)))), (31, .val (.pv (I (i8 : Int))))]) (fun i8 s8 => [(272, (5, s8.map (Formula.pv false))), (464, (5, v29.map (Formula.pv false)))]) (St.le_mk2 (by simp -failIfUnchanged only [↓RA, RB, RS, fx77, p1, p2, p3, p4, reduceIte, p5, p6, p7, p8, c1, c2, c3])) (fun i8 s8 hi h => ?_) (fun s8 h => ?_)
        · have w8 := wrap_succ (i := i8) (by omega)
          simp -failIfUnchanged only [↓RA, RB, RS, fx77, p1, p2, p3, p4, reduceIte, p5, p6, p7, p8, c1, c2, c3]
          refine CondH.tt (decide_eq_true (by omega)) (fun c4 => ?_)
          simp -failIfUnchanged only [↓RA, RB, RS, fx77, p1, p2, p3, p4, reduceIte, p5, p6, p7, p8, c1, c2, c3, c4]
          obtain ⟨v33, hv33, h⟩ := run_bind h
          refine IdxH.mk (f := (Formula.pv false)) hv33 ?_ ?_ <;> simp -failIfUnchanged only [↓RA, RB, RS, fx77, p1, p2, p3, p4, reduceIte, p5, p6, p7, p8, c1, c2, c3, c4]
          obtain ⟨v34, hv34, h⟩ := run_bind h
          refine EldH.mk (f := (Formula.pv false)) hv34 rfl ?_ ?_ <;> simp -failIfUnchanged only [↓RA, RB, RS, fx77, p1, p2, p3, p4, reduceIte, p5, p6, p7, p8, c1, c2, c3, c4]
          repeat (first | with_reducible refine noR_and (by repeat (first | exact noR_empty _ _ | exact noR_nilS _ _ | refine noR_mk _ _ _ _ _ rfl ?_ | refine noR_mkS _ _ _ _ _ rfl ?_)) ?_ | with_reducible refine noC_and (by repeat (first | exact noC_empty _ _ (by simp -failIfUnchanged only [↓RA, RB, RS, fx77, p1, p2, p3, p4, reduceIte, p5, p6, p7, p8]) | exact noC_nilS _ _ (by simp -failIfUnchanged only [↓RA, RB, RS, fx77, p1, p2, p3, p4, reduceIte, p5, p6, p7, p8]) | refine noC_mk _ _ _ _ _ rfl ?_ | refine noC_mkS _ _ _ _ _ rfl ?_)) ?_ | with_reducible refine and_ac ?_ | with_reducible refine And.intro (a := _ = List.range _) (by rfl) ?_)
          obtain ⟨v37, hv37, h⟩ := run_bind h
          refine CallH.mk [true, false] (impl_leaves_sat hv37) ?_ ?_ <;> simp -failIfUnchanged only [↓RA, RB, RS, fx77, p1, p2, p3, p4, reduceIte, p5, p6, p7, p8, c1, c2, c3, c4]
          repeat (first | with_reducible refine noR_and (by repeat (first | exact noR_empty _ _ | exact noR_nilS _ _ | refine noR_mk _ _ _ _ _ rfl ?_ | refine noR_mkS _ _ _ _ _ rfl ?_)) ?_ | with_reducible refine noC_and (by repeat (first | exact noC_empty _ _ (by simp -failIfUnchanged only [↓RA, RB, RS, fx77, p1, p2, p3, p4, reduceIte, p5, p6, p7, p8]) | exact noC_nilS _ _ (by simp -failIfUnchanged only [↓RA, RB, RS, fx77, p1, p2, p3, p4, reduceIte, p5, p6, p7, p8]) | refine noC_mk _ _ _ _ _ rfl ?_ | refine noC_mkS _ _ _ _ _ rfl ?_)) ?_ | with_reducible refine and_ac ?_ | with_reducible refine And.intro (a := _ = List.range _) (by rfl) ?_)
          have h := run_some h
          refine RdH.mk ⟨_, h, ?_⟩
          refine St.le_trans (St.le_mk (S := [(0, .val (.pv (.sl false 2 (a0.map (Sequent.pv false))))), (4, .box (.own 592)), (18, .val (.pv (.sl false 2 (a0.map (Sequent.pv false))))), (19, .val (.pv (I (a0.length : Int)))), (20, .val (.pv (I (i5 : Int)))), (29, .val (.own 464)), (30, .val (.pv (I (v29.length : Int)))), (31, .val (.pv (I (IntKind.i64.wrap ((i8 : Int) + (1 : Int))))))]) (O := [(592, (5, v37.map (Formula.pv false))), (464, (5, v29.map (Formula.pv false)))]) (by simp -failIfUnchanged only [↓RA, RB, RS, fx77, p1, p2, p3, p4, reduceIte, p5, p6, p7, p8, c1, c2, c3, c4, w8]) (by simp -failIfUnchanged only [↓RA, RB, RS, fx77, p1, p2, p3, p4, reduceIte, p5, p6, p7, p8, c1, c2, c3, c4, w8])) ?_
          refine St.le_rn 592 272 (by decide) (by repeat (first | exact noC_empty _ _ (by simp -failIfUnchanged only [↓RA, RB, RS, fx77, p1, p2, p3, p4, reduceIte, p5, p6, p7, p8]) | exact noC_nilS _ _ (by simp -failIfUnchanged only [↓RA, RB, RS, fx77, p1, p2, p3, p4, reduceIte, p5, p6, p7, p8]) | refine noC_mk _ _ _ _ _ rfl ?_ | refine noC_mkS _ _ _ _ _ rfl ?_)) ?_
          refine St.le_mk2 ?_
          simp -failIfUnchanged only [↓RA, RB, RS, fx77, p1, p2, p3, p4, reduceIte, p5, p6, p7, p8, c1, c2, c3, c4, w8]
        · simp -failIfUnchanged only [↓RA, RB, RS, fx77, p1, p2, p3, p4, reduceIte, p5, p6, p7, p8, c1, c2, c3]
          refine CondH.ff (decide_eq_false (by omega)) (fun c5 => ?_)
          simp -failIfUnchanged only [↓RA, RB, RS, fx77, p1, p2, p3, p4, reduceIte, p5, p6, p7, p8, c1, c2, c3, c5]
          have h := run_some h
          refine RdH.mk ⟨_, h, ?_⟩
          refine St.le_mk2 ?_
          simp -failIfUnchanged only [↓RA, RB, RS, fx77, p1, p2, p3, p4, reduceIte, p5, p6, p7, p8, c1, c2, c3, c5, w5]
      · simp -failIfUnchanged only [↓RA, RB, RS, fx77, p1, p2, p3, p4, reduceIte, p5, p6, p7, p8, c1, c2]
        refine CondH.ff (decide_eq_false (by omega)) (fun c6 => ?_)
        simp -failIfUnchanged only [↓RA, RB, RS, fx77, p1, p2, p3, p4, reduceIte, p5, p6, p7, p8, c1, c2, c6]
        refine CondH.mk (fun c7 => ?_) (fun c7 => ?_)
        · replace h := run_t c7 h
          simp -failIfUnchanged only [↓RA, RB, RS, fx77, p1, p2, p3, p4, reduceIte, p5, p6, p7, p8, c1, c2, c6, c7]
          have h := run_some h
          obtain rfl : _ = r := h
          refine FinH.l ?_
          simp -failIfUnchanged only [↓RA, RB, RS, fx77, p1, p2, p3, p4, reduceIte, p5, p6, p7, p8, c1, c2, c6, c7]
        · replace h := run_f c7 h
          simp -failIfUnchanged only [↓RA, RB, RS, fx77, p1, p2, p3, p4, reduceIte, p5, p6, p7, p8, c1, c2, c6, c7]
          obtain ⟨v45, hv45, h⟩ := run_bind h
          refine ShlH.mk hv45 ?_
          simp -failIfUnchanged only [↓RA, RB, RS, fx77, p1, p2, p3, p4, reduceIte, p5, p6, p7, p8, c1, c2, c6, c7]
          obtain ⟨N16, hN16, h⟩ := run_bind h
          obtain ⟨hN16a, hN16b⟩ := bnd_some hN16
          replace h := run_loop h
          refine Mg.forN h (fun i16 s16 => [(0, .val (.pv (.sl false 2 (a0.map (Sequent.pv false))))), (4, .val (.pv (.ptr (.sl false 5 (s5.map (Formula.pv false)))))), (45, .val (.pv (I v45))), (46, .val (.pv (I (i16 : Int))))]) (fun i16 s16 => []) (St.le_trans (St.le_demB (x := (.own 272)) (sz := (5)) (es := s5.map (Formula.pv false)) 4 [] 272 (by simp -failIfUnchanged only [↓RA, RB, RS, fx77, p1, p2, p3, p4, reduceIte, p5, p6, p7, p8, c1, c2, c6, c7])) (St.le_trans (St.le_frz (x := (.pv (.sl false 5 (s5.map (Formula.pv false))))) 4 (by simp -failIfUnchanged only [↓RA, RB, RS, fx77, p1, p2, p3, p4, reduceIte, p5, p6, p7, p8, c1, c2, c6, c7])) (St.le_mk2 (by simp -failIfUnchanged only [↓RA, RB, RS, fx77, p1, p2, p3, p4, reduceIte, p5, p6, p7, p8, c1, c2, c6, c7])))) (fun i16 s16 hi h => ?_) (fun s16 h => ?_)
          · have w16 := wrap_succ (i := i16) (by omega)
            simp -failIfUnchanged only [↓RA, RB, RS, fx77, p1, p2, p3, p4, reduceIte, p5, p6, p7, p8, c1, c2, c6, c7]
            refine CondH.tt (decide_eq_true (by omega)) (fun c8 => ?_)
            simp -failIfUnchanged only [↓RA, RB, RS, fx77, p1, p2, p3, p4, reduceIte, p5, p6, p7, p8, c1, c2, c6, c7, c8]
            repeat (first | with_reducible refine noR_and (by repeat (first | exact noR_empty _ _ | exact noR_nilS _ _ | refine noR_mk _ _ _ _ _ rfl ?_ | refine noR_mkS _ _ _ _ _ rfl ?_)) ?_ | with_reducible refine noC_and (by repeat (first | exact noC_empty _ _ (by simp -failIfUnchanged only [↓RA, RB, RS, fx77, p1, p2, p3, p4, reduceIte, p5, p6, p7, p8]) | exact noC_nilS _ _ (by simp -failIfUnchanged only [↓RA, RB, RS, fx77, p1, p2, p3, p4, reduceIte, p5, p6, p7, p8]) | refine noC_mk _ _ _ _ _ rfl ?_ | refine noC_mkS _ _ _ _ _ rfl ?_)) ?_ | with_reducible refine and_ac ?_ | with_reducible refine And.intro (a := _ = List.range _) (by rfl) ?_)
            obtain ⟨v51, hv51, h⟩ := run_bind h
            refine CallH.mk [false, false] (slices_ContainsFunc_Simpl_Sequent_impl_Sequent_sat (fun _ _ hh => impl_AreContradictory_2_sat hh) (by simp only [CapsOk_nil, CapsOk_cons]) hv51) ?_ ?_ <;> simp -failIfUnchanged only [↓RA, RB, RS, fx77, p1, p2, p3, p4, reduceIte, p5, p6, p7, p8, c1, c2, c6, c7, c8]
            refine CondH.mk (fun c9 => ?_) (fun c9 => ?_)
            · replace h := run_t c9 h
              simp -failIfUnchanged only [↓RA, RB, RS, fx77, p1, p2, p3, p4, reduceIte, p5, p6, p7, p8, c1, c2, c6, c7, c8, c9]
              have h := run_some h
              refine RdH.mk ⟨_, h, ?_⟩
              refine St.le_mk2 ?_
              simp -failIfUnchanged only [↓RA, RB, RS, fx77, p1, p2, p3, p4, reduceIte, p5, p6, p7, p8, c1, c2, c6, c7, c8, c9, w16]
            · replace h := run_f c9 h
              simp -failIfUnchanged only [↓RA, RB, RS, fx77, p1, p2, p3, p4, reduceIte, p5, p6, p7, p8, c1, c2, c6, c7, c8, c9]
              have h := run_some h
              obtain rfl : _ = r := h
              refine FinH.l ?_
              simp -failIfUnchanged only [↓RA, RB, RS, fx77, p1, p2, p3, p4, reduceIte, p5, p6, p7, p8, c1, c2, c6, c7, c8, c9]
          · simp -failIfUnchanged only [↓RA, RB, RS, fx77, p1, p2, p3, p4, reduceIte, p5, p6, p7, p8, c1, c2, c6, c7]
            refine CondH.ff (decide_eq_false (by omega)) (fun c10 => ?_)
            simp -failIfUnchanged only [↓RA, RB, RS, fx77, p1, p2, p3, p4, reduceIte, p5, p6, p7, p8, c1, c2, c6, c7, c10]
            have h := run_some h
            obtain rfl : _ = r := h
            refine FinH.l ?_
            simp -failIfUnchanged only [↓RA, RB, RS, fx77, p1, p2, p3, p4, reduceIte, p5, p6, p7, p8, c1, c2, c6, c7, c10]

def fx24 := And.intro @ty_4 <| And.intro @zc_4 <| And.intro @z_4 <| And.intro @u_4 <| And.intro @ty_9 <| And.intro @zc_9 <| And.intro @z_9 <| And.intro @u_9 <| And.intro @ty_27 <| And.intro @zc_27 <| And.intro @z_27 <| And.intro @es_27 <| And.intro @eb_27 <| And.intro @sl_27 <| And.intro @is_27 <| And.intro @el_27 <| And.intro @ze_27 <| And.intro @ez_27 <| And.intro @ty_35 <| And.intro @zc_35 <| And.intro @z_35 <| And.intro @fo_35_0 <| And.intro @fi_35_0 <| And.intro @ft_35_0 <| And.intro @fo_35_1 <| And.intro @fi_35_1 <| And.intro @ft_35_1 <| @lay_35
def fx25 := And.intro @ty_3 <| And.intro @zc_3 <| And.intro @z_3 <| And.intro @ty_4 <| And.intro @zc_4 <| And.intro @z_4 <| And.intro @u_4 <| And.intro @ty_27 <| And.intro @zc_27 <| And.intro @z_27 <| And.intro @es_27 <| And.intro @eb_27 <| And.intro @sl_27 <| And.intro @is_27 <| And.intro @el_27 <| And.intro @ze_27 <| And.intro @ez_27 <| And.intro @ty_35 <| And.intro @zc_35 <| And.intro @z_35 <| And.intro @fo_35_0 <| And.intro @fi_35_0 <| And.intro @ft_35_0 <| And.intro @fo_35_1 <| And.intro @fi_35_1 <| And.intro @ft_35_1 <| And.intro @lay_35 <| @mixedT
set_option maxHeartbeats 4000000 in
theorem eqTermN_sat (n : Nat) : (∀ (a0 : Term) (a1 : Term) (r : Bool), eqTermN n a0 a1 = some r → Sat Try.prog 24 [((Term.pv false) a0), ((Term.pv false) a1)] (B r)) ∧ (∀ (a0 : List Term) (a1 : List Term) (r : Bool), eqTermSN n a0 a1 = some r → Sat Try.prog 25 [(.sl false 2 (a0.map (Term.pv false))), (.sl false 2 (a1.map (Term.pv false)))] (B r)) := by
  induction n with
  | zero => exact ⟨fun _ _ _ h => by simp [eqTermN] at h, fun _ _ _ h => by simp [eqTermSN] at h⟩
  | succ n ih =>
    refine ⟨fun a0 a1 r h => ?_, fun a0 a1 r h => ?_⟩
    · replace h := Run.of h
      rw [eqTermN] at h
      refine Sat.of_m (nt := 16) (rs := [.tmp 4]) (n := 100000) Try.func24 rfl rfl rfl rfl (by simp) ?_
      simp -failIfUnchanged only [↓RA, RB, RS, fx24, p1, p2, p3, p4, reduceIte, p5, p6, p7, p8]
      repeat (first | with_reducible refine noR_and (by repeat (first | exact noR_empty _ _ | exact noR_nilS _ _ | refine noR_mk _ _ _ _ _ rfl ?_ | refine noR_mkS _ _ _ _ _ rfl ?_)) ?_ | with_reducible refine noC_and (by repeat (first | exact noC_empty _ _ (by simp -failIfUnchanged only [↓RA, RB, RS, fx24, p1, p2, p3, p4, reduceIte, p5, p6, p7, p8]) | exact noC_nilS _ _ (by simp -failIfUnchanged only [↓RA, RB, RS, fx24, p1, p2, p3, p4, reduceIte, p5, p6, p7, p8]) | refine noC_mk _ _ _ _ _ rfl ?_ | refine noC_mkS _ _ _ _ _ rfl ?_)) ?_ | with_reducible refine and_ac ?_ | with_reducible refine And.intro (a := _ = List.range _) (by rfl) ?_)
      refine CondH.mk (fun c1 => ?_) (fun c1 => ?_)
      · replace h := run_t c1 h
        simp -failIfUnchanged only [↓RA, RB, RS, fx24, p1, p2, p3, p4, reduceIte, p5, p6, p7, p8, c1]
        obtain ⟨v14, hv14, h⟩ := run_bind h
        refine CallH.mk [false, false] (ih.2 _ _ _ hv14) ?_ ?_ <;> simp -failIfUnchanged only [↓RA, RB, RS, fx24, p1, p2, p3, p4, reduceIte, p5, p6, p7, p8, c1]
        refine CondH.mk (fun c2 => ?_) (fun c2 => ?_)
        · replace h := run_t c2 h
          simp -failIfUnchanged only [↓RA, RB, RS, fx24, p1, p2, p3, p4, reduceIte, p5, p6, p7, p8, c1, c2]
          have h := run_some h
          obtain rfl : _ = r := h
          refine FinH.l ?_
          simp -failIfUnchanged only [↓RA, RB, RS, fx24, p1, p2, p3, p4, reduceIte, p5, p6, p7, p8, c1, c2]
        · replace h := run_f c2 h
          simp -failIfUnchanged only [↓RA, RB, RS, fx24, p1, p2, p3, p4, reduceIte, p5, p6, p7, p8, c1, c2]
          have h := run_some h
          obtain rfl : _ = r := h
          refine FinH.l ?_
          simp -failIfUnchanged only [↓RA, RB, RS, fx24, p1, p2, p3, p4, reduceIte, p5, p6, p7, p8, c1, c2]
      · replace h := run_f c1 h
        simp -failIfUnchanged only [↓RA, RB, RS, fx24, p1, p2, p3, p4, reduceIte, p5, p6, p7, p8, c1]
        have h := run_some h
        obtain rfl : _ = r := h
        refine FinH.l ?_
        simp -failIfUnchanged only [↓RA, RB, RS, fx24, p1, p2, p3, p4, reduceIte, p5, p6, p7, p8, c1]
    · replace h := Run.of h
      rw [eqTermSN] at h
      refine Sat.of_m (nt := 27) (rs := [.tmp 4]) (n := 100000) Try.func25 rfl rfl rfl rfl (by simp) ?_
      simp -failIfUnchanged only [↓RA, RB, RS, fx25, p1, p2, p3, p4, reduceIte, p5, p6, p7, p8]
      refine CondH.mk (fun c1 => ?_) (fun c1 => ?_)
      · replace h := run_t c1 h
        simp -failIfUnchanged only [↓RA, RB, RS, fx25, p1, p2, p3, p4, reduceIte, p5, p6, p7, p8, c1]
        refine Mg.know_sl (b := false) (sz := 2) (es := a0.map (Term.pv false)) 0 (by simp -failIfUnchanged only [↓RA, RB, RS, fx25, p1, p2, p3, p4, reduceIte, p5, p6, p7, p8, c1]) fun hl0 => ?_; rw [List.length_map] at hl0
        replace h := run_loop h
        refine Mg.forN h (fun i4 s4 => [(0, .val (.pv (.sl false 2 (a0.map (Term.pv false))))), (1, .val (.pv (.sl false 2 (a1.map (Term.pv false))))), (5, .val (.pv (I (i4 : Int))))]) (fun i4 s4 => []) (St.le_mk2 (by simp -failIfUnchanged only [↓RA, RB, RS, fx25, p1, p2, p3, p4, reduceIte, p5, p6, p7, p8, c1])) (fun i4 s4 hi h => ?_) (fun s4 h => ?_)
        · have w4 := wrap_succ (i := i4) (by omega)
          simp -failIfUnchanged only [↓RA, RB, RS, fx25, p1, p2, p3, p4, reduceIte, p5, p6, p7, p8, c1]
          refine CondH.tt (decide_eq_true (by omega)) (fun c2 => ?_)
          simp -failIfUnchanged only [↓RA, RB, RS, fx25, p1, p2, p3, p4, reduceIte, p5, p6, p7, p8, c1, c2]
          obtain ⟨v19, hv19, h⟩ := run_bind h
          refine IdxH.mk (f := (Term.pv false)) hv19 ?_ ?_ <;> simp -failIfUnchanged only [↓RA, RB, RS, fx25, p1, p2, p3, p4, reduceIte, p5, p6, p7, p8, c1, c2]
          obtain ⟨v23, hv23, h⟩ := run_bind h
          refine IdxH.mk (f := (Term.pv false)) hv23 ?_ ?_ <;> simp -failIfUnchanged only [↓RA, RB, RS, fx25, p1, p2, p3, p4, reduceIte, p5, p6, p7, p8, c1, c2]
          obtain ⟨v25, hv25, h⟩ := run_bind h
          refine CallH.mk [false, false] (ih.1 _ _ _ hv25) ?_ ?_ <;> simp -failIfUnchanged only [↓RA, RB, RS, fx25, p1, p2, p3, p4, reduceIte, p5, p6, p7, p8, c1, c2]
          refine And.intro (DrawH.none (by rfl) (by first | rfl | (simp -failIfUnchanged only [↓RA, RB, RS, fx25, p1, p2, p3, p4, reduceIte, p5, p6, p7, p8] <;> rfl)) (by first | rfl | (simp -failIfUnchanged only [↓RA, RB, RS, fx25, p1, p2, p3, p4, reduceIte, p5, p6, p7, p8] <;> rfl)) (by first | rfl | (simp -failIfUnchanged only [↓RA, RB, RS, fx25, p1, p2, p3, p4, reduceIte, p5, p6, p7, p8] <;> rfl))) ?_
          simp -failIfUnchanged only [↓RA, RB, RS, fx25, p1, p2, p3, p4, reduceIte, p5, p6, p7, p8, c1, c2]
          refine CondH.mk (fun c3 => ?_) (fun c3 => ?_)
          · replace h := run_t c3 h
            simp -failIfUnchanged only [↓RA, RB, RS, fx25, p1, p2, p3, p4, reduceIte, p5, p6, p7, p8, c1, c2, c3]
            have h := run_some h
            refine RdH.mk ⟨_, h, ?_⟩
            refine St.le_mk2 ?_
            simp -failIfUnchanged only [↓RA, RB, RS, fx25, p1, p2, p3, p4, reduceIte, p5, p6, p7, p8, c1, c2, c3, w4]
          · replace h := run_f c3 h
            simp -failIfUnchanged only [↓RA, RB, RS, fx25, p1, p2, p3, p4, reduceIte, p5, p6, p7, p8, c1, c2, c3]
            have h := run_some h
            obtain rfl : _ = r := h
            refine FinH.l ?_
            simp -failIfUnchanged only [↓RA, RB, RS, fx25, p1, p2, p3, p4, reduceIte, p5, p6, p7, p8, c1, c2, c3]
        · simp -failIfUnchanged only [↓RA, RB, RS, fx25, p1, p2, p3, p4, reduceIte, p5, p6, p7, p8, c1]
          refine CondH.ff (decide_eq_false (by omega)) (fun c4 => ?_)
          simp -failIfUnchanged only [↓RA, RB, RS, fx25, p1, p2, p3, p4, reduceIte, p5, p6, p7, p8, c1, c4]
          have h := run_some h
          obtain rfl : _ = r := h
          refine FinH.l ?_
          simp -failIfUnchanged only [↓RA, RB, RS, fx25, p1, p2, p3, p4, reduceIte, p5, p6, p7, p8, c1, c4]
      · replace h := run_f c1 h
        simp -failIfUnchanged only [↓RA, RB, RS, fx25, p1, p2, p3, p4, reduceIte, p5, p6, p7, p8, c1]
        have h := run_some h
        obtain rfl : _ = r := h
        refine FinH.l ?_
        simp -failIfUnchanged only [↓RA, RB, RS, fx25, p1, p2, p3, p4, reduceIte, p5, p6, p7, p8, c1]
theorem eqTerm_sat {a0 : Term} {a1 : Term} {r : Bool} (h : eqTerm a0 a1 = some r) : Sat Try.prog 24 [((Term.pv false) a0), ((Term.pv false) a1)] (B r) := by
  obtain ⟨n, hn⟩ := lim_some h
  exact (eqTermN_sat n).1 _ _ _ hn
theorem eqTermS_sat {a0 : List Term} {a1 : List Term} {r : Bool} (h : eqTermS a0 a1 = some r) : Sat Try.prog 25 [(.sl false 2 (a0.map (Term.pv false))), (.sl false 2 (a1.map (Term.pv false)))] (B r) := by
  obtain ⟨n, hn⟩ := lim_some h
  exact (eqTermN_sat n).2 _ _ _ hn

def fx263 := And.intro @ty_3 <| And.intro @zc_3 <| And.intro @z_3 <| And.intro @ty_4 <| And.intro @zc_4 <| And.intro @z_4 <| And.intro @u_4 <| And.intro @ty_119 <| And.intro @zc_119 <| And.intro @z_119 <| And.intro @es_119 <| And.intro @eb_119 <| And.intro @sl_119 <| And.intro @is_119 <| And.intro @el_119 <| And.intro @ze_119 <| And.intro @ez_119 <| And.intro @ty_121 <| And.intro @zc_121 <| And.intro @z_121 <| And.intro @fo_121_0 <| And.intro @fi_121_0 <| And.intro @ft_121_0 <| And.intro @fo_121_1 <| And.intro @fi_121_1 <| And.intro @ft_121_1 <| And.intro @fo_121_2 <| And.intro @fi_121_2 <| And.intro @ft_121_2 <| And.intro @fo_121_3 <| And.intro @fi_121_3 <| And.intro @ft_121_3 <| And.intro @lay_121 <| @mixedT
def fx313 := And.intro @ty_3 <| And.intro @zc_3 <| And.intro @z_3 <| And.intro @ty_4 <| And.intro @zc_4 <| And.intro @z_4 <| And.intro @u_4 <| And.intro @ty_9 <| And.intro @zc_9 <| And.intro @z_9 <| And.intro @u_9 <| And.intro @ty_35 <| And.intro @zc_35 <| And.intro @z_35 <| And.intro @fo_35_0 <| And.intro @fi_35_0 <| And.intro @ft_35_0 <| And.intro @fo_35_1 <| And.intro @fi_35_1 <| And.intro @ft_35_1 <| And.intro @lay_35 <| And.intro @ty_119 <| And.intro @zc_119 <| And.intro @z_119 <| And.intro @es_119 <| And.intro @eb_119 <| And.intro @sl_119 <| And.intro @is_119 <| And.intro @el_119 <| And.intro @ze_119 <| And.intro @ez_119 <| And.intro @ty_121 <| And.intro @zc_121 <| And.intro @z_121 <| And.intro @fo_121_0 <| And.intro @fi_121_0 <| And.intro @ft_121_0 <| And.intro @fo_121_1 <| And.intro @fi_121_1 <| And.intro @ft_121_1 <| And.intro @fo_121_2 <| And.intro @fi_121_2 <| And.intro @ft_121_2 <| And.intro @fo_121_3 <| And.intro @fi_121_3 <| And.intro @ft_121_3 <| @lay_121
set_option maxHeartbeats 4000000 in
theorem eqFormulaSN_sat (n : Nat) : (∀ (a0 : List Formula) (a1 : List Formula) (r : Bool), eqFormulaSN n a0 a1 = some r → Sat Try.prog 263 [(.sl false 5 (a0.map (Formula.pv false))), (.sl false 5 (a1.map (Formula.pv false)))] (B r)) ∧ (∀ (a0 : Formula) (a1 : Formula) (r : Bool), eqFormulaN n a0 a1 = some r → Sat Try.prog 313 [((Formula.pv false) a0), ((Formula.pv false) a1)] (B r)) := by
  induction n with
  | zero => exact ⟨fun _ _ _ h => by simp [eqFormulaSN] at h, fun _ _ _ h => by simp [eqFormulaN] at h⟩
  | succ n ih =>
    refine ⟨fun a0 a1 r h => ?_, fun a0 a1 r h => ?_⟩
    · replace h := Run.of h
      rw [eqFormulaSN] at h
      refine Sat.of_m (nt := 27) (rs := [.tmp 4]) (n := 100000) Try.func263 rfl rfl rfl rfl (by simp) ?_
      simp -failIfUnchanged only [↓RA, RB, RS, fx263, p1, p2, p3, p4, reduceIte, p5, p6, p7, p8]
      refine CondH.mk (fun c1 => ?_) (fun c1 => ?_)
      · replace h := run_t c1 h
        simp -failIfUnchanged only [↓RA, RB, RS, fx263, p1, p2, p3, p4, reduceIte, p5, p6, p7, p8, c1]
        refine Mg.know_sl (b := false) (sz := 5) (es := a0.map (Formula.pv false)) 0 (by simp -failIfUnchanged only [↓RA, RB, RS, fx263, p1, p2, p3, p4, reduceIte, p5, p6, p7, p8, c1]) fun hl0 => ?_; rw [List.length_map] at hl0
        replace h := run_loop h
        refine Mg.forN h (fun i4 s4 => [(0, .val (.pv (.sl false 5 (a0.map (Formula.pv false))))), (1, .val (.pv (.sl false 5 (a1.map (Formula.pv false))))), (5, .val (.pv (I (i4 : Int))))]) (fun i4 s4 => []) (St.le_mk2 (by simp -failIfUnchanged only [↓RA, RB, RS, fx263, p1, p2, p3, p4, reduceIte, p5, p6, p7, p8, c1])) (fun i4 s4 hi h => ?_) (fun s4 h => ?_)
        · have w4 := wrap_succ (i := i4) (by omega)
          simp -failIfUnchanged only [↓RA, RB, RS, fx263, p1, p2, p3, p4, reduceIte, p5, p6, p7, p8, c1]
          refine CondH.tt (decide_eq_true (by omega)) (fun c2 => ?_)
          simp -failIfUnchanged only [↓RA, RB, RS, fx263, p1, p2, p3, p4, reduceIte, p5, p6, p7, p8, c1, c2]
          obtain ⟨v19, hv19, h⟩ := run_bind h
          refine IdxH.mk (f := (Formula.pv false)) hv19 ?_ ?_ <;> simp -failIfUnchanged only [↓RA, RB, RS, fx263, p1, p2, p3, p4, reduceIte, p5, p6, p7, p8, c1, c2]
          obtain ⟨v23, hv23, h⟩ := run_bind h
          refine IdxH.mk (f := (Formula.pv false)) hv23 ?_ ?_ <;> simp -failIfUnchanged only [↓RA, RB, RS, fx263, p1, p2, p3, p4, reduceIte, p5, p6, p7, p8, c1, c2]
          obtain ⟨v25, hv25, h⟩ := run_bind h
          refine CallH.mk [false, false] (ih.2 _ _ _ hv25) ?_ ?_ <;> simp -failIfUnchanged only [↓RA, RB, RS, fx263, p1, p2, p3, p4, reduceIte, p5, p6, p7, p8, c1, c2]
          refine And.intro (DrawH.none (by rfl) (by first | rfl | (simp -failIfUnchanged only [↓RA, RB, RS, fx263, p1, p2, p3, p4, reduceIte, p5, p6, p7, p8] <;> rfl)) (by first | rfl | (simp -failIfUnchanged only [↓RA, RB, RS, fx263, p1, p2, p3, p4, reduceIte, p5, p6, p7, p8] <;> rfl)) (by first | rfl | (simp -failIfUnchanged only [↓RA, RB, RS, fx263, p1, p2, p3, p4, reduceIte, p5, p6, p7, p8] <;> rfl))) ?_
          simp -failIfUnchanged only [↓RA, RB, RS, fx263, p1, p2, p3, p4, reduceIte, p5, p6, p7, p8, c1, c2]
          refine CondH.mk (fun c3 => ?_) (fun c3 => ?_)
          · replace h := run_t c3 h
            simp -failIfUnchanged only [↓RA, RB, RS, fx263, p1, p2, p3, p4, reduceIte, p5, p6, p7, p8, c1, c2, c3]
            have h := run_some h
            refine RdH.mk ⟨_, h, ?_⟩
            refine St.le_mk2 ?_
            simp -failIfUnchanged only [↓RA, RB, RS, fx263, p1, p2, p3, p4, reduceIte, p5, p6, p7, p8, c1, c2, c3, w4]
          · replace h := run_f c3 h
            simp -failIfUnchanged only [↓RA, RB, RS, fx263, p1, p2, p3, p4, reduceIte, p5, p6, p7, p8, c1, c2, c3]
            have h := run_some h
            obtain rfl : _ = r := h
            refine FinH.l ?_
            simp -failIfUnchanged only [↓RA, RB, RS, fx263, p1, p2, p3, p4, reduceIte, p5, p6, p7, p8, c1, c2, c3]
        · simp -failIfUnchanged only [↓RA, RB, RS, fx263, p1, p2, p3, p4, reduceIte, p5, p6, p7, p8, c1]
          refine CondH.ff (decide_eq_false (by omega)) (fun c4 => ?_)
          simp -failIfUnchanged only [↓RA, RB, RS, fx263, p1, p2, p3, p4, reduceIte, p5, p6, p7, p8, c1, c4]
          have h := run_some h
          obtain rfl : _ = r := h
          refine FinH.l ?_
          simp -failIfUnchanged only [↓RA, RB, RS, fx263, p1, p2, p3, p4, reduceIte, p5, p6, p7, p8, c1, c4]
      · replace h := run_f c1 h
        simp -failIfUnchanged only [↓RA, RB, RS, fx263, p1, p2, p3, p4, reduceIte, p5, p6, p7, p8, c1]
        have h := run_some h
        obtain rfl : _ = r := h
        refine FinH.l ?_
        simp -failIfUnchanged only [↓RA, RB, RS, fx263, p1, p2, p3, p4, reduceIte, p5, p6, p7, p8, c1]
    · replace h := Run.of h
      rw [eqFormulaN] at h
      refine Sat.of_m (nt := 27) (rs := [.tmp 4]) (n := 100000) Try.func313 rfl rfl rfl rfl (by simp) ?_
      simp -failIfUnchanged only [↓RA, RB, RS, fx313, p1, p2, p3, p4, reduceIte, p5, p6, p7, p8]
      repeat (first | with_reducible refine noR_and (by repeat (first | exact noR_empty _ _ | exact noR_nilS _ _ | refine noR_mk _ _ _ _ _ rfl ?_ | refine noR_mkS _ _ _ _ _ rfl ?_)) ?_ | with_reducible refine noC_and (by repeat (first | exact noC_empty _ _ (by simp -failIfUnchanged only [↓RA, RB, RS, fx313, p1, p2, p3, p4, reduceIte, p5, p6, p7, p8]) | exact noC_nilS _ _ (by simp -failIfUnchanged only [↓RA, RB, RS, fx313, p1, p2, p3, p4, reduceIte, p5, p6, p7, p8]) | refine noC_mk _ _ _ _ _ rfl ?_ | refine noC_mkS _ _ _ _ _ rfl ?_)) ?_ | with_reducible refine and_ac ?_ | with_reducible refine And.intro (a := _ = List.range _) (by rfl) ?_)
      refine CondH.mk (fun c1 => ?_) (fun c1 => ?_)
      · replace h := run_t c1 h
        simp -failIfUnchanged only [↓RA, RB, RS, fx313, p1, p2, p3, p4, reduceIte, p5, p6, p7, p8, c1]
        obtain ⟨v14, hv14, h⟩ := run_bind h
        refine CallH.mk [false, false] (eqTerm_sat hv14) ?_ ?_ <;> simp -failIfUnchanged only [↓RA, RB, RS, fx313, p1, p2, p3, p4, reduceIte, p5, p6, p7, p8, c1]
        refine CondH.mk (fun c2 => ?_) (fun c2 => ?_)
        · replace h := run_t c2 h
          simp -failIfUnchanged only [↓RA, RB, RS, fx313, p1, p2, p3, p4, reduceIte, p5, p6, p7, p8, c1, c2]
          refine CondH.mk (fun c3 => ?_) (fun c3 => ?_)
          · replace h := run_t c3 h
            simp -failIfUnchanged only [↓RA, RB, RS, fx313, p1, p2, p3, p4, reduceIte, p5, p6, p7, p8, c1, c2, c3]
            obtain ⟨v25, hv25, h⟩ := run_bind h
            refine CallH.mk [false, false] (ih.1 _ _ _ hv25) ?_ ?_ <;> simp -failIfUnchanged only [↓RA, RB, RS, fx313, p1, p2, p3, p4, reduceIte, p5, p6, p7, p8, c1, c2, c3]
            refine CondH.mk (fun c4 => ?_) (fun c4 => ?_)
            · replace h := run_t c4 h
              simp -failIfUnchanged only [↓RA, RB, RS, fx313, p1, p2, p3, p4, reduceIte, p5, p6, p7, p8, c1, c2, c3, c4]
              have h := run_some h
              obtain rfl : _ = r := h
              refine FinH.l ?_
              simp -failIfUnchanged only [↓RA, RB, RS, fx313, p1, p2, p3, p4, reduceIte, p5, p6, p7, p8, c1, c2, c3, c4]
            · replace h := run_f c4 h
              simp -failIfUnchanged only [↓RA, RB, RS, fx313, p1, p2, p3, p4, reduceIte, p5, p6, p7, p8, c1, c2, c3, c4]
              have h := run_some h
              obtain rfl : _ = r := h
              refine FinH.l ?_
              simp -failIfUnchanged only [↓RA, RB, RS, fx313, p1, p2, p3, p4, reduceIte, p5, p6, p7, p8, c1, c2, c3, c4]
          · replace h := run_f c3 h
            simp -failIfUnchanged only [↓RA, RB, RS, fx313, p1, p2, p3, p4, reduceIte, p5, p6, p7, p8, c1, c2, c3]
            have h := run_some h
            obtain rfl : _ = r := h
            refine FinH.l ?_
            simp -failIfUnchanged only [↓RA, RB, RS, fx313, p1, p2, p3, p4, reduceIte, p5, p6, p7, p8, c1, c2, c3]
        · replace h := run_f c2 h
          simp -failIfUnchanged only [↓RA, RB, RS, fx313, p1, p2, p3, p4, reduceIte, p5, p6, p7, p8, c1, c2]
          have h := run_some h
          obtain rfl : _ = r := h
          refine FinH.l ?_
          simp -failIfUnchanged only [↓RA, RB, RS, fx313, p1, p2, p3, p4, reduceIte, p5, p6, p7, p8, c1, c2]
      · replace h := run_f c1 h
        simp -failIfUnchanged only [↓RA, RB, RS, fx313, p1, p2, p3, p4, reduceIte, p5, p6, p7, p8, c1]
        have h := run_some h
        obtain rfl : _ = r := h
        refine FinH.l ?_
        simp -failIfUnchanged only [↓RA, RB, RS, fx313, p1, p2, p3, p4, reduceIte, p5, p6, p7, p8, c1]
theorem eqFormulaS_sat {a0 : List Formula} {a1 : List Formula} {r : Bool} (h : eqFormulaS a0 a1 = some r) : Sat Try.prog 263 [(.sl false 5 (a0.map (Formula.pv false))), (.sl false 5 (a1.map (Formula.pv false)))] (B r) := by
  obtain ⟨n, hn⟩ := lim_some h
  exact (eqFormulaSN_sat n).1 _ _ _ hn
theorem eqFormula_sat {a0 : Formula} {a1 : Formula} {r : Bool} (h : eqFormula a0 a1 = some r) : Sat Try.prog 313 [((Formula.pv false) a0), ((Formula.pv false) a1)] (B r) := by
  obtain ⟨n, hn⟩ := lim_some h
  exact (eqFormulaSN_sat n).2 _ _ _ hn

def fx172 := And.intro @ty_4 <| And.intro @zc_4 <| And.intro @z_4 <| And.intro @u_4 <| And.intro @ty_119 <| And.intro @zc_119 <| And.intro @z_119 <| And.intro @es_119 <| And.intro @eb_119 <| And.intro @sl_119 <| And.intro @is_119 <| And.intro @el_119 <| And.intro @ze_119 <| And.intro @ez_119 <| And.intro @ty_194 <| And.intro @zc_194 <| And.intro @z_194 <| And.intro @fo_194_0 <| And.intro @fi_194_0 <| And.intro @ft_194_0 <| And.intro @fo_194_1 <| And.intro @fi_194_1 <| And.intro @ft_194_1 <| @lay_194
set_option maxHeartbeats 4000000 in
theorem eqSequent_sat {a0 : Sequent} {a1 : Sequent}  {r : Bool} (h : eqSequent a0 a1 = some r) : Sat Try.prog 172 [((Sequent.pv false) a0), ((Sequent.pv false) a1)] (B r) := by
  replace h := Run.of h
  unfold eqSequent at h
  refine Sat.of_m (nt := 17) (rs := [.tmp 4]) (n := 100000) Try.func172 rfl rfl rfl rfl (by simp) ?_
  simp -failIfUnchanged only [↓RA, RB, RS, fx172, p1, p2, p3, p4, reduceIte, p5, p6, p7, p8]
  repeat (first | with_reducible refine noR_and (by repeat (first | exact noR_empty _ _ | exact noR_nilS _ _ | refine noR_mk _ _ _ _ _ rfl ?_ | refine noR_mkS _ _ _ _ _ rfl ?_)) ?_ | with_reducible refine noC_and (by repeat (first | exact noC_empty _ _ (by simp -failIfUnchanged only [↓RA, RB, RS, fx172, p1, p2, p3, p4, reduceIte, p5, p6, p7, p8]) | exact noC_nilS _ _ (by simp -failIfUnchanged only [↓RA, RB, RS, fx172, p1, p2, p3, p4, reduceIte, p5, p6, p7, p8]) | refine noC_mk _ _ _ _ _ rfl ?_ | refine noC_mkS _ _ _ _ _ rfl ?_)) ?_ | with_reducible refine and_ac ?_ | with_reducible refine And.intro (a := _ = List.range _) (by rfl) ?_)
  obtain ⟨v9, hv9, h⟩ := run_bind h
  refine CallH.mk [false, false] (eqFormulaS_sat hv9) ?_ ?_ <;> simp -failIfUnchanged only [↓RA, RB, RS, fx172, p1, p2, p3, p4, reduceIte, p5, p6, p7, p8]
  refine CondH.mk (fun c1 => ?_) (fun c1 => ?_)
  · replace h := run_t c1 h
    simp -failIfUnchanged only [↓RA, RB, RS, fx172, p1, p2, p3, p4, reduceIte, p5, p6, p7, p8, c1]
    obtain ⟨v15, hv15, h⟩ := run_bind h
    refine CallH.mk [false, false] (eqFormulaS_sat hv15) ?_ ?_ <;> simp -failIfUnchanged only [↓RA, RB, RS, fx172, p1, p2, p3, p4, reduceIte, p5, p6, p7, p8, c1]
    refine CondH.mk (fun c2 => ?_) (fun c2 => ?_)
    · replace h := run_t c2 h
      simp -failIfUnchanged only [↓RA, RB, RS, fx172, p1, p2, p3, p4, reduceIte, p5, p6, p7, p8, c1, c2]
      have h := run_some h
      obtain rfl : _ = r := h
      refine FinH.l ?_
      simp -failIfUnchanged only [↓RA, RB, RS, fx172, p1, p2, p3, p4, reduceIte, p5, p6, p7, p8, c1, c2]
    · replace h := run_f c2 h
      simp -failIfUnchanged only [↓RA, RB, RS, fx172, p1, p2, p3, p4, reduceIte, p5, p6, p7, p8, c1, c2]
      have h := run_some h
      obtain rfl : _ = r := h
      refine FinH.l ?_
      simp -failIfUnchanged only [↓RA, RB, RS, fx172, p1, p2, p3, p4, reduceIte, p5, p6, p7, p8, c1, c2]
  · replace h := run_f c1 h
    simp -failIfUnchanged only [↓RA, RB, RS, fx172, p1, p2, p3, p4, reduceIte, p5, p6, p7, p8, c1]
    have h := run_some h
    obtain rfl : _ = r := h
    refine FinH.l ?_
    simp -failIfUnchanged only [↓RA, RB, RS, fx172, p1, p2, p3, p4, reduceIte, p5, p6, p7, p8, c1]

def fx78 := And.intro @ty_3 <| And.intro @zc_3 <| And.intro @z_3 <| And.intro @ty_4 <| And.intro @zc_4 <| And.intro @z_4 <| And.intro @u_4 <| And.intro @ty_112 <| And.intro @zc_112 <| And.intro @z_112 <| And.intro @es_112 <| And.intro @eb_112 <| And.intro @sl_112 <| And.intro @is_112 <| And.intro @el_112 <| And.intro @ze_112 <| And.intro @ez_112 <| And.intro @ty_194 <| And.intro @zc_194 <| And.intro @z_194 <| And.intro @fo_194_0 <| And.intro @fi_194_0 <| And.intro @ft_194_0 <| And.intro @fo_194_1 <| And.intro @fi_194_1 <| And.intro @ft_194_1 <| And.intro @lay_194 <| @mixedT
set_option maxHeartbeats 4000000 in
theorem eqSequentS_sat {a0 : List Sequent} {a1 : List Sequent}  {r : Bool} (h : eqSequentS a0 a1 = some r) : Sat Try.prog 78 [(.sl false 2 (a0.map (Sequent.pv false))), (.sl false 2 (a1.map (Sequent.pv false)))] (B r) := by
  replace h := Run.of h
  unfold eqSequentS at h
  refine Sat.of_m (nt := 27) (rs := [.tmp 4]) (n := 100000) Try.func78 rfl rfl rfl rfl (by simp) ?_
  simp -failIfUnchanged only [↓RA, RB, RS, fx78, p1, p2, p3, p4, reduceIte, p5, p6, p7, p8]
  refine CondH.mk (fun c1 => ?_) (fun c1 => ?_)
  · replace h := run_t c1 h
    simp -failIfUnchanged only [↓RA, RB, RS, fx78, p1, p2, p3, p4, reduceIte, p5, p6, p7, p8, c1]
    refine Mg.know_sl (b := false) (sz := 2) (es := a0.map (Sequent.pv false)) 0 (by simp -failIfUnchanged only [↓RA, RB, RS, fx78, p1, p2, p3, p4, reduceIte, p5, p6, p7, p8, c1]) fun hl0 => ?_; rw [List.length_map] at hl0
    replace h := run_loop h
    refine Mg.forN h (fun i4 s4 => [(0, .val (.pv (.sl false 2 (a0.map (Sequent.pv false))))), (1, .val (.pv (.sl false 2 (a1.map (Sequent.pv false))))), (5, .val (.pv (I (i4 : Int))))]) (fun i4 s4 => []) (St.le_mk2 (by simp -failIfUnchanged only [↓RA, RB, RS, fx78, p1, p2, p3, p4, reduceIte, p5, p6, p7, p8, c1])) (fun i4 s4 hi h => ?_) (fun s4 h => ?_)
    · have w4 := wrap_succ (i := i4) (by omega)
      simp -failIfUnchanged only [↓RA, RB, RS, fx78, p1, p2, p3, p4, reduceIte, p5, p6, p7, p8, c1]
      refine CondH.tt (decide_eq_true (by omega)) (fun c2 => ?_)
      simp -failIfUnchanged only [↓RA, RB, RS, fx78, p1, p2, p3, p4, reduceIte, p5, p6, p7, p8, c1, c2]
      obtain ⟨v19, hv19, h⟩ := run_bind h
      refine IdxH.mk (f := (Sequent.pv false)) hv19 ?_ ?_ <;> simp -failIfUnchanged only [↓RA, RB, RS, fx78, p1, p2, p3, p4, reduceIte, p5, p6, p7, p8, c1, c2]
      obtain ⟨v23, hv23, h⟩ := run_bind h
      refine IdxH.mk (f := (Sequent.pv false)) hv23 ?_ ?_ <;> simp -failIfUnchanged only [↓RA, RB, RS, fx78, p1, p2, p3, p4, reduceIte, p5, p6, p7, p8, c1, c2]
      obtain ⟨v25, hv25, h⟩ := run_bind h
      refine CallH.mk [false, false] (eqSequent_sat hv25) ?_ ?_ <;> simp -failIfUnchanged only [↓RA, RB, RS, fx78, p1, p2, p3, p4, reduceIte, p5, p6, p7, p8, c1, c2]
      refine And.intro (DrawH.none (by rfl) (by first | rfl | (simp -failIfUnchanged only [↓RA, RB, RS, fx78, p1, p2, p3, p4, reduceIte, p5, p6, p7, p8] <;> rfl)) (by first | rfl | (simp -failIfUnchanged only [↓RA, RB, RS, fx78, p1, p2, p3, p4, reduceIte, p5, p6, p7, p8] <;> rfl)) (by first | rfl | (simp -failIfUnchanged only [↓RA, RB, RS, fx78, p1, p2, p3, p4, reduceIte, p5, p6, p7, p8] <;> rfl))) ?_
      simp -failIfUnchanged only [↓RA, RB, RS, fx78, p1, p2, p3, p4, reduceIte, p5, p6, p7, p8, c1, c2]
      refine CondH.mk (fun c3 => ?_) (fun c3 => ?_)
      · replace h := run_t c3 h
        simp -failIfUnchanged only [↓RA, RB, RS, fx78, p1, p2, p3, p4, reduceIte, p5, p6, p7, p8, c1, c2, c3]
        have h := run_some h
        refine RdH.mk ⟨_, h, ?_⟩
        refine St.le_mk2 ?_
        simp -failIfUnchanged only [↓RA, RB, RS, fx78, p1, p2, p3, p4, reduceIte, p5, p6, p7, p8, c1, c2, c3, w4]
      · replace h := run_f c3 h
        simp -failIfUnchanged only [↓RA, RB, RS, fx78, p1, p2, p3, p4, reduceIte, p5, p6, p7, p8, c1, c2, c3]
        have h := run_some h
        obtain rfl : _ = r := h
        refine FinH.l ?_
        simp -failIfUnchanged only [↓RA, RB, RS, fx78, p1, p2, p3, p4, reduceIte, p5, p6, p7, p8, c1, c2, c3]
    · simp -failIfUnchanged only [↓RA, RB, RS, fx78, p1, p2, p3, p4, reduceIte, p5, p6, p7, p8, c1]
      refine CondH.ff (decide_eq_false (by omega)) (fun c4 => ?_)
      simp -failIfUnchanged only [↓RA, RB, RS, fx78, p1, p2, p3, p4, reduceIte, p5, p6, p7, p8, c1, c4]
      have h := run_some h
      obtain rfl : _ = r := h
      refine FinH.l ?_
      simp -failIfUnchanged only [↓RA, RB, RS, fx78, p1, p2, p3, p4, reduceIte, p5, p6, p7, p8, c1, c4]
  · replace h := run_f c1 h
    simp -failIfUnchanged only [↓RA, RB, RS, fx78, p1, p2, p3, p4, reduceIte, p5, p6, p7, p8, c1]
    have h := run_some h
    obtain rfl : _ = r := h
    refine FinH.l ?_
    simp -failIfUnchanged only [↓RA, RB, RS, fx78, p1, p2, p3, p4, reduceIte, p5, p6, p7, p8, c1]

def fx11 := And.intro @ty_3 <| And.intro @zc_3 <| And.intro @z_3 <| And.intro @ty_4 <| And.intro @zc_4 <| And.intro @z_4 <| And.intro @u_4 <| And.intro @ty_108 <| And.intro @zc_108 <| And.intro @z_108 <| And.intro @es_108 <| And.intro @eb_108 <| And.intro @sl_108 <| And.intro @is_108 <| And.intro @el_108 <| And.intro @ze_108 <| And.intro @ez_108 <| And.intro @ty_112 <| And.intro @zc_112 <| And.intro @z_112 <| And.intro @es_112 <| And.intro @eb_112 <| And.intro @sl_112 <| And.intro @is_112 <| And.intro @el_112 <| And.intro @ze_112 <| @ez_112
set_option maxHeartbeats 4000000 in
theorem FnExactAreContradictory_sat {a0 : List Sequent}  {r : Bool} (h : FnExactAreContradictory a0 = some r) : Sat Try.prog 11 [(.sl false 2 (a0.map (Sequent.pv false)))] (B r) := by
  replace h := Run.of h
  unfold FnExactAreContradictory at h
  refine Sat.of_m (nt := 40) (rs := [.tmp 2]) (n := 100000) Try.func11 rfl rfl rfl rfl (by simp) ?_
  simp -failIfUnchanged only [↓RA, RB, RS, fx11, p1, p2, p3, p4, reduceIte, p5, p6, p7, p8]
  obtain ⟨v11, hv11, h⟩ := run_bind h
  refine CallH.mk [false, false] (szSequentS_sat hv11) ?_ ?_ <;> simp -failIfUnchanged only [↓RA, RB, RS, fx11, p1, p2, p3, p4, reduceIte, p5, p6, p7, p8]
  refine CondH.mk (fun c1 => ?_) (fun c1 => ?_)
  · replace h := run_t c1 h
    simp -failIfUnchanged only [↓RA, RB, RS, fx11, p1, p2, p3, p4, reduceIte, p5, p6, p7, p8, c1]
    have h := run_some h
    obtain rfl : _ = r := h
    refine FinH.l ?_
    simp -failIfUnchanged only [↓RA, RB, RS, fx11, p1, p2, p3, p4, reduceIte, p5, p6, p7, p8, c1]
  · replace h := run_f c1 h
    simp -failIfUnchanged only [↓RA, RB, RS, fx11, p1, p2, p3, p4, reduceIte, p5, p6, p7, p8, c1]
    obtain ⟨v16, hv16, h⟩ := run_bind h
    refine CallH.mk [false] (toSequentS_sat hv16) ?_ ?_ <;> simp -failIfUnchanged only [↓RA, RB, RS, fx11, p1, p2, p3, p4, reduceIte, p5, p6, p7, p8, c1]
    repeat (first | with_reducible refine noR_and (by repeat (first | exact noR_empty _ _ | exact noR_nilS _ _ | refine noR_mk _ _ _ _ _ rfl ?_ | refine noR_mkS _ _ _ _ _ rfl ?_)) ?_ | with_reducible refine noC_and (by repeat (first | exact noC_empty _ _ (by simp -failIfUnchanged only [↓RA, RB, RS, fx11, p1, p2, p3, p4, reduceIte, p5, p6, p7, p8]) | exact noC_nilS _ _ (by simp -failIfUnchanged only [↓RA, RB, RS, fx11, p1, p2, p3, p4, reduceIte, p5, p6, p7, p8]) | refine noC_mk _ _ _ _ _ rfl ?_ | refine noC_mkS _ _ _ _ _ rfl ?_)) ?_ | with_reducible refine and_ac ?_ | with_reducible refine And.intro (a := _ = List.range _) (by rfl) ?_)
    obtain ⟨v17, hv17, h⟩ := run_bind h
    refine CallH.mk [false] (spec_AreContradictory_sat hv17) ?_ ?_ <;> simp -failIfUnchanged only [↓RA, RB, RS, fx11, p1, p2, p3, p4, reduceIte, p5, p6, p7, p8, c1]
    obtain ⟨v21, hv21, h⟩ := run_bind h
    refine CallH.mk [false] (toSequentS_sat hv21) ?_ ?_ <;> simp -failIfUnchanged only [↓RA, RB, RS, fx11, p1, p2, p3, p4, reduceIte, p5, p6, p7, p8, c1]
    repeat (first | with_reducible refine noR_and (by repeat (first | exact noR_empty _ _ | exact noR_nilS _ _ | refine noR_mk _ _ _ _ _ rfl ?_ | refine noR_mkS _ _ _ _ _ rfl ?_)) ?_ | with_reducible refine noC_and (by repeat (first | exact noC_empty _ _ (by simp -failIfUnchanged only [↓RA, RB, RS, fx11, p1, p2, p3, p4, reduceIte, p5, p6, p7, p8]) | exact noC_nilS _ _ (by simp -failIfUnchanged only [↓RA, RB, RS, fx11, p1, p2, p3, p4, reduceIte, p5, p6, p7, p8]) | refine noC_mk _ _ _ _ _ rfl ?_ | refine noC_mkS _ _ _ _ _ rfl ?_)) ?_ | with_reducible refine and_ac ?_ | with_reducible refine And.intro (a := _ = List.range _) (by rfl) ?_)
    obtain ⟨v24, hv24, h⟩ := run_bind h
    refine CallH.mk [false] (impl_AreContradictory_sat hv24) ?_ ?_ <;> simp -failIfUnchanged only [↓RA, RB, RS, fx11, p1, p2, p3, p4, reduceIte, p5, p6, p7, p8, c1]
    refine CondH.mk (fun c2 => ?_) (fun c2 => ?_)
    · replace h := run_t c2 h
      simp -failIfUnchanged only [↓RA, RB, RS, fx11, p1, p2, p3, p4, reduceIte, p5, p6, p7, p8, c1, c2]
      refine CondH.mk (fun c3 => ?_) (fun c3 => ?_)
      · replace h := run_t c3 h
        simp -failIfUnchanged only [↓RA, RB, RS, fx11, p1, p2, p3, p4, reduceIte, p5, p6, p7, p8, c1, c2, c3]
        obtain ⟨v37, hv37, h⟩ := run_bind h
        refine CallH.mk [false] (toSequentS_sat hv37) ?_ ?_ <;> simp -failIfUnchanged only [↓RA, RB, RS, fx11, p1, p2, p3, p4, reduceIte, p5, p6, p7, p8, c1, c2, c3]
        repeat (first | with_reducible refine noR_and (by repeat (first | exact noR_empty _ _ | exact noR_nilS _ _ | refine noR_mk _ _ _ _ _ rfl ?_ | refine noR_mkS _ _ _ _ _ rfl ?_)) ?_ | with_reducible refine noC_and (by repeat (first | exact noC_empty _ _ (by simp -failIfUnchanged only [↓RA, RB, RS, fx11, p1, p2, p3, p4, reduceIte, p5, p6, p7, p8]) | exact noC_nilS _ _ (by simp -failIfUnchanged only [↓RA, RB, RS, fx11, p1, p2, p3, p4, reduceIte, p5, p6, p7, p8]) | refine noC_mk _ _ _ _ _ rfl ?_ | refine noC_mkS _ _ _ _ _ rfl ?_)) ?_ | with_reducible refine and_ac ?_ | with_reducible refine And.intro (a := _ = List.range _) (by rfl) ?_)
        obtain ⟨v38, hv38, h⟩ := run_bind h
        refine CallH.mk [false, false] (eqSequentS_sat hv38) ?_ ?_ <;> simp -failIfUnchanged only [↓RA, RB, RS, fx11, p1, p2, p3, p4, reduceIte, p5, p6, p7, p8, c1, c2, c3]
        refine CondH.mk (fun c4 => ?_) (fun c4 => ?_)
        · replace h := run_t c4 h
          simp -failIfUnchanged only [↓RA, RB, RS, fx11, p1, p2, p3, p4, reduceIte, p5, p6, p7, p8, c1, c2, c3, c4]
          have h := run_some h
          obtain rfl : _ = r := h
          refine FinH.l ?_
          simp -failIfUnchanged only [↓RA, RB, RS, fx11, p1, p2, p3, p4, reduceIte, p5, p6, p7, p8, c1, c2, c3, c4]
        · replace h := run_f c4 h
          simp -failIfUnchanged only [↓RA, RB, RS, fx11, p1, p2, p3, p4, reduceIte, p5, p6, p7, p8, c1, c2, c3, c4]
          have h := run_some h
          obtain rfl : _ = r := h
          refine FinH.l ?_
          simp -failIfUnchanged only [↓RA, RB, RS, fx11, p1, p2, p3, p4, reduceIte, p5, p6, p7, p8, c1, c2, c3, c4]
      · replace h := run_f c3 h
        simp -failIfUnchanged only [↓RA, RB, RS, fx11, p1, p2, p3, p4, reduceIte, p5, p6, p7, p8, c1, c2, c3]
        have h := run_some h
        obtain rfl : _ = r := h
        refine FinH.l ?_
        simp -failIfUnchanged only [↓RA, RB, RS, fx11, p1, p2, p3, p4, reduceIte, p5, p6, p7, p8, c1, c2, c3]
    · replace h := run_f c2 h
      simp -failIfUnchanged only [↓RA, RB, RS, fx11, p1, p2, p3, p4, reduceIte, p5, p6, p7, p8, c1, c2]
      have h := run_some h
      obtain rfl : _ = r := h
      refine FinH.l ?_
      simp -failIfUnchanged only [↓RA, RB, RS, fx11, p1, p2, p3, p4, reduceIte, p5, p6, p7, p8, c1, c2]

end Go.Proofs.Ytdmkceajaagpgaa
