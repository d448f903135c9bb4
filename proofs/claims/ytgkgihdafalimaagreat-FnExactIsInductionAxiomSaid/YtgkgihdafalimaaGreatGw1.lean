/- A part of the proof: lemmas only; nothing is claimed here beyond what each lemma says. -/
import Derived.Test.YtgkgihdafalimaaGreatGw0
set_option linter.unusedSimpArgs false
set_option linter.unusedVariables false
set_option linter.defProp false
set_option maxRecDepth 4000
namespace Go.Proofs.YtgkgihdafalimaaGreat
open Go.Av
set_option maxHeartbeats 4000000
set_option maxHeartbeats 4000000 in
theorem eqFormulaN_sat (n : Nat) : (∀ (a0 : Formula) (a1 : Formula) (r : Bool), eqFormulaN n a0 a1 = some r → Sat Tryz.prog 11 [((Formula.pv false) a0), ((Formula.pv false) a1)] (B r)) ∧ (∀ (a0 : List Formula) (a1 : List Formula) (r : Bool), eqFormulaSN n a0 a1 = some r → Sat Tryz.prog 24 [(.sl false 5 (a0.map (Formula.pv false))), (.sl false 5 (a1.map (Formula.pv false)))] (B r)) := by
 induction n with
 | zero => exact ⟨fun _ _ _ h => by simp [eqFormulaN] at h, fun _ _ _ h => by simp [eqFormulaSN] at h⟩
 | succ n ih =>
  refine ⟨fun a0 a1 r h => ?_, fun a0 a1 r h => ?_⟩
  ·obtain ⟨h, cs⟩ := Run.of0 h
   rw [eqFormulaN] at h
   refine Sat.of_m (nt := 27) (rs := [.tmp 4]) (n := 100000) Tryz.func11 rfl rfl rfl rfl (by simp) (S ?_)
   refine CondH.run cs h (fun cs h => S ?_) (fun cs h => S ?_)
   ·obtain ⟨v14, hv14, h⟩ := run_bind h
    refine CallH.mk [false, false] (eqTerm_sat hv14) SC (S ?_)
    refine CondH.run cs h (fun cs h => S ?_) (fun cs h => S ?_)
    ·refine CondH.run cs h (fun cs h => S ?_) (fun cs h => S ?_)
     ·obtain ⟨v25, hv25, h⟩ := run_bind h
      refine CallH.mk [false, false] (ih.2 _ _ _ hv25) SC (S ?_)
      refine CondH.run cs h (fun cs h => S ?_) (fun cs h => S ?_)
      ·cases run_some h
       exact FinH.l SC
      ·cases run_some h
       exact FinH.l SC
     ·cases run_some h
      exact FinH.l SC
    ·cases run_some h
     exact FinH.l SC
   ·cases run_some h
    exact FinH.l SC
  ·obtain ⟨h, cs⟩ := Run.of0 h
   rw [eqFormulaSN] at h
   refine Sat.of_m (nt := 27) (rs := [.tmp 4]) (n := 100000) Tryz.func24 rfl rfl rfl rfl (by simp) (S ?_)
   refine CondH.run cs h (fun cs h => S ?_) (fun cs h => S ?_)
   ·refine Mg.know_sl (b := false) (sz := 5) (es := a0.map (Formula.pv false)) 0 SC fun hl0 => ?_; rw [List.length_map] at hl0
    replace h := run_loop h
    refine Mg.forN h (fun i4 s4 => [(0, .val (.pv (.sl false 5 (a0.map (Formula.pv false))))), (1, .val (.pv (.sl false 5 (a1.map (Formula.pv false))))), (5, .val (.pv (I (i4 : Int))))]) (fun i4 s4 => []) (St.le_mk2 SC) (fun i4 s4 hi h => ?_) (fun s4 h => ?_)
    ·have w := wrap_succ (i := i4) (by omega)
     refine S ?_
     refine CondH.t2 cs (by omega) (fun cs => S ?_)
     obtain ⟨v19, hv19, h⟩ := run_bind h
     refine IdxH.mk (f := (Formula.pv false)) hv19 SC (S ?_)
     obtain ⟨v23, hv23, h⟩ := run_bind h
     refine IdxH.mk (f := (Formula.pv false)) hv23 SC (S ?_)
     obtain ⟨v25, hv25, h⟩ := run_bind h
     refine CallH.mk [false, false] (ih.1 _ _ _ hv25) SC (S ?_)
     refine And.intro (DrawH.ak [] []) (S ?_)
     refine CondH.run cs h (fun cs h => S ?_) (fun cs h => S ?_)
     ·have h := run_some h
      refine RdH.mk ⟨_, h, ?_⟩
      exact St.le_mk2 SW
     ·cases run_some h
      exact FinH.l SC
    ·refine S ?_
     refine CondH.f2 cs (by omega) (fun cs => S ?_)
     cases run_some h
     exact FinH.l SC
   ·cases run_some h
    exact FinH.l SC
theorem eqFormula_sat {a0 : Formula} {a1 : Formula} {r : Bool} (h : eqFormula a0 a1 = some r) : Sat Tryz.prog 11 [((Formula.pv false) a0), ((Formula.pv false) a1)] (B r) := by
 obtain ⟨n, hn⟩ := lim_some h
 exact (eqFormulaN_sat n).1 _ _ _ hn
theorem eqFormulaS_sat {a0 : List Formula} {a1 : List Formula} {r : Bool} (h : eqFormulaS a0 a1 = some r) : Sat Tryz.prog 24 [(.sl false 5 (a0.map (Formula.pv false))), (.sl false 5 (a1.map (Formula.pv false)))] (B r) := by
 obtain ⟨n, hn⟩ := lim_some h
 exact (eqFormulaN_sat n).2 _ _ _ hn

set_option maxHeartbeats 4000000 in
theorem FnExactIsInductionAxiom_sat {a0 : Formula}  {r : Bool} (h : FnExactIsInductionAxiom a0 = some r) : Sat Tryz.prog 3 [((Formula.pv false) a0)] (B r) := by
 obtain ⟨h, cs⟩ := Run.of0 h
 unfold FnExactIsInductionAxiom at h
 refine Sat.of_m (nt := 40) (rs := [.tmp 2]) (n := 100000) Tryz.func3 rfl rfl rfl rfl (by simp) (S ?_)
 obtain ⟨v11, hv11, h⟩ := run_bind h
 refine CallH.mk [false, false] (szFormula_sat hv11) SC (S ?_)
 refine CondH.run cs h (fun cs h => S ?_) (fun cs h => S ?_)
 ·cases run_some h
  exact FinH.l SC
 ·obtain ⟨v16, hv16, h⟩ := run_bind h
  refine CallH.mk [false] (toFormula_sat hv16) SC (S ?_)
  obtain ⟨v17, hv17, h⟩ := run_bind h
  refine CallH.mk [false] (spec_IsInductionAxiom_sat hv17) SC (S ?_)
  obtain ⟨v21, hv21, h⟩ := run_bind h
  refine CallH.mk [false] (toFormula_sat hv21) SC (S ?_)
  obtain ⟨v24, hv24, h⟩ := run_bind h
  refine CallH.mk [false] (impl_IsInductionAxiom_sat hv24) SC (S ?_)
  refine CondH.run cs h (fun cs h => S ?_) (fun cs h => S ?_)
  ·refine CondH.run cs h (fun cs h => S ?_) (fun cs h => S ?_)
   ·obtain ⟨v37, hv37, h⟩ := run_bind h
    refine CallH.mk [false] (toFormula_sat hv37) SC (S ?_)
    obtain ⟨v38, hv38, h⟩ := run_bind h
    refine CallH.mk [false, false] (eqFormula_sat hv38) SC (S ?_)
    refine And.intro (DrawH.ak [] [592, 593]) (S ?_)
    refine CondH.run cs h (fun cs h => S ?_) (fun cs h => S ?_)
    ·cases run_some h
     exact FinH.l SC
    ·cases run_some h
     exact FinH.l SC
   ·cases run_some h
    exact FinH.l SC
  ·cases run_some h
   exact FinH.l SC

end Go.Proofs.YtgkgihdafalimaaGreat
