/- A part of the proof: lemmas only; nothing is claimed here beyond what each lemma says. -/
import Derived.Test.YtgkgihdafalimaaGreatGw0
set_option linter.unusedSimpArgs false
set_option linter.unusedVariables false
set_option linter.defProp false
set_option maxRecDepth 4000
namespace Go.Proofs.YtgkgihdafalimaaGreat
open Go.Av
set_option maxHeartbeats 4000000
set_option maxHeartbeats 4000000 in
theorem heldTermSN_sat (n : Nat) : (∀ (a0 : List Term) (a1 : Int) (r : Int), heldTermSN n a0 a1 = some r → Sat Tryz.prog 62 [(.sl false 2 (a0.map (Term.pv false))), (I a1)] (I r)) := by
 induction n with
 | zero => exact fun _ _ _ h => by simp [heldTermSN] at h
 | succ n ih =>
  refine fun a0 a1 r h => ?_
  obtain ⟨h, cs⟩ := Run.of0 h
  rw [heldTermSN] at h
  refine Sat.of_m (nt := 32) (rs := [.tmp 4]) (n := 100000) Tryz.func62 rfl rfl rfl rfl (by simp) (S ?_)
  refine Mg.know_sl (b := false) (sz := 2) (es := a0.map (Term.pv false)) 0 SC fun hl0 => ?_; rw [List.length_map] at hl0
  replace h := run_loop h
  refine Mg.forN h (fun i2 s2 => [(0, .val (.pv (.sl false 2 (a0.map (Term.pv false))))), (1, .val (.pv (I s2))), (5, .val (.pv (I (i2 : Int))))]) (fun i2 s2 => []) (St.le_mk2 SC) (fun i2 s2 hi h => ?_) (fun s2 h => ?_)
  ·have w := wrap_succ (i := i2) (by omega)
   refine S ?_
   refine CondH.t2 cs (by omega) (fun cs => S ?_)
   obtain ⟨v14, hv14, h⟩ := run_bind h
   refine IdxH.mk (f := (Term.pv false)) hv14 SC (S ?_)
   obtain ⟨v18, hv18, h⟩ := run_bind h
   refine CallH.mk [false] (markText_sat hv18) SC (S ?_)
   refine And.intro (DrawH.ak [] []) (S ?_)
   refine CondH.run cs h (fun cs h => S ?_) (fun cs h => S ?_)
   ·obtain ⟨v24, hv24, h⟩ := run_bind h
    refine IdxH.mk (f := (Term.pv false)) hv24 SC (S ?_)
    obtain ⟨v28, hv28, h⟩ := run_bind h
    refine CallH.mk [false, false] (ih _ _ _ hv28) SC (S ?_)
    refine CondH.run cs h (fun cs h => S ?_) (fun cs h => S ?_)
    ·cases run_some h
     exact FinH.l SC
    ·have h := run_some h
     refine RdH.mk ⟨_, h, ?_⟩
     exact St.le_mk2 SW
   ·cases run_some h
    exact FinH.l SC
  ·refine S ?_
   refine CondH.f2 cs (by omega) (fun cs => S ?_)
   cases run_some h
   exact FinH.l SC
theorem heldTermS_sat {a0 : List Term} {a1 : Int} {r : Int} (h : heldTermS a0 a1 = some r) : Sat Tryz.prog 62 [(.sl false 2 (a0.map (Term.pv false))), (I a1)] (I r) := by
 obtain ⟨n, hn⟩ := lim_some h
 exact (heldTermSN_sat n) _ _ _ hn

set_option maxHeartbeats 4000000 in
theorem heldTerm_sat {a0 : Term} {a1 : Int}  {r : Int} (h : heldTerm a0 a1 = some r) : Sat Tryz.prog 50 [((Term.pv false) a0), (I a1)] (I r) := by
 obtain ⟨h, cs⟩ := Run.of0 h
 unfold heldTerm at h
 refine Sat.of_m (nt := 12) (rs := [.tmp 4]) (n := 100000) Tryz.func50 rfl rfl rfl rfl (by simp) (S ?_)
 obtain ⟨v8, hv8, h⟩ := run_bind h
 refine CallH.mk [false, false] (heldTermS_sat hv8) SC (S ?_)
 refine CondH.run cs h (fun cs h => S ?_) (fun cs h => S ?_)
 ·cases run_some h
  exact FinH.l SC
 ·cases run_some h
  exact FinH.l SC

set_option maxHeartbeats 4000000 in
theorem heldFormulaSN_sat (n : Nat) : (∀ (a0 : List Formula) (a1 : Int) (r : Int), heldFormulaSN n a0 a1 = some r → Sat Tryz.prog 26 [(.sl false 5 (a0.map (Formula.pv false))), (I a1)] (I r)) := by
 induction n with
 | zero => exact fun _ _ _ h => by simp [heldFormulaSN] at h
 | succ n ih =>
  refine fun a0 a1 r h => ?_
  obtain ⟨h, cs⟩ := Run.of0 h
  rw [heldFormulaSN] at h
  refine Sat.of_m (nt := 62) (rs := [.tmp 4]) (n := 100000) Tryz.func26 rfl rfl rfl rfl (by simp) (S ?_)
  refine Mg.know_sl (b := false) (sz := 5) (es := a0.map (Formula.pv false)) 0 SC fun hl0 => ?_; rw [List.length_map] at hl0
  replace h := run_loop h
  refine Mg.forN h (fun i2 s2 => [(0, .val (.pv (.sl false 5 (a0.map (Formula.pv false))))), (1, .val (.pv (I s2))), (5, .val (.pv (I (i2 : Int))))]) (fun i2 s2 => []) (St.le_mk2 SC) (fun i2 s2 hi h => ?_) (fun s2 h => ?_)
  ·have w := wrap_succ (i := i2) (by omega)
   refine S ?_
   refine CondH.t2 cs (by omega) (fun cs => S ?_)
   obtain ⟨v14, hv14, h⟩ := run_bind h
   refine IdxH.mk (f := (Formula.pv false)) hv14 SC (S ?_)
   refine CondH.run cs h (fun cs h => S ?_) (fun cs h => S ?_)
   ·obtain ⟨v23, hv23, h⟩ := run_bind h
    refine IdxH.mk (f := (Formula.pv false)) hv23 SC (S ?_)
    obtain ⟨v28, hv28, h⟩ := run_bind h
    refine CallH.mk [false] (markText_sat hv28) SC (S ?_)
    refine And.intro (DrawH.ak [] []) (S ?_)
    refine CondH.run cs h (fun cs h => S ?_) (fun cs h => S ?_)
    ·obtain ⟨v34, hv34, h⟩ := run_bind h
     refine IdxH.mk (f := (Formula.pv false)) hv34 SC (S ?_)
     obtain ⟨v39, hv39, h⟩ := run_bind h
     refine CallH.mk [false, false] (heldTermS_sat hv39) SC (S ?_)
     refine CondH.run cs h (fun cs h => S ?_) (fun cs h => S ?_)
     ·cases run_some h
      exact FinH.l SC
     ·obtain ⟨v44, hv44, h⟩ := run_bind h
      refine IdxH.mk (f := (Formula.pv false)) hv44 SC (S ?_)
      obtain ⟨v48, hv48, h⟩ := run_bind h
      refine CallH.mk [false] (markText_sat hv48) SC (S ?_)
      refine And.intro (DrawH.ak [] []) (S ?_)
      refine CondH.run cs h (fun cs h => S ?_) (fun cs h => S ?_)
      ·obtain ⟨v54, hv54, h⟩ := run_bind h
       refine IdxH.mk (f := (Formula.pv false)) hv54 SC (S ?_)
       obtain ⟨v58, hv58, h⟩ := run_bind h
       refine CallH.mk [false, false] (ih _ _ _ hv58) SC (S ?_)
       refine CondH.run cs h (fun cs h => S ?_) (fun cs h => S ?_)
       ·cases run_some h
        exact FinH.l SC
       ·have h := run_some h
        refine RdH.mk ⟨_, h, ?_⟩
        exact St.le_mk2 SW
      ·cases run_some h
       exact FinH.l SC
    ·cases run_some h
     exact FinH.l SC
   ·cases run_some h
    exact FinH.l SC
  ·refine S ?_
   refine CondH.f2 cs (by omega) (fun cs => S ?_)
   cases run_some h
   exact FinH.l SC
theorem heldFormulaS_sat {a0 : List Formula} {a1 : Int} {r : Int} (h : heldFormulaS a0 a1 = some r) : Sat Tryz.prog 26 [(.sl false 5 (a0.map (Formula.pv false))), (I a1)] (I r) := by
 obtain ⟨n, hn⟩ := lim_some h
 exact (heldFormulaSN_sat n) _ _ _ hn

set_option maxHeartbeats 4000000 in
theorem heldFormula_sat {a0 : Formula} {a1 : Int}  {r : Int} (h : heldFormula a0 a1 = some r) : Sat Tryz.prog 15 [((Formula.pv false) a0), (I a1)] (I r) := by
 obtain ⟨h, cs⟩ := Run.of0 h
 unfold heldFormula at h
 refine Sat.of_m (nt := 18) (rs := [.tmp 4]) (n := 100000) Tryz.func15 rfl rfl rfl rfl (by simp) (S ?_)
 obtain ⟨v8, hv8, h⟩ := run_bind h
 refine CallH.mk [false, false] (heldTerm_sat hv8) SC (S ?_)
 refine CondH.run cs h (fun cs h => S ?_) (fun cs h => S ?_)
 ·cases run_some h
  exact FinH.l SC
 ·obtain ⟨v14, hv14, h⟩ := run_bind h
  refine CallH.mk [false, false] (heldFormulaS_sat hv14) SC (S ?_)
  refine CondH.run cs h (fun cs h => S ?_) (fun cs h => S ?_)
  ·cases run_some h
   exact FinH.l SC
  ·cases run_some h
   exact FinH.l SC

set_option maxHeartbeats 4000000 in
theorem FnExactInductionAxiom_sat {a0 : Formula} {a1 : ByteArray}  {r : Bool} (h : FnExactInductionAxiom a0 a1 = some r) : Sat Tryz.prog 4 [((Formula.pv false) a0), (Sx a1)] (B r) := by
 obtain ⟨h, cs⟩ := Run.of0 h
 unfold FnExactInductionAxiom at h
 refine Sat.of_m (nt := 104) (rs := [.tmp 4]) (n := 100000) Tryz.func4 rfl rfl rfl rfl (by simp) (S ?_)
 refine CondH.run cs h (fun cs h => S ?_) (fun cs h => S ?_)
 ·cases run_some h
  exact FinH.l SC
 ·obtain ⟨v21, hv21, h⟩ := run_bind h
  refine CallH.mk [false, false] (szFormula_sat hv21) SC (S ?_)
  refine CondH.run cs h (fun cs h => S ?_) (fun cs h => S ?_)
  ·cases run_some h
   exact FinH.l SC
  ·obtain ⟨v26, hv26, h⟩ := run_bind h
   refine CallH.mk [false] (toFormula_sat hv26) SC (S ?_)
   obtain ⟨v28, hv28, h⟩ := run_bind h
   refine CallH.mk [false, false] (spec_InductionAxiom_sat hv28) SC (S ?_)
   obtain ⟨v32, hv32, h⟩ := run_bind h
   refine CallH.mk [false] (toFormula_sat hv32) SC (S ?_)
   obtain ⟨v36, hv36, h⟩ := run_bind h
   refine CallH.mk [false, false] (impl_InductionAxiom_sat hv36) SC (S ?_)
   obtain ⟨v41, hv41, h⟩ := run_bind h
   refine CallH.mk [false, false] (eqFormula_sat hv41) SC (S ?_)
   refine CondH.run cs h (fun cs h => S ?_) (fun cs h => S ?_)
   ·refine CondH.run cs h (fun cs h => S ?_) (fun cs h => S ?_)
    ·obtain ⟨v50, hv50, h⟩ := run_bind h
     refine CallH.mk [false] (toFormula_sat hv50) SC (S ?_)
     obtain ⟨v51, hv51, h⟩ := run_bind h
     refine CallH.mk [false, false] (eqFormula_sat hv51) SC (S ?_)
     refine And.intro (DrawH.ak [] [800, 801]) (S ?_)
     refine CondH.run cs h (fun cs h => S ?_) (fun cs h => S ?_)
     ·obtain ⟨v55, hv55, h⟩ := run_bind h
      refine CallH.io [(.node [(.pv (I v32.Op)), (.node [(.pv (Sx v32.Atom.Name)), (.own 512)]), (.pv (Sx v32.Var)), (.own 513)]), (.pv (I (1 : Int)))] [(512, (2, v55.2.1.map (Term.pv true))), (513, (5, v55.2.2.map (Formula.pv true)))] (markFormula_sat hv55) SC (S ?_)
      refine CondH.run cs h (fun cs h => S ?_) (fun cs h => S ?_)
      ·cases run_some h
       exact FinH.l SC
      ·obtain ⟨v61, hv61, h⟩ := run_bind h
       refine CallH.mk [false, false] (eqFormula_sat hv61) SC (S ?_)
       refine CondH.run cs h (fun cs h => S ?_) (fun cs h => S ?_)
       ·obtain ⟨v71, hv71, h⟩ := run_bind h
        refine CallH.io [(.node [(.pv (I v36.1.Op)), (.node [(.pv (Sx v36.1.Atom.Name)), (.own 576)]), (.pv (Sx v36.1.Var)), (.own 577)]), (.pv (I (1 : Int)))] [(576, (2, v71.2.1.map (Term.pv true))), (577, (5, v71.2.2.map (Formula.pv true)))] (markFormula_sat hv71) SC (S ?_)
        obtain ⟨v74, hv74, h⟩ := run_bind h
        refine CallH.mk [false, false] (heldFormula_sat hv74) SC (S ?_)
        refine CondH.run cs h (fun cs h => S ?_) (fun cs h => S ?_)
        ·cases run_some h
         exact FinH.l SC
        ·refine CondH.run cs h (fun cs h => S ?_) (fun cs h => S ?_)
         ·obtain ⟨v82, hv82, h⟩ := run_bind h
          refine CallH.mk [false] (toFormula_sat hv82) SC (S ?_)
          obtain ⟨v84, hv84, h⟩ := run_bind h
          refine CallH.mk [false, false] (impl_InductionAxiom_sat hv84) SC (S ?_)
          obtain ⟨v89, hv89, h⟩ := run_bind h
          refine CallH.mk [false, false] (eqFormula_sat hv89) SC (S ?_)
          refine CondH.run cs h (fun cs h => S ?_) (fun cs h => S ?_)
          ·refine CondH.run cs h (fun cs h => S ?_) (fun cs h => S ?_)
           ·obtain ⟨v98, hv98, h⟩ := run_bind h
            refine CallH.mk [false, false] (heldFormula_sat hv98) SC (S ?_)
            refine CondH.run cs h (fun cs h => S ?_) (fun cs h => S ?_)
            ·cases run_some h
             exact FinH.l SC
            ·refine CondH.run cs h (fun cs h => S ?_) (fun cs h => S ?_)
             ·cases run_some h
              exact FinH.l SC
             ·cases run_some h
              exact FinH.l SC
           ·cases run_some h
            exact FinH.l SC
          ·cases run_some h
           exact FinH.l SC
         ·cases run_some h
          exact FinH.l SC
       ·cases run_some h
        exact FinH.l SC
     ·cases run_some h
      exact FinH.l SC
    ·cases run_some h
     exact FinH.l SC
   ·cases run_some h
    exact FinH.l SC

end Go.Proofs.YtgkgihdafalimaaGreat
