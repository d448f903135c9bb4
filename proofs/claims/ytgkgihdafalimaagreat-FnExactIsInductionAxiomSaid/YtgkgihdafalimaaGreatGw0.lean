/- A part of the proof: lemmas only; nothing is claimed here beyond what each lemma says. -/
import Derived.Test.YtgkgihdafalimaaGreatGm
import Derived.Test.YtgkgihdafalimaaGreatGf
import Derived.Test.YtgkgihdafalimaaGreatGsrt
set_option linter.unusedSimpArgs false
set_option linter.unusedVariables false
set_option linter.defProp false
set_option maxRecDepth 4000
namespace Go.Proofs.YtgkgihdafalimaaGreat
open Go.Av
set_option maxHeartbeats 4000000
set_option maxHeartbeats 4000000 in
theorem szTermN_sat (n : Nat) : (∀ (a0 : Term) (a1 : Int) (r : Int), szTermN n a0 a1 = some r → Sat Tryz.prog 27 [((Term.pv false) a0), (I a1)] (I r)) ∧ (∀ (a0 : List Term) (a1 : Int) (r : Int), szTermSN n a0 a1 = some r → Sat Tryz.prog 51 [(.sl false 2 (a0.map (Term.pv false))), (I a1)] (I r)) := by
 induction n with
 | zero => exact ⟨fun _ _ _ h => by simp [szTermN] at h, fun _ _ _ h => by simp [szTermSN] at h⟩
 | succ n ih =>
  refine ⟨fun a0 a1 r h => ?_, fun a0 a1 r h => ?_⟩
  ·obtain ⟨h, cs⟩ := Run.of0 h
   rw [szTermN] at h
   refine Sat.of_m (nt := 19) (rs := [.tmp 4]) (n := 100000) Tryz.func27 rfl rfl rfl rfl (by simp) (S ?_)
   refine CondH.run cs h (fun cs h => S ?_) (fun cs h => S ?_)
   ·cases run_some h
    exact FinH.l SC
   ·obtain ⟨v15, hv15, h⟩ := run_bind h
    refine CallH.mk [false, false] (ih.2 _ _ _ hv15) SC (S ?_)
    refine CondH.run cs h (fun cs h => S ?_) (fun cs h => S ?_)
    ·cases run_some h
     exact FinH.l SC
    ·cases run_some h
     exact FinH.l SC
  ·obtain ⟨h, cs⟩ := Run.of0 h
   rw [szTermSN] at h
   refine Sat.of_m (nt := 27) (rs := [.tmp 4]) (n := 100000) Tryz.func51 rfl rfl rfl rfl (by simp) (S ?_)
   refine CondH.run cs h (fun cs h => S ?_) (fun cs h => S ?_)
   ·cases run_some h
    exact FinH.l SC
   ·refine Mg.know_sl (b := false) (sz := 2) (es := a0.map (Term.pv false)) 0 SC fun hl0 => ?_; rw [List.length_map] at hl0
    replace h := run_loop h
    refine Mg.forN h (fun i5 s5 => [(0, .val (.pv (.sl false 2 (a0.map (Term.pv false))))), (1, .val (.pv (I s5))), (5, .val (.pv (I (i5 : Int))))]) (fun i5 s5 => []) (St.le_mk2 SC) (fun i5 s5 hi h => ?_) (fun s5 h => ?_)
    ·have w := wrap_succ (i := i5) (by omega)
     refine S ?_
     refine CondH.t2 cs (by omega) (fun cs => S ?_)
     obtain ⟨v20, hv20, h⟩ := run_bind h
     refine IdxH.mk (f := (Term.pv false)) hv20 SC (S ?_)
     obtain ⟨v23, hv23, h⟩ := run_bind h
     refine CallH.mk [false, false] (ih.1 _ _ _ hv23) SC (S ?_)
     refine CondH.run cs h (fun cs h => S ?_) (fun cs h => S ?_)
     ·cases run_some h
      exact FinH.l SC
     ·have h := run_some h
      refine RdH.mk ⟨_, h, ?_⟩
      exact St.le_mk2 SW
    ·refine S ?_
     refine CondH.f2 cs (by omega) (fun cs => S ?_)
     cases run_some h
     exact FinH.l SC
theorem szTerm_sat {a0 : Term} {a1 : Int} {r : Int} (h : szTerm a0 a1 = some r) : Sat Tryz.prog 27 [((Term.pv false) a0), (I a1)] (I r) := by
 obtain ⟨n, hn⟩ := lim_some h
 exact (szTermN_sat n).1 _ _ _ hn
theorem szTermS_sat {a0 : List Term} {a1 : Int} {r : Int} (h : szTermS a0 a1 = some r) : Sat Tryz.prog 51 [(.sl false 2 (a0.map (Term.pv false))), (I a1)] (I r) := by
 obtain ⟨n, hn⟩ := lim_some h
 exact (szTermN_sat n).2 _ _ _ hn

set_option maxHeartbeats 4000000 in
theorem szFormulaN_sat (n : Nat) : (∀ (a0 : Formula) (a1 : Int) (r : Int), szFormulaN n a0 a1 = some r → Sat Tryz.prog 7 [((Formula.pv false) a0), (I a1)] (I r)) ∧ (∀ (a0 : List Formula) (a1 : Int) (r : Int), szFormulaSN n a0 a1 = some r → Sat Tryz.prog 28 [(.sl false 5 (a0.map (Formula.pv false))), (I a1)] (I r)) := by
 induction n with
 | zero => exact ⟨fun _ _ _ h => by simp [szFormulaN] at h, fun _ _ _ h => by simp [szFormulaSN] at h⟩
 | succ n ih =>
  refine ⟨fun a0 a1 r h => ?_, fun a0 a1 r h => ?_⟩
  ·obtain ⟨h, cs⟩ := Run.of0 h
   rw [szFormulaN] at h
   refine Sat.of_m (nt := 25) (rs := [.tmp 4]) (n := 100000) Tryz.func7 rfl rfl rfl rfl (by simp) (S ?_)
   obtain ⟨v8, hv8, h⟩ := run_bind h
   refine CallH.mk [false, false] (szTerm_sat hv8) SC (S ?_)
   refine CondH.run cs h (fun cs h => S ?_) (fun cs h => S ?_)
   ·cases run_some h
    exact FinH.l SC
   ·refine CondH.run cs h (fun cs h => S ?_) (fun cs h => S ?_)
    ·cases run_some h
     exact FinH.l SC
    ·obtain ⟨v21, hv21, h⟩ := run_bind h
     refine CallH.mk [false, false] (ih.2 _ _ _ hv21) SC (S ?_)
     refine CondH.run cs h (fun cs h => S ?_) (fun cs h => S ?_)
     ·cases run_some h
      exact FinH.l SC
     ·cases run_some h
      exact FinH.l SC
  ·obtain ⟨h, cs⟩ := Run.of0 h
   rw [szFormulaSN] at h
   refine Sat.of_m (nt := 27) (rs := [.tmp 4]) (n := 100000) Tryz.func28 rfl rfl rfl rfl (by simp) (S ?_)
   refine CondH.run cs h (fun cs h => S ?_) (fun cs h => S ?_)
   ·cases run_some h
    exact FinH.l SC
   ·refine Mg.know_sl (b := false) (sz := 5) (es := a0.map (Formula.pv false)) 0 SC fun hl0 => ?_; rw [List.length_map] at hl0
    replace h := run_loop h
    refine Mg.forN h (fun i5 s5 => [(0, .val (.pv (.sl false 5 (a0.map (Formula.pv false))))), (1, .val (.pv (I s5))), (5, .val (.pv (I (i5 : Int))))]) (fun i5 s5 => []) (St.le_mk2 SC) (fun i5 s5 hi h => ?_) (fun s5 h => ?_)
    ·have w := wrap_succ (i := i5) (by omega)
     refine S ?_
     refine CondH.t2 cs (by omega) (fun cs => S ?_)
     obtain ⟨v20, hv20, h⟩ := run_bind h
     refine IdxH.mk (f := (Formula.pv false)) hv20 SC (S ?_)
     obtain ⟨v23, hv23, h⟩ := run_bind h
     refine CallH.mk [false, false] (ih.1 _ _ _ hv23) SC (S ?_)
     refine CondH.run cs h (fun cs h => S ?_) (fun cs h => S ?_)
     ·cases run_some h
      exact FinH.l SC
     ·have h := run_some h
      refine RdH.mk ⟨_, h, ?_⟩
      exact St.le_mk2 SW
    ·refine S ?_
     refine CondH.f2 cs (by omega) (fun cs => S ?_)
     cases run_some h
     exact FinH.l SC
theorem szFormula_sat {a0 : Formula} {a1 : Int} {r : Int} (h : szFormula a0 a1 = some r) : Sat Tryz.prog 7 [((Formula.pv false) a0), (I a1)] (I r) := by
 obtain ⟨n, hn⟩ := lim_some h
 exact (szFormulaN_sat n).1 _ _ _ hn
theorem szFormulaS_sat {a0 : List Formula} {a1 : Int} {r : Int} (h : szFormulaS a0 a1 = some r) : Sat Tryz.prog 28 [(.sl false 5 (a0.map (Formula.pv false))), (I a1)] (I r) := by
 obtain ⟨n, hn⟩ := lim_some h
 exact (szFormulaN_sat n).2 _ _ _ hn

set_option maxHeartbeats 4000000 in
theorem toTermN_sat (n : Nat) : (∀ (a0 : Term) (r : Term), toTermN n a0 = some r → Sat Tryz.prog 31 [((Term.pv false) a0)] ((Term.pv true) r)) ∧ (∀ (a0 : List Term) (r : List Term), toTermSN n a0 = some r → Sat Tryz.prog 53 [(.sl false 2 (a0.map (Term.pv false)))] (.sl true 2 (r.map (Term.pv true)))) := by
 induction n with
 | zero => exact ⟨fun _ _ h => by simp [toTermN] at h, fun _ _ h => by simp [toTermSN] at h⟩
 | succ n ih =>
  refine ⟨fun a0 r h => ?_, fun a0 r h => ?_⟩
  ·obtain ⟨h, cs⟩ := Run.of0 h
   rw [toTermN] at h
   refine Sat.of_m (nt := 12) (rs := [.cell 2 33]) (n := 100000) Tryz.func31 rfl rfl rfl rfl (by simp) (S ?_)
   obtain ⟨v9, hv9, h⟩ := run_bind h
   refine CallH.mk [false] (ih.2 _ _ hv9) SC (S ?_)
   cases run_some h
   exact FinH.l SC
  ·obtain ⟨h, cs⟩ := Run.of0 h
   rw [toTermSN] at h
   refine Sat.of_m (nt := 23) (rs := [.tmp 2]) (n := 100000) Tryz.func53 rfl rfl rfl rfl (by simp) (S ?_)
   obtain ⟨n7, hn7, h⟩ := run_bind h
   refine MknH.mk hn7 (S ?_)
   refine Mg.know_sl (b := false) (sz := 2) (es := a0.map (Term.pv false)) 0 SC fun hl0 => ?_; rw [List.length_map] at hl0
   replace h := run_loop h
   refine Mg.forN h (fun i3 s3 => [(0, .val (.pv (.sl false 2 (a0.map (Term.pv false))))), (3, .val (.own 112)), (4, .val (.pv (I (i3 : Int))))]) (fun i3 s3 => [(112, (2, s3.map (Term.pv true)))]) (St.le_mk2 SC) (fun i3 s3 hi h => ?_) (fun s3 h => ?_)
   ·have w := wrap_succ (i := i3) (by omega)
    refine S ?_
    refine CondH.t2 cs (by omega) (fun cs => S ?_)
    obtain ⟨v18, hv18, h⟩ := run_bind h
    refine IdxH.mk (f := (Term.pv false)) hv18 SC (S ?_)
    obtain ⟨v20, hv20, h⟩ := run_bind h
    refine CallH.mk [false] (ih.1 _ _ hv20) SC (S ?_)
    obtain ⟨v21, hv21, h⟩ := run_bind h
    refine IdxH.mk (f := (Term.pv true)) hv21 SC (S ?_)
    obtain ⟨w2, hw2, h⟩ := run_bind h
    refine EldH.mk (f := (Term.pv true)) hw2 rfl SC (S ?_)
    have h := run_some h
    refine RdH.mk ⟨_, h, ?_⟩
    exact St.le_mk2 SW
   ·refine S ?_
    refine CondH.f2 cs (by omega) (fun cs => S ?_)
    cases run_some h
    exact FinH.l SC
theorem toTerm_sat {a0 : Term} {r : Term} (h : toTerm a0 = some r) : Sat Tryz.prog 31 [((Term.pv false) a0)] ((Term.pv true) r) := by
 obtain ⟨n, hn⟩ := lim_some h
 exact (toTermN_sat n).1 _ _ hn
theorem toTermS_sat {a0 : List Term} {r : List Term} (h : toTermS a0 = some r) : Sat Tryz.prog 53 [(.sl false 2 (a0.map (Term.pv false)))] (.sl true 2 (r.map (Term.pv true))) := by
 obtain ⟨n, hn⟩ := lim_some h
 exact (toTermN_sat n).2 _ _ hn

set_option maxHeartbeats 4000000 in
theorem toFormulaN_sat (n : Nat) : (∀ (a0 : Formula) (r : Formula), toFormulaN n a0 = some r → Sat Tryz.prog 9 [((Formula.pv false) a0)] ((Formula.pv true) r)) ∧ (∀ (a0 : List Formula) (r : List Formula), toFormulaSN n a0 = some r → Sat Tryz.prog 32 [(.sl false 5 (a0.map (Formula.pv false)))] (.sl true 5 (r.map (Formula.pv true)))) := by
 induction n with
 | zero => exact ⟨fun _ _ h => by simp [toFormulaN] at h, fun _ _ h => by simp [toFormulaSN] at h⟩
 | succ n ih =>
  refine ⟨fun a0 r h => ?_, fun a0 r h => ?_⟩
  ·obtain ⟨h, cs⟩ := Run.of0 h
   rw [toFormulaN] at h
   refine Sat.of_m (nt := 19) (rs := [.cell 2 36]) (n := 100000) Tryz.func9 rfl rfl rfl rfl (by simp) (S ?_)
   obtain ⟨v9, hv9, h⟩ := run_bind h
   refine CallH.mk [false] (toTerm_sat hv9) SC (S ?_)
   obtain ⟨v16, hv16, h⟩ := run_bind h
   refine CallH.mk [false] (ih.2 _ _ hv16) SC (S ?_)
   cases run_some h
   exact FinH.l SC
  ·obtain ⟨h, cs⟩ := Run.of0 h
   rw [toFormulaSN] at h
   refine Sat.of_m (nt := 23) (rs := [.tmp 2]) (n := 100000) Tryz.func32 rfl rfl rfl rfl (by simp) (S ?_)
   obtain ⟨n7, hn7, h⟩ := run_bind h
   refine MknH.mk hn7 (S ?_)
   refine Mg.know_sl (b := false) (sz := 5) (es := a0.map (Formula.pv false)) 0 SC fun hl0 => ?_; rw [List.length_map] at hl0
   replace h := run_loop h
   refine Mg.forN h (fun i3 s3 => [(0, .val (.pv (.sl false 5 (a0.map (Formula.pv false))))), (3, .val (.own 112)), (4, .val (.pv (I (i3 : Int))))]) (fun i3 s3 => [(112, (5, s3.map (Formula.pv true)))]) (St.le_mk2 SC) (fun i3 s3 hi h => ?_) (fun s3 h => ?_)
   ·have w := wrap_succ (i := i3) (by omega)
    refine S ?_
    refine CondH.t2 cs (by omega) (fun cs => S ?_)
    obtain ⟨v18, hv18, h⟩ := run_bind h
    refine IdxH.mk (f := (Formula.pv false)) hv18 SC (S ?_)
    obtain ⟨v20, hv20, h⟩ := run_bind h
    refine CallH.mk [false] (ih.1 _ _ hv20) SC (S ?_)
    obtain ⟨v21, hv21, h⟩ := run_bind h
    refine IdxH.mk (f := (Formula.pv true)) hv21 SC (S ?_)
    obtain ⟨w2, hw2, h⟩ := run_bind h
    refine EldH.mk (f := (Formula.pv true)) hw2 rfl SC (S ?_)
    have h := run_some h
    refine RdH.mk ⟨_, h, ?_⟩
    exact St.le_mk2 SW
   ·refine S ?_
    refine CondH.f2 cs (by omega) (fun cs => S ?_)
    cases run_some h
    exact FinH.l SC
theorem toFormula_sat {a0 : Formula} {r : Formula} (h : toFormula a0 = some r) : Sat Tryz.prog 9 [((Formula.pv false) a0)] ((Formula.pv true) r) := by
 obtain ⟨n, hn⟩ := lim_some h
 exact (toFormulaN_sat n).1 _ _ hn
theorem toFormulaS_sat {a0 : List Formula} {r : List Formula} (h : toFormulaS a0 = some r) : Sat Tryz.prog 32 [(.sl false 5 (a0.map (Formula.pv false)))] (.sl true 5 (r.map (Formula.pv true))) := by
 obtain ⟨n, hn⟩ := lim_some h
 exact (toFormulaN_sat n).2 _ _ hn

set_option maxHeartbeats 4000000 in
theorem spec_l8ManyN_sat (n : Nat) : (∀ (a0 : Formula) (a1 : Int) (r : Int), spec_l8ManyN n a0 a1 = some r → Sat Tryz.prog 63 [((Formula.pv false) a0), (I a1)] (I r)) := by
 induction n with
 | zero => exact fun _ _ _ h => by simp [spec_l8ManyN] at h
 | succ n ih =>
  refine fun a0 a1 r h => ?_
  obtain ⟨h, cs⟩ := Run.of0 h
  rw [spec_l8ManyN] at h
  refine Sat.of_m (nt := 31) (rs := [.tmp 4]) (n := 100000) Tryz.func63 rfl rfl rfl rfl (by simp) (S ?_)
  refine Mg.know_val2 (b := false) (sz := 5) (es := a0.Parts.map (Formula.pv false)) (x := (.pv ((Formula.pv false) a0))) 0 [3] SC fun hl0 => ?_; rw [List.length_map] at hl0
  replace h := run_loop h
  refine Mg.forN h (fun i3 s3 => [(1, .val (.pv (I a1))), (2, .box (.pv ((Formula.pv false) a0))), (5, .val (.pv (I s3))), (6, .val (.pv (I (i3 : Int))))]) (fun i3 s3 => []) (St.le_mk2 SC) (fun i3 s3 hi h => ?_) (fun s3 h => ?_)
  ·have w := wrap_succ (i := i3) (by omega)
   refine S ?_
   refine CondH.t2 cs (by omega) (fun cs => S ?_)
   refine CondH.run cs h (fun cs h => S ?_) (fun cs h => S ?_)
   ·obtain ⟨v23, hv23, h⟩ := run_bind h
    refine IdxH.mk (f := (Formula.pv false)) hv23 SC (S ?_)
    obtain ⟨v28, hv28, h⟩ := run_bind h
    refine CallH.mk [false, false] (ih _ _ _ hv28) SC (S ?_)
    have h := run_some h
    refine RdH.mk ⟨_, h, ?_⟩
    exact St.le_mk2 SW
   ·cases run_some h
    exact FinH.l SC
  ·refine S ?_
   refine CondH.f2 cs (by omega) (fun cs => S ?_)
   cases run_some h
   exact FinH.l SC
theorem spec_l8Many_sat {a0 : Formula} {a1 : Int} {r : Int} (h : spec_l8Many a0 a1 = some r) : Sat Tryz.prog 63 [((Formula.pv false) a0), (I a1)] (I r) := by
 obtain ⟨n, hn⟩ := lim_some h
 exact (spec_l8ManyN_sat n) _ _ _ hn

set_option maxHeartbeats 4000000 in
theorem spec_l8None_sat {a0 : Term}  {r : Bool} (h : spec_l8None a0 = some r) : Sat Tryz.prog 138 [((Term.pv false) a0)] (B r) := by
 obtain ⟨h, cs⟩ := Run.of0 h
 unfold spec_l8None at h
 refine Sat.of_m (nt := 12) (rs := [.tmp 2]) (n := 100000) Tryz.func138 rfl rfl rfl rfl (by simp) (S ?_)
 refine CondH.run cs h (fun cs h => S ?_) (fun cs h => S ?_)
 ·cases run_some h
  exact FinH.l SC
 ·cases run_some h
  exact FinH.l SC

set_option maxHeartbeats 4000000 in
theorem spec_l2ManyN_sat (n : Nat) : (∀ (a0 : Term) (a1 : Int) (r : Int), spec_l2ManyN n a0 a1 = some r → Sat Tryz.prog 141 [((Term.pv false) a0), (I a1)] (I r)) := by
 induction n with
 | zero => exact fun _ _ _ h => by simp [spec_l2ManyN] at h
 | succ n ih =>
  refine fun a0 a1 r h => ?_
  obtain ⟨h, cs⟩ := Run.of0 h
  rw [spec_l2ManyN] at h
  refine Sat.of_m (nt := 31) (rs := [.tmp 4]) (n := 100000) Tryz.func141 rfl rfl rfl rfl (by simp) (S ?_)
  refine Mg.know_val2 (b := false) (sz := 2) (es := a0.Args.map (Term.pv false)) (x := (.pv ((Term.pv false) a0))) 0 [1] SC fun hl0 => ?_; rw [List.length_map] at hl0
  replace h := run_loop h
  refine Mg.forN h (fun i3 s3 => [(1, .val (.pv (I a1))), (2, .box (.pv ((Term.pv false) a0))), (5, .val (.pv (I s3))), (6, .val (.pv (I (i3 : Int))))]) (fun i3 s3 => []) (St.le_mk2 SC) (fun i3 s3 hi h => ?_) (fun s3 h => ?_)
  ·have w := wrap_succ (i := i3) (by omega)
   refine S ?_
   refine CondH.t2 cs (by omega) (fun cs => S ?_)
   refine CondH.run cs h (fun cs h => S ?_) (fun cs h => S ?_)
   ·obtain ⟨v23, hv23, h⟩ := run_bind h
    refine IdxH.mk (f := (Term.pv false)) hv23 SC (S ?_)
    obtain ⟨v28, hv28, h⟩ := run_bind h
    refine CallH.mk [false, false] (ih _ _ _ hv28) SC (S ?_)
    have h := run_some h
    refine RdH.mk ⟨_, h, ?_⟩
    exact St.le_mk2 SW
   ·cases run_some h
    exact FinH.l SC
  ·refine S ?_
   refine CondH.f2 cs (by omega) (fun cs => S ?_)
   cases run_some h
   exact FinH.l SC
theorem spec_l2Many_sat {a0 : Term} {a1 : Int} {r : Int} (h : spec_l2Many a0 a1 = some r) : Sat Tryz.prog 141 [((Term.pv false) a0), (I a1)] (I r) := by
 obtain ⟨n, hn⟩ := lim_some h
 exact (spec_l2ManyN_sat n) _ _ _ hn

set_option maxHeartbeats 4000000 in
theorem spec_l1Most_sat {a0 : Int} {a1 : Int}  {r : Int} (h : spec_l1Most a0 a1 = some r) : Sat Tryz.prog 170 [(I a0), (I a1)] (I r) := by
 obtain ⟨h, cs⟩ := Run.of0 h
 unfold spec_l1Most at h
 refine Sat.of_m (nt := 10) (rs := [.tmp 4]) (n := 100000) Tryz.func170 rfl rfl rfl rfl (by simp) (S ?_)
 refine CondH.run cs h (fun cs h => S ?_) (fun cs h => S ?_)
 ·cases run_some h
  exact FinH.l SC
 ·cases run_some h
  exact FinH.l SC

set_option maxHeartbeats 4000000 in
theorem spec_l2DepthN_sat (n : Nat) : (∀ (a0 : Term) (r : Int), spec_l2DepthN n a0 = some r → Sat Tryz.prog 142 [((Term.pv false) a0)] (I r)) := by
 induction n with
 | zero => exact fun _ _ h => by simp [spec_l2DepthN] at h
 | succ n ih =>
  refine fun a0 r h => ?_
  obtain ⟨h, cs⟩ := Run.of0 h
  rw [spec_l2DepthN] at h
  refine Sat.of_m (nt := 22) (rs := [.tmp 2]) (n := 100000) Tryz.func142 rfl rfl rfl rfl (by simp) (S ?_)
  refine Mg.know_val2 (b := false) (sz := 2) (es := a0.Args.map (Term.pv false)) (x := (.pv ((Term.pv false) a0))) 0 [1] SC fun hl0 => ?_; rw [List.length_map] at hl0
  replace h := run_loop h
  refine Mg.forN h (fun i3 s3 => [(1, .box (.pv ((Term.pv false) a0))), (3, .val (.pv (I s3))), (4, .val (.pv (I (i3 : Int))))]) (fun i3 s3 => []) (St.le_mk2 SC) (fun i3 s3 hi h => ?_) (fun s3 h => ?_)
  ·have w := wrap_succ (i := i3) (by omega)
   refine S ?_
   refine CondH.t2 cs (by omega) (fun cs => S ?_)
   obtain ⟨v16, hv16, h⟩ := run_bind h
   refine IdxH.mk (f := (Term.pv false)) hv16 SC (S ?_)
   obtain ⟨v18, hv18, h⟩ := run_bind h
   refine CallH.mk [false] (ih _ _ hv18) SC (S ?_)
   obtain ⟨v19, hv19, h⟩ := run_bind h
   refine CallH.mk [false, false] (spec_l1Most_sat hv19) SC (S ?_)
   have h := run_some h
   refine RdH.mk ⟨_, h, ?_⟩
   exact St.le_mk2 SW
  ·refine S ?_
   refine CondH.f2 cs (by omega) (fun cs => S ?_)
   cases run_some h
   exact FinH.l SC
theorem spec_l2Depth_sat {a0 : Term} {r : Int} (h : spec_l2Depth a0 = some r) : Sat Tryz.prog 142 [((Term.pv false) a0)] (I r) := by
 obtain ⟨n, hn⟩ := lim_some h
 exact (spec_l2DepthN_sat n) _ _ hn

set_option maxHeartbeats 4000000 in
theorem spec_l2Fits_sat {a0 : Term}  {r : Bool} (h : spec_l2Fits a0 = some r) : Sat Tryz.prog 108 [((Term.pv false) a0)] (B r) := by
 obtain ⟨h, cs⟩ := Run.of0 h
 unfold spec_l2Fits at h
 refine Sat.of_m (nt := 11) (rs := [.tmp 2]) (n := 100000) Tryz.func108 rfl rfl rfl rfl (by simp) (S ?_)
 obtain ⟨v4, hv4, h⟩ := run_bind h
 refine CallH.mk [false, false] (spec_l2Many_sat hv4) SC (S ?_)
 refine CondH.run cs h (fun cs h => S ?_) (fun cs h => S ?_)
 ·obtain ⟨v8, hv8, h⟩ := run_bind h
  refine CallH.mk [false] (spec_l2Depth_sat hv8) SC (S ?_)
  cases run_some h
  exact FinH.l SC
 ·cases run_some h
  exact FinH.l SC

set_option maxHeartbeats 4000000 in
theorem spec_l1In_sat {a0 : Int} {a1 : Int} {a2 : Int}  {r : Bool} (h : spec_l1In a0 a1 a2 = some r) : Sat Tryz.prog 70 [(I a0), (I a1), (I a2)] (B r) := by
 obtain ⟨h, cs⟩ := Run.of0 h
 unfold spec_l1In at h
 refine Sat.of_m (nt := 15) (rs := [.tmp 6]) (n := 100000) Tryz.func70 rfl rfl rfl rfl (by simp) (S ?_)
 refine CondH.run cs h (fun cs h => S ?_) (fun cs h => S ?_)
 ·cases run_some h
  exact FinH.l SC
 ·cases run_some h
  exact FinH.l SC

set_option maxHeartbeats 4000000 in
theorem spec_l2Small_sat {a0 : Int}  {r : Bool} (h : spec_l2Small a0 = some r) : Sat Tryz.prog 71 [((Ik .u8) a0)] (B r) := by
 obtain ⟨h, cs⟩ := Run.of0 h
 unfold spec_l2Small at h
 refine Sat.of_m (nt := 17) (rs := [.tmp 2]) (n := 100000) Tryz.func71 rfl rfl rfl rfl (by simp) (S ?_)
 refine CondH.run cs h (fun cs h => S ?_) (fun cs h => S ?_)
 ·refine CondH.run cs h (fun cs h => S ?_) (fun cs h => S ?_)
  ·cases run_some h
   exact FinH.l SC
  ·refine CondH.run cs h (fun cs h => S ?_) (fun cs h => S ?_)
   ·cases run_some h
    exact FinH.l SC
   ·cases run_some h
    exact FinH.l SC
 ·refine CondH.run cs h (fun cs h => S ?_) (fun cs h => S ?_)
  ·cases run_some h
   exact FinH.l SC
  ·cases run_some h
   exact FinH.l SC

set_option maxHeartbeats 4000000 in
theorem spec_l2Var_sat {a0 : ByteArray}  {r : Bool} (h : spec_l2Var a0 = some r) : Sat Tryz.prog 36 [(Sx a0)] (B r) := by
 obtain ⟨h, cs⟩ := Run.of0 h
 unfold spec_l2Var at h
 refine Sat.of_m (nt := 29) (rs := [.tmp 2]) (n := 100000) Tryz.func36 rfl rfl rfl rfl (by simp) (S ?_)
 obtain ⟨v6, hv6, h⟩ := run_bind h
 refine CallH.mk [false, false, false] (spec_l1In_sat hv6) SC (S ?_)
 refine CondH.run cs h (fun cs h => S ?_) (fun cs h => S ?_)
 ·obtain ⟨v10, hv10, h⟩ := run_bind h
  refine SidxH.mk hv10 (S ?_)
  refine CondH.run cs h (fun cs h => S ?_) (fun cs h => S ?_)
  ·cases run_some h
   exact FinH.l SC
  ·obtain ⟨v15, hv15, h⟩ := run_bind h
   refine SidxH.mk hv15 (S ?_)
   refine CondH.run cs h (fun cs h => S ?_) (fun cs h => S ?_)
   ·cases run_some h
    exact FinH.l SC
   ·obtain ⟨N4, hN4, h⟩ := run_bind h
    obtain ⟨hN4a, hN4b⟩ := bnd_some hN4
    replace h := run_loop h
    refine Mg.forA (N := N4) (a := 1) h (fun i4 s4 => [(0, .val (.pv (Sx a0))), (3, .val (.pv (I (i4 : Int))))]) (fun i4 s4 => []) (St.le_mk2 SC) (fun i4 s4 hi hj h => ?_) (fun j4 s4 hj h => ?_)
    ·have w := wrap_succ (i := i4) (by omega)
     refine S ?_
     refine CondH.t2 cs (by omega) (fun cs => S ?_)
     obtain ⟨v26, hv26, h⟩ := run_bind h
     refine SidxH.mk hv26 (S ?_)
     obtain ⟨v27, hv27, h⟩ := run_bind h
     refine CallH.mk [false] (spec_l2Small_sat hv27) SC (S ?_)
     refine CondH.run cs h (fun cs h => S ?_) (fun cs h => S ?_)
     ·have h := run_some h
      refine RdH.mk ⟨_, h, ?_⟩
      exact St.le_mk2 SW
     ·cases run_some h
      exact FinH.l SC
    ·refine S ?_
     refine CondH.f2 cs (by omega) (fun cs => S ?_)
     cases run_some h
     exact FinH.l SC
 ·cases run_some h
  exact FinH.l SC

set_option maxHeartbeats 4000000 in
theorem spec_l2Symbol_sat {a0 : ByteArray}  {r : Bool} (h : spec_l2Symbol a0 = some r) : Sat Tryz.prog 110 [(Sx a0)] (B r) := by
 obtain ⟨h, cs⟩ := Run.of0 h
 unfold spec_l2Symbol at h
 refine Sat.of_m (nt := 45) (rs := [.tmp 2]) (n := 100000) Tryz.func110 rfl rfl rfl rfl (by simp) (S ?_)
 obtain ⟨v6, hv6, h⟩ := run_bind h
 refine CallH.mk [false, false, false] (spec_l1In_sat hv6) SC (S ?_)
 refine CondH.run cs h (fun cs h => S ?_) (fun cs h => S ?_)
 ·obtain ⟨v10, hv10, h⟩ := run_bind h
  refine SidxH.mk hv10 (S ?_)
  refine CondH.run cs h (fun cs h => S ?_) (fun cs h => S ?_)
  ·cases run_some h
   exact FinH.l SC
  ·obtain ⟨v15, hv15, h⟩ := run_bind h
   refine SidxH.mk hv15 (S ?_)
   refine CondH.run cs h (fun cs h => S ?_) (fun cs h => S ?_)
   ·cases run_some h
    exact FinH.l SC
   ·refine CondH.run cs h (fun cs h => S ?_) (fun cs h => S ?_)
    ·cases run_some h
     exact FinH.l SC
    ·refine CondH.run cs h (fun cs h => S ?_) (fun cs h => S ?_)
     ·cases run_some h
      exact FinH.l SC
     ·refine CondH.run cs h (fun cs h => S ?_) (fun cs h => S ?_)
      ·cases run_some h
       exact FinH.l SC
      ·refine CondH.run cs h (fun cs h => S ?_) (fun cs h => S ?_)
       ·cases run_some h
        exact FinH.l SC
       ·refine CondH.run cs h (fun cs h => S ?_) (fun cs h => S ?_)
        ·cases run_some h
         exact FinH.l SC
        ·refine CondH.run cs h (fun cs h => S ?_) (fun cs h => S ?_)
         ·cases run_some h
          exact FinH.l SC
         ·refine CondH.run cs h (fun cs h => S ?_) (fun cs h => S ?_)
          ·cases run_some h
           exact FinH.l SC
          ·refine CondH.run cs h (fun cs h => S ?_) (fun cs h => S ?_)
           ·cases run_some h
            exact FinH.l SC
           ·obtain ⟨N14, hN14, h⟩ := run_bind h
            obtain ⟨hN14a, hN14b⟩ := bnd_some hN14
            replace h := run_loop h
            refine Mg.forA (N := N14) (a := 1) h (fun i14 s14 => [(0, .val (.pv (Sx a0))), (3, .val (.pv (I (i14 : Int))))]) (fun i14 s14 => []) (St.le_mk2 SC) (fun i14 s14 hi hj h => ?_) (fun j14 s14 hj h => ?_)
            ·have w := wrap_succ (i := i14) (by omega)
             refine S ?_
             refine CondH.t2 cs (by omega) (fun cs => S ?_)
             obtain ⟨v36, hv36, h⟩ := run_bind h
             refine SidxH.mk hv36 (S ?_)
             obtain ⟨v37, hv37, h⟩ := run_bind h
             refine CallH.mk [false] (spec_l2Small_sat hv37) SC (S ?_)
             refine CondH.run cs h (fun cs h => S ?_) (fun cs h => S ?_)
             ·have h := run_some h
              refine RdH.mk ⟨_, h, ?_⟩
              exact St.le_mk2 SW
             ·obtain ⟨v42, hv42, h⟩ := run_bind h
              refine SidxH.mk hv42 (S ?_)
              refine CondH.run cs h (fun cs h => S ?_) (fun cs h => S ?_)
              ·have h := run_some h
               refine RdH.mk ⟨_, h, ?_⟩
               exact St.le_mk2 SW
              ·cases run_some h
               exact FinH.l SC
            ·refine S ?_
             refine CondH.f2 cs (by omega) (fun cs => S ?_)
             cases run_some h
             exact FinH.l SC
 ·cases run_some h
  exact FinH.l SC

set_option maxHeartbeats 4000000 in
theorem spec_l2NodesN_sat (n : Nat) : (∀ (a0 : Term) (r : Bool), spec_l2NodesN n a0 = some r → Sat Tryz.prog 109 [((Term.pv false) a0)] (B r)) := by
 induction n with
 | zero => exact fun _ _ h => by simp [spec_l2NodesN] at h
 | succ n ih =>
  refine fun a0 r h => ?_
  obtain ⟨h, cs⟩ := Run.of0 h
  rw [spec_l2NodesN] at h
  refine Sat.of_m (nt := 35) (rs := [.tmp 2]) (n := 100000) Tryz.func109 rfl rfl rfl rfl (by simp) (S ?_)
  obtain ⟨v6, hv6, h⟩ := run_bind h
  refine CallH.mk [false] (spec_l2Var_sat hv6) SC (S ?_)
  refine CondH.run cs h (fun cs h => S ?_) (fun cs h => S ?_)
  ·cases run_some h
   exact FinH.l SC
  ·obtain ⟨v13, hv13, h⟩ := run_bind h
   refine CallH.mk [false] (spec_l2Symbol_sat hv13) SC (S ?_)
   refine CondH.run cs h (fun cs h => S ?_) (fun cs h => S ?_)
   ·refine CondH.run cs h (fun cs h => S ?_) (fun cs h => S ?_)
    ·cases run_some h
     exact FinH.l SC
    ·refine Mg.know_sl (b := false) (sz := 2) (es := a0.Args.map (Term.pv false)) 17 SC fun hl17 => ?_; rw [List.length_map] at hl17
     replace h := run_loop h
     refine Mg.forN h (fun i6 s6 => [(1, .box (.pv ((Term.pv false) a0))), (3, .val (.pv (I (i6 : Int))))]) (fun i6 s6 => []) (St.le_mk2 SC) (fun i6 s6 hi h => ?_) (fun s6 h => ?_)
     ·have w := wrap_succ (i := i6) (by omega)
      refine S ?_
      refine CondH.t2 cs (by omega) (fun cs => S ?_)
      obtain ⟨v31, hv31, h⟩ := run_bind h
      refine IdxH.mk (f := (Term.pv false)) hv31 SC (S ?_)
      obtain ⟨v33, hv33, h⟩ := run_bind h
      refine CallH.mk [false] (ih _ _ hv33) SC (S ?_)
      refine CondH.run cs h (fun cs h => S ?_) (fun cs h => S ?_)
      ·have h := run_some h
       refine RdH.mk ⟨_, h, ?_⟩
       exact St.le_mk2 SW
      ·cases run_some h
       exact FinH.l SC
     ·refine S ?_
      refine CondH.f2 cs (by omega) (fun cs => S ?_)
      cases run_some h
      exact FinH.l SC
   ·cases run_some h
    exact FinH.l SC
theorem spec_l2Nodes_sat {a0 : Term} {r : Bool} (h : spec_l2Nodes a0 = some r) : Sat Tryz.prog 109 [((Term.pv false) a0)] (B r) := by
 obtain ⟨n, hn⟩ := lim_some h
 exact (spec_l2NodesN_sat n) _ _ hn

set_option maxHeartbeats 4000000 in
theorem spec_l2Good_sat {a0 : Term}  {r : Bool} (h : spec_l2Good a0 = some r) : Sat Tryz.prog 111 [((Term.pv false) a0)] (B r) := by
 obtain ⟨h, cs⟩ := Run.of0 h
 unfold spec_l2Good at h
 refine Sat.of_m (nt := 9) (rs := [.tmp 2]) (n := 100000) Tryz.func111 rfl rfl rfl rfl (by simp) (S ?_)
 obtain ⟨v4, hv4, h⟩ := run_bind h
 refine CallH.mk [false] (spec_l2Fits_sat hv4) SC (S ?_)
 refine CondH.run cs h (fun cs h => S ?_) (fun cs h => S ?_)
 ·obtain ⟨v7, hv7, h⟩ := run_bind h
  refine CallH.mk [false] (spec_l2Nodes_sat hv7) SC (S ?_)
  cases run_some h
  exact FinH.l SC
 ·cases run_some h
  exact FinH.l SC

set_option maxHeartbeats 4000000 in
theorem spec_l2Atom_sat {a0 : Term}  {r : Bool} (h : spec_l2Atom a0 = some r) : Sat Tryz.prog 74 [((Term.pv false) a0)] (B r) := by
 obtain ⟨h, cs⟩ := Run.of0 h
 unfold spec_l2Atom at h
 refine Sat.of_m (nt := 35) (rs := [.tmp 2]) (n := 100000) Tryz.func74 rfl rfl rfl rfl (by simp) (S ?_)
 refine CondH.run cs h (fun cs h => S ?_) (fun cs h => S ?_)
 ·refine CondH.run cs h (fun cs h => S ?_) (fun cs h => S ?_)
  ·obtain ⟨v12, hv12, h⟩ := run_bind h
   refine CallH.mk [false] (spec_l2Fits_sat hv12) SC (S ?_)
   refine CondH.run cs h (fun cs h => S ?_) (fun cs h => S ?_)
   ·obtain ⟨v17, hv17, h⟩ := run_bind h
    refine IdxH.mk (f := (Term.pv false)) hv17 SC (S ?_)
    obtain ⟨v19, hv19, h⟩ := run_bind h
    refine CallH.mk [false] (spec_l2Nodes_sat hv19) SC (S ?_)
    refine CondH.run cs h (fun cs h => S ?_) (fun cs h => S ?_)
    ·obtain ⟨v24, hv24, h⟩ := run_bind h
     refine IdxH.mk (f := (Term.pv false)) hv24 SC (S ?_)
     obtain ⟨v26, hv26, h⟩ := run_bind h
     refine CallH.mk [false] (spec_l2Nodes_sat hv26) SC (S ?_)
     cases run_some h
     exact FinH.l SC
    ·cases run_some h
     exact FinH.l SC
   ·cases run_some h
    exact FinH.l SC
  ·cases run_some h
   exact FinH.l SC
 ·obtain ⟨v30, hv30, h⟩ := run_bind h
  refine CallH.mk [false] (spec_l2Symbol_sat hv30) SC (S ?_)
  refine CondH.run cs h (fun cs h => S ?_) (fun cs h => S ?_)
  ·obtain ⟨v33, hv33, h⟩ := run_bind h
   refine CallH.mk [false] (spec_l2Good_sat hv33) SC (S ?_)
   cases run_some h
   exact FinH.l SC
  ·cases run_some h
   exact FinH.l SC

set_option maxHeartbeats 4000000 in
theorem spec_l8Form_sat {a0 : Formula}  {r : Bool} (h : spec_l8Form a0 = some r) : Sat Tryz.prog 100 [((Formula.pv false) a0)] (B r) := by
 obtain ⟨h, cs⟩ := Run.of0 h
 unfold spec_l8Form at h
 refine Sat.of_m (nt := 83) (rs := [.tmp 2]) (n := 100000) Tryz.func100 rfl rfl rfl rfl (by simp) (S ?_)
 refine CondH.run cs h (fun cs h => S ?_) (fun cs h => S ?_)
 ·refine CondH.run cs h (fun cs h => S ?_) (fun cs h => S ?_)
  ·obtain ⟨v17, hv17, h⟩ := run_bind h
   refine CallH.mk [false] (spec_l8None_sat hv17) SC (S ?_)
   refine CondH.run cs h (fun cs h => S ?_) (fun cs h => S ?_)
   ·cases run_some h
    exact FinH.l SC
   ·cases run_some h
    exact FinH.l SC
  ·cases run_some h
   exact FinH.l SC
 ·refine CondH.run cs h (fun cs h => S ?_) (fun cs h => S ?_)
  ·refine CondH.run cs h (fun cs h => S ?_) (fun cs h => S ?_)
   ·obtain ⟨v17, hv17, h⟩ := run_bind h
    refine CallH.mk [false] (spec_l8None_sat hv17) SC (S ?_)
    refine CondH.run cs h (fun cs h => S ?_) (fun cs h => S ?_)
    ·cases run_some h
     exact FinH.l SC
    ·cases run_some h
     exact FinH.l SC
   ·cases run_some h
    exact FinH.l SC
  ·refine CondH.run cs h (fun cs h => S ?_) (fun cs h => S ?_)
   ·refine CondH.run cs h (fun cs h => S ?_) (fun cs h => S ?_)
    ·obtain ⟨v31, hv31, h⟩ := run_bind h
     refine CallH.mk [false] (spec_l2Atom_sat hv31) SC (S ?_)
     refine CondH.run cs h (fun cs h => S ?_) (fun cs h => S ?_)
     ·cases run_some h
      exact FinH.l SC
     ·cases run_some h
      exact FinH.l SC
    ·cases run_some h
     exact FinH.l SC
   ·refine CondH.run cs h (fun cs h => S ?_) (fun cs h => S ?_)
    ·refine CondH.run cs h (fun cs h => S ?_) (fun cs h => S ?_)
     ·obtain ⟨v45, hv45, h⟩ := run_bind h
      refine CallH.mk [false] (spec_l8None_sat hv45) SC (S ?_)
      refine CondH.run cs h (fun cs h => S ?_) (fun cs h => S ?_)
      ·cases run_some h
       exact FinH.l SC
      ·cases run_some h
       exact FinH.l SC
     ·cases run_some h
      exact FinH.l SC
    ·refine CondH.run cs h (fun cs h => S ?_) (fun cs h => S ?_)
     ·refine CondH.run cs h (fun cs h => S ?_) (fun cs h => S ?_)
      ·obtain ⟨v61, hv61, h⟩ := run_bind h
       refine CallH.mk [false] (spec_l8None_sat hv61) SC (S ?_)
       refine CondH.run cs h (fun cs h => S ?_) (fun cs h => S ?_)
       ·cases run_some h
        exact FinH.l SC
       ·cases run_some h
        exact FinH.l SC
      ·cases run_some h
       exact FinH.l SC
     ·refine CondH.run cs h (fun cs h => S ?_) (fun cs h => S ?_)
      ·refine CondH.run cs h (fun cs h => S ?_) (fun cs h => S ?_)
       ·obtain ⟨v61, hv61, h⟩ := run_bind h
        refine CallH.mk [false] (spec_l8None_sat hv61) SC (S ?_)
        refine CondH.run cs h (fun cs h => S ?_) (fun cs h => S ?_)
        ·cases run_some h
         exact FinH.l SC
        ·cases run_some h
         exact FinH.l SC
       ·cases run_some h
        exact FinH.l SC
      ·refine CondH.run cs h (fun cs h => S ?_) (fun cs h => S ?_)
       ·refine CondH.run cs h (fun cs h => S ?_) (fun cs h => S ?_)
        ·obtain ⟨v61, hv61, h⟩ := run_bind h
         refine CallH.mk [false] (spec_l8None_sat hv61) SC (S ?_)
         refine CondH.run cs h (fun cs h => S ?_) (fun cs h => S ?_)
         ·cases run_some h
          exact FinH.l SC
         ·cases run_some h
          exact FinH.l SC
        ·cases run_some h
         exact FinH.l SC
       ·refine CondH.run cs h (fun cs h => S ?_) (fun cs h => S ?_)
        ·refine CondH.run cs h (fun cs h => S ?_) (fun cs h => S ?_)
         ·obtain ⟨v76, hv76, h⟩ := run_bind h
          refine CallH.mk [false] (spec_l8None_sat hv76) SC (S ?_)
          refine CondH.run cs h (fun cs h => S ?_) (fun cs h => S ?_)
          ·obtain ⟨v81, hv81, h⟩ := run_bind h
           refine CallH.mk [false] (spec_l2Var_sat hv81) SC (S ?_)
           cases run_some h
           exact FinH.l SC
          ·cases run_some h
           exact FinH.l SC
         ·cases run_some h
          exact FinH.l SC
        ·refine CondH.run cs h (fun cs h => S ?_) (fun cs h => S ?_)
         ·refine CondH.run cs h (fun cs h => S ?_) (fun cs h => S ?_)
          ·obtain ⟨v76, hv76, h⟩ := run_bind h
           refine CallH.mk [false] (spec_l8None_sat hv76) SC (S ?_)
           refine CondH.run cs h (fun cs h => S ?_) (fun cs h => S ?_)
           ·obtain ⟨v81, hv81, h⟩ := run_bind h
            refine CallH.mk [false] (spec_l2Var_sat hv81) SC (S ?_)
            cases run_some h
            exact FinH.l SC
           ·cases run_some h
            exact FinH.l SC
          ·cases run_some h
           exact FinH.l SC
         ·cases run_some h
          exact FinH.l SC

set_option maxHeartbeats 4000000 in
theorem spec_l8FormsN_sat (n : Nat) : (∀ (a0 : Formula) (r : Bool), spec_l8FormsN n a0 = some r → Sat Tryz.prog 64 [((Formula.pv false) a0)] (B r)) := by
 induction n with
 | zero => exact fun _ _ h => by simp [spec_l8FormsN] at h
 | succ n ih =>
  refine fun a0 r h => ?_
  obtain ⟨h, cs⟩ := Run.of0 h
  rw [spec_l8FormsN] at h
  refine Sat.of_m (nt := 21) (rs := [.tmp 2]) (n := 100000) Tryz.func64 rfl rfl rfl rfl (by simp) (S ?_)
  obtain ⟨v5, hv5, h⟩ := run_bind h
  refine CallH.mk [false] (spec_l8Form_sat hv5) SC (S ?_)
  refine CondH.run cs h (fun cs h => S ?_) (fun cs h => S ?_)
  ·refine Mg.know_val2 (b := false) (sz := 5) (es := a0.Parts.map (Formula.pv false)) (x := (.pv ((Formula.pv false) a0))) 0 [3] SC fun hl0 => ?_; rw [List.length_map] at hl0
   replace h := run_loop h
   refine Mg.forN h (fun i4 s4 => [(1, .box (.pv ((Formula.pv false) a0))), (3, .val (.pv (I (i4 : Int))))]) (fun i4 s4 => []) (St.le_mk2 SC) (fun i4 s4 hi h => ?_) (fun s4 h => ?_)
   ·have w := wrap_succ (i := i4) (by omega)
    refine S ?_
    refine CondH.t2 cs (by omega) (fun cs => S ?_)
    obtain ⟨v17, hv17, h⟩ := run_bind h
    refine IdxH.mk (f := (Formula.pv false)) hv17 SC (S ?_)
    obtain ⟨v19, hv19, h⟩ := run_bind h
    refine CallH.mk [false] (ih _ _ hv19) SC (S ?_)
    refine CondH.run cs h (fun cs h => S ?_) (fun cs h => S ?_)
    ·have h := run_some h
     refine RdH.mk ⟨_, h, ?_⟩
     exact St.le_mk2 SW
    ·cases run_some h
     exact FinH.l SC
   ·refine S ?_
    refine CondH.f2 cs (by omega) (fun cs => S ?_)
    cases run_some h
    exact FinH.l SC
  ·cases run_some h
   exact FinH.l SC
theorem spec_l8Forms_sat {a0 : Formula} {r : Bool} (h : spec_l8Forms a0 = some r) : Sat Tryz.prog 64 [((Formula.pv false) a0)] (B r) := by
 obtain ⟨n, hn⟩ := lim_some h
 exact (spec_l8FormsN_sat n) _ _ hn

set_option maxHeartbeats 4000000 in
theorem spec_l8Good_sat {a0 : Formula}  {r : Bool} (h : spec_l8Good a0 = some r) : Sat Tryz.prog 29 [((Formula.pv false) a0)] (B r) := by
 obtain ⟨h, cs⟩ := Run.of0 h
 unfold spec_l8Good at h
 refine Sat.of_m (nt := 10) (rs := [.tmp 2]) (n := 100000) Tryz.func29 rfl rfl rfl rfl (by simp) (S ?_)
 obtain ⟨v4, hv4, h⟩ := run_bind h
 refine CallH.mk [false, false] (spec_l8Many_sat hv4) SC (S ?_)
 refine CondH.run cs h (fun cs h => S ?_) (fun cs h => S ?_)
 ·obtain ⟨v8, hv8, h⟩ := run_bind h
  refine CallH.mk [false] (spec_l8Forms_sat hv8) SC (S ?_)
  cases run_some h
  exact FinH.l SC
 ·cases run_some h
  exact FinH.l SC

set_option maxHeartbeats 4000000 in
theorem spec_l23Numeral_sat {a0 : Int}  {r : Term} (h : spec_l23Numeral a0 = some r) : Sat Tryz.prog 38 [(I a0)] ((Term.pv true) r) := by
 obtain ⟨h, cs⟩ := Run.of0 h
 unfold spec_l23Numeral at h
 refine Sat.of_m (nt := 15) (rs := [.cell 2 33]) (n := 100000) Tryz.func38 rfl rfl rfl rfl (by simp) (S ?_)
 obtain ⟨N3, hN3, h⟩ := run_bind h
 obtain ⟨hN3a, hN3b⟩ := bnd_some hN3
 replace h := run_loop h
 refine Mg.forN h (fun i3 s3 => [(0, .val (.pv (I a0))), (2, .box (.node [(.pv (Sx (⟨#[]⟩ : ByteArray))), (.pv (.sl true 2 []))])), (3, .box (.node [(.pv (Sx s3.1)), (.own 9309)])), (4, .val (.pv (I (i3 : Int))))]) (fun i3 s3 => [(9309, (2, s3.2.map (Term.pv true)))]) (St.le_trans (St.le_nilB (x := (.node [(.pv (Sx (⟨#[122, 101, 114, 111]⟩ : ByteArray))), (.pv (.sl true 2 []))])) 3 [1] 9309 2 NM SC SC SC) (St.le_mk2 SC)) (fun i3 s3 hi h => ?_) (fun s3 h => ?_)
 ·have w := wrap_succ (i := i3) (by omega)
  refine S ?_
  refine CondH.t2 cs (by omega) (fun cs => S ?_)
  have h := run_some h
  refine RdH.mk ⟨_, h, ?_⟩
  refine St.le_trans (St.le_mk (S := [(0, .val (.pv (I a0))), (2, .box (.node [(.pv (Sx (⟨#[]⟩ : ByteArray))), (.pv (.sl true 2 []))])), (3, .box (.node [(.pv (Sx (⟨#[115]⟩ : ByteArray))), (.own 192)])), (4, .val (.pv (I (IntKind.i64.wrap ((i3 : Int) + (1 : Int))))))]) (O := [(192, (2, ([(Term.mk s3.1 s3.2)]).map (Term.pv true)))]) SW SW) ?_
  refine St.le_rn 192 9309 (by decide) NM ?_
  exact St.le_mk2 SW
 ·refine S ?_
  refine CondH.f2 cs (by omega) (fun cs => S ?_)
  cases run_some h
  exact FinH.l SC

set_option maxHeartbeats 4000000 in
theorem spec_l2OwnN_sat (n : Nat) : (∀ (a0 : Term) (r : Term), spec_l2OwnN n a0 = some r → Sat Tryz.prog 78 [((Term.pv false) a0)] ((Term.pv true) r)) := by
 induction n with
 | zero => exact fun _ _ h => by simp [spec_l2OwnN] at h
 | succ n ih =>
  refine fun a0 r h => ?_
  obtain ⟨h, cs⟩ := Run.of0 h
  rw [spec_l2OwnN] at h
  refine Sat.of_m (nt := 27) (rs := [.cell 2 33]) (n := 100000) Tryz.func78 rfl rfl rfl rfl (by simp) (S ?_)
  refine Mg.know_val2 (b := false) (sz := 2) (es := a0.Args.map (Term.pv false)) (x := (.pv ((Term.pv false) a0))) 0 [1] SC fun hl0 => ?_; rw [List.length_map] at hl0
  replace h := run_loop h
  refine Mg.forN h (fun i3 s3 => [(1, .box (.pv ((Term.pv false) a0))), (2, .box (.node [(.pv (Sx (⟨#[]⟩ : ByteArray))), (.pv (.sl true 2 []))])), (3, .box (.node [(.pv (Sx a0.Name)), (.own 9309)])), (4, .val (.pv (I (i3 : Int))))]) (fun i3 s3 => [(9309, (2, s3.map (Term.pv true)))]) (St.le_trans (St.le_nilB (x := (.node [(.pv (Sx a0.Name)), (.pv (.sl true 2 []))])) 3 [1] 9309 2 NM SC SC SC) (St.le_mk2 SC)) (fun i3 s3 hi h => ?_) (fun s3 h => ?_)
  ·have w := wrap_succ (i := i3) (by omega)
   refine S ?_
   refine CondH.t2 cs (by omega) (fun cs => S ?_)
   obtain ⟨v20, hv20, h⟩ := run_bind h
   refine IdxH.mk (f := (Term.pv false)) hv20 SC (S ?_)
   obtain ⟨v22, hv22, h⟩ := run_bind h
   refine CallH.mk [false] (ih _ _ hv22) SC (S ?_)
   obtain ⟨v24, hv24, h⟩ := run_bind h
   refine AppH.mk (f := (Term.pv true)) (fun a => Term.psize _ a) hv24 SC SC (S ?_)
   refine And.intro (DrawH.ak [] [352, 368, 384]) (S ?_)
   have h := run_some h
   refine RdH.mk ⟨_, h, ?_⟩
   refine St.le_trans (St.le_mk (S := [(1, .box (.pv ((Term.pv false) a0))), (2, .box (.node [(.pv (Sx (⟨#[]⟩ : ByteArray))), (.pv (.sl true 2 []))])), (3, .box (.node [(.pv (Sx a0.Name)), (.own 384)])), (4, .val (.pv (I (IntKind.i64.wrap ((i3 : Int) + (1 : Int))))))]) (O := [(384, (2, v24.map (Term.pv true)))]) SW SW) ?_
   refine St.le_rn 384 9309 (by decide) NM ?_
   exact St.le_mk2 SW
  ·refine S ?_
   refine CondH.f2 cs (by omega) (fun cs => S ?_)
   cases run_some h
   exact FinH.l SC
theorem spec_l2Own_sat {a0 : Term} {r : Term} (h : spec_l2Own a0 = some r) : Sat Tryz.prog 78 [((Term.pv false) a0)] ((Term.pv true) r) := by
 obtain ⟨n, hn⟩ := lim_some h
 exact (spec_l2OwnN_sat n) _ _ hn

set_option maxHeartbeats 4000000 in
theorem spec_l4Put_sat {a0 : Substitution} {a1 : ByteArray} {a2 : Term}  {r : Substitution} (h : spec_l4Put a0 a1 a2 = some r) : Sat Tryz.prog 73 [((Substitution.pv false) a0), (Sx a1), ((Term.pv false) a2)] ((Substitution.pv false) r) := by
 obtain ⟨h, cs⟩ := Run.of0 h
 unfold spec_l4Put at h
 refine Sat.of_m (nt := 51) (rs := [.cell 6 93]) (n := 100000) Tryz.func73 rfl rfl rfl rfl (by simp) (S ?_)
 refine CondH.run cs h (fun cs h => S ?_) (fun cs h => S ?_)
 ·cases run_some h
  exact FinH.r SC
 ·refine Mg.know_val2 (b := false) (sz := 3) (es := a0.Bindings.map (Binding.pv false)) (x := (.pv ((Substitution.pv false) a0))) 0 [0] SC fun hl0 => ?_; rw [List.length_map] at hl0
  replace h := run_loop h
  refine Mg.forN h (fun i4 s4 => [(1, .val (.pv (Sx a1))), (3, .box (.pv ((Substitution.pv false) a0))), (5, .box (.pv ((Term.pv false) a2))), (6, .box (.node [(.pv (.sl true 3 []))])), (7, .val (.pv (I (i4 : Int))))]) (fun i4 s4 => []) (St.le_mk2 SC) (fun i4 s4 hi h => ?_) (fun s4 h => ?_)
  ·have w := wrap_succ (i := i4) (by omega)
   refine S ?_
   refine CondH.t2 cs (by omega) (fun cs => S ?_)
   obtain ⟨v23, hv23, h⟩ := run_bind h
   refine IdxH.mk (f := (Binding.pv false)) hv23 SC (S ?_)
   refine CondH.run cs h (fun cs h => S ?_) (fun cs h => S ?_)
   ·have h := run_some h
    refine RdH.mk ⟨_, h, ?_⟩
    exact St.le_mk2 SW
   ·obtain ⟨v35, hv35, h⟩ := run_bind h
    refine SlcH.mk (f := (Binding.pv false)) hv35 SC (S ?_)
    obtain ⟨v36, hv36, h⟩ := run_bind h
    refine AppH.mk (f := (Binding.pv false)) (fun a => Binding.psize _ a) hv36 SC SC (S ?_)
    obtain ⟨v40, hv40, h⟩ := run_bind h
    refine CallH.mk [false] (Sat.vwOf (res' := ((Term.pv false) v40)) (spec_l2Own_sat hv40) (by simp only [view_tup, view_sl, view_agg, view_lit, PV.views, RB, RS])) SC (S ?_)
    obtain ⟨v43, hv43, h⟩ := run_bind h
    refine AppH.mk (f := (Binding.pv false)) (fun a => Binding.psize _ a) hv43 SC SC (S ?_)
    obtain ⟨v48, hv48, h⟩ := run_bind h
    refine SlcH.mk (f := (Binding.pv false)) hv48 SC (S ?_)
    obtain ⟨v49, hv49, h⟩ := run_bind h
    refine AppH.mk (f := (Binding.pv false)) (fun a => Binding.psize _ a) hv49 SC SC (S ?_)
    cases run_some h
    exact FinH.r SC
  ·refine S ?_
   refine CondH.f2 cs (by omega) (fun cs => S ?_)
   obtain ⟨v35, hv35, h⟩ := run_bind h
   refine SlcH.mk (f := (Binding.pv false)) hv35 SC (S ?_)
   obtain ⟨v36, hv36, h⟩ := run_bind h
   refine AppH.mk (f := (Binding.pv false)) (fun a => Binding.psize _ a) hv36 SC SC (S ?_)
   obtain ⟨v40, hv40, h⟩ := run_bind h
   refine CallH.mk [false] (Sat.vwOf (res' := ((Term.pv false) v40)) (spec_l2Own_sat hv40) (by simp only [view_tup, view_sl, view_agg, view_lit, PV.views, RB, RS])) SC (S ?_)
   obtain ⟨v43, hv43, h⟩ := run_bind h
   refine AppH.mk (f := (Binding.pv false)) (fun a => Binding.psize _ a) hv43 SC SC (S ?_)
   obtain ⟨v48, hv48, h⟩ := run_bind h
   refine SlcH.mk (f := (Binding.pv false)) hv48 SC (S ?_)
   obtain ⟨v49, hv49, h⟩ := run_bind h
   refine AppH.mk (f := (Binding.pv false)) (fun a => Binding.psize _ a) hv49 SC SC (S ?_)
   cases run_some h
   exact FinH.r SC

set_option maxHeartbeats 4000000 in
theorem spec_l4Find_sat {a0 : Substitution} {a1 : ByteArray}  {r : Int} (h : spec_l4Find a0 a1 = some r) : Sat Tryz.prog 107 [((Substitution.pv false) a0), (Sx a1)] (I r) := by
 obtain ⟨h, cs⟩ := Run.of0 h
 unfold spec_l4Find at h
 refine Sat.of_m (nt := 22) (rs := [.tmp 4]) (n := 100000) Tryz.func107 rfl rfl rfl rfl (by simp) (S ?_)
 refine Mg.know_val2 (b := false) (sz := 3) (es := a0.Bindings.map (Binding.pv false)) (x := (.pv ((Substitution.pv false) a0))) 0 [0] SC fun hl0 => ?_; rw [List.length_map] at hl0
 replace h := run_loop h
 refine Mg.forN h (fun i2 s2 => [(1, .val (.pv (Sx a1))), (2, .box (.pv ((Substitution.pv false) a0))), (5, .val (.pv (I (i2 : Int))))]) (fun i2 s2 => []) (St.le_mk2 SC) (fun i2 s2 hi h => ?_) (fun s2 h => ?_)
 ·have w := wrap_succ (i := i2) (by omega)
  refine S ?_
  refine CondH.t2 cs (by omega) (fun cs => S ?_)
  obtain ⟨v16, hv16, h⟩ := run_bind h
  refine IdxH.mk (f := (Binding.pv false)) hv16 SC (S ?_)
  refine CondH.run cs h (fun cs h => S ?_) (fun cs h => S ?_)
  ·cases run_some h
   exact FinH.l SC
  ·have h := run_some h
   refine RdH.mk ⟨_, h, ?_⟩
   exact St.le_mk2 SW
 ·refine S ?_
  refine CondH.f2 cs (by omega) (fun cs => S ?_)
  cases run_some h
  exact FinH.l SC

set_option maxHeartbeats 4000000 in
theorem spec_l4ApplyN_sat (n : Nat) : (∀ (a0 : Substitution) (a1 : Term) (r : Term), spec_l4ApplyN n a0 a1 = some r → Sat Tryz.prog 72 [((Substitution.pv false) a0), ((Term.pv false) a1)] ((Term.pv true) r)) := by
 induction n with
 | zero => exact fun _ _ _ h => by simp [spec_l4ApplyN] at h
 | succ n ih =>
  refine fun a0 a1 r h => ?_
  obtain ⟨h, cs⟩ := Run.of0 h
  rw [spec_l4ApplyN] at h
  refine Sat.of_m (nt := 50) (rs := [.cell 4 33]) (n := 100000) Tryz.func72 rfl rfl rfl rfl (by simp) (S ?_)
  obtain ⟨v10, hv10, h⟩ := run_bind h
  refine CallH.mk [false] (spec_l2Var_sat hv10) SC (S ?_)
  refine CondH.run cs h (fun cs h => S ?_) (fun cs h => S ?_)
  ·obtain ⟨v14, hv14, h⟩ := run_bind h
   refine CallH.mk [false, false] (spec_l4Find_sat hv14) SC (S ?_)
   refine CondH.run cs h (fun cs h => S ?_) (fun cs h => S ?_)
   ·obtain ⟨v20, hv20, h⟩ := run_bind h
    refine IdxH.mk (f := (Binding.pv false)) hv20 SC (S ?_)
    obtain ⟨v23, hv23, h⟩ := run_bind h
    refine CallH.mk [false] (spec_l2Own_sat hv23) SC (S ?_)
    cases run_some h
    exact FinH.l SC
   ·cases run_some h
    exact FinH.l SC
  ·refine Mg.know_val2 (b := false) (sz := 2) (es := a1.Args.map (Term.pv false)) (x := (.pv ((Term.pv false) a1))) 1 [1] SC fun hl1 => ?_; rw [List.length_map] at hl1
   replace h := run_loop h
   refine Mg.forN h (fun i8 s8 => [(2, .box (.pv ((Substitution.pv false) a0))), (3, .box (.pv ((Term.pv false) a1))), (4, .box (.node [(.pv (Sx (⟨#[]⟩ : ByteArray))), (.pv (.sl true 2 []))])), (6, .box (.node [(.pv (Sx a1.Name)), (.own 9324)])), (7, .val (.pv (I (i8 : Int))))]) (fun i8 s8 => [(9324, (2, s8.map (Term.pv true)))]) (St.le_trans (St.le_nilB (x := (.node [(.pv (Sx a1.Name)), (.pv (.sl true 2 []))])) 6 [1] 9324 2 NM SC SC SC) (St.le_mk2 SC)) (fun i8 s8 hi h => ?_) (fun s8 h => ?_)
   ·have w := wrap_succ (i := i8) (by omega)
    refine S ?_
    refine CondH.t2 cs (by omega) (fun cs => S ?_)
    obtain ⟨v43, hv43, h⟩ := run_bind h
    refine IdxH.mk (f := (Term.pv false)) hv43 SC (S ?_)
    obtain ⟨v45, hv45, h⟩ := run_bind h
    refine CallH.mk [false, false] (ih _ _ _ hv45) SC (S ?_)
    obtain ⟨v47, hv47, h⟩ := run_bind h
    refine AppH.mk (f := (Term.pv true)) (fun a => Term.psize _ a) hv47 SC SC (S ?_)
    refine And.intro (DrawH.ak [] [720, 736, 752]) (S ?_)
    have h := run_some h
    refine RdH.mk ⟨_, h, ?_⟩
    refine St.le_trans (St.le_mk (S := [(2, .box (.pv ((Substitution.pv false) a0))), (3, .box (.pv ((Term.pv false) a1))), (4, .box (.node [(.pv (Sx (⟨#[]⟩ : ByteArray))), (.pv (.sl true 2 []))])), (6, .box (.node [(.pv (Sx a1.Name)), (.own 752)])), (7, .val (.pv (I (IntKind.i64.wrap ((i8 : Int) + (1 : Int))))))]) (O := [(752, (2, v47.map (Term.pv true)))]) SW SW) ?_
    refine St.le_rn 752 9324 (by decide) NM ?_
    exact St.le_mk2 SW
   ·refine S ?_
    refine CondH.f2 cs (by omega) (fun cs => S ?_)
    cases run_some h
    exact FinH.l SC
theorem spec_l4Apply_sat {a0 : Substitution} {a1 : Term} {r : Term} (h : spec_l4Apply a0 a1 = some r) : Sat Tryz.prog 72 [((Substitution.pv false) a0), ((Term.pv false) a1)] ((Term.pv true) r) := by
 obtain ⟨n, hn⟩ := lim_some h
 exact (spec_l4ApplyN_sat n) _ _ _ hn

set_option maxHeartbeats 4000000 in
theorem spec_l2Put_sat {a0 : List ByteArray} {a1 : ByteArray}  {r : List ByteArray} (h : spec_l2Put a0 a1 = some r) : Sat Tryz.prog 143 [(.sl false 1 (a0.map Sx)), (Sx a1)] (.sl false 1 (r.map Sx)) := by
 obtain ⟨h, cs⟩ := Run.of0 h
 unfold spec_l2Put at h
 refine Sat.of_m (nt := 45) (rs := [.tmp 4]) (n := 100000) Tryz.func143 rfl rfl rfl rfl (by simp) (S ?_)
 refine Mg.know_sl (b := false) (sz := 1) (es := a0.map Sx) 0 SC fun hl0 => ?_; rw [List.length_map] at hl0
 replace h := run_loop h
 refine Mg.forN h (fun i2 s2 => [(0, .val (.pv (.sl false 1 (a0.map Sx)))), (1, .val (.pv (Sx a1))), (5, .val (.pv (I (i2 : Int))))]) (fun i2 s2 => []) (St.le_mk2 SC) (fun i2 s2 hi h => ?_) (fun s2 h => ?_)
 ·have w := wrap_succ (i := i2) (by omega)
  refine S ?_
  refine CondH.t2 cs (by omega) (fun cs => S ?_)
  obtain ⟨v13, hv13, h⟩ := run_bind h
  refine IdxH.mk (f := Sx) hv13 SC (S ?_)
  refine CondH.run cs h (fun cs h => S ?_) (fun cs h => S ?_)
  ·have h := run_some h
   refine RdH.mk ⟨_, h, ?_⟩
   exact St.le_mk2 SW
  ·obtain ⟨v27, hv27, h⟩ := run_bind h
   refine IdxH.mk (f := Sx) hv27 SC (S ?_)
   refine CondH.run cs h (fun cs h => S ?_) (fun cs h => S ?_)
   ·cases run_some h
    exact FinH.r SC
   ·obtain ⟨v36, hv36, h⟩ := run_bind h
    refine SlcH.mk (f := Sx) hv36 SC (S ?_)
    obtain ⟨v37, hv37, h⟩ := run_bind h
    refine AppH.mk (f := Sx) (fun _ => rfl) hv37 SC SC (S ?_)
    obtain ⟨v40, hv40, h⟩ := run_bind h
    refine AppH.mk (f := Sx) (fun _ => rfl) hv40 SC SC (S ?_)
    obtain ⟨v43, hv43, h⟩ := run_bind h
    refine SlcH.mk (f := Sx) hv43 SC (S ?_)
    obtain ⟨v44, hv44, h⟩ := run_bind h
    refine AppH.mk (f := Sx) (fun _ => rfl) hv44 SC SC (S ?_)
    refine And.intro (DrawH.ak [] [528, 592, 624, 640, 704]) (S ?_)
    cases run_some h
    exact FinH.r SC
 ·refine S ?_
  refine CondH.f2 cs (by omega) (fun cs => S ?_)
  obtain ⟨v36, hv36, h⟩ := run_bind h
  refine SlcH.mk (f := Sx) hv36 SC (S ?_)
  obtain ⟨v37, hv37, h⟩ := run_bind h
  refine AppH.mk (f := Sx) (fun _ => rfl) hv37 SC SC (S ?_)
  obtain ⟨v40, hv40, h⟩ := run_bind h
  refine AppH.mk (f := Sx) (fun _ => rfl) hv40 SC SC (S ?_)
  obtain ⟨v43, hv43, h⟩ := run_bind h
  refine SlcH.mk (f := Sx) hv43 SC (S ?_)
  obtain ⟨v44, hv44, h⟩ := run_bind h
  refine AppH.mk (f := Sx) (fun _ => rfl) hv44 SC SC (S ?_)
  refine And.intro (DrawH.ak [] [528, 592, 624, 640, 704]) (S ?_)
  cases run_some h
  exact FinH.r SC

set_option maxHeartbeats 4000000 in
theorem spec_l2IntoN_sat (n : Nat) : (∀ (a0 : List ByteArray) (a1 : Term) (r : List ByteArray), spec_l2IntoN n a0 a1 = some r → Sat Tryz.prog 113 [(.sl false 1 (a0.map Sx)), ((Term.pv false) a1)] (.sl false 1 (r.map Sx))) := by
 induction n with
 | zero => exact fun _ _ _ h => by simp [spec_l2IntoN] at h
 | succ n ih =>
  refine fun a0 a1 r h => ?_
  obtain ⟨h, cs⟩ := Run.of0 h
  rw [spec_l2IntoN] at h
  refine Sat.of_m (nt := 28) (rs := [.tmp 4]) (n := 100000) Tryz.func113 rfl rfl rfl rfl (by simp) (S ?_)
  obtain ⟨v8, hv8, h⟩ := run_bind h
  refine CallH.mk [false] (spec_l2Var_sat hv8) SC (S ?_)
  refine CondH.run cs h (fun cs h => S ?_) (fun cs h => S ?_)
  ·obtain ⟨v12, hv12, h⟩ := run_bind h
   refine CallH.mk [false, false] (spec_l2Put_sat hv12) SC (S ?_)
   cases run_some h
   exact FinH.r SC
  ·refine Mg.know_val2 (b := false) (sz := 2) (es := a1.Args.map (Term.pv false)) (x := (.pv ((Term.pv false) a1))) 1 [1] SC fun hl1 => ?_; rw [List.length_map] at hl1
   replace h := run_loop h
   refine Mg.forN h (fun i4 s4 => [(0, .val (.pv (.sl false 1 (s4.map Sx)))), (3, .box (.pv ((Term.pv false) a1))), (5, .val (.pv (I (i4 : Int))))]) (fun i4 s4 => []) (St.le_mk2 SC) (fun i4 s4 hi h => ?_) (fun s4 h => ?_)
   ·have w := wrap_succ (i := i4) (by omega)
    refine S ?_
    refine CondH.t2 cs (by omega) (fun cs => S ?_)
    obtain ⟨v24, hv24, h⟩ := run_bind h
    refine IdxH.mk (f := (Term.pv false)) hv24 SC (S ?_)
    obtain ⟨v26, hv26, h⟩ := run_bind h
    refine CallH.mk [false, false] (ih _ _ _ hv26) SC (S ?_)
    have h := run_some h
    refine RdH.mk ⟨_, h, ?_⟩
    exact St.le_mk2 SW
   ·refine S ?_
    refine CondH.f2 cs (by omega) (fun cs => S ?_)
    cases run_some h
    exact FinH.r SC
theorem spec_l2Into_sat {a0 : List ByteArray} {a1 : Term} {r : List ByteArray} (h : spec_l2Into a0 a1 = some r) : Sat Tryz.prog 113 [(.sl false 1 (a0.map Sx)), ((Term.pv false) a1)] (.sl false 1 (r.map Sx)) := by
 obtain ⟨n, hn⟩ := lim_some h
 exact (spec_l2IntoN_sat n) _ _ _ hn

set_option maxHeartbeats 4000000 in
theorem spec_l2Vars_sat {a0 : Term}  {r : List ByteArray} (h : spec_l2Vars a0 = some r) : Sat Tryz.prog 77 [((Term.pv false) a0)] (.sl false 1 (r.map Sx)) := by
 obtain ⟨h, cs⟩ := Run.of0 h
 unfold spec_l2Vars at h
 refine Sat.of_m (nt := 6) (rs := [.tmp 2]) (n := 100000) Tryz.func77 rfl rfl rfl rfl (by simp) (S ?_)
 obtain ⟨v5, hv5, h⟩ := run_bind h
 refine CallH.mk [true, false] (Sat.give (args := [(.sl true 1 (([]).map Sx)), ((Term.pv false) a0)]) [true, false] (by have gg := spec_l2Into_sat hv5; simp only [gv_t, gv_f, gv_n, view_sl, view_agg, view_lit, PV.views, RB, RS] at gg ⊢; exact gg)) SC (S ?_)
 cases run_some h
 exact FinH.r SC

set_option maxHeartbeats 4000000 in
theorem spec_l2In_sat {a0 : List ByteArray} {a1 : ByteArray}  {r : Bool} (h : spec_l2In a0 a1 = some r) : Sat Tryz.prog 75 [(.sl false 1 (a0.map Sx)), (Sx a1)] (B r) := by
 obtain ⟨h, cs⟩ := Run.of0 h
 unfold spec_l2In at h
 refine Sat.of_m (nt := 18) (rs := [.tmp 4]) (n := 100000) Tryz.func75 rfl rfl rfl rfl (by simp) (S ?_)
 refine Mg.know_sl (b := false) (sz := 1) (es := a0.map Sx) 0 SC fun hl0 => ?_; rw [List.length_map] at hl0
 replace h := run_loop h
 refine Mg.forN h (fun i2 s2 => [(0, .val (.pv (.sl false 1 (a0.map Sx)))), (1, .val (.pv (Sx a1))), (5, .val (.pv (I (i2 : Int))))]) (fun i2 s2 => []) (St.le_mk2 SC) (fun i2 s2 hi h => ?_) (fun s2 h => ?_)
 ·have w := wrap_succ (i := i2) (by omega)
  refine S ?_
  refine CondH.t2 cs (by omega) (fun cs => S ?_)
  obtain ⟨v14, hv14, h⟩ := run_bind h
  refine IdxH.mk (f := Sx) hv14 SC (S ?_)
  refine CondH.run cs h (fun cs h => S ?_) (fun cs h => S ?_)
  ·cases run_some h
   exact FinH.l SC
  ·have h := run_some h
   refine RdH.mk ⟨_, h, ?_⟩
   exact St.le_mk2 SW
 ·refine S ?_
  refine CondH.f2 cs (by omega) (fun cs => S ?_)
  cases run_some h
  exact FinH.l SC

set_option maxHeartbeats 4000000 in
theorem spec_l8IntoN_sat (n : Nat) : (∀ (a0 : List ByteArray) (a1 : Formula) (a2 : List ByteArray) (r : List ByteArray), spec_l8IntoN n a0 a1 a2 = some r → Sat Tryz.prog 112 [(.sl false 1 (a0.map Sx)), ((Formula.pv false) a1), (.sl false 1 (a2.map Sx))] (.sl false 1 (r.map Sx))) := by
 induction n with
 | zero => exact fun _ _ _ _ h => by simp [spec_l8IntoN] at h
 | succ n ih =>
  refine fun a0 a1 a2 r h => ?_
  obtain ⟨h, cs⟩ := Run.of0 h
  rw [spec_l8IntoN] at h
  refine Sat.of_m (nt := 66) (rs := [.tmp 6]) (n := 100000) Tryz.func112 rfl rfl rfl rfl (by simp) (S ?_)
  refine CondH.run cs h (fun cs h => S ?_) (fun cs h => S ?_)
  ·obtain ⟨v15, hv15, h⟩ := run_bind h
   refine CallH.mk [false] (spec_l2Vars_sat hv15) SC (S ?_)
   refine Mg.know_sl (b := false) (sz := 1) (es := v15.map Sx) 7 SC fun hl7 => ?_; rw [List.length_map] at hl7
   replace h := run_loop h
   refine Mg.forN h (fun i4 s4 => [(0, .val (.pv (.sl false 1 (s4.map Sx)))), (2, .val (.pv (.sl false 1 (a2.map Sx)))), (4, .box (.pv ((Formula.pv false) a1))), (7, .val (.pv (.sl false 1 (v15.map Sx)))), (8, .val (.pv (I (i4 : Int))))]) (fun i4 s4 => []) (St.le_mk2 SC) (fun i4 s4 hi h => ?_) (fun s4 h => ?_)
   ·have w := wrap_succ (i := i4) (by omega)
    refine S ?_
    refine CondH.t2 cs (by omega) (fun cs => S ?_)
    obtain ⟨v25, hv25, h⟩ := run_bind h
    refine IdxH.mk (f := Sx) hv25 SC (S ?_)
    obtain ⟨v27, hv27, h⟩ := run_bind h
    refine CallH.mk [false, false] (spec_l2In_sat hv27) SC (S ?_)
    refine CondH.run cs h (fun cs h => S ?_) (fun cs h => S ?_)
    ·have h := run_some h
     refine RdH.mk ⟨_, h, ?_⟩
     exact St.le_mk2 SW
    ·obtain ⟨v32, hv32, h⟩ := run_bind h
     refine IdxH.mk (f := Sx) hv32 SC (S ?_)
     obtain ⟨v34, hv34, h⟩ := run_bind h
     refine CallH.mk [false, false] (spec_l2Put_sat hv34) SC (S ?_)
     have h := run_some h
     refine RdH.mk ⟨_, h, ?_⟩
     exact St.le_mk2 SW
   ·refine S ?_
    refine CondH.f2 cs (by omega) (fun cs => S ?_)
    refine CondH.run cs h (fun cs h => S ?_) (fun cs h => S ?_)
    ·obtain ⟨v45, hv45, h⟩ := run_bind h
     refine AppH.mk (f := Sx) (fun _ => rfl) hv45 SC SC (S ?_)
     obtain ⟨v49, hv49, h⟩ := run_bind h
     refine AppH.mk (f := Sx) (fun _ => rfl) hv49 SC SC (S ?_)
     refine And.intro (DrawH.ak [] [688, 720, 768, 784]) (S ?_)
     refine Mg.know_box2 (b := false) (sz := 5) (es := a1.Parts.map (Formula.pv false)) (x := (.pv ((Formula.pv false) a1))) 4 [3] SC fun hl4 => ?_; rw [List.length_map] at hl4
     replace h := run_loop h
     refine Mg.forN h (fun i11 s11 => [(0, .val (.pv (.sl false 1 (s11.map Sx)))), (2, .val (.pv (.sl false 1 (v49.map Sx)))), (4, .box (.pv ((Formula.pv false) a1))), (9, .val (.pv (I (i11 : Int))))]) (fun i11 s11 => []) (St.le_trans (St.le_demV (x := (.own 784)) (sz := (1)) (es := v49.map Sx) 2 [] 784 SC) (St.le_mk2 SC)) (fun i11 s11 hi h => ?_) (fun s11 h => ?_)
     ·have w := wrap_succ (i := i11) (by omega)
      refine S ?_
      refine CondH.t2 cs (by omega) (fun cs => S ?_)
      obtain ⟨v61, hv61, h⟩ := run_bind h
      refine IdxH.mk (f := (Formula.pv false)) hv61 SC (S ?_)
      obtain ⟨v64, hv64, h⟩ := run_bind h
      refine CallH.mk [false, false, false] (ih _ _ _ _ hv64) SC (S ?_)
      have h := run_some h
      refine RdH.mk ⟨_, h, ?_⟩
      exact St.le_mk2 SW
     ·refine S ?_
      refine CondH.f2 cs (by omega) (fun cs => S ?_)
      cases run_some h
      exact FinH.r SC
    ·refine CondH.run cs h (fun cs h => S ?_) (fun cs h => S ?_)
     ·obtain ⟨v45, hv45, h⟩ := run_bind h
      refine AppH.mk (f := Sx) (fun _ => rfl) hv45 SC SC (S ?_)
      obtain ⟨v49, hv49, h⟩ := run_bind h
      refine AppH.mk (f := Sx) (fun _ => rfl) hv49 SC SC (S ?_)
      refine And.intro (DrawH.ak [] [688, 720, 768, 784]) (S ?_)
      refine Mg.know_box2 (b := false) (sz := 5) (es := a1.Parts.map (Formula.pv false)) (x := (.pv ((Formula.pv false) a1))) 4 [3] SC fun hl4 => ?_; rw [List.length_map] at hl4
      replace h := run_loop h
      refine Mg.forN h (fun i11 s11 => [(0, .val (.pv (.sl false 1 (s11.map Sx)))), (2, .val (.pv (.sl false 1 (v49.map Sx)))), (4, .box (.pv ((Formula.pv false) a1))), (9, .val (.pv (I (i11 : Int))))]) (fun i11 s11 => []) (St.le_trans (St.le_demV (x := (.own 784)) (sz := (1)) (es := v49.map Sx) 2 [] 784 SC) (St.le_mk2 SC)) (fun i11 s11 hi h => ?_) (fun s11 h => ?_)
      ·have w := wrap_succ (i := i11) (by omega)
       refine S ?_
       refine CondH.t2 cs (by omega) (fun cs => S ?_)
       obtain ⟨v61, hv61, h⟩ := run_bind h
       refine IdxH.mk (f := (Formula.pv false)) hv61 SC (S ?_)
       obtain ⟨v64, hv64, h⟩ := run_bind h
       refine CallH.mk [false, false, false] (ih _ _ _ _ hv64) SC (S ?_)
       have h := run_some h
       refine RdH.mk ⟨_, h, ?_⟩
       exact St.le_mk2 SW
      ·refine S ?_
       refine CondH.f2 cs (by omega) (fun cs => S ?_)
       cases run_some h
       exact FinH.r SC
     ·refine Mg.know_box2 (b := false) (sz := 5) (es := a1.Parts.map (Formula.pv false)) (x := (.pv ((Formula.pv false) a1))) 4 [3] SC fun hl4 => ?_; rw [List.length_map] at hl4
      replace h := run_loop h
      refine Mg.forN h (fun i11 s11 => [(0, .val (.pv (.sl false 1 (s11.map Sx)))), (2, .val (.pv (.sl false 1 (a2.map Sx)))), (4, .box (.pv ((Formula.pv false) a1))), (9, .val (.pv (I (i11 : Int))))]) (fun i11 s11 => []) (St.le_mk2 SC) (fun i11 s11 hi h => ?_) (fun s11 h => ?_)
      ·have w := wrap_succ (i := i11) (by omega)
       refine S ?_
       refine CondH.t2 cs (by omega) (fun cs => S ?_)
       obtain ⟨v61, hv61, h⟩ := run_bind h
       refine IdxH.mk (f := (Formula.pv false)) hv61 SC (S ?_)
       obtain ⟨v64, hv64, h⟩ := run_bind h
       refine CallH.mk [false, false, false] (ih _ _ _ _ hv64) SC (S ?_)
       have h := run_some h
       refine RdH.mk ⟨_, h, ?_⟩
       exact St.le_mk2 SW
      ·refine S ?_
       refine CondH.f2 cs (by omega) (fun cs => S ?_)
       cases run_some h
       exact FinH.r SC
  ·refine CondH.run cs h (fun cs h => S ?_) (fun cs h => S ?_)
   ·obtain ⟨v45, hv45, h⟩ := run_bind h
    refine AppH.mk (f := Sx) (fun _ => rfl) hv45 SC SC (S ?_)
    obtain ⟨v49, hv49, h⟩ := run_bind h
    refine AppH.mk (f := Sx) (fun _ => rfl) hv49 SC SC (S ?_)
    refine And.intro (DrawH.ak [] [688, 720, 768, 784]) (S ?_)
    refine Mg.know_val2 (b := false) (sz := 5) (es := a1.Parts.map (Formula.pv false)) (x := (.pv ((Formula.pv false) a1))) 1 [3] SC fun hl1 => ?_; rw [List.length_map] at hl1
    replace h := run_loop h
    refine Mg.forN h (fun i11 s11 => [(0, .val (.pv (.sl false 1 (s11.map Sx)))), (2, .val (.pv (.sl false 1 (v49.map Sx)))), (4, .box (.pv ((Formula.pv false) a1))), (9, .val (.pv (I (i11 : Int))))]) (fun i11 s11 => []) (St.le_trans (St.le_demV (x := (.own 784)) (sz := (1)) (es := v49.map Sx) 2 [] 784 SC) (St.le_mk2 SC)) (fun i11 s11 hi h => ?_) (fun s11 h => ?_)
    ·have w := wrap_succ (i := i11) (by omega)
     refine S ?_
     refine CondH.t2 cs (by omega) (fun cs => S ?_)
     obtain ⟨v61, hv61, h⟩ := run_bind h
     refine IdxH.mk (f := (Formula.pv false)) hv61 SC (S ?_)
     obtain ⟨v64, hv64, h⟩ := run_bind h
     refine CallH.mk [false, false, false] (ih _ _ _ _ hv64) SC (S ?_)
     have h := run_some h
     refine RdH.mk ⟨_, h, ?_⟩
     exact St.le_mk2 SW
    ·refine S ?_
     refine CondH.f2 cs (by omega) (fun cs => S ?_)
     cases run_some h
     exact FinH.r SC
   ·refine CondH.run cs h (fun cs h => S ?_) (fun cs h => S ?_)
    ·obtain ⟨v45, hv45, h⟩ := run_bind h
     refine AppH.mk (f := Sx) (fun _ => rfl) hv45 SC SC (S ?_)
     obtain ⟨v49, hv49, h⟩ := run_bind h
     refine AppH.mk (f := Sx) (fun _ => rfl) hv49 SC SC (S ?_)
     refine And.intro (DrawH.ak [] [688, 720, 768, 784]) (S ?_)
     refine Mg.know_val2 (b := false) (sz := 5) (es := a1.Parts.map (Formula.pv false)) (x := (.pv ((Formula.pv false) a1))) 1 [3] SC fun hl1 => ?_; rw [List.length_map] at hl1
     replace h := run_loop h
     refine Mg.forN h (fun i11 s11 => [(0, .val (.pv (.sl false 1 (s11.map Sx)))), (2, .val (.pv (.sl false 1 (v49.map Sx)))), (4, .box (.pv ((Formula.pv false) a1))), (9, .val (.pv (I (i11 : Int))))]) (fun i11 s11 => []) (St.le_trans (St.le_demV (x := (.own 784)) (sz := (1)) (es := v49.map Sx) 2 [] 784 SC) (St.le_mk2 SC)) (fun i11 s11 hi h => ?_) (fun s11 h => ?_)
     ·have w := wrap_succ (i := i11) (by omega)
      refine S ?_
      refine CondH.t2 cs (by omega) (fun cs => S ?_)
      obtain ⟨v61, hv61, h⟩ := run_bind h
      refine IdxH.mk (f := (Formula.pv false)) hv61 SC (S ?_)
      obtain ⟨v64, hv64, h⟩ := run_bind h
      refine CallH.mk [false, false, false] (ih _ _ _ _ hv64) SC (S ?_)
      have h := run_some h
      refine RdH.mk ⟨_, h, ?_⟩
      exact St.le_mk2 SW
     ·refine S ?_
      refine CondH.f2 cs (by omega) (fun cs => S ?_)
      cases run_some h
      exact FinH.r SC
    ·refine Mg.know_val2 (b := false) (sz := 5) (es := a1.Parts.map (Formula.pv false)) (x := (.pv ((Formula.pv false) a1))) 1 [3] SC fun hl1 => ?_; rw [List.length_map] at hl1
     replace h := run_loop h
     refine Mg.forN h (fun i11 s11 => [(0, .val (.pv (.sl false 1 (s11.map Sx)))), (2, .val (.pv (.sl false 1 (a2.map Sx)))), (4, .box (.pv ((Formula.pv false) a1))), (9, .val (.pv (I (i11 : Int))))]) (fun i11 s11 => []) (St.le_mk2 SC) (fun i11 s11 hi h => ?_) (fun s11 h => ?_)
     ·have w := wrap_succ (i := i11) (by omega)
      refine S ?_
      refine CondH.t2 cs (by omega) (fun cs => S ?_)
      obtain ⟨v61, hv61, h⟩ := run_bind h
      refine IdxH.mk (f := (Formula.pv false)) hv61 SC (S ?_)
      obtain ⟨v64, hv64, h⟩ := run_bind h
      refine CallH.mk [false, false, false] (ih _ _ _ _ hv64) SC (S ?_)
      have h := run_some h
      refine RdH.mk ⟨_, h, ?_⟩
      exact St.le_mk2 SW
     ·refine S ?_
      refine CondH.f2 cs (by omega) (fun cs => S ?_)
      cases run_some h
      exact FinH.r SC
theorem spec_l8Into_sat {a0 : List ByteArray} {a1 : Formula} {a2 : List ByteArray} {r : List ByteArray} (h : spec_l8Into a0 a1 a2 = some r) : Sat Tryz.prog 112 [(.sl false 1 (a0.map Sx)), ((Formula.pv false) a1), (.sl false 1 (a2.map Sx))] (.sl false 1 (r.map Sx)) := by
 obtain ⟨n, hn⟩ := lim_some h
 exact (spec_l8IntoN_sat n) _ _ _ _ hn

set_option maxHeartbeats 4000000 in
theorem spec_l8Free_sat {a0 : Formula}  {r : List ByteArray} (h : spec_l8Free a0 = some r) : Sat Tryz.prog 76 [((Formula.pv false) a0)] (.sl false 1 (r.map Sx)) := by
 obtain ⟨h, cs⟩ := Run.of0 h
 unfold spec_l8Free at h
 refine Sat.of_m (nt := 7) (rs := [.tmp 2]) (n := 100000) Tryz.func76 rfl rfl rfl rfl (by simp) (S ?_)
 obtain ⟨v6, hv6, h⟩ := run_bind h
 refine CallH.mk [true, false, true] (Sat.give (args := [(.sl true 1 (([]).map Sx)), ((Formula.pv false) a0), (.sl true 1 (([]).map Sx))]) [true, false, true] (by have gg := spec_l8Into_sat hv6; simp only [gv_t, gv_f, gv_n, view_sl, view_agg, view_lit, PV.views, RB, RS] at gg ⊢; exact gg)) SC (S ?_)
 cases run_some h
 exact FinH.r SC

set_option maxHeartbeats 4000000 in
theorem spec_l8OwnN_sat (n : Nat) : (∀ (a0 : Formula) (r : Formula), spec_l8OwnN n a0 = some r → Sat Tryz.prog 41 [((Formula.pv false) a0)] ((Formula.pv true) r)) := by
 induction n with
 | zero => exact fun _ _ h => by simp [spec_l8OwnN] at h
 | succ n ih =>
  refine fun a0 r h => ?_
  obtain ⟨h, cs⟩ := Run.of0 h
  rw [spec_l8OwnN] at h
  refine Sat.of_m (nt := 32) (rs := [.cell 2 36]) (n := 100000) Tryz.func41 rfl rfl rfl rfl (by simp) (S ?_)
  obtain ⟨v9, hv9, h⟩ := run_bind h
  refine CallH.mk [false] (spec_l2Own_sat hv9) SC (S ?_)
  refine And.intro (DrawH.ak [3] [144]) (S ?_)
  refine Mg.know_val2 (b := false) (sz := 5) (es := a0.Parts.map (Formula.pv false)) (x := (.pv ((Formula.pv false) a0))) 0 [3] SC fun hl0 => ?_; rw [List.length_map] at hl0
  replace h := run_loop h
  refine Mg.forN h (fun i3 s3 => [(1, .box (.pv ((Formula.pv false) a0))), (2, .box (.node [(.pv (I (0 : Int))), (.node [(.pv (Sx (⟨#[]⟩ : ByteArray))), (.pv (.sl true 2 []))]), (.pv (Sx (⟨#[]⟩ : ByteArray))), (.pv (.sl true 5 []))])), (3, .box (.node [(.pv (I a0.Op)), (.node [(.pv (Sx v9.Name)), (.own 144)]), (.pv (Sx a0.Var)), (.own 9309)])), (4, .val (.pv (I (i3 : Int))))]) (fun i3 s3 => [(144, (2, v9.Args.map (Term.pv true))), (9309, (5, s3.map (Formula.pv true)))]) (St.le_trans (St.le_nilB (x := (.node [(.pv (I a0.Op)), (.node [(.pv (Sx v9.Name)), (.own 144)]), (.pv (Sx a0.Var)), (.pv (.sl true 5 []))])) 3 [3] 9309 5 NM SC SC SC) (St.le_mk2 SC)) (fun i3 s3 hi h => ?_) (fun s3 h => ?_)
  ·have w := wrap_succ (i := i3) (by omega)
   refine S ?_
   refine CondH.t2 cs (by omega) (fun cs => S ?_)
   obtain ⟨v25, hv25, h⟩ := run_bind h
   refine IdxH.mk (f := (Formula.pv false)) hv25 SC (S ?_)
   obtain ⟨v27, hv27, h⟩ := run_bind h
   refine CallH.mk [false] (ih _ _ hv27) SC (S ?_)
   obtain ⟨v29, hv29, h⟩ := run_bind h
   refine AppH.mk (f := (Formula.pv true)) (fun a => Formula.psize _ a) hv29 SC SC (S ?_)
   refine And.intro (DrawH.ak [] [432, 433, 448, 464]) (S ?_)
   have h := run_some h
   refine RdH.mk ⟨_, h, ?_⟩
   refine St.le_trans (St.le_mk (S := [(1, .box (.pv ((Formula.pv false) a0))), (2, .box (.node [(.pv (I (0 : Int))), (.node [(.pv (Sx (⟨#[]⟩ : ByteArray))), (.pv (.sl true 2 []))]), (.pv (Sx (⟨#[]⟩ : ByteArray))), (.pv (.sl true 5 []))])), (3, .box (.node [(.pv (I a0.Op)), (.node [(.pv (Sx v9.Name)), (.own 144)]), (.pv (Sx a0.Var)), (.own 464)])), (4, .val (.pv (I (IntKind.i64.wrap ((i3 : Int) + (1 : Int))))))]) (O := [(144, (2, v9.Args.map (Term.pv true))), (464, (5, v29.map (Formula.pv true)))]) SW SW) ?_
   refine St.le_rn 464 9309 (by decide) NM ?_
   exact St.le_mk2 SW
  ·refine S ?_
   refine CondH.f2 cs (by omega) (fun cs => S ?_)
   cases run_some h
   exact FinH.l SC
theorem spec_l8Own_sat {a0 : Formula} {r : Formula} (h : spec_l8Own a0 = some r) : Sat Tryz.prog 41 [((Formula.pv false) a0)] ((Formula.pv true) r) := by
 obtain ⟨n, hn⟩ := lim_some h
 exact (spec_l8OwnN_sat n) _ _ hn

set_option maxHeartbeats 4000000 in
theorem spec_l8PutN_sat (n : Nat) : (∀ (a0 : Formula) (a1 : ByteArray) (a2 : Term) (r : Formula × Bool), spec_l8PutN n a0 a1 a2 = some r → Sat Tryz.prog 37 [((Formula.pv false) a0), (Sx a1), ((Term.pv false) a2)] (.tup [((Formula.pv true) r.1), (B r.2)])) := by
 induction n with
 | zero => exact fun _ _ _ _ h => by simp [spec_l8PutN] at h
 | succ n ih =>
  refine fun a0 a1 a2 r h => ?_
  obtain ⟨h, cs⟩ := Run.of0 h
  rw [spec_l8PutN] at h
  refine Sat.of_m (nt := 90) (rs := [.cell 6 36, .tmp 7]) (n := 100000) Tryz.func37 rfl rfl rfl rfl (by simp) (S ?_)
  refine CondH.run cs h (fun cs h => S ?_) (fun cs h => S ?_)
  ·obtain ⟨v23, hv23, h⟩ := run_bind h
   refine CallH.mk [false, false, false] (spec_l4Put_sat hv23) SC (S ?_)
   obtain ⟨v26, hv26, h⟩ := run_bind h
   refine CallH.mk [false, false] (spec_l4Apply_sat hv26) SC (S ?_)
   refine And.intro (DrawH.ak [] [416]) (S ?_)
   obtain ⟨v31, hv31, h⟩ := run_bind h
   refine CallH.mk [false] (spec_l2Atom_sat hv31) SC (S ?_)
   refine And.intro (DrawH.ak [] []) (S ?_)
   cases run_some h
   exact FinH.l SC
  ·refine CondH.run cs h (fun cs h => S ?_) (fun cs h => S ?_)
   ·refine CondH.run cs h (fun cs h => S ?_) (fun cs h => S ?_)
    ·obtain ⟨v55, hv55, h⟩ := run_bind h
     refine CallH.mk [false] (spec_l8Own_sat hv55) SC (S ?_)
     cases run_some h
     exact FinH.l SC
    ·obtain ⟨v47, hv47, h⟩ := run_bind h
     refine IdxH.mk (f := (Formula.pv false)) hv47 SC (S ?_)
     obtain ⟨v49, hv49, h⟩ := run_bind h
     refine CallH.mk [false] (spec_l8Free_sat hv49) SC (S ?_)
     obtain ⟨v51, hv51, h⟩ := run_bind h
     refine CallH.mk [false, false] (spec_l2In_sat hv51) SC (S ?_)
     refine CondH.run cs h (fun cs h => S ?_) (fun cs h => S ?_)
     ·obtain ⟨v57, hv57, h⟩ := run_bind h
      refine CallH.mk [false] (spec_l2Vars_sat hv57) SC (S ?_)
      obtain ⟨v60, hv60, h⟩ := run_bind h
      refine CallH.mk [false, false] (spec_l2In_sat hv60) SC (S ?_)
      refine And.intro (DrawH.ak [] []) (S ?_)
      refine CondH.run cs h (fun cs h => S ?_) (fun cs h => S ?_)
      ·cases run_some h
       exact FinH.l SC
      ·refine Mg.know_sl (b := false) (sz := 5) (es := a0.Parts.map (Formula.pv false)) 46 SC fun hl46 => ?_; rw [List.length_map] at hl46
       replace h := run_loop h
       refine Mg.forN h (fun i11 s11 => [(1, .val (.pv (Sx a1))), (3, .box (.pv ((Formula.pv false) a0))), (5, .box (.pv ((Term.pv false) a2))), (6, .box (.node [(.pv (I (0 : Int))), (.node [(.pv (Sx (⟨#[]⟩ : ByteArray))), (.pv (.sl true 2 []))]), (.pv (Sx (⟨#[]⟩ : ByteArray))), (.pv (.sl true 5 []))])), (8, .box (.node [(.pv (I a0.Op)), (.node [(.pv (Sx (⟨#[]⟩ : ByteArray))), (.pv (.sl true 2 []))]), (.pv (Sx a0.Var)), (.own 9333)])), (9, .val (.pv (I (i11 : Int))))]) (fun i11 s11 => [(9333, (5, s11.map (Formula.pv true)))]) (St.le_trans (St.le_nilB (x := (.node [(.pv (I a0.Op)), (.node [(.pv (Sx (⟨#[]⟩ : ByteArray))), (.pv (.sl true 2 []))]), (.pv (Sx a0.Var)), (.pv (.sl true 5 []))])) 8 [3] 9333 5 NM SC SC SC) (St.le_mk2 SC)) (fun i11 s11 hi h => ?_) (fun s11 h => ?_)
       ·have w := wrap_succ (i := i11) (by omega)
        refine S ?_
        refine CondH.t2 cs (by omega) (fun cs => S ?_)
        obtain ⟨v73, hv73, h⟩ := run_bind h
        refine IdxH.mk (f := (Formula.pv false)) hv73 SC (S ?_)
        obtain ⟨v77, hv77, h⟩ := run_bind h
        refine CallH.mk [false, false, false] (ih _ _ _ _ hv77) SC (S ?_)
        refine And.intro (DrawH.ak [10] [1232, 1233]) (S ?_)
        refine CondH.run cs h (fun cs h => S ?_) (fun cs h => S ?_)
        ·obtain ⟨v87, hv87, h⟩ := run_bind h
         refine AppH.mk (f := (Formula.pv true)) (fun a => Formula.psize _ a) hv87 SC SC (S ?_)
         have h := run_some h
         refine RdH.mk ⟨_, h, ?_⟩
         refine St.le_trans (St.le_mk (S := [(1, .val (.pv (Sx a1))), (3, .box (.pv ((Formula.pv false) a0))), (5, .box (.pv ((Term.pv false) a2))), (6, .box (.node [(.pv (I (0 : Int))), (.node [(.pv (Sx (⟨#[]⟩ : ByteArray))), (.pv (.sl true 2 []))]), (.pv (Sx (⟨#[]⟩ : ByteArray))), (.pv (.sl true 5 []))])), (8, .box (.node [(.pv (I a0.Op)), (.node [(.pv (Sx (⟨#[]⟩ : ByteArray))), (.pv (.sl true 2 []))]), (.pv (Sx a0.Var)), (.own 1392)])), (9, .val (.pv (I (IntKind.i64.wrap ((i11 : Int) + (1 : Int))))))]) (O := [(1392, (5, v87.map (Formula.pv true)))]) SW SW) ?_
         refine St.le_rn 1392 9333 (by decide) NM ?_
         exact St.le_mk2 SW
        ·cases run_some h
         exact FinH.l SC
       ·refine S ?_
        refine CondH.f2 cs (by omega) (fun cs => S ?_)
        cases run_some h
        exact FinH.l SC
     ·obtain ⟨v55, hv55, h⟩ := run_bind h
      refine CallH.mk [false] (spec_l8Own_sat hv55) SC (S ?_)
      cases run_some h
      exact FinH.l SC
   ·refine CondH.run cs h (fun cs h => S ?_) (fun cs h => S ?_)
    ·refine CondH.run cs h (fun cs h => S ?_) (fun cs h => S ?_)
     ·obtain ⟨v55, hv55, h⟩ := run_bind h
      refine CallH.mk [false] (spec_l8Own_sat hv55) SC (S ?_)
      cases run_some h
      exact FinH.l SC
     ·obtain ⟨v47, hv47, h⟩ := run_bind h
      refine IdxH.mk (f := (Formula.pv false)) hv47 SC (S ?_)
      obtain ⟨v49, hv49, h⟩ := run_bind h
      refine CallH.mk [false] (spec_l8Free_sat hv49) SC (S ?_)
      obtain ⟨v51, hv51, h⟩ := run_bind h
      refine CallH.mk [false, false] (spec_l2In_sat hv51) SC (S ?_)
      refine CondH.run cs h (fun cs h => S ?_) (fun cs h => S ?_)
      ·obtain ⟨v57, hv57, h⟩ := run_bind h
       refine CallH.mk [false] (spec_l2Vars_sat hv57) SC (S ?_)
       obtain ⟨v60, hv60, h⟩ := run_bind h
       refine CallH.mk [false, false] (spec_l2In_sat hv60) SC (S ?_)
       refine And.intro (DrawH.ak [] []) (S ?_)
       refine CondH.run cs h (fun cs h => S ?_) (fun cs h => S ?_)
       ·cases run_some h
        exact FinH.l SC
       ·refine Mg.know_sl (b := false) (sz := 5) (es := a0.Parts.map (Formula.pv false)) 46 SC fun hl46 => ?_; rw [List.length_map] at hl46
        replace h := run_loop h
        refine Mg.forN h (fun i11 s11 => [(1, .val (.pv (Sx a1))), (3, .box (.pv ((Formula.pv false) a0))), (5, .box (.pv ((Term.pv false) a2))), (6, .box (.node [(.pv (I (0 : Int))), (.node [(.pv (Sx (⟨#[]⟩ : ByteArray))), (.pv (.sl true 2 []))]), (.pv (Sx (⟨#[]⟩ : ByteArray))), (.pv (.sl true 5 []))])), (8, .box (.node [(.pv (I a0.Op)), (.node [(.pv (Sx (⟨#[]⟩ : ByteArray))), (.pv (.sl true 2 []))]), (.pv (Sx a0.Var)), (.own 9333)])), (9, .val (.pv (I (i11 : Int))))]) (fun i11 s11 => [(9333, (5, s11.map (Formula.pv true)))]) (St.le_trans (St.le_nilB (x := (.node [(.pv (I a0.Op)), (.node [(.pv (Sx (⟨#[]⟩ : ByteArray))), (.pv (.sl true 2 []))]), (.pv (Sx a0.Var)), (.pv (.sl true 5 []))])) 8 [3] 9333 5 NM SC SC SC) (St.le_mk2 SC)) (fun i11 s11 hi h => ?_) (fun s11 h => ?_)
        ·have w := wrap_succ (i := i11) (by omega)
         refine S ?_
         refine CondH.t2 cs (by omega) (fun cs => S ?_)
         obtain ⟨v73, hv73, h⟩ := run_bind h
         refine IdxH.mk (f := (Formula.pv false)) hv73 SC (S ?_)
         obtain ⟨v77, hv77, h⟩ := run_bind h
         refine CallH.mk [false, false, false] (ih _ _ _ _ hv77) SC (S ?_)
         refine And.intro (DrawH.ak [10] [1232, 1233]) (S ?_)
         refine CondH.run cs h (fun cs h => S ?_) (fun cs h => S ?_)
         ·obtain ⟨v87, hv87, h⟩ := run_bind h
          refine AppH.mk (f := (Formula.pv true)) (fun a => Formula.psize _ a) hv87 SC SC (S ?_)
          have h := run_some h
          refine RdH.mk ⟨_, h, ?_⟩
          refine St.le_trans (St.le_mk (S := [(1, .val (.pv (Sx a1))), (3, .box (.pv ((Formula.pv false) a0))), (5, .box (.pv ((Term.pv false) a2))), (6, .box (.node [(.pv (I (0 : Int))), (.node [(.pv (Sx (⟨#[]⟩ : ByteArray))), (.pv (.sl true 2 []))]), (.pv (Sx (⟨#[]⟩ : ByteArray))), (.pv (.sl true 5 []))])), (8, .box (.node [(.pv (I a0.Op)), (.node [(.pv (Sx (⟨#[]⟩ : ByteArray))), (.pv (.sl true 2 []))]), (.pv (Sx a0.Var)), (.own 1392)])), (9, .val (.pv (I (IntKind.i64.wrap ((i11 : Int) + (1 : Int))))))]) (O := [(1392, (5, v87.map (Formula.pv true)))]) SW SW) ?_
          refine St.le_rn 1392 9333 (by decide) NM ?_
          exact St.le_mk2 SW
         ·cases run_some h
          exact FinH.l SC
        ·refine S ?_
         refine CondH.f2 cs (by omega) (fun cs => S ?_)
         cases run_some h
         exact FinH.l SC
      ·obtain ⟨v55, hv55, h⟩ := run_bind h
       refine CallH.mk [false] (spec_l8Own_sat hv55) SC (S ?_)
       cases run_some h
       exact FinH.l SC
    ·refine Mg.know_val2 (b := false) (sz := 5) (es := a0.Parts.map (Formula.pv false)) (x := (.pv ((Formula.pv false) a0))) 0 [3] SC fun hl0 => ?_; rw [List.length_map] at hl0
     replace h := run_loop h
     refine Mg.forN h (fun i11 s11 => [(1, .val (.pv (Sx a1))), (3, .box (.pv ((Formula.pv false) a0))), (5, .box (.pv ((Term.pv false) a2))), (6, .box (.node [(.pv (I (0 : Int))), (.node [(.pv (Sx (⟨#[]⟩ : ByteArray))), (.pv (.sl true 2 []))]), (.pv (Sx (⟨#[]⟩ : ByteArray))), (.pv (.sl true 5 []))])), (8, .box (.node [(.pv (I a0.Op)), (.node [(.pv (Sx (⟨#[]⟩ : ByteArray))), (.pv (.sl true 2 []))]), (.pv (Sx a0.Var)), (.own 9333)])), (9, .val (.pv (I (i11 : Int))))]) (fun i11 s11 => [(9333, (5, s11.map (Formula.pv true)))]) (St.le_trans (St.le_nilB (x := (.node [(.pv (I a0.Op)), (.node [(.pv (Sx (⟨#[]⟩ : ByteArray))), (.pv (.sl true 2 []))]), (.pv (Sx a0.Var)), (.pv (.sl true 5 []))])) 8 [3] 9333 5 NM SC SC SC) (St.le_mk2 SC)) (fun i11 s11 hi h => ?_) (fun s11 h => ?_)
     ·have w := wrap_succ (i := i11) (by omega)
      refine S ?_
      refine CondH.t2 cs (by omega) (fun cs => S ?_)
      obtain ⟨v73, hv73, h⟩ := run_bind h
      refine IdxH.mk (f := (Formula.pv false)) hv73 SC (S ?_)
      obtain ⟨v77, hv77, h⟩ := run_bind h
      refine CallH.mk [false, false, false] (ih _ _ _ _ hv77) SC (S ?_)
      refine And.intro (DrawH.ak [10] [1232, 1233]) (S ?_)
      refine CondH.run cs h (fun cs h => S ?_) (fun cs h => S ?_)
      ·obtain ⟨v87, hv87, h⟩ := run_bind h
       refine AppH.mk (f := (Formula.pv true)) (fun a => Formula.psize _ a) hv87 SC SC (S ?_)
       have h := run_some h
       refine RdH.mk ⟨_, h, ?_⟩
       refine St.le_trans (St.le_mk (S := [(1, .val (.pv (Sx a1))), (3, .box (.pv ((Formula.pv false) a0))), (5, .box (.pv ((Term.pv false) a2))), (6, .box (.node [(.pv (I (0 : Int))), (.node [(.pv (Sx (⟨#[]⟩ : ByteArray))), (.pv (.sl true 2 []))]), (.pv (Sx (⟨#[]⟩ : ByteArray))), (.pv (.sl true 5 []))])), (8, .box (.node [(.pv (I a0.Op)), (.node [(.pv (Sx (⟨#[]⟩ : ByteArray))), (.pv (.sl true 2 []))]), (.pv (Sx a0.Var)), (.own 1392)])), (9, .val (.pv (I (IntKind.i64.wrap ((i11 : Int) + (1 : Int))))))]) (O := [(1392, (5, v87.map (Formula.pv true)))]) SW SW) ?_
       refine St.le_rn 1392 9333 (by decide) NM ?_
       exact St.le_mk2 SW
      ·cases run_some h
       exact FinH.l SC
     ·refine S ?_
      refine CondH.f2 cs (by omega) (fun cs => S ?_)
      cases run_some h
      exact FinH.l SC
theorem spec_l8Put_sat {a0 : Formula} {a1 : ByteArray} {a2 : Term} {r : Formula × Bool} (h : spec_l8Put a0 a1 a2 = some r) : Sat Tryz.prog 37 [((Formula.pv false) a0), (Sx a1), ((Term.pv false) a2)] (.tup [((Formula.pv true) r.1), (B r.2)]) := by
 obtain ⟨n, hn⟩ := lim_some h
 exact (spec_l8PutN_sat n) _ _ _ _ hn

set_option maxHeartbeats 4000000 in
theorem spec_l23After_sat {a0 : ByteArray}  {r : Term} (h : spec_l23After a0 = some r) : Sat Tryz.prog 39 [(Sx a0)] ((Term.pv true) r) := by
 obtain ⟨h, cs⟩ := Run.of0 h
 unfold spec_l23After at h
 refine Sat.of_m (nt := 7) (rs := [.cell 2 33]) (n := 100000) Tryz.func39 rfl rfl rfl rfl (by simp) (S ?_)
 cases run_some h
 exact FinH.l SC

set_option maxHeartbeats 4000000 in
theorem spec_l19Two_sat {a0 : Int} {a1 : Formula} {a2 : Formula}  {r : Formula} (h : spec_l19Two a0 a1 a2 = some r) : Sat Tryz.prog 40 [(I a0), ((Formula.pv false) a1), ((Formula.pv false) a2)] ((Formula.pv false) r) := by
 obtain ⟨h, cs⟩ := Run.of0 h
 unfold spec_l19Two at h
 refine Sat.of_m (nt := 12) (rs := [.cell 6 36]) (n := 100000) Tryz.func40 rfl rfl rfl rfl (by simp) (S ?_)
 cases run_some h
 exact FinH.r SC

set_option maxHeartbeats 4000000 in
theorem spec_l19Two_o1_o2_sat {a0 : Int} {a1 : Formula} {a2 : Formula}  {r : Formula} (h : spec_l19Two a0 a1 a2 = some r) : Sat Tryz.prog 40 [(I a0), ((Formula.pv true) a1), ((Formula.pv true) a2)] ((Formula.pv true) r) := by
 obtain ⟨h, cs⟩ := Run.of0 h
 unfold spec_l19Two at h
 refine Sat.of_m (nt := 12) (rs := [.cell 6 36]) (n := 100000) Tryz.func40 rfl rfl rfl rfl (by simp) (S ?_)
 cases run_some h
 exact FinH.l SC

set_option maxHeartbeats 4000000 in
theorem spec_InductionAxiom_sat {a0 : Formula} {a1 : ByteArray}  {r : Formula × Bool} (h : spec_InductionAxiom a0 a1 = some r) : Sat Tryz.prog 12 [((Formula.pv false) a0), (Sx a1)] (.tup [((Formula.pv true) r.1), (B r.2)]) := by
 obtain ⟨h, cs⟩ := Run.of0 h
 unfold spec_InductionAxiom at h
 refine Sat.of_m (nt := 66) (rs := [.cell 4 36, .tmp 5]) (n := 100000) Tryz.func12 rfl rfl rfl rfl (by simp) (S ?_)
 obtain ⟨v14, hv14, h⟩ := run_bind h
 refine CallH.mk [false] (spec_l8Good_sat hv14) SC (S ?_)
 refine CondH.run cs h (fun cs h => S ?_) (fun cs h => S ?_)
 ·obtain ⟨v18, hv18, h⟩ := run_bind h
  refine CallH.mk [false] (spec_l2Var_sat hv18) SC (S ?_)
  refine CondH.run cs h (fun cs h => S ?_) (fun cs h => S ?_)
  ·obtain ⟨v25, hv25, h⟩ := run_bind h
   refine CallH.mk [false] (spec_l23Numeral_sat hv25) SC (S ?_)
   obtain ⟨v26, hv26, h⟩ := run_bind h
   refine CallH.mk [false, false, false] (spec_l8Put_sat hv26) SC (S ?_)
   refine And.intro (DrawH.ak [6] [400, 416, 417]) (S ?_)
   obtain ⟨v33, hv33, h⟩ := run_bind h
   refine CallH.mk [false] (spec_l23After_sat hv33) SC (S ?_)
   obtain ⟨v34, hv34, h⟩ := run_bind h
   refine CallH.mk [false, false, false] (spec_l8Put_sat hv34) SC (S ?_)
   refine And.intro (DrawH.ak [8] [528, 544, 545]) (S ?_)
   refine CondH.run cs h (fun cs h => S ?_) (fun cs h => S ?_)
   ·refine CondH.run cs h (fun cs h => S ?_) (fun cs h => S ?_)
    ·obtain ⟨v46, hv46, h⟩ := run_bind h
     refine CallH.mk [false] (spec_l8Own_sat hv46) SC (S ?_)
     obtain ⟨v48, hv48, h⟩ := run_bind h
     refine CallH.mk [false, true, true] (spec_l19Two_o1_o2_sat hv48) SC (S ?_)
     refine And.intro (DrawH.ak [10] [736, 737, 768, 769, 784]) (S ?_)
     obtain ⟨v53, hv53, h⟩ := run_bind h
     refine CallH.mk [false] (spec_l8Own_sat hv53) SC (S ?_)
     obtain ⟨v58, hv58, h⟩ := run_bind h
     refine CallH.mk [false, true, true] (spec_l19Two_o1_o2_sat hv58) SC (S ?_)
     obtain ⟨v60, hv60, h⟩ := run_bind h
     refine CallH.mk [false, true, true] (spec_l19Two_o1_o2_sat hv60) SC (S ?_)
     refine And.intro (DrawH.ak [12] [928, 929, 960, 961]) (S ?_)
     obtain ⟨v62, hv62, h⟩ := run_bind h
     refine CallH.mk [false] (spec_l8Good_sat hv62) SC (S ?_)
     refine CondH.run cs h (fun cs h => S ?_) (fun cs h => S ?_)
     ·cases run_some h
      exact FinH.l SC
     ·cases run_some h
      exact FinH.l SC
    ·cases run_some h
     exact FinH.l SC
   ·cases run_some h
    exact FinH.l SC
  ·cases run_some h
   exact FinH.l SC
 ·cases run_some h
  exact FinH.l SC

set_option maxHeartbeats 4000000 in
theorem spec_l2SameN_sat (n : Nat) : (∀ (a0 : Term) (a1 : Term) (r : Bool), spec_l2SameN n a0 a1 = some r → Sat Tryz.prog 65 [((Term.pv false) a0), ((Term.pv false) a1)] (B r)) := by
 induction n with
 | zero => exact fun _ _ _ h => by simp [spec_l2SameN] at h
 | succ n ih =>
  refine fun a0 a1 r h => ?_
  obtain ⟨h, cs⟩ := Run.of0 h
  rw [spec_l2SameN] at h
  refine Sat.of_m (nt := 39) (rs := [.tmp 4]) (n := 100000) Tryz.func65 rfl rfl rfl rfl (by simp) (S ?_)
  refine CondH.run cs h (fun cs h => S ?_) (fun cs h => S ?_)
  ·refine CondH.run cs h (fun cs h => S ?_) (fun cs h => S ?_)
   ·refine Mg.know_sl (b := false) (sz := 2) (es := a0.Args.map (Term.pv false)) 13 SC fun hl13 => ?_; rw [List.length_map] at hl13
    replace h := run_loop h
    refine Mg.forN h (fun i4 s4 => [(2, .box (.pv ((Term.pv false) a0))), (3, .box (.pv ((Term.pv false) a1))), (5, .val (.pv (I (i4 : Int))))]) (fun i4 s4 => []) (St.le_mk2 SC) (fun i4 s4 hi h => ?_) (fun s4 h => ?_)
    ·have w := wrap_succ (i := i4) (by omega)
     refine S ?_
     refine CondH.t2 cs (by omega) (fun cs => S ?_)
     obtain ⟨v30, hv30, h⟩ := run_bind h
     refine IdxH.mk (f := (Term.pv false)) hv30 SC (S ?_)
     obtain ⟨v35, hv35, h⟩ := run_bind h
     refine IdxH.mk (f := (Term.pv false)) hv35 SC (S ?_)
     obtain ⟨v37, hv37, h⟩ := run_bind h
     refine CallH.mk [false, false] (ih _ _ _ hv37) SC (S ?_)
     refine And.intro (DrawH.ak [] []) (S ?_)
     refine CondH.run cs h (fun cs h => S ?_) (fun cs h => S ?_)
     ·have h := run_some h
      refine RdH.mk ⟨_, h, ?_⟩
      exact St.le_mk2 SW
     ·cases run_some h
      exact FinH.l SC
    ·refine S ?_
     refine CondH.f2 cs (by omega) (fun cs => S ?_)
     cases run_some h
     exact FinH.l SC
   ·cases run_some h
    exact FinH.l SC
  ·cases run_some h
   exact FinH.l SC
theorem spec_l2Same_sat {a0 : Term} {a1 : Term} {r : Bool} (h : spec_l2Same a0 a1 = some r) : Sat Tryz.prog 65 [((Term.pv false) a0), ((Term.pv false) a1)] (B r) := by
 obtain ⟨n, hn⟩ := lim_some h
 exact (spec_l2SameN_sat n) _ _ _ hn

set_option maxHeartbeats 4000000 in
theorem spec_l8SameN_sat (n : Nat) : (∀ (a0 : Formula) (a1 : Formula) (r : Bool), spec_l8SameN n a0 a1 = some r → Sat Tryz.prog 30 [((Formula.pv false) a0), ((Formula.pv false) a1)] (B r)) := by
 induction n with
 | zero => exact fun _ _ _ h => by simp [spec_l8SameN] at h
 | succ n ih =>
  refine fun a0 a1 r h => ?_
  obtain ⟨h, cs⟩ := Run.of0 h
  rw [spec_l8SameN] at h
  refine Sat.of_m (nt := 54) (rs := [.tmp 4]) (n := 100000) Tryz.func30 rfl rfl rfl rfl (by simp) (S ?_)
  refine CondH.run cs h (fun cs h => S ?_) (fun cs h => S ?_)
  ·refine CondH.run cs h (fun cs h => S ?_) (fun cs h => S ?_)
   ·obtain ⟨v23, hv23, h⟩ := run_bind h
    refine CallH.mk [false, false] (spec_l2Same_sat hv23) SC (S ?_)
    refine CondH.run cs h (fun cs h => S ?_) (fun cs h => S ?_)
    ·refine CondH.run cs h (fun cs h => S ?_) (fun cs h => S ?_)
     ·refine Mg.know_sl (b := false) (sz := 5) (es := a0.Parts.map (Formula.pv false)) 28 SC fun hl28 => ?_; rw [List.length_map] at hl28
      replace h := run_loop h
      refine Mg.forN h (fun i4 s4 => [(2, .box (.pv ((Formula.pv false) a0))), (3, .box (.pv ((Formula.pv false) a1))), (5, .val (.pv (I (i4 : Int))))]) (fun i4 s4 => []) (St.le_mk2 SC) (fun i4 s4 hi h => ?_) (fun s4 h => ?_)
      ·have w := wrap_succ (i := i4) (by omega)
       refine S ?_
       refine CondH.t2 cs (by omega) (fun cs => S ?_)
       obtain ⟨v45, hv45, h⟩ := run_bind h
       refine IdxH.mk (f := (Formula.pv false)) hv45 SC (S ?_)
       obtain ⟨v50, hv50, h⟩ := run_bind h
       refine IdxH.mk (f := (Formula.pv false)) hv50 SC (S ?_)
       obtain ⟨v52, hv52, h⟩ := run_bind h
       refine CallH.mk [false, false] (ih _ _ _ hv52) SC (S ?_)
       refine And.intro (DrawH.ak [] []) (S ?_)
       refine CondH.run cs h (fun cs h => S ?_) (fun cs h => S ?_)
       ·have h := run_some h
        refine RdH.mk ⟨_, h, ?_⟩
        exact St.le_mk2 SW
       ·cases run_some h
        exact FinH.l SC
      ·refine S ?_
       refine CondH.f2 cs (by omega) (fun cs => S ?_)
       cases run_some h
       exact FinH.l SC
     ·cases run_some h
      exact FinH.l SC
    ·cases run_some h
     exact FinH.l SC
   ·cases run_some h
    exact FinH.l SC
  ·cases run_some h
   exact FinH.l SC
theorem spec_l8Same_sat {a0 : Formula} {a1 : Formula} {r : Bool} (h : spec_l8Same a0 a1 = some r) : Sat Tryz.prog 30 [((Formula.pv false) a0), ((Formula.pv false) a1)] (B r) := by
 obtain ⟨n, hn⟩ := lim_some h
 exact (spec_l8SameN_sat n) _ _ _ hn

set_option maxHeartbeats 4000000 in
theorem spec_IsInductionAxiom_sat {a0 : Formula}  {r : Bool × Bool} (h : spec_IsInductionAxiom a0 = some r) : Sat Tryz.prog 8 [((Formula.pv false) a0)] (.tup [(B r.1), (B r.2)]) := by
 obtain ⟨h, cs⟩ := Run.of0 h
 unfold spec_IsInductionAxiom at h
 refine Sat.of_m (nt := 42) (rs := [.tmp 2, .tmp 3]) (n := 100000) Tryz.func8 rfl rfl rfl rfl (by simp) (S ?_)
 obtain ⟨v7, hv7, h⟩ := run_bind h
 refine CallH.mk [false] (spec_l8Good_sat hv7) SC (S ?_)
 refine CondH.run cs h (fun cs h => S ?_) (fun cs h => S ?_)
 ·refine CondH.run cs h (fun cs h => S ?_) (fun cs h => S ?_)
  ·obtain ⟨v15, hv15, h⟩ := run_bind h
   refine IdxH.mk (f := (Formula.pv false)) hv15 SC (S ?_)
   refine CondH.run cs h (fun cs h => S ?_) (fun cs h => S ?_)
   ·obtain ⟨v23, hv23, h⟩ := run_bind h
    refine IdxH.mk (f := (Formula.pv false)) hv23 SC (S ?_)
    obtain ⟨v26, hv26, h⟩ := run_bind h
    refine IdxH.mk (f := (Formula.pv false)) hv26 SC (S ?_)
    obtain ⟨v30, hv30, h⟩ := run_bind h
    refine IdxH.mk (f := (Formula.pv false)) hv30 SC (S ?_)
    obtain ⟨v33, hv33, h⟩ := run_bind h
    refine CallH.mk [false, false] (spec_InductionAxiom_sat hv33) SC (S ?_)
    refine And.intro (DrawH.ak [4] [528, 529]) (S ?_)
    refine CondH.run cs h (fun cs h => S ?_) (fun cs h => S ?_)
    ·obtain ⟨v40, hv40, h⟩ := run_bind h
     refine CallH.mk [false, false] (spec_l8Same_sat hv40) SC (S ?_)
     cases run_some h
     exact FinH.l SC
    ·cases run_some h
     exact FinH.l SC
   ·cases run_some h
    exact FinH.l SC
  ·cases run_some h
   exact FinH.l SC
 ·cases run_some h
  exact FinH.l SC

set_option maxHeartbeats 4000000 in
theorem impl_sizeOfN_sat (n : Nat) : (∀ (a0 : Formula) (r : Int), impl_sizeOfN n a0 = some r → Sat Tryz.prog 66 [((Formula.pv false) a0)] (I r)) := by
 induction n with
 | zero => exact fun _ _ h => by simp [impl_sizeOfN] at h
 | succ n ih =>
  refine fun a0 r h => ?_
  obtain ⟨h, cs⟩ := Run.of0 h
  rw [impl_sizeOfN] at h
  refine Sat.of_m (nt := 22) (rs := [.tmp 2]) (n := 100000) Tryz.func66 rfl rfl rfl rfl (by simp) (S ?_)
  refine Mg.know_sl (b := false) (sz := 5) (es := a0.Parts.map (Formula.pv false)) 7 SC fun hl7 => ?_; rw [List.length_map] at hl7
  replace h := run_loop h
  refine Mg.forN h (fun i3 s3 => [(3, .val (.pv (I s3))), (7, .val (.pv (.sl false 5 (a0.Parts.map (Formula.pv false))))), (8, .val (.pv (I (a0.Parts.length : Int)))), (9, .val (.pv (I (i3 : Int))))]) (fun i3 s3 => []) (St.le_mk2 SC) (fun i3 s3 hi h => ?_) (fun s3 h => ?_)
  ·have w := wrap_succ (i := i3) (by omega)
   refine S ?_
   refine CondH.t2 cs (by omega) (fun cs => S ?_)
   obtain ⟨v11, hv11, h⟩ := run_bind h
   refine IdxH.mk (f := (Formula.pv false)) hv11 SC (S ?_)
   refine CondH.run cs h (fun cs h => S ?_) (fun cs h => S ?_)
   ·cases run_some h
    exact FinH.l SC
   ·obtain ⟨v18, hv18, h⟩ := run_bind h
    refine CallH.mk [false] (ih _ _ hv18) SC (S ?_)
    have h := run_some h
    refine RdH.mk ⟨_, h, ?_⟩
    exact St.le_mk2 SW
  ·refine S ?_
   refine CondH.f2 cs (by omega) (fun cs => S ?_)
   cases run_some h
   exact FinH.l SC
theorem impl_sizeOf_sat {a0 : Formula} {r : Int} (h : impl_sizeOf a0 = some r) : Sat Tryz.prog 66 [((Formula.pv false) a0)] (I r) := by
 obtain ⟨n, hn⟩ := lim_some h
 exact (impl_sizeOfN_sat n) _ _ hn

set_option maxHeartbeats 4000000 in
theorem impl_isQuantifier_sat {a0 : Int}  {r : Bool} (h : impl_isQuantifier a0 = some r) : Sat Tryz.prog 101 [(I a0)] (B r) := by
 obtain ⟨h, cs⟩ := Run.of0 h
 unfold impl_isQuantifier at h
 refine Sat.of_m (nt := 9) (rs := [.tmp 2]) (n := 100000) Tryz.func101 rfl rfl rfl rfl (by simp) (S ?_)
 refine CondH.run cs h (fun cs h => S ?_) (fun cs h => S ?_)
 ·cases run_some h
  exact FinH.l SC
 ·cases run_some h
  exact FinH.l SC

set_option maxHeartbeats 4000000 in
theorem impl_isBinary_sat {a0 : Int}  {r : Bool} (h : impl_isBinary a0 = some r) : Sat Tryz.prog 102 [(I a0)] (B r) := by
 obtain ⟨h, cs⟩ := Run.of0 h
 unfold impl_isBinary at h
 refine Sat.of_m (nt := 13) (rs := [.tmp 2]) (n := 100000) Tryz.func102 rfl rfl rfl rfl (by simp) (S ?_)
 refine CondH.run cs h (fun cs h => S ?_) (fun cs h => S ?_)
 ·cases run_some h
  exact FinH.l SC
 ·refine CondH.run cs h (fun cs h => S ?_) (fun cs h => S ?_)
  ·cases run_some h
   exact FinH.l SC
  ·cases run_some h
   exact FinH.l SC

set_option maxHeartbeats 4000000 in
theorem impl_isUpper_sat {a0 : Int}  {r : Bool} (h : impl_isUpper a0 = some r) : Sat Tryz.prog 114 [((Ik .u8) a0)] (B r) := by
 obtain ⟨h, cs⟩ := Run.of0 h
 unfold impl_isUpper at h
 refine Sat.of_m (nt := 9) (rs := [.tmp 2]) (n := 100000) Tryz.func114 rfl rfl rfl rfl (by simp) (S ?_)
 refine CondH.run cs h (fun cs h => S ?_) (fun cs h => S ?_)
 ·cases run_some h
  exact FinH.l SC
 ·cases run_some h
  exact FinH.l SC

set_option maxHeartbeats 4000000 in
theorem impl_isLower_sat {a0 : Int}  {r : Bool} (h : impl_isLower a0 = some r) : Sat Tryz.prog 115 [((Ik .u8) a0)] (B r) := by
 obtain ⟨h, cs⟩ := Run.of0 h
 unfold impl_isLower at h
 refine Sat.of_m (nt := 9) (rs := [.tmp 2]) (n := 100000) Tryz.func115 rfl rfl rfl rfl (by simp) (S ?_)
 refine CondH.run cs h (fun cs h => S ?_) (fun cs h => S ?_)
 ·cases run_some h
  exact FinH.l SC
 ·cases run_some h
  exact FinH.l SC

set_option maxHeartbeats 4000000 in
theorem impl_isDigit_sat {a0 : Int}  {r : Bool} (h : impl_isDigit a0 = some r) : Sat Tryz.prog 116 [((Ik .u8) a0)] (B r) := by
 obtain ⟨h, cs⟩ := Run.of0 h
 unfold impl_isDigit at h
 refine Sat.of_m (nt := 9) (rs := [.tmp 2]) (n := 100000) Tryz.func116 rfl rfl rfl rfl (by simp) (S ?_)
 refine CondH.run cs h (fun cs h => S ?_) (fun cs h => S ?_)
 ·cases run_some h
  exact FinH.l SC
 ·cases run_some h
  exact FinH.l SC

set_option maxHeartbeats 4000000 in
theorem impl_within_sat {a0 : Int} {a1 : Int} {a2 : Int}  {r : Bool} (h : impl_within a0 a1 a2 = some r) : Sat Tryz.prog 117 [(I a0), (I a1), (I a2)] (B r) := by
 obtain ⟨h, cs⟩ := Run.of0 h
 unfold impl_within at h
 refine Sat.of_m (nt := 15) (rs := [.tmp 6]) (n := 100000) Tryz.func117 rfl rfl rfl rfl (by simp) (S ?_)
 refine CondH.run cs h (fun cs h => S ?_) (fun cs h => S ?_)
 ·cases run_some h
  exact FinH.l SC
 ·cases run_some h
  exact FinH.l SC

set_option maxHeartbeats 4000000 in
theorem impl_isVariable_sat {a0 : ByteArray}  {r : Bool} (h : impl_isVariable a0 = some r) : Sat Tryz.prog 79 [(Sx a0)] (B r) := by
 obtain ⟨h, cs⟩ := Run.of0 h
 unfold impl_isVariable at h
 refine Sat.of_m (nt := 40) (rs := [.tmp 2]) (n := 100000) Tryz.func79 rfl rfl rfl rfl (by simp) (S ?_)
 obtain ⟨N2, hN2, h⟩ := run_bind h
 obtain ⟨hN2a, hN2b⟩ := bnd_some hN2
 replace h := run_loop h
 refine Mg.forN h (fun i2 s2 => [(0, .val (.pv (Sx a0))), (5, .val (.pv (I (a0.size : Int)))), (6, .val (.pv (I (i2 : Int))))]) (fun i2 s2 => []) (St.le_mk2 SC) (fun i2 s2 hi h => ?_) (fun s2 h => ?_)
 ·have w := wrap_succ (i := i2) (by omega)
  refine S ?_
  refine CondH.t2 cs (by omega) (fun cs => S ?_)
  refine CondH.run cs h (fun cs h => S ?_) (fun cs h => S ?_)
  ·obtain ⟨v14, hv14, h⟩ := run_bind h
   refine SidxH.mk hv14 (S ?_)
   obtain ⟨v15, hv15, h⟩ := run_bind h
   refine CallH.mk [false] (impl_isUpper_sat hv15) SC (S ?_)
   refine CondH.run cs h (fun cs h => S ?_) (fun cs h => S ?_)
   ·refine CondH.run cs h (fun cs h => S ?_) (fun cs h => S ?_)
    ·obtain ⟨v24, hv24, h⟩ := run_bind h
     refine SidxH.mk hv24 (S ?_)
     obtain ⟨v25, hv25, h⟩ := run_bind h
     refine CallH.mk [false] (impl_isLower_sat hv25) SC (S ?_)
     refine CondH.run cs h (fun cs h => S ?_) (fun cs h => S ?_)
     ·have h := run_some h
      refine RdH.mk ⟨_, h, ?_⟩
      exact St.le_mk2 SW
     ·obtain ⟨v31, hv31, h⟩ := run_bind h
      refine SidxH.mk hv31 (S ?_)
      obtain ⟨v32, hv32, h⟩ := run_bind h
      refine CallH.mk [false] (impl_isDigit_sat hv32) SC (S ?_)
      refine CondH.run cs h (fun cs h => S ?_) (fun cs h => S ?_)
      ·have h := run_some h
       refine RdH.mk ⟨_, h, ?_⟩
       exact St.le_mk2 SW
      ·cases run_some h
       exact FinH.l SC
    ·have h := run_some h
     refine RdH.mk ⟨_, h, ?_⟩
     exact St.le_mk2 SW
   ·cases run_some h
    exact FinH.l SC
  ·refine CondH.run cs h (fun cs h => S ?_) (fun cs h => S ?_)
   ·obtain ⟨v24, hv24, h⟩ := run_bind h
    refine SidxH.mk hv24 (S ?_)
    obtain ⟨v25, hv25, h⟩ := run_bind h
    refine CallH.mk [false] (impl_isLower_sat hv25) SC (S ?_)
    refine CondH.run cs h (fun cs h => S ?_) (fun cs h => S ?_)
    ·have h := run_some h
     refine RdH.mk ⟨_, h, ?_⟩
     exact St.le_mk2 SW
    ·obtain ⟨v31, hv31, h⟩ := run_bind h
     refine SidxH.mk hv31 (S ?_)
     obtain ⟨v32, hv32, h⟩ := run_bind h
     refine CallH.mk [false] (impl_isDigit_sat hv32) SC (S ?_)
     refine CondH.run cs h (fun cs h => S ?_) (fun cs h => S ?_)
     ·have h := run_some h
      refine RdH.mk ⟨_, h, ?_⟩
      exact St.le_mk2 SW
     ·cases run_some h
      exact FinH.l SC
   ·have h := run_some h
    refine RdH.mk ⟨_, h, ?_⟩
    exact St.le_mk2 SW
 ·refine S ?_
  refine CondH.f2 cs (by omega) (fun cs => S ?_)
  obtain ⟨v39, hv39, h⟩ := run_bind h
  refine CallH.mk [false, false, false] (impl_within_sat hv39) SC (S ?_)
  cases run_some h
  exact FinH.l SC

set_option maxHeartbeats 4000000 in
theorem impl_isEquality_sat {a0 : Term}  {r : Bool} (h : impl_isEquality a0 = some r) : Sat Tryz.prog 139 [((Term.pv false) a0)] (B r) := by
 obtain ⟨h, cs⟩ := Run.of0 h
 unfold impl_isEquality at h
 refine Sat.of_m (nt := 6) (rs := [.tmp 2]) (n := 100000) Tryz.func139 rfl rfl rfl rfl (by simp) (S ?_)
 cases run_some h
 exact FinH.l SC

set_option maxHeartbeats 4000000 in
theorem impl_sizeN_sat (n : Nat) : (∀ (a0 : Term) (r : Int), impl_sizeN n a0 = some r → Sat Tryz.prog 144 [((Term.pv false) a0)] (I r)) := by
 induction n with
 | zero => exact fun _ _ h => by simp [impl_sizeN] at h
 | succ n ih =>
  refine fun a0 r h => ?_
  obtain ⟨h, cs⟩ := Run.of0 h
  rw [impl_sizeN] at h
  refine Sat.of_m (nt := 22) (rs := [.tmp 2]) (n := 100000) Tryz.func144 rfl rfl rfl rfl (by simp) (S ?_)
  refine Mg.know_sl (b := false) (sz := 2) (es := a0.Args.map (Term.pv false)) 7 SC fun hl7 => ?_; rw [List.length_map] at hl7
  replace h := run_loop h
  refine Mg.forN h (fun i3 s3 => [(3, .val (.pv (I s3))), (7, .val (.pv (.sl false 2 (a0.Args.map (Term.pv false))))), (8, .val (.pv (I (a0.Args.length : Int)))), (9, .val (.pv (I (i3 : Int))))]) (fun i3 s3 => []) (St.le_mk2 SC) (fun i3 s3 hi h => ?_) (fun s3 h => ?_)
  ·have w := wrap_succ (i := i3) (by omega)
   refine S ?_
   refine CondH.t2 cs (by omega) (fun cs => S ?_)
   obtain ⟨v11, hv11, h⟩ := run_bind h
   refine IdxH.mk (f := (Term.pv false)) hv11 SC (S ?_)
   refine CondH.run cs h (fun cs h => S ?_) (fun cs h => S ?_)
   ·cases run_some h
    exact FinH.l SC
   ·obtain ⟨v18, hv18, h⟩ := run_bind h
    refine CallH.mk [false] (ih _ _ hv18) SC (S ?_)
    have h := run_some h
    refine RdH.mk ⟨_, h, ?_⟩
    exact St.le_mk2 SW
  ·refine S ?_
   refine CondH.f2 cs (by omega) (fun cs => S ?_)
   cases run_some h
   exact FinH.l SC
theorem impl_size_sat {a0 : Term} {r : Int} (h : impl_size a0 = some r) : Sat Tryz.prog 144 [((Term.pv false) a0)] (I r) := by
 obtain ⟨n, hn⟩ := lim_some h
 exact (impl_sizeN_sat n) _ _ hn

set_option maxHeartbeats 4000000 in
theorem impl_depthN_sat (n : Nat) : (∀ (a0 : Term) (r : Int), impl_depthN n a0 = some r → Sat Tryz.prog 145 [((Term.pv false) a0)] (I r)) := by
 induction n with
 | zero => exact fun _ _ h => by simp [impl_depthN] at h
 | succ n ih =>
  refine fun a0 r h => ?_
  obtain ⟨h, cs⟩ := Run.of0 h
  rw [impl_depthN] at h
  refine Sat.of_m (nt := 20) (rs := [.tmp 2]) (n := 100000) Tryz.func145 rfl rfl rfl rfl (by simp) (S ?_)
  refine Mg.know_sl (b := false) (sz := 2) (es := a0.Args.map (Term.pv false)) 7 SC fun hl7 => ?_; rw [List.length_map] at hl7
  replace h := run_loop h
  refine Mg.forN h (fun i3 s3 => [(3, .val (.pv (I s3))), (7, .val (.pv (.sl false 2 (a0.Args.map (Term.pv false))))), (8, .val (.pv (I (a0.Args.length : Int)))), (9, .val (.pv (I (i3 : Int))))]) (fun i3 s3 => []) (St.le_mk2 SC) (fun i3 s3 hi h => ?_) (fun s3 h => ?_)
  ·have w := wrap_succ (i := i3) (by omega)
   refine S ?_
   refine CondH.t2 cs (by omega) (fun cs => S ?_)
   obtain ⟨v11, hv11, h⟩ := run_bind h
   refine IdxH.mk (f := (Term.pv false)) hv11 SC (S ?_)
   obtain ⟨v15, hv15, h⟩ := run_bind h
   refine CallH.mk [false] (ih _ _ hv15) SC (S ?_)
   have h := run_some h
   refine RdH.mk ⟨_, h, ?_⟩
   exact St.le_mk2 SW
  ·refine S ?_
   refine CondH.f2 cs (by omega) (fun cs => S ?_)
   cases run_some h
   exact FinH.l SC
theorem impl_depth_sat {a0 : Term} {r : Int} (h : impl_depth a0 = some r) : Sat Tryz.prog 145 [((Term.pv false) a0)] (I r) := by
 obtain ⟨n, hn⟩ := lim_some h
 exact (impl_depthN_sat n) _ _ hn

set_option maxHeartbeats 4000000 in
theorem impl_isSmall_sat {a0 : Term}  {r : Bool} (h : impl_isSmall a0 = some r) : Sat Tryz.prog 118 [((Term.pv false) a0)] (B r) := by
 obtain ⟨h, cs⟩ := Run.of0 h
 unfold impl_isSmall at h
 refine Sat.of_m (nt := 11) (rs := [.tmp 2]) (n := 100000) Tryz.func118 rfl rfl rfl rfl (by simp) (S ?_)
 obtain ⟨v4, hv4, h⟩ := run_bind h
 refine CallH.mk [false] (impl_size_sat hv4) SC (S ?_)
 refine CondH.run cs h (fun cs h => S ?_) (fun cs h => S ?_)
 ·obtain ⟨v8, hv8, h⟩ := run_bind h
  refine CallH.mk [false] (impl_depth_sat hv8) SC (S ?_)
  cases run_some h
  exact FinH.l SC
 ·cases run_some h
  exact FinH.l SC

set_option maxHeartbeats 4000000 in
theorem impl_reserved_sat   {r : List ByteArray} (h : impl_reserved  = some r) : Sat Tryz.prog 169 [] (.sl true 1 (r.map Sx)) := by
 obtain ⟨h, cs⟩ := Run.of0 h
 unfold impl_reserved at h
 refine Sat.of_m (nt := 2) (rs := [.tmp 0]) (n := 100000) Tryz.func169 rfl rfl rfl rfl (by simp) (S ?_)
 cases run_some h
 exact FinH.l SC

set_option maxHeartbeats 4000000 in
theorem slices_Index_Sstring_string_sat {a0 : List ByteArray} {a1 : ByteArray}  {r : Int} (h : slices_Index_Sstring_string a0 a1 = some r) : Sat Tryz.prog 90 [(.sl false 1 (a0.map Sx)), (Sx a1)] (I r) := by
 obtain ⟨h, cs⟩ := Run.of0 h
 unfold slices_Index_Sstring_string at h
 refine Sat.of_m (nt := 19) (rs := [.tmp 4]) (n := 100000) Tryz.func90 rfl rfl rfl rfl (by simp) (S ?_)
 refine Mg.know_sl (b := false) (sz := 1) (es := a0.map Sx) 0 SC fun hl0 => ?_; rw [List.length_map] at hl0
 replace h := run_loop h
 refine Mg.forN h (fun i2 s2 => [(0, .val (.pv (.sl false 1 (a0.map Sx)))), (1, .val (.pv (Sx a1))), (7, .val (.pv (I (a0.length : Int)))), (8, .val (.pv (I (i2 : Int))))]) (fun i2 s2 => []) (St.le_mk2 SC) (fun i2 s2 hi h => ?_) (fun s2 h => ?_)
 ·have w := wrap_succ (i := i2) (by omega)
  refine S ?_
  refine CondH.t2 cs (by omega) (fun cs => S ?_)
  obtain ⟨v14, hv14, h⟩ := run_bind h
  refine IdxH.mk (f := Sx) hv14 SC (S ?_)
  refine CondH.run cs h (fun cs h => S ?_) (fun cs h => S ?_)
  ·cases run_some h
   exact FinH.l SC
  ·have h := run_some h
   refine RdH.mk ⟨_, h, ?_⟩
   exact St.le_mk2 SW
 ·refine S ?_
  refine CondH.f2 cs (by omega) (fun cs => S ?_)
  cases run_some h
  exact FinH.l SC

set_option maxHeartbeats 4000000 in
theorem slices_Contains_Sstring_string_sat {a0 : List ByteArray} {a1 : ByteArray}  {r : Bool} (h : slices_Contains_Sstring_string a0 a1 = some r) : Sat Tryz.prog 55 [(.sl false 1 (a0.map Sx)), (Sx a1)] (B r) := by
 obtain ⟨h, cs⟩ := Run.of0 h
 unfold slices_Contains_Sstring_string at h
 refine Sat.of_m (nt := 9) (rs := [.tmp 4]) (n := 100000) Tryz.func55 rfl rfl rfl rfl (by simp) (S ?_)
 obtain ⟨v7, hv7, h⟩ := run_bind h
 refine CallH.mk [false, false] (slices_Index_Sstring_string_sat hv7) SC (S ?_)
 cases run_some h
 exact FinH.l SC

set_option maxHeartbeats 4000000 in
theorem impl_isSymbol_sat {a0 : ByteArray}  {r : Bool} (h : impl_isSymbol a0 = some r) : Sat Tryz.prog 140 [(Sx a0)] (B r) := by
 obtain ⟨h, cs⟩ := Run.of0 h
 unfold impl_isSymbol at h
 refine Sat.of_m (nt := 48) (rs := [.tmp 2]) (n := 100000) Tryz.func140 rfl rfl rfl rfl (by simp) (S ?_)
 obtain ⟨N2, hN2, h⟩ := run_bind h
 obtain ⟨hN2a, hN2b⟩ := bnd_some hN2
 replace h := run_loop h
 refine Mg.forN h (fun i2 s2 => [(0, .val (.pv (Sx a0))), (5, .val (.pv (I (a0.size : Int)))), (6, .val (.pv (I (i2 : Int))))]) (fun i2 s2 => []) (St.le_mk2 SC) (fun i2 s2 hi h => ?_) (fun s2 h => ?_)
 ·have w := wrap_succ (i := i2) (by omega)
  refine S ?_
  refine CondH.t2 cs (by omega) (fun cs => S ?_)
  refine CondH.run cs h (fun cs h => S ?_) (fun cs h => S ?_)
  ·obtain ⟨v14, hv14, h⟩ := run_bind h
   refine SidxH.mk hv14 (S ?_)
   obtain ⟨v15, hv15, h⟩ := run_bind h
   refine CallH.mk [false] (impl_isLower_sat hv15) SC (S ?_)
   refine CondH.run cs h (fun cs h => S ?_) (fun cs h => S ?_)
   ·obtain ⟨v21, hv21, h⟩ := run_bind h
    refine SidxH.mk hv21 (S ?_)
    obtain ⟨v22, hv22, h⟩ := run_bind h
    refine CallH.mk [false] (impl_isLower_sat hv22) SC (S ?_)
    refine CondH.run cs h (fun cs h => S ?_) (fun cs h => S ?_)
    ·have h := run_some h
     refine RdH.mk ⟨_, h, ?_⟩
     exact St.le_mk2 SW
    ·obtain ⟨v27, hv27, h⟩ := run_bind h
     refine SidxH.mk hv27 (S ?_)
     obtain ⟨v28, hv28, h⟩ := run_bind h
     refine CallH.mk [false] (impl_isDigit_sat hv28) SC (S ?_)
     refine CondH.run cs h (fun cs h => S ?_) (fun cs h => S ?_)
     ·have h := run_some h
      refine RdH.mk ⟨_, h, ?_⟩
      exact St.le_mk2 SW
     ·obtain ⟨v34, hv34, h⟩ := run_bind h
      refine SidxH.mk hv34 (S ?_)
      refine CondH.run cs h (fun cs h => S ?_) (fun cs h => S ?_)
      ·have h := run_some h
       refine RdH.mk ⟨_, h, ?_⟩
       exact St.le_mk2 SW
      ·cases run_some h
       exact FinH.l SC
   ·cases run_some h
    exact FinH.l SC
  ·obtain ⟨v21, hv21, h⟩ := run_bind h
   refine SidxH.mk hv21 (S ?_)
   obtain ⟨v22, hv22, h⟩ := run_bind h
   refine CallH.mk [false] (impl_isLower_sat hv22) SC (S ?_)
   refine CondH.run cs h (fun cs h => S ?_) (fun cs h => S ?_)
   ·have h := run_some h
    refine RdH.mk ⟨_, h, ?_⟩
    exact St.le_mk2 SW
   ·obtain ⟨v27, hv27, h⟩ := run_bind h
    refine SidxH.mk hv27 (S ?_)
    obtain ⟨v28, hv28, h⟩ := run_bind h
    refine CallH.mk [false] (impl_isDigit_sat hv28) SC (S ?_)
    refine CondH.run cs h (fun cs h => S ?_) (fun cs h => S ?_)
    ·have h := run_some h
     refine RdH.mk ⟨_, h, ?_⟩
     exact St.le_mk2 SW
    ·obtain ⟨v34, hv34, h⟩ := run_bind h
     refine SidxH.mk hv34 (S ?_)
     refine CondH.run cs h (fun cs h => S ?_) (fun cs h => S ?_)
     ·have h := run_some h
      refine RdH.mk ⟨_, h, ?_⟩
      exact St.le_mk2 SW
     ·cases run_some h
      exact FinH.l SC
 ·refine S ?_
  refine CondH.f2 cs (by omega) (fun cs => S ?_)
  obtain ⟨v41, hv41, h⟩ := run_bind h
  refine CallH.mk [false, false, false] (impl_within_sat hv41) SC (S ?_)
  refine CondH.run cs h (fun cs h => S ?_) (fun cs h => S ?_)
  ·obtain ⟨v43, hv43, h⟩ := run_bind h
   refine CallH.mk [] (impl_reserved_sat hv43) SC (S ?_)
   obtain ⟨v45, hv45, h⟩ := run_bind h
   refine CallH.mk [false, false] (slices_Contains_Sstring_string_sat hv45) SC (S ?_)
   cases run_some h
   exact FinH.l SC
  ·cases run_some h
   exact FinH.l SC

set_option maxHeartbeats 4000000 in
theorem slices_IndexFunc_Simpl_Term_impl_Term_sat {a0 : List Term} {a1 : Term → Option Bool} {a1_id : FuncId} {a1_cs : List PV} (a1_ok : ∀ y0 r, a1 y0 = some r → Sat Tryz.prog a1_id (((Term.pv false) y0) :: a1_cs) (B r)) (a1_cz : CapsOk a1_cs = True) {r : Int} (h : slices_IndexFunc_Simpl_Term_impl_Term a0 a1 = some r) : Sat Tryz.prog 132 [(.sl false 2 (a0.map (Term.pv false))), .clo a1_id a1_cs] (I r) := by
 obtain ⟨h, cs⟩ := Run.of0 h
 unfold slices_IndexFunc_Simpl_Term_impl_Term at h
 have cs := And.intro a1_cz cs
 refine Sat.of_m (nt := 19) (rs := [.tmp 4]) (n := 100000) Tryz.func132 rfl rfl rfl rfl (by simp) (S ?_)
 refine Mg.know_sl (b := false) (sz := 2) (es := a0.map (Term.pv false)) 0 SC fun hl0 => ?_; rw [List.length_map] at hl0
 replace h := run_loop h
 refine Mg.forN h (fun i2 s2 => [(0, .val (.pv (.sl false 2 (a0.map (Term.pv false))))), (1, .val (.pv (.clo a1_id a1_cs))), (7, .val (.pv (I (a0.length : Int)))), (8, .val (.pv (I (i2 : Int))))]) (fun i2 s2 => []) (St.le_mk2 SC) (fun i2 s2 hi h => ?_) (fun s2 h => ?_)
 ·have w := wrap_succ (i := i2) (by omega)
  refine S ?_
  refine CondH.t2 cs (by omega) (fun cs => S ?_)
  obtain ⟨v14, hv14, h⟩ := run_bind h
  refine IdxH.mk (f := (Term.pv false)) hv14 SC (S ?_)
  obtain ⟨v16, hv16, h⟩ := run_bind h
  refine CallH.mk [false] (a1_ok _ _ hv16) SC (S ?_)
  refine CondH.run cs h (fun cs h => S ?_) (fun cs h => S ?_)
  ·cases run_some h
   exact FinH.l SC
  ·have h := run_some h
   refine RdH.mk ⟨_, h, ?_⟩
   exact St.le_mk2 SW
 ·refine S ?_
  refine CondH.f2 cs (by omega) (fun cs => S ?_)
  cases run_some h
  exact FinH.l SC

set_option maxHeartbeats 4000000 in
theorem slices_ContainsFunc_Simpl_Term_impl_Term_sat {a0 : List Term} {a1 : Term → Option Bool} {a1_id : FuncId} {a1_cs : List PV} (a1_ok : ∀ y0 r, a1 y0 = some r → Sat Tryz.prog a1_id (((Term.pv false) y0) :: a1_cs) (B r)) (a1_cz : CapsOk a1_cs = True) {r : Bool} (h : slices_ContainsFunc_Simpl_Term_impl_Term a0 a1 = some r) : Sat Tryz.prog 94 [(.sl false 2 (a0.map (Term.pv false))), .clo a1_id a1_cs] (B r) := by
 obtain ⟨h, cs⟩ := Run.of0 h
 unfold slices_ContainsFunc_Simpl_Term_impl_Term at h
 have cs := And.intro a1_cz cs
 refine Sat.of_m (nt := 9) (rs := [.tmp 4]) (n := 100000) Tryz.func94 rfl rfl rfl rfl (by simp) (S ?_)
 obtain ⟨v7, hv7, h⟩ := run_bind h
 refine CallH.mk [false, false] (slices_IndexFunc_Simpl_Term_impl_Term_sat a1_ok a1_cz hv7) SC (S ?_)
 cases run_some h
 exact FinH.l SC

set_option maxHeartbeats 4000000 in
theorem impl_hasNamesN_sat (n : Nat) : (∀ (a0 : Term) (r : Bool), impl_hasNamesN n a0 = some r → Sat Tryz.prog 119 [((Term.pv false) a0)] (B r)) ∧ (∀ (a0 : Term) (r : Bool), impl_hasNames_1N n a0 = some r → Sat Tryz.prog 146 [((Term.pv false) a0)] (B r)) := by
 induction n with
 | zero => exact ⟨fun _ _ h => by simp [impl_hasNamesN] at h, fun _ _ h => by simp [impl_hasNames_1N] at h⟩
 | succ n ih =>
  refine ⟨fun a0 r h => ?_, fun a0 r h => ?_⟩
  ·obtain ⟨h, cs⟩ := Run.of0 h
   rw [impl_hasNamesN] at h
   refine Sat.of_m (nt := 25) (rs := [.tmp 2]) (n := 100000) Tryz.func119 rfl rfl rfl rfl (by simp) (S ?_)
   obtain ⟨v5, hv5, h⟩ := run_bind h
   refine CallH.mk [false] (impl_isVariable_sat hv5) SC (S ?_)
   refine CondH.run cs h (fun cs h => S ?_) (fun cs h => S ?_)
   ·cases run_some h
    exact FinH.l SC
   ·obtain ⟨v12, hv12, h⟩ := run_bind h
    refine CallH.mk [false] (impl_isSymbol_sat hv12) SC (S ?_)
    refine CondH.run cs h (fun cs h => S ?_) (fun cs h => S ?_)
    ·refine CondH.run cs h (fun cs h => S ?_) (fun cs h => S ?_)
     ·obtain ⟨v22, hv22, h⟩ := run_bind h
      refine CallH.mk [false, false] (slices_ContainsFunc_Simpl_Term_impl_Term_sat (fun _ _ hh => ih.2 _ _ hh) (by simp only [CapsOk_nil, CapsOk_cons]) hv22) SC (S ?_)
      cases run_some h
      exact FinH.l SC
     ·cases run_some h
      exact FinH.l SC
    ·cases run_some h
     exact FinH.l SC
  ·obtain ⟨h, cs⟩ := Run.of0 h
   rw [impl_hasNames_1N] at h
   refine Sat.of_m (nt := 6) (rs := [.tmp 2]) (n := 100000) Tryz.func146 rfl rfl rfl rfl (by simp) (S ?_)
   obtain ⟨v4, hv4, h⟩ := run_bind h
   refine CallH.mk [false] (ih.1 _ _ hv4) SC (S ?_)
   cases run_some h
   exact FinH.l SC
theorem impl_hasNames_sat {a0 : Term} {r : Bool} (h : impl_hasNames a0 = some r) : Sat Tryz.prog 119 [((Term.pv false) a0)] (B r) := by
 obtain ⟨n, hn⟩ := lim_some h
 exact (impl_hasNamesN_sat n).1 _ _ hn
theorem impl_hasNames_1_sat {a0 : Term} {r : Bool} (h : impl_hasNames_1 a0 = some r) : Sat Tryz.prog 146 [((Term.pv false) a0)] (B r) := by
 obtain ⟨n, hn⟩ := lim_some h
 exact (impl_hasNamesN_sat n).2 _ _ hn

set_option maxHeartbeats 4000000 in
theorem impl_IsValidTerm_sat {a0 : Term}  {r : Bool} (h : impl_IsValidTerm a0 = some r) : Sat Tryz.prog 80 [((Term.pv false) a0)] (B r) := by
 obtain ⟨h, cs⟩ := Run.of0 h
 unfold impl_IsValidTerm at h
 refine Sat.of_m (nt := 9) (rs := [.tmp 2]) (n := 100000) Tryz.func80 rfl rfl rfl rfl (by simp) (S ?_)
 obtain ⟨v4, hv4, h⟩ := run_bind h
 refine CallH.mk [false] (impl_isSmall_sat hv4) SC (S ?_)
 refine CondH.run cs h (fun cs h => S ?_) (fun cs h => S ?_)
 ·obtain ⟨v7, hv7, h⟩ := run_bind h
  refine CallH.mk [false] (impl_hasNames_sat hv7) SC (S ?_)
  cases run_some h
  exact FinH.l SC
 ·cases run_some h
  exact FinH.l SC

set_option maxHeartbeats 4000000 in
theorem impl_IsValidAtom_sat {a0 : Term}  {r : Bool} (h : impl_IsValidAtom a0 = some r) : Sat Tryz.prog 103 [((Term.pv false) a0)] (B r) := by
 obtain ⟨h, cs⟩ := Run.of0 h
 unfold impl_IsValidAtom at h
 refine Sat.of_m (nt := 34) (rs := [.tmp 2]) (n := 100000) Tryz.func103 rfl rfl rfl rfl (by simp) (S ?_)
 obtain ⟨v4, hv4, h⟩ := run_bind h
 refine CallH.mk [false] (impl_isEquality_sat hv4) SC (S ?_)
 refine CondH.run cs h (fun cs h => S ?_) (fun cs h => S ?_)
 ·refine CondH.run cs h (fun cs h => S ?_) (fun cs h => S ?_)
  ·obtain ⟨v11, hv11, h⟩ := run_bind h
   refine CallH.mk [false] (impl_isSmall_sat hv11) SC (S ?_)
   refine CondH.run cs h (fun cs h => S ?_) (fun cs h => S ?_)
   ·obtain ⟨v16, hv16, h⟩ := run_bind h
    refine IdxH.mk (f := (Term.pv false)) hv16 SC (S ?_)
    obtain ⟨v18, hv18, h⟩ := run_bind h
    refine CallH.mk [false] (impl_hasNames_sat hv18) SC (S ?_)
    refine CondH.run cs h (fun cs h => S ?_) (fun cs h => S ?_)
    ·obtain ⟨v23, hv23, h⟩ := run_bind h
     refine IdxH.mk (f := (Term.pv false)) hv23 SC (S ?_)
     obtain ⟨v25, hv25, h⟩ := run_bind h
     refine CallH.mk [false] (impl_hasNames_sat hv25) SC (S ?_)
     cases run_some h
     exact FinH.l SC
    ·cases run_some h
     exact FinH.l SC
   ·cases run_some h
    exact FinH.l SC
  ·cases run_some h
   exact FinH.l SC
 ·obtain ⟨v29, hv29, h⟩ := run_bind h
  refine CallH.mk [false] (impl_isSymbol_sat hv29) SC (S ?_)
  refine CondH.run cs h (fun cs h => S ?_) (fun cs h => S ?_)
  ·obtain ⟨v32, hv32, h⟩ := run_bind h
   refine CallH.mk [false] (impl_IsValidTerm_sat hv32) SC (S ?_)
   cases run_some h
   exact FinH.l SC
  ·cases run_some h
   exact FinH.l SC

set_option maxHeartbeats 4000000 in
theorem impl_isZeroTerm_sat {a0 : Term}  {r : Bool} (h : impl_isZeroTerm a0 = some r) : Sat Tryz.prog 104 [((Term.pv false) a0)] (B r) := by
 obtain ⟨h, cs⟩ := Run.of0 h
 unfold impl_isZeroTerm at h
 refine Sat.of_m (nt := 12) (rs := [.tmp 2]) (n := 100000) Tryz.func104 rfl rfl rfl rfl (by simp) (S ?_)
 refine CondH.run cs h (fun cs h => S ?_) (fun cs h => S ?_)
 ·cases run_some h
  exact FinH.l SC
 ·cases run_some h
  exact FinH.l SC

set_option maxHeartbeats 4000000 in
theorem slices_IndexFunc_Simpl_Formula_impl_Formula_sat {a0 : List Formula} {a1 : Formula → Option Bool} {a1_id : FuncId} {a1_cs : List PV} (a1_ok : ∀ y0 r, a1 y0 = some r → Sat Tryz.prog a1_id (((Formula.pv false) y0) :: a1_cs) (B r)) (a1_cz : CapsOk a1_cs = True) {r : Int} (h : slices_IndexFunc_Simpl_Formula_impl_Formula a0 a1 = some r) : Sat Tryz.prog 128 [(.sl false 5 (a0.map (Formula.pv false))), .clo a1_id a1_cs] (I r) := by
 obtain ⟨h, cs⟩ := Run.of0 h
 unfold slices_IndexFunc_Simpl_Formula_impl_Formula at h
 have cs := And.intro a1_cz cs
 refine Sat.of_m (nt := 19) (rs := [.tmp 4]) (n := 100000) Tryz.func128 rfl rfl rfl rfl (by simp) (S ?_)
 refine Mg.know_sl (b := false) (sz := 5) (es := a0.map (Formula.pv false)) 0 SC fun hl0 => ?_; rw [List.length_map] at hl0
 replace h := run_loop h
 refine Mg.forN h (fun i2 s2 => [(0, .val (.pv (.sl false 5 (a0.map (Formula.pv false))))), (1, .val (.pv (.clo a1_id a1_cs))), (7, .val (.pv (I (a0.length : Int)))), (8, .val (.pv (I (i2 : Int))))]) (fun i2 s2 => []) (St.le_mk2 SC) (fun i2 s2 hi h => ?_) (fun s2 h => ?_)
 ·have w := wrap_succ (i := i2) (by omega)
  refine S ?_
  refine CondH.t2 cs (by omega) (fun cs => S ?_)
  obtain ⟨v14, hv14, h⟩ := run_bind h
  refine IdxH.mk (f := (Formula.pv false)) hv14 SC (S ?_)
  obtain ⟨v16, hv16, h⟩ := run_bind h
  refine CallH.mk [false] (a1_ok _ _ hv16) SC (S ?_)
  refine CondH.run cs h (fun cs h => S ?_) (fun cs h => S ?_)
  ·cases run_some h
   exact FinH.l SC
  ·have h := run_some h
   refine RdH.mk ⟨_, h, ?_⟩
   exact St.le_mk2 SW
 ·refine S ?_
  refine CondH.f2 cs (by omega) (fun cs => S ?_)
  cases run_some h
  exact FinH.l SC

set_option maxHeartbeats 4000000 in
theorem slices_ContainsFunc_Simpl_Formula_impl_Formula_sat {a0 : List Formula} {a1 : Formula → Option Bool} {a1_id : FuncId} {a1_cs : List PV} (a1_ok : ∀ y0 r, a1 y0 = some r → Sat Tryz.prog a1_id (((Formula.pv false) y0) :: a1_cs) (B r)) (a1_cz : CapsOk a1_cs = True) {r : Bool} (h : slices_ContainsFunc_Simpl_Formula_impl_Formula a0 a1 = some r) : Sat Tryz.prog 88 [(.sl false 5 (a0.map (Formula.pv false))), .clo a1_id a1_cs] (B r) := by
 obtain ⟨h, cs⟩ := Run.of0 h
 unfold slices_ContainsFunc_Simpl_Formula_impl_Formula at h
 have cs := And.intro a1_cz cs
 refine Sat.of_m (nt := 9) (rs := [.tmp 4]) (n := 100000) Tryz.func88 rfl rfl rfl rfl (by simp) (S ?_)
 obtain ⟨v7, hv7, h⟩ := run_bind h
 refine CallH.mk [false, false] (slices_IndexFunc_Simpl_Formula_impl_Formula_sat a1_ok a1_cz hv7) SC (S ?_)
 cases run_some h
 exact FinH.l SC

set_option maxHeartbeats 4000000 in
theorem impl_hasFormN_sat (n : Nat) : (∀ (a0 : Formula) (r : Bool), impl_hasFormN n a0 = some r → Sat Tryz.prog 67 [((Formula.pv false) a0)] (B r)) ∧ (∀ (a0 : Formula) (r : Bool), impl_hasForm_1N n a0 = some r → Sat Tryz.prog 105 [((Formula.pv false) a0)] (B r)) := by
 induction n with
 | zero => exact ⟨fun _ _ h => by simp [impl_hasFormN] at h, fun _ _ h => by simp [impl_hasForm_1N] at h⟩
 | succ n ih =>
  refine ⟨fun a0 r h => ?_, fun a0 r h => ?_⟩
  ·obtain ⟨h, cs⟩ := Run.of0 h
   rw [impl_hasFormN] at h
   refine Sat.of_m (nt := 76) (rs := [.tmp 2]) (n := 100000) Tryz.func67 rfl rfl rfl rfl (by simp) (S ?_)
   refine CondH.run cs h (fun cs h => S ?_) (fun cs h => S ?_)
   ·refine CondH.run cs h (fun cs h => S ?_) (fun cs h => S ?_)
    ·obtain ⟨v33, hv33, h⟩ := run_bind h
     refine CallH.mk [false] (impl_isQuantifier_sat hv33) SC (S ?_)
     refine CondH.run cs h (fun cs h => S ?_) (fun cs h => S ?_)
     ·obtain ⟨v37, hv37, h⟩ := run_bind h
      refine CallH.mk [false] (impl_isVariable_sat hv37) SC (S ?_)
      refine CondH.run cs h (fun cs h => S ?_) (fun cs h => S ?_)
      ·obtain ⟨v44, hv44, h⟩ := run_bind h
       refine CallH.mk [false] (impl_isQuantifier_sat hv44) SC (S ?_)
       refine CondH.run cs h (fun cs h => S ?_) (fun cs h => S ?_)
       ·refine CondH.run cs h (fun cs h => S ?_) (fun cs h => S ?_)
        ·obtain ⟨v58, hv58, h⟩ := run_bind h
         refine CallH.mk [false] (impl_IsValidAtom_sat hv58) SC (S ?_)
         refine CondH.run cs h (fun cs h => S ?_) (fun cs h => S ?_)
         ·obtain ⟨v74, hv74, h⟩ := run_bind h
          refine CallH.mk [false, false] (slices_ContainsFunc_Simpl_Formula_impl_Formula_sat (fun _ _ hh => ih.2 _ _ hh) (by simp only [CapsOk_nil, CapsOk_cons]) hv74) SC (S ?_)
          cases run_some h
          exact FinH.l SC
         ·cases run_some h
          exact FinH.l SC
        ·obtain ⟨v68, hv68, h⟩ := run_bind h
         refine CallH.mk [false] (impl_isZeroTerm_sat hv68) SC (S ?_)
         refine CondH.run cs h (fun cs h => S ?_) (fun cs h => S ?_)
         ·obtain ⟨v74, hv74, h⟩ := run_bind h
          refine CallH.mk [false, false] (slices_ContainsFunc_Simpl_Formula_impl_Formula_sat (fun _ _ hh => ih.2 _ _ hh) (by simp only [CapsOk_nil, CapsOk_cons]) hv74) SC (S ?_)
          cases run_some h
          exact FinH.l SC
         ·cases run_some h
          exact FinH.l SC
       ·refine CondH.run cs h (fun cs h => S ?_) (fun cs h => S ?_)
        ·refine CondH.run cs h (fun cs h => S ?_) (fun cs h => S ?_)
         ·obtain ⟨v58, hv58, h⟩ := run_bind h
          refine CallH.mk [false] (impl_IsValidAtom_sat hv58) SC (S ?_)
          refine CondH.run cs h (fun cs h => S ?_) (fun cs h => S ?_)
          ·obtain ⟨v74, hv74, h⟩ := run_bind h
           refine CallH.mk [false, false] (slices_ContainsFunc_Simpl_Formula_impl_Formula_sat (fun _ _ hh => ih.2 _ _ hh) (by simp only [CapsOk_nil, CapsOk_cons]) hv74) SC (S ?_)
           cases run_some h
           exact FinH.l SC
          ·cases run_some h
           exact FinH.l SC
         ·obtain ⟨v68, hv68, h⟩ := run_bind h
          refine CallH.mk [false] (impl_isZeroTerm_sat hv68) SC (S ?_)
          refine CondH.run cs h (fun cs h => S ?_) (fun cs h => S ?_)
          ·obtain ⟨v74, hv74, h⟩ := run_bind h
           refine CallH.mk [false, false] (slices_ContainsFunc_Simpl_Formula_impl_Formula_sat (fun _ _ hh => ih.2 _ _ hh) (by simp only [CapsOk_nil, CapsOk_cons]) hv74) SC (S ?_)
           cases run_some h
           exact FinH.l SC
          ·cases run_some h
           exact FinH.l SC
        ·cases run_some h
         exact FinH.l SC
      ·cases run_some h
       exact FinH.l SC
     ·obtain ⟨v44, hv44, h⟩ := run_bind h
      refine CallH.mk [false] (impl_isQuantifier_sat hv44) SC (S ?_)
      refine CondH.run cs h (fun cs h => S ?_) (fun cs h => S ?_)
      ·refine CondH.run cs h (fun cs h => S ?_) (fun cs h => S ?_)
       ·obtain ⟨v58, hv58, h⟩ := run_bind h
        refine CallH.mk [false] (impl_IsValidAtom_sat hv58) SC (S ?_)
        refine CondH.run cs h (fun cs h => S ?_) (fun cs h => S ?_)
        ·obtain ⟨v74, hv74, h⟩ := run_bind h
         refine CallH.mk [false, false] (slices_ContainsFunc_Simpl_Formula_impl_Formula_sat (fun _ _ hh => ih.2 _ _ hh) (by simp only [CapsOk_nil, CapsOk_cons]) hv74) SC (S ?_)
         cases run_some h
         exact FinH.l SC
        ·cases run_some h
         exact FinH.l SC
       ·obtain ⟨v68, hv68, h⟩ := run_bind h
        refine CallH.mk [false] (impl_isZeroTerm_sat hv68) SC (S ?_)
        refine CondH.run cs h (fun cs h => S ?_) (fun cs h => S ?_)
        ·obtain ⟨v74, hv74, h⟩ := run_bind h
         refine CallH.mk [false, false] (slices_ContainsFunc_Simpl_Formula_impl_Formula_sat (fun _ _ hh => ih.2 _ _ hh) (by simp only [CapsOk_nil, CapsOk_cons]) hv74) SC (S ?_)
         cases run_some h
         exact FinH.l SC
        ·cases run_some h
         exact FinH.l SC
      ·refine CondH.run cs h (fun cs h => S ?_) (fun cs h => S ?_)
       ·refine CondH.run cs h (fun cs h => S ?_) (fun cs h => S ?_)
        ·obtain ⟨v58, hv58, h⟩ := run_bind h
         refine CallH.mk [false] (impl_IsValidAtom_sat hv58) SC (S ?_)
         refine CondH.run cs h (fun cs h => S ?_) (fun cs h => S ?_)
         ·obtain ⟨v74, hv74, h⟩ := run_bind h
          refine CallH.mk [false, false] (slices_ContainsFunc_Simpl_Formula_impl_Formula_sat (fun _ _ hh => ih.2 _ _ hh) (by simp only [CapsOk_nil, CapsOk_cons]) hv74) SC (S ?_)
          cases run_some h
          exact FinH.l SC
         ·cases run_some h
          exact FinH.l SC
        ·obtain ⟨v68, hv68, h⟩ := run_bind h
         refine CallH.mk [false] (impl_isZeroTerm_sat hv68) SC (S ?_)
         refine CondH.run cs h (fun cs h => S ?_) (fun cs h => S ?_)
         ·obtain ⟨v74, hv74, h⟩ := run_bind h
          refine CallH.mk [false, false] (slices_ContainsFunc_Simpl_Formula_impl_Formula_sat (fun _ _ hh => ih.2 _ _ hh) (by simp only [CapsOk_nil, CapsOk_cons]) hv74) SC (S ?_)
          cases run_some h
          exact FinH.l SC
         ·cases run_some h
          exact FinH.l SC
       ·cases run_some h
        exact FinH.l SC
    ·cases run_some h
     exact FinH.l SC
   ·refine CondH.run cs h (fun cs h => S ?_) (fun cs h => S ?_)
    ·refine CondH.run cs h (fun cs h => S ?_) (fun cs h => S ?_)
     ·obtain ⟨v33, hv33, h⟩ := run_bind h
      refine CallH.mk [false] (impl_isQuantifier_sat hv33) SC (S ?_)
      refine CondH.run cs h (fun cs h => S ?_) (fun cs h => S ?_)
      ·obtain ⟨v37, hv37, h⟩ := run_bind h
       refine CallH.mk [false] (impl_isVariable_sat hv37) SC (S ?_)
       refine CondH.run cs h (fun cs h => S ?_) (fun cs h => S ?_)
       ·obtain ⟨v44, hv44, h⟩ := run_bind h
        refine CallH.mk [false] (impl_isQuantifier_sat hv44) SC (S ?_)
        refine CondH.run cs h (fun cs h => S ?_) (fun cs h => S ?_)
        ·refine CondH.run cs h (fun cs h => S ?_) (fun cs h => S ?_)
         ·obtain ⟨v58, hv58, h⟩ := run_bind h
          refine CallH.mk [false] (impl_IsValidAtom_sat hv58) SC (S ?_)
          refine CondH.run cs h (fun cs h => S ?_) (fun cs h => S ?_)
          ·obtain ⟨v74, hv74, h⟩ := run_bind h
           refine CallH.mk [false, false] (slices_ContainsFunc_Simpl_Formula_impl_Formula_sat (fun _ _ hh => ih.2 _ _ hh) (by simp only [CapsOk_nil, CapsOk_cons]) hv74) SC (S ?_)
           cases run_some h
           exact FinH.l SC
          ·cases run_some h
           exact FinH.l SC
         ·obtain ⟨v68, hv68, h⟩ := run_bind h
          refine CallH.mk [false] (impl_isZeroTerm_sat hv68) SC (S ?_)
          refine CondH.run cs h (fun cs h => S ?_) (fun cs h => S ?_)
          ·obtain ⟨v74, hv74, h⟩ := run_bind h
           refine CallH.mk [false, false] (slices_ContainsFunc_Simpl_Formula_impl_Formula_sat (fun _ _ hh => ih.2 _ _ hh) (by simp only [CapsOk_nil, CapsOk_cons]) hv74) SC (S ?_)
           cases run_some h
           exact FinH.l SC
          ·cases run_some h
           exact FinH.l SC
        ·refine CondH.run cs h (fun cs h => S ?_) (fun cs h => S ?_)
         ·refine CondH.run cs h (fun cs h => S ?_) (fun cs h => S ?_)
          ·obtain ⟨v58, hv58, h⟩ := run_bind h
           refine CallH.mk [false] (impl_IsValidAtom_sat hv58) SC (S ?_)
           refine CondH.run cs h (fun cs h => S ?_) (fun cs h => S ?_)
           ·obtain ⟨v74, hv74, h⟩ := run_bind h
            refine CallH.mk [false, false] (slices_ContainsFunc_Simpl_Formula_impl_Formula_sat (fun _ _ hh => ih.2 _ _ hh) (by simp only [CapsOk_nil, CapsOk_cons]) hv74) SC (S ?_)
            cases run_some h
            exact FinH.l SC
           ·cases run_some h
            exact FinH.l SC
          ·obtain ⟨v68, hv68, h⟩ := run_bind h
           refine CallH.mk [false] (impl_isZeroTerm_sat hv68) SC (S ?_)
           refine CondH.run cs h (fun cs h => S ?_) (fun cs h => S ?_)
           ·obtain ⟨v74, hv74, h⟩ := run_bind h
            refine CallH.mk [false, false] (slices_ContainsFunc_Simpl_Formula_impl_Formula_sat (fun _ _ hh => ih.2 _ _ hh) (by simp only [CapsOk_nil, CapsOk_cons]) hv74) SC (S ?_)
            cases run_some h
            exact FinH.l SC
           ·cases run_some h
            exact FinH.l SC
         ·cases run_some h
          exact FinH.l SC
       ·cases run_some h
        exact FinH.l SC
      ·obtain ⟨v44, hv44, h⟩ := run_bind h
       refine CallH.mk [false] (impl_isQuantifier_sat hv44) SC (S ?_)
       refine CondH.run cs h (fun cs h => S ?_) (fun cs h => S ?_)
       ·refine CondH.run cs h (fun cs h => S ?_) (fun cs h => S ?_)
        ·obtain ⟨v58, hv58, h⟩ := run_bind h
         refine CallH.mk [false] (impl_IsValidAtom_sat hv58) SC (S ?_)
         refine CondH.run cs h (fun cs h => S ?_) (fun cs h => S ?_)
         ·obtain ⟨v74, hv74, h⟩ := run_bind h
          refine CallH.mk [false, false] (slices_ContainsFunc_Simpl_Formula_impl_Formula_sat (fun _ _ hh => ih.2 _ _ hh) (by simp only [CapsOk_nil, CapsOk_cons]) hv74) SC (S ?_)
          cases run_some h
          exact FinH.l SC
         ·cases run_some h
          exact FinH.l SC
        ·obtain ⟨v68, hv68, h⟩ := run_bind h
         refine CallH.mk [false] (impl_isZeroTerm_sat hv68) SC (S ?_)
         refine CondH.run cs h (fun cs h => S ?_) (fun cs h => S ?_)
         ·obtain ⟨v74, hv74, h⟩ := run_bind h
          refine CallH.mk [false, false] (slices_ContainsFunc_Simpl_Formula_impl_Formula_sat (fun _ _ hh => ih.2 _ _ hh) (by simp only [CapsOk_nil, CapsOk_cons]) hv74) SC (S ?_)
          cases run_some h
          exact FinH.l SC
         ·cases run_some h
          exact FinH.l SC
       ·refine CondH.run cs h (fun cs h => S ?_) (fun cs h => S ?_)
        ·refine CondH.run cs h (fun cs h => S ?_) (fun cs h => S ?_)
         ·obtain ⟨v58, hv58, h⟩ := run_bind h
          refine CallH.mk [false] (impl_IsValidAtom_sat hv58) SC (S ?_)
          refine CondH.run cs h (fun cs h => S ?_) (fun cs h => S ?_)
          ·obtain ⟨v74, hv74, h⟩ := run_bind h
           refine CallH.mk [false, false] (slices_ContainsFunc_Simpl_Formula_impl_Formula_sat (fun _ _ hh => ih.2 _ _ hh) (by simp only [CapsOk_nil, CapsOk_cons]) hv74) SC (S ?_)
           cases run_some h
           exact FinH.l SC
          ·cases run_some h
           exact FinH.l SC
         ·obtain ⟨v68, hv68, h⟩ := run_bind h
          refine CallH.mk [false] (impl_isZeroTerm_sat hv68) SC (S ?_)
          refine CondH.run cs h (fun cs h => S ?_) (fun cs h => S ?_)
          ·obtain ⟨v74, hv74, h⟩ := run_bind h
           refine CallH.mk [false, false] (slices_ContainsFunc_Simpl_Formula_impl_Formula_sat (fun _ _ hh => ih.2 _ _ hh) (by simp only [CapsOk_nil, CapsOk_cons]) hv74) SC (S ?_)
           cases run_some h
           exact FinH.l SC
          ·cases run_some h
           exact FinH.l SC
        ·cases run_some h
         exact FinH.l SC
     ·cases run_some h
      exact FinH.l SC
    ·refine CondH.run cs h (fun cs h => S ?_) (fun cs h => S ?_)
     ·refine CondH.run cs h (fun cs h => S ?_) (fun cs h => S ?_)
      ·obtain ⟨v33, hv33, h⟩ := run_bind h
       refine CallH.mk [false] (impl_isQuantifier_sat hv33) SC (S ?_)
       refine CondH.run cs h (fun cs h => S ?_) (fun cs h => S ?_)
       ·obtain ⟨v37, hv37, h⟩ := run_bind h
        refine CallH.mk [false] (impl_isVariable_sat hv37) SC (S ?_)
        refine CondH.run cs h (fun cs h => S ?_) (fun cs h => S ?_)
        ·obtain ⟨v44, hv44, h⟩ := run_bind h
         refine CallH.mk [false] (impl_isQuantifier_sat hv44) SC (S ?_)
         refine CondH.run cs h (fun cs h => S ?_) (fun cs h => S ?_)
         ·obtain ⟨v58, hv58, h⟩ := run_bind h
          refine CallH.mk [false] (impl_IsValidAtom_sat hv58) SC (S ?_)
          refine CondH.run cs h (fun cs h => S ?_) (fun cs h => S ?_)
          ·obtain ⟨v74, hv74, h⟩ := run_bind h
           refine CallH.mk [false, false] (slices_ContainsFunc_Simpl_Formula_impl_Formula_sat (fun _ _ hh => ih.2 _ _ hh) (by simp only [CapsOk_nil, CapsOk_cons]) hv74) SC (S ?_)
           cases run_some h
           exact FinH.l SC
          ·cases run_some h
           exact FinH.l SC
         ·refine CondH.run cs h (fun cs h => S ?_) (fun cs h => S ?_)
          ·obtain ⟨v58, hv58, h⟩ := run_bind h
           refine CallH.mk [false] (impl_IsValidAtom_sat hv58) SC (S ?_)
           refine CondH.run cs h (fun cs h => S ?_) (fun cs h => S ?_)
           ·obtain ⟨v74, hv74, h⟩ := run_bind h
            refine CallH.mk [false, false] (slices_ContainsFunc_Simpl_Formula_impl_Formula_sat (fun _ _ hh => ih.2 _ _ hh) (by simp only [CapsOk_nil, CapsOk_cons]) hv74) SC (S ?_)
            cases run_some h
            exact FinH.l SC
           ·cases run_some h
            exact FinH.l SC
          ·cases run_some h
           exact FinH.l SC
        ·cases run_some h
         exact FinH.l SC
       ·obtain ⟨v44, hv44, h⟩ := run_bind h
        refine CallH.mk [false] (impl_isQuantifier_sat hv44) SC (S ?_)
        refine CondH.run cs h (fun cs h => S ?_) (fun cs h => S ?_)
        ·obtain ⟨v58, hv58, h⟩ := run_bind h
         refine CallH.mk [false] (impl_IsValidAtom_sat hv58) SC (S ?_)
         refine CondH.run cs h (fun cs h => S ?_) (fun cs h => S ?_)
         ·obtain ⟨v74, hv74, h⟩ := run_bind h
          refine CallH.mk [false, false] (slices_ContainsFunc_Simpl_Formula_impl_Formula_sat (fun _ _ hh => ih.2 _ _ hh) (by simp only [CapsOk_nil, CapsOk_cons]) hv74) SC (S ?_)
          cases run_some h
          exact FinH.l SC
         ·cases run_some h
          exact FinH.l SC
        ·refine CondH.run cs h (fun cs h => S ?_) (fun cs h => S ?_)
         ·obtain ⟨v58, hv58, h⟩ := run_bind h
          refine CallH.mk [false] (impl_IsValidAtom_sat hv58) SC (S ?_)
          refine CondH.run cs h (fun cs h => S ?_) (fun cs h => S ?_)
          ·obtain ⟨v74, hv74, h⟩ := run_bind h
           refine CallH.mk [false, false] (slices_ContainsFunc_Simpl_Formula_impl_Formula_sat (fun _ _ hh => ih.2 _ _ hh) (by simp only [CapsOk_nil, CapsOk_cons]) hv74) SC (S ?_)
           cases run_some h
           exact FinH.l SC
          ·cases run_some h
           exact FinH.l SC
         ·cases run_some h
          exact FinH.l SC
      ·cases run_some h
       exact FinH.l SC
     ·refine CondH.run cs h (fun cs h => S ?_) (fun cs h => S ?_)
      ·refine CondH.run cs h (fun cs h => S ?_) (fun cs h => S ?_)
       ·obtain ⟨v33, hv33, h⟩ := run_bind h
        refine CallH.mk [false] (impl_isQuantifier_sat hv33) SC (S ?_)
        refine CondH.run cs h (fun cs h => S ?_) (fun cs h => S ?_)
        ·obtain ⟨v37, hv37, h⟩ := run_bind h
         refine CallH.mk [false] (impl_isVariable_sat hv37) SC (S ?_)
         refine CondH.run cs h (fun cs h => S ?_) (fun cs h => S ?_)
         ·obtain ⟨v44, hv44, h⟩ := run_bind h
          refine CallH.mk [false] (impl_isQuantifier_sat hv44) SC (S ?_)
          refine CondH.run cs h (fun cs h => S ?_) (fun cs h => S ?_)
          ·obtain ⟨v68, hv68, h⟩ := run_bind h
           refine CallH.mk [false] (impl_isZeroTerm_sat hv68) SC (S ?_)
           refine CondH.run cs h (fun cs h => S ?_) (fun cs h => S ?_)
           ·obtain ⟨v74, hv74, h⟩ := run_bind h
            refine CallH.mk [false, false] (slices_ContainsFunc_Simpl_Formula_impl_Formula_sat (fun _ _ hh => ih.2 _ _ hh) (by simp only [CapsOk_nil, CapsOk_cons]) hv74) SC (S ?_)
            cases run_some h
            exact FinH.l SC
           ·cases run_some h
            exact FinH.l SC
          ·refine CondH.run cs h (fun cs h => S ?_) (fun cs h => S ?_)
           ·obtain ⟨v68, hv68, h⟩ := run_bind h
            refine CallH.mk [false] (impl_isZeroTerm_sat hv68) SC (S ?_)
            refine CondH.run cs h (fun cs h => S ?_) (fun cs h => S ?_)
            ·obtain ⟨v74, hv74, h⟩ := run_bind h
             refine CallH.mk [false, false] (slices_ContainsFunc_Simpl_Formula_impl_Formula_sat (fun _ _ hh => ih.2 _ _ hh) (by simp only [CapsOk_nil, CapsOk_cons]) hv74) SC (S ?_)
             cases run_some h
             exact FinH.l SC
            ·cases run_some h
             exact FinH.l SC
           ·cases run_some h
            exact FinH.l SC
         ·cases run_some h
          exact FinH.l SC
        ·obtain ⟨v44, hv44, h⟩ := run_bind h
         refine CallH.mk [false] (impl_isQuantifier_sat hv44) SC (S ?_)
         refine CondH.run cs h (fun cs h => S ?_) (fun cs h => S ?_)
         ·obtain ⟨v68, hv68, h⟩ := run_bind h
          refine CallH.mk [false] (impl_isZeroTerm_sat hv68) SC (S ?_)
          refine CondH.run cs h (fun cs h => S ?_) (fun cs h => S ?_)
          ·obtain ⟨v74, hv74, h⟩ := run_bind h
           refine CallH.mk [false, false] (slices_ContainsFunc_Simpl_Formula_impl_Formula_sat (fun _ _ hh => ih.2 _ _ hh) (by simp only [CapsOk_nil, CapsOk_cons]) hv74) SC (S ?_)
           cases run_some h
           exact FinH.l SC
          ·cases run_some h
           exact FinH.l SC
         ·refine CondH.run cs h (fun cs h => S ?_) (fun cs h => S ?_)
          ·obtain ⟨v68, hv68, h⟩ := run_bind h
           refine CallH.mk [false] (impl_isZeroTerm_sat hv68) SC (S ?_)
           refine CondH.run cs h (fun cs h => S ?_) (fun cs h => S ?_)
           ·obtain ⟨v74, hv74, h⟩ := run_bind h
            refine CallH.mk [false, false] (slices_ContainsFunc_Simpl_Formula_impl_Formula_sat (fun _ _ hh => ih.2 _ _ hh) (by simp only [CapsOk_nil, CapsOk_cons]) hv74) SC (S ?_)
            cases run_some h
            exact FinH.l SC
           ·cases run_some h
            exact FinH.l SC
          ·cases run_some h
           exact FinH.l SC
       ·cases run_some h
        exact FinH.l SC
      ·obtain ⟨v20, hv20, h⟩ := run_bind h
       refine CallH.mk [false] (impl_isQuantifier_sat hv20) SC (S ?_)
       refine CondH.run cs h (fun cs h => S ?_) (fun cs h => S ?_)
       ·refine CondH.run cs h (fun cs h => S ?_) (fun cs h => S ?_)
        ·obtain ⟨v33, hv33, h⟩ := run_bind h
         refine CallH.mk [false] (impl_isQuantifier_sat hv33) SC (S ?_)
         refine CondH.run cs h (fun cs h => S ?_) (fun cs h => S ?_)
         ·obtain ⟨v37, hv37, h⟩ := run_bind h
          refine CallH.mk [false] (impl_isVariable_sat hv37) SC (S ?_)
          refine CondH.run cs h (fun cs h => S ?_) (fun cs h => S ?_)
          ·obtain ⟨v44, hv44, h⟩ := run_bind h
           refine CallH.mk [false] (impl_isQuantifier_sat hv44) SC (S ?_)
           refine CondH.run cs h (fun cs h => S ?_) (fun cs h => S ?_)
           ·obtain ⟨v68, hv68, h⟩ := run_bind h
            refine CallH.mk [false] (impl_isZeroTerm_sat hv68) SC (S ?_)
            refine CondH.run cs h (fun cs h => S ?_) (fun cs h => S ?_)
            ·obtain ⟨v74, hv74, h⟩ := run_bind h
             refine CallH.mk [false, false] (slices_ContainsFunc_Simpl_Formula_impl_Formula_sat (fun _ _ hh => ih.2 _ _ hh) (by simp only [CapsOk_nil, CapsOk_cons]) hv74) SC (S ?_)
             cases run_some h
             exact FinH.l SC
            ·cases run_some h
             exact FinH.l SC
           ·refine CondH.run cs h (fun cs h => S ?_) (fun cs h => S ?_)
            ·obtain ⟨v68, hv68, h⟩ := run_bind h
             refine CallH.mk [false] (impl_isZeroTerm_sat hv68) SC (S ?_)
             refine CondH.run cs h (fun cs h => S ?_) (fun cs h => S ?_)
             ·obtain ⟨v74, hv74, h⟩ := run_bind h
              refine CallH.mk [false, false] (slices_ContainsFunc_Simpl_Formula_impl_Formula_sat (fun _ _ hh => ih.2 _ _ hh) (by simp only [CapsOk_nil, CapsOk_cons]) hv74) SC (S ?_)
              cases run_some h
              exact FinH.l SC
             ·cases run_some h
              exact FinH.l SC
            ·cases run_some h
             exact FinH.l SC
          ·cases run_some h
           exact FinH.l SC
         ·obtain ⟨v44, hv44, h⟩ := run_bind h
          refine CallH.mk [false] (impl_isQuantifier_sat hv44) SC (S ?_)
          refine CondH.run cs h (fun cs h => S ?_) (fun cs h => S ?_)
          ·obtain ⟨v68, hv68, h⟩ := run_bind h
           refine CallH.mk [false] (impl_isZeroTerm_sat hv68) SC (S ?_)
           refine CondH.run cs h (fun cs h => S ?_) (fun cs h => S ?_)
           ·obtain ⟨v74, hv74, h⟩ := run_bind h
            refine CallH.mk [false, false] (slices_ContainsFunc_Simpl_Formula_impl_Formula_sat (fun _ _ hh => ih.2 _ _ hh) (by simp only [CapsOk_nil, CapsOk_cons]) hv74) SC (S ?_)
            cases run_some h
            exact FinH.l SC
           ·cases run_some h
            exact FinH.l SC
          ·refine CondH.run cs h (fun cs h => S ?_) (fun cs h => S ?_)
           ·obtain ⟨v68, hv68, h⟩ := run_bind h
            refine CallH.mk [false] (impl_isZeroTerm_sat hv68) SC (S ?_)
            refine CondH.run cs h (fun cs h => S ?_) (fun cs h => S ?_)
            ·obtain ⟨v74, hv74, h⟩ := run_bind h
             refine CallH.mk [false, false] (slices_ContainsFunc_Simpl_Formula_impl_Formula_sat (fun _ _ hh => ih.2 _ _ hh) (by simp only [CapsOk_nil, CapsOk_cons]) hv74) SC (S ?_)
             cases run_some h
             exact FinH.l SC
            ·cases run_some h
             exact FinH.l SC
           ·cases run_some h
            exact FinH.l SC
        ·cases run_some h
         exact FinH.l SC
       ·obtain ⟨v24, hv24, h⟩ := run_bind h
        refine CallH.mk [false] (impl_isBinary_sat hv24) SC (S ?_)
        refine CondH.run cs h (fun cs h => S ?_) (fun cs h => S ?_)
        ·refine CondH.run cs h (fun cs h => S ?_) (fun cs h => S ?_)
         ·obtain ⟨v33, hv33, h⟩ := run_bind h
          refine CallH.mk [false] (impl_isQuantifier_sat hv33) SC (S ?_)
          refine CondH.run cs h (fun cs h => S ?_) (fun cs h => S ?_)
          ·obtain ⟨v37, hv37, h⟩ := run_bind h
           refine CallH.mk [false] (impl_isVariable_sat hv37) SC (S ?_)
           refine CondH.run cs h (fun cs h => S ?_) (fun cs h => S ?_)
           ·obtain ⟨v44, hv44, h⟩ := run_bind h
            refine CallH.mk [false] (impl_isQuantifier_sat hv44) SC (S ?_)
            refine CondH.run cs h (fun cs h => S ?_) (fun cs h => S ?_)
            ·obtain ⟨v68, hv68, h⟩ := run_bind h
             refine CallH.mk [false] (impl_isZeroTerm_sat hv68) SC (S ?_)
             refine CondH.run cs h (fun cs h => S ?_) (fun cs h => S ?_)
             ·obtain ⟨v74, hv74, h⟩ := run_bind h
              refine CallH.mk [false, false] (slices_ContainsFunc_Simpl_Formula_impl_Formula_sat (fun _ _ hh => ih.2 _ _ hh) (by simp only [CapsOk_nil, CapsOk_cons]) hv74) SC (S ?_)
              cases run_some h
              exact FinH.l SC
             ·cases run_some h
              exact FinH.l SC
            ·refine CondH.run cs h (fun cs h => S ?_) (fun cs h => S ?_)
             ·obtain ⟨v68, hv68, h⟩ := run_bind h
              refine CallH.mk [false] (impl_isZeroTerm_sat hv68) SC (S ?_)
              refine CondH.run cs h (fun cs h => S ?_) (fun cs h => S ?_)
              ·obtain ⟨v74, hv74, h⟩ := run_bind h
               refine CallH.mk [false, false] (slices_ContainsFunc_Simpl_Formula_impl_Formula_sat (fun _ _ hh => ih.2 _ _ hh) (by simp only [CapsOk_nil, CapsOk_cons]) hv74) SC (S ?_)
               cases run_some h
               exact FinH.l SC
              ·cases run_some h
               exact FinH.l SC
             ·cases run_some h
              exact FinH.l SC
           ·cases run_some h
            exact FinH.l SC
          ·obtain ⟨v44, hv44, h⟩ := run_bind h
           refine CallH.mk [false] (impl_isQuantifier_sat hv44) SC (S ?_)
           refine CondH.run cs h (fun cs h => S ?_) (fun cs h => S ?_)
           ·obtain ⟨v68, hv68, h⟩ := run_bind h
            refine CallH.mk [false] (impl_isZeroTerm_sat hv68) SC (S ?_)
            refine CondH.run cs h (fun cs h => S ?_) (fun cs h => S ?_)
            ·obtain ⟨v74, hv74, h⟩ := run_bind h
             refine CallH.mk [false, false] (slices_ContainsFunc_Simpl_Formula_impl_Formula_sat (fun _ _ hh => ih.2 _ _ hh) (by simp only [CapsOk_nil, CapsOk_cons]) hv74) SC (S ?_)
             cases run_some h
             exact FinH.l SC
            ·cases run_some h
             exact FinH.l SC
           ·refine CondH.run cs h (fun cs h => S ?_) (fun cs h => S ?_)
            ·obtain ⟨v68, hv68, h⟩ := run_bind h
             refine CallH.mk [false] (impl_isZeroTerm_sat hv68) SC (S ?_)
             refine CondH.run cs h (fun cs h => S ?_) (fun cs h => S ?_)
             ·obtain ⟨v74, hv74, h⟩ := run_bind h
              refine CallH.mk [false, false] (slices_ContainsFunc_Simpl_Formula_impl_Formula_sat (fun _ _ hh => ih.2 _ _ hh) (by simp only [CapsOk_nil, CapsOk_cons]) hv74) SC (S ?_)
              cases run_some h
              exact FinH.l SC
             ·cases run_some h
              exact FinH.l SC
            ·cases run_some h
             exact FinH.l SC
         ·cases run_some h
          exact FinH.l SC
        ·cases run_some h
         exact FinH.l SC
  ·obtain ⟨h, cs⟩ := Run.of0 h
   rw [impl_hasForm_1N] at h
   refine Sat.of_m (nt := 6) (rs := [.tmp 2]) (n := 100000) Tryz.func105 rfl rfl rfl rfl (by simp) (S ?_)
   obtain ⟨v4, hv4, h⟩ := run_bind h
   refine CallH.mk [false] (ih.1 _ _ hv4) SC (S ?_)
   cases run_some h
   exact FinH.l SC
theorem impl_hasForm_sat {a0 : Formula} {r : Bool} (h : impl_hasForm a0 = some r) : Sat Tryz.prog 67 [((Formula.pv false) a0)] (B r) := by
 obtain ⟨n, hn⟩ := lim_some h
 exact (impl_hasFormN_sat n).1 _ _ hn
theorem impl_hasForm_1_sat {a0 : Formula} {r : Bool} (h : impl_hasForm_1 a0 = some r) : Sat Tryz.prog 105 [((Formula.pv false) a0)] (B r) := by
 obtain ⟨n, hn⟩ := lim_some h
 exact (impl_hasFormN_sat n).2 _ _ hn

set_option maxHeartbeats 4000000 in
theorem impl_IsValidFormula_sat {a0 : Formula}  {r : Bool} (h : impl_IsValidFormula a0 = some r) : Sat Tryz.prog 33 [((Formula.pv false) a0)] (B r) := by
 obtain ⟨h, cs⟩ := Run.of0 h
 unfold impl_IsValidFormula at h
 refine Sat.of_m (nt := 10) (rs := [.tmp 2]) (n := 100000) Tryz.func33 rfl rfl rfl rfl (by simp) (S ?_)
 obtain ⟨v4, hv4, h⟩ := run_bind h
 refine CallH.mk [false] (impl_sizeOf_sat hv4) SC (S ?_)
 refine CondH.run cs h (fun cs h => S ?_) (fun cs h => S ?_)
 ·obtain ⟨v8, hv8, h⟩ := run_bind h
  refine CallH.mk [false] (impl_hasForm_sat hv8) SC (S ?_)
  cases run_some h
  exact FinH.l SC
 ·cases run_some h
  exact FinH.l SC

set_option maxHeartbeats 4000000 in
theorem impl_zero_sat   {r : Term} (h : impl_zero  = some r) : Sat Tryz.prog 43 [] ((Term.pv true) r) := by
 obtain ⟨h, cs⟩ := Run.of0 h
 unfold impl_zero at h
 refine Sat.of_m (nt := 2) (rs := [.cell 0 33]) (n := 100000) Tryz.func43 rfl rfl rfl rfl (by simp) (S ?_)
 cases run_some h
 exact FinH.l SC

set_option maxHeartbeats 4000000 in
theorem impl_isVar_sat {a0 : Term}  {r : Bool} (h : impl_isVar a0 = some r) : Sat Tryz.prog 129 [((Term.pv false) a0)] (B r) := by
 obtain ⟨h, cs⟩ := Run.of0 h
 unfold impl_isVar at h
 refine Sat.of_m (nt := 7) (rs := [.tmp 2]) (n := 100000) Tryz.func129 rfl rfl rfl rfl (by simp) (S ?_)
 obtain ⟨v5, hv5, h⟩ := run_bind h
 refine SidxH.mk hv5 (S ?_)
 obtain ⟨v6, hv6, h⟩ := run_bind h
 refine CallH.mk [false] (impl_isUpper_sat hv6) SC (S ?_)
 cases run_some h
 exact FinH.l SC

set_option maxHeartbeats 4000000 in
theorem impl_collectN_sat (n : Nat) : (∀ (a0 : List ByteArray) (a1 : Term) (r : List ByteArray), impl_collectN n a0 a1 = some r → Sat Tryz.prog 92 [(.sl true 1 (a0.map Sx)), ((Term.pv false) a1)] (.sl true 1 (r.map Sx))) := by
 induction n with
 | zero => exact fun _ _ _ h => by simp [impl_collectN] at h
 | succ n ih =>
  refine fun a0 a1 r h => ?_
  obtain ⟨h, cs⟩ := Run.of0 h
  rw [impl_collectN] at h
  refine Sat.of_m (nt := 38) (rs := [.tmp 4]) (n := 100000) Tryz.func92 rfl rfl rfl rfl (by simp) (S ?_)
  refine CondH.run cs h (fun cs h => S ?_) (fun cs h => S ?_)
  ·obtain ⟨v13, hv13, h⟩ := run_bind h
   refine CallH.mk [false] (impl_isVar_sat hv13) SC (S ?_)
   refine CondH.run cs h (fun cs h => S ?_) (fun cs h => S ?_)
   ·obtain ⟨v18, hv18, h⟩ := run_bind h
    refine CallH.mk [false, false] (slices_Contains_Sstring_string_sat hv18) SC (S ?_)
    refine CondH.run cs h (fun cs h => S ?_) (fun cs h => S ?_)
    ·cases run_some h
     exact FinH.l SC
    ·obtain ⟨v24, hv24, h⟩ := run_bind h
     refine AppH.mk (f := Sx) (fun _ => rfl) hv24 SC SC (S ?_)
     cases run_some h
     exact FinH.l SC
   ·refine Mg.know_sl (b := false) (sz := 2) (es := a1.Args.map (Term.pv false)) 8 SC fun hl8 => ?_; rw [List.length_map] at hl8
    replace h := run_loop h
    refine Mg.forN h (fun i6 s6 => [(0, .val (.own 9000)), (27, .val (.pv (.sl false 2 (a1.Args.map (Term.pv false))))), (28, .val (.pv (I (a1.Args.length : Int)))), (29, .val (.pv (I (i6 : Int))))]) (fun i6 s6 => [(9000, (1, s6.map Sx))]) (St.le_mk2 SC) (fun i6 s6 hi h => ?_) (fun s6 h => ?_)
    ·have w := wrap_succ (i := i6) (by omega)
     refine S ?_
     refine CondH.t2 cs (by omega) (fun cs => S ?_)
     obtain ⟨v31, hv31, h⟩ := run_bind h
     refine IdxH.mk (f := (Term.pv false)) hv31 SC (S ?_)
     obtain ⟨v35, hv35, h⟩ := run_bind h
     refine CallH.mk [true, false] (ih _ _ _ hv35) SC (S ?_)
     have h := run_some h
     refine RdH.mk ⟨_, h, ?_⟩
     refine St.le_trans (St.le_mk (S := [(0, .val (.own 560)), (27, .val (.pv (.sl false 2 (a1.Args.map (Term.pv false))))), (28, .val (.pv (I (a1.Args.length : Int)))), (29, .val (.pv (I (IntKind.i64.wrap ((i6 : Int) + (1 : Int))))))]) (O := [(560, (1, v35.map Sx))]) SW SW) ?_
     refine St.le_rn 560 9000 (by decide) NM ?_
     exact St.le_mk2 SW
    ·refine S ?_
     refine CondH.f2 cs (by omega) (fun cs => S ?_)
     cases run_some h
     exact FinH.l SC
  ·refine Mg.know_sl (b := false) (sz := 2) (es := a1.Args.map (Term.pv false)) 8 SC fun hl8 => ?_; rw [List.length_map] at hl8
   replace h := run_loop h
   refine Mg.forN h (fun i6 s6 => [(0, .val (.own 9000)), (27, .val (.pv (.sl false 2 (a1.Args.map (Term.pv false))))), (28, .val (.pv (I (a1.Args.length : Int)))), (29, .val (.pv (I (i6 : Int))))]) (fun i6 s6 => [(9000, (1, s6.map Sx))]) (St.le_mk2 SC) (fun i6 s6 hi h => ?_) (fun s6 h => ?_)
   ·have w := wrap_succ (i := i6) (by omega)
    refine S ?_
    refine CondH.t2 cs (by omega) (fun cs => S ?_)
    obtain ⟨v31, hv31, h⟩ := run_bind h
    refine IdxH.mk (f := (Term.pv false)) hv31 SC (S ?_)
    obtain ⟨v35, hv35, h⟩ := run_bind h
    refine CallH.mk [true, false] (ih _ _ _ hv35) SC (S ?_)
    have h := run_some h
    refine RdH.mk ⟨_, h, ?_⟩
    refine St.le_trans (St.le_mk (S := [(0, .val (.own 560)), (27, .val (.pv (.sl false 2 (a1.Args.map (Term.pv false))))), (28, .val (.pv (I (a1.Args.length : Int)))), (29, .val (.pv (I (IntKind.i64.wrap ((i6 : Int) + (1 : Int))))))]) (O := [(560, (1, v35.map Sx))]) SW SW) ?_
    refine St.le_rn 560 9000 (by decide) NM ?_
    exact St.le_mk2 SW
   ·refine S ?_
    refine CondH.f2 cs (by omega) (fun cs => S ?_)
    cases run_some h
    exact FinH.l SC
theorem impl_collect_sat {a0 : List ByteArray} {a1 : Term} {r : List ByteArray} (h : impl_collect a0 a1 = some r) : Sat Tryz.prog 92 [(.sl true 1 (a0.map Sx)), ((Term.pv false) a1)] (.sl true 1 (r.map Sx)) := by
 obtain ⟨n, hn⟩ := lim_some h
 exact (impl_collectN_sat n) _ _ _ hn


set_option maxHeartbeats 4000000 in
theorem impl_variables_sat {a0 : Term}  {r : List ByteArray} (h : impl_variables a0 = some r) : Sat Tryz.prog 171 [((Term.pv false) a0)] (.sl true 1 (r.map Sx)) := by
 obtain ⟨h, cs⟩ := Run.of0 h
 unfold impl_variables at h
 refine Sat.of_m (nt := 10) (rs := [.tmp 2]) (n := 100000) Tryz.func171 rfl rfl rfl rfl (by simp) (S ?_)
 obtain ⟨v6, hv6, h⟩ := run_bind h
 refine CallH.mk [true, false] (impl_collect_sat hv6) SC (S ?_)
 obtain ⟨v8, hv8, h⟩ := run_bind h
 refine CallH.io0 [(.own 96)] [(96, (1, v8.2.map Sx))] (slices_SortS_sat hv8) SC (S ?_)
 cases run_some h
 exact FinH.l SC

set_option maxHeartbeats 4000000 in
theorem slices_Clone_Sstring_string_sat {a0 : List ByteArray}  {r : List ByteArray} (h : slices_Clone_Sstring_string a0 = some r) : Sat Tryz.prog 172 [(.sl false 1 (a0.map Sx))] (.sl true 1 (r.map Sx)) := by
 obtain ⟨h, cs⟩ := Run.of0 h
 unfold slices_Clone_Sstring_string at h
 refine Sat.of_m (nt := 8) (rs := [.tmp 2]) (n := 100000) Tryz.func172 rfl rfl rfl rfl (by simp) (S ?_)
 refine NilH.mk (fun e => ?_) ?_
 ·obtain rfl : a0 = [] := List.map_eq_nil_iff.1 e
  simp only [app_nn, Option.bind_some] at h
  refine S ?_
  cases run_some h
  exact FinH.l SC
 ·skip
  refine S ?_
  obtain ⟨v7, hv7, h⟩ := run_bind h
  refine AppH.mk (f := Sx) (fun _ => rfl) hv7 SC SC (S ?_)
  cases run_some h
  exact FinH.l SC

set_option maxHeartbeats 4000000 in
theorem impl_gatherN_sat (n : Nat) : (∀ (a0 : List ByteArray) (a1 : Formula) (a2 : List ByteArray) (r : List ByteArray), impl_gatherN n a0 a1 a2 = some r → Sat Tryz.prog 147 [(.sl true 1 (a0.map Sx)), ((Formula.pv false) a1), (.sl false 1 (a2.map Sx))] (.sl true 1 (r.map Sx))) := by
 induction n with
 | zero => exact fun _ _ _ _ h => by simp [impl_gatherN] at h
 | succ n ih =>
  refine fun a0 a1 a2 r h => ?_
  obtain ⟨h, cs⟩ := Run.of0 h
  rw [impl_gatherN] at h
  refine Sat.of_m (nt := 60) (rs := [.tmp 6]) (n := 100000) Tryz.func147 rfl rfl rfl rfl (by simp) (S ?_)
  refine CondH.run cs h (fun cs h => S ?_) (fun cs h => S ?_)
  ·obtain ⟨v16, hv16, h⟩ := run_bind h
   refine CallH.mk [false] (impl_variables_sat hv16) SC (S ?_)
   refine Mg.know_own (sz := 1) (es := v16.map Sx) 256 SC fun hl256 => ?_; rw [List.length_map] at hl256
   replace h := run_loop h
   refine Mg.forN h (fun i3 s3 => [(0, .val (.own 9000)), (2, .val (.pv (.sl false 1 (a2.map Sx)))), (16, .val (.own 256)), (17, .val (.pv (I (v16.length : Int)))), (18, .val (.pv (I (i3 : Int))))]) (fun i3 s3 => [(9000, (1, s3.map Sx)), (256, (1, v16.map Sx))]) (St.le_mk2 SC) (fun i3 s3 hi h => ?_) (fun s3 h => ?_)
   ·have w := wrap_succ (i := i3) (by omega)
    refine S ?_
    refine CondH.t2 cs (by omega) (fun cs => S ?_)
    obtain ⟨v20, hv20, h⟩ := run_bind h
    refine IdxH.mk (f := Sx) hv20 SC (S ?_)
    obtain ⟨v21, hv21, h⟩ := run_bind h
    refine EldH.mk (f := Sx) hv21 rfl SC (S ?_)
    obtain ⟨v24, hv24, h⟩ := run_bind h
    refine CallH.mk [false, false] (slices_Contains_Sstring_string_sat hv24) SC (S ?_)
    refine CondH.run cs h (fun cs h => S ?_) (fun cs h => S ?_)
    ·have h := run_some h
     refine RdH.mk ⟨_, h, ?_⟩
     exact St.le_mk2 SW
    ·obtain ⟨v29, hv29, h⟩ := run_bind h
     refine CallH.mk [false, false] (slices_Contains_Sstring_string_sat hv29) SC (S ?_)
     refine CondH.run cs h (fun cs h => S ?_) (fun cs h => S ?_)
     ·have h := run_some h
      refine RdH.mk ⟨_, h, ?_⟩
      exact St.le_mk2 SW
     ·obtain ⟨v35, hv35, h⟩ := run_bind h
      refine AppH.mk (f := Sx) (fun _ => rfl) hv35 SC SC (S ?_)
      have h := run_some h
      refine RdH.mk ⟨_, h, ?_⟩
      refine St.le_trans (St.le_mk (S := [(0, .val (.own 560)), (2, .val (.pv (.sl false 1 (a2.map Sx)))), (16, .val (.own 256)), (17, .val (.pv (I (v16.length : Int)))), (18, .val (.pv (I (IntKind.i64.wrap ((i3 : Int) + (1 : Int))))))]) (O := [(560, (1, v35.map Sx)), (256, (1, v16.map Sx))]) SW SW) ?_
      refine St.le_rn 560 9000 (by decide) NM ?_
      exact St.le_mk2 SW
   ·refine S ?_
    refine CondH.f2 cs (by omega) (fun cs => S ?_)
    cases run_some h
    exact FinH.l SC
  ·obtain ⟨v40, hv40, h⟩ := run_bind h
   refine CallH.mk [false] (impl_isQuantifier_sat hv40) SC (S ?_)
   refine CondH.run cs h (fun cs h => S ?_) (fun cs h => S ?_)
   ·obtain ⟨v42, hv42, h⟩ := run_bind h
    refine CallH.mk [false] (slices_Clone_Sstring_string_sat hv42) SC (S ?_)
    obtain ⟨v46, hv46, h⟩ := run_bind h
    refine AppH.mk (f := Sx) (fun _ => rfl) hv46 SC SC (S ?_)
    refine And.intro (DrawH.ak [] [672, 720, 736]) (S ?_)
    refine Mg.know_sl (b := false) (sz := 5) (es := a1.Parts.map (Formula.pv false)) 48 SC fun hl48 => ?_; rw [List.length_map] at hl48
    replace h := run_loop h
    refine Mg.forN h (fun i12 s12 => [(0, .val (.own 9000)), (2, .val (.own 736)), (48, .val (.pv (.sl false 5 (a1.Parts.map (Formula.pv false))))), (49, .val (.pv (I (a1.Parts.length : Int)))), (50, .val (.pv (I (i12 : Int))))]) (fun i12 s12 => [(9000, (1, s12.map Sx)), (736, (1, v46.map Sx))]) (St.le_mk2 SC) (fun i12 s12 hi h => ?_) (fun s12 h => ?_)
    ·have w := wrap_succ (i := i12) (by omega)
     refine S ?_
     refine CondH.t2 cs (by omega) (fun cs => S ?_)
     obtain ⟨v52, hv52, h⟩ := run_bind h
     refine IdxH.mk (f := (Formula.pv false)) hv52 SC (S ?_)
     obtain ⟨v57, hv57, h⟩ := run_bind h
     refine CallH.mk [true, false, false] (ih _ _ _ _ hv57) SC (S ?_)
     have h := run_some h
     refine RdH.mk ⟨_, h, ?_⟩
     refine St.le_trans (St.le_mk (S := [(0, .val (.own 912)), (2, .val (.own 736)), (48, .val (.pv (.sl false 5 (a1.Parts.map (Formula.pv false))))), (49, .val (.pv (I (a1.Parts.length : Int)))), (50, .val (.pv (I (IntKind.i64.wrap ((i12 : Int) + (1 : Int))))))]) (O := [(912, (1, v57.map Sx)), (736, (1, v46.map Sx))]) SW SW) ?_
     refine St.le_rn 912 9000 (by decide) NM ?_
     exact St.le_mk2 SW
    ·refine S ?_
     refine CondH.f2 cs (by omega) (fun cs => S ?_)
     cases run_some h
     exact FinH.l SC
   ·refine Mg.know_sl (b := false) (sz := 5) (es := a1.Parts.map (Formula.pv false)) 48 SC fun hl48 => ?_; rw [List.length_map] at hl48
    replace h := run_loop h
    refine Mg.forN h (fun i12 s12 => [(0, .val (.own 9000)), (2, .val (.pv (.sl false 1 (a2.map Sx)))), (48, .val (.pv (.sl false 5 (a1.Parts.map (Formula.pv false))))), (49, .val (.pv (I (a1.Parts.length : Int)))), (50, .val (.pv (I (i12 : Int))))]) (fun i12 s12 => [(9000, (1, s12.map Sx))]) (St.le_mk2 SC) (fun i12 s12 hi h => ?_) (fun s12 h => ?_)
    ·have w := wrap_succ (i := i12) (by omega)
     refine S ?_
     refine CondH.t2 cs (by omega) (fun cs => S ?_)
     obtain ⟨v52, hv52, h⟩ := run_bind h
     refine IdxH.mk (f := (Formula.pv false)) hv52 SC (S ?_)
     obtain ⟨v57, hv57, h⟩ := run_bind h
     refine CallH.mk [true, false, false] (ih _ _ _ _ hv57) SC (S ?_)
     have h := run_some h
     refine RdH.mk ⟨_, h, ?_⟩
     refine St.le_trans (St.le_mk (S := [(0, .val (.own 912)), (2, .val (.pv (.sl false 1 (a2.map Sx)))), (48, .val (.pv (.sl false 5 (a1.Parts.map (Formula.pv false))))), (49, .val (.pv (I (a1.Parts.length : Int)))), (50, .val (.pv (I (IntKind.i64.wrap ((i12 : Int) + (1 : Int))))))]) (O := [(912, (1, v57.map Sx))]) SW SW) ?_
     refine St.le_rn 912 9000 (by decide) NM ?_
     exact St.le_mk2 SW
    ·refine S ?_
     refine CondH.f2 cs (by omega) (fun cs => S ?_)
     cases run_some h
     exact FinH.l SC
theorem impl_gather_sat {a0 : List ByteArray} {a1 : Formula} {a2 : List ByteArray} {r : List ByteArray} (h : impl_gather a0 a1 a2 = some r) : Sat Tryz.prog 147 [(.sl true 1 (a0.map Sx)), ((Formula.pv false) a1), (.sl false 1 (a2.map Sx))] (.sl true 1 (r.map Sx)) := by
 obtain ⟨n, hn⟩ := lim_some h
 exact (impl_gatherN_sat n) _ _ _ _ hn

set_option maxHeartbeats 4000000 in
theorem impl_free_sat {a0 : Formula}  {r : List ByteArray} (h : impl_free a0 = some r) : Sat Tryz.prog 120 [((Formula.pv false) a0)] (.sl true 1 (r.map Sx)) := by
 obtain ⟨h, cs⟩ := Run.of0 h
 unfold impl_free at h
 refine Sat.of_m (nt := 10) (rs := [.tmp 2]) (n := 100000) Tryz.func120 rfl rfl rfl rfl (by simp) (S ?_)
 obtain ⟨v6, hv6, h⟩ := run_bind h
 refine CallH.mk [true, false, false] (impl_gather_sat hv6) SC (S ?_)
 obtain ⟨v8, hv8, h⟩ := run_bind h
 refine CallH.io0 [(.own 96)] [(96, (1, v8.2.map Sx))] (slices_SortS_sat hv8) SC (S ?_)
 cases run_some h
 exact FinH.l SC

set_option maxHeartbeats 4000000 in
theorem impl_copyTermN_sat (n : Nat) : (∀ (a0 : Term) (r : Term), impl_copyTermN n a0 = some r → Sat Tryz.prog 124 [((Term.pv false) a0)] ((Term.pv true) r)) ∧ (∀ (a0 : List Term) (r : List Term), impl_copyTermsN n a0 = some r → Sat Tryz.prog 150 [(.sl false 2 (a0.map (Term.pv false)))] (.sl true 2 (r.map (Term.pv true)))) := by
 induction n with
 | zero => exact ⟨fun _ _ h => by simp [impl_copyTermN] at h, fun _ _ h => by simp [impl_copyTermsN] at h⟩
 | succ n ih =>
  refine ⟨fun a0 r h => ?_, fun a0 r h => ?_⟩
  ·obtain ⟨h, cs⟩ := Run.of0 h
   rw [impl_copyTermN] at h
   refine Sat.of_m (nt := 9) (rs := [.cell 2 33]) (n := 100000) Tryz.func124 rfl rfl rfl rfl (by simp) (S ?_)
   obtain ⟨v7, hv7, h⟩ := run_bind h
   refine CallH.mk [false] (ih.2 _ _ hv7) SC (S ?_)
   refine And.intro (DrawH.ak [] [112]) (S ?_)
   cases run_some h
   exact FinH.l SC
  ·obtain ⟨h, cs⟩ := Run.of0 h
   rw [impl_copyTermsN] at h
   refine Sat.of_m (nt := 26) (rs := [.tmp 2]) (n := 100000) Tryz.func150 rfl rfl rfl rfl (by simp) (S ?_)
   refine CondH.run cs h (fun cs h => S ?_) (fun cs h => S ?_)
   ·cases run_some h
    exact FinH.l SC
   ·obtain ⟨n11, hn11, h⟩ := run_bind h
    refine MknH.mk hn11 (S ?_)
    refine Mg.know_sl (b := false) (sz := 2) (es := a0.map (Term.pv false)) 0 SC fun hl0 => ?_; rw [List.length_map] at hl0
    replace h := run_loop h
    refine Mg.forN h (fun i5 s5 => [(3, .val (.own 176)), (12, .val (.pv (.sl false 2 (a0.map (Term.pv false))))), (13, .val (.pv (I (a0.length : Int)))), (14, .val (.pv (I (i5 : Int))))]) (fun i5 s5 => [(176, (2, s5.map (Term.pv true)))]) (St.le_mk2 SC) (fun i5 s5 hi h => ?_) (fun s5 h => ?_)
    ·have w := wrap_succ (i := i5) (by omega)
     refine S ?_
     refine CondH.t2 cs (by omega) (fun cs => S ?_)
     obtain ⟨v17, hv17, h⟩ := run_bind h
     refine IdxH.mk (f := (Term.pv false)) hv17 SC (S ?_)
     obtain ⟨v22, hv22, h⟩ := run_bind h
     refine CallH.mk [false] (ih.1 _ _ hv22) SC (S ?_)
     obtain ⟨v23, hv23, h⟩ := run_bind h
     refine IdxH.mk (f := (Term.pv true)) hv23 SC (S ?_)
     obtain ⟨w3, hw3, h⟩ := run_bind h
     refine EldH.mk (f := (Term.pv true)) hw3 rfl SC (S ?_)
     have h := run_some h
     refine RdH.mk ⟨_, h, ?_⟩
     exact St.le_mk2 SW
    ·refine S ?_
     refine CondH.f2 cs (by omega) (fun cs => S ?_)
     cases run_some h
     exact FinH.l SC
theorem impl_copyTerm_sat {a0 : Term} {r : Term} (h : impl_copyTerm a0 = some r) : Sat Tryz.prog 124 [((Term.pv false) a0)] ((Term.pv true) r) := by
 obtain ⟨n, hn⟩ := lim_some h
 exact (impl_copyTermN_sat n).1 _ _ hn
theorem impl_copyTerms_sat {a0 : List Term} {r : List Term} (h : impl_copyTerms a0 = some r) : Sat Tryz.prog 150 [(.sl false 2 (a0.map (Term.pv false)))] (.sl true 2 (r.map (Term.pv true))) := by
 obtain ⟨n, hn⟩ := lim_some h
 exact (impl_copyTermN_sat n).2 _ _ hn

set_option maxHeartbeats 4000000 in
theorem impl_mapParts_sat {a0 : Formula} {a1 : Formula → Option Formula} {a1_id : FuncId} {a1_cs : List PV} (a1_ok : ∀ y0 r, a1 y0 = some r → Sat Tryz.prog a1_id (((Formula.pv false) y0) :: a1_cs) ((Formula.pv true) r)) (a1_cz : CapsOk a1_cs = True) {r : Formula} (h : impl_mapParts a0 a1 = some r) : Sat Tryz.prog 82 [((Formula.pv false) a0), .clo a1_id a1_cs] ((Formula.pv true) r) := by
 obtain ⟨h, cs⟩ := Run.of0 h
 unfold impl_mapParts at h
 have cs := And.intro a1_cz cs
 refine Sat.of_m (nt := 33) (rs := [.cell 4 36]) (n := 100000) Tryz.func82 rfl rfl rfl rfl (by simp) (S ?_)
 obtain ⟨v12, hv12, h⟩ := run_bind h
 refine CallH.mk [false] (impl_copyTerm_sat hv12) SC (S ?_)
 refine And.intro (DrawH.ak [5] [192]) (S ?_)
 refine Mg.know_sl (b := false) (sz := 5) (es := a0.Parts.map (Formula.pv false)) 17 SC fun hl17 => ?_; rw [List.length_map] at hl17
 replace h := run_loop h
 refine Mg.forN h (fun i3 s3 => [(1, .val (.pv (.clo a1_id a1_cs))), (4, .box (.node [(.pv (I (0 : Int))), (.node [(.pv (Sx (⟨#[]⟩ : ByteArray))), (.pv (.sl true 2 []))]), (.pv (Sx (⟨#[]⟩ : ByteArray))), (.pv (.sl true 5 []))])), (5, .box (.node [(.pv (I a0.Op)), (.node [(.pv (Sx v12.Name)), (.own 192)]), (.pv (Sx a0.Var)), (.own 9309)])), (17, .val (.pv (.sl false 5 (a0.Parts.map (Formula.pv false))))), (18, .val (.pv (I (a0.Parts.length : Int)))), (19, .val (.pv (I (i3 : Int))))]) (fun i3 s3 => [(192, (2, v12.Args.map (Term.pv true))), (9309, (5, s3.map (Formula.pv true)))]) (St.le_trans (St.le_nilB (x := (.node [(.pv (I a0.Op)), (.node [(.pv (Sx v12.Name)), (.own 192)]), (.pv (Sx a0.Var)), (.pv (.sl true 5 []))])) 5 [3] 9309 5 NM SC SC SC) (St.le_mk2 SC)) (fun i3 s3 hi h => ?_) (fun s3 h => ?_)
 ·have w := wrap_succ (i := i3) (by omega)
  refine S ?_
  refine CondH.t2 cs (by omega) (fun cs => S ?_)
  obtain ⟨v21, hv21, h⟩ := run_bind h
  refine IdxH.mk (f := (Formula.pv false)) hv21 SC (S ?_)
  obtain ⟨v27, hv27, h⟩ := run_bind h
  refine CallH.mk [false] (a1_ok _ _ hv27) SC (S ?_)
  obtain ⟨v29, hv29, h⟩ := run_bind h
  refine AppH.mk (f := (Formula.pv true)) (fun a => Formula.psize _ a) hv29 SC SC (S ?_)
  refine And.intro (DrawH.ak [] [432, 433, 448, 464]) (S ?_)
  have h := run_some h
  refine RdH.mk ⟨_, h, ?_⟩
  refine St.le_trans (St.le_mk (S := [(1, .val (.pv (.clo a1_id a1_cs))), (4, .box (.node [(.pv (I (0 : Int))), (.node [(.pv (Sx (⟨#[]⟩ : ByteArray))), (.pv (.sl true 2 []))]), (.pv (Sx (⟨#[]⟩ : ByteArray))), (.pv (.sl true 5 []))])), (5, .box (.node [(.pv (I a0.Op)), (.node [(.pv (Sx v12.Name)), (.own 192)]), (.pv (Sx a0.Var)), (.own 464)])), (17, .val (.pv (.sl false 5 (a0.Parts.map (Formula.pv false))))), (18, .val (.pv (I (a0.Parts.length : Int)))), (19, .val (.pv (I (IntKind.i64.wrap ((i3 : Int) + (1 : Int))))))]) (O := [(192, (2, v12.Args.map (Term.pv true))), (464, (5, v29.map (Formula.pv true)))]) SW SW) ?_
  refine St.le_rn 464 9309 (by decide) NM ?_
  exact St.le_mk2 SW
 ·refine S ?_
  refine CondH.f2 cs (by omega) (fun cs => S ?_)
  cases run_some h
  exact FinH.l SC

set_option maxHeartbeats 4000000 in
theorem impl_copyFormulaN_sat (n : Nat) : (∀ (a0 : Formula) (r : Formula), impl_copyFormulaN n a0 = some r → Sat Tryz.prog 47 [((Formula.pv false) a0)] ((Formula.pv true) r)) := by
 induction n with
 | zero => exact fun _ _ h => by simp [impl_copyFormulaN] at h
 | succ n ih =>
  refine fun a0 r h => ?_
  obtain ⟨h, cs⟩ := Run.of0 h
  rw [impl_copyFormulaN] at h
  refine Sat.of_m (nt := 5) (rs := [.cell 2 36]) (n := 100000) Tryz.func47 rfl rfl rfl rfl (by simp) (S ?_)
  obtain ⟨v4, hv4, h⟩ := run_bind h
  refine CallH.mk [false, false] (impl_mapParts_sat (fun _ _ hh => ih _ _ hh) (by simp only [CapsOk_nil, CapsOk_cons]) hv4) SC (S ?_)
  cases run_some h
  exact FinH.l SC
theorem impl_copyFormula_sat {a0 : Formula} {r : Formula} (h : impl_copyFormula a0 = some r) : Sat Tryz.prog 47 [((Formula.pv false) a0)] ((Formula.pv true) r) := by
 obtain ⟨n, hn⟩ := lim_some h
 exact (impl_copyFormulaN_sat n) _ _ hn

set_option maxHeartbeats 4000000 in
theorem impl_countNameN_sat (n : Nat) : (∀ (a0 : Term) (a1 : ByteArray) (r : Int), impl_countNameN n a0 a1 = some r → Sat Tryz.prog 148 [((Term.pv false) a0), (Sx a1)] (I r)) := by
 induction n with
 | zero => exact fun _ _ _ h => by simp [impl_countNameN] at h
 | succ n ih =>
  refine fun a0 a1 r h => ?_
  obtain ⟨h, cs⟩ := Run.of0 h
  rw [impl_countNameN] at h
  refine Sat.of_m (nt := 26) (rs := [.tmp 4]) (n := 100000) Tryz.func148 rfl rfl rfl rfl (by simp) (S ?_)
  refine CondH.run cs h (fun cs h => S ?_) (fun cs h => S ?_)
  ·refine Mg.know_sl (b := false) (sz := 2) (es := a0.Args.map (Term.pv false)) 13 SC fun hl13 => ?_; rw [List.length_map] at hl13
   replace h := run_loop h
   refine Mg.forN h (fun i5 s5 => [(1, .val (.pv (Sx a1))), (5, .val (.pv (I s5))), (13, .val (.pv (.sl false 2 (a0.Args.map (Term.pv false))))), (14, .val (.pv (I (a0.Args.length : Int)))), (15, .val (.pv (I (i5 : Int))))]) (fun i5 s5 => []) (St.le_mk2 SC) (fun i5 s5 hi h => ?_) (fun s5 h => ?_)
   ·have w := wrap_succ (i := i5) (by omega)
    refine S ?_
    refine CondH.t2 cs (by omega) (fun cs => S ?_)
    obtain ⟨v17, hv17, h⟩ := run_bind h
    refine IdxH.mk (f := (Term.pv false)) hv17 SC (S ?_)
    obtain ⟨v22, hv22, h⟩ := run_bind h
    refine CallH.mk [false, false] (ih _ _ _ hv22) SC (S ?_)
    have h := run_some h
    refine RdH.mk ⟨_, h, ?_⟩
    exact St.le_mk2 SW
   ·refine S ?_
    refine CondH.f2 cs (by omega) (fun cs => S ?_)
    cases run_some h
    exact FinH.l SC
  ·refine Mg.know_sl (b := false) (sz := 2) (es := a0.Args.map (Term.pv false)) 13 SC fun hl13 => ?_; rw [List.length_map] at hl13
   replace h := run_loop h
   refine Mg.forN h (fun i5 s5 => [(1, .val (.pv (Sx a1))), (5, .val (.pv (I s5))), (13, .val (.pv (.sl false 2 (a0.Args.map (Term.pv false))))), (14, .val (.pv (I (a0.Args.length : Int)))), (15, .val (.pv (I (i5 : Int))))]) (fun i5 s5 => []) (St.le_mk2 SC) (fun i5 s5 hi h => ?_) (fun s5 h => ?_)
   ·have w := wrap_succ (i := i5) (by omega)
    refine S ?_
    refine CondH.t2 cs (by omega) (fun cs => S ?_)
    obtain ⟨v17, hv17, h⟩ := run_bind h
    refine IdxH.mk (f := (Term.pv false)) hv17 SC (S ?_)
    obtain ⟨v22, hv22, h⟩ := run_bind h
    refine CallH.mk [false, false] (ih _ _ _ hv22) SC (S ?_)
    have h := run_some h
    refine RdH.mk ⟨_, h, ?_⟩
    exact St.le_mk2 SW
   ·refine S ?_
    refine CondH.f2 cs (by omega) (fun cs => S ?_)
    cases run_some h
    exact FinH.l SC
theorem impl_countName_sat {a0 : Term} {a1 : ByteArray} {r : Int} (h : impl_countName a0 a1 = some r) : Sat Tryz.prog 148 [((Term.pv false) a0), (Sx a1)] (I r) := by
 obtain ⟨n, hn⟩ := lim_some h
 exact (impl_countNameN_sat n) _ _ _ hn

set_option maxHeartbeats 4000000 in
theorem impl_occurs_sat {a0 : ByteArray} {a1 : Term}  {r : Bool} (h : impl_occurs a0 a1 = some r) : Sat Tryz.prog 121 [(Sx a0), ((Term.pv false) a1)] (B r) := by
 obtain ⟨h, cs⟩ := Run.of0 h
 unfold impl_occurs at h
 refine Sat.of_m (nt := 9) (rs := [.tmp 4]) (n := 100000) Tryz.func121 rfl rfl rfl rfl (by simp) (S ?_)
 obtain ⟨v7, hv7, h⟩ := run_bind h
 refine CallH.mk [false, false] (impl_countName_sat hv7) SC (S ?_)
 cases run_some h
 exact FinH.l SC

set_option maxHeartbeats 4000000 in
theorem cmp_isNaN_string_sat {a0 : ByteArray}  {r : Bool} (h : cmp_isNaN_string a0 = some r) : Sat Tryz.prog 181 [(Sx a0)] (B r) := by
 obtain ⟨h, cs⟩ := Run.of0 h
 unfold cmp_isNaN_string at h
 refine Sat.of_m (nt := 6) (rs := [.tmp 2]) (n := 100000) Tryz.func181 rfl rfl rfl rfl (by simp) (S ?_)
 cases run_some h
 exact FinH.l SC

set_option maxHeartbeats 4000000 in
theorem cmp_Compare_string_sat {a0 : ByteArray} {a1 : ByteArray}  {r : Int} (h : cmp_Compare_string a0 a1 = some r) : Sat Tryz.prog 166 [(Sx a0), (Sx a1)] (I r) := by
 obtain ⟨h, cs⟩ := Run.of0 h
 unfold cmp_Compare_string at h
 refine Sat.of_m (nt := 20) (rs := [.tmp 4]) (n := 100000) Tryz.func166 rfl rfl rfl rfl (by simp) (S ?_)
 obtain ⟨v8, hv8, h⟩ := run_bind h
 refine CallH.mk [false] (cmp_isNaN_string_sat hv8) SC (S ?_)
 obtain ⟨v10, hv10, h⟩ := run_bind h
 refine CallH.mk [false] (cmp_isNaN_string_sat hv10) SC (S ?_)
 refine CondH.run cs h (fun cs h => S ?_) (fun cs h => S ?_)
 ·refine CondH.run cs h (fun cs h => S ?_) (fun cs h => S ?_)
  ·cases run_some h
   exact FinH.l SC
  ·cases run_some h
   exact FinH.l SC
 ·refine CondH.run cs h (fun cs h => S ?_) (fun cs h => S ?_)
  ·cases run_some h
   exact FinH.l SC
  ·refine CondH.run cs h (fun cs h => S ?_) (fun cs h => S ?_)
   ·cases run_some h
    exact FinH.l SC
   ·refine CondH.run cs h (fun cs h => S ?_) (fun cs h => S ?_)
    ·cases run_some h
     exact FinH.l SC
    ·cases run_some h
     exact FinH.l SC

set_option maxHeartbeats 4000000 in
theorem impl_Substitution__term_1_sat {a0 : Binding} {a1 : ByteArray}  {r : Int} (h : impl_Substitution__term_1 a0 a1 = some r) : Sat Tryz.prog 174 [((Binding.pv false) a0), (Sx a1)] (I r) := by
 obtain ⟨h, cs⟩ := Run.of0 h
 unfold impl_Substitution__term_1 at h
 refine Sat.of_m (nt := 9) (rs := [.tmp 4]) (n := 100000) Tryz.func174 rfl rfl rfl rfl (by simp) (S ?_)
 obtain ⟨v8, hv8, h⟩ := run_bind h
 refine CallH.mk [false, false] (cmp_Compare_string_sat hv8) SC (S ?_)
 cases run_some h
 exact FinH.l SC

set_option maxHeartbeats 4000000 in
theorem slices_BinarySearchFunc_Simpl_Binding_impl_Binding_string_sat {a0 : List Binding} {a1 : ByteArray} {a2 : Binding → ByteArray → Option Int} {a2_id : FuncId} {a2_cs : List PV} (a2_ok : ∀ y0 y1 r, a2 y0 y1 = some r → Sat Tryz.prog a2_id (((Binding.pv false) y0) :: (Sx y1) :: a2_cs) (I r)) (a2_cz : CapsOk a2_cs = True) {r : Int × Bool} (h : slices_BinarySearchFunc_Simpl_Binding_impl_Binding_string a0 a1 a2 = some r) : Sat Tryz.prog 173 [(.sl false 3 (a0.map (Binding.pv false))), (Sx a1), .clo a2_id a2_cs] (.tup [(I r.1), (B r.2)]) := by
 obtain ⟨h, cs⟩ := Run.of0 h
 unfold slices_BinarySearchFunc_Simpl_Binding_impl_Binding_string at h
 have cs := And.intro a2_cz cs
 refine Sat.of_m (nt := 49) (rs := [.tmp 6, .tmp 7]) (n := 100000) Tryz.func173 rfl rfl rfl rfl (by simp) (S ?_)
 replace h := run_loop h
 refine Mg.whileN h (fun s3 => [(0, .val (.pv (.sl false 3 (a0.map (Binding.pv false))))), (1, .val (.pv (Sx a1))), (2, .val (.pv (.clo a2_id a2_cs))), (8, .val (.pv (I (a0.length : Int)))), (9, .val (.pv (I s3.1))), (10, .val (.pv (I s3.2)))]) (fun s3 => []) (St.le_mk2 SC) (fun n3 s3 h => ?_)
 refine S ?_
 refine CondH.run cs h (fun cs h => S ?_) (fun cs h => S ?_)
 ·obtain ⟨v22, hv22, h⟩ := run_bind h
  refine ShrH.mk hv22 (S ?_)
  obtain ⟨v27, hv27, h⟩ := run_bind h
  refine IdxH.mk (f := (Binding.pv false)) hv27 SC (S ?_)
  obtain ⟨v30, hv30, h⟩ := run_bind h
  refine CallH.mk [false, false] (a2_ok _ _ _ hv30) SC (S ?_)
  refine CondH.run cs h (fun cs h => S ?_) (fun cs h => S ?_)
  ·have h := run_some h
   refine RdH.mk ⟨_, h, ?_⟩
   exact St.le_mk2 SC
  ·have h := run_some h
   refine RdH.mk ⟨_, h, ?_⟩
   exact St.le_mk2 SC
 ·have h := run_some h
  refine CondH.run cs h (fun cs h => S ?_) (fun cs h => S ?_)
  ·obtain ⟨v43, hv43, h⟩ := run_bind h
   refine IdxH.mk (f := (Binding.pv false)) hv43 SC (S ?_)
   obtain ⟨v46, hv46, h⟩ := run_bind h
   refine CallH.mk [false, false] (a2_ok _ _ _ hv46) SC (S ?_)
   cases run_some h
   exact FinH.l SC
  ·cases run_some h
   exact FinH.l SC

set_option maxHeartbeats 4000000 in
theorem impl_Substitution__term_sat {a0 : Substitution} {a1 : ByteArray}  {r : Term × Bool} (h : impl_Substitution__term a0 a1 = some r) : Sat Tryz.prog 149 [((Substitution.pv false) a0), (Sx a1)] (.tup [((Term.pv false) r.1), (B r.2)]) := by
 obtain ⟨h, cs⟩ := Run.of0 h
 unfold impl_Substitution__term at h
 refine Sat.of_m (nt := 24) (rs := [.cell 4 33, .tmp 5]) (n := 100000) Tryz.func149 rfl rfl rfl rfl (by simp) (S ?_)
 obtain ⟨v12, hv12, h⟩ := run_bind h
 refine CallH.mk [false, false, false] (slices_BinarySearchFunc_Simpl_Binding_impl_Binding_string_sat (fun _ _ _ hh => impl_Substitution__term_1_sat hh) (by simp only [CapsOk_nil, CapsOk_cons]) hv12) SC (S ?_)
 refine CondH.run cs h (fun cs h => S ?_) (fun cs h => S ?_)
 ·obtain ⟨v21, hv21, h⟩ := run_bind h
  refine IdxH.mk (f := (Binding.pv false)) hv21 SC (S ?_)
  cases run_some h
  exact FinH.r SC
 ·cases run_some h
  exact FinH.r SC

set_option maxHeartbeats 4000000 in
theorem impl_Substitution__applyN_sat (n : Nat) : (∀ (a0 : Substitution) (a1 : Term) (r : Term), impl_Substitution__applyN n a0 a1 = some r → Sat Tryz.prog 123 [((Substitution.pv false) a0), ((Term.pv false) a1)] ((Term.pv true) r)) := by
 induction n with
 | zero => exact fun _ _ _ h => by simp [impl_Substitution__applyN] at h
 | succ n ih =>
  refine fun a0 a1 r h => ?_
  obtain ⟨h, cs⟩ := Run.of0 h
  rw [impl_Substitution__applyN] at h
  refine Sat.of_m (nt := 51) (rs := [.cell 4 33]) (n := 100000) Tryz.func123 rfl rfl rfl rfl (by simp) (S ?_)
  refine CondH.run cs h (fun cs h => S ?_) (fun cs h => S ?_)
  ·obtain ⟨v18, hv18, h⟩ := run_bind h
   refine CallH.mk [false, false] (impl_Substitution__term_sat hv18) SC (S ?_)
   refine CondH.run cs h (fun cs h => S ?_) (fun cs h => S ?_)
   ·obtain ⟨v23, hv23, h⟩ := run_bind h
    refine CallH.mk [false] (impl_copyTerm_sat hv23) SC (S ?_)
    cases run_some h
    exact FinH.l SC
   ·cases run_some h
    exact FinH.l SC
  ·obtain ⟨n32, hn32, h⟩ := run_bind h
   refine MknH.mk hn32 (S ?_)
   refine And.intro (DrawH.ak [7] [512]) (S ?_)
   refine Mg.know_sl (b := false) (sz := 2) (es := a1.Args.map (Term.pv false)) 11 SC fun hl11 => ?_; rw [List.length_map] at hl11
   replace h := run_loop h
   refine Mg.forN h (fun i8 s8 => [(2, .box (.pv ((Substitution.pv false) a0))), (4, .box (.node [(.pv (Sx (⟨#[]⟩ : ByteArray))), (.pv (.sl true 2 []))])), (7, .box (.node [(.pv (Sx a1.Name)), (.own 512)])), (35, .val (.pv (.sl false 2 (a1.Args.map (Term.pv false))))), (36, .val (.pv (I (a1.Args.length : Int)))), (37, .val (.pv (I (i8 : Int))))]) (fun i8 s8 => [(512, (2, s8.map (Term.pv true)))]) (St.le_mk2 SC) (fun i8 s8 hi h => ?_) (fun s8 h => ?_)
   ·have w := wrap_succ (i := i8) (by omega)
    refine S ?_
    refine CondH.t2 cs (by omega) (fun cs => S ?_)
    obtain ⟨v40, hv40, h⟩ := run_bind h
    refine IdxH.mk (f := (Term.pv false)) hv40 SC (S ?_)
    obtain ⟨v47, hv47, h⟩ := run_bind h
    refine CallH.mk [false, false] (ih _ _ _ hv47) SC (S ?_)
    obtain ⟨v48, hv48, h⟩ := run_bind h
    refine IdxH.mk (f := (Term.pv true)) hv48 SC (S ?_)
    obtain ⟨w4, hw4, h⟩ := run_bind h
    refine EldH.mk (f := (Term.pv true)) hw4 rfl SC (S ?_)
    refine And.intro (DrawH.ak [] [752]) (S ?_)
    have h := run_some h
    refine RdH.mk ⟨_, h, ?_⟩
    exact St.le_mk2 SW
   ·refine S ?_
    refine CondH.f2 cs (by omega) (fun cs => S ?_)
    cases run_some h
    exact FinH.l SC
theorem impl_Substitution__apply_sat {a0 : Substitution} {a1 : Term} {r : Term} (h : impl_Substitution__apply a0 a1 = some r) : Sat Tryz.prog 123 [((Substitution.pv false) a0), ((Term.pv false) a1)] ((Term.pv true) r) := by
 obtain ⟨n, hn⟩ := lim_some h
 exact (impl_Substitution__applyN_sat n) _ _ _ hn

set_option maxHeartbeats 4000000 in
theorem impl_mapParts_fh1Bool_sat {a0 : Formula} {a1 : Formula → Bool → Option (Formula × Bool)} {a1_s : Bool} {a1_id : FuncId} {a1_pat : List Bool} {a1_ps a1_p1 a1_p2 : List PV} (a1_ok : ∀ y0 s r, a1 y0 s = some r → SatH Tryz.prog a1_id (((Formula.pv false) y0) :: a1_p1) a1_p2 .ptr [] (.pv (B s)) (.pv (B r.2)) ((Formula.pv true) r.1)) (a1_sp : splitPat a1_pat a1_ps = some (a1_p1, a1_p2)) (a1_cz : CapsOk a1_ps) {r : Formula × Bool} (h : impl_mapParts_fh1Bool a0 a1 a1_s = some r) : SatH Tryz.prog 82 [((Formula.pv false) a0)] [] (.clo a1_id a1_pat) a1_ps (.pv (B a1_s)) (.pv (B r.2)) ((Formula.pv true) r.1) := by
 obtain ⟨h, cs⟩ := Run.of0 h
 unfold impl_mapParts_fh1Bool at h
 refine SatH.of_k (nt := 33) (rs := [.cell 4 36]) (n := 100000) 1 Tryz.func82 rfl rfl rfl rfl rfl (Nat.le_of_ble_eq_true rfl) (by decide) (by first | exact Nat.le_of_ble_eq_true rfl | exact SC) (S ?_)
 obtain ⟨v12, hv12, h⟩ := run_bind h
 refine CallH.mk [false] (impl_copyTerm_sat hv12) SC (S ?_)
 refine And.intro (DrawH.ak [5] [192]) (S ?_)
 refine Mg.know_sl (b := false) (sz := 5) (es := a0.Parts.map (Formula.pv false)) 17 SC fun hl17 => ?_; rw [List.length_map] at hl17
 replace h := run_loop h
 refine Mg.forN h (fun i3 s3 => [(1, .hold (.clo a1_id a1_pat) a1_ps (.cv (.pv (B s3.1)))), (4, .box (.node [(.pv (I (0 : Int))), (.node [(.pv (Sx (⟨#[]⟩ : ByteArray))), (.pv (.sl true 2 []))]), (.pv (Sx (⟨#[]⟩ : ByteArray))), (.pv (.sl true 5 []))])), (5, .box (.node [(.pv (I a0.Op)), (.node [(.pv (Sx v12.Name)), (.own 192)]), (.pv (Sx a0.Var)), (.own 9309)])), (17, .val (.pv (.sl false 5 (a0.Parts.map (Formula.pv false))))), (18, .val (.pv (I (a0.Parts.length : Int)))), (19, .val (.pv (I (i3 : Int)))), (20000, gh 1)]) (fun i3 s3 => [(192, (2, v12.Args.map (Term.pv true))), (9309, (5, s3.2.map (Formula.pv true)))]) (St.le_trans (St.le_nilB (x := (.node [(.pv (I a0.Op)), (.node [(.pv (Sx v12.Name)), (.own 192)]), (.pv (Sx a0.Var)), (.pv (.sl true 5 []))])) 5 [3] 9309 5 NM SC SC SC) (St.le_mk2 SC)) (fun i3 s3 hi h => ?_) (fun s3 h => ?_)
 ·have w := wrap_succ (i := i3) (by omega)
  refine S ?_
  refine CondH.t2 cs (by omega) (fun cs => S ?_)
  obtain ⟨v21, hv21, h⟩ := run_bind h
  refine IdxH.mk (f := (Formula.pv false)) hv21 SC (S ?_)
  obtain ⟨v27, hv27, h⟩ := run_bind h
  refine HandH.callC (r := 1) (hc := .cv (.pv (B s3.1))) (pre := [((Formula.pv false) v21)]) a1_pat a1_ps a1_p1 a1_p2 [(.pv ((Formula.pv false) v21))] [false] (a1_ok _ _ _ hv27) a1_sp a1_cz SC (S ?_)
  obtain ⟨v29, hv29, h⟩ := run_bind h
  refine AppH.mk (f := (Formula.pv true)) (fun a => Formula.psize _ a) hv29 SC SC (S ?_)
  refine And.intro (DrawH.ak [] [432, 433, 448, 464]) (S ?_)
  have h := run_some h
  refine RdH.mk ⟨_, h, ?_⟩
  refine St.le_trans (St.le_mk (S := [(1, .hold (.clo a1_id a1_pat) a1_ps (.cv (.pv (B v27.2)))), (4, .box (.node [(.pv (I (0 : Int))), (.node [(.pv (Sx (⟨#[]⟩ : ByteArray))), (.pv (.sl true 2 []))]), (.pv (Sx (⟨#[]⟩ : ByteArray))), (.pv (.sl true 5 []))])), (5, .box (.node [(.pv (I a0.Op)), (.node [(.pv (Sx v12.Name)), (.own 192)]), (.pv (Sx a0.Var)), (.own 464)])), (17, .val (.pv (.sl false 5 (a0.Parts.map (Formula.pv false))))), (18, .val (.pv (I (a0.Parts.length : Int)))), (19, .val (.pv (I (IntKind.i64.wrap ((i3 : Int) + (1 : Int)))))), (20000, gh 1)]) (O := [(192, (2, v12.Args.map (Term.pv true))), (464, (5, v29.map (Formula.pv true)))]) SW SW) ?_
  refine St.le_rn 464 9309 (by decide) NM ?_
  exact St.le_mk2 SW
 ·refine S ?_
  refine CondH.f2 cs (by omega) (fun cs => S ?_)
  cases run_some h
  exact RetHB.l SC

set_option maxHeartbeats 4000000 in
theorem impl_substitutedN_sat (n : Nat) : (∀ (a0 : Formula) (a1 : ByteArray) (a2 : Term) (r : Formula × Bool), impl_substitutedN n a0 a1 a2 = some r → Sat Tryz.prog 81 [((Formula.pv false) a0), (Sx a1), ((Term.pv false) a2)] (.tup [((Formula.pv true) r.1), (B r.2)])) ∧ (∀ (a0 : Formula) (b0 : ByteArray) (b1 : Term) (b2 : Bool) (r : Formula × Bool), impl_substituted_1N n a0 b0 b1 b2 = some r → SatH Tryz.prog 122 [((Formula.pv false) a0), .ptr (Sx b0), .ptr ((Term.pv false) b1)] [] .ptr [] (.pv (B b2)) (.pv (B r.2)) ((Formula.pv true) r.1)) := by
 induction n with
 | zero => exact ⟨fun _ _ _ _ h => by simp [impl_substitutedN] at h, fun _ _ _ _ _ h => by simp [impl_substituted_1N] at h⟩
 | succ n ih =>
  refine ⟨fun a0 a1 a2 r h => ?_, fun a0 b0 b1 b2 r h => ?_⟩
  ·obtain ⟨h, cs⟩ := Run.of0 h
   rw [impl_substitutedN] at h
   refine Sat.of_m (nt := 55) (rs := [.cell 6 36, .tmp 7]) (n := 100000) Tryz.func81 rfl rfl rfl rfl (by simp) (S ?_)
   obtain ⟨v12, hv12, h⟩ := run_bind h
   refine CallH.mk [false] (impl_isQuantifier_sat hv12) SC (S ?_)
   refine CondH.run cs h (fun cs h => S ?_) (fun cs h => S ?_)
   ·refine CondH.run cs h (fun cs h => S ?_) (fun cs h => S ?_)
    ·refine And.intro (DrawH.ak [] []) (S ?_)
     obtain ⟨v27, hv27, h⟩ := run_bind h
     refine CallH.mk [false] (impl_copyFormula_sat hv27) SC (S ?_)
     cases run_some h
     exact FinH.l SC
    ·obtain ⟨v20, hv20, h⟩ := run_bind h
     refine CallH.mk [false] (impl_free_sat hv20) SC (S ?_)
     obtain ⟨v22, hv22, h⟩ := run_bind h
     refine CallH.mk [false, false] (slices_Contains_Sstring_string_sat hv22) SC (S ?_)
     refine And.intro (DrawH.ak [] [320]) (S ?_)
     refine CondH.run cs h (fun cs h => S ?_) (fun cs h => S ?_)
     ·obtain ⟨v30, hv30, h⟩ := run_bind h
      refine CallH.mk [false] (impl_isQuantifier_sat hv30) SC (S ?_)
      refine CondH.run cs h (fun cs h => S ?_) (fun cs h => S ?_)
      ·obtain ⟨v35, hv35, h⟩ := run_bind h
       refine CallH.mk [false, false] (impl_occurs_sat hv35) SC (S ?_)
       refine CondH.run cs h (fun cs h => S ?_) (fun cs h => S ?_)
       ·cases run_some h
        exact FinH.l SC
       ·refine MfH.hcl (r := 8) (x := (.pv (B true))) [.tmp 4, .tmp 5] [] [(4, (Sx a1)), (5, ((Term.pv false) a2))] [false, false, true] [(.ptr (Sx a1)), (.ptr ((Term.pv false) a2))] rfl rfl rfl SC (S ?_)
        obtain ⟨v40, hv40, h⟩ := run_bind h
        refine HandH.call (r := 8) (hc := .cv (.pv (B true))) 1 [_] [] [(.pv ((Formula.pv false) a0))] [] [false] (impl_mapParts_fh1Bool_sat (a1_id := 122) (a1_pat := [false, false, true]) (a1_ps := [(.ptr (Sx a1)), (.ptr ((Term.pv false) a2))]) (a1_p1 := [(.ptr (Sx a1)), (.ptr ((Term.pv false) a2))]) (a1_p2 := []) (a1_ok := fun _ _ _ hh => ih.2 _ _ _ _ _ hh) (a1_sp := rfl) (a1_cz := by simp only [CapsOk_nil, CapsOk_cons]) hv40) rfl rfl rfl SC (S ?_)
        refine CondH.run cs h (fun cs h => S ?_) (fun cs h => S ?_)
        ·obtain ⟨v51, hv51, h⟩ := run_bind h
         refine CallH.mk [false, false] (impl_Substitution__apply_sat hv51) SC (S ?_)
         refine And.intro (DrawH.ak [] []) (S ?_)
         cases run_some h
         exact FinH.l SC
        ·refine And.intro (DrawH.ak [] []) (S ?_)
         cases run_some h
         exact FinH.l SC
      ·refine MfH.hcl (r := 8) (x := (.pv (B true))) [.tmp 4, .tmp 5] [] [(4, (Sx a1)), (5, ((Term.pv false) a2))] [false, false, true] [(.ptr (Sx a1)), (.ptr ((Term.pv false) a2))] rfl rfl rfl SC (S ?_)
       obtain ⟨v40, hv40, h⟩ := run_bind h
       refine HandH.call (r := 8) (hc := .cv (.pv (B true))) 1 [_] [] [(.pv ((Formula.pv false) a0))] [] [false] (impl_mapParts_fh1Bool_sat (a1_id := 122) (a1_pat := [false, false, true]) (a1_ps := [(.ptr (Sx a1)), (.ptr ((Term.pv false) a2))]) (a1_p1 := [(.ptr (Sx a1)), (.ptr ((Term.pv false) a2))]) (a1_p2 := []) (a1_ok := fun _ _ _ hh => ih.2 _ _ _ _ _ hh) (a1_sp := rfl) (a1_cz := by simp only [CapsOk_nil, CapsOk_cons]) hv40) rfl rfl rfl SC (S ?_)
       refine CondH.run cs h (fun cs h => S ?_) (fun cs h => S ?_)
       ·obtain ⟨v51, hv51, h⟩ := run_bind h
        refine CallH.mk [false, false] (impl_Substitution__apply_sat hv51) SC (S ?_)
        refine And.intro (DrawH.ak [] []) (S ?_)
        cases run_some h
        exact FinH.l SC
       ·refine And.intro (DrawH.ak [] []) (S ?_)
        cases run_some h
        exact FinH.l SC
     ·obtain ⟨v27, hv27, h⟩ := run_bind h
      refine CallH.mk [false] (impl_copyFormula_sat hv27) SC (S ?_)
      cases run_some h
      exact FinH.l SC
   ·refine And.intro (DrawH.ak [] []) (S ?_)
    obtain ⟨v30, hv30, h⟩ := run_bind h
    refine CallH.mk [false] (impl_isQuantifier_sat hv30) SC (S ?_)
    refine CondH.run cs h (fun cs h => S ?_) (fun cs h => S ?_)
    ·obtain ⟨v35, hv35, h⟩ := run_bind h
     refine CallH.mk [false, false] (impl_occurs_sat hv35) SC (S ?_)
     refine CondH.run cs h (fun cs h => S ?_) (fun cs h => S ?_)
     ·cases run_some h
      exact FinH.l SC
     ·refine MfH.hcl (r := 8) (x := (.pv (B true))) [.tmp 4, .tmp 5] [] [(4, (Sx a1)), (5, ((Term.pv false) a2))] [false, false, true] [(.ptr (Sx a1)), (.ptr ((Term.pv false) a2))] rfl rfl rfl SC (S ?_)
      obtain ⟨v40, hv40, h⟩ := run_bind h
      refine HandH.call (r := 8) (hc := .cv (.pv (B true))) 1 [_] [] [(.pv ((Formula.pv false) a0))] [] [false] (impl_mapParts_fh1Bool_sat (a1_id := 122) (a1_pat := [false, false, true]) (a1_ps := [(.ptr (Sx a1)), (.ptr ((Term.pv false) a2))]) (a1_p1 := [(.ptr (Sx a1)), (.ptr ((Term.pv false) a2))]) (a1_p2 := []) (a1_ok := fun _ _ _ hh => ih.2 _ _ _ _ _ hh) (a1_sp := rfl) (a1_cz := by simp only [CapsOk_nil, CapsOk_cons]) hv40) rfl rfl rfl SC (S ?_)
      refine CondH.run cs h (fun cs h => S ?_) (fun cs h => S ?_)
      ·obtain ⟨v51, hv51, h⟩ := run_bind h
       refine CallH.mk [false, false] (impl_Substitution__apply_sat hv51) SC (S ?_)
       refine And.intro (DrawH.ak [] []) (S ?_)
       cases run_some h
       exact FinH.l SC
      ·refine And.intro (DrawH.ak [] []) (S ?_)
       cases run_some h
       exact FinH.l SC
    ·refine MfH.hcl (r := 8) (x := (.pv (B true))) [.tmp 4, .tmp 5] [] [(4, (Sx a1)), (5, ((Term.pv false) a2))] [false, false, true] [(.ptr (Sx a1)), (.ptr ((Term.pv false) a2))] rfl rfl rfl SC (S ?_)
     obtain ⟨v40, hv40, h⟩ := run_bind h
     refine HandH.call (r := 8) (hc := .cv (.pv (B true))) 1 [_] [] [(.pv ((Formula.pv false) a0))] [] [false] (impl_mapParts_fh1Bool_sat (a1_id := 122) (a1_pat := [false, false, true]) (a1_ps := [(.ptr (Sx a1)), (.ptr ((Term.pv false) a2))]) (a1_p1 := [(.ptr (Sx a1)), (.ptr ((Term.pv false) a2))]) (a1_p2 := []) (a1_ok := fun _ _ _ hh => ih.2 _ _ _ _ _ hh) (a1_sp := rfl) (a1_cz := by simp only [CapsOk_nil, CapsOk_cons]) hv40) rfl rfl rfl SC (S ?_)
     refine CondH.run cs h (fun cs h => S ?_) (fun cs h => S ?_)
     ·obtain ⟨v51, hv51, h⟩ := run_bind h
      refine CallH.mk [false, false] (impl_Substitution__apply_sat hv51) SC (S ?_)
      refine And.intro (DrawH.ak [] []) (S ?_)
      cases run_some h
      exact FinH.l SC
     ·refine And.intro (DrawH.ak [] []) (S ?_)
      cases run_some h
      exact FinH.l SC
  ·obtain ⟨h, cs⟩ := Run.of0 h
   rw [impl_substituted_1N] at h
   refine SatH.of_k (nt := 20) (rs := [.cell 5 36]) (n := 100000) 3 Tryz.func122 rfl rfl rfl rfl rfl (Nat.le_of_ble_eq_true rfl) (by decide) (by first | exact Nat.le_of_ble_eq_true rfl | exact SC) (S ?_)
   obtain ⟨v12, hv12, h⟩ := run_bind h
   refine CallH.mk [false, false, false] (ih.1 _ _ _ _ hv12) SC (S ?_)
   refine CondH.run cs h (fun cs h => S ?_) (fun cs h => S ?_)
   ·cases run_some h
    exact RetHB.l SC
   ·cases run_some h
    exact RetHB.l SC
theorem impl_substituted_sat {a0 : Formula} {a1 : ByteArray} {a2 : Term} {r : Formula × Bool} (h : impl_substituted a0 a1 a2 = some r) : Sat Tryz.prog 81 [((Formula.pv false) a0), (Sx a1), ((Term.pv false) a2)] (.tup [((Formula.pv true) r.1), (B r.2)]) := by
 obtain ⟨n, hn⟩ := lim_some h
 exact (impl_substitutedN_sat n).1 _ _ _ _ hn
theorem impl_substituted_1_sat {a0 : Formula} {b0 : ByteArray} {b1 : Term} {b2 : Bool} {r : Formula × Bool} (h : impl_substituted_1 a0 b0 b1 b2 = some r) : SatH Tryz.prog 122 [((Formula.pv false) a0), .ptr (Sx b0), .ptr ((Term.pv false) b1)] [] .ptr [] (.pv (B b2)) (.pv (B r.2)) ((Formula.pv true) r.1) := by
 obtain ⟨n, hn⟩ := lim_some h
 exact (impl_substitutedN_sat n).2 _ _ _ _ _ hn

set_option maxHeartbeats 4000000 in
theorem impl_ifFormula_sat {a0 : Formula}  {r : Formula × Bool} (h : impl_ifFormula a0 = some r) : Sat Tryz.prog 48 [((Formula.pv false) a0)] (.tup [((Formula.pv false) r.1), (B r.2)]) := by
 obtain ⟨h, cs⟩ := Run.of0 h
 unfold impl_ifFormula at h
 refine Sat.of_m (nt := 9) (rs := [.cell 2 36, .tmp 3]) (n := 100000) Tryz.func48 rfl rfl rfl rfl (by simp) (S ?_)
 obtain ⟨v5, hv5, h⟩ := run_bind h
 refine CallH.mk [false] (impl_IsValidFormula_sat hv5) SC (S ?_)
 refine CondH.run cs h (fun cs h => S ?_) (fun cs h => S ?_)
 ·cases run_some h
  exact FinH.r SC
 ·cases run_some h
  exact FinH.r SC

set_option maxHeartbeats 4000000 in
theorem impl_ifFormula_o0_sat {a0 : Formula}  {r : Formula × Bool} (h : impl_ifFormula a0 = some r) : Sat Tryz.prog 48 [((Formula.pv true) a0)] (.tup [((Formula.pv true) r.1), (B r.2)]) := by
 obtain ⟨h, cs⟩ := Run.of0 h
 unfold impl_ifFormula at h
 refine Sat.of_m (nt := 9) (rs := [.cell 2 36, .tmp 3]) (n := 100000) Tryz.func48 rfl rfl rfl rfl (by simp) (S ?_)
 obtain ⟨v5, hv5, h⟩ := run_bind h
 refine CallH.mk [false] (impl_IsValidFormula_sat hv5) SC (S ?_)
 refine CondH.run cs h (fun cs h => S ?_) (fun cs h => S ?_)
 ·cases run_some h
  exact FinH.l SC
 ·cases run_some h
  exact FinH.l SC

set_option maxHeartbeats 4000000 in
theorem impl_SubstituteFormula_sat {a0 : Formula} {a1 : ByteArray} {a2 : Term}  {r : Formula × Bool} (h : impl_SubstituteFormula a0 a1 a2 = some r) : Sat Tryz.prog 42 [((Formula.pv false) a0), (Sx a1), ((Term.pv false) a2)] (.tup [((Formula.pv true) r.1), (B r.2)]) := by
 obtain ⟨h, cs⟩ := Run.of0 h
 unfold impl_SubstituteFormula at h
 refine Sat.of_m (nt := 38) (rs := [.cell 6 36, .tmp 7]) (n := 100000) Tryz.func42 rfl rfl rfl rfl (by simp) (S ?_)
 obtain ⟨v11, hv11, h⟩ := run_bind h
 refine CallH.mk [false] (impl_IsValidFormula_sat hv11) SC (S ?_)
 refine CondH.run cs h (fun cs h => S ?_) (fun cs h => S ?_)
 ·obtain ⟨v15, hv15, h⟩ := run_bind h
  refine CallH.mk [false] (impl_isVariable_sat hv15) SC (S ?_)
  refine CondH.run cs h (fun cs h => S ?_) (fun cs h => S ?_)
  ·obtain ⟨v20, hv20, h⟩ := run_bind h
   refine CallH.mk [false] (impl_IsValidTerm_sat hv20) SC (S ?_)
   refine CondH.run cs h (fun cs h => S ?_) (fun cs h => S ?_)
   ·obtain ⟨v28, hv28, h⟩ := run_bind h
    refine CallH.mk [false, false, false] (impl_substituted_sat hv28) SC (S ?_)
    refine CondH.run cs h (fun cs h => S ?_) (fun cs h => S ?_)
    ·obtain ⟨v35, hv35, h⟩ := run_bind h
     refine CallH.mk [true] (impl_ifFormula_o0_sat hv35) SC (S ?_)
     cases run_some h
     exact FinH.l SC
    ·cases run_some h
     exact FinH.l SC
   ·cases run_some h
    exact FinH.l SC
  ·cases run_some h
   exact FinH.l SC
 ·cases run_some h
  exact FinH.l SC

set_option maxHeartbeats 4000000 in
theorem impl_successor_sat {a0 : Term}  {r : Term} (h : impl_successor a0 = some r) : Sat Tryz.prog 44 [((Term.pv true) a0)] ((Term.pv true) r) := by
 obtain ⟨h, cs⟩ := Run.of0 h
 unfold impl_successor at h
 refine Sat.of_m (nt := 6) (rs := [.cell 2 33]) (n := 100000) Tryz.func44 rfl rfl rfl rfl (by simp) (S ?_)
 cases run_some h
 exact FinH.l SC

set_option maxHeartbeats 4000000 in
theorem impl_binary_sat {a0 : Int} {a1 : Formula} {a2 : Formula}  {r : Formula} (h : impl_binary a0 a1 a2 = some r) : Sat Tryz.prog 46 [(I a0), ((Formula.pv false) a1), ((Formula.pv false) a2)] ((Formula.pv false) r) := by
 obtain ⟨h, cs⟩ := Run.of0 h
 unfold impl_binary at h
 refine Sat.of_m (nt := 12) (rs := [.cell 6 36]) (n := 100000) Tryz.func46 rfl rfl rfl rfl (by simp) (S ?_)
 cases run_some h
 exact FinH.r SC

set_option maxHeartbeats 4000000 in
theorem impl_quantified_sat {a0 : Int} {a1 : ByteArray} {a2 : Formula}  {r : Formula} (h : impl_quantified a0 a1 a2 = some r) : Sat Tryz.prog 45 [(I a0), (Sx a1), ((Formula.pv false) a2)] ((Formula.pv false) r) := by
 obtain ⟨h, cs⟩ := Run.of0 h
 unfold impl_quantified at h
 refine Sat.of_m (nt := 12) (rs := [.cell 6 36]) (n := 100000) Tryz.func45 rfl rfl rfl rfl (by simp) (S ?_)
 cases run_some h
 exact FinH.r SC

set_option maxHeartbeats 4000000 in
theorem impl_binary_o1_o2_sat {a0 : Int} {a1 : Formula} {a2 : Formula}  {r : Formula} (h : impl_binary a0 a1 a2 = some r) : Sat Tryz.prog 46 [(I a0), ((Formula.pv true) a1), ((Formula.pv true) a2)] ((Formula.pv true) r) := by
 obtain ⟨h, cs⟩ := Run.of0 h
 unfold impl_binary at h
 refine Sat.of_m (nt := 12) (rs := [.cell 6 36]) (n := 100000) Tryz.func46 rfl rfl rfl rfl (by simp) (S ?_)
 cases run_some h
 exact FinH.l SC

set_option maxHeartbeats 4000000 in
theorem impl_quantified_o2_sat {a0 : Int} {a1 : ByteArray} {a2 : Formula}  {r : Formula} (h : impl_quantified a0 a1 a2 = some r) : Sat Tryz.prog 45 [(I a0), (Sx a1), ((Formula.pv true) a2)] ((Formula.pv true) r) := by
 obtain ⟨h, cs⟩ := Run.of0 h
 unfold impl_quantified at h
 refine Sat.of_m (nt := 12) (rs := [.cell 6 36]) (n := 100000) Tryz.func45 rfl rfl rfl rfl (by simp) (S ?_)
 cases run_some h
 exact FinH.l SC

set_option maxHeartbeats 4000000 in
theorem impl_InductionAxiom_sat {a0 : Formula} {a1 : ByteArray}  {r : Formula × Bool} (h : impl_InductionAxiom a0 a1 = some r) : Sat Tryz.prog 13 [((Formula.pv false) a0), (Sx a1)] (.tup [((Formula.pv true) r.1), (B r.2)]) := by
 obtain ⟨h, cs⟩ := Run.of0 h
 unfold impl_InductionAxiom at h
 refine Sat.of_m (nt := 51) (rs := [.cell 4 36, .tmp 5]) (n := 100000) Tryz.func13 rfl rfl rfl rfl (by simp) (S ?_)
 obtain ⟨v14, hv14, h⟩ := run_bind h
 refine CallH.mk [] (impl_zero_sat hv14) SC (S ?_)
 obtain ⟨v15, hv15, h⟩ := run_bind h
 refine CallH.mk [false, false, false] (impl_SubstituteFormula_sat hv15) SC (S ?_)
 refine And.intro (DrawH.ak [6] [224, 240, 241]) (S ?_)
 obtain ⟨v23, hv23, h⟩ := run_bind h
 refine CallH.mk [true] (impl_successor_sat hv23) SC (S ?_)
 obtain ⟨v24, hv24, h⟩ := run_bind h
 refine CallH.mk [false, false, false] (impl_SubstituteFormula_sat hv24) SC (S ?_)
 refine And.intro (DrawH.ak [8] [368, 384, 385]) (S ?_)
 refine CondH.run cs h (fun cs h => S ?_) (fun cs h => S ?_)
 ·refine CondH.run cs h (fun cs h => S ?_) (fun cs h => S ?_)
  ·obtain ⟨v36, hv36, h⟩ := run_bind h
   refine CallH.mk [false] (impl_copyFormula_sat hv36) SC (S ?_)
   obtain ⟨v38, hv38, h⟩ := run_bind h
   refine CallH.mk [false, true, true] (impl_binary_o1_o2_sat hv38) SC (S ?_)
   obtain ⟨v39, hv39, h⟩ := run_bind h
   refine CallH.mk [false, false, true] (impl_quantified_o2_sat hv39) SC (S ?_)
   refine And.intro (DrawH.ak [10] [576, 577, 608, 609, 624, 625]) (S ?_)
   obtain ⟨v42, hv42, h⟩ := run_bind h
   refine CallH.mk [false, true, true] (impl_binary_o1_o2_sat hv42) SC (S ?_)
   obtain ⟨v45, hv45, h⟩ := run_bind h
   refine CallH.mk [false] (impl_copyFormula_sat hv45) SC (S ?_)
   obtain ⟨v46, hv46, h⟩ := run_bind h
   refine CallH.mk [false, false, true] (impl_quantified_o2_sat hv46) SC (S ?_)
   obtain ⟨v47, hv47, h⟩ := run_bind h
   refine CallH.mk [false, true, true] (impl_binary_o1_o2_sat hv47) SC (S ?_)
   obtain ⟨v48, hv48, h⟩ := run_bind h
   refine CallH.mk [true] (impl_ifFormula_o0_sat hv48) SC (S ?_)
   refine And.intro (DrawH.ak [] [672, 673, 720, 721, 736, 737, 752, 753, 768, 769]) (S ?_)
   cases run_some h
   exact FinH.l SC
  ·cases run_some h
   exact FinH.l SC
 ·cases run_some h
  exact FinH.l SC

set_option maxHeartbeats 4000000 in
theorem slices_EqualFunc_Simpl_Term_Simpl_Term_impl_Term_impl_Term_sat {a0 : List Term} {a1 : List Term} {a2 : Term → Term → Option Bool} {a2_id : FuncId} {a2_cs : List PV} (a2_ok : ∀ y0 y1 r, a2 y0 y1 = some r → Sat Tryz.prog a2_id (((Term.pv false) y0) :: ((Term.pv false) y1) :: a2_cs) (B r)) (a2_cz : CapsOk a2_cs = True) {r : Bool} (h : slices_EqualFunc_Simpl_Term_Simpl_Term_impl_Term_impl_Term a0 a1 a2 = some r) : Sat Tryz.prog 106 [(.sl false 2 (a0.map (Term.pv false))), (.sl false 2 (a1.map (Term.pv false))), .clo a2_id a2_cs] (B r) := by
 obtain ⟨h, cs⟩ := Run.of0 h
 unfold slices_EqualFunc_Simpl_Term_Simpl_Term_impl_Term_impl_Term at h
 have cs := And.intro a2_cz cs
 refine Sat.of_m (nt := 32) (rs := [.tmp 6]) (n := 100000) Tryz.func106 rfl rfl rfl rfl (by simp) (S ?_)
 refine CondH.run cs h (fun cs h => S ?_) (fun cs h => S ?_)
 ·refine Mg.know_sl (b := false) (sz := 2) (es := a0.map (Term.pv false)) 0 SC fun hl0 => ?_; rw [List.length_map] at hl0
  replace h := run_loop h
  refine Mg.forN h (fun i4 s4 => [(1, .val (.pv (.sl false 2 (a1.map (Term.pv false))))), (2, .val (.pv (.clo a2_id a2_cs))), (15, .val (.pv (.sl false 2 (a0.map (Term.pv false))))), (16, .val (.pv (I (a0.length : Int)))), (17, .val (.pv (I (i4 : Int))))]) (fun i4 s4 => []) (St.le_mk2 SC) (fun i4 s4 hi h => ?_) (fun s4 h => ?_)
  ·have w := wrap_succ (i := i4) (by omega)
   refine S ?_
   refine CondH.t2 cs (by omega) (fun cs => S ?_)
   obtain ⟨v20, hv20, h⟩ := run_bind h
   refine IdxH.mk (f := (Term.pv false)) hv20 SC (S ?_)
   obtain ⟨v24, hv24, h⟩ := run_bind h
   refine IdxH.mk (f := (Term.pv false)) hv24 SC (S ?_)
   obtain ⟨v29, hv29, h⟩ := run_bind h
   refine CallH.mk [false, false] (a2_ok _ _ _ hv29) SC (S ?_)
   refine CondH.run cs h (fun cs h => S ?_) (fun cs h => S ?_)
   ·have h := run_some h
    refine RdH.mk ⟨_, h, ?_⟩
    exact St.le_mk2 SW
   ·cases run_some h
    exact FinH.l SC
  ·refine S ?_
   refine CondH.f2 cs (by omega) (fun cs => S ?_)
   cases run_some h
   exact FinH.l SC
 ·cases run_some h
  exact FinH.l SC

set_option maxHeartbeats 4000000 in
theorem impl_EqualTermsN_sat (n : Nat) : (∀ (a0 : Term) (a1 : Term) (r : Bool), impl_EqualTermsN n a0 a1 = some r → Sat Tryz.prog 68 [((Term.pv false) a0), ((Term.pv false) a1)] (B r)) := by
 induction n with
 | zero => exact fun _ _ _ h => by simp [impl_EqualTermsN] at h
 | succ n ih =>
  refine fun a0 a1 r h => ?_
  obtain ⟨h, cs⟩ := Run.of0 h
  rw [impl_EqualTermsN] at h
  refine Sat.of_m (nt := 17) (rs := [.tmp 4]) (n := 100000) Tryz.func68 rfl rfl rfl rfl (by simp) (S ?_)
  refine CondH.run cs h (fun cs h => S ?_) (fun cs h => S ?_)
  ·obtain ⟨v15, hv15, h⟩ := run_bind h
   refine CallH.mk [false, false, false] (slices_EqualFunc_Simpl_Term_Simpl_Term_impl_Term_impl_Term_sat (fun _ _ _ hh => ih _ _ _ hh) (by simp only [CapsOk_nil, CapsOk_cons]) hv15) SC (S ?_)
   cases run_some h
   exact FinH.l SC
  ·cases run_some h
   exact FinH.l SC
theorem impl_EqualTerms_sat {a0 : Term} {a1 : Term} {r : Bool} (h : impl_EqualTerms a0 a1 = some r) : Sat Tryz.prog 68 [((Term.pv false) a0), ((Term.pv false) a1)] (B r) := by
 obtain ⟨n, hn⟩ := lim_some h
 exact (impl_EqualTermsN_sat n) _ _ _ hn

set_option maxHeartbeats 4000000 in
theorem slices_EqualFunc_Simpl_Formula_Simpl_Formula_impl_Formula_impl_Formula_sat {a0 : List Formula} {a1 : List Formula} {a2 : Formula → Formula → Option Bool} {a2_id : FuncId} {a2_cs : List PV} (a2_ok : ∀ y0 y1 r, a2 y0 y1 = some r → Sat Tryz.prog a2_id (((Formula.pv false) y0) :: ((Formula.pv false) y1) :: a2_cs) (B r)) (a2_cz : CapsOk a2_cs = True) {r : Bool} (h : slices_EqualFunc_Simpl_Formula_Simpl_Formula_impl_Formula_impl_Formula a0 a1 a2 = some r) : Sat Tryz.prog 69 [(.sl false 5 (a0.map (Formula.pv false))), (.sl false 5 (a1.map (Formula.pv false))), .clo a2_id a2_cs] (B r) := by
 obtain ⟨h, cs⟩ := Run.of0 h
 unfold slices_EqualFunc_Simpl_Formula_Simpl_Formula_impl_Formula_impl_Formula at h
 have cs := And.intro a2_cz cs
 refine Sat.of_m (nt := 32) (rs := [.tmp 6]) (n := 100000) Tryz.func69 rfl rfl rfl rfl (by simp) (S ?_)
 refine CondH.run cs h (fun cs h => S ?_) (fun cs h => S ?_)
 ·refine Mg.know_sl (b := false) (sz := 5) (es := a0.map (Formula.pv false)) 0 SC fun hl0 => ?_; rw [List.length_map] at hl0
  replace h := run_loop h
  refine Mg.forN h (fun i4 s4 => [(1, .val (.pv (.sl false 5 (a1.map (Formula.pv false))))), (2, .val (.pv (.clo a2_id a2_cs))), (15, .val (.pv (.sl false 5 (a0.map (Formula.pv false))))), (16, .val (.pv (I (a0.length : Int)))), (17, .val (.pv (I (i4 : Int))))]) (fun i4 s4 => []) (St.le_mk2 SC) (fun i4 s4 hi h => ?_) (fun s4 h => ?_)
  ·have w := wrap_succ (i := i4) (by omega)
   refine S ?_
   refine CondH.t2 cs (by omega) (fun cs => S ?_)
   obtain ⟨v20, hv20, h⟩ := run_bind h
   refine IdxH.mk (f := (Formula.pv false)) hv20 SC (S ?_)
   obtain ⟨v24, hv24, h⟩ := run_bind h
   refine IdxH.mk (f := (Formula.pv false)) hv24 SC (S ?_)
   obtain ⟨v29, hv29, h⟩ := run_bind h
   refine CallH.mk [false, false] (a2_ok _ _ _ hv29) SC (S ?_)
   refine CondH.run cs h (fun cs h => S ?_) (fun cs h => S ?_)
   ·have h := run_some h
    refine RdH.mk ⟨_, h, ?_⟩
    exact St.le_mk2 SW
   ·cases run_some h
    exact FinH.l SC
  ·refine S ?_
   refine CondH.f2 cs (by omega) (fun cs => S ?_)
   cases run_some h
   exact FinH.l SC
 ·cases run_some h
  exact FinH.l SC

set_option maxHeartbeats 4000000 in
theorem impl_sameFormulaN_sat (n : Nat) : (∀ (a0 : Formula) (a1 : Formula) (r : Bool), impl_sameFormulaN n a0 a1 = some r → Sat Tryz.prog 34 [((Formula.pv false) a0), ((Formula.pv false) a1)] (B r)) := by
 induction n with
 | zero => exact fun _ _ _ h => by simp [impl_sameFormulaN] at h
 | succ n ih =>
  refine fun a0 a1 r h => ?_
  obtain ⟨h, cs⟩ := Run.of0 h
  rw [impl_sameFormulaN] at h
  refine Sat.of_m (nt := 31) (rs := [.tmp 4]) (n := 100000) Tryz.func34 rfl rfl rfl rfl (by simp) (S ?_)
  refine CondH.run cs h (fun cs h => S ?_) (fun cs h => S ?_)
  ·obtain ⟨v15, hv15, h⟩ := run_bind h
   refine CallH.mk [false, false] (impl_EqualTerms_sat hv15) SC (S ?_)
   refine CondH.run cs h (fun cs h => S ?_) (fun cs h => S ?_)
   ·refine CondH.run cs h (fun cs h => S ?_) (fun cs h => S ?_)
    ·obtain ⟨v29, hv29, h⟩ := run_bind h
     refine CallH.mk [false, false, false] (slices_EqualFunc_Simpl_Formula_Simpl_Formula_impl_Formula_impl_Formula_sat (fun _ _ _ hh => ih _ _ _ hh) (by simp only [CapsOk_nil, CapsOk_cons]) hv29) SC (S ?_)
     cases run_some h
     exact FinH.l SC
    ·cases run_some h
     exact FinH.l SC
   ·cases run_some h
    exact FinH.l SC
  ·cases run_some h
   exact FinH.l SC
theorem impl_sameFormula_sat {a0 : Formula} {a1 : Formula} {r : Bool} (h : impl_sameFormula a0 a1 = some r) : Sat Tryz.prog 34 [((Formula.pv false) a0), ((Formula.pv false) a1)] (B r) := by
 obtain ⟨n, hn⟩ := lim_some h
 exact (impl_sameFormulaN_sat n) _ _ _ hn

set_option maxHeartbeats 4000000 in
theorem impl_IsInductionAxiom_sat {a0 : Formula}  {r : Bool × Bool} (h : impl_IsInductionAxiom a0 = some r) : Sat Tryz.prog 10 [((Formula.pv false) a0)] (.tup [(B r.1), (B r.2)]) := by
 obtain ⟨h, cs⟩ := Run.of0 h
 unfold impl_IsInductionAxiom at h
 refine Sat.of_m (nt := 42) (rs := [.tmp 2, .tmp 3]) (n := 100000) Tryz.func10 rfl rfl rfl rfl (by simp) (S ?_)
 obtain ⟨v7, hv7, h⟩ := run_bind h
 refine CallH.mk [false] (impl_IsValidFormula_sat hv7) SC (S ?_)
 refine CondH.run cs h (fun cs h => S ?_) (fun cs h => S ?_)
 ·refine CondH.run cs h (fun cs h => S ?_) (fun cs h => S ?_)
  ·obtain ⟨v15, hv15, h⟩ := run_bind h
   refine IdxH.mk (f := (Formula.pv false)) hv15 SC (S ?_)
   refine CondH.run cs h (fun cs h => S ?_) (fun cs h => S ?_)
   ·obtain ⟨v23, hv23, h⟩ := run_bind h
    refine IdxH.mk (f := (Formula.pv false)) hv23 SC (S ?_)
    obtain ⟨v26, hv26, h⟩ := run_bind h
    refine IdxH.mk (f := (Formula.pv false)) hv26 SC (S ?_)
    obtain ⟨v30, hv30, h⟩ := run_bind h
    refine IdxH.mk (f := (Formula.pv false)) hv30 SC (S ?_)
    obtain ⟨v33, hv33, h⟩ := run_bind h
    refine CallH.mk [false, false] (impl_InductionAxiom_sat hv33) SC (S ?_)
    refine And.intro (DrawH.ak [4] [528, 529]) (S ?_)
    refine CondH.run cs h (fun cs h => S ?_) (fun cs h => S ?_)
    ·obtain ⟨v40, hv40, h⟩ := run_bind h
     refine CallH.mk [false, false] (impl_sameFormula_sat hv40) SC (S ?_)
     cases run_some h
     exact FinH.l SC
    ·cases run_some h
     exact FinH.l SC
   ·cases run_some h
    exact FinH.l SC
  ·cases run_some h
   exact FinH.l SC
 ·cases run_some h
  exact FinH.l SC

set_option maxHeartbeats 4000000 in
theorem eqTermN_sat (n : Nat) : (∀ (a0 : Term) (a1 : Term) (r : Bool), eqTermN n a0 a1 = some r → Sat Tryz.prog 35 [((Term.pv false) a0), ((Term.pv false) a1)] (B r)) ∧ (∀ (a0 : List Term) (a1 : List Term) (r : Bool), eqTermSN n a0 a1 = some r → Sat Tryz.prog 59 [(.sl false 2 (a0.map (Term.pv false))), (.sl false 2 (a1.map (Term.pv false)))] (B r)) := by
 induction n with
 | zero => exact ⟨fun _ _ _ h => by simp [eqTermN] at h, fun _ _ _ h => by simp [eqTermSN] at h⟩
 | succ n ih =>
  refine ⟨fun a0 a1 r h => ?_, fun a0 a1 r h => ?_⟩
  ·obtain ⟨h, cs⟩ := Run.of0 h
   rw [eqTermN] at h
   refine Sat.of_m (nt := 16) (rs := [.tmp 4]) (n := 100000) Tryz.func35 rfl rfl rfl rfl (by simp) (S ?_)
   refine CondH.run cs h (fun cs h => S ?_) (fun cs h => S ?_)
   ·obtain ⟨v14, hv14, h⟩ := run_bind h
    refine CallH.mk [false, false] (ih.2 _ _ _ hv14) SC (S ?_)
    refine CondH.run cs h (fun cs h => S ?_) (fun cs h => S ?_)
    ·cases run_some h
     exact FinH.l SC
    ·cases run_some h
     exact FinH.l SC
   ·cases run_some h
    exact FinH.l SC
  ·obtain ⟨h, cs⟩ := Run.of0 h
   rw [eqTermSN] at h
   refine Sat.of_m (nt := 27) (rs := [.tmp 4]) (n := 100000) Tryz.func59 rfl rfl rfl rfl (by simp) (S ?_)
   refine CondH.run cs h (fun cs h => S ?_) (fun cs h => S ?_)
   ·refine Mg.know_sl (b := false) (sz := 2) (es := a0.map (Term.pv false)) 0 SC fun hl0 => ?_; rw [List.length_map] at hl0
    replace h := run_loop h
    refine Mg.forN h (fun i4 s4 => [(0, .val (.pv (.sl false 2 (a0.map (Term.pv false))))), (1, .val (.pv (.sl false 2 (a1.map (Term.pv false))))), (5, .val (.pv (I (i4 : Int))))]) (fun i4 s4 => []) (St.le_mk2 SC) (fun i4 s4 hi h => ?_) (fun s4 h => ?_)
    ·have w := wrap_succ (i := i4) (by omega)
     refine S ?_
     refine CondH.t2 cs (by omega) (fun cs => S ?_)
     obtain ⟨v19, hv19, h⟩ := run_bind h
     refine IdxH.mk (f := (Term.pv false)) hv19 SC (S ?_)
     obtain ⟨v23, hv23, h⟩ := run_bind h
     refine IdxH.mk (f := (Term.pv false)) hv23 SC (S ?_)
     obtain ⟨v25, hv25, h⟩ := run_bind h
     refine CallH.mk [false, false] (ih.1 _ _ _ hv25) SC (S ?_)
     refine And.intro (DrawH.ak [] []) (S ?_)
     refine CondH.run cs h (fun cs h => S ?_) (fun cs h => S ?_)
     ·have h := run_some h
      refine RdH.mk ⟨_, h, ?_⟩
      exact St.le_mk2 SW
     ·cases run_some h
      exact FinH.l SC
    ·refine S ?_
     refine CondH.f2 cs (by omega) (fun cs => S ?_)
     cases run_some h
     exact FinH.l SC
   ·cases run_some h
    exact FinH.l SC
theorem eqTerm_sat {a0 : Term} {a1 : Term} {r : Bool} (h : eqTerm a0 a1 = some r) : Sat Tryz.prog 35 [((Term.pv false) a0), ((Term.pv false) a1)] (B r) := by
 obtain ⟨n, hn⟩ := lim_some h
 exact (eqTermN_sat n).1 _ _ _ hn
theorem eqTermS_sat {a0 : List Term} {a1 : List Term} {r : Bool} (h : eqTermS a0 a1 = some r) : Sat Tryz.prog 59 [(.sl false 2 (a0.map (Term.pv false))), (.sl false 2 (a1.map (Term.pv false)))] (B r) := by
 obtain ⟨n, hn⟩ := lim_some h
 exact (eqTermN_sat n).2 _ _ _ hn

end Go.Proofs.YtgkgihdafalimaaGreat
