/- A part of the proof: lemmas only; nothing is claimed here beyond what each lemma says. -/
import Derived.Test.YtkokcfphepmeeaaGreatDoorGw1
set_option linter.unusedSimpArgs false
set_option linter.unusedVariables false
set_option linter.defProp false
set_option maxRecDepth 4000
namespace Go.Proofs.YtkokcfphepmeeaaGreatDoor
open Go.Av
set_option maxHeartbeats 4000000
open And renaming intro → A
open Nat renaming reduceLT → p1, reduceAdd → p2, reduceMul → p3, reduceEqDiff → p4, reduceBEq → p5, reduceLeDiff → p6, reduceSub → p7
open Int renaming reduceToNat → p8
def fx57 := A @TB3 <| @TB37
theorem impl_IsValidFormula_sat {a0 : Formula}  {r : Bool} (h : impl_IsValidFormula a0 = some r) : Sat Tryz.prog 57 [((Formula.pv false) a0)] (B r) := by
  replace h := Run.of h
  unfold impl_IsValidFormula at h
  refine Sat.of_m (nt := 10) (rs := [.tmp 2]) (n := 100000) Tryz.func57 rfl rfl rfl rfl (by simp) ?_
  try simp only [↓RA,RB,RS, fx57,p1,p2,p3,p4,reduceIte,p5,p6,p7,p8]
  repeat (first | with_reducible refine noR_and (by repeat (first | exact noR_empty _ _ | exact noR_nilS _ _ | refine noR_mk _ _ _ _ _ rfl ?_ | refine noR_mkS _ _ _ _ _ rfl ?_)) ?_ | with_reducible refine noC_and (by repeat (first | exact noC_empty _ _ (by try simp only [↓RA,RB,RS, fx57,p1,p2,p3,p4,reduceIte,p5,p6,p7,p8]) | exact noC_nilS _ _ (by try simp only [↓RA,RB,RS, fx57,p1,p2,p3,p4,reduceIte,p5,p6,p7,p8]) | refine noC_mk _ _ _ _ _ rfl ?_ | refine noC_mkS _ _ _ _ _ rfl ?_)) ?_ | with_reducible refine and_ac ?_ | with_reducible refine And.intro (a := _ = List.range _) (by rfl) ?_)
  obtain ⟨v4, hv4, h⟩ := run_bind h
  refine CallH.mk [false] (impl_sizeOf_sat hv4) ?_ ?_ <;> try simp only [↓RA,RB,RS, fx57,p1,p2,p3,p4,reduceIte,p5,p6,p7,p8]
  refine CondH.mk (fun c1 => ?_) (fun c1 => ?_)
  · replace h := run_t c1 h
    try simp only [↓RA,RB,RS, fx57,p1,p2,p3,p4,reduceIte,p5,p6,p7,p8, c1]
    obtain ⟨v8, hv8, h⟩ := run_bind h
    refine CallH.mk [false] (impl_hasForm_sat hv8) ?_ ?_ <;> try simp only [↓RA,RB,RS, fx57,p1,p2,p3,p4,reduceIte,p5,p6,p7,p8, c1]
    have h := run_some h
    obtain rfl : _ = r := h
    refine FinH.l ?_
    try simp only [↓RA,RB,RS, fx57,p1,p2,p3,p4,reduceIte,p5,p6,p7,p8, c1]
  · replace h := run_f c1 h
    try simp only [↓RA,RB,RS, fx57,p1,p2,p3,p4,reduceIte,p5,p6,p7,p8, c1]
    have h := run_some h
    obtain rfl : _ = r := h
    refine FinH.l ?_
    try simp only [↓RA,RB,RS, fx57,p1,p2,p3,p4,reduceIte,p5,p6,p7,p8, c1]

def fx64 := A @TB3 <| @TB28
theorem slices_Index_Sint_int_sat {a0 : List Int} {a1 : Int}  {r : Int} (h : slices_Index_Sint_int a0 a1 = some r) : Sat Tryz.prog 64 [(.sl false 1 (a0.map I)), (I a1)] (I r) := by
  replace h := Run.of h
  unfold slices_Index_Sint_int at h
  refine Sat.of_m (nt := 19) (rs := [.tmp 4]) (n := 100000) Tryz.func64 rfl rfl rfl rfl (by simp) ?_
  try simp only [↓RA,RB,RS, fx64,p1,p2,p3,p4,reduceIte,p5,p6,p7,p8]
  refine Mg.know_sl (b := false) (sz := 1) (es := a0.map I) 0 (by try simp only [↓RA,RB,RS, fx64,p1,p2,p3,p4,reduceIte,p5,p6,p7,p8]) fun hl0 => ?_; rw [List.length_map] at hl0
  replace h := run_loop h
  refine Mg.forN h (fun i2 s2 => [(0, .val (.pv (.sl false 1 (a0.map I)))), (1, .val (.pv (I a1))), (7, .val (.pv (I (a0.length : Int)))), (8, .val (.pv (I (i2 : Int))))]) (fun i2 s2 => []) (St.le_mk2 (by try simp only [↓RA,RB,RS, fx64,p1,p2,p3,p4,reduceIte,p5,p6,p7,p8])) (fun i2 s2 hi h => ?_) (fun s2 h => ?_)
  · have w2 := wrap_succ (i := i2) (by omega)
    try simp only [↓RA,RB,RS, fx64,p1,p2,p3,p4,reduceIte,p5,p6,p7,p8]
    refine CondH.tt (decide_eq_true (by omega)) (fun c1 => ?_)
    try simp only [↓RA,RB,RS, fx64,p1,p2,p3,p4,reduceIte,p5,p6,p7,p8, c1]
    obtain ⟨v14, hv14, h⟩ := run_bind h
    refine IdxH.mk (f := I) hv14 ?_ ?_ <;> try simp only [↓RA,RB,RS, fx64,p1,p2,p3,p4,reduceIte,p5,p6,p7,p8, c1]
    refine CondH.mk (fun c2 => ?_) (fun c2 => ?_)
    · replace h := run_t c2 h
      try simp only [↓RA,RB,RS, fx64,p1,p2,p3,p4,reduceIte,p5,p6,p7,p8, c1, c2]
      have h := run_some h
      obtain rfl : _ = r := h
      refine FinH.l ?_
      try simp only [↓RA,RB,RS, fx64,p1,p2,p3,p4,reduceIte,p5,p6,p7,p8, c1, c2]
    · replace h := run_f c2 h
      try simp only [↓RA,RB,RS, fx64,p1,p2,p3,p4,reduceIte,p5,p6,p7,p8, c1, c2]
      have h := run_some h
      refine RdH.mk ⟨_, h, ?_⟩
      refine St.le_mk2 ?_
      try simp only [↓RA,RB,RS, fx64,p1,p2,p3,p4,reduceIte,p5,p6,p7,p8, c1, c2, w2]
  · try simp only [↓RA,RB,RS, fx64,p1,p2,p3,p4,reduceIte,p5,p6,p7,p8]
    refine CondH.ff (decide_eq_false (by omega)) (fun c3 => ?_)
    try simp only [↓RA,RB,RS, fx64,p1,p2,p3,p4,reduceIte,p5,p6,p7,p8, c3]
    have h := run_some h
    obtain rfl : _ = r := h
    refine FinH.l ?_
    try simp only [↓RA,RB,RS, fx64,p1,p2,p3,p4,reduceIte,p5,p6,p7,p8, c3]

def fx33 := A @TB3 <| @TB28
theorem slices_Contains_Sint_int_sat {a0 : List Int} {a1 : Int}  {r : Bool} (h : slices_Contains_Sint_int a0 a1 = some r) : Sat Tryz.prog 33 [(.sl false 1 (a0.map I)), (I a1)] (B r) := by
  replace h := Run.of h
  unfold slices_Contains_Sint_int at h
  refine Sat.of_m (nt := 9) (rs := [.tmp 4]) (n := 100000) Tryz.func33 rfl rfl rfl rfl (by simp) ?_
  try simp only [↓RA,RB,RS, fx33,p1,p2,p3,p4,reduceIte,p5,p6,p7,p8]
  obtain ⟨v7, hv7, h⟩ := run_bind h
  refine CallH.mk [false, false] (slices_Index_Sint_int_sat hv7) ?_ ?_ <;> try simp only [↓RA,RB,RS, fx33,p1,p2,p3,p4,reduceIte,p5,p6,p7,p8]
  have h := run_some h
  obtain rfl : _ = r := h
  refine FinH.l ?_
  try simp only [↓RA,RB,RS, fx33,p1,p2,p3,p4,reduceIte,p5,p6,p7,p8]

def fx58 := A @TB3 <| A @TB28 <| A @TB35 <| A @TB37 <| @TB53
def fx83 := A @TB28 <| @TB37
theorem impl_hasOpN_sat (n : Nat) : (∀ (a0 : Formula) (a1 : List Int) (r : Bool), impl_hasOpN n a0 a1 = some r → Sat Tryz.prog 58 [((Formula.pv false) a0), (.sl false 1 (a1.map I))] (B r)) ∧ (∀ (a0 : Formula) (b0 : List Int) (r : Bool), impl_hasOp_1N n a0 b0 = some r → Sat Tryz.prog 83 [((Formula.pv false) a0), .ptr (.sl false 1 (b0.map I))] (B r)) := by
  induction n with
  | zero => exact ⟨fun _ _ _ h => by simp [impl_hasOpN] at h, fun _ _ _ h => by simp [impl_hasOp_1N] at h⟩
  | succ n ih =>
    refine ⟨fun a0 a1 r h => ?_, fun a0 b0 r h => ?_⟩
    · replace h := Run.of h
      rw [impl_hasOpN] at h
      refine Sat.of_m (nt := 15) (rs := [.tmp 4]) (n := 100000) Tryz.func58 rfl rfl rfl rfl (by simp) ?_
      try simp only [↓RA,RB,RS, fx58,p1,p2,p3,p4,reduceIte,p5,p6,p7,p8]
      repeat (first | with_reducible refine noR_and (by repeat (first | exact noR_empty _ _ | exact noR_nilS _ _ | refine noR_mk _ _ _ _ _ rfl ?_ | refine noR_mkS _ _ _ _ _ rfl ?_)) ?_ | with_reducible refine noC_and (by repeat (first | exact noC_empty _ _ (by try simp only [↓RA,RB,RS, fx58,p1,p2,p3,p4,reduceIte,p5,p6,p7,p8]) | exact noC_nilS _ _ (by try simp only [↓RA,RB,RS, fx58,p1,p2,p3,p4,reduceIte,p5,p6,p7,p8]) | refine noC_mk _ _ _ _ _ rfl ?_ | refine noC_mkS _ _ _ _ _ rfl ?_)) ?_ | with_reducible refine and_ac ?_ | with_reducible refine And.intro (a := _ = List.range _) (by rfl) ?_)
      obtain ⟨v8, hv8, h⟩ := run_bind h
      refine CallH.mk [false, false] (slices_Contains_Sint_int_sat hv8) ?_ ?_ <;> try simp only [↓RA,RB,RS, fx58,p1,p2,p3,p4,reduceIte,p5,p6,p7,p8]
      refine CondH.mk (fun c1 => ?_) (fun c1 => ?_)
      · replace h := run_t c1 h
        try simp only [↓RA,RB,RS, fx58,p1,p2,p3,p4,reduceIte,p5,p6,p7,p8, c1]
        have h := run_some h
        obtain rfl : _ = r := h
        refine FinH.l ?_
        try simp only [↓RA,RB,RS, fx58,p1,p2,p3,p4,reduceIte,p5,p6,p7,p8, c1]
      · replace h := run_f c1 h
        try simp only [↓RA,RB,RS, fx58,p1,p2,p3,p4,reduceIte,p5,p6,p7,p8, c1]
        obtain ⟨v13, hv13, h⟩ := run_bind h
        refine CallH.mk [false, false] (slices_ContainsFunc_Simpl_Formula_impl_Formula_sat (fun _ _ hh => ih.2 _ _ _ hh) (by simp only [CapsOk_nil, CapsOk_cons]) hv13) ?_ ?_ <;> try simp only [↓RA,RB,RS, fx58,p1,p2,p3,p4,reduceIte,p5,p6,p7,p8, c1]
        have h := run_some h
        obtain rfl : _ = r := h
        refine FinH.l ?_
        try simp only [↓RA,RB,RS, fx58,p1,p2,p3,p4,reduceIte,p5,p6,p7,p8, c1]
    · replace h := Run.of h
      rw [impl_hasOp_1N] at h
      refine Sat.of_m (nt := 7) (rs := [.tmp 3]) (n := 100000) Tryz.func83 rfl rfl rfl rfl (by simp) ?_
      try simp only [↓RA,RB,RS, fx83,p1,p2,p3,p4,reduceIte,p5,p6,p7,p8]
      repeat (first | with_reducible refine noR_and (by repeat (first | exact noR_empty _ _ | exact noR_nilS _ _ | refine noR_mk _ _ _ _ _ rfl ?_ | refine noR_mkS _ _ _ _ _ rfl ?_)) ?_ | with_reducible refine noC_and (by repeat (first | exact noC_empty _ _ (by try simp only [↓RA,RB,RS, fx83,p1,p2,p3,p4,reduceIte,p5,p6,p7,p8]) | exact noC_nilS _ _ (by try simp only [↓RA,RB,RS, fx83,p1,p2,p3,p4,reduceIte,p5,p6,p7,p8]) | refine noC_mk _ _ _ _ _ rfl ?_ | refine noC_mkS _ _ _ _ _ rfl ?_)) ?_ | with_reducible refine and_ac ?_ | with_reducible refine And.intro (a := _ = List.range _) (by rfl) ?_)
      obtain ⟨v6, hv6, h⟩ := run_bind h
      refine CallH.mk [false, false] (ih.1 _ _ _ hv6) ?_ ?_ <;> try simp only [↓RA,RB,RS, fx83,p1,p2,p3,p4,reduceIte,p5,p6,p7,p8]
      have h := run_some h
      obtain rfl : _ = r := h
      refine FinH.l ?_
      try simp only [↓RA,RB,RS, fx83,p1,p2,p3,p4,reduceIte,p5,p6,p7,p8]
theorem impl_hasOp_sat {a0 : Formula} {a1 : List Int} {r : Bool} (h : impl_hasOp a0 a1 = some r) : Sat Tryz.prog 58 [((Formula.pv false) a0), (.sl false 1 (a1.map I))] (B r) := by
  obtain ⟨n, hn⟩ := lim_some h
  exact (impl_hasOpN_sat n).1 _ _ _ hn
theorem impl_hasOp_1_sat {a0 : Formula} {b0 : List Int} {r : Bool} (h : impl_hasOp_1 a0 b0 = some r) : Sat Tryz.prog 83 [((Formula.pv false) a0), .ptr (.sl false 1 (b0.map I))] (B r) := by
  obtain ⟨n, hn⟩ := lim_some h
  exact (impl_hasOpN_sat n).2 _ _ _ hn

def fx59 := A @TB3 <| A @TB32 <| A @TB34 <| A @TB35 <| @TB37
theorem impl_atomsOfN_sat (n : Nat) : (∀ (a0 : Formula) (r : List Term), impl_atomsOfN n a0 = some r → Sat Tryz.prog 59 [((Formula.pv false) a0)] (.sl true 2 (r.map (Term.pv false)))) := by
  induction n with
  | zero => exact fun _ _ h => by simp [impl_atomsOfN] at h
  | succ n ih =>
    refine fun a0 r h => ?_
    replace h := Run.of h
    rw [impl_atomsOfN] at h
    refine Sat.of_m (nt := 26) (rs := [.tmp 2]) (n := 100000) Tryz.func59 rfl rfl rfl rfl (by simp) ?_
    try simp only [↓RA,RB,RS, fx59,p1,p2,p3,p4,reduceIte,p5,p6,p7,p8]
    repeat (first | with_reducible refine noR_and (by repeat (first | exact noR_empty _ _ | exact noR_nilS _ _ | refine noR_mk _ _ _ _ _ rfl ?_ | refine noR_mkS _ _ _ _ _ rfl ?_)) ?_ | with_reducible refine noC_and (by repeat (first | exact noC_empty _ _ (by try simp only [↓RA,RB,RS, fx59,p1,p2,p3,p4,reduceIte,p5,p6,p7,p8]) | exact noC_nilS _ _ (by try simp only [↓RA,RB,RS, fx59,p1,p2,p3,p4,reduceIte,p5,p6,p7,p8]) | refine noC_mk _ _ _ _ _ rfl ?_ | refine noC_mkS _ _ _ _ _ rfl ?_)) ?_ | with_reducible refine and_ac ?_ | with_reducible refine And.intro (a := _ = List.range _) (by rfl) ?_)
    refine CondH.mk (fun c1 => ?_) (fun c1 => ?_)
    · replace h := run_t c1 h
      try simp only [↓RA,RB,RS, fx59,p1,p2,p3,p4,reduceIte,p5,p6,p7,p8, c1]
      repeat (first | with_reducible refine noR_and (by repeat (first | exact noR_empty _ _ | exact noR_nilS _ _ | refine noR_mk _ _ _ _ _ rfl ?_ | refine noR_mkS _ _ _ _ _ rfl ?_)) ?_ | with_reducible refine noC_and (by repeat (first | exact noC_empty _ _ (by try simp only [↓RA,RB,RS, fx59,p1,p2,p3,p4,reduceIte,p5,p6,p7,p8]) | exact noC_nilS _ _ (by try simp only [↓RA,RB,RS, fx59,p1,p2,p3,p4,reduceIte,p5,p6,p7,p8]) | refine noC_mk _ _ _ _ _ rfl ?_ | refine noC_mkS _ _ _ _ _ rfl ?_)) ?_ | with_reducible refine and_ac ?_ | with_reducible refine And.intro (a := _ = List.range _) (by rfl) ?_)
      have h := run_some h
      obtain rfl : _ = r := h
      refine FinH.l ?_
      try simp only [↓RA,RB,RS, fx59,p1,p2,p3,p4,reduceIte,p5,p6,p7,p8, c1]
    · replace h := run_f c1 h
      try simp only [↓RA,RB,RS, fx59,p1,p2,p3,p4,reduceIte,p5,p6,p7,p8, c1]
      repeat (first | with_reducible refine noR_and (by repeat (first | exact noR_empty _ _ | exact noR_nilS _ _ | refine noR_mk _ _ _ _ _ rfl ?_ | refine noR_mkS _ _ _ _ _ rfl ?_)) ?_ | with_reducible refine noC_and (by repeat (first | exact noC_empty _ _ (by try simp only [↓RA,RB,RS, fx59,p1,p2,p3,p4,reduceIte,p5,p6,p7,p8]) | exact noC_nilS _ _ (by try simp only [↓RA,RB,RS, fx59,p1,p2,p3,p4,reduceIte,p5,p6,p7,p8]) | refine noC_mk _ _ _ _ _ rfl ?_ | refine noC_mkS _ _ _ _ _ rfl ?_)) ?_ | with_reducible refine and_ac ?_ | with_reducible refine And.intro (a := _ = List.range _) (by rfl) ?_)
      refine Mg.know_sl (b := false) (sz := 5) (es := a0.Parts.map (Formula.pv false)) 14 (by try simp only [↓RA,RB,RS, fx59,p1,p2,p3,p4,reduceIte,p5,p6,p7,p8, c1]) fun hl14 => ?_; rw [List.length_map] at hl14
      replace h := run_loop h
      refine Mg.forN h (fun i5 s5 => [(3, .val (.own 192)), (14, .val (.pv (.sl false 5 (a0.Parts.map (Formula.pv false))))), (15, .val (.pv (I (a0.Parts.length : Int)))), (16, .val (.pv (I (i5 : Int))))]) (fun i5 s5 => [(192, (2, s5.map (Term.pv false)))]) (St.le_mk2 (by try simp only [↓RA,RB,RS, fx59,p1,p2,p3,p4,reduceIte,p5,p6,p7,p8, c1])) (fun i5 s5 hi h => ?_) (fun s5 h => ?_)
      · have w5 := wrap_succ (i := i5) (by omega)
        try simp only [↓RA,RB,RS, fx59,p1,p2,p3,p4,reduceIte,p5,p6,p7,p8, c1]
        refine CondH.tt (decide_eq_true (by omega)) (fun c2 => ?_)
        try simp only [↓RA,RB,RS, fx59,p1,p2,p3,p4,reduceIte,p5,p6,p7,p8, c1, c2]
        obtain ⟨v18, hv18, h⟩ := run_bind h
        refine IdxH.mk (f := (Formula.pv false)) hv18 ?_ ?_ <;> try simp only [↓RA,RB,RS, fx59,p1,p2,p3,p4,reduceIte,p5,p6,p7,p8, c1, c2]
        repeat (first | with_reducible refine noR_and (by repeat (first | exact noR_empty _ _ | exact noR_nilS _ _ | refine noR_mk _ _ _ _ _ rfl ?_ | refine noR_mkS _ _ _ _ _ rfl ?_)) ?_ | with_reducible refine noC_and (by repeat (first | exact noC_empty _ _ (by try simp only [↓RA,RB,RS, fx59,p1,p2,p3,p4,reduceIte,p5,p6,p7,p8]) | exact noC_nilS _ _ (by try simp only [↓RA,RB,RS, fx59,p1,p2,p3,p4,reduceIte,p5,p6,p7,p8]) | refine noC_mk _ _ _ _ _ rfl ?_ | refine noC_mkS _ _ _ _ _ rfl ?_)) ?_ | with_reducible refine and_ac ?_ | with_reducible refine And.intro (a := _ = List.range _) (by rfl) ?_)
        obtain ⟨v22, hv22, h⟩ := run_bind h
        refine CallH.mk [false] (ih _ _ hv22) ?_ ?_ <;> try simp only [↓RA,RB,RS, fx59,p1,p2,p3,p4,reduceIte,p5,p6,p7,p8, c1, c2]
        repeat (first | with_reducible refine noR_and (by repeat (first | exact noR_empty _ _ | exact noR_nilS _ _ | refine noR_mk _ _ _ _ _ rfl ?_ | refine noR_mkS _ _ _ _ _ rfl ?_)) ?_ | with_reducible refine noC_and (by repeat (first | exact noC_empty _ _ (by try simp only [↓RA,RB,RS, fx59,p1,p2,p3,p4,reduceIte,p5,p6,p7,p8]) | exact noC_nilS _ _ (by try simp only [↓RA,RB,RS, fx59,p1,p2,p3,p4,reduceIte,p5,p6,p7,p8]) | refine noC_mk _ _ _ _ _ rfl ?_ | refine noC_mkS _ _ _ _ _ rfl ?_)) ?_ | with_reducible refine and_ac ?_ | with_reducible refine And.intro (a := _ = List.range _) (by rfl) ?_)
        obtain ⟨v23, hv23, h⟩ := run_bind h
        refine AppH.mk (f := (Term.pv false)) (fun a => Term.psize _ a) hv23 ?_ ?_ ?_ <;> try simp only [↓RA,RB,RS, fx59,p1,p2,p3,p4,reduceIte,p5,p6,p7,p8, c1, c2]
        repeat (first | with_reducible refine noR_and (by repeat (first | exact noR_empty _ _ | exact noR_nilS _ _ | refine noR_mk _ _ _ _ _ rfl ?_ | refine noR_mkS _ _ _ _ _ rfl ?_)) ?_ | with_reducible refine noC_and (by repeat (first | exact noC_empty _ _ (by try simp only [↓RA,RB,RS, fx59,p1,p2,p3,p4,reduceIte,p5,p6,p7,p8]) | exact noC_nilS _ _ (by try simp only [↓RA,RB,RS, fx59,p1,p2,p3,p4,reduceIte,p5,p6,p7,p8]) | refine noC_mk _ _ _ _ _ rfl ?_ | refine noC_mkS _ _ _ _ _ rfl ?_)) ?_ | with_reducible refine and_ac ?_ | with_reducible refine And.intro (a := _ = List.range _) (by rfl) ?_)
        have h := run_some h
        refine RdH.mk ⟨_, h, ?_⟩
        refine St.le_trans (St.le_mk (S := [(3, .val (.own 368)), (14, .val (.pv (.sl false 5 (a0.Parts.map (Formula.pv false))))), (15, .val (.pv (I (a0.Parts.length : Int)))), (16, .val (.pv (I (IntKind.i64.wrap ((i5 : Int) + (1 : Int))))))]) (O := [(368, (2, v23.map (Term.pv false)))]) (by try simp only [↓RA,RB,RS, fx59,p1,p2,p3,p4,reduceIte,p5,p6,p7,p8, c1, c2, w5]) (by try simp only [↓RA,RB,RS, fx59,p1,p2,p3,p4,reduceIte,p5,p6,p7,p8, c1, c2, w5])) ?_
        refine St.le_rn 368 192 (by decide) (by repeat (first | exact noC_empty _ _ (by try simp only [↓RA,RB,RS, fx59,p1,p2,p3,p4,reduceIte,p5,p6,p7,p8]) | exact noC_nilS _ _ (by try simp only [↓RA,RB,RS, fx59,p1,p2,p3,p4,reduceIte,p5,p6,p7,p8]) | refine noC_mk _ _ _ _ _ rfl ?_ | refine noC_mkS _ _ _ _ _ rfl ?_)) ?_
        refine St.le_mk2 ?_
        try simp only [↓RA,RB,RS, fx59,p1,p2,p3,p4,reduceIte,p5,p6,p7,p8, c1, c2, w5]
      · try simp only [↓RA,RB,RS, fx59,p1,p2,p3,p4,reduceIte,p5,p6,p7,p8, c1]
        refine CondH.ff (decide_eq_false (by omega)) (fun c3 => ?_)
        try simp only [↓RA,RB,RS, fx59,p1,p2,p3,p4,reduceIte,p5,p6,p7,p8, c1, c3]
        have h := run_some h
        obtain rfl : _ = r := h
        refine FinH.l ?_
        try simp only [↓RA,RB,RS, fx59,p1,p2,p3,p4,reduceIte,p5,p6,p7,p8, c1, c3]
theorem impl_atomsOf_sat {a0 : Formula} {r : List Term} (h : impl_atomsOf a0 = some r) : Sat Tryz.prog 59 [((Formula.pv false) a0)] (.sl true 2 (r.map (Term.pv false))) := by
  obtain ⟨n, hn⟩ := lim_some h
  exact (impl_atomsOfN_sat n) _ _ hn

def fx130 := A @TB3 <| @TB9
theorem strconv_small_sat {a0 : Int}  {r : ByteArray} (h : strconv_small a0 = some r) : Sat Tryz.prog 130 [(I a0)] (Sx r) := by
  replace h := Run.of h
  unfold strconv_small at h
  refine Sat.of_m (nt := 15) (rs := [.tmp 2]) (n := 100000) Tryz.func130 rfl rfl rfl rfl (by simp) ?_
  try simp only [↓RA,RB,RS, fx130,p1,p2,p3,p4,reduceIte,p5,p6,p7,p8]
  refine CondH.mk (fun c1 => ?_) (fun c1 => ?_)
  · replace h := run_t c1 h
    try simp only [↓RA,RB,RS, fx130,p1,p2,p3,p4,reduceIte,p5,p6,p7,p8, c1]
    obtain ⟨v8, hv8, h⟩ := run_bind h
    refine SslcH.mk hv8 ?_
    try simp only [↓RA,RB,RS, fx130,p1,p2,p3,p4,reduceIte,p5,p6,p7,p8, c1]
    have h := run_some h
    obtain rfl : _ = r := h
    refine FinH.l ?_
    try simp only [↓RA,RB,RS, fx130,p1,p2,p3,p4,reduceIte,p5,p6,p7,p8, c1]
  · replace h := run_f c1 h
    try simp only [↓RA,RB,RS, fx130,p1,p2,p3,p4,reduceIte,p5,p6,p7,p8, c1]
    obtain ⟨v14, hv14, h⟩ := run_bind h
    refine SslcH.mk hv14 ?_
    try simp only [↓RA,RB,RS, fx130,p1,p2,p3,p4,reduceIte,p5,p6,p7,p8, c1]
    have h := run_some h
    obtain rfl : _ = r := h
    refine FinH.l ?_
    try simp only [↓RA,RB,RS, fx130,p1,p2,p3,p4,reduceIte,p5,p6,p7,p8, c1]

def fx138 := A @TB3 <| A @TB5 <| A @TB9 <| A @TB114 <| A @uk_3 <| A @uk_5 <| @uk_114
theorem bits_Len64_sat {a0 : Int}  {r : Int} (h : bits_Len64 a0 = some r) : Sat Tryz.prog 138 [((Ik .u64) a0)] (I r) := by
  replace h := Run.of h
  unfold bits_Len64 at h
  refine Sat.of_m (nt := 25) (rs := [.tmp 2]) (n := 100000) Tryz.func138 rfl rfl rfl rfl (by simp) ?_
  try simp only [↓RA,RB,RS, fx138,p1,p2,p3,p4,reduceIte,p5,p6,p7,p8]
  refine CondH.mk (fun c1 => ?_) (fun c1 => ?_)
  · replace h := run_t c1 h
    try simp only [↓RA,RB,RS, fx138,p1,p2,p3,p4,reduceIte,p5,p6,p7,p8, c1]
    obtain ⟨v6, hv6, h⟩ := run_bind h
    refine ShrH.mk hv6 ?_
    try simp only [↓RA,RB,RS, fx138,p1,p2,p3,p4,reduceIte,p5,p6,p7,p8, c1]
    refine CondH.mk (fun c2 => ?_) (fun c2 => ?_)
    · replace h := run_t c2 h
      try simp only [↓RA,RB,RS, fx138,p1,p2,p3,p4,reduceIte,p5,p6,p7,p8, c1, c2]
      obtain ⟨v10, hv10, h⟩ := run_bind h
      refine ShrH.mk hv10 ?_
      try simp only [↓RA,RB,RS, fx138,p1,p2,p3,p4,reduceIte,p5,p6,p7,p8, c1, c2]
      refine CondH.mk (fun c3 => ?_) (fun c3 => ?_)
      · replace h := run_t c3 h
        try simp only [↓RA,RB,RS, fx138,p1,p2,p3,p4,reduceIte,p5,p6,p7,p8, c1, c2, c3]
        obtain ⟨v16, hv16, h⟩ := run_bind h
        refine ShrH.mk hv16 ?_
        try simp only [↓RA,RB,RS, fx138,p1,p2,p3,p4,reduceIte,p5,p6,p7,p8, c1, c2, c3]
        obtain ⟨v22, hv22, h⟩ := run_bind h
        refine SidxH.mk hv22 ?_
        try simp only [↓RA,RB,RS, fx138,p1,p2,p3,p4,reduceIte,p5,p6,p7,p8, c1, c2, c3]
        have h := run_some h
        obtain rfl : _ = r := h
        refine FinH.l ?_
        try simp only [↓RA,RB,RS, fx138,p1,p2,p3,p4,reduceIte,p5,p6,p7,p8, c1, c2, c3]
      · replace h := run_f c3 h
        try simp only [↓RA,RB,RS, fx138,p1,p2,p3,p4,reduceIte,p5,p6,p7,p8, c1, c2, c3]
        obtain ⟨v22, hv22, h⟩ := run_bind h
        refine SidxH.mk hv22 ?_
        try simp only [↓RA,RB,RS, fx138,p1,p2,p3,p4,reduceIte,p5,p6,p7,p8, c1, c2, c3]
        have h := run_some h
        obtain rfl : _ = r := h
        refine FinH.l ?_
        try simp only [↓RA,RB,RS, fx138,p1,p2,p3,p4,reduceIte,p5,p6,p7,p8, c1, c2, c3]
    · replace h := run_f c2 h
      try simp only [↓RA,RB,RS, fx138,p1,p2,p3,p4,reduceIte,p5,p6,p7,p8, c1, c2]
      refine CondH.mk (fun c4 => ?_) (fun c4 => ?_)
      · replace h := run_t c4 h
        try simp only [↓RA,RB,RS, fx138,p1,p2,p3,p4,reduceIte,p5,p6,p7,p8, c1, c2, c4]
        obtain ⟨v16, hv16, h⟩ := run_bind h
        refine ShrH.mk hv16 ?_
        try simp only [↓RA,RB,RS, fx138,p1,p2,p3,p4,reduceIte,p5,p6,p7,p8, c1, c2, c4]
        obtain ⟨v22, hv22, h⟩ := run_bind h
        refine SidxH.mk hv22 ?_
        try simp only [↓RA,RB,RS, fx138,p1,p2,p3,p4,reduceIte,p5,p6,p7,p8, c1, c2, c4]
        have h := run_some h
        obtain rfl : _ = r := h
        refine FinH.l ?_
        try simp only [↓RA,RB,RS, fx138,p1,p2,p3,p4,reduceIte,p5,p6,p7,p8, c1, c2, c4]
      · replace h := run_f c4 h
        try simp only [↓RA,RB,RS, fx138,p1,p2,p3,p4,reduceIte,p5,p6,p7,p8, c1, c2, c4]
        obtain ⟨v22, hv22, h⟩ := run_bind h
        refine SidxH.mk hv22 ?_
        try simp only [↓RA,RB,RS, fx138,p1,p2,p3,p4,reduceIte,p5,p6,p7,p8, c1, c2, c4]
        have h := run_some h
        obtain rfl : _ = r := h
        refine FinH.l ?_
        try simp only [↓RA,RB,RS, fx138,p1,p2,p3,p4,reduceIte,p5,p6,p7,p8, c1, c2, c4]
  · replace h := run_f c1 h
    try simp only [↓RA,RB,RS, fx138,p1,p2,p3,p4,reduceIte,p5,p6,p7,p8, c1]
    refine CondH.mk (fun c5 => ?_) (fun c5 => ?_)
    · replace h := run_t c5 h
      try simp only [↓RA,RB,RS, fx138,p1,p2,p3,p4,reduceIte,p5,p6,p7,p8, c1, c5]
      obtain ⟨v10, hv10, h⟩ := run_bind h
      refine ShrH.mk hv10 ?_
      try simp only [↓RA,RB,RS, fx138,p1,p2,p3,p4,reduceIte,p5,p6,p7,p8, c1, c5]
      refine CondH.mk (fun c6 => ?_) (fun c6 => ?_)
      · replace h := run_t c6 h
        try simp only [↓RA,RB,RS, fx138,p1,p2,p3,p4,reduceIte,p5,p6,p7,p8, c1, c5, c6]
        obtain ⟨v16, hv16, h⟩ := run_bind h
        refine ShrH.mk hv16 ?_
        try simp only [↓RA,RB,RS, fx138,p1,p2,p3,p4,reduceIte,p5,p6,p7,p8, c1, c5, c6]
        obtain ⟨v22, hv22, h⟩ := run_bind h
        refine SidxH.mk hv22 ?_
        try simp only [↓RA,RB,RS, fx138,p1,p2,p3,p4,reduceIte,p5,p6,p7,p8, c1, c5, c6]
        have h := run_some h
        obtain rfl : _ = r := h
        refine FinH.l ?_
        try simp only [↓RA,RB,RS, fx138,p1,p2,p3,p4,reduceIte,p5,p6,p7,p8, c1, c5, c6]
      · replace h := run_f c6 h
        try simp only [↓RA,RB,RS, fx138,p1,p2,p3,p4,reduceIte,p5,p6,p7,p8, c1, c5, c6]
        obtain ⟨v22, hv22, h⟩ := run_bind h
        refine SidxH.mk hv22 ?_
        try simp only [↓RA,RB,RS, fx138,p1,p2,p3,p4,reduceIte,p5,p6,p7,p8, c1, c5, c6]
        have h := run_some h
        obtain rfl : _ = r := h
        refine FinH.l ?_
        try simp only [↓RA,RB,RS, fx138,p1,p2,p3,p4,reduceIte,p5,p6,p7,p8, c1, c5, c6]
    · replace h := run_f c5 h
      try simp only [↓RA,RB,RS, fx138,p1,p2,p3,p4,reduceIte,p5,p6,p7,p8, c1, c5]
      refine CondH.mk (fun c7 => ?_) (fun c7 => ?_)
      · replace h := run_t c7 h
        try simp only [↓RA,RB,RS, fx138,p1,p2,p3,p4,reduceIte,p5,p6,p7,p8, c1, c5, c7]
        obtain ⟨v16, hv16, h⟩ := run_bind h
        refine ShrH.mk hv16 ?_
        try simp only [↓RA,RB,RS, fx138,p1,p2,p3,p4,reduceIte,p5,p6,p7,p8, c1, c5, c7]
        obtain ⟨v22, hv22, h⟩ := run_bind h
        refine SidxH.mk hv22 ?_
        try simp only [↓RA,RB,RS, fx138,p1,p2,p3,p4,reduceIte,p5,p6,p7,p8, c1, c5, c7]
        have h := run_some h
        obtain rfl : _ = r := h
        refine FinH.l ?_
        try simp only [↓RA,RB,RS, fx138,p1,p2,p3,p4,reduceIte,p5,p6,p7,p8, c1, c5, c7]
      · replace h := run_f c7 h
        try simp only [↓RA,RB,RS, fx138,p1,p2,p3,p4,reduceIte,p5,p6,p7,p8, c1, c5, c7]
        obtain ⟨v22, hv22, h⟩ := run_bind h
        refine SidxH.mk hv22 ?_
        try simp only [↓RA,RB,RS, fx138,p1,p2,p3,p4,reduceIte,p5,p6,p7,p8, c1, c5, c7]
        have h := run_some h
        obtain rfl : _ = r := h
        refine FinH.l ?_
        try simp only [↓RA,RB,RS, fx138,p1,p2,p3,p4,reduceIte,p5,p6,p7,p8, c1, c5, c7]

def fx137 := @TB3
theorem strconv_log10Pow2_sat {a0 : Int}  {r : Int} (h : strconv_log10Pow2 a0 = some r) : Sat Tryz.prog 137 [(I a0)] (I r) := by
  replace h := Run.of h
  unfold strconv_log10Pow2 at h
  refine Sat.of_m (nt := 6) (rs := [.tmp 2]) (n := 100000) Tryz.func137 rfl rfl rfl rfl (by simp) ?_
  try simp only [↓RA,RB,RS, fx137,p1,p2,p3,p4,reduceIte,p5,p6,p7,p8]
  obtain ⟨v5, hv5, h⟩ := run_bind h
  refine ShrH.mk hv5 ?_
  try simp only [↓RA,RB,RS, fx137,p1,p2,p3,p4,reduceIte,p5,p6,p7,p8]
  have h := run_some h
  obtain rfl : _ = r := h
  refine FinH.l ?_
  try simp only [↓RA,RB,RS, fx137,p1,p2,p3,p4,reduceIte,p5,p6,p7,p8]

theorem strconv_bool2_int_sat {a0 : Bool}  {r : Int} (h : strconv_bool2_int a0 = some r) : Sat Tryz.prog 139 [(B a0)] (I r) := by
  replace h := Run.of h
  unfold strconv_bool2_int at h
  refine Sat.of_m (nt := 4) (rs := [.tmp 2]) (n := 100000) Tryz.func139 rfl rfl rfl rfl (by simp) ?_
  try simp only [↓RA,RB,RS,p1,p2,p3,p4,reduceIte,p5,p6,p7,p8]
  refine CondH.mk (fun c1 => ?_) (fun c1 => ?_)
  · replace h := run_t c1 h
    try simp only [↓RA,RB,RS,p1,p2,p3,p4,reduceIte,p5,p6,p7,p8, c1]
    have h := run_some h
    obtain rfl : _ = r := h
    refine FinH.l ?_
    try simp only [↓RA,RB,RS,p1,p2,p3,p4,reduceIte,p5,p6,p7,p8, c1]
  · replace h := run_f c1 h
    try simp only [↓RA,RB,RS,p1,p2,p3,p4,reduceIte,p5,p6,p7,p8, c1]
    have h := run_some h
    obtain rfl : _ = r := h
    refine FinH.l ?_
    try simp only [↓RA,RB,RS,p1,p2,p3,p4,reduceIte,p5,p6,p7,p8, c1]

def fx140 := @TB3
theorem strconv_isPowerOfTwo_sat {a0 : Int}  {r : Bool} (h : strconv_isPowerOfTwo a0 = some r) : Sat Tryz.prog 140 [(I a0)] (B r) := by
  replace h := Run.of h
  unfold strconv_isPowerOfTwo at h
  refine Sat.of_m (nt := 8) (rs := [.tmp 2]) (n := 100000) Tryz.func140 rfl rfl rfl rfl (by simp) ?_
  try simp only [↓RA,RB,RS, fx140,p1,p2,p3,p4,reduceIte,p5,p6,p7,p8]
  have h := run_some h
  obtain rfl : _ = r := h
  refine FinH.l ?_
  try simp only [↓RA,RB,RS, fx140,p1,p2,p3,p4,reduceIte,p5,p6,p7,p8]

def fx133 := A @TB3 <| A @TB5 <| A @TB9 <| A @TB66 <| A @TB114 <| A @TB117 <| A @ty_124 <| A @uk_3 <| A @uk_9 <| A @uk_66 <| @uk_114
theorem strconv_formatBits_sat {a0 : List Int} {a1 : Int} {a2 : Int} {a3 : Bool} {a4 : Bool}  {r : (List Int) × ByteArray} (h : strconv_formatBits a0 a1 a2 a3 a4 = some r) : Sat Tryz.prog 133 [(.sl false 1 (a0.map (Ik .u8))), ((Ik .u64) a1), (I a2), (B a3), (B a4)] (.tup [(.sl true 1 (r.1.map (Ik .u8))), (Sx r.2)]) := by
  replace h := Run.of h
  unfold strconv_formatBits at h
  refine Sat.of_m (nt := 102) (rs := [.tmp 10, .tmp 11]) (n := 100000) Tryz.func133 rfl rfl rfl rfl (by simp) ?_
  try simp only [↓RA,RB,RS, fx133,p1,p2,p3,p4,reduceIte,p5,p6,p7,p8]
  refine CondH.mk (fun c1 => ?_) (fun c1 => ?_)
  · replace h := run_t c1 h
    try simp only [↓RA,RB,RS, fx133,p1,p2,p3,p4,reduceIte,p5,p6,p7,p8, c1]
    exact run_none h
  · replace h := run_f c1 h
    try simp only [↓RA,RB,RS, fx133,p1,p2,p3,p4,reduceIte,p5,p6,p7,p8, c1]
    refine CondH.mk (fun c2 => ?_) (fun c2 => ?_)
    · replace h := run_t c2 h
      try simp only [↓RA,RB,RS, fx133,p1,p2,p3,p4,reduceIte,p5,p6,p7,p8, c1, c2]
      exact run_none h
    · replace h := run_f c2 h
      try simp only [↓RA,RB,RS, fx133,p1,p2,p3,p4,reduceIte,p5,p6,p7,p8, c1, c2]
      refine CondH.mk (fun c3 => ?_) (fun c3 => ?_)
      · replace h := run_t c3 h
        try simp only [↓RA,RB,RS, fx133,p1,p2,p3,p4,reduceIte,p5,p6,p7,p8, c1, c2, c3]
        exact run_none h
      · replace h := run_f c3 h
        try simp only [↓RA,RB,RS, fx133,p1,p2,p3,p4,reduceIte,p5,p6,p7,p8, c1, c2, c3]
        exact run_none h

def fx117 := A @TB2 <| A @TB3 <| A @TB4 <| A @TB5 <| A @TB9 <| A @ty_113 <| A @TB114 <| A @TB117 <| A @uk_2 <| A @uk_9 <| @uk_114
theorem strconv_FormatInt_sat {a0 : Int} {a1 : Int}  {r : ByteArray} (h : strconv_FormatInt a0 a1 = some r) : Sat Tryz.prog 117 [(I a0), (I a1)] (Sx r) := by
  replace h := Run.of h
  unfold strconv_FormatInt at h
  refine Sat.of_m (nt := 54) (rs := [.tmp 4]) (n := 100000) Tryz.func117 rfl rfl rfl rfl (by simp) ?_
  try simp only [↓RA,RB,RS, fx117,p1,p2,p3,p4,reduceIte,p5,p6,p7,p8]
  refine CondH.mk (fun c1 => ?_) (fun c1 => ?_)
  · replace h := run_t c1 h
    try simp only [↓RA,RB,RS, fx117,p1,p2,p3,p4,reduceIte,p5,p6,p7,p8, c1]
    refine CondH.mk (fun c2 => ?_) (fun c2 => ?_)
    · replace h := run_t c2 h
      try simp only [↓RA,RB,RS, fx117,p1,p2,p3,p4,reduceIte,p5,p6,p7,p8, c1, c2]
      refine CondH.mk (fun c3 => ?_) (fun c3 => ?_)
      · replace h := run_t c3 h
        try simp only [↓RA,RB,RS, fx117,p1,p2,p3,p4,reduceIte,p5,p6,p7,p8, c1, c2, c3]
        obtain ⟨v19, hv19, h⟩ := run_bind h
        refine CallH.mk [false] (strconv_small_sat hv19) ?_ ?_ <;> try simp only [↓RA,RB,RS, fx117,p1,p2,p3,p4,reduceIte,p5,p6,p7,p8, c1, c2, c3]
        have h := run_some h
        obtain rfl : _ = r := h
        refine FinH.l ?_
        try simp only [↓RA,RB,RS, fx117,p1,p2,p3,p4,reduceIte,p5,p6,p7,p8, c1, c2, c3]
      · replace h := run_f c3 h
        try simp only [↓RA,RB,RS, fx117,p1,p2,p3,p4,reduceIte,p5,p6,p7,p8, c1, c2, c3]
        exact run_none h
    · replace h := run_f c2 h
      try simp only [↓RA,RB,RS, fx117,p1,p2,p3,p4,reduceIte,p5,p6,p7,p8, c1, c2]
      exact run_none h
  · replace h := run_f c1 h
    try simp only [↓RA,RB,RS, fx117,p1,p2,p3,p4,reduceIte,p5,p6,p7,p8, c1]
    obtain ⟨v50, hv50, h⟩ := run_bind h
    refine CallH.mk [false, false, false, false, false] (strconv_formatBits_sat hv50) ?_ ?_ <;> try simp only [↓RA,RB,RS, fx117,p1,p2,p3,p4,reduceIte,p5,p6,p7,p8, c1]
    repeat (first | with_reducible refine noR_and (by repeat (first | exact noR_empty _ _ | exact noR_nilS _ _ | refine noR_mk _ _ _ _ _ rfl ?_ | refine noR_mkS _ _ _ _ _ rfl ?_)) ?_ | with_reducible refine noC_and (by repeat (first | exact noC_empty _ _ (by try simp only [↓RA,RB,RS, fx117,p1,p2,p3,p4,reduceIte,p5,p6,p7,p8]) | exact noC_nilS _ _ (by try simp only [↓RA,RB,RS, fx117,p1,p2,p3,p4,reduceIte,p5,p6,p7,p8]) | refine noC_mk _ _ _ _ _ rfl ?_ | refine noC_mkS _ _ _ _ _ rfl ?_)) ?_ | with_reducible refine and_ac ?_ | with_reducible refine And.intro (a := _ = List.range _) (by rfl) ?_)
    have h := run_some h
    obtain rfl : _ = r := h
    refine FinH.l ?_
    try simp only [↓RA,RB,RS, fx117,p1,p2,p3,p4,reduceIte,p5,p6,p7,p8, c1]

def fx99 := A @TB2 <| @TB3
theorem strconv_Itoa_99_sat {a0 : Int}  {r : ByteArray} (h : strconv_Itoa_99 a0 = some r) : Sat Tryz.prog 99 [(I a0)] (Sx r) := by
  replace h := Run.of h
  unfold strconv_Itoa_99 at h
  refine Sat.of_m (nt := 5) (rs := [.tmp 2]) (n := 100000) Tryz.func99 rfl rfl rfl rfl (by simp) ?_
  try simp only [↓RA,RB,RS, fx99,p1,p2,p3,p4,reduceIte,p5,p6,p7,p8]
  obtain ⟨v4, hv4, h⟩ := run_bind h
  refine CallH.mk [false, false] (strconv_FormatInt_sat hv4) ?_ ?_ <;> try simp only [↓RA,RB,RS, fx99,p1,p2,p3,p4,reduceIte,p5,p6,p7,p8]
  have h := run_some h
  obtain rfl : _ = r := h
  refine FinH.l ?_
  try simp only [↓RA,RB,RS, fx99,p1,p2,p3,p4,reduceIte,p5,p6,p7,p8]

def fx84 := @TB3
theorem strconv_Itoa_sat {a0 : Int}  {r : ByteArray} (h : strconv_Itoa a0 = some r) : Sat Tryz.prog 84 [(I a0)] (Sx r) := by
  replace h := Run.of h
  unfold strconv_Itoa at h
  refine Sat.of_m (nt := 5) (rs := [.tmp 2]) (n := 100000) Tryz.func84 rfl rfl rfl rfl (by simp) ?_
  try simp only [↓RA,RB,RS, fx84,p1,p2,p3,p4,reduceIte,p5,p6,p7,p8]
  obtain ⟨v4, hv4, h⟩ := run_bind h
  refine CallH.mk [false] (strconv_Itoa_99_sat hv4) ?_ ?_ <;> try simp only [↓RA,RB,RS, fx84,p1,p2,p3,p4,reduceIte,p5,p6,p7,p8]
  have h := run_some h
  obtain rfl : _ = r := h
  refine FinH.l ?_
  try simp only [↓RA,RB,RS, fx84,p1,p2,p3,p4,reduceIte,p5,p6,p7,p8]

def fx60 := A @TB3 <| A @TB9 <| A @TB32 <| A @TB34 <| @mixedT
theorem impl_variableOf_sat {a0 : Term}  {r : Int} (h : impl_variableOf a0 = some r) : Sat Tryz.prog 60 [((Term.pv false) a0)] (I r) := by
  replace h := Run.of h
  unfold impl_variableOf at h
  refine Sat.of_m (nt := 21) (rs := [.tmp 2]) (n := 100000) Tryz.func60 rfl rfl rfl rfl (by simp) ?_
  try simp only [↓RA,RB,RS, fx60,p1,p2,p3,p4,reduceIte,p5,p6,p7,p8]
  repeat (first | with_reducible refine noR_and (by repeat (first | exact noR_empty _ _ | exact noR_nilS _ _ | refine noR_mk _ _ _ _ _ rfl ?_ | refine noR_mkS _ _ _ _ _ rfl ?_)) ?_ | with_reducible refine noC_and (by repeat (first | exact noC_empty _ _ (by try simp only [↓RA,RB,RS, fx60,p1,p2,p3,p4,reduceIte,p5,p6,p7,p8]) | exact noC_nilS _ _ (by try simp only [↓RA,RB,RS, fx60,p1,p2,p3,p4,reduceIte,p5,p6,p7,p8]) | refine noC_mk _ _ _ _ _ rfl ?_ | refine noC_mkS _ _ _ _ _ rfl ?_)) ?_ | with_reducible refine and_ac ?_ | with_reducible refine And.intro (a := _ = List.range _) (by rfl) ?_)
  replace h := run_loop h
  refine Mg.whileN h (fun s2 => [(1, .box (.pv ((Term.pv false) a0))), (3, .val (.pv (I s2)))]) (fun s2 => []) (St.le_mk2 (by try simp only [↓RA,RB,RS, fx60,p1,p2,p3,p4,reduceIte,p5,p6,p7,p8])) (fun n2 s2 h => ?_)
  try simp only [↓RA,RB,RS, fx60,p1,p2,p3,p4,reduceIte,p5,p6,p7,p8]
  refine CondH.mk (fun c1 => ?_) (fun c1 => ?_)
  · replace h := run_t c1 h
    try simp only [↓RA,RB,RS, fx60,p1,p2,p3,p4,reduceIte,p5,p6,p7,p8, c1]
    refine CondH.mk (fun c2 => ?_) (fun c2 => ?_)
    · replace h := run_t c2 h
      try simp only [↓RA,RB,RS, fx60,p1,p2,p3,p4,reduceIte,p5,p6,p7,p8, c1, c2]
      obtain ⟨v16, hv16, h⟩ := run_bind h
      refine CallH.mk [false] (strconv_Itoa_sat hv16) ?_ ?_ <;> try simp only [↓RA,RB,RS, fx60,p1,p2,p3,p4,reduceIte,p5,p6,p7,p8, c1, c2]
      obtain ⟨v17, hv17, h⟩ := run_bind h
      refine SappH.mk hv17 ?_
      try simp only [↓RA,RB,RS, fx60,p1,p2,p3,p4,reduceIte,p5,p6,p7,p8, c1, c2]
      refine And.intro (DrawH.none (by rfl) (by first | rfl | (try simp only [↓RA,RB,RS, fx60,p1,p2,p3,p4,reduceIte,p5,p6,p7,p8] <;> rfl)) (by first | rfl | (try simp only [↓RA,RB,RS, fx60,p1,p2,p3,p4,reduceIte,p5,p6,p7,p8] <;> rfl)) (by first | rfl | (try simp only [↓RA,RB,RS, fx60,p1,p2,p3,p4,reduceIte,p5,p6,p7,p8] <;> rfl))) ?_
      try simp only [↓RA,RB,RS, fx60,p1,p2,p3,p4,reduceIte,p5,p6,p7,p8, c1, c2]
      refine CondH.mk (fun c3 => ?_) (fun c3 => ?_)
      · replace h := run_t c3 h
        try simp only [↓RA,RB,RS, fx60,p1,p2,p3,p4,reduceIte,p5,p6,p7,p8, c1, c2, c3]
        have h := run_some h
        obtain rfl : _ = r := h
        refine FinH.l ?_
        try simp only [↓RA,RB,RS, fx60,p1,p2,p3,p4,reduceIte,p5,p6,p7,p8, c1, c2, c3]
      · replace h := run_f c3 h
        try simp only [↓RA,RB,RS, fx60,p1,p2,p3,p4,reduceIte,p5,p6,p7,p8, c1, c2, c3]
        have h := run_some h
        refine RdH.mk ⟨_, h, ?_⟩
        refine St.le_mk2 ?_
        try simp only [↓RA,RB,RS, fx60,p1,p2,p3,p4,reduceIte,p5,p6,p7,p8, c1, c2, c3]
    · replace h := run_f c2 h
      try simp only [↓RA,RB,RS, fx60,p1,p2,p3,p4,reduceIte,p5,p6,p7,p8, c1, c2]
      refine And.intro (DrawH.none (by rfl) (by first | rfl | (try simp only [↓RA,RB,RS, fx60,p1,p2,p3,p4,reduceIte,p5,p6,p7,p8] <;> rfl)) (by first | rfl | (try simp only [↓RA,RB,RS, fx60,p1,p2,p3,p4,reduceIte,p5,p6,p7,p8] <;> rfl)) (by first | rfl | (try simp only [↓RA,RB,RS, fx60,p1,p2,p3,p4,reduceIte,p5,p6,p7,p8] <;> rfl))) ?_
      try simp only [↓RA,RB,RS, fx60,p1,p2,p3,p4,reduceIte,p5,p6,p7,p8, c1, c2]
      have h := run_some h
      refine RdH.mk ⟨_, h, ?_⟩
      refine St.le_mk2 ?_
      try simp only [↓RA,RB,RS, fx60,p1,p2,p3,p4,reduceIte,p5,p6,p7,p8, c1, c2]
  · replace h := run_f c1 h
    try simp only [↓RA,RB,RS, fx60,p1,p2,p3,p4,reduceIte,p5,p6,p7,p8, c1]
    have h := run_some h
    have h := run_some h
    obtain rfl : _ = r := h
    refine FinH.l ?_
    try simp only [↓RA,RB,RS, fx60,p1,p2,p3,p4,reduceIte,p5,p6,p7,p8, c1]

def fx29 := A @TB3 <| A @TB4 <| A @TB28 <| A @TB32 <| A @TB34 <| @TB37
theorem impl_variablesOf_sat {a0 : Formula}  {r : (List Int) × Bool} (h : impl_variablesOf a0 = some r) : Sat Tryz.prog 29 [((Formula.pv false) a0)] (.tup [(.sl true 1 (r.1.map I)), (B r.2)]) := by
  replace h := Run.of h
  unfold impl_variablesOf at h
  refine Sat.of_m (nt := 34) (rs := [.tmp 2, .tmp 3]) (n := 100000) Tryz.func29 rfl rfl rfl rfl (by simp) ?_
  try simp only [↓RA,RB,RS, fx29,p1,p2,p3,p4,reduceIte,p5,p6,p7,p8]
  repeat (first | with_reducible refine noR_and (by repeat (first | exact noR_empty _ _ | exact noR_nilS _ _ | refine noR_mk _ _ _ _ _ rfl ?_ | refine noR_mkS _ _ _ _ _ rfl ?_)) ?_ | with_reducible refine noC_and (by repeat (first | exact noC_empty _ _ (by try simp only [↓RA,RB,RS, fx29,p1,p2,p3,p4,reduceIte,p5,p6,p7,p8]) | exact noC_nilS _ _ (by try simp only [↓RA,RB,RS, fx29,p1,p2,p3,p4,reduceIte,p5,p6,p7,p8]) | refine noC_mk _ _ _ _ _ rfl ?_ | refine noC_mkS _ _ _ _ _ rfl ?_)) ?_ | with_reducible refine and_ac ?_ | with_reducible refine And.intro (a := _ = List.range _) (by rfl) ?_)
  obtain ⟨v9, hv9, h⟩ := run_bind h
  refine CallH.mk [false] (impl_IsValidFormula_sat hv9) ?_ ?_ <;> try simp only [↓RA,RB,RS, fx29,p1,p2,p3,p4,reduceIte,p5,p6,p7,p8]
  refine CondH.mk (fun c1 => ?_) (fun c1 => ?_)
  · replace h := run_t c1 h
    try simp only [↓RA,RB,RS, fx29,p1,p2,p3,p4,reduceIte,p5,p6,p7,p8, c1]
    repeat (first | with_reducible refine noR_and (by repeat (first | exact noR_empty _ _ | exact noR_nilS _ _ | refine noR_mk _ _ _ _ _ rfl ?_ | refine noR_mkS _ _ _ _ _ rfl ?_)) ?_ | with_reducible refine noC_and (by repeat (first | exact noC_empty _ _ (by try simp only [↓RA,RB,RS, fx29,p1,p2,p3,p4,reduceIte,p5,p6,p7,p8]) | exact noC_nilS _ _ (by try simp only [↓RA,RB,RS, fx29,p1,p2,p3,p4,reduceIte,p5,p6,p7,p8]) | refine noC_mk _ _ _ _ _ rfl ?_ | refine noC_mkS _ _ _ _ _ rfl ?_)) ?_ | with_reducible refine and_ac ?_ | with_reducible refine And.intro (a := _ = List.range _) (by rfl) ?_)
    obtain ⟨v14, hv14, h⟩ := run_bind h
    refine CallH.mk [false, false] (impl_hasOp_sat hv14) ?_ ?_ <;> try simp only [↓RA,RB,RS, fx29,p1,p2,p3,p4,reduceIte,p5,p6,p7,p8, c1]
    refine CondH.mk (fun c2 => ?_) (fun c2 => ?_)
    · replace h := run_t c2 h
      try simp only [↓RA,RB,RS, fx29,p1,p2,p3,p4,reduceIte,p5,p6,p7,p8, c1, c2]
      have h := run_some h
      obtain rfl : _ = r := h
      refine FinH.l ?_
      try simp only [↓RA,RB,RS, fx29,p1,p2,p3,p4,reduceIte,p5,p6,p7,p8, c1, c2]
    · replace h := run_f c2 h
      try simp only [↓RA,RB,RS, fx29,p1,p2,p3,p4,reduceIte,p5,p6,p7,p8, c1, c2]
      repeat (first | with_reducible refine noR_and (by repeat (first | exact noR_empty _ _ | exact noR_nilS _ _ | refine noR_mk _ _ _ _ _ rfl ?_ | refine noR_mkS _ _ _ _ _ rfl ?_)) ?_ | with_reducible refine noC_and (by repeat (first | exact noC_empty _ _ (by try simp only [↓RA,RB,RS, fx29,p1,p2,p3,p4,reduceIte,p5,p6,p7,p8]) | exact noC_nilS _ _ (by try simp only [↓RA,RB,RS, fx29,p1,p2,p3,p4,reduceIte,p5,p6,p7,p8]) | refine noC_mk _ _ _ _ _ rfl ?_ | refine noC_mkS _ _ _ _ _ rfl ?_)) ?_ | with_reducible refine and_ac ?_ | with_reducible refine And.intro (a := _ = List.range _) (by rfl) ?_)
      obtain ⟨v18, hv18, h⟩ := run_bind h
      refine CallH.mk [false] (impl_atomsOf_sat hv18) ?_ ?_ <;> try simp only [↓RA,RB,RS, fx29,p1,p2,p3,p4,reduceIte,p5,p6,p7,p8, c1, c2]
      repeat (first | with_reducible refine noR_and (by repeat (first | exact noR_empty _ _ | exact noR_nilS _ _ | refine noR_mk _ _ _ _ _ rfl ?_ | refine noR_mkS _ _ _ _ _ rfl ?_)) ?_ | with_reducible refine noC_and (by repeat (first | exact noC_empty _ _ (by try simp only [↓RA,RB,RS, fx29,p1,p2,p3,p4,reduceIte,p5,p6,p7,p8]) | exact noC_nilS _ _ (by try simp only [↓RA,RB,RS, fx29,p1,p2,p3,p4,reduceIte,p5,p6,p7,p8]) | refine noC_mk _ _ _ _ _ rfl ?_ | refine noC_mkS _ _ _ _ _ rfl ?_)) ?_ | with_reducible refine and_ac ?_ | with_reducible refine And.intro (a := _ = List.range _) (by rfl) ?_)
      refine Mg.know_own (sz := 2) (es := v18.map (Term.pv false)) 288 (by try simp only [↓RA,RB,RS, fx29,p1,p2,p3,p4,reduceIte,p5,p6,p7,p8, c1, c2]) fun hl288 => ?_; rw [List.length_map] at hl288
      replace h := run_loop h
      refine Mg.forN h (fun i5 s5 => [(4, .val (.own 256)), (18, .val (.own 288)), (19, .val (.pv (I (v18.length : Int)))), (20, .val (.pv (I (i5 : Int))))]) (fun i5 s5 => [(256, (1, s5.map I)), (288, (2, v18.map (Term.pv false)))]) (St.le_mk2 (by try simp only [↓RA,RB,RS, fx29,p1,p2,p3,p4,reduceIte,p5,p6,p7,p8, c1, c2])) (fun i5 s5 hi h => ?_) (fun s5 h => ?_)
      · have w5 := wrap_succ (i := i5) (by omega)
        try simp only [↓RA,RB,RS, fx29,p1,p2,p3,p4,reduceIte,p5,p6,p7,p8, c1, c2]
        refine CondH.tt (decide_eq_true (by omega)) (fun c3 => ?_)
        try simp only [↓RA,RB,RS, fx29,p1,p2,p3,p4,reduceIte,p5,p6,p7,p8, c1, c2, c3]
        obtain ⟨v22, hv22, h⟩ := run_bind h
        refine IdxH.mk (f := (Term.pv false)) hv22 ?_ ?_ <;> try simp only [↓RA,RB,RS, fx29,p1,p2,p3,p4,reduceIte,p5,p6,p7,p8, c1, c2, c3]
        obtain ⟨v23, hv23, h⟩ := run_bind h
        refine EldH.mk (f := (Term.pv false)) hv23 rfl ?_ ?_ <;> try simp only [↓RA,RB,RS, fx29,p1,p2,p3,p4,reduceIte,p5,p6,p7,p8, c1, c2, c3]
        repeat (first | with_reducible refine noR_and (by repeat (first | exact noR_empty _ _ | exact noR_nilS _ _ | refine noR_mk _ _ _ _ _ rfl ?_ | refine noR_mkS _ _ _ _ _ rfl ?_)) ?_ | with_reducible refine noC_and (by repeat (first | exact noC_empty _ _ (by try simp only [↓RA,RB,RS, fx29,p1,p2,p3,p4,reduceIte,p5,p6,p7,p8]) | exact noC_nilS _ _ (by try simp only [↓RA,RB,RS, fx29,p1,p2,p3,p4,reduceIte,p5,p6,p7,p8]) | refine noC_mk _ _ _ _ _ rfl ?_ | refine noC_mkS _ _ _ _ _ rfl ?_)) ?_ | with_reducible refine and_ac ?_ | with_reducible refine And.intro (a := _ = List.range _) (by rfl) ?_)
        obtain ⟨v25, hv25, h⟩ := run_bind h
        refine CallH.mk [false] (impl_variableOf_sat hv25) ?_ ?_ <;> try simp only [↓RA,RB,RS, fx29,p1,p2,p3,p4,reduceIte,p5,p6,p7,p8, c1, c2, c3]
        refine CondH.mk (fun c4 => ?_) (fun c4 => ?_)
        · replace h := run_t c4 h
          try simp only [↓RA,RB,RS, fx29,p1,p2,p3,p4,reduceIte,p5,p6,p7,p8, c1, c2, c3, c4]
          have h := run_some h
          obtain rfl : _ = r := h
          refine FinH.l ?_
          try simp only [↓RA,RB,RS, fx29,p1,p2,p3,p4,reduceIte,p5,p6,p7,p8, c1, c2, c3, c4]
        · replace h := run_f c4 h
          try simp only [↓RA,RB,RS, fx29,p1,p2,p3,p4,reduceIte,p5,p6,p7,p8, c1, c2, c3, c4]
          repeat (first | with_reducible refine noR_and (by repeat (first | exact noR_empty _ _ | exact noR_nilS _ _ | refine noR_mk _ _ _ _ _ rfl ?_ | refine noR_mkS _ _ _ _ _ rfl ?_)) ?_ | with_reducible refine noC_and (by repeat (first | exact noC_empty _ _ (by try simp only [↓RA,RB,RS, fx29,p1,p2,p3,p4,reduceIte,p5,p6,p7,p8]) | exact noC_nilS _ _ (by try simp only [↓RA,RB,RS, fx29,p1,p2,p3,p4,reduceIte,p5,p6,p7,p8]) | refine noC_mk _ _ _ _ _ rfl ?_ | refine noC_mkS _ _ _ _ _ rfl ?_)) ?_ | with_reducible refine and_ac ?_ | with_reducible refine And.intro (a := _ = List.range _) (by rfl) ?_)
          obtain ⟨v31, hv31, h⟩ := run_bind h
          refine AppH.mk (f := I) (fun _ => rfl) hv31 ?_ ?_ ?_ <;> try simp only [↓RA,RB,RS, fx29,p1,p2,p3,p4,reduceIte,p5,p6,p7,p8, c1, c2, c3, c4]
          repeat (first | with_reducible refine noR_and (by repeat (first | exact noR_empty _ _ | exact noR_nilS _ _ | refine noR_mk _ _ _ _ _ rfl ?_ | refine noR_mkS _ _ _ _ _ rfl ?_)) ?_ | with_reducible refine noC_and (by repeat (first | exact noC_empty _ _ (by try simp only [↓RA,RB,RS, fx29,p1,p2,p3,p4,reduceIte,p5,p6,p7,p8]) | exact noC_nilS _ _ (by try simp only [↓RA,RB,RS, fx29,p1,p2,p3,p4,reduceIte,p5,p6,p7,p8]) | refine noC_mk _ _ _ _ _ rfl ?_ | refine noC_mkS _ _ _ _ _ rfl ?_)) ?_ | with_reducible refine and_ac ?_ | with_reducible refine And.intro (a := _ = List.range _) (by rfl) ?_)
          have h := run_some h
          refine RdH.mk ⟨_, h, ?_⟩
          refine St.le_trans (St.le_mk (S := [(4, .val (.own 496)), (18, .val (.own 288)), (19, .val (.pv (I (v18.length : Int)))), (20, .val (.pv (I (IntKind.i64.wrap ((i5 : Int) + (1 : Int))))))]) (O := [(496, (1, v31.map I)), (288, (2, v18.map (Term.pv false)))]) (by try simp only [↓RA,RB,RS, fx29,p1,p2,p3,p4,reduceIte,p5,p6,p7,p8, c1, c2, c3, c4, w5]) (by try simp only [↓RA,RB,RS, fx29,p1,p2,p3,p4,reduceIte,p5,p6,p7,p8, c1, c2, c3, c4, w5])) ?_
          refine St.le_rn 496 256 (by decide) (by repeat (first | exact noC_empty _ _ (by try simp only [↓RA,RB,RS, fx29,p1,p2,p3,p4,reduceIte,p5,p6,p7,p8]) | exact noC_nilS _ _ (by try simp only [↓RA,RB,RS, fx29,p1,p2,p3,p4,reduceIte,p5,p6,p7,p8]) | refine noC_mk _ _ _ _ _ rfl ?_ | refine noC_mkS _ _ _ _ _ rfl ?_)) ?_
          refine St.le_mk2 ?_
          try simp only [↓RA,RB,RS, fx29,p1,p2,p3,p4,reduceIte,p5,p6,p7,p8, c1, c2, c3, c4, w5]
      · try simp only [↓RA,RB,RS, fx29,p1,p2,p3,p4,reduceIte,p5,p6,p7,p8, c1, c2]
        refine CondH.ff (decide_eq_false (by omega)) (fun c5 => ?_)
        try simp only [↓RA,RB,RS, fx29,p1,p2,p3,p4,reduceIte,p5,p6,p7,p8, c1, c2, c5]
        have h := run_some h
        obtain rfl : _ = r := h
        refine FinH.l ?_
        try simp only [↓RA,RB,RS, fx29,p1,p2,p3,p4,reduceIte,p5,p6,p7,p8, c1, c2, c5]
  · replace h := run_f c1 h
    try simp only [↓RA,RB,RS, fx29,p1,p2,p3,p4,reduceIte,p5,p6,p7,p8, c1]
    have h := run_some h
    obtain rfl : _ = r := h
    refine FinH.l ?_
    try simp only [↓RA,RB,RS, fx29,p1,p2,p3,p4,reduceIte,p5,p6,p7,p8, c1]

def fx62 := @TB3
theorem impl_absolute_sat {a0 : Int}  {r : Int} (h : impl_absolute a0 = some r) : Sat Tryz.prog 62 [(I a0)] (I r) := by
  replace h := Run.of h
  unfold impl_absolute at h
  refine Sat.of_m (nt := 7) (rs := [.tmp 2]) (n := 100000) Tryz.func62 rfl rfl rfl rfl (by simp) ?_
  try simp only [↓RA,RB,RS, fx62,p1,p2,p3,p4,reduceIte,p5,p6,p7,p8]
  have h := run_some h
  obtain rfl : _ = r := h
  refine FinH.l ?_
  try simp only [↓RA,RB,RS, fx62,p1,p2,p3,p4,reduceIte,p5,p6,p7,p8]

def fx30 := A @TB3 <| A @TB4 <| @TB28
theorem impl_isPropClause_sat {a0 : List Int}  {r : Bool} (h : impl_isPropClause a0 = some r) : Sat Tryz.prog 30 [(.sl false 1 (a0.map I))] (B r) := by
  replace h := Run.of h
  unfold impl_isPropClause at h
  refine Sat.of_m (nt := 35) (rs := [.tmp 2]) (n := 100000) Tryz.func30 rfl rfl rfl rfl (by simp) ?_
  try simp only [↓RA,RB,RS, fx30,p1,p2,p3,p4,reduceIte,p5,p6,p7,p8]
  refine Mg.know_sl (b := false) (sz := 1) (es := a0.map I) 0 (by try simp only [↓RA,RB,RS, fx30,p1,p2,p3,p4,reduceIte,p5,p6,p7,p8]) fun hl0 => ?_; rw [List.length_map] at hl0
  replace h := run_loop h
  refine Mg.forN h (fun i2 s2 => [(0, .val (.pv (.sl false 1 (a0.map I)))), (5, .val (.pv (.sl false 1 (a0.map I)))), (6, .val (.pv (I (a0.length : Int)))), (7, .val (.pv (I (i2 : Int))))]) (fun i2 s2 => []) (St.le_mk2 (by try simp only [↓RA,RB,RS, fx30,p1,p2,p3,p4,reduceIte,p5,p6,p7,p8])) (fun i2 s2 hi h => ?_) (fun s2 h => ?_)
  · have w2 := wrap_succ (i := i2) (by omega)
    try simp only [↓RA,RB,RS, fx30,p1,p2,p3,p4,reduceIte,p5,p6,p7,p8]
    refine CondH.tt (decide_eq_true (by omega)) (fun c1 => ?_)
    try simp only [↓RA,RB,RS, fx30,p1,p2,p3,p4,reduceIte,p5,p6,p7,p8, c1]
    obtain ⟨v10, hv10, h⟩ := run_bind h
    refine IdxH.mk (f := I) hv10 ?_ ?_ <;> try simp only [↓RA,RB,RS, fx30,p1,p2,p3,p4,reduceIte,p5,p6,p7,p8, c1]
    refine CondH.mk (fun c2 => ?_) (fun c2 => ?_)
    · replace h := run_t c2 h
      try simp only [↓RA,RB,RS, fx30,p1,p2,p3,p4,reduceIte,p5,p6,p7,p8, c1, c2]
      have h := run_some h
      obtain rfl : _ = r := h
      refine FinH.l ?_
      try simp only [↓RA,RB,RS, fx30,p1,p2,p3,p4,reduceIte,p5,p6,p7,p8, c1, c2]
    · replace h := run_f c2 h
      try simp only [↓RA,RB,RS, fx30,p1,p2,p3,p4,reduceIte,p5,p6,p7,p8, c1, c2]
      obtain ⟨v16, hv16, h⟩ := run_bind h
      refine CallH.mk [false, false, false] (impl_within_sat hv16) ?_ ?_ <;> try simp only [↓RA,RB,RS, fx30,p1,p2,p3,p4,reduceIte,p5,p6,p7,p8, c1, c2]
      refine CondH.mk (fun c3 => ?_) (fun c3 => ?_)
      · replace h := run_t c3 h
        try simp only [↓RA,RB,RS, fx30,p1,p2,p3,p4,reduceIte,p5,p6,p7,p8, c1, c2, c3]
        refine CondH.mk (fun c4 => ?_) (fun c4 => ?_)
        · replace h := run_t c4 h
          try simp only [↓RA,RB,RS, fx30,p1,p2,p3,p4,reduceIte,p5,p6,p7,p8, c1, c2, c3, c4]
          obtain ⟨v26, hv26, h⟩ := run_bind h
          refine IdxH.mk (f := I) hv26 ?_ ?_ <;> try simp only [↓RA,RB,RS, fx30,p1,p2,p3,p4,reduceIte,p5,p6,p7,p8, c1, c2, c3, c4]
          obtain ⟨v28, hv28, h⟩ := run_bind h
          refine CallH.mk [false] (impl_absolute_sat hv28) ?_ ?_ <;> try simp only [↓RA,RB,RS, fx30,p1,p2,p3,p4,reduceIte,p5,p6,p7,p8, c1, c2, c3, c4]
          obtain ⟨v30, hv30, h⟩ := run_bind h
          refine CallH.mk [false] (impl_absolute_sat hv30) ?_ ?_ <;> try simp only [↓RA,RB,RS, fx30,p1,p2,p3,p4,reduceIte,p5,p6,p7,p8, c1, c2, c3, c4]
          refine CondH.mk (fun c5 => ?_) (fun c5 => ?_)
          · replace h := run_t c5 h
            try simp only [↓RA,RB,RS, fx30,p1,p2,p3,p4,reduceIte,p5,p6,p7,p8, c1, c2, c3, c4, c5]
            have h := run_some h
            obtain rfl : _ = r := h
            refine FinH.l ?_
            try simp only [↓RA,RB,RS, fx30,p1,p2,p3,p4,reduceIte,p5,p6,p7,p8, c1, c2, c3, c4, c5]
          · replace h := run_f c5 h
            try simp only [↓RA,RB,RS, fx30,p1,p2,p3,p4,reduceIte,p5,p6,p7,p8, c1, c2, c3, c4, c5]
            have h := run_some h
            refine RdH.mk ⟨_, h, ?_⟩
            refine St.le_mk2 ?_
            try simp only [↓RA,RB,RS, fx30,p1,p2,p3,p4,reduceIte,p5,p6,p7,p8, c1, c2, c3, c4, c5, w2]
        · replace h := run_f c4 h
          try simp only [↓RA,RB,RS, fx30,p1,p2,p3,p4,reduceIte,p5,p6,p7,p8, c1, c2, c3, c4]
          have h := run_some h
          refine RdH.mk ⟨_, h, ?_⟩
          refine St.le_mk2 ?_
          try simp only [↓RA,RB,RS, fx30,p1,p2,p3,p4,reduceIte,p5,p6,p7,p8, c1, c2, c3, c4, w2]
      · replace h := run_f c3 h
        try simp only [↓RA,RB,RS, fx30,p1,p2,p3,p4,reduceIte,p5,p6,p7,p8, c1, c2, c3]
        have h := run_some h
        obtain rfl : _ = r := h
        refine FinH.l ?_
        try simp only [↓RA,RB,RS, fx30,p1,p2,p3,p4,reduceIte,p5,p6,p7,p8, c1, c2, c3]
  · try simp only [↓RA,RB,RS, fx30,p1,p2,p3,p4,reduceIte,p5,p6,p7,p8]
    refine CondH.ff (decide_eq_false (by omega)) (fun c6 => ?_)
    try simp only [↓RA,RB,RS, fx30,p1,p2,p3,p4,reduceIte,p5,p6,p7,p8, c6]
    have h := run_some h
    obtain rfl : _ = r := h
    refine FinH.l ?_
    try simp only [↓RA,RB,RS, fx30,p1,p2,p3,p4,reduceIte,p5,p6,p7,p8, c6]

def fx87 := A @TB4 <| @TB28
theorem impl_IsValidClauses_1_sat {a0 : List Int}  {r : Bool} (h : impl_IsValidClauses_1 a0 = some r) : Sat Tryz.prog 87 [(.sl false 1 (a0.map I))] (B r) := by
  replace h := Run.of h
  unfold impl_IsValidClauses_1 at h
  refine Sat.of_m (nt := 6) (rs := [.tmp 2]) (n := 100000) Tryz.func87 rfl rfl rfl rfl (by simp) ?_
  try simp only [↓RA,RB,RS, fx87,p1,p2,p3,p4,reduceIte,p5,p6,p7,p8]
  obtain ⟨v4, hv4, h⟩ := run_bind h
  refine CallH.mk [false] (impl_isPropClause_sat hv4) ?_ ?_ <;> try simp only [↓RA,RB,RS, fx87,p1,p2,p3,p4,reduceIte,p5,p6,p7,p8]
  have h := run_some h
  obtain rfl : _ = r := h
  refine FinH.l ?_
  try simp only [↓RA,RB,RS, fx87,p1,p2,p3,p4,reduceIte,p5,p6,p7,p8]

def fx88 := A @TB3 <| A @TB28 <| @TB45
theorem slices_IndexFunc_SSint_Sint_sat {a0 : List (List Int)} {a1 : (List Int) → Option Bool} {a1_id : FuncId} {a1_cs : List PV} (a1_ok : ∀ y0 r, a1 y0 = some r → Sat Tryz.prog a1_id ((.sl false 1 (y0.map I)) :: a1_cs) (B r)) (a1_cz : CapsOk a1_cs = True) {r : Int} (h : slices_IndexFunc_SSint_Sint a0 a1 = some r) : Sat Tryz.prog 88 [(.sl false 1 (a0.map (Lv false 1 I))), .clo a1_id a1_cs] (I r) := by
  replace h := Run.of h
  unfold slices_IndexFunc_SSint_Sint at h
  refine Sat.of_m (nt := 19) (rs := [.tmp 4]) (n := 100000) Tryz.func88 rfl rfl rfl rfl (by simp) ?_
  try simp only [↓RA,RB,RS, fx88, a1_cz,p1,p2,p3,p4,reduceIte,p5,p6,p7,p8]
  refine Mg.know_sl (b := false) (sz := 1) (es := a0.map (Lv false 1 I)) 0 (by try simp only [↓RA,RB,RS, fx88, a1_cz,p1,p2,p3,p4,reduceIte,p5,p6,p7,p8]) fun hl0 => ?_; rw [List.length_map] at hl0
  replace h := run_loop h
  refine Mg.forN h (fun i2 s2 => [(0, .val (.pv (.sl false 1 (a0.map (Lv false 1 I))))), (1, .val (.pv (.clo a1_id a1_cs))), (7, .val (.pv (I (a0.length : Int)))), (8, .val (.pv (I (i2 : Int))))]) (fun i2 s2 => []) (St.le_mk2 (by try simp only [↓RA,RB,RS, fx88, a1_cz,p1,p2,p3,p4,reduceIte,p5,p6,p7,p8])) (fun i2 s2 hi h => ?_) (fun s2 h => ?_)
  · have w2 := wrap_succ (i := i2) (by omega)
    try simp only [↓RA,RB,RS, fx88, a1_cz,p1,p2,p3,p4,reduceIte,p5,p6,p7,p8]
    refine CondH.tt (decide_eq_true (by omega)) (fun c1 => ?_)
    try simp only [↓RA,RB,RS, fx88, a1_cz,p1,p2,p3,p4,reduceIte,p5,p6,p7,p8, c1]
    obtain ⟨v14, hv14, h⟩ := run_bind h
    refine IdxH.mk (f := (Lv false 1 I)) hv14 ?_ ?_ <;> try simp only [↓RA,RB,RS, fx88, a1_cz,p1,p2,p3,p4,reduceIte,p5,p6,p7,p8, c1]
    obtain ⟨v16, hv16, h⟩ := run_bind h
    refine CallH.mk [false] (a1_ok _ _ hv16) ?_ ?_ <;> try simp only [↓RA,RB,RS, fx88, a1_cz,p1,p2,p3,p4,reduceIte,p5,p6,p7,p8, c1]
    refine CondH.mk (fun c2 => ?_) (fun c2 => ?_)
    · replace h := run_t c2 h
      try simp only [↓RA,RB,RS, fx88, a1_cz,p1,p2,p3,p4,reduceIte,p5,p6,p7,p8, c1, c2]
      have h := run_some h
      obtain rfl : _ = r := h
      refine FinH.l ?_
      try simp only [↓RA,RB,RS, fx88, a1_cz,p1,p2,p3,p4,reduceIte,p5,p6,p7,p8, c1, c2]
    · replace h := run_f c2 h
      try simp only [↓RA,RB,RS, fx88, a1_cz,p1,p2,p3,p4,reduceIte,p5,p6,p7,p8, c1, c2]
      have h := run_some h
      refine RdH.mk ⟨_, h, ?_⟩
      refine St.le_mk2 ?_
      try simp only [↓RA,RB,RS, fx88, a1_cz,p1,p2,p3,p4,reduceIte,p5,p6,p7,p8, c1, c2, w2]
  · try simp only [↓RA,RB,RS, fx88, a1_cz,p1,p2,p3,p4,reduceIte,p5,p6,p7,p8]
    refine CondH.ff (decide_eq_false (by omega)) (fun c3 => ?_)
    try simp only [↓RA,RB,RS, fx88, a1_cz,p1,p2,p3,p4,reduceIte,p5,p6,p7,p8, c3]
    have h := run_some h
    obtain rfl : _ = r := h
    refine FinH.l ?_
    try simp only [↓RA,RB,RS, fx88, a1_cz,p1,p2,p3,p4,reduceIte,p5,p6,p7,p8, c3]

def fx74 := A @TB3 <| A @TB45 <| @TB54
theorem slices_ContainsFunc_SSint_Sint_sat {a0 : List (List Int)} {a1 : (List Int) → Option Bool} {a1_id : FuncId} {a1_cs : List PV} (a1_ok : ∀ y0 r, a1 y0 = some r → Sat Tryz.prog a1_id ((.sl false 1 (y0.map I)) :: a1_cs) (B r)) (a1_cz : CapsOk a1_cs = True) {r : Bool} (h : slices_ContainsFunc_SSint_Sint a0 a1 = some r) : Sat Tryz.prog 74 [(.sl false 1 (a0.map (Lv false 1 I))), .clo a1_id a1_cs] (B r) := by
  replace h := Run.of h
  unfold slices_ContainsFunc_SSint_Sint at h
  refine Sat.of_m (nt := 9) (rs := [.tmp 4]) (n := 100000) Tryz.func74 rfl rfl rfl rfl (by simp) ?_
  try simp only [↓RA,RB,RS, fx74, a1_cz,p1,p2,p3,p4,reduceIte,p5,p6,p7,p8]
  obtain ⟨v7, hv7, h⟩ := run_bind h
  refine CallH.mk [false, false] (slices_IndexFunc_SSint_Sint_sat a1_ok a1_cz hv7) ?_ ?_ <;> try simp only [↓RA,RB,RS, fx74, a1_cz,p1,p2,p3,p4,reduceIte,p5,p6,p7,p8]
  have h := run_some h
  obtain rfl : _ = r := h
  refine FinH.l ?_
  try simp only [↓RA,RB,RS, fx74, a1_cz,p1,p2,p3,p4,reduceIte,p5,p6,p7,p8]

def fx72 := A @TB3 <| A @TB4 <| A @TB45 <| @TB54
theorem impl_IsValidClauses_sat {a0 : List (List Int)}  {r : Bool} (h : impl_IsValidClauses a0 = some r) : Sat Tryz.prog 72 [(.sl false 1 (a0.map (Lv false 1 I)))] (B r) := by
  replace h := Run.of h
  unfold impl_IsValidClauses at h
  refine Sat.of_m (nt := 11) (rs := [.tmp 2]) (n := 100000) Tryz.func72 rfl rfl rfl rfl (by simp) ?_
  try simp only [↓RA,RB,RS, fx72,p1,p2,p3,p4,reduceIte,p5,p6,p7,p8]
  refine CondH.mk (fun c1 => ?_) (fun c1 => ?_)
  · replace h := run_t c1 h
    try simp only [↓RA,RB,RS, fx72,p1,p2,p3,p4,reduceIte,p5,p6,p7,p8, c1]
    obtain ⟨v8, hv8, h⟩ := run_bind h
    refine CallH.mk [false, false] (slices_ContainsFunc_SSint_Sint_sat (fun _ _ hh => impl_IsValidClauses_1_sat hh) (by simp only [CapsOk_nil, CapsOk_cons]) hv8) ?_ ?_ <;> try simp only [↓RA,RB,RS, fx72,p1,p2,p3,p4,reduceIte,p5,p6,p7,p8, c1]
    have h := run_some h
    obtain rfl : _ = r := h
    refine FinH.l ?_
    try simp only [↓RA,RB,RS, fx72,p1,p2,p3,p4,reduceIte,p5,p6,p7,p8, c1]
  · replace h := run_f c1 h
    try simp only [↓RA,RB,RS, fx72,p1,p2,p3,p4,reduceIte,p5,p6,p7,p8, c1]
    have h := run_some h
    obtain rfl : _ = r := h
    refine FinH.l ?_
    try simp only [↓RA,RB,RS, fx72,p1,p2,p3,p4,reduceIte,p5,p6,p7,p8, c1]

def fx46 := A @TB3 <| @TB45
theorem impl_isSplit_sat {a0 : List (List Int)} {a1 : Int}  {r : Bool} (h : impl_isSplit a0 a1 = some r) : Sat Tryz.prog 46 [(.sl false 1 (a0.map (Lv false 1 I))), (I a1)] (B r) := by
  replace h := Run.of h
  unfold impl_isSplit at h
  refine Sat.of_m (nt := 13) (rs := [.tmp 4]) (n := 100000) Tryz.func46 rfl rfl rfl rfl (by simp) ?_
  try simp only [↓RA,RB,RS, fx46,p1,p2,p3,p4,reduceIte,p5,p6,p7,p8]
  obtain ⟨v6, hv6, h⟩ := run_bind h
  refine CallH.mk [false] (impl_IsValidClauses_sat hv6) ?_ ?_ <;> try simp only [↓RA,RB,RS, fx46,p1,p2,p3,p4,reduceIte,p5,p6,p7,p8]
  refine CondH.mk (fun c1 => ?_) (fun c1 => ?_)
  · replace h := run_t c1 h
    try simp only [↓RA,RB,RS, fx46,p1,p2,p3,p4,reduceIte,p5,p6,p7,p8, c1]
    obtain ⟨v11, hv11, h⟩ := run_bind h
    refine CallH.mk [false, false, false] (impl_within_sat hv11) ?_ ?_ <;> try simp only [↓RA,RB,RS, fx46,p1,p2,p3,p4,reduceIte,p5,p6,p7,p8, c1]
    have h := run_some h
    obtain rfl : _ = r := h
    refine FinH.l ?_
    try simp only [↓RA,RB,RS, fx46,p1,p2,p3,p4,reduceIte,p5,p6,p7,p8, c1]
  · replace h := run_f c1 h
    try simp only [↓RA,RB,RS, fx46,p1,p2,p3,p4,reduceIte,p5,p6,p7,p8, c1]
    have h := run_some h
    obtain rfl : _ = r := h
    refine FinH.l ?_
    try simp only [↓RA,RB,RS, fx46,p1,p2,p3,p4,reduceIte,p5,p6,p7,p8, c1]

def fx73 := A @TB3 <| A @TB28 <| @TB45
theorem impl_greatest_sat {a0 : List (List Int)}  {r : Int} (h : impl_greatest a0 = some r) : Sat Tryz.prog 73 [(.sl false 1 (a0.map (Lv false 1 I)))] (I r) := by
  replace h := Run.of h
  unfold impl_greatest at h
  refine Sat.of_m (nt := 27) (rs := [.tmp 2]) (n := 100000) Tryz.func73 rfl rfl rfl rfl (by simp) ?_
  try simp only [↓RA,RB,RS, fx73,p1,p2,p3,p4,reduceIte,p5,p6,p7,p8]
  refine Mg.know_sl (b := false) (sz := 1) (es := a0.map (Lv false 1 I)) 0 (by try simp only [↓RA,RB,RS, fx73,p1,p2,p3,p4,reduceIte,p5,p6,p7,p8]) fun hl0 => ?_; rw [List.length_map] at hl0
  replace h := run_loop h
  refine Mg.forN h (fun i3 s3 => [(3, .val (.pv (I s3))), (8, .val (.pv (.sl false 1 (a0.map (Lv false 1 I))))), (9, .val (.pv (I (a0.length : Int)))), (10, .val (.pv (I (i3 : Int))))]) (fun i3 s3 => []) (St.le_mk2 (by try simp only [↓RA,RB,RS, fx73,p1,p2,p3,p4,reduceIte,p5,p6,p7,p8])) (fun i3 s3 hi h => ?_) (fun s3 h => ?_)
  · have w3 := wrap_succ (i := i3) (by omega)
    try simp only [↓RA,RB,RS, fx73,p1,p2,p3,p4,reduceIte,p5,p6,p7,p8]
    refine CondH.tt (decide_eq_true (by omega)) (fun c1 => ?_)
    try simp only [↓RA,RB,RS, fx73,p1,p2,p3,p4,reduceIte,p5,p6,p7,p8, c1]
    obtain ⟨v12, hv12, h⟩ := run_bind h
    refine IdxH.mk (f := (Lv false 1 I)) hv12 ?_ ?_ <;> try simp only [↓RA,RB,RS, fx73,p1,p2,p3,p4,reduceIte,p5,p6,p7,p8, c1]
    refine Mg.know_sl (b := false) (sz := 1) (es := v12.map I) 5 (by try simp only [↓RA,RB,RS, fx73,p1,p2,p3,p4,reduceIte,p5,p6,p7,p8, c1]) fun hl5 => ?_; rw [List.length_map] at hl5
    replace h := run_loop h
    refine Mg.forN h (fun i6 s6 => [(3, .val (.pv (I s6))), (8, .val (.pv (.sl false 1 (a0.map (Lv false 1 I))))), (9, .val (.pv (I (a0.length : Int)))), (10, .val (.pv (I (i3 : Int)))), (14, .val (.pv (.sl false 1 (v12.map I)))), (15, .val (.pv (I (v12.length : Int)))), (16, .val (.pv (I (i6 : Int))))]) (fun i6 s6 => []) (St.le_mk2 (by try simp only [↓RA,RB,RS, fx73,p1,p2,p3,p4,reduceIte,p5,p6,p7,p8, c1])) (fun i6 s6 hi h => ?_) (fun s6 h => ?_)
    · have w6 := wrap_succ (i := i6) (by omega)
      try simp only [↓RA,RB,RS, fx73,p1,p2,p3,p4,reduceIte,p5,p6,p7,p8, c1]
      refine CondH.tt (decide_eq_true (by omega)) (fun c2 => ?_)
      try simp only [↓RA,RB,RS, fx73,p1,p2,p3,p4,reduceIte,p5,p6,p7,p8, c1, c2]
      obtain ⟨v18, hv18, h⟩ := run_bind h
      refine IdxH.mk (f := I) hv18 ?_ ?_ <;> try simp only [↓RA,RB,RS, fx73,p1,p2,p3,p4,reduceIte,p5,p6,p7,p8, c1, c2]
      obtain ⟨v22, hv22, h⟩ := run_bind h
      refine CallH.mk [false] (impl_absolute_sat hv22) ?_ ?_ <;> try simp only [↓RA,RB,RS, fx73,p1,p2,p3,p4,reduceIte,p5,p6,p7,p8, c1, c2]
      have h := run_some h
      refine RdH.mk ⟨_, h, ?_⟩
      refine St.le_mk2 ?_
      try simp only [↓RA,RB,RS, fx73,p1,p2,p3,p4,reduceIte,p5,p6,p7,p8, c1, c2, w6]
    · try simp only [↓RA,RB,RS, fx73,p1,p2,p3,p4,reduceIte,p5,p6,p7,p8, c1]
      refine CondH.ff (decide_eq_false (by omega)) (fun c3 => ?_)
      try simp only [↓RA,RB,RS, fx73,p1,p2,p3,p4,reduceIte,p5,p6,p7,p8, c1, c3]
      have h := run_some h
      refine RdH.mk ⟨_, h, ?_⟩
      refine St.le_mk2 ?_
      try simp only [↓RA,RB,RS, fx73,p1,p2,p3,p4,reduceIte,p5,p6,p7,p8, c1, c3, w3]
  · try simp only [↓RA,RB,RS, fx73,p1,p2,p3,p4,reduceIte,p5,p6,p7,p8]
    refine CondH.ff (decide_eq_false (by omega)) (fun c4 => ?_)
    try simp only [↓RA,RB,RS, fx73,p1,p2,p3,p4,reduceIte,p5,p6,p7,p8, c4]
    have h := run_some h
    obtain rfl : _ = r := h
    refine FinH.l ?_
    try simp only [↓RA,RB,RS, fx73,p1,p2,p3,p4,reduceIte,p5,p6,p7,p8, c4]

def fx47 := A @TB3 <| A @TB28 <| @TB45
theorem impl_colors_sat {a0 : List (List Int)} {a1 : Int}  {r : List Int} (h : impl_colors a0 a1 = some r) : Sat Tryz.prog 47 [(.sl false 1 (a0.map (Lv false 1 I))), (I a1)] (.sl true 1 (r.map I)) := by
  replace h := Run.of h
  unfold impl_colors at h
  refine Sat.of_m (nt := 42) (rs := [.tmp 4]) (n := 100000) Tryz.func47 rfl rfl rfl rfl (by simp) ?_
  try simp only [↓RA,RB,RS, fx47,p1,p2,p3,p4,reduceIte,p5,p6,p7,p8]
  obtain ⟨v12, hv12, h⟩ := run_bind h
  refine CallH.mk [false] (impl_greatest_sat hv12) ?_ ?_ <;> try simp only [↓RA,RB,RS, fx47,p1,p2,p3,p4,reduceIte,p5,p6,p7,p8]
  obtain ⟨n13, hn13, h⟩ := run_bind h
  refine MknH.mk hn13 ?_
  try simp only [↓RA,RB,RS, fx47,p1,p2,p3,p4,reduceIte,p5,p6,p7,p8]
  repeat (first | with_reducible refine noR_and (by repeat (first | exact noR_empty _ _ | exact noR_nilS _ _ | refine noR_mk _ _ _ _ _ rfl ?_ | refine noR_mkS _ _ _ _ _ rfl ?_)) ?_ | with_reducible refine noC_and (by repeat (first | exact noC_empty _ _ (by try simp only [↓RA,RB,RS, fx47,p1,p2,p3,p4,reduceIte,p5,p6,p7,p8]) | exact noC_nilS _ _ (by try simp only [↓RA,RB,RS, fx47,p1,p2,p3,p4,reduceIte,p5,p6,p7,p8]) | refine noC_mk _ _ _ _ _ rfl ?_ | refine noC_mkS _ _ _ _ _ rfl ?_)) ?_ | with_reducible refine and_ac ?_ | with_reducible refine And.intro (a := _ = List.range _) (by rfl) ?_)
  refine Mg.know_sl (b := false) (sz := 1) (es := a0.map (Lv false 1 I)) 0 (by try simp only [↓RA,RB,RS, fx47,p1,p2,p3,p4,reduceIte,p5,p6,p7,p8]) fun hl0 => ?_; rw [List.length_map] at hl0
  replace h := run_loop h
  refine Mg.forN h (fun i3 s3 => [(1, .val (.pv (I a1))), (5, .val (.own 208)), (14, .val (.pv (.sl false 1 (a0.map (Lv false 1 I))))), (15, .val (.pv (I (a0.length : Int)))), (16, .val (.pv (I (i3 : Int))))]) (fun i3 s3 => [(208, (1, s3.map I))]) (St.le_mk2 (by try simp only [↓RA,RB,RS, fx47,p1,p2,p3,p4,reduceIte,p5,p6,p7,p8])) (fun i3 s3 hi h => ?_) (fun s3 h => ?_)
  · have w3 := wrap_succ (i := i3) (by omega)
    try simp only [↓RA,RB,RS, fx47,p1,p2,p3,p4,reduceIte,p5,p6,p7,p8]
    refine CondH.tt (decide_eq_true (by omega)) (fun c1 => ?_)
    try simp only [↓RA,RB,RS, fx47,p1,p2,p3,p4,reduceIte,p5,p6,p7,p8, c1]
    obtain ⟨v19, hv19, h⟩ := run_bind h
    refine IdxH.mk (f := (Lv false 1 I)) hv19 ?_ ?_ <;> try simp only [↓RA,RB,RS, fx47,p1,p2,p3,p4,reduceIte,p5,p6,p7,p8, c1]
    refine CondH.mk (fun c2 => ?_) (fun c2 => ?_)
    · replace h := run_t c2 h
      try simp only [↓RA,RB,RS, fx47,p1,p2,p3,p4,reduceIte,p5,p6,p7,p8, c1, c2]
      refine Mg.know_sl (b := false) (sz := 1) (es := v19.map I) 7 (by try simp only [↓RA,RB,RS, fx47,p1,p2,p3,p4,reduceIte,p5,p6,p7,p8, c1, c2]) fun hl7 => ?_; rw [List.length_map] at hl7
      replace h := run_loop h
      refine Mg.forN h (fun i9 s9 => [(1, .val (.pv (I a1))), (5, .val (.own 208)), (8, .val (.pv (I (2 : Int)))), (14, .val (.pv (.sl false 1 (a0.map (Lv false 1 I))))), (15, .val (.pv (I (a0.length : Int)))), (16, .val (.pv (I (i3 : Int)))), (24, .val (.pv (.sl false 1 (v19.map I)))), (25, .val (.pv (I (v19.length : Int)))), (26, .val (.pv (I (i9 : Int))))]) (fun i9 s9 => [(208, (1, s9.map I))]) (St.le_mk2 (by try simp only [↓RA,RB,RS, fx47,p1,p2,p3,p4,reduceIte,p5,p6,p7,p8, c1, c2])) (fun i9 s9 hi h => ?_) (fun s9 h => ?_)
      · have w9 := wrap_succ (i := i9) (by omega)
        try simp only [↓RA,RB,RS, fx47,p1,p2,p3,p4,reduceIte,p5,p6,p7,p8, c1, c2]
        refine CondH.tt (decide_eq_true (by omega)) (fun c3 => ?_)
        try simp only [↓RA,RB,RS, fx47,p1,p2,p3,p4,reduceIte,p5,p6,p7,p8, c1, c2, c3]
        obtain ⟨v28, hv28, h⟩ := run_bind h
        refine IdxH.mk (f := I) hv28 ?_ ?_ <;> try simp only [↓RA,RB,RS, fx47,p1,p2,p3,p4,reduceIte,p5,p6,p7,p8, c1, c2, c3]
        obtain ⟨v32, hv32, h⟩ := run_bind h
        refine CallH.mk [false] (impl_absolute_sat hv32) ?_ ?_ <;> try simp only [↓RA,RB,RS, fx47,p1,p2,p3,p4,reduceIte,p5,p6,p7,p8, c1, c2, c3]
        obtain ⟨v34, hv34, h⟩ := run_bind h
        refine IdxH.mk (f := I) hv34 ?_ ?_ <;> try simp only [↓RA,RB,RS, fx47,p1,p2,p3,p4,reduceIte,p5,p6,p7,p8, c1, c2, c3]
        obtain ⟨v35, hv35, h⟩ := run_bind h
        refine EldH.mk (f := I) hv35 rfl ?_ ?_ <;> try simp only [↓RA,RB,RS, fx47,p1,p2,p3,p4,reduceIte,p5,p6,p7,p8, c1, c2, c3]
        obtain ⟨v38, hv38, h⟩ := run_bind h
        refine IdxH.mk (f := I) hv38 ?_ ?_ <;> try simp only [↓RA,RB,RS, fx47,p1,p2,p3,p4,reduceIte,p5,p6,p7,p8, c1, c2, c3]
        obtain ⟨w4, hw4, h⟩ := run_bind h
        refine EldH.mk (f := I) hw4 rfl ?_ ?_ <;> try simp only [↓RA,RB,RS, fx47,p1,p2,p3,p4,reduceIte,p5,p6,p7,p8, c1, c2, c3]
        have h := run_some h
        refine RdH.mk ⟨_, h, ?_⟩
        refine St.le_mk2 ?_
        try simp only [↓RA,RB,RS, fx47,p1,p2,p3,p4,reduceIte,p5,p6,p7,p8, c1, c2, c3, w9]
      · try simp only [↓RA,RB,RS, fx47,p1,p2,p3,p4,reduceIte,p5,p6,p7,p8, c1, c2]
        refine CondH.ff (decide_eq_false (by omega)) (fun c5 => ?_)
        try simp only [↓RA,RB,RS, fx47,p1,p2,p3,p4,reduceIte,p5,p6,p7,p8, c1, c2, c5]
        have h := run_some h
        refine RdH.mk ⟨_, h, ?_⟩
        refine St.le_mk2 ?_
        try simp only [↓RA,RB,RS, fx47,p1,p2,p3,p4,reduceIte,p5,p6,p7,p8, c1, c2, c5, w3]
    · replace h := run_f c2 h
      try simp only [↓RA,RB,RS, fx47,p1,p2,p3,p4,reduceIte,p5,p6,p7,p8, c1, c2]
      refine Mg.know_sl (b := false) (sz := 1) (es := v19.map I) 7 (by try simp only [↓RA,RB,RS, fx47,p1,p2,p3,p4,reduceIte,p5,p6,p7,p8, c1, c2]) fun hl7 => ?_; rw [List.length_map] at hl7
      replace h := run_loop h
      refine Mg.forN h (fun i9 s9 => [(1, .val (.pv (I a1))), (5, .val (.own 208)), (8, .val (.pv (I (1 : Int)))), (14, .val (.pv (.sl false 1 (a0.map (Lv false 1 I))))), (15, .val (.pv (I (a0.length : Int)))), (16, .val (.pv (I (i3 : Int)))), (24, .val (.pv (.sl false 1 (v19.map I)))), (25, .val (.pv (I (v19.length : Int)))), (26, .val (.pv (I (i9 : Int))))]) (fun i9 s9 => [(208, (1, s9.map I))]) (St.le_mk2 (by try simp only [↓RA,RB,RS, fx47,p1,p2,p3,p4,reduceIte,p5,p6,p7,p8, c1, c2])) (fun i9 s9 hi h => ?_) (fun s9 h => ?_)
      · have w9 := wrap_succ (i := i9) (by omega)
        try simp only [↓RA,RB,RS, fx47,p1,p2,p3,p4,reduceIte,p5,p6,p7,p8, c1, c2]
        refine CondH.tt (decide_eq_true (by omega)) (fun c6 => ?_)
        try simp only [↓RA,RB,RS, fx47,p1,p2,p3,p4,reduceIte,p5,p6,p7,p8, c1, c2, c6]
        obtain ⟨v28, hv28, h⟩ := run_bind h
        refine IdxH.mk (f := I) hv28 ?_ ?_ <;> try simp only [↓RA,RB,RS, fx47,p1,p2,p3,p4,reduceIte,p5,p6,p7,p8, c1, c2, c6]
        obtain ⟨v32, hv32, h⟩ := run_bind h
        refine CallH.mk [false] (impl_absolute_sat hv32) ?_ ?_ <;> try simp only [↓RA,RB,RS, fx47,p1,p2,p3,p4,reduceIte,p5,p6,p7,p8, c1, c2, c6]
        obtain ⟨v34, hv34, h⟩ := run_bind h
        refine IdxH.mk (f := I) hv34 ?_ ?_ <;> try simp only [↓RA,RB,RS, fx47,p1,p2,p3,p4,reduceIte,p5,p6,p7,p8, c1, c2, c6]
        obtain ⟨v35, hv35, h⟩ := run_bind h
        refine EldH.mk (f := I) hv35 rfl ?_ ?_ <;> try simp only [↓RA,RB,RS, fx47,p1,p2,p3,p4,reduceIte,p5,p6,p7,p8, c1, c2, c6]
        obtain ⟨v38, hv38, h⟩ := run_bind h
        refine IdxH.mk (f := I) hv38 ?_ ?_ <;> try simp only [↓RA,RB,RS, fx47,p1,p2,p3,p4,reduceIte,p5,p6,p7,p8, c1, c2, c6]
        obtain ⟨w7, hw7, h⟩ := run_bind h
        refine EldH.mk (f := I) hw7 rfl ?_ ?_ <;> try simp only [↓RA,RB,RS, fx47,p1,p2,p3,p4,reduceIte,p5,p6,p7,p8, c1, c2, c6]
        have h := run_some h
        refine RdH.mk ⟨_, h, ?_⟩
        refine St.le_mk2 ?_
        try simp only [↓RA,RB,RS, fx47,p1,p2,p3,p4,reduceIte,p5,p6,p7,p8, c1, c2, c6, w9]
      · try simp only [↓RA,RB,RS, fx47,p1,p2,p3,p4,reduceIte,p5,p6,p7,p8, c1, c2]
        refine CondH.ff (decide_eq_false (by omega)) (fun c8 => ?_)
        try simp only [↓RA,RB,RS, fx47,p1,p2,p3,p4,reduceIte,p5,p6,p7,p8, c1, c2, c8]
        have h := run_some h
        refine RdH.mk ⟨_, h, ?_⟩
        refine St.le_mk2 ?_
        try simp only [↓RA,RB,RS, fx47,p1,p2,p3,p4,reduceIte,p5,p6,p7,p8, c1, c2, c8, w3]
  · try simp only [↓RA,RB,RS, fx47,p1,p2,p3,p4,reduceIte,p5,p6,p7,p8]
    refine CondH.ff (decide_eq_false (by omega)) (fun c9 => ?_)
    try simp only [↓RA,RB,RS, fx47,p1,p2,p3,p4,reduceIte,p5,p6,p7,p8, c9]
    have h := run_some h
    obtain rfl : _ = r := h
    refine FinH.l ?_
    try simp only [↓RA,RB,RS, fx47,p1,p2,p3,p4,reduceIte,p5,p6,p7,p8, c9]

def fx48 := A @TB3 <| @TB28
theorem impl_IsInterpolant_1_sat {a0 : Int} {b0 : List Int}  {r : Bool} (h : impl_IsInterpolant_1 a0 b0 = some r) : Sat Tryz.prog 48 [(I a0), .ptr (.sl false 1 (b0.map I))] (B r) := by
  replace h := Run.of h
  unfold impl_IsInterpolant_1 at h
  refine Sat.of_m (nt := 16) (rs := [.tmp 3]) (n := 100000) Tryz.func48 rfl rfl rfl rfl (by simp) ?_
  try simp only [↓RA,RB,RS, fx48,p1,p2,p3,p4,reduceIte,p5,p6,p7,p8]
  refine CondH.mk (fun c1 => ?_) (fun c1 => ?_)
  · replace h := run_t c1 h
    try simp only [↓RA,RB,RS, fx48,p1,p2,p3,p4,reduceIte,p5,p6,p7,p8, c1]
    have h := run_some h
    obtain rfl : _ = r := h
    refine FinH.l ?_
    try simp only [↓RA,RB,RS, fx48,p1,p2,p3,p4,reduceIte,p5,p6,p7,p8, c1]
  · replace h := run_f c1 h
    try simp only [↓RA,RB,RS, fx48,p1,p2,p3,p4,reduceIte,p5,p6,p7,p8, c1]
    obtain ⟨v12, hv12, h⟩ := run_bind h
    refine IdxH.mk (f := I) hv12 ?_ ?_ <;> try simp only [↓RA,RB,RS, fx48,p1,p2,p3,p4,reduceIte,p5,p6,p7,p8, c1]
    have h := run_some h
    obtain rfl : _ = r := h
    refine FinH.l ?_
    try simp only [↓RA,RB,RS, fx48,p1,p2,p3,p4,reduceIte,p5,p6,p7,p8, c1]

def fx63 := A @TB3 <| @TB28
theorem slices_IndexFunc_Sint_int_sat {a0 : List Int} {a1 : Int → Option Bool} {a1_id : FuncId} {a1_cs : List PV} (a1_ok : ∀ y0 r, a1 y0 = some r → Sat Tryz.prog a1_id ((I y0) :: a1_cs) (B r)) (a1_cz : CapsOk a1_cs = True) {r : Int} (h : slices_IndexFunc_Sint_int a0 a1 = some r) : Sat Tryz.prog 63 [(.sl false 1 (a0.map I)), .clo a1_id a1_cs] (I r) := by
  replace h := Run.of h
  unfold slices_IndexFunc_Sint_int at h
  refine Sat.of_m (nt := 19) (rs := [.tmp 4]) (n := 100000) Tryz.func63 rfl rfl rfl rfl (by simp) ?_
  try simp only [↓RA,RB,RS, fx63, a1_cz,p1,p2,p3,p4,reduceIte,p5,p6,p7,p8]
  refine Mg.know_sl (b := false) (sz := 1) (es := a0.map I) 0 (by try simp only [↓RA,RB,RS, fx63, a1_cz,p1,p2,p3,p4,reduceIte,p5,p6,p7,p8]) fun hl0 => ?_; rw [List.length_map] at hl0
  replace h := run_loop h
  refine Mg.forN h (fun i2 s2 => [(0, .val (.pv (.sl false 1 (a0.map I)))), (1, .val (.pv (.clo a1_id a1_cs))), (7, .val (.pv (I (a0.length : Int)))), (8, .val (.pv (I (i2 : Int))))]) (fun i2 s2 => []) (St.le_mk2 (by try simp only [↓RA,RB,RS, fx63, a1_cz,p1,p2,p3,p4,reduceIte,p5,p6,p7,p8])) (fun i2 s2 hi h => ?_) (fun s2 h => ?_)
  · have w2 := wrap_succ (i := i2) (by omega)
    try simp only [↓RA,RB,RS, fx63, a1_cz,p1,p2,p3,p4,reduceIte,p5,p6,p7,p8]
    refine CondH.tt (decide_eq_true (by omega)) (fun c1 => ?_)
    try simp only [↓RA,RB,RS, fx63, a1_cz,p1,p2,p3,p4,reduceIte,p5,p6,p7,p8, c1]
    obtain ⟨v14, hv14, h⟩ := run_bind h
    refine IdxH.mk (f := I) hv14 ?_ ?_ <;> try simp only [↓RA,RB,RS, fx63, a1_cz,p1,p2,p3,p4,reduceIte,p5,p6,p7,p8, c1]
    obtain ⟨v16, hv16, h⟩ := run_bind h
    refine CallH.mk [false] (a1_ok _ _ hv16) ?_ ?_ <;> try simp only [↓RA,RB,RS, fx63, a1_cz,p1,p2,p3,p4,reduceIte,p5,p6,p7,p8, c1]
    refine CondH.mk (fun c2 => ?_) (fun c2 => ?_)
    · replace h := run_t c2 h
      try simp only [↓RA,RB,RS, fx63, a1_cz,p1,p2,p3,p4,reduceIte,p5,p6,p7,p8, c1, c2]
      have h := run_some h
      obtain rfl : _ = r := h
      refine FinH.l ?_
      try simp only [↓RA,RB,RS, fx63, a1_cz,p1,p2,p3,p4,reduceIte,p5,p6,p7,p8, c1, c2]
    · replace h := run_f c2 h
      try simp only [↓RA,RB,RS, fx63, a1_cz,p1,p2,p3,p4,reduceIte,p5,p6,p7,p8, c1, c2]
      have h := run_some h
      refine RdH.mk ⟨_, h, ?_⟩
      refine St.le_mk2 ?_
      try simp only [↓RA,RB,RS, fx63, a1_cz,p1,p2,p3,p4,reduceIte,p5,p6,p7,p8, c1, c2, w2]
  · try simp only [↓RA,RB,RS, fx63, a1_cz,p1,p2,p3,p4,reduceIte,p5,p6,p7,p8]
    refine CondH.ff (decide_eq_false (by omega)) (fun c3 => ?_)
    try simp only [↓RA,RB,RS, fx63, a1_cz,p1,p2,p3,p4,reduceIte,p5,p6,p7,p8, c3]
    have h := run_some h
    obtain rfl : _ = r := h
    refine FinH.l ?_
    try simp only [↓RA,RB,RS, fx63, a1_cz,p1,p2,p3,p4,reduceIte,p5,p6,p7,p8, c3]

def fx31 := A @TB3 <| A @TB28 <| @TB63
theorem slices_ContainsFunc_Sint_int_sat {a0 : List Int} {a1 : Int → Option Bool} {a1_id : FuncId} {a1_cs : List PV} (a1_ok : ∀ y0 r, a1 y0 = some r → Sat Tryz.prog a1_id ((I y0) :: a1_cs) (B r)) (a1_cz : CapsOk a1_cs = True) {r : Bool} (h : slices_ContainsFunc_Sint_int a0 a1 = some r) : Sat Tryz.prog 31 [(.sl false 1 (a0.map I)), .clo a1_id a1_cs] (B r) := by
  replace h := Run.of h
  unfold slices_ContainsFunc_Sint_int at h
  refine Sat.of_m (nt := 9) (rs := [.tmp 4]) (n := 100000) Tryz.func31 rfl rfl rfl rfl (by simp) ?_
  try simp only [↓RA,RB,RS, fx31, a1_cz,p1,p2,p3,p4,reduceIte,p5,p6,p7,p8]
  obtain ⟨v7, hv7, h⟩ := run_bind h
  refine CallH.mk [false, false] (slices_IndexFunc_Sint_int_sat a1_ok a1_cz hv7) ?_ ?_ <;> try simp only [↓RA,RB,RS, fx31, a1_cz,p1,p2,p3,p4,reduceIte,p5,p6,p7,p8]
  have h := run_some h
  obtain rfl : _ = r := h
  refine FinH.l ?_
  try simp only [↓RA,RB,RS, fx31, a1_cz,p1,p2,p3,p4,reduceIte,p5,p6,p7,p8]

def fx38 := A @TB3 <| @TB28
theorem impl_assignmentOf_sat {a0 : Int} {a1 : Int}  {r : List Int} (h : impl_assignmentOf a0 a1 = some r) : Sat Tryz.prog 38 [(I a0), (I a1)] (.sl true 1 (r.map I)) := by
  replace h := Run.of h
  unfold impl_assignmentOf at h
  refine Sat.of_m (nt := 31) (rs := [.tmp 4]) (n := 100000) Tryz.func38 rfl rfl rfl rfl (by simp) ?_
  try simp only [↓RA,RB,RS, fx38,p1,p2,p3,p4,reduceIte,p5,p6,p7,p8]
  obtain ⟨n8, hn8, h⟩ := run_bind h
  refine MknH.mk hn8 ?_
  try simp only [↓RA,RB,RS, fx38,p1,p2,p3,p4,reduceIte,p5,p6,p7,p8]
  repeat (first | with_reducible refine noR_and (by repeat (first | exact noR_empty _ _ | exact noR_nilS _ _ | refine noR_mk _ _ _ _ _ rfl ?_ | refine noR_mkS _ _ _ _ _ rfl ?_)) ?_ | with_reducible refine noC_and (by repeat (first | exact noC_empty _ _ (by try simp only [↓RA,RB,RS, fx38,p1,p2,p3,p4,reduceIte,p5,p6,p7,p8]) | exact noC_nilS _ _ (by try simp only [↓RA,RB,RS, fx38,p1,p2,p3,p4,reduceIte,p5,p6,p7,p8]) | refine noC_mk _ _ _ _ _ rfl ?_ | refine noC_mkS _ _ _ _ _ rfl ?_)) ?_ | with_reducible refine and_ac ?_ | with_reducible refine And.intro (a := _ = List.range _) (by rfl) ?_)
  replace h := run_loop h
  refine Mg.whileN h (fun s3 => [(0, .val (.pv (I s3.1))), (5, .val (.own 128)), (6, .val (.pv (I s3.2.2)))]) (fun s3 => [(128, (1, s3.2.1.map I))]) (St.le_mk2 (by try simp only [↓RA,RB,RS, fx38,p1,p2,p3,p4,reduceIte,p5,p6,p7,p8])) (fun n3 s3 h => ?_)
  try simp only [↓RA,RB,RS, fx38,p1,p2,p3,p4,reduceIte,p5,p6,p7,p8]
  refine CondH.mk (fun c1 => ?_) (fun c1 => ?_)
  · replace h := run_t c1 h
    try simp only [↓RA,RB,RS, fx38,p1,p2,p3,p4,reduceIte,p5,p6,p7,p8, c1]
    obtain ⟨v18, hv18, h⟩ := run_bind h
    refine IdxH.mk (f := I) hv18 ?_ ?_ <;> try simp only [↓RA,RB,RS, fx38,p1,p2,p3,p4,reduceIte,p5,p6,p7,p8, c1]
    obtain ⟨w2, hw2, h⟩ := run_bind h
    refine EldH.mk (f := I) hw2 rfl ?_ ?_ <;> try simp only [↓RA,RB,RS, fx38,p1,p2,p3,p4,reduceIte,p5,p6,p7,p8, c1]
    refine CondH.mk (fun c3 => ?_) (fun c3 => ?_)
    · replace h := run_t c3 h
      try simp only [↓RA,RB,RS, fx38,p1,p2,p3,p4,reduceIte,p5,p6,p7,p8, c1, c3]
      obtain ⟨v27, hv27, h⟩ := run_bind h
      refine IdxH.mk (f := I) hv27 ?_ ?_ <;> try simp only [↓RA,RB,RS, fx38,p1,p2,p3,p4,reduceIte,p5,p6,p7,p8, c1, c3]
      obtain ⟨w4, hw4, h⟩ := run_bind h
      refine EldH.mk (f := I) hw4 rfl ?_ ?_ <;> try simp only [↓RA,RB,RS, fx38,p1,p2,p3,p4,reduceIte,p5,p6,p7,p8, c1, c3]
      obtain ⟨v29, hv29, h⟩ := run_bind h
      refine ShrH.mk hv29 ?_
      try simp only [↓RA,RB,RS, fx38,p1,p2,p3,p4,reduceIte,p5,p6,p7,p8, c1, c3]
      have h := run_some h
      refine RdH.mk ⟨_, h, ?_⟩
      refine St.le_mk2 ?_
      try simp only [↓RA,RB,RS, fx38,p1,p2,p3,p4,reduceIte,p5,p6,p7,p8, c1, c3]
    · replace h := run_f c3 h
      try simp only [↓RA,RB,RS, fx38,p1,p2,p3,p4,reduceIte,p5,p6,p7,p8, c1, c3]
      obtain ⟨v29, hv29, h⟩ := run_bind h
      refine ShrH.mk hv29 ?_
      try simp only [↓RA,RB,RS, fx38,p1,p2,p3,p4,reduceIte,p5,p6,p7,p8, c1, c3]
      have h := run_some h
      refine RdH.mk ⟨_, h, ?_⟩
      refine St.le_mk2 ?_
      try simp only [↓RA,RB,RS, fx38,p1,p2,p3,p4,reduceIte,p5,p6,p7,p8, c1, c3]
  · replace h := run_f c1 h
    try simp only [↓RA,RB,RS, fx38,p1,p2,p3,p4,reduceIte,p5,p6,p7,p8, c1]
    have h := run_some h
    have h := run_some h
    obtain rfl : _ = r := h
    refine FinH.l ?_
    try simp only [↓RA,RB,RS, fx38,p1,p2,p3,p4,reduceIte,p5,p6,p7,p8, c1]

def fx118 := A @TB3 <| A @TB4 <| A @TB32 <| @TB34
theorem slices_EqualFunc_Simpl_Term_Simpl_Term_impl_Term_impl_Term_sat {a0 : List Term} {a1 : List Term} {a2 : Term → Term → Option Bool} {a2_id : FuncId} {a2_cs : List PV} (a2_ok : ∀ y0 y1 r, a2 y0 y1 = some r → Sat Tryz.prog a2_id (((Term.pv false) y0) :: ((Term.pv false) y1) :: a2_cs) (B r)) (a2_cz : CapsOk a2_cs = True) {r : Bool} (h : slices_EqualFunc_Simpl_Term_Simpl_Term_impl_Term_impl_Term a0 a1 a2 = some r) : Sat Tryz.prog 118 [(.sl false 2 (a0.map (Term.pv false))), (.sl false 2 (a1.map (Term.pv false))), .clo a2_id a2_cs] (B r) := by
  replace h := Run.of h
  unfold slices_EqualFunc_Simpl_Term_Simpl_Term_impl_Term_impl_Term at h
  refine Sat.of_m (nt := 32) (rs := [.tmp 6]) (n := 100000) Tryz.func118 rfl rfl rfl rfl (by simp) ?_
  try simp only [↓RA,RB,RS, fx118, a2_cz,p1,p2,p3,p4,reduceIte,p5,p6,p7,p8]
  refine CondH.mk (fun c1 => ?_) (fun c1 => ?_)
  · replace h := run_t c1 h
    try simp only [↓RA,RB,RS, fx118, a2_cz,p1,p2,p3,p4,reduceIte,p5,p6,p7,p8, c1]
    refine Mg.know_sl (b := false) (sz := 2) (es := a0.map (Term.pv false)) 0 (by try simp only [↓RA,RB,RS, fx118, a2_cz,p1,p2,p3,p4,reduceIte,p5,p6,p7,p8, c1]) fun hl0 => ?_; rw [List.length_map] at hl0
    replace h := run_loop h
    refine Mg.forN h (fun i4 s4 => [(1, .val (.pv (.sl false 2 (a1.map (Term.pv false))))), (2, .val (.pv (.clo a2_id a2_cs))), (15, .val (.pv (.sl false 2 (a0.map (Term.pv false))))), (16, .val (.pv (I (a0.length : Int)))), (17, .val (.pv (I (i4 : Int))))]) (fun i4 s4 => []) (St.le_mk2 (by try simp only [↓RA,RB,RS, fx118, a2_cz,p1,p2,p3,p4,reduceIte,p5,p6,p7,p8, c1])) (fun i4 s4 hi h => ?_) (fun s4 h => ?_)
    · have w4 := wrap_succ (i := i4) (by omega)
      try simp only [↓RA,RB,RS, fx118, a2_cz,p1,p2,p3,p4,reduceIte,p5,p6,p7,p8, c1]
      refine CondH.tt (decide_eq_true (by omega)) (fun c2 => ?_)
      try simp only [↓RA,RB,RS, fx118, a2_cz,p1,p2,p3,p4,reduceIte,p5,p6,p7,p8, c1, c2]
      obtain ⟨v20, hv20, h⟩ := run_bind h
      refine IdxH.mk (f := (Term.pv false)) hv20 ?_ ?_ <;> try simp only [↓RA,RB,RS, fx118, a2_cz,p1,p2,p3,p4,reduceIte,p5,p6,p7,p8, c1, c2]
      repeat (first | with_reducible refine noR_and (by repeat (first | exact noR_empty _ _ | exact noR_nilS _ _ | refine noR_mk _ _ _ _ _ rfl ?_ | refine noR_mkS _ _ _ _ _ rfl ?_)) ?_ | with_reducible refine noC_and (by repeat (first | exact noC_empty _ _ (by try simp only [↓RA,RB,RS, fx118, a2_cz,p1,p2,p3,p4,reduceIte,p5,p6,p7,p8]) | exact noC_nilS _ _ (by try simp only [↓RA,RB,RS, fx118, a2_cz,p1,p2,p3,p4,reduceIte,p5,p6,p7,p8]) | refine noC_mk _ _ _ _ _ rfl ?_ | refine noC_mkS _ _ _ _ _ rfl ?_)) ?_ | with_reducible refine and_ac ?_ | with_reducible refine And.intro (a := _ = List.range _) (by rfl) ?_)
      obtain ⟨v24, hv24, h⟩ := run_bind h
      refine IdxH.mk (f := (Term.pv false)) hv24 ?_ ?_ <;> try simp only [↓RA,RB,RS, fx118, a2_cz,p1,p2,p3,p4,reduceIte,p5,p6,p7,p8, c1, c2]
      repeat (first | with_reducible refine noR_and (by repeat (first | exact noR_empty _ _ | exact noR_nilS _ _ | refine noR_mk _ _ _ _ _ rfl ?_ | refine noR_mkS _ _ _ _ _ rfl ?_)) ?_ | with_reducible refine noC_and (by repeat (first | exact noC_empty _ _ (by try simp only [↓RA,RB,RS, fx118, a2_cz,p1,p2,p3,p4,reduceIte,p5,p6,p7,p8]) | exact noC_nilS _ _ (by try simp only [↓RA,RB,RS, fx118, a2_cz,p1,p2,p3,p4,reduceIte,p5,p6,p7,p8]) | refine noC_mk _ _ _ _ _ rfl ?_ | refine noC_mkS _ _ _ _ _ rfl ?_)) ?_ | with_reducible refine and_ac ?_ | with_reducible refine And.intro (a := _ = List.range _) (by rfl) ?_)
      obtain ⟨v29, hv29, h⟩ := run_bind h
      refine CallH.mk [false, false] (a2_ok _ _ _ hv29) ?_ ?_ <;> try simp only [↓RA,RB,RS, fx118, a2_cz,p1,p2,p3,p4,reduceIte,p5,p6,p7,p8, c1, c2]
      refine CondH.mk (fun c3 => ?_) (fun c3 => ?_)
      · replace h := run_t c3 h
        try simp only [↓RA,RB,RS, fx118, a2_cz,p1,p2,p3,p4,reduceIte,p5,p6,p7,p8, c1, c2, c3]
        have h := run_some h
        refine RdH.mk ⟨_, h, ?_⟩
        refine St.le_mk2 ?_
        try simp only [↓RA,RB,RS, fx118, a2_cz,p1,p2,p3,p4,reduceIte,p5,p6,p7,p8, c1, c2, c3, w4]
      · replace h := run_f c3 h
        try simp only [↓RA,RB,RS, fx118, a2_cz,p1,p2,p3,p4,reduceIte,p5,p6,p7,p8, c1, c2, c3]
        have h := run_some h
        obtain rfl : _ = r := h
        refine FinH.l ?_
        try simp only [↓RA,RB,RS, fx118, a2_cz,p1,p2,p3,p4,reduceIte,p5,p6,p7,p8, c1, c2, c3]
    · try simp only [↓RA,RB,RS, fx118, a2_cz,p1,p2,p3,p4,reduceIte,p5,p6,p7,p8, c1]
      refine CondH.ff (decide_eq_false (by omega)) (fun c4 => ?_)
      try simp only [↓RA,RB,RS, fx118, a2_cz,p1,p2,p3,p4,reduceIte,p5,p6,p7,p8, c1, c4]
      have h := run_some h
      obtain rfl : _ = r := h
      refine FinH.l ?_
      try simp only [↓RA,RB,RS, fx118, a2_cz,p1,p2,p3,p4,reduceIte,p5,p6,p7,p8, c1, c4]
  · replace h := run_f c1 h
    try simp only [↓RA,RB,RS, fx118, a2_cz,p1,p2,p3,p4,reduceIte,p5,p6,p7,p8, c1]
    have h := run_some h
    obtain rfl : _ = r := h
    refine FinH.l ?_
    try simp only [↓RA,RB,RS, fx118, a2_cz,p1,p2,p3,p4,reduceIte,p5,p6,p7,p8, c1]

def fx102 := A @TB9 <| A @TB32 <| A @TB34 <| @TB64
theorem impl_EqualTermsN_sat (n : Nat) : (∀ (a0 : Term) (a1 : Term) (r : Bool), impl_EqualTermsN n a0 a1 = some r → Sat Tryz.prog 102 [((Term.pv false) a0), ((Term.pv false) a1)] (B r)) := by
  induction n with
  | zero => exact fun _ _ _ h => by simp [impl_EqualTermsN] at h
  | succ n ih =>
    refine fun a0 a1 r h => ?_
    replace h := Run.of h
    rw [impl_EqualTermsN] at h
    refine Sat.of_m (nt := 17) (rs := [.tmp 4]) (n := 100000) Tryz.func102 rfl rfl rfl rfl (by simp) ?_
    try simp only [↓RA,RB,RS, fx102,p1,p2,p3,p4,reduceIte,p5,p6,p7,p8]
    repeat (first | with_reducible refine noR_and (by repeat (first | exact noR_empty _ _ | exact noR_nilS _ _ | refine noR_mk _ _ _ _ _ rfl ?_ | refine noR_mkS _ _ _ _ _ rfl ?_)) ?_ | with_reducible refine noC_and (by repeat (first | exact noC_empty _ _ (by try simp only [↓RA,RB,RS, fx102,p1,p2,p3,p4,reduceIte,p5,p6,p7,p8]) | exact noC_nilS _ _ (by try simp only [↓RA,RB,RS, fx102,p1,p2,p3,p4,reduceIte,p5,p6,p7,p8]) | refine noC_mk _ _ _ _ _ rfl ?_ | refine noC_mkS _ _ _ _ _ rfl ?_)) ?_ | with_reducible refine and_ac ?_ | with_reducible refine And.intro (a := _ = List.range _) (by rfl) ?_)
    refine CondH.mk (fun c1 => ?_) (fun c1 => ?_)
    · replace h := run_t c1 h
      try simp only [↓RA,RB,RS, fx102,p1,p2,p3,p4,reduceIte,p5,p6,p7,p8, c1]
      obtain ⟨v15, hv15, h⟩ := run_bind h
      refine CallH.mk [false, false, false] (slices_EqualFunc_Simpl_Term_Simpl_Term_impl_Term_impl_Term_sat (fun _ _ _ hh => ih _ _ _ hh) (by simp only [CapsOk_nil, CapsOk_cons]) hv15) ?_ ?_ <;> try simp only [↓RA,RB,RS, fx102,p1,p2,p3,p4,reduceIte,p5,p6,p7,p8, c1]
      have h := run_some h
      obtain rfl : _ = r := h
      refine FinH.l ?_
      try simp only [↓RA,RB,RS, fx102,p1,p2,p3,p4,reduceIte,p5,p6,p7,p8, c1]
    · replace h := run_f c1 h
      try simp only [↓RA,RB,RS, fx102,p1,p2,p3,p4,reduceIte,p5,p6,p7,p8, c1]
      have h := run_some h
      obtain rfl : _ = r := h
      refine FinH.l ?_
      try simp only [↓RA,RB,RS, fx102,p1,p2,p3,p4,reduceIte,p5,p6,p7,p8, c1]
theorem impl_EqualTerms_sat {a0 : Term} {a1 : Term} {r : Bool} (h : impl_EqualTerms a0 a1 = some r) : Sat Tryz.prog 102 [((Term.pv false) a0), ((Term.pv false) a1)] (B r) := by
  obtain ⟨n, hn⟩ := lim_some h
  exact (impl_EqualTermsN_sat n) _ _ _ hn

def fx101 := @TB34
theorem impl_addAtom_1_sat {a0 : Term} {b0 : Term}  {r : Bool} (h : impl_addAtom_1 a0 b0 = some r) : Sat Tryz.prog 101 [((Term.pv false) a0), .ptr ((Term.pv false) b0)] (B r) := by
  replace h := Run.of h
  unfold impl_addAtom_1 at h
  refine Sat.of_m (nt := 7) (rs := [.tmp 3]) (n := 100000) Tryz.func101 rfl rfl rfl rfl (by simp) ?_
  try simp only [↓RA,RB,RS, fx101,p1,p2,p3,p4,reduceIte,p5,p6,p7,p8]
  repeat (first | with_reducible refine noR_and (by repeat (first | exact noR_empty _ _ | exact noR_nilS _ _ | refine noR_mk _ _ _ _ _ rfl ?_ | refine noR_mkS _ _ _ _ _ rfl ?_)) ?_ | with_reducible refine noC_and (by repeat (first | exact noC_empty _ _ (by try simp only [↓RA,RB,RS, fx101,p1,p2,p3,p4,reduceIte,p5,p6,p7,p8]) | exact noC_nilS _ _ (by try simp only [↓RA,RB,RS, fx101,p1,p2,p3,p4,reduceIte,p5,p6,p7,p8]) | refine noC_mk _ _ _ _ _ rfl ?_ | refine noC_mkS _ _ _ _ _ rfl ?_)) ?_ | with_reducible refine and_ac ?_ | with_reducible refine And.intro (a := _ = List.range _) (by rfl) ?_)
  obtain ⟨v6, hv6, h⟩ := run_bind h
  refine CallH.mk [false, false] (impl_EqualTerms_sat hv6) ?_ ?_ <;> try simp only [↓RA,RB,RS, fx101,p1,p2,p3,p4,reduceIte,p5,p6,p7,p8]
  have h := run_some h
  obtain rfl : _ = r := h
  refine FinH.l ?_
  try simp only [↓RA,RB,RS, fx101,p1,p2,p3,p4,reduceIte,p5,p6,p7,p8]

def fx103 := A @TB9 <| A @TB32 <| A @TB34 <| @mixedT
def fx119 := A @TB3 <| A @TB32 <| @TB34
theorem impl_copyTermN_sat (n : Nat) : (∀ (a0 : Term) (r : Term), impl_copyTermN n a0 = some r → Sat Tryz.prog 103 [((Term.pv false) a0)] ((Term.pv true) r)) ∧ (∀ (a0 : List Term) (r : List Term), impl_copyTermsN n a0 = some r → Sat Tryz.prog 119 [(.sl false 2 (a0.map (Term.pv false)))] (.sl true 2 (r.map (Term.pv true)))) := by
  induction n with
  | zero => exact ⟨fun _ _ h => by simp [impl_copyTermN] at h, fun _ _ h => by simp [impl_copyTermsN] at h⟩
  | succ n ih =>
    refine ⟨fun a0 r h => ?_, fun a0 r h => ?_⟩
    · replace h := Run.of h
      rw [impl_copyTermN] at h
      refine Sat.of_m (nt := 9) (rs := [.cell 2 34]) (n := 100000) Tryz.func103 rfl rfl rfl rfl (by simp) ?_
      try simp only [↓RA,RB,RS, fx103,p1,p2,p3,p4,reduceIte,p5,p6,p7,p8]
      repeat (first | with_reducible refine noR_and (by repeat (first | exact noR_empty _ _ | exact noR_nilS _ _ | refine noR_mk _ _ _ _ _ rfl ?_ | refine noR_mkS _ _ _ _ _ rfl ?_)) ?_ | with_reducible refine noC_and (by repeat (first | exact noC_empty _ _ (by try simp only [↓RA,RB,RS, fx103,p1,p2,p3,p4,reduceIte,p5,p6,p7,p8]) | exact noC_nilS _ _ (by try simp only [↓RA,RB,RS, fx103,p1,p2,p3,p4,reduceIte,p5,p6,p7,p8]) | refine noC_mk _ _ _ _ _ rfl ?_ | refine noC_mkS _ _ _ _ _ rfl ?_)) ?_ | with_reducible refine and_ac ?_ | with_reducible refine And.intro (a := _ = List.range _) (by rfl) ?_)
      obtain ⟨v7, hv7, h⟩ := run_bind h
      refine CallH.mk [false] (ih.2 _ _ hv7) ?_ ?_ <;> try simp only [↓RA,RB,RS, fx103,p1,p2,p3,p4,reduceIte,p5,p6,p7,p8]
      repeat (first | with_reducible refine noR_and (by repeat (first | exact noR_empty _ _ | exact noR_nilS _ _ | refine noR_mk _ _ _ _ _ rfl ?_ | refine noR_mkS _ _ _ _ _ rfl ?_)) ?_ | with_reducible refine noC_and (by repeat (first | exact noC_empty _ _ (by try simp only [↓RA,RB,RS, fx103,p1,p2,p3,p4,reduceIte,p5,p6,p7,p8]) | exact noC_nilS _ _ (by try simp only [↓RA,RB,RS, fx103,p1,p2,p3,p4,reduceIte,p5,p6,p7,p8]) | refine noC_mk _ _ _ _ _ rfl ?_ | refine noC_mkS _ _ _ _ _ rfl ?_)) ?_ | with_reducible refine and_ac ?_ | with_reducible refine And.intro (a := _ = List.range _) (by rfl) ?_)
      refine And.intro (DrawH.mk [] [112] (by rfl) (by first | rfl | (try simp only [↓RA,RB,RS, fx103,p1,p2,p3,p4,reduceIte,p5,p6,p7,p8] <;> rfl)) (by first | rfl | (try simp only [↓RA,RB,RS, fx103,p1,p2,p3,p4,reduceIte,p5,p6,p7,p8] <;> rfl)) (by first | rfl | (try simp only [↓RA,RB,RS, fx103,p1,p2,p3,p4,reduceIte,p5,p6,p7,p8] <;> rfl)) (by simp) (by try simp only [↓RA,RB,RS, fx103,p1,p2,p3,p4,reduceIte,p5,p6,p7,p8]; repeat (first | exact noC_empty _ _ (by try simp only [↓RA,RB,RS, fx103,p1,p2,p3,p4,reduceIte,p5,p6,p7,p8]) | exact noC_nilS _ _ (by try simp only [↓RA,RB,RS, fx103,p1,p2,p3,p4,reduceIte,p5,p6,p7,p8]) | refine noC_mk _ _ _ _ _ rfl ?_ | refine noC_mkS _ _ _ _ _ rfl ?_ | refine And.intro ?_ ?_))) ?_
      try simp only [↓RA,RB,RS, fx103,p1,p2,p3,p4,reduceIte,p5,p6,p7,p8]
      have h := run_some h
      obtain rfl : _ = r := h
      refine FinH.l ?_
      try simp only [↓RA,RB,RS, fx103,p1,p2,p3,p4,reduceIte,p5,p6,p7,p8]
    · replace h := Run.of h
      rw [impl_copyTermsN] at h
      refine Sat.of_m (nt := 26) (rs := [.tmp 2]) (n := 100000) Tryz.func119 rfl rfl rfl rfl (by simp) ?_
      try simp only [↓RA,RB,RS, fx119,p1,p2,p3,p4,reduceIte,p5,p6,p7,p8]
      refine CondH.mk (fun c1 => ?_) (fun c1 => ?_)
      · replace h := run_t c1 h
        try simp only [↓RA,RB,RS, fx119,p1,p2,p3,p4,reduceIte,p5,p6,p7,p8, c1]
        have h := run_some h
        obtain rfl : _ = r := h
        refine FinH.l ?_
        try simp only [↓RA,RB,RS, fx119,p1,p2,p3,p4,reduceIte,p5,p6,p7,p8, c1]
      · replace h := run_f c1 h
        try simp only [↓RA,RB,RS, fx119,p1,p2,p3,p4,reduceIte,p5,p6,p7,p8, c1]
        obtain ⟨n11, hn11, h⟩ := run_bind h
        refine MknH.mk hn11 ?_
        try simp only [↓RA,RB,RS, fx119,p1,p2,p3,p4,reduceIte,p5,p6,p7,p8, c1]
        repeat (first | with_reducible refine noR_and (by repeat (first | exact noR_empty _ _ | exact noR_nilS _ _ | refine noR_mk _ _ _ _ _ rfl ?_ | refine noR_mkS _ _ _ _ _ rfl ?_)) ?_ | with_reducible refine noC_and (by repeat (first | exact noC_empty _ _ (by try simp only [↓RA,RB,RS, fx119,p1,p2,p3,p4,reduceIte,p5,p6,p7,p8]) | exact noC_nilS _ _ (by try simp only [↓RA,RB,RS, fx119,p1,p2,p3,p4,reduceIte,p5,p6,p7,p8]) | refine noC_mk _ _ _ _ _ rfl ?_ | refine noC_mkS _ _ _ _ _ rfl ?_)) ?_ | with_reducible refine and_ac ?_ | with_reducible refine And.intro (a := _ = List.range _) (by rfl) ?_)
        refine Mg.know_sl (b := false) (sz := 2) (es := a0.map (Term.pv false)) 0 (by try simp only [↓RA,RB,RS, fx119,p1,p2,p3,p4,reduceIte,p5,p6,p7,p8, c1]) fun hl0 => ?_; rw [List.length_map] at hl0
        replace h := run_loop h
        refine Mg.forN h (fun i5 s5 => [(3, .val (.own 176)), (12, .val (.pv (.sl false 2 (a0.map (Term.pv false))))), (13, .val (.pv (I (a0.length : Int)))), (14, .val (.pv (I (i5 : Int))))]) (fun i5 s5 => [(176, (2, s5.map (Term.pv true)))]) (St.le_mk2 (by try simp only [↓RA,RB,RS, fx119,p1,p2,p3,p4,reduceIte,p5,p6,p7,p8, c1])) (fun i5 s5 hi h => ?_) (fun s5 h => ?_)
        · have w5 := wrap_succ (i := i5) (by omega)
          try simp only [↓RA,RB,RS, fx119,p1,p2,p3,p4,reduceIte,p5,p6,p7,p8, c1]
          refine CondH.tt (decide_eq_true (by omega)) (fun c2 => ?_)
          try simp only [↓RA,RB,RS, fx119,p1,p2,p3,p4,reduceIte,p5,p6,p7,p8, c1, c2]
          obtain ⟨v17, hv17, h⟩ := run_bind h
          refine IdxH.mk (f := (Term.pv false)) hv17 ?_ ?_ <;> try simp only [↓RA,RB,RS, fx119,p1,p2,p3,p4,reduceIte,p5,p6,p7,p8, c1, c2]
          repeat (first | with_reducible refine noR_and (by repeat (first | exact noR_empty _ _ | exact noR_nilS _ _ | refine noR_mk _ _ _ _ _ rfl ?_ | refine noR_mkS _ _ _ _ _ rfl ?_)) ?_ | with_reducible refine noC_and (by repeat (first | exact noC_empty _ _ (by try simp only [↓RA,RB,RS, fx119,p1,p2,p3,p4,reduceIte,p5,p6,p7,p8]) | exact noC_nilS _ _ (by try simp only [↓RA,RB,RS, fx119,p1,p2,p3,p4,reduceIte,p5,p6,p7,p8]) | refine noC_mk _ _ _ _ _ rfl ?_ | refine noC_mkS _ _ _ _ _ rfl ?_)) ?_ | with_reducible refine and_ac ?_ | with_reducible refine And.intro (a := _ = List.range _) (by rfl) ?_)
          obtain ⟨v22, hv22, h⟩ := run_bind h
          refine CallH.mk [false] (ih.1 _ _ hv22) ?_ ?_ <;> try simp only [↓RA,RB,RS, fx119,p1,p2,p3,p4,reduceIte,p5,p6,p7,p8, c1, c2]
          repeat (first | with_reducible refine noR_and (by repeat (first | exact noR_empty _ _ | exact noR_nilS _ _ | refine noR_mk _ _ _ _ _ rfl ?_ | refine noR_mkS _ _ _ _ _ rfl ?_)) ?_ | with_reducible refine noC_and (by repeat (first | exact noC_empty _ _ (by try simp only [↓RA,RB,RS, fx119,p1,p2,p3,p4,reduceIte,p5,p6,p7,p8]) | exact noC_nilS _ _ (by try simp only [↓RA,RB,RS, fx119,p1,p2,p3,p4,reduceIte,p5,p6,p7,p8]) | refine noC_mk _ _ _ _ _ rfl ?_ | refine noC_mkS _ _ _ _ _ rfl ?_)) ?_ | with_reducible refine and_ac ?_ | with_reducible refine And.intro (a := _ = List.range _) (by rfl) ?_)
          obtain ⟨v23, hv23, h⟩ := run_bind h
          refine IdxH.mk (f := (Term.pv true)) hv23 ?_ ?_ <;> try simp only [↓RA,RB,RS, fx119,p1,p2,p3,p4,reduceIte,p5,p6,p7,p8, c1, c2]
          obtain ⟨w3, hw3, h⟩ := run_bind h
          refine EldH.mk (f := (Term.pv true)) hw3 rfl ?_ ?_ <;> try simp only [↓RA,RB,RS, fx119,p1,p2,p3,p4,reduceIte,p5,p6,p7,p8, c1, c2]
          have h := run_some h
          refine RdH.mk ⟨_, h, ?_⟩
          refine St.le_mk2 ?_
          try simp only [↓RA,RB,RS, fx119,p1,p2,p3,p4,reduceIte,p5,p6,p7,p8, c1, c2, w5]
        · try simp only [↓RA,RB,RS, fx119,p1,p2,p3,p4,reduceIte,p5,p6,p7,p8, c1]
          refine CondH.ff (decide_eq_false (by omega)) (fun c4 => ?_)
          try simp only [↓RA,RB,RS, fx119,p1,p2,p3,p4,reduceIte,p5,p6,p7,p8, c1, c4]
          have h := run_some h
          obtain rfl : _ = r := h
          refine FinH.l ?_
          try simp only [↓RA,RB,RS, fx119,p1,p2,p3,p4,reduceIte,p5,p6,p7,p8, c1, c4]
theorem impl_copyTerm_sat {a0 : Term} {r : Term} (h : impl_copyTerm a0 = some r) : Sat Tryz.prog 103 [((Term.pv false) a0)] ((Term.pv true) r) := by
  obtain ⟨n, hn⟩ := lim_some h
  exact (impl_copyTermN_sat n).1 _ _ hn
theorem impl_copyTerms_sat {a0 : List Term} {r : List Term} (h : impl_copyTerms a0 = some r) : Sat Tryz.prog 119 [(.sl false 2 (a0.map (Term.pv false)))] (.sl true 2 (r.map (Term.pv true))) := by
  obtain ⟨n, hn⟩ := lim_some h
  exact (impl_copyTermN_sat n).2 _ _ hn

def fx85 := A @TB32 <| A @TB34 <| @TB101
theorem impl_addAtom_sat {a0 : List Term} {a1 : Term}  {r : List Term} (h : impl_addAtom a0 a1 = some r) : Sat Tryz.prog 85 [(.sl true 2 (a0.map (Term.pv true))), ((Term.pv false) a1)] (.sl true 2 (r.map (Term.pv true))) := by
  replace h := Run.of h
  unfold impl_addAtom at h
  refine Sat.of_m (nt := 14) (rs := [.tmp 4]) (n := 100000) Tryz.func85 rfl rfl rfl rfl (by simp) ?_
  try simp only [↓RA,RB,RS, fx85,p1,p2,p3,p4,reduceIte,p5,p6,p7,p8]
  repeat (first | with_reducible refine noR_and (by repeat (first | exact noR_empty _ _ | exact noR_nilS _ _ | refine noR_mk _ _ _ _ _ rfl ?_ | refine noR_mkS _ _ _ _ _ rfl ?_)) ?_ | with_reducible refine noC_and (by repeat (first | exact noC_empty _ _ (by try simp only [↓RA,RB,RS, fx85,p1,p2,p3,p4,reduceIte,p5,p6,p7,p8]) | exact noC_nilS _ _ (by try simp only [↓RA,RB,RS, fx85,p1,p2,p3,p4,reduceIte,p5,p6,p7,p8]) | refine noC_mk _ _ _ _ _ rfl ?_ | refine noC_mkS _ _ _ _ _ rfl ?_)) ?_ | with_reducible refine and_ac ?_ | with_reducible refine And.intro (a := _ = List.range _) (by rfl) ?_)
  obtain ⟨v7, hv7, h⟩ := run_bind h
  refine CallH.mk [false, false] (slices_ContainsFunc_Simpl_Term_impl_Term_sat (fun _ _ hh => impl_addAtom_1_sat hh) (by simp only [CapsOk_nil, CapsOk_cons]) hv7) ?_ ?_ <;> try simp only [↓RA,RB,RS, fx85,p1,p2,p3,p4,reduceIte,p5,p6,p7,p8]
  refine CondH.mk (fun c1 => ?_) (fun c1 => ?_)
  · replace h := run_t c1 h
    try simp only [↓RA,RB,RS, fx85,p1,p2,p3,p4,reduceIte,p5,p6,p7,p8, c1]
    have h := run_some h
    obtain rfl : _ = r := h
    refine FinH.l ?_
    try simp only [↓RA,RB,RS, fx85,p1,p2,p3,p4,reduceIte,p5,p6,p7,p8, c1]
  · replace h := run_f c1 h
    try simp only [↓RA,RB,RS, fx85,p1,p2,p3,p4,reduceIte,p5,p6,p7,p8, c1]
    obtain ⟨v11, hv11, h⟩ := run_bind h
    refine CallH.mk [false] (impl_copyTerm_sat hv11) ?_ ?_ <;> try simp only [↓RA,RB,RS, fx85,p1,p2,p3,p4,reduceIte,p5,p6,p7,p8, c1]
    repeat (first | with_reducible refine noR_and (by repeat (first | exact noR_empty _ _ | exact noR_nilS _ _ | refine noR_mk _ _ _ _ _ rfl ?_ | refine noR_mkS _ _ _ _ _ rfl ?_)) ?_ | with_reducible refine noC_and (by repeat (first | exact noC_empty _ _ (by try simp only [↓RA,RB,RS, fx85,p1,p2,p3,p4,reduceIte,p5,p6,p7,p8]) | exact noC_nilS _ _ (by try simp only [↓RA,RB,RS, fx85,p1,p2,p3,p4,reduceIte,p5,p6,p7,p8]) | refine noC_mk _ _ _ _ _ rfl ?_ | refine noC_mkS _ _ _ _ _ rfl ?_)) ?_ | with_reducible refine and_ac ?_ | with_reducible refine And.intro (a := _ = List.range _) (by rfl) ?_)
    obtain ⟨v13, hv13, h⟩ := run_bind h
    refine AppH.mk (f := (Term.pv true)) (fun a => Term.psize _ a) hv13 ?_ ?_ ?_ <;> try simp only [↓RA,RB,RS, fx85,p1,p2,p3,p4,reduceIte,p5,p6,p7,p8, c1]
    repeat (first | with_reducible refine noR_and (by repeat (first | exact noR_empty _ _ | exact noR_nilS _ _ | refine noR_mk _ _ _ _ _ rfl ?_ | refine noR_mkS _ _ _ _ _ rfl ?_)) ?_ | with_reducible refine noC_and (by repeat (first | exact noC_empty _ _ (by try simp only [↓RA,RB,RS, fx85,p1,p2,p3,p4,reduceIte,p5,p6,p7,p8]) | exact noC_nilS _ _ (by try simp only [↓RA,RB,RS, fx85,p1,p2,p3,p4,reduceIte,p5,p6,p7,p8]) | refine noC_mk _ _ _ _ _ rfl ?_ | refine noC_mkS _ _ _ _ _ rfl ?_)) ?_ | with_reducible refine and_ac ?_ | with_reducible refine And.intro (a := _ = List.range _) (by rfl) ?_)
    have h := run_some h
    obtain rfl : _ = r := h
    refine FinH.l ?_
    try simp only [↓RA,RB,RS, fx85,p1,p2,p3,p4,reduceIte,p5,p6,p7,p8, c1]

def fx65 := A @TB3 <| A @TB32 <| A @TB34 <| @TB37
theorem impl_differentAtoms_sat {a0 : Formula}  {r : List Term} (h : impl_differentAtoms a0 = some r) : Sat Tryz.prog 65 [((Formula.pv false) a0)] (.sl true 2 (r.map (Term.pv true))) := by
  replace h := Run.of h
  unfold impl_differentAtoms at h
  refine Sat.of_m (nt := 19) (rs := [.tmp 2]) (n := 100000) Tryz.func65 rfl rfl rfl rfl (by simp) ?_
  try simp only [↓RA,RB,RS, fx65,p1,p2,p3,p4,reduceIte,p5,p6,p7,p8]
  repeat (first | with_reducible refine noR_and (by repeat (first | exact noR_empty _ _ | exact noR_nilS _ _ | refine noR_mk _ _ _ _ _ rfl ?_ | refine noR_mkS _ _ _ _ _ rfl ?_)) ?_ | with_reducible refine noC_and (by repeat (first | exact noC_empty _ _ (by try simp only [↓RA,RB,RS, fx65,p1,p2,p3,p4,reduceIte,p5,p6,p7,p8]) | exact noC_nilS _ _ (by try simp only [↓RA,RB,RS, fx65,p1,p2,p3,p4,reduceIte,p5,p6,p7,p8]) | refine noC_mk _ _ _ _ _ rfl ?_ | refine noC_mkS _ _ _ _ _ rfl ?_)) ?_ | with_reducible refine and_ac ?_ | with_reducible refine And.intro (a := _ = List.range _) (by rfl) ?_)
  obtain ⟨v8, hv8, h⟩ := run_bind h
  refine CallH.mk [false] (impl_atomsOf_sat hv8) ?_ ?_ <;> try simp only [↓RA,RB,RS, fx65,p1,p2,p3,p4,reduceIte,p5,p6,p7,p8]
  repeat (first | with_reducible refine noR_and (by repeat (first | exact noR_empty _ _ | exact noR_nilS _ _ | refine noR_mk _ _ _ _ _ rfl ?_ | refine noR_mkS _ _ _ _ _ rfl ?_)) ?_ | with_reducible refine noC_and (by repeat (first | exact noC_empty _ _ (by try simp only [↓RA,RB,RS, fx65,p1,p2,p3,p4,reduceIte,p5,p6,p7,p8]) | exact noC_nilS _ _ (by try simp only [↓RA,RB,RS, fx65,p1,p2,p3,p4,reduceIte,p5,p6,p7,p8]) | refine noC_mk _ _ _ _ _ rfl ?_ | refine noC_mkS _ _ _ _ _ rfl ?_)) ?_ | with_reducible refine and_ac ?_ | with_reducible refine And.intro (a := _ = List.range _) (by rfl) ?_)
  refine Mg.know_own (sz := 2) (es := v8.map (Term.pv false)) 128 (by try simp only [↓RA,RB,RS, fx65,p1,p2,p3,p4,reduceIte,p5,p6,p7,p8]) fun hl128 => ?_; rw [List.length_map] at hl128
  replace h := run_loop h
  refine Mg.forN h (fun i3 s3 => [(3, .val (.own 96)), (8, .val (.own 128)), (9, .val (.pv (I (v8.length : Int)))), (10, .val (.pv (I (i3 : Int))))]) (fun i3 s3 => [(96, (2, s3.map (Term.pv true))), (128, (2, v8.map (Term.pv false)))]) (St.le_mk2 (by try simp only [↓RA,RB,RS, fx65,p1,p2,p3,p4,reduceIte,p5,p6,p7,p8])) (fun i3 s3 hi h => ?_) (fun s3 h => ?_)
  · have w3 := wrap_succ (i := i3) (by omega)
    try simp only [↓RA,RB,RS, fx65,p1,p2,p3,p4,reduceIte,p5,p6,p7,p8]
    refine CondH.tt (decide_eq_true (by omega)) (fun c1 => ?_)
    try simp only [↓RA,RB,RS, fx65,p1,p2,p3,p4,reduceIte,p5,p6,p7,p8, c1]
    obtain ⟨v12, hv12, h⟩ := run_bind h
    refine IdxH.mk (f := (Term.pv false)) hv12 ?_ ?_ <;> try simp only [↓RA,RB,RS, fx65,p1,p2,p3,p4,reduceIte,p5,p6,p7,p8, c1]
    obtain ⟨v13, hv13, h⟩ := run_bind h
    refine EldH.mk (f := (Term.pv false)) hv13 rfl ?_ ?_ <;> try simp only [↓RA,RB,RS, fx65,p1,p2,p3,p4,reduceIte,p5,p6,p7,p8, c1]
    repeat (first | with_reducible refine noR_and (by repeat (first | exact noR_empty _ _ | exact noR_nilS _ _ | refine noR_mk _ _ _ _ _ rfl ?_ | refine noR_mkS _ _ _ _ _ rfl ?_)) ?_ | with_reducible refine noC_and (by repeat (first | exact noC_empty _ _ (by try simp only [↓RA,RB,RS, fx65,p1,p2,p3,p4,reduceIte,p5,p6,p7,p8]) | exact noC_nilS _ _ (by try simp only [↓RA,RB,RS, fx65,p1,p2,p3,p4,reduceIte,p5,p6,p7,p8]) | refine noC_mk _ _ _ _ _ rfl ?_ | refine noC_mkS _ _ _ _ _ rfl ?_)) ?_ | with_reducible refine and_ac ?_ | with_reducible refine And.intro (a := _ = List.range _) (by rfl) ?_)
    obtain ⟨v16, hv16, h⟩ := run_bind h
    refine CallH.mk [true, false] (impl_addAtom_sat hv16) ?_ ?_ <;> try simp only [↓RA,RB,RS, fx65,p1,p2,p3,p4,reduceIte,p5,p6,p7,p8, c1]
    repeat (first | with_reducible refine noR_and (by repeat (first | exact noR_empty _ _ | exact noR_nilS _ _ | refine noR_mk _ _ _ _ _ rfl ?_ | refine noR_mkS _ _ _ _ _ rfl ?_)) ?_ | with_reducible refine noC_and (by repeat (first | exact noC_empty _ _ (by try simp only [↓RA,RB,RS, fx65,p1,p2,p3,p4,reduceIte,p5,p6,p7,p8]) | exact noC_nilS _ _ (by try simp only [↓RA,RB,RS, fx65,p1,p2,p3,p4,reduceIte,p5,p6,p7,p8]) | refine noC_mk _ _ _ _ _ rfl ?_ | refine noC_mkS _ _ _ _ _ rfl ?_)) ?_ | with_reducible refine and_ac ?_ | with_reducible refine And.intro (a := _ = List.range _) (by rfl) ?_)
    have h := run_some h
    refine RdH.mk ⟨_, h, ?_⟩
    refine St.le_trans (St.le_mk (S := [(3, .val (.own 256)), (8, .val (.own 128)), (9, .val (.pv (I (v8.length : Int)))), (10, .val (.pv (I (IntKind.i64.wrap ((i3 : Int) + (1 : Int))))))]) (O := [(256, (2, v16.map (Term.pv true))), (128, (2, v8.map (Term.pv false)))]) (by try simp only [↓RA,RB,RS, fx65,p1,p2,p3,p4,reduceIte,p5,p6,p7,p8, c1, w3]) (by try simp only [↓RA,RB,RS, fx65,p1,p2,p3,p4,reduceIte,p5,p6,p7,p8, c1, w3])) ?_
    refine St.le_rn 256 96 (by decide) (by repeat (first | exact noC_empty _ _ (by try simp only [↓RA,RB,RS, fx65,p1,p2,p3,p4,reduceIte,p5,p6,p7,p8]) | exact noC_nilS _ _ (by try simp only [↓RA,RB,RS, fx65,p1,p2,p3,p4,reduceIte,p5,p6,p7,p8]) | refine noC_mk _ _ _ _ _ rfl ?_ | refine noC_mkS _ _ _ _ _ rfl ?_)) ?_
    refine St.le_mk2 ?_
    try simp only [↓RA,RB,RS, fx65,p1,p2,p3,p4,reduceIte,p5,p6,p7,p8, c1, w3]
  · try simp only [↓RA,RB,RS, fx65,p1,p2,p3,p4,reduceIte,p5,p6,p7,p8]
    refine CondH.ff (decide_eq_false (by omega)) (fun c2 => ?_)
    try simp only [↓RA,RB,RS, fx65,p1,p2,p3,p4,reduceIte,p5,p6,p7,p8, c2]
    have h := run_some h
    obtain rfl : _ = r := h
    refine FinH.l ?_
    try simp only [↓RA,RB,RS, fx65,p1,p2,p3,p4,reduceIte,p5,p6,p7,p8, c2]

theorem impl_flag_sat {a0 : Bool}  {r : Int} (h : impl_flag a0 = some r) : Sat Tryz.prog 66 [(B a0)] (I r) := by
  replace h := Run.of h
  unfold impl_flag at h
  refine Sat.of_m (nt := 4) (rs := [.tmp 2]) (n := 100000) Tryz.func66 rfl rfl rfl rfl (by simp) ?_
  try simp only [↓RA,RB,RS,p1,p2,p3,p4,reduceIte,p5,p6,p7,p8]
  refine CondH.mk (fun c1 => ?_) (fun c1 => ?_)
  · replace h := run_t c1 h
    try simp only [↓RA,RB,RS,p1,p2,p3,p4,reduceIte,p5,p6,p7,p8, c1]
    have h := run_some h
    obtain rfl : _ = r := h
    refine FinH.l ?_
    try simp only [↓RA,RB,RS,p1,p2,p3,p4,reduceIte,p5,p6,p7,p8, c1]
  · replace h := run_f c1 h
    try simp only [↓RA,RB,RS,p1,p2,p3,p4,reduceIte,p5,p6,p7,p8, c1]
    have h := run_some h
    obtain rfl : _ = r := h
    refine FinH.l ?_
    try simp only [↓RA,RB,RS,p1,p2,p3,p4,reduceIte,p5,p6,p7,p8, c1]

def fx105 := @TB34
theorem impl_indexOfAtom_1_sat {a0 : Term} {b0 : Term}  {r : Bool} (h : impl_indexOfAtom_1 a0 b0 = some r) : Sat Tryz.prog 105 [((Term.pv false) a0), .ptr ((Term.pv false) b0)] (B r) := by
  replace h := Run.of h
  unfold impl_indexOfAtom_1 at h
  refine Sat.of_m (nt := 7) (rs := [.tmp 3]) (n := 100000) Tryz.func105 rfl rfl rfl rfl (by simp) ?_
  try simp only [↓RA,RB,RS, fx105,p1,p2,p3,p4,reduceIte,p5,p6,p7,p8]
  repeat (first | with_reducible refine noR_and (by repeat (first | exact noR_empty _ _ | exact noR_nilS _ _ | refine noR_mk _ _ _ _ _ rfl ?_ | refine noR_mkS _ _ _ _ _ rfl ?_)) ?_ | with_reducible refine noC_and (by repeat (first | exact noC_empty _ _ (by try simp only [↓RA,RB,RS, fx105,p1,p2,p3,p4,reduceIte,p5,p6,p7,p8]) | exact noC_nilS _ _ (by try simp only [↓RA,RB,RS, fx105,p1,p2,p3,p4,reduceIte,p5,p6,p7,p8]) | refine noC_mk _ _ _ _ _ rfl ?_ | refine noC_mkS _ _ _ _ _ rfl ?_)) ?_ | with_reducible refine and_ac ?_ | with_reducible refine And.intro (a := _ = List.range _) (by rfl) ?_)
  obtain ⟨v6, hv6, h⟩ := run_bind h
  refine CallH.mk [false, false] (impl_EqualTerms_sat hv6) ?_ ?_ <;> try simp only [↓RA,RB,RS, fx105,p1,p2,p3,p4,reduceIte,p5,p6,p7,p8]
  have h := run_some h
  obtain rfl : _ = r := h
  refine FinH.l ?_
  try simp only [↓RA,RB,RS, fx105,p1,p2,p3,p4,reduceIte,p5,p6,p7,p8]

def fx86 := A @TB32 <| A @TB34 <| @TB101
theorem impl_indexOfAtom_sat {a0 : List Term} {a1 : Term}  {r : Int} (h : impl_indexOfAtom a0 a1 = some r) : Sat Tryz.prog 86 [(.sl false 2 (a0.map (Term.pv false))), ((Term.pv false) a1)] (I r) := by
  replace h := Run.of h
  unfold impl_indexOfAtom at h
  refine Sat.of_m (nt := 8) (rs := [.tmp 4]) (n := 100000) Tryz.func86 rfl rfl rfl rfl (by simp) ?_
  try simp only [↓RA,RB,RS, fx86,p1,p2,p3,p4,reduceIte,p5,p6,p7,p8]
  repeat (first | with_reducible refine noR_and (by repeat (first | exact noR_empty _ _ | exact noR_nilS _ _ | refine noR_mk _ _ _ _ _ rfl ?_ | refine noR_mkS _ _ _ _ _ rfl ?_)) ?_ | with_reducible refine noC_and (by repeat (first | exact noC_empty _ _ (by try simp only [↓RA,RB,RS, fx86,p1,p2,p3,p4,reduceIte,p5,p6,p7,p8]) | exact noC_nilS _ _ (by try simp only [↓RA,RB,RS, fx86,p1,p2,p3,p4,reduceIte,p5,p6,p7,p8]) | refine noC_mk _ _ _ _ _ rfl ?_ | refine noC_mkS _ _ _ _ _ rfl ?_)) ?_ | with_reducible refine and_ac ?_ | with_reducible refine And.intro (a := _ = List.range _) (by rfl) ?_)
  obtain ⟨v7, hv7, h⟩ := run_bind h
  refine CallH.mk [false, false] (slices_IndexFunc_Simpl_Term_impl_Term_sat (fun _ _ hh => impl_indexOfAtom_1_sat hh) (by simp only [CapsOk_nil, CapsOk_cons]) hv7) ?_ ?_ <;> try simp only [↓RA,RB,RS, fx86,p1,p2,p3,p4,reduceIte,p5,p6,p7,p8]
  have h := run_some h
  obtain rfl : _ = r := h
  refine FinH.l ?_
  try simp only [↓RA,RB,RS, fx86,p1,p2,p3,p4,reduceIte,p5,p6,p7,p8]

def fx67 := A @TB3 <| A @TB4 <| A @TB32 <| A @TB34 <| A @TB35 <| @TB37
theorem impl_truthOfN_sat (n : Nat) : (∀ (a0 : Formula) (a1 : List Term) (a2 : Int) (r : Bool), impl_truthOfN n a0 a1 a2 = some r → Sat Tryz.prog 67 [((Formula.pv false) a0), (.sl false 2 (a1.map (Term.pv false))), (I a2)] (B r)) := by
  induction n with
  | zero => exact fun _ _ _ _ h => by simp [impl_truthOfN] at h
  | succ n ih =>
    refine fun a0 a1 a2 r h => ?_
    replace h := Run.of h
    rw [impl_truthOfN] at h
    refine Sat.of_m (nt := 86) (rs := [.tmp 6]) (n := 100000) Tryz.func67 rfl rfl rfl rfl (by simp) ?_
    try simp only [↓RA,RB,RS, fx67,p1,p2,p3,p4,reduceIte,p5,p6,p7,p8]
    repeat (first | with_reducible refine noR_and (by repeat (first | exact noR_empty _ _ | exact noR_nilS _ _ | refine noR_mk _ _ _ _ _ rfl ?_ | refine noR_mkS _ _ _ _ _ rfl ?_)) ?_ | with_reducible refine noC_and (by repeat (first | exact noC_empty _ _ (by try simp only [↓RA,RB,RS, fx67,p1,p2,p3,p4,reduceIte,p5,p6,p7,p8]) | exact noC_nilS _ _ (by try simp only [↓RA,RB,RS, fx67,p1,p2,p3,p4,reduceIte,p5,p6,p7,p8]) | refine noC_mk _ _ _ _ _ rfl ?_ | refine noC_mkS _ _ _ _ _ rfl ?_)) ?_ | with_reducible refine and_ac ?_ | with_reducible refine And.intro (a := _ = List.range _) (by rfl) ?_)
    refine CondH.mk (fun c1 => ?_) (fun c1 => ?_)
    · replace h := run_t c1 h
      try simp only [↓RA,RB,RS, fx67,p1,p2,p3,p4,reduceIte,p5,p6,p7,p8, c1]
      have h := run_some h
      obtain rfl : _ = r := h
      refine FinH.l ?_
      try simp only [↓RA,RB,RS, fx67,p1,p2,p3,p4,reduceIte,p5,p6,p7,p8, c1]
    · replace h := run_f c1 h
      try simp only [↓RA,RB,RS, fx67,p1,p2,p3,p4,reduceIte,p5,p6,p7,p8, c1]
      refine CondH.mk (fun c2 => ?_) (fun c2 => ?_)
      · replace h := run_t c2 h
        try simp only [↓RA,RB,RS, fx67,p1,p2,p3,p4,reduceIte,p5,p6,p7,p8, c1, c2]
        obtain ⟨v17, hv17, h⟩ := run_bind h
        refine CallH.mk [false, false] (impl_indexOfAtom_sat hv17) ?_ ?_ <;> try simp only [↓RA,RB,RS, fx67,p1,p2,p3,p4,reduceIte,p5,p6,p7,p8, c1, c2]
        obtain ⟨v18, hv18, h⟩ := run_bind h
        refine ShrH.mk hv18 ?_
        try simp only [↓RA,RB,RS, fx67,p1,p2,p3,p4,reduceIte,p5,p6,p7,p8, c1, c2]
        have h := run_some h
        obtain rfl : _ = r := h
        refine FinH.l ?_
        try simp only [↓RA,RB,RS, fx67,p1,p2,p3,p4,reduceIte,p5,p6,p7,p8, c1, c2]
      · replace h := run_f c2 h
        try simp only [↓RA,RB,RS, fx67,p1,p2,p3,p4,reduceIte,p5,p6,p7,p8, c1, c2]
        refine CondH.mk (fun c3 => ?_) (fun c3 => ?_)
        · replace h := run_t c3 h
          try simp only [↓RA,RB,RS, fx67,p1,p2,p3,p4,reduceIte,p5,p6,p7,p8, c1, c2, c3]
          obtain ⟨v25, hv25, h⟩ := run_bind h
          refine IdxH.mk (f := (Formula.pv false)) hv25 ?_ ?_ <;> try simp only [↓RA,RB,RS, fx67,p1,p2,p3,p4,reduceIte,p5,p6,p7,p8, c1, c2, c3]
          obtain ⟨v29, hv29, h⟩ := run_bind h
          refine CallH.mk [false, false, false] (ih _ _ _ _ hv29) ?_ ?_ <;> try simp only [↓RA,RB,RS, fx67,p1,p2,p3,p4,reduceIte,p5,p6,p7,p8, c1, c2, c3]
          have h := run_some h
          obtain rfl : _ = r := h
          refine FinH.l ?_
          try simp only [↓RA,RB,RS, fx67,p1,p2,p3,p4,reduceIte,p5,p6,p7,p8, c1, c2, c3]
        · replace h := run_f c3 h
          try simp only [↓RA,RB,RS, fx67,p1,p2,p3,p4,reduceIte,p5,p6,p7,p8, c1, c2, c3]
          refine CondH.mk (fun c4 => ?_) (fun c4 => ?_)
          · replace h := run_t c4 h
            try simp only [↓RA,RB,RS, fx67,p1,p2,p3,p4,reduceIte,p5,p6,p7,p8, c1, c2, c3, c4]
            obtain ⟨v35, hv35, h⟩ := run_bind h
            refine IdxH.mk (f := (Formula.pv false)) hv35 ?_ ?_ <;> try simp only [↓RA,RB,RS, fx67,p1,p2,p3,p4,reduceIte,p5,p6,p7,p8, c1, c2, c3, c4]
            obtain ⟨v39, hv39, h⟩ := run_bind h
            refine CallH.mk [false, false, false] (ih _ _ _ _ hv39) ?_ ?_ <;> try simp only [↓RA,RB,RS, fx67,p1,p2,p3,p4,reduceIte,p5,p6,p7,p8, c1, c2, c3, c4]
            refine CondH.mk (fun c5 => ?_) (fun c5 => ?_)
            · replace h := run_t c5 h
              try simp only [↓RA,RB,RS, fx67,p1,p2,p3,p4,reduceIte,p5,p6,p7,p8, c1, c2, c3, c4, c5]
              obtain ⟨v43, hv43, h⟩ := run_bind h
              refine IdxH.mk (f := (Formula.pv false)) hv43 ?_ ?_ <;> try simp only [↓RA,RB,RS, fx67,p1,p2,p3,p4,reduceIte,p5,p6,p7,p8, c1, c2, c3, c4, c5]
              obtain ⟨v47, hv47, h⟩ := run_bind h
              refine CallH.mk [false, false, false] (ih _ _ _ _ hv47) ?_ ?_ <;> try simp only [↓RA,RB,RS, fx67,p1,p2,p3,p4,reduceIte,p5,p6,p7,p8, c1, c2, c3, c4, c5]
              have h := run_some h
              obtain rfl : _ = r := h
              refine FinH.l ?_
              try simp only [↓RA,RB,RS, fx67,p1,p2,p3,p4,reduceIte,p5,p6,p7,p8, c1, c2, c3, c4, c5]
            · replace h := run_f c5 h
              try simp only [↓RA,RB,RS, fx67,p1,p2,p3,p4,reduceIte,p5,p6,p7,p8, c1, c2, c3, c4, c5]
              have h := run_some h
              obtain rfl : _ = r := h
              refine FinH.l ?_
              try simp only [↓RA,RB,RS, fx67,p1,p2,p3,p4,reduceIte,p5,p6,p7,p8, c1, c2, c3, c4, c5]
          · replace h := run_f c4 h
            try simp only [↓RA,RB,RS, fx67,p1,p2,p3,p4,reduceIte,p5,p6,p7,p8, c1, c2, c3, c4]
            refine CondH.mk (fun c6 => ?_) (fun c6 => ?_)
            · replace h := run_t c6 h
              try simp only [↓RA,RB,RS, fx67,p1,p2,p3,p4,reduceIte,p5,p6,p7,p8, c1, c2, c3, c4, c6]
              obtain ⟨v53, hv53, h⟩ := run_bind h
              refine IdxH.mk (f := (Formula.pv false)) hv53 ?_ ?_ <;> try simp only [↓RA,RB,RS, fx67,p1,p2,p3,p4,reduceIte,p5,p6,p7,p8, c1, c2, c3, c4, c6]
              obtain ⟨v57, hv57, h⟩ := run_bind h
              refine CallH.mk [false, false, false] (ih _ _ _ _ hv57) ?_ ?_ <;> try simp only [↓RA,RB,RS, fx67,p1,p2,p3,p4,reduceIte,p5,p6,p7,p8, c1, c2, c3, c4, c6]
              refine CondH.mk (fun c7 => ?_) (fun c7 => ?_)
              · replace h := run_t c7 h
                try simp only [↓RA,RB,RS, fx67,p1,p2,p3,p4,reduceIte,p5,p6,p7,p8, c1, c2, c3, c4, c6, c7]
                have h := run_some h
                obtain rfl : _ = r := h
                refine FinH.l ?_
                try simp only [↓RA,RB,RS, fx67,p1,p2,p3,p4,reduceIte,p5,p6,p7,p8, c1, c2, c3, c4, c6, c7]
              · replace h := run_f c7 h
                try simp only [↓RA,RB,RS, fx67,p1,p2,p3,p4,reduceIte,p5,p6,p7,p8, c1, c2, c3, c4, c6, c7]
                obtain ⟨v61, hv61, h⟩ := run_bind h
                refine IdxH.mk (f := (Formula.pv false)) hv61 ?_ ?_ <;> try simp only [↓RA,RB,RS, fx67,p1,p2,p3,p4,reduceIte,p5,p6,p7,p8, c1, c2, c3, c4, c6, c7]
                obtain ⟨v65, hv65, h⟩ := run_bind h
                refine CallH.mk [false, false, false] (ih _ _ _ _ hv65) ?_ ?_ <;> try simp only [↓RA,RB,RS, fx67,p1,p2,p3,p4,reduceIte,p5,p6,p7,p8, c1, c2, c3, c4, c6, c7]
                have h := run_some h
                obtain rfl : _ = r := h
                refine FinH.l ?_
                try simp only [↓RA,RB,RS, fx67,p1,p2,p3,p4,reduceIte,p5,p6,p7,p8, c1, c2, c3, c4, c6, c7]
            · replace h := run_f c6 h
              try simp only [↓RA,RB,RS, fx67,p1,p2,p3,p4,reduceIte,p5,p6,p7,p8, c1, c2, c3, c4, c6]
              refine CondH.mk (fun c8 => ?_) (fun c8 => ?_)
              · replace h := run_t c8 h
                try simp only [↓RA,RB,RS, fx67,p1,p2,p3,p4,reduceIte,p5,p6,p7,p8, c1, c2, c3, c4, c6, c8]
                obtain ⟨v71, hv71, h⟩ := run_bind h
                refine IdxH.mk (f := (Formula.pv false)) hv71 ?_ ?_ <;> try simp only [↓RA,RB,RS, fx67,p1,p2,p3,p4,reduceIte,p5,p6,p7,p8, c1, c2, c3, c4, c6, c8]
                obtain ⟨v75, hv75, h⟩ := run_bind h
                refine CallH.mk [false, false, false] (ih _ _ _ _ hv75) ?_ ?_ <;> try simp only [↓RA,RB,RS, fx67,p1,p2,p3,p4,reduceIte,p5,p6,p7,p8, c1, c2, c3, c4, c6, c8]
                refine CondH.mk (fun c9 => ?_) (fun c9 => ?_)
                · replace h := run_t c9 h
                  try simp only [↓RA,RB,RS, fx67,p1,p2,p3,p4,reduceIte,p5,p6,p7,p8, c1, c2, c3, c4, c6, c8, c9]
                  obtain ⟨v80, hv80, h⟩ := run_bind h
                  refine IdxH.mk (f := (Formula.pv false)) hv80 ?_ ?_ <;> try simp only [↓RA,RB,RS, fx67,p1,p2,p3,p4,reduceIte,p5,p6,p7,p8, c1, c2, c3, c4, c6, c8, c9]
                  obtain ⟨v84, hv84, h⟩ := run_bind h
                  refine CallH.mk [false, false, false] (ih _ _ _ _ hv84) ?_ ?_ <;> try simp only [↓RA,RB,RS, fx67,p1,p2,p3,p4,reduceIte,p5,p6,p7,p8, c1, c2, c3, c4, c6, c8, c9]
                  have h := run_some h
                  obtain rfl : _ = r := h
                  refine FinH.l ?_
                  try simp only [↓RA,RB,RS, fx67,p1,p2,p3,p4,reduceIte,p5,p6,p7,p8, c1, c2, c3, c4, c6, c8, c9]
                · replace h := run_f c9 h
                  try simp only [↓RA,RB,RS, fx67,p1,p2,p3,p4,reduceIte,p5,p6,p7,p8, c1, c2, c3, c4, c6, c8, c9]
                  have h := run_some h
                  obtain rfl : _ = r := h
                  refine FinH.l ?_
                  try simp only [↓RA,RB,RS, fx67,p1,p2,p3,p4,reduceIte,p5,p6,p7,p8, c1, c2, c3, c4, c6, c8, c9]
              · replace h := run_f c8 h
                try simp only [↓RA,RB,RS, fx67,p1,p2,p3,p4,reduceIte,p5,p6,p7,p8, c1, c2, c3, c4, c6, c8]
                have h := run_some h
                obtain rfl : _ = r := h
                refine FinH.l ?_
                try simp only [↓RA,RB,RS, fx67,p1,p2,p3,p4,reduceIte,p5,p6,p7,p8, c1, c2, c3, c4, c6, c8]
theorem impl_truthOf_sat {a0 : Formula} {a1 : List Term} {a2 : Int} {r : Bool} (h : impl_truthOf a0 a1 a2 = some r) : Sat Tryz.prog 67 [((Formula.pv false) a0), (.sl false 2 (a1.map (Term.pv false))), (I a2)] (B r) := by
  obtain ⟨n, hn⟩ := lim_some h
  exact (impl_truthOfN_sat n) _ _ _ _ hn

def fx34 := A @TB3 <| A @TB4 <| A @TB28 <| A @TB32 <| A @TB34 <| @TB37
theorem impl_evaluateOn_sat {a0 : Formula} {a1 : List Int}  {r : Bool} (h : impl_evaluateOn a0 a1 = some r) : Sat Tryz.prog 34 [((Formula.pv false) a0), (.sl false 1 (a1.map I))] (B r) := by
  replace h := Run.of h
  unfold impl_evaluateOn at h
  refine Sat.of_m (nt := 32) (rs := [.tmp 4]) (n := 100000) Tryz.func34 rfl rfl rfl rfl (by simp) ?_
  try simp only [↓RA,RB,RS, fx34,p1,p2,p3,p4,reduceIte,p5,p6,p7,p8]
  repeat (first | with_reducible refine noR_and (by repeat (first | exact noR_empty _ _ | exact noR_nilS _ _ | refine noR_mk _ _ _ _ _ rfl ?_ | refine noR_mkS _ _ _ _ _ rfl ?_)) ?_ | with_reducible refine noC_and (by repeat (first | exact noC_empty _ _ (by try simp only [↓RA,RB,RS, fx34,p1,p2,p3,p4,reduceIte,p5,p6,p7,p8]) | exact noC_nilS _ _ (by try simp only [↓RA,RB,RS, fx34,p1,p2,p3,p4,reduceIte,p5,p6,p7,p8]) | refine noC_mk _ _ _ _ _ rfl ?_ | refine noC_mkS _ _ _ _ _ rfl ?_)) ?_ | with_reducible refine and_ac ?_ | with_reducible refine And.intro (a := _ = List.range _) (by rfl) ?_)
  obtain ⟨v10, hv10, h⟩ := run_bind h
  refine CallH.mk [false] (Sat.vwOf (res' := (.sl false 2 (v10.map (Term.pv false)))) (impl_differentAtoms_sat hv10) (by simp only [view_tup, view_sl, view_agg, view_lit, PV.views, RB, RS])) ?_ ?_ <;> try simp only [↓RA,RB,RS, fx34,p1,p2,p3,p4,reduceIte,p5,p6,p7,p8]
  refine Mg.know_sl (b := false) (sz := 2) (es := v10.map (Term.pv false)) 5 (by try simp only [↓RA,RB,RS, fx34,p1,p2,p3,p4,reduceIte,p5,p6,p7,p8]) fun hl5 => ?_; rw [List.length_map] at hl5
  replace h := run_loop h
  refine Mg.forN h (fun i4 s4 => [(1, .val (.pv (.sl false 1 (a1.map I)))), (2, .box (.pv ((Formula.pv false) a0))), (5, .val (.pv (.sl false 2 (v10.map (Term.pv false))))), (6, .val (.pv (I s4))), (11, .val (.pv (.sl false 2 (v10.map (Term.pv false))))), (12, .val (.pv (I (v10.length : Int)))), (13, .val (.pv (I (i4 : Int))))]) (fun i4 s4 => []) (St.le_mk2 (by try simp only [↓RA,RB,RS, fx34,p1,p2,p3,p4,reduceIte,p5,p6,p7,p8])) (fun i4 s4 hi h => ?_) (fun s4 h => ?_)
  · have w4 := wrap_succ (i := i4) (by omega)
    try simp only [↓RA,RB,RS, fx34,p1,p2,p3,p4,reduceIte,p5,p6,p7,p8]
    refine CondH.tt (decide_eq_true (by omega)) (fun c1 => ?_)
    try simp only [↓RA,RB,RS, fx34,p1,p2,p3,p4,reduceIte,p5,p6,p7,p8, c1]
    obtain ⟨v16, hv16, h⟩ := run_bind h
    refine IdxH.mk (f := (Term.pv false)) hv16 ?_ ?_ <;> try simp only [↓RA,RB,RS, fx34,p1,p2,p3,p4,reduceIte,p5,p6,p7,p8, c1]
    repeat (first | with_reducible refine noR_and (by repeat (first | exact noR_empty _ _ | exact noR_nilS _ _ | refine noR_mk _ _ _ _ _ rfl ?_ | refine noR_mkS _ _ _ _ _ rfl ?_)) ?_ | with_reducible refine noC_and (by repeat (first | exact noC_empty _ _ (by try simp only [↓RA,RB,RS, fx34,p1,p2,p3,p4,reduceIte,p5,p6,p7,p8]) | exact noC_nilS _ _ (by try simp only [↓RA,RB,RS, fx34,p1,p2,p3,p4,reduceIte,p5,p6,p7,p8]) | refine noC_mk _ _ _ _ _ rfl ?_ | refine noC_mkS _ _ _ _ _ rfl ?_)) ?_ | with_reducible refine and_ac ?_ | with_reducible refine And.intro (a := _ = List.range _) (by rfl) ?_)
    obtain ⟨v21, hv21, h⟩ := run_bind h
    refine CallH.mk [false] (impl_variableOf_sat hv21) ?_ ?_ <;> try simp only [↓RA,RB,RS, fx34,p1,p2,p3,p4,reduceIte,p5,p6,p7,p8, c1]
    obtain ⟨v22, hv22, h⟩ := run_bind h
    refine CallH.mk [false, false] (slices_Contains_Sint_int_sat hv22) ?_ ?_ <;> try simp only [↓RA,RB,RS, fx34,p1,p2,p3,p4,reduceIte,p5,p6,p7,p8, c1]
    obtain ⟨v23, hv23, h⟩ := run_bind h
    refine CallH.mk [false] (impl_flag_sat hv23) ?_ ?_ <;> try simp only [↓RA,RB,RS, fx34,p1,p2,p3,p4,reduceIte,p5,p6,p7,p8, c1]
    obtain ⟨v25, hv25, h⟩ := run_bind h
    refine ShlH.mk hv25 ?_
    try simp only [↓RA,RB,RS, fx34,p1,p2,p3,p4,reduceIte,p5,p6,p7,p8, c1]
    have h := run_some h
    refine RdH.mk ⟨_, h, ?_⟩
    refine St.le_mk2 ?_
    try simp only [↓RA,RB,RS, fx34,p1,p2,p3,p4,reduceIte,p5,p6,p7,p8, c1, w4]
  · try simp only [↓RA,RB,RS, fx34,p1,p2,p3,p4,reduceIte,p5,p6,p7,p8]
    refine CondH.ff (decide_eq_false (by omega)) (fun c2 => ?_)
    try simp only [↓RA,RB,RS, fx34,p1,p2,p3,p4,reduceIte,p5,p6,p7,p8, c2]
    obtain ⟨v31, hv31, h⟩ := run_bind h
    refine CallH.mk [false, false, false] (impl_truthOf_sat hv31) ?_ ?_ <;> try simp only [↓RA,RB,RS, fx34,p1,p2,p3,p4,reduceIte,p5,p6,p7,p8, c2]
    have h := run_some h
    obtain rfl : _ = r := h
    refine FinH.l ?_
    try simp only [↓RA,RB,RS, fx34,p1,p2,p3,p4,reduceIte,p5,p6,p7,p8, c2]

def fx89 := A @TB3 <| @TB28
theorem impl_isSatisfied_1_sat {a0 : Int} {b0 : List Int}  {r : Bool} (h : impl_isSatisfied_1 a0 b0 = some r) : Sat Tryz.prog 89 [(I a0), .ptr (.sl false 1 (b0.map I))] (B r) := by
  replace h := Run.of h
  unfold impl_isSatisfied_1 at h
  refine Sat.of_m (nt := 7) (rs := [.tmp 3]) (n := 100000) Tryz.func89 rfl rfl rfl rfl (by simp) ?_
  try simp only [↓RA,RB,RS, fx89,p1,p2,p3,p4,reduceIte,p5,p6,p7,p8]
  obtain ⟨v6, hv6, h⟩ := run_bind h
  refine CallH.mk [false, false] (slices_Contains_Sint_int_sat hv6) ?_ ?_ <;> try simp only [↓RA,RB,RS, fx89,p1,p2,p3,p4,reduceIte,p5,p6,p7,p8]
  have h := run_some h
  obtain rfl : _ = r := h
  refine FinH.l ?_
  try simp only [↓RA,RB,RS, fx89,p1,p2,p3,p4,reduceIte,p5,p6,p7,p8]

def fx76 := A @TB28 <| @TB63
theorem impl_isSatisfied_sat {a0 : List Int} {a1 : List Int}  {r : Bool} (h : impl_isSatisfied a0 a1 = some r) : Sat Tryz.prog 76 [(.sl false 1 (a0.map I)), (.sl false 1 (a1.map I))] (B r) := by
  replace h := Run.of h
  unfold impl_isSatisfied at h
  refine Sat.of_m (nt := 8) (rs := [.tmp 4]) (n := 100000) Tryz.func76 rfl rfl rfl rfl (by simp) ?_
  try simp only [↓RA,RB,RS, fx76,p1,p2,p3,p4,reduceIte,p5,p6,p7,p8]
  repeat (first | with_reducible refine noR_and (by repeat (first | exact noR_empty _ _ | exact noR_nilS _ _ | refine noR_mk _ _ _ _ _ rfl ?_ | refine noR_mkS _ _ _ _ _ rfl ?_)) ?_ | with_reducible refine noC_and (by repeat (first | exact noC_empty _ _ (by try simp only [↓RA,RB,RS, fx76,p1,p2,p3,p4,reduceIte,p5,p6,p7,p8]) | exact noC_nilS _ _ (by try simp only [↓RA,RB,RS, fx76,p1,p2,p3,p4,reduceIte,p5,p6,p7,p8]) | refine noC_mk _ _ _ _ _ rfl ?_ | refine noC_mkS _ _ _ _ _ rfl ?_)) ?_ | with_reducible refine and_ac ?_ | with_reducible refine And.intro (a := _ = List.range _) (by rfl) ?_)
  obtain ⟨v7, hv7, h⟩ := run_bind h
  refine CallH.mk [false, false] (slices_ContainsFunc_Sint_int_sat (fun _ _ hh => impl_isSatisfied_1_sat hh) (by simp only [CapsOk_nil, CapsOk_cons]) hv7) ?_ ?_ <;> try simp only [↓RA,RB,RS, fx76,p1,p2,p3,p4,reduceIte,p5,p6,p7,p8]
  have h := run_some h
  obtain rfl : _ = r := h
  refine FinH.l ?_
  try simp only [↓RA,RB,RS, fx76,p1,p2,p3,p4,reduceIte,p5,p6,p7,p8]

def fx75 := A @TB4 <| @TB28
theorem impl_isModel_1_sat {a0 : List Int} {b0 : List Int}  {r : Bool} (h : impl_isModel_1 a0 b0 = some r) : Sat Tryz.prog 75 [(.sl false 1 (a0.map I)), .ptr (.sl false 1 (b0.map I))] (B r) := by
  replace h := Run.of h
  unfold impl_isModel_1 at h
  refine Sat.of_m (nt := 8) (rs := [.tmp 3]) (n := 100000) Tryz.func75 rfl rfl rfl rfl (by simp) ?_
  try simp only [↓RA,RB,RS, fx75,p1,p2,p3,p4,reduceIte,p5,p6,p7,p8]
  obtain ⟨v6, hv6, h⟩ := run_bind h
  refine CallH.mk [false, false] (impl_isSatisfied_sat hv6) ?_ ?_ <;> try simp only [↓RA,RB,RS, fx75,p1,p2,p3,p4,reduceIte,p5,p6,p7,p8]
  have h := run_some h
  obtain rfl : _ = r := h
  refine FinH.l ?_
  try simp only [↓RA,RB,RS, fx75,p1,p2,p3,p4,reduceIte,p5,p6,p7,p8]

def fx49 := A @TB4 <| A @TB28 <| A @TB45 <| @TB54
theorem impl_isModel_sat {a0 : List (List Int)} {a1 : List Int}  {r : Bool} (h : impl_isModel a0 a1 = some r) : Sat Tryz.prog 49 [(.sl false 1 (a0.map (Lv false 1 I))), (.sl false 1 (a1.map I))] (B r) := by
  replace h := Run.of h
  unfold impl_isModel at h
  refine Sat.of_m (nt := 9) (rs := [.tmp 4]) (n := 100000) Tryz.func49 rfl rfl rfl rfl (by simp) ?_
  try simp only [↓RA,RB,RS, fx49,p1,p2,p3,p4,reduceIte,p5,p6,p7,p8]
  repeat (first | with_reducible refine noR_and (by repeat (first | exact noR_empty _ _ | exact noR_nilS _ _ | refine noR_mk _ _ _ _ _ rfl ?_ | refine noR_mkS _ _ _ _ _ rfl ?_)) ?_ | with_reducible refine noC_and (by repeat (first | exact noC_empty _ _ (by try simp only [↓RA,RB,RS, fx49,p1,p2,p3,p4,reduceIte,p5,p6,p7,p8]) | exact noC_nilS _ _ (by try simp only [↓RA,RB,RS, fx49,p1,p2,p3,p4,reduceIte,p5,p6,p7,p8]) | refine noC_mk _ _ _ _ _ rfl ?_ | refine noC_mkS _ _ _ _ _ rfl ?_)) ?_ | with_reducible refine and_ac ?_ | with_reducible refine And.intro (a := _ = List.range _) (by rfl) ?_)
  obtain ⟨v7, hv7, h⟩ := run_bind h
  refine CallH.mk [false, false] (slices_ContainsFunc_SSint_Sint_sat (fun _ _ hh => impl_isModel_1_sat hh) (by simp only [CapsOk_nil, CapsOk_cons]) hv7) ?_ ?_ <;> try simp only [↓RA,RB,RS, fx49,p1,p2,p3,p4,reduceIte,p5,p6,p7,p8]
  have h := run_some h
  obtain rfl : _ = r := h
  refine FinH.l ?_
  try simp only [↓RA,RB,RS, fx49,p1,p2,p3,p4,reduceIte,p5,p6,p7,p8]

def fx18 := A @TB3 <| A @TB4 <| A @TB28 <| A @TB37 <| A @TB45 <| @TB63
theorem impl_IsInterpolant_sat {a0 : List (List Int)} {a1 : Int} {a2 : Formula}  {r : Bool × Bool} (h : impl_IsInterpolant a0 a1 a2 = some r) : Sat Tryz.prog 18 [(.sl false 1 (a0.map (Lv false 1 I))), (I a1), ((Formula.pv false) a2)] (.tup [(B r.1), (B r.2)]) := by
  replace h := Run.of h
  unfold impl_IsInterpolant at h
  refine Sat.of_m (nt := 66) (rs := [.tmp 6, .tmp 7]) (n := 100000) Tryz.func18 rfl rfl rfl rfl (by simp) ?_
  try simp only [↓RA,RB,RS, fx18,p1,p2,p3,p4,reduceIte,p5,p6,p7,p8]
  repeat (first | with_reducible refine noR_and (by repeat (first | exact noR_empty _ _ | exact noR_nilS _ _ | refine noR_mk _ _ _ _ _ rfl ?_ | refine noR_mkS _ _ _ _ _ rfl ?_)) ?_ | with_reducible refine noC_and (by repeat (first | exact noC_empty _ _ (by try simp only [↓RA,RB,RS, fx18,p1,p2,p3,p4,reduceIte,p5,p6,p7,p8]) | exact noC_nilS _ _ (by try simp only [↓RA,RB,RS, fx18,p1,p2,p3,p4,reduceIte,p5,p6,p7,p8]) | refine noC_mk _ _ _ _ _ rfl ?_ | refine noC_mkS _ _ _ _ _ rfl ?_)) ?_ | with_reducible refine and_ac ?_ | with_reducible refine And.intro (a := _ = List.range _) (by rfl) ?_)
  obtain ⟨v16, hv16, h⟩ := run_bind h
  refine CallH.mk [false] (impl_variablesOf_sat hv16) ?_ ?_ <;> try simp only [↓RA,RB,RS, fx18,p1,p2,p3,p4,reduceIte,p5,p6,p7,p8]
  repeat (first | with_reducible refine noR_and (by repeat (first | exact noR_empty _ _ | exact noR_nilS _ _ | refine noR_mk _ _ _ _ _ rfl ?_ | refine noR_mkS _ _ _ _ _ rfl ?_)) ?_ | with_reducible refine noC_and (by repeat (first | exact noC_empty _ _ (by try simp only [↓RA,RB,RS, fx18,p1,p2,p3,p4,reduceIte,p5,p6,p7,p8]) | exact noC_nilS _ _ (by try simp only [↓RA,RB,RS, fx18,p1,p2,p3,p4,reduceIte,p5,p6,p7,p8]) | refine noC_mk _ _ _ _ _ rfl ?_ | refine noC_mkS _ _ _ _ _ rfl ?_)) ?_ | with_reducible refine and_ac ?_ | with_reducible refine And.intro (a := _ = List.range _) (by rfl) ?_)
  refine CondH.mk (fun c1 => ?_) (fun c1 => ?_)
  · replace h := run_t c1 h
    try simp only [↓RA,RB,RS, fx18,p1,p2,p3,p4,reduceIte,p5,p6,p7,p8, c1]
    obtain ⟨v24, hv24, h⟩ := run_bind h
    refine CallH.mk [false, false] (impl_isSplit_sat hv24) ?_ ?_ <;> try simp only [↓RA,RB,RS, fx18,p1,p2,p3,p4,reduceIte,p5,p6,p7,p8, c1]
    refine CondH.mk (fun c2 => ?_) (fun c2 => ?_)
    · replace h := run_t c2 h
      try simp only [↓RA,RB,RS, fx18,p1,p2,p3,p4,reduceIte,p5,p6,p7,p8, c1, c2]
      obtain ⟨v29, hv29, h⟩ := run_bind h
      refine CallH.mk [false, false] (Sat.vwOf (res' := (.sl false 1 (v29.map I))) (impl_colors_sat hv29) (by simp only [view_tup, view_sl, view_agg, view_lit, PV.views, RB, RS])) ?_ ?_ <;> try simp only [↓RA,RB,RS, fx18,p1,p2,p3,p4,reduceIte,p5,p6,p7,p8, c1, c2]
      repeat (first | with_reducible refine noR_and (by repeat (first | exact noR_empty _ _ | exact noR_nilS _ _ | refine noR_mk _ _ _ _ _ rfl ?_ | refine noR_mkS _ _ _ _ _ rfl ?_)) ?_ | with_reducible refine noC_and (by repeat (first | exact noC_empty _ _ (by try simp only [↓RA,RB,RS, fx18,p1,p2,p3,p4,reduceIte,p5,p6,p7,p8]) | exact noC_nilS _ _ (by try simp only [↓RA,RB,RS, fx18,p1,p2,p3,p4,reduceIte,p5,p6,p7,p8]) | refine noC_mk _ _ _ _ _ rfl ?_ | refine noC_mkS _ _ _ _ _ rfl ?_)) ?_ | with_reducible refine and_ac ?_ | with_reducible refine And.intro (a := _ = List.range _) (by rfl) ?_)
      obtain ⟨v32, hv32, h⟩ := run_bind h
      refine CallH.mk [false, false] (slices_ContainsFunc_Sint_int_sat (fun _ _ hh => impl_IsInterpolant_1_sat hh) (by simp only [CapsOk_nil, CapsOk_cons]) hv32) ?_ ?_ <;> try simp only [↓RA,RB,RS, fx18,p1,p2,p3,p4,reduceIte,p5,p6,p7,p8, c1, c2]
      refine CondH.mk (fun c3 => ?_) (fun c3 => ?_)
      · replace h := run_t c3 h
        try simp only [↓RA,RB,RS, fx18,p1,p2,p3,p4,reduceIte,p5,p6,p7,p8, c1, c2, c3]
        have h := run_some h
        obtain rfl : _ = r := h
        refine FinH.l ?_
        try simp only [↓RA,RB,RS, fx18,p1,p2,p3,p4,reduceIte,p5,p6,p7,p8, c1, c2, c3]
      · replace h := run_f c3 h
        try simp only [↓RA,RB,RS, fx18,p1,p2,p3,p4,reduceIte,p5,p6,p7,p8, c1, c2, c3]
        obtain ⟨v35, hv35, h⟩ := run_bind h
        refine ShlH.mk hv35 ?_
        try simp only [↓RA,RB,RS, fx18,p1,p2,p3,p4,reduceIte,p5,p6,p7,p8, c1, c2, c3]
        obtain ⟨N8, hN8, h⟩ := run_bind h
        obtain ⟨hN8a, hN8b⟩ := bnd_some hN8
        replace h := run_loop h
        refine Mg.forN h (fun i8 s8 => [(0, .val (.pv (.sl false 1 (a0.map (Lv false 1 I))))), (1, .val (.pv (I a1))), (5, .box (.pv ((Formula.pv false) a2))), (10, .val (.pv (.ptr (.sl false 1 (v29.map I))))), (35, .val (.pv (I v35))), (36, .val (.pv (I (i8 : Int))))]) (fun i8 s8 => []) (St.le_mk2 (by try simp only [↓RA,RB,RS, fx18,p1,p2,p3,p4,reduceIte,p5,p6,p7,p8, c1, c2, c3])) (fun i8 s8 hi h => ?_) (fun s8 h => ?_)
        · have w8 := wrap_succ (i := i8) (by omega)
          try simp only [↓RA,RB,RS, fx18,p1,p2,p3,p4,reduceIte,p5,p6,p7,p8, c1, c2, c3]
          refine CondH.tt (decide_eq_true (by omega)) (fun c4 => ?_)
          try simp only [↓RA,RB,RS, fx18,p1,p2,p3,p4,reduceIte,p5,p6,p7,p8, c1, c2, c3, c4]
          obtain ⟨v42, hv42, h⟩ := run_bind h
          refine CallH.mk [false, false] (impl_assignmentOf_sat hv42) ?_ ?_ <;> try simp only [↓RA,RB,RS, fx18,p1,p2,p3,p4,reduceIte,p5,p6,p7,p8, c1, c2, c3, c4]
          repeat (first | with_reducible refine noR_and (by repeat (first | exact noR_empty _ _ | exact noR_nilS _ _ | refine noR_mk _ _ _ _ _ rfl ?_ | refine noR_mkS _ _ _ _ _ rfl ?_)) ?_ | with_reducible refine noC_and (by repeat (first | exact noC_empty _ _ (by try simp only [↓RA,RB,RS, fx18,p1,p2,p3,p4,reduceIte,p5,p6,p7,p8]) | exact noC_nilS _ _ (by try simp only [↓RA,RB,RS, fx18,p1,p2,p3,p4,reduceIte,p5,p6,p7,p8]) | refine noC_mk _ _ _ _ _ rfl ?_ | refine noC_mkS _ _ _ _ _ rfl ?_)) ?_ | with_reducible refine and_ac ?_ | with_reducible refine And.intro (a := _ = List.range _) (by rfl) ?_)
          obtain ⟨v45, hv45, h⟩ := run_bind h
          refine CallH.mk [false, false] (impl_evaluateOn_sat hv45) ?_ ?_ <;> try simp only [↓RA,RB,RS, fx18,p1,p2,p3,p4,reduceIte,p5,p6,p7,p8, c1, c2, c3, c4]
          refine CondH.mk (fun c5 => ?_) (fun c5 => ?_)
          · replace h := run_t c5 h
            try simp only [↓RA,RB,RS, fx18,p1,p2,p3,p4,reduceIte,p5,p6,p7,p8, c1, c2, c3, c4, c5]
            obtain ⟨v60, hv60, h⟩ := run_bind h
            refine SlcH.mk (f := (Lv false 1 I)) hv60 ?_ ?_ <;> try simp only [↓RA,RB,RS, fx18,p1,p2,p3,p4,reduceIte,p5,p6,p7,p8, c1, c2, c3, c4, c5]
            obtain ⟨v62, hv62, h⟩ := run_bind h
            refine CallH.mk [false, false] (impl_isModel_sat hv62) ?_ ?_ <;> try simp only [↓RA,RB,RS, fx18,p1,p2,p3,p4,reduceIte,p5,p6,p7,p8, c1, c2, c3, c4, c5]
            refine CondH.mk (fun c6 => ?_) (fun c6 => ?_)
            · replace h := run_t c6 h
              try simp only [↓RA,RB,RS, fx18,p1,p2,p3,p4,reduceIte,p5,p6,p7,p8, c1, c2, c3, c4, c5, c6]
              have h := run_some h
              obtain rfl : _ = r := h
              refine FinH.l ?_
              try simp only [↓RA,RB,RS, fx18,p1,p2,p3,p4,reduceIte,p5,p6,p7,p8, c1, c2, c3, c4, c5, c6]
            · replace h := run_f c6 h
              try simp only [↓RA,RB,RS, fx18,p1,p2,p3,p4,reduceIte,p5,p6,p7,p8, c1, c2, c3, c4, c5, c6]
              have h := run_some h
              refine RdH.mk ⟨_, h, ?_⟩
              refine St.le_mk2 ?_
              try simp only [↓RA,RB,RS, fx18,p1,p2,p3,p4,reduceIte,p5,p6,p7,p8, c1, c2, c3, c4, c5, c6, w8]
          · replace h := run_f c5 h
            try simp only [↓RA,RB,RS, fx18,p1,p2,p3,p4,reduceIte,p5,p6,p7,p8, c1, c2, c3, c4, c5]
            obtain ⟨v51, hv51, h⟩ := run_bind h
            refine SlcH.mk (f := (Lv false 1 I)) hv51 ?_ ?_ <;> try simp only [↓RA,RB,RS, fx18,p1,p2,p3,p4,reduceIte,p5,p6,p7,p8, c1, c2, c3, c4, c5]
            obtain ⟨v53, hv53, h⟩ := run_bind h
            refine CallH.mk [false, false] (impl_isModel_sat hv53) ?_ ?_ <;> try simp only [↓RA,RB,RS, fx18,p1,p2,p3,p4,reduceIte,p5,p6,p7,p8, c1, c2, c3, c4, c5]
            refine CondH.mk (fun c7 => ?_) (fun c7 => ?_)
            · replace h := run_t c7 h
              try simp only [↓RA,RB,RS, fx18,p1,p2,p3,p4,reduceIte,p5,p6,p7,p8, c1, c2, c3, c4, c5, c7]
              have h := run_some h
              obtain rfl : _ = r := h
              refine FinH.l ?_
              try simp only [↓RA,RB,RS, fx18,p1,p2,p3,p4,reduceIte,p5,p6,p7,p8, c1, c2, c3, c4, c5, c7]
            · replace h := run_f c7 h
              try simp only [↓RA,RB,RS, fx18,p1,p2,p3,p4,reduceIte,p5,p6,p7,p8, c1, c2, c3, c4, c5, c7]
              have h := run_some h
              refine RdH.mk ⟨_, h, ?_⟩
              refine St.le_mk2 ?_
              try simp only [↓RA,RB,RS, fx18,p1,p2,p3,p4,reduceIte,p5,p6,p7,p8, c1, c2, c3, c4, c5, c7, w8]
        · try simp only [↓RA,RB,RS, fx18,p1,p2,p3,p4,reduceIte,p5,p6,p7,p8, c1, c2, c3]
          refine CondH.ff (decide_eq_false (by omega)) (fun c8 => ?_)
          try simp only [↓RA,RB,RS, fx18,p1,p2,p3,p4,reduceIte,p5,p6,p7,p8, c1, c2, c3, c8]
          have h := run_some h
          obtain rfl : _ = r := h
          refine FinH.l ?_
          try simp only [↓RA,RB,RS, fx18,p1,p2,p3,p4,reduceIte,p5,p6,p7,p8, c1, c2, c3, c8]
    · replace h := run_f c2 h
      try simp only [↓RA,RB,RS, fx18,p1,p2,p3,p4,reduceIte,p5,p6,p7,p8, c1, c2]
      have h := run_some h
      obtain rfl : _ = r := h
      refine FinH.l ?_
      try simp only [↓RA,RB,RS, fx18,p1,p2,p3,p4,reduceIte,p5,p6,p7,p8, c1, c2]
  · replace h := run_f c1 h
    try simp only [↓RA,RB,RS, fx18,p1,p2,p3,p4,reduceIte,p5,p6,p7,p8, c1]
    have h := run_some h
    obtain rfl : _ = r := h
    refine FinH.l ?_
    try simp only [↓RA,RB,RS, fx18,p1,p2,p3,p4,reduceIte,p5,p6,p7,p8, c1]

def fx12 := A @TB3 <| A @TB28 <| @mixedT
theorem eqIntS_sat {a0 : List Int} {a1 : List Int}  {r : Bool} (h : eqIntS a0 a1 = some r) : Sat Tryz.prog 12 [(.sl false 1 (a0.map I)), (.sl false 1 (a1.map I))] (B r) := by
  replace h := Run.of h
  unfold eqIntS at h
  refine Sat.of_m (nt := 26) (rs := [.tmp 4]) (n := 100000) Tryz.func12 rfl rfl rfl rfl (by simp) ?_
  try simp only [↓RA,RB,RS, fx12,p1,p2,p3,p4,reduceIte,p5,p6,p7,p8]
  refine CondH.mk (fun c1 => ?_) (fun c1 => ?_)
  · replace h := run_t c1 h
    try simp only [↓RA,RB,RS, fx12,p1,p2,p3,p4,reduceIte,p5,p6,p7,p8, c1]
    refine Mg.know_sl (b := false) (sz := 1) (es := a0.map I) 0 (by try simp only [↓RA,RB,RS, fx12,p1,p2,p3,p4,reduceIte,p5,p6,p7,p8, c1]) fun hl0 => ?_; rw [List.length_map] at hl0
    replace h := run_loop h
    refine Mg.forN h (fun i4 s4 => [(0, .val (.pv (.sl false 1 (a0.map I)))), (1, .val (.pv (.sl false 1 (a1.map I)))), (5, .val (.pv (I (i4 : Int))))]) (fun i4 s4 => []) (St.le_mk2 (by try simp only [↓RA,RB,RS, fx12,p1,p2,p3,p4,reduceIte,p5,p6,p7,p8, c1])) (fun i4 s4 hi h => ?_) (fun s4 h => ?_)
    · have w4 := wrap_succ (i := i4) (by omega)
      try simp only [↓RA,RB,RS, fx12,p1,p2,p3,p4,reduceIte,p5,p6,p7,p8, c1]
      refine CondH.tt (decide_eq_true (by omega)) (fun c2 => ?_)
      try simp only [↓RA,RB,RS, fx12,p1,p2,p3,p4,reduceIte,p5,p6,p7,p8, c1, c2]
      obtain ⟨v19, hv19, h⟩ := run_bind h
      refine IdxH.mk (f := I) hv19 ?_ ?_ <;> try simp only [↓RA,RB,RS, fx12,p1,p2,p3,p4,reduceIte,p5,p6,p7,p8, c1, c2]
      obtain ⟨v23, hv23, h⟩ := run_bind h
      refine IdxH.mk (f := I) hv23 ?_ ?_ <;> try simp only [↓RA,RB,RS, fx12,p1,p2,p3,p4,reduceIte,p5,p6,p7,p8, c1, c2]
      refine And.intro (DrawH.none (by rfl) (by first | rfl | (try simp only [↓RA,RB,RS, fx12,p1,p2,p3,p4,reduceIte,p5,p6,p7,p8] <;> rfl)) (by first | rfl | (try simp only [↓RA,RB,RS, fx12,p1,p2,p3,p4,reduceIte,p5,p6,p7,p8] <;> rfl)) (by first | rfl | (try simp only [↓RA,RB,RS, fx12,p1,p2,p3,p4,reduceIte,p5,p6,p7,p8] <;> rfl))) ?_
      try simp only [↓RA,RB,RS, fx12,p1,p2,p3,p4,reduceIte,p5,p6,p7,p8, c1, c2]
      refine CondH.mk (fun c3 => ?_) (fun c3 => ?_)
      · replace h := run_t c3 h
        try simp only [↓RA,RB,RS, fx12,p1,p2,p3,p4,reduceIte,p5,p6,p7,p8, c1, c2, c3]
        have h := run_some h
        refine RdH.mk ⟨_, h, ?_⟩
        refine St.le_mk2 ?_
        try simp only [↓RA,RB,RS, fx12,p1,p2,p3,p4,reduceIte,p5,p6,p7,p8, c1, c2, c3, w4]
      · replace h := run_f c3 h
        try simp only [↓RA,RB,RS, fx12,p1,p2,p3,p4,reduceIte,p5,p6,p7,p8, c1, c2, c3]
        have h := run_some h
        obtain rfl : _ = r := h
        refine FinH.l ?_
        try simp only [↓RA,RB,RS, fx12,p1,p2,p3,p4,reduceIte,p5,p6,p7,p8, c1, c2, c3]
    · try simp only [↓RA,RB,RS, fx12,p1,p2,p3,p4,reduceIte,p5,p6,p7,p8, c1]
      refine CondH.ff (decide_eq_false (by omega)) (fun c4 => ?_)
      try simp only [↓RA,RB,RS, fx12,p1,p2,p3,p4,reduceIte,p5,p6,p7,p8, c1, c4]
      have h := run_some h
      obtain rfl : _ = r := h
      refine FinH.l ?_
      try simp only [↓RA,RB,RS, fx12,p1,p2,p3,p4,reduceIte,p5,p6,p7,p8, c1, c4]
  · replace h := run_f c1 h
    try simp only [↓RA,RB,RS, fx12,p1,p2,p3,p4,reduceIte,p5,p6,p7,p8, c1]
    have h := run_some h
    obtain rfl : _ = r := h
    refine FinH.l ?_
    try simp only [↓RA,RB,RS, fx12,p1,p2,p3,p4,reduceIte,p5,p6,p7,p8, c1]

def fx19 := A @TB3 <| A @TB4 <| A @TB28 <| A @TB45 <| @mixedT
theorem eqIntSS_sat {a0 : List (List Int)} {a1 : List (List Int)}  {r : Bool} (h : eqIntSS a0 a1 = some r) : Sat Tryz.prog 19 [(.sl false 1 (a0.map (Lv false 1 I))), (.sl false 1 (a1.map (Lv false 1 I)))] (B r) := by
  replace h := Run.of h
  unfold eqIntSS at h
  refine Sat.of_m (nt := 27) (rs := [.tmp 4]) (n := 100000) Tryz.func19 rfl rfl rfl rfl (by simp) ?_
  try simp only [↓RA,RB,RS, fx19,p1,p2,p3,p4,reduceIte,p5,p6,p7,p8]
  refine CondH.mk (fun c1 => ?_) (fun c1 => ?_)
  · replace h := run_t c1 h
    try simp only [↓RA,RB,RS, fx19,p1,p2,p3,p4,reduceIte,p5,p6,p7,p8, c1]
    refine Mg.know_sl (b := false) (sz := 1) (es := a0.map (Lv false 1 I)) 0 (by try simp only [↓RA,RB,RS, fx19,p1,p2,p3,p4,reduceIte,p5,p6,p7,p8, c1]) fun hl0 => ?_; rw [List.length_map] at hl0
    replace h := run_loop h
    refine Mg.forN h (fun i4 s4 => [(0, .val (.pv (.sl false 1 (a0.map (Lv false 1 I))))), (1, .val (.pv (.sl false 1 (a1.map (Lv false 1 I))))), (5, .val (.pv (I (i4 : Int))))]) (fun i4 s4 => []) (St.le_mk2 (by try simp only [↓RA,RB,RS, fx19,p1,p2,p3,p4,reduceIte,p5,p6,p7,p8, c1])) (fun i4 s4 hi h => ?_) (fun s4 h => ?_)
    · have w4 := wrap_succ (i := i4) (by omega)
      try simp only [↓RA,RB,RS, fx19,p1,p2,p3,p4,reduceIte,p5,p6,p7,p8, c1]
      refine CondH.tt (decide_eq_true (by omega)) (fun c2 => ?_)
      try simp only [↓RA,RB,RS, fx19,p1,p2,p3,p4,reduceIte,p5,p6,p7,p8, c1, c2]
      obtain ⟨v19, hv19, h⟩ := run_bind h
      refine IdxH.mk (f := (Lv false 1 I)) hv19 ?_ ?_ <;> try simp only [↓RA,RB,RS, fx19,p1,p2,p3,p4,reduceIte,p5,p6,p7,p8, c1, c2]
      obtain ⟨v23, hv23, h⟩ := run_bind h
      refine IdxH.mk (f := (Lv false 1 I)) hv23 ?_ ?_ <;> try simp only [↓RA,RB,RS, fx19,p1,p2,p3,p4,reduceIte,p5,p6,p7,p8, c1, c2]
      obtain ⟨v25, hv25, h⟩ := run_bind h
      refine CallH.mk [false, false] (eqIntS_sat hv25) ?_ ?_ <;> try simp only [↓RA,RB,RS, fx19,p1,p2,p3,p4,reduceIte,p5,p6,p7,p8, c1, c2]
      refine And.intro (DrawH.none (by rfl) (by first | rfl | (try simp only [↓RA,RB,RS, fx19,p1,p2,p3,p4,reduceIte,p5,p6,p7,p8] <;> rfl)) (by first | rfl | (try simp only [↓RA,RB,RS, fx19,p1,p2,p3,p4,reduceIte,p5,p6,p7,p8] <;> rfl)) (by first | rfl | (try simp only [↓RA,RB,RS, fx19,p1,p2,p3,p4,reduceIte,p5,p6,p7,p8] <;> rfl))) ?_
      try simp only [↓RA,RB,RS, fx19,p1,p2,p3,p4,reduceIte,p5,p6,p7,p8, c1, c2]
      refine CondH.mk (fun c3 => ?_) (fun c3 => ?_)
      · replace h := run_t c3 h
        try simp only [↓RA,RB,RS, fx19,p1,p2,p3,p4,reduceIte,p5,p6,p7,p8, c1, c2, c3]
        have h := run_some h
        refine RdH.mk ⟨_, h, ?_⟩
        refine St.le_mk2 ?_
        try simp only [↓RA,RB,RS, fx19,p1,p2,p3,p4,reduceIte,p5,p6,p7,p8, c1, c2, c3, w4]
      · replace h := run_f c3 h
        try simp only [↓RA,RB,RS, fx19,p1,p2,p3,p4,reduceIte,p5,p6,p7,p8, c1, c2, c3]
        have h := run_some h
        obtain rfl : _ = r := h
        refine FinH.l ?_
        try simp only [↓RA,RB,RS, fx19,p1,p2,p3,p4,reduceIte,p5,p6,p7,p8, c1, c2, c3]
    · try simp only [↓RA,RB,RS, fx19,p1,p2,p3,p4,reduceIte,p5,p6,p7,p8, c1]
      refine CondH.ff (decide_eq_false (by omega)) (fun c4 => ?_)
      try simp only [↓RA,RB,RS, fx19,p1,p2,p3,p4,reduceIte,p5,p6,p7,p8, c1, c4]
      have h := run_some h
      obtain rfl : _ = r := h
      refine FinH.l ?_
      try simp only [↓RA,RB,RS, fx19,p1,p2,p3,p4,reduceIte,p5,p6,p7,p8, c1, c4]
  · replace h := run_f c1 h
    try simp only [↓RA,RB,RS, fx19,p1,p2,p3,p4,reduceIte,p5,p6,p7,p8, c1]
    have h := run_some h
    obtain rfl : _ = r := h
    refine FinH.l ?_
    try simp only [↓RA,RB,RS, fx19,p1,p2,p3,p4,reduceIte,p5,p6,p7,p8, c1]

def fx35 := A @TB4 <| A @TB9 <| A @TB32 <| @TB34
def fx68 := A @TB3 <| A @TB4 <| A @TB32 <| A @TB34 <| @mixedT
theorem eqTermN_sat (n : Nat) : (∀ (a0 : Term) (a1 : Term) (r : Bool), eqTermN n a0 a1 = some r → Sat Tryz.prog 35 [((Term.pv false) a0), ((Term.pv false) a1)] (B r)) ∧ (∀ (a0 : List Term) (a1 : List Term) (r : Bool), eqTermSN n a0 a1 = some r → Sat Tryz.prog 68 [(.sl false 2 (a0.map (Term.pv false))), (.sl false 2 (a1.map (Term.pv false)))] (B r)) := by
  induction n with
  | zero => exact ⟨fun _ _ _ h => by simp [eqTermN] at h, fun _ _ _ h => by simp [eqTermSN] at h⟩
  | succ n ih =>
    refine ⟨fun a0 a1 r h => ?_, fun a0 a1 r h => ?_⟩
    · replace h := Run.of h
      rw [eqTermN] at h
      refine Sat.of_m (nt := 16) (rs := [.tmp 4]) (n := 100000) Tryz.func35 rfl rfl rfl rfl (by simp) ?_
      try simp only [↓RA,RB,RS, fx35,p1,p2,p3,p4,reduceIte,p5,p6,p7,p8]
      repeat (first | with_reducible refine noR_and (by repeat (first | exact noR_empty _ _ | exact noR_nilS _ _ | refine noR_mk _ _ _ _ _ rfl ?_ | refine noR_mkS _ _ _ _ _ rfl ?_)) ?_ | with_reducible refine noC_and (by repeat (first | exact noC_empty _ _ (by try simp only [↓RA,RB,RS, fx35,p1,p2,p3,p4,reduceIte,p5,p6,p7,p8]) | exact noC_nilS _ _ (by try simp only [↓RA,RB,RS, fx35,p1,p2,p3,p4,reduceIte,p5,p6,p7,p8]) | refine noC_mk _ _ _ _ _ rfl ?_ | refine noC_mkS _ _ _ _ _ rfl ?_)) ?_ | with_reducible refine and_ac ?_ | with_reducible refine And.intro (a := _ = List.range _) (by rfl) ?_)
      refine CondH.mk (fun c1 => ?_) (fun c1 => ?_)
      · replace h := run_t c1 h
        try simp only [↓RA,RB,RS, fx35,p1,p2,p3,p4,reduceIte,p5,p6,p7,p8, c1]
        obtain ⟨v14, hv14, h⟩ := run_bind h
        refine CallH.mk [false, false] (ih.2 _ _ _ hv14) ?_ ?_ <;> try simp only [↓RA,RB,RS, fx35,p1,p2,p3,p4,reduceIte,p5,p6,p7,p8, c1]
        refine CondH.mk (fun c2 => ?_) (fun c2 => ?_)
        · replace h := run_t c2 h
          try simp only [↓RA,RB,RS, fx35,p1,p2,p3,p4,reduceIte,p5,p6,p7,p8, c1, c2]
          have h := run_some h
          obtain rfl : _ = r := h
          refine FinH.l ?_
          try simp only [↓RA,RB,RS, fx35,p1,p2,p3,p4,reduceIte,p5,p6,p7,p8, c1, c2]
        · replace h := run_f c2 h
          try simp only [↓RA,RB,RS, fx35,p1,p2,p3,p4,reduceIte,p5,p6,p7,p8, c1, c2]
          have h := run_some h
          obtain rfl : _ = r := h
          refine FinH.l ?_
          try simp only [↓RA,RB,RS, fx35,p1,p2,p3,p4,reduceIte,p5,p6,p7,p8, c1, c2]
      · replace h := run_f c1 h
        try simp only [↓RA,RB,RS, fx35,p1,p2,p3,p4,reduceIte,p5,p6,p7,p8, c1]
        have h := run_some h
        obtain rfl : _ = r := h
        refine FinH.l ?_
        try simp only [↓RA,RB,RS, fx35,p1,p2,p3,p4,reduceIte,p5,p6,p7,p8, c1]
    · replace h := Run.of h
      rw [eqTermSN] at h
      refine Sat.of_m (nt := 27) (rs := [.tmp 4]) (n := 100000) Tryz.func68 rfl rfl rfl rfl (by simp) ?_
      try simp only [↓RA,RB,RS, fx68,p1,p2,p3,p4,reduceIte,p5,p6,p7,p8]
      refine CondH.mk (fun c1 => ?_) (fun c1 => ?_)
      · replace h := run_t c1 h
        try simp only [↓RA,RB,RS, fx68,p1,p2,p3,p4,reduceIte,p5,p6,p7,p8, c1]
        refine Mg.know_sl (b := false) (sz := 2) (es := a0.map (Term.pv false)) 0 (by try simp only [↓RA,RB,RS, fx68,p1,p2,p3,p4,reduceIte,p5,p6,p7,p8, c1]) fun hl0 => ?_; rw [List.length_map] at hl0
        replace h := run_loop h
        refine Mg.forN h (fun i4 s4 => [(0, .val (.pv (.sl false 2 (a0.map (Term.pv false))))), (1, .val (.pv (.sl false 2 (a1.map (Term.pv false))))), (5, .val (.pv (I (i4 : Int))))]) (fun i4 s4 => []) (St.le_mk2 (by try simp only [↓RA,RB,RS, fx68,p1,p2,p3,p4,reduceIte,p5,p6,p7,p8, c1])) (fun i4 s4 hi h => ?_) (fun s4 h => ?_)
        · have w4 := wrap_succ (i := i4) (by omega)
          try simp only [↓RA,RB,RS, fx68,p1,p2,p3,p4,reduceIte,p5,p6,p7,p8, c1]
          refine CondH.tt (decide_eq_true (by omega)) (fun c2 => ?_)
          try simp only [↓RA,RB,RS, fx68,p1,p2,p3,p4,reduceIte,p5,p6,p7,p8, c1, c2]
          obtain ⟨v19, hv19, h⟩ := run_bind h
          refine IdxH.mk (f := (Term.pv false)) hv19 ?_ ?_ <;> try simp only [↓RA,RB,RS, fx68,p1,p2,p3,p4,reduceIte,p5,p6,p7,p8, c1, c2]
          obtain ⟨v23, hv23, h⟩ := run_bind h
          refine IdxH.mk (f := (Term.pv false)) hv23 ?_ ?_ <;> try simp only [↓RA,RB,RS, fx68,p1,p2,p3,p4,reduceIte,p5,p6,p7,p8, c1, c2]
          obtain ⟨v25, hv25, h⟩ := run_bind h
          refine CallH.mk [false, false] (ih.1 _ _ _ hv25) ?_ ?_ <;> try simp only [↓RA,RB,RS, fx68,p1,p2,p3,p4,reduceIte,p5,p6,p7,p8, c1, c2]
          refine And.intro (DrawH.none (by rfl) (by first | rfl | (try simp only [↓RA,RB,RS, fx68,p1,p2,p3,p4,reduceIte,p5,p6,p7,p8] <;> rfl)) (by first | rfl | (try simp only [↓RA,RB,RS, fx68,p1,p2,p3,p4,reduceIte,p5,p6,p7,p8] <;> rfl)) (by first | rfl | (try simp only [↓RA,RB,RS, fx68,p1,p2,p3,p4,reduceIte,p5,p6,p7,p8] <;> rfl))) ?_
          try simp only [↓RA,RB,RS, fx68,p1,p2,p3,p4,reduceIte,p5,p6,p7,p8, c1, c2]
          refine CondH.mk (fun c3 => ?_) (fun c3 => ?_)
          · replace h := run_t c3 h
            try simp only [↓RA,RB,RS, fx68,p1,p2,p3,p4,reduceIte,p5,p6,p7,p8, c1, c2, c3]
            have h := run_some h
            refine RdH.mk ⟨_, h, ?_⟩
            refine St.le_mk2 ?_
            try simp only [↓RA,RB,RS, fx68,p1,p2,p3,p4,reduceIte,p5,p6,p7,p8, c1, c2, c3, w4]
          · replace h := run_f c3 h
            try simp only [↓RA,RB,RS, fx68,p1,p2,p3,p4,reduceIte,p5,p6,p7,p8, c1, c2, c3]
            have h := run_some h
            obtain rfl : _ = r := h
            refine FinH.l ?_
            try simp only [↓RA,RB,RS, fx68,p1,p2,p3,p4,reduceIte,p5,p6,p7,p8, c1, c2, c3]
        · try simp only [↓RA,RB,RS, fx68,p1,p2,p3,p4,reduceIte,p5,p6,p7,p8, c1]
          refine CondH.ff (decide_eq_false (by omega)) (fun c4 => ?_)
          try simp only [↓RA,RB,RS, fx68,p1,p2,p3,p4,reduceIte,p5,p6,p7,p8, c1, c4]
          have h := run_some h
          obtain rfl : _ = r := h
          refine FinH.l ?_
          try simp only [↓RA,RB,RS, fx68,p1,p2,p3,p4,reduceIte,p5,p6,p7,p8, c1, c4]
      · replace h := run_f c1 h
        try simp only [↓RA,RB,RS, fx68,p1,p2,p3,p4,reduceIte,p5,p6,p7,p8, c1]
        have h := run_some h
        obtain rfl : _ = r := h
        refine FinH.l ?_
        try simp only [↓RA,RB,RS, fx68,p1,p2,p3,p4,reduceIte,p5,p6,p7,p8, c1]
theorem eqTerm_sat {a0 : Term} {a1 : Term} {r : Bool} (h : eqTerm a0 a1 = some r) : Sat Tryz.prog 35 [((Term.pv false) a0), ((Term.pv false) a1)] (B r) := by
  obtain ⟨n, hn⟩ := lim_some h
  exact (eqTermN_sat n).1 _ _ _ hn
theorem eqTermS_sat {a0 : List Term} {a1 : List Term} {r : Bool} (h : eqTermS a0 a1 = some r) : Sat Tryz.prog 68 [(.sl false 2 (a0.map (Term.pv false))), (.sl false 2 (a1.map (Term.pv false)))] (B r) := by
  obtain ⟨n, hn⟩ := lim_some h
  exact (eqTermN_sat n).2 _ _ _ hn

def fx11 := A @TB3 <| A @TB4 <| A @TB9 <| A @TB34 <| A @TB35 <| @TB37
def fx36 := A @TB3 <| A @TB4 <| A @TB35 <| A @TB37 <| @mixedT
theorem eqFormulaN_sat (n : Nat) : (∀ (a0 : Formula) (a1 : Formula) (r : Bool), eqFormulaN n a0 a1 = some r → Sat Tryz.prog 11 [((Formula.pv false) a0), ((Formula.pv false) a1)] (B r)) ∧ (∀ (a0 : List Formula) (a1 : List Formula) (r : Bool), eqFormulaSN n a0 a1 = some r → Sat Tryz.prog 36 [(.sl false 5 (a0.map (Formula.pv false))), (.sl false 5 (a1.map (Formula.pv false)))] (B r)) := by
  induction n with
  | zero => exact ⟨fun _ _ _ h => by simp [eqFormulaN] at h, fun _ _ _ h => by simp [eqFormulaSN] at h⟩
  | succ n ih =>
    refine ⟨fun a0 a1 r h => ?_, fun a0 a1 r h => ?_⟩
    · replace h := Run.of h
      rw [eqFormulaN] at h
      refine Sat.of_m (nt := 27) (rs := [.tmp 4]) (n := 100000) Tryz.func11 rfl rfl rfl rfl (by simp) ?_
      try simp only [↓RA,RB,RS, fx11,p1,p2,p3,p4,reduceIte,p5,p6,p7,p8]
      repeat (first | with_reducible refine noR_and (by repeat (first | exact noR_empty _ _ | exact noR_nilS _ _ | refine noR_mk _ _ _ _ _ rfl ?_ | refine noR_mkS _ _ _ _ _ rfl ?_)) ?_ | with_reducible refine noC_and (by repeat (first | exact noC_empty _ _ (by try simp only [↓RA,RB,RS, fx11,p1,p2,p3,p4,reduceIte,p5,p6,p7,p8]) | exact noC_nilS _ _ (by try simp only [↓RA,RB,RS, fx11,p1,p2,p3,p4,reduceIte,p5,p6,p7,p8]) | refine noC_mk _ _ _ _ _ rfl ?_ | refine noC_mkS _ _ _ _ _ rfl ?_)) ?_ | with_reducible refine and_ac ?_ | with_reducible refine And.intro (a := _ = List.range _) (by rfl) ?_)
      refine CondH.mk (fun c1 => ?_) (fun c1 => ?_)
      · replace h := run_t c1 h
        try simp only [↓RA,RB,RS, fx11,p1,p2,p3,p4,reduceIte,p5,p6,p7,p8, c1]
        obtain ⟨v14, hv14, h⟩ := run_bind h
        refine CallH.mk [false, false] (eqTerm_sat hv14) ?_ ?_ <;> try simp only [↓RA,RB,RS, fx11,p1,p2,p3,p4,reduceIte,p5,p6,p7,p8, c1]
        refine CondH.mk (fun c2 => ?_) (fun c2 => ?_)
        · replace h := run_t c2 h
          try simp only [↓RA,RB,RS, fx11,p1,p2,p3,p4,reduceIte,p5,p6,p7,p8, c1, c2]
          refine CondH.mk (fun c3 => ?_) (fun c3 => ?_)
          · replace h := run_t c3 h
            try simp only [↓RA,RB,RS, fx11,p1,p2,p3,p4,reduceIte,p5,p6,p7,p8, c1, c2, c3]
            obtain ⟨v25, hv25, h⟩ := run_bind h
            refine CallH.mk [false, false] (ih.2 _ _ _ hv25) ?_ ?_ <;> try simp only [↓RA,RB,RS, fx11,p1,p2,p3,p4,reduceIte,p5,p6,p7,p8, c1, c2, c3]
            refine CondH.mk (fun c4 => ?_) (fun c4 => ?_)
            · replace h := run_t c4 h
              try simp only [↓RA,RB,RS, fx11,p1,p2,p3,p4,reduceIte,p5,p6,p7,p8, c1, c2, c3, c4]
              have h := run_some h
              obtain rfl : _ = r := h
              refine FinH.l ?_
              try simp only [↓RA,RB,RS, fx11,p1,p2,p3,p4,reduceIte,p5,p6,p7,p8, c1, c2, c3, c4]
            · replace h := run_f c4 h
              try simp only [↓RA,RB,RS, fx11,p1,p2,p3,p4,reduceIte,p5,p6,p7,p8, c1, c2, c3, c4]
              have h := run_some h
              obtain rfl : _ = r := h
              refine FinH.l ?_
              try simp only [↓RA,RB,RS, fx11,p1,p2,p3,p4,reduceIte,p5,p6,p7,p8, c1, c2, c3, c4]
          · replace h := run_f c3 h
            try simp only [↓RA,RB,RS, fx11,p1,p2,p3,p4,reduceIte,p5,p6,p7,p8, c1, c2, c3]
            have h := run_some h
            obtain rfl : _ = r := h
            refine FinH.l ?_
            try simp only [↓RA,RB,RS, fx11,p1,p2,p3,p4,reduceIte,p5,p6,p7,p8, c1, c2, c3]
        · replace h := run_f c2 h
          try simp only [↓RA,RB,RS, fx11,p1,p2,p3,p4,reduceIte,p5,p6,p7,p8, c1, c2]
          have h := run_some h
          obtain rfl : _ = r := h
          refine FinH.l ?_
          try simp only [↓RA,RB,RS, fx11,p1,p2,p3,p4,reduceIte,p5,p6,p7,p8, c1, c2]
      · replace h := run_f c1 h
        try simp only [↓RA,RB,RS, fx11,p1,p2,p3,p4,reduceIte,p5,p6,p7,p8, c1]
        have h := run_some h
        obtain rfl : _ = r := h
        refine FinH.l ?_
        try simp only [↓RA,RB,RS, fx11,p1,p2,p3,p4,reduceIte,p5,p6,p7,p8, c1]
    · replace h := Run.of h
      rw [eqFormulaSN] at h
      refine Sat.of_m (nt := 27) (rs := [.tmp 4]) (n := 100000) Tryz.func36 rfl rfl rfl rfl (by simp) ?_
      try simp only [↓RA,RB,RS, fx36,p1,p2,p3,p4,reduceIte,p5,p6,p7,p8]
      refine CondH.mk (fun c1 => ?_) (fun c1 => ?_)
      · replace h := run_t c1 h
        try simp only [↓RA,RB,RS, fx36,p1,p2,p3,p4,reduceIte,p5,p6,p7,p8, c1]
        refine Mg.know_sl (b := false) (sz := 5) (es := a0.map (Formula.pv false)) 0 (by try simp only [↓RA,RB,RS, fx36,p1,p2,p3,p4,reduceIte,p5,p6,p7,p8, c1]) fun hl0 => ?_; rw [List.length_map] at hl0
        replace h := run_loop h
        refine Mg.forN h (fun i4 s4 => [(0, .val (.pv (.sl false 5 (a0.map (Formula.pv false))))), (1, .val (.pv (.sl false 5 (a1.map (Formula.pv false))))), (5, .val (.pv (I (i4 : Int))))]) (fun i4 s4 => []) (St.le_mk2 (by try simp only [↓RA,RB,RS, fx36,p1,p2,p3,p4,reduceIte,p5,p6,p7,p8, c1])) (fun i4 s4 hi h => ?_) (fun s4 h => ?_)
        · have w4 := wrap_succ (i := i4) (by omega)
          try simp only [↓RA,RB,RS, fx36,p1,p2,p3,p4,reduceIte,p5,p6,p7,p8, c1]
          refine CondH.tt (decide_eq_true (by omega)) (fun c2 => ?_)
          try simp only [↓RA,RB,RS, fx36,p1,p2,p3,p4,reduceIte,p5,p6,p7,p8, c1, c2]
          obtain ⟨v19, hv19, h⟩ := run_bind h
          refine IdxH.mk (f := (Formula.pv false)) hv19 ?_ ?_ <;> try simp only [↓RA,RB,RS, fx36,p1,p2,p3,p4,reduceIte,p5,p6,p7,p8, c1, c2]
          obtain ⟨v23, hv23, h⟩ := run_bind h
          refine IdxH.mk (f := (Formula.pv false)) hv23 ?_ ?_ <;> try simp only [↓RA,RB,RS, fx36,p1,p2,p3,p4,reduceIte,p5,p6,p7,p8, c1, c2]
          obtain ⟨v25, hv25, h⟩ := run_bind h
          refine CallH.mk [false, false] (ih.1 _ _ _ hv25) ?_ ?_ <;> try simp only [↓RA,RB,RS, fx36,p1,p2,p3,p4,reduceIte,p5,p6,p7,p8, c1, c2]
          refine And.intro (DrawH.none (by rfl) (by first | rfl | (try simp only [↓RA,RB,RS, fx36,p1,p2,p3,p4,reduceIte,p5,p6,p7,p8] <;> rfl)) (by first | rfl | (try simp only [↓RA,RB,RS, fx36,p1,p2,p3,p4,reduceIte,p5,p6,p7,p8] <;> rfl)) (by first | rfl | (try simp only [↓RA,RB,RS, fx36,p1,p2,p3,p4,reduceIte,p5,p6,p7,p8] <;> rfl))) ?_
          try simp only [↓RA,RB,RS, fx36,p1,p2,p3,p4,reduceIte,p5,p6,p7,p8, c1, c2]
          refine CondH.mk (fun c3 => ?_) (fun c3 => ?_)
          · replace h := run_t c3 h
            try simp only [↓RA,RB,RS, fx36,p1,p2,p3,p4,reduceIte,p5,p6,p7,p8, c1, c2, c3]
            have h := run_some h
            refine RdH.mk ⟨_, h, ?_⟩
            refine St.le_mk2 ?_
            try simp only [↓RA,RB,RS, fx36,p1,p2,p3,p4,reduceIte,p5,p6,p7,p8, c1, c2, c3, w4]
          · replace h := run_f c3 h
            try simp only [↓RA,RB,RS, fx36,p1,p2,p3,p4,reduceIte,p5,p6,p7,p8, c1, c2, c3]
            have h := run_some h
            obtain rfl : _ = r := h
            refine FinH.l ?_
            try simp only [↓RA,RB,RS, fx36,p1,p2,p3,p4,reduceIte,p5,p6,p7,p8, c1, c2, c3]
        · try simp only [↓RA,RB,RS, fx36,p1,p2,p3,p4,reduceIte,p5,p6,p7,p8, c1]
          refine CondH.ff (decide_eq_false (by omega)) (fun c4 => ?_)
          try simp only [↓RA,RB,RS, fx36,p1,p2,p3,p4,reduceIte,p5,p6,p7,p8, c1, c4]
          have h := run_some h
          obtain rfl : _ = r := h
          refine FinH.l ?_
          try simp only [↓RA,RB,RS, fx36,p1,p2,p3,p4,reduceIte,p5,p6,p7,p8, c1, c4]
      · replace h := run_f c1 h
        try simp only [↓RA,RB,RS, fx36,p1,p2,p3,p4,reduceIte,p5,p6,p7,p8, c1]
        have h := run_some h
        obtain rfl : _ = r := h
        refine FinH.l ?_
        try simp only [↓RA,RB,RS, fx36,p1,p2,p3,p4,reduceIte,p5,p6,p7,p8, c1]
theorem eqFormula_sat {a0 : Formula} {a1 : Formula} {r : Bool} (h : eqFormula a0 a1 = some r) : Sat Tryz.prog 11 [((Formula.pv false) a0), ((Formula.pv false) a1)] (B r) := by
  obtain ⟨n, hn⟩ := lim_some h
  exact (eqFormulaN_sat n).1 _ _ _ hn
theorem eqFormulaS_sat {a0 : List Formula} {a1 : List Formula} {r : Bool} (h : eqFormulaS a0 a1 = some r) : Sat Tryz.prog 36 [(.sl false 5 (a0.map (Formula.pv false))), (.sl false 5 (a1.map (Formula.pv false)))] (B r) := by
  obtain ⟨n, hn⟩ := lim_some h
  exact (eqFormulaN_sat n).2 _ _ _ hn

def fx5 := A @TB3 <| A @TB4 <| A @TB27 <| A @TB37 <| A @TB45 <| @mixedT
theorem FnExactIsInterpolant_sat {a0 : List (List Int)} {a1 : Int} {a2 : Formula}  {r : Bool} (h : FnExactIsInterpolant a0 a1 a2 = some r) : Sat Tryz.prog 5 [(.sl false 1 (a0.map (Lv false 1 I))), (I a1), ((Formula.pv false) a2)] (B r) := by
  replace h := Run.of h
  unfold FnExactIsInterpolant at h
  refine Sat.of_m (nt := 62) (rs := [.tmp 6]) (n := 100000) Tryz.func5 rfl rfl rfl rfl (by simp) ?_
  try simp only [↓RA,RB,RS, fx5,p1,p2,p3,p4,reduceIte,p5,p6,p7,p8]
  repeat (first | with_reducible refine noR_and (by repeat (first | exact noR_empty _ _ | exact noR_nilS _ _ | refine noR_mk _ _ _ _ _ rfl ?_ | refine noR_mkS _ _ _ _ _ rfl ?_)) ?_ | with_reducible refine noC_and (by repeat (first | exact noC_empty _ _ (by try simp only [↓RA,RB,RS, fx5,p1,p2,p3,p4,reduceIte,p5,p6,p7,p8]) | exact noC_nilS _ _ (by try simp only [↓RA,RB,RS, fx5,p1,p2,p3,p4,reduceIte,p5,p6,p7,p8]) | refine noC_mk _ _ _ _ _ rfl ?_ | refine noC_mkS _ _ _ _ _ rfl ?_)) ?_ | with_reducible refine and_ac ?_ | with_reducible refine And.intro (a := _ = List.range _) (by rfl) ?_)
  obtain ⟨v16, hv16, h⟩ := run_bind h
  refine CallH.mk [false, false] (szIntSS_sat hv16) ?_ ?_ <;> try simp only [↓RA,RB,RS, fx5,p1,p2,p3,p4,reduceIte,p5,p6,p7,p8]
  refine CondH.mk (fun c1 => ?_) (fun c1 => ?_)
  · replace h := run_t c1 h
    try simp only [↓RA,RB,RS, fx5,p1,p2,p3,p4,reduceIte,p5,p6,p7,p8, c1]
    have h := run_some h
    obtain rfl : _ = r := h
    refine FinH.l ?_
    try simp only [↓RA,RB,RS, fx5,p1,p2,p3,p4,reduceIte,p5,p6,p7,p8, c1]
  · replace h := run_f c1 h
    try simp only [↓RA,RB,RS, fx5,p1,p2,p3,p4,reduceIte,p5,p6,p7,p8, c1]
    obtain ⟨v21, hv21, h⟩ := run_bind h
    refine CallH.mk [false, false] (szFormula_sat hv21) ?_ ?_ <;> try simp only [↓RA,RB,RS, fx5,p1,p2,p3,p4,reduceIte,p5,p6,p7,p8, c1]
    refine CondH.mk (fun c2 => ?_) (fun c2 => ?_)
    · replace h := run_t c2 h
      try simp only [↓RA,RB,RS, fx5,p1,p2,p3,p4,reduceIte,p5,p6,p7,p8, c1, c2]
      have h := run_some h
      obtain rfl : _ = r := h
      refine FinH.l ?_
      try simp only [↓RA,RB,RS, fx5,p1,p2,p3,p4,reduceIte,p5,p6,p7,p8, c1, c2]
    · replace h := run_f c2 h
      try simp only [↓RA,RB,RS, fx5,p1,p2,p3,p4,reduceIte,p5,p6,p7,p8, c1, c2]
      obtain ⟨v26, hv26, h⟩ := run_bind h
      refine CallH.mk [false] (toIntSS_sat hv26) ?_ ?_ <;> try simp only [↓RA,RB,RS, fx5,p1,p2,p3,p4,reduceIte,p5,p6,p7,p8, c1, c2]
      repeat (first | with_reducible refine noR_and (by repeat (first | exact noR_empty _ _ | exact noR_nilS _ _ | refine noR_mk _ _ _ _ _ rfl ?_ | refine noR_mkS _ _ _ _ _ rfl ?_)) ?_ | with_reducible refine noC_and (by repeat (first | exact noC_empty _ _ (by try simp only [↓RA,RB,RS, fx5,p1,p2,p3,p4,reduceIte,p5,p6,p7,p8]) | exact noC_nilS _ _ (by try simp only [↓RA,RB,RS, fx5,p1,p2,p3,p4,reduceIte,p5,p6,p7,p8]) | refine noC_mk _ _ _ _ _ rfl ?_ | refine noC_mkS _ _ _ _ _ rfl ?_)) ?_ | with_reducible refine and_ac ?_ | with_reducible refine And.intro (a := _ = List.range _) (by rfl) ?_)
      obtain ⟨v29, hv29, h⟩ := run_bind h
      refine CallH.mk [false] (toFormula_sat hv29) ?_ ?_ <;> try simp only [↓RA,RB,RS, fx5,p1,p2,p3,p4,reduceIte,p5,p6,p7,p8, c1, c2]
      repeat (first | with_reducible refine noR_and (by repeat (first | exact noR_empty _ _ | exact noR_nilS _ _ | refine noR_mk _ _ _ _ _ rfl ?_ | refine noR_mkS _ _ _ _ _ rfl ?_)) ?_ | with_reducible refine noC_and (by repeat (first | exact noC_empty _ _ (by try simp only [↓RA,RB,RS, fx5,p1,p2,p3,p4,reduceIte,p5,p6,p7,p8]) | exact noC_nilS _ _ (by try simp only [↓RA,RB,RS, fx5,p1,p2,p3,p4,reduceIte,p5,p6,p7,p8]) | refine noC_mk _ _ _ _ _ rfl ?_ | refine noC_mkS _ _ _ _ _ rfl ?_)) ?_ | with_reducible refine and_ac ?_ | with_reducible refine And.intro (a := _ = List.range _) (by rfl) ?_)
      obtain ⟨v30, hv30, h⟩ := run_bind h
      refine CallH.mk [false, false, false] (spec_IsInterpolant_sat hv30) ?_ ?_ <;> try simp only [↓RA,RB,RS, fx5,p1,p2,p3,p4,reduceIte,p5,p6,p7,p8, c1, c2]
      refine And.intro (DrawH.mk [] [416, 464, 465] (by rfl) (by first | rfl | (try simp only [↓RA,RB,RS, fx5,p1,p2,p3,p4,reduceIte,p5,p6,p7,p8] <;> rfl)) (by first | rfl | (try simp only [↓RA,RB,RS, fx5,p1,p2,p3,p4,reduceIte,p5,p6,p7,p8] <;> rfl)) (by first | rfl | (try simp only [↓RA,RB,RS, fx5,p1,p2,p3,p4,reduceIte,p5,p6,p7,p8] <;> rfl)) (by simp) (by try simp only [↓RA,RB,RS, fx5,p1,p2,p3,p4,reduceIte,p5,p6,p7,p8]; repeat (first | exact noC_empty _ _ (by try simp only [↓RA,RB,RS, fx5,p1,p2,p3,p4,reduceIte,p5,p6,p7,p8]) | exact noC_nilS _ _ (by try simp only [↓RA,RB,RS, fx5,p1,p2,p3,p4,reduceIte,p5,p6,p7,p8]) | refine noC_mk _ _ _ _ _ rfl ?_ | refine noC_mkS _ _ _ _ _ rfl ?_ | refine And.intro ?_ ?_))) ?_
      try simp only [↓RA,RB,RS, fx5,p1,p2,p3,p4,reduceIte,p5,p6,p7,p8, c1, c2]
      obtain ⟨v34, hv34, h⟩ := run_bind h
      refine CallH.mk [false] (toIntSS_sat hv34) ?_ ?_ <;> try simp only [↓RA,RB,RS, fx5,p1,p2,p3,p4,reduceIte,p5,p6,p7,p8, c1, c2]
      repeat (first | with_reducible refine noR_and (by repeat (first | exact noR_empty _ _ | exact noR_nilS _ _ | refine noR_mk _ _ _ _ _ rfl ?_ | refine noR_mkS _ _ _ _ _ rfl ?_)) ?_ | with_reducible refine noC_and (by repeat (first | exact noC_empty _ _ (by try simp only [↓RA,RB,RS, fx5,p1,p2,p3,p4,reduceIte,p5,p6,p7,p8]) | exact noC_nilS _ _ (by try simp only [↓RA,RB,RS, fx5,p1,p2,p3,p4,reduceIte,p5,p6,p7,p8]) | refine noC_mk _ _ _ _ _ rfl ?_ | refine noC_mkS _ _ _ _ _ rfl ?_)) ?_ | with_reducible refine and_ac ?_ | with_reducible refine And.intro (a := _ = List.range _) (by rfl) ?_)
      obtain ⟨v36, hv36, h⟩ := run_bind h
      refine CallH.mk [false] (toFormula_sat hv36) ?_ ?_ <;> try simp only [↓RA,RB,RS, fx5,p1,p2,p3,p4,reduceIte,p5,p6,p7,p8, c1, c2]
      repeat (first | with_reducible refine noR_and (by repeat (first | exact noR_empty _ _ | exact noR_nilS _ _ | refine noR_mk _ _ _ _ _ rfl ?_ | refine noR_mkS _ _ _ _ _ rfl ?_)) ?_ | with_reducible refine noC_and (by repeat (first | exact noC_empty _ _ (by try simp only [↓RA,RB,RS, fx5,p1,p2,p3,p4,reduceIte,p5,p6,p7,p8]) | exact noC_nilS _ _ (by try simp only [↓RA,RB,RS, fx5,p1,p2,p3,p4,reduceIte,p5,p6,p7,p8]) | refine noC_mk _ _ _ _ _ rfl ?_ | refine noC_mkS _ _ _ _ _ rfl ?_)) ?_ | with_reducible refine and_ac ?_ | with_reducible refine And.intro (a := _ = List.range _) (by rfl) ?_)
      obtain ⟨v41, hv41, h⟩ := run_bind h
      refine CallH.mk [false, false, false] (impl_IsInterpolant_sat hv41) ?_ ?_ <;> try simp only [↓RA,RB,RS, fx5,p1,p2,p3,p4,reduceIte,p5,p6,p7,p8, c1, c2]
      refine CondH.mk (fun c3 => ?_) (fun c3 => ?_)
      · replace h := run_t c3 h
        try simp only [↓RA,RB,RS, fx5,p1,p2,p3,p4,reduceIte,p5,p6,p7,p8, c1, c2, c3]
        refine CondH.mk (fun c4 => ?_) (fun c4 => ?_)
        · replace h := run_t c4 h
          try simp only [↓RA,RB,RS, fx5,p1,p2,p3,p4,reduceIte,p5,p6,p7,p8, c1, c2, c3, c4]
          obtain ⟨v54, hv54, h⟩ := run_bind h
          refine CallH.mk [false] (toIntSS_sat hv54) ?_ ?_ <;> try simp only [↓RA,RB,RS, fx5,p1,p2,p3,p4,reduceIte,p5,p6,p7,p8, c1, c2, c3, c4]
          repeat (first | with_reducible refine noR_and (by repeat (first | exact noR_empty _ _ | exact noR_nilS _ _ | refine noR_mk _ _ _ _ _ rfl ?_ | refine noR_mkS _ _ _ _ _ rfl ?_)) ?_ | with_reducible refine noC_and (by repeat (first | exact noC_empty _ _ (by try simp only [↓RA,RB,RS, fx5,p1,p2,p3,p4,reduceIte,p5,p6,p7,p8]) | exact noC_nilS _ _ (by try simp only [↓RA,RB,RS, fx5,p1,p2,p3,p4,reduceIte,p5,p6,p7,p8]) | refine noC_mk _ _ _ _ _ rfl ?_ | refine noC_mkS _ _ _ _ _ rfl ?_)) ?_ | with_reducible refine and_ac ?_ | with_reducible refine And.intro (a := _ = List.range _) (by rfl) ?_)
          obtain ⟨v55, hv55, h⟩ := run_bind h
          refine CallH.mk [false, false] (eqIntSS_sat hv55) ?_ ?_ <;> try simp only [↓RA,RB,RS, fx5,p1,p2,p3,p4,reduceIte,p5,p6,p7,p8, c1, c2, c3, c4]
          refine CondH.mk (fun c5 => ?_) (fun c5 => ?_)
          · replace h := run_t c5 h
            try simp only [↓RA,RB,RS, fx5,p1,p2,p3,p4,reduceIte,p5,p6,p7,p8, c1, c2, c3, c4, c5]
            obtain ⟨v59, hv59, h⟩ := run_bind h
            refine CallH.mk [false] (toFormula_sat hv59) ?_ ?_ <;> try simp only [↓RA,RB,RS, fx5,p1,p2,p3,p4,reduceIte,p5,p6,p7,p8, c1, c2, c3, c4, c5]
            repeat (first | with_reducible refine noR_and (by repeat (first | exact noR_empty _ _ | exact noR_nilS _ _ | refine noR_mk _ _ _ _ _ rfl ?_ | refine noR_mkS _ _ _ _ _ rfl ?_)) ?_ | with_reducible refine noC_and (by repeat (first | exact noC_empty _ _ (by try simp only [↓RA,RB,RS, fx5,p1,p2,p3,p4,reduceIte,p5,p6,p7,p8]) | exact noC_nilS _ _ (by try simp only [↓RA,RB,RS, fx5,p1,p2,p3,p4,reduceIte,p5,p6,p7,p8]) | refine noC_mk _ _ _ _ _ rfl ?_ | refine noC_mkS _ _ _ _ _ rfl ?_)) ?_ | with_reducible refine and_ac ?_ | with_reducible refine And.intro (a := _ = List.range _) (by rfl) ?_)
            obtain ⟨v60, hv60, h⟩ := run_bind h
            refine CallH.mk [false, false] (eqFormula_sat hv60) ?_ ?_ <;> try simp only [↓RA,RB,RS, fx5,p1,p2,p3,p4,reduceIte,p5,p6,p7,p8, c1, c2, c3, c4, c5]
            refine And.intro (DrawH.mk [] [944, 945] (by rfl) (by first | rfl | (try simp only [↓RA,RB,RS, fx5,p1,p2,p3,p4,reduceIte,p5,p6,p7,p8] <;> rfl)) (by first | rfl | (try simp only [↓RA,RB,RS, fx5,p1,p2,p3,p4,reduceIte,p5,p6,p7,p8] <;> rfl)) (by first | rfl | (try simp only [↓RA,RB,RS, fx5,p1,p2,p3,p4,reduceIte,p5,p6,p7,p8] <;> rfl)) (by simp) (by try simp only [↓RA,RB,RS, fx5,p1,p2,p3,p4,reduceIte,p5,p6,p7,p8]; repeat (first | exact noC_empty _ _ (by try simp only [↓RA,RB,RS, fx5,p1,p2,p3,p4,reduceIte,p5,p6,p7,p8]) | exact noC_nilS _ _ (by try simp only [↓RA,RB,RS, fx5,p1,p2,p3,p4,reduceIte,p5,p6,p7,p8]) | refine noC_mk _ _ _ _ _ rfl ?_ | refine noC_mkS _ _ _ _ _ rfl ?_ | refine And.intro ?_ ?_))) ?_
            try simp only [↓RA,RB,RS, fx5,p1,p2,p3,p4,reduceIte,p5,p6,p7,p8, c1, c2, c3, c4, c5]
            refine CondH.mk (fun c6 => ?_) (fun c6 => ?_)
            · replace h := run_t c6 h
              try simp only [↓RA,RB,RS, fx5,p1,p2,p3,p4,reduceIte,p5,p6,p7,p8, c1, c2, c3, c4, c5, c6]
              have h := run_some h
              obtain rfl : _ = r := h
              refine FinH.l ?_
              try simp only [↓RA,RB,RS, fx5,p1,p2,p3,p4,reduceIte,p5,p6,p7,p8, c1, c2, c3, c4, c5, c6]
            · replace h := run_f c6 h
              try simp only [↓RA,RB,RS, fx5,p1,p2,p3,p4,reduceIte,p5,p6,p7,p8, c1, c2, c3, c4, c5, c6]
              have h := run_some h
              obtain rfl : _ = r := h
              refine FinH.l ?_
              try simp only [↓RA,RB,RS, fx5,p1,p2,p3,p4,reduceIte,p5,p6,p7,p8, c1, c2, c3, c4, c5, c6]
          · replace h := run_f c5 h
            try simp only [↓RA,RB,RS, fx5,p1,p2,p3,p4,reduceIte,p5,p6,p7,p8, c1, c2, c3, c4, c5]
            have h := run_some h
            obtain rfl : _ = r := h
            refine FinH.l ?_
            try simp only [↓RA,RB,RS, fx5,p1,p2,p3,p4,reduceIte,p5,p6,p7,p8, c1, c2, c3, c4, c5]
        · replace h := run_f c4 h
          try simp only [↓RA,RB,RS, fx5,p1,p2,p3,p4,reduceIte,p5,p6,p7,p8, c1, c2, c3, c4]
          have h := run_some h
          obtain rfl : _ = r := h
          refine FinH.l ?_
          try simp only [↓RA,RB,RS, fx5,p1,p2,p3,p4,reduceIte,p5,p6,p7,p8, c1, c2, c3, c4]
      · replace h := run_f c3 h
        try simp only [↓RA,RB,RS, fx5,p1,p2,p3,p4,reduceIte,p5,p6,p7,p8, c1, c2, c3]
        have h := run_some h
        obtain rfl : _ = r := h
        refine FinH.l ?_
        try simp only [↓RA,RB,RS, fx5,p1,p2,p3,p4,reduceIte,p5,p6,p7,p8, c1, c2, c3]

end Go.Proofs.YtkokcfphepmeeaaGreatDoor
