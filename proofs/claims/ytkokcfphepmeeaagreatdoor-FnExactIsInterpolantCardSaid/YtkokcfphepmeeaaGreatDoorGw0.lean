/- A part of the proof: lemmas only; nothing is claimed here beyond what each lemma says. -/
import Derived.Test.YtkokcfphepmeeaaGreatDoorGm
import Derived.Test.YtkokcfphepmeeaaGreatDoorGf
set_option linter.unusedSimpArgs false
set_option linter.unusedVariables false
set_option linter.defProp false
set_option maxRecDepth 4000
namespace Go.Proofs.YtkokcfphepmeeaaGreatDoor
open Go.Av
set_option maxHeartbeats 4000000
open And renaming intro → A
open Nat renaming reduceLT → p1, reduceAdd → p2, reduceMul → p3, reduceEqDiff → p4, reduceBEq → p5, reduceLeDiff → p6, reduceSub → p7
open Int renaming reduceToNat → p8
def fx39 := A @TB3 <| @TB28
theorem szIntS_sat {a0 : List Int} {a1 : Int}  {r : Int} (h : szIntS a0 a1 = some r) : Sat Tryz.prog 39 [(.sl false 1 (a0.map I)), (I a1)] (I r) := by
  replace h := Run.of h
  unfold szIntS at h
  refine Sat.of_m (nt := 12) (rs := [.tmp 4]) (n := 100000) Tryz.func39 rfl rfl rfl rfl (by simp) ?_
  try simp only [↓RA,RB,RS, fx39,p1,p2,p3,p4,reduceIte,p5,p6,p7,p8]
  refine CondH.mk (fun c1 => ?_) (fun c1 => ?_)
  · replace h := run_t c1 h
    try simp only [↓RA,RB,RS, fx39,p1,p2,p3,p4,reduceIte,p5,p6,p7,p8, c1]
    have h := run_some h
    obtain rfl : _ = r := h
    refine FinH.l ?_
    try simp only [↓RA,RB,RS, fx39,p1,p2,p3,p4,reduceIte,p5,p6,p7,p8, c1]
  · replace h := run_f c1 h
    try simp only [↓RA,RB,RS, fx39,p1,p2,p3,p4,reduceIte,p5,p6,p7,p8, c1]
    have h := run_some h
    obtain rfl : _ = r := h
    refine FinH.l ?_
    try simp only [↓RA,RB,RS, fx39,p1,p2,p3,p4,reduceIte,p5,p6,p7,p8, c1]

def fx15 := A @TB3 <| A @TB28 <| @TB45
theorem szIntSS_sat {a0 : List (List Int)} {a1 : Int}  {r : Int} (h : szIntSS a0 a1 = some r) : Sat Tryz.prog 15 [(.sl false 1 (a0.map (Lv false 1 I))), (I a1)] (I r) := by
  replace h := Run.of h
  unfold szIntSS at h
  refine Sat.of_m (nt := 27) (rs := [.tmp 4]) (n := 100000) Tryz.func15 rfl rfl rfl rfl (by simp) ?_
  try simp only [↓RA,RB,RS, fx15,p1,p2,p3,p4,reduceIte,p5,p6,p7,p8]
  refine CondH.mk (fun c1 => ?_) (fun c1 => ?_)
  · replace h := run_t c1 h
    try simp only [↓RA,RB,RS, fx15,p1,p2,p3,p4,reduceIte,p5,p6,p7,p8, c1]
    have h := run_some h
    obtain rfl : _ = r := h
    refine FinH.l ?_
    try simp only [↓RA,RB,RS, fx15,p1,p2,p3,p4,reduceIte,p5,p6,p7,p8, c1]
  · replace h := run_f c1 h
    try simp only [↓RA,RB,RS, fx15,p1,p2,p3,p4,reduceIte,p5,p6,p7,p8, c1]
    refine Mg.know_sl (b := false) (sz := 1) (es := a0.map (Lv false 1 I)) 0 (by try simp only [↓RA,RB,RS, fx15,p1,p2,p3,p4,reduceIte,p5,p6,p7,p8, c1]) fun hl0 => ?_; rw [List.length_map] at hl0
    replace h := run_loop h
    refine Mg.forN h (fun i5 s5 => [(0, .val (.pv (.sl false 1 (a0.map (Lv false 1 I))))), (1, .val (.pv (I s5))), (5, .val (.pv (I (i5 : Int))))]) (fun i5 s5 => []) (St.le_mk2 (by try simp only [↓RA,RB,RS, fx15,p1,p2,p3,p4,reduceIte,p5,p6,p7,p8, c1])) (fun i5 s5 hi h => ?_) (fun s5 h => ?_)
    · have w5 := wrap_succ (i := i5) (by omega)
      try simp only [↓RA,RB,RS, fx15,p1,p2,p3,p4,reduceIte,p5,p6,p7,p8, c1]
      refine CondH.tt (decide_eq_true (by omega)) (fun c2 => ?_)
      try simp only [↓RA,RB,RS, fx15,p1,p2,p3,p4,reduceIte,p5,p6,p7,p8, c1, c2]
      obtain ⟨v20, hv20, h⟩ := run_bind h
      refine IdxH.mk (f := (Lv false 1 I)) hv20 ?_ ?_ <;> try simp only [↓RA,RB,RS, fx15,p1,p2,p3,p4,reduceIte,p5,p6,p7,p8, c1, c2]
      obtain ⟨v23, hv23, h⟩ := run_bind h
      refine CallH.mk [false, false] (szIntS_sat hv23) ?_ ?_ <;> try simp only [↓RA,RB,RS, fx15,p1,p2,p3,p4,reduceIte,p5,p6,p7,p8, c1, c2]
      refine CondH.mk (fun c3 => ?_) (fun c3 => ?_)
      · replace h := run_t c3 h
        try simp only [↓RA,RB,RS, fx15,p1,p2,p3,p4,reduceIte,p5,p6,p7,p8, c1, c2, c3]
        have h := run_some h
        obtain rfl : _ = r := h
        refine FinH.l ?_
        try simp only [↓RA,RB,RS, fx15,p1,p2,p3,p4,reduceIte,p5,p6,p7,p8, c1, c2, c3]
      · replace h := run_f c3 h
        try simp only [↓RA,RB,RS, fx15,p1,p2,p3,p4,reduceIte,p5,p6,p7,p8, c1, c2, c3]
        have h := run_some h
        refine RdH.mk ⟨_, h, ?_⟩
        refine St.le_mk2 ?_
        try simp only [↓RA,RB,RS, fx15,p1,p2,p3,p4,reduceIte,p5,p6,p7,p8, c1, c2, c3, w5]
    · try simp only [↓RA,RB,RS, fx15,p1,p2,p3,p4,reduceIte,p5,p6,p7,p8, c1]
      refine CondH.ff (decide_eq_false (by omega)) (fun c4 => ?_)
      try simp only [↓RA,RB,RS, fx15,p1,p2,p3,p4,reduceIte,p5,p6,p7,p8, c1, c4]
      have h := run_some h
      obtain rfl : _ = r := h
      refine FinH.l ?_
      try simp only [↓RA,RB,RS, fx15,p1,p2,p3,p4,reduceIte,p5,p6,p7,p8, c1, c4]

def fx20 := A @TB3 <| A @TB9 <| A @TB22 <| @TB24
def fx50 := A @TB3 <| A @TB22 <| @TB24
theorem szTermN_sat (n : Nat) : (∀ (a0 : Term) (a1 : Int) (r : Int), szTermN n a0 a1 = some r → Sat Tryz.prog 20 [((Term.pv false) a0), (I a1)] (I r)) ∧ (∀ (a0 : List Term) (a1 : Int) (r : Int), szTermSN n a0 a1 = some r → Sat Tryz.prog 50 [(.sl false 2 (a0.map (Term.pv false))), (I a1)] (I r)) := by
  induction n with
  | zero => exact ⟨fun _ _ _ h => by simp [szTermN] at h, fun _ _ _ h => by simp [szTermSN] at h⟩
  | succ n ih =>
    refine ⟨fun a0 a1 r h => ?_, fun a0 a1 r h => ?_⟩
    · replace h := Run.of h
      rw [szTermN] at h
      refine Sat.of_m (nt := 19) (rs := [.tmp 4]) (n := 100000) Tryz.func20 rfl rfl rfl rfl (by simp) ?_
      try simp only [↓RA,RB,RS, fx20,p1,p2,p3,p4,reduceIte,p5,p6,p7,p8]
      repeat (first | with_reducible refine noR_and (by repeat (first | exact noR_empty _ _ | exact noR_nilS _ _ | refine noR_mk _ _ _ _ _ rfl ?_ | refine noR_mkS _ _ _ _ _ rfl ?_)) ?_ | with_reducible refine noC_and (by repeat (first | exact noC_empty _ _ (by try simp only [↓RA,RB,RS, fx20,p1,p2,p3,p4,reduceIte,p5,p6,p7,p8]) | exact noC_nilS _ _ (by try simp only [↓RA,RB,RS, fx20,p1,p2,p3,p4,reduceIte,p5,p6,p7,p8]) | refine noC_mk _ _ _ _ _ rfl ?_ | refine noC_mkS _ _ _ _ _ rfl ?_)) ?_ | with_reducible refine and_ac ?_ | with_reducible refine And.intro (a := _ = List.range _) (by rfl) ?_)
      refine CondH.mk (fun c1 => ?_) (fun c1 => ?_)
      · replace h := run_t c1 h
        try simp only [↓RA,RB,RS, fx20,p1,p2,p3,p4,reduceIte,p5,p6,p7,p8, c1]
        have h := run_some h
        obtain rfl : _ = r := h
        refine FinH.l ?_
        try simp only [↓RA,RB,RS, fx20,p1,p2,p3,p4,reduceIte,p5,p6,p7,p8, c1]
      · replace h := run_f c1 h
        try simp only [↓RA,RB,RS, fx20,p1,p2,p3,p4,reduceIte,p5,p6,p7,p8, c1]
        obtain ⟨v15, hv15, h⟩ := run_bind h
        refine CallH.mk [false, false] (ih.2 _ _ _ hv15) ?_ ?_ <;> try simp only [↓RA,RB,RS, fx20,p1,p2,p3,p4,reduceIte,p5,p6,p7,p8, c1]
        refine CondH.mk (fun c2 => ?_) (fun c2 => ?_)
        · replace h := run_t c2 h
          try simp only [↓RA,RB,RS, fx20,p1,p2,p3,p4,reduceIte,p5,p6,p7,p8, c1, c2]
          have h := run_some h
          obtain rfl : _ = r := h
          refine FinH.l ?_
          try simp only [↓RA,RB,RS, fx20,p1,p2,p3,p4,reduceIte,p5,p6,p7,p8, c1, c2]
        · replace h := run_f c2 h
          try simp only [↓RA,RB,RS, fx20,p1,p2,p3,p4,reduceIte,p5,p6,p7,p8, c1, c2]
          have h := run_some h
          obtain rfl : _ = r := h
          refine FinH.l ?_
          try simp only [↓RA,RB,RS, fx20,p1,p2,p3,p4,reduceIte,p5,p6,p7,p8, c1, c2]
    · replace h := Run.of h
      rw [szTermSN] at h
      refine Sat.of_m (nt := 27) (rs := [.tmp 4]) (n := 100000) Tryz.func50 rfl rfl rfl rfl (by simp) ?_
      try simp only [↓RA,RB,RS, fx50,p1,p2,p3,p4,reduceIte,p5,p6,p7,p8]
      refine CondH.mk (fun c1 => ?_) (fun c1 => ?_)
      · replace h := run_t c1 h
        try simp only [↓RA,RB,RS, fx50,p1,p2,p3,p4,reduceIte,p5,p6,p7,p8, c1]
        have h := run_some h
        obtain rfl : _ = r := h
        refine FinH.l ?_
        try simp only [↓RA,RB,RS, fx50,p1,p2,p3,p4,reduceIte,p5,p6,p7,p8, c1]
      · replace h := run_f c1 h
        try simp only [↓RA,RB,RS, fx50,p1,p2,p3,p4,reduceIte,p5,p6,p7,p8, c1]
        refine Mg.know_sl (b := false) (sz := 2) (es := a0.map (Term.pv false)) 0 (by try simp only [↓RA,RB,RS, fx50,p1,p2,p3,p4,reduceIte,p5,p6,p7,p8, c1]) fun hl0 => ?_; rw [List.length_map] at hl0
        replace h := run_loop h
        refine Mg.forN h (fun i5 s5 => [(0, .val (.pv (.sl false 2 (a0.map (Term.pv false))))), (1, .val (.pv (I s5))), (5, .val (.pv (I (i5 : Int))))]) (fun i5 s5 => []) (St.le_mk2 (by try simp only [↓RA,RB,RS, fx50,p1,p2,p3,p4,reduceIte,p5,p6,p7,p8, c1])) (fun i5 s5 hi h => ?_) (fun s5 h => ?_)
        · have w5 := wrap_succ (i := i5) (by omega)
          try simp only [↓RA,RB,RS, fx50,p1,p2,p3,p4,reduceIte,p5,p6,p7,p8, c1]
          refine CondH.tt (decide_eq_true (by omega)) (fun c2 => ?_)
          try simp only [↓RA,RB,RS, fx50,p1,p2,p3,p4,reduceIte,p5,p6,p7,p8, c1, c2]
          obtain ⟨v20, hv20, h⟩ := run_bind h
          refine IdxH.mk (f := (Term.pv false)) hv20 ?_ ?_ <;> try simp only [↓RA,RB,RS, fx50,p1,p2,p3,p4,reduceIte,p5,p6,p7,p8, c1, c2]
          obtain ⟨v23, hv23, h⟩ := run_bind h
          refine CallH.mk [false, false] (ih.1 _ _ _ hv23) ?_ ?_ <;> try simp only [↓RA,RB,RS, fx50,p1,p2,p3,p4,reduceIte,p5,p6,p7,p8, c1, c2]
          refine CondH.mk (fun c3 => ?_) (fun c3 => ?_)
          · replace h := run_t c3 h
            try simp only [↓RA,RB,RS, fx50,p1,p2,p3,p4,reduceIte,p5,p6,p7,p8, c1, c2, c3]
            have h := run_some h
            obtain rfl : _ = r := h
            refine FinH.l ?_
            try simp only [↓RA,RB,RS, fx50,p1,p2,p3,p4,reduceIte,p5,p6,p7,p8, c1, c2, c3]
          · replace h := run_f c3 h
            try simp only [↓RA,RB,RS, fx50,p1,p2,p3,p4,reduceIte,p5,p6,p7,p8, c1, c2, c3]
            have h := run_some h
            refine RdH.mk ⟨_, h, ?_⟩
            refine St.le_mk2 ?_
            try simp only [↓RA,RB,RS, fx50,p1,p2,p3,p4,reduceIte,p5,p6,p7,p8, c1, c2, c3, w5]
        · try simp only [↓RA,RB,RS, fx50,p1,p2,p3,p4,reduceIte,p5,p6,p7,p8, c1]
          refine CondH.ff (decide_eq_false (by omega)) (fun c4 => ?_)
          try simp only [↓RA,RB,RS, fx50,p1,p2,p3,p4,reduceIte,p5,p6,p7,p8, c1, c4]
          have h := run_some h
          obtain rfl : _ = r := h
          refine FinH.l ?_
          try simp only [↓RA,RB,RS, fx50,p1,p2,p3,p4,reduceIte,p5,p6,p7,p8, c1, c4]
theorem szTerm_sat {a0 : Term} {a1 : Int} {r : Int} (h : szTerm a0 a1 = some r) : Sat Tryz.prog 20 [((Term.pv false) a0), (I a1)] (I r) := by
  obtain ⟨n, hn⟩ := lim_some h
  exact (szTermN_sat n).1 _ _ _ hn
theorem szTermS_sat {a0 : List Term} {a1 : Int} {r : Int} (h : szTermS a0 a1 = some r) : Sat Tryz.prog 50 [(.sl false 2 (a0.map (Term.pv false))), (I a1)] (I r) := by
  obtain ⟨n, hn⟩ := lim_some h
  exact (szTermN_sat n).2 _ _ _ hn

def fx6 := A @TB3 <| A @TB9 <| A @TB24 <| A @TB25 <| @TB27
def fx21 := A @TB3 <| A @TB25 <| @TB27
theorem szFormulaN_sat (n : Nat) : (∀ (a0 : Formula) (a1 : Int) (r : Int), szFormulaN n a0 a1 = some r → Sat Tryz.prog 6 [((Formula.pv false) a0), (I a1)] (I r)) ∧ (∀ (a0 : List Formula) (a1 : Int) (r : Int), szFormulaSN n a0 a1 = some r → Sat Tryz.prog 21 [(.sl false 5 (a0.map (Formula.pv false))), (I a1)] (I r)) := by
  induction n with
  | zero => exact ⟨fun _ _ _ h => by simp [szFormulaN] at h, fun _ _ _ h => by simp [szFormulaSN] at h⟩
  | succ n ih =>
    refine ⟨fun a0 a1 r h => ?_, fun a0 a1 r h => ?_⟩
    · replace h := Run.of h
      rw [szFormulaN] at h
      refine Sat.of_m (nt := 25) (rs := [.tmp 4]) (n := 100000) Tryz.func6 rfl rfl rfl rfl (by simp) ?_
      try simp only [↓RA,RB,RS, fx6,p1,p2,p3,p4,reduceIte,p5,p6,p7,p8]
      repeat (first | with_reducible refine noR_and (by repeat (first | exact noR_empty _ _ | exact noR_nilS _ _ | refine noR_mk _ _ _ _ _ rfl ?_ | refine noR_mkS _ _ _ _ _ rfl ?_)) ?_ | with_reducible refine noC_and (by repeat (first | exact noC_empty _ _ (by try simp only [↓RA,RB,RS, fx6,p1,p2,p3,p4,reduceIte,p5,p6,p7,p8]) | exact noC_nilS _ _ (by try simp only [↓RA,RB,RS, fx6,p1,p2,p3,p4,reduceIte,p5,p6,p7,p8]) | refine noC_mk _ _ _ _ _ rfl ?_ | refine noC_mkS _ _ _ _ _ rfl ?_)) ?_ | with_reducible refine and_ac ?_ | with_reducible refine And.intro (a := _ = List.range _) (by rfl) ?_)
      obtain ⟨v8, hv8, h⟩ := run_bind h
      refine CallH.mk [false, false] (szTerm_sat hv8) ?_ ?_ <;> try simp only [↓RA,RB,RS, fx6,p1,p2,p3,p4,reduceIte,p5,p6,p7,p8]
      refine CondH.mk (fun c1 => ?_) (fun c1 => ?_)
      · replace h := run_t c1 h
        try simp only [↓RA,RB,RS, fx6,p1,p2,p3,p4,reduceIte,p5,p6,p7,p8, c1]
        have h := run_some h
        obtain rfl : _ = r := h
        refine FinH.l ?_
        try simp only [↓RA,RB,RS, fx6,p1,p2,p3,p4,reduceIte,p5,p6,p7,p8, c1]
      · replace h := run_f c1 h
        try simp only [↓RA,RB,RS, fx6,p1,p2,p3,p4,reduceIte,p5,p6,p7,p8, c1]
        refine CondH.mk (fun c2 => ?_) (fun c2 => ?_)
        · replace h := run_t c2 h
          try simp only [↓RA,RB,RS, fx6,p1,p2,p3,p4,reduceIte,p5,p6,p7,p8, c1, c2]
          have h := run_some h
          obtain rfl : _ = r := h
          refine FinH.l ?_
          try simp only [↓RA,RB,RS, fx6,p1,p2,p3,p4,reduceIte,p5,p6,p7,p8, c1, c2]
        · replace h := run_f c2 h
          try simp only [↓RA,RB,RS, fx6,p1,p2,p3,p4,reduceIte,p5,p6,p7,p8, c1, c2]
          obtain ⟨v21, hv21, h⟩ := run_bind h
          refine CallH.mk [false, false] (ih.2 _ _ _ hv21) ?_ ?_ <;> try simp only [↓RA,RB,RS, fx6,p1,p2,p3,p4,reduceIte,p5,p6,p7,p8, c1, c2]
          refine CondH.mk (fun c3 => ?_) (fun c3 => ?_)
          · replace h := run_t c3 h
            try simp only [↓RA,RB,RS, fx6,p1,p2,p3,p4,reduceIte,p5,p6,p7,p8, c1, c2, c3]
            have h := run_some h
            obtain rfl : _ = r := h
            refine FinH.l ?_
            try simp only [↓RA,RB,RS, fx6,p1,p2,p3,p4,reduceIte,p5,p6,p7,p8, c1, c2, c3]
          · replace h := run_f c3 h
            try simp only [↓RA,RB,RS, fx6,p1,p2,p3,p4,reduceIte,p5,p6,p7,p8, c1, c2, c3]
            have h := run_some h
            obtain rfl : _ = r := h
            refine FinH.l ?_
            try simp only [↓RA,RB,RS, fx6,p1,p2,p3,p4,reduceIte,p5,p6,p7,p8, c1, c2, c3]
    · replace h := Run.of h
      rw [szFormulaSN] at h
      refine Sat.of_m (nt := 27) (rs := [.tmp 4]) (n := 100000) Tryz.func21 rfl rfl rfl rfl (by simp) ?_
      try simp only [↓RA,RB,RS, fx21,p1,p2,p3,p4,reduceIte,p5,p6,p7,p8]
      refine CondH.mk (fun c1 => ?_) (fun c1 => ?_)
      · replace h := run_t c1 h
        try simp only [↓RA,RB,RS, fx21,p1,p2,p3,p4,reduceIte,p5,p6,p7,p8, c1]
        have h := run_some h
        obtain rfl : _ = r := h
        refine FinH.l ?_
        try simp only [↓RA,RB,RS, fx21,p1,p2,p3,p4,reduceIte,p5,p6,p7,p8, c1]
      · replace h := run_f c1 h
        try simp only [↓RA,RB,RS, fx21,p1,p2,p3,p4,reduceIte,p5,p6,p7,p8, c1]
        refine Mg.know_sl (b := false) (sz := 5) (es := a0.map (Formula.pv false)) 0 (by try simp only [↓RA,RB,RS, fx21,p1,p2,p3,p4,reduceIte,p5,p6,p7,p8, c1]) fun hl0 => ?_; rw [List.length_map] at hl0
        replace h := run_loop h
        refine Mg.forN h (fun i5 s5 => [(0, .val (.pv (.sl false 5 (a0.map (Formula.pv false))))), (1, .val (.pv (I s5))), (5, .val (.pv (I (i5 : Int))))]) (fun i5 s5 => []) (St.le_mk2 (by try simp only [↓RA,RB,RS, fx21,p1,p2,p3,p4,reduceIte,p5,p6,p7,p8, c1])) (fun i5 s5 hi h => ?_) (fun s5 h => ?_)
        · have w5 := wrap_succ (i := i5) (by omega)
          try simp only [↓RA,RB,RS, fx21,p1,p2,p3,p4,reduceIte,p5,p6,p7,p8, c1]
          refine CondH.tt (decide_eq_true (by omega)) (fun c2 => ?_)
          try simp only [↓RA,RB,RS, fx21,p1,p2,p3,p4,reduceIte,p5,p6,p7,p8, c1, c2]
          obtain ⟨v20, hv20, h⟩ := run_bind h
          refine IdxH.mk (f := (Formula.pv false)) hv20 ?_ ?_ <;> try simp only [↓RA,RB,RS, fx21,p1,p2,p3,p4,reduceIte,p5,p6,p7,p8, c1, c2]
          obtain ⟨v23, hv23, h⟩ := run_bind h
          refine CallH.mk [false, false] (ih.1 _ _ _ hv23) ?_ ?_ <;> try simp only [↓RA,RB,RS, fx21,p1,p2,p3,p4,reduceIte,p5,p6,p7,p8, c1, c2]
          refine CondH.mk (fun c3 => ?_) (fun c3 => ?_)
          · replace h := run_t c3 h
            try simp only [↓RA,RB,RS, fx21,p1,p2,p3,p4,reduceIte,p5,p6,p7,p8, c1, c2, c3]
            have h := run_some h
            obtain rfl : _ = r := h
            refine FinH.l ?_
            try simp only [↓RA,RB,RS, fx21,p1,p2,p3,p4,reduceIte,p5,p6,p7,p8, c1, c2, c3]
          · replace h := run_f c3 h
            try simp only [↓RA,RB,RS, fx21,p1,p2,p3,p4,reduceIte,p5,p6,p7,p8, c1, c2, c3]
            have h := run_some h
            refine RdH.mk ⟨_, h, ?_⟩
            refine St.le_mk2 ?_
            try simp only [↓RA,RB,RS, fx21,p1,p2,p3,p4,reduceIte,p5,p6,p7,p8, c1, c2, c3, w5]
        · try simp only [↓RA,RB,RS, fx21,p1,p2,p3,p4,reduceIte,p5,p6,p7,p8, c1]
          refine CondH.ff (decide_eq_false (by omega)) (fun c4 => ?_)
          try simp only [↓RA,RB,RS, fx21,p1,p2,p3,p4,reduceIte,p5,p6,p7,p8, c1, c4]
          have h := run_some h
          obtain rfl : _ = r := h
          refine FinH.l ?_
          try simp only [↓RA,RB,RS, fx21,p1,p2,p3,p4,reduceIte,p5,p6,p7,p8, c1, c4]
theorem szFormula_sat {a0 : Formula} {a1 : Int} {r : Int} (h : szFormula a0 a1 = some r) : Sat Tryz.prog 6 [((Formula.pv false) a0), (I a1)] (I r) := by
  obtain ⟨n, hn⟩ := lim_some h
  exact (szFormulaN_sat n).1 _ _ _ hn
theorem szFormulaS_sat {a0 : List Formula} {a1 : Int} {r : Int} (h : szFormulaS a0 a1 = some r) : Sat Tryz.prog 21 [(.sl false 5 (a0.map (Formula.pv false))), (I a1)] (I r) := by
  obtain ⟨n, hn⟩ := lim_some h
  exact (szFormulaN_sat n).2 _ _ _ hn

def fx9 := A @TB3 <| @TB28
theorem toIntS_sat {a0 : List Int}  {r : List Int} (h : toIntS a0 = some r) : Sat Tryz.prog 9 [(.sl false 1 (a0.map I))] (.sl true 1 (r.map I)) := by
  replace h := Run.of h
  unfold toIntS at h
  refine Sat.of_m (nt := 22) (rs := [.tmp 2]) (n := 100000) Tryz.func9 rfl rfl rfl rfl (by simp) ?_
  try simp only [↓RA,RB,RS, fx9,p1,p2,p3,p4,reduceIte,p5,p6,p7,p8]
  obtain ⟨n7, hn7, h⟩ := run_bind h
  refine MknH.mk hn7 ?_
  try simp only [↓RA,RB,RS, fx9,p1,p2,p3,p4,reduceIte,p5,p6,p7,p8]
  repeat (first | with_reducible refine noR_and (by repeat (first | exact noR_empty _ _ | exact noR_nilS _ _ | refine noR_mk _ _ _ _ _ rfl ?_ | refine noR_mkS _ _ _ _ _ rfl ?_)) ?_ | with_reducible refine noC_and (by repeat (first | exact noC_empty _ _ (by try simp only [↓RA,RB,RS, fx9,p1,p2,p3,p4,reduceIte,p5,p6,p7,p8]) | exact noC_nilS _ _ (by try simp only [↓RA,RB,RS, fx9,p1,p2,p3,p4,reduceIte,p5,p6,p7,p8]) | refine noC_mk _ _ _ _ _ rfl ?_ | refine noC_mkS _ _ _ _ _ rfl ?_)) ?_ | with_reducible refine and_ac ?_ | with_reducible refine And.intro (a := _ = List.range _) (by rfl) ?_)
  refine Mg.know_sl (b := false) (sz := 1) (es := a0.map I) 0 (by try simp only [↓RA,RB,RS, fx9,p1,p2,p3,p4,reduceIte,p5,p6,p7,p8]) fun hl0 => ?_; rw [List.length_map] at hl0
  replace h := run_loop h
  refine Mg.forN h (fun i3 s3 => [(0, .val (.pv (.sl false 1 (a0.map I)))), (3, .val (.own 112)), (4, .val (.pv (I (i3 : Int))))]) (fun i3 s3 => [(112, (1, s3.map I))]) (St.le_mk2 (by try simp only [↓RA,RB,RS, fx9,p1,p2,p3,p4,reduceIte,p5,p6,p7,p8])) (fun i3 s3 hi h => ?_) (fun s3 h => ?_)
  · have w3 := wrap_succ (i := i3) (by omega)
    try simp only [↓RA,RB,RS, fx9,p1,p2,p3,p4,reduceIte,p5,p6,p7,p8]
    refine CondH.tt (decide_eq_true (by omega)) (fun c1 => ?_)
    try simp only [↓RA,RB,RS, fx9,p1,p2,p3,p4,reduceIte,p5,p6,p7,p8, c1]
    obtain ⟨v18, hv18, h⟩ := run_bind h
    refine IdxH.mk (f := I) hv18 ?_ ?_ <;> try simp only [↓RA,RB,RS, fx9,p1,p2,p3,p4,reduceIte,p5,p6,p7,p8, c1]
    obtain ⟨v20, hv20, h⟩ := run_bind h
    refine IdxH.mk (f := I) hv20 ?_ ?_ <;> try simp only [↓RA,RB,RS, fx9,p1,p2,p3,p4,reduceIte,p5,p6,p7,p8, c1]
    obtain ⟨w2, hw2, h⟩ := run_bind h
    refine EldH.mk (f := I) hw2 rfl ?_ ?_ <;> try simp only [↓RA,RB,RS, fx9,p1,p2,p3,p4,reduceIte,p5,p6,p7,p8, c1]
    have h := run_some h
    refine RdH.mk ⟨_, h, ?_⟩
    refine St.le_mk2 ?_
    try simp only [↓RA,RB,RS, fx9,p1,p2,p3,p4,reduceIte,p5,p6,p7,p8, c1, w3]
  · try simp only [↓RA,RB,RS, fx9,p1,p2,p3,p4,reduceIte,p5,p6,p7,p8]
    refine CondH.ff (decide_eq_false (by omega)) (fun c3 => ?_)
    try simp only [↓RA,RB,RS, fx9,p1,p2,p3,p4,reduceIte,p5,p6,p7,p8, c3]
    have h := run_some h
    obtain rfl : _ = r := h
    refine FinH.l ?_
    try simp only [↓RA,RB,RS, fx9,p1,p2,p3,p4,reduceIte,p5,p6,p7,p8, c3]

def fx17 := A @TB3 <| A @TB28 <| @TB45
theorem toIntSS_sat {a0 : List (List Int)}  {r : List (List Int)} (h : toIntSS a0 = some r) : Sat Tryz.prog 17 [(.sl false 1 (a0.map (Lv false 1 I)))] (.sl true 1 (r.map (Lv true 1 I))) := by
  replace h := Run.of h
  unfold toIntSS at h
  refine Sat.of_m (nt := 23) (rs := [.tmp 2]) (n := 100000) Tryz.func17 rfl rfl rfl rfl (by simp) ?_
  try simp only [↓RA,RB,RS, fx17,p1,p2,p3,p4,reduceIte,p5,p6,p7,p8]
  obtain ⟨n7, hn7, h⟩ := run_bind h
  refine MknH.mk hn7 ?_
  try simp only [↓RA,RB,RS, fx17,p1,p2,p3,p4,reduceIte,p5,p6,p7,p8]
  repeat (first | with_reducible refine noR_and (by repeat (first | exact noR_empty _ _ | exact noR_nilS _ _ | refine noR_mk _ _ _ _ _ rfl ?_ | refine noR_mkS _ _ _ _ _ rfl ?_)) ?_ | with_reducible refine noC_and (by repeat (first | exact noC_empty _ _ (by try simp only [↓RA,RB,RS, fx17,p1,p2,p3,p4,reduceIte,p5,p6,p7,p8]) | exact noC_nilS _ _ (by try simp only [↓RA,RB,RS, fx17,p1,p2,p3,p4,reduceIte,p5,p6,p7,p8]) | refine noC_mk _ _ _ _ _ rfl ?_ | refine noC_mkS _ _ _ _ _ rfl ?_)) ?_ | with_reducible refine and_ac ?_ | with_reducible refine And.intro (a := _ = List.range _) (by rfl) ?_)
  refine Mg.know_sl (b := false) (sz := 1) (es := a0.map (Lv false 1 I)) 0 (by try simp only [↓RA,RB,RS, fx17,p1,p2,p3,p4,reduceIte,p5,p6,p7,p8]) fun hl0 => ?_; rw [List.length_map] at hl0
  replace h := run_loop h
  refine Mg.forN h (fun i3 s3 => [(0, .val (.pv (.sl false 1 (a0.map (Lv false 1 I))))), (3, .val (.own 112)), (4, .val (.pv (I (i3 : Int))))]) (fun i3 s3 => [(112, (1, s3.map (Lv true 1 I)))]) (St.le_mk2 (by try simp only [↓RA,RB,RS, fx17,p1,p2,p3,p4,reduceIte,p5,p6,p7,p8])) (fun i3 s3 hi h => ?_) (fun s3 h => ?_)
  · have w3 := wrap_succ (i := i3) (by omega)
    try simp only [↓RA,RB,RS, fx17,p1,p2,p3,p4,reduceIte,p5,p6,p7,p8]
    refine CondH.tt (decide_eq_true (by omega)) (fun c1 => ?_)
    try simp only [↓RA,RB,RS, fx17,p1,p2,p3,p4,reduceIte,p5,p6,p7,p8, c1]
    obtain ⟨v18, hv18, h⟩ := run_bind h
    refine IdxH.mk (f := (Lv false 1 I)) hv18 ?_ ?_ <;> try simp only [↓RA,RB,RS, fx17,p1,p2,p3,p4,reduceIte,p5,p6,p7,p8, c1]
    obtain ⟨v20, hv20, h⟩ := run_bind h
    refine CallH.mk [false] (toIntS_sat hv20) ?_ ?_ <;> try simp only [↓RA,RB,RS, fx17,p1,p2,p3,p4,reduceIte,p5,p6,p7,p8, c1]
    repeat (first | with_reducible refine noR_and (by repeat (first | exact noR_empty _ _ | exact noR_nilS _ _ | refine noR_mk _ _ _ _ _ rfl ?_ | refine noR_mkS _ _ _ _ _ rfl ?_)) ?_ | with_reducible refine noC_and (by repeat (first | exact noC_empty _ _ (by try simp only [↓RA,RB,RS, fx17,p1,p2,p3,p4,reduceIte,p5,p6,p7,p8]) | exact noC_nilS _ _ (by try simp only [↓RA,RB,RS, fx17,p1,p2,p3,p4,reduceIte,p5,p6,p7,p8]) | refine noC_mk _ _ _ _ _ rfl ?_ | refine noC_mkS _ _ _ _ _ rfl ?_)) ?_ | with_reducible refine and_ac ?_ | with_reducible refine And.intro (a := _ = List.range _) (by rfl) ?_)
    obtain ⟨v21, hv21, h⟩ := run_bind h
    refine IdxH.mk (f := (Lv true 1 I)) hv21 ?_ ?_ <;> try simp only [↓RA,RB,RS, fx17,p1,p2,p3,p4,reduceIte,p5,p6,p7,p8, c1]
    obtain ⟨w2, hw2, h⟩ := run_bind h
    refine EldH.mk (f := (Lv true 1 I)) hw2 rfl ?_ ?_ <;> try simp only [↓RA,RB,RS, fx17,p1,p2,p3,p4,reduceIte,p5,p6,p7,p8, c1]
    have h := run_some h
    refine RdH.mk ⟨_, h, ?_⟩
    refine St.le_mk2 ?_
    try simp only [↓RA,RB,RS, fx17,p1,p2,p3,p4,reduceIte,p5,p6,p7,p8, c1, w3]
  · try simp only [↓RA,RB,RS, fx17,p1,p2,p3,p4,reduceIte,p5,p6,p7,p8]
    refine CondH.ff (decide_eq_false (by omega)) (fun c3 => ?_)
    try simp only [↓RA,RB,RS, fx17,p1,p2,p3,p4,reduceIte,p5,p6,p7,p8, c3]
    have h := run_some h
    obtain rfl : _ = r := h
    refine FinH.l ?_
    try simp only [↓RA,RB,RS, fx17,p1,p2,p3,p4,reduceIte,p5,p6,p7,p8, c3]

def fx27 := A @TB9 <| A @TB22 <| A @TB24 <| A @TB32 <| @TB34
def fx56 := A @TB3 <| A @TB22 <| A @TB24 <| A @TB32 <| @TB34
theorem toTermN_sat (n : Nat) : (∀ (a0 : Term) (r : Term), toTermN n a0 = some r → Sat Tryz.prog 27 [((Term.pv false) a0)] ((Term.pv true) r)) ∧ (∀ (a0 : List Term) (r : List Term), toTermSN n a0 = some r → Sat Tryz.prog 56 [(.sl false 2 (a0.map (Term.pv false)))] (.sl true 2 (r.map (Term.pv true)))) := by
  induction n with
  | zero => exact ⟨fun _ _ h => by simp [toTermN] at h, fun _ _ h => by simp [toTermSN] at h⟩
  | succ n ih =>
    refine ⟨fun a0 r h => ?_, fun a0 r h => ?_⟩
    · replace h := Run.of h
      rw [toTermN] at h
      refine Sat.of_m (nt := 12) (rs := [.cell 2 34]) (n := 100000) Tryz.func27 rfl rfl rfl rfl (by simp) ?_
      try simp only [↓RA,RB,RS, fx27,p1,p2,p3,p4,reduceIte,p5,p6,p7,p8]
      repeat (first | with_reducible refine noR_and (by repeat (first | exact noR_empty _ _ | exact noR_nilS _ _ | refine noR_mk _ _ _ _ _ rfl ?_ | refine noR_mkS _ _ _ _ _ rfl ?_)) ?_ | with_reducible refine noC_and (by repeat (first | exact noC_empty _ _ (by try simp only [↓RA,RB,RS, fx27,p1,p2,p3,p4,reduceIte,p5,p6,p7,p8]) | exact noC_nilS _ _ (by try simp only [↓RA,RB,RS, fx27,p1,p2,p3,p4,reduceIte,p5,p6,p7,p8]) | refine noC_mk _ _ _ _ _ rfl ?_ | refine noC_mkS _ _ _ _ _ rfl ?_)) ?_ | with_reducible refine and_ac ?_ | with_reducible refine And.intro (a := _ = List.range _) (by rfl) ?_)
      obtain ⟨v9, hv9, h⟩ := run_bind h
      refine CallH.mk [false] (ih.2 _ _ hv9) ?_ ?_ <;> try simp only [↓RA,RB,RS, fx27,p1,p2,p3,p4,reduceIte,p5,p6,p7,p8]
      repeat (first | with_reducible refine noR_and (by repeat (first | exact noR_empty _ _ | exact noR_nilS _ _ | refine noR_mk _ _ _ _ _ rfl ?_ | refine noR_mkS _ _ _ _ _ rfl ?_)) ?_ | with_reducible refine noC_and (by repeat (first | exact noC_empty _ _ (by try simp only [↓RA,RB,RS, fx27,p1,p2,p3,p4,reduceIte,p5,p6,p7,p8]) | exact noC_nilS _ _ (by try simp only [↓RA,RB,RS, fx27,p1,p2,p3,p4,reduceIte,p5,p6,p7,p8]) | refine noC_mk _ _ _ _ _ rfl ?_ | refine noC_mkS _ _ _ _ _ rfl ?_)) ?_ | with_reducible refine and_ac ?_ | with_reducible refine And.intro (a := _ = List.range _) (by rfl) ?_)
      have h := run_some h
      obtain rfl : _ = r := h
      refine FinH.l ?_
      try simp only [↓RA,RB,RS, fx27,p1,p2,p3,p4,reduceIte,p5,p6,p7,p8]
    · replace h := Run.of h
      rw [toTermSN] at h
      refine Sat.of_m (nt := 23) (rs := [.tmp 2]) (n := 100000) Tryz.func56 rfl rfl rfl rfl (by simp) ?_
      try simp only [↓RA,RB,RS, fx56,p1,p2,p3,p4,reduceIte,p5,p6,p7,p8]
      obtain ⟨n7, hn7, h⟩ := run_bind h
      refine MknH.mk hn7 ?_
      try simp only [↓RA,RB,RS, fx56,p1,p2,p3,p4,reduceIte,p5,p6,p7,p8]
      repeat (first | with_reducible refine noR_and (by repeat (first | exact noR_empty _ _ | exact noR_nilS _ _ | refine noR_mk _ _ _ _ _ rfl ?_ | refine noR_mkS _ _ _ _ _ rfl ?_)) ?_ | with_reducible refine noC_and (by repeat (first | exact noC_empty _ _ (by try simp only [↓RA,RB,RS, fx56,p1,p2,p3,p4,reduceIte,p5,p6,p7,p8]) | exact noC_nilS _ _ (by try simp only [↓RA,RB,RS, fx56,p1,p2,p3,p4,reduceIte,p5,p6,p7,p8]) | refine noC_mk _ _ _ _ _ rfl ?_ | refine noC_mkS _ _ _ _ _ rfl ?_)) ?_ | with_reducible refine and_ac ?_ | with_reducible refine And.intro (a := _ = List.range _) (by rfl) ?_)
      refine Mg.know_sl (b := false) (sz := 2) (es := a0.map (Term.pv false)) 0 (by try simp only [↓RA,RB,RS, fx56,p1,p2,p3,p4,reduceIte,p5,p6,p7,p8]) fun hl0 => ?_; rw [List.length_map] at hl0
      replace h := run_loop h
      refine Mg.forN h (fun i3 s3 => [(0, .val (.pv (.sl false 2 (a0.map (Term.pv false))))), (3, .val (.own 112)), (4, .val (.pv (I (i3 : Int))))]) (fun i3 s3 => [(112, (2, s3.map (Term.pv true)))]) (St.le_mk2 (by try simp only [↓RA,RB,RS, fx56,p1,p2,p3,p4,reduceIte,p5,p6,p7,p8])) (fun i3 s3 hi h => ?_) (fun s3 h => ?_)
      · have w3 := wrap_succ (i := i3) (by omega)
        try simp only [↓RA,RB,RS, fx56,p1,p2,p3,p4,reduceIte,p5,p6,p7,p8]
        refine CondH.tt (decide_eq_true (by omega)) (fun c1 => ?_)
        try simp only [↓RA,RB,RS, fx56,p1,p2,p3,p4,reduceIte,p5,p6,p7,p8, c1]
        obtain ⟨v18, hv18, h⟩ := run_bind h
        refine IdxH.mk (f := (Term.pv false)) hv18 ?_ ?_ <;> try simp only [↓RA,RB,RS, fx56,p1,p2,p3,p4,reduceIte,p5,p6,p7,p8, c1]
        obtain ⟨v20, hv20, h⟩ := run_bind h
        refine CallH.mk [false] (ih.1 _ _ hv20) ?_ ?_ <;> try simp only [↓RA,RB,RS, fx56,p1,p2,p3,p4,reduceIte,p5,p6,p7,p8, c1]
        repeat (first | with_reducible refine noR_and (by repeat (first | exact noR_empty _ _ | exact noR_nilS _ _ | refine noR_mk _ _ _ _ _ rfl ?_ | refine noR_mkS _ _ _ _ _ rfl ?_)) ?_ | with_reducible refine noC_and (by repeat (first | exact noC_empty _ _ (by try simp only [↓RA,RB,RS, fx56,p1,p2,p3,p4,reduceIte,p5,p6,p7,p8]) | exact noC_nilS _ _ (by try simp only [↓RA,RB,RS, fx56,p1,p2,p3,p4,reduceIte,p5,p6,p7,p8]) | refine noC_mk _ _ _ _ _ rfl ?_ | refine noC_mkS _ _ _ _ _ rfl ?_)) ?_ | with_reducible refine and_ac ?_ | with_reducible refine And.intro (a := _ = List.range _) (by rfl) ?_)
        obtain ⟨v21, hv21, h⟩ := run_bind h
        refine IdxH.mk (f := (Term.pv true)) hv21 ?_ ?_ <;> try simp only [↓RA,RB,RS, fx56,p1,p2,p3,p4,reduceIte,p5,p6,p7,p8, c1]
        obtain ⟨w2, hw2, h⟩ := run_bind h
        refine EldH.mk (f := (Term.pv true)) hw2 rfl ?_ ?_ <;> try simp only [↓RA,RB,RS, fx56,p1,p2,p3,p4,reduceIte,p5,p6,p7,p8, c1]
        have h := run_some h
        refine RdH.mk ⟨_, h, ?_⟩
        refine St.le_mk2 ?_
        try simp only [↓RA,RB,RS, fx56,p1,p2,p3,p4,reduceIte,p5,p6,p7,p8, c1, w3]
      · try simp only [↓RA,RB,RS, fx56,p1,p2,p3,p4,reduceIte,p5,p6,p7,p8]
        refine CondH.ff (decide_eq_false (by omega)) (fun c3 => ?_)
        try simp only [↓RA,RB,RS, fx56,p1,p2,p3,p4,reduceIte,p5,p6,p7,p8, c3]
        have h := run_some h
        obtain rfl : _ = r := h
        refine FinH.l ?_
        try simp only [↓RA,RB,RS, fx56,p1,p2,p3,p4,reduceIte,p5,p6,p7,p8, c3]
theorem toTerm_sat {a0 : Term} {r : Term} (h : toTerm a0 = some r) : Sat Tryz.prog 27 [((Term.pv false) a0)] ((Term.pv true) r) := by
  obtain ⟨n, hn⟩ := lim_some h
  exact (toTermN_sat n).1 _ _ hn
theorem toTermS_sat {a0 : List Term} {r : List Term} (h : toTermS a0 = some r) : Sat Tryz.prog 56 [(.sl false 2 (a0.map (Term.pv false)))] (.sl true 2 (r.map (Term.pv true))) := by
  obtain ⟨n, hn⟩ := lim_some h
  exact (toTermN_sat n).2 _ _ hn

def fx8 := A @TB3 <| A @TB9 <| A @TB24 <| A @TB25 <| A @TB27 <| A @TB34 <| A @TB35 <| @TB37
def fx28 := A @TB3 <| A @TB25 <| A @TB27 <| A @TB35 <| @TB37
theorem toFormulaN_sat (n : Nat) : (∀ (a0 : Formula) (r : Formula), toFormulaN n a0 = some r → Sat Tryz.prog 8 [((Formula.pv false) a0)] ((Formula.pv true) r)) ∧ (∀ (a0 : List Formula) (r : List Formula), toFormulaSN n a0 = some r → Sat Tryz.prog 28 [(.sl false 5 (a0.map (Formula.pv false)))] (.sl true 5 (r.map (Formula.pv true)))) := by
  induction n with
  | zero => exact ⟨fun _ _ h => by simp [toFormulaN] at h, fun _ _ h => by simp [toFormulaSN] at h⟩
  | succ n ih =>
    refine ⟨fun a0 r h => ?_, fun a0 r h => ?_⟩
    · replace h := Run.of h
      rw [toFormulaN] at h
      refine Sat.of_m (nt := 19) (rs := [.cell 2 37]) (n := 100000) Tryz.func8 rfl rfl rfl rfl (by simp) ?_
      try simp only [↓RA,RB,RS, fx8,p1,p2,p3,p4,reduceIte,p5,p6,p7,p8]
      repeat (first | with_reducible refine noR_and (by repeat (first | exact noR_empty _ _ | exact noR_nilS _ _ | refine noR_mk _ _ _ _ _ rfl ?_ | refine noR_mkS _ _ _ _ _ rfl ?_)) ?_ | with_reducible refine noC_and (by repeat (first | exact noC_empty _ _ (by try simp only [↓RA,RB,RS, fx8,p1,p2,p3,p4,reduceIte,p5,p6,p7,p8]) | exact noC_nilS _ _ (by try simp only [↓RA,RB,RS, fx8,p1,p2,p3,p4,reduceIte,p5,p6,p7,p8]) | refine noC_mk _ _ _ _ _ rfl ?_ | refine noC_mkS _ _ _ _ _ rfl ?_)) ?_ | with_reducible refine and_ac ?_ | with_reducible refine And.intro (a := _ = List.range _) (by rfl) ?_)
      obtain ⟨v9, hv9, h⟩ := run_bind h
      refine CallH.mk [false] (toTerm_sat hv9) ?_ ?_ <;> try simp only [↓RA,RB,RS, fx8,p1,p2,p3,p4,reduceIte,p5,p6,p7,p8]
      repeat (first | with_reducible refine noR_and (by repeat (first | exact noR_empty _ _ | exact noR_nilS _ _ | refine noR_mk _ _ _ _ _ rfl ?_ | refine noR_mkS _ _ _ _ _ rfl ?_)) ?_ | with_reducible refine noC_and (by repeat (first | exact noC_empty _ _ (by try simp only [↓RA,RB,RS, fx8,p1,p2,p3,p4,reduceIte,p5,p6,p7,p8]) | exact noC_nilS _ _ (by try simp only [↓RA,RB,RS, fx8,p1,p2,p3,p4,reduceIte,p5,p6,p7,p8]) | refine noC_mk _ _ _ _ _ rfl ?_ | refine noC_mkS _ _ _ _ _ rfl ?_)) ?_ | with_reducible refine and_ac ?_ | with_reducible refine And.intro (a := _ = List.range _) (by rfl) ?_)
      obtain ⟨v16, hv16, h⟩ := run_bind h
      refine CallH.mk [false] (ih.2 _ _ hv16) ?_ ?_ <;> try simp only [↓RA,RB,RS, fx8,p1,p2,p3,p4,reduceIte,p5,p6,p7,p8]
      repeat (first | with_reducible refine noR_and (by repeat (first | exact noR_empty _ _ | exact noR_nilS _ _ | refine noR_mk _ _ _ _ _ rfl ?_ | refine noR_mkS _ _ _ _ _ rfl ?_)) ?_ | with_reducible refine noC_and (by repeat (first | exact noC_empty _ _ (by try simp only [↓RA,RB,RS, fx8,p1,p2,p3,p4,reduceIte,p5,p6,p7,p8]) | exact noC_nilS _ _ (by try simp only [↓RA,RB,RS, fx8,p1,p2,p3,p4,reduceIte,p5,p6,p7,p8]) | refine noC_mk _ _ _ _ _ rfl ?_ | refine noC_mkS _ _ _ _ _ rfl ?_)) ?_ | with_reducible refine and_ac ?_ | with_reducible refine And.intro (a := _ = List.range _) (by rfl) ?_)
      have h := run_some h
      obtain rfl : _ = r := h
      refine FinH.l ?_
      try simp only [↓RA,RB,RS, fx8,p1,p2,p3,p4,reduceIte,p5,p6,p7,p8]
    · replace h := Run.of h
      rw [toFormulaSN] at h
      refine Sat.of_m (nt := 23) (rs := [.tmp 2]) (n := 100000) Tryz.func28 rfl rfl rfl rfl (by simp) ?_
      try simp only [↓RA,RB,RS, fx28,p1,p2,p3,p4,reduceIte,p5,p6,p7,p8]
      obtain ⟨n7, hn7, h⟩ := run_bind h
      refine MknH.mk hn7 ?_
      try simp only [↓RA,RB,RS, fx28,p1,p2,p3,p4,reduceIte,p5,p6,p7,p8]
      repeat (first | with_reducible refine noR_and (by repeat (first | exact noR_empty _ _ | exact noR_nilS _ _ | refine noR_mk _ _ _ _ _ rfl ?_ | refine noR_mkS _ _ _ _ _ rfl ?_)) ?_ | with_reducible refine noC_and (by repeat (first | exact noC_empty _ _ (by try simp only [↓RA,RB,RS, fx28,p1,p2,p3,p4,reduceIte,p5,p6,p7,p8]) | exact noC_nilS _ _ (by try simp only [↓RA,RB,RS, fx28,p1,p2,p3,p4,reduceIte,p5,p6,p7,p8]) | refine noC_mk _ _ _ _ _ rfl ?_ | refine noC_mkS _ _ _ _ _ rfl ?_)) ?_ | with_reducible refine and_ac ?_ | with_reducible refine And.intro (a := _ = List.range _) (by rfl) ?_)
      refine Mg.know_sl (b := false) (sz := 5) (es := a0.map (Formula.pv false)) 0 (by try simp only [↓RA,RB,RS, fx28,p1,p2,p3,p4,reduceIte,p5,p6,p7,p8]) fun hl0 => ?_; rw [List.length_map] at hl0
      replace h := run_loop h
      refine Mg.forN h (fun i3 s3 => [(0, .val (.pv (.sl false 5 (a0.map (Formula.pv false))))), (3, .val (.own 112)), (4, .val (.pv (I (i3 : Int))))]) (fun i3 s3 => [(112, (5, s3.map (Formula.pv true)))]) (St.le_mk2 (by try simp only [↓RA,RB,RS, fx28,p1,p2,p3,p4,reduceIte,p5,p6,p7,p8])) (fun i3 s3 hi h => ?_) (fun s3 h => ?_)
      · have w3 := wrap_succ (i := i3) (by omega)
        try simp only [↓RA,RB,RS, fx28,p1,p2,p3,p4,reduceIte,p5,p6,p7,p8]
        refine CondH.tt (decide_eq_true (by omega)) (fun c1 => ?_)
        try simp only [↓RA,RB,RS, fx28,p1,p2,p3,p4,reduceIte,p5,p6,p7,p8, c1]
        obtain ⟨v18, hv18, h⟩ := run_bind h
        refine IdxH.mk (f := (Formula.pv false)) hv18 ?_ ?_ <;> try simp only [↓RA,RB,RS, fx28,p1,p2,p3,p4,reduceIte,p5,p6,p7,p8, c1]
        obtain ⟨v20, hv20, h⟩ := run_bind h
        refine CallH.mk [false] (ih.1 _ _ hv20) ?_ ?_ <;> try simp only [↓RA,RB,RS, fx28,p1,p2,p3,p4,reduceIte,p5,p6,p7,p8, c1]
        repeat (first | with_reducible refine noR_and (by repeat (first | exact noR_empty _ _ | exact noR_nilS _ _ | refine noR_mk _ _ _ _ _ rfl ?_ | refine noR_mkS _ _ _ _ _ rfl ?_)) ?_ | with_reducible refine noC_and (by repeat (first | exact noC_empty _ _ (by try simp only [↓RA,RB,RS, fx28,p1,p2,p3,p4,reduceIte,p5,p6,p7,p8]) | exact noC_nilS _ _ (by try simp only [↓RA,RB,RS, fx28,p1,p2,p3,p4,reduceIte,p5,p6,p7,p8]) | refine noC_mk _ _ _ _ _ rfl ?_ | refine noC_mkS _ _ _ _ _ rfl ?_)) ?_ | with_reducible refine and_ac ?_ | with_reducible refine And.intro (a := _ = List.range _) (by rfl) ?_)
        obtain ⟨v21, hv21, h⟩ := run_bind h
        refine IdxH.mk (f := (Formula.pv true)) hv21 ?_ ?_ <;> try simp only [↓RA,RB,RS, fx28,p1,p2,p3,p4,reduceIte,p5,p6,p7,p8, c1]
        obtain ⟨w2, hw2, h⟩ := run_bind h
        refine EldH.mk (f := (Formula.pv true)) hw2 rfl ?_ ?_ <;> try simp only [↓RA,RB,RS, fx28,p1,p2,p3,p4,reduceIte,p5,p6,p7,p8, c1]
        have h := run_some h
        refine RdH.mk ⟨_, h, ?_⟩
        refine St.le_mk2 ?_
        try simp only [↓RA,RB,RS, fx28,p1,p2,p3,p4,reduceIte,p5,p6,p7,p8, c1, w3]
      · try simp only [↓RA,RB,RS, fx28,p1,p2,p3,p4,reduceIte,p5,p6,p7,p8]
        refine CondH.ff (decide_eq_false (by omega)) (fun c3 => ?_)
        try simp only [↓RA,RB,RS, fx28,p1,p2,p3,p4,reduceIte,p5,p6,p7,p8, c3]
        have h := run_some h
        obtain rfl : _ = r := h
        refine FinH.l ?_
        try simp only [↓RA,RB,RS, fx28,p1,p2,p3,p4,reduceIte,p5,p6,p7,p8, c3]
theorem toFormula_sat {a0 : Formula} {r : Formula} (h : toFormula a0 = some r) : Sat Tryz.prog 8 [((Formula.pv false) a0)] ((Formula.pv true) r) := by
  obtain ⟨n, hn⟩ := lim_some h
  exact (toFormulaN_sat n).1 _ _ hn
theorem toFormulaS_sat {a0 : List Formula} {r : List Formula} (h : toFormulaS a0 = some r) : Sat Tryz.prog 28 [(.sl false 5 (a0.map (Formula.pv false)))] (.sl true 5 (r.map (Formula.pv true))) := by
  obtain ⟨n, hn⟩ := lim_some h
  exact (toFormulaN_sat n).2 _ _ hn

def fx53 := @TB3
theorem spec_l15Abs_sat {a0 : Int}  {r : Int} (h : spec_l15Abs a0 = some r) : Sat Tryz.prog 53 [(I a0)] (I r) := by
  replace h := Run.of h
  unfold spec_l15Abs at h
  refine Sat.of_m (nt := 8) (rs := [.tmp 2]) (n := 100000) Tryz.func53 rfl rfl rfl rfl (by simp) ?_
  try simp only [↓RA,RB,RS, fx53,p1,p2,p3,p4,reduceIte,p5,p6,p7,p8]
  refine CondH.mk (fun c1 => ?_) (fun c1 => ?_)
  · replace h := run_t c1 h
    try simp only [↓RA,RB,RS, fx53,p1,p2,p3,p4,reduceIte,p5,p6,p7,p8, c1]
    have h := run_some h
    obtain rfl : _ = r := h
    refine FinH.l ?_
    try simp only [↓RA,RB,RS, fx53,p1,p2,p3,p4,reduceIte,p5,p6,p7,p8, c1]
  · replace h := run_f c1 h
    try simp only [↓RA,RB,RS, fx53,p1,p2,p3,p4,reduceIte,p5,p6,p7,p8, c1]
    have h := run_some h
    obtain rfl : _ = r := h
    refine FinH.l ?_
    try simp only [↓RA,RB,RS, fx53,p1,p2,p3,p4,reduceIte,p5,p6,p7,p8, c1]

def fx41 := @TB3
theorem spec_l1In_sat {a0 : Int} {a1 : Int} {a2 : Int}  {r : Bool} (h : spec_l1In a0 a1 a2 = some r) : Sat Tryz.prog 41 [(I a0), (I a1), (I a2)] (B r) := by
  replace h := Run.of h
  unfold spec_l1In at h
  refine Sat.of_m (nt := 15) (rs := [.tmp 6]) (n := 100000) Tryz.func41 rfl rfl rfl rfl (by simp) ?_
  try simp only [↓RA,RB,RS, fx41,p1,p2,p3,p4,reduceIte,p5,p6,p7,p8]
  refine CondH.mk (fun c1 => ?_) (fun c1 => ?_)
  · replace h := run_t c1 h
    try simp only [↓RA,RB,RS, fx41,p1,p2,p3,p4,reduceIte,p5,p6,p7,p8, c1]
    have h := run_some h
    obtain rfl : _ = r := h
    refine FinH.l ?_
    try simp only [↓RA,RB,RS, fx41,p1,p2,p3,p4,reduceIte,p5,p6,p7,p8, c1]
  · replace h := run_f c1 h
    try simp only [↓RA,RB,RS, fx41,p1,p2,p3,p4,reduceIte,p5,p6,p7,p8, c1]
    have h := run_some h
    obtain rfl : _ = r := h
    refine FinH.l ?_
    try simp only [↓RA,RB,RS, fx41,p1,p2,p3,p4,reduceIte,p5,p6,p7,p8, c1]

def fx23 := A @TB3 <| A @TB4 <| A @TB28 <| @mixedT
theorem spec_l15Clause_sat {a0 : List Int}  {r : Bool} (h : spec_l15Clause a0 = some r) : Sat Tryz.prog 23 [(.sl false 1 (a0.map I))] (B r) := by
  replace h := Run.of h
  unfold spec_l15Clause at h
  refine Sat.of_m (nt := 35) (rs := [.tmp 2]) (n := 100000) Tryz.func23 rfl rfl rfl rfl (by simp) ?_
  try simp only [↓RA,RB,RS, fx23,p1,p2,p3,p4,reduceIte,p5,p6,p7,p8]
  refine Mg.know_sl (b := false) (sz := 1) (es := a0.map I) 0 (by try simp only [↓RA,RB,RS, fx23,p1,p2,p3,p4,reduceIte,p5,p6,p7,p8]) fun hl0 => ?_; rw [List.length_map] at hl0
  replace h := run_loop h
  refine Mg.forN h (fun i2 s2 => [(0, .val (.pv (.sl false 1 (a0.map I)))), (3, .val (.pv (I (i2 : Int))))]) (fun i2 s2 => []) (St.le_mk2 (by try simp only [↓RA,RB,RS, fx23,p1,p2,p3,p4,reduceIte,p5,p6,p7,p8])) (fun i2 s2 hi h => ?_) (fun s2 h => ?_)
  · have w2 := wrap_succ (i := i2) (by omega)
    try simp only [↓RA,RB,RS, fx23,p1,p2,p3,p4,reduceIte,p5,p6,p7,p8]
    refine CondH.tt (decide_eq_true (by omega)) (fun c1 => ?_)
    try simp only [↓RA,RB,RS, fx23,p1,p2,p3,p4,reduceIte,p5,p6,p7,p8, c1]
    obtain ⟨v12, hv12, h⟩ := run_bind h
    refine IdxH.mk (f := I) hv12 ?_ ?_ <;> try simp only [↓RA,RB,RS, fx23,p1,p2,p3,p4,reduceIte,p5,p6,p7,p8, c1]
    obtain ⟨v14, hv14, h⟩ := run_bind h
    refine CallH.mk [false] (spec_l15Abs_sat hv14) ?_ ?_ <;> try simp only [↓RA,RB,RS, fx23,p1,p2,p3,p4,reduceIte,p5,p6,p7,p8, c1]
    obtain ⟨v15, hv15, h⟩ := run_bind h
    refine CallH.mk [false, false, false] (spec_l1In_sat hv15) ?_ ?_ <;> try simp only [↓RA,RB,RS, fx23,p1,p2,p3,p4,reduceIte,p5,p6,p7,p8, c1]
    refine CondH.mk (fun c2 => ?_) (fun c2 => ?_)
    · replace h := run_t c2 h
      try simp only [↓RA,RB,RS, fx23,p1,p2,p3,p4,reduceIte,p5,p6,p7,p8, c1, c2]
      refine CondH.mk (fun c3 => ?_) (fun c3 => ?_)
      · replace h := run_t c3 h
        try simp only [↓RA,RB,RS, fx23,p1,p2,p3,p4,reduceIte,p5,p6,p7,p8, c1, c2, c3]
        obtain ⟨v24, hv24, h⟩ := run_bind h
        refine IdxH.mk (f := I) hv24 ?_ ?_ <;> try simp only [↓RA,RB,RS, fx23,p1,p2,p3,p4,reduceIte,p5,p6,p7,p8, c1, c2, c3]
        obtain ⟨v26, hv26, h⟩ := run_bind h
        refine CallH.mk [false] (spec_l15Abs_sat hv26) ?_ ?_ <;> try simp only [↓RA,RB,RS, fx23,p1,p2,p3,p4,reduceIte,p5,p6,p7,p8, c1, c2, c3]
        obtain ⟨v29, hv29, h⟩ := run_bind h
        refine IdxH.mk (f := I) hv29 ?_ ?_ <;> try simp only [↓RA,RB,RS, fx23,p1,p2,p3,p4,reduceIte,p5,p6,p7,p8, c1, c2, c3]
        obtain ⟨v31, hv31, h⟩ := run_bind h
        refine CallH.mk [false] (spec_l15Abs_sat hv31) ?_ ?_ <;> try simp only [↓RA,RB,RS, fx23,p1,p2,p3,p4,reduceIte,p5,p6,p7,p8, c1, c2, c3]
        refine And.intro (DrawH.none (by rfl) (by first | rfl | (try simp only [↓RA,RB,RS, fx23,p1,p2,p3,p4,reduceIte,p5,p6,p7,p8] <;> rfl)) (by first | rfl | (try simp only [↓RA,RB,RS, fx23,p1,p2,p3,p4,reduceIte,p5,p6,p7,p8] <;> rfl)) (by first | rfl | (try simp only [↓RA,RB,RS, fx23,p1,p2,p3,p4,reduceIte,p5,p6,p7,p8] <;> rfl))) ?_
        try simp only [↓RA,RB,RS, fx23,p1,p2,p3,p4,reduceIte,p5,p6,p7,p8, c1, c2, c3]
        refine CondH.mk (fun c4 => ?_) (fun c4 => ?_)
        · replace h := run_t c4 h
          try simp only [↓RA,RB,RS, fx23,p1,p2,p3,p4,reduceIte,p5,p6,p7,p8, c1, c2, c3, c4]
          have h := run_some h
          obtain rfl : _ = r := h
          refine FinH.l ?_
          try simp only [↓RA,RB,RS, fx23,p1,p2,p3,p4,reduceIte,p5,p6,p7,p8, c1, c2, c3, c4]
        · replace h := run_f c4 h
          try simp only [↓RA,RB,RS, fx23,p1,p2,p3,p4,reduceIte,p5,p6,p7,p8, c1, c2, c3, c4]
          have h := run_some h
          refine RdH.mk ⟨_, h, ?_⟩
          refine St.le_mk2 ?_
          try simp only [↓RA,RB,RS, fx23,p1,p2,p3,p4,reduceIte,p5,p6,p7,p8, c1, c2, c3, c4, w2]
      · replace h := run_f c3 h
        try simp only [↓RA,RB,RS, fx23,p1,p2,p3,p4,reduceIte,p5,p6,p7,p8, c1, c2, c3]
        refine And.intro (DrawH.none (by rfl) (by first | rfl | (try simp only [↓RA,RB,RS, fx23,p1,p2,p3,p4,reduceIte,p5,p6,p7,p8] <;> rfl)) (by first | rfl | (try simp only [↓RA,RB,RS, fx23,p1,p2,p3,p4,reduceIte,p5,p6,p7,p8] <;> rfl)) (by first | rfl | (try simp only [↓RA,RB,RS, fx23,p1,p2,p3,p4,reduceIte,p5,p6,p7,p8] <;> rfl))) ?_
        try simp only [↓RA,RB,RS, fx23,p1,p2,p3,p4,reduceIte,p5,p6,p7,p8, c1, c2, c3]
        have h := run_some h
        refine RdH.mk ⟨_, h, ?_⟩
        refine St.le_mk2 ?_
        try simp only [↓RA,RB,RS, fx23,p1,p2,p3,p4,reduceIte,p5,p6,p7,p8, c1, c2, c3, w2]
    · replace h := run_f c2 h
      try simp only [↓RA,RB,RS, fx23,p1,p2,p3,p4,reduceIte,p5,p6,p7,p8, c1, c2]
      refine And.intro (DrawH.none (by rfl) (by first | rfl | (try simp only [↓RA,RB,RS, fx23,p1,p2,p3,p4,reduceIte,p5,p6,p7,p8] <;> rfl)) (by first | rfl | (try simp only [↓RA,RB,RS, fx23,p1,p2,p3,p4,reduceIte,p5,p6,p7,p8] <;> rfl)) (by first | rfl | (try simp only [↓RA,RB,RS, fx23,p1,p2,p3,p4,reduceIte,p5,p6,p7,p8] <;> rfl))) ?_
      try simp only [↓RA,RB,RS, fx23,p1,p2,p3,p4,reduceIte,p5,p6,p7,p8, c1, c2]
      have h := run_some h
      obtain rfl : _ = r := h
      refine FinH.l ?_
      try simp only [↓RA,RB,RS, fx23,p1,p2,p3,p4,reduceIte,p5,p6,p7,p8, c1, c2]
  · try simp only [↓RA,RB,RS, fx23,p1,p2,p3,p4,reduceIte,p5,p6,p7,p8]
    refine CondH.ff (decide_eq_false (by omega)) (fun c5 => ?_)
    try simp only [↓RA,RB,RS, fx23,p1,p2,p3,p4,reduceIte,p5,p6,p7,p8, c5]
    have h := run_some h
    obtain rfl : _ = r := h
    refine FinH.l ?_
    try simp only [↓RA,RB,RS, fx23,p1,p2,p3,p4,reduceIte,p5,p6,p7,p8, c5]

def fx40 := A @TB3 <| A @TB4 <| A @TB28 <| @TB45
theorem spec_l15Set_sat {a0 : List (List Int)}  {r : Bool} (h : spec_l15Set a0 = some r) : Sat Tryz.prog 40 [(.sl false 1 (a0.map (Lv false 1 I)))] (B r) := by
  replace h := Run.of h
  unfold spec_l15Set at h
  refine Sat.of_m (nt := 23) (rs := [.tmp 2]) (n := 100000) Tryz.func40 rfl rfl rfl rfl (by simp) ?_
  try simp only [↓RA,RB,RS, fx40,p1,p2,p3,p4,reduceIte,p5,p6,p7,p8]
  refine Mg.know_sl (b := false) (sz := 1) (es := a0.map (Lv false 1 I)) 0 (by try simp only [↓RA,RB,RS, fx40,p1,p2,p3,p4,reduceIte,p5,p6,p7,p8]) fun hl0 => ?_; rw [List.length_map] at hl0
  replace h := run_loop h
  refine Mg.forN h (fun i2 s2 => [(0, .val (.pv (.sl false 1 (a0.map (Lv false 1 I))))), (3, .val (.pv (I (i2 : Int))))]) (fun i2 s2 => []) (St.le_mk2 (by try simp only [↓RA,RB,RS, fx40,p1,p2,p3,p4,reduceIte,p5,p6,p7,p8])) (fun i2 s2 hi h => ?_) (fun s2 h => ?_)
  · have w2 := wrap_succ (i := i2) (by omega)
    try simp only [↓RA,RB,RS, fx40,p1,p2,p3,p4,reduceIte,p5,p6,p7,p8]
    refine CondH.tt (decide_eq_true (by omega)) (fun c1 => ?_)
    try simp only [↓RA,RB,RS, fx40,p1,p2,p3,p4,reduceIte,p5,p6,p7,p8, c1]
    refine CondH.mk (fun c2 => ?_) (fun c2 => ?_)
    · replace h := run_t c2 h
      try simp only [↓RA,RB,RS, fx40,p1,p2,p3,p4,reduceIte,p5,p6,p7,p8, c1, c2]
      obtain ⟨v16, hv16, h⟩ := run_bind h
      refine IdxH.mk (f := (Lv false 1 I)) hv16 ?_ ?_ <;> try simp only [↓RA,RB,RS, fx40,p1,p2,p3,p4,reduceIte,p5,p6,p7,p8, c1, c2]
      obtain ⟨v18, hv18, h⟩ := run_bind h
      refine CallH.mk [false] (spec_l15Clause_sat hv18) ?_ ?_ <;> try simp only [↓RA,RB,RS, fx40,p1,p2,p3,p4,reduceIte,p5,p6,p7,p8, c1, c2]
      refine CondH.mk (fun c3 => ?_) (fun c3 => ?_)
      · replace h := run_t c3 h
        try simp only [↓RA,RB,RS, fx40,p1,p2,p3,p4,reduceIte,p5,p6,p7,p8, c1, c2, c3]
        have h := run_some h
        refine RdH.mk ⟨_, h, ?_⟩
        refine St.le_mk2 ?_
        try simp only [↓RA,RB,RS, fx40,p1,p2,p3,p4,reduceIte,p5,p6,p7,p8, c1, c2, c3, w2]
      · replace h := run_f c3 h
        try simp only [↓RA,RB,RS, fx40,p1,p2,p3,p4,reduceIte,p5,p6,p7,p8, c1, c2, c3]
        have h := run_some h
        obtain rfl : _ = r := h
        refine FinH.l ?_
        try simp only [↓RA,RB,RS, fx40,p1,p2,p3,p4,reduceIte,p5,p6,p7,p8, c1, c2, c3]
    · replace h := run_f c2 h
      try simp only [↓RA,RB,RS, fx40,p1,p2,p3,p4,reduceIte,p5,p6,p7,p8, c1, c2]
      have h := run_some h
      obtain rfl : _ = r := h
      refine FinH.l ?_
      try simp only [↓RA,RB,RS, fx40,p1,p2,p3,p4,reduceIte,p5,p6,p7,p8, c1, c2]
  · try simp only [↓RA,RB,RS, fx40,p1,p2,p3,p4,reduceIte,p5,p6,p7,p8]
    refine CondH.ff (decide_eq_false (by omega)) (fun c4 => ?_)
    try simp only [↓RA,RB,RS, fx40,p1,p2,p3,p4,reduceIte,p5,p6,p7,p8, c4]
    have h := run_some h
    obtain rfl : _ = r := h
    refine FinH.l ?_
    try simp only [↓RA,RB,RS, fx40,p1,p2,p3,p4,reduceIte,p5,p6,p7,p8, c4]

def fx77 := A @TB3 <| A @TB35 <| @TB37
theorem spec_l8ManyN_sat (n : Nat) : (∀ (a0 : Formula) (a1 : Int) (r : Int), spec_l8ManyN n a0 a1 = some r → Sat Tryz.prog 77 [((Formula.pv false) a0), (I a1)] (I r)) := by
  induction n with
  | zero => exact fun _ _ _ h => by simp [spec_l8ManyN] at h
  | succ n ih =>
    refine fun a0 a1 r h => ?_
    replace h := Run.of h
    rw [spec_l8ManyN] at h
    refine Sat.of_m (nt := 31) (rs := [.tmp 4]) (n := 100000) Tryz.func77 rfl rfl rfl rfl (by simp) ?_
    try simp only [↓RA,RB,RS, fx77,p1,p2,p3,p4,reduceIte,p5,p6,p7,p8]
    repeat (first | with_reducible refine noR_and (by repeat (first | exact noR_empty _ _ | exact noR_nilS _ _ | refine noR_mk _ _ _ _ _ rfl ?_ | refine noR_mkS _ _ _ _ _ rfl ?_)) ?_ | with_reducible refine noC_and (by repeat (first | exact noC_empty _ _ (by try simp only [↓RA,RB,RS, fx77,p1,p2,p3,p4,reduceIte,p5,p6,p7,p8]) | exact noC_nilS _ _ (by try simp only [↓RA,RB,RS, fx77,p1,p2,p3,p4,reduceIte,p5,p6,p7,p8]) | refine noC_mk _ _ _ _ _ rfl ?_ | refine noC_mkS _ _ _ _ _ rfl ?_)) ?_ | with_reducible refine and_ac ?_ | with_reducible refine And.intro (a := _ = List.range _) (by rfl) ?_)
    refine Mg.know_val2 (b := false) (sz := 5) (es := a0.Parts.map (Formula.pv false)) (x := (.pv ((Formula.pv false) a0))) 0 [3] (by try simp only [↓RA,RB,RS, fx77,p1,p2,p3,p4,reduceIte,p5,p6,p7,p8]) fun hl0 => ?_; rw [List.length_map] at hl0
    replace h := run_loop h
    refine Mg.forN h (fun i3 s3 => [(1, .val (.pv (I a1))), (2, .box (.pv ((Formula.pv false) a0))), (5, .val (.pv (I s3))), (6, .val (.pv (I (i3 : Int))))]) (fun i3 s3 => []) (St.le_mk2 (by try simp only [↓RA,RB,RS, fx77,p1,p2,p3,p4,reduceIte,p5,p6,p7,p8])) (fun i3 s3 hi h => ?_) (fun s3 h => ?_)
    · have w3 := wrap_succ (i := i3) (by omega)
      try simp only [↓RA,RB,RS, fx77,p1,p2,p3,p4,reduceIte,p5,p6,p7,p8]
      refine CondH.tt (decide_eq_true (by omega)) (fun c1 => ?_)
      try simp only [↓RA,RB,RS, fx77,p1,p2,p3,p4,reduceIte,p5,p6,p7,p8, c1]
      refine CondH.mk (fun c2 => ?_) (fun c2 => ?_)
      · replace h := run_t c2 h
        try simp only [↓RA,RB,RS, fx77,p1,p2,p3,p4,reduceIte,p5,p6,p7,p8, c1, c2]
        obtain ⟨v23, hv23, h⟩ := run_bind h
        refine IdxH.mk (f := (Formula.pv false)) hv23 ?_ ?_ <;> try simp only [↓RA,RB,RS, fx77,p1,p2,p3,p4,reduceIte,p5,p6,p7,p8, c1, c2]
        obtain ⟨v28, hv28, h⟩ := run_bind h
        refine CallH.mk [false, false] (ih _ _ _ hv28) ?_ ?_ <;> try simp only [↓RA,RB,RS, fx77,p1,p2,p3,p4,reduceIte,p5,p6,p7,p8, c1, c2]
        have h := run_some h
        refine RdH.mk ⟨_, h, ?_⟩
        refine St.le_mk2 ?_
        try simp only [↓RA,RB,RS, fx77,p1,p2,p3,p4,reduceIte,p5,p6,p7,p8, c1, c2, w3]
      · replace h := run_f c2 h
        try simp only [↓RA,RB,RS, fx77,p1,p2,p3,p4,reduceIte,p5,p6,p7,p8, c1, c2]
        have h := run_some h
        obtain rfl : _ = r := h
        refine FinH.l ?_
        try simp only [↓RA,RB,RS, fx77,p1,p2,p3,p4,reduceIte,p5,p6,p7,p8, c1, c2]
    · try simp only [↓RA,RB,RS, fx77,p1,p2,p3,p4,reduceIte,p5,p6,p7,p8]
      refine CondH.ff (decide_eq_false (by omega)) (fun c3 => ?_)
      try simp only [↓RA,RB,RS, fx77,p1,p2,p3,p4,reduceIte,p5,p6,p7,p8, c3]
      have h := run_some h
      obtain rfl : _ = r := h
      refine FinH.l ?_
      try simp only [↓RA,RB,RS, fx77,p1,p2,p3,p4,reduceIte,p5,p6,p7,p8, c3]
theorem spec_l8Many_sat {a0 : Formula} {a1 : Int} {r : Int} (h : spec_l8Many a0 a1 = some r) : Sat Tryz.prog 77 [((Formula.pv false) a0), (I a1)] (I r) := by
  obtain ⟨n, hn⟩ := lim_some h
  exact (spec_l8ManyN_sat n) _ _ _ hn

def fx106 := A @TB3 <| A @TB9 <| A @TB32 <| @TB34
theorem spec_l8None_sat {a0 : Term}  {r : Bool} (h : spec_l8None a0 = some r) : Sat Tryz.prog 106 [((Term.pv false) a0)] (B r) := by
  replace h := Run.of h
  unfold spec_l8None at h
  refine Sat.of_m (nt := 12) (rs := [.tmp 2]) (n := 100000) Tryz.func106 rfl rfl rfl rfl (by simp) ?_
  try simp only [↓RA,RB,RS, fx106,p1,p2,p3,p4,reduceIte,p5,p6,p7,p8]
  repeat (first | with_reducible refine noR_and (by repeat (first | exact noR_empty _ _ | exact noR_nilS _ _ | refine noR_mk _ _ _ _ _ rfl ?_ | refine noR_mkS _ _ _ _ _ rfl ?_)) ?_ | with_reducible refine noC_and (by repeat (first | exact noC_empty _ _ (by try simp only [↓RA,RB,RS, fx106,p1,p2,p3,p4,reduceIte,p5,p6,p7,p8]) | exact noC_nilS _ _ (by try simp only [↓RA,RB,RS, fx106,p1,p2,p3,p4,reduceIte,p5,p6,p7,p8]) | refine noC_mk _ _ _ _ _ rfl ?_ | refine noC_mkS _ _ _ _ _ rfl ?_)) ?_ | with_reducible refine and_ac ?_ | with_reducible refine And.intro (a := _ = List.range _) (by rfl) ?_)
  refine CondH.mk (fun c1 => ?_) (fun c1 => ?_)
  · replace h := run_t c1 h
    try simp only [↓RA,RB,RS, fx106,p1,p2,p3,p4,reduceIte,p5,p6,p7,p8, c1]
    have h := run_some h
    obtain rfl : _ = r := h
    refine FinH.l ?_
    try simp only [↓RA,RB,RS, fx106,p1,p2,p3,p4,reduceIte,p5,p6,p7,p8, c1]
  · replace h := run_f c1 h
    try simp only [↓RA,RB,RS, fx106,p1,p2,p3,p4,reduceIte,p5,p6,p7,p8, c1]
    have h := run_some h
    obtain rfl : _ = r := h
    refine FinH.l ?_
    try simp only [↓RA,RB,RS, fx106,p1,p2,p3,p4,reduceIte,p5,p6,p7,p8, c1]

def fx134 := A @TB3 <| A @TB32 <| @TB34
theorem spec_l2ManyN_sat (n : Nat) : (∀ (a0 : Term) (a1 : Int) (r : Int), spec_l2ManyN n a0 a1 = some r → Sat Tryz.prog 134 [((Term.pv false) a0), (I a1)] (I r)) := by
  induction n with
  | zero => exact fun _ _ _ h => by simp [spec_l2ManyN] at h
  | succ n ih =>
    refine fun a0 a1 r h => ?_
    replace h := Run.of h
    rw [spec_l2ManyN] at h
    refine Sat.of_m (nt := 31) (rs := [.tmp 4]) (n := 100000) Tryz.func134 rfl rfl rfl rfl (by simp) ?_
    try simp only [↓RA,RB,RS, fx134,p1,p2,p3,p4,reduceIte,p5,p6,p7,p8]
    repeat (first | with_reducible refine noR_and (by repeat (first | exact noR_empty _ _ | exact noR_nilS _ _ | refine noR_mk _ _ _ _ _ rfl ?_ | refine noR_mkS _ _ _ _ _ rfl ?_)) ?_ | with_reducible refine noC_and (by repeat (first | exact noC_empty _ _ (by try simp only [↓RA,RB,RS, fx134,p1,p2,p3,p4,reduceIte,p5,p6,p7,p8]) | exact noC_nilS _ _ (by try simp only [↓RA,RB,RS, fx134,p1,p2,p3,p4,reduceIte,p5,p6,p7,p8]) | refine noC_mk _ _ _ _ _ rfl ?_ | refine noC_mkS _ _ _ _ _ rfl ?_)) ?_ | with_reducible refine and_ac ?_ | with_reducible refine And.intro (a := _ = List.range _) (by rfl) ?_)
    refine Mg.know_val2 (b := false) (sz := 2) (es := a0.Args.map (Term.pv false)) (x := (.pv ((Term.pv false) a0))) 0 [1] (by try simp only [↓RA,RB,RS, fx134,p1,p2,p3,p4,reduceIte,p5,p6,p7,p8]) fun hl0 => ?_; rw [List.length_map] at hl0
    replace h := run_loop h
    refine Mg.forN h (fun i3 s3 => [(1, .val (.pv (I a1))), (2, .box (.pv ((Term.pv false) a0))), (5, .val (.pv (I s3))), (6, .val (.pv (I (i3 : Int))))]) (fun i3 s3 => []) (St.le_mk2 (by try simp only [↓RA,RB,RS, fx134,p1,p2,p3,p4,reduceIte,p5,p6,p7,p8])) (fun i3 s3 hi h => ?_) (fun s3 h => ?_)
    · have w3 := wrap_succ (i := i3) (by omega)
      try simp only [↓RA,RB,RS, fx134,p1,p2,p3,p4,reduceIte,p5,p6,p7,p8]
      refine CondH.tt (decide_eq_true (by omega)) (fun c1 => ?_)
      try simp only [↓RA,RB,RS, fx134,p1,p2,p3,p4,reduceIte,p5,p6,p7,p8, c1]
      refine CondH.mk (fun c2 => ?_) (fun c2 => ?_)
      · replace h := run_t c2 h
        try simp only [↓RA,RB,RS, fx134,p1,p2,p3,p4,reduceIte,p5,p6,p7,p8, c1, c2]
        obtain ⟨v23, hv23, h⟩ := run_bind h
        refine IdxH.mk (f := (Term.pv false)) hv23 ?_ ?_ <;> try simp only [↓RA,RB,RS, fx134,p1,p2,p3,p4,reduceIte,p5,p6,p7,p8, c1, c2]
        obtain ⟨v28, hv28, h⟩ := run_bind h
        refine CallH.mk [false, false] (ih _ _ _ hv28) ?_ ?_ <;> try simp only [↓RA,RB,RS, fx134,p1,p2,p3,p4,reduceIte,p5,p6,p7,p8, c1, c2]
        have h := run_some h
        refine RdH.mk ⟨_, h, ?_⟩
        refine St.le_mk2 ?_
        try simp only [↓RA,RB,RS, fx134,p1,p2,p3,p4,reduceIte,p5,p6,p7,p8, c1, c2, w3]
      · replace h := run_f c2 h
        try simp only [↓RA,RB,RS, fx134,p1,p2,p3,p4,reduceIte,p5,p6,p7,p8, c1, c2]
        have h := run_some h
        obtain rfl : _ = r := h
        refine FinH.l ?_
        try simp only [↓RA,RB,RS, fx134,p1,p2,p3,p4,reduceIte,p5,p6,p7,p8, c1, c2]
    · try simp only [↓RA,RB,RS, fx134,p1,p2,p3,p4,reduceIte,p5,p6,p7,p8]
      refine CondH.ff (decide_eq_false (by omega)) (fun c3 => ?_)
      try simp only [↓RA,RB,RS, fx134,p1,p2,p3,p4,reduceIte,p5,p6,p7,p8, c3]
      have h := run_some h
      obtain rfl : _ = r := h
      refine FinH.l ?_
      try simp only [↓RA,RB,RS, fx134,p1,p2,p3,p4,reduceIte,p5,p6,p7,p8, c3]
theorem spec_l2Many_sat {a0 : Term} {a1 : Int} {r : Int} (h : spec_l2Many a0 a1 = some r) : Sat Tryz.prog 134 [((Term.pv false) a0), (I a1)] (I r) := by
  obtain ⟨n, hn⟩ := lim_some h
  exact (spec_l2ManyN_sat n) _ _ _ hn

def fx70 := @TB3
theorem spec_l1Most_sat {a0 : Int} {a1 : Int}  {r : Int} (h : spec_l1Most a0 a1 = some r) : Sat Tryz.prog 70 [(I a0), (I a1)] (I r) := by
  replace h := Run.of h
  unfold spec_l1Most at h
  refine Sat.of_m (nt := 10) (rs := [.tmp 4]) (n := 100000) Tryz.func70 rfl rfl rfl rfl (by simp) ?_
  try simp only [↓RA,RB,RS, fx70,p1,p2,p3,p4,reduceIte,p5,p6,p7,p8]
  refine CondH.mk (fun c1 => ?_) (fun c1 => ?_)
  · replace h := run_t c1 h
    try simp only [↓RA,RB,RS, fx70,p1,p2,p3,p4,reduceIte,p5,p6,p7,p8, c1]
    have h := run_some h
    obtain rfl : _ = r := h
    refine FinH.l ?_
    try simp only [↓RA,RB,RS, fx70,p1,p2,p3,p4,reduceIte,p5,p6,p7,p8, c1]
  · replace h := run_f c1 h
    try simp only [↓RA,RB,RS, fx70,p1,p2,p3,p4,reduceIte,p5,p6,p7,p8, c1]
    have h := run_some h
    obtain rfl : _ = r := h
    refine FinH.l ?_
    try simp only [↓RA,RB,RS, fx70,p1,p2,p3,p4,reduceIte,p5,p6,p7,p8, c1]

def fx135 := A @TB3 <| A @TB32 <| @TB34
theorem spec_l2DepthN_sat (n : Nat) : (∀ (a0 : Term) (r : Int), spec_l2DepthN n a0 = some r → Sat Tryz.prog 135 [((Term.pv false) a0)] (I r)) := by
  induction n with
  | zero => exact fun _ _ h => by simp [spec_l2DepthN] at h
  | succ n ih =>
    refine fun a0 r h => ?_
    replace h := Run.of h
    rw [spec_l2DepthN] at h
    refine Sat.of_m (nt := 22) (rs := [.tmp 2]) (n := 100000) Tryz.func135 rfl rfl rfl rfl (by simp) ?_
    try simp only [↓RA,RB,RS, fx135,p1,p2,p3,p4,reduceIte,p5,p6,p7,p8]
    repeat (first | with_reducible refine noR_and (by repeat (first | exact noR_empty _ _ | exact noR_nilS _ _ | refine noR_mk _ _ _ _ _ rfl ?_ | refine noR_mkS _ _ _ _ _ rfl ?_)) ?_ | with_reducible refine noC_and (by repeat (first | exact noC_empty _ _ (by try simp only [↓RA,RB,RS, fx135,p1,p2,p3,p4,reduceIte,p5,p6,p7,p8]) | exact noC_nilS _ _ (by try simp only [↓RA,RB,RS, fx135,p1,p2,p3,p4,reduceIte,p5,p6,p7,p8]) | refine noC_mk _ _ _ _ _ rfl ?_ | refine noC_mkS _ _ _ _ _ rfl ?_)) ?_ | with_reducible refine and_ac ?_ | with_reducible refine And.intro (a := _ = List.range _) (by rfl) ?_)
    refine Mg.know_val2 (b := false) (sz := 2) (es := a0.Args.map (Term.pv false)) (x := (.pv ((Term.pv false) a0))) 0 [1] (by try simp only [↓RA,RB,RS, fx135,p1,p2,p3,p4,reduceIte,p5,p6,p7,p8]) fun hl0 => ?_; rw [List.length_map] at hl0
    replace h := run_loop h
    refine Mg.forN h (fun i3 s3 => [(1, .box (.pv ((Term.pv false) a0))), (3, .val (.pv (I s3))), (4, .val (.pv (I (i3 : Int))))]) (fun i3 s3 => []) (St.le_mk2 (by try simp only [↓RA,RB,RS, fx135,p1,p2,p3,p4,reduceIte,p5,p6,p7,p8])) (fun i3 s3 hi h => ?_) (fun s3 h => ?_)
    · have w3 := wrap_succ (i := i3) (by omega)
      try simp only [↓RA,RB,RS, fx135,p1,p2,p3,p4,reduceIte,p5,p6,p7,p8]
      refine CondH.tt (decide_eq_true (by omega)) (fun c1 => ?_)
      try simp only [↓RA,RB,RS, fx135,p1,p2,p3,p4,reduceIte,p5,p6,p7,p8, c1]
      obtain ⟨v16, hv16, h⟩ := run_bind h
      refine IdxH.mk (f := (Term.pv false)) hv16 ?_ ?_ <;> try simp only [↓RA,RB,RS, fx135,p1,p2,p3,p4,reduceIte,p5,p6,p7,p8, c1]
      obtain ⟨v18, hv18, h⟩ := run_bind h
      refine CallH.mk [false] (ih _ _ hv18) ?_ ?_ <;> try simp only [↓RA,RB,RS, fx135,p1,p2,p3,p4,reduceIte,p5,p6,p7,p8, c1]
      obtain ⟨v19, hv19, h⟩ := run_bind h
      refine CallH.mk [false, false] (spec_l1Most_sat hv19) ?_ ?_ <;> try simp only [↓RA,RB,RS, fx135,p1,p2,p3,p4,reduceIte,p5,p6,p7,p8, c1]
      have h := run_some h
      refine RdH.mk ⟨_, h, ?_⟩
      refine St.le_mk2 ?_
      try simp only [↓RA,RB,RS, fx135,p1,p2,p3,p4,reduceIte,p5,p6,p7,p8, c1, w3]
    · try simp only [↓RA,RB,RS, fx135,p1,p2,p3,p4,reduceIte,p5,p6,p7,p8]
      refine CondH.ff (decide_eq_false (by omega)) (fun c2 => ?_)
      try simp only [↓RA,RB,RS, fx135,p1,p2,p3,p4,reduceIte,p5,p6,p7,p8, c2]
      have h := run_some h
      obtain rfl : _ = r := h
      refine FinH.l ?_
      try simp only [↓RA,RB,RS, fx135,p1,p2,p3,p4,reduceIte,p5,p6,p7,p8, c2]
theorem spec_l2Depth_sat {a0 : Term} {r : Int} (h : spec_l2Depth a0 = some r) : Sat Tryz.prog 135 [((Term.pv false) a0)] (I r) := by
  obtain ⟨n, hn⟩ := lim_some h
  exact (spec_l2DepthN_sat n) _ _ hn

def fx120 := A @TB3 <| @TB34
theorem spec_l2Fits_sat {a0 : Term}  {r : Bool} (h : spec_l2Fits a0 = some r) : Sat Tryz.prog 120 [((Term.pv false) a0)] (B r) := by
  replace h := Run.of h
  unfold spec_l2Fits at h
  refine Sat.of_m (nt := 11) (rs := [.tmp 2]) (n := 100000) Tryz.func120 rfl rfl rfl rfl (by simp) ?_
  try simp only [↓RA,RB,RS, fx120,p1,p2,p3,p4,reduceIte,p5,p6,p7,p8]
  repeat (first | with_reducible refine noR_and (by repeat (first | exact noR_empty _ _ | exact noR_nilS _ _ | refine noR_mk _ _ _ _ _ rfl ?_ | refine noR_mkS _ _ _ _ _ rfl ?_)) ?_ | with_reducible refine noC_and (by repeat (first | exact noC_empty _ _ (by try simp only [↓RA,RB,RS, fx120,p1,p2,p3,p4,reduceIte,p5,p6,p7,p8]) | exact noC_nilS _ _ (by try simp only [↓RA,RB,RS, fx120,p1,p2,p3,p4,reduceIte,p5,p6,p7,p8]) | refine noC_mk _ _ _ _ _ rfl ?_ | refine noC_mkS _ _ _ _ _ rfl ?_)) ?_ | with_reducible refine and_ac ?_ | with_reducible refine And.intro (a := _ = List.range _) (by rfl) ?_)
  obtain ⟨v4, hv4, h⟩ := run_bind h
  refine CallH.mk [false, false] (spec_l2Many_sat hv4) ?_ ?_ <;> try simp only [↓RA,RB,RS, fx120,p1,p2,p3,p4,reduceIte,p5,p6,p7,p8]
  refine CondH.mk (fun c1 => ?_) (fun c1 => ?_)
  · replace h := run_t c1 h
    try simp only [↓RA,RB,RS, fx120,p1,p2,p3,p4,reduceIte,p5,p6,p7,p8, c1]
    obtain ⟨v8, hv8, h⟩ := run_bind h
    refine CallH.mk [false] (spec_l2Depth_sat hv8) ?_ ?_ <;> try simp only [↓RA,RB,RS, fx120,p1,p2,p3,p4,reduceIte,p5,p6,p7,p8, c1]
    have h := run_some h
    obtain rfl : _ = r := h
    refine FinH.l ?_
    try simp only [↓RA,RB,RS, fx120,p1,p2,p3,p4,reduceIte,p5,p6,p7,p8, c1]
  · replace h := run_f c1 h
    try simp only [↓RA,RB,RS, fx120,p1,p2,p3,p4,reduceIte,p5,p6,p7,p8, c1]
    have h := run_some h
    obtain rfl : _ = r := h
    refine FinH.l ?_
    try simp only [↓RA,RB,RS, fx120,p1,p2,p3,p4,reduceIte,p5,p6,p7,p8, c1]

def fx124 := @TB5
theorem spec_l2Small_sat {a0 : Int}  {r : Bool} (h : spec_l2Small a0 = some r) : Sat Tryz.prog 124 [((Ik .u8) a0)] (B r) := by
  replace h := Run.of h
  unfold spec_l2Small at h
  refine Sat.of_m (nt := 17) (rs := [.tmp 2]) (n := 100000) Tryz.func124 rfl rfl rfl rfl (by simp) ?_
  try simp only [↓RA,RB,RS, fx124,p1,p2,p3,p4,reduceIte,p5,p6,p7,p8]
  refine CondH.mk (fun c1 => ?_) (fun c1 => ?_)
  · replace h := run_t c1 h
    try simp only [↓RA,RB,RS, fx124,p1,p2,p3,p4,reduceIte,p5,p6,p7,p8, c1]
    refine CondH.mk (fun c2 => ?_) (fun c2 => ?_)
    · replace h := run_t c2 h
      try simp only [↓RA,RB,RS, fx124,p1,p2,p3,p4,reduceIte,p5,p6,p7,p8, c1, c2]
      have h := run_some h
      obtain rfl : _ = r := h
      refine FinH.l ?_
      try simp only [↓RA,RB,RS, fx124,p1,p2,p3,p4,reduceIte,p5,p6,p7,p8, c1, c2]
    · replace h := run_f c2 h
      try simp only [↓RA,RB,RS, fx124,p1,p2,p3,p4,reduceIte,p5,p6,p7,p8, c1, c2]
      refine CondH.mk (fun c3 => ?_) (fun c3 => ?_)
      · replace h := run_t c3 h
        try simp only [↓RA,RB,RS, fx124,p1,p2,p3,p4,reduceIte,p5,p6,p7,p8, c1, c2, c3]
        have h := run_some h
        obtain rfl : _ = r := h
        refine FinH.l ?_
        try simp only [↓RA,RB,RS, fx124,p1,p2,p3,p4,reduceIte,p5,p6,p7,p8, c1, c2, c3]
      · replace h := run_f c3 h
        try simp only [↓RA,RB,RS, fx124,p1,p2,p3,p4,reduceIte,p5,p6,p7,p8, c1, c2, c3]
        have h := run_some h
        obtain rfl : _ = r := h
        refine FinH.l ?_
        try simp only [↓RA,RB,RS, fx124,p1,p2,p3,p4,reduceIte,p5,p6,p7,p8, c1, c2, c3]
  · replace h := run_f c1 h
    try simp only [↓RA,RB,RS, fx124,p1,p2,p3,p4,reduceIte,p5,p6,p7,p8, c1]
    refine CondH.mk (fun c4 => ?_) (fun c4 => ?_)
    · replace h := run_t c4 h
      try simp only [↓RA,RB,RS, fx124,p1,p2,p3,p4,reduceIte,p5,p6,p7,p8, c1, c4]
      have h := run_some h
      obtain rfl : _ = r := h
      refine FinH.l ?_
      try simp only [↓RA,RB,RS, fx124,p1,p2,p3,p4,reduceIte,p5,p6,p7,p8, c1, c4]
    · replace h := run_f c4 h
      try simp only [↓RA,RB,RS, fx124,p1,p2,p3,p4,reduceIte,p5,p6,p7,p8, c1, c4]
      have h := run_some h
      obtain rfl : _ = r := h
      refine FinH.l ?_
      try simp only [↓RA,RB,RS, fx124,p1,p2,p3,p4,reduceIte,p5,p6,p7,p8, c1, c4]

def fx108 := A @TB3 <| A @TB4 <| A @TB5 <| @TB9
theorem spec_l2Var_sat {a0 : ByteArray}  {r : Bool} (h : spec_l2Var a0 = some r) : Sat Tryz.prog 108 [(Sx a0)] (B r) := by
  replace h := Run.of h
  unfold spec_l2Var at h
  refine Sat.of_m (nt := 29) (rs := [.tmp 2]) (n := 100000) Tryz.func108 rfl rfl rfl rfl (by simp) ?_
  try simp only [↓RA,RB,RS, fx108,p1,p2,p3,p4,reduceIte,p5,p6,p7,p8]
  obtain ⟨v6, hv6, h⟩ := run_bind h
  refine CallH.mk [false, false, false] (spec_l1In_sat hv6) ?_ ?_ <;> try simp only [↓RA,RB,RS, fx108,p1,p2,p3,p4,reduceIte,p5,p6,p7,p8]
  refine CondH.mk (fun c1 => ?_) (fun c1 => ?_)
  · replace h := run_t c1 h
    try simp only [↓RA,RB,RS, fx108,p1,p2,p3,p4,reduceIte,p5,p6,p7,p8, c1]
    obtain ⟨v10, hv10, h⟩ := run_bind h
    refine SidxH.mk hv10 ?_
    try simp only [↓RA,RB,RS, fx108,p1,p2,p3,p4,reduceIte,p5,p6,p7,p8, c1]
    refine CondH.mk (fun c2 => ?_) (fun c2 => ?_)
    · replace h := run_t c2 h
      try simp only [↓RA,RB,RS, fx108,p1,p2,p3,p4,reduceIte,p5,p6,p7,p8, c1, c2]
      have h := run_some h
      obtain rfl : _ = r := h
      refine FinH.l ?_
      try simp only [↓RA,RB,RS, fx108,p1,p2,p3,p4,reduceIte,p5,p6,p7,p8, c1, c2]
    · replace h := run_f c2 h
      try simp only [↓RA,RB,RS, fx108,p1,p2,p3,p4,reduceIte,p5,p6,p7,p8, c1, c2]
      obtain ⟨v15, hv15, h⟩ := run_bind h
      refine SidxH.mk hv15 ?_
      try simp only [↓RA,RB,RS, fx108,p1,p2,p3,p4,reduceIte,p5,p6,p7,p8, c1, c2]
      refine CondH.mk (fun c3 => ?_) (fun c3 => ?_)
      · replace h := run_t c3 h
        try simp only [↓RA,RB,RS, fx108,p1,p2,p3,p4,reduceIte,p5,p6,p7,p8, c1, c2, c3]
        have h := run_some h
        obtain rfl : _ = r := h
        refine FinH.l ?_
        try simp only [↓RA,RB,RS, fx108,p1,p2,p3,p4,reduceIte,p5,p6,p7,p8, c1, c2, c3]
      · replace h := run_f c3 h
        try simp only [↓RA,RB,RS, fx108,p1,p2,p3,p4,reduceIte,p5,p6,p7,p8, c1, c2, c3]
        obtain ⟨N4, hN4, h⟩ := run_bind h
        obtain ⟨hN4a, hN4b⟩ := bnd_some hN4
        replace h := run_loop h
        refine Mg.forA (N := N4) (a := 1) h (fun i4 s4 => [(0, .val (.pv (Sx a0))), (3, .val (.pv (I (i4 : Int))))]) (fun i4 s4 => []) (St.le_mk2 (by try simp only [↓RA,RB,RS, fx108,p1,p2,p3,p4,reduceIte,p5,p6,p7,p8, c1, c2, c3])) (fun i4 s4 hi hj h => ?_) (fun j4 s4 hj h => ?_)
        · have w4 := wrap_succ (i := i4) (by omega)
          try simp only [↓RA,RB,RS, fx108,p1,p2,p3,p4,reduceIte,p5,p6,p7,p8, c1, c2, c3]
          refine CondH.tt (decide_eq_true (by omega)) (fun c4 => ?_)
          try simp only [↓RA,RB,RS, fx108,p1,p2,p3,p4,reduceIte,p5,p6,p7,p8, c1, c2, c3, c4]
          obtain ⟨v26, hv26, h⟩ := run_bind h
          refine SidxH.mk hv26 ?_
          try simp only [↓RA,RB,RS, fx108,p1,p2,p3,p4,reduceIte,p5,p6,p7,p8, c1, c2, c3, c4]
          obtain ⟨v27, hv27, h⟩ := run_bind h
          refine CallH.mk [false] (spec_l2Small_sat hv27) ?_ ?_ <;> try simp only [↓RA,RB,RS, fx108,p1,p2,p3,p4,reduceIte,p5,p6,p7,p8, c1, c2, c3, c4]
          refine CondH.mk (fun c5 => ?_) (fun c5 => ?_)
          · replace h := run_t c5 h
            try simp only [↓RA,RB,RS, fx108,p1,p2,p3,p4,reduceIte,p5,p6,p7,p8, c1, c2, c3, c4, c5]
            have h := run_some h
            refine RdH.mk ⟨_, h, ?_⟩
            refine St.le_mk2 ?_
            try simp only [↓RA,RB,RS, fx108,p1,p2,p3,p4,reduceIte,p5,p6,p7,p8, c1, c2, c3, c4, c5, w4]
          · replace h := run_f c5 h
            try simp only [↓RA,RB,RS, fx108,p1,p2,p3,p4,reduceIte,p5,p6,p7,p8, c1, c2, c3, c4, c5]
            have h := run_some h
            obtain rfl : _ = r := h
            refine FinH.l ?_
            try simp only [↓RA,RB,RS, fx108,p1,p2,p3,p4,reduceIte,p5,p6,p7,p8, c1, c2, c3, c4, c5]
        · try simp only [↓RA,RB,RS, fx108,p1,p2,p3,p4,reduceIte,p5,p6,p7,p8, c1, c2, c3]
          refine CondH.ff (decide_eq_false (by omega)) (fun c6 => ?_)
          try simp only [↓RA,RB,RS, fx108,p1,p2,p3,p4,reduceIte,p5,p6,p7,p8, c1, c2, c3, c6]
          have h := run_some h
          obtain rfl : _ = r := h
          refine FinH.l ?_
          try simp only [↓RA,RB,RS, fx108,p1,p2,p3,p4,reduceIte,p5,p6,p7,p8, c1, c2, c3, c6]
  · replace h := run_f c1 h
    try simp only [↓RA,RB,RS, fx108,p1,p2,p3,p4,reduceIte,p5,p6,p7,p8, c1]
    have h := run_some h
    obtain rfl : _ = r := h
    refine FinH.l ?_
    try simp only [↓RA,RB,RS, fx108,p1,p2,p3,p4,reduceIte,p5,p6,p7,p8, c1]

def fx122 := A @TB3 <| A @TB4 <| A @TB5 <| @TB9
theorem spec_l2Symbol_sat {a0 : ByteArray}  {r : Bool} (h : spec_l2Symbol a0 = some r) : Sat Tryz.prog 122 [(Sx a0)] (B r) := by
  replace h := Run.of h
  unfold spec_l2Symbol at h
  refine Sat.of_m (nt := 45) (rs := [.tmp 2]) (n := 100000) Tryz.func122 rfl rfl rfl rfl (by simp) ?_
  try simp only [↓RA,RB,RS, fx122,p1,p2,p3,p4,reduceIte,p5,p6,p7,p8]
  obtain ⟨v6, hv6, h⟩ := run_bind h
  refine CallH.mk [false, false, false] (spec_l1In_sat hv6) ?_ ?_ <;> try simp only [↓RA,RB,RS, fx122,p1,p2,p3,p4,reduceIte,p5,p6,p7,p8]
  refine CondH.mk (fun c1 => ?_) (fun c1 => ?_)
  · replace h := run_t c1 h
    try simp only [↓RA,RB,RS, fx122,p1,p2,p3,p4,reduceIte,p5,p6,p7,p8, c1]
    obtain ⟨v10, hv10, h⟩ := run_bind h
    refine SidxH.mk hv10 ?_
    try simp only [↓RA,RB,RS, fx122,p1,p2,p3,p4,reduceIte,p5,p6,p7,p8, c1]
    refine CondH.mk (fun c2 => ?_) (fun c2 => ?_)
    · replace h := run_t c2 h
      try simp only [↓RA,RB,RS, fx122,p1,p2,p3,p4,reduceIte,p5,p6,p7,p8, c1, c2]
      have h := run_some h
      obtain rfl : _ = r := h
      refine FinH.l ?_
      try simp only [↓RA,RB,RS, fx122,p1,p2,p3,p4,reduceIte,p5,p6,p7,p8, c1, c2]
    · replace h := run_f c2 h
      try simp only [↓RA,RB,RS, fx122,p1,p2,p3,p4,reduceIte,p5,p6,p7,p8, c1, c2]
      obtain ⟨v15, hv15, h⟩ := run_bind h
      refine SidxH.mk hv15 ?_
      try simp only [↓RA,RB,RS, fx122,p1,p2,p3,p4,reduceIte,p5,p6,p7,p8, c1, c2]
      refine CondH.mk (fun c3 => ?_) (fun c3 => ?_)
      · replace h := run_t c3 h
        try simp only [↓RA,RB,RS, fx122,p1,p2,p3,p4,reduceIte,p5,p6,p7,p8, c1, c2, c3]
        have h := run_some h
        obtain rfl : _ = r := h
        refine FinH.l ?_
        try simp only [↓RA,RB,RS, fx122,p1,p2,p3,p4,reduceIte,p5,p6,p7,p8, c1, c2, c3]
      · replace h := run_f c3 h
        try simp only [↓RA,RB,RS, fx122,p1,p2,p3,p4,reduceIte,p5,p6,p7,p8, c1, c2, c3]
        refine CondH.mk (fun c4 => ?_) (fun c4 => ?_)
        · replace h := run_t c4 h
          try simp only [↓RA,RB,RS, fx122,p1,p2,p3,p4,reduceIte,p5,p6,p7,p8, c1, c2, c3, c4]
          have h := run_some h
          obtain rfl : _ = r := h
          refine FinH.l ?_
          try simp only [↓RA,RB,RS, fx122,p1,p2,p3,p4,reduceIte,p5,p6,p7,p8, c1, c2, c3, c4]
        · replace h := run_f c4 h
          try simp only [↓RA,RB,RS, fx122,p1,p2,p3,p4,reduceIte,p5,p6,p7,p8, c1, c2, c3, c4]
          refine CondH.mk (fun c5 => ?_) (fun c5 => ?_)
          · replace h := run_t c5 h
            try simp only [↓RA,RB,RS, fx122,p1,p2,p3,p4,reduceIte,p5,p6,p7,p8, c1, c2, c3, c4, c5]
            have h := run_some h
            obtain rfl : _ = r := h
            refine FinH.l ?_
            try simp only [↓RA,RB,RS, fx122,p1,p2,p3,p4,reduceIte,p5,p6,p7,p8, c1, c2, c3, c4, c5]
          · replace h := run_f c5 h
            try simp only [↓RA,RB,RS, fx122,p1,p2,p3,p4,reduceIte,p5,p6,p7,p8, c1, c2, c3, c4, c5]
            refine CondH.mk (fun c6 => ?_) (fun c6 => ?_)
            · replace h := run_t c6 h
              try simp only [↓RA,RB,RS, fx122,p1,p2,p3,p4,reduceIte,p5,p6,p7,p8, c1, c2, c3, c4, c5, c6]
              have h := run_some h
              obtain rfl : _ = r := h
              refine FinH.l ?_
              try simp only [↓RA,RB,RS, fx122,p1,p2,p3,p4,reduceIte,p5,p6,p7,p8, c1, c2, c3, c4, c5, c6]
            · replace h := run_f c6 h
              try simp only [↓RA,RB,RS, fx122,p1,p2,p3,p4,reduceIte,p5,p6,p7,p8, c1, c2, c3, c4, c5, c6]
              refine CondH.mk (fun c7 => ?_) (fun c7 => ?_)
              · replace h := run_t c7 h
                try simp only [↓RA,RB,RS, fx122,p1,p2,p3,p4,reduceIte,p5,p6,p7,p8, c1, c2, c3, c4, c5, c6, c7]
                have h := run_some h
                obtain rfl : _ = r := h
                refine FinH.l ?_
                try simp only [↓RA,RB,RS, fx122,p1,p2,p3,p4,reduceIte,p5,p6,p7,p8, c1, c2, c3, c4, c5, c6, c7]
              · replace h := run_f c7 h
                try simp only [↓RA,RB,RS, fx122,p1,p2,p3,p4,reduceIte,p5,p6,p7,p8, c1, c2, c3, c4, c5, c6, c7]
                refine CondH.mk (fun c8 => ?_) (fun c8 => ?_)
                · replace h := run_t c8 h
                  try simp only [↓RA,RB,RS, fx122,p1,p2,p3,p4,reduceIte,p5,p6,p7,p8, c1, c2, c3, c4, c5, c6, c7, c8]
                  have h := run_some h
                  obtain rfl : _ = r := h
                  refine FinH.l ?_
                  try simp only [↓RA,RB,RS, fx122,p1,p2,p3,p4,reduceIte,p5,p6,p7,p8, c1, c2, c3, c4, c5, c6, c7, c8]
                · replace h := run_f c8 h
                  try simp only [↓RA,RB,RS, fx122,p1,p2,p3,p4,reduceIte,p5,p6,p7,p8, c1, c2, c3, c4, c5, c6, c7, c8]
                  refine CondH.mk (fun c9 => ?_) (fun c9 => ?_)
                  · replace h := run_t c9 h
                    try simp only [↓RA,RB,RS, fx122,p1,p2,p3,p4,reduceIte,p5,p6,p7,p8, c1, c2, c3, c4, c5, c6, c7, c8, c9]
                    have h := run_some h
                    obtain rfl : _ = r := h
                    refine FinH.l ?_
                    try simp only [↓RA,RB,RS, fx122,p1,p2,p3,p4,reduceIte,p5,p6,p7,p8, c1, c2, c3, c4, c5, c6, c7, c8, c9]
                  · replace h := run_f c9 h
                    try simp only [↓RA,RB,RS, fx122,p1,p2,p3,p4,reduceIte,p5,p6,p7,p8, c1, c2, c3, c4, c5, c6, c7, c8, c9]
                    refine CondH.mk (fun c10 => ?_) (fun c10 => ?_)
                    · replace h := run_t c10 h
                      try simp only [↓RA,RB,RS, fx122,p1,p2,p3,p4,reduceIte,p5,p6,p7,p8, c1, c2, c3, c4, c5, c6, c7, c8, c9, c10]
                      have h := run_some h
                      obtain rfl : _ = r := h
                      refine FinH.l ?_
                      try simp only [↓RA,RB,RS, fx122,p1,p2,p3,p4,reduceIte,p5,p6,p7,p8, c1, c2, c3, c4, c5, c6, c7, c8, c9, c10]
                    · replace h := run_f c10 h
                      try simp only [↓RA,RB,RS, fx122,p1,p2,p3,p4,reduceIte,p5,p6,p7,p8, c1, c2, c3, c4, c5, c6, c7, c8, c9, c10]
                      refine CondH.mk (fun c11 => ?_) (fun c11 => ?_)
                      · replace h := run_t c11 h
                        try simp only [↓RA,RB,RS, fx122,p1,p2,p3,p4,reduceIte,p5,p6,p7,p8, c1, c2, c3, c4, c5, c6, c7, c8, c9, c10, c11]
                        have h := run_some h
                        obtain rfl : _ = r := h
                        refine FinH.l ?_
                        try simp only [↓RA,RB,RS, fx122,p1,p2,p3,p4,reduceIte,p5,p6,p7,p8, c1, c2, c3, c4, c5, c6, c7, c8, c9, c10, c11]
                      · replace h := run_f c11 h
                        try simp only [↓RA,RB,RS, fx122,p1,p2,p3,p4,reduceIte,p5,p6,p7,p8, c1, c2, c3, c4, c5, c6, c7, c8, c9, c10, c11]
                        obtain ⟨N14, hN14, h⟩ := run_bind h
                        obtain ⟨hN14a, hN14b⟩ := bnd_some hN14
                        replace h := run_loop h
                        refine Mg.forA (N := N14) (a := 1) h (fun i14 s14 => [(0, .val (.pv (Sx a0))), (3, .val (.pv (I (i14 : Int))))]) (fun i14 s14 => []) (St.le_mk2 (by try simp only [↓RA,RB,RS, fx122,p1,p2,p3,p4,reduceIte,p5,p6,p7,p8, c1, c2, c3, c4, c5, c6, c7, c8, c9, c10, c11])) (fun i14 s14 hi hj h => ?_) (fun j14 s14 hj h => ?_)
                        · have w14 := wrap_succ (i := i14) (by omega)
                          try simp only [↓RA,RB,RS, fx122,p1,p2,p3,p4,reduceIte,p5,p6,p7,p8, c1, c2, c3, c4, c5, c6, c7, c8, c9, c10, c11]
                          refine CondH.tt (decide_eq_true (by omega)) (fun c12 => ?_)
                          try simp only [↓RA,RB,RS, fx122,p1,p2,p3,p4,reduceIte,p5,p6,p7,p8, c1, c2, c3, c4, c5, c6, c7, c8, c9, c10, c11, c12]
                          obtain ⟨v36, hv36, h⟩ := run_bind h
                          refine SidxH.mk hv36 ?_
                          try simp only [↓RA,RB,RS, fx122,p1,p2,p3,p4,reduceIte,p5,p6,p7,p8, c1, c2, c3, c4, c5, c6, c7, c8, c9, c10, c11, c12]
                          obtain ⟨v37, hv37, h⟩ := run_bind h
                          refine CallH.mk [false] (spec_l2Small_sat hv37) ?_ ?_ <;> try simp only [↓RA,RB,RS, fx122,p1,p2,p3,p4,reduceIte,p5,p6,p7,p8, c1, c2, c3, c4, c5, c6, c7, c8, c9, c10, c11, c12]
                          refine CondH.mk (fun c13 => ?_) (fun c13 => ?_)
                          · replace h := run_t c13 h
                            try simp only [↓RA,RB,RS, fx122,p1,p2,p3,p4,reduceIte,p5,p6,p7,p8, c1, c2, c3, c4, c5, c6, c7, c8, c9, c10, c11, c12, c13]
                            have h := run_some h
                            refine RdH.mk ⟨_, h, ?_⟩
                            refine St.le_mk2 ?_
                            try simp only [↓RA,RB,RS, fx122,p1,p2,p3,p4,reduceIte,p5,p6,p7,p8, c1, c2, c3, c4, c5, c6, c7, c8, c9, c10, c11, c12, c13, w14]
                          · replace h := run_f c13 h
                            try simp only [↓RA,RB,RS, fx122,p1,p2,p3,p4,reduceIte,p5,p6,p7,p8, c1, c2, c3, c4, c5, c6, c7, c8, c9, c10, c11, c12, c13]
                            obtain ⟨v42, hv42, h⟩ := run_bind h
                            refine SidxH.mk hv42 ?_
                            try simp only [↓RA,RB,RS, fx122,p1,p2,p3,p4,reduceIte,p5,p6,p7,p8, c1, c2, c3, c4, c5, c6, c7, c8, c9, c10, c11, c12, c13]
                            refine CondH.mk (fun c14 => ?_) (fun c14 => ?_)
                            · replace h := run_t c14 h
                              try simp only [↓RA,RB,RS, fx122,p1,p2,p3,p4,reduceIte,p5,p6,p7,p8, c1, c2, c3, c4, c5, c6, c7, c8, c9, c10, c11, c12, c13, c14]
                              have h := run_some h
                              refine RdH.mk ⟨_, h, ?_⟩
                              refine St.le_mk2 ?_
                              try simp only [↓RA,RB,RS, fx122,p1,p2,p3,p4,reduceIte,p5,p6,p7,p8, c1, c2, c3, c4, c5, c6, c7, c8, c9, c10, c11, c12, c13, c14, w14]
                            · replace h := run_f c14 h
                              try simp only [↓RA,RB,RS, fx122,p1,p2,p3,p4,reduceIte,p5,p6,p7,p8, c1, c2, c3, c4, c5, c6, c7, c8, c9, c10, c11, c12, c13, c14]
                              have h := run_some h
                              obtain rfl : _ = r := h
                              refine FinH.l ?_
                              try simp only [↓RA,RB,RS, fx122,p1,p2,p3,p4,reduceIte,p5,p6,p7,p8, c1, c2, c3, c4, c5, c6, c7, c8, c9, c10, c11, c12, c13, c14]
                        · try simp only [↓RA,RB,RS, fx122,p1,p2,p3,p4,reduceIte,p5,p6,p7,p8, c1, c2, c3, c4, c5, c6, c7, c8, c9, c10, c11]
                          refine CondH.ff (decide_eq_false (by omega)) (fun c15 => ?_)
                          try simp only [↓RA,RB,RS, fx122,p1,p2,p3,p4,reduceIte,p5,p6,p7,p8, c1, c2, c3, c4, c5, c6, c7, c8, c9, c10, c11, c15]
                          have h := run_some h
                          obtain rfl : _ = r := h
                          refine FinH.l ?_
                          try simp only [↓RA,RB,RS, fx122,p1,p2,p3,p4,reduceIte,p5,p6,p7,p8, c1, c2, c3, c4, c5, c6, c7, c8, c9, c10, c11, c15]
  · replace h := run_f c1 h
    try simp only [↓RA,RB,RS, fx122,p1,p2,p3,p4,reduceIte,p5,p6,p7,p8, c1]
    have h := run_some h
    obtain rfl : _ = r := h
    refine FinH.l ?_
    try simp only [↓RA,RB,RS, fx122,p1,p2,p3,p4,reduceIte,p5,p6,p7,p8, c1]

def fx121 := A @TB3 <| A @TB4 <| A @TB9 <| A @TB32 <| @TB34
theorem spec_l2NodesN_sat (n : Nat) : (∀ (a0 : Term) (r : Bool), spec_l2NodesN n a0 = some r → Sat Tryz.prog 121 [((Term.pv false) a0)] (B r)) := by
  induction n with
  | zero => exact fun _ _ h => by simp [spec_l2NodesN] at h
  | succ n ih =>
    refine fun a0 r h => ?_
    replace h := Run.of h
    rw [spec_l2NodesN] at h
    refine Sat.of_m (nt := 35) (rs := [.tmp 2]) (n := 100000) Tryz.func121 rfl rfl rfl rfl (by simp) ?_
    try simp only [↓RA,RB,RS, fx121,p1,p2,p3,p4,reduceIte,p5,p6,p7,p8]
    repeat (first | with_reducible refine noR_and (by repeat (first | exact noR_empty _ _ | exact noR_nilS _ _ | refine noR_mk _ _ _ _ _ rfl ?_ | refine noR_mkS _ _ _ _ _ rfl ?_)) ?_ | with_reducible refine noC_and (by repeat (first | exact noC_empty _ _ (by try simp only [↓RA,RB,RS, fx121,p1,p2,p3,p4,reduceIte,p5,p6,p7,p8]) | exact noC_nilS _ _ (by try simp only [↓RA,RB,RS, fx121,p1,p2,p3,p4,reduceIte,p5,p6,p7,p8]) | refine noC_mk _ _ _ _ _ rfl ?_ | refine noC_mkS _ _ _ _ _ rfl ?_)) ?_ | with_reducible refine and_ac ?_ | with_reducible refine And.intro (a := _ = List.range _) (by rfl) ?_)
    obtain ⟨v6, hv6, h⟩ := run_bind h
    refine CallH.mk [false] (spec_l2Var_sat hv6) ?_ ?_ <;> try simp only [↓RA,RB,RS, fx121,p1,p2,p3,p4,reduceIte,p5,p6,p7,p8]
    refine CondH.mk (fun c1 => ?_) (fun c1 => ?_)
    · replace h := run_t c1 h
      try simp only [↓RA,RB,RS, fx121,p1,p2,p3,p4,reduceIte,p5,p6,p7,p8, c1]
      have h := run_some h
      obtain rfl : _ = r := h
      refine FinH.l ?_
      try simp only [↓RA,RB,RS, fx121,p1,p2,p3,p4,reduceIte,p5,p6,p7,p8, c1]
    · replace h := run_f c1 h
      try simp only [↓RA,RB,RS, fx121,p1,p2,p3,p4,reduceIte,p5,p6,p7,p8, c1]
      obtain ⟨v13, hv13, h⟩ := run_bind h
      refine CallH.mk [false] (spec_l2Symbol_sat hv13) ?_ ?_ <;> try simp only [↓RA,RB,RS, fx121,p1,p2,p3,p4,reduceIte,p5,p6,p7,p8, c1]
      refine CondH.mk (fun c2 => ?_) (fun c2 => ?_)
      · replace h := run_t c2 h
        try simp only [↓RA,RB,RS, fx121,p1,p2,p3,p4,reduceIte,p5,p6,p7,p8, c1, c2]
        refine CondH.mk (fun c3 => ?_) (fun c3 => ?_)
        · replace h := run_t c3 h
          try simp only [↓RA,RB,RS, fx121,p1,p2,p3,p4,reduceIte,p5,p6,p7,p8, c1, c2, c3]
          have h := run_some h
          obtain rfl : _ = r := h
          refine FinH.l ?_
          try simp only [↓RA,RB,RS, fx121,p1,p2,p3,p4,reduceIte,p5,p6,p7,p8, c1, c2, c3]
        · replace h := run_f c3 h
          try simp only [↓RA,RB,RS, fx121,p1,p2,p3,p4,reduceIte,p5,p6,p7,p8, c1, c2, c3]
          refine Mg.know_sl (b := false) (sz := 2) (es := a0.Args.map (Term.pv false)) 17 (by try simp only [↓RA,RB,RS, fx121,p1,p2,p3,p4,reduceIte,p5,p6,p7,p8, c1, c2, c3]) fun hl17 => ?_; rw [List.length_map] at hl17
          replace h := run_loop h
          refine Mg.forN h (fun i6 s6 => [(1, .box (.pv ((Term.pv false) a0))), (3, .val (.pv (I (i6 : Int))))]) (fun i6 s6 => []) (St.le_mk2 (by try simp only [↓RA,RB,RS, fx121,p1,p2,p3,p4,reduceIte,p5,p6,p7,p8, c1, c2, c3])) (fun i6 s6 hi h => ?_) (fun s6 h => ?_)
          · have w6 := wrap_succ (i := i6) (by omega)
            try simp only [↓RA,RB,RS, fx121,p1,p2,p3,p4,reduceIte,p5,p6,p7,p8, c1, c2, c3]
            refine CondH.tt (decide_eq_true (by omega)) (fun c4 => ?_)
            try simp only [↓RA,RB,RS, fx121,p1,p2,p3,p4,reduceIte,p5,p6,p7,p8, c1, c2, c3, c4]
            obtain ⟨v31, hv31, h⟩ := run_bind h
            refine IdxH.mk (f := (Term.pv false)) hv31 ?_ ?_ <;> try simp only [↓RA,RB,RS, fx121,p1,p2,p3,p4,reduceIte,p5,p6,p7,p8, c1, c2, c3, c4]
            obtain ⟨v33, hv33, h⟩ := run_bind h
            refine CallH.mk [false] (ih _ _ hv33) ?_ ?_ <;> try simp only [↓RA,RB,RS, fx121,p1,p2,p3,p4,reduceIte,p5,p6,p7,p8, c1, c2, c3, c4]
            refine CondH.mk (fun c5 => ?_) (fun c5 => ?_)
            · replace h := run_t c5 h
              try simp only [↓RA,RB,RS, fx121,p1,p2,p3,p4,reduceIte,p5,p6,p7,p8, c1, c2, c3, c4, c5]
              have h := run_some h
              refine RdH.mk ⟨_, h, ?_⟩
              refine St.le_mk2 ?_
              try simp only [↓RA,RB,RS, fx121,p1,p2,p3,p4,reduceIte,p5,p6,p7,p8, c1, c2, c3, c4, c5, w6]
            · replace h := run_f c5 h
              try simp only [↓RA,RB,RS, fx121,p1,p2,p3,p4,reduceIte,p5,p6,p7,p8, c1, c2, c3, c4, c5]
              have h := run_some h
              obtain rfl : _ = r := h
              refine FinH.l ?_
              try simp only [↓RA,RB,RS, fx121,p1,p2,p3,p4,reduceIte,p5,p6,p7,p8, c1, c2, c3, c4, c5]
          · try simp only [↓RA,RB,RS, fx121,p1,p2,p3,p4,reduceIte,p5,p6,p7,p8, c1, c2, c3]
            refine CondH.ff (decide_eq_false (by omega)) (fun c6 => ?_)
            try simp only [↓RA,RB,RS, fx121,p1,p2,p3,p4,reduceIte,p5,p6,p7,p8, c1, c2, c3, c6]
            have h := run_some h
            obtain rfl : _ = r := h
            refine FinH.l ?_
            try simp only [↓RA,RB,RS, fx121,p1,p2,p3,p4,reduceIte,p5,p6,p7,p8, c1, c2, c3, c6]
      · replace h := run_f c2 h
        try simp only [↓RA,RB,RS, fx121,p1,p2,p3,p4,reduceIte,p5,p6,p7,p8, c1, c2]
        have h := run_some h
        obtain rfl : _ = r := h
        refine FinH.l ?_
        try simp only [↓RA,RB,RS, fx121,p1,p2,p3,p4,reduceIte,p5,p6,p7,p8, c1, c2]
theorem spec_l2Nodes_sat {a0 : Term} {r : Bool} (h : spec_l2Nodes a0 = some r) : Sat Tryz.prog 121 [((Term.pv false) a0)] (B r) := by
  obtain ⟨n, hn⟩ := lim_some h
  exact (spec_l2NodesN_sat n) _ _ hn

def fx123 := @TB34
theorem spec_l2Good_sat {a0 : Term}  {r : Bool} (h : spec_l2Good a0 = some r) : Sat Tryz.prog 123 [((Term.pv false) a0)] (B r) := by
  replace h := Run.of h
  unfold spec_l2Good at h
  refine Sat.of_m (nt := 9) (rs := [.tmp 2]) (n := 100000) Tryz.func123 rfl rfl rfl rfl (by simp) ?_
  try simp only [↓RA,RB,RS, fx123,p1,p2,p3,p4,reduceIte,p5,p6,p7,p8]
  repeat (first | with_reducible refine noR_and (by repeat (first | exact noR_empty _ _ | exact noR_nilS _ _ | refine noR_mk _ _ _ _ _ rfl ?_ | refine noR_mkS _ _ _ _ _ rfl ?_)) ?_ | with_reducible refine noC_and (by repeat (first | exact noC_empty _ _ (by try simp only [↓RA,RB,RS, fx123,p1,p2,p3,p4,reduceIte,p5,p6,p7,p8]) | exact noC_nilS _ _ (by try simp only [↓RA,RB,RS, fx123,p1,p2,p3,p4,reduceIte,p5,p6,p7,p8]) | refine noC_mk _ _ _ _ _ rfl ?_ | refine noC_mkS _ _ _ _ _ rfl ?_)) ?_ | with_reducible refine and_ac ?_ | with_reducible refine And.intro (a := _ = List.range _) (by rfl) ?_)
  obtain ⟨v4, hv4, h⟩ := run_bind h
  refine CallH.mk [false] (spec_l2Fits_sat hv4) ?_ ?_ <;> try simp only [↓RA,RB,RS, fx123,p1,p2,p3,p4,reduceIte,p5,p6,p7,p8]
  refine CondH.mk (fun c1 => ?_) (fun c1 => ?_)
  · replace h := run_t c1 h
    try simp only [↓RA,RB,RS, fx123,p1,p2,p3,p4,reduceIte,p5,p6,p7,p8, c1]
    obtain ⟨v7, hv7, h⟩ := run_bind h
    refine CallH.mk [false] (spec_l2Nodes_sat hv7) ?_ ?_ <;> try simp only [↓RA,RB,RS, fx123,p1,p2,p3,p4,reduceIte,p5,p6,p7,p8, c1]
    have h := run_some h
    obtain rfl : _ = r := h
    refine FinH.l ?_
    try simp only [↓RA,RB,RS, fx123,p1,p2,p3,p4,reduceIte,p5,p6,p7,p8, c1]
  · replace h := run_f c1 h
    try simp only [↓RA,RB,RS, fx123,p1,p2,p3,p4,reduceIte,p5,p6,p7,p8, c1]
    have h := run_some h
    obtain rfl : _ = r := h
    refine FinH.l ?_
    try simp only [↓RA,RB,RS, fx123,p1,p2,p3,p4,reduceIte,p5,p6,p7,p8, c1]

def fx107 := A @TB3 <| A @TB9 <| A @TB32 <| @TB34
theorem spec_l2Atom_sat {a0 : Term}  {r : Bool} (h : spec_l2Atom a0 = some r) : Sat Tryz.prog 107 [((Term.pv false) a0)] (B r) := by
  replace h := Run.of h
  unfold spec_l2Atom at h
  refine Sat.of_m (nt := 35) (rs := [.tmp 2]) (n := 100000) Tryz.func107 rfl rfl rfl rfl (by simp) ?_
  try simp only [↓RA,RB,RS, fx107,p1,p2,p3,p4,reduceIte,p5,p6,p7,p8]
  repeat (first | with_reducible refine noR_and (by repeat (first | exact noR_empty _ _ | exact noR_nilS _ _ | refine noR_mk _ _ _ _ _ rfl ?_ | refine noR_mkS _ _ _ _ _ rfl ?_)) ?_ | with_reducible refine noC_and (by repeat (first | exact noC_empty _ _ (by try simp only [↓RA,RB,RS, fx107,p1,p2,p3,p4,reduceIte,p5,p6,p7,p8]) | exact noC_nilS _ _ (by try simp only [↓RA,RB,RS, fx107,p1,p2,p3,p4,reduceIte,p5,p6,p7,p8]) | refine noC_mk _ _ _ _ _ rfl ?_ | refine noC_mkS _ _ _ _ _ rfl ?_)) ?_ | with_reducible refine and_ac ?_ | with_reducible refine And.intro (a := _ = List.range _) (by rfl) ?_)
  refine CondH.mk (fun c1 => ?_) (fun c1 => ?_)
  · replace h := run_t c1 h
    try simp only [↓RA,RB,RS, fx107,p1,p2,p3,p4,reduceIte,p5,p6,p7,p8, c1]
    refine CondH.mk (fun c2 => ?_) (fun c2 => ?_)
    · replace h := run_t c2 h
      try simp only [↓RA,RB,RS, fx107,p1,p2,p3,p4,reduceIte,p5,p6,p7,p8, c1, c2]
      obtain ⟨v12, hv12, h⟩ := run_bind h
      refine CallH.mk [false] (spec_l2Fits_sat hv12) ?_ ?_ <;> try simp only [↓RA,RB,RS, fx107,p1,p2,p3,p4,reduceIte,p5,p6,p7,p8, c1, c2]
      refine CondH.mk (fun c3 => ?_) (fun c3 => ?_)
      · replace h := run_t c3 h
        try simp only [↓RA,RB,RS, fx107,p1,p2,p3,p4,reduceIte,p5,p6,p7,p8, c1, c2, c3]
        obtain ⟨v17, hv17, h⟩ := run_bind h
        refine IdxH.mk (f := (Term.pv false)) hv17 ?_ ?_ <;> try simp only [↓RA,RB,RS, fx107,p1,p2,p3,p4,reduceIte,p5,p6,p7,p8, c1, c2, c3]
        obtain ⟨v19, hv19, h⟩ := run_bind h
        refine CallH.mk [false] (spec_l2Nodes_sat hv19) ?_ ?_ <;> try simp only [↓RA,RB,RS, fx107,p1,p2,p3,p4,reduceIte,p5,p6,p7,p8, c1, c2, c3]
        refine CondH.mk (fun c4 => ?_) (fun c4 => ?_)
        · replace h := run_t c4 h
          try simp only [↓RA,RB,RS, fx107,p1,p2,p3,p4,reduceIte,p5,p6,p7,p8, c1, c2, c3, c4]
          obtain ⟨v24, hv24, h⟩ := run_bind h
          refine IdxH.mk (f := (Term.pv false)) hv24 ?_ ?_ <;> try simp only [↓RA,RB,RS, fx107,p1,p2,p3,p4,reduceIte,p5,p6,p7,p8, c1, c2, c3, c4]
          obtain ⟨v26, hv26, h⟩ := run_bind h
          refine CallH.mk [false] (spec_l2Nodes_sat hv26) ?_ ?_ <;> try simp only [↓RA,RB,RS, fx107,p1,p2,p3,p4,reduceIte,p5,p6,p7,p8, c1, c2, c3, c4]
          have h := run_some h
          obtain rfl : _ = r := h
          refine FinH.l ?_
          try simp only [↓RA,RB,RS, fx107,p1,p2,p3,p4,reduceIte,p5,p6,p7,p8, c1, c2, c3, c4]
        · replace h := run_f c4 h
          try simp only [↓RA,RB,RS, fx107,p1,p2,p3,p4,reduceIte,p5,p6,p7,p8, c1, c2, c3, c4]
          have h := run_some h
          obtain rfl : _ = r := h
          refine FinH.l ?_
          try simp only [↓RA,RB,RS, fx107,p1,p2,p3,p4,reduceIte,p5,p6,p7,p8, c1, c2, c3, c4]
      · replace h := run_f c3 h
        try simp only [↓RA,RB,RS, fx107,p1,p2,p3,p4,reduceIte,p5,p6,p7,p8, c1, c2, c3]
        have h := run_some h
        obtain rfl : _ = r := h
        refine FinH.l ?_
        try simp only [↓RA,RB,RS, fx107,p1,p2,p3,p4,reduceIte,p5,p6,p7,p8, c1, c2, c3]
    · replace h := run_f c2 h
      try simp only [↓RA,RB,RS, fx107,p1,p2,p3,p4,reduceIte,p5,p6,p7,p8, c1, c2]
      have h := run_some h
      obtain rfl : _ = r := h
      refine FinH.l ?_
      try simp only [↓RA,RB,RS, fx107,p1,p2,p3,p4,reduceIte,p5,p6,p7,p8, c1, c2]
  · replace h := run_f c1 h
    try simp only [↓RA,RB,RS, fx107,p1,p2,p3,p4,reduceIte,p5,p6,p7,p8, c1]
    obtain ⟨v30, hv30, h⟩ := run_bind h
    refine CallH.mk [false] (spec_l2Symbol_sat hv30) ?_ ?_ <;> try simp only [↓RA,RB,RS, fx107,p1,p2,p3,p4,reduceIte,p5,p6,p7,p8, c1]
    refine CondH.mk (fun c5 => ?_) (fun c5 => ?_)
    · replace h := run_t c5 h
      try simp only [↓RA,RB,RS, fx107,p1,p2,p3,p4,reduceIte,p5,p6,p7,p8, c1, c5]
      obtain ⟨v33, hv33, h⟩ := run_bind h
      refine CallH.mk [false] (spec_l2Good_sat hv33) ?_ ?_ <;> try simp only [↓RA,RB,RS, fx107,p1,p2,p3,p4,reduceIte,p5,p6,p7,p8, c1, c5]
      have h := run_some h
      obtain rfl : _ = r := h
      refine FinH.l ?_
      try simp only [↓RA,RB,RS, fx107,p1,p2,p3,p4,reduceIte,p5,p6,p7,p8, c1, c5]
    · replace h := run_f c5 h
      try simp only [↓RA,RB,RS, fx107,p1,p2,p3,p4,reduceIte,p5,p6,p7,p8, c1, c5]
      have h := run_some h
      obtain rfl : _ = r := h
      refine FinH.l ?_
      try simp only [↓RA,RB,RS, fx107,p1,p2,p3,p4,reduceIte,p5,p6,p7,p8, c1, c5]

def fx90 := A @TB3 <| A @TB9 <| A @TB34 <| A @TB35 <| @TB37
theorem spec_l8Form_sat {a0 : Formula}  {r : Bool} (h : spec_l8Form a0 = some r) : Sat Tryz.prog 90 [((Formula.pv false) a0)] (B r) := by
  replace h := Run.of h
  unfold spec_l8Form at h
  refine Sat.of_m (nt := 83) (rs := [.tmp 2]) (n := 100000) Tryz.func90 rfl rfl rfl rfl (by simp) ?_
  try simp only [↓RA,RB,RS, fx90,p1,p2,p3,p4,reduceIte,p5,p6,p7,p8]
  repeat (first | with_reducible refine noR_and (by repeat (first | exact noR_empty _ _ | exact noR_nilS _ _ | refine noR_mk _ _ _ _ _ rfl ?_ | refine noR_mkS _ _ _ _ _ rfl ?_)) ?_ | with_reducible refine noC_and (by repeat (first | exact noC_empty _ _ (by try simp only [↓RA,RB,RS, fx90,p1,p2,p3,p4,reduceIte,p5,p6,p7,p8]) | exact noC_nilS _ _ (by try simp only [↓RA,RB,RS, fx90,p1,p2,p3,p4,reduceIte,p5,p6,p7,p8]) | refine noC_mk _ _ _ _ _ rfl ?_ | refine noC_mkS _ _ _ _ _ rfl ?_)) ?_ | with_reducible refine and_ac ?_ | with_reducible refine And.intro (a := _ = List.range _) (by rfl) ?_)
  refine CondH.mk (fun c1 => ?_) (fun c1 => ?_)
  · replace h := run_t c1 h
    try simp only [↓RA,RB,RS, fx90,p1,p2,p3,p4,reduceIte,p5,p6,p7,p8, c1]
    refine CondH.mk (fun c2 => ?_) (fun c2 => ?_)
    · replace h := run_t c2 h
      try simp only [↓RA,RB,RS, fx90,p1,p2,p3,p4,reduceIte,p5,p6,p7,p8, c1, c2]
      obtain ⟨v17, hv17, h⟩ := run_bind h
      refine CallH.mk [false] (spec_l8None_sat hv17) ?_ ?_ <;> try simp only [↓RA,RB,RS, fx90,p1,p2,p3,p4,reduceIte,p5,p6,p7,p8, c1, c2]
      refine CondH.mk (fun c3 => ?_) (fun c3 => ?_)
      · replace h := run_t c3 h
        try simp only [↓RA,RB,RS, fx90,p1,p2,p3,p4,reduceIte,p5,p6,p7,p8, c1, c2, c3]
        have h := run_some h
        obtain rfl : _ = r := h
        refine FinH.l ?_
        try simp only [↓RA,RB,RS, fx90,p1,p2,p3,p4,reduceIte,p5,p6,p7,p8, c1, c2, c3]
      · replace h := run_f c3 h
        try simp only [↓RA,RB,RS, fx90,p1,p2,p3,p4,reduceIte,p5,p6,p7,p8, c1, c2, c3]
        have h := run_some h
        obtain rfl : _ = r := h
        refine FinH.l ?_
        try simp only [↓RA,RB,RS, fx90,p1,p2,p3,p4,reduceIte,p5,p6,p7,p8, c1, c2, c3]
    · replace h := run_f c2 h
      try simp only [↓RA,RB,RS, fx90,p1,p2,p3,p4,reduceIte,p5,p6,p7,p8, c1, c2]
      have h := run_some h
      obtain rfl : _ = r := h
      refine FinH.l ?_
      try simp only [↓RA,RB,RS, fx90,p1,p2,p3,p4,reduceIte,p5,p6,p7,p8, c1, c2]
  · replace h := run_f c1 h
    try simp only [↓RA,RB,RS, fx90,p1,p2,p3,p4,reduceIte,p5,p6,p7,p8, c1]
    refine CondH.mk (fun c4 => ?_) (fun c4 => ?_)
    · replace h := run_t c4 h
      try simp only [↓RA,RB,RS, fx90,p1,p2,p3,p4,reduceIte,p5,p6,p7,p8, c1, c4]
      refine CondH.mk (fun c5 => ?_) (fun c5 => ?_)
      · replace h := run_t c5 h
        try simp only [↓RA,RB,RS, fx90,p1,p2,p3,p4,reduceIte,p5,p6,p7,p8, c1, c4, c5]
        obtain ⟨v17, hv17, h⟩ := run_bind h
        refine CallH.mk [false] (spec_l8None_sat hv17) ?_ ?_ <;> try simp only [↓RA,RB,RS, fx90,p1,p2,p3,p4,reduceIte,p5,p6,p7,p8, c1, c4, c5]
        refine CondH.mk (fun c6 => ?_) (fun c6 => ?_)
        · replace h := run_t c6 h
          try simp only [↓RA,RB,RS, fx90,p1,p2,p3,p4,reduceIte,p5,p6,p7,p8, c1, c4, c5, c6]
          have h := run_some h
          obtain rfl : _ = r := h
          refine FinH.l ?_
          try simp only [↓RA,RB,RS, fx90,p1,p2,p3,p4,reduceIte,p5,p6,p7,p8, c1, c4, c5, c6]
        · replace h := run_f c6 h
          try simp only [↓RA,RB,RS, fx90,p1,p2,p3,p4,reduceIte,p5,p6,p7,p8, c1, c4, c5, c6]
          have h := run_some h
          obtain rfl : _ = r := h
          refine FinH.l ?_
          try simp only [↓RA,RB,RS, fx90,p1,p2,p3,p4,reduceIte,p5,p6,p7,p8, c1, c4, c5, c6]
      · replace h := run_f c5 h
        try simp only [↓RA,RB,RS, fx90,p1,p2,p3,p4,reduceIte,p5,p6,p7,p8, c1, c4, c5]
        have h := run_some h
        obtain rfl : _ = r := h
        refine FinH.l ?_
        try simp only [↓RA,RB,RS, fx90,p1,p2,p3,p4,reduceIte,p5,p6,p7,p8, c1, c4, c5]
    · replace h := run_f c4 h
      try simp only [↓RA,RB,RS, fx90,p1,p2,p3,p4,reduceIte,p5,p6,p7,p8, c1, c4]
      refine CondH.mk (fun c7 => ?_) (fun c7 => ?_)
      · replace h := run_t c7 h
        try simp only [↓RA,RB,RS, fx90,p1,p2,p3,p4,reduceIte,p5,p6,p7,p8, c1, c4, c7]
        refine CondH.mk (fun c8 => ?_) (fun c8 => ?_)
        · replace h := run_t c8 h
          try simp only [↓RA,RB,RS, fx90,p1,p2,p3,p4,reduceIte,p5,p6,p7,p8, c1, c4, c7, c8]
          obtain ⟨v31, hv31, h⟩ := run_bind h
          refine CallH.mk [false] (spec_l2Atom_sat hv31) ?_ ?_ <;> try simp only [↓RA,RB,RS, fx90,p1,p2,p3,p4,reduceIte,p5,p6,p7,p8, c1, c4, c7, c8]
          refine CondH.mk (fun c9 => ?_) (fun c9 => ?_)
          · replace h := run_t c9 h
            try simp only [↓RA,RB,RS, fx90,p1,p2,p3,p4,reduceIte,p5,p6,p7,p8, c1, c4, c7, c8, c9]
            have h := run_some h
            obtain rfl : _ = r := h
            refine FinH.l ?_
            try simp only [↓RA,RB,RS, fx90,p1,p2,p3,p4,reduceIte,p5,p6,p7,p8, c1, c4, c7, c8, c9]
          · replace h := run_f c9 h
            try simp only [↓RA,RB,RS, fx90,p1,p2,p3,p4,reduceIte,p5,p6,p7,p8, c1, c4, c7, c8, c9]
            have h := run_some h
            obtain rfl : _ = r := h
            refine FinH.l ?_
            try simp only [↓RA,RB,RS, fx90,p1,p2,p3,p4,reduceIte,p5,p6,p7,p8, c1, c4, c7, c8, c9]
        · replace h := run_f c8 h
          try simp only [↓RA,RB,RS, fx90,p1,p2,p3,p4,reduceIte,p5,p6,p7,p8, c1, c4, c7, c8]
          have h := run_some h
          obtain rfl : _ = r := h
          refine FinH.l ?_
          try simp only [↓RA,RB,RS, fx90,p1,p2,p3,p4,reduceIte,p5,p6,p7,p8, c1, c4, c7, c8]
      · replace h := run_f c7 h
        try simp only [↓RA,RB,RS, fx90,p1,p2,p3,p4,reduceIte,p5,p6,p7,p8, c1, c4, c7]
        refine CondH.mk (fun c10 => ?_) (fun c10 => ?_)
        · replace h := run_t c10 h
          try simp only [↓RA,RB,RS, fx90,p1,p2,p3,p4,reduceIte,p5,p6,p7,p8, c1, c4, c7, c10]
          refine CondH.mk (fun c11 => ?_) (fun c11 => ?_)
          · replace h := run_t c11 h
            try simp only [↓RA,RB,RS, fx90,p1,p2,p3,p4,reduceIte,p5,p6,p7,p8, c1, c4, c7, c10, c11]
            obtain ⟨v45, hv45, h⟩ := run_bind h
            refine CallH.mk [false] (spec_l8None_sat hv45) ?_ ?_ <;> try simp only [↓RA,RB,RS, fx90,p1,p2,p3,p4,reduceIte,p5,p6,p7,p8, c1, c4, c7, c10, c11]
            refine CondH.mk (fun c12 => ?_) (fun c12 => ?_)
            · replace h := run_t c12 h
              try simp only [↓RA,RB,RS, fx90,p1,p2,p3,p4,reduceIte,p5,p6,p7,p8, c1, c4, c7, c10, c11, c12]
              have h := run_some h
              obtain rfl : _ = r := h
              refine FinH.l ?_
              try simp only [↓RA,RB,RS, fx90,p1,p2,p3,p4,reduceIte,p5,p6,p7,p8, c1, c4, c7, c10, c11, c12]
            · replace h := run_f c12 h
              try simp only [↓RA,RB,RS, fx90,p1,p2,p3,p4,reduceIte,p5,p6,p7,p8, c1, c4, c7, c10, c11, c12]
              have h := run_some h
              obtain rfl : _ = r := h
              refine FinH.l ?_
              try simp only [↓RA,RB,RS, fx90,p1,p2,p3,p4,reduceIte,p5,p6,p7,p8, c1, c4, c7, c10, c11, c12]
          · replace h := run_f c11 h
            try simp only [↓RA,RB,RS, fx90,p1,p2,p3,p4,reduceIte,p5,p6,p7,p8, c1, c4, c7, c10, c11]
            have h := run_some h
            obtain rfl : _ = r := h
            refine FinH.l ?_
            try simp only [↓RA,RB,RS, fx90,p1,p2,p3,p4,reduceIte,p5,p6,p7,p8, c1, c4, c7, c10, c11]
        · replace h := run_f c10 h
          try simp only [↓RA,RB,RS, fx90,p1,p2,p3,p4,reduceIte,p5,p6,p7,p8, c1, c4, c7, c10]
          refine CondH.mk (fun c13 => ?_) (fun c13 => ?_)
          · replace h := run_t c13 h
            try simp only [↓RA,RB,RS, fx90,p1,p2,p3,p4,reduceIte,p5,p6,p7,p8, c1, c4, c7, c10, c13]
            refine CondH.mk (fun c14 => ?_) (fun c14 => ?_)
            · replace h := run_t c14 h
              try simp only [↓RA,RB,RS, fx90,p1,p2,p3,p4,reduceIte,p5,p6,p7,p8, c1, c4, c7, c10, c13, c14]
              obtain ⟨v61, hv61, h⟩ := run_bind h
              refine CallH.mk [false] (spec_l8None_sat hv61) ?_ ?_ <;> try simp only [↓RA,RB,RS, fx90,p1,p2,p3,p4,reduceIte,p5,p6,p7,p8, c1, c4, c7, c10, c13, c14]
              refine CondH.mk (fun c15 => ?_) (fun c15 => ?_)
              · replace h := run_t c15 h
                try simp only [↓RA,RB,RS, fx90,p1,p2,p3,p4,reduceIte,p5,p6,p7,p8, c1, c4, c7, c10, c13, c14, c15]
                have h := run_some h
                obtain rfl : _ = r := h
                refine FinH.l ?_
                try simp only [↓RA,RB,RS, fx90,p1,p2,p3,p4,reduceIte,p5,p6,p7,p8, c1, c4, c7, c10, c13, c14, c15]
              · replace h := run_f c15 h
                try simp only [↓RA,RB,RS, fx90,p1,p2,p3,p4,reduceIte,p5,p6,p7,p8, c1, c4, c7, c10, c13, c14, c15]
                have h := run_some h
                obtain rfl : _ = r := h
                refine FinH.l ?_
                try simp only [↓RA,RB,RS, fx90,p1,p2,p3,p4,reduceIte,p5,p6,p7,p8, c1, c4, c7, c10, c13, c14, c15]
            · replace h := run_f c14 h
              try simp only [↓RA,RB,RS, fx90,p1,p2,p3,p4,reduceIte,p5,p6,p7,p8, c1, c4, c7, c10, c13, c14]
              have h := run_some h
              obtain rfl : _ = r := h
              refine FinH.l ?_
              try simp only [↓RA,RB,RS, fx90,p1,p2,p3,p4,reduceIte,p5,p6,p7,p8, c1, c4, c7, c10, c13, c14]
          · replace h := run_f c13 h
            try simp only [↓RA,RB,RS, fx90,p1,p2,p3,p4,reduceIte,p5,p6,p7,p8, c1, c4, c7, c10, c13]
            refine CondH.mk (fun c16 => ?_) (fun c16 => ?_)
            · replace h := run_t c16 h
              try simp only [↓RA,RB,RS, fx90,p1,p2,p3,p4,reduceIte,p5,p6,p7,p8, c1, c4, c7, c10, c13, c16]
              refine CondH.mk (fun c17 => ?_) (fun c17 => ?_)
              · replace h := run_t c17 h
                try simp only [↓RA,RB,RS, fx90,p1,p2,p3,p4,reduceIte,p5,p6,p7,p8, c1, c4, c7, c10, c13, c16, c17]
                obtain ⟨v61, hv61, h⟩ := run_bind h
                refine CallH.mk [false] (spec_l8None_sat hv61) ?_ ?_ <;> try simp only [↓RA,RB,RS, fx90,p1,p2,p3,p4,reduceIte,p5,p6,p7,p8, c1, c4, c7, c10, c13, c16, c17]
                refine CondH.mk (fun c18 => ?_) (fun c18 => ?_)
                · replace h := run_t c18 h
                  try simp only [↓RA,RB,RS, fx90,p1,p2,p3,p4,reduceIte,p5,p6,p7,p8, c1, c4, c7, c10, c13, c16, c17, c18]
                  have h := run_some h
                  obtain rfl : _ = r := h
                  refine FinH.l ?_
                  try simp only [↓RA,RB,RS, fx90,p1,p2,p3,p4,reduceIte,p5,p6,p7,p8, c1, c4, c7, c10, c13, c16, c17, c18]
                · replace h := run_f c18 h
                  try simp only [↓RA,RB,RS, fx90,p1,p2,p3,p4,reduceIte,p5,p6,p7,p8, c1, c4, c7, c10, c13, c16, c17, c18]
                  have h := run_some h
                  obtain rfl : _ = r := h
                  refine FinH.l ?_
                  try simp only [↓RA,RB,RS, fx90,p1,p2,p3,p4,reduceIte,p5,p6,p7,p8, c1, c4, c7, c10, c13, c16, c17, c18]
              · replace h := run_f c17 h
                try simp only [↓RA,RB,RS, fx90,p1,p2,p3,p4,reduceIte,p5,p6,p7,p8, c1, c4, c7, c10, c13, c16, c17]
                have h := run_some h
                obtain rfl : _ = r := h
                refine FinH.l ?_
                try simp only [↓RA,RB,RS, fx90,p1,p2,p3,p4,reduceIte,p5,p6,p7,p8, c1, c4, c7, c10, c13, c16, c17]
            · replace h := run_f c16 h
              try simp only [↓RA,RB,RS, fx90,p1,p2,p3,p4,reduceIte,p5,p6,p7,p8, c1, c4, c7, c10, c13, c16]
              refine CondH.mk (fun c19 => ?_) (fun c19 => ?_)
              · replace h := run_t c19 h
                try simp only [↓RA,RB,RS, fx90,p1,p2,p3,p4,reduceIte,p5,p6,p7,p8, c1, c4, c7, c10, c13, c16, c19]
                refine CondH.mk (fun c20 => ?_) (fun c20 => ?_)
                · replace h := run_t c20 h
                  try simp only [↓RA,RB,RS, fx90,p1,p2,p3,p4,reduceIte,p5,p6,p7,p8, c1, c4, c7, c10, c13, c16, c19, c20]
                  obtain ⟨v61, hv61, h⟩ := run_bind h
                  refine CallH.mk [false] (spec_l8None_sat hv61) ?_ ?_ <;> try simp only [↓RA,RB,RS, fx90,p1,p2,p3,p4,reduceIte,p5,p6,p7,p8, c1, c4, c7, c10, c13, c16, c19, c20]
                  refine CondH.mk (fun c21 => ?_) (fun c21 => ?_)
                  · replace h := run_t c21 h
                    try simp only [↓RA,RB,RS, fx90,p1,p2,p3,p4,reduceIte,p5,p6,p7,p8, c1, c4, c7, c10, c13, c16, c19, c20, c21]
                    have h := run_some h
                    obtain rfl : _ = r := h
                    refine FinH.l ?_
                    try simp only [↓RA,RB,RS, fx90,p1,p2,p3,p4,reduceIte,p5,p6,p7,p8, c1, c4, c7, c10, c13, c16, c19, c20, c21]
                  · replace h := run_f c21 h
                    try simp only [↓RA,RB,RS, fx90,p1,p2,p3,p4,reduceIte,p5,p6,p7,p8, c1, c4, c7, c10, c13, c16, c19, c20, c21]
                    have h := run_some h
                    obtain rfl : _ = r := h
                    refine FinH.l ?_
                    try simp only [↓RA,RB,RS, fx90,p1,p2,p3,p4,reduceIte,p5,p6,p7,p8, c1, c4, c7, c10, c13, c16, c19, c20, c21]
                · replace h := run_f c20 h
                  try simp only [↓RA,RB,RS, fx90,p1,p2,p3,p4,reduceIte,p5,p6,p7,p8, c1, c4, c7, c10, c13, c16, c19, c20]
                  have h := run_some h
                  obtain rfl : _ = r := h
                  refine FinH.l ?_
                  try simp only [↓RA,RB,RS, fx90,p1,p2,p3,p4,reduceIte,p5,p6,p7,p8, c1, c4, c7, c10, c13, c16, c19, c20]
              · replace h := run_f c19 h
                try simp only [↓RA,RB,RS, fx90,p1,p2,p3,p4,reduceIte,p5,p6,p7,p8, c1, c4, c7, c10, c13, c16, c19]
                refine CondH.mk (fun c22 => ?_) (fun c22 => ?_)
                · replace h := run_t c22 h
                  try simp only [↓RA,RB,RS, fx90,p1,p2,p3,p4,reduceIte,p5,p6,p7,p8, c1, c4, c7, c10, c13, c16, c19, c22]
                  refine CondH.mk (fun c23 => ?_) (fun c23 => ?_)
                  · replace h := run_t c23 h
                    try simp only [↓RA,RB,RS, fx90,p1,p2,p3,p4,reduceIte,p5,p6,p7,p8, c1, c4, c7, c10, c13, c16, c19, c22, c23]
                    obtain ⟨v76, hv76, h⟩ := run_bind h
                    refine CallH.mk [false] (spec_l8None_sat hv76) ?_ ?_ <;> try simp only [↓RA,RB,RS, fx90,p1,p2,p3,p4,reduceIte,p5,p6,p7,p8, c1, c4, c7, c10, c13, c16, c19, c22, c23]
                    refine CondH.mk (fun c24 => ?_) (fun c24 => ?_)
                    · replace h := run_t c24 h
                      try simp only [↓RA,RB,RS, fx90,p1,p2,p3,p4,reduceIte,p5,p6,p7,p8, c1, c4, c7, c10, c13, c16, c19, c22, c23, c24]
                      obtain ⟨v81, hv81, h⟩ := run_bind h
                      refine CallH.mk [false] (spec_l2Var_sat hv81) ?_ ?_ <;> try simp only [↓RA,RB,RS, fx90,p1,p2,p3,p4,reduceIte,p5,p6,p7,p8, c1, c4, c7, c10, c13, c16, c19, c22, c23, c24]
                      have h := run_some h
                      obtain rfl : _ = r := h
                      refine FinH.l ?_
                      try simp only [↓RA,RB,RS, fx90,p1,p2,p3,p4,reduceIte,p5,p6,p7,p8, c1, c4, c7, c10, c13, c16, c19, c22, c23, c24]
                    · replace h := run_f c24 h
                      try simp only [↓RA,RB,RS, fx90,p1,p2,p3,p4,reduceIte,p5,p6,p7,p8, c1, c4, c7, c10, c13, c16, c19, c22, c23, c24]
                      have h := run_some h
                      obtain rfl : _ = r := h
                      refine FinH.l ?_
                      try simp only [↓RA,RB,RS, fx90,p1,p2,p3,p4,reduceIte,p5,p6,p7,p8, c1, c4, c7, c10, c13, c16, c19, c22, c23, c24]
                  · replace h := run_f c23 h
                    try simp only [↓RA,RB,RS, fx90,p1,p2,p3,p4,reduceIte,p5,p6,p7,p8, c1, c4, c7, c10, c13, c16, c19, c22, c23]
                    have h := run_some h
                    obtain rfl : _ = r := h
                    refine FinH.l ?_
                    try simp only [↓RA,RB,RS, fx90,p1,p2,p3,p4,reduceIte,p5,p6,p7,p8, c1, c4, c7, c10, c13, c16, c19, c22, c23]
                · replace h := run_f c22 h
                  try simp only [↓RA,RB,RS, fx90,p1,p2,p3,p4,reduceIte,p5,p6,p7,p8, c1, c4, c7, c10, c13, c16, c19, c22]
                  refine CondH.mk (fun c25 => ?_) (fun c25 => ?_)
                  · replace h := run_t c25 h
                    try simp only [↓RA,RB,RS, fx90,p1,p2,p3,p4,reduceIte,p5,p6,p7,p8, c1, c4, c7, c10, c13, c16, c19, c22, c25]
                    refine CondH.mk (fun c26 => ?_) (fun c26 => ?_)
                    · replace h := run_t c26 h
                      try simp only [↓RA,RB,RS, fx90,p1,p2,p3,p4,reduceIte,p5,p6,p7,p8, c1, c4, c7, c10, c13, c16, c19, c22, c25, c26]
                      obtain ⟨v76, hv76, h⟩ := run_bind h
                      refine CallH.mk [false] (spec_l8None_sat hv76) ?_ ?_ <;> try simp only [↓RA,RB,RS, fx90,p1,p2,p3,p4,reduceIte,p5,p6,p7,p8, c1, c4, c7, c10, c13, c16, c19, c22, c25, c26]
                      refine CondH.mk (fun c27 => ?_) (fun c27 => ?_)
                      · replace h := run_t c27 h
                        try simp only [↓RA,RB,RS, fx90,p1,p2,p3,p4,reduceIte,p5,p6,p7,p8, c1, c4, c7, c10, c13, c16, c19, c22, c25, c26, c27]
                        obtain ⟨v81, hv81, h⟩ := run_bind h
                        refine CallH.mk [false] (spec_l2Var_sat hv81) ?_ ?_ <;> try simp only [↓RA,RB,RS, fx90,p1,p2,p3,p4,reduceIte,p5,p6,p7,p8, c1, c4, c7, c10, c13, c16, c19, c22, c25, c26, c27]
                        have h := run_some h
                        obtain rfl : _ = r := h
                        refine FinH.l ?_
                        try simp only [↓RA,RB,RS, fx90,p1,p2,p3,p4,reduceIte,p5,p6,p7,p8, c1, c4, c7, c10, c13, c16, c19, c22, c25, c26, c27]
                      · replace h := run_f c27 h
                        try simp only [↓RA,RB,RS, fx90,p1,p2,p3,p4,reduceIte,p5,p6,p7,p8, c1, c4, c7, c10, c13, c16, c19, c22, c25, c26, c27]
                        have h := run_some h
                        obtain rfl : _ = r := h
                        refine FinH.l ?_
                        try simp only [↓RA,RB,RS, fx90,p1,p2,p3,p4,reduceIte,p5,p6,p7,p8, c1, c4, c7, c10, c13, c16, c19, c22, c25, c26, c27]
                    · replace h := run_f c26 h
                      try simp only [↓RA,RB,RS, fx90,p1,p2,p3,p4,reduceIte,p5,p6,p7,p8, c1, c4, c7, c10, c13, c16, c19, c22, c25, c26]
                      have h := run_some h
                      obtain rfl : _ = r := h
                      refine FinH.l ?_
                      try simp only [↓RA,RB,RS, fx90,p1,p2,p3,p4,reduceIte,p5,p6,p7,p8, c1, c4, c7, c10, c13, c16, c19, c22, c25, c26]
                  · replace h := run_f c25 h
                    try simp only [↓RA,RB,RS, fx90,p1,p2,p3,p4,reduceIte,p5,p6,p7,p8, c1, c4, c7, c10, c13, c16, c19, c22, c25]
                    have h := run_some h
                    obtain rfl : _ = r := h
                    refine FinH.l ?_
                    try simp only [↓RA,RB,RS, fx90,p1,p2,p3,p4,reduceIte,p5,p6,p7,p8, c1, c4, c7, c10, c13, c16, c19, c22, c25]

def fx78 := A @TB3 <| A @TB4 <| A @TB35 <| @TB37
theorem spec_l8FormsN_sat (n : Nat) : (∀ (a0 : Formula) (r : Bool), spec_l8FormsN n a0 = some r → Sat Tryz.prog 78 [((Formula.pv false) a0)] (B r)) := by
  induction n with
  | zero => exact fun _ _ h => by simp [spec_l8FormsN] at h
  | succ n ih =>
    refine fun a0 r h => ?_
    replace h := Run.of h
    rw [spec_l8FormsN] at h
    refine Sat.of_m (nt := 21) (rs := [.tmp 2]) (n := 100000) Tryz.func78 rfl rfl rfl rfl (by simp) ?_
    try simp only [↓RA,RB,RS, fx78,p1,p2,p3,p4,reduceIte,p5,p6,p7,p8]
    repeat (first | with_reducible refine noR_and (by repeat (first | exact noR_empty _ _ | exact noR_nilS _ _ | refine noR_mk _ _ _ _ _ rfl ?_ | refine noR_mkS _ _ _ _ _ rfl ?_)) ?_ | with_reducible refine noC_and (by repeat (first | exact noC_empty _ _ (by try simp only [↓RA,RB,RS, fx78,p1,p2,p3,p4,reduceIte,p5,p6,p7,p8]) | exact noC_nilS _ _ (by try simp only [↓RA,RB,RS, fx78,p1,p2,p3,p4,reduceIte,p5,p6,p7,p8]) | refine noC_mk _ _ _ _ _ rfl ?_ | refine noC_mkS _ _ _ _ _ rfl ?_)) ?_ | with_reducible refine and_ac ?_ | with_reducible refine And.intro (a := _ = List.range _) (by rfl) ?_)
    obtain ⟨v5, hv5, h⟩ := run_bind h
    refine CallH.mk [false] (spec_l8Form_sat hv5) ?_ ?_ <;> try simp only [↓RA,RB,RS, fx78,p1,p2,p3,p4,reduceIte,p5,p6,p7,p8]
    refine CondH.mk (fun c1 => ?_) (fun c1 => ?_)
    · replace h := run_t c1 h
      try simp only [↓RA,RB,RS, fx78,p1,p2,p3,p4,reduceIte,p5,p6,p7,p8, c1]
      refine Mg.know_val2 (b := false) (sz := 5) (es := a0.Parts.map (Formula.pv false)) (x := (.pv ((Formula.pv false) a0))) 0 [3] (by try simp only [↓RA,RB,RS, fx78,p1,p2,p3,p4,reduceIte,p5,p6,p7,p8, c1]) fun hl0 => ?_; rw [List.length_map] at hl0
      replace h := run_loop h
      refine Mg.forN h (fun i4 s4 => [(1, .box (.pv ((Formula.pv false) a0))), (3, .val (.pv (I (i4 : Int))))]) (fun i4 s4 => []) (St.le_mk2 (by try simp only [↓RA,RB,RS, fx78,p1,p2,p3,p4,reduceIte,p5,p6,p7,p8, c1])) (fun i4 s4 hi h => ?_) (fun s4 h => ?_)
      · have w4 := wrap_succ (i := i4) (by omega)
        try simp only [↓RA,RB,RS, fx78,p1,p2,p3,p4,reduceIte,p5,p6,p7,p8, c1]
        refine CondH.tt (decide_eq_true (by omega)) (fun c2 => ?_)
        try simp only [↓RA,RB,RS, fx78,p1,p2,p3,p4,reduceIte,p5,p6,p7,p8, c1, c2]
        obtain ⟨v17, hv17, h⟩ := run_bind h
        refine IdxH.mk (f := (Formula.pv false)) hv17 ?_ ?_ <;> try simp only [↓RA,RB,RS, fx78,p1,p2,p3,p4,reduceIte,p5,p6,p7,p8, c1, c2]
        obtain ⟨v19, hv19, h⟩ := run_bind h
        refine CallH.mk [false] (ih _ _ hv19) ?_ ?_ <;> try simp only [↓RA,RB,RS, fx78,p1,p2,p3,p4,reduceIte,p5,p6,p7,p8, c1, c2]
        refine CondH.mk (fun c3 => ?_) (fun c3 => ?_)
        · replace h := run_t c3 h
          try simp only [↓RA,RB,RS, fx78,p1,p2,p3,p4,reduceIte,p5,p6,p7,p8, c1, c2, c3]
          have h := run_some h
          refine RdH.mk ⟨_, h, ?_⟩
          refine St.le_mk2 ?_
          try simp only [↓RA,RB,RS, fx78,p1,p2,p3,p4,reduceIte,p5,p6,p7,p8, c1, c2, c3, w4]
        · replace h := run_f c3 h
          try simp only [↓RA,RB,RS, fx78,p1,p2,p3,p4,reduceIte,p5,p6,p7,p8, c1, c2, c3]
          have h := run_some h
          obtain rfl : _ = r := h
          refine FinH.l ?_
          try simp only [↓RA,RB,RS, fx78,p1,p2,p3,p4,reduceIte,p5,p6,p7,p8, c1, c2, c3]
      · try simp only [↓RA,RB,RS, fx78,p1,p2,p3,p4,reduceIte,p5,p6,p7,p8, c1]
        refine CondH.ff (decide_eq_false (by omega)) (fun c4 => ?_)
        try simp only [↓RA,RB,RS, fx78,p1,p2,p3,p4,reduceIte,p5,p6,p7,p8, c1, c4]
        have h := run_some h
        obtain rfl : _ = r := h
        refine FinH.l ?_
        try simp only [↓RA,RB,RS, fx78,p1,p2,p3,p4,reduceIte,p5,p6,p7,p8, c1, c4]
    · replace h := run_f c1 h
      try simp only [↓RA,RB,RS, fx78,p1,p2,p3,p4,reduceIte,p5,p6,p7,p8, c1]
      have h := run_some h
      obtain rfl : _ = r := h
      refine FinH.l ?_
      try simp only [↓RA,RB,RS, fx78,p1,p2,p3,p4,reduceIte,p5,p6,p7,p8, c1]
theorem spec_l8Forms_sat {a0 : Formula} {r : Bool} (h : spec_l8Forms a0 = some r) : Sat Tryz.prog 78 [((Formula.pv false) a0)] (B r) := by
  obtain ⟨n, hn⟩ := lim_some h
  exact (spec_l8FormsN_sat n) _ _ hn

def fx51 := A @TB3 <| @TB37
theorem spec_l8Good_sat {a0 : Formula}  {r : Bool} (h : spec_l8Good a0 = some r) : Sat Tryz.prog 51 [((Formula.pv false) a0)] (B r) := by
  replace h := Run.of h
  unfold spec_l8Good at h
  refine Sat.of_m (nt := 10) (rs := [.tmp 2]) (n := 100000) Tryz.func51 rfl rfl rfl rfl (by simp) ?_
  try simp only [↓RA,RB,RS, fx51,p1,p2,p3,p4,reduceIte,p5,p6,p7,p8]
  repeat (first | with_reducible refine noR_and (by repeat (first | exact noR_empty _ _ | exact noR_nilS _ _ | refine noR_mk _ _ _ _ _ rfl ?_ | refine noR_mkS _ _ _ _ _ rfl ?_)) ?_ | with_reducible refine noC_and (by repeat (first | exact noC_empty _ _ (by try simp only [↓RA,RB,RS, fx51,p1,p2,p3,p4,reduceIte,p5,p6,p7,p8]) | exact noC_nilS _ _ (by try simp only [↓RA,RB,RS, fx51,p1,p2,p3,p4,reduceIte,p5,p6,p7,p8]) | refine noC_mk _ _ _ _ _ rfl ?_ | refine noC_mkS _ _ _ _ _ rfl ?_)) ?_ | with_reducible refine and_ac ?_ | with_reducible refine And.intro (a := _ = List.range _) (by rfl) ?_)
  obtain ⟨v4, hv4, h⟩ := run_bind h
  refine CallH.mk [false, false] (spec_l8Many_sat hv4) ?_ ?_ <;> try simp only [↓RA,RB,RS, fx51,p1,p2,p3,p4,reduceIte,p5,p6,p7,p8]
  refine CondH.mk (fun c1 => ?_) (fun c1 => ?_)
  · replace h := run_t c1 h
    try simp only [↓RA,RB,RS, fx51,p1,p2,p3,p4,reduceIte,p5,p6,p7,p8, c1]
    obtain ⟨v8, hv8, h⟩ := run_bind h
    refine CallH.mk [false] (spec_l8Forms_sat hv8) ?_ ?_ <;> try simp only [↓RA,RB,RS, fx51,p1,p2,p3,p4,reduceIte,p5,p6,p7,p8, c1]
    have h := run_some h
    obtain rfl : _ = r := h
    refine FinH.l ?_
    try simp only [↓RA,RB,RS, fx51,p1,p2,p3,p4,reduceIte,p5,p6,p7,p8, c1]
  · replace h := run_f c1 h
    try simp only [↓RA,RB,RS, fx51,p1,p2,p3,p4,reduceIte,p5,p6,p7,p8, c1]
    have h := run_some h
    obtain rfl : _ = r := h
    refine FinH.l ?_
    try simp only [↓RA,RB,RS, fx51,p1,p2,p3,p4,reduceIte,p5,p6,p7,p8, c1]

def fx91 := A @TB3 <| A @TB9 <| @mixedT
theorem spec_l1NumN_sat (n : Nat) : (∀ (a0 : Int) (r : ByteArray), spec_l1NumN n a0 = some r → Sat Tryz.prog 91 [(I a0)] (Sx r)) := by
  induction n with
  | zero => exact fun _ _ h => by simp [spec_l1NumN] at h
  | succ n ih =>
    refine fun a0 r h => ?_
    replace h := Run.of h
    rw [spec_l1NumN] at h
    refine Sat.of_m (nt := 25) (rs := [.tmp 2]) (n := 100000) Tryz.func91 rfl rfl rfl rfl (by simp) ?_
    try simp only [↓RA,RB,RS, fx91,p1,p2,p3,p4,reduceIte,p5,p6,p7,p8]
    refine CondH.mk (fun c1 => ?_) (fun c1 => ?_)
    · replace h := run_t c1 h
      try simp only [↓RA,RB,RS, fx91,p1,p2,p3,p4,reduceIte,p5,p6,p7,p8, c1]
      obtain ⟨v7, hv7, h⟩ := run_bind h
      refine CallH.mk [false] (ih _ _ hv7) ?_ ?_ <;> try simp only [↓RA,RB,RS, fx91,p1,p2,p3,p4,reduceIte,p5,p6,p7,p8, c1]
      obtain ⟨v8, hv8, h⟩ := run_bind h
      refine SappH.mk hv8 ?_
      try simp only [↓RA,RB,RS, fx91,p1,p2,p3,p4,reduceIte,p5,p6,p7,p8, c1]
      have h := run_some h
      obtain rfl : _ = r := h
      refine FinH.l ?_
      try simp only [↓RA,RB,RS, fx91,p1,p2,p3,p4,reduceIte,p5,p6,p7,p8, c1]
    · replace h := run_f c1 h
      try simp only [↓RA,RB,RS, fx91,p1,p2,p3,p4,reduceIte,p5,p6,p7,p8, c1]
      refine CondH.mk (fun c2 => ?_) (fun c2 => ?_)
      · replace h := run_t c2 h
        try simp only [↓RA,RB,RS, fx91,p1,p2,p3,p4,reduceIte,p5,p6,p7,p8, c1, c2]
        obtain ⟨v14, hv14, h⟩ := run_bind h
        refine SslcH.mk hv14 ?_
        try simp only [↓RA,RB,RS, fx91,p1,p2,p3,p4,reduceIte,p5,p6,p7,p8, c1, c2]
        have h := run_some h
        obtain rfl : _ = r := h
        refine FinH.l ?_
        try simp only [↓RA,RB,RS, fx91,p1,p2,p3,p4,reduceIte,p5,p6,p7,p8, c1, c2]
      · replace h := run_f c2 h
        try simp only [↓RA,RB,RS, fx91,p1,p2,p3,p4,reduceIte,p5,p6,p7,p8, c1, c2]
        obtain ⟨v16, hv16, h⟩ := run_bind h
        refine quoH.mk hv16 ?_
        try simp only [↓RA,RB,RS, fx91,p1,p2,p3,p4,reduceIte,p5,p6,p7,p8, c1, c2]
        obtain ⟨v17, hv17, h⟩ := run_bind h
        refine CallH.mk [false] (ih _ _ hv17) ?_ ?_ <;> try simp only [↓RA,RB,RS, fx91,p1,p2,p3,p4,reduceIte,p5,p6,p7,p8, c1, c2]
        obtain ⟨v19, hv19, h⟩ := run_bind h
        refine remH.mk hv19 ?_
        try simp only [↓RA,RB,RS, fx91,p1,p2,p3,p4,reduceIte,p5,p6,p7,p8, c1, c2]
        obtain ⟨v21, hv21, h⟩ := run_bind h
        refine remH.mk hv21 ?_
        try simp only [↓RA,RB,RS, fx91,p1,p2,p3,p4,reduceIte,p5,p6,p7,p8, c1, c2]
        obtain ⟨v23, hv23, h⟩ := run_bind h
        refine SslcH.mk hv23 ?_
        try simp only [↓RA,RB,RS, fx91,p1,p2,p3,p4,reduceIte,p5,p6,p7,p8, c1, c2]
        obtain ⟨v24, hv24, h⟩ := run_bind h
        refine SappH.mk hv24 ?_
        try simp only [↓RA,RB,RS, fx91,p1,p2,p3,p4,reduceIte,p5,p6,p7,p8, c1, c2]
        refine And.intro (DrawH.none (by rfl) (by first | rfl | (try simp only [↓RA,RB,RS, fx91,p1,p2,p3,p4,reduceIte,p5,p6,p7,p8] <;> rfl)) (by first | rfl | (try simp only [↓RA,RB,RS, fx91,p1,p2,p3,p4,reduceIte,p5,p6,p7,p8] <;> rfl)) (by first | rfl | (try simp only [↓RA,RB,RS, fx91,p1,p2,p3,p4,reduceIte,p5,p6,p7,p8] <;> rfl))) ?_
        try simp only [↓RA,RB,RS, fx91,p1,p2,p3,p4,reduceIte,p5,p6,p7,p8, c1, c2]
        have h := run_some h
        obtain rfl : _ = r := h
        refine FinH.l ?_
        try simp only [↓RA,RB,RS, fx91,p1,p2,p3,p4,reduceIte,p5,p6,p7,p8, c1, c2]
theorem spec_l1Num_sat {a0 : Int} {r : ByteArray} (h : spec_l1Num a0 = some r) : Sat Tryz.prog 91 [(I a0)] (Sx r) := by
  obtain ⟨n, hn⟩ := lim_some h
  exact (spec_l1NumN_sat n) _ _ hn

def fx79 := A @TB3 <| A @TB4 <| A @TB5 <| A @TB9 <| A @uk_3 <| @uk_5
theorem spec_l1Read_sat {a0 : ByteArray}  {r : Int × Bool} (h : spec_l1Read a0 = some r) : Sat Tryz.prog 79 [(Sx a0)] (.tup [(I r.1), (B r.2)]) := by
  replace h := Run.of h
  unfold spec_l1Read at h
  refine Sat.of_m (nt := 58) (rs := [.tmp 2, .tmp 3]) (n := 100000) Tryz.func79 rfl rfl rfl rfl (by simp) ?_
  try simp only [↓RA,RB,RS, fx79,p1,p2,p3,p4,reduceIte,p5,p6,p7,p8]
  refine CondH.mk (fun c1 => ?_) (fun c1 => ?_)
  · replace h := run_t c1 h
    try simp only [↓RA,RB,RS, fx79,p1,p2,p3,p4,reduceIte,p5,p6,p7,p8, c1]
    obtain ⟨v13, hv13, h⟩ := run_bind h
    refine SidxH.mk hv13 ?_
    try simp only [↓RA,RB,RS, fx79,p1,p2,p3,p4,reduceIte,p5,p6,p7,p8, c1]
    refine CondH.mk (fun c2 => ?_) (fun c2 => ?_)
    · replace h := run_t c2 h
      try simp only [↓RA,RB,RS, fx79,p1,p2,p3,p4,reduceIte,p5,p6,p7,p8, c1, c2]
      obtain ⟨v17, hv17, h⟩ := run_bind h
      refine SslcH.mk hv17 ?_
      try simp only [↓RA,RB,RS, fx79,p1,p2,p3,p4,reduceIte,p5,p6,p7,p8, c1, c2]
      obtain ⟨v20, hv20, h⟩ := run_bind h
      refine CallH.mk [false, false, false] (spec_l1In_sat hv20) ?_ ?_ <;> try simp only [↓RA,RB,RS, fx79,p1,p2,p3,p4,reduceIte,p5,p6,p7,p8, c1, c2]
      refine CondH.mk (fun c3 => ?_) (fun c3 => ?_)
      · replace h := run_t c3 h
        try simp only [↓RA,RB,RS, fx79,p1,p2,p3,p4,reduceIte,p5,p6,p7,p8, c1, c2, c3]
        obtain ⟨N8, hN8, h⟩ := run_bind h
        obtain ⟨hN8a, hN8b⟩ := bnd_some hN8
        replace h := run_loop h
        refine Mg.forN h (fun i8 s8 => [(0, .val (.pv (Sx a0))), (4, .val (.pv (Sx v17))), (5, .val (.pv (I s8))), (6, .val (.pv (I (i8 : Int))))]) (fun i8 s8 => []) (St.le_mk2 (by try simp only [↓RA,RB,RS, fx79,p1,p2,p3,p4,reduceIte,p5,p6,p7,p8, c1, c2, c3])) (fun i8 s8 hi h => ?_) (fun s8 h => ?_)
        · have w8 := wrap_succ (i := i8) (by omega)
          try simp only [↓RA,RB,RS, fx79,p1,p2,p3,p4,reduceIte,p5,p6,p7,p8, c1, c2, c3]
          refine CondH.tt (decide_eq_true (by omega)) (fun c4 => ?_)
          try simp only [↓RA,RB,RS, fx79,p1,p2,p3,p4,reduceIte,p5,p6,p7,p8, c1, c2, c3, c4]
          obtain ⟨v30, hv30, h⟩ := run_bind h
          refine SidxH.mk hv30 ?_
          try simp only [↓RA,RB,RS, fx79,p1,p2,p3,p4,reduceIte,p5,p6,p7,p8, c1, c2, c3, c4]
          refine CondH.mk (fun c5 => ?_) (fun c5 => ?_)
          · replace h := run_t c5 h
            try simp only [↓RA,RB,RS, fx79,p1,p2,p3,p4,reduceIte,p5,p6,p7,p8, c1, c2, c3, c4, c5]
            have h := run_some h
            obtain rfl : _ = r := h
            refine FinH.l ?_
            try simp only [↓RA,RB,RS, fx79,p1,p2,p3,p4,reduceIte,p5,p6,p7,p8, c1, c2, c3, c4, c5]
          · replace h := run_f c5 h
            try simp only [↓RA,RB,RS, fx79,p1,p2,p3,p4,reduceIte,p5,p6,p7,p8, c1, c2, c3, c4, c5]
            obtain ⟨v35, hv35, h⟩ := run_bind h
            refine SidxH.mk hv35 ?_
            try simp only [↓RA,RB,RS, fx79,p1,p2,p3,p4,reduceIte,p5,p6,p7,p8, c1, c2, c3, c4, c5]
            refine CondH.mk (fun c6 => ?_) (fun c6 => ?_)
            · replace h := run_t c6 h
              try simp only [↓RA,RB,RS, fx79,p1,p2,p3,p4,reduceIte,p5,p6,p7,p8, c1, c2, c3, c4, c5, c6]
              have h := run_some h
              obtain rfl : _ = r := h
              refine FinH.l ?_
              try simp only [↓RA,RB,RS, fx79,p1,p2,p3,p4,reduceIte,p5,p6,p7,p8, c1, c2, c3, c4, c5, c6]
            · replace h := run_f c6 h
              try simp only [↓RA,RB,RS, fx79,p1,p2,p3,p4,reduceIte,p5,p6,p7,p8, c1, c2, c3, c4, c5, c6]
              obtain ⟨v42, hv42, h⟩ := run_bind h
              refine SidxH.mk hv42 ?_
              try simp only [↓RA,RB,RS, fx79,p1,p2,p3,p4,reduceIte,p5,p6,p7,p8, c1, c2, c3, c4, c5, c6]
              have h := run_some h
              refine RdH.mk ⟨_, h, ?_⟩
              refine St.le_mk2 ?_
              try simp only [↓RA,RB,RS, fx79,p1,p2,p3,p4,reduceIte,p5,p6,p7,p8, c1, c2, c3, c4, c5, c6, w8]
        · try simp only [↓RA,RB,RS, fx79,p1,p2,p3,p4,reduceIte,p5,p6,p7,p8, c1, c2, c3]
          refine CondH.ff (decide_eq_false (by omega)) (fun c7 => ?_)
          try simp only [↓RA,RB,RS, fx79,p1,p2,p3,p4,reduceIte,p5,p6,p7,p8, c1, c2, c3, c7]
          refine CondH.mk (fun c8 => ?_) (fun c8 => ?_)
          · replace h := run_t c8 h
            try simp only [↓RA,RB,RS, fx79,p1,p2,p3,p4,reduceIte,p5,p6,p7,p8, c1, c2, c3, c7, c8]
            obtain ⟨v54, hv54, h⟩ := run_bind h
            refine CallH.mk [false] (spec_l1Num_sat hv54) ?_ ?_ <;> try simp only [↓RA,RB,RS, fx79,p1,p2,p3,p4,reduceIte,p5,p6,p7,p8, c1, c2, c3, c7, c8]
            refine CondH.mk (fun c9 => ?_) (fun c9 => ?_)
            · replace h := run_t c9 h
              try simp only [↓RA,RB,RS, fx79,p1,p2,p3,p4,reduceIte,p5,p6,p7,p8, c1, c2, c3, c7, c8, c9]
              have h := run_some h
              obtain rfl : _ = r := h
              refine FinH.l ?_
              try simp only [↓RA,RB,RS, fx79,p1,p2,p3,p4,reduceIte,p5,p6,p7,p8, c1, c2, c3, c7, c8, c9]
            · replace h := run_f c9 h
              try simp only [↓RA,RB,RS, fx79,p1,p2,p3,p4,reduceIte,p5,p6,p7,p8, c1, c2, c3, c7, c8, c9]
              have h := run_some h
              obtain rfl : _ = r := h
              refine FinH.l ?_
              try simp only [↓RA,RB,RS, fx79,p1,p2,p3,p4,reduceIte,p5,p6,p7,p8, c1, c2, c3, c7, c8, c9]
          · replace h := run_f c8 h
            try simp only [↓RA,RB,RS, fx79,p1,p2,p3,p4,reduceIte,p5,p6,p7,p8, c1, c2, c3, c7, c8]
            obtain ⟨v54, hv54, h⟩ := run_bind h
            refine CallH.mk [false] (spec_l1Num_sat hv54) ?_ ?_ <;> try simp only [↓RA,RB,RS, fx79,p1,p2,p3,p4,reduceIte,p5,p6,p7,p8, c1, c2, c3, c7, c8]
            refine CondH.mk (fun c10 => ?_) (fun c10 => ?_)
            · replace h := run_t c10 h
              try simp only [↓RA,RB,RS, fx79,p1,p2,p3,p4,reduceIte,p5,p6,p7,p8, c1, c2, c3, c7, c8, c10]
              have h := run_some h
              obtain rfl : _ = r := h
              refine FinH.l ?_
              try simp only [↓RA,RB,RS, fx79,p1,p2,p3,p4,reduceIte,p5,p6,p7,p8, c1, c2, c3, c7, c8, c10]
            · replace h := run_f c10 h
              try simp only [↓RA,RB,RS, fx79,p1,p2,p3,p4,reduceIte,p5,p6,p7,p8, c1, c2, c3, c7, c8, c10]
              have h := run_some h
              obtain rfl : _ = r := h
              refine FinH.l ?_
              try simp only [↓RA,RB,RS, fx79,p1,p2,p3,p4,reduceIte,p5,p6,p7,p8, c1, c2, c3, c7, c8, c10]
      · replace h := run_f c3 h
        try simp only [↓RA,RB,RS, fx79,p1,p2,p3,p4,reduceIte,p5,p6,p7,p8, c1, c2, c3]
        have h := run_some h
        obtain rfl : _ = r := h
        refine FinH.l ?_
        try simp only [↓RA,RB,RS, fx79,p1,p2,p3,p4,reduceIte,p5,p6,p7,p8, c1, c2, c3]
    · replace h := run_f c2 h
      try simp only [↓RA,RB,RS, fx79,p1,p2,p3,p4,reduceIte,p5,p6,p7,p8, c1, c2]
      obtain ⟨v20, hv20, h⟩ := run_bind h
      refine CallH.mk [false, false, false] (spec_l1In_sat hv20) ?_ ?_ <;> try simp only [↓RA,RB,RS, fx79,p1,p2,p3,p4,reduceIte,p5,p6,p7,p8, c1, c2]
      refine CondH.mk (fun c11 => ?_) (fun c11 => ?_)
      · replace h := run_t c11 h
        try simp only [↓RA,RB,RS, fx79,p1,p2,p3,p4,reduceIte,p5,p6,p7,p8, c1, c2, c11]
        obtain ⟨N8, hN8, h⟩ := run_bind h
        obtain ⟨hN8a, hN8b⟩ := bnd_some hN8
        replace h := run_loop h
        refine Mg.forN h (fun i8 s8 => [(0, .val (.pv (Sx a0))), (4, .val (.pv (Sx a0))), (5, .val (.pv (I s8))), (6, .val (.pv (I (i8 : Int))))]) (fun i8 s8 => []) (St.le_mk2 (by try simp only [↓RA,RB,RS, fx79,p1,p2,p3,p4,reduceIte,p5,p6,p7,p8, c1, c2, c11])) (fun i8 s8 hi h => ?_) (fun s8 h => ?_)
        · have w8 := wrap_succ (i := i8) (by omega)
          try simp only [↓RA,RB,RS, fx79,p1,p2,p3,p4,reduceIte,p5,p6,p7,p8, c1, c2, c11]
          refine CondH.tt (decide_eq_true (by omega)) (fun c12 => ?_)
          try simp only [↓RA,RB,RS, fx79,p1,p2,p3,p4,reduceIte,p5,p6,p7,p8, c1, c2, c11, c12]
          obtain ⟨v30, hv30, h⟩ := run_bind h
          refine SidxH.mk hv30 ?_
          try simp only [↓RA,RB,RS, fx79,p1,p2,p3,p4,reduceIte,p5,p6,p7,p8, c1, c2, c11, c12]
          refine CondH.mk (fun c13 => ?_) (fun c13 => ?_)
          · replace h := run_t c13 h
            try simp only [↓RA,RB,RS, fx79,p1,p2,p3,p4,reduceIte,p5,p6,p7,p8, c1, c2, c11, c12, c13]
            have h := run_some h
            obtain rfl : _ = r := h
            refine FinH.l ?_
            try simp only [↓RA,RB,RS, fx79,p1,p2,p3,p4,reduceIte,p5,p6,p7,p8, c1, c2, c11, c12, c13]
          · replace h := run_f c13 h
            try simp only [↓RA,RB,RS, fx79,p1,p2,p3,p4,reduceIte,p5,p6,p7,p8, c1, c2, c11, c12, c13]
            obtain ⟨v35, hv35, h⟩ := run_bind h
            refine SidxH.mk hv35 ?_
            try simp only [↓RA,RB,RS, fx79,p1,p2,p3,p4,reduceIte,p5,p6,p7,p8, c1, c2, c11, c12, c13]
            refine CondH.mk (fun c14 => ?_) (fun c14 => ?_)
            · replace h := run_t c14 h
              try simp only [↓RA,RB,RS, fx79,p1,p2,p3,p4,reduceIte,p5,p6,p7,p8, c1, c2, c11, c12, c13, c14]
              have h := run_some h
              obtain rfl : _ = r := h
              refine FinH.l ?_
              try simp only [↓RA,RB,RS, fx79,p1,p2,p3,p4,reduceIte,p5,p6,p7,p8, c1, c2, c11, c12, c13, c14]
            · replace h := run_f c14 h
              try simp only [↓RA,RB,RS, fx79,p1,p2,p3,p4,reduceIte,p5,p6,p7,p8, c1, c2, c11, c12, c13, c14]
              obtain ⟨v42, hv42, h⟩ := run_bind h
              refine SidxH.mk hv42 ?_
              try simp only [↓RA,RB,RS, fx79,p1,p2,p3,p4,reduceIte,p5,p6,p7,p8, c1, c2, c11, c12, c13, c14]
              have h := run_some h
              refine RdH.mk ⟨_, h, ?_⟩
              refine St.le_mk2 ?_
              try simp only [↓RA,RB,RS, fx79,p1,p2,p3,p4,reduceIte,p5,p6,p7,p8, c1, c2, c11, c12, c13, c14, w8]
        · try simp only [↓RA,RB,RS, fx79,p1,p2,p3,p4,reduceIte,p5,p6,p7,p8, c1, c2, c11]
          refine CondH.ff (decide_eq_false (by omega)) (fun c15 => ?_)
          try simp only [↓RA,RB,RS, fx79,p1,p2,p3,p4,reduceIte,p5,p6,p7,p8, c1, c2, c11, c15]
          refine CondH.mk (fun c16 => ?_) (fun c16 => ?_)
          · replace h := run_t c16 h
            try simp only [↓RA,RB,RS, fx79,p1,p2,p3,p4,reduceIte,p5,p6,p7,p8, c1, c2, c11, c15, c16]
            obtain ⟨v54, hv54, h⟩ := run_bind h
            refine CallH.mk [false] (spec_l1Num_sat hv54) ?_ ?_ <;> try simp only [↓RA,RB,RS, fx79,p1,p2,p3,p4,reduceIte,p5,p6,p7,p8, c1, c2, c11, c15, c16]
            refine CondH.mk (fun c17 => ?_) (fun c17 => ?_)
            · replace h := run_t c17 h
              try simp only [↓RA,RB,RS, fx79,p1,p2,p3,p4,reduceIte,p5,p6,p7,p8, c1, c2, c11, c15, c16, c17]
              have h := run_some h
              obtain rfl : _ = r := h
              refine FinH.l ?_
              try simp only [↓RA,RB,RS, fx79,p1,p2,p3,p4,reduceIte,p5,p6,p7,p8, c1, c2, c11, c15, c16, c17]
            · replace h := run_f c17 h
              try simp only [↓RA,RB,RS, fx79,p1,p2,p3,p4,reduceIte,p5,p6,p7,p8, c1, c2, c11, c15, c16, c17]
              have h := run_some h
              obtain rfl : _ = r := h
              refine FinH.l ?_
              try simp only [↓RA,RB,RS, fx79,p1,p2,p3,p4,reduceIte,p5,p6,p7,p8, c1, c2, c11, c15, c16, c17]
          · replace h := run_f c16 h
            try simp only [↓RA,RB,RS, fx79,p1,p2,p3,p4,reduceIte,p5,p6,p7,p8, c1, c2, c11, c15, c16]
            obtain ⟨v54, hv54, h⟩ := run_bind h
            refine CallH.mk [false] (spec_l1Num_sat hv54) ?_ ?_ <;> try simp only [↓RA,RB,RS, fx79,p1,p2,p3,p4,reduceIte,p5,p6,p7,p8, c1, c2, c11, c15, c16]
            refine CondH.mk (fun c18 => ?_) (fun c18 => ?_)
            · replace h := run_t c18 h
              try simp only [↓RA,RB,RS, fx79,p1,p2,p3,p4,reduceIte,p5,p6,p7,p8, c1, c2, c11, c15, c16, c18]
              have h := run_some h
              obtain rfl : _ = r := h
              refine FinH.l ?_
              try simp only [↓RA,RB,RS, fx79,p1,p2,p3,p4,reduceIte,p5,p6,p7,p8, c1, c2, c11, c15, c16, c18]
            · replace h := run_f c18 h
              try simp only [↓RA,RB,RS, fx79,p1,p2,p3,p4,reduceIte,p5,p6,p7,p8, c1, c2, c11, c15, c16, c18]
              have h := run_some h
              obtain rfl : _ = r := h
              refine FinH.l ?_
              try simp only [↓RA,RB,RS, fx79,p1,p2,p3,p4,reduceIte,p5,p6,p7,p8, c1, c2, c11, c15, c16, c18]
      · replace h := run_f c11 h
        try simp only [↓RA,RB,RS, fx79,p1,p2,p3,p4,reduceIte,p5,p6,p7,p8, c1, c2, c11]
        have h := run_some h
        obtain rfl : _ = r := h
        refine FinH.l ?_
        try simp only [↓RA,RB,RS, fx79,p1,p2,p3,p4,reduceIte,p5,p6,p7,p8, c1, c2, c11]
  · replace h := run_f c1 h
    try simp only [↓RA,RB,RS, fx79,p1,p2,p3,p4,reduceIte,p5,p6,p7,p8, c1]
    obtain ⟨v20, hv20, h⟩ := run_bind h
    refine CallH.mk [false, false, false] (spec_l1In_sat hv20) ?_ ?_ <;> try simp only [↓RA,RB,RS, fx79,p1,p2,p3,p4,reduceIte,p5,p6,p7,p8, c1]
    refine CondH.mk (fun c19 => ?_) (fun c19 => ?_)
    · replace h := run_t c19 h
      try simp only [↓RA,RB,RS, fx79,p1,p2,p3,p4,reduceIte,p5,p6,p7,p8, c1, c19]
      obtain ⟨N8, hN8, h⟩ := run_bind h
      obtain ⟨hN8a, hN8b⟩ := bnd_some hN8
      replace h := run_loop h
      refine Mg.forN h (fun i8 s8 => [(0, .val (.pv (Sx a0))), (4, .val (.pv (Sx a0))), (5, .val (.pv (I s8))), (6, .val (.pv (I (i8 : Int))))]) (fun i8 s8 => []) (St.le_mk2 (by try simp only [↓RA,RB,RS, fx79,p1,p2,p3,p4,reduceIte,p5,p6,p7,p8, c1, c19])) (fun i8 s8 hi h => ?_) (fun s8 h => ?_)
      · have w8 := wrap_succ (i := i8) (by omega)
        try simp only [↓RA,RB,RS, fx79,p1,p2,p3,p4,reduceIte,p5,p6,p7,p8, c1, c19]
        refine CondH.tt (decide_eq_true (by omega)) (fun c20 => ?_)
        try simp only [↓RA,RB,RS, fx79,p1,p2,p3,p4,reduceIte,p5,p6,p7,p8, c1, c19, c20]
        obtain ⟨v30, hv30, h⟩ := run_bind h
        refine SidxH.mk hv30 ?_
        try simp only [↓RA,RB,RS, fx79,p1,p2,p3,p4,reduceIte,p5,p6,p7,p8, c1, c19, c20]
        refine CondH.mk (fun c21 => ?_) (fun c21 => ?_)
        · replace h := run_t c21 h
          try simp only [↓RA,RB,RS, fx79,p1,p2,p3,p4,reduceIte,p5,p6,p7,p8, c1, c19, c20, c21]
          have h := run_some h
          obtain rfl : _ = r := h
          refine FinH.l ?_
          try simp only [↓RA,RB,RS, fx79,p1,p2,p3,p4,reduceIte,p5,p6,p7,p8, c1, c19, c20, c21]
        · replace h := run_f c21 h
          try simp only [↓RA,RB,RS, fx79,p1,p2,p3,p4,reduceIte,p5,p6,p7,p8, c1, c19, c20, c21]
          obtain ⟨v35, hv35, h⟩ := run_bind h
          refine SidxH.mk hv35 ?_
          try simp only [↓RA,RB,RS, fx79,p1,p2,p3,p4,reduceIte,p5,p6,p7,p8, c1, c19, c20, c21]
          refine CondH.mk (fun c22 => ?_) (fun c22 => ?_)
          · replace h := run_t c22 h
            try simp only [↓RA,RB,RS, fx79,p1,p2,p3,p4,reduceIte,p5,p6,p7,p8, c1, c19, c20, c21, c22]
            have h := run_some h
            obtain rfl : _ = r := h
            refine FinH.l ?_
            try simp only [↓RA,RB,RS, fx79,p1,p2,p3,p4,reduceIte,p5,p6,p7,p8, c1, c19, c20, c21, c22]
          · replace h := run_f c22 h
            try simp only [↓RA,RB,RS, fx79,p1,p2,p3,p4,reduceIte,p5,p6,p7,p8, c1, c19, c20, c21, c22]
            obtain ⟨v42, hv42, h⟩ := run_bind h
            refine SidxH.mk hv42 ?_
            try simp only [↓RA,RB,RS, fx79,p1,p2,p3,p4,reduceIte,p5,p6,p7,p8, c1, c19, c20, c21, c22]
            have h := run_some h
            refine RdH.mk ⟨_, h, ?_⟩
            refine St.le_mk2 ?_
            try simp only [↓RA,RB,RS, fx79,p1,p2,p3,p4,reduceIte,p5,p6,p7,p8, c1, c19, c20, c21, c22, w8]
      · try simp only [↓RA,RB,RS, fx79,p1,p2,p3,p4,reduceIte,p5,p6,p7,p8, c1, c19]
        refine CondH.ff (decide_eq_false (by omega)) (fun c23 => ?_)
        try simp only [↓RA,RB,RS, fx79,p1,p2,p3,p4,reduceIte,p5,p6,p7,p8, c1, c19, c23]
        refine CondH.mk (fun c24 => ?_) (fun c24 => ?_)
        · replace h := run_t c24 h
          try simp only [↓RA,RB,RS, fx79,p1,p2,p3,p4,reduceIte,p5,p6,p7,p8, c1, c19, c23, c24]
          obtain ⟨v54, hv54, h⟩ := run_bind h
          refine CallH.mk [false] (spec_l1Num_sat hv54) ?_ ?_ <;> try simp only [↓RA,RB,RS, fx79,p1,p2,p3,p4,reduceIte,p5,p6,p7,p8, c1, c19, c23, c24]
          refine CondH.mk (fun c25 => ?_) (fun c25 => ?_)
          · replace h := run_t c25 h
            try simp only [↓RA,RB,RS, fx79,p1,p2,p3,p4,reduceIte,p5,p6,p7,p8, c1, c19, c23, c24, c25]
            have h := run_some h
            obtain rfl : _ = r := h
            refine FinH.l ?_
            try simp only [↓RA,RB,RS, fx79,p1,p2,p3,p4,reduceIte,p5,p6,p7,p8, c1, c19, c23, c24, c25]
          · replace h := run_f c25 h
            try simp only [↓RA,RB,RS, fx79,p1,p2,p3,p4,reduceIte,p5,p6,p7,p8, c1, c19, c23, c24, c25]
            have h := run_some h
            obtain rfl : _ = r := h
            refine FinH.l ?_
            try simp only [↓RA,RB,RS, fx79,p1,p2,p3,p4,reduceIte,p5,p6,p7,p8, c1, c19, c23, c24, c25]
        · replace h := run_f c24 h
          try simp only [↓RA,RB,RS, fx79,p1,p2,p3,p4,reduceIte,p5,p6,p7,p8, c1, c19, c23, c24]
          obtain ⟨v54, hv54, h⟩ := run_bind h
          refine CallH.mk [false] (spec_l1Num_sat hv54) ?_ ?_ <;> try simp only [↓RA,RB,RS, fx79,p1,p2,p3,p4,reduceIte,p5,p6,p7,p8, c1, c19, c23, c24]
          refine CondH.mk (fun c26 => ?_) (fun c26 => ?_)
          · replace h := run_t c26 h
            try simp only [↓RA,RB,RS, fx79,p1,p2,p3,p4,reduceIte,p5,p6,p7,p8, c1, c19, c23, c24, c26]
            have h := run_some h
            obtain rfl : _ = r := h
            refine FinH.l ?_
            try simp only [↓RA,RB,RS, fx79,p1,p2,p3,p4,reduceIte,p5,p6,p7,p8, c1, c19, c23, c24, c26]
          · replace h := run_f c26 h
            try simp only [↓RA,RB,RS, fx79,p1,p2,p3,p4,reduceIte,p5,p6,p7,p8, c1, c19, c23, c24, c26]
            have h := run_some h
            obtain rfl : _ = r := h
            refine FinH.l ?_
            try simp only [↓RA,RB,RS, fx79,p1,p2,p3,p4,reduceIte,p5,p6,p7,p8, c1, c19, c23, c24, c26]
    · replace h := run_f c19 h
      try simp only [↓RA,RB,RS, fx79,p1,p2,p3,p4,reduceIte,p5,p6,p7,p8, c1, c19]
      have h := run_some h
      obtain rfl : _ = r := h
      refine FinH.l ?_
      try simp only [↓RA,RB,RS, fx79,p1,p2,p3,p4,reduceIte,p5,p6,p7,p8, c1, c19]

def fx55 := A @TB3 <| A @TB4 <| A @TB5 <| A @TB9 <| A @TB32 <| @TB34
theorem spec_l20Variable_sat {a0 : Term}  {r : Int} (h : spec_l20Variable a0 = some r) : Sat Tryz.prog 55 [((Term.pv false) a0)] (I r) := by
  replace h := Run.of h
  unfold spec_l20Variable at h
  refine Sat.of_m (nt := 36) (rs := [.tmp 2]) (n := 100000) Tryz.func55 rfl rfl rfl rfl (by simp) ?_
  try simp only [↓RA,RB,RS, fx55,p1,p2,p3,p4,reduceIte,p5,p6,p7,p8]
  repeat (first | with_reducible refine noR_and (by repeat (first | exact noR_empty _ _ | exact noR_nilS _ _ | refine noR_mk _ _ _ _ _ rfl ?_ | refine noR_mkS _ _ _ _ _ rfl ?_)) ?_ | with_reducible refine noC_and (by repeat (first | exact noC_empty _ _ (by try simp only [↓RA,RB,RS, fx55,p1,p2,p3,p4,reduceIte,p5,p6,p7,p8]) | exact noC_nilS _ _ (by try simp only [↓RA,RB,RS, fx55,p1,p2,p3,p4,reduceIte,p5,p6,p7,p8]) | refine noC_mk _ _ _ _ _ rfl ?_ | refine noC_mkS _ _ _ _ _ rfl ?_)) ?_ | with_reducible refine and_ac ?_ | with_reducible refine And.intro (a := _ = List.range _) (by rfl) ?_)
  refine CondH.mk (fun c1 => ?_) (fun c1 => ?_)
  · replace h := run_t c1 h
    try simp only [↓RA,RB,RS, fx55,p1,p2,p3,p4,reduceIte,p5,p6,p7,p8, c1]
    have h := run_some h
    obtain rfl : _ = r := h
    refine FinH.l ?_
    try simp only [↓RA,RB,RS, fx55,p1,p2,p3,p4,reduceIte,p5,p6,p7,p8, c1]
  · replace h := run_f c1 h
    try simp only [↓RA,RB,RS, fx55,p1,p2,p3,p4,reduceIte,p5,p6,p7,p8, c1]
    refine CondH.mk (fun c2 => ?_) (fun c2 => ?_)
    · replace h := run_t c2 h
      try simp only [↓RA,RB,RS, fx55,p1,p2,p3,p4,reduceIte,p5,p6,p7,p8, c1, c2]
      have h := run_some h
      obtain rfl : _ = r := h
      refine FinH.l ?_
      try simp only [↓RA,RB,RS, fx55,p1,p2,p3,p4,reduceIte,p5,p6,p7,p8, c1, c2]
    · replace h := run_f c2 h
      try simp only [↓RA,RB,RS, fx55,p1,p2,p3,p4,reduceIte,p5,p6,p7,p8, c1, c2]
      obtain ⟨v18, hv18, h⟩ := run_bind h
      refine SidxH.mk hv18 ?_
      try simp only [↓RA,RB,RS, fx55,p1,p2,p3,p4,reduceIte,p5,p6,p7,p8, c1, c2]
      refine CondH.mk (fun c3 => ?_) (fun c3 => ?_)
      · replace h := run_t c3 h
        try simp only [↓RA,RB,RS, fx55,p1,p2,p3,p4,reduceIte,p5,p6,p7,p8, c1, c2, c3]
        obtain ⟨v24, hv24, h⟩ := run_bind h
        refine SslcH.mk hv24 ?_
        try simp only [↓RA,RB,RS, fx55,p1,p2,p3,p4,reduceIte,p5,p6,p7,p8, c1, c2, c3]
        obtain ⟨v25, hv25, h⟩ := run_bind h
        refine CallH.mk [false] (spec_l1Read_sat hv25) ?_ ?_ <;> try simp only [↓RA,RB,RS, fx55,p1,p2,p3,p4,reduceIte,p5,p6,p7,p8, c1, c2, c3]
        refine CondH.mk (fun c4 => ?_) (fun c4 => ?_)
        · replace h := run_t c4 h
          try simp only [↓RA,RB,RS, fx55,p1,p2,p3,p4,reduceIte,p5,p6,p7,p8, c1, c2, c3, c4]
          obtain ⟨v32, hv32, h⟩ := run_bind h
          refine CallH.mk [false, false, false] (spec_l1In_sat hv32) ?_ ?_ <;> try simp only [↓RA,RB,RS, fx55,p1,p2,p3,p4,reduceIte,p5,p6,p7,p8, c1, c2, c3, c4]
          refine CondH.mk (fun c5 => ?_) (fun c5 => ?_)
          · replace h := run_t c5 h
            try simp only [↓RA,RB,RS, fx55,p1,p2,p3,p4,reduceIte,p5,p6,p7,p8, c1, c2, c3, c4, c5]
            have h := run_some h
            obtain rfl : _ = r := h
            refine FinH.l ?_
            try simp only [↓RA,RB,RS, fx55,p1,p2,p3,p4,reduceIte,p5,p6,p7,p8, c1, c2, c3, c4, c5]
          · replace h := run_f c5 h
            try simp only [↓RA,RB,RS, fx55,p1,p2,p3,p4,reduceIte,p5,p6,p7,p8, c1, c2, c3, c4, c5]
            have h := run_some h
            obtain rfl : _ = r := h
            refine FinH.l ?_
            try simp only [↓RA,RB,RS, fx55,p1,p2,p3,p4,reduceIte,p5,p6,p7,p8, c1, c2, c3, c4, c5]
        · replace h := run_f c4 h
          try simp only [↓RA,RB,RS, fx55,p1,p2,p3,p4,reduceIte,p5,p6,p7,p8, c1, c2, c3, c4]
          have h := run_some h
          obtain rfl : _ = r := h
          refine FinH.l ?_
          try simp only [↓RA,RB,RS, fx55,p1,p2,p3,p4,reduceIte,p5,p6,p7,p8, c1, c2, c3, c4]
      · replace h := run_f c3 h
        try simp only [↓RA,RB,RS, fx55,p1,p2,p3,p4,reduceIte,p5,p6,p7,p8, c1, c2, c3]
        have h := run_some h
        obtain rfl : _ = r := h
        refine FinH.l ?_
        try simp only [↓RA,RB,RS, fx55,p1,p2,p3,p4,reduceIte,p5,p6,p7,p8, c1, c2, c3]

def fx52 := A @TB3 <| A @TB4 <| A @TB34 <| A @TB35 <| @TB37
theorem spec_l20FormN_sat (n : Nat) : (∀ (a0 : Formula) (r : Bool), spec_l20FormN n a0 = some r → Sat Tryz.prog 52 [((Formula.pv false) a0)] (B r)) := by
  induction n with
  | zero => exact fun _ _ h => by simp [spec_l20FormN] at h
  | succ n ih =>
    refine fun a0 r h => ?_
    replace h := Run.of h
    rw [spec_l20FormN] at h
    refine Sat.of_m (nt := 33) (rs := [.tmp 2]) (n := 100000) Tryz.func52 rfl rfl rfl rfl (by simp) ?_
    try simp only [↓RA,RB,RS, fx52,p1,p2,p3,p4,reduceIte,p5,p6,p7,p8]
    repeat (first | with_reducible refine noR_and (by repeat (first | exact noR_empty _ _ | exact noR_nilS _ _ | refine noR_mk _ _ _ _ _ rfl ?_ | refine noR_mkS _ _ _ _ _ rfl ?_)) ?_ | with_reducible refine noC_and (by repeat (first | exact noC_empty _ _ (by try simp only [↓RA,RB,RS, fx52,p1,p2,p3,p4,reduceIte,p5,p6,p7,p8]) | exact noC_nilS _ _ (by try simp only [↓RA,RB,RS, fx52,p1,p2,p3,p4,reduceIte,p5,p6,p7,p8]) | refine noC_mk _ _ _ _ _ rfl ?_ | refine noC_mkS _ _ _ _ _ rfl ?_)) ?_ | with_reducible refine and_ac ?_ | with_reducible refine And.intro (a := _ = List.range _) (by rfl) ?_)
    refine CondH.mk (fun c1 => ?_) (fun c1 => ?_)
    · replace h := run_t c1 h
      try simp only [↓RA,RB,RS, fx52,p1,p2,p3,p4,reduceIte,p5,p6,p7,p8, c1]
      obtain ⟨v9, hv9, h⟩ := run_bind h
      refine CallH.mk [false] (spec_l20Variable_sat hv9) ?_ ?_ <;> try simp only [↓RA,RB,RS, fx52,p1,p2,p3,p4,reduceIte,p5,p6,p7,p8, c1]
      have h := run_some h
      obtain rfl : _ = r := h
      refine FinH.l ?_
      try simp only [↓RA,RB,RS, fx52,p1,p2,p3,p4,reduceIte,p5,p6,p7,p8, c1]
    · replace h := run_f c1 h
      try simp only [↓RA,RB,RS, fx52,p1,p2,p3,p4,reduceIte,p5,p6,p7,p8, c1]
      refine CondH.mk (fun c2 => ?_) (fun c2 => ?_)
      · replace h := run_t c2 h
        try simp only [↓RA,RB,RS, fx52,p1,p2,p3,p4,reduceIte,p5,p6,p7,p8, c1, c2]
        have h := run_some h
        obtain rfl : _ = r := h
        refine FinH.l ?_
        try simp only [↓RA,RB,RS, fx52,p1,p2,p3,p4,reduceIte,p5,p6,p7,p8, c1, c2]
      · replace h := run_f c2 h
        try simp only [↓RA,RB,RS, fx52,p1,p2,p3,p4,reduceIte,p5,p6,p7,p8, c1, c2]
        refine CondH.mk (fun c3 => ?_) (fun c3 => ?_)
        · replace h := run_t c3 h
          try simp only [↓RA,RB,RS, fx52,p1,p2,p3,p4,reduceIte,p5,p6,p7,p8, c1, c2, c3]
          have h := run_some h
          obtain rfl : _ = r := h
          refine FinH.l ?_
          try simp only [↓RA,RB,RS, fx52,p1,p2,p3,p4,reduceIte,p5,p6,p7,p8, c1, c2, c3]
        · replace h := run_f c3 h
          try simp only [↓RA,RB,RS, fx52,p1,p2,p3,p4,reduceIte,p5,p6,p7,p8, c1, c2, c3]
          refine Mg.know_val2 (b := false) (sz := 5) (es := a0.Parts.map (Formula.pv false)) (x := (.pv ((Formula.pv false) a0))) 0 [3] (by try simp only [↓RA,RB,RS, fx52,p1,p2,p3,p4,reduceIte,p5,p6,p7,p8, c1, c2, c3]) fun hl0 => ?_; rw [List.length_map] at hl0
          replace h := run_loop h
          refine Mg.forN h (fun i6 s6 => [(1, .box (.pv ((Formula.pv false) a0))), (3, .val (.pv (I (i6 : Int))))]) (fun i6 s6 => []) (St.le_mk2 (by try simp only [↓RA,RB,RS, fx52,p1,p2,p3,p4,reduceIte,p5,p6,p7,p8, c1, c2, c3])) (fun i6 s6 hi h => ?_) (fun s6 h => ?_)
          · have w6 := wrap_succ (i := i6) (by omega)
            try simp only [↓RA,RB,RS, fx52,p1,p2,p3,p4,reduceIte,p5,p6,p7,p8, c1, c2, c3]
            refine CondH.tt (decide_eq_true (by omega)) (fun c4 => ?_)
            try simp only [↓RA,RB,RS, fx52,p1,p2,p3,p4,reduceIte,p5,p6,p7,p8, c1, c2, c3, c4]
            obtain ⟨v29, hv29, h⟩ := run_bind h
            refine IdxH.mk (f := (Formula.pv false)) hv29 ?_ ?_ <;> try simp only [↓RA,RB,RS, fx52,p1,p2,p3,p4,reduceIte,p5,p6,p7,p8, c1, c2, c3, c4]
            obtain ⟨v31, hv31, h⟩ := run_bind h
            refine CallH.mk [false] (ih _ _ hv31) ?_ ?_ <;> try simp only [↓RA,RB,RS, fx52,p1,p2,p3,p4,reduceIte,p5,p6,p7,p8, c1, c2, c3, c4]
            refine CondH.mk (fun c5 => ?_) (fun c5 => ?_)
            · replace h := run_t c5 h
              try simp only [↓RA,RB,RS, fx52,p1,p2,p3,p4,reduceIte,p5,p6,p7,p8, c1, c2, c3, c4, c5]
              have h := run_some h
              refine RdH.mk ⟨_, h, ?_⟩
              refine St.le_mk2 ?_
              try simp only [↓RA,RB,RS, fx52,p1,p2,p3,p4,reduceIte,p5,p6,p7,p8, c1, c2, c3, c4, c5, w6]
            · replace h := run_f c5 h
              try simp only [↓RA,RB,RS, fx52,p1,p2,p3,p4,reduceIte,p5,p6,p7,p8, c1, c2, c3, c4, c5]
              have h := run_some h
              obtain rfl : _ = r := h
              refine FinH.l ?_
              try simp only [↓RA,RB,RS, fx52,p1,p2,p3,p4,reduceIte,p5,p6,p7,p8, c1, c2, c3, c4, c5]
          · try simp only [↓RA,RB,RS, fx52,p1,p2,p3,p4,reduceIte,p5,p6,p7,p8, c1, c2, c3]
            refine CondH.ff (decide_eq_false (by omega)) (fun c6 => ?_)
            try simp only [↓RA,RB,RS, fx52,p1,p2,p3,p4,reduceIte,p5,p6,p7,p8, c1, c2, c3, c6]
            have h := run_some h
            obtain rfl : _ = r := h
            refine FinH.l ?_
            try simp only [↓RA,RB,RS, fx52,p1,p2,p3,p4,reduceIte,p5,p6,p7,p8, c1, c2, c3, c6]
theorem spec_l20Form_sat {a0 : Formula} {r : Bool} (h : spec_l20Form a0 = some r) : Sat Tryz.prog 52 [((Formula.pv false) a0)] (B r) := by
  obtain ⟨n, hn⟩ := lim_some h
  exact (spec_l20FormN_sat n) _ _ hn

def fx22 := @TB37
theorem spec_l20Good_sat {a0 : Formula}  {r : Bool} (h : spec_l20Good a0 = some r) : Sat Tryz.prog 22 [((Formula.pv false) a0)] (B r) := by
  replace h := Run.of h
  unfold spec_l20Good at h
  refine Sat.of_m (nt := 9) (rs := [.tmp 2]) (n := 100000) Tryz.func22 rfl rfl rfl rfl (by simp) ?_
  try simp only [↓RA,RB,RS, fx22,p1,p2,p3,p4,reduceIte,p5,p6,p7,p8]
  repeat (first | with_reducible refine noR_and (by repeat (first | exact noR_empty _ _ | exact noR_nilS _ _ | refine noR_mk _ _ _ _ _ rfl ?_ | refine noR_mkS _ _ _ _ _ rfl ?_)) ?_ | with_reducible refine noC_and (by repeat (first | exact noC_empty _ _ (by try simp only [↓RA,RB,RS, fx22,p1,p2,p3,p4,reduceIte,p5,p6,p7,p8]) | exact noC_nilS _ _ (by try simp only [↓RA,RB,RS, fx22,p1,p2,p3,p4,reduceIte,p5,p6,p7,p8]) | refine noC_mk _ _ _ _ _ rfl ?_ | refine noC_mkS _ _ _ _ _ rfl ?_)) ?_ | with_reducible refine and_ac ?_ | with_reducible refine And.intro (a := _ = List.range _) (by rfl) ?_)
  obtain ⟨v4, hv4, h⟩ := run_bind h
  refine CallH.mk [false] (spec_l8Good_sat hv4) ?_ ?_ <;> try simp only [↓RA,RB,RS, fx22,p1,p2,p3,p4,reduceIte,p5,p6,p7,p8]
  refine CondH.mk (fun c1 => ?_) (fun c1 => ?_)
  · replace h := run_t c1 h
    try simp only [↓RA,RB,RS, fx22,p1,p2,p3,p4,reduceIte,p5,p6,p7,p8, c1]
    obtain ⟨v7, hv7, h⟩ := run_bind h
    refine CallH.mk [false] (spec_l20Form_sat hv7) ?_ ?_ <;> try simp only [↓RA,RB,RS, fx22,p1,p2,p3,p4,reduceIte,p5,p6,p7,p8, c1]
    have h := run_some h
    obtain rfl : _ = r := h
    refine FinH.l ?_
    try simp only [↓RA,RB,RS, fx22,p1,p2,p3,p4,reduceIte,p5,p6,p7,p8, c1]
  · replace h := run_f c1 h
    try simp only [↓RA,RB,RS, fx22,p1,p2,p3,p4,reduceIte,p5,p6,p7,p8, c1]
    have h := run_some h
    obtain rfl : _ = r := h
    refine FinH.l ?_
    try simp only [↓RA,RB,RS, fx22,p1,p2,p3,p4,reduceIte,p5,p6,p7,p8, c1]

def fx54 := A @TB3 <| A @TB28 <| @mixedT
theorem spec_l1Put_sat {a0 : List Int} {a1 : Int}  {r : List Int} (h : spec_l1Put a0 a1 = some r) : Sat Tryz.prog 54 [(.sl false 1 (a0.map I)), (I a1)] (.sl false 1 (r.map I)) := by
  replace h := Run.of h
  unfold spec_l1Put at h
  refine Sat.of_m (nt := 45) (rs := [.tmp 4]) (n := 100000) Tryz.func54 rfl rfl rfl rfl (by simp) ?_
  try simp only [↓RA,RB,RS, fx54,p1,p2,p3,p4,reduceIte,p5,p6,p7,p8]
  refine Mg.know_sl (b := false) (sz := 1) (es := a0.map I) 0 (by try simp only [↓RA,RB,RS, fx54,p1,p2,p3,p4,reduceIte,p5,p6,p7,p8]) fun hl0 => ?_; rw [List.length_map] at hl0
  replace h := run_loop h
  refine Mg.forN h (fun i2 s2 => [(0, .val (.pv (.sl false 1 (a0.map I)))), (1, .val (.pv (I a1))), (5, .val (.pv (I (i2 : Int))))]) (fun i2 s2 => []) (St.le_mk2 (by try simp only [↓RA,RB,RS, fx54,p1,p2,p3,p4,reduceIte,p5,p6,p7,p8])) (fun i2 s2 hi h => ?_) (fun s2 h => ?_)
  · have w2 := wrap_succ (i := i2) (by omega)
    try simp only [↓RA,RB,RS, fx54,p1,p2,p3,p4,reduceIte,p5,p6,p7,p8]
    refine CondH.tt (decide_eq_true (by omega)) (fun c1 => ?_)
    try simp only [↓RA,RB,RS, fx54,p1,p2,p3,p4,reduceIte,p5,p6,p7,p8, c1]
    obtain ⟨v13, hv13, h⟩ := run_bind h
    refine IdxH.mk (f := I) hv13 ?_ ?_ <;> try simp only [↓RA,RB,RS, fx54,p1,p2,p3,p4,reduceIte,p5,p6,p7,p8, c1]
    refine CondH.mk (fun c2 => ?_) (fun c2 => ?_)
    · replace h := run_t c2 h
      try simp only [↓RA,RB,RS, fx54,p1,p2,p3,p4,reduceIte,p5,p6,p7,p8, c1, c2]
      have h := run_some h
      refine RdH.mk ⟨_, h, ?_⟩
      refine St.le_mk2 ?_
      try simp only [↓RA,RB,RS, fx54,p1,p2,p3,p4,reduceIte,p5,p6,p7,p8, c1, c2, w2]
    · replace h := run_f c2 h
      try simp only [↓RA,RB,RS, fx54,p1,p2,p3,p4,reduceIte,p5,p6,p7,p8, c1, c2]
      obtain ⟨v27, hv27, h⟩ := run_bind h
      refine IdxH.mk (f := I) hv27 ?_ ?_ <;> try simp only [↓RA,RB,RS, fx54,p1,p2,p3,p4,reduceIte,p5,p6,p7,p8, c1, c2]
      refine CondH.mk (fun c3 => ?_) (fun c3 => ?_)
      · replace h := run_t c3 h
        try simp only [↓RA,RB,RS, fx54,p1,p2,p3,p4,reduceIte,p5,p6,p7,p8, c1, c2, c3]
        have h := run_some h
        obtain rfl : _ = r := h
        refine FinH.r ?_
        try simp only [↓RA,RB,RS, fx54,p1,p2,p3,p4,reduceIte,p5,p6,p7,p8, c1, c2, c3]
      · replace h := run_f c3 h
        try simp only [↓RA,RB,RS, fx54,p1,p2,p3,p4,reduceIte,p5,p6,p7,p8, c1, c2, c3]
        repeat (first | with_reducible refine noR_and (by repeat (first | exact noR_empty _ _ | exact noR_nilS _ _ | refine noR_mk _ _ _ _ _ rfl ?_ | refine noR_mkS _ _ _ _ _ rfl ?_)) ?_ | with_reducible refine noC_and (by repeat (first | exact noC_empty _ _ (by try simp only [↓RA,RB,RS, fx54,p1,p2,p3,p4,reduceIte,p5,p6,p7,p8]) | exact noC_nilS _ _ (by try simp only [↓RA,RB,RS, fx54,p1,p2,p3,p4,reduceIte,p5,p6,p7,p8]) | refine noC_mk _ _ _ _ _ rfl ?_ | refine noC_mkS _ _ _ _ _ rfl ?_)) ?_ | with_reducible refine and_ac ?_ | with_reducible refine And.intro (a := _ = List.range _) (by rfl) ?_)
        obtain ⟨v36, hv36, h⟩ := run_bind h
        refine SlcH.mk (f := I) hv36 ?_ ?_ <;> try simp only [↓RA,RB,RS, fx54,p1,p2,p3,p4,reduceIte,p5,p6,p7,p8, c1, c2, c3]
        obtain ⟨v37, hv37, h⟩ := run_bind h
        refine AppH.mk (f := I) (fun _ => rfl) hv37 ?_ ?_ ?_ <;> try simp only [↓RA,RB,RS, fx54,p1,p2,p3,p4,reduceIte,p5,p6,p7,p8, c1, c2, c3]
        repeat (first | with_reducible refine noR_and (by repeat (first | exact noR_empty _ _ | exact noR_nilS _ _ | refine noR_mk _ _ _ _ _ rfl ?_ | refine noR_mkS _ _ _ _ _ rfl ?_)) ?_ | with_reducible refine noC_and (by repeat (first | exact noC_empty _ _ (by try simp only [↓RA,RB,RS, fx54,p1,p2,p3,p4,reduceIte,p5,p6,p7,p8]) | exact noC_nilS _ _ (by try simp only [↓RA,RB,RS, fx54,p1,p2,p3,p4,reduceIte,p5,p6,p7,p8]) | refine noC_mk _ _ _ _ _ rfl ?_ | refine noC_mkS _ _ _ _ _ rfl ?_)) ?_ | with_reducible refine and_ac ?_ | with_reducible refine And.intro (a := _ = List.range _) (by rfl) ?_)
        obtain ⟨v40, hv40, h⟩ := run_bind h
        refine AppH.mk (f := I) (fun _ => rfl) hv40 ?_ ?_ ?_ <;> try simp only [↓RA,RB,RS, fx54,p1,p2,p3,p4,reduceIte,p5,p6,p7,p8, c1, c2, c3]
        repeat (first | with_reducible refine noR_and (by repeat (first | exact noR_empty _ _ | exact noR_nilS _ _ | refine noR_mk _ _ _ _ _ rfl ?_ | refine noR_mkS _ _ _ _ _ rfl ?_)) ?_ | with_reducible refine noC_and (by repeat (first | exact noC_empty _ _ (by try simp only [↓RA,RB,RS, fx54,p1,p2,p3,p4,reduceIte,p5,p6,p7,p8]) | exact noC_nilS _ _ (by try simp only [↓RA,RB,RS, fx54,p1,p2,p3,p4,reduceIte,p5,p6,p7,p8]) | refine noC_mk _ _ _ _ _ rfl ?_ | refine noC_mkS _ _ _ _ _ rfl ?_)) ?_ | with_reducible refine and_ac ?_ | with_reducible refine And.intro (a := _ = List.range _) (by rfl) ?_)
        obtain ⟨v43, hv43, h⟩ := run_bind h
        refine SlcH.mk (f := I) hv43 ?_ ?_ <;> try simp only [↓RA,RB,RS, fx54,p1,p2,p3,p4,reduceIte,p5,p6,p7,p8, c1, c2, c3]
        obtain ⟨v44, hv44, h⟩ := run_bind h
        refine AppH.mk (f := I) (fun _ => rfl) hv44 ?_ ?_ ?_ <;> try simp only [↓RA,RB,RS, fx54,p1,p2,p3,p4,reduceIte,p5,p6,p7,p8, c1, c2, c3]
        repeat (first | with_reducible refine noR_and (by repeat (first | exact noR_empty _ _ | exact noR_nilS _ _ | refine noR_mk _ _ _ _ _ rfl ?_ | refine noR_mkS _ _ _ _ _ rfl ?_)) ?_ | with_reducible refine noC_and (by repeat (first | exact noC_empty _ _ (by try simp only [↓RA,RB,RS, fx54,p1,p2,p3,p4,reduceIte,p5,p6,p7,p8]) | exact noC_nilS _ _ (by try simp only [↓RA,RB,RS, fx54,p1,p2,p3,p4,reduceIte,p5,p6,p7,p8]) | refine noC_mk _ _ _ _ _ rfl ?_ | refine noC_mkS _ _ _ _ _ rfl ?_)) ?_ | with_reducible refine and_ac ?_ | with_reducible refine And.intro (a := _ = List.range _) (by rfl) ?_)
        refine And.intro (DrawH.mk [] [528, 592, 624, 640, 704] (by rfl) (by first | rfl | (try simp only [↓RA,RB,RS, fx54,p1,p2,p3,p4,reduceIte,p5,p6,p7,p8] <;> rfl)) (by first | rfl | (try simp only [↓RA,RB,RS, fx54,p1,p2,p3,p4,reduceIte,p5,p6,p7,p8] <;> rfl)) (by first | rfl | (try simp only [↓RA,RB,RS, fx54,p1,p2,p3,p4,reduceIte,p5,p6,p7,p8] <;> rfl)) (by simp) (by try simp only [↓RA,RB,RS, fx54,p1,p2,p3,p4,reduceIte,p5,p6,p7,p8]; repeat (first | exact noC_empty _ _ (by try simp only [↓RA,RB,RS, fx54,p1,p2,p3,p4,reduceIte,p5,p6,p7,p8]) | exact noC_nilS _ _ (by try simp only [↓RA,RB,RS, fx54,p1,p2,p3,p4,reduceIte,p5,p6,p7,p8]) | refine noC_mk _ _ _ _ _ rfl ?_ | refine noC_mkS _ _ _ _ _ rfl ?_ | refine And.intro ?_ ?_))) ?_
        try simp only [↓RA,RB,RS, fx54,p1,p2,p3,p4,reduceIte,p5,p6,p7,p8, c1, c2, c3]
        have h := run_some h
        obtain rfl : _ = r := h
        refine FinH.r ?_
        try simp only [↓RA,RB,RS, fx54,p1,p2,p3,p4,reduceIte,p5,p6,p7,p8, c1, c2, c3]
  · try simp only [↓RA,RB,RS, fx54,p1,p2,p3,p4,reduceIte,p5,p6,p7,p8]
    refine CondH.ff (decide_eq_false (by omega)) (fun c4 => ?_)
    try simp only [↓RA,RB,RS, fx54,p1,p2,p3,p4,reduceIte,p5,p6,p7,p8, c4]
    repeat (first | with_reducible refine noR_and (by repeat (first | exact noR_empty _ _ | exact noR_nilS _ _ | refine noR_mk _ _ _ _ _ rfl ?_ | refine noR_mkS _ _ _ _ _ rfl ?_)) ?_ | with_reducible refine noC_and (by repeat (first | exact noC_empty _ _ (by try simp only [↓RA,RB,RS, fx54,p1,p2,p3,p4,reduceIte,p5,p6,p7,p8]) | exact noC_nilS _ _ (by try simp only [↓RA,RB,RS, fx54,p1,p2,p3,p4,reduceIte,p5,p6,p7,p8]) | refine noC_mk _ _ _ _ _ rfl ?_ | refine noC_mkS _ _ _ _ _ rfl ?_)) ?_ | with_reducible refine and_ac ?_ | with_reducible refine And.intro (a := _ = List.range _) (by rfl) ?_)
    obtain ⟨v36, hv36, h⟩ := run_bind h
    refine SlcH.mk (f := I) hv36 ?_ ?_ <;> try simp only [↓RA,RB,RS, fx54,p1,p2,p3,p4,reduceIte,p5,p6,p7,p8, c4]
    obtain ⟨v37, hv37, h⟩ := run_bind h
    refine AppH.mk (f := I) (fun _ => rfl) hv37 ?_ ?_ ?_ <;> try simp only [↓RA,RB,RS, fx54,p1,p2,p3,p4,reduceIte,p5,p6,p7,p8, c4]
    repeat (first | with_reducible refine noR_and (by repeat (first | exact noR_empty _ _ | exact noR_nilS _ _ | refine noR_mk _ _ _ _ _ rfl ?_ | refine noR_mkS _ _ _ _ _ rfl ?_)) ?_ | with_reducible refine noC_and (by repeat (first | exact noC_empty _ _ (by try simp only [↓RA,RB,RS, fx54,p1,p2,p3,p4,reduceIte,p5,p6,p7,p8]) | exact noC_nilS _ _ (by try simp only [↓RA,RB,RS, fx54,p1,p2,p3,p4,reduceIte,p5,p6,p7,p8]) | refine noC_mk _ _ _ _ _ rfl ?_ | refine noC_mkS _ _ _ _ _ rfl ?_)) ?_ | with_reducible refine and_ac ?_ | with_reducible refine And.intro (a := _ = List.range _) (by rfl) ?_)
    obtain ⟨v40, hv40, h⟩ := run_bind h
    refine AppH.mk (f := I) (fun _ => rfl) hv40 ?_ ?_ ?_ <;> try simp only [↓RA,RB,RS, fx54,p1,p2,p3,p4,reduceIte,p5,p6,p7,p8, c4]
    repeat (first | with_reducible refine noR_and (by repeat (first | exact noR_empty _ _ | exact noR_nilS _ _ | refine noR_mk _ _ _ _ _ rfl ?_ | refine noR_mkS _ _ _ _ _ rfl ?_)) ?_ | with_reducible refine noC_and (by repeat (first | exact noC_empty _ _ (by try simp only [↓RA,RB,RS, fx54,p1,p2,p3,p4,reduceIte,p5,p6,p7,p8]) | exact noC_nilS _ _ (by try simp only [↓RA,RB,RS, fx54,p1,p2,p3,p4,reduceIte,p5,p6,p7,p8]) | refine noC_mk _ _ _ _ _ rfl ?_ | refine noC_mkS _ _ _ _ _ rfl ?_)) ?_ | with_reducible refine and_ac ?_ | with_reducible refine And.intro (a := _ = List.range _) (by rfl) ?_)
    obtain ⟨v43, hv43, h⟩ := run_bind h
    refine SlcH.mk (f := I) hv43 ?_ ?_ <;> try simp only [↓RA,RB,RS, fx54,p1,p2,p3,p4,reduceIte,p5,p6,p7,p8, c4]
    obtain ⟨v44, hv44, h⟩ := run_bind h
    refine AppH.mk (f := I) (fun _ => rfl) hv44 ?_ ?_ ?_ <;> try simp only [↓RA,RB,RS, fx54,p1,p2,p3,p4,reduceIte,p5,p6,p7,p8, c4]
    repeat (first | with_reducible refine noR_and (by repeat (first | exact noR_empty _ _ | exact noR_nilS _ _ | refine noR_mk _ _ _ _ _ rfl ?_ | refine noR_mkS _ _ _ _ _ rfl ?_)) ?_ | with_reducible refine noC_and (by repeat (first | exact noC_empty _ _ (by try simp only [↓RA,RB,RS, fx54,p1,p2,p3,p4,reduceIte,p5,p6,p7,p8]) | exact noC_nilS _ _ (by try simp only [↓RA,RB,RS, fx54,p1,p2,p3,p4,reduceIte,p5,p6,p7,p8]) | refine noC_mk _ _ _ _ _ rfl ?_ | refine noC_mkS _ _ _ _ _ rfl ?_)) ?_ | with_reducible refine and_ac ?_ | with_reducible refine And.intro (a := _ = List.range _) (by rfl) ?_)
    refine And.intro (DrawH.mk [] [528, 592, 624, 640, 704] (by rfl) (by first | rfl | (try simp only [↓RA,RB,RS, fx54,p1,p2,p3,p4,reduceIte,p5,p6,p7,p8] <;> rfl)) (by first | rfl | (try simp only [↓RA,RB,RS, fx54,p1,p2,p3,p4,reduceIte,p5,p6,p7,p8] <;> rfl)) (by first | rfl | (try simp only [↓RA,RB,RS, fx54,p1,p2,p3,p4,reduceIte,p5,p6,p7,p8] <;> rfl)) (by simp) (by try simp only [↓RA,RB,RS, fx54,p1,p2,p3,p4,reduceIte,p5,p6,p7,p8]; repeat (first | exact noC_empty _ _ (by try simp only [↓RA,RB,RS, fx54,p1,p2,p3,p4,reduceIte,p5,p6,p7,p8]) | exact noC_nilS _ _ (by try simp only [↓RA,RB,RS, fx54,p1,p2,p3,p4,reduceIte,p5,p6,p7,p8]) | refine noC_mk _ _ _ _ _ rfl ?_ | refine noC_mkS _ _ _ _ _ rfl ?_ | refine And.intro ?_ ?_))) ?_
    try simp only [↓RA,RB,RS, fx54,p1,p2,p3,p4,reduceIte,p5,p6,p7,p8, c4]
    have h := run_some h
    obtain rfl : _ = r := h
    refine FinH.r ?_
    try simp only [↓RA,RB,RS, fx54,p1,p2,p3,p4,reduceIte,p5,p6,p7,p8, c4]

def fx24 := A @TB3 <| A @TB28 <| A @TB34 <| A @TB35 <| @TB37
theorem spec_l20IntoN_sat (n : Nat) : (∀ (a0 : List Int) (a1 : Formula) (r : List Int), spec_l20IntoN n a0 a1 = some r → Sat Tryz.prog 24 [(.sl false 1 (a0.map I)), ((Formula.pv false) a1)] (.sl false 1 (r.map I))) := by
  induction n with
  | zero => exact fun _ _ _ h => by simp [spec_l20IntoN] at h
  | succ n ih =>
    refine fun a0 a1 r h => ?_
    replace h := Run.of h
    rw [spec_l20IntoN] at h
    refine Sat.of_m (nt := 29) (rs := [.tmp 4]) (n := 100000) Tryz.func24 rfl rfl rfl rfl (by simp) ?_
    try simp only [↓RA,RB,RS, fx24,p1,p2,p3,p4,reduceIte,p5,p6,p7,p8]
    repeat (first | with_reducible refine noR_and (by repeat (first | exact noR_empty _ _ | exact noR_nilS _ _ | refine noR_mk _ _ _ _ _ rfl ?_ | refine noR_mkS _ _ _ _ _ rfl ?_)) ?_ | with_reducible refine noC_and (by repeat (first | exact noC_empty _ _ (by try simp only [↓RA,RB,RS, fx24,p1,p2,p3,p4,reduceIte,p5,p6,p7,p8]) | exact noC_nilS _ _ (by try simp only [↓RA,RB,RS, fx24,p1,p2,p3,p4,reduceIte,p5,p6,p7,p8]) | refine noC_mk _ _ _ _ _ rfl ?_ | refine noC_mkS _ _ _ _ _ rfl ?_)) ?_ | with_reducible refine and_ac ?_ | with_reducible refine And.intro (a := _ = List.range _) (by rfl) ?_)
    refine CondH.mk (fun c1 => ?_) (fun c1 => ?_)
    · replace h := run_t c1 h
      try simp only [↓RA,RB,RS, fx24,p1,p2,p3,p4,reduceIte,p5,p6,p7,p8, c1]
      obtain ⟨v12, hv12, h⟩ := run_bind h
      refine CallH.mk [false] (spec_l20Variable_sat hv12) ?_ ?_ <;> try simp only [↓RA,RB,RS, fx24,p1,p2,p3,p4,reduceIte,p5,p6,p7,p8, c1]
      obtain ⟨v13, hv13, h⟩ := run_bind h
      refine CallH.mk [false, false] (spec_l1Put_sat hv13) ?_ ?_ <;> try simp only [↓RA,RB,RS, fx24,p1,p2,p3,p4,reduceIte,p5,p6,p7,p8, c1]
      have h := run_some h
      obtain rfl : _ = r := h
      refine FinH.r ?_
      try simp only [↓RA,RB,RS, fx24,p1,p2,p3,p4,reduceIte,p5,p6,p7,p8, c1]
    · replace h := run_f c1 h
      try simp only [↓RA,RB,RS, fx24,p1,p2,p3,p4,reduceIte,p5,p6,p7,p8, c1]
      refine Mg.know_val2 (b := false) (sz := 5) (es := a1.Parts.map (Formula.pv false)) (x := (.pv ((Formula.pv false) a1))) 1 [3] (by try simp only [↓RA,RB,RS, fx24,p1,p2,p3,p4,reduceIte,p5,p6,p7,p8, c1]) fun hl1 => ?_; rw [List.length_map] at hl1
      replace h := run_loop h
      refine Mg.forN h (fun i4 s4 => [(0, .val (.pv (.sl false 1 (s4.map I)))), (3, .box (.pv ((Formula.pv false) a1))), (5, .val (.pv (I (i4 : Int))))]) (fun i4 s4 => []) (St.le_mk2 (by try simp only [↓RA,RB,RS, fx24,p1,p2,p3,p4,reduceIte,p5,p6,p7,p8, c1])) (fun i4 s4 hi h => ?_) (fun s4 h => ?_)
      · have w4 := wrap_succ (i := i4) (by omega)
        try simp only [↓RA,RB,RS, fx24,p1,p2,p3,p4,reduceIte,p5,p6,p7,p8, c1]
        refine CondH.tt (decide_eq_true (by omega)) (fun c2 => ?_)
        try simp only [↓RA,RB,RS, fx24,p1,p2,p3,p4,reduceIte,p5,p6,p7,p8, c1, c2]
        obtain ⟨v25, hv25, h⟩ := run_bind h
        refine IdxH.mk (f := (Formula.pv false)) hv25 ?_ ?_ <;> try simp only [↓RA,RB,RS, fx24,p1,p2,p3,p4,reduceIte,p5,p6,p7,p8, c1, c2]
        obtain ⟨v27, hv27, h⟩ := run_bind h
        refine CallH.mk [false, false] (ih _ _ _ hv27) ?_ ?_ <;> try simp only [↓RA,RB,RS, fx24,p1,p2,p3,p4,reduceIte,p5,p6,p7,p8, c1, c2]
        have h := run_some h
        refine RdH.mk ⟨_, h, ?_⟩
        refine St.le_mk2 ?_
        try simp only [↓RA,RB,RS, fx24,p1,p2,p3,p4,reduceIte,p5,p6,p7,p8, c1, c2, w4]
      · try simp only [↓RA,RB,RS, fx24,p1,p2,p3,p4,reduceIte,p5,p6,p7,p8, c1]
        refine CondH.ff (decide_eq_false (by omega)) (fun c3 => ?_)
        try simp only [↓RA,RB,RS, fx24,p1,p2,p3,p4,reduceIte,p5,p6,p7,p8, c1, c3]
        have h := run_some h
        obtain rfl : _ = r := h
        refine FinH.r ?_
        try simp only [↓RA,RB,RS, fx24,p1,p2,p3,p4,reduceIte,p5,p6,p7,p8, c1, c3]
theorem spec_l20Into_sat {a0 : List Int} {a1 : Formula} {r : List Int} (h : spec_l20Into a0 a1 = some r) : Sat Tryz.prog 24 [(.sl false 1 (a0.map I)), ((Formula.pv false) a1)] (.sl false 1 (r.map I)) := by
  obtain ⟨n, hn⟩ := lim_some h
  exact (spec_l20IntoN_sat n) _ _ _ hn

def fx25 := A @TB3 <| @TB28
theorem spec_l1Has_sat {a0 : List Int} {a1 : Int}  {r : Bool} (h : spec_l1Has a0 a1 = some r) : Sat Tryz.prog 25 [(.sl false 1 (a0.map I)), (I a1)] (B r) := by
  replace h := Run.of h
  unfold spec_l1Has at h
  refine Sat.of_m (nt := 18) (rs := [.tmp 4]) (n := 100000) Tryz.func25 rfl rfl rfl rfl (by simp) ?_
  try simp only [↓RA,RB,RS, fx25,p1,p2,p3,p4,reduceIte,p5,p6,p7,p8]
  refine Mg.know_sl (b := false) (sz := 1) (es := a0.map I) 0 (by try simp only [↓RA,RB,RS, fx25,p1,p2,p3,p4,reduceIte,p5,p6,p7,p8]) fun hl0 => ?_; rw [List.length_map] at hl0
  replace h := run_loop h
  refine Mg.forN h (fun i2 s2 => [(0, .val (.pv (.sl false 1 (a0.map I)))), (1, .val (.pv (I a1))), (5, .val (.pv (I (i2 : Int))))]) (fun i2 s2 => []) (St.le_mk2 (by try simp only [↓RA,RB,RS, fx25,p1,p2,p3,p4,reduceIte,p5,p6,p7,p8])) (fun i2 s2 hi h => ?_) (fun s2 h => ?_)
  · have w2 := wrap_succ (i := i2) (by omega)
    try simp only [↓RA,RB,RS, fx25,p1,p2,p3,p4,reduceIte,p5,p6,p7,p8]
    refine CondH.tt (decide_eq_true (by omega)) (fun c1 => ?_)
    try simp only [↓RA,RB,RS, fx25,p1,p2,p3,p4,reduceIte,p5,p6,p7,p8, c1]
    obtain ⟨v14, hv14, h⟩ := run_bind h
    refine IdxH.mk (f := I) hv14 ?_ ?_ <;> try simp only [↓RA,RB,RS, fx25,p1,p2,p3,p4,reduceIte,p5,p6,p7,p8, c1]
    refine CondH.mk (fun c2 => ?_) (fun c2 => ?_)
    · replace h := run_t c2 h
      try simp only [↓RA,RB,RS, fx25,p1,p2,p3,p4,reduceIte,p5,p6,p7,p8, c1, c2]
      have h := run_some h
      obtain rfl : _ = r := h
      refine FinH.l ?_
      try simp only [↓RA,RB,RS, fx25,p1,p2,p3,p4,reduceIte,p5,p6,p7,p8, c1, c2]
    · replace h := run_f c2 h
      try simp only [↓RA,RB,RS, fx25,p1,p2,p3,p4,reduceIte,p5,p6,p7,p8, c1, c2]
      have h := run_some h
      refine RdH.mk ⟨_, h, ?_⟩
      refine St.le_mk2 ?_
      try simp only [↓RA,RB,RS, fx25,p1,p2,p3,p4,reduceIte,p5,p6,p7,p8, c1, c2, w2]
  · try simp only [↓RA,RB,RS, fx25,p1,p2,p3,p4,reduceIte,p5,p6,p7,p8]
    refine CondH.ff (decide_eq_false (by omega)) (fun c3 => ?_)
    try simp only [↓RA,RB,RS, fx25,p1,p2,p3,p4,reduceIte,p5,p6,p7,p8, c3]
    have h := run_some h
    obtain rfl : _ = r := h
    refine FinH.l ?_
    try simp only [↓RA,RB,RS, fx25,p1,p2,p3,p4,reduceIte,p5,p6,p7,p8, c3]

def fx42 := A @TB3 <| A @TB28 <| @TB45
theorem spec_l20Occurs_sat {a0 : List (List Int)} {a1 : Int}  {r : Bool} (h : spec_l20Occurs a0 a1 = some r) : Sat Tryz.prog 42 [(.sl false 1 (a0.map (Lv false 1 I))), (I a1)] (B r) := by
  replace h := Run.of h
  unfold spec_l20Occurs at h
  refine Sat.of_m (nt := 27) (rs := [.tmp 4]) (n := 100000) Tryz.func42 rfl rfl rfl rfl (by simp) ?_
  try simp only [↓RA,RB,RS, fx42,p1,p2,p3,p4,reduceIte,p5,p6,p7,p8]
  refine Mg.know_sl (b := false) (sz := 1) (es := a0.map (Lv false 1 I)) 0 (by try simp only [↓RA,RB,RS, fx42,p1,p2,p3,p4,reduceIte,p5,p6,p7,p8]) fun hl0 => ?_; rw [List.length_map] at hl0
  replace h := run_loop h
  refine Mg.forN h (fun i2 s2 => [(0, .val (.pv (.sl false 1 (a0.map (Lv false 1 I))))), (1, .val (.pv (I a1))), (5, .val (.pv (I (i2 : Int))))]) (fun i2 s2 => []) (St.le_mk2 (by try simp only [↓RA,RB,RS, fx42,p1,p2,p3,p4,reduceIte,p5,p6,p7,p8])) (fun i2 s2 hi h => ?_) (fun s2 h => ?_)
  · have w2 := wrap_succ (i := i2) (by omega)
    try simp only [↓RA,RB,RS, fx42,p1,p2,p3,p4,reduceIte,p5,p6,p7,p8]
    refine CondH.tt (decide_eq_true (by omega)) (fun c1 => ?_)
    try simp only [↓RA,RB,RS, fx42,p1,p2,p3,p4,reduceIte,p5,p6,p7,p8, c1]
    obtain ⟨v14, hv14, h⟩ := run_bind h
    refine IdxH.mk (f := (Lv false 1 I)) hv14 ?_ ?_ <;> try simp only [↓RA,RB,RS, fx42,p1,p2,p3,p4,reduceIte,p5,p6,p7,p8, c1]
    obtain ⟨v17, hv17, h⟩ := run_bind h
    refine CallH.mk [false, false] (spec_l1Has_sat hv17) ?_ ?_ <;> try simp only [↓RA,RB,RS, fx42,p1,p2,p3,p4,reduceIte,p5,p6,p7,p8, c1]
    refine CondH.mk (fun c2 => ?_) (fun c2 => ?_)
    · replace h := run_t c2 h
      try simp only [↓RA,RB,RS, fx42,p1,p2,p3,p4,reduceIte,p5,p6,p7,p8, c1, c2]
      have h := run_some h
      obtain rfl : _ = r := h
      refine FinH.l ?_
      try simp only [↓RA,RB,RS, fx42,p1,p2,p3,p4,reduceIte,p5,p6,p7,p8, c1, c2]
    · replace h := run_f c2 h
      try simp only [↓RA,RB,RS, fx42,p1,p2,p3,p4,reduceIte,p5,p6,p7,p8, c1, c2]
      obtain ⟨v21, hv21, h⟩ := run_bind h
      refine IdxH.mk (f := (Lv false 1 I)) hv21 ?_ ?_ <;> try simp only [↓RA,RB,RS, fx42,p1,p2,p3,p4,reduceIte,p5,p6,p7,p8, c1, c2]
      obtain ⟨v25, hv25, h⟩ := run_bind h
      refine CallH.mk [false, false] (spec_l1Has_sat hv25) ?_ ?_ <;> try simp only [↓RA,RB,RS, fx42,p1,p2,p3,p4,reduceIte,p5,p6,p7,p8, c1, c2]
      refine CondH.mk (fun c3 => ?_) (fun c3 => ?_)
      · replace h := run_t c3 h
        try simp only [↓RA,RB,RS, fx42,p1,p2,p3,p4,reduceIte,p5,p6,p7,p8, c1, c2, c3]
        have h := run_some h
        obtain rfl : _ = r := h
        refine FinH.l ?_
        try simp only [↓RA,RB,RS, fx42,p1,p2,p3,p4,reduceIte,p5,p6,p7,p8, c1, c2, c3]
      · replace h := run_f c3 h
        try simp only [↓RA,RB,RS, fx42,p1,p2,p3,p4,reduceIte,p5,p6,p7,p8, c1, c2, c3]
        have h := run_some h
        refine RdH.mk ⟨_, h, ?_⟩
        refine St.le_mk2 ?_
        try simp only [↓RA,RB,RS, fx42,p1,p2,p3,p4,reduceIte,p5,p6,p7,p8, c1, c2, c3, w2]
  · try simp only [↓RA,RB,RS, fx42,p1,p2,p3,p4,reduceIte,p5,p6,p7,p8]
    refine CondH.ff (decide_eq_false (by omega)) (fun c4 => ?_)
    try simp only [↓RA,RB,RS, fx42,p1,p2,p3,p4,reduceIte,p5,p6,p7,p8, c4]
    have h := run_some h
    obtain rfl : _ = r := h
    refine FinH.l ?_
    try simp only [↓RA,RB,RS, fx42,p1,p2,p3,p4,reduceIte,p5,p6,p7,p8, c4]

def fx43 := A @TB3 <| A @TB28 <| @TB45
theorem spec_l15Most_sat {a0 : List (List Int)}  {r : Int} (h : spec_l15Most a0 = some r) : Sat Tryz.prog 43 [(.sl false 1 (a0.map (Lv false 1 I)))] (I r) := by
  replace h := Run.of h
  unfold spec_l15Most at h
  refine Sat.of_m (nt := 32) (rs := [.tmp 2]) (n := 100000) Tryz.func43 rfl rfl rfl rfl (by simp) ?_
  try simp only [↓RA,RB,RS, fx43,p1,p2,p3,p4,reduceIte,p5,p6,p7,p8]
  refine Mg.know_sl (b := false) (sz := 1) (es := a0.map (Lv false 1 I)) 0 (by try simp only [↓RA,RB,RS, fx43,p1,p2,p3,p4,reduceIte,p5,p6,p7,p8]) fun hl0 => ?_; rw [List.length_map] at hl0
  replace h := run_loop h
  refine Mg.forN h (fun i3 s3 => [(0, .val (.pv (.sl false 1 (a0.map (Lv false 1 I))))), (3, .val (.pv (I s3))), (4, .val (.pv (I (i3 : Int))))]) (fun i3 s3 => []) (St.le_mk2 (by try simp only [↓RA,RB,RS, fx43,p1,p2,p3,p4,reduceIte,p5,p6,p7,p8])) (fun i3 s3 hi h => ?_) (fun s3 h => ?_)
  · have w3 := wrap_succ (i := i3) (by omega)
    try simp only [↓RA,RB,RS, fx43,p1,p2,p3,p4,reduceIte,p5,p6,p7,p8]
    refine CondH.tt (decide_eq_true (by omega)) (fun c1 => ?_)
    try simp only [↓RA,RB,RS, fx43,p1,p2,p3,p4,reduceIte,p5,p6,p7,p8, c1]
    replace h := run_loop h
    refine Mg.whileN h (fun s6 => [(0, .val (.pv (.sl false 1 (a0.map (Lv false 1 I))))), (3, .val (.pv (I s6.1))), (4, .val (.pv (I (i3 : Int)))), (5, .val (.pv (I s6.2)))]) (fun s6 => []) (St.le_mk2 (by try simp only [↓RA,RB,RS, fx43,p1,p2,p3,p4,reduceIte,p5,p6,p7,p8, c1])) (fun n6 s6 h => ?_)
    try simp only [↓RA,RB,RS, fx43,p1,p2,p3,p4,reduceIte,p5,p6,p7,p8, c1]
    obtain ⟨v15, hv15, h⟩ := run_bind h
    refine IdxH.mk (f := (Lv false 1 I)) hv15 ?_ ?_ <;> try simp only [↓RA,RB,RS, fx43,p1,p2,p3,p4,reduceIte,p5,p6,p7,p8, c1]
    refine CondH.mk (fun c2 => ?_) (fun c2 => ?_)
    · replace h := run_t c2 h
      try simp only [↓RA,RB,RS, fx43,p1,p2,p3,p4,reduceIte,p5,p6,p7,p8, c1, c2]
      obtain ⟨v24, hv24, h⟩ := run_bind h
      refine IdxH.mk (f := (Lv false 1 I)) hv24 ?_ ?_ <;> try simp only [↓RA,RB,RS, fx43,p1,p2,p3,p4,reduceIte,p5,p6,p7,p8, c1, c2]
      obtain ⟨v27, hv27, h⟩ := run_bind h
      refine IdxH.mk (f := I) hv27 ?_ ?_ <;> try simp only [↓RA,RB,RS, fx43,p1,p2,p3,p4,reduceIte,p5,p6,p7,p8, c1, c2]
      obtain ⟨v29, hv29, h⟩ := run_bind h
      refine CallH.mk [false] (spec_l15Abs_sat hv29) ?_ ?_ <;> try simp only [↓RA,RB,RS, fx43,p1,p2,p3,p4,reduceIte,p5,p6,p7,p8, c1, c2]
      obtain ⟨v30, hv30, h⟩ := run_bind h
      refine CallH.mk [false, false] (spec_l1Most_sat hv30) ?_ ?_ <;> try simp only [↓RA,RB,RS, fx43,p1,p2,p3,p4,reduceIte,p5,p6,p7,p8, c1, c2]
      have h := run_some h
      refine RdH.mk ⟨_, h, ?_⟩
      refine St.le_mk2 ?_
      try simp only [↓RA,RB,RS, fx43,p1,p2,p3,p4,reduceIte,p5,p6,p7,p8, c1, c2]
    · replace h := run_f c2 h
      try simp only [↓RA,RB,RS, fx43,p1,p2,p3,p4,reduceIte,p5,p6,p7,p8, c1, c2]
      have h := run_some h
      have h := run_some h
      refine RdH.mk ⟨_, h, ?_⟩
      refine St.le_mk2 ?_
      try simp only [↓RA,RB,RS, fx43,p1,p2,p3,p4,reduceIte,p5,p6,p7,p8, c1, c2, w3]
  · try simp only [↓RA,RB,RS, fx43,p1,p2,p3,p4,reduceIte,p5,p6,p7,p8]
    refine CondH.ff (decide_eq_false (by omega)) (fun c3 => ?_)
    try simp only [↓RA,RB,RS, fx43,p1,p2,p3,p4,reduceIte,p5,p6,p7,p8, c3]
    have h := run_some h
    obtain rfl : _ = r := h
    refine FinH.l ?_
    try simp only [↓RA,RB,RS, fx43,p1,p2,p3,p4,reduceIte,p5,p6,p7,p8, c3]

end Go.Proofs.YtkokcfphepmeeaaGreatDoor
