/- A part of the proof: lemmas only; nothing is claimed here beyond what each lemma says. -/
import Derived.Test.YtgbddapcjhgllaaGreatGm
import Derived.Test.YtgbddapcjhgllaaGreatGf
import Derived.Test.YtgbddapcjhgllaaGreatGsrt
import Derived.Test.YtgbddapcjhgllaaGreatGsrl
import Derived.Test.YtgbddapcjhgllaaGreatGlin
set_option linter.unusedSimpArgs false
set_option linter.unusedVariables false
set_option linter.defProp false
set_option maxRecDepth 4000
namespace Go.Proofs.YtgbddapcjhgllaaGreat
open Go.Av
set_option maxHeartbeats 4000000
open And renaming intro → A
open Nat renaming reduceLT → p1, reduceAdd → p2, reduceMul → p3, reduceEqDiff → p4, reduceBEq → p5, reduceLeDiff → p6, reduceSub → p7
open Int renaming reduceToNat → p8
def fx45 := A @TB3 <| @TB29
theorem szIntS_sat {a0 : List Int} {a1 : Int}  {r : Int} (h : szIntS a0 a1 = some r) : Sat Tryz.prog 45 [(.sl false 1 (a0.map I)), (I a1)] (I r) := by
  replace h := Run.of h
  unfold szIntS at h
  refine Sat.of_m (nt := 12) (rs := [.tmp 4]) (n := 100000) Tryz.func45 rfl rfl rfl rfl (by simp) ?_
  try simp only [↓RA,RB,RS, fx45,p1,p2,p3,p4,reduceIte,p5,p6,p7,p8]
  refine CondH.mk (fun c1 => ?_) (fun c1 => ?_)
  · replace h := run_t c1 h
    try simp only [↓RA,RB,RS, fx45,p1,p2,p3,p4,reduceIte,p5,p6,p7,p8, c1]
    have h := run_some h
    obtain rfl : _ = r := h
    refine FinH.l ?_
    try simp only [↓RA,RB,RS, fx45,p1,p2,p3,p4,reduceIte,p5,p6,p7,p8, c1]
  · replace h := run_f c1 h
    try simp only [↓RA,RB,RS, fx45,p1,p2,p3,p4,reduceIte,p5,p6,p7,p8, c1]
    have h := run_some h
    obtain rfl : _ = r := h
    refine FinH.l ?_
    try simp only [↓RA,RB,RS, fx45,p1,p2,p3,p4,reduceIte,p5,p6,p7,p8, c1]

def fx24 := A @TB3 <| A @TB9 <| A @TB29 <| @TB55
theorem szMajorant_sat {a0 : Majorant} {a1 : Int}  {r : Int} (h : szMajorant a0 a1 = some r) : Sat Tryz.prog 24 [((Majorant.pv false) a0), (I a1)] (I r) := by
  replace h := Run.of h
  unfold szMajorant at h
  refine Sat.of_m (nt := 19) (rs := [.tmp 4]) (n := 100000) Tryz.func24 rfl rfl rfl rfl (by simp) ?_
  try simp only [↓RA,RB,RS, fx24,p1,p2,p3,p4,reduceIte,p5,p6,p7,p8]
  repeat (first | with_reducible refine noR_and (by repeat (first | exact noR_empty _ _ | exact noR_nilS _ _ | refine noR_mk _ _ _ _ _ rfl ?_ | refine noR_mkS _ _ _ _ _ rfl ?_)) ?_ | with_reducible refine noC_and (by repeat (first | exact noC_empty _ _ (by try simp only [↓RA,RB,RS, fx24,p1,p2,p3,p4,reduceIte,p5,p6,p7,p8]) | exact noC_nilS _ _ (by try simp only [↓RA,RB,RS, fx24,p1,p2,p3,p4,reduceIte,p5,p6,p7,p8]) | refine noC_mk _ _ _ _ _ rfl ?_ | refine noC_mkS _ _ _ _ _ rfl ?_)) ?_ | with_reducible refine and_ac ?_ | with_reducible refine And.intro (a := _ = List.range _) (by rfl) ?_)
  refine CondH.mk (fun c1 => ?_) (fun c1 => ?_)
  · replace h := run_t c1 h
    try simp only [↓RA,RB,RS, fx24,p1,p2,p3,p4,reduceIte,p5,p6,p7,p8, c1]
    have h := run_some h
    obtain rfl : _ = r := h
    refine FinH.l ?_
    try simp only [↓RA,RB,RS, fx24,p1,p2,p3,p4,reduceIte,p5,p6,p7,p8, c1]
  · replace h := run_f c1 h
    try simp only [↓RA,RB,RS, fx24,p1,p2,p3,p4,reduceIte,p5,p6,p7,p8, c1]
    obtain ⟨v15, hv15, h⟩ := run_bind h
    refine CallH.mk [false, false] (szIntS_sat hv15) ?_ ?_ <;> try simp only [↓RA,RB,RS, fx24,p1,p2,p3,p4,reduceIte,p5,p6,p7,p8, c1]
    refine CondH.mk (fun c2 => ?_) (fun c2 => ?_)
    · replace h := run_t c2 h
      try simp only [↓RA,RB,RS, fx24,p1,p2,p3,p4,reduceIte,p5,p6,p7,p8, c1, c2]
      have h := run_some h
      obtain rfl : _ = r := h
      refine FinH.l ?_
      try simp only [↓RA,RB,RS, fx24,p1,p2,p3,p4,reduceIte,p5,p6,p7,p8, c1, c2]
    · replace h := run_f c2 h
      try simp only [↓RA,RB,RS, fx24,p1,p2,p3,p4,reduceIte,p5,p6,p7,p8, c1, c2]
      have h := run_some h
      obtain rfl : _ = r := h
      refine FinH.l ?_
      try simp only [↓RA,RB,RS, fx24,p1,p2,p3,p4,reduceIte,p5,p6,p7,p8, c1, c2]

def fx5 := A @TB3 <| A @TB22 <| @TB55
theorem szMajorantS_sat {a0 : List Majorant} {a1 : Int}  {r : Int} (h : szMajorantS a0 a1 = some r) : Sat Tryz.prog 5 [(.sl false 3 (a0.map (Majorant.pv false))), (I a1)] (I r) := by
  replace h := Run.of h
  unfold szMajorantS at h
  refine Sat.of_m (nt := 27) (rs := [.tmp 4]) (n := 100000) Tryz.func5 rfl rfl rfl rfl (by simp) ?_
  try simp only [↓RA,RB,RS, fx5,p1,p2,p3,p4,reduceIte,p5,p6,p7,p8]
  refine CondH.mk (fun c1 => ?_) (fun c1 => ?_)
  · replace h := run_t c1 h
    try simp only [↓RA,RB,RS, fx5,p1,p2,p3,p4,reduceIte,p5,p6,p7,p8, c1]
    have h := run_some h
    obtain rfl : _ = r := h
    refine FinH.l ?_
    try simp only [↓RA,RB,RS, fx5,p1,p2,p3,p4,reduceIte,p5,p6,p7,p8, c1]
  · replace h := run_f c1 h
    try simp only [↓RA,RB,RS, fx5,p1,p2,p3,p4,reduceIte,p5,p6,p7,p8, c1]
    refine Mg.know_sl (b := false) (sz := 3) (es := a0.map (Majorant.pv false)) 0 (by try simp only [↓RA,RB,RS, fx5,p1,p2,p3,p4,reduceIte,p5,p6,p7,p8, c1]) fun hl0 => ?_; rw [List.length_map] at hl0
    replace h := run_loop h
    refine Mg.forN h (fun i5 s5 => [(0, .val (.pv (.sl false 3 (a0.map (Majorant.pv false))))), (1, .val (.pv (I s5))), (5, .val (.pv (I (i5 : Int))))]) (fun i5 s5 => []) (St.le_mk2 (by try simp only [↓RA,RB,RS, fx5,p1,p2,p3,p4,reduceIte,p5,p6,p7,p8, c1])) (fun i5 s5 hi h => ?_) (fun s5 h => ?_)
    · have w5 := wrap_succ (i := i5) (by omega)
      try simp only [↓RA,RB,RS, fx5,p1,p2,p3,p4,reduceIte,p5,p6,p7,p8, c1]
      refine CondH.tt (decide_eq_true (by omega)) (fun c2 => ?_)
      try simp only [↓RA,RB,RS, fx5,p1,p2,p3,p4,reduceIte,p5,p6,p7,p8, c1, c2]
      obtain ⟨v20, hv20, h⟩ := run_bind h
      refine IdxH.mk (f := (Majorant.pv false)) hv20 ?_ ?_ <;> try simp only [↓RA,RB,RS, fx5,p1,p2,p3,p4,reduceIte,p5,p6,p7,p8, c1, c2]
      obtain ⟨v23, hv23, h⟩ := run_bind h
      refine CallH.mk [false, false] (szMajorant_sat hv23) ?_ ?_ <;> try simp only [↓RA,RB,RS, fx5,p1,p2,p3,p4,reduceIte,p5,p6,p7,p8, c1, c2]
      refine CondH.mk (fun c3 => ?_) (fun c3 => ?_)
      · replace h := run_t c3 h
        try simp only [↓RA,RB,RS, fx5,p1,p2,p3,p4,reduceIte,p5,p6,p7,p8, c1, c2, c3]
        have h := run_some h
        obtain rfl : _ = r := h
        refine FinH.l ?_
        try simp only [↓RA,RB,RS, fx5,p1,p2,p3,p4,reduceIte,p5,p6,p7,p8, c1, c2, c3]
      · replace h := run_f c3 h
        try simp only [↓RA,RB,RS, fx5,p1,p2,p3,p4,reduceIte,p5,p6,p7,p8, c1, c2, c3]
        have h := run_some h
        refine RdH.mk ⟨_, h, ?_⟩
        refine St.le_mk2 ?_
        try simp only [↓RA,RB,RS, fx5,p1,p2,p3,p4,reduceIte,p5,p6,p7,p8, c1, c2, c3, w5]
    · try simp only [↓RA,RB,RS, fx5,p1,p2,p3,p4,reduceIte,p5,p6,p7,p8, c1]
      refine CondH.ff (decide_eq_false (by omega)) (fun c4 => ?_)
      try simp only [↓RA,RB,RS, fx5,p1,p2,p3,p4,reduceIte,p5,p6,p7,p8, c1, c4]
      have h := run_some h
      obtain rfl : _ = r := h
      refine FinH.l ?_
      try simp only [↓RA,RB,RS, fx5,p1,p2,p3,p4,reduceIte,p5,p6,p7,p8, c1, c4]

def fx6 := A @TB3 <| A @TB9 <| A @TB23 <| @TB25
def fx18 := A @TB3 <| A @TB23 <| @TB25
theorem szTermN_sat (n : Nat) : (∀ (a0 : Term) (a1 : Int) (r : Int), szTermN n a0 a1 = some r → Sat Tryz.prog 6 [((Term.pv false) a0), (I a1)] (I r)) ∧ (∀ (a0 : List Term) (a1 : Int) (r : Int), szTermSN n a0 a1 = some r → Sat Tryz.prog 18 [(.sl false 2 (a0.map (Term.pv false))), (I a1)] (I r)) := by
  induction n with
  | zero => exact ⟨fun _ _ _ h => by simp [szTermN] at h, fun _ _ _ h => by simp [szTermSN] at h⟩
  | succ n ih =>
    refine ⟨fun a0 a1 r h => ?_, fun a0 a1 r h => ?_⟩
    · replace h := Run.of h
      rw [szTermN] at h
      refine Sat.of_m (nt := 19) (rs := [.tmp 4]) (n := 100000) Tryz.func6 rfl rfl rfl rfl (by simp) ?_
      try simp only [↓RA,RB,RS, fx6,p1,p2,p3,p4,reduceIte,p5,p6,p7,p8]
      repeat (first | with_reducible refine noR_and (by repeat (first | exact noR_empty _ _ | exact noR_nilS _ _ | refine noR_mk _ _ _ _ _ rfl ?_ | refine noR_mkS _ _ _ _ _ rfl ?_)) ?_ | with_reducible refine noC_and (by repeat (first | exact noC_empty _ _ (by try simp only [↓RA,RB,RS, fx6,p1,p2,p3,p4,reduceIte,p5,p6,p7,p8]) | exact noC_nilS _ _ (by try simp only [↓RA,RB,RS, fx6,p1,p2,p3,p4,reduceIte,p5,p6,p7,p8]) | refine noC_mk _ _ _ _ _ rfl ?_ | refine noC_mkS _ _ _ _ _ rfl ?_)) ?_ | with_reducible refine and_ac ?_ | with_reducible refine And.intro (a := _ = List.range _) (by rfl) ?_)
      refine CondH.mk (fun c1 => ?_) (fun c1 => ?_)
      · replace h := run_t c1 h
        try simp only [↓RA,RB,RS, fx6,p1,p2,p3,p4,reduceIte,p5,p6,p7,p8, c1]
        have h := run_some h
        obtain rfl : _ = r := h
        refine FinH.l ?_
        try simp only [↓RA,RB,RS, fx6,p1,p2,p3,p4,reduceIte,p5,p6,p7,p8, c1]
      · replace h := run_f c1 h
        try simp only [↓RA,RB,RS, fx6,p1,p2,p3,p4,reduceIte,p5,p6,p7,p8, c1]
        obtain ⟨v15, hv15, h⟩ := run_bind h
        refine CallH.mk [false, false] (ih.2 _ _ _ hv15) ?_ ?_ <;> try simp only [↓RA,RB,RS, fx6,p1,p2,p3,p4,reduceIte,p5,p6,p7,p8, c1]
        refine CondH.mk (fun c2 => ?_) (fun c2 => ?_)
        · replace h := run_t c2 h
          try simp only [↓RA,RB,RS, fx6,p1,p2,p3,p4,reduceIte,p5,p6,p7,p8, c1, c2]
          have h := run_some h
          obtain rfl : _ = r := h
          refine FinH.l ?_
          try simp only [↓RA,RB,RS, fx6,p1,p2,p3,p4,reduceIte,p5,p6,p7,p8, c1, c2]
        · replace h := run_f c2 h
          try simp only [↓RA,RB,RS, fx6,p1,p2,p3,p4,reduceIte,p5,p6,p7,p8, c1, c2]
          have h := run_some h
          obtain rfl : _ = r := h
          refine FinH.l ?_
          try simp only [↓RA,RB,RS, fx6,p1,p2,p3,p4,reduceIte,p5,p6,p7,p8, c1, c2]
    · replace h := Run.of h
      rw [szTermSN] at h
      refine Sat.of_m (nt := 27) (rs := [.tmp 4]) (n := 100000) Tryz.func18 rfl rfl rfl rfl (by simp) ?_
      try simp only [↓RA,RB,RS, fx18,p1,p2,p3,p4,reduceIte,p5,p6,p7,p8]
      refine CondH.mk (fun c1 => ?_) (fun c1 => ?_)
      · replace h := run_t c1 h
        try simp only [↓RA,RB,RS, fx18,p1,p2,p3,p4,reduceIte,p5,p6,p7,p8, c1]
        have h := run_some h
        obtain rfl : _ = r := h
        refine FinH.l ?_
        try simp only [↓RA,RB,RS, fx18,p1,p2,p3,p4,reduceIte,p5,p6,p7,p8, c1]
      · replace h := run_f c1 h
        try simp only [↓RA,RB,RS, fx18,p1,p2,p3,p4,reduceIte,p5,p6,p7,p8, c1]
        refine Mg.know_sl (b := false) (sz := 2) (es := a0.map (Term.pv false)) 0 (by try simp only [↓RA,RB,RS, fx18,p1,p2,p3,p4,reduceIte,p5,p6,p7,p8, c1]) fun hl0 => ?_; rw [List.length_map] at hl0
        replace h := run_loop h
        refine Mg.forN h (fun i5 s5 => [(0, .val (.pv (.sl false 2 (a0.map (Term.pv false))))), (1, .val (.pv (I s5))), (5, .val (.pv (I (i5 : Int))))]) (fun i5 s5 => []) (St.le_mk2 (by try simp only [↓RA,RB,RS, fx18,p1,p2,p3,p4,reduceIte,p5,p6,p7,p8, c1])) (fun i5 s5 hi h => ?_) (fun s5 h => ?_)
        · have w5 := wrap_succ (i := i5) (by omega)
          try simp only [↓RA,RB,RS, fx18,p1,p2,p3,p4,reduceIte,p5,p6,p7,p8, c1]
          refine CondH.tt (decide_eq_true (by omega)) (fun c2 => ?_)
          try simp only [↓RA,RB,RS, fx18,p1,p2,p3,p4,reduceIte,p5,p6,p7,p8, c1, c2]
          obtain ⟨v20, hv20, h⟩ := run_bind h
          refine IdxH.mk (f := (Term.pv false)) hv20 ?_ ?_ <;> try simp only [↓RA,RB,RS, fx18,p1,p2,p3,p4,reduceIte,p5,p6,p7,p8, c1, c2]
          obtain ⟨v23, hv23, h⟩ := run_bind h
          refine CallH.mk [false, false] (ih.1 _ _ _ hv23) ?_ ?_ <;> try simp only [↓RA,RB,RS, fx18,p1,p2,p3,p4,reduceIte,p5,p6,p7,p8, c1, c2]
          refine CondH.mk (fun c3 => ?_) (fun c3 => ?_)
          · replace h := run_t c3 h
            try simp only [↓RA,RB,RS, fx18,p1,p2,p3,p4,reduceIte,p5,p6,p7,p8, c1, c2, c3]
            have h := run_some h
            obtain rfl : _ = r := h
            refine FinH.l ?_
            try simp only [↓RA,RB,RS, fx18,p1,p2,p3,p4,reduceIte,p5,p6,p7,p8, c1, c2, c3]
          · replace h := run_f c3 h
            try simp only [↓RA,RB,RS, fx18,p1,p2,p3,p4,reduceIte,p5,p6,p7,p8, c1, c2, c3]
            have h := run_some h
            refine RdH.mk ⟨_, h, ?_⟩
            refine St.le_mk2 ?_
            try simp only [↓RA,RB,RS, fx18,p1,p2,p3,p4,reduceIte,p5,p6,p7,p8, c1, c2, c3, w5]
        · try simp only [↓RA,RB,RS, fx18,p1,p2,p3,p4,reduceIte,p5,p6,p7,p8, c1]
          refine CondH.ff (decide_eq_false (by omega)) (fun c4 => ?_)
          try simp only [↓RA,RB,RS, fx18,p1,p2,p3,p4,reduceIte,p5,p6,p7,p8, c1, c4]
          have h := run_some h
          obtain rfl : _ = r := h
          refine FinH.l ?_
          try simp only [↓RA,RB,RS, fx18,p1,p2,p3,p4,reduceIte,p5,p6,p7,p8, c1, c4]
theorem szTerm_sat {a0 : Term} {a1 : Int} {r : Int} (h : szTerm a0 a1 = some r) : Sat Tryz.prog 6 [((Term.pv false) a0), (I a1)] (I r) := by
  obtain ⟨n, hn⟩ := lim_some h
  exact (szTermN_sat n).1 _ _ _ hn
theorem szTermS_sat {a0 : List Term} {a1 : Int} {r : Int} (h : szTermS a0 a1 = some r) : Sat Tryz.prog 18 [(.sl false 2 (a0.map (Term.pv false))), (I a1)] (I r) := by
  obtain ⟨n, hn⟩ := lim_some h
  exact (szTermN_sat n).2 _ _ _ hn

def fx52 := A @TB3 <| @TB29
theorem toIntS_sat {a0 : List Int}  {r : List Int} (h : toIntS a0 = some r) : Sat Tryz.prog 52 [(.sl false 1 (a0.map I))] (.sl true 1 (r.map I)) := by
  replace h := Run.of h
  unfold toIntS at h
  refine Sat.of_m (nt := 22) (rs := [.tmp 2]) (n := 100000) Tryz.func52 rfl rfl rfl rfl (by simp) ?_
  try simp only [↓RA,RB,RS, fx52,p1,p2,p3,p4,reduceIte,p5,p6,p7,p8]
  obtain ⟨n7, hn7, h⟩ := run_bind h
  refine MknH.mk hn7 ?_
  try simp only [↓RA,RB,RS, fx52,p1,p2,p3,p4,reduceIte,p5,p6,p7,p8]
  repeat (first | with_reducible refine noR_and (by repeat (first | exact noR_empty _ _ | exact noR_nilS _ _ | refine noR_mk _ _ _ _ _ rfl ?_ | refine noR_mkS _ _ _ _ _ rfl ?_)) ?_ | with_reducible refine noC_and (by repeat (first | exact noC_empty _ _ (by try simp only [↓RA,RB,RS, fx52,p1,p2,p3,p4,reduceIte,p5,p6,p7,p8]) | exact noC_nilS _ _ (by try simp only [↓RA,RB,RS, fx52,p1,p2,p3,p4,reduceIte,p5,p6,p7,p8]) | refine noC_mk _ _ _ _ _ rfl ?_ | refine noC_mkS _ _ _ _ _ rfl ?_)) ?_ | with_reducible refine and_ac ?_ | with_reducible refine And.intro (a := _ = List.range _) (by rfl) ?_)
  refine Mg.know_sl (b := false) (sz := 1) (es := a0.map I) 0 (by try simp only [↓RA,RB,RS, fx52,p1,p2,p3,p4,reduceIte,p5,p6,p7,p8]) fun hl0 => ?_; rw [List.length_map] at hl0
  replace h := run_loop h
  refine Mg.forN h (fun i3 s3 => [(0, .val (.pv (.sl false 1 (a0.map I)))), (3, .val (.own 112)), (4, .val (.pv (I (i3 : Int))))]) (fun i3 s3 => [(112, (1, s3.map I))]) (St.le_mk2 (by try simp only [↓RA,RB,RS, fx52,p1,p2,p3,p4,reduceIte,p5,p6,p7,p8])) (fun i3 s3 hi h => ?_) (fun s3 h => ?_)
  · have w3 := wrap_succ (i := i3) (by omega)
    try simp only [↓RA,RB,RS, fx52,p1,p2,p3,p4,reduceIte,p5,p6,p7,p8]
    refine CondH.tt (decide_eq_true (by omega)) (fun c1 => ?_)
    try simp only [↓RA,RB,RS, fx52,p1,p2,p3,p4,reduceIte,p5,p6,p7,p8, c1]
    obtain ⟨v18, hv18, h⟩ := run_bind h
    refine IdxH.mk (f := I) hv18 ?_ ?_ <;> try simp only [↓RA,RB,RS, fx52,p1,p2,p3,p4,reduceIte,p5,p6,p7,p8, c1]
    obtain ⟨v20, hv20, h⟩ := run_bind h
    refine IdxH.mk (f := I) hv20 ?_ ?_ <;> try simp only [↓RA,RB,RS, fx52,p1,p2,p3,p4,reduceIte,p5,p6,p7,p8, c1]
    obtain ⟨w2, hw2, h⟩ := run_bind h
    refine EldH.mk (f := I) hw2 rfl ?_ ?_ <;> try simp only [↓RA,RB,RS, fx52,p1,p2,p3,p4,reduceIte,p5,p6,p7,p8, c1]
    have h := run_some h
    refine RdH.mk ⟨_, h, ?_⟩
    refine St.le_mk2 ?_
    try simp only [↓RA,RB,RS, fx52,p1,p2,p3,p4,reduceIte,p5,p6,p7,p8, c1, w3]
  · try simp only [↓RA,RB,RS, fx52,p1,p2,p3,p4,reduceIte,p5,p6,p7,p8]
    refine CondH.ff (decide_eq_false (by omega)) (fun c3 => ?_)
    try simp only [↓RA,RB,RS, fx52,p1,p2,p3,p4,reduceIte,p5,p6,p7,p8, c3]
    have h := run_some h
    obtain rfl : _ = r := h
    refine FinH.l ?_
    try simp only [↓RA,RB,RS, fx52,p1,p2,p3,p4,reduceIte,p5,p6,p7,p8, c3]

def fx28 := A @TB3 <| A @TB9 <| A @TB29 <| A @TB55 <| @TB58
theorem toMajorant_sat {a0 : Majorant}  {r : Majorant} (h : toMajorant a0 = some r) : Sat Tryz.prog 28 [((Majorant.pv false) a0)] ((Majorant.pv true) r) := by
  replace h := Run.of h
  unfold toMajorant at h
  refine Sat.of_m (nt := 15) (rs := [.cell 2 58]) (n := 100000) Tryz.func28 rfl rfl rfl rfl (by simp) ?_
  try simp only [↓RA,RB,RS, fx28,p1,p2,p3,p4,reduceIte,p5,p6,p7,p8]
  repeat (first | with_reducible refine noR_and (by repeat (first | exact noR_empty _ _ | exact noR_nilS _ _ | refine noR_mk _ _ _ _ _ rfl ?_ | refine noR_mkS _ _ _ _ _ rfl ?_)) ?_ | with_reducible refine noC_and (by repeat (first | exact noC_empty _ _ (by try simp only [↓RA,RB,RS, fx28,p1,p2,p3,p4,reduceIte,p5,p6,p7,p8]) | exact noC_nilS _ _ (by try simp only [↓RA,RB,RS, fx28,p1,p2,p3,p4,reduceIte,p5,p6,p7,p8]) | refine noC_mk _ _ _ _ _ rfl ?_ | refine noC_mkS _ _ _ _ _ rfl ?_)) ?_ | with_reducible refine and_ac ?_ | with_reducible refine And.intro (a := _ = List.range _) (by rfl) ?_)
  obtain ⟨v9, hv9, h⟩ := run_bind h
  refine CallH.mk [false] (toIntS_sat hv9) ?_ ?_ <;> try simp only [↓RA,RB,RS, fx28,p1,p2,p3,p4,reduceIte,p5,p6,p7,p8]
  repeat (first | with_reducible refine noR_and (by repeat (first | exact noR_empty _ _ | exact noR_nilS _ _ | refine noR_mk _ _ _ _ _ rfl ?_ | refine noR_mkS _ _ _ _ _ rfl ?_)) ?_ | with_reducible refine noC_and (by repeat (first | exact noC_empty _ _ (by try simp only [↓RA,RB,RS, fx28,p1,p2,p3,p4,reduceIte,p5,p6,p7,p8]) | exact noC_nilS _ _ (by try simp only [↓RA,RB,RS, fx28,p1,p2,p3,p4,reduceIte,p5,p6,p7,p8]) | refine noC_mk _ _ _ _ _ rfl ?_ | refine noC_mkS _ _ _ _ _ rfl ?_)) ?_ | with_reducible refine and_ac ?_ | with_reducible refine And.intro (a := _ = List.range _) (by rfl) ?_)
  have h := run_some h
  obtain rfl : _ = r := h
  refine FinH.l ?_
  try simp only [↓RA,RB,RS, fx28,p1,p2,p3,p4,reduceIte,p5,p6,p7,p8]

def fx8 := A @TB3 <| A @TB22 <| A @TB34 <| A @TB55 <| @TB58
theorem toMajorantS_sat {a0 : List Majorant}  {r : List Majorant} (h : toMajorantS a0 = some r) : Sat Tryz.prog 8 [(.sl false 3 (a0.map (Majorant.pv false)))] (.sl true 3 (r.map (Majorant.pv true))) := by
  replace h := Run.of h
  unfold toMajorantS at h
  refine Sat.of_m (nt := 23) (rs := [.tmp 2]) (n := 100000) Tryz.func8 rfl rfl rfl rfl (by simp) ?_
  try simp only [↓RA,RB,RS, fx8,p1,p2,p3,p4,reduceIte,p5,p6,p7,p8]
  obtain ⟨n7, hn7, h⟩ := run_bind h
  refine MknH.mk hn7 ?_
  try simp only [↓RA,RB,RS, fx8,p1,p2,p3,p4,reduceIte,p5,p6,p7,p8]
  repeat (first | with_reducible refine noR_and (by repeat (first | exact noR_empty _ _ | exact noR_nilS _ _ | refine noR_mk _ _ _ _ _ rfl ?_ | refine noR_mkS _ _ _ _ _ rfl ?_)) ?_ | with_reducible refine noC_and (by repeat (first | exact noC_empty _ _ (by try simp only [↓RA,RB,RS, fx8,p1,p2,p3,p4,reduceIte,p5,p6,p7,p8]) | exact noC_nilS _ _ (by try simp only [↓RA,RB,RS, fx8,p1,p2,p3,p4,reduceIte,p5,p6,p7,p8]) | refine noC_mk _ _ _ _ _ rfl ?_ | refine noC_mkS _ _ _ _ _ rfl ?_)) ?_ | with_reducible refine and_ac ?_ | with_reducible refine And.intro (a := _ = List.range _) (by rfl) ?_)
  refine Mg.know_sl (b := false) (sz := 3) (es := a0.map (Majorant.pv false)) 0 (by try simp only [↓RA,RB,RS, fx8,p1,p2,p3,p4,reduceIte,p5,p6,p7,p8]) fun hl0 => ?_; rw [List.length_map] at hl0
  replace h := run_loop h
  refine Mg.forN h (fun i3 s3 => [(0, .val (.pv (.sl false 3 (a0.map (Majorant.pv false))))), (3, .val (.own 112)), (4, .val (.pv (I (i3 : Int))))]) (fun i3 s3 => [(112, (3, s3.map (Majorant.pv true)))]) (St.le_mk2 (by try simp only [↓RA,RB,RS, fx8,p1,p2,p3,p4,reduceIte,p5,p6,p7,p8])) (fun i3 s3 hi h => ?_) (fun s3 h => ?_)
  · have w3 := wrap_succ (i := i3) (by omega)
    try simp only [↓RA,RB,RS, fx8,p1,p2,p3,p4,reduceIte,p5,p6,p7,p8]
    refine CondH.tt (decide_eq_true (by omega)) (fun c1 => ?_)
    try simp only [↓RA,RB,RS, fx8,p1,p2,p3,p4,reduceIte,p5,p6,p7,p8, c1]
    obtain ⟨v18, hv18, h⟩ := run_bind h
    refine IdxH.mk (f := (Majorant.pv false)) hv18 ?_ ?_ <;> try simp only [↓RA,RB,RS, fx8,p1,p2,p3,p4,reduceIte,p5,p6,p7,p8, c1]
    obtain ⟨v20, hv20, h⟩ := run_bind h
    refine CallH.mk [false] (toMajorant_sat hv20) ?_ ?_ <;> try simp only [↓RA,RB,RS, fx8,p1,p2,p3,p4,reduceIte,p5,p6,p7,p8, c1]
    repeat (first | with_reducible refine noR_and (by repeat (first | exact noR_empty _ _ | exact noR_nilS _ _ | refine noR_mk _ _ _ _ _ rfl ?_ | refine noR_mkS _ _ _ _ _ rfl ?_)) ?_ | with_reducible refine noC_and (by repeat (first | exact noC_empty _ _ (by try simp only [↓RA,RB,RS, fx8,p1,p2,p3,p4,reduceIte,p5,p6,p7,p8]) | exact noC_nilS _ _ (by try simp only [↓RA,RB,RS, fx8,p1,p2,p3,p4,reduceIte,p5,p6,p7,p8]) | refine noC_mk _ _ _ _ _ rfl ?_ | refine noC_mkS _ _ _ _ _ rfl ?_)) ?_ | with_reducible refine and_ac ?_ | with_reducible refine And.intro (a := _ = List.range _) (by rfl) ?_)
    obtain ⟨v21, hv21, h⟩ := run_bind h
    refine IdxH.mk (f := (Majorant.pv true)) hv21 ?_ ?_ <;> try simp only [↓RA,RB,RS, fx8,p1,p2,p3,p4,reduceIte,p5,p6,p7,p8, c1]
    obtain ⟨w2, hw2, h⟩ := run_bind h
    refine EldH.mk (f := (Majorant.pv true)) hw2 rfl ?_ ?_ <;> try simp only [↓RA,RB,RS, fx8,p1,p2,p3,p4,reduceIte,p5,p6,p7,p8, c1]
    have h := run_some h
    refine RdH.mk ⟨_, h, ?_⟩
    refine St.le_mk2 ?_
    try simp only [↓RA,RB,RS, fx8,p1,p2,p3,p4,reduceIte,p5,p6,p7,p8, c1, w3]
  · try simp only [↓RA,RB,RS, fx8,p1,p2,p3,p4,reduceIte,p5,p6,p7,p8]
    refine CondH.ff (decide_eq_false (by omega)) (fun c3 => ?_)
    try simp only [↓RA,RB,RS, fx8,p1,p2,p3,p4,reduceIte,p5,p6,p7,p8, c3]
    have h := run_some h
    obtain rfl : _ = r := h
    refine FinH.l ?_
    try simp only [↓RA,RB,RS, fx8,p1,p2,p3,p4,reduceIte,p5,p6,p7,p8, c3]

def fx9 := A @TB9 <| A @TB23 <| A @TB25 <| A @TB36 <| @TB38
def fx20 := A @TB3 <| A @TB23 <| A @TB25 <| A @TB36 <| @TB38
theorem toTermN_sat (n : Nat) : (∀ (a0 : Term) (r : Term), toTermN n a0 = some r → Sat Tryz.prog 9 [((Term.pv false) a0)] ((Term.pv true) r)) ∧ (∀ (a0 : List Term) (r : List Term), toTermSN n a0 = some r → Sat Tryz.prog 20 [(.sl false 2 (a0.map (Term.pv false)))] (.sl true 2 (r.map (Term.pv true)))) := by
  induction n with
  | zero => exact ⟨fun _ _ h => by simp [toTermN] at h, fun _ _ h => by simp [toTermSN] at h⟩
  | succ n ih =>
    refine ⟨fun a0 r h => ?_, fun a0 r h => ?_⟩
    · replace h := Run.of h
      rw [toTermN] at h
      refine Sat.of_m (nt := 12) (rs := [.cell 2 38]) (n := 100000) Tryz.func9 rfl rfl rfl rfl (by simp) ?_
      try simp only [↓RA,RB,RS, fx9,p1,p2,p3,p4,reduceIte,p5,p6,p7,p8]
      repeat (first | with_reducible refine noR_and (by repeat (first | exact noR_empty _ _ | exact noR_nilS _ _ | refine noR_mk _ _ _ _ _ rfl ?_ | refine noR_mkS _ _ _ _ _ rfl ?_)) ?_ | with_reducible refine noC_and (by repeat (first | exact noC_empty _ _ (by try simp only [↓RA,RB,RS, fx9,p1,p2,p3,p4,reduceIte,p5,p6,p7,p8]) | exact noC_nilS _ _ (by try simp only [↓RA,RB,RS, fx9,p1,p2,p3,p4,reduceIte,p5,p6,p7,p8]) | refine noC_mk _ _ _ _ _ rfl ?_ | refine noC_mkS _ _ _ _ _ rfl ?_)) ?_ | with_reducible refine and_ac ?_ | with_reducible refine And.intro (a := _ = List.range _) (by rfl) ?_)
      obtain ⟨v9, hv9, h⟩ := run_bind h
      refine CallH.mk [false] (ih.2 _ _ hv9) ?_ ?_ <;> try simp only [↓RA,RB,RS, fx9,p1,p2,p3,p4,reduceIte,p5,p6,p7,p8]
      repeat (first | with_reducible refine noR_and (by repeat (first | exact noR_empty _ _ | exact noR_nilS _ _ | refine noR_mk _ _ _ _ _ rfl ?_ | refine noR_mkS _ _ _ _ _ rfl ?_)) ?_ | with_reducible refine noC_and (by repeat (first | exact noC_empty _ _ (by try simp only [↓RA,RB,RS, fx9,p1,p2,p3,p4,reduceIte,p5,p6,p7,p8]) | exact noC_nilS _ _ (by try simp only [↓RA,RB,RS, fx9,p1,p2,p3,p4,reduceIte,p5,p6,p7,p8]) | refine noC_mk _ _ _ _ _ rfl ?_ | refine noC_mkS _ _ _ _ _ rfl ?_)) ?_ | with_reducible refine and_ac ?_ | with_reducible refine And.intro (a := _ = List.range _) (by rfl) ?_)
      have h := run_some h
      obtain rfl : _ = r := h
      refine FinH.l ?_
      try simp only [↓RA,RB,RS, fx9,p1,p2,p3,p4,reduceIte,p5,p6,p7,p8]
    · replace h := Run.of h
      rw [toTermSN] at h
      refine Sat.of_m (nt := 23) (rs := [.tmp 2]) (n := 100000) Tryz.func20 rfl rfl rfl rfl (by simp) ?_
      try simp only [↓RA,RB,RS, fx20,p1,p2,p3,p4,reduceIte,p5,p6,p7,p8]
      obtain ⟨n7, hn7, h⟩ := run_bind h
      refine MknH.mk hn7 ?_
      try simp only [↓RA,RB,RS, fx20,p1,p2,p3,p4,reduceIte,p5,p6,p7,p8]
      repeat (first | with_reducible refine noR_and (by repeat (first | exact noR_empty _ _ | exact noR_nilS _ _ | refine noR_mk _ _ _ _ _ rfl ?_ | refine noR_mkS _ _ _ _ _ rfl ?_)) ?_ | with_reducible refine noC_and (by repeat (first | exact noC_empty _ _ (by try simp only [↓RA,RB,RS, fx20,p1,p2,p3,p4,reduceIte,p5,p6,p7,p8]) | exact noC_nilS _ _ (by try simp only [↓RA,RB,RS, fx20,p1,p2,p3,p4,reduceIte,p5,p6,p7,p8]) | refine noC_mk _ _ _ _ _ rfl ?_ | refine noC_mkS _ _ _ _ _ rfl ?_)) ?_ | with_reducible refine and_ac ?_ | with_reducible refine And.intro (a := _ = List.range _) (by rfl) ?_)
      refine Mg.know_sl (b := false) (sz := 2) (es := a0.map (Term.pv false)) 0 (by try simp only [↓RA,RB,RS, fx20,p1,p2,p3,p4,reduceIte,p5,p6,p7,p8]) fun hl0 => ?_; rw [List.length_map] at hl0
      replace h := run_loop h
      refine Mg.forN h (fun i3 s3 => [(0, .val (.pv (.sl false 2 (a0.map (Term.pv false))))), (3, .val (.own 112)), (4, .val (.pv (I (i3 : Int))))]) (fun i3 s3 => [(112, (2, s3.map (Term.pv true)))]) (St.le_mk2 (by try simp only [↓RA,RB,RS, fx20,p1,p2,p3,p4,reduceIte,p5,p6,p7,p8])) (fun i3 s3 hi h => ?_) (fun s3 h => ?_)
      · have w3 := wrap_succ (i := i3) (by omega)
        try simp only [↓RA,RB,RS, fx20,p1,p2,p3,p4,reduceIte,p5,p6,p7,p8]
        refine CondH.tt (decide_eq_true (by omega)) (fun c1 => ?_)
        try simp only [↓RA,RB,RS, fx20,p1,p2,p3,p4,reduceIte,p5,p6,p7,p8, c1]
        obtain ⟨v18, hv18, h⟩ := run_bind h
        refine IdxH.mk (f := (Term.pv false)) hv18 ?_ ?_ <;> try simp only [↓RA,RB,RS, fx20,p1,p2,p3,p4,reduceIte,p5,p6,p7,p8, c1]
        obtain ⟨v20, hv20, h⟩ := run_bind h
        refine CallH.mk [false] (ih.1 _ _ hv20) ?_ ?_ <;> try simp only [↓RA,RB,RS, fx20,p1,p2,p3,p4,reduceIte,p5,p6,p7,p8, c1]
        repeat (first | with_reducible refine noR_and (by repeat (first | exact noR_empty _ _ | exact noR_nilS _ _ | refine noR_mk _ _ _ _ _ rfl ?_ | refine noR_mkS _ _ _ _ _ rfl ?_)) ?_ | with_reducible refine noC_and (by repeat (first | exact noC_empty _ _ (by try simp only [↓RA,RB,RS, fx20,p1,p2,p3,p4,reduceIte,p5,p6,p7,p8]) | exact noC_nilS _ _ (by try simp only [↓RA,RB,RS, fx20,p1,p2,p3,p4,reduceIte,p5,p6,p7,p8]) | refine noC_mk _ _ _ _ _ rfl ?_ | refine noC_mkS _ _ _ _ _ rfl ?_)) ?_ | with_reducible refine and_ac ?_ | with_reducible refine And.intro (a := _ = List.range _) (by rfl) ?_)
        obtain ⟨v21, hv21, h⟩ := run_bind h
        refine IdxH.mk (f := (Term.pv true)) hv21 ?_ ?_ <;> try simp only [↓RA,RB,RS, fx20,p1,p2,p3,p4,reduceIte,p5,p6,p7,p8, c1]
        obtain ⟨w2, hw2, h⟩ := run_bind h
        refine EldH.mk (f := (Term.pv true)) hw2 rfl ?_ ?_ <;> try simp only [↓RA,RB,RS, fx20,p1,p2,p3,p4,reduceIte,p5,p6,p7,p8, c1]
        have h := run_some h
        refine RdH.mk ⟨_, h, ?_⟩
        refine St.le_mk2 ?_
        try simp only [↓RA,RB,RS, fx20,p1,p2,p3,p4,reduceIte,p5,p6,p7,p8, c1, w3]
      · try simp only [↓RA,RB,RS, fx20,p1,p2,p3,p4,reduceIte,p5,p6,p7,p8]
        refine CondH.ff (decide_eq_false (by omega)) (fun c3 => ?_)
        try simp only [↓RA,RB,RS, fx20,p1,p2,p3,p4,reduceIte,p5,p6,p7,p8, c3]
        have h := run_some h
        obtain rfl : _ = r := h
        refine FinH.l ?_
        try simp only [↓RA,RB,RS, fx20,p1,p2,p3,p4,reduceIte,p5,p6,p7,p8, c3]
theorem toTerm_sat {a0 : Term} {r : Term} (h : toTerm a0 = some r) : Sat Tryz.prog 9 [((Term.pv false) a0)] ((Term.pv true) r) := by
  obtain ⟨n, hn⟩ := lim_some h
  exact (toTermN_sat n).1 _ _ hn
theorem toTermS_sat {a0 : List Term} {r : List Term} (h : toTermS a0 = some r) : Sat Tryz.prog 20 [(.sl false 2 (a0.map (Term.pv false)))] (.sl true 2 (r.map (Term.pv true))) := by
  obtain ⟨n, hn⟩ := lim_some h
  exact (toTermN_sat n).2 _ _ hn

def fx40 := @TB3
theorem spec_l1In_sat {a0 : Int} {a1 : Int} {a2 : Int}  {r : Bool} (h : spec_l1In a0 a1 a2 = some r) : Sat Tryz.prog 40 [(I a0), (I a1), (I a2)] (B r) := by
  replace h := Run.of h
  unfold spec_l1In at h
  refine Sat.of_m (nt := 15) (rs := [.tmp 6]) (n := 100000) Tryz.func40 rfl rfl rfl rfl (by simp) ?_
  try simp only [↓RA,RB,RS, fx40,p1,p2,p3,p4,reduceIte,p5,p6,p7,p8]
  refine CondH.mk (fun c1 => ?_) (fun c1 => ?_)
  · replace h := run_t c1 h
    try simp only [↓RA,RB,RS, fx40,p1,p2,p3,p4,reduceIte,p5,p6,p7,p8, c1]
    have h := run_some h
    obtain rfl : _ = r := h
    refine FinH.l ?_
    try simp only [↓RA,RB,RS, fx40,p1,p2,p3,p4,reduceIte,p5,p6,p7,p8, c1]
  · replace h := run_f c1 h
    try simp only [↓RA,RB,RS, fx40,p1,p2,p3,p4,reduceIte,p5,p6,p7,p8, c1]
    have h := run_some h
    obtain rfl : _ = r := h
    refine FinH.l ?_
    try simp only [↓RA,RB,RS, fx40,p1,p2,p3,p4,reduceIte,p5,p6,p7,p8, c1]

def fx66 := @TB5
theorem spec_l2Small_sat {a0 : Int}  {r : Bool} (h : spec_l2Small a0 = some r) : Sat Tryz.prog 66 [((Ik .u8) a0)] (B r) := by
  replace h := Run.of h
  unfold spec_l2Small at h
  refine Sat.of_m (nt := 17) (rs := [.tmp 2]) (n := 100000) Tryz.func66 rfl rfl rfl rfl (by simp) ?_
  try simp only [↓RA,RB,RS, fx66,p1,p2,p3,p4,reduceIte,p5,p6,p7,p8]
  refine CondH.mk (fun c1 => ?_) (fun c1 => ?_)
  · replace h := run_t c1 h
    try simp only [↓RA,RB,RS, fx66,p1,p2,p3,p4,reduceIte,p5,p6,p7,p8, c1]
    refine CondH.mk (fun c2 => ?_) (fun c2 => ?_)
    · replace h := run_t c2 h
      try simp only [↓RA,RB,RS, fx66,p1,p2,p3,p4,reduceIte,p5,p6,p7,p8, c1, c2]
      have h := run_some h
      obtain rfl : _ = r := h
      refine FinH.l ?_
      try simp only [↓RA,RB,RS, fx66,p1,p2,p3,p4,reduceIte,p5,p6,p7,p8, c1, c2]
    · replace h := run_f c2 h
      try simp only [↓RA,RB,RS, fx66,p1,p2,p3,p4,reduceIte,p5,p6,p7,p8, c1, c2]
      refine CondH.mk (fun c3 => ?_) (fun c3 => ?_)
      · replace h := run_t c3 h
        try simp only [↓RA,RB,RS, fx66,p1,p2,p3,p4,reduceIte,p5,p6,p7,p8, c1, c2, c3]
        have h := run_some h
        obtain rfl : _ = r := h
        refine FinH.l ?_
        try simp only [↓RA,RB,RS, fx66,p1,p2,p3,p4,reduceIte,p5,p6,p7,p8, c1, c2, c3]
      · replace h := run_f c3 h
        try simp only [↓RA,RB,RS, fx66,p1,p2,p3,p4,reduceIte,p5,p6,p7,p8, c1, c2, c3]
        have h := run_some h
        obtain rfl : _ = r := h
        refine FinH.l ?_
        try simp only [↓RA,RB,RS, fx66,p1,p2,p3,p4,reduceIte,p5,p6,p7,p8, c1, c2, c3]
  · replace h := run_f c1 h
    try simp only [↓RA,RB,RS, fx66,p1,p2,p3,p4,reduceIte,p5,p6,p7,p8, c1]
    refine CondH.mk (fun c4 => ?_) (fun c4 => ?_)
    · replace h := run_t c4 h
      try simp only [↓RA,RB,RS, fx66,p1,p2,p3,p4,reduceIte,p5,p6,p7,p8, c1, c4]
      have h := run_some h
      obtain rfl : _ = r := h
      refine FinH.l ?_
      try simp only [↓RA,RB,RS, fx66,p1,p2,p3,p4,reduceIte,p5,p6,p7,p8, c1, c4]
    · replace h := run_f c4 h
      try simp only [↓RA,RB,RS, fx66,p1,p2,p3,p4,reduceIte,p5,p6,p7,p8, c1, c4]
      have h := run_some h
      obtain rfl : _ = r := h
      refine FinH.l ?_
      try simp only [↓RA,RB,RS, fx66,p1,p2,p3,p4,reduceIte,p5,p6,p7,p8, c1, c4]

def fx46 := A @TB3 <| A @TB4 <| A @TB5 <| @TB9
theorem spec_l2Symbol_sat {a0 : ByteArray}  {r : Bool} (h : spec_l2Symbol a0 = some r) : Sat Tryz.prog 46 [(Sx a0)] (B r) := by
  replace h := Run.of h
  unfold spec_l2Symbol at h
  refine Sat.of_m (nt := 45) (rs := [.tmp 2]) (n := 100000) Tryz.func46 rfl rfl rfl rfl (by simp) ?_
  try simp only [↓RA,RB,RS, fx46,p1,p2,p3,p4,reduceIte,p5,p6,p7,p8]
  obtain ⟨v6, hv6, h⟩ := run_bind h
  refine CallH.mk [false, false, false] (spec_l1In_sat hv6) ?_ ?_ <;> try simp only [↓RA,RB,RS, fx46,p1,p2,p3,p4,reduceIte,p5,p6,p7,p8]
  refine CondH.mk (fun c1 => ?_) (fun c1 => ?_)
  · replace h := run_t c1 h
    try simp only [↓RA,RB,RS, fx46,p1,p2,p3,p4,reduceIte,p5,p6,p7,p8, c1]
    obtain ⟨v10, hv10, h⟩ := run_bind h
    refine SidxH.mk hv10 ?_
    try simp only [↓RA,RB,RS, fx46,p1,p2,p3,p4,reduceIte,p5,p6,p7,p8, c1]
    refine CondH.mk (fun c2 => ?_) (fun c2 => ?_)
    · replace h := run_t c2 h
      try simp only [↓RA,RB,RS, fx46,p1,p2,p3,p4,reduceIte,p5,p6,p7,p8, c1, c2]
      have h := run_some h
      obtain rfl : _ = r := h
      refine FinH.l ?_
      try simp only [↓RA,RB,RS, fx46,p1,p2,p3,p4,reduceIte,p5,p6,p7,p8, c1, c2]
    · replace h := run_f c2 h
      try simp only [↓RA,RB,RS, fx46,p1,p2,p3,p4,reduceIte,p5,p6,p7,p8, c1, c2]
      obtain ⟨v15, hv15, h⟩ := run_bind h
      refine SidxH.mk hv15 ?_
      try simp only [↓RA,RB,RS, fx46,p1,p2,p3,p4,reduceIte,p5,p6,p7,p8, c1, c2]
      refine CondH.mk (fun c3 => ?_) (fun c3 => ?_)
      · replace h := run_t c3 h
        try simp only [↓RA,RB,RS, fx46,p1,p2,p3,p4,reduceIte,p5,p6,p7,p8, c1, c2, c3]
        have h := run_some h
        obtain rfl : _ = r := h
        refine FinH.l ?_
        try simp only [↓RA,RB,RS, fx46,p1,p2,p3,p4,reduceIte,p5,p6,p7,p8, c1, c2, c3]
      · replace h := run_f c3 h
        try simp only [↓RA,RB,RS, fx46,p1,p2,p3,p4,reduceIte,p5,p6,p7,p8, c1, c2, c3]
        refine CondH.mk (fun c4 => ?_) (fun c4 => ?_)
        · replace h := run_t c4 h
          try simp only [↓RA,RB,RS, fx46,p1,p2,p3,p4,reduceIte,p5,p6,p7,p8, c1, c2, c3, c4]
          have h := run_some h
          obtain rfl : _ = r := h
          refine FinH.l ?_
          try simp only [↓RA,RB,RS, fx46,p1,p2,p3,p4,reduceIte,p5,p6,p7,p8, c1, c2, c3, c4]
        · replace h := run_f c4 h
          try simp only [↓RA,RB,RS, fx46,p1,p2,p3,p4,reduceIte,p5,p6,p7,p8, c1, c2, c3, c4]
          refine CondH.mk (fun c5 => ?_) (fun c5 => ?_)
          · replace h := run_t c5 h
            try simp only [↓RA,RB,RS, fx46,p1,p2,p3,p4,reduceIte,p5,p6,p7,p8, c1, c2, c3, c4, c5]
            have h := run_some h
            obtain rfl : _ = r := h
            refine FinH.l ?_
            try simp only [↓RA,RB,RS, fx46,p1,p2,p3,p4,reduceIte,p5,p6,p7,p8, c1, c2, c3, c4, c5]
          · replace h := run_f c5 h
            try simp only [↓RA,RB,RS, fx46,p1,p2,p3,p4,reduceIte,p5,p6,p7,p8, c1, c2, c3, c4, c5]
            refine CondH.mk (fun c6 => ?_) (fun c6 => ?_)
            · replace h := run_t c6 h
              try simp only [↓RA,RB,RS, fx46,p1,p2,p3,p4,reduceIte,p5,p6,p7,p8, c1, c2, c3, c4, c5, c6]
              have h := run_some h
              obtain rfl : _ = r := h
              refine FinH.l ?_
              try simp only [↓RA,RB,RS, fx46,p1,p2,p3,p4,reduceIte,p5,p6,p7,p8, c1, c2, c3, c4, c5, c6]
            · replace h := run_f c6 h
              try simp only [↓RA,RB,RS, fx46,p1,p2,p3,p4,reduceIte,p5,p6,p7,p8, c1, c2, c3, c4, c5, c6]
              refine CondH.mk (fun c7 => ?_) (fun c7 => ?_)
              · replace h := run_t c7 h
                try simp only [↓RA,RB,RS, fx46,p1,p2,p3,p4,reduceIte,p5,p6,p7,p8, c1, c2, c3, c4, c5, c6, c7]
                have h := run_some h
                obtain rfl : _ = r := h
                refine FinH.l ?_
                try simp only [↓RA,RB,RS, fx46,p1,p2,p3,p4,reduceIte,p5,p6,p7,p8, c1, c2, c3, c4, c5, c6, c7]
              · replace h := run_f c7 h
                try simp only [↓RA,RB,RS, fx46,p1,p2,p3,p4,reduceIte,p5,p6,p7,p8, c1, c2, c3, c4, c5, c6, c7]
                refine CondH.mk (fun c8 => ?_) (fun c8 => ?_)
                · replace h := run_t c8 h
                  try simp only [↓RA,RB,RS, fx46,p1,p2,p3,p4,reduceIte,p5,p6,p7,p8, c1, c2, c3, c4, c5, c6, c7, c8]
                  have h := run_some h
                  obtain rfl : _ = r := h
                  refine FinH.l ?_
                  try simp only [↓RA,RB,RS, fx46,p1,p2,p3,p4,reduceIte,p5,p6,p7,p8, c1, c2, c3, c4, c5, c6, c7, c8]
                · replace h := run_f c8 h
                  try simp only [↓RA,RB,RS, fx46,p1,p2,p3,p4,reduceIte,p5,p6,p7,p8, c1, c2, c3, c4, c5, c6, c7, c8]
                  refine CondH.mk (fun c9 => ?_) (fun c9 => ?_)
                  · replace h := run_t c9 h
                    try simp only [↓RA,RB,RS, fx46,p1,p2,p3,p4,reduceIte,p5,p6,p7,p8, c1, c2, c3, c4, c5, c6, c7, c8, c9]
                    have h := run_some h
                    obtain rfl : _ = r := h
                    refine FinH.l ?_
                    try simp only [↓RA,RB,RS, fx46,p1,p2,p3,p4,reduceIte,p5,p6,p7,p8, c1, c2, c3, c4, c5, c6, c7, c8, c9]
                  · replace h := run_f c9 h
                    try simp only [↓RA,RB,RS, fx46,p1,p2,p3,p4,reduceIte,p5,p6,p7,p8, c1, c2, c3, c4, c5, c6, c7, c8, c9]
                    refine CondH.mk (fun c10 => ?_) (fun c10 => ?_)
                    · replace h := run_t c10 h
                      try simp only [↓RA,RB,RS, fx46,p1,p2,p3,p4,reduceIte,p5,p6,p7,p8, c1, c2, c3, c4, c5, c6, c7, c8, c9, c10]
                      have h := run_some h
                      obtain rfl : _ = r := h
                      refine FinH.l ?_
                      try simp only [↓RA,RB,RS, fx46,p1,p2,p3,p4,reduceIte,p5,p6,p7,p8, c1, c2, c3, c4, c5, c6, c7, c8, c9, c10]
                    · replace h := run_f c10 h
                      try simp only [↓RA,RB,RS, fx46,p1,p2,p3,p4,reduceIte,p5,p6,p7,p8, c1, c2, c3, c4, c5, c6, c7, c8, c9, c10]
                      refine CondH.mk (fun c11 => ?_) (fun c11 => ?_)
                      · replace h := run_t c11 h
                        try simp only [↓RA,RB,RS, fx46,p1,p2,p3,p4,reduceIte,p5,p6,p7,p8, c1, c2, c3, c4, c5, c6, c7, c8, c9, c10, c11]
                        have h := run_some h
                        obtain rfl : _ = r := h
                        refine FinH.l ?_
                        try simp only [↓RA,RB,RS, fx46,p1,p2,p3,p4,reduceIte,p5,p6,p7,p8, c1, c2, c3, c4, c5, c6, c7, c8, c9, c10, c11]
                      · replace h := run_f c11 h
                        try simp only [↓RA,RB,RS, fx46,p1,p2,p3,p4,reduceIte,p5,p6,p7,p8, c1, c2, c3, c4, c5, c6, c7, c8, c9, c10, c11]
                        obtain ⟨N14, hN14, h⟩ := run_bind h
                        obtain ⟨hN14a, hN14b⟩ := bnd_some hN14
                        replace h := run_loop h
                        refine Mg.forA (N := N14) (a := 1) h (fun i14 s14 => [(0, .val (.pv (Sx a0))), (3, .val (.pv (I (i14 : Int))))]) (fun i14 s14 => []) (St.le_mk2 (by try simp only [↓RA,RB,RS, fx46,p1,p2,p3,p4,reduceIte,p5,p6,p7,p8, c1, c2, c3, c4, c5, c6, c7, c8, c9, c10, c11])) (fun i14 s14 hi hj h => ?_) (fun j14 s14 hj h => ?_)
                        · have w14 := wrap_succ (i := i14) (by omega)
                          try simp only [↓RA,RB,RS, fx46,p1,p2,p3,p4,reduceIte,p5,p6,p7,p8, c1, c2, c3, c4, c5, c6, c7, c8, c9, c10, c11]
                          refine CondH.tt (decide_eq_true (by omega)) (fun c12 => ?_)
                          try simp only [↓RA,RB,RS, fx46,p1,p2,p3,p4,reduceIte,p5,p6,p7,p8, c1, c2, c3, c4, c5, c6, c7, c8, c9, c10, c11, c12]
                          obtain ⟨v36, hv36, h⟩ := run_bind h
                          refine SidxH.mk hv36 ?_
                          try simp only [↓RA,RB,RS, fx46,p1,p2,p3,p4,reduceIte,p5,p6,p7,p8, c1, c2, c3, c4, c5, c6, c7, c8, c9, c10, c11, c12]
                          obtain ⟨v37, hv37, h⟩ := run_bind h
                          refine CallH.mk [false] (spec_l2Small_sat hv37) ?_ ?_ <;> try simp only [↓RA,RB,RS, fx46,p1,p2,p3,p4,reduceIte,p5,p6,p7,p8, c1, c2, c3, c4, c5, c6, c7, c8, c9, c10, c11, c12]
                          refine CondH.mk (fun c13 => ?_) (fun c13 => ?_)
                          · replace h := run_t c13 h
                            try simp only [↓RA,RB,RS, fx46,p1,p2,p3,p4,reduceIte,p5,p6,p7,p8, c1, c2, c3, c4, c5, c6, c7, c8, c9, c10, c11, c12, c13]
                            have h := run_some h
                            refine RdH.mk ⟨_, h, ?_⟩
                            refine St.le_mk2 ?_
                            try simp only [↓RA,RB,RS, fx46,p1,p2,p3,p4,reduceIte,p5,p6,p7,p8, c1, c2, c3, c4, c5, c6, c7, c8, c9, c10, c11, c12, c13, w14]
                          · replace h := run_f c13 h
                            try simp only [↓RA,RB,RS, fx46,p1,p2,p3,p4,reduceIte,p5,p6,p7,p8, c1, c2, c3, c4, c5, c6, c7, c8, c9, c10, c11, c12, c13]
                            obtain ⟨v42, hv42, h⟩ := run_bind h
                            refine SidxH.mk hv42 ?_
                            try simp only [↓RA,RB,RS, fx46,p1,p2,p3,p4,reduceIte,p5,p6,p7,p8, c1, c2, c3, c4, c5, c6, c7, c8, c9, c10, c11, c12, c13]
                            refine CondH.mk (fun c14 => ?_) (fun c14 => ?_)
                            · replace h := run_t c14 h
                              try simp only [↓RA,RB,RS, fx46,p1,p2,p3,p4,reduceIte,p5,p6,p7,p8, c1, c2, c3, c4, c5, c6, c7, c8, c9, c10, c11, c12, c13, c14]
                              have h := run_some h
                              refine RdH.mk ⟨_, h, ?_⟩
                              refine St.le_mk2 ?_
                              try simp only [↓RA,RB,RS, fx46,p1,p2,p3,p4,reduceIte,p5,p6,p7,p8, c1, c2, c3, c4, c5, c6, c7, c8, c9, c10, c11, c12, c13, c14, w14]
                            · replace h := run_f c14 h
                              try simp only [↓RA,RB,RS, fx46,p1,p2,p3,p4,reduceIte,p5,p6,p7,p8, c1, c2, c3, c4, c5, c6, c7, c8, c9, c10, c11, c12, c13, c14]
                              have h := run_some h
                              obtain rfl : _ = r := h
                              refine FinH.l ?_
                              try simp only [↓RA,RB,RS, fx46,p1,p2,p3,p4,reduceIte,p5,p6,p7,p8, c1, c2, c3, c4, c5, c6, c7, c8, c9, c10, c11, c12, c13, c14]
                        · try simp only [↓RA,RB,RS, fx46,p1,p2,p3,p4,reduceIte,p5,p6,p7,p8, c1, c2, c3, c4, c5, c6, c7, c8, c9, c10, c11]
                          refine CondH.ff (decide_eq_false (by omega)) (fun c15 => ?_)
                          try simp only [↓RA,RB,RS, fx46,p1,p2,p3,p4,reduceIte,p5,p6,p7,p8, c1, c2, c3, c4, c5, c6, c7, c8, c9, c10, c11, c15]
                          have h := run_some h
                          obtain rfl : _ = r := h
                          refine FinH.l ?_
                          try simp only [↓RA,RB,RS, fx46,p1,p2,p3,p4,reduceIte,p5,p6,p7,p8, c1, c2, c3, c4, c5, c6, c7, c8, c9, c10, c11, c15]
  · replace h := run_f c1 h
    try simp only [↓RA,RB,RS, fx46,p1,p2,p3,p4,reduceIte,p5,p6,p7,p8, c1]
    have h := run_some h
    obtain rfl : _ = r := h
    refine FinH.l ?_
    try simp only [↓RA,RB,RS, fx46,p1,p2,p3,p4,reduceIte,p5,p6,p7,p8, c1]

def fx25 := A @TB3 <| A @TB4 <| A @TB9 <| A @TB29 <| A @TB34 <| A @TB58 <| @mixedT
theorem spec_l25List_sat {a0 : List Majorant}  {r : Bool} (h : spec_l25List a0 = some r) : Sat Tryz.prog 25 [(.sl false 3 (a0.map (Majorant.pv false)))] (B r) := by
  replace h := Run.of h
  unfold spec_l25List at h
  refine Sat.of_m (nt := 86) (rs := [.tmp 2]) (n := 100000) Tryz.func25 rfl rfl rfl rfl (by simp) ?_
  try simp only [↓RA,RB,RS, fx25,p1,p2,p3,p4,reduceIte,p5,p6,p7,p8]
  refine CondH.mk (fun c1 => ?_) (fun c1 => ?_)
  · replace h := run_t c1 h
    try simp only [↓RA,RB,RS, fx25,p1,p2,p3,p4,reduceIte,p5,p6,p7,p8, c1]
    have h := run_some h
    obtain rfl : _ = r := h
    refine FinH.l ?_
    try simp only [↓RA,RB,RS, fx25,p1,p2,p3,p4,reduceIte,p5,p6,p7,p8, c1]
  · replace h := run_f c1 h
    try simp only [↓RA,RB,RS, fx25,p1,p2,p3,p4,reduceIte,p5,p6,p7,p8, c1]
    refine Mg.know_sl (b := false) (sz := 3) (es := a0.map (Majorant.pv false)) 0 (by try simp only [↓RA,RB,RS, fx25,p1,p2,p3,p4,reduceIte,p5,p6,p7,p8, c1]) fun hl0 => ?_; rw [List.length_map] at hl0
    replace h := run_loop h
    refine Mg.forN h (fun i4 s4 => [(0, .val (.pv (.sl false 3 (a0.map (Majorant.pv false))))), (3, .val (.pv (I (i4 : Int))))]) (fun i4 s4 => []) (St.le_mk2 (by try simp only [↓RA,RB,RS, fx25,p1,p2,p3,p4,reduceIte,p5,p6,p7,p8, c1])) (fun i4 s4 hi h => ?_) (fun s4 h => ?_)
    · have w4 := wrap_succ (i := i4) (by omega)
      try simp only [↓RA,RB,RS, fx25,p1,p2,p3,p4,reduceIte,p5,p6,p7,p8, c1]
      refine CondH.tt (decide_eq_true (by omega)) (fun c2 => ?_)
      try simp only [↓RA,RB,RS, fx25,p1,p2,p3,p4,reduceIte,p5,p6,p7,p8, c1, c2]
      obtain ⟨v17, hv17, h⟩ := run_bind h
      refine IdxH.mk (f := (Majorant.pv false)) hv17 ?_ ?_ <;> try simp only [↓RA,RB,RS, fx25,p1,p2,p3,p4,reduceIte,p5,p6,p7,p8, c1, c2]
      repeat (first | with_reducible refine noR_and (by repeat (first | exact noR_empty _ _ | exact noR_nilS _ _ | refine noR_mk _ _ _ _ _ rfl ?_ | refine noR_mkS _ _ _ _ _ rfl ?_)) ?_ | with_reducible refine noC_and (by repeat (first | exact noC_empty _ _ (by try simp only [↓RA,RB,RS, fx25,p1,p2,p3,p4,reduceIte,p5,p6,p7,p8]) | exact noC_nilS _ _ (by try simp only [↓RA,RB,RS, fx25,p1,p2,p3,p4,reduceIte,p5,p6,p7,p8]) | refine noC_mk _ _ _ _ _ rfl ?_ | refine noC_mkS _ _ _ _ _ rfl ?_)) ?_ | with_reducible refine and_ac ?_ | with_reducible refine And.intro (a := _ = List.range _) (by rfl) ?_)
      obtain ⟨v21, hv21, h⟩ := run_bind h
      refine CallH.mk [false] (spec_l2Symbol_sat hv21) ?_ ?_ <;> try simp only [↓RA,RB,RS, fx25,p1,p2,p3,p4,reduceIte,p5,p6,p7,p8, c1, c2]
      refine CondH.mk (fun c3 => ?_) (fun c3 => ?_)
      · replace h := run_t c3 h
        try simp only [↓RA,RB,RS, fx25,p1,p2,p3,p4,reduceIte,p5,p6,p7,p8, c1, c2, c3]
        refine CondH.mk (fun c4 => ?_) (fun c4 => ?_)
        · replace h := run_t c4 h
          try simp only [↓RA,RB,RS, fx25,p1,p2,p3,p4,reduceIte,p5,p6,p7,p8, c1, c2, c3, c4]
          have h := run_some h
          obtain rfl : _ = r := h
          refine FinH.l ?_
          try simp only [↓RA,RB,RS, fx25,p1,p2,p3,p4,reduceIte,p5,p6,p7,p8, c1, c2, c3, c4]
        · replace h := run_f c4 h
          try simp only [↓RA,RB,RS, fx25,p1,p2,p3,p4,reduceIte,p5,p6,p7,p8, c1, c2, c3, c4]
          obtain ⟨v32, hv32, h⟩ := run_bind h
          refine CallH.mk [false, false, false] (spec_l1In_sat hv32) ?_ ?_ <;> try simp only [↓RA,RB,RS, fx25,p1,p2,p3,p4,reduceIte,p5,p6,p7,p8, c1, c2, c3, c4]
          refine CondH.mk (fun c5 => ?_) (fun c5 => ?_)
          · replace h := run_t c5 h
            try simp only [↓RA,RB,RS, fx25,p1,p2,p3,p4,reduceIte,p5,p6,p7,p8, c1, c2, c3, c4, c5]
            refine Mg.know_sl (b := false) (sz := 1) (es := v17.Slopes.map I) 25 (by try simp only [↓RA,RB,RS, fx25,p1,p2,p3,p4,reduceIte,p5,p6,p7,p8, c1, c2, c3, c4, c5]) fun hl25 => ?_; rw [List.length_map] at hl25
            replace h := run_loop h
            refine Mg.forN h (fun i10 s10 => [(0, .val (.pv (.sl false 3 (a0.map (Majorant.pv false))))), (3, .val (.pv (I (i4 : Int)))), (4, .box (.pv ((Majorant.pv false) v17))), (5, .val (.pv (I (i10 : Int))))]) (fun i10 s10 => []) (St.le_mk2 (by try simp only [↓RA,RB,RS, fx25,p1,p2,p3,p4,reduceIte,p5,p6,p7,p8, c1, c2, c3, c4, c5])) (fun i10 s10 hi h => ?_) (fun s10 h => ?_)
            · have w10 := wrap_succ (i := i10) (by omega)
              try simp only [↓RA,RB,RS, fx25,p1,p2,p3,p4,reduceIte,p5,p6,p7,p8, c1, c2, c3, c4, c5]
              refine CondH.tt (decide_eq_true (by omega)) (fun c6 => ?_)
              try simp only [↓RA,RB,RS, fx25,p1,p2,p3,p4,reduceIte,p5,p6,p7,p8, c1, c2, c3, c4, c5, c6]
              obtain ⟨v45, hv45, h⟩ := run_bind h
              refine IdxH.mk (f := I) hv45 ?_ ?_ <;> try simp only [↓RA,RB,RS, fx25,p1,p2,p3,p4,reduceIte,p5,p6,p7,p8, c1, c2, c3, c4, c5, c6]
              obtain ⟨v47, hv47, h⟩ := run_bind h
              refine CallH.mk [false, false, false] (spec_l1In_sat hv47) ?_ ?_ <;> try simp only [↓RA,RB,RS, fx25,p1,p2,p3,p4,reduceIte,p5,p6,p7,p8, c1, c2, c3, c4, c5, c6]
              refine CondH.mk (fun c7 => ?_) (fun c7 => ?_)
              · replace h := run_t c7 h
                try simp only [↓RA,RB,RS, fx25,p1,p2,p3,p4,reduceIte,p5,p6,p7,p8, c1, c2, c3, c4, c5, c6, c7]
                have h := run_some h
                refine RdH.mk ⟨_, h, ?_⟩
                refine St.le_mk2 ?_
                try simp only [↓RA,RB,RS, fx25,p1,p2,p3,p4,reduceIte,p5,p6,p7,p8, c1, c2, c3, c4, c5, c6, c7, w10]
              · replace h := run_f c7 h
                try simp only [↓RA,RB,RS, fx25,p1,p2,p3,p4,reduceIte,p5,p6,p7,p8, c1, c2, c3, c4, c5, c6, c7]
                have h := run_some h
                obtain rfl : _ = r := h
                refine FinH.l ?_
                try simp only [↓RA,RB,RS, fx25,p1,p2,p3,p4,reduceIte,p5,p6,p7,p8, c1, c2, c3, c4, c5, c6, c7]
            · try simp only [↓RA,RB,RS, fx25,p1,p2,p3,p4,reduceIte,p5,p6,p7,p8, c1, c2, c3, c4, c5]
              refine CondH.ff (decide_eq_false (by omega)) (fun c8 => ?_)
              try simp only [↓RA,RB,RS, fx25,p1,p2,p3,p4,reduceIte,p5,p6,p7,p8, c1, c2, c3, c4, c5, c8]
              refine CondH.mk (fun c9 => ?_) (fun c9 => ?_)
              · replace h := run_t c9 h
                try simp only [↓RA,RB,RS, fx25,p1,p2,p3,p4,reduceIte,p5,p6,p7,p8, c1, c2, c3, c4, c5, c8, c9]
                obtain ⟨v55, hv55, h⟩ := run_bind h
                refine IdxH.mk (f := (Majorant.pv false)) hv55 ?_ ?_ <;> try simp only [↓RA,RB,RS, fx25,p1,p2,p3,p4,reduceIte,p5,p6,p7,p8, c1, c2, c3, c4, c5, c8, c9]
                refine CondH.mk (fun c10 => ?_) (fun c10 => ?_)
                · replace h := run_t c10 h
                  try simp only [↓RA,RB,RS, fx25,p1,p2,p3,p4,reduceIte,p5,p6,p7,p8, c1, c2, c3, c4, c5, c8, c9, c10]
                  obtain ⟨v65, hv65, h⟩ := run_bind h
                  refine IdxH.mk (f := (Majorant.pv false)) hv65 ?_ ?_ <;> try simp only [↓RA,RB,RS, fx25,p1,p2,p3,p4,reduceIte,p5,p6,p7,p8, c1, c2, c3, c4, c5, c8, c9, c10]
                  refine CondH.mk (fun c11 => ?_) (fun c11 => ?_)
                  · replace h := run_t c11 h
                    try simp only [↓RA,RB,RS, fx25,p1,p2,p3,p4,reduceIte,p5,p6,p7,p8, c1, c2, c3, c4, c5, c8, c9, c10, c11]
                    obtain ⟨v75, hv75, h⟩ := run_bind h
                    refine IdxH.mk (f := (Majorant.pv false)) hv75 ?_ ?_ <;> try simp only [↓RA,RB,RS, fx25,p1,p2,p3,p4,reduceIte,p5,p6,p7,p8, c1, c2, c3, c4, c5, c8, c9, c10, c11]
                    refine And.intro (DrawH.none (by rfl) (by first | rfl | (try simp only [↓RA,RB,RS, fx25,p1,p2,p3,p4,reduceIte,p5,p6,p7,p8] <;> rfl)) (by first | rfl | (try simp only [↓RA,RB,RS, fx25,p1,p2,p3,p4,reduceIte,p5,p6,p7,p8] <;> rfl)) (by first | rfl | (try simp only [↓RA,RB,RS, fx25,p1,p2,p3,p4,reduceIte,p5,p6,p7,p8] <;> rfl))) ?_
                    try simp only [↓RA,RB,RS, fx25,p1,p2,p3,p4,reduceIte,p5,p6,p7,p8, c1, c2, c3, c4, c5, c8, c9, c10, c11]
                    refine CondH.mk (fun c12 => ?_) (fun c12 => ?_)
                    · replace h := run_t c12 h
                      try simp only [↓RA,RB,RS, fx25,p1,p2,p3,p4,reduceIte,p5,p6,p7,p8, c1, c2, c3, c4, c5, c8, c9, c10, c11, c12]
                      have h := run_some h
                      obtain rfl : _ = r := h
                      refine FinH.l ?_
                      try simp only [↓RA,RB,RS, fx25,p1,p2,p3,p4,reduceIte,p5,p6,p7,p8, c1, c2, c3, c4, c5, c8, c9, c10, c11, c12]
                    · replace h := run_f c12 h
                      try simp only [↓RA,RB,RS, fx25,p1,p2,p3,p4,reduceIte,p5,p6,p7,p8, c1, c2, c3, c4, c5, c8, c9, c10, c11, c12]
                      have h := run_some h
                      refine RdH.mk ⟨_, h, ?_⟩
                      refine St.le_mk2 ?_
                      try simp only [↓RA,RB,RS, fx25,p1,p2,p3,p4,reduceIte,p5,p6,p7,p8, c1, c2, c3, c4, c5, c8, c9, c10, c11, c12, w4]
                  · replace h := run_f c11 h
                    try simp only [↓RA,RB,RS, fx25,p1,p2,p3,p4,reduceIte,p5,p6,p7,p8, c1, c2, c3, c4, c5, c8, c9, c10, c11]
                    refine And.intro (DrawH.none (by rfl) (by first | rfl | (try simp only [↓RA,RB,RS, fx25,p1,p2,p3,p4,reduceIte,p5,p6,p7,p8] <;> rfl)) (by first | rfl | (try simp only [↓RA,RB,RS, fx25,p1,p2,p3,p4,reduceIte,p5,p6,p7,p8] <;> rfl)) (by first | rfl | (try simp only [↓RA,RB,RS, fx25,p1,p2,p3,p4,reduceIte,p5,p6,p7,p8] <;> rfl))) ?_
                    try simp only [↓RA,RB,RS, fx25,p1,p2,p3,p4,reduceIte,p5,p6,p7,p8, c1, c2, c3, c4, c5, c8, c9, c10, c11]
                    have h := run_some h
                    refine RdH.mk ⟨_, h, ?_⟩
                    refine St.le_mk2 ?_
                    try simp only [↓RA,RB,RS, fx25,p1,p2,p3,p4,reduceIte,p5,p6,p7,p8, c1, c2, c3, c4, c5, c8, c9, c10, c11, w4]
                · replace h := run_f c10 h
                  try simp only [↓RA,RB,RS, fx25,p1,p2,p3,p4,reduceIte,p5,p6,p7,p8, c1, c2, c3, c4, c5, c8, c9, c10]
                  refine And.intro (DrawH.none (by rfl) (by first | rfl | (try simp only [↓RA,RB,RS, fx25,p1,p2,p3,p4,reduceIte,p5,p6,p7,p8] <;> rfl)) (by first | rfl | (try simp only [↓RA,RB,RS, fx25,p1,p2,p3,p4,reduceIte,p5,p6,p7,p8] <;> rfl)) (by first | rfl | (try simp only [↓RA,RB,RS, fx25,p1,p2,p3,p4,reduceIte,p5,p6,p7,p8] <;> rfl))) ?_
                  try simp only [↓RA,RB,RS, fx25,p1,p2,p3,p4,reduceIte,p5,p6,p7,p8, c1, c2, c3, c4, c5, c8, c9, c10]
                  have h := run_some h
                  obtain rfl : _ = r := h
                  refine FinH.l ?_
                  try simp only [↓RA,RB,RS, fx25,p1,p2,p3,p4,reduceIte,p5,p6,p7,p8, c1, c2, c3, c4, c5, c8, c9, c10]
              · replace h := run_f c9 h
                try simp only [↓RA,RB,RS, fx25,p1,p2,p3,p4,reduceIte,p5,p6,p7,p8, c1, c2, c3, c4, c5, c8, c9]
                refine And.intro (DrawH.none (by rfl) (by first | rfl | (try simp only [↓RA,RB,RS, fx25,p1,p2,p3,p4,reduceIte,p5,p6,p7,p8] <;> rfl)) (by first | rfl | (try simp only [↓RA,RB,RS, fx25,p1,p2,p3,p4,reduceIte,p5,p6,p7,p8] <;> rfl)) (by first | rfl | (try simp only [↓RA,RB,RS, fx25,p1,p2,p3,p4,reduceIte,p5,p6,p7,p8] <;> rfl))) ?_
                try simp only [↓RA,RB,RS, fx25,p1,p2,p3,p4,reduceIte,p5,p6,p7,p8, c1, c2, c3, c4, c5, c8, c9]
                have h := run_some h
                refine RdH.mk ⟨_, h, ?_⟩
                refine St.le_mk2 ?_
                try simp only [↓RA,RB,RS, fx25,p1,p2,p3,p4,reduceIte,p5,p6,p7,p8, c1, c2, c3, c4, c5, c8, c9, w4]
          · replace h := run_f c5 h
            try simp only [↓RA,RB,RS, fx25,p1,p2,p3,p4,reduceIte,p5,p6,p7,p8, c1, c2, c3, c4, c5]
            have h := run_some h
            obtain rfl : _ = r := h
            refine FinH.l ?_
            try simp only [↓RA,RB,RS, fx25,p1,p2,p3,p4,reduceIte,p5,p6,p7,p8, c1, c2, c3, c4, c5]
      · replace h := run_f c3 h
        try simp only [↓RA,RB,RS, fx25,p1,p2,p3,p4,reduceIte,p5,p6,p7,p8, c1, c2, c3]
        have h := run_some h
        obtain rfl : _ = r := h
        refine FinH.l ?_
        try simp only [↓RA,RB,RS, fx25,p1,p2,p3,p4,reduceIte,p5,p6,p7,p8, c1, c2, c3]
    · try simp only [↓RA,RB,RS, fx25,p1,p2,p3,p4,reduceIte,p5,p6,p7,p8, c1]
      refine CondH.ff (decide_eq_false (by omega)) (fun c13 => ?_)
      try simp only [↓RA,RB,RS, fx25,p1,p2,p3,p4,reduceIte,p5,p6,p7,p8, c1, c13]
      have h := run_some h
      obtain rfl : _ = r := h
      refine FinH.l ?_
      try simp only [↓RA,RB,RS, fx25,p1,p2,p3,p4,reduceIte,p5,p6,p7,p8, c1, c13]

def fx67 := A @TB3 <| A @TB36 <| @TB38
theorem spec_l2ManyN_sat (n : Nat) : (∀ (a0 : Term) (a1 : Int) (r : Int), spec_l2ManyN n a0 a1 = some r → Sat Tryz.prog 67 [((Term.pv false) a0), (I a1)] (I r)) := by
  induction n with
  | zero => exact fun _ _ _ h => by simp [spec_l2ManyN] at h
  | succ n ih =>
    refine fun a0 a1 r h => ?_
    replace h := Run.of h
    rw [spec_l2ManyN] at h
    refine Sat.of_m (nt := 31) (rs := [.tmp 4]) (n := 100000) Tryz.func67 rfl rfl rfl rfl (by simp) ?_
    try simp only [↓RA,RB,RS, fx67,p1,p2,p3,p4,reduceIte,p5,p6,p7,p8]
    repeat (first | with_reducible refine noR_and (by repeat (first | exact noR_empty _ _ | exact noR_nilS _ _ | refine noR_mk _ _ _ _ _ rfl ?_ | refine noR_mkS _ _ _ _ _ rfl ?_)) ?_ | with_reducible refine noC_and (by repeat (first | exact noC_empty _ _ (by try simp only [↓RA,RB,RS, fx67,p1,p2,p3,p4,reduceIte,p5,p6,p7,p8]) | exact noC_nilS _ _ (by try simp only [↓RA,RB,RS, fx67,p1,p2,p3,p4,reduceIte,p5,p6,p7,p8]) | refine noC_mk _ _ _ _ _ rfl ?_ | refine noC_mkS _ _ _ _ _ rfl ?_)) ?_ | with_reducible refine and_ac ?_ | with_reducible refine And.intro (a := _ = List.range _) (by rfl) ?_)
    refine Mg.know_val2 (b := false) (sz := 2) (es := a0.Args.map (Term.pv false)) (x := (.pv ((Term.pv false) a0))) 0 [1] (by try simp only [↓RA,RB,RS, fx67,p1,p2,p3,p4,reduceIte,p5,p6,p7,p8]) fun hl0 => ?_; rw [List.length_map] at hl0
    replace h := run_loop h
    refine Mg.forN h (fun i3 s3 => [(1, .val (.pv (I a1))), (2, .box (.pv ((Term.pv false) a0))), (5, .val (.pv (I s3))), (6, .val (.pv (I (i3 : Int))))]) (fun i3 s3 => []) (St.le_mk2 (by try simp only [↓RA,RB,RS, fx67,p1,p2,p3,p4,reduceIte,p5,p6,p7,p8])) (fun i3 s3 hi h => ?_) (fun s3 h => ?_)
    · have w3 := wrap_succ (i := i3) (by omega)
      try simp only [↓RA,RB,RS, fx67,p1,p2,p3,p4,reduceIte,p5,p6,p7,p8]
      refine CondH.tt (decide_eq_true (by omega)) (fun c1 => ?_)
      try simp only [↓RA,RB,RS, fx67,p1,p2,p3,p4,reduceIte,p5,p6,p7,p8, c1]
      refine CondH.mk (fun c2 => ?_) (fun c2 => ?_)
      · replace h := run_t c2 h
        try simp only [↓RA,RB,RS, fx67,p1,p2,p3,p4,reduceIte,p5,p6,p7,p8, c1, c2]
        obtain ⟨v23, hv23, h⟩ := run_bind h
        refine IdxH.mk (f := (Term.pv false)) hv23 ?_ ?_ <;> try simp only [↓RA,RB,RS, fx67,p1,p2,p3,p4,reduceIte,p5,p6,p7,p8, c1, c2]
        obtain ⟨v28, hv28, h⟩ := run_bind h
        refine CallH.mk [false, false] (ih _ _ _ hv28) ?_ ?_ <;> try simp only [↓RA,RB,RS, fx67,p1,p2,p3,p4,reduceIte,p5,p6,p7,p8, c1, c2]
        have h := run_some h
        refine RdH.mk ⟨_, h, ?_⟩
        refine St.le_mk2 ?_
        try simp only [↓RA,RB,RS, fx67,p1,p2,p3,p4,reduceIte,p5,p6,p7,p8, c1, c2, w3]
      · replace h := run_f c2 h
        try simp only [↓RA,RB,RS, fx67,p1,p2,p3,p4,reduceIte,p5,p6,p7,p8, c1, c2]
        have h := run_some h
        obtain rfl : _ = r := h
        refine FinH.l ?_
        try simp only [↓RA,RB,RS, fx67,p1,p2,p3,p4,reduceIte,p5,p6,p7,p8, c1, c2]
    · try simp only [↓RA,RB,RS, fx67,p1,p2,p3,p4,reduceIte,p5,p6,p7,p8]
      refine CondH.ff (decide_eq_false (by omega)) (fun c3 => ?_)
      try simp only [↓RA,RB,RS, fx67,p1,p2,p3,p4,reduceIte,p5,p6,p7,p8, c3]
      have h := run_some h
      obtain rfl : _ = r := h
      refine FinH.l ?_
      try simp only [↓RA,RB,RS, fx67,p1,p2,p3,p4,reduceIte,p5,p6,p7,p8, c3]
theorem spec_l2Many_sat {a0 : Term} {a1 : Int} {r : Int} (h : spec_l2Many a0 a1 = some r) : Sat Tryz.prog 67 [((Term.pv false) a0), (I a1)] (I r) := by
  obtain ⟨n, hn⟩ := lim_some h
  exact (spec_l2ManyN_sat n) _ _ _ hn

def fx64 := @TB3
theorem spec_l1Most_sat {a0 : Int} {a1 : Int}  {r : Int} (h : spec_l1Most a0 a1 = some r) : Sat Tryz.prog 64 [(I a0), (I a1)] (I r) := by
  replace h := Run.of h
  unfold spec_l1Most at h
  refine Sat.of_m (nt := 10) (rs := [.tmp 4]) (n := 100000) Tryz.func64 rfl rfl rfl rfl (by simp) ?_
  try simp only [↓RA,RB,RS, fx64,p1,p2,p3,p4,reduceIte,p5,p6,p7,p8]
  refine CondH.mk (fun c1 => ?_) (fun c1 => ?_)
  · replace h := run_t c1 h
    try simp only [↓RA,RB,RS, fx64,p1,p2,p3,p4,reduceIte,p5,p6,p7,p8, c1]
    have h := run_some h
    obtain rfl : _ = r := h
    refine FinH.l ?_
    try simp only [↓RA,RB,RS, fx64,p1,p2,p3,p4,reduceIte,p5,p6,p7,p8, c1]
  · replace h := run_f c1 h
    try simp only [↓RA,RB,RS, fx64,p1,p2,p3,p4,reduceIte,p5,p6,p7,p8, c1]
    have h := run_some h
    obtain rfl : _ = r := h
    refine FinH.l ?_
    try simp only [↓RA,RB,RS, fx64,p1,p2,p3,p4,reduceIte,p5,p6,p7,p8, c1]

def fx68 := A @TB3 <| A @TB36 <| @TB38
theorem spec_l2DepthN_sat (n : Nat) : (∀ (a0 : Term) (r : Int), spec_l2DepthN n a0 = some r → Sat Tryz.prog 68 [((Term.pv false) a0)] (I r)) := by
  induction n with
  | zero => exact fun _ _ h => by simp [spec_l2DepthN] at h
  | succ n ih =>
    refine fun a0 r h => ?_
    replace h := Run.of h
    rw [spec_l2DepthN] at h
    refine Sat.of_m (nt := 22) (rs := [.tmp 2]) (n := 100000) Tryz.func68 rfl rfl rfl rfl (by simp) ?_
    try simp only [↓RA,RB,RS, fx68,p1,p2,p3,p4,reduceIte,p5,p6,p7,p8]
    repeat (first | with_reducible refine noR_and (by repeat (first | exact noR_empty _ _ | exact noR_nilS _ _ | refine noR_mk _ _ _ _ _ rfl ?_ | refine noR_mkS _ _ _ _ _ rfl ?_)) ?_ | with_reducible refine noC_and (by repeat (first | exact noC_empty _ _ (by try simp only [↓RA,RB,RS, fx68,p1,p2,p3,p4,reduceIte,p5,p6,p7,p8]) | exact noC_nilS _ _ (by try simp only [↓RA,RB,RS, fx68,p1,p2,p3,p4,reduceIte,p5,p6,p7,p8]) | refine noC_mk _ _ _ _ _ rfl ?_ | refine noC_mkS _ _ _ _ _ rfl ?_)) ?_ | with_reducible refine and_ac ?_ | with_reducible refine And.intro (a := _ = List.range _) (by rfl) ?_)
    refine Mg.know_val2 (b := false) (sz := 2) (es := a0.Args.map (Term.pv false)) (x := (.pv ((Term.pv false) a0))) 0 [1] (by try simp only [↓RA,RB,RS, fx68,p1,p2,p3,p4,reduceIte,p5,p6,p7,p8]) fun hl0 => ?_; rw [List.length_map] at hl0
    replace h := run_loop h
    refine Mg.forN h (fun i3 s3 => [(1, .box (.pv ((Term.pv false) a0))), (3, .val (.pv (I s3))), (4, .val (.pv (I (i3 : Int))))]) (fun i3 s3 => []) (St.le_mk2 (by try simp only [↓RA,RB,RS, fx68,p1,p2,p3,p4,reduceIte,p5,p6,p7,p8])) (fun i3 s3 hi h => ?_) (fun s3 h => ?_)
    · have w3 := wrap_succ (i := i3) (by omega)
      try simp only [↓RA,RB,RS, fx68,p1,p2,p3,p4,reduceIte,p5,p6,p7,p8]
      refine CondH.tt (decide_eq_true (by omega)) (fun c1 => ?_)
      try simp only [↓RA,RB,RS, fx68,p1,p2,p3,p4,reduceIte,p5,p6,p7,p8, c1]
      obtain ⟨v16, hv16, h⟩ := run_bind h
      refine IdxH.mk (f := (Term.pv false)) hv16 ?_ ?_ <;> try simp only [↓RA,RB,RS, fx68,p1,p2,p3,p4,reduceIte,p5,p6,p7,p8, c1]
      obtain ⟨v18, hv18, h⟩ := run_bind h
      refine CallH.mk [false] (ih _ _ hv18) ?_ ?_ <;> try simp only [↓RA,RB,RS, fx68,p1,p2,p3,p4,reduceIte,p5,p6,p7,p8, c1]
      obtain ⟨v19, hv19, h⟩ := run_bind h
      refine CallH.mk [false, false] (spec_l1Most_sat hv19) ?_ ?_ <;> try simp only [↓RA,RB,RS, fx68,p1,p2,p3,p4,reduceIte,p5,p6,p7,p8, c1]
      have h := run_some h
      refine RdH.mk ⟨_, h, ?_⟩
      refine St.le_mk2 ?_
      try simp only [↓RA,RB,RS, fx68,p1,p2,p3,p4,reduceIte,p5,p6,p7,p8, c1, w3]
    · try simp only [↓RA,RB,RS, fx68,p1,p2,p3,p4,reduceIte,p5,p6,p7,p8]
      refine CondH.ff (decide_eq_false (by omega)) (fun c2 => ?_)
      try simp only [↓RA,RB,RS, fx68,p1,p2,p3,p4,reduceIte,p5,p6,p7,p8, c2]
      have h := run_some h
      obtain rfl : _ = r := h
      refine FinH.l ?_
      try simp only [↓RA,RB,RS, fx68,p1,p2,p3,p4,reduceIte,p5,p6,p7,p8, c2]
theorem spec_l2Depth_sat {a0 : Term} {r : Int} (h : spec_l2Depth a0 = some r) : Sat Tryz.prog 68 [((Term.pv false) a0)] (I r) := by
  obtain ⟨n, hn⟩ := lim_some h
  exact (spec_l2DepthN_sat n) _ _ hn

def fx47 := A @TB3 <| @TB38
theorem spec_l2Fits_sat {a0 : Term}  {r : Bool} (h : spec_l2Fits a0 = some r) : Sat Tryz.prog 47 [((Term.pv false) a0)] (B r) := by
  replace h := Run.of h
  unfold spec_l2Fits at h
  refine Sat.of_m (nt := 11) (rs := [.tmp 2]) (n := 100000) Tryz.func47 rfl rfl rfl rfl (by simp) ?_
  try simp only [↓RA,RB,RS, fx47,p1,p2,p3,p4,reduceIte,p5,p6,p7,p8]
  repeat (first | with_reducible refine noR_and (by repeat (first | exact noR_empty _ _ | exact noR_nilS _ _ | refine noR_mk _ _ _ _ _ rfl ?_ | refine noR_mkS _ _ _ _ _ rfl ?_)) ?_ | with_reducible refine noC_and (by repeat (first | exact noC_empty _ _ (by try simp only [↓RA,RB,RS, fx47,p1,p2,p3,p4,reduceIte,p5,p6,p7,p8]) | exact noC_nilS _ _ (by try simp only [↓RA,RB,RS, fx47,p1,p2,p3,p4,reduceIte,p5,p6,p7,p8]) | refine noC_mk _ _ _ _ _ rfl ?_ | refine noC_mkS _ _ _ _ _ rfl ?_)) ?_ | with_reducible refine and_ac ?_ | with_reducible refine And.intro (a := _ = List.range _) (by rfl) ?_)
  obtain ⟨v4, hv4, h⟩ := run_bind h
  refine CallH.mk [false, false] (spec_l2Many_sat hv4) ?_ ?_ <;> try simp only [↓RA,RB,RS, fx47,p1,p2,p3,p4,reduceIte,p5,p6,p7,p8]
  refine CondH.mk (fun c1 => ?_) (fun c1 => ?_)
  · replace h := run_t c1 h
    try simp only [↓RA,RB,RS, fx47,p1,p2,p3,p4,reduceIte,p5,p6,p7,p8, c1]
    obtain ⟨v8, hv8, h⟩ := run_bind h
    refine CallH.mk [false] (spec_l2Depth_sat hv8) ?_ ?_ <;> try simp only [↓RA,RB,RS, fx47,p1,p2,p3,p4,reduceIte,p5,p6,p7,p8, c1]
    have h := run_some h
    obtain rfl : _ = r := h
    refine FinH.l ?_
    try simp only [↓RA,RB,RS, fx47,p1,p2,p3,p4,reduceIte,p5,p6,p7,p8, c1]
  · replace h := run_f c1 h
    try simp only [↓RA,RB,RS, fx47,p1,p2,p3,p4,reduceIte,p5,p6,p7,p8, c1]
    have h := run_some h
    obtain rfl : _ = r := h
    refine FinH.l ?_
    try simp only [↓RA,RB,RS, fx47,p1,p2,p3,p4,reduceIte,p5,p6,p7,p8, c1]

def fx49 := A @TB3 <| A @TB4 <| A @TB5 <| @TB9
theorem spec_l2Var_sat {a0 : ByteArray}  {r : Bool} (h : spec_l2Var a0 = some r) : Sat Tryz.prog 49 [(Sx a0)] (B r) := by
  replace h := Run.of h
  unfold spec_l2Var at h
  refine Sat.of_m (nt := 29) (rs := [.tmp 2]) (n := 100000) Tryz.func49 rfl rfl rfl rfl (by simp) ?_
  try simp only [↓RA,RB,RS, fx49,p1,p2,p3,p4,reduceIte,p5,p6,p7,p8]
  obtain ⟨v6, hv6, h⟩ := run_bind h
  refine CallH.mk [false, false, false] (spec_l1In_sat hv6) ?_ ?_ <;> try simp only [↓RA,RB,RS, fx49,p1,p2,p3,p4,reduceIte,p5,p6,p7,p8]
  refine CondH.mk (fun c1 => ?_) (fun c1 => ?_)
  · replace h := run_t c1 h
    try simp only [↓RA,RB,RS, fx49,p1,p2,p3,p4,reduceIte,p5,p6,p7,p8, c1]
    obtain ⟨v10, hv10, h⟩ := run_bind h
    refine SidxH.mk hv10 ?_
    try simp only [↓RA,RB,RS, fx49,p1,p2,p3,p4,reduceIte,p5,p6,p7,p8, c1]
    refine CondH.mk (fun c2 => ?_) (fun c2 => ?_)
    · replace h := run_t c2 h
      try simp only [↓RA,RB,RS, fx49,p1,p2,p3,p4,reduceIte,p5,p6,p7,p8, c1, c2]
      have h := run_some h
      obtain rfl : _ = r := h
      refine FinH.l ?_
      try simp only [↓RA,RB,RS, fx49,p1,p2,p3,p4,reduceIte,p5,p6,p7,p8, c1, c2]
    · replace h := run_f c2 h
      try simp only [↓RA,RB,RS, fx49,p1,p2,p3,p4,reduceIte,p5,p6,p7,p8, c1, c2]
      obtain ⟨v15, hv15, h⟩ := run_bind h
      refine SidxH.mk hv15 ?_
      try simp only [↓RA,RB,RS, fx49,p1,p2,p3,p4,reduceIte,p5,p6,p7,p8, c1, c2]
      refine CondH.mk (fun c3 => ?_) (fun c3 => ?_)
      · replace h := run_t c3 h
        try simp only [↓RA,RB,RS, fx49,p1,p2,p3,p4,reduceIte,p5,p6,p7,p8, c1, c2, c3]
        have h := run_some h
        obtain rfl : _ = r := h
        refine FinH.l ?_
        try simp only [↓RA,RB,RS, fx49,p1,p2,p3,p4,reduceIte,p5,p6,p7,p8, c1, c2, c3]
      · replace h := run_f c3 h
        try simp only [↓RA,RB,RS, fx49,p1,p2,p3,p4,reduceIte,p5,p6,p7,p8, c1, c2, c3]
        obtain ⟨N4, hN4, h⟩ := run_bind h
        obtain ⟨hN4a, hN4b⟩ := bnd_some hN4
        replace h := run_loop h
        refine Mg.forA (N := N4) (a := 1) h (fun i4 s4 => [(0, .val (.pv (Sx a0))), (3, .val (.pv (I (i4 : Int))))]) (fun i4 s4 => []) (St.le_mk2 (by try simp only [↓RA,RB,RS, fx49,p1,p2,p3,p4,reduceIte,p5,p6,p7,p8, c1, c2, c3])) (fun i4 s4 hi hj h => ?_) (fun j4 s4 hj h => ?_)
        · have w4 := wrap_succ (i := i4) (by omega)
          try simp only [↓RA,RB,RS, fx49,p1,p2,p3,p4,reduceIte,p5,p6,p7,p8, c1, c2, c3]
          refine CondH.tt (decide_eq_true (by omega)) (fun c4 => ?_)
          try simp only [↓RA,RB,RS, fx49,p1,p2,p3,p4,reduceIte,p5,p6,p7,p8, c1, c2, c3, c4]
          obtain ⟨v26, hv26, h⟩ := run_bind h
          refine SidxH.mk hv26 ?_
          try simp only [↓RA,RB,RS, fx49,p1,p2,p3,p4,reduceIte,p5,p6,p7,p8, c1, c2, c3, c4]
          obtain ⟨v27, hv27, h⟩ := run_bind h
          refine CallH.mk [false] (spec_l2Small_sat hv27) ?_ ?_ <;> try simp only [↓RA,RB,RS, fx49,p1,p2,p3,p4,reduceIte,p5,p6,p7,p8, c1, c2, c3, c4]
          refine CondH.mk (fun c5 => ?_) (fun c5 => ?_)
          · replace h := run_t c5 h
            try simp only [↓RA,RB,RS, fx49,p1,p2,p3,p4,reduceIte,p5,p6,p7,p8, c1, c2, c3, c4, c5]
            have h := run_some h
            refine RdH.mk ⟨_, h, ?_⟩
            refine St.le_mk2 ?_
            try simp only [↓RA,RB,RS, fx49,p1,p2,p3,p4,reduceIte,p5,p6,p7,p8, c1, c2, c3, c4, c5, w4]
          · replace h := run_f c5 h
            try simp only [↓RA,RB,RS, fx49,p1,p2,p3,p4,reduceIte,p5,p6,p7,p8, c1, c2, c3, c4, c5]
            have h := run_some h
            obtain rfl : _ = r := h
            refine FinH.l ?_
            try simp only [↓RA,RB,RS, fx49,p1,p2,p3,p4,reduceIte,p5,p6,p7,p8, c1, c2, c3, c4, c5]
        · try simp only [↓RA,RB,RS, fx49,p1,p2,p3,p4,reduceIte,p5,p6,p7,p8, c1, c2, c3]
          refine CondH.ff (decide_eq_false (by omega)) (fun c6 => ?_)
          try simp only [↓RA,RB,RS, fx49,p1,p2,p3,p4,reduceIte,p5,p6,p7,p8, c1, c2, c3, c6]
          have h := run_some h
          obtain rfl : _ = r := h
          refine FinH.l ?_
          try simp only [↓RA,RB,RS, fx49,p1,p2,p3,p4,reduceIte,p5,p6,p7,p8, c1, c2, c3, c6]
  · replace h := run_f c1 h
    try simp only [↓RA,RB,RS, fx49,p1,p2,p3,p4,reduceIte,p5,p6,p7,p8, c1]
    have h := run_some h
    obtain rfl : _ = r := h
    refine FinH.l ?_
    try simp only [↓RA,RB,RS, fx49,p1,p2,p3,p4,reduceIte,p5,p6,p7,p8, c1]

def fx48 := A @TB3 <| A @TB4 <| A @TB9 <| A @TB36 <| @TB38
theorem spec_l2NodesN_sat (n : Nat) : (∀ (a0 : Term) (r : Bool), spec_l2NodesN n a0 = some r → Sat Tryz.prog 48 [((Term.pv false) a0)] (B r)) := by
  induction n with
  | zero => exact fun _ _ h => by simp [spec_l2NodesN] at h
  | succ n ih =>
    refine fun a0 r h => ?_
    replace h := Run.of h
    rw [spec_l2NodesN] at h
    refine Sat.of_m (nt := 35) (rs := [.tmp 2]) (n := 100000) Tryz.func48 rfl rfl rfl rfl (by simp) ?_
    try simp only [↓RA,RB,RS, fx48,p1,p2,p3,p4,reduceIte,p5,p6,p7,p8]
    repeat (first | with_reducible refine noR_and (by repeat (first | exact noR_empty _ _ | exact noR_nilS _ _ | refine noR_mk _ _ _ _ _ rfl ?_ | refine noR_mkS _ _ _ _ _ rfl ?_)) ?_ | with_reducible refine noC_and (by repeat (first | exact noC_empty _ _ (by try simp only [↓RA,RB,RS, fx48,p1,p2,p3,p4,reduceIte,p5,p6,p7,p8]) | exact noC_nilS _ _ (by try simp only [↓RA,RB,RS, fx48,p1,p2,p3,p4,reduceIte,p5,p6,p7,p8]) | refine noC_mk _ _ _ _ _ rfl ?_ | refine noC_mkS _ _ _ _ _ rfl ?_)) ?_ | with_reducible refine and_ac ?_ | with_reducible refine And.intro (a := _ = List.range _) (by rfl) ?_)
    obtain ⟨v6, hv6, h⟩ := run_bind h
    refine CallH.mk [false] (spec_l2Var_sat hv6) ?_ ?_ <;> try simp only [↓RA,RB,RS, fx48,p1,p2,p3,p4,reduceIte,p5,p6,p7,p8]
    refine CondH.mk (fun c1 => ?_) (fun c1 => ?_)
    · replace h := run_t c1 h
      try simp only [↓RA,RB,RS, fx48,p1,p2,p3,p4,reduceIte,p5,p6,p7,p8, c1]
      have h := run_some h
      obtain rfl : _ = r := h
      refine FinH.l ?_
      try simp only [↓RA,RB,RS, fx48,p1,p2,p3,p4,reduceIte,p5,p6,p7,p8, c1]
    · replace h := run_f c1 h
      try simp only [↓RA,RB,RS, fx48,p1,p2,p3,p4,reduceIte,p5,p6,p7,p8, c1]
      obtain ⟨v13, hv13, h⟩ := run_bind h
      refine CallH.mk [false] (spec_l2Symbol_sat hv13) ?_ ?_ <;> try simp only [↓RA,RB,RS, fx48,p1,p2,p3,p4,reduceIte,p5,p6,p7,p8, c1]
      refine CondH.mk (fun c2 => ?_) (fun c2 => ?_)
      · replace h := run_t c2 h
        try simp only [↓RA,RB,RS, fx48,p1,p2,p3,p4,reduceIte,p5,p6,p7,p8, c1, c2]
        refine CondH.mk (fun c3 => ?_) (fun c3 => ?_)
        · replace h := run_t c3 h
          try simp only [↓RA,RB,RS, fx48,p1,p2,p3,p4,reduceIte,p5,p6,p7,p8, c1, c2, c3]
          have h := run_some h
          obtain rfl : _ = r := h
          refine FinH.l ?_
          try simp only [↓RA,RB,RS, fx48,p1,p2,p3,p4,reduceIte,p5,p6,p7,p8, c1, c2, c3]
        · replace h := run_f c3 h
          try simp only [↓RA,RB,RS, fx48,p1,p2,p3,p4,reduceIte,p5,p6,p7,p8, c1, c2, c3]
          refine Mg.know_sl (b := false) (sz := 2) (es := a0.Args.map (Term.pv false)) 17 (by try simp only [↓RA,RB,RS, fx48,p1,p2,p3,p4,reduceIte,p5,p6,p7,p8, c1, c2, c3]) fun hl17 => ?_; rw [List.length_map] at hl17
          replace h := run_loop h
          refine Mg.forN h (fun i6 s6 => [(1, .box (.pv ((Term.pv false) a0))), (3, .val (.pv (I (i6 : Int))))]) (fun i6 s6 => []) (St.le_mk2 (by try simp only [↓RA,RB,RS, fx48,p1,p2,p3,p4,reduceIte,p5,p6,p7,p8, c1, c2, c3])) (fun i6 s6 hi h => ?_) (fun s6 h => ?_)
          · have w6 := wrap_succ (i := i6) (by omega)
            try simp only [↓RA,RB,RS, fx48,p1,p2,p3,p4,reduceIte,p5,p6,p7,p8, c1, c2, c3]
            refine CondH.tt (decide_eq_true (by omega)) (fun c4 => ?_)
            try simp only [↓RA,RB,RS, fx48,p1,p2,p3,p4,reduceIte,p5,p6,p7,p8, c1, c2, c3, c4]
            obtain ⟨v31, hv31, h⟩ := run_bind h
            refine IdxH.mk (f := (Term.pv false)) hv31 ?_ ?_ <;> try simp only [↓RA,RB,RS, fx48,p1,p2,p3,p4,reduceIte,p5,p6,p7,p8, c1, c2, c3, c4]
            obtain ⟨v33, hv33, h⟩ := run_bind h
            refine CallH.mk [false] (ih _ _ hv33) ?_ ?_ <;> try simp only [↓RA,RB,RS, fx48,p1,p2,p3,p4,reduceIte,p5,p6,p7,p8, c1, c2, c3, c4]
            refine CondH.mk (fun c5 => ?_) (fun c5 => ?_)
            · replace h := run_t c5 h
              try simp only [↓RA,RB,RS, fx48,p1,p2,p3,p4,reduceIte,p5,p6,p7,p8, c1, c2, c3, c4, c5]
              have h := run_some h
              refine RdH.mk ⟨_, h, ?_⟩
              refine St.le_mk2 ?_
              try simp only [↓RA,RB,RS, fx48,p1,p2,p3,p4,reduceIte,p5,p6,p7,p8, c1, c2, c3, c4, c5, w6]
            · replace h := run_f c5 h
              try simp only [↓RA,RB,RS, fx48,p1,p2,p3,p4,reduceIte,p5,p6,p7,p8, c1, c2, c3, c4, c5]
              have h := run_some h
              obtain rfl : _ = r := h
              refine FinH.l ?_
              try simp only [↓RA,RB,RS, fx48,p1,p2,p3,p4,reduceIte,p5,p6,p7,p8, c1, c2, c3, c4, c5]
          · try simp only [↓RA,RB,RS, fx48,p1,p2,p3,p4,reduceIte,p5,p6,p7,p8, c1, c2, c3]
            refine CondH.ff (decide_eq_false (by omega)) (fun c6 => ?_)
            try simp only [↓RA,RB,RS, fx48,p1,p2,p3,p4,reduceIte,p5,p6,p7,p8, c1, c2, c3, c6]
            have h := run_some h
            obtain rfl : _ = r := h
            refine FinH.l ?_
            try simp only [↓RA,RB,RS, fx48,p1,p2,p3,p4,reduceIte,p5,p6,p7,p8, c1, c2, c3, c6]
      · replace h := run_f c2 h
        try simp only [↓RA,RB,RS, fx48,p1,p2,p3,p4,reduceIte,p5,p6,p7,p8, c1, c2]
        have h := run_some h
        obtain rfl : _ = r := h
        refine FinH.l ?_
        try simp only [↓RA,RB,RS, fx48,p1,p2,p3,p4,reduceIte,p5,p6,p7,p8, c1, c2]
theorem spec_l2Nodes_sat {a0 : Term} {r : Bool} (h : spec_l2Nodes a0 = some r) : Sat Tryz.prog 48 [((Term.pv false) a0)] (B r) := by
  obtain ⟨n, hn⟩ := lim_some h
  exact (spec_l2NodesN_sat n) _ _ hn

def fx26 := @TB38
theorem spec_l2Good_sat {a0 : Term}  {r : Bool} (h : spec_l2Good a0 = some r) : Sat Tryz.prog 26 [((Term.pv false) a0)] (B r) := by
  replace h := Run.of h
  unfold spec_l2Good at h
  refine Sat.of_m (nt := 9) (rs := [.tmp 2]) (n := 100000) Tryz.func26 rfl rfl rfl rfl (by simp) ?_
  try simp only [↓RA,RB,RS, fx26,p1,p2,p3,p4,reduceIte,p5,p6,p7,p8]
  repeat (first | with_reducible refine noR_and (by repeat (first | exact noR_empty _ _ | exact noR_nilS _ _ | refine noR_mk _ _ _ _ _ rfl ?_ | refine noR_mkS _ _ _ _ _ rfl ?_)) ?_ | with_reducible refine noC_and (by repeat (first | exact noC_empty _ _ (by try simp only [↓RA,RB,RS, fx26,p1,p2,p3,p4,reduceIte,p5,p6,p7,p8]) | exact noC_nilS _ _ (by try simp only [↓RA,RB,RS, fx26,p1,p2,p3,p4,reduceIte,p5,p6,p7,p8]) | refine noC_mk _ _ _ _ _ rfl ?_ | refine noC_mkS _ _ _ _ _ rfl ?_)) ?_ | with_reducible refine and_ac ?_ | with_reducible refine And.intro (a := _ = List.range _) (by rfl) ?_)
  obtain ⟨v4, hv4, h⟩ := run_bind h
  refine CallH.mk [false] (spec_l2Fits_sat hv4) ?_ ?_ <;> try simp only [↓RA,RB,RS, fx26,p1,p2,p3,p4,reduceIte,p5,p6,p7,p8]
  refine CondH.mk (fun c1 => ?_) (fun c1 => ?_)
  · replace h := run_t c1 h
    try simp only [↓RA,RB,RS, fx26,p1,p2,p3,p4,reduceIte,p5,p6,p7,p8, c1]
    obtain ⟨v7, hv7, h⟩ := run_bind h
    refine CallH.mk [false] (spec_l2Nodes_sat hv7) ?_ ?_ <;> try simp only [↓RA,RB,RS, fx26,p1,p2,p3,p4,reduceIte,p5,p6,p7,p8, c1]
    have h := run_some h
    obtain rfl : _ = r := h
    refine FinH.l ?_
    try simp only [↓RA,RB,RS, fx26,p1,p2,p3,p4,reduceIte,p5,p6,p7,p8, c1]
  · replace h := run_f c1 h
    try simp only [↓RA,RB,RS, fx26,p1,p2,p3,p4,reduceIte,p5,p6,p7,p8, c1]
    have h := run_some h
    obtain rfl : _ = r := h
    refine FinH.l ?_
    try simp only [↓RA,RB,RS, fx26,p1,p2,p3,p4,reduceIte,p5,p6,p7,p8, c1]

def fx50 := A @TB3 <| A @TB9 <| A @TB29 <| A @TB34 <| @TB58
theorem spec_l25Find_sat {a0 : List Majorant} {a1 : ByteArray} {a2 : Int}  {r : Int} (h : spec_l25Find a0 a1 a2 = some r) : Sat Tryz.prog 50 [(.sl false 3 (a0.map (Majorant.pv false))), (Sx a1), (I a2)] (I r) := by
  replace h := Run.of h
  unfold spec_l25Find at h
  refine Sat.of_m (nt := 32) (rs := [.tmp 6]) (n := 100000) Tryz.func50 rfl rfl rfl rfl (by simp) ?_
  try simp only [↓RA,RB,RS, fx50,p1,p2,p3,p4,reduceIte,p5,p6,p7,p8]
  refine Mg.know_sl (b := false) (sz := 3) (es := a0.map (Majorant.pv false)) 0 (by try simp only [↓RA,RB,RS, fx50,p1,p2,p3,p4,reduceIte,p5,p6,p7,p8]) fun hl0 => ?_; rw [List.length_map] at hl0
  replace h := run_loop h
  refine Mg.forN h (fun i2 s2 => [(0, .val (.pv (.sl false 3 (a0.map (Majorant.pv false))))), (1, .val (.pv (Sx a1))), (2, .val (.pv (I a2))), (7, .val (.pv (I (i2 : Int))))]) (fun i2 s2 => []) (St.le_mk2 (by try simp only [↓RA,RB,RS, fx50,p1,p2,p3,p4,reduceIte,p5,p6,p7,p8])) (fun i2 s2 hi h => ?_) (fun s2 h => ?_)
  · have w2 := wrap_succ (i := i2) (by omega)
    try simp only [↓RA,RB,RS, fx50,p1,p2,p3,p4,reduceIte,p5,p6,p7,p8]
    refine CondH.tt (decide_eq_true (by omega)) (fun c1 => ?_)
    try simp only [↓RA,RB,RS, fx50,p1,p2,p3,p4,reduceIte,p5,p6,p7,p8, c1]
    obtain ⟨v16, hv16, h⟩ := run_bind h
    refine IdxH.mk (f := (Majorant.pv false)) hv16 ?_ ?_ <;> try simp only [↓RA,RB,RS, fx50,p1,p2,p3,p4,reduceIte,p5,p6,p7,p8, c1]
    refine CondH.mk (fun c2 => ?_) (fun c2 => ?_)
    · replace h := run_t c2 h
      try simp only [↓RA,RB,RS, fx50,p1,p2,p3,p4,reduceIte,p5,p6,p7,p8, c1, c2]
      obtain ⟨v24, hv24, h⟩ := run_bind h
      refine IdxH.mk (f := (Majorant.pv false)) hv24 ?_ ?_ <;> try simp only [↓RA,RB,RS, fx50,p1,p2,p3,p4,reduceIte,p5,p6,p7,p8, c1, c2]
      refine CondH.mk (fun c3 => ?_) (fun c3 => ?_)
      · replace h := run_t c3 h
        try simp only [↓RA,RB,RS, fx50,p1,p2,p3,p4,reduceIte,p5,p6,p7,p8, c1, c2, c3]
        have h := run_some h
        obtain rfl : _ = r := h
        refine FinH.l ?_
        try simp only [↓RA,RB,RS, fx50,p1,p2,p3,p4,reduceIte,p5,p6,p7,p8, c1, c2, c3]
      · replace h := run_f c3 h
        try simp only [↓RA,RB,RS, fx50,p1,p2,p3,p4,reduceIte,p5,p6,p7,p8, c1, c2, c3]
        have h := run_some h
        refine RdH.mk ⟨_, h, ?_⟩
        refine St.le_mk2 ?_
        try simp only [↓RA,RB,RS, fx50,p1,p2,p3,p4,reduceIte,p5,p6,p7,p8, c1, c2, c3, w2]
    · replace h := run_f c2 h
      try simp only [↓RA,RB,RS, fx50,p1,p2,p3,p4,reduceIte,p5,p6,p7,p8, c1, c2]
      have h := run_some h
      refine RdH.mk ⟨_, h, ?_⟩
      refine St.le_mk2 ?_
      try simp only [↓RA,RB,RS, fx50,p1,p2,p3,p4,reduceIte,p5,p6,p7,p8, c1, c2, w2]
  · try simp only [↓RA,RB,RS, fx50,p1,p2,p3,p4,reduceIte,p5,p6,p7,p8]
    refine CondH.ff (decide_eq_false (by omega)) (fun c4 => ?_)
    try simp only [↓RA,RB,RS, fx50,p1,p2,p3,p4,reduceIte,p5,p6,p7,p8, c4]
    have h := run_some h
    obtain rfl : _ = r := h
    refine FinH.l ?_
    try simp only [↓RA,RB,RS, fx50,p1,p2,p3,p4,reduceIte,p5,p6,p7,p8, c4]

def fx87 := A @TB3 <| A @TB9 <| A @TB28 <| @mixedT
theorem spec_l2Put_sat {a0 : List ByteArray} {a1 : ByteArray}  {r : List ByteArray} (h : spec_l2Put a0 a1 = some r) : Sat Tryz.prog 87 [(.sl false 1 (a0.map Sx)), (Sx a1)] (.sl false 1 (r.map Sx)) := by
  replace h := Run.of h
  unfold spec_l2Put at h
  refine Sat.of_m (nt := 45) (rs := [.tmp 4]) (n := 100000) Tryz.func87 rfl rfl rfl rfl (by simp) ?_
  try simp only [↓RA,RB,RS, fx87,p1,p2,p3,p4,reduceIte,p5,p6,p7,p8]
  refine Mg.know_sl (b := false) (sz := 1) (es := a0.map Sx) 0 (by try simp only [↓RA,RB,RS, fx87,p1,p2,p3,p4,reduceIte,p5,p6,p7,p8]) fun hl0 => ?_; rw [List.length_map] at hl0
  replace h := run_loop h
  refine Mg.forN h (fun i2 s2 => [(0, .val (.pv (.sl false 1 (a0.map Sx)))), (1, .val (.pv (Sx a1))), (5, .val (.pv (I (i2 : Int))))]) (fun i2 s2 => []) (St.le_mk2 (by try simp only [↓RA,RB,RS, fx87,p1,p2,p3,p4,reduceIte,p5,p6,p7,p8])) (fun i2 s2 hi h => ?_) (fun s2 h => ?_)
  · have w2 := wrap_succ (i := i2) (by omega)
    try simp only [↓RA,RB,RS, fx87,p1,p2,p3,p4,reduceIte,p5,p6,p7,p8]
    refine CondH.tt (decide_eq_true (by omega)) (fun c1 => ?_)
    try simp only [↓RA,RB,RS, fx87,p1,p2,p3,p4,reduceIte,p5,p6,p7,p8, c1]
    obtain ⟨v13, hv13, h⟩ := run_bind h
    refine IdxH.mk (f := Sx) hv13 ?_ ?_ <;> try simp only [↓RA,RB,RS, fx87,p1,p2,p3,p4,reduceIte,p5,p6,p7,p8, c1]
    refine CondH.mk (fun c2 => ?_) (fun c2 => ?_)
    · replace h := run_t c2 h
      try simp only [↓RA,RB,RS, fx87,p1,p2,p3,p4,reduceIte,p5,p6,p7,p8, c1, c2]
      have h := run_some h
      refine RdH.mk ⟨_, h, ?_⟩
      refine St.le_mk2 ?_
      try simp only [↓RA,RB,RS, fx87,p1,p2,p3,p4,reduceIte,p5,p6,p7,p8, c1, c2, w2]
    · replace h := run_f c2 h
      try simp only [↓RA,RB,RS, fx87,p1,p2,p3,p4,reduceIte,p5,p6,p7,p8, c1, c2]
      obtain ⟨v27, hv27, h⟩ := run_bind h
      refine IdxH.mk (f := Sx) hv27 ?_ ?_ <;> try simp only [↓RA,RB,RS, fx87,p1,p2,p3,p4,reduceIte,p5,p6,p7,p8, c1, c2]
      refine CondH.mk (fun c3 => ?_) (fun c3 => ?_)
      · replace h := run_t c3 h
        try simp only [↓RA,RB,RS, fx87,p1,p2,p3,p4,reduceIte,p5,p6,p7,p8, c1, c2, c3]
        have h := run_some h
        obtain rfl : _ = r := h
        refine FinH.r ?_
        try simp only [↓RA,RB,RS, fx87,p1,p2,p3,p4,reduceIte,p5,p6,p7,p8, c1, c2, c3]
      · replace h := run_f c3 h
        try simp only [↓RA,RB,RS, fx87,p1,p2,p3,p4,reduceIte,p5,p6,p7,p8, c1, c2, c3]
        repeat (first | with_reducible refine noR_and (by repeat (first | exact noR_empty _ _ | exact noR_nilS _ _ | refine noR_mk _ _ _ _ _ rfl ?_ | refine noR_mkS _ _ _ _ _ rfl ?_)) ?_ | with_reducible refine noC_and (by repeat (first | exact noC_empty _ _ (by try simp only [↓RA,RB,RS, fx87,p1,p2,p3,p4,reduceIte,p5,p6,p7,p8]) | exact noC_nilS _ _ (by try simp only [↓RA,RB,RS, fx87,p1,p2,p3,p4,reduceIte,p5,p6,p7,p8]) | refine noC_mk _ _ _ _ _ rfl ?_ | refine noC_mkS _ _ _ _ _ rfl ?_)) ?_ | with_reducible refine and_ac ?_ | with_reducible refine And.intro (a := _ = List.range _) (by rfl) ?_)
        obtain ⟨v36, hv36, h⟩ := run_bind h
        refine SlcH.mk (f := Sx) hv36 ?_ ?_ <;> try simp only [↓RA,RB,RS, fx87,p1,p2,p3,p4,reduceIte,p5,p6,p7,p8, c1, c2, c3]
        obtain ⟨v37, hv37, h⟩ := run_bind h
        refine AppH.mk (f := Sx) (fun _ => rfl) hv37 ?_ ?_ ?_ <;> try simp only [↓RA,RB,RS, fx87,p1,p2,p3,p4,reduceIte,p5,p6,p7,p8, c1, c2, c3]
        repeat (first | with_reducible refine noR_and (by repeat (first | exact noR_empty _ _ | exact noR_nilS _ _ | refine noR_mk _ _ _ _ _ rfl ?_ | refine noR_mkS _ _ _ _ _ rfl ?_)) ?_ | with_reducible refine noC_and (by repeat (first | exact noC_empty _ _ (by try simp only [↓RA,RB,RS, fx87,p1,p2,p3,p4,reduceIte,p5,p6,p7,p8]) | exact noC_nilS _ _ (by try simp only [↓RA,RB,RS, fx87,p1,p2,p3,p4,reduceIte,p5,p6,p7,p8]) | refine noC_mk _ _ _ _ _ rfl ?_ | refine noC_mkS _ _ _ _ _ rfl ?_)) ?_ | with_reducible refine and_ac ?_ | with_reducible refine And.intro (a := _ = List.range _) (by rfl) ?_)
        obtain ⟨v40, hv40, h⟩ := run_bind h
        refine AppH.mk (f := Sx) (fun _ => rfl) hv40 ?_ ?_ ?_ <;> try simp only [↓RA,RB,RS, fx87,p1,p2,p3,p4,reduceIte,p5,p6,p7,p8, c1, c2, c3]
        repeat (first | with_reducible refine noR_and (by repeat (first | exact noR_empty _ _ | exact noR_nilS _ _ | refine noR_mk _ _ _ _ _ rfl ?_ | refine noR_mkS _ _ _ _ _ rfl ?_)) ?_ | with_reducible refine noC_and (by repeat (first | exact noC_empty _ _ (by try simp only [↓RA,RB,RS, fx87,p1,p2,p3,p4,reduceIte,p5,p6,p7,p8]) | exact noC_nilS _ _ (by try simp only [↓RA,RB,RS, fx87,p1,p2,p3,p4,reduceIte,p5,p6,p7,p8]) | refine noC_mk _ _ _ _ _ rfl ?_ | refine noC_mkS _ _ _ _ _ rfl ?_)) ?_ | with_reducible refine and_ac ?_ | with_reducible refine And.intro (a := _ = List.range _) (by rfl) ?_)
        obtain ⟨v43, hv43, h⟩ := run_bind h
        refine SlcH.mk (f := Sx) hv43 ?_ ?_ <;> try simp only [↓RA,RB,RS, fx87,p1,p2,p3,p4,reduceIte,p5,p6,p7,p8, c1, c2, c3]
        obtain ⟨v44, hv44, h⟩ := run_bind h
        refine AppH.mk (f := Sx) (fun _ => rfl) hv44 ?_ ?_ ?_ <;> try simp only [↓RA,RB,RS, fx87,p1,p2,p3,p4,reduceIte,p5,p6,p7,p8, c1, c2, c3]
        repeat (first | with_reducible refine noR_and (by repeat (first | exact noR_empty _ _ | exact noR_nilS _ _ | refine noR_mk _ _ _ _ _ rfl ?_ | refine noR_mkS _ _ _ _ _ rfl ?_)) ?_ | with_reducible refine noC_and (by repeat (first | exact noC_empty _ _ (by try simp only [↓RA,RB,RS, fx87,p1,p2,p3,p4,reduceIte,p5,p6,p7,p8]) | exact noC_nilS _ _ (by try simp only [↓RA,RB,RS, fx87,p1,p2,p3,p4,reduceIte,p5,p6,p7,p8]) | refine noC_mk _ _ _ _ _ rfl ?_ | refine noC_mkS _ _ _ _ _ rfl ?_)) ?_ | with_reducible refine and_ac ?_ | with_reducible refine And.intro (a := _ = List.range _) (by rfl) ?_)
        refine And.intro (DrawH.mk [] [528, 592, 624, 640, 704] (by rfl) (by first | rfl | (try simp only [↓RA,RB,RS, fx87,p1,p2,p3,p4,reduceIte,p5,p6,p7,p8] <;> rfl)) (by first | rfl | (try simp only [↓RA,RB,RS, fx87,p1,p2,p3,p4,reduceIte,p5,p6,p7,p8] <;> rfl)) (by first | rfl | (try simp only [↓RA,RB,RS, fx87,p1,p2,p3,p4,reduceIte,p5,p6,p7,p8] <;> rfl)) (by simp) (by try simp only [↓RA,RB,RS, fx87,p1,p2,p3,p4,reduceIte,p5,p6,p7,p8]; repeat (first | exact noC_empty _ _ (by try simp only [↓RA,RB,RS, fx87,p1,p2,p3,p4,reduceIte,p5,p6,p7,p8]) | exact noC_nilS _ _ (by try simp only [↓RA,RB,RS, fx87,p1,p2,p3,p4,reduceIte,p5,p6,p7,p8]) | refine noC_mk _ _ _ _ _ rfl ?_ | refine noC_mkS _ _ _ _ _ rfl ?_ | refine And.intro ?_ ?_))) ?_
        try simp only [↓RA,RB,RS, fx87,p1,p2,p3,p4,reduceIte,p5,p6,p7,p8, c1, c2, c3]
        have h := run_some h
        obtain rfl : _ = r := h
        refine FinH.r ?_
        try simp only [↓RA,RB,RS, fx87,p1,p2,p3,p4,reduceIte,p5,p6,p7,p8, c1, c2, c3]
  · try simp only [↓RA,RB,RS, fx87,p1,p2,p3,p4,reduceIte,p5,p6,p7,p8]
    refine CondH.ff (decide_eq_false (by omega)) (fun c4 => ?_)
    try simp only [↓RA,RB,RS, fx87,p1,p2,p3,p4,reduceIte,p5,p6,p7,p8, c4]
    repeat (first | with_reducible refine noR_and (by repeat (first | exact noR_empty _ _ | exact noR_nilS _ _ | refine noR_mk _ _ _ _ _ rfl ?_ | refine noR_mkS _ _ _ _ _ rfl ?_)) ?_ | with_reducible refine noC_and (by repeat (first | exact noC_empty _ _ (by try simp only [↓RA,RB,RS, fx87,p1,p2,p3,p4,reduceIte,p5,p6,p7,p8]) | exact noC_nilS _ _ (by try simp only [↓RA,RB,RS, fx87,p1,p2,p3,p4,reduceIte,p5,p6,p7,p8]) | refine noC_mk _ _ _ _ _ rfl ?_ | refine noC_mkS _ _ _ _ _ rfl ?_)) ?_ | with_reducible refine and_ac ?_ | with_reducible refine And.intro (a := _ = List.range _) (by rfl) ?_)
    obtain ⟨v36, hv36, h⟩ := run_bind h
    refine SlcH.mk (f := Sx) hv36 ?_ ?_ <;> try simp only [↓RA,RB,RS, fx87,p1,p2,p3,p4,reduceIte,p5,p6,p7,p8, c4]
    obtain ⟨v37, hv37, h⟩ := run_bind h
    refine AppH.mk (f := Sx) (fun _ => rfl) hv37 ?_ ?_ ?_ <;> try simp only [↓RA,RB,RS, fx87,p1,p2,p3,p4,reduceIte,p5,p6,p7,p8, c4]
    repeat (first | with_reducible refine noR_and (by repeat (first | exact noR_empty _ _ | exact noR_nilS _ _ | refine noR_mk _ _ _ _ _ rfl ?_ | refine noR_mkS _ _ _ _ _ rfl ?_)) ?_ | with_reducible refine noC_and (by repeat (first | exact noC_empty _ _ (by try simp only [↓RA,RB,RS, fx87,p1,p2,p3,p4,reduceIte,p5,p6,p7,p8]) | exact noC_nilS _ _ (by try simp only [↓RA,RB,RS, fx87,p1,p2,p3,p4,reduceIte,p5,p6,p7,p8]) | refine noC_mk _ _ _ _ _ rfl ?_ | refine noC_mkS _ _ _ _ _ rfl ?_)) ?_ | with_reducible refine and_ac ?_ | with_reducible refine And.intro (a := _ = List.range _) (by rfl) ?_)
    obtain ⟨v40, hv40, h⟩ := run_bind h
    refine AppH.mk (f := Sx) (fun _ => rfl) hv40 ?_ ?_ ?_ <;> try simp only [↓RA,RB,RS, fx87,p1,p2,p3,p4,reduceIte,p5,p6,p7,p8, c4]
    repeat (first | with_reducible refine noR_and (by repeat (first | exact noR_empty _ _ | exact noR_nilS _ _ | refine noR_mk _ _ _ _ _ rfl ?_ | refine noR_mkS _ _ _ _ _ rfl ?_)) ?_ | with_reducible refine noC_and (by repeat (first | exact noC_empty _ _ (by try simp only [↓RA,RB,RS, fx87,p1,p2,p3,p4,reduceIte,p5,p6,p7,p8]) | exact noC_nilS _ _ (by try simp only [↓RA,RB,RS, fx87,p1,p2,p3,p4,reduceIte,p5,p6,p7,p8]) | refine noC_mk _ _ _ _ _ rfl ?_ | refine noC_mkS _ _ _ _ _ rfl ?_)) ?_ | with_reducible refine and_ac ?_ | with_reducible refine And.intro (a := _ = List.range _) (by rfl) ?_)
    obtain ⟨v43, hv43, h⟩ := run_bind h
    refine SlcH.mk (f := Sx) hv43 ?_ ?_ <;> try simp only [↓RA,RB,RS, fx87,p1,p2,p3,p4,reduceIte,p5,p6,p7,p8, c4]
    obtain ⟨v44, hv44, h⟩ := run_bind h
    refine AppH.mk (f := Sx) (fun _ => rfl) hv44 ?_ ?_ ?_ <;> try simp only [↓RA,RB,RS, fx87,p1,p2,p3,p4,reduceIte,p5,p6,p7,p8, c4]
    repeat (first | with_reducible refine noR_and (by repeat (first | exact noR_empty _ _ | exact noR_nilS _ _ | refine noR_mk _ _ _ _ _ rfl ?_ | refine noR_mkS _ _ _ _ _ rfl ?_)) ?_ | with_reducible refine noC_and (by repeat (first | exact noC_empty _ _ (by try simp only [↓RA,RB,RS, fx87,p1,p2,p3,p4,reduceIte,p5,p6,p7,p8]) | exact noC_nilS _ _ (by try simp only [↓RA,RB,RS, fx87,p1,p2,p3,p4,reduceIte,p5,p6,p7,p8]) | refine noC_mk _ _ _ _ _ rfl ?_ | refine noC_mkS _ _ _ _ _ rfl ?_)) ?_ | with_reducible refine and_ac ?_ | with_reducible refine And.intro (a := _ = List.range _) (by rfl) ?_)
    refine And.intro (DrawH.mk [] [528, 592, 624, 640, 704] (by rfl) (by first | rfl | (try simp only [↓RA,RB,RS, fx87,p1,p2,p3,p4,reduceIte,p5,p6,p7,p8] <;> rfl)) (by first | rfl | (try simp only [↓RA,RB,RS, fx87,p1,p2,p3,p4,reduceIte,p5,p6,p7,p8] <;> rfl)) (by first | rfl | (try simp only [↓RA,RB,RS, fx87,p1,p2,p3,p4,reduceIte,p5,p6,p7,p8] <;> rfl)) (by simp) (by try simp only [↓RA,RB,RS, fx87,p1,p2,p3,p4,reduceIte,p5,p6,p7,p8]; repeat (first | exact noC_empty _ _ (by try simp only [↓RA,RB,RS, fx87,p1,p2,p3,p4,reduceIte,p5,p6,p7,p8]) | exact noC_nilS _ _ (by try simp only [↓RA,RB,RS, fx87,p1,p2,p3,p4,reduceIte,p5,p6,p7,p8]) | refine noC_mk _ _ _ _ _ rfl ?_ | refine noC_mkS _ _ _ _ _ rfl ?_ | refine And.intro ?_ ?_))) ?_
    try simp only [↓RA,RB,RS, fx87,p1,p2,p3,p4,reduceIte,p5,p6,p7,p8, c4]
    have h := run_some h
    obtain rfl : _ = r := h
    refine FinH.r ?_
    try simp only [↓RA,RB,RS, fx87,p1,p2,p3,p4,reduceIte,p5,p6,p7,p8, c4]

def fx63 := A @TB3 <| A @TB9 <| A @TB28 <| @TB31
theorem spec_l25Names_sat {a0 : Linear} {a1 : Linear}  {r : List ByteArray} (h : spec_l25Names a0 a1 = some r) : Sat Tryz.prog 63 [((Linear.pv false) a0), ((Linear.pv false) a1)] (.sl false 1 (r.map Sx)) := by
  replace h := Run.of h
  unfold spec_l25Names at h
  refine Sat.of_m (nt := 38) (rs := [.tmp 4]) (n := 100000) Tryz.func63 rfl rfl rfl rfl (by simp) ?_
  try simp only [↓RA,RB,RS, fx63,p1,p2,p3,p4,reduceIte,p5,p6,p7,p8]
  repeat (first | with_reducible refine noR_and (by repeat (first | exact noR_empty _ _ | exact noR_nilS _ _ | refine noR_mk _ _ _ _ _ rfl ?_ | refine noR_mkS _ _ _ _ _ rfl ?_)) ?_ | with_reducible refine noC_and (by repeat (first | exact noC_empty _ _ (by try simp only [↓RA,RB,RS, fx63,p1,p2,p3,p4,reduceIte,p5,p6,p7,p8]) | exact noC_nilS _ _ (by try simp only [↓RA,RB,RS, fx63,p1,p2,p3,p4,reduceIte,p5,p6,p7,p8]) | refine noC_mk _ _ _ _ _ rfl ?_ | refine noC_mkS _ _ _ _ _ rfl ?_)) ?_ | with_reducible refine and_ac ?_ | with_reducible refine And.intro (a := _ = List.range _) (by rfl) ?_)
  refine Mg.know_val2 (b := false) (sz := 1) (es := a0.Vars.map Sx) (x := (.pv ((Linear.pv false) a0))) 0 [0] (by try simp only [↓RA,RB,RS, fx63,p1,p2,p3,p4,reduceIte,p5,p6,p7,p8]) fun hl0 => ?_; rw [List.length_map] at hl0
  replace h := run_loop h
  refine Mg.forN h (fun i3 s3 => [(2, .box (.pv ((Linear.pv false) a0))), (3, .box (.pv ((Linear.pv false) a1))), (5, .val (.pv (.sl false 1 (s3.map Sx)))), (6, .val (.pv (I (i3 : Int))))]) (fun i3 s3 => []) (St.le_trans (St.le_demV (x := (.own 128)) (sz := (1)) (es := ([]).map Sx) 5 [] 128 (by try simp only [↓RA,RB,RS, fx63,p1,p2,p3,p4,reduceIte,p5,p6,p7,p8])) (St.le_mk2 (by try simp only [↓RA,RB,RS, fx63,p1,p2,p3,p4,reduceIte,p5,p6,p7,p8]))) (fun i3 s3 hi h => ?_) (fun s3 h => ?_)
  · have w3 := wrap_succ (i := i3) (by omega)
    try simp only [↓RA,RB,RS, fx63,p1,p2,p3,p4,reduceIte,p5,p6,p7,p8]
    refine CondH.tt (decide_eq_true (by omega)) (fun c1 => ?_)
    try simp only [↓RA,RB,RS, fx63,p1,p2,p3,p4,reduceIte,p5,p6,p7,p8, c1]
    obtain ⟨v20, hv20, h⟩ := run_bind h
    refine IdxH.mk (f := Sx) hv20 ?_ ?_ <;> try simp only [↓RA,RB,RS, fx63,p1,p2,p3,p4,reduceIte,p5,p6,p7,p8, c1]
    obtain ⟨v22, hv22, h⟩ := run_bind h
    refine CallH.mk [false, false] (spec_l2Put_sat hv22) ?_ ?_ <;> try simp only [↓RA,RB,RS, fx63,p1,p2,p3,p4,reduceIte,p5,p6,p7,p8, c1]
    have h := run_some h
    refine RdH.mk ⟨_, h, ?_⟩
    refine St.le_mk2 ?_
    try simp only [↓RA,RB,RS, fx63,p1,p2,p3,p4,reduceIte,p5,p6,p7,p8, c1, w3]
  · try simp only [↓RA,RB,RS, fx63,p1,p2,p3,p4,reduceIte,p5,p6,p7,p8]
    refine CondH.ff (decide_eq_false (by omega)) (fun c2 => ?_)
    try simp only [↓RA,RB,RS, fx63,p1,p2,p3,p4,reduceIte,p5,p6,p7,p8, c2]
    refine Mg.know_box2 (b := false) (sz := 1) (es := a1.Vars.map Sx) (x := (.pv ((Linear.pv false) a1))) 3 [0] (by try simp only [↓RA,RB,RS, fx63,p1,p2,p3,p4,reduceIte,p5,p6,p7,p8, c2]) fun hl3 => ?_; rw [List.length_map] at hl3
    replace h := run_loop h
    refine Mg.forN h (fun i7 s7 => [(3, .box (.pv ((Linear.pv false) a1))), (5, .val (.pv (.sl false 1 (s7.map Sx)))), (7, .val (.pv (I (i7 : Int))))]) (fun i7 s7 => []) (St.le_mk2 (by try simp only [↓RA,RB,RS, fx63,p1,p2,p3,p4,reduceIte,p5,p6,p7,p8, c2])) (fun i7 s7 hi h => ?_) (fun s7 h => ?_)
    · have w7 := wrap_succ (i := i7) (by omega)
      try simp only [↓RA,RB,RS, fx63,p1,p2,p3,p4,reduceIte,p5,p6,p7,p8, c2]
      refine CondH.tt (decide_eq_true (by omega)) (fun c3 => ?_)
      try simp only [↓RA,RB,RS, fx63,p1,p2,p3,p4,reduceIte,p5,p6,p7,p8, c2, c3]
      obtain ⟨v34, hv34, h⟩ := run_bind h
      refine IdxH.mk (f := Sx) hv34 ?_ ?_ <;> try simp only [↓RA,RB,RS, fx63,p1,p2,p3,p4,reduceIte,p5,p6,p7,p8, c2, c3]
      obtain ⟨v36, hv36, h⟩ := run_bind h
      refine CallH.mk [false, false] (spec_l2Put_sat hv36) ?_ ?_ <;> try simp only [↓RA,RB,RS, fx63,p1,p2,p3,p4,reduceIte,p5,p6,p7,p8, c2, c3]
      have h := run_some h
      refine RdH.mk ⟨_, h, ?_⟩
      refine St.le_mk2 ?_
      try simp only [↓RA,RB,RS, fx63,p1,p2,p3,p4,reduceIte,p5,p6,p7,p8, c2, c3, w7]
    · try simp only [↓RA,RB,RS, fx63,p1,p2,p3,p4,reduceIte,p5,p6,p7,p8, c2]
      refine CondH.ff (decide_eq_false (by omega)) (fun c4 => ?_)
      try simp only [↓RA,RB,RS, fx63,p1,p2,p3,p4,reduceIte,p5,p6,p7,p8, c2, c4]
      have h := run_some h
      obtain rfl : _ = r := h
      refine FinH.r ?_
      try simp only [↓RA,RB,RS, fx63,p1,p2,p3,p4,reduceIte,p5,p6,p7,p8, c2, c4]

def fx65 := A @TB3 <| A @TB9 <| A @TB28 <| A @TB29 <| @TB31
theorem spec_l25Slope_sat {a0 : Linear} {a1 : ByteArray}  {r : Int} (h : spec_l25Slope a0 a1 = some r) : Sat Tryz.prog 65 [((Linear.pv false) a0), (Sx a1)] (I r) := by
  replace h := Run.of h
  unfold spec_l25Slope at h
  refine Sat.of_m (nt := 25) (rs := [.tmp 4]) (n := 100000) Tryz.func65 rfl rfl rfl rfl (by simp) ?_
  try simp only [↓RA,RB,RS, fx65,p1,p2,p3,p4,reduceIte,p5,p6,p7,p8]
  repeat (first | with_reducible refine noR_and (by repeat (first | exact noR_empty _ _ | exact noR_nilS _ _ | refine noR_mk _ _ _ _ _ rfl ?_ | refine noR_mkS _ _ _ _ _ rfl ?_)) ?_ | with_reducible refine noC_and (by repeat (first | exact noC_empty _ _ (by try simp only [↓RA,RB,RS, fx65,p1,p2,p3,p4,reduceIte,p5,p6,p7,p8]) | exact noC_nilS _ _ (by try simp only [↓RA,RB,RS, fx65,p1,p2,p3,p4,reduceIte,p5,p6,p7,p8]) | refine noC_mk _ _ _ _ _ rfl ?_ | refine noC_mkS _ _ _ _ _ rfl ?_)) ?_ | with_reducible refine and_ac ?_ | with_reducible refine And.intro (a := _ = List.range _) (by rfl) ?_)
  refine Mg.know_val2 (b := false) (sz := 1) (es := a0.Vars.map Sx) (x := (.pv ((Linear.pv false) a0))) 0 [0] (by try simp only [↓RA,RB,RS, fx65,p1,p2,p3,p4,reduceIte,p5,p6,p7,p8]) fun hl0 => ?_; rw [List.length_map] at hl0
  replace h := run_loop h
  refine Mg.forN h (fun i2 s2 => [(1, .val (.pv (Sx a1))), (2, .box (.pv ((Linear.pv false) a0))), (5, .val (.pv (I (i2 : Int))))]) (fun i2 s2 => []) (St.le_mk2 (by try simp only [↓RA,RB,RS, fx65,p1,p2,p3,p4,reduceIte,p5,p6,p7,p8])) (fun i2 s2 hi h => ?_) (fun s2 h => ?_)
  · have w2 := wrap_succ (i := i2) (by omega)
    try simp only [↓RA,RB,RS, fx65,p1,p2,p3,p4,reduceIte,p5,p6,p7,p8]
    refine CondH.tt (decide_eq_true (by omega)) (fun c1 => ?_)
    try simp only [↓RA,RB,RS, fx65,p1,p2,p3,p4,reduceIte,p5,p6,p7,p8, c1]
    obtain ⟨v16, hv16, h⟩ := run_bind h
    refine IdxH.mk (f := Sx) hv16 ?_ ?_ <;> try simp only [↓RA,RB,RS, fx65,p1,p2,p3,p4,reduceIte,p5,p6,p7,p8, c1]
    refine CondH.mk (fun c2 => ?_) (fun c2 => ?_)
    · replace h := run_t c2 h
      try simp only [↓RA,RB,RS, fx65,p1,p2,p3,p4,reduceIte,p5,p6,p7,p8, c1, c2]
      obtain ⟨v23, hv23, h⟩ := run_bind h
      refine IdxH.mk (f := I) hv23 ?_ ?_ <;> try simp only [↓RA,RB,RS, fx65,p1,p2,p3,p4,reduceIte,p5,p6,p7,p8, c1, c2]
      have h := run_some h
      obtain rfl : _ = r := h
      refine FinH.l ?_
      try simp only [↓RA,RB,RS, fx65,p1,p2,p3,p4,reduceIte,p5,p6,p7,p8, c1, c2]
    · replace h := run_f c2 h
      try simp only [↓RA,RB,RS, fx65,p1,p2,p3,p4,reduceIte,p5,p6,p7,p8, c1, c2]
      have h := run_some h
      refine RdH.mk ⟨_, h, ?_⟩
      refine St.le_mk2 ?_
      try simp only [↓RA,RB,RS, fx65,p1,p2,p3,p4,reduceIte,p5,p6,p7,p8, c1, c2, w2]
  · try simp only [↓RA,RB,RS, fx65,p1,p2,p3,p4,reduceIte,p5,p6,p7,p8]
    refine CondH.ff (decide_eq_false (by omega)) (fun c3 => ?_)
    try simp only [↓RA,RB,RS, fx65,p1,p2,p3,p4,reduceIte,p5,p6,p7,p8, c3]
    have h := run_some h
    obtain rfl : _ = r := h
    refine FinH.l ?_
    try simp only [↓RA,RB,RS, fx65,p1,p2,p3,p4,reduceIte,p5,p6,p7,p8, c3]

def fx51 := A @TB3 <| A @TB9 <| A @TB28 <| A @TB29 <| A @TB31 <| @mixedT
theorem spec_l25Plus_sat {a0 : Linear} {a1 : Linear} {a2 : Int}  {r : Linear} (h : spec_l25Plus a0 a1 a2 = some r) : Sat Tryz.prog 51 [((Linear.pv false) a0), ((Linear.pv false) a1), (I a2)] ((Linear.pv true) r) := by
  replace h := Run.of h
  unfold spec_l25Plus at h
  refine Sat.of_m (nt := 63) (rs := [.cell 6 31]) (n := 100000) Tryz.func51 rfl rfl rfl rfl (by simp) ?_
  try simp only [↓RA,RB,RS, fx51,p1,p2,p3,p4,reduceIte,p5,p6,p7,p8]
  repeat (first | with_reducible refine noR_and (by repeat (first | exact noR_empty _ _ | exact noR_nilS _ _ | refine noR_mk _ _ _ _ _ rfl ?_ | refine noR_mkS _ _ _ _ _ rfl ?_)) ?_ | with_reducible refine noC_and (by repeat (first | exact noC_empty _ _ (by try simp only [↓RA,RB,RS, fx51,p1,p2,p3,p4,reduceIte,p5,p6,p7,p8]) | exact noC_nilS _ _ (by try simp only [↓RA,RB,RS, fx51,p1,p2,p3,p4,reduceIte,p5,p6,p7,p8]) | refine noC_mk _ _ _ _ _ rfl ?_ | refine noC_mkS _ _ _ _ _ rfl ?_)) ?_ | with_reducible refine and_ac ?_ | with_reducible refine And.intro (a := _ = List.range _) (by rfl) ?_)
  obtain ⟨v23, hv23, h⟩ := run_bind h
  refine CallH.mk [false, false] (spec_l25Names_sat hv23) ?_ ?_ <;> try simp only [↓RA,RB,RS, fx51,p1,p2,p3,p4,reduceIte,p5,p6,p7,p8]
  refine Mg.know_sl (b := false) (sz := 1) (es := v23.map Sx) 8 (by try simp only [↓RA,RB,RS, fx51,p1,p2,p3,p4,reduceIte,p5,p6,p7,p8]) fun hl8 => ?_; rw [List.length_map] at hl8
  replace h := run_loop h
  refine Mg.forN h (fun i4 s4 => [(2, .val (.pv (I a2))), (3, .box (.pv ((Linear.pv false) a0))), (4, .box (.pv ((Linear.pv false) a1))), (6, .box (.node [(.pv (.sl true 1 [])), (.pv (.sl true 1 [])), (.pv (I (0 : Int)))])), (7, .box (.node [(.own 176), (.own 192), (.pv (I (IntKind.i64.wrap (a0.Constant + (IntKind.i64.wrap (a2 * a1.Constant))))))])), (8, .val (.pv (.sl false 1 (v23.map Sx)))), (9, .val (.pv (I (i4 : Int))))]) (fun i4 s4 => [(176, (1, s4.1.map Sx)), (192, (1, s4.2.map I))]) (St.le_mk2 (by try simp only [↓RA,RB,RS, fx51,p1,p2,p3,p4,reduceIte,p5,p6,p7,p8])) (fun i4 s4 hi h => ?_) (fun s4 h => ?_)
  · have w4 := wrap_succ (i := i4) (by omega)
    try simp only [↓RA,RB,RS, fx51,p1,p2,p3,p4,reduceIte,p5,p6,p7,p8]
    refine CondH.tt (decide_eq_true (by omega)) (fun c1 => ?_)
    try simp only [↓RA,RB,RS, fx51,p1,p2,p3,p4,reduceIte,p5,p6,p7,p8, c1]
    obtain ⟨v33, hv33, h⟩ := run_bind h
    refine IdxH.mk (f := Sx) hv33 ?_ ?_ <;> try simp only [↓RA,RB,RS, fx51,p1,p2,p3,p4,reduceIte,p5,p6,p7,p8, c1]
    obtain ⟨v35, hv35, h⟩ := run_bind h
    refine CallH.mk [false, false] (spec_l25Slope_sat hv35) ?_ ?_ <;> try simp only [↓RA,RB,RS, fx51,p1,p2,p3,p4,reduceIte,p5,p6,p7,p8, c1]
    obtain ⟨v40, hv40, h⟩ := run_bind h
    refine IdxH.mk (f := Sx) hv40 ?_ ?_ <;> try simp only [↓RA,RB,RS, fx51,p1,p2,p3,p4,reduceIte,p5,p6,p7,p8, c1]
    obtain ⟨v42, hv42, h⟩ := run_bind h
    refine CallH.mk [false, false] (spec_l25Slope_sat hv42) ?_ ?_ <;> try simp only [↓RA,RB,RS, fx51,p1,p2,p3,p4,reduceIte,p5,p6,p7,p8, c1]
    refine And.intro (DrawH.none (by rfl) (by first | rfl | (try simp only [↓RA,RB,RS, fx51,p1,p2,p3,p4,reduceIte,p5,p6,p7,p8] <;> rfl)) (by first | rfl | (try simp only [↓RA,RB,RS, fx51,p1,p2,p3,p4,reduceIte,p5,p6,p7,p8] <;> rfl)) (by first | rfl | (try simp only [↓RA,RB,RS, fx51,p1,p2,p3,p4,reduceIte,p5,p6,p7,p8] <;> rfl))) ?_
    try simp only [↓RA,RB,RS, fx51,p1,p2,p3,p4,reduceIte,p5,p6,p7,p8, c1]
    refine CondH.mk (fun c2 => ?_) (fun c2 => ?_)
    · replace h := run_t c2 h
      try simp only [↓RA,RB,RS, fx51,p1,p2,p3,p4,reduceIte,p5,p6,p7,p8, c1, c2]
      obtain ⟨v51, hv51, h⟩ := run_bind h
      refine IdxH.mk (f := Sx) hv51 ?_ ?_ <;> try simp only [↓RA,RB,RS, fx51,p1,p2,p3,p4,reduceIte,p5,p6,p7,p8, c1, c2]
      repeat (first | with_reducible refine noR_and (by repeat (first | exact noR_empty _ _ | exact noR_nilS _ _ | refine noR_mk _ _ _ _ _ rfl ?_ | refine noR_mkS _ _ _ _ _ rfl ?_)) ?_ | with_reducible refine noC_and (by repeat (first | exact noC_empty _ _ (by try simp only [↓RA,RB,RS, fx51,p1,p2,p3,p4,reduceIte,p5,p6,p7,p8]) | exact noC_nilS _ _ (by try simp only [↓RA,RB,RS, fx51,p1,p2,p3,p4,reduceIte,p5,p6,p7,p8]) | refine noC_mk _ _ _ _ _ rfl ?_ | refine noC_mkS _ _ _ _ _ rfl ?_)) ?_ | with_reducible refine and_ac ?_ | with_reducible refine And.intro (a := _ = List.range _) (by rfl) ?_)
      obtain ⟨v54, hv54, h⟩ := run_bind h
      refine AppH.mk (f := Sx) (fun _ => rfl) hv54 ?_ ?_ ?_ <;> try simp only [↓RA,RB,RS, fx51,p1,p2,p3,p4,reduceIte,p5,p6,p7,p8, c1, c2]
      repeat (first | with_reducible refine noR_and (by repeat (first | exact noR_empty _ _ | exact noR_nilS _ _ | refine noR_mk _ _ _ _ _ rfl ?_ | refine noR_mkS _ _ _ _ _ rfl ?_)) ?_ | with_reducible refine noC_and (by repeat (first | exact noC_empty _ _ (by try simp only [↓RA,RB,RS, fx51,p1,p2,p3,p4,reduceIte,p5,p6,p7,p8]) | exact noC_nilS _ _ (by try simp only [↓RA,RB,RS, fx51,p1,p2,p3,p4,reduceIte,p5,p6,p7,p8]) | refine noC_mk _ _ _ _ _ rfl ?_ | refine noC_mkS _ _ _ _ _ rfl ?_)) ?_ | with_reducible refine and_ac ?_ | with_reducible refine And.intro (a := _ = List.range _) (by rfl) ?_)
      refine And.intro (DrawH.mk [] [848, 864] (by rfl) (by first | rfl | (try simp only [↓RA,RB,RS, fx51,p1,p2,p3,p4,reduceIte,p5,p6,p7,p8] <;> rfl)) (by first | rfl | (try simp only [↓RA,RB,RS, fx51,p1,p2,p3,p4,reduceIte,p5,p6,p7,p8] <;> rfl)) (by first | rfl | (try simp only [↓RA,RB,RS, fx51,p1,p2,p3,p4,reduceIte,p5,p6,p7,p8] <;> rfl)) (by simp) (by try simp only [↓RA,RB,RS, fx51,p1,p2,p3,p4,reduceIte,p5,p6,p7,p8]; repeat (first | exact noC_empty _ _ (by try simp only [↓RA,RB,RS, fx51,p1,p2,p3,p4,reduceIte,p5,p6,p7,p8]) | exact noC_nilS _ _ (by try simp only [↓RA,RB,RS, fx51,p1,p2,p3,p4,reduceIte,p5,p6,p7,p8]) | refine noC_mk _ _ _ _ _ rfl ?_ | refine noC_mkS _ _ _ _ _ rfl ?_ | refine And.intro ?_ ?_))) ?_
      try simp only [↓RA,RB,RS, fx51,p1,p2,p3,p4,reduceIte,p5,p6,p7,p8, c1, c2]
      repeat (first | with_reducible refine noR_and (by repeat (first | exact noR_empty _ _ | exact noR_nilS _ _ | refine noR_mk _ _ _ _ _ rfl ?_ | refine noR_mkS _ _ _ _ _ rfl ?_)) ?_ | with_reducible refine noC_and (by repeat (first | exact noC_empty _ _ (by try simp only [↓RA,RB,RS, fx51,p1,p2,p3,p4,reduceIte,p5,p6,p7,p8]) | exact noC_nilS _ _ (by try simp only [↓RA,RB,RS, fx51,p1,p2,p3,p4,reduceIte,p5,p6,p7,p8]) | refine noC_mk _ _ _ _ _ rfl ?_ | refine noC_mkS _ _ _ _ _ rfl ?_)) ?_ | with_reducible refine and_ac ?_ | with_reducible refine And.intro (a := _ = List.range _) (by rfl) ?_)
      obtain ⟨v60, hv60, h⟩ := run_bind h
      refine AppH.mk (f := I) (fun _ => rfl) hv60 ?_ ?_ ?_ <;> try simp only [↓RA,RB,RS, fx51,p1,p2,p3,p4,reduceIte,p5,p6,p7,p8, c1, c2]
      repeat (first | with_reducible refine noR_and (by repeat (first | exact noR_empty _ _ | exact noR_nilS _ _ | refine noR_mk _ _ _ _ _ rfl ?_ | refine noR_mkS _ _ _ _ _ rfl ?_)) ?_ | with_reducible refine noC_and (by repeat (first | exact noC_empty _ _ (by try simp only [↓RA,RB,RS, fx51,p1,p2,p3,p4,reduceIte,p5,p6,p7,p8]) | exact noC_nilS _ _ (by try simp only [↓RA,RB,RS, fx51,p1,p2,p3,p4,reduceIte,p5,p6,p7,p8]) | refine noC_mk _ _ _ _ _ rfl ?_ | refine noC_mkS _ _ _ _ _ rfl ?_)) ?_ | with_reducible refine and_ac ?_ | with_reducible refine And.intro (a := _ = List.range _) (by rfl) ?_)
      have h := run_some h
      refine RdH.mk ⟨_, h, ?_⟩
      refine St.le_trans (St.le_mk (S := [(2, .val (.pv (I a2))), (3, .box (.pv ((Linear.pv false) a0))), (4, .box (.pv ((Linear.pv false) a1))), (6, .box (.node [(.pv (.sl true 1 [])), (.pv (.sl true 1 [])), (.pv (I (0 : Int)))])), (7, .box (.node [(.own 864), (.own 960), (.pv (I (IntKind.i64.wrap (a0.Constant + (IntKind.i64.wrap (a2 * a1.Constant))))))])), (8, .val (.pv (.sl false 1 (v23.map Sx)))), (9, .val (.pv (I (IntKind.i64.wrap ((i4 : Int) + (1 : Int))))))]) (O := [(864, (1, v54.map Sx)), (960, (1, v60.map I))]) (by try simp only [↓RA,RB,RS, fx51,p1,p2,p3,p4,reduceIte,p5,p6,p7,p8, c1, c2, w4]) (by try simp only [↓RA,RB,RS, fx51,p1,p2,p3,p4,reduceIte,p5,p6,p7,p8, c1, c2, w4])) ?_
      refine St.le_rn 864 176 (by decide) (by repeat (first | exact noC_empty _ _ (by try simp only [↓RA,RB,RS, fx51,p1,p2,p3,p4,reduceIte,p5,p6,p7,p8]) | exact noC_nilS _ _ (by try simp only [↓RA,RB,RS, fx51,p1,p2,p3,p4,reduceIte,p5,p6,p7,p8]) | refine noC_mk _ _ _ _ _ rfl ?_ | refine noC_mkS _ _ _ _ _ rfl ?_)) ?_
      refine St.le_trans (St.le_mk (S := [(2, .val (.pv (I a2))), (3, .box (.pv ((Linear.pv false) a0))), (4, .box (.pv ((Linear.pv false) a1))), (6, .box (.node [(.pv (.sl true 1 [])), (.pv (.sl true 1 [])), (.pv (I (0 : Int)))])), (7, .box (.node [(.own 176), (.own 960), (.pv (I (IntKind.i64.wrap (a0.Constant + (IntKind.i64.wrap (a2 * a1.Constant))))))])), (8, .val (.pv (.sl false 1 (v23.map Sx)))), (9, .val (.pv (I (IntKind.i64.wrap ((i4 : Int) + (1 : Int))))))]) (O := [(176, (1, v54.map Sx)), (960, (1, v60.map I))]) (by try simp only [↓RA,RB,RS, fx51,p1,p2,p3,p4,reduceIte,p5,p6,p7,p8, c1, c2, w4]) (by try simp only [↓RA,RB,RS, fx51,p1,p2,p3,p4,reduceIte,p5,p6,p7,p8, c1, c2, w4])) ?_
      refine St.le_rn 960 192 (by decide) (by repeat (first | exact noC_empty _ _ (by try simp only [↓RA,RB,RS, fx51,p1,p2,p3,p4,reduceIte,p5,p6,p7,p8]) | exact noC_nilS _ _ (by try simp only [↓RA,RB,RS, fx51,p1,p2,p3,p4,reduceIte,p5,p6,p7,p8]) | refine noC_mk _ _ _ _ _ rfl ?_ | refine noC_mkS _ _ _ _ _ rfl ?_)) ?_
      refine St.le_mk2 ?_
      try simp only [↓RA,RB,RS, fx51,p1,p2,p3,p4,reduceIte,p5,p6,p7,p8, c1, c2, w4]
    · replace h := run_f c2 h
      try simp only [↓RA,RB,RS, fx51,p1,p2,p3,p4,reduceIte,p5,p6,p7,p8, c1, c2]
      have h := run_some h
      refine RdH.mk ⟨_, h, ?_⟩
      refine St.le_mk2 ?_
      try simp only [↓RA,RB,RS, fx51,p1,p2,p3,p4,reduceIte,p5,p6,p7,p8, c1, c2, w4]
  · try simp only [↓RA,RB,RS, fx51,p1,p2,p3,p4,reduceIte,p5,p6,p7,p8]
    refine CondH.ff (decide_eq_false (by omega)) (fun c3 => ?_)
    try simp only [↓RA,RB,RS, fx51,p1,p2,p3,p4,reduceIte,p5,p6,p7,p8, c3]
    have h := run_some h
    obtain rfl : _ = r := h
    refine FinH.l ?_
    try simp only [↓RA,RB,RS, fx51,p1,p2,p3,p4,reduceIte,p5,p6,p7,p8, c3]

def fx42 := A @TB3 <| A @TB4 <| A @TB9 <| A @TB28 <| A @TB29 <| A @TB31 <| @mixedT
theorem spec_l25Linear_sat {a0 : Linear}  {r : Bool} (h : spec_l25Linear a0 = some r) : Sat Tryz.prog 42 [((Linear.pv false) a0)] (B r) := by
  replace h := Run.of h
  unfold spec_l25Linear at h
  refine Sat.of_m (nt := 64) (rs := [.tmp 2]) (n := 100000) Tryz.func42 rfl rfl rfl rfl (by simp) ?_
  try simp only [↓RA,RB,RS, fx42,p1,p2,p3,p4,reduceIte,p5,p6,p7,p8]
  repeat (first | with_reducible refine noR_and (by repeat (first | exact noR_empty _ _ | exact noR_nilS _ _ | refine noR_mk _ _ _ _ _ rfl ?_ | refine noR_mkS _ _ _ _ _ rfl ?_)) ?_ | with_reducible refine noC_and (by repeat (first | exact noC_empty _ _ (by try simp only [↓RA,RB,RS, fx42,p1,p2,p3,p4,reduceIte,p5,p6,p7,p8]) | exact noC_nilS _ _ (by try simp only [↓RA,RB,RS, fx42,p1,p2,p3,p4,reduceIte,p5,p6,p7,p8]) | refine noC_mk _ _ _ _ _ rfl ?_ | refine noC_mkS _ _ _ _ _ rfl ?_)) ?_ | with_reducible refine and_ac ?_ | with_reducible refine And.intro (a := _ = List.range _) (by rfl) ?_)
  refine CondH.mk (fun c1 => ?_) (fun c1 => ?_)
  · replace h := run_t c1 h
    try simp only [↓RA,RB,RS, fx42,p1,p2,p3,p4,reduceIte,p5,p6,p7,p8, c1]
    have h := run_some h
    obtain rfl : _ = r := h
    refine FinH.l ?_
    try simp only [↓RA,RB,RS, fx42,p1,p2,p3,p4,reduceIte,p5,p6,p7,p8, c1]
  · replace h := run_f c1 h
    try simp only [↓RA,RB,RS, fx42,p1,p2,p3,p4,reduceIte,p5,p6,p7,p8, c1]
    refine CondH.mk (fun c2 => ?_) (fun c2 => ?_)
    · replace h := run_t c2 h
      try simp only [↓RA,RB,RS, fx42,p1,p2,p3,p4,reduceIte,p5,p6,p7,p8, c1, c2]
      obtain ⟨v20, hv20, h⟩ := run_bind h
      refine CallH.mk [false, false, false] (spec_l1In_sat hv20) ?_ ?_ <;> try simp only [↓RA,RB,RS, fx42,p1,p2,p3,p4,reduceIte,p5,p6,p7,p8, c1, c2]
      refine CondH.mk (fun c3 => ?_) (fun c3 => ?_)
      · replace h := run_t c3 h
        try simp only [↓RA,RB,RS, fx42,p1,p2,p3,p4,reduceIte,p5,p6,p7,p8, c1, c2, c3]
        refine Mg.know_sl (b := false) (sz := 1) (es := a0.Vars.map Sx) 5 (by try simp only [↓RA,RB,RS, fx42,p1,p2,p3,p4,reduceIte,p5,p6,p7,p8, c1, c2, c3]) fun hl5 => ?_; rw [List.length_map] at hl5
        replace h := run_loop h
        refine Mg.forN h (fun i4 s4 => [(1, .box (.pv ((Linear.pv false) a0))), (3, .val (.pv (I (i4 : Int))))]) (fun i4 s4 => []) (St.le_mk2 (by try simp only [↓RA,RB,RS, fx42,p1,p2,p3,p4,reduceIte,p5,p6,p7,p8, c1, c2, c3])) (fun i4 s4 hi h => ?_) (fun s4 h => ?_)
        · have w4 := wrap_succ (i := i4) (by omega)
          try simp only [↓RA,RB,RS, fx42,p1,p2,p3,p4,reduceIte,p5,p6,p7,p8, c1, c2, c3]
          refine CondH.tt (decide_eq_true (by omega)) (fun c4 => ?_)
          try simp only [↓RA,RB,RS, fx42,p1,p2,p3,p4,reduceIte,p5,p6,p7,p8, c1, c2, c3, c4]
          obtain ⟨v33, hv33, h⟩ := run_bind h
          refine IdxH.mk (f := Sx) hv33 ?_ ?_ <;> try simp only [↓RA,RB,RS, fx42,p1,p2,p3,p4,reduceIte,p5,p6,p7,p8, c1, c2, c3, c4]
          obtain ⟨v35, hv35, h⟩ := run_bind h
          refine CallH.mk [false] (spec_l2Var_sat hv35) ?_ ?_ <;> try simp only [↓RA,RB,RS, fx42,p1,p2,p3,p4,reduceIte,p5,p6,p7,p8, c1, c2, c3, c4]
          refine CondH.mk (fun c5 => ?_) (fun c5 => ?_)
          · replace h := run_t c5 h
            try simp only [↓RA,RB,RS, fx42,p1,p2,p3,p4,reduceIte,p5,p6,p7,p8, c1, c2, c3, c4, c5]
            obtain ⟨v41, hv41, h⟩ := run_bind h
            refine IdxH.mk (f := I) hv41 ?_ ?_ <;> try simp only [↓RA,RB,RS, fx42,p1,p2,p3,p4,reduceIte,p5,p6,p7,p8, c1, c2, c3, c4, c5]
            obtain ⟨v43, hv43, h⟩ := run_bind h
            refine CallH.mk [false, false, false] (spec_l1In_sat hv43) ?_ ?_ <;> try simp only [↓RA,RB,RS, fx42,p1,p2,p3,p4,reduceIte,p5,p6,p7,p8, c1, c2, c3, c4, c5]
            refine CondH.mk (fun c6 => ?_) (fun c6 => ?_)
            · replace h := run_t c6 h
              try simp only [↓RA,RB,RS, fx42,p1,p2,p3,p4,reduceIte,p5,p6,p7,p8, c1, c2, c3, c4, c5, c6]
              refine CondH.mk (fun c7 => ?_) (fun c7 => ?_)
              · replace h := run_t c7 h
                try simp only [↓RA,RB,RS, fx42,p1,p2,p3,p4,reduceIte,p5,p6,p7,p8, c1, c2, c3, c4, c5, c6, c7]
                obtain ⟨v54, hv54, h⟩ := run_bind h
                refine IdxH.mk (f := Sx) hv54 ?_ ?_ <;> try simp only [↓RA,RB,RS, fx42,p1,p2,p3,p4,reduceIte,p5,p6,p7,p8, c1, c2, c3, c4, c5, c6, c7]
                obtain ⟨v59, hv59, h⟩ := run_bind h
                refine IdxH.mk (f := Sx) hv59 ?_ ?_ <;> try simp only [↓RA,RB,RS, fx42,p1,p2,p3,p4,reduceIte,p5,p6,p7,p8, c1, c2, c3, c4, c5, c6, c7]
                refine And.intro (DrawH.none (by rfl) (by first | rfl | (try simp only [↓RA,RB,RS, fx42,p1,p2,p3,p4,reduceIte,p5,p6,p7,p8] <;> rfl)) (by first | rfl | (try simp only [↓RA,RB,RS, fx42,p1,p2,p3,p4,reduceIte,p5,p6,p7,p8] <;> rfl)) (by first | rfl | (try simp only [↓RA,RB,RS, fx42,p1,p2,p3,p4,reduceIte,p5,p6,p7,p8] <;> rfl))) ?_
                try simp only [↓RA,RB,RS, fx42,p1,p2,p3,p4,reduceIte,p5,p6,p7,p8, c1, c2, c3, c4, c5, c6, c7]
                refine CondH.mk (fun c8 => ?_) (fun c8 => ?_)
                · replace h := run_t c8 h
                  try simp only [↓RA,RB,RS, fx42,p1,p2,p3,p4,reduceIte,p5,p6,p7,p8, c1, c2, c3, c4, c5, c6, c7, c8]
                  have h := run_some h
                  refine RdH.mk ⟨_, h, ?_⟩
                  refine St.le_mk2 ?_
                  try simp only [↓RA,RB,RS, fx42,p1,p2,p3,p4,reduceIte,p5,p6,p7,p8, c1, c2, c3, c4, c5, c6, c7, c8, w4]
                · replace h := run_f c8 h
                  try simp only [↓RA,RB,RS, fx42,p1,p2,p3,p4,reduceIte,p5,p6,p7,p8, c1, c2, c3, c4, c5, c6, c7, c8]
                  have h := run_some h
                  obtain rfl : _ = r := h
                  refine FinH.l ?_
                  try simp only [↓RA,RB,RS, fx42,p1,p2,p3,p4,reduceIte,p5,p6,p7,p8, c1, c2, c3, c4, c5, c6, c7, c8]
              · replace h := run_f c7 h
                try simp only [↓RA,RB,RS, fx42,p1,p2,p3,p4,reduceIte,p5,p6,p7,p8, c1, c2, c3, c4, c5, c6, c7]
                refine And.intro (DrawH.none (by rfl) (by first | rfl | (try simp only [↓RA,RB,RS, fx42,p1,p2,p3,p4,reduceIte,p5,p6,p7,p8] <;> rfl)) (by first | rfl | (try simp only [↓RA,RB,RS, fx42,p1,p2,p3,p4,reduceIte,p5,p6,p7,p8] <;> rfl)) (by first | rfl | (try simp only [↓RA,RB,RS, fx42,p1,p2,p3,p4,reduceIte,p5,p6,p7,p8] <;> rfl))) ?_
                try simp only [↓RA,RB,RS, fx42,p1,p2,p3,p4,reduceIte,p5,p6,p7,p8, c1, c2, c3, c4, c5, c6, c7]
                have h := run_some h
                refine RdH.mk ⟨_, h, ?_⟩
                refine St.le_mk2 ?_
                try simp only [↓RA,RB,RS, fx42,p1,p2,p3,p4,reduceIte,p5,p6,p7,p8, c1, c2, c3, c4, c5, c6, c7, w4]
            · replace h := run_f c6 h
              try simp only [↓RA,RB,RS, fx42,p1,p2,p3,p4,reduceIte,p5,p6,p7,p8, c1, c2, c3, c4, c5, c6]
              refine And.intro (DrawH.none (by rfl) (by first | rfl | (try simp only [↓RA,RB,RS, fx42,p1,p2,p3,p4,reduceIte,p5,p6,p7,p8] <;> rfl)) (by first | rfl | (try simp only [↓RA,RB,RS, fx42,p1,p2,p3,p4,reduceIte,p5,p6,p7,p8] <;> rfl)) (by first | rfl | (try simp only [↓RA,RB,RS, fx42,p1,p2,p3,p4,reduceIte,p5,p6,p7,p8] <;> rfl))) ?_
              try simp only [↓RA,RB,RS, fx42,p1,p2,p3,p4,reduceIte,p5,p6,p7,p8, c1, c2, c3, c4, c5, c6]
              have h := run_some h
              obtain rfl : _ = r := h
              refine FinH.l ?_
              try simp only [↓RA,RB,RS, fx42,p1,p2,p3,p4,reduceIte,p5,p6,p7,p8, c1, c2, c3, c4, c5, c6]
          · replace h := run_f c5 h
            try simp only [↓RA,RB,RS, fx42,p1,p2,p3,p4,reduceIte,p5,p6,p7,p8, c1, c2, c3, c4, c5]
            refine And.intro (DrawH.none (by rfl) (by first | rfl | (try simp only [↓RA,RB,RS, fx42,p1,p2,p3,p4,reduceIte,p5,p6,p7,p8] <;> rfl)) (by first | rfl | (try simp only [↓RA,RB,RS, fx42,p1,p2,p3,p4,reduceIte,p5,p6,p7,p8] <;> rfl)) (by first | rfl | (try simp only [↓RA,RB,RS, fx42,p1,p2,p3,p4,reduceIte,p5,p6,p7,p8] <;> rfl))) ?_
            try simp only [↓RA,RB,RS, fx42,p1,p2,p3,p4,reduceIte,p5,p6,p7,p8, c1, c2, c3, c4, c5]
            have h := run_some h
            obtain rfl : _ = r := h
            refine FinH.l ?_
            try simp only [↓RA,RB,RS, fx42,p1,p2,p3,p4,reduceIte,p5,p6,p7,p8, c1, c2, c3, c4, c5]
        · try simp only [↓RA,RB,RS, fx42,p1,p2,p3,p4,reduceIte,p5,p6,p7,p8, c1, c2, c3]
          refine CondH.ff (decide_eq_false (by omega)) (fun c9 => ?_)
          try simp only [↓RA,RB,RS, fx42,p1,p2,p3,p4,reduceIte,p5,p6,p7,p8, c1, c2, c3, c9]
          have h := run_some h
          obtain rfl : _ = r := h
          refine FinH.l ?_
          try simp only [↓RA,RB,RS, fx42,p1,p2,p3,p4,reduceIte,p5,p6,p7,p8, c1, c2, c3, c9]
      · replace h := run_f c3 h
        try simp only [↓RA,RB,RS, fx42,p1,p2,p3,p4,reduceIte,p5,p6,p7,p8, c1, c2, c3]
        have h := run_some h
        obtain rfl : _ = r := h
        refine FinH.l ?_
        try simp only [↓RA,RB,RS, fx42,p1,p2,p3,p4,reduceIte,p5,p6,p7,p8, c1, c2, c3]
    · replace h := run_f c2 h
      try simp only [↓RA,RB,RS, fx42,p1,p2,p3,p4,reduceIte,p5,p6,p7,p8, c1, c2]
      have h := run_some h
      obtain rfl : _ = r := h
      refine FinH.l ?_
      try simp only [↓RA,RB,RS, fx42,p1,p2,p3,p4,reduceIte,p5,p6,p7,p8, c1, c2]

def fx27 := A @TB3 <| A @TB4 <| A @TB9 <| A @TB28 <| A @TB29 <| A @TB31 <| A @TB34 <| A @TB36 <| A @TB38 <| A @TB58 <| @mixedT
theorem spec_l25BoundN_sat (n : Nat) : (∀ (a0 : List Majorant) (a1 : Term) (r : Linear × Bool), spec_l25BoundN n a0 a1 = some r → Sat Tryz.prog 27 [(.sl false 3 (a0.map (Majorant.pv false))), ((Term.pv false) a1)] (.tup [((Linear.pv true) r.1), (B r.2)])) := by
  induction n with
  | zero => exact fun _ _ _ h => by simp [spec_l25BoundN] at h
  | succ n ih =>
    refine fun a0 a1 r h => ?_
    replace h := Run.of h
    rw [spec_l25BoundN] at h
    refine Sat.of_m (nt := 69) (rs := [.cell 4 31, .tmp 5]) (n := 100000) Tryz.func27 rfl rfl rfl rfl (by simp) ?_
    try simp only [↓RA,RB,RS, fx27,p1,p2,p3,p4,reduceIte,p5,p6,p7,p8]
    repeat (first | with_reducible refine noR_and (by repeat (first | exact noR_empty _ _ | exact noR_nilS _ _ | refine noR_mk _ _ _ _ _ rfl ?_ | refine noR_mkS _ _ _ _ _ rfl ?_)) ?_ | with_reducible refine noC_and (by repeat (first | exact noC_empty _ _ (by try simp only [↓RA,RB,RS, fx27,p1,p2,p3,p4,reduceIte,p5,p6,p7,p8]) | exact noC_nilS _ _ (by try simp only [↓RA,RB,RS, fx27,p1,p2,p3,p4,reduceIte,p5,p6,p7,p8]) | refine noC_mk _ _ _ _ _ rfl ?_ | refine noC_mkS _ _ _ _ _ rfl ?_)) ?_ | with_reducible refine and_ac ?_ | with_reducible refine And.intro (a := _ = List.range _) (by rfl) ?_)
    obtain ⟨v13, hv13, h⟩ := run_bind h
    refine CallH.mk [false] (spec_l2Var_sat hv13) ?_ ?_ <;> try simp only [↓RA,RB,RS, fx27,p1,p2,p3,p4,reduceIte,p5,p6,p7,p8]
    refine CondH.mk (fun c1 => ?_) (fun c1 => ?_)
    · replace h := run_t c1 h
      try simp only [↓RA,RB,RS, fx27,p1,p2,p3,p4,reduceIte,p5,p6,p7,p8, c1]
      repeat (first | with_reducible refine noR_and (by repeat (first | exact noR_empty _ _ | exact noR_nilS _ _ | refine noR_mk _ _ _ _ _ rfl ?_ | refine noR_mkS _ _ _ _ _ rfl ?_)) ?_ | with_reducible refine noC_and (by repeat (first | exact noC_empty _ _ (by try simp only [↓RA,RB,RS, fx27,p1,p2,p3,p4,reduceIte,p5,p6,p7,p8]) | exact noC_nilS _ _ (by try simp only [↓RA,RB,RS, fx27,p1,p2,p3,p4,reduceIte,p5,p6,p7,p8]) | refine noC_mk _ _ _ _ _ rfl ?_ | refine noC_mkS _ _ _ _ _ rfl ?_)) ?_ | with_reducible refine and_ac ?_ | with_reducible refine And.intro (a := _ = List.range _) (by rfl) ?_)
      have h := run_some h
      obtain rfl : _ = r := h
      refine FinH.l ?_
      try simp only [↓RA,RB,RS, fx27,p1,p2,p3,p4,reduceIte,p5,p6,p7,p8, c1]
    · replace h := run_f c1 h
      try simp only [↓RA,RB,RS, fx27,p1,p2,p3,p4,reduceIte,p5,p6,p7,p8, c1]
      obtain ⟨v25, hv25, h⟩ := run_bind h
      refine CallH.mk [false, false, false] (spec_l25Find_sat hv25) ?_ ?_ <;> try simp only [↓RA,RB,RS, fx27,p1,p2,p3,p4,reduceIte,p5,p6,p7,p8, c1]
      refine CondH.mk (fun c2 => ?_) (fun c2 => ?_)
      · replace h := run_t c2 h
        try simp only [↓RA,RB,RS, fx27,p1,p2,p3,p4,reduceIte,p5,p6,p7,p8, c1, c2]
        have h := run_some h
        obtain rfl : _ = r := h
        refine FinH.l ?_
        try simp only [↓RA,RB,RS, fx27,p1,p2,p3,p4,reduceIte,p5,p6,p7,p8, c1, c2]
      · replace h := run_f c2 h
        try simp only [↓RA,RB,RS, fx27,p1,p2,p3,p4,reduceIte,p5,p6,p7,p8, c1, c2]
        obtain ⟨v31, hv31, h⟩ := run_bind h
        refine IdxH.mk (f := (Majorant.pv false)) hv31 ?_ ?_ <;> try simp only [↓RA,RB,RS, fx27,p1,p2,p3,p4,reduceIte,p5,p6,p7,p8, c1, c2]
        repeat (first | with_reducible refine noR_and (by repeat (first | exact noR_empty _ _ | exact noR_nilS _ _ | refine noR_mk _ _ _ _ _ rfl ?_ | refine noR_mkS _ _ _ _ _ rfl ?_)) ?_ | with_reducible refine noC_and (by repeat (first | exact noC_empty _ _ (by try simp only [↓RA,RB,RS, fx27,p1,p2,p3,p4,reduceIte,p5,p6,p7,p8]) | exact noC_nilS _ _ (by try simp only [↓RA,RB,RS, fx27,p1,p2,p3,p4,reduceIte,p5,p6,p7,p8]) | refine noC_mk _ _ _ _ _ rfl ?_ | refine noC_mkS _ _ _ _ _ rfl ?_)) ?_ | with_reducible refine and_ac ?_ | with_reducible refine And.intro (a := _ = List.range _) (by rfl) ?_)
        refine Mg.know_sl (b := false) (sz := 2) (es := a1.Args.map (Term.pv false)) 23 (by try simp only [↓RA,RB,RS, fx27,p1,p2,p3,p4,reduceIte,p5,p6,p7,p8, c1, c2]) fun hl23 => ?_; rw [List.length_map] at hl23
        replace h := run_loop h
        refine Mg.forN h (fun i8 s8 => [(0, .val (.pv (.sl false 3 (a0.map (Majorant.pv false))))), (3, .box (.pv ((Term.pv false) a1))), (4, .box (.node [(.pv (.sl true 1 [])), (.pv (.sl true 1 [])), (.pv (I (0 : Int)))])), (6, .val (.pv (I v25))), (7, .box (.node [(.own 9324), (.own 9325), (.pv (I s8.1))])), (8, .val (.pv (I (i8 : Int))))]) (fun i8 s8 => [(9324, (1, s8.2.1.map Sx)), (9325, (1, s8.2.2.map I))]) (St.le_trans (St.le_nilB (x := (.node [(.pv (.sl true 1 [])), (.pv (.sl true 1 [])), (.pv (I v31.Constant))])) 7 [0] 9324 1 (by repeat (first | exact noC_empty _ _ (by try simp only [↓RA,RB,RS, fx27,p1,p2,p3,p4,reduceIte,p5,p6,p7,p8]) | exact noC_nilS _ _ (by try simp only [↓RA,RB,RS, fx27,p1,p2,p3,p4,reduceIte,p5,p6,p7,p8]) | refine noC_mk _ _ _ _ _ rfl ?_ | refine noC_mkS _ _ _ _ _ rfl ?_)) (by try simp only [↓RA,RB,RS, fx27,p1,p2,p3,p4,reduceIte,p5,p6,p7,p8, c1, c2]) (by try simp only [↓RA,RB,RS, fx27,p1,p2,p3,p4,reduceIte,p5,p6,p7,p8, c1, c2]) (by try simp only [↓RA,RB,RS, fx27,p1,p2,p3,p4,reduceIte,p5,p6,p7,p8, c1, c2])) (St.le_trans (St.le_nilB (x := (.node [(.own 9324), (.pv (.sl true 1 [])), (.pv (I v31.Constant))])) 7 [1] 9325 1 (by repeat (first | exact noC_empty _ _ (by try simp only [↓RA,RB,RS, fx27,p1,p2,p3,p4,reduceIte,p5,p6,p7,p8]) | exact noC_nilS _ _ (by try simp only [↓RA,RB,RS, fx27,p1,p2,p3,p4,reduceIte,p5,p6,p7,p8]) | refine noC_mk _ _ _ _ _ rfl ?_ | refine noC_mkS _ _ _ _ _ rfl ?_)) (by try simp only [↓RA,RB,RS, fx27,p1,p2,p3,p4,reduceIte,p5,p6,p7,p8, c1, c2]) (by try simp only [↓RA,RB,RS, fx27,p1,p2,p3,p4,reduceIte,p5,p6,p7,p8, c1, c2]) (by try simp only [↓RA,RB,RS, fx27,p1,p2,p3,p4,reduceIte,p5,p6,p7,p8, c1, c2])) (St.le_mk2 (by try simp only [↓RA,RB,RS, fx27,p1,p2,p3,p4,reduceIte,p5,p6,p7,p8, c1, c2])))) (fun i8 s8 hi h => ?_) (fun s8 h => ?_)
        · have w8 := wrap_succ (i := i8) (by omega)
          try simp only [↓RA,RB,RS, fx27,p1,p2,p3,p4,reduceIte,p5,p6,p7,p8, c1, c2]
          refine CondH.tt (decide_eq_true (by omega)) (fun c3 => ?_)
          try simp only [↓RA,RB,RS, fx27,p1,p2,p3,p4,reduceIte,p5,p6,p7,p8, c1, c2, c3]
          obtain ⟨v47, hv47, h⟩ := run_bind h
          refine IdxH.mk (f := (Term.pv false)) hv47 ?_ ?_ <;> try simp only [↓RA,RB,RS, fx27,p1,p2,p3,p4,reduceIte,p5,p6,p7,p8, c1, c2, c3]
          obtain ⟨v49, hv49, h⟩ := run_bind h
          refine CallH.mk [false, false] (ih _ _ _ hv49) ?_ ?_ <;> try simp only [↓RA,RB,RS, fx27,p1,p2,p3,p4,reduceIte,p5,p6,p7,p8, c1, c2, c3]
          repeat (first | with_reducible refine noR_and (by repeat (first | exact noR_empty _ _ | exact noR_nilS _ _ | refine noR_mk _ _ _ _ _ rfl ?_ | refine noR_mkS _ _ _ _ _ rfl ?_)) ?_ | with_reducible refine noC_and (by repeat (first | exact noC_empty _ _ (by try simp only [↓RA,RB,RS, fx27,p1,p2,p3,p4,reduceIte,p5,p6,p7,p8]) | exact noC_nilS _ _ (by try simp only [↓RA,RB,RS, fx27,p1,p2,p3,p4,reduceIte,p5,p6,p7,p8]) | refine noC_mk _ _ _ _ _ rfl ?_ | refine noC_mkS _ _ _ _ _ rfl ?_)) ?_ | with_reducible refine and_ac ?_ | with_reducible refine And.intro (a := _ = List.range _) (by rfl) ?_)
          refine CondH.mk (fun c4 => ?_) (fun c4 => ?_)
          · replace h := run_t c4 h
            try simp only [↓RA,RB,RS, fx27,p1,p2,p3,p4,reduceIte,p5,p6,p7,p8, c1, c2, c3, c4]
            obtain ⟨v59, hv59, h⟩ := run_bind h
            refine IdxH.mk (f := (Majorant.pv false)) hv59 ?_ ?_ <;> try simp only [↓RA,RB,RS, fx27,p1,p2,p3,p4,reduceIte,p5,p6,p7,p8, c1, c2, c3, c4]
            obtain ⟨v63, hv63, h⟩ := run_bind h
            refine IdxH.mk (f := I) hv63 ?_ ?_ <;> try simp only [↓RA,RB,RS, fx27,p1,p2,p3,p4,reduceIte,p5,p6,p7,p8, c1, c2, c3, c4]
            obtain ⟨v65, hv65, h⟩ := run_bind h
            refine CallH.mk [false, false, false] (spec_l25Plus_sat hv65) ?_ ?_ <;> try simp only [↓RA,RB,RS, fx27,p1,p2,p3,p4,reduceIte,p5,p6,p7,p8, c1, c2, c3, c4]
            repeat (first | with_reducible refine noR_and (by repeat (first | exact noR_empty _ _ | exact noR_nilS _ _ | refine noR_mk _ _ _ _ _ rfl ?_ | refine noR_mkS _ _ _ _ _ rfl ?_)) ?_ | with_reducible refine noC_and (by repeat (first | exact noC_empty _ _ (by try simp only [↓RA,RB,RS, fx27,p1,p2,p3,p4,reduceIte,p5,p6,p7,p8]) | exact noC_nilS _ _ (by try simp only [↓RA,RB,RS, fx27,p1,p2,p3,p4,reduceIte,p5,p6,p7,p8]) | refine noC_mk _ _ _ _ _ rfl ?_ | refine noC_mkS _ _ _ _ _ rfl ?_)) ?_ | with_reducible refine and_ac ?_ | with_reducible refine And.intro (a := _ = List.range _) (by rfl) ?_)
            refine And.intro (DrawH.mk [] [1040, 1041] (by rfl) (by first | rfl | (try simp only [↓RA,RB,RS, fx27,p1,p2,p3,p4,reduceIte,p5,p6,p7,p8] <;> rfl)) (by first | rfl | (try simp only [↓RA,RB,RS, fx27,p1,p2,p3,p4,reduceIte,p5,p6,p7,p8] <;> rfl)) (by first | rfl | (try simp only [↓RA,RB,RS, fx27,p1,p2,p3,p4,reduceIte,p5,p6,p7,p8] <;> rfl)) (by simp) (by try simp only [↓RA,RB,RS, fx27,p1,p2,p3,p4,reduceIte,p5,p6,p7,p8]; repeat (first | exact noC_empty _ _ (by try simp only [↓RA,RB,RS, fx27,p1,p2,p3,p4,reduceIte,p5,p6,p7,p8]) | exact noC_nilS _ _ (by try simp only [↓RA,RB,RS, fx27,p1,p2,p3,p4,reduceIte,p5,p6,p7,p8]) | refine noC_mk _ _ _ _ _ rfl ?_ | refine noC_mkS _ _ _ _ _ rfl ?_ | refine And.intro ?_ ?_))) ?_
            try simp only [↓RA,RB,RS, fx27,p1,p2,p3,p4,reduceIte,p5,p6,p7,p8, c1, c2, c3, c4]
            have h := run_some h
            refine RdH.mk ⟨_, h, ?_⟩
            refine St.le_trans (St.le_mk (S := [(0, .val (.pv (.sl false 3 (a0.map (Majorant.pv false))))), (3, .box (.pv ((Term.pv false) a1))), (4, .box (.node [(.pv (.sl true 1 [])), (.pv (.sl true 1 [])), (.pv (I (0 : Int)))])), (6, .val (.pv (I v25))), (7, .box (.node [(.own 1040), (.own 1041), (.pv (I v65.Constant))])), (8, .val (.pv (I (IntKind.i64.wrap ((i8 : Int) + (1 : Int))))))]) (O := [(1040, (1, v65.Vars.map Sx)), (1041, (1, v65.Slopes.map I))]) (by try simp only [↓RA,RB,RS, fx27,p1,p2,p3,p4,reduceIte,p5,p6,p7,p8, c1, c2, c3, c4, w8]) (by try simp only [↓RA,RB,RS, fx27,p1,p2,p3,p4,reduceIte,p5,p6,p7,p8, c1, c2, c3, c4, w8])) ?_
            refine St.le_rn 1040 9324 (by decide) (by repeat (first | exact noC_empty _ _ (by try simp only [↓RA,RB,RS, fx27,p1,p2,p3,p4,reduceIte,p5,p6,p7,p8]) | exact noC_nilS _ _ (by try simp only [↓RA,RB,RS, fx27,p1,p2,p3,p4,reduceIte,p5,p6,p7,p8]) | refine noC_mk _ _ _ _ _ rfl ?_ | refine noC_mkS _ _ _ _ _ rfl ?_)) ?_
            refine St.le_trans (St.le_mk (S := [(0, .val (.pv (.sl false 3 (a0.map (Majorant.pv false))))), (3, .box (.pv ((Term.pv false) a1))), (4, .box (.node [(.pv (.sl true 1 [])), (.pv (.sl true 1 [])), (.pv (I (0 : Int)))])), (6, .val (.pv (I v25))), (7, .box (.node [(.own 9324), (.own 1041), (.pv (I v65.Constant))])), (8, .val (.pv (I (IntKind.i64.wrap ((i8 : Int) + (1 : Int))))))]) (O := [(9324, (1, v65.Vars.map Sx)), (1041, (1, v65.Slopes.map I))]) (by try simp only [↓RA,RB,RS, fx27,p1,p2,p3,p4,reduceIte,p5,p6,p7,p8, c1, c2, c3, c4, w8]) (by try simp only [↓RA,RB,RS, fx27,p1,p2,p3,p4,reduceIte,p5,p6,p7,p8, c1, c2, c3, c4, w8])) ?_
            refine St.le_rn 1041 9325 (by decide) (by repeat (first | exact noC_empty _ _ (by try simp only [↓RA,RB,RS, fx27,p1,p2,p3,p4,reduceIte,p5,p6,p7,p8]) | exact noC_nilS _ _ (by try simp only [↓RA,RB,RS, fx27,p1,p2,p3,p4,reduceIte,p5,p6,p7,p8]) | refine noC_mk _ _ _ _ _ rfl ?_ | refine noC_mkS _ _ _ _ _ rfl ?_)) ?_
            refine St.le_mk2 ?_
            try simp only [↓RA,RB,RS, fx27,p1,p2,p3,p4,reduceIte,p5,p6,p7,p8, c1, c2, c3, c4, w8]
          · replace h := run_f c4 h
            try simp only [↓RA,RB,RS, fx27,p1,p2,p3,p4,reduceIte,p5,p6,p7,p8, c1, c2, c3, c4]
            have h := run_some h
            obtain rfl : _ = r := h
            refine FinH.l ?_
            try simp only [↓RA,RB,RS, fx27,p1,p2,p3,p4,reduceIte,p5,p6,p7,p8, c1, c2, c3, c4]
        · try simp only [↓RA,RB,RS, fx27,p1,p2,p3,p4,reduceIte,p5,p6,p7,p8, c1, c2]
          refine CondH.ff (decide_eq_false (by omega)) (fun c5 => ?_)
          try simp only [↓RA,RB,RS, fx27,p1,p2,p3,p4,reduceIte,p5,p6,p7,p8, c1, c2, c5]
          obtain ⟨v68, hv68, h⟩ := run_bind h
          refine CallH.mk [false] (spec_l25Linear_sat hv68) ?_ ?_ <;> try simp only [↓RA,RB,RS, fx27,p1,p2,p3,p4,reduceIte,p5,p6,p7,p8, c1, c2, c5]
          refine And.intro (DrawH.none (by rfl) (by first | rfl | (try simp only [↓RA,RB,RS, fx27,p1,p2,p3,p4,reduceIte,p5,p6,p7,p8] <;> rfl)) (by first | rfl | (try simp only [↓RA,RB,RS, fx27,p1,p2,p3,p4,reduceIte,p5,p6,p7,p8] <;> rfl)) (by first | rfl | (try simp only [↓RA,RB,RS, fx27,p1,p2,p3,p4,reduceIte,p5,p6,p7,p8] <;> rfl))) ?_
          try simp only [↓RA,RB,RS, fx27,p1,p2,p3,p4,reduceIte,p5,p6,p7,p8, c1, c2, c5]
          have h := run_some h
          obtain rfl : _ = r := h
          refine FinH.l ?_
          try simp only [↓RA,RB,RS, fx27,p1,p2,p3,p4,reduceIte,p5,p6,p7,p8, c1, c2, c5]
theorem spec_l25Bound_sat {a0 : List Majorant} {a1 : Term} {r : Linear × Bool} (h : spec_l25Bound a0 a1 = some r) : Sat Tryz.prog 27 [(.sl false 3 (a0.map (Majorant.pv false))), ((Term.pv false) a1)] (.tup [((Linear.pv true) r.1), (B r.2)]) := by
  obtain ⟨n, hn⟩ := lim_some h
  exact (spec_l25BoundN_sat n) _ _ _ hn

def fx7 := A @TB4 <| A @TB31 <| A @TB34 <| @TB38
theorem spec_MajorantOf_sat {a0 : List Majorant} {a1 : Term}  {r : Linear × Bool} (h : spec_MajorantOf a0 a1 = some r) : Sat Tryz.prog 7 [(.sl false 3 (a0.map (Majorant.pv false))), ((Term.pv false) a1)] (.tup [((Linear.pv true) r.1), (B r.2)]) := by
  replace h := Run.of h
  unfold spec_MajorantOf at h
  refine Sat.of_m (nt := 27) (rs := [.cell 4 31, .tmp 5]) (n := 100000) Tryz.func7 rfl rfl rfl rfl (by simp) ?_
  try simp only [↓RA,RB,RS, fx7,p1,p2,p3,p4,reduceIte,p5,p6,p7,p8]
  repeat (first | with_reducible refine noR_and (by repeat (first | exact noR_empty _ _ | exact noR_nilS _ _ | refine noR_mk _ _ _ _ _ rfl ?_ | refine noR_mkS _ _ _ _ _ rfl ?_)) ?_ | with_reducible refine noC_and (by repeat (first | exact noC_empty _ _ (by try simp only [↓RA,RB,RS, fx7,p1,p2,p3,p4,reduceIte,p5,p6,p7,p8]) | exact noC_nilS _ _ (by try simp only [↓RA,RB,RS, fx7,p1,p2,p3,p4,reduceIte,p5,p6,p7,p8]) | refine noC_mk _ _ _ _ _ rfl ?_ | refine noC_mkS _ _ _ _ _ rfl ?_)) ?_ | with_reducible refine and_ac ?_ | with_reducible refine And.intro (a := _ = List.range _) (by rfl) ?_)
  obtain ⟨v9, hv9, h⟩ := run_bind h
  refine CallH.mk [false] (spec_l25List_sat hv9) ?_ ?_ <;> try simp only [↓RA,RB,RS, fx7,p1,p2,p3,p4,reduceIte,p5,p6,p7,p8]
  refine CondH.mk (fun c1 => ?_) (fun c1 => ?_)
  · replace h := run_t c1 h
    try simp only [↓RA,RB,RS, fx7,p1,p2,p3,p4,reduceIte,p5,p6,p7,p8, c1]
    obtain ⟨v13, hv13, h⟩ := run_bind h
    refine CallH.mk [false] (spec_l2Good_sat hv13) ?_ ?_ <;> try simp only [↓RA,RB,RS, fx7,p1,p2,p3,p4,reduceIte,p5,p6,p7,p8, c1]
    refine CondH.mk (fun c2 => ?_) (fun c2 => ?_)
    · replace h := run_t c2 h
      try simp only [↓RA,RB,RS, fx7,p1,p2,p3,p4,reduceIte,p5,p6,p7,p8, c1, c2]
      obtain ⟨v20, hv20, h⟩ := run_bind h
      refine CallH.mk [false, false] (spec_l25Bound_sat hv20) ?_ ?_ <;> try simp only [↓RA,RB,RS, fx7,p1,p2,p3,p4,reduceIte,p5,p6,p7,p8, c1, c2]
      repeat (first | with_reducible refine noR_and (by repeat (first | exact noR_empty _ _ | exact noR_nilS _ _ | refine noR_mk _ _ _ _ _ rfl ?_ | refine noR_mkS _ _ _ _ _ rfl ?_)) ?_ | with_reducible refine noC_and (by repeat (first | exact noC_empty _ _ (by try simp only [↓RA,RB,RS, fx7,p1,p2,p3,p4,reduceIte,p5,p6,p7,p8]) | exact noC_nilS _ _ (by try simp only [↓RA,RB,RS, fx7,p1,p2,p3,p4,reduceIte,p5,p6,p7,p8]) | refine noC_mk _ _ _ _ _ rfl ?_ | refine noC_mkS _ _ _ _ _ rfl ?_)) ?_ | with_reducible refine and_ac ?_ | with_reducible refine And.intro (a := _ = List.range _) (by rfl) ?_)
      refine CondH.mk (fun c3 => ?_) (fun c3 => ?_)
      · replace h := run_t c3 h
        try simp only [↓RA,RB,RS, fx7,p1,p2,p3,p4,reduceIte,p5,p6,p7,p8, c1, c2, c3]
        have h := run_some h
        obtain rfl : _ = r := h
        refine FinH.l ?_
        try simp only [↓RA,RB,RS, fx7,p1,p2,p3,p4,reduceIte,p5,p6,p7,p8, c1, c2, c3]
      · replace h := run_f c3 h
        try simp only [↓RA,RB,RS, fx7,p1,p2,p3,p4,reduceIte,p5,p6,p7,p8, c1, c2, c3]
        have h := run_some h
        obtain rfl : _ = r := h
        refine FinH.l ?_
        try simp only [↓RA,RB,RS, fx7,p1,p2,p3,p4,reduceIte,p5,p6,p7,p8, c1, c2, c3]
    · replace h := run_f c2 h
      try simp only [↓RA,RB,RS, fx7,p1,p2,p3,p4,reduceIte,p5,p6,p7,p8, c1, c2]
      have h := run_some h
      obtain rfl : _ = r := h
      refine FinH.l ?_
      try simp only [↓RA,RB,RS, fx7,p1,p2,p3,p4,reduceIte,p5,p6,p7,p8, c1, c2]
  · replace h := run_f c1 h
    try simp only [↓RA,RB,RS, fx7,p1,p2,p3,p4,reduceIte,p5,p6,p7,p8, c1]
    have h := run_some h
    obtain rfl : _ = r := h
    refine FinH.l ?_
    try simp only [↓RA,RB,RS, fx7,p1,p2,p3,p4,reduceIte,p5,p6,p7,p8, c1]

def fx41 := A @TB3 <| A @TB9 <| A @TB28 <| A @TB29 <| A @TB31 <| @mixedT
theorem spec_l25Join_sat {a0 : Linear} {a1 : Linear}  {r : Linear} (h : spec_l25Join a0 a1 = some r) : Sat Tryz.prog 41 [((Linear.pv false) a0), ((Linear.pv false) a1)] ((Linear.pv false) r) := by
  replace h := Run.of h
  unfold spec_l25Join at h
  refine Sat.of_m (nt := 45) (rs := [.cell 4 31]) (n := 100000) Tryz.func41 rfl rfl rfl rfl (by simp) ?_
  try simp only [↓RA,RB,RS, fx41,p1,p2,p3,p4,reduceIte,p5,p6,p7,p8]
  repeat (first | with_reducible refine noR_and (by repeat (first | exact noR_empty _ _ | exact noR_nilS _ _ | refine noR_mk _ _ _ _ _ rfl ?_ | refine noR_mkS _ _ _ _ _ rfl ?_)) ?_ | with_reducible refine noC_and (by repeat (first | exact noC_empty _ _ (by try simp only [↓RA,RB,RS, fx41,p1,p2,p3,p4,reduceIte,p5,p6,p7,p8]) | exact noC_nilS _ _ (by try simp only [↓RA,RB,RS, fx41,p1,p2,p3,p4,reduceIte,p5,p6,p7,p8]) | refine noC_mk _ _ _ _ _ rfl ?_ | refine noC_mkS _ _ _ _ _ rfl ?_)) ?_ | with_reducible refine and_ac ?_ | with_reducible refine And.intro (a := _ = List.range _) (by rfl) ?_)
  obtain ⟨v9, hv9, h⟩ := run_bind h
  refine CallH.mk [false, false] (spec_l25Names_sat hv9) ?_ ?_ <;> try simp only [↓RA,RB,RS, fx41,p1,p2,p3,p4,reduceIte,p5,p6,p7,p8]
  repeat (first | with_reducible refine noR_and (by repeat (first | exact noR_empty _ _ | exact noR_nilS _ _ | refine noR_mk _ _ _ _ _ rfl ?_ | refine noR_mkS _ _ _ _ _ rfl ?_)) ?_ | with_reducible refine noC_and (by repeat (first | exact noC_empty _ _ (by try simp only [↓RA,RB,RS, fx41,p1,p2,p3,p4,reduceIte,p5,p6,p7,p8]) | exact noC_nilS _ _ (by try simp only [↓RA,RB,RS, fx41,p1,p2,p3,p4,reduceIte,p5,p6,p7,p8]) | refine noC_mk _ _ _ _ _ rfl ?_ | refine noC_mkS _ _ _ _ _ rfl ?_)) ?_ | with_reducible refine and_ac ?_ | with_reducible refine And.intro (a := _ = List.range _) (by rfl) ?_)
  obtain ⟨v15, hv15, h⟩ := run_bind h
  refine CallH.mk [false, false] (spec_l1Most_sat hv15) ?_ ?_ <;> try simp only [↓RA,RB,RS, fx41,p1,p2,p3,p4,reduceIte,p5,p6,p7,p8]
  repeat (first | with_reducible refine noR_and (by repeat (first | exact noR_empty _ _ | exact noR_nilS _ _ | refine noR_mk _ _ _ _ _ rfl ?_ | refine noR_mkS _ _ _ _ _ rfl ?_)) ?_ | with_reducible refine noC_and (by repeat (first | exact noC_empty _ _ (by try simp only [↓RA,RB,RS, fx41,p1,p2,p3,p4,reduceIte,p5,p6,p7,p8]) | exact noC_nilS _ _ (by try simp only [↓RA,RB,RS, fx41,p1,p2,p3,p4,reduceIte,p5,p6,p7,p8]) | refine noC_mk _ _ _ _ _ rfl ?_ | refine noC_mkS _ _ _ _ _ rfl ?_)) ?_ | with_reducible refine and_ac ?_ | with_reducible refine And.intro (a := _ = List.range _) (by rfl) ?_)
  refine And.intro (DrawH.mk [5] [160] (by rfl) (by first | rfl | (try simp only [↓RA,RB,RS, fx41,p1,p2,p3,p4,reduceIte,p5,p6,p7,p8] <;> rfl)) (by first | rfl | (try simp only [↓RA,RB,RS, fx41,p1,p2,p3,p4,reduceIte,p5,p6,p7,p8] <;> rfl)) (by first | rfl | (try simp only [↓RA,RB,RS, fx41,p1,p2,p3,p4,reduceIte,p5,p6,p7,p8] <;> rfl)) (by try simp only [↓RA,RB,RS, fx41,p1,p2,p3,p4,reduceIte,p5,p6,p7,p8]; (try refine ⟨?_, ?_⟩) <;> repeat (first | exact noR_empty _ _ | exact noR_nilS _ _ | refine noR_mk _ _ _ _ _ rfl ?_ | refine noR_mkS _ _ _ _ _ rfl ?_)) (by try simp only [↓RA,RB,RS, fx41,p1,p2,p3,p4,reduceIte,p5,p6,p7,p8]; repeat (first | exact noC_empty _ _ (by try simp only [↓RA,RB,RS, fx41,p1,p2,p3,p4,reduceIte,p5,p6,p7,p8]) | exact noC_nilS _ _ (by try simp only [↓RA,RB,RS, fx41,p1,p2,p3,p4,reduceIte,p5,p6,p7,p8]) | refine noC_mk _ _ _ _ _ rfl ?_ | refine noC_mkS _ _ _ _ _ rfl ?_ | refine And.intro ?_ ?_))) ?_
  try simp only [↓RA,RB,RS, fx41,p1,p2,p3,p4,reduceIte,p5,p6,p7,p8]
  refine Mg.know_sl (b := false) (sz := 1) (es := v9.map Sx) 9 (by try simp only [↓RA,RB,RS, fx41,p1,p2,p3,p4,reduceIte,p5,p6,p7,p8]) fun hl9 => ?_; rw [List.length_map] at hl9
  replace h := run_loop h
  refine Mg.forN h (fun i3 s3 => [(2, .box (.pv ((Linear.pv false) a0))), (3, .box (.pv ((Linear.pv false) a1))), (4, .box (.node [(.pv (.sl true 1 [])), (.pv (.sl true 1 [])), (.pv (I (0 : Int)))])), (5, .box (.node [(.pv (.sl false 1 (v9.map Sx))), (.own 160), (.pv (I v15))])), (6, .val (.pv (I (i3 : Int))))]) (fun i3 s3 => [(160, (1, s3.map I))]) (St.le_mk2 (by try simp only [↓RA,RB,RS, fx41,p1,p2,p3,p4,reduceIte,p5,p6,p7,p8])) (fun i3 s3 hi h => ?_) (fun s3 h => ?_)
  · have w3 := wrap_succ (i := i3) (by omega)
    try simp only [↓RA,RB,RS, fx41,p1,p2,p3,p4,reduceIte,p5,p6,p7,p8]
    refine CondH.tt (decide_eq_true (by omega)) (fun c1 => ?_)
    try simp only [↓RA,RB,RS, fx41,p1,p2,p3,p4,reduceIte,p5,p6,p7,p8, c1]
    obtain ⟨v30, hv30, h⟩ := run_bind h
    refine IdxH.mk (f := Sx) hv30 ?_ ?_ <;> try simp only [↓RA,RB,RS, fx41,p1,p2,p3,p4,reduceIte,p5,p6,p7,p8, c1]
    obtain ⟨v32, hv32, h⟩ := run_bind h
    refine CallH.mk [false, false] (spec_l25Slope_sat hv32) ?_ ?_ <;> try simp only [↓RA,RB,RS, fx41,p1,p2,p3,p4,reduceIte,p5,p6,p7,p8, c1]
    obtain ⟨v37, hv37, h⟩ := run_bind h
    refine IdxH.mk (f := Sx) hv37 ?_ ?_ <;> try simp only [↓RA,RB,RS, fx41,p1,p2,p3,p4,reduceIte,p5,p6,p7,p8, c1]
    obtain ⟨v39, hv39, h⟩ := run_bind h
    refine CallH.mk [false, false] (spec_l25Slope_sat hv39) ?_ ?_ <;> try simp only [↓RA,RB,RS, fx41,p1,p2,p3,p4,reduceIte,p5,p6,p7,p8, c1]
    obtain ⟨v40, hv40, h⟩ := run_bind h
    refine CallH.mk [false, false] (spec_l1Most_sat hv40) ?_ ?_ <;> try simp only [↓RA,RB,RS, fx41,p1,p2,p3,p4,reduceIte,p5,p6,p7,p8, c1]
    repeat (first | with_reducible refine noR_and (by repeat (first | exact noR_empty _ _ | exact noR_nilS _ _ | refine noR_mk _ _ _ _ _ rfl ?_ | refine noR_mkS _ _ _ _ _ rfl ?_)) ?_ | with_reducible refine noC_and (by repeat (first | exact noC_empty _ _ (by try simp only [↓RA,RB,RS, fx41,p1,p2,p3,p4,reduceIte,p5,p6,p7,p8]) | exact noC_nilS _ _ (by try simp only [↓RA,RB,RS, fx41,p1,p2,p3,p4,reduceIte,p5,p6,p7,p8]) | refine noC_mk _ _ _ _ _ rfl ?_ | refine noC_mkS _ _ _ _ _ rfl ?_)) ?_ | with_reducible refine and_ac ?_ | with_reducible refine And.intro (a := _ = List.range _) (by rfl) ?_)
    obtain ⟨v42, hv42, h⟩ := run_bind h
    refine AppH.mk (f := I) (fun _ => rfl) hv42 ?_ ?_ ?_ <;> try simp only [↓RA,RB,RS, fx41,p1,p2,p3,p4,reduceIte,p5,p6,p7,p8, c1]
    repeat (first | with_reducible refine noR_and (by repeat (first | exact noR_empty _ _ | exact noR_nilS _ _ | refine noR_mk _ _ _ _ _ rfl ?_ | refine noR_mkS _ _ _ _ _ rfl ?_)) ?_ | with_reducible refine noC_and (by repeat (first | exact noC_empty _ _ (by try simp only [↓RA,RB,RS, fx41,p1,p2,p3,p4,reduceIte,p5,p6,p7,p8]) | exact noC_nilS _ _ (by try simp only [↓RA,RB,RS, fx41,p1,p2,p3,p4,reduceIte,p5,p6,p7,p8]) | refine noC_mk _ _ _ _ _ rfl ?_ | refine noC_mkS _ _ _ _ _ rfl ?_)) ?_ | with_reducible refine and_ac ?_ | with_reducible refine And.intro (a := _ = List.range _) (by rfl) ?_)
    refine And.intro (DrawH.mk [] [656, 672] (by rfl) (by first | rfl | (try simp only [↓RA,RB,RS, fx41,p1,p2,p3,p4,reduceIte,p5,p6,p7,p8] <;> rfl)) (by first | rfl | (try simp only [↓RA,RB,RS, fx41,p1,p2,p3,p4,reduceIte,p5,p6,p7,p8] <;> rfl)) (by first | rfl | (try simp only [↓RA,RB,RS, fx41,p1,p2,p3,p4,reduceIte,p5,p6,p7,p8] <;> rfl)) (by simp) (by try simp only [↓RA,RB,RS, fx41,p1,p2,p3,p4,reduceIte,p5,p6,p7,p8]; repeat (first | exact noC_empty _ _ (by try simp only [↓RA,RB,RS, fx41,p1,p2,p3,p4,reduceIte,p5,p6,p7,p8]) | exact noC_nilS _ _ (by try simp only [↓RA,RB,RS, fx41,p1,p2,p3,p4,reduceIte,p5,p6,p7,p8]) | refine noC_mk _ _ _ _ _ rfl ?_ | refine noC_mkS _ _ _ _ _ rfl ?_ | refine And.intro ?_ ?_))) ?_
    try simp only [↓RA,RB,RS, fx41,p1,p2,p3,p4,reduceIte,p5,p6,p7,p8, c1]
    have h := run_some h
    refine RdH.mk ⟨_, h, ?_⟩
    refine St.le_trans (St.le_mk (S := [(2, .box (.pv ((Linear.pv false) a0))), (3, .box (.pv ((Linear.pv false) a1))), (4, .box (.node [(.pv (.sl true 1 [])), (.pv (.sl true 1 [])), (.pv (I (0 : Int)))])), (5, .box (.node [(.pv (.sl false 1 (v9.map Sx))), (.own 672), (.pv (I v15))])), (6, .val (.pv (I (IntKind.i64.wrap ((i3 : Int) + (1 : Int))))))]) (O := [(672, (1, v42.map I))]) (by try simp only [↓RA,RB,RS, fx41,p1,p2,p3,p4,reduceIte,p5,p6,p7,p8, c1, w3]) (by try simp only [↓RA,RB,RS, fx41,p1,p2,p3,p4,reduceIte,p5,p6,p7,p8, c1, w3])) ?_
    refine St.le_rn 672 160 (by decide) (by repeat (first | exact noC_empty _ _ (by try simp only [↓RA,RB,RS, fx41,p1,p2,p3,p4,reduceIte,p5,p6,p7,p8]) | exact noC_nilS _ _ (by try simp only [↓RA,RB,RS, fx41,p1,p2,p3,p4,reduceIte,p5,p6,p7,p8]) | refine noC_mk _ _ _ _ _ rfl ?_ | refine noC_mkS _ _ _ _ _ rfl ?_)) ?_
    refine St.le_mk2 ?_
    try simp only [↓RA,RB,RS, fx41,p1,p2,p3,p4,reduceIte,p5,p6,p7,p8, c1, w3]
  · try simp only [↓RA,RB,RS, fx41,p1,p2,p3,p4,reduceIte,p5,p6,p7,p8]
    refine CondH.ff (decide_eq_false (by omega)) (fun c2 => ?_)
    try simp only [↓RA,RB,RS, fx41,p1,p2,p3,p4,reduceIte,p5,p6,p7,p8, c2]
    have h := run_some h
    obtain rfl : _ = r := h
    refine FinH.r ?_
    try simp only [↓RA,RB,RS, fx41,p1,p2,p3,p4,reduceIte,p5,p6,p7,p8, c2]

def fx19 := A @TB3 <| A @TB4 <| A @TB31 <| A @TB34 <| A @TB36 <| @TB38
theorem spec_BoundOfTerms_sat {a0 : List Majorant} {a1 : List Term}  {r : Linear × Bool} (h : spec_BoundOfTerms a0 a1 = some r) : Sat Tryz.prog 19 [(.sl false 3 (a0.map (Majorant.pv false))), (.sl false 2 (a1.map (Term.pv false)))] (.tup [((Linear.pv false) r.1), (B r.2)]) := by
  replace h := Run.of h
  unfold spec_BoundOfTerms at h
  refine Sat.of_m (nt := 47) (rs := [.cell 4 31, .tmp 5]) (n := 100000) Tryz.func19 rfl rfl rfl rfl (by simp) ?_
  try simp only [↓RA,RB,RS, fx19,p1,p2,p3,p4,reduceIte,p5,p6,p7,p8]
  repeat (first | with_reducible refine noR_and (by repeat (first | exact noR_empty _ _ | exact noR_nilS _ _ | refine noR_mk _ _ _ _ _ rfl ?_ | refine noR_mkS _ _ _ _ _ rfl ?_)) ?_ | with_reducible refine noC_and (by repeat (first | exact noC_empty _ _ (by try simp only [↓RA,RB,RS, fx19,p1,p2,p3,p4,reduceIte,p5,p6,p7,p8]) | exact noC_nilS _ _ (by try simp only [↓RA,RB,RS, fx19,p1,p2,p3,p4,reduceIte,p5,p6,p7,p8]) | refine noC_mk _ _ _ _ _ rfl ?_ | refine noC_mkS _ _ _ _ _ rfl ?_)) ?_ | with_reducible refine and_ac ?_ | with_reducible refine And.intro (a := _ = List.range _) (by rfl) ?_)
  obtain ⟨v11, hv11, h⟩ := run_bind h
  refine CallH.mk [false] (spec_l25List_sat hv11) ?_ ?_ <;> try simp only [↓RA,RB,RS, fx19,p1,p2,p3,p4,reduceIte,p5,p6,p7,p8]
  refine CondH.mk (fun c1 => ?_) (fun c1 => ?_)
  · replace h := run_t c1 h
    try simp only [↓RA,RB,RS, fx19,p1,p2,p3,p4,reduceIte,p5,p6,p7,p8, c1]
    obtain ⟨v16, hv16, h⟩ := run_bind h
    refine CallH.mk [false, false, false] (spec_l1In_sat hv16) ?_ ?_ <;> try simp only [↓RA,RB,RS, fx19,p1,p2,p3,p4,reduceIte,p5,p6,p7,p8, c1]
    refine CondH.mk (fun c2 => ?_) (fun c2 => ?_)
    · replace h := run_t c2 h
      try simp only [↓RA,RB,RS, fx19,p1,p2,p3,p4,reduceIte,p5,p6,p7,p8, c1, c2]
      repeat (first | with_reducible refine noR_and (by repeat (first | exact noR_empty _ _ | exact noR_nilS _ _ | refine noR_mk _ _ _ _ _ rfl ?_ | refine noR_mkS _ _ _ _ _ rfl ?_)) ?_ | with_reducible refine noC_and (by repeat (first | exact noC_empty _ _ (by try simp only [↓RA,RB,RS, fx19,p1,p2,p3,p4,reduceIte,p5,p6,p7,p8]) | exact noC_nilS _ _ (by try simp only [↓RA,RB,RS, fx19,p1,p2,p3,p4,reduceIte,p5,p6,p7,p8]) | refine noC_mk _ _ _ _ _ rfl ?_ | refine noC_mkS _ _ _ _ _ rfl ?_)) ?_ | with_reducible refine and_ac ?_ | with_reducible refine And.intro (a := _ = List.range _) (by rfl) ?_)
      refine Mg.know_sl (b := false) (sz := 2) (es := a1.map (Term.pv false)) 1 (by try simp only [↓RA,RB,RS, fx19,p1,p2,p3,p4,reduceIte,p5,p6,p7,p8, c1, c2]) fun hl1 => ?_; rw [List.length_map] at hl1
      replace h := run_loop h
      refine Mg.forN h (fun i5 s5 => [(0, .val (.pv (.sl false 3 (a0.map (Majorant.pv false))))), (1, .val (.pv (.sl false 2 (a1.map (Term.pv false))))), (4, .box (.node [(.pv (.sl true 1 [])), (.pv (.sl true 1 [])), (.pv (I (0 : Int)))])), (6, .box (.pv ((Linear.pv false) s5))), (7, .val (.pv (I (i5 : Int))))]) (fun i5 s5 => []) (St.le_trans (St.le_pkB (x := (.node [(.pv (.sl true 1 [])), (.pv (.sl true 1 [])), (.pv (I (0 : Int)))])) 6 [] (by try simp only [↓RA,RB,RS, fx19,p1,p2,p3,p4,reduceIte,p5,p6,p7,p8, c1, c2])) (St.le_mk2 (by try simp only [↓RA,RB,RS, fx19,p1,p2,p3,p4,reduceIte,p5,p6,p7,p8, c1, c2]))) (fun i5 s5 hi h => ?_) (fun s5 h => ?_)
      · have w5 := wrap_succ (i := i5) (by omega)
        try simp only [↓RA,RB,RS, fx19,p1,p2,p3,p4,reduceIte,p5,p6,p7,p8, c1, c2]
        refine CondH.tt (decide_eq_true (by omega)) (fun c3 => ?_)
        try simp only [↓RA,RB,RS, fx19,p1,p2,p3,p4,reduceIte,p5,p6,p7,p8, c1, c2, c3]
        obtain ⟨v31, hv31, h⟩ := run_bind h
        refine IdxH.mk (f := (Term.pv false)) hv31 ?_ ?_ <;> try simp only [↓RA,RB,RS, fx19,p1,p2,p3,p4,reduceIte,p5,p6,p7,p8, c1, c2, c3]
        obtain ⟨v33, hv33, h⟩ := run_bind h
        refine CallH.mk [false, false] (spec_MajorantOf_sat hv33) ?_ ?_ <;> try simp only [↓RA,RB,RS, fx19,p1,p2,p3,p4,reduceIte,p5,p6,p7,p8, c1, c2, c3]
        repeat (first | with_reducible refine noR_and (by repeat (first | exact noR_empty _ _ | exact noR_nilS _ _ | refine noR_mk _ _ _ _ _ rfl ?_ | refine noR_mkS _ _ _ _ _ rfl ?_)) ?_ | with_reducible refine noC_and (by repeat (first | exact noC_empty _ _ (by try simp only [↓RA,RB,RS, fx19,p1,p2,p3,p4,reduceIte,p5,p6,p7,p8]) | exact noC_nilS _ _ (by try simp only [↓RA,RB,RS, fx19,p1,p2,p3,p4,reduceIte,p5,p6,p7,p8]) | refine noC_mk _ _ _ _ _ rfl ?_ | refine noC_mkS _ _ _ _ _ rfl ?_)) ?_ | with_reducible refine and_ac ?_ | with_reducible refine And.intro (a := _ = List.range _) (by rfl) ?_)
        refine CondH.mk (fun c4 => ?_) (fun c4 => ?_)
        · replace h := run_t c4 h
          try simp only [↓RA,RB,RS, fx19,p1,p2,p3,p4,reduceIte,p5,p6,p7,p8, c1, c2, c3, c4]
          obtain ⟨v41, hv41, h⟩ := run_bind h
          refine CallH.mk [false, true] (Sat.give (args := [((Linear.pv false) s5), (.agg [(.sl true 1 (v33.1.Vars.map Sx)), (.sl true 1 (v33.1.Slopes.map I)), (I v33.1.Constant)])]) [false, true] (by have gg := spec_l25Join_sat hv41; simp only [gv_t, gv_f, gv_n, view_sl, view_agg, view_lit, PV.views, RB, RS] at gg ⊢; exact gg)) (by try simp only [↓RA,RB,RS, fx19,p1,p2,p3,p4,reduceIte,p5,p6,p7,p8, c1, c2, c3, c4]) ?_
          try simp only [↓RA,RB,RS, fx19,p1,p2,p3,p4,reduceIte,p5,p6,p7,p8, c1, c2, c3, c4]
          obtain ⟨v43, hv43, h⟩ := run_bind h
          refine CallH.mk [false] (spec_l25Linear_sat hv43) ?_ ?_ <;> try simp only [↓RA,RB,RS, fx19,p1,p2,p3,p4,reduceIte,p5,p6,p7,p8, c1, c2, c3, c4]
          refine CondH.mk (fun c5 => ?_) (fun c5 => ?_)
          · replace h := run_t c5 h
            try simp only [↓RA,RB,RS, fx19,p1,p2,p3,p4,reduceIte,p5,p6,p7,p8, c1, c2, c3, c4, c5]
            have h := run_some h
            refine RdH.mk ⟨_, h, ?_⟩
            refine St.le_mk2 ?_
            try simp only [↓RA,RB,RS, fx19,p1,p2,p3,p4,reduceIte,p5,p6,p7,p8, c1, c2, c3, c4, c5, w5]
          · replace h := run_f c5 h
            try simp only [↓RA,RB,RS, fx19,p1,p2,p3,p4,reduceIte,p5,p6,p7,p8, c1, c2, c3, c4, c5]
            have h := run_some h
            obtain rfl : _ = r := h
            refine FinH.r ?_
            try simp only [↓RA,RB,RS, fx19,p1,p2,p3,p4,reduceIte,p5,p6,p7,p8, c1, c2, c3, c4, c5]
        · replace h := run_f c4 h
          try simp only [↓RA,RB,RS, fx19,p1,p2,p3,p4,reduceIte,p5,p6,p7,p8, c1, c2, c3, c4]
          have h := run_some h
          obtain rfl : _ = r := h
          refine FinH.r ?_
          try simp only [↓RA,RB,RS, fx19,p1,p2,p3,p4,reduceIte,p5,p6,p7,p8, c1, c2, c3, c4]
      · try simp only [↓RA,RB,RS, fx19,p1,p2,p3,p4,reduceIte,p5,p6,p7,p8, c1, c2]
        refine CondH.ff (decide_eq_false (by omega)) (fun c6 => ?_)
        try simp only [↓RA,RB,RS, fx19,p1,p2,p3,p4,reduceIte,p5,p6,p7,p8, c1, c2, c6]
        have h := run_some h
        obtain rfl : _ = r := h
        refine FinH.r ?_
        try simp only [↓RA,RB,RS, fx19,p1,p2,p3,p4,reduceIte,p5,p6,p7,p8, c1, c2, c6]
    · replace h := run_f c2 h
      try simp only [↓RA,RB,RS, fx19,p1,p2,p3,p4,reduceIte,p5,p6,p7,p8, c1, c2]
      have h := run_some h
      obtain rfl : _ = r := h
      refine FinH.r ?_
      try simp only [↓RA,RB,RS, fx19,p1,p2,p3,p4,reduceIte,p5,p6,p7,p8, c1, c2]
  · replace h := run_f c1 h
    try simp only [↓RA,RB,RS, fx19,p1,p2,p3,p4,reduceIte,p5,p6,p7,p8, c1]
    have h := run_some h
    obtain rfl : _ = r := h
    refine FinH.r ?_
    try simp only [↓RA,RB,RS, fx19,p1,p2,p3,p4,reduceIte,p5,p6,p7,p8, c1]

def fx43 := @TB3
theorem impl_within_sat {a0 : Int} {a1 : Int} {a2 : Int}  {r : Bool} (h : impl_within a0 a1 a2 = some r) : Sat Tryz.prog 43 [(I a0), (I a1), (I a2)] (B r) := by
  replace h := Run.of h
  unfold impl_within at h
  refine Sat.of_m (nt := 15) (rs := [.tmp 6]) (n := 100000) Tryz.func43 rfl rfl rfl rfl (by simp) ?_
  try simp only [↓RA,RB,RS, fx43,p1,p2,p3,p4,reduceIte,p5,p6,p7,p8]
  refine CondH.mk (fun c1 => ?_) (fun c1 => ?_)
  · replace h := run_t c1 h
    try simp only [↓RA,RB,RS, fx43,p1,p2,p3,p4,reduceIte,p5,p6,p7,p8, c1]
    have h := run_some h
    obtain rfl : _ = r := h
    refine FinH.l ?_
    try simp only [↓RA,RB,RS, fx43,p1,p2,p3,p4,reduceIte,p5,p6,p7,p8, c1]
  · replace h := run_f c1 h
    try simp only [↓RA,RB,RS, fx43,p1,p2,p3,p4,reduceIte,p5,p6,p7,p8, c1]
    have h := run_some h
    obtain rfl : _ = r := h
    refine FinH.l ?_
    try simp only [↓RA,RB,RS, fx43,p1,p2,p3,p4,reduceIte,p5,p6,p7,p8, c1]

def fx69 := @TB5
theorem impl_isLower_sat {a0 : Int}  {r : Bool} (h : impl_isLower a0 = some r) : Sat Tryz.prog 69 [((Ik .u8) a0)] (B r) := by
  replace h := Run.of h
  unfold impl_isLower at h
  refine Sat.of_m (nt := 9) (rs := [.tmp 2]) (n := 100000) Tryz.func69 rfl rfl rfl rfl (by simp) ?_
  try simp only [↓RA,RB,RS, fx69,p1,p2,p3,p4,reduceIte,p5,p6,p7,p8]
  refine CondH.mk (fun c1 => ?_) (fun c1 => ?_)
  · replace h := run_t c1 h
    try simp only [↓RA,RB,RS, fx69,p1,p2,p3,p4,reduceIte,p5,p6,p7,p8, c1]
    have h := run_some h
    obtain rfl : _ = r := h
    refine FinH.l ?_
    try simp only [↓RA,RB,RS, fx69,p1,p2,p3,p4,reduceIte,p5,p6,p7,p8, c1]
  · replace h := run_f c1 h
    try simp only [↓RA,RB,RS, fx69,p1,p2,p3,p4,reduceIte,p5,p6,p7,p8, c1]
    have h := run_some h
    obtain rfl : _ = r := h
    refine FinH.l ?_
    try simp only [↓RA,RB,RS, fx69,p1,p2,p3,p4,reduceIte,p5,p6,p7,p8, c1]

def fx70 := @TB5
theorem impl_isDigit_sat {a0 : Int}  {r : Bool} (h : impl_isDigit a0 = some r) : Sat Tryz.prog 70 [((Ik .u8) a0)] (B r) := by
  replace h := Run.of h
  unfold impl_isDigit at h
  refine Sat.of_m (nt := 9) (rs := [.tmp 2]) (n := 100000) Tryz.func70 rfl rfl rfl rfl (by simp) ?_
  try simp only [↓RA,RB,RS, fx70,p1,p2,p3,p4,reduceIte,p5,p6,p7,p8]
  refine CondH.mk (fun c1 => ?_) (fun c1 => ?_)
  · replace h := run_t c1 h
    try simp only [↓RA,RB,RS, fx70,p1,p2,p3,p4,reduceIte,p5,p6,p7,p8, c1]
    have h := run_some h
    obtain rfl : _ = r := h
    refine FinH.l ?_
    try simp only [↓RA,RB,RS, fx70,p1,p2,p3,p4,reduceIte,p5,p6,p7,p8, c1]
  · replace h := run_f c1 h
    try simp only [↓RA,RB,RS, fx70,p1,p2,p3,p4,reduceIte,p5,p6,p7,p8, c1]
    have h := run_some h
    obtain rfl : _ = r := h
    refine FinH.l ?_
    try simp only [↓RA,RB,RS, fx70,p1,p2,p3,p4,reduceIte,p5,p6,p7,p8, c1]

def fx72 := @TB28
theorem impl_reserved_sat   {r : List ByteArray} (h : impl_reserved  = some r) : Sat Tryz.prog 72 [] (.sl true 1 (r.map Sx)) := by
  replace h := Run.of h
  unfold impl_reserved at h
  refine Sat.of_m (nt := 2) (rs := [.tmp 0]) (n := 100000) Tryz.func72 rfl rfl rfl rfl (by simp) ?_
  try simp only [↓RA,RB,RS, fx72,p1,p2,p3,p4,reduceIte,p5,p6,p7,p8]
  repeat (first | with_reducible refine noR_and (by repeat (first | exact noR_empty _ _ | exact noR_nilS _ _ | refine noR_mk _ _ _ _ _ rfl ?_ | refine noR_mkS _ _ _ _ _ rfl ?_)) ?_ | with_reducible refine noC_and (by repeat (first | exact noC_empty _ _ (by try simp only [↓RA,RB,RS, fx72,p1,p2,p3,p4,reduceIte,p5,p6,p7,p8]) | exact noC_nilS _ _ (by try simp only [↓RA,RB,RS, fx72,p1,p2,p3,p4,reduceIte,p5,p6,p7,p8]) | refine noC_mk _ _ _ _ _ rfl ?_ | refine noC_mkS _ _ _ _ _ rfl ?_)) ?_ | with_reducible refine and_ac ?_ | with_reducible refine And.intro (a := _ = List.range _) (by rfl) ?_)
  have h := run_some h
  obtain rfl : _ = r := h
  refine FinH.l ?_
  try simp only [↓RA,RB,RS, fx72,p1,p2,p3,p4,reduceIte,p5,p6,p7,p8]

def fx88 := A @TB3 <| A @TB9 <| @TB28
theorem slices_Index_Sstring_string_sat {a0 : List ByteArray} {a1 : ByteArray}  {r : Int} (h : slices_Index_Sstring_string a0 a1 = some r) : Sat Tryz.prog 88 [(.sl false 1 (a0.map Sx)), (Sx a1)] (I r) := by
  replace h := Run.of h
  unfold slices_Index_Sstring_string at h
  refine Sat.of_m (nt := 19) (rs := [.tmp 4]) (n := 100000) Tryz.func88 rfl rfl rfl rfl (by simp) ?_
  try simp only [↓RA,RB,RS, fx88,p1,p2,p3,p4,reduceIte,p5,p6,p7,p8]
  refine Mg.know_sl (b := false) (sz := 1) (es := a0.map Sx) 0 (by try simp only [↓RA,RB,RS, fx88,p1,p2,p3,p4,reduceIte,p5,p6,p7,p8]) fun hl0 => ?_; rw [List.length_map] at hl0
  replace h := run_loop h
  refine Mg.forN h (fun i2 s2 => [(0, .val (.pv (.sl false 1 (a0.map Sx)))), (1, .val (.pv (Sx a1))), (7, .val (.pv (I (a0.length : Int)))), (8, .val (.pv (I (i2 : Int))))]) (fun i2 s2 => []) (St.le_mk2 (by try simp only [↓RA,RB,RS, fx88,p1,p2,p3,p4,reduceIte,p5,p6,p7,p8])) (fun i2 s2 hi h => ?_) (fun s2 h => ?_)
  · have w2 := wrap_succ (i := i2) (by omega)
    try simp only [↓RA,RB,RS, fx88,p1,p2,p3,p4,reduceIte,p5,p6,p7,p8]
    refine CondH.tt (decide_eq_true (by omega)) (fun c1 => ?_)
    try simp only [↓RA,RB,RS, fx88,p1,p2,p3,p4,reduceIte,p5,p6,p7,p8, c1]
    obtain ⟨v14, hv14, h⟩ := run_bind h
    refine IdxH.mk (f := Sx) hv14 ?_ ?_ <;> try simp only [↓RA,RB,RS, fx88,p1,p2,p3,p4,reduceIte,p5,p6,p7,p8, c1]
    refine CondH.mk (fun c2 => ?_) (fun c2 => ?_)
    · replace h := run_t c2 h
      try simp only [↓RA,RB,RS, fx88,p1,p2,p3,p4,reduceIte,p5,p6,p7,p8, c1, c2]
      have h := run_some h
      obtain rfl : _ = r := h
      refine FinH.l ?_
      try simp only [↓RA,RB,RS, fx88,p1,p2,p3,p4,reduceIte,p5,p6,p7,p8, c1, c2]
    · replace h := run_f c2 h
      try simp only [↓RA,RB,RS, fx88,p1,p2,p3,p4,reduceIte,p5,p6,p7,p8, c1, c2]
      have h := run_some h
      refine RdH.mk ⟨_, h, ?_⟩
      refine St.le_mk2 ?_
      try simp only [↓RA,RB,RS, fx88,p1,p2,p3,p4,reduceIte,p5,p6,p7,p8, c1, c2, w2]
  · try simp only [↓RA,RB,RS, fx88,p1,p2,p3,p4,reduceIte,p5,p6,p7,p8]
    refine CondH.ff (decide_eq_false (by omega)) (fun c3 => ?_)
    try simp only [↓RA,RB,RS, fx88,p1,p2,p3,p4,reduceIte,p5,p6,p7,p8, c3]
    have h := run_some h
    obtain rfl : _ = r := h
    refine FinH.l ?_
    try simp only [↓RA,RB,RS, fx88,p1,p2,p3,p4,reduceIte,p5,p6,p7,p8, c3]

def fx71 := A @TB3 <| A @TB9 <| @TB28
theorem slices_Contains_Sstring_string_sat {a0 : List ByteArray} {a1 : ByteArray}  {r : Bool} (h : slices_Contains_Sstring_string a0 a1 = some r) : Sat Tryz.prog 71 [(.sl false 1 (a0.map Sx)), (Sx a1)] (B r) := by
  replace h := Run.of h
  unfold slices_Contains_Sstring_string at h
  refine Sat.of_m (nt := 9) (rs := [.tmp 4]) (n := 100000) Tryz.func71 rfl rfl rfl rfl (by simp) ?_
  try simp only [↓RA,RB,RS, fx71,p1,p2,p3,p4,reduceIte,p5,p6,p7,p8]
  obtain ⟨v7, hv7, h⟩ := run_bind h
  refine CallH.mk [false, false] (slices_Index_Sstring_string_sat hv7) ?_ ?_ <;> try simp only [↓RA,RB,RS, fx71,p1,p2,p3,p4,reduceIte,p5,p6,p7,p8]
  have h := run_some h
  obtain rfl : _ = r := h
  refine FinH.l ?_
  try simp only [↓RA,RB,RS, fx71,p1,p2,p3,p4,reduceIte,p5,p6,p7,p8]

def fx53 := A @TB3 <| A @TB4 <| A @TB5 <| A @TB9 <| @TB28
theorem impl_isSymbol_sat {a0 : ByteArray}  {r : Bool} (h : impl_isSymbol a0 = some r) : Sat Tryz.prog 53 [(Sx a0)] (B r) := by
  replace h := Run.of h
  unfold impl_isSymbol at h
  refine Sat.of_m (nt := 48) (rs := [.tmp 2]) (n := 100000) Tryz.func53 rfl rfl rfl rfl (by simp) ?_
  try simp only [↓RA,RB,RS, fx53,p1,p2,p3,p4,reduceIte,p5,p6,p7,p8]
  obtain ⟨N2, hN2, h⟩ := run_bind h
  obtain ⟨hN2a, hN2b⟩ := bnd_some hN2
  replace h := run_loop h
  refine Mg.forN h (fun i2 s2 => [(0, .val (.pv (Sx a0))), (5, .val (.pv (I (a0.size : Int)))), (6, .val (.pv (I (i2 : Int))))]) (fun i2 s2 => []) (St.le_mk2 (by try simp only [↓RA,RB,RS, fx53,p1,p2,p3,p4,reduceIte,p5,p6,p7,p8])) (fun i2 s2 hi h => ?_) (fun s2 h => ?_)
  · have w2 := wrap_succ (i := i2) (by omega)
    try simp only [↓RA,RB,RS, fx53,p1,p2,p3,p4,reduceIte,p5,p6,p7,p8]
    refine CondH.tt (decide_eq_true (by omega)) (fun c1 => ?_)
    try simp only [↓RA,RB,RS, fx53,p1,p2,p3,p4,reduceIte,p5,p6,p7,p8, c1]
    refine CondH.mk (fun c2 => ?_) (fun c2 => ?_)
    · replace h := run_t c2 h
      try simp only [↓RA,RB,RS, fx53,p1,p2,p3,p4,reduceIte,p5,p6,p7,p8, c1, c2]
      obtain ⟨v14, hv14, h⟩ := run_bind h
      refine SidxH.mk hv14 ?_
      try simp only [↓RA,RB,RS, fx53,p1,p2,p3,p4,reduceIte,p5,p6,p7,p8, c1, c2]
      obtain ⟨v15, hv15, h⟩ := run_bind h
      refine CallH.mk [false] (impl_isLower_sat hv15) ?_ ?_ <;> try simp only [↓RA,RB,RS, fx53,p1,p2,p3,p4,reduceIte,p5,p6,p7,p8, c1, c2]
      refine CondH.mk (fun c3 => ?_) (fun c3 => ?_)
      · replace h := run_t c3 h
        try simp only [↓RA,RB,RS, fx53,p1,p2,p3,p4,reduceIte,p5,p6,p7,p8, c1, c2, c3]
        obtain ⟨v21, hv21, h⟩ := run_bind h
        refine SidxH.mk hv21 ?_
        try simp only [↓RA,RB,RS, fx53,p1,p2,p3,p4,reduceIte,p5,p6,p7,p8, c1, c2, c3]
        obtain ⟨v22, hv22, h⟩ := run_bind h
        refine CallH.mk [false] (impl_isLower_sat hv22) ?_ ?_ <;> try simp only [↓RA,RB,RS, fx53,p1,p2,p3,p4,reduceIte,p5,p6,p7,p8, c1, c2, c3]
        refine CondH.mk (fun c4 => ?_) (fun c4 => ?_)
        · replace h := run_t c4 h
          try simp only [↓RA,RB,RS, fx53,p1,p2,p3,p4,reduceIte,p5,p6,p7,p8, c1, c2, c3, c4]
          have h := run_some h
          refine RdH.mk ⟨_, h, ?_⟩
          refine St.le_mk2 ?_
          try simp only [↓RA,RB,RS, fx53,p1,p2,p3,p4,reduceIte,p5,p6,p7,p8, c1, c2, c3, c4, w2]
        · replace h := run_f c4 h
          try simp only [↓RA,RB,RS, fx53,p1,p2,p3,p4,reduceIte,p5,p6,p7,p8, c1, c2, c3, c4]
          obtain ⟨v27, hv27, h⟩ := run_bind h
          refine SidxH.mk hv27 ?_
          try simp only [↓RA,RB,RS, fx53,p1,p2,p3,p4,reduceIte,p5,p6,p7,p8, c1, c2, c3, c4]
          obtain ⟨v28, hv28, h⟩ := run_bind h
          refine CallH.mk [false] (impl_isDigit_sat hv28) ?_ ?_ <;> try simp only [↓RA,RB,RS, fx53,p1,p2,p3,p4,reduceIte,p5,p6,p7,p8, c1, c2, c3, c4]
          refine CondH.mk (fun c5 => ?_) (fun c5 => ?_)
          · replace h := run_t c5 h
            try simp only [↓RA,RB,RS, fx53,p1,p2,p3,p4,reduceIte,p5,p6,p7,p8, c1, c2, c3, c4, c5]
            have h := run_some h
            refine RdH.mk ⟨_, h, ?_⟩
            refine St.le_mk2 ?_
            try simp only [↓RA,RB,RS, fx53,p1,p2,p3,p4,reduceIte,p5,p6,p7,p8, c1, c2, c3, c4, c5, w2]
          · replace h := run_f c5 h
            try simp only [↓RA,RB,RS, fx53,p1,p2,p3,p4,reduceIte,p5,p6,p7,p8, c1, c2, c3, c4, c5]
            obtain ⟨v34, hv34, h⟩ := run_bind h
            refine SidxH.mk hv34 ?_
            try simp only [↓RA,RB,RS, fx53,p1,p2,p3,p4,reduceIte,p5,p6,p7,p8, c1, c2, c3, c4, c5]
            refine CondH.mk (fun c6 => ?_) (fun c6 => ?_)
            · replace h := run_t c6 h
              try simp only [↓RA,RB,RS, fx53,p1,p2,p3,p4,reduceIte,p5,p6,p7,p8, c1, c2, c3, c4, c5, c6]
              have h := run_some h
              refine RdH.mk ⟨_, h, ?_⟩
              refine St.le_mk2 ?_
              try simp only [↓RA,RB,RS, fx53,p1,p2,p3,p4,reduceIte,p5,p6,p7,p8, c1, c2, c3, c4, c5, c6, w2]
            · replace h := run_f c6 h
              try simp only [↓RA,RB,RS, fx53,p1,p2,p3,p4,reduceIte,p5,p6,p7,p8, c1, c2, c3, c4, c5, c6]
              have h := run_some h
              obtain rfl : _ = r := h
              refine FinH.l ?_
              try simp only [↓RA,RB,RS, fx53,p1,p2,p3,p4,reduceIte,p5,p6,p7,p8, c1, c2, c3, c4, c5, c6]
      · replace h := run_f c3 h
        try simp only [↓RA,RB,RS, fx53,p1,p2,p3,p4,reduceIte,p5,p6,p7,p8, c1, c2, c3]
        have h := run_some h
        obtain rfl : _ = r := h
        refine FinH.l ?_
        try simp only [↓RA,RB,RS, fx53,p1,p2,p3,p4,reduceIte,p5,p6,p7,p8, c1, c2, c3]
    · replace h := run_f c2 h
      try simp only [↓RA,RB,RS, fx53,p1,p2,p3,p4,reduceIte,p5,p6,p7,p8, c1, c2]
      obtain ⟨v21, hv21, h⟩ := run_bind h
      refine SidxH.mk hv21 ?_
      try simp only [↓RA,RB,RS, fx53,p1,p2,p3,p4,reduceIte,p5,p6,p7,p8, c1, c2]
      obtain ⟨v22, hv22, h⟩ := run_bind h
      refine CallH.mk [false] (impl_isLower_sat hv22) ?_ ?_ <;> try simp only [↓RA,RB,RS, fx53,p1,p2,p3,p4,reduceIte,p5,p6,p7,p8, c1, c2]
      refine CondH.mk (fun c7 => ?_) (fun c7 => ?_)
      · replace h := run_t c7 h
        try simp only [↓RA,RB,RS, fx53,p1,p2,p3,p4,reduceIte,p5,p6,p7,p8, c1, c2, c7]
        have h := run_some h
        refine RdH.mk ⟨_, h, ?_⟩
        refine St.le_mk2 ?_
        try simp only [↓RA,RB,RS, fx53,p1,p2,p3,p4,reduceIte,p5,p6,p7,p8, c1, c2, c7, w2]
      · replace h := run_f c7 h
        try simp only [↓RA,RB,RS, fx53,p1,p2,p3,p4,reduceIte,p5,p6,p7,p8, c1, c2, c7]
        obtain ⟨v27, hv27, h⟩ := run_bind h
        refine SidxH.mk hv27 ?_
        try simp only [↓RA,RB,RS, fx53,p1,p2,p3,p4,reduceIte,p5,p6,p7,p8, c1, c2, c7]
        obtain ⟨v28, hv28, h⟩ := run_bind h
        refine CallH.mk [false] (impl_isDigit_sat hv28) ?_ ?_ <;> try simp only [↓RA,RB,RS, fx53,p1,p2,p3,p4,reduceIte,p5,p6,p7,p8, c1, c2, c7]
        refine CondH.mk (fun c8 => ?_) (fun c8 => ?_)
        · replace h := run_t c8 h
          try simp only [↓RA,RB,RS, fx53,p1,p2,p3,p4,reduceIte,p5,p6,p7,p8, c1, c2, c7, c8]
          have h := run_some h
          refine RdH.mk ⟨_, h, ?_⟩
          refine St.le_mk2 ?_
          try simp only [↓RA,RB,RS, fx53,p1,p2,p3,p4,reduceIte,p5,p6,p7,p8, c1, c2, c7, c8, w2]
        · replace h := run_f c8 h
          try simp only [↓RA,RB,RS, fx53,p1,p2,p3,p4,reduceIte,p5,p6,p7,p8, c1, c2, c7, c8]
          obtain ⟨v34, hv34, h⟩ := run_bind h
          refine SidxH.mk hv34 ?_
          try simp only [↓RA,RB,RS, fx53,p1,p2,p3,p4,reduceIte,p5,p6,p7,p8, c1, c2, c7, c8]
          refine CondH.mk (fun c9 => ?_) (fun c9 => ?_)
          · replace h := run_t c9 h
            try simp only [↓RA,RB,RS, fx53,p1,p2,p3,p4,reduceIte,p5,p6,p7,p8, c1, c2, c7, c8, c9]
            have h := run_some h
            refine RdH.mk ⟨_, h, ?_⟩
            refine St.le_mk2 ?_
            try simp only [↓RA,RB,RS, fx53,p1,p2,p3,p4,reduceIte,p5,p6,p7,p8, c1, c2, c7, c8, c9, w2]
          · replace h := run_f c9 h
            try simp only [↓RA,RB,RS, fx53,p1,p2,p3,p4,reduceIte,p5,p6,p7,p8, c1, c2, c7, c8, c9]
            have h := run_some h
            obtain rfl : _ = r := h
            refine FinH.l ?_
            try simp only [↓RA,RB,RS, fx53,p1,p2,p3,p4,reduceIte,p5,p6,p7,p8, c1, c2, c7, c8, c9]
  · try simp only [↓RA,RB,RS, fx53,p1,p2,p3,p4,reduceIte,p5,p6,p7,p8]
    refine CondH.ff (decide_eq_false (by omega)) (fun c10 => ?_)
    try simp only [↓RA,RB,RS, fx53,p1,p2,p3,p4,reduceIte,p5,p6,p7,p8, c10]
    obtain ⟨v41, hv41, h⟩ := run_bind h
    refine CallH.mk [false, false, false] (impl_within_sat hv41) ?_ ?_ <;> try simp only [↓RA,RB,RS, fx53,p1,p2,p3,p4,reduceIte,p5,p6,p7,p8, c10]
    refine CondH.mk (fun c11 => ?_) (fun c11 => ?_)
    · replace h := run_t c11 h
      try simp only [↓RA,RB,RS, fx53,p1,p2,p3,p4,reduceIte,p5,p6,p7,p8, c10, c11]
      obtain ⟨v43, hv43, h⟩ := run_bind h
      refine CallH.mk [] (impl_reserved_sat hv43) ?_ ?_ <;> try simp only [↓RA,RB,RS, fx53,p1,p2,p3,p4,reduceIte,p5,p6,p7,p8, c10, c11]
      repeat (first | with_reducible refine noR_and (by repeat (first | exact noR_empty _ _ | exact noR_nilS _ _ | refine noR_mk _ _ _ _ _ rfl ?_ | refine noR_mkS _ _ _ _ _ rfl ?_)) ?_ | with_reducible refine noC_and (by repeat (first | exact noC_empty _ _ (by try simp only [↓RA,RB,RS, fx53,p1,p2,p3,p4,reduceIte,p5,p6,p7,p8]) | exact noC_nilS _ _ (by try simp only [↓RA,RB,RS, fx53,p1,p2,p3,p4,reduceIte,p5,p6,p7,p8]) | refine noC_mk _ _ _ _ _ rfl ?_ | refine noC_mkS _ _ _ _ _ rfl ?_)) ?_ | with_reducible refine and_ac ?_ | with_reducible refine And.intro (a := _ = List.range _) (by rfl) ?_)
      obtain ⟨v45, hv45, h⟩ := run_bind h
      refine CallH.mk [false, false] (slices_Contains_Sstring_string_sat hv45) ?_ ?_ <;> try simp only [↓RA,RB,RS, fx53,p1,p2,p3,p4,reduceIte,p5,p6,p7,p8, c10, c11]
      have h := run_some h
      obtain rfl : _ = r := h
      refine FinH.l ?_
      try simp only [↓RA,RB,RS, fx53,p1,p2,p3,p4,reduceIte,p5,p6,p7,p8, c10, c11]
    · replace h := run_f c11 h
      try simp only [↓RA,RB,RS, fx53,p1,p2,p3,p4,reduceIte,p5,p6,p7,p8, c10, c11]
      have h := run_some h
      obtain rfl : _ = r := h
      refine FinH.l ?_
      try simp only [↓RA,RB,RS, fx53,p1,p2,p3,p4,reduceIte,p5,p6,p7,p8, c10, c11]

def fx89 := @TB9
theorem cmp_isNaN_string_sat {a0 : ByteArray}  {r : Bool} (h : cmp_isNaN_string a0 = some r) : Sat Tryz.prog 89 [(Sx a0)] (B r) := by
  replace h := Run.of h
  unfold cmp_isNaN_string at h
  refine Sat.of_m (nt := 6) (rs := [.tmp 2]) (n := 100000) Tryz.func89 rfl rfl rfl rfl (by simp) ?_
  try simp only [↓RA,RB,RS, fx89,p1,p2,p3,p4,reduceIte,p5,p6,p7,p8]
  have h := run_some h
  obtain rfl : _ = r := h
  refine FinH.l ?_
  try simp only [↓RA,RB,RS, fx89,p1,p2,p3,p4,reduceIte,p5,p6,p7,p8]

def fx74 := @TB9
theorem cmp_Compare_string_sat {a0 : ByteArray} {a1 : ByteArray}  {r : Int} (h : cmp_Compare_string a0 a1 = some r) : Sat Tryz.prog 74 [(Sx a0), (Sx a1)] (I r) := by
  replace h := Run.of h
  unfold cmp_Compare_string at h
  refine Sat.of_m (nt := 20) (rs := [.tmp 4]) (n := 100000) Tryz.func74 rfl rfl rfl rfl (by simp) ?_
  try simp only [↓RA,RB,RS, fx74,p1,p2,p3,p4,reduceIte,p5,p6,p7,p8]
  obtain ⟨v8, hv8, h⟩ := run_bind h
  refine CallH.mk [false] (cmp_isNaN_string_sat hv8) ?_ ?_ <;> try simp only [↓RA,RB,RS, fx74,p1,p2,p3,p4,reduceIte,p5,p6,p7,p8]
  obtain ⟨v10, hv10, h⟩ := run_bind h
  refine CallH.mk [false] (cmp_isNaN_string_sat hv10) ?_ ?_ <;> try simp only [↓RA,RB,RS, fx74,p1,p2,p3,p4,reduceIte,p5,p6,p7,p8]
  refine CondH.mk (fun c1 => ?_) (fun c1 => ?_)
  · replace h := run_t c1 h
    try simp only [↓RA,RB,RS, fx74,p1,p2,p3,p4,reduceIte,p5,p6,p7,p8, c1]
    refine CondH.mk (fun c2 => ?_) (fun c2 => ?_)
    · replace h := run_t c2 h
      try simp only [↓RA,RB,RS, fx74,p1,p2,p3,p4,reduceIte,p5,p6,p7,p8, c1, c2]
      have h := run_some h
      obtain rfl : _ = r := h
      refine FinH.l ?_
      try simp only [↓RA,RB,RS, fx74,p1,p2,p3,p4,reduceIte,p5,p6,p7,p8, c1, c2]
    · replace h := run_f c2 h
      try simp only [↓RA,RB,RS, fx74,p1,p2,p3,p4,reduceIte,p5,p6,p7,p8, c1, c2]
      have h := run_some h
      obtain rfl : _ = r := h
      refine FinH.l ?_
      try simp only [↓RA,RB,RS, fx74,p1,p2,p3,p4,reduceIte,p5,p6,p7,p8, c1, c2]
  · replace h := run_f c1 h
    try simp only [↓RA,RB,RS, fx74,p1,p2,p3,p4,reduceIte,p5,p6,p7,p8, c1]
    refine CondH.mk (fun c3 => ?_) (fun c3 => ?_)
    · replace h := run_t c3 h
      try simp only [↓RA,RB,RS, fx74,p1,p2,p3,p4,reduceIte,p5,p6,p7,p8, c1, c3]
      have h := run_some h
      obtain rfl : _ = r := h
      refine FinH.l ?_
      try simp only [↓RA,RB,RS, fx74,p1,p2,p3,p4,reduceIte,p5,p6,p7,p8, c1, c3]
    · replace h := run_f c3 h
      try simp only [↓RA,RB,RS, fx74,p1,p2,p3,p4,reduceIte,p5,p6,p7,p8, c1, c3]
      refine CondH.mk (fun c4 => ?_) (fun c4 => ?_)
      · replace h := run_t c4 h
        try simp only [↓RA,RB,RS, fx74,p1,p2,p3,p4,reduceIte,p5,p6,p7,p8, c1, c3, c4]
        have h := run_some h
        obtain rfl : _ = r := h
        refine FinH.l ?_
        try simp only [↓RA,RB,RS, fx74,p1,p2,p3,p4,reduceIte,p5,p6,p7,p8, c1, c3, c4]
      · replace h := run_f c4 h
        try simp only [↓RA,RB,RS, fx74,p1,p2,p3,p4,reduceIte,p5,p6,p7,p8, c1, c3, c4]
        refine CondH.mk (fun c5 => ?_) (fun c5 => ?_)
        · replace h := run_t c5 h
          try simp only [↓RA,RB,RS, fx74,p1,p2,p3,p4,reduceIte,p5,p6,p7,p8, c1, c3, c4, c5]
          have h := run_some h
          obtain rfl : _ = r := h
          refine FinH.l ?_
          try simp only [↓RA,RB,RS, fx74,p1,p2,p3,p4,reduceIte,p5,p6,p7,p8, c1, c3, c4, c5]
        · replace h := run_f c5 h
          try simp only [↓RA,RB,RS, fx74,p1,p2,p3,p4,reduceIte,p5,p6,p7,p8, c1, c3, c4, c5]
          have h := run_some h
          obtain rfl : _ = r := h
          refine FinH.l ?_
          try simp only [↓RA,RB,RS, fx74,p1,p2,p3,p4,reduceIte,p5,p6,p7,p8, c1, c3, c4, c5]

def fx90 := @TB3
theorem cmp_isNaN_int_sat {a0 : Int}  {r : Bool} (h : cmp_isNaN_int a0 = some r) : Sat Tryz.prog 90 [(I a0)] (B r) := by
  replace h := Run.of h
  unfold cmp_isNaN_int at h
  refine Sat.of_m (nt := 6) (rs := [.tmp 2]) (n := 100000) Tryz.func90 rfl rfl rfl rfl (by simp) ?_
  try simp only [↓RA,RB,RS, fx90,p1,p2,p3,p4,reduceIte,p5,p6,p7,p8]
  have h := run_some h
  obtain rfl : _ = r := h
  refine FinH.l ?_
  try simp only [↓RA,RB,RS, fx90,p1,p2,p3,p4,reduceIte,p5,p6,p7,p8]

def fx75 := @TB3
theorem cmp_Compare_int_sat {a0 : Int} {a1 : Int}  {r : Int} (h : cmp_Compare_int a0 a1 = some r) : Sat Tryz.prog 75 [(I a0), (I a1)] (I r) := by
  replace h := Run.of h
  unfold cmp_Compare_int at h
  refine Sat.of_m (nt := 20) (rs := [.tmp 4]) (n := 100000) Tryz.func75 rfl rfl rfl rfl (by simp) ?_
  try simp only [↓RA,RB,RS, fx75,p1,p2,p3,p4,reduceIte,p5,p6,p7,p8]
  obtain ⟨v8, hv8, h⟩ := run_bind h
  refine CallH.mk [false] (cmp_isNaN_int_sat hv8) ?_ ?_ <;> try simp only [↓RA,RB,RS, fx75,p1,p2,p3,p4,reduceIte,p5,p6,p7,p8]
  obtain ⟨v10, hv10, h⟩ := run_bind h
  refine CallH.mk [false] (cmp_isNaN_int_sat hv10) ?_ ?_ <;> try simp only [↓RA,RB,RS, fx75,p1,p2,p3,p4,reduceIte,p5,p6,p7,p8]
  refine CondH.mk (fun c1 => ?_) (fun c1 => ?_)
  · replace h := run_t c1 h
    try simp only [↓RA,RB,RS, fx75,p1,p2,p3,p4,reduceIte,p5,p6,p7,p8, c1]
    refine CondH.mk (fun c2 => ?_) (fun c2 => ?_)
    · replace h := run_t c2 h
      try simp only [↓RA,RB,RS, fx75,p1,p2,p3,p4,reduceIte,p5,p6,p7,p8, c1, c2]
      have h := run_some h
      obtain rfl : _ = r := h
      refine FinH.l ?_
      try simp only [↓RA,RB,RS, fx75,p1,p2,p3,p4,reduceIte,p5,p6,p7,p8, c1, c2]
    · replace h := run_f c2 h
      try simp only [↓RA,RB,RS, fx75,p1,p2,p3,p4,reduceIte,p5,p6,p7,p8, c1, c2]
      have h := run_some h
      obtain rfl : _ = r := h
      refine FinH.l ?_
      try simp only [↓RA,RB,RS, fx75,p1,p2,p3,p4,reduceIte,p5,p6,p7,p8, c1, c2]
  · replace h := run_f c1 h
    try simp only [↓RA,RB,RS, fx75,p1,p2,p3,p4,reduceIte,p5,p6,p7,p8, c1]
    refine CondH.mk (fun c3 => ?_) (fun c3 => ?_)
    · replace h := run_t c3 h
      try simp only [↓RA,RB,RS, fx75,p1,p2,p3,p4,reduceIte,p5,p6,p7,p8, c1, c3]
      have h := run_some h
      obtain rfl : _ = r := h
      refine FinH.l ?_
      try simp only [↓RA,RB,RS, fx75,p1,p2,p3,p4,reduceIte,p5,p6,p7,p8, c1, c3]
    · replace h := run_f c3 h
      try simp only [↓RA,RB,RS, fx75,p1,p2,p3,p4,reduceIte,p5,p6,p7,p8, c1, c3]
      refine CondH.mk (fun c4 => ?_) (fun c4 => ?_)
      · replace h := run_t c4 h
        try simp only [↓RA,RB,RS, fx75,p1,p2,p3,p4,reduceIte,p5,p6,p7,p8, c1, c3, c4]
        have h := run_some h
        obtain rfl : _ = r := h
        refine FinH.l ?_
        try simp only [↓RA,RB,RS, fx75,p1,p2,p3,p4,reduceIte,p5,p6,p7,p8, c1, c3, c4]
      · replace h := run_f c4 h
        try simp only [↓RA,RB,RS, fx75,p1,p2,p3,p4,reduceIte,p5,p6,p7,p8, c1, c3, c4]
        refine CondH.mk (fun c5 => ?_) (fun c5 => ?_)
        · replace h := run_t c5 h
          try simp only [↓RA,RB,RS, fx75,p1,p2,p3,p4,reduceIte,p5,p6,p7,p8, c1, c3, c4, c5]
          have h := run_some h
          obtain rfl : _ = r := h
          refine FinH.l ?_
          try simp only [↓RA,RB,RS, fx75,p1,p2,p3,p4,reduceIte,p5,p6,p7,p8, c1, c3, c4, c5]
        · replace h := run_f c5 h
          try simp only [↓RA,RB,RS, fx75,p1,p2,p3,p4,reduceIte,p5,p6,p7,p8, c1, c3, c4, c5]
          have h := run_some h
          obtain rfl : _ = r := h
          refine FinH.l ?_
          try simp only [↓RA,RB,RS, fx75,p1,p2,p3,p4,reduceIte,p5,p6,p7,p8, c1, c3, c4, c5]

def fx73 := A @TB3 <| @TB29
theorem cmp_Or_int_sat {a0 : List Int}  {r : Int} (h : cmp_Or_int a0 = some r) : Sat Tryz.prog 73 [(.sl false 1 (a0.map I))] (I r) := by
  replace h := Run.of h
  unfold cmp_Or_int at h
  refine Sat.of_m (nt := 18) (rs := [.tmp 2]) (n := 100000) Tryz.func73 rfl rfl rfl rfl (by simp) ?_
  try simp only [↓RA,RB,RS, fx73,p1,p2,p3,p4,reduceIte,p5,p6,p7,p8]
  refine Mg.know_sl (b := false) (sz := 1) (es := a0.map I) 0 (by try simp only [↓RA,RB,RS, fx73,p1,p2,p3,p4,reduceIte,p5,p6,p7,p8]) fun hl0 => ?_; rw [List.length_map] at hl0
  replace h := run_loop h
  refine Mg.forN h (fun i3 s3 => [(3, .val (.pv (I (0 : Int)))), (6, .val (.pv (.sl false 1 (a0.map I)))), (7, .val (.pv (I (a0.length : Int)))), (8, .val (.pv (I (i3 : Int))))]) (fun i3 s3 => []) (St.le_mk2 (by try simp only [↓RA,RB,RS, fx73,p1,p2,p3,p4,reduceIte,p5,p6,p7,p8])) (fun i3 s3 hi h => ?_) (fun s3 h => ?_)
  · have w3 := wrap_succ (i := i3) (by omega)
    try simp only [↓RA,RB,RS, fx73,p1,p2,p3,p4,reduceIte,p5,p6,p7,p8]
    refine CondH.tt (decide_eq_true (by omega)) (fun c1 => ?_)
    try simp only [↓RA,RB,RS, fx73,p1,p2,p3,p4,reduceIte,p5,p6,p7,p8, c1]
    obtain ⟨v10, hv10, h⟩ := run_bind h
    refine IdxH.mk (f := I) hv10 ?_ ?_ <;> try simp only [↓RA,RB,RS, fx73,p1,p2,p3,p4,reduceIte,p5,p6,p7,p8, c1]
    refine CondH.mk (fun c2 => ?_) (fun c2 => ?_)
    · replace h := run_t c2 h
      try simp only [↓RA,RB,RS, fx73,p1,p2,p3,p4,reduceIte,p5,p6,p7,p8, c1, c2]
      have h := run_some h
      refine RdH.mk ⟨_, h, ?_⟩
      refine St.le_mk2 ?_
      try simp only [↓RA,RB,RS, fx73,p1,p2,p3,p4,reduceIte,p5,p6,p7,p8, c1, c2, w3]
    · replace h := run_f c2 h
      try simp only [↓RA,RB,RS, fx73,p1,p2,p3,p4,reduceIte,p5,p6,p7,p8, c1, c2]
      have h := run_some h
      obtain rfl : _ = r := h
      refine FinH.l ?_
      try simp only [↓RA,RB,RS, fx73,p1,p2,p3,p4,reduceIte,p5,p6,p7,p8, c1, c2]
  · try simp only [↓RA,RB,RS, fx73,p1,p2,p3,p4,reduceIte,p5,p6,p7,p8]
    refine CondH.ff (decide_eq_false (by omega)) (fun c3 => ?_)
    try simp only [↓RA,RB,RS, fx73,p1,p2,p3,p4,reduceIte,p5,p6,p7,p8, c3]
    have h := run_some h
    obtain rfl : _ = r := h
    refine FinH.l ?_
    try simp only [↓RA,RB,RS, fx73,p1,p2,p3,p4,reduceIte,p5,p6,p7,p8, c3]

end Go.Proofs.YtgbddapcjhgllaaGreat
