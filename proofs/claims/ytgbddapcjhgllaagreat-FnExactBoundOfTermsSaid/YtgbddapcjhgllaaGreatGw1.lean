/- A part of the proof: lemmas only; nothing is claimed here beyond what each lemma says. -/
import Derived.Test.YtgbddapcjhgllaaGreatGw0
set_option linter.unusedSimpArgs false
set_option linter.unusedVariables false
set_option linter.defProp false
set_option maxRecDepth 4000
namespace Go.Proofs.YtgbddapcjhgllaaGreat
open Go.Av
set_option maxHeartbeats 4000000
open And renaming intro → A
open Nat renaming reduceLT → p1, reduceAdd → p2, reduceMul → p3, reduceEqDiff → p4, reduceBEq → p5, reduceLeDiff → p6, reduceSub → p7
open Int renaming reduceToNat → p8
def fx54 := A @TB3 <| A @TB9 <| A @TB29 <| A @TB58 <| @mixedT
theorem impl_compareMajorants_sat {a0 : Majorant} {a1 : Majorant}  {r : Int} (h : impl_compareMajorants a0 a1 = some r) : Sat Tryz.prog 54 [((Majorant.pv false) a0), ((Majorant.pv false) a1)] (I r) := by
  replace h := Run.of h
  unfold impl_compareMajorants at h
  refine Sat.of_m (nt := 19) (rs := [.tmp 4]) (n := 100000) Tryz.func54 rfl rfl rfl rfl (by simp) ?_
  try simp only [↓RA,RB,RS, fx54,p1,p2,p3,p4,reduceIte,p5,p6,p7,p8]
  repeat (first | with_reducible refine noR_and (by repeat (first | exact noR_empty _ _ | exact noR_nilS _ _ | refine noR_mk _ _ _ _ _ rfl ?_ | refine noR_mkS _ _ _ _ _ rfl ?_)) ?_ | with_reducible refine noC_and (by repeat (first | exact noC_empty _ _ (by try simp only [↓RA,RB,RS, fx54,p1,p2,p3,p4,reduceIte,p5,p6,p7,p8]) | exact noC_nilS _ _ (by try simp only [↓RA,RB,RS, fx54,p1,p2,p3,p4,reduceIte,p5,p6,p7,p8]) | refine noC_mk _ _ _ _ _ rfl ?_ | refine noC_mkS _ _ _ _ _ rfl ?_)) ?_ | with_reducible refine and_ac ?_ | with_reducible refine And.intro (a := _ = List.range _) (by rfl) ?_)
  obtain ⟨v9, hv9, h⟩ := run_bind h
  refine CallH.mk [false, false] (cmp_Compare_string_sat hv9) ?_ ?_ <;> try simp only [↓RA,RB,RS, fx54,p1,p2,p3,p4,reduceIte,p5,p6,p7,p8]
  obtain ⟨v16, hv16, h⟩ := run_bind h
  refine CallH.mk [false, false] (cmp_Compare_int_sat hv16) ?_ ?_ <;> try simp only [↓RA,RB,RS, fx54,p1,p2,p3,p4,reduceIte,p5,p6,p7,p8]
  repeat (first | with_reducible refine noR_and (by repeat (first | exact noR_empty _ _ | exact noR_nilS _ _ | refine noR_mk _ _ _ _ _ rfl ?_ | refine noR_mkS _ _ _ _ _ rfl ?_)) ?_ | with_reducible refine noC_and (by repeat (first | exact noC_empty _ _ (by try simp only [↓RA,RB,RS, fx54,p1,p2,p3,p4,reduceIte,p5,p6,p7,p8]) | exact noC_nilS _ _ (by try simp only [↓RA,RB,RS, fx54,p1,p2,p3,p4,reduceIte,p5,p6,p7,p8]) | refine noC_mk _ _ _ _ _ rfl ?_ | refine noC_mkS _ _ _ _ _ rfl ?_)) ?_ | with_reducible refine and_ac ?_ | with_reducible refine And.intro (a := _ = List.range _) (by rfl) ?_)
  obtain ⟨v18, hv18, h⟩ := run_bind h
  refine CallH.mk [false] (cmp_Or_int_sat hv18) ?_ ?_ <;> try simp only [↓RA,RB,RS, fx54,p1,p2,p3,p4,reduceIte,p5,p6,p7,p8]
  refine And.intro (DrawH.mk [] [272] (by rfl) (by first | rfl | (try simp only [↓RA,RB,RS, fx54,p1,p2,p3,p4,reduceIte,p5,p6,p7,p8] <;> rfl)) (by first | rfl | (try simp only [↓RA,RB,RS, fx54,p1,p2,p3,p4,reduceIte,p5,p6,p7,p8] <;> rfl)) (by first | rfl | (try simp only [↓RA,RB,RS, fx54,p1,p2,p3,p4,reduceIte,p5,p6,p7,p8] <;> rfl)) (by simp) (by try simp only [↓RA,RB,RS, fx54,p1,p2,p3,p4,reduceIte,p5,p6,p7,p8]; repeat (first | exact noC_empty _ _ (by try simp only [↓RA,RB,RS, fx54,p1,p2,p3,p4,reduceIte,p5,p6,p7,p8]) | exact noC_nilS _ _ (by try simp only [↓RA,RB,RS, fx54,p1,p2,p3,p4,reduceIte,p5,p6,p7,p8]) | refine noC_mk _ _ _ _ _ rfl ?_ | refine noC_mkS _ _ _ _ _ rfl ?_ | refine And.intro ?_ ?_))) ?_
  try simp only [↓RA,RB,RS, fx54,p1,p2,p3,p4,reduceIte,p5,p6,p7,p8]
  have h := run_some h
  obtain rfl : _ = r := h
  refine FinH.l ?_
  try simp only [↓RA,RB,RS, fx54,p1,p2,p3,p4,reduceIte,p5,p6,p7,p8]

def fx56 := A @TB3 <| @TB4
theorem impl_IsValidMajorants_1_sat {a0 : Int}  {r : Bool} (h : impl_IsValidMajorants_1 a0 = some r) : Sat Tryz.prog 56 [(I a0)] (B r) := by
  replace h := Run.of h
  unfold impl_IsValidMajorants_1 at h
  refine Sat.of_m (nt := 6) (rs := [.tmp 2]) (n := 100000) Tryz.func56 rfl rfl rfl rfl (by simp) ?_
  try simp only [↓RA,RB,RS, fx56,p1,p2,p3,p4,reduceIte,p5,p6,p7,p8]
  obtain ⟨v4, hv4, h⟩ := run_bind h
  refine CallH.mk [false, false, false] (impl_within_sat hv4) ?_ ?_ <;> try simp only [↓RA,RB,RS, fx56,p1,p2,p3,p4,reduceIte,p5,p6,p7,p8]
  have h := run_some h
  obtain rfl : _ = r := h
  refine FinH.l ?_
  try simp only [↓RA,RB,RS, fx56,p1,p2,p3,p4,reduceIte,p5,p6,p7,p8]

def fx76 := A @TB3 <| @TB29
theorem slices_IndexFunc_Sint_int_sat {a0 : List Int} {a1 : Int → Option Bool} {a1_id : FuncId} {a1_cs : List PV} (a1_ok : ∀ y0 r, a1 y0 = some r → Sat Tryz.prog a1_id ((I y0) :: a1_cs) (B r)) (a1_cz : CapsOk a1_cs = True) {r : Int} (h : slices_IndexFunc_Sint_int a0 a1 = some r) : Sat Tryz.prog 76 [(.sl false 1 (a0.map I)), .clo a1_id a1_cs] (I r) := by
  replace h := Run.of h
  unfold slices_IndexFunc_Sint_int at h
  refine Sat.of_m (nt := 19) (rs := [.tmp 4]) (n := 100000) Tryz.func76 rfl rfl rfl rfl (by simp) ?_
  try simp only [↓RA,RB,RS, fx76, a1_cz,p1,p2,p3,p4,reduceIte,p5,p6,p7,p8]
  refine Mg.know_sl (b := false) (sz := 1) (es := a0.map I) 0 (by try simp only [↓RA,RB,RS, fx76, a1_cz,p1,p2,p3,p4,reduceIte,p5,p6,p7,p8]) fun hl0 => ?_; rw [List.length_map] at hl0
  replace h := run_loop h
  refine Mg.forN h (fun i2 s2 => [(0, .val (.pv (.sl false 1 (a0.map I)))), (1, .val (.pv (.clo a1_id a1_cs))), (7, .val (.pv (I (a0.length : Int)))), (8, .val (.pv (I (i2 : Int))))]) (fun i2 s2 => []) (St.le_mk2 (by try simp only [↓RA,RB,RS, fx76, a1_cz,p1,p2,p3,p4,reduceIte,p5,p6,p7,p8])) (fun i2 s2 hi h => ?_) (fun s2 h => ?_)
  · have w2 := wrap_succ (i := i2) (by omega)
    try simp only [↓RA,RB,RS, fx76, a1_cz,p1,p2,p3,p4,reduceIte,p5,p6,p7,p8]
    refine CondH.tt (decide_eq_true (by omega)) (fun c1 => ?_)
    try simp only [↓RA,RB,RS, fx76, a1_cz,p1,p2,p3,p4,reduceIte,p5,p6,p7,p8, c1]
    obtain ⟨v14, hv14, h⟩ := run_bind h
    refine IdxH.mk (f := I) hv14 ?_ ?_ <;> try simp only [↓RA,RB,RS, fx76, a1_cz,p1,p2,p3,p4,reduceIte,p5,p6,p7,p8, c1]
    obtain ⟨v16, hv16, h⟩ := run_bind h
    refine CallH.mk [false] (a1_ok _ _ hv16) ?_ ?_ <;> try simp only [↓RA,RB,RS, fx76, a1_cz,p1,p2,p3,p4,reduceIte,p5,p6,p7,p8, c1]
    refine CondH.mk (fun c2 => ?_) (fun c2 => ?_)
    · replace h := run_t c2 h
      try simp only [↓RA,RB,RS, fx76, a1_cz,p1,p2,p3,p4,reduceIte,p5,p6,p7,p8, c1, c2]
      have h := run_some h
      obtain rfl : _ = r := h
      refine FinH.l ?_
      try simp only [↓RA,RB,RS, fx76, a1_cz,p1,p2,p3,p4,reduceIte,p5,p6,p7,p8, c1, c2]
    · replace h := run_f c2 h
      try simp only [↓RA,RB,RS, fx76, a1_cz,p1,p2,p3,p4,reduceIte,p5,p6,p7,p8, c1, c2]
      have h := run_some h
      refine RdH.mk ⟨_, h, ?_⟩
      refine St.le_mk2 ?_
      try simp only [↓RA,RB,RS, fx76, a1_cz,p1,p2,p3,p4,reduceIte,p5,p6,p7,p8, c1, c2, w2]
  · try simp only [↓RA,RB,RS, fx76, a1_cz,p1,p2,p3,p4,reduceIte,p5,p6,p7,p8]
    refine CondH.ff (decide_eq_false (by omega)) (fun c3 => ?_)
    try simp only [↓RA,RB,RS, fx76, a1_cz,p1,p2,p3,p4,reduceIte,p5,p6,p7,p8, c3]
    have h := run_some h
    obtain rfl : _ = r := h
    refine FinH.l ?_
    try simp only [↓RA,RB,RS, fx76, a1_cz,p1,p2,p3,p4,reduceIte,p5,p6,p7,p8, c3]

def fx55 := A @TB3 <| A @TB29 <| @TB76
theorem slices_ContainsFunc_Sint_int_sat {a0 : List Int} {a1 : Int → Option Bool} {a1_id : FuncId} {a1_cs : List PV} (a1_ok : ∀ y0 r, a1 y0 = some r → Sat Tryz.prog a1_id ((I y0) :: a1_cs) (B r)) (a1_cz : CapsOk a1_cs = True) {r : Bool} (h : slices_ContainsFunc_Sint_int a0 a1 = some r) : Sat Tryz.prog 55 [(.sl false 1 (a0.map I)), .clo a1_id a1_cs] (B r) := by
  replace h := Run.of h
  unfold slices_ContainsFunc_Sint_int at h
  refine Sat.of_m (nt := 9) (rs := [.tmp 4]) (n := 100000) Tryz.func55 rfl rfl rfl rfl (by simp) ?_
  try simp only [↓RA,RB,RS, fx55, a1_cz,p1,p2,p3,p4,reduceIte,p5,p6,p7,p8]
  obtain ⟨v7, hv7, h⟩ := run_bind h
  refine CallH.mk [false, false] (slices_IndexFunc_Sint_int_sat a1_ok a1_cz hv7) ?_ ?_ <;> try simp only [↓RA,RB,RS, fx55, a1_cz,p1,p2,p3,p4,reduceIte,p5,p6,p7,p8]
  have h := run_some h
  obtain rfl : _ = r := h
  refine FinH.l ?_
  try simp only [↓RA,RB,RS, fx55, a1_cz,p1,p2,p3,p4,reduceIte,p5,p6,p7,p8]

def fx29 := A @TB3 <| A @TB4 <| A @TB9 <| A @TB29 <| A @TB34 <| A @TB58 <| A @TB76 <| @mixedT
theorem impl_IsValidMajorants_sat {a0 : List Majorant}  {r : Bool} (h : impl_IsValidMajorants a0 = some r) : Sat Tryz.prog 29 [(.sl false 3 (a0.map (Majorant.pv false)))] (B r) := by
  replace h := Run.of h
  unfold impl_IsValidMajorants at h
  refine Sat.of_m (nt := 49) (rs := [.tmp 2]) (n := 100000) Tryz.func29 rfl rfl rfl rfl (by simp) ?_
  try simp only [↓RA,RB,RS, fx29,p1,p2,p3,p4,reduceIte,p5,p6,p7,p8]
  refine Mg.know_sl (b := false) (sz := 3) (es := a0.map (Majorant.pv false)) 0 (by try simp only [↓RA,RB,RS, fx29,p1,p2,p3,p4,reduceIte,p5,p6,p7,p8]) fun hl0 => ?_; rw [List.length_map] at hl0
  replace h := run_loop h
  refine Mg.forN h (fun i2 s2 => [(0, .val (.pv (.sl false 3 (a0.map (Majorant.pv false))))), (5, .val (.pv (.sl false 3 (a0.map (Majorant.pv false))))), (6, .val (.pv (I (a0.length : Int)))), (7, .val (.pv (I (i2 : Int))))]) (fun i2 s2 => []) (St.le_mk2 (by try simp only [↓RA,RB,RS, fx29,p1,p2,p3,p4,reduceIte,p5,p6,p7,p8])) (fun i2 s2 hi h => ?_) (fun s2 h => ?_)
  · have w2 := wrap_succ (i := i2) (by omega)
    try simp only [↓RA,RB,RS, fx29,p1,p2,p3,p4,reduceIte,p5,p6,p7,p8]
    refine CondH.tt (decide_eq_true (by omega)) (fun c1 => ?_)
    try simp only [↓RA,RB,RS, fx29,p1,p2,p3,p4,reduceIte,p5,p6,p7,p8, c1]
    obtain ⟨v10, hv10, h⟩ := run_bind h
    refine IdxH.mk (f := (Majorant.pv false)) hv10 ?_ ?_ <;> try simp only [↓RA,RB,RS, fx29,p1,p2,p3,p4,reduceIte,p5,p6,p7,p8, c1]
    repeat (first | with_reducible refine noR_and (by repeat (first | exact noR_empty _ _ | exact noR_nilS _ _ | refine noR_mk _ _ _ _ _ rfl ?_ | refine noR_mkS _ _ _ _ _ rfl ?_)) ?_ | with_reducible refine noC_and (by repeat (first | exact noC_empty _ _ (by try simp only [↓RA,RB,RS, fx29,p1,p2,p3,p4,reduceIte,p5,p6,p7,p8]) | exact noC_nilS _ _ (by try simp only [↓RA,RB,RS, fx29,p1,p2,p3,p4,reduceIte,p5,p6,p7,p8]) | refine noC_mk _ _ _ _ _ rfl ?_ | refine noC_mkS _ _ _ _ _ rfl ?_)) ?_ | with_reducible refine and_ac ?_ | with_reducible refine And.intro (a := _ = List.range _) (by rfl) ?_)
    obtain ⟨v14, hv14, h⟩ := run_bind h
    refine CallH.mk [false] (impl_isSymbol_sat hv14) ?_ ?_ <;> try simp only [↓RA,RB,RS, fx29,p1,p2,p3,p4,reduceIte,p5,p6,p7,p8, c1]
    refine CondH.mk (fun c2 => ?_) (fun c2 => ?_)
    · replace h := run_t c2 h
      try simp only [↓RA,RB,RS, fx29,p1,p2,p3,p4,reduceIte,p5,p6,p7,p8, c1, c2]
      refine CondH.mk (fun c3 => ?_) (fun c3 => ?_)
      · replace h := run_t c3 h
        try simp only [↓RA,RB,RS, fx29,p1,p2,p3,p4,reduceIte,p5,p6,p7,p8, c1, c2, c3]
        refine And.intro (DrawH.none (by rfl) (by first | rfl | (try simp only [↓RA,RB,RS, fx29,p1,p2,p3,p4,reduceIte,p5,p6,p7,p8] <;> rfl)) (by first | rfl | (try simp only [↓RA,RB,RS, fx29,p1,p2,p3,p4,reduceIte,p5,p6,p7,p8] <;> rfl)) (by first | rfl | (try simp only [↓RA,RB,RS, fx29,p1,p2,p3,p4,reduceIte,p5,p6,p7,p8] <;> rfl))) ?_
        try simp only [↓RA,RB,RS, fx29,p1,p2,p3,p4,reduceIte,p5,p6,p7,p8, c1, c2, c3]
        have h := run_some h
        obtain rfl : _ = r := h
        refine FinH.l ?_
        try simp only [↓RA,RB,RS, fx29,p1,p2,p3,p4,reduceIte,p5,p6,p7,p8, c1, c2, c3]
      · replace h := run_f c3 h
        try simp only [↓RA,RB,RS, fx29,p1,p2,p3,p4,reduceIte,p5,p6,p7,p8, c1, c2, c3]
        obtain ⟨v25, hv25, h⟩ := run_bind h
        refine CallH.mk [false, false, false] (impl_within_sat hv25) ?_ ?_ <;> try simp only [↓RA,RB,RS, fx29,p1,p2,p3,p4,reduceIte,p5,p6,p7,p8, c1, c2, c3]
        refine CondH.mk (fun c4 => ?_) (fun c4 => ?_)
        · replace h := run_t c4 h
          try simp only [↓RA,RB,RS, fx29,p1,p2,p3,p4,reduceIte,p5,p6,p7,p8, c1, c2, c3, c4]
          refine CondH.mk (fun c5 => ?_) (fun c5 => ?_)
          · replace h := run_t c5 h
            try simp only [↓RA,RB,RS, fx29,p1,p2,p3,p4,reduceIte,p5,p6,p7,p8, c1, c2, c3, c4, c5]
            obtain ⟨v35, hv35, h⟩ := run_bind h
            refine IdxH.mk (f := (Majorant.pv false)) hv35 ?_ ?_ <;> try simp only [↓RA,RB,RS, fx29,p1,p2,p3,p4,reduceIte,p5,p6,p7,p8, c1, c2, c3, c4, c5]
            obtain ⟨v38, hv38, h⟩ := run_bind h
            refine CallH.mk [false, false] (impl_compareMajorants_sat hv38) ?_ ?_ <;> try simp only [↓RA,RB,RS, fx29,p1,p2,p3,p4,reduceIte,p5,p6,p7,p8, c1, c2, c3, c4, c5]
            refine And.intro (DrawH.none (by rfl) (by first | rfl | (try simp only [↓RA,RB,RS, fx29,p1,p2,p3,p4,reduceIte,p5,p6,p7,p8] <;> rfl)) (by first | rfl | (try simp only [↓RA,RB,RS, fx29,p1,p2,p3,p4,reduceIte,p5,p6,p7,p8] <;> rfl)) (by first | rfl | (try simp only [↓RA,RB,RS, fx29,p1,p2,p3,p4,reduceIte,p5,p6,p7,p8] <;> rfl))) ?_
            try simp only [↓RA,RB,RS, fx29,p1,p2,p3,p4,reduceIte,p5,p6,p7,p8, c1, c2, c3, c4, c5]
            refine CondH.mk (fun c6 => ?_) (fun c6 => ?_)
            · replace h := run_t c6 h
              try simp only [↓RA,RB,RS, fx29,p1,p2,p3,p4,reduceIte,p5,p6,p7,p8, c1, c2, c3, c4, c5, c6]
              have h := run_some h
              obtain rfl : _ = r := h
              refine FinH.l ?_
              try simp only [↓RA,RB,RS, fx29,p1,p2,p3,p4,reduceIte,p5,p6,p7,p8, c1, c2, c3, c4, c5, c6]
            · replace h := run_f c6 h
              try simp only [↓RA,RB,RS, fx29,p1,p2,p3,p4,reduceIte,p5,p6,p7,p8, c1, c2, c3, c4, c5, c6]
              obtain ⟨v44, hv44, h⟩ := run_bind h
              refine CallH.mk [false, false] (slices_ContainsFunc_Sint_int_sat (fun _ _ hh => impl_IsValidMajorants_1_sat hh) (by simp only [CapsOk_nil, CapsOk_cons]) hv44) ?_ ?_ <;> try simp only [↓RA,RB,RS, fx29,p1,p2,p3,p4,reduceIte,p5,p6,p7,p8, c1, c2, c3, c4, c5, c6]
              refine CondH.mk (fun c7 => ?_) (fun c7 => ?_)
              · replace h := run_t c7 h
                try simp only [↓RA,RB,RS, fx29,p1,p2,p3,p4,reduceIte,p5,p6,p7,p8, c1, c2, c3, c4, c5, c6, c7]
                have h := run_some h
                obtain rfl : _ = r := h
                refine FinH.l ?_
                try simp only [↓RA,RB,RS, fx29,p1,p2,p3,p4,reduceIte,p5,p6,p7,p8, c1, c2, c3, c4, c5, c6, c7]
              · replace h := run_f c7 h
                try simp only [↓RA,RB,RS, fx29,p1,p2,p3,p4,reduceIte,p5,p6,p7,p8, c1, c2, c3, c4, c5, c6, c7]
                have h := run_some h
                refine RdH.mk ⟨_, h, ?_⟩
                refine St.le_mk2 ?_
                try simp only [↓RA,RB,RS, fx29,p1,p2,p3,p4,reduceIte,p5,p6,p7,p8, c1, c2, c3, c4, c5, c6, c7, w2]
          · replace h := run_f c5 h
            try simp only [↓RA,RB,RS, fx29,p1,p2,p3,p4,reduceIte,p5,p6,p7,p8, c1, c2, c3, c4, c5]
            refine And.intro (DrawH.none (by rfl) (by first | rfl | (try simp only [↓RA,RB,RS, fx29,p1,p2,p3,p4,reduceIte,p5,p6,p7,p8] <;> rfl)) (by first | rfl | (try simp only [↓RA,RB,RS, fx29,p1,p2,p3,p4,reduceIte,p5,p6,p7,p8] <;> rfl)) (by first | rfl | (try simp only [↓RA,RB,RS, fx29,p1,p2,p3,p4,reduceIte,p5,p6,p7,p8] <;> rfl))) ?_
            try simp only [↓RA,RB,RS, fx29,p1,p2,p3,p4,reduceIte,p5,p6,p7,p8, c1, c2, c3, c4, c5]
            obtain ⟨v44, hv44, h⟩ := run_bind h
            refine CallH.mk [false, false] (slices_ContainsFunc_Sint_int_sat (fun _ _ hh => impl_IsValidMajorants_1_sat hh) (by simp only [CapsOk_nil, CapsOk_cons]) hv44) ?_ ?_ <;> try simp only [↓RA,RB,RS, fx29,p1,p2,p3,p4,reduceIte,p5,p6,p7,p8, c1, c2, c3, c4, c5]
            refine CondH.mk (fun c8 => ?_) (fun c8 => ?_)
            · replace h := run_t c8 h
              try simp only [↓RA,RB,RS, fx29,p1,p2,p3,p4,reduceIte,p5,p6,p7,p8, c1, c2, c3, c4, c5, c8]
              have h := run_some h
              obtain rfl : _ = r := h
              refine FinH.l ?_
              try simp only [↓RA,RB,RS, fx29,p1,p2,p3,p4,reduceIte,p5,p6,p7,p8, c1, c2, c3, c4, c5, c8]
            · replace h := run_f c8 h
              try simp only [↓RA,RB,RS, fx29,p1,p2,p3,p4,reduceIte,p5,p6,p7,p8, c1, c2, c3, c4, c5, c8]
              have h := run_some h
              refine RdH.mk ⟨_, h, ?_⟩
              refine St.le_mk2 ?_
              try simp only [↓RA,RB,RS, fx29,p1,p2,p3,p4,reduceIte,p5,p6,p7,p8, c1, c2, c3, c4, c5, c8, w2]
        · replace h := run_f c4 h
          try simp only [↓RA,RB,RS, fx29,p1,p2,p3,p4,reduceIte,p5,p6,p7,p8, c1, c2, c3, c4]
          refine And.intro (DrawH.none (by rfl) (by first | rfl | (try simp only [↓RA,RB,RS, fx29,p1,p2,p3,p4,reduceIte,p5,p6,p7,p8] <;> rfl)) (by first | rfl | (try simp only [↓RA,RB,RS, fx29,p1,p2,p3,p4,reduceIte,p5,p6,p7,p8] <;> rfl)) (by first | rfl | (try simp only [↓RA,RB,RS, fx29,p1,p2,p3,p4,reduceIte,p5,p6,p7,p8] <;> rfl))) ?_
          try simp only [↓RA,RB,RS, fx29,p1,p2,p3,p4,reduceIte,p5,p6,p7,p8, c1, c2, c3, c4]
          have h := run_some h
          obtain rfl : _ = r := h
          refine FinH.l ?_
          try simp only [↓RA,RB,RS, fx29,p1,p2,p3,p4,reduceIte,p5,p6,p7,p8, c1, c2, c3, c4]
    · replace h := run_f c2 h
      try simp only [↓RA,RB,RS, fx29,p1,p2,p3,p4,reduceIte,p5,p6,p7,p8, c1, c2]
      refine And.intro (DrawH.none (by rfl) (by first | rfl | (try simp only [↓RA,RB,RS, fx29,p1,p2,p3,p4,reduceIte,p5,p6,p7,p8] <;> rfl)) (by first | rfl | (try simp only [↓RA,RB,RS, fx29,p1,p2,p3,p4,reduceIte,p5,p6,p7,p8] <;> rfl)) (by first | rfl | (try simp only [↓RA,RB,RS, fx29,p1,p2,p3,p4,reduceIte,p5,p6,p7,p8] <;> rfl))) ?_
      try simp only [↓RA,RB,RS, fx29,p1,p2,p3,p4,reduceIte,p5,p6,p7,p8, c1, c2]
      have h := run_some h
      obtain rfl : _ = r := h
      refine FinH.l ?_
      try simp only [↓RA,RB,RS, fx29,p1,p2,p3,p4,reduceIte,p5,p6,p7,p8, c1, c2]
  · try simp only [↓RA,RB,RS, fx29,p1,p2,p3,p4,reduceIte,p5,p6,p7,p8]
    refine CondH.ff (decide_eq_false (by omega)) (fun c9 => ?_)
    try simp only [↓RA,RB,RS, fx29,p1,p2,p3,p4,reduceIte,p5,p6,p7,p8, c9]
    have h := run_some h
    obtain rfl : _ = r := h
    refine FinH.l ?_
    try simp only [↓RA,RB,RS, fx29,p1,p2,p3,p4,reduceIte,p5,p6,p7,p8, c9]

def fx77 := A @TB3 <| A @TB36 <| @TB38
theorem impl_sizeN_sat (n : Nat) : (∀ (a0 : Term) (r : Int), impl_sizeN n a0 = some r → Sat Tryz.prog 77 [((Term.pv false) a0)] (I r)) := by
  induction n with
  | zero => exact fun _ _ h => by simp [impl_sizeN] at h
  | succ n ih =>
    refine fun a0 r h => ?_
    replace h := Run.of h
    rw [impl_sizeN] at h
    refine Sat.of_m (nt := 22) (rs := [.tmp 2]) (n := 100000) Tryz.func77 rfl rfl rfl rfl (by simp) ?_
    try simp only [↓RA,RB,RS, fx77,p1,p2,p3,p4,reduceIte,p5,p6,p7,p8]
    repeat (first | with_reducible refine noR_and (by repeat (first | exact noR_empty _ _ | exact noR_nilS _ _ | refine noR_mk _ _ _ _ _ rfl ?_ | refine noR_mkS _ _ _ _ _ rfl ?_)) ?_ | with_reducible refine noC_and (by repeat (first | exact noC_empty _ _ (by try simp only [↓RA,RB,RS, fx77,p1,p2,p3,p4,reduceIte,p5,p6,p7,p8]) | exact noC_nilS _ _ (by try simp only [↓RA,RB,RS, fx77,p1,p2,p3,p4,reduceIte,p5,p6,p7,p8]) | refine noC_mk _ _ _ _ _ rfl ?_ | refine noC_mkS _ _ _ _ _ rfl ?_)) ?_ | with_reducible refine and_ac ?_ | with_reducible refine And.intro (a := _ = List.range _) (by rfl) ?_)
    refine Mg.know_sl (b := false) (sz := 2) (es := a0.Args.map (Term.pv false)) 7 (by try simp only [↓RA,RB,RS, fx77,p1,p2,p3,p4,reduceIte,p5,p6,p7,p8]) fun hl7 => ?_; rw [List.length_map] at hl7
    replace h := run_loop h
    refine Mg.forN h (fun i3 s3 => [(3, .val (.pv (I s3))), (7, .val (.pv (.sl false 2 (a0.Args.map (Term.pv false))))), (8, .val (.pv (I (a0.Args.length : Int)))), (9, .val (.pv (I (i3 : Int))))]) (fun i3 s3 => []) (St.le_mk2 (by try simp only [↓RA,RB,RS, fx77,p1,p2,p3,p4,reduceIte,p5,p6,p7,p8])) (fun i3 s3 hi h => ?_) (fun s3 h => ?_)
    · have w3 := wrap_succ (i := i3) (by omega)
      try simp only [↓RA,RB,RS, fx77,p1,p2,p3,p4,reduceIte,p5,p6,p7,p8]
      refine CondH.tt (decide_eq_true (by omega)) (fun c1 => ?_)
      try simp only [↓RA,RB,RS, fx77,p1,p2,p3,p4,reduceIte,p5,p6,p7,p8, c1]
      obtain ⟨v11, hv11, h⟩ := run_bind h
      refine IdxH.mk (f := (Term.pv false)) hv11 ?_ ?_ <;> try simp only [↓RA,RB,RS, fx77,p1,p2,p3,p4,reduceIte,p5,p6,p7,p8, c1]
      repeat (first | with_reducible refine noR_and (by repeat (first | exact noR_empty _ _ | exact noR_nilS _ _ | refine noR_mk _ _ _ _ _ rfl ?_ | refine noR_mkS _ _ _ _ _ rfl ?_)) ?_ | with_reducible refine noC_and (by repeat (first | exact noC_empty _ _ (by try simp only [↓RA,RB,RS, fx77,p1,p2,p3,p4,reduceIte,p5,p6,p7,p8]) | exact noC_nilS _ _ (by try simp only [↓RA,RB,RS, fx77,p1,p2,p3,p4,reduceIte,p5,p6,p7,p8]) | refine noC_mk _ _ _ _ _ rfl ?_ | refine noC_mkS _ _ _ _ _ rfl ?_)) ?_ | with_reducible refine and_ac ?_ | with_reducible refine And.intro (a := _ = List.range _) (by rfl) ?_)
      refine CondH.mk (fun c2 => ?_) (fun c2 => ?_)
      · replace h := run_t c2 h
        try simp only [↓RA,RB,RS, fx77,p1,p2,p3,p4,reduceIte,p5,p6,p7,p8, c1, c2]
        have h := run_some h
        obtain rfl : _ = r := h
        refine FinH.l ?_
        try simp only [↓RA,RB,RS, fx77,p1,p2,p3,p4,reduceIte,p5,p6,p7,p8, c1, c2]
      · replace h := run_f c2 h
        try simp only [↓RA,RB,RS, fx77,p1,p2,p3,p4,reduceIte,p5,p6,p7,p8, c1, c2]
        obtain ⟨v18, hv18, h⟩ := run_bind h
        refine CallH.mk [false] (ih _ _ hv18) ?_ ?_ <;> try simp only [↓RA,RB,RS, fx77,p1,p2,p3,p4,reduceIte,p5,p6,p7,p8, c1, c2]
        have h := run_some h
        refine RdH.mk ⟨_, h, ?_⟩
        refine St.le_mk2 ?_
        try simp only [↓RA,RB,RS, fx77,p1,p2,p3,p4,reduceIte,p5,p6,p7,p8, c1, c2, w3]
    · try simp only [↓RA,RB,RS, fx77,p1,p2,p3,p4,reduceIte,p5,p6,p7,p8]
      refine CondH.ff (decide_eq_false (by omega)) (fun c3 => ?_)
      try simp only [↓RA,RB,RS, fx77,p1,p2,p3,p4,reduceIte,p5,p6,p7,p8, c3]
      have h := run_some h
      obtain rfl : _ = r := h
      refine FinH.l ?_
      try simp only [↓RA,RB,RS, fx77,p1,p2,p3,p4,reduceIte,p5,p6,p7,p8, c3]
theorem impl_size_sat {a0 : Term} {r : Int} (h : impl_size a0 = some r) : Sat Tryz.prog 77 [((Term.pv false) a0)] (I r) := by
  obtain ⟨n, hn⟩ := lim_some h
  exact (impl_sizeN_sat n) _ _ hn

def fx78 := A @TB3 <| A @TB36 <| @TB38
theorem impl_depthN_sat (n : Nat) : (∀ (a0 : Term) (r : Int), impl_depthN n a0 = some r → Sat Tryz.prog 78 [((Term.pv false) a0)] (I r)) := by
  induction n with
  | zero => exact fun _ _ h => by simp [impl_depthN] at h
  | succ n ih =>
    refine fun a0 r h => ?_
    replace h := Run.of h
    rw [impl_depthN] at h
    refine Sat.of_m (nt := 20) (rs := [.tmp 2]) (n := 100000) Tryz.func78 rfl rfl rfl rfl (by simp) ?_
    try simp only [↓RA,RB,RS, fx78,p1,p2,p3,p4,reduceIte,p5,p6,p7,p8]
    repeat (first | with_reducible refine noR_and (by repeat (first | exact noR_empty _ _ | exact noR_nilS _ _ | refine noR_mk _ _ _ _ _ rfl ?_ | refine noR_mkS _ _ _ _ _ rfl ?_)) ?_ | with_reducible refine noC_and (by repeat (first | exact noC_empty _ _ (by try simp only [↓RA,RB,RS, fx78,p1,p2,p3,p4,reduceIte,p5,p6,p7,p8]) | exact noC_nilS _ _ (by try simp only [↓RA,RB,RS, fx78,p1,p2,p3,p4,reduceIte,p5,p6,p7,p8]) | refine noC_mk _ _ _ _ _ rfl ?_ | refine noC_mkS _ _ _ _ _ rfl ?_)) ?_ | with_reducible refine and_ac ?_ | with_reducible refine And.intro (a := _ = List.range _) (by rfl) ?_)
    refine Mg.know_sl (b := false) (sz := 2) (es := a0.Args.map (Term.pv false)) 7 (by try simp only [↓RA,RB,RS, fx78,p1,p2,p3,p4,reduceIte,p5,p6,p7,p8]) fun hl7 => ?_; rw [List.length_map] at hl7
    replace h := run_loop h
    refine Mg.forN h (fun i3 s3 => [(3, .val (.pv (I s3))), (7, .val (.pv (.sl false 2 (a0.Args.map (Term.pv false))))), (8, .val (.pv (I (a0.Args.length : Int)))), (9, .val (.pv (I (i3 : Int))))]) (fun i3 s3 => []) (St.le_mk2 (by try simp only [↓RA,RB,RS, fx78,p1,p2,p3,p4,reduceIte,p5,p6,p7,p8])) (fun i3 s3 hi h => ?_) (fun s3 h => ?_)
    · have w3 := wrap_succ (i := i3) (by omega)
      try simp only [↓RA,RB,RS, fx78,p1,p2,p3,p4,reduceIte,p5,p6,p7,p8]
      refine CondH.tt (decide_eq_true (by omega)) (fun c1 => ?_)
      try simp only [↓RA,RB,RS, fx78,p1,p2,p3,p4,reduceIte,p5,p6,p7,p8, c1]
      obtain ⟨v11, hv11, h⟩ := run_bind h
      refine IdxH.mk (f := (Term.pv false)) hv11 ?_ ?_ <;> try simp only [↓RA,RB,RS, fx78,p1,p2,p3,p4,reduceIte,p5,p6,p7,p8, c1]
      repeat (first | with_reducible refine noR_and (by repeat (first | exact noR_empty _ _ | exact noR_nilS _ _ | refine noR_mk _ _ _ _ _ rfl ?_ | refine noR_mkS _ _ _ _ _ rfl ?_)) ?_ | with_reducible refine noC_and (by repeat (first | exact noC_empty _ _ (by try simp only [↓RA,RB,RS, fx78,p1,p2,p3,p4,reduceIte,p5,p6,p7,p8]) | exact noC_nilS _ _ (by try simp only [↓RA,RB,RS, fx78,p1,p2,p3,p4,reduceIte,p5,p6,p7,p8]) | refine noC_mk _ _ _ _ _ rfl ?_ | refine noC_mkS _ _ _ _ _ rfl ?_)) ?_ | with_reducible refine and_ac ?_ | with_reducible refine And.intro (a := _ = List.range _) (by rfl) ?_)
      obtain ⟨v15, hv15, h⟩ := run_bind h
      refine CallH.mk [false] (ih _ _ hv15) ?_ ?_ <;> try simp only [↓RA,RB,RS, fx78,p1,p2,p3,p4,reduceIte,p5,p6,p7,p8, c1]
      have h := run_some h
      refine RdH.mk ⟨_, h, ?_⟩
      refine St.le_mk2 ?_
      try simp only [↓RA,RB,RS, fx78,p1,p2,p3,p4,reduceIte,p5,p6,p7,p8, c1, w3]
    · try simp only [↓RA,RB,RS, fx78,p1,p2,p3,p4,reduceIte,p5,p6,p7,p8]
      refine CondH.ff (decide_eq_false (by omega)) (fun c2 => ?_)
      try simp only [↓RA,RB,RS, fx78,p1,p2,p3,p4,reduceIte,p5,p6,p7,p8, c2]
      have h := run_some h
      obtain rfl : _ = r := h
      refine FinH.l ?_
      try simp only [↓RA,RB,RS, fx78,p1,p2,p3,p4,reduceIte,p5,p6,p7,p8, c2]
theorem impl_depth_sat {a0 : Term} {r : Int} (h : impl_depth a0 = some r) : Sat Tryz.prog 78 [((Term.pv false) a0)] (I r) := by
  obtain ⟨n, hn⟩ := lim_some h
  exact (impl_depthN_sat n) _ _ hn

def fx57 := A @TB3 <| @TB38
theorem impl_isSmall_sat {a0 : Term}  {r : Bool} (h : impl_isSmall a0 = some r) : Sat Tryz.prog 57 [((Term.pv false) a0)] (B r) := by
  replace h := Run.of h
  unfold impl_isSmall at h
  refine Sat.of_m (nt := 11) (rs := [.tmp 2]) (n := 100000) Tryz.func57 rfl rfl rfl rfl (by simp) ?_
  try simp only [↓RA,RB,RS, fx57,p1,p2,p3,p4,reduceIte,p5,p6,p7,p8]
  repeat (first | with_reducible refine noR_and (by repeat (first | exact noR_empty _ _ | exact noR_nilS _ _ | refine noR_mk _ _ _ _ _ rfl ?_ | refine noR_mkS _ _ _ _ _ rfl ?_)) ?_ | with_reducible refine noC_and (by repeat (first | exact noC_empty _ _ (by try simp only [↓RA,RB,RS, fx57,p1,p2,p3,p4,reduceIte,p5,p6,p7,p8]) | exact noC_nilS _ _ (by try simp only [↓RA,RB,RS, fx57,p1,p2,p3,p4,reduceIte,p5,p6,p7,p8]) | refine noC_mk _ _ _ _ _ rfl ?_ | refine noC_mkS _ _ _ _ _ rfl ?_)) ?_ | with_reducible refine and_ac ?_ | with_reducible refine And.intro (a := _ = List.range _) (by rfl) ?_)
  obtain ⟨v4, hv4, h⟩ := run_bind h
  refine CallH.mk [false] (impl_size_sat hv4) ?_ ?_ <;> try simp only [↓RA,RB,RS, fx57,p1,p2,p3,p4,reduceIte,p5,p6,p7,p8]
  refine CondH.mk (fun c1 => ?_) (fun c1 => ?_)
  · replace h := run_t c1 h
    try simp only [↓RA,RB,RS, fx57,p1,p2,p3,p4,reduceIte,p5,p6,p7,p8, c1]
    obtain ⟨v8, hv8, h⟩ := run_bind h
    refine CallH.mk [false] (impl_depth_sat hv8) ?_ ?_ <;> try simp only [↓RA,RB,RS, fx57,p1,p2,p3,p4,reduceIte,p5,p6,p7,p8, c1]
    have h := run_some h
    obtain rfl : _ = r := h
    refine FinH.l ?_
    try simp only [↓RA,RB,RS, fx57,p1,p2,p3,p4,reduceIte,p5,p6,p7,p8, c1]
  · replace h := run_f c1 h
    try simp only [↓RA,RB,RS, fx57,p1,p2,p3,p4,reduceIte,p5,p6,p7,p8, c1]
    have h := run_some h
    obtain rfl : _ = r := h
    refine FinH.l ?_
    try simp only [↓RA,RB,RS, fx57,p1,p2,p3,p4,reduceIte,p5,p6,p7,p8, c1]

def fx82 := @TB5
theorem impl_isUpper_sat {a0 : Int}  {r : Bool} (h : impl_isUpper a0 = some r) : Sat Tryz.prog 82 [((Ik .u8) a0)] (B r) := by
  replace h := Run.of h
  unfold impl_isUpper at h
  refine Sat.of_m (nt := 9) (rs := [.tmp 2]) (n := 100000) Tryz.func82 rfl rfl rfl rfl (by simp) ?_
  try simp only [↓RA,RB,RS, fx82,p1,p2,p3,p4,reduceIte,p5,p6,p7,p8]
  refine CondH.mk (fun c1 => ?_) (fun c1 => ?_)
  · replace h := run_t c1 h
    try simp only [↓RA,RB,RS, fx82,p1,p2,p3,p4,reduceIte,p5,p6,p7,p8, c1]
    have h := run_some h
    obtain rfl : _ = r := h
    refine FinH.l ?_
    try simp only [↓RA,RB,RS, fx82,p1,p2,p3,p4,reduceIte,p5,p6,p7,p8, c1]
  · replace h := run_f c1 h
    try simp only [↓RA,RB,RS, fx82,p1,p2,p3,p4,reduceIte,p5,p6,p7,p8, c1]
    have h := run_some h
    obtain rfl : _ = r := h
    refine FinH.l ?_
    try simp only [↓RA,RB,RS, fx82,p1,p2,p3,p4,reduceIte,p5,p6,p7,p8, c1]

def fx79 := A @TB3 <| A @TB4 <| A @TB5 <| @TB9
theorem impl_isVariable_sat {a0 : ByteArray}  {r : Bool} (h : impl_isVariable a0 = some r) : Sat Tryz.prog 79 [(Sx a0)] (B r) := by
  replace h := Run.of h
  unfold impl_isVariable at h
  refine Sat.of_m (nt := 40) (rs := [.tmp 2]) (n := 100000) Tryz.func79 rfl rfl rfl rfl (by simp) ?_
  try simp only [↓RA,RB,RS, fx79,p1,p2,p3,p4,reduceIte,p5,p6,p7,p8]
  obtain ⟨N2, hN2, h⟩ := run_bind h
  obtain ⟨hN2a, hN2b⟩ := bnd_some hN2
  replace h := run_loop h
  refine Mg.forN h (fun i2 s2 => [(0, .val (.pv (Sx a0))), (5, .val (.pv (I (a0.size : Int)))), (6, .val (.pv (I (i2 : Int))))]) (fun i2 s2 => []) (St.le_mk2 (by try simp only [↓RA,RB,RS, fx79,p1,p2,p3,p4,reduceIte,p5,p6,p7,p8])) (fun i2 s2 hi h => ?_) (fun s2 h => ?_)
  · have w2 := wrap_succ (i := i2) (by omega)
    try simp only [↓RA,RB,RS, fx79,p1,p2,p3,p4,reduceIte,p5,p6,p7,p8]
    refine CondH.tt (decide_eq_true (by omega)) (fun c1 => ?_)
    try simp only [↓RA,RB,RS, fx79,p1,p2,p3,p4,reduceIte,p5,p6,p7,p8, c1]
    refine CondH.mk (fun c2 => ?_) (fun c2 => ?_)
    · replace h := run_t c2 h
      try simp only [↓RA,RB,RS, fx79,p1,p2,p3,p4,reduceIte,p5,p6,p7,p8, c1, c2]
      obtain ⟨v14, hv14, h⟩ := run_bind h
      refine SidxH.mk hv14 ?_
      try simp only [↓RA,RB,RS, fx79,p1,p2,p3,p4,reduceIte,p5,p6,p7,p8, c1, c2]
      obtain ⟨v15, hv15, h⟩ := run_bind h
      refine CallH.mk [false] (impl_isUpper_sat hv15) ?_ ?_ <;> try simp only [↓RA,RB,RS, fx79,p1,p2,p3,p4,reduceIte,p5,p6,p7,p8, c1, c2]
      refine CondH.mk (fun c3 => ?_) (fun c3 => ?_)
      · replace h := run_t c3 h
        try simp only [↓RA,RB,RS, fx79,p1,p2,p3,p4,reduceIte,p5,p6,p7,p8, c1, c2, c3]
        refine CondH.mk (fun c4 => ?_) (fun c4 => ?_)
        · replace h := run_t c4 h
          try simp only [↓RA,RB,RS, fx79,p1,p2,p3,p4,reduceIte,p5,p6,p7,p8, c1, c2, c3, c4]
          obtain ⟨v24, hv24, h⟩ := run_bind h
          refine SidxH.mk hv24 ?_
          try simp only [↓RA,RB,RS, fx79,p1,p2,p3,p4,reduceIte,p5,p6,p7,p8, c1, c2, c3, c4]
          obtain ⟨v25, hv25, h⟩ := run_bind h
          refine CallH.mk [false] (impl_isLower_sat hv25) ?_ ?_ <;> try simp only [↓RA,RB,RS, fx79,p1,p2,p3,p4,reduceIte,p5,p6,p7,p8, c1, c2, c3, c4]
          refine CondH.mk (fun c5 => ?_) (fun c5 => ?_)
          · replace h := run_t c5 h
            try simp only [↓RA,RB,RS, fx79,p1,p2,p3,p4,reduceIte,p5,p6,p7,p8, c1, c2, c3, c4, c5]
            have h := run_some h
            refine RdH.mk ⟨_, h, ?_⟩
            refine St.le_mk2 ?_
            try simp only [↓RA,RB,RS, fx79,p1,p2,p3,p4,reduceIte,p5,p6,p7,p8, c1, c2, c3, c4, c5, w2]
          · replace h := run_f c5 h
            try simp only [↓RA,RB,RS, fx79,p1,p2,p3,p4,reduceIte,p5,p6,p7,p8, c1, c2, c3, c4, c5]
            obtain ⟨v31, hv31, h⟩ := run_bind h
            refine SidxH.mk hv31 ?_
            try simp only [↓RA,RB,RS, fx79,p1,p2,p3,p4,reduceIte,p5,p6,p7,p8, c1, c2, c3, c4, c5]
            obtain ⟨v32, hv32, h⟩ := run_bind h
            refine CallH.mk [false] (impl_isDigit_sat hv32) ?_ ?_ <;> try simp only [↓RA,RB,RS, fx79,p1,p2,p3,p4,reduceIte,p5,p6,p7,p8, c1, c2, c3, c4, c5]
            refine CondH.mk (fun c6 => ?_) (fun c6 => ?_)
            · replace h := run_t c6 h
              try simp only [↓RA,RB,RS, fx79,p1,p2,p3,p4,reduceIte,p5,p6,p7,p8, c1, c2, c3, c4, c5, c6]
              have h := run_some h
              refine RdH.mk ⟨_, h, ?_⟩
              refine St.le_mk2 ?_
              try simp only [↓RA,RB,RS, fx79,p1,p2,p3,p4,reduceIte,p5,p6,p7,p8, c1, c2, c3, c4, c5, c6, w2]
            · replace h := run_f c6 h
              try simp only [↓RA,RB,RS, fx79,p1,p2,p3,p4,reduceIte,p5,p6,p7,p8, c1, c2, c3, c4, c5, c6]
              have h := run_some h
              obtain rfl : _ = r := h
              refine FinH.l ?_
              try simp only [↓RA,RB,RS, fx79,p1,p2,p3,p4,reduceIte,p5,p6,p7,p8, c1, c2, c3, c4, c5, c6]
        · replace h := run_f c4 h
          try simp only [↓RA,RB,RS, fx79,p1,p2,p3,p4,reduceIte,p5,p6,p7,p8, c1, c2, c3, c4]
          have h := run_some h
          refine RdH.mk ⟨_, h, ?_⟩
          refine St.le_mk2 ?_
          try simp only [↓RA,RB,RS, fx79,p1,p2,p3,p4,reduceIte,p5,p6,p7,p8, c1, c2, c3, c4, w2]
      · replace h := run_f c3 h
        try simp only [↓RA,RB,RS, fx79,p1,p2,p3,p4,reduceIte,p5,p6,p7,p8, c1, c2, c3]
        have h := run_some h
        obtain rfl : _ = r := h
        refine FinH.l ?_
        try simp only [↓RA,RB,RS, fx79,p1,p2,p3,p4,reduceIte,p5,p6,p7,p8, c1, c2, c3]
    · replace h := run_f c2 h
      try simp only [↓RA,RB,RS, fx79,p1,p2,p3,p4,reduceIte,p5,p6,p7,p8, c1, c2]
      refine CondH.mk (fun c7 => ?_) (fun c7 => ?_)
      · replace h := run_t c7 h
        try simp only [↓RA,RB,RS, fx79,p1,p2,p3,p4,reduceIte,p5,p6,p7,p8, c1, c2, c7]
        obtain ⟨v24, hv24, h⟩ := run_bind h
        refine SidxH.mk hv24 ?_
        try simp only [↓RA,RB,RS, fx79,p1,p2,p3,p4,reduceIte,p5,p6,p7,p8, c1, c2, c7]
        obtain ⟨v25, hv25, h⟩ := run_bind h
        refine CallH.mk [false] (impl_isLower_sat hv25) ?_ ?_ <;> try simp only [↓RA,RB,RS, fx79,p1,p2,p3,p4,reduceIte,p5,p6,p7,p8, c1, c2, c7]
        refine CondH.mk (fun c8 => ?_) (fun c8 => ?_)
        · replace h := run_t c8 h
          try simp only [↓RA,RB,RS, fx79,p1,p2,p3,p4,reduceIte,p5,p6,p7,p8, c1, c2, c7, c8]
          have h := run_some h
          refine RdH.mk ⟨_, h, ?_⟩
          refine St.le_mk2 ?_
          try simp only [↓RA,RB,RS, fx79,p1,p2,p3,p4,reduceIte,p5,p6,p7,p8, c1, c2, c7, c8, w2]
        · replace h := run_f c8 h
          try simp only [↓RA,RB,RS, fx79,p1,p2,p3,p4,reduceIte,p5,p6,p7,p8, c1, c2, c7, c8]
          obtain ⟨v31, hv31, h⟩ := run_bind h
          refine SidxH.mk hv31 ?_
          try simp only [↓RA,RB,RS, fx79,p1,p2,p3,p4,reduceIte,p5,p6,p7,p8, c1, c2, c7, c8]
          obtain ⟨v32, hv32, h⟩ := run_bind h
          refine CallH.mk [false] (impl_isDigit_sat hv32) ?_ ?_ <;> try simp only [↓RA,RB,RS, fx79,p1,p2,p3,p4,reduceIte,p5,p6,p7,p8, c1, c2, c7, c8]
          refine CondH.mk (fun c9 => ?_) (fun c9 => ?_)
          · replace h := run_t c9 h
            try simp only [↓RA,RB,RS, fx79,p1,p2,p3,p4,reduceIte,p5,p6,p7,p8, c1, c2, c7, c8, c9]
            have h := run_some h
            refine RdH.mk ⟨_, h, ?_⟩
            refine St.le_mk2 ?_
            try simp only [↓RA,RB,RS, fx79,p1,p2,p3,p4,reduceIte,p5,p6,p7,p8, c1, c2, c7, c8, c9, w2]
          · replace h := run_f c9 h
            try simp only [↓RA,RB,RS, fx79,p1,p2,p3,p4,reduceIte,p5,p6,p7,p8, c1, c2, c7, c8, c9]
            have h := run_some h
            obtain rfl : _ = r := h
            refine FinH.l ?_
            try simp only [↓RA,RB,RS, fx79,p1,p2,p3,p4,reduceIte,p5,p6,p7,p8, c1, c2, c7, c8, c9]
      · replace h := run_f c7 h
        try simp only [↓RA,RB,RS, fx79,p1,p2,p3,p4,reduceIte,p5,p6,p7,p8, c1, c2, c7]
        have h := run_some h
        refine RdH.mk ⟨_, h, ?_⟩
        refine St.le_mk2 ?_
        try simp only [↓RA,RB,RS, fx79,p1,p2,p3,p4,reduceIte,p5,p6,p7,p8, c1, c2, c7, w2]
  · try simp only [↓RA,RB,RS, fx79,p1,p2,p3,p4,reduceIte,p5,p6,p7,p8]
    refine CondH.ff (decide_eq_false (by omega)) (fun c10 => ?_)
    try simp only [↓RA,RB,RS, fx79,p1,p2,p3,p4,reduceIte,p5,p6,p7,p8, c10]
    obtain ⟨v39, hv39, h⟩ := run_bind h
    refine CallH.mk [false, false, false] (impl_within_sat hv39) ?_ ?_ <;> try simp only [↓RA,RB,RS, fx79,p1,p2,p3,p4,reduceIte,p5,p6,p7,p8, c10]
    have h := run_some h
    obtain rfl : _ = r := h
    refine FinH.l ?_
    try simp only [↓RA,RB,RS, fx79,p1,p2,p3,p4,reduceIte,p5,p6,p7,p8, c10]

def fx91 := A @TB3 <| A @TB36 <| @TB38
theorem slices_IndexFunc_Simpl_Term_impl_Term_sat {a0 : List Term} {a1 : Term → Option Bool} {a1_id : FuncId} {a1_cs : List PV} (a1_ok : ∀ y0 r, a1 y0 = some r → Sat Tryz.prog a1_id (((Term.pv false) y0) :: a1_cs) (B r)) (a1_cz : CapsOk a1_cs = True) {r : Int} (h : slices_IndexFunc_Simpl_Term_impl_Term a0 a1 = some r) : Sat Tryz.prog 91 [(.sl false 2 (a0.map (Term.pv false))), .clo a1_id a1_cs] (I r) := by
  replace h := Run.of h
  unfold slices_IndexFunc_Simpl_Term_impl_Term at h
  refine Sat.of_m (nt := 19) (rs := [.tmp 4]) (n := 100000) Tryz.func91 rfl rfl rfl rfl (by simp) ?_
  try simp only [↓RA,RB,RS, fx91, a1_cz,p1,p2,p3,p4,reduceIte,p5,p6,p7,p8]
  refine Mg.know_sl (b := false) (sz := 2) (es := a0.map (Term.pv false)) 0 (by try simp only [↓RA,RB,RS, fx91, a1_cz,p1,p2,p3,p4,reduceIte,p5,p6,p7,p8]) fun hl0 => ?_; rw [List.length_map] at hl0
  replace h := run_loop h
  refine Mg.forN h (fun i2 s2 => [(0, .val (.pv (.sl false 2 (a0.map (Term.pv false))))), (1, .val (.pv (.clo a1_id a1_cs))), (7, .val (.pv (I (a0.length : Int)))), (8, .val (.pv (I (i2 : Int))))]) (fun i2 s2 => []) (St.le_mk2 (by try simp only [↓RA,RB,RS, fx91, a1_cz,p1,p2,p3,p4,reduceIte,p5,p6,p7,p8])) (fun i2 s2 hi h => ?_) (fun s2 h => ?_)
  · have w2 := wrap_succ (i := i2) (by omega)
    try simp only [↓RA,RB,RS, fx91, a1_cz,p1,p2,p3,p4,reduceIte,p5,p6,p7,p8]
    refine CondH.tt (decide_eq_true (by omega)) (fun c1 => ?_)
    try simp only [↓RA,RB,RS, fx91, a1_cz,p1,p2,p3,p4,reduceIte,p5,p6,p7,p8, c1]
    obtain ⟨v14, hv14, h⟩ := run_bind h
    refine IdxH.mk (f := (Term.pv false)) hv14 ?_ ?_ <;> try simp only [↓RA,RB,RS, fx91, a1_cz,p1,p2,p3,p4,reduceIte,p5,p6,p7,p8, c1]
    obtain ⟨v16, hv16, h⟩ := run_bind h
    refine CallH.mk [false] (a1_ok _ _ hv16) ?_ ?_ <;> try simp only [↓RA,RB,RS, fx91, a1_cz,p1,p2,p3,p4,reduceIte,p5,p6,p7,p8, c1]
    refine CondH.mk (fun c2 => ?_) (fun c2 => ?_)
    · replace h := run_t c2 h
      try simp only [↓RA,RB,RS, fx91, a1_cz,p1,p2,p3,p4,reduceIte,p5,p6,p7,p8, c1, c2]
      have h := run_some h
      obtain rfl : _ = r := h
      refine FinH.l ?_
      try simp only [↓RA,RB,RS, fx91, a1_cz,p1,p2,p3,p4,reduceIte,p5,p6,p7,p8, c1, c2]
    · replace h := run_f c2 h
      try simp only [↓RA,RB,RS, fx91, a1_cz,p1,p2,p3,p4,reduceIte,p5,p6,p7,p8, c1, c2]
      have h := run_some h
      refine RdH.mk ⟨_, h, ?_⟩
      refine St.le_mk2 ?_
      try simp only [↓RA,RB,RS, fx91, a1_cz,p1,p2,p3,p4,reduceIte,p5,p6,p7,p8, c1, c2, w2]
  · try simp only [↓RA,RB,RS, fx91, a1_cz,p1,p2,p3,p4,reduceIte,p5,p6,p7,p8]
    refine CondH.ff (decide_eq_false (by omega)) (fun c3 => ?_)
    try simp only [↓RA,RB,RS, fx91, a1_cz,p1,p2,p3,p4,reduceIte,p5,p6,p7,p8, c3]
    have h := run_some h
    obtain rfl : _ = r := h
    refine FinH.l ?_
    try simp only [↓RA,RB,RS, fx91, a1_cz,p1,p2,p3,p4,reduceIte,p5,p6,p7,p8, c3]

def fx80 := A @TB3 <| A @TB36 <| @TB57
theorem slices_ContainsFunc_Simpl_Term_impl_Term_sat {a0 : List Term} {a1 : Term → Option Bool} {a1_id : FuncId} {a1_cs : List PV} (a1_ok : ∀ y0 r, a1 y0 = some r → Sat Tryz.prog a1_id (((Term.pv false) y0) :: a1_cs) (B r)) (a1_cz : CapsOk a1_cs = True) {r : Bool} (h : slices_ContainsFunc_Simpl_Term_impl_Term a0 a1 = some r) : Sat Tryz.prog 80 [(.sl false 2 (a0.map (Term.pv false))), .clo a1_id a1_cs] (B r) := by
  replace h := Run.of h
  unfold slices_ContainsFunc_Simpl_Term_impl_Term at h
  refine Sat.of_m (nt := 9) (rs := [.tmp 4]) (n := 100000) Tryz.func80 rfl rfl rfl rfl (by simp) ?_
  try simp only [↓RA,RB,RS, fx80, a1_cz,p1,p2,p3,p4,reduceIte,p5,p6,p7,p8]
  obtain ⟨v7, hv7, h⟩ := run_bind h
  refine CallH.mk [false, false] (slices_IndexFunc_Simpl_Term_impl_Term_sat a1_ok a1_cz hv7) ?_ ?_ <;> try simp only [↓RA,RB,RS, fx80, a1_cz,p1,p2,p3,p4,reduceIte,p5,p6,p7,p8]
  have h := run_some h
  obtain rfl : _ = r := h
  refine FinH.l ?_
  try simp only [↓RA,RB,RS, fx80, a1_cz,p1,p2,p3,p4,reduceIte,p5,p6,p7,p8]

def fx58 := A @TB3 <| A @TB4 <| A @TB9 <| A @TB36 <| A @TB38 <| @TB57
def fx81 := A @TB4 <| @TB38
theorem impl_hasNamesN_sat (n : Nat) : (∀ (a0 : Term) (r : Bool), impl_hasNamesN n a0 = some r → Sat Tryz.prog 58 [((Term.pv false) a0)] (B r)) ∧ (∀ (a0 : Term) (r : Bool), impl_hasNames_1N n a0 = some r → Sat Tryz.prog 81 [((Term.pv false) a0)] (B r)) := by
  induction n with
  | zero => exact ⟨fun _ _ h => by simp [impl_hasNamesN] at h, fun _ _ h => by simp [impl_hasNames_1N] at h⟩
  | succ n ih =>
    refine ⟨fun a0 r h => ?_, fun a0 r h => ?_⟩
    · replace h := Run.of h
      rw [impl_hasNamesN] at h
      refine Sat.of_m (nt := 25) (rs := [.tmp 2]) (n := 100000) Tryz.func58 rfl rfl rfl rfl (by simp) ?_
      try simp only [↓RA,RB,RS, fx58,p1,p2,p3,p4,reduceIte,p5,p6,p7,p8]
      repeat (first | with_reducible refine noR_and (by repeat (first | exact noR_empty _ _ | exact noR_nilS _ _ | refine noR_mk _ _ _ _ _ rfl ?_ | refine noR_mkS _ _ _ _ _ rfl ?_)) ?_ | with_reducible refine noC_and (by repeat (first | exact noC_empty _ _ (by try simp only [↓RA,RB,RS, fx58,p1,p2,p3,p4,reduceIte,p5,p6,p7,p8]) | exact noC_nilS _ _ (by try simp only [↓RA,RB,RS, fx58,p1,p2,p3,p4,reduceIte,p5,p6,p7,p8]) | refine noC_mk _ _ _ _ _ rfl ?_ | refine noC_mkS _ _ _ _ _ rfl ?_)) ?_ | with_reducible refine and_ac ?_ | with_reducible refine And.intro (a := _ = List.range _) (by rfl) ?_)
      obtain ⟨v5, hv5, h⟩ := run_bind h
      refine CallH.mk [false] (impl_isVariable_sat hv5) ?_ ?_ <;> try simp only [↓RA,RB,RS, fx58,p1,p2,p3,p4,reduceIte,p5,p6,p7,p8]
      refine CondH.mk (fun c1 => ?_) (fun c1 => ?_)
      · replace h := run_t c1 h
        try simp only [↓RA,RB,RS, fx58,p1,p2,p3,p4,reduceIte,p5,p6,p7,p8, c1]
        have h := run_some h
        obtain rfl : _ = r := h
        refine FinH.l ?_
        try simp only [↓RA,RB,RS, fx58,p1,p2,p3,p4,reduceIte,p5,p6,p7,p8, c1]
      · replace h := run_f c1 h
        try simp only [↓RA,RB,RS, fx58,p1,p2,p3,p4,reduceIte,p5,p6,p7,p8, c1]
        obtain ⟨v12, hv12, h⟩ := run_bind h
        refine CallH.mk [false] (impl_isSymbol_sat hv12) ?_ ?_ <;> try simp only [↓RA,RB,RS, fx58,p1,p2,p3,p4,reduceIte,p5,p6,p7,p8, c1]
        refine CondH.mk (fun c2 => ?_) (fun c2 => ?_)
        · replace h := run_t c2 h
          try simp only [↓RA,RB,RS, fx58,p1,p2,p3,p4,reduceIte,p5,p6,p7,p8, c1, c2]
          refine CondH.mk (fun c3 => ?_) (fun c3 => ?_)
          · replace h := run_t c3 h
            try simp only [↓RA,RB,RS, fx58,p1,p2,p3,p4,reduceIte,p5,p6,p7,p8, c1, c2, c3]
            obtain ⟨v22, hv22, h⟩ := run_bind h
            refine CallH.mk [false, false] (slices_ContainsFunc_Simpl_Term_impl_Term_sat (fun _ _ hh => ih.2 _ _ hh) (by simp only [CapsOk_nil, CapsOk_cons]) hv22) ?_ ?_ <;> try simp only [↓RA,RB,RS, fx58,p1,p2,p3,p4,reduceIte,p5,p6,p7,p8, c1, c2, c3]
            have h := run_some h
            obtain rfl : _ = r := h
            refine FinH.l ?_
            try simp only [↓RA,RB,RS, fx58,p1,p2,p3,p4,reduceIte,p5,p6,p7,p8, c1, c2, c3]
          · replace h := run_f c3 h
            try simp only [↓RA,RB,RS, fx58,p1,p2,p3,p4,reduceIte,p5,p6,p7,p8, c1, c2, c3]
            have h := run_some h
            obtain rfl : _ = r := h
            refine FinH.l ?_
            try simp only [↓RA,RB,RS, fx58,p1,p2,p3,p4,reduceIte,p5,p6,p7,p8, c1, c2, c3]
        · replace h := run_f c2 h
          try simp only [↓RA,RB,RS, fx58,p1,p2,p3,p4,reduceIte,p5,p6,p7,p8, c1, c2]
          have h := run_some h
          obtain rfl : _ = r := h
          refine FinH.l ?_
          try simp only [↓RA,RB,RS, fx58,p1,p2,p3,p4,reduceIte,p5,p6,p7,p8, c1, c2]
    · replace h := Run.of h
      rw [impl_hasNames_1N] at h
      refine Sat.of_m (nt := 6) (rs := [.tmp 2]) (n := 100000) Tryz.func81 rfl rfl rfl rfl (by simp) ?_
      try simp only [↓RA,RB,RS, fx81,p1,p2,p3,p4,reduceIte,p5,p6,p7,p8]
      repeat (first | with_reducible refine noR_and (by repeat (first | exact noR_empty _ _ | exact noR_nilS _ _ | refine noR_mk _ _ _ _ _ rfl ?_ | refine noR_mkS _ _ _ _ _ rfl ?_)) ?_ | with_reducible refine noC_and (by repeat (first | exact noC_empty _ _ (by try simp only [↓RA,RB,RS, fx81,p1,p2,p3,p4,reduceIte,p5,p6,p7,p8]) | exact noC_nilS _ _ (by try simp only [↓RA,RB,RS, fx81,p1,p2,p3,p4,reduceIte,p5,p6,p7,p8]) | refine noC_mk _ _ _ _ _ rfl ?_ | refine noC_mkS _ _ _ _ _ rfl ?_)) ?_ | with_reducible refine and_ac ?_ | with_reducible refine And.intro (a := _ = List.range _) (by rfl) ?_)
      obtain ⟨v4, hv4, h⟩ := run_bind h
      refine CallH.mk [false] (ih.1 _ _ hv4) ?_ ?_ <;> try simp only [↓RA,RB,RS, fx81,p1,p2,p3,p4,reduceIte,p5,p6,p7,p8]
      have h := run_some h
      obtain rfl : _ = r := h
      refine FinH.l ?_
      try simp only [↓RA,RB,RS, fx81,p1,p2,p3,p4,reduceIte,p5,p6,p7,p8]
theorem impl_hasNames_sat {a0 : Term} {r : Bool} (h : impl_hasNames a0 = some r) : Sat Tryz.prog 58 [((Term.pv false) a0)] (B r) := by
  obtain ⟨n, hn⟩ := lim_some h
  exact (impl_hasNamesN_sat n).1 _ _ hn
theorem impl_hasNames_1_sat {a0 : Term} {r : Bool} (h : impl_hasNames_1 a0 = some r) : Sat Tryz.prog 81 [((Term.pv false) a0)] (B r) := by
  obtain ⟨n, hn⟩ := lim_some h
  exact (impl_hasNamesN_sat n).2 _ _ hn

def fx30 := @TB38
theorem impl_IsValidTerm_sat {a0 : Term}  {r : Bool} (h : impl_IsValidTerm a0 = some r) : Sat Tryz.prog 30 [((Term.pv false) a0)] (B r) := by
  replace h := Run.of h
  unfold impl_IsValidTerm at h
  refine Sat.of_m (nt := 9) (rs := [.tmp 2]) (n := 100000) Tryz.func30 rfl rfl rfl rfl (by simp) ?_
  try simp only [↓RA,RB,RS, fx30,p1,p2,p3,p4,reduceIte,p5,p6,p7,p8]
  repeat (first | with_reducible refine noR_and (by repeat (first | exact noR_empty _ _ | exact noR_nilS _ _ | refine noR_mk _ _ _ _ _ rfl ?_ | refine noR_mkS _ _ _ _ _ rfl ?_)) ?_ | with_reducible refine noC_and (by repeat (first | exact noC_empty _ _ (by try simp only [↓RA,RB,RS, fx30,p1,p2,p3,p4,reduceIte,p5,p6,p7,p8]) | exact noC_nilS _ _ (by try simp only [↓RA,RB,RS, fx30,p1,p2,p3,p4,reduceIte,p5,p6,p7,p8]) | refine noC_mk _ _ _ _ _ rfl ?_ | refine noC_mkS _ _ _ _ _ rfl ?_)) ?_ | with_reducible refine and_ac ?_ | with_reducible refine And.intro (a := _ = List.range _) (by rfl) ?_)
  obtain ⟨v4, hv4, h⟩ := run_bind h
  refine CallH.mk [false] (impl_isSmall_sat hv4) ?_ ?_ <;> try simp only [↓RA,RB,RS, fx30,p1,p2,p3,p4,reduceIte,p5,p6,p7,p8]
  refine CondH.mk (fun c1 => ?_) (fun c1 => ?_)
  · replace h := run_t c1 h
    try simp only [↓RA,RB,RS, fx30,p1,p2,p3,p4,reduceIte,p5,p6,p7,p8, c1]
    obtain ⟨v7, hv7, h⟩ := run_bind h
    refine CallH.mk [false] (impl_hasNames_sat hv7) ?_ ?_ <;> try simp only [↓RA,RB,RS, fx30,p1,p2,p3,p4,reduceIte,p5,p6,p7,p8, c1]
    have h := run_some h
    obtain rfl : _ = r := h
    refine FinH.l ?_
    try simp only [↓RA,RB,RS, fx30,p1,p2,p3,p4,reduceIte,p5,p6,p7,p8, c1]
  · replace h := run_f c1 h
    try simp only [↓RA,RB,RS, fx30,p1,p2,p3,p4,reduceIte,p5,p6,p7,p8, c1]
    have h := run_some h
    obtain rfl : _ = r := h
    refine FinH.l ?_
    try simp only [↓RA,RB,RS, fx30,p1,p2,p3,p4,reduceIte,p5,p6,p7,p8, c1]

def fx59 := A @TB5 <| A @TB9 <| @TB38
theorem impl_isVar_sat {a0 : Term}  {r : Bool} (h : impl_isVar a0 = some r) : Sat Tryz.prog 59 [((Term.pv false) a0)] (B r) := by
  replace h := Run.of h
  unfold impl_isVar at h
  refine Sat.of_m (nt := 7) (rs := [.tmp 2]) (n := 100000) Tryz.func59 rfl rfl rfl rfl (by simp) ?_
  try simp only [↓RA,RB,RS, fx59,p1,p2,p3,p4,reduceIte,p5,p6,p7,p8]
  repeat (first | with_reducible refine noR_and (by repeat (first | exact noR_empty _ _ | exact noR_nilS _ _ | refine noR_mk _ _ _ _ _ rfl ?_ | refine noR_mkS _ _ _ _ _ rfl ?_)) ?_ | with_reducible refine noC_and (by repeat (first | exact noC_empty _ _ (by try simp only [↓RA,RB,RS, fx59,p1,p2,p3,p4,reduceIte,p5,p6,p7,p8]) | exact noC_nilS _ _ (by try simp only [↓RA,RB,RS, fx59,p1,p2,p3,p4,reduceIte,p5,p6,p7,p8]) | refine noC_mk _ _ _ _ _ rfl ?_ | refine noC_mkS _ _ _ _ _ rfl ?_)) ?_ | with_reducible refine and_ac ?_ | with_reducible refine And.intro (a := _ = List.range _) (by rfl) ?_)
  obtain ⟨v5, hv5, h⟩ := run_bind h
  refine SidxH.mk hv5 ?_
  try simp only [↓RA,RB,RS, fx59,p1,p2,p3,p4,reduceIte,p5,p6,p7,p8]
  obtain ⟨v6, hv6, h⟩ := run_bind h
  refine CallH.mk [false] (impl_isUpper_sat hv6) ?_ ?_ <;> try simp only [↓RA,RB,RS, fx59,p1,p2,p3,p4,reduceIte,p5,p6,p7,p8]
  have h := run_some h
  obtain rfl : _ = r := h
  refine FinH.l ?_
  try simp only [↓RA,RB,RS, fx59,p1,p2,p3,p4,reduceIte,p5,p6,p7,p8]

def fx84 := A @TB3 <| A @TB9 <| A @TB29 <| A @TB36 <| A @TB38 <| @TB58
theorem impl_majorant_1_sat {a0 : Majorant} {b0 : Term}  {r : Bool} (h : impl_majorant_1 a0 b0 = some r) : Sat Tryz.prog 84 [((Majorant.pv false) a0), .ptr ((Term.pv false) b0)] (B r) := by
  replace h := Run.of h
  unfold impl_majorant_1 at h
  refine Sat.of_m (nt := 18) (rs := [.tmp 3]) (n := 100000) Tryz.func84 rfl rfl rfl rfl (by simp) ?_
  try simp only [↓RA,RB,RS, fx84,p1,p2,p3,p4,reduceIte,p5,p6,p7,p8]
  repeat (first | with_reducible refine noR_and (by repeat (first | exact noR_empty _ _ | exact noR_nilS _ _ | refine noR_mk _ _ _ _ _ rfl ?_ | refine noR_mkS _ _ _ _ _ rfl ?_)) ?_ | with_reducible refine noC_and (by repeat (first | exact noC_empty _ _ (by try simp only [↓RA,RB,RS, fx84,p1,p2,p3,p4,reduceIte,p5,p6,p7,p8]) | exact noC_nilS _ _ (by try simp only [↓RA,RB,RS, fx84,p1,p2,p3,p4,reduceIte,p5,p6,p7,p8]) | refine noC_mk _ _ _ _ _ rfl ?_ | refine noC_mkS _ _ _ _ _ rfl ?_)) ?_ | with_reducible refine and_ac ?_ | with_reducible refine And.intro (a := _ = List.range _) (by rfl) ?_)
  refine CondH.mk (fun c1 => ?_) (fun c1 => ?_)
  · replace h := run_t c1 h
    try simp only [↓RA,RB,RS, fx84,p1,p2,p3,p4,reduceIte,p5,p6,p7,p8, c1]
    have h := run_some h
    obtain rfl : _ = r := h
    refine FinH.l ?_
    try simp only [↓RA,RB,RS, fx84,p1,p2,p3,p4,reduceIte,p5,p6,p7,p8, c1]
  · replace h := run_f c1 h
    try simp only [↓RA,RB,RS, fx84,p1,p2,p3,p4,reduceIte,p5,p6,p7,p8, c1]
    have h := run_some h
    obtain rfl : _ = r := h
    refine FinH.l ?_
    try simp only [↓RA,RB,RS, fx84,p1,p2,p3,p4,reduceIte,p5,p6,p7,p8, c1]

def fx83 := A @TB3 <| A @TB34 <| @TB58
theorem slices_IndexFunc_Simpl_Majorant_impl_Majorant_sat {a0 : List Majorant} {a1 : Majorant → Option Bool} {a1_id : FuncId} {a1_cs : List PV} (a1_ok : ∀ y0 r, a1 y0 = some r → Sat Tryz.prog a1_id (((Majorant.pv false) y0) :: a1_cs) (B r)) (a1_cz : CapsOk a1_cs = True) {r : Int} (h : slices_IndexFunc_Simpl_Majorant_impl_Majorant a0 a1 = some r) : Sat Tryz.prog 83 [(.sl false 3 (a0.map (Majorant.pv false))), .clo a1_id a1_cs] (I r) := by
  replace h := Run.of h
  unfold slices_IndexFunc_Simpl_Majorant_impl_Majorant at h
  refine Sat.of_m (nt := 19) (rs := [.tmp 4]) (n := 100000) Tryz.func83 rfl rfl rfl rfl (by simp) ?_
  try simp only [↓RA,RB,RS, fx83, a1_cz,p1,p2,p3,p4,reduceIte,p5,p6,p7,p8]
  refine Mg.know_sl (b := false) (sz := 3) (es := a0.map (Majorant.pv false)) 0 (by try simp only [↓RA,RB,RS, fx83, a1_cz,p1,p2,p3,p4,reduceIte,p5,p6,p7,p8]) fun hl0 => ?_; rw [List.length_map] at hl0
  replace h := run_loop h
  refine Mg.forN h (fun i2 s2 => [(0, .val (.pv (.sl false 3 (a0.map (Majorant.pv false))))), (1, .val (.pv (.clo a1_id a1_cs))), (7, .val (.pv (I (a0.length : Int)))), (8, .val (.pv (I (i2 : Int))))]) (fun i2 s2 => []) (St.le_mk2 (by try simp only [↓RA,RB,RS, fx83, a1_cz,p1,p2,p3,p4,reduceIte,p5,p6,p7,p8])) (fun i2 s2 hi h => ?_) (fun s2 h => ?_)
  · have w2 := wrap_succ (i := i2) (by omega)
    try simp only [↓RA,RB,RS, fx83, a1_cz,p1,p2,p3,p4,reduceIte,p5,p6,p7,p8]
    refine CondH.tt (decide_eq_true (by omega)) (fun c1 => ?_)
    try simp only [↓RA,RB,RS, fx83, a1_cz,p1,p2,p3,p4,reduceIte,p5,p6,p7,p8, c1]
    obtain ⟨v14, hv14, h⟩ := run_bind h
    refine IdxH.mk (f := (Majorant.pv false)) hv14 ?_ ?_ <;> try simp only [↓RA,RB,RS, fx83, a1_cz,p1,p2,p3,p4,reduceIte,p5,p6,p7,p8, c1]
    obtain ⟨v16, hv16, h⟩ := run_bind h
    refine CallH.mk [false] (a1_ok _ _ hv16) ?_ ?_ <;> try simp only [↓RA,RB,RS, fx83, a1_cz,p1,p2,p3,p4,reduceIte,p5,p6,p7,p8, c1]
    refine CondH.mk (fun c2 => ?_) (fun c2 => ?_)
    · replace h := run_t c2 h
      try simp only [↓RA,RB,RS, fx83, a1_cz,p1,p2,p3,p4,reduceIte,p5,p6,p7,p8, c1, c2]
      have h := run_some h
      obtain rfl : _ = r := h
      refine FinH.l ?_
      try simp only [↓RA,RB,RS, fx83, a1_cz,p1,p2,p3,p4,reduceIte,p5,p6,p7,p8, c1, c2]
    · replace h := run_f c2 h
      try simp only [↓RA,RB,RS, fx83, a1_cz,p1,p2,p3,p4,reduceIte,p5,p6,p7,p8, c1, c2]
      have h := run_some h
      refine RdH.mk ⟨_, h, ?_⟩
      refine St.le_mk2 ?_
      try simp only [↓RA,RB,RS, fx83, a1_cz,p1,p2,p3,p4,reduceIte,p5,p6,p7,p8, c1, c2, w2]
  · try simp only [↓RA,RB,RS, fx83, a1_cz,p1,p2,p3,p4,reduceIte,p5,p6,p7,p8]
    refine CondH.ff (decide_eq_false (by omega)) (fun c3 => ?_)
    try simp only [↓RA,RB,RS, fx83, a1_cz,p1,p2,p3,p4,reduceIte,p5,p6,p7,p8, c3]
    have h := run_some h
    obtain rfl : _ = r := h
    refine FinH.l ?_
    try simp only [↓RA,RB,RS, fx83, a1_cz,p1,p2,p3,p4,reduceIte,p5,p6,p7,p8, c3]

def fx60 := A @TB34 <| A @TB38 <| @TB95
theorem impl_majorant_sat {a0 : List Majorant} {a1 : Term}  {r : Int} (h : impl_majorant a0 a1 = some r) : Sat Tryz.prog 60 [(.sl false 3 (a0.map (Majorant.pv false))), ((Term.pv false) a1)] (I r) := by
  replace h := Run.of h
  unfold impl_majorant at h
  refine Sat.of_m (nt := 8) (rs := [.tmp 4]) (n := 100000) Tryz.func60 rfl rfl rfl rfl (by simp) ?_
  try simp only [↓RA,RB,RS, fx60,p1,p2,p3,p4,reduceIte,p5,p6,p7,p8]
  repeat (first | with_reducible refine noR_and (by repeat (first | exact noR_empty _ _ | exact noR_nilS _ _ | refine noR_mk _ _ _ _ _ rfl ?_ | refine noR_mkS _ _ _ _ _ rfl ?_)) ?_ | with_reducible refine noC_and (by repeat (first | exact noC_empty _ _ (by try simp only [↓RA,RB,RS, fx60,p1,p2,p3,p4,reduceIte,p5,p6,p7,p8]) | exact noC_nilS _ _ (by try simp only [↓RA,RB,RS, fx60,p1,p2,p3,p4,reduceIte,p5,p6,p7,p8]) | refine noC_mk _ _ _ _ _ rfl ?_ | refine noC_mkS _ _ _ _ _ rfl ?_)) ?_ | with_reducible refine and_ac ?_ | with_reducible refine And.intro (a := _ = List.range _) (by rfl) ?_)
  refine MfH.fr ?_
  try simp only [↓RA,RB,RS, fx60,p1,p2,p3,p4,reduceIte,p5,p6,p7,p8]
  obtain ⟨v7, hv7, h⟩ := run_bind h
  refine CallH.mk [false, false] (slices_IndexFunc_Simpl_Majorant_impl_Majorant_sat (fun _ _ hh => impl_majorant_1_sat hh) (by simp only [CapsOk_nil, CapsOk_cons]) hv7) ?_ ?_ <;> try simp only [↓RA,RB,RS, fx60,p1,p2,p3,p4,reduceIte,p5,p6,p7,p8]
  have h := run_some h
  obtain rfl : _ = r := h
  refine FinH.l ?_
  try simp only [↓RA,RB,RS, fx60,p1,p2,p3,p4,reduceIte,p5,p6,p7,p8]

def fx61 := A @TB3 <| A @TB9 <| A @TB28 <| A @TB29 <| A @TB31 <| A @ty_78 <| @mixedT
theorem impl_Linear__add_sat {a0 : Linear} {a1 : GMap Int} {a2 : Int}  {r : Int × (GMap Int)} (h : impl_Linear__add a0 a1 a2 = some r) : SatH Tryz.prog 61 [((Linear.pv false) a0)] [(I a2)] .mp [] (.mp (gmap I a1.es) a1.clock) (.mp (gmap I r.2.es) r.2.clock) (I r.1) := by
  replace h := Run.of h
  unfold impl_Linear__add at h
  refine SatH.of_k (nt := 33) (rs := [.tmp 6]) (n := 100000) 1 Tryz.func61 rfl rfl rfl rfl rfl (Nat.le_of_ble_eq_true rfl) (by decide) (Nat.le_of_ble_eq_true rfl) ?_
  try simp only [↓RA, RH, RB, RS, fx61,p1,p2,p3,p4,reduceIte,p5,p6,p7,p8]
  repeat (first | with_reducible refine noR_and (by repeat (first | exact noR_empty _ _ | exact noR_nilS _ _ | refine noR_mk _ _ _ _ _ rfl ?_ | refine noR_mkS _ _ _ _ _ rfl ?_)) ?_ | with_reducible refine noC_and (by repeat (first | exact noC_empty _ _ (by try simp only [↓RA, RH, RB, RS, fx61,p1,p2,p3,p4,reduceIte,p5,p6,p7,p8]) | exact noC_nilS _ _ (by try simp only [↓RA, RH, RB, RS, fx61,p1,p2,p3,p4,reduceIte,p5,p6,p7,p8]) | refine noC_mk _ _ _ _ _ rfl ?_ | refine noC_mkS _ _ _ _ _ rfl ?_)) ?_ | with_reducible refine and_ac ?_ | with_reducible refine And.intro (a := _ = List.range _) (by rfl) ?_)
  refine Mg.know_sl (b := false) (sz := 1) (es := a0.Vars.map Sx) 10 (by try simp only [↓RA, RH, RB, RS, fx61,p1,p2,p3,p4,reduceIte,p5,p6,p7,p8]) fun hl10 => ?_; rw [List.length_map] at hl10
  replace h := run_loop h
  refine Mg.forN h (fun i2 s2 => [(1, .hold .mp [] (.mp (gmap I (s2).es) (s2).clock)), (2, .val (.pv (I a2))), (3, .box (.pv ((Linear.pv false) a0))), (10, .val (.pv (.sl false 1 (a0.Vars.map Sx)))), (11, .val (.pv (I (a0.Vars.length : Int)))), (12, .val (.pv (I (i2 : Int)))), (20000, gh 1)]) (fun i2 s2 => []) (St.le_mk2 (by try simp only [↓RA, RH, RB, RS, fx61,p1,p2,p3,p4,reduceIte,p5,p6,p7,p8])) (fun i2 s2 hi h => ?_) (fun s2 h => ?_)
  · have w2 := wrap_succ (i := i2) (by omega)
    try simp only [↓RA, RH, RB, RS, fx61,p1,p2,p3,p4,reduceIte,p5,p6,p7,p8]
    refine CondH.tt (decide_eq_true (by omega)) (fun c1 => ?_)
    try simp only [↓RA, RH, RB, RS, fx61,p1,p2,p3,p4,reduceIte,p5,p6,p7,p8, c1]
    obtain ⟨v15, hv15, h⟩ := run_bind h
    refine IdxH.mk (f := Sx) hv15 ?_ ?_ <;> try simp only [↓RA, RH, RB, RS, fx61,p1,p2,p3,p4,reduceIte,p5,p6,p7,p8, c1]
    refine HandH.lookup (E := 3) (r := 1) (sh := .mp) (ps := []) (m := s2) (f := I) (k := v15) (z0 := (0 : Int)) mt_78 mz_3 (by try simp only [↓RA, RH, RB, RS, fx61,p1,p2,p3,p4,reduceIte,p5,p6,p7,p8, c1]) ?_
    try simp only [↓RA, RH, RB, RS, fx61,p1,p2,p3,p4,reduceIte,p5,p6,p7,p8, c1]
    obtain ⟨v24, hv24, h⟩ := run_bind h
    refine IdxH.mk (f := I) hv24 ?_ ?_ <;> try simp only [↓RA, RH, RB, RS, fx61,p1,p2,p3,p4,reduceIte,p5,p6,p7,p8, c1]
    refine HandH.put (E := 3) (r := 1) (sh := .mp) (ps := []) (m := s2) (f := I) (k := v15) (v0 := IntKind.i64.wrap ((GMap.get s2 v15 (0 : Int)) + (IntKind.i64.wrap (a2 * v24)))) (c := (.pv (I (IntKind.i64.wrap ((GMap.get s2 v15 (0 : Int)) + (IntKind.i64.wrap (a2 * v24))))))) mt_78 (by try simp only [↓RA, RH, RB, RS, fx61,p1,p2,p3,p4,reduceIte,p5,p6,p7,p8, c1]) ?_
    try simp only [↓RA, RH, RB, RS, fx61,p1,p2,p3,p4,reduceIte,p5,p6,p7,p8, c1]
    refine And.intro (DrawH.none (by rfl) (by first | rfl | (try simp only [↓RA, RH, RB, RS, fx61,p1,p2,p3,p4,reduceIte,p5,p6,p7,p8] <;> rfl)) (by first | rfl | (try simp only [↓RA, RH, RB, RS, fx61,p1,p2,p3,p4,reduceIte,p5,p6,p7,p8] <;> rfl)) (by first | rfl | (try simp only [↓RA, RH, RB, RS, fx61,p1,p2,p3,p4,reduceIte,p5,p6,p7,p8] <;> rfl))) ?_
    try simp only [↓RA, RH, RB, RS, fx61,p1,p2,p3,p4,reduceIte,p5,p6,p7,p8, c1]
    have h := run_some h
    refine RdH.mk ⟨_, h, ?_⟩
    refine St.le_mk2 ?_
    try simp only [↓RA, RH, RB, RS, fx61,p1,p2,p3,p4,reduceIte,p5,p6,p7,p8, c1, w2]
  · try simp only [↓RA, RH, RB, RS, fx61,p1,p2,p3,p4,reduceIte,p5,p6,p7,p8]
    refine CondH.ff (decide_eq_false (by omega)) (fun c2 => ?_)
    try simp only [↓RA, RH, RB, RS, fx61,p1,p2,p3,p4,reduceIte,p5,p6,p7,p8, c2]
    have h := run_some h
    obtain rfl : _ = r := h
    refine RetHB.l ?_
    try simp only [↓RA, RH, RB, RS, fx61,p1,p2,p3,p4,reduceIte,p5,p6,p7,p8, c2]


def fx86 := A @TB3 <| A @TB4 <| A @TB9 <| A @TB28 <| A @TB29 <| @TB31
theorem impl_IsValidLinear_sat {a0 : Linear}  {r : Bool} (h : impl_IsValidLinear a0 = some r) : Sat Tryz.prog 86 [((Linear.pv false) a0)] (B r) := by
  replace h := Run.of h
  unfold impl_IsValidLinear at h
  refine Sat.of_m (nt := 59) (rs := [.tmp 2]) (n := 100000) Tryz.func86 rfl rfl rfl rfl (by simp) ?_
  try simp only [↓RA,RB,RS, fx86,p1,p2,p3,p4,reduceIte,p5,p6,p7,p8]
  repeat (first | with_reducible refine noR_and (by repeat (first | exact noR_empty _ _ | exact noR_nilS _ _ | refine noR_mk _ _ _ _ _ rfl ?_ | refine noR_mkS _ _ _ _ _ rfl ?_)) ?_ | with_reducible refine noC_and (by repeat (first | exact noC_empty _ _ (by try simp only [↓RA,RB,RS, fx86,p1,p2,p3,p4,reduceIte,p5,p6,p7,p8]) | exact noC_nilS _ _ (by try simp only [↓RA,RB,RS, fx86,p1,p2,p3,p4,reduceIte,p5,p6,p7,p8]) | refine noC_mk _ _ _ _ _ rfl ?_ | refine noC_mkS _ _ _ _ _ rfl ?_)) ?_ | with_reducible refine and_ac ?_ | with_reducible refine And.intro (a := _ = List.range _) (by rfl) ?_)
  refine CondH.mk (fun c1 => ?_) (fun c1 => ?_)
  · replace h := run_t c1 h
    try simp only [↓RA,RB,RS, fx86,p1,p2,p3,p4,reduceIte,p5,p6,p7,p8, c1]
    have h := run_some h
    obtain rfl : _ = r := h
    refine FinH.l ?_
    try simp only [↓RA,RB,RS, fx86,p1,p2,p3,p4,reduceIte,p5,p6,p7,p8, c1]
  · replace h := run_f c1 h
    try simp only [↓RA,RB,RS, fx86,p1,p2,p3,p4,reduceIte,p5,p6,p7,p8, c1]
    refine CondH.mk (fun c2 => ?_) (fun c2 => ?_)
    · replace h := run_t c2 h
      try simp only [↓RA,RB,RS, fx86,p1,p2,p3,p4,reduceIte,p5,p6,p7,p8, c1, c2]
      obtain ⟨v21, hv21, h⟩ := run_bind h
      refine CallH.mk [false, false, false] (impl_within_sat hv21) ?_ ?_ <;> try simp only [↓RA,RB,RS, fx86,p1,p2,p3,p4,reduceIte,p5,p6,p7,p8, c1, c2]
      refine CondH.mk (fun c3 => ?_) (fun c3 => ?_)
      · replace h := run_t c3 h
        try simp only [↓RA,RB,RS, fx86,p1,p2,p3,p4,reduceIte,p5,p6,p7,p8, c1, c2, c3]
        refine Mg.know_sl (b := false) (sz := 1) (es := a0.Vars.map Sx) 6 (by try simp only [↓RA,RB,RS, fx86,p1,p2,p3,p4,reduceIte,p5,p6,p7,p8, c1, c2, c3]) fun hl6 => ?_; rw [List.length_map] at hl6
        replace h := run_loop h
        refine Mg.forN h (fun i4 s4 => [(1, .box (.pv ((Linear.pv false) a0))), (25, .val (.pv (.sl false 1 (a0.Vars.map Sx)))), (26, .val (.pv (I (a0.Vars.length : Int)))), (27, .val (.pv (I (i4 : Int))))]) (fun i4 s4 => []) (St.le_mk2 (by try simp only [↓RA,RB,RS, fx86,p1,p2,p3,p4,reduceIte,p5,p6,p7,p8, c1, c2, c3])) (fun i4 s4 hi h => ?_) (fun s4 h => ?_)
        · have w4 := wrap_succ (i := i4) (by omega)
          try simp only [↓RA,RB,RS, fx86,p1,p2,p3,p4,reduceIte,p5,p6,p7,p8, c1, c2, c3]
          refine CondH.tt (decide_eq_true (by omega)) (fun c4 => ?_)
          try simp only [↓RA,RB,RS, fx86,p1,p2,p3,p4,reduceIte,p5,p6,p7,p8, c1, c2, c3, c4]
          obtain ⟨v30, hv30, h⟩ := run_bind h
          refine IdxH.mk (f := Sx) hv30 ?_ ?_ <;> try simp only [↓RA,RB,RS, fx86,p1,p2,p3,p4,reduceIte,p5,p6,p7,p8, c1, c2, c3, c4]
          obtain ⟨v33, hv33, h⟩ := run_bind h
          refine CallH.mk [false] (impl_isVariable_sat hv33) ?_ ?_ <;> try simp only [↓RA,RB,RS, fx86,p1,p2,p3,p4,reduceIte,p5,p6,p7,p8, c1, c2, c3, c4]
          refine CondH.mk (fun c5 => ?_) (fun c5 => ?_)
          · replace h := run_t c5 h
            try simp only [↓RA,RB,RS, fx86,p1,p2,p3,p4,reduceIte,p5,p6,p7,p8, c1, c2, c3, c4, c5]
            refine CondH.mk (fun c6 => ?_) (fun c6 => ?_)
            · replace h := run_t c6 h
              try simp only [↓RA,RB,RS, fx86,p1,p2,p3,p4,reduceIte,p5,p6,p7,p8, c1, c2, c3, c4, c5, c6]
              obtain ⟨v44, hv44, h⟩ := run_bind h
              refine IdxH.mk (f := Sx) hv44 ?_ ?_ <;> try simp only [↓RA,RB,RS, fx86,p1,p2,p3,p4,reduceIte,p5,p6,p7,p8, c1, c2, c3, c4, c5, c6]
              refine CondH.mk (fun c7 => ?_) (fun c7 => ?_)
              · replace h := run_t c7 h
                try simp only [↓RA,RB,RS, fx86,p1,p2,p3,p4,reduceIte,p5,p6,p7,p8, c1, c2, c3, c4, c5, c6, c7]
                have h := run_some h
                obtain rfl : _ = r := h
                refine FinH.l ?_
                try simp only [↓RA,RB,RS, fx86,p1,p2,p3,p4,reduceIte,p5,p6,p7,p8, c1, c2, c3, c4, c5, c6, c7]
              · replace h := run_f c7 h
                try simp only [↓RA,RB,RS, fx86,p1,p2,p3,p4,reduceIte,p5,p6,p7,p8, c1, c2, c3, c4, c5, c6, c7]
                obtain ⟨v53, hv53, h⟩ := run_bind h
                refine IdxH.mk (f := I) hv53 ?_ ?_ <;> try simp only [↓RA,RB,RS, fx86,p1,p2,p3,p4,reduceIte,p5,p6,p7,p8, c1, c2, c3, c4, c5, c6, c7]
                obtain ⟨v55, hv55, h⟩ := run_bind h
                refine CallH.mk [false, false, false] (impl_within_sat hv55) ?_ ?_ <;> try simp only [↓RA,RB,RS, fx86,p1,p2,p3,p4,reduceIte,p5,p6,p7,p8, c1, c2, c3, c4, c5, c6, c7]
                refine CondH.mk (fun c8 => ?_) (fun c8 => ?_)
                · replace h := run_t c8 h
                  try simp only [↓RA,RB,RS, fx86,p1,p2,p3,p4,reduceIte,p5,p6,p7,p8, c1, c2, c3, c4, c5, c6, c7, c8]
                  have h := run_some h
                  refine RdH.mk ⟨_, h, ?_⟩
                  refine St.le_mk2 ?_
                  try simp only [↓RA,RB,RS, fx86,p1,p2,p3,p4,reduceIte,p5,p6,p7,p8, c1, c2, c3, c4, c5, c6, c7, c8, w4]
                · replace h := run_f c8 h
                  try simp only [↓RA,RB,RS, fx86,p1,p2,p3,p4,reduceIte,p5,p6,p7,p8, c1, c2, c3, c4, c5, c6, c7, c8]
                  have h := run_some h
                  obtain rfl : _ = r := h
                  refine FinH.l ?_
                  try simp only [↓RA,RB,RS, fx86,p1,p2,p3,p4,reduceIte,p5,p6,p7,p8, c1, c2, c3, c4, c5, c6, c7, c8]
            · replace h := run_f c6 h
              try simp only [↓RA,RB,RS, fx86,p1,p2,p3,p4,reduceIte,p5,p6,p7,p8, c1, c2, c3, c4, c5, c6]
              obtain ⟨v53, hv53, h⟩ := run_bind h
              refine IdxH.mk (f := I) hv53 ?_ ?_ <;> try simp only [↓RA,RB,RS, fx86,p1,p2,p3,p4,reduceIte,p5,p6,p7,p8, c1, c2, c3, c4, c5, c6]
              obtain ⟨v55, hv55, h⟩ := run_bind h
              refine CallH.mk [false, false, false] (impl_within_sat hv55) ?_ ?_ <;> try simp only [↓RA,RB,RS, fx86,p1,p2,p3,p4,reduceIte,p5,p6,p7,p8, c1, c2, c3, c4, c5, c6]
              refine CondH.mk (fun c9 => ?_) (fun c9 => ?_)
              · replace h := run_t c9 h
                try simp only [↓RA,RB,RS, fx86,p1,p2,p3,p4,reduceIte,p5,p6,p7,p8, c1, c2, c3, c4, c5, c6, c9]
                have h := run_some h
                refine RdH.mk ⟨_, h, ?_⟩
                refine St.le_mk2 ?_
                try simp only [↓RA,RB,RS, fx86,p1,p2,p3,p4,reduceIte,p5,p6,p7,p8, c1, c2, c3, c4, c5, c6, c9, w4]
              · replace h := run_f c9 h
                try simp only [↓RA,RB,RS, fx86,p1,p2,p3,p4,reduceIte,p5,p6,p7,p8, c1, c2, c3, c4, c5, c6, c9]
                have h := run_some h
                obtain rfl : _ = r := h
                refine FinH.l ?_
                try simp only [↓RA,RB,RS, fx86,p1,p2,p3,p4,reduceIte,p5,p6,p7,p8, c1, c2, c3, c4, c5, c6, c9]
          · replace h := run_f c5 h
            try simp only [↓RA,RB,RS, fx86,p1,p2,p3,p4,reduceIte,p5,p6,p7,p8, c1, c2, c3, c4, c5]
            have h := run_some h
            obtain rfl : _ = r := h
            refine FinH.l ?_
            try simp only [↓RA,RB,RS, fx86,p1,p2,p3,p4,reduceIte,p5,p6,p7,p8, c1, c2, c3, c4, c5]
        · try simp only [↓RA,RB,RS, fx86,p1,p2,p3,p4,reduceIte,p5,p6,p7,p8, c1, c2, c3]
          refine CondH.ff (decide_eq_false (by omega)) (fun c10 => ?_)
          try simp only [↓RA,RB,RS, fx86,p1,p2,p3,p4,reduceIte,p5,p6,p7,p8, c1, c2, c3, c10]
          have h := run_some h
          obtain rfl : _ = r := h
          refine FinH.l ?_
          try simp only [↓RA,RB,RS, fx86,p1,p2,p3,p4,reduceIte,p5,p6,p7,p8, c1, c2, c3, c10]
      · replace h := run_f c3 h
        try simp only [↓RA,RB,RS, fx86,p1,p2,p3,p4,reduceIte,p5,p6,p7,p8, c1, c2, c3]
        have h := run_some h
        obtain rfl : _ = r := h
        refine FinH.l ?_
        try simp only [↓RA,RB,RS, fx86,p1,p2,p3,p4,reduceIte,p5,p6,p7,p8, c1, c2, c3]
    · replace h := run_f c2 h
      try simp only [↓RA,RB,RS, fx86,p1,p2,p3,p4,reduceIte,p5,p6,p7,p8, c1, c2]
      have h := run_some h
      obtain rfl : _ = r := h
      refine FinH.l ?_
      try simp only [↓RA,RB,RS, fx86,p1,p2,p3,p4,reduceIte,p5,p6,p7,p8, c1, c2]

def fx62 := A @TB3 <| A @TB4 <| A @TB9 <| A @TB28 <| A @TB29 <| A @TB31 <| @ty_78
theorem impl_linearR_sat {a0 : GMap Int} {a1 : Int} {r : Linear × Bool} (h : ∀ ord, ord.Perm a0.es → impl_linearR ord a0 a1 = some r) : SatH Tryz.prog 62 [] [(I a1)] .mp [] (.mp (gmap I a0.es) a0.clock) (.mp (gmap I a0.es) a0.clock) (.tup [((Linear.pv true) r.1), (B r.2)]) := by
  replace h := fun ord ho => Run.of (h ord ho)
  simp only [impl_linearR] at h
  refine SatH.of_ki (nt := 52) (rs := [.cell 4 31, .tmp 5]) (n := 100000) 0 Tryz.func62 rfl rfl rfl rfl rfl (Nat.le_of_ble_eq_true rfl) (by decide) (Nat.le_of_ble_eq_true rfl) ?_
  try simp only [↓RA, ↓RI, RH, RB, RJ, RS, fx62,p1,p2,p3,p4,reduceIte,p5,p6,p7,p8]
  refine VSeq.step ?_
  try simp only [↓RA, ↓RI, RH, RB, RJ, RS, fx62,p1,p2,p3,p4,reduceIte,p5,p6,p7,p8]
  repeat (first | with_reducible refine noR_and (by repeat (first | exact noR_empty _ _ | exact noR_nilS _ _ | refine noR_mk _ _ _ _ _ rfl ?_ | refine noR_mkS _ _ _ _ _ rfl ?_)) ?_ | with_reducible refine noC_and (by repeat (first | exact noC_empty _ _ (by try simp only [↓RA, ↓RI, RH, RB, RJ, RS, fx62,p1,p2,p3,p4,reduceIte,p5,p6,p7,p8]) | exact noC_nilS _ _ (by try simp only [↓RA, ↓RI, RH, RB, RJ, RS, fx62,p1,p2,p3,p4,reduceIte,p5,p6,p7,p8]) | refine noC_mk _ _ _ _ _ rfl ?_ | refine noC_mkS _ _ _ _ _ rfl ?_)) ?_ | with_reducible refine and_ac ?_ | with_reducible refine And.intro (a := _ = List.range _) (by rfl) ?_)
  refine VSeq.step ?_
  try simp only [↓RA, ↓RI, RH, RB, RJ, RS, fx62,p1,p2,p3,p4,reduceIte,p5,p6,p7,p8]
  refine VSeq.nil (Nat.le_of_eq rfl) ?_
  try simp only [↓RA, ↓RI, RH, RB, RJ, RS, fx62,p1,p2,p3,p4,reduceIte,p5,p6,p7,p8]
  refine VSeq.step ?_
  try simp only [↓RA, ↓RI, RH, RB, RJ, RS, fx62,p1,p2,p3,p4,reduceIte,p5,p6,p7,p8]
  refine VSeq.step ?_
  try simp only [↓RA, ↓RI, RH, RB, RJ, RS, fx62,p1,p2,p3,p4,reduceIte,p5,p6,p7,p8]
  refine VSeq.step ?_
  try simp only [↓RA, ↓RI, RH, RB, RJ, RS, fx62,p1,p2,p3,p4,reduceIte,p5,p6,p7,p8]
  repeat (first | with_reducible refine noR_and (by repeat (first | exact noR_empty _ _ | exact noR_nilS _ _ | refine noR_mk _ _ _ _ _ rfl ?_ | refine noR_mkS _ _ _ _ _ rfl ?_)) ?_ | with_reducible refine noC_and (by repeat (first | exact noC_empty _ _ (by try simp only [↓RA, ↓RI, RH, RB, RJ, RS, fx62,p1,p2,p3,p4,reduceIte,p5,p6,p7,p8]) | exact noC_nilS _ _ (by try simp only [↓RA, ↓RI, RH, RB, RJ, RS, fx62,p1,p2,p3,p4,reduceIte,p5,p6,p7,p8]) | refine noC_mk _ _ _ _ _ rfl ?_ | refine noC_mkS _ _ _ _ _ rfl ?_)) ?_ | with_reducible refine and_ac ?_ | with_reducible refine And.intro (a := _ = List.range _) (by rfl) ?_)
  refine VSeq.step ?_
  try simp only [↓RA, ↓RI, RH, RB, RJ, RS, fx62,p1,p2,p3,p4,reduceIte,p5,p6,p7,p8]
  refine VSeq.nil (Nat.le_of_eq rfl) ?_
  try simp only [↓RA, ↓RI, RH, RB, RJ, RS, fx62,p1,p2,p3,p4,reduceIte,p5,p6,p7,p8]
  refine VSeq.step ?_
  try simp only [↓RA, ↓RI, RH, RB, RJ, RS, fx62,p1,p2,p3,p4,reduceIte,p5,p6,p7,p8]
  refine VSeq.step ?_
  try simp only [↓RA, ↓RI, RH, RB, RJ, RS, fx62,p1,p2,p3,p4,reduceIte,p5,p6,p7,p8]
  refine HandH.range (E := 3) (r := 0) (sh := .mp) (ps := []) (m := a0) (f := I) mt_78 (by try simp only [↓RA, ↓RI, RH, RB, RJ, RS, fx62,p1,p2,p3,p4,reduceIte,p5,p6,p7,p8]) ?_
  try simp only [↓RA, ↓RI, RH, RB, RJ, RS, fx62,p1,p2,p3,p4,reduceIte,p5,p6,p7,p8]
  repeat (first | with_reducible refine noR_and (by repeat (first | exact noR_empty _ _ | exact noR_nilS _ _ | refine noR_mk _ _ _ _ _ rfl ?_ | refine noR_mkS _ _ _ _ _ rfl ?_)) ?_ | with_reducible refine noC_and (by repeat (first | exact noC_empty _ _ (by try simp only [↓RA, ↓RI, RH, RB, RJ, RS, fx62,p1,p2,p3,p4,reduceIte,p5,p6,p7,p8]) | exact noC_nilS _ _ (by try simp only [↓RA, ↓RI, RH, RB, RJ, RS, fx62,p1,p2,p3,p4,reduceIte,p5,p6,p7,p8]) | refine noC_mk _ _ _ _ _ rfl ?_ | refine noC_mkS _ _ _ _ _ rfl ?_)) ?_ | with_reducible refine and_ac ?_ | with_reducible refine And.intro (a := _ = List.range _) (by rfl) ?_)
  refine VSeq.nil (Nat.le_of_eq rfl) ?_
  try simp only [↓RA, ↓RI, RH, RB, RJ, RS, fx62,p1,p2,p3,p4,reduceIte,p5,p6,p7,p8]
  replace h := fun ord ho => run_loop (h ord ho)
  refine MgI.range (fun e => e.2.2) h (fun pre3 s3 => [(0, .hold .mp [] (.mp (gmap I (a0).es) (a0).clock)), (4, .box (.node [(.pv (.sl true 1 [])), (.pv (.sl true 1 [])), (.pv (I (0 : Int)))])), (6, .box (.node [(.own 9309), (.pv (.sl true 1 [])), (.pv (I a1))])), (14, .hold .ptr [] (.it 0 (a0).clock (pre3.map fun e => e.2.2) (a0).clock)), (20000, gh 0)]) (fun pre3 s3 => [(9309, (1, s3.map Sx))]) (St.le_trans (St.le_nilB (x := (.node [(.pv (.sl true 1 [])), (.pv (.sl true 1 [])), (.pv (I a1))])) 6 [0] 9309 1 (by repeat (first | exact noC_empty _ _ (by try simp only [↓RA, ↓RI, RH, RB, RJ, RS, fx62,p1,p2,p3,p4,reduceIte,p5,p6,p7,p8]) | exact noC_nilS _ _ (by try simp only [↓RA, ↓RI, RH, RB, RJ, RS, fx62,p1,p2,p3,p4,reduceIte,p5,p6,p7,p8]) | refine noC_mk _ _ _ _ _ rfl ?_ | refine noC_mkS _ _ _ _ _ rfl ?_)) (by try simp only [↓RA, ↓RI, RH, RB, RJ, RS, fx62,p1,p2,p3,p4,reduceIte,p5,p6,p7,p8]) (by try simp only [↓RA, ↓RI, RH, RB, RJ, RS, fx62,p1,p2,p3,p4,reduceIte,p5,p6,p7,p8]) (by try simp only [↓RA, ↓RI, RH, RB, RJ, RS, fx62,p1,p2,p3,p4,reduceIte,p5,p6,p7,p8])) (St.le_mk2 (by try simp only [↓RA, ↓RI, RH, RB, RJ, RS, fx62,p1,p2,p3,p4,reduceIte,p5,p6,p7,p8]))) (fun pre3 s3 hI3 => ?_)
  try simp only [↓RA, ↓RI, RH, RB, RJ, RS, fx62,p1,p2,p3,p4,reduceIte,p5,p6,p7,p8]
  refine VSeq.next (r := 0) (kt := 14) (m := a0) (f := I) (seen := pre3.map fun e => e.2.2) (sh := .mp) (ps := []) rfl rfl rfl rfl (by decide) (by decide) rfl (by try simp only [↓RA, ↓RI, RH, RB, RJ, RS, fx62,p1,p2,p3,p4,reduceIte,p5,p6,p7,p8]) (fun hd3 ha3 => ?_) (fun e3 he3 hn3 => ?_)
  · replace h := RngI.done hI3 hd3 ha3
    refine VSeq.step ?_
    try simp only [↓RA, ↓RI, RH, RB, RJ, RS, fx62,p1,p2,p3,p4,reduceIte,p5,p6,p7,p8]
    refine VSeq.nil (Nat.le_of_eq rfl) ?_
    try simp only [↓RA, ↓RI, RH, RB, RJ, RS, fx62,p1,p2,p3,p4,reduceIte,p5,p6,p7,p8]
    refine VSeq.step ?_
    try simp only [↓RA, ↓RI, RH, RB, RJ, RS, fx62,p1,p2,p3,p4,reduceIte,p5,p6,p7,p8]
    refine VSeq.step ?_
    try simp only [↓RA, ↓RI, RH, RB, RJ, RS, fx62,p1,p2,p3,p4,reduceIte,p5,p6,p7,p8]
    refine VSeq.step ?_
    try simp only [↓RA, ↓RI, RH, RB, RJ, RS, fx62,p1,p2,p3,p4,reduceIte,p5,p6,p7,p8]
    obtain ⟨v30, hv30, h⟩ := run_bind h
    refine CallH.io0 [(.own 9309)] [(9309, (1, v30.2.map Sx))] (slices_SortS_sat hv30) ?_ ?_ <;> try simp only [↓RA, ↓RI, RH, RB, RJ, RS, fx62,p1,p2,p3,p4,reduceIte,p5,p6,p7,p8]
    refine VSeq.nil (Nat.le_of_eq rfl) ?_
    try simp only [↓RA, ↓RI, RH, RB, RJ, RS, fx62,p1,p2,p3,p4,reduceIte,p5,p6,p7,p8]
    refine VSeq.step ?_
    try simp only [↓RA, ↓RI, RH, RB, RJ, RS, fx62,p1,p2,p3,p4,reduceIte,p5,p6,p7,p8]
    refine VSeq.step ?_
    try simp only [↓RA, ↓RI, RH, RB, RJ, RS, fx62,p1,p2,p3,p4,reduceIte,p5,p6,p7,p8]
    refine VSeq.step ?_
    try simp only [↓RA, ↓RI, RH, RB, RJ, RS, fx62,p1,p2,p3,p4,reduceIte,p5,p6,p7,p8]
    refine VSeq.step ?_
    try simp only [↓RA, ↓RI, RH, RB, RJ, RS, fx62,p1,p2,p3,p4,reduceIte,p5,p6,p7,p8]
    refine VSeq.nil (Nat.le_of_eq rfl) ?_
    try simp only [↓RA, ↓RI, RH, RB, RJ, RS, fx62,p1,p2,p3,p4,reduceIte,p5,p6,p7,p8]
    refine MgI.know_own (sz := 1) (es := v30.2.map Sx) 9309 (by try simp only [↓RA, ↓RI, RH, RB, RJ, RS, fx62,p1,p2,p3,p4,reduceIte,p5,p6,p7,p8]) fun hl9309 => ?_; rw [List.length_map] at hl9309
    replace h := run_loop h
    refine MgI.forN h (fun i9 s9 => [(0, .hold .mp [] (.mp (gmap I (a0).es) (a0).clock)), (4, .box (.node [(.pv (.sl true 1 [])), (.pv (.sl true 1 [])), (.pv (I (0 : Int)))])), (6, .box (.node [(.own 9309), (.own 9327), (.pv (I a1))])), (32, .val (.own 9309)), (33, .val (.pv (I (v30.2.length : Int)))), (34, .val (.pv (I (i9 : Int)))), (20000, gh 0)]) (fun i9 s9 => [(9309, (1, v30.2.map Sx)), (9327, (1, s9.map I))]) (St.le_trans (St.le_nilB (x := (.node [(.own 9309), (.pv (.sl true 1 [])), (.pv (I a1))])) 6 [1] 9327 1 (by repeat (first | exact noC_empty _ _ (by try simp only [↓RA, ↓RI, RH, RB, RJ, RS, fx62,p1,p2,p3,p4,reduceIte,p5,p6,p7,p8]) | exact noC_nilS _ _ (by try simp only [↓RA, ↓RI, RH, RB, RJ, RS, fx62,p1,p2,p3,p4,reduceIte,p5,p6,p7,p8]) | refine noC_mk _ _ _ _ _ rfl ?_ | refine noC_mkS _ _ _ _ _ rfl ?_)) (by try simp only [↓RA, ↓RI, RH, RB, RJ, RS, fx62,p1,p2,p3,p4,reduceIte,p5,p6,p7,p8]) (by try simp only [↓RA, ↓RI, RH, RB, RJ, RS, fx62,p1,p2,p3,p4,reduceIte,p5,p6,p7,p8]) (by try simp only [↓RA, ↓RI, RH, RB, RJ, RS, fx62,p1,p2,p3,p4,reduceIte,p5,p6,p7,p8])) (St.le_mk2 (by try simp only [↓RA, ↓RI, RH, RB, RJ, RS, fx62,p1,p2,p3,p4,reduceIte,p5,p6,p7,p8]))) (fun i9 s9 hi h => ?_) (fun s9 h => ?_)
    · have w9 := wrap_succ (i := i9) (by omega)
      try simp only [↓RA, ↓RI, RH, RB, RJ, RS, fx62,p1,p2,p3,p4,reduceIte,p5,p6,p7,p8]
      refine VSeq.step ?_
      try simp only [↓RA, ↓RI, RH, RB, RJ, RS, fx62,p1,p2,p3,p4,reduceIte,p5,p6,p7,p8]
      refine VSeq.nil (Nat.le_of_eq rfl) ?_
      try simp only [↓RA, ↓RI, RH, RB, RJ, RS, fx62,p1,p2,p3,p4,reduceIte,p5,p6,p7,p8]
      refine CondH.tt (decide_eq_true (by omega)) (fun c2 => ?_)
      try simp only [↓RA, ↓RI, RH, RB, RJ, RS, fx62,p1,p2,p3,p4,reduceIte,p5,p6,p7,p8, c2]
      refine VSeq.step ?_
      try simp only [↓RA, ↓RI, RH, RB, RJ, RS, fx62,p1,p2,p3,p4,reduceIte,p5,p6,p7,p8, c2]
      obtain ⟨v36, hv36, h⟩ := run_bind h
      refine IdxH.mk (f := Sx) hv36 ?_ ?_ <;> try simp only [↓RA, ↓RI, RH, RB, RJ, RS, fx62,p1,p2,p3,p4,reduceIte,p5,p6,p7,p8, c2]
      refine VSeq.step ?_
      try simp only [↓RA, ↓RI, RH, RB, RJ, RS, fx62,p1,p2,p3,p4,reduceIte,p5,p6,p7,p8, c2]
      obtain ⟨v37, hv37, h⟩ := run_bind h
      refine EldH.mk (f := Sx) hv37 rfl ?_ ?_ <;> try simp only [↓RA, ↓RI, RH, RB, RJ, RS, fx62,p1,p2,p3,p4,reduceIte,p5,p6,p7,p8, c2]
      refine VSeq.step ?_
      try simp only [↓RA, ↓RI, RH, RB, RJ, RS, fx62,p1,p2,p3,p4,reduceIte,p5,p6,p7,p8, c2]
      refine VSeq.nil (Nat.le_of_eq rfl) ?_
      try simp only [↓RA, ↓RI, RH, RB, RJ, RS, fx62,p1,p2,p3,p4,reduceIte,p5,p6,p7,p8, c2]
      refine VSeq.step ?_
      try simp only [↓RA, ↓RI, RH, RB, RJ, RS, fx62,p1,p2,p3,p4,reduceIte,p5,p6,p7,p8, c2]
      refine VSeq.step ?_
      try simp only [↓RA, ↓RI, RH, RB, RJ, RS, fx62,p1,p2,p3,p4,reduceIte,p5,p6,p7,p8, c2]
      refine VSeq.step ?_
      try simp only [↓RA, ↓RI, RH, RB, RJ, RS, fx62,p1,p2,p3,p4,reduceIte,p5,p6,p7,p8, c2]
      refine VSeq.step ?_
      try simp only [↓RA, ↓RI, RH, RB, RJ, RS, fx62,p1,p2,p3,p4,reduceIte,p5,p6,p7,p8, c2]
      refine VSeq.step ?_
      try simp only [↓RA, ↓RI, RH, RB, RJ, RS, fx62,p1,p2,p3,p4,reduceIte,p5,p6,p7,p8, c2]
      refine HandH.lookup (E := 3) (r := 0) (sh := .mp) (ps := []) (m := a0) (f := I) (k := v37) (z0 := (0 : Int)) mt_78 mz_3 (by try simp only [↓RA, ↓RI, RH, RB, RJ, RS, fx62,p1,p2,p3,p4,reduceIte,p5,p6,p7,p8, c2]) ?_
      try simp only [↓RA, ↓RI, RH, RB, RJ, RS, fx62,p1,p2,p3,p4,reduceIte,p5,p6,p7,p8, c2]
      refine VSeq.step ?_
      try simp only [↓RA, ↓RI, RH, RB, RJ, RS, fx62,p1,p2,p3,p4,reduceIte,p5,p6,p7,p8, c2]
      repeat (first | with_reducible refine noR_and (by repeat (first | exact noR_empty _ _ | exact noR_nilS _ _ | refine noR_mk _ _ _ _ _ rfl ?_ | refine noR_mkS _ _ _ _ _ rfl ?_)) ?_ | with_reducible refine noC_and (by repeat (first | exact noC_empty _ _ (by try simp only [↓RA, ↓RI, RH, RB, RJ, RS, fx62,p1,p2,p3,p4,reduceIte,p5,p6,p7,p8]) | exact noC_nilS _ _ (by try simp only [↓RA, ↓RI, RH, RB, RJ, RS, fx62,p1,p2,p3,p4,reduceIte,p5,p6,p7,p8]) | refine noC_mk _ _ _ _ _ rfl ?_ | refine noC_mkS _ _ _ _ _ rfl ?_)) ?_ | with_reducible refine and_ac ?_ | with_reducible refine And.intro (a := _ = List.range _) (by rfl) ?_)
      refine VSeq.step ?_
      try simp only [↓RA, ↓RI, RH, RB, RJ, RS, fx62,p1,p2,p3,p4,reduceIte,p5,p6,p7,p8, c2]
      obtain ⟨v44, hv44, h⟩ := run_bind h
      refine AppH.mk (f := I) (fun _ => rfl) hv44 ?_ ?_ ?_ <;> try simp only [↓RA, ↓RI, RH, RB, RJ, RS, fx62,p1,p2,p3,p4,reduceIte,p5,p6,p7,p8, c2]
      repeat (first | with_reducible refine noR_and (by repeat (first | exact noR_empty _ _ | exact noR_nilS _ _ | refine noR_mk _ _ _ _ _ rfl ?_ | refine noR_mkS _ _ _ _ _ rfl ?_)) ?_ | with_reducible refine noC_and (by repeat (first | exact noC_empty _ _ (by try simp only [↓RA, ↓RI, RH, RB, RJ, RS, fx62,p1,p2,p3,p4,reduceIte,p5,p6,p7,p8]) | exact noC_nilS _ _ (by try simp only [↓RA, ↓RI, RH, RB, RJ, RS, fx62,p1,p2,p3,p4,reduceIte,p5,p6,p7,p8]) | refine noC_mk _ _ _ _ _ rfl ?_ | refine noC_mkS _ _ _ _ _ rfl ?_)) ?_ | with_reducible refine and_ac ?_ | with_reducible refine And.intro (a := _ = List.range _) (by rfl) ?_)
      refine VSeq.step ?_
      try simp only [↓RA, ↓RI, RH, RB, RJ, RS, fx62,p1,p2,p3,p4,reduceIte,p5,p6,p7,p8, c2]
      refine VSeq.step ?_
      try simp only [↓RA, ↓RI, RH, RB, RJ, RS, fx62,p1,p2,p3,p4,reduceIte,p5,p6,p7,p8, c2]
      refine VSeq.nil (Nat.le_of_eq rfl) ?_
      try simp only [↓RA, ↓RI, RH, RB, RJ, RS, fx62,p1,p2,p3,p4,reduceIte,p5,p6,p7,p8, c2]
      refine VSeq.step ?_
      try simp only [↓RA, ↓RI, RH, RB, RJ, RS, fx62,p1,p2,p3,p4,reduceIte,p5,p6,p7,p8, c2]
      refine VSeq.step ?_
      try simp only [↓RA, ↓RI, RH, RB, RJ, RS, fx62,p1,p2,p3,p4,reduceIte,p5,p6,p7,p8, c2]
      refine VSeq.nil (Nat.le_of_eq rfl) ?_
      try simp only [↓RA, ↓RI, RH, RB, RJ, RS, fx62,p1,p2,p3,p4,reduceIte,p5,p6,p7,p8, c2]
      have h := run_some h
      refine RdH.mk ⟨_, h, ?_⟩
      refine St.le_trans (St.le_mk (S := [(0, .hold .mp [] (.mp (gmap I (a0).es) (a0).clock)), (4, .box (.node [(.pv (.sl true 1 [])), (.pv (.sl true 1 [])), (.pv (I (0 : Int)))])), (6, .box (.node [(.own 9309), (.own 704), (.pv (I a1))])), (32, .val (.own 9309)), (33, .val (.pv (I (v30.2.length : Int)))), (34, .val (.pv (I (IntKind.i64.wrap ((i9 : Int) + (1 : Int)))))), (20000, gh 0)]) (O := [(9309, (1, v30.2.map Sx)), (704, (1, v44.map I))]) (by try simp only [↓RA, ↓RI, RH, RB, RJ, RS, fx62,p1,p2,p3,p4,reduceIte,p5,p6,p7,p8, c2, w9]) (by try simp only [↓RA, ↓RI, RH, RB, RJ, RS, fx62,p1,p2,p3,p4,reduceIte,p5,p6,p7,p8, c2, w9])) ?_
      refine St.le_rn 704 9327 (by decide) (by repeat (first | exact noC_empty _ _ (by try simp only [↓RA, ↓RI, RH, RB, RJ, RS, fx62,p1,p2,p3,p4,reduceIte,p5,p6,p7,p8]) | exact noC_nilS _ _ (by try simp only [↓RA, ↓RI, RH, RB, RJ, RS, fx62,p1,p2,p3,p4,reduceIte,p5,p6,p7,p8]) | refine noC_mk _ _ _ _ _ rfl ?_ | refine noC_mkS _ _ _ _ _ rfl ?_)) ?_
      refine St.le_mk2 ?_
      try simp only [↓RA, ↓RI, RH, RB, RJ, RS, fx62,p1,p2,p3,p4,reduceIte,p5,p6,p7,p8, c2, w9]
    · try simp only [↓RA, ↓RI, RH, RB, RJ, RS, fx62,p1,p2,p3,p4,reduceIte,p5,p6,p7,p8]
      refine VSeq.step ?_
      try simp only [↓RA, ↓RI, RH, RB, RJ, RS, fx62,p1,p2,p3,p4,reduceIte,p5,p6,p7,p8]
      refine VSeq.nil (Nat.le_of_eq rfl) ?_
      try simp only [↓RA, ↓RI, RH, RB, RJ, RS, fx62,p1,p2,p3,p4,reduceIte,p5,p6,p7,p8]
      refine CondH.ff (decide_eq_false (by omega)) (fun c3 => ?_)
      try simp only [↓RA, ↓RI, RH, RB, RJ, RS, fx62,p1,p2,p3,p4,reduceIte,p5,p6,p7,p8, c3]
      refine VSeq.step ?_
      try simp only [↓RA, ↓RI, RH, RB, RJ, RS, fx62,p1,p2,p3,p4,reduceIte,p5,p6,p7,p8, c3]
      refine VSeq.step ?_
      try simp only [↓RA, ↓RI, RH, RB, RJ, RS, fx62,p1,p2,p3,p4,reduceIte,p5,p6,p7,p8, c3]
      obtain ⟨v48, hv48, h⟩ := run_bind h
      refine CallH.mk [false] (impl_IsValidLinear_sat hv48) ?_ ?_ <;> try simp only [↓RA, ↓RI, RH, RB, RJ, RS, fx62,p1,p2,p3,p4,reduceIte,p5,p6,p7,p8, c3]
      refine VSeq.step ?_
      try simp only [↓RA, ↓RI, RH, RB, RJ, RS, fx62,p1,p2,p3,p4,reduceIte,p5,p6,p7,p8, c3]
      refine VSeq.nil (Nat.le_of_eq rfl) ?_
      try simp only [↓RA, ↓RI, RH, RB, RJ, RS, fx62,p1,p2,p3,p4,reduceIte,p5,p6,p7,p8, c3]
      refine CondH.mk (fun c4 => ?_) (fun c4 => ?_)
      · replace h := run_t c4 h
        try simp only [↓RA, ↓RI, RH, RB, RJ, RS, fx62,p1,p2,p3,p4,reduceIte,p5,p6,p7,p8, c3, c4]
        refine VSeq.step ?_
        try simp only [↓RA, ↓RI, RH, RB, RJ, RS, fx62,p1,p2,p3,p4,reduceIte,p5,p6,p7,p8, c3, c4]
        refine VSeq.step ?_
        try simp only [↓RA, ↓RI, RH, RB, RJ, RS, fx62,p1,p2,p3,p4,reduceIte,p5,p6,p7,p8, c3, c4]
        refine VSeq.step ?_
        try simp only [↓RA, ↓RI, RH, RB, RJ, RS, fx62,p1,p2,p3,p4,reduceIte,p5,p6,p7,p8, c3, c4]
        refine VSeq.nil (Nat.le_of_eq rfl) ?_
        try simp only [↓RA, ↓RI, RH, RB, RJ, RS, fx62,p1,p2,p3,p4,reduceIte,p5,p6,p7,p8, c3, c4]
        have h := run_some h
        obtain rfl : _ = r := h
        refine RetHB.l ?_
        try simp only [↓RA, ↓RI, RH, RB, RJ, RS, fx62,p1,p2,p3,p4,reduceIte,p5,p6,p7,p8, c3, c4]
      · replace h := run_f c4 h
        try simp only [↓RA, ↓RI, RH, RB, RJ, RS, fx62,p1,p2,p3,p4,reduceIte,p5,p6,p7,p8, c3, c4]
        refine VSeq.step ?_
        try simp only [↓RA, ↓RI, RH, RB, RJ, RS, fx62,p1,p2,p3,p4,reduceIte,p5,p6,p7,p8, c3, c4]
        refine VSeq.step ?_
        try simp only [↓RA, ↓RI, RH, RB, RJ, RS, fx62,p1,p2,p3,p4,reduceIte,p5,p6,p7,p8, c3, c4]
        refine VSeq.step ?_
        try simp only [↓RA, ↓RI, RH, RB, RJ, RS, fx62,p1,p2,p3,p4,reduceIte,p5,p6,p7,p8, c3, c4]
        refine VSeq.nil (Nat.le_of_eq rfl) ?_
        try simp only [↓RA, ↓RI, RH, RB, RJ, RS, fx62,p1,p2,p3,p4,reduceIte,p5,p6,p7,p8, c3, c4]
        have h := run_some h
        obtain rfl : _ = r := h
        refine RetHB.l ?_
        try simp only [↓RA, ↓RI, RH, RB, RJ, RS, fx62,p1,p2,p3,p4,reduceIte,p5,p6,p7,p8, c3, c4]
  · replace h := RngI.pick (key := fun e => e.2.2) hI3 he3 hn3
    refine VSeq.step ?_
    try simp only [↓RA, ↓RI, RH, RB, RJ, RS, fx62,p1,p2,p3,p4,reduceIte,p5,p6,p7,p8]
    refine VSeq.nil (Nat.le_of_eq rfl) ?_
    try simp only [↓RA, ↓RI, RH, RB, RJ, RS, fx62,p1,p2,p3,p4,reduceIte,p5,p6,p7,p8]
    refine VSeq.step ?_
    try simp only [↓RA, ↓RI, RH, RB, RJ, RS, fx62,p1,p2,p3,p4,reduceIte,p5,p6,p7,p8]
    refine HandH.entry (kt := 14) (r := 0) (sh := .mp) (ps := []) (m := a0) (f := I) (e := e3) (s0 := pre3.map fun e => e.2.2) he3 (by try simp only [↓RA, ↓RI, RH, RB, RJ, RS, fx62,p1,p2,p3,p4,reduceIte,p5,p6,p7,p8]) ?_
    try simp only [↓RA, ↓RI, RH, RB, RJ, RS, fx62,p1,p2,p3,p4,reduceIte,p5,p6,p7,p8]
    refine VSeq.step ?_
    try simp only [↓RA, ↓RI, RH, RB, RJ, RS, fx62,p1,p2,p3,p4,reduceIte,p5,p6,p7,p8]
    refine VSeq.step ?_
    try simp only [↓RA, ↓RI, RH, RB, RJ, RS, fx62,p1,p2,p3,p4,reduceIte,p5,p6,p7,p8]
    refine VSeq.step ?_
    try simp only [↓RA, ↓RI, RH, RB, RJ, RS, fx62,p1,p2,p3,p4,reduceIte,p5,p6,p7,p8]
    refine VSeq.step ?_
    try simp only [↓RA, ↓RI, RH, RB, RJ, RS, fx62,p1,p2,p3,p4,reduceIte,p5,p6,p7,p8]
    refine VSeq.nil (Nat.le_of_eq rfl) ?_
    try simp only [↓RA, ↓RI, RH, RB, RJ, RS, fx62,p1,p2,p3,p4,reduceIte,p5,p6,p7,p8]
    refine VSeq.step ?_
    try simp only [↓RA, ↓RI, RH, RB, RJ, RS, fx62,p1,p2,p3,p4,reduceIte,p5,p6,p7,p8]
    refine VSeq.step ?_
    try simp only [↓RA, ↓RI, RH, RB, RJ, RS, fx62,p1,p2,p3,p4,reduceIte,p5,p6,p7,p8]
    refine VSeq.nil (Nat.le_of_eq rfl) ?_
    try simp only [↓RA, ↓RI, RH, RB, RJ, RS, fx62,p1,p2,p3,p4,reduceIte,p5,p6,p7,p8]
    refine CondH.mk (fun c1 => ?_) (fun c1 => ?_)
    · replace h := run_t c1 h
      try simp only [↓RA, ↓RI, RH, RB, RJ, RS, fx62,p1,p2,p3,p4,reduceIte,p5,p6,p7,p8, c1]
      have h := run_some h
      refine RdH.mk ⟨_, e3, he3, hn3, h, ?_⟩
      refine St.le_mk2 ?_
      try simp only [↓RA, ↓RI, RH, RB, RJ, RS, fx62,p1,p2,p3,p4,reduceIte,p5,p6,p7,p8, c1]
    · replace h := run_f c1 h
      try simp only [↓RA, ↓RI, RH, RB, RJ, RS, fx62,p1,p2,p3,p4,reduceIte,p5,p6,p7,p8, c1]
      refine VSeq.step ?_
      try simp only [↓RA, ↓RI, RH, RB, RJ, RS, fx62,p1,p2,p3,p4,reduceIte,p5,p6,p7,p8, c1]
      refine VSeq.step ?_
      try simp only [↓RA, ↓RI, RH, RB, RJ, RS, fx62,p1,p2,p3,p4,reduceIte,p5,p6,p7,p8, c1]
      refine VSeq.step ?_
      try simp only [↓RA, ↓RI, RH, RB, RJ, RS, fx62,p1,p2,p3,p4,reduceIte,p5,p6,p7,p8, c1]
      refine VSeq.step ?_
      try simp only [↓RA, ↓RI, RH, RB, RJ, RS, fx62,p1,p2,p3,p4,reduceIte,p5,p6,p7,p8, c1]
      repeat (first | with_reducible refine noR_and (by repeat (first | exact noR_empty _ _ | exact noR_nilS _ _ | refine noR_mk _ _ _ _ _ rfl ?_ | refine noR_mkS _ _ _ _ _ rfl ?_)) ?_ | with_reducible refine noC_and (by repeat (first | exact noC_empty _ _ (by try simp only [↓RA, ↓RI, RH, RB, RJ, RS, fx62,p1,p2,p3,p4,reduceIte,p5,p6,p7,p8]) | exact noC_nilS _ _ (by try simp only [↓RA, ↓RI, RH, RB, RJ, RS, fx62,p1,p2,p3,p4,reduceIte,p5,p6,p7,p8]) | refine noC_mk _ _ _ _ _ rfl ?_ | refine noC_mkS _ _ _ _ _ rfl ?_)) ?_ | with_reducible refine and_ac ?_ | with_reducible refine And.intro (a := _ = List.range _) (by rfl) ?_)
      refine VSeq.step ?_
      try simp only [↓RA, ↓RI, RH, RB, RJ, RS, fx62,p1,p2,p3,p4,reduceIte,p5,p6,p7,p8, c1]
      obtain ⟨v26, hv26, h⟩ := run_bind h
      refine AppH.mk (f := Sx) (fun _ => rfl) hv26 ?_ ?_ ?_ <;> try simp only [↓RA, ↓RI, RH, RB, RJ, RS, fx62,p1,p2,p3,p4,reduceIte,p5,p6,p7,p8, c1]
      repeat (first | with_reducible refine noR_and (by repeat (first | exact noR_empty _ _ | exact noR_nilS _ _ | refine noR_mk _ _ _ _ _ rfl ?_ | refine noR_mkS _ _ _ _ _ rfl ?_)) ?_ | with_reducible refine noC_and (by repeat (first | exact noC_empty _ _ (by try simp only [↓RA, ↓RI, RH, RB, RJ, RS, fx62,p1,p2,p3,p4,reduceIte,p5,p6,p7,p8]) | exact noC_nilS _ _ (by try simp only [↓RA, ↓RI, RH, RB, RJ, RS, fx62,p1,p2,p3,p4,reduceIte,p5,p6,p7,p8]) | refine noC_mk _ _ _ _ _ rfl ?_ | refine noC_mkS _ _ _ _ _ rfl ?_)) ?_ | with_reducible refine and_ac ?_ | with_reducible refine And.intro (a := _ = List.range _) (by rfl) ?_)
      refine VSeq.step ?_
      try simp only [↓RA, ↓RI, RH, RB, RJ, RS, fx62,p1,p2,p3,p4,reduceIte,p5,p6,p7,p8, c1]
      refine VSeq.step ?_
      try simp only [↓RA, ↓RI, RH, RB, RJ, RS, fx62,p1,p2,p3,p4,reduceIte,p5,p6,p7,p8, c1]
      refine VSeq.nil (Nat.le_of_eq rfl) ?_
      try simp only [↓RA, ↓RI, RH, RB, RJ, RS, fx62,p1,p2,p3,p4,reduceIte,p5,p6,p7,p8, c1]
      have h := run_some h
      refine RdH.mk ⟨_, e3, he3, hn3, h, ?_⟩
      refine St.le_trans (St.le_mk (S := [(0, .hold .mp [] (.mp (gmap I (a0).es) (a0).clock)), (4, .box (.node [(.pv (.sl true 1 [])), (.pv (.sl true 1 [])), (.pv (I (0 : Int)))])), (6, .box (.node [(.own 416), (.pv (.sl true 1 [])), (.pv (I a1))])), (14, .hold .ptr [] (.it 0 (a0).clock ((pre3.map fun e => e.2.2) ++ [e3.2.2]) (a0).clock)), (20000, gh 0)]) (O := [(416, (1, v26.map Sx))]) (by try simp only [↓RA, ↓RI, RH, RB, RJ, RS, fx62,p1,p2,p3,p4,reduceIte,p5,p6,p7,p8, c1]) (by try simp only [↓RA, ↓RI, RH, RB, RJ, RS, fx62,p1,p2,p3,p4,reduceIte,p5,p6,p7,p8, c1])) ?_
      refine St.le_rn 416 9309 (by decide) (by repeat (first | exact noC_empty _ _ (by try simp only [↓RA, ↓RI, RH, RB, RJ, RS, fx62,p1,p2,p3,p4,reduceIte,p5,p6,p7,p8]) | exact noC_nilS _ _ (by try simp only [↓RA, ↓RI, RH, RB, RJ, RS, fx62,p1,p2,p3,p4,reduceIte,p5,p6,p7,p8]) | refine noC_mk _ _ _ _ _ rfl ?_ | refine noC_mkS _ _ _ _ _ rfl ?_)) ?_
      refine St.le_mk2 ?_
      try simp only [↓RA, ↓RI, RH, RB, RJ, RS, fx62,p1,p2,p3,p4,reduceIte,p5,p6,p7,p8, c1]
theorem impl_linear_sat {a0 : GMap Int} {a1 : Int} {r : Linear × Bool} (h : impl_linear a0 a1 = some r) : SatH Tryz.prog 62 [] [(I a1)] .mp [] (.mp (gmap I a0.es) a0.clock) (.mp (gmap I a0.es) a0.clock) (.tup [((Linear.pv true) r.1), (B r.2)]) := impl_linearR_sat fun ord ho => linear_ord ho h

def fx31 := A @TB3 <| A @TB4 <| A @TB9 <| A @TB28 <| A @TB29 <| A @TB31 <| A @TB34 <| A @TB36 <| A @TB38 <| A @TB58 <| A @ty_78 <| @mixedT
theorem impl_boundOfN_sat (n : Nat) : (∀ (a0 : List Majorant) (a1 : Term) (r : Linear × Bool), impl_boundOfN n a0 a1 = some r → Sat Tryz.prog 31 [(.sl false 3 (a0.map (Majorant.pv false))), ((Term.pv false) a1)] (.tup [((Linear.pv true) r.1), (B r.2)])) := by
  induction n with
  | zero => exact fun _ _ _ h => by simp [impl_boundOfN] at h
  | succ n ih =>
    refine fun a0 a1 r h => ?_
    replace h := Run.of h
    rw [impl_boundOfN] at h
    refine Sat.of_m (nt := 68) (rs := [.cell 4 31, .tmp 5]) (n := 100000) Tryz.func31 rfl rfl rfl rfl (by simp) ?_
    try simp only [↓RA, RH, RB, RS, fx31,p1,p2,p3,p4,reduceIte,p5,p6,p7,p8]
    repeat (first | with_reducible refine noR_and (by repeat (first | exact noR_empty _ _ | exact noR_nilS _ _ | refine noR_mk _ _ _ _ _ rfl ?_ | refine noR_mkS _ _ _ _ _ rfl ?_)) ?_ | with_reducible refine noC_and (by repeat (first | exact noC_empty _ _ (by try simp only [↓RA, RH, RB, RS, fx31,p1,p2,p3,p4,reduceIte,p5,p6,p7,p8]) | exact noC_nilS _ _ (by try simp only [↓RA, RH, RB, RS, fx31,p1,p2,p3,p4,reduceIte,p5,p6,p7,p8]) | refine noC_mk _ _ _ _ _ rfl ?_ | refine noC_mkS _ _ _ _ _ rfl ?_)) ?_ | with_reducible refine and_ac ?_ | with_reducible refine And.intro (a := _ = List.range _) (by rfl) ?_)
    obtain ⟨v14, hv14, h⟩ := run_bind h
    refine CallH.mk [false] (impl_isVar_sat hv14) ?_ ?_ <;> try simp only [↓RA, RH, RB, RS, fx31,p1,p2,p3,p4,reduceIte,p5,p6,p7,p8]
    refine CondH.mk (fun c1 => ?_) (fun c1 => ?_)
    · replace h := run_t c1 h
      try simp only [↓RA, RH, RB, RS, fx31,p1,p2,p3,p4,reduceIte,p5,p6,p7,p8, c1]
      repeat (first | with_reducible refine noR_and (by repeat (first | exact noR_empty _ _ | exact noR_nilS _ _ | refine noR_mk _ _ _ _ _ rfl ?_ | refine noR_mkS _ _ _ _ _ rfl ?_)) ?_ | with_reducible refine noC_and (by repeat (first | exact noC_empty _ _ (by try simp only [↓RA, RH, RB, RS, fx31,p1,p2,p3,p4,reduceIte,p5,p6,p7,p8]) | exact noC_nilS _ _ (by try simp only [↓RA, RH, RB, RS, fx31,p1,p2,p3,p4,reduceIte,p5,p6,p7,p8]) | refine noC_mk _ _ _ _ _ rfl ?_ | refine noC_mkS _ _ _ _ _ rfl ?_)) ?_ | with_reducible refine and_ac ?_ | with_reducible refine And.intro (a := _ = List.range _) (by rfl) ?_)
      have h := run_some h
      obtain rfl : _ = r := h
      refine FinH.l ?_
      try simp only [↓RA, RH, RB, RS, fx31,p1,p2,p3,p4,reduceIte,p5,p6,p7,p8, c1]
    · replace h := run_f c1 h
      try simp only [↓RA, RH, RB, RS, fx31,p1,p2,p3,p4,reduceIte,p5,p6,p7,p8, c1]
      obtain ⟨v22, hv22, h⟩ := run_bind h
      refine CallH.mk [false, false] (impl_majorant_sat hv22) ?_ ?_ <;> try simp only [↓RA, RH, RB, RS, fx31,p1,p2,p3,p4,reduceIte,p5,p6,p7,p8, c1]
      refine CondH.mk (fun c2 => ?_) (fun c2 => ?_)
      · replace h := run_t c2 h
        try simp only [↓RA, RH, RB, RS, fx31,p1,p2,p3,p4,reduceIte,p5,p6,p7,p8, c1, c2]
        have h := run_some h
        obtain rfl : _ = r := h
        refine FinH.l ?_
        try simp only [↓RA, RH, RB, RS, fx31,p1,p2,p3,p4,reduceIte,p5,p6,p7,p8, c1, c2]
      · replace h := run_f c2 h
        try simp only [↓RA, RH, RB, RS, fx31,p1,p2,p3,p4,reduceIte,p5,p6,p7,p8, c1, c2]
        refine HandH.makeMap (α := Int) I (by decide) ?_
        try simp only [↓RA, RH, RB, RS, fx31,p1,p2,p3,p4,reduceIte,p5,p6,p7,p8, c1, c2]
        repeat (first | with_reducible refine noR_and (by repeat (first | exact noR_empty _ _ | exact noR_nilS _ _ | refine noR_mk _ _ _ _ _ rfl ?_ | refine noR_mkS _ _ _ _ _ rfl ?_)) ?_ | with_reducible refine noC_and (by repeat (first | exact noC_empty _ _ (by try simp only [↓RA, RH, RB, RS, fx31,p1,p2,p3,p4,reduceIte,p5,p6,p7,p8]) | exact noC_nilS _ _ (by try simp only [↓RA, RH, RB, RS, fx31,p1,p2,p3,p4,reduceIte,p5,p6,p7,p8]) | refine noC_mk _ _ _ _ _ rfl ?_ | refine noC_mkS _ _ _ _ _ rfl ?_)) ?_ | with_reducible refine and_ac ?_ | with_reducible refine And.intro (a := _ = List.range _) (by rfl) ?_)
        obtain ⟨v29, hv29, h⟩ := run_bind h
        refine IdxH.mk (f := (Majorant.pv false)) hv29 ?_ ?_ <;> try simp only [↓RA, RH, RB, RS, fx31,p1,p2,p3,p4,reduceIte,p5,p6,p7,p8, c1, c2]
        refine Mg.know_sl (b := false) (sz := 2) (es := a1.Args.map (Term.pv false)) 33 (by try simp only [↓RA, RH, RB, RS, fx31,p1,p2,p3,p4,reduceIte,p5,p6,p7,p8, c1, c2]) fun hl33 => ?_; rw [List.length_map] at hl33
        replace h := run_loop h
        refine Mg.forN h (fun i9 s9 => [(0, .val (.pv (.sl false 3 (a0.map (Majorant.pv false))))), (4, .box (.node [(.pv (.sl true 1 [])), (.pv (.sl true 1 [])), (.pv (I (0 : Int)))])), (6, .val (.pv (I v22))), (7, .hptr 26 .mp []), (8, .val (.pv (I s9.1))), (26, .hold .mp [] (.mp (gmap I (s9.2).es) (s9.2).clock)), (33, .val (.pv (.sl false 2 (a1.Args.map (Term.pv false))))), (34, .val (.pv (I (a1.Args.length : Int)))), (35, .val (.pv (I (i9 : Int))))]) (fun i9 s9 => []) (St.le_mk2 (by try simp only [↓RA, RH, RB, RS, fx31,p1,p2,p3,p4,reduceIte,p5,p6,p7,p8, c1, c2])) (fun i9 s9 hi h => ?_) (fun s9 h => ?_)
        · have w9 := wrap_succ (i := i9) (by omega)
          try simp only [↓RA, RH, RB, RS, fx31,p1,p2,p3,p4,reduceIte,p5,p6,p7,p8, c1, c2]
          refine CondH.tt (decide_eq_true (by omega)) (fun c3 => ?_)
          try simp only [↓RA, RH, RB, RS, fx31,p1,p2,p3,p4,reduceIte,p5,p6,p7,p8, c1, c2, c3]
          obtain ⟨v38, hv38, h⟩ := run_bind h
          refine IdxH.mk (f := (Term.pv false)) hv38 ?_ ?_ <;> try simp only [↓RA, RH, RB, RS, fx31,p1,p2,p3,p4,reduceIte,p5,p6,p7,p8, c1, c2, c3]
          repeat (first | with_reducible refine noR_and (by repeat (first | exact noR_empty _ _ | exact noR_nilS _ _ | refine noR_mk _ _ _ _ _ rfl ?_ | refine noR_mkS _ _ _ _ _ rfl ?_)) ?_ | with_reducible refine noC_and (by repeat (first | exact noC_empty _ _ (by try simp only [↓RA, RH, RB, RS, fx31,p1,p2,p3,p4,reduceIte,p5,p6,p7,p8]) | exact noC_nilS _ _ (by try simp only [↓RA, RH, RB, RS, fx31,p1,p2,p3,p4,reduceIte,p5,p6,p7,p8]) | refine noC_mk _ _ _ _ _ rfl ?_ | refine noC_mkS _ _ _ _ _ rfl ?_)) ?_ | with_reducible refine and_ac ?_ | with_reducible refine And.intro (a := _ = List.range _) (by rfl) ?_)
          obtain ⟨v43, hv43, h⟩ := run_bind h
          refine CallH.mk [false, false] (ih _ _ _ hv43) ?_ ?_ <;> try simp only [↓RA, RH, RB, RS, fx31,p1,p2,p3,p4,reduceIte,p5,p6,p7,p8, c1, c2, c3]
          repeat (first | with_reducible refine noR_and (by repeat (first | exact noR_empty _ _ | exact noR_nilS _ _ | refine noR_mk _ _ _ _ _ rfl ?_ | refine noR_mkS _ _ _ _ _ rfl ?_)) ?_ | with_reducible refine noC_and (by repeat (first | exact noC_empty _ _ (by try simp only [↓RA, RH, RB, RS, fx31,p1,p2,p3,p4,reduceIte,p5,p6,p7,p8]) | exact noC_nilS _ _ (by try simp only [↓RA, RH, RB, RS, fx31,p1,p2,p3,p4,reduceIte,p5,p6,p7,p8]) | refine noC_mk _ _ _ _ _ rfl ?_ | refine noC_mkS _ _ _ _ _ rfl ?_)) ?_ | with_reducible refine and_ac ?_ | with_reducible refine And.intro (a := _ = List.range _) (by rfl) ?_)
          refine CondH.mk (fun c4 => ?_) (fun c4 => ?_)
          · replace h := run_t c4 h
            try simp only [↓RA, RH, RB, RS, fx31,p1,p2,p3,p4,reduceIte,p5,p6,p7,p8, c1, c2, c3, c4]
            obtain ⟨v54, hv54, h⟩ := run_bind h
            refine IdxH.mk (f := (Majorant.pv false)) hv54 ?_ ?_ <;> try simp only [↓RA, RH, RB, RS, fx31,p1,p2,p3,p4,reduceIte,p5,p6,p7,p8, c1, c2, c3, c4]
            obtain ⟨v58, hv58, h⟩ := run_bind h
            refine IdxH.mk (f := I) hv58 ?_ ?_ <;> try simp only [↓RA, RH, RB, RS, fx31,p1,p2,p3,p4,reduceIte,p5,p6,p7,p8, c1, c2, c3, c4]
            obtain ⟨v60, hv60, h⟩ := run_bind h
            refine HandH.callV (r := 26) (hc := .mp (gmap I (s9.2).es) (s9.2).clock) 1 [_] [_] [(.node [(.own 688), (.own 689), (.pv (I v43.1.Constant))])] [(.pv (I v58))] [false, false] (fun _ => rfl) (impl_Linear__add_sat hv60) rfl rfl rfl ?_ ?_ <;> try simp only [↓RA, RH, RB, RS, fx31,p1,p2,p3,p4,reduceIte,p5,p6,p7,p8, c1, c2, c3, c4]
            refine And.intro (DrawH.none (by rfl) (by first | rfl | (try simp only [↓RA, RH, RB, RS, fx31,p1,p2,p3,p4,reduceIte,p5,p6,p7,p8] <;> rfl)) (by first | rfl | (try simp only [↓RA, RH, RB, RS, fx31,p1,p2,p3,p4,reduceIte,p5,p6,p7,p8] <;> rfl)) (by first | rfl | (try simp only [↓RA, RH, RB, RS, fx31,p1,p2,p3,p4,reduceIte,p5,p6,p7,p8] <;> rfl))) ?_
            try simp only [↓RA, RH, RB, RS, fx31,p1,p2,p3,p4,reduceIte,p5,p6,p7,p8, c1, c2, c3, c4]
            have h := run_some h
            refine RdH.mk ⟨_, h, ?_⟩
            refine St.le_mk2 ?_
            try simp only [↓RA, RH, RB, RS, fx31,p1,p2,p3,p4,reduceIte,p5,p6,p7,p8, c1, c2, c3, c4, w9]
          · replace h := run_f c4 h
            try simp only [↓RA, RH, RB, RS, fx31,p1,p2,p3,p4,reduceIte,p5,p6,p7,p8, c1, c2, c3, c4]
            have h := run_some h
            obtain rfl : _ = r := h
            refine FinH.l ?_
            try simp only [↓RA, RH, RB, RS, fx31,p1,p2,p3,p4,reduceIte,p5,p6,p7,p8, c1, c2, c3, c4]
        · try simp only [↓RA, RH, RB, RS, fx31,p1,p2,p3,p4,reduceIte,p5,p6,p7,p8, c1, c2]
          refine CondH.ff (decide_eq_false (by omega)) (fun c5 => ?_)
          try simp only [↓RA, RH, RB, RS, fx31,p1,p2,p3,p4,reduceIte,p5,p6,p7,p8, c1, c2, c5]
          obtain ⟨v65, hv65, h⟩ := run_bind h
          refine HandH.call (r := 26) (hc := .mp (gmap I (s9.2).es) (s9.2).clock) 0 [] [_] [] [(.pv (I s9.1))] [false] (impl_linear_sat hv65) rfl rfl rfl ?_ ?_ <;> try simp only [↓RA, RH, RB, RS, fx31,p1,p2,p3,p4,reduceIte,p5,p6,p7,p8, c1, c2, c5]
          repeat (first | with_reducible refine noR_and (by repeat (first | exact noR_empty _ _ | exact noR_nilS _ _ | refine noR_mk _ _ _ _ _ rfl ?_ | refine noR_mkS _ _ _ _ _ rfl ?_)) ?_ | with_reducible refine noC_and (by repeat (first | exact noC_empty _ _ (by try simp only [↓RA, RH, RB, RS, fx31,p1,p2,p3,p4,reduceIte,p5,p6,p7,p8]) | exact noC_nilS _ _ (by try simp only [↓RA, RH, RB, RS, fx31,p1,p2,p3,p4,reduceIte,p5,p6,p7,p8]) | refine noC_mk _ _ _ _ _ rfl ?_ | refine noC_mkS _ _ _ _ _ rfl ?_)) ?_ | with_reducible refine and_ac ?_ | with_reducible refine And.intro (a := _ = List.range _) (by rfl) ?_)
          have h := run_some h
          obtain rfl : _ = r := h
          refine FinH.l ?_
          try simp only [↓RA, RH, RB, RS, fx31,p1,p2,p3,p4,reduceIte,p5,p6,p7,p8, c1, c2, c5]
theorem impl_boundOf_sat {a0 : List Majorant} {a1 : Term} {r : Linear × Bool} (h : impl_boundOf a0 a1 = some r) : Sat Tryz.prog 31 [(.sl false 3 (a0.map (Majorant.pv false))), ((Term.pv false) a1)] (.tup [((Linear.pv true) r.1), (B r.2)]) := by
  obtain ⟨n, hn⟩ := lim_some h
  exact (impl_boundOfN_sat n) _ _ _ hn

def fx10 := A @TB4 <| A @TB31 <| A @TB34 <| @TB38
theorem impl_MajorantOf_sat {a0 : List Majorant} {a1 : Term}  {r : Linear × Bool} (h : impl_MajorantOf a0 a1 = some r) : Sat Tryz.prog 10 [(.sl false 3 (a0.map (Majorant.pv false))), ((Term.pv false) a1)] (.tup [((Linear.pv true) r.1), (B r.2)]) := by
  replace h := Run.of h
  unfold impl_MajorantOf at h
  refine Sat.of_m (nt := 20) (rs := [.cell 4 31, .tmp 5]) (n := 100000) Tryz.func10 rfl rfl rfl rfl (by simp) ?_
  try simp only [↓RA,RB,RS, fx10,p1,p2,p3,p4,reduceIte,p5,p6,p7,p8]
  repeat (first | with_reducible refine noR_and (by repeat (first | exact noR_empty _ _ | exact noR_nilS _ _ | refine noR_mk _ _ _ _ _ rfl ?_ | refine noR_mkS _ _ _ _ _ rfl ?_)) ?_ | with_reducible refine noC_and (by repeat (first | exact noC_empty _ _ (by try simp only [↓RA,RB,RS, fx10,p1,p2,p3,p4,reduceIte,p5,p6,p7,p8]) | exact noC_nilS _ _ (by try simp only [↓RA,RB,RS, fx10,p1,p2,p3,p4,reduceIte,p5,p6,p7,p8]) | refine noC_mk _ _ _ _ _ rfl ?_ | refine noC_mkS _ _ _ _ _ rfl ?_)) ?_ | with_reducible refine and_ac ?_ | with_reducible refine And.intro (a := _ = List.range _) (by rfl) ?_)
  obtain ⟨v7, hv7, h⟩ := run_bind h
  refine CallH.mk [false] (impl_IsValidMajorants_sat hv7) ?_ ?_ <;> try simp only [↓RA,RB,RS, fx10,p1,p2,p3,p4,reduceIte,p5,p6,p7,p8]
  refine CondH.mk (fun c1 => ?_) (fun c1 => ?_)
  · replace h := run_t c1 h
    try simp only [↓RA,RB,RS, fx10,p1,p2,p3,p4,reduceIte,p5,p6,p7,p8, c1]
    obtain ⟨v11, hv11, h⟩ := run_bind h
    refine CallH.mk [false] (impl_IsValidTerm_sat hv11) ?_ ?_ <;> try simp only [↓RA,RB,RS, fx10,p1,p2,p3,p4,reduceIte,p5,p6,p7,p8, c1]
    refine CondH.mk (fun c2 => ?_) (fun c2 => ?_)
    · replace h := run_t c2 h
      try simp only [↓RA,RB,RS, fx10,p1,p2,p3,p4,reduceIte,p5,p6,p7,p8, c1, c2]
      obtain ⟨v17, hv17, h⟩ := run_bind h
      refine CallH.mk [false, false] (impl_boundOf_sat hv17) ?_ ?_ <;> try simp only [↓RA,RB,RS, fx10,p1,p2,p3,p4,reduceIte,p5,p6,p7,p8, c1, c2]
      repeat (first | with_reducible refine noR_and (by repeat (first | exact noR_empty _ _ | exact noR_nilS _ _ | refine noR_mk _ _ _ _ _ rfl ?_ | refine noR_mkS _ _ _ _ _ rfl ?_)) ?_ | with_reducible refine noC_and (by repeat (first | exact noC_empty _ _ (by try simp only [↓RA,RB,RS, fx10,p1,p2,p3,p4,reduceIte,p5,p6,p7,p8]) | exact noC_nilS _ _ (by try simp only [↓RA,RB,RS, fx10,p1,p2,p3,p4,reduceIte,p5,p6,p7,p8]) | refine noC_mk _ _ _ _ _ rfl ?_ | refine noC_mkS _ _ _ _ _ rfl ?_)) ?_ | with_reducible refine and_ac ?_ | with_reducible refine And.intro (a := _ = List.range _) (by rfl) ?_)
      have h := run_some h
      obtain rfl : _ = r := h
      refine FinH.l ?_
      try simp only [↓RA,RB,RS, fx10,p1,p2,p3,p4,reduceIte,p5,p6,p7,p8, c1, c2]
    · replace h := run_f c2 h
      try simp only [↓RA,RB,RS, fx10,p1,p2,p3,p4,reduceIte,p5,p6,p7,p8, c1, c2]
      have h := run_some h
      obtain rfl : _ = r := h
      refine FinH.l ?_
      try simp only [↓RA,RB,RS, fx10,p1,p2,p3,p4,reduceIte,p5,p6,p7,p8, c1, c2]
  · replace h := run_f c1 h
    try simp only [↓RA,RB,RS, fx10,p1,p2,p3,p4,reduceIte,p5,p6,p7,p8, c1]
    have h := run_some h
    obtain rfl : _ = r := h
    refine FinH.l ?_
    try simp only [↓RA,RB,RS, fx10,p1,p2,p3,p4,reduceIte,p5,p6,p7,p8, c1]

def fx44 := A @TB3 <| A @TB9 <| A @TB28 <| A @TB29 <| A @TB31 <| A @ty_78 <| A @TB85 <| @mixedT
theorem impl_join_sat {a0 : Linear} {a1 : Linear}  {r : Linear × Bool} (h : impl_join a0 a1 = some r) : Sat Tryz.prog 44 [((Linear.pv false) a0), ((Linear.pv false) a1)] (.tup [((Linear.pv true) r.1), (B r.2)]) := by
  replace h := Run.of h
  unfold impl_join at h
  refine Sat.of_m (nt := 50) (rs := [.cell 4 31, .tmp 5]) (n := 100000) Tryz.func44 rfl rfl rfl rfl (by simp) ?_
  try simp only [↓RA, RH, RB, RS, fx44,p1,p2,p3,p4,reduceIte,p5,p6,p7,p8]
  repeat (first | with_reducible refine noR_and (by repeat (first | exact noR_empty _ _ | exact noR_nilS _ _ | refine noR_mk _ _ _ _ _ rfl ?_ | refine noR_mkS _ _ _ _ _ rfl ?_)) ?_ | with_reducible refine noC_and (by repeat (first | exact noC_empty _ _ (by try simp only [↓RA, RH, RB, RS, fx44,p1,p2,p3,p4,reduceIte,p5,p6,p7,p8]) | exact noC_nilS _ _ (by try simp only [↓RA, RH, RB, RS, fx44,p1,p2,p3,p4,reduceIte,p5,p6,p7,p8]) | refine noC_mk _ _ _ _ _ rfl ?_ | refine noC_mkS _ _ _ _ _ rfl ?_)) ?_ | with_reducible refine and_ac ?_ | with_reducible refine And.intro (a := _ = List.range _) (by rfl) ?_)
  refine HandH.makeMap (α := Int) I (by decide) ?_
  try simp only [↓RA, RH, RB, RS, fx44,p1,p2,p3,p4,reduceIte,p5,p6,p7,p8]
  repeat (first | with_reducible refine noR_and (by repeat (first | exact noR_empty _ _ | exact noR_nilS _ _ | refine noR_mk _ _ _ _ _ rfl ?_ | refine noR_mkS _ _ _ _ _ rfl ?_)) ?_ | with_reducible refine noC_and (by repeat (first | exact noC_empty _ _ (by try simp only [↓RA, RH, RB, RS, fx44,p1,p2,p3,p4,reduceIte,p5,p6,p7,p8]) | exact noC_nilS _ _ (by try simp only [↓RA, RH, RB, RS, fx44,p1,p2,p3,p4,reduceIte,p5,p6,p7,p8]) | refine noC_mk _ _ _ _ _ rfl ?_ | refine noC_mkS _ _ _ _ _ rfl ?_)) ?_ | with_reducible refine and_ac ?_ | with_reducible refine And.intro (a := _ = List.range _) (by rfl) ?_)
  refine Mg.know_own (sz := 3) (es := ([a0, a1]).map (Linear.pv false)) 224 (by try simp only [↓RA, RH, RB, RS, fx44,p1,p2,p3,p4,reduceIte,p5,p6,p7,p8]) fun hl224 => ?_; rw [List.length_map] at hl224
  replace h := run_loop h
  refine Mg.forN h (fun i3 s3 => [(2, .box (.pv ((Linear.pv false) a0))), (3, .box (.pv ((Linear.pv false) a1))), (4, .box (.node [(.pv (.sl true 1 [])), (.pv (.sl true 1 [])), (.pv (I (0 : Int)))])), (6, .hptr 11 .mp []), (11, .hold .mp [] (.mp (gmap I (s3).es) (s3).clock)), (14, .val (.own 224)), (15, .val (.pv (I (([a0, a1]).length : Int)))), (16, .val (.pv (I (i3 : Int))))]) (fun i3 s3 => [(224, (3, ([a0, a1]).map (Linear.pv false)))]) (St.le_mk2 (by try simp only [↓RA, RH, RB, RS, fx44,p1,p2,p3,p4,reduceIte,p5,p6,p7,p8])) (fun i3 s3 hi h => ?_) (fun s3 h => ?_)
  · have w3 := wrap_succ (i := i3) (by omega)
    try simp only [↓RA, RH, RB, RS, fx44,p1,p2,p3,p4,reduceIte,p5,p6,p7,p8]
    refine CondH.tt (decide_eq_true (by first | omega | (simp only [List.length_cons, List.length_nil] at *; omega))) (fun c1 => ?_)
    try simp only [↓RA, RH, RB, RS, fx44,p1,p2,p3,p4,reduceIte,p5,p6,p7,p8, c1]
    obtain ⟨v18, hv18, h⟩ := run_bind h
    refine IdxH.mk (f := (Linear.pv false)) hv18 ?_ ?_ <;> try simp only [↓RA, RH, RB, RS, fx44,p1,p2,p3,p4,reduceIte,p5,p6,p7,p8, c1]
    obtain ⟨v19, hv19, h⟩ := run_bind h
    refine EldH.mk (f := (Linear.pv false)) hv19 rfl ?_ ?_ <;> try simp only [↓RA, RH, RB, RS, fx44,p1,p2,p3,p4,reduceIte,p5,p6,p7,p8, c1]
    repeat (first | with_reducible refine noR_and (by repeat (first | exact noR_empty _ _ | exact noR_nilS _ _ | refine noR_mk _ _ _ _ _ rfl ?_ | refine noR_mkS _ _ _ _ _ rfl ?_)) ?_ | with_reducible refine noC_and (by repeat (first | exact noC_empty _ _ (by try simp only [↓RA, RH, RB, RS, fx44,p1,p2,p3,p4,reduceIte,p5,p6,p7,p8]) | exact noC_nilS _ _ (by try simp only [↓RA, RH, RB, RS, fx44,p1,p2,p3,p4,reduceIte,p5,p6,p7,p8]) | refine noC_mk _ _ _ _ _ rfl ?_ | refine noC_mkS _ _ _ _ _ rfl ?_)) ?_ | with_reducible refine and_ac ?_ | with_reducible refine And.intro (a := _ = List.range _) (by rfl) ?_)
    refine Mg.know_sl (b := false) (sz := 1) (es := v19.Vars.map Sx) 21 (by try simp only [↓RA, RH, RB, RS, fx44,p1,p2,p3,p4,reduceIte,p5,p6,p7,p8, c1]) fun hl21 => ?_; rw [List.length_map] at hl21
    replace h := run_loop h
    refine Mg.forN h (fun i6 s6 => [(2, .box (.pv ((Linear.pv false) a0))), (3, .box (.pv ((Linear.pv false) a1))), (4, .box (.node [(.pv (.sl true 1 [])), (.pv (.sl true 1 [])), (.pv (I (0 : Int)))])), (6, .hptr 11 .mp []), (8, .box (.pv ((Linear.pv false) v19))), (11, .hold .mp [] (.mp (gmap I (s6).es) (s6).clock)), (14, .val (.own 224)), (15, .val (.pv (I (([a0, a1]).length : Int)))), (16, .val (.pv (I (i3 : Int)))), (21, .val (.pv (.sl false 1 (v19.Vars.map Sx)))), (22, .val (.pv (I (v19.Vars.length : Int)))), (23, .val (.pv (I (i6 : Int))))]) (fun i6 s6 => [(224, (3, ([a0, a1]).map (Linear.pv false)))]) (St.le_mk2 (by try simp only [↓RA, RH, RB, RS, fx44,p1,p2,p3,p4,reduceIte,p5,p6,p7,p8, c1])) (fun i6 s6 hi h => ?_) (fun s6 h => ?_)
    · have w6 := wrap_succ (i := i6) (by omega)
      try simp only [↓RA, RH, RB, RS, fx44,p1,p2,p3,p4,reduceIte,p5,p6,p7,p8, c1]
      refine CondH.tt (decide_eq_true (by omega)) (fun c2 => ?_)
      try simp only [↓RA, RH, RB, RS, fx44,p1,p2,p3,p4,reduceIte,p5,p6,p7,p8, c1, c2]
      obtain ⟨v26, hv26, h⟩ := run_bind h
      refine IdxH.mk (f := Sx) hv26 ?_ ?_ <;> try simp only [↓RA, RH, RB, RS, fx44,p1,p2,p3,p4,reduceIte,p5,p6,p7,p8, c1, c2]
      refine HandH.lookup (E := 3) (r := 11) (sh := .mp) (ps := []) (m := s6) (f := I) (k := v26) (z0 := (0 : Int)) mt_78 mz_3 (by try simp only [↓RA, RH, RB, RS, fx44,p1,p2,p3,p4,reduceIte,p5,p6,p7,p8, c1, c2]) ?_
      try simp only [↓RA, RH, RB, RS, fx44,p1,p2,p3,p4,reduceIte,p5,p6,p7,p8, c1, c2]
      obtain ⟨v36, hv36, h⟩ := run_bind h
      refine IdxH.mk (f := I) hv36 ?_ ?_ <;> try simp only [↓RA, RH, RB, RS, fx44,p1,p2,p3,p4,reduceIte,p5,p6,p7,p8, c1, c2]
      refine HandH.put (E := 3) (r := 11) (sh := .mp) (ps := []) (m := s6) (f := I) (k := v26) (v0 := max (GMap.get s6 v26 (0 : Int)) v36) (c := (.pv (I (max (GMap.get s6 v26 (0 : Int)) v36)))) mt_78 (by try simp only [↓RA, RH, RB, RS, fx44,p1,p2,p3,p4,reduceIte,p5,p6,p7,p8, c1, c2]) ?_
      try simp only [↓RA, RH, RB, RS, fx44,p1,p2,p3,p4,reduceIte,p5,p6,p7,p8, c1, c2]
      refine And.intro (DrawH.none (by rfl) (by first | rfl | (try simp only [↓RA, RH, RB, RS, fx44,p1,p2,p3,p4,reduceIte,p5,p6,p7,p8] <;> rfl)) (by first | rfl | (try simp only [↓RA, RH, RB, RS, fx44,p1,p2,p3,p4,reduceIte,p5,p6,p7,p8] <;> rfl)) (by first | rfl | (try simp only [↓RA, RH, RB, RS, fx44,p1,p2,p3,p4,reduceIte,p5,p6,p7,p8] <;> rfl))) ?_
      try simp only [↓RA, RH, RB, RS, fx44,p1,p2,p3,p4,reduceIte,p5,p6,p7,p8, c1, c2]
      have h := run_some h
      refine RdH.mk ⟨_, h, ?_⟩
      refine St.le_mk2 ?_
      try simp only [↓RA, RH, RB, RS, fx44,p1,p2,p3,p4,reduceIte,p5,p6,p7,p8, c1, c2, w6]
    · try simp only [↓RA, RH, RB, RS, fx44,p1,p2,p3,p4,reduceIte,p5,p6,p7,p8, c1]
      refine CondH.ff (decide_eq_false (by omega)) (fun c3 => ?_)
      try simp only [↓RA, RH, RB, RS, fx44,p1,p2,p3,p4,reduceIte,p5,p6,p7,p8, c1, c3]
      have h := run_some h
      refine RdH.mk ⟨_, h, ?_⟩
      refine St.le_mk2 ?_
      try simp only [↓RA, RH, RB, RS, fx44,p1,p2,p3,p4,reduceIte,p5,p6,p7,p8, c1, c3, w3]
  · try simp only [↓RA, RH, RB, RS, fx44,p1,p2,p3,p4,reduceIte,p5,p6,p7,p8]
    refine CondH.ff (decide_eq_false (by first | omega | (simp only [List.length_cons, List.length_nil] at *; omega))) (fun c4 => ?_)
    try simp only [↓RA, RH, RB, RS, fx44,p1,p2,p3,p4,reduceIte,p5,p6,p7,p8, c4]
    obtain ⟨v47, hv47, h⟩ := run_bind h
    refine HandH.call (r := 11) (hc := .mp (gmap I (s3).es) (s3).clock) 0 [] [_] [] [(.pv (I (max a0.Constant a1.Constant)))] [false] (impl_linear_sat hv47) rfl rfl rfl ?_ ?_ <;> try simp only [↓RA, RH, RB, RS, fx44,p1,p2,p3,p4,reduceIte,p5,p6,p7,p8, c4]
    repeat (first | with_reducible refine noR_and (by repeat (first | exact noR_empty _ _ | exact noR_nilS _ _ | refine noR_mk _ _ _ _ _ rfl ?_ | refine noR_mkS _ _ _ _ _ rfl ?_)) ?_ | with_reducible refine noC_and (by repeat (first | exact noC_empty _ _ (by try simp only [↓RA, RH, RB, RS, fx44,p1,p2,p3,p4,reduceIte,p5,p6,p7,p8]) | exact noC_nilS _ _ (by try simp only [↓RA, RH, RB, RS, fx44,p1,p2,p3,p4,reduceIte,p5,p6,p7,p8]) | refine noC_mk _ _ _ _ _ rfl ?_ | refine noC_mkS _ _ _ _ _ rfl ?_)) ?_ | with_reducible refine and_ac ?_ | with_reducible refine And.intro (a := _ = List.range _) (by rfl) ?_)
    have h := run_some h
    obtain rfl : _ = r := h
    refine FinH.l ?_
    try simp only [↓RA, RH, RB, RS, fx44,p1,p2,p3,p4,reduceIte,p5,p6,p7,p8, c4]

def fx21 := A @TB3 <| A @TB4 <| A @TB31 <| A @TB34 <| A @TB36 <| @TB38
theorem impl_BoundOfTerms_sat {a0 : List Majorant} {a1 : List Term}  {r : Linear × Bool} (h : impl_BoundOfTerms a0 a1 = some r) : Sat Tryz.prog 21 [(.sl false 3 (a0.map (Majorant.pv false))), (.sl false 2 (a1.map (Term.pv false)))] (.tup [((Linear.pv true) r.1), (B r.2)]) := by
  replace h := Run.of h
  unfold impl_BoundOfTerms at h
  refine Sat.of_m (nt := 43) (rs := [.cell 4 31, .tmp 5]) (n := 100000) Tryz.func21 rfl rfl rfl rfl (by simp) ?_
  try simp only [↓RA,RB,RS, fx21,p1,p2,p3,p4,reduceIte,p5,p6,p7,p8]
  repeat (first | with_reducible refine noR_and (by repeat (first | exact noR_empty _ _ | exact noR_nilS _ _ | refine noR_mk _ _ _ _ _ rfl ?_ | refine noR_mkS _ _ _ _ _ rfl ?_)) ?_ | with_reducible refine noC_and (by repeat (first | exact noC_empty _ _ (by try simp only [↓RA,RB,RS, fx21,p1,p2,p3,p4,reduceIte,p5,p6,p7,p8]) | exact noC_nilS _ _ (by try simp only [↓RA,RB,RS, fx21,p1,p2,p3,p4,reduceIte,p5,p6,p7,p8]) | refine noC_mk _ _ _ _ _ rfl ?_ | refine noC_mkS _ _ _ _ _ rfl ?_)) ?_ | with_reducible refine and_ac ?_ | with_reducible refine And.intro (a := _ = List.range _) (by rfl) ?_)
  obtain ⟨v13, hv13, h⟩ := run_bind h
  refine CallH.mk [false, false, false] (impl_within_sat hv13) ?_ ?_ <;> try simp only [↓RA,RB,RS, fx21,p1,p2,p3,p4,reduceIte,p5,p6,p7,p8]
  refine CondH.mk (fun c1 => ?_) (fun c1 => ?_)
  · replace h := run_t c1 h
    try simp only [↓RA,RB,RS, fx21,p1,p2,p3,p4,reduceIte,p5,p6,p7,p8, c1]
    repeat (first | with_reducible refine noR_and (by repeat (first | exact noR_empty _ _ | exact noR_nilS _ _ | refine noR_mk _ _ _ _ _ rfl ?_ | refine noR_mkS _ _ _ _ _ rfl ?_)) ?_ | with_reducible refine noC_and (by repeat (first | exact noC_empty _ _ (by try simp only [↓RA,RB,RS, fx21,p1,p2,p3,p4,reduceIte,p5,p6,p7,p8]) | exact noC_nilS _ _ (by try simp only [↓RA,RB,RS, fx21,p1,p2,p3,p4,reduceIte,p5,p6,p7,p8]) | refine noC_mk _ _ _ _ _ rfl ?_ | refine noC_mkS _ _ _ _ _ rfl ?_)) ?_ | with_reducible refine and_ac ?_ | with_reducible refine And.intro (a := _ = List.range _) (by rfl) ?_)
    refine Mg.know_sl (b := false) (sz := 2) (es := a1.map (Term.pv false)) 1 (by try simp only [↓RA,RB,RS, fx21,p1,p2,p3,p4,reduceIte,p5,p6,p7,p8, c1]) fun hl1 => ?_; rw [List.length_map] at hl1
    replace h := run_loop h
    refine Mg.forN h (fun i5 s5 => [(0, .val (.pv (.sl false 3 (a0.map (Majorant.pv false))))), (4, .box (.node [(.pv (.sl true 1 [])), (.pv (.sl true 1 [])), (.pv (I (0 : Int)))])), (6, .box (.node [(.own 9315), (.own 9316), (.pv (I s5.1))])), (17, .val (.pv (.sl false 2 (a1.map (Term.pv false))))), (18, .val (.pv (I (a1.length : Int)))), (19, .val (.pv (I (i5 : Int))))]) (fun i5 s5 => [(9315, (1, s5.2.1.map Sx)), (9316, (1, s5.2.2.map I))]) (St.le_trans (St.le_nilB (x := (.node [(.pv (.sl true 1 [])), (.pv (.sl true 1 [])), (.pv (I (0 : Int)))])) 6 [0] 9315 1 (by repeat (first | exact noC_empty _ _ (by try simp only [↓RA,RB,RS, fx21,p1,p2,p3,p4,reduceIte,p5,p6,p7,p8]) | exact noC_nilS _ _ (by try simp only [↓RA,RB,RS, fx21,p1,p2,p3,p4,reduceIte,p5,p6,p7,p8]) | refine noC_mk _ _ _ _ _ rfl ?_ | refine noC_mkS _ _ _ _ _ rfl ?_)) (by try simp only [↓RA,RB,RS, fx21,p1,p2,p3,p4,reduceIte,p5,p6,p7,p8, c1]) (by try simp only [↓RA,RB,RS, fx21,p1,p2,p3,p4,reduceIte,p5,p6,p7,p8, c1]) (by try simp only [↓RA,RB,RS, fx21,p1,p2,p3,p4,reduceIte,p5,p6,p7,p8, c1])) (St.le_trans (St.le_nilB (x := (.node [(.own 9315), (.pv (.sl true 1 [])), (.pv (I (0 : Int)))])) 6 [1] 9316 1 (by repeat (first | exact noC_empty _ _ (by try simp only [↓RA,RB,RS, fx21,p1,p2,p3,p4,reduceIte,p5,p6,p7,p8]) | exact noC_nilS _ _ (by try simp only [↓RA,RB,RS, fx21,p1,p2,p3,p4,reduceIte,p5,p6,p7,p8]) | refine noC_mk _ _ _ _ _ rfl ?_ | refine noC_mkS _ _ _ _ _ rfl ?_)) (by try simp only [↓RA,RB,RS, fx21,p1,p2,p3,p4,reduceIte,p5,p6,p7,p8, c1]) (by try simp only [↓RA,RB,RS, fx21,p1,p2,p3,p4,reduceIte,p5,p6,p7,p8, c1]) (by try simp only [↓RA,RB,RS, fx21,p1,p2,p3,p4,reduceIte,p5,p6,p7,p8, c1])) (St.le_mk2 (by try simp only [↓RA,RB,RS, fx21,p1,p2,p3,p4,reduceIte,p5,p6,p7,p8, c1])))) (fun i5 s5 hi h => ?_) (fun s5 h => ?_)
    · have w5 := wrap_succ (i := i5) (by omega)
      try simp only [↓RA,RB,RS, fx21,p1,p2,p3,p4,reduceIte,p5,p6,p7,p8, c1]
      refine CondH.tt (decide_eq_true (by omega)) (fun c2 => ?_)
      try simp only [↓RA,RB,RS, fx21,p1,p2,p3,p4,reduceIte,p5,p6,p7,p8, c1, c2]
      obtain ⟨v21, hv21, h⟩ := run_bind h
      refine IdxH.mk (f := (Term.pv false)) hv21 ?_ ?_ <;> try simp only [↓RA,RB,RS, fx21,p1,p2,p3,p4,reduceIte,p5,p6,p7,p8, c1, c2]
      repeat (first | with_reducible refine noR_and (by repeat (first | exact noR_empty _ _ | exact noR_nilS _ _ | refine noR_mk _ _ _ _ _ rfl ?_ | refine noR_mkS _ _ _ _ _ rfl ?_)) ?_ | with_reducible refine noC_and (by repeat (first | exact noC_empty _ _ (by try simp only [↓RA,RB,RS, fx21,p1,p2,p3,p4,reduceIte,p5,p6,p7,p8]) | exact noC_nilS _ _ (by try simp only [↓RA,RB,RS, fx21,p1,p2,p3,p4,reduceIte,p5,p6,p7,p8]) | refine noC_mk _ _ _ _ _ rfl ?_ | refine noC_mkS _ _ _ _ _ rfl ?_)) ?_ | with_reducible refine and_ac ?_ | with_reducible refine And.intro (a := _ = List.range _) (by rfl) ?_)
      obtain ⟨v26, hv26, h⟩ := run_bind h
      refine CallH.mk [false, false] (impl_MajorantOf_sat hv26) ?_ ?_ <;> try simp only [↓RA,RB,RS, fx21,p1,p2,p3,p4,reduceIte,p5,p6,p7,p8, c1, c2]
      repeat (first | with_reducible refine noR_and (by repeat (first | exact noR_empty _ _ | exact noR_nilS _ _ | refine noR_mk _ _ _ _ _ rfl ?_ | refine noR_mkS _ _ _ _ _ rfl ?_)) ?_ | with_reducible refine noC_and (by repeat (first | exact noC_empty _ _ (by try simp only [↓RA,RB,RS, fx21,p1,p2,p3,p4,reduceIte,p5,p6,p7,p8]) | exact noC_nilS _ _ (by try simp only [↓RA,RB,RS, fx21,p1,p2,p3,p4,reduceIte,p5,p6,p7,p8]) | refine noC_mk _ _ _ _ _ rfl ?_ | refine noC_mkS _ _ _ _ _ rfl ?_)) ?_ | with_reducible refine and_ac ?_ | with_reducible refine And.intro (a := _ = List.range _) (by rfl) ?_)
      refine CondH.mk (fun c3 => ?_) (fun c3 => ?_)
      · replace h := run_t c3 h
        try simp only [↓RA,RB,RS, fx21,p1,p2,p3,p4,reduceIte,p5,p6,p7,p8, c1, c2, c3]
        obtain ⟨v35, hv35, h⟩ := run_bind h
        refine CallH.mk [false, false] (impl_join_sat hv35) ?_ ?_ <;> try simp only [↓RA,RB,RS, fx21,p1,p2,p3,p4,reduceIte,p5,p6,p7,p8, c1, c2, c3]
        repeat (first | with_reducible refine noR_and (by repeat (first | exact noR_empty _ _ | exact noR_nilS _ _ | refine noR_mk _ _ _ _ _ rfl ?_ | refine noR_mkS _ _ _ _ _ rfl ?_)) ?_ | with_reducible refine noC_and (by repeat (first | exact noC_empty _ _ (by try simp only [↓RA,RB,RS, fx21,p1,p2,p3,p4,reduceIte,p5,p6,p7,p8]) | exact noC_nilS _ _ (by try simp only [↓RA,RB,RS, fx21,p1,p2,p3,p4,reduceIte,p5,p6,p7,p8]) | refine noC_mk _ _ _ _ _ rfl ?_ | refine noC_mkS _ _ _ _ _ rfl ?_)) ?_ | with_reducible refine and_ac ?_ | with_reducible refine And.intro (a := _ = List.range _) (by rfl) ?_)
        refine CondH.mk (fun c4 => ?_) (fun c4 => ?_)
        · replace h := run_t c4 h
          try simp only [↓RA,RB,RS, fx21,p1,p2,p3,p4,reduceIte,p5,p6,p7,p8, c1, c2, c3, c4]
          have h := run_some h
          refine RdH.mk ⟨_, h, ?_⟩
          refine St.le_trans (St.le_mk (S := [(0, .val (.pv (.sl false 3 (a0.map (Majorant.pv false))))), (4, .box (.node [(.pv (.sl true 1 [])), (.pv (.sl true 1 [])), (.pv (I (0 : Int)))])), (6, .box (.node [(.own 560), (.own 561), (.pv (I v35.1.Constant))])), (17, .val (.pv (.sl false 2 (a1.map (Term.pv false))))), (18, .val (.pv (I (a1.length : Int)))), (19, .val (.pv (I (IntKind.i64.wrap ((i5 : Int) + (1 : Int))))))]) (O := [(560, (1, v35.1.Vars.map Sx)), (561, (1, v35.1.Slopes.map I))]) (by try simp only [↓RA,RB,RS, fx21,p1,p2,p3,p4,reduceIte,p5,p6,p7,p8, c1, c2, c3, c4, w5]) (by try simp only [↓RA,RB,RS, fx21,p1,p2,p3,p4,reduceIte,p5,p6,p7,p8, c1, c2, c3, c4, w5])) ?_
          refine St.le_rn 560 9315 (by decide) (by repeat (first | exact noC_empty _ _ (by try simp only [↓RA,RB,RS, fx21,p1,p2,p3,p4,reduceIte,p5,p6,p7,p8]) | exact noC_nilS _ _ (by try simp only [↓RA,RB,RS, fx21,p1,p2,p3,p4,reduceIte,p5,p6,p7,p8]) | refine noC_mk _ _ _ _ _ rfl ?_ | refine noC_mkS _ _ _ _ _ rfl ?_)) ?_
          refine St.le_trans (St.le_mk (S := [(0, .val (.pv (.sl false 3 (a0.map (Majorant.pv false))))), (4, .box (.node [(.pv (.sl true 1 [])), (.pv (.sl true 1 [])), (.pv (I (0 : Int)))])), (6, .box (.node [(.own 9315), (.own 561), (.pv (I v35.1.Constant))])), (17, .val (.pv (.sl false 2 (a1.map (Term.pv false))))), (18, .val (.pv (I (a1.length : Int)))), (19, .val (.pv (I (IntKind.i64.wrap ((i5 : Int) + (1 : Int))))))]) (O := [(9315, (1, v35.1.Vars.map Sx)), (561, (1, v35.1.Slopes.map I))]) (by try simp only [↓RA,RB,RS, fx21,p1,p2,p3,p4,reduceIte,p5,p6,p7,p8, c1, c2, c3, c4, w5]) (by try simp only [↓RA,RB,RS, fx21,p1,p2,p3,p4,reduceIte,p5,p6,p7,p8, c1, c2, c3, c4, w5])) ?_
          refine St.le_rn 561 9316 (by decide) (by repeat (first | exact noC_empty _ _ (by try simp only [↓RA,RB,RS, fx21,p1,p2,p3,p4,reduceIte,p5,p6,p7,p8]) | exact noC_nilS _ _ (by try simp only [↓RA,RB,RS, fx21,p1,p2,p3,p4,reduceIte,p5,p6,p7,p8]) | refine noC_mk _ _ _ _ _ rfl ?_ | refine noC_mkS _ _ _ _ _ rfl ?_)) ?_
          refine St.le_mk2 ?_
          try simp only [↓RA,RB,RS, fx21,p1,p2,p3,p4,reduceIte,p5,p6,p7,p8, c1, c2, c3, c4, w5]
        · replace h := run_f c4 h
          try simp only [↓RA,RB,RS, fx21,p1,p2,p3,p4,reduceIte,p5,p6,p7,p8, c1, c2, c3, c4]
          have h := run_some h
          obtain rfl : _ = r := h
          refine FinH.l ?_
          try simp only [↓RA,RB,RS, fx21,p1,p2,p3,p4,reduceIte,p5,p6,p7,p8, c1, c2, c3, c4]
      · replace h := run_f c3 h
        try simp only [↓RA,RB,RS, fx21,p1,p2,p3,p4,reduceIte,p5,p6,p7,p8, c1, c2, c3]
        have h := run_some h
        obtain rfl : _ = r := h
        refine FinH.l ?_
        try simp only [↓RA,RB,RS, fx21,p1,p2,p3,p4,reduceIte,p5,p6,p7,p8, c1, c2, c3]
    · try simp only [↓RA,RB,RS, fx21,p1,p2,p3,p4,reduceIte,p5,p6,p7,p8, c1]
      refine CondH.ff (decide_eq_false (by omega)) (fun c5 => ?_)
      try simp only [↓RA,RB,RS, fx21,p1,p2,p3,p4,reduceIte,p5,p6,p7,p8, c1, c5]
      have h := run_some h
      obtain rfl : _ = r := h
      refine FinH.l ?_
      try simp only [↓RA,RB,RS, fx21,p1,p2,p3,p4,reduceIte,p5,p6,p7,p8, c1, c5]
  · replace h := run_f c1 h
    try simp only [↓RA,RB,RS, fx21,p1,p2,p3,p4,reduceIte,p5,p6,p7,p8, c1]
    have h := run_some h
    obtain rfl : _ = r := h
    refine FinH.l ?_
    try simp only [↓RA,RB,RS, fx21,p1,p2,p3,p4,reduceIte,p5,p6,p7,p8, c1]

def fx32 := A @TB3 <| A @TB9 <| A @TB28 <| @mixedT
theorem eqStringS_sat {a0 : List ByteArray} {a1 : List ByteArray}  {r : Bool} (h : eqStringS a0 a1 = some r) : Sat Tryz.prog 32 [(.sl false 1 (a0.map Sx)), (.sl false 1 (a1.map Sx))] (B r) := by
  replace h := Run.of h
  unfold eqStringS at h
  refine Sat.of_m (nt := 26) (rs := [.tmp 4]) (n := 100000) Tryz.func32 rfl rfl rfl rfl (by simp) ?_
  try simp only [↓RA,RB,RS, fx32,p1,p2,p3,p4,reduceIte,p5,p6,p7,p8]
  refine CondH.mk (fun c1 => ?_) (fun c1 => ?_)
  · replace h := run_t c1 h
    try simp only [↓RA,RB,RS, fx32,p1,p2,p3,p4,reduceIte,p5,p6,p7,p8, c1]
    refine Mg.know_sl (b := false) (sz := 1) (es := a0.map Sx) 0 (by try simp only [↓RA,RB,RS, fx32,p1,p2,p3,p4,reduceIte,p5,p6,p7,p8, c1]) fun hl0 => ?_; rw [List.length_map] at hl0
    replace h := run_loop h
    refine Mg.forN h (fun i4 s4 => [(0, .val (.pv (.sl false 1 (a0.map Sx)))), (1, .val (.pv (.sl false 1 (a1.map Sx)))), (5, .val (.pv (I (i4 : Int))))]) (fun i4 s4 => []) (St.le_mk2 (by try simp only [↓RA,RB,RS, fx32,p1,p2,p3,p4,reduceIte,p5,p6,p7,p8, c1])) (fun i4 s4 hi h => ?_) (fun s4 h => ?_)
    · have w4 := wrap_succ (i := i4) (by omega)
      try simp only [↓RA,RB,RS, fx32,p1,p2,p3,p4,reduceIte,p5,p6,p7,p8, c1]
      refine CondH.tt (decide_eq_true (by omega)) (fun c2 => ?_)
      try simp only [↓RA,RB,RS, fx32,p1,p2,p3,p4,reduceIte,p5,p6,p7,p8, c1, c2]
      obtain ⟨v19, hv19, h⟩ := run_bind h
      refine IdxH.mk (f := Sx) hv19 ?_ ?_ <;> try simp only [↓RA,RB,RS, fx32,p1,p2,p3,p4,reduceIte,p5,p6,p7,p8, c1, c2]
      obtain ⟨v23, hv23, h⟩ := run_bind h
      refine IdxH.mk (f := Sx) hv23 ?_ ?_ <;> try simp only [↓RA,RB,RS, fx32,p1,p2,p3,p4,reduceIte,p5,p6,p7,p8, c1, c2]
      refine And.intro (DrawH.none (by rfl) (by first | rfl | (try simp only [↓RA,RB,RS, fx32,p1,p2,p3,p4,reduceIte,p5,p6,p7,p8] <;> rfl)) (by first | rfl | (try simp only [↓RA,RB,RS, fx32,p1,p2,p3,p4,reduceIte,p5,p6,p7,p8] <;> rfl)) (by first | rfl | (try simp only [↓RA,RB,RS, fx32,p1,p2,p3,p4,reduceIte,p5,p6,p7,p8] <;> rfl))) ?_
      try simp only [↓RA,RB,RS, fx32,p1,p2,p3,p4,reduceIte,p5,p6,p7,p8, c1, c2]
      refine CondH.mk (fun c3 => ?_) (fun c3 => ?_)
      · replace h := run_t c3 h
        try simp only [↓RA,RB,RS, fx32,p1,p2,p3,p4,reduceIte,p5,p6,p7,p8, c1, c2, c3]
        have h := run_some h
        refine RdH.mk ⟨_, h, ?_⟩
        refine St.le_mk2 ?_
        try simp only [↓RA,RB,RS, fx32,p1,p2,p3,p4,reduceIte,p5,p6,p7,p8, c1, c2, c3, w4]
      · replace h := run_f c3 h
        try simp only [↓RA,RB,RS, fx32,p1,p2,p3,p4,reduceIte,p5,p6,p7,p8, c1, c2, c3]
        have h := run_some h
        obtain rfl : _ = r := h
        refine FinH.l ?_
        try simp only [↓RA,RB,RS, fx32,p1,p2,p3,p4,reduceIte,p5,p6,p7,p8, c1, c2, c3]
    · try simp only [↓RA,RB,RS, fx32,p1,p2,p3,p4,reduceIte,p5,p6,p7,p8, c1]
      refine CondH.ff (decide_eq_false (by omega)) (fun c4 => ?_)
      try simp only [↓RA,RB,RS, fx32,p1,p2,p3,p4,reduceIte,p5,p6,p7,p8, c1, c4]
      have h := run_some h
      obtain rfl : _ = r := h
      refine FinH.l ?_
      try simp only [↓RA,RB,RS, fx32,p1,p2,p3,p4,reduceIte,p5,p6,p7,p8, c1, c4]
  · replace h := run_f c1 h
    try simp only [↓RA,RB,RS, fx32,p1,p2,p3,p4,reduceIte,p5,p6,p7,p8, c1]
    have h := run_some h
    obtain rfl : _ = r := h
    refine FinH.l ?_
    try simp only [↓RA,RB,RS, fx32,p1,p2,p3,p4,reduceIte,p5,p6,p7,p8, c1]

def fx33 := A @TB3 <| A @TB29 <| @mixedT
theorem eqIntS_sat {a0 : List Int} {a1 : List Int}  {r : Bool} (h : eqIntS a0 a1 = some r) : Sat Tryz.prog 33 [(.sl false 1 (a0.map I)), (.sl false 1 (a1.map I))] (B r) := by
  replace h := Run.of h
  unfold eqIntS at h
  refine Sat.of_m (nt := 26) (rs := [.tmp 4]) (n := 100000) Tryz.func33 rfl rfl rfl rfl (by simp) ?_
  try simp only [↓RA,RB,RS, fx33,p1,p2,p3,p4,reduceIte,p5,p6,p7,p8]
  refine CondH.mk (fun c1 => ?_) (fun c1 => ?_)
  · replace h := run_t c1 h
    try simp only [↓RA,RB,RS, fx33,p1,p2,p3,p4,reduceIte,p5,p6,p7,p8, c1]
    refine Mg.know_sl (b := false) (sz := 1) (es := a0.map I) 0 (by try simp only [↓RA,RB,RS, fx33,p1,p2,p3,p4,reduceIte,p5,p6,p7,p8, c1]) fun hl0 => ?_; rw [List.length_map] at hl0
    replace h := run_loop h
    refine Mg.forN h (fun i4 s4 => [(0, .val (.pv (.sl false 1 (a0.map I)))), (1, .val (.pv (.sl false 1 (a1.map I)))), (5, .val (.pv (I (i4 : Int))))]) (fun i4 s4 => []) (St.le_mk2 (by try simp only [↓RA,RB,RS, fx33,p1,p2,p3,p4,reduceIte,p5,p6,p7,p8, c1])) (fun i4 s4 hi h => ?_) (fun s4 h => ?_)
    · have w4 := wrap_succ (i := i4) (by omega)
      try simp only [↓RA,RB,RS, fx33,p1,p2,p3,p4,reduceIte,p5,p6,p7,p8, c1]
      refine CondH.tt (decide_eq_true (by omega)) (fun c2 => ?_)
      try simp only [↓RA,RB,RS, fx33,p1,p2,p3,p4,reduceIte,p5,p6,p7,p8, c1, c2]
      obtain ⟨v19, hv19, h⟩ := run_bind h
      refine IdxH.mk (f := I) hv19 ?_ ?_ <;> try simp only [↓RA,RB,RS, fx33,p1,p2,p3,p4,reduceIte,p5,p6,p7,p8, c1, c2]
      obtain ⟨v23, hv23, h⟩ := run_bind h
      refine IdxH.mk (f := I) hv23 ?_ ?_ <;> try simp only [↓RA,RB,RS, fx33,p1,p2,p3,p4,reduceIte,p5,p6,p7,p8, c1, c2]
      refine And.intro (DrawH.none (by rfl) (by first | rfl | (try simp only [↓RA,RB,RS, fx33,p1,p2,p3,p4,reduceIte,p5,p6,p7,p8] <;> rfl)) (by first | rfl | (try simp only [↓RA,RB,RS, fx33,p1,p2,p3,p4,reduceIte,p5,p6,p7,p8] <;> rfl)) (by first | rfl | (try simp only [↓RA,RB,RS, fx33,p1,p2,p3,p4,reduceIte,p5,p6,p7,p8] <;> rfl))) ?_
      try simp only [↓RA,RB,RS, fx33,p1,p2,p3,p4,reduceIte,p5,p6,p7,p8, c1, c2]
      refine CondH.mk (fun c3 => ?_) (fun c3 => ?_)
      · replace h := run_t c3 h
        try simp only [↓RA,RB,RS, fx33,p1,p2,p3,p4,reduceIte,p5,p6,p7,p8, c1, c2, c3]
        have h := run_some h
        refine RdH.mk ⟨_, h, ?_⟩
        refine St.le_mk2 ?_
        try simp only [↓RA,RB,RS, fx33,p1,p2,p3,p4,reduceIte,p5,p6,p7,p8, c1, c2, c3, w4]
      · replace h := run_f c3 h
        try simp only [↓RA,RB,RS, fx33,p1,p2,p3,p4,reduceIte,p5,p6,p7,p8, c1, c2, c3]
        have h := run_some h
        obtain rfl : _ = r := h
        refine FinH.l ?_
        try simp only [↓RA,RB,RS, fx33,p1,p2,p3,p4,reduceIte,p5,p6,p7,p8, c1, c2, c3]
    · try simp only [↓RA,RB,RS, fx33,p1,p2,p3,p4,reduceIte,p5,p6,p7,p8, c1]
      refine CondH.ff (decide_eq_false (by omega)) (fun c4 => ?_)
      try simp only [↓RA,RB,RS, fx33,p1,p2,p3,p4,reduceIte,p5,p6,p7,p8, c1, c4]
      have h := run_some h
      obtain rfl : _ = r := h
      refine FinH.l ?_
      try simp only [↓RA,RB,RS, fx33,p1,p2,p3,p4,reduceIte,p5,p6,p7,p8, c1, c4]
  · replace h := run_f c1 h
    try simp only [↓RA,RB,RS, fx33,p1,p2,p3,p4,reduceIte,p5,p6,p7,p8, c1]
    have h := run_some h
    obtain rfl : _ = r := h
    refine FinH.l ?_
    try simp only [↓RA,RB,RS, fx33,p1,p2,p3,p4,reduceIte,p5,p6,p7,p8, c1]

def fx11 := A @TB3 <| A @TB4 <| A @TB28 <| A @TB29 <| @TB31
theorem eqLinear_sat {a0 : Linear} {a1 : Linear}  {r : Bool} (h : eqLinear a0 a1 = some r) : Sat Tryz.prog 11 [((Linear.pv false) a0), ((Linear.pv false) a1)] (B r) := by
  replace h := Run.of h
  unfold eqLinear at h
  refine Sat.of_m (nt := 22) (rs := [.tmp 4]) (n := 100000) Tryz.func11 rfl rfl rfl rfl (by simp) ?_
  try simp only [↓RA,RB,RS, fx11,p1,p2,p3,p4,reduceIte,p5,p6,p7,p8]
  repeat (first | with_reducible refine noR_and (by repeat (first | exact noR_empty _ _ | exact noR_nilS _ _ | refine noR_mk _ _ _ _ _ rfl ?_ | refine noR_mkS _ _ _ _ _ rfl ?_)) ?_ | with_reducible refine noC_and (by repeat (first | exact noC_empty _ _ (by try simp only [↓RA,RB,RS, fx11,p1,p2,p3,p4,reduceIte,p5,p6,p7,p8]) | exact noC_nilS _ _ (by try simp only [↓RA,RB,RS, fx11,p1,p2,p3,p4,reduceIte,p5,p6,p7,p8]) | refine noC_mk _ _ _ _ _ rfl ?_ | refine noC_mkS _ _ _ _ _ rfl ?_)) ?_ | with_reducible refine and_ac ?_ | with_reducible refine And.intro (a := _ = List.range _) (by rfl) ?_)
  obtain ⟨v9, hv9, h⟩ := run_bind h
  refine CallH.mk [false, false] (eqStringS_sat hv9) ?_ ?_ <;> try simp only [↓RA,RB,RS, fx11,p1,p2,p3,p4,reduceIte,p5,p6,p7,p8]
  refine CondH.mk (fun c1 => ?_) (fun c1 => ?_)
  · replace h := run_t c1 h
    try simp only [↓RA,RB,RS, fx11,p1,p2,p3,p4,reduceIte,p5,p6,p7,p8, c1]
    obtain ⟨v15, hv15, h⟩ := run_bind h
    refine CallH.mk [false, false] (eqIntS_sat hv15) ?_ ?_ <;> try simp only [↓RA,RB,RS, fx11,p1,p2,p3,p4,reduceIte,p5,p6,p7,p8, c1]
    refine CondH.mk (fun c2 => ?_) (fun c2 => ?_)
    · replace h := run_t c2 h
      try simp only [↓RA,RB,RS, fx11,p1,p2,p3,p4,reduceIte,p5,p6,p7,p8, c1, c2]
      refine CondH.mk (fun c3 => ?_) (fun c3 => ?_)
      · replace h := run_t c3 h
        try simp only [↓RA,RB,RS, fx11,p1,p2,p3,p4,reduceIte,p5,p6,p7,p8, c1, c2, c3]
        have h := run_some h
        obtain rfl : _ = r := h
        refine FinH.l ?_
        try simp only [↓RA,RB,RS, fx11,p1,p2,p3,p4,reduceIte,p5,p6,p7,p8, c1, c2, c3]
      · replace h := run_f c3 h
        try simp only [↓RA,RB,RS, fx11,p1,p2,p3,p4,reduceIte,p5,p6,p7,p8, c1, c2, c3]
        have h := run_some h
        obtain rfl : _ = r := h
        refine FinH.l ?_
        try simp only [↓RA,RB,RS, fx11,p1,p2,p3,p4,reduceIte,p5,p6,p7,p8, c1, c2, c3]
    · replace h := run_f c2 h
      try simp only [↓RA,RB,RS, fx11,p1,p2,p3,p4,reduceIte,p5,p6,p7,p8, c1, c2]
      have h := run_some h
      obtain rfl : _ = r := h
      refine FinH.l ?_
      try simp only [↓RA,RB,RS, fx11,p1,p2,p3,p4,reduceIte,p5,p6,p7,p8, c1, c2]
  · replace h := run_f c1 h
    try simp only [↓RA,RB,RS, fx11,p1,p2,p3,p4,reduceIte,p5,p6,p7,p8, c1]
    have h := run_some h
    obtain rfl : _ = r := h
    refine FinH.l ?_
    try simp only [↓RA,RB,RS, fx11,p1,p2,p3,p4,reduceIte,p5,p6,p7,p8, c1]

def fx34 := A @TB3 <| A @TB4 <| A @TB9 <| A @TB29 <| @TB58
theorem eqMajorant_sat {a0 : Majorant} {a1 : Majorant}  {r : Bool} (h : eqMajorant a0 a1 = some r) : Sat Tryz.prog 34 [((Majorant.pv false) a0), ((Majorant.pv false) a1)] (B r) := by
  replace h := Run.of h
  unfold eqMajorant at h
  refine Sat.of_m (nt := 21) (rs := [.tmp 4]) (n := 100000) Tryz.func34 rfl rfl rfl rfl (by simp) ?_
  try simp only [↓RA,RB,RS, fx34,p1,p2,p3,p4,reduceIte,p5,p6,p7,p8]
  repeat (first | with_reducible refine noR_and (by repeat (first | exact noR_empty _ _ | exact noR_nilS _ _ | refine noR_mk _ _ _ _ _ rfl ?_ | refine noR_mkS _ _ _ _ _ rfl ?_)) ?_ | with_reducible refine noC_and (by repeat (first | exact noC_empty _ _ (by try simp only [↓RA,RB,RS, fx34,p1,p2,p3,p4,reduceIte,p5,p6,p7,p8]) | exact noC_nilS _ _ (by try simp only [↓RA,RB,RS, fx34,p1,p2,p3,p4,reduceIte,p5,p6,p7,p8]) | refine noC_mk _ _ _ _ _ rfl ?_ | refine noC_mkS _ _ _ _ _ rfl ?_)) ?_ | with_reducible refine and_ac ?_ | with_reducible refine And.intro (a := _ = List.range _) (by rfl) ?_)
  refine CondH.mk (fun c1 => ?_) (fun c1 => ?_)
  · replace h := run_t c1 h
    try simp only [↓RA,RB,RS, fx34,p1,p2,p3,p4,reduceIte,p5,p6,p7,p8, c1]
    obtain ⟨v14, hv14, h⟩ := run_bind h
    refine CallH.mk [false, false] (eqIntS_sat hv14) ?_ ?_ <;> try simp only [↓RA,RB,RS, fx34,p1,p2,p3,p4,reduceIte,p5,p6,p7,p8, c1]
    refine CondH.mk (fun c2 => ?_) (fun c2 => ?_)
    · replace h := run_t c2 h
      try simp only [↓RA,RB,RS, fx34,p1,p2,p3,p4,reduceIte,p5,p6,p7,p8, c1, c2]
      refine CondH.mk (fun c3 => ?_) (fun c3 => ?_)
      · replace h := run_t c3 h
        try simp only [↓RA,RB,RS, fx34,p1,p2,p3,p4,reduceIte,p5,p6,p7,p8, c1, c2, c3]
        have h := run_some h
        obtain rfl : _ = r := h
        refine FinH.l ?_
        try simp only [↓RA,RB,RS, fx34,p1,p2,p3,p4,reduceIte,p5,p6,p7,p8, c1, c2, c3]
      · replace h := run_f c3 h
        try simp only [↓RA,RB,RS, fx34,p1,p2,p3,p4,reduceIte,p5,p6,p7,p8, c1, c2, c3]
        have h := run_some h
        obtain rfl : _ = r := h
        refine FinH.l ?_
        try simp only [↓RA,RB,RS, fx34,p1,p2,p3,p4,reduceIte,p5,p6,p7,p8, c1, c2, c3]
    · replace h := run_f c2 h
      try simp only [↓RA,RB,RS, fx34,p1,p2,p3,p4,reduceIte,p5,p6,p7,p8, c1, c2]
      have h := run_some h
      obtain rfl : _ = r := h
      refine FinH.l ?_
      try simp only [↓RA,RB,RS, fx34,p1,p2,p3,p4,reduceIte,p5,p6,p7,p8, c1, c2]
  · replace h := run_f c1 h
    try simp only [↓RA,RB,RS, fx34,p1,p2,p3,p4,reduceIte,p5,p6,p7,p8, c1]
    have h := run_some h
    obtain rfl : _ = r := h
    refine FinH.l ?_
    try simp only [↓RA,RB,RS, fx34,p1,p2,p3,p4,reduceIte,p5,p6,p7,p8, c1]

def fx12 := A @TB3 <| A @TB4 <| A @TB34 <| A @TB58 <| @mixedT
theorem eqMajorantS_sat {a0 : List Majorant} {a1 : List Majorant}  {r : Bool} (h : eqMajorantS a0 a1 = some r) : Sat Tryz.prog 12 [(.sl false 3 (a0.map (Majorant.pv false))), (.sl false 3 (a1.map (Majorant.pv false)))] (B r) := by
  replace h := Run.of h
  unfold eqMajorantS at h
  refine Sat.of_m (nt := 27) (rs := [.tmp 4]) (n := 100000) Tryz.func12 rfl rfl rfl rfl (by simp) ?_
  try simp only [↓RA,RB,RS, fx12,p1,p2,p3,p4,reduceIte,p5,p6,p7,p8]
  refine CondH.mk (fun c1 => ?_) (fun c1 => ?_)
  · replace h := run_t c1 h
    try simp only [↓RA,RB,RS, fx12,p1,p2,p3,p4,reduceIte,p5,p6,p7,p8, c1]
    refine Mg.know_sl (b := false) (sz := 3) (es := a0.map (Majorant.pv false)) 0 (by try simp only [↓RA,RB,RS, fx12,p1,p2,p3,p4,reduceIte,p5,p6,p7,p8, c1]) fun hl0 => ?_; rw [List.length_map] at hl0
    replace h := run_loop h
    refine Mg.forN h (fun i4 s4 => [(0, .val (.pv (.sl false 3 (a0.map (Majorant.pv false))))), (1, .val (.pv (.sl false 3 (a1.map (Majorant.pv false))))), (5, .val (.pv (I (i4 : Int))))]) (fun i4 s4 => []) (St.le_mk2 (by try simp only [↓RA,RB,RS, fx12,p1,p2,p3,p4,reduceIte,p5,p6,p7,p8, c1])) (fun i4 s4 hi h => ?_) (fun s4 h => ?_)
    · have w4 := wrap_succ (i := i4) (by omega)
      try simp only [↓RA,RB,RS, fx12,p1,p2,p3,p4,reduceIte,p5,p6,p7,p8, c1]
      refine CondH.tt (decide_eq_true (by omega)) (fun c2 => ?_)
      try simp only [↓RA,RB,RS, fx12,p1,p2,p3,p4,reduceIte,p5,p6,p7,p8, c1, c2]
      obtain ⟨v19, hv19, h⟩ := run_bind h
      refine IdxH.mk (f := (Majorant.pv false)) hv19 ?_ ?_ <;> try simp only [↓RA,RB,RS, fx12,p1,p2,p3,p4,reduceIte,p5,p6,p7,p8, c1, c2]
      obtain ⟨v23, hv23, h⟩ := run_bind h
      refine IdxH.mk (f := (Majorant.pv false)) hv23 ?_ ?_ <;> try simp only [↓RA,RB,RS, fx12,p1,p2,p3,p4,reduceIte,p5,p6,p7,p8, c1, c2]
      obtain ⟨v25, hv25, h⟩ := run_bind h
      refine CallH.mk [false, false] (eqMajorant_sat hv25) ?_ ?_ <;> try simp only [↓RA,RB,RS, fx12,p1,p2,p3,p4,reduceIte,p5,p6,p7,p8, c1, c2]
      refine And.intro (DrawH.none (by rfl) (by first | rfl | (try simp only [↓RA,RB,RS, fx12,p1,p2,p3,p4,reduceIte,p5,p6,p7,p8] <;> rfl)) (by first | rfl | (try simp only [↓RA,RB,RS, fx12,p1,p2,p3,p4,reduceIte,p5,p6,p7,p8] <;> rfl)) (by first | rfl | (try simp only [↓RA,RB,RS, fx12,p1,p2,p3,p4,reduceIte,p5,p6,p7,p8] <;> rfl))) ?_
      try simp only [↓RA,RB,RS, fx12,p1,p2,p3,p4,reduceIte,p5,p6,p7,p8, c1, c2]
      refine CondH.mk (fun c3 => ?_) (fun c3 => ?_)
      · replace h := run_t c3 h
        try simp only [↓RA,RB,RS, fx12,p1,p2,p3,p4,reduceIte,p5,p6,p7,p8, c1, c2, c3]
        have h := run_some h
        refine RdH.mk ⟨_, h, ?_⟩
        refine St.le_mk2 ?_
        try simp only [↓RA,RB,RS, fx12,p1,p2,p3,p4,reduceIte,p5,p6,p7,p8, c1, c2, c3, w4]
      · replace h := run_f c3 h
        try simp only [↓RA,RB,RS, fx12,p1,p2,p3,p4,reduceIte,p5,p6,p7,p8, c1, c2, c3]
        have h := run_some h
        obtain rfl : _ = r := h
        refine FinH.l ?_
        try simp only [↓RA,RB,RS, fx12,p1,p2,p3,p4,reduceIte,p5,p6,p7,p8, c1, c2, c3]
    · try simp only [↓RA,RB,RS, fx12,p1,p2,p3,p4,reduceIte,p5,p6,p7,p8, c1]
      refine CondH.ff (decide_eq_false (by omega)) (fun c4 => ?_)
      try simp only [↓RA,RB,RS, fx12,p1,p2,p3,p4,reduceIte,p5,p6,p7,p8, c1, c4]
      have h := run_some h
      obtain rfl : _ = r := h
      refine FinH.l ?_
      try simp only [↓RA,RB,RS, fx12,p1,p2,p3,p4,reduceIte,p5,p6,p7,p8, c1, c4]
  · replace h := run_f c1 h
    try simp only [↓RA,RB,RS, fx12,p1,p2,p3,p4,reduceIte,p5,p6,p7,p8, c1]
    have h := run_some h
    obtain rfl : _ = r := h
    refine FinH.l ?_
    try simp only [↓RA,RB,RS, fx12,p1,p2,p3,p4,reduceIte,p5,p6,p7,p8, c1]

def fx13 := A @TB4 <| A @TB9 <| A @TB36 <| @TB38
def fx22 := A @TB3 <| A @TB4 <| A @TB36 <| A @TB38 <| @mixedT
theorem eqTermN_sat (n : Nat) : (∀ (a0 : Term) (a1 : Term) (r : Bool), eqTermN n a0 a1 = some r → Sat Tryz.prog 13 [((Term.pv false) a0), ((Term.pv false) a1)] (B r)) ∧ (∀ (a0 : List Term) (a1 : List Term) (r : Bool), eqTermSN n a0 a1 = some r → Sat Tryz.prog 22 [(.sl false 2 (a0.map (Term.pv false))), (.sl false 2 (a1.map (Term.pv false)))] (B r)) := by
  induction n with
  | zero => exact ⟨fun _ _ _ h => by simp [eqTermN] at h, fun _ _ _ h => by simp [eqTermSN] at h⟩
  | succ n ih =>
    refine ⟨fun a0 a1 r h => ?_, fun a0 a1 r h => ?_⟩
    · replace h := Run.of h
      rw [eqTermN] at h
      refine Sat.of_m (nt := 16) (rs := [.tmp 4]) (n := 100000) Tryz.func13 rfl rfl rfl rfl (by simp) ?_
      try simp only [↓RA,RB,RS, fx13,p1,p2,p3,p4,reduceIte,p5,p6,p7,p8]
      repeat (first | with_reducible refine noR_and (by repeat (first | exact noR_empty _ _ | exact noR_nilS _ _ | refine noR_mk _ _ _ _ _ rfl ?_ | refine noR_mkS _ _ _ _ _ rfl ?_)) ?_ | with_reducible refine noC_and (by repeat (first | exact noC_empty _ _ (by try simp only [↓RA,RB,RS, fx13,p1,p2,p3,p4,reduceIte,p5,p6,p7,p8]) | exact noC_nilS _ _ (by try simp only [↓RA,RB,RS, fx13,p1,p2,p3,p4,reduceIte,p5,p6,p7,p8]) | refine noC_mk _ _ _ _ _ rfl ?_ | refine noC_mkS _ _ _ _ _ rfl ?_)) ?_ | with_reducible refine and_ac ?_ | with_reducible refine And.intro (a := _ = List.range _) (by rfl) ?_)
      refine CondH.mk (fun c1 => ?_) (fun c1 => ?_)
      · replace h := run_t c1 h
        try simp only [↓RA,RB,RS, fx13,p1,p2,p3,p4,reduceIte,p5,p6,p7,p8, c1]
        obtain ⟨v14, hv14, h⟩ := run_bind h
        refine CallH.mk [false, false] (ih.2 _ _ _ hv14) ?_ ?_ <;> try simp only [↓RA,RB,RS, fx13,p1,p2,p3,p4,reduceIte,p5,p6,p7,p8, c1]
        refine CondH.mk (fun c2 => ?_) (fun c2 => ?_)
        · replace h := run_t c2 h
          try simp only [↓RA,RB,RS, fx13,p1,p2,p3,p4,reduceIte,p5,p6,p7,p8, c1, c2]
          have h := run_some h
          obtain rfl : _ = r := h
          refine FinH.l ?_
          try simp only [↓RA,RB,RS, fx13,p1,p2,p3,p4,reduceIte,p5,p6,p7,p8, c1, c2]
        · replace h := run_f c2 h
          try simp only [↓RA,RB,RS, fx13,p1,p2,p3,p4,reduceIte,p5,p6,p7,p8, c1, c2]
          have h := run_some h
          obtain rfl : _ = r := h
          refine FinH.l ?_
          try simp only [↓RA,RB,RS, fx13,p1,p2,p3,p4,reduceIte,p5,p6,p7,p8, c1, c2]
      · replace h := run_f c1 h
        try simp only [↓RA,RB,RS, fx13,p1,p2,p3,p4,reduceIte,p5,p6,p7,p8, c1]
        have h := run_some h
        obtain rfl : _ = r := h
        refine FinH.l ?_
        try simp only [↓RA,RB,RS, fx13,p1,p2,p3,p4,reduceIte,p5,p6,p7,p8, c1]
    · replace h := Run.of h
      rw [eqTermSN] at h
      refine Sat.of_m (nt := 27) (rs := [.tmp 4]) (n := 100000) Tryz.func22 rfl rfl rfl rfl (by simp) ?_
      try simp only [↓RA,RB,RS, fx22,p1,p2,p3,p4,reduceIte,p5,p6,p7,p8]
      refine CondH.mk (fun c1 => ?_) (fun c1 => ?_)
      · replace h := run_t c1 h
        try simp only [↓RA,RB,RS, fx22,p1,p2,p3,p4,reduceIte,p5,p6,p7,p8, c1]
        refine Mg.know_sl (b := false) (sz := 2) (es := a0.map (Term.pv false)) 0 (by try simp only [↓RA,RB,RS, fx22,p1,p2,p3,p4,reduceIte,p5,p6,p7,p8, c1]) fun hl0 => ?_; rw [List.length_map] at hl0
        replace h := run_loop h
        refine Mg.forN h (fun i4 s4 => [(0, .val (.pv (.sl false 2 (a0.map (Term.pv false))))), (1, .val (.pv (.sl false 2 (a1.map (Term.pv false))))), (5, .val (.pv (I (i4 : Int))))]) (fun i4 s4 => []) (St.le_mk2 (by try simp only [↓RA,RB,RS, fx22,p1,p2,p3,p4,reduceIte,p5,p6,p7,p8, c1])) (fun i4 s4 hi h => ?_) (fun s4 h => ?_)
        · have w4 := wrap_succ (i := i4) (by omega)
          try simp only [↓RA,RB,RS, fx22,p1,p2,p3,p4,reduceIte,p5,p6,p7,p8, c1]
          refine CondH.tt (decide_eq_true (by omega)) (fun c2 => ?_)
          try simp only [↓RA,RB,RS, fx22,p1,p2,p3,p4,reduceIte,p5,p6,p7,p8, c1, c2]
          obtain ⟨v19, hv19, h⟩ := run_bind h
          refine IdxH.mk (f := (Term.pv false)) hv19 ?_ ?_ <;> try simp only [↓RA,RB,RS, fx22,p1,p2,p3,p4,reduceIte,p5,p6,p7,p8, c1, c2]
          obtain ⟨v23, hv23, h⟩ := run_bind h
          refine IdxH.mk (f := (Term.pv false)) hv23 ?_ ?_ <;> try simp only [↓RA,RB,RS, fx22,p1,p2,p3,p4,reduceIte,p5,p6,p7,p8, c1, c2]
          obtain ⟨v25, hv25, h⟩ := run_bind h
          refine CallH.mk [false, false] (ih.1 _ _ _ hv25) ?_ ?_ <;> try simp only [↓RA,RB,RS, fx22,p1,p2,p3,p4,reduceIte,p5,p6,p7,p8, c1, c2]
          refine And.intro (DrawH.none (by rfl) (by first | rfl | (try simp only [↓RA,RB,RS, fx22,p1,p2,p3,p4,reduceIte,p5,p6,p7,p8] <;> rfl)) (by first | rfl | (try simp only [↓RA,RB,RS, fx22,p1,p2,p3,p4,reduceIte,p5,p6,p7,p8] <;> rfl)) (by first | rfl | (try simp only [↓RA,RB,RS, fx22,p1,p2,p3,p4,reduceIte,p5,p6,p7,p8] <;> rfl))) ?_
          try simp only [↓RA,RB,RS, fx22,p1,p2,p3,p4,reduceIte,p5,p6,p7,p8, c1, c2]
          refine CondH.mk (fun c3 => ?_) (fun c3 => ?_)
          · replace h := run_t c3 h
            try simp only [↓RA,RB,RS, fx22,p1,p2,p3,p4,reduceIte,p5,p6,p7,p8, c1, c2, c3]
            have h := run_some h
            refine RdH.mk ⟨_, h, ?_⟩
            refine St.le_mk2 ?_
            try simp only [↓RA,RB,RS, fx22,p1,p2,p3,p4,reduceIte,p5,p6,p7,p8, c1, c2, c3, w4]
          · replace h := run_f c3 h
            try simp only [↓RA,RB,RS, fx22,p1,p2,p3,p4,reduceIte,p5,p6,p7,p8, c1, c2, c3]
            have h := run_some h
            obtain rfl : _ = r := h
            refine FinH.l ?_
            try simp only [↓RA,RB,RS, fx22,p1,p2,p3,p4,reduceIte,p5,p6,p7,p8, c1, c2, c3]
        · try simp only [↓RA,RB,RS, fx22,p1,p2,p3,p4,reduceIte,p5,p6,p7,p8, c1]
          refine CondH.ff (decide_eq_false (by omega)) (fun c4 => ?_)
          try simp only [↓RA,RB,RS, fx22,p1,p2,p3,p4,reduceIte,p5,p6,p7,p8, c1, c4]
          have h := run_some h
          obtain rfl : _ = r := h
          refine FinH.l ?_
          try simp only [↓RA,RB,RS, fx22,p1,p2,p3,p4,reduceIte,p5,p6,p7,p8, c1, c4]
      · replace h := run_f c1 h
        try simp only [↓RA,RB,RS, fx22,p1,p2,p3,p4,reduceIte,p5,p6,p7,p8, c1]
        have h := run_some h
        obtain rfl : _ = r := h
        refine FinH.l ?_
        try simp only [↓RA,RB,RS, fx22,p1,p2,p3,p4,reduceIte,p5,p6,p7,p8, c1]
theorem eqTerm_sat {a0 : Term} {a1 : Term} {r : Bool} (h : eqTerm a0 a1 = some r) : Sat Tryz.prog 13 [((Term.pv false) a0), ((Term.pv false) a1)] (B r) := by
  obtain ⟨n, hn⟩ := lim_some h
  exact (eqTermN_sat n).1 _ _ _ hn
theorem eqTermS_sat {a0 : List Term} {a1 : List Term} {r : Bool} (h : eqTermS a0 a1 = some r) : Sat Tryz.prog 22 [(.sl false 2 (a0.map (Term.pv false))), (.sl false 2 (a1.map (Term.pv false)))] (B r) := by
  obtain ⟨n, hn⟩ := lim_some h
  exact (eqTermN_sat n).2 _ _ _ hn

def fx35 := A @TB3 <| A @TB5 <| A @TB9 <| A @TB81 <| A @uk_3 <| A @uk_5 <| @uk_9
theorem markText_sat {a0 : Int}  {r : ByteArray} (h : markText a0 = some r) : Sat Tryz.prog 35 [(I a0)] (Sx r) := by
  replace h := Run.of h
  unfold markText at h
  refine Sat.of_m (nt := 20) (rs := [.tmp 2]) (n := 100000) Tryz.func35 rfl rfl rfl rfl (by simp) ?_
  try simp only [↓RA,RB,RS, fx35,p1,p2,p3,p4,reduceIte,p5,p6,p7,p8]
  refine CondH.mk (fun c1 => ?_) (fun c1 => ?_)
  · replace h := run_t c1 h
    try simp only [↓RA,RB,RS, fx35,p1,p2,p3,p4,reduceIte,p5,p6,p7,p8, c1]
    have h := run_some h
    obtain rfl : _ = r := h
    refine FinH.l ?_
    try simp only [↓RA,RB,RS, fx35,p1,p2,p3,p4,reduceIte,p5,p6,p7,p8, c1]
  · replace h := run_f c1 h
    try simp only [↓RA,RB,RS, fx35,p1,p2,p3,p4,reduceIte,p5,p6,p7,p8, c1]
    replace h := run_loop h
    refine Mg.whileN h (fun s4 => [(0, .val (.pv (I s4.1))), (3, .val (.pv (Sx s4.2)))]) (fun s4 => []) (St.le_mk2 (by try simp only [↓RA,RB,RS, fx35,p1,p2,p3,p4,reduceIte,p5,p6,p7,p8, c1])) (fun n4 s4 h => ?_)
    try simp only [↓RA,RB,RS, fx35,p1,p2,p3,p4,reduceIte,p5,p6,p7,p8, c1]
    refine CondH.mk (fun c2 => ?_) (fun c2 => ?_)
    · replace h := run_t c2 h
      try simp only [↓RA,RB,RS, fx35,p1,p2,p3,p4,reduceIte,p5,p6,p7,p8, c1, c2]
      obtain ⟨v9, hv9, h⟩ := run_bind h
      refine remH.mk hv9 ?_
      try simp only [↓RA,RB,RS, fx35,p1,p2,p3,p4,reduceIte,p5,p6,p7,p8, c1, c2]
      repeat (first | with_reducible refine noR_and (by repeat (first | exact noR_empty _ _ | exact noR_nilS _ _ | refine noR_mk _ _ _ _ _ rfl ?_ | refine noR_mkS _ _ _ _ _ rfl ?_)) ?_ | with_reducible refine noC_and (by repeat (first | exact noC_empty _ _ (by try simp only [↓RA,RB,RS, fx35,p1,p2,p3,p4,reduceIte,p5,p6,p7,p8]) | exact noC_nilS _ _ (by try simp only [↓RA,RB,RS, fx35,p1,p2,p3,p4,reduceIte,p5,p6,p7,p8]) | refine noC_mk _ _ _ _ _ rfl ?_ | refine noC_mkS _ _ _ _ _ rfl ?_)) ?_ | with_reducible refine and_ac ?_ | with_reducible refine And.intro (a := _ = List.range _) (by rfl) ?_)
      obtain ⟨v13, hv13, h⟩ := run_bind h
      refine BstrH.mk hv13 ?_ ?_ <;> try simp only [↓RA,RB,RS, fx35,p1,p2,p3,p4,reduceIte,p5,p6,p7,p8, c1, c2]
      obtain ⟨v15, hv15, h⟩ := run_bind h
      refine SappH.mk hv15 ?_
      try simp only [↓RA,RB,RS, fx35,p1,p2,p3,p4,reduceIte,p5,p6,p7,p8, c1, c2]
      obtain ⟨v17, hv17, h⟩ := run_bind h
      refine quoH.mk hv17 ?_
      try simp only [↓RA,RB,RS, fx35,p1,p2,p3,p4,reduceIte,p5,p6,p7,p8, c1, c2]
      have h := run_some h
      refine RdH.mk ⟨_, h, ?_⟩
      refine St.le_mk2 ?_
      try simp only [↓RA,RB,RS, fx35,p1,p2,p3,p4,reduceIte,p5,p6,p7,p8, c1, c2]
    · replace h := run_f c2 h
      try simp only [↓RA,RB,RS, fx35,p1,p2,p3,p4,reduceIte,p5,p6,p7,p8, c1, c2]
      have h := run_some h
      obtain ⟨v19, hv19, h⟩ := run_bind h
      refine SappH.mk hv19 ?_
      try simp only [↓RA,RB,RS, fx35,p1,p2,p3,p4,reduceIte,p5,p6,p7,p8, c1, c2]
      have h := run_some h
      obtain rfl : _ = r := h
      refine FinH.l ?_
      try simp only [↓RA,RB,RS, fx35,p1,p2,p3,p4,reduceIte,p5,p6,p7,p8, c1, c2]

def fx36 := A @TB3 <| @TB29
theorem markIntS_sat {a0 : List Int} {a1 : Int}  {r : Int × (List Int)} (h : markIntS a0 a1 = some r) : SatIO Tryz.prog 36 [(.sl true 1 (a0.map I)), (I a1)] [(.sl true 1 (r.2.map I)), (I a1)] (I r.1) := by
  replace h := Run.of h
  unfold markIntS at h
  refine SatIO.of_m (nt := 19) (rs := [.tmp 4]) (n := 100000) Tryz.func36 rfl rfl rfl rfl (by simp) ?_
  try simp only [↓RA,↓RI,RB,RJ,RS, fx36,p1,p2,p3,p4,reduceIte,p5,p6,p7,p8]
  replace h := run_loop h
  refine Mg.whileN h (fun s2 => [(0, .val (.own 10000)), (1, .val (.pv (I s2.2.1))), (5, .val (.pv (I s2.2.2)))]) (fun s2 => [(10000, (1, s2.1.map I))]) (St.le_mk2 (by try simp only [↓RA,↓RI,RB,RJ,RS, fx36,p1,p2,p3,p4,reduceIte,p5,p6,p7,p8])) (fun n2 s2 h => ?_)
  try simp only [↓RA,↓RI,RB,RJ,RS, fx36,p1,p2,p3,p4,reduceIte,p5,p6,p7,p8]
  refine CondH.mk (fun c1 => ?_) (fun c1 => ?_)
  · replace h := run_t c1 h
    try simp only [↓RA,↓RI,RB,RJ,RS, fx36,p1,p2,p3,p4,reduceIte,p5,p6,p7,p8, c1]
    obtain ⟨v15, hv15, h⟩ := run_bind h
    refine IdxH.mk (f := I) hv15 ?_ ?_ <;> try simp only [↓RA,↓RI,RB,RJ,RS, fx36,p1,p2,p3,p4,reduceIte,p5,p6,p7,p8, c1]
    obtain ⟨w2, hw2, h⟩ := run_bind h
    refine EldH.mk (f := I) hw2 rfl ?_ ?_ <;> try simp only [↓RA,↓RI,RB,RJ,RS, fx36,p1,p2,p3,p4,reduceIte,p5,p6,p7,p8, c1]
    have h := run_some h
    refine RdH.mk ⟨_, h, ?_⟩
    refine St.le_mk2 ?_
    try simp only [↓RA,↓RI,RB,RJ,RS, fx36,p1,p2,p3,p4,reduceIte,p5,p6,p7,p8, c1]
  · replace h := run_f c1 h
    try simp only [↓RA,↓RI,RB,RJ,RS, fx36,p1,p2,p3,p4,reduceIte,p5,p6,p7,p8, c1]
    have h := run_some h
    have h := run_some h
    obtain rfl : _ = r := h
    refine FinIO.mk ?_
    try simp only [↓RA,↓RI,RB,RJ,RS, fx36,p1,p2,p3,p4,reduceIte,p5,p6,p7,p8, c1]

def fx14 := A @TB3 <| A @TB9 <| A @TB29 <| A @TB34 <| @TB58
theorem markMajorantS_sat {a0 : List Majorant} {a1 : Int}  {r : Int × (List Majorant)} (h : markMajorantS a0 a1 = some r) : SatIO Tryz.prog 14 [(.sl true 3 (a0.map (Majorant.pv true))), (I a1)] [(.sl true 3 (r.2.map (Majorant.pv true))), (I a1)] (I r.1) := by
  replace h := Run.of h
  unfold markMajorantS at h
  refine SatIO.of_mi (nt := 35) (rs := [.tmp 4]) (n := 100000) Tryz.func14 rfl rfl rfl rfl (by simp) ?_
  try simp only [↓RA,↓RI,RB,RJ,RS, fx14,p1,p2,p3,p4,reduceIte,p5,p6,p7,p8]
  refine VSeq.step ?_
  try simp only [↓RA,↓RI,RB,RJ,RS, fx14,p1,p2,p3,p4,reduceIte,p5,p6,p7,p8]
  refine VSeq.nil (Nat.le_of_eq rfl) ?_
  try simp only [↓RA,↓RI,RB,RJ,RS, fx14,p1,p2,p3,p4,reduceIte,p5,p6,p7,p8]
  refine VSeq.step ?_
  try simp only [↓RA,↓RI,RB,RJ,RS, fx14,p1,p2,p3,p4,reduceIte,p5,p6,p7,p8]
  refine VSeq.nil (Nat.le_of_eq rfl) ?_
  try simp only [↓RA,↓RI,RB,RJ,RS, fx14,p1,p2,p3,p4,reduceIte,p5,p6,p7,p8]
  replace h := run_loop h
  refine MgI.whileN h (fun s2 => [(0, .val (.own 10000)), (1, .val (.pv (I s2.2.1))), (5, .val (.pv (I s2.2.2)))]) (fun s2 => [(10000, (3, s2.1.map (Majorant.pv true)))]) (St.le_mk2 (by try simp only [↓RA,↓RI,RB,RJ,RS, fx14,p1,p2,p3,p4,reduceIte,p5,p6,p7,p8])) (fun n2 s2 h => ?_)
  try simp only [↓RA,↓RI,RB,RJ,RS, fx14,p1,p2,p3,p4,reduceIte,p5,p6,p7,p8]
  refine VSeq.step ?_
  try simp only [↓RA,↓RI,RB,RJ,RS, fx14,p1,p2,p3,p4,reduceIte,p5,p6,p7,p8]
  refine VSeq.step ?_
  try simp only [↓RA,↓RI,RB,RJ,RS, fx14,p1,p2,p3,p4,reduceIte,p5,p6,p7,p8]
  refine VSeq.step ?_
  try simp only [↓RA,↓RI,RB,RJ,RS, fx14,p1,p2,p3,p4,reduceIte,p5,p6,p7,p8]
  refine VSeq.step ?_
  try simp only [↓RA,↓RI,RB,RJ,RS, fx14,p1,p2,p3,p4,reduceIte,p5,p6,p7,p8]
  refine VSeq.nil (Nat.le_of_eq rfl) ?_
  try simp only [↓RA,↓RI,RB,RJ,RS, fx14,p1,p2,p3,p4,reduceIte,p5,p6,p7,p8]
  refine CondH.mk (fun c1 => ?_) (fun c1 => ?_)
  · replace h := run_t c1 h
    try simp only [↓RA,↓RI,RB,RJ,RS, fx14,p1,p2,p3,p4,reduceIte,p5,p6,p7,p8, c1]
    refine VSeq.step ?_
    try simp only [↓RA,↓RI,RB,RJ,RS, fx14,p1,p2,p3,p4,reduceIte,p5,p6,p7,p8, c1]
    refine VSeq.step ?_
    try simp only [↓RA,↓RI,RB,RJ,RS, fx14,p1,p2,p3,p4,reduceIte,p5,p6,p7,p8, c1]
    refine VSeq.step ?_
    try simp only [↓RA,↓RI,RB,RJ,RS, fx14,p1,p2,p3,p4,reduceIte,p5,p6,p7,p8, c1]
    refine VSeq.step ?_
    try simp only [↓RA,↓RI,RB,RJ,RS, fx14,p1,p2,p3,p4,reduceIte,p5,p6,p7,p8, c1]
    obtain ⟨v15, hv15, h⟩ := run_bind h
    refine CallH.mk [false] (markText_sat hv15) ?_ ?_ <;> try simp only [↓RA,↓RI,RB,RJ,RS, fx14,p1,p2,p3,p4,reduceIte,p5,p6,p7,p8, c1]
    refine VSeq.step ?_
    try simp only [↓RA,↓RI,RB,RJ,RS, fx14,p1,p2,p3,p4,reduceIte,p5,p6,p7,p8, c1]
    obtain ⟨v16, hv16, h⟩ := run_bind h
    refine IdxH.mk (f := (Majorant.pv true)) hv16 ?_ ?_ <;> try simp only [↓RA,↓RI,RB,RJ,RS, fx14,p1,p2,p3,p4,reduceIte,p5,p6,p7,p8, c1]
    refine VSeq.step ?_
    try simp only [↓RA,↓RI,RB,RJ,RS, fx14,p1,p2,p3,p4,reduceIte,p5,p6,p7,p8, c1]
    refine VSeq.step ?_
    try simp only [↓RA,↓RI,RB,RJ,RS, fx14,p1,p2,p3,p4,reduceIte,p5,p6,p7,p8, c1]
    obtain ⟨w2, hw2, h⟩ := run_bind h
    refine EldH.mk (f := (Majorant.pv true)) hw2 rfl ?_ ?_ <;> try simp only [↓RA,↓RI,RB,RJ,RS, fx14,p1,p2,p3,p4,reduceIte,p5,p6,p7,p8, c1]
    refine VSeq.nil (Nat.le_of_eq rfl) ?_
    try simp only [↓RA,↓RI,RB,RJ,RS, fx14,p1,p2,p3,p4,reduceIte,p5,p6,p7,p8, c1]
    refine VSeq.step ?_
    try simp only [↓RA,↓RI,RB,RJ,RS, fx14,p1,p2,p3,p4,reduceIte,p5,p6,p7,p8, c1]
    refine VSeq.step ?_
    try simp only [↓RA,↓RI,RB,RJ,RS, fx14,p1,p2,p3,p4,reduceIte,p5,p6,p7,p8, c1]
    refine VSeq.step ?_
    try simp only [↓RA,↓RI,RB,RJ,RS, fx14,p1,p2,p3,p4,reduceIte,p5,p6,p7,p8, c1]
    refine VSeq.nil (Nat.le_of_eq rfl) ?_
    try simp only [↓RA,↓RI,RB,RJ,RS, fx14,p1,p2,p3,p4,reduceIte,p5,p6,p7,p8, c1]
    refine VSeq.step ?_
    try simp only [↓RA,↓RI,RB,RJ,RS, fx14,p1,p2,p3,p4,reduceIte,p5,p6,p7,p8, c1]
    refine VSeq.step ?_
    try simp only [↓RA,↓RI,RB,RJ,RS, fx14,p1,p2,p3,p4,reduceIte,p5,p6,p7,p8, c1]
    refine VSeq.step ?_
    try simp only [↓RA,↓RI,RB,RJ,RS, fx14,p1,p2,p3,p4,reduceIte,p5,p6,p7,p8, c1]
    obtain ⟨v22, hv22, h⟩ := run_bind h
    refine IdxH.mk (f := (Majorant.pv true)) hv22 ?_ ?_ <;> try simp only [↓RA,↓RI,RB,RJ,RS, fx14,p1,p2,p3,p4,reduceIte,p5,p6,p7,p8, c1]
    refine VSeq.step ?_
    try simp only [↓RA,↓RI,RB,RJ,RS, fx14,p1,p2,p3,p4,reduceIte,p5,p6,p7,p8, c1]
    obtain ⟨w3, hw3, h⟩ := run_bind h
    obtain ⟨v26, hv26, h⟩ := run_bind h
    refine VSeq.innerM (fx := (Majorant.pv true)) (c := 10000) (sz := 3) (p := [1]) (off := 1) (h1 := rfl) (h3 := rfl) (h2 := rfl) rfl rfl rfl rfl rfl rfl rfl rfl rfl hw3 (markIntS_sat hv26) (by try simp only [↓RA,↓RI,RB,RJ,RS, fx14,p1,p2,p3,p4,reduceIte,p5,p6,p7,p8, c1]) (by try simp only [↓RA,↓RI,RB,RJ,RS, fx14,p1,p2,p3,p4,reduceIte,p5,p6,p7,p8, c1]) ?_
    try simp only [↓RA,↓RI,RB,RJ,RS, fx14,p1,p2,p3,p4,reduceIte,p5,p6,p7,p8, c1]
    refine VSeq.step ?_
    try simp only [↓RA,↓RI,RB,RJ,RS, fx14,p1,p2,p3,p4,reduceIte,p5,p6,p7,p8, c1]
    refine VSeq.nil (Nat.le_of_eq rfl) ?_
    try simp only [↓RA,↓RI,RB,RJ,RS, fx14,p1,p2,p3,p4,reduceIte,p5,p6,p7,p8, c1]
    refine VSeq.step ?_
    try simp only [↓RA,↓RI,RB,RJ,RS, fx14,p1,p2,p3,p4,reduceIte,p5,p6,p7,p8, c1]
    refine VSeq.step ?_
    try simp only [↓RA,↓RI,RB,RJ,RS, fx14,p1,p2,p3,p4,reduceIte,p5,p6,p7,p8, c1]
    refine VSeq.step ?_
    try simp only [↓RA,↓RI,RB,RJ,RS, fx14,p1,p2,p3,p4,reduceIte,p5,p6,p7,p8, c1]
    refine VSeq.step ?_
    try simp only [↓RA,↓RI,RB,RJ,RS, fx14,p1,p2,p3,p4,reduceIte,p5,p6,p7,p8, c1]
    obtain ⟨v30, hv30, h⟩ := run_bind h
    refine IdxH.mk (f := (Majorant.pv true)) hv30 ?_ ?_ <;> try simp only [↓RA,↓RI,RB,RJ,RS, fx14,p1,p2,p3,p4,reduceIte,p5,p6,p7,p8, c1]
    refine VSeq.step ?_
    try simp only [↓RA,↓RI,RB,RJ,RS, fx14,p1,p2,p3,p4,reduceIte,p5,p6,p7,p8, c1]
    refine VSeq.step ?_
    try simp only [↓RA,↓RI,RB,RJ,RS, fx14,p1,p2,p3,p4,reduceIte,p5,p6,p7,p8, c1]
    obtain ⟨w4, hw4, h⟩ := run_bind h
    refine EldH.mk (f := (Majorant.pv true)) hw4 rfl ?_ ?_ <;> try simp only [↓RA,↓RI,RB,RJ,RS, fx14,p1,p2,p3,p4,reduceIte,p5,p6,p7,p8, c1]
    refine VSeq.nil (Nat.le_of_eq rfl) ?_
    try simp only [↓RA,↓RI,RB,RJ,RS, fx14,p1,p2,p3,p4,reduceIte,p5,p6,p7,p8, c1]
    refine VSeq.step ?_
    try simp only [↓RA,↓RI,RB,RJ,RS, fx14,p1,p2,p3,p4,reduceIte,p5,p6,p7,p8, c1]
    refine VSeq.step ?_
    try simp only [↓RA,↓RI,RB,RJ,RS, fx14,p1,p2,p3,p4,reduceIte,p5,p6,p7,p8, c1]
    refine VSeq.step ?_
    try simp only [↓RA,↓RI,RB,RJ,RS, fx14,p1,p2,p3,p4,reduceIte,p5,p6,p7,p8, c1]
    refine VSeq.nil (Nat.le_of_eq rfl) ?_
    try simp only [↓RA,↓RI,RB,RJ,RS, fx14,p1,p2,p3,p4,reduceIte,p5,p6,p7,p8, c1]
    refine VSeq.step ?_
    try simp only [↓RA,↓RI,RB,RJ,RS, fx14,p1,p2,p3,p4,reduceIte,p5,p6,p7,p8, c1]
    refine VSeq.step ?_
    try simp only [↓RA,↓RI,RB,RJ,RS, fx14,p1,p2,p3,p4,reduceIte,p5,p6,p7,p8, c1]
    refine VSeq.step ?_
    try simp only [↓RA,↓RI,RB,RJ,RS, fx14,p1,p2,p3,p4,reduceIte,p5,p6,p7,p8, c1]
    refine VSeq.nil (Nat.le_of_eq rfl) ?_
    try simp only [↓RA,↓RI,RB,RJ,RS, fx14,p1,p2,p3,p4,reduceIte,p5,p6,p7,p8, c1]
    have h := run_some h
    refine RdH.mk ⟨_, h, ?_⟩
    refine St.le_mk2 ?_
    try simp only [↓RA,↓RI,RB,RJ,RS, fx14,p1,p2,p3,p4,reduceIte,p5,p6,p7,p8, c1]
  · replace h := run_f c1 h
    try simp only [↓RA,↓RI,RB,RJ,RS, fx14,p1,p2,p3,p4,reduceIte,p5,p6,p7,p8, c1]
    have h := run_some h
    refine VSeq.step ?_
    try simp only [↓RA,↓RI,RB,RJ,RS, fx14,p1,p2,p3,p4,reduceIte,p5,p6,p7,p8, c1]
    refine VSeq.step ?_
    try simp only [↓RA,↓RI,RB,RJ,RS, fx14,p1,p2,p3,p4,reduceIte,p5,p6,p7,p8, c1]
    refine VSeq.nil (Nat.le_of_eq rfl) ?_
    try simp only [↓RA,↓RI,RB,RJ,RS, fx14,p1,p2,p3,p4,reduceIte,p5,p6,p7,p8, c1]
    have h := run_some h
    obtain rfl : _ = r := h
    refine FinIO.mk ?_
    try simp only [↓RA,↓RI,RB,RJ,RS, fx14,p1,p2,p3,p4,reduceIte,p5,p6,p7,p8, c1]

def fx23 := A @TB3 <| A @TB9 <| A @TB36 <| @TB38
theorem markTermSN_sat (n : Nat) : (∀ (a0 : List Term) (a1 : Int) (r : Int × (List Term)), markTermSN n a0 a1 = some r → SatIO Tryz.prog 23 [(.sl true 2 (a0.map (Term.pv true))), (I a1)] [(.sl true 2 (r.2.map (Term.pv true))), (I a1)] (I r.1)) := by
  induction n with
  | zero => exact fun _ _ _ h => by simp [markTermSN] at h
  | succ n ih =>
    refine fun a0 a1 r h => ?_
    replace h := Run.of h
    rw [markTermSN] at h
    refine SatIO.of_mi (nt := 28) (rs := [.tmp 4]) (n := 100000) Tryz.func23 rfl rfl rfl rfl (by simp) ?_
    try simp only [↓RA,↓RI,RB,RJ,RS, fx23,p1,p2,p3,p4,reduceIte,p5,p6,p7,p8]
    refine VSeq.step ?_
    try simp only [↓RA,↓RI,RB,RJ,RS, fx23,p1,p2,p3,p4,reduceIte,p5,p6,p7,p8]
    refine VSeq.nil (Nat.le_of_eq rfl) ?_
    try simp only [↓RA,↓RI,RB,RJ,RS, fx23,p1,p2,p3,p4,reduceIte,p5,p6,p7,p8]
    refine VSeq.step ?_
    try simp only [↓RA,↓RI,RB,RJ,RS, fx23,p1,p2,p3,p4,reduceIte,p5,p6,p7,p8]
    refine VSeq.nil (Nat.le_of_eq rfl) ?_
    try simp only [↓RA,↓RI,RB,RJ,RS, fx23,p1,p2,p3,p4,reduceIte,p5,p6,p7,p8]
    replace h := run_loop h
    refine MgI.whileN h (fun s2 => [(0, .val (.own 10000)), (1, .val (.pv (I s2.2.1))), (5, .val (.pv (I s2.2.2)))]) (fun s2 => [(10000, (2, s2.1.map (Term.pv true)))]) (St.le_mk2 (by try simp only [↓RA,↓RI,RB,RJ,RS, fx23,p1,p2,p3,p4,reduceIte,p5,p6,p7,p8])) (fun n2 s2 h => ?_)
    try simp only [↓RA,↓RI,RB,RJ,RS, fx23,p1,p2,p3,p4,reduceIte,p5,p6,p7,p8]
    refine VSeq.step ?_
    try simp only [↓RA,↓RI,RB,RJ,RS, fx23,p1,p2,p3,p4,reduceIte,p5,p6,p7,p8]
    refine VSeq.step ?_
    try simp only [↓RA,↓RI,RB,RJ,RS, fx23,p1,p2,p3,p4,reduceIte,p5,p6,p7,p8]
    refine VSeq.step ?_
    try simp only [↓RA,↓RI,RB,RJ,RS, fx23,p1,p2,p3,p4,reduceIte,p5,p6,p7,p8]
    refine VSeq.step ?_
    try simp only [↓RA,↓RI,RB,RJ,RS, fx23,p1,p2,p3,p4,reduceIte,p5,p6,p7,p8]
    refine VSeq.nil (Nat.le_of_eq rfl) ?_
    try simp only [↓RA,↓RI,RB,RJ,RS, fx23,p1,p2,p3,p4,reduceIte,p5,p6,p7,p8]
    refine CondH.mk (fun c1 => ?_) (fun c1 => ?_)
    · replace h := run_t c1 h
      try simp only [↓RA,↓RI,RB,RJ,RS, fx23,p1,p2,p3,p4,reduceIte,p5,p6,p7,p8, c1]
      refine VSeq.step ?_
      try simp only [↓RA,↓RI,RB,RJ,RS, fx23,p1,p2,p3,p4,reduceIte,p5,p6,p7,p8, c1]
      refine VSeq.step ?_
      try simp only [↓RA,↓RI,RB,RJ,RS, fx23,p1,p2,p3,p4,reduceIte,p5,p6,p7,p8, c1]
      refine VSeq.step ?_
      try simp only [↓RA,↓RI,RB,RJ,RS, fx23,p1,p2,p3,p4,reduceIte,p5,p6,p7,p8, c1]
      refine VSeq.step ?_
      try simp only [↓RA,↓RI,RB,RJ,RS, fx23,p1,p2,p3,p4,reduceIte,p5,p6,p7,p8, c1]
      obtain ⟨v15, hv15, h⟩ := run_bind h
      refine CallH.mk [false] (markText_sat hv15) ?_ ?_ <;> try simp only [↓RA,↓RI,RB,RJ,RS, fx23,p1,p2,p3,p4,reduceIte,p5,p6,p7,p8, c1]
      refine VSeq.step ?_
      try simp only [↓RA,↓RI,RB,RJ,RS, fx23,p1,p2,p3,p4,reduceIte,p5,p6,p7,p8, c1]
      obtain ⟨v16, hv16, h⟩ := run_bind h
      refine IdxH.mk (f := (Term.pv true)) hv16 ?_ ?_ <;> try simp only [↓RA,↓RI,RB,RJ,RS, fx23,p1,p2,p3,p4,reduceIte,p5,p6,p7,p8, c1]
      refine VSeq.step ?_
      try simp only [↓RA,↓RI,RB,RJ,RS, fx23,p1,p2,p3,p4,reduceIte,p5,p6,p7,p8, c1]
      refine VSeq.step ?_
      try simp only [↓RA,↓RI,RB,RJ,RS, fx23,p1,p2,p3,p4,reduceIte,p5,p6,p7,p8, c1]
      obtain ⟨w2, hw2, h⟩ := run_bind h
      refine EldH.mk (f := (Term.pv true)) hw2 rfl ?_ ?_ <;> try simp only [↓RA,↓RI,RB,RJ,RS, fx23,p1,p2,p3,p4,reduceIte,p5,p6,p7,p8, c1]
      refine VSeq.nil (Nat.le_of_eq rfl) ?_
      try simp only [↓RA,↓RI,RB,RJ,RS, fx23,p1,p2,p3,p4,reduceIte,p5,p6,p7,p8, c1]
      refine VSeq.step ?_
      try simp only [↓RA,↓RI,RB,RJ,RS, fx23,p1,p2,p3,p4,reduceIte,p5,p6,p7,p8, c1]
      refine VSeq.step ?_
      try simp only [↓RA,↓RI,RB,RJ,RS, fx23,p1,p2,p3,p4,reduceIte,p5,p6,p7,p8, c1]
      refine VSeq.step ?_
      try simp only [↓RA,↓RI,RB,RJ,RS, fx23,p1,p2,p3,p4,reduceIte,p5,p6,p7,p8, c1]
      refine VSeq.nil (Nat.le_of_eq rfl) ?_
      try simp only [↓RA,↓RI,RB,RJ,RS, fx23,p1,p2,p3,p4,reduceIte,p5,p6,p7,p8, c1]
      refine VSeq.step ?_
      try simp only [↓RA,↓RI,RB,RJ,RS, fx23,p1,p2,p3,p4,reduceIte,p5,p6,p7,p8, c1]
      refine VSeq.step ?_
      try simp only [↓RA,↓RI,RB,RJ,RS, fx23,p1,p2,p3,p4,reduceIte,p5,p6,p7,p8, c1]
      refine VSeq.step ?_
      try simp only [↓RA,↓RI,RB,RJ,RS, fx23,p1,p2,p3,p4,reduceIte,p5,p6,p7,p8, c1]
      obtain ⟨v22, hv22, h⟩ := run_bind h
      refine IdxH.mk (f := (Term.pv true)) hv22 ?_ ?_ <;> try simp only [↓RA,↓RI,RB,RJ,RS, fx23,p1,p2,p3,p4,reduceIte,p5,p6,p7,p8, c1]
      refine VSeq.step ?_
      try simp only [↓RA,↓RI,RB,RJ,RS, fx23,p1,p2,p3,p4,reduceIte,p5,p6,p7,p8, c1]
      obtain ⟨w3, hw3, h⟩ := run_bind h
      obtain ⟨v26, hv26, h⟩ := run_bind h
      refine VSeq.innerM (fx := (Term.pv true)) (c := 10000) (sz := 2) (p := [1]) (off := 1) (h1 := rfl) (h3 := rfl) (h2 := rfl) rfl rfl rfl rfl rfl rfl rfl rfl rfl hw3 (ih _ _ _ hv26) (by try simp only [↓RA,↓RI,RB,RJ,RS, fx23,p1,p2,p3,p4,reduceIte,p5,p6,p7,p8, c1]) (by try simp only [↓RA,↓RI,RB,RJ,RS, fx23,p1,p2,p3,p4,reduceIte,p5,p6,p7,p8, c1]) ?_
      try simp only [↓RA,↓RI,RB,RJ,RS, fx23,p1,p2,p3,p4,reduceIte,p5,p6,p7,p8, c1]
      refine VSeq.step ?_
      try simp only [↓RA,↓RI,RB,RJ,RS, fx23,p1,p2,p3,p4,reduceIte,p5,p6,p7,p8, c1]
      refine VSeq.nil (Nat.le_of_eq rfl) ?_
      try simp only [↓RA,↓RI,RB,RJ,RS, fx23,p1,p2,p3,p4,reduceIte,p5,p6,p7,p8, c1]
      refine VSeq.step ?_
      try simp only [↓RA,↓RI,RB,RJ,RS, fx23,p1,p2,p3,p4,reduceIte,p5,p6,p7,p8, c1]
      refine VSeq.step ?_
      try simp only [↓RA,↓RI,RB,RJ,RS, fx23,p1,p2,p3,p4,reduceIte,p5,p6,p7,p8, c1]
      refine VSeq.step ?_
      try simp only [↓RA,↓RI,RB,RJ,RS, fx23,p1,p2,p3,p4,reduceIte,p5,p6,p7,p8, c1]
      refine VSeq.nil (Nat.le_of_eq rfl) ?_
      try simp only [↓RA,↓RI,RB,RJ,RS, fx23,p1,p2,p3,p4,reduceIte,p5,p6,p7,p8, c1]
      have h := run_some h
      refine RdH.mk ⟨_, h, ?_⟩
      refine St.le_mk2 ?_
      try simp only [↓RA,↓RI,RB,RJ,RS, fx23,p1,p2,p3,p4,reduceIte,p5,p6,p7,p8, c1]
    · replace h := run_f c1 h
      try simp only [↓RA,↓RI,RB,RJ,RS, fx23,p1,p2,p3,p4,reduceIte,p5,p6,p7,p8, c1]
      have h := run_some h
      refine VSeq.step ?_
      try simp only [↓RA,↓RI,RB,RJ,RS, fx23,p1,p2,p3,p4,reduceIte,p5,p6,p7,p8, c1]
      refine VSeq.step ?_
      try simp only [↓RA,↓RI,RB,RJ,RS, fx23,p1,p2,p3,p4,reduceIte,p5,p6,p7,p8, c1]
      refine VSeq.nil (Nat.le_of_eq rfl) ?_
      try simp only [↓RA,↓RI,RB,RJ,RS, fx23,p1,p2,p3,p4,reduceIte,p5,p6,p7,p8, c1]
      have h := run_some h
      obtain rfl : _ = r := h
      refine FinIO.mk ?_
      try simp only [↓RA,↓RI,RB,RJ,RS, fx23,p1,p2,p3,p4,reduceIte,p5,p6,p7,p8, c1]
theorem markTermS_sat {a0 : List Term} {a1 : Int} {r : Int × (List Term)} (h : markTermS a0 a1 = some r) : SatIO Tryz.prog 23 [(.sl true 2 (a0.map (Term.pv true))), (I a1)] [(.sl true 2 (r.2.map (Term.pv true))), (I a1)] (I r.1) := by
  obtain ⟨n, hn⟩ := lim_some h
  exact (markTermSN_sat n) _ _ _ hn

def fx37 := A @TB3 <| A @TB9 <| @TB28
theorem markStringS_sat {a0 : List ByteArray} {a1 : Int}  {r : Int × (List ByteArray)} (h : markStringS a0 a1 = some r) : SatIO Tryz.prog 37 [(.sl true 1 (a0.map Sx)), (I a1)] [(.sl true 1 (r.2.map Sx)), (I a1)] (I r.1) := by
  replace h := Run.of h
  unfold markStringS at h
  refine SatIO.of_m (nt := 20) (rs := [.tmp 4]) (n := 100000) Tryz.func37 rfl rfl rfl rfl (by simp) ?_
  try simp only [↓RA,↓RI,RB,RJ,RS, fx37,p1,p2,p3,p4,reduceIte,p5,p6,p7,p8]
  replace h := run_loop h
  refine Mg.whileN h (fun s2 => [(0, .val (.own 10000)), (1, .val (.pv (I s2.2.1))), (5, .val (.pv (I s2.2.2)))]) (fun s2 => [(10000, (1, s2.1.map Sx))]) (St.le_mk2 (by try simp only [↓RA,↓RI,RB,RJ,RS, fx37,p1,p2,p3,p4,reduceIte,p5,p6,p7,p8])) (fun n2 s2 h => ?_)
  try simp only [↓RA,↓RI,RB,RJ,RS, fx37,p1,p2,p3,p4,reduceIte,p5,p6,p7,p8]
  refine CondH.mk (fun c1 => ?_) (fun c1 => ?_)
  · replace h := run_t c1 h
    try simp only [↓RA,↓RI,RB,RJ,RS, fx37,p1,p2,p3,p4,reduceIte,p5,p6,p7,p8, c1]
    obtain ⟨v15, hv15, h⟩ := run_bind h
    refine CallH.mk [false] (markText_sat hv15) ?_ ?_ <;> try simp only [↓RA,↓RI,RB,RJ,RS, fx37,p1,p2,p3,p4,reduceIte,p5,p6,p7,p8, c1]
    obtain ⟨v16, hv16, h⟩ := run_bind h
    refine IdxH.mk (f := Sx) hv16 ?_ ?_ <;> try simp only [↓RA,↓RI,RB,RJ,RS, fx37,p1,p2,p3,p4,reduceIte,p5,p6,p7,p8, c1]
    obtain ⟨w2, hw2, h⟩ := run_bind h
    refine EldH.mk (f := Sx) hw2 rfl ?_ ?_ <;> try simp only [↓RA,↓RI,RB,RJ,RS, fx37,p1,p2,p3,p4,reduceIte,p5,p6,p7,p8, c1]
    have h := run_some h
    refine RdH.mk ⟨_, h, ?_⟩
    refine St.le_mk2 ?_
    try simp only [↓RA,↓RI,RB,RJ,RS, fx37,p1,p2,p3,p4,reduceIte,p5,p6,p7,p8, c1]
  · replace h := run_f c1 h
    try simp only [↓RA,↓RI,RB,RJ,RS, fx37,p1,p2,p3,p4,reduceIte,p5,p6,p7,p8, c1]
    have h := run_some h
    have h := run_some h
    obtain rfl : _ = r := h
    refine FinIO.mk ?_
    try simp only [↓RA,↓RI,RB,RJ,RS, fx37,p1,p2,p3,p4,reduceIte,p5,p6,p7,p8, c1]

def fx16 := A @TB3 <| A @TB28 <| A @TB29 <| @TB31
theorem markLinear_sat {a0 : Linear} {a1 : Int}  {r : Int × (List ByteArray) × (List Int)} (h : markLinear a0 a1 = some r) : SatIO Tryz.prog 16 [((Linear.pv true) a0), (I a1)] [((Linear.pv true) (Linear.mk r.2.1 r.2.2 a0.Constant)), (I a1)] (I r.1) := by
  replace h := Run.of h
  unfold markLinear at h
  refine SatIO.of_m (nt := 14) (rs := [.tmp 4]) (n := 100000) Tryz.func16 rfl rfl rfl rfl (by simp) ?_
  try simp only [↓RA,↓RI,RB,RJ,RS, fx16,p1,p2,p3,p4,reduceIte,p5,p6,p7,p8]
  repeat (first | with_reducible refine noR_and (by repeat (first | exact noR_empty _ _ | exact noR_nilS _ _ | refine noR_mk _ _ _ _ _ rfl ?_ | refine noR_mkS _ _ _ _ _ rfl ?_)) ?_ | with_reducible refine noC_and (by repeat (first | exact noC_empty _ _ (by try simp only [↓RA,↓RI,RB,RJ,RS, fx16,p1,p2,p3,p4,reduceIte,p5,p6,p7,p8]) | exact noC_nilS _ _ (by try simp only [↓RA,↓RI,RB,RJ,RS, fx16,p1,p2,p3,p4,reduceIte,p5,p6,p7,p8]) | refine noC_mk _ _ _ _ _ rfl ?_ | refine noC_mkS _ _ _ _ _ rfl ?_)) ?_ | with_reducible refine and_ac ?_ | with_reducible refine And.intro (a := _ = List.range _) (by rfl) ?_)
  obtain ⟨v8, hv8, h⟩ := run_bind h
  refine CallH.io [(.own 10000), (.pv (I a1))] [(10000, (1, v8.2.map Sx))] (markStringS_sat hv8) ?_ ?_ <;> try simp only [↓RA,↓RI,RB,RJ,RS, fx16,p1,p2,p3,p4,reduceIte,p5,p6,p7,p8]
  obtain ⟨v12, hv12, h⟩ := run_bind h
  refine CallH.io [(.own 10001), (.pv (I v8.1))] [(10001, (1, v12.2.map I))] (markIntS_sat hv12) ?_ ?_ <;> try simp only [↓RA,↓RI,RB,RJ,RS, fx16,p1,p2,p3,p4,reduceIte,p5,p6,p7,p8]
  have h := run_some h
  obtain rfl : _ = r := h
  refine FinIO.mk ?_
  try simp only [↓RA,↓RI,RB,RJ,RS, fx16,p1,p2,p3,p4,reduceIte,p5,p6,p7,p8]

def fx38 := A @TB3 <| A @TB9 <| A @TB28 <| @mixedT
theorem heldStringS_sat {a0 : List ByteArray} {a1 : Int}  {r : Int} (h : heldStringS a0 a1 = some r) : Sat Tryz.prog 38 [(.sl false 1 (a0.map Sx)), (I a1)] (I r) := by
  replace h := Run.of h
  unfold heldStringS at h
  refine Sat.of_m (nt := 22) (rs := [.tmp 4]) (n := 100000) Tryz.func38 rfl rfl rfl rfl (by simp) ?_
  try simp only [↓RA,RB,RS, fx38,p1,p2,p3,p4,reduceIte,p5,p6,p7,p8]
  refine Mg.know_sl (b := false) (sz := 1) (es := a0.map Sx) 0 (by try simp only [↓RA,RB,RS, fx38,p1,p2,p3,p4,reduceIte,p5,p6,p7,p8]) fun hl0 => ?_; rw [List.length_map] at hl0
  replace h := run_loop h
  refine Mg.forN h (fun i2 s2 => [(0, .val (.pv (.sl false 1 (a0.map Sx)))), (1, .val (.pv (I s2))), (5, .val (.pv (I (i2 : Int))))]) (fun i2 s2 => []) (St.le_mk2 (by try simp only [↓RA,RB,RS, fx38,p1,p2,p3,p4,reduceIte,p5,p6,p7,p8])) (fun i2 s2 hi h => ?_) (fun s2 h => ?_)
  · have w2 := wrap_succ (i := i2) (by omega)
    try simp only [↓RA,RB,RS, fx38,p1,p2,p3,p4,reduceIte,p5,p6,p7,p8]
    refine CondH.tt (decide_eq_true (by omega)) (fun c1 => ?_)
    try simp only [↓RA,RB,RS, fx38,p1,p2,p3,p4,reduceIte,p5,p6,p7,p8, c1]
    obtain ⟨v14, hv14, h⟩ := run_bind h
    refine IdxH.mk (f := Sx) hv14 ?_ ?_ <;> try simp only [↓RA,RB,RS, fx38,p1,p2,p3,p4,reduceIte,p5,p6,p7,p8, c1]
    obtain ⟨v17, hv17, h⟩ := run_bind h
    refine CallH.mk [false] (markText_sat hv17) ?_ ?_ <;> try simp only [↓RA,RB,RS, fx38,p1,p2,p3,p4,reduceIte,p5,p6,p7,p8, c1]
    refine And.intro (DrawH.none (by rfl) (by first | rfl | (try simp only [↓RA,RB,RS, fx38,p1,p2,p3,p4,reduceIte,p5,p6,p7,p8] <;> rfl)) (by first | rfl | (try simp only [↓RA,RB,RS, fx38,p1,p2,p3,p4,reduceIte,p5,p6,p7,p8] <;> rfl)) (by first | rfl | (try simp only [↓RA,RB,RS, fx38,p1,p2,p3,p4,reduceIte,p5,p6,p7,p8] <;> rfl))) ?_
    try simp only [↓RA,RB,RS, fx38,p1,p2,p3,p4,reduceIte,p5,p6,p7,p8, c1]
    refine CondH.mk (fun c2 => ?_) (fun c2 => ?_)
    · replace h := run_t c2 h
      try simp only [↓RA,RB,RS, fx38,p1,p2,p3,p4,reduceIte,p5,p6,p7,p8, c1, c2]
      have h := run_some h
      refine RdH.mk ⟨_, h, ?_⟩
      refine St.le_mk2 ?_
      try simp only [↓RA,RB,RS, fx38,p1,p2,p3,p4,reduceIte,p5,p6,p7,p8, c1, c2, w2]
    · replace h := run_f c2 h
      try simp only [↓RA,RB,RS, fx38,p1,p2,p3,p4,reduceIte,p5,p6,p7,p8, c1, c2]
      have h := run_some h
      obtain rfl : _ = r := h
      refine FinH.l ?_
      try simp only [↓RA,RB,RS, fx38,p1,p2,p3,p4,reduceIte,p5,p6,p7,p8, c1, c2]
  · try simp only [↓RA,RB,RS, fx38,p1,p2,p3,p4,reduceIte,p5,p6,p7,p8]
    refine CondH.ff (decide_eq_false (by omega)) (fun c3 => ?_)
    try simp only [↓RA,RB,RS, fx38,p1,p2,p3,p4,reduceIte,p5,p6,p7,p8, c3]
    have h := run_some h
    obtain rfl : _ = r := h
    refine FinH.l ?_
    try simp only [↓RA,RB,RS, fx38,p1,p2,p3,p4,reduceIte,p5,p6,p7,p8, c3]

def fx39 := A @TB3 <| @TB29
theorem heldIntS_sat {a0 : List Int} {a1 : Int}  {r : Int} (h : heldIntS a0 a1 = some r) : Sat Tryz.prog 39 [(.sl false 1 (a0.map I)), (I a1)] (I r) := by
  replace h := Run.of h
  unfold heldIntS at h
  refine Sat.of_m (nt := 21) (rs := [.tmp 4]) (n := 100000) Tryz.func39 rfl rfl rfl rfl (by simp) ?_
  try simp only [↓RA,RB,RS, fx39,p1,p2,p3,p4,reduceIte,p5,p6,p7,p8]
  refine Mg.know_sl (b := false) (sz := 1) (es := a0.map I) 0 (by try simp only [↓RA,RB,RS, fx39,p1,p2,p3,p4,reduceIte,p5,p6,p7,p8]) fun hl0 => ?_; rw [List.length_map] at hl0
  replace h := run_loop h
  refine Mg.forN h (fun i2 s2 => [(0, .val (.pv (.sl false 1 (a0.map I)))), (1, .val (.pv (I s2))), (5, .val (.pv (I (i2 : Int))))]) (fun i2 s2 => []) (St.le_mk2 (by try simp only [↓RA,RB,RS, fx39,p1,p2,p3,p4,reduceIte,p5,p6,p7,p8])) (fun i2 s2 hi h => ?_) (fun s2 h => ?_)
  · have w2 := wrap_succ (i := i2) (by omega)
    try simp only [↓RA,RB,RS, fx39,p1,p2,p3,p4,reduceIte,p5,p6,p7,p8]
    refine CondH.tt (decide_eq_true (by omega)) (fun c1 => ?_)
    try simp only [↓RA,RB,RS, fx39,p1,p2,p3,p4,reduceIte,p5,p6,p7,p8, c1]
    obtain ⟨v14, hv14, h⟩ := run_bind h
    refine IdxH.mk (f := I) hv14 ?_ ?_ <;> try simp only [↓RA,RB,RS, fx39,p1,p2,p3,p4,reduceIte,p5,p6,p7,p8, c1]
    refine CondH.mk (fun c2 => ?_) (fun c2 => ?_)
    · replace h := run_t c2 h
      try simp only [↓RA,RB,RS, fx39,p1,p2,p3,p4,reduceIte,p5,p6,p7,p8, c1, c2]
      have h := run_some h
      refine RdH.mk ⟨_, h, ?_⟩
      refine St.le_mk2 ?_
      try simp only [↓RA,RB,RS, fx39,p1,p2,p3,p4,reduceIte,p5,p6,p7,p8, c1, c2, w2]
    · replace h := run_f c2 h
      try simp only [↓RA,RB,RS, fx39,p1,p2,p3,p4,reduceIte,p5,p6,p7,p8, c1, c2]
      have h := run_some h
      obtain rfl : _ = r := h
      refine FinH.l ?_
      try simp only [↓RA,RB,RS, fx39,p1,p2,p3,p4,reduceIte,p5,p6,p7,p8, c1, c2]
  · try simp only [↓RA,RB,RS, fx39,p1,p2,p3,p4,reduceIte,p5,p6,p7,p8]
    refine CondH.ff (decide_eq_false (by omega)) (fun c3 => ?_)
    try simp only [↓RA,RB,RS, fx39,p1,p2,p3,p4,reduceIte,p5,p6,p7,p8, c3]
    have h := run_some h
    obtain rfl : _ = r := h
    refine FinH.l ?_
    try simp only [↓RA,RB,RS, fx39,p1,p2,p3,p4,reduceIte,p5,p6,p7,p8, c3]

end Go.Proofs.YtgbddapcjhgllaaGreat
