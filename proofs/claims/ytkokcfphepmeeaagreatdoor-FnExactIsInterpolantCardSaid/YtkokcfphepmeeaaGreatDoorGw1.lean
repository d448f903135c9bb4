/- A part of the proof: lemmas only; nothing is claimed here beyond what each lemma says. -/
import Derived.Test.YtkokcfphepmeeaaGreatDoorGw0
set_option linter.unusedSimpArgs false
set_option linter.unusedVariables false
set_option linter.defProp false
set_option maxRecDepth 4000
namespace Go.Proofs.YtkokcfphepmeeaaGreatDoor
open Go.Av
set_option maxHeartbeats 4000000
open And renaming intro → A
open Nat renaming reduceLT → p1, reduceAdd → p2, reduceMul → p3, reduceEqDiff → p4, reduceBEq → p5, reduceLeDiff → p6, reduceSub → p7
open Int renaming reduceToNat → p8
def fx44 := A @TB3 <| A @TB28 <| A @TB66 <| A @uk_3 <| @uk_66
theorem spec_l20Total_sat {a0 : Int} {a1 : Int}  {r : List Int} (h : spec_l20Total a0 a1 = some r) : Sat Tryz.prog 44 [(I a0), (I a1)] (.sl true 1 (r.map I)) := by
  replace h := Run.of h
  unfold spec_l20Total at h
  refine Sat.of_m (nt := 30) (rs := [.tmp 4]) (n := 100000) Tryz.func44 rfl rfl rfl rfl (by simp) ?_
  try simp only [↓RA,RB,RS, fx44,p1,p2,p3,p4,reduceIte,p5,p6,p7,p8]
  repeat (first | with_reducible refine noR_and (by repeat (first | exact noR_empty _ _ | exact noR_nilS _ _ | refine noR_mk _ _ _ _ _ rfl ?_ | refine noR_mkS _ _ _ _ _ rfl ?_)) ?_ | with_reducible refine noC_and (by repeat (first | exact noC_empty _ _ (by try simp only [↓RA,RB,RS, fx44,p1,p2,p3,p4,reduceIte,p5,p6,p7,p8]) | exact noC_nilS _ _ (by try simp only [↓RA,RB,RS, fx44,p1,p2,p3,p4,reduceIte,p5,p6,p7,p8]) | refine noC_mk _ _ _ _ _ rfl ?_ | refine noC_mkS _ _ _ _ _ rfl ?_)) ?_ | with_reducible refine and_ac ?_ | with_reducible refine And.intro (a := _ = List.range _) (by rfl) ?_)
  replace h := run_loop h
  refine Mg.whileN h (fun s3 => [(0, .val (.pv (I a0))), (1, .val (.pv (I a1))), (5, .val (.own 112)), (6, .val (.pv (I s3.2)))]) (fun s3 => [(112, (1, s3.1.map I))]) (St.le_mk2 (by try simp only [↓RA,RB,RS, fx44,p1,p2,p3,p4,reduceIte,p5,p6,p7,p8])) (fun n3 s3 h => ?_)
  try simp only [↓RA,RB,RS, fx44,p1,p2,p3,p4,reduceIte,p5,p6,p7,p8]
  refine CondH.mk (fun c1 => ?_) (fun c1 => ?_)
  · replace h := run_t c1 h
    try simp only [↓RA,RB,RS, fx44,p1,p2,p3,p4,reduceIte,p5,p6,p7,p8, c1]
    obtain ⟨v17, hv17, h⟩ := run_bind h
    refine ShrH.mk hv17 ?_
    try simp only [↓RA,RB,RS, fx44,p1,p2,p3,p4,reduceIte,p5,p6,p7,p8, c1]
    refine CondH.mk (fun c2 => ?_) (fun c2 => ?_)
    · replace h := run_t c2 h
      try simp only [↓RA,RB,RS, fx44,p1,p2,p3,p4,reduceIte,p5,p6,p7,p8, c1, c2]
      repeat (first | with_reducible refine noR_and (by repeat (first | exact noR_empty _ _ | exact noR_nilS _ _ | refine noR_mk _ _ _ _ _ rfl ?_ | refine noR_mkS _ _ _ _ _ rfl ?_)) ?_ | with_reducible refine noC_and (by repeat (first | exact noC_empty _ _ (by try simp only [↓RA,RB,RS, fx44,p1,p2,p3,p4,reduceIte,p5,p6,p7,p8]) | exact noC_nilS _ _ (by try simp only [↓RA,RB,RS, fx44,p1,p2,p3,p4,reduceIte,p5,p6,p7,p8]) | refine noC_mk _ _ _ _ _ rfl ?_ | refine noC_mkS _ _ _ _ _ rfl ?_)) ?_ | with_reducible refine and_ac ?_ | with_reducible refine And.intro (a := _ = List.range _) (by rfl) ?_)
      obtain ⟨v23, hv23, h⟩ := run_bind h
      refine AppH.mk (f := I) (fun _ => rfl) hv23 ?_ ?_ ?_ <;> try simp only [↓RA,RB,RS, fx44,p1,p2,p3,p4,reduceIte,p5,p6,p7,p8, c1, c2]
      repeat (first | with_reducible refine noR_and (by repeat (first | exact noR_empty _ _ | exact noR_nilS _ _ | refine noR_mk _ _ _ _ _ rfl ?_ | refine noR_mkS _ _ _ _ _ rfl ?_)) ?_ | with_reducible refine noC_and (by repeat (first | exact noC_empty _ _ (by try simp only [↓RA,RB,RS, fx44,p1,p2,p3,p4,reduceIte,p5,p6,p7,p8]) | exact noC_nilS _ _ (by try simp only [↓RA,RB,RS, fx44,p1,p2,p3,p4,reduceIte,p5,p6,p7,p8]) | refine noC_mk _ _ _ _ _ rfl ?_ | refine noC_mkS _ _ _ _ _ rfl ?_)) ?_ | with_reducible refine and_ac ?_ | with_reducible refine And.intro (a := _ = List.range _) (by rfl) ?_)
      have h := run_some h
      refine RdH.mk ⟨_, h, ?_⟩
      refine St.le_trans (St.le_mk (S := [(0, .val (.pv (I a0))), (1, .val (.pv (I a1))), (5, .val (.own 368)), (6, .val (.pv (I (IntKind.i64.wrap (s3.2 + (1 : Int))))))]) (O := [(368, (1, v23.map I))]) (by try simp only [↓RA,RB,RS, fx44,p1,p2,p3,p4,reduceIte,p5,p6,p7,p8, c1, c2]) (by try simp only [↓RA,RB,RS, fx44,p1,p2,p3,p4,reduceIte,p5,p6,p7,p8, c1, c2])) ?_
      refine St.le_rn 368 112 (by decide) (by repeat (first | exact noC_empty _ _ (by try simp only [↓RA,RB,RS, fx44,p1,p2,p3,p4,reduceIte,p5,p6,p7,p8]) | exact noC_nilS _ _ (by try simp only [↓RA,RB,RS, fx44,p1,p2,p3,p4,reduceIte,p5,p6,p7,p8]) | refine noC_mk _ _ _ _ _ rfl ?_ | refine noC_mkS _ _ _ _ _ rfl ?_)) ?_
      refine St.le_mk2 ?_
      try simp only [↓RA,RB,RS, fx44,p1,p2,p3,p4,reduceIte,p5,p6,p7,p8, c1, c2]
    · replace h := run_f c2 h
      try simp only [↓RA,RB,RS, fx44,p1,p2,p3,p4,reduceIte,p5,p6,p7,p8, c1, c2]
      repeat (first | with_reducible refine noR_and (by repeat (first | exact noR_empty _ _ | exact noR_nilS _ _ | refine noR_mk _ _ _ _ _ rfl ?_ | refine noR_mkS _ _ _ _ _ rfl ?_)) ?_ | with_reducible refine noC_and (by repeat (first | exact noC_empty _ _ (by try simp only [↓RA,RB,RS, fx44,p1,p2,p3,p4,reduceIte,p5,p6,p7,p8]) | exact noC_nilS _ _ (by try simp only [↓RA,RB,RS, fx44,p1,p2,p3,p4,reduceIte,p5,p6,p7,p8]) | refine noC_mk _ _ _ _ _ rfl ?_ | refine noC_mkS _ _ _ _ _ rfl ?_)) ?_ | with_reducible refine and_ac ?_ | with_reducible refine And.intro (a := _ = List.range _) (by rfl) ?_)
      obtain ⟨v28, hv28, h⟩ := run_bind h
      refine AppH.mk (f := I) (fun _ => rfl) hv28 ?_ ?_ ?_ <;> try simp only [↓RA,RB,RS, fx44,p1,p2,p3,p4,reduceIte,p5,p6,p7,p8, c1, c2]
      repeat (first | with_reducible refine noR_and (by repeat (first | exact noR_empty _ _ | exact noR_nilS _ _ | refine noR_mk _ _ _ _ _ rfl ?_ | refine noR_mkS _ _ _ _ _ rfl ?_)) ?_ | with_reducible refine noC_and (by repeat (first | exact noC_empty _ _ (by try simp only [↓RA,RB,RS, fx44,p1,p2,p3,p4,reduceIte,p5,p6,p7,p8]) | exact noC_nilS _ _ (by try simp only [↓RA,RB,RS, fx44,p1,p2,p3,p4,reduceIte,p5,p6,p7,p8]) | refine noC_mk _ _ _ _ _ rfl ?_ | refine noC_mkS _ _ _ _ _ rfl ?_)) ?_ | with_reducible refine and_ac ?_ | with_reducible refine And.intro (a := _ = List.range _) (by rfl) ?_)
      have h := run_some h
      refine RdH.mk ⟨_, h, ?_⟩
      refine St.le_trans (St.le_mk (S := [(0, .val (.pv (I a0))), (1, .val (.pv (I a1))), (5, .val (.own 448)), (6, .val (.pv (I (IntKind.i64.wrap (s3.2 + (1 : Int))))))]) (O := [(448, (1, v28.map I))]) (by try simp only [↓RA,RB,RS, fx44,p1,p2,p3,p4,reduceIte,p5,p6,p7,p8, c1, c2]) (by try simp only [↓RA,RB,RS, fx44,p1,p2,p3,p4,reduceIte,p5,p6,p7,p8, c1, c2])) ?_
      refine St.le_rn 448 112 (by decide) (by repeat (first | exact noC_empty _ _ (by try simp only [↓RA,RB,RS, fx44,p1,p2,p3,p4,reduceIte,p5,p6,p7,p8]) | exact noC_nilS _ _ (by try simp only [↓RA,RB,RS, fx44,p1,p2,p3,p4,reduceIte,p5,p6,p7,p8]) | refine noC_mk _ _ _ _ _ rfl ?_ | refine noC_mkS _ _ _ _ _ rfl ?_)) ?_
      refine St.le_mk2 ?_
      try simp only [↓RA,RB,RS, fx44,p1,p2,p3,p4,reduceIte,p5,p6,p7,p8, c1, c2]
  · replace h := run_f c1 h
    try simp only [↓RA,RB,RS, fx44,p1,p2,p3,p4,reduceIte,p5,p6,p7,p8, c1]
    have h := run_some h
    have h := run_some h
    obtain rfl : _ = r := h
    refine FinH.l ?_
    try simp only [↓RA,RB,RS, fx44,p1,p2,p3,p4,reduceIte,p5,p6,p7,p8, c1]

def fx26 := A @TB3 <| A @TB4 <| A @TB28 <| A @TB34 <| A @TB35 <| @TB37
theorem spec_l20ValueN_sat (n : Nat) : (∀ (a0 : Formula) (a1 : List Int) (r : Bool), spec_l20ValueN n a0 a1 = some r → Sat Tryz.prog 26 [((Formula.pv false) a0), (.sl false 1 (a1.map I))] (B r)) := by
  induction n with
  | zero => exact fun _ _ _ h => by simp [spec_l20ValueN] at h
  | succ n ih =>
    refine fun a0 a1 r h => ?_
    replace h := Run.of h
    rw [spec_l20ValueN] at h
    refine Sat.of_m (nt := 76) (rs := [.tmp 4]) (n := 100000) Tryz.func26 rfl rfl rfl rfl (by simp) ?_
    try simp only [↓RA,RB,RS, fx26,p1,p2,p3,p4,reduceIte,p5,p6,p7,p8]
    repeat (first | with_reducible refine noR_and (by repeat (first | exact noR_empty _ _ | exact noR_nilS _ _ | refine noR_mk _ _ _ _ _ rfl ?_ | refine noR_mkS _ _ _ _ _ rfl ?_)) ?_ | with_reducible refine noC_and (by repeat (first | exact noC_empty _ _ (by try simp only [↓RA,RB,RS, fx26,p1,p2,p3,p4,reduceIte,p5,p6,p7,p8]) | exact noC_nilS _ _ (by try simp only [↓RA,RB,RS, fx26,p1,p2,p3,p4,reduceIte,p5,p6,p7,p8]) | refine noC_mk _ _ _ _ _ rfl ?_ | refine noC_mkS _ _ _ _ _ rfl ?_)) ?_ | with_reducible refine and_ac ?_ | with_reducible refine And.intro (a := _ = List.range _) (by rfl) ?_)
    refine CondH.mk (fun c1 => ?_) (fun c1 => ?_)
    · replace h := run_t c1 h
      try simp only [↓RA,RB,RS, fx26,p1,p2,p3,p4,reduceIte,p5,p6,p7,p8, c1]
      have h := run_some h
      obtain rfl : _ = r := h
      refine FinH.l ?_
      try simp only [↓RA,RB,RS, fx26,p1,p2,p3,p4,reduceIte,p5,p6,p7,p8, c1]
    · replace h := run_f c1 h
      try simp only [↓RA,RB,RS, fx26,p1,p2,p3,p4,reduceIte,p5,p6,p7,p8, c1]
      refine CondH.mk (fun c2 => ?_) (fun c2 => ?_)
      · replace h := run_t c2 h
        try simp only [↓RA,RB,RS, fx26,p1,p2,p3,p4,reduceIte,p5,p6,p7,p8, c1, c2]
        have h := run_some h
        obtain rfl : _ = r := h
        refine FinH.l ?_
        try simp only [↓RA,RB,RS, fx26,p1,p2,p3,p4,reduceIte,p5,p6,p7,p8, c1, c2]
      · replace h := run_f c2 h
        try simp only [↓RA,RB,RS, fx26,p1,p2,p3,p4,reduceIte,p5,p6,p7,p8, c1, c2]
        refine CondH.mk (fun c3 => ?_) (fun c3 => ?_)
        · replace h := run_t c3 h
          try simp only [↓RA,RB,RS, fx26,p1,p2,p3,p4,reduceIte,p5,p6,p7,p8, c1, c2, c3]
          obtain ⟨v18, hv18, h⟩ := run_bind h
          refine CallH.mk [false] (spec_l20Variable_sat hv18) ?_ ?_ <;> try simp only [↓RA,RB,RS, fx26,p1,p2,p3,p4,reduceIte,p5,p6,p7,p8, c1, c2, c3]
          obtain ⟨v19, hv19, h⟩ := run_bind h
          refine CallH.mk [false, false] (spec_l1Has_sat hv19) ?_ ?_ <;> try simp only [↓RA,RB,RS, fx26,p1,p2,p3,p4,reduceIte,p5,p6,p7,p8, c1, c2, c3]
          have h := run_some h
          obtain rfl : _ = r := h
          refine FinH.l ?_
          try simp only [↓RA,RB,RS, fx26,p1,p2,p3,p4,reduceIte,p5,p6,p7,p8, c1, c2, c3]
        · replace h := run_f c3 h
          try simp only [↓RA,RB,RS, fx26,p1,p2,p3,p4,reduceIte,p5,p6,p7,p8, c1, c2, c3]
          refine CondH.mk (fun c4 => ?_) (fun c4 => ?_)
          · replace h := run_t c4 h
            try simp only [↓RA,RB,RS, fx26,p1,p2,p3,p4,reduceIte,p5,p6,p7,p8, c1, c2, c3, c4]
            obtain ⟨v24, hv24, h⟩ := run_bind h
            refine IdxH.mk (f := (Formula.pv false)) hv24 ?_ ?_ <;> try simp only [↓RA,RB,RS, fx26,p1,p2,p3,p4,reduceIte,p5,p6,p7,p8, c1, c2, c3, c4]
            obtain ⟨v27, hv27, h⟩ := run_bind h
            refine CallH.mk [false, false] (ih _ _ _ hv27) ?_ ?_ <;> try simp only [↓RA,RB,RS, fx26,p1,p2,p3,p4,reduceIte,p5,p6,p7,p8, c1, c2, c3, c4]
            have h := run_some h
            obtain rfl : _ = r := h
            refine FinH.l ?_
            try simp only [↓RA,RB,RS, fx26,p1,p2,p3,p4,reduceIte,p5,p6,p7,p8, c1, c2, c3, c4]
          · replace h := run_f c4 h
            try simp only [↓RA,RB,RS, fx26,p1,p2,p3,p4,reduceIte,p5,p6,p7,p8, c1, c2, c3, c4]
            refine CondH.mk (fun c5 => ?_) (fun c5 => ?_)
            · replace h := run_t c5 h
              try simp only [↓RA,RB,RS, fx26,p1,p2,p3,p4,reduceIte,p5,p6,p7,p8, c1, c2, c3, c4, c5]
              obtain ⟨v33, hv33, h⟩ := run_bind h
              refine IdxH.mk (f := (Formula.pv false)) hv33 ?_ ?_ <;> try simp only [↓RA,RB,RS, fx26,p1,p2,p3,p4,reduceIte,p5,p6,p7,p8, c1, c2, c3, c4, c5]
              obtain ⟨v36, hv36, h⟩ := run_bind h
              refine CallH.mk [false, false] (ih _ _ _ hv36) ?_ ?_ <;> try simp only [↓RA,RB,RS, fx26,p1,p2,p3,p4,reduceIte,p5,p6,p7,p8, c1, c2, c3, c4, c5]
              refine CondH.mk (fun c6 => ?_) (fun c6 => ?_)
              · replace h := run_t c6 h
                try simp only [↓RA,RB,RS, fx26,p1,p2,p3,p4,reduceIte,p5,p6,p7,p8, c1, c2, c3, c4, c5, c6]
                obtain ⟨v40, hv40, h⟩ := run_bind h
                refine IdxH.mk (f := (Formula.pv false)) hv40 ?_ ?_ <;> try simp only [↓RA,RB,RS, fx26,p1,p2,p3,p4,reduceIte,p5,p6,p7,p8, c1, c2, c3, c4, c5, c6]
                obtain ⟨v43, hv43, h⟩ := run_bind h
                refine CallH.mk [false, false] (ih _ _ _ hv43) ?_ ?_ <;> try simp only [↓RA,RB,RS, fx26,p1,p2,p3,p4,reduceIte,p5,p6,p7,p8, c1, c2, c3, c4, c5, c6]
                have h := run_some h
                obtain rfl : _ = r := h
                refine FinH.l ?_
                try simp only [↓RA,RB,RS, fx26,p1,p2,p3,p4,reduceIte,p5,p6,p7,p8, c1, c2, c3, c4, c5, c6]
              · replace h := run_f c6 h
                try simp only [↓RA,RB,RS, fx26,p1,p2,p3,p4,reduceIte,p5,p6,p7,p8, c1, c2, c3, c4, c5, c6]
                have h := run_some h
                obtain rfl : _ = r := h
                refine FinH.l ?_
                try simp only [↓RA,RB,RS, fx26,p1,p2,p3,p4,reduceIte,p5,p6,p7,p8, c1, c2, c3, c4, c5, c6]
            · replace h := run_f c5 h
              try simp only [↓RA,RB,RS, fx26,p1,p2,p3,p4,reduceIte,p5,p6,p7,p8, c1, c2, c3, c4, c5]
              refine CondH.mk (fun c7 => ?_) (fun c7 => ?_)
              · replace h := run_t c7 h
                try simp only [↓RA,RB,RS, fx26,p1,p2,p3,p4,reduceIte,p5,p6,p7,p8, c1, c2, c3, c4, c5, c7]
                obtain ⟨v49, hv49, h⟩ := run_bind h
                refine IdxH.mk (f := (Formula.pv false)) hv49 ?_ ?_ <;> try simp only [↓RA,RB,RS, fx26,p1,p2,p3,p4,reduceIte,p5,p6,p7,p8, c1, c2, c3, c4, c5, c7]
                obtain ⟨v52, hv52, h⟩ := run_bind h
                refine CallH.mk [false, false] (ih _ _ _ hv52) ?_ ?_ <;> try simp only [↓RA,RB,RS, fx26,p1,p2,p3,p4,reduceIte,p5,p6,p7,p8, c1, c2, c3, c4, c5, c7]
                refine CondH.mk (fun c8 => ?_) (fun c8 => ?_)
                · replace h := run_t c8 h
                  try simp only [↓RA,RB,RS, fx26,p1,p2,p3,p4,reduceIte,p5,p6,p7,p8, c1, c2, c3, c4, c5, c7, c8]
                  have h := run_some h
                  obtain rfl : _ = r := h
                  refine FinH.l ?_
                  try simp only [↓RA,RB,RS, fx26,p1,p2,p3,p4,reduceIte,p5,p6,p7,p8, c1, c2, c3, c4, c5, c7, c8]
                · replace h := run_f c8 h
                  try simp only [↓RA,RB,RS, fx26,p1,p2,p3,p4,reduceIte,p5,p6,p7,p8, c1, c2, c3, c4, c5, c7, c8]
                  obtain ⟨v56, hv56, h⟩ := run_bind h
                  refine IdxH.mk (f := (Formula.pv false)) hv56 ?_ ?_ <;> try simp only [↓RA,RB,RS, fx26,p1,p2,p3,p4,reduceIte,p5,p6,p7,p8, c1, c2, c3, c4, c5, c7, c8]
                  obtain ⟨v59, hv59, h⟩ := run_bind h
                  refine CallH.mk [false, false] (ih _ _ _ hv59) ?_ ?_ <;> try simp only [↓RA,RB,RS, fx26,p1,p2,p3,p4,reduceIte,p5,p6,p7,p8, c1, c2, c3, c4, c5, c7, c8]
                  have h := run_some h
                  obtain rfl : _ = r := h
                  refine FinH.l ?_
                  try simp only [↓RA,RB,RS, fx26,p1,p2,p3,p4,reduceIte,p5,p6,p7,p8, c1, c2, c3, c4, c5, c7, c8]
              · replace h := run_f c7 h
                try simp only [↓RA,RB,RS, fx26,p1,p2,p3,p4,reduceIte,p5,p6,p7,p8, c1, c2, c3, c4, c5, c7]
                obtain ⟨v63, hv63, h⟩ := run_bind h
                refine IdxH.mk (f := (Formula.pv false)) hv63 ?_ ?_ <;> try simp only [↓RA,RB,RS, fx26,p1,p2,p3,p4,reduceIte,p5,p6,p7,p8, c1, c2, c3, c4, c5, c7]
                obtain ⟨v66, hv66, h⟩ := run_bind h
                refine CallH.mk [false, false] (ih _ _ _ hv66) ?_ ?_ <;> try simp only [↓RA,RB,RS, fx26,p1,p2,p3,p4,reduceIte,p5,p6,p7,p8, c1, c2, c3, c4, c5, c7]
                refine CondH.mk (fun c9 => ?_) (fun c9 => ?_)
                · replace h := run_t c9 h
                  try simp only [↓RA,RB,RS, fx26,p1,p2,p3,p4,reduceIte,p5,p6,p7,p8, c1, c2, c3, c4, c5, c7, c9]
                  obtain ⟨v71, hv71, h⟩ := run_bind h
                  refine IdxH.mk (f := (Formula.pv false)) hv71 ?_ ?_ <;> try simp only [↓RA,RB,RS, fx26,p1,p2,p3,p4,reduceIte,p5,p6,p7,p8, c1, c2, c3, c4, c5, c7, c9]
                  obtain ⟨v74, hv74, h⟩ := run_bind h
                  refine CallH.mk [false, false] (ih _ _ _ hv74) ?_ ?_ <;> try simp only [↓RA,RB,RS, fx26,p1,p2,p3,p4,reduceIte,p5,p6,p7,p8, c1, c2, c3, c4, c5, c7, c9]
                  have h := run_some h
                  obtain rfl : _ = r := h
                  refine FinH.l ?_
                  try simp only [↓RA,RB,RS, fx26,p1,p2,p3,p4,reduceIte,p5,p6,p7,p8, c1, c2, c3, c4, c5, c7, c9]
                · replace h := run_f c9 h
                  try simp only [↓RA,RB,RS, fx26,p1,p2,p3,p4,reduceIte,p5,p6,p7,p8, c1, c2, c3, c4, c5, c7, c9]
                  have h := run_some h
                  obtain rfl : _ = r := h
                  refine FinH.l ?_
                  try simp only [↓RA,RB,RS, fx26,p1,p2,p3,p4,reduceIte,p5,p6,p7,p8, c1, c2, c3, c4, c5, c7, c9]
theorem spec_l20Value_sat {a0 : Formula} {a1 : List Int} {r : Bool} (h : spec_l20Value a0 a1 = some r) : Sat Tryz.prog 26 [((Formula.pv false) a0), (.sl false 1 (a1.map I))] (B r) := by
  obtain ⟨n, hn⟩ := lim_some h
  exact (spec_l20ValueN_sat n) _ _ _ hn

def fx71 := A @TB3 <| A @TB4 <| @TB28
theorem spec_l15Status_sat {a0 : List Int} {a1 : List Int}  {r : Int × Int} (h : spec_l15Status a0 a1 = some r) : Sat Tryz.prog 71 [(.sl false 1 (a0.map I)), (.sl false 1 (a1.map I))] (.tup [(I r.1), (I r.2)]) := by
  replace h := Run.of h
  unfold spec_l15Status at h
  refine Sat.of_m (nt := 37) (rs := [.tmp 4, .tmp 5]) (n := 100000) Tryz.func71 rfl rfl rfl rfl (by simp) ?_
  try simp only [↓RA,RB,RS, fx71,p1,p2,p3,p4,reduceIte,p5,p6,p7,p8]
  refine Mg.know_sl (b := false) (sz := 1) (es := a0.map I) 0 (by try simp only [↓RA,RB,RS, fx71,p1,p2,p3,p4,reduceIte,p5,p6,p7,p8]) fun hl0 => ?_; rw [List.length_map] at hl0
  replace h := run_loop h
  refine Mg.forN h (fun i3 s3 => [(0, .val (.pv (.sl false 1 (a0.map I)))), (1, .val (.pv (.sl false 1 (a1.map I)))), (6, .val (.pv (I s3.1))), (7, .val (.pv (I s3.2))), (8, .val (.pv (I (i3 : Int))))]) (fun i3 s3 => []) (St.le_mk2 (by try simp only [↓RA,RB,RS, fx71,p1,p2,p3,p4,reduceIte,p5,p6,p7,p8])) (fun i3 s3 hi h => ?_) (fun s3 h => ?_)
  · have w3 := wrap_succ (i := i3) (by omega)
    try simp only [↓RA,RB,RS, fx71,p1,p2,p3,p4,reduceIte,p5,p6,p7,p8]
    refine CondH.tt (decide_eq_true (by omega)) (fun c1 => ?_)
    try simp only [↓RA,RB,RS, fx71,p1,p2,p3,p4,reduceIte,p5,p6,p7,p8, c1]
    obtain ⟨v18, hv18, h⟩ := run_bind h
    refine IdxH.mk (f := I) hv18 ?_ ?_ <;> try simp only [↓RA,RB,RS, fx71,p1,p2,p3,p4,reduceIte,p5,p6,p7,p8, c1]
    obtain ⟨v20, hv20, h⟩ := run_bind h
    refine CallH.mk [false, false] (spec_l1Has_sat hv20) ?_ ?_ <;> try simp only [↓RA,RB,RS, fx71,p1,p2,p3,p4,reduceIte,p5,p6,p7,p8, c1]
    refine CondH.mk (fun c2 => ?_) (fun c2 => ?_)
    · replace h := run_t c2 h
      try simp only [↓RA,RB,RS, fx71,p1,p2,p3,p4,reduceIte,p5,p6,p7,p8, c1, c2]
      have h := run_some h
      obtain rfl : _ = r := h
      refine FinH.l ?_
      try simp only [↓RA,RB,RS, fx71,p1,p2,p3,p4,reduceIte,p5,p6,p7,p8, c1, c2]
    · replace h := run_f c2 h
      try simp only [↓RA,RB,RS, fx71,p1,p2,p3,p4,reduceIte,p5,p6,p7,p8, c1, c2]
      obtain ⟨v24, hv24, h⟩ := run_bind h
      refine IdxH.mk (f := I) hv24 ?_ ?_ <;> try simp only [↓RA,RB,RS, fx71,p1,p2,p3,p4,reduceIte,p5,p6,p7,p8, c1, c2]
      obtain ⟨v27, hv27, h⟩ := run_bind h
      refine CallH.mk [false, false] (spec_l1Has_sat hv27) ?_ ?_ <;> try simp only [↓RA,RB,RS, fx71,p1,p2,p3,p4,reduceIte,p5,p6,p7,p8, c1, c2]
      refine CondH.mk (fun c3 => ?_) (fun c3 => ?_)
      · replace h := run_t c3 h
        try simp only [↓RA,RB,RS, fx71,p1,p2,p3,p4,reduceIte,p5,p6,p7,p8, c1, c2, c3]
        have h := run_some h
        refine RdH.mk ⟨_, h, ?_⟩
        refine St.le_mk2 ?_
        try simp only [↓RA,RB,RS, fx71,p1,p2,p3,p4,reduceIte,p5,p6,p7,p8, c1, c2, c3, w3]
      · replace h := run_f c3 h
        try simp only [↓RA,RB,RS, fx71,p1,p2,p3,p4,reduceIte,p5,p6,p7,p8, c1, c2, c3]
        obtain ⟨v33, hv33, h⟩ := run_bind h
        refine IdxH.mk (f := I) hv33 ?_ ?_ <;> try simp only [↓RA,RB,RS, fx71,p1,p2,p3,p4,reduceIte,p5,p6,p7,p8, c1, c2, c3]
        have h := run_some h
        refine RdH.mk ⟨_, h, ?_⟩
        refine St.le_mk2 ?_
        try simp only [↓RA,RB,RS, fx71,p1,p2,p3,p4,reduceIte,p5,p6,p7,p8, c1, c2, c3, w3]
  · try simp only [↓RA,RB,RS, fx71,p1,p2,p3,p4,reduceIte,p5,p6,p7,p8]
    refine CondH.ff (decide_eq_false (by omega)) (fun c4 => ?_)
    try simp only [↓RA,RB,RS, fx71,p1,p2,p3,p4,reduceIte,p5,p6,p7,p8, c4]
    have h := run_some h
    obtain rfl : _ = r := h
    refine FinH.l ?_
    try simp only [↓RA,RB,RS, fx71,p1,p2,p3,p4,reduceIte,p5,p6,p7,p8, c4]

def fx45 := A @TB3 <| A @TB28 <| @TB45
theorem spec_l20Satisfies_sat {a0 : List (List Int)} {a1 : List Int}  {r : Bool} (h : spec_l20Satisfies a0 a1 = some r) : Sat Tryz.prog 45 [(.sl false 1 (a0.map (Lv false 1 I))), (.sl false 1 (a1.map I))] (B r) := by
  replace h := Run.of h
  unfold spec_l20Satisfies at h
  refine Sat.of_m (nt := 25) (rs := [.tmp 4]) (n := 100000) Tryz.func45 rfl rfl rfl rfl (by simp) ?_
  try simp only [↓RA,RB,RS, fx45,p1,p2,p3,p4,reduceIte,p5,p6,p7,p8]
  refine Mg.know_sl (b := false) (sz := 1) (es := a0.map (Lv false 1 I)) 0 (by try simp only [↓RA,RB,RS, fx45,p1,p2,p3,p4,reduceIte,p5,p6,p7,p8]) fun hl0 => ?_; rw [List.length_map] at hl0
  replace h := run_loop h
  refine Mg.forN h (fun i2 s2 => [(0, .val (.pv (.sl false 1 (a0.map (Lv false 1 I))))), (1, .val (.pv (.sl false 1 (a1.map I)))), (5, .val (.pv (I (i2 : Int))))]) (fun i2 s2 => []) (St.le_mk2 (by try simp only [↓RA,RB,RS, fx45,p1,p2,p3,p4,reduceIte,p5,p6,p7,p8])) (fun i2 s2 hi h => ?_) (fun s2 h => ?_)
  · have w2 := wrap_succ (i := i2) (by omega)
    try simp only [↓RA,RB,RS, fx45,p1,p2,p3,p4,reduceIte,p5,p6,p7,p8]
    refine CondH.tt (decide_eq_true (by omega)) (fun c1 => ?_)
    try simp only [↓RA,RB,RS, fx45,p1,p2,p3,p4,reduceIte,p5,p6,p7,p8, c1]
    obtain ⟨v17, hv17, h⟩ := run_bind h
    refine IdxH.mk (f := (Lv false 1 I)) hv17 ?_ ?_ <;> try simp only [↓RA,RB,RS, fx45,p1,p2,p3,p4,reduceIte,p5,p6,p7,p8, c1]
    obtain ⟨v20, hv20, h⟩ := run_bind h
    refine CallH.mk [false, false] (spec_l15Status_sat hv20) ?_ ?_ <;> try simp only [↓RA,RB,RS, fx45,p1,p2,p3,p4,reduceIte,p5,p6,p7,p8, c1]
    refine CondH.mk (fun c2 => ?_) (fun c2 => ?_)
    · replace h := run_t c2 h
      try simp only [↓RA,RB,RS, fx45,p1,p2,p3,p4,reduceIte,p5,p6,p7,p8, c1, c2]
      have h := run_some h
      obtain rfl : _ = r := h
      refine FinH.l ?_
      try simp only [↓RA,RB,RS, fx45,p1,p2,p3,p4,reduceIte,p5,p6,p7,p8, c1, c2]
    · replace h := run_f c2 h
      try simp only [↓RA,RB,RS, fx45,p1,p2,p3,p4,reduceIte,p5,p6,p7,p8, c1, c2]
      have h := run_some h
      refine RdH.mk ⟨_, h, ?_⟩
      refine St.le_mk2 ?_
      try simp only [↓RA,RB,RS, fx45,p1,p2,p3,p4,reduceIte,p5,p6,p7,p8, c1, c2, w2]
  · try simp only [↓RA,RB,RS, fx45,p1,p2,p3,p4,reduceIte,p5,p6,p7,p8]
    refine CondH.ff (decide_eq_false (by omega)) (fun c3 => ?_)
    try simp only [↓RA,RB,RS, fx45,p1,p2,p3,p4,reduceIte,p5,p6,p7,p8, c3]
    have h := run_some h
    obtain rfl : _ = r := h
    refine FinH.l ?_
    try simp only [↓RA,RB,RS, fx45,p1,p2,p3,p4,reduceIte,p5,p6,p7,p8, c3]

def fx16 := A @TB3 <| A @TB4 <| A @TB28 <| A @TB37 <| A @TB45 <| A @TB66 <| A @uk_3 <| A @uk_66 <| @mixedT
theorem spec_IsInterpolant_sat {a0 : List (List Int)} {a1 : Int} {a2 : Formula}  {r : Bool × Bool} (h : spec_IsInterpolant a0 a1 a2 = some r) : Sat Tryz.prog 16 [(.sl false 1 (a0.map (Lv false 1 I))), (I a1), ((Formula.pv false) a2)] (.tup [(B r.1), (B r.2)]) := by
  replace h := Run.of h
  unfold spec_IsInterpolant at h
  refine Sat.of_m (nt := 92) (rs := [.tmp 6, .tmp 7]) (n := 100000) Tryz.func16 rfl rfl rfl rfl (by simp) ?_
  try simp only [↓RA,RB,RS, fx16,p1,p2,p3,p4,reduceIte,p5,p6,p7,p8]
  repeat (first | with_reducible refine noR_and (by repeat (first | exact noR_empty _ _ | exact noR_nilS _ _ | refine noR_mk _ _ _ _ _ rfl ?_ | refine noR_mkS _ _ _ _ _ rfl ?_)) ?_ | with_reducible refine noC_and (by repeat (first | exact noC_empty _ _ (by try simp only [↓RA,RB,RS, fx16,p1,p2,p3,p4,reduceIte,p5,p6,p7,p8]) | exact noC_nilS _ _ (by try simp only [↓RA,RB,RS, fx16,p1,p2,p3,p4,reduceIte,p5,p6,p7,p8]) | refine noC_mk _ _ _ _ _ rfl ?_ | refine noC_mkS _ _ _ _ _ rfl ?_)) ?_ | with_reducible refine and_ac ?_ | with_reducible refine And.intro (a := _ = List.range _) (by rfl) ?_)
  obtain ⟨v15, hv15, h⟩ := run_bind h
  refine CallH.mk [false] (spec_l15Set_sat hv15) ?_ ?_ <;> try simp only [↓RA,RB,RS, fx16,p1,p2,p3,p4,reduceIte,p5,p6,p7,p8]
  refine CondH.mk (fun c1 => ?_) (fun c1 => ?_)
  · replace h := run_t c1 h
    try simp only [↓RA,RB,RS, fx16,p1,p2,p3,p4,reduceIte,p5,p6,p7,p8, c1]
    obtain ⟨v21, hv21, h⟩ := run_bind h
    refine CallH.mk [false, false, false] (spec_l1In_sat hv21) ?_ ?_ <;> try simp only [↓RA,RB,RS, fx16,p1,p2,p3,p4,reduceIte,p5,p6,p7,p8, c1]
    refine CondH.mk (fun c2 => ?_) (fun c2 => ?_)
    · replace h := run_t c2 h
      try simp only [↓RA,RB,RS, fx16,p1,p2,p3,p4,reduceIte,p5,p6,p7,p8, c1, c2]
      obtain ⟨v26, hv26, h⟩ := run_bind h
      refine CallH.mk [false] (spec_l20Good_sat hv26) ?_ ?_ <;> try simp only [↓RA,RB,RS, fx16,p1,p2,p3,p4,reduceIte,p5,p6,p7,p8, c1, c2]
      refine CondH.mk (fun c3 => ?_) (fun c3 => ?_)
      · replace h := run_t c3 h
        try simp only [↓RA,RB,RS, fx16,p1,p2,p3,p4,reduceIte,p5,p6,p7,p8, c1, c2, c3]
        repeat (first | with_reducible refine noR_and (by repeat (first | exact noR_empty _ _ | exact noR_nilS _ _ | refine noR_mk _ _ _ _ _ rfl ?_ | refine noR_mkS _ _ _ _ _ rfl ?_)) ?_ | with_reducible refine noC_and (by repeat (first | exact noC_empty _ _ (by try simp only [↓RA,RB,RS, fx16,p1,p2,p3,p4,reduceIte,p5,p6,p7,p8]) | exact noC_nilS _ _ (by try simp only [↓RA,RB,RS, fx16,p1,p2,p3,p4,reduceIte,p5,p6,p7,p8]) | refine noC_mk _ _ _ _ _ rfl ?_ | refine noC_mkS _ _ _ _ _ rfl ?_)) ?_ | with_reducible refine and_ac ?_ | with_reducible refine And.intro (a := _ = List.range _) (by rfl) ?_)
        obtain ⟨v31, hv31, h⟩ := run_bind h
        refine CallH.mk [true, false] (Sat.give (args := [(.sl true 1 (([]).map I)), ((Formula.pv false) a2)]) [true, false] (by have gg := spec_l20Into_sat hv31; simp only [gv_t, gv_f, gv_n, view_sl, view_agg, view_lit, PV.views, RB, RS] at gg ⊢; exact gg)) (by try simp only [↓RA,RB,RS, fx16,p1,p2,p3,p4,reduceIte,p5,p6,p7,p8, c1, c2, c3]) ?_
        try simp only [↓RA,RB,RS, fx16,p1,p2,p3,p4,reduceIte,p5,p6,p7,p8, c1, c2, c3]
        refine Mg.know_sl (b := false) (sz := 1) (es := v31.map I) 8 (by try simp only [↓RA,RB,RS, fx16,p1,p2,p3,p4,reduceIte,p5,p6,p7,p8, c1, c2, c3]) fun hl8 => ?_; rw [List.length_map] at hl8
        replace h := run_loop h
        refine Mg.forN h (fun i5 s5 => [(0, .val (.pv (.sl false 1 (a0.map (Lv false 1 I))))), (1, .val (.pv (I a1))), (5, .box (.pv ((Formula.pv false) a2))), (8, .val (.pv (.sl false 1 (v31.map I)))), (9, .val (.pv (I (i5 : Int))))]) (fun i5 s5 => []) (St.le_mk2 (by try simp only [↓RA,RB,RS, fx16,p1,p2,p3,p4,reduceIte,p5,p6,p7,p8, c1, c2, c3])) (fun i5 s5 hi h => ?_) (fun s5 h => ?_)
        · have w5 := wrap_succ (i := i5) (by omega)
          try simp only [↓RA,RB,RS, fx16,p1,p2,p3,p4,reduceIte,p5,p6,p7,p8, c1, c2, c3]
          refine CondH.tt (decide_eq_true (by omega)) (fun c4 => ?_)
          try simp only [↓RA,RB,RS, fx16,p1,p2,p3,p4,reduceIte,p5,p6,p7,p8, c1, c2, c3, c4]
          obtain ⟨v40, hv40, h⟩ := run_bind h
          refine SlcH.mk (f := (Lv false 1 I)) hv40 ?_ ?_ <;> try simp only [↓RA,RB,RS, fx16,p1,p2,p3,p4,reduceIte,p5,p6,p7,p8, c1, c2, c3, c4]
          obtain ⟨v43, hv43, h⟩ := run_bind h
          refine IdxH.mk (f := I) hv43 ?_ ?_ <;> try simp only [↓RA,RB,RS, fx16,p1,p2,p3,p4,reduceIte,p5,p6,p7,p8, c1, c2, c3, c4]
          obtain ⟨v45, hv45, h⟩ := run_bind h
          refine CallH.mk [false, false] (spec_l20Occurs_sat hv45) ?_ ?_ <;> try simp only [↓RA,RB,RS, fx16,p1,p2,p3,p4,reduceIte,p5,p6,p7,p8, c1, c2, c3, c4]
          refine CondH.mk (fun c5 => ?_) (fun c5 => ?_)
          · replace h := run_t c5 h
            try simp only [↓RA,RB,RS, fx16,p1,p2,p3,p4,reduceIte,p5,p6,p7,p8, c1, c2, c3, c4, c5]
            obtain ⟨v50, hv50, h⟩ := run_bind h
            refine SlcH.mk (f := (Lv false 1 I)) hv50 ?_ ?_ <;> try simp only [↓RA,RB,RS, fx16,p1,p2,p3,p4,reduceIte,p5,p6,p7,p8, c1, c2, c3, c4, c5]
            obtain ⟨v53, hv53, h⟩ := run_bind h
            refine IdxH.mk (f := I) hv53 ?_ ?_ <;> try simp only [↓RA,RB,RS, fx16,p1,p2,p3,p4,reduceIte,p5,p6,p7,p8, c1, c2, c3, c4, c5]
            obtain ⟨v55, hv55, h⟩ := run_bind h
            refine CallH.mk [false, false] (spec_l20Occurs_sat hv55) ?_ ?_ <;> try simp only [↓RA,RB,RS, fx16,p1,p2,p3,p4,reduceIte,p5,p6,p7,p8, c1, c2, c3, c4, c5]
            refine And.intro (DrawH.none (by rfl) (by first | rfl | (try simp only [↓RA,RB,RS, fx16,p1,p2,p3,p4,reduceIte,p5,p6,p7,p8] <;> rfl)) (by first | rfl | (try simp only [↓RA,RB,RS, fx16,p1,p2,p3,p4,reduceIte,p5,p6,p7,p8] <;> rfl)) (by first | rfl | (try simp only [↓RA,RB,RS, fx16,p1,p2,p3,p4,reduceIte,p5,p6,p7,p8] <;> rfl))) ?_
            try simp only [↓RA,RB,RS, fx16,p1,p2,p3,p4,reduceIte,p5,p6,p7,p8, c1, c2, c3, c4, c5]
            refine CondH.mk (fun c6 => ?_) (fun c6 => ?_)
            · replace h := run_t c6 h
              try simp only [↓RA,RB,RS, fx16,p1,p2,p3,p4,reduceIte,p5,p6,p7,p8, c1, c2, c3, c4, c5, c6]
              have h := run_some h
              refine RdH.mk ⟨_, h, ?_⟩
              refine St.le_mk2 ?_
              try simp only [↓RA,RB,RS, fx16,p1,p2,p3,p4,reduceIte,p5,p6,p7,p8, c1, c2, c3, c4, c5, c6, w5]
            · replace h := run_f c6 h
              try simp only [↓RA,RB,RS, fx16,p1,p2,p3,p4,reduceIte,p5,p6,p7,p8, c1, c2, c3, c4, c5, c6]
              have h := run_some h
              obtain rfl : _ = r := h
              refine FinH.l ?_
              try simp only [↓RA,RB,RS, fx16,p1,p2,p3,p4,reduceIte,p5,p6,p7,p8, c1, c2, c3, c4, c5, c6]
          · replace h := run_f c5 h
            try simp only [↓RA,RB,RS, fx16,p1,p2,p3,p4,reduceIte,p5,p6,p7,p8, c1, c2, c3, c4, c5]
            refine And.intro (DrawH.none (by rfl) (by first | rfl | (try simp only [↓RA,RB,RS, fx16,p1,p2,p3,p4,reduceIte,p5,p6,p7,p8] <;> rfl)) (by first | rfl | (try simp only [↓RA,RB,RS, fx16,p1,p2,p3,p4,reduceIte,p5,p6,p7,p8] <;> rfl)) (by first | rfl | (try simp only [↓RA,RB,RS, fx16,p1,p2,p3,p4,reduceIte,p5,p6,p7,p8] <;> rfl))) ?_
            try simp only [↓RA,RB,RS, fx16,p1,p2,p3,p4,reduceIte,p5,p6,p7,p8, c1, c2, c3, c4, c5]
            have h := run_some h
            obtain rfl : _ = r := h
            refine FinH.l ?_
            try simp only [↓RA,RB,RS, fx16,p1,p2,p3,p4,reduceIte,p5,p6,p7,p8, c1, c2, c3, c4, c5]
        · try simp only [↓RA,RB,RS, fx16,p1,p2,p3,p4,reduceIte,p5,p6,p7,p8, c1, c2, c3]
          refine CondH.ff (decide_eq_false (by omega)) (fun c7 => ?_)
          try simp only [↓RA,RB,RS, fx16,p1,p2,p3,p4,reduceIte,p5,p6,p7,p8, c1, c2, c3, c7]
          obtain ⟨v59, hv59, h⟩ := run_bind h
          refine CallH.mk [false] (spec_l15Most_sat hv59) ?_ ?_ <;> try simp only [↓RA,RB,RS, fx16,p1,p2,p3,p4,reduceIte,p5,p6,p7,p8, c1, c2, c3, c7]
          replace h := run_loop h
          refine Mg.whileN h (fun s11 => [(0, .val (.pv (.sl false 1 (a0.map (Lv false 1 I))))), (1, .val (.pv (I a1))), (5, .box (.pv ((Formula.pv false) a2))), (10, .val (.pv (I v59))), (11, .val (.pv (I s11)))]) (fun s11 => []) (St.le_mk2 (by try simp only [↓RA,RB,RS, fx16,p1,p2,p3,p4,reduceIte,p5,p6,p7,p8, c1, c2, c3, c7])) (fun n11 s11 h => ?_)
          try simp only [↓RA,RB,RS, fx16,p1,p2,p3,p4,reduceIte,p5,p6,p7,p8, c1, c2, c3, c7]
          obtain ⟨v63, hv63, h⟩ := run_bind h
          refine ShlH.mk hv63 ?_
          try simp only [↓RA,RB,RS, fx16,p1,p2,p3,p4,reduceIte,p5,p6,p7,p8, c1, c2, c3, c7]
          refine CondH.mk (fun c8 => ?_) (fun c8 => ?_)
          · replace h := run_t c8 h
            try simp only [↓RA,RB,RS, fx16,p1,p2,p3,p4,reduceIte,p5,p6,p7,p8, c1, c2, c3, c7, c8]
            obtain ⟨v69, hv69, h⟩ := run_bind h
            refine CallH.mk [false, false] (spec_l20Total_sat hv69) ?_ ?_ <;> try simp only [↓RA,RB,RS, fx16,p1,p2,p3,p4,reduceIte,p5,p6,p7,p8, c1, c2, c3, c7, c8]
            repeat (first | with_reducible refine noR_and (by repeat (first | exact noR_empty _ _ | exact noR_nilS _ _ | refine noR_mk _ _ _ _ _ rfl ?_ | refine noR_mkS _ _ _ _ _ rfl ?_)) ?_ | with_reducible refine noC_and (by repeat (first | exact noC_empty _ _ (by try simp only [↓RA,RB,RS, fx16,p1,p2,p3,p4,reduceIte,p5,p6,p7,p8]) | exact noC_nilS _ _ (by try simp only [↓RA,RB,RS, fx16,p1,p2,p3,p4,reduceIte,p5,p6,p7,p8]) | refine noC_mk _ _ _ _ _ rfl ?_ | refine noC_mkS _ _ _ _ _ rfl ?_)) ?_ | with_reducible refine and_ac ?_ | with_reducible refine And.intro (a := _ = List.range _) (by rfl) ?_)
            obtain ⟨v72, hv72, h⟩ := run_bind h
            refine CallH.mk [false, false] (spec_l20Value_sat hv72) ?_ ?_ <;> try simp only [↓RA,RB,RS, fx16,p1,p2,p3,p4,reduceIte,p5,p6,p7,p8, c1, c2, c3, c7, c8]
            refine CondH.mk (fun c9 => ?_) (fun c9 => ?_)
            · replace h := run_t c9 h
              try simp only [↓RA,RB,RS, fx16,p1,p2,p3,p4,reduceIte,p5,p6,p7,p8, c1, c2, c3, c7, c8, c9]
              obtain ⟨v87, hv87, h⟩ := run_bind h
              refine SlcH.mk (f := (Lv false 1 I)) hv87 ?_ ?_ <;> try simp only [↓RA,RB,RS, fx16,p1,p2,p3,p4,reduceIte,p5,p6,p7,p8, c1, c2, c3, c7, c8, c9]
              obtain ⟨v89, hv89, h⟩ := run_bind h
              refine CallH.mk [false, false] (spec_l20Satisfies_sat hv89) ?_ ?_ <;> try simp only [↓RA,RB,RS, fx16,p1,p2,p3,p4,reduceIte,p5,p6,p7,p8, c1, c2, c3, c7, c8, c9]
              refine CondH.mk (fun c10 => ?_) (fun c10 => ?_)
              · replace h := run_t c10 h
                try simp only [↓RA,RB,RS, fx16,p1,p2,p3,p4,reduceIte,p5,p6,p7,p8, c1, c2, c3, c7, c8, c9, c10]
                have h := run_some h
                obtain rfl : _ = r := h
                refine FinH.l ?_
                try simp only [↓RA,RB,RS, fx16,p1,p2,p3,p4,reduceIte,p5,p6,p7,p8, c1, c2, c3, c7, c8, c9, c10]
              · replace h := run_f c10 h
                try simp only [↓RA,RB,RS, fx16,p1,p2,p3,p4,reduceIte,p5,p6,p7,p8, c1, c2, c3, c7, c8, c9, c10]
                have h := run_some h
                refine RdH.mk ⟨_, h, ?_⟩
                refine St.le_mk2 ?_
                try simp only [↓RA,RB,RS, fx16,p1,p2,p3,p4,reduceIte,p5,p6,p7,p8, c1, c2, c3, c7, c8, c9, c10]
            · replace h := run_f c9 h
              try simp only [↓RA,RB,RS, fx16,p1,p2,p3,p4,reduceIte,p5,p6,p7,p8, c1, c2, c3, c7, c8, c9]
              obtain ⟨v78, hv78, h⟩ := run_bind h
              refine SlcH.mk (f := (Lv false 1 I)) hv78 ?_ ?_ <;> try simp only [↓RA,RB,RS, fx16,p1,p2,p3,p4,reduceIte,p5,p6,p7,p8, c1, c2, c3, c7, c8, c9]
              obtain ⟨v80, hv80, h⟩ := run_bind h
              refine CallH.mk [false, false] (spec_l20Satisfies_sat hv80) ?_ ?_ <;> try simp only [↓RA,RB,RS, fx16,p1,p2,p3,p4,reduceIte,p5,p6,p7,p8, c1, c2, c3, c7, c8, c9]
              refine CondH.mk (fun c11 => ?_) (fun c11 => ?_)
              · replace h := run_t c11 h
                try simp only [↓RA,RB,RS, fx16,p1,p2,p3,p4,reduceIte,p5,p6,p7,p8, c1, c2, c3, c7, c8, c9, c11]
                have h := run_some h
                obtain rfl : _ = r := h
                refine FinH.l ?_
                try simp only [↓RA,RB,RS, fx16,p1,p2,p3,p4,reduceIte,p5,p6,p7,p8, c1, c2, c3, c7, c8, c9, c11]
              · replace h := run_f c11 h
                try simp only [↓RA,RB,RS, fx16,p1,p2,p3,p4,reduceIte,p5,p6,p7,p8, c1, c2, c3, c7, c8, c9, c11]
                have h := run_some h
                refine RdH.mk ⟨_, h, ?_⟩
                refine St.le_mk2 ?_
                try simp only [↓RA,RB,RS, fx16,p1,p2,p3,p4,reduceIte,p5,p6,p7,p8, c1, c2, c3, c7, c8, c9, c11]
          · replace h := run_f c8 h
            try simp only [↓RA,RB,RS, fx16,p1,p2,p3,p4,reduceIte,p5,p6,p7,p8, c1, c2, c3, c7, c8]
            have h := run_some h
            have h := run_some h
            obtain rfl : _ = r := h
            refine FinH.l ?_
            try simp only [↓RA,RB,RS, fx16,p1,p2,p3,p4,reduceIte,p5,p6,p7,p8, c1, c2, c3, c7, c8]
      · replace h := run_f c3 h
        try simp only [↓RA,RB,RS, fx16,p1,p2,p3,p4,reduceIte,p5,p6,p7,p8, c1, c2, c3]
        have h := run_some h
        obtain rfl : _ = r := h
        refine FinH.l ?_
        try simp only [↓RA,RB,RS, fx16,p1,p2,p3,p4,reduceIte,p5,p6,p7,p8, c1, c2, c3]
    · replace h := run_f c2 h
      try simp only [↓RA,RB,RS, fx16,p1,p2,p3,p4,reduceIte,p5,p6,p7,p8, c1, c2]
      have h := run_some h
      obtain rfl : _ = r := h
      refine FinH.l ?_
      try simp only [↓RA,RB,RS, fx16,p1,p2,p3,p4,reduceIte,p5,p6,p7,p8, c1, c2]
  · replace h := run_f c1 h
    try simp only [↓RA,RB,RS, fx16,p1,p2,p3,p4,reduceIte,p5,p6,p7,p8, c1]
    have h := run_some h
    obtain rfl : _ = r := h
    refine FinH.l ?_
    try simp only [↓RA,RB,RS, fx16,p1,p2,p3,p4,reduceIte,p5,p6,p7,p8, c1]

def fx80 := A @TB3 <| A @TB35 <| @TB37
theorem impl_sizeOfN_sat (n : Nat) : (∀ (a0 : Formula) (r : Int), impl_sizeOfN n a0 = some r → Sat Tryz.prog 80 [((Formula.pv false) a0)] (I r)) := by
  induction n with
  | zero => exact fun _ _ h => by simp [impl_sizeOfN] at h
  | succ n ih =>
    refine fun a0 r h => ?_
    replace h := Run.of h
    rw [impl_sizeOfN] at h
    refine Sat.of_m (nt := 22) (rs := [.tmp 2]) (n := 100000) Tryz.func80 rfl rfl rfl rfl (by simp) ?_
    try simp only [↓RA,RB,RS, fx80,p1,p2,p3,p4,reduceIte,p5,p6,p7,p8]
    repeat (first | with_reducible refine noR_and (by repeat (first | exact noR_empty _ _ | exact noR_nilS _ _ | refine noR_mk _ _ _ _ _ rfl ?_ | refine noR_mkS _ _ _ _ _ rfl ?_)) ?_ | with_reducible refine noC_and (by repeat (first | exact noC_empty _ _ (by try simp only [↓RA,RB,RS, fx80,p1,p2,p3,p4,reduceIte,p5,p6,p7,p8]) | exact noC_nilS _ _ (by try simp only [↓RA,RB,RS, fx80,p1,p2,p3,p4,reduceIte,p5,p6,p7,p8]) | refine noC_mk _ _ _ _ _ rfl ?_ | refine noC_mkS _ _ _ _ _ rfl ?_)) ?_ | with_reducible refine and_ac ?_ | with_reducible refine And.intro (a := _ = List.range _) (by rfl) ?_)
    refine Mg.know_sl (b := false) (sz := 5) (es := a0.Parts.map (Formula.pv false)) 7 (by try simp only [↓RA,RB,RS, fx80,p1,p2,p3,p4,reduceIte,p5,p6,p7,p8]) fun hl7 => ?_; rw [List.length_map] at hl7
    replace h := run_loop h
    refine Mg.forN h (fun i3 s3 => [(3, .val (.pv (I s3))), (7, .val (.pv (.sl false 5 (a0.Parts.map (Formula.pv false))))), (8, .val (.pv (I (a0.Parts.length : Int)))), (9, .val (.pv (I (i3 : Int))))]) (fun i3 s3 => []) (St.le_mk2 (by try simp only [↓RA,RB,RS, fx80,p1,p2,p3,p4,reduceIte,p5,p6,p7,p8])) (fun i3 s3 hi h => ?_) (fun s3 h => ?_)
    · have w3 := wrap_succ (i := i3) (by omega)
      try simp only [↓RA,RB,RS, fx80,p1,p2,p3,p4,reduceIte,p5,p6,p7,p8]
      refine CondH.tt (decide_eq_true (by omega)) (fun c1 => ?_)
      try simp only [↓RA,RB,RS, fx80,p1,p2,p3,p4,reduceIte,p5,p6,p7,p8, c1]
      obtain ⟨v11, hv11, h⟩ := run_bind h
      refine IdxH.mk (f := (Formula.pv false)) hv11 ?_ ?_ <;> try simp only [↓RA,RB,RS, fx80,p1,p2,p3,p4,reduceIte,p5,p6,p7,p8, c1]
      repeat (first | with_reducible refine noR_and (by repeat (first | exact noR_empty _ _ | exact noR_nilS _ _ | refine noR_mk _ _ _ _ _ rfl ?_ | refine noR_mkS _ _ _ _ _ rfl ?_)) ?_ | with_reducible refine noC_and (by repeat (first | exact noC_empty _ _ (by try simp only [↓RA,RB,RS, fx80,p1,p2,p3,p4,reduceIte,p5,p6,p7,p8]) | exact noC_nilS _ _ (by try simp only [↓RA,RB,RS, fx80,p1,p2,p3,p4,reduceIte,p5,p6,p7,p8]) | refine noC_mk _ _ _ _ _ rfl ?_ | refine noC_mkS _ _ _ _ _ rfl ?_)) ?_ | with_reducible refine and_ac ?_ | with_reducible refine And.intro (a := _ = List.range _) (by rfl) ?_)
      refine CondH.mk (fun c2 => ?_) (fun c2 => ?_)
      · replace h := run_t c2 h
        try simp only [↓RA,RB,RS, fx80,p1,p2,p3,p4,reduceIte,p5,p6,p7,p8, c1, c2]
        have h := run_some h
        obtain rfl : _ = r := h
        refine FinH.l ?_
        try simp only [↓RA,RB,RS, fx80,p1,p2,p3,p4,reduceIte,p5,p6,p7,p8, c1, c2]
      · replace h := run_f c2 h
        try simp only [↓RA,RB,RS, fx80,p1,p2,p3,p4,reduceIte,p5,p6,p7,p8, c1, c2]
        obtain ⟨v18, hv18, h⟩ := run_bind h
        refine CallH.mk [false] (ih _ _ hv18) ?_ ?_ <;> try simp only [↓RA,RB,RS, fx80,p1,p2,p3,p4,reduceIte,p5,p6,p7,p8, c1, c2]
        have h := run_some h
        refine RdH.mk ⟨_, h, ?_⟩
        refine St.le_mk2 ?_
        try simp only [↓RA,RB,RS, fx80,p1,p2,p3,p4,reduceIte,p5,p6,p7,p8, c1, c2, w3]
    · try simp only [↓RA,RB,RS, fx80,p1,p2,p3,p4,reduceIte,p5,p6,p7,p8]
      refine CondH.ff (decide_eq_false (by omega)) (fun c3 => ?_)
      try simp only [↓RA,RB,RS, fx80,p1,p2,p3,p4,reduceIte,p5,p6,p7,p8, c3]
      have h := run_some h
      obtain rfl : _ = r := h
      refine FinH.l ?_
      try simp only [↓RA,RB,RS, fx80,p1,p2,p3,p4,reduceIte,p5,p6,p7,p8, c3]
theorem impl_sizeOf_sat {a0 : Formula} {r : Int} (h : impl_sizeOf a0 = some r) : Sat Tryz.prog 80 [((Formula.pv false) a0)] (I r) := by
  obtain ⟨n, hn⟩ := lim_some h
  exact (impl_sizeOfN_sat n) _ _ hn

def fx92 := @TB3
theorem impl_isQuantifier_sat {a0 : Int}  {r : Bool} (h : impl_isQuantifier a0 = some r) : Sat Tryz.prog 92 [(I a0)] (B r) := by
  replace h := Run.of h
  unfold impl_isQuantifier at h
  refine Sat.of_m (nt := 9) (rs := [.tmp 2]) (n := 100000) Tryz.func92 rfl rfl rfl rfl (by simp) ?_
  try simp only [↓RA,RB,RS, fx92,p1,p2,p3,p4,reduceIte,p5,p6,p7,p8]
  refine CondH.mk (fun c1 => ?_) (fun c1 => ?_)
  · replace h := run_t c1 h
    try simp only [↓RA,RB,RS, fx92,p1,p2,p3,p4,reduceIte,p5,p6,p7,p8, c1]
    have h := run_some h
    obtain rfl : _ = r := h
    refine FinH.l ?_
    try simp only [↓RA,RB,RS, fx92,p1,p2,p3,p4,reduceIte,p5,p6,p7,p8, c1]
  · replace h := run_f c1 h
    try simp only [↓RA,RB,RS, fx92,p1,p2,p3,p4,reduceIte,p5,p6,p7,p8, c1]
    have h := run_some h
    obtain rfl : _ = r := h
    refine FinH.l ?_
    try simp only [↓RA,RB,RS, fx92,p1,p2,p3,p4,reduceIte,p5,p6,p7,p8, c1]

def fx93 := @TB3
theorem impl_isBinary_sat {a0 : Int}  {r : Bool} (h : impl_isBinary a0 = some r) : Sat Tryz.prog 93 [(I a0)] (B r) := by
  replace h := Run.of h
  unfold impl_isBinary at h
  refine Sat.of_m (nt := 13) (rs := [.tmp 2]) (n := 100000) Tryz.func93 rfl rfl rfl rfl (by simp) ?_
  try simp only [↓RA,RB,RS, fx93,p1,p2,p3,p4,reduceIte,p5,p6,p7,p8]
  refine CondH.mk (fun c1 => ?_) (fun c1 => ?_)
  · replace h := run_t c1 h
    try simp only [↓RA,RB,RS, fx93,p1,p2,p3,p4,reduceIte,p5,p6,p7,p8, c1]
    have h := run_some h
    obtain rfl : _ = r := h
    refine FinH.l ?_
    try simp only [↓RA,RB,RS, fx93,p1,p2,p3,p4,reduceIte,p5,p6,p7,p8, c1]
  · replace h := run_f c1 h
    try simp only [↓RA,RB,RS, fx93,p1,p2,p3,p4,reduceIte,p5,p6,p7,p8, c1]
    refine CondH.mk (fun c2 => ?_) (fun c2 => ?_)
    · replace h := run_t c2 h
      try simp only [↓RA,RB,RS, fx93,p1,p2,p3,p4,reduceIte,p5,p6,p7,p8, c1, c2]
      have h := run_some h
      obtain rfl : _ = r := h
      refine FinH.l ?_
      try simp only [↓RA,RB,RS, fx93,p1,p2,p3,p4,reduceIte,p5,p6,p7,p8, c1, c2]
    · replace h := run_f c2 h
      try simp only [↓RA,RB,RS, fx93,p1,p2,p3,p4,reduceIte,p5,p6,p7,p8, c1, c2]
      have h := run_some h
      obtain rfl : _ = r := h
      refine FinH.l ?_
      try simp only [↓RA,RB,RS, fx93,p1,p2,p3,p4,reduceIte,p5,p6,p7,p8, c1, c2]

def fx109 := @TB5
theorem impl_isUpper_sat {a0 : Int}  {r : Bool} (h : impl_isUpper a0 = some r) : Sat Tryz.prog 109 [((Ik .u8) a0)] (B r) := by
  replace h := Run.of h
  unfold impl_isUpper at h
  refine Sat.of_m (nt := 9) (rs := [.tmp 2]) (n := 100000) Tryz.func109 rfl rfl rfl rfl (by simp) ?_
  try simp only [↓RA,RB,RS, fx109,p1,p2,p3,p4,reduceIte,p5,p6,p7,p8]
  refine CondH.mk (fun c1 => ?_) (fun c1 => ?_)
  · replace h := run_t c1 h
    try simp only [↓RA,RB,RS, fx109,p1,p2,p3,p4,reduceIte,p5,p6,p7,p8, c1]
    have h := run_some h
    obtain rfl : _ = r := h
    refine FinH.l ?_
    try simp only [↓RA,RB,RS, fx109,p1,p2,p3,p4,reduceIte,p5,p6,p7,p8, c1]
  · replace h := run_f c1 h
    try simp only [↓RA,RB,RS, fx109,p1,p2,p3,p4,reduceIte,p5,p6,p7,p8, c1]
    have h := run_some h
    obtain rfl : _ = r := h
    refine FinH.l ?_
    try simp only [↓RA,RB,RS, fx109,p1,p2,p3,p4,reduceIte,p5,p6,p7,p8, c1]

def fx110 := @TB5
theorem impl_isLower_sat {a0 : Int}  {r : Bool} (h : impl_isLower a0 = some r) : Sat Tryz.prog 110 [((Ik .u8) a0)] (B r) := by
  replace h := Run.of h
  unfold impl_isLower at h
  refine Sat.of_m (nt := 9) (rs := [.tmp 2]) (n := 100000) Tryz.func110 rfl rfl rfl rfl (by simp) ?_
  try simp only [↓RA,RB,RS, fx110,p1,p2,p3,p4,reduceIte,p5,p6,p7,p8]
  refine CondH.mk (fun c1 => ?_) (fun c1 => ?_)
  · replace h := run_t c1 h
    try simp only [↓RA,RB,RS, fx110,p1,p2,p3,p4,reduceIte,p5,p6,p7,p8, c1]
    have h := run_some h
    obtain rfl : _ = r := h
    refine FinH.l ?_
    try simp only [↓RA,RB,RS, fx110,p1,p2,p3,p4,reduceIte,p5,p6,p7,p8, c1]
  · replace h := run_f c1 h
    try simp only [↓RA,RB,RS, fx110,p1,p2,p3,p4,reduceIte,p5,p6,p7,p8, c1]
    have h := run_some h
    obtain rfl : _ = r := h
    refine FinH.l ?_
    try simp only [↓RA,RB,RS, fx110,p1,p2,p3,p4,reduceIte,p5,p6,p7,p8, c1]

def fx111 := @TB5
theorem impl_isDigit_sat {a0 : Int}  {r : Bool} (h : impl_isDigit a0 = some r) : Sat Tryz.prog 111 [((Ik .u8) a0)] (B r) := by
  replace h := Run.of h
  unfold impl_isDigit at h
  refine Sat.of_m (nt := 9) (rs := [.tmp 2]) (n := 100000) Tryz.func111 rfl rfl rfl rfl (by simp) ?_
  try simp only [↓RA,RB,RS, fx111,p1,p2,p3,p4,reduceIte,p5,p6,p7,p8]
  refine CondH.mk (fun c1 => ?_) (fun c1 => ?_)
  · replace h := run_t c1 h
    try simp only [↓RA,RB,RS, fx111,p1,p2,p3,p4,reduceIte,p5,p6,p7,p8, c1]
    have h := run_some h
    obtain rfl : _ = r := h
    refine FinH.l ?_
    try simp only [↓RA,RB,RS, fx111,p1,p2,p3,p4,reduceIte,p5,p6,p7,p8, c1]
  · replace h := run_f c1 h
    try simp only [↓RA,RB,RS, fx111,p1,p2,p3,p4,reduceIte,p5,p6,p7,p8, c1]
    have h := run_some h
    obtain rfl : _ = r := h
    refine FinH.l ?_
    try simp only [↓RA,RB,RS, fx111,p1,p2,p3,p4,reduceIte,p5,p6,p7,p8, c1]

def fx61 := @TB3
theorem impl_within_sat {a0 : Int} {a1 : Int} {a2 : Int}  {r : Bool} (h : impl_within a0 a1 a2 = some r) : Sat Tryz.prog 61 [(I a0), (I a1), (I a2)] (B r) := by
  replace h := Run.of h
  unfold impl_within at h
  refine Sat.of_m (nt := 15) (rs := [.tmp 6]) (n := 100000) Tryz.func61 rfl rfl rfl rfl (by simp) ?_
  try simp only [↓RA,RB,RS, fx61,p1,p2,p3,p4,reduceIte,p5,p6,p7,p8]
  refine CondH.mk (fun c1 => ?_) (fun c1 => ?_)
  · replace h := run_t c1 h
    try simp only [↓RA,RB,RS, fx61,p1,p2,p3,p4,reduceIte,p5,p6,p7,p8, c1]
    have h := run_some h
    obtain rfl : _ = r := h
    refine FinH.l ?_
    try simp only [↓RA,RB,RS, fx61,p1,p2,p3,p4,reduceIte,p5,p6,p7,p8, c1]
  · replace h := run_f c1 h
    try simp only [↓RA,RB,RS, fx61,p1,p2,p3,p4,reduceIte,p5,p6,p7,p8, c1]
    have h := run_some h
    obtain rfl : _ = r := h
    refine FinH.l ?_
    try simp only [↓RA,RB,RS, fx61,p1,p2,p3,p4,reduceIte,p5,p6,p7,p8, c1]

def fx94 := A @TB3 <| A @TB4 <| A @TB5 <| @TB9
theorem impl_isVariable_sat {a0 : ByteArray}  {r : Bool} (h : impl_isVariable a0 = some r) : Sat Tryz.prog 94 [(Sx a0)] (B r) := by
  replace h := Run.of h
  unfold impl_isVariable at h
  refine Sat.of_m (nt := 40) (rs := [.tmp 2]) (n := 100000) Tryz.func94 rfl rfl rfl rfl (by simp) ?_
  try simp only [↓RA,RB,RS, fx94,p1,p2,p3,p4,reduceIte,p5,p6,p7,p8]
  obtain ⟨N2, hN2, h⟩ := run_bind h
  obtain ⟨hN2a, hN2b⟩ := bnd_some hN2
  replace h := run_loop h
  refine Mg.forN h (fun i2 s2 => [(0, .val (.pv (Sx a0))), (5, .val (.pv (I (a0.size : Int)))), (6, .val (.pv (I (i2 : Int))))]) (fun i2 s2 => []) (St.le_mk2 (by try simp only [↓RA,RB,RS, fx94,p1,p2,p3,p4,reduceIte,p5,p6,p7,p8])) (fun i2 s2 hi h => ?_) (fun s2 h => ?_)
  · have w2 := wrap_succ (i := i2) (by omega)
    try simp only [↓RA,RB,RS, fx94,p1,p2,p3,p4,reduceIte,p5,p6,p7,p8]
    refine CondH.tt (decide_eq_true (by omega)) (fun c1 => ?_)
    try simp only [↓RA,RB,RS, fx94,p1,p2,p3,p4,reduceIte,p5,p6,p7,p8, c1]
    refine CondH.mk (fun c2 => ?_) (fun c2 => ?_)
    · replace h := run_t c2 h
      try simp only [↓RA,RB,RS, fx94,p1,p2,p3,p4,reduceIte,p5,p6,p7,p8, c1, c2]
      obtain ⟨v14, hv14, h⟩ := run_bind h
      refine SidxH.mk hv14 ?_
      try simp only [↓RA,RB,RS, fx94,p1,p2,p3,p4,reduceIte,p5,p6,p7,p8, c1, c2]
      obtain ⟨v15, hv15, h⟩ := run_bind h
      refine CallH.mk [false] (impl_isUpper_sat hv15) ?_ ?_ <;> try simp only [↓RA,RB,RS, fx94,p1,p2,p3,p4,reduceIte,p5,p6,p7,p8, c1, c2]
      refine CondH.mk (fun c3 => ?_) (fun c3 => ?_)
      · replace h := run_t c3 h
        try simp only [↓RA,RB,RS, fx94,p1,p2,p3,p4,reduceIte,p5,p6,p7,p8, c1, c2, c3]
        refine CondH.mk (fun c4 => ?_) (fun c4 => ?_)
        · replace h := run_t c4 h
          try simp only [↓RA,RB,RS, fx94,p1,p2,p3,p4,reduceIte,p5,p6,p7,p8, c1, c2, c3, c4]
          obtain ⟨v24, hv24, h⟩ := run_bind h
          refine SidxH.mk hv24 ?_
          try simp only [↓RA,RB,RS, fx94,p1,p2,p3,p4,reduceIte,p5,p6,p7,p8, c1, c2, c3, c4]
          obtain ⟨v25, hv25, h⟩ := run_bind h
          refine CallH.mk [false] (impl_isLower_sat hv25) ?_ ?_ <;> try simp only [↓RA,RB,RS, fx94,p1,p2,p3,p4,reduceIte,p5,p6,p7,p8, c1, c2, c3, c4]
          refine CondH.mk (fun c5 => ?_) (fun c5 => ?_)
          · replace h := run_t c5 h
            try simp only [↓RA,RB,RS, fx94,p1,p2,p3,p4,reduceIte,p5,p6,p7,p8, c1, c2, c3, c4, c5]
            have h := run_some h
            refine RdH.mk ⟨_, h, ?_⟩
            refine St.le_mk2 ?_
            try simp only [↓RA,RB,RS, fx94,p1,p2,p3,p4,reduceIte,p5,p6,p7,p8, c1, c2, c3, c4, c5, w2]
          · replace h := run_f c5 h
            try simp only [↓RA,RB,RS, fx94,p1,p2,p3,p4,reduceIte,p5,p6,p7,p8, c1, c2, c3, c4, c5]
            obtain ⟨v31, hv31, h⟩ := run_bind h
            refine SidxH.mk hv31 ?_
            try simp only [↓RA,RB,RS, fx94,p1,p2,p3,p4,reduceIte,p5,p6,p7,p8, c1, c2, c3, c4, c5]
            obtain ⟨v32, hv32, h⟩ := run_bind h
            refine CallH.mk [false] (impl_isDigit_sat hv32) ?_ ?_ <;> try simp only [↓RA,RB,RS, fx94,p1,p2,p3,p4,reduceIte,p5,p6,p7,p8, c1, c2, c3, c4, c5]
            refine CondH.mk (fun c6 => ?_) (fun c6 => ?_)
            · replace h := run_t c6 h
              try simp only [↓RA,RB,RS, fx94,p1,p2,p3,p4,reduceIte,p5,p6,p7,p8, c1, c2, c3, c4, c5, c6]
              have h := run_some h
              refine RdH.mk ⟨_, h, ?_⟩
              refine St.le_mk2 ?_
              try simp only [↓RA,RB,RS, fx94,p1,p2,p3,p4,reduceIte,p5,p6,p7,p8, c1, c2, c3, c4, c5, c6, w2]
            · replace h := run_f c6 h
              try simp only [↓RA,RB,RS, fx94,p1,p2,p3,p4,reduceIte,p5,p6,p7,p8, c1, c2, c3, c4, c5, c6]
              have h := run_some h
              obtain rfl : _ = r := h
              refine FinH.l ?_
              try simp only [↓RA,RB,RS, fx94,p1,p2,p3,p4,reduceIte,p5,p6,p7,p8, c1, c2, c3, c4, c5, c6]
        · replace h := run_f c4 h
          try simp only [↓RA,RB,RS, fx94,p1,p2,p3,p4,reduceIte,p5,p6,p7,p8, c1, c2, c3, c4]
          have h := run_some h
          refine RdH.mk ⟨_, h, ?_⟩
          refine St.le_mk2 ?_
          try simp only [↓RA,RB,RS, fx94,p1,p2,p3,p4,reduceIte,p5,p6,p7,p8, c1, c2, c3, c4, w2]
      · replace h := run_f c3 h
        try simp only [↓RA,RB,RS, fx94,p1,p2,p3,p4,reduceIte,p5,p6,p7,p8, c1, c2, c3]
        have h := run_some h
        obtain rfl : _ = r := h
        refine FinH.l ?_
        try simp only [↓RA,RB,RS, fx94,p1,p2,p3,p4,reduceIte,p5,p6,p7,p8, c1, c2, c3]
    · replace h := run_f c2 h
      try simp only [↓RA,RB,RS, fx94,p1,p2,p3,p4,reduceIte,p5,p6,p7,p8, c1, c2]
      refine CondH.mk (fun c7 => ?_) (fun c7 => ?_)
      · replace h := run_t c7 h
        try simp only [↓RA,RB,RS, fx94,p1,p2,p3,p4,reduceIte,p5,p6,p7,p8, c1, c2, c7]
        obtain ⟨v24, hv24, h⟩ := run_bind h
        refine SidxH.mk hv24 ?_
        try simp only [↓RA,RB,RS, fx94,p1,p2,p3,p4,reduceIte,p5,p6,p7,p8, c1, c2, c7]
        obtain ⟨v25, hv25, h⟩ := run_bind h
        refine CallH.mk [false] (impl_isLower_sat hv25) ?_ ?_ <;> try simp only [↓RA,RB,RS, fx94,p1,p2,p3,p4,reduceIte,p5,p6,p7,p8, c1, c2, c7]
        refine CondH.mk (fun c8 => ?_) (fun c8 => ?_)
        · replace h := run_t c8 h
          try simp only [↓RA,RB,RS, fx94,p1,p2,p3,p4,reduceIte,p5,p6,p7,p8, c1, c2, c7, c8]
          have h := run_some h
          refine RdH.mk ⟨_, h, ?_⟩
          refine St.le_mk2 ?_
          try simp only [↓RA,RB,RS, fx94,p1,p2,p3,p4,reduceIte,p5,p6,p7,p8, c1, c2, c7, c8, w2]
        · replace h := run_f c8 h
          try simp only [↓RA,RB,RS, fx94,p1,p2,p3,p4,reduceIte,p5,p6,p7,p8, c1, c2, c7, c8]
          obtain ⟨v31, hv31, h⟩ := run_bind h
          refine SidxH.mk hv31 ?_
          try simp only [↓RA,RB,RS, fx94,p1,p2,p3,p4,reduceIte,p5,p6,p7,p8, c1, c2, c7, c8]
          obtain ⟨v32, hv32, h⟩ := run_bind h
          refine CallH.mk [false] (impl_isDigit_sat hv32) ?_ ?_ <;> try simp only [↓RA,RB,RS, fx94,p1,p2,p3,p4,reduceIte,p5,p6,p7,p8, c1, c2, c7, c8]
          refine CondH.mk (fun c9 => ?_) (fun c9 => ?_)
          · replace h := run_t c9 h
            try simp only [↓RA,RB,RS, fx94,p1,p2,p3,p4,reduceIte,p5,p6,p7,p8, c1, c2, c7, c8, c9]
            have h := run_some h
            refine RdH.mk ⟨_, h, ?_⟩
            refine St.le_mk2 ?_
            try simp only [↓RA,RB,RS, fx94,p1,p2,p3,p4,reduceIte,p5,p6,p7,p8, c1, c2, c7, c8, c9, w2]
          · replace h := run_f c9 h
            try simp only [↓RA,RB,RS, fx94,p1,p2,p3,p4,reduceIte,p5,p6,p7,p8, c1, c2, c7, c8, c9]
            have h := run_some h
            obtain rfl : _ = r := h
            refine FinH.l ?_
            try simp only [↓RA,RB,RS, fx94,p1,p2,p3,p4,reduceIte,p5,p6,p7,p8, c1, c2, c7, c8, c9]
      · replace h := run_f c7 h
        try simp only [↓RA,RB,RS, fx94,p1,p2,p3,p4,reduceIte,p5,p6,p7,p8, c1, c2, c7]
        have h := run_some h
        refine RdH.mk ⟨_, h, ?_⟩
        refine St.le_mk2 ?_
        try simp only [↓RA,RB,RS, fx94,p1,p2,p3,p4,reduceIte,p5,p6,p7,p8, c1, c2, c7, w2]
  · try simp only [↓RA,RB,RS, fx94,p1,p2,p3,p4,reduceIte,p5,p6,p7,p8]
    refine CondH.ff (decide_eq_false (by omega)) (fun c10 => ?_)
    try simp only [↓RA,RB,RS, fx94,p1,p2,p3,p4,reduceIte,p5,p6,p7,p8, c10]
    obtain ⟨v39, hv39, h⟩ := run_bind h
    refine CallH.mk [false, false, false] (impl_within_sat hv39) ?_ ?_ <;> try simp only [↓RA,RB,RS, fx94,p1,p2,p3,p4,reduceIte,p5,p6,p7,p8, c10]
    have h := run_some h
    obtain rfl : _ = r := h
    refine FinH.l ?_
    try simp only [↓RA,RB,RS, fx94,p1,p2,p3,p4,reduceIte,p5,p6,p7,p8, c10]

def fx112 := A @TB9 <| @TB34
theorem impl_isEquality_sat {a0 : Term}  {r : Bool} (h : impl_isEquality a0 = some r) : Sat Tryz.prog 112 [((Term.pv false) a0)] (B r) := by
  replace h := Run.of h
  unfold impl_isEquality at h
  refine Sat.of_m (nt := 6) (rs := [.tmp 2]) (n := 100000) Tryz.func112 rfl rfl rfl rfl (by simp) ?_
  try simp only [↓RA,RB,RS, fx112,p1,p2,p3,p4,reduceIte,p5,p6,p7,p8]
  repeat (first | with_reducible refine noR_and (by repeat (first | exact noR_empty _ _ | exact noR_nilS _ _ | refine noR_mk _ _ _ _ _ rfl ?_ | refine noR_mkS _ _ _ _ _ rfl ?_)) ?_ | with_reducible refine noC_and (by repeat (first | exact noC_empty _ _ (by try simp only [↓RA,RB,RS, fx112,p1,p2,p3,p4,reduceIte,p5,p6,p7,p8]) | exact noC_nilS _ _ (by try simp only [↓RA,RB,RS, fx112,p1,p2,p3,p4,reduceIte,p5,p6,p7,p8]) | refine noC_mk _ _ _ _ _ rfl ?_ | refine noC_mkS _ _ _ _ _ rfl ?_)) ?_ | with_reducible refine and_ac ?_ | with_reducible refine And.intro (a := _ = List.range _) (by rfl) ?_)
  have h := run_some h
  obtain rfl : _ = r := h
  refine FinH.l ?_
  try simp only [↓RA,RB,RS, fx112,p1,p2,p3,p4,reduceIte,p5,p6,p7,p8]

def fx125 := A @TB3 <| A @TB32 <| @TB34
theorem impl_sizeN_sat (n : Nat) : (∀ (a0 : Term) (r : Int), impl_sizeN n a0 = some r → Sat Tryz.prog 125 [((Term.pv false) a0)] (I r)) := by
  induction n with
  | zero => exact fun _ _ h => by simp [impl_sizeN] at h
  | succ n ih =>
    refine fun a0 r h => ?_
    replace h := Run.of h
    rw [impl_sizeN] at h
    refine Sat.of_m (nt := 22) (rs := [.tmp 2]) (n := 100000) Tryz.func125 rfl rfl rfl rfl (by simp) ?_
    try simp only [↓RA,RB,RS, fx125,p1,p2,p3,p4,reduceIte,p5,p6,p7,p8]
    repeat (first | with_reducible refine noR_and (by repeat (first | exact noR_empty _ _ | exact noR_nilS _ _ | refine noR_mk _ _ _ _ _ rfl ?_ | refine noR_mkS _ _ _ _ _ rfl ?_)) ?_ | with_reducible refine noC_and (by repeat (first | exact noC_empty _ _ (by try simp only [↓RA,RB,RS, fx125,p1,p2,p3,p4,reduceIte,p5,p6,p7,p8]) | exact noC_nilS _ _ (by try simp only [↓RA,RB,RS, fx125,p1,p2,p3,p4,reduceIte,p5,p6,p7,p8]) | refine noC_mk _ _ _ _ _ rfl ?_ | refine noC_mkS _ _ _ _ _ rfl ?_)) ?_ | with_reducible refine and_ac ?_ | with_reducible refine And.intro (a := _ = List.range _) (by rfl) ?_)
    refine Mg.know_sl (b := false) (sz := 2) (es := a0.Args.map (Term.pv false)) 7 (by try simp only [↓RA,RB,RS, fx125,p1,p2,p3,p4,reduceIte,p5,p6,p7,p8]) fun hl7 => ?_; rw [List.length_map] at hl7
    replace h := run_loop h
    refine Mg.forN h (fun i3 s3 => [(3, .val (.pv (I s3))), (7, .val (.pv (.sl false 2 (a0.Args.map (Term.pv false))))), (8, .val (.pv (I (a0.Args.length : Int)))), (9, .val (.pv (I (i3 : Int))))]) (fun i3 s3 => []) (St.le_mk2 (by try simp only [↓RA,RB,RS, fx125,p1,p2,p3,p4,reduceIte,p5,p6,p7,p8])) (fun i3 s3 hi h => ?_) (fun s3 h => ?_)
    · have w3 := wrap_succ (i := i3) (by omega)
      try simp only [↓RA,RB,RS, fx125,p1,p2,p3,p4,reduceIte,p5,p6,p7,p8]
      refine CondH.tt (decide_eq_true (by omega)) (fun c1 => ?_)
      try simp only [↓RA,RB,RS, fx125,p1,p2,p3,p4,reduceIte,p5,p6,p7,p8, c1]
      obtain ⟨v11, hv11, h⟩ := run_bind h
      refine IdxH.mk (f := (Term.pv false)) hv11 ?_ ?_ <;> try simp only [↓RA,RB,RS, fx125,p1,p2,p3,p4,reduceIte,p5,p6,p7,p8, c1]
      repeat (first | with_reducible refine noR_and (by repeat (first | exact noR_empty _ _ | exact noR_nilS _ _ | refine noR_mk _ _ _ _ _ rfl ?_ | refine noR_mkS _ _ _ _ _ rfl ?_)) ?_ | with_reducible refine noC_and (by repeat (first | exact noC_empty _ _ (by try simp only [↓RA,RB,RS, fx125,p1,p2,p3,p4,reduceIte,p5,p6,p7,p8]) | exact noC_nilS _ _ (by try simp only [↓RA,RB,RS, fx125,p1,p2,p3,p4,reduceIte,p5,p6,p7,p8]) | refine noC_mk _ _ _ _ _ rfl ?_ | refine noC_mkS _ _ _ _ _ rfl ?_)) ?_ | with_reducible refine and_ac ?_ | with_reducible refine And.intro (a := _ = List.range _) (by rfl) ?_)
      refine CondH.mk (fun c2 => ?_) (fun c2 => ?_)
      · replace h := run_t c2 h
        try simp only [↓RA,RB,RS, fx125,p1,p2,p3,p4,reduceIte,p5,p6,p7,p8, c1, c2]
        have h := run_some h
        obtain rfl : _ = r := h
        refine FinH.l ?_
        try simp only [↓RA,RB,RS, fx125,p1,p2,p3,p4,reduceIte,p5,p6,p7,p8, c1, c2]
      · replace h := run_f c2 h
        try simp only [↓RA,RB,RS, fx125,p1,p2,p3,p4,reduceIte,p5,p6,p7,p8, c1, c2]
        obtain ⟨v18, hv18, h⟩ := run_bind h
        refine CallH.mk [false] (ih _ _ hv18) ?_ ?_ <;> try simp only [↓RA,RB,RS, fx125,p1,p2,p3,p4,reduceIte,p5,p6,p7,p8, c1, c2]
        have h := run_some h
        refine RdH.mk ⟨_, h, ?_⟩
        refine St.le_mk2 ?_
        try simp only [↓RA,RB,RS, fx125,p1,p2,p3,p4,reduceIte,p5,p6,p7,p8, c1, c2, w3]
    · try simp only [↓RA,RB,RS, fx125,p1,p2,p3,p4,reduceIte,p5,p6,p7,p8]
      refine CondH.ff (decide_eq_false (by omega)) (fun c3 => ?_)
      try simp only [↓RA,RB,RS, fx125,p1,p2,p3,p4,reduceIte,p5,p6,p7,p8, c3]
      have h := run_some h
      obtain rfl : _ = r := h
      refine FinH.l ?_
      try simp only [↓RA,RB,RS, fx125,p1,p2,p3,p4,reduceIte,p5,p6,p7,p8, c3]
theorem impl_size_sat {a0 : Term} {r : Int} (h : impl_size a0 = some r) : Sat Tryz.prog 125 [((Term.pv false) a0)] (I r) := by
  obtain ⟨n, hn⟩ := lim_some h
  exact (impl_sizeN_sat n) _ _ hn

def fx126 := A @TB3 <| A @TB32 <| @TB34
theorem impl_depthN_sat (n : Nat) : (∀ (a0 : Term) (r : Int), impl_depthN n a0 = some r → Sat Tryz.prog 126 [((Term.pv false) a0)] (I r)) := by
  induction n with
  | zero => exact fun _ _ h => by simp [impl_depthN] at h
  | succ n ih =>
    refine fun a0 r h => ?_
    replace h := Run.of h
    rw [impl_depthN] at h
    refine Sat.of_m (nt := 20) (rs := [.tmp 2]) (n := 100000) Tryz.func126 rfl rfl rfl rfl (by simp) ?_
    try simp only [↓RA,RB,RS, fx126,p1,p2,p3,p4,reduceIte,p5,p6,p7,p8]
    repeat (first | with_reducible refine noR_and (by repeat (first | exact noR_empty _ _ | exact noR_nilS _ _ | refine noR_mk _ _ _ _ _ rfl ?_ | refine noR_mkS _ _ _ _ _ rfl ?_)) ?_ | with_reducible refine noC_and (by repeat (first | exact noC_empty _ _ (by try simp only [↓RA,RB,RS, fx126,p1,p2,p3,p4,reduceIte,p5,p6,p7,p8]) | exact noC_nilS _ _ (by try simp only [↓RA,RB,RS, fx126,p1,p2,p3,p4,reduceIte,p5,p6,p7,p8]) | refine noC_mk _ _ _ _ _ rfl ?_ | refine noC_mkS _ _ _ _ _ rfl ?_)) ?_ | with_reducible refine and_ac ?_ | with_reducible refine And.intro (a := _ = List.range _) (by rfl) ?_)
    refine Mg.know_sl (b := false) (sz := 2) (es := a0.Args.map (Term.pv false)) 7 (by try simp only [↓RA,RB,RS, fx126,p1,p2,p3,p4,reduceIte,p5,p6,p7,p8]) fun hl7 => ?_; rw [List.length_map] at hl7
    replace h := run_loop h
    refine Mg.forN h (fun i3 s3 => [(3, .val (.pv (I s3))), (7, .val (.pv (.sl false 2 (a0.Args.map (Term.pv false))))), (8, .val (.pv (I (a0.Args.length : Int)))), (9, .val (.pv (I (i3 : Int))))]) (fun i3 s3 => []) (St.le_mk2 (by try simp only [↓RA,RB,RS, fx126,p1,p2,p3,p4,reduceIte,p5,p6,p7,p8])) (fun i3 s3 hi h => ?_) (fun s3 h => ?_)
    · have w3 := wrap_succ (i := i3) (by omega)
      try simp only [↓RA,RB,RS, fx126,p1,p2,p3,p4,reduceIte,p5,p6,p7,p8]
      refine CondH.tt (decide_eq_true (by omega)) (fun c1 => ?_)
      try simp only [↓RA,RB,RS, fx126,p1,p2,p3,p4,reduceIte,p5,p6,p7,p8, c1]
      obtain ⟨v11, hv11, h⟩ := run_bind h
      refine IdxH.mk (f := (Term.pv false)) hv11 ?_ ?_ <;> try simp only [↓RA,RB,RS, fx126,p1,p2,p3,p4,reduceIte,p5,p6,p7,p8, c1]
      repeat (first | with_reducible refine noR_and (by repeat (first | exact noR_empty _ _ | exact noR_nilS _ _ | refine noR_mk _ _ _ _ _ rfl ?_ | refine noR_mkS _ _ _ _ _ rfl ?_)) ?_ | with_reducible refine noC_and (by repeat (first | exact noC_empty _ _ (by try simp only [↓RA,RB,RS, fx126,p1,p2,p3,p4,reduceIte,p5,p6,p7,p8]) | exact noC_nilS _ _ (by try simp only [↓RA,RB,RS, fx126,p1,p2,p3,p4,reduceIte,p5,p6,p7,p8]) | refine noC_mk _ _ _ _ _ rfl ?_ | refine noC_mkS _ _ _ _ _ rfl ?_)) ?_ | with_reducible refine and_ac ?_ | with_reducible refine And.intro (a := _ = List.range _) (by rfl) ?_)
      obtain ⟨v15, hv15, h⟩ := run_bind h
      refine CallH.mk [false] (ih _ _ hv15) ?_ ?_ <;> try simp only [↓RA,RB,RS, fx126,p1,p2,p3,p4,reduceIte,p5,p6,p7,p8, c1]
      have h := run_some h
      refine RdH.mk ⟨_, h, ?_⟩
      refine St.le_mk2 ?_
      try simp only [↓RA,RB,RS, fx126,p1,p2,p3,p4,reduceIte,p5,p6,p7,p8, c1, w3]
    · try simp only [↓RA,RB,RS, fx126,p1,p2,p3,p4,reduceIte,p5,p6,p7,p8]
      refine CondH.ff (decide_eq_false (by omega)) (fun c2 => ?_)
      try simp only [↓RA,RB,RS, fx126,p1,p2,p3,p4,reduceIte,p5,p6,p7,p8, c2]
      have h := run_some h
      obtain rfl : _ = r := h
      refine FinH.l ?_
      try simp only [↓RA,RB,RS, fx126,p1,p2,p3,p4,reduceIte,p5,p6,p7,p8, c2]
theorem impl_depth_sat {a0 : Term} {r : Int} (h : impl_depth a0 = some r) : Sat Tryz.prog 126 [((Term.pv false) a0)] (I r) := by
  obtain ⟨n, hn⟩ := lim_some h
  exact (impl_depthN_sat n) _ _ hn

def fx113 := A @TB3 <| @TB34
theorem impl_isSmall_sat {a0 : Term}  {r : Bool} (h : impl_isSmall a0 = some r) : Sat Tryz.prog 113 [((Term.pv false) a0)] (B r) := by
  replace h := Run.of h
  unfold impl_isSmall at h
  refine Sat.of_m (nt := 11) (rs := [.tmp 2]) (n := 100000) Tryz.func113 rfl rfl rfl rfl (by simp) ?_
  try simp only [↓RA,RB,RS, fx113,p1,p2,p3,p4,reduceIte,p5,p6,p7,p8]
  repeat (first | with_reducible refine noR_and (by repeat (first | exact noR_empty _ _ | exact noR_nilS _ _ | refine noR_mk _ _ _ _ _ rfl ?_ | refine noR_mkS _ _ _ _ _ rfl ?_)) ?_ | with_reducible refine noC_and (by repeat (first | exact noC_empty _ _ (by try simp only [↓RA,RB,RS, fx113,p1,p2,p3,p4,reduceIte,p5,p6,p7,p8]) | exact noC_nilS _ _ (by try simp only [↓RA,RB,RS, fx113,p1,p2,p3,p4,reduceIte,p5,p6,p7,p8]) | refine noC_mk _ _ _ _ _ rfl ?_ | refine noC_mkS _ _ _ _ _ rfl ?_)) ?_ | with_reducible refine and_ac ?_ | with_reducible refine And.intro (a := _ = List.range _) (by rfl) ?_)
  obtain ⟨v4, hv4, h⟩ := run_bind h
  refine CallH.mk [false] (impl_size_sat hv4) ?_ ?_ <;> try simp only [↓RA,RB,RS, fx113,p1,p2,p3,p4,reduceIte,p5,p6,p7,p8]
  refine CondH.mk (fun c1 => ?_) (fun c1 => ?_)
  · replace h := run_t c1 h
    try simp only [↓RA,RB,RS, fx113,p1,p2,p3,p4,reduceIte,p5,p6,p7,p8, c1]
    obtain ⟨v8, hv8, h⟩ := run_bind h
    refine CallH.mk [false] (impl_depth_sat hv8) ?_ ?_ <;> try simp only [↓RA,RB,RS, fx113,p1,p2,p3,p4,reduceIte,p5,p6,p7,p8, c1]
    have h := run_some h
    obtain rfl : _ = r := h
    refine FinH.l ?_
    try simp only [↓RA,RB,RS, fx113,p1,p2,p3,p4,reduceIte,p5,p6,p7,p8, c1]
  · replace h := run_f c1 h
    try simp only [↓RA,RB,RS, fx113,p1,p2,p3,p4,reduceIte,p5,p6,p7,p8, c1]
    have h := run_some h
    obtain rfl : _ = r := h
    refine FinH.l ?_
    try simp only [↓RA,RB,RS, fx113,p1,p2,p3,p4,reduceIte,p5,p6,p7,p8, c1]

def fx129 := @TB111
theorem impl_reserved_sat   {r : List ByteArray} (h : impl_reserved  = some r) : Sat Tryz.prog 129 [] (.sl true 1 (r.map Sx)) := by
  replace h := Run.of h
  unfold impl_reserved at h
  refine Sat.of_m (nt := 2) (rs := [.tmp 0]) (n := 100000) Tryz.func129 rfl rfl rfl rfl (by simp) ?_
  try simp only [↓RA,RB,RS, fx129,p1,p2,p3,p4,reduceIte,p5,p6,p7,p8]
  repeat (first | with_reducible refine noR_and (by repeat (first | exact noR_empty _ _ | exact noR_nilS _ _ | refine noR_mk _ _ _ _ _ rfl ?_ | refine noR_mkS _ _ _ _ _ rfl ?_)) ?_ | with_reducible refine noC_and (by repeat (first | exact noC_empty _ _ (by try simp only [↓RA,RB,RS, fx129,p1,p2,p3,p4,reduceIte,p5,p6,p7,p8]) | exact noC_nilS _ _ (by try simp only [↓RA,RB,RS, fx129,p1,p2,p3,p4,reduceIte,p5,p6,p7,p8]) | refine noC_mk _ _ _ _ _ rfl ?_ | refine noC_mkS _ _ _ _ _ rfl ?_)) ?_ | with_reducible refine and_ac ?_ | with_reducible refine And.intro (a := _ = List.range _) (by rfl) ?_)
  have h := run_some h
  obtain rfl : _ = r := h
  refine FinH.l ?_
  try simp only [↓RA,RB,RS, fx129,p1,p2,p3,p4,reduceIte,p5,p6,p7,p8]

def fx136 := A @TB3 <| A @TB9 <| @TB111
theorem slices_Index_Sstring_string_sat {a0 : List ByteArray} {a1 : ByteArray}  {r : Int} (h : slices_Index_Sstring_string a0 a1 = some r) : Sat Tryz.prog 136 [(.sl false 1 (a0.map Sx)), (Sx a1)] (I r) := by
  replace h := Run.of h
  unfold slices_Index_Sstring_string at h
  refine Sat.of_m (nt := 19) (rs := [.tmp 4]) (n := 100000) Tryz.func136 rfl rfl rfl rfl (by simp) ?_
  try simp only [↓RA,RB,RS, fx136,p1,p2,p3,p4,reduceIte,p5,p6,p7,p8]
  refine Mg.know_sl (b := false) (sz := 1) (es := a0.map Sx) 0 (by try simp only [↓RA,RB,RS, fx136,p1,p2,p3,p4,reduceIte,p5,p6,p7,p8]) fun hl0 => ?_; rw [List.length_map] at hl0
  replace h := run_loop h
  refine Mg.forN h (fun i2 s2 => [(0, .val (.pv (.sl false 1 (a0.map Sx)))), (1, .val (.pv (Sx a1))), (7, .val (.pv (I (a0.length : Int)))), (8, .val (.pv (I (i2 : Int))))]) (fun i2 s2 => []) (St.le_mk2 (by try simp only [↓RA,RB,RS, fx136,p1,p2,p3,p4,reduceIte,p5,p6,p7,p8])) (fun i2 s2 hi h => ?_) (fun s2 h => ?_)
  · have w2 := wrap_succ (i := i2) (by omega)
    try simp only [↓RA,RB,RS, fx136,p1,p2,p3,p4,reduceIte,p5,p6,p7,p8]
    refine CondH.tt (decide_eq_true (by omega)) (fun c1 => ?_)
    try simp only [↓RA,RB,RS, fx136,p1,p2,p3,p4,reduceIte,p5,p6,p7,p8, c1]
    obtain ⟨v14, hv14, h⟩ := run_bind h
    refine IdxH.mk (f := Sx) hv14 ?_ ?_ <;> try simp only [↓RA,RB,RS, fx136,p1,p2,p3,p4,reduceIte,p5,p6,p7,p8, c1]
    refine CondH.mk (fun c2 => ?_) (fun c2 => ?_)
    · replace h := run_t c2 h
      try simp only [↓RA,RB,RS, fx136,p1,p2,p3,p4,reduceIte,p5,p6,p7,p8, c1, c2]
      have h := run_some h
      obtain rfl : _ = r := h
      refine FinH.l ?_
      try simp only [↓RA,RB,RS, fx136,p1,p2,p3,p4,reduceIte,p5,p6,p7,p8, c1, c2]
    · replace h := run_f c2 h
      try simp only [↓RA,RB,RS, fx136,p1,p2,p3,p4,reduceIte,p5,p6,p7,p8, c1, c2]
      have h := run_some h
      refine RdH.mk ⟨_, h, ?_⟩
      refine St.le_mk2 ?_
      try simp only [↓RA,RB,RS, fx136,p1,p2,p3,p4,reduceIte,p5,p6,p7,p8, c1, c2, w2]
  · try simp only [↓RA,RB,RS, fx136,p1,p2,p3,p4,reduceIte,p5,p6,p7,p8]
    refine CondH.ff (decide_eq_false (by omega)) (fun c3 => ?_)
    try simp only [↓RA,RB,RS, fx136,p1,p2,p3,p4,reduceIte,p5,p6,p7,p8, c3]
    have h := run_some h
    obtain rfl : _ = r := h
    refine FinH.l ?_
    try simp only [↓RA,RB,RS, fx136,p1,p2,p3,p4,reduceIte,p5,p6,p7,p8, c3]

def fx128 := A @TB3 <| A @TB9 <| @TB111
theorem slices_Contains_Sstring_string_sat {a0 : List ByteArray} {a1 : ByteArray}  {r : Bool} (h : slices_Contains_Sstring_string a0 a1 = some r) : Sat Tryz.prog 128 [(.sl false 1 (a0.map Sx)), (Sx a1)] (B r) := by
  replace h := Run.of h
  unfold slices_Contains_Sstring_string at h
  refine Sat.of_m (nt := 9) (rs := [.tmp 4]) (n := 100000) Tryz.func128 rfl rfl rfl rfl (by simp) ?_
  try simp only [↓RA,RB,RS, fx128,p1,p2,p3,p4,reduceIte,p5,p6,p7,p8]
  obtain ⟨v7, hv7, h⟩ := run_bind h
  refine CallH.mk [false, false] (slices_Index_Sstring_string_sat hv7) ?_ ?_ <;> try simp only [↓RA,RB,RS, fx128,p1,p2,p3,p4,reduceIte,p5,p6,p7,p8]
  have h := run_some h
  obtain rfl : _ = r := h
  refine FinH.l ?_
  try simp only [↓RA,RB,RS, fx128,p1,p2,p3,p4,reduceIte,p5,p6,p7,p8]

def fx115 := A @TB3 <| A @TB4 <| A @TB5 <| A @TB9 <| @TB111
theorem impl_isSymbol_sat {a0 : ByteArray}  {r : Bool} (h : impl_isSymbol a0 = some r) : Sat Tryz.prog 115 [(Sx a0)] (B r) := by
  replace h := Run.of h
  unfold impl_isSymbol at h
  refine Sat.of_m (nt := 48) (rs := [.tmp 2]) (n := 100000) Tryz.func115 rfl rfl rfl rfl (by simp) ?_
  try simp only [↓RA,RB,RS, fx115,p1,p2,p3,p4,reduceIte,p5,p6,p7,p8]
  obtain ⟨N2, hN2, h⟩ := run_bind h
  obtain ⟨hN2a, hN2b⟩ := bnd_some hN2
  replace h := run_loop h
  refine Mg.forN h (fun i2 s2 => [(0, .val (.pv (Sx a0))), (5, .val (.pv (I (a0.size : Int)))), (6, .val (.pv (I (i2 : Int))))]) (fun i2 s2 => []) (St.le_mk2 (by try simp only [↓RA,RB,RS, fx115,p1,p2,p3,p4,reduceIte,p5,p6,p7,p8])) (fun i2 s2 hi h => ?_) (fun s2 h => ?_)
  · have w2 := wrap_succ (i := i2) (by omega)
    try simp only [↓RA,RB,RS, fx115,p1,p2,p3,p4,reduceIte,p5,p6,p7,p8]
    refine CondH.tt (decide_eq_true (by omega)) (fun c1 => ?_)
    try simp only [↓RA,RB,RS, fx115,p1,p2,p3,p4,reduceIte,p5,p6,p7,p8, c1]
    refine CondH.mk (fun c2 => ?_) (fun c2 => ?_)
    · replace h := run_t c2 h
      try simp only [↓RA,RB,RS, fx115,p1,p2,p3,p4,reduceIte,p5,p6,p7,p8, c1, c2]
      obtain ⟨v14, hv14, h⟩ := run_bind h
      refine SidxH.mk hv14 ?_
      try simp only [↓RA,RB,RS, fx115,p1,p2,p3,p4,reduceIte,p5,p6,p7,p8, c1, c2]
      obtain ⟨v15, hv15, h⟩ := run_bind h
      refine CallH.mk [false] (impl_isLower_sat hv15) ?_ ?_ <;> try simp only [↓RA,RB,RS, fx115,p1,p2,p3,p4,reduceIte,p5,p6,p7,p8, c1, c2]
      refine CondH.mk (fun c3 => ?_) (fun c3 => ?_)
      · replace h := run_t c3 h
        try simp only [↓RA,RB,RS, fx115,p1,p2,p3,p4,reduceIte,p5,p6,p7,p8, c1, c2, c3]
        obtain ⟨v21, hv21, h⟩ := run_bind h
        refine SidxH.mk hv21 ?_
        try simp only [↓RA,RB,RS, fx115,p1,p2,p3,p4,reduceIte,p5,p6,p7,p8, c1, c2, c3]
        obtain ⟨v22, hv22, h⟩ := run_bind h
        refine CallH.mk [false] (impl_isLower_sat hv22) ?_ ?_ <;> try simp only [↓RA,RB,RS, fx115,p1,p2,p3,p4,reduceIte,p5,p6,p7,p8, c1, c2, c3]
        refine CondH.mk (fun c4 => ?_) (fun c4 => ?_)
        · replace h := run_t c4 h
          try simp only [↓RA,RB,RS, fx115,p1,p2,p3,p4,reduceIte,p5,p6,p7,p8, c1, c2, c3, c4]
          have h := run_some h
          refine RdH.mk ⟨_, h, ?_⟩
          refine St.le_mk2 ?_
          try simp only [↓RA,RB,RS, fx115,p1,p2,p3,p4,reduceIte,p5,p6,p7,p8, c1, c2, c3, c4, w2]
        · replace h := run_f c4 h
          try simp only [↓RA,RB,RS, fx115,p1,p2,p3,p4,reduceIte,p5,p6,p7,p8, c1, c2, c3, c4]
          obtain ⟨v27, hv27, h⟩ := run_bind h
          refine SidxH.mk hv27 ?_
          try simp only [↓RA,RB,RS, fx115,p1,p2,p3,p4,reduceIte,p5,p6,p7,p8, c1, c2, c3, c4]
          obtain ⟨v28, hv28, h⟩ := run_bind h
          refine CallH.mk [false] (impl_isDigit_sat hv28) ?_ ?_ <;> try simp only [↓RA,RB,RS, fx115,p1,p2,p3,p4,reduceIte,p5,p6,p7,p8, c1, c2, c3, c4]
          refine CondH.mk (fun c5 => ?_) (fun c5 => ?_)
          · replace h := run_t c5 h
            try simp only [↓RA,RB,RS, fx115,p1,p2,p3,p4,reduceIte,p5,p6,p7,p8, c1, c2, c3, c4, c5]
            have h := run_some h
            refine RdH.mk ⟨_, h, ?_⟩
            refine St.le_mk2 ?_
            try simp only [↓RA,RB,RS, fx115,p1,p2,p3,p4,reduceIte,p5,p6,p7,p8, c1, c2, c3, c4, c5, w2]
          · replace h := run_f c5 h
            try simp only [↓RA,RB,RS, fx115,p1,p2,p3,p4,reduceIte,p5,p6,p7,p8, c1, c2, c3, c4, c5]
            obtain ⟨v34, hv34, h⟩ := run_bind h
            refine SidxH.mk hv34 ?_
            try simp only [↓RA,RB,RS, fx115,p1,p2,p3,p4,reduceIte,p5,p6,p7,p8, c1, c2, c3, c4, c5]
            refine CondH.mk (fun c6 => ?_) (fun c6 => ?_)
            · replace h := run_t c6 h
              try simp only [↓RA,RB,RS, fx115,p1,p2,p3,p4,reduceIte,p5,p6,p7,p8, c1, c2, c3, c4, c5, c6]
              have h := run_some h
              refine RdH.mk ⟨_, h, ?_⟩
              refine St.le_mk2 ?_
              try simp only [↓RA,RB,RS, fx115,p1,p2,p3,p4,reduceIte,p5,p6,p7,p8, c1, c2, c3, c4, c5, c6, w2]
            · replace h := run_f c6 h
              try simp only [↓RA,RB,RS, fx115,p1,p2,p3,p4,reduceIte,p5,p6,p7,p8, c1, c2, c3, c4, c5, c6]
              have h := run_some h
              obtain rfl : _ = r := h
              refine FinH.l ?_
              try simp only [↓RA,RB,RS, fx115,p1,p2,p3,p4,reduceIte,p5,p6,p7,p8, c1, c2, c3, c4, c5, c6]
      · replace h := run_f c3 h
        try simp only [↓RA,RB,RS, fx115,p1,p2,p3,p4,reduceIte,p5,p6,p7,p8, c1, c2, c3]
        have h := run_some h
        obtain rfl : _ = r := h
        refine FinH.l ?_
        try simp only [↓RA,RB,RS, fx115,p1,p2,p3,p4,reduceIte,p5,p6,p7,p8, c1, c2, c3]
    · replace h := run_f c2 h
      try simp only [↓RA,RB,RS, fx115,p1,p2,p3,p4,reduceIte,p5,p6,p7,p8, c1, c2]
      obtain ⟨v21, hv21, h⟩ := run_bind h
      refine SidxH.mk hv21 ?_
      try simp only [↓RA,RB,RS, fx115,p1,p2,p3,p4,reduceIte,p5,p6,p7,p8, c1, c2]
      obtain ⟨v22, hv22, h⟩ := run_bind h
      refine CallH.mk [false] (impl_isLower_sat hv22) ?_ ?_ <;> try simp only [↓RA,RB,RS, fx115,p1,p2,p3,p4,reduceIte,p5,p6,p7,p8, c1, c2]
      refine CondH.mk (fun c7 => ?_) (fun c7 => ?_)
      · replace h := run_t c7 h
        try simp only [↓RA,RB,RS, fx115,p1,p2,p3,p4,reduceIte,p5,p6,p7,p8, c1, c2, c7]
        have h := run_some h
        refine RdH.mk ⟨_, h, ?_⟩
        refine St.le_mk2 ?_
        try simp only [↓RA,RB,RS, fx115,p1,p2,p3,p4,reduceIte,p5,p6,p7,p8, c1, c2, c7, w2]
      · replace h := run_f c7 h
        try simp only [↓RA,RB,RS, fx115,p1,p2,p3,p4,reduceIte,p5,p6,p7,p8, c1, c2, c7]
        obtain ⟨v27, hv27, h⟩ := run_bind h
        refine SidxH.mk hv27 ?_
        try simp only [↓RA,RB,RS, fx115,p1,p2,p3,p4,reduceIte,p5,p6,p7,p8, c1, c2, c7]
        obtain ⟨v28, hv28, h⟩ := run_bind h
        refine CallH.mk [false] (impl_isDigit_sat hv28) ?_ ?_ <;> try simp only [↓RA,RB,RS, fx115,p1,p2,p3,p4,reduceIte,p5,p6,p7,p8, c1, c2, c7]
        refine CondH.mk (fun c8 => ?_) (fun c8 => ?_)
        · replace h := run_t c8 h
          try simp only [↓RA,RB,RS, fx115,p1,p2,p3,p4,reduceIte,p5,p6,p7,p8, c1, c2, c7, c8]
          have h := run_some h
          refine RdH.mk ⟨_, h, ?_⟩
          refine St.le_mk2 ?_
          try simp only [↓RA,RB,RS, fx115,p1,p2,p3,p4,reduceIte,p5,p6,p7,p8, c1, c2, c7, c8, w2]
        · replace h := run_f c8 h
          try simp only [↓RA,RB,RS, fx115,p1,p2,p3,p4,reduceIte,p5,p6,p7,p8, c1, c2, c7, c8]
          obtain ⟨v34, hv34, h⟩ := run_bind h
          refine SidxH.mk hv34 ?_
          try simp only [↓RA,RB,RS, fx115,p1,p2,p3,p4,reduceIte,p5,p6,p7,p8, c1, c2, c7, c8]
          refine CondH.mk (fun c9 => ?_) (fun c9 => ?_)
          · replace h := run_t c9 h
            try simp only [↓RA,RB,RS, fx115,p1,p2,p3,p4,reduceIte,p5,p6,p7,p8, c1, c2, c7, c8, c9]
            have h := run_some h
            refine RdH.mk ⟨_, h, ?_⟩
            refine St.le_mk2 ?_
            try simp only [↓RA,RB,RS, fx115,p1,p2,p3,p4,reduceIte,p5,p6,p7,p8, c1, c2, c7, c8, c9, w2]
          · replace h := run_f c9 h
            try simp only [↓RA,RB,RS, fx115,p1,p2,p3,p4,reduceIte,p5,p6,p7,p8, c1, c2, c7, c8, c9]
            have h := run_some h
            obtain rfl : _ = r := h
            refine FinH.l ?_
            try simp only [↓RA,RB,RS, fx115,p1,p2,p3,p4,reduceIte,p5,p6,p7,p8, c1, c2, c7, c8, c9]
  · try simp only [↓RA,RB,RS, fx115,p1,p2,p3,p4,reduceIte,p5,p6,p7,p8]
    refine CondH.ff (decide_eq_false (by omega)) (fun c10 => ?_)
    try simp only [↓RA,RB,RS, fx115,p1,p2,p3,p4,reduceIte,p5,p6,p7,p8, c10]
    obtain ⟨v41, hv41, h⟩ := run_bind h
    refine CallH.mk [false, false, false] (impl_within_sat hv41) ?_ ?_ <;> try simp only [↓RA,RB,RS, fx115,p1,p2,p3,p4,reduceIte,p5,p6,p7,p8, c10]
    refine CondH.mk (fun c11 => ?_) (fun c11 => ?_)
    · replace h := run_t c11 h
      try simp only [↓RA,RB,RS, fx115,p1,p2,p3,p4,reduceIte,p5,p6,p7,p8, c10, c11]
      obtain ⟨v43, hv43, h⟩ := run_bind h
      refine CallH.mk [] (impl_reserved_sat hv43) ?_ ?_ <;> try simp only [↓RA,RB,RS, fx115,p1,p2,p3,p4,reduceIte,p5,p6,p7,p8, c10, c11]
      repeat (first | with_reducible refine noR_and (by repeat (first | exact noR_empty _ _ | exact noR_nilS _ _ | refine noR_mk _ _ _ _ _ rfl ?_ | refine noR_mkS _ _ _ _ _ rfl ?_)) ?_ | with_reducible refine noC_and (by repeat (first | exact noC_empty _ _ (by try simp only [↓RA,RB,RS, fx115,p1,p2,p3,p4,reduceIte,p5,p6,p7,p8]) | exact noC_nilS _ _ (by try simp only [↓RA,RB,RS, fx115,p1,p2,p3,p4,reduceIte,p5,p6,p7,p8]) | refine noC_mk _ _ _ _ _ rfl ?_ | refine noC_mkS _ _ _ _ _ rfl ?_)) ?_ | with_reducible refine and_ac ?_ | with_reducible refine And.intro (a := _ = List.range _) (by rfl) ?_)
      obtain ⟨v45, hv45, h⟩ := run_bind h
      refine CallH.mk [false, false] (slices_Contains_Sstring_string_sat hv45) ?_ ?_ <;> try simp only [↓RA,RB,RS, fx115,p1,p2,p3,p4,reduceIte,p5,p6,p7,p8, c10, c11]
      have h := run_some h
      obtain rfl : _ = r := h
      refine FinH.l ?_
      try simp only [↓RA,RB,RS, fx115,p1,p2,p3,p4,reduceIte,p5,p6,p7,p8, c10, c11]
    · replace h := run_f c11 h
      try simp only [↓RA,RB,RS, fx115,p1,p2,p3,p4,reduceIte,p5,p6,p7,p8, c10, c11]
      have h := run_some h
      obtain rfl : _ = r := h
      refine FinH.l ?_
      try simp only [↓RA,RB,RS, fx115,p1,p2,p3,p4,reduceIte,p5,p6,p7,p8, c10, c11]

def fx104 := A @TB3 <| A @TB32 <| @TB34
theorem slices_IndexFunc_Simpl_Term_impl_Term_sat {a0 : List Term} {a1 : Term → Option Bool} {a1_id : FuncId} {a1_cs : List PV} (a1_ok : ∀ y0 r, a1 y0 = some r → Sat Tryz.prog a1_id (((Term.pv false) y0) :: a1_cs) (B r)) (a1_cz : CapsOk a1_cs = True) {r : Int} (h : slices_IndexFunc_Simpl_Term_impl_Term a0 a1 = some r) : Sat Tryz.prog 104 [(.sl false 2 (a0.map (Term.pv false))), .clo a1_id a1_cs] (I r) := by
  replace h := Run.of h
  unfold slices_IndexFunc_Simpl_Term_impl_Term at h
  refine Sat.of_m (nt := 19) (rs := [.tmp 4]) (n := 100000) Tryz.func104 rfl rfl rfl rfl (by simp) ?_
  try simp only [↓RA,RB,RS, fx104, a1_cz,p1,p2,p3,p4,reduceIte,p5,p6,p7,p8]
  refine Mg.know_sl (b := false) (sz := 2) (es := a0.map (Term.pv false)) 0 (by try simp only [↓RA,RB,RS, fx104, a1_cz,p1,p2,p3,p4,reduceIte,p5,p6,p7,p8]) fun hl0 => ?_; rw [List.length_map] at hl0
  replace h := run_loop h
  refine Mg.forN h (fun i2 s2 => [(0, .val (.pv (.sl false 2 (a0.map (Term.pv false))))), (1, .val (.pv (.clo a1_id a1_cs))), (7, .val (.pv (I (a0.length : Int)))), (8, .val (.pv (I (i2 : Int))))]) (fun i2 s2 => []) (St.le_mk2 (by try simp only [↓RA,RB,RS, fx104, a1_cz,p1,p2,p3,p4,reduceIte,p5,p6,p7,p8])) (fun i2 s2 hi h => ?_) (fun s2 h => ?_)
  · have w2 := wrap_succ (i := i2) (by omega)
    try simp only [↓RA,RB,RS, fx104, a1_cz,p1,p2,p3,p4,reduceIte,p5,p6,p7,p8]
    refine CondH.tt (decide_eq_true (by omega)) (fun c1 => ?_)
    try simp only [↓RA,RB,RS, fx104, a1_cz,p1,p2,p3,p4,reduceIte,p5,p6,p7,p8, c1]
    obtain ⟨v14, hv14, h⟩ := run_bind h
    refine IdxH.mk (f := (Term.pv false)) hv14 ?_ ?_ <;> try simp only [↓RA,RB,RS, fx104, a1_cz,p1,p2,p3,p4,reduceIte,p5,p6,p7,p8, c1]
    obtain ⟨v16, hv16, h⟩ := run_bind h
    refine CallH.mk [false] (a1_ok _ _ hv16) ?_ ?_ <;> try simp only [↓RA,RB,RS, fx104, a1_cz,p1,p2,p3,p4,reduceIte,p5,p6,p7,p8, c1]
    refine CondH.mk (fun c2 => ?_) (fun c2 => ?_)
    · replace h := run_t c2 h
      try simp only [↓RA,RB,RS, fx104, a1_cz,p1,p2,p3,p4,reduceIte,p5,p6,p7,p8, c1, c2]
      have h := run_some h
      obtain rfl : _ = r := h
      refine FinH.l ?_
      try simp only [↓RA,RB,RS, fx104, a1_cz,p1,p2,p3,p4,reduceIte,p5,p6,p7,p8, c1, c2]
    · replace h := run_f c2 h
      try simp only [↓RA,RB,RS, fx104, a1_cz,p1,p2,p3,p4,reduceIte,p5,p6,p7,p8, c1, c2]
      have h := run_some h
      refine RdH.mk ⟨_, h, ?_⟩
      refine St.le_mk2 ?_
      try simp only [↓RA,RB,RS, fx104, a1_cz,p1,p2,p3,p4,reduceIte,p5,p6,p7,p8, c1, c2, w2]
  · try simp only [↓RA,RB,RS, fx104, a1_cz,p1,p2,p3,p4,reduceIte,p5,p6,p7,p8]
    refine CondH.ff (decide_eq_false (by omega)) (fun c3 => ?_)
    try simp only [↓RA,RB,RS, fx104, a1_cz,p1,p2,p3,p4,reduceIte,p5,p6,p7,p8, c3]
    have h := run_some h
    obtain rfl : _ = r := h
    refine FinH.l ?_
    try simp only [↓RA,RB,RS, fx104, a1_cz,p1,p2,p3,p4,reduceIte,p5,p6,p7,p8, c3]

def fx100 := A @TB3 <| A @TB32 <| @TB101
theorem slices_ContainsFunc_Simpl_Term_impl_Term_sat {a0 : List Term} {a1 : Term → Option Bool} {a1_id : FuncId} {a1_cs : List PV} (a1_ok : ∀ y0 r, a1 y0 = some r → Sat Tryz.prog a1_id (((Term.pv false) y0) :: a1_cs) (B r)) (a1_cz : CapsOk a1_cs = True) {r : Bool} (h : slices_ContainsFunc_Simpl_Term_impl_Term a0 a1 = some r) : Sat Tryz.prog 100 [(.sl false 2 (a0.map (Term.pv false))), .clo a1_id a1_cs] (B r) := by
  replace h := Run.of h
  unfold slices_ContainsFunc_Simpl_Term_impl_Term at h
  refine Sat.of_m (nt := 9) (rs := [.tmp 4]) (n := 100000) Tryz.func100 rfl rfl rfl rfl (by simp) ?_
  try simp only [↓RA,RB,RS, fx100, a1_cz,p1,p2,p3,p4,reduceIte,p5,p6,p7,p8]
  obtain ⟨v7, hv7, h⟩ := run_bind h
  refine CallH.mk [false, false] (slices_IndexFunc_Simpl_Term_impl_Term_sat a1_ok a1_cz hv7) ?_ ?_ <;> try simp only [↓RA,RB,RS, fx100, a1_cz,p1,p2,p3,p4,reduceIte,p5,p6,p7,p8]
  have h := run_some h
  obtain rfl : _ = r := h
  refine FinH.l ?_
  try simp only [↓RA,RB,RS, fx100, a1_cz,p1,p2,p3,p4,reduceIte,p5,p6,p7,p8]

def fx114 := A @TB3 <| A @TB4 <| A @TB9 <| A @TB32 <| A @TB34 <| @TB101
def fx127 := A @TB4 <| @TB34
theorem impl_hasNamesN_sat (n : Nat) : (∀ (a0 : Term) (r : Bool), impl_hasNamesN n a0 = some r → Sat Tryz.prog 114 [((Term.pv false) a0)] (B r)) ∧ (∀ (a0 : Term) (r : Bool), impl_hasNames_1N n a0 = some r → Sat Tryz.prog 127 [((Term.pv false) a0)] (B r)) := by
  induction n with
  | zero => exact ⟨fun _ _ h => by simp [impl_hasNamesN] at h, fun _ _ h => by simp [impl_hasNames_1N] at h⟩
  | succ n ih =>
    refine ⟨fun a0 r h => ?_, fun a0 r h => ?_⟩
    · replace h := Run.of h
      rw [impl_hasNamesN] at h
      refine Sat.of_m (nt := 25) (rs := [.tmp 2]) (n := 100000) Tryz.func114 rfl rfl rfl rfl (by simp) ?_
      try simp only [↓RA,RB,RS, fx114,p1,p2,p3,p4,reduceIte,p5,p6,p7,p8]
      repeat (first | with_reducible refine noR_and (by repeat (first | exact noR_empty _ _ | exact noR_nilS _ _ | refine noR_mk _ _ _ _ _ rfl ?_ | refine noR_mkS _ _ _ _ _ rfl ?_)) ?_ | with_reducible refine noC_and (by repeat (first | exact noC_empty _ _ (by try simp only [↓RA,RB,RS, fx114,p1,p2,p3,p4,reduceIte,p5,p6,p7,p8]) | exact noC_nilS _ _ (by try simp only [↓RA,RB,RS, fx114,p1,p2,p3,p4,reduceIte,p5,p6,p7,p8]) | refine noC_mk _ _ _ _ _ rfl ?_ | refine noC_mkS _ _ _ _ _ rfl ?_)) ?_ | with_reducible refine and_ac ?_ | with_reducible refine And.intro (a := _ = List.range _) (by rfl) ?_)
      obtain ⟨v5, hv5, h⟩ := run_bind h
      refine CallH.mk [false] (impl_isVariable_sat hv5) ?_ ?_ <;> try simp only [↓RA,RB,RS, fx114,p1,p2,p3,p4,reduceIte,p5,p6,p7,p8]
      refine CondH.mk (fun c1 => ?_) (fun c1 => ?_)
      · replace h := run_t c1 h
        try simp only [↓RA,RB,RS, fx114,p1,p2,p3,p4,reduceIte,p5,p6,p7,p8, c1]
        have h := run_some h
        obtain rfl : _ = r := h
        refine FinH.l ?_
        try simp only [↓RA,RB,RS, fx114,p1,p2,p3,p4,reduceIte,p5,p6,p7,p8, c1]
      · replace h := run_f c1 h
        try simp only [↓RA,RB,RS, fx114,p1,p2,p3,p4,reduceIte,p5,p6,p7,p8, c1]
        obtain ⟨v12, hv12, h⟩ := run_bind h
        refine CallH.mk [false] (impl_isSymbol_sat hv12) ?_ ?_ <;> try simp only [↓RA,RB,RS, fx114,p1,p2,p3,p4,reduceIte,p5,p6,p7,p8, c1]
        refine CondH.mk (fun c2 => ?_) (fun c2 => ?_)
        · replace h := run_t c2 h
          try simp only [↓RA,RB,RS, fx114,p1,p2,p3,p4,reduceIte,p5,p6,p7,p8, c1, c2]
          refine CondH.mk (fun c3 => ?_) (fun c3 => ?_)
          · replace h := run_t c3 h
            try simp only [↓RA,RB,RS, fx114,p1,p2,p3,p4,reduceIte,p5,p6,p7,p8, c1, c2, c3]
            obtain ⟨v22, hv22, h⟩ := run_bind h
            refine CallH.mk [false, false] (slices_ContainsFunc_Simpl_Term_impl_Term_sat (fun _ _ hh => ih.2 _ _ hh) (by simp only [CapsOk_nil, CapsOk_cons]) hv22) ?_ ?_ <;> try simp only [↓RA,RB,RS, fx114,p1,p2,p3,p4,reduceIte,p5,p6,p7,p8, c1, c2, c3]
            have h := run_some h
            obtain rfl : _ = r := h
            refine FinH.l ?_
            try simp only [↓RA,RB,RS, fx114,p1,p2,p3,p4,reduceIte,p5,p6,p7,p8, c1, c2, c3]
          · replace h := run_f c3 h
            try simp only [↓RA,RB,RS, fx114,p1,p2,p3,p4,reduceIte,p5,p6,p7,p8, c1, c2, c3]
            have h := run_some h
            obtain rfl : _ = r := h
            refine FinH.l ?_
            try simp only [↓RA,RB,RS, fx114,p1,p2,p3,p4,reduceIte,p5,p6,p7,p8, c1, c2, c3]
        · replace h := run_f c2 h
          try simp only [↓RA,RB,RS, fx114,p1,p2,p3,p4,reduceIte,p5,p6,p7,p8, c1, c2]
          have h := run_some h
          obtain rfl : _ = r := h
          refine FinH.l ?_
          try simp only [↓RA,RB,RS, fx114,p1,p2,p3,p4,reduceIte,p5,p6,p7,p8, c1, c2]
    · replace h := Run.of h
      rw [impl_hasNames_1N] at h
      refine Sat.of_m (nt := 6) (rs := [.tmp 2]) (n := 100000) Tryz.func127 rfl rfl rfl rfl (by simp) ?_
      try simp only [↓RA,RB,RS, fx127,p1,p2,p3,p4,reduceIte,p5,p6,p7,p8]
      repeat (first | with_reducible refine noR_and (by repeat (first | exact noR_empty _ _ | exact noR_nilS _ _ | refine noR_mk _ _ _ _ _ rfl ?_ | refine noR_mkS _ _ _ _ _ rfl ?_)) ?_ | with_reducible refine noC_and (by repeat (first | exact noC_empty _ _ (by try simp only [↓RA,RB,RS, fx127,p1,p2,p3,p4,reduceIte,p5,p6,p7,p8]) | exact noC_nilS _ _ (by try simp only [↓RA,RB,RS, fx127,p1,p2,p3,p4,reduceIte,p5,p6,p7,p8]) | refine noC_mk _ _ _ _ _ rfl ?_ | refine noC_mkS _ _ _ _ _ rfl ?_)) ?_ | with_reducible refine and_ac ?_ | with_reducible refine And.intro (a := _ = List.range _) (by rfl) ?_)
      obtain ⟨v4, hv4, h⟩ := run_bind h
      refine CallH.mk [false] (ih.1 _ _ hv4) ?_ ?_ <;> try simp only [↓RA,RB,RS, fx127,p1,p2,p3,p4,reduceIte,p5,p6,p7,p8]
      have h := run_some h
      obtain rfl : _ = r := h
      refine FinH.l ?_
      try simp only [↓RA,RB,RS, fx127,p1,p2,p3,p4,reduceIte,p5,p6,p7,p8]
theorem impl_hasNames_sat {a0 : Term} {r : Bool} (h : impl_hasNames a0 = some r) : Sat Tryz.prog 114 [((Term.pv false) a0)] (B r) := by
  obtain ⟨n, hn⟩ := lim_some h
  exact (impl_hasNamesN_sat n).1 _ _ hn
theorem impl_hasNames_1_sat {a0 : Term} {r : Bool} (h : impl_hasNames_1 a0 = some r) : Sat Tryz.prog 127 [((Term.pv false) a0)] (B r) := by
  obtain ⟨n, hn⟩ := lim_some h
  exact (impl_hasNamesN_sat n).2 _ _ hn

def fx116 := @TB34
theorem impl_IsValidTerm_sat {a0 : Term}  {r : Bool} (h : impl_IsValidTerm a0 = some r) : Sat Tryz.prog 116 [((Term.pv false) a0)] (B r) := by
  replace h := Run.of h
  unfold impl_IsValidTerm at h
  refine Sat.of_m (nt := 9) (rs := [.tmp 2]) (n := 100000) Tryz.func116 rfl rfl rfl rfl (by simp) ?_
  try simp only [↓RA,RB,RS, fx116,p1,p2,p3,p4,reduceIte,p5,p6,p7,p8]
  repeat (first | with_reducible refine noR_and (by repeat (first | exact noR_empty _ _ | exact noR_nilS _ _ | refine noR_mk _ _ _ _ _ rfl ?_ | refine noR_mkS _ _ _ _ _ rfl ?_)) ?_ | with_reducible refine noC_and (by repeat (first | exact noC_empty _ _ (by try simp only [↓RA,RB,RS, fx116,p1,p2,p3,p4,reduceIte,p5,p6,p7,p8]) | exact noC_nilS _ _ (by try simp only [↓RA,RB,RS, fx116,p1,p2,p3,p4,reduceIte,p5,p6,p7,p8]) | refine noC_mk _ _ _ _ _ rfl ?_ | refine noC_mkS _ _ _ _ _ rfl ?_)) ?_ | with_reducible refine and_ac ?_ | with_reducible refine And.intro (a := _ = List.range _) (by rfl) ?_)
  obtain ⟨v4, hv4, h⟩ := run_bind h
  refine CallH.mk [false] (impl_isSmall_sat hv4) ?_ ?_ <;> try simp only [↓RA,RB,RS, fx116,p1,p2,p3,p4,reduceIte,p5,p6,p7,p8]
  refine CondH.mk (fun c1 => ?_) (fun c1 => ?_)
  · replace h := run_t c1 h
    try simp only [↓RA,RB,RS, fx116,p1,p2,p3,p4,reduceIte,p5,p6,p7,p8, c1]
    obtain ⟨v7, hv7, h⟩ := run_bind h
    refine CallH.mk [false] (impl_hasNames_sat hv7) ?_ ?_ <;> try simp only [↓RA,RB,RS, fx116,p1,p2,p3,p4,reduceIte,p5,p6,p7,p8, c1]
    have h := run_some h
    obtain rfl : _ = r := h
    refine FinH.l ?_
    try simp only [↓RA,RB,RS, fx116,p1,p2,p3,p4,reduceIte,p5,p6,p7,p8, c1]
  · replace h := run_f c1 h
    try simp only [↓RA,RB,RS, fx116,p1,p2,p3,p4,reduceIte,p5,p6,p7,p8, c1]
    have h := run_some h
    obtain rfl : _ = r := h
    refine FinH.l ?_
    try simp only [↓RA,RB,RS, fx116,p1,p2,p3,p4,reduceIte,p5,p6,p7,p8, c1]

def fx95 := A @TB3 <| A @TB9 <| A @TB32 <| @TB34
theorem impl_IsValidAtom_sat {a0 : Term}  {r : Bool} (h : impl_IsValidAtom a0 = some r) : Sat Tryz.prog 95 [((Term.pv false) a0)] (B r) := by
  replace h := Run.of h
  unfold impl_IsValidAtom at h
  refine Sat.of_m (nt := 34) (rs := [.tmp 2]) (n := 100000) Tryz.func95 rfl rfl rfl rfl (by simp) ?_
  try simp only [↓RA,RB,RS, fx95,p1,p2,p3,p4,reduceIte,p5,p6,p7,p8]
  repeat (first | with_reducible refine noR_and (by repeat (first | exact noR_empty _ _ | exact noR_nilS _ _ | refine noR_mk _ _ _ _ _ rfl ?_ | refine noR_mkS _ _ _ _ _ rfl ?_)) ?_ | with_reducible refine noC_and (by repeat (first | exact noC_empty _ _ (by try simp only [↓RA,RB,RS, fx95,p1,p2,p3,p4,reduceIte,p5,p6,p7,p8]) | exact noC_nilS _ _ (by try simp only [↓RA,RB,RS, fx95,p1,p2,p3,p4,reduceIte,p5,p6,p7,p8]) | refine noC_mk _ _ _ _ _ rfl ?_ | refine noC_mkS _ _ _ _ _ rfl ?_)) ?_ | with_reducible refine and_ac ?_ | with_reducible refine And.intro (a := _ = List.range _) (by rfl) ?_)
  obtain ⟨v4, hv4, h⟩ := run_bind h
  refine CallH.mk [false] (impl_isEquality_sat hv4) ?_ ?_ <;> try simp only [↓RA,RB,RS, fx95,p1,p2,p3,p4,reduceIte,p5,p6,p7,p8]
  refine CondH.mk (fun c1 => ?_) (fun c1 => ?_)
  · replace h := run_t c1 h
    try simp only [↓RA,RB,RS, fx95,p1,p2,p3,p4,reduceIte,p5,p6,p7,p8, c1]
    refine CondH.mk (fun c2 => ?_) (fun c2 => ?_)
    · replace h := run_t c2 h
      try simp only [↓RA,RB,RS, fx95,p1,p2,p3,p4,reduceIte,p5,p6,p7,p8, c1, c2]
      obtain ⟨v11, hv11, h⟩ := run_bind h
      refine CallH.mk [false] (impl_isSmall_sat hv11) ?_ ?_ <;> try simp only [↓RA,RB,RS, fx95,p1,p2,p3,p4,reduceIte,p5,p6,p7,p8, c1, c2]
      refine CondH.mk (fun c3 => ?_) (fun c3 => ?_)
      · replace h := run_t c3 h
        try simp only [↓RA,RB,RS, fx95,p1,p2,p3,p4,reduceIte,p5,p6,p7,p8, c1, c2, c3]
        obtain ⟨v16, hv16, h⟩ := run_bind h
        refine IdxH.mk (f := (Term.pv false)) hv16 ?_ ?_ <;> try simp only [↓RA,RB,RS, fx95,p1,p2,p3,p4,reduceIte,p5,p6,p7,p8, c1, c2, c3]
        obtain ⟨v18, hv18, h⟩ := run_bind h
        refine CallH.mk [false] (impl_hasNames_sat hv18) ?_ ?_ <;> try simp only [↓RA,RB,RS, fx95,p1,p2,p3,p4,reduceIte,p5,p6,p7,p8, c1, c2, c3]
        refine CondH.mk (fun c4 => ?_) (fun c4 => ?_)
        · replace h := run_t c4 h
          try simp only [↓RA,RB,RS, fx95,p1,p2,p3,p4,reduceIte,p5,p6,p7,p8, c1, c2, c3, c4]
          obtain ⟨v23, hv23, h⟩ := run_bind h
          refine IdxH.mk (f := (Term.pv false)) hv23 ?_ ?_ <;> try simp only [↓RA,RB,RS, fx95,p1,p2,p3,p4,reduceIte,p5,p6,p7,p8, c1, c2, c3, c4]
          obtain ⟨v25, hv25, h⟩ := run_bind h
          refine CallH.mk [false] (impl_hasNames_sat hv25) ?_ ?_ <;> try simp only [↓RA,RB,RS, fx95,p1,p2,p3,p4,reduceIte,p5,p6,p7,p8, c1, c2, c3, c4]
          have h := run_some h
          obtain rfl : _ = r := h
          refine FinH.l ?_
          try simp only [↓RA,RB,RS, fx95,p1,p2,p3,p4,reduceIte,p5,p6,p7,p8, c1, c2, c3, c4]
        · replace h := run_f c4 h
          try simp only [↓RA,RB,RS, fx95,p1,p2,p3,p4,reduceIte,p5,p6,p7,p8, c1, c2, c3, c4]
          have h := run_some h
          obtain rfl : _ = r := h
          refine FinH.l ?_
          try simp only [↓RA,RB,RS, fx95,p1,p2,p3,p4,reduceIte,p5,p6,p7,p8, c1, c2, c3, c4]
      · replace h := run_f c3 h
        try simp only [↓RA,RB,RS, fx95,p1,p2,p3,p4,reduceIte,p5,p6,p7,p8, c1, c2, c3]
        have h := run_some h
        obtain rfl : _ = r := h
        refine FinH.l ?_
        try simp only [↓RA,RB,RS, fx95,p1,p2,p3,p4,reduceIte,p5,p6,p7,p8, c1, c2, c3]
    · replace h := run_f c2 h
      try simp only [↓RA,RB,RS, fx95,p1,p2,p3,p4,reduceIte,p5,p6,p7,p8, c1, c2]
      have h := run_some h
      obtain rfl : _ = r := h
      refine FinH.l ?_
      try simp only [↓RA,RB,RS, fx95,p1,p2,p3,p4,reduceIte,p5,p6,p7,p8, c1, c2]
  · replace h := run_f c1 h
    try simp only [↓RA,RB,RS, fx95,p1,p2,p3,p4,reduceIte,p5,p6,p7,p8, c1]
    obtain ⟨v29, hv29, h⟩ := run_bind h
    refine CallH.mk [false] (impl_isSymbol_sat hv29) ?_ ?_ <;> try simp only [↓RA,RB,RS, fx95,p1,p2,p3,p4,reduceIte,p5,p6,p7,p8, c1]
    refine CondH.mk (fun c5 => ?_) (fun c5 => ?_)
    · replace h := run_t c5 h
      try simp only [↓RA,RB,RS, fx95,p1,p2,p3,p4,reduceIte,p5,p6,p7,p8, c1, c5]
      obtain ⟨v32, hv32, h⟩ := run_bind h
      refine CallH.mk [false] (impl_IsValidTerm_sat hv32) ?_ ?_ <;> try simp only [↓RA,RB,RS, fx95,p1,p2,p3,p4,reduceIte,p5,p6,p7,p8, c1, c5]
      have h := run_some h
      obtain rfl : _ = r := h
      refine FinH.l ?_
      try simp only [↓RA,RB,RS, fx95,p1,p2,p3,p4,reduceIte,p5,p6,p7,p8, c1, c5]
    · replace h := run_f c5 h
      try simp only [↓RA,RB,RS, fx95,p1,p2,p3,p4,reduceIte,p5,p6,p7,p8, c1, c5]
      have h := run_some h
      obtain rfl : _ = r := h
      refine FinH.l ?_
      try simp only [↓RA,RB,RS, fx95,p1,p2,p3,p4,reduceIte,p5,p6,p7,p8, c1, c5]

def fx96 := A @TB3 <| A @TB9 <| A @TB32 <| @TB34
theorem impl_isZeroTerm_sat {a0 : Term}  {r : Bool} (h : impl_isZeroTerm a0 = some r) : Sat Tryz.prog 96 [((Term.pv false) a0)] (B r) := by
  replace h := Run.of h
  unfold impl_isZeroTerm at h
  refine Sat.of_m (nt := 12) (rs := [.tmp 2]) (n := 100000) Tryz.func96 rfl rfl rfl rfl (by simp) ?_
  try simp only [↓RA,RB,RS, fx96,p1,p2,p3,p4,reduceIte,p5,p6,p7,p8]
  repeat (first | with_reducible refine noR_and (by repeat (first | exact noR_empty _ _ | exact noR_nilS _ _ | refine noR_mk _ _ _ _ _ rfl ?_ | refine noR_mkS _ _ _ _ _ rfl ?_)) ?_ | with_reducible refine noC_and (by repeat (first | exact noC_empty _ _ (by try simp only [↓RA,RB,RS, fx96,p1,p2,p3,p4,reduceIte,p5,p6,p7,p8]) | exact noC_nilS _ _ (by try simp only [↓RA,RB,RS, fx96,p1,p2,p3,p4,reduceIte,p5,p6,p7,p8]) | refine noC_mk _ _ _ _ _ rfl ?_ | refine noC_mkS _ _ _ _ _ rfl ?_)) ?_ | with_reducible refine and_ac ?_ | with_reducible refine And.intro (a := _ = List.range _) (by rfl) ?_)
  refine CondH.mk (fun c1 => ?_) (fun c1 => ?_)
  · replace h := run_t c1 h
    try simp only [↓RA,RB,RS, fx96,p1,p2,p3,p4,reduceIte,p5,p6,p7,p8, c1]
    have h := run_some h
    obtain rfl : _ = r := h
    refine FinH.l ?_
    try simp only [↓RA,RB,RS, fx96,p1,p2,p3,p4,reduceIte,p5,p6,p7,p8, c1]
  · replace h := run_f c1 h
    try simp only [↓RA,RB,RS, fx96,p1,p2,p3,p4,reduceIte,p5,p6,p7,p8, c1]
    have h := run_some h
    obtain rfl : _ = r := h
    refine FinH.l ?_
    try simp only [↓RA,RB,RS, fx96,p1,p2,p3,p4,reduceIte,p5,p6,p7,p8, c1]

def fx98 := A @TB3 <| A @TB35 <| @TB37
theorem slices_IndexFunc_Simpl_Formula_impl_Formula_sat {a0 : List Formula} {a1 : Formula → Option Bool} {a1_id : FuncId} {a1_cs : List PV} (a1_ok : ∀ y0 r, a1 y0 = some r → Sat Tryz.prog a1_id (((Formula.pv false) y0) :: a1_cs) (B r)) (a1_cz : CapsOk a1_cs = True) {r : Int} (h : slices_IndexFunc_Simpl_Formula_impl_Formula a0 a1 = some r) : Sat Tryz.prog 98 [(.sl false 5 (a0.map (Formula.pv false))), .clo a1_id a1_cs] (I r) := by
  replace h := Run.of h
  unfold slices_IndexFunc_Simpl_Formula_impl_Formula at h
  refine Sat.of_m (nt := 19) (rs := [.tmp 4]) (n := 100000) Tryz.func98 rfl rfl rfl rfl (by simp) ?_
  try simp only [↓RA,RB,RS, fx98, a1_cz,p1,p2,p3,p4,reduceIte,p5,p6,p7,p8]
  refine Mg.know_sl (b := false) (sz := 5) (es := a0.map (Formula.pv false)) 0 (by try simp only [↓RA,RB,RS, fx98, a1_cz,p1,p2,p3,p4,reduceIte,p5,p6,p7,p8]) fun hl0 => ?_; rw [List.length_map] at hl0
  replace h := run_loop h
  refine Mg.forN h (fun i2 s2 => [(0, .val (.pv (.sl false 5 (a0.map (Formula.pv false))))), (1, .val (.pv (.clo a1_id a1_cs))), (7, .val (.pv (I (a0.length : Int)))), (8, .val (.pv (I (i2 : Int))))]) (fun i2 s2 => []) (St.le_mk2 (by try simp only [↓RA,RB,RS, fx98, a1_cz,p1,p2,p3,p4,reduceIte,p5,p6,p7,p8])) (fun i2 s2 hi h => ?_) (fun s2 h => ?_)
  · have w2 := wrap_succ (i := i2) (by omega)
    try simp only [↓RA,RB,RS, fx98, a1_cz,p1,p2,p3,p4,reduceIte,p5,p6,p7,p8]
    refine CondH.tt (decide_eq_true (by omega)) (fun c1 => ?_)
    try simp only [↓RA,RB,RS, fx98, a1_cz,p1,p2,p3,p4,reduceIte,p5,p6,p7,p8, c1]
    obtain ⟨v14, hv14, h⟩ := run_bind h
    refine IdxH.mk (f := (Formula.pv false)) hv14 ?_ ?_ <;> try simp only [↓RA,RB,RS, fx98, a1_cz,p1,p2,p3,p4,reduceIte,p5,p6,p7,p8, c1]
    obtain ⟨v16, hv16, h⟩ := run_bind h
    refine CallH.mk [false] (a1_ok _ _ hv16) ?_ ?_ <;> try simp only [↓RA,RB,RS, fx98, a1_cz,p1,p2,p3,p4,reduceIte,p5,p6,p7,p8, c1]
    refine CondH.mk (fun c2 => ?_) (fun c2 => ?_)
    · replace h := run_t c2 h
      try simp only [↓RA,RB,RS, fx98, a1_cz,p1,p2,p3,p4,reduceIte,p5,p6,p7,p8, c1, c2]
      have h := run_some h
      obtain rfl : _ = r := h
      refine FinH.l ?_
      try simp only [↓RA,RB,RS, fx98, a1_cz,p1,p2,p3,p4,reduceIte,p5,p6,p7,p8, c1, c2]
    · replace h := run_f c2 h
      try simp only [↓RA,RB,RS, fx98, a1_cz,p1,p2,p3,p4,reduceIte,p5,p6,p7,p8, c1, c2]
      have h := run_some h
      refine RdH.mk ⟨_, h, ?_⟩
      refine St.le_mk2 ?_
      try simp only [↓RA,RB,RS, fx98, a1_cz,p1,p2,p3,p4,reduceIte,p5,p6,p7,p8, c1, c2, w2]
  · try simp only [↓RA,RB,RS, fx98, a1_cz,p1,p2,p3,p4,reduceIte,p5,p6,p7,p8]
    refine CondH.ff (decide_eq_false (by omega)) (fun c3 => ?_)
    try simp only [↓RA,RB,RS, fx98, a1_cz,p1,p2,p3,p4,reduceIte,p5,p6,p7,p8, c3]
    have h := run_some h
    obtain rfl : _ = r := h
    refine FinH.l ?_
    try simp only [↓RA,RB,RS, fx98, a1_cz,p1,p2,p3,p4,reduceIte,p5,p6,p7,p8, c3]

def fx82 := A @TB3 <| A @TB35 <| @TB53
theorem slices_ContainsFunc_Simpl_Formula_impl_Formula_sat {a0 : List Formula} {a1 : Formula → Option Bool} {a1_id : FuncId} {a1_cs : List PV} (a1_ok : ∀ y0 r, a1 y0 = some r → Sat Tryz.prog a1_id (((Formula.pv false) y0) :: a1_cs) (B r)) (a1_cz : CapsOk a1_cs = True) {r : Bool} (h : slices_ContainsFunc_Simpl_Formula_impl_Formula a0 a1 = some r) : Sat Tryz.prog 82 [(.sl false 5 (a0.map (Formula.pv false))), .clo a1_id a1_cs] (B r) := by
  replace h := Run.of h
  unfold slices_ContainsFunc_Simpl_Formula_impl_Formula at h
  refine Sat.of_m (nt := 9) (rs := [.tmp 4]) (n := 100000) Tryz.func82 rfl rfl rfl rfl (by simp) ?_
  try simp only [↓RA,RB,RS, fx82, a1_cz,p1,p2,p3,p4,reduceIte,p5,p6,p7,p8]
  obtain ⟨v7, hv7, h⟩ := run_bind h
  refine CallH.mk [false, false] (slices_IndexFunc_Simpl_Formula_impl_Formula_sat a1_ok a1_cz hv7) ?_ ?_ <;> try simp only [↓RA,RB,RS, fx82, a1_cz,p1,p2,p3,p4,reduceIte,p5,p6,p7,p8]
  have h := run_some h
  obtain rfl : _ = r := h
  refine FinH.l ?_
  try simp only [↓RA,RB,RS, fx82, a1_cz,p1,p2,p3,p4,reduceIte,p5,p6,p7,p8]

def fx81 := A @TB3 <| A @TB4 <| A @TB9 <| A @TB34 <| A @TB35 <| A @TB37 <| @TB53
def fx97 := A @TB4 <| @TB37
theorem impl_hasFormN_sat (n : Nat) : (∀ (a0 : Formula) (r : Bool), impl_hasFormN n a0 = some r → Sat Tryz.prog 81 [((Formula.pv false) a0)] (B r)) ∧ (∀ (a0 : Formula) (r : Bool), impl_hasForm_1N n a0 = some r → Sat Tryz.prog 97 [((Formula.pv false) a0)] (B r)) := by
  induction n with
  | zero => exact ⟨fun _ _ h => by simp [impl_hasFormN] at h, fun _ _ h => by simp [impl_hasForm_1N] at h⟩
  | succ n ih =>
    refine ⟨fun a0 r h => ?_, fun a0 r h => ?_⟩
    · replace h := Run.of h
      rw [impl_hasFormN] at h
      refine Sat.of_m (nt := 76) (rs := [.tmp 2]) (n := 100000) Tryz.func81 rfl rfl rfl rfl (by simp) ?_
      try simp only [↓RA,RB,RS, fx81,p1,p2,p3,p4,reduceIte,p5,p6,p7,p8]
      repeat (first | with_reducible refine noR_and (by repeat (first | exact noR_empty _ _ | exact noR_nilS _ _ | refine noR_mk _ _ _ _ _ rfl ?_ | refine noR_mkS _ _ _ _ _ rfl ?_)) ?_ | with_reducible refine noC_and (by repeat (first | exact noC_empty _ _ (by try simp only [↓RA,RB,RS, fx81,p1,p2,p3,p4,reduceIte,p5,p6,p7,p8]) | exact noC_nilS _ _ (by try simp only [↓RA,RB,RS, fx81,p1,p2,p3,p4,reduceIte,p5,p6,p7,p8]) | refine noC_mk _ _ _ _ _ rfl ?_ | refine noC_mkS _ _ _ _ _ rfl ?_)) ?_ | with_reducible refine and_ac ?_ | with_reducible refine And.intro (a := _ = List.range _) (by rfl) ?_)
      refine CondH.mk (fun c1 => ?_) (fun c1 => ?_)
      · replace h := run_t c1 h
        try simp only [↓RA,RB,RS, fx81,p1,p2,p3,p4,reduceIte,p5,p6,p7,p8, c1]
        refine CondH.mk (fun c2 => ?_) (fun c2 => ?_)
        · replace h := run_t c2 h
          try simp only [↓RA,RB,RS, fx81,p1,p2,p3,p4,reduceIte,p5,p6,p7,p8, c1, c2]
          obtain ⟨v33, hv33, h⟩ := run_bind h
          refine CallH.mk [false] (impl_isQuantifier_sat hv33) ?_ ?_ <;> try simp only [↓RA,RB,RS, fx81,p1,p2,p3,p4,reduceIte,p5,p6,p7,p8, c1, c2]
          refine CondH.mk (fun c3 => ?_) (fun c3 => ?_)
          · replace h := run_t c3 h
            try simp only [↓RA,RB,RS, fx81,p1,p2,p3,p4,reduceIte,p5,p6,p7,p8, c1, c2, c3]
            obtain ⟨v37, hv37, h⟩ := run_bind h
            refine CallH.mk [false] (impl_isVariable_sat hv37) ?_ ?_ <;> try simp only [↓RA,RB,RS, fx81,p1,p2,p3,p4,reduceIte,p5,p6,p7,p8, c1, c2, c3]
            refine CondH.mk (fun c4 => ?_) (fun c4 => ?_)
            · replace h := run_t c4 h
              try simp only [↓RA,RB,RS, fx81,p1,p2,p3,p4,reduceIte,p5,p6,p7,p8, c1, c2, c3, c4]
              obtain ⟨v44, hv44, h⟩ := run_bind h
              refine CallH.mk [false] (impl_isQuantifier_sat hv44) ?_ ?_ <;> try simp only [↓RA,RB,RS, fx81,p1,p2,p3,p4,reduceIte,p5,p6,p7,p8, c1, c2, c3, c4]
              refine CondH.mk (fun c5 => ?_) (fun c5 => ?_)
              · replace h := run_t c5 h
                try simp only [↓RA,RB,RS, fx81,p1,p2,p3,p4,reduceIte,p5,p6,p7,p8, c1, c2, c3, c4, c5]
                refine CondH.mk (fun c6 => ?_) (fun c6 => ?_)
                · replace h := run_t c6 h
                  try simp only [↓RA,RB,RS, fx81,p1,p2,p3,p4,reduceIte,p5,p6,p7,p8, c1, c2, c3, c4, c5, c6]
                  obtain ⟨v58, hv58, h⟩ := run_bind h
                  refine CallH.mk [false] (impl_IsValidAtom_sat hv58) ?_ ?_ <;> try simp only [↓RA,RB,RS, fx81,p1,p2,p3,p4,reduceIte,p5,p6,p7,p8, c1, c2, c3, c4, c5, c6]
                  refine CondH.mk (fun c7 => ?_) (fun c7 => ?_)
                  · replace h := run_t c7 h
                    try simp only [↓RA,RB,RS, fx81,p1,p2,p3,p4,reduceIte,p5,p6,p7,p8, c1, c2, c3, c4, c5, c6, c7]
                    obtain ⟨v74, hv74, h⟩ := run_bind h
                    refine CallH.mk [false, false] (slices_ContainsFunc_Simpl_Formula_impl_Formula_sat (fun _ _ hh => ih.2 _ _ hh) (by simp only [CapsOk_nil, CapsOk_cons]) hv74) ?_ ?_ <;> try simp only [↓RA,RB,RS, fx81,p1,p2,p3,p4,reduceIte,p5,p6,p7,p8, c1, c2, c3, c4, c5, c6, c7]
                    have h := run_some h
                    obtain rfl : _ = r := h
                    refine FinH.l ?_
                    try simp only [↓RA,RB,RS, fx81,p1,p2,p3,p4,reduceIte,p5,p6,p7,p8, c1, c2, c3, c4, c5, c6, c7]
                  · replace h := run_f c7 h
                    try simp only [↓RA,RB,RS, fx81,p1,p2,p3,p4,reduceIte,p5,p6,p7,p8, c1, c2, c3, c4, c5, c6, c7]
                    have h := run_some h
                    obtain rfl : _ = r := h
                    refine FinH.l ?_
                    try simp only [↓RA,RB,RS, fx81,p1,p2,p3,p4,reduceIte,p5,p6,p7,p8, c1, c2, c3, c4, c5, c6, c7]
                · replace h := run_f c6 h
                  try simp only [↓RA,RB,RS, fx81,p1,p2,p3,p4,reduceIte,p5,p6,p7,p8, c1, c2, c3, c4, c5, c6]
                  obtain ⟨v68, hv68, h⟩ := run_bind h
                  refine CallH.mk [false] (impl_isZeroTerm_sat hv68) ?_ ?_ <;> try simp only [↓RA,RB,RS, fx81,p1,p2,p3,p4,reduceIte,p5,p6,p7,p8, c1, c2, c3, c4, c5, c6]
                  refine CondH.mk (fun c8 => ?_) (fun c8 => ?_)
                  · replace h := run_t c8 h
                    try simp only [↓RA,RB,RS, fx81,p1,p2,p3,p4,reduceIte,p5,p6,p7,p8, c1, c2, c3, c4, c5, c6, c8]
                    obtain ⟨v74, hv74, h⟩ := run_bind h
                    refine CallH.mk [false, false] (slices_ContainsFunc_Simpl_Formula_impl_Formula_sat (fun _ _ hh => ih.2 _ _ hh) (by simp only [CapsOk_nil, CapsOk_cons]) hv74) ?_ ?_ <;> try simp only [↓RA,RB,RS, fx81,p1,p2,p3,p4,reduceIte,p5,p6,p7,p8, c1, c2, c3, c4, c5, c6, c8]
                    have h := run_some h
                    obtain rfl : _ = r := h
                    refine FinH.l ?_
                    try simp only [↓RA,RB,RS, fx81,p1,p2,p3,p4,reduceIte,p5,p6,p7,p8, c1, c2, c3, c4, c5, c6, c8]
                  · replace h := run_f c8 h
                    try simp only [↓RA,RB,RS, fx81,p1,p2,p3,p4,reduceIte,p5,p6,p7,p8, c1, c2, c3, c4, c5, c6, c8]
                    have h := run_some h
                    obtain rfl : _ = r := h
                    refine FinH.l ?_
                    try simp only [↓RA,RB,RS, fx81,p1,p2,p3,p4,reduceIte,p5,p6,p7,p8, c1, c2, c3, c4, c5, c6, c8]
              · replace h := run_f c5 h
                try simp only [↓RA,RB,RS, fx81,p1,p2,p3,p4,reduceIte,p5,p6,p7,p8, c1, c2, c3, c4, c5]
                refine CondH.mk (fun c9 => ?_) (fun c9 => ?_)
                · replace h := run_t c9 h
                  try simp only [↓RA,RB,RS, fx81,p1,p2,p3,p4,reduceIte,p5,p6,p7,p8, c1, c2, c3, c4, c5, c9]
                  refine CondH.mk (fun c10 => ?_) (fun c10 => ?_)
                  · replace h := run_t c10 h
                    try simp only [↓RA,RB,RS, fx81,p1,p2,p3,p4,reduceIte,p5,p6,p7,p8, c1, c2, c3, c4, c5, c9, c10]
                    obtain ⟨v58, hv58, h⟩ := run_bind h
                    refine CallH.mk [false] (impl_IsValidAtom_sat hv58) ?_ ?_ <;> try simp only [↓RA,RB,RS, fx81,p1,p2,p3,p4,reduceIte,p5,p6,p7,p8, c1, c2, c3, c4, c5, c9, c10]
                    refine CondH.mk (fun c11 => ?_) (fun c11 => ?_)
                    · replace h := run_t c11 h
                      try simp only [↓RA,RB,RS, fx81,p1,p2,p3,p4,reduceIte,p5,p6,p7,p8, c1, c2, c3, c4, c5, c9, c10, c11]
                      obtain ⟨v74, hv74, h⟩ := run_bind h
                      refine CallH.mk [false, false] (slices_ContainsFunc_Simpl_Formula_impl_Formula_sat (fun _ _ hh => ih.2 _ _ hh) (by simp only [CapsOk_nil, CapsOk_cons]) hv74) ?_ ?_ <;> try simp only [↓RA,RB,RS, fx81,p1,p2,p3,p4,reduceIte,p5,p6,p7,p8, c1, c2, c3, c4, c5, c9, c10, c11]
                      have h := run_some h
                      obtain rfl : _ = r := h
                      refine FinH.l ?_
                      try simp only [↓RA,RB,RS, fx81,p1,p2,p3,p4,reduceIte,p5,p6,p7,p8, c1, c2, c3, c4, c5, c9, c10, c11]
                    · replace h := run_f c11 h
                      try simp only [↓RA,RB,RS, fx81,p1,p2,p3,p4,reduceIte,p5,p6,p7,p8, c1, c2, c3, c4, c5, c9, c10, c11]
                      have h := run_some h
                      obtain rfl : _ = r := h
                      refine FinH.l ?_
                      try simp only [↓RA,RB,RS, fx81,p1,p2,p3,p4,reduceIte,p5,p6,p7,p8, c1, c2, c3, c4, c5, c9, c10, c11]
                  · replace h := run_f c10 h
                    try simp only [↓RA,RB,RS, fx81,p1,p2,p3,p4,reduceIte,p5,p6,p7,p8, c1, c2, c3, c4, c5, c9, c10]
                    obtain ⟨v68, hv68, h⟩ := run_bind h
                    refine CallH.mk [false] (impl_isZeroTerm_sat hv68) ?_ ?_ <;> try simp only [↓RA,RB,RS, fx81,p1,p2,p3,p4,reduceIte,p5,p6,p7,p8, c1, c2, c3, c4, c5, c9, c10]
                    refine CondH.mk (fun c12 => ?_) (fun c12 => ?_)
                    · replace h := run_t c12 h
                      try simp only [↓RA,RB,RS, fx81,p1,p2,p3,p4,reduceIte,p5,p6,p7,p8, c1, c2, c3, c4, c5, c9, c10, c12]
                      obtain ⟨v74, hv74, h⟩ := run_bind h
                      refine CallH.mk [false, false] (slices_ContainsFunc_Simpl_Formula_impl_Formula_sat (fun _ _ hh => ih.2 _ _ hh) (by simp only [CapsOk_nil, CapsOk_cons]) hv74) ?_ ?_ <;> try simp only [↓RA,RB,RS, fx81,p1,p2,p3,p4,reduceIte,p5,p6,p7,p8, c1, c2, c3, c4, c5, c9, c10, c12]
                      have h := run_some h
                      obtain rfl : _ = r := h
                      refine FinH.l ?_
                      try simp only [↓RA,RB,RS, fx81,p1,p2,p3,p4,reduceIte,p5,p6,p7,p8, c1, c2, c3, c4, c5, c9, c10, c12]
                    · replace h := run_f c12 h
                      try simp only [↓RA,RB,RS, fx81,p1,p2,p3,p4,reduceIte,p5,p6,p7,p8, c1, c2, c3, c4, c5, c9, c10, c12]
                      have h := run_some h
                      obtain rfl : _ = r := h
                      refine FinH.l ?_
                      try simp only [↓RA,RB,RS, fx81,p1,p2,p3,p4,reduceIte,p5,p6,p7,p8, c1, c2, c3, c4, c5, c9, c10, c12]
                · replace h := run_f c9 h
                  try simp only [↓RA,RB,RS, fx81,p1,p2,p3,p4,reduceIte,p5,p6,p7,p8, c1, c2, c3, c4, c5, c9]
                  have h := run_some h
                  obtain rfl : _ = r := h
                  refine FinH.l ?_
                  try simp only [↓RA,RB,RS, fx81,p1,p2,p3,p4,reduceIte,p5,p6,p7,p8, c1, c2, c3, c4, c5, c9]
            · replace h := run_f c4 h
              try simp only [↓RA,RB,RS, fx81,p1,p2,p3,p4,reduceIte,p5,p6,p7,p8, c1, c2, c3, c4]
              have h := run_some h
              obtain rfl : _ = r := h
              refine FinH.l ?_
              try simp only [↓RA,RB,RS, fx81,p1,p2,p3,p4,reduceIte,p5,p6,p7,p8, c1, c2, c3, c4]
          · replace h := run_f c3 h
            try simp only [↓RA,RB,RS, fx81,p1,p2,p3,p4,reduceIte,p5,p6,p7,p8, c1, c2, c3]
            obtain ⟨v44, hv44, h⟩ := run_bind h
            refine CallH.mk [false] (impl_isQuantifier_sat hv44) ?_ ?_ <;> try simp only [↓RA,RB,RS, fx81,p1,p2,p3,p4,reduceIte,p5,p6,p7,p8, c1, c2, c3]
            refine CondH.mk (fun c13 => ?_) (fun c13 => ?_)
            · replace h := run_t c13 h
              try simp only [↓RA,RB,RS, fx81,p1,p2,p3,p4,reduceIte,p5,p6,p7,p8, c1, c2, c3, c13]
              refine CondH.mk (fun c14 => ?_) (fun c14 => ?_)
              · replace h := run_t c14 h
                try simp only [↓RA,RB,RS, fx81,p1,p2,p3,p4,reduceIte,p5,p6,p7,p8, c1, c2, c3, c13, c14]
                obtain ⟨v58, hv58, h⟩ := run_bind h
                refine CallH.mk [false] (impl_IsValidAtom_sat hv58) ?_ ?_ <;> try simp only [↓RA,RB,RS, fx81,p1,p2,p3,p4,reduceIte,p5,p6,p7,p8, c1, c2, c3, c13, c14]
                refine CondH.mk (fun c15 => ?_) (fun c15 => ?_)
                · replace h := run_t c15 h
                  try simp only [↓RA,RB,RS, fx81,p1,p2,p3,p4,reduceIte,p5,p6,p7,p8, c1, c2, c3, c13, c14, c15]
                  obtain ⟨v74, hv74, h⟩ := run_bind h
                  refine CallH.mk [false, false] (slices_ContainsFunc_Simpl_Formula_impl_Formula_sat (fun _ _ hh => ih.2 _ _ hh) (by simp only [CapsOk_nil, CapsOk_cons]) hv74) ?_ ?_ <;> try simp only [↓RA,RB,RS, fx81,p1,p2,p3,p4,reduceIte,p5,p6,p7,p8, c1, c2, c3, c13, c14, c15]
                  have h := run_some h
                  obtain rfl : _ = r := h
                  refine FinH.l ?_
                  try simp only [↓RA,RB,RS, fx81,p1,p2,p3,p4,reduceIte,p5,p6,p7,p8, c1, c2, c3, c13, c14, c15]
                · replace h := run_f c15 h
                  try simp only [↓RA,RB,RS, fx81,p1,p2,p3,p4,reduceIte,p5,p6,p7,p8, c1, c2, c3, c13, c14, c15]
                  have h := run_some h
                  obtain rfl : _ = r := h
                  refine FinH.l ?_
                  try simp only [↓RA,RB,RS, fx81,p1,p2,p3,p4,reduceIte,p5,p6,p7,p8, c1, c2, c3, c13, c14, c15]
              · replace h := run_f c14 h
                try simp only [↓RA,RB,RS, fx81,p1,p2,p3,p4,reduceIte,p5,p6,p7,p8, c1, c2, c3, c13, c14]
                obtain ⟨v68, hv68, h⟩ := run_bind h
                refine CallH.mk [false] (impl_isZeroTerm_sat hv68) ?_ ?_ <;> try simp only [↓RA,RB,RS, fx81,p1,p2,p3,p4,reduceIte,p5,p6,p7,p8, c1, c2, c3, c13, c14]
                refine CondH.mk (fun c16 => ?_) (fun c16 => ?_)
                · replace h := run_t c16 h
                  try simp only [↓RA,RB,RS, fx81,p1,p2,p3,p4,reduceIte,p5,p6,p7,p8, c1, c2, c3, c13, c14, c16]
                  obtain ⟨v74, hv74, h⟩ := run_bind h
                  refine CallH.mk [false, false] (slices_ContainsFunc_Simpl_Formula_impl_Formula_sat (fun _ _ hh => ih.2 _ _ hh) (by simp only [CapsOk_nil, CapsOk_cons]) hv74) ?_ ?_ <;> try simp only [↓RA,RB,RS, fx81,p1,p2,p3,p4,reduceIte,p5,p6,p7,p8, c1, c2, c3, c13, c14, c16]
                  have h := run_some h
                  obtain rfl : _ = r := h
                  refine FinH.l ?_
                  try simp only [↓RA,RB,RS, fx81,p1,p2,p3,p4,reduceIte,p5,p6,p7,p8, c1, c2, c3, c13, c14, c16]
                · replace h := run_f c16 h
                  try simp only [↓RA,RB,RS, fx81,p1,p2,p3,p4,reduceIte,p5,p6,p7,p8, c1, c2, c3, c13, c14, c16]
                  have h := run_some h
                  obtain rfl : _ = r := h
                  refine FinH.l ?_
                  try simp only [↓RA,RB,RS, fx81,p1,p2,p3,p4,reduceIte,p5,p6,p7,p8, c1, c2, c3, c13, c14, c16]
            · replace h := run_f c13 h
              try simp only [↓RA,RB,RS, fx81,p1,p2,p3,p4,reduceIte,p5,p6,p7,p8, c1, c2, c3, c13]
              refine CondH.mk (fun c17 => ?_) (fun c17 => ?_)
              · replace h := run_t c17 h
                try simp only [↓RA,RB,RS, fx81,p1,p2,p3,p4,reduceIte,p5,p6,p7,p8, c1, c2, c3, c13, c17]
                refine CondH.mk (fun c18 => ?_) (fun c18 => ?_)
                · replace h := run_t c18 h
                  try simp only [↓RA,RB,RS, fx81,p1,p2,p3,p4,reduceIte,p5,p6,p7,p8, c1, c2, c3, c13, c17, c18]
                  obtain ⟨v58, hv58, h⟩ := run_bind h
                  refine CallH.mk [false] (impl_IsValidAtom_sat hv58) ?_ ?_ <;> try simp only [↓RA,RB,RS, fx81,p1,p2,p3,p4,reduceIte,p5,p6,p7,p8, c1, c2, c3, c13, c17, c18]
                  refine CondH.mk (fun c19 => ?_) (fun c19 => ?_)
                  · replace h := run_t c19 h
                    try simp only [↓RA,RB,RS, fx81,p1,p2,p3,p4,reduceIte,p5,p6,p7,p8, c1, c2, c3, c13, c17, c18, c19]
                    obtain ⟨v74, hv74, h⟩ := run_bind h
                    refine CallH.mk [false, false] (slices_ContainsFunc_Simpl_Formula_impl_Formula_sat (fun _ _ hh => ih.2 _ _ hh) (by simp only [CapsOk_nil, CapsOk_cons]) hv74) ?_ ?_ <;> try simp only [↓RA,RB,RS, fx81,p1,p2,p3,p4,reduceIte,p5,p6,p7,p8, c1, c2, c3, c13, c17, c18, c19]
                    have h := run_some h
                    obtain rfl : _ = r := h
                    refine FinH.l ?_
                    try simp only [↓RA,RB,RS, fx81,p1,p2,p3,p4,reduceIte,p5,p6,p7,p8, c1, c2, c3, c13, c17, c18, c19]
                  · replace h := run_f c19 h
                    try simp only [↓RA,RB,RS, fx81,p1,p2,p3,p4,reduceIte,p5,p6,p7,p8, c1, c2, c3, c13, c17, c18, c19]
                    have h := run_some h
                    obtain rfl : _ = r := h
                    refine FinH.l ?_
                    try simp only [↓RA,RB,RS, fx81,p1,p2,p3,p4,reduceIte,p5,p6,p7,p8, c1, c2, c3, c13, c17, c18, c19]
                · replace h := run_f c18 h
                  try simp only [↓RA,RB,RS, fx81,p1,p2,p3,p4,reduceIte,p5,p6,p7,p8, c1, c2, c3, c13, c17, c18]
                  obtain ⟨v68, hv68, h⟩ := run_bind h
                  refine CallH.mk [false] (impl_isZeroTerm_sat hv68) ?_ ?_ <;> try simp only [↓RA,RB,RS, fx81,p1,p2,p3,p4,reduceIte,p5,p6,p7,p8, c1, c2, c3, c13, c17, c18]
                  refine CondH.mk (fun c20 => ?_) (fun c20 => ?_)
                  · replace h := run_t c20 h
                    try simp only [↓RA,RB,RS, fx81,p1,p2,p3,p4,reduceIte,p5,p6,p7,p8, c1, c2, c3, c13, c17, c18, c20]
                    obtain ⟨v74, hv74, h⟩ := run_bind h
                    refine CallH.mk [false, false] (slices_ContainsFunc_Simpl_Formula_impl_Formula_sat (fun _ _ hh => ih.2 _ _ hh) (by simp only [CapsOk_nil, CapsOk_cons]) hv74) ?_ ?_ <;> try simp only [↓RA,RB,RS, fx81,p1,p2,p3,p4,reduceIte,p5,p6,p7,p8, c1, c2, c3, c13, c17, c18, c20]
                    have h := run_some h
                    obtain rfl : _ = r := h
                    refine FinH.l ?_
                    try simp only [↓RA,RB,RS, fx81,p1,p2,p3,p4,reduceIte,p5,p6,p7,p8, c1, c2, c3, c13, c17, c18, c20]
                  · replace h := run_f c20 h
                    try simp only [↓RA,RB,RS, fx81,p1,p2,p3,p4,reduceIte,p5,p6,p7,p8, c1, c2, c3, c13, c17, c18, c20]
                    have h := run_some h
                    obtain rfl : _ = r := h
                    refine FinH.l ?_
                    try simp only [↓RA,RB,RS, fx81,p1,p2,p3,p4,reduceIte,p5,p6,p7,p8, c1, c2, c3, c13, c17, c18, c20]
              · replace h := run_f c17 h
                try simp only [↓RA,RB,RS, fx81,p1,p2,p3,p4,reduceIte,p5,p6,p7,p8, c1, c2, c3, c13, c17]
                have h := run_some h
                obtain rfl : _ = r := h
                refine FinH.l ?_
                try simp only [↓RA,RB,RS, fx81,p1,p2,p3,p4,reduceIte,p5,p6,p7,p8, c1, c2, c3, c13, c17]
        · replace h := run_f c2 h
          try simp only [↓RA,RB,RS, fx81,p1,p2,p3,p4,reduceIte,p5,p6,p7,p8, c1, c2]
          have h := run_some h
          obtain rfl : _ = r := h
          refine FinH.l ?_
          try simp only [↓RA,RB,RS, fx81,p1,p2,p3,p4,reduceIte,p5,p6,p7,p8, c1, c2]
      · replace h := run_f c1 h
        try simp only [↓RA,RB,RS, fx81,p1,p2,p3,p4,reduceIte,p5,p6,p7,p8, c1]
        refine CondH.mk (fun c21 => ?_) (fun c21 => ?_)
        · replace h := run_t c21 h
          try simp only [↓RA,RB,RS, fx81,p1,p2,p3,p4,reduceIte,p5,p6,p7,p8, c1, c21]
          refine CondH.mk (fun c22 => ?_) (fun c22 => ?_)
          · replace h := run_t c22 h
            try simp only [↓RA,RB,RS, fx81,p1,p2,p3,p4,reduceIte,p5,p6,p7,p8, c1, c21, c22]
            obtain ⟨v33, hv33, h⟩ := run_bind h
            refine CallH.mk [false] (impl_isQuantifier_sat hv33) ?_ ?_ <;> try simp only [↓RA,RB,RS, fx81,p1,p2,p3,p4,reduceIte,p5,p6,p7,p8, c1, c21, c22]
            refine CondH.mk (fun c23 => ?_) (fun c23 => ?_)
            · replace h := run_t c23 h
              try simp only [↓RA,RB,RS, fx81,p1,p2,p3,p4,reduceIte,p5,p6,p7,p8, c1, c21, c22, c23]
              obtain ⟨v37, hv37, h⟩ := run_bind h
              refine CallH.mk [false] (impl_isVariable_sat hv37) ?_ ?_ <;> try simp only [↓RA,RB,RS, fx81,p1,p2,p3,p4,reduceIte,p5,p6,p7,p8, c1, c21, c22, c23]
              refine CondH.mk (fun c24 => ?_) (fun c24 => ?_)
              · replace h := run_t c24 h
                try simp only [↓RA,RB,RS, fx81,p1,p2,p3,p4,reduceIte,p5,p6,p7,p8, c1, c21, c22, c23, c24]
                obtain ⟨v44, hv44, h⟩ := run_bind h
                refine CallH.mk [false] (impl_isQuantifier_sat hv44) ?_ ?_ <;> try simp only [↓RA,RB,RS, fx81,p1,p2,p3,p4,reduceIte,p5,p6,p7,p8, c1, c21, c22, c23, c24]
                refine CondH.mk (fun c25 => ?_) (fun c25 => ?_)
                · replace h := run_t c25 h
                  try simp only [↓RA,RB,RS, fx81,p1,p2,p3,p4,reduceIte,p5,p6,p7,p8, c1, c21, c22, c23, c24, c25]
                  refine CondH.mk (fun c26 => ?_) (fun c26 => ?_)
                  · replace h := run_t c26 h
                    try simp only [↓RA,RB,RS, fx81,p1,p2,p3,p4,reduceIte,p5,p6,p7,p8, c1, c21, c22, c23, c24, c25, c26]
                    obtain ⟨v58, hv58, h⟩ := run_bind h
                    refine CallH.mk [false] (impl_IsValidAtom_sat hv58) ?_ ?_ <;> try simp only [↓RA,RB,RS, fx81,p1,p2,p3,p4,reduceIte,p5,p6,p7,p8, c1, c21, c22, c23, c24, c25, c26]
                    refine CondH.mk (fun c27 => ?_) (fun c27 => ?_)
                    · replace h := run_t c27 h
                      try simp only [↓RA,RB,RS, fx81,p1,p2,p3,p4,reduceIte,p5,p6,p7,p8, c1, c21, c22, c23, c24, c25, c26, c27]
                      obtain ⟨v74, hv74, h⟩ := run_bind h
                      refine CallH.mk [false, false] (slices_ContainsFunc_Simpl_Formula_impl_Formula_sat (fun _ _ hh => ih.2 _ _ hh) (by simp only [CapsOk_nil, CapsOk_cons]) hv74) ?_ ?_ <;> try simp only [↓RA,RB,RS, fx81,p1,p2,p3,p4,reduceIte,p5,p6,p7,p8, c1, c21, c22, c23, c24, c25, c26, c27]
                      have h := run_some h
                      obtain rfl : _ = r := h
                      refine FinH.l ?_
                      try simp only [↓RA,RB,RS, fx81,p1,p2,p3,p4,reduceIte,p5,p6,p7,p8, c1, c21, c22, c23, c24, c25, c26, c27]
                    · replace h := run_f c27 h
                      try simp only [↓RA,RB,RS, fx81,p1,p2,p3,p4,reduceIte,p5,p6,p7,p8, c1, c21, c22, c23, c24, c25, c26, c27]
                      have h := run_some h
                      obtain rfl : _ = r := h
                      refine FinH.l ?_
                      try simp only [↓RA,RB,RS, fx81,p1,p2,p3,p4,reduceIte,p5,p6,p7,p8, c1, c21, c22, c23, c24, c25, c26, c27]
                  · replace h := run_f c26 h
                    try simp only [↓RA,RB,RS, fx81,p1,p2,p3,p4,reduceIte,p5,p6,p7,p8, c1, c21, c22, c23, c24, c25, c26]
                    obtain ⟨v68, hv68, h⟩ := run_bind h
                    refine CallH.mk [false] (impl_isZeroTerm_sat hv68) ?_ ?_ <;> try simp only [↓RA,RB,RS, fx81,p1,p2,p3,p4,reduceIte,p5,p6,p7,p8, c1, c21, c22, c23, c24, c25, c26]
                    refine CondH.mk (fun c28 => ?_) (fun c28 => ?_)
                    · replace h := run_t c28 h
                      try simp only [↓RA,RB,RS, fx81,p1,p2,p3,p4,reduceIte,p5,p6,p7,p8, c1, c21, c22, c23, c24, c25, c26, c28]
                      obtain ⟨v74, hv74, h⟩ := run_bind h
                      refine CallH.mk [false, false] (slices_ContainsFunc_Simpl_Formula_impl_Formula_sat (fun _ _ hh => ih.2 _ _ hh) (by simp only [CapsOk_nil, CapsOk_cons]) hv74) ?_ ?_ <;> try simp only [↓RA,RB,RS, fx81,p1,p2,p3,p4,reduceIte,p5,p6,p7,p8, c1, c21, c22, c23, c24, c25, c26, c28]
                      have h := run_some h
                      obtain rfl : _ = r := h
                      refine FinH.l ?_
                      try simp only [↓RA,RB,RS, fx81,p1,p2,p3,p4,reduceIte,p5,p6,p7,p8, c1, c21, c22, c23, c24, c25, c26, c28]
                    · replace h := run_f c28 h
                      try simp only [↓RA,RB,RS, fx81,p1,p2,p3,p4,reduceIte,p5,p6,p7,p8, c1, c21, c22, c23, c24, c25, c26, c28]
                      have h := run_some h
                      obtain rfl : _ = r := h
                      refine FinH.l ?_
                      try simp only [↓RA,RB,RS, fx81,p1,p2,p3,p4,reduceIte,p5,p6,p7,p8, c1, c21, c22, c23, c24, c25, c26, c28]
                · replace h := run_f c25 h
                  try simp only [↓RA,RB,RS, fx81,p1,p2,p3,p4,reduceIte,p5,p6,p7,p8, c1, c21, c22, c23, c24, c25]
                  refine CondH.mk (fun c29 => ?_) (fun c29 => ?_)
                  · replace h := run_t c29 h
                    try simp only [↓RA,RB,RS, fx81,p1,p2,p3,p4,reduceIte,p5,p6,p7,p8, c1, c21, c22, c23, c24, c25, c29]
                    refine CondH.mk (fun c30 => ?_) (fun c30 => ?_)
                    · replace h := run_t c30 h
                      try simp only [↓RA,RB,RS, fx81,p1,p2,p3,p4,reduceIte,p5,p6,p7,p8, c1, c21, c22, c23, c24, c25, c29, c30]
                      obtain ⟨v58, hv58, h⟩ := run_bind h
                      refine CallH.mk [false] (impl_IsValidAtom_sat hv58) ?_ ?_ <;> try simp only [↓RA,RB,RS, fx81,p1,p2,p3,p4,reduceIte,p5,p6,p7,p8, c1, c21, c22, c23, c24, c25, c29, c30]
                      refine CondH.mk (fun c31 => ?_) (fun c31 => ?_)
                      · replace h := run_t c31 h
                        try simp only [↓RA,RB,RS, fx81,p1,p2,p3,p4,reduceIte,p5,p6,p7,p8, c1, c21, c22, c23, c24, c25, c29, c30, c31]
                        obtain ⟨v74, hv74, h⟩ := run_bind h
                        refine CallH.mk [false, false] (slices_ContainsFunc_Simpl_Formula_impl_Formula_sat (fun _ _ hh => ih.2 _ _ hh) (by simp only [CapsOk_nil, CapsOk_cons]) hv74) ?_ ?_ <;> try simp only [↓RA,RB,RS, fx81,p1,p2,p3,p4,reduceIte,p5,p6,p7,p8, c1, c21, c22, c23, c24, c25, c29, c30, c31]
                        have h := run_some h
                        obtain rfl : _ = r := h
                        refine FinH.l ?_
                        try simp only [↓RA,RB,RS, fx81,p1,p2,p3,p4,reduceIte,p5,p6,p7,p8, c1, c21, c22, c23, c24, c25, c29, c30, c31]
                      · replace h := run_f c31 h
                        try simp only [↓RA,RB,RS, fx81,p1,p2,p3,p4,reduceIte,p5,p6,p7,p8, c1, c21, c22, c23, c24, c25, c29, c30, c31]
                        have h := run_some h
                        obtain rfl : _ = r := h
                        refine FinH.l ?_
                        try simp only [↓RA,RB,RS, fx81,p1,p2,p3,p4,reduceIte,p5,p6,p7,p8, c1, c21, c22, c23, c24, c25, c29, c30, c31]
                    · replace h := run_f c30 h
                      try simp only [↓RA,RB,RS, fx81,p1,p2,p3,p4,reduceIte,p5,p6,p7,p8, c1, c21, c22, c23, c24, c25, c29, c30]
                      obtain ⟨v68, hv68, h⟩ := run_bind h
                      refine CallH.mk [false] (impl_isZeroTerm_sat hv68) ?_ ?_ <;> try simp only [↓RA,RB,RS, fx81,p1,p2,p3,p4,reduceIte,p5,p6,p7,p8, c1, c21, c22, c23, c24, c25, c29, c30]
                      refine CondH.mk (fun c32 => ?_) (fun c32 => ?_)
                      · replace h := run_t c32 h
                        try simp only [↓RA,RB,RS, fx81,p1,p2,p3,p4,reduceIte,p5,p6,p7,p8, c1, c21, c22, c23, c24, c25, c29, c30, c32]
                        obtain ⟨v74, hv74, h⟩ := run_bind h
                        refine CallH.mk [false, false] (slices_ContainsFunc_Simpl_Formula_impl_Formula_sat (fun _ _ hh => ih.2 _ _ hh) (by simp only [CapsOk_nil, CapsOk_cons]) hv74) ?_ ?_ <;> try simp only [↓RA,RB,RS, fx81,p1,p2,p3,p4,reduceIte,p5,p6,p7,p8, c1, c21, c22, c23, c24, c25, c29, c30, c32]
                        have h := run_some h
                        obtain rfl : _ = r := h
                        refine FinH.l ?_
                        try simp only [↓RA,RB,RS, fx81,p1,p2,p3,p4,reduceIte,p5,p6,p7,p8, c1, c21, c22, c23, c24, c25, c29, c30, c32]
                      · replace h := run_f c32 h
                        try simp only [↓RA,RB,RS, fx81,p1,p2,p3,p4,reduceIte,p5,p6,p7,p8, c1, c21, c22, c23, c24, c25, c29, c30, c32]
                        have h := run_some h
                        obtain rfl : _ = r := h
                        refine FinH.l ?_
                        try simp only [↓RA,RB,RS, fx81,p1,p2,p3,p4,reduceIte,p5,p6,p7,p8, c1, c21, c22, c23, c24, c25, c29, c30, c32]
                  · replace h := run_f c29 h
                    try simp only [↓RA,RB,RS, fx81,p1,p2,p3,p4,reduceIte,p5,p6,p7,p8, c1, c21, c22, c23, c24, c25, c29]
                    have h := run_some h
                    obtain rfl : _ = r := h
                    refine FinH.l ?_
                    try simp only [↓RA,RB,RS, fx81,p1,p2,p3,p4,reduceIte,p5,p6,p7,p8, c1, c21, c22, c23, c24, c25, c29]
              · replace h := run_f c24 h
                try simp only [↓RA,RB,RS, fx81,p1,p2,p3,p4,reduceIte,p5,p6,p7,p8, c1, c21, c22, c23, c24]
                have h := run_some h
                obtain rfl : _ = r := h
                refine FinH.l ?_
                try simp only [↓RA,RB,RS, fx81,p1,p2,p3,p4,reduceIte,p5,p6,p7,p8, c1, c21, c22, c23, c24]
            · replace h := run_f c23 h
              try simp only [↓RA,RB,RS, fx81,p1,p2,p3,p4,reduceIte,p5,p6,p7,p8, c1, c21, c22, c23]
              obtain ⟨v44, hv44, h⟩ := run_bind h
              refine CallH.mk [false] (impl_isQuantifier_sat hv44) ?_ ?_ <;> try simp only [↓RA,RB,RS, fx81,p1,p2,p3,p4,reduceIte,p5,p6,p7,p8, c1, c21, c22, c23]
              refine CondH.mk (fun c33 => ?_) (fun c33 => ?_)
              · replace h := run_t c33 h
                try simp only [↓RA,RB,RS, fx81,p1,p2,p3,p4,reduceIte,p5,p6,p7,p8, c1, c21, c22, c23, c33]
                refine CondH.mk (fun c34 => ?_) (fun c34 => ?_)
                · replace h := run_t c34 h
                  try simp only [↓RA,RB,RS, fx81,p1,p2,p3,p4,reduceIte,p5,p6,p7,p8, c1, c21, c22, c23, c33, c34]
                  obtain ⟨v58, hv58, h⟩ := run_bind h
                  refine CallH.mk [false] (impl_IsValidAtom_sat hv58) ?_ ?_ <;> try simp only [↓RA,RB,RS, fx81,p1,p2,p3,p4,reduceIte,p5,p6,p7,p8, c1, c21, c22, c23, c33, c34]
                  refine CondH.mk (fun c35 => ?_) (fun c35 => ?_)
                  · replace h := run_t c35 h
                    try simp only [↓RA,RB,RS, fx81,p1,p2,p3,p4,reduceIte,p5,p6,p7,p8, c1, c21, c22, c23, c33, c34, c35]
                    obtain ⟨v74, hv74, h⟩ := run_bind h
                    refine CallH.mk [false, false] (slices_ContainsFunc_Simpl_Formula_impl_Formula_sat (fun _ _ hh => ih.2 _ _ hh) (by simp only [CapsOk_nil, CapsOk_cons]) hv74) ?_ ?_ <;> try simp only [↓RA,RB,RS, fx81,p1,p2,p3,p4,reduceIte,p5,p6,p7,p8, c1, c21, c22, c23, c33, c34, c35]
                    have h := run_some h
                    obtain rfl : _ = r := h
                    refine FinH.l ?_
                    try simp only [↓RA,RB,RS, fx81,p1,p2,p3,p4,reduceIte,p5,p6,p7,p8, c1, c21, c22, c23, c33, c34, c35]
                  · replace h := run_f c35 h
                    try simp only [↓RA,RB,RS, fx81,p1,p2,p3,p4,reduceIte,p5,p6,p7,p8, c1, c21, c22, c23, c33, c34, c35]
                    have h := run_some h
                    obtain rfl : _ = r := h
                    refine FinH.l ?_
                    try simp only [↓RA,RB,RS, fx81,p1,p2,p3,p4,reduceIte,p5,p6,p7,p8, c1, c21, c22, c23, c33, c34, c35]
                · replace h := run_f c34 h
                  try simp only [↓RA,RB,RS, fx81,p1,p2,p3,p4,reduceIte,p5,p6,p7,p8, c1, c21, c22, c23, c33, c34]
                  obtain ⟨v68, hv68, h⟩ := run_bind h
                  refine CallH.mk [false] (impl_isZeroTerm_sat hv68) ?_ ?_ <;> try simp only [↓RA,RB,RS, fx81,p1,p2,p3,p4,reduceIte,p5,p6,p7,p8, c1, c21, c22, c23, c33, c34]
                  refine CondH.mk (fun c36 => ?_) (fun c36 => ?_)
                  · replace h := run_t c36 h
                    try simp only [↓RA,RB,RS, fx81,p1,p2,p3,p4,reduceIte,p5,p6,p7,p8, c1, c21, c22, c23, c33, c34, c36]
                    obtain ⟨v74, hv74, h⟩ := run_bind h
                    refine CallH.mk [false, false] (slices_ContainsFunc_Simpl_Formula_impl_Formula_sat (fun _ _ hh => ih.2 _ _ hh) (by simp only [CapsOk_nil, CapsOk_cons]) hv74) ?_ ?_ <;> try simp only [↓RA,RB,RS, fx81,p1,p2,p3,p4,reduceIte,p5,p6,p7,p8, c1, c21, c22, c23, c33, c34, c36]
                    have h := run_some h
                    obtain rfl : _ = r := h
                    refine FinH.l ?_
                    try simp only [↓RA,RB,RS, fx81,p1,p2,p3,p4,reduceIte,p5,p6,p7,p8, c1, c21, c22, c23, c33, c34, c36]
                  · replace h := run_f c36 h
                    try simp only [↓RA,RB,RS, fx81,p1,p2,p3,p4,reduceIte,p5,p6,p7,p8, c1, c21, c22, c23, c33, c34, c36]
                    have h := run_some h
                    obtain rfl : _ = r := h
                    refine FinH.l ?_
                    try simp only [↓RA,RB,RS, fx81,p1,p2,p3,p4,reduceIte,p5,p6,p7,p8, c1, c21, c22, c23, c33, c34, c36]
              · replace h := run_f c33 h
                try simp only [↓RA,RB,RS, fx81,p1,p2,p3,p4,reduceIte,p5,p6,p7,p8, c1, c21, c22, c23, c33]
                refine CondH.mk (fun c37 => ?_) (fun c37 => ?_)
                · replace h := run_t c37 h
                  try simp only [↓RA,RB,RS, fx81,p1,p2,p3,p4,reduceIte,p5,p6,p7,p8, c1, c21, c22, c23, c33, c37]
                  refine CondH.mk (fun c38 => ?_) (fun c38 => ?_)
                  · replace h := run_t c38 h
                    try simp only [↓RA,RB,RS, fx81,p1,p2,p3,p4,reduceIte,p5,p6,p7,p8, c1, c21, c22, c23, c33, c37, c38]
                    obtain ⟨v58, hv58, h⟩ := run_bind h
                    refine CallH.mk [false] (impl_IsValidAtom_sat hv58) ?_ ?_ <;> try simp only [↓RA,RB,RS, fx81,p1,p2,p3,p4,reduceIte,p5,p6,p7,p8, c1, c21, c22, c23, c33, c37, c38]
                    refine CondH.mk (fun c39 => ?_) (fun c39 => ?_)
                    · replace h := run_t c39 h
                      try simp only [↓RA,RB,RS, fx81,p1,p2,p3,p4,reduceIte,p5,p6,p7,p8, c1, c21, c22, c23, c33, c37, c38, c39]
                      obtain ⟨v74, hv74, h⟩ := run_bind h
                      refine CallH.mk [false, false] (slices_ContainsFunc_Simpl_Formula_impl_Formula_sat (fun _ _ hh => ih.2 _ _ hh) (by simp only [CapsOk_nil, CapsOk_cons]) hv74) ?_ ?_ <;> try simp only [↓RA,RB,RS, fx81,p1,p2,p3,p4,reduceIte,p5,p6,p7,p8, c1, c21, c22, c23, c33, c37, c38, c39]
                      have h := run_some h
                      obtain rfl : _ = r := h
                      refine FinH.l ?_
                      try simp only [↓RA,RB,RS, fx81,p1,p2,p3,p4,reduceIte,p5,p6,p7,p8, c1, c21, c22, c23, c33, c37, c38, c39]
                    · replace h := run_f c39 h
                      try simp only [↓RA,RB,RS, fx81,p1,p2,p3,p4,reduceIte,p5,p6,p7,p8, c1, c21, c22, c23, c33, c37, c38, c39]
                      have h := run_some h
                      obtain rfl : _ = r := h
                      refine FinH.l ?_
                      try simp only [↓RA,RB,RS, fx81,p1,p2,p3,p4,reduceIte,p5,p6,p7,p8, c1, c21, c22, c23, c33, c37, c38, c39]
                  · replace h := run_f c38 h
                    try simp only [↓RA,RB,RS, fx81,p1,p2,p3,p4,reduceIte,p5,p6,p7,p8, c1, c21, c22, c23, c33, c37, c38]
                    obtain ⟨v68, hv68, h⟩ := run_bind h
                    refine CallH.mk [false] (impl_isZeroTerm_sat hv68) ?_ ?_ <;> try simp only [↓RA,RB,RS, fx81,p1,p2,p3,p4,reduceIte,p5,p6,p7,p8, c1, c21, c22, c23, c33, c37, c38]
                    refine CondH.mk (fun c40 => ?_) (fun c40 => ?_)
                    · replace h := run_t c40 h
                      try simp only [↓RA,RB,RS, fx81,p1,p2,p3,p4,reduceIte,p5,p6,p7,p8, c1, c21, c22, c23, c33, c37, c38, c40]
                      obtain ⟨v74, hv74, h⟩ := run_bind h
                      refine CallH.mk [false, false] (slices_ContainsFunc_Simpl_Formula_impl_Formula_sat (fun _ _ hh => ih.2 _ _ hh) (by simp only [CapsOk_nil, CapsOk_cons]) hv74) ?_ ?_ <;> try simp only [↓RA,RB,RS, fx81,p1,p2,p3,p4,reduceIte,p5,p6,p7,p8, c1, c21, c22, c23, c33, c37, c38, c40]
                      have h := run_some h
                      obtain rfl : _ = r := h
                      refine FinH.l ?_
                      try simp only [↓RA,RB,RS, fx81,p1,p2,p3,p4,reduceIte,p5,p6,p7,p8, c1, c21, c22, c23, c33, c37, c38, c40]
                    · replace h := run_f c40 h
                      try simp only [↓RA,RB,RS, fx81,p1,p2,p3,p4,reduceIte,p5,p6,p7,p8, c1, c21, c22, c23, c33, c37, c38, c40]
                      have h := run_some h
                      obtain rfl : _ = r := h
                      refine FinH.l ?_
                      try simp only [↓RA,RB,RS, fx81,p1,p2,p3,p4,reduceIte,p5,p6,p7,p8, c1, c21, c22, c23, c33, c37, c38, c40]
                · replace h := run_f c37 h
                  try simp only [↓RA,RB,RS, fx81,p1,p2,p3,p4,reduceIte,p5,p6,p7,p8, c1, c21, c22, c23, c33, c37]
                  have h := run_some h
                  obtain rfl : _ = r := h
                  refine FinH.l ?_
                  try simp only [↓RA,RB,RS, fx81,p1,p2,p3,p4,reduceIte,p5,p6,p7,p8, c1, c21, c22, c23, c33, c37]
          · replace h := run_f c22 h
            try simp only [↓RA,RB,RS, fx81,p1,p2,p3,p4,reduceIte,p5,p6,p7,p8, c1, c21, c22]
            have h := run_some h
            obtain rfl : _ = r := h
            refine FinH.l ?_
            try simp only [↓RA,RB,RS, fx81,p1,p2,p3,p4,reduceIte,p5,p6,p7,p8, c1, c21, c22]
        · replace h := run_f c21 h
          try simp only [↓RA,RB,RS, fx81,p1,p2,p3,p4,reduceIte,p5,p6,p7,p8, c1, c21]
          refine CondH.mk (fun c41 => ?_) (fun c41 => ?_)
          · replace h := run_t c41 h
            try simp only [↓RA,RB,RS, fx81,p1,p2,p3,p4,reduceIte,p5,p6,p7,p8, c1, c21, c41]
            refine CondH.mk (fun c42 => ?_) (fun c42 => ?_)
            · replace h := run_t c42 h
              try simp only [↓RA,RB,RS, fx81,p1,p2,p3,p4,reduceIte,p5,p6,p7,p8, c1, c21, c41, c42]
              obtain ⟨v33, hv33, h⟩ := run_bind h
              refine CallH.mk [false] (impl_isQuantifier_sat hv33) ?_ ?_ <;> try simp only [↓RA,RB,RS, fx81,p1,p2,p3,p4,reduceIte,p5,p6,p7,p8, c1, c21, c41, c42]
              refine CondH.mk (fun c43 => ?_) (fun c43 => ?_)
              · replace h := run_t c43 h
                try simp only [↓RA,RB,RS, fx81,p1,p2,p3,p4,reduceIte,p5,p6,p7,p8, c1, c21, c41, c42, c43]
                obtain ⟨v37, hv37, h⟩ := run_bind h
                refine CallH.mk [false] (impl_isVariable_sat hv37) ?_ ?_ <;> try simp only [↓RA,RB,RS, fx81,p1,p2,p3,p4,reduceIte,p5,p6,p7,p8, c1, c21, c41, c42, c43]
                refine CondH.mk (fun c44 => ?_) (fun c44 => ?_)
                · replace h := run_t c44 h
                  try simp only [↓RA,RB,RS, fx81,p1,p2,p3,p4,reduceIte,p5,p6,p7,p8, c1, c21, c41, c42, c43, c44]
                  obtain ⟨v44, hv44, h⟩ := run_bind h
                  refine CallH.mk [false] (impl_isQuantifier_sat hv44) ?_ ?_ <;> try simp only [↓RA,RB,RS, fx81,p1,p2,p3,p4,reduceIte,p5,p6,p7,p8, c1, c21, c41, c42, c43, c44]
                  refine CondH.mk (fun c45 => ?_) (fun c45 => ?_)
                  · replace h := run_t c45 h
                    try simp only [↓RA,RB,RS, fx81,p1,p2,p3,p4,reduceIte,p5,p6,p7,p8, c1, c21, c41, c42, c43, c44, c45]
                    obtain ⟨v58, hv58, h⟩ := run_bind h
                    refine CallH.mk [false] (impl_IsValidAtom_sat hv58) ?_ ?_ <;> try simp only [↓RA,RB,RS, fx81,p1,p2,p3,p4,reduceIte,p5,p6,p7,p8, c1, c21, c41, c42, c43, c44, c45]
                    refine CondH.mk (fun c46 => ?_) (fun c46 => ?_)
                    · replace h := run_t c46 h
                      try simp only [↓RA,RB,RS, fx81,p1,p2,p3,p4,reduceIte,p5,p6,p7,p8, c1, c21, c41, c42, c43, c44, c45, c46]
                      obtain ⟨v74, hv74, h⟩ := run_bind h
                      refine CallH.mk [false, false] (slices_ContainsFunc_Simpl_Formula_impl_Formula_sat (fun _ _ hh => ih.2 _ _ hh) (by simp only [CapsOk_nil, CapsOk_cons]) hv74) ?_ ?_ <;> try simp only [↓RA,RB,RS, fx81,p1,p2,p3,p4,reduceIte,p5,p6,p7,p8, c1, c21, c41, c42, c43, c44, c45, c46]
                      have h := run_some h
                      obtain rfl : _ = r := h
                      refine FinH.l ?_
                      try simp only [↓RA,RB,RS, fx81,p1,p2,p3,p4,reduceIte,p5,p6,p7,p8, c1, c21, c41, c42, c43, c44, c45, c46]
                    · replace h := run_f c46 h
                      try simp only [↓RA,RB,RS, fx81,p1,p2,p3,p4,reduceIte,p5,p6,p7,p8, c1, c21, c41, c42, c43, c44, c45, c46]
                      have h := run_some h
                      obtain rfl : _ = r := h
                      refine FinH.l ?_
                      try simp only [↓RA,RB,RS, fx81,p1,p2,p3,p4,reduceIte,p5,p6,p7,p8, c1, c21, c41, c42, c43, c44, c45, c46]
                  · replace h := run_f c45 h
                    try simp only [↓RA,RB,RS, fx81,p1,p2,p3,p4,reduceIte,p5,p6,p7,p8, c1, c21, c41, c42, c43, c44, c45]
                    refine CondH.mk (fun c47 => ?_) (fun c47 => ?_)
                    · replace h := run_t c47 h
                      try simp only [↓RA,RB,RS, fx81,p1,p2,p3,p4,reduceIte,p5,p6,p7,p8, c1, c21, c41, c42, c43, c44, c45, c47]
                      obtain ⟨v58, hv58, h⟩ := run_bind h
                      refine CallH.mk [false] (impl_IsValidAtom_sat hv58) ?_ ?_ <;> try simp only [↓RA,RB,RS, fx81,p1,p2,p3,p4,reduceIte,p5,p6,p7,p8, c1, c21, c41, c42, c43, c44, c45, c47]
                      refine CondH.mk (fun c48 => ?_) (fun c48 => ?_)
                      · replace h := run_t c48 h
                        try simp only [↓RA,RB,RS, fx81,p1,p2,p3,p4,reduceIte,p5,p6,p7,p8, c1, c21, c41, c42, c43, c44, c45, c47, c48]
                        obtain ⟨v74, hv74, h⟩ := run_bind h
                        refine CallH.mk [false, false] (slices_ContainsFunc_Simpl_Formula_impl_Formula_sat (fun _ _ hh => ih.2 _ _ hh) (by simp only [CapsOk_nil, CapsOk_cons]) hv74) ?_ ?_ <;> try simp only [↓RA,RB,RS, fx81,p1,p2,p3,p4,reduceIte,p5,p6,p7,p8, c1, c21, c41, c42, c43, c44, c45, c47, c48]
                        have h := run_some h
                        obtain rfl : _ = r := h
                        refine FinH.l ?_
                        try simp only [↓RA,RB,RS, fx81,p1,p2,p3,p4,reduceIte,p5,p6,p7,p8, c1, c21, c41, c42, c43, c44, c45, c47, c48]
                      · replace h := run_f c48 h
                        try simp only [↓RA,RB,RS, fx81,p1,p2,p3,p4,reduceIte,p5,p6,p7,p8, c1, c21, c41, c42, c43, c44, c45, c47, c48]
                        have h := run_some h
                        obtain rfl : _ = r := h
                        refine FinH.l ?_
                        try simp only [↓RA,RB,RS, fx81,p1,p2,p3,p4,reduceIte,p5,p6,p7,p8, c1, c21, c41, c42, c43, c44, c45, c47, c48]
                    · replace h := run_f c47 h
                      try simp only [↓RA,RB,RS, fx81,p1,p2,p3,p4,reduceIte,p5,p6,p7,p8, c1, c21, c41, c42, c43, c44, c45, c47]
                      have h := run_some h
                      obtain rfl : _ = r := h
                      refine FinH.l ?_
                      try simp only [↓RA,RB,RS, fx81,p1,p2,p3,p4,reduceIte,p5,p6,p7,p8, c1, c21, c41, c42, c43, c44, c45, c47]
                · replace h := run_f c44 h
                  try simp only [↓RA,RB,RS, fx81,p1,p2,p3,p4,reduceIte,p5,p6,p7,p8, c1, c21, c41, c42, c43, c44]
                  have h := run_some h
                  obtain rfl : _ = r := h
                  refine FinH.l ?_
                  try simp only [↓RA,RB,RS, fx81,p1,p2,p3,p4,reduceIte,p5,p6,p7,p8, c1, c21, c41, c42, c43, c44]
              · replace h := run_f c43 h
                try simp only [↓RA,RB,RS, fx81,p1,p2,p3,p4,reduceIte,p5,p6,p7,p8, c1, c21, c41, c42, c43]
                obtain ⟨v44, hv44, h⟩ := run_bind h
                refine CallH.mk [false] (impl_isQuantifier_sat hv44) ?_ ?_ <;> try simp only [↓RA,RB,RS, fx81,p1,p2,p3,p4,reduceIte,p5,p6,p7,p8, c1, c21, c41, c42, c43]
                refine CondH.mk (fun c49 => ?_) (fun c49 => ?_)
                · replace h := run_t c49 h
                  try simp only [↓RA,RB,RS, fx81,p1,p2,p3,p4,reduceIte,p5,p6,p7,p8, c1, c21, c41, c42, c43, c49]
                  obtain ⟨v58, hv58, h⟩ := run_bind h
                  refine CallH.mk [false] (impl_IsValidAtom_sat hv58) ?_ ?_ <;> try simp only [↓RA,RB,RS, fx81,p1,p2,p3,p4,reduceIte,p5,p6,p7,p8, c1, c21, c41, c42, c43, c49]
                  refine CondH.mk (fun c50 => ?_) (fun c50 => ?_)
                  · replace h := run_t c50 h
                    try simp only [↓RA,RB,RS, fx81,p1,p2,p3,p4,reduceIte,p5,p6,p7,p8, c1, c21, c41, c42, c43, c49, c50]
                    obtain ⟨v74, hv74, h⟩ := run_bind h
                    refine CallH.mk [false, false] (slices_ContainsFunc_Simpl_Formula_impl_Formula_sat (fun _ _ hh => ih.2 _ _ hh) (by simp only [CapsOk_nil, CapsOk_cons]) hv74) ?_ ?_ <;> try simp only [↓RA,RB,RS, fx81,p1,p2,p3,p4,reduceIte,p5,p6,p7,p8, c1, c21, c41, c42, c43, c49, c50]
                    have h := run_some h
                    obtain rfl : _ = r := h
                    refine FinH.l ?_
                    try simp only [↓RA,RB,RS, fx81,p1,p2,p3,p4,reduceIte,p5,p6,p7,p8, c1, c21, c41, c42, c43, c49, c50]
                  · replace h := run_f c50 h
                    try simp only [↓RA,RB,RS, fx81,p1,p2,p3,p4,reduceIte,p5,p6,p7,p8, c1, c21, c41, c42, c43, c49, c50]
                    have h := run_some h
                    obtain rfl : _ = r := h
                    refine FinH.l ?_
                    try simp only [↓RA,RB,RS, fx81,p1,p2,p3,p4,reduceIte,p5,p6,p7,p8, c1, c21, c41, c42, c43, c49, c50]
                · replace h := run_f c49 h
                  try simp only [↓RA,RB,RS, fx81,p1,p2,p3,p4,reduceIte,p5,p6,p7,p8, c1, c21, c41, c42, c43, c49]
                  refine CondH.mk (fun c51 => ?_) (fun c51 => ?_)
                  · replace h := run_t c51 h
                    try simp only [↓RA,RB,RS, fx81,p1,p2,p3,p4,reduceIte,p5,p6,p7,p8, c1, c21, c41, c42, c43, c49, c51]
                    obtain ⟨v58, hv58, h⟩ := run_bind h
                    refine CallH.mk [false] (impl_IsValidAtom_sat hv58) ?_ ?_ <;> try simp only [↓RA,RB,RS, fx81,p1,p2,p3,p4,reduceIte,p5,p6,p7,p8, c1, c21, c41, c42, c43, c49, c51]
                    refine CondH.mk (fun c52 => ?_) (fun c52 => ?_)
                    · replace h := run_t c52 h
                      try simp only [↓RA,RB,RS, fx81,p1,p2,p3,p4,reduceIte,p5,p6,p7,p8, c1, c21, c41, c42, c43, c49, c51, c52]
                      obtain ⟨v74, hv74, h⟩ := run_bind h
                      refine CallH.mk [false, false] (slices_ContainsFunc_Simpl_Formula_impl_Formula_sat (fun _ _ hh => ih.2 _ _ hh) (by simp only [CapsOk_nil, CapsOk_cons]) hv74) ?_ ?_ <;> try simp only [↓RA,RB,RS, fx81,p1,p2,p3,p4,reduceIte,p5,p6,p7,p8, c1, c21, c41, c42, c43, c49, c51, c52]
                      have h := run_some h
                      obtain rfl : _ = r := h
                      refine FinH.l ?_
                      try simp only [↓RA,RB,RS, fx81,p1,p2,p3,p4,reduceIte,p5,p6,p7,p8, c1, c21, c41, c42, c43, c49, c51, c52]
                    · replace h := run_f c52 h
                      try simp only [↓RA,RB,RS, fx81,p1,p2,p3,p4,reduceIte,p5,p6,p7,p8, c1, c21, c41, c42, c43, c49, c51, c52]
                      have h := run_some h
                      obtain rfl : _ = r := h
                      refine FinH.l ?_
                      try simp only [↓RA,RB,RS, fx81,p1,p2,p3,p4,reduceIte,p5,p6,p7,p8, c1, c21, c41, c42, c43, c49, c51, c52]
                  · replace h := run_f c51 h
                    try simp only [↓RA,RB,RS, fx81,p1,p2,p3,p4,reduceIte,p5,p6,p7,p8, c1, c21, c41, c42, c43, c49, c51]
                    have h := run_some h
                    obtain rfl : _ = r := h
                    refine FinH.l ?_
                    try simp only [↓RA,RB,RS, fx81,p1,p2,p3,p4,reduceIte,p5,p6,p7,p8, c1, c21, c41, c42, c43, c49, c51]
            · replace h := run_f c42 h
              try simp only [↓RA,RB,RS, fx81,p1,p2,p3,p4,reduceIte,p5,p6,p7,p8, c1, c21, c41, c42]
              have h := run_some h
              obtain rfl : _ = r := h
              refine FinH.l ?_
              try simp only [↓RA,RB,RS, fx81,p1,p2,p3,p4,reduceIte,p5,p6,p7,p8, c1, c21, c41, c42]
          · replace h := run_f c41 h
            try simp only [↓RA,RB,RS, fx81,p1,p2,p3,p4,reduceIte,p5,p6,p7,p8, c1, c21, c41]
            refine CondH.mk (fun c53 => ?_) (fun c53 => ?_)
            · replace h := run_t c53 h
              try simp only [↓RA,RB,RS, fx81,p1,p2,p3,p4,reduceIte,p5,p6,p7,p8, c1, c21, c41, c53]
              refine CondH.mk (fun c54 => ?_) (fun c54 => ?_)
              · replace h := run_t c54 h
                try simp only [↓RA,RB,RS, fx81,p1,p2,p3,p4,reduceIte,p5,p6,p7,p8, c1, c21, c41, c53, c54]
                obtain ⟨v33, hv33, h⟩ := run_bind h
                refine CallH.mk [false] (impl_isQuantifier_sat hv33) ?_ ?_ <;> try simp only [↓RA,RB,RS, fx81,p1,p2,p3,p4,reduceIte,p5,p6,p7,p8, c1, c21, c41, c53, c54]
                refine CondH.mk (fun c55 => ?_) (fun c55 => ?_)
                · replace h := run_t c55 h
                  try simp only [↓RA,RB,RS, fx81,p1,p2,p3,p4,reduceIte,p5,p6,p7,p8, c1, c21, c41, c53, c54, c55]
                  obtain ⟨v37, hv37, h⟩ := run_bind h
                  refine CallH.mk [false] (impl_isVariable_sat hv37) ?_ ?_ <;> try simp only [↓RA,RB,RS, fx81,p1,p2,p3,p4,reduceIte,p5,p6,p7,p8, c1, c21, c41, c53, c54, c55]
                  refine CondH.mk (fun c56 => ?_) (fun c56 => ?_)
                  · replace h := run_t c56 h
                    try simp only [↓RA,RB,RS, fx81,p1,p2,p3,p4,reduceIte,p5,p6,p7,p8, c1, c21, c41, c53, c54, c55, c56]
                    obtain ⟨v44, hv44, h⟩ := run_bind h
                    refine CallH.mk [false] (impl_isQuantifier_sat hv44) ?_ ?_ <;> try simp only [↓RA,RB,RS, fx81,p1,p2,p3,p4,reduceIte,p5,p6,p7,p8, c1, c21, c41, c53, c54, c55, c56]
                    refine CondH.mk (fun c57 => ?_) (fun c57 => ?_)
                    · replace h := run_t c57 h
                      try simp only [↓RA,RB,RS, fx81,p1,p2,p3,p4,reduceIte,p5,p6,p7,p8, c1, c21, c41, c53, c54, c55, c56, c57]
                      obtain ⟨v68, hv68, h⟩ := run_bind h
                      refine CallH.mk [false] (impl_isZeroTerm_sat hv68) ?_ ?_ <;> try simp only [↓RA,RB,RS, fx81,p1,p2,p3,p4,reduceIte,p5,p6,p7,p8, c1, c21, c41, c53, c54, c55, c56, c57]
                      refine CondH.mk (fun c58 => ?_) (fun c58 => ?_)
                      · replace h := run_t c58 h
                        try simp only [↓RA,RB,RS, fx81,p1,p2,p3,p4,reduceIte,p5,p6,p7,p8, c1, c21, c41, c53, c54, c55, c56, c57, c58]
                        obtain ⟨v74, hv74, h⟩ := run_bind h
                        refine CallH.mk [false, false] (slices_ContainsFunc_Simpl_Formula_impl_Formula_sat (fun _ _ hh => ih.2 _ _ hh) (by simp only [CapsOk_nil, CapsOk_cons]) hv74) ?_ ?_ <;> try simp only [↓RA,RB,RS, fx81,p1,p2,p3,p4,reduceIte,p5,p6,p7,p8, c1, c21, c41, c53, c54, c55, c56, c57, c58]
                        have h := run_some h
                        obtain rfl : _ = r := h
                        refine FinH.l ?_
                        try simp only [↓RA,RB,RS, fx81,p1,p2,p3,p4,reduceIte,p5,p6,p7,p8, c1, c21, c41, c53, c54, c55, c56, c57, c58]
                      · replace h := run_f c58 h
                        try simp only [↓RA,RB,RS, fx81,p1,p2,p3,p4,reduceIte,p5,p6,p7,p8, c1, c21, c41, c53, c54, c55, c56, c57, c58]
                        have h := run_some h
                        obtain rfl : _ = r := h
                        refine FinH.l ?_
                        try simp only [↓RA,RB,RS, fx81,p1,p2,p3,p4,reduceIte,p5,p6,p7,p8, c1, c21, c41, c53, c54, c55, c56, c57, c58]
                    · replace h := run_f c57 h
                      try simp only [↓RA,RB,RS, fx81,p1,p2,p3,p4,reduceIte,p5,p6,p7,p8, c1, c21, c41, c53, c54, c55, c56, c57]
                      refine CondH.mk (fun c59 => ?_) (fun c59 => ?_)
                      · replace h := run_t c59 h
                        try simp only [↓RA,RB,RS, fx81,p1,p2,p3,p4,reduceIte,p5,p6,p7,p8, c1, c21, c41, c53, c54, c55, c56, c57, c59]
                        obtain ⟨v68, hv68, h⟩ := run_bind h
                        refine CallH.mk [false] (impl_isZeroTerm_sat hv68) ?_ ?_ <;> try simp only [↓RA,RB,RS, fx81,p1,p2,p3,p4,reduceIte,p5,p6,p7,p8, c1, c21, c41, c53, c54, c55, c56, c57, c59]
                        refine CondH.mk (fun c60 => ?_) (fun c60 => ?_)
                        · replace h := run_t c60 h
                          try simp only [↓RA,RB,RS, fx81,p1,p2,p3,p4,reduceIte,p5,p6,p7,p8, c1, c21, c41, c53, c54, c55, c56, c57, c59, c60]
                          obtain ⟨v74, hv74, h⟩ := run_bind h
                          refine CallH.mk [false, false] (slices_ContainsFunc_Simpl_Formula_impl_Formula_sat (fun _ _ hh => ih.2 _ _ hh) (by simp only [CapsOk_nil, CapsOk_cons]) hv74) ?_ ?_ <;> try simp only [↓RA,RB,RS, fx81,p1,p2,p3,p4,reduceIte,p5,p6,p7,p8, c1, c21, c41, c53, c54, c55, c56, c57, c59, c60]
                          have h := run_some h
                          obtain rfl : _ = r := h
                          refine FinH.l ?_
                          try simp only [↓RA,RB,RS, fx81,p1,p2,p3,p4,reduceIte,p5,p6,p7,p8, c1, c21, c41, c53, c54, c55, c56, c57, c59, c60]
                        · replace h := run_f c60 h
                          try simp only [↓RA,RB,RS, fx81,p1,p2,p3,p4,reduceIte,p5,p6,p7,p8, c1, c21, c41, c53, c54, c55, c56, c57, c59, c60]
                          have h := run_some h
                          obtain rfl : _ = r := h
                          refine FinH.l ?_
                          try simp only [↓RA,RB,RS, fx81,p1,p2,p3,p4,reduceIte,p5,p6,p7,p8, c1, c21, c41, c53, c54, c55, c56, c57, c59, c60]
                      · replace h := run_f c59 h
                        try simp only [↓RA,RB,RS, fx81,p1,p2,p3,p4,reduceIte,p5,p6,p7,p8, c1, c21, c41, c53, c54, c55, c56, c57, c59]
                        have h := run_some h
                        obtain rfl : _ = r := h
                        refine FinH.l ?_
                        try simp only [↓RA,RB,RS, fx81,p1,p2,p3,p4,reduceIte,p5,p6,p7,p8, c1, c21, c41, c53, c54, c55, c56, c57, c59]
                  · replace h := run_f c56 h
                    try simp only [↓RA,RB,RS, fx81,p1,p2,p3,p4,reduceIte,p5,p6,p7,p8, c1, c21, c41, c53, c54, c55, c56]
                    have h := run_some h
                    obtain rfl : _ = r := h
                    refine FinH.l ?_
                    try simp only [↓RA,RB,RS, fx81,p1,p2,p3,p4,reduceIte,p5,p6,p7,p8, c1, c21, c41, c53, c54, c55, c56]
                · replace h := run_f c55 h
                  try simp only [↓RA,RB,RS, fx81,p1,p2,p3,p4,reduceIte,p5,p6,p7,p8, c1, c21, c41, c53, c54, c55]
                  obtain ⟨v44, hv44, h⟩ := run_bind h
                  refine CallH.mk [false] (impl_isQuantifier_sat hv44) ?_ ?_ <;> try simp only [↓RA,RB,RS, fx81,p1,p2,p3,p4,reduceIte,p5,p6,p7,p8, c1, c21, c41, c53, c54, c55]
                  refine CondH.mk (fun c61 => ?_) (fun c61 => ?_)
                  · replace h := run_t c61 h
                    try simp only [↓RA,RB,RS, fx81,p1,p2,p3,p4,reduceIte,p5,p6,p7,p8, c1, c21, c41, c53, c54, c55, c61]
                    obtain ⟨v68, hv68, h⟩ := run_bind h
                    refine CallH.mk [false] (impl_isZeroTerm_sat hv68) ?_ ?_ <;> try simp only [↓RA,RB,RS, fx81,p1,p2,p3,p4,reduceIte,p5,p6,p7,p8, c1, c21, c41, c53, c54, c55, c61]
                    refine CondH.mk (fun c62 => ?_) (fun c62 => ?_)
                    · replace h := run_t c62 h
                      try simp only [↓RA,RB,RS, fx81,p1,p2,p3,p4,reduceIte,p5,p6,p7,p8, c1, c21, c41, c53, c54, c55, c61, c62]
                      obtain ⟨v74, hv74, h⟩ := run_bind h
                      refine CallH.mk [false, false] (slices_ContainsFunc_Simpl_Formula_impl_Formula_sat (fun _ _ hh => ih.2 _ _ hh) (by simp only [CapsOk_nil, CapsOk_cons]) hv74) ?_ ?_ <;> try simp only [↓RA,RB,RS, fx81,p1,p2,p3,p4,reduceIte,p5,p6,p7,p8, c1, c21, c41, c53, c54, c55, c61, c62]
                      have h := run_some h
                      obtain rfl : _ = r := h
                      refine FinH.l ?_
                      try simp only [↓RA,RB,RS, fx81,p1,p2,p3,p4,reduceIte,p5,p6,p7,p8, c1, c21, c41, c53, c54, c55, c61, c62]
                    · replace h := run_f c62 h
                      try simp only [↓RA,RB,RS, fx81,p1,p2,p3,p4,reduceIte,p5,p6,p7,p8, c1, c21, c41, c53, c54, c55, c61, c62]
                      have h := run_some h
                      obtain rfl : _ = r := h
                      refine FinH.l ?_
                      try simp only [↓RA,RB,RS, fx81,p1,p2,p3,p4,reduceIte,p5,p6,p7,p8, c1, c21, c41, c53, c54, c55, c61, c62]
                  · replace h := run_f c61 h
                    try simp only [↓RA,RB,RS, fx81,p1,p2,p3,p4,reduceIte,p5,p6,p7,p8, c1, c21, c41, c53, c54, c55, c61]
                    refine CondH.mk (fun c63 => ?_) (fun c63 => ?_)
                    · replace h := run_t c63 h
                      try simp only [↓RA,RB,RS, fx81,p1,p2,p3,p4,reduceIte,p5,p6,p7,p8, c1, c21, c41, c53, c54, c55, c61, c63]
                      obtain ⟨v68, hv68, h⟩ := run_bind h
                      refine CallH.mk [false] (impl_isZeroTerm_sat hv68) ?_ ?_ <;> try simp only [↓RA,RB,RS, fx81,p1,p2,p3,p4,reduceIte,p5,p6,p7,p8, c1, c21, c41, c53, c54, c55, c61, c63]
                      refine CondH.mk (fun c64 => ?_) (fun c64 => ?_)
                      · replace h := run_t c64 h
                        try simp only [↓RA,RB,RS, fx81,p1,p2,p3,p4,reduceIte,p5,p6,p7,p8, c1, c21, c41, c53, c54, c55, c61, c63, c64]
                        obtain ⟨v74, hv74, h⟩ := run_bind h
                        refine CallH.mk [false, false] (slices_ContainsFunc_Simpl_Formula_impl_Formula_sat (fun _ _ hh => ih.2 _ _ hh) (by simp only [CapsOk_nil, CapsOk_cons]) hv74) ?_ ?_ <;> try simp only [↓RA,RB,RS, fx81,p1,p2,p3,p4,reduceIte,p5,p6,p7,p8, c1, c21, c41, c53, c54, c55, c61, c63, c64]
                        have h := run_some h
                        obtain rfl : _ = r := h
                        refine FinH.l ?_
                        try simp only [↓RA,RB,RS, fx81,p1,p2,p3,p4,reduceIte,p5,p6,p7,p8, c1, c21, c41, c53, c54, c55, c61, c63, c64]
                      · replace h := run_f c64 h
                        try simp only [↓RA,RB,RS, fx81,p1,p2,p3,p4,reduceIte,p5,p6,p7,p8, c1, c21, c41, c53, c54, c55, c61, c63, c64]
                        have h := run_some h
                        obtain rfl : _ = r := h
                        refine FinH.l ?_
                        try simp only [↓RA,RB,RS, fx81,p1,p2,p3,p4,reduceIte,p5,p6,p7,p8, c1, c21, c41, c53, c54, c55, c61, c63, c64]
                    · replace h := run_f c63 h
                      try simp only [↓RA,RB,RS, fx81,p1,p2,p3,p4,reduceIte,p5,p6,p7,p8, c1, c21, c41, c53, c54, c55, c61, c63]
                      have h := run_some h
                      obtain rfl : _ = r := h
                      refine FinH.l ?_
                      try simp only [↓RA,RB,RS, fx81,p1,p2,p3,p4,reduceIte,p5,p6,p7,p8, c1, c21, c41, c53, c54, c55, c61, c63]
              · replace h := run_f c54 h
                try simp only [↓RA,RB,RS, fx81,p1,p2,p3,p4,reduceIte,p5,p6,p7,p8, c1, c21, c41, c53, c54]
                have h := run_some h
                obtain rfl : _ = r := h
                refine FinH.l ?_
                try simp only [↓RA,RB,RS, fx81,p1,p2,p3,p4,reduceIte,p5,p6,p7,p8, c1, c21, c41, c53, c54]
            · replace h := run_f c53 h
              try simp only [↓RA,RB,RS, fx81,p1,p2,p3,p4,reduceIte,p5,p6,p7,p8, c1, c21, c41, c53]
              obtain ⟨v20, hv20, h⟩ := run_bind h
              refine CallH.mk [false] (impl_isQuantifier_sat hv20) ?_ ?_ <;> try simp only [↓RA,RB,RS, fx81,p1,p2,p3,p4,reduceIte,p5,p6,p7,p8, c1, c21, c41, c53]
              refine CondH.mk (fun c65 => ?_) (fun c65 => ?_)
              · replace h := run_t c65 h
                try simp only [↓RA,RB,RS, fx81,p1,p2,p3,p4,reduceIte,p5,p6,p7,p8, c1, c21, c41, c53, c65]
                refine CondH.mk (fun c66 => ?_) (fun c66 => ?_)
                · replace h := run_t c66 h
                  try simp only [↓RA,RB,RS, fx81,p1,p2,p3,p4,reduceIte,p5,p6,p7,p8, c1, c21, c41, c53, c65, c66]
                  obtain ⟨v33, hv33, h⟩ := run_bind h
                  refine CallH.mk [false] (impl_isQuantifier_sat hv33) ?_ ?_ <;> try simp only [↓RA,RB,RS, fx81,p1,p2,p3,p4,reduceIte,p5,p6,p7,p8, c1, c21, c41, c53, c65, c66]
                  refine CondH.mk (fun c67 => ?_) (fun c67 => ?_)
                  · replace h := run_t c67 h
                    try simp only [↓RA,RB,RS, fx81,p1,p2,p3,p4,reduceIte,p5,p6,p7,p8, c1, c21, c41, c53, c65, c66, c67]
                    obtain ⟨v37, hv37, h⟩ := run_bind h
                    refine CallH.mk [false] (impl_isVariable_sat hv37) ?_ ?_ <;> try simp only [↓RA,RB,RS, fx81,p1,p2,p3,p4,reduceIte,p5,p6,p7,p8, c1, c21, c41, c53, c65, c66, c67]
                    refine CondH.mk (fun c68 => ?_) (fun c68 => ?_)
                    · replace h := run_t c68 h
                      try simp only [↓RA,RB,RS, fx81,p1,p2,p3,p4,reduceIte,p5,p6,p7,p8, c1, c21, c41, c53, c65, c66, c67, c68]
                      obtain ⟨v44, hv44, h⟩ := run_bind h
                      refine CallH.mk [false] (impl_isQuantifier_sat hv44) ?_ ?_ <;> try simp only [↓RA,RB,RS, fx81,p1,p2,p3,p4,reduceIte,p5,p6,p7,p8, c1, c21, c41, c53, c65, c66, c67, c68]
                      refine CondH.mk (fun c69 => ?_) (fun c69 => ?_)
                      · replace h := run_t c69 h
                        try simp only [↓RA,RB,RS, fx81,p1,p2,p3,p4,reduceIte,p5,p6,p7,p8, c1, c21, c41, c53, c65, c66, c67, c68, c69]
                        obtain ⟨v68, hv68, h⟩ := run_bind h
                        refine CallH.mk [false] (impl_isZeroTerm_sat hv68) ?_ ?_ <;> try simp only [↓RA,RB,RS, fx81,p1,p2,p3,p4,reduceIte,p5,p6,p7,p8, c1, c21, c41, c53, c65, c66, c67, c68, c69]
                        refine CondH.mk (fun c70 => ?_) (fun c70 => ?_)
                        · replace h := run_t c70 h
                          try simp only [↓RA,RB,RS, fx81,p1,p2,p3,p4,reduceIte,p5,p6,p7,p8, c1, c21, c41, c53, c65, c66, c67, c68, c69, c70]
                          obtain ⟨v74, hv74, h⟩ := run_bind h
                          refine CallH.mk [false, false] (slices_ContainsFunc_Simpl_Formula_impl_Formula_sat (fun _ _ hh => ih.2 _ _ hh) (by simp only [CapsOk_nil, CapsOk_cons]) hv74) ?_ ?_ <;> try simp only [↓RA,RB,RS, fx81,p1,p2,p3,p4,reduceIte,p5,p6,p7,p8, c1, c21, c41, c53, c65, c66, c67, c68, c69, c70]
                          have h := run_some h
                          obtain rfl : _ = r := h
                          refine FinH.l ?_
                          try simp only [↓RA,RB,RS, fx81,p1,p2,p3,p4,reduceIte,p5,p6,p7,p8, c1, c21, c41, c53, c65, c66, c67, c68, c69, c70]
                        · replace h := run_f c70 h
                          try simp only [↓RA,RB,RS, fx81,p1,p2,p3,p4,reduceIte,p5,p6,p7,p8, c1, c21, c41, c53, c65, c66, c67, c68, c69, c70]
                          have h := run_some h
                          obtain rfl : _ = r := h
                          refine FinH.l ?_
                          try simp only [↓RA,RB,RS, fx81,p1,p2,p3,p4,reduceIte,p5,p6,p7,p8, c1, c21, c41, c53, c65, c66, c67, c68, c69, c70]
                      · replace h := run_f c69 h
                        try simp only [↓RA,RB,RS, fx81,p1,p2,p3,p4,reduceIte,p5,p6,p7,p8, c1, c21, c41, c53, c65, c66, c67, c68, c69]
                        refine CondH.mk (fun c71 => ?_) (fun c71 => ?_)
                        · replace h := run_t c71 h
                          try simp only [↓RA,RB,RS, fx81,p1,p2,p3,p4,reduceIte,p5,p6,p7,p8, c1, c21, c41, c53, c65, c66, c67, c68, c69, c71]
                          obtain ⟨v68, hv68, h⟩ := run_bind h
                          refine CallH.mk [false] (impl_isZeroTerm_sat hv68) ?_ ?_ <;> try simp only [↓RA,RB,RS, fx81,p1,p2,p3,p4,reduceIte,p5,p6,p7,p8, c1, c21, c41, c53, c65, c66, c67, c68, c69, c71]
                          refine CondH.mk (fun c72 => ?_) (fun c72 => ?_)
                          · replace h := run_t c72 h
                            try simp only [↓RA,RB,RS, fx81,p1,p2,p3,p4,reduceIte,p5,p6,p7,p8, c1, c21, c41, c53, c65, c66, c67, c68, c69, c71, c72]
                            obtain ⟨v74, hv74, h⟩ := run_bind h
                            refine CallH.mk [false, false] (slices_ContainsFunc_Simpl_Formula_impl_Formula_sat (fun _ _ hh => ih.2 _ _ hh) (by simp only [CapsOk_nil, CapsOk_cons]) hv74) ?_ ?_ <;> try simp only [↓RA,RB,RS, fx81,p1,p2,p3,p4,reduceIte,p5,p6,p7,p8, c1, c21, c41, c53, c65, c66, c67, c68, c69, c71, c72]
                            have h := run_some h
                            obtain rfl : _ = r := h
                            refine FinH.l ?_
                            try simp only [↓RA,RB,RS, fx81,p1,p2,p3,p4,reduceIte,p5,p6,p7,p8, c1, c21, c41, c53, c65, c66, c67, c68, c69, c71, c72]
                          · replace h := run_f c72 h
                            try simp only [↓RA,RB,RS, fx81,p1,p2,p3,p4,reduceIte,p5,p6,p7,p8, c1, c21, c41, c53, c65, c66, c67, c68, c69, c71, c72]
                            have h := run_some h
                            obtain rfl : _ = r := h
                            refine FinH.l ?_
                            try simp only [↓RA,RB,RS, fx81,p1,p2,p3,p4,reduceIte,p5,p6,p7,p8, c1, c21, c41, c53, c65, c66, c67, c68, c69, c71, c72]
                        · replace h := run_f c71 h
                          try simp only [↓RA,RB,RS, fx81,p1,p2,p3,p4,reduceIte,p5,p6,p7,p8, c1, c21, c41, c53, c65, c66, c67, c68, c69, c71]
                          have h := run_some h
                          obtain rfl : _ = r := h
                          refine FinH.l ?_
                          try simp only [↓RA,RB,RS, fx81,p1,p2,p3,p4,reduceIte,p5,p6,p7,p8, c1, c21, c41, c53, c65, c66, c67, c68, c69, c71]
                    · replace h := run_f c68 h
                      try simp only [↓RA,RB,RS, fx81,p1,p2,p3,p4,reduceIte,p5,p6,p7,p8, c1, c21, c41, c53, c65, c66, c67, c68]
                      have h := run_some h
                      obtain rfl : _ = r := h
                      refine FinH.l ?_
                      try simp only [↓RA,RB,RS, fx81,p1,p2,p3,p4,reduceIte,p5,p6,p7,p8, c1, c21, c41, c53, c65, c66, c67, c68]
                  · replace h := run_f c67 h
                    try simp only [↓RA,RB,RS, fx81,p1,p2,p3,p4,reduceIte,p5,p6,p7,p8, c1, c21, c41, c53, c65, c66, c67]
                    obtain ⟨v44, hv44, h⟩ := run_bind h
                    refine CallH.mk [false] (impl_isQuantifier_sat hv44) ?_ ?_ <;> try simp only [↓RA,RB,RS, fx81,p1,p2,p3,p4,reduceIte,p5,p6,p7,p8, c1, c21, c41, c53, c65, c66, c67]
                    refine CondH.mk (fun c73 => ?_) (fun c73 => ?_)
                    · replace h := run_t c73 h
                      try simp only [↓RA,RB,RS, fx81,p1,p2,p3,p4,reduceIte,p5,p6,p7,p8, c1, c21, c41, c53, c65, c66, c67, c73]
                      obtain ⟨v68, hv68, h⟩ := run_bind h
                      refine CallH.mk [false] (impl_isZeroTerm_sat hv68) ?_ ?_ <;> try simp only [↓RA,RB,RS, fx81,p1,p2,p3,p4,reduceIte,p5,p6,p7,p8, c1, c21, c41, c53, c65, c66, c67, c73]
                      refine CondH.mk (fun c74 => ?_) (fun c74 => ?_)
                      · replace h := run_t c74 h
                        try simp only [↓RA,RB,RS, fx81,p1,p2,p3,p4,reduceIte,p5,p6,p7,p8, c1, c21, c41, c53, c65, c66, c67, c73, c74]
                        obtain ⟨v74, hv74, h⟩ := run_bind h
                        refine CallH.mk [false, false] (slices_ContainsFunc_Simpl_Formula_impl_Formula_sat (fun _ _ hh => ih.2 _ _ hh) (by simp only [CapsOk_nil, CapsOk_cons]) hv74) ?_ ?_ <;> try simp only [↓RA,RB,RS, fx81,p1,p2,p3,p4,reduceIte,p5,p6,p7,p8, c1, c21, c41, c53, c65, c66, c67, c73, c74]
                        have h := run_some h
                        obtain rfl : _ = r := h
                        refine FinH.l ?_
                        try simp only [↓RA,RB,RS, fx81,p1,p2,p3,p4,reduceIte,p5,p6,p7,p8, c1, c21, c41, c53, c65, c66, c67, c73, c74]
                      · replace h := run_f c74 h
                        try simp only [↓RA,RB,RS, fx81,p1,p2,p3,p4,reduceIte,p5,p6,p7,p8, c1, c21, c41, c53, c65, c66, c67, c73, c74]
                        have h := run_some h
                        obtain rfl : _ = r := h
                        refine FinH.l ?_
                        try simp only [↓RA,RB,RS, fx81,p1,p2,p3,p4,reduceIte,p5,p6,p7,p8, c1, c21, c41, c53, c65, c66, c67, c73, c74]
                    · replace h := run_f c73 h
                      try simp only [↓RA,RB,RS, fx81,p1,p2,p3,p4,reduceIte,p5,p6,p7,p8, c1, c21, c41, c53, c65, c66, c67, c73]
                      refine CondH.mk (fun c75 => ?_) (fun c75 => ?_)
                      · replace h := run_t c75 h
                        try simp only [↓RA,RB,RS, fx81,p1,p2,p3,p4,reduceIte,p5,p6,p7,p8, c1, c21, c41, c53, c65, c66, c67, c73, c75]
                        obtain ⟨v68, hv68, h⟩ := run_bind h
                        refine CallH.mk [false] (impl_isZeroTerm_sat hv68) ?_ ?_ <;> try simp only [↓RA,RB,RS, fx81,p1,p2,p3,p4,reduceIte,p5,p6,p7,p8, c1, c21, c41, c53, c65, c66, c67, c73, c75]
                        refine CondH.mk (fun c76 => ?_) (fun c76 => ?_)
                        · replace h := run_t c76 h
                          try simp only [↓RA,RB,RS, fx81,p1,p2,p3,p4,reduceIte,p5,p6,p7,p8, c1, c21, c41, c53, c65, c66, c67, c73, c75, c76]
                          obtain ⟨v74, hv74, h⟩ := run_bind h
                          refine CallH.mk [false, false] (slices_ContainsFunc_Simpl_Formula_impl_Formula_sat (fun _ _ hh => ih.2 _ _ hh) (by simp only [CapsOk_nil, CapsOk_cons]) hv74) ?_ ?_ <;> try simp only [↓RA,RB,RS, fx81,p1,p2,p3,p4,reduceIte,p5,p6,p7,p8, c1, c21, c41, c53, c65, c66, c67, c73, c75, c76]
                          have h := run_some h
                          obtain rfl : _ = r := h
                          refine FinH.l ?_
                          try simp only [↓RA,RB,RS, fx81,p1,p2,p3,p4,reduceIte,p5,p6,p7,p8, c1, c21, c41, c53, c65, c66, c67, c73, c75, c76]
                        · replace h := run_f c76 h
                          try simp only [↓RA,RB,RS, fx81,p1,p2,p3,p4,reduceIte,p5,p6,p7,p8, c1, c21, c41, c53, c65, c66, c67, c73, c75, c76]
                          have h := run_some h
                          obtain rfl : _ = r := h
                          refine FinH.l ?_
                          try simp only [↓RA,RB,RS, fx81,p1,p2,p3,p4,reduceIte,p5,p6,p7,p8, c1, c21, c41, c53, c65, c66, c67, c73, c75, c76]
                      · replace h := run_f c75 h
                        try simp only [↓RA,RB,RS, fx81,p1,p2,p3,p4,reduceIte,p5,p6,p7,p8, c1, c21, c41, c53, c65, c66, c67, c73, c75]
                        have h := run_some h
                        obtain rfl : _ = r := h
                        refine FinH.l ?_
                        try simp only [↓RA,RB,RS, fx81,p1,p2,p3,p4,reduceIte,p5,p6,p7,p8, c1, c21, c41, c53, c65, c66, c67, c73, c75]
                · replace h := run_f c66 h
                  try simp only [↓RA,RB,RS, fx81,p1,p2,p3,p4,reduceIte,p5,p6,p7,p8, c1, c21, c41, c53, c65, c66]
                  have h := run_some h
                  obtain rfl : _ = r := h
                  refine FinH.l ?_
                  try simp only [↓RA,RB,RS, fx81,p1,p2,p3,p4,reduceIte,p5,p6,p7,p8, c1, c21, c41, c53, c65, c66]
              · replace h := run_f c65 h
                try simp only [↓RA,RB,RS, fx81,p1,p2,p3,p4,reduceIte,p5,p6,p7,p8, c1, c21, c41, c53, c65]
                obtain ⟨v24, hv24, h⟩ := run_bind h
                refine CallH.mk [false] (impl_isBinary_sat hv24) ?_ ?_ <;> try simp only [↓RA,RB,RS, fx81,p1,p2,p3,p4,reduceIte,p5,p6,p7,p8, c1, c21, c41, c53, c65]
                refine CondH.mk (fun c77 => ?_) (fun c77 => ?_)
                · replace h := run_t c77 h
                  try simp only [↓RA,RB,RS, fx81,p1,p2,p3,p4,reduceIte,p5,p6,p7,p8, c1, c21, c41, c53, c65, c77]
                  refine CondH.mk (fun c78 => ?_) (fun c78 => ?_)
                  · replace h := run_t c78 h
                    try simp only [↓RA,RB,RS, fx81,p1,p2,p3,p4,reduceIte,p5,p6,p7,p8, c1, c21, c41, c53, c65, c77, c78]
                    obtain ⟨v33, hv33, h⟩ := run_bind h
                    refine CallH.mk [false] (impl_isQuantifier_sat hv33) ?_ ?_ <;> try simp only [↓RA,RB,RS, fx81,p1,p2,p3,p4,reduceIte,p5,p6,p7,p8, c1, c21, c41, c53, c65, c77, c78]
                    refine CondH.mk (fun c79 => ?_) (fun c79 => ?_)
                    · replace h := run_t c79 h
                      try simp only [↓RA,RB,RS, fx81,p1,p2,p3,p4,reduceIte,p5,p6,p7,p8, c1, c21, c41, c53, c65, c77, c78, c79]
                      obtain ⟨v37, hv37, h⟩ := run_bind h
                      refine CallH.mk [false] (impl_isVariable_sat hv37) ?_ ?_ <;> try simp only [↓RA,RB,RS, fx81,p1,p2,p3,p4,reduceIte,p5,p6,p7,p8, c1, c21, c41, c53, c65, c77, c78, c79]
                      refine CondH.mk (fun c80 => ?_) (fun c80 => ?_)
                      · replace h := run_t c80 h
                        try simp only [↓RA,RB,RS, fx81,p1,p2,p3,p4,reduceIte,p5,p6,p7,p8, c1, c21, c41, c53, c65, c77, c78, c79, c80]
                        obtain ⟨v44, hv44, h⟩ := run_bind h
                        refine CallH.mk [false] (impl_isQuantifier_sat hv44) ?_ ?_ <;> try simp only [↓RA,RB,RS, fx81,p1,p2,p3,p4,reduceIte,p5,p6,p7,p8, c1, c21, c41, c53, c65, c77, c78, c79, c80]
                        refine CondH.mk (fun c81 => ?_) (fun c81 => ?_)
                        · replace h := run_t c81 h
                          try simp only [↓RA,RB,RS, fx81,p1,p2,p3,p4,reduceIte,p5,p6,p7,p8, c1, c21, c41, c53, c65, c77, c78, c79, c80, c81]
                          obtain ⟨v68, hv68, h⟩ := run_bind h
                          refine CallH.mk [false] (impl_isZeroTerm_sat hv68) ?_ ?_ <;> try simp only [↓RA,RB,RS, fx81,p1,p2,p3,p4,reduceIte,p5,p6,p7,p8, c1, c21, c41, c53, c65, c77, c78, c79, c80, c81]
                          refine CondH.mk (fun c82 => ?_) (fun c82 => ?_)
                          · replace h := run_t c82 h
                            try simp only [↓RA,RB,RS, fx81,p1,p2,p3,p4,reduceIte,p5,p6,p7,p8, c1, c21, c41, c53, c65, c77, c78, c79, c80, c81, c82]
                            obtain ⟨v74, hv74, h⟩ := run_bind h
                            refine CallH.mk [false, false] (slices_ContainsFunc_Simpl_Formula_impl_Formula_sat (fun _ _ hh => ih.2 _ _ hh) (by simp only [CapsOk_nil, CapsOk_cons]) hv74) ?_ ?_ <;> try simp only [↓RA,RB,RS, fx81,p1,p2,p3,p4,reduceIte,p5,p6,p7,p8, c1, c21, c41, c53, c65, c77, c78, c79, c80, c81, c82]
                            have h := run_some h
                            obtain rfl : _ = r := h
                            refine FinH.l ?_
                            try simp only [↓RA,RB,RS, fx81,p1,p2,p3,p4,reduceIte,p5,p6,p7,p8, c1, c21, c41, c53, c65, c77, c78, c79, c80, c81, c82]
                          · replace h := run_f c82 h
                            try simp only [↓RA,RB,RS, fx81,p1,p2,p3,p4,reduceIte,p5,p6,p7,p8, c1, c21, c41, c53, c65, c77, c78, c79, c80, c81, c82]
                            have h := run_some h
                            obtain rfl : _ = r := h
                            refine FinH.l ?_
                            try simp only [↓RA,RB,RS, fx81,p1,p2,p3,p4,reduceIte,p5,p6,p7,p8, c1, c21, c41, c53, c65, c77, c78, c79, c80, c81, c82]
                        · replace h := run_f c81 h
                          try simp only [↓RA,RB,RS, fx81,p1,p2,p3,p4,reduceIte,p5,p6,p7,p8, c1, c21, c41, c53, c65, c77, c78, c79, c80, c81]
                          refine CondH.mk (fun c83 => ?_) (fun c83 => ?_)
                          · replace h := run_t c83 h
                            try simp only [↓RA,RB,RS, fx81,p1,p2,p3,p4,reduceIte,p5,p6,p7,p8, c1, c21, c41, c53, c65, c77, c78, c79, c80, c81, c83]
                            obtain ⟨v68, hv68, h⟩ := run_bind h
                            refine CallH.mk [false] (impl_isZeroTerm_sat hv68) ?_ ?_ <;> try simp only [↓RA,RB,RS, fx81,p1,p2,p3,p4,reduceIte,p5,p6,p7,p8, c1, c21, c41, c53, c65, c77, c78, c79, c80, c81, c83]
                            refine CondH.mk (fun c84 => ?_) (fun c84 => ?_)
                            · replace h := run_t c84 h
                              try simp only [↓RA,RB,RS, fx81,p1,p2,p3,p4,reduceIte,p5,p6,p7,p8, c1, c21, c41, c53, c65, c77, c78, c79, c80, c81, c83, c84]
                              obtain ⟨v74, hv74, h⟩ := run_bind h
                              refine CallH.mk [false, false] (slices_ContainsFunc_Simpl_Formula_impl_Formula_sat (fun _ _ hh => ih.2 _ _ hh) (by simp only [CapsOk_nil, CapsOk_cons]) hv74) ?_ ?_ <;> try simp only [↓RA,RB,RS, fx81,p1,p2,p3,p4,reduceIte,p5,p6,p7,p8, c1, c21, c41, c53, c65, c77, c78, c79, c80, c81, c83, c84]
                              have h := run_some h
                              obtain rfl : _ = r := h
                              refine FinH.l ?_
                              try simp only [↓RA,RB,RS, fx81,p1,p2,p3,p4,reduceIte,p5,p6,p7,p8, c1, c21, c41, c53, c65, c77, c78, c79, c80, c81, c83, c84]
                            · replace h := run_f c84 h
                              try simp only [↓RA,RB,RS, fx81,p1,p2,p3,p4,reduceIte,p5,p6,p7,p8, c1, c21, c41, c53, c65, c77, c78, c79, c80, c81, c83, c84]
                              have h := run_some h
                              obtain rfl : _ = r := h
                              refine FinH.l ?_
                              try simp only [↓RA,RB,RS, fx81,p1,p2,p3,p4,reduceIte,p5,p6,p7,p8, c1, c21, c41, c53, c65, c77, c78, c79, c80, c81, c83, c84]
                          · replace h := run_f c83 h
                            try simp only [↓RA,RB,RS, fx81,p1,p2,p3,p4,reduceIte,p5,p6,p7,p8, c1, c21, c41, c53, c65, c77, c78, c79, c80, c81, c83]
                            have h := run_some h
                            obtain rfl : _ = r := h
                            refine FinH.l ?_
                            try simp only [↓RA,RB,RS, fx81,p1,p2,p3,p4,reduceIte,p5,p6,p7,p8, c1, c21, c41, c53, c65, c77, c78, c79, c80, c81, c83]
                      · replace h := run_f c80 h
                        try simp only [↓RA,RB,RS, fx81,p1,p2,p3,p4,reduceIte,p5,p6,p7,p8, c1, c21, c41, c53, c65, c77, c78, c79, c80]
                        have h := run_some h
                        obtain rfl : _ = r := h
                        refine FinH.l ?_
                        try simp only [↓RA,RB,RS, fx81,p1,p2,p3,p4,reduceIte,p5,p6,p7,p8, c1, c21, c41, c53, c65, c77, c78, c79, c80]
                    · replace h := run_f c79 h
                      try simp only [↓RA,RB,RS, fx81,p1,p2,p3,p4,reduceIte,p5,p6,p7,p8, c1, c21, c41, c53, c65, c77, c78, c79]
                      obtain ⟨v44, hv44, h⟩ := run_bind h
                      refine CallH.mk [false] (impl_isQuantifier_sat hv44) ?_ ?_ <;> try simp only [↓RA,RB,RS, fx81,p1,p2,p3,p4,reduceIte,p5,p6,p7,p8, c1, c21, c41, c53, c65, c77, c78, c79]
                      refine CondH.mk (fun c85 => ?_) (fun c85 => ?_)
                      · replace h := run_t c85 h
                        try simp only [↓RA,RB,RS, fx81,p1,p2,p3,p4,reduceIte,p5,p6,p7,p8, c1, c21, c41, c53, c65, c77, c78, c79, c85]
                        obtain ⟨v68, hv68, h⟩ := run_bind h
                        refine CallH.mk [false] (impl_isZeroTerm_sat hv68) ?_ ?_ <;> try simp only [↓RA,RB,RS, fx81,p1,p2,p3,p4,reduceIte,p5,p6,p7,p8, c1, c21, c41, c53, c65, c77, c78, c79, c85]
                        refine CondH.mk (fun c86 => ?_) (fun c86 => ?_)
                        · replace h := run_t c86 h
                          try simp only [↓RA,RB,RS, fx81,p1,p2,p3,p4,reduceIte,p5,p6,p7,p8, c1, c21, c41, c53, c65, c77, c78, c79, c85, c86]
                          obtain ⟨v74, hv74, h⟩ := run_bind h
                          refine CallH.mk [false, false] (slices_ContainsFunc_Simpl_Formula_impl_Formula_sat (fun _ _ hh => ih.2 _ _ hh) (by simp only [CapsOk_nil, CapsOk_cons]) hv74) ?_ ?_ <;> try simp only [↓RA,RB,RS, fx81,p1,p2,p3,p4,reduceIte,p5,p6,p7,p8, c1, c21, c41, c53, c65, c77, c78, c79, c85, c86]
                          have h := run_some h
                          obtain rfl : _ = r := h
                          refine FinH.l ?_
                          try simp only [↓RA,RB,RS, fx81,p1,p2,p3,p4,reduceIte,p5,p6,p7,p8, c1, c21, c41, c53, c65, c77, c78, c79, c85, c86]
                        · replace h := run_f c86 h
                          try simp only [↓RA,RB,RS, fx81,p1,p2,p3,p4,reduceIte,p5,p6,p7,p8, c1, c21, c41, c53, c65, c77, c78, c79, c85, c86]
                          have h := run_some h
                          obtain rfl : _ = r := h
                          refine FinH.l ?_
                          try simp only [↓RA,RB,RS, fx81,p1,p2,p3,p4,reduceIte,p5,p6,p7,p8, c1, c21, c41, c53, c65, c77, c78, c79, c85, c86]
                      · replace h := run_f c85 h
                        try simp only [↓RA,RB,RS, fx81,p1,p2,p3,p4,reduceIte,p5,p6,p7,p8, c1, c21, c41, c53, c65, c77, c78, c79, c85]
                        refine CondH.mk (fun c87 => ?_) (fun c87 => ?_)
                        · replace h := run_t c87 h
                          try simp only [↓RA,RB,RS, fx81,p1,p2,p3,p4,reduceIte,p5,p6,p7,p8, c1, c21, c41, c53, c65, c77, c78, c79, c85, c87]
                          obtain ⟨v68, hv68, h⟩ := run_bind h
                          refine CallH.mk [false] (impl_isZeroTerm_sat hv68) ?_ ?_ <;> try simp only [↓RA,RB,RS, fx81,p1,p2,p3,p4,reduceIte,p5,p6,p7,p8, c1, c21, c41, c53, c65, c77, c78, c79, c85, c87]
                          refine CondH.mk (fun c88 => ?_) (fun c88 => ?_)
                          · replace h := run_t c88 h
                            try simp only [↓RA,RB,RS, fx81,p1,p2,p3,p4,reduceIte,p5,p6,p7,p8, c1, c21, c41, c53, c65, c77, c78, c79, c85, c87, c88]
                            obtain ⟨v74, hv74, h⟩ := run_bind h
                            refine CallH.mk [false, false] (slices_ContainsFunc_Simpl_Formula_impl_Formula_sat (fun _ _ hh => ih.2 _ _ hh) (by simp only [CapsOk_nil, CapsOk_cons]) hv74) ?_ ?_ <;> try simp only [↓RA,RB,RS, fx81,p1,p2,p3,p4,reduceIte,p5,p6,p7,p8, c1, c21, c41, c53, c65, c77, c78, c79, c85, c87, c88]
                            have h := run_some h
                            obtain rfl : _ = r := h
                            refine FinH.l ?_
                            try simp only [↓RA,RB,RS, fx81,p1,p2,p3,p4,reduceIte,p5,p6,p7,p8, c1, c21, c41, c53, c65, c77, c78, c79, c85, c87, c88]
                          · replace h := run_f c88 h
                            try simp only [↓RA,RB,RS, fx81,p1,p2,p3,p4,reduceIte,p5,p6,p7,p8, c1, c21, c41, c53, c65, c77, c78, c79, c85, c87, c88]
                            have h := run_some h
                            obtain rfl : _ = r := h
                            refine FinH.l ?_
                            try simp only [↓RA,RB,RS, fx81,p1,p2,p3,p4,reduceIte,p5,p6,p7,p8, c1, c21, c41, c53, c65, c77, c78, c79, c85, c87, c88]
                        · replace h := run_f c87 h
                          try simp only [↓RA,RB,RS, fx81,p1,p2,p3,p4,reduceIte,p5,p6,p7,p8, c1, c21, c41, c53, c65, c77, c78, c79, c85, c87]
                          have h := run_some h
                          obtain rfl : _ = r := h
                          refine FinH.l ?_
                          try simp only [↓RA,RB,RS, fx81,p1,p2,p3,p4,reduceIte,p5,p6,p7,p8, c1, c21, c41, c53, c65, c77, c78, c79, c85, c87]
                  · replace h := run_f c78 h
                    try simp only [↓RA,RB,RS, fx81,p1,p2,p3,p4,reduceIte,p5,p6,p7,p8, c1, c21, c41, c53, c65, c77, c78]
                    have h := run_some h
                    obtain rfl : _ = r := h
                    refine FinH.l ?_
                    try simp only [↓RA,RB,RS, fx81,p1,p2,p3,p4,reduceIte,p5,p6,p7,p8, c1, c21, c41, c53, c65, c77, c78]
                · replace h := run_f c77 h
                  try simp only [↓RA,RB,RS, fx81,p1,p2,p3,p4,reduceIte,p5,p6,p7,p8, c1, c21, c41, c53, c65, c77]
                  have h := run_some h
                  obtain rfl : _ = r := h
                  refine FinH.l ?_
                  try simp only [↓RA,RB,RS, fx81,p1,p2,p3,p4,reduceIte,p5,p6,p7,p8, c1, c21, c41, c53, c65, c77]
    · replace h := Run.of h
      rw [impl_hasForm_1N] at h
      refine Sat.of_m (nt := 6) (rs := [.tmp 2]) (n := 100000) Tryz.func97 rfl rfl rfl rfl (by simp) ?_
      try simp only [↓RA,RB,RS, fx97,p1,p2,p3,p4,reduceIte,p5,p6,p7,p8]
      repeat (first | with_reducible refine noR_and (by repeat (first | exact noR_empty _ _ | exact noR_nilS _ _ | refine noR_mk _ _ _ _ _ rfl ?_ | refine noR_mkS _ _ _ _ _ rfl ?_)) ?_ | with_reducible refine noC_and (by repeat (first | exact noC_empty _ _ (by try simp only [↓RA,RB,RS, fx97,p1,p2,p3,p4,reduceIte,p5,p6,p7,p8]) | exact noC_nilS _ _ (by try simp only [↓RA,RB,RS, fx97,p1,p2,p3,p4,reduceIte,p5,p6,p7,p8]) | refine noC_mk _ _ _ _ _ rfl ?_ | refine noC_mkS _ _ _ _ _ rfl ?_)) ?_ | with_reducible refine and_ac ?_ | with_reducible refine And.intro (a := _ = List.range _) (by rfl) ?_)
      obtain ⟨v4, hv4, h⟩ := run_bind h
      refine CallH.mk [false] (ih.1 _ _ hv4) ?_ ?_ <;> try simp only [↓RA,RB,RS, fx97,p1,p2,p3,p4,reduceIte,p5,p6,p7,p8]
      have h := run_some h
      obtain rfl : _ = r := h
      refine FinH.l ?_
      try simp only [↓RA,RB,RS, fx97,p1,p2,p3,p4,reduceIte,p5,p6,p7,p8]
theorem impl_hasForm_sat {a0 : Formula} {r : Bool} (h : impl_hasForm a0 = some r) : Sat Tryz.prog 81 [((Formula.pv false) a0)] (B r) := by
  obtain ⟨n, hn⟩ := lim_some h
  exact (impl_hasFormN_sat n).1 _ _ hn
theorem impl_hasForm_1_sat {a0 : Formula} {r : Bool} (h : impl_hasForm_1 a0 = some r) : Sat Tryz.prog 97 [((Formula.pv false) a0)] (B r) := by
  obtain ⟨n, hn⟩ := lim_some h
  exact (impl_hasFormN_sat n).2 _ _ hn

end Go.Proofs.YtkokcfphepmeeaaGreatDoor
