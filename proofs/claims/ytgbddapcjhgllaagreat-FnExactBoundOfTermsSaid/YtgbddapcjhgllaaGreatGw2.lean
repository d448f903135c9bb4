/- A part of the proof: lemmas only; nothing is claimed here beyond what each lemma says. -/
import Derived.Test.YtgbddapcjhgllaaGreatGw1
set_option linter.unusedSimpArgs false
set_option linter.unusedVariables false
set_option linter.defProp false
set_option maxRecDepth 4000
namespace Go.Proofs.YtgbddapcjhgllaaGreat
open Go.Av
set_option maxHeartbeats 4000000
open And renaming intro → A
open Nat renaming reduceLT → p1, reduceAdd → p2, reduceMul → p3, reduceEqDiff → p4, reduceBEq → p5, reduceLeDiff → p6, reduceSub → p7
open Int renaming reduceToNat → p8
def fx17 := A @TB3 <| A @TB28 <| A @TB29 <| @TB31
theorem heldLinear_sat {a0 : Linear} {a1 : Int}  {r : Int} (h : heldLinear a0 a1 = some r) : Sat Tryz.prog 17 [((Linear.pv false) a0), (I a1)] (I r) := by
  replace h := Run.of h
  unfold heldLinear at h
  refine Sat.of_m (nt := 18) (rs := [.tmp 4]) (n := 100000) Tryz.func17 rfl rfl rfl rfl (by simp) ?_
  try simp only [↓RA,RB,RS, fx17,p1,p2,p3,p4,reduceIte,p5,p6,p7,p8]
  repeat (first | with_reducible refine noR_and (by repeat (first | exact noR_empty _ _ | exact noR_nilS _ _ | refine noR_mk _ _ _ _ _ rfl ?_ | refine noR_mkS _ _ _ _ _ rfl ?_)) ?_ | with_reducible refine noC_and (by repeat (first | exact noC_empty _ _ (by try simp only [↓RA,RB,RS, fx17,p1,p2,p3,p4,reduceIte,p5,p6,p7,p8]) | exact noC_nilS _ _ (by try simp only [↓RA,RB,RS, fx17,p1,p2,p3,p4,reduceIte,p5,p6,p7,p8]) | refine noC_mk _ _ _ _ _ rfl ?_ | refine noC_mkS _ _ _ _ _ rfl ?_)) ?_ | with_reducible refine and_ac ?_ | with_reducible refine And.intro (a := _ = List.range _) (by rfl) ?_)
  obtain ⟨v8, hv8, h⟩ := run_bind h
  refine CallH.mk [false, false] (heldStringS_sat hv8) ?_ ?_ <;> try simp only [↓RA,RB,RS, fx17,p1,p2,p3,p4,reduceIte,p5,p6,p7,p8]
  refine CondH.mk (fun c1 => ?_) (fun c1 => ?_)
  · replace h := run_t c1 h
    try simp only [↓RA,RB,RS, fx17,p1,p2,p3,p4,reduceIte,p5,p6,p7,p8, c1]
    have h := run_some h
    obtain rfl : _ = r := h
    refine FinH.l ?_
    try simp only [↓RA,RB,RS, fx17,p1,p2,p3,p4,reduceIte,p5,p6,p7,p8, c1]
  · replace h := run_f c1 h
    try simp only [↓RA,RB,RS, fx17,p1,p2,p3,p4,reduceIte,p5,p6,p7,p8, c1]
    obtain ⟨v14, hv14, h⟩ := run_bind h
    refine CallH.mk [false, false] (heldIntS_sat hv14) ?_ ?_ <;> try simp only [↓RA,RB,RS, fx17,p1,p2,p3,p4,reduceIte,p5,p6,p7,p8, c1]
    refine CondH.mk (fun c2 => ?_) (fun c2 => ?_)
    · replace h := run_t c2 h
      try simp only [↓RA,RB,RS, fx17,p1,p2,p3,p4,reduceIte,p5,p6,p7,p8, c1, c2]
      have h := run_some h
      obtain rfl : _ = r := h
      refine FinH.l ?_
      try simp only [↓RA,RB,RS, fx17,p1,p2,p3,p4,reduceIte,p5,p6,p7,p8, c1, c2]
    · replace h := run_f c2 h
      try simp only [↓RA,RB,RS, fx17,p1,p2,p3,p4,reduceIte,p5,p6,p7,p8, c1, c2]
      have h := run_some h
      obtain rfl : _ = r := h
      refine FinH.l ?_
      try simp only [↓RA,RB,RS, fx17,p1,p2,p3,p4,reduceIte,p5,p6,p7,p8, c1, c2]

def fx4 := A @TB3 <| A @TB4 <| A @TB22 <| A @TB23 <| A @TB31 <| A @TB34 <| @TB36
theorem FnExactBoundOfTerms_sat {a0 : List Majorant} {a1 : List Term}  {r : Bool} (h : FnExactBoundOfTerms a0 a1 = some r) : Sat Tryz.prog 4 [(.sl false 3 (a0.map (Majorant.pv false))), (.sl false 2 (a1.map (Term.pv false)))] (B r) := by
  replace h := Run.of h
  unfold FnExactBoundOfTerms at h
  refine Sat.of_m (nt := 119) (rs := [.tmp 4]) (n := 100000) Tryz.func4 rfl rfl rfl rfl (by simp) ?_
  try simp only [↓RA, RB, RJ, RS, fx4,p1,p2,p3,p4,reduceIte,p5,p6,p7,p8]
  obtain ⟨v19, hv19, h⟩ := run_bind h
  refine CallH.mk [false, false] (szMajorantS_sat hv19) ?_ ?_ <;> try simp only [↓RA, RB, RJ, RS, fx4,p1,p2,p3,p4,reduceIte,p5,p6,p7,p8]
  refine CondH.mk (fun c1 => ?_) (fun c1 => ?_)
  · replace h := run_t c1 h
    try simp only [↓RA, RB, RJ, RS, fx4,p1,p2,p3,p4,reduceIte,p5,p6,p7,p8, c1]
    have h := run_some h
    obtain rfl : _ = r := h
    refine FinH.l ?_
    try simp only [↓RA, RB, RJ, RS, fx4,p1,p2,p3,p4,reduceIte,p5,p6,p7,p8, c1]
  · replace h := run_f c1 h
    try simp only [↓RA, RB, RJ, RS, fx4,p1,p2,p3,p4,reduceIte,p5,p6,p7,p8, c1]
    obtain ⟨v24, hv24, h⟩ := run_bind h
    refine CallH.mk [false, false] (szTermS_sat hv24) ?_ ?_ <;> try simp only [↓RA, RB, RJ, RS, fx4,p1,p2,p3,p4,reduceIte,p5,p6,p7,p8, c1]
    refine CondH.mk (fun c2 => ?_) (fun c2 => ?_)
    · replace h := run_t c2 h
      try simp only [↓RA, RB, RJ, RS, fx4,p1,p2,p3,p4,reduceIte,p5,p6,p7,p8, c1, c2]
      have h := run_some h
      obtain rfl : _ = r := h
      refine FinH.l ?_
      try simp only [↓RA, RB, RJ, RS, fx4,p1,p2,p3,p4,reduceIte,p5,p6,p7,p8, c1, c2]
    · replace h := run_f c2 h
      try simp only [↓RA, RB, RJ, RS, fx4,p1,p2,p3,p4,reduceIte,p5,p6,p7,p8, c1, c2]
      obtain ⟨v29, hv29, h⟩ := run_bind h
      refine CallH.mk [false] (toMajorantS_sat hv29) ?_ ?_ <;> try simp only [↓RA, RB, RJ, RS, fx4,p1,p2,p3,p4,reduceIte,p5,p6,p7,p8, c1, c2]
      repeat (first | with_reducible refine noR_and (by repeat (first | exact noR_empty _ _ | exact noR_nilS _ _ | refine noR_mk _ _ _ _ _ rfl ?_ | refine noR_mkS _ _ _ _ _ rfl ?_)) ?_ | with_reducible refine noC_and (by repeat (first | exact noC_empty _ _ (by try simp only [↓RA, RB, RJ, RS, fx4,p1,p2,p3,p4,reduceIte,p5,p6,p7,p8]) | exact noC_nilS _ _ (by try simp only [↓RA, RB, RJ, RS, fx4,p1,p2,p3,p4,reduceIte,p5,p6,p7,p8]) | refine noC_mk _ _ _ _ _ rfl ?_ | refine noC_mkS _ _ _ _ _ rfl ?_)) ?_ | with_reducible refine and_ac ?_ | with_reducible refine And.intro (a := _ = List.range _) (by rfl) ?_)
      obtain ⟨v31, hv31, h⟩ := run_bind h
      refine CallH.mk [false] (toTermS_sat hv31) ?_ ?_ <;> try simp only [↓RA, RB, RJ, RS, fx4,p1,p2,p3,p4,reduceIte,p5,p6,p7,p8, c1, c2]
      repeat (first | with_reducible refine noR_and (by repeat (first | exact noR_empty _ _ | exact noR_nilS _ _ | refine noR_mk _ _ _ _ _ rfl ?_ | refine noR_mkS _ _ _ _ _ rfl ?_)) ?_ | with_reducible refine noC_and (by repeat (first | exact noC_empty _ _ (by try simp only [↓RA, RB, RJ, RS, fx4,p1,p2,p3,p4,reduceIte,p5,p6,p7,p8]) | exact noC_nilS _ _ (by try simp only [↓RA, RB, RJ, RS, fx4,p1,p2,p3,p4,reduceIte,p5,p6,p7,p8]) | refine noC_mk _ _ _ _ _ rfl ?_ | refine noC_mkS _ _ _ _ _ rfl ?_)) ?_ | with_reducible refine and_ac ?_ | with_reducible refine And.intro (a := _ = List.range _) (by rfl) ?_)
      obtain ⟨v32, hv32, h⟩ := run_bind h
      refine CallH.mk [true, true] (Sat.give (args := [(.sl true 3 (v29.map (Majorant.pv true))), (.sl true 2 (v31.map (Term.pv true)))]) [true, true] (by have gg := spec_BoundOfTerms_sat hv32; simp only [gv_t, gv_f, gv_n, view_sl, view_agg, view_lit, PV.views, RB, RS] at gg ⊢; exact gg)) (by try simp only [↓RA, RB, RJ, RS, fx4,p1,p2,p3,p4,reduceIte,p5,p6,p7,p8, c1, c2]) ?_
      try simp only [↓RA, RB, RJ, RS, fx4,p1,p2,p3,p4,reduceIte,p5,p6,p7,p8, c1, c2]
      repeat (first | with_reducible refine noR_and (by repeat (first | exact noR_empty _ _ | exact noR_nilS _ _ | refine noR_mk _ _ _ _ _ rfl ?_ | refine noR_mkS _ _ _ _ _ rfl ?_)) ?_ | with_reducible refine noC_and (by repeat (first | exact noC_empty _ _ (by try simp only [↓RA, RB, RJ, RS, fx4,p1,p2,p3,p4,reduceIte,p5,p6,p7,p8]) | exact noC_nilS _ _ (by try simp only [↓RA, RB, RJ, RS, fx4,p1,p2,p3,p4,reduceIte,p5,p6,p7,p8]) | refine noC_mk _ _ _ _ _ rfl ?_ | refine noC_mkS _ _ _ _ _ rfl ?_)) ?_ | with_reducible refine and_ac ?_ | with_reducible refine And.intro (a := _ = List.range _) (by rfl) ?_)
      obtain ⟨v36, hv36, h⟩ := run_bind h
      refine CallH.mk [false] (toMajorantS_sat hv36) ?_ ?_ <;> try simp only [↓RA, RB, RJ, RS, fx4,p1,p2,p3,p4,reduceIte,p5,p6,p7,p8, c1, c2]
      repeat (first | with_reducible refine noR_and (by repeat (first | exact noR_empty _ _ | exact noR_nilS _ _ | refine noR_mk _ _ _ _ _ rfl ?_ | refine noR_mkS _ _ _ _ _ rfl ?_)) ?_ | with_reducible refine noC_and (by repeat (first | exact noC_empty _ _ (by try simp only [↓RA, RB, RJ, RS, fx4,p1,p2,p3,p4,reduceIte,p5,p6,p7,p8]) | exact noC_nilS _ _ (by try simp only [↓RA, RB, RJ, RS, fx4,p1,p2,p3,p4,reduceIte,p5,p6,p7,p8]) | refine noC_mk _ _ _ _ _ rfl ?_ | refine noC_mkS _ _ _ _ _ rfl ?_)) ?_ | with_reducible refine and_ac ?_ | with_reducible refine And.intro (a := _ = List.range _) (by rfl) ?_)
      obtain ⟨v38, hv38, h⟩ := run_bind h
      refine CallH.mk [false] (toTermS_sat hv38) ?_ ?_ <;> try simp only [↓RA, RB, RJ, RS, fx4,p1,p2,p3,p4,reduceIte,p5,p6,p7,p8, c1, c2]
      repeat (first | with_reducible refine noR_and (by repeat (first | exact noR_empty _ _ | exact noR_nilS _ _ | refine noR_mk _ _ _ _ _ rfl ?_ | refine noR_mkS _ _ _ _ _ rfl ?_)) ?_ | with_reducible refine noC_and (by repeat (first | exact noC_empty _ _ (by try simp only [↓RA, RB, RJ, RS, fx4,p1,p2,p3,p4,reduceIte,p5,p6,p7,p8]) | exact noC_nilS _ _ (by try simp only [↓RA, RB, RJ, RS, fx4,p1,p2,p3,p4,reduceIte,p5,p6,p7,p8]) | refine noC_mk _ _ _ _ _ rfl ?_ | refine noC_mkS _ _ _ _ _ rfl ?_)) ?_ | with_reducible refine and_ac ?_ | with_reducible refine And.intro (a := _ = List.range _) (by rfl) ?_)
      obtain ⟨v42, hv42, h⟩ := run_bind h
      refine CallH.mk [false, false] (impl_BoundOfTerms_sat hv42) ?_ ?_ <;> try simp only [↓RA, RB, RJ, RS, fx4,p1,p2,p3,p4,reduceIte,p5,p6,p7,p8, c1, c2]
      repeat (first | with_reducible refine noR_and (by repeat (first | exact noR_empty _ _ | exact noR_nilS _ _ | refine noR_mk _ _ _ _ _ rfl ?_ | refine noR_mkS _ _ _ _ _ rfl ?_)) ?_ | with_reducible refine noC_and (by repeat (first | exact noC_empty _ _ (by try simp only [↓RA, RB, RJ, RS, fx4,p1,p2,p3,p4,reduceIte,p5,p6,p7,p8]) | exact noC_nilS _ _ (by try simp only [↓RA, RB, RJ, RS, fx4,p1,p2,p3,p4,reduceIte,p5,p6,p7,p8]) | refine noC_mk _ _ _ _ _ rfl ?_ | refine noC_mkS _ _ _ _ _ rfl ?_)) ?_ | with_reducible refine and_ac ?_ | with_reducible refine And.intro (a := _ = List.range _) (by rfl) ?_)
      obtain ⟨v47, hv47, h⟩ := run_bind h
      refine CallH.mk [false, false] (eqLinear_sat hv47) ?_ ?_ <;> try simp only [↓RA, RB, RJ, RS, fx4,p1,p2,p3,p4,reduceIte,p5,p6,p7,p8, c1, c2]
      refine CondH.mk (fun c3 => ?_) (fun c3 => ?_)
      · replace h := run_t c3 h
        try simp only [↓RA, RB, RJ, RS, fx4,p1,p2,p3,p4,reduceIte,p5,p6,p7,p8, c1, c2, c3]
        refine CondH.mk (fun c4 => ?_) (fun c4 => ?_)
        · replace h := run_t c4 h
          try simp only [↓RA, RB, RJ, RS, fx4,p1,p2,p3,p4,reduceIte,p5,p6,p7,p8, c1, c2, c3, c4]
          obtain ⟨v56, hv56, h⟩ := run_bind h
          refine CallH.mk [false] (toMajorantS_sat hv56) ?_ ?_ <;> try simp only [↓RA, RB, RJ, RS, fx4,p1,p2,p3,p4,reduceIte,p5,p6,p7,p8, c1, c2, c3, c4]
          repeat (first | with_reducible refine noR_and (by repeat (first | exact noR_empty _ _ | exact noR_nilS _ _ | refine noR_mk _ _ _ _ _ rfl ?_ | refine noR_mkS _ _ _ _ _ rfl ?_)) ?_ | with_reducible refine noC_and (by repeat (first | exact noC_empty _ _ (by try simp only [↓RA, RB, RJ, RS, fx4,p1,p2,p3,p4,reduceIte,p5,p6,p7,p8]) | exact noC_nilS _ _ (by try simp only [↓RA, RB, RJ, RS, fx4,p1,p2,p3,p4,reduceIte,p5,p6,p7,p8]) | refine noC_mk _ _ _ _ _ rfl ?_ | refine noC_mkS _ _ _ _ _ rfl ?_)) ?_ | with_reducible refine and_ac ?_ | with_reducible refine And.intro (a := _ = List.range _) (by rfl) ?_)
          obtain ⟨v57, hv57, h⟩ := run_bind h
          refine CallH.mk [false, false] (eqMajorantS_sat hv57) ?_ ?_ <;> try simp only [↓RA, RB, RJ, RS, fx4,p1,p2,p3,p4,reduceIte,p5,p6,p7,p8, c1, c2, c3, c4]
          refine CondH.mk (fun c5 => ?_) (fun c5 => ?_)
          · replace h := run_t c5 h
            try simp only [↓RA, RB, RJ, RS, fx4,p1,p2,p3,p4,reduceIte,p5,p6,p7,p8, c1, c2, c3, c4, c5]
            obtain ⟨v61, hv61, h⟩ := run_bind h
            refine CallH.mk [false] (toTermS_sat hv61) ?_ ?_ <;> try simp only [↓RA, RB, RJ, RS, fx4,p1,p2,p3,p4,reduceIte,p5,p6,p7,p8, c1, c2, c3, c4, c5]
            repeat (first | with_reducible refine noR_and (by repeat (first | exact noR_empty _ _ | exact noR_nilS _ _ | refine noR_mk _ _ _ _ _ rfl ?_ | refine noR_mkS _ _ _ _ _ rfl ?_)) ?_ | with_reducible refine noC_and (by repeat (first | exact noC_empty _ _ (by try simp only [↓RA, RB, RJ, RS, fx4,p1,p2,p3,p4,reduceIte,p5,p6,p7,p8]) | exact noC_nilS _ _ (by try simp only [↓RA, RB, RJ, RS, fx4,p1,p2,p3,p4,reduceIte,p5,p6,p7,p8]) | refine noC_mk _ _ _ _ _ rfl ?_ | refine noC_mkS _ _ _ _ _ rfl ?_)) ?_ | with_reducible refine and_ac ?_ | with_reducible refine And.intro (a := _ = List.range _) (by rfl) ?_)
            obtain ⟨v62, hv62, h⟩ := run_bind h
            refine CallH.mk [false, false] (eqTermS_sat hv62) ?_ ?_ <;> try simp only [↓RA, RB, RJ, RS, fx4,p1,p2,p3,p4,reduceIte,p5,p6,p7,p8, c1, c2, c3, c4, c5]
            refine CondH.mk (fun c6 => ?_) (fun c6 => ?_)
            · replace h := run_t c6 h
              try simp only [↓RA, RB, RJ, RS, fx4,p1,p2,p3,p4,reduceIte,p5,p6,p7,p8, c1, c2, c3, c4, c5, c6]
              obtain ⟨v66, hv66, h⟩ := run_bind h
              refine CallH.io [(.own 576), (.pv (I (1 : Int)))] [(576, (3, v66.2.map (Majorant.pv true)))] (markMajorantS_sat hv66) ?_ ?_ <;> try simp only [↓RA, RB, RJ, RS, fx4,p1,p2,p3,p4,reduceIte,p5,p6,p7,p8, c1, c2, c3, c4, c5, c6]
              obtain ⟨v69, hv69, h⟩ := run_bind h
              refine CallH.io [(.own 608), (.pv (I v66.1))] [(608, (2, v69.2.map (Term.pv true)))] (markTermS_sat hv69) ?_ ?_ <;> try simp only [↓RA, RB, RJ, RS, fx4,p1,p2,p3,p4,reduceIte,p5,p6,p7,p8, c1, c2, c3, c4, c5, c6]
              refine CondH.mk (fun c7 => ?_) (fun c7 => ?_)
              · replace h := run_t c7 h
                try simp only [↓RA, RB, RJ, RS, fx4,p1,p2,p3,p4,reduceIte,p5,p6,p7,p8, c1, c2, c3, c4, c5, c6, c7]
                have h := run_some h
                obtain rfl : _ = r := h
                refine FinH.l ?_
                try simp only [↓RA, RB, RJ, RS, fx4,p1,p2,p3,p4,reduceIte,p5,p6,p7,p8, c1, c2, c3, c4, c5, c6, c7]
              · replace h := run_f c7 h
                try simp only [↓RA, RB, RJ, RS, fx4,p1,p2,p3,p4,reduceIte,p5,p6,p7,p8, c1, c2, c3, c4, c5, c6, c7]
                obtain ⟨v75, hv75, h⟩ := run_bind h
                refine CallH.mk [false, false] (eqLinear_sat hv75) ?_ ?_ <;> try simp only [↓RA, RB, RJ, RS, fx4,p1,p2,p3,p4,reduceIte,p5,p6,p7,p8, c1, c2, c3, c4, c5, c6, c7]
                refine CondH.mk (fun c8 => ?_) (fun c8 => ?_)
                · replace h := run_t c8 h
                  try simp only [↓RA, RB, RJ, RS, fx4,p1,p2,p3,p4,reduceIte,p5,p6,p7,p8, c1, c2, c3, c4, c5, c6, c7, c8]
                  obtain ⟨v85, hv85, h⟩ := run_bind h
                  refine CallH.io [(.node [(.own 672), (.own 673), (.pv (I v42.1.Constant))]), (.pv (I (1 : Int)))] [(672, (1, v85.2.1.map Sx)), (673, (1, v85.2.2.map I))] (markLinear_sat hv85) ?_ ?_ <;> try simp only [↓RA, RB, RJ, RS, fx4,p1,p2,p3,p4,reduceIte,p5,p6,p7,p8, c1, c2, c3, c4, c5, c6, c7, c8]
                  obtain ⟨v88, hv88, h⟩ := run_bind h
                  refine CallH.mk [false, false] (heldLinear_sat hv88) ?_ ?_ <;> try simp only [↓RA, RB, RJ, RS, fx4,p1,p2,p3,p4,reduceIte,p5,p6,p7,p8, c1, c2, c3, c4, c5, c6, c7, c8]
                  refine CondH.mk (fun c9 => ?_) (fun c9 => ?_)
                  · replace h := run_t c9 h
                    try simp only [↓RA, RB, RJ, RS, fx4,p1,p2,p3,p4,reduceIte,p5,p6,p7,p8, c1, c2, c3, c4, c5, c6, c7, c8, c9]
                    have h := run_some h
                    obtain rfl : _ = r := h
                    refine FinH.l ?_
                    try simp only [↓RA, RB, RJ, RS, fx4,p1,p2,p3,p4,reduceIte,p5,p6,p7,p8, c1, c2, c3, c4, c5, c6, c7, c8, c9]
                  · replace h := run_f c9 h
                    try simp only [↓RA, RB, RJ, RS, fx4,p1,p2,p3,p4,reduceIte,p5,p6,p7,p8, c1, c2, c3, c4, c5, c6, c7, c8, c9]
                    refine CondH.mk (fun c10 => ?_) (fun c10 => ?_)
                    · replace h := run_t c10 h
                      try simp only [↓RA, RB, RJ, RS, fx4,p1,p2,p3,p4,reduceIte,p5,p6,p7,p8, c1, c2, c3, c4, c5, c6, c7, c8, c9, c10]
                      obtain ⟨v96, hv96, h⟩ := run_bind h
                      refine CallH.mk [false] (toMajorantS_sat hv96) ?_ ?_ <;> try simp only [↓RA, RB, RJ, RS, fx4,p1,p2,p3,p4,reduceIte,p5,p6,p7,p8, c1, c2, c3, c4, c5, c6, c7, c8, c9, c10]
                      repeat (first | with_reducible refine noR_and (by repeat (first | exact noR_empty _ _ | exact noR_nilS _ _ | refine noR_mk _ _ _ _ _ rfl ?_ | refine noR_mkS _ _ _ _ _ rfl ?_)) ?_ | with_reducible refine noC_and (by repeat (first | exact noC_empty _ _ (by try simp only [↓RA, RB, RJ, RS, fx4,p1,p2,p3,p4,reduceIte,p5,p6,p7,p8]) | exact noC_nilS _ _ (by try simp only [↓RA, RB, RJ, RS, fx4,p1,p2,p3,p4,reduceIte,p5,p6,p7,p8]) | refine noC_mk _ _ _ _ _ rfl ?_ | refine noC_mkS _ _ _ _ _ rfl ?_)) ?_ | with_reducible refine and_ac ?_ | with_reducible refine And.intro (a := _ = List.range _) (by rfl) ?_)
                      obtain ⟨v98, hv98, h⟩ := run_bind h
                      refine CallH.mk [false] (toTermS_sat hv98) ?_ ?_ <;> try simp only [↓RA, RB, RJ, RS, fx4,p1,p2,p3,p4,reduceIte,p5,p6,p7,p8, c1, c2, c3, c4, c5, c6, c7, c8, c9, c10]
                      repeat (first | with_reducible refine noR_and (by repeat (first | exact noR_empty _ _ | exact noR_nilS _ _ | refine noR_mk _ _ _ _ _ rfl ?_ | refine noR_mkS _ _ _ _ _ rfl ?_)) ?_ | with_reducible refine noC_and (by repeat (first | exact noC_empty _ _ (by try simp only [↓RA, RB, RJ, RS, fx4,p1,p2,p3,p4,reduceIte,p5,p6,p7,p8]) | exact noC_nilS _ _ (by try simp only [↓RA, RB, RJ, RS, fx4,p1,p2,p3,p4,reduceIte,p5,p6,p7,p8]) | refine noC_mk _ _ _ _ _ rfl ?_ | refine noC_mkS _ _ _ _ _ rfl ?_)) ?_ | with_reducible refine and_ac ?_ | with_reducible refine And.intro (a := _ = List.range _) (by rfl) ?_)
                      obtain ⟨v99, hv99, h⟩ := run_bind h
                      refine CallH.mk [false, false] (impl_BoundOfTerms_sat hv99) ?_ ?_ <;> try simp only [↓RA, RB, RJ, RS, fx4,p1,p2,p3,p4,reduceIte,p5,p6,p7,p8, c1, c2, c3, c4, c5, c6, c7, c8, c9, c10]
                      repeat (first | with_reducible refine noR_and (by repeat (first | exact noR_empty _ _ | exact noR_nilS _ _ | refine noR_mk _ _ _ _ _ rfl ?_ | refine noR_mkS _ _ _ _ _ rfl ?_)) ?_ | with_reducible refine noC_and (by repeat (first | exact noC_empty _ _ (by try simp only [↓RA, RB, RJ, RS, fx4,p1,p2,p3,p4,reduceIte,p5,p6,p7,p8]) | exact noC_nilS _ _ (by try simp only [↓RA, RB, RJ, RS, fx4,p1,p2,p3,p4,reduceIte,p5,p6,p7,p8]) | refine noC_mk _ _ _ _ _ rfl ?_ | refine noC_mkS _ _ _ _ _ rfl ?_)) ?_ | with_reducible refine and_ac ?_ | with_reducible refine And.intro (a := _ = List.range _) (by rfl) ?_)
                      obtain ⟨v104, hv104, h⟩ := run_bind h
                      refine CallH.mk [false, false] (eqLinear_sat hv104) ?_ ?_ <;> try simp only [↓RA, RB, RJ, RS, fx4,p1,p2,p3,p4,reduceIte,p5,p6,p7,p8, c1, c2, c3, c4, c5, c6, c7, c8, c9, c10]
                      refine CondH.mk (fun c11 => ?_) (fun c11 => ?_)
                      · replace h := run_t c11 h
                        try simp only [↓RA, RB, RJ, RS, fx4,p1,p2,p3,p4,reduceIte,p5,p6,p7,p8, c1, c2, c3, c4, c5, c6, c7, c8, c9, c10, c11]
                        refine CondH.mk (fun c12 => ?_) (fun c12 => ?_)
                        · replace h := run_t c12 h
                          try simp only [↓RA, RB, RJ, RS, fx4,p1,p2,p3,p4,reduceIte,p5,p6,p7,p8, c1, c2, c3, c4, c5, c6, c7, c8, c9, c10, c11, c12]
                          obtain ⟨v113, hv113, h⟩ := run_bind h
                          refine CallH.mk [false, false] (heldLinear_sat hv113) ?_ ?_ <;> try simp only [↓RA, RB, RJ, RS, fx4,p1,p2,p3,p4,reduceIte,p5,p6,p7,p8, c1, c2, c3, c4, c5, c6, c7, c8, c9, c10, c11, c12]
                          refine CondH.mk (fun c13 => ?_) (fun c13 => ?_)
                          · replace h := run_t c13 h
                            try simp only [↓RA, RB, RJ, RS, fx4,p1,p2,p3,p4,reduceIte,p5,p6,p7,p8, c1, c2, c3, c4, c5, c6, c7, c8, c9, c10, c11, c12, c13]
                            have h := run_some h
                            obtain rfl : _ = r := h
                            refine FinH.l ?_
                            try simp only [↓RA, RB, RJ, RS, fx4,p1,p2,p3,p4,reduceIte,p5,p6,p7,p8, c1, c2, c3, c4, c5, c6, c7, c8, c9, c10, c11, c12, c13]
                          · replace h := run_f c13 h
                            try simp only [↓RA, RB, RJ, RS, fx4,p1,p2,p3,p4,reduceIte,p5,p6,p7,p8, c1, c2, c3, c4, c5, c6, c7, c8, c9, c10, c11, c12, c13]
                            refine CondH.mk (fun c14 => ?_) (fun c14 => ?_)
                            · replace h := run_t c14 h
                              try simp only [↓RA, RB, RJ, RS, fx4,p1,p2,p3,p4,reduceIte,p5,p6,p7,p8, c1, c2, c3, c4, c5, c6, c7, c8, c9, c10, c11, c12, c13, c14]
                              have h := run_some h
                              obtain rfl : _ = r := h
                              refine FinH.l ?_
                              try simp only [↓RA, RB, RJ, RS, fx4,p1,p2,p3,p4,reduceIte,p5,p6,p7,p8, c1, c2, c3, c4, c5, c6, c7, c8, c9, c10, c11, c12, c13, c14]
                            · replace h := run_f c14 h
                              try simp only [↓RA, RB, RJ, RS, fx4,p1,p2,p3,p4,reduceIte,p5,p6,p7,p8, c1, c2, c3, c4, c5, c6, c7, c8, c9, c10, c11, c12, c13, c14]
                              have h := run_some h
                              obtain rfl : _ = r := h
                              refine FinH.l ?_
                              try simp only [↓RA, RB, RJ, RS, fx4,p1,p2,p3,p4,reduceIte,p5,p6,p7,p8, c1, c2, c3, c4, c5, c6, c7, c8, c9, c10, c11, c12, c13, c14]
                        · replace h := run_f c12 h
                          try simp only [↓RA, RB, RJ, RS, fx4,p1,p2,p3,p4,reduceIte,p5,p6,p7,p8, c1, c2, c3, c4, c5, c6, c7, c8, c9, c10, c11, c12]
                          have h := run_some h
                          obtain rfl : _ = r := h
                          refine FinH.l ?_
                          try simp only [↓RA, RB, RJ, RS, fx4,p1,p2,p3,p4,reduceIte,p5,p6,p7,p8, c1, c2, c3, c4, c5, c6, c7, c8, c9, c10, c11, c12]
                      · replace h := run_f c11 h
                        try simp only [↓RA, RB, RJ, RS, fx4,p1,p2,p3,p4,reduceIte,p5,p6,p7,p8, c1, c2, c3, c4, c5, c6, c7, c8, c9, c10, c11]
                        have h := run_some h
                        obtain rfl : _ = r := h
                        refine FinH.l ?_
                        try simp only [↓RA, RB, RJ, RS, fx4,p1,p2,p3,p4,reduceIte,p5,p6,p7,p8, c1, c2, c3, c4, c5, c6, c7, c8, c9, c10, c11]
                    · replace h := run_f c10 h
                      try simp only [↓RA, RB, RJ, RS, fx4,p1,p2,p3,p4,reduceIte,p5,p6,p7,p8, c1, c2, c3, c4, c5, c6, c7, c8, c9, c10]
                      have h := run_some h
                      obtain rfl : _ = r := h
                      refine FinH.l ?_
                      try simp only [↓RA, RB, RJ, RS, fx4,p1,p2,p3,p4,reduceIte,p5,p6,p7,p8, c1, c2, c3, c4, c5, c6, c7, c8, c9, c10]
                · replace h := run_f c8 h
                  try simp only [↓RA, RB, RJ, RS, fx4,p1,p2,p3,p4,reduceIte,p5,p6,p7,p8, c1, c2, c3, c4, c5, c6, c7, c8]
                  have h := run_some h
                  obtain rfl : _ = r := h
                  refine FinH.l ?_
                  try simp only [↓RA, RB, RJ, RS, fx4,p1,p2,p3,p4,reduceIte,p5,p6,p7,p8, c1, c2, c3, c4, c5, c6, c7, c8]
            · replace h := run_f c6 h
              try simp only [↓RA, RB, RJ, RS, fx4,p1,p2,p3,p4,reduceIte,p5,p6,p7,p8, c1, c2, c3, c4, c5, c6]
              have h := run_some h
              obtain rfl : _ = r := h
              refine FinH.l ?_
              try simp only [↓RA, RB, RJ, RS, fx4,p1,p2,p3,p4,reduceIte,p5,p6,p7,p8, c1, c2, c3, c4, c5, c6]
          · replace h := run_f c5 h
            try simp only [↓RA, RB, RJ, RS, fx4,p1,p2,p3,p4,reduceIte,p5,p6,p7,p8, c1, c2, c3, c4, c5]
            have h := run_some h
            obtain rfl : _ = r := h
            refine FinH.l ?_
            try simp only [↓RA, RB, RJ, RS, fx4,p1,p2,p3,p4,reduceIte,p5,p6,p7,p8, c1, c2, c3, c4, c5]
        · replace h := run_f c4 h
          try simp only [↓RA, RB, RJ, RS, fx4,p1,p2,p3,p4,reduceIte,p5,p6,p7,p8, c1, c2, c3, c4]
          have h := run_some h
          obtain rfl : _ = r := h
          refine FinH.l ?_
          try simp only [↓RA, RB, RJ, RS, fx4,p1,p2,p3,p4,reduceIte,p5,p6,p7,p8, c1, c2, c3, c4]
      · replace h := run_f c3 h
        try simp only [↓RA, RB, RJ, RS, fx4,p1,p2,p3,p4,reduceIte,p5,p6,p7,p8, c1, c2, c3]
        have h := run_some h
        obtain rfl : _ = r := h
        refine FinH.l ?_
        try simp only [↓RA, RB, RJ, RS, fx4,p1,p2,p3,p4,reduceIte,p5,p6,p7,p8, c1, c2, c3]

end Go.Proofs.YtgbddapcjhgllaaGreat
