/-
  DERIVED. GIVEN WITH THE SEED: THE CARDS: each row of YtkokcfphepmeeaaGreatDoorRows.lean that lists a variable, with what it lists TIED to the program's text (the seventh form; the later family's looks); each row that meets fmt, with fmt's text TOLD by the authors' own Lean function (tested against real Go, not proved from fmt's source: count such statements apart). THE CARD IS WHAT COUNTS. Prove the row's statement (the work); the ties are given (YtkokcfphepmeeaaGreatDoorTie.lean); close each card by the builder's one call (the guide's Derived/Test/ToyasCard.lean, 'card_holds'). Laid BY PROGRAM, IN A SANDBOX (cutbox-door.mjs). By AI agents, Wed Nov 11 2026. No macro, syntax, notation, axiom, sorry.
-/
import Derived.Test.YtkokcfphepmeeaaGreatDoorRows
import GoSem.ClaimSeven
namespace Go.Proofs.YtkokcfphepmeeaaGreatDoor
namespace Rows

/-- THE TIED CARD OF 'laws.FnExactEvaluateOn'. -/
def fnExactEvaluateOnCard : Claim7 := { stood := { row := fnExactEvaluateOnRow, standIns := [], harness := (true, "17819c384e3c73cac4c81e32ce35e78200772ac640e6f61c9f6fbdf9ce329f90"), looks := false }, kinds := [], alts := [], laidByText := true, laidKinds := [.data, .data, .data], laidTests := true, laidLooks := .later }
def FnExactEvaluateOnCardSaid : Prop := Claim7.holds Tryz.pinned (.plain (OpenSpec.ofChange fnExactEvaluateOnSpec)) fnExactEvaluateOnCard

/-- THE TIED CARD OF 'laws.FnExactImpliesFormula'. -/
def fnExactImpliesFormulaCard : Claim7 := { stood := { row := fnExactImpliesFormulaRow, standIns := [], harness := (true, "17819c384e3c73cac4c81e32ce35e78200772ac640e6f61c9f6fbdf9ce329f90"), looks := false }, kinds := [], alts := [], laidByText := true, laidKinds := [.data, .data, .data], laidTests := true, laidLooks := .later }
def FnExactImpliesFormulaCardSaid : Prop := Claim7.holds Tryz.pinned (.plain (OpenSpec.ofChange fnExactImpliesFormulaSpec)) fnExactImpliesFormulaCard

/-- THE TIED CARD OF 'laws.FnExactIsInterpolant'. -/
def fnExactIsInterpolantCard : Claim7 := { stood := { row := fnExactIsInterpolantRow, standIns := [], harness := (true, "17819c384e3c73cac4c81e32ce35e78200772ac640e6f61c9f6fbdf9ce329f90"), looks := false }, kinds := [], alts := [], laidByText := true, laidKinds := [.data, .data, .data], laidTests := true, laidLooks := .later }
def FnExactIsInterpolantCardSaid : Prop := Claim7.holds Tryz.pinned (.plain (OpenSpec.ofChange fnExactIsInterpolantSpec)) fnExactIsInterpolantCard

/-- THE SECOND FORM's CARD OF 'laws.FnExactEvaluateOn'. -/
def fnExactEvaluateOnUptoCard : Claim7 := { stood := { row := fnExactEvaluateOnUptoRow, standIns := [], harness := (true, "17819c384e3c73cac4c81e32ce35e78200772ac640e6f61c9f6fbdf9ce329f90"), looks := false }, kinds := [], alts := [], laidByText := true, laidKinds := [.data, .data, .data], laidTests := true, laidLooks := .later }
def FnExactEvaluateOnUptoCardSaid : Prop := Claim7.holds Tryz.pinned (.plain (OpenSpec.upto fnExactEvaluateOnSpec)) fnExactEvaluateOnUptoCard

/-- THE SECOND FORM's CARD OF 'laws.FnExactImpliesFormula'. -/
def fnExactImpliesFormulaUptoCard : Claim7 := { stood := { row := fnExactImpliesFormulaUptoRow, standIns := [], harness := (true, "17819c384e3c73cac4c81e32ce35e78200772ac640e6f61c9f6fbdf9ce329f90"), looks := false }, kinds := [], alts := [], laidByText := true, laidKinds := [.data, .data, .data], laidTests := true, laidLooks := .later }
def FnExactImpliesFormulaUptoCardSaid : Prop := Claim7.holds Tryz.pinned (.plain (OpenSpec.upto fnExactImpliesFormulaSpec)) fnExactImpliesFormulaUptoCard

/-- THE SECOND FORM's CARD OF 'laws.FnExactIsInterpolant'. -/
def fnExactIsInterpolantUptoCard : Claim7 := { stood := { row := fnExactIsInterpolantUptoRow, standIns := [], harness := (true, "17819c384e3c73cac4c81e32ce35e78200772ac640e6f61c9f6fbdf9ce329f90"), looks := false }, kinds := [], alts := [], laidByText := true, laidKinds := [.data, .data, .data], laidTests := true, laidLooks := .later }
def FnExactIsInterpolantUptoCardSaid : Prop := Claim7.holds Tryz.pinned (.plain (OpenSpec.upto fnExactIsInterpolantSpec)) fnExactIsInterpolantUptoCard
end Rows
end Go.Proofs.YtkokcfphepmeeaaGreatDoor
