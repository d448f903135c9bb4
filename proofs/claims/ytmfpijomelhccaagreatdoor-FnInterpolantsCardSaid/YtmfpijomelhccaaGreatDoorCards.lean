/-
  DERIVED. GIVEN WITH THE SEED: THE CARDS: each row of YtmfpijomelhccaaGreatDoorRows.lean that lists a variable, with what it lists TIED to the program's text (the seventh form; the later family's looks); each row that meets fmt, with fmt's text TOLD by the authors' own Lean function (tested against real Go, not proved from fmt's source: count such statements apart). THE CARD IS WHAT COUNTS. Prove the row's statement (the work); the ties are given (YtmfpijomelhccaaGreatDoorTie.lean); close each card by the builder's one call (the guide's Derived/Test/ToyasCard.lean, 'card_holds'). Laid BY PROGRAM, IN A SANDBOX (cutbox-door.mjs). By AI agents, Wed Nov 11 2026. No macro, syntax, notation, axiom, sorry.
-/
import Derived.Test.YtmfpijomelhccaaGreatDoorRows
import GoSem.ClaimSeven
namespace Go.Proofs.YtmfpijomelhccaaGreatDoor
namespace Rows

/-- THE TIED CARD OF 'laws.FnExactStepInterpolants'. -/
def fnExactStepInterpolantsCard : Claim7 := { stood := { row := fnExactStepInterpolantsRow, standIns := [], harness := (true, "0b3e27860ad36685310f5435f00df83606b50aff0e7dba3315c480f3f4bfe6b1"), looks := false }, kinds := [], alts := [], laidByText := true, laidKinds := [.data, .data, .data], laidTests := true, laidLooks := .later }
def FnExactStepInterpolantsCardSaid : Prop := Claim7.holds Tryz.pinned (.plain (OpenSpec.ofChange fnExactStepInterpolantsSpec)) fnExactStepInterpolantsCard

/-- THE TIED CARD OF 'laws.FnExactInterpolant'. -/
def fnExactInterpolantCard : Claim7 := { stood := { row := fnExactInterpolantRow, standIns := [], harness := (true, "0b3e27860ad36685310f5435f00df83606b50aff0e7dba3315c480f3f4bfe6b1"), looks := false }, kinds := [], alts := [], laidByText := true, laidKinds := [.data, .data, .data], laidTests := true, laidLooks := .later }
def FnExactInterpolantCardSaid : Prop := Claim7.holds Tryz.pinned (.plain (OpenSpec.ofChange fnExactInterpolantSpec)) fnExactInterpolantCard

/-- THE TIED CARD OF 'laws.FnInterpolants'. -/
def fnInterpolantsCard : Claim7 := { stood := { row := fnInterpolantsRow, standIns := [], harness := (true, "0b3e27860ad36685310f5435f00df83606b50aff0e7dba3315c480f3f4bfe6b1"), looks := false }, kinds := [], alts := [], laidByText := true, laidKinds := [.data, .data, .data], laidTests := true, laidLooks := .later }
def FnInterpolantsCardSaid : Prop := Claim7.holds Tryz.pinned (.plain (OpenSpec.ofChange fnInterpolantsSpec)) fnInterpolantsCard

/-- THE SECOND FORM's CARD OF 'laws.FnExactStepInterpolants'. -/
def fnExactStepInterpolantsUptoCard : Claim7 := { stood := { row := fnExactStepInterpolantsUptoRow, standIns := [], harness := (true, "0b3e27860ad36685310f5435f00df83606b50aff0e7dba3315c480f3f4bfe6b1"), looks := false }, kinds := [], alts := [], laidByText := true, laidKinds := [.data, .data, .data], laidTests := true, laidLooks := .later }
def FnExactStepInterpolantsUptoCardSaid : Prop := Claim7.holds Tryz.pinned (.plain (OpenSpec.upto fnExactStepInterpolantsSpec)) fnExactStepInterpolantsUptoCard

/-- THE SECOND FORM's CARD OF 'laws.FnExactInterpolant'. -/
def fnExactInterpolantUptoCard : Claim7 := { stood := { row := fnExactInterpolantUptoRow, standIns := [], harness := (true, "0b3e27860ad36685310f5435f00df83606b50aff0e7dba3315c480f3f4bfe6b1"), looks := false }, kinds := [], alts := [], laidByText := true, laidKinds := [.data, .data, .data], laidTests := true, laidLooks := .later }
def FnExactInterpolantUptoCardSaid : Prop := Claim7.holds Tryz.pinned (.plain (OpenSpec.upto fnExactInterpolantSpec)) fnExactInterpolantUptoCard

/-- THE SECOND FORM's CARD OF 'laws.FnInterpolants'. -/
def fnInterpolantsUptoCard : Claim7 := { stood := { row := fnInterpolantsUptoRow, standIns := [], harness := (true, "0b3e27860ad36685310f5435f00df83606b50aff0e7dba3315c480f3f4bfe6b1"), looks := false }, kinds := [], alts := [], laidByText := true, laidKinds := [.data, .data, .data], laidTests := true, laidLooks := .later }
def FnInterpolantsUptoCardSaid : Prop := Claim7.holds Tryz.pinned (.plain (OpenSpec.upto fnInterpolantsSpec)) fnInterpolantsUptoCard
end Rows
end Go.Proofs.YtmfpijomelhccaaGreatDoor
