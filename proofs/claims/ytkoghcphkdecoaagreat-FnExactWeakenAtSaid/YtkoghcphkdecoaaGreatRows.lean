/-
  NARROWER THAN 'FOR EVERY INPUT', by the rows' own cells (each row's printed sentence says how): FnExactCutSizes: loops · FnExactCutAncestors: loops · FnExactCharacteristicSequents: loops · FnExactWeakenDerivation: loops · FnExactWeakenAt: loops.
  DERIVED. THE GIVEN ROWS OF THIS SEAT. 5 by the template 'for every input the law returns true; each argument reads behind the call as it read before'; 0 by the template 'total and deterministic' (their statements: YtkoghcphkdecoaaGreatTotals.lean).
  GIVEN WITH THE SEED: the statements are not yours to turn. If you find one false, say at which input.
  Laid BY PROGRAM, IN A SANDBOX (cutbox-rows.mjs): the forced cells as the released guide's own fill.sh prints them over the translation 7d1aa48f742f1cf3… (all of the seat's roots in one cut). By AI agents, Wed Nov 11 2026. No macro, syntax, notation, axiom, sorry.
-/
import Derived.Test.YtkoghcphkdecoaaGreatChecked
import GoSem.Claim
import GoSem.ClaimJoined
import GoSem.ClaimMapViews
import Derived.JoinedTies
import Derived.KernelRfl
namespace Go.Proofs.YtkoghcphkdecoaaGreat
/- THE CELL 'sum', in the pinned program and in every row, IS THE sha256 OF THE DUMP (.gsa) THAT YtkoghcphkdecoaaGreatProg.lean LOADS. Nothing in Lean hashes anything: it is a label: what it is worth is what the hold of that sum in a sandbox is worth. -/
noncomputable def Tryz.pinned : Pinned := { name := "ytkoghcphkdecoaagreat", sum := "7d1aa48f742f1cf3995f8692418b744182bde46f6725d682c56f637d4cc2307d", checked := Tryz.checked }
namespace Rows
def none {H : Type} : Left H := { results := [], args := [] }

/-- 'laws.FnExactCutSizes': WHATEVER THE INPUT: true; the input reads as it did. -/
def fnExactCutSizesSpec : ChangeSpec := { name := "fnExactCutSizes", fn := fun _ => fun
  | [d] => { results := [.lit (.bool true)], args := [d] }
  | _ => none }
def fnExactCutSizesRow : OpenClaim := { program := "ytkoghcphkdecoaagreat", sum := "7d1aa48f742f1cf3995f8692418b744182bde46f6725d682c56f637d4cc2307d", func := "loop.example/g00892/laws.FnExactCutSizes", spec := "fnExactCutSizes", unfollowed := true, recurses := true, loops := true, apart := false }
def FnExactCutSizesSaid : Prop := fnExactCutSizesRow.holds Tryz.pinned (OpenSpec.ofChange fnExactCutSizesSpec)

/-- ITS FALSE NEIGHBOUR: 'it returns false'. Refute it at one input. -/
def fnExactCutSizesWrong : ChangeSpec := { name := "fnExactCutSizes", fn := fun _ => fun
  | [d] => { results := [.lit (.bool false)], args := [d] }
  | _ => none }
def FnExactCutSizesWrongFalsely : Prop := fnExactCutSizesRow.holds Tryz.pinned (OpenSpec.ofChange fnExactCutSizesWrong)

/-- 'laws.FnExactCutAncestors': WHATEVER THE INPUT: true; the input reads as it did. -/
def fnExactCutAncestorsSpec : ChangeSpec := { name := "fnExactCutAncestors", fn := fun _ => fun
  | [d1, d2] => { results := [.lit (.bool true)], args := [d1, d2] }
  | _ => none }
def fnExactCutAncestorsRow : OpenClaim := { program := "ytkoghcphkdecoaagreat", sum := "7d1aa48f742f1cf3995f8692418b744182bde46f6725d682c56f637d4cc2307d", func := "loop.example/g00892/laws.FnExactCutAncestors", spec := "fnExactCutAncestors", unfollowed := true, recurses := true, loops := true, apart := false }
def FnExactCutAncestorsSaid : Prop := fnExactCutAncestorsRow.holds Tryz.pinned (OpenSpec.ofChange fnExactCutAncestorsSpec)

/-- ITS FALSE NEIGHBOUR: 'it returns false'. Refute it at one input. -/
def fnExactCutAncestorsWrong : ChangeSpec := { name := "fnExactCutAncestors", fn := fun _ => fun
  | [d1, d2] => { results := [.lit (.bool false)], args := [d1, d2] }
  | _ => none }
def FnExactCutAncestorsWrongFalsely : Prop := fnExactCutAncestorsRow.holds Tryz.pinned (OpenSpec.ofChange fnExactCutAncestorsWrong)

/-- 'laws.FnExactCharacteristicSequents': WHATEVER THE INPUT: true; the input reads as it did. -/
def fnExactCharacteristicSequentsSpec : ChangeSpec := { name := "fnExactCharacteristicSequents", fn := fun _ => fun
  | [d] => { results := [.lit (.bool true)], args := [d] }
  | _ => none }
def fnExactCharacteristicSequentsRow : OpenClaim := { program := "ytkoghcphkdecoaagreat", sum := "7d1aa48f742f1cf3995f8692418b744182bde46f6725d682c56f637d4cc2307d", func := "loop.example/g00892/laws.FnExactCharacteristicSequents", spec := "fnExactCharacteristicSequents", unfollowed := true, recurses := true, loops := true, apart := false }
def FnExactCharacteristicSequentsSaid : Prop := fnExactCharacteristicSequentsRow.holds Tryz.pinned (OpenSpec.ofChange fnExactCharacteristicSequentsSpec)

/-- ITS FALSE NEIGHBOUR: 'it returns false'. Refute it at one input. -/
def fnExactCharacteristicSequentsWrong : ChangeSpec := { name := "fnExactCharacteristicSequents", fn := fun _ => fun
  | [d] => { results := [.lit (.bool false)], args := [d] }
  | _ => none }
def FnExactCharacteristicSequentsWrongFalsely : Prop := fnExactCharacteristicSequentsRow.holds Tryz.pinned (OpenSpec.ofChange fnExactCharacteristicSequentsWrong)

/-- 'laws.FnExactWeakenDerivation': WHATEVER THE INPUT: true; the input reads as it did. -/
def fnExactWeakenDerivationSpec : ChangeSpec := { name := "fnExactWeakenDerivation", fn := fun _ => fun
  | [d1, d2, d3] => { results := [.lit (.bool true)], args := [d1, d2, d3] }
  | _ => none }
def fnExactWeakenDerivationRow : OpenClaim := { program := "ytkoghcphkdecoaagreat", sum := "7d1aa48f742f1cf3995f8692418b744182bde46f6725d682c56f637d4cc2307d", func := "loop.example/g00892/laws.FnExactWeakenDerivation", spec := "fnExactWeakenDerivation", inPlace := ["slices.overlaps[loop.example/g00892/impl.Formula]"], unfollowed := true, recurses := true, loops := true, apart := false }
def FnExactWeakenDerivationSaid : Prop := fnExactWeakenDerivationRow.holds Tryz.pinned (OpenSpec.ofChange fnExactWeakenDerivationSpec)

/-- ITS FALSE NEIGHBOUR: 'it returns false'. Refute it at one input. -/
def fnExactWeakenDerivationWrong : ChangeSpec := { name := "fnExactWeakenDerivation", fn := fun _ => fun
  | [d1, d2, d3] => { results := [.lit (.bool false)], args := [d1, d2, d3] }
  | _ => none }
def FnExactWeakenDerivationWrongFalsely : Prop := fnExactWeakenDerivationRow.holds Tryz.pinned (OpenSpec.ofChange fnExactWeakenDerivationWrong)

/-- 'laws.FnExactWeakenAt': WHATEVER THE INPUT: true; the input reads as it did. -/
def fnExactWeakenAtSpec : ChangeSpec := { name := "fnExactWeakenAt", fn := fun _ => fun
  | [d1, d2, d3, d4] => { results := [.lit (.bool true)], args := [d1, d2, d3, d4] }
  | _ => none }
def fnExactWeakenAtRow : OpenClaim := { program := "ytkoghcphkdecoaagreat", sum := "7d1aa48f742f1cf3995f8692418b744182bde46f6725d682c56f637d4cc2307d", func := "loop.example/g00892/laws.FnExactWeakenAt", spec := "fnExactWeakenAt", inPlace := ["slices.overlaps[loop.example/g00892/impl.Formula]"], unfollowed := true, recurses := true, loops := true, apart := false }
def FnExactWeakenAtSaid : Prop := fnExactWeakenAtRow.holds Tryz.pinned (OpenSpec.ofChange fnExactWeakenAtSpec)

/-- ITS FALSE NEIGHBOUR: 'it returns false'. Refute it at one input. -/
def fnExactWeakenAtWrong : ChangeSpec := { name := "fnExactWeakenAt", fn := fun _ => fun
  | [d1, d2, d3, d4] => { results := [.lit (.bool false)], args := [d1, d2, d3, d4] }
  | _ => none }
def FnExactWeakenAtWrongFalsely : Prop := fnExactWeakenAtRow.holds Tryz.pinned (OpenSpec.ofChange fnExactWeakenAtWrong)

/- THE SECOND FORM. 'bulk': how many values and letters a reading holds, each counted each time it is reached (what is shared counts as often as it is met; a slice's spare places count too). A statement '..UptoSaid' is the law's where the arguments, and the package variables that the reading takes, are together of bulk at most 1048576: NARROWER than '..Said'. Prove '..Said' where nothing that the law and all that it calls make is longer than what came in: it says more and counts as full. Else prove '..UptoSaid'. A law counts once. -/
mutual
def uptoBulk {H : Type} : DataW H → Nat
  | .lit (.string bytes) => bytes.length + 1
  | .lit _ => 1
  | .nil => 1
  | .ptr d => uptoBulk d + 1
  | .slice elems spare => uptoBulkAll elems + uptoBulkAll spare + 1
  | .agg parts => uptoBulkAll parts + 1
  | .iface _ d => uptoBulk d + 1
  | .map entries => uptoBulkEntries entries + 1
  | .held _ => 1
def uptoBulkAll {H : Type} : List (DataW H) → Nat
  | [] => 0
  | d :: r => uptoBulk d + uptoBulkAll r
def uptoBulkEntries {H : Type} : List (Lit × DataW H) → Nat
  | [] => 0
  | x :: r => uptoBulkEntry x + uptoBulkEntries r
def uptoBulkEntry {H : Type} : Lit × DataW H → Nat
  | (.string bytes, d) => bytes.length + uptoBulk d + 1
  | (_, d) => uptoBulk d + 1
 end
def uptoSmall : (H : Type) → List (DataW H) → Bool := fun _ ds => decide (uptoBulkAll ds ≤ 1048576)
def OpenSpec.upto (s : _root_.Go.ChangeSpec) : _root_.Go.OpenSpec := { _root_.Go.OpenSpec.ofChange s with cond := some uptoSmall }

/-- 'laws.FnExactCutSizes', WHERE WHAT IT READS IS OF BULK AT MOST 1048576: true; the input reads as it did. -/
def fnExactCutSizesUptoRow : OpenClaim := { program := "ytkoghcphkdecoaagreat", sum := "7d1aa48f742f1cf3995f8692418b744182bde46f6725d682c56f637d4cc2307d", func := "loop.example/g00892/laws.FnExactCutSizes", spec := "fnExactCutSizes", unfollowed := true, recurses := true, loops := true, apart := false, narrowed := true }
def FnExactCutSizesUptoSaid : Prop := fnExactCutSizesUptoRow.holds Tryz.pinned (OpenSpec.upto fnExactCutSizesSpec)

/-- 'laws.FnExactCutAncestors', WHERE WHAT IT READS IS OF BULK AT MOST 1048576: true; the input reads as it did. -/
def fnExactCutAncestorsUptoRow : OpenClaim := { program := "ytkoghcphkdecoaagreat", sum := "7d1aa48f742f1cf3995f8692418b744182bde46f6725d682c56f637d4cc2307d", func := "loop.example/g00892/laws.FnExactCutAncestors", spec := "fnExactCutAncestors", unfollowed := true, recurses := true, loops := true, apart := false, narrowed := true }
def FnExactCutAncestorsUptoSaid : Prop := fnExactCutAncestorsUptoRow.holds Tryz.pinned (OpenSpec.upto fnExactCutAncestorsSpec)

/-- 'laws.FnExactCharacteristicSequents', WHERE WHAT IT READS IS OF BULK AT MOST 1048576: true; the input reads as it did. -/
def fnExactCharacteristicSequentsUptoRow : OpenClaim := { program := "ytkoghcphkdecoaagreat", sum := "7d1aa48f742f1cf3995f8692418b744182bde46f6725d682c56f637d4cc2307d", func := "loop.example/g00892/laws.FnExactCharacteristicSequents", spec := "fnExactCharacteristicSequents", unfollowed := true, recurses := true, loops := true, apart := false, narrowed := true }
def FnExactCharacteristicSequentsUptoSaid : Prop := fnExactCharacteristicSequentsUptoRow.holds Tryz.pinned (OpenSpec.upto fnExactCharacteristicSequentsSpec)

/-- 'laws.FnExactWeakenDerivation', WHERE WHAT IT READS IS OF BULK AT MOST 1048576: true; the input reads as it did. -/
def fnExactWeakenDerivationUptoRow : OpenClaim := { program := "ytkoghcphkdecoaagreat", sum := "7d1aa48f742f1cf3995f8692418b744182bde46f6725d682c56f637d4cc2307d", func := "loop.example/g00892/laws.FnExactWeakenDerivation", spec := "fnExactWeakenDerivation", inPlace := ["slices.overlaps[loop.example/g00892/impl.Formula]"], unfollowed := true, recurses := true, loops := true, apart := false, narrowed := true }
def FnExactWeakenDerivationUptoSaid : Prop := fnExactWeakenDerivationUptoRow.holds Tryz.pinned (OpenSpec.upto fnExactWeakenDerivationSpec)

/-- 'laws.FnExactWeakenAt', WHERE WHAT IT READS IS OF BULK AT MOST 1048576: true; the input reads as it did. -/
def fnExactWeakenAtUptoRow : OpenClaim := { program := "ytkoghcphkdecoaagreat", sum := "7d1aa48f742f1cf3995f8692418b744182bde46f6725d682c56f637d4cc2307d", func := "loop.example/g00892/laws.FnExactWeakenAt", spec := "fnExactWeakenAt", inPlace := ["slices.overlaps[loop.example/g00892/impl.Formula]"], unfollowed := true, recurses := true, loops := true, apart := false, narrowed := true }
def FnExactWeakenAtUptoSaid : Prop := fnExactWeakenAtUptoRow.holds Tryz.pinned (OpenSpec.upto fnExactWeakenAtSpec)

end Rows
end Go.Proofs.YtkoghcphkdecoaaGreat
