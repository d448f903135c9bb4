/-
  NARROWER THAN 'FOR EVERY INPUT', by the rows' own cells (each row's printed sentence says how): FnExactIsValidDecomposition: loops · FnExactGeneralizeTerms: loops · FnExactCappedValue: loops · FnExactAreContradictory: loops.
  DERIVED. THE GIVEN ROWS OF THIS SEAT. 12 by the template 'for every input the law returns true; each argument reads behind the call as it read before'; 0 by the template 'total and deterministic' (their statements: YtdmkceajaagpgaaTotals.lean).
  GIVEN WITH THE SEED: the statements are not yours to turn. If you find one false, say at which input.
  Laid BY PROGRAM, IN A SANDBOX (cutbox-rows.mjs): the forced cells as the released guide's own fill.sh prints them over the translation f6b267ab6ef834c2… (all of the seat's roots in one cut). By AI agents, Wed Nov 11 2026. No macro, syntax, notation, axiom, sorry.
-/
import Derived.Test.YtdmkceajaagpgaaChecked
import GoSem.Claim
import GoSem.ClaimJoined
import GoSem.ClaimMapViews
import Derived.JoinedTies
import Derived.KernelRfl
namespace Go.Proofs.Ytdmkceajaagpgaa
/- THE CELL 'sum', in the pinned program and in every row, IS THE sha256 OF THE DUMP (.gsa) THAT YtdmkceajaagpgaaProg.lean LOADS. Nothing in Lean hashes anything: it is a label: what it is worth is what the hold of that sum in a sandbox is worth. -/
noncomputable def Try.pinned : Pinned := { name := "ytdmkceajaagpgaa", sum := "f6b267ab6ef834c2fb17aa812c4ba610d0325dc3b052b24ba6c65a0eb4056db2", checked := Try.checked }
namespace Rows
def none {H : Type} : Left H := { results := [], args := [] }

/-- 'laws.FnExactIsValidDecomposition': WHATEVER THE INPUT: true; the input reads as it did. -/
def fnExactIsValidDecompositionSpec : ChangeSpec := { name := "fnExactIsValidDecomposition", fn := fun _ => fun
  | [d] => { results := [.lit (.bool true)], args := [d] }
  | _ => none }
def fnExactIsValidDecompositionRow : OpenClaim := { program := "ytdmkceajaagpgaa", sum := "f6b267ab6ef834c2fb17aa812c4ba610d0325dc3b052b24ba6c65a0eb4056db2", func := "loop.example/g00892/laws.FnExactIsValidDecomposition", spec := "fnExactIsValidDecomposition", unfollowed := true, recurses := true, loops := true, apart := false }
def FnExactIsValidDecompositionSaid : Prop := fnExactIsValidDecompositionRow.holds Try.pinned (OpenSpec.ofChange fnExactIsValidDecompositionSpec)

/-- ITS FALSE NEIGHBOUR: 'it returns false'. Refute it at one input. -/
def fnExactIsValidDecompositionWrong : ChangeSpec := { name := "fnExactIsValidDecomposition", fn := fun _ => fun
  | [d] => { results := [.lit (.bool false)], args := [d] }
  | _ => none }
def FnExactIsValidDecompositionWrongFalsely : Prop := fnExactIsValidDecompositionRow.holds Try.pinned (OpenSpec.ofChange fnExactIsValidDecompositionWrong)

/-- 'laws.FnExactGeneralizeTerms': WHATEVER THE INPUT: true; the input reads as it did. -/
def fnExactGeneralizeTermsSpec : ChangeSpec := { name := "fnExactGeneralizeTerms", fn := fun _ => fun
  | [d] => { results := [.lit (.bool true)], args := [d] }
  | _ => none }
def fnExactGeneralizeTermsRow : OpenClaim := { program := "ytdmkceajaagpgaa", sum := "f6b267ab6ef834c2fb17aa812c4ba610d0325dc3b052b24ba6c65a0eb4056db2", func := "loop.example/g00892/laws.FnExactGeneralizeTerms", spec := "fnExactGeneralizeTerms", unfollowed := true, recurses := true, loops := true, apart := false }
def FnExactGeneralizeTermsSaid : Prop := fnExactGeneralizeTermsRow.holds Try.pinned (OpenSpec.ofChange fnExactGeneralizeTermsSpec)

/-- ITS FALSE NEIGHBOUR: 'it returns false'. Refute it at one input. -/
def fnExactGeneralizeTermsWrong : ChangeSpec := { name := "fnExactGeneralizeTerms", fn := fun _ => fun
  | [d] => { results := [.lit (.bool false)], args := [d] }
  | _ => none }
def FnExactGeneralizeTermsWrongFalsely : Prop := fnExactGeneralizeTermsRow.holds Try.pinned (OpenSpec.ofChange fnExactGeneralizeTermsWrong)

/-- 'laws.FnGraphs': WHATEVER THE INPUT: true; the input reads as it did. -/
def fnGraphsSpec : ChangeSpec := { name := "fnGraphs", fn := fun _ => fun
  | [d] => { results := [.lit (.bool true)], args := [d] }
  | _ => none }
def fnGraphsRow : OpenClaim := { program := "ytdmkceajaagpgaa", sum := "f6b267ab6ef834c2fb17aa812c4ba610d0325dc3b052b24ba6c65a0eb4056db2", func := "loop.example/g00892/laws.FnGraphs", spec := "fnGraphs", inPlace := ["slices.overlaps[loop.example/g00892/impl.SizeEdge]"], unfollowed := true, recurses := true, apart := false }
def FnGraphsSaid : Prop := fnGraphsRow.holds Try.pinned (OpenSpec.ofChange fnGraphsSpec)

/-- ITS FALSE NEIGHBOUR: 'it returns false'. Refute it at one input. -/
def fnGraphsWrong : ChangeSpec := { name := "fnGraphs", fn := fun _ => fun
  | [d] => { results := [.lit (.bool false)], args := [d] }
  | _ => none }
def FnGraphsWrongFalsely : Prop := fnGraphsRow.holds Try.pinned (OpenSpec.ofChange fnGraphsWrong)

/-- 'laws.FnExactCappedValue': WHATEVER THE INPUT: true; the input reads as it did. -/
def fnExactCappedValueSpec : ChangeSpec := { name := "fnExactCappedValue", fn := fun _ => fun
  | [d1, d2, d3, d4] => { results := [.lit (.bool true)], args := [d1, d2, d3, d4] }
  | _ => none }
def fnExactCappedValueRow : OpenClaim := { program := "ytdmkceajaagpgaa", sum := "f6b267ab6ef834c2fb17aa812c4ba610d0325dc3b052b24ba6c65a0eb4056db2", func := "loop.example/g00892/laws.FnExactCappedValue", spec := "fnExactCappedValue", unfollowed := true, recurses := true, loops := true, apart := false }
def FnExactCappedValueSaid : Prop := fnExactCappedValueRow.holds Try.pinned (OpenSpec.ofChange fnExactCappedValueSpec)

/-- ITS FALSE NEIGHBOUR: 'it returns false'. Refute it at one input. -/
def fnExactCappedValueWrong : ChangeSpec := { name := "fnExactCappedValue", fn := fun _ => fun
  | [d1, d2, d3, d4] => { results := [.lit (.bool false)], args := [d1, d2, d3, d4] }
  | _ => none }
def FnExactCappedValueWrongFalsely : Prop := fnExactCappedValueRow.holds Try.pinned (OpenSpec.ofChange fnExactCappedValueWrong)

/-- 'laws.FnExactPathGraph': WHATEVER THE INPUT: true; the input reads as it did. -/
def fnExactPathGraphSpec : ChangeSpec := { name := "fnExactPathGraph", fn := fun _ => fun
  | [d1, d2] => { results := [.lit (.bool true)], args := [d1, d2] }
  | _ => none }
def fnExactPathGraphRow : OpenClaim := { program := "ytdmkceajaagpgaa", sum := "f6b267ab6ef834c2fb17aa812c4ba610d0325dc3b052b24ba6c65a0eb4056db2", func := "loop.example/g00892/laws.FnExactPathGraph", spec := "fnExactPathGraph", inPlace := ["slices.overlaps[loop.example/g00892/impl.SizeEdge]"], unfollowed := true, recurses := true, apart := false }
def FnExactPathGraphSaid : Prop := fnExactPathGraphRow.holds Try.pinned (OpenSpec.ofChange fnExactPathGraphSpec)

/-- ITS FALSE NEIGHBOUR: 'it returns false'. Refute it at one input. -/
def fnExactPathGraphWrong : ChangeSpec := { name := "fnExactPathGraph", fn := fun _ => fun
  | [d1, d2] => { results := [.lit (.bool false)], args := [d1, d2] }
  | _ => none }
def FnExactPathGraphWrongFalsely : Prop := fnExactPathGraphRow.holds Try.pinned (OpenSpec.ofChange fnExactPathGraphWrong)

/-- 'laws.FnExactJoinLinear': WHATEVER THE INPUT: true; the input reads as it did. -/
def fnExactJoinLinearSpec : ChangeSpec := { name := "fnExactJoinLinear", fn := fun _ => fun
  | [d1, d2] => { results := [.lit (.bool true)], args := [d1, d2] }
  | _ => none }
def fnExactJoinLinearRow : OpenClaim := { program := "ytdmkceajaagpgaa", sum := "f6b267ab6ef834c2fb17aa812c4ba610d0325dc3b052b24ba6c65a0eb4056db2", func := "loop.example/g00892/laws.FnExactJoinLinear", spec := "fnExactJoinLinear", recurses := true, apart := false }
def FnExactJoinLinearSaid : Prop := fnExactJoinLinearRow.holds Try.pinned (OpenSpec.ofChange fnExactJoinLinearSpec)

/-- ITS FALSE NEIGHBOUR: 'it returns false'. Refute it at one input. -/
def fnExactJoinLinearWrong : ChangeSpec := { name := "fnExactJoinLinear", fn := fun _ => fun
  | [d1, d2] => { results := [.lit (.bool false)], args := [d1, d2] }
  | _ => none }
def FnExactJoinLinearWrongFalsely : Prop := fnExactJoinLinearRow.holds Try.pinned (OpenSpec.ofChange fnExactJoinLinearWrong)

/-- 'laws.FnLinear': WHATEVER THE INPUT: true; the input reads as it did. -/
def fnLinearSpec : ChangeSpec := { name := "fnLinear", fn := fun _ => fun
  | [d] => { results := [.lit (.bool true)], args := [d] }
  | _ => none }
def fnLinearRow : OpenClaim := { program := "ytdmkceajaagpgaa", sum := "f6b267ab6ef834c2fb17aa812c4ba610d0325dc3b052b24ba6c65a0eb4056db2", func := "loop.example/g00892/laws.FnLinear", spec := "fnLinear", recurses := true, apart := false }
def FnLinearSaid : Prop := fnLinearRow.holds Try.pinned (OpenSpec.ofChange fnLinearSpec)

/-- ITS FALSE NEIGHBOUR: 'it returns false'. Refute it at one input. -/
def fnLinearWrong : ChangeSpec := { name := "fnLinear", fn := fun _ => fun
  | [d] => { results := [.lit (.bool false)], args := [d] }
  | _ => none }
def FnLinearWrongFalsely : Prop := fnLinearRow.holds Try.pinned (OpenSpec.ofChange fnLinearWrong)

/-- 'laws.FnExactTraceDefect': WHATEVER THE INPUT: true; the input reads as it did. -/
def fnExactTraceDefectSpec : ChangeSpec := { name := "fnExactTraceDefect", fn := fun _ => fun
  | [d] => { results := [.lit (.bool true)], args := [d] }
  | _ => none }
def fnExactTraceDefectRow : OpenClaim := { program := "ytdmkceajaagpgaa", sum := "f6b267ab6ef834c2fb17aa812c4ba610d0325dc3b052b24ba6c65a0eb4056db2", func := "loop.example/g00892/laws.FnExactTraceDefect", spec := "fnExactTraceDefect", inPlace := ["slices.overlaps[loop.example/g00892/impl.SizeEdge]"], unfollowed := true, recurses := true, apart := false }
def FnExactTraceDefectSaid : Prop := fnExactTraceDefectRow.holds Try.pinned (OpenSpec.ofChange fnExactTraceDefectSpec)

/-- ITS FALSE NEIGHBOUR: 'it returns false'. Refute it at one input. -/
def fnExactTraceDefectWrong : ChangeSpec := { name := "fnExactTraceDefect", fn := fun _ => fun
  | [d] => { results := [.lit (.bool false)], args := [d] }
  | _ => none }
def FnExactTraceDefectWrongFalsely : Prop := fnExactTraceDefectRow.holds Try.pinned (OpenSpec.ofChange fnExactTraceDefectWrong)

/-- 'laws.FnExactAreContradictory': WHATEVER THE INPUT: true; the input reads as it did. -/
def fnExactAreContradictorySpec : ChangeSpec := { name := "fnExactAreContradictory", fn := fun _ => fun
  | [d] => { results := [.lit (.bool true)], args := [d] }
  | _ => none }
def fnExactAreContradictoryRow : OpenClaim := { program := "ytdmkceajaagpgaa", sum := "f6b267ab6ef834c2fb17aa812c4ba610d0325dc3b052b24ba6c65a0eb4056db2", func := "loop.example/g00892/laws.FnExactAreContradictory", spec := "fnExactAreContradictory", unfollowed := true, recurses := true, loops := true, apart := false }
def FnExactAreContradictorySaid : Prop := fnExactAreContradictoryRow.holds Try.pinned (OpenSpec.ofChange fnExactAreContradictorySpec)

/-- ITS FALSE NEIGHBOUR: 'it returns false'. Refute it at one input. -/
def fnExactAreContradictoryWrong : ChangeSpec := { name := "fnExactAreContradictory", fn := fun _ => fun
  | [d] => { results := [.lit (.bool false)], args := [d] }
  | _ => none }
def FnExactAreContradictoryWrongFalsely : Prop := fnExactAreContradictoryRow.holds Try.pinned (OpenSpec.ofChange fnExactAreContradictoryWrong)

/-- 'laws.FnExactGraphClosure': WHATEVER THE INPUT: true; the input reads as it did. -/
def fnExactGraphClosureSpec : ChangeSpec := { name := "fnExactGraphClosure", fn := fun _ => fun
  | [d] => { results := [.lit (.bool true)], args := [d] }
  | _ => none }
def fnExactGraphClosureRow : OpenClaim := { program := "ytdmkceajaagpgaa", sum := "f6b267ab6ef834c2fb17aa812c4ba610d0325dc3b052b24ba6c65a0eb4056db2", func := "loop.example/g00892/laws.FnExactGraphClosure", spec := "fnExactGraphClosure", inPlace := ["slices.overlaps[loop.example/g00892/impl.SizeEdge]"], unfollowed := true, recurses := true, apart := false }
def FnExactGraphClosureSaid : Prop := fnExactGraphClosureRow.holds Try.pinned (OpenSpec.ofChange fnExactGraphClosureSpec)

/-- ITS FALSE NEIGHBOUR: 'it returns false'. Refute it at one input. -/
def fnExactGraphClosureWrong : ChangeSpec := { name := "fnExactGraphClosure", fn := fun _ => fun
  | [d] => { results := [.lit (.bool false)], args := [d] }
  | _ => none }
def FnExactGraphClosureWrongFalsely : Prop := fnExactGraphClosureRow.holds Try.pinned (OpenSpec.ofChange fnExactGraphClosureWrong)

/-- 'laws.FnExactSubstituteLinear': WHATEVER THE INPUT: true; the input reads as it did. -/
def fnExactSubstituteLinearSpec : ChangeSpec := { name := "fnExactSubstituteLinear", fn := fun _ => fun
  | [d1, d2, d3] => { results := [.lit (.bool true)], args := [d1, d2, d3] }
  | _ => none }
def fnExactSubstituteLinearRow : OpenClaim := { program := "ytdmkceajaagpgaa", sum := "f6b267ab6ef834c2fb17aa812c4ba610d0325dc3b052b24ba6c65a0eb4056db2", func := "loop.example/g00892/laws.FnExactSubstituteLinear", spec := "fnExactSubstituteLinear", recurses := true, apart := false }
def FnExactSubstituteLinearSaid : Prop := fnExactSubstituteLinearRow.holds Try.pinned (OpenSpec.ofChange fnExactSubstituteLinearSpec)

/-- ITS FALSE NEIGHBOUR: 'it returns false'. Refute it at one input. -/
def fnExactSubstituteLinearWrong : ChangeSpec := { name := "fnExactSubstituteLinear", fn := fun _ => fun
  | [d1, d2, d3] => { results := [.lit (.bool false)], args := [d1, d2, d3] }
  | _ => none }
def FnExactSubstituteLinearWrongFalsely : Prop := fnExactSubstituteLinearRow.holds Try.pinned (OpenSpec.ofChange fnExactSubstituteLinearWrong)

/-- 'laws.FnSimplified': WHATEVER THE INPUT: true; the input reads as it did. -/
def fnSimplifiedSpec : ChangeSpec := { name := "fnSimplified", fn := fun _ => fun
  | [d] => { results := [.lit (.bool true)], args := [d] }
  | _ => none }
def fnSimplifiedRow : OpenClaim := { program := "ytdmkceajaagpgaa", sum := "f6b267ab6ef834c2fb17aa812c4ba610d0325dc3b052b24ba6c65a0eb4056db2", func := "loop.example/g00892/laws.FnSimplified", spec := "fnSimplified", unfollowed := true, recurses := true, apart := false }
def FnSimplifiedSaid : Prop := fnSimplifiedRow.holds Try.pinned (OpenSpec.ofChange fnSimplifiedSpec)

/-- ITS FALSE NEIGHBOUR: 'it returns false'. Refute it at one input. -/
def fnSimplifiedWrong : ChangeSpec := { name := "fnSimplified", fn := fun _ => fun
  | [d] => { results := [.lit (.bool false)], args := [d] }
  | _ => none }
def FnSimplifiedWrongFalsely : Prop := fnSimplifiedRow.holds Try.pinned (OpenSpec.ofChange fnSimplifiedWrong)

/- THE SECOND FORM. 'bulk': how many values and letters a reading holds, each counted each time it is reached (what is shared counts as often as it is met; a slice's spare places count too). A statement '..UptoSaid' is the law's where the arguments, and the package variables that the reading takes, are together of bulk at most 1048576: NARROWER than '..Said'. Prove '..Said' where nothing that the law and all that it calls make is longer than what came in: it says more and counts as full. Else prove '..UptoSaid'. A law counts once. -/
mutual
def uptoBulk {H : Type} : DataW H → Nat
  | .lit (.string bytes) => bytes.length + 1
  | .lit _ => 1
  | .nil => 1
  | .ptr d => uptoBulk d + 1
  | .slice elems spare => uptoBulkAll elems + uptoBulkAll spare + 1
  | .agg parts => uptoBulkAll parts + 1
  | .iface _ d => uptoBulk d + 1
  | .map entries => uptoBulkEntries entries + 1
  | .held _ => 1
def uptoBulkAll {H : Type} : List (DataW H) → Nat
  | [] => 0
  | d :: r => uptoBulk d + uptoBulkAll r
def uptoBulkEntries {H : Type} : List (Lit × DataW H) → Nat
  | [] => 0
  | x :: r => uptoBulkEntry x + uptoBulkEntries r
def uptoBulkEntry {H : Type} : Lit × DataW H → Nat
  | (.string bytes, d) => bytes.length + uptoBulk d + 1
  | (_, d) => uptoBulk d + 1
 end
def uptoSmall : (H : Type) → List (DataW H) → Bool := fun _ ds => decide (uptoBulkAll ds ≤ 1048576)
def OpenSpec.upto (s : _root_.Go.ChangeSpec) : _root_.Go.OpenSpec := { _root_.Go.OpenSpec.ofChange s with cond := some uptoSmall }

/-- 'laws.FnExactIsValidDecomposition', WHERE WHAT IT READS IS OF BULK AT MOST 1048576: true; the input reads as it did. -/
def fnExactIsValidDecompositionUptoRow : OpenClaim := { program := "ytdmkceajaagpgaa", sum := "f6b267ab6ef834c2fb17aa812c4ba610d0325dc3b052b24ba6c65a0eb4056db2", func := "loop.example/g00892/laws.FnExactIsValidDecomposition", spec := "fnExactIsValidDecomposition", unfollowed := true, recurses := true, loops := true, apart := false, narrowed := true }
def FnExactIsValidDecompositionUptoSaid : Prop := fnExactIsValidDecompositionUptoRow.holds Try.pinned (OpenSpec.upto fnExactIsValidDecompositionSpec)

/-- 'laws.FnExactGeneralizeTerms', WHERE WHAT IT READS IS OF BULK AT MOST 1048576: true; the input reads as it did. -/
def fnExactGeneralizeTermsUptoRow : OpenClaim := { program := "ytdmkceajaagpgaa", sum := "f6b267ab6ef834c2fb17aa812c4ba610d0325dc3b052b24ba6c65a0eb4056db2", func := "loop.example/g00892/laws.FnExactGeneralizeTerms", spec := "fnExactGeneralizeTerms", unfollowed := true, recurses := true, loops := true, apart := false, narrowed := true }
def FnExactGeneralizeTermsUptoSaid : Prop := fnExactGeneralizeTermsUptoRow.holds Try.pinned (OpenSpec.upto fnExactGeneralizeTermsSpec)

/-- 'laws.FnGraphs', WHERE WHAT IT READS IS OF BULK AT MOST 1048576: true; the input reads as it did. -/
def fnGraphsUptoRow : OpenClaim := { program := "ytdmkceajaagpgaa", sum := "f6b267ab6ef834c2fb17aa812c4ba610d0325dc3b052b24ba6c65a0eb4056db2", func := "loop.example/g00892/laws.FnGraphs", spec := "fnGraphs", inPlace := ["slices.overlaps[loop.example/g00892/impl.SizeEdge]"], unfollowed := true, recurses := true, apart := false, narrowed := true }
def FnGraphsUptoSaid : Prop := fnGraphsUptoRow.holds Try.pinned (OpenSpec.upto fnGraphsSpec)

/-- 'laws.FnExactCappedValue', WHERE WHAT IT READS IS OF BULK AT MOST 1048576: true; the input reads as it did. -/
def fnExactCappedValueUptoRow : OpenClaim := { program := "ytdmkceajaagpgaa", sum := "f6b267ab6ef834c2fb17aa812c4ba610d0325dc3b052b24ba6c65a0eb4056db2", func := "loop.example/g00892/laws.FnExactCappedValue", spec := "fnExactCappedValue", unfollowed := true, recurses := true, loops := true, apart := false, narrowed := true }
def FnExactCappedValueUptoSaid : Prop := fnExactCappedValueUptoRow.holds Try.pinned (OpenSpec.upto fnExactCappedValueSpec)

/-- 'laws.FnExactPathGraph', WHERE WHAT IT READS IS OF BULK AT MOST 1048576: true; the input reads as it did. -/
def fnExactPathGraphUptoRow : OpenClaim := { program := "ytdmkceajaagpgaa", sum := "f6b267ab6ef834c2fb17aa812c4ba610d0325dc3b052b24ba6c65a0eb4056db2", func := "loop.example/g00892/laws.FnExactPathGraph", spec := "fnExactPathGraph", inPlace := ["slices.overlaps[loop.example/g00892/impl.SizeEdge]"], unfollowed := true, recurses := true, apart := false, narrowed := true }
def FnExactPathGraphUptoSaid : Prop := fnExactPathGraphUptoRow.holds Try.pinned (OpenSpec.upto fnExactPathGraphSpec)

/-- 'laws.FnExactJoinLinear', WHERE WHAT IT READS IS OF BULK AT MOST 1048576: true; the input reads as it did. -/
def fnExactJoinLinearUptoRow : OpenClaim := { program := "ytdmkceajaagpgaa", sum := "f6b267ab6ef834c2fb17aa812c4ba610d0325dc3b052b24ba6c65a0eb4056db2", func := "loop.example/g00892/laws.FnExactJoinLinear", spec := "fnExactJoinLinear", recurses := true, apart := false, narrowed := true }
def FnExactJoinLinearUptoSaid : Prop := fnExactJoinLinearUptoRow.holds Try.pinned (OpenSpec.upto fnExactJoinLinearSpec)

/-- 'laws.FnLinear', WHERE WHAT IT READS IS OF BULK AT MOST 1048576: true; the input reads as it did. -/
def fnLinearUptoRow : OpenClaim := { program := "ytdmkceajaagpgaa", sum := "f6b267ab6ef834c2fb17aa812c4ba610d0325dc3b052b24ba6c65a0eb4056db2", func := "loop.example/g00892/laws.FnLinear", spec := "fnLinear", recurses := true, apart := false, narrowed := true }
def FnLinearUptoSaid : Prop := fnLinearUptoRow.holds Try.pinned (OpenSpec.upto fnLinearSpec)

/-- 'laws.FnExactTraceDefect', WHERE WHAT IT READS IS OF BULK AT MOST 1048576: true; the input reads as it did. -/
def fnExactTraceDefectUptoRow : OpenClaim := { program := "ytdmkceajaagpgaa", sum := "f6b267ab6ef834c2fb17aa812c4ba610d0325dc3b052b24ba6c65a0eb4056db2", func := "loop.example/g00892/laws.FnExactTraceDefect", spec := "fnExactTraceDefect", inPlace := ["slices.overlaps[loop.example/g00892/impl.SizeEdge]"], unfollowed := true, recurses := true, apart := false, narrowed := true }
def FnExactTraceDefectUptoSaid : Prop := fnExactTraceDefectUptoRow.holds Try.pinned (OpenSpec.upto fnExactTraceDefectSpec)

/-- 'laws.FnExactAreContradictory', WHERE WHAT IT READS IS OF BULK AT MOST 1048576: true; the input reads as it did. -/
def fnExactAreContradictoryUptoRow : OpenClaim := { program := "ytdmkceajaagpgaa", sum := "f6b267ab6ef834c2fb17aa812c4ba610d0325dc3b052b24ba6c65a0eb4056db2", func := "loop.example/g00892/laws.FnExactAreContradictory", spec := "fnExactAreContradictory", unfollowed := true, recurses := true, loops := true, apart := false, narrowed := true }
def FnExactAreContradictoryUptoSaid : Prop := fnExactAreContradictoryUptoRow.holds Try.pinned (OpenSpec.upto fnExactAreContradictorySpec)

/-- 'laws.FnExactGraphClosure', WHERE WHAT IT READS IS OF BULK AT MOST 1048576: true; the input reads as it did. -/
def fnExactGraphClosureUptoRow : OpenClaim := { program := "ytdmkceajaagpgaa", sum := "f6b267ab6ef834c2fb17aa812c4ba610d0325dc3b052b24ba6c65a0eb4056db2", func := "loop.example/g00892/laws.FnExactGraphClosure", spec := "fnExactGraphClosure", inPlace := ["slices.overlaps[loop.example/g00892/impl.SizeEdge]"], unfollowed := true, recurses := true, apart := false, narrowed := true }
def FnExactGraphClosureUptoSaid : Prop := fnExactGraphClosureUptoRow.holds Try.pinned (OpenSpec.upto fnExactGraphClosureSpec)

/-- 'laws.FnExactSubstituteLinear', WHERE WHAT IT READS IS OF BULK AT MOST 1048576: true; the input reads as it did. -/
def fnExactSubstituteLinearUptoRow : OpenClaim := { program := "ytdmkceajaagpgaa", sum := "f6b267ab6ef834c2fb17aa812c4ba610d0325dc3b052b24ba6c65a0eb4056db2", func := "loop.example/g00892/laws.FnExactSubstituteLinear", spec := "fnExactSubstituteLinear", recurses := true, apart := false, narrowed := true }
def FnExactSubstituteLinearUptoSaid : Prop := fnExactSubstituteLinearUptoRow.holds Try.pinned (OpenSpec.upto fnExactSubstituteLinearSpec)

/-- 'laws.FnSimplified', WHERE WHAT IT READS IS OF BULK AT MOST 1048576: true; the input reads as it did. -/
def fnSimplifiedUptoRow : OpenClaim := { program := "ytdmkceajaagpgaa", sum := "f6b267ab6ef834c2fb17aa812c4ba610d0325dc3b052b24ba6c65a0eb4056db2", func := "loop.example/g00892/laws.FnSimplified", spec := "fnSimplified", unfollowed := true, recurses := true, apart := false, narrowed := true }
def FnSimplifiedUptoSaid : Prop := fnSimplifiedUptoRow.holds Try.pinned (OpenSpec.upto fnSimplifiedSpec)

end Rows
end Go.Proofs.Ytdmkceajaagpgaa
