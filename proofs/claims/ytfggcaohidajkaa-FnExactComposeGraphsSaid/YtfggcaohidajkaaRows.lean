/-
  NARROWER THAN 'FOR EVERY INPUT', by the rows' own cells (each row's printed sentence says how): FnExactNumeralValue: loops.
  DERIVED. THE GIVEN ROWS OF THIS SEAT. 11 by the template 'for every input the law returns true; each argument reads behind the call as it read before'; 0 by the template 'total and deterministic' (their statements: YtfggcaohidajkaaTotals.lean).
  GIVEN WITH THE SEED: the statements are not yours to turn. If you find one false, say at which input.
  Laid BY PROGRAM, IN A SANDBOX (cutbox-rows.mjs): the forced cells as the released guide's own fill.sh prints them over the translation c30e2c6a67484533… (all of the seat's roots in one cut). By AI agents, Wed Nov 11 2026. No macro, syntax, notation, axiom, sorry.
-/
import Derived.Test.YtfggcaohidajkaaChecked
import GoSem.Claim
import GoSem.ClaimJoined
import GoSem.ClaimMapViews
import Derived.JoinedTies
import Derived.KernelRfl
namespace Go.Proofs.Ytfggcaohidajkaa
/- THE CELL 'sum', in the pinned program and in every row, IS THE sha256 OF THE DUMP (.gsa) THAT YtfggcaohidajkaaProg.lean LOADS. Nothing in Lean hashes anything: it is a label: what it is worth is what the hold of that sum in a sandbox is worth. -/
noncomputable def Try.pinned : Pinned := { name := "ytfggcaohidajkaa", sum := "c30e2c6a6748453316a78d0df77864def7f02e03b260fc5beca26ce124b1358d", checked := Try.checked }
namespace Rows
def none {H : Type} : Left H := { results := [], args := [] }

/-- 'laws.FnExactNumeralOf': WHATEVER THE INPUT: true; the input reads as it did. -/
def fnExactNumeralOfSpec : ChangeSpec := { name := "fnExactNumeralOf", fn := fun _ => fun
  | [d] => { results := [.lit (.bool true)], args := [d] }
  | _ => none }
def fnExactNumeralOfRow : OpenClaim := { program := "ytfggcaohidajkaa", sum := "c30e2c6a6748453316a78d0df77864def7f02e03b260fc5beca26ce124b1358d", func := "loop.example/g00892/laws.FnExactNumeralOf", spec := "fnExactNumeralOf", recurses := true, apart := false }
def FnExactNumeralOfSaid : Prop := fnExactNumeralOfRow.holds Try.pinned (OpenSpec.ofChange fnExactNumeralOfSpec)

/-- ITS FALSE NEIGHBOUR: 'it returns false'. Refute it at one input. -/
def fnExactNumeralOfWrong : ChangeSpec := { name := "fnExactNumeralOf", fn := fun _ => fun
  | [d] => { results := [.lit (.bool false)], args := [d] }
  | _ => none }
def FnExactNumeralOfWrongFalsely : Prop := fnExactNumeralOfRow.holds Try.pinned (OpenSpec.ofChange fnExactNumeralOfWrong)

/-- 'laws.FnExactNumeralValue': WHATEVER THE INPUT: true; the input reads as it did. -/
def fnExactNumeralValueSpec : ChangeSpec := { name := "fnExactNumeralValue", fn := fun _ => fun
  | [d] => { results := [.lit (.bool true)], args := [d] }
  | _ => none }
def fnExactNumeralValueRow : OpenClaim := { program := "ytfggcaohidajkaa", sum := "c30e2c6a6748453316a78d0df77864def7f02e03b260fc5beca26ce124b1358d", func := "loop.example/g00892/laws.FnExactNumeralValue", spec := "fnExactNumeralValue", unfollowed := true, recurses := true, loops := true, apart := false }
def FnExactNumeralValueSaid : Prop := fnExactNumeralValueRow.holds Try.pinned (OpenSpec.ofChange fnExactNumeralValueSpec)

/-- ITS FALSE NEIGHBOUR: 'it returns false'. Refute it at one input. -/
def fnExactNumeralValueWrong : ChangeSpec := { name := "fnExactNumeralValue", fn := fun _ => fun
  | [d] => { results := [.lit (.bool false)], args := [d] }
  | _ => none }
def FnExactNumeralValueWrongFalsely : Prop := fnExactNumeralValueRow.holds Try.pinned (OpenSpec.ofChange fnExactNumeralValueWrong)

/-- 'laws.FnExactIsValidGraph': WHATEVER THE INPUT: true; the input reads as it did. -/
def fnExactIsValidGraphSpec : ChangeSpec := { name := "fnExactIsValidGraph", fn := fun _ => fun
  | [d] => { results := [.lit (.bool true)], args := [d] }
  | _ => none }
def fnExactIsValidGraphRow : OpenClaim := { program := "ytfggcaohidajkaa", sum := "c30e2c6a6748453316a78d0df77864def7f02e03b260fc5beca26ce124b1358d", func := "loop.example/g00892/laws.FnExactIsValidGraph", spec := "fnExactIsValidGraph", apart := false }
def FnExactIsValidGraphSaid : Prop := fnExactIsValidGraphRow.holds Try.pinned (OpenSpec.ofChange fnExactIsValidGraphSpec)

/-- ITS FALSE NEIGHBOUR: 'it returns false'. Refute it at one input. -/
def fnExactIsValidGraphWrong : ChangeSpec := { name := "fnExactIsValidGraph", fn := fun _ => fun
  | [d] => { results := [.lit (.bool false)], args := [d] }
  | _ => none }
def FnExactIsValidGraphWrongFalsely : Prop := fnExactIsValidGraphRow.holds Try.pinned (OpenSpec.ofChange fnExactIsValidGraphWrong)

/-- 'laws.FnExactIsValidLinear': WHATEVER THE INPUT: true; the input reads as it did. -/
def fnExactIsValidLinearSpec : ChangeSpec := { name := "fnExactIsValidLinear", fn := fun _ => fun
  | [d] => { results := [.lit (.bool true)], args := [d] }
  | _ => none }
def fnExactIsValidLinearRow : OpenClaim := { program := "ytfggcaohidajkaa", sum := "c30e2c6a6748453316a78d0df77864def7f02e03b260fc5beca26ce124b1358d", func := "loop.example/g00892/laws.FnExactIsValidLinear", spec := "fnExactIsValidLinear", apart := false }
def FnExactIsValidLinearSaid : Prop := fnExactIsValidLinearRow.holds Try.pinned (OpenSpec.ofChange fnExactIsValidLinearSpec)

/-- ITS FALSE NEIGHBOUR: 'it returns false'. Refute it at one input. -/
def fnExactIsValidLinearWrong : ChangeSpec := { name := "fnExactIsValidLinear", fn := fun _ => fun
  | [d] => { results := [.lit (.bool false)], args := [d] }
  | _ => none }
def FnExactIsValidLinearWrongFalsely : Prop := fnExactIsValidLinearRow.holds Try.pinned (OpenSpec.ofChange fnExactIsValidLinearWrong)

/-- 'laws.FnExactEvaluateLinear': WHATEVER THE INPUT: true; the input reads as it did. -/
def fnExactEvaluateLinearSpec : ChangeSpec := { name := "fnExactEvaluateLinear", fn := fun _ => fun
  | [d1, d2] => { results := [.lit (.bool true)], args := [d1, d2] }
  | _ => none }
def fnExactEvaluateLinearRow : OpenClaim := { program := "ytfggcaohidajkaa", sum := "c30e2c6a6748453316a78d0df77864def7f02e03b260fc5beca26ce124b1358d", func := "loop.example/g00892/laws.FnExactEvaluateLinear", spec := "fnExactEvaluateLinear", unfollowed := true, recurses := true, apart := false }
def FnExactEvaluateLinearSaid : Prop := fnExactEvaluateLinearRow.holds Try.pinned (OpenSpec.ofChange fnExactEvaluateLinearSpec)

/-- ITS FALSE NEIGHBOUR: 'it returns false'. Refute it at one input. -/
def fnExactEvaluateLinearWrong : ChangeSpec := { name := "fnExactEvaluateLinear", fn := fun _ => fun
  | [d1, d2] => { results := [.lit (.bool false)], args := [d1, d2] }
  | _ => none }
def FnExactEvaluateLinearWrongFalsely : Prop := fnExactEvaluateLinearRow.holds Try.pinned (OpenSpec.ofChange fnExactEvaluateLinearWrong)

/-- 'laws.FnExactIsValidMajorants': WHATEVER THE INPUT: true; the input reads as it did. -/
def fnExactIsValidMajorantsSpec : ChangeSpec := { name := "fnExactIsValidMajorants", fn := fun _ => fun
  | [d] => { results := [.lit (.bool true)], args := [d] }
  | _ => none }
def fnExactIsValidMajorantsRow : OpenClaim := { program := "ytfggcaohidajkaa", sum := "c30e2c6a6748453316a78d0df77864def7f02e03b260fc5beca26ce124b1358d", func := "loop.example/g00892/laws.FnExactIsValidMajorants", spec := "fnExactIsValidMajorants", unfollowed := true, recurses := true, apart := false }
def FnExactIsValidMajorantsSaid : Prop := fnExactIsValidMajorantsRow.holds Try.pinned (OpenSpec.ofChange fnExactIsValidMajorantsSpec)

/-- ITS FALSE NEIGHBOUR: 'it returns false'. Refute it at one input. -/
def fnExactIsValidMajorantsWrong : ChangeSpec := { name := "fnExactIsValidMajorants", fn := fun _ => fun
  | [d] => { results := [.lit (.bool false)], args := [d] }
  | _ => none }
def FnExactIsValidMajorantsWrongFalsely : Prop := fnExactIsValidMajorantsRow.holds Try.pinned (OpenSpec.ofChange fnExactIsValidMajorantsWrong)

/-- 'laws.FnExactIsValidCyclic': WHATEVER THE INPUT: true; the input reads as it did. -/
def fnExactIsValidCyclicSpec : ChangeSpec := { name := "fnExactIsValidCyclic", fn := fun _ => fun
  | [d] => { results := [.lit (.bool true)], args := [d] }
  | _ => none }
def fnExactIsValidCyclicRow : OpenClaim := { program := "ytfggcaohidajkaa", sum := "c30e2c6a6748453316a78d0df77864def7f02e03b260fc5beca26ce124b1358d", func := "loop.example/g00892/laws.FnExactIsValidCyclic", spec := "fnExactIsValidCyclic", unfollowed := true, recurses := true, apart := false }
def FnExactIsValidCyclicSaid : Prop := fnExactIsValidCyclicRow.holds Try.pinned (OpenSpec.ofChange fnExactIsValidCyclicSpec)

/-- ITS FALSE NEIGHBOUR: 'it returns false'. Refute it at one input. -/
def fnExactIsValidCyclicWrong : ChangeSpec := { name := "fnExactIsValidCyclic", fn := fun _ => fun
  | [d] => { results := [.lit (.bool false)], args := [d] }
  | _ => none }
def FnExactIsValidCyclicWrongFalsely : Prop := fnExactIsValidCyclicRow.holds Try.pinned (OpenSpec.ofChange fnExactIsValidCyclicWrong)

/-- 'laws.FnExactMostProgress': WHATEVER THE INPUT: true; the input reads as it did. -/
def fnExactMostProgressSpec : ChangeSpec := { name := "fnExactMostProgress", fn := fun _ => fun
  | [d1, d2] => { results := [.lit (.bool true)], args := [d1, d2] }
  | _ => none }
def fnExactMostProgressRow : OpenClaim := { program := "ytfggcaohidajkaa", sum := "c30e2c6a6748453316a78d0df77864def7f02e03b260fc5beca26ce124b1358d", func := "loop.example/g00892/laws.FnExactMostProgress", spec := "fnExactMostProgress", unfollowed := true, recurses := true, apart := false }
def FnExactMostProgressSaid : Prop := fnExactMostProgressRow.holds Try.pinned (OpenSpec.ofChange fnExactMostProgressSpec)

/-- ITS FALSE NEIGHBOUR: 'it returns false'. Refute it at one input. -/
def fnExactMostProgressWrong : ChangeSpec := { name := "fnExactMostProgress", fn := fun _ => fun
  | [d1, d2] => { results := [.lit (.bool false)], args := [d1, d2] }
  | _ => none }
def FnExactMostProgressWrongFalsely : Prop := fnExactMostProgressRow.holds Try.pinned (OpenSpec.ofChange fnExactMostProgressWrong)

/-- 'laws.FnExactIsIdempotentGraph': WHATEVER THE INPUT: true; the input reads as it did. -/
def fnExactIsIdempotentGraphSpec : ChangeSpec := { name := "fnExactIsIdempotentGraph", fn := fun _ => fun
  | [d] => { results := [.lit (.bool true)], args := [d] }
  | _ => none }
def fnExactIsIdempotentGraphRow : OpenClaim := { program := "ytfggcaohidajkaa", sum := "c30e2c6a6748453316a78d0df77864def7f02e03b260fc5beca26ce124b1358d", func := "loop.example/g00892/laws.FnExactIsIdempotentGraph", spec := "fnExactIsIdempotentGraph", inPlace := ["slices.overlaps[loop.example/g00892/impl.SizeEdge]"], unfollowed := true, recurses := true, apart := false }
def FnExactIsIdempotentGraphSaid : Prop := fnExactIsIdempotentGraphRow.holds Try.pinned (OpenSpec.ofChange fnExactIsIdempotentGraphSpec)

/-- ITS FALSE NEIGHBOUR: 'it returns false'. Refute it at one input. -/
def fnExactIsIdempotentGraphWrong : ChangeSpec := { name := "fnExactIsIdempotentGraph", fn := fun _ => fun
  | [d] => { results := [.lit (.bool false)], args := [d] }
  | _ => none }
def FnExactIsIdempotentGraphWrongFalsely : Prop := fnExactIsIdempotentGraphRow.holds Try.pinned (OpenSpec.ofChange fnExactIsIdempotentGraphWrong)

/-- 'laws.FnExactComposeGraphs': WHATEVER THE INPUT: true; the input reads as it did. -/
def fnExactComposeGraphsSpec : ChangeSpec := { name := "fnExactComposeGraphs", fn := fun _ => fun
  | [d1, d2] => { results := [.lit (.bool true)], args := [d1, d2] }
  | _ => none }
def fnExactComposeGraphsRow : OpenClaim := { program := "ytfggcaohidajkaa", sum := "c30e2c6a6748453316a78d0df77864def7f02e03b260fc5beca26ce124b1358d", func := "loop.example/g00892/laws.FnExactComposeGraphs", spec := "fnExactComposeGraphs", inPlace := ["slices.overlaps[loop.example/g00892/impl.SizeEdge]"], unfollowed := true, recurses := true, apart := false }
def FnExactComposeGraphsSaid : Prop := fnExactComposeGraphsRow.holds Try.pinned (OpenSpec.ofChange fnExactComposeGraphsSpec)

/-- ITS FALSE NEIGHBOUR: 'it returns false'. Refute it at one input. -/
def fnExactComposeGraphsWrong : ChangeSpec := { name := "fnExactComposeGraphs", fn := fun _ => fun
  | [d1, d2] => { results := [.lit (.bool false)], args := [d1, d2] }
  | _ => none }
def FnExactComposeGraphsWrongFalsely : Prop := fnExactComposeGraphsRow.holds Try.pinned (OpenSpec.ofChange fnExactComposeGraphsWrong)

/-- 'laws.FnExactRepeatPath': WHATEVER THE INPUT: true; the input reads as it did. -/
def fnExactRepeatPathSpec : ChangeSpec := { name := "fnExactRepeatPath", fn := fun _ => fun
  | [d1, d2, d3] => { results := [.lit (.bool true)], args := [d1, d2, d3] }
  | _ => none }
def fnExactRepeatPathRow : OpenClaim := { program := "ytfggcaohidajkaa", sum := "c30e2c6a6748453316a78d0df77864def7f02e03b260fc5beca26ce124b1358d", func := "loop.example/g00892/laws.FnExactRepeatPath", spec := "fnExactRepeatPath", unfollowed := true, recurses := true, apart := false }
def FnExactRepeatPathSaid : Prop := fnExactRepeatPathRow.holds Try.pinned (OpenSpec.ofChange fnExactRepeatPathSpec)

/-- ITS FALSE NEIGHBOUR: 'it returns false'. Refute it at one input. -/
def fnExactRepeatPathWrong : ChangeSpec := { name := "fnExactRepeatPath", fn := fun _ => fun
  | [d1, d2, d3] => { results := [.lit (.bool false)], args := [d1, d2, d3] }
  | _ => none }
def FnExactRepeatPathWrongFalsely : Prop := fnExactRepeatPathRow.holds Try.pinned (OpenSpec.ofChange fnExactRepeatPathWrong)

/- THE SECOND FORM. 'bulk': how many values and letters a reading holds, each counted each time it is reached (what is shared counts as often as it is met; a slice's spare places count too). A statement '..UptoSaid' is the law's where the arguments, and the package variables that the reading takes, are together of bulk at most 1048576: NARROWER than '..Said'. Prove '..Said' where nothing that the law and all that it calls make is longer than what came in: it says more and counts as full. Else prove '..UptoSaid'. A law counts once. -/
mutual
def uptoBulk {H : Type} : DataW H → Nat
  | .lit (.string bytes) => bytes.length + 1
  | .lit _ => 1
  | .nil => 1
  | .ptr d => uptoBulk d + 1
  | .slice elems spare => uptoBulkAll elems + uptoBulkAll spare + 1
  | .agg parts => uptoBulkAll parts + 1
  | .iface _ d => uptoBulk d + 1
  | .map entries => uptoBulkEntries entries + 1
  | .held _ => 1
def uptoBulkAll {H : Type} : List (DataW H) → Nat
  | [] => 0
  | d :: r => uptoBulk d + uptoBulkAll r
def uptoBulkEntries {H : Type} : List (Lit × DataW H) → Nat
  | [] => 0
  | x :: r => uptoBulkEntry x + uptoBulkEntries r
def uptoBulkEntry {H : Type} : Lit × DataW H → Nat
  | (.string bytes, d) => bytes.length + uptoBulk d + 1
  | (_, d) => uptoBulk d + 1
 end
def uptoSmall : (H : Type) → List (DataW H) → Bool := fun _ ds => decide (uptoBulkAll ds ≤ 1048576)
def OpenSpec.upto (s : _root_.Go.ChangeSpec) : _root_.Go.OpenSpec := { _root_.Go.OpenSpec.ofChange s with cond := some uptoSmall }

/-- 'laws.FnExactNumeralOf', WHERE WHAT IT READS IS OF BULK AT MOST 1048576: true; the input reads as it did. -/
def fnExactNumeralOfUptoRow : OpenClaim := { program := "ytfggcaohidajkaa", sum := "c30e2c6a6748453316a78d0df77864def7f02e03b260fc5beca26ce124b1358d", func := "loop.example/g00892/laws.FnExactNumeralOf", spec := "fnExactNumeralOf", recurses := true, apart := false, narrowed := true }
def FnExactNumeralOfUptoSaid : Prop := fnExactNumeralOfUptoRow.holds Try.pinned (OpenSpec.upto fnExactNumeralOfSpec)

/-- 'laws.FnExactNumeralValue', WHERE WHAT IT READS IS OF BULK AT MOST 1048576: true; the input reads as it did. -/
def fnExactNumeralValueUptoRow : OpenClaim := { program := "ytfggcaohidajkaa", sum := "c30e2c6a6748453316a78d0df77864def7f02e03b260fc5beca26ce124b1358d", func := "loop.example/g00892/laws.FnExactNumeralValue", spec := "fnExactNumeralValue", unfollowed := true, recurses := true, loops := true, apart := false, narrowed := true }
def FnExactNumeralValueUptoSaid : Prop := fnExactNumeralValueUptoRow.holds Try.pinned (OpenSpec.upto fnExactNumeralValueSpec)

/-- 'laws.FnExactIsValidGraph', WHERE WHAT IT READS IS OF BULK AT MOST 1048576: true; the input reads as it did. -/
def fnExactIsValidGraphUptoRow : OpenClaim := { program := "ytfggcaohidajkaa", sum := "c30e2c6a6748453316a78d0df77864def7f02e03b260fc5beca26ce124b1358d", func := "loop.example/g00892/laws.FnExactIsValidGraph", spec := "fnExactIsValidGraph", apart := false, narrowed := true }
def FnExactIsValidGraphUptoSaid : Prop := fnExactIsValidGraphUptoRow.holds Try.pinned (OpenSpec.upto fnExactIsValidGraphSpec)

/-- 'laws.FnExactIsValidLinear', WHERE WHAT IT READS IS OF BULK AT MOST 1048576: true; the input reads as it did. -/
def fnExactIsValidLinearUptoRow : OpenClaim := { program := "ytfggcaohidajkaa", sum := "c30e2c6a6748453316a78d0df77864def7f02e03b260fc5beca26ce124b1358d", func := "loop.example/g00892/laws.FnExactIsValidLinear", spec := "fnExactIsValidLinear", apart := false, narrowed := true }
def FnExactIsValidLinearUptoSaid : Prop := fnExactIsValidLinearUptoRow.holds Try.pinned (OpenSpec.upto fnExactIsValidLinearSpec)

/-- 'laws.FnExactEvaluateLinear', WHERE WHAT IT READS IS OF BULK AT MOST 1048576: true; the input reads as it did. -/
def fnExactEvaluateLinearUptoRow : OpenClaim := { program := "ytfggcaohidajkaa", sum := "c30e2c6a6748453316a78d0df77864def7f02e03b260fc5beca26ce124b1358d", func := "loop.example/g00892/laws.FnExactEvaluateLinear", spec := "fnExactEvaluateLinear", unfollowed := true, recurses := true, apart := false, narrowed := true }
def FnExactEvaluateLinearUptoSaid : Prop := fnExactEvaluateLinearUptoRow.holds Try.pinned (OpenSpec.upto fnExactEvaluateLinearSpec)

/-- 'laws.FnExactIsValidMajorants', WHERE WHAT IT READS IS OF BULK AT MOST 1048576: true; the input reads as it did. -/
def fnExactIsValidMajorantsUptoRow : OpenClaim := { program := "ytfggcaohidajkaa", sum := "c30e2c6a6748453316a78d0df77864def7f02e03b260fc5beca26ce124b1358d", func := "loop.example/g00892/laws.FnExactIsValidMajorants", spec := "fnExactIsValidMajorants", unfollowed := true, recurses := true, apart := false, narrowed := true }
def FnExactIsValidMajorantsUptoSaid : Prop := fnExactIsValidMajorantsUptoRow.holds Try.pinned (OpenSpec.upto fnExactIsValidMajorantsSpec)

/-- 'laws.FnExactIsValidCyclic', WHERE WHAT IT READS IS OF BULK AT MOST 1048576: true; the input reads as it did. -/
def fnExactIsValidCyclicUptoRow : OpenClaim := { program := "ytfggcaohidajkaa", sum := "c30e2c6a6748453316a78d0df77864def7f02e03b260fc5beca26ce124b1358d", func := "loop.example/g00892/laws.FnExactIsValidCyclic", spec := "fnExactIsValidCyclic", unfollowed := true, recurses := true, apart := false, narrowed := true }
def FnExactIsValidCyclicUptoSaid : Prop := fnExactIsValidCyclicUptoRow.holds Try.pinned (OpenSpec.upto fnExactIsValidCyclicSpec)

/-- 'laws.FnExactMostProgress', WHERE WHAT IT READS IS OF BULK AT MOST 1048576: true; the input reads as it did. -/
def fnExactMostProgressUptoRow : OpenClaim := { program := "ytfggcaohidajkaa", sum := "c30e2c6a6748453316a78d0df77864def7f02e03b260fc5beca26ce124b1358d", func := "loop.example/g00892/laws.FnExactMostProgress", spec := "fnExactMostProgress", unfollowed := true, recurses := true, apart := false, narrowed := true }
def FnExactMostProgressUptoSaid : Prop := fnExactMostProgressUptoRow.holds Try.pinned (OpenSpec.upto fnExactMostProgressSpec)

/-- 'laws.FnExactIsIdempotentGraph', WHERE WHAT IT READS IS OF BULK AT MOST 1048576: true; the input reads as it did. -/
def fnExactIsIdempotentGraphUptoRow : OpenClaim := { program := "ytfggcaohidajkaa", sum := "c30e2c6a6748453316a78d0df77864def7f02e03b260fc5beca26ce124b1358d", func := "loop.example/g00892/laws.FnExactIsIdempotentGraph", spec := "fnExactIsIdempotentGraph", inPlace := ["slices.overlaps[loop.example/g00892/impl.SizeEdge]"], unfollowed := true, recurses := true, apart := false, narrowed := true }
def FnExactIsIdempotentGraphUptoSaid : Prop := fnExactIsIdempotentGraphUptoRow.holds Try.pinned (OpenSpec.upto fnExactIsIdempotentGraphSpec)

/-- 'laws.FnExactComposeGraphs', WHERE WHAT IT READS IS OF BULK AT MOST 1048576: true; the input reads as it did. -/
def fnExactComposeGraphsUptoRow : OpenClaim := { program := "ytfggcaohidajkaa", sum := "c30e2c6a6748453316a78d0df77864def7f02e03b260fc5beca26ce124b1358d", func := "loop.example/g00892/laws.FnExactComposeGraphs", spec := "fnExactComposeGraphs", inPlace := ["slices.overlaps[loop.example/g00892/impl.SizeEdge]"], unfollowed := true, recurses := true, apart := false, narrowed := true }
def FnExactComposeGraphsUptoSaid : Prop := fnExactComposeGraphsUptoRow.holds Try.pinned (OpenSpec.upto fnExactComposeGraphsSpec)

/-- 'laws.FnExactRepeatPath', WHERE WHAT IT READS IS OF BULK AT MOST 1048576: true; the input reads as it did. -/
def fnExactRepeatPathUptoRow : OpenClaim := { program := "ytfggcaohidajkaa", sum := "c30e2c6a6748453316a78d0df77864def7f02e03b260fc5beca26ce124b1358d", func := "loop.example/g00892/laws.FnExactRepeatPath", spec := "fnExactRepeatPath", unfollowed := true, recurses := true, apart := false, narrowed := true }
def FnExactRepeatPathUptoSaid : Prop := fnExactRepeatPathUptoRow.holds Try.pinned (OpenSpec.upto fnExactRepeatPathSpec)

end Rows
end Go.Proofs.Ytfggcaohidajkaa
