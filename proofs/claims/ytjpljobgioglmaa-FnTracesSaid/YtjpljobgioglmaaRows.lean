/-
  No cell of these rows narrows 'for every input' (looked for: loops, veiled, ifaces, maps, wideKeys, modest, calm, conditions, laid).
  DERIVED. THE GIVEN ROWS OF THIS SEAT. 4 by the template 'for every input the law returns true; each argument reads behind the call as it read before'; 0 by the template 'total and deterministic' (their statements: YtjpljobgioglmaaTotals.lean).
  GIVEN WITH THE SEED: the statements are not yours to turn. If you find one false, say at which input.
  Laid BY PROGRAM, IN A SANDBOX (cutbox-rows.mjs): the forced cells as the released guide's own fill.sh prints them over the translation e59a9471f450db2d… (all of the seat's roots in one cut). By AI agents, Wed Nov 11 2026. No macro, syntax, notation, axiom, sorry.
-/
import Derived.Test.YtjpljobgioglmaaChecked
import GoSem.Claim
import GoSem.ClaimJoined
import GoSem.ClaimMapViews
import Derived.JoinedTies
import Derived.KernelRfl
namespace Go.Proofs.Ytjpljobgioglmaa
/- THE CELL 'sum', in the pinned program and in every row, IS THE sha256 OF THE DUMP (.gsa) THAT YtjpljobgioglmaaProg.lean LOADS. Nothing in Lean hashes anything: it is a label: what it is worth is what the hold of that sum in a sandbox is worth. -/
noncomputable def Try.pinned : Pinned := { name := "ytjpljobgioglmaa", sum := "e59a9471f450db2d9b6f3a843db76edae3265994cdbc4cb284bc52409dc365d4", checked := Try.checked }
namespace Rows
def none {H : Type} : Left H := { results := [], args := [] }

/-- 'laws.FnGraphs': WHATEVER THE INPUT: true; the input reads as it did. -/
def fnGraphsSpec : ChangeSpec := { name := "fnGraphs", fn := fun _ => fun
  | [d] => { results := [.lit (.bool true)], args := [d] }
  | _ => none }
def fnGraphsRow : OpenClaim := { program := "ytjpljobgioglmaa", sum := "e59a9471f450db2d9b6f3a843db76edae3265994cdbc4cb284bc52409dc365d4", func := "loop.example/g00892/laws.FnGraphs", spec := "fnGraphs", inPlace := ["slices.overlaps[loop.example/g00892/impl.SizeEdge]"], unfollowed := true, recurses := true, apart := false }
def FnGraphsSaid : Prop := fnGraphsRow.holds Try.pinned (OpenSpec.ofChange fnGraphsSpec)

/-- ITS FALSE NEIGHBOUR: 'it returns false'. Refute it at one input. -/
def fnGraphsWrong : ChangeSpec := { name := "fnGraphs", fn := fun _ => fun
  | [d] => { results := [.lit (.bool false)], args := [d] }
  | _ => none }
def FnGraphsWrongFalsely : Prop := fnGraphsRow.holds Try.pinned (OpenSpec.ofChange fnGraphsWrong)

/-- 'laws.FnExactTraceDefect': WHATEVER THE INPUT: true; the input reads as it did. -/
def fnExactTraceDefectSpec : ChangeSpec := { name := "fnExactTraceDefect", fn := fun _ => fun
  | [d] => { results := [.lit (.bool true)], args := [d] }
  | _ => none }
def fnExactTraceDefectRow : OpenClaim := { program := "ytjpljobgioglmaa", sum := "e59a9471f450db2d9b6f3a843db76edae3265994cdbc4cb284bc52409dc365d4", func := "loop.example/g00892/laws.FnExactTraceDefect", spec := "fnExactTraceDefect", inPlace := ["slices.overlaps[loop.example/g00892/impl.SizeEdge]"], unfollowed := true, recurses := true, apart := false }
def FnExactTraceDefectSaid : Prop := fnExactTraceDefectRow.holds Try.pinned (OpenSpec.ofChange fnExactTraceDefectSpec)

/-- ITS FALSE NEIGHBOUR: 'it returns false'. Refute it at one input. -/
def fnExactTraceDefectWrong : ChangeSpec := { name := "fnExactTraceDefect", fn := fun _ => fun
  | [d] => { results := [.lit (.bool false)], args := [d] }
  | _ => none }
def FnExactTraceDefectWrongFalsely : Prop := fnExactTraceDefectRow.holds Try.pinned (OpenSpec.ofChange fnExactTraceDefectWrong)

/-- 'laws.FnExactGraphClosure': WHATEVER THE INPUT: true; the input reads as it did. -/
def fnExactGraphClosureSpec : ChangeSpec := { name := "fnExactGraphClosure", fn := fun _ => fun
  | [d] => { results := [.lit (.bool true)], args := [d] }
  | _ => none }
def fnExactGraphClosureRow : OpenClaim := { program := "ytjpljobgioglmaa", sum := "e59a9471f450db2d9b6f3a843db76edae3265994cdbc4cb284bc52409dc365d4", func := "loop.example/g00892/laws.FnExactGraphClosure", spec := "fnExactGraphClosure", inPlace := ["slices.overlaps[loop.example/g00892/impl.SizeEdge]"], unfollowed := true, recurses := true, apart := false }
def FnExactGraphClosureSaid : Prop := fnExactGraphClosureRow.holds Try.pinned (OpenSpec.ofChange fnExactGraphClosureSpec)

/-- ITS FALSE NEIGHBOUR: 'it returns false'. Refute it at one input. -/
def fnExactGraphClosureWrong : ChangeSpec := { name := "fnExactGraphClosure", fn := fun _ => fun
  | [d] => { results := [.lit (.bool false)], args := [d] }
  | _ => none }
def FnExactGraphClosureWrongFalsely : Prop := fnExactGraphClosureRow.holds Try.pinned (OpenSpec.ofChange fnExactGraphClosureWrong)

/-- 'laws.FnTraces': WHATEVER THE INPUT: true; the input reads as it did. -/
def fnTracesSpec : ChangeSpec := { name := "fnTraces", fn := fun _ => fun
  | [d] => { results := [.lit (.bool true)], args := [d] }
  | _ => none }
def fnTracesRow : OpenClaim := { program := "ytjpljobgioglmaa", sum := "e59a9471f450db2d9b6f3a843db76edae3265994cdbc4cb284bc52409dc365d4", func := "loop.example/g00892/laws.FnTraces", spec := "fnTraces", inPlace := ["slices.overlaps[loop.example/g00892/impl.SizeEdge]"], unfollowed := true, recurses := true, apart := false }
def FnTracesSaid : Prop := fnTracesRow.holds Try.pinned (OpenSpec.ofChange fnTracesSpec)

/-- ITS FALSE NEIGHBOUR: 'it returns false'. Refute it at one input. -/
def fnTracesWrong : ChangeSpec := { name := "fnTraces", fn := fun _ => fun
  | [d] => { results := [.lit (.bool false)], args := [d] }
  | _ => none }
def FnTracesWrongFalsely : Prop := fnTracesRow.holds Try.pinned (OpenSpec.ofChange fnTracesWrong)

/- THE SECOND FORM. 'bulk': how many values and letters a reading holds, each counted each time it is reached (what is shared counts as often as it is met; a slice's spare places count too). A statement '..UptoSaid' is the law's where the arguments, and the package variables that the reading takes, are together of bulk at most 1048576: NARROWER than '..Said'. Prove '..Said' where nothing that the law and all that it calls make is longer than what came in: it says more and counts as full. Else prove '..UptoSaid'. A law counts once. -/
mutual
def uptoBulk {H : Type} : DataW H → Nat
  | .lit (.string bytes) => bytes.length + 1
  | .lit _ => 1
  | .nil => 1
  | .ptr d => uptoBulk d + 1
  | .slice elems spare => uptoBulkAll elems + uptoBulkAll spare + 1
  | .agg parts => uptoBulkAll parts + 1
  | .iface _ d => uptoBulk d + 1
  | .map entries => uptoBulkEntries entries + 1
  | .held _ => 1
def uptoBulkAll {H : Type} : List (DataW H) → Nat
  | [] => 0
  | d :: r => uptoBulk d + uptoBulkAll r
def uptoBulkEntries {H : Type} : List (Lit × DataW H) → Nat
  | [] => 0
  | x :: r => uptoBulkEntry x + uptoBulkEntries r
def uptoBulkEntry {H : Type} : Lit × DataW H → Nat
  | (.string bytes, d) => bytes.length + uptoBulk d + 1
  | (_, d) => uptoBulk d + 1
 end
def uptoSmall : (H : Type) → List (DataW H) → Bool := fun _ ds => decide (uptoBulkAll ds ≤ 1048576)
def OpenSpec.upto (s : _root_.Go.ChangeSpec) : _root_.Go.OpenSpec := { _root_.Go.OpenSpec.ofChange s with cond := some uptoSmall }

/-- 'laws.FnGraphs', WHERE WHAT IT READS IS OF BULK AT MOST 1048576: true; the input reads as it did. -/
def fnGraphsUptoRow : OpenClaim := { program := "ytjpljobgioglmaa", sum := "e59a9471f450db2d9b6f3a843db76edae3265994cdbc4cb284bc52409dc365d4", func := "loop.example/g00892/laws.FnGraphs", spec := "fnGraphs", inPlace := ["slices.overlaps[loop.example/g00892/impl.SizeEdge]"], unfollowed := true, recurses := true, apart := false, narrowed := true }
def FnGraphsUptoSaid : Prop := fnGraphsUptoRow.holds Try.pinned (OpenSpec.upto fnGraphsSpec)

/-- 'laws.FnExactTraceDefect', WHERE WHAT IT READS IS OF BULK AT MOST 1048576: true; the input reads as it did. -/
def fnExactTraceDefectUptoRow : OpenClaim := { program := "ytjpljobgioglmaa", sum := "e59a9471f450db2d9b6f3a843db76edae3265994cdbc4cb284bc52409dc365d4", func := "loop.example/g00892/laws.FnExactTraceDefect", spec := "fnExactTraceDefect", inPlace := ["slices.overlaps[loop.example/g00892/impl.SizeEdge]"], unfollowed := true, recurses := true, apart := false, narrowed := true }
def FnExactTraceDefectUptoSaid : Prop := fnExactTraceDefectUptoRow.holds Try.pinned (OpenSpec.upto fnExactTraceDefectSpec)

/-- 'laws.FnExactGraphClosure', WHERE WHAT IT READS IS OF BULK AT MOST 1048576: true; the input reads as it did. -/
def fnExactGraphClosureUptoRow : OpenClaim := { program := "ytjpljobgioglmaa", sum := "e59a9471f450db2d9b6f3a843db76edae3265994cdbc4cb284bc52409dc365d4", func := "loop.example/g00892/laws.FnExactGraphClosure", spec := "fnExactGraphClosure", inPlace := ["slices.overlaps[loop.example/g00892/impl.SizeEdge]"], unfollowed := true, recurses := true, apart := false, narrowed := true }
def FnExactGraphClosureUptoSaid : Prop := fnExactGraphClosureUptoRow.holds Try.pinned (OpenSpec.upto fnExactGraphClosureSpec)

/-- 'laws.FnTraces', WHERE WHAT IT READS IS OF BULK AT MOST 1048576: true; the input reads as it did. -/
def fnTracesUptoRow : OpenClaim := { program := "ytjpljobgioglmaa", sum := "e59a9471f450db2d9b6f3a843db76edae3265994cdbc4cb284bc52409dc365d4", func := "loop.example/g00892/laws.FnTraces", spec := "fnTraces", inPlace := ["slices.overlaps[loop.example/g00892/impl.SizeEdge]"], unfollowed := true, recurses := true, apart := false, narrowed := true }
def FnTracesUptoSaid : Prop := fnTracesUptoRow.holds Try.pinned (OpenSpec.upto fnTracesSpec)

end Rows
end Go.Proofs.Ytjpljobgioglmaa
