/-
  NARROWER THAN 'FOR EVERY INPUT', by the rows' own cells (each row's printed sentence says how): FnExactSizeGain: loops · FnExactSmallestDecomposition: loops.
  DERIVED. THE GIVEN ROWS OF THIS SEAT. 3 by the template 'for every input the law returns true; each argument reads behind the call as it read before'; 0 by the template 'total and deterministic' (their statements: YtnjgpibbjiofpaaGreatTotals.lean).
  GIVEN WITH THE SEED: the statements are not yours to turn. If you find one false, say at which input.
  Laid BY PROGRAM, IN A SANDBOX (cutbox-rows.mjs): the forced cells as the released guide's own fill.sh prints them over the translation 482702e02d6ae310… (all of the seat's roots in one cut). By AI agents, Wed Nov 11 2026. No macro, syntax, notation, axiom, sorry.
-/
import Derived.Test.YtnjgpibbjiofpaaGreatChecked
import GoSem.Claim
import GoSem.ClaimJoined
import GoSem.ClaimMapViews
import Derived.JoinedTies
import Derived.KernelRfl
namespace Go.Proofs.YtnjgpibbjiofpaaGreat
/- THE CELL 'sum', in the pinned program and in every row, IS THE sha256 OF THE DUMP (.gsa) THAT YtnjgpibbjiofpaaGreatProg.lean LOADS. Nothing in Lean hashes anything: it is a label: what it is worth is what the hold of that sum in a sandbox is worth. -/
noncomputable def Tryz.pinned : Pinned := { name := "ytnjgpibbjiofpaagreat", sum := "482702e02d6ae310dcdf1227372ef4bda47ef6518b9abf79bb20f2d8e6c50c3f", checked := Tryz.checked }
namespace Rows
def none {H : Type} : Left H := { results := [], args := [] }

/-- 'laws.FnExactSizeGain': WHATEVER THE INPUT: true; the input reads as it did. -/
def fnExactSizeGainSpec : ChangeSpec := { name := "fnExactSizeGain", fn := fun _ => fun
  | [d] => { results := [.lit (.bool true)], args := [d] }
  | _ => none }
def fnExactSizeGainRow : OpenClaim := { program := "ytnjgpibbjiofpaagreat", sum := "482702e02d6ae310dcdf1227372ef4bda47ef6518b9abf79bb20f2d8e6c50c3f", func := "loop.example/g00892/laws.FnExactSizeGain", spec := "fnExactSizeGain", unfollowed := true, recurses := true, loops := true, apart := false }
def FnExactSizeGainSaid : Prop := fnExactSizeGainRow.holds Tryz.pinned (OpenSpec.ofChange fnExactSizeGainSpec)

/-- ITS FALSE NEIGHBOUR: 'it returns false'. Refute it at one input. -/
def fnExactSizeGainWrong : ChangeSpec := { name := "fnExactSizeGain", fn := fun _ => fun
  | [d] => { results := [.lit (.bool false)], args := [d] }
  | _ => none }
def FnExactSizeGainWrongFalsely : Prop := fnExactSizeGainRow.holds Tryz.pinned (OpenSpec.ofChange fnExactSizeGainWrong)

/-- 'laws.FnExactSmallestDecomposition': WHATEVER THE INPUT: true; the input reads as it did. -/
def fnExactSmallestDecompositionSpec : ChangeSpec := { name := "fnExactSmallestDecomposition", fn := fun _ => fun
  | [d] => { results := [.lit (.bool true)], args := [d] }
  | _ => none }
def fnExactSmallestDecompositionRow : OpenClaim := { program := "ytnjgpibbjiofpaagreat", sum := "482702e02d6ae310dcdf1227372ef4bda47ef6518b9abf79bb20f2d8e6c50c3f", func := "loop.example/g00892/laws.FnExactSmallestDecomposition", spec := "fnExactSmallestDecomposition", unfollowed := true, recurses := true, loops := true, apart := false }
def FnExactSmallestDecompositionSaid : Prop := fnExactSmallestDecompositionRow.holds Tryz.pinned (OpenSpec.ofChange fnExactSmallestDecompositionSpec)

/-- ITS FALSE NEIGHBOUR: 'it returns false'. Refute it at one input. -/
def fnExactSmallestDecompositionWrong : ChangeSpec := { name := "fnExactSmallestDecomposition", fn := fun _ => fun
  | [d] => { results := [.lit (.bool false)], args := [d] }
  | _ => none }
def FnExactSmallestDecompositionWrongFalsely : Prop := fnExactSmallestDecompositionRow.holds Tryz.pinned (OpenSpec.ofChange fnExactSmallestDecompositionWrong)

/-- 'laws.FnGrammars': WHATEVER THE INPUT: true; the input reads as it did. -/
def fnGrammarsSpec : ChangeSpec := { name := "fnGrammars", fn := fun _ => fun
  | [d] => { results := [.lit (.bool true)], args := [d] }
  | _ => none }
def fnGrammarsRow : OpenClaim := { program := "ytnjgpibbjiofpaagreat", sum := "482702e02d6ae310dcdf1227372ef4bda47ef6518b9abf79bb20f2d8e6c50c3f", func := "loop.example/g00892/laws.FnGrammars", spec := "fnGrammars", unfollowed := true, recurses := true, apart := false }
def FnGrammarsSaid : Prop := fnGrammarsRow.holds Tryz.pinned (OpenSpec.ofChange fnGrammarsSpec)

/-- ITS FALSE NEIGHBOUR: 'it returns false'. Refute it at one input. -/
def fnGrammarsWrong : ChangeSpec := { name := "fnGrammars", fn := fun _ => fun
  | [d] => { results := [.lit (.bool false)], args := [d] }
  | _ => none }
def FnGrammarsWrongFalsely : Prop := fnGrammarsRow.holds Tryz.pinned (OpenSpec.ofChange fnGrammarsWrong)

/- THE SECOND FORM. 'bulk': how many values and letters a reading holds, each counted each time it is reached (what is shared counts as often as it is met; a slice's spare places count too). A statement '..UptoSaid' is the law's where the arguments, and the package variables that the reading takes, are together of bulk at most 1048576: NARROWER than '..Said'. Prove '..Said' where nothing that the law and all that it calls make is longer than what came in: it says more and counts as full. Else prove '..UptoSaid'. A law counts once. -/
mutual
def uptoBulk {H : Type} : DataW H → Nat
  | .lit (.string bytes) => bytes.length + 1
  | .lit _ => 1
  | .nil => 1
  | .ptr d => uptoBulk d + 1
  | .slice elems spare => uptoBulkAll elems + uptoBulkAll spare + 1
  | .agg parts => uptoBulkAll parts + 1
  | .iface _ d => uptoBulk d + 1
  | .map entries => uptoBulkEntries entries + 1
  | .held _ => 1
def uptoBulkAll {H : Type} : List (DataW H) → Nat
  | [] => 0
  | d :: r => uptoBulk d + uptoBulkAll r
def uptoBulkEntries {H : Type} : List (Lit × DataW H) → Nat
  | [] => 0
  | x :: r => uptoBulkEntry x + uptoBulkEntries r
def uptoBulkEntry {H : Type} : Lit × DataW H → Nat
  | (.string bytes, d) => bytes.length + uptoBulk d + 1
  | (_, d) => uptoBulk d + 1
 end
def uptoSmall : (H : Type) → List (DataW H) → Bool := fun _ ds => decide (uptoBulkAll ds ≤ 1048576)
def OpenSpec.upto (s : _root_.Go.ChangeSpec) : _root_.Go.OpenSpec := { _root_.Go.OpenSpec.ofChange s with cond := some uptoSmall }

/-- 'laws.FnExactSizeGain', WHERE WHAT IT READS IS OF BULK AT MOST 1048576: true; the input reads as it did. -/
def fnExactSizeGainUptoRow : OpenClaim := { program := "ytnjgpibbjiofpaagreat", sum := "482702e02d6ae310dcdf1227372ef4bda47ef6518b9abf79bb20f2d8e6c50c3f", func := "loop.example/g00892/laws.FnExactSizeGain", spec := "fnExactSizeGain", unfollowed := true, recurses := true, loops := true, apart := false, narrowed := true }
def FnExactSizeGainUptoSaid : Prop := fnExactSizeGainUptoRow.holds Tryz.pinned (OpenSpec.upto fnExactSizeGainSpec)

/-- 'laws.FnExactSmallestDecomposition', WHERE WHAT IT READS IS OF BULK AT MOST 1048576: true; the input reads as it did. -/
def fnExactSmallestDecompositionUptoRow : OpenClaim := { program := "ytnjgpibbjiofpaagreat", sum := "482702e02d6ae310dcdf1227372ef4bda47ef6518b9abf79bb20f2d8e6c50c3f", func := "loop.example/g00892/laws.FnExactSmallestDecomposition", spec := "fnExactSmallestDecomposition", unfollowed := true, recurses := true, loops := true, apart := false, narrowed := true }
def FnExactSmallestDecompositionUptoSaid : Prop := fnExactSmallestDecompositionUptoRow.holds Tryz.pinned (OpenSpec.upto fnExactSmallestDecompositionSpec)

/-- 'laws.FnGrammars', WHERE WHAT IT READS IS OF BULK AT MOST 1048576: true; the input reads as it did. -/
def fnGrammarsUptoRow : OpenClaim := { program := "ytnjgpibbjiofpaagreat", sum := "482702e02d6ae310dcdf1227372ef4bda47ef6518b9abf79bb20f2d8e6c50c3f", func := "loop.example/g00892/laws.FnGrammars", spec := "fnGrammars", unfollowed := true, recurses := true, apart := false, narrowed := true }
def FnGrammarsUptoSaid : Prop := fnGrammarsUptoRow.holds Tryz.pinned (OpenSpec.upto fnGrammarsSpec)

end Rows
end Go.Proofs.YtnjgpibbjiofpaaGreat
