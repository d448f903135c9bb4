/-
  NARROWER THAN 'FOR EVERY INPUT', by the rows' own cells (each row's printed sentence says how): FnExactIsInductionAxiom: loops · FnExactInductionAxiom: loops · FnExactLemmaOf: loops · FnExactLemmaInstances: loops.
  DERIVED. THE GIVEN ROWS OF THIS SEAT. 4 by the template 'for every input the law returns true; each argument reads behind the call as it read before'; 0 by the template 'total and deterministic' (their statements: YtgkgihdafalimaaGreatTotals.lean).
  GIVEN WITH THE SEED: the statements are not yours to turn. If you find one false, say at which input.
  Laid BY PROGRAM, IN A SANDBOX (cutbox-rows.mjs): the forced cells as the released guide's own fill.sh prints them over the translation 72258d8001a70d87… (all of the seat's roots in one cut). By AI agents, Wed Nov 11 2026. No macro, syntax, notation, axiom, sorry.
-/
import Derived.Test.YtgkgihdafalimaaGreatChecked
import GoSem.Claim
import GoSem.ClaimJoined
import GoSem.ClaimMapViews
import Derived.JoinedTies
import Derived.KernelRfl
namespace Go.Proofs.YtgkgihdafalimaaGreat
/- THE CELL 'sum', in the pinned program and in every row, IS THE sha256 OF THE DUMP (.gsa) THAT YtgkgihdafalimaaGreatProg.lean LOADS. Nothing in Lean hashes anything: it is a label: what it is worth is what the hold of that sum in a sandbox is worth. -/
noncomputable def Tryz.pinned : Pinned := { name := "ytgkgihdafalimaagreat", sum := "72258d8001a70d877f5e5aa7efb58fd010e54e8ca98646901e76ddf66ccdafa7", checked := Tryz.checked }
namespace Rows
def none {H : Type} : Left H := { results := [], args := [] }

/-- 'laws.FnExactIsInductionAxiom': WHATEVER THE INPUT: true; the input reads as it did. -/
def fnExactIsInductionAxiomSpec : ChangeSpec := { name := "fnExactIsInductionAxiom", fn := fun _ => fun
  | [d] => { results := [.lit (.bool true)], args := [d] }
  | _ => none }
def fnExactIsInductionAxiomRow : OpenClaim := { program := "ytgkgihdafalimaagreat", sum := "72258d8001a70d877f5e5aa7efb58fd010e54e8ca98646901e76ddf66ccdafa7", func := "loop.example/g00892/laws.FnExactIsInductionAxiom", spec := "fnExactIsInductionAxiom", unfollowed := true, recurses := true, loops := true, apart := false }
def FnExactIsInductionAxiomSaid : Prop := fnExactIsInductionAxiomRow.holds Tryz.pinned (OpenSpec.ofChange fnExactIsInductionAxiomSpec)

/-- ITS FALSE NEIGHBOUR: 'it returns false'. Refute it at one input. -/
def fnExactIsInductionAxiomWrong : ChangeSpec := { name := "fnExactIsInductionAxiom", fn := fun _ => fun
  | [d] => { results := [.lit (.bool false)], args := [d] }
  | _ => none }
def FnExactIsInductionAxiomWrongFalsely : Prop := fnExactIsInductionAxiomRow.holds Tryz.pinned (OpenSpec.ofChange fnExactIsInductionAxiomWrong)

/-- 'laws.FnExactInductionAxiom': WHATEVER THE INPUT: true; the input reads as it did. -/
def fnExactInductionAxiomSpec : ChangeSpec := { name := "fnExactInductionAxiom", fn := fun _ => fun
  | [d1, d2] => { results := [.lit (.bool true)], args := [d1, d2] }
  | _ => none }
def fnExactInductionAxiomRow : OpenClaim := { program := "ytgkgihdafalimaagreat", sum := "72258d8001a70d877f5e5aa7efb58fd010e54e8ca98646901e76ddf66ccdafa7", func := "loop.example/g00892/laws.FnExactInductionAxiom", spec := "fnExactInductionAxiom", unfollowed := true, recurses := true, loops := true, apart := false }
def FnExactInductionAxiomSaid : Prop := fnExactInductionAxiomRow.holds Tryz.pinned (OpenSpec.ofChange fnExactInductionAxiomSpec)

/-- ITS FALSE NEIGHBOUR: 'it returns false'. Refute it at one input. -/
def fnExactInductionAxiomWrong : ChangeSpec := { name := "fnExactInductionAxiom", fn := fun _ => fun
  | [d1, d2] => { results := [.lit (.bool false)], args := [d1, d2] }
  | _ => none }
def FnExactInductionAxiomWrongFalsely : Prop := fnExactInductionAxiomRow.holds Tryz.pinned (OpenSpec.ofChange fnExactInductionAxiomWrong)

/-- 'laws.FnExactLemmaOf': WHATEVER THE INPUT: true; the input reads as it did. -/
def fnExactLemmaOfSpec : ChangeSpec := { name := "fnExactLemmaOf", fn := fun _ => fun
  | [d1, d2] => { results := [.lit (.bool true)], args := [d1, d2] }
  | _ => none }
def fnExactLemmaOfRow : OpenClaim := { program := "ytgkgihdafalimaagreat", sum := "72258d8001a70d877f5e5aa7efb58fd010e54e8ca98646901e76ddf66ccdafa7", func := "loop.example/g00892/laws.FnExactLemmaOf", spec := "fnExactLemmaOf", unfollowed := true, recurses := true, loops := true, apart := false }
def FnExactLemmaOfSaid : Prop := fnExactLemmaOfRow.holds Tryz.pinned (OpenSpec.ofChange fnExactLemmaOfSpec)

/-- ITS FALSE NEIGHBOUR: 'it returns false'. Refute it at one input. -/
def fnExactLemmaOfWrong : ChangeSpec := { name := "fnExactLemmaOf", fn := fun _ => fun
  | [d1, d2] => { results := [.lit (.bool false)], args := [d1, d2] }
  | _ => none }
def FnExactLemmaOfWrongFalsely : Prop := fnExactLemmaOfRow.holds Tryz.pinned (OpenSpec.ofChange fnExactLemmaOfWrong)

/-- 'laws.FnExactLemmaInstances': WHATEVER THE INPUT: true; the input reads as it did. -/
def fnExactLemmaInstancesSpec : ChangeSpec := { name := "fnExactLemmaInstances", fn := fun _ => fun
  | [d1, d2] => { results := [.lit (.bool true)], args := [d1, d2] }
  | _ => none }
def fnExactLemmaInstancesRow : OpenClaim := { program := "ytgkgihdafalimaagreat", sum := "72258d8001a70d877f5e5aa7efb58fd010e54e8ca98646901e76ddf66ccdafa7", func := "loop.example/g00892/laws.FnExactLemmaInstances", spec := "fnExactLemmaInstances", unfollowed := true, recurses := true, loops := true, apart := false }
def FnExactLemmaInstancesSaid : Prop := fnExactLemmaInstancesRow.holds Tryz.pinned (OpenSpec.ofChange fnExactLemmaInstancesSpec)

/-- ITS FALSE NEIGHBOUR: 'it returns false'. Refute it at one input. -/
def fnExactLemmaInstancesWrong : ChangeSpec := { name := "fnExactLemmaInstances", fn := fun _ => fun
  | [d1, d2] => { results := [.lit (.bool false)], args := [d1, d2] }
  | _ => none }
def FnExactLemmaInstancesWrongFalsely : Prop := fnExactLemmaInstancesRow.holds Tryz.pinned (OpenSpec.ofChange fnExactLemmaInstancesWrong)

/- THE SECOND FORM. 'bulk': how many values and letters a reading holds, each counted each time it is reached (what is shared counts as often as it is met; a slice's spare places count too). A statement '..UptoSaid' is the law's where the arguments, and the package variables that the reading takes, are together of bulk at most 1048576: NARROWER than '..Said'. Prove '..Said' where nothing that the law and all that it calls make is longer than what came in: it says more and counts as full. Else prove '..UptoSaid'. A law counts once. -/
mutual
def uptoBulk {H : Type} : DataW H → Nat
  | .lit (.string bytes) => bytes.length + 1
  | .lit _ => 1
  | .nil => 1
  | .ptr d => uptoBulk d + 1
  | .slice elems spare => uptoBulkAll elems + uptoBulkAll spare + 1
  | .agg parts => uptoBulkAll parts + 1
  | .iface _ d => uptoBulk d + 1
  | .map entries => uptoBulkEntries entries + 1
  | .held _ => 1
def uptoBulkAll {H : Type} : List (DataW H) → Nat
  | [] => 0
  | d :: r => uptoBulk d + uptoBulkAll r
def uptoBulkEntries {H : Type} : List (Lit × DataW H) → Nat
  | [] => 0
  | x :: r => uptoBulkEntry x + uptoBulkEntries r
def uptoBulkEntry {H : Type} : Lit × DataW H → Nat
  | (.string bytes, d) => bytes.length + uptoBulk d + 1
  | (_, d) => uptoBulk d + 1
 end
def uptoSmall : (H : Type) → List (DataW H) → Bool := fun _ ds => decide (uptoBulkAll ds ≤ 1048576)
def OpenSpec.upto (s : _root_.Go.ChangeSpec) : _root_.Go.OpenSpec := { _root_.Go.OpenSpec.ofChange s with cond := some uptoSmall }

/-- 'laws.FnExactIsInductionAxiom', WHERE WHAT IT READS IS OF BULK AT MOST 1048576: true; the input reads as it did. -/
def fnExactIsInductionAxiomUptoRow : OpenClaim := { program := "ytgkgihdafalimaagreat", sum := "72258d8001a70d877f5e5aa7efb58fd010e54e8ca98646901e76ddf66ccdafa7", func := "loop.example/g00892/laws.FnExactIsInductionAxiom", spec := "fnExactIsInductionAxiom", unfollowed := true, recurses := true, loops := true, apart := false, narrowed := true }
def FnExactIsInductionAxiomUptoSaid : Prop := fnExactIsInductionAxiomUptoRow.holds Tryz.pinned (OpenSpec.upto fnExactIsInductionAxiomSpec)

/-- 'laws.FnExactInductionAxiom', WHERE WHAT IT READS IS OF BULK AT MOST 1048576: true; the input reads as it did. -/
def fnExactInductionAxiomUptoRow : OpenClaim := { program := "ytgkgihdafalimaagreat", sum := "72258d8001a70d877f5e5aa7efb58fd010e54e8ca98646901e76ddf66ccdafa7", func := "loop.example/g00892/laws.FnExactInductionAxiom", spec := "fnExactInductionAxiom", unfollowed := true, recurses := true, loops := true, apart := false, narrowed := true }
def FnExactInductionAxiomUptoSaid : Prop := fnExactInductionAxiomUptoRow.holds Tryz.pinned (OpenSpec.upto fnExactInductionAxiomSpec)

/-- 'laws.FnExactLemmaOf', WHERE WHAT IT READS IS OF BULK AT MOST 1048576: true; the input reads as it did. -/
def fnExactLemmaOfUptoRow : OpenClaim := { program := "ytgkgihdafalimaagreat", sum := "72258d8001a70d877f5e5aa7efb58fd010e54e8ca98646901e76ddf66ccdafa7", func := "loop.example/g00892/laws.FnExactLemmaOf", spec := "fnExactLemmaOf", unfollowed := true, recurses := true, loops := true, apart := false, narrowed := true }
def FnExactLemmaOfUptoSaid : Prop := fnExactLemmaOfUptoRow.holds Tryz.pinned (OpenSpec.upto fnExactLemmaOfSpec)

/-- 'laws.FnExactLemmaInstances', WHERE WHAT IT READS IS OF BULK AT MOST 1048576: true; the input reads as it did. -/
def fnExactLemmaInstancesUptoRow : OpenClaim := { program := "ytgkgihdafalimaagreat", sum := "72258d8001a70d877f5e5aa7efb58fd010e54e8ca98646901e76ddf66ccdafa7", func := "loop.example/g00892/laws.FnExactLemmaInstances", spec := "fnExactLemmaInstances", unfollowed := true, recurses := true, loops := true, apart := false, narrowed := true }
def FnExactLemmaInstancesUptoSaid : Prop := fnExactLemmaInstancesUptoRow.holds Tryz.pinned (OpenSpec.upto fnExactLemmaInstancesSpec)

end Rows
end Go.Proofs.YtgkgihdafalimaaGreat
