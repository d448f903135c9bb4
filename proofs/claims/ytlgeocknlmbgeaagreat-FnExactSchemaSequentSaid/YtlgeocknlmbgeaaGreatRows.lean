/-
  NARROWER THAN 'FOR EVERY INPUT', by the rows' own cells (each row's printed sentence says how): FnExactIsValidSchema: loops · FnExactSchemaSequent: loops · FnExactReplaceInDerivation: loops.
  DERIVED. THE GIVEN ROWS OF THIS SEAT. 3 by the template 'for every input the law returns true; each argument reads behind the call as it read before'; 0 by the template 'total and deterministic' (their statements: YtlgeocknlmbgeaaGreatTotals.lean).
  GIVEN WITH THE SEED: the statements are not yours to turn. If you find one false, say at which input.
  Laid BY PROGRAM, IN A SANDBOX (cutbox-rows.mjs): the forced cells as the released guide's own fill.sh prints them over the translation 29093601a6f47990… (all of the seat's roots in one cut). By AI agents, Wed Nov 11 2026. No macro, syntax, notation, axiom, sorry.
-/
import Derived.Test.YtlgeocknlmbgeaaGreatChecked
import GoSem.Claim
import GoSem.ClaimJoined
import GoSem.ClaimMapViews
import Derived.JoinedTies
import Derived.KernelRfl
namespace Go.Proofs.YtlgeocknlmbgeaaGreat
/- THE CELL 'sum', in the pinned program and in every row, IS THE sha256 OF THE DUMP (.gsa) THAT YtlgeocknlmbgeaaGreatProg.lean LOADS. Nothing in Lean hashes anything: it is a label: what it is worth is what the hold of that sum in a sandbox is worth. -/
noncomputable def Tryz.pinned : Pinned := { name := "ytlgeocknlmbgeaagreat", sum := "29093601a6f4799064b4cb1f278c9530f52878e129cda6068168df6123ab5987", checked := Tryz.checked }
namespace Rows
def none {H : Type} : Left H := { results := [], args := [] }

/-- 'laws.FnExactIsValidSchema': WHATEVER THE INPUT: true; the input reads as it did. -/
def fnExactIsValidSchemaSpec : ChangeSpec := { name := "fnExactIsValidSchema", fn := fun _ => fun
  | [d] => { results := [.lit (.bool true)], args := [d] }
  | _ => none }
def fnExactIsValidSchemaRow : OpenClaim := { program := "ytlgeocknlmbgeaagreat", sum := "29093601a6f4799064b4cb1f278c9530f52878e129cda6068168df6123ab5987", func := "loop.example/g00892/laws.FnExactIsValidSchema", spec := "fnExactIsValidSchema", unfollowed := true, recurses := true, loops := true, apart := false }
def FnExactIsValidSchemaSaid : Prop := fnExactIsValidSchemaRow.holds Tryz.pinned (OpenSpec.ofChange fnExactIsValidSchemaSpec)

/-- ITS FALSE NEIGHBOUR: 'it returns false'. Refute it at one input. -/
def fnExactIsValidSchemaWrong : ChangeSpec := { name := "fnExactIsValidSchema", fn := fun _ => fun
  | [d] => { results := [.lit (.bool false)], args := [d] }
  | _ => none }
def FnExactIsValidSchemaWrongFalsely : Prop := fnExactIsValidSchemaRow.holds Tryz.pinned (OpenSpec.ofChange fnExactIsValidSchemaWrong)

/-- 'laws.FnExactSchemaSequent': WHATEVER THE INPUT: true; the input reads as it did. -/
def fnExactSchemaSequentSpec : ChangeSpec := { name := "fnExactSchemaSequent", fn := fun _ => fun
  | [d] => { results := [.lit (.bool true)], args := [d] }
  | _ => none }
def fnExactSchemaSequentRow : OpenClaim := { program := "ytlgeocknlmbgeaagreat", sum := "29093601a6f4799064b4cb1f278c9530f52878e129cda6068168df6123ab5987", func := "loop.example/g00892/laws.FnExactSchemaSequent", spec := "fnExactSchemaSequent", unfollowed := true, recurses := true, loops := true, apart := false }
def FnExactSchemaSequentSaid : Prop := fnExactSchemaSequentRow.holds Tryz.pinned (OpenSpec.ofChange fnExactSchemaSequentSpec)

/-- ITS FALSE NEIGHBOUR: 'it returns false'. Refute it at one input. -/
def fnExactSchemaSequentWrong : ChangeSpec := { name := "fnExactSchemaSequent", fn := fun _ => fun
  | [d] => { results := [.lit (.bool false)], args := [d] }
  | _ => none }
def FnExactSchemaSequentWrongFalsely : Prop := fnExactSchemaSequentRow.holds Tryz.pinned (OpenSpec.ofChange fnExactSchemaSequentWrong)

/-- 'laws.FnExactReplaceInDerivation': WHATEVER THE INPUT: true; the input reads as it did. -/
def fnExactReplaceInDerivationSpec : ChangeSpec := { name := "fnExactReplaceInDerivation", fn := fun _ => fun
  | [d1, d2, d3] => { results := [.lit (.bool true)], args := [d1, d2, d3] }
  | _ => none }
def fnExactReplaceInDerivationRow : OpenClaim := { program := "ytlgeocknlmbgeaagreat", sum := "29093601a6f4799064b4cb1f278c9530f52878e129cda6068168df6123ab5987", func := "loop.example/g00892/laws.FnExactReplaceInDerivation", spec := "fnExactReplaceInDerivation", unfollowed := true, recurses := true, loops := true, apart := false }
def FnExactReplaceInDerivationSaid : Prop := fnExactReplaceInDerivationRow.holds Tryz.pinned (OpenSpec.ofChange fnExactReplaceInDerivationSpec)

/-- ITS FALSE NEIGHBOUR: 'it returns false'. Refute it at one input. -/
def fnExactReplaceInDerivationWrong : ChangeSpec := { name := "fnExactReplaceInDerivation", fn := fun _ => fun
  | [d1, d2, d3] => { results := [.lit (.bool false)], args := [d1, d2, d3] }
  | _ => none }
def FnExactReplaceInDerivationWrongFalsely : Prop := fnExactReplaceInDerivationRow.holds Tryz.pinned (OpenSpec.ofChange fnExactReplaceInDerivationWrong)

/- THE SECOND FORM. 'bulk': how many values and letters a reading holds, each counted each time it is reached (what is shared counts as often as it is met; a slice's spare places count too). A statement '..UptoSaid' is the law's where the arguments, and the package variables that the reading takes, are together of bulk at most 1048576: NARROWER than '..Said'. Prove '..Said' where nothing that the law and all that it calls make is longer than what came in: it says more and counts as full. Else prove '..UptoSaid'. A law counts once. -/
mutual
def uptoBulk {H : Type} : DataW H → Nat
  | .lit (.string bytes) => bytes.length + 1
  | .lit _ => 1
  | .nil => 1
  | .ptr d => uptoBulk d + 1
  | .slice elems spare => uptoBulkAll elems + uptoBulkAll spare + 1
  | .agg parts => uptoBulkAll parts + 1
  | .iface _ d => uptoBulk d + 1
  | .map entries => uptoBulkEntries entries + 1
  | .held _ => 1
def uptoBulkAll {H : Type} : List (DataW H) → Nat
  | [] => 0
  | d :: r => uptoBulk d + uptoBulkAll r
def uptoBulkEntries {H : Type} : List (Lit × DataW H) → Nat
  | [] => 0
  | x :: r => uptoBulkEntry x + uptoBulkEntries r
def uptoBulkEntry {H : Type} : Lit × DataW H → Nat
  | (.string bytes, d) => bytes.length + uptoBulk d + 1
  | (_, d) => uptoBulk d + 1
 end
def uptoSmall : (H : Type) → List (DataW H) → Bool := fun _ ds => decide (uptoBulkAll ds ≤ 1048576)
def OpenSpec.upto (s : _root_.Go.ChangeSpec) : _root_.Go.OpenSpec := { _root_.Go.OpenSpec.ofChange s with cond := some uptoSmall }

/-- 'laws.FnExactIsValidSchema', WHERE WHAT IT READS IS OF BULK AT MOST 1048576: true; the input reads as it did. -/
def fnExactIsValidSchemaUptoRow : OpenClaim := { program := "ytlgeocknlmbgeaagreat", sum := "29093601a6f4799064b4cb1f278c9530f52878e129cda6068168df6123ab5987", func := "loop.example/g00892/laws.FnExactIsValidSchema", spec := "fnExactIsValidSchema", unfollowed := true, recurses := true, loops := true, apart := false, narrowed := true }
def FnExactIsValidSchemaUptoSaid : Prop := fnExactIsValidSchemaUptoRow.holds Tryz.pinned (OpenSpec.upto fnExactIsValidSchemaSpec)

/-- 'laws.FnExactSchemaSequent', WHERE WHAT IT READS IS OF BULK AT MOST 1048576: true; the input reads as it did. -/
def fnExactSchemaSequentUptoRow : OpenClaim := { program := "ytlgeocknlmbgeaagreat", sum := "29093601a6f4799064b4cb1f278c9530f52878e129cda6068168df6123ab5987", func := "loop.example/g00892/laws.FnExactSchemaSequent", spec := "fnExactSchemaSequent", unfollowed := true, recurses := true, loops := true, apart := false, narrowed := true }
def FnExactSchemaSequentUptoSaid : Prop := fnExactSchemaSequentUptoRow.holds Tryz.pinned (OpenSpec.upto fnExactSchemaSequentSpec)

/-- 'laws.FnExactReplaceInDerivation', WHERE WHAT IT READS IS OF BULK AT MOST 1048576: true; the input reads as it did. -/
def fnExactReplaceInDerivationUptoRow : OpenClaim := { program := "ytlgeocknlmbgeaagreat", sum := "29093601a6f4799064b4cb1f278c9530f52878e129cda6068168df6123ab5987", func := "loop.example/g00892/laws.FnExactReplaceInDerivation", spec := "fnExactReplaceInDerivation", unfollowed := true, recurses := true, loops := true, apart := false, narrowed := true }
def FnExactReplaceInDerivationUptoSaid : Prop := fnExactReplaceInDerivationUptoRow.holds Tryz.pinned (OpenSpec.upto fnExactReplaceInDerivationSpec)

end Rows
end Go.Proofs.YtlgeocknlmbgeaaGreat
