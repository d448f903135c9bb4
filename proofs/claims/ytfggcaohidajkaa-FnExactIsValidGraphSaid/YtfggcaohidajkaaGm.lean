/- A part of the proof: lemmas only; nothing is claimed here beyond what each lemma says. -/
import Derived.Test.YtfggcaohidajkaaGty
set_option linter.unusedSimpArgs false
set_option linter.unusedVariables false
set_option linter.defProp false
set_option maxRecDepth 4000
namespace Go.Proofs.Ytfggcaohidajkaa
open Go.Av
noncomputable section
def szSizeEdgeS (a0 : List SizeEdge) (a1 : Int) : Option Int :=
  bif decide ((IntKind.i64.wrap (a1 - (a0.length : Int))) < (0 : Int)) then
    some (-1 : Int)
  else
    some (IntKind.i64.wrap (a1 - (a0.length : Int)))

def szSizeGraph (a0 : SizeGraph) (a1 : Int) : Option Int :=
  Option.bind (szSizeEdgeS a0.Edges a1) fun v8 =>
  bif decide (v8 < (0 : Int)) then
    some (-1 : Int)
  else
    some v8

def toSizeEdge (a0 : SizeEdge) : Option SizeEdge :=
  some a0

def toSizeEdgeS (a0 : List SizeEdge) : Option (List SizeEdge) :=
  Option.bind (mkn (a0.length : Int)) fun n7 =>
  thenL (ρ := (List SizeEdge)) (σ := (List SizeEdge)) (forN (fun (i3 : Nat) (s3 : (List SizeEdge)) =>
    Option.bind (idx a0 (i3 : Int)) fun v18 =>
    Option.bind (toSizeEdge v18) fun v20 =>
    Option.bind (idx s3 (i3 : Int)) fun v21 =>
    Option.bind (idx s3 (i3 : Int)) fun w2 =>
    some (.nx (s3.set (i3 : Int).toNat v20))) a0.length 0 (List.replicate n7 (SizeEdge.mk (0 : Int) (0 : Int) false))) fun s3 =>
  some s3

def toSizeGraph (a0 : SizeGraph) : Option SizeGraph :=
  Option.bind (toSizeEdgeS a0.Edges) fun v12 =>
  some (SizeGraph.mk a0.Source a0.Target v12)

def spec_l1In (a0 : Int) (a1 : Int) (a2 : Int) : Option Bool :=
  bif decide (a1 ≤ a0) then
    some (decide (a0 ≤ a2))
  else
    some false

def spec_l24Graph (a0 : SizeGraph) : Option Bool :=
  Option.bind (spec_l1In a0.Source (0 : Int) (5 : Int)) fun v7 =>
  bif v7 then
    Option.bind (spec_l1In a0.Target (0 : Int) (5 : Int)) fun v12 =>
    bif v12 then
      thenL (ρ := Bool) (σ := Unit) (forN (fun (i4 : Nat) (s4 : Unit) =>
        Option.bind (idx a0.Edges (i4 : Int)) fun v25 =>
        Option.bind (spec_l1In v25.From (0 : Int) (3 : Int)) fun v29 =>
        bif v29 then
          Option.bind (spec_l1In v25.To (0 : Int) (3 : Int)) fun v34 =>
          bif v34 then
            bif decide ((0 : Int) < (i4 : Int)) then
              Option.bind (idx a0.Edges (IntKind.i64.wrap ((i4 : Int) - (1 : Int)))) fun v44 =>
              Option.bind (idx a0.Edges (IntKind.i64.wrap ((i4 : Int) - (1 : Int)))) fun v52 =>
              bif decide ((IntKind.i64.wrap ((IntKind.i64.wrap (v25.From * (4 : Int))) + v25.To)) ≤ (IntKind.i64.wrap ((IntKind.i64.wrap (v44.From * (4 : Int))) + v52.To))) then
                some (.rt false)
              else
                some (.nx ())
            else
              some (.nx ())
          else
            some (.rt false)
        else
          some (.rt false)) a0.Edges.length 0 ()) fun s4 =>
      some true
    else
      some false
  else
    some false

def spec_IsValidGraph (a0 : SizeGraph) : Option Bool :=
  Option.bind (spec_l24Graph a0) fun v4 =>
  some v4

def impl_within (a0 : Int) (a1 : Int) (a2 : Int) : Option Bool :=
  bif decide (a1 ≤ a0) then
    some (decide (a0 ≤ a2))
  else
    some false

def cmp_isNaN_int (a0 : Int) : Option Bool :=
  some (!(decide (a0 = a0)))

def cmp_Compare_int (a0 : Int) (a1 : Int) : Option Int :=
  Option.bind (cmp_isNaN_int a0) fun v8 =>
  Option.bind (cmp_isNaN_int a1) fun v10 =>
  bif v8 then
    bif v10 then
      some (0 : Int)
    else
      some (-1 : Int)
  else
    bif v10 then
      some (1 : Int)
    else
      bif decide (a0 < a1) then
        some (-1 : Int)
      else
        bif decide (a1 < a0) then
          some (1 : Int)
        else
          some (0 : Int)

def cmp_Or_int (a0 : List Int) : Option Int :=
  thenL (ρ := Int) (σ := Unit) (forN (fun (i3 : Nat) (s3 : Unit) =>
    Option.bind (idx a0 (i3 : Int)) fun v10 =>
    bif decide (v10 = (0 : Int)) then
      some (.nx ())
    else
      some (.rt v10)) a0.length 0 ()) fun s3 =>
  some (0 : Int)

def impl_compareEdges (a0 : SizeEdge) (a1 : SizeEdge) : Option Int :=
  Option.bind (cmp_Compare_int a0.From a1.From) fun v9 =>
  Option.bind (cmp_Compare_int a0.To a1.To) fun v14 =>
  Option.bind (cmp_Or_int ([v9, v14])) fun v16 =>
  some v16

def impl_IsValidGraph (a0 : SizeGraph) : Option Bool :=
  thenL (ρ := Bool) (σ := Unit) (forN (fun (i2 : Nat) (s2 : Unit) =>
    Option.bind (idx a0.Edges (i2 : Int)) fun v11 =>
    Option.bind (impl_within v11.From (0 : Int) (3 : Int)) fun v15 =>
    bif v15 then
      Option.bind (impl_within v11.To (0 : Int) (3 : Int)) fun v20 =>
      bif v20 then
        bif decide ((0 : Int) < (i2 : Int)) then
          Option.bind (idx a0.Edges (IntKind.i64.wrap ((i2 : Int) - (1 : Int)))) fun v31 =>
          Option.bind (impl_compareEdges v31 v11) fun v34 =>
          bif decide ((0 : Int) ≤ v34) then
            some (.rt false)
          else
            some (.nx ())
        else
          some (.nx ())
      else
        some (.rt false)
    else
      some (.rt false)) a0.Edges.length 0 ()) fun s2 =>
  Option.bind (impl_within a0.Source (0 : Int) (5 : Int)) fun v41 =>
  bif v41 then
    Option.bind (impl_within a0.Target (0 : Int) (5 : Int)) fun v45 =>
    some v45
  else
    some false

def eqSizeEdge (a0 : SizeEdge) (a1 : SizeEdge) : Option Bool :=
  bif decide (a0.From = a1.From) then
    bif decide (a0.To = a1.To) then
      bif a0.Strict == a1.Strict then
        some true
      else
        some false
    else
      some false
  else
    some false

def eqSizeEdgeS (a0 : List SizeEdge) (a1 : List SizeEdge) : Option Bool :=
  bif decide ((a0.length : Int) = (a1.length : Int)) then
    thenL (ρ := Bool) (σ := Unit) (forN (fun (i4 : Nat) (s4 : Unit) =>
      Option.bind (idx a0 (i4 : Int)) fun v19 =>
      Option.bind (idx a1 (i4 : Int)) fun v23 =>
      Option.bind (eqSizeEdge v19 v23) fun v25 =>
      bif v25 then
        some (.nx ())
      else
        some (.rt false)) a0.length 0 ()) fun s4 =>
    some true
  else
    some false

def eqSizeGraph (a0 : SizeGraph) (a1 : SizeGraph) : Option Bool :=
  bif decide (a0.Source = a1.Source) then
    bif decide (a0.Target = a1.Target) then
      Option.bind (eqSizeEdgeS a0.Edges a1.Edges) fun v19 =>
      bif v19 then
        some true
      else
        some false
    else
      some false
  else
    some false

def FnExactIsValidGraph (a0 : SizeGraph) : Option Bool :=
  Option.bind (szSizeGraph a0 (1048576 : Int)) fun v9 =>
  bif decide (v9 < (0 : Int)) then
    some true
  else
    Option.bind (toSizeGraph a0) fun v13 =>
    Option.bind (spec_IsValidGraph v13) fun v14 =>
    Option.bind (toSizeGraph a0) fun v16 =>
    Option.bind (impl_IsValidGraph v16) fun v18 =>
    bif v18 == v14 then
      Option.bind (toSizeGraph a0) fun v24 =>
      Option.bind (eqSizeGraph v16 v24) fun v25 =>
      bif v25 then
        some true
      else
        some false
    else
      some false

end
end Go.Proofs.Ytfggcaohidajkaa
