/- A part of the proof: lemmas only; nothing is claimed here beyond what each lemma says. -/
import Derived.Test.YtfggcaohidajkaaGty
set_option linter.unusedSimpArgs false
set_option linter.unusedVariables false
set_option linter.defProp false
set_option maxRecDepth 4000
namespace Go.Proofs.Ytfggcaohidajkaa
open Go.Av
noncomputable section
def szSizeEdgeS (a0 : List SizeEdge) (a1 : Int) : Option Int :=
  bif decide ((IntKind.i64.wrap (a1 - (a0.length : Int))) < (0 : Int)) then
    some (-1 : Int)
  else
    some (IntKind.i64.wrap (a1 - (a0.length : Int)))

def szSizeGraph (a0 : SizeGraph) (a1 : Int) : Option Int :=
  Option.bind (szSizeEdgeS a0.Edges a1) fun v8 =>
  bif decide (v8 < (0 : Int)) then
    some (-1 : Int)
  else
    some v8

def toSizeEdge (a0 : SizeEdge) : Option SizeEdge :=
  some a0

def toSizeEdgeS (a0 : List SizeEdge) : Option (List SizeEdge) :=
  Option.bind (mkn (a0.length : Int)) fun n7 =>
  thenL (ρ := (List SizeEdge)) (σ := (List SizeEdge)) (forN (fun (i3 : Nat) (s3 : (List SizeEdge)) =>
    Option.bind (idx a0 (i3 : Int)) fun v18 =>
    Option.bind (toSizeEdge v18) fun v20 =>
    Option.bind (idx s3 (i3 : Int)) fun v21 =>
    Option.bind (idx s3 (i3 : Int)) fun w2 =>
    some (.nx (s3.set (i3 : Int).toNat v20))) a0.length 0 (List.replicate n7 (SizeEdge.mk (0 : Int) (0 : Int) false))) fun s3 =>
  some s3

def toSizeGraph (a0 : SizeGraph) : Option SizeGraph :=
  Option.bind (toSizeEdgeS a0.Edges) fun v12 =>
  some (SizeGraph.mk a0.Source a0.Target v12)

def spec_l1In (a0 : Int) (a1 : Int) (a2 : Int) : Option Bool :=
  bif decide (a1 ≤ a0) then
    some (decide (a0 ≤ a2))
  else
    some false

def spec_l24Graph (a0 : SizeGraph) : Option Bool :=
  Option.bind (spec_l1In a0.Source (0 : Int) (5 : Int)) fun v7 =>
  bif v7 then
    Option.bind (spec_l1In a0.Target (0 : Int) (5 : Int)) fun v12 =>
    bif v12 then
      thenL (ρ := Bool) (σ := Unit) (forN (fun (i4 : Nat) (s4 : Unit) =>
        Option.bind (idx a0.Edges (i4 : Int)) fun v25 =>
        Option.bind (spec_l1In v25.From (0 : Int) (3 : Int)) fun v29 =>
        bif v29 then
          Option.bind (spec_l1In v25.To (0 : Int) (3 : Int)) fun v34 =>
          bif v34 then
            bif decide ((0 : Int) < (i4 : Int)) then
              Option.bind (idx a0.Edges (IntKind.i64.wrap ((i4 : Int) - (1 : Int)))) fun v44 =>
              Option.bind (idx a0.Edges (IntKind.i64.wrap ((i4 : Int) - (1 : Int)))) fun v52 =>
              bif decide ((IntKind.i64.wrap ((IntKind.i64.wrap (v25.From * (4 : Int))) + v25.To)) ≤ (IntKind.i64.wrap ((IntKind.i64.wrap (v44.From * (4 : Int))) + v52.To))) then
                some (.rt false)
              else
                some (.nx ())
            else
              some (.nx ())
          else
            some (.rt false)
        else
          some (.rt false)) a0.Edges.length 0 ()) fun s4 =>
      some true
    else
      some false
  else
    some false

def spec_l24Level (a0 : SizeGraph) (a1 : Int) (a2 : Int) : Option Int :=
  thenL (ρ := Int) (σ := Unit) (forN (fun (i2 : Nat) (s2 : Unit) =>
    Option.bind (idx a0.Edges (i2 : Int)) fun v18 =>
    bif decide (v18.From = a1) then
      Option.bind (idx a0.Edges (i2 : Int)) fun v27 =>
      bif decide (v27.To = a2) then
        Option.bind (idx a0.Edges (i2 : Int)) fun v36 =>
        bif v36.Strict then
          some (.rt (2 : Int))
        else
          some (.rt (1 : Int))
      else
        some (.nx ())
    else
      some (.nx ())) a0.Edges.length 0 ()) fun s2 =>
  some (0 : Int)

def spec_l1Most (a0 : Int) (a1 : Int) : Option Int :=
  bif decide (a1 < a0) then
    some a0
  else
    some a1

def spec_l24Compose (a0 : SizeGraph) (a1 : SizeGraph) : Option SizeGraph :=
  thenL (ρ := SizeGraph) (σ := (List SizeEdge)) (forN (fun (i3 : Nat) (s3 : (List SizeEdge)) =>
    thenL (ρ := (Flow SizeGraph (List SizeEdge))) (σ := (List SizeEdge)) (forN (fun (i6 : Nat) (s6 : (List SizeEdge)) =>
      thenL (ρ := (Flow (Flow SizeGraph (List SizeEdge)) (List SizeEdge))) (σ := Int) (forN (fun (i10 : Nat) (s10 : Int) =>
        Option.bind (spec_l24Level a0 (i3 : Int) (i10 : Int)) fun v33 =>
        Option.bind (spec_l24Level a1 (i10 : Int) (i6 : Int)) fun v37 =>
        bif decide ((0 : Int) < v33) then
          bif decide ((0 : Int) < v37) then
            Option.bind (spec_l1Most v33 v37) fun v47 =>
            Option.bind (spec_l1Most s10 v47) fun v48 =>
            some (.nx v48)
          else
            some (.nx s10)
        else
          some (.nx s10)) 4 0 (0 : Int)) fun s10 =>
      bif decide ((0 : Int) < s10) then
        Option.bind (app s6 ([(SizeEdge.mk (i3 : Int) (i6 : Int) (decide (s10 = (2 : Int))))])) fun v59 =>
        some (.nx v59)
      else
        some (.nx s6)) 4 0 s3) fun s6 =>
    some (.nx s6)) 4 0 ([])) fun s3 =>
  some (SizeGraph.mk a0.Source a1.Target s3)

def spec_l24Same (a0 : SizeGraph) (a1 : SizeGraph) : Option Bool :=
  bif decide (a0.Source = a1.Source) then
    bif decide (a0.Target = a1.Target) then
      bif decide ((a0.Edges.length : Int) = (a1.Edges.length : Int)) then
        thenL (ρ := Bool) (σ := Unit) (forN (fun (i4 : Nat) (s4 : Unit) =>
          Option.bind (idx a0.Edges (i4 : Int)) fun v37 =>
          Option.bind (idx a1.Edges (i4 : Int)) fun v42 =>
          bif decide (v37.From = v42.From) && (decide (v37.To = v42.To) && (v37.Strict == v42.Strict)) then
            some (.nx ())
          else
            some (.rt false)) a0.Edges.length 0 ()) fun s4 =>
        some true
      else
        some false
    else
      some false
  else
    some false

def spec_l24Idempotent (a0 : SizeGraph) : Option Bool :=
  bif decide (a0.Source = a0.Target) then
    Option.bind (spec_l24Compose a0 a0) fun v11 =>
    Option.bind (spec_l24Same v11 a0) fun v13 =>
    some v13
  else
    some false

def spec_IsIdempotentGraph (a0 : SizeGraph) : Option (Bool × Bool) :=
  Option.bind (spec_l24Graph a0) fun v5 =>
  bif v5 then
    Option.bind (spec_l24Idempotent a0) fun v8 =>
    some (v8, true)
  else
    some (false, false)

def impl_within (a0 : Int) (a1 : Int) (a2 : Int) : Option Bool :=
  bif decide (a1 ≤ a0) then
    some (decide (a0 ≤ a2))
  else
    some false

def cmp_isNaN_int (a0 : Int) : Option Bool :=
  some (!(decide (a0 = a0)))

def cmp_Compare_int (a0 : Int) (a1 : Int) : Option Int :=
  Option.bind (cmp_isNaN_int a0) fun v8 =>
  Option.bind (cmp_isNaN_int a1) fun v10 =>
  bif v8 then
    bif v10 then
      some (0 : Int)
    else
      some (-1 : Int)
  else
    bif v10 then
      some (1 : Int)
    else
      bif decide (a0 < a1) then
        some (-1 : Int)
      else
        bif decide (a1 < a0) then
          some (1 : Int)
        else
          some (0 : Int)

def cmp_Or_int (a0 : List Int) : Option Int :=
  thenL (ρ := Int) (σ := Unit) (forN (fun (i3 : Nat) (s3 : Unit) =>
    Option.bind (idx a0 (i3 : Int)) fun v10 =>
    bif decide (v10 = (0 : Int)) then
      some (.nx ())
    else
      some (.rt v10)) a0.length 0 ()) fun s3 =>
  some (0 : Int)

def impl_compareEdges (a0 : SizeEdge) (a1 : SizeEdge) : Option Int :=
  Option.bind (cmp_Compare_int a0.From a1.From) fun v9 =>
  Option.bind (cmp_Compare_int a0.To a1.To) fun v14 =>
  Option.bind (cmp_Or_int ([v9, v14])) fun v16 =>
  some v16

def impl_IsValidGraph (a0 : SizeGraph) : Option Bool :=
  thenL (ρ := Bool) (σ := Unit) (forN (fun (i2 : Nat) (s2 : Unit) =>
    Option.bind (idx a0.Edges (i2 : Int)) fun v11 =>
    Option.bind (impl_within v11.From (0 : Int) (3 : Int)) fun v15 =>
    bif v15 then
      Option.bind (impl_within v11.To (0 : Int) (3 : Int)) fun v20 =>
      bif v20 then
        bif decide ((0 : Int) < (i2 : Int)) then
          Option.bind (idx a0.Edges (IntKind.i64.wrap ((i2 : Int) - (1 : Int)))) fun v31 =>
          Option.bind (impl_compareEdges v31 v11) fun v34 =>
          bif decide ((0 : Int) ≤ v34) then
            some (.rt false)
          else
            some (.nx ())
        else
          some (.nx ())
      else
        some (.rt false)
    else
      some (.rt false)) a0.Edges.length 0 ()) fun s2 =>
  Option.bind (impl_within a0.Source (0 : Int) (5 : Int)) fun v41 =>
  bif v41 then
    Option.bind (impl_within a0.Target (0 : Int) (5 : Int)) fun v45 =>
    some v45
  else
    some false

def slices_BinarySearchFunc_Simpl_SizeEdge_impl_SizeEdge_impl_SizeEdge (a0 : List SizeEdge) (a1 : SizeEdge) (a2 : SizeEdge → SizeEdge → Option Int) : Option (Int × Bool) :=
  thenL (ρ := (Int × Bool)) (σ := Int × Int) (lim fun n3 => whileN (fun (s3 : Int × Int) =>
    bif decide (s3.1 < s3.2) then
      Option.bind (shr .u64 (IntKind.u64.wrap (IntKind.i64.wrap (s3.1 + s3.2))) (1 : Int)) fun v22 =>
      Option.bind (idx a0 (IntKind.i64.wrap v22)) fun v27 =>
      Option.bind (a2 v27 a1) fun v30 =>
      bif decide (v30 < (0 : Int)) then
        some (.nx (IntKind.i64.wrap ((IntKind.i64.wrap v22) + (1 : Int)), s3.2))
      else
        some (.nx (s3.1, IntKind.i64.wrap v22))
    else
      some (.br s3)) n3 ((0 : Int), (a0.length : Int))) fun s3 =>
  bif decide (s3.1 < (a0.length : Int)) then
    Option.bind (idx a0 s3.1) fun v43 =>
    Option.bind (a2 v43 a1) fun v46 =>
    some (s3.1, decide (v46 = (0 : Int)))
  else
    some (s3.1, false)

def slices_InsertE (a0 : List SizeEdge) (a1 : Int) (a2 : List SizeEdge) : Option (List SizeEdge) :=
  if 0 ≤ a1 ∧ a1 ≤ a0.length ∧ a2.length = 1 ∧ a0.length ≤ 1073741824 then some (a0.take a1.toNat ++ a2 ++ a0.drop a1.toNat) else none

def impl_compose (a0 : SizeGraph) (a1 : SizeGraph) : Option SizeGraph :=
  thenL (ρ := SizeGraph) (σ := (List SizeEdge)) (forN (fun (i3 : Nat) (s3 : (List SizeEdge)) =>
    Option.bind (idx a0.Edges (i3 : Int)) fun v23 =>
    thenL (ρ := (Flow SizeGraph (List SizeEdge))) (σ := (List SizeEdge)) (forN (fun (i6 : Nat) (s6 : (List SizeEdge)) =>
      Option.bind (idx a1.Edges (i6 : Int)) fun v30 =>
      bif decide (v23.To = v30.From) then
        bif v23.Strict then
          Option.bind (slices_BinarySearchFunc_Simpl_SizeEdge_impl_SizeEdge_impl_SizeEdge s6 (SizeEdge.mk v23.From v30.To true) (fun y0 y1 => impl_compareEdges y0 y1)) fun v52 =>
          bif v52.2 then
            Option.bind (idx s6 v52.1) fun v62 =>
            Option.bind (idx s6 v52.1) fun v64 =>
            bif v64.Strict then
              Option.bind (idx s6 v52.1) fun v69 =>
              Option.bind (idx s6 v52.1) fun w7 =>
              some (.nx (s6.set v52.1.toNat (SizeEdge.mk w7.From w7.To true)))
            else
              Option.bind (idx s6 v52.1) fun v69 =>
              Option.bind (idx s6 v52.1) fun w8 =>
              some (.nx (s6.set v52.1.toNat (SizeEdge.mk w8.From w8.To true)))
          else
            Option.bind (slices_InsertE s6 v52.1 ([(SizeEdge.mk v23.From v30.To true)])) fun v76 =>
            some (.nx v76)
        else
          Option.bind (slices_BinarySearchFunc_Simpl_SizeEdge_impl_SizeEdge_impl_SizeEdge s6 (SizeEdge.mk v23.From v30.To v30.Strict) (fun y0 y1 => impl_compareEdges y0 y1)) fun v52 =>
          bif v52.2 then
            Option.bind (idx s6 v52.1) fun v62 =>
            Option.bind (idx s6 v52.1) fun v64 =>
            bif v64.Strict then
              Option.bind (idx s6 v52.1) fun v69 =>
              Option.bind (idx s6 v52.1) fun w11 =>
              some (.nx (s6.set v52.1.toNat (SizeEdge.mk w11.From w11.To true)))
            else
              Option.bind (idx s6 v52.1) fun v69 =>
              Option.bind (idx s6 v52.1) fun w12 =>
              some (.nx (s6.set v52.1.toNat (SizeEdge.mk w12.From w12.To v30.Strict)))
          else
            Option.bind (slices_InsertE s6 v52.1 ([(SizeEdge.mk v23.From v30.To v30.Strict)])) fun v76 =>
            some (.nx v76)
      else
        some (.nx s6)) a1.Edges.length 0 s3) fun s6 =>
    some (.nx s6)) a0.Edges.length 0 ([])) fun s3 =>
  some (SizeGraph.mk a0.Source a1.Target s3)

def slices_Equal_Simpl_SizeEdge_impl_SizeEdge (a0 : List SizeEdge) (a1 : List SizeEdge) : Option Bool :=
  bif decide ((a0.length : Int) = (a1.length : Int)) then
    thenL (ρ := Bool) (σ := Unit) (forN (fun (i4 : Nat) (s4 : Unit) =>
      Option.bind (idx a0 (i4 : Int)) fun v18 =>
      Option.bind (idx a1 (i4 : Int)) fun v22 =>
      bif decide (v18.From = v22.From) && (decide (v18.To = v22.To) && (v18.Strict == v22.Strict)) then
        some (.nx ())
      else
        some (.rt false)) a0.length 0 ()) fun s4 =>
    some true
  else
    some false

def impl_sameGraph (a0 : SizeGraph) (a1 : SizeGraph) : Option Bool :=
  bif decide (a0.Source = a1.Source) then
    bif decide (a0.Target = a1.Target) then
      Option.bind (slices_Equal_Simpl_SizeEdge_impl_SizeEdge a0.Edges a1.Edges) fun v22 =>
      some v22
    else
      some false
  else
    some false

def impl_isIdempotent (a0 : SizeGraph) : Option Bool :=
  bif decide (a0.Source = a0.Target) then
    Option.bind (impl_compose a0 a0) fun v11 =>
    Option.bind (impl_sameGraph v11 a0) fun v13 =>
    some v13
  else
    some false

def impl_IsIdempotentGraph (a0 : SizeGraph) : Option (Bool × Bool) :=
  Option.bind (impl_IsValidGraph a0) fun v5 =>
  bif v5 then
    Option.bind (impl_isIdempotent a0) fun v8 =>
    some (v8, true)
  else
    some (false, false)

def eqSizeEdge (a0 : SizeEdge) (a1 : SizeEdge) : Option Bool :=
  bif decide (a0.From = a1.From) then
    bif decide (a0.To = a1.To) then
      bif a0.Strict == a1.Strict then
        some true
      else
        some false
    else
      some false
  else
    some false

def eqSizeEdgeS (a0 : List SizeEdge) (a1 : List SizeEdge) : Option Bool :=
  bif decide ((a0.length : Int) = (a1.length : Int)) then
    thenL (ρ := Bool) (σ := Unit) (forN (fun (i4 : Nat) (s4 : Unit) =>
      Option.bind (idx a0 (i4 : Int)) fun v19 =>
      Option.bind (idx a1 (i4 : Int)) fun v23 =>
      Option.bind (eqSizeEdge v19 v23) fun v25 =>
      bif v25 then
        some (.nx ())
      else
        some (.rt false)) a0.length 0 ()) fun s4 =>
    some true
  else
    some false

def eqSizeGraph (a0 : SizeGraph) (a1 : SizeGraph) : Option Bool :=
  bif decide (a0.Source = a1.Source) then
    bif decide (a0.Target = a1.Target) then
      Option.bind (eqSizeEdgeS a0.Edges a1.Edges) fun v19 =>
      bif v19 then
        some true
      else
        some false
    else
      some false
  else
    some false

def FnExactIsIdempotentGraph (a0 : SizeGraph) : Option Bool :=
  Option.bind (szSizeGraph a0 (1048576 : Int)) fun v11 =>
  bif decide (v11 < (0 : Int)) then
    some true
  else
    Option.bind (toSizeGraph a0) fun v16 =>
    Option.bind (spec_IsIdempotentGraph v16) fun v17 =>
    Option.bind (toSizeGraph a0) fun v21 =>
    Option.bind (impl_IsIdempotentGraph v21) fun v24 =>
    bif v24.1 == v17.1 then
      bif v24.2 == v17.2 then
        Option.bind (toSizeGraph a0) fun v37 =>
        Option.bind (eqSizeGraph v21 v37) fun v38 =>
        bif v38 then
          some true
        else
          some false
      else
        some false
    else
      some false

def spec_ComposeGraphs (a0 : SizeGraph) (a1 : SizeGraph) : Option (SizeGraph × Bool) :=
  Option.bind (spec_l24Graph a0) fun v7 =>
  bif v7 then
    Option.bind (spec_l24Graph a1) fun v11 =>
    bif v11 then
      bif decide (a1.Source = a0.Target) then
        Option.bind (spec_l24Compose a0 a1) fun v24 =>
        some (v24, true)
      else
        some ((SizeGraph.mk (0 : Int) (0 : Int) ([])), false)
    else
      some ((SizeGraph.mk (0 : Int) (0 : Int) ([])), false)
  else
    some ((SizeGraph.mk (0 : Int) (0 : Int) ([])), false)

def impl_ComposeGraphs (a0 : SizeGraph) (a1 : SizeGraph) : Option (SizeGraph × Bool) :=
  Option.bind (impl_IsValidGraph a0) fun v7 =>
  bif v7 then
    Option.bind (impl_IsValidGraph a1) fun v11 =>
    bif v11 then
      bif decide (a1.Source = a0.Target) then
        Option.bind (impl_compose a0 a1) fun v24 =>
        some (v24, true)
      else
        some ((SizeGraph.mk (0 : Int) (0 : Int) ([])), false)
    else
      some ((SizeGraph.mk (0 : Int) (0 : Int) ([])), false)
  else
    some ((SizeGraph.mk (0 : Int) (0 : Int) ([])), false)

def markSizeEdgeS (a0 : List SizeEdge) (a1 : Int) : Option (Int × (List SizeEdge)) :=
  thenL (ρ := (Int × (List SizeEdge))) (σ := (List SizeEdge) × Int × Int) (lim fun n2 => whileN (fun (s2 : (List SizeEdge) × Int × Int) =>
    bif decide (s2.2.2 < (s2.1.length : Int)) then
      Option.bind (idx s2.1 s2.2.2) fun v15 =>
      Option.bind (idx s2.1 s2.2.2) fun w2 =>
      Option.bind (idx (s2.1.set s2.2.2.toNat (SizeEdge.mk s2.2.1 w2.To w2.Strict)) s2.2.2) fun v22 =>
      Option.bind (idx (s2.1.set s2.2.2.toNat (SizeEdge.mk s2.2.1 w2.To w2.Strict)) s2.2.2) fun w3 =>
      Option.bind (rem (IntKind.i64.wrap ((IntKind.i64.wrap (s2.2.1 + (1 : Int))) + (1 : Int))) (3 : Int)) fun v29 =>
      Option.bind (idx ((s2.1.set s2.2.2.toNat (SizeEdge.mk s2.2.1 w2.To w2.Strict)).set s2.2.2.toNat (SizeEdge.mk w3.From (IntKind.i64.wrap (s2.2.1 + (1 : Int))) w3.Strict)) s2.2.2) fun v31 =>
      Option.bind (idx ((s2.1.set s2.2.2.toNat (SizeEdge.mk s2.2.1 w2.To w2.Strict)).set s2.2.2.toNat (SizeEdge.mk w3.From (IntKind.i64.wrap (s2.2.1 + (1 : Int))) w3.Strict)) s2.2.2) fun w4 =>
      some (.nx (((s2.1.set s2.2.2.toNat (SizeEdge.mk s2.2.1 w2.To w2.Strict)).set s2.2.2.toNat (SizeEdge.mk w3.From (IntKind.i64.wrap (s2.2.1 + (1 : Int))) w3.Strict)).set s2.2.2.toNat (SizeEdge.mk w4.From w4.To (decide (v29 = (0 : Int)))), IntKind.i64.wrap ((IntKind.i64.wrap ((IntKind.i64.wrap (s2.2.1 + (1 : Int))) + (1 : Int))) + (1 : Int)), IntKind.i64.wrap (s2.2.2 + (1 : Int))))
    else
      some (.br s2)) n2 (a0, a1, (0 : Int))) fun s2 =>
  some (s2.2.1, s2.1)

def markSizeGraph (a0 : SizeGraph) (a1 : Int) : Option (Int × (List SizeEdge)) :=
  Option.bind (markSizeEdgeS a0.Edges a1) fun v8 =>
  some (v8.1, v8.2)

def heldSizeEdgeS (a0 : List SizeEdge) (a1 : Int) : Option Int :=
  thenL (ρ := Int) (σ := Int) (forN (fun (i2 : Nat) (s2 : Int) =>
    Option.bind (idx a0 (i2 : Int)) fun v14 =>
    bif decide (v14.From = s2) then
      Option.bind (idx a0 (i2 : Int)) fun v23 =>
      bif decide (v23.To = (IntKind.i64.wrap (s2 + (1 : Int)))) then
        Option.bind (idx a0 (i2 : Int)) fun v32 =>
        Option.bind (rem (IntKind.i64.wrap ((IntKind.i64.wrap (s2 + (1 : Int))) + (1 : Int))) (3 : Int)) fun v36 =>
        bif v32.Strict == (decide (v36 = (0 : Int))) then
          some (.nx (IntKind.i64.wrap ((IntKind.i64.wrap ((IntKind.i64.wrap (s2 + (1 : Int))) + (1 : Int))) + (1 : Int))))
        else
          some (.rt (-1 : Int))
      else
        some (.rt (-1 : Int))
    else
      some (.rt (-1 : Int))) a0.length 0 a1) fun s2 =>
  some s2

def heldSizeGraph (a0 : SizeGraph) (a1 : Int) : Option Int :=
  Option.bind (heldSizeEdgeS a0.Edges a1) fun v8 =>
  bif decide (v8 < (0 : Int)) then
    some (-1 : Int)
  else
    some v8

def FnExactComposeGraphs (a0 : SizeGraph) (a1 : SizeGraph) : Option Bool :=
  Option.bind (szSizeGraph a0 (1048576 : Int)) fun v19 =>
  bif decide (v19 < (0 : Int)) then
    some true
  else
    Option.bind (szSizeGraph a1 v19) fun v24 =>
    bif decide (v24 < (0 : Int)) then
      some true
    else
      Option.bind (toSizeGraph a0) fun v29 =>
      Option.bind (toSizeGraph a1) fun v31 =>
      Option.bind (spec_ComposeGraphs v29 v31) fun v32 =>
      Option.bind (toSizeGraph a0) fun v36 =>
      Option.bind (toSizeGraph a1) fun v38 =>
      Option.bind (impl_ComposeGraphs v36 v38) fun v42 =>
      Option.bind (eqSizeGraph v42.1 v32.1) fun v47 =>
      bif v47 then
        bif v42.2 == v32.2 then
          Option.bind (toSizeGraph a0) fun v56 =>
          Option.bind (eqSizeGraph v36 v56) fun v57 =>
          bif v57 then
            Option.bind (toSizeGraph a1) fun v61 =>
            Option.bind (eqSizeGraph v38 v61) fun v62 =>
            bif v62 then
              Option.bind (markSizeGraph v36 (1 : Int)) fun v66 =>
              Option.bind (markSizeGraph v38 v66.1) fun v69 =>
              bif decide (v69.1 < (0 : Int)) then
                some false
              else
                Option.bind (eqSizeGraph v42.1 v32.1) fun v75 =>
                bif v75 then
                  Option.bind (markSizeGraph v42.1 (1 : Int)) fun v85 =>
                  Option.bind (heldSizeGraph (SizeGraph.mk v42.1.Source v42.1.Target v85.2) (1 : Int)) fun v88 =>
                  bif decide (v88 < (0 : Int)) then
                    some false
                  else
                    bif decide (v88 = v85.1) then
                      Option.bind (toSizeGraph a0) fun v96 =>
                      Option.bind (toSizeGraph a1) fun v98 =>
                      Option.bind (impl_ComposeGraphs v96 v98) fun v99 =>
                      Option.bind (eqSizeGraph v99.1 v32.1) fun v104 =>
                      bif v104 then
                        bif v99.2 == v32.2 then
                          Option.bind (heldSizeGraph (SizeGraph.mk v42.1.Source v42.1.Target v85.2) (1 : Int)) fun v113 =>
                          bif decide (v113 < (0 : Int)) then
                            some false
                          else
                            bif decide (v113 = v85.1) then
                              some true
                            else
                              some false
                        else
                          some false
                      else
                        some false
                    else
                      some false
                else
                  some false
            else
              some false
          else
            some false
        else
          some false
      else
        some false

end
end Go.Proofs.Ytfggcaohidajkaa
