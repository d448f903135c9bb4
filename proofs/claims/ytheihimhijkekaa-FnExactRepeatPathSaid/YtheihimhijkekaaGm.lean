/- A part of the proof: lemmas only; nothing is claimed here beyond what each lemma says. -/
import Derived.Test.YtheihimhijkekaaGty
set_option linter.unusedSimpArgs false
set_option linter.unusedVariables false
set_option linter.defProp false
set_option maxRecDepth 4000
namespace Go.Proofs.Ytheihimhijkekaa
open Go.Av
noncomputable section
def szIntS (a0 : List Int) (a1 : Int) : Option Int :=
  bif decide ((IntKind.i64.wrap (a1 - (a0.length : Int))) < (0 : Int)) then
    some (-1 : Int)
  else
    some (IntKind.i64.wrap (a1 - (a0.length : Int)))

def szSizeEdgeS (a0 : List SizeEdge) (a1 : Int) : Option Int :=
  bif decide ((IntKind.i64.wrap (a1 - (a0.length : Int))) < (0 : Int)) then
    some (-1 : Int)
  else
    some (IntKind.i64.wrap (a1 - (a0.length : Int)))

def szSizeGraph (a0 : SizeGraph) (a1 : Int) : Option Int :=
  Option.bind (szSizeEdgeS a0.Edges a1) fun v8 =>
  bif decide (v8 < (0 : Int)) then
    some (-1 : Int)
  else
    some v8

def szSizeGraphS (a0 : List SizeGraph) (a1 : Int) : Option Int :=
  bif decide ((IntKind.i64.wrap (a1 - (a0.length : Int))) < (0 : Int)) then
    some (-1 : Int)
  else
    thenL (ρ := Int) (σ := Int) (forN (fun (i5 : Nat) (s5 : Int) =>
      Option.bind (idx a0 (i5 : Int)) fun v20 =>
      Option.bind (szSizeGraph v20 s5) fun v23 =>
      bif decide (v23 < (0 : Int)) then
        some (.rt (-1 : Int))
      else
        some (.nx v23)) a0.length 0 (IntKind.i64.wrap (a1 - (a0.length : Int)))) fun s5 =>
    some s5

def szCyclicProof (a0 : CyclicProof) (a1 : Int) : Option Int :=
  Option.bind (szIntS a0.Arities a1) fun v8 =>
  bif decide (v8 < (0 : Int)) then
    some (-1 : Int)
  else
    Option.bind (szSizeGraphS a0.Calls v8) fun v14 =>
    bif decide (v14 < (0 : Int)) then
      some (-1 : Int)
    else
      some v14

def toIntS (a0 : List Int) : Option (List Int) :=
  Option.bind (mkn (a0.length : Int)) fun n7 =>
  thenL (ρ := (List Int)) (σ := (List Int)) (forN (fun (i3 : Nat) (s3 : (List Int)) =>
    Option.bind (idx a0 (i3 : Int)) fun v18 =>
    Option.bind (idx s3 (i3 : Int)) fun v20 =>
    Option.bind (idx s3 (i3 : Int)) fun w2 =>
    some (.nx (s3.set (i3 : Int).toNat v18))) a0.length 0 (List.replicate n7 (0 : Int))) fun s3 =>
  some s3

def toSizeEdge (a0 : SizeEdge) : Option SizeEdge :=
  some a0

def toSizeEdgeS (a0 : List SizeEdge) : Option (List SizeEdge) :=
  Option.bind (mkn (a0.length : Int)) fun n7 =>
  thenL (ρ := (List SizeEdge)) (σ := (List SizeEdge)) (forN (fun (i3 : Nat) (s3 : (List SizeEdge)) =>
    Option.bind (idx a0 (i3 : Int)) fun v18 =>
    Option.bind (toSizeEdge v18) fun v20 =>
    Option.bind (idx s3 (i3 : Int)) fun v21 =>
    Option.bind (idx s3 (i3 : Int)) fun w2 =>
    some (.nx (s3.set (i3 : Int).toNat v20))) a0.length 0 (List.replicate n7 (SizeEdge.mk (0 : Int) (0 : Int) false))) fun s3 =>
  some s3

def toSizeGraph (a0 : SizeGraph) : Option SizeGraph :=
  Option.bind (toSizeEdgeS a0.Edges) fun v12 =>
  some (SizeGraph.mk a0.Source a0.Target v12)

def toSizeGraphS (a0 : List SizeGraph) : Option (List SizeGraph) :=
  Option.bind (mkn (a0.length : Int)) fun n7 =>
  thenL (ρ := (List SizeGraph)) (σ := (List SizeGraph)) (forN (fun (i3 : Nat) (s3 : (List SizeGraph)) =>
    Option.bind (idx a0 (i3 : Int)) fun v18 =>
    Option.bind (toSizeGraph v18) fun v20 =>
    Option.bind (idx s3 (i3 : Int)) fun v21 =>
    Option.bind (idx s3 (i3 : Int)) fun w2 =>
    some (.nx (s3.set (i3 : Int).toNat v20))) a0.length 0 (List.replicate n7 (SizeGraph.mk (0 : Int) (0 : Int) ([])))) fun s3 =>
  some s3

def toCyclicProof (a0 : CyclicProof) : Option CyclicProof :=
  Option.bind (toIntS a0.Arities) fun v6 =>
  Option.bind (toSizeGraphS a0.Calls) fun v10 =>
  some (CyclicProof.mk v6 v10)

def spec_l1In (a0 : Int) (a1 : Int) (a2 : Int) : Option Bool :=
  bif decide (a1 ≤ a0) then
    some (decide (a0 ≤ a2))
  else
    some false

def spec_l24Graph (a0 : SizeGraph) : Option Bool :=
  Option.bind (spec_l1In a0.Source (0 : Int) (5 : Int)) fun v7 =>
  bif v7 then
    Option.bind (spec_l1In a0.Target (0 : Int) (5 : Int)) fun v12 =>
    bif v12 then
      thenL (ρ := Bool) (σ := Unit) (forN (fun (i4 : Nat) (s4 : Unit) =>
        Option.bind (idx a0.Edges (i4 : Int)) fun v25 =>
        Option.bind (spec_l1In v25.From (0 : Int) (3 : Int)) fun v29 =>
        bif v29 then
          Option.bind (spec_l1In v25.To (0 : Int) (3 : Int)) fun v34 =>
          bif v34 then
            bif decide ((0 : Int) < (i4 : Int)) then
              Option.bind (idx a0.Edges (IntKind.i64.wrap ((i4 : Int) - (1 : Int)))) fun v44 =>
              Option.bind (idx a0.Edges (IntKind.i64.wrap ((i4 : Int) - (1 : Int)))) fun v52 =>
              bif decide ((IntKind.i64.wrap ((IntKind.i64.wrap (v25.From * (4 : Int))) + v25.To)) ≤ (IntKind.i64.wrap ((IntKind.i64.wrap (v44.From * (4 : Int))) + v52.To))) then
                some (.rt false)
              else
                some (.nx ())
            else
              some (.nx ())
          else
            some (.rt false)
        else
          some (.rt false)) a0.Edges.length 0 ()) fun s4 =>
      some true
    else
      some false
  else
    some false

def spec_l24Good (a0 : CyclicProof) : Option Bool :=
  Option.bind (spec_l1In (a0.Arities.length : Int) (1 : Int) (6 : Int)) fun v12 =>
  bif v12 then
    bif decide ((12 : Int) < (a0.Calls.length : Int)) then
      some false
    else
      thenL (ρ := Bool) (σ := Unit) (forN (fun (i5 : Nat) (s5 : Unit) =>
        Option.bind (idx a0.Arities (i5 : Int)) fun v28 =>
        Option.bind (spec_l1In v28 (0 : Int) (4 : Int)) fun v30 =>
        bif v30 then
          some (.nx ())
        else
          some (.rt false)) a0.Arities.length 0 ()) fun s5 =>
      thenL (ρ := Bool) (σ := Unit) (forN (fun (i10 : Nat) (s10 : Unit) =>
        Option.bind (idx a0.Calls (i10 : Int)) fun v42 =>
        Option.bind (spec_l24Graph v42) fun v45 =>
        bif v45 then
          bif decide ((a0.Arities.length : Int) ≤ v42.Source) then
            some (.rt false)
          else
            bif decide ((a0.Arities.length : Int) ≤ v42.Target) then
              some (.rt false)
            else
              thenL (ρ := (Flow Bool Unit)) (σ := Unit) (forN (fun (i16 : Nat) (s16 : Unit) =>
                Option.bind (idx v42.Edges (i16 : Int)) fun v69 =>
                Option.bind (idx a0.Arities v42.Source) fun v76 =>
                bif decide (v76 ≤ v69.From) then
                  some (.rt (.rt false))
                else
                  Option.bind (idx v42.Edges (i16 : Int)) fun v83 =>
                  Option.bind (idx a0.Arities v42.Target) fun v90 =>
                  bif decide (v90 ≤ v83.To) then
                    some (.rt (.rt false))
                  else
                    some (.nx ())) v42.Edges.length 0 ()) fun s16 =>
              some (.nx ())
        else
          some (.rt false)) a0.Calls.length 0 ()) fun s10 =>
      some true
  else
    some false

def spec_l24Path (a0 : CyclicProof) (a1 : List Int) : Option Bool :=
  thenL (ρ := Bool) (σ := Unit) (forN (fun (i2 : Nat) (s2 : Unit) =>
    bif decide ((i2 : Int) ≤ (200 : Int)) then
      Option.bind (idx a1 (i2 : Int)) fun v18 =>
      Option.bind (spec_l1In v18 (0 : Int) (IntKind.i64.wrap ((a0.Calls.length : Int) - (1 : Int)))) fun v24 =>
      bif v24 then
        bif decide ((0 : Int) < (i2 : Int)) then
          Option.bind (idx a1 (IntKind.i64.wrap ((i2 : Int) - (1 : Int)))) fun v35 =>
          Option.bind (idx a0.Calls v35) fun v37 =>
          Option.bind (idx a1 (i2 : Int)) fun v44 =>
          Option.bind (idx a0.Calls v44) fun v46 =>
          bif decide (v37.Target = v46.Source) then
            some (.nx ())
          else
            some (.rt false)
        else
          some (.nx ())
      else
        some (.rt false)
    else
      some (.rt (decide ((a1.length : Int) ≤ (200 : Int))))) a1.length 0 ()) fun s2 =>
  some (decide ((a1.length : Int) ≤ (200 : Int)))

def spec_RepeatPath (a0 : CyclicProof) (a1 : List Int) (a2 : Int) : Option ((List Int) × Bool) :=
  Option.bind (spec_l24Good a0) fun v12 =>
  bif v12 then
    Option.bind (spec_l24Path a0 a1) fun v17 =>
    bif v17 then
      bif decide (a2 < (0 : Int)) then
        some ([], false)
      else
        bif decide ((0 : Int) < (a1.length : Int)) then
          bif decide ((200 : Int) < a2) then
            some ([], false)
          else
            Option.bind (bnd (a2)) fun N5 =>
            thenL (ρ := ((List Int) × Bool)) (σ := (List Int)) (forN (fun (i5 : Nat) (s5 : (List Int)) =>
              Option.bind (app s5 a1) fun v46 =>
              some (.nx v46)) N5 0 ([])) fun s5 =>
            Option.bind (spec_l24Path a0 s5) fun v49 =>
            bif v49 then
              some (s5, true)
            else
              some ([], false)
        else
          thenL (ρ := ((List Int) × Bool)) (σ := Unit) (lim fun n5 => whileN (fun (s5 : Unit) =>
            bif decide ((0 : Int) < a2) then
              some (.br s5)
            else
              some (.br s5)) n5 ()) fun s5 =>
          Option.bind (spec_l24Path a0 ([])) fun v49 =>
          bif v49 then
            some ([], true)
          else
            some ([], false)
    else
      some ([], false)
  else
    some ([], false)

def impl_within (a0 : Int) (a1 : Int) (a2 : Int) : Option Bool :=
  bif decide (a1 ≤ a0) then
    some (decide (a0 ≤ a2))
  else
    some false

def impl_IsValidCyclic_1 (a0 : Int) : Option Bool :=
  Option.bind (impl_within a0 (0 : Int) (4 : Int)) fun v4 =>
  some (!v4)

def slices_IndexFunc_Sint_int (a0 : List Int) (a1 : Int → Option Bool) : Option Int :=
  thenL (ρ := Int) (σ := Unit) (forN (fun (i2 : Nat) (s2 : Unit) =>
    Option.bind (idx a0 (i2 : Int)) fun v14 =>
    Option.bind (a1 v14) fun v16 =>
    bif v16 then
      some (.rt (i2 : Int))
    else
      some (.nx ())) a0.length 0 ()) fun s2 =>
  some (-1 : Int)

def slices_ContainsFunc_Sint_int (a0 : List Int) (a1 : Int → Option Bool) : Option Bool :=
  Option.bind (slices_IndexFunc_Sint_int a0 a1) fun v7 =>
  some (decide ((0 : Int) ≤ v7))

def cmp_isNaN_int (a0 : Int) : Option Bool :=
  some (!(decide (a0 = a0)))

def cmp_Compare_int (a0 : Int) (a1 : Int) : Option Int :=
  Option.bind (cmp_isNaN_int a0) fun v8 =>
  Option.bind (cmp_isNaN_int a1) fun v10 =>
  bif v8 then
    bif v10 then
      some (0 : Int)
    else
      some (-1 : Int)
  else
    bif v10 then
      some (1 : Int)
    else
      bif decide (a0 < a1) then
        some (-1 : Int)
      else
        bif decide (a1 < a0) then
          some (1 : Int)
        else
          some (0 : Int)

def cmp_Or_int (a0 : List Int) : Option Int :=
  thenL (ρ := Int) (σ := Unit) (forN (fun (i3 : Nat) (s3 : Unit) =>
    Option.bind (idx a0 (i3 : Int)) fun v10 =>
    bif decide (v10 = (0 : Int)) then
      some (.nx ())
    else
      some (.rt v10)) a0.length 0 ()) fun s3 =>
  some (0 : Int)

def impl_compareEdges (a0 : SizeEdge) (a1 : SizeEdge) : Option Int :=
  Option.bind (cmp_Compare_int a0.From a1.From) fun v9 =>
  Option.bind (cmp_Compare_int a0.To a1.To) fun v14 =>
  Option.bind (cmp_Or_int ([v9, v14])) fun v16 =>
  some v16

def impl_IsValidGraph (a0 : SizeGraph) : Option Bool :=
  thenL (ρ := Bool) (σ := Unit) (forN (fun (i2 : Nat) (s2 : Unit) =>
    Option.bind (idx a0.Edges (i2 : Int)) fun v11 =>
    Option.bind (impl_within v11.From (0 : Int) (3 : Int)) fun v15 =>
    bif v15 then
      Option.bind (impl_within v11.To (0 : Int) (3 : Int)) fun v20 =>
      bif v20 then
        bif decide ((0 : Int) < (i2 : Int)) then
          Option.bind (idx a0.Edges (IntKind.i64.wrap ((i2 : Int) - (1 : Int)))) fun v31 =>
          Option.bind (impl_compareEdges v31 v11) fun v34 =>
          bif decide ((0 : Int) ≤ v34) then
            some (.rt false)
          else
            some (.nx ())
        else
          some (.nx ())
      else
        some (.rt false)
    else
      some (.rt false)) a0.Edges.length 0 ()) fun s2 =>
  Option.bind (impl_within a0.Source (0 : Int) (5 : Int)) fun v41 =>
  bif v41 then
    Option.bind (impl_within a0.Target (0 : Int) (5 : Int)) fun v45 =>
    some v45
  else
    some false

def impl_IsValidCyclic_2_1 (a0 : SizeEdge) (b0 : CyclicProof) (b1 : SizeGraph) : Option Bool :=
  Option.bind (idx b0.Arities b1.Source) fun v11 =>
  bif decide (v11 ≤ a0.From) then
    some true
  else
    Option.bind (idx b0.Arities b1.Target) fun v21 =>
    some (decide (v21 ≤ a0.To))

def slices_IndexFunc_Simpl_SizeEdge_impl_SizeEdge (a0 : List SizeEdge) (a1 : SizeEdge → Option Bool) : Option Int :=
  thenL (ρ := Int) (σ := Unit) (forN (fun (i2 : Nat) (s2 : Unit) =>
    Option.bind (idx a0 (i2 : Int)) fun v14 =>
    Option.bind (a1 v14) fun v16 =>
    bif v16 then
      some (.rt (i2 : Int))
    else
      some (.nx ())) a0.length 0 ()) fun s2 =>
  some (-1 : Int)

def slices_ContainsFunc_Simpl_SizeEdge_impl_SizeEdge (a0 : List SizeEdge) (a1 : SizeEdge → Option Bool) : Option Bool :=
  Option.bind (slices_IndexFunc_Simpl_SizeEdge_impl_SizeEdge a0 a1) fun v7 =>
  some (decide ((0 : Int) ≤ v7))

def impl_IsValidCyclic_2 (a0 : SizeGraph) (b0 : Int) (b1 : CyclicProof) : Option Bool :=
  Option.bind (impl_IsValidGraph a0) fun v6 =>
  bif v6 then
    bif decide (b0 ≤ a0.Source) then
      some true
    else
      bif decide (b0 ≤ a0.Target) then
        some true
      else
        Option.bind (slices_ContainsFunc_Simpl_SizeEdge_impl_SizeEdge a0.Edges (fun y0 => impl_IsValidCyclic_2_1 y0 b1 a0)) fun v24 =>
        some v24
  else
    some true

def slices_IndexFunc_Simpl_SizeGraph_impl_SizeGraph (a0 : List SizeGraph) (a1 : SizeGraph → Option Bool) : Option Int :=
  thenL (ρ := Int) (σ := Unit) (forN (fun (i2 : Nat) (s2 : Unit) =>
    Option.bind (idx a0 (i2 : Int)) fun v14 =>
    Option.bind (a1 v14) fun v16 =>
    bif v16 then
      some (.rt (i2 : Int))
    else
      some (.nx ())) a0.length 0 ()) fun s2 =>
  some (-1 : Int)

def slices_ContainsFunc_Simpl_SizeGraph_impl_SizeGraph (a0 : List SizeGraph) (a1 : SizeGraph → Option Bool) : Option Bool :=
  Option.bind (slices_IndexFunc_Simpl_SizeGraph_impl_SizeGraph a0 a1) fun v7 =>
  some (decide ((0 : Int) ≤ v7))

def impl_IsValidCyclic (a0 : CyclicProof) : Option Bool :=
  Option.bind (impl_within (a0.Arities.length : Int) (1 : Int) (6 : Int)) fun v8 =>
  bif v8 then
    bif decide ((12 : Int) < (a0.Calls.length : Int)) then
      some false
    else
      Option.bind (slices_ContainsFunc_Sint_int a0.Arities (fun y0 => impl_IsValidCyclic_1 y0)) fun v19 =>
      bif v19 then
        some false
      else
        Option.bind (slices_ContainsFunc_Simpl_SizeGraph_impl_SizeGraph a0.Calls (fun y0 => impl_IsValidCyclic_2 y0 (a0.Arities.length : Int) a0)) fun v24 =>
        some (!v24)
  else
    some false

def impl_isPath (a0 : CyclicProof) (a1 : List Int) : Option Bool :=
  thenL (ρ := Bool) (σ := Unit) (forN (fun (i2 : Nat) (s2 : Unit) =>
    Option.bind (idx a1 (i2 : Int)) fun v12 =>
    Option.bind (impl_within v12 (0 : Int) (IntKind.i64.wrap ((a0.Calls.length : Int) - (1 : Int)))) fun v19 =>
    bif v19 then
      bif decide ((0 : Int) < (i2 : Int)) then
        Option.bind (idx a1 (IntKind.i64.wrap ((i2 : Int) - (1 : Int)))) fun v30 =>
        Option.bind (idx a0.Calls v30) fun v32 =>
        Option.bind (idx a0.Calls v12) fun v38 =>
        bif decide (v32.Target = v38.Source) then
          some (.nx ())
        else
          some (.rt false)
      else
        some (.nx ())
    else
      some (.rt false)) a1.length 0 ()) fun s2 =>
  some (decide ((a1.length : Int) ≤ (200 : Int)))

def bits_Mul32 (a0 : Int) (a1 : Int) : Option (Int × Int) :=
  Option.bind (shr .u64 (IntKind.u64.wrap ((IntKind.u64.wrap a0) * (IntKind.u64.wrap a1))) (32 : Int)) fun v13 =>
  some (IntKind.u32.wrap v13, IntKind.u32.wrap (IntKind.u64.wrap ((IntKind.u64.wrap a0) * (IntKind.u64.wrap a1))))

def bits_Mul64 (a0 : Int) (a1 : Int) : Option (Int × Int) :=
  Option.bind (shr .u64 a0 (32 : Int)) fun v17 =>
  Option.bind (shr .u64 a1 (32 : Int)) fun v21 =>
  Option.bind (shr .u64 (IntKind.u64.wrap ((bitand .u64 a0 (4294967295 : Int)) * (bitand .u64 a1 (4294967295 : Int)))) (32 : Int)) fun v29 =>
  Option.bind (shr .u64 (IntKind.u64.wrap ((IntKind.u64.wrap (v17 * (bitand .u64 a1 (4294967295 : Int)))) + v29)) (32 : Int)) fun v34 =>
  Option.bind (shr .u64 (IntKind.u64.wrap ((bitand .u64 (IntKind.u64.wrap ((IntKind.u64.wrap (v17 * (bitand .u64 a1 (4294967295 : Int)))) + v29)) (4294967295 : Int)) + (IntKind.u64.wrap ((bitand .u64 a0 (4294967295 : Int)) * v21)))) (32 : Int)) fun v46 =>
  some (IntKind.u64.wrap ((IntKind.u64.wrap ((IntKind.u64.wrap (v17 * v21)) + v34)) + v46), IntKind.u64.wrap (a0 * a1))

def bits_Mul (a0 : Int) (a1 : Int) : Option (Int × Int) :=
  Option.bind (bits_Mul64 a0 a1) fun v25 =>
  some (v25.1, v25.2)

def slices_Repeat_Sint_int (a0 : List Int) (a1 : Int) : Option (List Int) :=
  bif decide (a1 < (0 : Int)) then
    none
  else
    Option.bind (bits_Mul (IntKind.u64.wrap (a0.length : Int)) (IntKind.u64.wrap a1)) fun v18 =>
    bif decide ((0 : Int) < v18.1) then
      none
    else
      bif decide ((9223372036854775807 : Int) < v18.2) then
        none
      else
        Option.bind (mkn (IntKind.i64.wrap v18.2)) fun n30 =>
        thenL (ρ := (List Int)) (σ := (List Int) × Int) (lim fun n8 => whileN (fun (s8 : (List Int) × Int) =>
          bif decide (s8.2 < (s8.1.length : Int)) then
            Option.bind (rngN s8.1.length s8.2 (s8.1.length : Int)) fun v41 =>
            Option.bind (rngN s8.1.length (0 : Int) s8.2) fun v44 =>
            Option.bind (cpSelf s8.1 s8.2 s8.2) fun v45 =>
            some (.nx (v45.2, IntKind.i64.wrap (s8.2 + v45.1)))
          else
            some (.br s8)) n8 (a0.take (List.replicate n30 (0 : Int)).length ++ (List.replicate n30 (0 : Int)).drop a0.length, min (a0.length : Int) ((List.replicate n30 (0 : Int)).length : Int))) fun s8 =>
        some s8.1

def impl_RepeatPath (a0 : CyclicProof) (a1 : List Int) (a2 : Int) : Option ((List Int) × Bool) :=
  Option.bind (impl_IsValidCyclic a0) fun v10 =>
  bif v10 then
    Option.bind (impl_isPath a0 a1) fun v15 =>
    bif v15 then
      bif decide (a2 < (0 : Int)) then
        some ([], false)
      else
        bif decide ((a1.length : Int) = (0 : Int)) then
          some ([], true)
        else
          bif decide ((200 : Int) < a2) then
            some ([], false)
          else
            Option.bind (slices_Repeat_Sint_int a1 a2) fun v29 =>
            Option.bind (impl_isPath a0 v29) fun v32 =>
            bif v32 then
              some (v29, true)
            else
              some ([], false)
    else
      some ([], false)
  else
    some ([], false)

def eqIntS (a0 : List Int) (a1 : List Int) : Option Bool :=
  bif decide ((a0.length : Int) = (a1.length : Int)) then
    thenL (ρ := Bool) (σ := Unit) (forN (fun (i4 : Nat) (s4 : Unit) =>
      Option.bind (idx a0 (i4 : Int)) fun v19 =>
      Option.bind (idx a1 (i4 : Int)) fun v23 =>
      bif decide (v19 = v23) then
        some (.nx ())
      else
        some (.rt false)) a0.length 0 ()) fun s4 =>
    some true
  else
    some false

def eqSizeEdge (a0 : SizeEdge) (a1 : SizeEdge) : Option Bool :=
  bif decide (a0.From = a1.From) then
    bif decide (a0.To = a1.To) then
      bif a0.Strict == a1.Strict then
        some true
      else
        some false
    else
      some false
  else
    some false

def eqSizeEdgeS (a0 : List SizeEdge) (a1 : List SizeEdge) : Option Bool :=
  bif decide ((a0.length : Int) = (a1.length : Int)) then
    thenL (ρ := Bool) (σ := Unit) (forN (fun (i4 : Nat) (s4 : Unit) =>
      Option.bind (idx a0 (i4 : Int)) fun v19 =>
      Option.bind (idx a1 (i4 : Int)) fun v23 =>
      Option.bind (eqSizeEdge v19 v23) fun v25 =>
      bif v25 then
        some (.nx ())
      else
        some (.rt false)) a0.length 0 ()) fun s4 =>
    some true
  else
    some false

def eqSizeGraph (a0 : SizeGraph) (a1 : SizeGraph) : Option Bool :=
  bif decide (a0.Source = a1.Source) then
    bif decide (a0.Target = a1.Target) then
      Option.bind (eqSizeEdgeS a0.Edges a1.Edges) fun v19 =>
      bif v19 then
        some true
      else
        some false
    else
      some false
  else
    some false

def eqSizeGraphS (a0 : List SizeGraph) (a1 : List SizeGraph) : Option Bool :=
  bif decide ((a0.length : Int) = (a1.length : Int)) then
    thenL (ρ := Bool) (σ := Unit) (forN (fun (i4 : Nat) (s4 : Unit) =>
      Option.bind (idx a0 (i4 : Int)) fun v19 =>
      Option.bind (idx a1 (i4 : Int)) fun v23 =>
      Option.bind (eqSizeGraph v19 v23) fun v25 =>
      bif v25 then
        some (.nx ())
      else
        some (.rt false)) a0.length 0 ()) fun s4 =>
    some true
  else
    some false

def eqCyclicProof (a0 : CyclicProof) (a1 : CyclicProof) : Option Bool :=
  Option.bind (eqIntS a0.Arities a1.Arities) fun v9 =>
  bif v9 then
    Option.bind (eqSizeGraphS a0.Calls a1.Calls) fun v15 =>
    bif v15 then
      some true
    else
      some false
  else
    some false

def markIntS (a0 : List Int) (a1 : Int) : Option (Int × (List Int)) :=
  thenL (ρ := (Int × (List Int))) (σ := (List Int) × Int × Int) (lim fun n2 => whileN (fun (s2 : (List Int) × Int × Int) =>
    bif decide (s2.2.2 < (s2.1.length : Int)) then
      Option.bind (idx s2.1 s2.2.2) fun v15 =>
      Option.bind (idx s2.1 s2.2.2) fun w2 =>
      some (.nx (s2.1.set s2.2.2.toNat s2.2.1, IntKind.i64.wrap (s2.2.1 + (1 : Int)), IntKind.i64.wrap (s2.2.2 + (1 : Int))))
    else
      some (.br s2)) n2 (a0, a1, (0 : Int))) fun s2 =>
  some (s2.2.1, s2.1)

def markSizeEdgeS (a0 : List SizeEdge) (a1 : Int) : Option (Int × (List SizeEdge)) :=
  thenL (ρ := (Int × (List SizeEdge))) (σ := (List SizeEdge) × Int × Int) (lim fun n2 => whileN (fun (s2 : (List SizeEdge) × Int × Int) =>
    bif decide (s2.2.2 < (s2.1.length : Int)) then
      Option.bind (idx s2.1 s2.2.2) fun v15 =>
      Option.bind (idx s2.1 s2.2.2) fun w2 =>
      Option.bind (idx (s2.1.set s2.2.2.toNat (SizeEdge.mk s2.2.1 w2.To w2.Strict)) s2.2.2) fun v22 =>
      Option.bind (idx (s2.1.set s2.2.2.toNat (SizeEdge.mk s2.2.1 w2.To w2.Strict)) s2.2.2) fun w3 =>
      Option.bind (rem (IntKind.i64.wrap ((IntKind.i64.wrap (s2.2.1 + (1 : Int))) + (1 : Int))) (3 : Int)) fun v29 =>
      Option.bind (idx ((s2.1.set s2.2.2.toNat (SizeEdge.mk s2.2.1 w2.To w2.Strict)).set s2.2.2.toNat (SizeEdge.mk w3.From (IntKind.i64.wrap (s2.2.1 + (1 : Int))) w3.Strict)) s2.2.2) fun v31 =>
      Option.bind (idx ((s2.1.set s2.2.2.toNat (SizeEdge.mk s2.2.1 w2.To w2.Strict)).set s2.2.2.toNat (SizeEdge.mk w3.From (IntKind.i64.wrap (s2.2.1 + (1 : Int))) w3.Strict)) s2.2.2) fun w4 =>
      some (.nx (((s2.1.set s2.2.2.toNat (SizeEdge.mk s2.2.1 w2.To w2.Strict)).set s2.2.2.toNat (SizeEdge.mk w3.From (IntKind.i64.wrap (s2.2.1 + (1 : Int))) w3.Strict)).set s2.2.2.toNat (SizeEdge.mk w4.From w4.To (decide (v29 = (0 : Int)))), IntKind.i64.wrap ((IntKind.i64.wrap ((IntKind.i64.wrap (s2.2.1 + (1 : Int))) + (1 : Int))) + (1 : Int)), IntKind.i64.wrap (s2.2.2 + (1 : Int))))
    else
      some (.br s2)) n2 (a0, a1, (0 : Int))) fun s2 =>
  some (s2.2.1, s2.1)

def markSizeGraphS (a0 : List SizeGraph) (a1 : Int) : Option (Int × (List SizeGraph)) :=
  thenL (ρ := (Int × (List SizeGraph))) (σ := (List SizeGraph) × Int × Int) (lim fun n2 => whileN (fun (s2 : (List SizeGraph) × Int × Int) =>
    bif decide (s2.2.2 < (s2.1.length : Int)) then
      Option.bind (idx s2.1 s2.2.2) fun v15 =>
      Option.bind (idx s2.1 s2.2.2) fun w2 =>
      Option.bind (idx (s2.1.set s2.2.2.toNat (SizeGraph.mk s2.2.1 w2.Target w2.Edges)) s2.2.2) fun v22 =>
      Option.bind (idx (s2.1.set s2.2.2.toNat (SizeGraph.mk s2.2.1 w2.Target w2.Edges)) s2.2.2) fun w3 =>
      Option.bind (idx ((s2.1.set s2.2.2.toNat (SizeGraph.mk s2.2.1 w2.Target w2.Edges)).set s2.2.2.toNat (SizeGraph.mk w3.Source (IntKind.i64.wrap (s2.2.1 + (1 : Int))) w3.Edges)) s2.2.2) fun v28 =>
      Option.bind (idx ((s2.1.set s2.2.2.toNat (SizeGraph.mk s2.2.1 w2.Target w2.Edges)).set s2.2.2.toNat (SizeGraph.mk w3.Source (IntKind.i64.wrap (s2.2.1 + (1 : Int))) w3.Edges)) s2.2.2) fun w4 =>
      Option.bind (markSizeEdgeS w4.Edges (IntKind.i64.wrap ((IntKind.i64.wrap (s2.2.1 + (1 : Int))) + (1 : Int)))) fun v32 =>
      some (.nx (((s2.1.set s2.2.2.toNat (SizeGraph.mk s2.2.1 w2.Target w2.Edges)).set s2.2.2.toNat (SizeGraph.mk w3.Source (IntKind.i64.wrap (s2.2.1 + (1 : Int))) w3.Edges)).set s2.2.2.toNat (SizeGraph.mk w4.Source w4.Target v32.2), v32.1, IntKind.i64.wrap (s2.2.2 + (1 : Int))))
    else
      some (.br s2)) n2 (a0, a1, (0 : Int))) fun s2 =>
  some (s2.2.1, s2.1)

def markCyclicProof (a0 : CyclicProof) (a1 : Int) : Option (Int × (List Int) × (List SizeGraph)) :=
  Option.bind (markIntS a0.Arities a1) fun v8 =>
  Option.bind (markSizeGraphS a0.Calls v8.1) fun v12 =>
  some (v12.1, v8.2, v12.2)

def heldIntS (a0 : List Int) (a1 : Int) : Option Int :=
  thenL (ρ := Int) (σ := Int) (forN (fun (i2 : Nat) (s2 : Int) =>
    Option.bind (idx a0 (i2 : Int)) fun v14 =>
    bif decide (v14 = s2) then
      some (.nx (IntKind.i64.wrap (s2 + (1 : Int))))
    else
      some (.rt (-1 : Int))) a0.length 0 a1) fun s2 =>
  some s2

def FnExactRepeatPath (a0 : CyclicProof) (a1 : List Int) (a2 : Int) : Option Bool :=
  bif decide ((1048576 : Int) < (a1.length : Int)) then
    some true
  else
    Option.bind (szCyclicProof a0 (1048576 : Int)) fun v24 =>
    bif decide (v24 < (0 : Int)) then
      some true
    else
      Option.bind (toCyclicProof a0) fun v29 =>
      Option.bind (toIntS a1) fun v31 =>
      Option.bind (spec_RepeatPath v29 v31 a2) fun v33 =>
      Option.bind (toCyclicProof a0) fun v37 =>
      Option.bind (toIntS a1) fun v39 =>
      Option.bind (impl_RepeatPath v37 v39 a2) fun v44 =>
      Option.bind (eqIntS v44.1 v33.1) fun v49 =>
      bif v49 then
        bif v44.2 == v33.2 then
          Option.bind (toCyclicProof a0) fun v58 =>
          Option.bind (eqCyclicProof v37 v58) fun v59 =>
          bif v59 then
            Option.bind (toIntS a1) fun v63 =>
            Option.bind (eqIntS v39 v63) fun v64 =>
            bif v64 then
              Option.bind (markCyclicProof v37 (1 : Int)) fun v68 =>
              Option.bind (markIntS v39 v68.1) fun v71 =>
              bif decide (v71.1 < (0 : Int)) then
                some false
              else
                Option.bind (eqIntS v44.1 v33.1) fun v77 =>
                bif v77 then
                  Option.bind (markIntS v44.1 (1 : Int)) fun v87 =>
                  Option.bind (heldIntS v87.2 (1 : Int)) fun v90 =>
                  bif decide (v90 < (0 : Int)) then
                    some false
                  else
                    bif decide (v90 = v87.1) then
                      Option.bind (toCyclicProof a0) fun v98 =>
                      Option.bind (toIntS a1) fun v100 =>
                      Option.bind (impl_RepeatPath v98 v100 a2) fun v102 =>
                      Option.bind (eqIntS v102.1 v33.1) fun v107 =>
                      bif v107 then
                        bif v102.2 == v33.2 then
                          Option.bind (heldIntS v87.2 (1 : Int)) fun v116 =>
                          bif decide (v116 < (0 : Int)) then
                            some false
                          else
                            bif decide (v116 = v87.1) then
                              some true
                            else
                              some false
                        else
                          some false
                      else
                        some false
                    else
                      some false
                else
                  some false
            else
              some false
          else
            some false
        else
          some false
      else
        some false

end
end Go.Proofs.Ytheihimhijkekaa
