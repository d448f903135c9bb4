/- A part of the proof: lemmas only; nothing is claimed here beyond what each lemma says. -/
import Derived.Test.YtfggcaohidajkaaGty
set_option linter.unusedSimpArgs false
set_option linter.unusedVariables false
set_option linter.defProp false
set_option maxRecDepth 4000
namespace Go.Proofs.Ytfggcaohidajkaa
open Go.Av
noncomputable section
def spec_l1In (a0 : Int) (a1 : Int) (a2 : Int) : Option Bool :=
  bif decide (a1 ≤ a0) then
    some (decide (a0 ≤ a2))
  else
    some false

def spec_l23Numeral (a0 : Int) : Option Term :=
  Option.bind (bnd (a0)) fun N3 =>
  thenL (ρ := Term) (σ := ByteArray × (List Term)) (forN (fun (i3 : Nat) (s3 : ByteArray × (List Term)) =>
    some (.nx ((⟨#[115]⟩ : ByteArray), [(Term.mk s3.1 s3.2)]))) N3 0 ((⟨#[122, 101, 114, 111]⟩ : ByteArray), [])) fun s3 =>
  some (Term.mk s3.1 s3.2)

def spec_NumeralOf (a0 : Int) : Option (Term × Bool) :=
  Option.bind (spec_l1In a0 (0 : Int) (7 : Int)) fun v5 =>
  bif v5 then
    Option.bind (spec_l23Numeral a0) fun v9 =>
    some (v9, true)
  else
    some ((Term.mk (⟨#[]⟩ : ByteArray) ([])), false)

def impl_within (a0 : Int) (a1 : Int) (a2 : Int) : Option Bool :=
  bif decide (a1 ≤ a0) then
    some (decide (a0 ≤ a2))
  else
    some false

def impl_zero  : Option Term :=
  some (Term.mk (⟨#[122, 101, 114, 111]⟩ : ByteArray) ([]))

def impl_successor (a0 : Term) : Option Term :=
  some (Term.mk (⟨#[115]⟩ : ByteArray) ([a0]))

def impl_numeral (a0 : Int) : Option Term :=
  Option.bind (impl_zero ) fun v4 =>
  Option.bind (bnd (a0)) fun N3 =>
  thenL (ρ := Term) (σ := ByteArray × (List Term)) (forN (fun (i3 : Nat) (s3 : ByteArray × (List Term)) =>
    Option.bind (impl_successor (Term.mk s3.1 s3.2)) fun v9 =>
    some (.nx (v9.Name, v9.Args))) N3 0 (v4.Name, v4.Args)) fun s3 =>
  some (Term.mk s3.1 s3.2)

def impl_NumeralOf (a0 : Int) : Option (Term × Bool) :=
  Option.bind (impl_within a0 (0 : Int) (7 : Int)) fun v5 =>
  bif v5 then
    Option.bind (impl_numeral a0) fun v9 =>
    some (v9, true)
  else
    some ((Term.mk (⟨#[]⟩ : ByteArray) ([])), false)

mutual
def eqTermN : Nat → Term → Term → Option Bool
  | 0, _, _ => none
  | n + 1, a0, a1 =>
    bif decide (a0.Name = a1.Name) then
      Option.bind (eqTermSN n a0.Args a1.Args) fun v14 =>
      bif v14 then
        some true
      else
        some false
    else
      some false
def eqTermSN : Nat → (List Term) → (List Term) → Option Bool
  | 0, _, _ => none
  | n + 1, a0, a1 =>
    bif decide ((a0.length : Int) = (a1.length : Int)) then
      thenL (ρ := Bool) (σ := Unit) (forN (fun (i4 : Nat) (s4 : Unit) =>
        Option.bind (idx a0 (i4 : Int)) fun v19 =>
        Option.bind (idx a1 (i4 : Int)) fun v23 =>
        Option.bind (eqTermN n v19 v23) fun v25 =>
        bif v25 then
          some (.nx ())
        else
          some (.rt false)) a0.length 0 ()) fun s4 =>
      some true
    else
      some false
end
def eqTerm (a0 : Term) (a1 : Term) : Option Bool := lim fun n => eqTermN n a0 a1
def eqTermS (a0 : List Term) (a1 : List Term) : Option Bool := lim fun n => eqTermSN n a0 a1

mutual
def szTermN : Nat → Term → Int → Option Int
  | 0, _, _ => none
  | n + 1, a0, a1 =>
    bif decide ((IntKind.i64.wrap (a1 - (a0.Name.size : Int))) < (0 : Int)) then
      some (-1 : Int)
    else
      Option.bind (szTermSN n a0.Args (IntKind.i64.wrap (a1 - (a0.Name.size : Int)))) fun v15 =>
      bif decide (v15 < (0 : Int)) then
        some (-1 : Int)
      else
        some v15
def szTermSN : Nat → (List Term) → Int → Option Int
  | 0, _, _ => none
  | n + 1, a0, a1 =>
    bif decide ((IntKind.i64.wrap (a1 - (a0.length : Int))) < (0 : Int)) then
      some (-1 : Int)
    else
      thenL (ρ := Int) (σ := Int) (forN (fun (i5 : Nat) (s5 : Int) =>
        Option.bind (idx a0 (i5 : Int)) fun v20 =>
        Option.bind (szTermN n v20 s5) fun v23 =>
        bif decide (v23 < (0 : Int)) then
          some (.rt (-1 : Int))
        else
          some (.nx v23)) a0.length 0 (IntKind.i64.wrap (a1 - (a0.length : Int)))) fun s5 =>
      some s5
end
def szTerm (a0 : Term) (a1 : Int) : Option Int := lim fun n => szTermN n a0 a1
def szTermS (a0 : List Term) (a1 : Int) : Option Int := lim fun n => szTermSN n a0 a1

mutual
def toTermN : Nat → Term → Option Term
  | 0, _ => none
  | n + 1, a0 =>
    Option.bind (toTermSN n a0.Args) fun v9 =>
    some (Term.mk a0.Name v9)
def toTermSN : Nat → (List Term) → Option (List Term)
  | 0, _ => none
  | n + 1, a0 =>
    Option.bind (mkn (a0.length : Int)) fun n7 =>
    thenL (ρ := (List Term)) (σ := (List Term)) (forN (fun (i3 : Nat) (s3 : (List Term)) =>
      Option.bind (idx a0 (i3 : Int)) fun v18 =>
      Option.bind (toTermN n v18) fun v20 =>
      Option.bind (idx s3 (i3 : Int)) fun v21 =>
      Option.bind (idx s3 (i3 : Int)) fun w2 =>
      some (.nx (s3.set (i3 : Int).toNat v20))) a0.length 0 (List.replicate n7 (Term.mk (⟨#[]⟩ : ByteArray) ([])))) fun s3 =>
    some s3
end
def toTerm (a0 : Term) : Option Term := lim fun n => toTermN n a0
def toTermS (a0 : List Term) : Option (List Term) := lim fun n => toTermSN n a0

def spec_NumeralValue (a0 : Term) : Option (Int × Bool) :=
  thenL (ρ := (Int × Bool)) (σ := Term × Int) (lim fun n2 => whileN (fun (s2 : Term × Int) =>
    bif decide (s2.1.Name = (⟨#[115]⟩ : ByteArray)) then
      bif decide ((s2.1.Args.length : Int) = (1 : Int)) then
        bif decide (s2.2 ≤ (7 : Int)) then
          Option.bind (idx s2.1.Args (0 : Int)) fun v20 =>
          some (.nx (v20, IntKind.i64.wrap (s2.2 + (1 : Int))))
        else
          some (.br s2)
      else
        some (.br s2)
    else
      some (.br s2)) n2 (a0, (0 : Int))) fun s2 =>
  bif decide (s2.1.Name = (⟨#[122, 101, 114, 111]⟩ : ByteArray)) then
    bif decide ((0 : Int) < (s2.1.Args.length : Int)) then
      some ((0 : Int), false)
    else
      bif decide ((7 : Int) < s2.2) then
        some ((0 : Int), false)
      else
        some (s2.2, true)
  else
    some ((0 : Int), false)

def slices_EqualFunc_Simpl_Term_Simpl_Term_impl_Term_impl_Term (a0 : List Term) (a1 : List Term) (a2 : Term → Term → Option Bool) : Option Bool :=
  bif decide ((a0.length : Int) = (a1.length : Int)) then
    thenL (ρ := Bool) (σ := Unit) (forN (fun (i4 : Nat) (s4 : Unit) =>
      Option.bind (idx a0 (i4 : Int)) fun v20 =>
      Option.bind (idx a1 (i4 : Int)) fun v24 =>
      Option.bind (a2 v20 v24) fun v29 =>
      bif v29 then
        some (.nx ())
      else
        some (.rt false)) a0.length 0 ()) fun s4 =>
    some true
  else
    some false

def impl_EqualTermsN : Nat → Term → Term → Option Bool
  | 0, _, _ => none
  | n + 1, a0, a1 =>
    bif decide (a0.Name = a1.Name) then
      Option.bind (slices_EqualFunc_Simpl_Term_Simpl_Term_impl_Term_impl_Term a0.Args a1.Args (fun y0 y1 => impl_EqualTermsN n y0 y1)) fun v15 =>
      some v15
    else
      some false
def impl_EqualTerms (a0 : Term) (a1 : Term) : Option Bool := lim fun n => impl_EqualTermsN n a0 a1

def impl_NumeralValue (a0 : Term) : Option (Int × Bool) :=
  thenL (ρ := (Int × Bool)) (σ := Unit) (forN (fun (i2 : Nat) (s2 : Unit) =>
    Option.bind (impl_numeral (i2 : Int)) fun v10 =>
    Option.bind (impl_EqualTerms a0 v10) fun v11 =>
    bif v11 then
      some (.rt ((i2 : Int), true))
    else
      some (.nx ())) 8 0 ()) fun s2 =>
  some ((0 : Int), false)

def FnExactNumeralValue (a0 : Term) : Option Bool :=
  Option.bind (szTerm a0 (1048576 : Int)) fun v11 =>
  bif decide (v11 < (0 : Int)) then
    some true
  else
    Option.bind (toTerm a0) fun v16 =>
    Option.bind (spec_NumeralValue v16) fun v17 =>
    Option.bind (toTerm a0) fun v21 =>
    Option.bind (impl_NumeralValue v21) fun v24 =>
    bif decide (v24.1 = v17.1) then
      bif v24.2 == v17.2 then
        Option.bind (toTerm a0) fun v37 =>
        Option.bind (eqTerm v21 v37) fun v38 =>
        bif v38 then
          some true
        else
          some false
      else
        some false
    else
      some false

def szSizeEdgeS (a0 : List SizeEdge) (a1 : Int) : Option Int :=
  bif decide ((IntKind.i64.wrap (a1 - (a0.length : Int))) < (0 : Int)) then
    some (-1 : Int)
  else
    some (IntKind.i64.wrap (a1 - (a0.length : Int)))

def szSizeGraph (a0 : SizeGraph) (a1 : Int) : Option Int :=
  Option.bind (szSizeEdgeS a0.Edges a1) fun v8 =>
  bif decide (v8 < (0 : Int)) then
    some (-1 : Int)
  else
    some v8

def toSizeEdge (a0 : SizeEdge) : Option SizeEdge :=
  some a0

def toSizeEdgeS (a0 : List SizeEdge) : Option (List SizeEdge) :=
  Option.bind (mkn (a0.length : Int)) fun n7 =>
  thenL (ρ := (List SizeEdge)) (σ := (List SizeEdge)) (forN (fun (i3 : Nat) (s3 : (List SizeEdge)) =>
    Option.bind (idx a0 (i3 : Int)) fun v18 =>
    Option.bind (toSizeEdge v18) fun v20 =>
    Option.bind (idx s3 (i3 : Int)) fun v21 =>
    Option.bind (idx s3 (i3 : Int)) fun w2 =>
    some (.nx (s3.set (i3 : Int).toNat v20))) a0.length 0 (List.replicate n7 (SizeEdge.mk (0 : Int) (0 : Int) false))) fun s3 =>
  some s3

def toSizeGraph (a0 : SizeGraph) : Option SizeGraph :=
  Option.bind (toSizeEdgeS a0.Edges) fun v12 =>
  some (SizeGraph.mk a0.Source a0.Target v12)

def spec_l24Graph (a0 : SizeGraph) : Option Bool :=
  Option.bind (spec_l1In a0.Source (0 : Int) (5 : Int)) fun v7 =>
  bif v7 then
    Option.bind (spec_l1In a0.Target (0 : Int) (5 : Int)) fun v12 =>
    bif v12 then
      thenL (ρ := Bool) (σ := Unit) (forN (fun (i4 : Nat) (s4 : Unit) =>
        Option.bind (idx a0.Edges (i4 : Int)) fun v25 =>
        Option.bind (spec_l1In v25.From (0 : Int) (3 : Int)) fun v29 =>
        bif v29 then
          Option.bind (spec_l1In v25.To (0 : Int) (3 : Int)) fun v34 =>
          bif v34 then
            bif decide ((0 : Int) < (i4 : Int)) then
              Option.bind (idx a0.Edges (IntKind.i64.wrap ((i4 : Int) - (1 : Int)))) fun v44 =>
              Option.bind (idx a0.Edges (IntKind.i64.wrap ((i4 : Int) - (1 : Int)))) fun v52 =>
              bif decide ((IntKind.i64.wrap ((IntKind.i64.wrap (v25.From * (4 : Int))) + v25.To)) ≤ (IntKind.i64.wrap ((IntKind.i64.wrap (v44.From * (4 : Int))) + v52.To))) then
                some (.rt false)
              else
                some (.nx ())
            else
              some (.nx ())
          else
            some (.rt false)
        else
          some (.rt false)) a0.Edges.length 0 ()) fun s4 =>
      some true
    else
      some false
  else
    some false

def spec_IsValidGraph (a0 : SizeGraph) : Option Bool :=
  Option.bind (spec_l24Graph a0) fun v4 =>
  some v4

def cmp_isNaN_int (a0 : Int) : Option Bool :=
  some (!(decide (a0 = a0)))

def cmp_Compare_int (a0 : Int) (a1 : Int) : Option Int :=
  Option.bind (cmp_isNaN_int a0) fun v8 =>
  Option.bind (cmp_isNaN_int a1) fun v10 =>
  bif v8 then
    bif v10 then
      some (0 : Int)
    else
      some (-1 : Int)
  else
    bif v10 then
      some (1 : Int)
    else
      bif decide (a0 < a1) then
        some (-1 : Int)
      else
        bif decide (a1 < a0) then
          some (1 : Int)
        else
          some (0 : Int)

def cmp_Or_int (a0 : List Int) : Option Int :=
  thenL (ρ := Int) (σ := Unit) (forN (fun (i3 : Nat) (s3 : Unit) =>
    Option.bind (idx a0 (i3 : Int)) fun v10 =>
    bif decide (v10 = (0 : Int)) then
      some (.nx ())
    else
      some (.rt v10)) a0.length 0 ()) fun s3 =>
  some (0 : Int)

def impl_compareEdges (a0 : SizeEdge) (a1 : SizeEdge) : Option Int :=
  Option.bind (cmp_Compare_int a0.From a1.From) fun v9 =>
  Option.bind (cmp_Compare_int a0.To a1.To) fun v14 =>
  Option.bind (cmp_Or_int ([v9, v14])) fun v16 =>
  some v16

def impl_IsValidGraph (a0 : SizeGraph) : Option Bool :=
  thenL (ρ := Bool) (σ := Unit) (forN (fun (i2 : Nat) (s2 : Unit) =>
    Option.bind (idx a0.Edges (i2 : Int)) fun v11 =>
    Option.bind (impl_within v11.From (0 : Int) (3 : Int)) fun v15 =>
    bif v15 then
      Option.bind (impl_within v11.To (0 : Int) (3 : Int)) fun v20 =>
      bif v20 then
        bif decide ((0 : Int) < (i2 : Int)) then
          Option.bind (idx a0.Edges (IntKind.i64.wrap ((i2 : Int) - (1 : Int)))) fun v31 =>
          Option.bind (impl_compareEdges v31 v11) fun v34 =>
          bif decide ((0 : Int) ≤ v34) then
            some (.rt false)
          else
            some (.nx ())
        else
          some (.nx ())
      else
        some (.rt false)
    else
      some (.rt false)) a0.Edges.length 0 ()) fun s2 =>
  Option.bind (impl_within a0.Source (0 : Int) (5 : Int)) fun v41 =>
  bif v41 then
    Option.bind (impl_within a0.Target (0 : Int) (5 : Int)) fun v45 =>
    some v45
  else
    some false

def eqSizeEdge (a0 : SizeEdge) (a1 : SizeEdge) : Option Bool :=
  bif decide (a0.From = a1.From) then
    bif decide (a0.To = a1.To) then
      bif a0.Strict == a1.Strict then
        some true
      else
        some false
    else
      some false
  else
    some false

def eqSizeEdgeS (a0 : List SizeEdge) (a1 : List SizeEdge) : Option Bool :=
  bif decide ((a0.length : Int) = (a1.length : Int)) then
    thenL (ρ := Bool) (σ := Unit) (forN (fun (i4 : Nat) (s4 : Unit) =>
      Option.bind (idx a0 (i4 : Int)) fun v19 =>
      Option.bind (idx a1 (i4 : Int)) fun v23 =>
      Option.bind (eqSizeEdge v19 v23) fun v25 =>
      bif v25 then
        some (.nx ())
      else
        some (.rt false)) a0.length 0 ()) fun s4 =>
    some true
  else
    some false

def eqSizeGraph (a0 : SizeGraph) (a1 : SizeGraph) : Option Bool :=
  bif decide (a0.Source = a1.Source) then
    bif decide (a0.Target = a1.Target) then
      Option.bind (eqSizeEdgeS a0.Edges a1.Edges) fun v19 =>
      bif v19 then
        some true
      else
        some false
    else
      some false
  else
    some false

def FnExactIsValidGraph (a0 : SizeGraph) : Option Bool :=
  Option.bind (szSizeGraph a0 (1048576 : Int)) fun v9 =>
  bif decide (v9 < (0 : Int)) then
    some true
  else
    Option.bind (toSizeGraph a0) fun v13 =>
    Option.bind (spec_IsValidGraph v13) fun v14 =>
    Option.bind (toSizeGraph a0) fun v16 =>
    Option.bind (impl_IsValidGraph v16) fun v18 =>
    bif v18 == v14 then
      Option.bind (toSizeGraph a0) fun v24 =>
      Option.bind (eqSizeGraph v16 v24) fun v25 =>
      bif v25 then
        some true
      else
        some false
    else
      some false

def szStringS (a0 : List ByteArray) (a1 : Int) : Option Int :=
  bif decide ((IntKind.i64.wrap (a1 - (a0.length : Int))) < (0 : Int)) then
    some (-1 : Int)
  else
    thenL (ρ := Int) (σ := Int) (forN (fun (i5 : Nat) (s5 : Int) =>
      Option.bind (idx a0 (i5 : Int)) fun v21 =>
      bif decide ((IntKind.i64.wrap (s5 - (v21.size : Int))) < (0 : Int)) then
        some (.rt (-1 : Int))
      else
        some (.nx (IntKind.i64.wrap (s5 - (v21.size : Int))))) a0.length 0 (IntKind.i64.wrap (a1 - (a0.length : Int)))) fun s5 =>
    some s5

def szIntS (a0 : List Int) (a1 : Int) : Option Int :=
  bif decide ((IntKind.i64.wrap (a1 - (a0.length : Int))) < (0 : Int)) then
    some (-1 : Int)
  else
    some (IntKind.i64.wrap (a1 - (a0.length : Int)))

def szLinear (a0 : Linear) (a1 : Int) : Option Int :=
  Option.bind (szStringS a0.Vars a1) fun v8 =>
  bif decide (v8 < (0 : Int)) then
    some (-1 : Int)
  else
    Option.bind (szIntS a0.Slopes v8) fun v14 =>
    bif decide (v14 < (0 : Int)) then
      some (-1 : Int)
    else
      some v14

def toStringS (a0 : List ByteArray) : Option (List ByteArray) :=
  Option.bind (mkn (a0.length : Int)) fun n7 =>
  thenL (ρ := (List ByteArray)) (σ := (List ByteArray)) (forN (fun (i3 : Nat) (s3 : (List ByteArray)) =>
    Option.bind (idx a0 (i3 : Int)) fun v18 =>
    Option.bind (idx s3 (i3 : Int)) fun v20 =>
    Option.bind (idx s3 (i3 : Int)) fun w2 =>
    some (.nx (s3.set (i3 : Int).toNat v18))) a0.length 0 (List.replicate n7 (⟨#[]⟩ : ByteArray))) fun s3 =>
  some s3

def toIntS (a0 : List Int) : Option (List Int) :=
  Option.bind (mkn (a0.length : Int)) fun n7 =>
  thenL (ρ := (List Int)) (σ := (List Int)) (forN (fun (i3 : Nat) (s3 : (List Int)) =>
    Option.bind (idx a0 (i3 : Int)) fun v18 =>
    Option.bind (idx s3 (i3 : Int)) fun v20 =>
    Option.bind (idx s3 (i3 : Int)) fun w2 =>
    some (.nx (s3.set (i3 : Int).toNat v18))) a0.length 0 (List.replicate n7 (0 : Int))) fun s3 =>
  some s3

def toLinear (a0 : Linear) : Option Linear :=
  Option.bind (toStringS a0.Vars) fun v6 =>
  Option.bind (toIntS a0.Slopes) fun v10 =>
  some (Linear.mk v6 v10 a0.Constant)

def spec_l2Small (a0 : Int) : Option Bool :=
  bif decide ((97 : Int) ≤ a0) then
    bif decide (a0 ≤ (122 : Int)) then
      some true
    else
      bif decide ((48 : Int) ≤ a0) then
        some (decide (a0 ≤ (57 : Int)))
      else
        some false
  else
    bif decide ((48 : Int) ≤ a0) then
      some (decide (a0 ≤ (57 : Int)))
    else
      some false

def spec_l2Var (a0 : ByteArray) : Option Bool :=
  Option.bind (spec_l1In (a0.size : Int) (1 : Int) (4 : Int)) fun v6 =>
  bif v6 then
    Option.bind (sidx a0 (0 : Int)) fun v10 =>
    bif decide (v10 < (65 : Int)) then
      some false
    else
      Option.bind (sidx a0 (0 : Int)) fun v15 =>
      bif decide ((90 : Int) < v15) then
        some false
      else
        Option.bind (bnd (a0.size : Int)) fun N4 =>
        thenL (ρ := Bool) (σ := Unit) (forN (fun (i4 : Nat) (s4 : Unit) =>
          Option.bind (sidx a0 (i4 : Int)) fun v26 =>
          Option.bind (spec_l2Small v26) fun v27 =>
          bif v27 then
            some (.nx ())
          else
            some (.rt false)) (N4 - 1) 1 ()) fun s4 =>
        some true
  else
    some false

def spec_l25Linear (a0 : Linear) : Option Bool :=
  bif decide ((8 : Int) < (a0.Vars.length : Int)) then
    some false
  else
    bif decide ((a0.Slopes.length : Int) = (a0.Vars.length : Int)) then
      Option.bind (spec_l1In a0.Constant (0 : Int) (100000 : Int)) fun v20 =>
      bif v20 then
        thenL (ρ := Bool) (σ := Unit) (forN (fun (i4 : Nat) (s4 : Unit) =>
          Option.bind (idx a0.Vars (i4 : Int)) fun v33 =>
          Option.bind (spec_l2Var v33) fun v35 =>
          bif v35 then
            Option.bind (idx a0.Slopes (i4 : Int)) fun v41 =>
            Option.bind (spec_l1In v41 (1 : Int) (1000 : Int)) fun v43 =>
            bif v43 then
              bif decide ((0 : Int) < (i4 : Int)) then
                Option.bind (idx a0.Vars (IntKind.i64.wrap ((i4 : Int) - (1 : Int)))) fun v54 =>
                Option.bind (idx a0.Vars (i4 : Int)) fun v59 =>
                bif Op.bytesLess v54.data.toList v59.data.toList then
                  some (.nx ())
                else
                  some (.rt false)
              else
                some (.nx ())
            else
              some (.rt false)
          else
            some (.rt false)) a0.Vars.length 0 ()) fun s4 =>
        some true
      else
        some false
    else
      some false

def spec_IsValidLinear (a0 : Linear) : Option Bool :=
  Option.bind (spec_l25Linear a0) fun v4 =>
  some v4

def impl_isUpper (a0 : Int) : Option Bool :=
  bif decide ((65 : Int) ≤ a0) then
    some (decide (a0 ≤ (90 : Int)))
  else
    some false

def impl_isLower (a0 : Int) : Option Bool :=
  bif decide ((97 : Int) ≤ a0) then
    some (decide (a0 ≤ (122 : Int)))
  else
    some false

def impl_isDigit (a0 : Int) : Option Bool :=
  bif decide ((48 : Int) ≤ a0) then
    some (decide (a0 ≤ (57 : Int)))
  else
    some false

def impl_isVariable (a0 : ByteArray) : Option Bool :=
  Option.bind (bnd (a0.size : Int)) fun N2 =>
  thenL (ρ := Bool) (σ := Unit) (forN (fun (i2 : Nat) (s2 : Unit) =>
    bif decide ((i2 : Int) = (0 : Int)) then
      Option.bind (sidx a0 (i2 : Int)) fun v14 =>
      Option.bind (impl_isUpper v14) fun v15 =>
      bif v15 then
        bif decide ((0 : Int) < (i2 : Int)) then
          Option.bind (sidx a0 (i2 : Int)) fun v24 =>
          Option.bind (impl_isLower v24) fun v25 =>
          bif v25 then
            some (.nx ())
          else
            Option.bind (sidx a0 (i2 : Int)) fun v31 =>
            Option.bind (impl_isDigit v31) fun v32 =>
            bif v32 then
              some (.nx ())
            else
              some (.rt false)
        else
          some (.nx ())
      else
        some (.rt false)
    else
      bif decide ((0 : Int) < (i2 : Int)) then
        Option.bind (sidx a0 (i2 : Int)) fun v24 =>
        Option.bind (impl_isLower v24) fun v25 =>
        bif v25 then
          some (.nx ())
        else
          Option.bind (sidx a0 (i2 : Int)) fun v31 =>
          Option.bind (impl_isDigit v31) fun v32 =>
          bif v32 then
            some (.nx ())
          else
            some (.rt false)
      else
        some (.nx ())) N2 0 ()) fun s2 =>
  Option.bind (impl_within (a0.size : Int) (1 : Int) (4 : Int)) fun v39 =>
  some v39

def impl_IsValidLinear (a0 : Linear) : Option Bool :=
  bif decide ((8 : Int) < (a0.Vars.length : Int)) then
    some false
  else
    bif decide ((a0.Slopes.length : Int) = (a0.Vars.length : Int)) then
      Option.bind (impl_within a0.Constant (0 : Int) (100000 : Int)) fun v21 =>
      bif v21 then
        thenL (ρ := Bool) (σ := Unit) (forN (fun (i4 : Nat) (s4 : Unit) =>
          Option.bind (idx a0.Vars (i4 : Int)) fun v30 =>
          Option.bind (impl_isVariable v30) fun v33 =>
          bif v33 then
            bif decide ((0 : Int) < (i4 : Int)) then
              Option.bind (idx a0.Vars (IntKind.i64.wrap ((i4 : Int) - (1 : Int)))) fun v44 =>
              bif Op.bytesLess v30.data.toList v44.data.toList || decide (v30 = v44) then
                some (.rt false)
              else
                Option.bind (idx a0.Slopes (i4 : Int)) fun v53 =>
                Option.bind (impl_within v53 (1 : Int) (1000 : Int)) fun v55 =>
                bif v55 then
                  some (.nx ())
                else
                  some (.rt false)
            else
              Option.bind (idx a0.Slopes (i4 : Int)) fun v53 =>
              Option.bind (impl_within v53 (1 : Int) (1000 : Int)) fun v55 =>
              bif v55 then
                some (.nx ())
              else
                some (.rt false)
          else
            some (.rt false)) a0.Vars.length 0 ()) fun s4 =>
        some true
      else
        some false
    else
      some false

def eqStringS (a0 : List ByteArray) (a1 : List ByteArray) : Option Bool :=
  bif decide ((a0.length : Int) = (a1.length : Int)) then
    thenL (ρ := Bool) (σ := Unit) (forN (fun (i4 : Nat) (s4 : Unit) =>
      Option.bind (idx a0 (i4 : Int)) fun v19 =>
      Option.bind (idx a1 (i4 : Int)) fun v23 =>
      bif decide (v19 = v23) then
        some (.nx ())
      else
        some (.rt false)) a0.length 0 ()) fun s4 =>
    some true
  else
    some false

def eqIntS (a0 : List Int) (a1 : List Int) : Option Bool :=
  bif decide ((a0.length : Int) = (a1.length : Int)) then
    thenL (ρ := Bool) (σ := Unit) (forN (fun (i4 : Nat) (s4 : Unit) =>
      Option.bind (idx a0 (i4 : Int)) fun v19 =>
      Option.bind (idx a1 (i4 : Int)) fun v23 =>
      bif decide (v19 = v23) then
        some (.nx ())
      else
        some (.rt false)) a0.length 0 ()) fun s4 =>
    some true
  else
    some false

def eqLinear (a0 : Linear) (a1 : Linear) : Option Bool :=
  Option.bind (eqStringS a0.Vars a1.Vars) fun v9 =>
  bif v9 then
    Option.bind (eqIntS a0.Slopes a1.Slopes) fun v15 =>
    bif v15 then
      bif decide (a0.Constant = a1.Constant) then
        some true
      else
        some false
    else
      some false
  else
    some false

def FnExactIsValidLinear (a0 : Linear) : Option Bool :=
  Option.bind (szLinear a0 (1048576 : Int)) fun v9 =>
  bif decide (v9 < (0 : Int)) then
    some true
  else
    Option.bind (toLinear a0) fun v13 =>
    Option.bind (spec_IsValidLinear v13) fun v14 =>
    Option.bind (toLinear a0) fun v16 =>
    Option.bind (impl_IsValidLinear v16) fun v18 =>
    bif v18 == v14 then
      Option.bind (toLinear a0) fun v24 =>
      Option.bind (eqLinear v16 v24) fun v25 =>
      bif v25 then
        some true
      else
        some false
    else
      some false

def spec_EvaluateLinear (a0 : Linear) (a1 : List Int) : Option (Int × Bool) :=
  Option.bind (spec_l25Linear a0) fun v9 =>
  bif v9 then
    bif decide ((a1.length : Int) = (a0.Vars.length : Int)) then
      thenL (ρ := (Int × Bool)) (σ := Int) (forN (fun (i5 : Nat) (s5 : Int) =>
        Option.bind (idx a1 (i5 : Int)) fun v29 =>
        Option.bind (spec_l1In v29 (0 : Int) (100000 : Int)) fun v31 =>
        bif v31 then
          Option.bind (idx a0.Slopes (i5 : Int)) fun v37 =>
          Option.bind (idx a1 (i5 : Int)) fun v41 =>
          some (.nx (IntKind.i64.wrap (s5 + (IntKind.i64.wrap (v37 * v41)))))
        else
          some (.rt ((0 : Int), false))) a1.length 0 a0.Constant) fun s5 =>
      some (s5, true)
    else
      some ((0 : Int), false)
  else
    some ((0 : Int), false)

def impl_EvaluateLinear_1 (a0 : Int) : Option Bool :=
  Option.bind (impl_within a0 (0 : Int) (100000 : Int)) fun v4 =>
  some (!v4)

def slices_IndexFunc_Sint_int (a0 : List Int) (a1 : Int → Option Bool) : Option Int :=
  thenL (ρ := Int) (σ := Unit) (forN (fun (i2 : Nat) (s2 : Unit) =>
    Option.bind (idx a0 (i2 : Int)) fun v14 =>
    Option.bind (a1 v14) fun v16 =>
    bif v16 then
      some (.rt (i2 : Int))
    else
      some (.nx ())) a0.length 0 ()) fun s2 =>
  some (-1 : Int)

def slices_ContainsFunc_Sint_int (a0 : List Int) (a1 : Int → Option Bool) : Option Bool :=
  Option.bind (slices_IndexFunc_Sint_int a0 a1) fun v7 =>
  some (decide ((0 : Int) ≤ v7))

def impl_EvaluateLinear (a0 : Linear) (a1 : List Int) : Option (Int × Bool) :=
  Option.bind (impl_IsValidLinear a0) fun v10 =>
  bif v10 then
    bif decide ((a1.length : Int) = (a0.Vars.length : Int)) then
      Option.bind (slices_ContainsFunc_Sint_int a1 (fun y0 => impl_EvaluateLinear_1 y0)) fun v22 =>
      bif v22 then
        some ((0 : Int), false)
      else
        thenL (ρ := (Int × Bool)) (σ := Int) (forN (fun (i5 : Nat) (s5 : Int) =>
          Option.bind (idx a1 (i5 : Int)) fun v31 =>
          Option.bind (idx a0.Slopes (i5 : Int)) fun v38 =>
          some (.nx (IntKind.i64.wrap (s5 + (IntKind.i64.wrap (v31 * v38)))))) a1.length 0 a0.Constant) fun s5 =>
        some (s5, true)
    else
      some ((0 : Int), false)
  else
    some ((0 : Int), false)

def FnExactEvaluateLinear (a0 : Linear) (a1 : List Int) : Option Bool :=
  bif decide ((1048576 : Int) < (a1.length : Int)) then
    some true
  else
    Option.bind (szLinear a0 (1048576 : Int)) fun v17 =>
    bif decide (v17 < (0 : Int)) then
      some true
    else
      Option.bind (toLinear a0) fun v22 =>
      Option.bind (toIntS a1) fun v24 =>
      Option.bind (spec_EvaluateLinear v22 v24) fun v25 =>
      Option.bind (toLinear a0) fun v29 =>
      Option.bind (toIntS a1) fun v31 =>
      Option.bind (impl_EvaluateLinear v29 v31) fun v35 =>
      bif decide (v35.1 = v25.1) then
        bif v35.2 == v25.2 then
          Option.bind (toLinear a0) fun v48 =>
          Option.bind (eqLinear v29 v48) fun v49 =>
          bif v49 then
            Option.bind (toIntS a1) fun v53 =>
            Option.bind (eqIntS v31 v53) fun v54 =>
            bif v54 then
              some true
            else
              some false
          else
            some false
        else
          some false
      else
        some false

def szMajorant (a0 : Majorant) (a1 : Int) : Option Int :=
  bif decide ((IntKind.i64.wrap (a1 - (a0.Name.size : Int))) < (0 : Int)) then
    some (-1 : Int)
  else
    Option.bind (szIntS a0.Slopes (IntKind.i64.wrap (a1 - (a0.Name.size : Int)))) fun v15 =>
    bif decide (v15 < (0 : Int)) then
      some (-1 : Int)
    else
      some v15

def szMajorantS (a0 : List Majorant) (a1 : Int) : Option Int :=
  bif decide ((IntKind.i64.wrap (a1 - (a0.length : Int))) < (0 : Int)) then
    some (-1 : Int)
  else
    thenL (ρ := Int) (σ := Int) (forN (fun (i5 : Nat) (s5 : Int) =>
      Option.bind (idx a0 (i5 : Int)) fun v20 =>
      Option.bind (szMajorant v20 s5) fun v23 =>
      bif decide (v23 < (0 : Int)) then
        some (.rt (-1 : Int))
      else
        some (.nx v23)) a0.length 0 (IntKind.i64.wrap (a1 - (a0.length : Int)))) fun s5 =>
    some s5

def toMajorant (a0 : Majorant) : Option Majorant :=
  Option.bind (toIntS a0.Slopes) fun v9 =>
  some (Majorant.mk a0.Name v9 a0.Constant)

def toMajorantS (a0 : List Majorant) : Option (List Majorant) :=
  Option.bind (mkn (a0.length : Int)) fun n7 =>
  thenL (ρ := (List Majorant)) (σ := (List Majorant)) (forN (fun (i3 : Nat) (s3 : (List Majorant)) =>
    Option.bind (idx a0 (i3 : Int)) fun v18 =>
    Option.bind (toMajorant v18) fun v20 =>
    Option.bind (idx s3 (i3 : Int)) fun v21 =>
    Option.bind (idx s3 (i3 : Int)) fun w2 =>
    some (.nx (s3.set (i3 : Int).toNat v20))) a0.length 0 (List.replicate n7 (Majorant.mk (⟨#[]⟩ : ByteArray) ([]) (0 : Int)))) fun s3 =>
  some s3

def spec_l2Symbol (a0 : ByteArray) : Option Bool :=
  Option.bind (spec_l1In (a0.size : Int) (1 : Int) (6 : Int)) fun v6 =>
  bif v6 then
    Option.bind (sidx a0 (0 : Int)) fun v10 =>
    bif decide (v10 < (97 : Int)) then
      some false
    else
      Option.bind (sidx a0 (0 : Int)) fun v15 =>
      bif decide ((122 : Int) < v15) then
        some false
      else
        bif decide (a0 = (⟨#[116, 114, 117, 101]⟩ : ByteArray)) then
          some false
        else
          bif decide (a0 = (⟨#[102, 97, 108, 115, 101]⟩ : ByteArray)) then
            some false
          else
            bif decide (a0 = (⟨#[116, 114, 117, 116, 104]⟩ : ByteArray)) then
              some false
            else
              bif decide (a0 = (⟨#[98, 111, 116, 104]⟩ : ByteArray)) then
                some false
              else
                bif decide (a0 = (⟨#[101, 105, 116, 104, 101, 114]⟩ : ByteArray)) then
                  some false
                else
                  bif decide (a0 = (⟨#[105, 102]⟩ : ByteArray)) then
                    some false
                  else
                    bif decide (a0 = (⟨#[97, 108, 108]⟩ : ByteArray)) then
                      some false
                    else
                      bif decide (a0 = (⟨#[115, 111, 109, 101]⟩ : ByteArray)) then
                        some false
                      else
                        Option.bind (bnd (a0.size : Int)) fun N14 =>
                        thenL (ρ := Bool) (σ := Unit) (forN (fun (i14 : Nat) (s14 : Unit) =>
                          Option.bind (sidx a0 (i14 : Int)) fun v36 =>
                          Option.bind (spec_l2Small v36) fun v37 =>
                          bif v37 then
                            some (.nx ())
                          else
                            Option.bind (sidx a0 (i14 : Int)) fun v42 =>
                            bif decide (v42 = (95 : Int)) then
                              some (.nx ())
                            else
                              some (.rt false)) (N14 - 1) 1 ()) fun s14 =>
                        some true
  else
    some false

def spec_l25List (a0 : List Majorant) : Option Bool :=
  bif decide ((8 : Int) < (a0.length : Int)) then
    some false
  else
    thenL (ρ := Bool) (σ := Unit) (forN (fun (i4 : Nat) (s4 : Unit) =>
      Option.bind (idx a0 (i4 : Int)) fun v17 =>
      Option.bind (spec_l2Symbol v17.Name) fun v21 =>
      bif v21 then
        bif decide ((4 : Int) < (v17.Slopes.length : Int)) then
          some (.rt false)
        else
          Option.bind (spec_l1In v17.Constant (0 : Int) (100000 : Int)) fun v32 =>
          bif v32 then
            thenL (ρ := (Flow Bool Unit)) (σ := Unit) (forN (fun (i10 : Nat) (s10 : Unit) =>
              Option.bind (idx v17.Slopes (i10 : Int)) fun v45 =>
              Option.bind (spec_l1In v45 (0 : Int) (1000 : Int)) fun v47 =>
              bif v47 then
                some (.nx ())
              else
                some (.rt (.rt false))) v17.Slopes.length 0 ()) fun s10 =>
            bif decide ((0 : Int) < (i4 : Int)) then
              Option.bind (idx a0 (IntKind.i64.wrap ((i4 : Int) - (1 : Int)))) fun v55 =>
              bif Op.bytesLess v55.Name.data.toList v17.Name.data.toList || decide (v55.Name = v17.Name) then
                Option.bind (idx a0 (IntKind.i64.wrap ((i4 : Int) - (1 : Int)))) fun v65 =>
                bif decide (v65.Name = v17.Name) then
                  Option.bind (idx a0 (IntKind.i64.wrap ((i4 : Int) - (1 : Int)))) fun v75 =>
                  bif decide ((v17.Slopes.length : Int) ≤ (v75.Slopes.length : Int)) then
                    some (.rt false)
                  else
                    some (.nx ())
                else
                  some (.nx ())
              else
                some (.rt false)
            else
              some (.nx ())
          else
            some (.rt false)
      else
        some (.rt false)) a0.length 0 ()) fun s4 =>
    some true

def spec_IsValidMajorants (a0 : List Majorant) : Option Bool :=
  Option.bind (spec_l25List a0) fun v4 =>
  some v4

def impl_reserved  : Option (List ByteArray) :=
  some ([(⟨#[116, 114, 117, 101]⟩ : ByteArray), (⟨#[102, 97, 108, 115, 101]⟩ : ByteArray), (⟨#[116, 114, 117, 116, 104]⟩ : ByteArray), (⟨#[98, 111, 116, 104]⟩ : ByteArray), (⟨#[101, 105, 116, 104, 101, 114]⟩ : ByteArray), (⟨#[105, 102]⟩ : ByteArray), (⟨#[97, 108, 108]⟩ : ByteArray), (⟨#[115, 111, 109, 101]⟩ : ByteArray)])

def slices_Index_Sstring_string (a0 : List ByteArray) (a1 : ByteArray) : Option Int :=
  thenL (ρ := Int) (σ := Unit) (forN (fun (i2 : Nat) (s2 : Unit) =>
    Option.bind (idx a0 (i2 : Int)) fun v14 =>
    bif decide (a1 = v14) then
      some (.rt (i2 : Int))
    else
      some (.nx ())) a0.length 0 ()) fun s2 =>
  some (-1 : Int)

def slices_Contains_Sstring_string (a0 : List ByteArray) (a1 : ByteArray) : Option Bool :=
  Option.bind (slices_Index_Sstring_string a0 a1) fun v7 =>
  some (decide ((0 : Int) ≤ v7))

def impl_isSymbol (a0 : ByteArray) : Option Bool :=
  Option.bind (bnd (a0.size : Int)) fun N2 =>
  thenL (ρ := Bool) (σ := Unit) (forN (fun (i2 : Nat) (s2 : Unit) =>
    bif decide ((i2 : Int) = (0 : Int)) then
      Option.bind (sidx a0 (i2 : Int)) fun v14 =>
      Option.bind (impl_isLower v14) fun v15 =>
      bif v15 then
        Option.bind (sidx a0 (i2 : Int)) fun v21 =>
        Option.bind (impl_isLower v21) fun v22 =>
        bif v22 then
          some (.nx ())
        else
          Option.bind (sidx a0 (i2 : Int)) fun v27 =>
          Option.bind (impl_isDigit v27) fun v28 =>
          bif v28 then
            some (.nx ())
          else
            Option.bind (sidx a0 (i2 : Int)) fun v34 =>
            bif decide (v34 = (95 : Int)) then
              some (.nx ())
            else
              some (.rt false)
      else
        some (.rt false)
    else
      Option.bind (sidx a0 (i2 : Int)) fun v21 =>
      Option.bind (impl_isLower v21) fun v22 =>
      bif v22 then
        some (.nx ())
      else
        Option.bind (sidx a0 (i2 : Int)) fun v27 =>
        Option.bind (impl_isDigit v27) fun v28 =>
        bif v28 then
          some (.nx ())
        else
          Option.bind (sidx a0 (i2 : Int)) fun v34 =>
          bif decide (v34 = (95 : Int)) then
            some (.nx ())
          else
            some (.rt false)) N2 0 ()) fun s2 =>
  Option.bind (impl_within (a0.size : Int) (1 : Int) (6 : Int)) fun v41 =>
  bif v41 then
    Option.bind (impl_reserved ) fun v43 =>
    Option.bind (slices_Contains_Sstring_string v43 a0) fun v45 =>
    some (!v45)
  else
    some false

def cmp_isNaN_string (a0 : ByteArray) : Option Bool :=
  some (!(decide (a0 = a0)))

def cmp_Compare_string (a0 : ByteArray) (a1 : ByteArray) : Option Int :=
  Option.bind (cmp_isNaN_string a0) fun v8 =>
  Option.bind (cmp_isNaN_string a1) fun v10 =>
  bif v8 then
    bif v10 then
      some (0 : Int)
    else
      some (-1 : Int)
  else
    bif v10 then
      some (1 : Int)
    else
      bif Op.bytesLess a0.data.toList a1.data.toList then
        some (-1 : Int)
      else
        bif decide (a0 = a1) then
          some (0 : Int)
        else
          some (1 : Int)

def impl_compareMajorants (a0 : Majorant) (a1 : Majorant) : Option Int :=
  Option.bind (cmp_Compare_string a0.Name a1.Name) fun v9 =>
  Option.bind (cmp_Compare_int (a0.Slopes.length : Int) (a1.Slopes.length : Int)) fun v16 =>
  Option.bind (cmp_Or_int ([v9, v16])) fun v18 =>
  some v18

def impl_IsValidMajorants_1 (a0 : Int) : Option Bool :=
  Option.bind (impl_within a0 (0 : Int) (1000 : Int)) fun v4 =>
  some (!v4)

def impl_IsValidMajorants (a0 : List Majorant) : Option Bool :=
  thenL (ρ := Bool) (σ := Unit) (forN (fun (i2 : Nat) (s2 : Unit) =>
    Option.bind (idx a0 (i2 : Int)) fun v10 =>
    Option.bind (impl_isSymbol v10.Name) fun v14 =>
    bif v14 then
      bif decide ((4 : Int) < (v10.Slopes.length : Int)) then
        some (.rt false)
      else
        Option.bind (impl_within v10.Constant (0 : Int) (100000 : Int)) fun v25 =>
        bif v25 then
          bif decide ((0 : Int) < (i2 : Int)) then
            Option.bind (idx a0 (IntKind.i64.wrap ((i2 : Int) - (1 : Int)))) fun v35 =>
            Option.bind (impl_compareMajorants v35 v10) fun v38 =>
            bif decide ((0 : Int) ≤ v38) then
              some (.rt false)
            else
              Option.bind (slices_ContainsFunc_Sint_int v10.Slopes (fun y0 => impl_IsValidMajorants_1 y0)) fun v44 =>
              bif v44 then
                some (.rt false)
              else
                some (.nx ())
          else
            Option.bind (slices_ContainsFunc_Sint_int v10.Slopes (fun y0 => impl_IsValidMajorants_1 y0)) fun v44 =>
            bif v44 then
              some (.rt false)
            else
              some (.nx ())
        else
          some (.rt false)
    else
      some (.rt false)) a0.length 0 ()) fun s2 =>
  some (decide ((a0.length : Int) ≤ (8 : Int)))

def eqMajorant (a0 : Majorant) (a1 : Majorant) : Option Bool :=
  bif decide (a0.Name = a1.Name) then
    Option.bind (eqIntS a0.Slopes a1.Slopes) fun v14 =>
    bif v14 then
      bif decide (a0.Constant = a1.Constant) then
        some true
      else
        some false
    else
      some false
  else
    some false

def eqMajorantS (a0 : List Majorant) (a1 : List Majorant) : Option Bool :=
  bif decide ((a0.length : Int) = (a1.length : Int)) then
    thenL (ρ := Bool) (σ := Unit) (forN (fun (i4 : Nat) (s4 : Unit) =>
      Option.bind (idx a0 (i4 : Int)) fun v19 =>
      Option.bind (idx a1 (i4 : Int)) fun v23 =>
      Option.bind (eqMajorant v19 v23) fun v25 =>
      bif v25 then
        some (.nx ())
      else
        some (.rt false)) a0.length 0 ()) fun s4 =>
    some true
  else
    some false

def FnExactIsValidMajorants (a0 : List Majorant) : Option Bool :=
  Option.bind (szMajorantS a0 (1048576 : Int)) fun v9 =>
  bif decide (v9 < (0 : Int)) then
    some true
  else
    Option.bind (toMajorantS a0) fun v13 =>
    Option.bind (spec_IsValidMajorants v13) fun v14 =>
    Option.bind (toMajorantS a0) fun v16 =>
    Option.bind (impl_IsValidMajorants v16) fun v18 =>
    bif v18 == v14 then
      Option.bind (toMajorantS a0) fun v24 =>
      Option.bind (eqMajorantS v16 v24) fun v25 =>
      bif v25 then
        some true
      else
        some false
    else
      some false

def szSizeGraphS (a0 : List SizeGraph) (a1 : Int) : Option Int :=
  bif decide ((IntKind.i64.wrap (a1 - (a0.length : Int))) < (0 : Int)) then
    some (-1 : Int)
  else
    thenL (ρ := Int) (σ := Int) (forN (fun (i5 : Nat) (s5 : Int) =>
      Option.bind (idx a0 (i5 : Int)) fun v20 =>
      Option.bind (szSizeGraph v20 s5) fun v23 =>
      bif decide (v23 < (0 : Int)) then
        some (.rt (-1 : Int))
      else
        some (.nx v23)) a0.length 0 (IntKind.i64.wrap (a1 - (a0.length : Int)))) fun s5 =>
    some s5

def szCyclicProof (a0 : CyclicProof) (a1 : Int) : Option Int :=
  Option.bind (szIntS a0.Arities a1) fun v8 =>
  bif decide (v8 < (0 : Int)) then
    some (-1 : Int)
  else
    Option.bind (szSizeGraphS a0.Calls v8) fun v14 =>
    bif decide (v14 < (0 : Int)) then
      some (-1 : Int)
    else
      some v14

def toSizeGraphS (a0 : List SizeGraph) : Option (List SizeGraph) :=
  Option.bind (mkn (a0.length : Int)) fun n7 =>
  thenL (ρ := (List SizeGraph)) (σ := (List SizeGraph)) (forN (fun (i3 : Nat) (s3 : (List SizeGraph)) =>
    Option.bind (idx a0 (i3 : Int)) fun v18 =>
    Option.bind (toSizeGraph v18) fun v20 =>
    Option.bind (idx s3 (i3 : Int)) fun v21 =>
    Option.bind (idx s3 (i3 : Int)) fun w2 =>
    some (.nx (s3.set (i3 : Int).toNat v20))) a0.length 0 (List.replicate n7 (SizeGraph.mk (0 : Int) (0 : Int) ([])))) fun s3 =>
  some s3

def toCyclicProof (a0 : CyclicProof) : Option CyclicProof :=
  Option.bind (toIntS a0.Arities) fun v6 =>
  Option.bind (toSizeGraphS a0.Calls) fun v10 =>
  some (CyclicProof.mk v6 v10)

def spec_l24Good (a0 : CyclicProof) : Option Bool :=
  Option.bind (spec_l1In (a0.Arities.length : Int) (1 : Int) (6 : Int)) fun v12 =>
  bif v12 then
    bif decide ((12 : Int) < (a0.Calls.length : Int)) then
      some false
    else
      thenL (ρ := Bool) (σ := Unit) (forN (fun (i5 : Nat) (s5 : Unit) =>
        Option.bind (idx a0.Arities (i5 : Int)) fun v28 =>
        Option.bind (spec_l1In v28 (0 : Int) (4 : Int)) fun v30 =>
        bif v30 then
          some (.nx ())
        else
          some (.rt false)) a0.Arities.length 0 ()) fun s5 =>
      thenL (ρ := Bool) (σ := Unit) (forN (fun (i10 : Nat) (s10 : Unit) =>
        Option.bind (idx a0.Calls (i10 : Int)) fun v42 =>
        Option.bind (spec_l24Graph v42) fun v45 =>
        bif v45 then
          bif decide ((a0.Arities.length : Int) ≤ v42.Source) then
            some (.rt false)
          else
            bif decide ((a0.Arities.length : Int) ≤ v42.Target) then
              some (.rt false)
            else
              thenL (ρ := (Flow Bool Unit)) (σ := Unit) (forN (fun (i16 : Nat) (s16 : Unit) =>
                Option.bind (idx v42.Edges (i16 : Int)) fun v69 =>
                Option.bind (idx a0.Arities v42.Source) fun v76 =>
                bif decide (v76 ≤ v69.From) then
                  some (.rt (.rt false))
                else
                  Option.bind (idx v42.Edges (i16 : Int)) fun v83 =>
                  Option.bind (idx a0.Arities v42.Target) fun v90 =>
                  bif decide (v90 ≤ v83.To) then
                    some (.rt (.rt false))
                  else
                    some (.nx ())) v42.Edges.length 0 ()) fun s16 =>
              some (.nx ())
        else
          some (.rt false)) a0.Calls.length 0 ()) fun s10 =>
      some true
  else
    some false

def spec_IsValidCyclic (a0 : CyclicProof) : Option Bool :=
  Option.bind (spec_l24Good a0) fun v4 =>
  some v4

def impl_IsValidCyclic_1 (a0 : Int) : Option Bool :=
  Option.bind (impl_within a0 (0 : Int) (4 : Int)) fun v4 =>
  some (!v4)

def impl_IsValidCyclic_2_1 (a0 : SizeEdge) (b0 : CyclicProof) (b1 : SizeGraph) : Option Bool :=
  Option.bind (idx b0.Arities b1.Source) fun v11 =>
  bif decide (v11 ≤ a0.From) then
    some true
  else
    Option.bind (idx b0.Arities b1.Target) fun v21 =>
    some (decide (v21 ≤ a0.To))

def slices_IndexFunc_Simpl_SizeEdge_impl_SizeEdge (a0 : List SizeEdge) (a1 : SizeEdge → Option Bool) : Option Int :=
  thenL (ρ := Int) (σ := Unit) (forN (fun (i2 : Nat) (s2 : Unit) =>
    Option.bind (idx a0 (i2 : Int)) fun v14 =>
    Option.bind (a1 v14) fun v16 =>
    bif v16 then
      some (.rt (i2 : Int))
    else
      some (.nx ())) a0.length 0 ()) fun s2 =>
  some (-1 : Int)

def slices_ContainsFunc_Simpl_SizeEdge_impl_SizeEdge (a0 : List SizeEdge) (a1 : SizeEdge → Option Bool) : Option Bool :=
  Option.bind (slices_IndexFunc_Simpl_SizeEdge_impl_SizeEdge a0 a1) fun v7 =>
  some (decide ((0 : Int) ≤ v7))

def impl_IsValidCyclic_2 (a0 : SizeGraph) (b0 : Int) (b1 : CyclicProof) : Option Bool :=
  Option.bind (impl_IsValidGraph a0) fun v6 =>
  bif v6 then
    bif decide (b0 ≤ a0.Source) then
      some true
    else
      bif decide (b0 ≤ a0.Target) then
        some true
      else
        Option.bind (slices_ContainsFunc_Simpl_SizeEdge_impl_SizeEdge a0.Edges (fun y0 => impl_IsValidCyclic_2_1 y0 b1 a0)) fun v24 =>
        some v24
  else
    some true

def slices_IndexFunc_Simpl_SizeGraph_impl_SizeGraph (a0 : List SizeGraph) (a1 : SizeGraph → Option Bool) : Option Int :=
  thenL (ρ := Int) (σ := Unit) (forN (fun (i2 : Nat) (s2 : Unit) =>
    Option.bind (idx a0 (i2 : Int)) fun v14 =>
    Option.bind (a1 v14) fun v16 =>
    bif v16 then
      some (.rt (i2 : Int))
    else
      some (.nx ())) a0.length 0 ()) fun s2 =>
  some (-1 : Int)

def slices_ContainsFunc_Simpl_SizeGraph_impl_SizeGraph (a0 : List SizeGraph) (a1 : SizeGraph → Option Bool) : Option Bool :=
  Option.bind (slices_IndexFunc_Simpl_SizeGraph_impl_SizeGraph a0 a1) fun v7 =>
  some (decide ((0 : Int) ≤ v7))

def impl_IsValidCyclic (a0 : CyclicProof) : Option Bool :=
  Option.bind (impl_within (a0.Arities.length : Int) (1 : Int) (6 : Int)) fun v8 =>
  bif v8 then
    bif decide ((12 : Int) < (a0.Calls.length : Int)) then
      some false
    else
      Option.bind (slices_ContainsFunc_Sint_int a0.Arities (fun y0 => impl_IsValidCyclic_1 y0)) fun v19 =>
      bif v19 then
        some false
      else
        Option.bind (slices_ContainsFunc_Simpl_SizeGraph_impl_SizeGraph a0.Calls (fun y0 => impl_IsValidCyclic_2 y0 (a0.Arities.length : Int) a0)) fun v24 =>
        some (!v24)
  else
    some false

def eqSizeGraphS (a0 : List SizeGraph) (a1 : List SizeGraph) : Option Bool :=
  bif decide ((a0.length : Int) = (a1.length : Int)) then
    thenL (ρ := Bool) (σ := Unit) (forN (fun (i4 : Nat) (s4 : Unit) =>
      Option.bind (idx a0 (i4 : Int)) fun v19 =>
      Option.bind (idx a1 (i4 : Int)) fun v23 =>
      Option.bind (eqSizeGraph v19 v23) fun v25 =>
      bif v25 then
        some (.nx ())
      else
        some (.rt false)) a0.length 0 ()) fun s4 =>
    some true
  else
    some false

def eqCyclicProof (a0 : CyclicProof) (a1 : CyclicProof) : Option Bool :=
  Option.bind (eqIntS a0.Arities a1.Arities) fun v9 =>
  bif v9 then
    Option.bind (eqSizeGraphS a0.Calls a1.Calls) fun v15 =>
    bif v15 then
      some true
    else
      some false
  else
    some false

def FnExactIsValidCyclic (a0 : CyclicProof) : Option Bool :=
  Option.bind (szCyclicProof a0 (1048576 : Int)) fun v9 =>
  bif decide (v9 < (0 : Int)) then
    some true
  else
    Option.bind (toCyclicProof a0) fun v13 =>
    Option.bind (spec_IsValidCyclic v13) fun v14 =>
    Option.bind (toCyclicProof a0) fun v16 =>
    Option.bind (impl_IsValidCyclic v16) fun v18 =>
    bif v18 == v14 then
      Option.bind (toCyclicProof a0) fun v24 =>
      Option.bind (eqCyclicProof v16 v24) fun v25 =>
      bif v25 then
        some true
      else
        some false
    else
      some false

def spec_l24Path (a0 : CyclicProof) (a1 : List Int) : Option Bool :=
  thenL (ρ := Bool) (σ := Unit) (forN (fun (i2 : Nat) (s2 : Unit) =>
    bif decide ((i2 : Int) ≤ (200 : Int)) then
      Option.bind (idx a1 (i2 : Int)) fun v18 =>
      Option.bind (spec_l1In v18 (0 : Int) (IntKind.i64.wrap ((a0.Calls.length : Int) - (1 : Int)))) fun v24 =>
      bif v24 then
        bif decide ((0 : Int) < (i2 : Int)) then
          Option.bind (idx a1 (IntKind.i64.wrap ((i2 : Int) - (1 : Int)))) fun v35 =>
          Option.bind (idx a0.Calls v35) fun v37 =>
          Option.bind (idx a1 (i2 : Int)) fun v44 =>
          Option.bind (idx a0.Calls v44) fun v46 =>
          bif decide (v37.Target = v46.Source) then
            some (.nx ())
          else
            some (.rt false)
        else
          some (.nx ())
      else
        some (.rt false)
    else
      some (.rt (decide ((a1.length : Int) ≤ (200 : Int))))) a1.length 0 ()) fun s2 =>
  some (decide ((a1.length : Int) ≤ (200 : Int)))

def spec_l1Most (a0 : Int) (a1 : Int) : Option Int :=
  bif decide (a1 < a0) then
    some a0
  else
    some a1

def spec_MostProgress (a0 : CyclicProof) (a1 : List Int) : Option (Int × Bool) :=
  Option.bind (spec_l24Good a0) fun v13 =>
  bif v13 then
    Option.bind (spec_l24Path a0 a1) fun v18 =>
    bif v18 then
      thenL (ρ := (Int × Bool)) (σ := (List Int)) (forN (fun (i5 : Nat) (s5 : (List Int)) =>
        Option.bind (idx a1 (i5 : Int)) fun v33 =>
        Option.bind (idx a0.Calls v33) fun v35 =>
        thenL (ρ := (Flow (Int × Bool) (List Int))) (σ := (List Int)) (forN (fun (i10 : Nat) (s10 : (List Int)) =>
          Option.bind (idx v35.Edges (i10 : Int)) fun v47 =>
          Option.bind (idx s5 v47.From) fun v50 =>
          Option.bind (idx s5 v47.From) fun v51 =>
          bif decide (v51 < (0 : Int)) then
            some (.nx s10)
          else
            Option.bind (idx v35.Edges (i10 : Int)) fun v56 =>
            bif v56.Strict then
              Option.bind (idx v35.Edges (i10 : Int)) fun v64 =>
              Option.bind (idx v35.Edges (i10 : Int)) fun v70 =>
              Option.bind (idx s10 v70.To) fun v73 =>
              Option.bind (idx s10 v70.To) fun v74 =>
              Option.bind (spec_l1Most v74 (IntKind.i64.wrap (v51 + (1 : Int)))) fun v76 =>
              Option.bind (idx s10 v64.To) fun v77 =>
              Option.bind (idx s10 v64.To) fun w7 =>
              some (.nx (s10.set v64.To.toNat v76))
            else
              Option.bind (idx v35.Edges (i10 : Int)) fun v64 =>
              Option.bind (idx v35.Edges (i10 : Int)) fun v70 =>
              Option.bind (idx s10 v70.To) fun v73 =>
              Option.bind (idx s10 v70.To) fun v74 =>
              Option.bind (spec_l1Most v74 v51) fun v76 =>
              Option.bind (idx s10 v64.To) fun v77 =>
              Option.bind (idx s10 v64.To) fun w8 =>
              some (.nx (s10.set v64.To.toNat v76))) v35.Edges.length 0 ([(-1 : Int), (-1 : Int), (-1 : Int), (-1 : Int)])) fun s10 =>
        some (.nx s10)) a1.length 0 ([(0 : Int), (0 : Int), (0 : Int), (0 : Int)])) fun s5 =>
      Option.bind (idx s5 (0 : Int)) fun v80 =>
      Option.bind (idx s5 (0 : Int)) fun v81 =>
      Option.bind (idx s5 (1 : Int)) fun v83 =>
      Option.bind (idx s5 (1 : Int)) fun v84 =>
      Option.bind (spec_l1Most v81 v84) fun v85 =>
      Option.bind (idx s5 (2 : Int)) fun v87 =>
      Option.bind (idx s5 (2 : Int)) fun v88 =>
      Option.bind (idx s5 (3 : Int)) fun v90 =>
      Option.bind (idx s5 (3 : Int)) fun v91 =>
      Option.bind (spec_l1Most v88 v91) fun v92 =>
      Option.bind (spec_l1Most v85 v92) fun v93 =>
      some (v93, true)
    else
      some ((0 : Int), false)
  else
    some ((0 : Int), false)

def impl_isPath (a0 : CyclicProof) (a1 : List Int) : Option Bool :=
  thenL (ρ := Bool) (σ := Unit) (forN (fun (i2 : Nat) (s2 : Unit) =>
    Option.bind (idx a1 (i2 : Int)) fun v12 =>
    Option.bind (impl_within v12 (0 : Int) (IntKind.i64.wrap ((a0.Calls.length : Int) - (1 : Int)))) fun v19 =>
    bif v19 then
      bif decide ((0 : Int) < (i2 : Int)) then
        Option.bind (idx a1 (IntKind.i64.wrap ((i2 : Int) - (1 : Int)))) fun v30 =>
        Option.bind (idx a0.Calls v30) fun v32 =>
        Option.bind (idx a0.Calls v12) fun v38 =>
        bif decide (v32.Target = v38.Source) then
          some (.nx ())
        else
          some (.rt false)
      else
        some (.nx ())
    else
      some (.rt false)) a1.length 0 ()) fun s2 =>
  some (decide ((a1.length : Int) ≤ (200 : Int)))

def impl_flag (a0 : Bool) : Option Int :=
  bif a0 then
    some (1 : Int)
  else
    some (0 : Int)

def spec_l24Level (a0 : SizeGraph) (a1 : Int) (a2 : Int) : Option Int :=
  thenL (ρ := Int) (σ := Unit) (forN (fun (i2 : Nat) (s2 : Unit) =>
    Option.bind (idx a0.Edges (i2 : Int)) fun v18 =>
    bif decide (v18.From = a1) then
      Option.bind (idx a0.Edges (i2 : Int)) fun v27 =>
      bif decide (v27.To = a2) then
        Option.bind (idx a0.Edges (i2 : Int)) fun v36 =>
        bif v36.Strict then
          some (.rt (2 : Int))
        else
          some (.rt (1 : Int))
      else
        some (.nx ())
    else
      some (.nx ())) a0.Edges.length 0 ()) fun s2 =>
  some (0 : Int)

def spec_l24Compose (a0 : SizeGraph) (a1 : SizeGraph) : Option SizeGraph :=
  thenL (ρ := SizeGraph) (σ := (List SizeEdge)) (forN (fun (i3 : Nat) (s3 : (List SizeEdge)) =>
    thenL (ρ := (Flow SizeGraph (List SizeEdge))) (σ := (List SizeEdge)) (forN (fun (i6 : Nat) (s6 : (List SizeEdge)) =>
      thenL (ρ := (Flow (Flow SizeGraph (List SizeEdge)) (List SizeEdge))) (σ := Int) (forN (fun (i10 : Nat) (s10 : Int) =>
        Option.bind (spec_l24Level a0 (i3 : Int) (i10 : Int)) fun v33 =>
        Option.bind (spec_l24Level a1 (i10 : Int) (i6 : Int)) fun v37 =>
        bif decide ((0 : Int) < v33) then
          bif decide ((0 : Int) < v37) then
            Option.bind (spec_l1Most v33 v37) fun v47 =>
            Option.bind (spec_l1Most s10 v47) fun v48 =>
            some (.nx v48)
          else
            some (.nx s10)
        else
          some (.nx s10)) 4 0 (0 : Int)) fun s10 =>
      bif decide ((0 : Int) < s10) then
        Option.bind (app s6 ([(SizeEdge.mk (i3 : Int) (i6 : Int) (decide (s10 = (2 : Int))))])) fun v59 =>
        some (.nx v59)
      else
        some (.nx s6)) 4 0 s3) fun s6 =>
    some (.nx s6)) 4 0 ([])) fun s3 =>
  some (SizeGraph.mk a0.Source a1.Target s3)

def spec_ComposeGraphs (a0 : SizeGraph) (a1 : SizeGraph) : Option (SizeGraph × Bool) :=
  Option.bind (spec_l24Graph a0) fun v7 =>
  bif v7 then
    Option.bind (spec_l24Graph a1) fun v11 =>
    bif v11 then
      bif decide (a1.Source = a0.Target) then
        Option.bind (spec_l24Compose a0 a1) fun v24 =>
        some (v24, true)
      else
        some ((SizeGraph.mk (0 : Int) (0 : Int) ([])), false)
    else
      some ((SizeGraph.mk (0 : Int) (0 : Int) ([])), false)
  else
    some ((SizeGraph.mk (0 : Int) (0 : Int) ([])), false)

def heldSizeEdgeS (a0 : List SizeEdge) (a1 : Int) : Option Int :=
  thenL (ρ := Int) (σ := Int) (forN (fun (i2 : Nat) (s2 : Int) =>
    Option.bind (idx a0 (i2 : Int)) fun v14 =>
    bif decide (v14.From = s2) then
      Option.bind (idx a0 (i2 : Int)) fun v23 =>
      bif decide (v23.To = (IntKind.i64.wrap (s2 + (1 : Int)))) then
        Option.bind (idx a0 (i2 : Int)) fun v32 =>
        Option.bind (rem (IntKind.i64.wrap ((IntKind.i64.wrap (s2 + (1 : Int))) + (1 : Int))) (3 : Int)) fun v36 =>
        bif v32.Strict == (decide (v36 = (0 : Int))) then
          some (.nx (IntKind.i64.wrap ((IntKind.i64.wrap ((IntKind.i64.wrap (s2 + (1 : Int))) + (1 : Int))) + (1 : Int))))
        else
          some (.rt (-1 : Int))
      else
        some (.rt (-1 : Int))
    else
      some (.rt (-1 : Int))) a0.length 0 a1) fun s2 =>
  some s2

def heldSizeGraph (a0 : SizeGraph) (a1 : Int) : Option Int :=
  Option.bind (heldSizeEdgeS a0.Edges a1) fun v8 =>
  bif decide (v8 < (0 : Int)) then
    some (-1 : Int)
  else
    some v8

def spec_RepeatPath (a0 : CyclicProof) (a1 : List Int) (a2 : Int) : Option ((List Int) × Bool) :=
  Option.bind (spec_l24Good a0) fun v12 =>
  bif v12 then
    Option.bind (spec_l24Path a0 a1) fun v17 =>
    bif v17 then
      bif decide (a2 < (0 : Int)) then
        some ([], false)
      else
        bif decide ((0 : Int) < (a1.length : Int)) then
          bif decide ((200 : Int) < a2) then
            some ([], false)
          else
            Option.bind (bnd (a2)) fun N5 =>
            thenL (ρ := ((List Int) × Bool)) (σ := (List Int)) (forN (fun (i5 : Nat) (s5 : (List Int)) =>
              Option.bind (app s5 a1) fun v46 =>
              some (.nx v46)) N5 0 ([])) fun s5 =>
            Option.bind (spec_l24Path a0 s5) fun v49 =>
            bif v49 then
              some (s5, true)
            else
              some ([], false)
        else
          thenL (ρ := ((List Int) × Bool)) (σ := Unit) (lim fun n5 => whileN (fun (s5 : Unit) =>
            bif decide ((0 : Int) < a2) then
              some (.br s5)
            else
              some (.br s5)) n5 ()) fun s5 =>
          Option.bind (spec_l24Path a0 ([])) fun v49 =>
          bif v49 then
            some ([], true)
          else
            some ([], false)
    else
      some ([], false)
  else
    some ([], false)

def heldIntS (a0 : List Int) (a1 : Int) : Option Int :=
  thenL (ρ := Int) (σ := Int) (forN (fun (i2 : Nat) (s2 : Int) =>
    Option.bind (idx a0 (i2 : Int)) fun v14 =>
    bif decide (v14 = s2) then
      some (.nx (IntKind.i64.wrap (s2 + (1 : Int))))
    else
      some (.rt (-1 : Int))) a0.length 0 a1) fun s2 =>
  some s2

end
end Go.Proofs.Ytfggcaohidajkaa
