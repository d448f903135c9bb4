/- A part of the proof: lemmas only; nothing is claimed here beyond what each lemma says. -/
import Derived.Test.YtdmkceajaagpgaaGty
set_option linter.unusedSimpArgs false
set_option linter.unusedVariables false
set_option linter.defProp false
set_option maxRecDepth 4000
namespace Go.Proofs.Ytdmkceajaagpgaa
open Go.Av
noncomputable section
mutual
def szTermSN : Nat → (List Term) → Int → Option Int
  | 0, _, _ => none
  | n + 1, a0, a1 =>
    bif decide ((IntKind.i64.wrap (a1 - (a0.length : Int))) < (0 : Int)) then
      some (-1 : Int)
    else
      thenL (ρ := Int) (σ := Int) (forN (fun (i5 : Nat) (s5 : Int) =>
        Option.bind (idx a0 (i5 : Int)) fun v20 =>
        Option.bind (szTermN n v20 s5) fun v23 =>
        bif decide (v23 < (0 : Int)) then
          some (.rt (-1 : Int))
        else
          some (.nx v23)) a0.length 0 (IntKind.i64.wrap (a1 - (a0.length : Int)))) fun s5 =>
      some s5
def szTermN : Nat → Term → Int → Option Int
  | 0, _, _ => none
  | n + 1, a0, a1 =>
    bif decide ((IntKind.i64.wrap (a1 - (a0.Name.size : Int))) < (0 : Int)) then
      some (-1 : Int)
    else
      Option.bind (szTermSN n a0.Args (IntKind.i64.wrap (a1 - (a0.Name.size : Int)))) fun v15 =>
      bif decide (v15 < (0 : Int)) then
        some (-1 : Int)
      else
        some v15
end
def szTermS (a0 : List Term) (a1 : Int) : Option Int := lim fun n => szTermSN n a0 a1
def szTerm (a0 : Term) (a1 : Int) : Option Int := lim fun n => szTermN n a0 a1

def szDecomposition (a0 : Decomposition) (a1 : Int) : Option Int :=
  Option.bind (szTermS a0.Patterns a1) fun v8 =>
  bif decide (v8 < (0 : Int)) then
    some (-1 : Int)
  else
    Option.bind (szTermS a0.Instances v8) fun v14 =>
    bif decide (v14 < (0 : Int)) then
      some (-1 : Int)
    else
      some v14

mutual
def toTermSN : Nat → (List Term) → Option (List Term)
  | 0, _ => none
  | n + 1, a0 =>
    Option.bind (mkn (a0.length : Int)) fun n7 =>
    thenL (ρ := (List Term)) (σ := (List Term)) (forN (fun (i3 : Nat) (s3 : (List Term)) =>
      Option.bind (idx a0 (i3 : Int)) fun v18 =>
      Option.bind (toTermN n v18) fun v20 =>
      Option.bind (idx s3 (i3 : Int)) fun v21 =>
      Option.bind (idx s3 (i3 : Int)) fun w2 =>
      some (.nx (s3.set (i3 : Int).toNat v20))) a0.length 0 (List.replicate n7 (Term.mk (⟨#[]⟩ : ByteArray) ([])))) fun s3 =>
    some s3
def toTermN : Nat → Term → Option Term
  | 0, _ => none
  | n + 1, a0 =>
    Option.bind (toTermSN n a0.Args) fun v9 =>
    some (Term.mk a0.Name v9)
end
def toTermS (a0 : List Term) : Option (List Term) := lim fun n => toTermSN n a0
def toTerm (a0 : Term) : Option Term := lim fun n => toTermN n a0

def toDecomposition (a0 : Decomposition) : Option Decomposition :=
  Option.bind (toTermS a0.Patterns) fun v6 =>
  Option.bind (toTermS a0.Instances) fun v10 =>
  some (Decomposition.mk v6 v10)

def spec_l2ManyN : Nat → Term → Int → Option Int
  | 0, _, _ => none
  | n + 1, a0, a1 =>
    thenL (ρ := Int) (σ := Int) (forN (fun (i3 : Nat) (s3 : Int) =>
      bif decide (s3 ≤ a1) then
        Option.bind (idx a0.Args (i3 : Int)) fun v23 =>
        Option.bind (spec_l2ManyN n v23 (IntKind.i64.wrap (a1 - s3))) fun v28 =>
        some (.nx (IntKind.i64.wrap (s3 + v28)))
      else
        some (.rt s3)) a0.Args.length 0 (1 : Int)) fun s3 =>
    some s3
def spec_l2Many (a0 : Term) (a1 : Int) : Option Int := lim fun n => spec_l2ManyN n a0 a1

def spec_l1Most (a0 : Int) (a1 : Int) : Option Int :=
  bif decide (a1 < a0) then
    some a0
  else
    some a1

def spec_l2DepthN : Nat → Term → Option Int
  | 0, _ => none
  | n + 1, a0 =>
    thenL (ρ := Int) (σ := Int) (forN (fun (i3 : Nat) (s3 : Int) =>
      Option.bind (idx a0.Args (i3 : Int)) fun v16 =>
      Option.bind (spec_l2DepthN n v16) fun v18 =>
      Option.bind (spec_l1Most s3 v18) fun v19 =>
      some (.nx v19)) a0.Args.length 0 (0 : Int)) fun s3 =>
    some (IntKind.i64.wrap (s3 + (1 : Int)))
def spec_l2Depth (a0 : Term) : Option Int := lim fun n => spec_l2DepthN n a0

def spec_l2Fits (a0 : Term) : Option Bool :=
  Option.bind (spec_l2Many a0 (30 : Int)) fun v4 =>
  bif decide (v4 ≤ (30 : Int)) then
    Option.bind (spec_l2Depth a0) fun v8 =>
    some (decide (v8 ≤ (8 : Int)))
  else
    some false

def spec_l1In (a0 : Int) (a1 : Int) (a2 : Int) : Option Bool :=
  bif decide (a1 ≤ a0) then
    some (decide (a0 ≤ a2))
  else
    some false

def spec_l2Small (a0 : Int) : Option Bool :=
  bif decide ((97 : Int) ≤ a0) then
    bif decide (a0 ≤ (122 : Int)) then
      some true
    else
      bif decide ((48 : Int) ≤ a0) then
        some (decide (a0 ≤ (57 : Int)))
      else
        some false
  else
    bif decide ((48 : Int) ≤ a0) then
      some (decide (a0 ≤ (57 : Int)))
    else
      some false

def spec_l2Var (a0 : ByteArray) : Option Bool :=
  Option.bind (spec_l1In (a0.size : Int) (1 : Int) (4 : Int)) fun v6 =>
  bif v6 then
    Option.bind (sidx a0 (0 : Int)) fun v10 =>
    bif decide (v10 < (65 : Int)) then
      some false
    else
      Option.bind (sidx a0 (0 : Int)) fun v15 =>
      bif decide ((90 : Int) < v15) then
        some false
      else
        Option.bind (bnd (a0.size : Int)) fun N4 =>
        thenL (ρ := Bool) (σ := Unit) (forN (fun (i4 : Nat) (s4 : Unit) =>
          Option.bind (sidx a0 (i4 : Int)) fun v26 =>
          Option.bind (spec_l2Small v26) fun v27 =>
          bif v27 then
            some (.nx ())
          else
            some (.rt false)) (N4 - 1) 1 ()) fun s4 =>
        some true
  else
    some false

def spec_l2Symbol (a0 : ByteArray) : Option Bool :=
  Option.bind (spec_l1In (a0.size : Int) (1 : Int) (6 : Int)) fun v6 =>
  bif v6 then
    Option.bind (sidx a0 (0 : Int)) fun v10 =>
    bif decide (v10 < (97 : Int)) then
      some false
    else
      Option.bind (sidx a0 (0 : Int)) fun v15 =>
      bif decide ((122 : Int) < v15) then
        some false
      else
        bif decide (a0 = (⟨#[116, 114, 117, 101]⟩ : ByteArray)) then
          some false
        else
          bif decide (a0 = (⟨#[102, 97, 108, 115, 101]⟩ : ByteArray)) then
            some false
          else
            bif decide (a0 = (⟨#[116, 114, 117, 116, 104]⟩ : ByteArray)) then
              some false
            else
              bif decide (a0 = (⟨#[98, 111, 116, 104]⟩ : ByteArray)) then
                some false
              else
                bif decide (a0 = (⟨#[101, 105, 116, 104, 101, 114]⟩ : ByteArray)) then
                  some false
                else
                  bif decide (a0 = (⟨#[105, 102]⟩ : ByteArray)) then
                    some false
                  else
                    bif decide (a0 = (⟨#[97, 108, 108]⟩ : ByteArray)) then
                      some false
                    else
                      bif decide (a0 = (⟨#[115, 111, 109, 101]⟩ : ByteArray)) then
                        some false
                      else
                        Option.bind (bnd (a0.size : Int)) fun N14 =>
                        thenL (ρ := Bool) (σ := Unit) (forN (fun (i14 : Nat) (s14 : Unit) =>
                          Option.bind (sidx a0 (i14 : Int)) fun v36 =>
                          Option.bind (spec_l2Small v36) fun v37 =>
                          bif v37 then
                            some (.nx ())
                          else
                            Option.bind (sidx a0 (i14 : Int)) fun v42 =>
                            bif decide (v42 = (95 : Int)) then
                              some (.nx ())
                            else
                              some (.rt false)) (N14 - 1) 1 ()) fun s14 =>
                        some true
  else
    some false

def spec_l2NodesN : Nat → Term → Option Bool
  | 0, _ => none
  | n + 1, a0 =>
    Option.bind (spec_l2Var a0.Name) fun v6 =>
    bif v6 then
      some (decide ((a0.Args.length : Int) = (0 : Int)))
    else
      Option.bind (spec_l2Symbol a0.Name) fun v13 =>
      bif v13 then
        bif decide ((4 : Int) < (a0.Args.length : Int)) then
          some false
        else
          thenL (ρ := Bool) (σ := Unit) (forN (fun (i6 : Nat) (s6 : Unit) =>
            Option.bind (idx a0.Args (i6 : Int)) fun v31 =>
            Option.bind (spec_l2NodesN n v31) fun v33 =>
            bif v33 then
              some (.nx ())
            else
              some (.rt false)) a0.Args.length 0 ()) fun s6 =>
          some true
      else
        some false
def spec_l2Nodes (a0 : Term) : Option Bool := lim fun n => spec_l2NodesN n a0

def spec_l2Good (a0 : Term) : Option Bool :=
  Option.bind (spec_l2Fits a0) fun v4 =>
  bif v4 then
    Option.bind (spec_l2Nodes a0) fun v7 =>
    some v7
  else
    some false

def spec_l2Put (a0 : List ByteArray) (a1 : ByteArray) : Option (List ByteArray) :=
  thenL (ρ := (List ByteArray)) (σ := Unit) (forN (fun (i2 : Nat) (s2 : Unit) =>
    Option.bind (idx a0 (i2 : Int)) fun v13 =>
    bif Op.bytesLess v13.data.toList a1.data.toList then
      some (.nx ())
    else
      Option.bind (idx a0 (i2 : Int)) fun v27 =>
      bif decide (v27 = a1) then
        some (.rt a0)
      else
        Option.bind (slc a0 (0 : Int) (i2 : Int)) fun v36 =>
        Option.bind (app ([]) v36) fun v37 =>
        Option.bind (app v37 ([a1])) fun v40 =>
        Option.bind (slc a0 (i2 : Int) (a0.length : Int)) fun v43 =>
        Option.bind (app v40 v43) fun v44 =>
        some (.rt v44)) a0.length 0 ()) fun s2 =>
  Option.bind (slc a0 (0 : Int) ((a0.length : Nat) : Int)) fun v36 =>
  Option.bind (app ([]) v36) fun v37 =>
  Option.bind (app v37 ([a1])) fun v40 =>
  Option.bind (slc a0 ((a0.length : Nat) : Int) (a0.length : Int)) fun v43 =>
  Option.bind (app v40 v43) fun v44 =>
  some v44

def spec_l2IntoN : Nat → (List ByteArray) → Term → Option (List ByteArray)
  | 0, _, _ => none
  | n + 1, a0, a1 =>
    Option.bind (spec_l2Var a1.Name) fun v8 =>
    bif v8 then
      Option.bind (spec_l2Put a0 a1.Name) fun v12 =>
      some v12
    else
      thenL (ρ := (List ByteArray)) (σ := (List ByteArray)) (forN (fun (i4 : Nat) (s4 : (List ByteArray)) =>
        Option.bind (idx a1.Args (i4 : Int)) fun v24 =>
        Option.bind (spec_l2IntoN n s4 v24) fun v26 =>
        some (.nx v26)) a1.Args.length 0 a0) fun s4 =>
      some s4
def spec_l2Into (a0 : List ByteArray) (a1 : Term) : Option (List ByteArray) := lim fun n => spec_l2IntoN n a0 a1

def spec_l2Vars (a0 : Term) : Option (List ByteArray) :=
  Option.bind (spec_l2Into ([]) a0) fun v5 =>
  some v5

def spec_l16Ground (a0 : Term) : Option Bool :=
  Option.bind (spec_l2Vars a0) fun v4 =>
  some (decide ((v4.length : Int) = (0 : Int)))

def spec_l16Terms (a0 : List Term) : Option Bool :=
  thenL (ρ := Bool) (σ := Unit) (forN (fun (i2 : Nat) (s2 : Unit) =>
    bif decide ((i2 : Int) ≤ (60 : Int)) then
      Option.bind (idx a0 (i2 : Int)) fun v16 =>
      Option.bind (spec_l2Good v16) fun v18 =>
      bif v18 then
        Option.bind (idx a0 (i2 : Int)) fun v23 =>
        Option.bind (spec_l16Ground v23) fun v25 =>
        bif v25 then
          some (.nx ())
        else
          some (.rt false)
      else
        some (.rt false)
    else
      some (.rt (decide ((a0.length : Int) ≤ (60 : Int))))) a0.length 0 ()) fun s2 =>
  some (decide ((a0.length : Int) ≤ (60 : Int)))

def spec_l2Text (a0 : ByteArray) (a1 : ByteArray) : Option Int :=
  bif Op.bytesLess a0.data.toList a1.data.toList then
    some (-1 : Int)
  else
    bif decide (a0 = a1) then
      some (0 : Int)
    else
      some (1 : Int)

def spec_l2CompareN : Nat → Term → Term → Option Int
  | 0, _, _ => none
  | n + 1, a0, a1 =>
    Option.bind (spec_l2Var a0.Name) fun v11 =>
    Option.bind (spec_l2Var a1.Name) fun v14 =>
    bif v11 then
      bif v14 then
        bif decide (a0.Name = a1.Name) then
          bif decide ((a0.Args.length : Int) < (a1.Args.length : Int)) then
            some (-1 : Int)
          else
            bif decide ((a1.Args.length : Int) < (a0.Args.length : Int)) then
              some (1 : Int)
            else
              thenL (ρ := Int) (σ := Unit) (forN (fun (i13 : Nat) (s13 : Unit) =>
                Option.bind (idx a0.Args (i13 : Int)) fun v64 =>
                Option.bind (idx a1.Args (i13 : Int)) fun v69 =>
                Option.bind (spec_l2CompareN n v64 v69) fun v71 =>
                bif decide (v71 = (0 : Int)) then
                  some (.nx ())
                else
                  some (.rt v71)) a0.Args.length 0 ()) fun s13 =>
              some (0 : Int)
        else
          Option.bind (spec_l2Text a0.Name a1.Name) fun v37 =>
          some v37
      else
        some (-1 : Int)
    else
      bif v14 then
        some (1 : Int)
      else
        bif decide (a0.Name = a1.Name) then
          bif decide ((a0.Args.length : Int) < (a1.Args.length : Int)) then
            some (-1 : Int)
          else
            bif decide ((a1.Args.length : Int) < (a0.Args.length : Int)) then
              some (1 : Int)
            else
              thenL (ρ := Int) (σ := Unit) (forN (fun (i13 : Nat) (s13 : Unit) =>
                Option.bind (idx a0.Args (i13 : Int)) fun v64 =>
                Option.bind (idx a1.Args (i13 : Int)) fun v69 =>
                Option.bind (spec_l2CompareN n v64 v69) fun v71 =>
                bif decide (v71 = (0 : Int)) then
                  some (.nx ())
                else
                  some (.rt v71)) a0.Args.length 0 ()) fun s13 =>
              some (0 : Int)
        else
          Option.bind (spec_l2Text a0.Name a1.Name) fun v37 =>
          some v37
def spec_l2Compare (a0 : Term) (a1 : Term) : Option Int := lim fun n => spec_l2CompareN n a0 a1

def spec_l22Rising (a0 : List Term) : Option Bool :=
  thenL (ρ := Bool) (σ := Unit) (forN (fun (i2 : Nat) (s2 : Unit) =>
    Option.bind (idx a0 (IntKind.i64.wrap ((i2 : Int) - (1 : Int)))) fun v13 =>
    Option.bind (idx a0 (i2 : Int)) fun v17 =>
    Option.bind (spec_l2Compare v13 v17) fun v19 =>
    bif decide ((0 : Int) ≤ v19) then
      some (.rt false)
    else
      some (.nx ())) (a0.length - 1) 1 ()) fun s2 =>
  some true

def spec_l22Good (a0 : Decomposition) : Option Bool :=
  bif decide ((12 : Int) < (a0.Patterns.length : Int)) then
    some false
  else
    bif decide ((12 : Int) < (a0.Instances.length : Int)) then
      some false
    else
      Option.bind (spec_l16Terms a0.Instances) fun v18 =>
      bif v18 then
        thenL (ρ := Bool) (σ := Unit) (forN (fun (i4 : Nat) (s4 : Unit) =>
          Option.bind (idx a0.Patterns (i4 : Int)) fun v31 =>
          Option.bind (spec_l2Good v31) fun v33 =>
          bif v33 then
            Option.bind (idx a0.Patterns (i4 : Int)) fun v38 =>
            Option.bind (spec_l2Vars v38) fun v40 =>
            bif decide ((1 : Int) < (v40.length : Int)) then
              some (.rt false)
            else
              bif decide ((v40.length : Int) = (1 : Int)) then
                Option.bind (idx v40 (0 : Int)) fun v50 =>
                bif decide (v50 = (⟨#[65]⟩ : ByteArray)) then
                  bif decide ((a0.Instances.length : Int) = (0 : Int)) then
                    some (.rt false)
                  else
                    some (.nx ())
                else
                  some (.rt false)
              else
                some (.nx ())
          else
            some (.rt false)) a0.Patterns.length 0 ()) fun s4 =>
        Option.bind (spec_l22Rising a0.Patterns) fun v63 =>
        bif v63 then
          Option.bind (spec_l22Rising a0.Instances) fun v67 =>
          some v67
        else
          some false
      else
        some false

def spec_IsValidDecomposition (a0 : Decomposition) : Option Bool :=
  Option.bind (spec_l22Good a0) fun v4 =>
  some v4

def impl_sizeN : Nat → Term → Option Int
  | 0, _ => none
  | n + 1, a0 =>
    thenL (ρ := Int) (σ := Int) (forN (fun (i3 : Nat) (s3 : Int) =>
      Option.bind (idx a0.Args (i3 : Int)) fun v11 =>
      bif decide ((30 : Int) < s3) then
        some (.rt s3)
      else
        Option.bind (impl_sizeN n v11) fun v18 =>
        some (.nx (IntKind.i64.wrap (s3 + v18)))) a0.Args.length 0 (1 : Int)) fun s3 =>
    some s3
def impl_size (a0 : Term) : Option Int := lim fun n => impl_sizeN n a0

def impl_depthN : Nat → Term → Option Int
  | 0, _ => none
  | n + 1, a0 =>
    thenL (ρ := Int) (σ := Int) (forN (fun (i3 : Nat) (s3 : Int) =>
      Option.bind (idx a0.Args (i3 : Int)) fun v11 =>
      Option.bind (impl_depthN n v11) fun v15 =>
      some (.nx (max s3 v15))) a0.Args.length 0 (0 : Int)) fun s3 =>
    some (IntKind.i64.wrap (s3 + (1 : Int)))
def impl_depth (a0 : Term) : Option Int := lim fun n => impl_depthN n a0

def impl_isSmall (a0 : Term) : Option Bool :=
  Option.bind (impl_size a0) fun v4 =>
  bif decide (v4 ≤ (30 : Int)) then
    Option.bind (impl_depth a0) fun v8 =>
    some (decide (v8 ≤ (8 : Int)))
  else
    some false

def impl_isUpper (a0 : Int) : Option Bool :=
  bif decide ((65 : Int) ≤ a0) then
    some (decide (a0 ≤ (90 : Int)))
  else
    some false

def impl_isLower (a0 : Int) : Option Bool :=
  bif decide ((97 : Int) ≤ a0) then
    some (decide (a0 ≤ (122 : Int)))
  else
    some false

def impl_isDigit (a0 : Int) : Option Bool :=
  bif decide ((48 : Int) ≤ a0) then
    some (decide (a0 ≤ (57 : Int)))
  else
    some false

def impl_within (a0 : Int) (a1 : Int) (a2 : Int) : Option Bool :=
  bif decide (a1 ≤ a0) then
    some (decide (a0 ≤ a2))
  else
    some false

def impl_isVariable (a0 : ByteArray) : Option Bool :=
  Option.bind (bnd (a0.size : Int)) fun N2 =>
  thenL (ρ := Bool) (σ := Unit) (forN (fun (i2 : Nat) (s2 : Unit) =>
    bif decide ((i2 : Int) = (0 : Int)) then
      Option.bind (sidx a0 (i2 : Int)) fun v14 =>
      Option.bind (impl_isUpper v14) fun v15 =>
      bif v15 then
        bif decide ((0 : Int) < (i2 : Int)) then
          Option.bind (sidx a0 (i2 : Int)) fun v24 =>
          Option.bind (impl_isLower v24) fun v25 =>
          bif v25 then
            some (.nx ())
          else
            Option.bind (sidx a0 (i2 : Int)) fun v31 =>
            Option.bind (impl_isDigit v31) fun v32 =>
            bif v32 then
              some (.nx ())
            else
              some (.rt false)
        else
          some (.nx ())
      else
        some (.rt false)
    else
      bif decide ((0 : Int) < (i2 : Int)) then
        Option.bind (sidx a0 (i2 : Int)) fun v24 =>
        Option.bind (impl_isLower v24) fun v25 =>
        bif v25 then
          some (.nx ())
        else
          Option.bind (sidx a0 (i2 : Int)) fun v31 =>
          Option.bind (impl_isDigit v31) fun v32 =>
          bif v32 then
            some (.nx ())
          else
            some (.rt false)
      else
        some (.nx ())) N2 0 ()) fun s2 =>
  Option.bind (impl_within (a0.size : Int) (1 : Int) (4 : Int)) fun v39 =>
  some v39

def impl_reserved  : Option (List ByteArray) :=
  some ([(⟨#[116, 114, 117, 101]⟩ : ByteArray), (⟨#[102, 97, 108, 115, 101]⟩ : ByteArray), (⟨#[116, 114, 117, 116, 104]⟩ : ByteArray), (⟨#[98, 111, 116, 104]⟩ : ByteArray), (⟨#[101, 105, 116, 104, 101, 114]⟩ : ByteArray), (⟨#[105, 102]⟩ : ByteArray), (⟨#[97, 108, 108]⟩ : ByteArray), (⟨#[115, 111, 109, 101]⟩ : ByteArray)])

def slices_Index_Sstring_string (a0 : List ByteArray) (a1 : ByteArray) : Option Int :=
  thenL (ρ := Int) (σ := Unit) (forN (fun (i2 : Nat) (s2 : Unit) =>
    Option.bind (idx a0 (i2 : Int)) fun v14 =>
    bif decide (a1 = v14) then
      some (.rt (i2 : Int))
    else
      some (.nx ())) a0.length 0 ()) fun s2 =>
  some (-1 : Int)

def slices_Contains_Sstring_string (a0 : List ByteArray) (a1 : ByteArray) : Option Bool :=
  Option.bind (slices_Index_Sstring_string a0 a1) fun v7 =>
  some (decide ((0 : Int) ≤ v7))

def impl_isSymbol (a0 : ByteArray) : Option Bool :=
  Option.bind (bnd (a0.size : Int)) fun N2 =>
  thenL (ρ := Bool) (σ := Unit) (forN (fun (i2 : Nat) (s2 : Unit) =>
    bif decide ((i2 : Int) = (0 : Int)) then
      Option.bind (sidx a0 (i2 : Int)) fun v14 =>
      Option.bind (impl_isLower v14) fun v15 =>
      bif v15 then
        Option.bind (sidx a0 (i2 : Int)) fun v21 =>
        Option.bind (impl_isLower v21) fun v22 =>
        bif v22 then
          some (.nx ())
        else
          Option.bind (sidx a0 (i2 : Int)) fun v27 =>
          Option.bind (impl_isDigit v27) fun v28 =>
          bif v28 then
            some (.nx ())
          else
            Option.bind (sidx a0 (i2 : Int)) fun v34 =>
            bif decide (v34 = (95 : Int)) then
              some (.nx ())
            else
              some (.rt false)
      else
        some (.rt false)
    else
      Option.bind (sidx a0 (i2 : Int)) fun v21 =>
      Option.bind (impl_isLower v21) fun v22 =>
      bif v22 then
        some (.nx ())
      else
        Option.bind (sidx a0 (i2 : Int)) fun v27 =>
        Option.bind (impl_isDigit v27) fun v28 =>
        bif v28 then
          some (.nx ())
        else
          Option.bind (sidx a0 (i2 : Int)) fun v34 =>
          bif decide (v34 = (95 : Int)) then
            some (.nx ())
          else
            some (.rt false)) N2 0 ()) fun s2 =>
  Option.bind (impl_within (a0.size : Int) (1 : Int) (6 : Int)) fun v41 =>
  bif v41 then
    Option.bind (impl_reserved ) fun v43 =>
    Option.bind (slices_Contains_Sstring_string v43 a0) fun v45 =>
    some (!v45)
  else
    some false

def slices_IndexFunc_Simpl_Term_impl_Term (a0 : List Term) (a1 : Term → Option Bool) : Option Int :=
  thenL (ρ := Int) (σ := Unit) (forN (fun (i2 : Nat) (s2 : Unit) =>
    Option.bind (idx a0 (i2 : Int)) fun v14 =>
    Option.bind (a1 v14) fun v16 =>
    bif v16 then
      some (.rt (i2 : Int))
    else
      some (.nx ())) a0.length 0 ()) fun s2 =>
  some (-1 : Int)

def slices_ContainsFunc_Simpl_Term_impl_Term (a0 : List Term) (a1 : Term → Option Bool) : Option Bool :=
  Option.bind (slices_IndexFunc_Simpl_Term_impl_Term a0 a1) fun v7 =>
  some (decide ((0 : Int) ≤ v7))

mutual
def impl_hasNamesN : Nat → Term → Option Bool
  | 0, _ => none
  | n + 1, a0 =>
    Option.bind (impl_isVariable a0.Name) fun v5 =>
    bif v5 then
      some (decide ((a0.Args.length : Int) = (0 : Int)))
    else
      Option.bind (impl_isSymbol a0.Name) fun v12 =>
      bif v12 then
        bif decide ((a0.Args.length : Int) ≤ (4 : Int)) then
          Option.bind (slices_ContainsFunc_Simpl_Term_impl_Term a0.Args (fun y0 => impl_hasNames_1N n y0)) fun v22 =>
          some (!v22)
        else
          some false
      else
        some false
def impl_hasNames_1N : Nat → Term → Option Bool
  | 0, _ => none
  | n + 1, a0 =>
    Option.bind (impl_hasNamesN n a0) fun v4 =>
    some (!v4)
end
def impl_hasNames (a0 : Term) : Option Bool := lim fun n => impl_hasNamesN n a0
def impl_hasNames_1 (a0 : Term) : Option Bool := lim fun n => impl_hasNames_1N n a0

def impl_IsValidTerm (a0 : Term) : Option Bool :=
  Option.bind (impl_isSmall a0) fun v4 =>
  bif v4 then
    Option.bind (impl_hasNames a0) fun v7 =>
    some v7
  else
    some false

def impl_isVar (a0 : Term) : Option Bool :=
  Option.bind (sidx a0.Name (0 : Int)) fun v5 =>
  Option.bind (impl_isUpper v5) fun v6 =>
  some v6

def impl_collectN : Nat → (List ByteArray) → Term → Option (List ByteArray)
  | 0, _, _ => none
  | n + 1, a0, a1 =>
    bif decide ((a1.Args.length : Int) = (0 : Int)) then
      Option.bind (impl_isVar a1) fun v13 =>
      bif v13 then
        Option.bind (slices_Contains_Sstring_string a0 a1.Name) fun v18 =>
        bif v18 then
          some a0
        else
          Option.bind (app a0 ([a1.Name])) fun v24 =>
          some v24
      else
        thenL (ρ := (List ByteArray)) (σ := (List ByteArray)) (forN (fun (i6 : Nat) (s6 : (List ByteArray)) =>
          Option.bind (idx a1.Args (i6 : Int)) fun v31 =>
          Option.bind (impl_collectN n s6 v31) fun v35 =>
          some (.nx v35)) a1.Args.length 0 a0) fun s6 =>
        some s6
    else
      thenL (ρ := (List ByteArray)) (σ := (List ByteArray)) (forN (fun (i6 : Nat) (s6 : (List ByteArray)) =>
        Option.bind (idx a1.Args (i6 : Int)) fun v31 =>
        Option.bind (impl_collectN n s6 v31) fun v35 =>
        some (.nx v35)) a1.Args.length 0 a0) fun s6 =>
      some s6
def impl_collect (a0 : List ByteArray) (a1 : Term) : Option (List ByteArray) := lim fun n => impl_collectN n a0 a1

def impl_isGroundTerm (a0 : Term) : Option Bool :=
  Option.bind (impl_IsValidTerm a0) fun v4 =>
  bif v4 then
    Option.bind (impl_collect ([]) a0) fun v7 =>
    some (decide ((v7.length : Int) = (0 : Int)))
  else
    some false

def impl_notGround (a0 : Term) : Option Bool :=
  Option.bind (impl_isGroundTerm a0) fun v4 =>
  some (!v4)

def impl_isPattern_1 (a0 : ByteArray) : Option Bool :=
  some (!(decide (a0 = (⟨#[65]⟩ : ByteArray))))

def slices_IndexFunc_Sstring_string (a0 : List ByteArray) (a1 : ByteArray → Option Bool) : Option Int :=
  thenL (ρ := Int) (σ := Unit) (forN (fun (i2 : Nat) (s2 : Unit) =>
    Option.bind (idx a0 (i2 : Int)) fun v14 =>
    Option.bind (a1 v14) fun v16 =>
    bif v16 then
      some (.rt (i2 : Int))
    else
      some (.nx ())) a0.length 0 ()) fun s2 =>
  some (-1 : Int)

def slices_ContainsFunc_Sstring_string (a0 : List ByteArray) (a1 : ByteArray → Option Bool) : Option Bool :=
  Option.bind (slices_IndexFunc_Sstring_string a0 a1) fun v7 =>
  some (decide ((0 : Int) ≤ v7))

def impl_isPattern (a0 : Term) : Option Bool :=
  Option.bind (impl_IsValidTerm a0) fun v4 =>
  bif v4 then
    Option.bind (impl_collect ([]) a0) fun v7 =>
    Option.bind (slices_ContainsFunc_Sstring_string v7 (fun y0 => impl_isPattern_1 y0)) fun v8 =>
    some (!v8)
  else
    some false

def impl_IsValidDecomposition_1 (a0 : Term) : Option Bool :=
  Option.bind (impl_isPattern a0) fun v4 =>
  some (!v4)

def cmp_isNaN_string (a0 : ByteArray) : Option Bool :=
  some (!(decide (a0 = a0)))

def cmp_Compare_string (a0 : ByteArray) (a1 : ByteArray) : Option Int :=
  Option.bind (cmp_isNaN_string a0) fun v8 =>
  Option.bind (cmp_isNaN_string a1) fun v10 =>
  bif v8 then
    bif v10 then
      some (0 : Int)
    else
      some (-1 : Int)
  else
    bif v10 then
      some (1 : Int)
    else
      bif Op.bytesLess a0.data.toList a1.data.toList then
        some (-1 : Int)
      else
        bif decide (a0 = a1) then
          some (0 : Int)
        else
          some (1 : Int)

def cmp_isNaN_int (a0 : Int) : Option Bool :=
  some (!(decide (a0 = a0)))

def cmp_Compare_int (a0 : Int) (a1 : Int) : Option Int :=
  Option.bind (cmp_isNaN_int a0) fun v8 =>
  Option.bind (cmp_isNaN_int a1) fun v10 =>
  bif v8 then
    bif v10 then
      some (0 : Int)
    else
      some (-1 : Int)
  else
    bif v10 then
      some (1 : Int)
    else
      bif decide (a0 < a1) then
        some (-1 : Int)
      else
        bif decide (a1 < a0) then
          some (1 : Int)
        else
          some (0 : Int)

def cmp_Or_int (a0 : List Int) : Option Int :=
  thenL (ρ := Int) (σ := Unit) (forN (fun (i3 : Nat) (s3 : Unit) =>
    Option.bind (idx a0 (i3 : Int)) fun v10 =>
    bif decide (v10 = (0 : Int)) then
      some (.nx ())
    else
      some (.rt v10)) a0.length 0 ()) fun s3 =>
  some (0 : Int)

def slices_CompareFunc_Simpl_Term_Simpl_Term_impl_Term_impl_Term (a0 : List Term) (a1 : List Term) (a2 : Term → Term → Option Int) : Option Int :=
  thenL (ρ := Int) (σ := Unit) (forN (fun (i2 : Nat) (s2 : Unit) =>
    Option.bind (idx a0 (i2 : Int)) fun v16 =>
    bif decide ((a1.length : Int) ≤ (i2 : Int)) then
      some (.rt (1 : Int))
    else
      Option.bind (idx a1 (i2 : Int)) fun v24 =>
      Option.bind (a2 v16 v24) fun v29 =>
      bif decide (v29 = (0 : Int)) then
        some (.nx ())
      else
        some (.rt v29)) a0.length 0 ()) fun s2 =>
  bif decide ((a0.length : Int) < (a1.length : Int)) then
    some (-1 : Int)
  else
    some (0 : Int)

def impl_compareTermsN : Nat → Term → Term → Option Int
  | 0, _, _ => none
  | n + 1, a0, a1 =>
    Option.bind (impl_isVar a0) fun v9 =>
    Option.bind (impl_isVar a1) fun v11 =>
    bif v9 then
      bif v11 then
        Option.bind (cmp_Compare_string a0.Name a1.Name) fun v28 =>
        Option.bind (cmp_Compare_int (a0.Args.length : Int) (a1.Args.length : Int)) fun v35 =>
        Option.bind (cmp_Or_int ([v28, v35])) fun v37 =>
        bif decide (v37 = (0 : Int)) then
          Option.bind (slices_CompareFunc_Simpl_Term_Simpl_Term_impl_Term_impl_Term a0.Args a1.Args (fun y0 y1 => impl_compareTermsN n y0 y1)) fun v45 =>
          some v45
        else
          some v37
      else
        some (-1 : Int)
    else
      bif v11 then
        some (1 : Int)
      else
        Option.bind (cmp_Compare_string a0.Name a1.Name) fun v28 =>
        Option.bind (cmp_Compare_int (a0.Args.length : Int) (a1.Args.length : Int)) fun v35 =>
        Option.bind (cmp_Or_int ([v28, v35])) fun v37 =>
        bif decide (v37 = (0 : Int)) then
          Option.bind (slices_CompareFunc_Simpl_Term_Simpl_Term_impl_Term_impl_Term a0.Args a1.Args (fun y0 y1 => impl_compareTermsN n y0 y1)) fun v45 =>
          some v45
        else
          some v37
def impl_compareTerms (a0 : Term) (a1 : Term) : Option Int := lim fun n => impl_compareTermsN n a0 a1

def impl_areAscending (a0 : List Term) : Option Bool :=
  thenL (ρ := Bool) (σ := Unit) (forN (fun (i2 : Nat) (s2 : Unit) =>
    bif decide ((0 : Int) < (i2 : Int)) then
      Option.bind (idx a0 (IntKind.i64.wrap ((i2 : Int) - (1 : Int)))) fun v15 =>
      Option.bind (idx a0 (i2 : Int)) fun v19 =>
      Option.bind (impl_compareTerms v15 v19) fun v21 =>
      bif decide ((0 : Int) ≤ v21) then
        some (.rt false)
      else
        some (.nx ())
    else
      some (.nx ())) a0.length 0 ()) fun s2 =>
  some (decide ((a0.length : Int) ≤ (12 : Int)))

def impl_IsValidDecomposition (a0 : Decomposition) : Option Bool :=
  Option.bind (slices_ContainsFunc_Simpl_Term_impl_Term a0.Instances (fun y0 => impl_notGround y0)) fun v5 =>
  bif v5 then
    some false
  else
    Option.bind (slices_ContainsFunc_Simpl_Term_impl_Term a0.Patterns (fun y0 => impl_IsValidDecomposition_1 y0)) fun v9 =>
    bif v9 then
      some false
    else
      Option.bind (impl_areAscending a0.Patterns) fun v13 =>
      bif v13 then
        Option.bind (impl_areAscending a0.Instances) fun v17 =>
        bif v17 then
          bif decide ((0 : Int) < (a0.Instances.length : Int)) then
            some true
          else
            Option.bind (slices_ContainsFunc_Simpl_Term_impl_Term a0.Patterns (fun y0 => impl_notGround y0)) fun v27 =>
            some (!v27)
        else
          some false
      else
        some false

mutual
def eqTermN : Nat → Term → Term → Option Bool
  | 0, _, _ => none
  | n + 1, a0, a1 =>
    bif decide (a0.Name = a1.Name) then
      Option.bind (eqTermSN n a0.Args a1.Args) fun v14 =>
      bif v14 then
        some true
      else
        some false
    else
      some false
def eqTermSN : Nat → (List Term) → (List Term) → Option Bool
  | 0, _, _ => none
  | n + 1, a0, a1 =>
    bif decide ((a0.length : Int) = (a1.length : Int)) then
      thenL (ρ := Bool) (σ := Unit) (forN (fun (i4 : Nat) (s4 : Unit) =>
        Option.bind (idx a0 (i4 : Int)) fun v19 =>
        Option.bind (idx a1 (i4 : Int)) fun v23 =>
        Option.bind (eqTermN n v19 v23) fun v25 =>
        bif v25 then
          some (.nx ())
        else
          some (.rt false)) a0.length 0 ()) fun s4 =>
      some true
    else
      some false
end
def eqTerm (a0 : Term) (a1 : Term) : Option Bool := lim fun n => eqTermN n a0 a1
def eqTermS (a0 : List Term) (a1 : List Term) : Option Bool := lim fun n => eqTermSN n a0 a1

def eqDecomposition (a0 : Decomposition) (a1 : Decomposition) : Option Bool :=
  Option.bind (eqTermS a0.Patterns a1.Patterns) fun v9 =>
  bif v9 then
    Option.bind (eqTermS a0.Instances a1.Instances) fun v15 =>
    bif v15 then
      some true
    else
      some false
  else
    some false

def FnExactIsValidDecomposition (a0 : Decomposition) : Option Bool :=
  Option.bind (szDecomposition a0 (1048576 : Int)) fun v9 =>
  bif decide (v9 < (0 : Int)) then
    some true
  else
    Option.bind (toDecomposition a0) fun v13 =>
    Option.bind (spec_IsValidDecomposition v13) fun v14 =>
    Option.bind (toDecomposition a0) fun v16 =>
    Option.bind (impl_IsValidDecomposition v16) fun v18 =>
    bif v18 == v14 then
      Option.bind (toDecomposition a0) fun v24 =>
      Option.bind (eqDecomposition v16 v24) fun v25 =>
      bif v25 then
        some true
      else
        some false
    else
      some false

def szIntS (a0 : List Int) (a1 : Int) : Option Int :=
  bif decide ((IntKind.i64.wrap (a1 - (a0.length : Int))) < (0 : Int)) then
    some (-1 : Int)
  else
    some (IntKind.i64.wrap (a1 - (a0.length : Int)))

def szMajorant (a0 : Majorant) (a1 : Int) : Option Int :=
  bif decide ((IntKind.i64.wrap (a1 - (a0.Name.size : Int))) < (0 : Int)) then
    some (-1 : Int)
  else
    Option.bind (szIntS a0.Slopes (IntKind.i64.wrap (a1 - (a0.Name.size : Int)))) fun v15 =>
    bif decide (v15 < (0 : Int)) then
      some (-1 : Int)
    else
      some v15

def szMajorantS (a0 : List Majorant) (a1 : Int) : Option Int :=
  bif decide ((IntKind.i64.wrap (a1 - (a0.length : Int))) < (0 : Int)) then
    some (-1 : Int)
  else
    thenL (ρ := Int) (σ := Int) (forN (fun (i5 : Nat) (s5 : Int) =>
      Option.bind (idx a0 (i5 : Int)) fun v20 =>
      Option.bind (szMajorant v20 s5) fun v23 =>
      bif decide (v23 < (0 : Int)) then
        some (.rt (-1 : Int))
      else
        some (.nx v23)) a0.length 0 (IntKind.i64.wrap (a1 - (a0.length : Int)))) fun s5 =>
    some s5

def szStringS (a0 : List ByteArray) (a1 : Int) : Option Int :=
  bif decide ((IntKind.i64.wrap (a1 - (a0.length : Int))) < (0 : Int)) then
    some (-1 : Int)
  else
    thenL (ρ := Int) (σ := Int) (forN (fun (i5 : Nat) (s5 : Int) =>
      Option.bind (idx a0 (i5 : Int)) fun v21 =>
      bif decide ((IntKind.i64.wrap (s5 - (v21.size : Int))) < (0 : Int)) then
        some (.rt (-1 : Int))
      else
        some (.nx (IntKind.i64.wrap (s5 - (v21.size : Int))))) a0.length 0 (IntKind.i64.wrap (a1 - (a0.length : Int)))) fun s5 =>
    some s5

def szLinear (a0 : Linear) (a1 : Int) : Option Int :=
  Option.bind (szStringS a0.Vars a1) fun v8 =>
  bif decide (v8 < (0 : Int)) then
    some (-1 : Int)
  else
    Option.bind (szIntS a0.Slopes v8) fun v14 =>
    bif decide (v14 < (0 : Int)) then
      some (-1 : Int)
    else
      some v14

def toIntS (a0 : List Int) : Option (List Int) :=
  Option.bind (mkn (a0.length : Int)) fun n7 =>
  thenL (ρ := (List Int)) (σ := (List Int)) (forN (fun (i3 : Nat) (s3 : (List Int)) =>
    Option.bind (idx a0 (i3 : Int)) fun v18 =>
    Option.bind (idx s3 (i3 : Int)) fun v20 =>
    Option.bind (idx s3 (i3 : Int)) fun w2 =>
    some (.nx (s3.set (i3 : Int).toNat v18))) a0.length 0 (List.replicate n7 (0 : Int))) fun s3 =>
  some s3

def toMajorant (a0 : Majorant) : Option Majorant :=
  Option.bind (toIntS a0.Slopes) fun v9 =>
  some (Majorant.mk a0.Name v9 a0.Constant)

def toMajorantS (a0 : List Majorant) : Option (List Majorant) :=
  Option.bind (mkn (a0.length : Int)) fun n7 =>
  thenL (ρ := (List Majorant)) (σ := (List Majorant)) (forN (fun (i3 : Nat) (s3 : (List Majorant)) =>
    Option.bind (idx a0 (i3 : Int)) fun v18 =>
    Option.bind (toMajorant v18) fun v20 =>
    Option.bind (idx s3 (i3 : Int)) fun v21 =>
    Option.bind (idx s3 (i3 : Int)) fun w2 =>
    some (.nx (s3.set (i3 : Int).toNat v20))) a0.length 0 (List.replicate n7 (Majorant.mk (⟨#[]⟩ : ByteArray) ([]) (0 : Int)))) fun s3 =>
  some s3

def toStringS (a0 : List ByteArray) : Option (List ByteArray) :=
  Option.bind (mkn (a0.length : Int)) fun n7 =>
  thenL (ρ := (List ByteArray)) (σ := (List ByteArray)) (forN (fun (i3 : Nat) (s3 : (List ByteArray)) =>
    Option.bind (idx a0 (i3 : Int)) fun v18 =>
    Option.bind (idx s3 (i3 : Int)) fun v20 =>
    Option.bind (idx s3 (i3 : Int)) fun w2 =>
    some (.nx (s3.set (i3 : Int).toNat v18))) a0.length 0 (List.replicate n7 (⟨#[]⟩ : ByteArray))) fun s3 =>
  some s3

def toLinear (a0 : Linear) : Option Linear :=
  Option.bind (toStringS a0.Vars) fun v6 =>
  Option.bind (toIntS a0.Slopes) fun v10 =>
  some (Linear.mk v6 v10 a0.Constant)

def spec_l25List (a0 : List Majorant) : Option Bool :=
  bif decide ((8 : Int) < (a0.length : Int)) then
    some false
  else
    thenL (ρ := Bool) (σ := Unit) (forN (fun (i4 : Nat) (s4 : Unit) =>
      Option.bind (idx a0 (i4 : Int)) fun v17 =>
      Option.bind (spec_l2Symbol v17.Name) fun v21 =>
      bif v21 then
        bif decide ((4 : Int) < (v17.Slopes.length : Int)) then
          some (.rt false)
        else
          Option.bind (spec_l1In v17.Constant (0 : Int) (100000 : Int)) fun v32 =>
          bif v32 then
            thenL (ρ := (Flow Bool Unit)) (σ := Unit) (forN (fun (i10 : Nat) (s10 : Unit) =>
              Option.bind (idx v17.Slopes (i10 : Int)) fun v45 =>
              Option.bind (spec_l1In v45 (0 : Int) (1000 : Int)) fun v47 =>
              bif v47 then
                some (.nx ())
              else
                some (.rt (.rt false))) v17.Slopes.length 0 ()) fun s10 =>
            bif decide ((0 : Int) < (i4 : Int)) then
              Option.bind (idx a0 (IntKind.i64.wrap ((i4 : Int) - (1 : Int)))) fun v55 =>
              bif Op.bytesLess v55.Name.data.toList v17.Name.data.toList || decide (v55.Name = v17.Name) then
                Option.bind (idx a0 (IntKind.i64.wrap ((i4 : Int) - (1 : Int)))) fun v65 =>
                bif decide (v65.Name = v17.Name) then
                  Option.bind (idx a0 (IntKind.i64.wrap ((i4 : Int) - (1 : Int)))) fun v75 =>
                  bif decide ((v17.Slopes.length : Int) ≤ (v75.Slopes.length : Int)) then
                    some (.rt false)
                  else
                    some (.nx ())
                else
                  some (.nx ())
              else
                some (.rt false)
            else
              some (.nx ())
          else
            some (.rt false)
      else
        some (.rt false)) a0.length 0 ()) fun s4 =>
    some true

def spec_l25Linear (a0 : Linear) : Option Bool :=
  bif decide ((8 : Int) < (a0.Vars.length : Int)) then
    some false
  else
    bif decide ((a0.Slopes.length : Int) = (a0.Vars.length : Int)) then
      Option.bind (spec_l1In a0.Constant (0 : Int) (100000 : Int)) fun v20 =>
      bif v20 then
        thenL (ρ := Bool) (σ := Unit) (forN (fun (i4 : Nat) (s4 : Unit) =>
          Option.bind (idx a0.Vars (i4 : Int)) fun v33 =>
          Option.bind (spec_l2Var v33) fun v35 =>
          bif v35 then
            Option.bind (idx a0.Slopes (i4 : Int)) fun v41 =>
            Option.bind (spec_l1In v41 (1 : Int) (1000 : Int)) fun v43 =>
            bif v43 then
              bif decide ((0 : Int) < (i4 : Int)) then
                Option.bind (idx a0.Vars (IntKind.i64.wrap ((i4 : Int) - (1 : Int)))) fun v54 =>
                Option.bind (idx a0.Vars (i4 : Int)) fun v59 =>
                bif Op.bytesLess v54.data.toList v59.data.toList then
                  some (.nx ())
                else
                  some (.rt false)
              else
                some (.nx ())
            else
              some (.rt false)
          else
            some (.rt false)) a0.Vars.length 0 ()) fun s4 =>
        some true
      else
        some false
    else
      some false

def spec_l25Slope (a0 : Linear) (a1 : ByteArray) : Option Int :=
  thenL (ρ := Int) (σ := Unit) (forN (fun (i2 : Nat) (s2 : Unit) =>
    Option.bind (idx a0.Vars (i2 : Int)) fun v16 =>
    bif decide (v16 = a1) then
      Option.bind (idx a0.Slopes (i2 : Int)) fun v23 =>
      some (.rt v23)
    else
      some (.nx ())) a0.Vars.length 0 ()) fun s2 =>
  some (0 : Int)

def spec_l25Find (a0 : List Majorant) (a1 : ByteArray) (a2 : Int) : Option Int :=
  thenL (ρ := Int) (σ := Unit) (forN (fun (i2 : Nat) (s2 : Unit) =>
    Option.bind (idx a0 (i2 : Int)) fun v16 =>
    bif decide (v16.Name = a1) then
      Option.bind (idx a0 (i2 : Int)) fun v24 =>
      bif decide ((v24.Slopes.length : Int) = a2) then
        some (.rt (i2 : Int))
      else
        some (.nx ())
    else
      some (.nx ())) a0.length 0 ()) fun s2 =>
  some (-1 : Int)

def spec_l1Least (a0 : Int) (a1 : Int) : Option Int :=
  bif decide (a0 < a1) then
    some a0
  else
    some a1

def spec_l25ValueN : Nat → (List Majorant) → (List Int) → Term → Linear → Option (Int × Bool)
  | 0, _, _, _, _ => none
  | n + 1, a0, a1, a2, a3 =>
    Option.bind (spec_l2Var a2.Name) fun v17 =>
    bif v17 then
      Option.bind (spec_l25Slope a3 a2.Name) fun v21 =>
      some (v21, true)
    else
      Option.bind (spec_l25Find a0 a2.Name (a2.Args.length : Int)) fun v28 =>
      bif decide (v28 < (0 : Int)) then
        some ((0 : Int), false)
      else
        Option.bind (idx a0 v28) fun v33 =>
        thenL (ρ := (Int × Bool)) (σ := Int) (forN (fun (i8 : Nat) (s8 : Int) =>
          Option.bind (idx a2.Args (i8 : Int)) fun v49 =>
          Option.bind (spec_l25ValueN n a0 a1 v49 a3) fun v52 =>
          bif v52.2 then
            Option.bind (idx a0 v28) fun v60 =>
            Option.bind (idx v60.Slopes (i8 : Int)) fun v64 =>
            some (.nx (IntKind.i64.wrap (s8 + (IntKind.i64.wrap (v64 * v52.1)))))
          else
            some (.rt ((0 : Int), false))) a2.Args.length 0 v33.Constant) fun s8 =>
        Option.bind (idx a1 v28) fun v72 =>
        Option.bind (spec_l1Least s8 v72) fun v74 =>
        some (v74, true)
def spec_l25Value (a0 : List Majorant) (a1 : List Int) (a2 : Term) (a3 : Linear) : Option (Int × Bool) := lim fun n => spec_l25ValueN n a0 a1 a2 a3

def spec_CappedValue (a0 : List Majorant) (a1 : List Int) (a2 : Term) (a3 : Linear) : Option (Int × Bool) :=
  Option.bind (spec_l25List a0) fun v12 =>
  bif v12 then
    bif decide ((a1.length : Int) = (a0.length : Int)) then
      Option.bind (spec_l2Good a2) fun v23 =>
      bif v23 then
        Option.bind (spec_l25Linear a3) fun v28 =>
        bif v28 then
          thenL (ρ := (Int × Bool)) (σ := Unit) (forN (fun (i4 : Nat) (s4 : Unit) =>
            Option.bind (idx a1 (i4 : Int)) fun v39 =>
            Option.bind (spec_l1In v39 (0 : Int) (100000 : Int)) fun v41 =>
            bif v41 then
              some (.nx ())
            else
              some (.rt ((0 : Int), false))) a1.length 0 ()) fun s4 =>
          Option.bind (spec_l25Value a0 a1 a2 a3) fun v47 =>
          some (v47.1, v47.2)
        else
          some ((0 : Int), false)
      else
        some ((0 : Int), false)
    else
      some ((0 : Int), false)
  else
    some ((0 : Int), false)

def impl_compareMajorants (a0 : Majorant) (a1 : Majorant) : Option Int :=
  Option.bind (cmp_Compare_string a0.Name a1.Name) fun v9 =>
  Option.bind (cmp_Compare_int (a0.Slopes.length : Int) (a1.Slopes.length : Int)) fun v16 =>
  Option.bind (cmp_Or_int ([v9, v16])) fun v18 =>
  some v18

def impl_IsValidMajorants_1 (a0 : Int) : Option Bool :=
  Option.bind (impl_within a0 (0 : Int) (1000 : Int)) fun v4 =>
  some (!v4)

def slices_IndexFunc_Sint_int (a0 : List Int) (a1 : Int → Option Bool) : Option Int :=
  thenL (ρ := Int) (σ := Unit) (forN (fun (i2 : Nat) (s2 : Unit) =>
    Option.bind (idx a0 (i2 : Int)) fun v14 =>
    Option.bind (a1 v14) fun v16 =>
    bif v16 then
      some (.rt (i2 : Int))
    else
      some (.nx ())) a0.length 0 ()) fun s2 =>
  some (-1 : Int)

def slices_ContainsFunc_Sint_int (a0 : List Int) (a1 : Int → Option Bool) : Option Bool :=
  Option.bind (slices_IndexFunc_Sint_int a0 a1) fun v7 =>
  some (decide ((0 : Int) ≤ v7))

def impl_IsValidMajorants (a0 : List Majorant) : Option Bool :=
  thenL (ρ := Bool) (σ := Unit) (forN (fun (i2 : Nat) (s2 : Unit) =>
    Option.bind (idx a0 (i2 : Int)) fun v10 =>
    Option.bind (impl_isSymbol v10.Name) fun v14 =>
    bif v14 then
      bif decide ((4 : Int) < (v10.Slopes.length : Int)) then
        some (.rt false)
      else
        Option.bind (impl_within v10.Constant (0 : Int) (100000 : Int)) fun v25 =>
        bif v25 then
          bif decide ((0 : Int) < (i2 : Int)) then
            Option.bind (idx a0 (IntKind.i64.wrap ((i2 : Int) - (1 : Int)))) fun v35 =>
            Option.bind (impl_compareMajorants v35 v10) fun v38 =>
            bif decide ((0 : Int) ≤ v38) then
              some (.rt false)
            else
              Option.bind (slices_ContainsFunc_Sint_int v10.Slopes (fun y0 => impl_IsValidMajorants_1 y0)) fun v44 =>
              bif v44 then
                some (.rt false)
              else
                some (.nx ())
          else
            Option.bind (slices_ContainsFunc_Sint_int v10.Slopes (fun y0 => impl_IsValidMajorants_1 y0)) fun v44 =>
            bif v44 then
              some (.rt false)
            else
              some (.nx ())
        else
          some (.rt false)
    else
      some (.rt false)) a0.length 0 ()) fun s2 =>
  some (decide ((a0.length : Int) ≤ (8 : Int)))

def impl_CappedValue_1 (a0 : Int) : Option Bool :=
  Option.bind (impl_within a0 (0 : Int) (100000 : Int)) fun v4 =>
  some (!v4)

def impl_IsValidLinear (a0 : Linear) : Option Bool :=
  bif decide ((8 : Int) < (a0.Vars.length : Int)) then
    some false
  else
    bif decide ((a0.Slopes.length : Int) = (a0.Vars.length : Int)) then
      Option.bind (impl_within a0.Constant (0 : Int) (100000 : Int)) fun v21 =>
      bif v21 then
        thenL (ρ := Bool) (σ := Unit) (forN (fun (i4 : Nat) (s4 : Unit) =>
          Option.bind (idx a0.Vars (i4 : Int)) fun v30 =>
          Option.bind (impl_isVariable v30) fun v33 =>
          bif v33 then
            bif decide ((0 : Int) < (i4 : Int)) then
              Option.bind (idx a0.Vars (IntKind.i64.wrap ((i4 : Int) - (1 : Int)))) fun v44 =>
              bif Op.bytesLess v30.data.toList v44.data.toList || decide (v30 = v44) then
                some (.rt false)
              else
                Option.bind (idx a0.Slopes (i4 : Int)) fun v53 =>
                Option.bind (impl_within v53 (1 : Int) (1000 : Int)) fun v55 =>
                bif v55 then
                  some (.nx ())
                else
                  some (.rt false)
            else
              Option.bind (idx a0.Slopes (i4 : Int)) fun v53 =>
              Option.bind (impl_within v53 (1 : Int) (1000 : Int)) fun v55 =>
              bif v55 then
                some (.nx ())
              else
                some (.rt false)
          else
            some (.rt false)) a0.Vars.length 0 ()) fun s4 =>
        some true
      else
        some false
    else
      some false

def cmp_Less_string (a0 : ByteArray) (a1 : ByteArray) : Option Bool :=
  Option.bind (cmp_isNaN_string a0) fun v6 =>
  bif v6 then
    Option.bind (cmp_isNaN_string a1) fun v9 =>
    bif v9 then
      some (Op.bytesLess a0.data.toList a1.data.toList)
    else
      some true
  else
    some (Op.bytesLess a0.data.toList a1.data.toList)

def slices_isNaN_string (a0 : ByteArray) : Option Bool :=
  some (!(decide (a0 = a0)))

def slices_BinarySearch_Sstring_string (a0 : List ByteArray) (a1 : ByteArray) : Option (Int × Bool) :=
  thenL (ρ := (Int × Bool)) (σ := Int × Int) (lim fun n3 => whileN (fun (s3 : Int × Int) =>
    bif decide (s3.1 < s3.2) then
      Option.bind (shr .u64 (IntKind.u64.wrap (IntKind.i64.wrap (s3.1 + s3.2))) (1 : Int)) fun v20 =>
      Option.bind (idx a0 (IntKind.i64.wrap v20)) fun v24 =>
      Option.bind (cmp_Less_string v24 a1) fun v27 =>
      bif v27 then
        some (.nx (IntKind.i64.wrap ((IntKind.i64.wrap v20) + (1 : Int)), s3.2))
      else
        some (.nx (s3.1, IntKind.i64.wrap v20))
    else
      some (.br s3)) n3 ((0 : Int), (a0.length : Int))) fun s3 =>
  bif decide (s3.1 < (a0.length : Int)) then
    Option.bind (idx a0 s3.1) fun v38 =>
    bif decide (v38 = a1) then
      some (s3.1, true)
    else
      Option.bind (idx a0 s3.1) fun v45 =>
      Option.bind (slices_isNaN_string v45) fun v47 =>
      bif v47 then
        Option.bind (slices_isNaN_string a1) fun v50 =>
        some (s3.1, v50)
      else
        some (s3.1, false)
  else
    some (s3.1, false)

def impl_Linear__slope (a0 : Linear) (a1 : ByteArray) : Option Int :=
  Option.bind (slices_BinarySearch_Sstring_string a0.Vars a1) fun v11 =>
  bif v11.2 then
    Option.bind (idx a0.Slopes v11.1) fun v19 =>
    some v19
  else
    some (0 : Int)

def impl_majorant_1 (a0 : Majorant) (b0 : Term) : Option Bool :=
  bif decide (a0.Name = b0.Name) then
    some (decide ((a0.Slopes.length : Int) = (b0.Args.length : Int)))
  else
    some false

def slices_IndexFunc_Simpl_Majorant_impl_Majorant (a0 : List Majorant) (a1 : Majorant → Option Bool) : Option Int :=
  thenL (ρ := Int) (σ := Unit) (forN (fun (i2 : Nat) (s2 : Unit) =>
    Option.bind (idx a0 (i2 : Int)) fun v14 =>
    Option.bind (a1 v14) fun v16 =>
    bif v16 then
      some (.rt (i2 : Int))
    else
      some (.nx ())) a0.length 0 ()) fun s2 =>
  some (-1 : Int)

def impl_majorant (a0 : List Majorant) (a1 : Term) : Option Int :=
  Option.bind (slices_IndexFunc_Simpl_Majorant_impl_Majorant a0 (fun y0 => impl_majorant_1 y0 a1)) fun v7 =>
  some v7

def impl_cappedValueN : Nat → (List Majorant) → (List Int) → Term → Linear → Option (Int × Bool)
  | 0, _, _, _, _ => none
  | n + 1, a0, a1, a2, a3 =>
    Option.bind (impl_isVar a2) fun v17 =>
    bif v17 then
      Option.bind (impl_Linear__slope a3 a2.Name) fun v21 =>
      some (v21, true)
    else
      Option.bind (impl_majorant a0 a2) fun v24 =>
      bif decide (v24 < (0 : Int)) then
        some ((0 : Int), false)
      else
        Option.bind (idx a0 v24) fun v29 =>
        thenL (ρ := (Int × Bool)) (σ := Int) (forN (fun (i8 : Nat) (s8 : Int) =>
          Option.bind (idx a2.Args (i8 : Int)) fun v38 =>
          Option.bind (impl_cappedValueN n a0 a1 v38 a3) fun v45 =>
          bif v45.2 then
            Option.bind (idx a0 v24) fun v54 =>
            Option.bind (idx v54.Slopes (i8 : Int)) fun v58 =>
            some (.nx (IntKind.i64.wrap (s8 + (IntKind.i64.wrap (v45.1 * v58)))))
          else
            some (.rt ((0 : Int), false))) a2.Args.length 0 v29.Constant) fun s8 =>
        Option.bind (idx a1 v24) fun v66 =>
        some (min s8 v66, true)
def impl_cappedValue (a0 : List Majorant) (a1 : List Int) (a2 : Term) (a3 : Linear) : Option (Int × Bool) := lim fun n => impl_cappedValueN n a0 a1 a2 a3

def impl_CappedValue (a0 : List Majorant) (a1 : List Int) (a2 : Term) (a3 : Linear) : Option (Int × Bool) :=
  Option.bind (impl_IsValidMajorants a0) fun v11 =>
  bif v11 then
    bif decide ((a1.length : Int) = (a0.length : Int)) then
      Option.bind (slices_ContainsFunc_Sint_int a1 (fun y0 => impl_CappedValue_1 y0)) fun v22 =>
      bif v22 then
        some ((0 : Int), false)
      else
        Option.bind (impl_IsValidTerm a2) fun v26 =>
        bif v26 then
          Option.bind (impl_IsValidLinear a3) fun v31 =>
          bif v31 then
            Option.bind (impl_cappedValue a0 a1 a2 a3) fun v38 =>
            some (v38.1, v38.2)
          else
            some ((0 : Int), false)
        else
          some ((0 : Int), false)
    else
      some ((0 : Int), false)
  else
    some ((0 : Int), false)

def eqIntS (a0 : List Int) (a1 : List Int) : Option Bool :=
  bif decide ((a0.length : Int) = (a1.length : Int)) then
    thenL (ρ := Bool) (σ := Unit) (forN (fun (i4 : Nat) (s4 : Unit) =>
      Option.bind (idx a0 (i4 : Int)) fun v19 =>
      Option.bind (idx a1 (i4 : Int)) fun v23 =>
      bif decide (v19 = v23) then
        some (.nx ())
      else
        some (.rt false)) a0.length 0 ()) fun s4 =>
    some true
  else
    some false

def eqMajorant (a0 : Majorant) (a1 : Majorant) : Option Bool :=
  bif decide (a0.Name = a1.Name) then
    Option.bind (eqIntS a0.Slopes a1.Slopes) fun v14 =>
    bif v14 then
      bif decide (a0.Constant = a1.Constant) then
        some true
      else
        some false
    else
      some false
  else
    some false

def eqMajorantS (a0 : List Majorant) (a1 : List Majorant) : Option Bool :=
  bif decide ((a0.length : Int) = (a1.length : Int)) then
    thenL (ρ := Bool) (σ := Unit) (forN (fun (i4 : Nat) (s4 : Unit) =>
      Option.bind (idx a0 (i4 : Int)) fun v19 =>
      Option.bind (idx a1 (i4 : Int)) fun v23 =>
      Option.bind (eqMajorant v19 v23) fun v25 =>
      bif v25 then
        some (.nx ())
      else
        some (.rt false)) a0.length 0 ()) fun s4 =>
    some true
  else
    some false

def eqStringS (a0 : List ByteArray) (a1 : List ByteArray) : Option Bool :=
  bif decide ((a0.length : Int) = (a1.length : Int)) then
    thenL (ρ := Bool) (σ := Unit) (forN (fun (i4 : Nat) (s4 : Unit) =>
      Option.bind (idx a0 (i4 : Int)) fun v19 =>
      Option.bind (idx a1 (i4 : Int)) fun v23 =>
      bif decide (v19 = v23) then
        some (.nx ())
      else
        some (.rt false)) a0.length 0 ()) fun s4 =>
    some true
  else
    some false

def eqLinear (a0 : Linear) (a1 : Linear) : Option Bool :=
  Option.bind (eqStringS a0.Vars a1.Vars) fun v9 =>
  bif v9 then
    Option.bind (eqIntS a0.Slopes a1.Slopes) fun v15 =>
    bif v15 then
      bif decide (a0.Constant = a1.Constant) then
        some true
      else
        some false
    else
      some false
  else
    some false

def FnExactCappedValue (a0 : List Majorant) (a1 : List Int) (a2 : Term) (a3 : Linear) : Option Bool :=
  bif decide ((1048576 : Int) < (a1.length : Int)) then
    some true
  else
    Option.bind (szMajorantS a0 (1048576 : Int)) fun v23 =>
    bif decide (v23 < (0 : Int)) then
      some true
    else
      Option.bind (szTerm a2 v23) fun v28 =>
      bif decide (v28 < (0 : Int)) then
        some true
      else
        Option.bind (szLinear a3 v28) fun v33 =>
        bif decide (v33 < (0 : Int)) then
          some true
        else
          Option.bind (toMajorantS a0) fun v38 =>
          Option.bind (toIntS a1) fun v40 =>
          Option.bind (toTerm a2) fun v42 =>
          Option.bind (toLinear a3) fun v44 =>
          Option.bind (spec_CappedValue v38 v40 v42 v44) fun v45 =>
          Option.bind (toMajorantS a0) fun v49 =>
          Option.bind (toIntS a1) fun v51 =>
          Option.bind (toTerm a2) fun v53 =>
          Option.bind (toLinear a3) fun v55 =>
          Option.bind (impl_CappedValue v49 v51 v53 v55) fun v61 =>
          bif decide (v61.1 = v45.1) then
            bif v61.2 == v45.2 then
              Option.bind (toMajorantS a0) fun v74 =>
              Option.bind (eqMajorantS v49 v74) fun v75 =>
              bif v75 then
                Option.bind (toIntS a1) fun v79 =>
                Option.bind (eqIntS v51 v79) fun v80 =>
                bif v80 then
                  Option.bind (toTerm a2) fun v84 =>
                  Option.bind (eqTerm v53 v84) fun v85 =>
                  bif v85 then
                    Option.bind (toLinear a3) fun v89 =>
                    Option.bind (eqLinear v55 v89) fun v90 =>
                    bif v90 then
                      some true
                    else
                      some false
                  else
                    some false
                else
                  some false
              else
                some false
            else
              some false
          else
            some false

end
end Go.Proofs.Ytdmkceajaagpgaa
