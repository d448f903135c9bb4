/- A part of the proof: lemmas only; nothing is claimed here beyond what each lemma says. -/
import Derived.Test.YtkokcfphepmeeaaGreatDoorGty
set_option linter.unusedSimpArgs false
set_option linter.unusedVariables false
set_option linter.defProp false
set_option maxRecDepth 4000
namespace Go.Proofs.YtkokcfphepmeeaaGreatDoor
open Go.Av
noncomputable section
def szIntS (a0 : List Int) (a1 : Int) : Option Int :=
  bif decide ((IntKind.i64.wrap (a1 - (a0.length : Int))) < (0 : Int)) then
    some (-1 : Int)
  else
    some (IntKind.i64.wrap (a1 - (a0.length : Int)))

def szIntSS (a0 : List (List Int)) (a1 : Int) : Option Int :=
  bif decide ((IntKind.i64.wrap (a1 - (a0.length : Int))) < (0 : Int)) then
    some (-1 : Int)
  else
    thenL (ρ := Int) (σ := Int) (forN (fun (i5 : Nat) (s5 : Int) =>
      Option.bind (idx a0 (i5 : Int)) fun v20 =>
      Option.bind (szIntS v20 s5) fun v23 =>
      bif decide (v23 < (0 : Int)) then
        some (.rt (-1 : Int))
      else
        some (.nx v23)) a0.length 0 (IntKind.i64.wrap (a1 - (a0.length : Int)))) fun s5 =>
    some s5

mutual
def szTermN : Nat → Term → Int → Option Int
  | 0, _, _ => none
  | n + 1, a0, a1 =>
    bif decide ((IntKind.i64.wrap (a1 - (a0.Name.size : Int))) < (0 : Int)) then
      some (-1 : Int)
    else
      Option.bind (szTermSN n a0.Args (IntKind.i64.wrap (a1 - (a0.Name.size : Int)))) fun v15 =>
      bif decide (v15 < (0 : Int)) then
        some (-1 : Int)
      else
        some v15
def szTermSN : Nat → (List Term) → Int → Option Int
  | 0, _, _ => none
  | n + 1, a0, a1 =>
    bif decide ((IntKind.i64.wrap (a1 - (a0.length : Int))) < (0 : Int)) then
      some (-1 : Int)
    else
      thenL (ρ := Int) (σ := Int) (forN (fun (i5 : Nat) (s5 : Int) =>
        Option.bind (idx a0 (i5 : Int)) fun v20 =>
        Option.bind (szTermN n v20 s5) fun v23 =>
        bif decide (v23 < (0 : Int)) then
          some (.rt (-1 : Int))
        else
          some (.nx v23)) a0.length 0 (IntKind.i64.wrap (a1 - (a0.length : Int)))) fun s5 =>
      some s5
end
def szTerm (a0 : Term) (a1 : Int) : Option Int := lim fun n => szTermN n a0 a1
def szTermS (a0 : List Term) (a1 : Int) : Option Int := lim fun n => szTermSN n a0 a1

mutual
def szFormulaN : Nat → Formula → Int → Option Int
  | 0, _, _ => none
  | n + 1, a0, a1 =>
    Option.bind (szTerm a0.Atom a1) fun v8 =>
    bif decide (v8 < (0 : Int)) then
      some (-1 : Int)
    else
      bif decide ((IntKind.i64.wrap (v8 - (a0.Var.size : Int))) < (0 : Int)) then
        some (-1 : Int)
      else
        Option.bind (szFormulaSN n a0.Parts (IntKind.i64.wrap (v8 - (a0.Var.size : Int)))) fun v21 =>
        bif decide (v21 < (0 : Int)) then
          some (-1 : Int)
        else
          some v21
def szFormulaSN : Nat → (List Formula) → Int → Option Int
  | 0, _, _ => none
  | n + 1, a0, a1 =>
    bif decide ((IntKind.i64.wrap (a1 - (a0.length : Int))) < (0 : Int)) then
      some (-1 : Int)
    else
      thenL (ρ := Int) (σ := Int) (forN (fun (i5 : Nat) (s5 : Int) =>
        Option.bind (idx a0 (i5 : Int)) fun v20 =>
        Option.bind (szFormulaN n v20 s5) fun v23 =>
        bif decide (v23 < (0 : Int)) then
          some (.rt (-1 : Int))
        else
          some (.nx v23)) a0.length 0 (IntKind.i64.wrap (a1 - (a0.length : Int)))) fun s5 =>
      some s5
end
def szFormula (a0 : Formula) (a1 : Int) : Option Int := lim fun n => szFormulaN n a0 a1
def szFormulaS (a0 : List Formula) (a1 : Int) : Option Int := lim fun n => szFormulaSN n a0 a1

def toIntS (a0 : List Int) : Option (List Int) :=
  Option.bind (mkn (a0.length : Int)) fun n7 =>
  thenL (ρ := (List Int)) (σ := (List Int)) (forN (fun (i3 : Nat) (s3 : (List Int)) =>
    Option.bind (idx a0 (i3 : Int)) fun v18 =>
    Option.bind (idx s3 (i3 : Int)) fun v20 =>
    Option.bind (idx s3 (i3 : Int)) fun w2 =>
    some (.nx (s3.set (i3 : Int).toNat v18))) a0.length 0 (List.replicate n7 (0 : Int))) fun s3 =>
  some s3

def toIntSS (a0 : List (List Int)) : Option (List (List Int)) :=
  Option.bind (mkn (a0.length : Int)) fun n7 =>
  thenL (ρ := (List (List Int))) (σ := (List (List Int))) (forN (fun (i3 : Nat) (s3 : (List (List Int))) =>
    Option.bind (idx a0 (i3 : Int)) fun v18 =>
    Option.bind (toIntS v18) fun v20 =>
    Option.bind (idx s3 (i3 : Int)) fun v21 =>
    Option.bind (idx s3 (i3 : Int)) fun w2 =>
    some (.nx (s3.set (i3 : Int).toNat v20))) a0.length 0 (List.replicate n7 ([]))) fun s3 =>
  some s3

mutual
def toTermN : Nat → Term → Option Term
  | 0, _ => none
  | n + 1, a0 =>
    Option.bind (toTermSN n a0.Args) fun v9 =>
    some (Term.mk a0.Name v9)
def toTermSN : Nat → (List Term) → Option (List Term)
  | 0, _ => none
  | n + 1, a0 =>
    Option.bind (mkn (a0.length : Int)) fun n7 =>
    thenL (ρ := (List Term)) (σ := (List Term)) (forN (fun (i3 : Nat) (s3 : (List Term)) =>
      Option.bind (idx a0 (i3 : Int)) fun v18 =>
      Option.bind (toTermN n v18) fun v20 =>
      Option.bind (idx s3 (i3 : Int)) fun v21 =>
      Option.bind (idx s3 (i3 : Int)) fun w2 =>
      some (.nx (s3.set (i3 : Int).toNat v20))) a0.length 0 (List.replicate n7 (Term.mk (⟨#[]⟩ : ByteArray) ([])))) fun s3 =>
    some s3
end
def toTerm (a0 : Term) : Option Term := lim fun n => toTermN n a0
def toTermS (a0 : List Term) : Option (List Term) := lim fun n => toTermSN n a0

mutual
def toFormulaN : Nat → Formula → Option Formula
  | 0, _ => none
  | n + 1, a0 =>
    Option.bind (toTerm a0.Atom) fun v9 =>
    Option.bind (toFormulaSN n a0.Parts) fun v16 =>
    some (Formula.mk a0.Op v9 a0.Var v16)
def toFormulaSN : Nat → (List Formula) → Option (List Formula)
  | 0, _ => none
  | n + 1, a0 =>
    Option.bind (mkn (a0.length : Int)) fun n7 =>
    thenL (ρ := (List Formula)) (σ := (List Formula)) (forN (fun (i3 : Nat) (s3 : (List Formula)) =>
      Option.bind (idx a0 (i3 : Int)) fun v18 =>
      Option.bind (toFormulaN n v18) fun v20 =>
      Option.bind (idx s3 (i3 : Int)) fun v21 =>
      Option.bind (idx s3 (i3 : Int)) fun w2 =>
      some (.nx (s3.set (i3 : Int).toNat v20))) a0.length 0 (List.replicate n7 (Formula.mk (0 : Int) (Term.mk (⟨#[]⟩ : ByteArray) ([])) (⟨#[]⟩ : ByteArray) ([])))) fun s3 =>
    some s3
end
def toFormula (a0 : Formula) : Option Formula := lim fun n => toFormulaN n a0
def toFormulaS (a0 : List Formula) : Option (List Formula) := lim fun n => toFormulaSN n a0

def spec_l15Abs (a0 : Int) : Option Int :=
  bif decide (a0 < (0 : Int)) then
    some (IntKind.i64.wrap (0 - a0))
  else
    some a0

def spec_l1In (a0 : Int) (a1 : Int) (a2 : Int) : Option Bool :=
  bif decide (a1 ≤ a0) then
    some (decide (a0 ≤ a2))
  else
    some false

def spec_l15Clause (a0 : List Int) : Option Bool :=
  thenL (ρ := Bool) (σ := Unit) (forN (fun (i2 : Nat) (s2 : Unit) =>
    Option.bind (idx a0 (i2 : Int)) fun v12 =>
    Option.bind (spec_l15Abs v12) fun v14 =>
    Option.bind (spec_l1In v14 (1 : Int) (12 : Int)) fun v15 =>
    bif v15 then
      bif decide ((0 : Int) < (i2 : Int)) then
        Option.bind (idx a0 (IntKind.i64.wrap ((i2 : Int) - (1 : Int)))) fun v24 =>
        Option.bind (spec_l15Abs v24) fun v26 =>
        Option.bind (idx a0 (i2 : Int)) fun v29 =>
        Option.bind (spec_l15Abs v29) fun v31 =>
        bif decide (v31 ≤ v26) then
          some (.rt false)
        else
          some (.nx ())
      else
        some (.nx ())
    else
      some (.rt false)) a0.length 0 ()) fun s2 =>
  some true

def spec_l15Set (a0 : List (List Int)) : Option Bool :=
  thenL (ρ := Bool) (σ := Unit) (forN (fun (i2 : Nat) (s2 : Unit) =>
    bif decide ((i2 : Int) ≤ (40 : Int)) then
      Option.bind (idx a0 (i2 : Int)) fun v16 =>
      Option.bind (spec_l15Clause v16) fun v18 =>
      bif v18 then
        some (.nx ())
      else
        some (.rt false)
    else
      some (.rt (decide ((a0.length : Int) ≤ (40 : Int))))) a0.length 0 ()) fun s2 =>
  some (decide ((a0.length : Int) ≤ (40 : Int)))

def spec_l8ManyN : Nat → Formula → Int → Option Int
  | 0, _, _ => none
  | n + 1, a0, a1 =>
    thenL (ρ := Int) (σ := Int) (forN (fun (i3 : Nat) (s3 : Int) =>
      bif decide (s3 ≤ a1) then
        Option.bind (idx a0.Parts (i3 : Int)) fun v23 =>
        Option.bind (spec_l8ManyN n v23 (IntKind.i64.wrap (a1 - s3))) fun v28 =>
        some (.nx (IntKind.i64.wrap (s3 + v28)))
      else
        some (.rt s3)) a0.Parts.length 0 (1 : Int)) fun s3 =>
    some s3
def spec_l8Many (a0 : Formula) (a1 : Int) : Option Int := lim fun n => spec_l8ManyN n a0 a1

def spec_l8None (a0 : Term) : Option Bool :=
  bif decide (a0.Name = (⟨#[]⟩ : ByteArray)) then
    some (decide ((a0.Args.length : Int) = (0 : Int)))
  else
    some false

def spec_l2ManyN : Nat → Term → Int → Option Int
  | 0, _, _ => none
  | n + 1, a0, a1 =>
    thenL (ρ := Int) (σ := Int) (forN (fun (i3 : Nat) (s3 : Int) =>
      bif decide (s3 ≤ a1) then
        Option.bind (idx a0.Args (i3 : Int)) fun v23 =>
        Option.bind (spec_l2ManyN n v23 (IntKind.i64.wrap (a1 - s3))) fun v28 =>
        some (.nx (IntKind.i64.wrap (s3 + v28)))
      else
        some (.rt s3)) a0.Args.length 0 (1 : Int)) fun s3 =>
    some s3
def spec_l2Many (a0 : Term) (a1 : Int) : Option Int := lim fun n => spec_l2ManyN n a0 a1

def spec_l1Most (a0 : Int) (a1 : Int) : Option Int :=
  bif decide (a1 < a0) then
    some a0
  else
    some a1

def spec_l2DepthN : Nat → Term → Option Int
  | 0, _ => none
  | n + 1, a0 =>
    thenL (ρ := Int) (σ := Int) (forN (fun (i3 : Nat) (s3 : Int) =>
      Option.bind (idx a0.Args (i3 : Int)) fun v16 =>
      Option.bind (spec_l2DepthN n v16) fun v18 =>
      Option.bind (spec_l1Most s3 v18) fun v19 =>
      some (.nx v19)) a0.Args.length 0 (0 : Int)) fun s3 =>
    some (IntKind.i64.wrap (s3 + (1 : Int)))
def spec_l2Depth (a0 : Term) : Option Int := lim fun n => spec_l2DepthN n a0

def spec_l2Fits (a0 : Term) : Option Bool :=
  Option.bind (spec_l2Many a0 (30 : Int)) fun v4 =>
  bif decide (v4 ≤ (30 : Int)) then
    Option.bind (spec_l2Depth a0) fun v8 =>
    some (decide (v8 ≤ (8 : Int)))
  else
    some false

def spec_l2Small (a0 : Int) : Option Bool :=
  bif decide ((97 : Int) ≤ a0) then
    bif decide (a0 ≤ (122 : Int)) then
      some true
    else
      bif decide ((48 : Int) ≤ a0) then
        some (decide (a0 ≤ (57 : Int)))
      else
        some false
  else
    bif decide ((48 : Int) ≤ a0) then
      some (decide (a0 ≤ (57 : Int)))
    else
      some false

def spec_l2Var (a0 : ByteArray) : Option Bool :=
  Option.bind (spec_l1In (a0.size : Int) (1 : Int) (4 : Int)) fun v6 =>
  bif v6 then
    Option.bind (sidx a0 (0 : Int)) fun v10 =>
    bif decide (v10 < (65 : Int)) then
      some false
    else
      Option.bind (sidx a0 (0 : Int)) fun v15 =>
      bif decide ((90 : Int) < v15) then
        some false
      else
        Option.bind (bnd (a0.size : Int)) fun N4 =>
        thenL (ρ := Bool) (σ := Unit) (forN (fun (i4 : Nat) (s4 : Unit) =>
          Option.bind (sidx a0 (i4 : Int)) fun v26 =>
          Option.bind (spec_l2Small v26) fun v27 =>
          bif v27 then
            some (.nx ())
          else
            some (.rt false)) (N4 - 1) 1 ()) fun s4 =>
        some true
  else
    some false

def spec_l2Symbol (a0 : ByteArray) : Option Bool :=
  Option.bind (spec_l1In (a0.size : Int) (1 : Int) (6 : Int)) fun v6 =>
  bif v6 then
    Option.bind (sidx a0 (0 : Int)) fun v10 =>
    bif decide (v10 < (97 : Int)) then
      some false
    else
      Option.bind (sidx a0 (0 : Int)) fun v15 =>
      bif decide ((122 : Int) < v15) then
        some false
      else
        bif decide (a0 = (⟨#[116, 114, 117, 101]⟩ : ByteArray)) then
          some false
        else
          bif decide (a0 = (⟨#[102, 97, 108, 115, 101]⟩ : ByteArray)) then
            some false
          else
            bif decide (a0 = (⟨#[116, 114, 117, 116, 104]⟩ : ByteArray)) then
              some false
            else
              bif decide (a0 = (⟨#[98, 111, 116, 104]⟩ : ByteArray)) then
                some false
              else
                bif decide (a0 = (⟨#[101, 105, 116, 104, 101, 114]⟩ : ByteArray)) then
                  some false
                else
                  bif decide (a0 = (⟨#[105, 102]⟩ : ByteArray)) then
                    some false
                  else
                    bif decide (a0 = (⟨#[97, 108, 108]⟩ : ByteArray)) then
                      some false
                    else
                      bif decide (a0 = (⟨#[115, 111, 109, 101]⟩ : ByteArray)) then
                        some false
                      else
                        Option.bind (bnd (a0.size : Int)) fun N14 =>
                        thenL (ρ := Bool) (σ := Unit) (forN (fun (i14 : Nat) (s14 : Unit) =>
                          Option.bind (sidx a0 (i14 : Int)) fun v36 =>
                          Option.bind (spec_l2Small v36) fun v37 =>
                          bif v37 then
                            some (.nx ())
                          else
                            Option.bind (sidx a0 (i14 : Int)) fun v42 =>
                            bif decide (v42 = (95 : Int)) then
                              some (.nx ())
                            else
                              some (.rt false)) (N14 - 1) 1 ()) fun s14 =>
                        some true
  else
    some false

def spec_l2NodesN : Nat → Term → Option Bool
  | 0, _ => none
  | n + 1, a0 =>
    Option.bind (spec_l2Var a0.Name) fun v6 =>
    bif v6 then
      some (decide ((a0.Args.length : Int) = (0 : Int)))
    else
      Option.bind (spec_l2Symbol a0.Name) fun v13 =>
      bif v13 then
        bif decide ((4 : Int) < (a0.Args.length : Int)) then
          some false
        else
          thenL (ρ := Bool) (σ := Unit) (forN (fun (i6 : Nat) (s6 : Unit) =>
            Option.bind (idx a0.Args (i6 : Int)) fun v31 =>
            Option.bind (spec_l2NodesN n v31) fun v33 =>
            bif v33 then
              some (.nx ())
            else
              some (.rt false)) a0.Args.length 0 ()) fun s6 =>
          some true
      else
        some false
def spec_l2Nodes (a0 : Term) : Option Bool := lim fun n => spec_l2NodesN n a0

def spec_l2Good (a0 : Term) : Option Bool :=
  Option.bind (spec_l2Fits a0) fun v4 =>
  bif v4 then
    Option.bind (spec_l2Nodes a0) fun v7 =>
    some v7
  else
    some false

def spec_l2Atom (a0 : Term) : Option Bool :=
  bif decide (a0.Name = (⟨#[61]⟩ : ByteArray)) then
    bif decide ((a0.Args.length : Int) = (2 : Int)) then
      Option.bind (spec_l2Fits a0) fun v12 =>
      bif v12 then
        Option.bind (idx a0.Args (0 : Int)) fun v17 =>
        Option.bind (spec_l2Nodes v17) fun v19 =>
        bif v19 then
          Option.bind (idx a0.Args (1 : Int)) fun v24 =>
          Option.bind (spec_l2Nodes v24) fun v26 =>
          some v26
        else
          some false
      else
        some false
    else
      some false
  else
    Option.bind (spec_l2Symbol a0.Name) fun v30 =>
    bif v30 then
      Option.bind (spec_l2Good a0) fun v33 =>
      some v33
    else
      some false

def spec_l8Form (a0 : Formula) : Option Bool :=
  bif decide (a0.Op = (1 : Int)) then
    bif decide ((a0.Parts.length : Int) = (0 : Int)) then
      Option.bind (spec_l8None a0.Atom) fun v17 =>
      bif v17 then
        some (decide (a0.Var = (⟨#[]⟩ : ByteArray)))
      else
        some false
    else
      some false
  else
    bif decide (a0.Op = (2 : Int)) then
      bif decide ((a0.Parts.length : Int) = (0 : Int)) then
        Option.bind (spec_l8None a0.Atom) fun v17 =>
        bif v17 then
          some (decide (a0.Var = (⟨#[]⟩ : ByteArray)))
        else
          some false
      else
        some false
    else
      bif decide (a0.Op = (3 : Int)) then
        bif decide ((a0.Parts.length : Int) = (0 : Int)) then
          Option.bind (spec_l2Atom a0.Atom) fun v31 =>
          bif v31 then
            some (decide (a0.Var = (⟨#[]⟩ : ByteArray)))
          else
            some false
        else
          some false
      else
        bif decide (a0.Op = (4 : Int)) then
          bif decide ((a0.Parts.length : Int) = (1 : Int)) then
            Option.bind (spec_l8None a0.Atom) fun v45 =>
            bif v45 then
              some (decide (a0.Var = (⟨#[]⟩ : ByteArray)))
            else
              some false
          else
            some false
        else
          bif decide (a0.Op = (5 : Int)) then
            bif decide ((a0.Parts.length : Int) = (2 : Int)) then
              Option.bind (spec_l8None a0.Atom) fun v61 =>
              bif v61 then
                some (decide (a0.Var = (⟨#[]⟩ : ByteArray)))
              else
                some false
            else
              some false
          else
            bif decide (a0.Op = (6 : Int)) then
              bif decide ((a0.Parts.length : Int) = (2 : Int)) then
                Option.bind (spec_l8None a0.Atom) fun v61 =>
                bif v61 then
                  some (decide (a0.Var = (⟨#[]⟩ : ByteArray)))
                else
                  some false
              else
                some false
            else
              bif decide (a0.Op = (7 : Int)) then
                bif decide ((a0.Parts.length : Int) = (2 : Int)) then
                  Option.bind (spec_l8None a0.Atom) fun v61 =>
                  bif v61 then
                    some (decide (a0.Var = (⟨#[]⟩ : ByteArray)))
                  else
                    some false
                else
                  some false
              else
                bif decide (a0.Op = (8 : Int)) then
                  bif decide ((a0.Parts.length : Int) = (1 : Int)) then
                    Option.bind (spec_l8None a0.Atom) fun v76 =>
                    bif v76 then
                      Option.bind (spec_l2Var a0.Var) fun v81 =>
                      some v81
                    else
                      some false
                  else
                    some false
                else
                  bif decide (a0.Op = (9 : Int)) then
                    bif decide ((a0.Parts.length : Int) = (1 : Int)) then
                      Option.bind (spec_l8None a0.Atom) fun v76 =>
                      bif v76 then
                        Option.bind (spec_l2Var a0.Var) fun v81 =>
                        some v81
                      else
                        some false
                    else
                      some false
                  else
                    some false

def spec_l8FormsN : Nat → Formula → Option Bool
  | 0, _ => none
  | n + 1, a0 =>
    Option.bind (spec_l8Form a0) fun v5 =>
    bif v5 then
      thenL (ρ := Bool) (σ := Unit) (forN (fun (i4 : Nat) (s4 : Unit) =>
        Option.bind (idx a0.Parts (i4 : Int)) fun v17 =>
        Option.bind (spec_l8FormsN n v17) fun v19 =>
        bif v19 then
          some (.nx ())
        else
          some (.rt false)) a0.Parts.length 0 ()) fun s4 =>
      some true
    else
      some false
def spec_l8Forms (a0 : Formula) : Option Bool := lim fun n => spec_l8FormsN n a0

def spec_l8Good (a0 : Formula) : Option Bool :=
  Option.bind (spec_l8Many a0 (40 : Int)) fun v4 =>
  bif decide (v4 ≤ (40 : Int)) then
    Option.bind (spec_l8Forms a0) fun v8 =>
    some v8
  else
    some false

def spec_l1NumN : Nat → Int → Option ByteArray
  | 0, _ => none
  | n + 1, a0 =>
    bif decide (a0 < (0 : Int)) then
      Option.bind (spec_l1NumN n (IntKind.i64.wrap (0 - a0))) fun v7 =>
      Option.bind (sapp (⟨#[45]⟩ : ByteArray) v7) fun v8 =>
      some v8
    else
      bif decide (a0 < (10 : Int)) then
        Option.bind (sslc (⟨#[48, 49, 50, 51, 52, 53, 54, 55, 56, 57]⟩ : ByteArray) a0 (IntKind.i64.wrap (a0 + (1 : Int)))) fun v14 =>
        some v14
      else
        Option.bind (quo a0 (10 : Int)) fun v16 =>
        Option.bind (spec_l1NumN n v16) fun v17 =>
        Option.bind (rem a0 (10 : Int)) fun v19 =>
        Option.bind (rem a0 (10 : Int)) fun v21 =>
        Option.bind (sslc (⟨#[48, 49, 50, 51, 52, 53, 54, 55, 56, 57]⟩ : ByteArray) v19 (IntKind.i64.wrap (v21 + (1 : Int)))) fun v23 =>
        Option.bind (sapp v17 v23) fun v24 =>
        some v24
def spec_l1Num (a0 : Int) : Option ByteArray := lim fun n => spec_l1NumN n a0

def spec_l1Read (a0 : ByteArray) : Option (Int × Bool) :=
  bif decide ((1 : Int) < (a0.size : Int)) then
    Option.bind (sidx a0 (0 : Int)) fun v13 =>
    bif decide (v13 = (45 : Int)) then
      Option.bind (sslc a0 (1 : Int) (a0.size : Int)) fun v17 =>
      Option.bind (spec_l1In (v17.size : Int) (1 : Int) (6 : Int)) fun v20 =>
      bif v20 then
        Option.bind (bnd (v17.size : Int)) fun N8 =>
        thenL (ρ := (Int × Bool)) (σ := Int) (forN (fun (i8 : Nat) (s8 : Int) =>
          Option.bind (sidx v17 (i8 : Int)) fun v30 =>
          bif decide (v30 < (48 : Int)) then
            some (.rt ((0 : Int), false))
          else
            Option.bind (sidx v17 (i8 : Int)) fun v35 =>
            bif decide ((57 : Int) < v35) then
              some (.rt ((0 : Int), false))
            else
              Option.bind (sidx v17 (i8 : Int)) fun v42 =>
              some (.nx (IntKind.i64.wrap ((IntKind.i64.wrap ((10 : Int) * s8)) + (IntKind.i64.wrap (IntKind.u8.wrap (v42 - (48 : Int)))))))) N8 0 (0 : Int)) fun s8 =>
        bif decide ((v17.size : Int) < (a0.size : Int)) then
          Option.bind (spec_l1Num (IntKind.i64.wrap (0 - s8))) fun v54 =>
          bif decide (v54 = a0) then
            some (IntKind.i64.wrap (0 - s8), true)
          else
            some ((0 : Int), false)
        else
          Option.bind (spec_l1Num s8) fun v54 =>
          bif decide (v54 = a0) then
            some (s8, true)
          else
            some ((0 : Int), false)
      else
        some ((0 : Int), false)
    else
      Option.bind (spec_l1In (a0.size : Int) (1 : Int) (6 : Int)) fun v20 =>
      bif v20 then
        Option.bind (bnd (a0.size : Int)) fun N8 =>
        thenL (ρ := (Int × Bool)) (σ := Int) (forN (fun (i8 : Nat) (s8 : Int) =>
          Option.bind (sidx a0 (i8 : Int)) fun v30 =>
          bif decide (v30 < (48 : Int)) then
            some (.rt ((0 : Int), false))
          else
            Option.bind (sidx a0 (i8 : Int)) fun v35 =>
            bif decide ((57 : Int) < v35) then
              some (.rt ((0 : Int), false))
            else
              Option.bind (sidx a0 (i8 : Int)) fun v42 =>
              some (.nx (IntKind.i64.wrap ((IntKind.i64.wrap ((10 : Int) * s8)) + (IntKind.i64.wrap (IntKind.u8.wrap (v42 - (48 : Int)))))))) N8 0 (0 : Int)) fun s8 =>
        bif decide ((a0.size : Int) < (a0.size : Int)) then
          Option.bind (spec_l1Num (IntKind.i64.wrap (0 - s8))) fun v54 =>
          bif decide (v54 = a0) then
            some (IntKind.i64.wrap (0 - s8), true)
          else
            some ((0 : Int), false)
        else
          Option.bind (spec_l1Num s8) fun v54 =>
          bif decide (v54 = a0) then
            some (s8, true)
          else
            some ((0 : Int), false)
      else
        some ((0 : Int), false)
  else
    Option.bind (spec_l1In (a0.size : Int) (1 : Int) (6 : Int)) fun v20 =>
    bif v20 then
      Option.bind (bnd (a0.size : Int)) fun N8 =>
      thenL (ρ := (Int × Bool)) (σ := Int) (forN (fun (i8 : Nat) (s8 : Int) =>
        Option.bind (sidx a0 (i8 : Int)) fun v30 =>
        bif decide (v30 < (48 : Int)) then
          some (.rt ((0 : Int), false))
        else
          Option.bind (sidx a0 (i8 : Int)) fun v35 =>
          bif decide ((57 : Int) < v35) then
            some (.rt ((0 : Int), false))
          else
            Option.bind (sidx a0 (i8 : Int)) fun v42 =>
            some (.nx (IntKind.i64.wrap ((IntKind.i64.wrap ((10 : Int) * s8)) + (IntKind.i64.wrap (IntKind.u8.wrap (v42 - (48 : Int)))))))) N8 0 (0 : Int)) fun s8 =>
      bif decide ((a0.size : Int) < (a0.size : Int)) then
        Option.bind (spec_l1Num (IntKind.i64.wrap (0 - s8))) fun v54 =>
        bif decide (v54 = a0) then
          some (IntKind.i64.wrap (0 - s8), true)
        else
          some ((0 : Int), false)
      else
        Option.bind (spec_l1Num s8) fun v54 =>
        bif decide (v54 = a0) then
          some (s8, true)
        else
          some ((0 : Int), false)
    else
      some ((0 : Int), false)

def spec_l20Variable (a0 : Term) : Option Int :=
  bif decide ((0 : Int) < (a0.Args.length : Int)) then
    some (0 : Int)
  else
    bif decide ((a0.Name.size : Int) < (2 : Int)) then
      some (0 : Int)
    else
      Option.bind (sidx a0.Name (0 : Int)) fun v18 =>
      bif decide (v18 = (118 : Int)) then
        Option.bind (sslc a0.Name (1 : Int) (a0.Name.size : Int)) fun v24 =>
        Option.bind (spec_l1Read v24) fun v25 =>
        bif v25.2 then
          Option.bind (spec_l1In v25.1 (1 : Int) (12 : Int)) fun v32 =>
          bif v32 then
            some v25.1
          else
            some (0 : Int)
        else
          some (0 : Int)
      else
        some (0 : Int)

def spec_l20FormN : Nat → Formula → Option Bool
  | 0, _ => none
  | n + 1, a0 =>
    bif decide (a0.Op = (3 : Int)) then
      Option.bind (spec_l20Variable a0.Atom) fun v9 =>
      some (decide ((0 : Int) < v9))
    else
      bif decide (a0.Op = (8 : Int)) then
        some false
      else
        bif decide (a0.Op = (9 : Int)) then
          some false
        else
          thenL (ρ := Bool) (σ := Unit) (forN (fun (i6 : Nat) (s6 : Unit) =>
            Option.bind (idx a0.Parts (i6 : Int)) fun v29 =>
            Option.bind (spec_l20FormN n v29) fun v31 =>
            bif v31 then
              some (.nx ())
            else
              some (.rt false)) a0.Parts.length 0 ()) fun s6 =>
          some true
def spec_l20Form (a0 : Formula) : Option Bool := lim fun n => spec_l20FormN n a0

def spec_l20Good (a0 : Formula) : Option Bool :=
  Option.bind (spec_l8Good a0) fun v4 =>
  bif v4 then
    Option.bind (spec_l20Form a0) fun v7 =>
    some v7
  else
    some false

def spec_l1Put (a0 : List Int) (a1 : Int) : Option (List Int) :=
  thenL (ρ := (List Int)) (σ := Unit) (forN (fun (i2 : Nat) (s2 : Unit) =>
    Option.bind (idx a0 (i2 : Int)) fun v13 =>
    bif decide (v13 < a1) then
      some (.nx ())
    else
      Option.bind (idx a0 (i2 : Int)) fun v27 =>
      bif decide (v27 = a1) then
        some (.rt a0)
      else
        Option.bind (slc a0 (0 : Int) (i2 : Int)) fun v36 =>
        Option.bind (app ([]) v36) fun v37 =>
        Option.bind (app v37 ([a1])) fun v40 =>
        Option.bind (slc a0 (i2 : Int) (a0.length : Int)) fun v43 =>
        Option.bind (app v40 v43) fun v44 =>
        some (.rt v44)) a0.length 0 ()) fun s2 =>
  Option.bind (slc a0 (0 : Int) ((a0.length : Nat) : Int)) fun v36 =>
  Option.bind (app ([]) v36) fun v37 =>
  Option.bind (app v37 ([a1])) fun v40 =>
  Option.bind (slc a0 ((a0.length : Nat) : Int) (a0.length : Int)) fun v43 =>
  Option.bind (app v40 v43) fun v44 =>
  some v44

def spec_l20IntoN : Nat → (List Int) → Formula → Option (List Int)
  | 0, _, _ => none
  | n + 1, a0, a1 =>
    bif decide (a1.Op = (3 : Int)) then
      Option.bind (spec_l20Variable a1.Atom) fun v12 =>
      Option.bind (spec_l1Put a0 v12) fun v13 =>
      some v13
    else
      thenL (ρ := (List Int)) (σ := (List Int)) (forN (fun (i4 : Nat) (s4 : (List Int)) =>
        Option.bind (idx a1.Parts (i4 : Int)) fun v25 =>
        Option.bind (spec_l20IntoN n s4 v25) fun v27 =>
        some (.nx v27)) a1.Parts.length 0 a0) fun s4 =>
      some s4
def spec_l20Into (a0 : List Int) (a1 : Formula) : Option (List Int) := lim fun n => spec_l20IntoN n a0 a1

def spec_l1Has (a0 : List Int) (a1 : Int) : Option Bool :=
  thenL (ρ := Bool) (σ := Unit) (forN (fun (i2 : Nat) (s2 : Unit) =>
    Option.bind (idx a0 (i2 : Int)) fun v14 =>
    bif decide (v14 = a1) then
      some (.rt true)
    else
      some (.nx ())) a0.length 0 ()) fun s2 =>
  some false

def spec_l20Occurs (a0 : List (List Int)) (a1 : Int) : Option Bool :=
  thenL (ρ := Bool) (σ := Unit) (forN (fun (i2 : Nat) (s2 : Unit) =>
    Option.bind (idx a0 (i2 : Int)) fun v14 =>
    Option.bind (spec_l1Has v14 a1) fun v17 =>
    bif v17 then
      some (.rt true)
    else
      Option.bind (idx a0 (i2 : Int)) fun v21 =>
      Option.bind (spec_l1Has v21 (IntKind.i64.wrap (0 - a1))) fun v25 =>
      bif v25 then
        some (.rt true)
      else
        some (.nx ())) a0.length 0 ()) fun s2 =>
  some false

def spec_l15Most (a0 : List (List Int)) : Option Int :=
  thenL (ρ := Int) (σ := Int) (forN (fun (i3 : Nat) (s3 : Int) =>
    thenL (ρ := (Flow Int Int)) (σ := Int × Int) (lim fun n6 => whileN (fun (s6 : Int × Int) =>
      Option.bind (idx a0 (i3 : Int)) fun v15 =>
      bif decide (s6.2 < (v15.length : Int)) then
        Option.bind (idx a0 (i3 : Int)) fun v24 =>
        Option.bind (idx v24 s6.2) fun v27 =>
        Option.bind (spec_l15Abs v27) fun v29 =>
        Option.bind (spec_l1Most s6.1 v29) fun v30 =>
        some (.nx (v30, IntKind.i64.wrap (s6.2 + (1 : Int))))
      else
        some (.br s6)) n6 (s3, (0 : Int))) fun s6 =>
    some (.nx s6.1)) a0.length 0 (0 : Int)) fun s3 =>
  some s3

def spec_l20Total (a0 : Int) (a1 : Int) : Option (List Int) :=
  thenL (ρ := (List Int)) (σ := (List Int) × Int) (lim fun n3 => whileN (fun (s3 : (List Int) × Int) =>
    bif decide (s3.2 ≤ a0) then
      Option.bind (shr .i64 a1 (IntKind.u64.wrap (IntKind.i64.wrap (s3.2 - (1 : Int))))) fun v17 =>
      bif decide ((bitand .i64 v17 (1 : Int)) = (1 : Int)) then
        Option.bind (app s3.1 ([s3.2])) fun v23 =>
        some (.nx (v23, IntKind.i64.wrap (s3.2 + (1 : Int))))
      else
        Option.bind (app s3.1 ([IntKind.i64.wrap (0 - s3.2)])) fun v28 =>
        some (.nx (v28, IntKind.i64.wrap (s3.2 + (1 : Int))))
    else
      some (.br s3)) n3 ([], (1 : Int))) fun s3 =>
  some s3.1

def spec_l20ValueN : Nat → Formula → (List Int) → Option Bool
  | 0, _, _ => none
  | n + 1, a0, a1 =>
    bif decide (a0.Op = (1 : Int)) then
      some (decide (a0.Op = (1 : Int)))
    else
      bif decide (a0.Op = (2 : Int)) then
        some (decide (a0.Op = (1 : Int)))
      else
        bif decide (a0.Op = (3 : Int)) then
          Option.bind (spec_l20Variable a0.Atom) fun v18 =>
          Option.bind (spec_l1Has a1 v18) fun v19 =>
          some v19
        else
          bif decide (a0.Op = (4 : Int)) then
            Option.bind (idx a0.Parts (0 : Int)) fun v24 =>
            Option.bind (spec_l20ValueN n v24 a1) fun v27 =>
            some (!v27)
          else
            bif decide (a0.Op = (5 : Int)) then
              Option.bind (idx a0.Parts (0 : Int)) fun v33 =>
              Option.bind (spec_l20ValueN n v33 a1) fun v36 =>
              bif v36 then
                Option.bind (idx a0.Parts (1 : Int)) fun v40 =>
                Option.bind (spec_l20ValueN n v40 a1) fun v43 =>
                some v43
              else
                some false
            else
              bif decide (a0.Op = (6 : Int)) then
                Option.bind (idx a0.Parts (0 : Int)) fun v49 =>
                Option.bind (spec_l20ValueN n v49 a1) fun v52 =>
                bif v52 then
                  some true
                else
                  Option.bind (idx a0.Parts (1 : Int)) fun v56 =>
                  Option.bind (spec_l20ValueN n v56 a1) fun v59 =>
                  some v59
              else
                Option.bind (idx a0.Parts (0 : Int)) fun v63 =>
                Option.bind (spec_l20ValueN n v63 a1) fun v66 =>
                bif v66 then
                  Option.bind (idx a0.Parts (1 : Int)) fun v71 =>
                  Option.bind (spec_l20ValueN n v71 a1) fun v74 =>
                  some v74
                else
                  some true
def spec_l20Value (a0 : Formula) (a1 : List Int) : Option Bool := lim fun n => spec_l20ValueN n a0 a1

def spec_l15Status (a0 : List Int) (a1 : List Int) : Option (Int × Int) :=
  thenL (ρ := (Int × Int)) (σ := Int × Int) (forN (fun (i3 : Nat) (s3 : Int × Int) =>
    Option.bind (idx a0 (i3 : Int)) fun v18 =>
    Option.bind (spec_l1Has a1 v18) fun v20 =>
    bif v20 then
      some (.rt ((-1 : Int), (0 : Int)))
    else
      Option.bind (idx a0 (i3 : Int)) fun v24 =>
      Option.bind (spec_l1Has a1 (IntKind.i64.wrap (0 - v24))) fun v27 =>
      bif v27 then
        some (.nx (s3.1, s3.2))
      else
        Option.bind (idx a0 (i3 : Int)) fun v33 =>
        some (.nx (IntKind.i64.wrap (s3.1 + (1 : Int)), v33))) a0.length 0 ((0 : Int), (0 : Int))) fun s3 =>
  some (s3.1, s3.2)

def spec_l20Satisfies (a0 : List (List Int)) (a1 : List Int) : Option Bool :=
  thenL (ρ := Bool) (σ := Unit) (forN (fun (i2 : Nat) (s2 : Unit) =>
    Option.bind (idx a0 (i2 : Int)) fun v17 =>
    Option.bind (spec_l15Status v17 a1) fun v20 =>
    bif decide ((0 : Int) ≤ v20.1) then
      some (.rt false)
    else
      some (.nx ())) a0.length 0 ()) fun s2 =>
  some true

def spec_IsInterpolant (a0 : List (List Int)) (a1 : Int) (a2 : Formula) : Option (Bool × Bool) :=
  Option.bind (spec_l15Set a0) fun v15 =>
  bif v15 then
    Option.bind (spec_l1In a1 (0 : Int) (a0.length : Int)) fun v21 =>
    bif v21 then
      Option.bind (spec_l20Good a2) fun v26 =>
      bif v26 then
        Option.bind (spec_l20Into ([]) a2) fun v31 =>
        thenL (ρ := (Bool × Bool)) (σ := Unit) (forN (fun (i5 : Nat) (s5 : Unit) =>
          Option.bind (slc a0 (0 : Int) a1) fun v40 =>
          Option.bind (idx v31 (i5 : Int)) fun v43 =>
          Option.bind (spec_l20Occurs v40 v43) fun v45 =>
          bif v45 then
            Option.bind (slc a0 a1 (a0.length : Int)) fun v50 =>
            Option.bind (idx v31 (i5 : Int)) fun v53 =>
            Option.bind (spec_l20Occurs v50 v53) fun v55 =>
            bif v55 then
              some (.nx ())
            else
              some (.rt (false, true))
          else
            some (.rt (false, true))) v31.length 0 ()) fun s5 =>
        Option.bind (spec_l15Most a0) fun v59 =>
        thenL (ρ := (Bool × Bool)) (σ := Int) (lim fun n11 => whileN (fun (s11 : Int) =>
          Option.bind (shl .i64 (1 : Int) (IntKind.u64.wrap v59)) fun v63 =>
          bif decide (s11 < v63) then
            Option.bind (spec_l20Total v59 s11) fun v69 =>
            Option.bind (spec_l20Value a2 v69) fun v72 =>
            bif v72 then
              Option.bind (slc a0 a1 (a0.length : Int)) fun v87 =>
              Option.bind (spec_l20Satisfies v87 v69) fun v89 =>
              bif v89 then
                some (.rt (false, true))
              else
                some (.nx (IntKind.i64.wrap (s11 + (1 : Int))))
            else
              Option.bind (slc a0 (0 : Int) a1) fun v78 =>
              Option.bind (spec_l20Satisfies v78 v69) fun v80 =>
              bif v80 then
                some (.rt (false, true))
              else
                some (.nx (IntKind.i64.wrap (s11 + (1 : Int))))
          else
            some (.br s11)) n11 (0 : Int)) fun s11 =>
        some (true, true)
      else
        some (false, false)
    else
      some (false, false)
  else
    some (false, false)

def impl_sizeOfN : Nat → Formula → Option Int
  | 0, _ => none
  | n + 1, a0 =>
    thenL (ρ := Int) (σ := Int) (forN (fun (i3 : Nat) (s3 : Int) =>
      Option.bind (idx a0.Parts (i3 : Int)) fun v11 =>
      bif decide ((40 : Int) < s3) then
        some (.rt s3)
      else
        Option.bind (impl_sizeOfN n v11) fun v18 =>
        some (.nx (IntKind.i64.wrap (s3 + v18)))) a0.Parts.length 0 (1 : Int)) fun s3 =>
    some s3
def impl_sizeOf (a0 : Formula) : Option Int := lim fun n => impl_sizeOfN n a0

def impl_isQuantifier (a0 : Int) : Option Bool :=
  bif decide (a0 = (8 : Int)) then
    some true
  else
    some (decide (a0 = (9 : Int)))

def impl_isBinary (a0 : Int) : Option Bool :=
  bif decide (a0 = (5 : Int)) then
    some true
  else
    bif decide (a0 = (6 : Int)) then
      some true
    else
      some (decide (a0 = (7 : Int)))

def impl_isUpper (a0 : Int) : Option Bool :=
  bif decide ((65 : Int) ≤ a0) then
    some (decide (a0 ≤ (90 : Int)))
  else
    some false

def impl_isLower (a0 : Int) : Option Bool :=
  bif decide ((97 : Int) ≤ a0) then
    some (decide (a0 ≤ (122 : Int)))
  else
    some false

def impl_isDigit (a0 : Int) : Option Bool :=
  bif decide ((48 : Int) ≤ a0) then
    some (decide (a0 ≤ (57 : Int)))
  else
    some false

def impl_within (a0 : Int) (a1 : Int) (a2 : Int) : Option Bool :=
  bif decide (a1 ≤ a0) then
    some (decide (a0 ≤ a2))
  else
    some false

def impl_isVariable (a0 : ByteArray) : Option Bool :=
  Option.bind (bnd (a0.size : Int)) fun N2 =>
  thenL (ρ := Bool) (σ := Unit) (forN (fun (i2 : Nat) (s2 : Unit) =>
    bif decide ((i2 : Int) = (0 : Int)) then
      Option.bind (sidx a0 (i2 : Int)) fun v14 =>
      Option.bind (impl_isUpper v14) fun v15 =>
      bif v15 then
        bif decide ((0 : Int) < (i2 : Int)) then
          Option.bind (sidx a0 (i2 : Int)) fun v24 =>
          Option.bind (impl_isLower v24) fun v25 =>
          bif v25 then
            some (.nx ())
          else
            Option.bind (sidx a0 (i2 : Int)) fun v31 =>
            Option.bind (impl_isDigit v31) fun v32 =>
            bif v32 then
              some (.nx ())
            else
              some (.rt false)
        else
          some (.nx ())
      else
        some (.rt false)
    else
      bif decide ((0 : Int) < (i2 : Int)) then
        Option.bind (sidx a0 (i2 : Int)) fun v24 =>
        Option.bind (impl_isLower v24) fun v25 =>
        bif v25 then
          some (.nx ())
        else
          Option.bind (sidx a0 (i2 : Int)) fun v31 =>
          Option.bind (impl_isDigit v31) fun v32 =>
          bif v32 then
            some (.nx ())
          else
            some (.rt false)
      else
        some (.nx ())) N2 0 ()) fun s2 =>
  Option.bind (impl_within (a0.size : Int) (1 : Int) (4 : Int)) fun v39 =>
  some v39

def impl_isEquality (a0 : Term) : Option Bool :=
  some (decide (a0.Name = (⟨#[61]⟩ : ByteArray)))

def impl_sizeN : Nat → Term → Option Int
  | 0, _ => none
  | n + 1, a0 =>
    thenL (ρ := Int) (σ := Int) (forN (fun (i3 : Nat) (s3 : Int) =>
      Option.bind (idx a0.Args (i3 : Int)) fun v11 =>
      bif decide ((30 : Int) < s3) then
        some (.rt s3)
      else
        Option.bind (impl_sizeN n v11) fun v18 =>
        some (.nx (IntKind.i64.wrap (s3 + v18)))) a0.Args.length 0 (1 : Int)) fun s3 =>
    some s3
def impl_size (a0 : Term) : Option Int := lim fun n => impl_sizeN n a0

def impl_depthN : Nat → Term → Option Int
  | 0, _ => none
  | n + 1, a0 =>
    thenL (ρ := Int) (σ := Int) (forN (fun (i3 : Nat) (s3 : Int) =>
      Option.bind (idx a0.Args (i3 : Int)) fun v11 =>
      Option.bind (impl_depthN n v11) fun v15 =>
      some (.nx (max s3 v15))) a0.Args.length 0 (0 : Int)) fun s3 =>
    some (IntKind.i64.wrap (s3 + (1 : Int)))
def impl_depth (a0 : Term) : Option Int := lim fun n => impl_depthN n a0

def impl_isSmall (a0 : Term) : Option Bool :=
  Option.bind (impl_size a0) fun v4 =>
  bif decide (v4 ≤ (30 : Int)) then
    Option.bind (impl_depth a0) fun v8 =>
    some (decide (v8 ≤ (8 : Int)))
  else
    some false

def impl_reserved  : Option (List ByteArray) :=
  some ([(⟨#[116, 114, 117, 101]⟩ : ByteArray), (⟨#[102, 97, 108, 115, 101]⟩ : ByteArray), (⟨#[116, 114, 117, 116, 104]⟩ : ByteArray), (⟨#[98, 111, 116, 104]⟩ : ByteArray), (⟨#[101, 105, 116, 104, 101, 114]⟩ : ByteArray), (⟨#[105, 102]⟩ : ByteArray), (⟨#[97, 108, 108]⟩ : ByteArray), (⟨#[115, 111, 109, 101]⟩ : ByteArray)])

def slices_Index_Sstring_string (a0 : List ByteArray) (a1 : ByteArray) : Option Int :=
  thenL (ρ := Int) (σ := Unit) (forN (fun (i2 : Nat) (s2 : Unit) =>
    Option.bind (idx a0 (i2 : Int)) fun v14 =>
    bif decide (a1 = v14) then
      some (.rt (i2 : Int))
    else
      some (.nx ())) a0.length 0 ()) fun s2 =>
  some (-1 : Int)

def slices_Contains_Sstring_string (a0 : List ByteArray) (a1 : ByteArray) : Option Bool :=
  Option.bind (slices_Index_Sstring_string a0 a1) fun v7 =>
  some (decide ((0 : Int) ≤ v7))

def impl_isSymbol (a0 : ByteArray) : Option Bool :=
  Option.bind (bnd (a0.size : Int)) fun N2 =>
  thenL (ρ := Bool) (σ := Unit) (forN (fun (i2 : Nat) (s2 : Unit) =>
    bif decide ((i2 : Int) = (0 : Int)) then
      Option.bind (sidx a0 (i2 : Int)) fun v14 =>
      Option.bind (impl_isLower v14) fun v15 =>
      bif v15 then
        Option.bind (sidx a0 (i2 : Int)) fun v21 =>
        Option.bind (impl_isLower v21) fun v22 =>
        bif v22 then
          some (.nx ())
        else
          Option.bind (sidx a0 (i2 : Int)) fun v27 =>
          Option.bind (impl_isDigit v27) fun v28 =>
          bif v28 then
            some (.nx ())
          else
            Option.bind (sidx a0 (i2 : Int)) fun v34 =>
            bif decide (v34 = (95 : Int)) then
              some (.nx ())
            else
              some (.rt false)
      else
        some (.rt false)
    else
      Option.bind (sidx a0 (i2 : Int)) fun v21 =>
      Option.bind (impl_isLower v21) fun v22 =>
      bif v22 then
        some (.nx ())
      else
        Option.bind (sidx a0 (i2 : Int)) fun v27 =>
        Option.bind (impl_isDigit v27) fun v28 =>
        bif v28 then
          some (.nx ())
        else
          Option.bind (sidx a0 (i2 : Int)) fun v34 =>
          bif decide (v34 = (95 : Int)) then
            some (.nx ())
          else
            some (.rt false)) N2 0 ()) fun s2 =>
  Option.bind (impl_within (a0.size : Int) (1 : Int) (6 : Int)) fun v41 =>
  bif v41 then
    Option.bind (impl_reserved ) fun v43 =>
    Option.bind (slices_Contains_Sstring_string v43 a0) fun v45 =>
    some (!v45)
  else
    some false

def slices_IndexFunc_Simpl_Term_impl_Term (a0 : List Term) (a1 : Term → Option Bool) : Option Int :=
  thenL (ρ := Int) (σ := Unit) (forN (fun (i2 : Nat) (s2 : Unit) =>
    Option.bind (idx a0 (i2 : Int)) fun v14 =>
    Option.bind (a1 v14) fun v16 =>
    bif v16 then
      some (.rt (i2 : Int))
    else
      some (.nx ())) a0.length 0 ()) fun s2 =>
  some (-1 : Int)

def slices_ContainsFunc_Simpl_Term_impl_Term (a0 : List Term) (a1 : Term → Option Bool) : Option Bool :=
  Option.bind (slices_IndexFunc_Simpl_Term_impl_Term a0 a1) fun v7 =>
  some (decide ((0 : Int) ≤ v7))

mutual
def impl_hasNamesN : Nat → Term → Option Bool
  | 0, _ => none
  | n + 1, a0 =>
    Option.bind (impl_isVariable a0.Name) fun v5 =>
    bif v5 then
      some (decide ((a0.Args.length : Int) = (0 : Int)))
    else
      Option.bind (impl_isSymbol a0.Name) fun v12 =>
      bif v12 then
        bif decide ((a0.Args.length : Int) ≤ (4 : Int)) then
          Option.bind (slices_ContainsFunc_Simpl_Term_impl_Term a0.Args (fun y0 => impl_hasNames_1N n y0)) fun v22 =>
          some (!v22)
        else
          some false
      else
        some false
def impl_hasNames_1N : Nat → Term → Option Bool
  | 0, _ => none
  | n + 1, a0 =>
    Option.bind (impl_hasNamesN n a0) fun v4 =>
    some (!v4)
end
def impl_hasNames (a0 : Term) : Option Bool := lim fun n => impl_hasNamesN n a0
def impl_hasNames_1 (a0 : Term) : Option Bool := lim fun n => impl_hasNames_1N n a0

def impl_IsValidTerm (a0 : Term) : Option Bool :=
  Option.bind (impl_isSmall a0) fun v4 =>
  bif v4 then
    Option.bind (impl_hasNames a0) fun v7 =>
    some v7
  else
    some false

def impl_IsValidAtom (a0 : Term) : Option Bool :=
  Option.bind (impl_isEquality a0) fun v4 =>
  bif v4 then
    bif decide ((a0.Args.length : Int) = (2 : Int)) then
      Option.bind (impl_isSmall a0) fun v11 =>
      bif v11 then
        Option.bind (idx a0.Args (0 : Int)) fun v16 =>
        Option.bind (impl_hasNames v16) fun v18 =>
        bif v18 then
          Option.bind (idx a0.Args (1 : Int)) fun v23 =>
          Option.bind (impl_hasNames v23) fun v25 =>
          some v25
        else
          some false
      else
        some false
    else
      some false
  else
    Option.bind (impl_isSymbol a0.Name) fun v29 =>
    bif v29 then
      Option.bind (impl_IsValidTerm a0) fun v32 =>
      some v32
    else
      some false

def impl_isZeroTerm (a0 : Term) : Option Bool :=
  bif decide (a0.Name = (⟨#[]⟩ : ByteArray)) then
    some (decide ((a0.Args.length : Int) = (0 : Int)))
  else
    some false

def slices_IndexFunc_Simpl_Formula_impl_Formula (a0 : List Formula) (a1 : Formula → Option Bool) : Option Int :=
  thenL (ρ := Int) (σ := Unit) (forN (fun (i2 : Nat) (s2 : Unit) =>
    Option.bind (idx a0 (i2 : Int)) fun v14 =>
    Option.bind (a1 v14) fun v16 =>
    bif v16 then
      some (.rt (i2 : Int))
    else
      some (.nx ())) a0.length 0 ()) fun s2 =>
  some (-1 : Int)

def slices_ContainsFunc_Simpl_Formula_impl_Formula (a0 : List Formula) (a1 : Formula → Option Bool) : Option Bool :=
  Option.bind (slices_IndexFunc_Simpl_Formula_impl_Formula a0 a1) fun v7 =>
  some (decide ((0 : Int) ≤ v7))

mutual
def impl_hasFormN : Nat → Formula → Option Bool
  | 0, _ => none
  | n + 1, a0 =>
    bif decide (a0.Op = (1 : Int)) then
      bif decide ((a0.Parts.length : Int) = (0 : Int)) then
        Option.bind (impl_isQuantifier a0.Op) fun v33 =>
        bif v33 then
          Option.bind (impl_isVariable a0.Var) fun v37 =>
          bif v37 then
            Option.bind (impl_isQuantifier a0.Op) fun v44 =>
            bif v44 then
              bif decide (a0.Op = (3 : Int)) then
                Option.bind (impl_IsValidAtom a0.Atom) fun v58 =>
                bif v58 then
                  Option.bind (slices_ContainsFunc_Simpl_Formula_impl_Formula a0.Parts (fun y0 => impl_hasForm_1N n y0)) fun v74 =>
                  some (!v74)
                else
                  some false
              else
                Option.bind (impl_isZeroTerm a0.Atom) fun v68 =>
                bif v68 then
                  Option.bind (slices_ContainsFunc_Simpl_Formula_impl_Formula a0.Parts (fun y0 => impl_hasForm_1N n y0)) fun v74 =>
                  some (!v74)
                else
                  some false
            else
              bif decide (a0.Var = (⟨#[]⟩ : ByteArray)) then
                bif decide (a0.Op = (3 : Int)) then
                  Option.bind (impl_IsValidAtom a0.Atom) fun v58 =>
                  bif v58 then
                    Option.bind (slices_ContainsFunc_Simpl_Formula_impl_Formula a0.Parts (fun y0 => impl_hasForm_1N n y0)) fun v74 =>
                    some (!v74)
                  else
                    some false
                else
                  Option.bind (impl_isZeroTerm a0.Atom) fun v68 =>
                  bif v68 then
                    Option.bind (slices_ContainsFunc_Simpl_Formula_impl_Formula a0.Parts (fun y0 => impl_hasForm_1N n y0)) fun v74 =>
                    some (!v74)
                  else
                    some false
              else
                some false
          else
            some false
        else
          Option.bind (impl_isQuantifier a0.Op) fun v44 =>
          bif v44 then
            bif decide (a0.Op = (3 : Int)) then
              Option.bind (impl_IsValidAtom a0.Atom) fun v58 =>
              bif v58 then
                Option.bind (slices_ContainsFunc_Simpl_Formula_impl_Formula a0.Parts (fun y0 => impl_hasForm_1N n y0)) fun v74 =>
                some (!v74)
              else
                some false
            else
              Option.bind (impl_isZeroTerm a0.Atom) fun v68 =>
              bif v68 then
                Option.bind (slices_ContainsFunc_Simpl_Formula_impl_Formula a0.Parts (fun y0 => impl_hasForm_1N n y0)) fun v74 =>
                some (!v74)
              else
                some false
          else
            bif decide (a0.Var = (⟨#[]⟩ : ByteArray)) then
              bif decide (a0.Op = (3 : Int)) then
                Option.bind (impl_IsValidAtom a0.Atom) fun v58 =>
                bif v58 then
                  Option.bind (slices_ContainsFunc_Simpl_Formula_impl_Formula a0.Parts (fun y0 => impl_hasForm_1N n y0)) fun v74 =>
                  some (!v74)
                else
                  some false
              else
                Option.bind (impl_isZeroTerm a0.Atom) fun v68 =>
                bif v68 then
                  Option.bind (slices_ContainsFunc_Simpl_Formula_impl_Formula a0.Parts (fun y0 => impl_hasForm_1N n y0)) fun v74 =>
                  some (!v74)
                else
                  some false
            else
              some false
      else
        some false
    else
      bif decide (a0.Op = (2 : Int)) then
        bif decide ((a0.Parts.length : Int) = (0 : Int)) then
          Option.bind (impl_isQuantifier a0.Op) fun v33 =>
          bif v33 then
            Option.bind (impl_isVariable a0.Var) fun v37 =>
            bif v37 then
              Option.bind (impl_isQuantifier a0.Op) fun v44 =>
              bif v44 then
                bif decide (a0.Op = (3 : Int)) then
                  Option.bind (impl_IsValidAtom a0.Atom) fun v58 =>
                  bif v58 then
                    Option.bind (slices_ContainsFunc_Simpl_Formula_impl_Formula a0.Parts (fun y0 => impl_hasForm_1N n y0)) fun v74 =>
                    some (!v74)
                  else
                    some false
                else
                  Option.bind (impl_isZeroTerm a0.Atom) fun v68 =>
                  bif v68 then
                    Option.bind (slices_ContainsFunc_Simpl_Formula_impl_Formula a0.Parts (fun y0 => impl_hasForm_1N n y0)) fun v74 =>
                    some (!v74)
                  else
                    some false
              else
                bif decide (a0.Var = (⟨#[]⟩ : ByteArray)) then
                  bif decide (a0.Op = (3 : Int)) then
                    Option.bind (impl_IsValidAtom a0.Atom) fun v58 =>
                    bif v58 then
                      Option.bind (slices_ContainsFunc_Simpl_Formula_impl_Formula a0.Parts (fun y0 => impl_hasForm_1N n y0)) fun v74 =>
                      some (!v74)
                    else
                      some false
                  else
                    Option.bind (impl_isZeroTerm a0.Atom) fun v68 =>
                    bif v68 then
                      Option.bind (slices_ContainsFunc_Simpl_Formula_impl_Formula a0.Parts (fun y0 => impl_hasForm_1N n y0)) fun v74 =>
                      some (!v74)
                    else
                      some false
                else
                  some false
            else
              some false
          else
            Option.bind (impl_isQuantifier a0.Op) fun v44 =>
            bif v44 then
              bif decide (a0.Op = (3 : Int)) then
                Option.bind (impl_IsValidAtom a0.Atom) fun v58 =>
                bif v58 then
                  Option.bind (slices_ContainsFunc_Simpl_Formula_impl_Formula a0.Parts (fun y0 => impl_hasForm_1N n y0)) fun v74 =>
                  some (!v74)
                else
                  some false
              else
                Option.bind (impl_isZeroTerm a0.Atom) fun v68 =>
                bif v68 then
                  Option.bind (slices_ContainsFunc_Simpl_Formula_impl_Formula a0.Parts (fun y0 => impl_hasForm_1N n y0)) fun v74 =>
                  some (!v74)
                else
                  some false
            else
              bif decide (a0.Var = (⟨#[]⟩ : ByteArray)) then
                bif decide (a0.Op = (3 : Int)) then
                  Option.bind (impl_IsValidAtom a0.Atom) fun v58 =>
                  bif v58 then
                    Option.bind (slices_ContainsFunc_Simpl_Formula_impl_Formula a0.Parts (fun y0 => impl_hasForm_1N n y0)) fun v74 =>
                    some (!v74)
                  else
                    some false
                else
                  Option.bind (impl_isZeroTerm a0.Atom) fun v68 =>
                  bif v68 then
                    Option.bind (slices_ContainsFunc_Simpl_Formula_impl_Formula a0.Parts (fun y0 => impl_hasForm_1N n y0)) fun v74 =>
                    some (!v74)
                  else
                    some false
              else
                some false
        else
          some false
      else
        bif decide (a0.Op = (3 : Int)) then
          bif decide ((a0.Parts.length : Int) = (0 : Int)) then
            Option.bind (impl_isQuantifier a0.Op) fun v33 =>
            bif v33 then
              Option.bind (impl_isVariable a0.Var) fun v37 =>
              bif v37 then
                Option.bind (impl_isQuantifier a0.Op) fun v44 =>
                bif v44 then
                  Option.bind (impl_IsValidAtom a0.Atom) fun v58 =>
                  bif v58 then
                    Option.bind (slices_ContainsFunc_Simpl_Formula_impl_Formula a0.Parts (fun y0 => impl_hasForm_1N n y0)) fun v74 =>
                    some (!v74)
                  else
                    some false
                else
                  bif decide (a0.Var = (⟨#[]⟩ : ByteArray)) then
                    Option.bind (impl_IsValidAtom a0.Atom) fun v58 =>
                    bif v58 then
                      Option.bind (slices_ContainsFunc_Simpl_Formula_impl_Formula a0.Parts (fun y0 => impl_hasForm_1N n y0)) fun v74 =>
                      some (!v74)
                    else
                      some false
                  else
                    some false
              else
                some false
            else
              Option.bind (impl_isQuantifier a0.Op) fun v44 =>
              bif v44 then
                Option.bind (impl_IsValidAtom a0.Atom) fun v58 =>
                bif v58 then
                  Option.bind (slices_ContainsFunc_Simpl_Formula_impl_Formula a0.Parts (fun y0 => impl_hasForm_1N n y0)) fun v74 =>
                  some (!v74)
                else
                  some false
              else
                bif decide (a0.Var = (⟨#[]⟩ : ByteArray)) then
                  Option.bind (impl_IsValidAtom a0.Atom) fun v58 =>
                  bif v58 then
                    Option.bind (slices_ContainsFunc_Simpl_Formula_impl_Formula a0.Parts (fun y0 => impl_hasForm_1N n y0)) fun v74 =>
                    some (!v74)
                  else
                    some false
                else
                  some false
          else
            some false
        else
          bif decide (a0.Op = (4 : Int)) then
            bif decide ((a0.Parts.length : Int) = (1 : Int)) then
              Option.bind (impl_isQuantifier a0.Op) fun v33 =>
              bif v33 then
                Option.bind (impl_isVariable a0.Var) fun v37 =>
                bif v37 then
                  Option.bind (impl_isQuantifier a0.Op) fun v44 =>
                  bif v44 then
                    Option.bind (impl_isZeroTerm a0.Atom) fun v68 =>
                    bif v68 then
                      Option.bind (slices_ContainsFunc_Simpl_Formula_impl_Formula a0.Parts (fun y0 => impl_hasForm_1N n y0)) fun v74 =>
                      some (!v74)
                    else
                      some false
                  else
                    bif decide (a0.Var = (⟨#[]⟩ : ByteArray)) then
                      Option.bind (impl_isZeroTerm a0.Atom) fun v68 =>
                      bif v68 then
                        Option.bind (slices_ContainsFunc_Simpl_Formula_impl_Formula a0.Parts (fun y0 => impl_hasForm_1N n y0)) fun v74 =>
                        some (!v74)
                      else
                        some false
                    else
                      some false
                else
                  some false
              else
                Option.bind (impl_isQuantifier a0.Op) fun v44 =>
                bif v44 then
                  Option.bind (impl_isZeroTerm a0.Atom) fun v68 =>
                  bif v68 then
                    Option.bind (slices_ContainsFunc_Simpl_Formula_impl_Formula a0.Parts (fun y0 => impl_hasForm_1N n y0)) fun v74 =>
                    some (!v74)
                  else
                    some false
                else
                  bif decide (a0.Var = (⟨#[]⟩ : ByteArray)) then
                    Option.bind (impl_isZeroTerm a0.Atom) fun v68 =>
                    bif v68 then
                      Option.bind (slices_ContainsFunc_Simpl_Formula_impl_Formula a0.Parts (fun y0 => impl_hasForm_1N n y0)) fun v74 =>
                      some (!v74)
                    else
                      some false
                  else
                    some false
            else
              some false
          else
            Option.bind (impl_isQuantifier a0.Op) fun v20 =>
            bif v20 then
              bif decide ((a0.Parts.length : Int) = (1 : Int)) then
                Option.bind (impl_isQuantifier a0.Op) fun v33 =>
                bif v33 then
                  Option.bind (impl_isVariable a0.Var) fun v37 =>
                  bif v37 then
                    Option.bind (impl_isQuantifier a0.Op) fun v44 =>
                    bif v44 then
                      Option.bind (impl_isZeroTerm a0.Atom) fun v68 =>
                      bif v68 then
                        Option.bind (slices_ContainsFunc_Simpl_Formula_impl_Formula a0.Parts (fun y0 => impl_hasForm_1N n y0)) fun v74 =>
                        some (!v74)
                      else
                        some false
                    else
                      bif decide (a0.Var = (⟨#[]⟩ : ByteArray)) then
                        Option.bind (impl_isZeroTerm a0.Atom) fun v68 =>
                        bif v68 then
                          Option.bind (slices_ContainsFunc_Simpl_Formula_impl_Formula a0.Parts (fun y0 => impl_hasForm_1N n y0)) fun v74 =>
                          some (!v74)
                        else
                          some false
                      else
                        some false
                  else
                    some false
                else
                  Option.bind (impl_isQuantifier a0.Op) fun v44 =>
                  bif v44 then
                    Option.bind (impl_isZeroTerm a0.Atom) fun v68 =>
                    bif v68 then
                      Option.bind (slices_ContainsFunc_Simpl_Formula_impl_Formula a0.Parts (fun y0 => impl_hasForm_1N n y0)) fun v74 =>
                      some (!v74)
                    else
                      some false
                  else
                    bif decide (a0.Var = (⟨#[]⟩ : ByteArray)) then
                      Option.bind (impl_isZeroTerm a0.Atom) fun v68 =>
                      bif v68 then
                        Option.bind (slices_ContainsFunc_Simpl_Formula_impl_Formula a0.Parts (fun y0 => impl_hasForm_1N n y0)) fun v74 =>
                        some (!v74)
                      else
                        some false
                    else
                      some false
              else
                some false
            else
              Option.bind (impl_isBinary a0.Op) fun v24 =>
              bif v24 then
                bif decide ((a0.Parts.length : Int) = (2 : Int)) then
                  Option.bind (impl_isQuantifier a0.Op) fun v33 =>
                  bif v33 then
                    Option.bind (impl_isVariable a0.Var) fun v37 =>
                    bif v37 then
                      Option.bind (impl_isQuantifier a0.Op) fun v44 =>
                      bif v44 then
                        Option.bind (impl_isZeroTerm a0.Atom) fun v68 =>
                        bif v68 then
                          Option.bind (slices_ContainsFunc_Simpl_Formula_impl_Formula a0.Parts (fun y0 => impl_hasForm_1N n y0)) fun v74 =>
                          some (!v74)
                        else
                          some false
                      else
                        bif decide (a0.Var = (⟨#[]⟩ : ByteArray)) then
                          Option.bind (impl_isZeroTerm a0.Atom) fun v68 =>
                          bif v68 then
                            Option.bind (slices_ContainsFunc_Simpl_Formula_impl_Formula a0.Parts (fun y0 => impl_hasForm_1N n y0)) fun v74 =>
                            some (!v74)
                          else
                            some false
                        else
                          some false
                    else
                      some false
                  else
                    Option.bind (impl_isQuantifier a0.Op) fun v44 =>
                    bif v44 then
                      Option.bind (impl_isZeroTerm a0.Atom) fun v68 =>
                      bif v68 then
                        Option.bind (slices_ContainsFunc_Simpl_Formula_impl_Formula a0.Parts (fun y0 => impl_hasForm_1N n y0)) fun v74 =>
                        some (!v74)
                      else
                        some false
                    else
                      bif decide (a0.Var = (⟨#[]⟩ : ByteArray)) then
                        Option.bind (impl_isZeroTerm a0.Atom) fun v68 =>
                        bif v68 then
                          Option.bind (slices_ContainsFunc_Simpl_Formula_impl_Formula a0.Parts (fun y0 => impl_hasForm_1N n y0)) fun v74 =>
                          some (!v74)
                        else
                          some false
                      else
                        some false
                else
                  some false
              else
                some false
def impl_hasForm_1N : Nat → Formula → Option Bool
  | 0, _ => none
  | n + 1, a0 =>
    Option.bind (impl_hasFormN n a0) fun v4 =>
    some (!v4)
end
def impl_hasForm (a0 : Formula) : Option Bool := lim fun n => impl_hasFormN n a0
def impl_hasForm_1 (a0 : Formula) : Option Bool := lim fun n => impl_hasForm_1N n a0

def impl_IsValidFormula (a0 : Formula) : Option Bool :=
  Option.bind (impl_sizeOf a0) fun v4 =>
  bif decide (v4 ≤ (40 : Int)) then
    Option.bind (impl_hasForm a0) fun v8 =>
    some v8
  else
    some false

def slices_Index_Sint_int (a0 : List Int) (a1 : Int) : Option Int :=
  thenL (ρ := Int) (σ := Unit) (forN (fun (i2 : Nat) (s2 : Unit) =>
    Option.bind (idx a0 (i2 : Int)) fun v14 =>
    bif decide (a1 = v14) then
      some (.rt (i2 : Int))
    else
      some (.nx ())) a0.length 0 ()) fun s2 =>
  some (-1 : Int)

def slices_Contains_Sint_int (a0 : List Int) (a1 : Int) : Option Bool :=
  Option.bind (slices_Index_Sint_int a0 a1) fun v7 =>
  some (decide ((0 : Int) ≤ v7))

mutual
def impl_hasOpN : Nat → Formula → (List Int) → Option Bool
  | 0, _, _ => none
  | n + 1, a0, a1 =>
    Option.bind (slices_Contains_Sint_int a1 a0.Op) fun v8 =>
    bif v8 then
      some true
    else
      Option.bind (slices_ContainsFunc_Simpl_Formula_impl_Formula a0.Parts (fun y0 => impl_hasOp_1N n y0 a1)) fun v13 =>
      some v13
def impl_hasOp_1N : Nat → Formula → (List Int) → Option Bool
  | 0, _, _ => none
  | n + 1, a0, b0 =>
    Option.bind (impl_hasOpN n a0 b0) fun v6 =>
    some v6
end
def impl_hasOp (a0 : Formula) (a1 : List Int) : Option Bool := lim fun n => impl_hasOpN n a0 a1
def impl_hasOp_1 (a0 : Formula) (b0 : List Int) : Option Bool := lim fun n => impl_hasOp_1N n a0 b0

def impl_atomsOfN : Nat → Formula → Option (List Term)
  | 0, _ => none
  | n + 1, a0 =>
    bif decide (a0.Op = (3 : Int)) then
      some ([a0.Atom])
    else
      thenL (ρ := (List Term)) (σ := (List Term)) (forN (fun (i5 : Nat) (s5 : (List Term)) =>
        Option.bind (idx a0.Parts (i5 : Int)) fun v18 =>
        Option.bind (impl_atomsOfN n v18) fun v22 =>
        Option.bind (app s5 v22) fun v23 =>
        some (.nx v23)) a0.Parts.length 0 ([])) fun s5 =>
      some s5
def impl_atomsOf (a0 : Formula) : Option (List Term) := lim fun n => impl_atomsOfN n a0

def strconv_small (a0 : Int) : Option ByteArray :=
  bif decide (a0 < (10 : Int)) then
    Option.bind (sslc (⟨#[48, 49, 50, 51, 52, 53, 54, 55, 56, 57, 97, 98, 99, 100, 101, 102, 103, 104, 105, 106, 107, 108, 109, 110, 111, 112, 113, 114, 115, 116, 117, 118, 119, 120, 121, 122]⟩ : ByteArray) a0 (IntKind.i64.wrap (a0 + (1 : Int)))) fun v8 =>
    some v8
  else
    Option.bind (sslc (⟨#[48, 48, 48, 49, 48, 50, 48, 51, 48, 52, 48, 53, 48, 54, 48, 55, 48, 56, 48, 57, 49, 48, 49, 49, 49, 50, 49, 51, 49, 52, 49, 53, 49, 54, 49, 55, 49, 56, 49, 57, 50, 48, 50, 49, 50, 50, 50, 51, 50, 52, 50, 53, 50, 54, 50, 55, 50, 56, 50, 57, 51, 48, 51, 49, 51, 50, 51, 51, 51, 52, 51, 53, 51, 54, 51, 55, 51, 56, 51, 57, 52, 48, 52, 49, 52, 50, 52, 51, 52, 52, 52, 53, 52, 54, 52, 55, 52, 56, 52, 57, 53, 48, 53, 49, 53, 50, 53, 51, 53, 52, 53, 53, 53, 54, 53, 55, 53, 56, 53, 57, 54, 48, 54, 49, 54, 50, 54, 51, 54, 52, 54, 53, 54, 54, 54, 55, 54, 56, 54, 57, 55, 48, 55, 49, 55, 50, 55, 51, 55, 52, 55, 53, 55, 54, 55, 55, 55, 56, 55, 57, 56, 48, 56, 49, 56, 50, 56, 51, 56, 52, 56, 53, 56, 54, 56, 55, 56, 56, 56, 57, 57, 48, 57, 49, 57, 50, 57, 51, 57, 52, 57, 53, 57, 54, 57, 55, 57, 56, 57, 57]⟩ : ByteArray) (IntKind.i64.wrap (a0 * (2 : Int))) (IntKind.i64.wrap ((IntKind.i64.wrap (a0 * (2 : Int))) + (2 : Int)))) fun v14 =>
    some v14

def bits_Len64 (a0 : Int) : Option Int :=
  bif decide ((4294967296 : Int) ≤ a0) then
    Option.bind (shr .u64 a0 (32 : Int)) fun v6 =>
    bif decide ((65536 : Int) ≤ v6) then
      Option.bind (shr .u64 v6 (16 : Int)) fun v10 =>
      bif decide ((256 : Int) ≤ v10) then
        Option.bind (shr .u64 v10 (8 : Int)) fun v16 =>
        Option.bind (sidx (⟨#[0, 1, 2, 2, 3, 3, 3, 3, 4, 4, 4, 4, 4, 4, 4, 4, 5, 5, 5, 5, 5, 5, 5, 5, 5, 5, 5, 5, 5, 5, 5, 5, 6, 6, 6, 6, 6, 6, 6, 6, 6, 6, 6, 6, 6, 6, 6, 6, 6, 6, 6, 6, 6, 6, 6, 6, 6, 6, 6, 6, 6, 6, 6, 6, 7, 7, 7, 7, 7, 7, 7, 7, 7, 7, 7, 7, 7, 7, 7, 7, 7, 7, 7, 7, 7, 7, 7, 7, 7, 7, 7, 7, 7, 7, 7, 7, 7, 7, 7, 7, 7, 7, 7, 7, 7, 7, 7, 7, 7, 7, 7, 7, 7, 7, 7, 7, 7, 7, 7, 7, 7, 7, 7, 7, 7, 7, 7, 7, 8, 8, 8, 8, 8, 8, 8, 8, 8, 8, 8, 8, 8, 8, 8, 8, 8, 8, 8, 8, 8, 8, 8, 8, 8, 8, 8, 8, 8, 8, 8, 8, 8, 8, 8, 8, 8, 8, 8, 8, 8, 8, 8, 8, 8, 8, 8, 8, 8, 8, 8, 8, 8, 8, 8, 8, 8, 8, 8, 8, 8, 8, 8, 8, 8, 8, 8, 8, 8, 8, 8, 8, 8, 8, 8, 8, 8, 8, 8, 8, 8, 8, 8, 8, 8, 8, 8, 8, 8, 8, 8, 8, 8, 8, 8, 8, 8, 8, 8, 8, 8, 8, 8, 8, 8, 8, 8, 8, 8, 8, 8, 8, 8, 8, 8, 8, 8, 8, 8, 8, 8, 8, 8, 8, 8, 8, 8, 8]⟩ : ByteArray) (IntKind.u8.wrap v16)) fun v22 =>
        some (IntKind.i64.wrap ((IntKind.i64.wrap ((IntKind.i64.wrap ((32 : Int) + (16 : Int))) + (8 : Int))) + (IntKind.i64.wrap v22)))
      else
        Option.bind (sidx (⟨#[0, 1, 2, 2, 3, 3, 3, 3, 4, 4, 4, 4, 4, 4, 4, 4, 5, 5, 5, 5, 5, 5, 5, 5, 5, 5, 5, 5, 5, 5, 5, 5, 6, 6, 6, 6, 6, 6, 6, 6, 6, 6, 6, 6, 6, 6, 6, 6, 6, 6, 6, 6, 6, 6, 6, 6, 6, 6, 6, 6, 6, 6, 6, 6, 7, 7, 7, 7, 7, 7, 7, 7, 7, 7, 7, 7, 7, 7, 7, 7, 7, 7, 7, 7, 7, 7, 7, 7, 7, 7, 7, 7, 7, 7, 7, 7, 7, 7, 7, 7, 7, 7, 7, 7, 7, 7, 7, 7, 7, 7, 7, 7, 7, 7, 7, 7, 7, 7, 7, 7, 7, 7, 7, 7, 7, 7, 7, 7, 8, 8, 8, 8, 8, 8, 8, 8, 8, 8, 8, 8, 8, 8, 8, 8, 8, 8, 8, 8, 8, 8, 8, 8, 8, 8, 8, 8, 8, 8, 8, 8, 8, 8, 8, 8, 8, 8, 8, 8, 8, 8, 8, 8, 8, 8, 8, 8, 8, 8, 8, 8, 8, 8, 8, 8, 8, 8, 8, 8, 8, 8, 8, 8, 8, 8, 8, 8, 8, 8, 8, 8, 8, 8, 8, 8, 8, 8, 8, 8, 8, 8, 8, 8, 8, 8, 8, 8, 8, 8, 8, 8, 8, 8, 8, 8, 8, 8, 8, 8, 8, 8, 8, 8, 8, 8, 8, 8, 8, 8, 8, 8, 8, 8, 8, 8, 8, 8, 8, 8, 8, 8, 8, 8, 8, 8, 8, 8]⟩ : ByteArray) (IntKind.u8.wrap v10)) fun v22 =>
        some (IntKind.i64.wrap ((IntKind.i64.wrap ((32 : Int) + (16 : Int))) + (IntKind.i64.wrap v22)))
    else
      bif decide ((256 : Int) ≤ v6) then
        Option.bind (shr .u64 v6 (8 : Int)) fun v16 =>
        Option.bind (sidx (⟨#[0, 1, 2, 2, 3, 3, 3, 3, 4, 4, 4, 4, 4, 4, 4, 4, 5, 5, 5, 5, 5, 5, 5, 5, 5, 5, 5, 5, 5, 5, 5, 5, 6, 6, 6, 6, 6, 6, 6, 6, 6, 6, 6, 6, 6, 6, 6, 6, 6, 6, 6, 6, 6, 6, 6, 6, 6, 6, 6, 6, 6, 6, 6, 6, 7, 7, 7, 7, 7, 7, 7, 7, 7, 7, 7, 7, 7, 7, 7, 7, 7, 7, 7, 7, 7, 7, 7, 7, 7, 7, 7, 7, 7, 7, 7, 7, 7, 7, 7, 7, 7, 7, 7, 7, 7, 7, 7, 7, 7, 7, 7, 7, 7, 7, 7, 7, 7, 7, 7, 7, 7, 7, 7, 7, 7, 7, 7, 7, 8, 8, 8, 8, 8, 8, 8, 8, 8, 8, 8, 8, 8, 8, 8, 8, 8, 8, 8, 8, 8, 8, 8, 8, 8, 8, 8, 8, 8, 8, 8, 8, 8, 8, 8, 8, 8, 8, 8, 8, 8, 8, 8, 8, 8, 8, 8, 8, 8, 8, 8, 8, 8, 8, 8, 8, 8, 8, 8, 8, 8, 8, 8, 8, 8, 8, 8, 8, 8, 8, 8, 8, 8, 8, 8, 8, 8, 8, 8, 8, 8, 8, 8, 8, 8, 8, 8, 8, 8, 8, 8, 8, 8, 8, 8, 8, 8, 8, 8, 8, 8, 8, 8, 8, 8, 8, 8, 8, 8, 8, 8, 8, 8, 8, 8, 8, 8, 8, 8, 8, 8, 8, 8, 8, 8, 8, 8, 8]⟩ : ByteArray) (IntKind.u8.wrap v16)) fun v22 =>
        some (IntKind.i64.wrap ((IntKind.i64.wrap ((32 : Int) + (8 : Int))) + (IntKind.i64.wrap v22)))
      else
        Option.bind (sidx (⟨#[0, 1, 2, 2, 3, 3, 3, 3, 4, 4, 4, 4, 4, 4, 4, 4, 5, 5, 5, 5, 5, 5, 5, 5, 5, 5, 5, 5, 5, 5, 5, 5, 6, 6, 6, 6, 6, 6, 6, 6, 6, 6, 6, 6, 6, 6, 6, 6, 6, 6, 6, 6, 6, 6, 6, 6, 6, 6, 6, 6, 6, 6, 6, 6, 7, 7, 7, 7, 7, 7, 7, 7, 7, 7, 7, 7, 7, 7, 7, 7, 7, 7, 7, 7, 7, 7, 7, 7, 7, 7, 7, 7, 7, 7, 7, 7, 7, 7, 7, 7, 7, 7, 7, 7, 7, 7, 7, 7, 7, 7, 7, 7, 7, 7, 7, 7, 7, 7, 7, 7, 7, 7, 7, 7, 7, 7, 7, 7, 8, 8, 8, 8, 8, 8, 8, 8, 8, 8, 8, 8, 8, 8, 8, 8, 8, 8, 8, 8, 8, 8, 8, 8, 8, 8, 8, 8, 8, 8, 8, 8, 8, 8, 8, 8, 8, 8, 8, 8, 8, 8, 8, 8, 8, 8, 8, 8, 8, 8, 8, 8, 8, 8, 8, 8, 8, 8, 8, 8, 8, 8, 8, 8, 8, 8, 8, 8, 8, 8, 8, 8, 8, 8, 8, 8, 8, 8, 8, 8, 8, 8, 8, 8, 8, 8, 8, 8, 8, 8, 8, 8, 8, 8, 8, 8, 8, 8, 8, 8, 8, 8, 8, 8, 8, 8, 8, 8, 8, 8, 8, 8, 8, 8, 8, 8, 8, 8, 8, 8, 8, 8, 8, 8, 8, 8, 8, 8]⟩ : ByteArray) (IntKind.u8.wrap v6)) fun v22 =>
        some (IntKind.i64.wrap ((32 : Int) + (IntKind.i64.wrap v22)))
  else
    bif decide ((65536 : Int) ≤ a0) then
      Option.bind (shr .u64 a0 (16 : Int)) fun v10 =>
      bif decide ((256 : Int) ≤ v10) then
        Option.bind (shr .u64 v10 (8 : Int)) fun v16 =>
        Option.bind (sidx (⟨#[0, 1, 2, 2, 3, 3, 3, 3, 4, 4, 4, 4, 4, 4, 4, 4, 5, 5, 5, 5, 5, 5, 5, 5, 5, 5, 5, 5, 5, 5, 5, 5, 6, 6, 6, 6, 6, 6, 6, 6, 6, 6, 6, 6, 6, 6, 6, 6, 6, 6, 6, 6, 6, 6, 6, 6, 6, 6, 6, 6, 6, 6, 6, 6, 7, 7, 7, 7, 7, 7, 7, 7, 7, 7, 7, 7, 7, 7, 7, 7, 7, 7, 7, 7, 7, 7, 7, 7, 7, 7, 7, 7, 7, 7, 7, 7, 7, 7, 7, 7, 7, 7, 7, 7, 7, 7, 7, 7, 7, 7, 7, 7, 7, 7, 7, 7, 7, 7, 7, 7, 7, 7, 7, 7, 7, 7, 7, 7, 8, 8, 8, 8, 8, 8, 8, 8, 8, 8, 8, 8, 8, 8, 8, 8, 8, 8, 8, 8, 8, 8, 8, 8, 8, 8, 8, 8, 8, 8, 8, 8, 8, 8, 8, 8, 8, 8, 8, 8, 8, 8, 8, 8, 8, 8, 8, 8, 8, 8, 8, 8, 8, 8, 8, 8, 8, 8, 8, 8, 8, 8, 8, 8, 8, 8, 8, 8, 8, 8, 8, 8, 8, 8, 8, 8, 8, 8, 8, 8, 8, 8, 8, 8, 8, 8, 8, 8, 8, 8, 8, 8, 8, 8, 8, 8, 8, 8, 8, 8, 8, 8, 8, 8, 8, 8, 8, 8, 8, 8, 8, 8, 8, 8, 8, 8, 8, 8, 8, 8, 8, 8, 8, 8, 8, 8, 8, 8]⟩ : ByteArray) (IntKind.u8.wrap v16)) fun v22 =>
        some (IntKind.i64.wrap ((IntKind.i64.wrap ((IntKind.i64.wrap ((0 : Int) + (16 : Int))) + (8 : Int))) + (IntKind.i64.wrap v22)))
      else
        Option.bind (sidx (⟨#[0, 1, 2, 2, 3, 3, 3, 3, 4, 4, 4, 4, 4, 4, 4, 4, 5, 5, 5, 5, 5, 5, 5, 5, 5, 5, 5, 5, 5, 5, 5, 5, 6, 6, 6, 6, 6, 6, 6, 6, 6, 6, 6, 6, 6, 6, 6, 6, 6, 6, 6, 6, 6, 6, 6, 6, 6, 6, 6, 6, 6, 6, 6, 6, 7, 7, 7, 7, 7, 7, 7, 7, 7, 7, 7, 7, 7, 7, 7, 7, 7, 7, 7, 7, 7, 7, 7, 7, 7, 7, 7, 7, 7, 7, 7, 7, 7, 7, 7, 7, 7, 7, 7, 7, 7, 7, 7, 7, 7, 7, 7, 7, 7, 7, 7, 7, 7, 7, 7, 7, 7, 7, 7, 7, 7, 7, 7, 7, 8, 8, 8, 8, 8, 8, 8, 8, 8, 8, 8, 8, 8, 8, 8, 8, 8, 8, 8, 8, 8, 8, 8, 8, 8, 8, 8, 8, 8, 8, 8, 8, 8, 8, 8, 8, 8, 8, 8, 8, 8, 8, 8, 8, 8, 8, 8, 8, 8, 8, 8, 8, 8, 8, 8, 8, 8, 8, 8, 8, 8, 8, 8, 8, 8, 8, 8, 8, 8, 8, 8, 8, 8, 8, 8, 8, 8, 8, 8, 8, 8, 8, 8, 8, 8, 8, 8, 8, 8, 8, 8, 8, 8, 8, 8, 8, 8, 8, 8, 8, 8, 8, 8, 8, 8, 8, 8, 8, 8, 8, 8, 8, 8, 8, 8, 8, 8, 8, 8, 8, 8, 8, 8, 8, 8, 8, 8, 8]⟩ : ByteArray) (IntKind.u8.wrap v10)) fun v22 =>
        some (IntKind.i64.wrap ((IntKind.i64.wrap ((0 : Int) + (16 : Int))) + (IntKind.i64.wrap v22)))
    else
      bif decide ((256 : Int) ≤ a0) then
        Option.bind (shr .u64 a0 (8 : Int)) fun v16 =>
        Option.bind (sidx (⟨#[0, 1, 2, 2, 3, 3, 3, 3, 4, 4, 4, 4, 4, 4, 4, 4, 5, 5, 5, 5, 5, 5, 5, 5, 5, 5, 5, 5, 5, 5, 5, 5, 6, 6, 6, 6, 6, 6, 6, 6, 6, 6, 6, 6, 6, 6, 6, 6, 6, 6, 6, 6, 6, 6, 6, 6, 6, 6, 6, 6, 6, 6, 6, 6, 7, 7, 7, 7, 7, 7, 7, 7, 7, 7, 7, 7, 7, 7, 7, 7, 7, 7, 7, 7, 7, 7, 7, 7, 7, 7, 7, 7, 7, 7, 7, 7, 7, 7, 7, 7, 7, 7, 7, 7, 7, 7, 7, 7, 7, 7, 7, 7, 7, 7, 7, 7, 7, 7, 7, 7, 7, 7, 7, 7, 7, 7, 7, 7, 8, 8, 8, 8, 8, 8, 8, 8, 8, 8, 8, 8, 8, 8, 8, 8, 8, 8, 8, 8, 8, 8, 8, 8, 8, 8, 8, 8, 8, 8, 8, 8, 8, 8, 8, 8, 8, 8, 8, 8, 8, 8, 8, 8, 8, 8, 8, 8, 8, 8, 8, 8, 8, 8, 8, 8, 8, 8, 8, 8, 8, 8, 8, 8, 8, 8, 8, 8, 8, 8, 8, 8, 8, 8, 8, 8, 8, 8, 8, 8, 8, 8, 8, 8, 8, 8, 8, 8, 8, 8, 8, 8, 8, 8, 8, 8, 8, 8, 8, 8, 8, 8, 8, 8, 8, 8, 8, 8, 8, 8, 8, 8, 8, 8, 8, 8, 8, 8, 8, 8, 8, 8, 8, 8, 8, 8, 8, 8]⟩ : ByteArray) (IntKind.u8.wrap v16)) fun v22 =>
        some (IntKind.i64.wrap ((IntKind.i64.wrap ((0 : Int) + (8 : Int))) + (IntKind.i64.wrap v22)))
      else
        Option.bind (sidx (⟨#[0, 1, 2, 2, 3, 3, 3, 3, 4, 4, 4, 4, 4, 4, 4, 4, 5, 5, 5, 5, 5, 5, 5, 5, 5, 5, 5, 5, 5, 5, 5, 5, 6, 6, 6, 6, 6, 6, 6, 6, 6, 6, 6, 6, 6, 6, 6, 6, 6, 6, 6, 6, 6, 6, 6, 6, 6, 6, 6, 6, 6, 6, 6, 6, 7, 7, 7, 7, 7, 7, 7, 7, 7, 7, 7, 7, 7, 7, 7, 7, 7, 7, 7, 7, 7, 7, 7, 7, 7, 7, 7, 7, 7, 7, 7, 7, 7, 7, 7, 7, 7, 7, 7, 7, 7, 7, 7, 7, 7, 7, 7, 7, 7, 7, 7, 7, 7, 7, 7, 7, 7, 7, 7, 7, 7, 7, 7, 7, 8, 8, 8, 8, 8, 8, 8, 8, 8, 8, 8, 8, 8, 8, 8, 8, 8, 8, 8, 8, 8, 8, 8, 8, 8, 8, 8, 8, 8, 8, 8, 8, 8, 8, 8, 8, 8, 8, 8, 8, 8, 8, 8, 8, 8, 8, 8, 8, 8, 8, 8, 8, 8, 8, 8, 8, 8, 8, 8, 8, 8, 8, 8, 8, 8, 8, 8, 8, 8, 8, 8, 8, 8, 8, 8, 8, 8, 8, 8, 8, 8, 8, 8, 8, 8, 8, 8, 8, 8, 8, 8, 8, 8, 8, 8, 8, 8, 8, 8, 8, 8, 8, 8, 8, 8, 8, 8, 8, 8, 8, 8, 8, 8, 8, 8, 8, 8, 8, 8, 8, 8, 8, 8, 8, 8, 8, 8, 8]⟩ : ByteArray) (IntKind.u8.wrap a0)) fun v22 =>
        some (IntKind.i64.wrap ((0 : Int) + (IntKind.i64.wrap v22)))

def strconv_log10Pow2 (a0 : Int) : Option Int :=
  Option.bind (shr .i64 (IntKind.i64.wrap (a0 * (78913 : Int))) (18 : Int)) fun v5 =>
  some v5

def strconv_bool2_int (a0 : Bool) : Option Int :=
  bif a0 then
    some (1 : Int)
  else
    some (0 : Int)

def strconv_isPowerOfTwo (a0 : Int) : Option Bool :=
  some (decide ((bitand .i64 a0 (IntKind.i64.wrap (a0 - (1 : Int)))) = (0 : Int)))

def strconv_formatBits (a0 : List Int) (a1 : Int) (a2 : Int) (a3 : Bool) (a4 : Bool) : Option ((List Int) × ByteArray) :=
  bif decide (a2 < (2 : Int)) then
    none
  else
    bif decide (a2 = (10 : Int)) then
      none
    else
      bif decide ((36 : Int) < a2) then
        none
      else
        none

def strconv_FormatInt (a0 : Int) (a1 : Int) : Option ByteArray :=
  bif decide (a1 = (10 : Int)) then
    bif decide ((0 : Int) ≤ a0) then
      bif decide (a0 < (100 : Int)) then
        Option.bind (strconv_small a0) fun v19 =>
        some v19
      else
        none
    else
      none
  else
    Option.bind (strconv_formatBits ([]) (IntKind.u64.wrap a0) a1 (decide (a0 < (0 : Int))) false) fun v50 =>
    some v50.2

def strconv_Itoa_99 (a0 : Int) : Option ByteArray :=
  Option.bind (strconv_FormatInt a0 (10 : Int)) fun v4 =>
  some v4

def strconv_Itoa (a0 : Int) : Option ByteArray :=
  Option.bind (strconv_Itoa_99 a0) fun v4 =>
  some v4

def impl_variableOf (a0 : Term) : Option Int :=
  thenL (ρ := Int) (σ := Int) (lim fun n2 => whileN (fun (s2 : Int) =>
    bif decide (s2 ≤ (12 : Int)) then
      bif decide ((a0.Args.length : Int) = (0 : Int)) then
        Option.bind (strconv_Itoa s2) fun v16 =>
        Option.bind (sapp (⟨#[118]⟩ : ByteArray) v16) fun v17 =>
        bif decide (a0.Name = v17) then
          some (.rt s2)
        else
          some (.nx (IntKind.i64.wrap (s2 + (1 : Int))))
      else
        some (.nx (IntKind.i64.wrap (s2 + (1 : Int))))
    else
      some (.br s2)) n2 (1 : Int)) fun s2 =>
  some (0 : Int)

def impl_variablesOf (a0 : Formula) : Option ((List Int) × Bool) :=
  Option.bind (impl_IsValidFormula a0) fun v9 =>
  bif v9 then
    Option.bind (impl_hasOp a0 ([(8 : Int), (9 : Int)])) fun v14 =>
    bif v14 then
      some ([], false)
    else
      Option.bind (impl_atomsOf a0) fun v18 =>
      thenL (ρ := ((List Int) × Bool)) (σ := (List Int)) (forN (fun (i5 : Nat) (s5 : (List Int)) =>
        Option.bind (idx v18 (i5 : Int)) fun v22 =>
        Option.bind (idx v18 (i5 : Int)) fun v23 =>
        Option.bind (impl_variableOf v23) fun v25 =>
        bif decide (v25 = (0 : Int)) then
          some (.rt ([], false))
        else
          Option.bind (app s5 ([v25])) fun v31 =>
          some (.nx v31)) v18.length 0 ([])) fun s5 =>
      some (s5, true)
  else
    some ([], false)

def impl_absolute (a0 : Int) : Option Int :=
  some (max a0 (IntKind.i64.wrap (0 - a0)))

def impl_isPropClause (a0 : List Int) : Option Bool :=
  thenL (ρ := Bool) (σ := Unit) (forN (fun (i2 : Nat) (s2 : Unit) =>
    Option.bind (idx a0 (i2 : Int)) fun v10 =>
    bif decide (v10 = (0 : Int)) then
      some (.rt false)
    else
      Option.bind (impl_within v10 (-12 : Int) (12 : Int)) fun v16 =>
      bif v16 then
        bif decide ((0 : Int) < (i2 : Int)) then
          Option.bind (idx a0 (IntKind.i64.wrap ((i2 : Int) - (1 : Int)))) fun v26 =>
          Option.bind (impl_absolute v26) fun v28 =>
          Option.bind (impl_absolute v10) fun v30 =>
          bif decide (v30 ≤ v28) then
            some (.rt false)
          else
            some (.nx ())
        else
          some (.nx ())
      else
        some (.rt false)) a0.length 0 ()) fun s2 =>
  some true

def impl_IsValidClauses_1 (a0 : List Int) : Option Bool :=
  Option.bind (impl_isPropClause a0) fun v4 =>
  some (!v4)

def slices_IndexFunc_SSint_Sint (a0 : List (List Int)) (a1 : (List Int) → Option Bool) : Option Int :=
  thenL (ρ := Int) (σ := Unit) (forN (fun (i2 : Nat) (s2 : Unit) =>
    Option.bind (idx a0 (i2 : Int)) fun v14 =>
    Option.bind (a1 v14) fun v16 =>
    bif v16 then
      some (.rt (i2 : Int))
    else
      some (.nx ())) a0.length 0 ()) fun s2 =>
  some (-1 : Int)

def slices_ContainsFunc_SSint_Sint (a0 : List (List Int)) (a1 : (List Int) → Option Bool) : Option Bool :=
  Option.bind (slices_IndexFunc_SSint_Sint a0 a1) fun v7 =>
  some (decide ((0 : Int) ≤ v7))

def impl_IsValidClauses (a0 : List (List Int)) : Option Bool :=
  bif decide ((a0.length : Int) ≤ (40 : Int)) then
    Option.bind (slices_ContainsFunc_SSint_Sint a0 (fun y0 => impl_IsValidClauses_1 y0)) fun v8 =>
    some (!v8)
  else
    some false

def impl_isSplit (a0 : List (List Int)) (a1 : Int) : Option Bool :=
  Option.bind (impl_IsValidClauses a0) fun v6 =>
  bif v6 then
    Option.bind (impl_within a1 (0 : Int) (a0.length : Int)) fun v11 =>
    some v11
  else
    some false

def impl_greatest (a0 : List (List Int)) : Option Int :=
  thenL (ρ := Int) (σ := Int) (forN (fun (i3 : Nat) (s3 : Int) =>
    Option.bind (idx a0 (i3 : Int)) fun v12 =>
    thenL (ρ := (Flow Int Int)) (σ := Int) (forN (fun (i6 : Nat) (s6 : Int) =>
      Option.bind (idx v12 (i6 : Int)) fun v18 =>
      Option.bind (impl_absolute v18) fun v22 =>
      some (.nx (max s6 v22))) v12.length 0 s3) fun s6 =>
    some (.nx s6)) a0.length 0 (0 : Int)) fun s3 =>
  some s3

def impl_colors (a0 : List (List Int)) (a1 : Int) : Option (List Int) :=
  Option.bind (impl_greatest a0) fun v12 =>
  Option.bind (mkn v12) fun n13 =>
  thenL (ρ := (List Int)) (σ := (List Int)) (forN (fun (i3 : Nat) (s3 : (List Int)) =>
    Option.bind (idx a0 (i3 : Int)) fun v19 =>
    bif decide (a1 ≤ (i3 : Int)) then
      thenL (ρ := (Flow (List Int) (List Int))) (σ := (List Int)) (forN (fun (i9 : Nat) (s9 : (List Int)) =>
        Option.bind (idx v19 (i9 : Int)) fun v28 =>
        Option.bind (impl_absolute v28) fun v32 =>
        Option.bind (idx s9 (IntKind.i64.wrap (v32 - (1 : Int)))) fun v34 =>
        Option.bind (idx s9 (IntKind.i64.wrap (v32 - (1 : Int)))) fun v35 =>
        Option.bind (idx s9 (IntKind.i64.wrap (v32 - (1 : Int)))) fun v38 =>
        Option.bind (idx s9 (IntKind.i64.wrap (v32 - (1 : Int)))) fun w4 =>
        some (.nx (s9.set (IntKind.i64.wrap (v32 - (1 : Int))).toNat (bitor .i64 v35 (2 : Int))))) v19.length 0 s3) fun s9 =>
      some (.nx s9)
    else
      thenL (ρ := (Flow (List Int) (List Int))) (σ := (List Int)) (forN (fun (i9 : Nat) (s9 : (List Int)) =>
        Option.bind (idx v19 (i9 : Int)) fun v28 =>
        Option.bind (impl_absolute v28) fun v32 =>
        Option.bind (idx s9 (IntKind.i64.wrap (v32 - (1 : Int)))) fun v34 =>
        Option.bind (idx s9 (IntKind.i64.wrap (v32 - (1 : Int)))) fun v35 =>
        Option.bind (idx s9 (IntKind.i64.wrap (v32 - (1 : Int)))) fun v38 =>
        Option.bind (idx s9 (IntKind.i64.wrap (v32 - (1 : Int)))) fun w7 =>
        some (.nx (s9.set (IntKind.i64.wrap (v32 - (1 : Int))).toNat (bitor .i64 v35 (1 : Int))))) v19.length 0 s3) fun s9 =>
      some (.nx s9)) a0.length 0 (List.replicate n13 (0 : Int))) fun s3 =>
  some s3

def impl_IsInterpolant_1 (a0 : Int) (b0 : List Int) : Option Bool :=
  bif decide ((b0.length : Int) < a0) then
    some true
  else
    Option.bind (idx b0 (IntKind.i64.wrap (a0 - (1 : Int)))) fun v12 =>
    some (!(decide (v12 = (3 : Int))))

def slices_IndexFunc_Sint_int (a0 : List Int) (a1 : Int → Option Bool) : Option Int :=
  thenL (ρ := Int) (σ := Unit) (forN (fun (i2 : Nat) (s2 : Unit) =>
    Option.bind (idx a0 (i2 : Int)) fun v14 =>
    Option.bind (a1 v14) fun v16 =>
    bif v16 then
      some (.rt (i2 : Int))
    else
      some (.nx ())) a0.length 0 ()) fun s2 =>
  some (-1 : Int)

def slices_ContainsFunc_Sint_int (a0 : List Int) (a1 : Int → Option Bool) : Option Bool :=
  Option.bind (slices_IndexFunc_Sint_int a0 a1) fun v7 =>
  some (decide ((0 : Int) ≤ v7))

def impl_assignmentOf (a0 : Int) (a1 : Int) : Option (List Int) :=
  Option.bind (mkn a1) fun n8 =>
  thenL (ρ := (List Int)) (σ := Int × (List Int) × Int) (lim fun n3 => whileN (fun (s3 : Int × (List Int) × Int) =>
    bif decide ((1 : Int) ≤ s3.2.2) then
      Option.bind (idx s3.2.1 (IntKind.i64.wrap (s3.2.2 - (1 : Int)))) fun v18 =>
      Option.bind (idx s3.2.1 (IntKind.i64.wrap (s3.2.2 - (1 : Int)))) fun w2 =>
      bif decide ((bitand .i64 s3.1 (1 : Int)) = (1 : Int)) then
        Option.bind (idx (s3.2.1.set (IntKind.i64.wrap (s3.2.2 - (1 : Int))).toNat s3.2.2) (IntKind.i64.wrap (s3.2.2 - (1 : Int)))) fun v27 =>
        Option.bind (idx (s3.2.1.set (IntKind.i64.wrap (s3.2.2 - (1 : Int))).toNat s3.2.2) (IntKind.i64.wrap (s3.2.2 - (1 : Int)))) fun w4 =>
        Option.bind (shr .i64 s3.1 (1 : Int)) fun v29 =>
        some (.nx (v29, (s3.2.1.set (IntKind.i64.wrap (s3.2.2 - (1 : Int))).toNat s3.2.2).set (IntKind.i64.wrap (s3.2.2 - (1 : Int))).toNat (IntKind.i64.wrap (0 - s3.2.2)), IntKind.i64.wrap (s3.2.2 - (1 : Int))))
      else
        Option.bind (shr .i64 s3.1 (1 : Int)) fun v29 =>
        some (.nx (v29, s3.2.1.set (IntKind.i64.wrap (s3.2.2 - (1 : Int))).toNat s3.2.2, IntKind.i64.wrap (s3.2.2 - (1 : Int))))
    else
      some (.br s3)) n3 (a0, List.replicate n8 (0 : Int), a1)) fun s3 =>
  some s3.2.1

def slices_EqualFunc_Simpl_Term_Simpl_Term_impl_Term_impl_Term (a0 : List Term) (a1 : List Term) (a2 : Term → Term → Option Bool) : Option Bool :=
  bif decide ((a0.length : Int) = (a1.length : Int)) then
    thenL (ρ := Bool) (σ := Unit) (forN (fun (i4 : Nat) (s4 : Unit) =>
      Option.bind (idx a0 (i4 : Int)) fun v20 =>
      Option.bind (idx a1 (i4 : Int)) fun v24 =>
      Option.bind (a2 v20 v24) fun v29 =>
      bif v29 then
        some (.nx ())
      else
        some (.rt false)) a0.length 0 ()) fun s4 =>
    some true
  else
    some false

def impl_EqualTermsN : Nat → Term → Term → Option Bool
  | 0, _, _ => none
  | n + 1, a0, a1 =>
    bif decide (a0.Name = a1.Name) then
      Option.bind (slices_EqualFunc_Simpl_Term_Simpl_Term_impl_Term_impl_Term a0.Args a1.Args (fun y0 y1 => impl_EqualTermsN n y0 y1)) fun v15 =>
      some v15
    else
      some false
def impl_EqualTerms (a0 : Term) (a1 : Term) : Option Bool := lim fun n => impl_EqualTermsN n a0 a1

def impl_addAtom_1 (a0 : Term) (b0 : Term) : Option Bool :=
  Option.bind (impl_EqualTerms a0 b0) fun v6 =>
  some v6

mutual
def impl_copyTermN : Nat → Term → Option Term
  | 0, _ => none
  | n + 1, a0 =>
    Option.bind (impl_copyTermsN n a0.Args) fun v7 =>
    some (Term.mk a0.Name v7)
def impl_copyTermsN : Nat → (List Term) → Option (List Term)
  | 0, _ => none
  | n + 1, a0 =>
    bif decide ((a0.length : Int) = (0 : Int)) then
      some ([])
    else
      Option.bind (mkn (a0.length : Int)) fun n11 =>
      thenL (ρ := (List Term)) (σ := (List Term)) (forN (fun (i5 : Nat) (s5 : (List Term)) =>
        Option.bind (idx a0 (i5 : Int)) fun v17 =>
        Option.bind (impl_copyTermN n v17) fun v22 =>
        Option.bind (idx s5 (i5 : Int)) fun v23 =>
        Option.bind (idx s5 (i5 : Int)) fun w3 =>
        some (.nx (s5.set (i5 : Int).toNat v22))) a0.length 0 (List.replicate n11 (Term.mk (⟨#[]⟩ : ByteArray) ([])))) fun s5 =>
      some s5
end
def impl_copyTerm (a0 : Term) : Option Term := lim fun n => impl_copyTermN n a0
def impl_copyTerms (a0 : List Term) : Option (List Term) := lim fun n => impl_copyTermsN n a0

def impl_addAtom (a0 : List Term) (a1 : Term) : Option (List Term) :=
  Option.bind (slices_ContainsFunc_Simpl_Term_impl_Term a0 (fun y0 => impl_addAtom_1 y0 a1)) fun v7 =>
  bif v7 then
    some a0
  else
    Option.bind (impl_copyTerm a1) fun v11 =>
    Option.bind (app a0 ([v11])) fun v13 =>
    some v13

def impl_differentAtoms (a0 : Formula) : Option (List Term) :=
  Option.bind (impl_atomsOf a0) fun v8 =>
  thenL (ρ := (List Term)) (σ := (List Term)) (forN (fun (i3 : Nat) (s3 : (List Term)) =>
    Option.bind (idx v8 (i3 : Int)) fun v12 =>
    Option.bind (idx v8 (i3 : Int)) fun v13 =>
    Option.bind (impl_addAtom s3 v13) fun v16 =>
    some (.nx v16)) v8.length 0 ([])) fun s3 =>
  some s3

def impl_flag (a0 : Bool) : Option Int :=
  bif a0 then
    some (1 : Int)
  else
    some (0 : Int)

def impl_indexOfAtom_1 (a0 : Term) (b0 : Term) : Option Bool :=
  Option.bind (impl_EqualTerms a0 b0) fun v6 =>
  some v6

def impl_indexOfAtom (a0 : List Term) (a1 : Term) : Option Int :=
  Option.bind (slices_IndexFunc_Simpl_Term_impl_Term a0 (fun y0 => impl_indexOfAtom_1 y0 a1)) fun v7 =>
  some v7

def impl_truthOfN : Nat → Formula → (List Term) → Int → Option Bool
  | 0, _, _, _ => none
  | n + 1, a0, a1, a2 =>
    bif decide (a0.Op = (1 : Int)) then
      some true
    else
      bif decide (a0.Op = (3 : Int)) then
        Option.bind (impl_indexOfAtom a1 a0.Atom) fun v17 =>
        Option.bind (shr .i64 a2 v17) fun v18 =>
        some (decide ((bitand .i64 v18 (1 : Int)) = (1 : Int)))
      else
        bif decide (a0.Op = (4 : Int)) then
          Option.bind (idx a0.Parts (0 : Int)) fun v25 =>
          Option.bind (impl_truthOfN n v25 a1 a2) fun v29 =>
          some (!v29)
        else
          bif decide (a0.Op = (5 : Int)) then
            Option.bind (idx a0.Parts (0 : Int)) fun v35 =>
            Option.bind (impl_truthOfN n v35 a1 a2) fun v39 =>
            bif v39 then
              Option.bind (idx a0.Parts (1 : Int)) fun v43 =>
              Option.bind (impl_truthOfN n v43 a1 a2) fun v47 =>
              some v47
            else
              some false
          else
            bif decide (a0.Op = (6 : Int)) then
              Option.bind (idx a0.Parts (0 : Int)) fun v53 =>
              Option.bind (impl_truthOfN n v53 a1 a2) fun v57 =>
              bif v57 then
                some true
              else
                Option.bind (idx a0.Parts (1 : Int)) fun v61 =>
                Option.bind (impl_truthOfN n v61 a1 a2) fun v65 =>
                some v65
            else
              bif decide (a0.Op = (7 : Int)) then
                Option.bind (idx a0.Parts (0 : Int)) fun v71 =>
                Option.bind (impl_truthOfN n v71 a1 a2) fun v75 =>
                bif v75 then
                  Option.bind (idx a0.Parts (1 : Int)) fun v80 =>
                  Option.bind (impl_truthOfN n v80 a1 a2) fun v84 =>
                  some v84
                else
                  some true
              else
                some false
def impl_truthOf (a0 : Formula) (a1 : List Term) (a2 : Int) : Option Bool := lim fun n => impl_truthOfN n a0 a1 a2

def impl_evaluateOn (a0 : Formula) (a1 : List Int) : Option Bool :=
  Option.bind (impl_differentAtoms a0) fun v10 =>
  thenL (ρ := Bool) (σ := Int) (forN (fun (i4 : Nat) (s4 : Int) =>
    Option.bind (idx v10 (i4 : Int)) fun v16 =>
    Option.bind (impl_variableOf v16) fun v21 =>
    Option.bind (slices_Contains_Sint_int a1 v21) fun v22 =>
    Option.bind (impl_flag v22) fun v23 =>
    Option.bind (shl .i64 v23 (i4 : Int)) fun v25 =>
    some (.nx (bitor .i64 s4 v25))) v10.length 0 (0 : Int)) fun s4 =>
  Option.bind (impl_truthOf a0 v10 s4) fun v31 =>
  some v31

def impl_isSatisfied_1 (a0 : Int) (b0 : List Int) : Option Bool :=
  Option.bind (slices_Contains_Sint_int b0 a0) fun v6 =>
  some v6

def impl_isSatisfied (a0 : List Int) (a1 : List Int) : Option Bool :=
  Option.bind (slices_ContainsFunc_Sint_int a0 (fun y0 => impl_isSatisfied_1 y0 a1)) fun v7 =>
  some v7

def impl_isModel_1 (a0 : List Int) (b0 : List Int) : Option Bool :=
  Option.bind (impl_isSatisfied a0 b0) fun v6 =>
  some (!v6)

def impl_isModel (a0 : List (List Int)) (a1 : List Int) : Option Bool :=
  Option.bind (slices_ContainsFunc_SSint_Sint a0 (fun y0 => impl_isModel_1 y0 a1)) fun v7 =>
  some (!v7)

def impl_IsInterpolant (a0 : List (List Int)) (a1 : Int) (a2 : Formula) : Option (Bool × Bool) :=
  Option.bind (impl_variablesOf a2) fun v16 =>
  bif v16.2 then
    Option.bind (impl_isSplit a0 a1) fun v24 =>
    bif v24 then
      Option.bind (impl_colors a0 a1) fun v29 =>
      Option.bind (slices_ContainsFunc_Sint_int v16.1 (fun y0 => impl_IsInterpolant_1 y0 v29)) fun v32 =>
      bif v32 then
        some (false, true)
      else
        Option.bind (shl .i64 (1 : Int) (v29.length : Int)) fun v35 =>
        Option.bind (bnd (v35)) fun N8 =>
        thenL (ρ := (Bool × Bool)) (σ := Unit) (forN (fun (i8 : Nat) (s8 : Unit) =>
          Option.bind (impl_assignmentOf (i8 : Int) (v29.length : Int)) fun v42 =>
          Option.bind (impl_evaluateOn a2 v42) fun v45 =>
          bif v45 then
            Option.bind (slc a0 a1 (a0.length : Int)) fun v60 =>
            Option.bind (impl_isModel v60 v42) fun v62 =>
            bif v62 then
              some (.rt (false, true))
            else
              some (.nx ())
          else
            Option.bind (slc a0 (0 : Int) a1) fun v51 =>
            Option.bind (impl_isModel v51 v42) fun v53 =>
            bif v53 then
              some (.rt (false, true))
            else
              some (.nx ())) N8 0 ()) fun s8 =>
        some (true, true)
    else
      some (false, false)
  else
    some (false, false)

def eqIntS (a0 : List Int) (a1 : List Int) : Option Bool :=
  bif decide ((a0.length : Int) = (a1.length : Int)) then
    thenL (ρ := Bool) (σ := Unit) (forN (fun (i4 : Nat) (s4 : Unit) =>
      Option.bind (idx a0 (i4 : Int)) fun v19 =>
      Option.bind (idx a1 (i4 : Int)) fun v23 =>
      bif decide (v19 = v23) then
        some (.nx ())
      else
        some (.rt false)) a0.length 0 ()) fun s4 =>
    some true
  else
    some false

def eqIntSS (a0 : List (List Int)) (a1 : List (List Int)) : Option Bool :=
  bif decide ((a0.length : Int) = (a1.length : Int)) then
    thenL (ρ := Bool) (σ := Unit) (forN (fun (i4 : Nat) (s4 : Unit) =>
      Option.bind (idx a0 (i4 : Int)) fun v19 =>
      Option.bind (idx a1 (i4 : Int)) fun v23 =>
      Option.bind (eqIntS v19 v23) fun v25 =>
      bif v25 then
        some (.nx ())
      else
        some (.rt false)) a0.length 0 ()) fun s4 =>
    some true
  else
    some false

mutual
def eqTermN : Nat → Term → Term → Option Bool
  | 0, _, _ => none
  | n + 1, a0, a1 =>
    bif decide (a0.Name = a1.Name) then
      Option.bind (eqTermSN n a0.Args a1.Args) fun v14 =>
      bif v14 then
        some true
      else
        some false
    else
      some false
def eqTermSN : Nat → (List Term) → (List Term) → Option Bool
  | 0, _, _ => none
  | n + 1, a0, a1 =>
    bif decide ((a0.length : Int) = (a1.length : Int)) then
      thenL (ρ := Bool) (σ := Unit) (forN (fun (i4 : Nat) (s4 : Unit) =>
        Option.bind (idx a0 (i4 : Int)) fun v19 =>
        Option.bind (idx a1 (i4 : Int)) fun v23 =>
        Option.bind (eqTermN n v19 v23) fun v25 =>
        bif v25 then
          some (.nx ())
        else
          some (.rt false)) a0.length 0 ()) fun s4 =>
      some true
    else
      some false
end
def eqTerm (a0 : Term) (a1 : Term) : Option Bool := lim fun n => eqTermN n a0 a1
def eqTermS (a0 : List Term) (a1 : List Term) : Option Bool := lim fun n => eqTermSN n a0 a1

mutual
def eqFormulaN : Nat → Formula → Formula → Option Bool
  | 0, _, _ => none
  | n + 1, a0, a1 =>
    bif decide (a0.Op = a1.Op) then
      Option.bind (eqTerm a0.Atom a1.Atom) fun v14 =>
      bif v14 then
        bif decide (a0.Var = a1.Var) then
          Option.bind (eqFormulaSN n a0.Parts a1.Parts) fun v25 =>
          bif v25 then
            some true
          else
            some false
        else
          some false
      else
        some false
    else
      some false
def eqFormulaSN : Nat → (List Formula) → (List Formula) → Option Bool
  | 0, _, _ => none
  | n + 1, a0, a1 =>
    bif decide ((a0.length : Int) = (a1.length : Int)) then
      thenL (ρ := Bool) (σ := Unit) (forN (fun (i4 : Nat) (s4 : Unit) =>
        Option.bind (idx a0 (i4 : Int)) fun v19 =>
        Option.bind (idx a1 (i4 : Int)) fun v23 =>
        Option.bind (eqFormulaN n v19 v23) fun v25 =>
        bif v25 then
          some (.nx ())
        else
          some (.rt false)) a0.length 0 ()) fun s4 =>
      some true
    else
      some false
end
def eqFormula (a0 : Formula) (a1 : Formula) : Option Bool := lim fun n => eqFormulaN n a0 a1
def eqFormulaS (a0 : List Formula) (a1 : List Formula) : Option Bool := lim fun n => eqFormulaSN n a0 a1

def FnExactIsInterpolant (a0 : List (List Int)) (a1 : Int) (a2 : Formula) : Option Bool :=
  Option.bind (szIntSS a0 (1048576 : Int)) fun v16 =>
  bif decide (v16 < (0 : Int)) then
    some true
  else
    Option.bind (szFormula a2 v16) fun v21 =>
    bif decide (v21 < (0 : Int)) then
      some true
    else
      Option.bind (toIntSS a0) fun v26 =>
      Option.bind (toFormula a2) fun v29 =>
      Option.bind (spec_IsInterpolant v26 a1 v29) fun v30 =>
      Option.bind (toIntSS a0) fun v34 =>
      Option.bind (toFormula a2) fun v36 =>
      Option.bind (impl_IsInterpolant v34 a1 v36) fun v41 =>
      bif v41.1 == v30.1 then
        bif v41.2 == v30.2 then
          Option.bind (toIntSS a0) fun v54 =>
          Option.bind (eqIntSS v34 v54) fun v55 =>
          bif v55 then
            Option.bind (toFormula a2) fun v59 =>
            Option.bind (eqFormula v36 v59) fun v60 =>
            bif v60 then
              some true
            else
              some false
          else
            some false
        else
          some false
      else
        some false

end
end Go.Proofs.YtkokcfphepmeeaaGreatDoor
