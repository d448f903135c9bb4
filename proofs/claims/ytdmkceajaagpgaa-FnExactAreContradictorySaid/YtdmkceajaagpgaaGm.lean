/- A part of the proof: lemmas only; nothing is claimed here beyond what each lemma says. -/
import Derived.Test.YtdmkceajaagpgaaGty
set_option linter.unusedSimpArgs false
set_option linter.unusedVariables false
set_option linter.defProp false
set_option maxRecDepth 4000
namespace Go.Proofs.Ytdmkceajaagpgaa
open Go.Av
noncomputable section
mutual
def szTermSN : Nat → (List Term) → Int → Option Int
  | 0, _, _ => none
  | n + 1, a0, a1 =>
    bif decide ((IntKind.i64.wrap (a1 - (a0.length : Int))) < (0 : Int)) then
      some (-1 : Int)
    else
      thenL (ρ := Int) (σ := Int) (forN (fun (i5 : Nat) (s5 : Int) =>
        Option.bind (idx a0 (i5 : Int)) fun v20 =>
        Option.bind (szTermN n v20 s5) fun v23 =>
        bif decide (v23 < (0 : Int)) then
          some (.rt (-1 : Int))
        else
          some (.nx v23)) a0.length 0 (IntKind.i64.wrap (a1 - (a0.length : Int)))) fun s5 =>
      some s5
def szTermN : Nat → Term → Int → Option Int
  | 0, _, _ => none
  | n + 1, a0, a1 =>
    bif decide ((IntKind.i64.wrap (a1 - (a0.Name.size : Int))) < (0 : Int)) then
      some (-1 : Int)
    else
      Option.bind (szTermSN n a0.Args (IntKind.i64.wrap (a1 - (a0.Name.size : Int)))) fun v15 =>
      bif decide (v15 < (0 : Int)) then
        some (-1 : Int)
      else
        some v15
end
def szTermS (a0 : List Term) (a1 : Int) : Option Int := lim fun n => szTermSN n a0 a1
def szTerm (a0 : Term) (a1 : Int) : Option Int := lim fun n => szTermN n a0 a1

mutual
def szFormulaSN : Nat → (List Formula) → Int → Option Int
  | 0, _, _ => none
  | n + 1, a0, a1 =>
    bif decide ((IntKind.i64.wrap (a1 - (a0.length : Int))) < (0 : Int)) then
      some (-1 : Int)
    else
      thenL (ρ := Int) (σ := Int) (forN (fun (i5 : Nat) (s5 : Int) =>
        Option.bind (idx a0 (i5 : Int)) fun v20 =>
        Option.bind (szFormulaN n v20 s5) fun v23 =>
        bif decide (v23 < (0 : Int)) then
          some (.rt (-1 : Int))
        else
          some (.nx v23)) a0.length 0 (IntKind.i64.wrap (a1 - (a0.length : Int)))) fun s5 =>
      some s5
def szFormulaN : Nat → Formula → Int → Option Int
  | 0, _, _ => none
  | n + 1, a0, a1 =>
    Option.bind (szTerm a0.Atom a1) fun v8 =>
    bif decide (v8 < (0 : Int)) then
      some (-1 : Int)
    else
      bif decide ((IntKind.i64.wrap (v8 - (a0.Var.size : Int))) < (0 : Int)) then
        some (-1 : Int)
      else
        Option.bind (szFormulaSN n a0.Parts (IntKind.i64.wrap (v8 - (a0.Var.size : Int)))) fun v21 =>
        bif decide (v21 < (0 : Int)) then
          some (-1 : Int)
        else
          some v21
end
def szFormulaS (a0 : List Formula) (a1 : Int) : Option Int := lim fun n => szFormulaSN n a0 a1
def szFormula (a0 : Formula) (a1 : Int) : Option Int := lim fun n => szFormulaN n a0 a1

def szSequent (a0 : Sequent) (a1 : Int) : Option Int :=
  Option.bind (szFormulaS a0.Left a1) fun v8 =>
  bif decide (v8 < (0 : Int)) then
    some (-1 : Int)
  else
    Option.bind (szFormulaS a0.Right v8) fun v14 =>
    bif decide (v14 < (0 : Int)) then
      some (-1 : Int)
    else
      some v14

def szSequentS (a0 : List Sequent) (a1 : Int) : Option Int :=
  bif decide ((IntKind.i64.wrap (a1 - (a0.length : Int))) < (0 : Int)) then
    some (-1 : Int)
  else
    thenL (ρ := Int) (σ := Int) (forN (fun (i5 : Nat) (s5 : Int) =>
      Option.bind (idx a0 (i5 : Int)) fun v20 =>
      Option.bind (szSequent v20 s5) fun v23 =>
      bif decide (v23 < (0 : Int)) then
        some (.rt (-1 : Int))
      else
        some (.nx v23)) a0.length 0 (IntKind.i64.wrap (a1 - (a0.length : Int)))) fun s5 =>
    some s5

mutual
def toTermSN : Nat → (List Term) → Option (List Term)
  | 0, _ => none
  | n + 1, a0 =>
    Option.bind (mkn (a0.length : Int)) fun n7 =>
    thenL (ρ := (List Term)) (σ := (List Term)) (forN (fun (i3 : Nat) (s3 : (List Term)) =>
      Option.bind (idx a0 (i3 : Int)) fun v18 =>
      Option.bind (toTermN n v18) fun v20 =>
      Option.bind (idx s3 (i3 : Int)) fun v21 =>
      Option.bind (idx s3 (i3 : Int)) fun w2 =>
      some (.nx (s3.set (i3 : Int).toNat v20))) a0.length 0 (List.replicate n7 (Term.mk (⟨#[]⟩ : ByteArray) ([])))) fun s3 =>
    some s3
def toTermN : Nat → Term → Option Term
  | 0, _ => none
  | n + 1, a0 =>
    Option.bind (toTermSN n a0.Args) fun v9 =>
    some (Term.mk a0.Name v9)
end
def toTermS (a0 : List Term) : Option (List Term) := lim fun n => toTermSN n a0
def toTerm (a0 : Term) : Option Term := lim fun n => toTermN n a0

mutual
def toFormulaSN : Nat → (List Formula) → Option (List Formula)
  | 0, _ => none
  | n + 1, a0 =>
    Option.bind (mkn (a0.length : Int)) fun n7 =>
    thenL (ρ := (List Formula)) (σ := (List Formula)) (forN (fun (i3 : Nat) (s3 : (List Formula)) =>
      Option.bind (idx a0 (i3 : Int)) fun v18 =>
      Option.bind (toFormulaN n v18) fun v20 =>
      Option.bind (idx s3 (i3 : Int)) fun v21 =>
      Option.bind (idx s3 (i3 : Int)) fun w2 =>
      some (.nx (s3.set (i3 : Int).toNat v20))) a0.length 0 (List.replicate n7 (Formula.mk (0 : Int) (Term.mk (⟨#[]⟩ : ByteArray) ([])) (⟨#[]⟩ : ByteArray) ([])))) fun s3 =>
    some s3
def toFormulaN : Nat → Formula → Option Formula
  | 0, _ => none
  | n + 1, a0 =>
    Option.bind (toTerm a0.Atom) fun v9 =>
    Option.bind (toFormulaSN n a0.Parts) fun v16 =>
    some (Formula.mk a0.Op v9 a0.Var v16)
end
def toFormulaS (a0 : List Formula) : Option (List Formula) := lim fun n => toFormulaSN n a0
def toFormula (a0 : Formula) : Option Formula := lim fun n => toFormulaN n a0

def toSequent (a0 : Sequent) : Option Sequent :=
  Option.bind (toFormulaS a0.Left) fun v6 =>
  Option.bind (toFormulaS a0.Right) fun v10 =>
  some (Sequent.mk v6 v10)

def toSequentS (a0 : List Sequent) : Option (List Sequent) :=
  Option.bind (mkn (a0.length : Int)) fun n7 =>
  thenL (ρ := (List Sequent)) (σ := (List Sequent)) (forN (fun (i3 : Nat) (s3 : (List Sequent)) =>
    Option.bind (idx a0 (i3 : Int)) fun v18 =>
    Option.bind (toSequent v18) fun v20 =>
    Option.bind (idx s3 (i3 : Int)) fun v21 =>
    Option.bind (idx s3 (i3 : Int)) fun w2 =>
    some (.nx (s3.set (i3 : Int).toNat v20))) a0.length 0 (List.replicate n7 (Sequent.mk ([]) ([])))) fun s3 =>
  some s3

def spec_l8ManyN : Nat → Formula → Int → Option Int
  | 0, _, _ => none
  | n + 1, a0, a1 =>
    thenL (ρ := Int) (σ := Int) (forN (fun (i3 : Nat) (s3 : Int) =>
      bif decide (s3 ≤ a1) then
        Option.bind (idx a0.Parts (i3 : Int)) fun v23 =>
        Option.bind (spec_l8ManyN n v23 (IntKind.i64.wrap (a1 - s3))) fun v28 =>
        some (.nx (IntKind.i64.wrap (s3 + v28)))
      else
        some (.rt s3)) a0.Parts.length 0 (1 : Int)) fun s3 =>
    some s3
def spec_l8Many (a0 : Formula) (a1 : Int) : Option Int := lim fun n => spec_l8ManyN n a0 a1

def spec_l8None (a0 : Term) : Option Bool :=
  bif decide (a0.Name = (⟨#[]⟩ : ByteArray)) then
    some (decide ((a0.Args.length : Int) = (0 : Int)))
  else
    some false

def spec_l2ManyN : Nat → Term → Int → Option Int
  | 0, _, _ => none
  | n + 1, a0, a1 =>
    thenL (ρ := Int) (σ := Int) (forN (fun (i3 : Nat) (s3 : Int) =>
      bif decide (s3 ≤ a1) then
        Option.bind (idx a0.Args (i3 : Int)) fun v23 =>
        Option.bind (spec_l2ManyN n v23 (IntKind.i64.wrap (a1 - s3))) fun v28 =>
        some (.nx (IntKind.i64.wrap (s3 + v28)))
      else
        some (.rt s3)) a0.Args.length 0 (1 : Int)) fun s3 =>
    some s3
def spec_l2Many (a0 : Term) (a1 : Int) : Option Int := lim fun n => spec_l2ManyN n a0 a1

def spec_l1Most (a0 : Int) (a1 : Int) : Option Int :=
  bif decide (a1 < a0) then
    some a0
  else
    some a1

def spec_l2DepthN : Nat → Term → Option Int
  | 0, _ => none
  | n + 1, a0 =>
    thenL (ρ := Int) (σ := Int) (forN (fun (i3 : Nat) (s3 : Int) =>
      Option.bind (idx a0.Args (i3 : Int)) fun v16 =>
      Option.bind (spec_l2DepthN n v16) fun v18 =>
      Option.bind (spec_l1Most s3 v18) fun v19 =>
      some (.nx v19)) a0.Args.length 0 (0 : Int)) fun s3 =>
    some (IntKind.i64.wrap (s3 + (1 : Int)))
def spec_l2Depth (a0 : Term) : Option Int := lim fun n => spec_l2DepthN n a0

def spec_l2Fits (a0 : Term) : Option Bool :=
  Option.bind (spec_l2Many a0 (30 : Int)) fun v4 =>
  bif decide (v4 ≤ (30 : Int)) then
    Option.bind (spec_l2Depth a0) fun v8 =>
    some (decide (v8 ≤ (8 : Int)))
  else
    some false

def spec_l1In (a0 : Int) (a1 : Int) (a2 : Int) : Option Bool :=
  bif decide (a1 ≤ a0) then
    some (decide (a0 ≤ a2))
  else
    some false

def spec_l2Small (a0 : Int) : Option Bool :=
  bif decide ((97 : Int) ≤ a0) then
    bif decide (a0 ≤ (122 : Int)) then
      some true
    else
      bif decide ((48 : Int) ≤ a0) then
        some (decide (a0 ≤ (57 : Int)))
      else
        some false
  else
    bif decide ((48 : Int) ≤ a0) then
      some (decide (a0 ≤ (57 : Int)))
    else
      some false

def spec_l2Var (a0 : ByteArray) : Option Bool :=
  Option.bind (spec_l1In (a0.size : Int) (1 : Int) (4 : Int)) fun v6 =>
  bif v6 then
    Option.bind (sidx a0 (0 : Int)) fun v10 =>
    bif decide (v10 < (65 : Int)) then
      some false
    else
      Option.bind (sidx a0 (0 : Int)) fun v15 =>
      bif decide ((90 : Int) < v15) then
        some false
      else
        Option.bind (bnd (a0.size : Int)) fun N4 =>
        thenL (ρ := Bool) (σ := Unit) (forN (fun (i4 : Nat) (s4 : Unit) =>
          Option.bind (sidx a0 (i4 : Int)) fun v26 =>
          Option.bind (spec_l2Small v26) fun v27 =>
          bif v27 then
            some (.nx ())
          else
            some (.rt false)) (N4 - 1) 1 ()) fun s4 =>
        some true
  else
    some false

def spec_l2Symbol (a0 : ByteArray) : Option Bool :=
  Option.bind (spec_l1In (a0.size : Int) (1 : Int) (6 : Int)) fun v6 =>
  bif v6 then
    Option.bind (sidx a0 (0 : Int)) fun v10 =>
    bif decide (v10 < (97 : Int)) then
      some false
    else
      Option.bind (sidx a0 (0 : Int)) fun v15 =>
      bif decide ((122 : Int) < v15) then
        some false
      else
        bif decide (a0 = (⟨#[116, 114, 117, 101]⟩ : ByteArray)) then
          some false
        else
          bif decide (a0 = (⟨#[102, 97, 108, 115, 101]⟩ : ByteArray)) then
            some false
          else
            bif decide (a0 = (⟨#[116, 114, 117, 116, 104]⟩ : ByteArray)) then
              some false
            else
              bif decide (a0 = (⟨#[98, 111, 116, 104]⟩ : ByteArray)) then
                some false
              else
                bif decide (a0 = (⟨#[101, 105, 116, 104, 101, 114]⟩ : ByteArray)) then
                  some false
                else
                  bif decide (a0 = (⟨#[105, 102]⟩ : ByteArray)) then
                    some false
                  else
                    bif decide (a0 = (⟨#[97, 108, 108]⟩ : ByteArray)) then
                      some false
                    else
                      bif decide (a0 = (⟨#[115, 111, 109, 101]⟩ : ByteArray)) then
                        some false
                      else
                        Option.bind (bnd (a0.size : Int)) fun N14 =>
                        thenL (ρ := Bool) (σ := Unit) (forN (fun (i14 : Nat) (s14 : Unit) =>
                          Option.bind (sidx a0 (i14 : Int)) fun v36 =>
                          Option.bind (spec_l2Small v36) fun v37 =>
                          bif v37 then
                            some (.nx ())
                          else
                            Option.bind (sidx a0 (i14 : Int)) fun v42 =>
                            bif decide (v42 = (95 : Int)) then
                              some (.nx ())
                            else
                              some (.rt false)) (N14 - 1) 1 ()) fun s14 =>
                        some true
  else
    some false

def spec_l2NodesN : Nat → Term → Option Bool
  | 0, _ => none
  | n + 1, a0 =>
    Option.bind (spec_l2Var a0.Name) fun v6 =>
    bif v6 then
      some (decide ((a0.Args.length : Int) = (0 : Int)))
    else
      Option.bind (spec_l2Symbol a0.Name) fun v13 =>
      bif v13 then
        bif decide ((4 : Int) < (a0.Args.length : Int)) then
          some false
        else
          thenL (ρ := Bool) (σ := Unit) (forN (fun (i6 : Nat) (s6 : Unit) =>
            Option.bind (idx a0.Args (i6 : Int)) fun v31 =>
            Option.bind (spec_l2NodesN n v31) fun v33 =>
            bif v33 then
              some (.nx ())
            else
              some (.rt false)) a0.Args.length 0 ()) fun s6 =>
          some true
      else
        some false
def spec_l2Nodes (a0 : Term) : Option Bool := lim fun n => spec_l2NodesN n a0

def spec_l2Good (a0 : Term) : Option Bool :=
  Option.bind (spec_l2Fits a0) fun v4 =>
  bif v4 then
    Option.bind (spec_l2Nodes a0) fun v7 =>
    some v7
  else
    some false

def spec_l2Atom (a0 : Term) : Option Bool :=
  bif decide (a0.Name = (⟨#[61]⟩ : ByteArray)) then
    bif decide ((a0.Args.length : Int) = (2 : Int)) then
      Option.bind (spec_l2Fits a0) fun v12 =>
      bif v12 then
        Option.bind (idx a0.Args (0 : Int)) fun v17 =>
        Option.bind (spec_l2Nodes v17) fun v19 =>
        bif v19 then
          Option.bind (idx a0.Args (1 : Int)) fun v24 =>
          Option.bind (spec_l2Nodes v24) fun v26 =>
          some v26
        else
          some false
      else
        some false
    else
      some false
  else
    Option.bind (spec_l2Symbol a0.Name) fun v30 =>
    bif v30 then
      Option.bind (spec_l2Good a0) fun v33 =>
      some v33
    else
      some false

def spec_l8Form (a0 : Formula) : Option Bool :=
  bif decide (a0.Op = (1 : Int)) then
    bif decide ((a0.Parts.length : Int) = (0 : Int)) then
      Option.bind (spec_l8None a0.Atom) fun v17 =>
      bif v17 then
        some (decide (a0.Var = (⟨#[]⟩ : ByteArray)))
      else
        some false
    else
      some false
  else
    bif decide (a0.Op = (2 : Int)) then
      bif decide ((a0.Parts.length : Int) = (0 : Int)) then
        Option.bind (spec_l8None a0.Atom) fun v17 =>
        bif v17 then
          some (decide (a0.Var = (⟨#[]⟩ : ByteArray)))
        else
          some false
      else
        some false
    else
      bif decide (a0.Op = (3 : Int)) then
        bif decide ((a0.Parts.length : Int) = (0 : Int)) then
          Option.bind (spec_l2Atom a0.Atom) fun v31 =>
          bif v31 then
            some (decide (a0.Var = (⟨#[]⟩ : ByteArray)))
          else
            some false
        else
          some false
      else
        bif decide (a0.Op = (4 : Int)) then
          bif decide ((a0.Parts.length : Int) = (1 : Int)) then
            Option.bind (spec_l8None a0.Atom) fun v45 =>
            bif v45 then
              some (decide (a0.Var = (⟨#[]⟩ : ByteArray)))
            else
              some false
          else
            some false
        else
          bif decide (a0.Op = (5 : Int)) then
            bif decide ((a0.Parts.length : Int) = (2 : Int)) then
              Option.bind (spec_l8None a0.Atom) fun v61 =>
              bif v61 then
                some (decide (a0.Var = (⟨#[]⟩ : ByteArray)))
              else
                some false
            else
              some false
          else
            bif decide (a0.Op = (6 : Int)) then
              bif decide ((a0.Parts.length : Int) = (2 : Int)) then
                Option.bind (spec_l8None a0.Atom) fun v61 =>
                bif v61 then
                  some (decide (a0.Var = (⟨#[]⟩ : ByteArray)))
                else
                  some false
              else
                some false
            else
              bif decide (a0.Op = (7 : Int)) then
                bif decide ((a0.Parts.length : Int) = (2 : Int)) then
                  Option.bind (spec_l8None a0.Atom) fun v61 =>
                  bif v61 then
                    some (decide (a0.Var = (⟨#[]⟩ : ByteArray)))
                  else
                    some false
                else
                  some false
              else
                bif decide (a0.Op = (8 : Int)) then
                  bif decide ((a0.Parts.length : Int) = (1 : Int)) then
                    Option.bind (spec_l8None a0.Atom) fun v76 =>
                    bif v76 then
                      Option.bind (spec_l2Var a0.Var) fun v81 =>
                      some v81
                    else
                      some false
                  else
                    some false
                else
                  bif decide (a0.Op = (9 : Int)) then
                    bif decide ((a0.Parts.length : Int) = (1 : Int)) then
                      Option.bind (spec_l8None a0.Atom) fun v76 =>
                      bif v76 then
                        Option.bind (spec_l2Var a0.Var) fun v81 =>
                        some v81
                      else
                        some false
                    else
                      some false
                  else
                    some false

def spec_l8FormsN : Nat → Formula → Option Bool
  | 0, _ => none
  | n + 1, a0 =>
    Option.bind (spec_l8Form a0) fun v5 =>
    bif v5 then
      thenL (ρ := Bool) (σ := Unit) (forN (fun (i4 : Nat) (s4 : Unit) =>
        Option.bind (idx a0.Parts (i4 : Int)) fun v17 =>
        Option.bind (spec_l8FormsN n v17) fun v19 =>
        bif v19 then
          some (.nx ())
        else
          some (.rt false)) a0.Parts.length 0 ()) fun s4 =>
      some true
    else
      some false
def spec_l8Forms (a0 : Formula) : Option Bool := lim fun n => spec_l8FormsN n a0

def spec_l8Good (a0 : Formula) : Option Bool :=
  Option.bind (spec_l8Many a0 (40 : Int)) fun v4 =>
  bif decide (v4 ≤ (40 : Int)) then
    Option.bind (spec_l8Forms a0) fun v8 =>
    some v8
  else
    some false

def spec_l18Side (a0 : List Formula) : Option Bool :=
  thenL (ρ := Bool) (σ := Unit) (forN (fun (i2 : Nat) (s2 : Unit) =>
    bif decide ((i2 : Int) ≤ (10 : Int)) then
      Option.bind (idx a0 (i2 : Int)) fun v16 =>
      Option.bind (spec_l8Good v16) fun v18 =>
      bif v18 then
        some (.nx ())
      else
        some (.rt false)
    else
      some (.rt (decide ((a0.length : Int) ≤ (10 : Int))))) a0.length 0 ()) fun s2 =>
  some (decide ((a0.length : Int) ≤ (10 : Int)))

def spec_l18Good (a0 : Sequent) : Option Bool :=
  Option.bind (spec_l18Side a0.Left) fun v5 =>
  bif v5 then
    Option.bind (spec_l18Side a0.Right) fun v9 =>
    some v9
  else
    some false

def spec_l17Quantifier (a0 : Formula) : Option Bool :=
  bif decide (a0.Op = (8 : Int)) then
    some true
  else
    some (decide (a0.Op = (9 : Int)))

def spec_l2SameN : Nat → Term → Term → Option Bool
  | 0, _, _ => none
  | n + 1, a0, a1 =>
    bif decide (a0.Name = a1.Name) then
      bif decide ((a0.Args.length : Int) = (a1.Args.length : Int)) then
        thenL (ρ := Bool) (σ := Unit) (forN (fun (i4 : Nat) (s4 : Unit) =>
          Option.bind (idx a0.Args (i4 : Int)) fun v30 =>
          Option.bind (idx a1.Args (i4 : Int)) fun v35 =>
          Option.bind (spec_l2SameN n v30 v35) fun v37 =>
          bif v37 then
            some (.nx ())
          else
            some (.rt false)) a0.Args.length 0 ()) fun s4 =>
        some true
      else
        some false
    else
      some false
def spec_l2Same (a0 : Term) (a1 : Term) : Option Bool := lim fun n => spec_l2SameN n a0 a1

def spec_l8SameN : Nat → Formula → Formula → Option Bool
  | 0, _, _ => none
  | n + 1, a0, a1 =>
    bif decide (a0.Op = a1.Op) then
      bif decide (a0.Var = a1.Var) then
        Option.bind (spec_l2Same a0.Atom a1.Atom) fun v23 =>
        bif v23 then
          bif decide ((a0.Parts.length : Int) = (a1.Parts.length : Int)) then
            thenL (ρ := Bool) (σ := Unit) (forN (fun (i4 : Nat) (s4 : Unit) =>
              Option.bind (idx a0.Parts (i4 : Int)) fun v45 =>
              Option.bind (idx a1.Parts (i4 : Int)) fun v50 =>
              Option.bind (spec_l8SameN n v45 v50) fun v52 =>
              bif v52 then
                some (.nx ())
              else
                some (.rt false)) a0.Parts.length 0 ()) fun s4 =>
            some true
          else
            some false
        else
          some false
      else
        some false
    else
      some false
def spec_l8Same (a0 : Formula) (a1 : Formula) : Option Bool := lim fun n => spec_l8SameN n a0 a1

def spec_l18Has (a0 : List Formula) (a1 : Formula) : Option Bool :=
  thenL (ρ := Bool) (σ := Unit) (forN (fun (i2 : Nat) (s2 : Unit) =>
    Option.bind (idx a0 (i2 : Int)) fun v14 =>
    Option.bind (spec_l8Same v14 a1) fun v17 =>
    bif v17 then
      some (.rt true)
    else
      some (.nx ())) a0.length 0 ()) fun s2 =>
  some false

def spec_l21IntoN : Nat → (List Formula) → Formula → Option (List Formula)
  | 0, _, _ => none
  | n + 1, a0, a1 =>
    bif decide (a1.Op = (3 : Int)) then
      Option.bind (spec_l18Has a0 a1) fun v15 =>
      bif v15 then
        some a0
      else
        Option.bind (app a0 ([a1])) fun v20 =>
        some v20
    else
      Option.bind (spec_l17Quantifier a1) fun v11 =>
      bif v11 then
        Option.bind (spec_l18Has a0 a1) fun v15 =>
        bif v15 then
          some a0
        else
          Option.bind (app a0 ([a1])) fun v20 =>
          some v20
      else
        thenL (ρ := (List Formula)) (σ := (List Formula)) (forN (fun (i6 : Nat) (s6 : (List Formula)) =>
          Option.bind (idx a1.Parts (i6 : Int)) fun v32 =>
          Option.bind (spec_l21IntoN n s6 v32) fun v34 =>
          some (.nx v34)) a1.Parts.length 0 a0) fun s6 =>
        some s6
def spec_l21Into (a0 : List Formula) (a1 : Formula) : Option (List Formula) := lim fun n => spec_l21IntoN n a0 a1

def spec_l21HoldsN : Nat → Formula → (List Formula) → Int → Option Bool
  | 0, _, _, _ => none
  | n + 1, a0, a1, a2 =>
    bif decide (a0.Op = (1 : Int)) then
      some (decide (a0.Op = (1 : Int)))
    else
      bif decide (a0.Op = (2 : Int)) then
        some (decide (a0.Op = (1 : Int)))
      else
        bif decide (a0.Op = (4 : Int)) then
          Option.bind (idx a0.Parts (0 : Int)) fun v20 =>
          Option.bind (spec_l21HoldsN n v20 a1 a2) fun v24 =>
          some (!v24)
        else
          bif decide (a0.Op = (5 : Int)) then
            Option.bind (idx a0.Parts (0 : Int)) fun v30 =>
            Option.bind (spec_l21HoldsN n v30 a1 a2) fun v34 =>
            bif v34 then
              Option.bind (idx a0.Parts (1 : Int)) fun v38 =>
              Option.bind (spec_l21HoldsN n v38 a1 a2) fun v42 =>
              some v42
            else
              some false
          else
            bif decide (a0.Op = (6 : Int)) then
              Option.bind (idx a0.Parts (0 : Int)) fun v48 =>
              Option.bind (spec_l21HoldsN n v48 a1 a2) fun v52 =>
              bif v52 then
                some true
              else
                Option.bind (idx a0.Parts (1 : Int)) fun v56 =>
                Option.bind (spec_l21HoldsN n v56 a1 a2) fun v60 =>
                some v60
            else
              bif decide (a0.Op = (7 : Int)) then
                Option.bind (idx a0.Parts (0 : Int)) fun v66 =>
                Option.bind (spec_l21HoldsN n v66 a1 a2) fun v70 =>
                bif v70 then
                  Option.bind (idx a0.Parts (1 : Int)) fun v75 =>
                  Option.bind (spec_l21HoldsN n v75 a1 a2) fun v79 =>
                  some v79
                else
                  some true
              else
                thenL (ρ := Bool) (σ := Unit) (forN (fun (i14 : Nat) (s14 : Unit) =>
                  Option.bind (idx a1 (i14 : Int)) fun v89 =>
                  Option.bind (spec_l8Same v89 a0) fun v92 =>
                  bif v92 then
                    Option.bind (shr .i64 a2 (IntKind.u64.wrap (i14 : Int))) fun v96 =>
                    some (.rt (decide ((bitand .i64 v96 (1 : Int)) = (1 : Int))))
                  else
                    some (.nx ())) a1.length 0 ()) fun s14 =>
                some false
def spec_l21Holds (a0 : Formula) (a1 : List Formula) (a2 : Int) : Option Bool := lim fun n => spec_l21HoldsN n a0 a1 a2

def spec_l21Sequent (a0 : Sequent) (a1 : List Formula) (a2 : Int) : Option Bool :=
  thenL (ρ := Bool) (σ := Unit) (forN (fun (i2 : Nat) (s2 : Unit) =>
    Option.bind (idx a0.Left (i2 : Int)) fun v19 =>
    Option.bind (spec_l21Holds v19 a1 a2) fun v23 =>
    bif v23 then
      some (.nx ())
    else
      some (.rt true)) a0.Left.length 0 ()) fun s2 =>
  thenL (ρ := Bool) (σ := Unit) (forN (fun (i7 : Nat) (s7 : Unit) =>
    Option.bind (idx a0.Right (i7 : Int)) fun v35 =>
    Option.bind (spec_l21Holds v35 a1 a2) fun v39 =>
    bif v39 then
      some (.rt true)
    else
      some (.nx ())) a0.Right.length 0 ()) fun s7 =>
  some false

def spec_AreContradictory (a0 : List Sequent) : Option (Bool × Bool) :=
  bif decide ((60 : Int) < (a0.length : Int)) then
    some (false, false)
  else
    thenL (ρ := (Bool × Bool)) (σ := (List Formula)) (forN (fun (i5 : Nat) (s5 : (List Formula)) =>
      Option.bind (idx a0 (i5 : Int)) fun v23 =>
      Option.bind (spec_l18Good v23) fun v25 =>
      bif v25 then
        thenL (ρ := (Flow (Bool × Bool) (List Formula))) (σ := (List Formula) × Int) (lim fun n10 => whileN (fun (s10 : (List Formula) × Int) =>
          Option.bind (idx a0 (i5 : Int)) fun v30 =>
          bif decide (s10.2 < (v30.Left.length : Int)) then
            Option.bind (idx a0 (i5 : Int)) fun v40 =>
            Option.bind (idx v40.Left s10.2) fun v44 =>
            Option.bind (spec_l21Into s10.1 v44) fun v46 =>
            some (.nx (v46, IntKind.i64.wrap (s10.2 + (1 : Int))))
          else
            some (.br s10)) n10 (s5, (0 : Int))) fun s10 =>
        thenL (ρ := (Flow (Bool × Bool) (List Formula))) (σ := (List Formula) × Int) (lim fun n14 => whileN (fun (s14 : (List Formula) × Int) =>
          Option.bind (idx a0 (i5 : Int)) fun v50 =>
          bif decide (s14.2 < (v50.Right.length : Int)) then
            Option.bind (idx a0 (i5 : Int)) fun v60 =>
            Option.bind (idx v60.Right s14.2) fun v64 =>
            Option.bind (spec_l21Into s14.1 v64) fun v66 =>
            some (.nx (v66, IntKind.i64.wrap (s14.2 + (1 : Int))))
          else
            some (.br s14)) n14 (s10.1, (0 : Int))) fun s14 =>
        some (.nx s14.1)
      else
        some (.rt (false, false))) a0.length 0 ([])) fun s5 =>
    bif decide ((12 : Int) < (s5.length : Int)) then
      some (false, false)
    else
      thenL (ρ := (Bool × Bool)) (σ := Int) (lim fun n20 => whileN (fun (s20 : Int) =>
        Option.bind (shl .i64 (1 : Int) (IntKind.u64.wrap (s5.length : Int))) fun v74 =>
        bif decide (s20 < v74) then
          thenL (ρ := (Flow (Bool × Bool) Int)) (σ := Bool) (forN (fun (i24 : Nat) (s24 : Bool) =>
            bif s24 then
              Option.bind (idx a0 (i24 : Int)) fun v89 =>
              Option.bind (spec_l21Sequent v89 s5 s20) fun v93 =>
              some (.nx v93)
            else
              some (.rt (.nx (IntKind.i64.wrap (s20 + (1 : Int)))))) a0.length 0 true) fun s24 =>
          bif s24 then
            some (.rt (false, true))
          else
            some (.nx (IntKind.i64.wrap (s20 + (1 : Int))))
        else
          some (.br s20)) n20 (0 : Int)) fun s20 =>
      some (true, true)

def impl_sizeOfN : Nat → Formula → Option Int
  | 0, _ => none
  | n + 1, a0 =>
    thenL (ρ := Int) (σ := Int) (forN (fun (i3 : Nat) (s3 : Int) =>
      Option.bind (idx a0.Parts (i3 : Int)) fun v11 =>
      bif decide ((40 : Int) < s3) then
        some (.rt s3)
      else
        Option.bind (impl_sizeOfN n v11) fun v18 =>
        some (.nx (IntKind.i64.wrap (s3 + v18)))) a0.Parts.length 0 (1 : Int)) fun s3 =>
    some s3
def impl_sizeOf (a0 : Formula) : Option Int := lim fun n => impl_sizeOfN n a0

def impl_isQuantifier (a0 : Int) : Option Bool :=
  bif decide (a0 = (8 : Int)) then
    some true
  else
    some (decide (a0 = (9 : Int)))

def impl_isBinary (a0 : Int) : Option Bool :=
  bif decide (a0 = (5 : Int)) then
    some true
  else
    bif decide (a0 = (6 : Int)) then
      some true
    else
      some (decide (a0 = (7 : Int)))

def impl_isUpper (a0 : Int) : Option Bool :=
  bif decide ((65 : Int) ≤ a0) then
    some (decide (a0 ≤ (90 : Int)))
  else
    some false

def impl_isLower (a0 : Int) : Option Bool :=
  bif decide ((97 : Int) ≤ a0) then
    some (decide (a0 ≤ (122 : Int)))
  else
    some false

def impl_isDigit (a0 : Int) : Option Bool :=
  bif decide ((48 : Int) ≤ a0) then
    some (decide (a0 ≤ (57 : Int)))
  else
    some false

def impl_within (a0 : Int) (a1 : Int) (a2 : Int) : Option Bool :=
  bif decide (a1 ≤ a0) then
    some (decide (a0 ≤ a2))
  else
    some false

def impl_isVariable (a0 : ByteArray) : Option Bool :=
  Option.bind (bnd (a0.size : Int)) fun N2 =>
  thenL (ρ := Bool) (σ := Unit) (forN (fun (i2 : Nat) (s2 : Unit) =>
    bif decide ((i2 : Int) = (0 : Int)) then
      Option.bind (sidx a0 (i2 : Int)) fun v14 =>
      Option.bind (impl_isUpper v14) fun v15 =>
      bif v15 then
        bif decide ((0 : Int) < (i2 : Int)) then
          Option.bind (sidx a0 (i2 : Int)) fun v24 =>
          Option.bind (impl_isLower v24) fun v25 =>
          bif v25 then
            some (.nx ())
          else
            Option.bind (sidx a0 (i2 : Int)) fun v31 =>
            Option.bind (impl_isDigit v31) fun v32 =>
            bif v32 then
              some (.nx ())
            else
              some (.rt false)
        else
          some (.nx ())
      else
        some (.rt false)
    else
      bif decide ((0 : Int) < (i2 : Int)) then
        Option.bind (sidx a0 (i2 : Int)) fun v24 =>
        Option.bind (impl_isLower v24) fun v25 =>
        bif v25 then
          some (.nx ())
        else
          Option.bind (sidx a0 (i2 : Int)) fun v31 =>
          Option.bind (impl_isDigit v31) fun v32 =>
          bif v32 then
            some (.nx ())
          else
            some (.rt false)
      else
        some (.nx ())) N2 0 ()) fun s2 =>
  Option.bind (impl_within (a0.size : Int) (1 : Int) (4 : Int)) fun v39 =>
  some v39

def impl_isEquality (a0 : Term) : Option Bool :=
  some (decide (a0.Name = (⟨#[61]⟩ : ByteArray)))

def impl_sizeN : Nat → Term → Option Int
  | 0, _ => none
  | n + 1, a0 =>
    thenL (ρ := Int) (σ := Int) (forN (fun (i3 : Nat) (s3 : Int) =>
      Option.bind (idx a0.Args (i3 : Int)) fun v11 =>
      bif decide ((30 : Int) < s3) then
        some (.rt s3)
      else
        Option.bind (impl_sizeN n v11) fun v18 =>
        some (.nx (IntKind.i64.wrap (s3 + v18)))) a0.Args.length 0 (1 : Int)) fun s3 =>
    some s3
def impl_size (a0 : Term) : Option Int := lim fun n => impl_sizeN n a0

def impl_depthN : Nat → Term → Option Int
  | 0, _ => none
  | n + 1, a0 =>
    thenL (ρ := Int) (σ := Int) (forN (fun (i3 : Nat) (s3 : Int) =>
      Option.bind (idx a0.Args (i3 : Int)) fun v11 =>
      Option.bind (impl_depthN n v11) fun v15 =>
      some (.nx (max s3 v15))) a0.Args.length 0 (0 : Int)) fun s3 =>
    some (IntKind.i64.wrap (s3 + (1 : Int)))
def impl_depth (a0 : Term) : Option Int := lim fun n => impl_depthN n a0

def impl_isSmall (a0 : Term) : Option Bool :=
  Option.bind (impl_size a0) fun v4 =>
  bif decide (v4 ≤ (30 : Int)) then
    Option.bind (impl_depth a0) fun v8 =>
    some (decide (v8 ≤ (8 : Int)))
  else
    some false

def impl_reserved  : Option (List ByteArray) :=
  some ([(⟨#[116, 114, 117, 101]⟩ : ByteArray), (⟨#[102, 97, 108, 115, 101]⟩ : ByteArray), (⟨#[116, 114, 117, 116, 104]⟩ : ByteArray), (⟨#[98, 111, 116, 104]⟩ : ByteArray), (⟨#[101, 105, 116, 104, 101, 114]⟩ : ByteArray), (⟨#[105, 102]⟩ : ByteArray), (⟨#[97, 108, 108]⟩ : ByteArray), (⟨#[115, 111, 109, 101]⟩ : ByteArray)])

def slices_Index_Sstring_string (a0 : List ByteArray) (a1 : ByteArray) : Option Int :=
  thenL (ρ := Int) (σ := Unit) (forN (fun (i2 : Nat) (s2 : Unit) =>
    Option.bind (idx a0 (i2 : Int)) fun v14 =>
    bif decide (a1 = v14) then
      some (.rt (i2 : Int))
    else
      some (.nx ())) a0.length 0 ()) fun s2 =>
  some (-1 : Int)

def slices_Contains_Sstring_string (a0 : List ByteArray) (a1 : ByteArray) : Option Bool :=
  Option.bind (slices_Index_Sstring_string a0 a1) fun v7 =>
  some (decide ((0 : Int) ≤ v7))

def impl_isSymbol (a0 : ByteArray) : Option Bool :=
  Option.bind (bnd (a0.size : Int)) fun N2 =>
  thenL (ρ := Bool) (σ := Unit) (forN (fun (i2 : Nat) (s2 : Unit) =>
    bif decide ((i2 : Int) = (0 : Int)) then
      Option.bind (sidx a0 (i2 : Int)) fun v14 =>
      Option.bind (impl_isLower v14) fun v15 =>
      bif v15 then
        Option.bind (sidx a0 (i2 : Int)) fun v21 =>
        Option.bind (impl_isLower v21) fun v22 =>
        bif v22 then
          some (.nx ())
        else
          Option.bind (sidx a0 (i2 : Int)) fun v27 =>
          Option.bind (impl_isDigit v27) fun v28 =>
          bif v28 then
            some (.nx ())
          else
            Option.bind (sidx a0 (i2 : Int)) fun v34 =>
            bif decide (v34 = (95 : Int)) then
              some (.nx ())
            else
              some (.rt false)
      else
        some (.rt false)
    else
      Option.bind (sidx a0 (i2 : Int)) fun v21 =>
      Option.bind (impl_isLower v21) fun v22 =>
      bif v22 then
        some (.nx ())
      else
        Option.bind (sidx a0 (i2 : Int)) fun v27 =>
        Option.bind (impl_isDigit v27) fun v28 =>
        bif v28 then
          some (.nx ())
        else
          Option.bind (sidx a0 (i2 : Int)) fun v34 =>
          bif decide (v34 = (95 : Int)) then
            some (.nx ())
          else
            some (.rt false)) N2 0 ()) fun s2 =>
  Option.bind (impl_within (a0.size : Int) (1 : Int) (6 : Int)) fun v41 =>
  bif v41 then
    Option.bind (impl_reserved ) fun v43 =>
    Option.bind (slices_Contains_Sstring_string v43 a0) fun v45 =>
    some (!v45)
  else
    some false

def slices_IndexFunc_Simpl_Term_impl_Term (a0 : List Term) (a1 : Term → Option Bool) : Option Int :=
  thenL (ρ := Int) (σ := Unit) (forN (fun (i2 : Nat) (s2 : Unit) =>
    Option.bind (idx a0 (i2 : Int)) fun v14 =>
    Option.bind (a1 v14) fun v16 =>
    bif v16 then
      some (.rt (i2 : Int))
    else
      some (.nx ())) a0.length 0 ()) fun s2 =>
  some (-1 : Int)

def slices_ContainsFunc_Simpl_Term_impl_Term (a0 : List Term) (a1 : Term → Option Bool) : Option Bool :=
  Option.bind (slices_IndexFunc_Simpl_Term_impl_Term a0 a1) fun v7 =>
  some (decide ((0 : Int) ≤ v7))

mutual
def impl_hasNamesN : Nat → Term → Option Bool
  | 0, _ => none
  | n + 1, a0 =>
    Option.bind (impl_isVariable a0.Name) fun v5 =>
    bif v5 then
      some (decide ((a0.Args.length : Int) = (0 : Int)))
    else
      Option.bind (impl_isSymbol a0.Name) fun v12 =>
      bif v12 then
        bif decide ((a0.Args.length : Int) ≤ (4 : Int)) then
          Option.bind (slices_ContainsFunc_Simpl_Term_impl_Term a0.Args (fun y0 => impl_hasNames_1N n y0)) fun v22 =>
          some (!v22)
        else
          some false
      else
        some false
def impl_hasNames_1N : Nat → Term → Option Bool
  | 0, _ => none
  | n + 1, a0 =>
    Option.bind (impl_hasNamesN n a0) fun v4 =>
    some (!v4)
end
def impl_hasNames (a0 : Term) : Option Bool := lim fun n => impl_hasNamesN n a0
def impl_hasNames_1 (a0 : Term) : Option Bool := lim fun n => impl_hasNames_1N n a0

def impl_IsValidTerm (a0 : Term) : Option Bool :=
  Option.bind (impl_isSmall a0) fun v4 =>
  bif v4 then
    Option.bind (impl_hasNames a0) fun v7 =>
    some v7
  else
    some false

def impl_IsValidAtom (a0 : Term) : Option Bool :=
  Option.bind (impl_isEquality a0) fun v4 =>
  bif v4 then
    bif decide ((a0.Args.length : Int) = (2 : Int)) then
      Option.bind (impl_isSmall a0) fun v11 =>
      bif v11 then
        Option.bind (idx a0.Args (0 : Int)) fun v16 =>
        Option.bind (impl_hasNames v16) fun v18 =>
        bif v18 then
          Option.bind (idx a0.Args (1 : Int)) fun v23 =>
          Option.bind (impl_hasNames v23) fun v25 =>
          some v25
        else
          some false
      else
        some false
    else
      some false
  else
    Option.bind (impl_isSymbol a0.Name) fun v29 =>
    bif v29 then
      Option.bind (impl_IsValidTerm a0) fun v32 =>
      some v32
    else
      some false

def impl_isZeroTerm (a0 : Term) : Option Bool :=
  bif decide (a0.Name = (⟨#[]⟩ : ByteArray)) then
    some (decide ((a0.Args.length : Int) = (0 : Int)))
  else
    some false

def slices_IndexFunc_Simpl_Formula_impl_Formula (a0 : List Formula) (a1 : Formula → Option Bool) : Option Int :=
  thenL (ρ := Int) (σ := Unit) (forN (fun (i2 : Nat) (s2 : Unit) =>
    Option.bind (idx a0 (i2 : Int)) fun v14 =>
    Option.bind (a1 v14) fun v16 =>
    bif v16 then
      some (.rt (i2 : Int))
    else
      some (.nx ())) a0.length 0 ()) fun s2 =>
  some (-1 : Int)

def slices_ContainsFunc_Simpl_Formula_impl_Formula (a0 : List Formula) (a1 : Formula → Option Bool) : Option Bool :=
  Option.bind (slices_IndexFunc_Simpl_Formula_impl_Formula a0 a1) fun v7 =>
  some (decide ((0 : Int) ≤ v7))

mutual
def impl_hasFormN : Nat → Formula → Option Bool
  | 0, _ => none
  | n + 1, a0 =>
    bif decide (a0.Op = (1 : Int)) then
      bif decide ((a0.Parts.length : Int) = (0 : Int)) then
        Option.bind (impl_isQuantifier a0.Op) fun v33 =>
        bif v33 then
          Option.bind (impl_isVariable a0.Var) fun v37 =>
          bif v37 then
            Option.bind (impl_isQuantifier a0.Op) fun v44 =>
            bif v44 then
              bif decide (a0.Op = (3 : Int)) then
                Option.bind (impl_IsValidAtom a0.Atom) fun v58 =>
                bif v58 then
                  Option.bind (slices_ContainsFunc_Simpl_Formula_impl_Formula a0.Parts (fun y0 => impl_hasForm_1N n y0)) fun v74 =>
                  some (!v74)
                else
                  some false
              else
                Option.bind (impl_isZeroTerm a0.Atom) fun v68 =>
                bif v68 then
                  Option.bind (slices_ContainsFunc_Simpl_Formula_impl_Formula a0.Parts (fun y0 => impl_hasForm_1N n y0)) fun v74 =>
                  some (!v74)
                else
                  some false
            else
              bif decide (a0.Var = (⟨#[]⟩ : ByteArray)) then
                bif decide (a0.Op = (3 : Int)) then
                  Option.bind (impl_IsValidAtom a0.Atom) fun v58 =>
                  bif v58 then
                    Option.bind (slices_ContainsFunc_Simpl_Formula_impl_Formula a0.Parts (fun y0 => impl_hasForm_1N n y0)) fun v74 =>
                    some (!v74)
                  else
                    some false
                else
                  Option.bind (impl_isZeroTerm a0.Atom) fun v68 =>
                  bif v68 then
                    Option.bind (slices_ContainsFunc_Simpl_Formula_impl_Formula a0.Parts (fun y0 => impl_hasForm_1N n y0)) fun v74 =>
                    some (!v74)
                  else
                    some false
              else
                some false
          else
            some false
        else
          Option.bind (impl_isQuantifier a0.Op) fun v44 =>
          bif v44 then
            bif decide (a0.Op = (3 : Int)) then
              Option.bind (impl_IsValidAtom a0.Atom) fun v58 =>
              bif v58 then
                Option.bind (slices_ContainsFunc_Simpl_Formula_impl_Formula a0.Parts (fun y0 => impl_hasForm_1N n y0)) fun v74 =>
                some (!v74)
              else
                some false
            else
              Option.bind (impl_isZeroTerm a0.Atom) fun v68 =>
              bif v68 then
                Option.bind (slices_ContainsFunc_Simpl_Formula_impl_Formula a0.Parts (fun y0 => impl_hasForm_1N n y0)) fun v74 =>
                some (!v74)
              else
                some false
          else
            bif decide (a0.Var = (⟨#[]⟩ : ByteArray)) then
              bif decide (a0.Op = (3 : Int)) then
                Option.bind (impl_IsValidAtom a0.Atom) fun v58 =>
                bif v58 then
                  Option.bind (slices_ContainsFunc_Simpl_Formula_impl_Formula a0.Parts (fun y0 => impl_hasForm_1N n y0)) fun v74 =>
                  some (!v74)
                else
                  some false
              else
                Option.bind (impl_isZeroTerm a0.Atom) fun v68 =>
                bif v68 then
                  Option.bind (slices_ContainsFunc_Simpl_Formula_impl_Formula a0.Parts (fun y0 => impl_hasForm_1N n y0)) fun v74 =>
                  some (!v74)
                else
                  some false
            else
              some false
      else
        some false
    else
      bif decide (a0.Op = (2 : Int)) then
        bif decide ((a0.Parts.length : Int) = (0 : Int)) then
          Option.bind (impl_isQuantifier a0.Op) fun v33 =>
          bif v33 then
            Option.bind (impl_isVariable a0.Var) fun v37 =>
            bif v37 then
              Option.bind (impl_isQuantifier a0.Op) fun v44 =>
              bif v44 then
                bif decide (a0.Op = (3 : Int)) then
                  Option.bind (impl_IsValidAtom a0.Atom) fun v58 =>
                  bif v58 then
                    Option.bind (slices_ContainsFunc_Simpl_Formula_impl_Formula a0.Parts (fun y0 => impl_hasForm_1N n y0)) fun v74 =>
                    some (!v74)
                  else
                    some false
                else
                  Option.bind (impl_isZeroTerm a0.Atom) fun v68 =>
                  bif v68 then
                    Option.bind (slices_ContainsFunc_Simpl_Formula_impl_Formula a0.Parts (fun y0 => impl_hasForm_1N n y0)) fun v74 =>
                    some (!v74)
                  else
                    some false
              else
                bif decide (a0.Var = (⟨#[]⟩ : ByteArray)) then
                  bif decide (a0.Op = (3 : Int)) then
                    Option.bind (impl_IsValidAtom a0.Atom) fun v58 =>
                    bif v58 then
                      Option.bind (slices_ContainsFunc_Simpl_Formula_impl_Formula a0.Parts (fun y0 => impl_hasForm_1N n y0)) fun v74 =>
                      some (!v74)
                    else
                      some false
                  else
                    Option.bind (impl_isZeroTerm a0.Atom) fun v68 =>
                    bif v68 then
                      Option.bind (slices_ContainsFunc_Simpl_Formula_impl_Formula a0.Parts (fun y0 => impl_hasForm_1N n y0)) fun v74 =>
                      some (!v74)
                    else
                      some false
                else
                  some false
            else
              some false
          else
            Option.bind (impl_isQuantifier a0.Op) fun v44 =>
            bif v44 then
              bif decide (a0.Op = (3 : Int)) then
                Option.bind (impl_IsValidAtom a0.Atom) fun v58 =>
                bif v58 then
                  Option.bind (slices_ContainsFunc_Simpl_Formula_impl_Formula a0.Parts (fun y0 => impl_hasForm_1N n y0)) fun v74 =>
                  some (!v74)
                else
                  some false
              else
                Option.bind (impl_isZeroTerm a0.Atom) fun v68 =>
                bif v68 then
                  Option.bind (slices_ContainsFunc_Simpl_Formula_impl_Formula a0.Parts (fun y0 => impl_hasForm_1N n y0)) fun v74 =>
                  some (!v74)
                else
                  some false
            else
              bif decide (a0.Var = (⟨#[]⟩ : ByteArray)) then
                bif decide (a0.Op = (3 : Int)) then
                  Option.bind (impl_IsValidAtom a0.Atom) fun v58 =>
                  bif v58 then
                    Option.bind (slices_ContainsFunc_Simpl_Formula_impl_Formula a0.Parts (fun y0 => impl_hasForm_1N n y0)) fun v74 =>
                    some (!v74)
                  else
                    some false
                else
                  Option.bind (impl_isZeroTerm a0.Atom) fun v68 =>
                  bif v68 then
                    Option.bind (slices_ContainsFunc_Simpl_Formula_impl_Formula a0.Parts (fun y0 => impl_hasForm_1N n y0)) fun v74 =>
                    some (!v74)
                  else
                    some false
              else
                some false
        else
          some false
      else
        bif decide (a0.Op = (3 : Int)) then
          bif decide ((a0.Parts.length : Int) = (0 : Int)) then
            Option.bind (impl_isQuantifier a0.Op) fun v33 =>
            bif v33 then
              Option.bind (impl_isVariable a0.Var) fun v37 =>
              bif v37 then
                Option.bind (impl_isQuantifier a0.Op) fun v44 =>
                bif v44 then
                  Option.bind (impl_IsValidAtom a0.Atom) fun v58 =>
                  bif v58 then
                    Option.bind (slices_ContainsFunc_Simpl_Formula_impl_Formula a0.Parts (fun y0 => impl_hasForm_1N n y0)) fun v74 =>
                    some (!v74)
                  else
                    some false
                else
                  bif decide (a0.Var = (⟨#[]⟩ : ByteArray)) then
                    Option.bind (impl_IsValidAtom a0.Atom) fun v58 =>
                    bif v58 then
                      Option.bind (slices_ContainsFunc_Simpl_Formula_impl_Formula a0.Parts (fun y0 => impl_hasForm_1N n y0)) fun v74 =>
                      some (!v74)
                    else
                      some false
                  else
                    some false
              else
                some false
            else
              Option.bind (impl_isQuantifier a0.Op) fun v44 =>
              bif v44 then
                Option.bind (impl_IsValidAtom a0.Atom) fun v58 =>
                bif v58 then
                  Option.bind (slices_ContainsFunc_Simpl_Formula_impl_Formula a0.Parts (fun y0 => impl_hasForm_1N n y0)) fun v74 =>
                  some (!v74)
                else
                  some false
              else
                bif decide (a0.Var = (⟨#[]⟩ : ByteArray)) then
                  Option.bind (impl_IsValidAtom a0.Atom) fun v58 =>
                  bif v58 then
                    Option.bind (slices_ContainsFunc_Simpl_Formula_impl_Formula a0.Parts (fun y0 => impl_hasForm_1N n y0)) fun v74 =>
                    some (!v74)
                  else
                    some false
                else
                  some false
          else
            some false
        else
          bif decide (a0.Op = (4 : Int)) then
            bif decide ((a0.Parts.length : Int) = (1 : Int)) then
              Option.bind (impl_isQuantifier a0.Op) fun v33 =>
              bif v33 then
                Option.bind (impl_isVariable a0.Var) fun v37 =>
                bif v37 then
                  Option.bind (impl_isQuantifier a0.Op) fun v44 =>
                  bif v44 then
                    Option.bind (impl_isZeroTerm a0.Atom) fun v68 =>
                    bif v68 then
                      Option.bind (slices_ContainsFunc_Simpl_Formula_impl_Formula a0.Parts (fun y0 => impl_hasForm_1N n y0)) fun v74 =>
                      some (!v74)
                    else
                      some false
                  else
                    bif decide (a0.Var = (⟨#[]⟩ : ByteArray)) then
                      Option.bind (impl_isZeroTerm a0.Atom) fun v68 =>
                      bif v68 then
                        Option.bind (slices_ContainsFunc_Simpl_Formula_impl_Formula a0.Parts (fun y0 => impl_hasForm_1N n y0)) fun v74 =>
                        some (!v74)
                      else
                        some false
                    else
                      some false
                else
                  some false
              else
                Option.bind (impl_isQuantifier a0.Op) fun v44 =>
                bif v44 then
                  Option.bind (impl_isZeroTerm a0.Atom) fun v68 =>
                  bif v68 then
                    Option.bind (slices_ContainsFunc_Simpl_Formula_impl_Formula a0.Parts (fun y0 => impl_hasForm_1N n y0)) fun v74 =>
                    some (!v74)
                  else
                    some false
                else
                  bif decide (a0.Var = (⟨#[]⟩ : ByteArray)) then
                    Option.bind (impl_isZeroTerm a0.Atom) fun v68 =>
                    bif v68 then
                      Option.bind (slices_ContainsFunc_Simpl_Formula_impl_Formula a0.Parts (fun y0 => impl_hasForm_1N n y0)) fun v74 =>
                      some (!v74)
                    else
                      some false
                  else
                    some false
            else
              some false
          else
            Option.bind (impl_isQuantifier a0.Op) fun v20 =>
            bif v20 then
              bif decide ((a0.Parts.length : Int) = (1 : Int)) then
                Option.bind (impl_isQuantifier a0.Op) fun v33 =>
                bif v33 then
                  Option.bind (impl_isVariable a0.Var) fun v37 =>
                  bif v37 then
                    Option.bind (impl_isQuantifier a0.Op) fun v44 =>
                    bif v44 then
                      Option.bind (impl_isZeroTerm a0.Atom) fun v68 =>
                      bif v68 then
                        Option.bind (slices_ContainsFunc_Simpl_Formula_impl_Formula a0.Parts (fun y0 => impl_hasForm_1N n y0)) fun v74 =>
                        some (!v74)
                      else
                        some false
                    else
                      bif decide (a0.Var = (⟨#[]⟩ : ByteArray)) then
                        Option.bind (impl_isZeroTerm a0.Atom) fun v68 =>
                        bif v68 then
                          Option.bind (slices_ContainsFunc_Simpl_Formula_impl_Formula a0.Parts (fun y0 => impl_hasForm_1N n y0)) fun v74 =>
                          some (!v74)
                        else
                          some false
                      else
                        some false
                  else
                    some false
                else
                  Option.bind (impl_isQuantifier a0.Op) fun v44 =>
                  bif v44 then
                    Option.bind (impl_isZeroTerm a0.Atom) fun v68 =>
                    bif v68 then
                      Option.bind (slices_ContainsFunc_Simpl_Formula_impl_Formula a0.Parts (fun y0 => impl_hasForm_1N n y0)) fun v74 =>
                      some (!v74)
                    else
                      some false
                  else
                    bif decide (a0.Var = (⟨#[]⟩ : ByteArray)) then
                      Option.bind (impl_isZeroTerm a0.Atom) fun v68 =>
                      bif v68 then
                        Option.bind (slices_ContainsFunc_Simpl_Formula_impl_Formula a0.Parts (fun y0 => impl_hasForm_1N n y0)) fun v74 =>
                        some (!v74)
                      else
                        some false
                    else
                      some false
              else
                some false
            else
              Option.bind (impl_isBinary a0.Op) fun v24 =>
              bif v24 then
                bif decide ((a0.Parts.length : Int) = (2 : Int)) then
                  Option.bind (impl_isQuantifier a0.Op) fun v33 =>
                  bif v33 then
                    Option.bind (impl_isVariable a0.Var) fun v37 =>
                    bif v37 then
                      Option.bind (impl_isQuantifier a0.Op) fun v44 =>
                      bif v44 then
                        Option.bind (impl_isZeroTerm a0.Atom) fun v68 =>
                        bif v68 then
                          Option.bind (slices_ContainsFunc_Simpl_Formula_impl_Formula a0.Parts (fun y0 => impl_hasForm_1N n y0)) fun v74 =>
                          some (!v74)
                        else
                          some false
                      else
                        bif decide (a0.Var = (⟨#[]⟩ : ByteArray)) then
                          Option.bind (impl_isZeroTerm a0.Atom) fun v68 =>
                          bif v68 then
                            Option.bind (slices_ContainsFunc_Simpl_Formula_impl_Formula a0.Parts (fun y0 => impl_hasForm_1N n y0)) fun v74 =>
                            some (!v74)
                          else
                            some false
                        else
                          some false
                    else
                      some false
                  else
                    Option.bind (impl_isQuantifier a0.Op) fun v44 =>
                    bif v44 then
                      Option.bind (impl_isZeroTerm a0.Atom) fun v68 =>
                      bif v68 then
                        Option.bind (slices_ContainsFunc_Simpl_Formula_impl_Formula a0.Parts (fun y0 => impl_hasForm_1N n y0)) fun v74 =>
                        some (!v74)
                      else
                        some false
                    else
                      bif decide (a0.Var = (⟨#[]⟩ : ByteArray)) then
                        Option.bind (impl_isZeroTerm a0.Atom) fun v68 =>
                        bif v68 then
                          Option.bind (slices_ContainsFunc_Simpl_Formula_impl_Formula a0.Parts (fun y0 => impl_hasForm_1N n y0)) fun v74 =>
                          some (!v74)
                        else
                          some false
                      else
                        some false
                else
                  some false
              else
                some false
def impl_hasForm_1N : Nat → Formula → Option Bool
  | 0, _ => none
  | n + 1, a0 =>
    Option.bind (impl_hasFormN n a0) fun v4 =>
    some (!v4)
end
def impl_hasForm (a0 : Formula) : Option Bool := lim fun n => impl_hasFormN n a0
def impl_hasForm_1 (a0 : Formula) : Option Bool := lim fun n => impl_hasForm_1N n a0

def impl_IsValidFormula (a0 : Formula) : Option Bool :=
  Option.bind (impl_sizeOf a0) fun v4 =>
  bif decide (v4 ≤ (40 : Int)) then
    Option.bind (impl_hasForm a0) fun v8 =>
    some v8
  else
    some false

def impl_IsValidSequent_1 (a0 : Formula) : Option Bool :=
  Option.bind (impl_IsValidFormula a0) fun v4 =>
  some (!v4)

def impl_IsValidSequent (a0 : Sequent) : Option Bool :=
  bif decide ((a0.Left.length : Int) ≤ (10 : Int)) then
    bif decide ((a0.Right.length : Int) ≤ (10 : Int)) then
      Option.bind (slices_ContainsFunc_Simpl_Formula_impl_Formula a0.Left (fun y0 => impl_IsValidSequent_1 y0)) fun v18 =>
      bif v18 then
        some false
      else
        Option.bind (slices_ContainsFunc_Simpl_Formula_impl_Formula a0.Right (fun y0 => impl_IsValidSequent_1 y0)) fun v25 =>
        some (!v25)
    else
      some false
  else
    some false

def impl_AreContradictory_1 (a0 : Sequent) : Option Bool :=
  Option.bind (impl_IsValidSequent a0) fun v4 =>
  some (!v4)

def slices_IndexFunc_Simpl_Sequent_impl_Sequent (a0 : List Sequent) (a1 : Sequent → Option Bool) : Option Int :=
  thenL (ρ := Int) (σ := Unit) (forN (fun (i2 : Nat) (s2 : Unit) =>
    Option.bind (idx a0 (i2 : Int)) fun v14 =>
    Option.bind (a1 v14) fun v16 =>
    bif v16 then
      some (.rt (i2 : Int))
    else
      some (.nx ())) a0.length 0 ()) fun s2 =>
  some (-1 : Int)

def slices_ContainsFunc_Simpl_Sequent_impl_Sequent (a0 : List Sequent) (a1 : Sequent → Option Bool) : Option Bool :=
  Option.bind (slices_IndexFunc_Simpl_Sequent_impl_Sequent a0 a1) fun v7 =>
  some (decide ((0 : Int) ≤ v7))

def slices_Grow_Simpl_Formula_impl_Formula_nil0 (a1 : Int) : Option (List Formula) :=
  bif decide (a1 < (0 : Int)) then
    none
  else
    bif decide ((0 : Int) < (IntKind.i64.wrap (a1 - (IntKind.i64.wrap ((0 : Int) - (([] : List Nat).length : Int)))))) then
      Option.bind (appz (IntKind.i64.wrap (a1 - (IntKind.i64.wrap ((0 : Int) - (([] : List Nat).length : Int)))))) fun n22 =>
      Option.bind (slc (List.replicate n22 (Formula.mk (0 : Int) (Term.mk (⟨#[]⟩ : ByteArray) ([])) (⟨#[]⟩ : ByteArray) ([]))) (0 : Int) (([] : List Nat).length : Int)) fun v25 =>
      some v25
    else
      some ([])

def slices_Concat_Simpl_Formula_impl_Formula (a0 : List (List Formula)) : Option (List Formula) :=
  thenL (ρ := (List Formula)) (σ := Int) (forN (fun (i3 : Nat) (s3 : Int) =>
    Option.bind (idx a0 (i3 : Int)) fun v13 =>
    bif decide ((IntKind.i64.wrap (s3 + (v13.length : Int))) < (0 : Int)) then
      none
    else
      some (.nx (IntKind.i64.wrap (s3 + (v13.length : Int))))) a0.length 0 (0 : Int)) fun s3 =>
  Option.bind (slices_Grow_Simpl_Formula_impl_Formula_nil0 s3) fun v24 =>
  thenL (ρ := (List Formula)) (σ := (List Formula)) (forN (fun (i11 : Nat) (s11 : (List Formula)) =>
    Option.bind (idx a0 (i11 : Int)) fun v29 =>
    Option.bind (app s11 v29) fun v33 =>
    some (.nx v33)) a0.length 0 v24) fun s11 =>
  some s11

def slices_EqualFunc_Simpl_Term_Simpl_Term_impl_Term_impl_Term (a0 : List Term) (a1 : List Term) (a2 : Term → Term → Option Bool) : Option Bool :=
  bif decide ((a0.length : Int) = (a1.length : Int)) then
    thenL (ρ := Bool) (σ := Unit) (forN (fun (i4 : Nat) (s4 : Unit) =>
      Option.bind (idx a0 (i4 : Int)) fun v20 =>
      Option.bind (idx a1 (i4 : Int)) fun v24 =>
      Option.bind (a2 v20 v24) fun v29 =>
      bif v29 then
        some (.nx ())
      else
        some (.rt false)) a0.length 0 ()) fun s4 =>
    some true
  else
    some false

def impl_EqualTermsN : Nat → Term → Term → Option Bool
  | 0, _, _ => none
  | n + 1, a0, a1 =>
    bif decide (a0.Name = a1.Name) then
      Option.bind (slices_EqualFunc_Simpl_Term_Simpl_Term_impl_Term_impl_Term a0.Args a1.Args (fun y0 y1 => impl_EqualTermsN n y0 y1)) fun v15 =>
      some v15
    else
      some false
def impl_EqualTerms (a0 : Term) (a1 : Term) : Option Bool := lim fun n => impl_EqualTermsN n a0 a1

def slices_EqualFunc_Simpl_Formula_Simpl_Formula_impl_Formula_impl_Formula (a0 : List Formula) (a1 : List Formula) (a2 : Formula → Formula → Option Bool) : Option Bool :=
  bif decide ((a0.length : Int) = (a1.length : Int)) then
    thenL (ρ := Bool) (σ := Unit) (forN (fun (i4 : Nat) (s4 : Unit) =>
      Option.bind (idx a0 (i4 : Int)) fun v20 =>
      Option.bind (idx a1 (i4 : Int)) fun v24 =>
      Option.bind (a2 v20 v24) fun v29 =>
      bif v29 then
        some (.nx ())
      else
        some (.rt false)) a0.length 0 ()) fun s4 =>
    some true
  else
    some false

def impl_sameFormulaN : Nat → Formula → Formula → Option Bool
  | 0, _, _ => none
  | n + 1, a0, a1 =>
    bif decide (a0.Op = a1.Op) then
      Option.bind (impl_EqualTerms a0.Atom a1.Atom) fun v15 =>
      bif v15 then
        bif decide (a0.Var = a1.Var) then
          Option.bind (slices_EqualFunc_Simpl_Formula_Simpl_Formula_impl_Formula_impl_Formula a0.Parts a1.Parts (fun y0 y1 => impl_sameFormulaN n y0 y1)) fun v29 =>
          some v29
        else
          some false
      else
        some false
    else
      some false
def impl_sameFormula (a0 : Formula) (a1 : Formula) : Option Bool := lim fun n => impl_sameFormulaN n a0 a1

def impl_leaves_1 (a0 : Formula) (b0 : Formula) : Option Bool :=
  Option.bind (impl_sameFormula b0 a0) fun v6 =>
  some v6

def impl_leavesN : Nat → (List Formula) → Formula → Option (List Formula)
  | 0, _, _ => none
  | n + 1, a0, a1 =>
    bif decide (a1.Op = (3 : Int)) then
      Option.bind (slices_ContainsFunc_Simpl_Formula_impl_Formula a0 (fun y0 => impl_leaves_1 y0 a1)) fun v17 =>
      bif v17 then
        some a0
      else
        Option.bind (app a0 ([a1])) fun v22 =>
        some v22
    else
      Option.bind (impl_isQuantifier a1.Op) fun v13 =>
      bif v13 then
        Option.bind (slices_ContainsFunc_Simpl_Formula_impl_Formula a0 (fun y0 => impl_leaves_1 y0 a1)) fun v17 =>
        bif v17 then
          some a0
        else
          Option.bind (app a0 ([a1])) fun v22 =>
          some v22
      else
        thenL (ρ := (List Formula)) (σ := (List Formula)) (forN (fun (i6 : Nat) (s6 : (List Formula)) =>
          Option.bind (idx a1.Parts (i6 : Int)) fun v28 =>
          Option.bind (impl_leavesN n s6 v28) fun v32 =>
          some (.nx v32)) a1.Parts.length 0 a0) fun s6 =>
        some s6
def impl_leaves (a0 : List Formula) (a1 : Formula) : Option (List Formula) := lim fun n => impl_leavesN n a0 a1

def impl_leafTruth_2 (a0 : Formula) (b0 : Formula) : Option Bool :=
  Option.bind (impl_sameFormula b0 a0) fun v6 =>
  some v6

mutual
def impl_leafTruthN : Nat → Formula → (List Formula) → Int → Option Bool
  | 0, _, _, _ => none
  | n + 1, a0, a1, a2 =>
    bif decide (a0.Op = (1 : Int)) then
      some true
    else
      bif decide (a0.Op = (2 : Int)) then
        some false
      else
        bif decide (a0.Op = (4 : Int)) then
          Option.bind (impl_leafTruth_1N n (0 : Int) a0 a1 a2) fun v18 =>
          some (!v18)
        else
          bif decide (a0.Op = (5 : Int)) then
            Option.bind (impl_leafTruth_1N n (0 : Int) a0 a1 a2) fun v23 =>
            bif v23 then
              Option.bind (impl_leafTruth_1N n (1 : Int) a0 a1 a2) fun v26 =>
              some v26
            else
              some false
          else
            bif decide (a0.Op = (6 : Int)) then
              Option.bind (impl_leafTruth_1N n (0 : Int) a0 a1 a2) fun v31 =>
              bif v31 then
                some true
              else
                Option.bind (impl_leafTruth_1N n (1 : Int) a0 a1 a2) fun v34 =>
                some v34
            else
              bif decide (a0.Op = (7 : Int)) then
                Option.bind (impl_leafTruth_1N n (0 : Int) a0 a1 a2) fun v39 =>
                bif v39 then
                  Option.bind (impl_leafTruth_1N n (1 : Int) a0 a1 a2) fun v43 =>
                  some v43
                else
                  some true
              else
                Option.bind (slices_IndexFunc_Simpl_Formula_impl_Formula a1 (fun y0 => impl_leafTruth_2 y0 a0)) fun v48 =>
                Option.bind (shr .i64 a2 v48) fun v49 =>
                some (decide ((bitand .i64 v49 (1 : Int)) = (1 : Int)))
def impl_leafTruth_1N : Nat → Int → Formula → (List Formula) → Int → Option Bool
  | 0, _, _, _, _ => none
  | n + 1, a0, b0, b1, b2 =>
    Option.bind (idx b0.Parts a0) fun v9 =>
    Option.bind (impl_leafTruthN n v9 b1 b2) fun v13 =>
    some v13
end
def impl_leafTruth (a0 : Formula) (a1 : List Formula) (a2 : Int) : Option Bool := lim fun n => impl_leafTruthN n a0 a1 a2
def impl_leafTruth_1 (a0 : Int) (b0 : Formula) (b1 : List Formula) (b2 : Int) : Option Bool := lim fun n => impl_leafTruth_1N n a0 b0 b1 b2

def impl_AreContradictory_2_1 (a0 : Formula) (b0 : List Formula) (b1 : Int) : Option Bool :=
  Option.bind (impl_leafTruth a0 b0 b1) fun v8 =>
  some (!v8)

def impl_AreContradictory_2_2 (a0 : Formula) (b0 : List Formula) (b1 : Int) : Option Bool :=
  Option.bind (impl_leafTruth a0 b0 b1) fun v8 =>
  some v8

def impl_AreContradictory_2 (a0 : Sequent) (b0 : List Formula) (b1 : Int) : Option Bool :=
  Option.bind (slices_ContainsFunc_Simpl_Formula_impl_Formula a0.Left (fun y0 => impl_AreContradictory_2_1 y0 b0 b1)) fun v8 =>
  bif v8 then
    some false
  else
    Option.bind (slices_ContainsFunc_Simpl_Formula_impl_Formula a0.Right (fun y0 => impl_AreContradictory_2_2 y0 b0 b1)) fun v14 =>
    some (!v14)

def impl_AreContradictory (a0 : List Sequent) : Option (Bool × Bool) :=
  bif decide ((60 : Int) < (a0.length : Int)) then
    some (false, false)
  else
    Option.bind (slices_ContainsFunc_Simpl_Sequent_impl_Sequent a0 (fun y0 => impl_AreContradictory_1 y0)) fun v15 =>
    bif v15 then
      some (false, false)
    else
      thenL (ρ := (Bool × Bool)) (σ := (List Formula)) (forN (fun (i5 : Nat) (s5 : (List Formula)) =>
        Option.bind (idx a0 (i5 : Int)) fun v22 =>
        Option.bind (slices_Concat_Simpl_Formula_impl_Formula ([v22.Left, v22.Right])) fun v29 =>
        thenL (ρ := (Flow (Bool × Bool) (List Formula))) (σ := (List Formula)) (forN (fun (i8 : Nat) (s8 : (List Formula)) =>
          Option.bind (idx v29 (i8 : Int)) fun v33 =>
          Option.bind (idx v29 (i8 : Int)) fun v34 =>
          Option.bind (impl_leaves s8 v34) fun v37 =>
          some (.nx v37)) v29.length 0 s5) fun s8 =>
        some (.nx s8)) a0.length 0 ([])) fun s5 =>
      bif decide ((12 : Int) < (s5.length : Int)) then
        some (false, false)
      else
        Option.bind (shl .i64 (1 : Int) (s5.length : Int)) fun v45 =>
        Option.bind (bnd (v45)) fun N16 =>
        thenL (ρ := (Bool × Bool)) (σ := Unit) (forN (fun (i16 : Nat) (s16 : Unit) =>
          Option.bind (slices_ContainsFunc_Simpl_Sequent_impl_Sequent a0 (fun y0 => impl_AreContradictory_2 y0 s5 (i16 : Int))) fun v51 =>
          bif v51 then
            some (.nx ())
          else
            some (.rt (false, true))) N16 0 ()) fun s16 =>
        some (true, true)

mutual
def eqTermN : Nat → Term → Term → Option Bool
  | 0, _, _ => none
  | n + 1, a0, a1 =>
    bif decide (a0.Name = a1.Name) then
      Option.bind (eqTermSN n a0.Args a1.Args) fun v14 =>
      bif v14 then
        some true
      else
        some false
    else
      some false
def eqTermSN : Nat → (List Term) → (List Term) → Option Bool
  | 0, _, _ => none
  | n + 1, a0, a1 =>
    bif decide ((a0.length : Int) = (a1.length : Int)) then
      thenL (ρ := Bool) (σ := Unit) (forN (fun (i4 : Nat) (s4 : Unit) =>
        Option.bind (idx a0 (i4 : Int)) fun v19 =>
        Option.bind (idx a1 (i4 : Int)) fun v23 =>
        Option.bind (eqTermN n v19 v23) fun v25 =>
        bif v25 then
          some (.nx ())
        else
          some (.rt false)) a0.length 0 ()) fun s4 =>
      some true
    else
      some false
end
def eqTerm (a0 : Term) (a1 : Term) : Option Bool := lim fun n => eqTermN n a0 a1
def eqTermS (a0 : List Term) (a1 : List Term) : Option Bool := lim fun n => eqTermSN n a0 a1

mutual
def eqFormulaSN : Nat → (List Formula) → (List Formula) → Option Bool
  | 0, _, _ => none
  | n + 1, a0, a1 =>
    bif decide ((a0.length : Int) = (a1.length : Int)) then
      thenL (ρ := Bool) (σ := Unit) (forN (fun (i4 : Nat) (s4 : Unit) =>
        Option.bind (idx a0 (i4 : Int)) fun v19 =>
        Option.bind (idx a1 (i4 : Int)) fun v23 =>
        Option.bind (eqFormulaN n v19 v23) fun v25 =>
        bif v25 then
          some (.nx ())
        else
          some (.rt false)) a0.length 0 ()) fun s4 =>
      some true
    else
      some false
def eqFormulaN : Nat → Formula → Formula → Option Bool
  | 0, _, _ => none
  | n + 1, a0, a1 =>
    bif decide (a0.Op = a1.Op) then
      Option.bind (eqTerm a0.Atom a1.Atom) fun v14 =>
      bif v14 then
        bif decide (a0.Var = a1.Var) then
          Option.bind (eqFormulaSN n a0.Parts a1.Parts) fun v25 =>
          bif v25 then
            some true
          else
            some false
        else
          some false
      else
        some false
    else
      some false
end
def eqFormulaS (a0 : List Formula) (a1 : List Formula) : Option Bool := lim fun n => eqFormulaSN n a0 a1
def eqFormula (a0 : Formula) (a1 : Formula) : Option Bool := lim fun n => eqFormulaN n a0 a1

def eqSequent (a0 : Sequent) (a1 : Sequent) : Option Bool :=
  Option.bind (eqFormulaS a0.Left a1.Left) fun v9 =>
  bif v9 then
    Option.bind (eqFormulaS a0.Right a1.Right) fun v15 =>
    bif v15 then
      some true
    else
      some false
  else
    some false

def eqSequentS (a0 : List Sequent) (a1 : List Sequent) : Option Bool :=
  bif decide ((a0.length : Int) = (a1.length : Int)) then
    thenL (ρ := Bool) (σ := Unit) (forN (fun (i4 : Nat) (s4 : Unit) =>
      Option.bind (idx a0 (i4 : Int)) fun v19 =>
      Option.bind (idx a1 (i4 : Int)) fun v23 =>
      Option.bind (eqSequent v19 v23) fun v25 =>
      bif v25 then
        some (.nx ())
      else
        some (.rt false)) a0.length 0 ()) fun s4 =>
    some true
  else
    some false

def FnExactAreContradictory (a0 : List Sequent) : Option Bool :=
  Option.bind (szSequentS a0 (1048576 : Int)) fun v11 =>
  bif decide (v11 < (0 : Int)) then
    some true
  else
    Option.bind (toSequentS a0) fun v16 =>
    Option.bind (spec_AreContradictory v16) fun v17 =>
    Option.bind (toSequentS a0) fun v21 =>
    Option.bind (impl_AreContradictory v21) fun v24 =>
    bif v24.1 == v17.1 then
      bif v24.2 == v17.2 then
        Option.bind (toSequentS a0) fun v37 =>
        Option.bind (eqSequentS v21 v37) fun v38 =>
        bif v38 then
          some true
        else
          some false
      else
        some false
    else
      some false

end
end Go.Proofs.Ytdmkceajaagpgaa
