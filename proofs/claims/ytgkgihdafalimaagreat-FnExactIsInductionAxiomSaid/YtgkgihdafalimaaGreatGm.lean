/- A part of the proof: lemmas only; nothing is claimed here beyond what each lemma says. -/
import Derived.Test.YtgkgihdafalimaaGreatGty
set_option linter.unusedSimpArgs false
set_option linter.unusedVariables false
set_option linter.defProp false
set_option maxRecDepth 4000
namespace Go.Proofs.YtgkgihdafalimaaGreat
open Go.Av
noncomputable section
mutual
def szTermN : Nat → Term → Int → Option Int
  | 0, _, _ => none
  | n + 1, a0, a1 =>
    bif decide ((IntKind.i64.wrap (a1 - (a0.Name.size : Int))) < (0 : Int)) then
      some (-1 : Int)
    else
      Option.bind (szTermSN n a0.Args (IntKind.i64.wrap (a1 - (a0.Name.size : Int)))) fun v15 =>
      bif decide (v15 < (0 : Int)) then
        some (-1 : Int)
      else
        some v15
def szTermSN : Nat → (List Term) → Int → Option Int
  | 0, _, _ => none
  | n + 1, a0, a1 =>
    bif decide ((IntKind.i64.wrap (a1 - (a0.length : Int))) < (0 : Int)) then
      some (-1 : Int)
    else
      thenL (ρ := Int) (σ := Int) (forN (fun (i5 : Nat) (s5 : Int) =>
        Option.bind (idx a0 (i5 : Int)) fun v20 =>
        Option.bind (szTermN n v20 s5) fun v23 =>
        bif decide (v23 < (0 : Int)) then
          some (.rt (-1 : Int))
        else
          some (.nx v23)) a0.length 0 (IntKind.i64.wrap (a1 - (a0.length : Int)))) fun s5 =>
      some s5
end
def szTerm (a0 : Term) (a1 : Int) : Option Int := lim fun n => szTermN n a0 a1
def szTermS (a0 : List Term) (a1 : Int) : Option Int := lim fun n => szTermSN n a0 a1

mutual
def szFormulaN : Nat → Formula → Int → Option Int
  | 0, _, _ => none
  | n + 1, a0, a1 =>
    Option.bind (szTerm a0.Atom a1) fun v8 =>
    bif decide (v8 < (0 : Int)) then
      some (-1 : Int)
    else
      bif decide ((IntKind.i64.wrap (v8 - (a0.Var.size : Int))) < (0 : Int)) then
        some (-1 : Int)
      else
        Option.bind (szFormulaSN n a0.Parts (IntKind.i64.wrap (v8 - (a0.Var.size : Int)))) fun v21 =>
        bif decide (v21 < (0 : Int)) then
          some (-1 : Int)
        else
          some v21
def szFormulaSN : Nat → (List Formula) → Int → Option Int
  | 0, _, _ => none
  | n + 1, a0, a1 =>
    bif decide ((IntKind.i64.wrap (a1 - (a0.length : Int))) < (0 : Int)) then
      some (-1 : Int)
    else
      thenL (ρ := Int) (σ := Int) (forN (fun (i5 : Nat) (s5 : Int) =>
        Option.bind (idx a0 (i5 : Int)) fun v20 =>
        Option.bind (szFormulaN n v20 s5) fun v23 =>
        bif decide (v23 < (0 : Int)) then
          some (.rt (-1 : Int))
        else
          some (.nx v23)) a0.length 0 (IntKind.i64.wrap (a1 - (a0.length : Int)))) fun s5 =>
      some s5
end
def szFormula (a0 : Formula) (a1 : Int) : Option Int := lim fun n => szFormulaN n a0 a1
def szFormulaS (a0 : List Formula) (a1 : Int) : Option Int := lim fun n => szFormulaSN n a0 a1

mutual
def toTermN : Nat → Term → Option Term
  | 0, _ => none
  | n + 1, a0 =>
    Option.bind (toTermSN n a0.Args) fun v9 =>
    some (Term.mk a0.Name v9)
def toTermSN : Nat → (List Term) → Option (List Term)
  | 0, _ => none
  | n + 1, a0 =>
    Option.bind (mkn (a0.length : Int)) fun n7 =>
    thenL (ρ := (List Term)) (σ := (List Term)) (forN (fun (i3 : Nat) (s3 : (List Term)) =>
      Option.bind (idx a0 (i3 : Int)) fun v18 =>
      Option.bind (toTermN n v18) fun v20 =>
      Option.bind (idx s3 (i3 : Int)) fun v21 =>
      Option.bind (idx s3 (i3 : Int)) fun w2 =>
      some (.nx (s3.set (i3 : Int).toNat v20))) a0.length 0 (List.replicate n7 (Term.mk (⟨#[]⟩ : ByteArray) ([])))) fun s3 =>
    some s3
end
def toTerm (a0 : Term) : Option Term := lim fun n => toTermN n a0
def toTermS (a0 : List Term) : Option (List Term) := lim fun n => toTermSN n a0

mutual
def toFormulaN : Nat → Formula → Option Formula
  | 0, _ => none
  | n + 1, a0 =>
    Option.bind (toTerm a0.Atom) fun v9 =>
    Option.bind (toFormulaSN n a0.Parts) fun v16 =>
    some (Formula.mk a0.Op v9 a0.Var v16)
def toFormulaSN : Nat → (List Formula) → Option (List Formula)
  | 0, _ => none
  | n + 1, a0 =>
    Option.bind (mkn (a0.length : Int)) fun n7 =>
    thenL (ρ := (List Formula)) (σ := (List Formula)) (forN (fun (i3 : Nat) (s3 : (List Formula)) =>
      Option.bind (idx a0 (i3 : Int)) fun v18 =>
      Option.bind (toFormulaN n v18) fun v20 =>
      Option.bind (idx s3 (i3 : Int)) fun v21 =>
      Option.bind (idx s3 (i3 : Int)) fun w2 =>
      some (.nx (s3.set (i3 : Int).toNat v20))) a0.length 0 (List.replicate n7 (Formula.mk (0 : Int) (Term.mk (⟨#[]⟩ : ByteArray) ([])) (⟨#[]⟩ : ByteArray) ([])))) fun s3 =>
    some s3
end
def toFormula (a0 : Formula) : Option Formula := lim fun n => toFormulaN n a0
def toFormulaS (a0 : List Formula) : Option (List Formula) := lim fun n => toFormulaSN n a0

def spec_l8ManyN : Nat → Formula → Int → Option Int
  | 0, _, _ => none
  | n + 1, a0, a1 =>
    thenL (ρ := Int) (σ := Int) (forN (fun (i3 : Nat) (s3 : Int) =>
      bif decide (s3 ≤ a1) then
        Option.bind (idx a0.Parts (i3 : Int)) fun v23 =>
        Option.bind (spec_l8ManyN n v23 (IntKind.i64.wrap (a1 - s3))) fun v28 =>
        some (.nx (IntKind.i64.wrap (s3 + v28)))
      else
        some (.rt s3)) a0.Parts.length 0 (1 : Int)) fun s3 =>
    some s3
def spec_l8Many (a0 : Formula) (a1 : Int) : Option Int := lim fun n => spec_l8ManyN n a0 a1

def spec_l8None (a0 : Term) : Option Bool :=
  bif decide (a0.Name = (⟨#[]⟩ : ByteArray)) then
    some (decide ((a0.Args.length : Int) = (0 : Int)))
  else
    some false

def spec_l2ManyN : Nat → Term → Int → Option Int
  | 0, _, _ => none
  | n + 1, a0, a1 =>
    thenL (ρ := Int) (σ := Int) (forN (fun (i3 : Nat) (s3 : Int) =>
      bif decide (s3 ≤ a1) then
        Option.bind (idx a0.Args (i3 : Int)) fun v23 =>
        Option.bind (spec_l2ManyN n v23 (IntKind.i64.wrap (a1 - s3))) fun v28 =>
        some (.nx (IntKind.i64.wrap (s3 + v28)))
      else
        some (.rt s3)) a0.Args.length 0 (1 : Int)) fun s3 =>
    some s3
def spec_l2Many (a0 : Term) (a1 : Int) : Option Int := lim fun n => spec_l2ManyN n a0 a1

def spec_l1Most (a0 : Int) (a1 : Int) : Option Int :=
  bif decide (a1 < a0) then
    some a0
  else
    some a1

def spec_l2DepthN : Nat → Term → Option Int
  | 0, _ => none
  | n + 1, a0 =>
    thenL (ρ := Int) (σ := Int) (forN (fun (i3 : Nat) (s3 : Int) =>
      Option.bind (idx a0.Args (i3 : Int)) fun v16 =>
      Option.bind (spec_l2DepthN n v16) fun v18 =>
      Option.bind (spec_l1Most s3 v18) fun v19 =>
      some (.nx v19)) a0.Args.length 0 (0 : Int)) fun s3 =>
    some (IntKind.i64.wrap (s3 + (1 : Int)))
def spec_l2Depth (a0 : Term) : Option Int := lim fun n => spec_l2DepthN n a0

def spec_l2Fits (a0 : Term) : Option Bool :=
  Option.bind (spec_l2Many a0 (30 : Int)) fun v4 =>
  bif decide (v4 ≤ (30 : Int)) then
    Option.bind (spec_l2Depth a0) fun v8 =>
    some (decide (v8 ≤ (8 : Int)))
  else
    some false

def spec_l1In (a0 : Int) (a1 : Int) (a2 : Int) : Option Bool :=
  bif decide (a1 ≤ a0) then
    some (decide (a0 ≤ a2))
  else
    some false

def spec_l2Small (a0 : Int) : Option Bool :=
  bif decide ((97 : Int) ≤ a0) then
    bif decide (a0 ≤ (122 : Int)) then
      some true
    else
      bif decide ((48 : Int) ≤ a0) then
        some (decide (a0 ≤ (57 : Int)))
      else
        some false
  else
    bif decide ((48 : Int) ≤ a0) then
      some (decide (a0 ≤ (57 : Int)))
    else
      some false

def spec_l2Var (a0 : ByteArray) : Option Bool :=
  Option.bind (spec_l1In (a0.size : Int) (1 : Int) (4 : Int)) fun v6 =>
  bif v6 then
    Option.bind (sidx a0 (0 : Int)) fun v10 =>
    bif decide (v10 < (65 : Int)) then
      some false
    else
      Option.bind (sidx a0 (0 : Int)) fun v15 =>
      bif decide ((90 : Int) < v15) then
        some false
      else
        Option.bind (bnd (a0.size : Int)) fun N4 =>
        thenL (ρ := Bool) (σ := Unit) (forN (fun (i4 : Nat) (s4 : Unit) =>
          Option.bind (sidx a0 (i4 : Int)) fun v26 =>
          Option.bind (spec_l2Small v26) fun v27 =>
          bif v27 then
            some (.nx ())
          else
            some (.rt false)) (N4 - 1) 1 ()) fun s4 =>
        some true
  else
    some false

def spec_l2Symbol (a0 : ByteArray) : Option Bool :=
  Option.bind (spec_l1In (a0.size : Int) (1 : Int) (6 : Int)) fun v6 =>
  bif v6 then
    Option.bind (sidx a0 (0 : Int)) fun v10 =>
    bif decide (v10 < (97 : Int)) then
      some false
    else
      Option.bind (sidx a0 (0 : Int)) fun v15 =>
      bif decide ((122 : Int) < v15) then
        some false
      else
        bif decide (a0 = (⟨#[116, 114, 117, 101]⟩ : ByteArray)) then
          some false
        else
          bif decide (a0 = (⟨#[102, 97, 108, 115, 101]⟩ : ByteArray)) then
            some false
          else
            bif decide (a0 = (⟨#[116, 114, 117, 116, 104]⟩ : ByteArray)) then
              some false
            else
              bif decide (a0 = (⟨#[98, 111, 116, 104]⟩ : ByteArray)) then
                some false
              else
                bif decide (a0 = (⟨#[101, 105, 116, 104, 101, 114]⟩ : ByteArray)) then
                  some false
                else
                  bif decide (a0 = (⟨#[105, 102]⟩ : ByteArray)) then
                    some false
                  else
                    bif decide (a0 = (⟨#[97, 108, 108]⟩ : ByteArray)) then
                      some false
                    else
                      bif decide (a0 = (⟨#[115, 111, 109, 101]⟩ : ByteArray)) then
                        some false
                      else
                        Option.bind (bnd (a0.size : Int)) fun N14 =>
                        thenL (ρ := Bool) (σ := Unit) (forN (fun (i14 : Nat) (s14 : Unit) =>
                          Option.bind (sidx a0 (i14 : Int)) fun v36 =>
                          Option.bind (spec_l2Small v36) fun v37 =>
                          bif v37 then
                            some (.nx ())
                          else
                            Option.bind (sidx a0 (i14 : Int)) fun v42 =>
                            bif decide (v42 = (95 : Int)) then
                              some (.nx ())
                            else
                              some (.rt false)) (N14 - 1) 1 ()) fun s14 =>
                        some true
  else
    some false

def spec_l2NodesN : Nat → Term → Option Bool
  | 0, _ => none
  | n + 1, a0 =>
    Option.bind (spec_l2Var a0.Name) fun v6 =>
    bif v6 then
      some (decide ((a0.Args.length : Int) = (0 : Int)))
    else
      Option.bind (spec_l2Symbol a0.Name) fun v13 =>
      bif v13 then
        bif decide ((4 : Int) < (a0.Args.length : Int)) then
          some false
        else
          thenL (ρ := Bool) (σ := Unit) (forN (fun (i6 : Nat) (s6 : Unit) =>
            Option.bind (idx a0.Args (i6 : Int)) fun v31 =>
            Option.bind (spec_l2NodesN n v31) fun v33 =>
            bif v33 then
              some (.nx ())
            else
              some (.rt false)) a0.Args.length 0 ()) fun s6 =>
          some true
      else
        some false
def spec_l2Nodes (a0 : Term) : Option Bool := lim fun n => spec_l2NodesN n a0

def spec_l2Good (a0 : Term) : Option Bool :=
  Option.bind (spec_l2Fits a0) fun v4 =>
  bif v4 then
    Option.bind (spec_l2Nodes a0) fun v7 =>
    some v7
  else
    some false

def spec_l2Atom (a0 : Term) : Option Bool :=
  bif decide (a0.Name = (⟨#[61]⟩ : ByteArray)) then
    bif decide ((a0.Args.length : Int) = (2 : Int)) then
      Option.bind (spec_l2Fits a0) fun v12 =>
      bif v12 then
        Option.bind (idx a0.Args (0 : Int)) fun v17 =>
        Option.bind (spec_l2Nodes v17) fun v19 =>
        bif v19 then
          Option.bind (idx a0.Args (1 : Int)) fun v24 =>
          Option.bind (spec_l2Nodes v24) fun v26 =>
          some v26
        else
          some false
      else
        some false
    else
      some false
  else
    Option.bind (spec_l2Symbol a0.Name) fun v30 =>
    bif v30 then
      Option.bind (spec_l2Good a0) fun v33 =>
      some v33
    else
      some false

def spec_l8Form (a0 : Formula) : Option Bool :=
  bif decide (a0.Op = (1 : Int)) then
    bif decide ((a0.Parts.length : Int) = (0 : Int)) then
      Option.bind (spec_l8None a0.Atom) fun v17 =>
      bif v17 then
        some (decide (a0.Var = (⟨#[]⟩ : ByteArray)))
      else
        some false
    else
      some false
  else
    bif decide (a0.Op = (2 : Int)) then
      bif decide ((a0.Parts.length : Int) = (0 : Int)) then
        Option.bind (spec_l8None a0.Atom) fun v17 =>
        bif v17 then
          some (decide (a0.Var = (⟨#[]⟩ : ByteArray)))
        else
          some false
      else
        some false
    else
      bif decide (a0.Op = (3 : Int)) then
        bif decide ((a0.Parts.length : Int) = (0 : Int)) then
          Option.bind (spec_l2Atom a0.Atom) fun v31 =>
          bif v31 then
            some (decide (a0.Var = (⟨#[]⟩ : ByteArray)))
          else
            some false
        else
          some false
      else
        bif decide (a0.Op = (4 : Int)) then
          bif decide ((a0.Parts.length : Int) = (1 : Int)) then
            Option.bind (spec_l8None a0.Atom) fun v45 =>
            bif v45 then
              some (decide (a0.Var = (⟨#[]⟩ : ByteArray)))
            else
              some false
          else
            some false
        else
          bif decide (a0.Op = (5 : Int)) then
            bif decide ((a0.Parts.length : Int) = (2 : Int)) then
              Option.bind (spec_l8None a0.Atom) fun v61 =>
              bif v61 then
                some (decide (a0.Var = (⟨#[]⟩ : ByteArray)))
              else
                some false
            else
              some false
          else
            bif decide (a0.Op = (6 : Int)) then
              bif decide ((a0.Parts.length : Int) = (2 : Int)) then
                Option.bind (spec_l8None a0.Atom) fun v61 =>
                bif v61 then
                  some (decide (a0.Var = (⟨#[]⟩ : ByteArray)))
                else
                  some false
              else
                some false
            else
              bif decide (a0.Op = (7 : Int)) then
                bif decide ((a0.Parts.length : Int) = (2 : Int)) then
                  Option.bind (spec_l8None a0.Atom) fun v61 =>
                  bif v61 then
                    some (decide (a0.Var = (⟨#[]⟩ : ByteArray)))
                  else
                    some false
                else
                  some false
              else
                bif decide (a0.Op = (8 : Int)) then
                  bif decide ((a0.Parts.length : Int) = (1 : Int)) then
                    Option.bind (spec_l8None a0.Atom) fun v76 =>
                    bif v76 then
                      Option.bind (spec_l2Var a0.Var) fun v81 =>
                      some v81
                    else
                      some false
                  else
                    some false
                else
                  bif decide (a0.Op = (9 : Int)) then
                    bif decide ((a0.Parts.length : Int) = (1 : Int)) then
                      Option.bind (spec_l8None a0.Atom) fun v76 =>
                      bif v76 then
                        Option.bind (spec_l2Var a0.Var) fun v81 =>
                        some v81
                      else
                        some false
                    else
                      some false
                  else
                    some false

def spec_l8FormsN : Nat → Formula → Option Bool
  | 0, _ => none
  | n + 1, a0 =>
    Option.bind (spec_l8Form a0) fun v5 =>
    bif v5 then
      thenL (ρ := Bool) (σ := Unit) (forN (fun (i4 : Nat) (s4 : Unit) =>
        Option.bind (idx a0.Parts (i4 : Int)) fun v17 =>
        Option.bind (spec_l8FormsN n v17) fun v19 =>
        bif v19 then
          some (.nx ())
        else
          some (.rt false)) a0.Parts.length 0 ()) fun s4 =>
      some true
    else
      some false
def spec_l8Forms (a0 : Formula) : Option Bool := lim fun n => spec_l8FormsN n a0

def spec_l8Good (a0 : Formula) : Option Bool :=
  Option.bind (spec_l8Many a0 (40 : Int)) fun v4 =>
  bif decide (v4 ≤ (40 : Int)) then
    Option.bind (spec_l8Forms a0) fun v8 =>
    some v8
  else
    some false

def spec_l23Numeral (a0 : Int) : Option Term :=
  Option.bind (bnd (a0)) fun N3 =>
  thenL (ρ := Term) (σ := ByteArray × (List Term)) (forN (fun (i3 : Nat) (s3 : ByteArray × (List Term)) =>
    some (.nx ((⟨#[115]⟩ : ByteArray), [(Term.mk s3.1 s3.2)]))) N3 0 ((⟨#[122, 101, 114, 111]⟩ : ByteArray), [])) fun s3 =>
  some (Term.mk s3.1 s3.2)

def spec_l2OwnN : Nat → Term → Option Term
  | 0, _ => none
  | n + 1, a0 =>
    thenL (ρ := Term) (σ := (List Term)) (forN (fun (i3 : Nat) (s3 : (List Term)) =>
      Option.bind (idx a0.Args (i3 : Int)) fun v20 =>
      Option.bind (spec_l2OwnN n v20) fun v22 =>
      Option.bind (app s3 ([v22])) fun v24 =>
      some (.nx v24)) a0.Args.length 0 ([])) fun s3 =>
    some (Term.mk a0.Name s3)
def spec_l2Own (a0 : Term) : Option Term := lim fun n => spec_l2OwnN n a0

def spec_l4Put (a0 : Substitution) (a1 : ByteArray) (a2 : Term) : Option Substitution :=
  bif decide (a2.Name = a1) then
    some a0
  else
    thenL (ρ := Substitution) (σ := Unit) (forN (fun (i4 : Nat) (s4 : Unit) =>
      Option.bind (idx a0.Bindings (i4 : Int)) fun v23 =>
      bif Op.bytesLess v23.Var.data.toList a1.data.toList then
        some (.nx ())
      else
        Option.bind (slc a0.Bindings (0 : Int) (i4 : Int)) fun v35 =>
        Option.bind (app ([]) v35) fun v36 =>
        Option.bind (spec_l2Own a2) fun v40 =>
        Option.bind (app v36 ([(Binding.mk a1 v40)])) fun v43 =>
        Option.bind (slc a0.Bindings (i4 : Int) (a0.Bindings.length : Int)) fun v48 =>
        Option.bind (app v43 v48) fun v49 =>
        some (.rt (Substitution.mk v49))) a0.Bindings.length 0 ()) fun s4 =>
    Option.bind (slc a0.Bindings (0 : Int) ((a0.Bindings.length : Nat) : Int)) fun v35 =>
    Option.bind (app ([]) v35) fun v36 =>
    Option.bind (spec_l2Own a2) fun v40 =>
    Option.bind (app v36 ([(Binding.mk a1 v40)])) fun v43 =>
    Option.bind (slc a0.Bindings ((a0.Bindings.length : Nat) : Int) (a0.Bindings.length : Int)) fun v48 =>
    Option.bind (app v43 v48) fun v49 =>
    some (Substitution.mk v49)

def spec_l4Find (a0 : Substitution) (a1 : ByteArray) : Option Int :=
  thenL (ρ := Int) (σ := Unit) (forN (fun (i2 : Nat) (s2 : Unit) =>
    Option.bind (idx a0.Bindings (i2 : Int)) fun v16 =>
    bif decide (v16.Var = a1) then
      some (.rt (i2 : Int))
    else
      some (.nx ())) a0.Bindings.length 0 ()) fun s2 =>
  some (-1 : Int)

def spec_l4ApplyN : Nat → Substitution → Term → Option Term
  | 0, _, _ => none
  | n + 1, a0, a1 =>
    Option.bind (spec_l2Var a1.Name) fun v10 =>
    bif v10 then
      Option.bind (spec_l4Find a0 a1.Name) fun v14 =>
      bif decide ((0 : Int) ≤ v14) then
        Option.bind (idx a0.Bindings v14) fun v20 =>
        Option.bind (spec_l2Own v20.Term) fun v23 =>
        some v23
      else
        some (Term.mk a1.Name ([]))
    else
      thenL (ρ := Term) (σ := (List Term)) (forN (fun (i8 : Nat) (s8 : (List Term)) =>
        Option.bind (idx a1.Args (i8 : Int)) fun v43 =>
        Option.bind (spec_l4ApplyN n a0 v43) fun v45 =>
        Option.bind (app s8 ([v45])) fun v47 =>
        some (.nx v47)) a1.Args.length 0 ([])) fun s8 =>
      some (Term.mk a1.Name s8)
def spec_l4Apply (a0 : Substitution) (a1 : Term) : Option Term := lim fun n => spec_l4ApplyN n a0 a1

def spec_l2Put (a0 : List ByteArray) (a1 : ByteArray) : Option (List ByteArray) :=
  thenL (ρ := (List ByteArray)) (σ := Unit) (forN (fun (i2 : Nat) (s2 : Unit) =>
    Option.bind (idx a0 (i2 : Int)) fun v13 =>
    bif Op.bytesLess v13.data.toList a1.data.toList then
      some (.nx ())
    else
      Option.bind (idx a0 (i2 : Int)) fun v27 =>
      bif decide (v27 = a1) then
        some (.rt a0)
      else
        Option.bind (slc a0 (0 : Int) (i2 : Int)) fun v36 =>
        Option.bind (app ([]) v36) fun v37 =>
        Option.bind (app v37 ([a1])) fun v40 =>
        Option.bind (slc a0 (i2 : Int) (a0.length : Int)) fun v43 =>
        Option.bind (app v40 v43) fun v44 =>
        some (.rt v44)) a0.length 0 ()) fun s2 =>
  Option.bind (slc a0 (0 : Int) ((a0.length : Nat) : Int)) fun v36 =>
  Option.bind (app ([]) v36) fun v37 =>
  Option.bind (app v37 ([a1])) fun v40 =>
  Option.bind (slc a0 ((a0.length : Nat) : Int) (a0.length : Int)) fun v43 =>
  Option.bind (app v40 v43) fun v44 =>
  some v44

def spec_l2IntoN : Nat → (List ByteArray) → Term → Option (List ByteArray)
  | 0, _, _ => none
  | n + 1, a0, a1 =>
    Option.bind (spec_l2Var a1.Name) fun v8 =>
    bif v8 then
      Option.bind (spec_l2Put a0 a1.Name) fun v12 =>
      some v12
    else
      thenL (ρ := (List ByteArray)) (σ := (List ByteArray)) (forN (fun (i4 : Nat) (s4 : (List ByteArray)) =>
        Option.bind (idx a1.Args (i4 : Int)) fun v24 =>
        Option.bind (spec_l2IntoN n s4 v24) fun v26 =>
        some (.nx v26)) a1.Args.length 0 a0) fun s4 =>
      some s4
def spec_l2Into (a0 : List ByteArray) (a1 : Term) : Option (List ByteArray) := lim fun n => spec_l2IntoN n a0 a1

def spec_l2Vars (a0 : Term) : Option (List ByteArray) :=
  Option.bind (spec_l2Into ([]) a0) fun v5 =>
  some v5

def spec_l2In (a0 : List ByteArray) (a1 : ByteArray) : Option Bool :=
  thenL (ρ := Bool) (σ := Unit) (forN (fun (i2 : Nat) (s2 : Unit) =>
    Option.bind (idx a0 (i2 : Int)) fun v14 =>
    bif decide (v14 = a1) then
      some (.rt true)
    else
      some (.nx ())) a0.length 0 ()) fun s2 =>
  some false

def spec_l8IntoN : Nat → (List ByteArray) → Formula → (List ByteArray) → Option (List ByteArray)
  | 0, _, _, _ => none
  | n + 1, a0, a1, a2 =>
    bif decide (a1.Op = (3 : Int)) then
      Option.bind (spec_l2Vars a1.Atom) fun v15 =>
      thenL (ρ := (List ByteArray)) (σ := (List ByteArray)) (forN (fun (i4 : Nat) (s4 : (List ByteArray)) =>
        Option.bind (idx v15 (i4 : Int)) fun v25 =>
        Option.bind (spec_l2In a2 v25) fun v27 =>
        bif v27 then
          some (.nx s4)
        else
          Option.bind (idx v15 (i4 : Int)) fun v32 =>
          Option.bind (spec_l2Put s4 v32) fun v34 =>
          some (.nx v34)) v15.length 0 a0) fun s4 =>
      bif decide (a1.Op = (8 : Int)) then
        Option.bind (app ([]) a2) fun v45 =>
        Option.bind (app v45 ([a1.Var])) fun v49 =>
        thenL (ρ := (List ByteArray)) (σ := (List ByteArray)) (forN (fun (i11 : Nat) (s11 : (List ByteArray)) =>
          Option.bind (idx a1.Parts (i11 : Int)) fun v61 =>
          Option.bind (spec_l8IntoN n s11 v61 v49) fun v64 =>
          some (.nx v64)) a1.Parts.length 0 s4) fun s11 =>
        some s11
      else
        bif decide (a1.Op = (9 : Int)) then
          Option.bind (app ([]) a2) fun v45 =>
          Option.bind (app v45 ([a1.Var])) fun v49 =>
          thenL (ρ := (List ByteArray)) (σ := (List ByteArray)) (forN (fun (i11 : Nat) (s11 : (List ByteArray)) =>
            Option.bind (idx a1.Parts (i11 : Int)) fun v61 =>
            Option.bind (spec_l8IntoN n s11 v61 v49) fun v64 =>
            some (.nx v64)) a1.Parts.length 0 s4) fun s11 =>
          some s11
        else
          thenL (ρ := (List ByteArray)) (σ := (List ByteArray)) (forN (fun (i11 : Nat) (s11 : (List ByteArray)) =>
            Option.bind (idx a1.Parts (i11 : Int)) fun v61 =>
            Option.bind (spec_l8IntoN n s11 v61 a2) fun v64 =>
            some (.nx v64)) a1.Parts.length 0 s4) fun s11 =>
          some s11
    else
      bif decide (a1.Op = (8 : Int)) then
        Option.bind (app ([]) a2) fun v45 =>
        Option.bind (app v45 ([a1.Var])) fun v49 =>
        thenL (ρ := (List ByteArray)) (σ := (List ByteArray)) (forN (fun (i11 : Nat) (s11 : (List ByteArray)) =>
          Option.bind (idx a1.Parts (i11 : Int)) fun v61 =>
          Option.bind (spec_l8IntoN n s11 v61 v49) fun v64 =>
          some (.nx v64)) a1.Parts.length 0 a0) fun s11 =>
        some s11
      else
        bif decide (a1.Op = (9 : Int)) then
          Option.bind (app ([]) a2) fun v45 =>
          Option.bind (app v45 ([a1.Var])) fun v49 =>
          thenL (ρ := (List ByteArray)) (σ := (List ByteArray)) (forN (fun (i11 : Nat) (s11 : (List ByteArray)) =>
            Option.bind (idx a1.Parts (i11 : Int)) fun v61 =>
            Option.bind (spec_l8IntoN n s11 v61 v49) fun v64 =>
            some (.nx v64)) a1.Parts.length 0 a0) fun s11 =>
          some s11
        else
          thenL (ρ := (List ByteArray)) (σ := (List ByteArray)) (forN (fun (i11 : Nat) (s11 : (List ByteArray)) =>
            Option.bind (idx a1.Parts (i11 : Int)) fun v61 =>
            Option.bind (spec_l8IntoN n s11 v61 a2) fun v64 =>
            some (.nx v64)) a1.Parts.length 0 a0) fun s11 =>
          some s11
def spec_l8Into (a0 : List ByteArray) (a1 : Formula) (a2 : List ByteArray) : Option (List ByteArray) := lim fun n => spec_l8IntoN n a0 a1 a2

def spec_l8Free (a0 : Formula) : Option (List ByteArray) :=
  Option.bind (spec_l8Into ([]) a0 ([])) fun v6 =>
  some v6

def spec_l8OwnN : Nat → Formula → Option Formula
  | 0, _ => none
  | n + 1, a0 =>
    Option.bind (spec_l2Own a0.Atom) fun v9 =>
    thenL (ρ := Formula) (σ := (List Formula)) (forN (fun (i3 : Nat) (s3 : (List Formula)) =>
      Option.bind (idx a0.Parts (i3 : Int)) fun v25 =>
      Option.bind (spec_l8OwnN n v25) fun v27 =>
      Option.bind (app s3 ([v27])) fun v29 =>
      some (.nx v29)) a0.Parts.length 0 ([])) fun s3 =>
    some (Formula.mk a0.Op v9 a0.Var s3)
def spec_l8Own (a0 : Formula) : Option Formula := lim fun n => spec_l8OwnN n a0

def spec_l8PutN : Nat → Formula → ByteArray → Term → Option (Formula × Bool)
  | 0, _, _, _ => none
  | n + 1, a0, a1, a2 =>
    bif decide (a0.Op = (3 : Int)) then
      Option.bind (spec_l4Put (Substitution.mk ([])) a1 a2) fun v23 =>
      Option.bind (spec_l4Apply v23 a0.Atom) fun v26 =>
      Option.bind (spec_l2Atom v26) fun v31 =>
      some ((Formula.mk a0.Op v26 a0.Var ([])), v31)
    else
      bif decide (a0.Op = (8 : Int)) then
        bif decide (a0.Var = a1) then
          Option.bind (spec_l8Own a0) fun v55 =>
          some (v55, true)
        else
          Option.bind (idx a0.Parts (0 : Int)) fun v47 =>
          Option.bind (spec_l8Free v47) fun v49 =>
          Option.bind (spec_l2In v49 a1) fun v51 =>
          bif v51 then
            Option.bind (spec_l2Vars a2) fun v57 =>
            Option.bind (spec_l2In v57 a0.Var) fun v60 =>
            bif v60 then
              some ((Formula.mk a0.Op (Term.mk (⟨#[]⟩ : ByteArray) ([])) a0.Var ([])), false)
            else
              thenL (ρ := (Formula × Bool)) (σ := (List Formula)) (forN (fun (i11 : Nat) (s11 : (List Formula)) =>
                Option.bind (idx a0.Parts (i11 : Int)) fun v73 =>
                Option.bind (spec_l8PutN n v73 a1 a2) fun v77 =>
                bif v77.2 then
                  Option.bind (app s11 ([v77.1])) fun v87 =>
                  some (.nx v87)
                else
                  some (.rt ((Formula.mk a0.Op (Term.mk (⟨#[]⟩ : ByteArray) ([])) a0.Var s11), false))) a0.Parts.length 0 ([])) fun s11 =>
              some ((Formula.mk a0.Op (Term.mk (⟨#[]⟩ : ByteArray) ([])) a0.Var s11), true)
          else
            Option.bind (spec_l8Own a0) fun v55 =>
            some (v55, true)
      else
        bif decide (a0.Op = (9 : Int)) then
          bif decide (a0.Var = a1) then
            Option.bind (spec_l8Own a0) fun v55 =>
            some (v55, true)
          else
            Option.bind (idx a0.Parts (0 : Int)) fun v47 =>
            Option.bind (spec_l8Free v47) fun v49 =>
            Option.bind (spec_l2In v49 a1) fun v51 =>
            bif v51 then
              Option.bind (spec_l2Vars a2) fun v57 =>
              Option.bind (spec_l2In v57 a0.Var) fun v60 =>
              bif v60 then
                some ((Formula.mk a0.Op (Term.mk (⟨#[]⟩ : ByteArray) ([])) a0.Var ([])), false)
              else
                thenL (ρ := (Formula × Bool)) (σ := (List Formula)) (forN (fun (i11 : Nat) (s11 : (List Formula)) =>
                  Option.bind (idx a0.Parts (i11 : Int)) fun v73 =>
                  Option.bind (spec_l8PutN n v73 a1 a2) fun v77 =>
                  bif v77.2 then
                    Option.bind (app s11 ([v77.1])) fun v87 =>
                    some (.nx v87)
                  else
                    some (.rt ((Formula.mk a0.Op (Term.mk (⟨#[]⟩ : ByteArray) ([])) a0.Var s11), false))) a0.Parts.length 0 ([])) fun s11 =>
                some ((Formula.mk a0.Op (Term.mk (⟨#[]⟩ : ByteArray) ([])) a0.Var s11), true)
            else
              Option.bind (spec_l8Own a0) fun v55 =>
              some (v55, true)
        else
          thenL (ρ := (Formula × Bool)) (σ := (List Formula)) (forN (fun (i11 : Nat) (s11 : (List Formula)) =>
            Option.bind (idx a0.Parts (i11 : Int)) fun v73 =>
            Option.bind (spec_l8PutN n v73 a1 a2) fun v77 =>
            bif v77.2 then
              Option.bind (app s11 ([v77.1])) fun v87 =>
              some (.nx v87)
            else
              some (.rt ((Formula.mk a0.Op (Term.mk (⟨#[]⟩ : ByteArray) ([])) a0.Var s11), false))) a0.Parts.length 0 ([])) fun s11 =>
          some ((Formula.mk a0.Op (Term.mk (⟨#[]⟩ : ByteArray) ([])) a0.Var s11), true)
def spec_l8Put (a0 : Formula) (a1 : ByteArray) (a2 : Term) : Option (Formula × Bool) := lim fun n => spec_l8PutN n a0 a1 a2

def spec_l23After (a0 : ByteArray) : Option Term :=
  some (Term.mk (⟨#[115]⟩ : ByteArray) ([(Term.mk a0 ([]))]))

def spec_l19Two (a0 : Int) (a1 : Formula) (a2 : Formula) : Option Formula :=
  some (Formula.mk a0 (Term.mk (⟨#[]⟩ : ByteArray) ([])) (⟨#[]⟩ : ByteArray) ([a1, a2]))


def spec_InductionAxiom (a0 : Formula) (a1 : ByteArray) : Option (Formula × Bool) :=
  Option.bind (spec_l8Good a0) fun v14 =>
  bif v14 then
    Option.bind (spec_l2Var a1) fun v18 =>
    bif v18 then
      Option.bind (spec_l23Numeral (0 : Int)) fun v25 =>
      Option.bind (spec_l8Put a0 a1 v25) fun v26 =>
      Option.bind (spec_l23After a1) fun v33 =>
      Option.bind (spec_l8Put a0 a1 v33) fun v34 =>
      bif v26.2 then
        bif v34.2 then
          Option.bind (spec_l8Own a0) fun v46 =>
          Option.bind (spec_l19Two (7 : Int) v46 v34.1) fun v48 =>
          Option.bind (spec_l8Own a0) fun v53 =>
          Option.bind (spec_l19Two (5 : Int) v26.1 (Formula.mk (8 : Int) (Term.mk (⟨#[]⟩ : ByteArray) ([])) a1 ([v48]))) fun v58 =>
          Option.bind (spec_l19Two (7 : Int) v58 (Formula.mk (8 : Int) (Term.mk (⟨#[]⟩ : ByteArray) ([])) a1 ([v53]))) fun v60 =>
          Option.bind (spec_l8Good v60) fun v62 =>
          bif v62 then
            some (v60, true)
          else
            some ((Formula.mk (0 : Int) (Term.mk (⟨#[]⟩ : ByteArray) ([])) (⟨#[]⟩ : ByteArray) ([])), false)
        else
          some ((Formula.mk (0 : Int) (Term.mk (⟨#[]⟩ : ByteArray) ([])) (⟨#[]⟩ : ByteArray) ([])), false)
      else
        some ((Formula.mk (0 : Int) (Term.mk (⟨#[]⟩ : ByteArray) ([])) (⟨#[]⟩ : ByteArray) ([])), false)
    else
      some ((Formula.mk (0 : Int) (Term.mk (⟨#[]⟩ : ByteArray) ([])) (⟨#[]⟩ : ByteArray) ([])), false)
  else
    some ((Formula.mk (0 : Int) (Term.mk (⟨#[]⟩ : ByteArray) ([])) (⟨#[]⟩ : ByteArray) ([])), false)

def spec_l2SameN : Nat → Term → Term → Option Bool
  | 0, _, _ => none
  | n + 1, a0, a1 =>
    bif decide (a0.Name = a1.Name) then
      bif decide ((a0.Args.length : Int) = (a1.Args.length : Int)) then
        thenL (ρ := Bool) (σ := Unit) (forN (fun (i4 : Nat) (s4 : Unit) =>
          Option.bind (idx a0.Args (i4 : Int)) fun v30 =>
          Option.bind (idx a1.Args (i4 : Int)) fun v35 =>
          Option.bind (spec_l2SameN n v30 v35) fun v37 =>
          bif v37 then
            some (.nx ())
          else
            some (.rt false)) a0.Args.length 0 ()) fun s4 =>
        some true
      else
        some false
    else
      some false
def spec_l2Same (a0 : Term) (a1 : Term) : Option Bool := lim fun n => spec_l2SameN n a0 a1

def spec_l8SameN : Nat → Formula → Formula → Option Bool
  | 0, _, _ => none
  | n + 1, a0, a1 =>
    bif decide (a0.Op = a1.Op) then
      bif decide (a0.Var = a1.Var) then
        Option.bind (spec_l2Same a0.Atom a1.Atom) fun v23 =>
        bif v23 then
          bif decide ((a0.Parts.length : Int) = (a1.Parts.length : Int)) then
            thenL (ρ := Bool) (σ := Unit) (forN (fun (i4 : Nat) (s4 : Unit) =>
              Option.bind (idx a0.Parts (i4 : Int)) fun v45 =>
              Option.bind (idx a1.Parts (i4 : Int)) fun v50 =>
              Option.bind (spec_l8SameN n v45 v50) fun v52 =>
              bif v52 then
                some (.nx ())
              else
                some (.rt false)) a0.Parts.length 0 ()) fun s4 =>
            some true
          else
            some false
        else
          some false
      else
        some false
    else
      some false
def spec_l8Same (a0 : Formula) (a1 : Formula) : Option Bool := lim fun n => spec_l8SameN n a0 a1

def spec_IsInductionAxiom (a0 : Formula) : Option (Bool × Bool) :=
  Option.bind (spec_l8Good a0) fun v7 =>
  bif v7 then
    bif decide (a0.Op = (7 : Int)) then
      Option.bind (idx a0.Parts (1 : Int)) fun v15 =>
      bif decide (v15.Op = (8 : Int)) then
        Option.bind (idx a0.Parts (1 : Int)) fun v23 =>
        Option.bind (idx v23.Parts (0 : Int)) fun v26 =>
        Option.bind (idx a0.Parts (1 : Int)) fun v30 =>
        Option.bind (spec_InductionAxiom v26 v30.Var) fun v33 =>
        bif v33.2 then
          Option.bind (spec_l8Same a0 v33.1) fun v40 =>
          some (v40, true)
        else
          some (false, true)
      else
        some (false, true)
    else
      some (false, true)
  else
    some (false, false)

def impl_sizeOfN : Nat → Formula → Option Int
  | 0, _ => none
  | n + 1, a0 =>
    thenL (ρ := Int) (σ := Int) (forN (fun (i3 : Nat) (s3 : Int) =>
      Option.bind (idx a0.Parts (i3 : Int)) fun v11 =>
      bif decide ((40 : Int) < s3) then
        some (.rt s3)
      else
        Option.bind (impl_sizeOfN n v11) fun v18 =>
        some (.nx (IntKind.i64.wrap (s3 + v18)))) a0.Parts.length 0 (1 : Int)) fun s3 =>
    some s3
def impl_sizeOf (a0 : Formula) : Option Int := lim fun n => impl_sizeOfN n a0

def impl_isQuantifier (a0 : Int) : Option Bool :=
  bif decide (a0 = (8 : Int)) then
    some true
  else
    some (decide (a0 = (9 : Int)))

def impl_isBinary (a0 : Int) : Option Bool :=
  bif decide (a0 = (5 : Int)) then
    some true
  else
    bif decide (a0 = (6 : Int)) then
      some true
    else
      some (decide (a0 = (7 : Int)))

def impl_isUpper (a0 : Int) : Option Bool :=
  bif decide ((65 : Int) ≤ a0) then
    some (decide (a0 ≤ (90 : Int)))
  else
    some false

def impl_isLower (a0 : Int) : Option Bool :=
  bif decide ((97 : Int) ≤ a0) then
    some (decide (a0 ≤ (122 : Int)))
  else
    some false

def impl_isDigit (a0 : Int) : Option Bool :=
  bif decide ((48 : Int) ≤ a0) then
    some (decide (a0 ≤ (57 : Int)))
  else
    some false

def impl_within (a0 : Int) (a1 : Int) (a2 : Int) : Option Bool :=
  bif decide (a1 ≤ a0) then
    some (decide (a0 ≤ a2))
  else
    some false

def impl_isVariable (a0 : ByteArray) : Option Bool :=
  Option.bind (bnd (a0.size : Int)) fun N2 =>
  thenL (ρ := Bool) (σ := Unit) (forN (fun (i2 : Nat) (s2 : Unit) =>
    bif decide ((i2 : Int) = (0 : Int)) then
      Option.bind (sidx a0 (i2 : Int)) fun v14 =>
      Option.bind (impl_isUpper v14) fun v15 =>
      bif v15 then
        bif decide ((0 : Int) < (i2 : Int)) then
          Option.bind (sidx a0 (i2 : Int)) fun v24 =>
          Option.bind (impl_isLower v24) fun v25 =>
          bif v25 then
            some (.nx ())
          else
            Option.bind (sidx a0 (i2 : Int)) fun v31 =>
            Option.bind (impl_isDigit v31) fun v32 =>
            bif v32 then
              some (.nx ())
            else
              some (.rt false)
        else
          some (.nx ())
      else
        some (.rt false)
    else
      bif decide ((0 : Int) < (i2 : Int)) then
        Option.bind (sidx a0 (i2 : Int)) fun v24 =>
        Option.bind (impl_isLower v24) fun v25 =>
        bif v25 then
          some (.nx ())
        else
          Option.bind (sidx a0 (i2 : Int)) fun v31 =>
          Option.bind (impl_isDigit v31) fun v32 =>
          bif v32 then
            some (.nx ())
          else
            some (.rt false)
      else
        some (.nx ())) N2 0 ()) fun s2 =>
  Option.bind (impl_within (a0.size : Int) (1 : Int) (4 : Int)) fun v39 =>
  some v39

def impl_isEquality (a0 : Term) : Option Bool :=
  some (decide (a0.Name = (⟨#[61]⟩ : ByteArray)))

def impl_sizeN : Nat → Term → Option Int
  | 0, _ => none
  | n + 1, a0 =>
    thenL (ρ := Int) (σ := Int) (forN (fun (i3 : Nat) (s3 : Int) =>
      Option.bind (idx a0.Args (i3 : Int)) fun v11 =>
      bif decide ((30 : Int) < s3) then
        some (.rt s3)
      else
        Option.bind (impl_sizeN n v11) fun v18 =>
        some (.nx (IntKind.i64.wrap (s3 + v18)))) a0.Args.length 0 (1 : Int)) fun s3 =>
    some s3
def impl_size (a0 : Term) : Option Int := lim fun n => impl_sizeN n a0

def impl_depthN : Nat → Term → Option Int
  | 0, _ => none
  | n + 1, a0 =>
    thenL (ρ := Int) (σ := Int) (forN (fun (i3 : Nat) (s3 : Int) =>
      Option.bind (idx a0.Args (i3 : Int)) fun v11 =>
      Option.bind (impl_depthN n v11) fun v15 =>
      some (.nx (max s3 v15))) a0.Args.length 0 (0 : Int)) fun s3 =>
    some (IntKind.i64.wrap (s3 + (1 : Int)))
def impl_depth (a0 : Term) : Option Int := lim fun n => impl_depthN n a0

def impl_isSmall (a0 : Term) : Option Bool :=
  Option.bind (impl_size a0) fun v4 =>
  bif decide (v4 ≤ (30 : Int)) then
    Option.bind (impl_depth a0) fun v8 =>
    some (decide (v8 ≤ (8 : Int)))
  else
    some false

def impl_reserved  : Option (List ByteArray) :=
  some ([(⟨#[116, 114, 117, 101]⟩ : ByteArray), (⟨#[102, 97, 108, 115, 101]⟩ : ByteArray), (⟨#[116, 114, 117, 116, 104]⟩ : ByteArray), (⟨#[98, 111, 116, 104]⟩ : ByteArray), (⟨#[101, 105, 116, 104, 101, 114]⟩ : ByteArray), (⟨#[105, 102]⟩ : ByteArray), (⟨#[97, 108, 108]⟩ : ByteArray), (⟨#[115, 111, 109, 101]⟩ : ByteArray)])

def slices_Index_Sstring_string (a0 : List ByteArray) (a1 : ByteArray) : Option Int :=
  thenL (ρ := Int) (σ := Unit) (forN (fun (i2 : Nat) (s2 : Unit) =>
    Option.bind (idx a0 (i2 : Int)) fun v14 =>
    bif decide (a1 = v14) then
      some (.rt (i2 : Int))
    else
      some (.nx ())) a0.length 0 ()) fun s2 =>
  some (-1 : Int)

def slices_Contains_Sstring_string (a0 : List ByteArray) (a1 : ByteArray) : Option Bool :=
  Option.bind (slices_Index_Sstring_string a0 a1) fun v7 =>
  some (decide ((0 : Int) ≤ v7))

def impl_isSymbol (a0 : ByteArray) : Option Bool :=
  Option.bind (bnd (a0.size : Int)) fun N2 =>
  thenL (ρ := Bool) (σ := Unit) (forN (fun (i2 : Nat) (s2 : Unit) =>
    bif decide ((i2 : Int) = (0 : Int)) then
      Option.bind (sidx a0 (i2 : Int)) fun v14 =>
      Option.bind (impl_isLower v14) fun v15 =>
      bif v15 then
        Option.bind (sidx a0 (i2 : Int)) fun v21 =>
        Option.bind (impl_isLower v21) fun v22 =>
        bif v22 then
          some (.nx ())
        else
          Option.bind (sidx a0 (i2 : Int)) fun v27 =>
          Option.bind (impl_isDigit v27) fun v28 =>
          bif v28 then
            some (.nx ())
          else
            Option.bind (sidx a0 (i2 : Int)) fun v34 =>
            bif decide (v34 = (95 : Int)) then
              some (.nx ())
            else
              some (.rt false)
      else
        some (.rt false)
    else
      Option.bind (sidx a0 (i2 : Int)) fun v21 =>
      Option.bind (impl_isLower v21) fun v22 =>
      bif v22 then
        some (.nx ())
      else
        Option.bind (sidx a0 (i2 : Int)) fun v27 =>
        Option.bind (impl_isDigit v27) fun v28 =>
        bif v28 then
          some (.nx ())
        else
          Option.bind (sidx a0 (i2 : Int)) fun v34 =>
          bif decide (v34 = (95 : Int)) then
            some (.nx ())
          else
            some (.rt false)) N2 0 ()) fun s2 =>
  Option.bind (impl_within (a0.size : Int) (1 : Int) (6 : Int)) fun v41 =>
  bif v41 then
    Option.bind (impl_reserved ) fun v43 =>
    Option.bind (slices_Contains_Sstring_string v43 a0) fun v45 =>
    some (!v45)
  else
    some false

def slices_IndexFunc_Simpl_Term_impl_Term (a0 : List Term) (a1 : Term → Option Bool) : Option Int :=
  thenL (ρ := Int) (σ := Unit) (forN (fun (i2 : Nat) (s2 : Unit) =>
    Option.bind (idx a0 (i2 : Int)) fun v14 =>
    Option.bind (a1 v14) fun v16 =>
    bif v16 then
      some (.rt (i2 : Int))
    else
      some (.nx ())) a0.length 0 ()) fun s2 =>
  some (-1 : Int)

def slices_ContainsFunc_Simpl_Term_impl_Term (a0 : List Term) (a1 : Term → Option Bool) : Option Bool :=
  Option.bind (slices_IndexFunc_Simpl_Term_impl_Term a0 a1) fun v7 =>
  some (decide ((0 : Int) ≤ v7))

mutual
def impl_hasNamesN : Nat → Term → Option Bool
  | 0, _ => none
  | n + 1, a0 =>
    Option.bind (impl_isVariable a0.Name) fun v5 =>
    bif v5 then
      some (decide ((a0.Args.length : Int) = (0 : Int)))
    else
      Option.bind (impl_isSymbol a0.Name) fun v12 =>
      bif v12 then
        bif decide ((a0.Args.length : Int) ≤ (4 : Int)) then
          Option.bind (slices_ContainsFunc_Simpl_Term_impl_Term a0.Args (fun y0 => impl_hasNames_1N n y0)) fun v22 =>
          some (!v22)
        else
          some false
      else
        some false
def impl_hasNames_1N : Nat → Term → Option Bool
  | 0, _ => none
  | n + 1, a0 =>
    Option.bind (impl_hasNamesN n a0) fun v4 =>
    some (!v4)
end
def impl_hasNames (a0 : Term) : Option Bool := lim fun n => impl_hasNamesN n a0
def impl_hasNames_1 (a0 : Term) : Option Bool := lim fun n => impl_hasNames_1N n a0

def impl_IsValidTerm (a0 : Term) : Option Bool :=
  Option.bind (impl_isSmall a0) fun v4 =>
  bif v4 then
    Option.bind (impl_hasNames a0) fun v7 =>
    some v7
  else
    some false

def impl_IsValidAtom (a0 : Term) : Option Bool :=
  Option.bind (impl_isEquality a0) fun v4 =>
  bif v4 then
    bif decide ((a0.Args.length : Int) = (2 : Int)) then
      Option.bind (impl_isSmall a0) fun v11 =>
      bif v11 then
        Option.bind (idx a0.Args (0 : Int)) fun v16 =>
        Option.bind (impl_hasNames v16) fun v18 =>
        bif v18 then
          Option.bind (idx a0.Args (1 : Int)) fun v23 =>
          Option.bind (impl_hasNames v23) fun v25 =>
          some v25
        else
          some false
      else
        some false
    else
      some false
  else
    Option.bind (impl_isSymbol a0.Name) fun v29 =>
    bif v29 then
      Option.bind (impl_IsValidTerm a0) fun v32 =>
      some v32
    else
      some false

def impl_isZeroTerm (a0 : Term) : Option Bool :=
  bif decide (a0.Name = (⟨#[]⟩ : ByteArray)) then
    some (decide ((a0.Args.length : Int) = (0 : Int)))
  else
    some false

def slices_IndexFunc_Simpl_Formula_impl_Formula (a0 : List Formula) (a1 : Formula → Option Bool) : Option Int :=
  thenL (ρ := Int) (σ := Unit) (forN (fun (i2 : Nat) (s2 : Unit) =>
    Option.bind (idx a0 (i2 : Int)) fun v14 =>
    Option.bind (a1 v14) fun v16 =>
    bif v16 then
      some (.rt (i2 : Int))
    else
      some (.nx ())) a0.length 0 ()) fun s2 =>
  some (-1 : Int)

def slices_ContainsFunc_Simpl_Formula_impl_Formula (a0 : List Formula) (a1 : Formula → Option Bool) : Option Bool :=
  Option.bind (slices_IndexFunc_Simpl_Formula_impl_Formula a0 a1) fun v7 =>
  some (decide ((0 : Int) ≤ v7))

mutual
def impl_hasFormN : Nat → Formula → Option Bool
  | 0, _ => none
  | n + 1, a0 =>
    bif decide (a0.Op = (1 : Int)) then
      bif decide ((a0.Parts.length : Int) = (0 : Int)) then
        Option.bind (impl_isQuantifier a0.Op) fun v33 =>
        bif v33 then
          Option.bind (impl_isVariable a0.Var) fun v37 =>
          bif v37 then
            Option.bind (impl_isQuantifier a0.Op) fun v44 =>
            bif v44 then
              bif decide (a0.Op = (3 : Int)) then
                Option.bind (impl_IsValidAtom a0.Atom) fun v58 =>
                bif v58 then
                  Option.bind (slices_ContainsFunc_Simpl_Formula_impl_Formula a0.Parts (fun y0 => impl_hasForm_1N n y0)) fun v74 =>
                  some (!v74)
                else
                  some false
              else
                Option.bind (impl_isZeroTerm a0.Atom) fun v68 =>
                bif v68 then
                  Option.bind (slices_ContainsFunc_Simpl_Formula_impl_Formula a0.Parts (fun y0 => impl_hasForm_1N n y0)) fun v74 =>
                  some (!v74)
                else
                  some false
            else
              bif decide (a0.Var = (⟨#[]⟩ : ByteArray)) then
                bif decide (a0.Op = (3 : Int)) then
                  Option.bind (impl_IsValidAtom a0.Atom) fun v58 =>
                  bif v58 then
                    Option.bind (slices_ContainsFunc_Simpl_Formula_impl_Formula a0.Parts (fun y0 => impl_hasForm_1N n y0)) fun v74 =>
                    some (!v74)
                  else
                    some false
                else
                  Option.bind (impl_isZeroTerm a0.Atom) fun v68 =>
                  bif v68 then
                    Option.bind (slices_ContainsFunc_Simpl_Formula_impl_Formula a0.Parts (fun y0 => impl_hasForm_1N n y0)) fun v74 =>
                    some (!v74)
                  else
                    some false
              else
                some false
          else
            some false
        else
          Option.bind (impl_isQuantifier a0.Op) fun v44 =>
          bif v44 then
            bif decide (a0.Op = (3 : Int)) then
              Option.bind (impl_IsValidAtom a0.Atom) fun v58 =>
              bif v58 then
                Option.bind (slices_ContainsFunc_Simpl_Formula_impl_Formula a0.Parts (fun y0 => impl_hasForm_1N n y0)) fun v74 =>
                some (!v74)
              else
                some false
            else
              Option.bind (impl_isZeroTerm a0.Atom) fun v68 =>
              bif v68 then
                Option.bind (slices_ContainsFunc_Simpl_Formula_impl_Formula a0.Parts (fun y0 => impl_hasForm_1N n y0)) fun v74 =>
                some (!v74)
              else
                some false
          else
            bif decide (a0.Var = (⟨#[]⟩ : ByteArray)) then
              bif decide (a0.Op = (3 : Int)) then
                Option.bind (impl_IsValidAtom a0.Atom) fun v58 =>
                bif v58 then
                  Option.bind (slices_ContainsFunc_Simpl_Formula_impl_Formula a0.Parts (fun y0 => impl_hasForm_1N n y0)) fun v74 =>
                  some (!v74)
                else
                  some false
              else
                Option.bind (impl_isZeroTerm a0.Atom) fun v68 =>
                bif v68 then
                  Option.bind (slices_ContainsFunc_Simpl_Formula_impl_Formula a0.Parts (fun y0 => impl_hasForm_1N n y0)) fun v74 =>
                  some (!v74)
                else
                  some false
            else
              some false
      else
        some false
    else
      bif decide (a0.Op = (2 : Int)) then
        bif decide ((a0.Parts.length : Int) = (0 : Int)) then
          Option.bind (impl_isQuantifier a0.Op) fun v33 =>
          bif v33 then
            Option.bind (impl_isVariable a0.Var) fun v37 =>
            bif v37 then
              Option.bind (impl_isQuantifier a0.Op) fun v44 =>
              bif v44 then
                bif decide (a0.Op = (3 : Int)) then
                  Option.bind (impl_IsValidAtom a0.Atom) fun v58 =>
                  bif v58 then
                    Option.bind (slices_ContainsFunc_Simpl_Formula_impl_Formula a0.Parts (fun y0 => impl_hasForm_1N n y0)) fun v74 =>
                    some (!v74)
                  else
                    some false
                else
                  Option.bind (impl_isZeroTerm a0.Atom) fun v68 =>
                  bif v68 then
                    Option.bind (slices_ContainsFunc_Simpl_Formula_impl_Formula a0.Parts (fun y0 => impl_hasForm_1N n y0)) fun v74 =>
                    some (!v74)
                  else
                    some false
              else
                bif decide (a0.Var = (⟨#[]⟩ : ByteArray)) then
                  bif decide (a0.Op = (3 : Int)) then
                    Option.bind (impl_IsValidAtom a0.Atom) fun v58 =>
                    bif v58 then
                      Option.bind (slices_ContainsFunc_Simpl_Formula_impl_Formula a0.Parts (fun y0 => impl_hasForm_1N n y0)) fun v74 =>
                      some (!v74)
                    else
                      some false
                  else
                    Option.bind (impl_isZeroTerm a0.Atom) fun v68 =>
                    bif v68 then
                      Option.bind (slices_ContainsFunc_Simpl_Formula_impl_Formula a0.Parts (fun y0 => impl_hasForm_1N n y0)) fun v74 =>
                      some (!v74)
                    else
                      some false
                else
                  some false
            else
              some false
          else
            Option.bind (impl_isQuantifier a0.Op) fun v44 =>
            bif v44 then
              bif decide (a0.Op = (3 : Int)) then
                Option.bind (impl_IsValidAtom a0.Atom) fun v58 =>
                bif v58 then
                  Option.bind (slices_ContainsFunc_Simpl_Formula_impl_Formula a0.Parts (fun y0 => impl_hasForm_1N n y0)) fun v74 =>
                  some (!v74)
                else
                  some false
              else
                Option.bind (impl_isZeroTerm a0.Atom) fun v68 =>
                bif v68 then
                  Option.bind (slices_ContainsFunc_Simpl_Formula_impl_Formula a0.Parts (fun y0 => impl_hasForm_1N n y0)) fun v74 =>
                  some (!v74)
                else
                  some false
            else
              bif decide (a0.Var = (⟨#[]⟩ : ByteArray)) then
                bif decide (a0.Op = (3 : Int)) then
                  Option.bind (impl_IsValidAtom a0.Atom) fun v58 =>
                  bif v58 then
                    Option.bind (slices_ContainsFunc_Simpl_Formula_impl_Formula a0.Parts (fun y0 => impl_hasForm_1N n y0)) fun v74 =>
                    some (!v74)
                  else
                    some false
                else
                  Option.bind (impl_isZeroTerm a0.Atom) fun v68 =>
                  bif v68 then
                    Option.bind (slices_ContainsFunc_Simpl_Formula_impl_Formula a0.Parts (fun y0 => impl_hasForm_1N n y0)) fun v74 =>
                    some (!v74)
                  else
                    some false
              else
                some false
        else
          some false
      else
        bif decide (a0.Op = (3 : Int)) then
          bif decide ((a0.Parts.length : Int) = (0 : Int)) then
            Option.bind (impl_isQuantifier a0.Op) fun v33 =>
            bif v33 then
              Option.bind (impl_isVariable a0.Var) fun v37 =>
              bif v37 then
                Option.bind (impl_isQuantifier a0.Op) fun v44 =>
                bif v44 then
                  Option.bind (impl_IsValidAtom a0.Atom) fun v58 =>
                  bif v58 then
                    Option.bind (slices_ContainsFunc_Simpl_Formula_impl_Formula a0.Parts (fun y0 => impl_hasForm_1N n y0)) fun v74 =>
                    some (!v74)
                  else
                    some false
                else
                  bif decide (a0.Var = (⟨#[]⟩ : ByteArray)) then
                    Option.bind (impl_IsValidAtom a0.Atom) fun v58 =>
                    bif v58 then
                      Option.bind (slices_ContainsFunc_Simpl_Formula_impl_Formula a0.Parts (fun y0 => impl_hasForm_1N n y0)) fun v74 =>
                      some (!v74)
                    else
                      some false
                  else
                    some false
              else
                some false
            else
              Option.bind (impl_isQuantifier a0.Op) fun v44 =>
              bif v44 then
                Option.bind (impl_IsValidAtom a0.Atom) fun v58 =>
                bif v58 then
                  Option.bind (slices_ContainsFunc_Simpl_Formula_impl_Formula a0.Parts (fun y0 => impl_hasForm_1N n y0)) fun v74 =>
                  some (!v74)
                else
                  some false
              else
                bif decide (a0.Var = (⟨#[]⟩ : ByteArray)) then
                  Option.bind (impl_IsValidAtom a0.Atom) fun v58 =>
                  bif v58 then
                    Option.bind (slices_ContainsFunc_Simpl_Formula_impl_Formula a0.Parts (fun y0 => impl_hasForm_1N n y0)) fun v74 =>
                    some (!v74)
                  else
                    some false
                else
                  some false
          else
            some false
        else
          bif decide (a0.Op = (4 : Int)) then
            bif decide ((a0.Parts.length : Int) = (1 : Int)) then
              Option.bind (impl_isQuantifier a0.Op) fun v33 =>
              bif v33 then
                Option.bind (impl_isVariable a0.Var) fun v37 =>
                bif v37 then
                  Option.bind (impl_isQuantifier a0.Op) fun v44 =>
                  bif v44 then
                    Option.bind (impl_isZeroTerm a0.Atom) fun v68 =>
                    bif v68 then
                      Option.bind (slices_ContainsFunc_Simpl_Formula_impl_Formula a0.Parts (fun y0 => impl_hasForm_1N n y0)) fun v74 =>
                      some (!v74)
                    else
                      some false
                  else
                    bif decide (a0.Var = (⟨#[]⟩ : ByteArray)) then
                      Option.bind (impl_isZeroTerm a0.Atom) fun v68 =>
                      bif v68 then
                        Option.bind (slices_ContainsFunc_Simpl_Formula_impl_Formula a0.Parts (fun y0 => impl_hasForm_1N n y0)) fun v74 =>
                        some (!v74)
                      else
                        some false
                    else
                      some false
                else
                  some false
              else
                Option.bind (impl_isQuantifier a0.Op) fun v44 =>
                bif v44 then
                  Option.bind (impl_isZeroTerm a0.Atom) fun v68 =>
                  bif v68 then
                    Option.bind (slices_ContainsFunc_Simpl_Formula_impl_Formula a0.Parts (fun y0 => impl_hasForm_1N n y0)) fun v74 =>
                    some (!v74)
                  else
                    some false
                else
                  bif decide (a0.Var = (⟨#[]⟩ : ByteArray)) then
                    Option.bind (impl_isZeroTerm a0.Atom) fun v68 =>
                    bif v68 then
                      Option.bind (slices_ContainsFunc_Simpl_Formula_impl_Formula a0.Parts (fun y0 => impl_hasForm_1N n y0)) fun v74 =>
                      some (!v74)
                    else
                      some false
                  else
                    some false
            else
              some false
          else
            Option.bind (impl_isQuantifier a0.Op) fun v20 =>
            bif v20 then
              bif decide ((a0.Parts.length : Int) = (1 : Int)) then
                Option.bind (impl_isQuantifier a0.Op) fun v33 =>
                bif v33 then
                  Option.bind (impl_isVariable a0.Var) fun v37 =>
                  bif v37 then
                    Option.bind (impl_isQuantifier a0.Op) fun v44 =>
                    bif v44 then
                      Option.bind (impl_isZeroTerm a0.Atom) fun v68 =>
                      bif v68 then
                        Option.bind (slices_ContainsFunc_Simpl_Formula_impl_Formula a0.Parts (fun y0 => impl_hasForm_1N n y0)) fun v74 =>
                        some (!v74)
                      else
                        some false
                    else
                      bif decide (a0.Var = (⟨#[]⟩ : ByteArray)) then
                        Option.bind (impl_isZeroTerm a0.Atom) fun v68 =>
                        bif v68 then
                          Option.bind (slices_ContainsFunc_Simpl_Formula_impl_Formula a0.Parts (fun y0 => impl_hasForm_1N n y0)) fun v74 =>
                          some (!v74)
                        else
                          some false
                      else
                        some false
                  else
                    some false
                else
                  Option.bind (impl_isQuantifier a0.Op) fun v44 =>
                  bif v44 then
                    Option.bind (impl_isZeroTerm a0.Atom) fun v68 =>
                    bif v68 then
                      Option.bind (slices_ContainsFunc_Simpl_Formula_impl_Formula a0.Parts (fun y0 => impl_hasForm_1N n y0)) fun v74 =>
                      some (!v74)
                    else
                      some false
                  else
                    bif decide (a0.Var = (⟨#[]⟩ : ByteArray)) then
                      Option.bind (impl_isZeroTerm a0.Atom) fun v68 =>
                      bif v68 then
                        Option.bind (slices_ContainsFunc_Simpl_Formula_impl_Formula a0.Parts (fun y0 => impl_hasForm_1N n y0)) fun v74 =>
                        some (!v74)
                      else
                        some false
                    else
                      some false
              else
                some false
            else
              Option.bind (impl_isBinary a0.Op) fun v24 =>
              bif v24 then
                bif decide ((a0.Parts.length : Int) = (2 : Int)) then
                  Option.bind (impl_isQuantifier a0.Op) fun v33 =>
                  bif v33 then
                    Option.bind (impl_isVariable a0.Var) fun v37 =>
                    bif v37 then
                      Option.bind (impl_isQuantifier a0.Op) fun v44 =>
                      bif v44 then
                        Option.bind (impl_isZeroTerm a0.Atom) fun v68 =>
                        bif v68 then
                          Option.bind (slices_ContainsFunc_Simpl_Formula_impl_Formula a0.Parts (fun y0 => impl_hasForm_1N n y0)) fun v74 =>
                          some (!v74)
                        else
                          some false
                      else
                        bif decide (a0.Var = (⟨#[]⟩ : ByteArray)) then
                          Option.bind (impl_isZeroTerm a0.Atom) fun v68 =>
                          bif v68 then
                            Option.bind (slices_ContainsFunc_Simpl_Formula_impl_Formula a0.Parts (fun y0 => impl_hasForm_1N n y0)) fun v74 =>
                            some (!v74)
                          else
                            some false
                        else
                          some false
                    else
                      some false
                  else
                    Option.bind (impl_isQuantifier a0.Op) fun v44 =>
                    bif v44 then
                      Option.bind (impl_isZeroTerm a0.Atom) fun v68 =>
                      bif v68 then
                        Option.bind (slices_ContainsFunc_Simpl_Formula_impl_Formula a0.Parts (fun y0 => impl_hasForm_1N n y0)) fun v74 =>
                        some (!v74)
                      else
                        some false
                    else
                      bif decide (a0.Var = (⟨#[]⟩ : ByteArray)) then
                        Option.bind (impl_isZeroTerm a0.Atom) fun v68 =>
                        bif v68 then
                          Option.bind (slices_ContainsFunc_Simpl_Formula_impl_Formula a0.Parts (fun y0 => impl_hasForm_1N n y0)) fun v74 =>
                          some (!v74)
                        else
                          some false
                      else
                        some false
                else
                  some false
              else
                some false
def impl_hasForm_1N : Nat → Formula → Option Bool
  | 0, _ => none
  | n + 1, a0 =>
    Option.bind (impl_hasFormN n a0) fun v4 =>
    some (!v4)
end
def impl_hasForm (a0 : Formula) : Option Bool := lim fun n => impl_hasFormN n a0
def impl_hasForm_1 (a0 : Formula) : Option Bool := lim fun n => impl_hasForm_1N n a0

def impl_IsValidFormula (a0 : Formula) : Option Bool :=
  Option.bind (impl_sizeOf a0) fun v4 =>
  bif decide (v4 ≤ (40 : Int)) then
    Option.bind (impl_hasForm a0) fun v8 =>
    some v8
  else
    some false

def impl_zero  : Option Term :=
  some (Term.mk (⟨#[122, 101, 114, 111]⟩ : ByteArray) ([]))

def impl_isVar (a0 : Term) : Option Bool :=
  Option.bind (sidx a0.Name (0 : Int)) fun v5 =>
  Option.bind (impl_isUpper v5) fun v6 =>
  some v6

def impl_collectN : Nat → (List ByteArray) → Term → Option (List ByteArray)
  | 0, _, _ => none
  | n + 1, a0, a1 =>
    bif decide ((a1.Args.length : Int) = (0 : Int)) then
      Option.bind (impl_isVar a1) fun v13 =>
      bif v13 then
        Option.bind (slices_Contains_Sstring_string a0 a1.Name) fun v18 =>
        bif v18 then
          some a0
        else
          Option.bind (app a0 ([a1.Name])) fun v24 =>
          some v24
      else
        thenL (ρ := (List ByteArray)) (σ := (List ByteArray)) (forN (fun (i6 : Nat) (s6 : (List ByteArray)) =>
          Option.bind (idx a1.Args (i6 : Int)) fun v31 =>
          Option.bind (impl_collectN n s6 v31) fun v35 =>
          some (.nx v35)) a1.Args.length 0 a0) fun s6 =>
        some s6
    else
      thenL (ρ := (List ByteArray)) (σ := (List ByteArray)) (forN (fun (i6 : Nat) (s6 : (List ByteArray)) =>
        Option.bind (idx a1.Args (i6 : Int)) fun v31 =>
        Option.bind (impl_collectN n s6 v31) fun v35 =>
        some (.nx v35)) a1.Args.length 0 a0) fun s6 =>
      some s6
def impl_collect (a0 : List ByteArray) (a1 : Term) : Option (List ByteArray) := lim fun n => impl_collectN n a0 a1

def sortB (a : List ByteArray) : List ByteArray := ((a.map fun x => x.data.toList).mergeSort fun x y => decide (x ≤ y)).map fun l => ⟨l.toArray⟩
def slices_SortS (a0 : List ByteArray) : Option (Unit × List ByteArray) := if a0.length < 4611686018427387904 then some ((), sortB a0) else none

def impl_variables (a0 : Term) : Option (List ByteArray) :=
  Option.bind (impl_collect ([]) a0) fun v6 =>
  Option.bind (slices_SortS v6) fun v8 =>
  some v8.2

def slices_Clone_Sstring_string (a0 : List ByteArray) : Option (List ByteArray) :=
  Option.bind (app ([]) a0) fun v7 =>
  some v7

def impl_gatherN : Nat → (List ByteArray) → Formula → (List ByteArray) → Option (List ByteArray)
  | 0, _, _, _ => none
  | n + 1, a0, a1, a2 =>
    bif decide (a1.Op = (3 : Int)) then
      Option.bind (impl_variables a1.Atom) fun v16 =>
      thenL (ρ := (List ByteArray)) (σ := (List ByteArray)) (forN (fun (i3 : Nat) (s3 : (List ByteArray)) =>
        Option.bind (idx v16 (i3 : Int)) fun v20 =>
        Option.bind (idx v16 (i3 : Int)) fun v21 =>
        Option.bind (slices_Contains_Sstring_string a2 v21) fun v24 =>
        bif v24 then
          some (.nx s3)
        else
          Option.bind (slices_Contains_Sstring_string s3 v21) fun v29 =>
          bif v29 then
            some (.nx s3)
          else
            Option.bind (app s3 ([v21])) fun v35 =>
            some (.nx v35)) v16.length 0 a0) fun s3 =>
      some s3
    else
      Option.bind (impl_isQuantifier a1.Op) fun v40 =>
      bif v40 then
        Option.bind (slices_Clone_Sstring_string a2) fun v42 =>
        Option.bind (app v42 ([a1.Var])) fun v46 =>
        thenL (ρ := (List ByteArray)) (σ := (List ByteArray)) (forN (fun (i12 : Nat) (s12 : (List ByteArray)) =>
          Option.bind (idx a1.Parts (i12 : Int)) fun v52 =>
          Option.bind (impl_gatherN n s12 v52 v46) fun v57 =>
          some (.nx v57)) a1.Parts.length 0 a0) fun s12 =>
        some s12
      else
        thenL (ρ := (List ByteArray)) (σ := (List ByteArray)) (forN (fun (i12 : Nat) (s12 : (List ByteArray)) =>
          Option.bind (idx a1.Parts (i12 : Int)) fun v52 =>
          Option.bind (impl_gatherN n s12 v52 a2) fun v57 =>
          some (.nx v57)) a1.Parts.length 0 a0) fun s12 =>
        some s12
def impl_gather (a0 : List ByteArray) (a1 : Formula) (a2 : List ByteArray) : Option (List ByteArray) := lim fun n => impl_gatherN n a0 a1 a2

def impl_free (a0 : Formula) : Option (List ByteArray) :=
  Option.bind (impl_gather ([]) a0 ([])) fun v6 =>
  Option.bind (slices_SortS v6) fun v8 =>
  some v8.2

mutual
def impl_copyTermN : Nat → Term → Option Term
  | 0, _ => none
  | n + 1, a0 =>
    Option.bind (impl_copyTermsN n a0.Args) fun v7 =>
    some (Term.mk a0.Name v7)
def impl_copyTermsN : Nat → (List Term) → Option (List Term)
  | 0, _ => none
  | n + 1, a0 =>
    bif decide ((a0.length : Int) = (0 : Int)) then
      some ([])
    else
      Option.bind (mkn (a0.length : Int)) fun n11 =>
      thenL (ρ := (List Term)) (σ := (List Term)) (forN (fun (i5 : Nat) (s5 : (List Term)) =>
        Option.bind (idx a0 (i5 : Int)) fun v17 =>
        Option.bind (impl_copyTermN n v17) fun v22 =>
        Option.bind (idx s5 (i5 : Int)) fun v23 =>
        Option.bind (idx s5 (i5 : Int)) fun w3 =>
        some (.nx (s5.set (i5 : Int).toNat v22))) a0.length 0 (List.replicate n11 (Term.mk (⟨#[]⟩ : ByteArray) ([])))) fun s5 =>
      some s5
end
def impl_copyTerm (a0 : Term) : Option Term := lim fun n => impl_copyTermN n a0
def impl_copyTerms (a0 : List Term) : Option (List Term) := lim fun n => impl_copyTermsN n a0

def impl_mapParts (a0 : Formula) (a1 : Formula → Option Formula) : Option Formula :=
  Option.bind (impl_copyTerm a0.Atom) fun v12 =>
  thenL (ρ := Formula) (σ := (List Formula)) (forN (fun (i3 : Nat) (s3 : (List Formula)) =>
    Option.bind (idx a0.Parts (i3 : Int)) fun v21 =>
    Option.bind (a1 v21) fun v27 =>
    Option.bind (app s3 ([v27])) fun v29 =>
    some (.nx v29)) a0.Parts.length 0 ([])) fun s3 =>
  some (Formula.mk a0.Op v12 a0.Var s3)

def impl_copyFormulaN : Nat → Formula → Option Formula
  | 0, _ => none
  | n + 1, a0 =>
    Option.bind (impl_mapParts a0 (fun y0 => impl_copyFormulaN n y0)) fun v4 =>
    some v4
def impl_copyFormula (a0 : Formula) : Option Formula := lim fun n => impl_copyFormulaN n a0

def impl_countNameN : Nat → Term → ByteArray → Option Int
  | 0, _, _ => none
  | n + 1, a0, a1 =>
    bif decide (a0.Name = a1) then
      thenL (ρ := Int) (σ := Int) (forN (fun (i5 : Nat) (s5 : Int) =>
        Option.bind (idx a0.Args (i5 : Int)) fun v17 =>
        Option.bind (impl_countNameN n v17 a1) fun v22 =>
        some (.nx (IntKind.i64.wrap (s5 + v22)))) a0.Args.length 0 (1 : Int)) fun s5 =>
      some s5
    else
      thenL (ρ := Int) (σ := Int) (forN (fun (i5 : Nat) (s5 : Int) =>
        Option.bind (idx a0.Args (i5 : Int)) fun v17 =>
        Option.bind (impl_countNameN n v17 a1) fun v22 =>
        some (.nx (IntKind.i64.wrap (s5 + v22)))) a0.Args.length 0 (0 : Int)) fun s5 =>
      some s5
def impl_countName (a0 : Term) (a1 : ByteArray) : Option Int := lim fun n => impl_countNameN n a0 a1

def impl_occurs (a0 : ByteArray) (a1 : Term) : Option Bool :=
  Option.bind (impl_countName a1 a0) fun v7 =>
  some (decide ((0 : Int) < v7))

def cmp_isNaN_string (a0 : ByteArray) : Option Bool :=
  some (!(decide (a0 = a0)))

def cmp_Compare_string (a0 : ByteArray) (a1 : ByteArray) : Option Int :=
  Option.bind (cmp_isNaN_string a0) fun v8 =>
  Option.bind (cmp_isNaN_string a1) fun v10 =>
  bif v8 then
    bif v10 then
      some (0 : Int)
    else
      some (-1 : Int)
  else
    bif v10 then
      some (1 : Int)
    else
      bif Op.bytesLess a0.data.toList a1.data.toList then
        some (-1 : Int)
      else
        bif decide (a0 = a1) then
          some (0 : Int)
        else
          some (1 : Int)

def impl_Substitution__term_1 (a0 : Binding) (a1 : ByteArray) : Option Int :=
  Option.bind (cmp_Compare_string a0.Var a1) fun v8 =>
  some v8

def slices_BinarySearchFunc_Simpl_Binding_impl_Binding_string (a0 : List Binding) (a1 : ByteArray) (a2 : Binding → ByteArray → Option Int) : Option (Int × Bool) :=
  thenL (ρ := (Int × Bool)) (σ := Int × Int) (lim fun n3 => whileN (fun (s3 : Int × Int) =>
    bif decide (s3.1 < s3.2) then
      Option.bind (shr .u64 (IntKind.u64.wrap (IntKind.i64.wrap (s3.1 + s3.2))) (1 : Int)) fun v22 =>
      Option.bind (idx a0 (IntKind.i64.wrap v22)) fun v27 =>
      Option.bind (a2 v27 a1) fun v30 =>
      bif decide (v30 < (0 : Int)) then
        some (.nx (IntKind.i64.wrap ((IntKind.i64.wrap v22) + (1 : Int)), s3.2))
      else
        some (.nx (s3.1, IntKind.i64.wrap v22))
    else
      some (.br s3)) n3 ((0 : Int), (a0.length : Int))) fun s3 =>
  bif decide (s3.1 < (a0.length : Int)) then
    Option.bind (idx a0 s3.1) fun v43 =>
    Option.bind (a2 v43 a1) fun v46 =>
    some (s3.1, decide (v46 = (0 : Int)))
  else
    some (s3.1, false)

def impl_Substitution__term (a0 : Substitution) (a1 : ByteArray) : Option (Term × Bool) :=
  Option.bind (slices_BinarySearchFunc_Simpl_Binding_impl_Binding_string a0.Bindings a1 (fun y0 y1 => impl_Substitution__term_1 y0 y1)) fun v12 =>
  bif v12.2 then
    Option.bind (idx a0.Bindings v12.1) fun v21 =>
    some (v21.Term, true)
  else
    some ((Term.mk (⟨#[]⟩ : ByteArray) ([])), false)

def impl_Substitution__applyN : Nat → Substitution → Term → Option Term
  | 0, _, _ => none
  | n + 1, a0, a1 =>
    bif decide ((a1.Args.length : Int) = (0 : Int)) then
      Option.bind (impl_Substitution__term a0 a1.Name) fun v18 =>
      bif v18.2 then
        Option.bind (impl_copyTerm v18.1) fun v23 =>
        some v23
      else
        some (Term.mk a1.Name ([]))
    else
      Option.bind (mkn (a1.Args.length : Int)) fun n32 =>
      thenL (ρ := Term) (σ := (List Term)) (forN (fun (i8 : Nat) (s8 : (List Term)) =>
        Option.bind (idx a1.Args (i8 : Int)) fun v40 =>
        Option.bind (impl_Substitution__applyN n a0 v40) fun v47 =>
        Option.bind (idx s8 (i8 : Int)) fun v48 =>
        Option.bind (idx s8 (i8 : Int)) fun w4 =>
        some (.nx (s8.set (i8 : Int).toNat v47))) a1.Args.length 0 (List.replicate n32 (Term.mk (⟨#[]⟩ : ByteArray) ([])))) fun s8 =>
      some (Term.mk a1.Name s8)
def impl_Substitution__apply (a0 : Substitution) (a1 : Term) : Option Term := lim fun n => impl_Substitution__applyN n a0 a1

def impl_mapParts_fh1Bool (a0 : Formula) (a1 : Formula → Bool → Option (Formula × Bool)) (a1_s : Bool) : Option (Formula × Bool) :=
  Option.bind (impl_copyTerm a0.Atom) fun v12 =>
  thenL (ρ := (Formula × Bool)) (σ := Bool × (List Formula)) (forN (fun (i3 : Nat) (s3 : Bool × (List Formula)) =>
    Option.bind (idx a0.Parts (i3 : Int)) fun v21 =>
    Option.bind (a1 v21 s3.1) fun v27 =>
    Option.bind (app s3.2 ([v27.1])) fun v29 =>
    some (.nx (v27.2, v29))) a0.Parts.length 0 (a1_s, [])) fun s3 =>
  some ((Formula.mk a0.Op v12 a0.Var s3.2), s3.1)

mutual
def impl_substitutedN : Nat → Formula → ByteArray → Term → Option (Formula × Bool)
  | 0, _, _, _ => none
  | n + 1, a0, a1, a2 =>
    Option.bind (impl_isQuantifier a0.Op) fun v12 =>
    bif v12 then
      bif decide (a0.Var = a1) then
        Option.bind (impl_copyFormula a0) fun v27 =>
        some (v27, true)
      else
        Option.bind (impl_free a0) fun v20 =>
        Option.bind (slices_Contains_Sstring_string v20 a1) fun v22 =>
        bif v22 then
          Option.bind (impl_isQuantifier a0.Op) fun v30 =>
          bif v30 then
            Option.bind (impl_occurs a0.Var a2) fun v35 =>
            bif v35 then
              some ((Formula.mk (0 : Int) (Term.mk (⟨#[]⟩ : ByteArray) ([])) (⟨#[]⟩ : ByteArray) ([])), false)
            else
              Option.bind (impl_mapParts_fh1Bool a0 (fun y0 s => impl_substituted_1N n y0 a1 a2 s) true) fun v40 =>
              bif decide (a0.Op = (3 : Int)) then
                Option.bind (impl_Substitution__apply (Substitution.mk ([(Binding.mk a1 a2)])) a0.Atom) fun v51 =>
                some ((Formula.mk v40.1.Op v51 v40.1.Var v40.1.Parts), v40.2)
              else
                some (v40.1, v40.2)
          else
            Option.bind (impl_mapParts_fh1Bool a0 (fun y0 s => impl_substituted_1N n y0 a1 a2 s) true) fun v40 =>
            bif decide (a0.Op = (3 : Int)) then
              Option.bind (impl_Substitution__apply (Substitution.mk ([(Binding.mk a1 a2)])) a0.Atom) fun v51 =>
              some ((Formula.mk v40.1.Op v51 v40.1.Var v40.1.Parts), v40.2)
            else
              some (v40.1, v40.2)
        else
          Option.bind (impl_copyFormula a0) fun v27 =>
          some (v27, true)
    else
      Option.bind (impl_isQuantifier a0.Op) fun v30 =>
      bif v30 then
        Option.bind (impl_occurs a0.Var a2) fun v35 =>
        bif v35 then
          some ((Formula.mk (0 : Int) (Term.mk (⟨#[]⟩ : ByteArray) ([])) (⟨#[]⟩ : ByteArray) ([])), false)
        else
          Option.bind (impl_mapParts_fh1Bool a0 (fun y0 s => impl_substituted_1N n y0 a1 a2 s) true) fun v40 =>
          bif decide (a0.Op = (3 : Int)) then
            Option.bind (impl_Substitution__apply (Substitution.mk ([(Binding.mk a1 a2)])) a0.Atom) fun v51 =>
            some ((Formula.mk v40.1.Op v51 v40.1.Var v40.1.Parts), v40.2)
          else
            some (v40.1, v40.2)
      else
        Option.bind (impl_mapParts_fh1Bool a0 (fun y0 s => impl_substituted_1N n y0 a1 a2 s) true) fun v40 =>
        bif decide (a0.Op = (3 : Int)) then
          Option.bind (impl_Substitution__apply (Substitution.mk ([(Binding.mk a1 a2)])) a0.Atom) fun v51 =>
          some ((Formula.mk v40.1.Op v51 v40.1.Var v40.1.Parts), v40.2)
        else
          some (v40.1, v40.2)
def impl_substituted_1N : Nat → Formula → ByteArray → Term → Bool → Option (Formula × Bool)
  | 0, _, _, _, _ => none
  | n + 1, a0, b0, b1, b2 =>
    Option.bind (impl_substitutedN n a0 b0 b1) fun v12 =>
    bif b2 then
      some (v12.1, v12.2)
    else
      some (v12.1, false)
end
def impl_substituted (a0 : Formula) (a1 : ByteArray) (a2 : Term) : Option (Formula × Bool) := lim fun n => impl_substitutedN n a0 a1 a2
def impl_substituted_1 (a0 : Formula) (b0 : ByteArray) (b1 : Term) (b2 : Bool) : Option (Formula × Bool) := lim fun n => impl_substituted_1N n a0 b0 b1 b2

def impl_ifFormula (a0 : Formula) : Option (Formula × Bool) :=
  Option.bind (impl_IsValidFormula a0) fun v5 =>
  bif v5 then
    some (a0, true)
  else
    some ((Formula.mk (0 : Int) (Term.mk (⟨#[]⟩ : ByteArray) ([])) (⟨#[]⟩ : ByteArray) ([])), false)


def impl_SubstituteFormula (a0 : Formula) (a1 : ByteArray) (a2 : Term) : Option (Formula × Bool) :=
  Option.bind (impl_IsValidFormula a0) fun v11 =>
  bif v11 then
    Option.bind (impl_isVariable a1) fun v15 =>
    bif v15 then
      Option.bind (impl_IsValidTerm a2) fun v20 =>
      bif v20 then
        Option.bind (impl_substituted a0 a1 a2) fun v28 =>
        bif v28.2 then
          Option.bind (impl_ifFormula v28.1) fun v35 =>
          some (v35.1, v35.2)
        else
          some ((Formula.mk (0 : Int) (Term.mk (⟨#[]⟩ : ByteArray) ([])) (⟨#[]⟩ : ByteArray) ([])), false)
      else
        some ((Formula.mk (0 : Int) (Term.mk (⟨#[]⟩ : ByteArray) ([])) (⟨#[]⟩ : ByteArray) ([])), false)
    else
      some ((Formula.mk (0 : Int) (Term.mk (⟨#[]⟩ : ByteArray) ([])) (⟨#[]⟩ : ByteArray) ([])), false)
  else
    some ((Formula.mk (0 : Int) (Term.mk (⟨#[]⟩ : ByteArray) ([])) (⟨#[]⟩ : ByteArray) ([])), false)

def impl_successor (a0 : Term) : Option Term :=
  some (Term.mk (⟨#[115]⟩ : ByteArray) ([a0]))

def impl_binary (a0 : Int) (a1 : Formula) (a2 : Formula) : Option Formula :=
  some (Formula.mk a0 (Term.mk (⟨#[]⟩ : ByteArray) ([])) (⟨#[]⟩ : ByteArray) ([a1, a2]))

def impl_quantified (a0 : Int) (a1 : ByteArray) (a2 : Formula) : Option Formula :=
  some (Formula.mk a0 (Term.mk (⟨#[]⟩ : ByteArray) ([])) a1 ([a2]))



def impl_InductionAxiom (a0 : Formula) (a1 : ByteArray) : Option (Formula × Bool) :=
  Option.bind (impl_zero ) fun v14 =>
  Option.bind (impl_SubstituteFormula a0 a1 v14) fun v15 =>
  Option.bind (impl_successor (Term.mk a1 ([]))) fun v23 =>
  Option.bind (impl_SubstituteFormula a0 a1 v23) fun v24 =>
  bif v15.2 then
    bif v24.2 then
      Option.bind (impl_copyFormula a0) fun v36 =>
      Option.bind (impl_binary (7 : Int) v36 v24.1) fun v38 =>
      Option.bind (impl_quantified (8 : Int) a1 v38) fun v39 =>
      Option.bind (impl_binary (5 : Int) v15.1 v39) fun v42 =>
      Option.bind (impl_copyFormula a0) fun v45 =>
      Option.bind (impl_quantified (8 : Int) a1 v45) fun v46 =>
      Option.bind (impl_binary (7 : Int) v42 v46) fun v47 =>
      Option.bind (impl_ifFormula v47) fun v48 =>
      some (v48.1, v48.2)
    else
      some ((Formula.mk (0 : Int) (Term.mk (⟨#[]⟩ : ByteArray) ([])) (⟨#[]⟩ : ByteArray) ([])), false)
  else
    some ((Formula.mk (0 : Int) (Term.mk (⟨#[]⟩ : ByteArray) ([])) (⟨#[]⟩ : ByteArray) ([])), false)

def slices_EqualFunc_Simpl_Term_Simpl_Term_impl_Term_impl_Term (a0 : List Term) (a1 : List Term) (a2 : Term → Term → Option Bool) : Option Bool :=
  bif decide ((a0.length : Int) = (a1.length : Int)) then
    thenL (ρ := Bool) (σ := Unit) (forN (fun (i4 : Nat) (s4 : Unit) =>
      Option.bind (idx a0 (i4 : Int)) fun v20 =>
      Option.bind (idx a1 (i4 : Int)) fun v24 =>
      Option.bind (a2 v20 v24) fun v29 =>
      bif v29 then
        some (.nx ())
      else
        some (.rt false)) a0.length 0 ()) fun s4 =>
    some true
  else
    some false

def impl_EqualTermsN : Nat → Term → Term → Option Bool
  | 0, _, _ => none
  | n + 1, a0, a1 =>
    bif decide (a0.Name = a1.Name) then
      Option.bind (slices_EqualFunc_Simpl_Term_Simpl_Term_impl_Term_impl_Term a0.Args a1.Args (fun y0 y1 => impl_EqualTermsN n y0 y1)) fun v15 =>
      some v15
    else
      some false
def impl_EqualTerms (a0 : Term) (a1 : Term) : Option Bool := lim fun n => impl_EqualTermsN n a0 a1

def slices_EqualFunc_Simpl_Formula_Simpl_Formula_impl_Formula_impl_Formula (a0 : List Formula) (a1 : List Formula) (a2 : Formula → Formula → Option Bool) : Option Bool :=
  bif decide ((a0.length : Int) = (a1.length : Int)) then
    thenL (ρ := Bool) (σ := Unit) (forN (fun (i4 : Nat) (s4 : Unit) =>
      Option.bind (idx a0 (i4 : Int)) fun v20 =>
      Option.bind (idx a1 (i4 : Int)) fun v24 =>
      Option.bind (a2 v20 v24) fun v29 =>
      bif v29 then
        some (.nx ())
      else
        some (.rt false)) a0.length 0 ()) fun s4 =>
    some true
  else
    some false

def impl_sameFormulaN : Nat → Formula → Formula → Option Bool
  | 0, _, _ => none
  | n + 1, a0, a1 =>
    bif decide (a0.Op = a1.Op) then
      Option.bind (impl_EqualTerms a0.Atom a1.Atom) fun v15 =>
      bif v15 then
        bif decide (a0.Var = a1.Var) then
          Option.bind (slices_EqualFunc_Simpl_Formula_Simpl_Formula_impl_Formula_impl_Formula a0.Parts a1.Parts (fun y0 y1 => impl_sameFormulaN n y0 y1)) fun v29 =>
          some v29
        else
          some false
      else
        some false
    else
      some false
def impl_sameFormula (a0 : Formula) (a1 : Formula) : Option Bool := lim fun n => impl_sameFormulaN n a0 a1

def impl_IsInductionAxiom (a0 : Formula) : Option (Bool × Bool) :=
  Option.bind (impl_IsValidFormula a0) fun v7 =>
  bif v7 then
    bif decide (a0.Op = (7 : Int)) then
      Option.bind (idx a0.Parts (1 : Int)) fun v15 =>
      bif decide (v15.Op = (8 : Int)) then
        Option.bind (idx a0.Parts (1 : Int)) fun v23 =>
        Option.bind (idx v23.Parts (0 : Int)) fun v26 =>
        Option.bind (idx a0.Parts (1 : Int)) fun v30 =>
        Option.bind (impl_InductionAxiom v26 v30.Var) fun v33 =>
        bif v33.2 then
          Option.bind (impl_sameFormula v33.1 a0) fun v40 =>
          some (v40, true)
        else
          some (false, true)
      else
        some (false, true)
    else
      some (false, true)
  else
    some (false, false)

mutual
def eqTermN : Nat → Term → Term → Option Bool
  | 0, _, _ => none
  | n + 1, a0, a1 =>
    bif decide (a0.Name = a1.Name) then
      Option.bind (eqTermSN n a0.Args a1.Args) fun v14 =>
      bif v14 then
        some true
      else
        some false
    else
      some false
def eqTermSN : Nat → (List Term) → (List Term) → Option Bool
  | 0, _, _ => none
  | n + 1, a0, a1 =>
    bif decide ((a0.length : Int) = (a1.length : Int)) then
      thenL (ρ := Bool) (σ := Unit) (forN (fun (i4 : Nat) (s4 : Unit) =>
        Option.bind (idx a0 (i4 : Int)) fun v19 =>
        Option.bind (idx a1 (i4 : Int)) fun v23 =>
        Option.bind (eqTermN n v19 v23) fun v25 =>
        bif v25 then
          some (.nx ())
        else
          some (.rt false)) a0.length 0 ()) fun s4 =>
      some true
    else
      some false
end
def eqTerm (a0 : Term) (a1 : Term) : Option Bool := lim fun n => eqTermN n a0 a1
def eqTermS (a0 : List Term) (a1 : List Term) : Option Bool := lim fun n => eqTermSN n a0 a1

mutual
def eqFormulaN : Nat → Formula → Formula → Option Bool
  | 0, _, _ => none
  | n + 1, a0, a1 =>
    bif decide (a0.Op = a1.Op) then
      Option.bind (eqTerm a0.Atom a1.Atom) fun v14 =>
      bif v14 then
        bif decide (a0.Var = a1.Var) then
          Option.bind (eqFormulaSN n a0.Parts a1.Parts) fun v25 =>
          bif v25 then
            some true
          else
            some false
        else
          some false
      else
        some false
    else
      some false
def eqFormulaSN : Nat → (List Formula) → (List Formula) → Option Bool
  | 0, _, _ => none
  | n + 1, a0, a1 =>
    bif decide ((a0.length : Int) = (a1.length : Int)) then
      thenL (ρ := Bool) (σ := Unit) (forN (fun (i4 : Nat) (s4 : Unit) =>
        Option.bind (idx a0 (i4 : Int)) fun v19 =>
        Option.bind (idx a1 (i4 : Int)) fun v23 =>
        Option.bind (eqFormulaN n v19 v23) fun v25 =>
        bif v25 then
          some (.nx ())
        else
          some (.rt false)) a0.length 0 ()) fun s4 =>
      some true
    else
      some false
end
def eqFormula (a0 : Formula) (a1 : Formula) : Option Bool := lim fun n => eqFormulaN n a0 a1
def eqFormulaS (a0 : List Formula) (a1 : List Formula) : Option Bool := lim fun n => eqFormulaSN n a0 a1

def FnExactIsInductionAxiom (a0 : Formula) : Option Bool :=
  Option.bind (szFormula a0 (1048576 : Int)) fun v11 =>
  bif decide (v11 < (0 : Int)) then
    some true
  else
    Option.bind (toFormula a0) fun v16 =>
    Option.bind (spec_IsInductionAxiom v16) fun v17 =>
    Option.bind (toFormula a0) fun v21 =>
    Option.bind (impl_IsInductionAxiom v21) fun v24 =>
    bif v24.1 == v17.1 then
      bif v24.2 == v17.2 then
        Option.bind (toFormula a0) fun v37 =>
        Option.bind (eqFormula v21 v37) fun v38 =>
        bif v38 then
          some true
        else
          some false
      else
        some false
    else
      some false

end
end Go.Proofs.YtgkgihdafalimaaGreat
