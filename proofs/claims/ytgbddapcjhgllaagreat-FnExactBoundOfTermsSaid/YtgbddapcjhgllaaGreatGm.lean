/- A part of the proof: lemmas only; nothing is claimed here beyond what each lemma says. -/
import Derived.Test.YtgbddapcjhgllaaGreatGty
set_option linter.unusedSimpArgs false
set_option linter.unusedVariables false
set_option linter.defProp false
set_option maxRecDepth 4000
namespace Go.Proofs.YtgbddapcjhgllaaGreat
open Go.Av
noncomputable section
def szIntS (a0 : List Int) (a1 : Int) : Option Int :=
  bif decide ((IntKind.i64.wrap (a1 - (a0.length : Int))) < (0 : Int)) then
    some (-1 : Int)
  else
    some (IntKind.i64.wrap (a1 - (a0.length : Int)))

def szMajorant (a0 : Majorant) (a1 : Int) : Option Int :=
  bif decide ((IntKind.i64.wrap (a1 - (a0.Name.size : Int))) < (0 : Int)) then
    some (-1 : Int)
  else
    Option.bind (szIntS a0.Slopes (IntKind.i64.wrap (a1 - (a0.Name.size : Int)))) fun v15 =>
    bif decide (v15 < (0 : Int)) then
      some (-1 : Int)
    else
      some v15

def szMajorantS (a0 : List Majorant) (a1 : Int) : Option Int :=
  bif decide ((IntKind.i64.wrap (a1 - (a0.length : Int))) < (0 : Int)) then
    some (-1 : Int)
  else
    thenL (ρ := Int) (σ := Int) (forN (fun (i5 : Nat) (s5 : Int) =>
      Option.bind (idx a0 (i5 : Int)) fun v20 =>
      Option.bind (szMajorant v20 s5) fun v23 =>
      bif decide (v23 < (0 : Int)) then
        some (.rt (-1 : Int))
      else
        some (.nx v23)) a0.length 0 (IntKind.i64.wrap (a1 - (a0.length : Int)))) fun s5 =>
    some s5

mutual
def szTermN : Nat → Term → Int → Option Int
  | 0, _, _ => none
  | n + 1, a0, a1 =>
    bif decide ((IntKind.i64.wrap (a1 - (a0.Name.size : Int))) < (0 : Int)) then
      some (-1 : Int)
    else
      Option.bind (szTermSN n a0.Args (IntKind.i64.wrap (a1 - (a0.Name.size : Int)))) fun v15 =>
      bif decide (v15 < (0 : Int)) then
        some (-1 : Int)
      else
        some v15
def szTermSN : Nat → (List Term) → Int → Option Int
  | 0, _, _ => none
  | n + 1, a0, a1 =>
    bif decide ((IntKind.i64.wrap (a1 - (a0.length : Int))) < (0 : Int)) then
      some (-1 : Int)
    else
      thenL (ρ := Int) (σ := Int) (forN (fun (i5 : Nat) (s5 : Int) =>
        Option.bind (idx a0 (i5 : Int)) fun v20 =>
        Option.bind (szTermN n v20 s5) fun v23 =>
        bif decide (v23 < (0 : Int)) then
          some (.rt (-1 : Int))
        else
          some (.nx v23)) a0.length 0 (IntKind.i64.wrap (a1 - (a0.length : Int)))) fun s5 =>
      some s5
end
def szTerm (a0 : Term) (a1 : Int) : Option Int := lim fun n => szTermN n a0 a1
def szTermS (a0 : List Term) (a1 : Int) : Option Int := lim fun n => szTermSN n a0 a1

def toIntS (a0 : List Int) : Option (List Int) :=
  Option.bind (mkn (a0.length : Int)) fun n7 =>
  thenL (ρ := (List Int)) (σ := (List Int)) (forN (fun (i3 : Nat) (s3 : (List Int)) =>
    Option.bind (idx a0 (i3 : Int)) fun v18 =>
    Option.bind (idx s3 (i3 : Int)) fun v20 =>
    Option.bind (idx s3 (i3 : Int)) fun w2 =>
    some (.nx (s3.set (i3 : Int).toNat v18))) a0.length 0 (List.replicate n7 (0 : Int))) fun s3 =>
  some s3

def toMajorant (a0 : Majorant) : Option Majorant :=
  Option.bind (toIntS a0.Slopes) fun v9 =>
  some (Majorant.mk a0.Name v9 a0.Constant)

def toMajorantS (a0 : List Majorant) : Option (List Majorant) :=
  Option.bind (mkn (a0.length : Int)) fun n7 =>
  thenL (ρ := (List Majorant)) (σ := (List Majorant)) (forN (fun (i3 : Nat) (s3 : (List Majorant)) =>
    Option.bind (idx a0 (i3 : Int)) fun v18 =>
    Option.bind (toMajorant v18) fun v20 =>
    Option.bind (idx s3 (i3 : Int)) fun v21 =>
    Option.bind (idx s3 (i3 : Int)) fun w2 =>
    some (.nx (s3.set (i3 : Int).toNat v20))) a0.length 0 (List.replicate n7 (Majorant.mk (⟨#[]⟩ : ByteArray) ([]) (0 : Int)))) fun s3 =>
  some s3

mutual
def toTermN : Nat → Term → Option Term
  | 0, _ => none
  | n + 1, a0 =>
    Option.bind (toTermSN n a0.Args) fun v9 =>
    some (Term.mk a0.Name v9)
def toTermSN : Nat → (List Term) → Option (List Term)
  | 0, _ => none
  | n + 1, a0 =>
    Option.bind (mkn (a0.length : Int)) fun n7 =>
    thenL (ρ := (List Term)) (σ := (List Term)) (forN (fun (i3 : Nat) (s3 : (List Term)) =>
      Option.bind (idx a0 (i3 : Int)) fun v18 =>
      Option.bind (toTermN n v18) fun v20 =>
      Option.bind (idx s3 (i3 : Int)) fun v21 =>
      Option.bind (idx s3 (i3 : Int)) fun w2 =>
      some (.nx (s3.set (i3 : Int).toNat v20))) a0.length 0 (List.replicate n7 (Term.mk (⟨#[]⟩ : ByteArray) ([])))) fun s3 =>
    some s3
end
def toTerm (a0 : Term) : Option Term := lim fun n => toTermN n a0
def toTermS (a0 : List Term) : Option (List Term) := lim fun n => toTermSN n a0

def spec_l1In (a0 : Int) (a1 : Int) (a2 : Int) : Option Bool :=
  bif decide (a1 ≤ a0) then
    some (decide (a0 ≤ a2))
  else
    some false

def spec_l2Small (a0 : Int) : Option Bool :=
  bif decide ((97 : Int) ≤ a0) then
    bif decide (a0 ≤ (122 : Int)) then
      some true
    else
      bif decide ((48 : Int) ≤ a0) then
        some (decide (a0 ≤ (57 : Int)))
      else
        some false
  else
    bif decide ((48 : Int) ≤ a0) then
      some (decide (a0 ≤ (57 : Int)))
    else
      some false

def spec_l2Symbol (a0 : ByteArray) : Option Bool :=
  Option.bind (spec_l1In (a0.size : Int) (1 : Int) (6 : Int)) fun v6 =>
  bif v6 then
    Option.bind (sidx a0 (0 : Int)) fun v10 =>
    bif decide (v10 < (97 : Int)) then
      some false
    else
      Option.bind (sidx a0 (0 : Int)) fun v15 =>
      bif decide ((122 : Int) < v15) then
        some false
      else
        bif decide (a0 = (⟨#[116, 114, 117, 101]⟩ : ByteArray)) then
          some false
        else
          bif decide (a0 = (⟨#[102, 97, 108, 115, 101]⟩ : ByteArray)) then
            some false
          else
            bif decide (a0 = (⟨#[116, 114, 117, 116, 104]⟩ : ByteArray)) then
              some false
            else
              bif decide (a0 = (⟨#[98, 111, 116, 104]⟩ : ByteArray)) then
                some false
              else
                bif decide (a0 = (⟨#[101, 105, 116, 104, 101, 114]⟩ : ByteArray)) then
                  some false
                else
                  bif decide (a0 = (⟨#[105, 102]⟩ : ByteArray)) then
                    some false
                  else
                    bif decide (a0 = (⟨#[97, 108, 108]⟩ : ByteArray)) then
                      some false
                    else
                      bif decide (a0 = (⟨#[115, 111, 109, 101]⟩ : ByteArray)) then
                        some false
                      else
                        Option.bind (bnd (a0.size : Int)) fun N14 =>
                        thenL (ρ := Bool) (σ := Unit) (forN (fun (i14 : Nat) (s14 : Unit) =>
                          Option.bind (sidx a0 (i14 : Int)) fun v36 =>
                          Option.bind (spec_l2Small v36) fun v37 =>
                          bif v37 then
                            some (.nx ())
                          else
                            Option.bind (sidx a0 (i14 : Int)) fun v42 =>
                            bif decide (v42 = (95 : Int)) then
                              some (.nx ())
                            else
                              some (.rt false)) (N14 - 1) 1 ()) fun s14 =>
                        some true
  else
    some false

def spec_l25List (a0 : List Majorant) : Option Bool :=
  bif decide ((8 : Int) < (a0.length : Int)) then
    some false
  else
    thenL (ρ := Bool) (σ := Unit) (forN (fun (i4 : Nat) (s4 : Unit) =>
      Option.bind (idx a0 (i4 : Int)) fun v17 =>
      Option.bind (spec_l2Symbol v17.Name) fun v21 =>
      bif v21 then
        bif decide ((4 : Int) < (v17.Slopes.length : Int)) then
          some (.rt false)
        else
          Option.bind (spec_l1In v17.Constant (0 : Int) (100000 : Int)) fun v32 =>
          bif v32 then
            thenL (ρ := (Flow Bool Unit)) (σ := Unit) (forN (fun (i10 : Nat) (s10 : Unit) =>
              Option.bind (idx v17.Slopes (i10 : Int)) fun v45 =>
              Option.bind (spec_l1In v45 (0 : Int) (1000 : Int)) fun v47 =>
              bif v47 then
                some (.nx ())
              else
                some (.rt (.rt false))) v17.Slopes.length 0 ()) fun s10 =>
            bif decide ((0 : Int) < (i4 : Int)) then
              Option.bind (idx a0 (IntKind.i64.wrap ((i4 : Int) - (1 : Int)))) fun v55 =>
              bif Op.bytesLess v55.Name.data.toList v17.Name.data.toList || decide (v55.Name = v17.Name) then
                Option.bind (idx a0 (IntKind.i64.wrap ((i4 : Int) - (1 : Int)))) fun v65 =>
                bif decide (v65.Name = v17.Name) then
                  Option.bind (idx a0 (IntKind.i64.wrap ((i4 : Int) - (1 : Int)))) fun v75 =>
                  bif decide ((v17.Slopes.length : Int) ≤ (v75.Slopes.length : Int)) then
                    some (.rt false)
                  else
                    some (.nx ())
                else
                  some (.nx ())
              else
                some (.rt false)
            else
              some (.nx ())
          else
            some (.rt false)
      else
        some (.rt false)) a0.length 0 ()) fun s4 =>
    some true

def spec_l2ManyN : Nat → Term → Int → Option Int
  | 0, _, _ => none
  | n + 1, a0, a1 =>
    thenL (ρ := Int) (σ := Int) (forN (fun (i3 : Nat) (s3 : Int) =>
      bif decide (s3 ≤ a1) then
        Option.bind (idx a0.Args (i3 : Int)) fun v23 =>
        Option.bind (spec_l2ManyN n v23 (IntKind.i64.wrap (a1 - s3))) fun v28 =>
        some (.nx (IntKind.i64.wrap (s3 + v28)))
      else
        some (.rt s3)) a0.Args.length 0 (1 : Int)) fun s3 =>
    some s3
def spec_l2Many (a0 : Term) (a1 : Int) : Option Int := lim fun n => spec_l2ManyN n a0 a1

def spec_l1Most (a0 : Int) (a1 : Int) : Option Int :=
  bif decide (a1 < a0) then
    some a0
  else
    some a1

def spec_l2DepthN : Nat → Term → Option Int
  | 0, _ => none
  | n + 1, a0 =>
    thenL (ρ := Int) (σ := Int) (forN (fun (i3 : Nat) (s3 : Int) =>
      Option.bind (idx a0.Args (i3 : Int)) fun v16 =>
      Option.bind (spec_l2DepthN n v16) fun v18 =>
      Option.bind (spec_l1Most s3 v18) fun v19 =>
      some (.nx v19)) a0.Args.length 0 (0 : Int)) fun s3 =>
    some (IntKind.i64.wrap (s3 + (1 : Int)))
def spec_l2Depth (a0 : Term) : Option Int := lim fun n => spec_l2DepthN n a0

def spec_l2Fits (a0 : Term) : Option Bool :=
  Option.bind (spec_l2Many a0 (30 : Int)) fun v4 =>
  bif decide (v4 ≤ (30 : Int)) then
    Option.bind (spec_l2Depth a0) fun v8 =>
    some (decide (v8 ≤ (8 : Int)))
  else
    some false

def spec_l2Var (a0 : ByteArray) : Option Bool :=
  Option.bind (spec_l1In (a0.size : Int) (1 : Int) (4 : Int)) fun v6 =>
  bif v6 then
    Option.bind (sidx a0 (0 : Int)) fun v10 =>
    bif decide (v10 < (65 : Int)) then
      some false
    else
      Option.bind (sidx a0 (0 : Int)) fun v15 =>
      bif decide ((90 : Int) < v15) then
        some false
      else
        Option.bind (bnd (a0.size : Int)) fun N4 =>
        thenL (ρ := Bool) (σ := Unit) (forN (fun (i4 : Nat) (s4 : Unit) =>
          Option.bind (sidx a0 (i4 : Int)) fun v26 =>
          Option.bind (spec_l2Small v26) fun v27 =>
          bif v27 then
            some (.nx ())
          else
            some (.rt false)) (N4 - 1) 1 ()) fun s4 =>
        some true
  else
    some false

def spec_l2NodesN : Nat → Term → Option Bool
  | 0, _ => none
  | n + 1, a0 =>
    Option.bind (spec_l2Var a0.Name) fun v6 =>
    bif v6 then
      some (decide ((a0.Args.length : Int) = (0 : Int)))
    else
      Option.bind (spec_l2Symbol a0.Name) fun v13 =>
      bif v13 then
        bif decide ((4 : Int) < (a0.Args.length : Int)) then
          some false
        else
          thenL (ρ := Bool) (σ := Unit) (forN (fun (i6 : Nat) (s6 : Unit) =>
            Option.bind (idx a0.Args (i6 : Int)) fun v31 =>
            Option.bind (spec_l2NodesN n v31) fun v33 =>
            bif v33 then
              some (.nx ())
            else
              some (.rt false)) a0.Args.length 0 ()) fun s6 =>
          some true
      else
        some false
def spec_l2Nodes (a0 : Term) : Option Bool := lim fun n => spec_l2NodesN n a0

def spec_l2Good (a0 : Term) : Option Bool :=
  Option.bind (spec_l2Fits a0) fun v4 =>
  bif v4 then
    Option.bind (spec_l2Nodes a0) fun v7 =>
    some v7
  else
    some false

def spec_l25Find (a0 : List Majorant) (a1 : ByteArray) (a2 : Int) : Option Int :=
  thenL (ρ := Int) (σ := Unit) (forN (fun (i2 : Nat) (s2 : Unit) =>
    Option.bind (idx a0 (i2 : Int)) fun v16 =>
    bif decide (v16.Name = a1) then
      Option.bind (idx a0 (i2 : Int)) fun v24 =>
      bif decide ((v24.Slopes.length : Int) = a2) then
        some (.rt (i2 : Int))
      else
        some (.nx ())
    else
      some (.nx ())) a0.length 0 ()) fun s2 =>
  some (-1 : Int)

def spec_l2Put (a0 : List ByteArray) (a1 : ByteArray) : Option (List ByteArray) :=
  thenL (ρ := (List ByteArray)) (σ := Unit) (forN (fun (i2 : Nat) (s2 : Unit) =>
    Option.bind (idx a0 (i2 : Int)) fun v13 =>
    bif Op.bytesLess v13.data.toList a1.data.toList then
      some (.nx ())
    else
      Option.bind (idx a0 (i2 : Int)) fun v27 =>
      bif decide (v27 = a1) then
        some (.rt a0)
      else
        Option.bind (slc a0 (0 : Int) (i2 : Int)) fun v36 =>
        Option.bind (app ([]) v36) fun v37 =>
        Option.bind (app v37 ([a1])) fun v40 =>
        Option.bind (slc a0 (i2 : Int) (a0.length : Int)) fun v43 =>
        Option.bind (app v40 v43) fun v44 =>
        some (.rt v44)) a0.length 0 ()) fun s2 =>
  Option.bind (slc a0 (0 : Int) ((a0.length : Nat) : Int)) fun v36 =>
  Option.bind (app ([]) v36) fun v37 =>
  Option.bind (app v37 ([a1])) fun v40 =>
  Option.bind (slc a0 ((a0.length : Nat) : Int) (a0.length : Int)) fun v43 =>
  Option.bind (app v40 v43) fun v44 =>
  some v44

def spec_l25Names (a0 : Linear) (a1 : Linear) : Option (List ByteArray) :=
  thenL (ρ := (List ByteArray)) (σ := (List ByteArray)) (forN (fun (i3 : Nat) (s3 : (List ByteArray)) =>
    Option.bind (idx a0.Vars (i3 : Int)) fun v20 =>
    Option.bind (spec_l2Put s3 v20) fun v22 =>
    some (.nx v22)) a0.Vars.length 0 ([])) fun s3 =>
  thenL (ρ := (List ByteArray)) (σ := (List ByteArray)) (forN (fun (i7 : Nat) (s7 : (List ByteArray)) =>
    Option.bind (idx a1.Vars (i7 : Int)) fun v34 =>
    Option.bind (spec_l2Put s7 v34) fun v36 =>
    some (.nx v36)) a1.Vars.length 0 s3) fun s7 =>
  some s7

def spec_l25Slope (a0 : Linear) (a1 : ByteArray) : Option Int :=
  thenL (ρ := Int) (σ := Unit) (forN (fun (i2 : Nat) (s2 : Unit) =>
    Option.bind (idx a0.Vars (i2 : Int)) fun v16 =>
    bif decide (v16 = a1) then
      Option.bind (idx a0.Slopes (i2 : Int)) fun v23 =>
      some (.rt v23)
    else
      some (.nx ())) a0.Vars.length 0 ()) fun s2 =>
  some (0 : Int)

def spec_l25Plus (a0 : Linear) (a1 : Linear) (a2 : Int) : Option Linear :=
  Option.bind (spec_l25Names a0 a1) fun v23 =>
  thenL (ρ := Linear) (σ := (List ByteArray) × (List Int)) (forN (fun (i4 : Nat) (s4 : (List ByteArray) × (List Int)) =>
    Option.bind (idx v23 (i4 : Int)) fun v33 =>
    Option.bind (spec_l25Slope a0 v33) fun v35 =>
    Option.bind (idx v23 (i4 : Int)) fun v40 =>
    Option.bind (spec_l25Slope a1 v40) fun v42 =>
    bif decide ((0 : Int) < (IntKind.i64.wrap (v35 + (IntKind.i64.wrap (a2 * v42))))) then
      Option.bind (idx v23 (i4 : Int)) fun v51 =>
      Option.bind (app s4.1 ([v51])) fun v54 =>
      Option.bind (app s4.2 ([IntKind.i64.wrap (v35 + (IntKind.i64.wrap (a2 * v42)))])) fun v60 =>
      some (.nx (v54, v60))
    else
      some (.nx (s4.1, s4.2))) v23.length 0 ([], [])) fun s4 =>
  some (Linear.mk s4.1 s4.2 (IntKind.i64.wrap (a0.Constant + (IntKind.i64.wrap (a2 * a1.Constant)))))

def spec_l25Linear (a0 : Linear) : Option Bool :=
  bif decide ((8 : Int) < (a0.Vars.length : Int)) then
    some false
  else
    bif decide ((a0.Slopes.length : Int) = (a0.Vars.length : Int)) then
      Option.bind (spec_l1In a0.Constant (0 : Int) (100000 : Int)) fun v20 =>
      bif v20 then
        thenL (ρ := Bool) (σ := Unit) (forN (fun (i4 : Nat) (s4 : Unit) =>
          Option.bind (idx a0.Vars (i4 : Int)) fun v33 =>
          Option.bind (spec_l2Var v33) fun v35 =>
          bif v35 then
            Option.bind (idx a0.Slopes (i4 : Int)) fun v41 =>
            Option.bind (spec_l1In v41 (1 : Int) (1000 : Int)) fun v43 =>
            bif v43 then
              bif decide ((0 : Int) < (i4 : Int)) then
                Option.bind (idx a0.Vars (IntKind.i64.wrap ((i4 : Int) - (1 : Int)))) fun v54 =>
                Option.bind (idx a0.Vars (i4 : Int)) fun v59 =>
                bif Op.bytesLess v54.data.toList v59.data.toList then
                  some (.nx ())
                else
                  some (.rt false)
              else
                some (.nx ())
            else
              some (.rt false)
          else
            some (.rt false)) a0.Vars.length 0 ()) fun s4 =>
        some true
      else
        some false
    else
      some false

def spec_l25BoundN : Nat → (List Majorant) → Term → Option (Linear × Bool)
  | 0, _, _ => none
  | n + 1, a0, a1 =>
    Option.bind (spec_l2Var a1.Name) fun v13 =>
    bif v13 then
      some ((Linear.mk ([a1.Name]) ([(1 : Int)]) (0 : Int)), true)
    else
      Option.bind (spec_l25Find a0 a1.Name (a1.Args.length : Int)) fun v25 =>
      bif decide (v25 < (0 : Int)) then
        some ((Linear.mk ([]) ([]) (0 : Int)), false)
      else
        Option.bind (idx a0 v25) fun v31 =>
        thenL (ρ := (Linear × Bool)) (σ := Int × (List ByteArray) × (List Int)) (forN (fun (i8 : Nat) (s8 : Int × (List ByteArray) × (List Int)) =>
          Option.bind (idx a1.Args (i8 : Int)) fun v47 =>
          Option.bind (spec_l25BoundN n a0 v47) fun v49 =>
          bif v49.2 then
            Option.bind (idx a0 v25) fun v59 =>
            Option.bind (idx v59.Slopes (i8 : Int)) fun v63 =>
            Option.bind (spec_l25Plus (Linear.mk s8.2.1 s8.2.2 s8.1) v49.1 v63) fun v65 =>
            some (.nx (v65.Constant, v65.Vars, v65.Slopes))
          else
            some (.rt ((Linear.mk ([]) ([]) (0 : Int)), false))) a1.Args.length 0 (v31.Constant, [], [])) fun s8 =>
        Option.bind (spec_l25Linear (Linear.mk s8.2.1 s8.2.2 s8.1)) fun v68 =>
        some ((Linear.mk s8.2.1 s8.2.2 s8.1), v68)
def spec_l25Bound (a0 : List Majorant) (a1 : Term) : Option (Linear × Bool) := lim fun n => spec_l25BoundN n a0 a1

def spec_MajorantOf (a0 : List Majorant) (a1 : Term) : Option (Linear × Bool) :=
  Option.bind (spec_l25List a0) fun v9 =>
  bif v9 then
    Option.bind (spec_l2Good a1) fun v13 =>
    bif v13 then
      Option.bind (spec_l25Bound a0 a1) fun v20 =>
      bif v20.2 then
        some (v20.1, true)
      else
        some ((Linear.mk ([]) ([]) (0 : Int)), false)
    else
      some ((Linear.mk ([]) ([]) (0 : Int)), false)
  else
    some ((Linear.mk ([]) ([]) (0 : Int)), false)

def impl_isLower (a0 : Int) : Option Bool :=
  bif decide ((97 : Int) ≤ a0) then
    some (decide (a0 ≤ (122 : Int)))
  else
    some false

def impl_isDigit (a0 : Int) : Option Bool :=
  bif decide ((48 : Int) ≤ a0) then
    some (decide (a0 ≤ (57 : Int)))
  else
    some false

def impl_within (a0 : Int) (a1 : Int) (a2 : Int) : Option Bool :=
  bif decide (a1 ≤ a0) then
    some (decide (a0 ≤ a2))
  else
    some false

def impl_reserved  : Option (List ByteArray) :=
  some ([(⟨#[116, 114, 117, 101]⟩ : ByteArray), (⟨#[102, 97, 108, 115, 101]⟩ : ByteArray), (⟨#[116, 114, 117, 116, 104]⟩ : ByteArray), (⟨#[98, 111, 116, 104]⟩ : ByteArray), (⟨#[101, 105, 116, 104, 101, 114]⟩ : ByteArray), (⟨#[105, 102]⟩ : ByteArray), (⟨#[97, 108, 108]⟩ : ByteArray), (⟨#[115, 111, 109, 101]⟩ : ByteArray)])

def slices_Index_Sstring_string (a0 : List ByteArray) (a1 : ByteArray) : Option Int :=
  thenL (ρ := Int) (σ := Unit) (forN (fun (i2 : Nat) (s2 : Unit) =>
    Option.bind (idx a0 (i2 : Int)) fun v14 =>
    bif decide (a1 = v14) then
      some (.rt (i2 : Int))
    else
      some (.nx ())) a0.length 0 ()) fun s2 =>
  some (-1 : Int)

def slices_Contains_Sstring_string (a0 : List ByteArray) (a1 : ByteArray) : Option Bool :=
  Option.bind (slices_Index_Sstring_string a0 a1) fun v7 =>
  some (decide ((0 : Int) ≤ v7))

def impl_isSymbol (a0 : ByteArray) : Option Bool :=
  Option.bind (bnd (a0.size : Int)) fun N2 =>
  thenL (ρ := Bool) (σ := Unit) (forN (fun (i2 : Nat) (s2 : Unit) =>
    bif decide ((i2 : Int) = (0 : Int)) then
      Option.bind (sidx a0 (i2 : Int)) fun v14 =>
      Option.bind (impl_isLower v14) fun v15 =>
      bif v15 then
        Option.bind (sidx a0 (i2 : Int)) fun v21 =>
        Option.bind (impl_isLower v21) fun v22 =>
        bif v22 then
          some (.nx ())
        else
          Option.bind (sidx a0 (i2 : Int)) fun v27 =>
          Option.bind (impl_isDigit v27) fun v28 =>
          bif v28 then
            some (.nx ())
          else
            Option.bind (sidx a0 (i2 : Int)) fun v34 =>
            bif decide (v34 = (95 : Int)) then
              some (.nx ())
            else
              some (.rt false)
      else
        some (.rt false)
    else
      Option.bind (sidx a0 (i2 : Int)) fun v21 =>
      Option.bind (impl_isLower v21) fun v22 =>
      bif v22 then
        some (.nx ())
      else
        Option.bind (sidx a0 (i2 : Int)) fun v27 =>
        Option.bind (impl_isDigit v27) fun v28 =>
        bif v28 then
          some (.nx ())
        else
          Option.bind (sidx a0 (i2 : Int)) fun v34 =>
          bif decide (v34 = (95 : Int)) then
            some (.nx ())
          else
            some (.rt false)) N2 0 ()) fun s2 =>
  Option.bind (impl_within (a0.size : Int) (1 : Int) (6 : Int)) fun v41 =>
  bif v41 then
    Option.bind (impl_reserved ) fun v43 =>
    Option.bind (slices_Contains_Sstring_string v43 a0) fun v45 =>
    some (!v45)
  else
    some false

def cmp_isNaN_string (a0 : ByteArray) : Option Bool :=
  some (!(decide (a0 = a0)))

def cmp_Compare_string (a0 : ByteArray) (a1 : ByteArray) : Option Int :=
  Option.bind (cmp_isNaN_string a0) fun v8 =>
  Option.bind (cmp_isNaN_string a1) fun v10 =>
  bif v8 then
    bif v10 then
      some (0 : Int)
    else
      some (-1 : Int)
  else
    bif v10 then
      some (1 : Int)
    else
      bif Op.bytesLess a0.data.toList a1.data.toList then
        some (-1 : Int)
      else
        bif decide (a0 = a1) then
          some (0 : Int)
        else
          some (1 : Int)

def cmp_isNaN_int (a0 : Int) : Option Bool :=
  some (!(decide (a0 = a0)))

def cmp_Compare_int (a0 : Int) (a1 : Int) : Option Int :=
  Option.bind (cmp_isNaN_int a0) fun v8 =>
  Option.bind (cmp_isNaN_int a1) fun v10 =>
  bif v8 then
    bif v10 then
      some (0 : Int)
    else
      some (-1 : Int)
  else
    bif v10 then
      some (1 : Int)
    else
      bif decide (a0 < a1) then
        some (-1 : Int)
      else
        bif decide (a1 < a0) then
          some (1 : Int)
        else
          some (0 : Int)

def cmp_Or_int (a0 : List Int) : Option Int :=
  thenL (ρ := Int) (σ := Unit) (forN (fun (i3 : Nat) (s3 : Unit) =>
    Option.bind (idx a0 (i3 : Int)) fun v10 =>
    bif decide (v10 = (0 : Int)) then
      some (.nx ())
    else
      some (.rt v10)) a0.length 0 ()) fun s3 =>
  some (0 : Int)

def impl_compareMajorants (a0 : Majorant) (a1 : Majorant) : Option Int :=
  Option.bind (cmp_Compare_string a0.Name a1.Name) fun v9 =>
  Option.bind (cmp_Compare_int (a0.Slopes.length : Int) (a1.Slopes.length : Int)) fun v16 =>
  Option.bind (cmp_Or_int ([v9, v16])) fun v18 =>
  some v18

def impl_IsValidMajorants_1 (a0 : Int) : Option Bool :=
  Option.bind (impl_within a0 (0 : Int) (1000 : Int)) fun v4 =>
  some (!v4)

def slices_IndexFunc_Sint_int (a0 : List Int) (a1 : Int → Option Bool) : Option Int :=
  thenL (ρ := Int) (σ := Unit) (forN (fun (i2 : Nat) (s2 : Unit) =>
    Option.bind (idx a0 (i2 : Int)) fun v14 =>
    Option.bind (a1 v14) fun v16 =>
    bif v16 then
      some (.rt (i2 : Int))
    else
      some (.nx ())) a0.length 0 ()) fun s2 =>
  some (-1 : Int)

def slices_ContainsFunc_Sint_int (a0 : List Int) (a1 : Int → Option Bool) : Option Bool :=
  Option.bind (slices_IndexFunc_Sint_int a0 a1) fun v7 =>
  some (decide ((0 : Int) ≤ v7))

def impl_IsValidMajorants (a0 : List Majorant) : Option Bool :=
  thenL (ρ := Bool) (σ := Unit) (forN (fun (i2 : Nat) (s2 : Unit) =>
    Option.bind (idx a0 (i2 : Int)) fun v10 =>
    Option.bind (impl_isSymbol v10.Name) fun v14 =>
    bif v14 then
      bif decide ((4 : Int) < (v10.Slopes.length : Int)) then
        some (.rt false)
      else
        Option.bind (impl_within v10.Constant (0 : Int) (100000 : Int)) fun v25 =>
        bif v25 then
          bif decide ((0 : Int) < (i2 : Int)) then
            Option.bind (idx a0 (IntKind.i64.wrap ((i2 : Int) - (1 : Int)))) fun v35 =>
            Option.bind (impl_compareMajorants v35 v10) fun v38 =>
            bif decide ((0 : Int) ≤ v38) then
              some (.rt false)
            else
              Option.bind (slices_ContainsFunc_Sint_int v10.Slopes (fun y0 => impl_IsValidMajorants_1 y0)) fun v44 =>
              bif v44 then
                some (.rt false)
              else
                some (.nx ())
          else
            Option.bind (slices_ContainsFunc_Sint_int v10.Slopes (fun y0 => impl_IsValidMajorants_1 y0)) fun v44 =>
            bif v44 then
              some (.rt false)
            else
              some (.nx ())
        else
          some (.rt false)
    else
      some (.rt false)) a0.length 0 ()) fun s2 =>
  some (decide ((a0.length : Int) ≤ (8 : Int)))

def impl_sizeN : Nat → Term → Option Int
  | 0, _ => none
  | n + 1, a0 =>
    thenL (ρ := Int) (σ := Int) (forN (fun (i3 : Nat) (s3 : Int) =>
      Option.bind (idx a0.Args (i3 : Int)) fun v11 =>
      bif decide ((30 : Int) < s3) then
        some (.rt s3)
      else
        Option.bind (impl_sizeN n v11) fun v18 =>
        some (.nx (IntKind.i64.wrap (s3 + v18)))) a0.Args.length 0 (1 : Int)) fun s3 =>
    some s3
def impl_size (a0 : Term) : Option Int := lim fun n => impl_sizeN n a0

def impl_depthN : Nat → Term → Option Int
  | 0, _ => none
  | n + 1, a0 =>
    thenL (ρ := Int) (σ := Int) (forN (fun (i3 : Nat) (s3 : Int) =>
      Option.bind (idx a0.Args (i3 : Int)) fun v11 =>
      Option.bind (impl_depthN n v11) fun v15 =>
      some (.nx (max s3 v15))) a0.Args.length 0 (0 : Int)) fun s3 =>
    some (IntKind.i64.wrap (s3 + (1 : Int)))
def impl_depth (a0 : Term) : Option Int := lim fun n => impl_depthN n a0

def impl_isSmall (a0 : Term) : Option Bool :=
  Option.bind (impl_size a0) fun v4 =>
  bif decide (v4 ≤ (30 : Int)) then
    Option.bind (impl_depth a0) fun v8 =>
    some (decide (v8 ≤ (8 : Int)))
  else
    some false

def impl_isUpper (a0 : Int) : Option Bool :=
  bif decide ((65 : Int) ≤ a0) then
    some (decide (a0 ≤ (90 : Int)))
  else
    some false

def impl_isVariable (a0 : ByteArray) : Option Bool :=
  Option.bind (bnd (a0.size : Int)) fun N2 =>
  thenL (ρ := Bool) (σ := Unit) (forN (fun (i2 : Nat) (s2 : Unit) =>
    bif decide ((i2 : Int) = (0 : Int)) then
      Option.bind (sidx a0 (i2 : Int)) fun v14 =>
      Option.bind (impl_isUpper v14) fun v15 =>
      bif v15 then
        bif decide ((0 : Int) < (i2 : Int)) then
          Option.bind (sidx a0 (i2 : Int)) fun v24 =>
          Option.bind (impl_isLower v24) fun v25 =>
          bif v25 then
            some (.nx ())
          else
            Option.bind (sidx a0 (i2 : Int)) fun v31 =>
            Option.bind (impl_isDigit v31) fun v32 =>
            bif v32 then
              some (.nx ())
            else
              some (.rt false)
        else
          some (.nx ())
      else
        some (.rt false)
    else
      bif decide ((0 : Int) < (i2 : Int)) then
        Option.bind (sidx a0 (i2 : Int)) fun v24 =>
        Option.bind (impl_isLower v24) fun v25 =>
        bif v25 then
          some (.nx ())
        else
          Option.bind (sidx a0 (i2 : Int)) fun v31 =>
          Option.bind (impl_isDigit v31) fun v32 =>
          bif v32 then
            some (.nx ())
          else
            some (.rt false)
      else
        some (.nx ())) N2 0 ()) fun s2 =>
  Option.bind (impl_within (a0.size : Int) (1 : Int) (4 : Int)) fun v39 =>
  some v39

def slices_IndexFunc_Simpl_Term_impl_Term (a0 : List Term) (a1 : Term → Option Bool) : Option Int :=
  thenL (ρ := Int) (σ := Unit) (forN (fun (i2 : Nat) (s2 : Unit) =>
    Option.bind (idx a0 (i2 : Int)) fun v14 =>
    Option.bind (a1 v14) fun v16 =>
    bif v16 then
      some (.rt (i2 : Int))
    else
      some (.nx ())) a0.length 0 ()) fun s2 =>
  some (-1 : Int)

def slices_ContainsFunc_Simpl_Term_impl_Term (a0 : List Term) (a1 : Term → Option Bool) : Option Bool :=
  Option.bind (slices_IndexFunc_Simpl_Term_impl_Term a0 a1) fun v7 =>
  some (decide ((0 : Int) ≤ v7))

mutual
def impl_hasNamesN : Nat → Term → Option Bool
  | 0, _ => none
  | n + 1, a0 =>
    Option.bind (impl_isVariable a0.Name) fun v5 =>
    bif v5 then
      some (decide ((a0.Args.length : Int) = (0 : Int)))
    else
      Option.bind (impl_isSymbol a0.Name) fun v12 =>
      bif v12 then
        bif decide ((a0.Args.length : Int) ≤ (4 : Int)) then
          Option.bind (slices_ContainsFunc_Simpl_Term_impl_Term a0.Args (fun y0 => impl_hasNames_1N n y0)) fun v22 =>
          some (!v22)
        else
          some false
      else
        some false
def impl_hasNames_1N : Nat → Term → Option Bool
  | 0, _ => none
  | n + 1, a0 =>
    Option.bind (impl_hasNamesN n a0) fun v4 =>
    some (!v4)
end
def impl_hasNames (a0 : Term) : Option Bool := lim fun n => impl_hasNamesN n a0
def impl_hasNames_1 (a0 : Term) : Option Bool := lim fun n => impl_hasNames_1N n a0

def impl_IsValidTerm (a0 : Term) : Option Bool :=
  Option.bind (impl_isSmall a0) fun v4 =>
  bif v4 then
    Option.bind (impl_hasNames a0) fun v7 =>
    some v7
  else
    some false

def impl_isVar (a0 : Term) : Option Bool :=
  Option.bind (sidx a0.Name (0 : Int)) fun v5 =>
  Option.bind (impl_isUpper v5) fun v6 =>
  some v6

def impl_majorant_1 (a0 : Majorant) (b0 : Term) : Option Bool :=
  bif decide (a0.Name = b0.Name) then
    some (decide ((a0.Slopes.length : Int) = (b0.Args.length : Int)))
  else
    some false

def slices_IndexFunc_Simpl_Majorant_impl_Majorant (a0 : List Majorant) (a1 : Majorant → Option Bool) : Option Int :=
  thenL (ρ := Int) (σ := Unit) (forN (fun (i2 : Nat) (s2 : Unit) =>
    Option.bind (idx a0 (i2 : Int)) fun v14 =>
    Option.bind (a1 v14) fun v16 =>
    bif v16 then
      some (.rt (i2 : Int))
    else
      some (.nx ())) a0.length 0 ()) fun s2 =>
  some (-1 : Int)

def impl_majorant (a0 : List Majorant) (a1 : Term) : Option Int :=
  Option.bind (slices_IndexFunc_Simpl_Majorant_impl_Majorant a0 (fun y0 => impl_majorant_1 y0 a1)) fun v7 =>
  some v7

def impl_Linear__add (a0 : Linear) (a1 : GMap Int) (a2 : Int) : Option (Int × (GMap Int)) :=
  thenL (ρ := (Int × (GMap Int))) (σ := (GMap Int)) (forN (fun (i2 : Nat) (s2 : (GMap Int)) =>
    Option.bind (idx a0.Vars (i2 : Int)) fun v15 =>
    Option.bind (idx a0.Slopes (i2 : Int)) fun v24 =>
    some (.nx (GMap.put s2 v15 (IntKind.i64.wrap ((GMap.get s2 v15 (0 : Int)) + (IntKind.i64.wrap (a2 * v24))))))) a0.Vars.length 0 a1) fun s2 =>
  some (IntKind.i64.wrap (a2 * a0.Constant), s2)

def sortB (a : List ByteArray) : List ByteArray := ((a.map fun x => x.data.toList).mergeSort fun x y => decide (x ≤ y)).map fun l => ⟨l.toArray⟩
def slices_SortS (a0 : List ByteArray) : Option (Unit × List ByteArray) := if a0.length < 4611686018427387904 then some ((), sortB a0) else none

def impl_IsValidLinear (a0 : Linear) : Option Bool :=
  bif decide ((8 : Int) < (a0.Vars.length : Int)) then
    some false
  else
    bif decide ((a0.Slopes.length : Int) = (a0.Vars.length : Int)) then
      Option.bind (impl_within a0.Constant (0 : Int) (100000 : Int)) fun v21 =>
      bif v21 then
        thenL (ρ := Bool) (σ := Unit) (forN (fun (i4 : Nat) (s4 : Unit) =>
          Option.bind (idx a0.Vars (i4 : Int)) fun v30 =>
          Option.bind (impl_isVariable v30) fun v33 =>
          bif v33 then
            bif decide ((0 : Int) < (i4 : Int)) then
              Option.bind (idx a0.Vars (IntKind.i64.wrap ((i4 : Int) - (1 : Int)))) fun v44 =>
              bif Op.bytesLess v30.data.toList v44.data.toList || decide (v30 = v44) then
                some (.rt false)
              else
                Option.bind (idx a0.Slopes (i4 : Int)) fun v53 =>
                Option.bind (impl_within v53 (1 : Int) (1000 : Int)) fun v55 =>
                bif v55 then
                  some (.nx ())
                else
                  some (.rt false)
            else
              Option.bind (idx a0.Slopes (i4 : Int)) fun v53 =>
              Option.bind (impl_within v53 (1 : Int) (1000 : Int)) fun v55 =>
              bif v55 then
                some (.nx ())
              else
                some (.rt false)
          else
            some (.rt false)) a0.Vars.length 0 ()) fun s4 =>
        some true
      else
        some false
    else
      some false

def impl_linear (a0 : GMap Int) (a1 : Int) : Option (Linear × Bool) :=
  if a0.es.length ≤ 1073741824 then
    Option.bind (slices_SortS ((a0.es.filter fun e => !decide (e.2.1 = 0)).map fun e => e.1)) fun v =>
    Option.bind (impl_IsValidLinear (Linear.mk v.2 (v.2.map fun k => GMap.get a0 k 0) a1)) fun b =>
    if b then some (Linear.mk v.2 (v.2.map fun k => GMap.get a0 k 0) a1, true) else some (Linear.mk [] [] 0, false)
  else none
def impl_linearR (ord : List (ByteArray × Int × Nat)) (a0 : GMap Int) (a1 : Int) : Option (Linear × Bool) :=
  thenL (ρ := (Linear × Bool)) (σ := (List ByteArray)) (forN (ordN (fun (e3 : ByteArray × Int × Nat) (s3 : (List ByteArray)) =>
    bif decide (e3.2.1 = (0 : Int)) then
      some (.nx s3)
    else
      Option.bind (app s3 ([e3.1])) fun v26 =>
      some (.nx v26)) ord) ord.length 0 ([])) fun s3 =>
  Option.bind (slices_SortS s3) fun v30 =>
  thenL (ρ := (Linear × Bool)) (σ := (List Int)) (forN (fun (i9 : Nat) (s9 : (List Int)) =>
    Option.bind (idx v30.2 (i9 : Int)) fun v36 =>
    Option.bind (idx v30.2 (i9 : Int)) fun v37 =>
    Option.bind (app s9 ([GMap.get a0 v37 (0 : Int)])) fun v44 =>
    some (.nx v44)) v30.2.length 0 ([])) fun s9 =>
  Option.bind (impl_IsValidLinear (Linear.mk v30.2 s9 a1)) fun v48 =>
  bif v48 then
    some ((Linear.mk v30.2 s9 a1), true)
  else
    some ((Linear.mk ([]) ([]) (0 : Int)), false)

def impl_boundOfN : Nat → (List Majorant) → Term → Option (Linear × Bool)
  | 0, _, _ => none
  | n + 1, a0, a1 =>
    Option.bind (impl_isVar a1) fun v14 =>
    bif v14 then
      some ((Linear.mk ([a1.Name]) ([(1 : Int)]) (0 : Int)), true)
    else
      Option.bind (impl_majorant a0 a1) fun v22 =>
      bif decide (v22 < (0 : Int)) then
        some ((Linear.mk ([]) ([]) (0 : Int)), false)
      else
        Option.bind (idx a0 v22) fun v29 =>
        thenL (ρ := (Linear × Bool)) (σ := Int × (GMap Int)) (forN (fun (i9 : Nat) (s9 : Int × (GMap Int)) =>
          Option.bind (idx a1.Args (i9 : Int)) fun v38 =>
          Option.bind (impl_boundOfN n a0 v38) fun v43 =>
          bif v43.2 then
            Option.bind (idx a0 v22) fun v54 =>
            Option.bind (idx v54.Slopes (i9 : Int)) fun v58 =>
            Option.bind (impl_Linear__add v43.1 s9.2 v58) fun v60 =>
            some (.nx (IntKind.i64.wrap (s9.1 + v60.1), v60.2))
          else
            some (.rt ((Linear.mk ([]) ([]) (0 : Int)), false))) a1.Args.length 0 (v29.Constant, (GMap.empty : GMap Int))) fun s9 =>
        Option.bind (impl_linear s9.2 s9.1) fun v65 =>
        some (v65.1, v65.2)
def impl_boundOf (a0 : List Majorant) (a1 : Term) : Option (Linear × Bool) := lim fun n => impl_boundOfN n a0 a1

def impl_MajorantOf (a0 : List Majorant) (a1 : Term) : Option (Linear × Bool) :=
  Option.bind (impl_IsValidMajorants a0) fun v7 =>
  bif v7 then
    Option.bind (impl_IsValidTerm a1) fun v11 =>
    bif v11 then
      Option.bind (impl_boundOf a0 a1) fun v17 =>
      some (v17.1, v17.2)
    else
      some ((Linear.mk ([]) ([]) (0 : Int)), false)
  else
    some ((Linear.mk ([]) ([]) (0 : Int)), false)

def eqStringS (a0 : List ByteArray) (a1 : List ByteArray) : Option Bool :=
  bif decide ((a0.length : Int) = (a1.length : Int)) then
    thenL (ρ := Bool) (σ := Unit) (forN (fun (i4 : Nat) (s4 : Unit) =>
      Option.bind (idx a0 (i4 : Int)) fun v19 =>
      Option.bind (idx a1 (i4 : Int)) fun v23 =>
      bif decide (v19 = v23) then
        some (.nx ())
      else
        some (.rt false)) a0.length 0 ()) fun s4 =>
    some true
  else
    some false

def eqIntS (a0 : List Int) (a1 : List Int) : Option Bool :=
  bif decide ((a0.length : Int) = (a1.length : Int)) then
    thenL (ρ := Bool) (σ := Unit) (forN (fun (i4 : Nat) (s4 : Unit) =>
      Option.bind (idx a0 (i4 : Int)) fun v19 =>
      Option.bind (idx a1 (i4 : Int)) fun v23 =>
      bif decide (v19 = v23) then
        some (.nx ())
      else
        some (.rt false)) a0.length 0 ()) fun s4 =>
    some true
  else
    some false

def eqLinear (a0 : Linear) (a1 : Linear) : Option Bool :=
  Option.bind (eqStringS a0.Vars a1.Vars) fun v9 =>
  bif v9 then
    Option.bind (eqIntS a0.Slopes a1.Slopes) fun v15 =>
    bif v15 then
      bif decide (a0.Constant = a1.Constant) then
        some true
      else
        some false
    else
      some false
  else
    some false

def eqMajorant (a0 : Majorant) (a1 : Majorant) : Option Bool :=
  bif decide (a0.Name = a1.Name) then
    Option.bind (eqIntS a0.Slopes a1.Slopes) fun v14 =>
    bif v14 then
      bif decide (a0.Constant = a1.Constant) then
        some true
      else
        some false
    else
      some false
  else
    some false

def eqMajorantS (a0 : List Majorant) (a1 : List Majorant) : Option Bool :=
  bif decide ((a0.length : Int) = (a1.length : Int)) then
    thenL (ρ := Bool) (σ := Unit) (forN (fun (i4 : Nat) (s4 : Unit) =>
      Option.bind (idx a0 (i4 : Int)) fun v19 =>
      Option.bind (idx a1 (i4 : Int)) fun v23 =>
      Option.bind (eqMajorant v19 v23) fun v25 =>
      bif v25 then
        some (.nx ())
      else
        some (.rt false)) a0.length 0 ()) fun s4 =>
    some true
  else
    some false

mutual
def eqTermN : Nat → Term → Term → Option Bool
  | 0, _, _ => none
  | n + 1, a0, a1 =>
    bif decide (a0.Name = a1.Name) then
      Option.bind (eqTermSN n a0.Args a1.Args) fun v14 =>
      bif v14 then
        some true
      else
        some false
    else
      some false
def eqTermSN : Nat → (List Term) → (List Term) → Option Bool
  | 0, _, _ => none
  | n + 1, a0, a1 =>
    bif decide ((a0.length : Int) = (a1.length : Int)) then
      thenL (ρ := Bool) (σ := Unit) (forN (fun (i4 : Nat) (s4 : Unit) =>
        Option.bind (idx a0 (i4 : Int)) fun v19 =>
        Option.bind (idx a1 (i4 : Int)) fun v23 =>
        Option.bind (eqTermN n v19 v23) fun v25 =>
        bif v25 then
          some (.nx ())
        else
          some (.rt false)) a0.length 0 ()) fun s4 =>
      some true
    else
      some false
end
def eqTerm (a0 : Term) (a1 : Term) : Option Bool := lim fun n => eqTermN n a0 a1
def eqTermS (a0 : List Term) (a1 : List Term) : Option Bool := lim fun n => eqTermSN n a0 a1

def markText (a0 : Int) : Option ByteArray :=
  bif decide (a0 ≤ (0 : Int)) then
    some (⟨#[109, 48]⟩ : ByteArray)
  else
    thenL (ρ := ByteArray) (σ := Int × ByteArray) (lim fun n4 => whileN (fun (s4 : Int × ByteArray) =>
      bif decide ((0 : Int) < s4.1) then
        Option.bind (rem s4.1 (10 : Int)) fun v9 =>
        Option.bind (bstr ([IntKind.u8.wrap (IntKind.i64.wrap ((48 : Int) + v9))])) fun v13 =>
        Option.bind (sapp v13 s4.2) fun v15 =>
        Option.bind (quo s4.1 (10 : Int)) fun v17 =>
        some (.nx (v17, v15))
      else
        some (.br s4)) n4 (a0, (⟨#[]⟩ : ByteArray))) fun s4 =>
    Option.bind (sapp (⟨#[109]⟩ : ByteArray) s4.2) fun v19 =>
    some v19

def markIntS (a0 : List Int) (a1 : Int) : Option (Int × (List Int)) :=
  thenL (ρ := (Int × (List Int))) (σ := (List Int) × Int × Int) (lim fun n2 => whileN (fun (s2 : (List Int) × Int × Int) =>
    bif decide (s2.2.2 < (s2.1.length : Int)) then
      Option.bind (idx s2.1 s2.2.2) fun v15 =>
      Option.bind (idx s2.1 s2.2.2) fun w2 =>
      some (.nx (s2.1.set s2.2.2.toNat s2.2.1, IntKind.i64.wrap (s2.2.1 + (1 : Int)), IntKind.i64.wrap (s2.2.2 + (1 : Int))))
    else
      some (.br s2)) n2 (a0, a1, (0 : Int))) fun s2 =>
  some (s2.2.1, s2.1)

def markMajorantS (a0 : List Majorant) (a1 : Int) : Option (Int × (List Majorant)) :=
  thenL (ρ := (Int × (List Majorant))) (σ := (List Majorant) × Int × Int) (lim fun n2 => whileN (fun (s2 : (List Majorant) × Int × Int) =>
    bif decide (s2.2.2 < (s2.1.length : Int)) then
      Option.bind (markText s2.2.1) fun v15 =>
      Option.bind (idx s2.1 s2.2.2) fun v16 =>
      Option.bind (idx s2.1 s2.2.2) fun w2 =>
      Option.bind (idx (s2.1.set s2.2.2.toNat (Majorant.mk v15 w2.Slopes w2.Constant)) s2.2.2) fun v22 =>
      Option.bind (idx (s2.1.set s2.2.2.toNat (Majorant.mk v15 w2.Slopes w2.Constant)) s2.2.2) fun w3 =>
      Option.bind (markIntS w3.Slopes (IntKind.i64.wrap (s2.2.1 + (1 : Int)))) fun v26 =>
      Option.bind (idx ((s2.1.set s2.2.2.toNat (Majorant.mk v15 w2.Slopes w2.Constant)).set s2.2.2.toNat (Majorant.mk w3.Name v26.2 w3.Constant)) s2.2.2) fun v30 =>
      Option.bind (idx ((s2.1.set s2.2.2.toNat (Majorant.mk v15 w2.Slopes w2.Constant)).set s2.2.2.toNat (Majorant.mk w3.Name v26.2 w3.Constant)) s2.2.2) fun w4 =>
      some (.nx (((s2.1.set s2.2.2.toNat (Majorant.mk v15 w2.Slopes w2.Constant)).set s2.2.2.toNat (Majorant.mk w3.Name v26.2 w3.Constant)).set s2.2.2.toNat (Majorant.mk w4.Name w4.Slopes v26.1), IntKind.i64.wrap (v26.1 + (1 : Int)), IntKind.i64.wrap (s2.2.2 + (1 : Int))))
    else
      some (.br s2)) n2 (a0, a1, (0 : Int))) fun s2 =>
  some (s2.2.1, s2.1)

def markTermSN : Nat → (List Term) → Int → Option (Int × (List Term))
  | 0, _, _ => none
  | n + 1, a0, a1 =>
    thenL (ρ := (Int × (List Term))) (σ := (List Term) × Int × Int) (lim fun n2 => whileN (fun (s2 : (List Term) × Int × Int) =>
      bif decide (s2.2.2 < (s2.1.length : Int)) then
        Option.bind (markText s2.2.1) fun v15 =>
        Option.bind (idx s2.1 s2.2.2) fun v16 =>
        Option.bind (idx s2.1 s2.2.2) fun w2 =>
        Option.bind (idx (s2.1.set s2.2.2.toNat (Term.mk v15 w2.Args)) s2.2.2) fun v22 =>
        Option.bind (idx (s2.1.set s2.2.2.toNat (Term.mk v15 w2.Args)) s2.2.2) fun w3 =>
        Option.bind (markTermSN n w3.Args (IntKind.i64.wrap (s2.2.1 + (1 : Int)))) fun v26 =>
        some (.nx ((s2.1.set s2.2.2.toNat (Term.mk v15 w2.Args)).set s2.2.2.toNat (Term.mk w3.Name v26.2), v26.1, IntKind.i64.wrap (s2.2.2 + (1 : Int))))
      else
        some (.br s2)) n2 (a0, a1, (0 : Int))) fun s2 =>
    some (s2.2.1, s2.1)
def markTermS (a0 : List Term) (a1 : Int) : Option (Int × (List Term)) := lim fun n => markTermSN n a0 a1

def markTerm (a0 : Term) (a1 : Int) : Option (Int × (List Term)) :=
  Option.bind (markTermS a0.Args a1) fun v8 =>
  some (v8.1, v8.2)

def markStringS (a0 : List ByteArray) (a1 : Int) : Option (Int × (List ByteArray)) :=
  thenL (ρ := (Int × (List ByteArray))) (σ := (List ByteArray) × Int × Int) (lim fun n2 => whileN (fun (s2 : (List ByteArray) × Int × Int) =>
    bif decide (s2.2.2 < (s2.1.length : Int)) then
      Option.bind (markText s2.2.1) fun v15 =>
      Option.bind (idx s2.1 s2.2.2) fun v16 =>
      Option.bind (idx s2.1 s2.2.2) fun w2 =>
      some (.nx (s2.1.set s2.2.2.toNat v15, IntKind.i64.wrap (s2.2.1 + (1 : Int)), IntKind.i64.wrap (s2.2.2 + (1 : Int))))
    else
      some (.br s2)) n2 (a0, a1, (0 : Int))) fun s2 =>
  some (s2.2.1, s2.1)

def markLinear (a0 : Linear) (a1 : Int) : Option (Int × (List ByteArray) × (List Int)) :=
  Option.bind (markStringS a0.Vars a1) fun v8 =>
  Option.bind (markIntS a0.Slopes v8.1) fun v12 =>
  some (v12.1, v8.2, v12.2)

def heldStringS (a0 : List ByteArray) (a1 : Int) : Option Int :=
  thenL (ρ := Int) (σ := Int) (forN (fun (i2 : Nat) (s2 : Int) =>
    Option.bind (idx a0 (i2 : Int)) fun v14 =>
    Option.bind (markText s2) fun v17 =>
    bif decide (v14 = v17) then
      some (.nx (IntKind.i64.wrap (s2 + (1 : Int))))
    else
      some (.rt (-1 : Int))) a0.length 0 a1) fun s2 =>
  some s2

def heldIntS (a0 : List Int) (a1 : Int) : Option Int :=
  thenL (ρ := Int) (σ := Int) (forN (fun (i2 : Nat) (s2 : Int) =>
    Option.bind (idx a0 (i2 : Int)) fun v14 =>
    bif decide (v14 = s2) then
      some (.nx (IntKind.i64.wrap (s2 + (1 : Int))))
    else
      some (.rt (-1 : Int))) a0.length 0 a1) fun s2 =>
  some s2

def heldLinear (a0 : Linear) (a1 : Int) : Option Int :=
  Option.bind (heldStringS a0.Vars a1) fun v8 =>
  bif decide (v8 < (0 : Int)) then
    some (-1 : Int)
  else
    Option.bind (heldIntS a0.Slopes v8) fun v14 =>
    bif decide (v14 < (0 : Int)) then
      some (-1 : Int)
    else
      some v14

def FnExactMajorantOf (a0 : List Majorant) (a1 : Term) : Option Bool :=
  Option.bind (szMajorantS a0 (1048576 : Int)) fun v19 =>
  bif decide (v19 < (0 : Int)) then
    some true
  else
    Option.bind (szTerm a1 v19) fun v24 =>
    bif decide (v24 < (0 : Int)) then
      some true
    else
      Option.bind (toMajorantS a0) fun v29 =>
      Option.bind (toTerm a1) fun v31 =>
      Option.bind (spec_MajorantOf v29 v31) fun v32 =>
      Option.bind (toMajorantS a0) fun v36 =>
      Option.bind (toTerm a1) fun v38 =>
      Option.bind (impl_MajorantOf v36 v38) fun v42 =>
      Option.bind (eqLinear v42.1 v32.1) fun v47 =>
      bif v47 then
        bif v42.2 == v32.2 then
          Option.bind (toMajorantS a0) fun v56 =>
          Option.bind (eqMajorantS v36 v56) fun v57 =>
          bif v57 then
            Option.bind (toTerm a1) fun v61 =>
            Option.bind (eqTerm v38 v61) fun v62 =>
            bif v62 then
              Option.bind (markMajorantS v36 (1 : Int)) fun v66 =>
              Option.bind (markTerm v38 v66.1) fun v69 =>
              bif decide (v69.1 < (0 : Int)) then
                some false
              else
                Option.bind (eqLinear v42.1 v32.1) fun v75 =>
                bif v75 then
                  Option.bind (markLinear v42.1 (1 : Int)) fun v85 =>
                  Option.bind (heldLinear (Linear.mk v85.2.1 v85.2.2 v42.1.Constant) (1 : Int)) fun v88 =>
                  bif decide (v88 < (0 : Int)) then
                    some false
                  else
                    bif decide (v88 = v85.1) then
                      Option.bind (toMajorantS a0) fun v96 =>
                      Option.bind (toTerm a1) fun v98 =>
                      Option.bind (impl_MajorantOf v96 v98) fun v99 =>
                      Option.bind (eqLinear v99.1 v32.1) fun v104 =>
                      bif v104 then
                        bif v99.2 == v32.2 then
                          Option.bind (heldLinear (Linear.mk v85.2.1 v85.2.2 v42.1.Constant) (1 : Int)) fun v113 =>
                          bif decide (v113 < (0 : Int)) then
                            some false
                          else
                            bif decide (v113 = v85.1) then
                              some true
                            else
                              some false
                        else
                          some false
                      else
                        some false
                    else
                      some false
                else
                  some false
            else
              some false
          else
            some false
        else
          some false
      else
        some false

def spec_l25Join (a0 : Linear) (a1 : Linear) : Option Linear :=
  Option.bind (spec_l25Names a0 a1) fun v9 =>
  Option.bind (spec_l1Most a0.Constant a1.Constant) fun v15 =>
  thenL (ρ := Linear) (σ := (List Int)) (forN (fun (i3 : Nat) (s3 : (List Int)) =>
    Option.bind (idx v9 (i3 : Int)) fun v30 =>
    Option.bind (spec_l25Slope a0 v30) fun v32 =>
    Option.bind (idx v9 (i3 : Int)) fun v37 =>
    Option.bind (spec_l25Slope a1 v37) fun v39 =>
    Option.bind (spec_l1Most v32 v39) fun v40 =>
    Option.bind (app s3 ([v40])) fun v42 =>
    some (.nx v42)) v9.length 0 ([])) fun s3 =>
  some (Linear.mk v9 s3 v15)

def spec_BoundOfTerms (a0 : List Majorant) (a1 : List Term) : Option (Linear × Bool) :=
  Option.bind (spec_l25List a0) fun v11 =>
  bif v11 then
    Option.bind (spec_l1In (a1.length : Int) (1 : Int) (60 : Int)) fun v16 =>
    bif v16 then
      thenL (ρ := (Linear × Bool)) (σ := Linear) (forN (fun (i5 : Nat) (s5 : Linear) =>
        Option.bind (idx a1 (i5 : Int)) fun v31 =>
        Option.bind (spec_MajorantOf a0 v31) fun v33 =>
        bif v33.2 then
          Option.bind (spec_l25Join s5 v33.1) fun v41 =>
          Option.bind (spec_l25Linear v41) fun v43 =>
          bif v43 then
            some (.nx v41)
          else
            some (.rt ((Linear.mk ([]) ([]) (0 : Int)), false))
        else
          some (.rt ((Linear.mk ([]) ([]) (0 : Int)), false))) a1.length 0 (Linear.mk ([]) ([]) (0 : Int))) fun s5 =>
      some (s5, true)
    else
      some ((Linear.mk ([]) ([]) (0 : Int)), false)
  else
    some ((Linear.mk ([]) ([]) (0 : Int)), false)

def impl_join (a0 : Linear) (a1 : Linear) : Option (Linear × Bool) :=
  thenL (ρ := (Linear × Bool)) (σ := (GMap Int)) (forN (fun (i3 : Nat) (s3 : (GMap Int)) =>
    Option.bind (idx ([a0, a1]) (i3 : Int)) fun v18 =>
    Option.bind (idx ([a0, a1]) (i3 : Int)) fun v19 =>
    thenL (ρ := (Flow (Linear × Bool) (GMap Int))) (σ := (GMap Int)) (forN (fun (i6 : Nat) (s6 : (GMap Int)) =>
      Option.bind (idx v19.Vars (i6 : Int)) fun v26 =>
      Option.bind (idx v19.Slopes (i6 : Int)) fun v36 =>
      some (.nx (GMap.put s6 v26 (max (GMap.get s6 v26 (0 : Int)) v36)))) v19.Vars.length 0 s3) fun s6 =>
    some (.nx s6)) (([a0, a1]).length) 0 (GMap.empty : GMap Int)) fun s3 =>
  Option.bind (impl_linear s3 (max a0.Constant a1.Constant)) fun v47 =>
  some (v47.1, v47.2)

def impl_BoundOfTerms (a0 : List Majorant) (a1 : List Term) : Option (Linear × Bool) :=
  Option.bind (impl_within (a1.length : Int) (1 : Int) (60 : Int)) fun v13 =>
  bif v13 then
    thenL (ρ := (Linear × Bool)) (σ := Int × (List ByteArray) × (List Int)) (forN (fun (i5 : Nat) (s5 : Int × (List ByteArray) × (List Int)) =>
      Option.bind (idx a1 (i5 : Int)) fun v21 =>
      Option.bind (impl_MajorantOf a0 v21) fun v26 =>
      bif v26.2 then
        Option.bind (impl_join (Linear.mk s5.2.1 s5.2.2 s5.1) v26.1) fun v35 =>
        bif v35.2 then
          some (.nx (v35.1.Constant, v35.1.Vars, v35.1.Slopes))
        else
          some (.rt ((Linear.mk ([]) ([]) (0 : Int)), false))
      else
        some (.rt ((Linear.mk ([]) ([]) (0 : Int)), false))) a1.length 0 ((0 : Int), [], [])) fun s5 =>
    some ((Linear.mk s5.2.1 s5.2.2 s5.1), true)
  else
    some ((Linear.mk ([]) ([]) (0 : Int)), false)

def FnExactBoundOfTerms (a0 : List Majorant) (a1 : List Term) : Option Bool :=
  Option.bind (szMajorantS a0 (1048576 : Int)) fun v19 =>
  bif decide (v19 < (0 : Int)) then
    some true
  else
    Option.bind (szTermS a1 v19) fun v24 =>
    bif decide (v24 < (0 : Int)) then
      some true
    else
      Option.bind (toMajorantS a0) fun v29 =>
      Option.bind (toTermS a1) fun v31 =>
      Option.bind (spec_BoundOfTerms v29 v31) fun v32 =>
      Option.bind (toMajorantS a0) fun v36 =>
      Option.bind (toTermS a1) fun v38 =>
      Option.bind (impl_BoundOfTerms v36 v38) fun v42 =>
      Option.bind (eqLinear v42.1 v32.1) fun v47 =>
      bif v47 then
        bif v42.2 == v32.2 then
          Option.bind (toMajorantS a0) fun v56 =>
          Option.bind (eqMajorantS v36 v56) fun v57 =>
          bif v57 then
            Option.bind (toTermS a1) fun v61 =>
            Option.bind (eqTermS v38 v61) fun v62 =>
            bif v62 then
              Option.bind (markMajorantS v36 (1 : Int)) fun v66 =>
              Option.bind (markTermS v38 v66.1) fun v69 =>
              bif decide (v69.1 < (0 : Int)) then
                some false
              else
                Option.bind (eqLinear v42.1 v32.1) fun v75 =>
                bif v75 then
                  Option.bind (markLinear v42.1 (1 : Int)) fun v85 =>
                  Option.bind (heldLinear (Linear.mk v85.2.1 v85.2.2 v42.1.Constant) (1 : Int)) fun v88 =>
                  bif decide (v88 < (0 : Int)) then
                    some false
                  else
                    bif decide (v88 = v85.1) then
                      Option.bind (toMajorantS a0) fun v96 =>
                      Option.bind (toTermS a1) fun v98 =>
                      Option.bind (impl_BoundOfTerms v96 v98) fun v99 =>
                      Option.bind (eqLinear v99.1 v32.1) fun v104 =>
                      bif v104 then
                        bif v99.2 == v32.2 then
                          Option.bind (heldLinear (Linear.mk v85.2.1 v85.2.2 v42.1.Constant) (1 : Int)) fun v113 =>
                          bif decide (v113 < (0 : Int)) then
                            some false
                          else
                            bif decide (v113 = v85.1) then
                              some true
                            else
                              some false
                        else
                          some false
                      else
                        some false
                    else
                      some false
                else
                  some false
            else
              some false
          else
            some false
        else
          some false
      else
        some false

end
end Go.Proofs.YtgbddapcjhgllaaGreat
