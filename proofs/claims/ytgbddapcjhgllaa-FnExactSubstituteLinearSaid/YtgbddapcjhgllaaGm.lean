/- A part of the proof: lemmas only; nothing is claimed here beyond what each lemma says. -/
import Derived.Test.YtgbddapcjhgllaaGty
set_option linter.unusedSimpArgs false
set_option linter.unusedVariables false
set_option linter.defProp false
set_option maxRecDepth 4000
namespace Go.Proofs.Ytgbddapcjhgllaa
open Go.Av
noncomputable section
def szStringS (a0 : List ByteArray) (a1 : Int) : Option Int :=
  bif decide ((IntKind.i64.wrap (a1 - (a0.length : Int))) < (0 : Int)) then
    some (-1 : Int)
  else
    thenL (ρ := Int) (σ := Int) (forN (fun (i5 : Nat) (s5 : Int) =>
      Option.bind (idx a0 (i5 : Int)) fun v21 =>
      bif decide ((IntKind.i64.wrap (s5 - (v21.size : Int))) < (0 : Int)) then
        some (.rt (-1 : Int))
      else
        some (.nx (IntKind.i64.wrap (s5 - (v21.size : Int))))) a0.length 0 (IntKind.i64.wrap (a1 - (a0.length : Int)))) fun s5 =>
    some s5

def szIntS (a0 : List Int) (a1 : Int) : Option Int :=
  bif decide ((IntKind.i64.wrap (a1 - (a0.length : Int))) < (0 : Int)) then
    some (-1 : Int)
  else
    some (IntKind.i64.wrap (a1 - (a0.length : Int)))

def szLinear (a0 : Linear) (a1 : Int) : Option Int :=
  Option.bind (szStringS a0.Vars a1) fun v8 =>
  bif decide (v8 < (0 : Int)) then
    some (-1 : Int)
  else
    Option.bind (szIntS a0.Slopes v8) fun v14 =>
    bif decide (v14 < (0 : Int)) then
      some (-1 : Int)
    else
      some v14

def toStringS (a0 : List ByteArray) : Option (List ByteArray) :=
  Option.bind (mkn (a0.length : Int)) fun n7 =>
  thenL (ρ := (List ByteArray)) (σ := (List ByteArray)) (forN (fun (i3 : Nat) (s3 : (List ByteArray)) =>
    Option.bind (idx a0 (i3 : Int)) fun v18 =>
    Option.bind (idx s3 (i3 : Int)) fun v20 =>
    Option.bind (idx s3 (i3 : Int)) fun w2 =>
    some (.nx (s3.set (i3 : Int).toNat v18))) a0.length 0 (List.replicate n7 (⟨#[]⟩ : ByteArray))) fun s3 =>
  some s3

def toIntS (a0 : List Int) : Option (List Int) :=
  Option.bind (mkn (a0.length : Int)) fun n7 =>
  thenL (ρ := (List Int)) (σ := (List Int)) (forN (fun (i3 : Nat) (s3 : (List Int)) =>
    Option.bind (idx a0 (i3 : Int)) fun v18 =>
    Option.bind (idx s3 (i3 : Int)) fun v20 =>
    Option.bind (idx s3 (i3 : Int)) fun w2 =>
    some (.nx (s3.set (i3 : Int).toNat v18))) a0.length 0 (List.replicate n7 (0 : Int))) fun s3 =>
  some s3

def toLinear (a0 : Linear) : Option Linear :=
  Option.bind (toStringS a0.Vars) fun v6 =>
  Option.bind (toIntS a0.Slopes) fun v10 =>
  some (Linear.mk v6 v10 a0.Constant)

def spec_l1In (a0 : Int) (a1 : Int) (a2 : Int) : Option Bool :=
  bif decide (a1 ≤ a0) then
    some (decide (a0 ≤ a2))
  else
    some false

def spec_l2Small (a0 : Int) : Option Bool :=
  bif decide ((97 : Int) ≤ a0) then
    bif decide (a0 ≤ (122 : Int)) then
      some true
    else
      bif decide ((48 : Int) ≤ a0) then
        some (decide (a0 ≤ (57 : Int)))
      else
        some false
  else
    bif decide ((48 : Int) ≤ a0) then
      some (decide (a0 ≤ (57 : Int)))
    else
      some false

def spec_l2Var (a0 : ByteArray) : Option Bool :=
  Option.bind (spec_l1In (a0.size : Int) (1 : Int) (4 : Int)) fun v6 =>
  bif v6 then
    Option.bind (sidx a0 (0 : Int)) fun v10 =>
    bif decide (v10 < (65 : Int)) then
      some false
    else
      Option.bind (sidx a0 (0 : Int)) fun v15 =>
      bif decide ((90 : Int) < v15) then
        some false
      else
        Option.bind (bnd (a0.size : Int)) fun N4 =>
        thenL (ρ := Bool) (σ := Unit) (forN (fun (i4 : Nat) (s4 : Unit) =>
          Option.bind (sidx a0 (i4 : Int)) fun v26 =>
          Option.bind (spec_l2Small v26) fun v27 =>
          bif v27 then
            some (.nx ())
          else
            some (.rt false)) (N4 - 1) 1 ()) fun s4 =>
        some true
  else
    some false

def spec_l25Linear (a0 : Linear) : Option Bool :=
  bif decide ((8 : Int) < (a0.Vars.length : Int)) then
    some false
  else
    bif decide ((a0.Slopes.length : Int) = (a0.Vars.length : Int)) then
      Option.bind (spec_l1In a0.Constant (0 : Int) (100000 : Int)) fun v20 =>
      bif v20 then
        thenL (ρ := Bool) (σ := Unit) (forN (fun (i4 : Nat) (s4 : Unit) =>
          Option.bind (idx a0.Vars (i4 : Int)) fun v33 =>
          Option.bind (spec_l2Var v33) fun v35 =>
          bif v35 then
            Option.bind (idx a0.Slopes (i4 : Int)) fun v41 =>
            Option.bind (spec_l1In v41 (1 : Int) (1000 : Int)) fun v43 =>
            bif v43 then
              bif decide ((0 : Int) < (i4 : Int)) then
                Option.bind (idx a0.Vars (IntKind.i64.wrap ((i4 : Int) - (1 : Int)))) fun v54 =>
                Option.bind (idx a0.Vars (i4 : Int)) fun v59 =>
                bif Op.bytesLess v54.data.toList v59.data.toList then
                  some (.nx ())
                else
                  some (.rt false)
              else
                some (.nx ())
            else
              some (.rt false)
          else
            some (.rt false)) a0.Vars.length 0 ()) fun s4 =>
        some true
      else
        some false
    else
      some false

def spec_l2Put (a0 : List ByteArray) (a1 : ByteArray) : Option (List ByteArray) :=
  thenL (ρ := (List ByteArray)) (σ := Unit) (forN (fun (i2 : Nat) (s2 : Unit) =>
    Option.bind (idx a0 (i2 : Int)) fun v13 =>
    bif Op.bytesLess v13.data.toList a1.data.toList then
      some (.nx ())
    else
      Option.bind (idx a0 (i2 : Int)) fun v27 =>
      bif decide (v27 = a1) then
        some (.rt a0)
      else
        Option.bind (slc a0 (0 : Int) (i2 : Int)) fun v36 =>
        Option.bind (app ([]) v36) fun v37 =>
        Option.bind (app v37 ([a1])) fun v40 =>
        Option.bind (slc a0 (i2 : Int) (a0.length : Int)) fun v43 =>
        Option.bind (app v40 v43) fun v44 =>
        some (.rt v44)) a0.length 0 ()) fun s2 =>
  Option.bind (slc a0 (0 : Int) ((a0.length : Nat) : Int)) fun v36 =>
  Option.bind (app ([]) v36) fun v37 =>
  Option.bind (app v37 ([a1])) fun v40 =>
  Option.bind (slc a0 ((a0.length : Nat) : Int) (a0.length : Int)) fun v43 =>
  Option.bind (app v40 v43) fun v44 =>
  some v44

def spec_l25Names (a0 : Linear) (a1 : Linear) : Option (List ByteArray) :=
  thenL (ρ := (List ByteArray)) (σ := (List ByteArray)) (forN (fun (i3 : Nat) (s3 : (List ByteArray)) =>
    Option.bind (idx a0.Vars (i3 : Int)) fun v20 =>
    Option.bind (spec_l2Put s3 v20) fun v22 =>
    some (.nx v22)) a0.Vars.length 0 ([])) fun s3 =>
  thenL (ρ := (List ByteArray)) (σ := (List ByteArray)) (forN (fun (i7 : Nat) (s7 : (List ByteArray)) =>
    Option.bind (idx a1.Vars (i7 : Int)) fun v34 =>
    Option.bind (spec_l2Put s7 v34) fun v36 =>
    some (.nx v36)) a1.Vars.length 0 s3) fun s7 =>
  some s7

def spec_l1Most (a0 : Int) (a1 : Int) : Option Int :=
  bif decide (a1 < a0) then
    some a0
  else
    some a1

def spec_l25Slope (a0 : Linear) (a1 : ByteArray) : Option Int :=
  thenL (ρ := Int) (σ := Unit) (forN (fun (i2 : Nat) (s2 : Unit) =>
    Option.bind (idx a0.Vars (i2 : Int)) fun v16 =>
    bif decide (v16 = a1) then
      Option.bind (idx a0.Slopes (i2 : Int)) fun v23 =>
      some (.rt v23)
    else
      some (.nx ())) a0.Vars.length 0 ()) fun s2 =>
  some (0 : Int)

def spec_l25Join (a0 : Linear) (a1 : Linear) : Option Linear :=
  Option.bind (spec_l25Names a0 a1) fun v9 =>
  Option.bind (spec_l1Most a0.Constant a1.Constant) fun v15 =>
  thenL (ρ := Linear) (σ := (List Int)) (forN (fun (i3 : Nat) (s3 : (List Int)) =>
    Option.bind (idx v9 (i3 : Int)) fun v30 =>
    Option.bind (spec_l25Slope a0 v30) fun v32 =>
    Option.bind (idx v9 (i3 : Int)) fun v37 =>
    Option.bind (spec_l25Slope a1 v37) fun v39 =>
    Option.bind (spec_l1Most v32 v39) fun v40 =>
    Option.bind (app s3 ([v40])) fun v42 =>
    some (.nx v42)) v9.length 0 ([])) fun s3 =>
  some (Linear.mk v9 s3 v15)

def spec_JoinLinear (a0 : Linear) (a1 : Linear) : Option (Linear × Bool) :=
  Option.bind (spec_l25Linear a0) fun v8 =>
  bif v8 then
    Option.bind (spec_l25Linear a1) fun v12 =>
    bif v12 then
      Option.bind (spec_l25Join a0 a1) fun v18 =>
      Option.bind (spec_l25Linear v18) fun v20 =>
      bif v20 then
        some (v18, true)
      else
        some ((Linear.mk ([]) ([]) (0 : Int)), false)
    else
      some ((Linear.mk ([]) ([]) (0 : Int)), false)
  else
    some ((Linear.mk ([]) ([]) (0 : Int)), false)

def impl_within (a0 : Int) (a1 : Int) (a2 : Int) : Option Bool :=
  bif decide (a1 ≤ a0) then
    some (decide (a0 ≤ a2))
  else
    some false

def impl_isUpper (a0 : Int) : Option Bool :=
  bif decide ((65 : Int) ≤ a0) then
    some (decide (a0 ≤ (90 : Int)))
  else
    some false

def impl_isLower (a0 : Int) : Option Bool :=
  bif decide ((97 : Int) ≤ a0) then
    some (decide (a0 ≤ (122 : Int)))
  else
    some false

def impl_isDigit (a0 : Int) : Option Bool :=
  bif decide ((48 : Int) ≤ a0) then
    some (decide (a0 ≤ (57 : Int)))
  else
    some false

def impl_isVariable (a0 : ByteArray) : Option Bool :=
  Option.bind (bnd (a0.size : Int)) fun N2 =>
  thenL (ρ := Bool) (σ := Unit) (forN (fun (i2 : Nat) (s2 : Unit) =>
    bif decide ((i2 : Int) = (0 : Int)) then
      Option.bind (sidx a0 (i2 : Int)) fun v14 =>
      Option.bind (impl_isUpper v14) fun v15 =>
      bif v15 then
        bif decide ((0 : Int) < (i2 : Int)) then
          Option.bind (sidx a0 (i2 : Int)) fun v24 =>
          Option.bind (impl_isLower v24) fun v25 =>
          bif v25 then
            some (.nx ())
          else
            Option.bind (sidx a0 (i2 : Int)) fun v31 =>
            Option.bind (impl_isDigit v31) fun v32 =>
            bif v32 then
              some (.nx ())
            else
              some (.rt false)
        else
          some (.nx ())
      else
        some (.rt false)
    else
      bif decide ((0 : Int) < (i2 : Int)) then
        Option.bind (sidx a0 (i2 : Int)) fun v24 =>
        Option.bind (impl_isLower v24) fun v25 =>
        bif v25 then
          some (.nx ())
        else
          Option.bind (sidx a0 (i2 : Int)) fun v31 =>
          Option.bind (impl_isDigit v31) fun v32 =>
          bif v32 then
            some (.nx ())
          else
            some (.rt false)
      else
        some (.nx ())) N2 0 ()) fun s2 =>
  Option.bind (impl_within (a0.size : Int) (1 : Int) (4 : Int)) fun v39 =>
  some v39

def impl_IsValidLinear (a0 : Linear) : Option Bool :=
  bif decide ((8 : Int) < (a0.Vars.length : Int)) then
    some false
  else
    bif decide ((a0.Slopes.length : Int) = (a0.Vars.length : Int)) then
      Option.bind (impl_within a0.Constant (0 : Int) (100000 : Int)) fun v21 =>
      bif v21 then
        thenL (ρ := Bool) (σ := Unit) (forN (fun (i4 : Nat) (s4 : Unit) =>
          Option.bind (idx a0.Vars (i4 : Int)) fun v30 =>
          Option.bind (impl_isVariable v30) fun v33 =>
          bif v33 then
            bif decide ((0 : Int) < (i4 : Int)) then
              Option.bind (idx a0.Vars (IntKind.i64.wrap ((i4 : Int) - (1 : Int)))) fun v44 =>
              bif Op.bytesLess v30.data.toList v44.data.toList || decide (v30 = v44) then
                some (.rt false)
              else
                Option.bind (idx a0.Slopes (i4 : Int)) fun v53 =>
                Option.bind (impl_within v53 (1 : Int) (1000 : Int)) fun v55 =>
                bif v55 then
                  some (.nx ())
                else
                  some (.rt false)
            else
              Option.bind (idx a0.Slopes (i4 : Int)) fun v53 =>
              Option.bind (impl_within v53 (1 : Int) (1000 : Int)) fun v55 =>
              bif v55 then
                some (.nx ())
              else
                some (.rt false)
          else
            some (.rt false)) a0.Vars.length 0 ()) fun s4 =>
        some true
      else
        some false
    else
      some false

def sortB (a : List ByteArray) : List ByteArray := ((a.map fun x => x.data.toList).mergeSort fun x y => decide (x ≤ y)).map fun l => ⟨l.toArray⟩
def slices_SortS (a0 : List ByteArray) : Option (Unit × List ByteArray) := if a0.length < 4611686018427387904 then some ((), sortB a0) else none

def impl_linear (a0 : GMap Int) (a1 : Int) : Option (Linear × Bool) :=
  if a0.es.length ≤ 1073741824 then
    Option.bind (slices_SortS ((a0.es.filter fun e => !decide (e.2.1 = 0)).map fun e => e.1)) fun v =>
    Option.bind (impl_IsValidLinear (Linear.mk v.2 (v.2.map fun k => GMap.get a0 k 0) a1)) fun b =>
    if b then some (Linear.mk v.2 (v.2.map fun k => GMap.get a0 k 0) a1, true) else some (Linear.mk [] [] 0, false)
  else none
def impl_linearR (ord : List (ByteArray × Int × Nat)) (a0 : GMap Int) (a1 : Int) : Option (Linear × Bool) :=
  thenL (ρ := (Linear × Bool)) (σ := (List ByteArray)) (forN (ordN (fun (e3 : ByteArray × Int × Nat) (s3 : (List ByteArray)) =>
    bif decide (e3.2.1 = (0 : Int)) then
      some (.nx s3)
    else
      Option.bind (app s3 ([e3.1])) fun v26 =>
      some (.nx v26)) ord) ord.length 0 ([])) fun s3 =>
  Option.bind (slices_SortS s3) fun v30 =>
  thenL (ρ := (Linear × Bool)) (σ := (List Int)) (forN (fun (i9 : Nat) (s9 : (List Int)) =>
    Option.bind (idx v30.2 (i9 : Int)) fun v36 =>
    Option.bind (idx v30.2 (i9 : Int)) fun v37 =>
    Option.bind (app s9 ([GMap.get a0 v37 (0 : Int)])) fun v44 =>
    some (.nx v44)) v30.2.length 0 ([])) fun s9 =>
  Option.bind (impl_IsValidLinear (Linear.mk v30.2 s9 a1)) fun v48 =>
  bif v48 then
    some ((Linear.mk v30.2 s9 a1), true)
  else
    some ((Linear.mk ([]) ([]) (0 : Int)), false)

def impl_join (a0 : Linear) (a1 : Linear) : Option (Linear × Bool) :=
  thenL (ρ := (Linear × Bool)) (σ := (GMap Int)) (forN (fun (i3 : Nat) (s3 : (GMap Int)) =>
    Option.bind (idx ([a0, a1]) (i3 : Int)) fun v18 =>
    Option.bind (idx ([a0, a1]) (i3 : Int)) fun v19 =>
    thenL (ρ := (Flow (Linear × Bool) (GMap Int))) (σ := (GMap Int)) (forN (fun (i6 : Nat) (s6 : (GMap Int)) =>
      Option.bind (idx v19.Vars (i6 : Int)) fun v26 =>
      Option.bind (idx v19.Slopes (i6 : Int)) fun v36 =>
      some (.nx (GMap.put s6 v26 (max (GMap.get s6 v26 (0 : Int)) v36)))) v19.Vars.length 0 s3) fun s6 =>
    some (.nx s6)) (([a0, a1]).length) 0 (GMap.empty : GMap Int)) fun s3 =>
  Option.bind (impl_linear s3 (max a0.Constant a1.Constant)) fun v47 =>
  some (v47.1, v47.2)

def impl_JoinLinear (a0 : Linear) (a1 : Linear) : Option (Linear × Bool) :=
  Option.bind (impl_IsValidLinear a0) fun v7 =>
  bif v7 then
    Option.bind (impl_IsValidLinear a1) fun v11 =>
    bif v11 then
      Option.bind (impl_join a0 a1) fun v17 =>
      some (v17.1, v17.2)
    else
      some ((Linear.mk ([]) ([]) (0 : Int)), false)
  else
    some ((Linear.mk ([]) ([]) (0 : Int)), false)

def eqStringS (a0 : List ByteArray) (a1 : List ByteArray) : Option Bool :=
  bif decide ((a0.length : Int) = (a1.length : Int)) then
    thenL (ρ := Bool) (σ := Unit) (forN (fun (i4 : Nat) (s4 : Unit) =>
      Option.bind (idx a0 (i4 : Int)) fun v19 =>
      Option.bind (idx a1 (i4 : Int)) fun v23 =>
      bif decide (v19 = v23) then
        some (.nx ())
      else
        some (.rt false)) a0.length 0 ()) fun s4 =>
    some true
  else
    some false

def eqIntS (a0 : List Int) (a1 : List Int) : Option Bool :=
  bif decide ((a0.length : Int) = (a1.length : Int)) then
    thenL (ρ := Bool) (σ := Unit) (forN (fun (i4 : Nat) (s4 : Unit) =>
      Option.bind (idx a0 (i4 : Int)) fun v19 =>
      Option.bind (idx a1 (i4 : Int)) fun v23 =>
      bif decide (v19 = v23) then
        some (.nx ())
      else
        some (.rt false)) a0.length 0 ()) fun s4 =>
    some true
  else
    some false

def eqLinear (a0 : Linear) (a1 : Linear) : Option Bool :=
  Option.bind (eqStringS a0.Vars a1.Vars) fun v9 =>
  bif v9 then
    Option.bind (eqIntS a0.Slopes a1.Slopes) fun v15 =>
    bif v15 then
      bif decide (a0.Constant = a1.Constant) then
        some true
      else
        some false
    else
      some false
  else
    some false

def markText (a0 : Int) : Option ByteArray :=
  bif decide (a0 ≤ (0 : Int)) then
    some (⟨#[109, 48]⟩ : ByteArray)
  else
    thenL (ρ := ByteArray) (σ := Int × ByteArray) (lim fun n4 => whileN (fun (s4 : Int × ByteArray) =>
      bif decide ((0 : Int) < s4.1) then
        Option.bind (rem s4.1 (10 : Int)) fun v9 =>
        Option.bind (bstr ([IntKind.u8.wrap (IntKind.i64.wrap ((48 : Int) + v9))])) fun v13 =>
        Option.bind (sapp v13 s4.2) fun v15 =>
        Option.bind (quo s4.1 (10 : Int)) fun v17 =>
        some (.nx (v17, v15))
      else
        some (.br s4)) n4 (a0, (⟨#[]⟩ : ByteArray))) fun s4 =>
    Option.bind (sapp (⟨#[109]⟩ : ByteArray) s4.2) fun v19 =>
    some v19

def markStringS (a0 : List ByteArray) (a1 : Int) : Option (Int × (List ByteArray)) :=
  thenL (ρ := (Int × (List ByteArray))) (σ := (List ByteArray) × Int × Int) (lim fun n2 => whileN (fun (s2 : (List ByteArray) × Int × Int) =>
    bif decide (s2.2.2 < (s2.1.length : Int)) then
      Option.bind (markText s2.2.1) fun v15 =>
      Option.bind (idx s2.1 s2.2.2) fun v16 =>
      Option.bind (idx s2.1 s2.2.2) fun w2 =>
      some (.nx (s2.1.set s2.2.2.toNat v15, IntKind.i64.wrap (s2.2.1 + (1 : Int)), IntKind.i64.wrap (s2.2.2 + (1 : Int))))
    else
      some (.br s2)) n2 (a0, a1, (0 : Int))) fun s2 =>
  some (s2.2.1, s2.1)

def markIntS (a0 : List Int) (a1 : Int) : Option (Int × (List Int)) :=
  thenL (ρ := (Int × (List Int))) (σ := (List Int) × Int × Int) (lim fun n2 => whileN (fun (s2 : (List Int) × Int × Int) =>
    bif decide (s2.2.2 < (s2.1.length : Int)) then
      Option.bind (idx s2.1 s2.2.2) fun v15 =>
      Option.bind (idx s2.1 s2.2.2) fun w2 =>
      some (.nx (s2.1.set s2.2.2.toNat s2.2.1, IntKind.i64.wrap (s2.2.1 + (1 : Int)), IntKind.i64.wrap (s2.2.2 + (1 : Int))))
    else
      some (.br s2)) n2 (a0, a1, (0 : Int))) fun s2 =>
  some (s2.2.1, s2.1)

def markLinear (a0 : Linear) (a1 : Int) : Option (Int × (List ByteArray) × (List Int)) :=
  Option.bind (markStringS a0.Vars a1) fun v8 =>
  Option.bind (markIntS a0.Slopes v8.1) fun v12 =>
  some (v12.1, v8.2, v12.2)

def heldStringS (a0 : List ByteArray) (a1 : Int) : Option Int :=
  thenL (ρ := Int) (σ := Int) (forN (fun (i2 : Nat) (s2 : Int) =>
    Option.bind (idx a0 (i2 : Int)) fun v14 =>
    Option.bind (markText s2) fun v17 =>
    bif decide (v14 = v17) then
      some (.nx (IntKind.i64.wrap (s2 + (1 : Int))))
    else
      some (.rt (-1 : Int))) a0.length 0 a1) fun s2 =>
  some s2

def heldIntS (a0 : List Int) (a1 : Int) : Option Int :=
  thenL (ρ := Int) (σ := Int) (forN (fun (i2 : Nat) (s2 : Int) =>
    Option.bind (idx a0 (i2 : Int)) fun v14 =>
    bif decide (v14 = s2) then
      some (.nx (IntKind.i64.wrap (s2 + (1 : Int))))
    else
      some (.rt (-1 : Int))) a0.length 0 a1) fun s2 =>
  some s2

def heldLinear (a0 : Linear) (a1 : Int) : Option Int :=
  Option.bind (heldStringS a0.Vars a1) fun v8 =>
  bif decide (v8 < (0 : Int)) then
    some (-1 : Int)
  else
    Option.bind (heldIntS a0.Slopes v8) fun v14 =>
    bif decide (v14 < (0 : Int)) then
      some (-1 : Int)
    else
      some v14

def FnExactJoinLinear (a0 : Linear) (a1 : Linear) : Option Bool :=
  Option.bind (szLinear a0 (1048576 : Int)) fun v19 =>
  bif decide (v19 < (0 : Int)) then
    some true
  else
    Option.bind (szLinear a1 v19) fun v24 =>
    bif decide (v24 < (0 : Int)) then
      some true
    else
      Option.bind (toLinear a0) fun v29 =>
      Option.bind (toLinear a1) fun v31 =>
      Option.bind (spec_JoinLinear v29 v31) fun v32 =>
      Option.bind (toLinear a0) fun v36 =>
      Option.bind (toLinear a1) fun v38 =>
      Option.bind (impl_JoinLinear v36 v38) fun v42 =>
      Option.bind (eqLinear v42.1 v32.1) fun v47 =>
      bif v47 then
        bif v42.2 == v32.2 then
          Option.bind (toLinear a0) fun v56 =>
          Option.bind (eqLinear v36 v56) fun v57 =>
          bif v57 then
            Option.bind (toLinear a1) fun v61 =>
            Option.bind (eqLinear v38 v61) fun v62 =>
            bif v62 then
              Option.bind (markLinear v36 (1 : Int)) fun v66 =>
              Option.bind (markLinear v38 v66.1) fun v69 =>
              bif decide (v69.1 < (0 : Int)) then
                some false
              else
                Option.bind (eqLinear v42.1 v32.1) fun v75 =>
                bif v75 then
                  Option.bind (markLinear v42.1 (1 : Int)) fun v85 =>
                  Option.bind (heldLinear (Linear.mk v85.2.1 v85.2.2 v42.1.Constant) (1 : Int)) fun v88 =>
                  bif decide (v88 < (0 : Int)) then
                    some false
                  else
                    bif decide (v88 = v85.1) then
                      Option.bind (toLinear a0) fun v96 =>
                      Option.bind (toLinear a1) fun v98 =>
                      Option.bind (impl_JoinLinear v96 v98) fun v99 =>
                      Option.bind (eqLinear v99.1 v32.1) fun v104 =>
                      bif v104 then
                        bif v99.2 == v32.2 then
                          Option.bind (heldLinear (Linear.mk v85.2.1 v85.2.2 v42.1.Constant) (1 : Int)) fun v113 =>
                          bif decide (v113 < (0 : Int)) then
                            some false
                          else
                            bif decide (v113 = v85.1) then
                              some true
                            else
                              some false
                        else
                          some false
                      else
                        some false
                    else
                      some false
                else
                  some false
            else
              some false
          else
            some false
        else
          some false
      else
        some false

def spec_l25Plus (a0 : Linear) (a1 : Linear) (a2 : Int) : Option Linear :=
  Option.bind (spec_l25Names a0 a1) fun v23 =>
  thenL (ρ := Linear) (σ := (List ByteArray) × (List Int)) (forN (fun (i4 : Nat) (s4 : (List ByteArray) × (List Int)) =>
    Option.bind (idx v23 (i4 : Int)) fun v33 =>
    Option.bind (spec_l25Slope a0 v33) fun v35 =>
    Option.bind (idx v23 (i4 : Int)) fun v40 =>
    Option.bind (spec_l25Slope a1 v40) fun v42 =>
    bif decide ((0 : Int) < (IntKind.i64.wrap (v35 + (IntKind.i64.wrap (a2 * v42))))) then
      Option.bind (idx v23 (i4 : Int)) fun v51 =>
      Option.bind (app s4.1 ([v51])) fun v54 =>
      Option.bind (app s4.2 ([IntKind.i64.wrap (v35 + (IntKind.i64.wrap (a2 * v42)))])) fun v60 =>
      some (.nx (v54, v60))
    else
      some (.nx (s4.1, s4.2))) v23.length 0 ([], [])) fun s4 =>
  some (Linear.mk s4.1 s4.2 (IntKind.i64.wrap (a0.Constant + (IntKind.i64.wrap (a2 * a1.Constant)))))

def spec_SubstituteLinear (a0 : Linear) (a1 : ByteArray) (a2 : Linear) : Option (Linear × Bool) :=
  Option.bind (spec_l25Linear a0) fun v12 =>
  bif v12 then
    Option.bind (spec_l2Var a1) fun v16 =>
    bif v16 then
      Option.bind (spec_l25Linear a2) fun v21 =>
      bif v21 then
        thenL (ρ := (Linear × Bool)) (σ := (List ByteArray) × (List Int)) (forN (fun (i5 : Nat) (s5 : (List ByteArray) × (List Int)) =>
          Option.bind (idx a0.Vars (i5 : Int)) fun v38 =>
          bif decide (v38 = a1) then
            some (.nx (s5.1, s5.2))
          else
            Option.bind (idx a0.Vars (i5 : Int)) fun v47 =>
            Option.bind (app s5.1 ([v47])) fun v50 =>
            Option.bind (idx a0.Slopes (i5 : Int)) fun v57 =>
            Option.bind (app s5.2 ([v57])) fun v60 =>
            some (.nx (v50, v60))) a0.Vars.length 0 ([], [])) fun s5 =>
        Option.bind (spec_l25Slope a0 a1) fun v66 =>
        Option.bind (spec_l25Plus (Linear.mk s5.1 s5.2 a0.Constant) a2 v66) fun v67 =>
        Option.bind (spec_l25Linear v67) fun v69 =>
        bif v69 then
          some (v67, true)
        else
          some ((Linear.mk ([]) ([]) (0 : Int)), false)
      else
        some ((Linear.mk ([]) ([]) (0 : Int)), false)
    else
      some ((Linear.mk ([]) ([]) (0 : Int)), false)
  else
    some ((Linear.mk ([]) ([]) (0 : Int)), false)

def impl_Linear__add (a0 : Linear) (a1 : GMap Int) (a2 : Int) : Option (Int × (GMap Int)) :=
  thenL (ρ := (Int × (GMap Int))) (σ := (GMap Int)) (forN (fun (i2 : Nat) (s2 : (GMap Int)) =>
    Option.bind (idx a0.Vars (i2 : Int)) fun v15 =>
    Option.bind (idx a0.Slopes (i2 : Int)) fun v24 =>
    some (.nx (GMap.put s2 v15 (IntKind.i64.wrap ((GMap.get s2 v15 (0 : Int)) + (IntKind.i64.wrap (a2 * v24))))))) a0.Vars.length 0 a1) fun s2 =>
  some (IntKind.i64.wrap (a2 * a0.Constant), s2)

def cmp_isNaN_string (a0 : ByteArray) : Option Bool :=
  some (!(decide (a0 = a0)))

def cmp_Less_string (a0 : ByteArray) (a1 : ByteArray) : Option Bool :=
  Option.bind (cmp_isNaN_string a0) fun v6 =>
  bif v6 then
    Option.bind (cmp_isNaN_string a1) fun v9 =>
    bif v9 then
      some (Op.bytesLess a0.data.toList a1.data.toList)
    else
      some true
  else
    some (Op.bytesLess a0.data.toList a1.data.toList)

def slices_isNaN_string (a0 : ByteArray) : Option Bool :=
  some (!(decide (a0 = a0)))

def slices_BinarySearch_Sstring_string (a0 : List ByteArray) (a1 : ByteArray) : Option (Int × Bool) :=
  thenL (ρ := (Int × Bool)) (σ := Int × Int) (lim fun n3 => whileN (fun (s3 : Int × Int) =>
    bif decide (s3.1 < s3.2) then
      Option.bind (shr .u64 (IntKind.u64.wrap (IntKind.i64.wrap (s3.1 + s3.2))) (1 : Int)) fun v20 =>
      Option.bind (idx a0 (IntKind.i64.wrap v20)) fun v24 =>
      Option.bind (cmp_Less_string v24 a1) fun v27 =>
      bif v27 then
        some (.nx (IntKind.i64.wrap ((IntKind.i64.wrap v20) + (1 : Int)), s3.2))
      else
        some (.nx (s3.1, IntKind.i64.wrap v20))
    else
      some (.br s3)) n3 ((0 : Int), (a0.length : Int))) fun s3 =>
  bif decide (s3.1 < (a0.length : Int)) then
    Option.bind (idx a0 s3.1) fun v38 =>
    bif decide (v38 = a1) then
      some (s3.1, true)
    else
      Option.bind (idx a0 s3.1) fun v45 =>
      Option.bind (slices_isNaN_string v45) fun v47 =>
      bif v47 then
        Option.bind (slices_isNaN_string a1) fun v50 =>
        some (s3.1, v50)
      else
        some (s3.1, false)
  else
    some (s3.1, false)

def impl_Linear__slope (a0 : Linear) (a1 : ByteArray) : Option Int :=
  Option.bind (slices_BinarySearch_Sstring_string a0.Vars a1) fun v11 =>
  bif v11.2 then
    Option.bind (idx a0.Slopes v11.1) fun v19 =>
    some v19
  else
    some (0 : Int)

def impl_SubstituteLinear (a0 : Linear) (a1 : ByteArray) (a2 : Linear) : Option (Linear × Bool) :=
  Option.bind (impl_IsValidLinear a0) fun v11 =>
  bif v11 then
    Option.bind (impl_isVariable a1) fun v15 =>
    bif v15 then
      Option.bind (impl_IsValidLinear a2) fun v20 =>
      bif v20 then
        Option.bind (impl_Linear__add a0 (GMap.empty : GMap Int) (1 : Int)) fun v27 =>
        Option.bind (impl_Linear__slope a0 a1) fun v35 =>
        Option.bind (impl_Linear__add a2 (GMap.del v27.2 a1) v35) fun v36 =>
        Option.bind (impl_linear v36.2 (IntKind.i64.wrap (v27.1 + v36.1))) fun v40 =>
        some (v40.1, v40.2)
      else
        some ((Linear.mk ([]) ([]) (0 : Int)), false)
    else
      some ((Linear.mk ([]) ([]) (0 : Int)), false)
  else
    some ((Linear.mk ([]) ([]) (0 : Int)), false)

def FnExactSubstituteLinear (a0 : Linear) (a1 : ByteArray) (a2 : Linear) : Option Bool :=
  bif decide ((1048576 : Int) < (a1.size : Int)) then
    some true
  else
    Option.bind (szLinear a0 (1048576 : Int)) fun v24 =>
    bif decide (v24 < (0 : Int)) then
      some true
    else
      Option.bind (szLinear a2 v24) fun v29 =>
      bif decide (v29 < (0 : Int)) then
        some true
      else
        Option.bind (toLinear a0) fun v34 =>
        Option.bind (toLinear a2) fun v37 =>
        Option.bind (spec_SubstituteLinear v34 a1 v37) fun v38 =>
        Option.bind (toLinear a0) fun v42 =>
        Option.bind (toLinear a2) fun v44 =>
        Option.bind (impl_SubstituteLinear v42 a1 v44) fun v49 =>
        Option.bind (eqLinear v49.1 v38.1) fun v54 =>
        bif v54 then
          bif v49.2 == v38.2 then
            Option.bind (toLinear a0) fun v63 =>
            Option.bind (eqLinear v42 v63) fun v64 =>
            bif v64 then
              Option.bind (toLinear a2) fun v68 =>
              Option.bind (eqLinear v44 v68) fun v69 =>
              bif v69 then
                Option.bind (markLinear v42 (1 : Int)) fun v73 =>
                Option.bind (markLinear v44 v73.1) fun v76 =>
                bif decide (v76.1 < (0 : Int)) then
                  some false
                else
                  Option.bind (eqLinear v49.1 v38.1) fun v82 =>
                  bif v82 then
                    Option.bind (markLinear v49.1 (1 : Int)) fun v92 =>
                    Option.bind (heldLinear (Linear.mk v92.2.1 v92.2.2 v49.1.Constant) (1 : Int)) fun v95 =>
                    bif decide (v95 < (0 : Int)) then
                      some false
                    else
                      bif decide (v95 = v92.1) then
                        Option.bind (toLinear a0) fun v103 =>
                        Option.bind (toLinear a2) fun v106 =>
                        Option.bind (impl_SubstituteLinear v103 a1 v106) fun v107 =>
                        Option.bind (eqLinear v107.1 v38.1) fun v112 =>
                        bif v112 then
                          bif v107.2 == v38.2 then
                            Option.bind (heldLinear (Linear.mk v92.2.1 v92.2.2 v49.1.Constant) (1 : Int)) fun v121 =>
                            bif decide (v121 < (0 : Int)) then
                              some false
                            else
                              bif decide (v121 = v92.1) then
                                some true
                              else
                                some false
                          else
                            some false
                        else
                          some false
                      else
                        some false
                  else
                    some false
              else
                some false
            else
              some false
          else
            some false
        else
          some false

end
end Go.Proofs.Ytgbddapcjhgllaa
