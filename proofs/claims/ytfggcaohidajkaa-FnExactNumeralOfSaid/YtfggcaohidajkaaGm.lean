/- A part of the proof: lemmas only; nothing is claimed here beyond what each lemma says. -/
import Derived.Test.YtfggcaohidajkaaGty
set_option linter.unusedSimpArgs false
set_option linter.unusedVariables false
set_option linter.defProp false
set_option maxRecDepth 4000
namespace Go.Proofs.Ytfggcaohidajkaa
open Go.Av
noncomputable section
def spec_l1In (a0 : Int) (a1 : Int) (a2 : Int) : Option Bool :=
  bif decide (a1 ≤ a0) then
    some (decide (a0 ≤ a2))
  else
    some false

def spec_l23Numeral (a0 : Int) : Option Term :=
  Option.bind (bnd (a0)) fun N3 =>
  thenL (ρ := Term) (σ := ByteArray × (List Term)) (forN (fun (i3 : Nat) (s3 : ByteArray × (List Term)) =>
    some (.nx ((⟨#[115]⟩ : ByteArray), [(Term.mk s3.1 s3.2)]))) N3 0 ((⟨#[122, 101, 114, 111]⟩ : ByteArray), [])) fun s3 =>
  some (Term.mk s3.1 s3.2)

def spec_NumeralOf (a0 : Int) : Option (Term × Bool) :=
  Option.bind (spec_l1In a0 (0 : Int) (7 : Int)) fun v5 =>
  bif v5 then
    Option.bind (spec_l23Numeral a0) fun v9 =>
    some (v9, true)
  else
    some ((Term.mk (⟨#[]⟩ : ByteArray) ([])), false)

def impl_within (a0 : Int) (a1 : Int) (a2 : Int) : Option Bool :=
  bif decide (a1 ≤ a0) then
    some (decide (a0 ≤ a2))
  else
    some false

def impl_zero  : Option Term :=
  some (Term.mk (⟨#[122, 101, 114, 111]⟩ : ByteArray) ([]))

def impl_successor (a0 : Term) : Option Term :=
  some (Term.mk (⟨#[115]⟩ : ByteArray) ([a0]))

def impl_numeral (a0 : Int) : Option Term :=
  Option.bind (impl_zero ) fun v4 =>
  Option.bind (bnd (a0)) fun N3 =>
  thenL (ρ := Term) (σ := ByteArray × (List Term)) (forN (fun (i3 : Nat) (s3 : ByteArray × (List Term)) =>
    Option.bind (impl_successor (Term.mk s3.1 s3.2)) fun v9 =>
    some (.nx (v9.Name, v9.Args))) N3 0 (v4.Name, v4.Args)) fun s3 =>
  some (Term.mk s3.1 s3.2)

def impl_NumeralOf (a0 : Int) : Option (Term × Bool) :=
  Option.bind (impl_within a0 (0 : Int) (7 : Int)) fun v5 =>
  bif v5 then
    Option.bind (impl_numeral a0) fun v9 =>
    some (v9, true)
  else
    some ((Term.mk (⟨#[]⟩ : ByteArray) ([])), false)

mutual
def eqTermN : Nat → Term → Term → Option Bool
  | 0, _, _ => none
  | n + 1, a0, a1 =>
    bif decide (a0.Name = a1.Name) then
      Option.bind (eqTermSN n a0.Args a1.Args) fun v14 =>
      bif v14 then
        some true
      else
        some false
    else
      some false
def eqTermSN : Nat → (List Term) → (List Term) → Option Bool
  | 0, _, _ => none
  | n + 1, a0, a1 =>
    bif decide ((a0.length : Int) = (a1.length : Int)) then
      thenL (ρ := Bool) (σ := Unit) (forN (fun (i4 : Nat) (s4 : Unit) =>
        Option.bind (idx a0 (i4 : Int)) fun v19 =>
        Option.bind (idx a1 (i4 : Int)) fun v23 =>
        Option.bind (eqTermN n v19 v23) fun v25 =>
        bif v25 then
          some (.nx ())
        else
          some (.rt false)) a0.length 0 ()) fun s4 =>
      some true
    else
      some false
end
def eqTerm (a0 : Term) (a1 : Term) : Option Bool := lim fun n => eqTermN n a0 a1
def eqTermS (a0 : List Term) (a1 : List Term) : Option Bool := lim fun n => eqTermSN n a0 a1

def markText (a0 : Int) : Option ByteArray :=
  bif decide (a0 ≤ (0 : Int)) then
    some (⟨#[109, 48]⟩ : ByteArray)
  else
    thenL (ρ := ByteArray) (σ := Int × ByteArray) (lim fun n4 => whileN (fun (s4 : Int × ByteArray) =>
      bif decide ((0 : Int) < s4.1) then
        Option.bind (rem s4.1 (10 : Int)) fun v9 =>
        Option.bind (bstr ([IntKind.u8.wrap (IntKind.i64.wrap ((48 : Int) + v9))])) fun v13 =>
        Option.bind (sapp v13 s4.2) fun v15 =>
        Option.bind (quo s4.1 (10 : Int)) fun v17 =>
        some (.nx (v17, v15))
      else
        some (.br s4)) n4 (a0, (⟨#[]⟩ : ByteArray))) fun s4 =>
    Option.bind (sapp (⟨#[109]⟩ : ByteArray) s4.2) fun v19 =>
    some v19

def markTermSN : Nat → (List Term) → Int → Option (Int × (List Term))
  | 0, _, _ => none
  | n + 1, a0, a1 =>
    thenL (ρ := (Int × (List Term))) (σ := (List Term) × Int × Int) (lim fun n2 => whileN (fun (s2 : (List Term) × Int × Int) =>
      bif decide (s2.2.2 < (s2.1.length : Int)) then
        Option.bind (markText s2.2.1) fun v15 =>
        Option.bind (idx s2.1 s2.2.2) fun v16 =>
        Option.bind (idx s2.1 s2.2.2) fun w2 =>
        Option.bind (idx (s2.1.set s2.2.2.toNat (Term.mk v15 w2.Args)) s2.2.2) fun v22 =>
        Option.bind (idx (s2.1.set s2.2.2.toNat (Term.mk v15 w2.Args)) s2.2.2) fun w3 =>
        Option.bind (markTermSN n w3.Args (IntKind.i64.wrap (s2.2.1 + (1 : Int)))) fun v26 =>
        some (.nx ((s2.1.set s2.2.2.toNat (Term.mk v15 w2.Args)).set s2.2.2.toNat (Term.mk w3.Name v26.2), v26.1, IntKind.i64.wrap (s2.2.2 + (1 : Int))))
      else
        some (.br s2)) n2 (a0, a1, (0 : Int))) fun s2 =>
    some (s2.2.1, s2.1)
def markTermS (a0 : List Term) (a1 : Int) : Option (Int × (List Term)) := lim fun n => markTermSN n a0 a1

def markTerm (a0 : Term) (a1 : Int) : Option (Int × (List Term)) :=
  Option.bind (markTermS a0.Args a1) fun v8 =>
  some (v8.1, v8.2)

def heldTermSN : Nat → (List Term) → Int → Option Int
  | 0, _, _ => none
  | n + 1, a0, a1 =>
    thenL (ρ := Int) (σ := Int) (forN (fun (i2 : Nat) (s2 : Int) =>
      Option.bind (idx a0 (i2 : Int)) fun v14 =>
      Option.bind (markText s2) fun v18 =>
      bif decide (v14.Name = v18) then
        Option.bind (idx a0 (i2 : Int)) fun v24 =>
        Option.bind (heldTermSN n v24.Args (IntKind.i64.wrap (s2 + (1 : Int)))) fun v28 =>
        bif decide (v28 < (0 : Int)) then
          some (.rt (-1 : Int))
        else
          some (.nx v28)
      else
        some (.rt (-1 : Int))) a0.length 0 a1) fun s2 =>
    some s2
def heldTermS (a0 : List Term) (a1 : Int) : Option Int := lim fun n => heldTermSN n a0 a1

def heldTerm (a0 : Term) (a1 : Int) : Option Int :=
  Option.bind (heldTermS a0.Args a1) fun v8 =>
  bif decide (v8 < (0 : Int)) then
    some (-1 : Int)
  else
    some v8

def FnExactNumeralOf (a0 : Int) : Option Bool :=
  Option.bind (spec_NumeralOf a0) fun v13 =>
  Option.bind (impl_NumeralOf a0) fun v18 =>
  Option.bind (eqTerm v18.1 v13.1) fun v23 =>
  bif v23 then
    bif v18.2 == v13.2 then
      Option.bind (markTerm v18.1 (1 : Int)) fun v32 =>
      Option.bind (heldTerm (Term.mk v18.1.Name v32.2) (1 : Int)) fun v35 =>
      bif decide (v35 < (0 : Int)) then
        some false
      else
        bif decide (v35 = v32.1) then
          Option.bind (impl_NumeralOf a0) fun v43 =>
          Option.bind (eqTerm v43.1 v13.1) fun v48 =>
          bif v48 then
            bif v43.2 == v13.2 then
              Option.bind (heldTerm (Term.mk v18.1.Name v32.2) (1 : Int)) fun v57 =>
              bif decide (v57 < (0 : Int)) then
                some false
              else
                bif decide (v57 = v32.1) then
                  some true
                else
                  some false
            else
              some false
          else
            some false
        else
          some false
    else
      some false
  else
    some false

end
end Go.Proofs.Ytfggcaohidajkaa
