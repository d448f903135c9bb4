/- Lemmas of the proof; each says what it shows. -/
import Derived.Test.YtfchaodlnddkpaaGreatGty
set_option linter.unusedSimpArgs false
set_option linter.unusedVariables false
set_option linter.defProp false
set_option maxRecDepth 4000
namespace Go.Proofs.YtfchaodlnddkpaaGreat
open Go.Av
open Option renaming bind→aa
noncomputable section
mutual
def szTermN:Nat→Tt→Int→Option Int
 | 0,_,_=>none
 | n+1,a0,a1=>
 bif decide ((IntKind.i64.wrap (a1-(a0.Name.size:Int)))<0) then
 some (-1:Int)
 else
 aa (szTermSN n a0.Args (IntKind.i64.wrap (a1-(a0.Name.size:Int)))) fun v15=>
 bif decide (v15<0) then
 some (-1:Int)
 else
 some v15
def szTermSN:Nat→(List Tt)→Int→Option Int
 | 0,_,_=>none
 | n+1,a0,a1=>
 bif decide ((IntKind.i64.wrap (a1-(a0.length:Int)))<0) then
 some (-1:Int)
 else
 thenL (ρ:=Int) (σ:=Int) (forN (fun (i5:Nat) (s5:Int)=>
 aa (idx a0 (i5:Int)) fun v20=>
 aa (szTermN n v20 s5) fun v23=>
 bif decide (v23<0) then
 some (.rt (-1:Int))
 else
 some (.nx v23)) a0.length 0 (IntKind.i64.wrap (a1-(a0.length:Int)))) fun s5=>
 some s5
end
def szTerm(a0:Tt)(a1:Int):Option Int:=lim fun n=>szTermN n a0 a1
def szTermS(a0:List Tt)(a1:Int):Option Int:=lim fun n=>szTermSN n a0 a1

mutual
def szFormulaN:Nat→Ft→Int→Option Int
 | 0,_,_=>none
 | n+1,a0,a1=>
 aa (szTerm a0.Atom a1) fun v8=>
 bif decide (v8<0) then
 some (-1:Int)
 else
 bif decide ((IntKind.i64.wrap (v8-(a0.Var.size:Int)))<0) then
 some (-1:Int)
 else
 aa (szFormulaSN n a0.Parts (IntKind.i64.wrap (v8-(a0.Var.size:Int)))) fun v21=>
 bif decide (v21<0) then
 some (-1:Int)
 else
 some v21
def szFormulaSN:Nat→(List Ft)→Int→Option Int
 | 0,_,_=>none
 | n+1,a0,a1=>
 bif decide ((IntKind.i64.wrap (a1-(a0.length:Int)))<0) then
 some (-1:Int)
 else
 thenL (ρ:=Int) (σ:=Int) (forN (fun (i5:Nat) (s5:Int)=>
 aa (idx a0 (i5:Int)) fun v20=>
 aa (szFormulaN n v20 s5) fun v23=>
 bif decide (v23<0) then
 some (.rt (-1:Int))
 else
 some (.nx v23)) a0.length 0 (IntKind.i64.wrap (a1-(a0.length:Int)))) fun s5=>
 some s5
end
def szFormula(a0:Ft)(a1:Int):Option Int:=lim fun n=>szFormulaN n a0 a1
def szFormulaS(a0:List Ft)(a1:Int):Option Int:=lim fun n=>szFormulaSN n a0 a1

def szTermSS(a0:List (List Tt))(a1:Int):Option Int:=
 bif decide ((IntKind.i64.wrap (a1-(a0.length:Int)))<0) then
 some (-1:Int)
 else
 thenL (ρ:=Int) (σ:=Int) (forN (fun (i5:Nat) (s5:Int)=>
 aa (idx a0 (i5:Int)) fun v20=>
 aa (szTermS v20 s5) fun v23=>
 bif decide (v23<0) then
 some (.rt (-1:Int))
 else
 some (.nx v23)) a0.length 0 (IntKind.i64.wrap (a1-(a0.length:Int)))) fun s5=>
 some s5

mutual
def toTermN:Nat→Tt→Option Tt
 | 0,_=>none
 | n+1,a0=>
 aa (toTermSN n a0.Args) fun v9=>
 some (Tt.mk a0.Name v9)
def toTermSN:Nat→(List Tt)→Option (List Tt)
 | 0,_=>none
 | n+1,a0=>
 aa (mkn (a0.length:Int)) fun n7=>
 thenL (ρ:=(List Tt)) (σ:=(List Tt)) (forN (fun (i3:Nat) (s3:(List Tt))=>
 aa (idx a0 (i3:Int)) fun v18=>
 aa (toTermN n v18) fun v20=>
 aa (idx s3 (i3:Int)) fun v21=>
 aa (idx s3 (i3:Int)) fun w2=>
 some (.nx (s3.set (i3:Int).toNat v20))) a0.length 0 (List.replicate n7 (Tt.mk ⟨#[]⟩ ([])))) fun s3=>
 some s3
end
def toTerm(a0:Tt):Option Tt:=lim fun n=>toTermN n a0
def toTermS(a0:List Tt):Option (List Tt):=lim fun n=>toTermSN n a0

mutual
def toFormulaN:Nat→Ft→Option Ft
 | 0,_=>none
 | n+1,a0=>
 aa (toTerm a0.Atom) fun v9=>
 aa (toFormulaSN n a0.Parts) fun v16=>
 some (Ft.mk a0.Op v9 a0.Var v16)
def toFormulaSN:Nat→(List Ft)→Option (List Ft)
 | 0,_=>none
 | n+1,a0=>
 aa (mkn (a0.length:Int)) fun n7=>
 thenL (ρ:=(List Ft)) (σ:=(List Ft)) (forN (fun (i3:Nat) (s3:(List Ft))=>
 aa (idx a0 (i3:Int)) fun v18=>
 aa (toFormulaN n v18) fun v20=>
 aa (idx s3 (i3:Int)) fun v21=>
 aa (idx s3 (i3:Int)) fun w2=>
 some (.nx (s3.set (i3:Int).toNat v20))) a0.length 0 (List.replicate n7 (Ft.mk 0 (Tt.mk ⟨#[]⟩ ([])) (⟨#[]⟩:ByteArray) ([])))) fun s3=>
 some s3
end
def toFormula(a0:Ft):Option Ft:=lim fun n=>toFormulaN n a0
def toFormulaS(a0:List Ft):Option (List Ft):=lim fun n=>toFormulaSN n a0

def toTermSS(a0:List (List Tt)):Option (List (List Tt)):=
 aa (mkn (a0.length:Int)) fun n7=>
 thenL (ρ:=(List (List Tt))) (σ:=(List (List Tt))) (forN (fun (i3:Nat) (s3:(List (List Tt)))=>
 aa (idx a0 (i3:Int)) fun v18=>
 aa (toTermS v18) fun v20=>
 aa (idx s3 (i3:Int)) fun v21=>
 aa (idx s3 (i3:Int)) fun w2=>
 some (.nx (s3.set (i3:Int).toNat v20))) a0.length 0 (List.replicate n7 ([]))) fun s3=>
 some s3

def spec_l8ManyN:Nat→Ft→Int→Option Int
 | 0,_,_=>none
 | n+1,a0,a1=>
 thenL (ρ:=Int) (σ:=Int) (forN (fun (i3:Nat) (s3:Int)=>
 bif decide (s3≤a1) then
 aa (idx a0.Parts (i3:Int)) fun v23=>
 aa (spec_l8ManyN n v23 (IntKind.i64.wrap (a1-s3))) fun v28=>
 some (.nx (IntKind.i64.wrap (s3+v28)))
 else
 some (.rt s3)) a0.Parts.length 0 (1:Int)) fun s3=>
 some s3
def spec_l8Many(a0:Ft)(a1:Int):Option Int:=lim fun n=>spec_l8ManyN n a0 a1

def spec_l8None(a0:Tt):Option Bool:=
 bif decide (a0.Name=(⟨#[]⟩:ByteArray)) then
 some (decide ((a0.Args.length:Int)=0))
 else
 some false

def spec_l2ManyN:Nat→Tt→Int→Option Int
 | 0,_,_=>none
 | n+1,a0,a1=>
 thenL (ρ:=Int) (σ:=Int) (forN (fun (i3:Nat) (s3:Int)=>
 bif decide (s3≤a1) then
 aa (idx a0.Args (i3:Int)) fun v23=>
 aa (spec_l2ManyN n v23 (IntKind.i64.wrap (a1-s3))) fun v28=>
 some (.nx (IntKind.i64.wrap (s3+v28)))
 else
 some (.rt s3)) a0.Args.length 0 (1:Int)) fun s3=>
 some s3
def spec_l2Many(a0:Tt)(a1:Int):Option Int:=lim fun n=>spec_l2ManyN n a0 a1

def spec_l1Most(a0:Int)(a1:Int):Option Int:=
 bif decide (a1<a0) then
 some a0
 else
 some a1

def spec_l2DepthN:Nat→Tt→Option Int
 | 0,_=>none
 | n+1,a0=>
 thenL (ρ:=Int) (σ:=Int) (forN (fun (i3:Nat) (s3:Int)=>
 aa (idx a0.Args (i3:Int)) fun v16=>
 aa (spec_l2DepthN n v16) fun v18=>
 aa (spec_l1Most s3 v18) fun v19=>
 some (.nx v19)) a0.Args.length 0 (0:Int)) fun s3=>
 some (IntKind.i64.wrap (s3+1))
def spec_l2Depth(a0:Tt):Option Int:=lim fun n=>spec_l2DepthN n a0

def spec_l2Fits(a0:Tt):Option Bool:=
 aa (spec_l2Many a0 30) fun v4=>
 bif decide (v4≤30) then
 aa (spec_l2Depth a0) fun v8=>
 some (decide (v8≤8))
 else
 some false

def spec_l1In(a0:Int)(a1:Int)(a2:Int):Option Bool:=
 bif decide (a1≤a0) then
 some (decide (a0≤a2))
 else
 some false

def spec_l2Small(a0:Int):Option Bool:=
 bif decide (97≤a0) then
 bif decide (a0≤122) then
 some true
 else
 bif decide (48≤a0) then
 some (decide (a0≤57))
 else
 some false
 else
 bif decide (48≤a0) then
 some (decide (a0≤57))
 else
 some false

def spec_l2Var(a0:ByteArray):Option Bool:=
 aa (spec_l1In (a0.size:Int) 1 4) fun v6=>
 bif v6 then
 aa (sidx a0 (0:Int)) fun v10=>
 bif decide (v10<65) then
 some false
 else
 aa (sidx a0 (0:Int)) fun v15=>
 bif decide (90<v15) then
 some false
 else
 aa (bnd (a0.size:Int)) fun N4=>
 thenL (ρ:=Bool) (σ:=Unit) (forN (fun (i4:Nat) (s4:Unit)=>
 aa (sidx a0 (i4:Int)) fun v26=>
 aa (spec_l2Small v26) fun v27=>
 bif v27 then
 some (.nx ())
 else
 some (.rt false)) (N4-1) 1 ()) fun s4=>
 some true
 else
 some false

def spec_l2Symbol(a0:ByteArray):Option Bool:=
 aa (spec_l1In (a0.size:Int) 1 6) fun v6=>
 bif v6 then
 aa (sidx a0 (0:Int)) fun v10=>
 bif decide (v10<97) then
 some false
 else
 aa (sidx a0 (0:Int)) fun v15=>
 bif decide (122<v15) then
 some false
 else
 bif decide (a0=(⟨#[116,114,117,101]⟩:ByteArray)) then
 some false
 else
 bif decide (a0=(⟨#[102,97,108,115,101]⟩:ByteArray)) then
 some false
 else
 bif decide (a0=(⟨#[116,114,117,116,104]⟩:ByteArray)) then
 some false
 else
 bif decide (a0=(⟨#[98,111,116,104]⟩:ByteArray)) then
 some false
 else
 bif decide (a0=(⟨#[101,105,116,104,101,114]⟩:ByteArray)) then
 some false
 else
 bif decide (a0=(⟨#[105,102]⟩:ByteArray)) then
 some false
 else
 bif decide (a0=(⟨#[97,108,108]⟩:ByteArray)) then
 some false
 else
 bif decide (a0=(⟨#[115,111,109,101]⟩:ByteArray)) then
 some false
 else
 aa (bnd (a0.size:Int)) fun N14=>
 thenL (ρ:=Bool) (σ:=Unit) (forN (fun (i14:Nat) (s14:Unit)=>
 aa (sidx a0 (i14:Int)) fun v36=>
 aa (spec_l2Small v36) fun v37=>
 bif v37 then
 some (.nx ())
 else
 aa (sidx a0 (i14:Int)) fun v42=>
 bif decide (v42=95) then
 some (.nx ())
 else
 some (.rt false)) (N14-1) 1 ()) fun s14=>
 some true
 else
 some false

def spec_l2NodesN:Nat→Tt→Option Bool
 | 0,_=>none
 | n+1,a0=>
 aa (spec_l2Var a0.Name) fun v6=>
 bif v6 then
 some (decide ((a0.Args.length:Int)=0))
 else
 aa (spec_l2Symbol a0.Name) fun v13=>
 bif v13 then
 bif decide (4<(a0.Args.length:Int)) then
 some false
 else
 thenL (ρ:=Bool) (σ:=Unit) (forN (fun (i6:Nat) (s6:Unit)=>
 aa (idx a0.Args (i6:Int)) fun v31=>
 aa (spec_l2NodesN n v31) fun v33=>
 bif v33 then
 some (.nx ())
 else
 some (.rt false)) a0.Args.length 0 ()) fun s6=>
 some true
 else
 some false
def spec_l2Nodes(a0:Tt):Option Bool:=lim fun n=>spec_l2NodesN n a0

def spec_l2Good(a0:Tt):Option Bool:=
 aa (spec_l2Fits a0) fun v4=>
 bif v4 then
 aa (spec_l2Nodes a0) fun v7=>
 some v7
 else
 some false

def spec_l2Atom(a0:Tt):Option Bool:=
 bif decide (a0.Name=(⟨#[61]⟩:ByteArray)) then
 bif decide ((a0.Args.length:Int)=2) then
 aa (spec_l2Fits a0) fun v12=>
 bif v12 then
 aa (idx a0.Args 0) fun v17=>
 aa (spec_l2Nodes v17) fun v19=>
 bif v19 then
 aa (idx a0.Args 1) fun v24=>
 aa (spec_l2Nodes v24) fun v26=>
 some v26
 else
 some false
 else
 some false
 else
 some false
 else
 aa (spec_l2Symbol a0.Name) fun v30=>
 bif v30 then
 aa (spec_l2Good a0) fun v33=>
 some v33
 else
 some false

def spec_l8Form(a0:Ft):Option Bool:=
 bif decide (a0.Op=1) then
 bif decide ((a0.Parts.length:Int)=0) then
 aa (spec_l8None a0.Atom) fun v17=>
 bif v17 then
 some (decide (a0.Var=(⟨#[]⟩:ByteArray)))
 else
 some false
 else
 some false
 else
 bif decide (a0.Op=2) then
 bif decide ((a0.Parts.length:Int)=0) then
 aa (spec_l8None a0.Atom) fun v17=>
 bif v17 then
 some (decide (a0.Var=(⟨#[]⟩:ByteArray)))
 else
 some false
 else
 some false
 else
 bif decide (a0.Op=3) then
 bif decide ((a0.Parts.length:Int)=0) then
 aa (spec_l2Atom a0.Atom) fun v31=>
 bif v31 then
 some (decide (a0.Var=(⟨#[]⟩:ByteArray)))
 else
 some false
 else
 some false
 else
 bif decide (a0.Op=4) then
 bif decide ((a0.Parts.length:Int)=1) then
 aa (spec_l8None a0.Atom) fun v45=>
 bif v45 then
 some (decide (a0.Var=(⟨#[]⟩:ByteArray)))
 else
 some false
 else
 some false
 else
 bif decide (a0.Op=5) then
 bif decide ((a0.Parts.length:Int)=2) then
 aa (spec_l8None a0.Atom) fun v61=>
 bif v61 then
 some (decide (a0.Var=(⟨#[]⟩:ByteArray)))
 else
 some false
 else
 some false
 else
 bif decide (a0.Op=6) then
 bif decide ((a0.Parts.length:Int)=2) then
 aa (spec_l8None a0.Atom) fun v61=>
 bif v61 then
 some (decide (a0.Var=(⟨#[]⟩:ByteArray)))
 else
 some false
 else
 some false
 else
 bif decide (a0.Op=7) then
 bif decide ((a0.Parts.length:Int)=2) then
 aa (spec_l8None a0.Atom) fun v61=>
 bif v61 then
 some (decide (a0.Var=(⟨#[]⟩:ByteArray)))
 else
 some false
 else
 some false
 else
 bif decide (a0.Op=8) then
 bif decide ((a0.Parts.length:Int)=1) then
 aa (spec_l8None a0.Atom) fun v76=>
 bif v76 then
 aa (spec_l2Var a0.Var) fun v81=>
 some v81
 else
 some false
 else
 some false
 else
 bif decide (a0.Op=9) then
 bif decide ((a0.Parts.length:Int)=1) then
 aa (spec_l8None a0.Atom) fun v76=>
 bif v76 then
 aa (spec_l2Var a0.Var) fun v81=>
 some v81
 else
 some false
 else
 some false
 else
 some false

def spec_l8FormsN:Nat→Ft→Option Bool
 | 0,_=>none
 | n+1,a0=>
 aa (spec_l8Form a0) fun v5=>
 bif v5 then
 thenL (ρ:=Bool) (σ:=Unit) (forN (fun (i4:Nat) (s4:Unit)=>
 aa (idx a0.Parts (i4:Int)) fun v17=>
 aa (spec_l8FormsN n v17) fun v19=>
 bif v19 then
 some (.nx ())
 else
 some (.rt false)) a0.Parts.length 0 ()) fun s4=>
 some true
 else
 some false
def spec_l8Forms(a0:Ft):Option Bool:=lim fun n=>spec_l8FormsN n a0

def spec_l8Good(a0:Ft):Option Bool:=
 aa (spec_l8Many a0 40) fun v4=>
 bif decide (v4≤40) then
 aa (spec_l8Forms a0) fun v8=>
 some v8
 else
 some false

def spec_l2Put(a0:List ByteArray)(a1:ByteArray):Option (List ByteArray):=
 thenL (ρ:=(List ByteArray)) (σ:=Unit) (forN (fun (i2:Nat) (s2:Unit)=>
 aa (idx a0 (i2:Int)) fun v13=>
 bif Op.bytesLess v13.data.toList a1.data.toList then
 some (.nx ())
 else
 aa (idx a0 (i2:Int)) fun v27=>
 bif decide (v27=a1) then
 some (.rt a0)
 else
 aa (slc a0 (0:Int) (i2:Int)) fun v36=>
 aa (app ([]) v36) fun v37=>
 aa (app v37 ([a1])) fun v40=>
 aa (slc a0 (i2:Int) (a0.length:Int)) fun v43=>
 aa (app v40 v43) fun v44=>
 some (.rt v44)) a0.length 0 ()) fun s2=>
 aa (slc a0 (0:Int) ((a0.length:Nat):Int)) fun v36=>
 aa (app ([]) v36) fun v37=>
 aa (app v37 ([a1])) fun v40=>
 aa (slc a0 ((a0.length:Nat):Int) (a0.length:Int)) fun v43=>
 aa (app v40 v43) fun v44=>
 some v44

def spec_l2IntoN:Nat→(List ByteArray)→Tt→Option (List ByteArray)
 | 0,_,_=>none
 | n+1,a0,a1=>
 aa (spec_l2Var a1.Name) fun v8=>
 bif v8 then
 aa (spec_l2Put a0 a1.Name) fun v12=>
 some v12
 else
 thenL (ρ:=(List ByteArray)) (σ:=(List ByteArray)) (forN (fun (i4:Nat) (s4:(List ByteArray))=>
 aa (idx a1.Args (i4:Int)) fun v24=>
 aa (spec_l2IntoN n s4 v24) fun v26=>
 some (.nx v26)) a1.Args.length 0 a0) fun s4=>
 some s4
def spec_l2Into(a0:List ByteArray)(a1:Tt):Option (List ByteArray):=lim fun n=>spec_l2IntoN n a0 a1

def spec_l2Vars(a0:Tt):Option (List ByteArray):=
 aa (spec_l2Into ([]) a0) fun v5=>
 some v5

def spec_l2In(a0:List ByteArray)(a1:ByteArray):Option Bool:=
 thenL (ρ:=Bool) (σ:=Unit) (forN (fun (i2:Nat) (s2:Unit)=>
 aa (idx a0 (i2:Int)) fun v14=>
 bif decide (v14=a1) then
 some (.rt true)
 else
 some (.nx ())) a0.length 0 ()) fun s2=>
 some false

def spec_l8IntoN:Nat→(List ByteArray)→Ft→(List ByteArray)→Option (List ByteArray)
 | 0,_,_,_=>none
 | n+1,a0,a1,a2=>
 bif decide (a1.Op=3) then
 aa (spec_l2Vars a1.Atom) fun v15=>
 thenL (ρ:=(List ByteArray)) (σ:=(List ByteArray)) (forN (fun (i4:Nat) (s4:(List ByteArray))=>
 aa (idx v15 (i4:Int)) fun v25=>
 aa (spec_l2In a2 v25) fun v27=>
 bif v27 then
 some (.nx s4)
 else
 aa (idx v15 (i4:Int)) fun v32=>
 aa (spec_l2Put s4 v32) fun v34=>
 some (.nx v34)) v15.length 0 a0) fun s4=>
 bif decide (a1.Op=8) then
 aa (app ([]) a2) fun v45=>
 aa (app v45 ([a1.Var])) fun v49=>
 thenL (ρ:=(List ByteArray)) (σ:=(List ByteArray)) (forN (fun (i11:Nat) (s11:(List ByteArray))=>
 aa (idx a1.Parts (i11:Int)) fun v61=>
 aa (spec_l8IntoN n s11 v61 v49) fun v64=>
 some (.nx v64)) a1.Parts.length 0 s4) fun s11=>
 some s11
 else
 bif decide (a1.Op=9) then
 aa (app ([]) a2) fun v45=>
 aa (app v45 ([a1.Var])) fun v49=>
 thenL (ρ:=(List ByteArray)) (σ:=(List ByteArray)) (forN (fun (i11:Nat) (s11:(List ByteArray))=>
 aa (idx a1.Parts (i11:Int)) fun v61=>
 aa (spec_l8IntoN n s11 v61 v49) fun v64=>
 some (.nx v64)) a1.Parts.length 0 s4) fun s11=>
 some s11
 else
 thenL (ρ:=(List ByteArray)) (σ:=(List ByteArray)) (forN (fun (i11:Nat) (s11:(List ByteArray))=>
 aa (idx a1.Parts (i11:Int)) fun v61=>
 aa (spec_l8IntoN n s11 v61 a2) fun v64=>
 some (.nx v64)) a1.Parts.length 0 s4) fun s11=>
 some s11
 else
 bif decide (a1.Op=8) then
 aa (app ([]) a2) fun v45=>
 aa (app v45 ([a1.Var])) fun v49=>
 thenL (ρ:=(List ByteArray)) (σ:=(List ByteArray)) (forN (fun (i11:Nat) (s11:(List ByteArray))=>
 aa (idx a1.Parts (i11:Int)) fun v61=>
 aa (spec_l8IntoN n s11 v61 v49) fun v64=>
 some (.nx v64)) a1.Parts.length 0 a0) fun s11=>
 some s11
 else
 bif decide (a1.Op=9) then
 aa (app ([]) a2) fun v45=>
 aa (app v45 ([a1.Var])) fun v49=>
 thenL (ρ:=(List ByteArray)) (σ:=(List ByteArray)) (forN (fun (i11:Nat) (s11:(List ByteArray))=>
 aa (idx a1.Parts (i11:Int)) fun v61=>
 aa (spec_l8IntoN n s11 v61 v49) fun v64=>
 some (.nx v64)) a1.Parts.length 0 a0) fun s11=>
 some s11
 else
 thenL (ρ:=(List ByteArray)) (σ:=(List ByteArray)) (forN (fun (i11:Nat) (s11:(List ByteArray))=>
 aa (idx a1.Parts (i11:Int)) fun v61=>
 aa (spec_l8IntoN n s11 v61 a2) fun v64=>
 some (.nx v64)) a1.Parts.length 0 a0) fun s11=>
 some s11
def spec_l8Into(a0:List ByteArray)(a1:Ft)(a2:List ByteArray):Option (List ByteArray):=lim fun n=>spec_l8IntoN n a0 a1 a2

def spec_l8Free(a0:Ft):Option (List ByteArray):=
 aa (spec_l8Into ([]) a0 ([])) fun v6=>
 some v6

def spec_l16Open(a0:Ft):Option ((List ByteArray)×Ft):=
 thenL (ρ:=((List ByteArray)×Ft)) (σ:=Ft×(List ByteArray)) (lim fun n2=>whileN (fun (s2:Ft×(List ByteArray))=>
 bif decide (s2.1.Op=9) then
 aa (app s2.2 ([s2.1.Var])) fun v13=>
 aa (idx s2.1.Parts 0) fun v16=>
 some (.nx (v16,v13))
 else
 some (.br s2)) n2 (a0,[])) fun s2=>
 some (s2.2,s2.1)

def spec_l16PlainN:Nat→Ft→Option Bool
 | 0,_=>none
 | n+1,a0=>
 bif decide (a0.Op=8) then
 some false
 else
 bif decide (a0.Op=9) then
 some false
 else
 thenL (ρ:=Bool) (σ:=Unit) (forN (fun (i4:Nat) (s4:Unit)=>
 aa (idx a0.Parts (i4:Int)) fun v22=>
 aa (spec_l16PlainN n v22) fun v24=>
 bif v24 then
 some (.nx ())
 else
 some (.rt false)) a0.Parts.length 0 ()) fun s4=>
 some true
def spec_l16Plain(a0:Ft):Option Bool:=lim fun n=>spec_l16PlainN n a0

def spec_l16Formula(a0:Ft):Option Bool:=
 aa (spec_l8Good a0) fun v7=>
 bif v7 then
 aa (spec_l8Free a0) fun v11=>
 bif decide (0<(v11.length:Int)) then
 some false
 else
 aa (spec_l16Open a0) fun v17=>
 thenL (ρ:=Bool) (σ:=Unit) (forN (fun (i5:Nat) (s5:Unit)=>
 aa (slc v17.1 (0:Int) (i5:Int)) fun v28=>
 aa (idx v17.1 (i5:Int)) fun v31=>
 aa (spec_l2In v28 v31) fun v33=>
 bif v33 then
 some (.rt false)
 else
 some (.nx ())) v17.1.length 0 ()) fun s5=>
 aa (spec_l16Plain v17.2) fun v35=>
 some v35
 else
 some false

def spec_l16Ground(a0:Tt):Option Bool:=
 aa (spec_l2Vars a0) fun v4=>
 some (decide ((v4.length:Int)=0))

def spec_l16Terms(a0:List Tt):Option Bool:=
 thenL (ρ:=Bool) (σ:=Unit) (forN (fun (i2:Nat) (s2:Unit)=>
 bif decide ((i2:Int)≤60) then
 aa (idx a0 (i2:Int)) fun v16=>
 aa (spec_l2Good v16) fun v18=>
 bif v18 then
 aa (idx a0 (i2:Int)) fun v23=>
 aa (spec_l16Ground v23) fun v25=>
 bif v25 then
 some (.nx ())
 else
 some (.rt false)
 else
 some (.rt false)
 else
 some (.rt (decide ((a0.length:Int)≤60)))) a0.length 0 ()) fun s2=>
 some (decide ((a0.length:Int)≤60))

def spec_l2OwnN:Nat→Tt→Option Tt
 | 0,_=>none
 | n+1,a0=>
 thenL (ρ:=Tt) (σ:=(List Tt)) (forN (fun (i3:Nat) (s3:(List Tt))=>
 aa (idx a0.Args (i3:Int)) fun v20=>
 aa (spec_l2OwnN n v20) fun v22=>
 aa (app s3 ([v22])) fun v24=>
 some (.nx v24)) a0.Args.length 0 ([])) fun s3=>
 some (Tt.mk a0.Name s3)
def spec_l2Own(a0:Tt):Option Tt:=lim fun n=>spec_l2OwnN n a0

def spec_l4Put(a0:Sa)(a1:ByteArray)(a2:Tt):Option Sa:=
 bif decide (a2.Name=a1) then
 some a0
 else
 thenL (ρ:=Sa) (σ:=Unit) (forN (fun (i4:Nat) (s4:Unit)=>
 aa (idx a0.Bindings (i4:Int)) fun v23=>
 bif Op.bytesLess v23.Var.data.toList a1.data.toList then
 some (.nx ())
 else
 aa (slc a0.Bindings (0:Int) (i4:Int)) fun v35=>
 aa (app ([]) v35) fun v36=>
 aa (spec_l2Own a2) fun v40=>
 aa (app v36 ([(Bt.mk a1 v40)])) fun v43=>
 aa (slc a0.Bindings (i4:Int) (a0.Bindings.length:Int)) fun v48=>
 aa (app v43 v48) fun v49=>
 some (.rt (Sa.mk v49))) a0.Bindings.length 0 ()) fun s4=>
 aa (slc a0.Bindings (0:Int) ((a0.Bindings.length:Nat):Int)) fun v35=>
 aa (app ([]) v35) fun v36=>
 aa (spec_l2Own a2) fun v40=>
 aa (app v36 ([(Bt.mk a1 v40)])) fun v43=>
 aa (slc a0.Bindings ((a0.Bindings.length:Nat):Int) (a0.Bindings.length:Int)) fun v48=>
 aa (app v43 v48) fun v49=>
 some (Sa.mk v49)

def spec_l4Find(a0:Sa)(a1:ByteArray):Option Int:=
 thenL (ρ:=Int) (σ:=Unit) (forN (fun (i2:Nat) (s2:Unit)=>
 aa (idx a0.Bindings (i2:Int)) fun v16=>
 bif decide (v16.Var=a1) then
 some (.rt (i2:Int))
 else
 some (.nx ())) a0.Bindings.length 0 ()) fun s2=>
 some (-1:Int)

def spec_l4ApplyN:Nat→Sa→Tt→Option Tt
 | 0,_,_=>none
 | n+1,a0,a1=>
 aa (spec_l2Var a1.Name) fun v10=>
 bif v10 then
 aa (spec_l4Find a0 a1.Name) fun v14=>
 bif decide (0≤v14) then
 aa (idx a0.Bindings v14) fun v20=>
 aa (spec_l2Own v20.Term) fun v23=>
 some v23
 else
 some (Tt.mk a1.Name ([]))
 else
 thenL (ρ:=Tt) (σ:=(List Tt)) (forN (fun (i8:Nat) (s8:(List Tt))=>
 aa (idx a1.Args (i8:Int)) fun v43=>
 aa (spec_l4ApplyN n a0 v43) fun v45=>
 aa (app s8 ([v45])) fun v47=>
 some (.nx v47)) a1.Args.length 0 ([])) fun s8=>
 some (Tt.mk a1.Name s8)
def spec_l4Apply(a0:Sa)(a1:Tt):Option Tt:=lim fun n=>spec_l4ApplyN n a0 a1

def spec_l8OwnN:Nat→Ft→Option Ft
 | 0,_=>none
 | n+1,a0=>
 aa (spec_l2Own a0.Atom) fun v9=>
 thenL (ρ:=Ft) (σ:=(List Ft)) (forN (fun (i3:Nat) (s3:(List Ft))=>
 aa (idx a0.Parts (i3:Int)) fun v25=>
 aa (spec_l8OwnN n v25) fun v27=>
 aa (app s3 ([v27])) fun v29=>
 some (.nx v29)) a0.Parts.length 0 ([])) fun s3=>
 some (Ft.mk a0.Op v9 a0.Var s3)
def spec_l8Own(a0:Ft):Option Ft:=lim fun n=>spec_l8OwnN n a0

def spec_l8PutN:Nat→Ft→ByteArray→Tt→Option (Ft×Bool)
 | 0,_,_,_=>none
 | n+1,a0,a1,a2=>
 bif decide (a0.Op=3) then
 aa (spec_l4Put (Sa.mk ([])) a1 a2) fun v23=>
 aa (spec_l4Apply v23 a0.Atom) fun v26=>
 aa (spec_l2Atom v26) fun v31=>
 some ((Ft.mk a0.Op v26 a0.Var ([])),v31)
 else
 bif decide (a0.Op=8) then
 bif decide (a0.Var=a1) then
 aa (spec_l8Own a0) fun v55=>
 some (v55,true)
 else
 aa (idx a0.Parts 0) fun v47=>
 aa (spec_l8Free v47) fun v49=>
 aa (spec_l2In v49 a1) fun v51=>
 bif v51 then
 aa (spec_l2Vars a2) fun v57=>
 aa (spec_l2In v57 a0.Var) fun v60=>
 bif v60 then
 some ((Ft.mk a0.Op (Tt.mk ⟨#[]⟩ ([])) a0.Var ([])),false)
 else
 thenL (ρ:=(Ft×Bool)) (σ:=(List Ft)) (forN (fun (i11:Nat) (s11:(List Ft))=>
 aa (idx a0.Parts (i11:Int)) fun v73=>
 aa (spec_l8PutN n v73 a1 a2) fun v77=>
 bif v77.2 then
 aa (app s11 ([v77.1])) fun v87=>
 some (.nx v87)
 else
 some (.rt ((Ft.mk a0.Op (Tt.mk ⟨#[]⟩ ([])) a0.Var s11),false))) a0.Parts.length 0 ([])) fun s11=>
 some ((Ft.mk a0.Op (Tt.mk ⟨#[]⟩ ([])) a0.Var s11),true)
 else
 aa (spec_l8Own a0) fun v55=>
 some (v55,true)
 else
 bif decide (a0.Op=9) then
 bif decide (a0.Var=a1) then
 aa (spec_l8Own a0) fun v55=>
 some (v55,true)
 else
 aa (idx a0.Parts 0) fun v47=>
 aa (spec_l8Free v47) fun v49=>
 aa (spec_l2In v49 a1) fun v51=>
 bif v51 then
 aa (spec_l2Vars a2) fun v57=>
 aa (spec_l2In v57 a0.Var) fun v60=>
 bif v60 then
 some ((Ft.mk a0.Op (Tt.mk ⟨#[]⟩ ([])) a0.Var ([])),false)
 else
 thenL (ρ:=(Ft×Bool)) (σ:=(List Ft)) (forN (fun (i11:Nat) (s11:(List Ft))=>
 aa (idx a0.Parts (i11:Int)) fun v73=>
 aa (spec_l8PutN n v73 a1 a2) fun v77=>
 bif v77.2 then
 aa (app s11 ([v77.1])) fun v87=>
 some (.nx v87)
 else
 some (.rt ((Ft.mk a0.Op (Tt.mk ⟨#[]⟩ ([])) a0.Var s11),false))) a0.Parts.length 0 ([])) fun s11=>
 some ((Ft.mk a0.Op (Tt.mk ⟨#[]⟩ ([])) a0.Var s11),true)
 else
 aa (spec_l8Own a0) fun v55=>
 some (v55,true)
 else
 thenL (ρ:=(Ft×Bool)) (σ:=(List Ft)) (forN (fun (i11:Nat) (s11:(List Ft))=>
 aa (idx a0.Parts (i11:Int)) fun v73=>
 aa (spec_l8PutN n v73 a1 a2) fun v77=>
 bif v77.2 then
 aa (app s11 ([v77.1])) fun v87=>
 some (.nx v87)
 else
 some (.rt ((Ft.mk a0.Op (Tt.mk ⟨#[]⟩ ([])) a0.Var s11),false))) a0.Parts.length 0 ([])) fun s11=>
 some ((Ft.mk a0.Op (Tt.mk ⟨#[]⟩ ([])) a0.Var s11),true)
def spec_l8Put(a0:Ft)(a1:ByteArray)(a2:Tt):Option (Ft×Bool):=lim fun n=>spec_l8PutN n a0 a1 a2

def spec_l18Joined(a0:List Ft)(a1:Int)(a2:Int):Option Ft:=
 bif decide ((a0.length:Int)=0) then
 some (Ft.mk a2 (Tt.mk ⟨#[]⟩ ([])) (⟨#[]⟩:ByteArray) ([]))
 else
 aa (idx a0 (IntKind.i64.wrap ((a0.length:Int)-1))) fun v18=>
 aa (spec_l8Own v18) fun v20=>
 thenL (ρ:=Ft) (σ:=Int×ByteArray×(List Tt)×ByteArray×(List Ft)×Int) (lim fun n5=>whileN (fun (s5:Int×ByteArray×(List Tt)×ByteArray×(List Ft)×Int)=>
 bif decide (0≤s5.2.2.2.2.2) then
 aa (idx a0 s5.2.2.2.2.2) fun v31=>
 aa (spec_l8Own v31) fun v33=>
 some (.nx (a1,(⟨#[]⟩:ByteArray),[],(⟨#[]⟩:ByteArray),[v33,(Ft.mk s5.1 (Tt.mk s5.2.1 s5.2.2.1) s5.2.2.2.1 s5.2.2.2.2.1)],IntKind.i64.wrap (s5.2.2.2.2.2-1)))
 else
 some (.br s5)) n5 (v20.Op,v20.Atom.Name,v20.Atom.Args,v20.Var,v20.Parts,IntKind.i64.wrap ((a0.length:Int)-2))) fun s5=>
 some (Ft.mk s5.1 (Tt.mk s5.2.1 s5.2.2.1) s5.2.2.2.1 s5.2.2.2.2.1)

def spec_l16Disjunction(a0:Ft)(a1:List (List Tt)):Option (Ft×Bool):=
 aa (spec_l16Formula a0) fun v15=>
 bif v15 then
 aa (spec_l16Open a0) fun v20=>
 thenL (ρ:=(Ft×Bool)) (σ:=(List Ft)) (forN (fun (i6:Nat) (s6:(List Ft))=>
 aa (idx a1 (i6:Int)) fun v32=>
 bif decide ((v32.length:Int)=(v20.1.length:Int)) then
 aa (idx a1 (i6:Int)) fun v41=>
 aa (spec_l16Terms v41) fun v43=>
 bif v43 then
 thenL (ρ:=(Flow (Ft×Bool) (List Ft))) (σ:=Ft×Bool) (forN (fun (i13:Nat) (s13:Ft×Bool)=>
 bif s13.2 then
 aa (idx v20.1 (i13:Int)) fun v61=>
 aa (idx a1 (i6:Int)) fun v65=>
 aa (idx v65 (i13:Int)) fun v68=>
 aa (spec_l8Put s13.1 v61 v68) fun v70=>
 some (.nx (v70.1,v70.2))
 else
 some (.rt (.rt ((Ft.mk 0 (Tt.mk ⟨#[]⟩ ([])) (⟨#[]⟩:ByteArray) ([])),false)))) v20.1.length 0 (v20.2,true)) fun s13=>
 bif s13.2 then
 aa (spec_l8Good s13.1) fun v77=>
 bif v77 then
 aa (app s6 ([s13.1])) fun v84=>
 some (.nx v84)
 else
 some (.rt ((Ft.mk 0 (Tt.mk ⟨#[]⟩ ([])) (⟨#[]⟩:ByteArray) ([])),false))
 else
 some (.rt ((Ft.mk 0 (Tt.mk ⟨#[]⟩ ([])) (⟨#[]⟩:ByteArray) ([])),false))
 else
 some (.rt ((Ft.mk 0 (Tt.mk ⟨#[]⟩ ([])) (⟨#[]⟩:ByteArray) ([])),false))
 else
 some (.rt ((Ft.mk 0 (Tt.mk ⟨#[]⟩ ([])) (⟨#[]⟩:ByteArray) ([])),false))) a1.length 0 ([])) fun s6=>
 aa (spec_l18Joined s6 6 2) fun v86=>
 aa (spec_l8Good v86) fun v88=>
 bif v88 then
 some (v86,true)
 else
 some ((Ft.mk 0 (Tt.mk ⟨#[]⟩ ([])) (⟨#[]⟩:ByteArray) ([])),false)
 else
 some ((Ft.mk 0 (Tt.mk ⟨#[]⟩ ([])) (⟨#[]⟩:ByteArray) ([])),false)

def spec_l2Text(a0:ByteArray)(a1:ByteArray):Option Int:=
 bif Op.bytesLess a0.data.toList a1.data.toList then
 some (-1:Int)
 else
 bif decide (a0=a1) then
 some (0:Int)
 else
 some (1:Int)

def spec_l2CompareN:Nat→Tt→Tt→Option Int
 | 0,_,_=>none
 | n+1,a0,a1=>
 aa (spec_l2Var a0.Name) fun v11=>
 aa (spec_l2Var a1.Name) fun v14=>
 bif v11 then
 bif v14 then
 bif decide (a0.Name=a1.Name) then
 bif decide ((a0.Args.length:Int)<(a1.Args.length:Int)) then
 some (-1:Int)
 else
 bif decide ((a1.Args.length:Int)<(a0.Args.length:Int)) then
 some (1:Int)
 else
 thenL (ρ:=Int) (σ:=Unit) (forN (fun (i13:Nat) (s13:Unit)=>
 aa (idx a0.Args (i13:Int)) fun v64=>
 aa (idx a1.Args (i13:Int)) fun v69=>
 aa (spec_l2CompareN n v64 v69) fun v71=>
 bif decide (v71=0) then
 some (.nx ())
 else
 some (.rt v71)) a0.Args.length 0 ()) fun s13=>
 some (0:Int)
 else
 aa (spec_l2Text a0.Name a1.Name) fun v37=>
 some v37
 else
 some (-1:Int)
 else
 bif v14 then
 some (1:Int)
 else
 bif decide (a0.Name=a1.Name) then
 bif decide ((a0.Args.length:Int)<(a1.Args.length:Int)) then
 some (-1:Int)
 else
 bif decide ((a1.Args.length:Int)<(a0.Args.length:Int)) then
 some (1:Int)
 else
 thenL (ρ:=Int) (σ:=Unit) (forN (fun (i13:Nat) (s13:Unit)=>
 aa (idx a0.Args (i13:Int)) fun v64=>
 aa (idx a1.Args (i13:Int)) fun v69=>
 aa (spec_l2CompareN n v64 v69) fun v71=>
 bif decide (v71=0) then
 some (.nx ())
 else
 some (.rt v71)) a0.Args.length 0 ()) fun s13=>
 some (0:Int)
 else
 aa (spec_l2Text a0.Name a1.Name) fun v37=>
 some v37
def spec_l2Compare(a0:Tt)(a1:Tt):Option Int:=lim fun n=>spec_l2CompareN n a0 a1

def spec_l2SameN:Nat→Tt→Tt→Option Bool
 | 0,_,_=>none
 | n+1,a0,a1=>
 bif decide (a0.Name=a1.Name) then
 bif decide ((a0.Args.length:Int)=(a1.Args.length:Int)) then
 thenL (ρ:=Bool) (σ:=Unit) (forN (fun (i4:Nat) (s4:Unit)=>
 aa (idx a0.Args (i4:Int)) fun v30=>
 aa (idx a1.Args (i4:Int)) fun v35=>
 aa (spec_l2SameN n v30 v35) fun v37=>
 bif v37 then
 some (.nx ())
 else
 some (.rt false)) a0.Args.length 0 ()) fun s4=>
 some true
 else
 some false
 else
 some false
def spec_l2Same(a0:Tt)(a1:Tt):Option Bool:=lim fun n=>spec_l2SameN n a0 a1

def spec_l16Put(a0:List Tt)(a1:Tt):Option (List Tt):=
 thenL (ρ:=(List Tt)) (σ:=Unit) (forN (fun (i2:Nat) (s2:Unit)=>
 aa (idx a0 (i2:Int)) fun v13=>
 aa (spec_l2Compare v13 a1) fun v16=>
 bif decide (v16<0) then
 some (.nx ())
 else
 aa (idx a0 (i2:Int)) fun v28=>
 aa (spec_l2Same v28 a1) fun v31=>
 bif v31 then
 some (.rt a0)
 else
 aa (slc a0 (0:Int) (i2:Int)) fun v37=>
 aa (app ([]) v37) fun v38=>
 aa (app v38 ([a1])) fun v41=>
 aa (slc a0 (i2:Int) (a0.length:Int)) fun v44=>
 aa (app v41 v44) fun v45=>
 some (.rt v45)) a0.length 0 ()) fun s2=>
 aa (slc a0 (0:Int) ((a0.length:Nat):Int)) fun v37=>
 aa (app ([]) v37) fun v38=>
 aa (app v38 ([a1])) fun v41=>
 aa (slc a0 ((a0.length:Nat):Int) (a0.length:Int)) fun v44=>
 aa (app v41 v44) fun v45=>
 some v45

def spec_l16IntoN:Nat→(List Tt)→Ft→Option (List Tt)
 | 0,_,_=>none
 | n+1,a0,a1=>
 bif decide (a1.Op=3) then
 aa (spec_l16Put a0 a1.Atom) fun v12=>
 some v12
 else
 thenL (ρ:=(List Tt)) (σ:=(List Tt)) (forN (fun (i4:Nat) (s4:(List Tt))=>
 aa (idx a1.Parts (i4:Int)) fun v24=>
 aa (spec_l16IntoN n s4 v24) fun v26=>
 some (.nx v26)) a1.Parts.length 0 a0) fun s4=>
 some s4
def spec_l16Into(a0:List Tt)(a1:Ft):Option (List Tt):=lim fun n=>spec_l16IntoN n a0 a1

def spec_l16Index(a0:List Tt)(a1:Tt):Option Int:=
 thenL (ρ:=Int) (σ:=Unit) (forN (fun (i2:Nat) (s2:Unit)=>
 aa (idx a0 (i2:Int)) fun v14=>
 aa (spec_l2Same v14 a1) fun v17=>
 bif v17 then
 some (.rt (i2:Int))
 else
 some (.nx ())) a0.length 0 ()) fun s2=>
 some (-1:Int)

def spec_l16HoldsN:Nat→Ft→(List Tt)→Int→Option Bool
 | 0,_,_,_=>none
 | n+1,a0,a1,a2=>
 bif decide (a0.Op=1) then
 some true
 else
 bif decide (a0.Op=2) then
 some false
 else
 bif decide (a0.Op=3) then
 aa (spec_l16Index a1 a0.Atom) fun v19=>
 aa (shr .i64 a2 (IntKind.u64.wrap v19)) fun v21=>
 some (decide ((bitand .i64 v21 (1:Int))=1))
 else
 bif decide (a0.Op=4) then
 aa (idx a0.Parts 0) fun v28=>
 aa (spec_l16HoldsN n v28 a1 a2) fun v32=>
 some (!v32)
 else
 bif decide (a0.Op=5) then
 aa (idx a0.Parts 0) fun v38=>
 aa (spec_l16HoldsN n v38 a1 a2) fun v42=>
 bif v42 then
 aa (idx a0.Parts 1) fun v46=>
 aa (spec_l16HoldsN n v46 a1 a2) fun v50=>
 some v50
 else
 some false
 else
 bif decide (a0.Op=6) then
 aa (idx a0.Parts 0) fun v56=>
 aa (spec_l16HoldsN n v56 a1 a2) fun v60=>
 bif v60 then
 some true
 else
 aa (idx a0.Parts 1) fun v64=>
 aa (spec_l16HoldsN n v64 a1 a2) fun v68=>
 some v68
 else
 aa (idx a0.Parts 0) fun v72=>
 aa (spec_l16HoldsN n v72 a1 a2) fun v76=>
 bif v76 then
 aa (idx a0.Parts 1) fun v81=>
 aa (spec_l16HoldsN n v81 a1 a2) fun v85=>
 some v85
 else
 some true
def spec_l16Holds(a0:Ft)(a1:List Tt)(a2:Int):Option Bool:=lim fun n=>spec_l16HoldsN n a0 a1 a2

def spec_l16Always(a0:Ft):Option (Bool×Bool):=
 aa (spec_l16Into ([]) a0) fun v8=>
 bif decide (12<(v8.length:Int)) then
 some (false,false)
 else
 thenL (ρ:=(Bool×Bool)) (σ:=Int) (lim fun n5=>whileN (fun (s5:Int)=>
 aa (shl .i64 (1:Int) (IntKind.u64.wrap (v8.length:Int))) fun v16=>
 bif decide (s5<v16) then
 aa (spec_l16Holds a0 v8 s5) fun v23=>
 bif v23 then
 some (.nx (IntKind.i64.wrap (s5+1)))
 else
 some (.rt (false,true))
 else
 some (.br s5)) n5 (0:Int)) fun s5=>
 some (true,true)

def spec_IsHerbrandProof(a0:Ft)(a1:List (List Tt)):Option (Bool×Bool):=
 aa (spec_l16Disjunction a0 a1) fun v11=>
 bif v11.2 then
 aa (spec_l16Always v11.1) fun v17=>
 some (v17.1,v17.2)
 else
 some (false,false)

def spec_WitnessTable(a0:Ft)(a1:List (List Tt)):Option ((List Int)×Bool):=
 aa (spec_IsHerbrandProof a0 a1) fun v21=>
 bif v21.1 then
 bif v21.2 then
 aa (spec_l16Disjunction a0 a1) fun v34=>
 aa (spec_l16Into ([]) v34.1) fun v39=>
 bif decide (6<(v39.length:Int)) then
 some ([],false)
 else
 thenL (ρ:=((List Int)×Bool)) (σ:=(List Ft)) (forN (fun (i10:Nat) (s10:(List Ft))=>
 aa (slc a1 (i10:Int) (IntKind.i64.wrap ((i10:Int)+1))) fun v57=>
 aa (spec_l16Disjunction a0 v57) fun v58=>
 aa (app s10 ([v58.1])) fun v64=>
 some (.nx v64)) a1.length 0 ([])) fun s10=>
 thenL (ρ:=((List Int)×Bool)) (σ:=(List Int)×Int) (lim fun n16=>whileN (fun (s16:(List Int)×Int)=>
 aa (shl .i64 (1:Int) (IntKind.u64.wrap (v39.length:Int))) fun v70=>
 bif decide (s16.2<v70) then
 thenL (ρ:=(Flow ((List Int)×Bool) ((List Int)×Int))) (σ:=Int) (lim fun n19=>whileN (fun (s19:Int)=>
 aa (idx s10 s19) fun v76=>
 aa (idx s10 s19) fun v77=>
 aa (spec_l16Holds v77 v39 s16.2) fun v80=>
 bif v80 then
 some (.br s19)
 else
 some (.nx (IntKind.i64.wrap (s19+1)))) n19 (0:Int)) fun s19=>
 aa (app s16.1 ([s19])) fun v87=>
 some (.nx (v87,IntKind.i64.wrap (s16.2+1)))
 else
 some (.br s16)) n16 ([],(0:Int))) fun s16=>
 some (s16.1,true)
 else
 some ([],false)
 else
 some ([],false)

def impl_sizeOfN:Nat→Ft→Option Int
 | 0,_=>none
 | n+1,a0=>
 thenL (ρ:=Int) (σ:=Int) (forN (fun (i3:Nat) (s3:Int)=>
 aa (idx a0.Parts (i3:Int)) fun v11=>
 bif decide (40<s3) then
 some (.rt s3)
 else
 aa (impl_sizeOfN n v11) fun v18=>
 some (.nx (IntKind.i64.wrap (s3+v18)))) a0.Parts.length 0 (1:Int)) fun s3=>
 some s3
def impl_sizeOf(a0:Ft):Option Int:=lim fun n=>impl_sizeOfN n a0

def impl_isQuantifier(a0:Int):Option Bool:=
 bif decide (a0=8) then
 some true
 else
 some (decide (a0=9))

def impl_isBinary(a0:Int):Option Bool:=
 bif decide (a0=5) then
 some true
 else
 bif decide (a0=6) then
 some true
 else
 some (decide (a0=7))

def impl_isUpper(a0:Int):Option Bool:=
 bif decide (65≤a0) then
 some (decide (a0≤90))
 else
 some false

def impl_isLower(a0:Int):Option Bool:=
 bif decide (97≤a0) then
 some (decide (a0≤122))
 else
 some false

def impl_isDigit(a0:Int):Option Bool:=
 bif decide (48≤a0) then
 some (decide (a0≤57))
 else
 some false

def impl_within(a0:Int)(a1:Int)(a2:Int):Option Bool:=
 bif decide (a1≤a0) then
 some (decide (a0≤a2))
 else
 some false

def impl_isVariable(a0:ByteArray):Option Bool:=
 aa (bnd (a0.size:Int)) fun N2=>
 thenL (ρ:=Bool) (σ:=Unit) (forN (fun (i2:Nat) (s2:Unit)=>
 bif decide ((i2:Int)=0) then
 aa (sidx a0 (i2:Int)) fun v14=>
 aa (impl_isUpper v14) fun v15=>
 bif v15 then
 bif decide (0<(i2:Int)) then
 aa (sidx a0 (i2:Int)) fun v24=>
 aa (impl_isLower v24) fun v25=>
 bif v25 then
 some (.nx ())
 else
 aa (sidx a0 (i2:Int)) fun v31=>
 aa (impl_isDigit v31) fun v32=>
 bif v32 then
 some (.nx ())
 else
 some (.rt false)
 else
 some (.nx ())
 else
 some (.rt false)
 else
 bif decide (0<(i2:Int)) then
 aa (sidx a0 (i2:Int)) fun v24=>
 aa (impl_isLower v24) fun v25=>
 bif v25 then
 some (.nx ())
 else
 aa (sidx a0 (i2:Int)) fun v31=>
 aa (impl_isDigit v31) fun v32=>
 bif v32 then
 some (.nx ())
 else
 some (.rt false)
 else
 some (.nx ())) N2 0 ()) fun s2=>
 aa (impl_within (a0.size:Int) 1 4) fun v39=>
 some v39

def impl_isEquality(a0:Tt):Option Bool:=
 some (decide (a0.Name=(⟨#[61]⟩:ByteArray)))

def impl_sizeN:Nat→Tt→Option Int
 | 0,_=>none
 | n+1,a0=>
 thenL (ρ:=Int) (σ:=Int) (forN (fun (i3:Nat) (s3:Int)=>
 aa (idx a0.Args (i3:Int)) fun v11=>
 bif decide (30<s3) then
 some (.rt s3)
 else
 aa (impl_sizeN n v11) fun v18=>
 some (.nx (IntKind.i64.wrap (s3+v18)))) a0.Args.length 0 (1:Int)) fun s3=>
 some s3
def impl_size(a0:Tt):Option Int:=lim fun n=>impl_sizeN n a0

def impl_depthN:Nat→Tt→Option Int
 | 0,_=>none
 | n+1,a0=>
 thenL (ρ:=Int) (σ:=Int) (forN (fun (i3:Nat) (s3:Int)=>
 aa (idx a0.Args (i3:Int)) fun v11=>
 aa (impl_depthN n v11) fun v15=>
 some (.nx (max s3 v15))) a0.Args.length 0 (0:Int)) fun s3=>
 some (IntKind.i64.wrap (s3+1))
def impl_depth(a0:Tt):Option Int:=lim fun n=>impl_depthN n a0

def impl_isSmall(a0:Tt):Option Bool:=
 aa (impl_size a0) fun v4=>
 bif decide (v4≤30) then
 aa (impl_depth a0) fun v8=>
 some (decide (v8≤8))
 else
 some false

def impl_reserved  :Option (List ByteArray):=
 some ([(⟨#[116,114,117,101]⟩:ByteArray),(⟨#[102,97,108,115,101]⟩:ByteArray),(⟨#[116,114,117,116,104]⟩:ByteArray),(⟨#[98,111,116,104]⟩:ByteArray),(⟨#[101,105,116,104,101,114]⟩:ByteArray),(⟨#[105,102]⟩:ByteArray),(⟨#[97,108,108]⟩:ByteArray),(⟨#[115,111,109,101]⟩:ByteArray)])

def slices_Index_Sstring_string(a0:List ByteArray)(a1:ByteArray):Option Int:=
 thenL (ρ:=Int) (σ:=Unit) (forN (fun (i2:Nat) (s2:Unit)=>
 aa (idx a0 (i2:Int)) fun v14=>
 bif decide (a1=v14) then
 some (.rt (i2:Int))
 else
 some (.nx ())) a0.length 0 ()) fun s2=>
 some (-1:Int)

def slices_Contains_Sstring_string(a0:List ByteArray)(a1:ByteArray):Option Bool:=
 aa (slices_Index_Sstring_string a0 a1) fun v7=>
 some (decide (0≤v7))

def impl_isSymbol(a0:ByteArray):Option Bool:=
 aa (bnd (a0.size:Int)) fun N2=>
 thenL (ρ:=Bool) (σ:=Unit) (forN (fun (i2:Nat) (s2:Unit)=>
 bif decide ((i2:Int)=0) then
 aa (sidx a0 (i2:Int)) fun v14=>
 aa (impl_isLower v14) fun v15=>
 bif v15 then
 aa (sidx a0 (i2:Int)) fun v21=>
 aa (impl_isLower v21) fun v22=>
 bif v22 then
 some (.nx ())
 else
 aa (sidx a0 (i2:Int)) fun v27=>
 aa (impl_isDigit v27) fun v28=>
 bif v28 then
 some (.nx ())
 else
 aa (sidx a0 (i2:Int)) fun v34=>
 bif decide (v34=95) then
 some (.nx ())
 else
 some (.rt false)
 else
 some (.rt false)
 else
 aa (sidx a0 (i2:Int)) fun v21=>
 aa (impl_isLower v21) fun v22=>
 bif v22 then
 some (.nx ())
 else
 aa (sidx a0 (i2:Int)) fun v27=>
 aa (impl_isDigit v27) fun v28=>
 bif v28 then
 some (.nx ())
 else
 aa (sidx a0 (i2:Int)) fun v34=>
 bif decide (v34=95) then
 some (.nx ())
 else
 some (.rt false)) N2 0 ()) fun s2=>
 aa (impl_within (a0.size:Int) 1 6) fun v41=>
 bif v41 then
 aa (impl_reserved ) fun v43=>
 aa (slices_Contains_Sstring_string v43 a0) fun v45=>
 some (!v45)
 else
 some false

def slices_IndexFunc_Simpl_Term_impl_Term(a0:List Tt)(a1:Tt→Option Bool):Option Int:=
 thenL (ρ:=Int) (σ:=Unit) (forN (fun (i2:Nat) (s2:Unit)=>
 aa (idx a0 (i2:Int)) fun v14=>
 aa (a1 v14) fun v16=>
 bif v16 then
 some (.rt (i2:Int))
 else
 some (.nx ())) a0.length 0 ()) fun s2=>
 some (-1:Int)

def slices_ContainsFunc_Simpl_Term_impl_Term(a0:List Tt)(a1:Tt→Option Bool):Option Bool:=
 aa (slices_IndexFunc_Simpl_Term_impl_Term a0 a1) fun v7=>
 some (decide (0≤v7))

mutual
def impl_hasNamesN:Nat→Tt→Option Bool
 | 0,_=>none
 | n+1,a0=>
 aa (impl_isVariable a0.Name) fun v5=>
 bif v5 then
 some (decide ((a0.Args.length:Int)=0))
 else
 aa (impl_isSymbol a0.Name) fun v12=>
 bif v12 then
 bif decide ((a0.Args.length:Int)≤4) then
 aa (slices_ContainsFunc_Simpl_Term_impl_Term a0.Args (fun y0=>impl_hasNames_1N n y0)) fun v22=>
 some (!v22)
 else
 some false
 else
 some false
def impl_hasNames_1N:Nat→Tt→Option Bool
 | 0,_=>none
 | n+1,a0=>
 aa (impl_hasNamesN n a0) fun v4=>
 some (!v4)
end
def impl_hasNames(a0:Tt):Option Bool:=lim fun n=>impl_hasNamesN n a0
def impl_hasNames_1(a0:Tt):Option Bool:=lim fun n=>impl_hasNames_1N n a0

def impl_IsValidTerm(a0:Tt):Option Bool:=
 aa (impl_isSmall a0) fun v4=>
 bif v4 then
 aa (impl_hasNames a0) fun v7=>
 some v7
 else
 some false

def impl_IsValidAtom(a0:Tt):Option Bool:=
 aa (impl_isEquality a0) fun v4=>
 bif v4 then
 bif decide ((a0.Args.length:Int)=2) then
 aa (impl_isSmall a0) fun v11=>
 bif v11 then
 aa (idx a0.Args 0) fun v16=>
 aa (impl_hasNames v16) fun v18=>
 bif v18 then
 aa (idx a0.Args 1) fun v23=>
 aa (impl_hasNames v23) fun v25=>
 some v25
 else
 some false
 else
 some false
 else
 some false
 else
 aa (impl_isSymbol a0.Name) fun v29=>
 bif v29 then
 aa (impl_IsValidTerm a0) fun v32=>
 some v32
 else
 some false

def impl_isZeroTerm(a0:Tt):Option Bool:=
 bif decide (a0.Name=(⟨#[]⟩:ByteArray)) then
 some (decide ((a0.Args.length:Int)=0))
 else
 some false

def slices_IndexFunc_Simpl_Formula_impl_Formula(a0:List Ft)(a1:Ft→Option Bool):Option Int:=
 thenL (ρ:=Int) (σ:=Unit) (forN (fun (i2:Nat) (s2:Unit)=>
 aa (idx a0 (i2:Int)) fun v14=>
 aa (a1 v14) fun v16=>
 bif v16 then
 some (.rt (i2:Int))
 else
 some (.nx ())) a0.length 0 ()) fun s2=>
 some (-1:Int)

def slices_ContainsFunc_Simpl_Formula_impl_Formula(a0:List Ft)(a1:Ft→Option Bool):Option Bool:=
 aa (slices_IndexFunc_Simpl_Formula_impl_Formula a0 a1) fun v7=>
 some (decide (0≤v7))

mutual
def impl_hasFormN:Nat→Ft→Option Bool
 | 0,_=>none
 | n+1,a0=>
 bif decide (a0.Op=1) then
 bif decide ((a0.Parts.length:Int)=0) then
 aa (impl_isQuantifier a0.Op) fun v33=>
 bif v33 then
 aa (impl_isVariable a0.Var) fun v37=>
 bif v37 then
 aa (impl_isQuantifier a0.Op) fun v44=>
 bif v44 then
 bif decide (a0.Op=3) then
 aa (impl_IsValidAtom a0.Atom) fun v58=>
 bif v58 then
 aa (slices_ContainsFunc_Simpl_Formula_impl_Formula a0.Parts (fun y0=>impl_hasForm_1N n y0)) fun v74=>
 some (!v74)
 else
 some false
 else
 aa (impl_isZeroTerm a0.Atom) fun v68=>
 bif v68 then
 aa (slices_ContainsFunc_Simpl_Formula_impl_Formula a0.Parts (fun y0=>impl_hasForm_1N n y0)) fun v74=>
 some (!v74)
 else
 some false
 else
 bif decide (a0.Var=(⟨#[]⟩:ByteArray)) then
 bif decide (a0.Op=3) then
 aa (impl_IsValidAtom a0.Atom) fun v58=>
 bif v58 then
 aa (slices_ContainsFunc_Simpl_Formula_impl_Formula a0.Parts (fun y0=>impl_hasForm_1N n y0)) fun v74=>
 some (!v74)
 else
 some false
 else
 aa (impl_isZeroTerm a0.Atom) fun v68=>
 bif v68 then
 aa (slices_ContainsFunc_Simpl_Formula_impl_Formula a0.Parts (fun y0=>impl_hasForm_1N n y0)) fun v74=>
 some (!v74)
 else
 some false
 else
 some false
 else
 some false
 else
 aa (impl_isQuantifier a0.Op) fun v44=>
 bif v44 then
 bif decide (a0.Op=3) then
 aa (impl_IsValidAtom a0.Atom) fun v58=>
 bif v58 then
 aa (slices_ContainsFunc_Simpl_Formula_impl_Formula a0.Parts (fun y0=>impl_hasForm_1N n y0)) fun v74=>
 some (!v74)
 else
 some false
 else
 aa (impl_isZeroTerm a0.Atom) fun v68=>
 bif v68 then
 aa (slices_ContainsFunc_Simpl_Formula_impl_Formula a0.Parts (fun y0=>impl_hasForm_1N n y0)) fun v74=>
 some (!v74)
 else
 some false
 else
 bif decide (a0.Var=(⟨#[]⟩:ByteArray)) then
 bif decide (a0.Op=3) then
 aa (impl_IsValidAtom a0.Atom) fun v58=>
 bif v58 then
 aa (slices_ContainsFunc_Simpl_Formula_impl_Formula a0.Parts (fun y0=>impl_hasForm_1N n y0)) fun v74=>
 some (!v74)
 else
 some false
 else
 aa (impl_isZeroTerm a0.Atom) fun v68=>
 bif v68 then
 aa (slices_ContainsFunc_Simpl_Formula_impl_Formula a0.Parts (fun y0=>impl_hasForm_1N n y0)) fun v74=>
 some (!v74)
 else
 some false
 else
 some false
 else
 some false
 else
 bif decide (a0.Op=2) then
 bif decide ((a0.Parts.length:Int)=0) then
 aa (impl_isQuantifier a0.Op) fun v33=>
 bif v33 then
 aa (impl_isVariable a0.Var) fun v37=>
 bif v37 then
 aa (impl_isQuantifier a0.Op) fun v44=>
 bif v44 then
 bif decide (a0.Op=3) then
 aa (impl_IsValidAtom a0.Atom) fun v58=>
 bif v58 then
 aa (slices_ContainsFunc_Simpl_Formula_impl_Formula a0.Parts (fun y0=>impl_hasForm_1N n y0)) fun v74=>
 some (!v74)
 else
 some false
 else
 aa (impl_isZeroTerm a0.Atom) fun v68=>
 bif v68 then
 aa (slices_ContainsFunc_Simpl_Formula_impl_Formula a0.Parts (fun y0=>impl_hasForm_1N n y0)) fun v74=>
 some (!v74)
 else
 some false
 else
 bif decide (a0.Var=(⟨#[]⟩:ByteArray)) then
 bif decide (a0.Op=3) then
 aa (impl_IsValidAtom a0.Atom) fun v58=>
 bif v58 then
 aa (slices_ContainsFunc_Simpl_Formula_impl_Formula a0.Parts (fun y0=>impl_hasForm_1N n y0)) fun v74=>
 some (!v74)
 else
 some false
 else
 aa (impl_isZeroTerm a0.Atom) fun v68=>
 bif v68 then
 aa (slices_ContainsFunc_Simpl_Formula_impl_Formula a0.Parts (fun y0=>impl_hasForm_1N n y0)) fun v74=>
 some (!v74)
 else
 some false
 else
 some false
 else
 some false
 else
 aa (impl_isQuantifier a0.Op) fun v44=>
 bif v44 then
 bif decide (a0.Op=3) then
 aa (impl_IsValidAtom a0.Atom) fun v58=>
 bif v58 then
 aa (slices_ContainsFunc_Simpl_Formula_impl_Formula a0.Parts (fun y0=>impl_hasForm_1N n y0)) fun v74=>
 some (!v74)
 else
 some false
 else
 aa (impl_isZeroTerm a0.Atom) fun v68=>
 bif v68 then
 aa (slices_ContainsFunc_Simpl_Formula_impl_Formula a0.Parts (fun y0=>impl_hasForm_1N n y0)) fun v74=>
 some (!v74)
 else
 some false
 else
 bif decide (a0.Var=(⟨#[]⟩:ByteArray)) then
 bif decide (a0.Op=3) then
 aa (impl_IsValidAtom a0.Atom) fun v58=>
 bif v58 then
 aa (slices_ContainsFunc_Simpl_Formula_impl_Formula a0.Parts (fun y0=>impl_hasForm_1N n y0)) fun v74=>
 some (!v74)
 else
 some false
 else
 aa (impl_isZeroTerm a0.Atom) fun v68=>
 bif v68 then
 aa (slices_ContainsFunc_Simpl_Formula_impl_Formula a0.Parts (fun y0=>impl_hasForm_1N n y0)) fun v74=>
 some (!v74)
 else
 some false
 else
 some false
 else
 some false
 else
 bif decide (a0.Op=3) then
 bif decide ((a0.Parts.length:Int)=0) then
 aa (impl_isQuantifier a0.Op) fun v33=>
 bif v33 then
 aa (impl_isVariable a0.Var) fun v37=>
 bif v37 then
 aa (impl_isQuantifier a0.Op) fun v44=>
 bif v44 then
 aa (impl_IsValidAtom a0.Atom) fun v58=>
 bif v58 then
 aa (slices_ContainsFunc_Simpl_Formula_impl_Formula a0.Parts (fun y0=>impl_hasForm_1N n y0)) fun v74=>
 some (!v74)
 else
 some false
 else
 bif decide (a0.Var=(⟨#[]⟩:ByteArray)) then
 aa (impl_IsValidAtom a0.Atom) fun v58=>
 bif v58 then
 aa (slices_ContainsFunc_Simpl_Formula_impl_Formula a0.Parts (fun y0=>impl_hasForm_1N n y0)) fun v74=>
 some (!v74)
 else
 some false
 else
 some false
 else
 some false
 else
 aa (impl_isQuantifier a0.Op) fun v44=>
 bif v44 then
 aa (impl_IsValidAtom a0.Atom) fun v58=>
 bif v58 then
 aa (slices_ContainsFunc_Simpl_Formula_impl_Formula a0.Parts (fun y0=>impl_hasForm_1N n y0)) fun v74=>
 some (!v74)
 else
 some false
 else
 bif decide (a0.Var=(⟨#[]⟩:ByteArray)) then
 aa (impl_IsValidAtom a0.Atom) fun v58=>
 bif v58 then
 aa (slices_ContainsFunc_Simpl_Formula_impl_Formula a0.Parts (fun y0=>impl_hasForm_1N n y0)) fun v74=>
 some (!v74)
 else
 some false
 else
 some false
 else
 some false
 else
 bif decide (a0.Op=4) then
 bif decide ((a0.Parts.length:Int)=1) then
 aa (impl_isQuantifier a0.Op) fun v33=>
 bif v33 then
 aa (impl_isVariable a0.Var) fun v37=>
 bif v37 then
 aa (impl_isQuantifier a0.Op) fun v44=>
 bif v44 then
 aa (impl_isZeroTerm a0.Atom) fun v68=>
 bif v68 then
 aa (slices_ContainsFunc_Simpl_Formula_impl_Formula a0.Parts (fun y0=>impl_hasForm_1N n y0)) fun v74=>
 some (!v74)
 else
 some false
 else
 bif decide (a0.Var=(⟨#[]⟩:ByteArray)) then
 aa (impl_isZeroTerm a0.Atom) fun v68=>
 bif v68 then
 aa (slices_ContainsFunc_Simpl_Formula_impl_Formula a0.Parts (fun y0=>impl_hasForm_1N n y0)) fun v74=>
 some (!v74)
 else
 some false
 else
 some false
 else
 some false
 else
 aa (impl_isQuantifier a0.Op) fun v44=>
 bif v44 then
 aa (impl_isZeroTerm a0.Atom) fun v68=>
 bif v68 then
 aa (slices_ContainsFunc_Simpl_Formula_impl_Formula a0.Parts (fun y0=>impl_hasForm_1N n y0)) fun v74=>
 some (!v74)
 else
 some false
 else
 bif decide (a0.Var=(⟨#[]⟩:ByteArray)) then
 aa (impl_isZeroTerm a0.Atom) fun v68=>
 bif v68 then
 aa (slices_ContainsFunc_Simpl_Formula_impl_Formula a0.Parts (fun y0=>impl_hasForm_1N n y0)) fun v74=>
 some (!v74)
 else
 some false
 else
 some false
 else
 some false
 else
 aa (impl_isQuantifier a0.Op) fun v20=>
 bif v20 then
 bif decide ((a0.Parts.length:Int)=1) then
 aa (impl_isQuantifier a0.Op) fun v33=>
 bif v33 then
 aa (impl_isVariable a0.Var) fun v37=>
 bif v37 then
 aa (impl_isQuantifier a0.Op) fun v44=>
 bif v44 then
 aa (impl_isZeroTerm a0.Atom) fun v68=>
 bif v68 then
 aa (slices_ContainsFunc_Simpl_Formula_impl_Formula a0.Parts (fun y0=>impl_hasForm_1N n y0)) fun v74=>
 some (!v74)
 else
 some false
 else
 bif decide (a0.Var=(⟨#[]⟩:ByteArray)) then
 aa (impl_isZeroTerm a0.Atom) fun v68=>
 bif v68 then
 aa (slices_ContainsFunc_Simpl_Formula_impl_Formula a0.Parts (fun y0=>impl_hasForm_1N n y0)) fun v74=>
 some (!v74)
 else
 some false
 else
 some false
 else
 some false
 else
 aa (impl_isQuantifier a0.Op) fun v44=>
 bif v44 then
 aa (impl_isZeroTerm a0.Atom) fun v68=>
 bif v68 then
 aa (slices_ContainsFunc_Simpl_Formula_impl_Formula a0.Parts (fun y0=>impl_hasForm_1N n y0)) fun v74=>
 some (!v74)
 else
 some false
 else
 bif decide (a0.Var=(⟨#[]⟩:ByteArray)) then
 aa (impl_isZeroTerm a0.Atom) fun v68=>
 bif v68 then
 aa (slices_ContainsFunc_Simpl_Formula_impl_Formula a0.Parts (fun y0=>impl_hasForm_1N n y0)) fun v74=>
 some (!v74)
 else
 some false
 else
 some false
 else
 some false
 else
 aa (impl_isBinary a0.Op) fun v24=>
 bif v24 then
 bif decide ((a0.Parts.length:Int)=2) then
 aa (impl_isQuantifier a0.Op) fun v33=>
 bif v33 then
 aa (impl_isVariable a0.Var) fun v37=>
 bif v37 then
 aa (impl_isQuantifier a0.Op) fun v44=>
 bif v44 then
 aa (impl_isZeroTerm a0.Atom) fun v68=>
 bif v68 then
 aa (slices_ContainsFunc_Simpl_Formula_impl_Formula a0.Parts (fun y0=>impl_hasForm_1N n y0)) fun v74=>
 some (!v74)
 else
 some false
 else
 bif decide (a0.Var=(⟨#[]⟩:ByteArray)) then
 aa (impl_isZeroTerm a0.Atom) fun v68=>
 bif v68 then
 aa (slices_ContainsFunc_Simpl_Formula_impl_Formula a0.Parts (fun y0=>impl_hasForm_1N n y0)) fun v74=>
 some (!v74)
 else
 some false
 else
 some false
 else
 some false
 else
 aa (impl_isQuantifier a0.Op) fun v44=>
 bif v44 then
 aa (impl_isZeroTerm a0.Atom) fun v68=>
 bif v68 then
 aa (slices_ContainsFunc_Simpl_Formula_impl_Formula a0.Parts (fun y0=>impl_hasForm_1N n y0)) fun v74=>
 some (!v74)
 else
 some false
 else
 bif decide (a0.Var=(⟨#[]⟩:ByteArray)) then
 aa (impl_isZeroTerm a0.Atom) fun v68=>
 bif v68 then
 aa (slices_ContainsFunc_Simpl_Formula_impl_Formula a0.Parts (fun y0=>impl_hasForm_1N n y0)) fun v74=>
 some (!v74)
 else
 some false
 else
 some false
 else
 some false
 else
 some false
def impl_hasForm_1N:Nat→Ft→Option Bool
 | 0,_=>none
 | n+1,a0=>
 aa (impl_hasFormN n a0) fun v4=>
 some (!v4)
end
def impl_hasForm(a0:Ft):Option Bool:=lim fun n=>impl_hasFormN n a0
def impl_hasForm_1(a0:Ft):Option Bool:=lim fun n=>impl_hasForm_1N n a0

def impl_IsValidFormula(a0:Ft):Option Bool:=
 aa (impl_sizeOf a0) fun v4=>
 bif decide (v4≤40) then
 aa (impl_hasForm a0) fun v8=>
 some v8
 else
 some false

def impl_isVar(a0:Tt):Option Bool:=
 aa (sidx a0.Name (0:Int)) fun v5=>
 aa (impl_isUpper v5) fun v6=>
 some v6

def impl_collectN:Nat→(List ByteArray)→Tt→Option (List ByteArray)
 | 0,_,_=>none
 | n+1,a0,a1=>
 bif decide ((a1.Args.length:Int)=0) then
 aa (impl_isVar a1) fun v13=>
 bif v13 then
 aa (slices_Contains_Sstring_string a0 a1.Name) fun v18=>
 bif v18 then
 some a0
 else
 aa (app a0 ([a1.Name])) fun v24=>
 some v24
 else
 thenL (ρ:=(List ByteArray)) (σ:=(List ByteArray)) (forN (fun (i6:Nat) (s6:(List ByteArray))=>
 aa (idx a1.Args (i6:Int)) fun v31=>
 aa (impl_collectN n s6 v31) fun v35=>
 some (.nx v35)) a1.Args.length 0 a0) fun s6=>
 some s6
 else
 thenL (ρ:=(List ByteArray)) (σ:=(List ByteArray)) (forN (fun (i6:Nat) (s6:(List ByteArray))=>
 aa (idx a1.Args (i6:Int)) fun v31=>
 aa (impl_collectN n s6 v31) fun v35=>
 some (.nx v35)) a1.Args.length 0 a0) fun s6=>
 some s6
def impl_collect(a0:List ByteArray)(a1:Tt):Option (List ByteArray):=lim fun n=>impl_collectN n a0 a1

def sortB(a:List ByteArray):List ByteArray:=((a.map fun x=>x.data.toList).mergeSort fun x y=>decide (x≤y)).map fun l=>⟨l.toArray⟩
def slices_SortS(a0:List ByteArray):Option (Unit×List ByteArray):=if a0.length<4611686018427387904 then some ((),sortB a0) else none

def impl_variables(a0:Tt):Option (List ByteArray):=
 aa (impl_collect ([]) a0) fun v6=>
 aa (slices_SortS v6) fun v8=>
 some v8.2

def slices_Clone_Sstring_string(a0:List ByteArray):Option (List ByteArray):=
 aa (app ([]) a0) fun v7=>
 some v7

def impl_gatherN:Nat→(List ByteArray)→Ft→(List ByteArray)→Option (List ByteArray)
 | 0,_,_,_=>none
 | n+1,a0,a1,a2=>
 bif decide (a1.Op=3) then
 aa (impl_variables a1.Atom) fun v16=>
 thenL (ρ:=(List ByteArray)) (σ:=(List ByteArray)) (forN (fun (i3:Nat) (s3:(List ByteArray))=>
 aa (idx v16 (i3:Int)) fun v20=>
 aa (idx v16 (i3:Int)) fun v21=>
 aa (slices_Contains_Sstring_string a2 v21) fun v24=>
 bif v24 then
 some (.nx s3)
 else
 aa (slices_Contains_Sstring_string s3 v21) fun v29=>
 bif v29 then
 some (.nx s3)
 else
 aa (app s3 ([v21])) fun v35=>
 some (.nx v35)) v16.length 0 a0) fun s3=>
 some s3
 else
 aa (impl_isQuantifier a1.Op) fun v40=>
 bif v40 then
 aa (slices_Clone_Sstring_string a2) fun v42=>
 aa (app v42 ([a1.Var])) fun v46=>
 thenL (ρ:=(List ByteArray)) (σ:=(List ByteArray)) (forN (fun (i12:Nat) (s12:(List ByteArray))=>
 aa (idx a1.Parts (i12:Int)) fun v52=>
 aa (impl_gatherN n s12 v52 v46) fun v57=>
 some (.nx v57)) a1.Parts.length 0 a0) fun s12=>
 some s12
 else
 thenL (ρ:=(List ByteArray)) (σ:=(List ByteArray)) (forN (fun (i12:Nat) (s12:(List ByteArray))=>
 aa (idx a1.Parts (i12:Int)) fun v52=>
 aa (impl_gatherN n s12 v52 a2) fun v57=>
 some (.nx v57)) a1.Parts.length 0 a0) fun s12=>
 some s12
def impl_gather(a0:List ByteArray)(a1:Ft)(a2:List ByteArray):Option (List ByteArray):=lim fun n=>impl_gatherN n a0 a1 a2

def impl_free(a0:Ft):Option (List ByteArray):=
 aa (impl_gather ([]) a0 ([])) fun v6=>
 aa (slices_SortS v6) fun v8=>
 some v8.2

def impl_prefix(a0:Ft):Option ((List ByteArray)×Ft):=
 thenL (ρ:=((List ByteArray)×Ft)) (σ:=Ft×(List ByteArray)) (lim fun n2=>whileN (fun (s2:Ft×(List ByteArray))=>
 bif decide (s2.1.Op=9) then
 aa (app s2.2 ([s2.1.Var])) fun v13=>
 aa (idx s2.1.Parts 0) fun v16=>
 some (.nx (v16,v13))
 else
 some (.br s2)) n2 (a0,[])) fun s2=>
 some (s2.2,s2.1)

def cmpK(a:List ByteArray)(j:Nat):Bool:=decide (j=0)||!decide (a.getD j default=a.getD (j-1) default)
def compB(a:List ByteArray):List ByteArray:=((List.range a.length).filter (cmpK a)).map fun j=>a.getD j default
def slices_CompactS(a0:List ByteArray):Option (List ByteArray):=if a0.length<4611686018427387904 then some (compB a0) else none

def slices_Index_Sint_int(a0:List Int)(a1:Int):Option Int:=
 thenL (ρ:=Int) (σ:=Unit) (forN (fun (i2:Nat) (s2:Unit)=>
 aa (idx a0 (i2:Int)) fun v14=>
 bif decide (a1=v14) then
 some (.rt (i2:Int))
 else
 some (.nx ())) a0.length 0 ()) fun s2=>
 some (-1:Int)

def slices_Contains_Sint_int(a0:List Int)(a1:Int):Option Bool:=
 aa (slices_Index_Sint_int a0 a1) fun v7=>
 some (decide (0≤v7))

mutual
def impl_hasOpN:Nat→Ft→(List Int)→Option Bool
 | 0,_,_=>none
 | n+1,a0,a1=>
 aa (slices_Contains_Sint_int a1 a0.Op) fun v8=>
 bif v8 then
 some true
 else
 aa (slices_ContainsFunc_Simpl_Formula_impl_Formula a0.Parts (fun y0=>impl_hasOp_1N n y0 a1)) fun v13=>
 some v13
def impl_hasOp_1N:Nat→Ft→(List Int)→Option Bool
 | 0,_,_=>none
 | n+1,a0,b0=>
 aa (impl_hasOpN n a0 b0) fun v6=>
 some v6
end
def impl_hasOp(a0:Ft)(a1:List Int):Option Bool:=lim fun n=>impl_hasOpN n a0 a1
def impl_hasOp_1(a0:Ft)(b0:List Int):Option Bool:=lim fun n=>impl_hasOp_1N n a0 b0

def impl_IsHerbrandFormula(a0:Ft):Option Bool:=
 aa (impl_IsValidFormula a0) fun v6=>
 bif v6 then
 aa (impl_free a0) fun v10=>
 bif decide (0<(v10.length:Int)) then
 some false
 else
 aa (impl_prefix a0) fun v16=>
 aa (slices_SortS v16.1) fun v20=>
 aa (slices_Clone_Sstring_string v20.2) fun v22=>
 aa (slices_CompactS v22) fun v23=>
 bif decide ((v23.length:Int)=(v20.2.length:Int)) then
 aa (impl_hasOp v16.2 ([(8:Int),(9:Int)])) fun v31=>
 some (!v31)
 else
 some false
 else
 some false

def impl_isGroundTerm(a0:Tt):Option Bool:=
 aa (impl_IsValidTerm a0) fun v4=>
 bif v4 then
 aa (impl_collect ([]) a0) fun v7=>
 some (decide ((v7.length:Int)=0))
 else
 some false

def impl_HerbrandDisjunction_1(a0:Tt):Option Bool:=
 aa (impl_isGroundTerm a0) fun v4=>
 some (!v4)

mutual
def impl_copyTermN:Nat→Tt→Option Tt
 | 0,_=>none
 | n+1,a0=>
 aa (impl_copyTermsN n a0.Args) fun v7=>
 some (Tt.mk a0.Name v7)
def impl_copyTermsN:Nat→(List Tt)→Option (List Tt)
 | 0,_=>none
 | n+1,a0=>
 bif decide ((a0.length:Int)=0) then
 some ([])
 else
 aa (mkn (a0.length:Int)) fun n11=>
 thenL (ρ:=(List Tt)) (σ:=(List Tt)) (forN (fun (i5:Nat) (s5:(List Tt))=>
 aa (idx a0 (i5:Int)) fun v17=>
 aa (impl_copyTermN n v17) fun v22=>
 aa (idx s5 (i5:Int)) fun v23=>
 aa (idx s5 (i5:Int)) fun w3=>
 some (.nx (s5.set (i5:Int).toNat v22))) a0.length 0 (List.replicate n11 (Tt.mk ⟨#[]⟩ ([])))) fun s5=>
 some s5
end
def impl_copyTerm(a0:Tt):Option Tt:=lim fun n=>impl_copyTermN n a0
def impl_copyTerms(a0:List Tt):Option (List Tt):=lim fun n=>impl_copyTermsN n a0

def impl_replaceVarsN:Nat→Tt→(GMap Tt)→Option Tt
 | 0,_,_=>none
 | n+1,a0,a1=>
 bif GMap.has a1 a0.Name then
 bif decide ((a0.Args.length:Int)=0) then
 aa (impl_copyTerm (GMap.get a1 a0.Name (Tt.mk ⟨#[]⟩ ([])))) fun v25=>
 some v25
 else
 thenL (ρ:=Tt) (σ:=(List Tt)) (forN (fun (i6:Nat) (s6:(List Tt))=>
 aa (idx a0.Args (i6:Int)) fun v34=>
 aa (impl_replaceVarsN n v34 a1) fun v40=>
 aa (app s6 ([v40])) fun v42=>
 some (.nx v42)) a0.Args.length 0 ([])) fun s6=>
 some (Tt.mk a0.Name s6)
 else
 thenL (ρ:=Tt) (σ:=(List Tt)) (forN (fun (i6:Nat) (s6:(List Tt))=>
 aa (idx a0.Args (i6:Int)) fun v34=>
 aa (impl_replaceVarsN n v34 a1) fun v40=>
 aa (app s6 ([v40])) fun v42=>
 some (.nx v42)) a0.Args.length 0 ([])) fun s6=>
 some (Tt.mk a0.Name s6)
def impl_replaceVars(a0:Tt)(a1:GMap Tt):Option Tt:=lim fun n=>impl_replaceVarsN n a0 a1

def impl_atomOf(a0:Tt):Option Ft:=
 some (Ft.mk 3 a0 ⟨#[]⟩ ([]))

def impl_mapParts(a0:Ft)(a1:Ft→Option Ft):Option Ft:=
 aa (impl_copyTerm a0.Atom) fun v12=>
 thenL (ρ:=Ft) (σ:=(List Ft)) (forN (fun (i3:Nat) (s3:(List Ft))=>
 aa (idx a0.Parts (i3:Int)) fun v21=>
 aa (a1 v21) fun v27=>
 aa (app s3 ([v27])) fun v29=>
 some (.nx v29)) a0.Parts.length 0 ([])) fun s3=>
 some (Ft.mk a0.Op v12 a0.Var s3)


mutual
def impl_instanceN:Nat→Ft→(GMap Tt)→Option Ft
 | 0,_,_=>none
 | n+1,a0,a1=>
 bif decide (a0.Op=3) then
 aa (impl_replaceVars a0.Atom a1) fun v11=>
 aa (impl_atomOf v11) fun v12=>
 some v12
 else
 aa (impl_mapParts a0 (fun y0=>impl_instance_1N n y0 a1)) fun v15=>
 some v15
def impl_instance_1N:Nat→Ft→(GMap Tt)→Option Ft
 | 0,_,_=>none
 | n+1,a0,b0=>
 aa (impl_instanceN n a0 b0) fun v6=>
 some v6
end
def impl_instance(a0:Ft)(a1:GMap Tt):Option Ft:=lim fun n=>impl_instanceN n a0 a1
def impl_instance_1(a0:Ft)(b0:GMap Tt):Option Ft:=lim fun n=>impl_instance_1N n a0 b0

def impl_binary(a0:Int)(a1:Ft)(a2:Ft):Option Ft:=
 some (Ft.mk a0 (Tt.mk ⟨#[]⟩ ([])) (⟨#[]⟩:ByteArray) ([a1,a2]))

def impl_combined(a0:Int)(a1:List Ft)(a2:Ft):Option Ft:=
 some (match a1.reverse with
 | []=>a2
 | x::r=>r.foldl (fun o f=>(impl_binary a0 f o).getD default) x)

def impl_ifFormula(a0:Ft):Option (Ft×Bool):=
 aa (impl_IsValidFormula a0) fun v5=>
 bif v5 then
 some (a0,true)
 else
 some ((Ft.mk 0 (Tt.mk ⟨#[]⟩ ([])) (⟨#[]⟩:ByteArray) ([])),false)

def impl_HerbrandDisjunction(a0:Ft)(a1:List (List Tt)):Option (Ft×Bool):=
 aa (impl_IsHerbrandFormula a0) fun v15=>
 bif v15 then
 aa (impl_prefix a0) fun v20=>
 thenL (ρ:=(Ft×Bool)) (σ:=(List Ft)) (forN (fun (i6:Nat) (s6:(List Ft))=>
 aa (idx a1 (i6:Int)) fun v28=>
 bif decide ((v28.length:Int)=(v20.1.length:Int)) then
 aa (slices_ContainsFunc_Simpl_Term_impl_Term v28 (fun y0=>impl_HerbrandDisjunction_1 y0)) fun v37=>
 bif v37 then
 some (.rt ((Ft.mk 0 (Tt.mk ⟨#[]⟩ ([])) (⟨#[]⟩:ByteArray) ([])),false))
 else
 thenL (ρ:=(Flow (Ft×Bool) (List Ft))) (σ:=(GMap Tt)) (forN (fun (i12:Nat) (s12:(GMap Tt))=>
 aa (idx v20.1 (i12:Int)) fun v46=>
 aa (idx v20.1 (i12:Int)) fun v47=>
 aa (idx v28 (i12:Int)) fun v52=>
 some (.nx (GMap.put s12 v47 v52))) v20.1.length 0 (GMap.empty:GMap Tt)) fun s12=>
 aa (impl_instance v20.2 s12) fun v58=>
 aa (app s6 ([v58])) fun v60=>
 some (.nx v60)
 else
 some (.rt ((Ft.mk 0 (Tt.mk ⟨#[]⟩ ([])) (⟨#[]⟩:ByteArray) ([])),false))) a1.length 0 ([])) fun s6=>
 aa (impl_combined 6 s6 (Ft.mk 2 (Tt.mk ⟨#[]⟩ ([])) (⟨#[]⟩:ByteArray) ([]))) fun v64=>
 aa (impl_ifFormula v64) fun v65=>
 some (v65.1,v65.2)
 else
 some ((Ft.mk 0 (Tt.mk ⟨#[]⟩ ([])) (⟨#[]⟩:ByteArray) ([])),false)

def impl_atomsOfN:Nat→Ft→Option (List Tt)
 | 0,_=>none
 | n+1,a0=>
 bif decide (a0.Op=3) then
 some ([a0.Atom])
 else
 thenL (ρ:=(List Tt)) (σ:=(List Tt)) (forN (fun (i5:Nat) (s5:(List Tt))=>
 aa (idx a0.Parts (i5:Int)) fun v18=>
 aa (impl_atomsOfN n v18) fun v22=>
 aa (app s5 v22) fun v23=>
 some (.nx v23)) a0.Parts.length 0 ([])) fun s5=>
 some s5
def impl_atomsOf(a0:Ft):Option (List Tt):=lim fun n=>impl_atomsOfN n a0

def slices_EqualFunc_Simpl_Term_Simpl_Term_impl_Term_impl_Term(a0:List Tt)(a1:List Tt)(a2:Tt→Tt→Option Bool):Option Bool:=
 bif decide ((a0.length:Int)=(a1.length:Int)) then
 thenL (ρ:=Bool) (σ:=Unit) (forN (fun (i4:Nat) (s4:Unit)=>
 aa (idx a0 (i4:Int)) fun v20=>
 aa (idx a1 (i4:Int)) fun v24=>
 aa (a2 v20 v24) fun v29=>
 bif v29 then
 some (.nx ())
 else
 some (.rt false)) a0.length 0 ()) fun s4=>
 some true
 else
 some false

def impl_EqualTermsN:Nat→Tt→Tt→Option Bool
 | 0,_,_=>none
 | n+1,a0,a1=>
 bif decide (a0.Name=a1.Name) then
 aa (slices_EqualFunc_Simpl_Term_Simpl_Term_impl_Term_impl_Term a0.Args a1.Args (fun y0 y1=>impl_EqualTermsN n y0 y1)) fun v15=>
 some v15
 else
 some false
def impl_EqualTerms(a0:Tt)(a1:Tt):Option Bool:=lim fun n=>impl_EqualTermsN n a0 a1

def impl_addAtom_1(a0:Tt)(b0:Tt):Option Bool:=
 aa (impl_EqualTerms a0 b0) fun v6=>
 some v6

def impl_addAtom(a0:List Tt)(a1:Tt):Option (List Tt):=
 aa (slices_ContainsFunc_Simpl_Term_impl_Term a0 (fun y0=>impl_addAtom_1 y0 a1)) fun v7=>
 bif v7 then
 some a0
 else
 aa (impl_copyTerm a1) fun v11=>
 aa (app a0 ([v11])) fun v13=>
 some v13

def impl_differentAtoms(a0:Ft):Option (List Tt):=
 aa (impl_atomsOf a0) fun v8=>
 thenL (ρ:=(List Tt)) (σ:=(List Tt)) (forN (fun (i3:Nat) (s3:(List Tt))=>
 aa (idx v8 (i3:Int)) fun v12=>
 aa (idx v8 (i3:Int)) fun v13=>
 aa (impl_addAtom s3 v13) fun v16=>
 some (.nx v16)) v8.length 0 ([])) fun s3=>
 some s3

def impl_indexOfAtom_1(a0:Tt)(b0:Tt):Option Bool:=
 aa (impl_EqualTerms a0 b0) fun v6=>
 some v6

def impl_indexOfAtom(a0:List Tt)(a1:Tt):Option Int:=
 aa (slices_IndexFunc_Simpl_Term_impl_Term a0 (fun y0=>impl_indexOfAtom_1 y0 a1)) fun v7=>
 some v7

def impl_truthOfN:Nat→Ft→(List Tt)→Int→Option Bool
 | 0,_,_,_=>none
 | n+1,a0,a1,a2=>
 bif decide (a0.Op=1) then
 some true
 else
 bif decide (a0.Op=3) then
 aa (impl_indexOfAtom a1 a0.Atom) fun v17=>
 aa (shr .i64 a2 v17) fun v18=>
 some (decide ((bitand .i64 v18 (1:Int))=1))
 else
 bif decide (a0.Op=4) then
 aa (idx a0.Parts 0) fun v25=>
 aa (impl_truthOfN n v25 a1 a2) fun v29=>
 some (!v29)
 else
 bif decide (a0.Op=5) then
 aa (idx a0.Parts 0) fun v35=>
 aa (impl_truthOfN n v35 a1 a2) fun v39=>
 bif v39 then
 aa (idx a0.Parts 1) fun v43=>
 aa (impl_truthOfN n v43 a1 a2) fun v47=>
 some v47
 else
 some false
 else
 bif decide (a0.Op=6) then
 aa (idx a0.Parts 0) fun v53=>
 aa (impl_truthOfN n v53 a1 a2) fun v57=>
 bif v57 then
 some true
 else
 aa (idx a0.Parts 1) fun v61=>
 aa (impl_truthOfN n v61 a1 a2) fun v65=>
 some v65
 else
 bif decide (a0.Op=7) then
 aa (idx a0.Parts 0) fun v71=>
 aa (impl_truthOfN n v71 a1 a2) fun v75=>
 bif v75 then
 aa (idx a0.Parts 1) fun v80=>
 aa (impl_truthOfN n v80 a1 a2) fun v84=>
 some v84
 else
 some true
 else
 some false
def impl_truthOf(a0:Ft)(a1:List Tt)(a2:Int):Option Bool:=lim fun n=>impl_truthOfN n a0 a1 a2

def impl_alwaysTrue(a0:Ft):Option (Bool×Bool):=
 aa (impl_differentAtoms a0) fun v7=>
 bif decide (12<(v7.length:Int)) then
 some (false,false)
 else
 aa (shl .i64 (1:Int) (v7.length:Int)) fun v13=>
 aa (bnd (v13)) fun N5=>
 thenL (ρ:=(Bool×Bool)) (σ:=Unit) (forN (fun (i5:Nat) (s5:Unit)=>
 aa (impl_truthOf a0 v7 (i5:Int)) fun v20=>
 bif v20 then
 some (.nx ())
 else
 some (.rt (false,true))) N5 0 ()) fun s5=>
 some (true,true)

def impl_IsHerbrandProof(a0:Ft)(a1:List (List Tt)):Option (Bool×Bool):=
 aa (impl_HerbrandDisjunction a0 a1) fun v11=>
 bif v11.2 then
 aa (impl_alwaysTrue v11.1) fun v17=>
 some (v17.1,v17.2)
 else
 some (false,false)

def cmp_isNaN_string(a0:ByteArray):Option Bool:=
 some (!(decide (a0=a0)))

def cmp_Compare_string(a0:ByteArray)(a1:ByteArray):Option Int:=
 aa (cmp_isNaN_string a0) fun v8=>
 aa (cmp_isNaN_string a1) fun v10=>
 bif v8 then
 bif v10 then
 some (0:Int)
 else
 some (-1:Int)
 else
 bif v10 then
 some (1:Int)
 else
 bif Op.bytesLess a0.data.toList a1.data.toList then
 some (-1:Int)
 else
 bif decide (a0=a1) then
 some (0:Int)
 else
 some (1:Int)

def cmp_isNaN_int(a0:Int):Option Bool:=
 some (!(decide (a0=a0)))

def cmp_Compare_int(a0:Int)(a1:Int):Option Int:=
 aa (cmp_isNaN_int a0) fun v8=>
 aa (cmp_isNaN_int a1) fun v10=>
 bif v8 then
 bif v10 then
 some (0:Int)
 else
 some (-1:Int)
 else
 bif v10 then
 some (1:Int)
 else
 bif decide (a0<a1) then
 some (-1:Int)
 else
 bif decide (a1<a0) then
 some (1:Int)
 else
 some (0:Int)

def cmp_Or_int(a0:List Int):Option Int:=
 thenL (ρ:=Int) (σ:=Unit) (forN (fun (i3:Nat) (s3:Unit)=>
 aa (idx a0 (i3:Int)) fun v10=>
 bif decide (v10=0) then
 some (.nx ())
 else
 some (.rt v10)) a0.length 0 ()) fun s3=>
 some (0:Int)

def slices_CompareFunc_Simpl_Term_Simpl_Term_impl_Term_impl_Term(a0:List Tt)(a1:List Tt)(a2:Tt→Tt→Option Int):Option Int:=
 thenL (ρ:=Int) (σ:=Unit) (forN (fun (i2:Nat) (s2:Unit)=>
 aa (idx a0 (i2:Int)) fun v16=>
 bif decide ((a1.length:Int)≤(i2:Int)) then
 some (.rt (1:Int))
 else
 aa (idx a1 (i2:Int)) fun v24=>
 aa (a2 v16 v24) fun v29=>
 bif decide (v29=0) then
 some (.nx ())
 else
 some (.rt v29)) a0.length 0 ()) fun s2=>
 bif decide ((a0.length:Int)<(a1.length:Int)) then
 some (-1:Int)
 else
 some (0:Int)

def impl_compareTermsN:Nat→Tt→Tt→Option Int
 | 0,_,_=>none
 | n+1,a0,a1=>
 aa (impl_isVar a0) fun v9=>
 aa (impl_isVar a1) fun v11=>
 bif v9 then
 bif v11 then
 aa (cmp_Compare_string a0.Name a1.Name) fun v28=>
 aa (cmp_Compare_int (a0.Args.length:Int) (a1.Args.length:Int)) fun v35=>
 aa (cmp_Or_int ([v28,v35])) fun v37=>
 bif decide (v37=0) then
 aa (slices_CompareFunc_Simpl_Term_Simpl_Term_impl_Term_impl_Term a0.Args a1.Args (fun y0 y1=>impl_compareTermsN n y0 y1)) fun v45=>
 some v45
 else
 some v37
 else
 some (-1:Int)
 else
 bif v11 then
 some (1:Int)
 else
 aa (cmp_Compare_string a0.Name a1.Name) fun v28=>
 aa (cmp_Compare_int (a0.Args.length:Int) (a1.Args.length:Int)) fun v35=>
 aa (cmp_Or_int ([v28,v35])) fun v37=>
 bif decide (v37=0) then
 aa (slices_CompareFunc_Simpl_Term_Simpl_Term_impl_Term_impl_Term a0.Args a1.Args (fun y0 y1=>impl_compareTermsN n y0 y1)) fun v45=>
 some v45
 else
 some v37
def impl_compareTerms(a0:Tt)(a1:Tt):Option Int:=lim fun n=>impl_compareTermsN n a0 a1

def cmpT(x y:Tt):Int:=(impl_compareTerms x y).getD 0
structure SortOk(l:List Tt):Prop where
 len:l.length≤1073741824
 ex:∀ x∈l,∀ y∈l,impl_compareTerms x y=some (cmpT x y)
 irr:∀ x∈l,¬ cmpT x x<0
 tr:∀ x∈l,∀ y∈l,∀ z∈l,cmpT x y<0→cmpT y z<0→cmpT x z<0
 ntr:∀ x∈l,∀ y∈l,∀ z∈l,¬ cmpT x y<0→¬ cmpT y z<0→¬ cmpT x z<0
 anti:∀ x∈l,∀ y∈l,¬ cmpT x y<0→¬ cmpT y x<0→x=y
def sortTs(l:List Tt):List Tt:=(l.attach.mergeSort fun x y=>!decide (cmpT y.1 x.1<0)).map (·.1)
def slices_SortFuncT(a0:List Tt):Option (Unit×List Tt):=@ite _ (SortOk a0) (Classical.propDecidable _) (some ((),sortTs a0)) none

def impl_WitnessTable_1(a0:Ft)(b0:List Tt)(b1:Int):Option Bool:=
 aa (impl_truthOf a0 b0 b1) fun v8=>
 some v8

def impl_WitnessTable(a0:Ft)(a1:List (List Tt)):Option ((List Int)×Bool):=
 aa (impl_IsHerbrandProof a0 a1) fun v21=>
 bif v21.2 then
 bif v21.1 then
 aa (impl_HerbrandDisjunction a0 a1) fun v33=>
 aa (impl_differentAtoms v33.1) fun v37=>
 bif decide (6<(v37.length:Int)) then
 some ([],false)
 else
 aa (slices_SortFuncT v37) fun v42=>
 thenL (ρ:=((List Int)×Bool)) (σ:=(List Ft)) (forN (fun (i11:Nat) (s11:(List Ft))=>
 aa (idx a1 (i11:Int)) fun v48=>
 aa (impl_HerbrandDisjunction a0 ([v48])) fun v54=>
 aa (app s11 ([v54.1])) fun v60=>
 some (.nx v60)) a1.length 0 ([])) fun s11=>
 aa (shl .i64 (1:Int) (v42.2.length:Int)) fun v65=>
 aa (bnd (v65)) fun N18=>
 thenL (ρ:=((List Int)×Bool)) (σ:=(List Int)) (forN (fun (i18:Nat) (s18:(List Int))=>
 aa (slices_IndexFunc_Simpl_Formula_impl_Formula s11 (fun y0=>impl_WitnessTable_1 y0 v42.2 (i18:Int))) fun v72=>
 aa (app s18 ([v72])) fun v74=>
 some (.nx v74)) N18 0 ([])) fun s18=>
 some (s18,true)
 else
 some ([],false)
 else
 some ([],false)

def eqIntS(a0:List Int)(a1:List Int):Option Bool:=
 bif decide ((a0.length:Int)=(a1.length:Int)) then
 thenL (ρ:=Bool) (σ:=Unit) (forN (fun (i4:Nat) (s4:Unit)=>
 aa (idx a0 (i4:Int)) fun v19=>
 aa (idx a1 (i4:Int)) fun v23=>
 bif decide (v19=v23) then
 some (.nx ())
 else
 some (.rt false)) a0.length 0 ()) fun s4=>
 some true
 else
 some false

mutual
def eqTermN:Nat→Tt→Tt→Option Bool
 | 0,_,_=>none
 | n+1,a0,a1=>
 bif decide (a0.Name=a1.Name) then
 aa (eqTermSN n a0.Args a1.Args) fun v14=>
 bif v14 then
 some true
 else
 some false
 else
 some false
def eqTermSN:Nat→(List Tt)→(List Tt)→Option Bool
 | 0,_,_=>none
 | n+1,a0,a1=>
 bif decide ((a0.length:Int)=(a1.length:Int)) then
 thenL (ρ:=Bool) (σ:=Unit) (forN (fun (i4:Nat) (s4:Unit)=>
 aa (idx a0 (i4:Int)) fun v19=>
 aa (idx a1 (i4:Int)) fun v23=>
 aa (eqTermN n v19 v23) fun v25=>
 bif v25 then
 some (.nx ())
 else
 some (.rt false)) a0.length 0 ()) fun s4=>
 some true
 else
 some false
end
def eqTerm(a0:Tt)(a1:Tt):Option Bool:=lim fun n=>eqTermN n a0 a1
def eqTermS(a0:List Tt)(a1:List Tt):Option Bool:=lim fun n=>eqTermSN n a0 a1

mutual
def eqFormulaN:Nat→Ft→Ft→Option Bool
 | 0,_,_=>none
 | n+1,a0,a1=>
 bif decide (a0.Op=a1.Op) then
 aa (eqTerm a0.Atom a1.Atom) fun v14=>
 bif v14 then
 bif decide (a0.Var=a1.Var) then
 aa (eqFormulaSN n a0.Parts a1.Parts) fun v25=>
 bif v25 then
 some true
 else
 some false
 else
 some false
 else
 some false
 else
 some false
def eqFormulaSN:Nat→(List Ft)→(List Ft)→Option Bool
 | 0,_,_=>none
 | n+1,a0,a1=>
 bif decide ((a0.length:Int)=(a1.length:Int)) then
 thenL (ρ:=Bool) (σ:=Unit) (forN (fun (i4:Nat) (s4:Unit)=>
 aa (idx a0 (i4:Int)) fun v19=>
 aa (idx a1 (i4:Int)) fun v23=>
 aa (eqFormulaN n v19 v23) fun v25=>
 bif v25 then
 some (.nx ())
 else
 some (.rt false)) a0.length 0 ()) fun s4=>
 some true
 else
 some false
end
def eqFormula(a0:Ft)(a1:Ft):Option Bool:=lim fun n=>eqFormulaN n a0 a1
def eqFormulaS(a0:List Ft)(a1:List Ft):Option Bool:=lim fun n=>eqFormulaSN n a0 a1

def eqTermSS(a0:List (List Tt))(a1:List (List Tt)):Option Bool:=
 bif decide ((a0.length:Int)=(a1.length:Int)) then
 thenL (ρ:=Bool) (σ:=Unit) (forN (fun (i4:Nat) (s4:Unit)=>
 aa (idx a0 (i4:Int)) fun v19=>
 aa (idx a1 (i4:Int)) fun v23=>
 aa (eqTermS v19 v23) fun v25=>
 bif v25 then
 some (.nx ())
 else
 some (.rt false)) a0.length 0 ()) fun s4=>
 some true
 else
 some false

def markText(a0:Int):Option ByteArray:=
 bif decide (a0≤0) then
 some (⟨#[109,48]⟩:ByteArray)
 else
 thenL (ρ:=ByteArray) (σ:=Int×ByteArray) (lim fun n4=>whileN (fun (s4:Int×ByteArray)=>
 bif decide (0<s4.1) then
 aa (rem s4.1 (10:Int)) fun v9=>
 aa (bstr ([IntKind.u8.wrap (IntKind.i64.wrap ((48:Int)+v9))])) fun v13=>
 aa (sapp v13 s4.2) fun v15=>
 aa (quo s4.1 (10:Int)) fun v17=>
 some (.nx (v17,v15))
 else
 some (.br s4)) n4 (a0,(⟨#[]⟩:ByteArray))) fun s4=>
 aa (sapp (⟨#[109]⟩:ByteArray) s4.2) fun v19=>
 some v19

def markTermSN:Nat→(List Tt)→Int→Option (Int×(List Tt))
 | 0,_,_=>none
 | n+1,a0,a1=>
 thenL (ρ:=(Int×(List Tt))) (σ:=(List Tt)×Int×Int) (lim fun n2=>whileN (fun (s2:(List Tt)×Int×Int)=>
 bif decide (s2.2.2<(s2.1.length:Int)) then
 aa (markText s2.2.1) fun v15=>
 aa (idx s2.1 s2.2.2) fun v16=>
 aa (idx s2.1 s2.2.2) fun w2=>
 aa (idx (s2.1.set s2.2.2.toNat (Tt.mk v15 w2.Args)) s2.2.2) fun v22=>
 aa (idx (s2.1.set s2.2.2.toNat (Tt.mk v15 w2.Args)) s2.2.2) fun w3=>
 aa (markTermSN n w3.Args (IntKind.i64.wrap (s2.2.1+1))) fun v26=>
 some (.nx ((s2.1.set s2.2.2.toNat (Tt.mk v15 w2.Args)).set s2.2.2.toNat (Tt.mk w3.Name v26.2),v26.1,IntKind.i64.wrap (s2.2.2+1)))
 else
 some (.br s2)) n2 (a0,a1,(0:Int))) fun s2=>
 some (s2.2.1,s2.1)
def markTermS(a0:List Tt)(a1:Int):Option (Int×(List Tt)):=lim fun n=>markTermSN n a0 a1

def markTerm(a0:Tt)(a1:Int):Option (Int×(List Tt)):=
 aa (markTermS a0.Args a1) fun v8=>
 some (v8.1,v8.2)

def markFormulaSN:Nat→(List Ft)→Int→Option (Int×(List Ft))
 | 0,_,_=>none
 | n+1,a0,a1=>
 thenL (ρ:=(Int×(List Ft))) (σ:=(List Ft)×Int×Int) (lim fun n2=>whileN (fun (s2:(List Ft)×Int×Int)=>
 bif decide (s2.2.2<(s2.1.length:Int)) then
 aa (idx s2.1 s2.2.2) fun v15=>
 aa (idx s2.1 s2.2.2) fun w2=>
 aa (markText (IntKind.i64.wrap (s2.2.1+1))) fun v22=>
 aa (idx (s2.1.set s2.2.2.toNat (Ft.mk s2.2.1 w2.Atom w2.Var w2.Parts)) s2.2.2) fun v23=>
 aa (idx (s2.1.set s2.2.2.toNat (Ft.mk s2.2.1 w2.Atom w2.Var w2.Parts)) s2.2.2) fun w3=>
 aa (idx ((s2.1.set s2.2.2.toNat (Ft.mk s2.2.1 w2.Atom w2.Var w2.Parts)).set s2.2.2.toNat (Ft.mk w3.Op (Tt.mk v22 w3.Atom.Args) w3.Var w3.Parts)) s2.2.2) fun v30=>
 aa (idx ((s2.1.set s2.2.2.toNat (Ft.mk s2.2.1 w2.Atom w2.Var w2.Parts)).set s2.2.2.toNat (Ft.mk w3.Op (Tt.mk v22 w3.Atom.Args) w3.Var w3.Parts)) s2.2.2) fun w4=>
 aa (markTermS w4.Atom.Args (IntKind.i64.wrap ((IntKind.i64.wrap (s2.2.1+1))+1))) fun v35=>
 aa (markText v35.1) fun v39=>
 aa (idx (((s2.1.set s2.2.2.toNat (Ft.mk s2.2.1 w2.Atom w2.Var w2.Parts)).set s2.2.2.toNat (Ft.mk w3.Op (Tt.mk v22 w3.Atom.Args) w3.Var w3.Parts)).set s2.2.2.toNat (Ft.mk w4.Op (Tt.mk w4.Atom.Name v35.2) w4.Var w4.Parts)) s2.2.2) fun v40=>
 aa (idx (((s2.1.set s2.2.2.toNat (Ft.mk s2.2.1 w2.Atom w2.Var w2.Parts)).set s2.2.2.toNat (Ft.mk w3.Op (Tt.mk v22 w3.Atom.Args) w3.Var w3.Parts)).set s2.2.2.toNat (Ft.mk w4.Op (Tt.mk w4.Atom.Name v35.2) w4.Var w4.Parts)) s2.2.2) fun w5=>
 aa (idx ((((s2.1.set s2.2.2.toNat (Ft.mk s2.2.1 w2.Atom w2.Var w2.Parts)).set s2.2.2.toNat (Ft.mk w3.Op (Tt.mk v22 w3.Atom.Args) w3.Var w3.Parts)).set s2.2.2.toNat (Ft.mk w4.Op (Tt.mk w4.Atom.Name v35.2) w4.Var w4.Parts)).set s2.2.2.toNat (Ft.mk w5.Op w5.Atom v39 w5.Parts)) s2.2.2) fun v46=>
 aa (idx ((((s2.1.set s2.2.2.toNat (Ft.mk s2.2.1 w2.Atom w2.Var w2.Parts)).set s2.2.2.toNat (Ft.mk w3.Op (Tt.mk v22 w3.Atom.Args) w3.Var w3.Parts)).set s2.2.2.toNat (Ft.mk w4.Op (Tt.mk w4.Atom.Name v35.2) w4.Var w4.Parts)).set s2.2.2.toNat (Ft.mk w5.Op w5.Atom v39 w5.Parts)) s2.2.2) fun w6=>
 aa (markFormulaSN n w6.Parts (IntKind.i64.wrap (v35.1+1))) fun v50=>
 some (.nx (((((s2.1.set s2.2.2.toNat (Ft.mk s2.2.1 w2.Atom w2.Var w2.Parts)).set s2.2.2.toNat (Ft.mk w3.Op (Tt.mk v22 w3.Atom.Args) w3.Var w3.Parts)).set s2.2.2.toNat (Ft.mk w4.Op (Tt.mk w4.Atom.Name v35.2) w4.Var w4.Parts)).set s2.2.2.toNat (Ft.mk w5.Op w5.Atom v39 w5.Parts)).set s2.2.2.toNat (Ft.mk w6.Op w6.Atom w6.Var v50.2),v50.1,IntKind.i64.wrap (s2.2.2+1)))
 else
 some (.br s2)) n2 (a0,a1,(0:Int))) fun s2=>
 some (s2.2.1,s2.1)
def markFormulaS(a0:List Ft)(a1:Int):Option (Int×(List Ft)):=lim fun n=>markFormulaSN n a0 a1

def markFormula(a0:Ft)(a1:Int):Option (Int×(List Tt)×(List Ft)):=
 aa (markTerm a0.Atom a1) fun v8=>
 aa (markFormulaS a0.Parts v8.1) fun v12=>
 some (v12.1,v8.2,v12.2)

def markTermSS(a0:List (List Tt))(a1:Int):Option (Int×(List (List Tt))):=
 thenL (ρ:=(Int×(List (List Tt)))) (σ:=(List (List Tt))×Int×Int) (lim fun n2=>whileN (fun (s2:(List (List Tt))×Int×Int)=>
 bif decide (s2.2.2<(s2.1.length:Int)) then
 aa (idx s2.1 s2.2.2) fun v14=>
 aa (idx s2.1 s2.2.2) fun w2=>
 aa (markTermS w2 s2.2.1) fun v17=>
 some (.nx (s2.1.set s2.2.2.toNat v17.2,v17.1,IntKind.i64.wrap (s2.2.2+1)))
 else
 some (.br s2)) n2 (a0,a1,(0:Int))) fun s2=>
 some (s2.2.1,s2.1)

def markIntS(a0:List Int)(a1:Int):Option (Int×(List Int)):=
 thenL (ρ:=(Int×(List Int))) (σ:=(List Int)×Int×Int) (lim fun n2=>whileN (fun (s2:(List Int)×Int×Int)=>
 bif decide (s2.2.2<(s2.1.length:Int)) then
 aa (idx s2.1 s2.2.2) fun v15=>
 aa (idx s2.1 s2.2.2) fun w2=>
 some (.nx (s2.1.set s2.2.2.toNat s2.2.1,IntKind.i64.wrap (s2.2.1+1),IntKind.i64.wrap (s2.2.2+1)))
 else
 some (.br s2)) n2 (a0,a1,(0:Int))) fun s2=>
 some (s2.2.1,s2.1)

def heldIntS(a0:List Int)(a1:Int):Option Int:=
 thenL (ρ:=Int) (σ:=Int) (forN (fun (i2:Nat) (s2:Int)=>
 aa (idx a0 (i2:Int)) fun v14=>
 bif decide (v14=s2) then
 some (.nx (IntKind.i64.wrap (s2+1)))
 else
 some (.rt (-1:Int))) a0.length 0 a1) fun s2=>
 some s2

def FnExactWitnessTable(a0:Ft)(a1:List (List Tt)):Option Bool:=
 aa (szFormula a0 (1048576:Int)) fun v19=>
 bif decide (v19<0) then
 some true
 else
 aa (szTermSS a1 v19) fun v24=>
 bif decide (v24<0) then
 some true
 else
 aa (toFormula a0) fun v29=>
 aa (toTermSS a1) fun v31=>
 aa (spec_WitnessTable v29 v31) fun v32=>
 aa (toFormula a0) fun v36=>
 aa (toTermSS a1) fun v38=>
 aa (impl_WitnessTable v36 v38) fun v42=>
 aa (eqIntS v42.1 v32.1) fun v47=>
 bif v47 then
 bif v42.2==v32.2 then
 aa (toFormula a0) fun v56=>
 aa (eqFormula v36 v56) fun v57=>
 bif v57 then
 aa (toTermSS a1) fun v61=>
 aa (eqTermSS v38 v61) fun v62=>
 bif v62 then
 aa (markFormula v36 (1:Int)) fun v66=>
 aa (markTermSS v38 v66.1) fun v69=>
 bif decide (v69.1<0) then
 some false
 else
 aa (eqIntS v42.1 v32.1) fun v75=>
 bif v75 then
 aa (markIntS v42.1 (1:Int)) fun v85=>
 aa (heldIntS v85.2 (1:Int)) fun v88=>
 bif decide (v88<0) then
 some false
 else
 bif decide (v88=v85.1) then
 aa (toFormula a0) fun v96=>
 aa (toTermSS a1) fun v98=>
 aa (impl_WitnessTable v96 v98) fun v99=>
 aa (eqIntS v99.1 v32.1) fun v104=>
 bif v104 then
 bif v99.2==v32.2 then
 aa (heldIntS v85.2 (1:Int)) fun v113=>
 bif decide (v113<0) then
 some false
 else
 bif decide (v113=v85.1) then
 some true
 else
 some false
 else
 some false
 else
 some false
 else
 some false
 else
 some false
 else
 some false
 else
 some false
 else
 some false
 else
 some false

end
end Go.Proofs.YtfchaodlnddkpaaGreat
