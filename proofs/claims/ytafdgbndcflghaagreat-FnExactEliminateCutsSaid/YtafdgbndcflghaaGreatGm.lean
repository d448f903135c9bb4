/- Lemmas of the proof; each says what it shows. -/
import Derived.Test.YtafdgbndcflghaaGreatGty
set_option linter.unusedSimpArgs false
set_option linter.unusedVariables false
set_option linter.defProp false
set_option maxRecDepth 4000
namespace Go.Proofs.YtafdgbndcflghaaGreat
open Go.Av
open Option renaming bind→aa
noncomputable section
mutual
def sTN_:Nat→Tt→Int→Option Int
 | 0,_,_=>none
 | n+1,a0,a1=>
 bif decide ((IntKind.i64.wrap (a1-(a0.Name.size:Int)))<0) then
 some (-1:Int)
 else
 aa (sTS_ n a0.Args (IntKind.i64.wrap (a1-(a0.Name.size:Int)))) fun v15=>
 bif decide (v15<0) then
 some (-1:Int)
 else
 some v15
def sTS_:Nat→(List Tt)→Int→Option Int
 | 0,_,_=>none
 | n+1,a0,a1=>
 bif decide ((IntKind.i64.wrap (a1-(a0.length:Int)))<0) then
 some (-1:Int)
 else
 tL_ (ρ:=Int) (σ:=Int) (forN (fun (i5:Nat) (s5:Int)=>
 aa (idx a0 (i5:Int)) fun v20=>
 aa (sTN_ n v20 s5) fun v23=>
 bif decide (v23<0) then
 some (.rt (-1:Int))
 else
 some (.nx v23)) a0.length 0 (IntKind.i64.wrap (a1-(a0.length:Int)))) fun s5=>
 some s5
end
def sT_1(a0:Tt)(a1:Int):Option Int:=lim fun n=>sTN_ n a0 a1
def sTS_1(a0:List Tt)(a1:Int):Option Int:=lim fun n=>sTS_ n a0 a1

mutual
def sFN_:Nat→Ft→Int→Option Int
 | 0,_,_=>none
 | n+1,a0,a1=>
 aa (sT_1 a0.Atom a1) fun v8=>
 bif decide (v8<0) then
 some (-1:Int)
 else
 bif decide ((IntKind.i64.wrap (v8-(a0.Var.size:Int)))<0) then
 some (-1:Int)
 else
 aa (sFS_ n a0.Parts (IntKind.i64.wrap (v8-(a0.Var.size:Int)))) fun v21=>
 bif decide (v21<0) then
 some (-1:Int)
 else
 some v21
def sFS_:Nat→(List Ft)→Int→Option Int
 | 0,_,_=>none
 | n+1,a0,a1=>
 bif decide ((IntKind.i64.wrap (a1-(a0.length:Int)))<0) then
 some (-1:Int)
 else
 tL_ (ρ:=Int) (σ:=Int) (forN (fun (i5:Nat) (s5:Int)=>
 aa (idx a0 (i5:Int)) fun v20=>
 aa (sFN_ n v20 s5) fun v23=>
 bif decide (v23<0) then
 some (.rt (-1:Int))
 else
 some (.nx v23)) a0.length 0 (IntKind.i64.wrap (a1-(a0.length:Int)))) fun s5=>
 some s5
end
def sF_(a0:Ft)(a1:Int):Option Int:=lim fun n=>sFN_ n a0 a1
def sFS_1(a0:List Ft)(a1:Int):Option Int:=lim fun n=>sFS_ n a0 a1

def sS_(a0:Sa)(a1:Int):Option Int:=
 aa (sFS_1 a0.Left a1) fun v8=>
 bif decide (v8<0) then
 some (-1:Int)
 else
 aa (sFS_1 a0.Right v8) fun v14=>
 bif decide (v14<0) then
 some (-1:Int)
 else
 some v14

mutual
def sDN_:Nat→Dt→Int→Option Int
 | 0,_,_=>none
 | n+1,a0,a1=>
 aa (sS_ a0.Sequent a1) fun v8=>
 bif decide (v8<0) then
 some (-1:Int)
 else
 aa (sT_1 a0.Term v8) fun v14=>
 bif decide (v14<0) then
 some (-1:Int)
 else
 aa (sF_ a0.Cut v14) fun v20=>
 bif decide (v20<0) then
 some (-1:Int)
 else
 aa (sDS_ n a0.Parts v20) fun v26=>
 bif decide (v26<0) then
 some (-1:Int)
 else
 some v26
def sDS_:Nat→(List Dt)→Int→Option Int
 | 0,_,_=>none
 | n+1,a0,a1=>
 bif decide ((IntKind.i64.wrap (a1-(a0.length:Int)))<0) then
 some (-1:Int)
 else
 tL_ (ρ:=Int) (σ:=Int) (forN (fun (i5:Nat) (s5:Int)=>
 aa (idx a0 (i5:Int)) fun v20=>
 aa (sDN_ n v20 s5) fun v23=>
 bif decide (v23<0) then
 some (.rt (-1:Int))
 else
 some (.nx v23)) a0.length 0 (IntKind.i64.wrap (a1-(a0.length:Int)))) fun s5=>
 some s5
end
def sD_(a0:Dt)(a1:Int):Option Int:=lim fun n=>sDN_ n a0 a1
def sDS_1(a0:List Dt)(a1:Int):Option Int:=lim fun n=>sDS_ n a0 a1

mutual
def tTN_:Nat→Tt→Option Tt
 | 0,_=>none
 | n+1,a0=>
 aa (tTS_ n a0.Args) fun v9=>
 some (Tt.mk a0.Name v9)
def tTS_:Nat→(List Tt)→Option (List Tt)
 | 0,_=>none
 | n+1,a0=>
 aa (mkn (a0.length:Int)) fun n7=>
 tL_ (ρ:=(List Tt)) (σ:=(List Tt)) (forN (fun (i3:Nat) (s3:(List Tt))=>
 aa (idx a0 (i3:Int)) fun v18=>
 aa (tTN_ n v18) fun v20=>
 aa (idx s3 (i3:Int)) fun v21=>
 aa (idx s3 (i3:Int)) fun w2=>
 some (.nx (s3.set (i3:Int).toNat v20))) a0.length 0 (List.replicate n7 (Tt.mk ⟨#[]⟩ ([])))) fun s3=>
 some s3
end
def tT_(a0:Tt):Option Tt:=lim fun n=>tTN_ n a0
def tTS_1(a0:List Tt):Option (List Tt):=lim fun n=>tTS_ n a0

mutual
def tFN_:Nat→Ft→Option Ft
 | 0,_=>none
 | n+1,a0=>
 aa (tT_ a0.Atom) fun v9=>
 aa (tFS_ n a0.Parts) fun v16=>
 some (Ft.mk a0.Op v9 a0.Var v16)
def tFS_:Nat→(List Ft)→Option (List Ft)
 | 0,_=>none
 | n+1,a0=>
 aa (mkn (a0.length:Int)) fun n7=>
 tL_ (ρ:=(List Ft)) (σ:=(List Ft)) (forN (fun (i3:Nat) (s3:(List Ft))=>
 aa (idx a0 (i3:Int)) fun v18=>
 aa (tFN_ n v18) fun v20=>
 aa (idx s3 (i3:Int)) fun v21=>
 aa (idx s3 (i3:Int)) fun w2=>
 some (.nx (s3.set (i3:Int).toNat v20))) a0.length 0 (List.replicate n7 (Ft.mk 0 (Tt.mk ⟨#[]⟩ ([])) (⟨#[]⟩:ByteArray) ([])))) fun s3=>
 some s3
end
def tF_(a0:Ft):Option Ft:=lim fun n=>tFN_ n a0
def tFS_1(a0:List Ft):Option (List Ft):=lim fun n=>tFS_ n a0

def tS_(a0:Sa):Option Sa:=
 aa (tFS_1 a0.Left) fun v6=>
 aa (tFS_1 a0.Right) fun v10=>
 some (Sa.mk v6 v10)

mutual
def tDN_:Nat→Dt→Option Dt
 | 0,_=>none
 | n+1,a0=>
 aa (tS_ a0.Sequent) fun v9=>
 aa (tT_ a0.Term) fun v16=>
 aa (tF_ a0.Cut) fun v20=>
 aa (tDS_ n a0.Parts) fun v24=>
 some (Dt.mk a0.Rule v9 a0.Main v16 v20 v24)
def tDS_:Nat→(List Dt)→Option (List Dt)
 | 0,_=>none
 | n+1,a0=>
 aa (mkn (a0.length:Int)) fun n7=>
 tL_ (ρ:=(List Dt)) (σ:=(List Dt)) (forN (fun (i3:Nat) (s3:(List Dt))=>
 aa (idx a0 (i3:Int)) fun v18=>
 aa (tDN_ n v18) fun v20=>
 aa (idx s3 (i3:Int)) fun v21=>
 aa (idx s3 (i3:Int)) fun w2=>
 some (.nx (s3.set (i3:Int).toNat v20))) a0.length 0 (List.replicate n7 (Dt.mk 0 (Sa.mk ([]) ([])) (0:Int) (Tt.mk ⟨#[]⟩ ([])) (Ft.mk 0 (Tt.mk ⟨#[]⟩ ([])) (⟨#[]⟩:ByteArray) ([])) ([])))) fun s3=>
 some s3
end
def tD_(a0:Dt):Option Dt:=lim fun n=>tDN_ n a0
def tDS_1(a0:List Dt):Option (List Dt):=lim fun n=>tDS_ n a0

def slS_:Nat→Dt→Int→Option Int
 | 0,_,_=>none
 | n+1,a0,a1=>
 tL_ (ρ:=Int) (σ:=Int) (forN (fun (i3:Nat) (s3:Int)=>
 bif decide (s3≤a1) then
 aa (idx a0.Parts (i3:Int)) fun v23=>
 aa (slS_ n v23 (IntKind.i64.wrap (a1-s3))) fun v28=>
 some (.nx (IntKind.i64.wrap (s3+v28)))
 else
 some (.rt s3)) a0.Parts.length 0 (1:Int)) fun s3=>
 some s3
def slS_15(a0:Dt)(a1:Int):Option Int:=lim fun n=>slS_ n a0 a1

def slM_:Nat→Ft→Int→Option Int
 | 0,_,_=>none
 | n+1,a0,a1=>
 tL_ (ρ:=Int) (σ:=Int) (forN (fun (i3:Nat) (s3:Int)=>
 bif decide (s3≤a1) then
 aa (idx a0.Parts (i3:Int)) fun v23=>
 aa (slM_ n v23 (IntKind.i64.wrap (a1-s3))) fun v28=>
 some (.nx (IntKind.i64.wrap (s3+v28)))
 else
 some (.rt s3)) a0.Parts.length 0 (1:Int)) fun s3=>
 some s3
def slM_3(a0:Ft)(a1:Int):Option Int:=lim fun n=>slM_ n a0 a1

def slN_3(a0:Tt):Option Bool:=
 bif decide (a0.Name=(⟨#[]⟩:ByteArray)) then
 some (decide ((a0.Args.length:Int)=0))
 else
 some false

def slM_1:Nat→Tt→Int→Option Int
 | 0,_,_=>none
 | n+1,a0,a1=>
 tL_ (ρ:=Int) (σ:=Int) (forN (fun (i3:Nat) (s3:Int)=>
 bif decide (s3≤a1) then
 aa (idx a0.Args (i3:Int)) fun v23=>
 aa (slM_1 n v23 (IntKind.i64.wrap (a1-s3))) fun v28=>
 some (.nx (IntKind.i64.wrap (s3+v28)))
 else
 some (.rt s3)) a0.Args.length 0 (1:Int)) fun s3=>
 some s3
def slM_4(a0:Tt)(a1:Int):Option Int:=lim fun n=>slM_1 n a0 a1

def slM_2(a0:Int)(a1:Int):Option Int:=
 bif decide (a1<a0) then
 some a0
 else
 some a1

def slD_:Nat→Tt→Option Int
 | 0,_=>none
 | n+1,a0=>
 tL_ (ρ:=Int) (σ:=Int) (forN (fun (i3:Nat) (s3:Int)=>
 aa (idx a0.Args (i3:Int)) fun v16=>
 aa (slD_ n v16) fun v18=>
 aa (slM_2 s3 v18) fun v19=>
 some (.nx v19)) a0.Args.length 0 (0:Int)) fun s3=>
 some (IntKind.i64.wrap (s3+1))
def slD_1(a0:Tt):Option Int:=lim fun n=>slD_ n a0

def slF_3(a0:Tt):Option Bool:=
 aa (slM_4 a0 30) fun v4=>
 bif decide (v4≤30) then
 aa (slD_1 a0) fun v8=>
 some (decide (v8≤8))
 else
 some false

def slI_4(a0:Int)(a1:Int)(a2:Int):Option Bool:=
 bif decide (a1≤a0) then
 some (decide (a0≤a2))
 else
 some false

def slS_6(a0:Int):Option Bool:=
 bif decide (97≤a0) then
 bif decide (a0≤122) then
 some true
 else
 bif decide (48≤a0) then
 some (decide (a0≤57))
 else
 some false
 else
 bif decide (48≤a0) then
 some (decide (a0≤57))
 else
 some false

def slV_(a0:ByteArray):Option Bool:=
 aa (slI_4 (a0.size:Int) 1 4) fun v6=>
 bif v6 then
 aa (sidx a0 (0:Int)) fun v10=>
 bif decide (v10<65) then
 some false
 else
 aa (sidx a0 (0:Int)) fun v15=>
 bif decide (90<v15) then
 some false
 else
 aa (bnd (a0.size:Int)) fun N4=>
 tL_ (ρ:=Bool) (σ:=Unit) (forN (fun (i4:Nat) (s4:Unit)=>
 aa (sidx a0 (i4:Int)) fun v26=>
 aa (slS_6 v26) fun v27=>
 bif v27 then
 some (.nx ())
 else
 some (.rt false)) (N4-1) 1 ()) fun s4=>
 some true
 else
 some false

def slS_4(a0:ByteArray):Option Bool:=
 aa (slI_4 (a0.size:Int) 1 6) fun v6=>
 bif v6 then
 aa (sidx a0 (0:Int)) fun v10=>
 bif decide (v10<97) then
 some false
 else
 aa (sidx a0 (0:Int)) fun v15=>
 bif decide (122<v15) then
 some false
 else
 bif decide (a0=(⟨#[116,114,117,101]⟩:ByteArray)) then
 some false
 else
 bif decide (a0=(⟨#[102,97,108,115,101]⟩:ByteArray)) then
 some false
 else
 bif decide (a0=(⟨#[116,114,117,116,104]⟩:ByteArray)) then
 some false
 else
 bif decide (a0=(⟨#[98,111,116,104]⟩:ByteArray)) then
 some false
 else
 bif decide (a0=(⟨#[101,105,116,104,101,114]⟩:ByteArray)) then
 some false
 else
 bif decide (a0=(⟨#[105,102]⟩:ByteArray)) then
 some false
 else
 bif decide (a0=(⟨#[97,108,108]⟩:ByteArray)) then
 some false
 else
 bif decide (a0=(⟨#[115,111,109,101]⟩:ByteArray)) then
 some false
 else
 aa (bnd (a0.size:Int)) fun N14=>
 tL_ (ρ:=Bool) (σ:=Unit) (forN (fun (i14:Nat) (s14:Unit)=>
 aa (sidx a0 (i14:Int)) fun v36=>
 aa (slS_6 v36) fun v37=>
 bif v37 then
 some (.nx ())
 else
 aa (sidx a0 (i14:Int)) fun v42=>
 bif decide (v42=95) then
 some (.nx ())
 else
 some (.rt false)) (N14-1) 1 ()) fun s14=>
 some true
 else
 some false

def slN_4:Nat→Tt→Option Bool
 | 0,_=>none
 | n+1,a0=>
 aa (slV_ a0.Name) fun v6=>
 bif v6 then
 some (decide ((a0.Args.length:Int)=0))
 else
 aa (slS_4 a0.Name) fun v13=>
 bif v13 then
 bif decide (4<(a0.Args.length:Int)) then
 some false
 else
 tL_ (ρ:=Bool) (σ:=Unit) (forN (fun (i6:Nat) (s6:Unit)=>
 aa (idx a0.Args (i6:Int)) fun v31=>
 aa (slN_4 n v31) fun v33=>
 bif v33 then
 some (.nx ())
 else
 some (.rt false)) a0.Args.length 0 ()) fun s6=>
 some true
 else
 some false
def slN_7(a0:Tt):Option Bool:=lim fun n=>slN_4 n a0

def slG_2(a0:Tt):Option Bool:=
 aa (slF_3 a0) fun v4=>
 bif v4 then
 aa (slN_7 a0) fun v7=>
 some v7
 else
 some false

def slA_1(a0:Tt):Option Bool:=
 bif decide (a0.Name=(⟨#[61]⟩:ByteArray)) then
 bif decide ((a0.Args.length:Int)=2) then
 aa (slF_3 a0) fun v12=>
 bif v12 then
 aa (idx a0.Args 0) fun v17=>
 aa (slN_7 v17) fun v19=>
 bif v19 then
 aa (idx a0.Args 1) fun v24=>
 aa (slN_7 v24) fun v26=>
 some v26
 else
 some false
 else
 some false
 else
 some false
 else
 aa (slS_4 a0.Name) fun v30=>
 bif v30 then
 aa (slG_2 a0) fun v33=>
 some v33
 else
 some false

def slF_4(a0:Ft):Option Bool:=
 bif decide (a0.Op=1) then
 bif decide ((a0.Parts.length:Int)=0) then
 aa (slN_3 a0.Atom) fun v17=>
 bif v17 then
 some (decide (a0.Var=(⟨#[]⟩:ByteArray)))
 else
 some false
 else
 some false
 else
 bif decide (a0.Op=2) then
 bif decide ((a0.Parts.length:Int)=0) then
 aa (slN_3 a0.Atom) fun v17=>
 bif v17 then
 some (decide (a0.Var=(⟨#[]⟩:ByteArray)))
 else
 some false
 else
 some false
 else
 bif decide (a0.Op=3) then
 bif decide ((a0.Parts.length:Int)=0) then
 aa (slA_1 a0.Atom) fun v31=>
 bif v31 then
 some (decide (a0.Var=(⟨#[]⟩:ByteArray)))
 else
 some false
 else
 some false
 else
 bif decide (a0.Op=4) then
 bif decide ((a0.Parts.length:Int)=1) then
 aa (slN_3 a0.Atom) fun v45=>
 bif v45 then
 some (decide (a0.Var=(⟨#[]⟩:ByteArray)))
 else
 some false
 else
 some false
 else
 bif decide (a0.Op=5) then
 bif decide ((a0.Parts.length:Int)=2) then
 aa (slN_3 a0.Atom) fun v61=>
 bif v61 then
 some (decide (a0.Var=(⟨#[]⟩:ByteArray)))
 else
 some false
 else
 some false
 else
 bif decide (a0.Op=6) then
 bif decide ((a0.Parts.length:Int)=2) then
 aa (slN_3 a0.Atom) fun v61=>
 bif v61 then
 some (decide (a0.Var=(⟨#[]⟩:ByteArray)))
 else
 some false
 else
 some false
 else
 bif decide (a0.Op=7) then
 bif decide ((a0.Parts.length:Int)=2) then
 aa (slN_3 a0.Atom) fun v61=>
 bif v61 then
 some (decide (a0.Var=(⟨#[]⟩:ByteArray)))
 else
 some false
 else
 some false
 else
 bif decide (a0.Op=8) then
 bif decide ((a0.Parts.length:Int)=1) then
 aa (slN_3 a0.Atom) fun v76=>
 bif v76 then
 aa (slV_ a0.Var) fun v81=>
 some v81
 else
 some false
 else
 some false
 else
 bif decide (a0.Op=9) then
 bif decide ((a0.Parts.length:Int)=1) then
 aa (slN_3 a0.Atom) fun v76=>
 bif v76 then
 aa (slV_ a0.Var) fun v81=>
 some v81
 else
 some false
 else
 some false
 else
 some false

def slF_1:Nat→Ft→Option Bool
 | 0,_=>none
 | n+1,a0=>
 aa (slF_4 a0) fun v5=>
 bif v5 then
 tL_ (ρ:=Bool) (σ:=Unit) (forN (fun (i4:Nat) (s4:Unit)=>
 aa (idx a0.Parts (i4:Int)) fun v17=>
 aa (slF_1 n v17) fun v19=>
 bif v19 then
 some (.nx ())
 else
 some (.rt false)) a0.Parts.length 0 ()) fun s4=>
 some true
 else
 some false
def slF_7(a0:Ft):Option Bool:=lim fun n=>slF_1 n a0

def slG_1(a0:Ft):Option Bool:=
 aa (slM_3 a0 40) fun v4=>
 bif decide (v4≤40) then
 aa (slF_7 a0) fun v8=>
 some v8
 else
 some false

def slS_7(a0:List Ft):Option Bool:=
 tL_ (ρ:=Bool) (σ:=Unit) (forN (fun (i2:Nat) (s2:Unit)=>
 bif decide ((i2:Int)≤10) then
 aa (idx a0 (i2:Int)) fun v16=>
 aa (slG_1 v16) fun v18=>
 bif v18 then
 some (.nx ())
 else
 some (.rt false)
 else
 some (.rt (decide ((a0.length:Int)≤10)))) a0.length 0 ()) fun s2=>
 some (decide ((a0.length:Int)≤10))

def slG_(a0:Sa):Option Bool:=
 aa (slS_7 a0.Left) fun v5=>
 bif v5 then
 aa (slS_7 a0.Right) fun v9=>
 some v9
 else
 some false

def slS_2:Nat→Tt→Tt→Option Bool
 | 0,_,_=>none
 | n+1,a0,a1=>
 bif decide (a0.Name=a1.Name) then
 bif decide ((a0.Args.length:Int)=(a1.Args.length:Int)) then
 tL_ (ρ:=Bool) (σ:=Unit) (forN (fun (i4:Nat) (s4:Unit)=>
 aa (idx a0.Args (i4:Int)) fun v30=>
 aa (idx a1.Args (i4:Int)) fun v35=>
 aa (slS_2 n v30 v35) fun v37=>
 bif v37 then
 some (.nx ())
 else
 some (.rt false)) a0.Args.length 0 ()) fun s4=>
 some true
 else
 some false
 else
 some false
def slS_11(a0:Tt)(a1:Tt):Option Bool:=lim fun n=>slS_2 n a0 a1

def slS_1:Nat→Ft→Ft→Option Bool
 | 0,_,_=>none
 | n+1,a0,a1=>
 bif decide (a0.Op=a1.Op) then
 bif decide (a0.Var=a1.Var) then
 aa (slS_11 a0.Atom a1.Atom) fun v23=>
 bif v23 then
 bif decide ((a0.Parts.length:Int)=(a1.Parts.length:Int)) then
 tL_ (ρ:=Bool) (σ:=Unit) (forN (fun (i4:Nat) (s4:Unit)=>
 aa (idx a0.Parts (i4:Int)) fun v45=>
 aa (idx a1.Parts (i4:Int)) fun v50=>
 aa (slS_1 n v45 v50) fun v52=>
 bif v52 then
 some (.nx ())
 else
 some (.rt false)) a0.Parts.length 0 ()) fun s4=>
 some true
 else
 some false
 else
 some false
 else
 some false
 else
 some false
def slS_5(a0:Ft)(a1:Ft):Option Bool:=lim fun n=>slS_1 n a0 a1

def slO_9:Nat→Tt→Option Tt
 | 0,_=>none
 | n+1,a0=>
 tL_ (ρ:=Tt) (σ:=(List Tt)) (forN (fun (i3:Nat) (s3:(List Tt))=>
 aa (idx a0.Args (i3:Int)) fun v20=>
 aa (slO_9 n v20) fun v22=>
 aa (app s3 ([v22])) fun v24=>
 some (.nx v24)) a0.Args.length 0 ([])) fun s3=>
 some (Tt.mk a0.Name s3)
def slO_11(a0:Tt):Option Tt:=lim fun n=>slO_9 n a0

def slO_8:Nat→Ft→Option Ft
 | 0,_=>none
 | n+1,a0=>
 aa (slO_11 a0.Atom) fun v9=>
 tL_ (ρ:=Ft) (σ:=(List Ft)) (forN (fun (i3:Nat) (s3:(List Ft))=>
 aa (idx a0.Parts (i3:Int)) fun v25=>
 aa (slO_8 n v25) fun v27=>
 aa (app s3 ([v27])) fun v29=>
 some (.nx v29)) a0.Parts.length 0 ([])) fun s3=>
 some (Ft.mk a0.Op v9 a0.Var s3)
def slO_5(a0:Ft):Option Ft:=lim fun n=>slO_8 n a0

def slC_3(a0:List Ft)(a1:Int)(a2:List Ft):Option (List Ft):=
 tL_ (ρ:=(List Ft)) (σ:=(List Ft)) (forN (fun (i3:Nat) (s3:(List Ft))=>
 bif decide ((i3:Int)=a1) then
 some (.nx s3)
 else
 aa (idx a0 (i3:Int)) fun v23=>
 aa (slO_5 v23) fun v25=>
 aa (app s3 ([v25])) fun v27=>
 some (.nx v27)) a0.length 0 ([])) fun s3=>
 tL_ (ρ:=(List Ft)) (σ:=(List Ft)) (forN (fun (i8:Nat) (s8:(List Ft))=>
 aa (idx a2 (i8:Int)) fun v37=>
 aa (slO_5 v37) fun v39=>
 aa (app s8 ([v39])) fun v41=>
 some (.nx v41)) a2.length 0 s3) fun s8=>
 some s8

def slN_1(a0:Sa)(a1:Int)(a2:List Ft)(a3:Int)(a4:List Ft):Option Sa:=
 aa (slC_3 a0.Left a1 a2) fun v15=>
 aa (slC_3 a0.Right a3 a4) fun v20=>
 some (Sa.mk v15 v20)

def slO_(a0:Int):Option Bool:=
 bif decide (a0=1) then
 some true
 else
 bif decide (a0=3) then
 some true
 else
 bif decide (a0=5) then
 some true
 else
 bif decide (a0=7) then
 some true
 else
 bif decide (a0=9) then
 some true
 else
 bif decide (a0=11) then
 some true
 else
 bif decide (a0=13) then
 some true
 else
 some false

def slH_(a0:List Ft)(a1:Ft):Option Bool:=
 tL_ (ρ:=Bool) (σ:=Unit) (forN (fun (i2:Nat) (s2:Unit)=>
 aa (idx a0 (i2:Int)) fun v14=>
 aa (slS_5 v14 a1) fun v17=>
 bif v17 then
 some (.rt true)
 else
 some (.nx ())) a0.length 0 ()) fun s2=>
 some false

def slO_1(a0:Int):Option Int:=
 bif decide (a0=2) then
 some (1:Int)
 else
 bif decide (a0=3) then
 some (4:Int)
 else
 bif decide (a0=4) then
 some (4:Int)
 else
 bif decide (a0=5) then
 some (5:Int)
 else
 bif decide (a0=6) then
 some (5:Int)
 else
 bif decide (a0=7) then
 some (6:Int)
 else
 bif decide (a0=8) then
 some (6:Int)
 else
 bif decide (a0=9) then
 some (7:Int)
 else
 bif decide (a0=10) then
 some (7:Int)
 else
 bif decide (a0=11) then
 some (8:Int)
 else
 bif decide (a0=12) then
 some (8:Int)
 else
 bif decide (a0=13) then
 some (9:Int)
 else
 bif decide (a0=14) then
 some (9:Int)
 else
 some (0:Int)

def slP_5(a0:Sb)(a1:ByteArray)(a2:Tt):Option Sb:=
 bif decide (a2.Name=a1) then
 some a0
 else
 tL_ (ρ:=Sb) (σ:=Unit) (forN (fun (i4:Nat) (s4:Unit)=>
 aa (idx a0.Bindings (i4:Int)) fun v23=>
 bif Op.bytesLess v23.Var.data.toList a1.data.toList then
 some (.nx ())
 else
 aa (slc a0.Bindings (0:Int) (i4:Int)) fun v35=>
 aa (app ([]) v35) fun v36=>
 aa (slO_11 a2) fun v40=>
 aa (app v36 ([(Bt.mk a1 v40)])) fun v43=>
 aa (slc a0.Bindings (i4:Int) (a0.Bindings.length:Int)) fun v48=>
 aa (app v43 v48) fun v49=>
 some (.rt (Sb.mk v49))) a0.Bindings.length 0 ()) fun s4=>
 aa (slc a0.Bindings (0:Int) ((a0.Bindings.length:Nat):Int)) fun v35=>
 aa (app ([]) v35) fun v36=>
 aa (slO_11 a2) fun v40=>
 aa (app v36 ([(Bt.mk a1 v40)])) fun v43=>
 aa (slc a0.Bindings ((a0.Bindings.length:Nat):Int) (a0.Bindings.length:Int)) fun v48=>
 aa (app v43 v48) fun v49=>
 some (Sb.mk v49)

def slF_5(a0:Sb)(a1:ByteArray):Option Int:=
 tL_ (ρ:=Int) (σ:=Unit) (forN (fun (i2:Nat) (s2:Unit)=>
 aa (idx a0.Bindings (i2:Int)) fun v16=>
 bif decide (v16.Var=a1) then
 some (.rt (i2:Int))
 else
 some (.nx ())) a0.Bindings.length 0 ()) fun s2=>
 some (-1:Int)

def slA_:Nat→Sb→Tt→Option Tt
 | 0,_,_=>none
 | n+1,a0,a1=>
 aa (slV_ a1.Name) fun v10=>
 bif v10 then
 aa (slF_5 a0 a1.Name) fun v14=>
 bif decide (0≤v14) then
 aa (idx a0.Bindings v14) fun v20=>
 aa (slO_11 v20.Term) fun v23=>
 some v23
 else
 some (Tt.mk a1.Name ([]))
 else
 tL_ (ρ:=Tt) (σ:=(List Tt)) (forN (fun (i8:Nat) (s8:(List Tt))=>
 aa (idx a1.Args (i8:Int)) fun v43=>
 aa (slA_ n a0 v43) fun v45=>
 aa (app s8 ([v45])) fun v47=>
 some (.nx v47)) a1.Args.length 0 ([])) fun s8=>
 some (Tt.mk a1.Name s8)
def slA_2(a0:Sb)(a1:Tt):Option Tt:=lim fun n=>slA_ n a0 a1

def slP_2(a0:List ByteArray)(a1:ByteArray):Option (List ByteArray):=
 tL_ (ρ:=(List ByteArray)) (σ:=Unit) (forN (fun (i2:Nat) (s2:Unit)=>
 aa (idx a0 (i2:Int)) fun v13=>
 bif Op.bytesLess v13.data.toList a1.data.toList then
 some (.nx ())
 else
 aa (idx a0 (i2:Int)) fun v27=>
 bif decide (v27=a1) then
 some (.rt a0)
 else
 aa (slc a0 (0:Int) (i2:Int)) fun v36=>
 aa (app ([]) v36) fun v37=>
 aa (app v37 ([a1])) fun v40=>
 aa (slc a0 (i2:Int) (a0.length:Int)) fun v43=>
 aa (app v40 v43) fun v44=>
 some (.rt v44)) a0.length 0 ()) fun s2=>
 aa (slc a0 (0:Int) ((a0.length:Nat):Int)) fun v36=>
 aa (app ([]) v36) fun v37=>
 aa (app v37 ([a1])) fun v40=>
 aa (slc a0 ((a0.length:Nat):Int) (a0.length:Int)) fun v43=>
 aa (app v40 v43) fun v44=>
 some v44

def slI_3:Nat→(List ByteArray)→Tt→Option (List ByteArray)
 | 0,_,_=>none
 | n+1,a0,a1=>
 aa (slV_ a1.Name) fun v8=>
 bif v8 then
 aa (slP_2 a0 a1.Name) fun v12=>
 some v12
 else
 tL_ (ρ:=(List ByteArray)) (σ:=(List ByteArray)) (forN (fun (i4:Nat) (s4:(List ByteArray))=>
 aa (idx a1.Args (i4:Int)) fun v24=>
 aa (slI_3 n s4 v24) fun v26=>
 some (.nx v26)) a1.Args.length 0 a0) fun s4=>
 some s4
def slI_11(a0:List ByteArray)(a1:Tt):Option (List ByteArray):=lim fun n=>slI_3 n a0 a1

def slV_1(a0:Tt):Option (List ByteArray):=
 aa (slI_11 ([]) a0) fun v5=>
 some v5

def slI_5(a0:List ByteArray)(a1:ByteArray):Option Bool:=
 tL_ (ρ:=Bool) (σ:=Unit) (forN (fun (i2:Nat) (s2:Unit)=>
 aa (idx a0 (i2:Int)) fun v14=>
 bif decide (v14=a1) then
 some (.rt true)
 else
 some (.nx ())) a0.length 0 ()) fun s2=>
 some false

def slI_1:Nat→(List ByteArray)→Ft→(List ByteArray)→Option (List ByteArray)
 | 0,_,_,_=>none
 | n+1,a0,a1,a2=>
 bif decide (a1.Op=3) then
 aa (slV_1 a1.Atom) fun v15=>
 tL_ (ρ:=(List ByteArray)) (σ:=(List ByteArray)) (forN (fun (i4:Nat) (s4:(List ByteArray))=>
 aa (idx v15 (i4:Int)) fun v25=>
 aa (slI_5 a2 v25) fun v27=>
 bif v27 then
 some (.nx s4)
 else
 aa (idx v15 (i4:Int)) fun v32=>
 aa (slP_2 s4 v32) fun v34=>
 some (.nx v34)) v15.length 0 a0) fun s4=>
 bif decide (a1.Op=8) then
 aa (app ([]) a2) fun v45=>
 aa (app v45 ([a1.Var])) fun v49=>
 tL_ (ρ:=(List ByteArray)) (σ:=(List ByteArray)) (forN (fun (i11:Nat) (s11:(List ByteArray))=>
 aa (idx a1.Parts (i11:Int)) fun v61=>
 aa (slI_1 n s11 v61 v49) fun v64=>
 some (.nx v64)) a1.Parts.length 0 s4) fun s11=>
 some s11
 else
 bif decide (a1.Op=9) then
 aa (app ([]) a2) fun v45=>
 aa (app v45 ([a1.Var])) fun v49=>
 tL_ (ρ:=(List ByteArray)) (σ:=(List ByteArray)) (forN (fun (i11:Nat) (s11:(List ByteArray))=>
 aa (idx a1.Parts (i11:Int)) fun v61=>
 aa (slI_1 n s11 v61 v49) fun v64=>
 some (.nx v64)) a1.Parts.length 0 s4) fun s11=>
 some s11
 else
 tL_ (ρ:=(List ByteArray)) (σ:=(List ByteArray)) (forN (fun (i11:Nat) (s11:(List ByteArray))=>
 aa (idx a1.Parts (i11:Int)) fun v61=>
 aa (slI_1 n s11 v61 a2) fun v64=>
 some (.nx v64)) a1.Parts.length 0 s4) fun s11=>
 some s11
 else
 bif decide (a1.Op=8) then
 aa (app ([]) a2) fun v45=>
 aa (app v45 ([a1.Var])) fun v49=>
 tL_ (ρ:=(List ByteArray)) (σ:=(List ByteArray)) (forN (fun (i11:Nat) (s11:(List ByteArray))=>
 aa (idx a1.Parts (i11:Int)) fun v61=>
 aa (slI_1 n s11 v61 v49) fun v64=>
 some (.nx v64)) a1.Parts.length 0 a0) fun s11=>
 some s11
 else
 bif decide (a1.Op=9) then
 aa (app ([]) a2) fun v45=>
 aa (app v45 ([a1.Var])) fun v49=>
 tL_ (ρ:=(List ByteArray)) (σ:=(List ByteArray)) (forN (fun (i11:Nat) (s11:(List ByteArray))=>
 aa (idx a1.Parts (i11:Int)) fun v61=>
 aa (slI_1 n s11 v61 v49) fun v64=>
 some (.nx v64)) a1.Parts.length 0 a0) fun s11=>
 some s11
 else
 tL_ (ρ:=(List ByteArray)) (σ:=(List ByteArray)) (forN (fun (i11:Nat) (s11:(List ByteArray))=>
 aa (idx a1.Parts (i11:Int)) fun v61=>
 aa (slI_1 n s11 v61 a2) fun v64=>
 some (.nx v64)) a1.Parts.length 0 a0) fun s11=>
 some s11
def slI_7(a0:List ByteArray)(a1:Ft)(a2:List ByteArray):Option (List ByteArray):=lim fun n=>slI_1 n a0 a1 a2

def slF_2(a0:Ft):Option (List ByteArray):=
 aa (slI_7 ([]) a0 ([])) fun v6=>
 some v6

def slP_1:Nat→Ft→ByteArray→Tt→Option (Ft×Bool)
 | 0,_,_,_=>none
 | n+1,a0,a1,a2=>
 bif decide (a0.Op=3) then
 aa (slP_5 (Sb.mk ([])) a1 a2) fun v23=>
 aa (slA_2 v23 a0.Atom) fun v26=>
 aa (slA_1 v26) fun v31=>
 some ((Ft.mk a0.Op v26 a0.Var ([])),v31)
 else
 bif decide (a0.Op=8) then
 bif decide (a0.Var=a1) then
 aa (slO_5 a0) fun v55=>
 some (v55,true)
 else
 aa (idx a0.Parts 0) fun v47=>
 aa (slF_2 v47) fun v49=>
 aa (slI_5 v49 a1) fun v51=>
 bif v51 then
 aa (slV_1 a2) fun v57=>
 aa (slI_5 v57 a0.Var) fun v60=>
 bif v60 then
 some ((Ft.mk a0.Op (Tt.mk ⟨#[]⟩ ([])) a0.Var ([])),false)
 else
 tL_ (ρ:=(Ft×Bool)) (σ:=(List Ft)) (forN (fun (i11:Nat) (s11:(List Ft))=>
 aa (idx a0.Parts (i11:Int)) fun v73=>
 aa (slP_1 n v73 a1 a2) fun v77=>
 bif v77.2 then
 aa (app s11 ([v77.1])) fun v87=>
 some (.nx v87)
 else
 some (.rt ((Ft.mk a0.Op (Tt.mk ⟨#[]⟩ ([])) a0.Var s11),false))) a0.Parts.length 0 ([])) fun s11=>
 some ((Ft.mk a0.Op (Tt.mk ⟨#[]⟩ ([])) a0.Var s11),true)
 else
 aa (slO_5 a0) fun v55=>
 some (v55,true)
 else
 bif decide (a0.Op=9) then
 bif decide (a0.Var=a1) then
 aa (slO_5 a0) fun v55=>
 some (v55,true)
 else
 aa (idx a0.Parts 0) fun v47=>
 aa (slF_2 v47) fun v49=>
 aa (slI_5 v49 a1) fun v51=>
 bif v51 then
 aa (slV_1 a2) fun v57=>
 aa (slI_5 v57 a0.Var) fun v60=>
 bif v60 then
 some ((Ft.mk a0.Op (Tt.mk ⟨#[]⟩ ([])) a0.Var ([])),false)
 else
 tL_ (ρ:=(Ft×Bool)) (σ:=(List Ft)) (forN (fun (i11:Nat) (s11:(List Ft))=>
 aa (idx a0.Parts (i11:Int)) fun v73=>
 aa (slP_1 n v73 a1 a2) fun v77=>
 bif v77.2 then
 aa (app s11 ([v77.1])) fun v87=>
 some (.nx v87)
 else
 some (.rt ((Ft.mk a0.Op (Tt.mk ⟨#[]⟩ ([])) a0.Var s11),false))) a0.Parts.length 0 ([])) fun s11=>
 some ((Ft.mk a0.Op (Tt.mk ⟨#[]⟩ ([])) a0.Var s11),true)
 else
 aa (slO_5 a0) fun v55=>
 some (v55,true)
 else
 tL_ (ρ:=(Ft×Bool)) (σ:=(List Ft)) (forN (fun (i11:Nat) (s11:(List Ft))=>
 aa (idx a0.Parts (i11:Int)) fun v73=>
 aa (slP_1 n v73 a1 a2) fun v77=>
 bif v77.2 then
 aa (app s11 ([v77.1])) fun v87=>
 some (.nx v87)
 else
 some (.rt ((Ft.mk a0.Op (Tt.mk ⟨#[]⟩ ([])) a0.Var s11),false))) a0.Parts.length 0 ([])) fun s11=>
 some ((Ft.mk a0.Op (Tt.mk ⟨#[]⟩ ([])) a0.Var s11),true)
def slP_8(a0:Ft)(a1:ByteArray)(a2:Tt):Option (Ft×Bool):=lim fun n=>slP_1 n a0 a1 a2

def slN_8(a0:Sa):Option (List ByteArray):=
 tL_ (ρ:=(List ByteArray)) (σ:=(List ByteArray)) (forN (fun (i3:Nat) (s3:(List ByteArray))=>
 aa (idx a0.Left (i3:Int)) fun v18=>
 aa (slI_7 s3 v18 ([])) fun v21=>
 some (.nx v21)) a0.Left.length 0 ([])) fun s3=>
 tL_ (ρ:=(List ByteArray)) (σ:=(List ByteArray)) (forN (fun (i7:Nat) (s7:(List ByteArray))=>
 aa (idx a0.Right (i7:Int)) fun v33=>
 aa (slI_7 s7 v33 ([])) fun v36=>
 some (.nx v36)) a0.Right.length 0 s3) fun s7=>
 some s7

def slQ_(a0:Sa)(a1:Int)(a2:Int)(a3:Ft)(a4:Tt):Option ((List Sa)×Bool):=
 aa (slG_2 a4) fun v17=>
 bif v17 then
 aa (idx a3.Parts 0) fun v23=>
 aa (slP_8 v23 a3.Var a4) fun v28=>
 bif v28.2 then
 bif decide (a1=11) then
 aa (slN_1 a0 (-1) ([v28.1]) (-1) ([])) fun v43=>
 some ([v43],true)
 else
 bif decide (a1=14) then
 aa (slN_1 a0 (-1) ([]) (-1) ([v28.1])) fun v50=>
 some ([v50],true)
 else
 aa (slV_ a4.Name) fun v54=>
 bif v54 then
 aa (slN_8 a0) fun v58=>
 aa (slI_5 v58 a4.Name) fun v61=>
 bif v61 then
 some ([],false)
 else
 bif decide (a1=12) then
 aa (slN_1 a0 (-1) ([]) a2 ([v28.1])) fun v70=>
 some ([v70],true)
 else
 aa (slN_1 a0 a2 ([v28.1]) (-1) ([])) fun v76=>
 some ([v76],true)
 else
 some ([],false)
 else
 some ([],false)
 else
 some ([],false)

def slP_(a0:Sa)(a1:Int)(a2:Int)(a3:List Ft):Option (List Sa):=
 aa (slc a3 (0:Int) (1:Int)) fun v14=>
 bif decide (a1=3) then
 aa (slN_1 a0 a2 ([]) (-1) v14) fun v22=>
 some ([v22])
 else
 bif decide (a1=4) then
 aa (slN_1 a0 (-1) v14 a2 ([])) fun v30=>
 some ([v30])
 else
 aa (slc a3 (1:Int) (2:Int)) fun v33=>
 bif decide (a1=5) then
 aa (slN_1 a0 a2 a3 (-1) ([])) fun v41=>
 some ([v41])
 else
 bif decide (a1=6) then
 aa (slN_1 a0 (-1) ([]) a2 v14) fun v49=>
 aa (slN_1 a0 (-1) ([]) a2 v33) fun v54=>
 some ([v49,v54])
 else
 bif decide (a1=7) then
 aa (slN_1 a0 a2 v14 (-1) ([])) fun v62=>
 aa (slN_1 a0 a2 v33 (-1) ([])) fun v67=>
 some ([v62,v67])
 else
 bif decide (a1=8) then
 aa (slN_1 a0 (-1) ([]) a2 a3) fun v75=>
 some ([v75])
 else
 bif decide (a1=9) then
 aa (slN_1 a0 a2 ([]) (-1) v14) fun v83=>
 aa (slN_1 a0 a2 v33 (-1) ([])) fun v88=>
 some ([v83,v88])
 else
 aa (slN_1 a0 (-1) v14 a2 v33) fun v94=>
 some ([v94])

def slR_(a0:Sa)(a1:Dt):Option ((List Sa)×Bool):=
 aa (slI_4 a1.Rule 11 14) fun v14=>
 bif v14 then
 bif decide (a1.Rule=15) then
 aa (slN_1 a0 (-1) ([]) (-1) ([a1.Cut])) fun v46=>
 aa (slN_1 a0 (-1) ([a1.Cut]) (-1) ([])) fun v50=>
 bif decide (a1.Main=0) then
 aa (slG_1 a1.Cut) fun v58=>
 some ([v46,v50],v58)
 else
 some ([v46,v50],false)
 else
 aa (slS_5 a1.Cut (Ft.mk 0 (Tt.mk ⟨#[]⟩ ([])) (⟨#[]⟩:ByteArray) ([]))) fun v32=>
 bif v32 then
 aa (slO_ a1.Rule) fun v64=>
 bif v64 then
 aa (slI_4 a1.Rule 1 15) fun v69=>
 bif v69 then
 aa (slI_4 a1.Main 0 (IntKind.i64.wrap ((a0.Left.length:Int)-1))) fun v77=>
 bif v77 then
 aa (idx a0.Left a1.Main) fun v84=>
 bif decide (a1.Rule=1) then
 bif decide (v84.Op=2) then
 some ([],true)
 else
 aa (slH_ a0.Right v84) fun v97=>
 some ([],v97)
 else
 aa (slO_1 a1.Rule) fun v103=>
 bif decide (v84.Op=v103) then
 bif decide (a1.Rule=2) then
 some ([],true)
 else
 aa (slQ_ a0 a1.Rule a1.Main v84 a1.Term) fun v119=>
 some (v119.1,v119.2)
 else
 some ([],false)
 else
 some ([],false)
 else
 some ([],false)
 else
 aa (slI_4 a1.Rule 1 15) fun v69=>
 bif v69 then
 aa (slI_4 a1.Main 0 (IntKind.i64.wrap ((a0.Right.length:Int)-1))) fun v77=>
 bif v77 then
 aa (idx a0.Right a1.Main) fun v84=>
 bif decide (a1.Rule=1) then
 bif decide (v84.Op=2) then
 some ([],true)
 else
 aa (slH_ a0.Right v84) fun v97=>
 some ([],v97)
 else
 aa (slO_1 a1.Rule) fun v103=>
 bif decide (v84.Op=v103) then
 bif decide (a1.Rule=2) then
 some ([],true)
 else
 aa (slQ_ a0 a1.Rule a1.Main v84 a1.Term) fun v119=>
 some (v119.1,v119.2)
 else
 some ([],false)
 else
 some ([],false)
 else
 some ([],false)
 else
 some ([],false)
 else
 aa (slS_11 a1.Term (Tt.mk ⟨#[]⟩ ([]))) fun v21=>
 bif v21 then
 bif decide (a1.Rule=15) then
 aa (slN_1 a0 (-1) ([]) (-1) ([a1.Cut])) fun v46=>
 aa (slN_1 a0 (-1) ([a1.Cut]) (-1) ([])) fun v50=>
 bif decide (a1.Main=0) then
 aa (slG_1 a1.Cut) fun v58=>
 some ([v46,v50],v58)
 else
 some ([v46,v50],false)
 else
 aa (slS_5 a1.Cut (Ft.mk 0 (Tt.mk ⟨#[]⟩ ([])) (⟨#[]⟩:ByteArray) ([]))) fun v32=>
 bif v32 then
 aa (slO_ a1.Rule) fun v64=>
 bif v64 then
 aa (slI_4 a1.Rule 1 15) fun v69=>
 bif v69 then
 aa (slI_4 a1.Main 0 (IntKind.i64.wrap ((a0.Left.length:Int)-1))) fun v77=>
 bif v77 then
 aa (idx a0.Left a1.Main) fun v84=>
 bif decide (a1.Rule=1) then
 bif decide (v84.Op=2) then
 some ([],true)
 else
 aa (slH_ a0.Right v84) fun v97=>
 some ([],v97)
 else
 aa (slO_1 a1.Rule) fun v103=>
 bif decide (v84.Op=v103) then
 bif decide (a1.Rule=2) then
 some ([],true)
 else
 aa (slP_ a0 a1.Rule a1.Main v84.Parts) fun v129=>
 some (v129,true)
 else
 some ([],false)
 else
 some ([],false)
 else
 some ([],false)
 else
 aa (slI_4 a1.Rule 1 15) fun v69=>
 bif v69 then
 aa (slI_4 a1.Main 0 (IntKind.i64.wrap ((a0.Right.length:Int)-1))) fun v77=>
 bif v77 then
 aa (idx a0.Right a1.Main) fun v84=>
 bif decide (a1.Rule=1) then
 bif decide (v84.Op=2) then
 some ([],true)
 else
 aa (slH_ a0.Right v84) fun v97=>
 some ([],v97)
 else
 aa (slO_1 a1.Rule) fun v103=>
 bif decide (v84.Op=v103) then
 bif decide (a1.Rule=2) then
 some ([],true)
 else
 aa (slP_ a0 a1.Rule a1.Main v84.Parts) fun v129=>
 some (v129,true)
 else
 some ([],false)
 else
 some ([],false)
 else
 some ([],false)
 else
 some ([],false)
 else
 some ([],false)

def slP_3(a0:Sa)(a1:Dt):Option ((List Sa)×Bool):=
 aa (slR_ a0 a1) fun v12=>
 tL_ (ρ:=((List Sa)×Bool)) (σ:=Bool) (forN (fun (i3:Nat) (s3:Bool)=>
 bif s3 then
 aa (idx v12.1 (i3:Int)) fun v25=>
 aa (slG_ v25) fun v27=>
 some (.nx v27)
 else
 some (.nx false)) v12.1.length 0 v12.2) fun s3=>
 bif s3 then
 some (v12.1,true)
 else
 some ([],false)

def slS_3(a0:List Ft)(a1:List Ft):Option Bool:=
 bif decide ((a0.length:Int)=(a1.length:Int)) then
 tL_ (ρ:=Bool) (σ:=Unit) (forN (fun (i4:Nat) (s4:Unit)=>
 aa (idx a0 (i4:Int)) fun v19=>
 aa (idx a1 (i4:Int)) fun v23=>
 aa (slS_5 v19 v23) fun v25=>
 bif v25 then
 some (.nx ())
 else
 some (.rt false)) a0.length 0 ()) fun s4=>
 some true
 else
 some false

def slS_8(a0:Sa)(a1:Sa):Option Bool:=
 aa (slS_3 a0.Left a1.Left) fun v9=>
 bif v9 then
 aa (slS_3 a0.Right a1.Right) fun v15=>
 some v15
 else
 some false

def slN_6(a0:Dt):Option Bool:=
 aa (slG_ a0.Sequent) fun v8=>
 bif v8 then
 aa (slP_3 a0.Sequent a0) fun v14=>
 bif v14.2 then
 bif decide ((v14.1.length:Int)=(a0.Parts.length:Int)) then
 tL_ (ρ:=Bool) (σ:=Unit) (forN (fun (i7:Nat) (s7:Unit)=>
 aa (idx v14.1 (i7:Int)) fun v35=>
 aa (idx a0.Parts (i7:Int)) fun v40=>
 aa (slS_8 v35 v40.Sequent) fun v43=>
 bif v43 then
 some (.nx ())
 else
 some (.rt false)) v14.1.length 0 ()) fun s7=>
 some true
 else
 some false
 else
 some false
 else
 some false

def slO_13(a0:List Int):Option (List Int):=
 aa (app ([]) a0) fun v5=>
 some v5

def slW_:Nat→Dt→(List Int)→Option ((List Int)×Bool)
 | 0,_,_=>none
 | n+1,a0,a1=>
 aa (slN_6 a0) fun v10=>
 bif v10 then
 tL_ (ρ:=((List Int)×Bool)) (σ:=Unit) (forN (fun (i4:Nat) (s4:Unit)=>
 aa (idx a0.Parts (i4:Int)) fun v24=>
 aa (slO_13 a1) fun v27=>
 aa (app v27 ([(i4:Int)])) fun v30=>
 aa (slW_ n v24 v30) fun v31=>
 bif v31.2 then
 some (.rt (v31.1,true))
 else
 some (.nx ())) a0.Parts.length 0 ()) fun s4=>
 some ([],false)
 else
 some (a1,true)
def slW_1(a0:Dt)(a1:List Int):Option ((List Int)×Bool):=lim fun n=>slW_ n a0 a1

def slV_2(a0:Dt):Option Bool:=
 aa (slS_15 a0 60) fun v6=>
 bif decide (60<v6) then
 some false
 else
 aa (slW_1 a0 ([])) fun v11=>
 some (!v11.2)

def slO_6:Nat→Dt→Option Dt
 | 0,_=>none
 | n+1,a0=>
 aa (slO_11 a0.Term) fun v13=>
 aa (slO_5 a0.Cut) fun v16=>
 aa (slN_1 a0.Sequent (-1) ([]) (-1) ([])) fun v21=>
 tL_ (ρ:=Dt) (σ:=(List Dt)) (forN (fun (i4:Nat) (s4:(List Dt))=>
 aa (idx a0.Parts (i4:Int)) fun v35=>
 aa (slO_6 n v35) fun v37=>
 aa (app s4 ([v37])) fun v39=>
 some (.nx v39)) a0.Parts.length 0 ([])) fun s4=>
 some (Dt.mk a0.Rule v21 a0.Main v13 v16 s4)
def slO_4(a0:Dt):Option Dt:=lim fun n=>slO_6 n a0

def slC_1(a0:Dt):Option (Dt×Bool):=
 aa (idx a0.Parts 0) fun v13=>
 aa (idx a0.Parts 1) fun v17=>
 aa (slN_1 a0.Sequent (-1) ([]) (-1) ([])) fun v23=>
 bif decide (v13.Rule=1) then
 aa (idx a0.Sequent.Left v13.Main) fun v35=>
 bif decide (v35.Op=2) then
 some ((Dt.mk 1 v23 v13.Main (Tt.mk ⟨#[]⟩ ([])) (Ft.mk 0 (Tt.mk ⟨#[]⟩ ([])) (⟨#[]⟩:ByteArray) ([])) ([])),true)
 else
 aa (idx a0.Sequent.Left v13.Main) fun v46=>
 aa (slH_ a0.Sequent.Right v46) fun v48=>
 bif v48 then
 some ((Dt.mk 1 v23 v13.Main (Tt.mk ⟨#[]⟩ ([])) (Ft.mk 0 (Tt.mk ⟨#[]⟩ ([])) (⟨#[]⟩:ByteArray) ([])) ([])),true)
 else
 bif decide (v13.Rule=2) then
 bif decide (v13.Main<(a0.Sequent.Right.length:Int)) then
 some ((Dt.mk 2 v23 v13.Main (Tt.mk ⟨#[]⟩ ([])) (Ft.mk 0 (Tt.mk ⟨#[]⟩ ([])) (⟨#[]⟩:ByteArray) ([])) ([])),true)
 else
 bif decide (v17.Rule=1) then
 bif decide (v17.Main<(a0.Sequent.Left.length:Int)) then
 some ((Dt.mk 1 v23 v17.Main (Tt.mk ⟨#[]⟩ ([])) (Ft.mk 0 (Tt.mk ⟨#[]⟩ ([])) (⟨#[]⟩:ByteArray) ([])) ([])),true)
 else
 bif decide (v17.Rule=2) then
 some ((Dt.mk 2 v23 v17.Main (Tt.mk ⟨#[]⟩ ([])) (Ft.mk 0 (Tt.mk ⟨#[]⟩ ([])) (⟨#[]⟩:ByteArray) ([])) ([])),true)
 else
 some ((Dt.mk 0 (Sa.mk ([]) ([])) (0:Int) (Tt.mk ⟨#[]⟩ ([])) (Ft.mk 0 (Tt.mk ⟨#[]⟩ ([])) (⟨#[]⟩:ByteArray) ([])) ([])),false)
 else
 bif decide (v17.Rule=2) then
 some ((Dt.mk 2 v23 v17.Main (Tt.mk ⟨#[]⟩ ([])) (Ft.mk 0 (Tt.mk ⟨#[]⟩ ([])) (⟨#[]⟩:ByteArray) ([])) ([])),true)
 else
 some ((Dt.mk 0 (Sa.mk ([]) ([])) (0:Int) (Tt.mk ⟨#[]⟩ ([])) (Ft.mk 0 (Tt.mk ⟨#[]⟩ ([])) (⟨#[]⟩:ByteArray) ([])) ([])),false)
 else
 bif decide (v17.Rule=1) then
 bif decide (v17.Main<(a0.Sequent.Left.length:Int)) then
 some ((Dt.mk 1 v23 v17.Main (Tt.mk ⟨#[]⟩ ([])) (Ft.mk 0 (Tt.mk ⟨#[]⟩ ([])) (⟨#[]⟩:ByteArray) ([])) ([])),true)
 else
 bif decide (v17.Rule=2) then
 some ((Dt.mk 2 v23 v17.Main (Tt.mk ⟨#[]⟩ ([])) (Ft.mk 0 (Tt.mk ⟨#[]⟩ ([])) (⟨#[]⟩:ByteArray) ([])) ([])),true)
 else
 some ((Dt.mk 0 (Sa.mk ([]) ([])) (0:Int) (Tt.mk ⟨#[]⟩ ([])) (Ft.mk 0 (Tt.mk ⟨#[]⟩ ([])) (⟨#[]⟩:ByteArray) ([])) ([])),false)
 else
 bif decide (v17.Rule=2) then
 some ((Dt.mk 2 v23 v17.Main (Tt.mk ⟨#[]⟩ ([])) (Ft.mk 0 (Tt.mk ⟨#[]⟩ ([])) (⟨#[]⟩:ByteArray) ([])) ([])),true)
 else
 some ((Dt.mk 0 (Sa.mk ([]) ([])) (0:Int) (Tt.mk ⟨#[]⟩ ([])) (Ft.mk 0 (Tt.mk ⟨#[]⟩ ([])) (⟨#[]⟩:ByteArray) ([])) ([])),false)
 else
 bif decide (v13.Rule=2) then
 bif decide (v13.Main<(a0.Sequent.Right.length:Int)) then
 some ((Dt.mk 2 v23 v13.Main (Tt.mk ⟨#[]⟩ ([])) (Ft.mk 0 (Tt.mk ⟨#[]⟩ ([])) (⟨#[]⟩:ByteArray) ([])) ([])),true)
 else
 bif decide (v17.Rule=1) then
 bif decide (v17.Main<(a0.Sequent.Left.length:Int)) then
 some ((Dt.mk 1 v23 v17.Main (Tt.mk ⟨#[]⟩ ([])) (Ft.mk 0 (Tt.mk ⟨#[]⟩ ([])) (⟨#[]⟩:ByteArray) ([])) ([])),true)
 else
 bif decide (v17.Rule=2) then
 some ((Dt.mk 2 v23 v17.Main (Tt.mk ⟨#[]⟩ ([])) (Ft.mk 0 (Tt.mk ⟨#[]⟩ ([])) (⟨#[]⟩:ByteArray) ([])) ([])),true)
 else
 some ((Dt.mk 0 (Sa.mk ([]) ([])) (0:Int) (Tt.mk ⟨#[]⟩ ([])) (Ft.mk 0 (Tt.mk ⟨#[]⟩ ([])) (⟨#[]⟩:ByteArray) ([])) ([])),false)
 else
 bif decide (v17.Rule=2) then
 some ((Dt.mk 2 v23 v17.Main (Tt.mk ⟨#[]⟩ ([])) (Ft.mk 0 (Tt.mk ⟨#[]⟩ ([])) (⟨#[]⟩:ByteArray) ([])) ([])),true)
 else
 some ((Dt.mk 0 (Sa.mk ([]) ([])) (0:Int) (Tt.mk ⟨#[]⟩ ([])) (Ft.mk 0 (Tt.mk ⟨#[]⟩ ([])) (⟨#[]⟩:ByteArray) ([])) ([])),false)
 else
 bif decide (v17.Rule=1) then
 bif decide (v17.Main<(a0.Sequent.Left.length:Int)) then
 some ((Dt.mk 1 v23 v17.Main (Tt.mk ⟨#[]⟩ ([])) (Ft.mk 0 (Tt.mk ⟨#[]⟩ ([])) (⟨#[]⟩:ByteArray) ([])) ([])),true)
 else
 bif decide (v17.Rule=2) then
 some ((Dt.mk 2 v23 v17.Main (Tt.mk ⟨#[]⟩ ([])) (Ft.mk 0 (Tt.mk ⟨#[]⟩ ([])) (⟨#[]⟩:ByteArray) ([])) ([])),true)
 else
 some ((Dt.mk 0 (Sa.mk ([]) ([])) (0:Int) (Tt.mk ⟨#[]⟩ ([])) (Ft.mk 0 (Tt.mk ⟨#[]⟩ ([])) (⟨#[]⟩:ByteArray) ([])) ([])),false)
 else
 bif decide (v17.Rule=2) then
 some ((Dt.mk 2 v23 v17.Main (Tt.mk ⟨#[]⟩ ([])) (Ft.mk 0 (Tt.mk ⟨#[]⟩ ([])) (⟨#[]⟩:ByteArray) ([])) ([])),true)
 else
 some ((Dt.mk 0 (Sa.mk ([]) ([])) (0:Int) (Tt.mk ⟨#[]⟩ ([])) (Ft.mk 0 (Tt.mk ⟨#[]⟩ ([])) (⟨#[]⟩:ByteArray) ([])) ([])),false)

def slC_(a0:Sa)(a1:Ft)(a2:Dt)(a3:Dt):Option Dt:=
 aa (slO_5 a1) fun v12=>
 aa (slN_1 a0 (-1) ([]) (-1) ([])) fun v16=>
 some (Dt.mk 15 v16 0 (Tt.mk ⟨#[]⟩ ([])) v12 ([a2,a3]))

def slR_1(a0:Dt)(a1:Bool):Option Int:=
 bif decide (a0.Rule=1) then
 some (-1:Int)
 else
 bif decide (a0.Rule=2) then
 some (-1:Int)
 else
 bif decide (a0.Rule=11) then
 some (-1:Int)
 else
 bif decide (a0.Rule=14) then
 some (-1:Int)
 else
 bif decide (a0.Rule=15) then
 some (-1:Int)
 else
 aa (slO_ a0.Rule) fun v15=>
 bif v15==a1 then
 some a0.Main
 else
 some (-1:Int)

def slI_:Nat→Dt→Ft→Bool→Int→Option Dt
 | 0,_,_,_,_=>none
 | n+1,a0,a1,a2,a3=>
 aa (slO_11 a0.Term) fun v22=>
 aa (slO_5 a0.Cut) fun v25=>
 aa (slN_1 a0.Sequent (-1) ([]) (-1) ([])) fun v32=>
 bif a2 then
 aa (slc v32.Left (0:Int) a3) fun v41=>
 aa (app ([]) v41) fun v42=>
 aa (slO_5 a1) fun v44=>
 aa (app v42 ([v44])) fun v46=>
 aa (slc v32.Left a3 (v32.Left.length:Int)) fun v49=>
 aa (app v46 v49) fun v50=>
 bif decide (a0.Rule=15) then
 aa (slR_1 a0 a2) fun v94=>
 bif decide (0≤v94) then
 bif decide (v94<a3) then
 tL_ (ρ:=Dt) (σ:=(List Dt)) (forN (fun (i16:Nat) (s16:(List Dt))=>
 aa (idx a0.Parts (i16:Int)) fun v116=>
 aa (slI_ n v116 a1 a2 (IntKind.i64.wrap (a3-1))) fun v121=>
 aa (app s16 ([v121])) fun v123=>
 some (.nx v123)) a0.Parts.length 0 ([])) fun s16=>
 some (Dt.mk a0.Rule (Sa.mk v50 v32.Right) a0.Main v22 v25 s16)
 else
 tL_ (ρ:=Dt) (σ:=(List Dt)) (forN (fun (i16:Nat) (s16:(List Dt))=>
 aa (idx a0.Parts (i16:Int)) fun v116=>
 aa (slI_ n v116 a1 a2 a3) fun v121=>
 aa (app s16 ([v121])) fun v123=>
 some (.nx v123)) a0.Parts.length 0 ([])) fun s16=>
 some (Dt.mk a0.Rule (Sa.mk v50 v32.Right) a0.Main v22 v25 s16)
 else
 tL_ (ρ:=Dt) (σ:=(List Dt)) (forN (fun (i16:Nat) (s16:(List Dt))=>
 aa (idx a0.Parts (i16:Int)) fun v116=>
 aa (slI_ n v116 a1 a2 a3) fun v121=>
 aa (app s16 ([v121])) fun v123=>
 some (.nx v123)) a0.Parts.length 0 ([])) fun s16=>
 some (Dt.mk a0.Rule (Sa.mk v50 v32.Right) a0.Main v22 v25 s16)
 else
 aa (slO_ a0.Rule) fun v77=>
 bif v77==true then
 bif decide (a3≤a0.Main) then
 aa (slR_1 a0 a2) fun v94=>
 bif decide (0≤v94) then
 bif decide (v94<a3) then
 tL_ (ρ:=Dt) (σ:=(List Dt)) (forN (fun (i16:Nat) (s16:(List Dt))=>
 aa (idx a0.Parts (i16:Int)) fun v116=>
 aa (slI_ n v116 a1 a2 (IntKind.i64.wrap (a3-1))) fun v121=>
 aa (app s16 ([v121])) fun v123=>
 some (.nx v123)) a0.Parts.length 0 ([])) fun s16=>
 some (Dt.mk a0.Rule (Sa.mk v50 v32.Right) (IntKind.i64.wrap (a0.Main+1)) v22 v25 s16)
 else
 tL_ (ρ:=Dt) (σ:=(List Dt)) (forN (fun (i16:Nat) (s16:(List Dt))=>
 aa (idx a0.Parts (i16:Int)) fun v116=>
 aa (slI_ n v116 a1 a2 a3) fun v121=>
 aa (app s16 ([v121])) fun v123=>
 some (.nx v123)) a0.Parts.length 0 ([])) fun s16=>
 some (Dt.mk a0.Rule (Sa.mk v50 v32.Right) (IntKind.i64.wrap (a0.Main+1)) v22 v25 s16)
 else
 tL_ (ρ:=Dt) (σ:=(List Dt)) (forN (fun (i16:Nat) (s16:(List Dt))=>
 aa (idx a0.Parts (i16:Int)) fun v116=>
 aa (slI_ n v116 a1 a2 a3) fun v121=>
 aa (app s16 ([v121])) fun v123=>
 some (.nx v123)) a0.Parts.length 0 ([])) fun s16=>
 some (Dt.mk a0.Rule (Sa.mk v50 v32.Right) (IntKind.i64.wrap (a0.Main+1)) v22 v25 s16)
 else
 aa (slR_1 a0 a2) fun v94=>
 bif decide (0≤v94) then
 bif decide (v94<a3) then
 tL_ (ρ:=Dt) (σ:=(List Dt)) (forN (fun (i16:Nat) (s16:(List Dt))=>
 aa (idx a0.Parts (i16:Int)) fun v116=>
 aa (slI_ n v116 a1 a2 (IntKind.i64.wrap (a3-1))) fun v121=>
 aa (app s16 ([v121])) fun v123=>
 some (.nx v123)) a0.Parts.length 0 ([])) fun s16=>
 some (Dt.mk a0.Rule (Sa.mk v50 v32.Right) a0.Main v22 v25 s16)
 else
 tL_ (ρ:=Dt) (σ:=(List Dt)) (forN (fun (i16:Nat) (s16:(List Dt))=>
 aa (idx a0.Parts (i16:Int)) fun v116=>
 aa (slI_ n v116 a1 a2 a3) fun v121=>
 aa (app s16 ([v121])) fun v123=>
 some (.nx v123)) a0.Parts.length 0 ([])) fun s16=>
 some (Dt.mk a0.Rule (Sa.mk v50 v32.Right) a0.Main v22 v25 s16)
 else
 tL_ (ρ:=Dt) (σ:=(List Dt)) (forN (fun (i16:Nat) (s16:(List Dt))=>
 aa (idx a0.Parts (i16:Int)) fun v116=>
 aa (slI_ n v116 a1 a2 a3) fun v121=>
 aa (app s16 ([v121])) fun v123=>
 some (.nx v123)) a0.Parts.length 0 ([])) fun s16=>
 some (Dt.mk a0.Rule (Sa.mk v50 v32.Right) a0.Main v22 v25 s16)
 else
 aa (slR_1 a0 a2) fun v94=>
 bif decide (0≤v94) then
 bif decide (v94<a3) then
 tL_ (ρ:=Dt) (σ:=(List Dt)) (forN (fun (i16:Nat) (s16:(List Dt))=>
 aa (idx a0.Parts (i16:Int)) fun v116=>
 aa (slI_ n v116 a1 a2 (IntKind.i64.wrap (a3-1))) fun v121=>
 aa (app s16 ([v121])) fun v123=>
 some (.nx v123)) a0.Parts.length 0 ([])) fun s16=>
 some (Dt.mk a0.Rule (Sa.mk v50 v32.Right) a0.Main v22 v25 s16)
 else
 tL_ (ρ:=Dt) (σ:=(List Dt)) (forN (fun (i16:Nat) (s16:(List Dt))=>
 aa (idx a0.Parts (i16:Int)) fun v116=>
 aa (slI_ n v116 a1 a2 a3) fun v121=>
 aa (app s16 ([v121])) fun v123=>
 some (.nx v123)) a0.Parts.length 0 ([])) fun s16=>
 some (Dt.mk a0.Rule (Sa.mk v50 v32.Right) a0.Main v22 v25 s16)
 else
 tL_ (ρ:=Dt) (σ:=(List Dt)) (forN (fun (i16:Nat) (s16:(List Dt))=>
 aa (idx a0.Parts (i16:Int)) fun v116=>
 aa (slI_ n v116 a1 a2 a3) fun v121=>
 aa (app s16 ([v121])) fun v123=>
 some (.nx v123)) a0.Parts.length 0 ([])) fun s16=>
 some (Dt.mk a0.Rule (Sa.mk v50 v32.Right) a0.Main v22 v25 s16)
 else
 aa (slc v32.Right (0:Int) a3) fun v59=>
 aa (app ([]) v59) fun v60=>
 aa (slO_5 a1) fun v62=>
 aa (app v60 ([v62])) fun v64=>
 aa (slc v32.Right a3 (v32.Right.length:Int)) fun v67=>
 aa (app v64 v67) fun v68=>
 bif decide (a0.Rule=15) then
 aa (slR_1 a0 a2) fun v94=>
 bif decide (0≤v94) then
 bif decide (v94<a3) then
 tL_ (ρ:=Dt) (σ:=(List Dt)) (forN (fun (i16:Nat) (s16:(List Dt))=>
 aa (idx a0.Parts (i16:Int)) fun v116=>
 aa (slI_ n v116 a1 a2 (IntKind.i64.wrap (a3-1))) fun v121=>
 aa (app s16 ([v121])) fun v123=>
 some (.nx v123)) a0.Parts.length 0 ([])) fun s16=>
 some (Dt.mk a0.Rule (Sa.mk v32.Left v68) a0.Main v22 v25 s16)
 else
 tL_ (ρ:=Dt) (σ:=(List Dt)) (forN (fun (i16:Nat) (s16:(List Dt))=>
 aa (idx a0.Parts (i16:Int)) fun v116=>
 aa (slI_ n v116 a1 a2 a3) fun v121=>
 aa (app s16 ([v121])) fun v123=>
 some (.nx v123)) a0.Parts.length 0 ([])) fun s16=>
 some (Dt.mk a0.Rule (Sa.mk v32.Left v68) a0.Main v22 v25 s16)
 else
 tL_ (ρ:=Dt) (σ:=(List Dt)) (forN (fun (i16:Nat) (s16:(List Dt))=>
 aa (idx a0.Parts (i16:Int)) fun v116=>
 aa (slI_ n v116 a1 a2 a3) fun v121=>
 aa (app s16 ([v121])) fun v123=>
 some (.nx v123)) a0.Parts.length 0 ([])) fun s16=>
 some (Dt.mk a0.Rule (Sa.mk v32.Left v68) a0.Main v22 v25 s16)
 else
 aa (slO_ a0.Rule) fun v77=>
 bif v77==false then
 bif decide (a3≤a0.Main) then
 aa (slR_1 a0 a2) fun v94=>
 bif decide (0≤v94) then
 bif decide (v94<a3) then
 tL_ (ρ:=Dt) (σ:=(List Dt)) (forN (fun (i16:Nat) (s16:(List Dt))=>
 aa (idx a0.Parts (i16:Int)) fun v116=>
 aa (slI_ n v116 a1 a2 (IntKind.i64.wrap (a3-1))) fun v121=>
 aa (app s16 ([v121])) fun v123=>
 some (.nx v123)) a0.Parts.length 0 ([])) fun s16=>
 some (Dt.mk a0.Rule (Sa.mk v32.Left v68) (IntKind.i64.wrap (a0.Main+1)) v22 v25 s16)
 else
 tL_ (ρ:=Dt) (σ:=(List Dt)) (forN (fun (i16:Nat) (s16:(List Dt))=>
 aa (idx a0.Parts (i16:Int)) fun v116=>
 aa (slI_ n v116 a1 a2 a3) fun v121=>
 aa (app s16 ([v121])) fun v123=>
 some (.nx v123)) a0.Parts.length 0 ([])) fun s16=>
 some (Dt.mk a0.Rule (Sa.mk v32.Left v68) (IntKind.i64.wrap (a0.Main+1)) v22 v25 s16)
 else
 tL_ (ρ:=Dt) (σ:=(List Dt)) (forN (fun (i16:Nat) (s16:(List Dt))=>
 aa (idx a0.Parts (i16:Int)) fun v116=>
 aa (slI_ n v116 a1 a2 a3) fun v121=>
 aa (app s16 ([v121])) fun v123=>
 some (.nx v123)) a0.Parts.length 0 ([])) fun s16=>
 some (Dt.mk a0.Rule (Sa.mk v32.Left v68) (IntKind.i64.wrap (a0.Main+1)) v22 v25 s16)
 else
 aa (slR_1 a0 a2) fun v94=>
 bif decide (0≤v94) then
 bif decide (v94<a3) then
 tL_ (ρ:=Dt) (σ:=(List Dt)) (forN (fun (i16:Nat) (s16:(List Dt))=>
 aa (idx a0.Parts (i16:Int)) fun v116=>
 aa (slI_ n v116 a1 a2 (IntKind.i64.wrap (a3-1))) fun v121=>
 aa (app s16 ([v121])) fun v123=>
 some (.nx v123)) a0.Parts.length 0 ([])) fun s16=>
 some (Dt.mk a0.Rule (Sa.mk v32.Left v68) a0.Main v22 v25 s16)
 else
 tL_ (ρ:=Dt) (σ:=(List Dt)) (forN (fun (i16:Nat) (s16:(List Dt))=>
 aa (idx a0.Parts (i16:Int)) fun v116=>
 aa (slI_ n v116 a1 a2 a3) fun v121=>
 aa (app s16 ([v121])) fun v123=>
 some (.nx v123)) a0.Parts.length 0 ([])) fun s16=>
 some (Dt.mk a0.Rule (Sa.mk v32.Left v68) a0.Main v22 v25 s16)
 else
 tL_ (ρ:=Dt) (σ:=(List Dt)) (forN (fun (i16:Nat) (s16:(List Dt))=>
 aa (idx a0.Parts (i16:Int)) fun v116=>
 aa (slI_ n v116 a1 a2 a3) fun v121=>
 aa (app s16 ([v121])) fun v123=>
 some (.nx v123)) a0.Parts.length 0 ([])) fun s16=>
 some (Dt.mk a0.Rule (Sa.mk v32.Left v68) a0.Main v22 v25 s16)
 else
 aa (slR_1 a0 a2) fun v94=>
 bif decide (0≤v94) then
 bif decide (v94<a3) then
 tL_ (ρ:=Dt) (σ:=(List Dt)) (forN (fun (i16:Nat) (s16:(List Dt))=>
 aa (idx a0.Parts (i16:Int)) fun v116=>
 aa (slI_ n v116 a1 a2 (IntKind.i64.wrap (a3-1))) fun v121=>
 aa (app s16 ([v121])) fun v123=>
 some (.nx v123)) a0.Parts.length 0 ([])) fun s16=>
 some (Dt.mk a0.Rule (Sa.mk v32.Left v68) a0.Main v22 v25 s16)
 else
 tL_ (ρ:=Dt) (σ:=(List Dt)) (forN (fun (i16:Nat) (s16:(List Dt))=>
 aa (idx a0.Parts (i16:Int)) fun v116=>
 aa (slI_ n v116 a1 a2 a3) fun v121=>
 aa (app s16 ([v121])) fun v123=>
 some (.nx v123)) a0.Parts.length 0 ([])) fun s16=>
 some (Dt.mk a0.Rule (Sa.mk v32.Left v68) a0.Main v22 v25 s16)
 else
 tL_ (ρ:=Dt) (σ:=(List Dt)) (forN (fun (i16:Nat) (s16:(List Dt))=>
 aa (idx a0.Parts (i16:Int)) fun v116=>
 aa (slI_ n v116 a1 a2 a3) fun v121=>
 aa (app s16 ([v121])) fun v123=>
 some (.nx v123)) a0.Parts.length 0 ([])) fun s16=>
 some (Dt.mk a0.Rule (Sa.mk v32.Left v68) a0.Main v22 v25 s16)
def slI_8(a0:Dt)(a1:Ft)(a2:Bool)(a3:Int):Option Dt:=lim fun n=>slI_ n a0 a1 a2 a3


def slR_3(a0:Dt):Option (Dt×Bool):=
 aa (slC_1 a0) fun v19=>
 bif v19.2 then
 some (v19.1,true)
 else
 aa (idx a0.Parts 0) fun v28=>
 aa (idx a0.Parts 1) fun v32=>
 aa (slI_4 a0.Cut.Op 4 7) fun v43=>
 bif v43 then
 bif decide (v28.Rule=(IntKind.i64.wrap ((IntKind.i64.wrap ((3:Int)+(IntKind.i64.wrap ((2:Int)*(IntKind.i64.wrap (a0.Cut.Op-4))))))+1))) then
 bif decide (v32.Rule=(IntKind.i64.wrap ((3:Int)+(IntKind.i64.wrap ((2:Int)*(IntKind.i64.wrap (a0.Cut.Op-4))))))) then
 bif decide (v28.Main=(a0.Sequent.Right.length:Int)) then
 bif decide (v32.Main=(a0.Sequent.Left.length:Int)) then
 aa (idx a0.Cut.Parts 0) fun v78=>
 bif decide (a0.Cut.Op=4) then
 aa (idx v32.Parts 0) fun v88=>
 aa (slO_4 v88) fun v90=>
 aa (idx v28.Parts 0) fun v93=>
 aa (slO_4 v93) fun v95=>
 aa (slC_ a0.Sequent v78 v90 v95) fun v96=>
 some (v96,true)
 else
 aa (idx a0.Cut.Parts 1) fun v100=>
 bif decide (a0.Cut.Op=5) then
 aa (slN_1 a0.Sequent (-1) ([v78]) (-1) ([])) fun v113=>
 aa (idx v28.Parts 1) fun v117=>
 aa (slI_8 v117 v78 true (a0.Sequent.Left.length:Int)) fun v123=>
 aa (idx v32.Parts 0) fun v126=>
 aa (slO_4 v126) fun v128=>
 aa (slC_ v113 v100 v123 v128) fun v129=>
 aa (idx v28.Parts 0) fun v134=>
 aa (slO_4 v134) fun v136=>
 aa (slC_ a0.Sequent v78 v136 v129) fun v138=>
 some (v138,true)
 else
 bif decide (a0.Cut.Op=6) then
 aa (slN_1 a0.Sequent (-1) ([]) (-1) ([v78])) fun v144=>
 aa (idx v28.Parts 0) fun v148=>
 aa (slO_4 v148) fun v150=>
 aa (idx v32.Parts 1) fun v153=>
 aa (slI_8 v153 v78 false (a0.Sequent.Right.length:Int)) fun v159=>
 aa (slC_ v144 v100 v150 v159) fun v160=>
 aa (idx v32.Parts 0) fun v166=>
 aa (slO_4 v166) fun v168=>
 aa (slC_ a0.Sequent v78 v160 v168) fun v169=>
 some (v169,true)
 else
 aa (slN_1 a0.Sequent (-1) ([v78]) (-1) ([])) fun v173=>
 aa (idx v28.Parts 0) fun v177=>
 aa (slO_4 v177) fun v179=>
 aa (idx v32.Parts 1) fun v182=>
 aa (slI_8 v182 v78 true (a0.Sequent.Left.length:Int)) fun v188=>
 aa (slC_ v173 v100 v179 v188) fun v189=>
 aa (idx v32.Parts 0) fun v194=>
 aa (slO_4 v194) fun v196=>
 aa (slC_ a0.Sequent v78 v196 v189) fun v198=>
 some (v198,true)
 else
 some ((Dt.mk 0 (Sa.mk ([]) ([])) (0:Int) (Tt.mk ⟨#[]⟩ ([])) (Ft.mk 0 (Tt.mk ⟨#[]⟩ ([])) (⟨#[]⟩:ByteArray) ([])) ([])),false)
 else
 some ((Dt.mk 0 (Sa.mk ([]) ([])) (0:Int) (Tt.mk ⟨#[]⟩ ([])) (Ft.mk 0 (Tt.mk ⟨#[]⟩ ([])) (⟨#[]⟩:ByteArray) ([])) ([])),false)
 else
 some ((Dt.mk 0 (Sa.mk ([]) ([])) (0:Int) (Tt.mk ⟨#[]⟩ ([])) (Ft.mk 0 (Tt.mk ⟨#[]⟩ ([])) (⟨#[]⟩:ByteArray) ([])) ([])),false)
 else
 some ((Dt.mk 0 (Sa.mk ([]) ([])) (0:Int) (Tt.mk ⟨#[]⟩ ([])) (Ft.mk 0 (Tt.mk ⟨#[]⟩ ([])) (⟨#[]⟩:ByteArray) ([])) ([])),false)
 else
 some ((Dt.mk 0 (Sa.mk ([]) ([])) (0:Int) (Tt.mk ⟨#[]⟩ ([])) (Ft.mk 0 (Tt.mk ⟨#[]⟩ ([])) (⟨#[]⟩:ByteArray) ([])) ([])),false)

def slF_:Nat→Dt→Option (Dt×Bool)
 | 0,_=>none
 | n+1,a0=>
 bif decide (a0.Rule=15) then
 aa (slR_3 a0) fun v15=>
 bif v15.2 then
 some (v15.1,true)
 else
 tL_ (ρ:=(Dt×Bool)) (σ:=Unit) (forN (fun (i6:Nat) (s6:Unit)=>
 aa (idx a0.Parts (i6:Int)) fun v31=>
 aa (slF_ n v31) fun v33=>
 bif v33.2 then
 aa (slO_4 a0) fun v38=>
 aa (idx v38.Parts (i6:Int)) fun v43=>
 aa (idx v38.Parts (i6:Int)) fun w5=>
 some (.rt ((Dt.mk v38.Rule v38.Sequent v38.Main v38.Term v38.Cut (v38.Parts.set (i6:Int).toNat v33.1)),true))
 else
 some (.nx ())) a0.Parts.length 0 ()) fun s6=>
 some ((Dt.mk 0 (Sa.mk ([]) ([])) (0:Int) (Tt.mk ⟨#[]⟩ ([])) (Ft.mk 0 (Tt.mk ⟨#[]⟩ ([])) (⟨#[]⟩:ByteArray) ([])) ([])),false)
 else
 tL_ (ρ:=(Dt×Bool)) (σ:=Unit) (forN (fun (i6:Nat) (s6:Unit)=>
 aa (idx a0.Parts (i6:Int)) fun v31=>
 aa (slF_ n v31) fun v33=>
 bif v33.2 then
 aa (slO_4 a0) fun v38=>
 aa (idx v38.Parts (i6:Int)) fun v43=>
 aa (idx v38.Parts (i6:Int)) fun w9=>
 some (.rt ((Dt.mk v38.Rule v38.Sequent v38.Main v38.Term v38.Cut (v38.Parts.set (i6:Int).toNat v33.1)),true))
 else
 some (.nx ())) a0.Parts.length 0 ()) fun s6=>
 some ((Dt.mk 0 (Sa.mk ([]) ([])) (0:Int) (Tt.mk ⟨#[]⟩ ([])) (Ft.mk 0 (Tt.mk ⟨#[]⟩ ([])) (⟨#[]⟩:ByteArray) ([])) ([])),false)
def slF_6(a0:Dt):Option (Dt×Bool):=lim fun n=>slF_ n a0

def slN_5(a0:Dt):Option (Dt×Bool):=
 aa (slF_6 a0) fun v8=>
 bif v8.2 then
 aa (slV_2 v8.1) fun v15=>
 bif v15 then
 some (v8.1,true)
 else
 some ((Dt.mk 0 (Sa.mk ([]) ([])) (0:Int) (Tt.mk ⟨#[]⟩ ([])) (Ft.mk 0 (Tt.mk ⟨#[]⟩ ([])) (⟨#[]⟩:ByteArray) ([])) ([])),false)
 else
 some ((Dt.mk 0 (Sa.mk ([]) ([])) (0:Int) (Tt.mk ⟨#[]⟩ ([])) (Ft.mk 0 (Tt.mk ⟨#[]⟩ ([])) (⟨#[]⟩:ByteArray) ([])) ([])),false)

def sEC_(a0:Dt)(a1:Int):Option (Dt×Int×Bool):=
 aa (slV_2 a0) fun v12=>
 bif v12 then
 aa (slI_4 a1 0 60) fun v16=>
 bif v16 then
 aa (slO_4 a0) fun v21=>
 aa (bnd (a1)) fun N5=>
 tL_ (ρ:=(Dt×Int×Bool)) (σ:=Dt) (forN (fun (i5:Nat) (s5:Dt)=>
 aa (slN_5 s5) fun v27=>
 bif v27.2 then
 some (.nx v27.1)
 else
 some (.rt (s5,(i5:Int),true))) N5 0 v21) fun s5=>
 some (s5,((N5:Nat):Int),true)
 else
 some ((Dt.mk 0 (Sa.mk ([]) ([])) (0:Int) (Tt.mk ⟨#[]⟩ ([])) (Ft.mk 0 (Tt.mk ⟨#[]⟩ ([])) (⟨#[]⟩:ByteArray) ([])) ([])),(0:Int),false)
 else
 some ((Dt.mk 0 (Sa.mk ([]) ([])) (0:Int) (Tt.mk ⟨#[]⟩ ([])) (Ft.mk 0 (Tt.mk ⟨#[]⟩ ([])) (⟨#[]⟩:ByteArray) ([])) ([])),(0:Int),false)

def irN_:Nat→Dt→Option Int
 | 0,_=>none
 | n+1,a0=>
 tL_ (ρ:=Int) (σ:=Int) (forN (fun (i3:Nat) (s3:Int)=>
 aa (idx a0.Parts (i3:Int)) fun v11=>
 bif decide (60<s3) then
 some (.rt s3)
 else
 aa (irN_ n v11) fun v18=>
 some (.nx (IntKind.i64.wrap (s3+v18)))) a0.Parts.length 0 (1:Int)) fun s3=>
 some s3
def irN_1(a0:Dt):Option Int:=lim fun n=>irN_ n a0

def isO_:Nat→Ft→Option Int
 | 0,_=>none
 | n+1,a0=>
 tL_ (ρ:=Int) (σ:=Int) (forN (fun (i3:Nat) (s3:Int)=>
 aa (idx a0.Parts (i3:Int)) fun v11=>
 bif decide (40<s3) then
 some (.rt s3)
 else
 aa (isO_ n v11) fun v18=>
 some (.nx (IntKind.i64.wrap (s3+v18)))) a0.Parts.length 0 (1:Int)) fun s3=>
 some s3
def isO_1(a0:Ft):Option Int:=lim fun n=>isO_ n a0

def iiQ_2(a0:Int):Option Bool:=
 bif decide (a0=8) then
 some true
 else
 some (decide (a0=9))

def iiB_(a0:Int):Option Bool:=
 bif decide (a0=5) then
 some true
 else
 bif decide (a0=6) then
 some true
 else
 some (decide (a0=7))

def iiU_(a0:Int):Option Bool:=
 bif decide (65≤a0) then
 some (decide (a0≤90))
 else
 some false

def iiL_(a0:Int):Option Bool:=
 bif decide (97≤a0) then
 some (decide (a0≤122))
 else
 some false

def iiD_1(a0:Int):Option Bool:=
 bif decide (48≤a0) then
 some (decide (a0≤57))
 else
 some false

def iw_(a0:Int)(a1:Int)(a2:Int):Option Bool:=
 bif decide (a1≤a0) then
 some (decide (a0≤a2))
 else
 some false

def iiV_(a0:ByteArray):Option Bool:=
 aa (bnd (a0.size:Int)) fun N2=>
 tL_ (ρ:=Bool) (σ:=Unit) (forN (fun (i2:Nat) (s2:Unit)=>
 bif decide ((i2:Int)=0) then
 aa (sidx a0 (i2:Int)) fun v14=>
 aa (iiU_ v14) fun v15=>
 bif v15 then
 bif decide (0<(i2:Int)) then
 aa (sidx a0 (i2:Int)) fun v24=>
 aa (iiL_ v24) fun v25=>
 bif v25 then
 some (.nx ())
 else
 aa (sidx a0 (i2:Int)) fun v31=>
 aa (iiD_1 v31) fun v32=>
 bif v32 then
 some (.nx ())
 else
 some (.rt false)
 else
 some (.nx ())
 else
 some (.rt false)
 else
 bif decide (0<(i2:Int)) then
 aa (sidx a0 (i2:Int)) fun v24=>
 aa (iiL_ v24) fun v25=>
 bif v25 then
 some (.nx ())
 else
 aa (sidx a0 (i2:Int)) fun v31=>
 aa (iiD_1 v31) fun v32=>
 bif v32 then
 some (.nx ())
 else
 some (.rt false)
 else
 some (.nx ())) N2 0 ()) fun s2=>
 aa (iw_ (a0.size:Int) 1 4) fun v39=>
 some v39

def iiE_(a0:Tt):Option Bool:=
 some (decide (a0.Name=(⟨#[61]⟩:ByteArray)))

def isN_1:Nat→Tt→Option Int
 | 0,_=>none
 | n+1,a0=>
 tL_ (ρ:=Int) (σ:=Int) (forN (fun (i3:Nat) (s3:Int)=>
 aa (idx a0.Args (i3:Int)) fun v11=>
 bif decide (30<s3) then
 some (.rt s3)
 else
 aa (isN_1 n v11) fun v18=>
 some (.nx (IntKind.i64.wrap (s3+v18)))) a0.Args.length 0 (1:Int)) fun s3=>
 some s3
def is_1(a0:Tt):Option Int:=lim fun n=>isN_1 n a0

def idN_:Nat→Tt→Option Int
 | 0,_=>none
 | n+1,a0=>
 tL_ (ρ:=Int) (σ:=Int) (forN (fun (i3:Nat) (s3:Int)=>
 aa (idx a0.Args (i3:Int)) fun v11=>
 aa (idN_ n v11) fun v15=>
 some (.nx (max s3 v15))) a0.Args.length 0 (0:Int)) fun s3=>
 some (IntKind.i64.wrap (s3+1))
def id_(a0:Tt):Option Int:=lim fun n=>idN_ n a0

def iiS_1(a0:Tt):Option Bool:=
 aa (is_1 a0) fun v4=>
 bif decide (v4≤30) then
 aa (id_ a0) fun v8=>
 some (decide (v8≤8))
 else
 some false

def ir_1  :Option (List ByteArray):=
 some ([(⟨#[116,114,117,101]⟩:ByteArray),(⟨#[102,97,108,115,101]⟩:ByteArray),(⟨#[116,114,117,116,104]⟩:ByteArray),(⟨#[98,111,116,104]⟩:ByteArray),(⟨#[101,105,116,104,101,114]⟩:ByteArray),(⟨#[105,102]⟩:ByteArray),(⟨#[97,108,108]⟩:ByteArray),(⟨#[115,111,109,101]⟩:ByteArray)])

def sIS_(a0:List ByteArray)(a1:ByteArray):Option Int:=
 tL_ (ρ:=Int) (σ:=Unit) (forN (fun (i2:Nat) (s2:Unit)=>
 aa (idx a0 (i2:Int)) fun v14=>
 bif decide (a1=v14) then
 some (.rt (i2:Int))
 else
 some (.nx ())) a0.length 0 ()) fun s2=>
 some (-1:Int)

def sCS_(a0:List ByteArray)(a1:ByteArray):Option Bool:=
 aa (sIS_ a0 a1) fun v7=>
 some (decide (0≤v7))

def iiS_(a0:ByteArray):Option Bool:=
 aa (bnd (a0.size:Int)) fun N2=>
 tL_ (ρ:=Bool) (σ:=Unit) (forN (fun (i2:Nat) (s2:Unit)=>
 bif decide ((i2:Int)=0) then
 aa (sidx a0 (i2:Int)) fun v14=>
 aa (iiL_ v14) fun v15=>
 bif v15 then
 aa (sidx a0 (i2:Int)) fun v21=>
 aa (iiL_ v21) fun v22=>
 bif v22 then
 some (.nx ())
 else
 aa (sidx a0 (i2:Int)) fun v27=>
 aa (iiD_1 v27) fun v28=>
 bif v28 then
 some (.nx ())
 else
 aa (sidx a0 (i2:Int)) fun v34=>
 bif decide (v34=95) then
 some (.nx ())
 else
 some (.rt false)
 else
 some (.rt false)
 else
 aa (sidx a0 (i2:Int)) fun v21=>
 aa (iiL_ v21) fun v22=>
 bif v22 then
 some (.nx ())
 else
 aa (sidx a0 (i2:Int)) fun v27=>
 aa (iiD_1 v27) fun v28=>
 bif v28 then
 some (.nx ())
 else
 aa (sidx a0 (i2:Int)) fun v34=>
 bif decide (v34=95) then
 some (.nx ())
 else
 some (.rt false)) N2 0 ()) fun s2=>
 aa (iw_ (a0.size:Int) 1 6) fun v41=>
 bif v41 then
 aa (ir_1 ) fun v43=>
 aa (sCS_ v43 a0) fun v45=>
 some (!v45)
 else
 some false

def sIF_1(a0:List Tt)(a1:Tt→Option Bool):Option Int:=
 tL_ (ρ:=Int) (σ:=Unit) (forN (fun (i2:Nat) (s2:Unit)=>
 aa (idx a0 (i2:Int)) fun v14=>
 aa (a1 v14) fun v16=>
 bif v16 then
 some (.rt (i2:Int))
 else
 some (.nx ())) a0.length 0 ()) fun s2=>
 some (-1:Int)

def sCF_2(a0:List Tt)(a1:Tt→Option Bool):Option Bool:=
 aa (sIF_1 a0 a1) fun v7=>
 some (decide (0≤v7))

mutual
def ihN_:Nat→Tt→Option Bool
 | 0,_=>none
 | n+1,a0=>
 aa (iiV_ a0.Name) fun v5=>
 bif v5 then
 some (decide ((a0.Args.length:Int)=0))
 else
 aa (iiS_ a0.Name) fun v12=>
 bif v12 then
 bif decide ((a0.Args.length:Int)≤4) then
 aa (sCF_2 a0.Args (fun y0=>ihN_1 n y0)) fun v22=>
 some (!v22)
 else
 some false
 else
 some false
def ihN_1:Nat→Tt→Option Bool
 | 0,_=>none
 | n+1,a0=>
 aa (ihN_ n a0) fun v4=>
 some (!v4)
end
def ihN_2(a0:Tt):Option Bool:=lim fun n=>ihN_ n a0
def ihN_6(a0:Tt):Option Bool:=lim fun n=>ihN_1 n a0

def iIV_8(a0:Tt):Option Bool:=
 aa (iiS_1 a0) fun v4=>
 bif v4 then
 aa (ihN_2 a0) fun v7=>
 some v7
 else
 some false

def iIV_(a0:Tt):Option Bool:=
 aa (iiE_ a0) fun v4=>
 bif v4 then
 bif decide ((a0.Args.length:Int)=2) then
 aa (iiS_1 a0) fun v11=>
 bif v11 then
 aa (idx a0.Args 0) fun v16=>
 aa (ihN_2 v16) fun v18=>
 bif v18 then
 aa (idx a0.Args 1) fun v23=>
 aa (ihN_2 v23) fun v25=>
 some v25
 else
 some false
 else
 some false
 else
 some false
 else
 aa (iiS_ a0.Name) fun v29=>
 bif v29 then
 aa (iIV_8 a0) fun v32=>
 some v32
 else
 some false

def iiZ_1(a0:Tt):Option Bool:=
 bif decide (a0.Name=(⟨#[]⟩:ByteArray)) then
 some (decide ((a0.Args.length:Int)=0))
 else
 some false

def sIF_(a0:List Ft)(a1:Ft→Option Bool):Option Int:=
 tL_ (ρ:=Int) (σ:=Unit) (forN (fun (i2:Nat) (s2:Unit)=>
 aa (idx a0 (i2:Int)) fun v14=>
 aa (a1 v14) fun v16=>
 bif v16 then
 some (.rt (i2:Int))
 else
 some (.nx ())) a0.length 0 ()) fun s2=>
 some (-1:Int)

def sCF_(a0:List Ft)(a1:Ft→Option Bool):Option Bool:=
 aa (sIF_ a0 a1) fun v7=>
 some (decide (0≤v7))

mutual
def ihF_1:Nat→Ft→Option Bool
 | 0,_=>none
 | n+1,a0=>
 bif decide (a0.Op=1) then
 bif decide ((a0.Parts.length:Int)=0) then
 aa (iiQ_2 a0.Op) fun v33=>
 bif v33 then
 aa (iiV_ a0.Var) fun v37=>
 bif v37 then
 aa (iiQ_2 a0.Op) fun v44=>
 bif v44 then
 bif decide (a0.Op=3) then
 aa (iIV_ a0.Atom) fun v58=>
 bif v58 then
 aa (sCF_ a0.Parts (fun y0=>ihF_ n y0)) fun v74=>
 some (!v74)
 else
 some false
 else
 aa (iiZ_1 a0.Atom) fun v68=>
 bif v68 then
 aa (sCF_ a0.Parts (fun y0=>ihF_ n y0)) fun v74=>
 some (!v74)
 else
 some false
 else
 bif decide (a0.Var=(⟨#[]⟩:ByteArray)) then
 bif decide (a0.Op=3) then
 aa (iIV_ a0.Atom) fun v58=>
 bif v58 then
 aa (sCF_ a0.Parts (fun y0=>ihF_ n y0)) fun v74=>
 some (!v74)
 else
 some false
 else
 aa (iiZ_1 a0.Atom) fun v68=>
 bif v68 then
 aa (sCF_ a0.Parts (fun y0=>ihF_ n y0)) fun v74=>
 some (!v74)
 else
 some false
 else
 some false
 else
 some false
 else
 aa (iiQ_2 a0.Op) fun v44=>
 bif v44 then
 bif decide (a0.Op=3) then
 aa (iIV_ a0.Atom) fun v58=>
 bif v58 then
 aa (sCF_ a0.Parts (fun y0=>ihF_ n y0)) fun v74=>
 some (!v74)
 else
 some false
 else
 aa (iiZ_1 a0.Atom) fun v68=>
 bif v68 then
 aa (sCF_ a0.Parts (fun y0=>ihF_ n y0)) fun v74=>
 some (!v74)
 else
 some false
 else
 bif decide (a0.Var=(⟨#[]⟩:ByteArray)) then
 bif decide (a0.Op=3) then
 aa (iIV_ a0.Atom) fun v58=>
 bif v58 then
 aa (sCF_ a0.Parts (fun y0=>ihF_ n y0)) fun v74=>
 some (!v74)
 else
 some false
 else
 aa (iiZ_1 a0.Atom) fun v68=>
 bif v68 then
 aa (sCF_ a0.Parts (fun y0=>ihF_ n y0)) fun v74=>
 some (!v74)
 else
 some false
 else
 some false
 else
 some false
 else
 bif decide (a0.Op=2) then
 bif decide ((a0.Parts.length:Int)=0) then
 aa (iiQ_2 a0.Op) fun v33=>
 bif v33 then
 aa (iiV_ a0.Var) fun v37=>
 bif v37 then
 aa (iiQ_2 a0.Op) fun v44=>
 bif v44 then
 bif decide (a0.Op=3) then
 aa (iIV_ a0.Atom) fun v58=>
 bif v58 then
 aa (sCF_ a0.Parts (fun y0=>ihF_ n y0)) fun v74=>
 some (!v74)
 else
 some false
 else
 aa (iiZ_1 a0.Atom) fun v68=>
 bif v68 then
 aa (sCF_ a0.Parts (fun y0=>ihF_ n y0)) fun v74=>
 some (!v74)
 else
 some false
 else
 bif decide (a0.Var=(⟨#[]⟩:ByteArray)) then
 bif decide (a0.Op=3) then
 aa (iIV_ a0.Atom) fun v58=>
 bif v58 then
 aa (sCF_ a0.Parts (fun y0=>ihF_ n y0)) fun v74=>
 some (!v74)
 else
 some false
 else
 aa (iiZ_1 a0.Atom) fun v68=>
 bif v68 then
 aa (sCF_ a0.Parts (fun y0=>ihF_ n y0)) fun v74=>
 some (!v74)
 else
 some false
 else
 some false
 else
 some false
 else
 aa (iiQ_2 a0.Op) fun v44=>
 bif v44 then
 bif decide (a0.Op=3) then
 aa (iIV_ a0.Atom) fun v58=>
 bif v58 then
 aa (sCF_ a0.Parts (fun y0=>ihF_ n y0)) fun v74=>
 some (!v74)
 else
 some false
 else
 aa (iiZ_1 a0.Atom) fun v68=>
 bif v68 then
 aa (sCF_ a0.Parts (fun y0=>ihF_ n y0)) fun v74=>
 some (!v74)
 else
 some false
 else
 bif decide (a0.Var=(⟨#[]⟩:ByteArray)) then
 bif decide (a0.Op=3) then
 aa (iIV_ a0.Atom) fun v58=>
 bif v58 then
 aa (sCF_ a0.Parts (fun y0=>ihF_ n y0)) fun v74=>
 some (!v74)
 else
 some false
 else
 aa (iiZ_1 a0.Atom) fun v68=>
 bif v68 then
 aa (sCF_ a0.Parts (fun y0=>ihF_ n y0)) fun v74=>
 some (!v74)
 else
 some false
 else
 some false
 else
 some false
 else
 bif decide (a0.Op=3) then
 bif decide ((a0.Parts.length:Int)=0) then
 aa (iiQ_2 a0.Op) fun v33=>
 bif v33 then
 aa (iiV_ a0.Var) fun v37=>
 bif v37 then
 aa (iiQ_2 a0.Op) fun v44=>
 bif v44 then
 aa (iIV_ a0.Atom) fun v58=>
 bif v58 then
 aa (sCF_ a0.Parts (fun y0=>ihF_ n y0)) fun v74=>
 some (!v74)
 else
 some false
 else
 bif decide (a0.Var=(⟨#[]⟩:ByteArray)) then
 aa (iIV_ a0.Atom) fun v58=>
 bif v58 then
 aa (sCF_ a0.Parts (fun y0=>ihF_ n y0)) fun v74=>
 some (!v74)
 else
 some false
 else
 some false
 else
 some false
 else
 aa (iiQ_2 a0.Op) fun v44=>
 bif v44 then
 aa (iIV_ a0.Atom) fun v58=>
 bif v58 then
 aa (sCF_ a0.Parts (fun y0=>ihF_ n y0)) fun v74=>
 some (!v74)
 else
 some false
 else
 bif decide (a0.Var=(⟨#[]⟩:ByteArray)) then
 aa (iIV_ a0.Atom) fun v58=>
 bif v58 then
 aa (sCF_ a0.Parts (fun y0=>ihF_ n y0)) fun v74=>
 some (!v74)
 else
 some false
 else
 some false
 else
 some false
 else
 bif decide (a0.Op=4) then
 bif decide ((a0.Parts.length:Int)=1) then
 aa (iiQ_2 a0.Op) fun v33=>
 bif v33 then
 aa (iiV_ a0.Var) fun v37=>
 bif v37 then
 aa (iiQ_2 a0.Op) fun v44=>
 bif v44 then
 aa (iiZ_1 a0.Atom) fun v68=>
 bif v68 then
 aa (sCF_ a0.Parts (fun y0=>ihF_ n y0)) fun v74=>
 some (!v74)
 else
 some false
 else
 bif decide (a0.Var=(⟨#[]⟩:ByteArray)) then
 aa (iiZ_1 a0.Atom) fun v68=>
 bif v68 then
 aa (sCF_ a0.Parts (fun y0=>ihF_ n y0)) fun v74=>
 some (!v74)
 else
 some false
 else
 some false
 else
 some false
 else
 aa (iiQ_2 a0.Op) fun v44=>
 bif v44 then
 aa (iiZ_1 a0.Atom) fun v68=>
 bif v68 then
 aa (sCF_ a0.Parts (fun y0=>ihF_ n y0)) fun v74=>
 some (!v74)
 else
 some false
 else
 bif decide (a0.Var=(⟨#[]⟩:ByteArray)) then
 aa (iiZ_1 a0.Atom) fun v68=>
 bif v68 then
 aa (sCF_ a0.Parts (fun y0=>ihF_ n y0)) fun v74=>
 some (!v74)
 else
 some false
 else
 some false
 else
 some false
 else
 aa (iiQ_2 a0.Op) fun v20=>
 bif v20 then
 bif decide ((a0.Parts.length:Int)=1) then
 aa (iiQ_2 a0.Op) fun v33=>
 bif v33 then
 aa (iiV_ a0.Var) fun v37=>
 bif v37 then
 aa (iiQ_2 a0.Op) fun v44=>
 bif v44 then
 aa (iiZ_1 a0.Atom) fun v68=>
 bif v68 then
 aa (sCF_ a0.Parts (fun y0=>ihF_ n y0)) fun v74=>
 some (!v74)
 else
 some false
 else
 bif decide (a0.Var=(⟨#[]⟩:ByteArray)) then
 aa (iiZ_1 a0.Atom) fun v68=>
 bif v68 then
 aa (sCF_ a0.Parts (fun y0=>ihF_ n y0)) fun v74=>
 some (!v74)
 else
 some false
 else
 some false
 else
 some false
 else
 aa (iiQ_2 a0.Op) fun v44=>
 bif v44 then
 aa (iiZ_1 a0.Atom) fun v68=>
 bif v68 then
 aa (sCF_ a0.Parts (fun y0=>ihF_ n y0)) fun v74=>
 some (!v74)
 else
 some false
 else
 bif decide (a0.Var=(⟨#[]⟩:ByteArray)) then
 aa (iiZ_1 a0.Atom) fun v68=>
 bif v68 then
 aa (sCF_ a0.Parts (fun y0=>ihF_ n y0)) fun v74=>
 some (!v74)
 else
 some false
 else
 some false
 else
 some false
 else
 aa (iiB_ a0.Op) fun v24=>
 bif v24 then
 bif decide ((a0.Parts.length:Int)=2) then
 aa (iiQ_2 a0.Op) fun v33=>
 bif v33 then
 aa (iiV_ a0.Var) fun v37=>
 bif v37 then
 aa (iiQ_2 a0.Op) fun v44=>
 bif v44 then
 aa (iiZ_1 a0.Atom) fun v68=>
 bif v68 then
 aa (sCF_ a0.Parts (fun y0=>ihF_ n y0)) fun v74=>
 some (!v74)
 else
 some false
 else
 bif decide (a0.Var=(⟨#[]⟩:ByteArray)) then
 aa (iiZ_1 a0.Atom) fun v68=>
 bif v68 then
 aa (sCF_ a0.Parts (fun y0=>ihF_ n y0)) fun v74=>
 some (!v74)
 else
 some false
 else
 some false
 else
 some false
 else
 aa (iiQ_2 a0.Op) fun v44=>
 bif v44 then
 aa (iiZ_1 a0.Atom) fun v68=>
 bif v68 then
 aa (sCF_ a0.Parts (fun y0=>ihF_ n y0)) fun v74=>
 some (!v74)
 else
 some false
 else
 bif decide (a0.Var=(⟨#[]⟩:ByteArray)) then
 aa (iiZ_1 a0.Atom) fun v68=>
 bif v68 then
 aa (sCF_ a0.Parts (fun y0=>ihF_ n y0)) fun v74=>
 some (!v74)
 else
 some false
 else
 some false
 else
 some false
 else
 some false
def ihF_:Nat→Ft→Option Bool
 | 0,_=>none
 | n+1,a0=>
 aa (ihF_1 n a0) fun v4=>
 some (!v4)
end
def ihF_3(a0:Ft):Option Bool:=lim fun n=>ihF_1 n a0
def ihF_5(a0:Ft):Option Bool:=lim fun n=>ihF_ n a0

def iIV_3(a0:Ft):Option Bool:=
 aa (isO_1 a0) fun v4=>
 bif decide (v4≤40) then
 aa (ihF_3 a0) fun v8=>
 some v8
 else
 some false

def iIV_7(a0:Ft):Option Bool:=
 aa (iIV_3 a0) fun v4=>
 some (!v4)

def iIV_6(a0:Sa):Option Bool:=
 bif decide ((a0.Left.length:Int)≤10) then
 bif decide ((a0.Right.length:Int)≤10) then
 aa (sCF_ a0.Left (fun y0=>iIV_7 y0)) fun v18=>
 bif v18 then
 some false
 else
 aa (sCF_ a0.Right (fun y0=>iIV_7 y0)) fun v25=>
 some (!v25)
 else
 some false
 else
 some false

def sEF_2(a0:List Tt)(a1:List Tt)(a2:Tt→Tt→Option Bool):Option Bool:=
 bif decide ((a0.length:Int)=(a1.length:Int)) then
 tL_ (ρ:=Bool) (σ:=Unit) (forN (fun (i4:Nat) (s4:Unit)=>
 aa (idx a0 (i4:Int)) fun v20=>
 aa (idx a1 (i4:Int)) fun v24=>
 aa (a2 v20 v24) fun v29=>
 bif v29 then
 some (.nx ())
 else
 some (.rt false)) a0.length 0 ()) fun s4=>
 some true
 else
 some false

def iET_:Nat→Tt→Tt→Option Bool
 | 0,_,_=>none
 | n+1,a0,a1=>
 bif decide (a0.Name=a1.Name) then
 aa (sEF_2 a0.Args a1.Args (fun y0 y1=>iET_ n y0 y1)) fun v15=>
 some v15
 else
 some false
def iET_1(a0:Tt)(a1:Tt):Option Bool:=lim fun n=>iET_ n a0 a1

def sEF_(a0:List Ft)(a1:List Ft)(a2:Ft→Ft→Option Bool):Option Bool:=
 bif decide ((a0.length:Int)=(a1.length:Int)) then
 tL_ (ρ:=Bool) (σ:=Unit) (forN (fun (i4:Nat) (s4:Unit)=>
 aa (idx a0 (i4:Int)) fun v20=>
 aa (idx a1 (i4:Int)) fun v24=>
 aa (a2 v20 v24) fun v29=>
 bif v29 then
 some (.nx ())
 else
 some (.rt false)) a0.length 0 ()) fun s4=>
 some true
 else
 some false

def isF_:Nat→Ft→Ft→Option Bool
 | 0,_,_=>none
 | n+1,a0,a1=>
 bif decide (a0.Op=a1.Op) then
 aa (iET_1 a0.Atom a1.Atom) fun v15=>
 bif v15 then
 bif decide (a0.Var=a1.Var) then
 aa (sEF_ a0.Parts a1.Parts (fun y0 y1=>isF_ n y0 y1)) fun v29=>
 some v29
 else
 some false
 else
 some false
 else
 some false
def isF_2(a0:Ft)(a1:Ft):Option Bool:=lim fun n=>isF_ n a0 a1

def iiQ_(a0:Int):Option Bool:=
 aa (iw_ a0 11 14) fun v4=>
 some v4

def imO_(a0:Int):Option (Bool×Int):=
 bif decide (a0=1) then
 some (true,(0:Int))
 else
 bif decide (a0=2) then
 some (false,(1:Int))
 else
 bif decide (a0=3) then
 some (decide (a0=3),(4:Int))
 else
 bif decide (a0=4) then
 some (decide (a0=3),(4:Int))
 else
 bif decide (a0=5) then
 some (decide (a0=5),(5:Int))
 else
 bif decide (a0=6) then
 some (decide (a0=5),(5:Int))
 else
 bif decide (a0=7) then
 some (decide (a0=7),(6:Int))
 else
 bif decide (a0=8) then
 some (decide (a0=7),(6:Int))
 else
 bif decide (a0=9) then
 some (decide (a0=9),(7:Int))
 else
 bif decide (a0=10) then
 some (decide (a0=9),(7:Int))
 else
 bif decide (a0=11) then
 some (decide (a0=11),(8:Int))
 else
 bif decide (a0=12) then
 some (decide (a0=11),(8:Int))
 else
 some (decide (a0=13),(9:Int))

def imF_(a0:Sa)(a1:Dt):Option (Ft×Bool):=
 aa (imO_ a1.Rule) fun v12=>
 bif v12.1 then
 aa (iw_ a1.Main 0 (IntKind.i64.wrap ((a0.Left.length:Int)-1))) fun v25=>
 bif v25 then
 bif decide (v12.2=0) then
 aa (idx a0.Left a1.Main) fun v45=>
 some (v45,true)
 else
 aa (idx a0.Left a1.Main) fun v34=>
 bif decide (v34.Op=v12.2) then
 aa (idx a0.Left a1.Main) fun v45=>
 some (v45,true)
 else
 some ((Ft.mk 0 (Tt.mk ⟨#[]⟩ ([])) (⟨#[]⟩:ByteArray) ([])),false)
 else
 some ((Ft.mk 0 (Tt.mk ⟨#[]⟩ ([])) (⟨#[]⟩:ByteArray) ([])),false)
 else
 aa (iw_ a1.Main 0 (IntKind.i64.wrap ((a0.Right.length:Int)-1))) fun v25=>
 bif v25 then
 bif decide (v12.2=0) then
 aa (idx a0.Right a1.Main) fun v45=>
 some (v45,true)
 else
 aa (idx a0.Right a1.Main) fun v34=>
 bif decide (v34.Op=v12.2) then
 aa (idx a0.Right a1.Main) fun v45=>
 some (v45,true)
 else
 some ((Ft.mk 0 (Tt.mk ⟨#[]⟩ ([])) (⟨#[]⟩:ByteArray) ([])),false)
 else
 some ((Ft.mk 0 (Tt.mk ⟨#[]⟩ ([])) (⟨#[]⟩:ByteArray) ([])),false)

def imR_(a0:Int):Option Bool:=
 bif decide (a0=11) then
 some true
 else
 some (decide (a0=14))

def iiV_2(a0:Tt):Option Bool:=
 aa (sidx a0.Name (0:Int)) fun v5=>
 aa (iiU_ v5) fun v6=>
 some v6

def icN_1:Nat→(List ByteArray)→Tt→Option (List ByteArray)
 | 0,_,_=>none
 | n+1,a0,a1=>
 bif decide ((a1.Args.length:Int)=0) then
 aa (iiV_2 a1) fun v13=>
 bif v13 then
 aa (sCS_ a0 a1.Name) fun v18=>
 bif v18 then
 some a0
 else
 aa (app a0 ([a1.Name])) fun v24=>
 some v24
 else
 tL_ (ρ:=(List ByteArray)) (σ:=(List ByteArray)) (forN (fun (i6:Nat) (s6:(List ByteArray))=>
 aa (idx a1.Args (i6:Int)) fun v31=>
 aa (icN_1 n s6 v31) fun v35=>
 some (.nx v35)) a1.Args.length 0 a0) fun s6=>
 some s6
 else
 tL_ (ρ:=(List ByteArray)) (σ:=(List ByteArray)) (forN (fun (i6:Nat) (s6:(List ByteArray))=>
 aa (idx a1.Args (i6:Int)) fun v31=>
 aa (icN_1 n s6 v31) fun v35=>
 some (.nx v35)) a1.Args.length 0 a0) fun s6=>
 some s6
def ic_1(a0:List ByteArray)(a1:Tt):Option (List ByteArray):=lim fun n=>icN_1 n a0 a1

def sB_(a:List ByteArray):List ByteArray:=((a.map fun x=>x.data.toList).mergeSort fun x y=>decide (x≤y)).map fun l=>⟨l.toArray⟩
def sSS_(a0:List ByteArray):Option (Unit×List ByteArray):=if a0.length<4611686018427387904 then some ((),sB_ a0) else none

def iv_(a0:Tt):Option (List ByteArray):=
 aa (ic_1 ([]) a0) fun v6=>
 aa (sSS_ v6) fun v8=>
 some v8.2

def sCS_3(a0:List ByteArray):Option (List ByteArray):=
 aa (app ([]) a0) fun v7=>
 some v7

def igN_:Nat→(List ByteArray)→Ft→(List ByteArray)→Option (List ByteArray)
 | 0,_,_,_=>none
 | n+1,a0,a1,a2=>
 bif decide (a1.Op=3) then
 aa (iv_ a1.Atom) fun v16=>
 tL_ (ρ:=(List ByteArray)) (σ:=(List ByteArray)) (forN (fun (i3:Nat) (s3:(List ByteArray))=>
 aa (idx v16 (i3:Int)) fun v20=>
 aa (idx v16 (i3:Int)) fun v21=>
 aa (sCS_ a2 v21) fun v24=>
 bif v24 then
 some (.nx s3)
 else
 aa (sCS_ s3 v21) fun v29=>
 bif v29 then
 some (.nx s3)
 else
 aa (app s3 ([v21])) fun v35=>
 some (.nx v35)) v16.length 0 a0) fun s3=>
 some s3
 else
 aa (iiQ_2 a1.Op) fun v40=>
 bif v40 then
 aa (sCS_3 a2) fun v42=>
 aa (app v42 ([a1.Var])) fun v46=>
 tL_ (ρ:=(List ByteArray)) (σ:=(List ByteArray)) (forN (fun (i12:Nat) (s12:(List ByteArray))=>
 aa (idx a1.Parts (i12:Int)) fun v52=>
 aa (igN_ n s12 v52 v46) fun v57=>
 some (.nx v57)) a1.Parts.length 0 a0) fun s12=>
 some s12
 else
 tL_ (ρ:=(List ByteArray)) (σ:=(List ByteArray)) (forN (fun (i12:Nat) (s12:(List ByteArray))=>
 aa (idx a1.Parts (i12:Int)) fun v52=>
 aa (igN_ n s12 v52 a2) fun v57=>
 some (.nx v57)) a1.Parts.length 0 a0) fun s12=>
 some s12
def ig_(a0:List ByteArray)(a1:Ft)(a2:List ByteArray):Option (List ByteArray):=lim fun n=>igN_ n a0 a1 a2

def if_(a0:Ft):Option (List ByteArray):=
 aa (ig_ ([]) a0 ([])) fun v6=>
 aa (sSS_ v6) fun v8=>
 some v8.2

def iiF_(a0:Ft)(b0:ByteArray):Option Bool:=
 aa (if_ a0) fun v5=>
 aa (sCS_ v5 b0) fun v7=>
 some v7

def iiF_2(a0:Sa)(a1:ByteArray):Option Bool:=
 aa (sCF_ a0.Left (fun y0=>iiF_ y0 a1)) fun v10=>
 bif v10 then
 some true
 else
 aa (sCF_ a0.Right (fun y0=>iiF_ y0 a1)) fun v15=>
 some v15

mutual
def icT_:Nat→Tt→Option Tt
 | 0,_=>none
 | n+1,a0=>
 aa (icT_1 n a0.Args) fun v7=>
 some (Tt.mk a0.Name v7)
def icT_1:Nat→(List Tt)→Option (List Tt)
 | 0,_=>none
 | n+1,a0=>
 bif decide ((a0.length:Int)=0) then
 some ([])
 else
 aa (mkn (a0.length:Int)) fun n11=>
 tL_ (ρ:=(List Tt)) (σ:=(List Tt)) (forN (fun (i5:Nat) (s5:(List Tt))=>
 aa (idx a0 (i5:Int)) fun v17=>
 aa (icT_ n v17) fun v22=>
 aa (idx s5 (i5:Int)) fun v23=>
 aa (idx s5 (i5:Int)) fun w3=>
 some (.nx (s5.set (i5:Int).toNat v22))) a0.length 0 (List.replicate n11 (Tt.mk ⟨#[]⟩ ([])))) fun s5=>
 some s5
end
def icT_2(a0:Tt):Option Tt:=lim fun n=>icT_ n a0
def icT_5(a0:List Tt):Option (List Tt):=lim fun n=>icT_1 n a0

def imP_2(a0:Ft)(a1:Ft→Option Ft):Option Ft:=
 aa (icT_2 a0.Atom) fun v12=>
 tL_ (ρ:=Ft) (σ:=(List Ft)) (forN (fun (i3:Nat) (s3:(List Ft))=>
 aa (idx a0.Parts (i3:Int)) fun v21=>
 aa (a1 v21) fun v27=>
 aa (app s3 ([v27])) fun v29=>
 some (.nx v29)) a0.Parts.length 0 ([])) fun s3=>
 some (Ft.mk a0.Op v12 a0.Var s3)

def icF_2:Nat→Ft→Option Ft
 | 0,_=>none
 | n+1,a0=>
 aa (imP_2 a0 (fun y0=>icF_2 n y0)) fun v4=>
 some v4
def icF_(a0:Ft):Option Ft:=lim fun n=>icF_2 n a0

def icN_:Nat→Tt→ByteArray→Option Int
 | 0,_,_=>none
 | n+1,a0,a1=>
 bif decide (a0.Name=a1) then
 tL_ (ρ:=Int) (σ:=Int) (forN (fun (i5:Nat) (s5:Int)=>
 aa (idx a0.Args (i5:Int)) fun v17=>
 aa (icN_ n v17 a1) fun v22=>
 some (.nx (IntKind.i64.wrap (s5+v22)))) a0.Args.length 0 (1:Int)) fun s5=>
 some s5
 else
 tL_ (ρ:=Int) (σ:=Int) (forN (fun (i5:Nat) (s5:Int)=>
 aa (idx a0.Args (i5:Int)) fun v17=>
 aa (icN_ n v17 a1) fun v22=>
 some (.nx (IntKind.i64.wrap (s5+v22)))) a0.Args.length 0 (0:Int)) fun s5=>
 some s5
def icN_2(a0:Tt)(a1:ByteArray):Option Int:=lim fun n=>icN_ n a0 a1

def io_(a0:ByteArray)(a1:Tt):Option Bool:=
 aa (icN_2 a1 a0) fun v7=>
 some (decide (0<v7))

def ciN_(a0:ByteArray):Option Bool:=
 some (!(decide (a0=a0)))

def cCs_(a0:ByteArray)(a1:ByteArray):Option Int:=
 aa (ciN_ a0) fun v8=>
 aa (ciN_ a1) fun v10=>
 bif v8 then
 bif v10 then
 some (0:Int)
 else
 some (-1:Int)
 else
 bif v10 then
 some (1:Int)
 else
 bif Op.bytesLess a0.data.toList a1.data.toList then
 some (-1:Int)
 else
 bif decide (a0=a1) then
 some (0:Int)
 else
 some (1:Int)

def iSt_(a0:Bt)(a1:ByteArray):Option Int:=
 aa (cCs_ a0.Var a1) fun v8=>
 some v8

def sBS_(a0:List Bt)(a1:ByteArray)(a2:Bt→ByteArray→Option Int):Option (Int×Bool):=
 tL_ (ρ:=(Int×Bool)) (σ:=Int×Int) (lim fun n3=>whileN (fun (s3:Int×Int)=>
 bif decide (s3.1<s3.2) then
 aa (shr .u64 (IntKind.u64.wrap (IntKind.i64.wrap (s3.1+s3.2))) (1:Int)) fun v22=>
 aa (idx a0 (IntKind.i64.wrap v22)) fun v27=>
 aa (a2 v27 a1) fun v30=>
 bif decide (v30<0) then
 some (.nx (IntKind.i64.wrap ((IntKind.i64.wrap v22)+1),s3.2))
 else
 some (.nx (s3.1,IntKind.i64.wrap v22))
 else
 some (.br s3)) n3 ((0:Int),(a0.length:Int))) fun s3=>
 bif decide (s3.1<(a0.length:Int)) then
 aa (idx a0 s3.1) fun v43=>
 aa (a2 v43 a1) fun v46=>
 some (s3.1,decide (v46=0))
 else
 some (s3.1,false)

def iSt_1(a0:Sb)(a1:ByteArray):Option (Tt×Bool):=
 aa (sBS_ a0.Bindings a1 (fun y0 y1=>iSt_ y0 y1)) fun v12=>
 bif v12.2 then
 aa (idx a0.Bindings v12.1) fun v21=>
 some (v21.Term,true)
 else
 some ((Tt.mk ⟨#[]⟩ ([])),false)

def iSa_:Nat→Sb→Tt→Option Tt
 | 0,_,_=>none
 | n+1,a0,a1=>
 bif decide ((a1.Args.length:Int)=0) then
 aa (iSt_1 a0 a1.Name) fun v18=>
 bif v18.2 then
 aa (icT_2 v18.1) fun v23=>
 some v23
 else
 some (Tt.mk a1.Name ([]))
 else
 aa (mkn (a1.Args.length:Int)) fun n32=>
 tL_ (ρ:=Tt) (σ:=(List Tt)) (forN (fun (i8:Nat) (s8:(List Tt))=>
 aa (idx a1.Args (i8:Int)) fun v40=>
 aa (iSa_ n a0 v40) fun v47=>
 aa (idx s8 (i8:Int)) fun v48=>
 aa (idx s8 (i8:Int)) fun w4=>
 some (.nx (s8.set (i8:Int).toNat v47))) a1.Args.length 0 (List.replicate n32 (Tt.mk ⟨#[]⟩ ([])))) fun s8=>
 some (Tt.mk a1.Name s8)
def iSa_1(a0:Sb)(a1:Tt):Option Tt:=lim fun n=>iSa_ n a0 a1

def imP_(a0:Ft)(a1:Ft→Bool→Option (Ft×Bool))(a1_s:Bool):Option (Ft×Bool):=
 aa (icT_2 a0.Atom) fun v12=>
 tL_ (ρ:=(Ft×Bool)) (σ:=Bool×(List Ft)) (forN (fun (i3:Nat) (s3:Bool×(List Ft))=>
 aa (idx a0.Parts (i3:Int)) fun v21=>
 aa (a1 v21 s3.1) fun v27=>
 aa (app s3.2 ([v27.1])) fun v29=>
 some (.nx (v27.2,v29))) a0.Parts.length 0 (a1_s,[])) fun s3=>
 some ((Ft.mk a0.Op v12 a0.Var s3.2),s3.1)

mutual
def isN_:Nat→Ft→ByteArray→Tt→Option (Ft×Bool)
 | 0,_,_,_=>none
 | n+1,a0,a1,a2=>
 aa (iiQ_2 a0.Op) fun v12=>
 bif v12 then
 bif decide (a0.Var=a1) then
 aa (icF_ a0) fun v27=>
 some (v27,true)
 else
 aa (if_ a0) fun v20=>
 aa (sCS_ v20 a1) fun v22=>
 bif v22 then
 aa (iiQ_2 a0.Op) fun v30=>
 bif v30 then
 aa (io_ a0.Var a2) fun v35=>
 bif v35 then
 some ((Ft.mk 0 (Tt.mk ⟨#[]⟩ ([])) (⟨#[]⟩:ByteArray) ([])),false)
 else
 aa (imP_ a0 (fun y0 s=>is1_ n y0 a1 a2 s) true) fun v40=>
 bif decide (a0.Op=3) then
 aa (iSa_1 (Sb.mk ([(Bt.mk a1 a2)])) a0.Atom) fun v51=>
 some ((Ft.mk v40.1.Op v51 v40.1.Var v40.1.Parts),v40.2)
 else
 some (v40.1,v40.2)
 else
 aa (imP_ a0 (fun y0 s=>is1_ n y0 a1 a2 s) true) fun v40=>
 bif decide (a0.Op=3) then
 aa (iSa_1 (Sb.mk ([(Bt.mk a1 a2)])) a0.Atom) fun v51=>
 some ((Ft.mk v40.1.Op v51 v40.1.Var v40.1.Parts),v40.2)
 else
 some (v40.1,v40.2)
 else
 aa (icF_ a0) fun v27=>
 some (v27,true)
 else
 aa (iiQ_2 a0.Op) fun v30=>
 bif v30 then
 aa (io_ a0.Var a2) fun v35=>
 bif v35 then
 some ((Ft.mk 0 (Tt.mk ⟨#[]⟩ ([])) (⟨#[]⟩:ByteArray) ([])),false)
 else
 aa (imP_ a0 (fun y0 s=>is1_ n y0 a1 a2 s) true) fun v40=>
 bif decide (a0.Op=3) then
 aa (iSa_1 (Sb.mk ([(Bt.mk a1 a2)])) a0.Atom) fun v51=>
 some ((Ft.mk v40.1.Op v51 v40.1.Var v40.1.Parts),v40.2)
 else
 some (v40.1,v40.2)
 else
 aa (imP_ a0 (fun y0 s=>is1_ n y0 a1 a2 s) true) fun v40=>
 bif decide (a0.Op=3) then
 aa (iSa_1 (Sb.mk ([(Bt.mk a1 a2)])) a0.Atom) fun v51=>
 some ((Ft.mk v40.1.Op v51 v40.1.Var v40.1.Parts),v40.2)
 else
 some (v40.1,v40.2)
def is1_:Nat→Ft→ByteArray→Tt→Bool→Option (Ft×Bool)
 | 0,_,_,_,_=>none
 | n+1,a0,b0,b1,b2=>
 aa (isN_ n a0 b0 b1) fun v12=>
 bif b2 then
 some (v12.1,v12.2)
 else
 some (v12.1,false)
end
def is_(a0:Ft)(a1:ByteArray)(a2:Tt):Option (Ft×Bool):=lim fun n=>isN_ n a0 a1 a2
def is1_1(a0:Ft)(b0:ByteArray)(b1:Tt)(b2:Bool):Option (Ft×Bool):=lim fun n=>is1_ n a0 b0 b1 b2

def iiF_1(a0:Ft):Option (Ft×Bool):=
 aa (iIV_3 a0) fun v5=>
 bif v5 then
 some (a0,true)
 else
 some ((Ft.mk 0 (Tt.mk ⟨#[]⟩ ([])) (⟨#[]⟩:ByteArray) ([])),false)


def iSF_(a0:Ft)(a1:ByteArray)(a2:Tt):Option (Ft×Bool):=
 aa (iIV_3 a0) fun v11=>
 bif v11 then
 aa (iiV_ a1) fun v15=>
 bif v15 then
 aa (iIV_8 a2) fun v20=>
 bif v20 then
 aa (is_ a0 a1 a2) fun v28=>
 bif v28.2 then
 aa (iiF_1 v28.1) fun v35=>
 some (v35.1,v35.2)
 else
 some ((Ft.mk 0 (Tt.mk ⟨#[]⟩ ([])) (⟨#[]⟩:ByteArray) ([])),false)
 else
 some ((Ft.mk 0 (Tt.mk ⟨#[]⟩ ([])) (⟨#[]⟩:ByteArray) ([])),false)
 else
 some ((Ft.mk 0 (Tt.mk ⟨#[]⟩ ([])) (⟨#[]⟩:ByteArray) ([])),false)
 else
 some ((Ft.mk 0 (Tt.mk ⟨#[]⟩ ([])) (⟨#[]⟩:ByteArray) ([])),false)

def ii_(a0:Sa)(a1:Dt)(a2:Ft):Option ((List Sa)×Bool):=
 aa (imR_ a1.Rule) fun v14=>
 bif v14 then
 aa (idx a2.Parts 0) fun v33=>
 aa (iSF_ v33 a2.Var a1.Term) fun v39=>
 bif v39.2 then
 aa (imO_ a1.Rule) fun v47=>
 bif v47.1 then
 some ([(Sa.mk ([v39.1]) ([]))],true)
 else
 some ([(Sa.mk ([]) ([v39.1]))],true)
 else
 some ([],false)
 else
 aa (iiV_ a1.Term.Name) fun v20=>
 bif v20 then
 aa (iiF_2 a0 a1.Term.Name) fun v27=>
 bif v27 then
 some ([],false)
 else
 aa (idx a2.Parts 0) fun v33=>
 aa (iSF_ v33 a2.Var a1.Term) fun v39=>
 bif v39.2 then
 aa (imO_ a1.Rule) fun v47=>
 bif v47.1 then
 some ([(Sa.mk ([v39.1]) ([]))],true)
 else
 some ([(Sa.mk ([]) ([v39.1]))],true)
 else
 some ([],false)
 else
 some ([],false)

def ia1_(a0:Int)(b0:Ft):Option (List Ft):=
 aa (idx b0.Parts a0) fun v7=>
 some ([v7])

def ia2_(a0:Ft)(b0:Ft):Option Bool:=
 aa (isF_2 b0 a0) fun v6=>
 some v6

def ia_(a0:Sa)(a1:Dt):Option ((List Sa)×Bool):=
 bif decide (a1.Rule=15) then
 bif decide (a1.Main=0) then
 aa (iiZ_1 a1.Term) fun v18=>
 bif v18 then
 aa (iIV_3 a1.Cut) fun v24=>
 bif v24 then
 some ([(Sa.mk ([]) ([a1.Cut])),(Sa.mk ([a1.Cut]) ([]))],true)
 else
 some ([],false)
 else
 some ([],false)
 else
 some ([],false)
 else
 aa (iw_ a1.Rule 1 15) fun v38=>
 bif v38 then
 aa (isF_2 a1.Cut (Ft.mk 0 (Tt.mk ⟨#[]⟩ ([])) (⟨#[]⟩:ByteArray) ([]))) fun v44=>
 bif v44 then
 aa (iiQ_ a1.Rule) fun v50=>
 aa (iiZ_1 a1.Term) fun v53=>
 bif v50==(!v53) then
 aa (imF_ a0 a1) fun v60=>
 bif v60.2 then
 aa (iiQ_ a1.Rule) fun v67=>
 bif v67 then
 aa (ii_ a0 a1 v60.1) fun v71=>
 some (v71.1,v71.2)
 else
 bif decide (a1.Rule=1) then
 bif decide (v60.1.Op=2) then
 some ([],true)
 else
 aa (sCF_ a0.Right (fun y0=>ia2_ y0 v60.1)) fun v86=>
 some ([],v86)
 else
 bif decide (a1.Rule=2) then
 some ([],true)
 else
 bif decide (a1.Rule=3) then
 aa (ia1_ 0 v60.1) fun v93=>
 some ([(Sa.mk ([]) v93)],true)
 else
 bif decide (a1.Rule=4) then
 aa (ia1_ 0 v60.1) fun v99=>
 some ([(Sa.mk v99 ([]))],true)
 else
 bif decide (a1.Rule=5) then
 some ([(Sa.mk v60.1.Parts ([]))],true)
 else
 bif decide (a1.Rule=6) then
 aa (ia1_ 0 v60.1) fun v111=>
 aa (ia1_ 1 v60.1) fun v114=>
 some ([(Sa.mk ([]) v111),(Sa.mk ([]) v114)],true)
 else
 bif decide (a1.Rule=7) then
 aa (ia1_ 0 v60.1) fun v120=>
 aa (ia1_ 1 v60.1) fun v123=>
 some ([(Sa.mk v120 ([])),(Sa.mk v123 ([]))],true)
 else
 bif decide (a1.Rule=8) then
 some ([(Sa.mk ([]) v60.1.Parts)],true)
 else
 bif decide (a1.Rule=9) then
 aa (ia1_ 0 v60.1) fun v135=>
 aa (ia1_ 1 v60.1) fun v138=>
 some ([(Sa.mk ([]) v135),(Sa.mk v138 ([]))],true)
 else
 aa (ia1_ 0 v60.1) fun v142=>
 aa (ia1_ 1 v60.1) fun v144=>
 some ([(Sa.mk v142 v144)],true)
 else
 some ([],false)
 else
 some ([],false)
 else
 some ([],false)
 else
 some ([],false)

def iDr_(a0:Dt)(a1:Bool)(a2:Int):Option Bool:=
 bif decide (a0.Rule=15) then
 some false
 else
 aa (imR_ a0.Rule) fun v15=>
 bif v15 then
 some false
 else
 aa (imO_ a0.Rule) fun v20=>
 bif v20.1==a1 then
 some (decide (a0.Main=a2))
 else
 some false

def iDr_1(a0:Dt)(a1:List Ft)(a2:Bool):Option (List Ft):=
 tL_ (ρ:=(List Ft)) (σ:=(List Ft)) (forN (fun (i3:Nat) (s3:(List Ft))=>
 aa (idx a1 (i3:Int)) fun v16=>
 aa (iDr_ a0 a2 (i3:Int)) fun v21=>
 bif v21 then
 some (.nx s3)
 else
 aa (app s3 ([v16])) fun v26=>
 some (.nx v26)) a1.length 0 ([])) fun s3=>
 some s3

def sGS_(a1:Int):Option (List Ft):=
 bif decide (a1<0) then
 none
 else
 bif decide (0<(IntKind.i64.wrap (a1-(IntKind.i64.wrap ((0:Int)-(([]:List Nat).length:Int)))))) then
 aa (appz (IntKind.i64.wrap (a1-(IntKind.i64.wrap ((0:Int)-(([]:List Nat).length:Int)))))) fun n22=>
 aa (slc (List.replicate n22 (Ft.mk 0 (Tt.mk ⟨#[]⟩ ([])) (⟨#[]⟩:ByteArray) ([]))) (0:Int) (([]:List Nat).length:Int)) fun v25=>
 some v25
 else
 some ([])

def sCS_1(a0:List (List Ft)):Option (List Ft):=
 tL_ (ρ:=(List Ft)) (σ:=Int) (forN (fun (i3:Nat) (s3:Int)=>
 aa (idx a0 (i3:Int)) fun v13=>
 bif decide ((IntKind.i64.wrap (s3+(v13.length:Int)))<0) then
 none
 else
 some (.nx (IntKind.i64.wrap (s3+(v13.length:Int))))) a0.length 0 (0:Int)) fun s3=>
 aa (sGS_ s3) fun v24=>
 tL_ (ρ:=(List Ft)) (σ:=(List Ft)) (forN (fun (i11:Nat) (s11:(List Ft))=>
 aa (idx a0 (i11:Int)) fun v29=>
 aa (app s11 v29) fun v33=>
 some (.nx v33)) a0.length 0 v24) fun s11=>
 some s11

def icF_3(a0:List Ft):Option (List Ft):=
 tL_ (ρ:=(List Ft)) (σ:=(List Ft)) (forN (fun (i3:Nat) (s3:(List Ft))=>
 aa (idx a0 (i3:Int)) fun v11=>
 aa (icF_ v11) fun v15=>
 aa (app s3 ([v15])) fun v17=>
 some (.nx v17)) a0.length 0 ([])) fun s3=>
 some s3

def icS_(a0:Sa):Option Sa:=
 aa (icF_3 a0.Left) fun v5=>
 aa (icF_3 a0.Right) fun v8=>
 some (Sa.mk v5 v8)

def ip_(a0:Sa)(a1:Dt):Option ((List Sa)×Bool):=
 aa (ia_ a0 a1) fun v15=>
 bif v15.2 then
 tL_ (ρ:=((List Sa)×Bool)) (σ:=(List Sa)) (forN (fun (i6:Nat) (s6:(List Sa))=>
 aa (idx v15.1 (i6:Int)) fun v25=>
 aa (iDr_1 a1 a0.Left true) fun v30=>
 aa (sCS_1 ([v30,v25.Left])) fun v34=>
 aa (iDr_1 a1 a0.Right false) fun v38=>
 aa (sCS_1 ([v38,v25.Right])) fun v42=>
 aa (icS_ (Sa.mk v34 v42)) fun v44=>
 aa (iIV_6 v44) fun v46=>
 bif v46 then
 aa (app s6 ([v44])) fun v51=>
 some (.nx v51)
 else
 some (.rt ([],false))) v15.1.length 0 ([])) fun s6=>
 some (s6,true)
 else
 some ([],false)

def iPO_(a0:Sa)(a1:Dt):Option ((List Sa)×Bool):=
 aa (iIV_6 a0) fun v7=>
 bif v7 then
 aa (ip_ a0 a1) fun v11=>
 some (v11.1,v11.2)
 else
 some ([],false)

def isF_1(a0:List Ft)(a1:List Ft):Option Bool:=
 aa (sEF_ a0 a1 (fun y0 y1=>isF_2 y0 y1)) fun v7=>
 some v7

def isS_(a0:Sa)(a1:Sa):Option Bool:=
 aa (isF_1 a0.Left a1.Left) fun v9=>
 bif v9 then
 aa (isF_1 a0.Right a1.Right) fun v15=>
 some v15
 else
 some false

def iiR_(a0:Sa)(a1:Dt):Option Bool:=
 aa (isS_ a0 a1.Sequent) fun v8=>
 some v8

def sEF_1(a0:List Sa)(a1:List Dt)(a2:Sa→Dt→Option Bool):Option Bool:=
 bif decide ((a0.length:Int)=(a1.length:Int)) then
 tL_ (ρ:=Bool) (σ:=Unit) (forN (fun (i4:Nat) (s4:Unit)=>
 aa (idx a0 (i4:Int)) fun v20=>
 aa (idx a1 (i4:Int)) fun v24=>
 aa (a2 v20 v24) fun v29=>
 bif v29 then
 some (.nx ())
 else
 some (.rt false)) a0.length 0 ()) fun s4=>
 some true
 else
 some false

def iiR_1(a0:Dt):Option Bool:=
 aa (iPO_ a0.Sequent a0) fun v9=>
 bif v9.2 then
 aa (sEF_1 v9.1 a0.Parts (fun y0 y1=>iiR_ y0 y1)) fun v17=>
 some v17
 else
 some false

def ifW_:Nat→Dt→Option ((List Int)×Bool)
 | 0,_=>none
 | n+1,a0=>
 aa (iiR_1 a0) fun v9=>
 bif v9 then
 tL_ (ρ:=((List Int)×Bool)) (σ:=Unit) (forN (fun (i4:Nat) (s4:Unit)=>
 aa (idx a0.Parts (i4:Int)) fun v18=>
 aa (ifW_ n v18) fun v22=>
 bif v22.2 then
 aa (app ([(i4:Int)]) v22.1) fun v29=>
 some (.rt (v29,true))
 else
 some (.nx ())) a0.Parts.length 0 ()) fun s4=>
 some ([],false)
 else
 some ([],true)
def ifW_1(a0:Dt):Option ((List Int)×Bool):=lim fun n=>ifW_ n a0

def iFW_(a0:Dt):Option ((List Int)×Bool×Bool):=
 aa (irN_1 a0) fun v8=>
 bif decide (60<v8) then
 some ([],false,false)
 else
 aa (ifW_1 a0) fun v12=>
 some (v12.1,v12.2,true)

def iIV_2(a0:Dt):Option Bool:=
 aa (iFW_ a0) fun v8=>
 bif v8.2.2 then
 some (!v8.2.1)
 else
 some false

def icD_1:Nat→Dt→Option Dt
 | 0,_=>none
 | n+1,a0=>
 aa (icS_ a0.Sequent) fun v10=>
 aa (icT_2 a0.Term) fun v15=>
 aa (icF_ a0.Cut) fun v18=>
 tL_ (ρ:=Dt) (σ:=(List Dt)) (forN (fun (i3:Nat) (s3:(List Dt))=>
 aa (idx a0.Parts (i3:Int)) fun v25=>
 aa (icD_1 n v25) fun v30=>
 aa (app s3 ([v30])) fun v32=>
 some (.nx v32)) a0.Parts.length 0 ([])) fun s3=>
 some (Dt.mk a0.Rule v10 a0.Main v15 v18 s3)
def icD_(a0:Dt):Option Dt:=lim fun n=>icD_1 n a0

def ic1_(a0:Ft)(b0:Ft):Option Bool:=
 aa (isF_2 b0 a0) fun v6=>
 some v6

def ic_(a0:Dt)(a1:Int):Option Bool:=
 aa (idx a0.Parts a1) fun v11=>
 bif decide (v11.Rule=2) then
 bif decide (a1=1) then
 some true
 else
 some (!(decide (v11.Main=(a0.Sequent.Right.length:Int))))
 else
 bif decide (v11.Rule=1) then
 bif decide (a1=1) then
 some (!(decide (v11.Main=(a0.Sequent.Left.length:Int))))
 else
 aa (idx v11.Sequent.Left v11.Main) fun v48=>
 bif decide (v48.Op=2) then
 some true
 else
 aa (sCF_ a0.Sequent.Right (fun y0=>ic1_ y0 v48)) fun v58=>
 some v58
 else
 some false

def il_(a0:Dt)(a1:Dt):Option Dt:=
 aa (icS_ a0.Sequent) fun v9=>
 some (Dt.mk a1.Rule v9 a1.Main (Tt.mk ⟨#[]⟩ ([])) (Ft.mk 0 (Tt.mk ⟨#[]⟩ ([])) (⟨#[]⟩:ByteArray) ([])) ([]))

def irF_2(a0:Ft)(a1:Bool):Option Int:=
 some (if 4≤a0.Op∧a0.Op≤7 then 2*a0.Op-5+(if a1 then 0 else 1) else 0)

def icO_(a0:Ft)(a1:Dt)(a2:Dt):Option Dt:=
 aa (icS_ a1.Sequent) fun v10=>
 aa (slc v10.Right (0:Int) (IntKind.i64.wrap ((v10.Right.length:Int)-1))) fun v17=>
 aa (icF_ a0) fun v21=>
 aa (icD_ a1) fun v23=>
 aa (icD_ a2) fun v25=>
 some (Dt.mk 15 (Sa.mk v10.Left v17) 0 (Tt.mk ⟨#[]⟩ ([])) v21 ([v23,v25]))

def sIF_3(a0:List Ft)(a1:Int)(a2:List Ft):Option (List Ft):=
 if 0≤a1∧a1≤a0.length∧a2.length=1∧a0.length≤1073741824 then some (a0.take a1.toNat++a2++a0.drop a1.toNat) else none

def iwN_:Nat→Dt→Ft→Bool→Int→Option Dt
 | 0,_,_,_,_=>none
 | n+1,a0,a1,a2,a3=>
 aa (icD_ a0) fun v18=>
 bif a2 then
 aa (icF_ a1) fun v30=>
 aa (sIF_3 v18.Sequent.Left a3 ([v30])) fun v32=>
 aa (bnd (a3)) fun N8=>
 tL_ (ρ:=Dt) (σ:=Int) (forN (fun (i8:Nat) (s8:Int)=>
 aa (iDr_ a0 a2 (i8:Int)) fun v42=>
 bif v42 then
 some (.nx (IntKind.i64.wrap (s8-1)))
 else
 some (.nx s8)) N8 0 a3) fun s8=>
 aa (imO_ a0.Rule) fun v49=>
 bif decide (a0.Rule=15) then
 tL_ (ρ:=Dt) (σ:=(List Dt)) (forN (fun (i17:Nat) (s17:(List Dt))=>
 aa (idx a0.Parts (i17:Int)) fun v76=>
 aa (iwN_ n v76 a1 a2 s8) fun v85=>
 aa (idx s17 (i17:Int)) fun v86=>
 aa (idx s17 (i17:Int)) fun w7=>
 some (.nx (s17.set (i17:Int).toNat v85))) a0.Parts.length 0 v18.Parts) fun s17=>
 some (Dt.mk v18.Rule (Sa.mk v32 v18.Sequent.Right) v18.Main v18.Term v18.Cut s17)
 else
 bif v49.1==true then
 bif decide (a3≤a0.Main) then
 tL_ (ρ:=Dt) (σ:=(List Dt)) (forN (fun (i17:Nat) (s17:(List Dt))=>
 aa (idx a0.Parts (i17:Int)) fun v76=>
 aa (iwN_ n v76 a1 a2 s8) fun v85=>
 aa (idx s17 (i17:Int)) fun v86=>
 aa (idx s17 (i17:Int)) fun w12=>
 some (.nx (s17.set (i17:Int).toNat v85))) a0.Parts.length 0 v18.Parts) fun s17=>
 some (Dt.mk v18.Rule (Sa.mk v32 v18.Sequent.Right) (IntKind.i64.wrap (v18.Main+1)) v18.Term v18.Cut s17)
 else
 tL_ (ρ:=Dt) (σ:=(List Dt)) (forN (fun (i17:Nat) (s17:(List Dt))=>
 aa (idx a0.Parts (i17:Int)) fun v76=>
 aa (iwN_ n v76 a1 a2 s8) fun v85=>
 aa (idx s17 (i17:Int)) fun v86=>
 aa (idx s17 (i17:Int)) fun w15=>
 some (.nx (s17.set (i17:Int).toNat v85))) a0.Parts.length 0 v18.Parts) fun s17=>
 some (Dt.mk v18.Rule (Sa.mk v32 v18.Sequent.Right) v18.Main v18.Term v18.Cut s17)
 else
 tL_ (ρ:=Dt) (σ:=(List Dt)) (forN (fun (i17:Nat) (s17:(List Dt))=>
 aa (idx a0.Parts (i17:Int)) fun v76=>
 aa (iwN_ n v76 a1 a2 s8) fun v85=>
 aa (idx s17 (i17:Int)) fun v86=>
 aa (idx s17 (i17:Int)) fun w18=>
 some (.nx (s17.set (i17:Int).toNat v85))) a0.Parts.length 0 v18.Parts) fun s17=>
 some (Dt.mk v18.Rule (Sa.mk v32 v18.Sequent.Right) v18.Main v18.Term v18.Cut s17)
 else
 aa (icF_ a1) fun v30=>
 aa (sIF_3 v18.Sequent.Right a3 ([v30])) fun v32=>
 aa (bnd (a3)) fun N8=>
 tL_ (ρ:=Dt) (σ:=Int) (forN (fun (i8:Nat) (s8:Int)=>
 aa (iDr_ a0 a2 (i8:Int)) fun v42=>
 bif v42 then
 some (.nx (IntKind.i64.wrap (s8-1)))
 else
 some (.nx s8)) N8 0 a3) fun s8=>
 aa (imO_ a0.Rule) fun v49=>
 bif decide (a0.Rule=15) then
 tL_ (ρ:=Dt) (σ:=(List Dt)) (forN (fun (i17:Nat) (s17:(List Dt))=>
 aa (idx a0.Parts (i17:Int)) fun v76=>
 aa (iwN_ n v76 a1 a2 s8) fun v85=>
 aa (idx s17 (i17:Int)) fun v86=>
 aa (idx s17 (i17:Int)) fun w25=>
 some (.nx (s17.set (i17:Int).toNat v85))) a0.Parts.length 0 v18.Parts) fun s17=>
 some (Dt.mk v18.Rule (Sa.mk v18.Sequent.Left v32) v18.Main v18.Term v18.Cut s17)
 else
 bif v49.1==false then
 bif decide (a3≤a0.Main) then
 tL_ (ρ:=Dt) (σ:=(List Dt)) (forN (fun (i17:Nat) (s17:(List Dt))=>
 aa (idx a0.Parts (i17:Int)) fun v76=>
 aa (iwN_ n v76 a1 a2 s8) fun v85=>
 aa (idx s17 (i17:Int)) fun v86=>
 aa (idx s17 (i17:Int)) fun w30=>
 some (.nx (s17.set (i17:Int).toNat v85))) a0.Parts.length 0 v18.Parts) fun s17=>
 some (Dt.mk v18.Rule (Sa.mk v18.Sequent.Left v32) (IntKind.i64.wrap (v18.Main+1)) v18.Term v18.Cut s17)
 else
 tL_ (ρ:=Dt) (σ:=(List Dt)) (forN (fun (i17:Nat) (s17:(List Dt))=>
 aa (idx a0.Parts (i17:Int)) fun v76=>
 aa (iwN_ n v76 a1 a2 s8) fun v85=>
 aa (idx s17 (i17:Int)) fun v86=>
 aa (idx s17 (i17:Int)) fun w33=>
 some (.nx (s17.set (i17:Int).toNat v85))) a0.Parts.length 0 v18.Parts) fun s17=>
 some (Dt.mk v18.Rule (Sa.mk v18.Sequent.Left v32) v18.Main v18.Term v18.Cut s17)
 else
 tL_ (ρ:=Dt) (σ:=(List Dt)) (forN (fun (i17:Nat) (s17:(List Dt))=>
 aa (idx a0.Parts (i17:Int)) fun v76=>
 aa (iwN_ n v76 a1 a2 s8) fun v85=>
 aa (idx s17 (i17:Int)) fun v86=>
 aa (idx s17 (i17:Int)) fun w36=>
 some (.nx (s17.set (i17:Int).toNat v85))) a0.Parts.length 0 v18.Parts) fun s17=>
 some (Dt.mk v18.Rule (Sa.mk v18.Sequent.Left v32) v18.Main v18.Term v18.Cut s17)
def iw_1(a0:Dt)(a1:Ft)(a2:Bool)(a3:Int):Option Dt:=lim fun n=>iwN_ n a0 a1 a2 a3

def iiD_(a0:Dt):Option (Dt×Bool):=
 aa (iIV_2 a0) fun v5=>
 bif v5 then
 some (a0,true)
 else
 some ((Dt.mk 0 (Sa.mk ([]) ([])) (0:Int) (Tt.mk ⟨#[]⟩ ([])) (Ft.mk 0 (Tt.mk ⟨#[]⟩ ([])) (⟨#[]⟩:ByteArray) ([])) ([])),false)


def iWA_(a0:Dt)(a1:Ft)(a2:Bool)(a3:Int):Option (Dt×Bool):=
 bif a2 then
 aa (iIV_2 a0) fun v19=>
 bif v19 then
 aa (iIV_3 a1) fun v23=>
 bif v23 then
 aa (iw_ a3 0 (a0.Sequent.Left.length:Int)) fun v30=>
 bif v30 then
 aa (iw_1 a0 a1 a2 a3) fun v38=>
 aa (iiD_ v38) fun v39=>
 some (v39.1,v39.2)
 else
 some ((Dt.mk 0 (Sa.mk ([]) ([])) (0:Int) (Tt.mk ⟨#[]⟩ ([])) (Ft.mk 0 (Tt.mk ⟨#[]⟩ ([])) (⟨#[]⟩:ByteArray) ([])) ([])),false)
 else
 some ((Dt.mk 0 (Sa.mk ([]) ([])) (0:Int) (Tt.mk ⟨#[]⟩ ([])) (Ft.mk 0 (Tt.mk ⟨#[]⟩ ([])) (⟨#[]⟩:ByteArray) ([])) ([])),false)
 else
 some ((Dt.mk 0 (Sa.mk ([]) ([])) (0:Int) (Tt.mk ⟨#[]⟩ ([])) (Ft.mk 0 (Tt.mk ⟨#[]⟩ ([])) (⟨#[]⟩:ByteArray) ([])) ([])),false)
 else
 aa (iIV_2 a0) fun v19=>
 bif v19 then
 aa (iIV_3 a1) fun v23=>
 bif v23 then
 aa (iw_ a3 0 (a0.Sequent.Right.length:Int)) fun v30=>
 bif v30 then
 aa (iw_1 a0 a1 a2 a3) fun v38=>
 aa (iiD_ v38) fun v39=>
 some (v39.1,v39.2)
 else
 some ((Dt.mk 0 (Sa.mk ([]) ([])) (0:Int) (Tt.mk ⟨#[]⟩ ([])) (Ft.mk 0 (Tt.mk ⟨#[]⟩ ([])) (⟨#[]⟩:ByteArray) ([])) ([])),false)
 else
 some ((Dt.mk 0 (Sa.mk ([]) ([])) (0:Int) (Tt.mk ⟨#[]⟩ ([])) (Ft.mk 0 (Tt.mk ⟨#[]⟩ ([])) (⟨#[]⟩:ByteArray) ([])) ([])),false)
 else
 some ((Dt.mk 0 (Sa.mk ([]) ([])) (0:Int) (Tt.mk ⟨#[]⟩ ([])) (Ft.mk 0 (Tt.mk ⟨#[]⟩ ([])) (⟨#[]⟩:ByteArray) ([])) ([])),false)

def ir_(a0:Dt):Option (Dt×Bool×Bool):=
 tL_ (ρ:=(Dt×Bool×Bool)) (σ:=Unit) (forN (fun (i2:Nat) (s2:Unit)=>
 aa (idx a0.Parts (i2:Int)) fun v26=>
 aa (ic_ a0 (i2:Int)) fun v30=>
 bif v30 then
 aa (il_ a0 v26) fun v33=>
 some (.rt (v33,true,true))
 else
 some (.nx ())) a0.Parts.length 0 ()) fun s2=>
 aa (idx a0.Parts 0) fun v37=>
 aa (idx a0.Parts 1) fun v41=>
 aa (irF_2 a0.Cut true) fun v53=>
 bif decide (v53=0) then
 some ((Dt.mk 0 (Sa.mk ([]) ([])) (0:Int) (Tt.mk ⟨#[]⟩ ([])) (Ft.mk 0 (Tt.mk ⟨#[]⟩ ([])) (⟨#[]⟩:ByteArray) ([])) ([])),false,true)
 else
 bif decide (v37.Rule=(IntKind.i64.wrap (v53+1))) then
 bif decide (v41.Rule=v53) then
 bif decide (v37.Main=(a0.Sequent.Right.length:Int)) then
 bif decide (v41.Main=(a0.Sequent.Left.length:Int)) then
 aa (idx a0.Cut.Parts 0) fun v85=>
 bif decide (a0.Cut.Op=4) then
 aa (idx v41.Parts 0) fun v94=>
 aa (idx v37.Parts 0) fun v98=>
 aa (icO_ v85 v94 v98) fun v100=>
 some (v100,true,true)
 else
 aa (idx a0.Cut.Parts 1) fun v104=>
 bif decide (a0.Cut.Op=5) then
 aa (idx v37.Parts 1) fun v114=>
 aa (iWA_ v114 v85 true (a0.Sequent.Left.length:Int)) fun v118=>
 bif v118.2 then
 aa (idx v37.Parts 0) fun v127=>
 aa (idx v41.Parts 0) fun v133=>
 aa (icO_ v104 v118.1 v133) fun v135=>
 aa (icO_ v85 v127 v135) fun v136=>
 some (v136,true,true)
 else
 some ((Dt.mk 0 (Sa.mk ([]) ([])) (0:Int) (Tt.mk ⟨#[]⟩ ([])) (Ft.mk 0 (Tt.mk ⟨#[]⟩ ([])) (⟨#[]⟩:ByteArray) ([])) ([])),true,false)
 else
 bif decide (a0.Cut.Op=6) then
 aa (idx v41.Parts 1) fun v142=>
 aa (iWA_ v142 v85 false (a0.Sequent.Right.length:Int)) fun v146=>
 bif v146.2 then
 aa (idx v37.Parts 0) fun v156=>
 aa (icO_ v104 v156 v146.1) fun v159=>
 aa (idx v41.Parts 0) fun v162=>
 aa (icO_ v85 v159 v162) fun v164=>
 some (v164,true,true)
 else
 some ((Dt.mk 0 (Sa.mk ([]) ([])) (0:Int) (Tt.mk ⟨#[]⟩ ([])) (Ft.mk 0 (Tt.mk ⟨#[]⟩ ([])) (⟨#[]⟩:ByteArray) ([])) ([])),true,false)
 else
 aa (idx v41.Parts 1) fun v168=>
 aa (iWA_ v168 v85 true (a0.Sequent.Left.length:Int)) fun v172=>
 bif v172.2 then
 aa (idx v41.Parts 0) fun v181=>
 aa (idx v37.Parts 0) fun v186=>
 aa (icO_ v104 v186 v172.1) fun v189=>
 aa (icO_ v85 v181 v189) fun v190=>
 some (v190,true,true)
 else
 some ((Dt.mk 0 (Sa.mk ([]) ([])) (0:Int) (Tt.mk ⟨#[]⟩ ([])) (Ft.mk 0 (Tt.mk ⟨#[]⟩ ([])) (⟨#[]⟩:ByteArray) ([])) ([])),true,false)
 else
 some ((Dt.mk 0 (Sa.mk ([]) ([])) (0:Int) (Tt.mk ⟨#[]⟩ ([])) (Ft.mk 0 (Tt.mk ⟨#[]⟩ ([])) (⟨#[]⟩:ByteArray) ([])) ([])),false,true)
 else
 some ((Dt.mk 0 (Sa.mk ([]) ([])) (0:Int) (Tt.mk ⟨#[]⟩ ([])) (Ft.mk 0 (Tt.mk ⟨#[]⟩ ([])) (⟨#[]⟩:ByteArray) ([])) ([])),false,true)
 else
 some ((Dt.mk 0 (Sa.mk ([]) ([])) (0:Int) (Tt.mk ⟨#[]⟩ ([])) (Ft.mk 0 (Tt.mk ⟨#[]⟩ ([])) (⟨#[]⟩:ByteArray) ([])) ([])),false,true)
 else
 some ((Dt.mk 0 (Sa.mk ([]) ([])) (0:Int) (Tt.mk ⟨#[]⟩ ([])) (Ft.mk 0 (Tt.mk ⟨#[]⟩ ([])) (⟨#[]⟩:ByteArray) ([])) ([])),false,true)

def irF_:Nat→Dt→Option (Dt×Bool×Bool)
 | 0,_=>none
 | n+1,a0=>
 bif decide (a0.Rule=15) then
 aa (ir_ a0) fun v19=>
 bif v19.2.1 then
 some (v19.1,true,v19.2.2)
 else
 tL_ (ρ:=(Dt×Bool×Bool)) (σ:=Unit) (forN (fun (i6:Nat) (s6:Unit)=>
 aa (idx a0.Parts (i6:Int)) fun v32=>
 aa (irF_ n v32) fun v36=>
 bif v36.2.1 then
 aa (icD_ a0) fun v42=>
 aa (idx v42.Parts (i6:Int)) fun v47=>
 aa (idx v42.Parts (i6:Int)) fun w5=>
 some (.rt ((Dt.mk v42.Rule v42.Sequent v42.Main v42.Term v42.Cut (v42.Parts.set (i6:Int).toNat v36.1)),true,v36.2.2))
 else
 some (.nx ())) a0.Parts.length 0 ()) fun s6=>
 some ((Dt.mk 0 (Sa.mk ([]) ([])) (0:Int) (Tt.mk ⟨#[]⟩ ([])) (Ft.mk 0 (Tt.mk ⟨#[]⟩ ([])) (⟨#[]⟩:ByteArray) ([])) ([])),false,true)
 else
 tL_ (ρ:=(Dt×Bool×Bool)) (σ:=Unit) (forN (fun (i6:Nat) (s6:Unit)=>
 aa (idx a0.Parts (i6:Int)) fun v32=>
 aa (irF_ n v32) fun v36=>
 bif v36.2.1 then
 aa (icD_ a0) fun v42=>
 aa (idx v42.Parts (i6:Int)) fun v47=>
 aa (idx v42.Parts (i6:Int)) fun w9=>
 some (.rt ((Dt.mk v42.Rule v42.Sequent v42.Main v42.Term v42.Cut (v42.Parts.set (i6:Int).toNat v36.1)),true,v36.2.2))
 else
 some (.nx ())) a0.Parts.length 0 ()) fun s6=>
 some ((Dt.mk 0 (Sa.mk ([]) ([])) (0:Int) (Tt.mk ⟨#[]⟩ ([])) (Ft.mk 0 (Tt.mk ⟨#[]⟩ ([])) (⟨#[]⟩:ByteArray) ([])) ([])),false,true)
def irF_1(a0:Dt):Option (Dt×Bool×Bool):=lim fun n=>irF_ n a0

def iRC_(a0:Dt):Option (Dt×Bool):=
 aa (iIV_2 a0) fun v8=>
 bif v8 then
 aa (irF_1 a0) fun v13=>
 bif v13.2.1 then
 bif v13.2.2 then
 aa (iiD_ v13.1) fun v25=>
 some (v25.1,v25.2)
 else
 some ((Dt.mk 0 (Sa.mk ([]) ([])) (0:Int) (Tt.mk ⟨#[]⟩ ([])) (Ft.mk 0 (Tt.mk ⟨#[]⟩ ([])) (⟨#[]⟩:ByteArray) ([])) ([])),false)
 else
 some ((Dt.mk 0 (Sa.mk ([]) ([])) (0:Int) (Tt.mk ⟨#[]⟩ ([])) (Ft.mk 0 (Tt.mk ⟨#[]⟩ ([])) (⟨#[]⟩:ByteArray) ([])) ([])),false)
 else
 some ((Dt.mk 0 (Sa.mk ([]) ([])) (0:Int) (Tt.mk ⟨#[]⟩ ([])) (Ft.mk 0 (Tt.mk ⟨#[]⟩ ([])) (⟨#[]⟩:ByteArray) ([])) ([])),false)

def iEC_(a0:Dt)(a1:Int):Option (Dt×Int×Bool):=
 aa (iIV_2 a0) fun v12=>
 bif v12 then
 aa (iw_ a1 0 60) fun v16=>
 bif v16 then
 aa (icD_ a0) fun v21=>
 aa (bnd (a1)) fun N5=>
 tL_ (ρ:=(Dt×Int×Bool)) (σ:=Int×(List Ft)×(List Ft)×Int×ByteArray×(List Tt)×Int×ByteArray×(List Tt)×ByteArray×(List Ft)×(List Dt)) (forN (fun (i5:Nat) (s5:Int×(List Ft)×(List Ft)×Int×ByteArray×(List Tt)×Int×ByteArray×(List Tt)×ByteArray×(List Ft)×(List Dt))=>
 aa (iRC_ (Dt.mk s5.1 (Sa.mk s5.2.1 s5.2.2.1) s5.2.2.2.1 (Tt.mk s5.2.2.2.2.1 s5.2.2.2.2.2.1) (Ft.mk s5.2.2.2.2.2.2.1 (Tt.mk s5.2.2.2.2.2.2.2.1 s5.2.2.2.2.2.2.2.2.1) s5.2.2.2.2.2.2.2.2.2.1 s5.2.2.2.2.2.2.2.2.2.2.1) s5.2.2.2.2.2.2.2.2.2.2.2)) fun v28=>
 bif v28.2 then
 some (.nx (v28.1.Rule,v28.1.Sequent.Left,v28.1.Sequent.Right,v28.1.Main,v28.1.Term.Name,v28.1.Term.Args,v28.1.Cut.Op,v28.1.Cut.Atom.Name,v28.1.Cut.Atom.Args,v28.1.Cut.Var,v28.1.Cut.Parts,v28.1.Parts))
 else
 some (.rt ((Dt.mk s5.1 (Sa.mk s5.2.1 s5.2.2.1) s5.2.2.2.1 (Tt.mk s5.2.2.2.2.1 s5.2.2.2.2.2.1) (Ft.mk s5.2.2.2.2.2.2.1 (Tt.mk s5.2.2.2.2.2.2.2.1 s5.2.2.2.2.2.2.2.2.1) s5.2.2.2.2.2.2.2.2.2.1 s5.2.2.2.2.2.2.2.2.2.2.1) s5.2.2.2.2.2.2.2.2.2.2.2),(i5:Int),true))) N5 0 (v21.Rule,v21.Sequent.Left,v21.Sequent.Right,v21.Main,v21.Term.Name,v21.Term.Args,v21.Cut.Op,v21.Cut.Atom.Name,v21.Cut.Atom.Args,v21.Cut.Var,v21.Cut.Parts,v21.Parts)) fun s5=>
 some ((Dt.mk s5.1 (Sa.mk s5.2.1 s5.2.2.1) s5.2.2.2.1 (Tt.mk s5.2.2.2.2.1 s5.2.2.2.2.2.1) (Ft.mk s5.2.2.2.2.2.2.1 (Tt.mk s5.2.2.2.2.2.2.2.1 s5.2.2.2.2.2.2.2.2.1) s5.2.2.2.2.2.2.2.2.2.1 s5.2.2.2.2.2.2.2.2.2.2.1) s5.2.2.2.2.2.2.2.2.2.2.2),a1,true)
 else
 some ((Dt.mk 0 (Sa.mk ([]) ([])) (0:Int) (Tt.mk ⟨#[]⟩ ([])) (Ft.mk 0 (Tt.mk ⟨#[]⟩ ([])) (⟨#[]⟩:ByteArray) ([])) ([])),(0:Int),false)
 else
 some ((Dt.mk 0 (Sa.mk ([]) ([])) (0:Int) (Tt.mk ⟨#[]⟩ ([])) (Ft.mk 0 (Tt.mk ⟨#[]⟩ ([])) (⟨#[]⟩:ByteArray) ([])) ([])),(0:Int),false)

mutual
def eTN_:Nat→Tt→Tt→Option Bool
 | 0,_,_=>none
 | n+1,a0,a1=>
 bif decide (a0.Name=a1.Name) then
 aa (eTS_ n a0.Args a1.Args) fun v14=>
 bif v14 then
 some true
 else
 some false
 else
 some false
def eTS_:Nat→(List Tt)→(List Tt)→Option Bool
 | 0,_,_=>none
 | n+1,a0,a1=>
 bif decide ((a0.length:Int)=(a1.length:Int)) then
 tL_ (ρ:=Bool) (σ:=Unit) (forN (fun (i4:Nat) (s4:Unit)=>
 aa (idx a0 (i4:Int)) fun v19=>
 aa (idx a1 (i4:Int)) fun v23=>
 aa (eTN_ n v19 v23) fun v25=>
 bif v25 then
 some (.nx ())
 else
 some (.rt false)) a0.length 0 ()) fun s4=>
 some true
 else
 some false
end
def eT_(a0:Tt)(a1:Tt):Option Bool:=lim fun n=>eTN_ n a0 a1
def eTS_1(a0:List Tt)(a1:List Tt):Option Bool:=lim fun n=>eTS_ n a0 a1

mutual
def eFN_:Nat→Ft→Ft→Option Bool
 | 0,_,_=>none
 | n+1,a0,a1=>
 bif decide (a0.Op=a1.Op) then
 aa (eT_ a0.Atom a1.Atom) fun v14=>
 bif v14 then
 bif decide (a0.Var=a1.Var) then
 aa (eFS_ n a0.Parts a1.Parts) fun v25=>
 bif v25 then
 some true
 else
 some false
 else
 some false
 else
 some false
 else
 some false
def eFS_:Nat→(List Ft)→(List Ft)→Option Bool
 | 0,_,_=>none
 | n+1,a0,a1=>
 bif decide ((a0.length:Int)=(a1.length:Int)) then
 tL_ (ρ:=Bool) (σ:=Unit) (forN (fun (i4:Nat) (s4:Unit)=>
 aa (idx a0 (i4:Int)) fun v19=>
 aa (idx a1 (i4:Int)) fun v23=>
 aa (eFN_ n v19 v23) fun v25=>
 bif v25 then
 some (.nx ())
 else
 some (.rt false)) a0.length 0 ()) fun s4=>
 some true
 else
 some false
end
def eF_(a0:Ft)(a1:Ft):Option Bool:=lim fun n=>eFN_ n a0 a1
def eFS_1(a0:List Ft)(a1:List Ft):Option Bool:=lim fun n=>eFS_ n a0 a1

def eS_1(a0:Sa)(a1:Sa):Option Bool:=
 aa (eFS_1 a0.Left a1.Left) fun v9=>
 bif v9 then
 aa (eFS_1 a0.Right a1.Right) fun v15=>
 bif v15 then
 some true
 else
 some false
 else
 some false

mutual
def eDN_:Nat→Dt→Dt→Option Bool
 | 0,_,_=>none
 | n+1,a0,a1=>
 bif decide (a0.Rule=a1.Rule) then
 aa (eS_1 a0.Sequent a1.Sequent) fun v14=>
 bif v14 then
 bif decide (a0.Main=a1.Main) then
 aa (eT_ a0.Term a1.Term) fun v25=>
 bif v25 then
 aa (eF_ a0.Cut a1.Cut) fun v31=>
 bif v31 then
 aa (eDS_ n a0.Parts a1.Parts) fun v37=>
 bif v37 then
 some true
 else
 some false
 else
 some false
 else
 some false
 else
 some false
 else
 some false
 else
 some false
def eDS_:Nat→(List Dt)→(List Dt)→Option Bool
 | 0,_,_=>none
 | n+1,a0,a1=>
 bif decide ((a0.length:Int)=(a1.length:Int)) then
 tL_ (ρ:=Bool) (σ:=Unit) (forN (fun (i4:Nat) (s4:Unit)=>
 aa (idx a0 (i4:Int)) fun v19=>
 aa (idx a1 (i4:Int)) fun v23=>
 aa (eDN_ n v19 v23) fun v25=>
 bif v25 then
 some (.nx ())
 else
 some (.rt false)) a0.length 0 ()) fun s4=>
 some true
 else
 some false
end
def eD_(a0:Dt)(a1:Dt):Option Bool:=lim fun n=>eDN_ n a0 a1
def eDS_1(a0:List Dt)(a1:List Dt):Option Bool:=lim fun n=>eDS_ n a0 a1

def mT_(a0:Int):Option ByteArray:=
 bif decide (a0≤0) then
 some (⟨#[109,48]⟩:ByteArray)
 else
 tL_ (ρ:=ByteArray) (σ:=Int×ByteArray) (lim fun n4=>whileN (fun (s4:Int×ByteArray)=>
 bif decide (0<s4.1) then
 aa (rem s4.1 (10:Int)) fun v9=>
 aa (bstr ([IntKind.u8.wrap (IntKind.i64.wrap ((48:Int)+v9))])) fun v13=>
 aa (sapp v13 s4.2) fun v15=>
 aa (quo s4.1 (10:Int)) fun v17=>
 some (.nx (v17,v15))
 else
 some (.br s4)) n4 (a0,(⟨#[]⟩:ByteArray))) fun s4=>
 aa (sapp (⟨#[109]⟩:ByteArray) s4.2) fun v19=>
 some v19

def mTS_1:Nat→(List Tt)→Int→Option (Int×(List Tt))
 | 0,_,_=>none
 | n+1,a0,a1=>
 tL_ (ρ:=(Int×(List Tt))) (σ:=(List Tt)×Int×Int) (lim fun n2=>whileN (fun (s2:(List Tt)×Int×Int)=>
 bif decide (s2.2.2<(s2.1.length:Int)) then
 aa (mT_ s2.2.1) fun v15=>
 aa (idx s2.1 s2.2.2) fun v16=>
 aa (idx s2.1 s2.2.2) fun w2=>
 aa (idx (s2.1.set s2.2.2.toNat (Tt.mk v15 w2.Args)) s2.2.2) fun v22=>
 aa (idx (s2.1.set s2.2.2.toNat (Tt.mk v15 w2.Args)) s2.2.2) fun w3=>
 aa (mTS_1 n w3.Args (IntKind.i64.wrap (s2.2.1+1))) fun v26=>
 some (.nx ((s2.1.set s2.2.2.toNat (Tt.mk v15 w2.Args)).set s2.2.2.toNat (Tt.mk w3.Name v26.2),v26.1,IntKind.i64.wrap (s2.2.2+1)))
 else
 some (.br s2)) n2 (a0,a1,(0:Int))) fun s2=>
 some (s2.2.1,s2.1)
def mTS_3(a0:List Tt)(a1:Int):Option (Int×(List Tt)):=lim fun n=>mTS_1 n a0 a1

def mFS_1:Nat→(List Ft)→Int→Option (Int×(List Ft))
 | 0,_,_=>none
 | n+1,a0,a1=>
 tL_ (ρ:=(Int×(List Ft))) (σ:=(List Ft)×Int×Int) (lim fun n2=>whileN (fun (s2:(List Ft)×Int×Int)=>
 bif decide (s2.2.2<(s2.1.length:Int)) then
 aa (idx s2.1 s2.2.2) fun v15=>
 aa (idx s2.1 s2.2.2) fun w2=>
 aa (mT_ (IntKind.i64.wrap (s2.2.1+1))) fun v22=>
 aa (idx (s2.1.set s2.2.2.toNat (Ft.mk s2.2.1 w2.Atom w2.Var w2.Parts)) s2.2.2) fun v23=>
 aa (idx (s2.1.set s2.2.2.toNat (Ft.mk s2.2.1 w2.Atom w2.Var w2.Parts)) s2.2.2) fun w3=>
 aa (idx ((s2.1.set s2.2.2.toNat (Ft.mk s2.2.1 w2.Atom w2.Var w2.Parts)).set s2.2.2.toNat (Ft.mk w3.Op (Tt.mk v22 w3.Atom.Args) w3.Var w3.Parts)) s2.2.2) fun v30=>
 aa (idx ((s2.1.set s2.2.2.toNat (Ft.mk s2.2.1 w2.Atom w2.Var w2.Parts)).set s2.2.2.toNat (Ft.mk w3.Op (Tt.mk v22 w3.Atom.Args) w3.Var w3.Parts)) s2.2.2) fun w4=>
 aa (mTS_3 w4.Atom.Args (IntKind.i64.wrap ((IntKind.i64.wrap (s2.2.1+1))+1))) fun v35=>
 aa (mT_ v35.1) fun v39=>
 aa (idx (((s2.1.set s2.2.2.toNat (Ft.mk s2.2.1 w2.Atom w2.Var w2.Parts)).set s2.2.2.toNat (Ft.mk w3.Op (Tt.mk v22 w3.Atom.Args) w3.Var w3.Parts)).set s2.2.2.toNat (Ft.mk w4.Op (Tt.mk w4.Atom.Name v35.2) w4.Var w4.Parts)) s2.2.2) fun v40=>
 aa (idx (((s2.1.set s2.2.2.toNat (Ft.mk s2.2.1 w2.Atom w2.Var w2.Parts)).set s2.2.2.toNat (Ft.mk w3.Op (Tt.mk v22 w3.Atom.Args) w3.Var w3.Parts)).set s2.2.2.toNat (Ft.mk w4.Op (Tt.mk w4.Atom.Name v35.2) w4.Var w4.Parts)) s2.2.2) fun w5=>
 aa (idx ((((s2.1.set s2.2.2.toNat (Ft.mk s2.2.1 w2.Atom w2.Var w2.Parts)).set s2.2.2.toNat (Ft.mk w3.Op (Tt.mk v22 w3.Atom.Args) w3.Var w3.Parts)).set s2.2.2.toNat (Ft.mk w4.Op (Tt.mk w4.Atom.Name v35.2) w4.Var w4.Parts)).set s2.2.2.toNat (Ft.mk w5.Op w5.Atom v39 w5.Parts)) s2.2.2) fun v46=>
 aa (idx ((((s2.1.set s2.2.2.toNat (Ft.mk s2.2.1 w2.Atom w2.Var w2.Parts)).set s2.2.2.toNat (Ft.mk w3.Op (Tt.mk v22 w3.Atom.Args) w3.Var w3.Parts)).set s2.2.2.toNat (Ft.mk w4.Op (Tt.mk w4.Atom.Name v35.2) w4.Var w4.Parts)).set s2.2.2.toNat (Ft.mk w5.Op w5.Atom v39 w5.Parts)) s2.2.2) fun w6=>
 aa (mFS_1 n w6.Parts (IntKind.i64.wrap (v35.1+1))) fun v50=>
 some (.nx (((((s2.1.set s2.2.2.toNat (Ft.mk s2.2.1 w2.Atom w2.Var w2.Parts)).set s2.2.2.toNat (Ft.mk w3.Op (Tt.mk v22 w3.Atom.Args) w3.Var w3.Parts)).set s2.2.2.toNat (Ft.mk w4.Op (Tt.mk w4.Atom.Name v35.2) w4.Var w4.Parts)).set s2.2.2.toNat (Ft.mk w5.Op w5.Atom v39 w5.Parts)).set s2.2.2.toNat (Ft.mk w6.Op w6.Atom w6.Var v50.2),v50.1,IntKind.i64.wrap (s2.2.2+1)))
 else
 some (.br s2)) n2 (a0,a1,(0:Int))) fun s2=>
 some (s2.2.1,s2.1)
def mFS_3(a0:List Ft)(a1:Int):Option (Int×(List Ft)):=lim fun n=>mFS_1 n a0 a1

def mS_(a0:Sa)(a1:Int):Option (Int×(List Ft)×(List Ft)):=
 aa (mFS_3 a0.Left a1) fun v8=>
 aa (mFS_3 a0.Right v8.1) fun v12=>
 some (v12.1,v8.2,v12.2)

def mT_1(a0:Tt)(a1:Int):Option (Int×(List Tt)):=
 aa (mTS_3 a0.Args a1) fun v8=>
 some (v8.1,v8.2)

def mF_(a0:Ft)(a1:Int):Option (Int×(List Tt)×(List Ft)):=
 aa (mT_1 a0.Atom a1) fun v8=>
 aa (mFS_3 a0.Parts v8.1) fun v12=>
 some (v12.1,v8.2,v12.2)

def mDS_:Nat→(List Dt)→Int→Option (Int×(List Dt))
 | 0,_,_=>none
 | n+1,a0,a1=>
 tL_ (ρ:=(Int×(List Dt))) (σ:=(List Dt)×Int×Int) (lim fun n2=>whileN (fun (s2:(List Dt)×Int×Int)=>
 bif decide (s2.2.2<(s2.1.length:Int)) then
 aa (idx s2.1 s2.2.2) fun v15=>
 aa (idx s2.1 s2.2.2) fun w2=>
 aa (idx (s2.1.set s2.2.2.toNat (Dt.mk s2.2.1 w2.Sequent w2.Main w2.Term w2.Cut w2.Parts)) s2.2.2) fun v21=>
 aa (idx (s2.1.set s2.2.2.toNat (Dt.mk s2.2.1 w2.Sequent w2.Main w2.Term w2.Cut w2.Parts)) s2.2.2) fun w3=>
 aa (mFS_3 w3.Sequent.Left (IntKind.i64.wrap (s2.2.1+1))) fun v26=>
 aa (idx ((s2.1.set s2.2.2.toNat (Dt.mk s2.2.1 w2.Sequent w2.Main w2.Term w2.Cut w2.Parts)).set s2.2.2.toNat (Dt.mk w3.Rule (Sa.mk v26.2 w3.Sequent.Right) w3.Main w3.Term w3.Cut w3.Parts)) s2.2.2) fun v29=>
 aa (idx ((s2.1.set s2.2.2.toNat (Dt.mk s2.2.1 w2.Sequent w2.Main w2.Term w2.Cut w2.Parts)).set s2.2.2.toNat (Dt.mk w3.Rule (Sa.mk v26.2 w3.Sequent.Right) w3.Main w3.Term w3.Cut w3.Parts)) s2.2.2) fun w4=>
 aa (mFS_3 w4.Sequent.Right v26.1) fun v34=>
 aa (idx (((s2.1.set s2.2.2.toNat (Dt.mk s2.2.1 w2.Sequent w2.Main w2.Term w2.Cut w2.Parts)).set s2.2.2.toNat (Dt.mk w3.Rule (Sa.mk v26.2 w3.Sequent.Right) w3.Main w3.Term w3.Cut w3.Parts)).set s2.2.2.toNat (Dt.mk w4.Rule (Sa.mk w4.Sequent.Left v34.2) w4.Main w4.Term w4.Cut w4.Parts)) s2.2.2) fun v38=>
 aa (idx (((s2.1.set s2.2.2.toNat (Dt.mk s2.2.1 w2.Sequent w2.Main w2.Term w2.Cut w2.Parts)).set s2.2.2.toNat (Dt.mk w3.Rule (Sa.mk v26.2 w3.Sequent.Right) w3.Main w3.Term w3.Cut w3.Parts)).set s2.2.2.toNat (Dt.mk w4.Rule (Sa.mk w4.Sequent.Left v34.2) w4.Main w4.Term w4.Cut w4.Parts)) s2.2.2) fun w5=>
 aa (mT_ (IntKind.i64.wrap (v34.1+1))) fun v45=>
 aa (idx ((((s2.1.set s2.2.2.toNat (Dt.mk s2.2.1 w2.Sequent w2.Main w2.Term w2.Cut w2.Parts)).set s2.2.2.toNat (Dt.mk w3.Rule (Sa.mk v26.2 w3.Sequent.Right) w3.Main w3.Term w3.Cut w3.Parts)).set s2.2.2.toNat (Dt.mk w4.Rule (Sa.mk w4.Sequent.Left v34.2) w4.Main w4.Term w4.Cut w4.Parts)).set s2.2.2.toNat (Dt.mk w5.Rule w5.Sequent v34.1 w5.Term w5.Cut w5.Parts)) s2.2.2) fun v46=>
 aa (idx ((((s2.1.set s2.2.2.toNat (Dt.mk s2.2.1 w2.Sequent w2.Main w2.Term w2.Cut w2.Parts)).set s2.2.2.toNat (Dt.mk w3.Rule (Sa.mk v26.2 w3.Sequent.Right) w3.Main w3.Term w3.Cut w3.Parts)).set s2.2.2.toNat (Dt.mk w4.Rule (Sa.mk w4.Sequent.Left v34.2) w4.Main w4.Term w4.Cut w4.Parts)).set s2.2.2.toNat (Dt.mk w5.Rule w5.Sequent v34.1 w5.Term w5.Cut w5.Parts)) s2.2.2) fun w6=>
 aa (idx (((((s2.1.set s2.2.2.toNat (Dt.mk s2.2.1 w2.Sequent w2.Main w2.Term w2.Cut w2.Parts)).set s2.2.2.toNat (Dt.mk w3.Rule (Sa.mk v26.2 w3.Sequent.Right) w3.Main w3.Term w3.Cut w3.Parts)).set s2.2.2.toNat (Dt.mk w4.Rule (Sa.mk w4.Sequent.Left v34.2) w4.Main w4.Term w4.Cut w4.Parts)).set s2.2.2.toNat (Dt.mk w5.Rule w5.Sequent v34.1 w5.Term w5.Cut w5.Parts)).set s2.2.2.toNat (Dt.mk w6.Rule w6.Sequent w6.Main (Tt.mk v45 w6.Term.Args) w6.Cut w6.Parts)) s2.2.2) fun v53=>
 aa (idx (((((s2.1.set s2.2.2.toNat (Dt.mk s2.2.1 w2.Sequent w2.Main w2.Term w2.Cut w2.Parts)).set s2.2.2.toNat (Dt.mk w3.Rule (Sa.mk v26.2 w3.Sequent.Right) w3.Main w3.Term w3.Cut w3.Parts)).set s2.2.2.toNat (Dt.mk w4.Rule (Sa.mk w4.Sequent.Left v34.2) w4.Main w4.Term w4.Cut w4.Parts)).set s2.2.2.toNat (Dt.mk w5.Rule w5.Sequent v34.1 w5.Term w5.Cut w5.Parts)).set s2.2.2.toNat (Dt.mk w6.Rule w6.Sequent w6.Main (Tt.mk v45 w6.Term.Args) w6.Cut w6.Parts)) s2.2.2) fun w7=>
 aa (mTS_3 w7.Term.Args (IntKind.i64.wrap ((IntKind.i64.wrap (v34.1+1))+1))) fun v58=>
 aa (idx ((((((s2.1.set s2.2.2.toNat (Dt.mk s2.2.1 w2.Sequent w2.Main w2.Term w2.Cut w2.Parts)).set s2.2.2.toNat (Dt.mk w3.Rule (Sa.mk v26.2 w3.Sequent.Right) w3.Main w3.Term w3.Cut w3.Parts)).set s2.2.2.toNat (Dt.mk w4.Rule (Sa.mk w4.Sequent.Left v34.2) w4.Main w4.Term w4.Cut w4.Parts)).set s2.2.2.toNat (Dt.mk w5.Rule w5.Sequent v34.1 w5.Term w5.Cut w5.Parts)).set s2.2.2.toNat (Dt.mk w6.Rule w6.Sequent w6.Main (Tt.mk v45 w6.Term.Args) w6.Cut w6.Parts)).set s2.2.2.toNat (Dt.mk w7.Rule w7.Sequent w7.Main (Tt.mk w7.Term.Name v58.2) w7.Cut w7.Parts)) s2.2.2) fun v62=>
 aa (idx ((((((s2.1.set s2.2.2.toNat (Dt.mk s2.2.1 w2.Sequent w2.Main w2.Term w2.Cut w2.Parts)).set s2.2.2.toNat (Dt.mk w3.Rule (Sa.mk v26.2 w3.Sequent.Right) w3.Main w3.Term w3.Cut w3.Parts)).set s2.2.2.toNat (Dt.mk w4.Rule (Sa.mk w4.Sequent.Left v34.2) w4.Main w4.Term w4.Cut w4.Parts)).set s2.2.2.toNat (Dt.mk w5.Rule w5.Sequent v34.1 w5.Term w5.Cut w5.Parts)).set s2.2.2.toNat (Dt.mk w6.Rule w6.Sequent w6.Main (Tt.mk v45 w6.Term.Args) w6.Cut w6.Parts)).set s2.2.2.toNat (Dt.mk w7.Rule w7.Sequent w7.Main (Tt.mk w7.Term.Name v58.2) w7.Cut w7.Parts)) s2.2.2) fun w8=>
 aa (mT_ (IntKind.i64.wrap (v58.1+1))) fun v70=>
 aa (idx (((((((s2.1.set s2.2.2.toNat (Dt.mk s2.2.1 w2.Sequent w2.Main w2.Term w2.Cut w2.Parts)).set s2.2.2.toNat (Dt.mk w3.Rule (Sa.mk v26.2 w3.Sequent.Right) w3.Main w3.Term w3.Cut w3.Parts)).set s2.2.2.toNat (Dt.mk w4.Rule (Sa.mk w4.Sequent.Left v34.2) w4.Main w4.Term w4.Cut w4.Parts)).set s2.2.2.toNat (Dt.mk w5.Rule w5.Sequent v34.1 w5.Term w5.Cut w5.Parts)).set s2.2.2.toNat (Dt.mk w6.Rule w6.Sequent w6.Main (Tt.mk v45 w6.Term.Args) w6.Cut w6.Parts)).set s2.2.2.toNat (Dt.mk w7.Rule w7.Sequent w7.Main (Tt.mk w7.Term.Name v58.2) w7.Cut w7.Parts)).set s2.2.2.toNat (Dt.mk w8.Rule w8.Sequent w8.Main w8.Term (Ft.mk v58.1 w8.Cut.Atom w8.Cut.Var w8.Cut.Parts) w8.Parts)) s2.2.2) fun v71=>
 aa (idx (((((((s2.1.set s2.2.2.toNat (Dt.mk s2.2.1 w2.Sequent w2.Main w2.Term w2.Cut w2.Parts)).set s2.2.2.toNat (Dt.mk w3.Rule (Sa.mk v26.2 w3.Sequent.Right) w3.Main w3.Term w3.Cut w3.Parts)).set s2.2.2.toNat (Dt.mk w4.Rule (Sa.mk w4.Sequent.Left v34.2) w4.Main w4.Term w4.Cut w4.Parts)).set s2.2.2.toNat (Dt.mk w5.Rule w5.Sequent v34.1 w5.Term w5.Cut w5.Parts)).set s2.2.2.toNat (Dt.mk w6.Rule w6.Sequent w6.Main (Tt.mk v45 w6.Term.Args) w6.Cut w6.Parts)).set s2.2.2.toNat (Dt.mk w7.Rule w7.Sequent w7.Main (Tt.mk w7.Term.Name v58.2) w7.Cut w7.Parts)).set s2.2.2.toNat (Dt.mk w8.Rule w8.Sequent w8.Main w8.Term (Ft.mk v58.1 w8.Cut.Atom w8.Cut.Var w8.Cut.Parts) w8.Parts)) s2.2.2) fun w9=>
 aa (idx ((((((((s2.1.set s2.2.2.toNat (Dt.mk s2.2.1 w2.Sequent w2.Main w2.Term w2.Cut w2.Parts)).set s2.2.2.toNat (Dt.mk w3.Rule (Sa.mk v26.2 w3.Sequent.Right) w3.Main w3.Term w3.Cut w3.Parts)).set s2.2.2.toNat (Dt.mk w4.Rule (Sa.mk w4.Sequent.Left v34.2) w4.Main w4.Term w4.Cut w4.Parts)).set s2.2.2.toNat (Dt.mk w5.Rule w5.Sequent v34.1 w5.Term w5.Cut w5.Parts)).set s2.2.2.toNat (Dt.mk w6.Rule w6.Sequent w6.Main (Tt.mk v45 w6.Term.Args) w6.Cut w6.Parts)).set s2.2.2.toNat (Dt.mk w7.Rule w7.Sequent w7.Main (Tt.mk w7.Term.Name v58.2) w7.Cut w7.Parts)).set s2.2.2.toNat (Dt.mk w8.Rule w8.Sequent w8.Main w8.Term (Ft.mk v58.1 w8.Cut.Atom w8.Cut.Var w8.Cut.Parts) w8.Parts)).set s2.2.2.toNat (Dt.mk w9.Rule w9.Sequent w9.Main w9.Term (Ft.mk w9.Cut.Op (Tt.mk v70 w9.Cut.Atom.Args) w9.Cut.Var w9.Cut.Parts) w9.Parts)) s2.2.2) fun v79=>
 aa (idx ((((((((s2.1.set s2.2.2.toNat (Dt.mk s2.2.1 w2.Sequent w2.Main w2.Term w2.Cut w2.Parts)).set s2.2.2.toNat (Dt.mk w3.Rule (Sa.mk v26.2 w3.Sequent.Right) w3.Main w3.Term w3.Cut w3.Parts)).set s2.2.2.toNat (Dt.mk w4.Rule (Sa.mk w4.Sequent.Left v34.2) w4.Main w4.Term w4.Cut w4.Parts)).set s2.2.2.toNat (Dt.mk w5.Rule w5.Sequent v34.1 w5.Term w5.Cut w5.Parts)).set s2.2.2.toNat (Dt.mk w6.Rule w6.Sequent w6.Main (Tt.mk v45 w6.Term.Args) w6.Cut w6.Parts)).set s2.2.2.toNat (Dt.mk w7.Rule w7.Sequent w7.Main (Tt.mk w7.Term.Name v58.2) w7.Cut w7.Parts)).set s2.2.2.toNat (Dt.mk w8.Rule w8.Sequent w8.Main w8.Term (Ft.mk v58.1 w8.Cut.Atom w8.Cut.Var w8.Cut.Parts) w8.Parts)).set s2.2.2.toNat (Dt.mk w9.Rule w9.Sequent w9.Main w9.Term (Ft.mk w9.Cut.Op (Tt.mk v70 w9.Cut.Atom.Args) w9.Cut.Var w9.Cut.Parts) w9.Parts)) s2.2.2) fun w10=>
 aa (mTS_3 w10.Cut.Atom.Args (IntKind.i64.wrap ((IntKind.i64.wrap (v58.1+1))+1))) fun v85=>
 aa (mT_ v85.1) fun v89=>
 aa (idx (((((((((s2.1.set s2.2.2.toNat (Dt.mk s2.2.1 w2.Sequent w2.Main w2.Term w2.Cut w2.Parts)).set s2.2.2.toNat (Dt.mk w3.Rule (Sa.mk v26.2 w3.Sequent.Right) w3.Main w3.Term w3.Cut w3.Parts)).set s2.2.2.toNat (Dt.mk w4.Rule (Sa.mk w4.Sequent.Left v34.2) w4.Main w4.Term w4.Cut w4.Parts)).set s2.2.2.toNat (Dt.mk w5.Rule w5.Sequent v34.1 w5.Term w5.Cut w5.Parts)).set s2.2.2.toNat (Dt.mk w6.Rule w6.Sequent w6.Main (Tt.mk v45 w6.Term.Args) w6.Cut w6.Parts)).set s2.2.2.toNat (Dt.mk w7.Rule w7.Sequent w7.Main (Tt.mk w7.Term.Name v58.2) w7.Cut w7.Parts)).set s2.2.2.toNat (Dt.mk w8.Rule w8.Sequent w8.Main w8.Term (Ft.mk v58.1 w8.Cut.Atom w8.Cut.Var w8.Cut.Parts) w8.Parts)).set s2.2.2.toNat (Dt.mk w9.Rule w9.Sequent w9.Main w9.Term (Ft.mk w9.Cut.Op (Tt.mk v70 w9.Cut.Atom.Args) w9.Cut.Var w9.Cut.Parts) w9.Parts)).set s2.2.2.toNat (Dt.mk w10.Rule w10.Sequent w10.Main w10.Term (Ft.mk w10.Cut.Op (Tt.mk w10.Cut.Atom.Name v85.2) w10.Cut.Var w10.Cut.Parts) w10.Parts)) s2.2.2) fun v90=>
 aa (idx (((((((((s2.1.set s2.2.2.toNat (Dt.mk s2.2.1 w2.Sequent w2.Main w2.Term w2.Cut w2.Parts)).set s2.2.2.toNat (Dt.mk w3.Rule (Sa.mk v26.2 w3.Sequent.Right) w3.Main w3.Term w3.Cut w3.Parts)).set s2.2.2.toNat (Dt.mk w4.Rule (Sa.mk w4.Sequent.Left v34.2) w4.Main w4.Term w4.Cut w4.Parts)).set s2.2.2.toNat (Dt.mk w5.Rule w5.Sequent v34.1 w5.Term w5.Cut w5.Parts)).set s2.2.2.toNat (Dt.mk w6.Rule w6.Sequent w6.Main (Tt.mk v45 w6.Term.Args) w6.Cut w6.Parts)).set s2.2.2.toNat (Dt.mk w7.Rule w7.Sequent w7.Main (Tt.mk w7.Term.Name v58.2) w7.Cut w7.Parts)).set s2.2.2.toNat (Dt.mk w8.Rule w8.Sequent w8.Main w8.Term (Ft.mk v58.1 w8.Cut.Atom w8.Cut.Var w8.Cut.Parts) w8.Parts)).set s2.2.2.toNat (Dt.mk w9.Rule w9.Sequent w9.Main w9.Term (Ft.mk w9.Cut.Op (Tt.mk v70 w9.Cut.Atom.Args) w9.Cut.Var w9.Cut.Parts) w9.Parts)).set s2.2.2.toNat (Dt.mk w10.Rule w10.Sequent w10.Main w10.Term (Ft.mk w10.Cut.Op (Tt.mk w10.Cut.Atom.Name v85.2) w10.Cut.Var w10.Cut.Parts) w10.Parts)) s2.2.2) fun w11=>
 aa (idx ((((((((((s2.1.set s2.2.2.toNat (Dt.mk s2.2.1 w2.Sequent w2.Main w2.Term w2.Cut w2.Parts)).set s2.2.2.toNat (Dt.mk w3.Rule (Sa.mk v26.2 w3.Sequent.Right) w3.Main w3.Term w3.Cut w3.Parts)).set s2.2.2.toNat (Dt.mk w4.Rule (Sa.mk w4.Sequent.Left v34.2) w4.Main w4.Term w4.Cut w4.Parts)).set s2.2.2.toNat (Dt.mk w5.Rule w5.Sequent v34.1 w5.Term w5.Cut w5.Parts)).set s2.2.2.toNat (Dt.mk w6.Rule w6.Sequent w6.Main (Tt.mk v45 w6.Term.Args) w6.Cut w6.Parts)).set s2.2.2.toNat (Dt.mk w7.Rule w7.Sequent w7.Main (Tt.mk w7.Term.Name v58.2) w7.Cut w7.Parts)).set s2.2.2.toNat (Dt.mk w8.Rule w8.Sequent w8.Main w8.Term (Ft.mk v58.1 w8.Cut.Atom w8.Cut.Var w8.Cut.Parts) w8.Parts)).set s2.2.2.toNat (Dt.mk w9.Rule w9.Sequent w9.Main w9.Term (Ft.mk w9.Cut.Op (Tt.mk v70 w9.Cut.Atom.Args) w9.Cut.Var w9.Cut.Parts) w9.Parts)).set s2.2.2.toNat (Dt.mk w10.Rule w10.Sequent w10.Main w10.Term (Ft.mk w10.Cut.Op (Tt.mk w10.Cut.Atom.Name v85.2) w10.Cut.Var w10.Cut.Parts) w10.Parts)).set s2.2.2.toNat (Dt.mk w11.Rule w11.Sequent w11.Main w11.Term (Ft.mk w11.Cut.Op w11.Cut.Atom v89 w11.Cut.Parts) w11.Parts)) s2.2.2) fun v97=>
 aa (idx ((((((((((s2.1.set s2.2.2.toNat (Dt.mk s2.2.1 w2.Sequent w2.Main w2.Term w2.Cut w2.Parts)).set s2.2.2.toNat (Dt.mk w3.Rule (Sa.mk v26.2 w3.Sequent.Right) w3.Main w3.Term w3.Cut w3.Parts)).set s2.2.2.toNat (Dt.mk w4.Rule (Sa.mk w4.Sequent.Left v34.2) w4.Main w4.Term w4.Cut w4.Parts)).set s2.2.2.toNat (Dt.mk w5.Rule w5.Sequent v34.1 w5.Term w5.Cut w5.Parts)).set s2.2.2.toNat (Dt.mk w6.Rule w6.Sequent w6.Main (Tt.mk v45 w6.Term.Args) w6.Cut w6.Parts)).set s2.2.2.toNat (Dt.mk w7.Rule w7.Sequent w7.Main (Tt.mk w7.Term.Name v58.2) w7.Cut w7.Parts)).set s2.2.2.toNat (Dt.mk w8.Rule w8.Sequent w8.Main w8.Term (Ft.mk v58.1 w8.Cut.Atom w8.Cut.Var w8.Cut.Parts) w8.Parts)).set s2.2.2.toNat (Dt.mk w9.Rule w9.Sequent w9.Main w9.Term (Ft.mk w9.Cut.Op (Tt.mk v70 w9.Cut.Atom.Args) w9.Cut.Var w9.Cut.Parts) w9.Parts)).set s2.2.2.toNat (Dt.mk w10.Rule w10.Sequent w10.Main w10.Term (Ft.mk w10.Cut.Op (Tt.mk w10.Cut.Atom.Name v85.2) w10.Cut.Var w10.Cut.Parts) w10.Parts)).set s2.2.2.toNat (Dt.mk w11.Rule w11.Sequent w11.Main w11.Term (Ft.mk w11.Cut.Op w11.Cut.Atom v89 w11.Cut.Parts) w11.Parts)) s2.2.2) fun w12=>
 aa (mFS_3 w12.Cut.Parts (IntKind.i64.wrap (v85.1+1))) fun v102=>
 aa (idx (((((((((((s2.1.set s2.2.2.toNat (Dt.mk s2.2.1 w2.Sequent w2.Main w2.Term w2.Cut w2.Parts)).set s2.2.2.toNat (Dt.mk w3.Rule (Sa.mk v26.2 w3.Sequent.Right) w3.Main w3.Term w3.Cut w3.Parts)).set s2.2.2.toNat (Dt.mk w4.Rule (Sa.mk w4.Sequent.Left v34.2) w4.Main w4.Term w4.Cut w4.Parts)).set s2.2.2.toNat (Dt.mk w5.Rule w5.Sequent v34.1 w5.Term w5.Cut w5.Parts)).set s2.2.2.toNat (Dt.mk w6.Rule w6.Sequent w6.Main (Tt.mk v45 w6.Term.Args) w6.Cut w6.Parts)).set s2.2.2.toNat (Dt.mk w7.Rule w7.Sequent w7.Main (Tt.mk w7.Term.Name v58.2) w7.Cut w7.Parts)).set s2.2.2.toNat (Dt.mk w8.Rule w8.Sequent w8.Main w8.Term (Ft.mk v58.1 w8.Cut.Atom w8.Cut.Var w8.Cut.Parts) w8.Parts)).set s2.2.2.toNat (Dt.mk w9.Rule w9.Sequent w9.Main w9.Term (Ft.mk w9.Cut.Op (Tt.mk v70 w9.Cut.Atom.Args) w9.Cut.Var w9.Cut.Parts) w9.Parts)).set s2.2.2.toNat (Dt.mk w10.Rule w10.Sequent w10.Main w10.Term (Ft.mk w10.Cut.Op (Tt.mk w10.Cut.Atom.Name v85.2) w10.Cut.Var w10.Cut.Parts) w10.Parts)).set s2.2.2.toNat (Dt.mk w11.Rule w11.Sequent w11.Main w11.Term (Ft.mk w11.Cut.Op w11.Cut.Atom v89 w11.Cut.Parts) w11.Parts)).set s2.2.2.toNat (Dt.mk w12.Rule w12.Sequent w12.Main w12.Term (Ft.mk w12.Cut.Op w12.Cut.Atom w12.Cut.Var v102.2) w12.Parts)) s2.2.2) fun v105=>
 aa (idx (((((((((((s2.1.set s2.2.2.toNat (Dt.mk s2.2.1 w2.Sequent w2.Main w2.Term w2.Cut w2.Parts)).set s2.2.2.toNat (Dt.mk w3.Rule (Sa.mk v26.2 w3.Sequent.Right) w3.Main w3.Term w3.Cut w3.Parts)).set s2.2.2.toNat (Dt.mk w4.Rule (Sa.mk w4.Sequent.Left v34.2) w4.Main w4.Term w4.Cut w4.Parts)).set s2.2.2.toNat (Dt.mk w5.Rule w5.Sequent v34.1 w5.Term w5.Cut w5.Parts)).set s2.2.2.toNat (Dt.mk w6.Rule w6.Sequent w6.Main (Tt.mk v45 w6.Term.Args) w6.Cut w6.Parts)).set s2.2.2.toNat (Dt.mk w7.Rule w7.Sequent w7.Main (Tt.mk w7.Term.Name v58.2) w7.Cut w7.Parts)).set s2.2.2.toNat (Dt.mk w8.Rule w8.Sequent w8.Main w8.Term (Ft.mk v58.1 w8.Cut.Atom w8.Cut.Var w8.Cut.Parts) w8.Parts)).set s2.2.2.toNat (Dt.mk w9.Rule w9.Sequent w9.Main w9.Term (Ft.mk w9.Cut.Op (Tt.mk v70 w9.Cut.Atom.Args) w9.Cut.Var w9.Cut.Parts) w9.Parts)).set s2.2.2.toNat (Dt.mk w10.Rule w10.Sequent w10.Main w10.Term (Ft.mk w10.Cut.Op (Tt.mk w10.Cut.Atom.Name v85.2) w10.Cut.Var w10.Cut.Parts) w10.Parts)).set s2.2.2.toNat (Dt.mk w11.Rule w11.Sequent w11.Main w11.Term (Ft.mk w11.Cut.Op w11.Cut.Atom v89 w11.Cut.Parts) w11.Parts)).set s2.2.2.toNat (Dt.mk w12.Rule w12.Sequent w12.Main w12.Term (Ft.mk w12.Cut.Op w12.Cut.Atom w12.Cut.Var v102.2) w12.Parts)) s2.2.2) fun w13=>
 aa (mDS_ n w13.Parts v102.1) fun v109=>
 some (.nx ((((((((((((s2.1.set s2.2.2.toNat (Dt.mk s2.2.1 w2.Sequent w2.Main w2.Term w2.Cut w2.Parts)).set s2.2.2.toNat (Dt.mk w3.Rule (Sa.mk v26.2 w3.Sequent.Right) w3.Main w3.Term w3.Cut w3.Parts)).set s2.2.2.toNat (Dt.mk w4.Rule (Sa.mk w4.Sequent.Left v34.2) w4.Main w4.Term w4.Cut w4.Parts)).set s2.2.2.toNat (Dt.mk w5.Rule w5.Sequent v34.1 w5.Term w5.Cut w5.Parts)).set s2.2.2.toNat (Dt.mk w6.Rule w6.Sequent w6.Main (Tt.mk v45 w6.Term.Args) w6.Cut w6.Parts)).set s2.2.2.toNat (Dt.mk w7.Rule w7.Sequent w7.Main (Tt.mk w7.Term.Name v58.2) w7.Cut w7.Parts)).set s2.2.2.toNat (Dt.mk w8.Rule w8.Sequent w8.Main w8.Term (Ft.mk v58.1 w8.Cut.Atom w8.Cut.Var w8.Cut.Parts) w8.Parts)).set s2.2.2.toNat (Dt.mk w9.Rule w9.Sequent w9.Main w9.Term (Ft.mk w9.Cut.Op (Tt.mk v70 w9.Cut.Atom.Args) w9.Cut.Var w9.Cut.Parts) w9.Parts)).set s2.2.2.toNat (Dt.mk w10.Rule w10.Sequent w10.Main w10.Term (Ft.mk w10.Cut.Op (Tt.mk w10.Cut.Atom.Name v85.2) w10.Cut.Var w10.Cut.Parts) w10.Parts)).set s2.2.2.toNat (Dt.mk w11.Rule w11.Sequent w11.Main w11.Term (Ft.mk w11.Cut.Op w11.Cut.Atom v89 w11.Cut.Parts) w11.Parts)).set s2.2.2.toNat (Dt.mk w12.Rule w12.Sequent w12.Main w12.Term (Ft.mk w12.Cut.Op w12.Cut.Atom w12.Cut.Var v102.2) w12.Parts)).set s2.2.2.toNat (Dt.mk w13.Rule w13.Sequent w13.Main w13.Term w13.Cut v109.2),v109.1,IntKind.i64.wrap (s2.2.2+1)))
 else
 some (.br s2)) n2 (a0,a1,(0:Int))) fun s2=>
 some (s2.2.1,s2.1)
def mDS_2(a0:List Dt)(a1:Int):Option (Int×(List Dt)):=lim fun n=>mDS_ n a0 a1

def mD_(a0:Dt)(a1:Int):Option (Int×(List Ft)×(List Ft)×(List Tt)×(List Tt)×(List Ft)×(List Dt)):=
 aa (mS_ a0.Sequent a1) fun v8=>
 aa (mT_1 a0.Term v8.1) fun v12=>
 aa (mF_ a0.Cut v12.1) fun v16=>
 aa (mDS_2 a0.Parts v16.1) fun v20=>
 some (v20.1,v8.2.1,v8.2.2,v12.2,v16.2.1,v16.2.2,v20.2)

def hTS_:Nat→(List Tt)→Int→Option Int
 | 0,_,_=>none
 | n+1,a0,a1=>
 tL_ (ρ:=Int) (σ:=Int) (forN (fun (i2:Nat) (s2:Int)=>
 aa (idx a0 (i2:Int)) fun v14=>
 aa (mT_ s2) fun v18=>
 bif decide (v14.Name=v18) then
 aa (idx a0 (i2:Int)) fun v24=>
 aa (hTS_ n v24.Args (IntKind.i64.wrap (s2+1))) fun v28=>
 bif decide (v28<0) then
 some (.rt (-1:Int))
 else
 some (.nx v28)
 else
 some (.rt (-1:Int))) a0.length 0 a1) fun s2=>
 some s2
def hTS_2(a0:List Tt)(a1:Int):Option Int:=lim fun n=>hTS_ n a0 a1

def hFS_:Nat→(List Ft)→Int→Option Int
 | 0,_,_=>none
 | n+1,a0,a1=>
 tL_ (ρ:=Int) (σ:=Int) (forN (fun (i2:Nat) (s2:Int)=>
 aa (idx a0 (i2:Int)) fun v14=>
 bif decide (v14.Op=s2) then
 aa (idx a0 (i2:Int)) fun v23=>
 aa (mT_ (IntKind.i64.wrap (s2+1))) fun v28=>
 bif decide (v23.Atom.Name=v28) then
 aa (idx a0 (i2:Int)) fun v34=>
 aa (hTS_2 v34.Atom.Args (IntKind.i64.wrap ((IntKind.i64.wrap (s2+1))+1))) fun v39=>
 bif decide (v39<0) then
 some (.rt (-1:Int))
 else
 aa (idx a0 (i2:Int)) fun v44=>
 aa (mT_ v39) fun v48=>
 bif decide (v44.Var=v48) then
 aa (idx a0 (i2:Int)) fun v54=>
 aa (hFS_ n v54.Parts (IntKind.i64.wrap (v39+1))) fun v58=>
 bif decide (v58<0) then
 some (.rt (-1:Int))
 else
 some (.nx v58)
 else
 some (.rt (-1:Int))
 else
 some (.rt (-1:Int))
 else
 some (.rt (-1:Int))) a0.length 0 a1) fun s2=>
 some s2
def hFS_2(a0:List Ft)(a1:Int):Option Int:=lim fun n=>hFS_ n a0 a1

def hS_(a0:Sa)(a1:Int):Option Int:=
 aa (hFS_2 a0.Left a1) fun v8=>
 bif decide (v8<0) then
 some (-1:Int)
 else
 aa (hFS_2 a0.Right v8) fun v14=>
 bif decide (v14<0) then
 some (-1:Int)
 else
 some v14

def hT_(a0:Tt)(a1:Int):Option Int:=
 aa (hTS_2 a0.Args a1) fun v8=>
 bif decide (v8<0) then
 some (-1:Int)
 else
 some v8

def hF_(a0:Ft)(a1:Int):Option Int:=
 aa (hT_ a0.Atom a1) fun v8=>
 bif decide (v8<0) then
 some (-1:Int)
 else
 aa (hFS_2 a0.Parts v8) fun v14=>
 bif decide (v14<0) then
 some (-1:Int)
 else
 some v14

def hDS_:Nat→(List Dt)→Int→Option Int
 | 0,_,_=>none
 | n+1,a0,a1=>
 tL_ (ρ:=Int) (σ:=Int) (forN (fun (i2:Nat) (s2:Int)=>
 aa (idx a0 (i2:Int)) fun v14=>
 bif decide (v14.Rule=s2) then
 aa (idx a0 (i2:Int)) fun v23=>
 aa (hFS_2 v23.Sequent.Left (IntKind.i64.wrap (s2+1))) fun v28=>
 bif decide (v28<0) then
 some (.rt (-1:Int))
 else
 aa (idx a0 (i2:Int)) fun v33=>
 aa (hFS_2 v33.Sequent.Right v28) fun v38=>
 bif decide (v38<0) then
 some (.rt (-1:Int))
 else
 aa (idx a0 (i2:Int)) fun v43=>
 bif decide (v43.Main=v38) then
 aa (idx a0 (i2:Int)) fun v52=>
 aa (mT_ (IntKind.i64.wrap (v38+1))) fun v57=>
 bif decide (v52.Term.Name=v57) then
 aa (idx a0 (i2:Int)) fun v63=>
 aa (hTS_2 v63.Term.Args (IntKind.i64.wrap ((IntKind.i64.wrap (v38+1))+1))) fun v68=>
 bif decide (v68<0) then
 some (.rt (-1:Int))
 else
 aa (idx a0 (i2:Int)) fun v73=>
 bif decide (v73.Cut.Op=v68) then
 aa (idx a0 (i2:Int)) fun v83=>
 aa (mT_ (IntKind.i64.wrap (v68+1))) fun v89=>
 bif decide (v83.Cut.Atom.Name=v89) then
 aa (idx a0 (i2:Int)) fun v95=>
 aa (hTS_2 v95.Cut.Atom.Args (IntKind.i64.wrap ((IntKind.i64.wrap (v68+1))+1))) fun v101=>
 bif decide (v101<0) then
 some (.rt (-1:Int))
 else
 aa (idx a0 (i2:Int)) fun v106=>
 aa (mT_ v101) fun v111=>
 bif decide (v106.Cut.Var=v111) then
 aa (idx a0 (i2:Int)) fun v117=>
 aa (hFS_2 v117.Cut.Parts (IntKind.i64.wrap (v101+1))) fun v122=>
 bif decide (v122<0) then
 some (.rt (-1:Int))
 else
 aa (idx a0 (i2:Int)) fun v127=>
 aa (hDS_ n v127.Parts v122) fun v131=>
 bif decide (v131<0) then
 some (.rt (-1:Int))
 else
 some (.nx v131)
 else
 some (.rt (-1:Int))
 else
 some (.rt (-1:Int))
 else
 some (.rt (-1:Int))
 else
 some (.rt (-1:Int))
 else
 some (.rt (-1:Int))
 else
 some (.rt (-1:Int))) a0.length 0 a1) fun s2=>
 some s2
def hDS_1(a0:List Dt)(a1:Int):Option Int:=lim fun n=>hDS_ n a0 a1

def hD_(a0:Dt)(a1:Int):Option Int:=
 aa (hS_ a0.Sequent a1) fun v8=>
 bif decide (v8<0) then
 some (-1:Int)
 else
 aa (hT_ a0.Term v8) fun v14=>
 bif decide (v14<0) then
 some (-1:Int)
 else
 aa (hF_ a0.Cut v14) fun v20=>
 bif decide (v20<0) then
 some (-1:Int)
 else
 aa (hDS_1 a0.Parts v20) fun v26=>
 bif decide (v26<0) then
 some (-1:Int)
 else
 some v26

def FnExactEliminateCuts(a0:Dt)(a1:Int):Option Bool:=
 aa (sD_ a0 (1048576:Int)) fun v21=>
 bif decide (v21<0) then
 some true
 else
 aa (tD_ a0) fun v26=>
 aa (sEC_ v26 a1) fun v28=>
 aa (tD_ a0) fun v33=>
 aa (iEC_ v33 a1) fun v37=>
 aa (eD_ v37.1 v28.1) fun v43=>
 bif v43 then
 bif decide (v37.2.1=v28.2.1) then
 bif v37.2.2==v28.2.2 then
 aa (tD_ a0) fun v57=>
 aa (eD_ v33 v57) fun v58=>
 bif v58 then
 aa (mD_ v33 (1:Int)) fun v62=>
 bif decide (v62.1<0) then
 some false
 else
 aa (eD_ v37.1 v28.1) fun v68=>
 bif v68 then
 aa (mD_ v37.1 (1:Int)) fun v83=>
 aa (hD_ (Dt.mk v37.1.Rule (Sa.mk v83.2.1 v83.2.2.1) v37.1.Main (Tt.mk v37.1.Term.Name v83.2.2.2.1) (Ft.mk v37.1.Cut.Op (Tt.mk v37.1.Cut.Atom.Name v83.2.2.2.2.1) v37.1.Cut.Var v83.2.2.2.2.2.1) v83.2.2.2.2.2.2) (1:Int)) fun v86=>
 bif decide (v86<0) then
 some false
 else
 bif decide (v86=v83.1) then
 aa (tD_ a0) fun v94=>
 aa (iEC_ v94 a1) fun v96=>
 aa (eD_ v96.1 v28.1) fun v102=>
 bif v102 then
 bif decide (v96.2.1=v28.2.1) then
 bif v96.2.2==v28.2.2 then
 aa (hD_ (Dt.mk v37.1.Rule (Sa.mk v83.2.1 v83.2.2.1) v37.1.Main (Tt.mk v37.1.Term.Name v83.2.2.2.1) (Ft.mk v37.1.Cut.Op (Tt.mk v37.1.Cut.Atom.Name v83.2.2.2.2.1) v37.1.Cut.Var v83.2.2.2.2.2.1) v83.2.2.2.2.2.2) (1:Int)) fun v116=>
 bif decide (v116<0) then
 some false
 else
 bif decide (v116=v83.1) then
 some true
 else
 some false
 else
 some false
 else
 some false
 else
 some false
 else
 some false
 else
 some false
 else
 some false
 else
 some false
 else
 some false
 else
 some false

end
end Go.Proofs.YtafdgbndcflghaaGreat
