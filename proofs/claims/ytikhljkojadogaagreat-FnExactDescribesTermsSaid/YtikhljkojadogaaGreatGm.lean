/- Lemmas of the proof; each says what it shows. -/
import Derived.Test.YtikhljkojadogaaGreatGty
set_option linter.unusedSimpArgs false
set_option linter.unusedVariables false
set_option linter.defProp false
set_option maxRecDepth 4000
namespace Go.Proofs.YtikhljkojadogaaGreat
open Go.Av
open Option renaming bind→ae
noncomputable section
mutual
def sTS_:Nat→(List Tt)→Int→Option Int
 | 0,_,_=>none
 | n+1,a0,a1=>
 bif decide ((IntKind.i64.wrap (a1-(a0.length:Int)))<0) then
 some (-1:Int)
 else
 thenL (ρ:=Int) (σ:=Int) (forN (fun (i5:Nat) (s5:Int)=>
 ae (idx a0 (i5:Int)) fun v20=>
 ae (sTN_ n v20 s5) fun v23=>
 bif decide (v23<0) then
 some (.rt (-1:Int))
 else
 some (.nx v23)) a0.length 0 (IntKind.i64.wrap (a1-(a0.length:Int)))) fun s5=>
 some s5
def sTN_:Nat→Tt→Int→Option Int
 | 0,_,_=>none
 | n+1,a0,a1=>
 bif decide ((IntKind.i64.wrap (a1-(a0.Name.size:Int)))<0) then
 some (-1:Int)
 else
 ae (sTS_ n a0.Args (IntKind.i64.wrap (a1-(a0.Name.size:Int)))) fun v15=>
 bif decide (v15<0) then
 some (-1:Int)
 else
 some v15
end
def sTS_4(a0:List Tt)(a1:Int):Option Int:=lim fun n=>sTS_ n a0 a1
def sT_2(a0:Tt)(a1:Int):Option Int:=lim fun n=>sTN_ n a0 a1

def sD_(a0:Dt)(a1:Int):Option Int:=
 ae (sTS_4 a0.Patterns a1) fun v8=>
 bif decide (v8<0) then
 some (-1:Int)
 else
 ae (sTS_4 a0.Instances v8) fun v14=>
 bif decide (v14<0) then
 some (-1:Int)
 else
 some v14

mutual
def tTS_:Nat→(List Tt)→Option (List Tt)
 | 0,_=>none
 | n+1,a0=>
 ae (mkn (a0.length:Int)) fun n7=>
 thenL (ρ:=(List Tt)) (σ:=(List Tt)) (forN (fun (i3:Nat) (s3:(List Tt))=>
 ae (idx a0 (i3:Int)) fun v18=>
 ae (tTN_ n v18) fun v20=>
 ae (idx s3 (i3:Int)) fun v21=>
 ae (idx s3 (i3:Int)) fun w2=>
 some (.nx (s3.set (i3:Int).toNat v20))) a0.length 0 (List.replicate n7 (Tt.mk ⟨#[]⟩ ([])))) fun s3=>
 some s3
def tTN_:Nat→Tt→Option Tt
 | 0,_=>none
 | n+1,a0=>
 ae (tTS_ n a0.Args) fun v9=>
 some (Tt.mk a0.Name v9)
end
def tTS_2(a0:List Tt):Option (List Tt):=lim fun n=>tTS_ n a0
def tT_(a0:Tt):Option Tt:=lim fun n=>tTN_ n a0

def tD_(a0:Dt):Option Dt:=
 ae (tTS_2 a0.Patterns) fun v6=>
 ae (tTS_2 a0.Instances) fun v10=>
 some (Dt.mk v6 v10)

def slM_:Nat→Tt→Int→Option Int
 | 0,_,_=>none
 | n+1,a0,a1=>
 thenL (ρ:=Int) (σ:=Int) (forN (fun (i3:Nat) (s3:Int)=>
 bif decide (s3≤a1) then
 ae (idx a0.Args (i3:Int)) fun v23=>
 ae (slM_ n v23 (IntKind.i64.wrap (a1-s3))) fun v28=>
 some (.nx (IntKind.i64.wrap (s3+v28)))
 else
 some (.rt s3)) a0.Args.length 0 (1:Int)) fun s3=>
 some s3
def slM_2(a0:Tt)(a1:Int):Option Int:=lim fun n=>slM_ n a0 a1

def slM_1(a0:Int)(a1:Int):Option Int:=
 bif decide (a1<a0) then
 some a0
 else
 some a1

def slD_:Nat→Tt→Option Int
 | 0,_=>none
 | n+1,a0=>
 thenL (ρ:=Int) (σ:=Int) (forN (fun (i3:Nat) (s3:Int)=>
 ae (idx a0.Args (i3:Int)) fun v16=>
 ae (slD_ n v16) fun v18=>
 ae (slM_1 s3 v18) fun v19=>
 some (.nx v19)) a0.Args.length 0 (0:Int)) fun s3=>
 some (IntKind.i64.wrap (s3+1))
def slD_1(a0:Tt):Option Int:=lim fun n=>slD_ n a0

def slF_2(a0:Tt):Option Bool:=
 ae (slM_2 a0 30) fun v4=>
 bif decide (v4≤30) then
 ae (slD_1 a0) fun v8=>
 some (decide (v8≤8))
 else
 some false

def slI_1(a0:Int)(a1:Int)(a2:Int):Option Bool:=
 bif decide (a1≤a0) then
 some (decide (a0≤a2))
 else
 some false

def slS_1(a0:Int):Option Bool:=
 bif decide (97≤a0) then
 bif decide (a0≤122) then
 some true
 else
 bif decide (48≤a0) then
 some (decide (a0≤57))
 else
 some false
 else
 bif decide (48≤a0) then
 some (decide (a0≤57))
 else
 some false

def slV_(a0:ByteArray):Option Bool:=
 ae (slI_1 (a0.size:Int) 1 4) fun v6=>
 bif v6 then
 ae (sidx a0 (0:Int)) fun v10=>
 bif decide (v10<65) then
 some false
 else
 ae (sidx a0 (0:Int)) fun v15=>
 bif decide (90<v15) then
 some false
 else
 ae (bnd (a0.size:Int)) fun N4=>
 thenL (ρ:=Bool) (σ:=Unit) (forN (fun (i4:Nat) (s4:Unit)=>
 ae (sidx a0 (i4:Int)) fun v26=>
 ae (slS_1 v26) fun v27=>
 bif v27 then
 some (.nx ())
 else
 some (.rt false)) (N4-1) 1 ()) fun s4=>
 some true
 else
 some false

def slS_2(a0:ByteArray):Option Bool:=
 ae (slI_1 (a0.size:Int) 1 6) fun v6=>
 bif v6 then
 ae (sidx a0 (0:Int)) fun v10=>
 bif decide (v10<97) then
 some false
 else
 ae (sidx a0 (0:Int)) fun v15=>
 bif decide (122<v15) then
 some false
 else
 bif decide (a0=(⟨#[116,114,117,101]⟩:ByteArray)) then
 some false
 else
 bif decide (a0=(⟨#[102,97,108,115,101]⟩:ByteArray)) then
 some false
 else
 bif decide (a0=(⟨#[116,114,117,116,104]⟩:ByteArray)) then
 some false
 else
 bif decide (a0=(⟨#[98,111,116,104]⟩:ByteArray)) then
 some false
 else
 bif decide (a0=(⟨#[101,105,116,104,101,114]⟩:ByteArray)) then
 some false
 else
 bif decide (a0=(⟨#[105,102]⟩:ByteArray)) then
 some false
 else
 bif decide (a0=(⟨#[97,108,108]⟩:ByteArray)) then
 some false
 else
 bif decide (a0=(⟨#[115,111,109,101]⟩:ByteArray)) then
 some false
 else
 ae (bnd (a0.size:Int)) fun N14=>
 thenL (ρ:=Bool) (σ:=Unit) (forN (fun (i14:Nat) (s14:Unit)=>
 ae (sidx a0 (i14:Int)) fun v36=>
 ae (slS_1 v36) fun v37=>
 bif v37 then
 some (.nx ())
 else
 ae (sidx a0 (i14:Int)) fun v42=>
 bif decide (v42=95) then
 some (.nx ())
 else
 some (.rt false)) (N14-1) 1 ()) fun s14=>
 some true
 else
 some false

def slN_:Nat→Tt→Option Bool
 | 0,_=>none
 | n+1,a0=>
 ae (slV_ a0.Name) fun v6=>
 bif v6 then
 some (decide ((a0.Args.length:Int)=0))
 else
 ae (slS_2 a0.Name) fun v13=>
 bif v13 then
 bif decide (4<(a0.Args.length:Int)) then
 some false
 else
 thenL (ρ:=Bool) (σ:=Unit) (forN (fun (i6:Nat) (s6:Unit)=>
 ae (idx a0.Args (i6:Int)) fun v31=>
 ae (slN_ n v31) fun v33=>
 bif v33 then
 some (.nx ())
 else
 some (.rt false)) a0.Args.length 0 ()) fun s6=>
 some true
 else
 some false
def slN_1(a0:Tt):Option Bool:=lim fun n=>slN_ n a0

def slG_1(a0:Tt):Option Bool:=
 ae (slF_2 a0) fun v4=>
 bif v4 then
 ae (slN_1 a0) fun v7=>
 some v7
 else
 some false

def slP_3(a0:List ByteArray)(a1:ByteArray):Option (List ByteArray):=
 thenL (ρ:=(List ByteArray)) (σ:=Unit) (forN (fun (i2:Nat) (s2:Unit)=>
 ae (idx a0 (i2:Int)) fun v13=>
 bif Op.bytesLess v13.data.toList a1.data.toList then
 some (.nx ())
 else
 ae (idx a0 (i2:Int)) fun v27=>
 bif decide (v27=a1) then
 some (.rt a0)
 else
 ae (slc a0 (0:Int) (i2:Int)) fun v36=>
 ae (app ([]) v36) fun v37=>
 ae (app v37 ([a1])) fun v40=>
 ae (slc a0 (i2:Int) (a0.length:Int)) fun v43=>
 ae (app v40 v43) fun v44=>
 some (.rt v44)) a0.length 0 ()) fun s2=>
 ae (slc a0 (0:Int) ((a0.length:Nat):Int)) fun v36=>
 ae (app ([]) v36) fun v37=>
 ae (app v37 ([a1])) fun v40=>
 ae (slc a0 ((a0.length:Nat):Int) (a0.length:Int)) fun v43=>
 ae (app v40 v43) fun v44=>
 some v44

def slI_:Nat→(List ByteArray)→Tt→Option (List ByteArray)
 | 0,_,_=>none
 | n+1,a0,a1=>
 ae (slV_ a1.Name) fun v8=>
 bif v8 then
 ae (slP_3 a0 a1.Name) fun v12=>
 some v12
 else
 thenL (ρ:=(List ByteArray)) (σ:=(List ByteArray)) (forN (fun (i4:Nat) (s4:(List ByteArray))=>
 ae (idx a1.Args (i4:Int)) fun v24=>
 ae (slI_ n s4 v24) fun v26=>
 some (.nx v26)) a1.Args.length 0 a0) fun s4=>
 some s4
def slI_2(a0:List ByteArray)(a1:Tt):Option (List ByteArray):=lim fun n=>slI_ n a0 a1

def slV_1(a0:Tt):Option (List ByteArray):=
 ae (slI_2 ([]) a0) fun v5=>
 some v5

def slG_(a0:Tt):Option Bool:=
 ae (slV_1 a0) fun v4=>
 some (decide ((v4.length:Int)=0))

def slT_(a0:List Tt):Option Bool:=
 thenL (ρ:=Bool) (σ:=Unit) (forN (fun (i2:Nat) (s2:Unit)=>
 bif decide ((i2:Int)≤60) then
 ae (idx a0 (i2:Int)) fun v16=>
 ae (slG_1 v16) fun v18=>
 bif v18 then
 ae (idx a0 (i2:Int)) fun v23=>
 ae (slG_ v23) fun v25=>
 bif v25 then
 some (.nx ())
 else
 some (.rt false)
 else
 some (.rt false)
 else
 some (.rt (decide ((a0.length:Int)≤60)))) a0.length 0 ()) fun s2=>
 some (decide ((a0.length:Int)≤60))

def slT_1(a0:ByteArray)(a1:ByteArray):Option Int:=
 bif Op.bytesLess a0.data.toList a1.data.toList then
 some (-1:Int)
 else
 bif decide (a0=a1) then
 some (0:Int)
 else
 some (1:Int)

def slC_:Nat→Tt→Tt→Option Int
 | 0,_,_=>none
 | n+1,a0,a1=>
 ae (slV_ a0.Name) fun v11=>
 ae (slV_ a1.Name) fun v14=>
 bif v11 then
 bif v14 then
 bif decide (a0.Name=a1.Name) then
 bif decide ((a0.Args.length:Int)<(a1.Args.length:Int)) then
 some (-1:Int)
 else
 bif decide ((a1.Args.length:Int)<(a0.Args.length:Int)) then
 some (1:Int)
 else
 thenL (ρ:=Int) (σ:=Unit) (forN (fun (i13:Nat) (s13:Unit)=>
 ae (idx a0.Args (i13:Int)) fun v64=>
 ae (idx a1.Args (i13:Int)) fun v69=>
 ae (slC_ n v64 v69) fun v71=>
 bif decide (v71=0) then
 some (.nx ())
 else
 some (.rt v71)) a0.Args.length 0 ()) fun s13=>
 some (0:Int)
 else
 ae (slT_1 a0.Name a1.Name) fun v37=>
 some v37
 else
 some (-1:Int)
 else
 bif v14 then
 some (1:Int)
 else
 bif decide (a0.Name=a1.Name) then
 bif decide ((a0.Args.length:Int)<(a1.Args.length:Int)) then
 some (-1:Int)
 else
 bif decide ((a1.Args.length:Int)<(a0.Args.length:Int)) then
 some (1:Int)
 else
 thenL (ρ:=Int) (σ:=Unit) (forN (fun (i13:Nat) (s13:Unit)=>
 ae (idx a0.Args (i13:Int)) fun v64=>
 ae (idx a1.Args (i13:Int)) fun v69=>
 ae (slC_ n v64 v69) fun v71=>
 bif decide (v71=0) then
 some (.nx ())
 else
 some (.rt v71)) a0.Args.length 0 ()) fun s13=>
 some (0:Int)
 else
 ae (slT_1 a0.Name a1.Name) fun v37=>
 some v37
def slC_1(a0:Tt)(a1:Tt):Option Int:=lim fun n=>slC_ n a0 a1

def slR_(a0:List Tt):Option Bool:=
 thenL (ρ:=Bool) (σ:=Unit) (forN (fun (i2:Nat) (s2:Unit)=>
 ae (idx a0 (IntKind.i64.wrap ((i2:Int)-1))) fun v13=>
 ae (idx a0 (i2:Int)) fun v17=>
 ae (slC_1 v13 v17) fun v19=>
 bif decide (0≤v19) then
 some (.rt false)
 else
 some (.nx ())) (a0.length-1) 1 ()) fun s2=>
 some true

def slG_2(a0:Dt):Option Bool:=
 bif decide (12<(a0.Patterns.length:Int)) then
 some false
 else
 bif decide (12<(a0.Instances.length:Int)) then
 some false
 else
 ae (slT_ a0.Instances) fun v18=>
 bif v18 then
 thenL (ρ:=Bool) (σ:=Unit) (forN (fun (i4:Nat) (s4:Unit)=>
 ae (idx a0.Patterns (i4:Int)) fun v31=>
 ae (slG_1 v31) fun v33=>
 bif v33 then
 ae (idx a0.Patterns (i4:Int)) fun v38=>
 ae (slV_1 v38) fun v40=>
 bif decide (1<(v40.length:Int)) then
 some (.rt false)
 else
 bif decide ((v40.length:Int)=1) then
 ae (idx v40 0) fun v50=>
 bif decide (v50=(⟨#[65]⟩:ByteArray)) then
 bif decide ((a0.Instances.length:Int)=0) then
 some (.rt false)
 else
 some (.nx ())
 else
 some (.rt false)
 else
 some (.nx ())
 else
 some (.rt false)) a0.Patterns.length 0 ()) fun s4=>
 ae (slR_ a0.Patterns) fun v63=>
 bif v63 then
 ae (slR_ a0.Instances) fun v67=>
 some v67
 else
 some false
 else
 some false

def slO_1:Nat→Tt→Option Tt
 | 0,_=>none
 | n+1,a0=>
 thenL (ρ:=Tt) (σ:=(List Tt)) (forN (fun (i3:Nat) (s3:(List Tt))=>
 ae (idx a0.Args (i3:Int)) fun v20=>
 ae (slO_1 n v20) fun v22=>
 ae (app s3 ([v22])) fun v24=>
 some (.nx v24)) a0.Args.length 0 ([])) fun s3=>
 some (Tt.mk a0.Name s3)
def slO_(a0:Tt):Option Tt:=lim fun n=>slO_1 n a0

def slS_:Nat→Tt→Tt→Option Bool
 | 0,_,_=>none
 | n+1,a0,a1=>
 bif decide (a0.Name=a1.Name) then
 bif decide ((a0.Args.length:Int)=(a1.Args.length:Int)) then
 thenL (ρ:=Bool) (σ:=Unit) (forN (fun (i4:Nat) (s4:Unit)=>
 ae (idx a0.Args (i4:Int)) fun v30=>
 ae (idx a1.Args (i4:Int)) fun v35=>
 ae (slS_ n v30 v35) fun v37=>
 bif v37 then
 some (.nx ())
 else
 some (.rt false)) a0.Args.length 0 ()) fun s4=>
 some true
 else
 some false
 else
 some false
def slS_4(a0:Tt)(a1:Tt):Option Bool:=lim fun n=>slS_ n a0 a1

def slP_(a0:List Tt)(a1:Tt):Option (List Tt):=
 thenL (ρ:=(List Tt)) (σ:=Unit) (forN (fun (i2:Nat) (s2:Unit)=>
 ae (idx a0 (i2:Int)) fun v13=>
 ae (slC_1 v13 a1) fun v16=>
 bif decide (v16<0) then
 some (.nx ())
 else
 ae (idx a0 (i2:Int)) fun v28=>
 ae (slS_4 v28 a1) fun v31=>
 bif v31 then
 some (.rt a0)
 else
 ae (slc a0 (0:Int) (i2:Int)) fun v37=>
 ae (app ([]) v37) fun v38=>
 ae (app v38 ([a1])) fun v41=>
 ae (slc a0 (i2:Int) (a0.length:Int)) fun v44=>
 ae (app v41 v44) fun v45=>
 some (.rt v45)) a0.length 0 ()) fun s2=>
 ae (slc a0 (0:Int) ((a0.length:Nat):Int)) fun v37=>
 ae (app ([]) v37) fun v38=>
 ae (app v38 ([a1])) fun v41=>
 ae (slc a0 ((a0.length:Nat):Int) (a0.length:Int)) fun v44=>
 ae (app v41 v44) fun v45=>
 some v45

def slP_1(a0:Sa)(a1:ByteArray)(a2:Tt):Option Sa:=
 bif decide (a2.Name=a1) then
 some a0
 else
 thenL (ρ:=Sa) (σ:=Unit) (forN (fun (i4:Nat) (s4:Unit)=>
 ae (idx a0.Bindings (i4:Int)) fun v23=>
 bif Op.bytesLess v23.Var.data.toList a1.data.toList then
 some (.nx ())
 else
 ae (slc a0.Bindings (0:Int) (i4:Int)) fun v35=>
 ae (app ([]) v35) fun v36=>
 ae (slO_ a2) fun v40=>
 ae (app v36 ([(Bt.mk a1 v40)])) fun v43=>
 ae (slc a0.Bindings (i4:Int) (a0.Bindings.length:Int)) fun v48=>
 ae (app v43 v48) fun v49=>
 some (.rt (Sa.mk v49))) a0.Bindings.length 0 ()) fun s4=>
 ae (slc a0.Bindings (0:Int) ((a0.Bindings.length:Nat):Int)) fun v35=>
 ae (app ([]) v35) fun v36=>
 ae (slO_ a2) fun v40=>
 ae (app v36 ([(Bt.mk a1 v40)])) fun v43=>
 ae (slc a0.Bindings ((a0.Bindings.length:Nat):Int) (a0.Bindings.length:Int)) fun v48=>
 ae (app v43 v48) fun v49=>
 some (Sa.mk v49)

def slF_1(a0:Sa)(a1:ByteArray):Option Int:=
 thenL (ρ:=Int) (σ:=Unit) (forN (fun (i2:Nat) (s2:Unit)=>
 ae (idx a0.Bindings (i2:Int)) fun v16=>
 bif decide (v16.Var=a1) then
 some (.rt (i2:Int))
 else
 some (.nx ())) a0.Bindings.length 0 ()) fun s2=>
 some (-1:Int)

def slA_:Nat→Sa→Tt→Option Tt
 | 0,_,_=>none
 | n+1,a0,a1=>
 ae (slV_ a1.Name) fun v10=>
 bif v10 then
 ae (slF_1 a0 a1.Name) fun v14=>
 bif decide (0≤v14) then
 ae (idx a0.Bindings v14) fun v20=>
 ae (slO_ v20.Term) fun v23=>
 some v23
 else
 some (Tt.mk a1.Name ([]))
 else
 thenL (ρ:=Tt) (σ:=(List Tt)) (forN (fun (i8:Nat) (s8:(List Tt))=>
 ae (idx a1.Args (i8:Int)) fun v43=>
 ae (slA_ n a0 v43) fun v45=>
 ae (app s8 ([v45])) fun v47=>
 some (.nx v47)) a1.Args.length 0 ([])) fun s8=>
 some (Tt.mk a1.Name s8)
def slA_1(a0:Sa)(a1:Tt):Option Tt:=lim fun n=>slA_ n a0 a1

def slF_(a0:Tt)(a1:Tt):Option Tt:=
 ae (slP_1 (Sa.mk ([])) (⟨#[65]⟩:ByteArray) a1) fun v7=>
 ae (slA_1 v7 a0) fun v9=>
 some v9

def slL_(a0:Dt):Option ((List Tt)×Bool):=
 thenL (ρ:=((List Tt)×Bool)) (σ:=(List Tt)) (forN (fun (i3:Nat) (s3:(List Tt))=>
 ae (idx a0.Patterns (i3:Int)) fun v19=>
 ae (slG_ v19) fun v21=>
 bif v21 then
 ae (idx a0.Patterns (i3:Int)) fun v26=>
 ae (slO_ v26) fun v28=>
 ae (slP_ s3 v28) fun v29=>
 some (.nx v29)
 else
 thenL (ρ:=(Flow ((List Tt)×Bool) (List Tt))) (σ:=(List Tt)) (forN (fun (i8:Nat) (s8:(List Tt))=>
 ae (idx a0.Patterns (i3:Int)) fun v40=>
 ae (idx a0.Instances (i8:Int)) fun v45=>
 ae (slF_ v40 v45) fun v47=>
 ae (slG_1 v47) fun v49=>
 bif v49 then
 ae (slO_ v47) fun v54=>
 ae (slP_ s8 v54) fun v55=>
 some (.nx v55)
 else
 some (.rt (.rt ([],false)))) a0.Instances.length 0 s3) fun s8=>
 some (.nx s8)) a0.Patterns.length 0 ([])) fun s3=>
 some (s3,true)

def slS_3(a0:List Tt)(a1:List Tt):Option Bool:=
 bif decide ((a0.length:Int)=(a1.length:Int)) then
 thenL (ρ:=Bool) (σ:=Unit) (forN (fun (i4:Nat) (s4:Unit)=>
 ae (idx a0 (i4:Int)) fun v19=>
 ae (idx a1 (i4:Int)) fun v23=>
 ae (slS_4 v19 v23) fun v25=>
 bif v25 then
 some (.nx ())
 else
 some (.rt false)) a0.length 0 ()) fun s4=>
 some true
 else
 some false

def sDT_(a0:Dt)(a1:List Tt):Option (Bool×Bool):=
 ae (slG_2 a0) fun v11=>
 bif v11 then
 ae (slT_ a1) fun v15=>
 bif v15 then
 ae (slL_ a0) fun v20=>
 bif v20.2 then
 thenL (ρ:=(Bool×Bool)) (σ:=(List Tt)) (forN (fun (i8:Nat) (s8:(List Tt))=>
 ae (idx a1 (i8:Int)) fun v35=>
 ae (slP_ s8 v35) fun v37=>
 some (.nx v37)) a1.length 0 ([])) fun s8=>
 ae (slS_3 v20.1 s8) fun v40=>
 some (v40,true)
 else
 some (false,false)
 else
 some (false,false)
 else
 some (false,false)

def isN_:Nat→Tt→Option Int
 | 0,_=>none
 | n+1,a0=>
 thenL (ρ:=Int) (σ:=Int) (forN (fun (i3:Nat) (s3:Int)=>
 ae (idx a0.Args (i3:Int)) fun v11=>
 bif decide (30<s3) then
 some (.rt s3)
 else
 ae (isN_ n v11) fun v18=>
 some (.nx (IntKind.i64.wrap (s3+v18)))) a0.Args.length 0 (1:Int)) fun s3=>
 some s3
def is_(a0:Tt):Option Int:=lim fun n=>isN_ n a0

def idN_:Nat→Tt→Option Int
 | 0,_=>none
 | n+1,a0=>
 thenL (ρ:=Int) (σ:=Int) (forN (fun (i3:Nat) (s3:Int)=>
 ae (idx a0.Args (i3:Int)) fun v11=>
 ae (idN_ n v11) fun v15=>
 some (.nx (max s3 v15))) a0.Args.length 0 (0:Int)) fun s3=>
 some (IntKind.i64.wrap (s3+1))
def id_(a0:Tt):Option Int:=lim fun n=>idN_ n a0

def iiS_1(a0:Tt):Option Bool:=
 ae (is_ a0) fun v4=>
 bif decide (v4≤30) then
 ae (id_ a0) fun v8=>
 some (decide (v8≤8))
 else
 some false

def iiU_(a0:Int):Option Bool:=
 bif decide (65≤a0) then
 some (decide (a0≤90))
 else
 some false

def iiL_(a0:Int):Option Bool:=
 bif decide (97≤a0) then
 some (decide (a0≤122))
 else
 some false

def iiD_(a0:Int):Option Bool:=
 bif decide (48≤a0) then
 some (decide (a0≤57))
 else
 some false

def iw_(a0:Int)(a1:Int)(a2:Int):Option Bool:=
 bif decide (a1≤a0) then
 some (decide (a0≤a2))
 else
 some false

def iiV_(a0:ByteArray):Option Bool:=
 ae (bnd (a0.size:Int)) fun N2=>
 thenL (ρ:=Bool) (σ:=Unit) (forN (fun (i2:Nat) (s2:Unit)=>
 bif decide ((i2:Int)=0) then
 ae (sidx a0 (i2:Int)) fun v14=>
 ae (iiU_ v14) fun v15=>
 bif v15 then
 bif decide (0<(i2:Int)) then
 ae (sidx a0 (i2:Int)) fun v24=>
 ae (iiL_ v24) fun v25=>
 bif v25 then
 some (.nx ())
 else
 ae (sidx a0 (i2:Int)) fun v31=>
 ae (iiD_ v31) fun v32=>
 bif v32 then
 some (.nx ())
 else
 some (.rt false)
 else
 some (.nx ())
 else
 some (.rt false)
 else
 bif decide (0<(i2:Int)) then
 ae (sidx a0 (i2:Int)) fun v24=>
 ae (iiL_ v24) fun v25=>
 bif v25 then
 some (.nx ())
 else
 ae (sidx a0 (i2:Int)) fun v31=>
 ae (iiD_ v31) fun v32=>
 bif v32 then
 some (.nx ())
 else
 some (.rt false)
 else
 some (.nx ())) N2 0 ()) fun s2=>
 ae (iw_ (a0.size:Int) 1 4) fun v39=>
 some v39

def ir_  :Option (List ByteArray):=
 some ([(⟨#[116,114,117,101]⟩:ByteArray),(⟨#[102,97,108,115,101]⟩:ByteArray),(⟨#[116,114,117,116,104]⟩:ByteArray),(⟨#[98,111,116,104]⟩:ByteArray),(⟨#[101,105,116,104,101,114]⟩:ByteArray),(⟨#[105,102]⟩:ByteArray),(⟨#[97,108,108]⟩:ByteArray),(⟨#[115,111,109,101]⟩:ByteArray)])

def sIS_(a0:List ByteArray)(a1:ByteArray):Option Int:=
 thenL (ρ:=Int) (σ:=Unit) (forN (fun (i2:Nat) (s2:Unit)=>
 ae (idx a0 (i2:Int)) fun v14=>
 bif decide (a1=v14) then
 some (.rt (i2:Int))
 else
 some (.nx ())) a0.length 0 ()) fun s2=>
 some (-1:Int)

def sCS_(a0:List ByteArray)(a1:ByteArray):Option Bool:=
 ae (sIS_ a0 a1) fun v7=>
 some (decide (0≤v7))

def iiS_(a0:ByteArray):Option Bool:=
 ae (bnd (a0.size:Int)) fun N2=>
 thenL (ρ:=Bool) (σ:=Unit) (forN (fun (i2:Nat) (s2:Unit)=>
 bif decide ((i2:Int)=0) then
 ae (sidx a0 (i2:Int)) fun v14=>
 ae (iiL_ v14) fun v15=>
 bif v15 then
 ae (sidx a0 (i2:Int)) fun v21=>
 ae (iiL_ v21) fun v22=>
 bif v22 then
 some (.nx ())
 else
 ae (sidx a0 (i2:Int)) fun v27=>
 ae (iiD_ v27) fun v28=>
 bif v28 then
 some (.nx ())
 else
 ae (sidx a0 (i2:Int)) fun v34=>
 bif decide (v34=95) then
 some (.nx ())
 else
 some (.rt false)
 else
 some (.rt false)
 else
 ae (sidx a0 (i2:Int)) fun v21=>
 ae (iiL_ v21) fun v22=>
 bif v22 then
 some (.nx ())
 else
 ae (sidx a0 (i2:Int)) fun v27=>
 ae (iiD_ v27) fun v28=>
 bif v28 then
 some (.nx ())
 else
 ae (sidx a0 (i2:Int)) fun v34=>
 bif decide (v34=95) then
 some (.nx ())
 else
 some (.rt false)) N2 0 ()) fun s2=>
 ae (iw_ (a0.size:Int) 1 6) fun v41=>
 bif v41 then
 ae (ir_ ) fun v43=>
 ae (sCS_ v43 a0) fun v45=>
 some (!v45)
 else
 some false

def sIF_(a0:List Tt)(a1:Tt→Option Bool):Option Int:=
 thenL (ρ:=Int) (σ:=Unit) (forN (fun (i2:Nat) (s2:Unit)=>
 ae (idx a0 (i2:Int)) fun v14=>
 ae (a1 v14) fun v16=>
 bif v16 then
 some (.rt (i2:Int))
 else
 some (.nx ())) a0.length 0 ()) fun s2=>
 some (-1:Int)

def sCF_(a0:List Tt)(a1:Tt→Option Bool):Option Bool:=
 ae (sIF_ a0 a1) fun v7=>
 some (decide (0≤v7))

mutual
def ihN_:Nat→Tt→Option Bool
 | 0,_=>none
 | n+1,a0=>
 ae (iiV_ a0.Name) fun v5=>
 bif v5 then
 some (decide ((a0.Args.length:Int)=0))
 else
 ae (iiS_ a0.Name) fun v12=>
 bif v12 then
 bif decide ((a0.Args.length:Int)≤4) then
 ae (sCF_ a0.Args (fun y0=>ihN_1 n y0)) fun v22=>
 some (!v22)
 else
 some false
 else
 some false
def ihN_1:Nat→Tt→Option Bool
 | 0,_=>none
 | n+1,a0=>
 ae (ihN_ n a0) fun v4=>
 some (!v4)
end
def ihN_3(a0:Tt):Option Bool:=lim fun n=>ihN_ n a0
def ihN_6(a0:Tt):Option Bool:=lim fun n=>ihN_1 n a0

def iIV_2(a0:Tt):Option Bool:=
 ae (iiS_1 a0) fun v4=>
 bif v4 then
 ae (ihN_3 a0) fun v7=>
 some v7
 else
 some false

def iiV_1(a0:Tt):Option Bool:=
 ae (sidx a0.Name (0:Int)) fun v5=>
 ae (iiU_ v5) fun v6=>
 some v6

def icN_1:Nat→(List ByteArray)→Tt→Option (List ByteArray)
 | 0,_,_=>none
 | n+1,a0,a1=>
 bif decide ((a1.Args.length:Int)=0) then
 ae (iiV_1 a1) fun v13=>
 bif v13 then
 ae (sCS_ a0 a1.Name) fun v18=>
 bif v18 then
 some a0
 else
 ae (app a0 ([a1.Name])) fun v24=>
 some v24
 else
 thenL (ρ:=(List ByteArray)) (σ:=(List ByteArray)) (forN (fun (i6:Nat) (s6:(List ByteArray))=>
 ae (idx a1.Args (i6:Int)) fun v31=>
 ae (icN_1 n s6 v31) fun v35=>
 some (.nx v35)) a1.Args.length 0 a0) fun s6=>
 some s6
 else
 thenL (ρ:=(List ByteArray)) (σ:=(List ByteArray)) (forN (fun (i6:Nat) (s6:(List ByteArray))=>
 ae (idx a1.Args (i6:Int)) fun v31=>
 ae (icN_1 n s6 v31) fun v35=>
 some (.nx v35)) a1.Args.length 0 a0) fun s6=>
 some s6
def ic_(a0:List ByteArray)(a1:Tt):Option (List ByteArray):=lim fun n=>icN_1 n a0 a1

def iiG_(a0:Tt):Option Bool:=
 ae (iIV_2 a0) fun v4=>
 bif v4 then
 ae (ic_ ([]) a0) fun v7=>
 some (decide ((v7.length:Int)=0))
 else
 some false

def inG_(a0:Tt):Option Bool:=
 ae (iiG_ a0) fun v4=>
 some (!v4)

def iiP_1(a0:ByteArray):Option Bool:=
 some (!(decide (a0=(⟨#[65]⟩:ByteArray))))

def sIF_1(a0:List ByteArray)(a1:ByteArray→Option Bool):Option Int:=
 thenL (ρ:=Int) (σ:=Unit) (forN (fun (i2:Nat) (s2:Unit)=>
 ae (idx a0 (i2:Int)) fun v14=>
 ae (a1 v14) fun v16=>
 bif v16 then
 some (.rt (i2:Int))
 else
 some (.nx ())) a0.length 0 ()) fun s2=>
 some (-1:Int)

def sCF_4(a0:List ByteArray)(a1:ByteArray→Option Bool):Option Bool:=
 ae (sIF_1 a0 a1) fun v7=>
 some (decide (0≤v7))

def iiP_(a0:Tt):Option Bool:=
 ae (iIV_2 a0) fun v4=>
 bif v4 then
 ae (ic_ ([]) a0) fun v7=>
 ae (sCF_4 v7 (fun y0=>iiP_1 y0)) fun v8=>
 some (!v8)
 else
 some false

def iIV_(a0:Tt):Option Bool:=
 ae (iiP_ a0) fun v4=>
 some (!v4)

def ciN_(a0:ByteArray):Option Bool:=
 some (!(decide (a0=a0)))

def cCs_(a0:ByteArray)(a1:ByteArray):Option Int:=
 ae (ciN_ a0) fun v8=>
 ae (ciN_ a1) fun v10=>
 bif v8 then
 bif v10 then
 some (0:Int)
 else
 some (-1:Int)
 else
 bif v10 then
 some (1:Int)
 else
 bif Op.bytesLess a0.data.toList a1.data.toList then
 some (-1:Int)
 else
 bif decide (a0=a1) then
 some (0:Int)
 else
 some (1:Int)

def ciN_1(a0:Int):Option Bool:=
 some (!(decide (a0=a0)))

def cCi_(a0:Int)(a1:Int):Option Int:=
 ae (ciN_1 a0) fun v8=>
 ae (ciN_1 a1) fun v10=>
 bif v8 then
 bif v10 then
 some (0:Int)
 else
 some (-1:Int)
 else
 bif v10 then
 some (1:Int)
 else
 bif decide (a0<a1) then
 some (-1:Int)
 else
 bif decide (a1<a0) then
 some (1:Int)
 else
 some (0:Int)

def cOi_(a0:List Int):Option Int:=
 thenL (ρ:=Int) (σ:=Unit) (forN (fun (i3:Nat) (s3:Unit)=>
 ae (idx a0 (i3:Int)) fun v10=>
 bif decide (v10=0) then
 some (.nx ())
 else
 some (.rt v10)) a0.length 0 ()) fun s3=>
 some (0:Int)

def sCF_1(a0:List Tt)(a1:List Tt)(a2:Tt→Tt→Option Int):Option Int:=
 thenL (ρ:=Int) (σ:=Unit) (forN (fun (i2:Nat) (s2:Unit)=>
 ae (idx a0 (i2:Int)) fun v16=>
 bif decide ((a1.length:Int)≤(i2:Int)) then
 some (.rt (1:Int))
 else
 ae (idx a1 (i2:Int)) fun v24=>
 ae (a2 v16 v24) fun v29=>
 bif decide (v29=0) then
 some (.nx ())
 else
 some (.rt v29)) a0.length 0 ()) fun s2=>
 bif decide ((a0.length:Int)<(a1.length:Int)) then
 some (-1:Int)
 else
 some (0:Int)

def icT_:Nat→Tt→Tt→Option Int
 | 0,_,_=>none
 | n+1,a0,a1=>
 ae (iiV_1 a0) fun v9=>
 ae (iiV_1 a1) fun v11=>
 bif v9 then
 bif v11 then
 ae (cCs_ a0.Name a1.Name) fun v28=>
 ae (cCi_ (a0.Args.length:Int) (a1.Args.length:Int)) fun v35=>
 ae (cOi_ ([v28,v35])) fun v37=>
 bif decide (v37=0) then
 ae (sCF_1 a0.Args a1.Args (fun y0 y1=>icT_ n y0 y1)) fun v45=>
 some v45
 else
 some v37
 else
 some (-1:Int)
 else
 bif v11 then
 some (1:Int)
 else
 ae (cCs_ a0.Name a1.Name) fun v28=>
 ae (cCi_ (a0.Args.length:Int) (a1.Args.length:Int)) fun v35=>
 ae (cOi_ ([v28,v35])) fun v37=>
 bif decide (v37=0) then
 ae (sCF_1 a0.Args a1.Args (fun y0 y1=>icT_ n y0 y1)) fun v45=>
 some v45
 else
 some v37
def icT_2(a0:Tt)(a1:Tt):Option Int:=lim fun n=>icT_ n a0 a1

def iaA_(a0:List Tt):Option Bool:=
 thenL (ρ:=Bool) (σ:=Unit) (forN (fun (i2:Nat) (s2:Unit)=>
 bif decide (0<(i2:Int)) then
 ae (idx a0 (IntKind.i64.wrap ((i2:Int)-1))) fun v15=>
 ae (idx a0 (i2:Int)) fun v19=>
 ae (icT_2 v15 v19) fun v21=>
 bif decide (0≤v21) then
 some (.rt false)
 else
 some (.nx ())
 else
 some (.nx ())) a0.length 0 ()) fun s2=>
 some (decide ((a0.length:Int)≤12))

def iIV_1(a0:Dt):Option Bool:=
 ae (sCF_ a0.Instances (fun y0=>inG_ y0)) fun v5=>
 bif v5 then
 some false
 else
 ae (sCF_ a0.Patterns (fun y0=>iIV_ y0)) fun v9=>
 bif v9 then
 some false
 else
 ae (iaA_ a0.Patterns) fun v13=>
 bif v13 then
 ae (iaA_ a0.Instances) fun v17=>
 bif v17 then
 bif decide (0<(a0.Instances.length:Int)) then
 some true
 else
 ae (sCF_ a0.Patterns (fun y0=>inG_ y0)) fun v27=>
 some (!v27)
 else
 some false
 else
 some false

def icN_:Nat→Tt→ByteArray→Option Int
 | 0,_,_=>none
 | n+1,a0,a1=>
 bif decide (a0.Name=a1) then
 thenL (ρ:=Int) (σ:=Int) (forN (fun (i5:Nat) (s5:Int)=>
 ae (idx a0.Args (i5:Int)) fun v17=>
 ae (icN_ n v17 a1) fun v22=>
 some (.nx (IntKind.i64.wrap (s5+v22)))) a0.Args.length 0 (1:Int)) fun s5=>
 some s5
 else
 thenL (ρ:=Int) (σ:=Int) (forN (fun (i5:Nat) (s5:Int)=>
 ae (idx a0.Args (i5:Int)) fun v17=>
 ae (icN_ n v17 a1) fun v22=>
 some (.nx (IntKind.i64.wrap (s5+v22)))) a0.Args.length 0 (0:Int)) fun s5=>
 some s5
def icN_2(a0:Tt)(a1:ByteArray):Option Int:=lim fun n=>icN_ n a0 a1

def io_(a0:ByteArray)(a1:Tt):Option Bool:=
 ae (icN_2 a1 a0) fun v7=>
 some (decide (0<v7))

def sEF_(a0:List Tt)(a1:List Tt)(a2:Tt→Tt→Option Bool):Option Bool:=
 bif decide ((a0.length:Int)=(a1.length:Int)) then
 thenL (ρ:=Bool) (σ:=Unit) (forN (fun (i4:Nat) (s4:Unit)=>
 ae (idx a0 (i4:Int)) fun v20=>
 ae (idx a1 (i4:Int)) fun v24=>
 ae (a2 v20 v24) fun v29=>
 bif v29 then
 some (.nx ())
 else
 some (.rt false)) a0.length 0 ()) fun s4=>
 some true
 else
 some false

def iET_:Nat→Tt→Tt→Option Bool
 | 0,_,_=>none
 | n+1,a0,a1=>
 bif decide (a0.Name=a1.Name) then
 ae (sEF_ a0.Args a1.Args (fun y0 y1=>iET_ n y0 y1)) fun v15=>
 some v15
 else
 some false
def iET_1(a0:Tt)(a1:Tt):Option Bool:=lim fun n=>iET_ n a0 a1

def iaA_2(a0:Tt)(b0:Tt):Option Bool:=
 ae (iET_1 a0 b0) fun v6=>
 some v6

mutual
def icT_1:Nat→Tt→Option Tt
 | 0,_=>none
 | n+1,a0=>
 ae (icT_3 n a0.Args) fun v7=>
 some (Tt.mk a0.Name v7)
def icT_3:Nat→(List Tt)→Option (List Tt)
 | 0,_=>none
 | n+1,a0=>
 bif decide ((a0.length:Int)=0) then
 some ([])
 else
 ae (mkn (a0.length:Int)) fun n11=>
 thenL (ρ:=(List Tt)) (σ:=(List Tt)) (forN (fun (i5:Nat) (s5:(List Tt))=>
 ae (idx a0 (i5:Int)) fun v17=>
 ae (icT_1 n v17) fun v22=>
 ae (idx s5 (i5:Int)) fun v23=>
 ae (idx s5 (i5:Int)) fun w3=>
 some (.nx (s5.set (i5:Int).toNat v22))) a0.length 0 (List.replicate n11 (Tt.mk ⟨#[]⟩ ([])))) fun s5=>
 some s5
end
def icT_5(a0:Tt):Option Tt:=lim fun n=>icT_1 n a0
def icT_9(a0:List Tt):Option (List Tt):=lim fun n=>icT_3 n a0

def iaA_1(a0:List Tt)(a1:Tt):Option (List Tt):=
 ae (sCF_ a0 (fun y0=>iaA_2 y0 a1)) fun v7=>
 bif v7 then
 some a0
 else
 ae (icT_5 a1) fun v11=>
 ae (app a0 ([v11])) fun v13=>
 some v13

def irV_:Nat→Tt→(GMap Tt)→Option Tt
 | 0,_,_=>none
 | n+1,a0,a1=>
 bif GMap.has a1 a0.Name then
 bif decide ((a0.Args.length:Int)=0) then
 ae (icT_5 (GMap.get a1 a0.Name (Tt.mk ⟨#[]⟩ ([])))) fun v25=>
 some v25
 else
 thenL (ρ:=Tt) (σ:=(List Tt)) (forN (fun (i6:Nat) (s6:(List Tt))=>
 ae (idx a0.Args (i6:Int)) fun v34=>
 ae (irV_ n v34 a1) fun v40=>
 ae (app s6 ([v40])) fun v42=>
 some (.nx v42)) a0.Args.length 0 ([])) fun s6=>
 some (Tt.mk a0.Name s6)
 else
 thenL (ρ:=Tt) (σ:=(List Tt)) (forN (fun (i6:Nat) (s6:(List Tt))=>
 ae (idx a0.Args (i6:Int)) fun v34=>
 ae (irV_ n v34 a1) fun v40=>
 ae (app s6 ([v40])) fun v42=>
 some (.nx v42)) a0.Args.length 0 ([])) fun s6=>
 some (Tt.mk a0.Name s6)
def irV_1(a0:Tt)(a1:GMap Tt):Option Tt:=lim fun n=>irV_ n a0 a1

def if_(a0:Tt)(a1:Tt):Option Tt:=
 ae (irV_1 a0 (GMap.put (GMap.empty:GMap Tt) (⟨#[65]⟩:ByteArray) a1)) fun v9=>
 some v9

def cmpT(x y:Tt):Int:=(icT_2 x y).getD 0
structure SortOk(l:List Tt):Prop where
 len:l.length≤1073741824
 ex:∀ x∈l,∀ y∈l,icT_2 x y=some (cmpT x y)
 irr:∀ x∈l,¬ cmpT x x<0
 tr:∀ x∈l,∀ y∈l,∀ z∈l,cmpT x y<0→cmpT y z<0→cmpT x z<0
 ntr:∀ x∈l,∀ y∈l,∀ z∈l,¬ cmpT x y<0→¬ cmpT y z<0→¬ cmpT x z<0
 anti:∀ x∈l,∀ y∈l,¬ cmpT x y<0→¬ cmpT y x<0→x=y
def sT_1(l:List Tt):List Tt:=(l.attach.mergeSort fun x y=>!decide (cmpT y.1 x.1<0)).map (·.1)
def sSF_(a0:List Tt):Option (Unit×List Tt):=@ite _ (SortOk a0) (Classical.propDecidable _) (some ((),sT_1 a0)) none

def il_(a0:Dt):Option ((List Tt)×Bool):=
 thenL (ρ:=((List Tt)×Bool)) (σ:=(List Tt)) (forN (fun (i3:Nat) (s3:(List Tt))=>
 ae (idx a0.Patterns (i3:Int)) fun v16=>
 ae (io_ (⟨#[65]⟩:ByteArray) v16) fun v19=>
 bif v19 then
 thenL (ρ:=(Flow ((List Tt)×Bool) (List Tt))) (σ:=(List Tt)) (forN (fun (i8:Nat) (s8:(List Tt))=>
 ae (idx a0.Instances (i8:Int)) fun v29=>
 ae (if_ v16 v29) fun v33=>
 ae (iIV_2 v33) fun v35=>
 bif v35 then
 ae (iaA_1 s8 v33) fun v39=>
 some (.nx v39)
 else
 some (.rt (.rt ([],false)))) a0.Instances.length 0 s3) fun s8=>
 some (.nx s8)
 else
 ae (iaA_1 s3 v16) fun v23=>
 some (.nx v23)) a0.Patterns.length 0 ([])) fun s3=>
 ae (sSF_ s3) fun v43=>
 some (v43.2,true)

def iLO_(a0:Dt):Option ((List Tt)×Bool):=
 ae (iIV_1 a0) fun v5=>
 bif v5 then
 ae (il_ a0) fun v8=>
 some (v8.1,v8.2)
 else
 some ([],false)

def iDT_(a0:Dt)(a1:List Tt):Option (Bool×Bool):=
 ae (iLO_ a0) fun v13=>
 bif v13.2 then
 bif decide (60<(a1.length:Int)) then
 some (false,false)
 else
 ae (sCF_ a1 (fun y0=>inG_ y0)) fun v25=>
 bif v25 then
 some (false,false)
 else
 thenL (ρ:=(Bool×Bool)) (σ:=(List Tt)) (forN (fun (i6:Nat) (s6:(List Tt))=>
 ae (idx a1 (i6:Int)) fun v32=>
 ae (iaA_1 s6 v32) fun v36=>
 some (.nx v36)) a1.length 0 ([])) fun s6=>
 ae (sSF_ s6) fun v39=>
 ae (sEF_ v39.2 v13.1 (fun y0 y1=>iET_1 y0 y1)) fun v42=>
 some (v42,true)
 else
 some (false,false)

mutual
def eTS_:Nat→(List Tt)→(List Tt)→Option Bool
 | 0,_,_=>none
 | n+1,a0,a1=>
 bif decide ((a0.length:Int)=(a1.length:Int)) then
 thenL (ρ:=Bool) (σ:=Unit) (forN (fun (i4:Nat) (s4:Unit)=>
 ae (idx a0 (i4:Int)) fun v19=>
 ae (idx a1 (i4:Int)) fun v23=>
 ae (eTN_ n v19 v23) fun v25=>
 bif v25 then
 some (.nx ())
 else
 some (.rt false)) a0.length 0 ()) fun s4=>
 some true
 else
 some false
def eTN_:Nat→Tt→Tt→Option Bool
 | 0,_,_=>none
 | n+1,a0,a1=>
 bif decide (a0.Name=a1.Name) then
 ae (eTS_ n a0.Args a1.Args) fun v14=>
 bif v14 then
 some true
 else
 some false
 else
 some false
end
def eTS_4(a0:List Tt)(a1:List Tt):Option Bool:=lim fun n=>eTS_ n a0 a1
def eT_(a0:Tt)(a1:Tt):Option Bool:=lim fun n=>eTN_ n a0 a1

def eD_(a0:Dt)(a1:Dt):Option Bool:=
 ae (eTS_4 a0.Patterns a1.Patterns) fun v9=>
 bif v9 then
 ae (eTS_4 a0.Instances a1.Instances) fun v15=>
 bif v15 then
 some true
 else
 some false
 else
 some false

def FnExactDescribesTerms(a0:Dt)(a1:List Tt):Option Bool:=
 ae (sD_ a0 (1048576:Int)) fun v14=>
 bif decide (v14<0) then
 some true
 else
 ae (sTS_4 a1 v14) fun v19=>
 bif decide (v19<0) then
 some true
 else
 ae (tD_ a0) fun v24=>
 ae (tTS_2 a1) fun v26=>
 ae (sDT_ v24 v26) fun v27=>
 ae (tD_ a0) fun v31=>
 ae (tTS_2 a1) fun v33=>
 ae (iDT_ v31 v33) fun v37=>
 bif v37.1==v27.1 then
 bif v37.2==v27.2 then
 ae (tD_ a0) fun v50=>
 ae (eD_ v31 v50) fun v51=>
 bif v51 then
 ae (tTS_2 a1) fun v55=>
 ae (eTS_4 v33 v55) fun v56=>
 bif v56 then
 some true
 else
 some false
 else
 some false
 else
 some false
 else
 some false

end
end Go.Proofs.YtikhljkojadogaaGreat
