/- Lemmas of the proof; each says what it shows. -/
import Derived.Test.YtpfobcjmfobiaaaGty
set_option linter.unusedSimpArgs false
set_option linter.unusedVariables false
set_option linter.defProp false
set_option maxRecDepth 4000
namespace Go.Proofs.Ytpfobcjmfobiaaa
open Go.Av
open Option renaming bind→ag
noncomputable section
mutual
def sTS_:Nat→(List Tt)→Int→Option Int
 | 0,_,_=>none
 | n+1,a0,a1=>
 bif decide ((IntKind.i64.wrap (a1-(a0.length:Int)))<0) then
 some (-1:Int)
 else
 thenL (ρ:=Int) (σ:=Int) (forN (fun (i5:Nat) (s5:Int)=>
 ag (idx a0 (i5:Int)) fun v20=>
 ag (sTN_ n v20 s5) fun v23=>
 bif decide (v23<0) then
 some (.rt (-1:Int))
 else
 some (.nx v23)) a0.length 0 (IntKind.i64.wrap (a1-(a0.length:Int)))) fun s5=>
 some s5
def sTN_:Nat→Tt→Int→Option Int
 | 0,_,_=>none
 | n+1,a0,a1=>
 bif decide ((IntKind.i64.wrap (a1-(a0.Name.size:Int)))<0) then
 some (-1:Int)
 else
 ag (sTS_ n a0.Args (IntKind.i64.wrap (a1-(a0.Name.size:Int)))) fun v15=>
 bif decide (v15<0) then
 some (-1:Int)
 else
 some v15
end
def sTS_2(a0:List Tt)(a1:Int):Option Int:=lim fun n=>sTS_ n a0 a1
def sT_1(a0:Tt)(a1:Int):Option Int:=lim fun n=>sTN_ n a0 a1

mutual
def tTS_:Nat→(List Tt)→Option (List Tt)
 | 0,_=>none
 | n+1,a0=>
 ag (mkn (a0.length:Int)) fun n7=>
 thenL (ρ:=(List Tt)) (σ:=(List Tt)) (forN (fun (i3:Nat) (s3:(List Tt))=>
 ag (idx a0 (i3:Int)) fun v18=>
 ag (tTN_ n v18) fun v20=>
 ag (idx s3 (i3:Int)) fun v21=>
 ag (idx s3 (i3:Int)) fun w2=>
 some (.nx (s3.set (i3:Int).toNat v20))) a0.length 0 (List.replicate n7 (Tt.mk ⟨#[]⟩ ([])))) fun s3=>
 some s3
def tTN_:Nat→Tt→Option Tt
 | 0,_=>none
 | n+1,a0=>
 ag (tTS_ n a0.Args) fun v9=>
 some (Tt.mk a0.Name v9)
end
def tTS_2(a0:List Tt):Option (List Tt):=lim fun n=>tTS_ n a0
def tT_(a0:Tt):Option Tt:=lim fun n=>tTN_ n a0

def slI_1(a0:Int)(a1:Int)(a2:Int):Option Bool:=
 bif decide (a1≤a0) then
 some (decide (a0≤a2))
 else
 some false

def slM_:Nat→Tt→Int→Option Int
 | 0,_,_=>none
 | n+1,a0,a1=>
 thenL (ρ:=Int) (σ:=Int) (forN (fun (i3:Nat) (s3:Int)=>
 bif decide (s3≤a1) then
 ag (idx a0.Args (i3:Int)) fun v23=>
 ag (slM_ n v23 (IntKind.i64.wrap (a1-s3))) fun v28=>
 some (.nx (IntKind.i64.wrap (s3+v28)))
 else
 some (.rt s3)) a0.Args.length 0 (1:Int)) fun s3=>
 some s3
def slM_2(a0:Tt)(a1:Int):Option Int:=lim fun n=>slM_ n a0 a1

def slM_1(a0:Int)(a1:Int):Option Int:=
 bif decide (a1<a0) then
 some a0
 else
 some a1

def slD_:Nat→Tt→Option Int
 | 0,_=>none
 | n+1,a0=>
 thenL (ρ:=Int) (σ:=Int) (forN (fun (i3:Nat) (s3:Int)=>
 ag (idx a0.Args (i3:Int)) fun v16=>
 ag (slD_ n v16) fun v18=>
 ag (slM_1 s3 v18) fun v19=>
 some (.nx v19)) a0.Args.length 0 (0:Int)) fun s3=>
 some (IntKind.i64.wrap (s3+1))
def slD_1(a0:Tt):Option Int:=lim fun n=>slD_ n a0

def slF_(a0:Tt):Option Bool:=
 ag (slM_2 a0 30) fun v4=>
 bif decide (v4≤30) then
 ag (slD_1 a0) fun v8=>
 some (decide (v8≤8))
 else
 some false

def slS_1(a0:Int):Option Bool:=
 bif decide (97≤a0) then
 bif decide (a0≤122) then
 some true
 else
 bif decide (48≤a0) then
 some (decide (a0≤57))
 else
 some false
 else
 bif decide (48≤a0) then
 some (decide (a0≤57))
 else
 some false

def slV_(a0:ByteArray):Option Bool:=
 ag (slI_1 (a0.size:Int) 1 4) fun v6=>
 bif v6 then
 ag (sidx a0 (0:Int)) fun v10=>
 bif decide (v10<65) then
 some false
 else
 ag (sidx a0 (0:Int)) fun v15=>
 bif decide (90<v15) then
 some false
 else
 ag (bnd (a0.size:Int)) fun N4=>
 thenL (ρ:=Bool) (σ:=Unit) (forN (fun (i4:Nat) (s4:Unit)=>
 ag (sidx a0 (i4:Int)) fun v26=>
 ag (slS_1 v26) fun v27=>
 bif v27 then
 some (.nx ())
 else
 some (.rt false)) (N4-1) 1 ()) fun s4=>
 some true
 else
 some false

def slS_2(a0:ByteArray):Option Bool:=
 ag (slI_1 (a0.size:Int) 1 6) fun v6=>
 bif v6 then
 ag (sidx a0 (0:Int)) fun v10=>
 bif decide (v10<97) then
 some false
 else
 ag (sidx a0 (0:Int)) fun v15=>
 bif decide (122<v15) then
 some false
 else
 bif decide (a0=(⟨#[116,114,117,101]⟩:ByteArray)) then
 some false
 else
 bif decide (a0=(⟨#[102,97,108,115,101]⟩:ByteArray)) then
 some false
 else
 bif decide (a0=(⟨#[116,114,117,116,104]⟩:ByteArray)) then
 some false
 else
 bif decide (a0=(⟨#[98,111,116,104]⟩:ByteArray)) then
 some false
 else
 bif decide (a0=(⟨#[101,105,116,104,101,114]⟩:ByteArray)) then
 some false
 else
 bif decide (a0=(⟨#[105,102]⟩:ByteArray)) then
 some false
 else
 bif decide (a0=(⟨#[97,108,108]⟩:ByteArray)) then
 some false
 else
 bif decide (a0=(⟨#[115,111,109,101]⟩:ByteArray)) then
 some false
 else
 ag (bnd (a0.size:Int)) fun N14=>
 thenL (ρ:=Bool) (σ:=Unit) (forN (fun (i14:Nat) (s14:Unit)=>
 ag (sidx a0 (i14:Int)) fun v36=>
 ag (slS_1 v36) fun v37=>
 bif v37 then
 some (.nx ())
 else
 ag (sidx a0 (i14:Int)) fun v42=>
 bif decide (v42=95) then
 some (.nx ())
 else
 some (.rt false)) (N14-1) 1 ()) fun s14=>
 some true
 else
 some false

def slN_:Nat→Tt→Option Bool
 | 0,_=>none
 | n+1,a0=>
 ag (slV_ a0.Name) fun v6=>
 bif v6 then
 some (decide ((a0.Args.length:Int)=0))
 else
 ag (slS_2 a0.Name) fun v13=>
 bif v13 then
 bif decide (4<(a0.Args.length:Int)) then
 some false
 else
 thenL (ρ:=Bool) (σ:=Unit) (forN (fun (i6:Nat) (s6:Unit)=>
 ag (idx a0.Args (i6:Int)) fun v31=>
 ag (slN_ n v31) fun v33=>
 bif v33 then
 some (.nx ())
 else
 some (.rt false)) a0.Args.length 0 ()) fun s6=>
 some true
 else
 some false
def slN_1(a0:Tt):Option Bool:=lim fun n=>slN_ n a0

def slG_2(a0:Tt):Option Bool:=
 ag (slF_ a0) fun v4=>
 bif v4 then
 ag (slN_1 a0) fun v7=>
 some v7
 else
 some false

def slP_(a0:List ByteArray)(a1:ByteArray):Option (List ByteArray):=
 thenL (ρ:=(List ByteArray)) (σ:=Unit) (forN (fun (i2:Nat) (s2:Unit)=>
 ag (idx a0 (i2:Int)) fun v13=>
 bif Op.bytesLess v13.data.toList a1.data.toList then
 some (.nx ())
 else
 ag (idx a0 (i2:Int)) fun v27=>
 bif decide (v27=a1) then
 some (.rt a0)
 else
 ag (slc a0 (0:Int) (i2:Int)) fun v36=>
 ag (app ([]) v36) fun v37=>
 ag (app v37 ([a1])) fun v40=>
 ag (slc a0 (i2:Int) (a0.length:Int)) fun v43=>
 ag (app v40 v43) fun v44=>
 some (.rt v44)) a0.length 0 ()) fun s2=>
 ag (slc a0 (0:Int) ((a0.length:Nat):Int)) fun v36=>
 ag (app ([]) v36) fun v37=>
 ag (app v37 ([a1])) fun v40=>
 ag (slc a0 ((a0.length:Nat):Int) (a0.length:Int)) fun v43=>
 ag (app v40 v43) fun v44=>
 some v44

def slI_:Nat→(List ByteArray)→Tt→Option (List ByteArray)
 | 0,_,_=>none
 | n+1,a0,a1=>
 ag (slV_ a1.Name) fun v8=>
 bif v8 then
 ag (slP_ a0 a1.Name) fun v12=>
 some v12
 else
 thenL (ρ:=(List ByteArray)) (σ:=(List ByteArray)) (forN (fun (i4:Nat) (s4:(List ByteArray))=>
 ag (idx a1.Args (i4:Int)) fun v24=>
 ag (slI_ n s4 v24) fun v26=>
 some (.nx v26)) a1.Args.length 0 a0) fun s4=>
 some s4
def slI_3(a0:List ByteArray)(a1:Tt):Option (List ByteArray):=lim fun n=>slI_ n a0 a1

def slV_1(a0:Tt):Option (List ByteArray):=
 ag (slI_3 ([]) a0) fun v5=>
 some v5

def slG_1(a0:Tt):Option Bool:=
 ag (slV_1 a0) fun v4=>
 some (decide ((v4.length:Int)=0))

def slT_(a0:List Tt):Option Bool:=
 thenL (ρ:=Bool) (σ:=Unit) (forN (fun (i2:Nat) (s2:Unit)=>
 bif decide ((i2:Int)≤60) then
 ag (idx a0 (i2:Int)) fun v16=>
 ag (slG_2 v16) fun v18=>
 bif v18 then
 ag (idx a0 (i2:Int)) fun v23=>
 ag (slG_1 v23) fun v25=>
 bif v25 then
 some (.nx ())
 else
 some (.rt false)
 else
 some (.rt false)
 else
 some (.rt (decide ((a0.length:Int)≤60)))) a0.length 0 ()) fun s2=>
 some (decide ((a0.length:Int)≤60))

def slS_:Nat→Tt→Tt→Option Bool
 | 0,_,_=>none
 | n+1,a0,a1=>
 bif decide (a0.Name=a1.Name) then
 bif decide ((a0.Args.length:Int)=(a1.Args.length:Int)) then
 thenL (ρ:=Bool) (σ:=Unit) (forN (fun (i4:Nat) (s4:Unit)=>
 ag (idx a0.Args (i4:Int)) fun v30=>
 ag (idx a1.Args (i4:Int)) fun v35=>
 ag (slS_ n v30 v35) fun v37=>
 bif v37 then
 some (.nx ())
 else
 some (.rt false)) a0.Args.length 0 ()) fun s4=>
 some true
 else
 some false
 else
 some false
def slS_3(a0:Tt)(a1:Tt):Option Bool:=lim fun n=>slS_ n a0 a1

def slO_:Nat→Tt→Option Tt
 | 0,_=>none
 | n+1,a0=>
 thenL (ρ:=Tt) (σ:=(List Tt)) (forN (fun (i3:Nat) (s3:(List Tt))=>
 ag (idx a0.Args (i3:Int)) fun v20=>
 ag (slO_ n v20) fun v22=>
 ag (app s3 ([v22])) fun v24=>
 some (.nx v24)) a0.Args.length 0 ([])) fun s3=>
 some (Tt.mk a0.Name s3)
def slO_1(a0:Tt):Option Tt:=lim fun n=>slO_ n a0

def slC_(a0:List Tt):Option (List Tt):=
 thenL (ρ:=(List Tt)) (σ:=(List Tt)) (forN (fun (i3:Nat) (s3:(List Tt))=>
 ag (idx a0 (i3:Int)) fun v15=>
 ag (slO_1 v15) fun v17=>
 ag (app s3 ([v17])) fun v19=>
 some (.nx v19)) a0.length 0 ([])) fun s3=>
 some s3

def slS_4(a0:List Tt)(a1:List Tt):Option Bool:=
 bif decide ((a0.length:Int)=(a1.length:Int)) then
 thenL (ρ:=Bool) (σ:=Unit) (forN (fun (i4:Nat) (s4:Unit)=>
 ag (idx a0 (i4:Int)) fun v19=>
 ag (idx a1 (i4:Int)) fun v23=>
 ag (slS_3 v19 v23) fun v25=>
 bif v25 then
 some (.nx ())
 else
 some (.rt false)) a0.length 0 ()) fun s4=>
 some true
 else
 some false

def slG_:Nat→(List Tt)→Option (Tt×(List Tt))
 | 0,_=>none
 | n+1,a0=>
 ag (idx a0 0) fun v17=>
 thenL (ρ:=(Tt×(List Tt))) (σ:=Bool×Bool) (forN (fun (i4:Nat) (s4:Bool×Bool)=>
 bif s4.1 then
 ag (idx a0 (i4:Int)) fun v30=>
 ag (slS_3 v17 v30) fun v32=>
 bif s4.2 then
 ag (idx a0 (i4:Int)) fun v38=>
 bif decide (v38.Name=v17.Name) then
 ag (idx a0 (i4:Int)) fun v48=>
 some (.nx (v32,decide ((v48.Args.length:Int)=(v17.Args.length:Int))))
 else
 some (.nx (v32,false))
 else
 some (.nx (v32,false))
 else
 bif s4.2 then
 ag (idx a0 (i4:Int)) fun v38=>
 bif decide (v38.Name=v17.Name) then
 ag (idx a0 (i4:Int)) fun v48=>
 some (.nx (false,decide ((v48.Args.length:Int)=(v17.Args.length:Int))))
 else
 some (.nx (false,false))
 else
 some (.nx (false,false))) (a0.length-1) 1 (true,true)) fun s4=>
 bif s4.1 then
 ag (slO_1 v17) fun v59=>
 some (v59,[])
 else
 bif s4.2 then
 thenL (ρ:=(Tt×(List Tt))) (σ:=(List Tt)×(List Tt)) (forN (fun (i16:Nat) (s16:(List Tt)×(List Tt))=>
 thenL (ρ:=(Flow (Tt×(List Tt)) ((List Tt)×(List Tt)))) (σ:=(List Tt)) (forN (fun (i20:Nat) (s20:(List Tt))=>
 ag (idx a0 (i20:Int)) fun v88=>
 ag (idx v88.Args (i16:Int)) fun v92=>
 ag (app s20 ([v92])) fun v95=>
 some (.nx v95)) a0.length 0 ([])) fun s20=>
 ag (slG_ n s20) fun v98=>
 bif decide (0<(v98.2.length:Int)) then
 bif decide (0<(s16.1.length:Int)) then
 ag (slS_4 s16.1 v98.2) fun v112=>
 bif v112 then
 ag (app s16.2 ([v98.1])) fun v126=>
 some (.nx (v98.2,v126))
 else
 ag (slC_ a0) fun v117=>
 some (.rt ((Tt.mk (⟨#[65]⟩:ByteArray) ([])),v117))
 else
 ag (app s16.2 ([v98.1])) fun v126=>
 some (.nx (v98.2,v126))
 else
 ag (app s16.2 ([v98.1])) fun v126=>
 some (.nx (s16.1,v126))) v17.Args.length 0 ([],[])) fun s16=>
 some ((Tt.mk v17.Name s16.2),s16.1)
 else
 ag (slC_ a0) fun v66=>
 some ((Tt.mk (⟨#[65]⟩:ByteArray) ([])),v66)
def slG_3(a0:List Tt):Option (Tt×(List Tt)):=lim fun n=>slG_ n a0

def sGT_(a0:List Tt):Option (Tt×(List Tt)×Bool):=
 ag (slI_1 (a0.length:Int) 1 6) fun v9=>
 bif v9 then
 ag (slT_ a0) fun v13=>
 bif v13 then
 ag (slG_3 a0) fun v20=>
 some (v20.1,v20.2,true)
 else
 some ((Tt.mk ⟨#[]⟩ ([])),[],false)
 else
 some ((Tt.mk ⟨#[]⟩ ([])),[],false)

def iw_(a0:Int)(a1:Int)(a2:Int):Option Bool:=
 bif decide (a1≤a0) then
 some (decide (a0≤a2))
 else
 some false

def isN_:Nat→Tt→Option Int
 | 0,_=>none
 | n+1,a0=>
 thenL (ρ:=Int) (σ:=Int) (forN (fun (i3:Nat) (s3:Int)=>
 ag (idx a0.Args (i3:Int)) fun v11=>
 bif decide (30<s3) then
 some (.rt s3)
 else
 ag (isN_ n v11) fun v18=>
 some (.nx (IntKind.i64.wrap (s3+v18)))) a0.Args.length 0 (1:Int)) fun s3=>
 some s3
def is_(a0:Tt):Option Int:=lim fun n=>isN_ n a0

def idN_:Nat→Tt→Option Int
 | 0,_=>none
 | n+1,a0=>
 thenL (ρ:=Int) (σ:=Int) (forN (fun (i3:Nat) (s3:Int)=>
 ag (idx a0.Args (i3:Int)) fun v11=>
 ag (idN_ n v11) fun v15=>
 some (.nx (max s3 v15))) a0.Args.length 0 (0:Int)) fun s3=>
 some (IntKind.i64.wrap (s3+1))
def id_(a0:Tt):Option Int:=lim fun n=>idN_ n a0

def iiS_1(a0:Tt):Option Bool:=
 ag (is_ a0) fun v4=>
 bif decide (v4≤30) then
 ag (id_ a0) fun v8=>
 some (decide (v8≤8))
 else
 some false

def iiU_(a0:Int):Option Bool:=
 bif decide (65≤a0) then
 some (decide (a0≤90))
 else
 some false

def iiL_(a0:Int):Option Bool:=
 bif decide (97≤a0) then
 some (decide (a0≤122))
 else
 some false

def iiD_(a0:Int):Option Bool:=
 bif decide (48≤a0) then
 some (decide (a0≤57))
 else
 some false

def iiV_(a0:ByteArray):Option Bool:=
 ag (bnd (a0.size:Int)) fun N2=>
 thenL (ρ:=Bool) (σ:=Unit) (forN (fun (i2:Nat) (s2:Unit)=>
 bif decide ((i2:Int)=0) then
 ag (sidx a0 (i2:Int)) fun v14=>
 ag (iiU_ v14) fun v15=>
 bif v15 then
 bif decide (0<(i2:Int)) then
 ag (sidx a0 (i2:Int)) fun v24=>
 ag (iiL_ v24) fun v25=>
 bif v25 then
 some (.nx ())
 else
 ag (sidx a0 (i2:Int)) fun v31=>
 ag (iiD_ v31) fun v32=>
 bif v32 then
 some (.nx ())
 else
 some (.rt false)
 else
 some (.nx ())
 else
 some (.rt false)
 else
 bif decide (0<(i2:Int)) then
 ag (sidx a0 (i2:Int)) fun v24=>
 ag (iiL_ v24) fun v25=>
 bif v25 then
 some (.nx ())
 else
 ag (sidx a0 (i2:Int)) fun v31=>
 ag (iiD_ v31) fun v32=>
 bif v32 then
 some (.nx ())
 else
 some (.rt false)
 else
 some (.nx ())) N2 0 ()) fun s2=>
 ag (iw_ (a0.size:Int) 1 4) fun v39=>
 some v39

def ir_  :Option (List ByteArray):=
 some ([(⟨#[116,114,117,101]⟩:ByteArray),(⟨#[102,97,108,115,101]⟩:ByteArray),(⟨#[116,114,117,116,104]⟩:ByteArray),(⟨#[98,111,116,104]⟩:ByteArray),(⟨#[101,105,116,104,101,114]⟩:ByteArray),(⟨#[105,102]⟩:ByteArray),(⟨#[97,108,108]⟩:ByteArray),(⟨#[115,111,109,101]⟩:ByteArray)])

def sIS_(a0:List ByteArray)(a1:ByteArray):Option Int:=
 thenL (ρ:=Int) (σ:=Unit) (forN (fun (i2:Nat) (s2:Unit)=>
 ag (idx a0 (i2:Int)) fun v14=>
 bif decide (a1=v14) then
 some (.rt (i2:Int))
 else
 some (.nx ())) a0.length 0 ()) fun s2=>
 some (-1:Int)

def sCS_(a0:List ByteArray)(a1:ByteArray):Option Bool:=
 ag (sIS_ a0 a1) fun v7=>
 some (decide (0≤v7))

def iiS_(a0:ByteArray):Option Bool:=
 ag (bnd (a0.size:Int)) fun N2=>
 thenL (ρ:=Bool) (σ:=Unit) (forN (fun (i2:Nat) (s2:Unit)=>
 bif decide ((i2:Int)=0) then
 ag (sidx a0 (i2:Int)) fun v14=>
 ag (iiL_ v14) fun v15=>
 bif v15 then
 ag (sidx a0 (i2:Int)) fun v21=>
 ag (iiL_ v21) fun v22=>
 bif v22 then
 some (.nx ())
 else
 ag (sidx a0 (i2:Int)) fun v27=>
 ag (iiD_ v27) fun v28=>
 bif v28 then
 some (.nx ())
 else
 ag (sidx a0 (i2:Int)) fun v34=>
 bif decide (v34=95) then
 some (.nx ())
 else
 some (.rt false)
 else
 some (.rt false)
 else
 ag (sidx a0 (i2:Int)) fun v21=>
 ag (iiL_ v21) fun v22=>
 bif v22 then
 some (.nx ())
 else
 ag (sidx a0 (i2:Int)) fun v27=>
 ag (iiD_ v27) fun v28=>
 bif v28 then
 some (.nx ())
 else
 ag (sidx a0 (i2:Int)) fun v34=>
 bif decide (v34=95) then
 some (.nx ())
 else
 some (.rt false)) N2 0 ()) fun s2=>
 ag (iw_ (a0.size:Int) 1 6) fun v41=>
 bif v41 then
 ag (ir_ ) fun v43=>
 ag (sCS_ v43 a0) fun v45=>
 some (!v45)
 else
 some false

def sIF_(a0:List Tt)(a1:Tt→Option Bool):Option Int:=
 thenL (ρ:=Int) (σ:=Unit) (forN (fun (i2:Nat) (s2:Unit)=>
 ag (idx a0 (i2:Int)) fun v14=>
 ag (a1 v14) fun v16=>
 bif v16 then
 some (.rt (i2:Int))
 else
 some (.nx ())) a0.length 0 ()) fun s2=>
 some (-1:Int)

def sCF_(a0:List Tt)(a1:Tt→Option Bool):Option Bool:=
 ag (sIF_ a0 a1) fun v7=>
 some (decide (0≤v7))

mutual
def ihN_:Nat→Tt→Option Bool
 | 0,_=>none
 | n+1,a0=>
 ag (iiV_ a0.Name) fun v5=>
 bif v5 then
 some (decide ((a0.Args.length:Int)=0))
 else
 ag (iiS_ a0.Name) fun v12=>
 bif v12 then
 bif decide ((a0.Args.length:Int)≤4) then
 ag (sCF_ a0.Args (fun y0=>ihN_1 n y0)) fun v22=>
 some (!v22)
 else
 some false
 else
 some false
def ihN_1:Nat→Tt→Option Bool
 | 0,_=>none
 | n+1,a0=>
 ag (ihN_ n a0) fun v4=>
 some (!v4)
end
def ihN_3(a0:Tt):Option Bool:=lim fun n=>ihN_ n a0
def ihN_6(a0:Tt):Option Bool:=lim fun n=>ihN_1 n a0

def iIV_(a0:Tt):Option Bool:=
 ag (iiS_1 a0) fun v4=>
 bif v4 then
 ag (ihN_3 a0) fun v7=>
 some v7
 else
 some false

def iiV_1(a0:Tt):Option Bool:=
 ag (sidx a0.Name (0:Int)) fun v5=>
 ag (iiU_ v5) fun v6=>
 some v6

def icN_:Nat→(List ByteArray)→Tt→Option (List ByteArray)
 | 0,_,_=>none
 | n+1,a0,a1=>
 bif decide ((a1.Args.length:Int)=0) then
 ag (iiV_1 a1) fun v13=>
 bif v13 then
 ag (sCS_ a0 a1.Name) fun v18=>
 bif v18 then
 some a0
 else
 ag (app a0 ([a1.Name])) fun v24=>
 some v24
 else
 thenL (ρ:=(List ByteArray)) (σ:=(List ByteArray)) (forN (fun (i6:Nat) (s6:(List ByteArray))=>
 ag (idx a1.Args (i6:Int)) fun v31=>
 ag (icN_ n s6 v31) fun v35=>
 some (.nx v35)) a1.Args.length 0 a0) fun s6=>
 some s6
 else
 thenL (ρ:=(List ByteArray)) (σ:=(List ByteArray)) (forN (fun (i6:Nat) (s6:(List ByteArray))=>
 ag (idx a1.Args (i6:Int)) fun v31=>
 ag (icN_ n s6 v31) fun v35=>
 some (.nx v35)) a1.Args.length 0 a0) fun s6=>
 some s6
def ic_(a0:List ByteArray)(a1:Tt):Option (List ByteArray):=lim fun n=>icN_ n a0 a1

def iiG_(a0:Tt):Option Bool:=
 ag (iIV_ a0) fun v4=>
 bif v4 then
 ag (ic_ ([]) a0) fun v7=>
 some (decide ((v7.length:Int)=0))
 else
 some false

def inG_(a0:Tt):Option Bool:=
 ag (iiG_ a0) fun v4=>
 some (!v4)

def sEF_(a0:List Tt)(a1:List Tt)(a2:Tt→Tt→Option Bool):Option Bool:=
 bif decide ((a0.length:Int)=(a1.length:Int)) then
 thenL (ρ:=Bool) (σ:=Unit) (forN (fun (i4:Nat) (s4:Unit)=>
 ag (idx a0 (i4:Int)) fun v20=>
 ag (idx a1 (i4:Int)) fun v24=>
 ag (a2 v20 v24) fun v29=>
 bif v29 then
 some (.nx ())
 else
 some (.rt false)) a0.length 0 ()) fun s4=>
 some true
 else
 some false

def iET_:Nat→Tt→Tt→Option Bool
 | 0,_,_=>none
 | n+1,a0,a1=>
 bif decide (a0.Name=a1.Name) then
 ag (sEF_ a0.Args a1.Args (fun y0 y1=>iET_ n y0 y1)) fun v15=>
 some v15
 else
 some false
def iET_1(a0:Tt)(a1:Tt):Option Bool:=lim fun n=>iET_ n a0 a1

def ig1_(a0:Tt)(b0:Tt):Option Bool:=
 ag (iET_1 a0 b0) fun v6=>
 some (!v6)

mutual
def icT_:Nat→Tt→Option Tt
 | 0,_=>none
 | n+1,a0=>
 ag (icT_1 n a0.Args) fun v7=>
 some (Tt.mk a0.Name v7)
def icT_1:Nat→(List Tt)→Option (List Tt)
 | 0,_=>none
 | n+1,a0=>
 bif decide ((a0.length:Int)=0) then
 some ([])
 else
 ag (mkn (a0.length:Int)) fun n11=>
 thenL (ρ:=(List Tt)) (σ:=(List Tt)) (forN (fun (i5:Nat) (s5:(List Tt))=>
 ag (idx a0 (i5:Int)) fun v17=>
 ag (icT_ n v17) fun v22=>
 ag (idx s5 (i5:Int)) fun v23=>
 ag (idx s5 (i5:Int)) fun w3=>
 some (.nx (s5.set (i5:Int).toNat v22))) a0.length 0 (List.replicate n11 (Tt.mk ⟨#[]⟩ ([])))) fun s5=>
 some s5
end
def icT_5(a0:Tt):Option Tt:=lim fun n=>icT_ n a0
def icT_2(a0:List Tt):Option (List Tt):=lim fun n=>icT_1 n a0

def ig2_(a0:Tt)(b0:Tt):Option Bool:=
 bif decide (a0.Name=b0.Name) then
 some (!(decide ((a0.Args.length:Int)=(b0.Args.length:Int))))
 else
 some true

def igN_:Nat→(List Tt)→Option (Tt×(List Tt))
 | 0,_=>none
 | n+1,a0=>
 ag (idx a0 0) fun v15=>
 ag (sCF_ a0 (fun y0=>ig1_ y0 v15)) fun v19=>
 bif v19 then
 ag (sCF_ a0 (fun y0=>ig2_ y0 v15)) fun v26=>
 bif v26 then
 ag (icT_2 a0) fun v29=>
 bif v29.isEmpty then none else some ((Tt.mk (⟨#[65]⟩:ByteArray) ([])),v29)
 else
 thenL (ρ:=(Tt×(List Tt))) (σ:=(List Tt)×(List Tt)) (forN (fun (i10:Nat) (s10:(List Tt)×(List Tt))=>
 thenL (ρ:=(Flow (Tt×(List Tt)) ((List Tt)×(List Tt)))) (σ:=(List Tt)) (forN (fun (i14:Nat) (s14:(List Tt))=>
 ag (idx a0 (i14:Int)) fun v44=>
 ag (idx v44.Args (i10:Int)) fun v50=>
 ag (app s14 ([v50])) fun v53=>
 some (.nx v53)) a0.length 0 ([])) fun s14=>
 ag (igN_ n s14) fun v57=>
 ag (app s10.1 ([v57.1])) fun v64=>
 bif v57.2.isEmpty then
 some (.nx (v64,s10.2))
 else
 bif s10.2.isEmpty then
 some (.nx (v64,v57.2))
 else
 ag (sEF_ s10.2 v57.2 (fun y0 y1=>iET_1 y0 y1)) fun v73=>
 bif v73 then
 some (.nx (v64,v57.2))
 else
 ag (icT_2 a0) fun v78=>
 bif v78.isEmpty then none else some (.rt ((Tt.mk (⟨#[65]⟩:ByteArray) ([])),v78))) v15.Args.length 0 ([],[])) fun s10=>
 some ((Tt.mk v15.Name s10.1),s10.2)
 else
 ag (icT_5 v15) fun v22=>
 some (v22,[])
def ig_(a0:List Tt):Option (Tt×(List Tt)):=lim fun n=>igN_ n a0

def iGT_(a0:List Tt):Option (Tt×(List Tt)×Bool):=
 ag (iw_ (a0.length:Int) 1 6) fun v9=>
 bif v9 then
 ag (sCF_ a0 (fun y0=>inG_ y0)) fun v13=>
 bif v13 then
 some ((Tt.mk ⟨#[]⟩ ([])),[],false)
 else
 ag (ig_ a0) fun v18=>
 some (v18.1,v18.2,true)
 else
 some ((Tt.mk ⟨#[]⟩ ([])),[],false)

mutual
def eTN_:Nat→Tt→Tt→Option Bool
 | 0,_,_=>none
 | n+1,a0,a1=>
 bif decide (a0.Name=a1.Name) then
 ag (eTS_ n a0.Args a1.Args) fun v14=>
 bif v14 then
 some true
 else
 some false
 else
 some false
def eTS_:Nat→(List Tt)→(List Tt)→Option Bool
 | 0,_,_=>none
 | n+1,a0,a1=>
 bif decide ((a0.length:Int)=(a1.length:Int)) then
 thenL (ρ:=Bool) (σ:=Unit) (forN (fun (i4:Nat) (s4:Unit)=>
 ag (idx a0 (i4:Int)) fun v19=>
 ag (idx a1 (i4:Int)) fun v23=>
 ag (eTN_ n v19 v23) fun v25=>
 bif v25 then
 some (.nx ())
 else
 some (.rt false)) a0.length 0 ()) fun s4=>
 some true
 else
 some false
end
def eT_(a0:Tt)(a1:Tt):Option Bool:=lim fun n=>eTN_ n a0 a1
def eTS_2(a0:List Tt)(a1:List Tt):Option Bool:=lim fun n=>eTS_ n a0 a1

def mT_(a0:Int):Option ByteArray:=
 bif decide (a0≤0) then
 some (⟨#[109,48]⟩:ByteArray)
 else
 thenL (ρ:=ByteArray) (σ:=Int×ByteArray) (lim fun n4=>whileN (fun (s4:Int×ByteArray)=>
 bif decide (0<s4.1) then
 ag (rem s4.1 (10:Int)) fun v9=>
 ag (bstr ([IntKind.u8.wrap (IntKind.i64.wrap ((48:Int)+v9))])) fun v13=>
 ag (sapp v13 s4.2) fun v15=>
 ag (quo s4.1 (10:Int)) fun v17=>
 some (.nx (v17,v15))
 else
 some (.br s4)) n4 (a0,(⟨#[]⟩:ByteArray))) fun s4=>
 ag (sapp (⟨#[109]⟩:ByteArray) s4.2) fun v19=>
 some v19

def mTS_:Nat→(List Tt)→Int→Option (Int×(List Tt))
 | 0,_,_=>none
 | n+1,a0,a1=>
 thenL (ρ:=(Int×(List Tt))) (σ:=(List Tt)×Int×Int) (lim fun n2=>whileN (fun (s2:(List Tt)×Int×Int)=>
 bif decide (s2.2.2<(s2.1.length:Int)) then
 ag (mT_ s2.2.1) fun v15=>
 ag (idx s2.1 s2.2.2) fun v16=>
 ag (idx s2.1 s2.2.2) fun w2=>
 ag (idx (s2.1.set s2.2.2.toNat (Tt.mk v15 w2.Args)) s2.2.2) fun v22=>
 ag (idx (s2.1.set s2.2.2.toNat (Tt.mk v15 w2.Args)) s2.2.2) fun w3=>
 ag (mTS_ n w3.Args (IntKind.i64.wrap (s2.2.1+1))) fun v26=>
 some (.nx ((s2.1.set s2.2.2.toNat (Tt.mk v15 w2.Args)).set s2.2.2.toNat (Tt.mk w3.Name v26.2),v26.1,IntKind.i64.wrap (s2.2.2+1)))
 else
 some (.br s2)) n2 (a0,a1,(0:Int))) fun s2=>
 some (s2.2.1,s2.1)
def mTS_3(a0:List Tt)(a1:Int):Option (Int×(List Tt)):=lim fun n=>mTS_ n a0 a1

def mT_1(a0:Tt)(a1:Int):Option (Int×(List Tt)):=
 ag (mTS_3 a0.Args a1) fun v8=>
 some (v8.1,v8.2)

def hTS_:Nat→(List Tt)→Int→Option Int
 | 0,_,_=>none
 | n+1,a0,a1=>
 thenL (ρ:=Int) (σ:=Int) (forN (fun (i2:Nat) (s2:Int)=>
 ag (idx a0 (i2:Int)) fun v14=>
 ag (mT_ s2) fun v18=>
 bif decide (v14.Name=v18) then
 ag (idx a0 (i2:Int)) fun v24=>
 ag (hTS_ n v24.Args (IntKind.i64.wrap (s2+1))) fun v28=>
 bif decide (v28<0) then
 some (.rt (-1:Int))
 else
 some (.nx v28)
 else
 some (.rt (-1:Int))) a0.length 0 a1) fun s2=>
 some s2
def hTS_2(a0:List Tt)(a1:Int):Option Int:=lim fun n=>hTS_ n a0 a1

def hT_(a0:Tt)(a1:Int):Option Int:=
 ag (hTS_2 a0.Args a1) fun v8=>
 bif decide (v8<0) then
 some (-1:Int)
 else
 some v8

def FnExactGeneralizeTerms(a0:List Tt):Option Bool:=
 ag (sTS_2 a0 (1048576:Int)) fun v19=>
 bif decide (v19<0) then
 some true
 else
 ag (tTS_2 a0) fun v24=>
 ag (sGT_ v24) fun v25=>
 ag (tTS_2 a0) fun v30=>
 ag (iGT_ v30) fun v33=>
 ag (eT_ v33.1 v25.1) fun v39=>
 bif v39 then
 ag (eTS_2 v33.2.1 v25.2.1) fun v44=>
 bif v44 then
 bif v33.2.2==v25.2.2 then
 ag (tTS_2 a0) fun v54=>
 ag (eTS_2 v30 v54) fun v55=>
 bif v55 then
 ag (mTS_3 v30 (1:Int)) fun v59=>
 bif decide (v59.1<0) then
 some false
 else
 ag (eT_ v33.1 v25.1) fun v65=>
 bif v65 then
 ag (eTS_2 v33.2.1 v25.2.1) fun v71=>
 bif v71 then
 ag (mT_1 v33.1 (1:Int)) fun v81=>
 ag (mTS_3 v33.2.1 v81.1) fun v84=>
 ag (hT_ (Tt.mk v33.1.Name v81.2) (1:Int)) fun v87=>
 bif decide (v87<0) then
 some false
 else
 ag (hTS_2 v84.2 v87) fun v92=>
 bif decide (v92<0) then
 some false
 else
 bif decide (v92=v84.1) then
 ag (tTS_2 a0) fun v100=>
 ag (iGT_ v100) fun v101=>
 ag (eT_ v101.1 v25.1) fun v107=>
 bif v107 then
 ag (eTS_2 v101.2.1 v25.2.1) fun v112=>
 bif v112 then
 bif v101.2.2==v25.2.2 then
 ag (hT_ (Tt.mk v33.1.Name v81.2) (1:Int)) fun v122=>
 bif decide (v122<0) then
 some false
 else
 ag (hTS_2 v84.2 v122) fun v127=>
 bif decide (v127<0) then
 some false
 else
 bif decide (v127=v84.1) then
 some true
 else
 some false
 else
 some false
 else
 some false
 else
 some false
 else
 some false
 else
 some false
 else
 some false
 else
 some false
 else
 some false
 else
 some false
 else
 some false

end
end Go.Proofs.Ytpfobcjmfobiaaa
