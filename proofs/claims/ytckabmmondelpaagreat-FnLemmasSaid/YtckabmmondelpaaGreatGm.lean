/- Lemmas of the proof; each says what it shows. -/
import Derived.Test.YtckabmmondelpaaGreatGty
set_option linter.unusedSimpArgs false
set_option linter.unusedVariables false
set_option linter.defProp false
set_option maxRecDepth 4000
namespace Go.Proofs.YtckabmmondelpaaGreat
open Go.Av
open Option renaming bind→aa
noncomputable section
def vBig(a0:List Int):Option Bool:=
 some (decide (65536<(a0.length:Int)))

def slC_19(a0:la):Option (Int×la):=
 bif decide (a0.at_f<(a0.code.length:Int)) then
 aa (idx a0.code a0.at_f) fun v22=>
 bif decide ((IntKind.i64.wrap (a0.at_f+1))≤(a0.code.length:Int)) then
 some (IntKind.i64.wrap v22,(la.mk a0.code (IntKind.i64.wrap (a0.at_f+1)) (IntKind.u64.wrap ((IntKind.u64.wrap ((IntKind.u64.wrap (a0.seed*6364136223846793005))+(IntKind.u64.wrap (IntKind.i64.wrap v22))))+892892))))
 else
 aa (shr .u64 (IntKind.u64.wrap ((IntKind.u64.wrap ((IntKind.u64.wrap (a0.seed*6364136223846793005))+(IntKind.u64.wrap (IntKind.i64.wrap v22))))+892892)) (40:Int)) fun v59=>
 some (IntKind.i64.wrap (b_ .u64 v59 (255:Int)),(la.mk a0.code (IntKind.i64.wrap (a0.at_f+1)) (IntKind.u64.wrap ((IntKind.u64.wrap ((IntKind.u64.wrap (a0.seed*6364136223846793005))+(IntKind.u64.wrap (IntKind.i64.wrap v22))))+892892))))
 else
 bif decide ((IntKind.i64.wrap (a0.at_f+1))≤(a0.code.length:Int)) then
 some ((0:Int),(la.mk a0.code (IntKind.i64.wrap (a0.at_f+1)) (IntKind.u64.wrap ((IntKind.u64.wrap ((IntKind.u64.wrap (a0.seed*6364136223846793005))+(IntKind.u64.wrap (0:Int))))+892892))))
 else
 aa (shr .u64 (IntKind.u64.wrap ((IntKind.u64.wrap ((IntKind.u64.wrap (a0.seed*6364136223846793005))+(IntKind.u64.wrap (0:Int))))+892892)) (40:Int)) fun v59=>
 some (IntKind.i64.wrap (b_ .u64 v59 (255:Int)),(la.mk a0.code (IntKind.i64.wrap (a0.at_f+1)) (IntKind.u64.wrap ((IntKind.u64.wrap ((IntKind.u64.wrap (a0.seed*6364136223846793005))+(IntKind.u64.wrap (0:Int))))+892892))))

def slC_(a0:la)(a1:Int):Option (Int×la):=
 bif decide (a1≤1) then
 some ((0:Int),a0)
 else
 aa (slC_19 a0) fun v9=>
 bif decide (200<a1) then
 aa (slC_19 v9.2) fun v15=>
 aa (rem (IntKind.i64.wrap ((IntKind.i64.wrap (v9.1*256))+v15.1)) a1) fun v19=>
 some (v19,v15.2)
 else
 aa (rem v9.1 a1) fun v19=>
 some (v19,v9.2)

def slS_(a0:ByteArray)(a1:Int)(a2:ByteArray):Option Bool:=
 bif decide ((IntKind.i64.wrap (a1+(a2.size:Int)))≤(a0.size:Int)) then
 aa (sslc a0 a1 (IntKind.i64.wrap (a1+(a2.size:Int)))) fun v21=>
 some (decide (v21=a2))
 else
 some false

def slS_3(a0:Int):Option Bool:=
 bif decide (97≤a0) then
 bif decide (a0≤122) then
 some true
 else
 bif decide (48≤a0) then
 some (decide (a0≤57))
 else
 some false
 else
 bif decide (48≤a0) then
 some (decide (a0≤57))
 else
 some false

def slW_(a0:Int):Option Bool:=
 aa (slS_3 a0) fun v4=>
 bif v4 then
 some true
 else
 bif decide (65≤a0) then
 bif decide (a0≤90) then
 some true
 else
 some (decide (a0=95))
 else
 some (decide (a0=95))

def slR_1:Nat→ByteArray→Int→Option (Tt×Int)
 | 0,_,_=>none
 | n+1,a0,a1=>
 thenL (ρ:=(Tt×Int)) (σ:=Int) (lim fun n2=>whileN (fun (s2:Int)=>
 bif decide (s2<(a0.size:Int)) then
 aa (sidx a0 s2) fun v18=>
 aa (slW_ v18) fun v19=>
 bif v19 then
 some (.nx (IntKind.i64.wrap (s2+1)))
 else
 some (.br s2)
 else
 some (.br s2)) n2 a1) fun s2=>
 aa (sslc a0 a1 s2) fun v26=>
 bif decide (s2=a1) then
 some ((Tt.mk v26 ([])),(-1:Int))
 else
 bif decide (s2=(a0.size:Int)) then
 some ((Tt.mk v26 ([])),s2)
 else
 aa (sidx a0 s2) fun v39=>
 bif decide (v39=40) then
 thenL (ρ:=(Tt×Int)) (σ:=Int×(List Tt)) (lim fun n9=>whileN (fun (s9:Int×(List Tt))=>
 aa (slR_1 n a0 (IntKind.i64.wrap (s9.1+1))) fun v48=>
 bif decide (v48.2<0) then
 some (.rt ((Tt.mk v26 s9.2),(-1:Int)))
 else
 bif decide (v48.2=(a0.size:Int)) then
 some (.rt ((Tt.mk v26 s9.2),(-1:Int)))
 else
 aa (sidx a0 v48.2) fun v62=>
 bif decide (v62=44) then
 aa (app s9.2 ([v48.1])) fun v76=>
 aa (sidx a0 v48.2) fun v81=>
 bif decide (v81=41) then
 some (.rt ((Tt.mk v26 v76),IntKind.i64.wrap (v48.2+1)))
 else
 some (.nx (v48.2,v76))
 else
 aa (sidx a0 v48.2) fun v67=>
 bif decide (v67=41) then
 aa (app s9.2 ([v48.1])) fun v76=>
 aa (sidx a0 v48.2) fun v81=>
 bif decide (v81=41) then
 some (.rt ((Tt.mk v26 v76),IntKind.i64.wrap (v48.2+1)))
 else
 some (.nx (v48.2,v76))
 else
 some (.rt ((Tt.mk v26 s9.2),(-1:Int)))) n9 (s2,[])) fun s9=>
 none
 else
 some ((Tt.mk v26 ([])),s2)
def slR_3(a0:ByteArray)(a1:Int):Option (Tt×Int):=lim fun n=>slR_1 n a0 a1

def slS_5(a0:ByteArray)(a1:Int):Option (Ft×Int):=
 aa (slR_3 a0 a1) fun v13=>
 bif decide (v13.2<0) then
 some ((Ft.mk 0 (Tt.mk ⟨#[]⟩ ([])) (⟨#[]⟩:ByteArray) ([])),(-1:Int))
 else
 aa (slS_ a0 v13.2 (⟨#[32,61,32]⟩:ByteArray)) fun v21=>
 bif v21 then
 aa (slR_3 a0 (IntKind.i64.wrap (v13.2+3))) fun v26=>
 some ((Ft.mk 3 (Tt.mk (⟨#[61]⟩:ByteArray) ([v13.1,v26.1])) (⟨#[]⟩:ByteArray) ([])),v26.2)
 else
 bif decide ((v13.1.Args.length:Int)=0) then
 bif decide (v13.1.Name=(⟨#[116,114,117,101]⟩:ByteArray)) then
 some ((Ft.mk 1 (Tt.mk ⟨#[]⟩ ([])) (⟨#[]⟩:ByteArray) ([])),v13.2)
 else
 bif decide (v13.1.Name=(⟨#[102,97,108,115,101]⟩:ByteArray)) then
 some ((Ft.mk 2 (Tt.mk ⟨#[]⟩ ([])) (⟨#[]⟩:ByteArray) ([])),v13.2)
 else
 some ((Ft.mk 3 v13.1 ⟨#[]⟩ ([])),v13.2)
 else
 some ((Ft.mk 3 v13.1 ⟨#[]⟩ ([])),v13.2)

mutual
def slR_:Nat→ByteArray→Int→Option (Ft×Int)
 | 0,_,_=>none
 | n+1,a0,a1=>
 aa (slS_ a0 a1 (⟨#[97,108,108,32]⟩:ByteArray)) fun v15=>
 bif v15 then
 aa (slQ_ n a0 (IntKind.i64.wrap (a1+4)) (8:Int)) fun v19=>
 some (v19.1,v19.2)
 else
 aa (slS_ a0 a1 (⟨#[115,111,109,101,32]⟩:ByteArray)) fun v25=>
 bif v25 then
 aa (slQ_ n a0 (IntKind.i64.wrap (a1+5)) (9:Int)) fun v29=>
 some (v29.1,v29.2)
 else
 aa (slS_ a0 a1 (⟨#[126,40]⟩:ByteArray)) fun v35=>
 bif v35 then
 aa (slS_5 a0 (IntKind.i64.wrap (a1+2))) fun v40=>
 bif decide (0≤v40.2) then
 bif decide (v40.1.Op=3) then
 bif decide (v40.1.Atom.Name=(⟨#[61]⟩:ByteArray)) then
 aa (slS_ a0 v40.2 (⟨#[41]⟩:ByteArray)) fun v59=>
 bif v59 then
 some ((Ft.mk 4 (Tt.mk ⟨#[]⟩ ([])) (⟨#[]⟩:ByteArray) ([v40.1])),IntKind.i64.wrap (v40.2+1))
 else
 aa (slP_1 n a0 (IntKind.i64.wrap (a1+1))) fun v70=>
 some ((Ft.mk 4 (Tt.mk ⟨#[]⟩ ([])) (⟨#[]⟩:ByteArray) ([v70.1])),v70.2)
 else
 aa (slP_1 n a0 (IntKind.i64.wrap (a1+1))) fun v70=>
 some ((Ft.mk 4 (Tt.mk ⟨#[]⟩ ([])) (⟨#[]⟩:ByteArray) ([v70.1])),v70.2)
 else
 aa (slP_1 n a0 (IntKind.i64.wrap (a1+1))) fun v70=>
 some ((Ft.mk 4 (Tt.mk ⟨#[]⟩ ([])) (⟨#[]⟩:ByteArray) ([v70.1])),v70.2)
 else
 aa (slP_1 n a0 (IntKind.i64.wrap (a1+1))) fun v70=>
 some ((Ft.mk 4 (Tt.mk ⟨#[]⟩ ([])) (⟨#[]⟩:ByteArray) ([v70.1])),v70.2)
 else
 aa (slS_ a0 a1 (⟨#[126]⟩:ByteArray)) fun v80=>
 bif v80 then
 aa (slR_ n a0 (IntKind.i64.wrap (a1+1))) fun v85=>
 some ((Ft.mk 4 (Tt.mk ⟨#[]⟩ ([])) (⟨#[]⟩:ByteArray) ([v85.1])),v85.2)
 else
 aa (slS_ a0 a1 (⟨#[40]⟩:ByteArray)) fun v95=>
 bif v95 then
 aa (slP_1 n a0 a1) fun v98=>
 some (v98.1,v98.2)
 else
 aa (slS_5 a0 a1) fun v103=>
 some (v103.1,v103.2)
def slQ_:Nat→ByteArray→Int→Int→Option (Ft×Int)
 | 0,_,_,_=>none
 | n+1,a0,a1,a2=>
 thenL (ρ:=(Ft×Int)) (σ:=Int) (lim fun n2=>whileN (fun (s2:Int)=>
 bif decide (s2<(a0.size:Int)) then
 aa (sidx a0 s2) fun v19=>
 aa (slW_ v19) fun v20=>
 bif v20 then
 some (.nx (IntKind.i64.wrap (s2+1)))
 else
 some (.br s2)
 else
 some (.br s2)) n2 a1) fun s2=>
 bif decide (s2=(a0.size:Int)) then
 some ((Ft.mk 0 (Tt.mk ⟨#[]⟩ ([])) (⟨#[]⟩:ByteArray) ([])),(-1:Int))
 else
 aa (sidx a0 s2) fun v31=>
 bif decide (v31=46) then
 aa (slR_ n a0 (IntKind.i64.wrap (s2+1))) fun v39=>
 aa (sslc a0 a1 s2) fun v46=>
 some ((Ft.mk a2 (Tt.mk ⟨#[]⟩ ([])) v46 ([v39.1])),v39.2)
 else
 some ((Ft.mk 0 (Tt.mk ⟨#[]⟩ ([])) (⟨#[]⟩:ByteArray) ([])),(-1:Int))
def slP_1:Nat→ByteArray→Int→Option (Ft×Int)
 | 0,_,_=>none
 | n+1,a0,a1=>
 aa (slR_ n a0 (IntKind.i64.wrap (a1+1))) fun v16=>
 bif decide (v16.2<0) then
 some ((Ft.mk 0 (Tt.mk ⟨#[]⟩ ([])) (⟨#[]⟩:ByteArray) ([])),(-1:Int))
 else
 aa (slS_ a0 v16.2 (⟨#[32,38,32]⟩:ByteArray)) fun v26=>
 bif v26 then
 aa (slR_ n a0 (IntKind.i64.wrap (v16.2+3))) fun v40=>
 bif decide (v40.2<0) then
 some ((Ft.mk 0 (Tt.mk ⟨#[]⟩ ([])) (⟨#[]⟩:ByteArray) ([])),(-1:Int))
 else
 bif decide (v40.2=(a0.size:Int)) then
 some ((Ft.mk 0 (Tt.mk ⟨#[]⟩ ([])) (⟨#[]⟩:ByteArray) ([])),(-1:Int))
 else
 aa (sidx a0 v40.2) fun v54=>
 bif decide (v54=41) then
 some ((Ft.mk 5 (Tt.mk ⟨#[]⟩ ([])) (⟨#[]⟩:ByteArray) ([v16.1,v40.1])),IntKind.i64.wrap (v40.2+1))
 else
 some ((Ft.mk 0 (Tt.mk ⟨#[]⟩ ([])) (⟨#[]⟩:ByteArray) ([])),(-1:Int))
 else
 aa (slS_ a0 v16.2 (⟨#[32,124,32]⟩:ByteArray)) fun v30=>
 bif v30 then
 aa (slR_ n a0 (IntKind.i64.wrap (v16.2+3))) fun v40=>
 bif decide (v40.2<0) then
 some ((Ft.mk 0 (Tt.mk ⟨#[]⟩ ([])) (⟨#[]⟩:ByteArray) ([])),(-1:Int))
 else
 bif decide (v40.2=(a0.size:Int)) then
 some ((Ft.mk 0 (Tt.mk ⟨#[]⟩ ([])) (⟨#[]⟩:ByteArray) ([])),(-1:Int))
 else
 aa (sidx a0 v40.2) fun v54=>
 bif decide (v54=41) then
 some ((Ft.mk 6 (Tt.mk ⟨#[]⟩ ([])) (⟨#[]⟩:ByteArray) ([v16.1,v40.1])),IntKind.i64.wrap (v40.2+1))
 else
 some ((Ft.mk 0 (Tt.mk ⟨#[]⟩ ([])) (⟨#[]⟩:ByteArray) ([])),(-1:Int))
 else
 aa (slS_ a0 v16.2 (⟨#[32,61,62,32]⟩:ByteArray)) fun v34=>
 bif v34 then
 aa (slR_ n a0 (IntKind.i64.wrap (v16.2+4))) fun v40=>
 bif decide (v40.2<0) then
 some ((Ft.mk 0 (Tt.mk ⟨#[]⟩ ([])) (⟨#[]⟩:ByteArray) ([])),(-1:Int))
 else
 bif decide (v40.2=(a0.size:Int)) then
 some ((Ft.mk 0 (Tt.mk ⟨#[]⟩ ([])) (⟨#[]⟩:ByteArray) ([])),(-1:Int))
 else
 aa (sidx a0 v40.2) fun v54=>
 bif decide (v54=41) then
 some ((Ft.mk 7 (Tt.mk ⟨#[]⟩ ([])) (⟨#[]⟩:ByteArray) ([v16.1,v40.1])),IntKind.i64.wrap (v40.2+1))
 else
 some ((Ft.mk 0 (Tt.mk ⟨#[]⟩ ([])) (⟨#[]⟩:ByteArray) ([])),(-1:Int))
 else
 some ((Ft.mk 0 (Tt.mk ⟨#[]⟩ ([])) (⟨#[]⟩:ByteArray) ([])),(-1:Int))
end
def slR_7(a0:ByteArray)(a1:Int):Option (Ft×Int):=lim fun n=>slR_ n a0 a1
def slQ_1(a0:ByteArray)(a1:Int)(a2:Int):Option (Ft×Int):=lim fun n=>slQ_ n a0 a1 a2
def slP_15(a0:ByteArray)(a1:Int):Option (Ft×Int):=lim fun n=>slP_1 n a0 a1

def slM_:Nat→Ft→Int→Option Int
 | 0,_,_=>none
 | n+1,a0,a1=>
 thenL (ρ:=Int) (σ:=Int) (forN (fun (i3:Nat) (s3:Int)=>
 bif decide (s3≤a1) then
 aa (idx a0.Parts (i3:Int)) fun v23=>
 aa (slM_ n v23 (IntKind.i64.wrap (a1-s3))) fun v28=>
 some (.nx (IntKind.i64.wrap (s3+v28)))
 else
 some (.rt s3)) a0.Parts.length 0 (1:Int)) fun s3=>
 some s3
def slM_3(a0:Ft)(a1:Int):Option Int:=lim fun n=>slM_ n a0 a1

def slN_1(a0:Tt):Option Bool:=
 bif decide (a0.Name=(⟨#[]⟩:ByteArray)) then
 some (decide ((a0.Args.length:Int)=0))
 else
 some false

def slM_1:Nat→Tt→Int→Option Int
 | 0,_,_=>none
 | n+1,a0,a1=>
 thenL (ρ:=Int) (σ:=Int) (forN (fun (i3:Nat) (s3:Int)=>
 bif decide (s3≤a1) then
 aa (idx a0.Args (i3:Int)) fun v23=>
 aa (slM_1 n v23 (IntKind.i64.wrap (a1-s3))) fun v28=>
 some (.nx (IntKind.i64.wrap (s3+v28)))
 else
 some (.rt s3)) a0.Args.length 0 (1:Int)) fun s3=>
 some s3
def slM_4(a0:Tt)(a1:Int):Option Int:=lim fun n=>slM_1 n a0 a1

def slM_2(a0:Int)(a1:Int):Option Int:=
 bif decide (a1<a0) then
 some a0
 else
 some a1

def slD_:Nat→Tt→Option Int
 | 0,_=>none
 | n+1,a0=>
 thenL (ρ:=Int) (σ:=Int) (forN (fun (i3:Nat) (s3:Int)=>
 aa (idx a0.Args (i3:Int)) fun v16=>
 aa (slD_ n v16) fun v18=>
 aa (slM_2 s3 v18) fun v19=>
 some (.nx v19)) a0.Args.length 0 (0:Int)) fun s3=>
 some (IntKind.i64.wrap (s3+1))
def slD_1(a0:Tt):Option Int:=lim fun n=>slD_ n a0

def slF_2(a0:Tt):Option Bool:=
 aa (slM_4 a0 30) fun v4=>
 bif decide (v4≤30) then
 aa (slD_1 a0) fun v8=>
 some (decide (v8≤8))
 else
 some false

def slI_5(a0:Int)(a1:Int)(a2:Int):Option Bool:=
 bif decide (a1≤a0) then
 some (decide (a0≤a2))
 else
 some false

def slV_2(a0:ByteArray):Option Bool:=
 aa (slI_5 (a0.size:Int) 1 4) fun v6=>
 bif v6 then
 aa (sidx a0 (0:Int)) fun v10=>
 bif decide (v10<65) then
 some false
 else
 aa (sidx a0 (0:Int)) fun v15=>
 bif decide (90<v15) then
 some false
 else
 aa (bnd (a0.size:Int)) fun N4=>
 thenL (ρ:=Bool) (σ:=Unit) (forN (fun (i4:Nat) (s4:Unit)=>
 aa (sidx a0 (i4:Int)) fun v26=>
 aa (slS_3 v26) fun v27=>
 bif v27 then
 some (.nx ())
 else
 some (.rt false)) (N4-1) 1 ()) fun s4=>
 some true
 else
 some false

def slS_6(a0:ByteArray):Option Bool:=
 aa (slI_5 (a0.size:Int) 1 6) fun v6=>
 bif v6 then
 aa (sidx a0 (0:Int)) fun v10=>
 bif decide (v10<97) then
 some false
 else
 aa (sidx a0 (0:Int)) fun v15=>
 bif decide (122<v15) then
 some false
 else
 bif decide (a0=(⟨#[116,114,117,101]⟩:ByteArray)) then
 some false
 else
 bif decide (a0=(⟨#[102,97,108,115,101]⟩:ByteArray)) then
 some false
 else
 bif decide (a0=(⟨#[116,114,117,116,104]⟩:ByteArray)) then
 some false
 else
 bif decide (a0=(⟨#[98,111,116,104]⟩:ByteArray)) then
 some false
 else
 bif decide (a0=(⟨#[101,105,116,104,101,114]⟩:ByteArray)) then
 some false
 else
 bif decide (a0=(⟨#[105,102]⟩:ByteArray)) then
 some false
 else
 bif decide (a0=(⟨#[97,108,108]⟩:ByteArray)) then
 some false
 else
 bif decide (a0=(⟨#[115,111,109,101]⟩:ByteArray)) then
 some false
 else
 aa (bnd (a0.size:Int)) fun N14=>
 thenL (ρ:=Bool) (σ:=Unit) (forN (fun (i14:Nat) (s14:Unit)=>
 aa (sidx a0 (i14:Int)) fun v36=>
 aa (slS_3 v36) fun v37=>
 bif v37 then
 some (.nx ())
 else
 aa (sidx a0 (i14:Int)) fun v42=>
 bif decide (v42=95) then
 some (.nx ())
 else
 some (.rt false)) (N14-1) 1 ()) fun s14=>
 some true
 else
 some false

def slN_2:Nat→Tt→Option Bool
 | 0,_=>none
 | n+1,a0=>
 aa (slV_2 a0.Name) fun v6=>
 bif v6 then
 some (decide ((a0.Args.length:Int)=0))
 else
 aa (slS_6 a0.Name) fun v13=>
 bif v13 then
 bif decide (4<(a0.Args.length:Int)) then
 some false
 else
 thenL (ρ:=Bool) (σ:=Unit) (forN (fun (i6:Nat) (s6:Unit)=>
 aa (idx a0.Args (i6:Int)) fun v31=>
 aa (slN_2 n v31) fun v33=>
 bif v33 then
 some (.nx ())
 else
 some (.rt false)) a0.Args.length 0 ()) fun s6=>
 some true
 else
 some false
def slN_3(a0:Tt):Option Bool:=lim fun n=>slN_2 n a0

def slG_1(a0:Tt):Option Bool:=
 aa (slF_2 a0) fun v4=>
 bif v4 then
 aa (slN_3 a0) fun v7=>
 some v7
 else
 some false

def slA_1(a0:Tt):Option Bool:=
 bif decide (a0.Name=(⟨#[61]⟩:ByteArray)) then
 bif decide ((a0.Args.length:Int)=2) then
 aa (slF_2 a0) fun v12=>
 bif v12 then
 aa (idx a0.Args 0) fun v17=>
 aa (slN_3 v17) fun v19=>
 bif v19 then
 aa (idx a0.Args 1) fun v24=>
 aa (slN_3 v24) fun v26=>
 some v26
 else
 some false
 else
 some false
 else
 some false
 else
 aa (slS_6 a0.Name) fun v30=>
 bif v30 then
 aa (slG_1 a0) fun v33=>
 some v33
 else
 some false

def slF_3(a0:Ft):Option Bool:=
 bif decide (a0.Op=1) then
 bif decide ((a0.Parts.length:Int)=0) then
 aa (slN_1 a0.Atom) fun v17=>
 bif v17 then
 some (decide (a0.Var=(⟨#[]⟩:ByteArray)))
 else
 some false
 else
 some false
 else
 bif decide (a0.Op=2) then
 bif decide ((a0.Parts.length:Int)=0) then
 aa (slN_1 a0.Atom) fun v17=>
 bif v17 then
 some (decide (a0.Var=(⟨#[]⟩:ByteArray)))
 else
 some false
 else
 some false
 else
 bif decide (a0.Op=3) then
 bif decide ((a0.Parts.length:Int)=0) then
 aa (slA_1 a0.Atom) fun v31=>
 bif v31 then
 some (decide (a0.Var=(⟨#[]⟩:ByteArray)))
 else
 some false
 else
 some false
 else
 bif decide (a0.Op=4) then
 bif decide ((a0.Parts.length:Int)=1) then
 aa (slN_1 a0.Atom) fun v45=>
 bif v45 then
 some (decide (a0.Var=(⟨#[]⟩:ByteArray)))
 else
 some false
 else
 some false
 else
 bif decide (a0.Op=5) then
 bif decide ((a0.Parts.length:Int)=2) then
 aa (slN_1 a0.Atom) fun v61=>
 bif v61 then
 some (decide (a0.Var=(⟨#[]⟩:ByteArray)))
 else
 some false
 else
 some false
 else
 bif decide (a0.Op=6) then
 bif decide ((a0.Parts.length:Int)=2) then
 aa (slN_1 a0.Atom) fun v61=>
 bif v61 then
 some (decide (a0.Var=(⟨#[]⟩:ByteArray)))
 else
 some false
 else
 some false
 else
 bif decide (a0.Op=7) then
 bif decide ((a0.Parts.length:Int)=2) then
 aa (slN_1 a0.Atom) fun v61=>
 bif v61 then
 some (decide (a0.Var=(⟨#[]⟩:ByteArray)))
 else
 some false
 else
 some false
 else
 bif decide (a0.Op=8) then
 bif decide ((a0.Parts.length:Int)=1) then
 aa (slN_1 a0.Atom) fun v76=>
 bif v76 then
 aa (slV_2 a0.Var) fun v81=>
 some v81
 else
 some false
 else
 some false
 else
 bif decide (a0.Op=9) then
 bif decide ((a0.Parts.length:Int)=1) then
 aa (slN_1 a0.Atom) fun v76=>
 bif v76 then
 aa (slV_2 a0.Var) fun v81=>
 some v81
 else
 some false
 else
 some false
 else
 some false

def slF_:Nat→Ft→Option Bool
 | 0,_=>none
 | n+1,a0=>
 aa (slF_3 a0) fun v5=>
 bif v5 then
 thenL (ρ:=Bool) (σ:=Unit) (forN (fun (i4:Nat) (s4:Unit)=>
 aa (idx a0.Parts (i4:Int)) fun v17=>
 aa (slF_ n v17) fun v19=>
 bif v19 then
 some (.nx ())
 else
 some (.rt false)) a0.Parts.length 0 ()) fun s4=>
 some true
 else
 some false
def slF_5(a0:Ft):Option Bool:=lim fun n=>slF_ n a0

def slG_(a0:Ft):Option Bool:=
 aa (slM_3 a0 40) fun v4=>
 bif decide (v4≤40) then
 aa (slF_5 a0) fun v8=>
 some v8
 else
 some false

def slT_1:Nat→Tt→Option ByteArray
 | 0,_=>none
 | n+1,a0=>
 bif decide (a0.Name=(⟨#[61]⟩:ByteArray)) then
 aa (idx a0.Args 0) fun v10=>
 aa (slT_1 n v10) fun v12=>
 aa (sapp v12 (⟨#[32,61,32]⟩:ByteArray)) fun v13=>
 aa (idx a0.Args 1) fun v16=>
 aa (slT_1 n v16) fun v18=>
 aa (sapp v13 v18) fun v19=>
 some v19
 else
 thenL (ρ:=ByteArray) (σ:=ByteArray) (forN (fun (i5:Nat) (s5:ByteArray)=>
 bif decide ((i5:Int)=0) then
 aa (sapp s5 (⟨#[40]⟩:ByteArray)) fun v32=>
 aa (idx a0.Args (i5:Int)) fun v39=>
 aa (slT_1 n v39) fun v41=>
 aa (sapp v32 v41) fun v42=>
 some (.nx v42)
 else
 aa (sapp s5 (⟨#[44]⟩:ByteArray)) fun v34=>
 aa (idx a0.Args (i5:Int)) fun v39=>
 aa (slT_1 n v39) fun v41=>
 aa (sapp v34 v41) fun v42=>
 some (.nx v42)) a0.Args.length 0 a0.Name) fun s5=>
 bif decide (0<(a0.Args.length:Int)) then
 aa (sapp s5 (⟨#[41]⟩:ByteArray)) fun v48=>
 some v48
 else
 some s5
def slT_8(a0:Tt):Option ByteArray:=lim fun n=>slT_1 n a0

def slT_:Nat→Ft→Option ByteArray
 | 0,_=>none
 | n+1,a0=>
 bif decide (a0.Op=1) then
 some (⟨#[116,114,117,101]⟩:ByteArray)
 else
 bif decide (a0.Op=2) then
 some (⟨#[102,97,108,115,101]⟩:ByteArray)
 else
 bif decide (a0.Op=3) then
 aa (slT_8 a0.Atom) fun v14=>
 some v14
 else
 bif decide (a0.Op=4) then
 aa (idx a0.Parts 0) fun v19=>
 bif decide (v19.Op=3) then
 aa (idx a0.Parts 0) fun v26=>
 bif decide (v26.Atom.Name=(⟨#[61]⟩:ByteArray)) then
 aa (idx a0.Parts 0) fun v34=>
 aa (slT_ n v34) fun v36=>
 aa (sapp (⟨#[126,40]⟩:ByteArray) v36) fun v37=>
 aa (sapp v37 (⟨#[41]⟩:ByteArray)) fun v38=>
 some v38
 else
 aa (idx a0.Parts 0) fun v41=>
 aa (slT_ n v41) fun v43=>
 aa (sapp (⟨#[126]⟩:ByteArray) v43) fun v44=>
 some v44
 else
 aa (idx a0.Parts 0) fun v41=>
 aa (slT_ n v41) fun v43=>
 aa (sapp (⟨#[126]⟩:ByteArray) v43) fun v44=>
 some v44
 else
 bif decide (a0.Op=8) then
 aa (sapp (⟨#[97,108,108,32]⟩:ByteArray) a0.Var) fun v49=>
 aa (sapp v49 (⟨#[46]⟩:ByteArray)) fun v50=>
 aa (idx a0.Parts 0) fun v53=>
 aa (slT_ n v53) fun v55=>
 aa (sapp v50 v55) fun v56=>
 some v56
 else
 bif decide (a0.Op=9) then
 aa (sapp (⟨#[115,111,109,101,32]⟩:ByteArray) a0.Var) fun v61=>
 aa (sapp v61 (⟨#[46]⟩:ByteArray)) fun v62=>
 aa (idx a0.Parts 0) fun v65=>
 aa (slT_ n v65) fun v67=>
 aa (sapp v62 v67) fun v68=>
 some v68
 else
 bif decide (a0.Op=6) then
 bif decide (a0.Op=7) then
 aa (idx a0.Parts 0) fun v77=>
 aa (slT_ n v77) fun v79=>
 aa (sapp (⟨#[40]⟩:ByteArray) v79) fun v80=>
 aa (sapp v80 (⟨#[32,61,62,32]⟩:ByteArray)) fun v82=>
 aa (idx a0.Parts 1) fun v85=>
 aa (slT_ n v85) fun v87=>
 aa (sapp v82 v87) fun v88=>
 aa (sapp v88 (⟨#[41]⟩:ByteArray)) fun v89=>
 some v89
 else
 aa (idx a0.Parts 0) fun v77=>
 aa (slT_ n v77) fun v79=>
 aa (sapp (⟨#[40]⟩:ByteArray) v79) fun v80=>
 aa (sapp v80 (⟨#[32,124,32]⟩:ByteArray)) fun v82=>
 aa (idx a0.Parts 1) fun v85=>
 aa (slT_ n v85) fun v87=>
 aa (sapp v82 v87) fun v88=>
 aa (sapp v88 (⟨#[41]⟩:ByteArray)) fun v89=>
 some v89
 else
 bif decide (a0.Op=7) then
 aa (idx a0.Parts 0) fun v77=>
 aa (slT_ n v77) fun v79=>
 aa (sapp (⟨#[40]⟩:ByteArray) v79) fun v80=>
 aa (sapp v80 (⟨#[32,61,62,32]⟩:ByteArray)) fun v82=>
 aa (idx a0.Parts 1) fun v85=>
 aa (slT_ n v85) fun v87=>
 aa (sapp v82 v87) fun v88=>
 aa (sapp v88 (⟨#[41]⟩:ByteArray)) fun v89=>
 some v89
 else
 aa (idx a0.Parts 0) fun v77=>
 aa (slT_ n v77) fun v79=>
 aa (sapp (⟨#[40]⟩:ByteArray) v79) fun v80=>
 aa (sapp v80 (⟨#[32,38,32]⟩:ByteArray)) fun v82=>
 aa (idx a0.Parts 1) fun v85=>
 aa (slT_ n v85) fun v87=>
 aa (sapp v82 v87) fun v88=>
 aa (sapp v88 (⟨#[41]⟩:ByteArray)) fun v89=>
 some v89
def slT_5(a0:Ft):Option ByteArray:=lim fun n=>slT_ n a0

def sPF_(a0:ByteArray):Option (Ft×Bool):=
 bif decide (4000<(a0.size:Int)) then
 some ((Ft.mk 0 (Tt.mk ⟨#[]⟩ ([])) (⟨#[]⟩:ByteArray) ([])),false)
 else
 aa (slR_7 a0 0) fun v12=>
 bif decide (v12.2=(a0.size:Int)) then
 aa (slG_ v12.1) fun v21=>
 bif v21 then
 aa (slT_5 v12.1) fun v26=>
 bif decide (v26=a0) then
 some (v12.1,true)
 else
 some ((Ft.mk 0 (Tt.mk ⟨#[]⟩ ([])) (⟨#[]⟩:ByteArray) ([])),false)
 else
 some ((Ft.mk 0 (Tt.mk ⟨#[]⟩ ([])) (⟨#[]⟩:ByteArray) ([])),false)
 else
 some ((Ft.mk 0 (Tt.mk ⟨#[]⟩ ([])) (⟨#[]⟩:ByteArray) ([])),false)

def slC_6(a0:la)(a1:Int):Option (Bool×la):=
 aa (slC_ a0 a1) fun v7=>
 some (decide (v7.1=0),v7.2)

def slC_7(a0:la)(a1:List ByteArray):Option (ByteArray×la):=
 aa (slC_ a0 (a1.length:Int)) fun v9=>
 aa (idx a1 v9.1) fun v10=>
 some (v10,v9.2)

def slC_3:Nat→la→Int→Option (Tt×la)
 | 0,_,_=>none
 | n+1,a0,a1=>
 bif decide (a1≤1) then
 aa (slC_7 a0 ([(⟨#[88]⟩:ByteArray),(⟨#[89]⟩:ByteArray),(⟨#[90]⟩:ByteArray),(⟨#[97]⟩:ByteArray),(⟨#[98]⟩:ByteArray),(⟨#[88]⟩:ByteArray),(⟨#[97]⟩:ByteArray)])) fun v13=>
 some ((Tt.mk v13.1 ([])),v13.2)
 else
 aa (slC_6 a0 3) fun v9=>
 bif v9.1 then
 aa (slC_7 v9.2 ([(⟨#[88]⟩:ByteArray),(⟨#[89]⟩:ByteArray),(⟨#[90]⟩:ByteArray),(⟨#[97]⟩:ByteArray),(⟨#[98]⟩:ByteArray),(⟨#[88]⟩:ByteArray),(⟨#[97]⟩:ByteArray)])) fun v13=>
 some ((Tt.mk v13.1 ([])),v13.2)
 else
 aa (slC_6 v9.2 2) fun v16=>
 bif v16.1 then
 aa (slC_3 n v16.2 (IntKind.i64.wrap (a1-1))) fun v20=>
 some ((Tt.mk (⟨#[102]⟩:ByteArray) ([v20.1])),v20.2)
 else
 aa (slC_3 n v16.2 (IntKind.i64.wrap (a1-1))) fun v26=>
 aa (slC_3 n v26.2 (IntKind.i64.wrap (a1-1))) fun v30=>
 some ((Tt.mk (⟨#[103]⟩:ByteArray) ([v26.1,v30.1])),v30.2)
def slC_14(a0:la)(a1:Int):Option (Tt×la):=lim fun n=>slC_3 n a0 a1

def slC_8(a0:la):Option (Tt×la):=
 aa (slC_ a0 3) fun v5=>
 aa (slC_14 v5.2 (IntKind.i64.wrap ((1:Int)+v5.1))) fun v7=>
 some (v7.1,v7.2)

def slC_16(a0:la):Option (Tt×la):=
 aa (slC_ a0 8) fun v4=>
 bif decide (v4.1=0) then
 aa (slC_8 v4.2) fun v9=>
 aa (slC_8 v9.2) fun v11=>
 some ((Tt.mk (⟨#[61]⟩:ByteArray) ([v9.1,v11.1])),v11.2)
 else
 bif decide (v4.1=1) then
 aa (slC_8 v4.2) fun v9=>
 aa (slC_8 v9.2) fun v11=>
 some ((Tt.mk (⟨#[61]⟩:ByteArray) ([v9.1,v11.1])),v11.2)
 else
 bif decide (v4.1=2) then
 some ((Tt.mk (⟨#[114]⟩:ByteArray) ([])),v4.2)
 else
 bif decide (v4.1=3) then
 aa (slC_14 v4.2 2) fun v21=>
 aa (slC_14 v21.2 2) fun v23=>
 some ((Tt.mk (⟨#[113]⟩:ByteArray) ([v21.1,v23.1])),v23.2)
 else
 bif decide (v4.1=4) then
 aa (slC_14 v4.2 2) fun v21=>
 aa (slC_14 v21.2 2) fun v23=>
 some ((Tt.mk (⟨#[113]⟩:ByteArray) ([v21.1,v23.1])),v23.2)
 else
 aa (slC_14 v4.2 2) fun v27=>
 some ((Tt.mk (⟨#[112]⟩:ByteArray) ([v27.1])),v27.2)

def slC_21(a0:la)(a1:List Int):Option (Int×la):=
 aa (slC_ a0 (a1.length:Int)) fun v9=>
 aa (idx a1 v9.1) fun v10=>
 some (v10,v9.2)

def slC_2:Nat→la→Int→Option (Ft×la)
 | 0,_,_=>none
 | n+1,a0,a1=>
 bif decide (a1≤1) then
 aa (slC_6 a0 16) fun v13=>
 bif v13.1 then
 aa (slC_ v13.2 2) fun v15=>
 some ((Ft.mk (IntKind.i64.wrap ((1:Int)+v15.1)) (Tt.mk ⟨#[]⟩ ([])) (⟨#[]⟩:ByteArray) ([])),v15.2)
 else
 aa (slC_16 v13.2) fun v19=>
 some ((Ft.mk 3 v19.1 ⟨#[]⟩ ([])),v19.2)
 else
 aa (slC_6 a0 4) fun v10=>
 bif v10.1 then
 aa (slC_6 v10.2 16) fun v13=>
 bif v13.1 then
 aa (slC_ v13.2 2) fun v15=>
 some ((Ft.mk (IntKind.i64.wrap ((1:Int)+v15.1)) (Tt.mk ⟨#[]⟩ ([])) (⟨#[]⟩:ByteArray) ([])),v15.2)
 else
 aa (slC_16 v13.2) fun v19=>
 some ((Ft.mk 3 v19.1 ⟨#[]⟩ ([])),v19.2)
 else
 aa (slC_21 v10.2 ([(4:Int),(5:Int),(6:Int),(7:Int),(8:Int),(9:Int),(8:Int),(9:Int),(5:Int),(7:Int)])) fun v23=>
 bif decide (v23.1=4) then
 aa (slC_2 n v23.2 (IntKind.i64.wrap (a1-1))) fun v30=>
 some ((Ft.mk v23.1 (Tt.mk ⟨#[]⟩ ([])) (⟨#[]⟩:ByteArray) ([v30.1])),v30.2)
 else
 bif decide (v23.1=8) then
 aa (slC_7 v23.2 ([(⟨#[88]⟩:ByteArray),(⟨#[89]⟩:ByteArray),(⟨#[90]⟩:ByteArray),(⟨#[88]⟩:ByteArray)])) fun v42=>
 aa (slC_2 n v42.2 (IntKind.i64.wrap (a1-1))) fun v46=>
 some ((Ft.mk v23.1 (Tt.mk ⟨#[]⟩ ([])) v42.1 ([v46.1])),v46.2)
 else
 bif decide (v23.1=9) then
 aa (slC_7 v23.2 ([(⟨#[88]⟩:ByteArray),(⟨#[89]⟩:ByteArray),(⟨#[90]⟩:ByteArray),(⟨#[88]⟩:ByteArray)])) fun v42=>
 aa (slC_2 n v42.2 (IntKind.i64.wrap (a1-1))) fun v46=>
 some ((Ft.mk v23.1 (Tt.mk ⟨#[]⟩ ([])) v42.1 ([v46.1])),v46.2)
 else
 aa (slC_2 n v23.2 (IntKind.i64.wrap (a1-1))) fun v53=>
 aa (slC_2 n v53.2 (IntKind.i64.wrap (a1-1))) fun v57=>
 some ((Ft.mk v23.1 (Tt.mk ⟨#[]⟩ ([])) (⟨#[]⟩:ByteArray) ([v53.1,v57.1])),v57.2)
def slC_27(a0:la)(a1:Int):Option (Ft×la):=lim fun n=>slC_2 n a0 a1

def slC_13(a0:la):Option (Ft×la):=
 aa (slC_ a0 4) fun v5=>
 aa (slC_27 v5.2 (IntKind.i64.wrap ((1:Int)+v5.1))) fun v7=>
 some (v7.1,v7.2)

def slC_9(a0:la)(a1:Int):Option (Tt×la):=
 aa (slC_7 a0 ([(⟨#[88]⟩:ByteArray),(⟨#[97]⟩:ByteArray)])) fun v8=>
 thenL (ρ:=(Tt×la)) (σ:=Int×ByteArray×(List Tt)) (lim fun n2=>whileN (fun (s2:Int×ByteArray×(List Tt))=>
 bif decide (1<s2.1) then
 some (.nx (IntKind.i64.wrap (s2.1-1),(⟨#[102]⟩:ByteArray),[(Tt.mk s2.2.1 s2.2.2)]))
 else
 some (.br s2)) n2 (a1,v8.1,[])) fun s2=>
 some ((Tt.mk s2.2.1 s2.2.2),v8.2)

def slC_22(a0:la):Option (Tt×la):=
 thenL (ρ:=(Tt×la)) (σ:=(List Tt)) (forN (fun (i3:Nat) (s3:(List Tt))=>
 thenL (ρ:=(Flow (Tt×la) (List Tt))) (σ:=(List Tt)) (forN (fun (i7:Nat) (s7:(List Tt))=>
 aa (app s7 ([(Tt.mk (⟨#[102]⟩:ByteArray) ([(Tt.mk (⟨#[97]⟩:ByteArray) ([]))]))])) fun v23=>
 some (.nx v23)) 4 0 ([])) fun s7=>
 aa (app s3 ([(Tt.mk (⟨#[104]⟩:ByteArray) s7)])) fun v29=>
 some (.nx v29)) 4 0 ([])) fun s3=>
 aa (slC_6 a0 2) fun v32=>
 bif v32.1 then
 aa (slc s3 (0:Int) (3:Int)) fun v35=>
 aa (slC_6 v32.2 2) fun v38=>
 bif v38.1 then
 bif decide ((v35.length:Int)=3) then
 aa (app v35 ([(Tt.mk (⟨#[102]⟩:ByteArray) ([(Tt.mk (⟨#[98]⟩:ByteArray) ([]))]))])) fun v51=>
 some ((Tt.mk (⟨#[103]⟩:ByteArray) v51),v38.2)
 else
 some ((Tt.mk (⟨#[103]⟩:ByteArray) v35),v38.2)
 else
 some ((Tt.mk (⟨#[103]⟩:ByteArray) v35),v38.2)
 else
 aa (slC_6 v32.2 2) fun v38=>
 bif v38.1 then
 bif decide ((s3.length:Int)=3) then
 aa (app s3 ([(Tt.mk (⟨#[102]⟩:ByteArray) ([(Tt.mk (⟨#[98]⟩:ByteArray) ([]))]))])) fun v51=>
 some ((Tt.mk (⟨#[103]⟩:ByteArray) v51),v38.2)
 else
 some ((Tt.mk (⟨#[103]⟩:ByteArray) s3),v38.2)
 else
 some ((Tt.mk (⟨#[103]⟩:ByteArray) s3),v38.2)

def slC_17(a0:la):Option (Tt×la):=
 aa (slC_8 a0) fun v5=>
 aa (slC_ v5.2 24) fun v7=>
 bif decide (v7.1=0) then
 aa (slC_7 v7.2 ([(⟨#[]⟩:ByteArray),(⟨#[116,114,117,101]⟩:ByteArray),(⟨#[116,114,117,116,104]⟩:ByteArray),(⟨#[105,102]⟩:ByteArray),(⟨#[88,121,122,57]⟩:ByteArray),(⟨#[88,121,122,57,57]⟩:ByteArray),(⟨#[120,65]⟩:ByteArray),(⟨#[97,95,98]⟩:ByteArray),(⟨#[97,98,99,100,101,102]⟩:ByteArray),(⟨#[97,98,99,100,101,102,103]⟩:ByteArray),(⟨#[95,97]⟩:ByteArray),(⟨#[57]⟩:ByteArray),(⟨#[88,95]⟩:ByteArray),(⟨#[61]⟩:ByteArray)])) fun v12=>
 some ((Tt.mk v12.1 v5.1.Args),v12.2)
 else
 bif decide (v7.1=1) then
 aa (slC_ v7.2 3) fun v18=>
 aa (slC_9 v18.2 (IntKind.i64.wrap ((7:Int)+v18.1))) fun v20=>
 some (v20.1,v20.2)
 else
 bif decide (v7.1=2) then
 aa (slC_22 v7.2) fun v24=>
 some (v24.1,v24.2)
 else
 bif decide (v7.1=3) then
 aa (slC_8 v7.2) fun v30=>
 aa (slC_8 v30.2) fun v32=>
 aa (slC_8 v32.2) fun v34=>
 aa (app v5.1.Args ([v30.1,v32.1,v34.1])) fun v36=>
 some ((Tt.mk v5.1.Name v36),v34.2)
 else
 bif decide (v7.1=4) then
 bif decide (0<(v5.1.Args.length:Int)) then
 aa (slC_7 v7.2 ([(⟨#[61]⟩:ByteArray),(⟨#[]⟩:ByteArray),(⟨#[81,49]⟩:ByteArray),(⟨#[98,50]⟩:ByteArray)])) fun v48=>
 aa (idx v5.1.Args 0) fun v53=>
 some ((Tt.mk v5.1.Name (v5.1.Args.set (0:Int).toNat (Tt.mk v48.1 v53.Args))),v48.2)
 else
 some (v5.1,v7.2)
 else
 some (v5.1,v7.2)

def slS_2:Nat→Ft→Option Int
 | 0,_=>none
 | n+1,a0=>
 thenL (ρ:=Int) (σ:=Int) (forN (fun (i3:Nat) (s3:Int)=>
 aa (idx a0.Parts (i3:Int)) fun v16=>
 aa (slS_2 n v16) fun v18=>
 some (.nx (IntKind.i64.wrap (s3+v18)))) a0.Parts.length 0 (1:Int)) fun s3=>
 some s3
def slS_7(a0:Ft):Option Int:=lim fun n=>slS_2 n a0

def slC_4(a0:la):Option (Ft×la):=
 aa (slC_13 a0) fun v6=>
 aa (slC_ v6.2 24) fun v8=>
 bif decide (v8.1=0) then
 aa (slC_ v8.2 11) fun v12=>
 some ((Ft.mk v12.1 v6.1.Atom v6.1.Var v6.1.Parts),v12.2)
 else
 bif decide (v8.1=1) then
 aa (slC_7 v8.2 ([(⟨#[88]⟩:ByteArray),(⟨#[97]⟩:ByteArray),(⟨#[]⟩:ByteArray)])) fun v18=>
 some ((Ft.mk v6.1.Op v6.1.Atom v18.1 v6.1.Parts),v18.2)
 else
 bif decide (v8.1=2) then
 aa (slC_17 v8.2) fun v23=>
 some ((Ft.mk v6.1.Op v23.1 v6.1.Var v6.1.Parts),v23.2)
 else
 bif decide (v8.1=3) then
 aa (slC_13 v8.2) fun v30=>
 aa (app v6.1.Parts ([v30.1])) fun v32=>
 some ((Ft.mk v6.1.Op v6.1.Atom v6.1.Var v32),v30.2)
 else
 bif decide (v8.1=4) then
 aa (slC_ v8.2 5) fun v37=>
 thenL (ρ:=(Ft×la)) (σ:=Int×ByteArray×(List Tt)×ByteArray×(List Ft)) (lim fun n13=>whileN (fun (s13:Int×ByteArray×(List Tt)×ByteArray×(List Ft))=>
 aa (slS_7 (Ft.mk s13.1 (Tt.mk s13.2.1 s13.2.2.1) s13.2.2.2.1 s13.2.2.2.2)) fun v40=>
 bif decide (v40<(IntKind.i64.wrap ((36:Int)+v37.1))) then
 some (.nx ((4:Int),(⟨#[]⟩:ByteArray),[],(⟨#[]⟩:ByteArray),[(Ft.mk s13.1 (Tt.mk s13.2.1 s13.2.2.1) s13.2.2.2.1 s13.2.2.2.2)]))
 else
 some (.br s13)) n13 (v6.1.Op,v6.1.Atom.Name,v6.1.Atom.Args,v6.1.Var,v6.1.Parts)) fun s13=>
 some ((Ft.mk s13.1 (Tt.mk s13.2.1 s13.2.2.1) s13.2.2.2.1 s13.2.2.2.2),v37.2)
 else
 bif decide (v8.1=5) then
 bif decide (0<(v6.1.Parts.length:Int)) then
 aa (slC_ v8.2 11) fun v55=>
 aa (idx v6.1.Parts 0) fun v56=>
 aa (idx v6.1.Parts 0) fun w9=>
 some ((Ft.mk v6.1.Op v6.1.Atom v6.1.Var (v6.1.Parts.set (0:Int).toNat (Ft.mk v55.1 w9.Atom w9.Var w9.Parts))),v55.2)
 else
 some (v6.1,v8.2)
 else
 some (v6.1,v8.2)

def slW_1(a0:ByteArray):Option (Tt×Bool):=
 aa (slR_3 a0 0) fun v8=>
 bif decide (v8.2=(a0.size:Int)) then
 aa (slG_1 v8.1) fun v17=>
 bif v17 then
 some (v8.1,true)
 else
 some ((Tt.mk ⟨#[]⟩ ([])),false)
 else
 some ((Tt.mk ⟨#[]⟩ ([])),false)

def sPT_(a0:ByteArray):Option (Tt×Bool):=
 bif decide (4000<(a0.size:Int)) then
 some ((Tt.mk ⟨#[]⟩ ([])),false)
 else
 aa (slW_1 a0) fun v9=>
 some (v9.1,v9.2)

def slT_2(a0:la)(a1:List ByteArray):Option (Tt×la):=
 aa (slC_7 a0 a1) fun v10=>
 aa (sPT_ v10.1) fun v11=>
 some (v11.1,v10.2)

def slT_3(a0:ByteArray)(a1:ByteArray):Option Int:=
 bif Op.bytesLess a0.data.toList a1.data.toList then
 some (-1:Int)
 else
 bif decide (a0=a1) then
 some (0:Int)
 else
 some (1:Int)

def slC_5:Nat→Tt→Tt→Option Int
 | 0,_,_=>none
 | n+1,a0,a1=>
 aa (slV_2 a0.Name) fun v11=>
 aa (slV_2 a1.Name) fun v14=>
 bif v11 then
 bif v14 then
 bif decide (a0.Name=a1.Name) then
 bif decide ((a0.Args.length:Int)<(a1.Args.length:Int)) then
 some (-1:Int)
 else
 bif decide ((a1.Args.length:Int)<(a0.Args.length:Int)) then
 some (1:Int)
 else
 thenL (ρ:=Int) (σ:=Unit) (forN (fun (i13:Nat) (s13:Unit)=>
 aa (idx a0.Args (i13:Int)) fun v64=>
 aa (idx a1.Args (i13:Int)) fun v69=>
 aa (slC_5 n v64 v69) fun v71=>
 bif decide (v71=0) then
 some (.nx ())
 else
 some (.rt v71)) a0.Args.length 0 ()) fun s13=>
 some (0:Int)
 else
 aa (slT_3 a0.Name a1.Name) fun v37=>
 some v37
 else
 some (-1:Int)
 else
 bif v14 then
 some (1:Int)
 else
 bif decide (a0.Name=a1.Name) then
 bif decide ((a0.Args.length:Int)<(a1.Args.length:Int)) then
 some (-1:Int)
 else
 bif decide ((a1.Args.length:Int)<(a0.Args.length:Int)) then
 some (1:Int)
 else
 thenL (ρ:=Int) (σ:=Unit) (forN (fun (i13:Nat) (s13:Unit)=>
 aa (idx a0.Args (i13:Int)) fun v64=>
 aa (idx a1.Args (i13:Int)) fun v69=>
 aa (slC_5 n v64 v69) fun v71=>
 bif decide (v71=0) then
 some (.nx ())
 else
 some (.rt v71)) a0.Args.length 0 ()) fun s13=>
 some (0:Int)
 else
 aa (slT_3 a0.Name a1.Name) fun v37=>
 some v37
def slC_18(a0:Tt)(a1:Tt):Option Int:=lim fun n=>slC_5 n a0 a1

def slS_4:Nat→Tt→Tt→Option Bool
 | 0,_,_=>none
 | n+1,a0,a1=>
 bif decide (a0.Name=a1.Name) then
 bif decide ((a0.Args.length:Int)=(a1.Args.length:Int)) then
 thenL (ρ:=Bool) (σ:=Unit) (forN (fun (i4:Nat) (s4:Unit)=>
 aa (idx a0.Args (i4:Int)) fun v30=>
 aa (idx a1.Args (i4:Int)) fun v35=>
 aa (slS_4 n v30 v35) fun v37=>
 bif v37 then
 some (.nx ())
 else
 some (.rt false)) a0.Args.length 0 ()) fun s4=>
 some true
 else
 some false
 else
 some false
def slS_9(a0:Tt)(a1:Tt):Option Bool:=lim fun n=>slS_4 n a0 a1

def slP_3(a0:List Tt)(a1:Tt):Option (List Tt):=
 thenL (ρ:=(List Tt)) (σ:=Unit) (forN (fun (i2:Nat) (s2:Unit)=>
 aa (idx a0 (i2:Int)) fun v13=>
 aa (idx a0 (i2:Int)) fun v14=>
 aa (slC_18 v14 a1) fun v16=>
 bif decide (v16<0) then
 some (.nx ())
 else
 aa (idx a0 (i2:Int)) fun v28=>
 aa (idx a0 (i2:Int)) fun v29=>
 aa (slS_9 v29 a1) fun v31=>
 bif v31 then
 some (.rt a0)
 else
 aa (slc a0 (0:Int) (i2:Int)) fun v37=>
 aa (app ([]) v37) fun v38=>
 aa (app v38 ([a1])) fun v41=>
 aa (slc a0 (i2:Int) (a0.length:Int)) fun v44=>
 aa (app v41 v44) fun v45=>
 some (.rt v45)) a0.length 0 ()) fun s2=>
 aa (slc a0 (0:Int) ((a0.length:Nat):Int)) fun v37=>
 aa (app ([]) v37) fun v38=>
 aa (app v38 ([a1])) fun v41=>
 aa (slc a0 ((a0.length:Nat):Int) (a0.length:Int)) fun v44=>
 aa (app v41 v44) fun v45=>
 some v45

def slP_5(a0:List ByteArray)(a1:ByteArray):Option (List ByteArray):=
 thenL (ρ:=(List ByteArray)) (σ:=Unit) (forN (fun (i2:Nat) (s2:Unit)=>
 aa (idx a0 (i2:Int)) fun v13=>
 bif Op.bytesLess v13.data.toList a1.data.toList then
 some (.nx ())
 else
 aa (idx a0 (i2:Int)) fun v27=>
 bif decide (v27=a1) then
 some (.rt a0)
 else
 aa (slc a0 (0:Int) (i2:Int)) fun v36=>
 aa (app ([]) v36) fun v37=>
 aa (app v37 ([a1])) fun v40=>
 aa (slc a0 (i2:Int) (a0.length:Int)) fun v43=>
 aa (app v40 v43) fun v44=>
 some (.rt v44)) a0.length 0 ()) fun s2=>
 aa (slc a0 (0:Int) ((a0.length:Nat):Int)) fun v36=>
 aa (app ([]) v36) fun v37=>
 aa (app v37 ([a1])) fun v40=>
 aa (slc a0 ((a0.length:Nat):Int) (a0.length:Int)) fun v43=>
 aa (app v40 v43) fun v44=>
 some v44

def slI_:Nat→(List ByteArray)→Tt→Option (List ByteArray)
 | 0,_,_=>none
 | n+1,a0,a1=>
 aa (slV_2 a1.Name) fun v8=>
 bif v8 then
 aa (slP_5 a0 a1.Name) fun v12=>
 some v12
 else
 thenL (ρ:=(List ByteArray)) (σ:=(List ByteArray)) (forN (fun (i4:Nat) (s4:(List ByteArray))=>
 aa (idx a1.Args (i4:Int)) fun v24=>
 aa (slI_ n s4 v24) fun v26=>
 some (.nx v26)) a1.Args.length 0 a0) fun s4=>
 some s4
def slI_4(a0:List ByteArray)(a1:Tt):Option (List ByteArray):=lim fun n=>slI_ n a0 a1

def slV_(a0:Tt):Option (List ByteArray):=
 aa (slI_4 ([]) a0) fun v5=>
 some v5

def slG_2(a0:Tt):Option Bool:=
 aa (slV_ a0) fun v4=>
 some (decide ((v4.length:Int)=0))

def slC_12(a0:la):Option (Dt×la):=
 aa (slC_ a0 4) fun v14=>
 thenL (ρ:=(Dt×la)) (σ:=la×Int×(List Tt)) (lim fun n5=>whileN (fun (s5:la×Int×(List Tt))=>
 bif decide (0<s5.2.1) then
 aa (slT_2 s5.1 ([(⟨#[102,40,65,41]⟩:ByteArray),(⟨#[103,40,65,44,97,41]⟩:ByteArray),(⟨#[65]⟩:ByteArray),(⟨#[103,40,65,44,65,41]⟩:ByteArray),(⟨#[102,40,102,40,65,41,41]⟩:ByteArray),(⟨#[97]⟩:ByteArray),(⟨#[102,40,98,41]⟩:ByteArray)])) fun v23=>
 aa (slP_3 s5.2.2 v23.1) fun v24=>
 some (.nx (v23.2,IntKind.i64.wrap (s5.2.1-1),v24))
 else
 some (.br s5)) n5 (v14.2,v14.1,[])) fun s5=>
 aa (slC_ s5.1 3) fun v27=>
 thenL (ρ:=(Dt×la)) (σ:=la×Int×(List Tt)) (lim fun n9=>whileN (fun (s9:la×Int×(List Tt))=>
 bif decide (0<s9.2.1) then
 aa (slT_2 s9.1 ([(⟨#[97]⟩:ByteArray),(⟨#[98]⟩:ByteArray),(⟨#[102,40,97,41]⟩:ByteArray),(⟨#[99]⟩:ByteArray),(⟨#[103,40,97,44,98,41]⟩:ByteArray)])) fun v37=>
 aa (slP_3 s9.2.2 v37.1) fun v38=>
 some (.nx (v37.2,IntKind.i64.wrap (s9.2.1-1),v38))
 else
 some (.br s9)) n9 (v27.2,IntKind.i64.wrap ((1:Int)+v27.1),[])) fun s9=>
 aa (slC_ s9.1 24) fun v41=>
 bif decide (v41.1=0) then
 aa (slC_17 v41.2) fun v47=>
 aa (app s5.2.2 ([v47.1])) fun v49=>
 some ((Dt.mk v49 s9.2.2),v47.2)
 else
 bif decide (v41.1=1) then
 aa (slC_8 v41.2) fun v56=>
 aa (app s9.2.2 ([v56.1])) fun v58=>
 some ((Dt.mk s5.2.2 v58),v56.2)
 else
 bif decide (v41.1=2) then
 some ((Dt.mk s5.2.2 ([])),v41.2)
 else
 bif decide (v41.1=3) then
 bif decide (1<(s5.2.2.length:Int)) then
 aa (idx s5.2.2 0) fun v71=>
 aa (idx s5.2.2 0) fun v72=>
 aa (idx s5.2.2 1) fun v77=>
 aa (idx s5.2.2 1) fun v78=>
 aa (idx s5.2.2 0) fun v79=>
 aa (idx s5.2.2 0) fun w8=>
 aa (idx (s5.2.2.set (0:Int).toNat v78) (1:Int)) fun v83=>
 aa (idx (s5.2.2.set (0:Int).toNat v78) (1:Int)) fun w9=>
 some ((Dt.mk ((s5.2.2.set (0:Int).toNat v78).set (1:Int).toNat v72) s9.2.2),v41.2)
 else
 some ((Dt.mk s5.2.2 s9.2.2),v41.2)
 else
 bif decide (v41.1=4) then
 aa (slC_9 v41.2 6) fun v87=>
 aa (slC_9 v87.2 6) fun v89=>
 aa (slG_2 (Tt.mk (⟨#[103]⟩:ByteArray) ([v87.1,v89.1]))) fun v93=>
 bif v93 then
 aa (slG_1 (Tt.mk (⟨#[103]⟩:ByteArray) ([v87.1,v89.1]))) fun v96=>
 bif v96 then
 aa (slP_3 s9.2.2 (Tt.mk (⟨#[103]⟩:ByteArray) ([v87.1,v89.1]))) fun v101=>
 some ((Dt.mk s5.2.2 v101),v89.2)
 else
 some ((Dt.mk s5.2.2 s9.2.2),v89.2)
 else
 some ((Dt.mk s5.2.2 s9.2.2),v89.2)
 else
 some ((Dt.mk s5.2.2 s9.2.2),v41.2)

def sDL_(a0:List Int):Option (Ft×Dt):=
 aa (slC_ (la.mk a0 0 0) 4) fun v16=>
 aa (quo v16.1 (3:Int)) fun v17=>
 aa (slC_ v16.2 (IntKind.i64.wrap ((4:Int)+(IntKind.i64.wrap ((4:Int)*v17))))) fun v20=>
 aa (idx ([(⟨#[97,108,108,32,88,46,112,40,88,41]⟩:ByteArray),(⟨#[97,108,108,32,88,46,40,112,40,88,41,32,61,62,32,112,40,102,40,88,41,41,41]⟩:ByteArray),(⟨#[97,108,108,32,88,46,113,40,88,44,98,41]⟩:ByteArray),(⟨#[97,108,108,32,88,46,40,114,32,124,32,126,112,40,88,41,41]⟩:ByteArray),(⟨#[97,108,108,32,88,46,115,111,109,101,32,89,46,113,40,88,44,89,41]⟩:ByteArray),(⟨#[115,111,109,101,32,88,46,112,40,88,41]⟩:ByteArray),(⟨#[97,108,108,32,65,46,112,40,65,41]⟩:ByteArray),(⟨#[97,108,108,32,88,46,113,40,88,44,65,41]⟩:ByteArray)]) v20.1) fun v21=>
 aa (idx ([(⟨#[97,108,108,32,88,46,112,40,88,41]⟩:ByteArray),(⟨#[97,108,108,32,88,46,40,112,40,88,41,32,61,62,32,112,40,102,40,88,41,41,41]⟩:ByteArray),(⟨#[97,108,108,32,88,46,113,40,88,44,98,41]⟩:ByteArray),(⟨#[97,108,108,32,88,46,40,114,32,124,32,126,112,40,88,41,41]⟩:ByteArray),(⟨#[97,108,108,32,88,46,115,111,109,101,32,89,46,113,40,88,44,89,41]⟩:ByteArray),(⟨#[115,111,109,101,32,88,46,112,40,88,41]⟩:ByteArray),(⟨#[97,108,108,32,65,46,112,40,65,41]⟩:ByteArray),(⟨#[97,108,108,32,88,46,113,40,88,44,65,41]⟩:ByteArray)]) v20.1) fun v22=>
 aa (sPF_ v22) fun v23=>
 aa (slC_6 v20.2 12) fun v27=>
 bif v27.1 then
 aa (slC_4 v27.2) fun v29=>
 aa (slC_12 v29.2) fun v32=>
 some (v29.1,v32.1)
 else
 aa (slC_12 v27.2) fun v32=>
 some (v23.1,v32.1)

def isO_:Nat→Ft→Option Int
 | 0,_=>none
 | n+1,a0=>
 thenL (ρ:=Int) (σ:=Int) (forN (fun (i3:Nat) (s3:Int)=>
 aa (idx a0.Parts (i3:Int)) fun v11=>
 bif decide (40<s3) then
 some (.rt s3)
 else
 aa (isO_ n v11) fun v18=>
 some (.nx (IntKind.i64.wrap (s3+v18)))) a0.Parts.length 0 (1:Int)) fun s3=>
 some s3
def isO_1(a0:Ft):Option Int:=lim fun n=>isO_ n a0

def iiQ_1(a0:Int):Option Bool:=
 bif decide (a0=8) then
 some true
 else
 some (decide (a0=9))

def iiB_(a0:Int):Option Bool:=
 bif decide (a0=5) then
 some true
 else
 bif decide (a0=6) then
 some true
 else
 some (decide (a0=7))

def iiU_(a0:Int):Option Bool:=
 bif decide (65≤a0) then
 some (decide (a0≤90))
 else
 some false

def iiL_(a0:Int):Option Bool:=
 bif decide (97≤a0) then
 some (decide (a0≤122))
 else
 some false

def iiD_(a0:Int):Option Bool:=
 bif decide (48≤a0) then
 some (decide (a0≤57))
 else
 some false

def iw_(a0:Int)(a1:Int)(a2:Int):Option Bool:=
 bif decide (a1≤a0) then
 some (decide (a0≤a2))
 else
 some false

def iiV_(a0:ByteArray):Option Bool:=
 aa (bnd (a0.size:Int)) fun N2=>
 thenL (ρ:=Bool) (σ:=Unit) (forN (fun (i2:Nat) (s2:Unit)=>
 bif decide ((i2:Int)=0) then
 aa (sidx a0 (i2:Int)) fun v14=>
 aa (iiU_ v14) fun v15=>
 bif v15 then
 bif decide (0<(i2:Int)) then
 aa (sidx a0 (i2:Int)) fun v24=>
 aa (iiL_ v24) fun v25=>
 bif v25 then
 some (.nx ())
 else
 aa (sidx a0 (i2:Int)) fun v31=>
 aa (iiD_ v31) fun v32=>
 bif v32 then
 some (.nx ())
 else
 some (.rt false)
 else
 some (.nx ())
 else
 some (.rt false)
 else
 bif decide (0<(i2:Int)) then
 aa (sidx a0 (i2:Int)) fun v24=>
 aa (iiL_ v24) fun v25=>
 bif v25 then
 some (.nx ())
 else
 aa (sidx a0 (i2:Int)) fun v31=>
 aa (iiD_ v31) fun v32=>
 bif v32 then
 some (.nx ())
 else
 some (.rt false)
 else
 some (.nx ())) N2 0 ()) fun s2=>
 aa (iw_ (a0.size:Int) 1 4) fun v39=>
 some v39

def iiE_(a0:Tt):Option Bool:=
 some (decide (a0.Name=(⟨#[61]⟩:ByteArray)))

def isN_1:Nat→Tt→Option Int
 | 0,_=>none
 | n+1,a0=>
 thenL (ρ:=Int) (σ:=Int) (forN (fun (i3:Nat) (s3:Int)=>
 aa (idx a0.Args (i3:Int)) fun v11=>
 bif decide (30<s3) then
 some (.rt s3)
 else
 aa (isN_1 n v11) fun v18=>
 some (.nx (IntKind.i64.wrap (s3+v18)))) a0.Args.length 0 (1:Int)) fun s3=>
 some s3
def is_1(a0:Tt):Option Int:=lim fun n=>isN_1 n a0

def idN_:Nat→Tt→Option Int
 | 0,_=>none
 | n+1,a0=>
 thenL (ρ:=Int) (σ:=Int) (forN (fun (i3:Nat) (s3:Int)=>
 aa (idx a0.Args (i3:Int)) fun v11=>
 aa (idN_ n v11) fun v15=>
 some (.nx (max s3 v15))) a0.Args.length 0 (0:Int)) fun s3=>
 some (IntKind.i64.wrap (s3+1))
def id_(a0:Tt):Option Int:=lim fun n=>idN_ n a0

def iiS_1(a0:Tt):Option Bool:=
 aa (is_1 a0) fun v4=>
 bif decide (v4≤30) then
 aa (id_ a0) fun v8=>
 some (decide (v8≤8))
 else
 some false

def ir_  :Option (List ByteArray):=
 some ([(⟨#[116,114,117,101]⟩:ByteArray),(⟨#[102,97,108,115,101]⟩:ByteArray),(⟨#[116,114,117,116,104]⟩:ByteArray),(⟨#[98,111,116,104]⟩:ByteArray),(⟨#[101,105,116,104,101,114]⟩:ByteArray),(⟨#[105,102]⟩:ByteArray),(⟨#[97,108,108]⟩:ByteArray),(⟨#[115,111,109,101]⟩:ByteArray)])

def sIS_(a0:List ByteArray)(a1:ByteArray):Option Int:=
 thenL (ρ:=Int) (σ:=Unit) (forN (fun (i2:Nat) (s2:Unit)=>
 aa (idx a0 (i2:Int)) fun v14=>
 bif decide (a1=v14) then
 some (.rt (i2:Int))
 else
 some (.nx ())) a0.length 0 ()) fun s2=>
 some (-1:Int)

def sCS_(a0:List ByteArray)(a1:ByteArray):Option Bool:=
 aa (sIS_ a0 a1) fun v7=>
 some (decide (0≤v7))

def iiS_(a0:ByteArray):Option Bool:=
 aa (bnd (a0.size:Int)) fun N2=>
 thenL (ρ:=Bool) (σ:=Unit) (forN (fun (i2:Nat) (s2:Unit)=>
 bif decide ((i2:Int)=0) then
 aa (sidx a0 (i2:Int)) fun v14=>
 aa (iiL_ v14) fun v15=>
 bif v15 then
 aa (sidx a0 (i2:Int)) fun v21=>
 aa (iiL_ v21) fun v22=>
 bif v22 then
 some (.nx ())
 else
 aa (sidx a0 (i2:Int)) fun v27=>
 aa (iiD_ v27) fun v28=>
 bif v28 then
 some (.nx ())
 else
 aa (sidx a0 (i2:Int)) fun v34=>
 bif decide (v34=95) then
 some (.nx ())
 else
 some (.rt false)
 else
 some (.rt false)
 else
 aa (sidx a0 (i2:Int)) fun v21=>
 aa (iiL_ v21) fun v22=>
 bif v22 then
 some (.nx ())
 else
 aa (sidx a0 (i2:Int)) fun v27=>
 aa (iiD_ v27) fun v28=>
 bif v28 then
 some (.nx ())
 else
 aa (sidx a0 (i2:Int)) fun v34=>
 bif decide (v34=95) then
 some (.nx ())
 else
 some (.rt false)) N2 0 ()) fun s2=>
 aa (iw_ (a0.size:Int) 1 6) fun v41=>
 bif v41 then
 aa (ir_ ) fun v43=>
 aa (sCS_ v43 a0) fun v45=>
 some (!v45)
 else
 some false

def sIF_(a0:List Tt)(a1:Tt→Option Bool):Option Int:=
 thenL (ρ:=Int) (σ:=Unit) (forN (fun (i2:Nat) (s2:Unit)=>
 aa (idx a0 (i2:Int)) fun v14=>
 aa (a1 v14) fun v16=>
 bif v16 then
 some (.rt (i2:Int))
 else
 some (.nx ())) a0.length 0 ()) fun s2=>
 some (-1:Int)

def sCF_1(a0:List Tt)(a1:Tt→Option Bool):Option Bool:=
 aa (sIF_ a0 a1) fun v7=>
 some (decide (0≤v7))

mutual
def ihN_:Nat→Tt→Option Bool
 | 0,_=>none
 | n+1,a0=>
 aa (iiV_ a0.Name) fun v5=>
 bif v5 then
 some (decide ((a0.Args.length:Int)=0))
 else
 aa (iiS_ a0.Name) fun v12=>
 bif v12 then
 bif decide ((a0.Args.length:Int)≤4) then
 aa (sCF_1 a0.Args (fun y0=>ihN_1 n y0)) fun v22=>
 some (!v22)
 else
 some false
 else
 some false
def ihN_1:Nat→Tt→Option Bool
 | 0,_=>none
 | n+1,a0=>
 aa (ihN_ n a0) fun v4=>
 some (!v4)
end
def ihN_2(a0:Tt):Option Bool:=lim fun n=>ihN_ n a0
def ihN_6(a0:Tt):Option Bool:=lim fun n=>ihN_1 n a0

def iIV_4(a0:Tt):Option Bool:=
 aa (iiS_1 a0) fun v4=>
 bif v4 then
 aa (ihN_2 a0) fun v7=>
 some v7
 else
 some false

def iIV_(a0:Tt):Option Bool:=
 aa (iiE_ a0) fun v4=>
 bif v4 then
 bif decide ((a0.Args.length:Int)=2) then
 aa (iiS_1 a0) fun v11=>
 bif v11 then
 aa (idx a0.Args 0) fun v16=>
 aa (ihN_2 v16) fun v18=>
 bif v18 then
 aa (idx a0.Args 1) fun v23=>
 aa (ihN_2 v23) fun v25=>
 some v25
 else
 some false
 else
 some false
 else
 some false
 else
 aa (iiS_ a0.Name) fun v29=>
 bif v29 then
 aa (iIV_4 a0) fun v32=>
 some v32
 else
 some false

def iiZ_1(a0:Tt):Option Bool:=
 bif decide (a0.Name=(⟨#[]⟩:ByteArray)) then
 some (decide ((a0.Args.length:Int)=0))
 else
 some false

def sIF_1(a0:List Ft)(a1:Ft→Option Bool):Option Int:=
 thenL (ρ:=Int) (σ:=Unit) (forN (fun (i2:Nat) (s2:Unit)=>
 aa (idx a0 (i2:Int)) fun v14=>
 aa (a1 v14) fun v16=>
 bif v16 then
 some (.rt (i2:Int))
 else
 some (.nx ())) a0.length 0 ()) fun s2=>
 some (-1:Int)

def sCF_(a0:List Ft)(a1:Ft→Option Bool):Option Bool:=
 aa (sIF_1 a0 a1) fun v7=>
 some (decide (0≤v7))

mutual
def ihF_1:Nat→Ft→Option Bool
 | 0,_=>none
 | n+1,a0=>
 bif decide (a0.Op=1) then
 bif decide ((a0.Parts.length:Int)=0) then
 aa (iiQ_1 a0.Op) fun v33=>
 bif v33 then
 aa (iiV_ a0.Var) fun v37=>
 bif v37 then
 aa (iiQ_1 a0.Op) fun v44=>
 bif v44 then
 bif decide (a0.Op=3) then
 aa (iIV_ a0.Atom) fun v58=>
 bif v58 then
 aa (sCF_ a0.Parts (fun y0=>ihF_ n y0)) fun v74=>
 some (!v74)
 else
 some false
 else
 aa (iiZ_1 a0.Atom) fun v68=>
 bif v68 then
 aa (sCF_ a0.Parts (fun y0=>ihF_ n y0)) fun v74=>
 some (!v74)
 else
 some false
 else
 bif decide (a0.Var=(⟨#[]⟩:ByteArray)) then
 bif decide (a0.Op=3) then
 aa (iIV_ a0.Atom) fun v58=>
 bif v58 then
 aa (sCF_ a0.Parts (fun y0=>ihF_ n y0)) fun v74=>
 some (!v74)
 else
 some false
 else
 aa (iiZ_1 a0.Atom) fun v68=>
 bif v68 then
 aa (sCF_ a0.Parts (fun y0=>ihF_ n y0)) fun v74=>
 some (!v74)
 else
 some false
 else
 some false
 else
 some false
 else
 aa (iiQ_1 a0.Op) fun v44=>
 bif v44 then
 bif decide (a0.Op=3) then
 aa (iIV_ a0.Atom) fun v58=>
 bif v58 then
 aa (sCF_ a0.Parts (fun y0=>ihF_ n y0)) fun v74=>
 some (!v74)
 else
 some false
 else
 aa (iiZ_1 a0.Atom) fun v68=>
 bif v68 then
 aa (sCF_ a0.Parts (fun y0=>ihF_ n y0)) fun v74=>
 some (!v74)
 else
 some false
 else
 bif decide (a0.Var=(⟨#[]⟩:ByteArray)) then
 bif decide (a0.Op=3) then
 aa (iIV_ a0.Atom) fun v58=>
 bif v58 then
 aa (sCF_ a0.Parts (fun y0=>ihF_ n y0)) fun v74=>
 some (!v74)
 else
 some false
 else
 aa (iiZ_1 a0.Atom) fun v68=>
 bif v68 then
 aa (sCF_ a0.Parts (fun y0=>ihF_ n y0)) fun v74=>
 some (!v74)
 else
 some false
 else
 some false
 else
 some false
 else
 bif decide (a0.Op=2) then
 bif decide ((a0.Parts.length:Int)=0) then
 aa (iiQ_1 a0.Op) fun v33=>
 bif v33 then
 aa (iiV_ a0.Var) fun v37=>
 bif v37 then
 aa (iiQ_1 a0.Op) fun v44=>
 bif v44 then
 bif decide (a0.Op=3) then
 aa (iIV_ a0.Atom) fun v58=>
 bif v58 then
 aa (sCF_ a0.Parts (fun y0=>ihF_ n y0)) fun v74=>
 some (!v74)
 else
 some false
 else
 aa (iiZ_1 a0.Atom) fun v68=>
 bif v68 then
 aa (sCF_ a0.Parts (fun y0=>ihF_ n y0)) fun v74=>
 some (!v74)
 else
 some false
 else
 bif decide (a0.Var=(⟨#[]⟩:ByteArray)) then
 bif decide (a0.Op=3) then
 aa (iIV_ a0.Atom) fun v58=>
 bif v58 then
 aa (sCF_ a0.Parts (fun y0=>ihF_ n y0)) fun v74=>
 some (!v74)
 else
 some false
 else
 aa (iiZ_1 a0.Atom) fun v68=>
 bif v68 then
 aa (sCF_ a0.Parts (fun y0=>ihF_ n y0)) fun v74=>
 some (!v74)
 else
 some false
 else
 some false
 else
 some false
 else
 aa (iiQ_1 a0.Op) fun v44=>
 bif v44 then
 bif decide (a0.Op=3) then
 aa (iIV_ a0.Atom) fun v58=>
 bif v58 then
 aa (sCF_ a0.Parts (fun y0=>ihF_ n y0)) fun v74=>
 some (!v74)
 else
 some false
 else
 aa (iiZ_1 a0.Atom) fun v68=>
 bif v68 then
 aa (sCF_ a0.Parts (fun y0=>ihF_ n y0)) fun v74=>
 some (!v74)
 else
 some false
 else
 bif decide (a0.Var=(⟨#[]⟩:ByteArray)) then
 bif decide (a0.Op=3) then
 aa (iIV_ a0.Atom) fun v58=>
 bif v58 then
 aa (sCF_ a0.Parts (fun y0=>ihF_ n y0)) fun v74=>
 some (!v74)
 else
 some false
 else
 aa (iiZ_1 a0.Atom) fun v68=>
 bif v68 then
 aa (sCF_ a0.Parts (fun y0=>ihF_ n y0)) fun v74=>
 some (!v74)
 else
 some false
 else
 some false
 else
 some false
 else
 bif decide (a0.Op=3) then
 bif decide ((a0.Parts.length:Int)=0) then
 aa (iiQ_1 a0.Op) fun v33=>
 bif v33 then
 aa (iiV_ a0.Var) fun v37=>
 bif v37 then
 aa (iiQ_1 a0.Op) fun v44=>
 bif v44 then
 aa (iIV_ a0.Atom) fun v58=>
 bif v58 then
 aa (sCF_ a0.Parts (fun y0=>ihF_ n y0)) fun v74=>
 some (!v74)
 else
 some false
 else
 bif decide (a0.Var=(⟨#[]⟩:ByteArray)) then
 aa (iIV_ a0.Atom) fun v58=>
 bif v58 then
 aa (sCF_ a0.Parts (fun y0=>ihF_ n y0)) fun v74=>
 some (!v74)
 else
 some false
 else
 some false
 else
 some false
 else
 aa (iiQ_1 a0.Op) fun v44=>
 bif v44 then
 aa (iIV_ a0.Atom) fun v58=>
 bif v58 then
 aa (sCF_ a0.Parts (fun y0=>ihF_ n y0)) fun v74=>
 some (!v74)
 else
 some false
 else
 bif decide (a0.Var=(⟨#[]⟩:ByteArray)) then
 aa (iIV_ a0.Atom) fun v58=>
 bif v58 then
 aa (sCF_ a0.Parts (fun y0=>ihF_ n y0)) fun v74=>
 some (!v74)
 else
 some false
 else
 some false
 else
 some false
 else
 bif decide (a0.Op=4) then
 bif decide ((a0.Parts.length:Int)=1) then
 aa (iiQ_1 a0.Op) fun v33=>
 bif v33 then
 aa (iiV_ a0.Var) fun v37=>
 bif v37 then
 aa (iiQ_1 a0.Op) fun v44=>
 bif v44 then
 aa (iiZ_1 a0.Atom) fun v68=>
 bif v68 then
 aa (sCF_ a0.Parts (fun y0=>ihF_ n y0)) fun v74=>
 some (!v74)
 else
 some false
 else
 bif decide (a0.Var=(⟨#[]⟩:ByteArray)) then
 aa (iiZ_1 a0.Atom) fun v68=>
 bif v68 then
 aa (sCF_ a0.Parts (fun y0=>ihF_ n y0)) fun v74=>
 some (!v74)
 else
 some false
 else
 some false
 else
 some false
 else
 aa (iiQ_1 a0.Op) fun v44=>
 bif v44 then
 aa (iiZ_1 a0.Atom) fun v68=>
 bif v68 then
 aa (sCF_ a0.Parts (fun y0=>ihF_ n y0)) fun v74=>
 some (!v74)
 else
 some false
 else
 bif decide (a0.Var=(⟨#[]⟩:ByteArray)) then
 aa (iiZ_1 a0.Atom) fun v68=>
 bif v68 then
 aa (sCF_ a0.Parts (fun y0=>ihF_ n y0)) fun v74=>
 some (!v74)
 else
 some false
 else
 some false
 else
 some false
 else
 aa (iiQ_1 a0.Op) fun v20=>
 bif v20 then
 bif decide ((a0.Parts.length:Int)=1) then
 aa (iiQ_1 a0.Op) fun v33=>
 bif v33 then
 aa (iiV_ a0.Var) fun v37=>
 bif v37 then
 aa (iiQ_1 a0.Op) fun v44=>
 bif v44 then
 aa (iiZ_1 a0.Atom) fun v68=>
 bif v68 then
 aa (sCF_ a0.Parts (fun y0=>ihF_ n y0)) fun v74=>
 some (!v74)
 else
 some false
 else
 bif decide (a0.Var=(⟨#[]⟩:ByteArray)) then
 aa (iiZ_1 a0.Atom) fun v68=>
 bif v68 then
 aa (sCF_ a0.Parts (fun y0=>ihF_ n y0)) fun v74=>
 some (!v74)
 else
 some false
 else
 some false
 else
 some false
 else
 aa (iiQ_1 a0.Op) fun v44=>
 bif v44 then
 aa (iiZ_1 a0.Atom) fun v68=>
 bif v68 then
 aa (sCF_ a0.Parts (fun y0=>ihF_ n y0)) fun v74=>
 some (!v74)
 else
 some false
 else
 bif decide (a0.Var=(⟨#[]⟩:ByteArray)) then
 aa (iiZ_1 a0.Atom) fun v68=>
 bif v68 then
 aa (sCF_ a0.Parts (fun y0=>ihF_ n y0)) fun v74=>
 some (!v74)
 else
 some false
 else
 some false
 else
 some false
 else
 aa (iiB_ a0.Op) fun v24=>
 bif v24 then
 bif decide ((a0.Parts.length:Int)=2) then
 aa (iiQ_1 a0.Op) fun v33=>
 bif v33 then
 aa (iiV_ a0.Var) fun v37=>
 bif v37 then
 aa (iiQ_1 a0.Op) fun v44=>
 bif v44 then
 aa (iiZ_1 a0.Atom) fun v68=>
 bif v68 then
 aa (sCF_ a0.Parts (fun y0=>ihF_ n y0)) fun v74=>
 some (!v74)
 else
 some false
 else
 bif decide (a0.Var=(⟨#[]⟩:ByteArray)) then
 aa (iiZ_1 a0.Atom) fun v68=>
 bif v68 then
 aa (sCF_ a0.Parts (fun y0=>ihF_ n y0)) fun v74=>
 some (!v74)
 else
 some false
 else
 some false
 else
 some false
 else
 aa (iiQ_1 a0.Op) fun v44=>
 bif v44 then
 aa (iiZ_1 a0.Atom) fun v68=>
 bif v68 then
 aa (sCF_ a0.Parts (fun y0=>ihF_ n y0)) fun v74=>
 some (!v74)
 else
 some false
 else
 bif decide (a0.Var=(⟨#[]⟩:ByteArray)) then
 aa (iiZ_1 a0.Atom) fun v68=>
 bif v68 then
 aa (sCF_ a0.Parts (fun y0=>ihF_ n y0)) fun v74=>
 some (!v74)
 else
 some false
 else
 some false
 else
 some false
 else
 some false
def ihF_:Nat→Ft→Option Bool
 | 0,_=>none
 | n+1,a0=>
 aa (ihF_1 n a0) fun v4=>
 some (!v4)
end
def ihF_3(a0:Ft):Option Bool:=lim fun n=>ihF_1 n a0
def ihF_5(a0:Ft):Option Bool:=lim fun n=>ihF_ n a0

def iIV_5(a0:Ft):Option Bool:=
 aa (isO_1 a0) fun v4=>
 bif decide (v4≤40) then
 aa (ihF_3 a0) fun v8=>
 some v8
 else
 some false

def sIS_1(a0:List Int)(a1:Int):Option Int:=
 thenL (ρ:=Int) (σ:=Unit) (forN (fun (i2:Nat) (s2:Unit)=>
 aa (idx a0 (i2:Int)) fun v14=>
 bif decide (a1=v14) then
 some (.rt (i2:Int))
 else
 some (.nx ())) a0.length 0 ()) fun s2=>
 some (-1:Int)

def sCS_3(a0:List Int)(a1:Int):Option Bool:=
 aa (sIS_1 a0 a1) fun v7=>
 some (decide (0≤v7))

mutual
def ihO_:Nat→Ft→(List Int)→Option Bool
 | 0,_,_=>none
 | n+1,a0,a1=>
 aa (sCS_3 a1 a0.Op) fun v8=>
 bif v8 then
 some true
 else
 aa (sCF_ a0.Parts (fun y0=>ihO_1 n y0 a1)) fun v13=>
 some v13
def ihO_1:Nat→Ft→(List Int)→Option Bool
 | 0,_,_=>none
 | n+1,a0,b0=>
 aa (ihO_ n a0 b0) fun v6=>
 some v6
end
def ihO_3(a0:Ft)(a1:List Int):Option Bool:=lim fun n=>ihO_ n a0 a1
def ihO_5(a0:Ft)(b0:List Int):Option Bool:=lim fun n=>ihO_1 n a0 b0

def iaO_:Nat→Ft→Option (List Tt)
 | 0,_=>none
 | n+1,a0=>
 bif decide (a0.Op=3) then
 some ([a0.Atom])
 else
 thenL (ρ:=(List Tt)) (σ:=(List Tt)) (forN (fun (i5:Nat) (s5:(List Tt))=>
 aa (idx a0.Parts (i5:Int)) fun v18=>
 aa (iaO_ n v18) fun v22=>
 aa (app s5 v22) fun v23=>
 some (.nx v23)) a0.Parts.length 0 ([])) fun s5=>
 some s5
def iaO_1(a0:Ft):Option (List Tt):=lim fun n=>iaO_ n a0

def iiV_2(a0:Tt):Option Bool:=
 aa (sidx a0.Name (0:Int)) fun v5=>
 aa (iiU_ v5) fun v6=>
 some v6

def icN_:Nat→(List ByteArray)→Tt→Option (List ByteArray)
 | 0,_,_=>none
 | n+1,a0,a1=>
 bif decide ((a1.Args.length:Int)=0) then
 aa (iiV_2 a1) fun v13=>
 bif v13 then
 aa (sCS_ a0 a1.Name) fun v18=>
 bif v18 then
 some a0
 else
 aa (app a0 ([a1.Name])) fun v24=>
 some v24
 else
 thenL (ρ:=(List ByteArray)) (σ:=(List ByteArray)) (forN (fun (i6:Nat) (s6:(List ByteArray))=>
 aa (idx a1.Args (i6:Int)) fun v31=>
 aa (icN_ n s6 v31) fun v35=>
 some (.nx v35)) a1.Args.length 0 a0) fun s6=>
 some s6
 else
 thenL (ρ:=(List ByteArray)) (σ:=(List ByteArray)) (forN (fun (i6:Nat) (s6:(List ByteArray))=>
 aa (idx a1.Args (i6:Int)) fun v31=>
 aa (icN_ n s6 v31) fun v35=>
 some (.nx v35)) a1.Args.length 0 a0) fun s6=>
 some s6
def ic_(a0:List ByteArray)(a1:Tt):Option (List ByteArray):=lim fun n=>icN_ n a0 a1

def sB_(a:List ByteArray):List ByteArray:=((a.map fun x=>x.data.toList).mergeSort fun x y=>decide (x≤y)).map fun l=>⟨l.toArray⟩
def sSS_(a0:List ByteArray):Option (Unit×List ByteArray):=if a0.length<4611686018427387904 then some ((),sB_ a0) else none

def ivI_(a0:Ft):Option (List ByteArray):=
 aa (iaO_1 a0) fun v8=>
 thenL (ρ:=(List ByteArray)) (σ:=(List ByteArray)) (forN (fun (i3:Nat) (s3:(List ByteArray))=>
 aa (idx v8 (i3:Int)) fun v12=>
 aa (idx v8 (i3:Int)) fun v13=>
 aa (ic_ s3 v13) fun v16=>
 some (.nx v16)) v8.length 0 ([])) fun s3=>
 aa (sSS_ s3) fun v19=>
 some v19.2

def iiG_(a0:Tt):Option Bool:=
 aa (iIV_4 a0) fun v4=>
 bif v4 then
 aa (ic_ ([]) a0) fun v7=>
 some (decide ((v7.length:Int)=0))
 else
 some false

def inG_(a0:Tt):Option Bool:=
 aa (iiG_ a0) fun v4=>
 some (!v4)

def iiP_1(a0:ByteArray):Option Bool:=
 some (!(decide (a0=(⟨#[65]⟩:ByteArray))))

def sIF_2(a0:List ByteArray)(a1:ByteArray→Option Bool):Option Int:=
 thenL (ρ:=Int) (σ:=Unit) (forN (fun (i2:Nat) (s2:Unit)=>
 aa (idx a0 (i2:Int)) fun v14=>
 aa (a1 v14) fun v16=>
 bif v16 then
 some (.rt (i2:Int))
 else
 some (.nx ())) a0.length 0 ()) fun s2=>
 some (-1:Int)

def sCF_4(a0:List ByteArray)(a1:ByteArray→Option Bool):Option Bool:=
 aa (sIF_2 a0 a1) fun v7=>
 some (decide (0≤v7))

def iiP_(a0:Tt):Option Bool:=
 aa (iIV_4 a0) fun v4=>
 bif v4 then
 aa (ic_ ([]) a0) fun v7=>
 aa (sCF_4 v7 (fun y0=>iiP_1 y0)) fun v8=>
 some (!v8)
 else
 some false

def iIV_3(a0:Tt):Option Bool:=
 aa (iiP_ a0) fun v4=>
 some (!v4)

def ciN_(a0:ByteArray):Option Bool:=
 some (!(decide (a0=a0)))

def cCs_(a0:ByteArray)(a1:ByteArray):Option Int:=
 aa (ciN_ a0) fun v8=>
 aa (ciN_ a1) fun v10=>
 bif v8 then
 bif v10 then
 some (0:Int)
 else
 some (-1:Int)
 else
 bif v10 then
 some (1:Int)
 else
 bif Op.bytesLess a0.data.toList a1.data.toList then
 some (-1:Int)
 else
 bif decide (a0=a1) then
 some (0:Int)
 else
 some (1:Int)

def ciN_1(a0:Int):Option Bool:=
 some (!(decide (a0=a0)))

def cCi_(a0:Int)(a1:Int):Option Int:=
 aa (ciN_1 a0) fun v8=>
 aa (ciN_1 a1) fun v10=>
 bif v8 then
 bif v10 then
 some (0:Int)
 else
 some (-1:Int)
 else
 bif v10 then
 some (1:Int)
 else
 bif decide (a0<a1) then
 some (-1:Int)
 else
 bif decide (a1<a0) then
 some (1:Int)
 else
 some (0:Int)

def cOi_(a0:List Int):Option Int:=
 thenL (ρ:=Int) (σ:=Unit) (forN (fun (i3:Nat) (s3:Unit)=>
 aa (idx a0 (i3:Int)) fun v10=>
 bif decide (v10=0) then
 some (.nx ())
 else
 some (.rt v10)) a0.length 0 ()) fun s3=>
 some (0:Int)

def sCF_2(a0:List Tt)(a1:List Tt)(a2:Tt→Tt→Option Int):Option Int:=
 thenL (ρ:=Int) (σ:=Unit) (forN (fun (i2:Nat) (s2:Unit)=>
 aa (idx a0 (i2:Int)) fun v16=>
 bif decide ((a1.length:Int)≤(i2:Int)) then
 some (.rt (1:Int))
 else
 aa (idx a1 (i2:Int)) fun v24=>
 aa (a2 v16 v24) fun v29=>
 bif decide (v29=0) then
 some (.nx ())
 else
 some (.rt v29)) a0.length 0 ()) fun s2=>
 bif decide ((a0.length:Int)<(a1.length:Int)) then
 some (-1:Int)
 else
 some (0:Int)

def icT_:Nat→Tt→Tt→Option Int
 | 0,_,_=>none
 | n+1,a0,a1=>
 aa (iiV_2 a0) fun v9=>
 aa (iiV_2 a1) fun v11=>
 bif v9 then
 bif v11 then
 aa (cCs_ a0.Name a1.Name) fun v28=>
 aa (cCi_ (a0.Args.length:Int) (a1.Args.length:Int)) fun v35=>
 aa (cOi_ ([v28,v35])) fun v37=>
 bif decide (v37=0) then
 aa (sCF_2 a0.Args a1.Args (fun y0 y1=>icT_ n y0 y1)) fun v45=>
 some v45
 else
 some v37
 else
 some (-1:Int)
 else
 bif v11 then
 some (1:Int)
 else
 aa (cCs_ a0.Name a1.Name) fun v28=>
 aa (cCi_ (a0.Args.length:Int) (a1.Args.length:Int)) fun v35=>
 aa (cOi_ ([v28,v35])) fun v37=>
 bif decide (v37=0) then
 aa (sCF_2 a0.Args a1.Args (fun y0 y1=>icT_ n y0 y1)) fun v45=>
 some v45
 else
 some v37
def icT_2(a0:Tt)(a1:Tt):Option Int:=lim fun n=>icT_ n a0 a1

def iaA_(a0:List Tt):Option Bool:=
 thenL (ρ:=Bool) (σ:=Unit) (forN (fun (i2:Nat) (s2:Unit)=>
 bif decide (0<(i2:Int)) then
 aa (idx a0 (IntKind.i64.wrap ((i2:Int)-1))) fun v15=>
 aa (idx a0 (i2:Int)) fun v19=>
 aa (icT_2 v15 v19) fun v21=>
 bif decide (0≤v21) then
 some (.rt false)
 else
 some (.nx ())
 else
 some (.nx ())) a0.length 0 ()) fun s2=>
 some (decide ((a0.length:Int)≤12))

def iIV_2(a0:Dt):Option Bool:=
 aa (sCF_1 a0.Instances (fun y0=>inG_ y0)) fun v5=>
 bif v5 then
 some false
 else
 aa (sCF_1 a0.Patterns (fun y0=>iIV_3 y0)) fun v9=>
 bif v9 then
 some false
 else
 aa (iaA_ a0.Patterns) fun v13=>
 bif v13 then
 aa (iaA_ a0.Instances) fun v17=>
 bif v17 then
 bif decide (0<(a0.Instances.length:Int)) then
 some true
 else
 aa (sCF_1 a0.Patterns (fun y0=>inG_ y0)) fun v27=>
 some (!v27)
 else
 some false
 else
 some false

def iv_(a0:Tt):Option (List ByteArray):=
 aa (ic_ ([]) a0) fun v6=>
 aa (sSS_ v6) fun v8=>
 some v8.2

def sCS_2(a0:List ByteArray):Option (List ByteArray):=
 aa (app ([]) a0) fun v7=>
 some v7

def igN_:Nat→(List ByteArray)→Ft→(List ByteArray)→Option (List ByteArray)
 | 0,_,_,_=>none
 | n+1,a0,a1,a2=>
 bif decide (a1.Op=3) then
 aa (iv_ a1.Atom) fun v16=>
 thenL (ρ:=(List ByteArray)) (σ:=(List ByteArray)) (forN (fun (i3:Nat) (s3:(List ByteArray))=>
 aa (idx v16 (i3:Int)) fun v20=>
 aa (idx v16 (i3:Int)) fun v21=>
 aa (sCS_ a2 v21) fun v24=>
 bif v24 then
 some (.nx s3)
 else
 aa (sCS_ s3 v21) fun v29=>
 bif v29 then
 some (.nx s3)
 else
 aa (app s3 ([v21])) fun v35=>
 some (.nx v35)) v16.length 0 a0) fun s3=>
 some s3
 else
 aa (iiQ_1 a1.Op) fun v40=>
 bif v40 then
 aa (sCS_2 a2) fun v42=>
 aa (app v42 ([a1.Var])) fun v46=>
 thenL (ρ:=(List ByteArray)) (σ:=(List ByteArray)) (forN (fun (i12:Nat) (s12:(List ByteArray))=>
 aa (idx a1.Parts (i12:Int)) fun v52=>
 aa (igN_ n s12 v52 v46) fun v57=>
 some (.nx v57)) a1.Parts.length 0 a0) fun s12=>
 some s12
 else
 thenL (ρ:=(List ByteArray)) (σ:=(List ByteArray)) (forN (fun (i12:Nat) (s12:(List ByteArray))=>
 aa (idx a1.Parts (i12:Int)) fun v52=>
 aa (igN_ n s12 v52 a2) fun v57=>
 some (.nx v57)) a1.Parts.length 0 a0) fun s12=>
 some s12
def ig_(a0:List ByteArray)(a1:Ft)(a2:List ByteArray):Option (List ByteArray):=lim fun n=>igN_ n a0 a1 a2

def if_1(a0:Ft):Option (List ByteArray):=
 aa (ig_ ([]) a0 ([])) fun v6=>
 aa (sSS_ v6) fun v8=>
 some v8.2

mutual
def icT_1:Nat→Tt→Option Tt
 | 0,_=>none
 | n+1,a0=>
 aa (icT_3 n a0.Args) fun v7=>
 some (Tt.mk a0.Name v7)
def icT_3:Nat→(List Tt)→Option (List Tt)
 | 0,_=>none
 | n+1,a0=>
 bif decide ((a0.length:Int)=0) then
 some ([])
 else
 aa (mkn (a0.length:Int)) fun n11=>
 thenL (ρ:=(List Tt)) (σ:=(List Tt)) (forN (fun (i5:Nat) (s5:(List Tt))=>
 aa (idx a0 (i5:Int)) fun v17=>
 aa (icT_1 n v17) fun v22=>
 aa (idx s5 (i5:Int)) fun v23=>
 aa (idx s5 (i5:Int)) fun w3=>
 some (.nx (s5.set (i5:Int).toNat v22))) a0.length 0 (List.replicate n11 (Tt.mk ⟨#[]⟩ ([])))) fun s5=>
 some s5
end
def icT_5(a0:Tt):Option Tt:=lim fun n=>icT_1 n a0
def icT_9(a0:List Tt):Option (List Tt):=lim fun n=>icT_3 n a0

def imP_2(a0:Ft)(a1:Ft→Option Ft):Option Ft:=
 aa (icT_5 a0.Atom) fun v12=>
 thenL (ρ:=Ft) (σ:=(List Ft)) (forN (fun (i3:Nat) (s3:(List Ft))=>
 aa (idx a0.Parts (i3:Int)) fun v21=>
 aa (a1 v21) fun v27=>
 aa (app s3 ([v27])) fun v29=>
 some (.nx v29)) a0.Parts.length 0 ([])) fun s3=>
 some (Ft.mk a0.Op v12 a0.Var s3)

def icF_:Nat→Ft→Option Ft
 | 0,_=>none
 | n+1,a0=>
 aa (imP_2 a0 (fun y0=>icF_ n y0)) fun v4=>
 some v4
def icF_1(a0:Ft):Option Ft:=lim fun n=>icF_ n a0

def icN_1:Nat→Tt→ByteArray→Option Int
 | 0,_,_=>none
 | n+1,a0,a1=>
 bif decide (a0.Name=a1) then
 thenL (ρ:=Int) (σ:=Int) (forN (fun (i5:Nat) (s5:Int)=>
 aa (idx a0.Args (i5:Int)) fun v17=>
 aa (icN_1 n v17 a1) fun v22=>
 some (.nx (IntKind.i64.wrap (s5+v22)))) a0.Args.length 0 (1:Int)) fun s5=>
 some s5
 else
 thenL (ρ:=Int) (σ:=Int) (forN (fun (i5:Nat) (s5:Int)=>
 aa (idx a0.Args (i5:Int)) fun v17=>
 aa (icN_1 n v17 a1) fun v22=>
 some (.nx (IntKind.i64.wrap (s5+v22)))) a0.Args.length 0 (0:Int)) fun s5=>
 some s5
def icN_2(a0:Tt)(a1:ByteArray):Option Int:=lim fun n=>icN_1 n a0 a1

def io_(a0:ByteArray)(a1:Tt):Option Bool:=
 aa (icN_2 a1 a0) fun v7=>
 some (decide (0<v7))

def iSt_(a0:Bt)(a1:ByteArray):Option Int:=
 aa (cCs_ a0.Var a1) fun v8=>
 some v8

def sBS_(a0:List Bt)(a1:ByteArray)(a2:Bt→ByteArray→Option Int):Option (Int×Bool):=
 thenL (ρ:=(Int×Bool)) (σ:=Int×Int) (lim fun n3=>whileN (fun (s3:Int×Int)=>
 bif decide (s3.1<s3.2) then
 aa (shr .u64 (IntKind.u64.wrap (IntKind.i64.wrap (s3.1+s3.2))) (1:Int)) fun v22=>
 aa (idx a0 (IntKind.i64.wrap v22)) fun v27=>
 aa (a2 v27 a1) fun v30=>
 bif decide (v30<0) then
 some (.nx (IntKind.i64.wrap ((IntKind.i64.wrap v22)+1),s3.2))
 else
 some (.nx (s3.1,IntKind.i64.wrap v22))
 else
 some (.br s3)) n3 ((0:Int),(a0.length:Int))) fun s3=>
 bif decide (s3.1<(a0.length:Int)) then
 aa (idx a0 s3.1) fun v43=>
 aa (a2 v43 a1) fun v46=>
 some (s3.1,decide (v46=0))
 else
 some (s3.1,false)

def iSt_1(a0:Sb)(a1:ByteArray):Option (Tt×Bool):=
 aa (sBS_ a0.Bindings a1 (fun y0 y1=>iSt_ y0 y1)) fun v12=>
 bif v12.2 then
 aa (idx a0.Bindings v12.1) fun v21=>
 some (v21.Term,true)
 else
 some ((Tt.mk ⟨#[]⟩ ([])),false)

def iSa_:Nat→Sb→Tt→Option Tt
 | 0,_,_=>none
 | n+1,a0,a1=>
 bif decide ((a1.Args.length:Int)=0) then
 aa (iSt_1 a0 a1.Name) fun v18=>
 bif v18.2 then
 aa (icT_5 v18.1) fun v23=>
 some v23
 else
 some (Tt.mk a1.Name ([]))
 else
 aa (mkn (a1.Args.length:Int)) fun n32=>
 thenL (ρ:=Tt) (σ:=(List Tt)) (forN (fun (i8:Nat) (s8:(List Tt))=>
 aa (idx a1.Args (i8:Int)) fun v40=>
 aa (iSa_ n a0 v40) fun v47=>
 aa (idx s8 (i8:Int)) fun v48=>
 aa (idx s8 (i8:Int)) fun w4=>
 some (.nx (s8.set (i8:Int).toNat v47))) a1.Args.length 0 (List.replicate n32 (Tt.mk ⟨#[]⟩ ([])))) fun s8=>
 some (Tt.mk a1.Name s8)
def iSa_1(a0:Sb)(a1:Tt):Option Tt:=lim fun n=>iSa_ n a0 a1

def imP_(a0:Ft)(a1:Ft→Bool→Option (Ft×Bool))(a1_s:Bool):Option (Ft×Bool):=
 aa (icT_5 a0.Atom) fun v12=>
 thenL (ρ:=(Ft×Bool)) (σ:=Bool×(List Ft)) (forN (fun (i3:Nat) (s3:Bool×(List Ft))=>
 aa (idx a0.Parts (i3:Int)) fun v21=>
 aa (a1 v21 s3.1) fun v27=>
 aa (app s3.2 ([v27.1])) fun v29=>
 some (.nx (v27.2,v29))) a0.Parts.length 0 (a1_s,[])) fun s3=>
 some ((Ft.mk a0.Op v12 a0.Var s3.2),s3.1)

mutual
def isN_:Nat→Ft→ByteArray→Tt→Option (Ft×Bool)
 | 0,_,_,_=>none
 | n+1,a0,a1,a2=>
 aa (iiQ_1 a0.Op) fun v12=>
 bif v12 then
 bif decide (a0.Var=a1) then
 aa (icF_1 a0) fun v27=>
 some (v27,true)
 else
 aa (if_1 a0) fun v20=>
 aa (sCS_ v20 a1) fun v22=>
 bif v22 then
 aa (iiQ_1 a0.Op) fun v30=>
 bif v30 then
 aa (io_ a0.Var a2) fun v35=>
 bif v35 then
 some ((Ft.mk 0 (Tt.mk ⟨#[]⟩ ([])) (⟨#[]⟩:ByteArray) ([])),false)
 else
 aa (imP_ a0 (fun y0 s=>is1_ n y0 a1 a2 s) true) fun v40=>
 bif decide (a0.Op=3) then
 aa (iSa_1 (Sb.mk ([(Bt.mk a1 a2)])) a0.Atom) fun v51=>
 some ((Ft.mk v40.1.Op v51 v40.1.Var v40.1.Parts),v40.2)
 else
 some (v40.1,v40.2)
 else
 aa (imP_ a0 (fun y0 s=>is1_ n y0 a1 a2 s) true) fun v40=>
 bif decide (a0.Op=3) then
 aa (iSa_1 (Sb.mk ([(Bt.mk a1 a2)])) a0.Atom) fun v51=>
 some ((Ft.mk v40.1.Op v51 v40.1.Var v40.1.Parts),v40.2)
 else
 some (v40.1,v40.2)
 else
 aa (icF_1 a0) fun v27=>
 some (v27,true)
 else
 aa (iiQ_1 a0.Op) fun v30=>
 bif v30 then
 aa (io_ a0.Var a2) fun v35=>
 bif v35 then
 some ((Ft.mk 0 (Tt.mk ⟨#[]⟩ ([])) (⟨#[]⟩:ByteArray) ([])),false)
 else
 aa (imP_ a0 (fun y0 s=>is1_ n y0 a1 a2 s) true) fun v40=>
 bif decide (a0.Op=3) then
 aa (iSa_1 (Sb.mk ([(Bt.mk a1 a2)])) a0.Atom) fun v51=>
 some ((Ft.mk v40.1.Op v51 v40.1.Var v40.1.Parts),v40.2)
 else
 some (v40.1,v40.2)
 else
 aa (imP_ a0 (fun y0 s=>is1_ n y0 a1 a2 s) true) fun v40=>
 bif decide (a0.Op=3) then
 aa (iSa_1 (Sb.mk ([(Bt.mk a1 a2)])) a0.Atom) fun v51=>
 some ((Ft.mk v40.1.Op v51 v40.1.Var v40.1.Parts),v40.2)
 else
 some (v40.1,v40.2)
def is1_:Nat→Ft→ByteArray→Tt→Bool→Option (Ft×Bool)
 | 0,_,_,_,_=>none
 | n+1,a0,b0,b1,b2=>
 aa (isN_ n a0 b0 b1) fun v12=>
 bif b2 then
 some (v12.1,v12.2)
 else
 some (v12.1,false)
end
def is_(a0:Ft)(a1:ByteArray)(a2:Tt):Option (Ft×Bool):=lim fun n=>isN_ n a0 a1 a2
def is1_1(a0:Ft)(b0:ByteArray)(b1:Tt)(b2:Bool):Option (Ft×Bool):=lim fun n=>is1_ n a0 b0 b1 b2

def iiF_(a0:Ft):Option (Ft×Bool):=
 aa (iIV_5 a0) fun v5=>
 bif v5 then
 some (a0,true)
 else
 some ((Ft.mk 0 (Tt.mk ⟨#[]⟩ ([])) (⟨#[]⟩:ByteArray) ([])),false)


def iSF_(a0:Ft)(a1:ByteArray)(a2:Tt):Option (Ft×Bool):=
 aa (iIV_5 a0) fun v11=>
 bif v11 then
 aa (iiV_ a1) fun v15=>
 bif v15 then
 aa (iIV_4 a2) fun v20=>
 bif v20 then
 aa (is_ a0 a1 a2) fun v28=>
 bif v28.2 then
 aa (iiF_ v28.1) fun v35=>
 some (v35.1,v35.2)
 else
 some ((Ft.mk 0 (Tt.mk ⟨#[]⟩ ([])) (⟨#[]⟩:ByteArray) ([])),false)
 else
 some ((Ft.mk 0 (Tt.mk ⟨#[]⟩ ([])) (⟨#[]⟩:ByteArray) ([])),false)
 else
 some ((Ft.mk 0 (Tt.mk ⟨#[]⟩ ([])) (⟨#[]⟩:ByteArray) ([])),false)
 else
 some ((Ft.mk 0 (Tt.mk ⟨#[]⟩ ([])) (⟨#[]⟩:ByteArray) ([])),false)

def ib_(a0:Int)(a1:Ft)(a2:Ft):Option Ft:=
 some (Ft.mk a0 (Tt.mk ⟨#[]⟩ ([])) (⟨#[]⟩:ByteArray) ([a1,a2]))

def ic_1(a0:Int)(a1:List Ft)(a2:Ft):Option Ft:=
 some (match a1.reverse with
 | []=>a2
 | x::r=>r.foldl (fun o f=>(ib_ a0 f o).getD default) x)

def iq_(a0:Int)(a1:ByteArray)(a2:Ft):Option Ft:=
 some (Ft.mk a0 (Tt.mk ⟨#[]⟩ ([])) a1 ([a2]))

def iLO_(a0:Ft)(a1:Dt):Option (Ft×Bool):=
 aa (iIV_5 a0) fun v12=>
 bif v12 then
 bif decide (a0.Op=8) then
 aa (idx a0.Parts 0) fun v22=>
 aa (ihO_3 v22 ([(8:Int),(9:Int)])) fun v25=>
 bif v25 then
 some ((Ft.mk 0 (Tt.mk ⟨#[]⟩ ([])) (⟨#[]⟩:ByteArray) ([])),false)
 else
 aa (idx a0.Parts 0) fun v30=>
 aa (ivI_ v30) fun v32=>
 aa (sCS_ v32 (⟨#[65]⟩:ByteArray)) fun v33=>
 bif v33 then
 some ((Ft.mk 0 (Tt.mk ⟨#[]⟩ ([])) (⟨#[]⟩:ByteArray) ([])),false)
 else
 aa (iIV_2 a1) fun v37=>
 bif v37 then
 thenL (ρ:=(Ft×Bool)) (σ:=(List Ft)) (forN (fun (i5:Nat) (s5:(List Ft))=>
 aa (idx a1.Patterns (i5:Int)) fun v47=>
 aa (idx a0.Parts 0) fun v52=>
 aa (iSF_ v52 a0.Var v47) fun v57=>
 bif v57.2 then
 aa (app s5 ([v57.1])) fun v66=>
 some (.nx v66)
 else
 some (.rt ((Ft.mk 0 (Tt.mk ⟨#[]⟩ ([])) (⟨#[]⟩:ByteArray) ([])),false))) a1.Patterns.length 0 ([])) fun s5=>
 aa (ic_1 5 s5 (Ft.mk 1 (Tt.mk ⟨#[]⟩ ([])) (⟨#[]⟩:ByteArray) ([]))) fun v70=>
 aa (iq_ 8 (⟨#[65]⟩:ByteArray) v70) fun v71=>
 aa (iiF_ v71) fun v72=>
 some (v72.1,v72.2)
 else
 some ((Ft.mk 0 (Tt.mk ⟨#[]⟩ ([])) (⟨#[]⟩:ByteArray) ([])),false)
 else
 some ((Ft.mk 0 (Tt.mk ⟨#[]⟩ ([])) (⟨#[]⟩:ByteArray) ([])),false)
 else
 some ((Ft.mk 0 (Tt.mk ⟨#[]⟩ ([])) (⟨#[]⟩:ByteArray) ([])),false)

def iLI_(a0:Ft)(a1:Dt):Option ((List Ft)×Bool):=
 aa (iLO_ a0 a1) fun v16=>
 bif v16.2 then
 thenL (ρ:=((List Ft)×Bool)) (σ:=(List Ft)) (forN (fun (i6:Nat) (s6:(List Ft))=>
 aa (idx a1.Instances (i6:Int)) fun v27=>
 aa (idx v16.1.Parts 0) fun v32=>
 aa (iSF_ v32 (⟨#[65]⟩:ByteArray) v27) fun v35=>
 bif v35.2 then
 aa (app s6 ([v35.1])) fun v43=>
 some (.nx v43)
 else
 some (.rt ([],false))) a1.Instances.length 0 ([])) fun s6=>
 some (s6,true)
 else
 some ([],false)

def slP_2:Nat→Ft→Option Bool
 | 0,_=>none
 | n+1,a0=>
 bif decide (a0.Op=8) then
 some false
 else
 bif decide (a0.Op=9) then
 some false
 else
 thenL (ρ:=Bool) (σ:=Unit) (forN (fun (i4:Nat) (s4:Unit)=>
 aa (idx a0.Parts (i4:Int)) fun v22=>
 aa (slP_2 n v22) fun v24=>
 bif v24 then
 some (.nx ())
 else
 some (.rt false)) a0.Parts.length 0 ()) fun s4=>
 some true
def slP_9(a0:Ft):Option Bool:=lim fun n=>slP_2 n a0

def slI_2(a0:List ByteArray)(a1:ByteArray):Option Bool:=
 thenL (ρ:=Bool) (σ:=Unit) (forN (fun (i2:Nat) (s2:Unit)=>
 aa (idx a0 (i2:Int)) fun v14=>
 bif decide (v14=a1) then
 some (.rt true)
 else
 some (.nx ())) a0.length 0 ()) fun s2=>
 some false

def slO_:Nat→Ft→Option Bool
 | 0,_=>none
 | n+1,a0=>
 bif decide (a0.Op=3) then
 aa (slV_ a0.Atom) fun v10=>
 aa (slI_2 v10 (⟨#[65]⟩:ByteArray)) fun v11=>
 bif v11 then
 some true
 else
 thenL (ρ:=Bool) (σ:=Unit) (forN (fun (i4:Nat) (s4:Unit)=>
 aa (idx a0.Parts (i4:Int)) fun v23=>
 aa (slO_ n v23) fun v25=>
 bif v25 then
 some (.rt true)
 else
 some (.nx ())) a0.Parts.length 0 ()) fun s4=>
 some false
 else
 thenL (ρ:=Bool) (σ:=Unit) (forN (fun (i4:Nat) (s4:Unit)=>
 aa (idx a0.Parts (i4:Int)) fun v23=>
 aa (slO_ n v23) fun v25=>
 bif v25 then
 some (.rt true)
 else
 some (.nx ())) a0.Parts.length 0 ()) fun s4=>
 some false
def slO_6(a0:Ft):Option Bool:=lim fun n=>slO_ n a0

def slT_4(a0:List Tt):Option Bool:=
 thenL (ρ:=Bool) (σ:=Unit) (forN (fun (i2:Nat) (s2:Unit)=>
 bif decide ((i2:Int)≤60) then
 aa (idx a0 (i2:Int)) fun v16=>
 aa (slG_1 v16) fun v18=>
 bif v18 then
 aa (idx a0 (i2:Int)) fun v23=>
 aa (slG_2 v23) fun v25=>
 bif v25 then
 some (.nx ())
 else
 some (.rt false)
 else
 some (.rt false)
 else
 some (.rt (decide ((a0.length:Int)≤60)))) a0.length 0 ()) fun s2=>
 some (decide ((a0.length:Int)≤60))

def slR_2(a0:List Tt):Option Bool:=
 thenL (ρ:=Bool) (σ:=Unit) (forN (fun (i2:Nat) (s2:Unit)=>
 aa (idx a0 (IntKind.i64.wrap ((i2:Int)-1))) fun v13=>
 aa (idx a0 (i2:Int)) fun v17=>
 aa (slC_18 v13 v17) fun v19=>
 bif decide (0≤v19) then
 some (.rt false)
 else
 some (.nx ())) (a0.length-1) 1 ()) fun s2=>
 some true

def slG_5(a0:Dt):Option Bool:=
 bif decide (12<(a0.Patterns.length:Int)) then
 some false
 else
 bif decide (12<(a0.Instances.length:Int)) then
 some false
 else
 aa (slT_4 a0.Instances) fun v18=>
 bif v18 then
 thenL (ρ:=Bool) (σ:=Unit) (forN (fun (i4:Nat) (s4:Unit)=>
 aa (idx a0.Patterns (i4:Int)) fun v31=>
 aa (slG_1 v31) fun v33=>
 bif v33 then
 aa (idx a0.Patterns (i4:Int)) fun v38=>
 aa (slV_ v38) fun v40=>
 bif decide (1<(v40.length:Int)) then
 some (.rt false)
 else
 bif decide ((v40.length:Int)=1) then
 aa (idx v40 0) fun v50=>
 bif decide (v50=(⟨#[65]⟩:ByteArray)) then
 bif decide ((a0.Instances.length:Int)=0) then
 some (.rt false)
 else
 some (.nx ())
 else
 some (.rt false)
 else
 some (.nx ())
 else
 some (.rt false)) a0.Patterns.length 0 ()) fun s4=>
 aa (slR_2 a0.Patterns) fun v63=>
 bif v63 then
 aa (slR_2 a0.Instances) fun v67=>
 some v67
 else
 some false
 else
 some false

def slO_4:Nat→Tt→Option Tt
 | 0,_=>none
 | n+1,a0=>
 thenL (ρ:=Tt) (σ:=(List Tt)) (forN (fun (i3:Nat) (s3:(List Tt))=>
 aa (idx a0.Args (i3:Int)) fun v20=>
 aa (slO_4 n v20) fun v22=>
 aa (app s3 ([v22])) fun v24=>
 some (.nx v24)) a0.Args.length 0 ([])) fun s3=>
 some (Tt.mk a0.Name s3)
def slO_7(a0:Tt):Option Tt:=lim fun n=>slO_4 n a0

def slP_7(a0:Sb)(a1:ByteArray)(a2:Tt):Option Sb:=
 bif decide (a2.Name=a1) then
 some a0
 else
 thenL (ρ:=Sb) (σ:=Unit) (forN (fun (i4:Nat) (s4:Unit)=>
 aa (idx a0.Bindings (i4:Int)) fun v23=>
 bif Op.bytesLess v23.Var.data.toList a1.data.toList then
 some (.nx ())
 else
 aa (slc a0.Bindings (0:Int) (i4:Int)) fun v35=>
 aa (app ([]) v35) fun v36=>
 aa (slO_7 a2) fun v40=>
 aa (app v36 ([(Bt.mk a1 v40)])) fun v43=>
 aa (slc a0.Bindings (i4:Int) (a0.Bindings.length:Int)) fun v48=>
 aa (app v43 v48) fun v49=>
 some (.rt (Sb.mk v49))) a0.Bindings.length 0 ()) fun s4=>
 aa (slc a0.Bindings (0:Int) ((a0.Bindings.length:Nat):Int)) fun v35=>
 aa (app ([]) v35) fun v36=>
 aa (slO_7 a2) fun v40=>
 aa (app v36 ([(Bt.mk a1 v40)])) fun v43=>
 aa (slc a0.Bindings ((a0.Bindings.length:Nat):Int) (a0.Bindings.length:Int)) fun v48=>
 aa (app v43 v48) fun v49=>
 some (Sb.mk v49)

def slF_4(a0:Sb)(a1:ByteArray):Option Int:=
 thenL (ρ:=Int) (σ:=Unit) (forN (fun (i2:Nat) (s2:Unit)=>
 aa (idx a0.Bindings (i2:Int)) fun v16=>
 bif decide (v16.Var=a1) then
 some (.rt (i2:Int))
 else
 some (.nx ())) a0.Bindings.length 0 ()) fun s2=>
 some (-1:Int)

def slA_:Nat→Sb→Tt→Option Tt
 | 0,_,_=>none
 | n+1,a0,a1=>
 aa (slV_2 a1.Name) fun v10=>
 bif v10 then
 aa (slF_4 a0 a1.Name) fun v14=>
 bif decide (0≤v14) then
 aa (idx a0.Bindings v14) fun v20=>
 aa (slO_7 v20.Term) fun v23=>
 some v23
 else
 some (Tt.mk a1.Name ([]))
 else
 thenL (ρ:=Tt) (σ:=(List Tt)) (forN (fun (i8:Nat) (s8:(List Tt))=>
 aa (idx a1.Args (i8:Int)) fun v43=>
 aa (slA_ n a0 v43) fun v45=>
 aa (app s8 ([v45])) fun v47=>
 some (.nx v47)) a1.Args.length 0 ([])) fun s8=>
 some (Tt.mk a1.Name s8)
def slA_2(a0:Sb)(a1:Tt):Option Tt:=lim fun n=>slA_ n a0 a1

def slI_1:Nat→(List ByteArray)→Ft→(List ByteArray)→Option (List ByteArray)
 | 0,_,_,_=>none
 | n+1,a0,a1,a2=>
 bif decide (a1.Op=3) then
 aa (slV_ a1.Atom) fun v15=>
 thenL (ρ:=(List ByteArray)) (σ:=(List ByteArray)) (forN (fun (i4:Nat) (s4:(List ByteArray))=>
 aa (idx v15 (i4:Int)) fun v25=>
 aa (slI_2 a2 v25) fun v27=>
 bif v27 then
 some (.nx s4)
 else
 aa (idx v15 (i4:Int)) fun v32=>
 aa (slP_5 s4 v32) fun v34=>
 some (.nx v34)) v15.length 0 a0) fun s4=>
 bif decide (a1.Op=8) then
 aa (app ([]) a2) fun v45=>
 aa (app v45 ([a1.Var])) fun v49=>
 thenL (ρ:=(List ByteArray)) (σ:=(List ByteArray)) (forN (fun (i11:Nat) (s11:(List ByteArray))=>
 aa (idx a1.Parts (i11:Int)) fun v61=>
 aa (slI_1 n s11 v61 v49) fun v64=>
 some (.nx v64)) a1.Parts.length 0 s4) fun s11=>
 some s11
 else
 bif decide (a1.Op=9) then
 aa (app ([]) a2) fun v45=>
 aa (app v45 ([a1.Var])) fun v49=>
 thenL (ρ:=(List ByteArray)) (σ:=(List ByteArray)) (forN (fun (i11:Nat) (s11:(List ByteArray))=>
 aa (idx a1.Parts (i11:Int)) fun v61=>
 aa (slI_1 n s11 v61 v49) fun v64=>
 some (.nx v64)) a1.Parts.length 0 s4) fun s11=>
 some s11
 else
 thenL (ρ:=(List ByteArray)) (σ:=(List ByteArray)) (forN (fun (i11:Nat) (s11:(List ByteArray))=>
 aa (idx a1.Parts (i11:Int)) fun v61=>
 aa (slI_1 n s11 v61 a2) fun v64=>
 some (.nx v64)) a1.Parts.length 0 s4) fun s11=>
 some s11
 else
 bif decide (a1.Op=8) then
 aa (app ([]) a2) fun v45=>
 aa (app v45 ([a1.Var])) fun v49=>
 thenL (ρ:=(List ByteArray)) (σ:=(List ByteArray)) (forN (fun (i11:Nat) (s11:(List ByteArray))=>
 aa (idx a1.Parts (i11:Int)) fun v61=>
 aa (slI_1 n s11 v61 v49) fun v64=>
 some (.nx v64)) a1.Parts.length 0 a0) fun s11=>
 some s11
 else
 bif decide (a1.Op=9) then
 aa (app ([]) a2) fun v45=>
 aa (app v45 ([a1.Var])) fun v49=>
 thenL (ρ:=(List ByteArray)) (σ:=(List ByteArray)) (forN (fun (i11:Nat) (s11:(List ByteArray))=>
 aa (idx a1.Parts (i11:Int)) fun v61=>
 aa (slI_1 n s11 v61 v49) fun v64=>
 some (.nx v64)) a1.Parts.length 0 a0) fun s11=>
 some s11
 else
 thenL (ρ:=(List ByteArray)) (σ:=(List ByteArray)) (forN (fun (i11:Nat) (s11:(List ByteArray))=>
 aa (idx a1.Parts (i11:Int)) fun v61=>
 aa (slI_1 n s11 v61 a2) fun v64=>
 some (.nx v64)) a1.Parts.length 0 a0) fun s11=>
 some s11
def slI_6(a0:List ByteArray)(a1:Ft)(a2:List ByteArray):Option (List ByteArray):=lim fun n=>slI_1 n a0 a1 a2

def slF_1(a0:Ft):Option (List ByteArray):=
 aa (slI_6 ([]) a0 ([])) fun v6=>
 some v6

def slO_3:Nat→Ft→Option Ft
 | 0,_=>none
 | n+1,a0=>
 aa (slO_7 a0.Atom) fun v9=>
 thenL (ρ:=Ft) (σ:=(List Ft)) (forN (fun (i3:Nat) (s3:(List Ft))=>
 aa (idx a0.Parts (i3:Int)) fun v25=>
 aa (slO_3 n v25) fun v27=>
 aa (app s3 ([v27])) fun v29=>
 some (.nx v29)) a0.Parts.length 0 ([])) fun s3=>
 some (Ft.mk a0.Op v9 a0.Var s3)
def slO_1(a0:Ft):Option Ft:=lim fun n=>slO_3 n a0

def slP_:Nat→Ft→ByteArray→Tt→Option (Ft×Bool)
 | 0,_,_,_=>none
 | n+1,a0,a1,a2=>
 bif decide (a0.Op=3) then
 aa (slP_7 (Sb.mk ([])) a1 a2) fun v23=>
 aa (slA_2 v23 a0.Atom) fun v26=>
 aa (slA_1 v26) fun v31=>
 some ((Ft.mk a0.Op v26 a0.Var ([])),v31)
 else
 bif decide (a0.Op=8) then
 bif decide (a0.Var=a1) then
 aa (slO_1 a0) fun v55=>
 some (v55,true)
 else
 aa (idx a0.Parts 0) fun v47=>
 aa (slF_1 v47) fun v49=>
 aa (slI_2 v49 a1) fun v51=>
 bif v51 then
 aa (slV_ a2) fun v57=>
 aa (slI_2 v57 a0.Var) fun v60=>
 bif v60 then
 some ((Ft.mk a0.Op (Tt.mk ⟨#[]⟩ ([])) a0.Var ([])),false)
 else
 thenL (ρ:=(Ft×Bool)) (σ:=(List Ft)) (forN (fun (i11:Nat) (s11:(List Ft))=>
 aa (idx a0.Parts (i11:Int)) fun v73=>
 aa (slP_ n v73 a1 a2) fun v77=>
 bif v77.2 then
 aa (app s11 ([v77.1])) fun v87=>
 some (.nx v87)
 else
 some (.rt ((Ft.mk a0.Op (Tt.mk ⟨#[]⟩ ([])) a0.Var s11),false))) a0.Parts.length 0 ([])) fun s11=>
 some ((Ft.mk a0.Op (Tt.mk ⟨#[]⟩ ([])) a0.Var s11),true)
 else
 aa (slO_1 a0) fun v55=>
 some (v55,true)
 else
 bif decide (a0.Op=9) then
 bif decide (a0.Var=a1) then
 aa (slO_1 a0) fun v55=>
 some (v55,true)
 else
 aa (idx a0.Parts 0) fun v47=>
 aa (slF_1 v47) fun v49=>
 aa (slI_2 v49 a1) fun v51=>
 bif v51 then
 aa (slV_ a2) fun v57=>
 aa (slI_2 v57 a0.Var) fun v60=>
 bif v60 then
 some ((Ft.mk a0.Op (Tt.mk ⟨#[]⟩ ([])) a0.Var ([])),false)
 else
 thenL (ρ:=(Ft×Bool)) (σ:=(List Ft)) (forN (fun (i11:Nat) (s11:(List Ft))=>
 aa (idx a0.Parts (i11:Int)) fun v73=>
 aa (slP_ n v73 a1 a2) fun v77=>
 bif v77.2 then
 aa (app s11 ([v77.1])) fun v87=>
 some (.nx v87)
 else
 some (.rt ((Ft.mk a0.Op (Tt.mk ⟨#[]⟩ ([])) a0.Var s11),false))) a0.Parts.length 0 ([])) fun s11=>
 some ((Ft.mk a0.Op (Tt.mk ⟨#[]⟩ ([])) a0.Var s11),true)
 else
 aa (slO_1 a0) fun v55=>
 some (v55,true)
 else
 thenL (ρ:=(Ft×Bool)) (σ:=(List Ft)) (forN (fun (i11:Nat) (s11:(List Ft))=>
 aa (idx a0.Parts (i11:Int)) fun v73=>
 aa (slP_ n v73 a1 a2) fun v77=>
 bif v77.2 then
 aa (app s11 ([v77.1])) fun v87=>
 some (.nx v87)
 else
 some (.rt ((Ft.mk a0.Op (Tt.mk ⟨#[]⟩ ([])) a0.Var s11),false))) a0.Parts.length 0 ([])) fun s11=>
 some ((Ft.mk a0.Op (Tt.mk ⟨#[]⟩ ([])) a0.Var s11),true)
def slP_4(a0:Ft)(a1:ByteArray)(a2:Tt):Option (Ft×Bool):=lim fun n=>slP_ n a0 a1 a2

def slJ_(a0:List Ft)(a1:Int)(a2:Int):Option Ft:=
 bif decide ((a0.length:Int)=0) then
 some (Ft.mk a2 (Tt.mk ⟨#[]⟩ ([])) (⟨#[]⟩:ByteArray) ([]))
 else
 aa (idx a0 (IntKind.i64.wrap ((a0.length:Int)-1))) fun v18=>
 aa (slO_1 v18) fun v20=>
 thenL (ρ:=Ft) (σ:=Int×ByteArray×(List Tt)×ByteArray×(List Ft)×Int) (lim fun n5=>whileN (fun (s5:Int×ByteArray×(List Tt)×ByteArray×(List Ft)×Int)=>
 bif decide (0≤s5.2.2.2.2.2) then
 aa (idx a0 s5.2.2.2.2.2) fun v31=>
 aa (slO_1 v31) fun v33=>
 some (.nx (a1,(⟨#[]⟩:ByteArray),[],(⟨#[]⟩:ByteArray),[v33,(Ft.mk s5.1 (Tt.mk s5.2.1 s5.2.2.1) s5.2.2.2.1 s5.2.2.2.2.1)],IntKind.i64.wrap (s5.2.2.2.2.2-1)))
 else
 some (.br s5)) n5 (v20.Op,v20.Atom.Name,v20.Atom.Args,v20.Var,v20.Parts,IntKind.i64.wrap ((a0.length:Int)-2))) fun s5=>
 some (Ft.mk s5.1 (Tt.mk s5.2.1 s5.2.2.1) s5.2.2.2.1 s5.2.2.2.2.1)

def slB_(a0:Ft)(a1:Dt):Option (Ft×Bool):=
 aa (slG_ a0) fun v11=>
 bif v11 then
 bif decide (a0.Op=8) then
 aa (idx a0.Parts 0) fun v21=>
 aa (slP_9 v21) fun v23=>
 bif v23 then
 bif decide (a0.Var=(⟨#[65]⟩:ByteArray)) then
 some ((Ft.mk 0 (Tt.mk ⟨#[]⟩ ([])) (⟨#[]⟩:ByteArray) ([])),false)
 else
 aa (slO_6 a0) fun v33=>
 bif v33 then
 some ((Ft.mk 0 (Tt.mk ⟨#[]⟩ ([])) (⟨#[]⟩:ByteArray) ([])),false)
 else
 aa (slG_5 a1) fun v37=>
 bif v37 then
 thenL (ρ:=(Ft×Bool)) (σ:=(List Ft)) (forN (fun (i5:Nat) (s5:(List Ft))=>
 aa (idx a0.Parts 0) fun v52=>
 aa (idx a1.Patterns (i5:Int)) fun v59=>
 aa (slP_4 v52 a0.Var v59) fun v61=>
 bif v61.2 then
 aa (app s5 ([v61.1])) fun v70=>
 some (.nx v70)
 else
 some (.rt ((Ft.mk 0 (Tt.mk ⟨#[]⟩ ([])) (⟨#[]⟩:ByteArray) ([])),false))) a1.Patterns.length 0 ([])) fun s5=>
 aa (slJ_ s5 5 1) fun v72=>
 some (v72,true)
 else
 some ((Ft.mk 0 (Tt.mk ⟨#[]⟩ ([])) (⟨#[]⟩:ByteArray) ([])),false)
 else
 some ((Ft.mk 0 (Tt.mk ⟨#[]⟩ ([])) (⟨#[]⟩:ByteArray) ([])),false)
 else
 some ((Ft.mk 0 (Tt.mk ⟨#[]⟩ ([])) (⟨#[]⟩:ByteArray) ([])),false)
 else
 some ((Ft.mk 0 (Tt.mk ⟨#[]⟩ ([])) (⟨#[]⟩:ByteArray) ([])),false)

def sLO_(a0:Ft)(a1:Dt):Option (Ft×Bool):=
 aa (slB_ a0 a1) fun v12=>
 bif v12.2 then
 aa (slG_ (Ft.mk 8 (Tt.mk ⟨#[]⟩ ([])) (⟨#[65]⟩:ByteArray) ([v12.1]))) fun v22=>
 bif v22 then
 some ((Ft.mk 8 (Tt.mk ⟨#[]⟩ ([])) (⟨#[65]⟩:ByteArray) ([v12.1])),true)
 else
 some ((Ft.mk 0 (Tt.mk ⟨#[]⟩ ([])) (⟨#[]⟩:ByteArray) ([])),false)
 else
 some ((Ft.mk 0 (Tt.mk ⟨#[]⟩ ([])) (⟨#[]⟩:ByteArray) ([])),false)

def sLI_(a0:Ft)(a1:Dt):Option ((List Ft)×Bool):=
 aa (sLO_ a0 a1) fun v15=>
 bif v15.2 then
 thenL (ρ:=((List Ft)×Bool)) (σ:=(List Ft)) (forN (fun (i6:Nat) (s6:(List Ft))=>
 aa (idx v15.1.Parts 0) fun v32=>
 aa (idx a1.Instances (i6:Int)) fun v37=>
 aa (slP_4 v32 (⟨#[65]⟩:ByteArray) v37) fun v39=>
 bif v39.2 then
 aa (slG_ v39.1) fun v46=>
 bif v46 then
 aa (slO_1 v39.1) fun v52=>
 aa (app s6 ([v52])) fun v54=>
 some (.nx v54)
 else
 some (.rt ([],false))
 else
 some (.rt ([],false))) a1.Instances.length 0 ([])) fun s6=>
 some (s6,true)
 else
 some ([],false)

def vAt(a0:List Int)(a1:Int):Option Int:=
 bif decide (a1<(a0.length:Int)) then
 aa (idx a0 a1) fun v11=>
 some (IntKind.i64.wrap v11)
 else
 aa (rem (IntKind.i64.wrap ((IntKind.i64.wrap (a1*7))+(a0.length:Int))) (256:Int)) fun v19=>
 some v19

def vEg_(a0:vt)(a1:ByteArray):Option Int:=
 thenL (ρ:=Int) (σ:=Int) (lim fun n2=>whileN (fun (s2:Int)=>
 bif decide (0≤s2) then
 aa (idx a0.names s2) fun v17=>
 bif decide (v17=a1) then
 aa (idx a0.values s2) fun v24=>
 some (.rt v24)
 else
 some (.nx (IntKind.i64.wrap (s2-1)))
 else
 some (.br s2)) n2 (IntKind.i64.wrap ((a0.names.length:Int)-1))) fun s2=>
 some (0:Int)

def vMix(a0:List Int)(a1:ByteArray)(a2:List Int):Option Int:=
 aa (bnd (a1.size:Int)) fun N3=>
 thenL (ρ:=Int) (σ:=Int) (forN (fun (i3:Nat) (s3:Int)=>
 aa (sidx a1 (i3:Int)) fun v20=>
 aa (rem (IntKind.i64.wrap ((IntKind.i64.wrap ((31:Int)*s3))+(IntKind.i64.wrap v20))) (65521:Int)) fun v23=>
 some (.nx v23)) N3 0 (17:Int)) fun s3=>
 thenL (ρ:=Int) (σ:=Int) (forN (fun (i7:Nat) (s7:Int)=>
 aa (idx a2 (i7:Int)) fun v34=>
 aa (rem (IntKind.i64.wrap ((IntKind.i64.wrap ((IntKind.i64.wrap ((37:Int)*s7))+v34))+1)) (65521:Int)) fun v38=>
 some (.nx v38)) a2.length 0 s3) fun s7=>
 aa (rem s7 (53:Int)) fun v42=>
 aa (vAt a0 v42) fun v43=>
 aa (rem s7 (89:Int)) fun v48=>
 aa (vAt a0 v48) fun v49=>
 aa (quo (IntKind.i64.wrap ((IntKind.i64.wrap (s7+(IntKind.i64.wrap ((13:Int)*v43))))+v49)) (3:Int)) fun v51=>
 some v51

def vVN_:Nat→(List Int)→Int→vt→Tt→Option Int
 | 0,_,_,_,_=>none
 | n+1,a0,a1,a2,a3=>
 bif decide ((a3.Args.length:Int)=0) then
 bif decide (0<(a3.Name.size:Int)) then
 aa (sidx a3.Name (0:Int)) fun v24=>
 bif decide (65≤v24) then
 aa (sidx a3.Name (0:Int)) fun v30=>
 bif decide (v30≤90) then
 aa (vEg_ a2 a3.Name) fun v36=>
 some v36
 else
 thenL (ρ:=Int) (σ:=(List Int)) (forN (fun (i5:Nat) (s5:(List Int))=>
 aa (idx a3.Args (i5:Int)) fun v52=>
 aa (vVN_ n a0 a1 a2 v52) fun v54=>
 aa (app s5 ([v54])) fun v56=>
 some (.nx v56)) a3.Args.length 0 ([])) fun s5=>
 aa (vMix a0 a3.Name s5) fun v61=>
 aa (rem v61 a1) fun v63=>
 some v63
 else
 thenL (ρ:=Int) (σ:=(List Int)) (forN (fun (i5:Nat) (s5:(List Int))=>
 aa (idx a3.Args (i5:Int)) fun v52=>
 aa (vVN_ n a0 a1 a2 v52) fun v54=>
 aa (app s5 ([v54])) fun v56=>
 some (.nx v56)) a3.Args.length 0 ([])) fun s5=>
 aa (vMix a0 a3.Name s5) fun v61=>
 aa (rem v61 a1) fun v63=>
 some v63
 else
 thenL (ρ:=Int) (σ:=(List Int)) (forN (fun (i5:Nat) (s5:(List Int))=>
 aa (idx a3.Args (i5:Int)) fun v52=>
 aa (vVN_ n a0 a1 a2 v52) fun v54=>
 aa (app s5 ([v54])) fun v56=>
 some (.nx v56)) a3.Args.length 0 ([])) fun s5=>
 aa (vMix a0 a3.Name s5) fun v61=>
 aa (rem v61 a1) fun v63=>
 some v63
 else
 thenL (ρ:=Int) (σ:=(List Int)) (forN (fun (i5:Nat) (s5:(List Int))=>
 aa (idx a3.Args (i5:Int)) fun v52=>
 aa (vVN_ n a0 a1 a2 v52) fun v54=>
 aa (app s5 ([v54])) fun v56=>
 some (.nx v56)) a3.Args.length 0 ([])) fun s5=>
 aa (vMix a0 a3.Name s5) fun v61=>
 aa (rem v61 a1) fun v63=>
 some v63
def vV_(a0:List Int)(a1:Int)(a2:vt)(a3:Tt):Option Int:=lim fun n=>vVN_ n a0 a1 a2 a3

def vH_(a0:List Int)(a1:Int)(a2:vt)(a3:Tt):Option Bool:=
 thenL (ρ:=Bool) (σ:=(List Int)) (forN (fun (i3:Nat) (s3:(List Int))=>
 aa (idx a3.Args (i3:Int)) fun v26=>
 aa (vV_ a0 a1 a2 v26) fun v28=>
 aa (app s3 ([v28])) fun v30=>
 some (.nx v30)) a3.Args.length 0 ([])) fun s3=>
 bif decide (a3.Name=(⟨#[61]⟩:ByteArray)) then
 bif decide ((s3.length:Int)=2) then
 aa (idx s3 0) fun v40=>
 aa (idx s3 0) fun v41=>
 aa (idx s3 1) fun v43=>
 aa (idx s3 1) fun v44=>
 some (decide (v41=v44))
 else
 aa (sapp (⟨#[126]⟩:ByteArray) a3.Name) fun v49=>
 aa (vMix a0 v49 s3) fun v51=>
 aa (rem v51 (2:Int)) fun v52=>
 some (decide (v52=1))
 else
 aa (sapp (⟨#[126]⟩:ByteArray) a3.Name) fun v49=>
 aa (vMix a0 v49 s3) fun v51=>
 aa (rem v51 (2:Int)) fun v52=>
 some (decide (v52=1))

def vEw_(a0:vt)(a1:ByteArray)(a2:Int):Option vt:=
 aa (app ([]) a0.names) fun v10=>
 aa (app v10 ([a1])) fun v13=>
 aa (app ([]) a0.values) fun v17=>
 aa (app v17 ([a2])) fun v20=>
 some (vt.mk v13 v20)

def vTN_:Nat→(List Int)→Int→vt→Ft→Option Bool
 | 0,_,_,_,_=>none
 | n+1,a0,a1,a2,a3=>
 bif decide (a3.Op=1) then
 some true
 else
 bif decide (a3.Op=2) then
 some false
 else
 bif decide (a3.Op=3) then
 aa (vH_ a0 a1 a2 a3.Atom) fun v23=>
 some v23
 else
 bif decide (a3.Op=4) then
 aa (idx a3.Parts 0) fun v31=>
 aa (vTN_ n a0 a1 a2 v31) fun v33=>
 some (!v33)
 else
 bif decide (a3.Op=5) then
 aa (idx a3.Parts 0) fun v42=>
 aa (vTN_ n a0 a1 a2 v42) fun v44=>
 bif v44 then
 aa (idx a3.Parts 1) fun v51=>
 aa (vTN_ n a0 a1 a2 v51) fun v53=>
 some v53
 else
 some false
 else
 bif decide (a3.Op=6) then
 aa (idx a3.Parts 0) fun v62=>
 aa (vTN_ n a0 a1 a2 v62) fun v64=>
 bif v64 then
 some true
 else
 aa (idx a3.Parts 1) fun v71=>
 aa (vTN_ n a0 a1 a2 v71) fun v73=>
 some v73
 else
 bif decide (a3.Op=7) then
 aa (idx a3.Parts 0) fun v82=>
 aa (vTN_ n a0 a1 a2 v82) fun v84=>
 bif v84 then
 aa (idx a3.Parts 1) fun v92=>
 aa (vTN_ n a0 a1 a2 v92) fun v94=>
 some v94
 else
 some true
 else
 aa (bnd (a1)) fun N17=>
 thenL (ρ:=Bool) (σ:=Unit) (forN (fun (i17:Nat) (s17:Unit)=>
 aa (vEw_ a2 a3.Var (i17:Int)) fun v107=>
 aa (idx a3.Parts 0) fun v110=>
 aa (vTN_ n a0 a1 v107 v110) fun v112=>
 bif v112==(decide (a3.Op=9)) then
 some (.rt (decide (a3.Op=9)))
 else
 some (.nx ())) N17 0 ()) fun s17=>
 some (decide (a3.Op=8))
def vT_(a0:List Int)(a1:Int)(a2:vt)(a3:Ft):Option Bool:=lim fun n=>vTN_ n a0 a1 a2 a3

def rS_1(a0:List Int)(a1:Sa):Option Bool:=
 thenL (ρ:=Bool) (σ:=Unit) (forN (fun (i2:Nat) (s2:Unit)=>
 aa (bnd (i2:Int)) fun N5=>
 thenL (ρ:=(Flow Bool Unit)) (σ:=Unit) (forN (fun (i5:Nat) (s5:Unit)=>
 aa (vAt a0 (i5:Int)) fun v25=>
 aa (rem v25 (i2:Int)) fun v27=>
 aa (vAt a0 (IntKind.i64.wrap ((i5:Int)+1))) fun v31=>
 aa (rem v31 (i2:Int)) fun v33=>
 aa (vAt a0 (IntKind.i64.wrap ((i5:Int)+2))) fun v37=>
 aa (rem v37 (i2:Int)) fun v39=>
 thenL (ρ:=(Flow (Flow Bool Unit) Unit)) (σ:=Bool) (forN (fun (i10:Nat) (s10:Bool)=>
 bif s10 then
 aa (idx a1.Left (i10:Int)) fun v57=>
 aa (vT_ a0 (i2:Int) (vt.mk ([(⟨#[88]⟩:ByteArray),(⟨#[89]⟩:ByteArray),(⟨#[90]⟩:ByteArray),(⟨#[85]⟩:ByteArray)]) ([(i5:Int),v27,v33,v39])) v57) fun v59=>
 some (.nx v59)
 else
 some (.nx false)) a1.Left.length 0 true) fun s10=>
 thenL (ρ:=(Flow (Flow Bool Unit) Unit)) (σ:=Bool) (forN (fun (i14:Nat) (s14:Bool)=>
 bif s14 then
 some (.nx true)
 else
 aa (idx a1.Right (i14:Int)) fun v76=>
 aa (vT_ a0 (i2:Int) (vt.mk ([(⟨#[88]⟩:ByteArray),(⟨#[89]⟩:ByteArray),(⟨#[90]⟩:ByteArray),(⟨#[85]⟩:ByteArray)]) ([(i5:Int),v27,v33,v39])) v76) fun v78=>
 some (.nx v78)) a1.Right.length 0 false) fun s14=>
 bif s10 then
 bif s14 then
 some (.nx ())
 else
 some (.rt (.rt false))
 else
 some (.nx ())) N5 0 ()) fun s5=>
 some (.nx ())) (4-1) 1 ()) fun s2=>
 some true

def sEF_(a0:List Tt)(a1:List Tt)(a2:Tt→Tt→Option Bool):Option Bool:=
 bif decide ((a0.length:Int)=(a1.length:Int)) then
 thenL (ρ:=Bool) (σ:=Unit) (forN (fun (i4:Nat) (s4:Unit)=>
 aa (idx a0 (i4:Int)) fun v20=>
 aa (idx a1 (i4:Int)) fun v24=>
 aa (a2 v20 v24) fun v29=>
 bif v29 then
 some (.nx ())
 else
 some (.rt false)) a0.length 0 ()) fun s4=>
 some true
 else
 some false

def iET_:Nat→Tt→Tt→Option Bool
 | 0,_,_=>none
 | n+1,a0,a1=>
 bif decide (a0.Name=a1.Name) then
 aa (sEF_ a0.Args a1.Args (fun y0 y1=>iET_ n y0 y1)) fun v15=>
 some v15
 else
 some false
def iET_1(a0:Tt)(a1:Tt):Option Bool:=lim fun n=>iET_ n a0 a1

def iaA_2(a0:Tt)(b0:Tt):Option Bool:=
 aa (iET_1 a0 b0) fun v6=>
 some v6

def iaA_1(a0:List Tt)(a1:Tt):Option (List Tt):=
 aa (sCF_1 a0 (fun y0=>iaA_2 y0 a1)) fun v7=>
 bif v7 then
 some a0
 else
 aa (icT_5 a1) fun v11=>
 aa (app a0 ([v11])) fun v13=>
 some v13

def irV_:Nat→Tt→(GMap Tt)→Option Tt
 | 0,_,_=>none
 | n+1,a0,a1=>
 bif GMap.has a1 a0.Name then
 bif decide ((a0.Args.length:Int)=0) then
 aa (icT_5 (GMap.get a1 a0.Name (Tt.mk ⟨#[]⟩ ([])))) fun v25=>
 some v25
 else
 thenL (ρ:=Tt) (σ:=(List Tt)) (forN (fun (i6:Nat) (s6:(List Tt))=>
 aa (idx a0.Args (i6:Int)) fun v34=>
 aa (irV_ n v34 a1) fun v40=>
 aa (app s6 ([v40])) fun v42=>
 some (.nx v42)) a0.Args.length 0 ([])) fun s6=>
 some (Tt.mk a0.Name s6)
 else
 thenL (ρ:=Tt) (σ:=(List Tt)) (forN (fun (i6:Nat) (s6:(List Tt))=>
 aa (idx a0.Args (i6:Int)) fun v34=>
 aa (irV_ n v34 a1) fun v40=>
 aa (app s6 ([v40])) fun v42=>
 some (.nx v42)) a0.Args.length 0 ([])) fun s6=>
 some (Tt.mk a0.Name s6)
def irV_1(a0:Tt)(a1:GMap Tt):Option Tt:=lim fun n=>irV_ n a0 a1

def if_(a0:Tt)(a1:Tt):Option Tt:=
 aa (irV_1 a0 (GMap.put (GMap.empty:GMap Tt) (⟨#[65]⟩:ByteArray) a1)) fun v9=>
 some v9

def cmpT(x y:Tt):Int:=(icT_2 x y).getD 0
structure SortOk(l:List Tt):Prop where
 len:l.length≤1073741824
 ex:∀ x∈l,∀ y∈l,icT_2 x y=some (cmpT x y)
 irr:∀ x∈l,¬ cmpT x x<0
 tr:∀ x∈l,∀ y∈l,∀ z∈l,cmpT x y<0→cmpT y z<0→cmpT x z<0
 ntr:∀ x∈l,∀ y∈l,∀ z∈l,¬ cmpT x y<0→¬ cmpT y z<0→¬ cmpT x z<0
 anti:∀ x∈l,∀ y∈l,¬ cmpT x y<0→¬ cmpT y x<0→x=y
def sT_1(l:List Tt):List Tt:=(l.attach.mergeSort fun x y=>!decide (cmpT y.1 x.1<0)).map (·.1)
def sSF_1(a0:List Tt):Option (Unit×List Tt):=@ite _ (SortOk a0) (Classical.propDecidable _) (some ((),sT_1 a0)) none

def il_(a0:Dt):Option ((List Tt)×Bool):=
 thenL (ρ:=((List Tt)×Bool)) (σ:=(List Tt)) (forN (fun (i3:Nat) (s3:(List Tt))=>
 aa (idx a0.Patterns (i3:Int)) fun v16=>
 aa (io_ (⟨#[65]⟩:ByteArray) v16) fun v19=>
 bif v19 then
 thenL (ρ:=(Flow ((List Tt)×Bool) (List Tt))) (σ:=(List Tt)) (forN (fun (i8:Nat) (s8:(List Tt))=>
 aa (idx a0.Instances (i8:Int)) fun v29=>
 aa (if_ v16 v29) fun v33=>
 aa (iIV_4 v33) fun v35=>
 bif v35 then
 aa (iaA_1 s8 v33) fun v39=>
 some (.nx v39)
 else
 some (.rt (.rt ([],false)))) a0.Instances.length 0 s3) fun s8=>
 some (.nx s8)
 else
 aa (iaA_1 s3 v16) fun v23=>
 some (.nx v23)) a0.Patterns.length 0 ([])) fun s3=>
 aa (sSF_1 s3) fun v43=>
 some (v43.2,true)

def iLO_1(a0:Dt):Option ((List Tt)×Bool):=
 aa (iIV_2 a0) fun v5=>
 bif v5 then
 aa (il_ a0) fun v8=>
 some (v8.1,v8.2)
 else
 some ([],false)

def sSF_(a0:Ft)(a1:ByteArray)(a2:Tt):Option (Ft×Bool):=
 aa (slG_ a0) fun v11=>
 bif v11 then
 aa (slV_2 a1) fun v15=>
 bif v15 then
 aa (slG_1 a2) fun v20=>
 bif v20 then
 aa (slP_4 a0 a1 a2) fun v28=>
 bif v28.2 then
 some (v28.1,true)
 else
 some ((Ft.mk 0 (Tt.mk ⟨#[]⟩ ([])) (⟨#[]⟩:ByteArray) ([])),false)
 else
 some ((Ft.mk 0 (Tt.mk ⟨#[]⟩ ([])) (⟨#[]⟩:ByteArray) ([])),false)
 else
 some ((Ft.mk 0 (Tt.mk ⟨#[]⟩ ([])) (⟨#[]⟩:ByteArray) ([])),false)
 else
 some ((Ft.mk 0 (Tt.mk ⟨#[]⟩ ([])) (⟨#[]⟩:ByteArray) ([])),false)

def FnLemmas(a0:List Int):Option Bool:=
 aa (vBig a0) fun v19=>
 bif v19 then
 some true
 else
 aa (sDL_ a0) fun v22=>
 aa (iLO_ v22.1 v22.2) fun v28=>
 aa (iLI_ v22.1 v22.2) fun v34=>
 aa (sLO_ v22.1 v22.2) fun v40=>
 aa (sLI_ v22.1 v22.2) fun v46=>
 bif v28.2==v40.2 then
 bif v34.2==v46.2 then
 bif v28.2 then
 bif v34.2 then
 aa (rS_1 a0 (Sa.mk ([v22.1]) ([v28.1]))) fun v69=>
 bif v69 then
 bif decide ((v34.1.length:Int)=(v22.2.Instances.length:Int)) then
 aa (iLO_1 v22.2) fun v81=>
 bif v81.2 then
 bif decide ((v34.1.length:Int)=0) then
 some true
 else
 thenL (ρ:=Bool) (σ:=Unit) (forN (fun (i18:Nat) (s18:Unit)=>
 aa (idx v22.1.Parts 0) fun v100=>
 aa (idx v81.1 (i18:Int)) fun v106=>
 aa (sSF_ v100 v22.1.Var v106) fun v108=>
 bif v108.2 then
 aa (rS_1 a0 (Sa.mk v34.1 ([v108.1]))) fun v118=>
 bif v118 then
 some (.nx ())
 else
 some (.rt false)
 else
 some (.nx ())) v81.1.length 0 ()) fun s18=>
 some true
 else
 some true
 else
 some false
 else
 some false
 else
 some true
 else
 some true
 else
 some false
 else
 some false

end
end Go.Proofs.YtckabmmondelpaaGreat
