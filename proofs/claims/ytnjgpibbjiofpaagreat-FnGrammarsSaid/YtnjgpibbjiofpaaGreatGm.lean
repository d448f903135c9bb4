/- Lemmas of the proof; each says what it shows. -/
import Derived.Test.YtnjgpibbjiofpaaGreatGty
set_option linter.unusedSimpArgs false
set_option linter.unusedVariables false
set_option linter.defProp false
set_option maxRecDepth 4000
namespace Go.Proofs.YtnjgpibbjiofpaaGreat
open Go.Av
open Option renaming bind→aa
noncomputable section
def vBig(a0:List Int):Option Bool:=
 some (decide (65536<(a0.length:Int)))

def spec_l1Cur__next(a0:lc):Option (Int×lc):=
 bif decide (a0.at_f<(a0.code.length:Int)) then
 aa (idx a0.code a0.at_f) fun v22=>
 bif decide ((IntKind.i64.wrap (a0.at_f+1))≤(a0.code.length:Int)) then
 some (IntKind.i64.wrap v22,(lc.mk a0.code (IntKind.i64.wrap (a0.at_f+1)) (IntKind.u64.wrap ((IntKind.u64.wrap ((IntKind.u64.wrap (a0.seed*6364136223846793005))+(IntKind.u64.wrap (IntKind.i64.wrap v22))))+892892))))
 else
 aa (shr .u64 (IntKind.u64.wrap ((IntKind.u64.wrap ((IntKind.u64.wrap (a0.seed*6364136223846793005))+(IntKind.u64.wrap (IntKind.i64.wrap v22))))+892892)) (40:Int)) fun v59=>
 some (IntKind.i64.wrap (bitand .u64 v59 (255:Int)),(lc.mk a0.code (IntKind.i64.wrap (a0.at_f+1)) (IntKind.u64.wrap ((IntKind.u64.wrap ((IntKind.u64.wrap (a0.seed*6364136223846793005))+(IntKind.u64.wrap (IntKind.i64.wrap v22))))+892892))))
 else
 bif decide ((IntKind.i64.wrap (a0.at_f+1))≤(a0.code.length:Int)) then
 some ((0:Int),(lc.mk a0.code (IntKind.i64.wrap (a0.at_f+1)) (IntKind.u64.wrap ((IntKind.u64.wrap ((IntKind.u64.wrap (a0.seed*6364136223846793005))+(IntKind.u64.wrap (0:Int))))+892892))))
 else
 aa (shr .u64 (IntKind.u64.wrap ((IntKind.u64.wrap ((IntKind.u64.wrap (a0.seed*6364136223846793005))+(IntKind.u64.wrap (0:Int))))+892892)) (40:Int)) fun v59=>
 some (IntKind.i64.wrap (bitand .u64 v59 (255:Int)),(lc.mk a0.code (IntKind.i64.wrap (a0.at_f+1)) (IntKind.u64.wrap ((IntKind.u64.wrap ((IntKind.u64.wrap (a0.seed*6364136223846793005))+(IntKind.u64.wrap (0:Int))))+892892))))

def spec_l1Cur__pick(a0:lc)(a1:Int):Option (Int×lc):=
 bif decide (a1≤1) then
 some ((0:Int),a0)
 else
 aa (spec_l1Cur__next a0) fun v9=>
 bif decide (200<a1) then
 aa (spec_l1Cur__next v9.2) fun v15=>
 aa (rem (IntKind.i64.wrap ((IntKind.i64.wrap (v9.1*256))+v15.1)) a1) fun v19=>
 some (v19,v15.2)
 else
 aa (rem v9.1 a1) fun v19=>
 some (v19,v9.2)

def spec_l1Cur__of(a0:lc)(a1:List ByteArray):Option (ByteArray×lc):=
 aa (spec_l1Cur__pick a0 (a1.length:Int)) fun v9=>
 aa (idx a1 v9.1) fun v10=>
 some (v10,v9.2)

def spec_l2Small(a0:Int):Option Bool:=
 bif decide (97≤a0) then
 bif decide (a0≤122) then
 some true
 else
 bif decide (48≤a0) then
 some (decide (a0≤57))
 else
 some false
 else
 bif decide (48≤a0) then
 some (decide (a0≤57))
 else
 some false

def spec_l3Word(a0:Int):Option Bool:=
 aa (spec_l2Small a0) fun v4=>
 bif v4 then
 some true
 else
 bif decide (65≤a0) then
 bif decide (a0≤90) then
 some true
 else
 some (decide (a0=95))
 else
 some (decide (a0=95))

def spec_l3ReadN:Nat→ByteArray→Int→Option (Tt×Int)
 | 0,_,_=>none
 | n+1,a0,a1=>
 thenL (ρ:=(Tt×Int)) (σ:=Int) (lim fun n2=>whileN (fun (s2:Int)=>
 bif decide (s2<(a0.size:Int)) then
 aa (sidx a0 s2) fun v18=>
 aa (spec_l3Word v18) fun v19=>
 bif v19 then
 some (.nx (IntKind.i64.wrap (s2+1)))
 else
 some (.br s2)
 else
 some (.br s2)) n2 a1) fun s2=>
 aa (sslc a0 a1 s2) fun v26=>
 bif decide (s2=a1) then
 some ((Tt.mk v26 ([])),(-1:Int))
 else
 bif decide (s2=(a0.size:Int)) then
 some ((Tt.mk v26 ([])),s2)
 else
 aa (sidx a0 s2) fun v39=>
 bif decide (v39=40) then
 thenL (ρ:=(Tt×Int)) (σ:=Int×(List Tt)) (lim fun n9=>whileN (fun (s9:Int×(List Tt))=>
 aa (spec_l3ReadN n a0 (IntKind.i64.wrap (s9.1+1))) fun v48=>
 bif decide (v48.2<0) then
 some (.rt ((Tt.mk v26 s9.2),(-1:Int)))
 else
 bif decide (v48.2=(a0.size:Int)) then
 some (.rt ((Tt.mk v26 s9.2),(-1:Int)))
 else
 aa (sidx a0 v48.2) fun v62=>
 bif decide (v62=44) then
 aa (app s9.2 ([v48.1])) fun v76=>
 aa (sidx a0 v48.2) fun v81=>
 bif decide (v81=41) then
 some (.rt ((Tt.mk v26 v76),IntKind.i64.wrap (v48.2+1)))
 else
 some (.nx (v48.2,v76))
 else
 aa (sidx a0 v48.2) fun v67=>
 bif decide (v67=41) then
 aa (app s9.2 ([v48.1])) fun v76=>
 aa (sidx a0 v48.2) fun v81=>
 bif decide (v81=41) then
 some (.rt ((Tt.mk v26 v76),IntKind.i64.wrap (v48.2+1)))
 else
 some (.nx (v48.2,v76))
 else
 some (.rt ((Tt.mk v26 s9.2),(-1:Int)))) n9 (s2,[])) fun s9=>
 none
 else
 some ((Tt.mk v26 ([])),s2)
def spec_l3Read(a0:ByteArray)(a1:Int):Option (Tt×Int):=lim fun n=>spec_l3ReadN n a0 a1

def spec_l2ManyN:Nat→Tt→Int→Option Int
 | 0,_,_=>none
 | n+1,a0,a1=>
 thenL (ρ:=Int) (σ:=Int) (forN (fun (i3:Nat) (s3:Int)=>
 bif decide (s3≤a1) then
 aa (idx a0.Args (i3:Int)) fun v23=>
 aa (spec_l2ManyN n v23 (IntKind.i64.wrap (a1-s3))) fun v28=>
 some (.nx (IntKind.i64.wrap (s3+v28)))
 else
 some (.rt s3)) a0.Args.length 0 (1:Int)) fun s3=>
 some s3
def spec_l2Many(a0:Tt)(a1:Int):Option Int:=lim fun n=>spec_l2ManyN n a0 a1

def spec_l1Most(a0:Int)(a1:Int):Option Int:=
 bif decide (a1<a0) then
 some a0
 else
 some a1

def spec_l2DepthN:Nat→Tt→Option Int
 | 0,_=>none
 | n+1,a0=>
 thenL (ρ:=Int) (σ:=Int) (forN (fun (i3:Nat) (s3:Int)=>
 aa (idx a0.Args (i3:Int)) fun v16=>
 aa (spec_l2DepthN n v16) fun v18=>
 aa (spec_l1Most s3 v18) fun v19=>
 some (.nx v19)) a0.Args.length 0 (0:Int)) fun s3=>
 some (IntKind.i64.wrap (s3+1))
def spec_l2Depth(a0:Tt):Option Int:=lim fun n=>spec_l2DepthN n a0

def spec_l2Fits(a0:Tt):Option Bool:=
 aa (spec_l2Many a0 30) fun v4=>
 bif decide (v4≤30) then
 aa (spec_l2Depth a0) fun v8=>
 some (decide (v8≤8))
 else
 some false

def spec_l1In(a0:Int)(a1:Int)(a2:Int):Option Bool:=
 bif decide (a1≤a0) then
 some (decide (a0≤a2))
 else
 some false

def spec_l2Var(a0:ByteArray):Option Bool:=
 aa (spec_l1In (a0.size:Int) 1 4) fun v6=>
 bif v6 then
 aa (sidx a0 (0:Int)) fun v10=>
 bif decide (v10<65) then
 some false
 else
 aa (sidx a0 (0:Int)) fun v15=>
 bif decide (90<v15) then
 some false
 else
 aa (bnd (a0.size:Int)) fun N4=>
 thenL (ρ:=Bool) (σ:=Unit) (forN (fun (i4:Nat) (s4:Unit)=>
 aa (sidx a0 (i4:Int)) fun v26=>
 aa (spec_l2Small v26) fun v27=>
 bif v27 then
 some (.nx ())
 else
 some (.rt false)) (N4-1) 1 ()) fun s4=>
 some true
 else
 some false

def spec_l2Symbol(a0:ByteArray):Option Bool:=
 aa (spec_l1In (a0.size:Int) 1 6) fun v6=>
 bif v6 then
 aa (sidx a0 (0:Int)) fun v10=>
 bif decide (v10<97) then
 some false
 else
 aa (sidx a0 (0:Int)) fun v15=>
 bif decide (122<v15) then
 some false
 else
 bif decide (a0=(⟨#[116,114,117,101]⟩:ByteArray)) then
 some false
 else
 bif decide (a0=(⟨#[102,97,108,115,101]⟩:ByteArray)) then
 some false
 else
 bif decide (a0=(⟨#[116,114,117,116,104]⟩:ByteArray)) then
 some false
 else
 bif decide (a0=(⟨#[98,111,116,104]⟩:ByteArray)) then
 some false
 else
 bif decide (a0=(⟨#[101,105,116,104,101,114]⟩:ByteArray)) then
 some false
 else
 bif decide (a0=(⟨#[105,102]⟩:ByteArray)) then
 some false
 else
 bif decide (a0=(⟨#[97,108,108]⟩:ByteArray)) then
 some false
 else
 bif decide (a0=(⟨#[115,111,109,101]⟩:ByteArray)) then
 some false
 else
 aa (bnd (a0.size:Int)) fun N14=>
 thenL (ρ:=Bool) (σ:=Unit) (forN (fun (i14:Nat) (s14:Unit)=>
 aa (sidx a0 (i14:Int)) fun v36=>
 aa (spec_l2Small v36) fun v37=>
 bif v37 then
 some (.nx ())
 else
 aa (sidx a0 (i14:Int)) fun v42=>
 bif decide (v42=95) then
 some (.nx ())
 else
 some (.rt false)) (N14-1) 1 ()) fun s14=>
 some true
 else
 some false

def spec_l2NodesN:Nat→Tt→Option Bool
 | 0,_=>none
 | n+1,a0=>
 aa (spec_l2Var a0.Name) fun v6=>
 bif v6 then
 some (decide ((a0.Args.length:Int)=0))
 else
 aa (spec_l2Symbol a0.Name) fun v13=>
 bif v13 then
 bif decide (4<(a0.Args.length:Int)) then
 some false
 else
 thenL (ρ:=Bool) (σ:=Unit) (forN (fun (i6:Nat) (s6:Unit)=>
 aa (idx a0.Args (i6:Int)) fun v31=>
 aa (spec_l2NodesN n v31) fun v33=>
 bif v33 then
 some (.nx ())
 else
 some (.rt false)) a0.Args.length 0 ()) fun s6=>
 some true
 else
 some false
def spec_l2Nodes(a0:Tt):Option Bool:=lim fun n=>spec_l2NodesN n a0

def spec_l2Good(a0:Tt):Option Bool:=
 aa (spec_l2Fits a0) fun v4=>
 bif v4 then
 aa (spec_l2Nodes a0) fun v7=>
 some v7
 else
 some false

def spec_l3Whole(a0:ByteArray):Option (Tt×Bool):=
 aa (spec_l3Read a0 0) fun v8=>
 bif decide (v8.2=(a0.size:Int)) then
 aa (spec_l2Good v8.1) fun v17=>
 bif v17 then
 some (v8.1,true)
 else
 some ((Tt.mk ⟨#[]⟩ ([])),false)
 else
 some ((Tt.mk ⟨#[]⟩ ([])),false)

def spec_ParseTerm(a0:ByteArray):Option (Tt×Bool):=
 bif decide (4000<(a0.size:Int)) then
 some ((Tt.mk ⟨#[]⟩ ([])),false)
 else
 aa (spec_l3Whole a0) fun v9=>
 some (v9.1,v9.2)

def spec_l22Text(a0:lc)(a1:List ByteArray):Option (Tt×lc):=
 aa (spec_l1Cur__of a0 a1) fun v10=>
 aa (spec_ParseTerm v10.1) fun v11=>
 some (v11.1,v10.2)

def spec_l2OwnN:Nat→Tt→Option Tt
 | 0,_=>none
 | n+1,a0=>
 thenL (ρ:=Tt) (σ:=(List Tt)) (forN (fun (i3:Nat) (s3:(List Tt))=>
 aa (idx a0.Args (i3:Int)) fun v20=>
 aa (spec_l2OwnN n v20) fun v22=>
 aa (app s3 ([v22])) fun v24=>
 some (.nx v24)) a0.Args.length 0 ([])) fun s3=>
 some (Tt.mk a0.Name s3)
def spec_l2Own(a0:Tt):Option Tt:=lim fun n=>spec_l2OwnN n a0

def spec_l4Put(a0:Sa)(a1:ByteArray)(a2:Tt):Option Sa:=
 bif decide (a2.Name=a1) then
 some a0
 else
 thenL (ρ:=Sa) (σ:=Unit) (forN (fun (i4:Nat) (s4:Unit)=>
 aa (idx a0.Bindings (i4:Int)) fun v23=>
 bif Op.bytesLess v23.Var.data.toList a1.data.toList then
 some (.nx ())
 else
 aa (slc a0.Bindings (0:Int) (i4:Int)) fun v35=>
 aa (app ([]) v35) fun v36=>
 aa (spec_l2Own a2) fun v40=>
 aa (app v36 ([(Bt.mk a1 v40)])) fun v43=>
 aa (slc a0.Bindings (i4:Int) (a0.Bindings.length:Int)) fun v48=>
 aa (app v43 v48) fun v49=>
 some (.rt (Sa.mk v49))) a0.Bindings.length 0 ()) fun s4=>
 aa (slc a0.Bindings (0:Int) ((a0.Bindings.length:Nat):Int)) fun v35=>
 aa (app ([]) v35) fun v36=>
 aa (spec_l2Own a2) fun v40=>
 aa (app v36 ([(Bt.mk a1 v40)])) fun v43=>
 aa (slc a0.Bindings ((a0.Bindings.length:Nat):Int) (a0.Bindings.length:Int)) fun v48=>
 aa (app v43 v48) fun v49=>
 some (Sa.mk v49)

def spec_l4Find(a0:Sa)(a1:ByteArray):Option Int:=
 thenL (ρ:=Int) (σ:=Unit) (forN (fun (i2:Nat) (s2:Unit)=>
 aa (idx a0.Bindings (i2:Int)) fun v16=>
 bif decide (v16.Var=a1) then
 some (.rt (i2:Int))
 else
 some (.nx ())) a0.Bindings.length 0 ()) fun s2=>
 some (-1:Int)

def spec_l4ApplyN:Nat→Sa→Tt→Option Tt
 | 0,_,_=>none
 | n+1,a0,a1=>
 aa (spec_l2Var a1.Name) fun v10=>
 bif v10 then
 aa (spec_l4Find a0 a1.Name) fun v14=>
 bif decide (0≤v14) then
 aa (idx a0.Bindings v14) fun v20=>
 aa (spec_l2Own v20.Term) fun v23=>
 some v23
 else
 some (Tt.mk a1.Name ([]))
 else
 thenL (ρ:=Tt) (σ:=(List Tt)) (forN (fun (i8:Nat) (s8:(List Tt))=>
 aa (idx a1.Args (i8:Int)) fun v43=>
 aa (spec_l4ApplyN n a0 v43) fun v45=>
 aa (app s8 ([v45])) fun v47=>
 some (.nx v47)) a1.Args.length 0 ([])) fun s8=>
 some (Tt.mk a1.Name s8)
def spec_l4Apply(a0:Sa)(a1:Tt):Option Tt:=lim fun n=>spec_l4ApplyN n a0 a1

def spec_l22Fill(a0:Tt)(a1:Tt):Option Tt:=
 aa (spec_l4Put (Sa.mk ([])) (⟨#[65]⟩:ByteArray) a1) fun v7=>
 aa (spec_l4Apply v7 a0) fun v9=>
 some v9

def spec_l2SameN:Nat→Tt→Tt→Option Bool
 | 0,_,_=>none
 | n+1,a0,a1=>
 bif decide (a0.Name=a1.Name) then
 bif decide ((a0.Args.length:Int)=(a1.Args.length:Int)) then
 thenL (ρ:=Bool) (σ:=Unit) (forN (fun (i4:Nat) (s4:Unit)=>
 aa (idx a0.Args (i4:Int)) fun v30=>
 aa (idx a1.Args (i4:Int)) fun v35=>
 aa (spec_l2SameN n v30 v35) fun v37=>
 bif v37 then
 some (.nx ())
 else
 some (.rt false)) a0.Args.length 0 ()) fun s4=>
 some true
 else
 some false
 else
 some false
def spec_l2Same(a0:Tt)(a1:Tt):Option Bool:=lim fun n=>spec_l2SameN n a0 a1

def spec_l16Index(a0:List Tt)(a1:Tt):Option Int:=
 thenL (ρ:=Int) (σ:=Unit) (forN (fun (i2:Nat) (s2:Unit)=>
 aa (idx a0 (i2:Int)) fun v14=>
 aa (spec_l2Same v14 a1) fun v17=>
 bif v17 then
 some (.rt (i2:Int))
 else
 some (.nx ())) a0.length 0 ()) fun s2=>
 some (-1:Int)

def spec_l1Cur__one(a0:lc)(a1:Int):Option (Bool×lc):=
 aa (spec_l1Cur__pick a0 a1) fun v7=>
 some (decide (v7.1=0),v7.2)

def spec_l1Cur__terms22(a0:lc):Option ((List Tt)×lc):=
 aa (spec_l1Cur__pick a0 3) fun v19=>
 thenL (ρ:=((List Tt)×lc)) (σ:=lc×(List Tt)×Int) (lim fun n6=>whileN (fun (s6:lc×(List Tt)×Int)=>
 bif decide (0<s6.2.2) then
 aa (spec_l22Text s6.1 ([(⟨#[102,40,65,41]⟩:ByteArray),(⟨#[103,40,65,44,97,41]⟩:ByteArray),(⟨#[65]⟩:ByteArray),(⟨#[103,40,65,44,65,41]⟩:ByteArray),(⟨#[102,40,102,40,65,41,41]⟩:ByteArray),(⟨#[103,40,98,44,102,40,65,41,41]⟩:ByteArray)])) fun v28=>
 aa (app s6.2.1 ([v28.1])) fun v30=>
 some (.nx (v28.2,v30,IntKind.i64.wrap (s6.2.2-1)))
 else
 some (.br s6)) n6 (v19.2,[],IntKind.i64.wrap ((1:Int)+v19.1))) fun s6=>
 aa (spec_l1Cur__pick s6.1 3) fun v33=>
 thenL (ρ:=((List Tt)×lc)) (σ:=lc×(List Tt)×Int) (lim fun n11=>whileN (fun (s11:lc×(List Tt)×Int)=>
 bif decide (0<s11.2.2) then
 aa (spec_l22Text s11.1 ([(⟨#[97]⟩:ByteArray),(⟨#[98]⟩:ByteArray),(⟨#[102,40,97,41]⟩:ByteArray),(⟨#[99]⟩:ByteArray),(⟨#[103,40,97,44,98,41]⟩:ByteArray)])) fun v42=>
 aa (app s11.2.1 ([v42.1])) fun v44=>
 some (.nx (v42.2,v44,IntKind.i64.wrap (s11.2.2-1)))
 else
 some (.br s11)) n11 (v33.2,[],IntKind.i64.wrap ((1:Int)+v33.1))) fun s11=>
 thenL (ρ:=((List Tt)×lc)) (σ:=lc×(List Tt)) (forN (fun (i15:Nat) (s15:lc×(List Tt))=>
 thenL (ρ:=(Flow ((List Tt)×lc) (lc×(List Tt)))) (σ:=lc×(List Tt)) (forN (fun (i18:Nat) (s18:lc×(List Tt))=>
 aa (idx s6.2.1 (i15:Int)) fun v59=>
 aa (idx s11.2.1 (i18:Int)) fun v63=>
 aa (spec_l22Fill v59 v63) fun v65=>
 aa (spec_l16Index s18.2 v65) fun v68=>
 bif decide (v68<0) then
 bif decide ((s18.2.length:Int)<6) then
 aa (spec_l1Cur__one s18.1 12) fun v77=>
 bif v77.1 then
 some (.nx (v77.2,s18.2))
 else
 aa (app s18.2 ([v65])) fun v83=>
 some (.nx (v77.2,v83))
 else
 some (.nx (s18.1,s18.2))
 else
 some (.nx (s18.1,s18.2))) s11.2.1.length 0 (s15.1,s15.2)) fun s18=>
 some (.nx (s18.1,s18.2))) s6.2.1.length 0 (s11.1,[])) fun s15=>
 aa (spec_l1Cur__one s15.1 3) fun v85=>
 bif v85.1 then
 aa (spec_l22Text v85.2 ([(⟨#[97]⟩:ByteArray),(⟨#[98]⟩:ByteArray),(⟨#[102,40,97,41]⟩:ByteArray),(⟨#[99]⟩:ByteArray),(⟨#[103,40,97,44,98,41]⟩:ByteArray)])) fun v88=>
 aa (spec_l16Index s15.2 v88.1) fun v91=>
 bif decide (v91<0) then
 bif decide ((s15.2.length:Int)<6) then
 aa (app s15.2 ([v88.1])) fun v101=>
 some (v101,v88.2)
 else
 some (s15.2,v88.2)
 else
 some (s15.2,v88.2)
 else
 some (s15.2,v85.2)

def spec_l1Cur__grownN:Nat→lc→Int→Option (Tt×lc)
 | 0,_,_=>none
 | n+1,a0,a1=>
 bif decide (a1≤1) then
 aa (spec_l1Cur__of a0 ([(⟨#[88]⟩:ByteArray),(⟨#[89]⟩:ByteArray),(⟨#[90]⟩:ByteArray),(⟨#[97]⟩:ByteArray),(⟨#[98]⟩:ByteArray),(⟨#[88]⟩:ByteArray),(⟨#[97]⟩:ByteArray)])) fun v13=>
 some ((Tt.mk v13.1 ([])),v13.2)
 else
 aa (spec_l1Cur__one a0 3) fun v9=>
 bif v9.1 then
 aa (spec_l1Cur__of v9.2 ([(⟨#[88]⟩:ByteArray),(⟨#[89]⟩:ByteArray),(⟨#[90]⟩:ByteArray),(⟨#[97]⟩:ByteArray),(⟨#[98]⟩:ByteArray),(⟨#[88]⟩:ByteArray),(⟨#[97]⟩:ByteArray)])) fun v13=>
 some ((Tt.mk v13.1 ([])),v13.2)
 else
 aa (spec_l1Cur__one v9.2 2) fun v16=>
 bif v16.1 then
 aa (spec_l1Cur__grownN n v16.2 (IntKind.i64.wrap (a1-1))) fun v20=>
 some ((Tt.mk (⟨#[102]⟩:ByteArray) ([v20.1])),v20.2)
 else
 aa (spec_l1Cur__grownN n v16.2 (IntKind.i64.wrap (a1-1))) fun v26=>
 aa (spec_l1Cur__grownN n v26.2 (IntKind.i64.wrap (a1-1))) fun v30=>
 some ((Tt.mk (⟨#[103]⟩:ByteArray) ([v26.1,v30.1])),v30.2)
def spec_l1Cur__grown(a0:lc)(a1:Int):Option (Tt×lc):=lim fun n=>spec_l1Cur__grownN n a0 a1

def spec_l1Cur__term(a0:lc):Option (Tt×lc):=
 aa (spec_l1Cur__pick a0 3) fun v5=>
 aa (spec_l1Cur__grown v5.2 (IntKind.i64.wrap ((1:Int)+v5.1))) fun v7=>
 some (v7.1,v7.2)

def spec_l1Cur__tower(a0:lc)(a1:Int):Option (Tt×lc):=
 aa (spec_l1Cur__of a0 ([(⟨#[88]⟩:ByteArray),(⟨#[97]⟩:ByteArray)])) fun v8=>
 thenL (ρ:=(Tt×lc)) (σ:=Int×ByteArray×(List Tt)) (lim fun n2=>whileN (fun (s2:Int×ByteArray×(List Tt))=>
 bif decide (1<s2.1) then
 some (.nx (IntKind.i64.wrap (s2.1-1),(⟨#[102]⟩:ByteArray),[(Tt.mk s2.2.1 s2.2.2)]))
 else
 some (.br s2)) n2 (a1,v8.1,[])) fun s2=>
 some ((Tt.mk s2.2.1 s2.2.2),v8.2)

def spec_l1Cur__wide(a0:lc):Option (Tt×lc):=
 thenL (ρ:=(Tt×lc)) (σ:=(List Tt)) (forN (fun (i3:Nat) (s3:(List Tt))=>
 thenL (ρ:=(Flow (Tt×lc) (List Tt))) (σ:=(List Tt)) (forN (fun (i7:Nat) (s7:(List Tt))=>
 aa (app s7 ([(Tt.mk (⟨#[102]⟩:ByteArray) ([(Tt.mk (⟨#[97]⟩:ByteArray) ([]))]))])) fun v23=>
 some (.nx v23)) 4 0 ([])) fun s7=>
 aa (app s3 ([(Tt.mk (⟨#[104]⟩:ByteArray) s7)])) fun v29=>
 some (.nx v29)) 4 0 ([])) fun s3=>
 aa (spec_l1Cur__one a0 2) fun v32=>
 bif v32.1 then
 aa (slc s3 (0:Int) (3:Int)) fun v35=>
 aa (spec_l1Cur__one v32.2 2) fun v38=>
 bif v38.1 then
 bif decide ((v35.length:Int)=3) then
 aa (app v35 ([(Tt.mk (⟨#[102]⟩:ByteArray) ([(Tt.mk (⟨#[98]⟩:ByteArray) ([]))]))])) fun v51=>
 some ((Tt.mk (⟨#[103]⟩:ByteArray) v51),v38.2)
 else
 some ((Tt.mk (⟨#[103]⟩:ByteArray) v35),v38.2)
 else
 some ((Tt.mk (⟨#[103]⟩:ByteArray) v35),v38.2)
 else
 aa (spec_l1Cur__one v32.2 2) fun v38=>
 bif v38.1 then
 bif decide ((s3.length:Int)=3) then
 aa (app s3 ([(Tt.mk (⟨#[102]⟩:ByteArray) ([(Tt.mk (⟨#[98]⟩:ByteArray) ([]))]))])) fun v51=>
 some ((Tt.mk (⟨#[103]⟩:ByteArray) v51),v38.2)
 else
 some ((Tt.mk (⟨#[103]⟩:ByteArray) s3),v38.2)
 else
 some ((Tt.mk (⟨#[103]⟩:ByteArray) s3),v38.2)

def spec_l1Cur__anyTerm(a0:lc):Option (Tt×lc):=
 aa (spec_l1Cur__term a0) fun v5=>
 aa (spec_l1Cur__pick v5.2 24) fun v7=>
 bif decide (v7.1=0) then
 aa (spec_l1Cur__of v7.2 ([(⟨#[]⟩:ByteArray),(⟨#[116,114,117,101]⟩:ByteArray),(⟨#[116,114,117,116,104]⟩:ByteArray),(⟨#[105,102]⟩:ByteArray),(⟨#[88,121,122,57]⟩:ByteArray),(⟨#[88,121,122,57,57]⟩:ByteArray),(⟨#[120,65]⟩:ByteArray),(⟨#[97,95,98]⟩:ByteArray),(⟨#[97,98,99,100,101,102]⟩:ByteArray),(⟨#[97,98,99,100,101,102,103]⟩:ByteArray),(⟨#[95,97]⟩:ByteArray),(⟨#[57]⟩:ByteArray),(⟨#[88,95]⟩:ByteArray),(⟨#[61]⟩:ByteArray)])) fun v12=>
 some ((Tt.mk v12.1 v5.1.Args),v12.2)
 else
 bif decide (v7.1=1) then
 aa (spec_l1Cur__pick v7.2 3) fun v18=>
 aa (spec_l1Cur__tower v18.2 (IntKind.i64.wrap ((7:Int)+v18.1))) fun v20=>
 some (v20.1,v20.2)
 else
 bif decide (v7.1=2) then
 aa (spec_l1Cur__wide v7.2) fun v24=>
 some (v24.1,v24.2)
 else
 bif decide (v7.1=3) then
 aa (spec_l1Cur__term v7.2) fun v30=>
 aa (spec_l1Cur__term v30.2) fun v32=>
 aa (spec_l1Cur__term v32.2) fun v34=>
 aa (app v5.1.Args ([v30.1,v32.1,v34.1])) fun v36=>
 some ((Tt.mk v5.1.Name v36),v34.2)
 else
 bif decide (v7.1=4) then
 bif decide (0<(v5.1.Args.length:Int)) then
 aa (spec_l1Cur__of v7.2 ([(⟨#[61]⟩:ByteArray),(⟨#[]⟩:ByteArray),(⟨#[81,49]⟩:ByteArray),(⟨#[98,50]⟩:ByteArray)])) fun v48=>
 aa (idx v5.1.Args 0) fun v53=>
 some ((Tt.mk v5.1.Name (v5.1.Args.set (0:Int).toNat (Tt.mk v48.1 v53.Args))),v48.2)
 else
 some (v5.1,v7.2)
 else
 some (v5.1,v7.2)

def spec_l1NumN:Nat→Int→Option ByteArray
 | 0,_=>none
 | n+1,a0=>
 bif decide (a0<0) then
 aa (spec_l1NumN n (IntKind.i64.wrap (0-a0))) fun v7=>
 aa (sapp (⟨#[45]⟩:ByteArray) v7) fun v8=>
 some v8
 else
 bif decide (a0<10) then
 aa (sslc (⟨#[48,49,50,51,52,53,54,55,56,57]⟩:ByteArray) a0 (IntKind.i64.wrap (a0+1))) fun v14=>
 some v14
 else
 aa (quo a0 (10:Int)) fun v16=>
 aa (spec_l1NumN n v16) fun v17=>
 aa (rem a0 (10:Int)) fun v19=>
 aa (rem a0 (10:Int)) fun v21=>
 aa (sslc (⟨#[48,49,50,51,52,53,54,55,56,57]⟩:ByteArray) v19 (IntKind.i64.wrap (v21+1))) fun v23=>
 aa (sapp v17 v23) fun v24=>
 some v24
def spec_l1Num(a0:Int):Option ByteArray:=lim fun n=>spec_l1NumN n a0

def spec_l1Cur__anyTerms22(a0:lc):Option ((List Tt)×lc):=
 aa (spec_l1Cur__terms22 a0) fun v5=>
 aa (spec_l1Cur__pick v5.2 24) fun v7=>
 bif decide (v7.1=0) then
 aa (spec_l1Cur__anyTerm v7.2) fun v12=>
 aa (app v5.1 ([v12.1])) fun v14=>
 some (v14,v12.2)
 else
 bif decide (v7.1=1) then
 aa (app v5.1 v5.1) fun v19=>
 some (v19,v7.2)
 else
 bif decide (v7.1=2) then
 some ([],v7.2)
 else
 bif decide (v7.1=3) then
 thenL (ρ:=((List Tt)×lc)) (σ:=(List Tt)) (lim fun n10=>whileN (fun (s10:(List Tt))=>
 bif decide ((s10.length:Int)<7) then
 aa (spec_l1Num (s10.length:Int)) fun v31=>
 aa (sapp (⟨#[110]⟩:ByteArray) v31) fun v32=>
 aa (app s10 ([(Tt.mk v32 ([]))])) fun v35=>
 some (.nx v35)
 else
 some (.br s10)) n10 v5.1) fun s10=>
 some (s10,v7.2)
 else
 some (v5.1,v7.2)

def spec_DrawGeneralizeTerms(a0:List Int):Option (List Tt):=
 aa (spec_l1Cur__anyTerms22 (lc.mk a0 0 0)) fun v8=>
 some v8.1

def spec_DrawSmallestDecomposition(a0:List Int):Option (List Tt):=
 aa (spec_DrawGeneralizeTerms a0) fun v4=>
 some v4

def impl_sizeN:Nat→Tt→Option Int
 | 0,_=>none
 | n+1,a0=>
 thenL (ρ:=Int) (σ:=Int) (forN (fun (i3:Nat) (s3:Int)=>
 aa (idx a0.Args (i3:Int)) fun v11=>
 bif decide (30<s3) then
 some (.rt s3)
 else
 aa (impl_sizeN n v11) fun v18=>
 some (.nx (IntKind.i64.wrap (s3+v18)))) a0.Args.length 0 (1:Int)) fun s3=>
 some s3
def impl_size(a0:Tt):Option Int:=lim fun n=>impl_sizeN n a0

def impl_depthN:Nat→Tt→Option Int
 | 0,_=>none
 | n+1,a0=>
 thenL (ρ:=Int) (σ:=Int) (forN (fun (i3:Nat) (s3:Int)=>
 aa (idx a0.Args (i3:Int)) fun v11=>
 aa (impl_depthN n v11) fun v15=>
 some (.nx (max s3 v15))) a0.Args.length 0 (0:Int)) fun s3=>
 some (IntKind.i64.wrap (s3+1))
def impl_depth(a0:Tt):Option Int:=lim fun n=>impl_depthN n a0

def impl_isSmall(a0:Tt):Option Bool:=
 aa (impl_size a0) fun v4=>
 bif decide (v4≤30) then
 aa (impl_depth a0) fun v8=>
 some (decide (v8≤8))
 else
 some false

def impl_isUpper(a0:Int):Option Bool:=
 bif decide (65≤a0) then
 some (decide (a0≤90))
 else
 some false

def impl_isLower(a0:Int):Option Bool:=
 bif decide (97≤a0) then
 some (decide (a0≤122))
 else
 some false

def impl_isDigit(a0:Int):Option Bool:=
 bif decide (48≤a0) then
 some (decide (a0≤57))
 else
 some false

def impl_within(a0:Int)(a1:Int)(a2:Int):Option Bool:=
 bif decide (a1≤a0) then
 some (decide (a0≤a2))
 else
 some false

def impl_isVariable(a0:ByteArray):Option Bool:=
 aa (bnd (a0.size:Int)) fun N2=>
 thenL (ρ:=Bool) (σ:=Unit) (forN (fun (i2:Nat) (s2:Unit)=>
 bif decide ((i2:Int)=0) then
 aa (sidx a0 (i2:Int)) fun v14=>
 aa (impl_isUpper v14) fun v15=>
 bif v15 then
 bif decide (0<(i2:Int)) then
 aa (sidx a0 (i2:Int)) fun v24=>
 aa (impl_isLower v24) fun v25=>
 bif v25 then
 some (.nx ())
 else
 aa (sidx a0 (i2:Int)) fun v31=>
 aa (impl_isDigit v31) fun v32=>
 bif v32 then
 some (.nx ())
 else
 some (.rt false)
 else
 some (.nx ())
 else
 some (.rt false)
 else
 bif decide (0<(i2:Int)) then
 aa (sidx a0 (i2:Int)) fun v24=>
 aa (impl_isLower v24) fun v25=>
 bif v25 then
 some (.nx ())
 else
 aa (sidx a0 (i2:Int)) fun v31=>
 aa (impl_isDigit v31) fun v32=>
 bif v32 then
 some (.nx ())
 else
 some (.rt false)
 else
 some (.nx ())) N2 0 ()) fun s2=>
 aa (impl_within (a0.size:Int) 1 4) fun v39=>
 some v39

def impl_reserved  :Option (List ByteArray):=
 some ([(⟨#[116,114,117,101]⟩:ByteArray),(⟨#[102,97,108,115,101]⟩:ByteArray),(⟨#[116,114,117,116,104]⟩:ByteArray),(⟨#[98,111,116,104]⟩:ByteArray),(⟨#[101,105,116,104,101,114]⟩:ByteArray),(⟨#[105,102]⟩:ByteArray),(⟨#[97,108,108]⟩:ByteArray),(⟨#[115,111,109,101]⟩:ByteArray)])

def slices_Index_Sstring_string(a0:List ByteArray)(a1:ByteArray):Option Int:=
 thenL (ρ:=Int) (σ:=Unit) (forN (fun (i2:Nat) (s2:Unit)=>
 aa (idx a0 (i2:Int)) fun v14=>
 bif decide (a1=v14) then
 some (.rt (i2:Int))
 else
 some (.nx ())) a0.length 0 ()) fun s2=>
 some (-1:Int)

def slices_Contains_Sstring_string(a0:List ByteArray)(a1:ByteArray):Option Bool:=
 aa (slices_Index_Sstring_string a0 a1) fun v7=>
 some (decide (0≤v7))

def impl_isSymbol(a0:ByteArray):Option Bool:=
 aa (bnd (a0.size:Int)) fun N2=>
 thenL (ρ:=Bool) (σ:=Unit) (forN (fun (i2:Nat) (s2:Unit)=>
 bif decide ((i2:Int)=0) then
 aa (sidx a0 (i2:Int)) fun v14=>
 aa (impl_isLower v14) fun v15=>
 bif v15 then
 aa (sidx a0 (i2:Int)) fun v21=>
 aa (impl_isLower v21) fun v22=>
 bif v22 then
 some (.nx ())
 else
 aa (sidx a0 (i2:Int)) fun v27=>
 aa (impl_isDigit v27) fun v28=>
 bif v28 then
 some (.nx ())
 else
 aa (sidx a0 (i2:Int)) fun v34=>
 bif decide (v34=95) then
 some (.nx ())
 else
 some (.rt false)
 else
 some (.rt false)
 else
 aa (sidx a0 (i2:Int)) fun v21=>
 aa (impl_isLower v21) fun v22=>
 bif v22 then
 some (.nx ())
 else
 aa (sidx a0 (i2:Int)) fun v27=>
 aa (impl_isDigit v27) fun v28=>
 bif v28 then
 some (.nx ())
 else
 aa (sidx a0 (i2:Int)) fun v34=>
 bif decide (v34=95) then
 some (.nx ())
 else
 some (.rt false)) N2 0 ()) fun s2=>
 aa (impl_within (a0.size:Int) 1 6) fun v41=>
 bif v41 then
 aa (impl_reserved ) fun v43=>
 aa (slices_Contains_Sstring_string v43 a0) fun v45=>
 some (!v45)
 else
 some false

def slices_IndexFunc_Simpl_Term_impl_Term(a0:List Tt)(a1:Tt→Option Bool):Option Int:=
 thenL (ρ:=Int) (σ:=Unit) (forN (fun (i2:Nat) (s2:Unit)=>
 aa (idx a0 (i2:Int)) fun v14=>
 aa (a1 v14) fun v16=>
 bif v16 then
 some (.rt (i2:Int))
 else
 some (.nx ())) a0.length 0 ()) fun s2=>
 some (-1:Int)

def slices_ContainsFunc_Simpl_Term_impl_Term(a0:List Tt)(a1:Tt→Option Bool):Option Bool:=
 aa (slices_IndexFunc_Simpl_Term_impl_Term a0 a1) fun v7=>
 some (decide (0≤v7))

mutual
def impl_hasNamesN:Nat→Tt→Option Bool
 | 0,_=>none
 | n+1,a0=>
 aa (impl_isVariable a0.Name) fun v5=>
 bif v5 then
 some (decide ((a0.Args.length:Int)=0))
 else
 aa (impl_isSymbol a0.Name) fun v12=>
 bif v12 then
 bif decide ((a0.Args.length:Int)≤4) then
 aa (slices_ContainsFunc_Simpl_Term_impl_Term a0.Args (fun y0=>impl_hasNames_1N n y0)) fun v22=>
 some (!v22)
 else
 some false
 else
 some false
def impl_hasNames_1N:Nat→Tt→Option Bool
 | 0,_=>none
 | n+1,a0=>
 aa (impl_hasNamesN n a0) fun v4=>
 some (!v4)
end
def impl_hasNames(a0:Tt):Option Bool:=lim fun n=>impl_hasNamesN n a0
def impl_hasNames_1(a0:Tt):Option Bool:=lim fun n=>impl_hasNames_1N n a0

def impl_IsValidTerm(a0:Tt):Option Bool:=
 aa (impl_isSmall a0) fun v4=>
 bif v4 then
 aa (impl_hasNames a0) fun v7=>
 some v7
 else
 some false

def impl_isVar(a0:Tt):Option Bool:=
 aa (sidx a0.Name (0:Int)) fun v5=>
 aa (impl_isUpper v5) fun v6=>
 some v6

def impl_collectN:Nat→(List ByteArray)→Tt→Option (List ByteArray)
 | 0,_,_=>none
 | n+1,a0,a1=>
 bif decide ((a1.Args.length:Int)=0) then
 aa (impl_isVar a1) fun v13=>
 bif v13 then
 aa (slices_Contains_Sstring_string a0 a1.Name) fun v18=>
 bif v18 then
 some a0
 else
 aa (app a0 ([a1.Name])) fun v24=>
 some v24
 else
 thenL (ρ:=(List ByteArray)) (σ:=(List ByteArray)) (forN (fun (i6:Nat) (s6:(List ByteArray))=>
 aa (idx a1.Args (i6:Int)) fun v31=>
 aa (impl_collectN n s6 v31) fun v35=>
 some (.nx v35)) a1.Args.length 0 a0) fun s6=>
 some s6
 else
 thenL (ρ:=(List ByteArray)) (σ:=(List ByteArray)) (forN (fun (i6:Nat) (s6:(List ByteArray))=>
 aa (idx a1.Args (i6:Int)) fun v31=>
 aa (impl_collectN n s6 v31) fun v35=>
 some (.nx v35)) a1.Args.length 0 a0) fun s6=>
 some s6
def impl_collect(a0:List ByteArray)(a1:Tt):Option (List ByteArray):=lim fun n=>impl_collectN n a0 a1

def impl_isGroundTerm(a0:Tt):Option Bool:=
 aa (impl_IsValidTerm a0) fun v4=>
 bif v4 then
 aa (impl_collect ([]) a0) fun v7=>
 some (decide ((v7.length:Int)=0))
 else
 some false

def slices_EqualFunc_Simpl_Term_Simpl_Term_impl_Term_impl_Term(a0:List Tt)(a1:List Tt)(a2:Tt→Tt→Option Bool):Option Bool:=
 bif decide ((a0.length:Int)=(a1.length:Int)) then
 thenL (ρ:=Bool) (σ:=Unit) (forN (fun (i4:Nat) (s4:Unit)=>
 aa (idx a0 (i4:Int)) fun v20=>
 aa (idx a1 (i4:Int)) fun v24=>
 aa (a2 v20 v24) fun v29=>
 bif v29 then
 some (.nx ())
 else
 some (.rt false)) a0.length 0 ()) fun s4=>
 some true
 else
 some false

def impl_EqualTermsN:Nat→Tt→Tt→Option Bool
 | 0,_,_=>none
 | n+1,a0,a1=>
 bif decide (a0.Name=a1.Name) then
 aa (slices_EqualFunc_Simpl_Term_Simpl_Term_impl_Term_impl_Term a0.Args a1.Args (fun y0 y1=>impl_EqualTermsN n y0 y1)) fun v15=>
 some v15
 else
 some false
def impl_EqualTerms(a0:Tt)(a1:Tt):Option Bool:=lim fun n=>impl_EqualTermsN n a0 a1

def impl_indexOfAtom_1(a0:Tt)(b0:Tt):Option Bool:=
 aa (impl_EqualTerms a0 b0) fun v6=>
 some v6

def impl_indexOfAtom(a0:List Tt)(a1:Tt):Option Int:=
 aa (slices_IndexFunc_Simpl_Term_impl_Term a0 (fun y0=>impl_indexOfAtom_1 y0 a1)) fun v7=>
 some v7

mutual
def impl_copyTermsN:Nat→(List Tt)→Option (List Tt)
 | 0,_=>none
 | n+1,a0=>
 bif decide ((a0.length:Int)=0) then
 some ([])
 else
 aa (mkn (a0.length:Int)) fun n11=>
 thenL (ρ:=(List Tt)) (σ:=(List Tt)) (forN (fun (i5:Nat) (s5:(List Tt))=>
 aa (idx a0 (i5:Int)) fun v17=>
 aa (impl_copyTermN n v17) fun v22=>
 aa (idx s5 (i5:Int)) fun v23=>
 aa (idx s5 (i5:Int)) fun w3=>
 some (.nx (s5.set (i5:Int).toNat v22))) a0.length 0 (List.replicate n11 (Tt.mk ⟨#[]⟩ ([])))) fun s5=>
 some s5
def impl_copyTermN:Nat→Tt→Option Tt
 | 0,_=>none
 | n+1,a0=>
 aa (impl_copyTermsN n a0.Args) fun v7=>
 some (Tt.mk a0.Name v7)
end
def impl_copyTerms(a0:List Tt):Option (List Tt):=lim fun n=>impl_copyTermsN n a0
def impl_copyTerm(a0:Tt):Option Tt:=lim fun n=>impl_copyTermN n a0

def impl_subset(a0:List Tt)(a1:Int):Option (List Tt):=
 thenL (ρ:=(List Tt)) (σ:=(List Tt)) (forN (fun (i3:Nat) (s3:(List Tt))=>
 aa (idx a0 (i3:Int)) fun v14=>
 aa (shr .i64 a1 (i3:Int)) fun v18=>
 bif decide ((bitand .i64 v18 (1:Int))=1) then
 aa (app s3 ([v14])) fun v24=>
 some (.nx v24)
 else
 some (.nx s3)) a0.length 0 ([])) fun s3=>
 some s3

def impl_generalization_1(a0:Tt)(b0:Tt):Option Bool:=
 aa (impl_EqualTerms a0 b0) fun v6=>
 some (!v6)

def impl_generalization_2(a0:Tt)(b0:Tt):Option Bool:=
 bif decide (a0.Name=b0.Name) then
 some (!(decide ((a0.Args.length:Int)=(b0.Args.length:Int))))
 else
 some true

def impl_generalizationN:Nat→(List Tt)→Option (Tt×(List Tt))
 | 0,_=>none
 | n+1,a0=>
 aa (idx a0 0) fun v15=>
 aa (slices_ContainsFunc_Simpl_Term_impl_Term a0 (fun y0=>impl_generalization_1 y0 v15)) fun v19=>
 bif v19 then
 aa (slices_ContainsFunc_Simpl_Term_impl_Term a0 (fun y0=>impl_generalization_2 y0 v15)) fun v26=>
 bif v26 then
 aa (impl_copyTerms a0) fun v29=>
 bif v29.isEmpty then none else some ((Tt.mk (⟨#[65]⟩:ByteArray) ([])),v29)
 else
 thenL (ρ:=(Tt×(List Tt))) (σ:=(List Tt)×(List Tt)) (forN (fun (i10:Nat) (s10:(List Tt)×(List Tt))=>
 thenL (ρ:=(Flow (Tt×(List Tt)) ((List Tt)×(List Tt)))) (σ:=(List Tt)) (forN (fun (i14:Nat) (s14:(List Tt))=>
 aa (idx a0 (i14:Int)) fun v44=>
 aa (idx v44.Args (i10:Int)) fun v50=>
 aa (app s14 ([v50])) fun v53=>
 some (.nx v53)) a0.length 0 ([])) fun s14=>
 aa (impl_generalizationN n s14) fun v57=>
 aa (app s10.1 ([v57.1])) fun v64=>
 bif v57.2.isEmpty then
 some (.nx (v64,s10.2))
 else
 bif s10.2.isEmpty then
 some (.nx (v64,v57.2))
 else
 aa (slices_EqualFunc_Simpl_Term_Simpl_Term_impl_Term_impl_Term s10.2 v57.2 (fun y0 y1=>impl_EqualTerms y0 y1)) fun v73=>
 bif v73 then
 some (.nx (v64,v57.2))
 else
 aa (impl_copyTerms a0) fun v78=>
 bif v78.isEmpty then none else some (.rt ((Tt.mk (⟨#[65]⟩:ByteArray) ([])),v78))) v15.Args.length 0 ([],[])) fun s10=>
 some ((Tt.mk v15.Name s10.1),s10.2)
 else
 aa (impl_copyTerm v15) fun v22=>
 some (v22,[])
def impl_generalization(a0:List Tt):Option (Tt×(List Tt)):=lim fun n=>impl_generalizationN n a0

def impl_addAtom_1(a0:Tt)(b0:Tt):Option Bool:=
 aa (impl_EqualTerms a0 b0) fun v6=>
 some v6

def impl_addAtom(a0:List Tt)(a1:Tt):Option (List Tt):=
 aa (slices_ContainsFunc_Simpl_Term_impl_Term a0 (fun y0=>impl_addAtom_1 y0 a1)) fun v7=>
 bif v7 then
 some a0
 else
 aa (impl_copyTerm a1) fun v11=>
 aa (app a0 ([v11])) fun v13=>
 some v13

def cmp_isNaN_string(a0:ByteArray):Option Bool:=
 some (!(decide (a0=a0)))

def cmp_Compare_string(a0:ByteArray)(a1:ByteArray):Option Int:=
 aa (cmp_isNaN_string a0) fun v8=>
 aa (cmp_isNaN_string a1) fun v10=>
 bif v8 then
 bif v10 then
 some (0:Int)
 else
 some (-1:Int)
 else
 bif v10 then
 some (1:Int)
 else
 bif Op.bytesLess a0.data.toList a1.data.toList then
 some (-1:Int)
 else
 bif decide (a0=a1) then
 some (0:Int)
 else
 some (1:Int)

def cmp_isNaN_int(a0:Int):Option Bool:=
 some (!(decide (a0=a0)))

def cmp_Compare_int(a0:Int)(a1:Int):Option Int:=
 aa (cmp_isNaN_int a0) fun v8=>
 aa (cmp_isNaN_int a1) fun v10=>
 bif v8 then
 bif v10 then
 some (0:Int)
 else
 some (-1:Int)
 else
 bif v10 then
 some (1:Int)
 else
 bif decide (a0<a1) then
 some (-1:Int)
 else
 bif decide (a1<a0) then
 some (1:Int)
 else
 some (0:Int)

def cmp_Or_int(a0:List Int):Option Int:=
 thenL (ρ:=Int) (σ:=Unit) (forN (fun (i3:Nat) (s3:Unit)=>
 aa (idx a0 (i3:Int)) fun v10=>
 bif decide (v10=0) then
 some (.nx ())
 else
 some (.rt v10)) a0.length 0 ()) fun s3=>
 some (0:Int)

def slices_CompareFunc_Simpl_Term_Simpl_Term_impl_Term_impl_Term(a0:List Tt)(a1:List Tt)(a2:Tt→Tt→Option Int):Option Int:=
 thenL (ρ:=Int) (σ:=Unit) (forN (fun (i2:Nat) (s2:Unit)=>
 aa (idx a0 (i2:Int)) fun v16=>
 bif decide ((a1.length:Int)≤(i2:Int)) then
 some (.rt (1:Int))
 else
 aa (idx a1 (i2:Int)) fun v24=>
 aa (a2 v16 v24) fun v29=>
 bif decide (v29=0) then
 some (.nx ())
 else
 some (.rt v29)) a0.length 0 ()) fun s2=>
 bif decide ((a0.length:Int)<(a1.length:Int)) then
 some (-1:Int)
 else
 some (0:Int)

def impl_compareTermsN:Nat→Tt→Tt→Option Int
 | 0,_,_=>none
 | n+1,a0,a1=>
 aa (impl_isVar a0) fun v9=>
 aa (impl_isVar a1) fun v11=>
 bif v9 then
 bif v11 then
 aa (cmp_Compare_string a0.Name a1.Name) fun v28=>
 aa (cmp_Compare_int (a0.Args.length:Int) (a1.Args.length:Int)) fun v35=>
 aa (cmp_Or_int ([v28,v35])) fun v37=>
 bif decide (v37=0) then
 aa (slices_CompareFunc_Simpl_Term_Simpl_Term_impl_Term_impl_Term a0.Args a1.Args (fun y0 y1=>impl_compareTermsN n y0 y1)) fun v45=>
 some v45
 else
 some v37
 else
 some (-1:Int)
 else
 bif v11 then
 some (1:Int)
 else
 aa (cmp_Compare_string a0.Name a1.Name) fun v28=>
 aa (cmp_Compare_int (a0.Args.length:Int) (a1.Args.length:Int)) fun v35=>
 aa (cmp_Or_int ([v28,v35])) fun v37=>
 bif decide (v37=0) then
 aa (slices_CompareFunc_Simpl_Term_Simpl_Term_impl_Term_impl_Term a0.Args a1.Args (fun y0 y1=>impl_compareTermsN n y0 y1)) fun v45=>
 some v45
 else
 some v37
def impl_compareTerms(a0:Tt)(a1:Tt):Option Int:=lim fun n=>impl_compareTermsN n a0 a1

def cmpT(x y:Tt):Int:=(impl_compareTerms x y).getD 0
structure SortOk(l:List Tt):Prop where
 len:l.length≤1073741824
 ex:∀ x∈l,∀ y∈l,impl_compareTerms x y=some (cmpT x y)
 irr:∀ x∈l,¬ cmpT x x<0
 tr:∀ x∈l,∀ y∈l,∀ z∈l,cmpT x y<0→cmpT y z<0→cmpT x z<0
 ntr:∀ x∈l,∀ y∈l,∀ z∈l,¬ cmpT x y<0→¬ cmpT y z<0→¬ cmpT x z<0
 anti:∀ x∈l,∀ y∈l,¬ cmpT x y<0→¬ cmpT y x<0→x=y
def sortTs(l:List Tt):List Tt:=(l.attach.mergeSort fun x y=>!decide (cmpT y.1 x.1<0)).map (·.1)
def slices_SortFuncT(a0:List Tt):Option (Unit×List Tt):=@ite _ (SortOk a0) (Classical.propDecidable _) (some ((),sortTs a0)) none

def impl_groups(a0:List Tt):Option (List gc):=
 aa (shl .i64 (1:Int) (a0.length:Int)) fun v14=>
 aa (bnd (v14)) fun N3=>
 thenL (ρ:=(List gc)) (σ:=(List gc)) (forN (fun (i3:Nat) (s3:(List gc))=>
 aa (impl_subset a0 (i3:Int)) fun v20=>
 bif decide ((v20.length:Int)<2) then
 some (.nx s3)
 else
 aa (impl_generalization v20) fun v26=>
 thenL (ρ:=(Flow (List gc) (List gc))) (σ:=(List Tt)) (forN (fun (i10:Nat) (s10:(List Tt))=>
 aa (idx v26.2 (i10:Int)) fun v34=>
 aa (impl_addAtom s10 v34) fun v38=>
 some (.nx v38)) v26.2.length 0 ([])) fun s10=>
 aa (slices_SortFuncT s10) fun v41=>
 aa (app s3 ([(gc.mk (i3:Int) v26.1 v41.2)])) fun v48=>
 some (.nx v48)) N3 0 ([])) fun s3=>
 some s3

def impl_SmallestDecomposition_1(a0:gc)(b0:gc):Option Bool:=
 aa (slices_EqualFunc_Simpl_Term_Simpl_Term_impl_Term_impl_Term a0.instances b0.instances (fun y0 y1=>impl_EqualTerms y0 y1)) fun v8=>
 some v8

def slices_IndexFunc_Simpl_grouped_impl_grouped(a0:List gc)(a1:gc→Option Bool):Option Int:=
 thenL (ρ:=Int) (σ:=Unit) (forN (fun (i2:Nat) (s2:Unit)=>
 aa (idx a0 (i2:Int)) fun v14=>
 aa (a1 v14) fun v16=>
 bif v16 then
 some (.rt (i2:Int))
 else
 some (.nx ())) a0.length 0 ()) fun s2=>
 some (-1:Int)

def slices_ContainsFunc_Simpl_grouped_impl_grouped(a0:List gc)(a1:gc→Option Bool):Option Bool:=
 aa (slices_IndexFunc_Simpl_grouped_impl_grouped a0 a1) fun v7=>
 some (decide (0≤v7))

def impl_coverFromN:Nat→(List ct)→Int→Int→Int→Option ((List Int)×Bool)
 | 0,_,_,_,_=>none
 | n+1,a0,a1,a2,a3=>
 bif decide (a2=0) then
 some ([],decide (a3=0))
 else
 thenL (ρ:=((List Int)×Bool)) (σ:=Int) (lim fun n4=>whileN (fun (s4:Int)=>
 bif decide (s4<(a0.length:Int)) then
 aa (idx a0 s4) fun v33=>
 aa (impl_coverFromN n a0 (IntKind.i64.wrap (s4+1)) (IntKind.i64.wrap (a2-1)) (bitandNot .i64 a3 v33.covers)) fun v37=>
 bif v37.2 then
 aa (app ([s4]) v37.1) fun v44=>
 some (.rt (v44,true))
 else
 some (.nx (IntKind.i64.wrap (s4+1)))
 else
 some (.br s4)) n4 a1) fun s4=>
 some ([],false)
def impl_coverFrom(a0:List ct)(a1:Int)(a2:Int)(a3:Int):Option ((List Int)×Bool):=lim fun n=>impl_coverFromN n a0 a1 a2 a3

def impl_cover(a0:List ct)(a1:Int):Option (List Int):=
 thenL (ρ:=(List Int)) (σ:=Int) (lim fun n3=>whileN (fun (s3:Int)=>
 aa (impl_coverFrom a0 0 s3 a1) fun v14=>
 bif v14.2 then
 some (.rt v14.1)
 else
 some (.nx (IntKind.i64.wrap (s3+1)))) n3 (1:Int)) fun s3=>
 none

def impl_SmallestDecomposition(a0:List Tt):Option (Dt×Bool):=
 thenL (ρ:=(Dt×Bool)) (σ:=Unit) (forN (fun (i2:Nat) (s2:Unit)=>
 aa (idx a0 (i2:Int)) fun v24=>
 aa (impl_isGroundTerm v24) fun v27=>
 bif v27 then
 aa (slc a0 (0:Int) (i2:Int)) fun v32=>
 aa (impl_indexOfAtom v32 v24) fun v34=>
 bif decide (0≤v34) then
 some (.rt ((Dt.mk ([]) ([])),false))
 else
 some (.nx ())
 else
 some (.rt ((Dt.mk ([]) ([])),false))) a0.length 0 ()) fun s2=>
 aa (impl_within (a0.length:Int) 1 6) fun v41=>
 bif v41 then
 aa (impl_copyTerms a0) fun v45=>
 aa (impl_groups a0) fun v48=>
 thenL (ρ:=(Dt×Bool)) (σ:=(List Tt)×(List Tt)) (forN (fun (i12:Nat) (s12:(List Tt)×(List Tt))=>
 aa (idx v48 (i12:Int)) fun v54=>
 aa (slc v48 (0:Int) (i12:Int)) fun v59=>
 aa (slices_ContainsFunc_Simpl_grouped_impl_grouped v59 (fun y0=>impl_SmallestDecomposition_1 y0 v54)) fun v61=>
 bif v61 then
 some (.nx (s12.1,s12.2))
 else
 thenL (ρ:=(Flow (Dt×Bool) ((List Tt)×(List Tt)))) (σ:=(List ct)) (forN (fun (i18:Nat) (s18:(List ct))=>
 aa (idx v48 (i18:Int)) fun v67=>
 aa (impl_SmallestDecomposition_1 v67 v54) fun v71=>
 bif v71 then
 aa (app s18 ([(ct.mk v67.pattern v67.bits)])) fun v79=>
 some (.nx v79)
 else
 some (.nx s18)) v48.length 0 ([])) fun s18=>
 thenL (ρ:=(Flow (Dt×Bool) ((List Tt)×(List Tt)))) (σ:=(List ct)) (forN (fun (i24:Nat) (s24:(List ct))=>
 aa (idx a0 (i24:Int)) fun v86=>
 aa (shl .i64 (1:Int) (i24:Int)) fun v91=>
 aa (app s24 ([(ct.mk v86 v91)])) fun v94=>
 some (.nx v94)) a0.length 0 s18) fun s24=>
 aa (impl_copyTerms v54.instances) fun v98=>
 aa (shl .i64 (1:Int) (a0.length:Int)) fun v103=>
 aa (impl_cover s24 (IntKind.i64.wrap (v103-1))) fun v105=>
 thenL (ρ:=(Flow (Dt×Bool) ((List Tt)×(List Tt)))) (σ:=(List Tt)) (forN (fun (i30:Nat) (s30:(List Tt))=>
 aa (idx v105 (i30:Int)) fun v109=>
 aa (idx v105 (i30:Int)) fun v110=>
 aa (idx s24 v110) fun v115=>
 aa (idx s24 v110) fun v117=>
 aa (impl_copyTerm v117.pattern) fun v118=>
 aa (app s30 ([v118])) fun v120=>
 some (.nx v120)) v105.length 0 ([])) fun s30=>
 bif decide ((IntKind.i64.wrap ((s30.length:Int)+(v98.length:Int)))<(IntKind.i64.wrap ((s12.1.length:Int)+(s12.2.length:Int)))) then
 some (.nx (s30,v98))
 else
 some (.nx (s12.1,s12.2))) v48.length 0 (v45,[])) fun s12=>
 aa (slices_SortFuncT s12.1) fun v142=>
 some ((Dt.mk v142.2 s12.2),true)
 else
 some ((Dt.mk ([]) ([])),false)

def impl_SizeGain(a0:List Tt):Option (Int×Bool):=
 aa (impl_SmallestDecomposition a0) fun v8=>
 bif v8.2 then
 some (IntKind.i64.wrap ((IntKind.i64.wrap ((a0.length:Int)-(v8.1.Patterns.length:Int)))-(v8.1.Instances.length:Int)),true)
 else
 some ((0:Int),false)

def spec_l2Put(a0:List ByteArray)(a1:ByteArray):Option (List ByteArray):=
 thenL (ρ:=(List ByteArray)) (σ:=Unit) (forN (fun (i2:Nat) (s2:Unit)=>
 aa (idx a0 (i2:Int)) fun v13=>
 bif Op.bytesLess v13.data.toList a1.data.toList then
 some (.nx ())
 else
 aa (idx a0 (i2:Int)) fun v27=>
 bif decide (v27=a1) then
 some (.rt a0)
 else
 aa (slc a0 (0:Int) (i2:Int)) fun v36=>
 aa (app ([]) v36) fun v37=>
 aa (app v37 ([a1])) fun v40=>
 aa (slc a0 (i2:Int) (a0.length:Int)) fun v43=>
 aa (app v40 v43) fun v44=>
 some (.rt v44)) a0.length 0 ()) fun s2=>
 aa (slc a0 (0:Int) ((a0.length:Nat):Int)) fun v36=>
 aa (app ([]) v36) fun v37=>
 aa (app v37 ([a1])) fun v40=>
 aa (slc a0 ((a0.length:Nat):Int) (a0.length:Int)) fun v43=>
 aa (app v40 v43) fun v44=>
 some v44

def spec_l2IntoN:Nat→(List ByteArray)→Tt→Option (List ByteArray)
 | 0,_,_=>none
 | n+1,a0,a1=>
 aa (spec_l2Var a1.Name) fun v8=>
 bif v8 then
 aa (spec_l2Put a0 a1.Name) fun v12=>
 some v12
 else
 thenL (ρ:=(List ByteArray)) (σ:=(List ByteArray)) (forN (fun (i4:Nat) (s4:(List ByteArray))=>
 aa (idx a1.Args (i4:Int)) fun v24=>
 aa (spec_l2IntoN n s4 v24) fun v26=>
 some (.nx v26)) a1.Args.length 0 a0) fun s4=>
 some s4
def spec_l2Into(a0:List ByteArray)(a1:Tt):Option (List ByteArray):=lim fun n=>spec_l2IntoN n a0 a1

def spec_l2Vars(a0:Tt):Option (List ByteArray):=
 aa (spec_l2Into ([]) a0) fun v5=>
 some v5

def spec_l16Ground(a0:Tt):Option Bool:=
 aa (spec_l2Vars a0) fun v4=>
 some (decide ((v4.length:Int)=0))

def spec_l16Terms(a0:List Tt):Option Bool:=
 thenL (ρ:=Bool) (σ:=Unit) (forN (fun (i2:Nat) (s2:Unit)=>
 bif decide ((i2:Int)≤60) then
 aa (idx a0 (i2:Int)) fun v16=>
 aa (spec_l2Good v16) fun v18=>
 bif v18 then
 aa (idx a0 (i2:Int)) fun v23=>
 aa (spec_l16Ground v23) fun v25=>
 bif v25 then
 some (.nx ())
 else
 some (.rt false)
 else
 some (.rt false)
 else
 some (.rt (decide ((a0.length:Int)≤60)))) a0.length 0 ()) fun s2=>
 some (decide ((a0.length:Int)≤60))

def spec_l22Different(a0:List Tt):Option Bool:=
 aa (spec_l1In (a0.length:Int) 1 6) fun v6=>
 bif v6 then
 aa (spec_l16Terms a0) fun v10=>
 bif v10 then
 thenL (ρ:=Bool) (σ:=Unit) (forN (fun (i4:Nat) (s4:Unit)=>
 aa (slc a0 (0:Int) (i4:Int)) fun v21=>
 aa (idx a0 (i4:Int)) fun v24=>
 aa (spec_l16Index v21 v24) fun v26=>
 bif decide (0≤v26) then
 some (.rt false)
 else
 some (.nx ())) a0.length 0 ()) fun s4=>
 some true
 else
 some false
 else
 some false

def spec_l2Text(a0:ByteArray)(a1:ByteArray):Option Int:=
 bif Op.bytesLess a0.data.toList a1.data.toList then
 some (-1:Int)
 else
 bif decide (a0=a1) then
 some (0:Int)
 else
 some (1:Int)

def spec_l2CompareN:Nat→Tt→Tt→Option Int
 | 0,_,_=>none
 | n+1,a0,a1=>
 aa (spec_l2Var a0.Name) fun v11=>
 aa (spec_l2Var a1.Name) fun v14=>
 bif v11 then
 bif v14 then
 bif decide (a0.Name=a1.Name) then
 bif decide ((a0.Args.length:Int)<(a1.Args.length:Int)) then
 some (-1:Int)
 else
 bif decide ((a1.Args.length:Int)<(a0.Args.length:Int)) then
 some (1:Int)
 else
 thenL (ρ:=Int) (σ:=Unit) (forN (fun (i13:Nat) (s13:Unit)=>
 aa (idx a0.Args (i13:Int)) fun v64=>
 aa (idx a1.Args (i13:Int)) fun v69=>
 aa (spec_l2CompareN n v64 v69) fun v71=>
 bif decide (v71=0) then
 some (.nx ())
 else
 some (.rt v71)) a0.Args.length 0 ()) fun s13=>
 some (0:Int)
 else
 aa (spec_l2Text a0.Name a1.Name) fun v37=>
 some v37
 else
 some (-1:Int)
 else
 bif v14 then
 some (1:Int)
 else
 bif decide (a0.Name=a1.Name) then
 bif decide ((a0.Args.length:Int)<(a1.Args.length:Int)) then
 some (-1:Int)
 else
 bif decide ((a1.Args.length:Int)<(a0.Args.length:Int)) then
 some (1:Int)
 else
 thenL (ρ:=Int) (σ:=Unit) (forN (fun (i13:Nat) (s13:Unit)=>
 aa (idx a0.Args (i13:Int)) fun v64=>
 aa (idx a1.Args (i13:Int)) fun v69=>
 aa (spec_l2CompareN n v64 v69) fun v71=>
 bif decide (v71=0) then
 some (.nx ())
 else
 some (.rt v71)) a0.Args.length 0 ()) fun s13=>
 some (0:Int)
 else
 aa (spec_l2Text a0.Name a1.Name) fun v37=>
 some v37
def spec_l2Compare(a0:Tt)(a1:Tt):Option Int:=lim fun n=>spec_l2CompareN n a0 a1

def spec_l16Put(a0:List Tt)(a1:Tt):Option (List Tt):=
 thenL (ρ:=(List Tt)) (σ:=Unit) (forN (fun (i2:Nat) (s2:Unit)=>
 aa (idx a0 (i2:Int)) fun v13=>
 aa (spec_l2Compare v13 a1) fun v16=>
 bif decide (v16<0) then
 some (.nx ())
 else
 aa (idx a0 (i2:Int)) fun v28=>
 aa (spec_l2Same v28 a1) fun v31=>
 bif v31 then
 some (.rt a0)
 else
 aa (slc a0 (0:Int) (i2:Int)) fun v37=>
 aa (app ([]) v37) fun v38=>
 aa (app v38 ([a1])) fun v41=>
 aa (slc a0 (i2:Int) (a0.length:Int)) fun v44=>
 aa (app v41 v44) fun v45=>
 some (.rt v45)) a0.length 0 ()) fun s2=>
 aa (slc a0 (0:Int) ((a0.length:Nat):Int)) fun v37=>
 aa (app ([]) v37) fun v38=>
 aa (app v38 ([a1])) fun v41=>
 aa (slc a0 ((a0.length:Nat):Int) (a0.length:Int)) fun v44=>
 aa (app v41 v44) fun v45=>
 some v45

def spec_l22Copy(a0:List Tt):Option (List Tt):=
 thenL (ρ:=(List Tt)) (σ:=(List Tt)) (forN (fun (i3:Nat) (s3:(List Tt))=>
 aa (idx a0 (i3:Int)) fun v15=>
 aa (spec_l2Own v15) fun v17=>
 aa (app s3 ([v17])) fun v19=>
 some (.nx v19)) a0.length 0 ([])) fun s3=>
 some s3

def spec_l22Same(a0:List Tt)(a1:List Tt):Option Bool:=
 bif decide ((a0.length:Int)=(a1.length:Int)) then
 thenL (ρ:=Bool) (σ:=Unit) (forN (fun (i4:Nat) (s4:Unit)=>
 aa (idx a0 (i4:Int)) fun v19=>
 aa (idx a1 (i4:Int)) fun v23=>
 aa (spec_l2Same v19 v23) fun v25=>
 bif v25 then
 some (.nx ())
 else
 some (.rt false)) a0.length 0 ()) fun s4=>
 some true
 else
 some false

def spec_l22GeneralN:Nat→(List Tt)→Option (Tt×(List Tt))
 | 0,_=>none
 | n+1,a0=>
 aa (idx a0 0) fun v17=>
 thenL (ρ:=(Tt×(List Tt))) (σ:=Bool×Bool) (forN (fun (i4:Nat) (s4:Bool×Bool)=>
 bif s4.1 then
 aa (idx a0 (i4:Int)) fun v30=>
 aa (spec_l2Same v17 v30) fun v32=>
 bif s4.2 then
 aa (idx a0 (i4:Int)) fun v38=>
 bif decide (v38.Name=v17.Name) then
 aa (idx a0 (i4:Int)) fun v48=>
 some (.nx (v32,decide ((v48.Args.length:Int)=(v17.Args.length:Int))))
 else
 some (.nx (v32,false))
 else
 some (.nx (v32,false))
 else
 bif s4.2 then
 aa (idx a0 (i4:Int)) fun v38=>
 bif decide (v38.Name=v17.Name) then
 aa (idx a0 (i4:Int)) fun v48=>
 some (.nx (false,decide ((v48.Args.length:Int)=(v17.Args.length:Int))))
 else
 some (.nx (false,false))
 else
 some (.nx (false,false))) (a0.length-1) 1 (true,true)) fun s4=>
 bif s4.1 then
 aa (spec_l2Own v17) fun v59=>
 some (v59,[])
 else
 bif s4.2 then
 thenL (ρ:=(Tt×(List Tt))) (σ:=(List Tt)×(List Tt)) (forN (fun (i16:Nat) (s16:(List Tt)×(List Tt))=>
 thenL (ρ:=(Flow (Tt×(List Tt)) ((List Tt)×(List Tt)))) (σ:=(List Tt)) (forN (fun (i20:Nat) (s20:(List Tt))=>
 aa (idx a0 (i20:Int)) fun v88=>
 aa (idx v88.Args (i16:Int)) fun v92=>
 aa (app s20 ([v92])) fun v95=>
 some (.nx v95)) a0.length 0 ([])) fun s20=>
 aa (spec_l22GeneralN n s20) fun v98=>
 bif decide (0<(v98.2.length:Int)) then
 bif decide (0<(s16.1.length:Int)) then
 aa (spec_l22Same s16.1 v98.2) fun v112=>
 bif v112 then
 aa (app s16.2 ([v98.1])) fun v126=>
 some (.nx (v98.2,v126))
 else
 aa (spec_l22Copy a0) fun v117=>
 some (.rt ((Tt.mk (⟨#[65]⟩:ByteArray) ([])),v117))
 else
 aa (app s16.2 ([v98.1])) fun v126=>
 some (.nx (v98.2,v126))
 else
 aa (app s16.2 ([v98.1])) fun v126=>
 some (.nx (s16.1,v126))) v17.Args.length 0 ([],[])) fun s16=>
 some ((Tt.mk v17.Name s16.2),s16.1)
 else
 aa (spec_l22Copy a0) fun v66=>
 some ((Tt.mk (⟨#[65]⟩:ByteArray) ([])),v66)
def spec_l22General(a0:List Tt):Option (Tt×(List Tt)):=lim fun n=>spec_l22GeneralN n a0

def spec_l22Rows(a0:List Tt):Option (List lf):=
 thenL (ρ:=(List lf)) (σ:=Int×(List lf)) (lim fun n3=>whileN (fun (s3:Int×(List lf))=>
 aa (shl .i64 (1:Int) (IntKind.u64.wrap (a0.length:Int))) fun v22=>
 bif decide (s3.1<v22) then
 thenL (ρ:=(Flow (List lf) (Int×(List lf)))) (σ:=(List Tt)) (forN (fun (i7:Nat) (s7:(List Tt))=>
 aa (shr .i64 s3.1 (IntKind.u64.wrap (i7:Int))) fun v36=>
 bif decide ((bitand .i64 v36 (1:Int))=1) then
 aa (idx a0 (i7:Int)) fun v42=>
 aa (app s7 ([v42])) fun v45=>
 some (.nx v45)
 else
 some (.nx s7)) a0.length 0 ([])) fun s7=>
 bif decide ((s7.length:Int)<2) then
 some (.nx (IntKind.i64.wrap (s3.1+1),s3.2))
 else
 aa (spec_l22General s7) fun v51=>
 thenL (ρ:=(Flow (List lf) (Int×(List lf)))) (σ:=(List Tt)) (forN (fun (i15:Nat) (s15:(List Tt))=>
 aa (idx v51.2 (i15:Int)) fun v64=>
 aa (spec_l16Put s15 v64) fun v66=>
 some (.nx v66)) v51.2.length 0 ([])) fun s15=>
 thenL (ρ:=(Flow (List lf) (Int×(List lf)))) (σ:=Int) (forN (fun (i20:Nat) (s20:Int)=>
 bif decide (s20<0) then
 aa (idx s3.2 (i20:Int)) fun v79=>
 aa (spec_l22Same v79.instances s15) fun v83=>
 bif v83 then
 some (.nx (i20:Int))
 else
 some (.nx s20)
 else
 aa (idx s3.2 s20) fun v96=>
 aa (idx s3.2 s20) fun v97=>
 aa (app v97.candidates ([(ld.mk v51.1 s3.1)])) fun v104=>
 aa (idx s3.2 s20) fun v109=>
 aa (idx s3.2 s20) fun w11=>
 some (.rt (.nx (IntKind.i64.wrap (s3.1+1),s3.2.set s20.toNat (lf.mk v97.instances v104))))) s3.2.length 0 (-1:Int)) fun s20=>
 bif decide (s20<0) then
 aa (app s3.2 ([(lf.mk s15 ([]))])) fun v93=>
 aa (idx v93 (s3.2.length:Int)) fun v96=>
 aa (idx v93 (s3.2.length:Int)) fun v97=>
 aa (app v97.candidates ([(ld.mk v51.1 s3.1)])) fun v104=>
 aa (idx v93 (s3.2.length:Int)) fun v109=>
 aa (idx v93 (s3.2.length:Int)) fun w14=>
 some (.nx (IntKind.i64.wrap (s3.1+1),v93.set (s3.2.length:Int).toNat (lf.mk v97.instances v104)))
 else
 aa (idx s3.2 s20) fun v96=>
 aa (idx s3.2 s20) fun v97=>
 aa (app v97.candidates ([(ld.mk v51.1 s3.1)])) fun v104=>
 aa (idx s3.2 s20) fun v109=>
 aa (idx s3.2 s20) fun w15=>
 some (.nx (IntKind.i64.wrap (s3.1+1),s3.2.set s20.toNat (lf.mk v97.instances v104)))
 else
 some (.br s3)) n3 ((1:Int),[])) fun s3=>
 thenL (ρ:=(List lf)) (σ:=(List lf)×Int) (lim fun n31=>whileN (fun (s31:(List lf)×Int)=>
 bif decide (s31.2<(s31.1.length:Int)) then
 aa (idx s31.1 s31.2) fun v118=>
 aa (idx s31.1 s31.2) fun v119=>
 thenL (ρ:=(Flow (List lf) ((List lf)×Int))) (σ:=(List ld)) (forN (fun (i35:Nat) (s35:(List ld))=>
 aa (idx a0 (i35:Int)) fun v130=>
 aa (shl .i64 (1:Int) (IntKind.u64.wrap (i35:Int))) fun v134=>
 aa (app s35 ([(ld.mk v130 v134)])) fun v137=>
 some (.nx v137)) a0.length 0 v119.candidates) fun s35=>
 aa (idx s31.1 s31.2) fun v142=>
 aa (idx s31.1 s31.2) fun w19=>
 some (.nx (s31.1.set s31.2.toNat (lf.mk v119.instances s35),IntKind.i64.wrap (s31.2+1)))
 else
 some (.br s31)) n31 (s3.2,(0:Int))) fun s31=>
 some s31.1

def spec_l1Least(a0:Int)(a1:Int):Option Int:=
 bif decide (a0<a1) then
 some a0
 else
 some a1

def spec_l22Fewest(a0:List ld)(a1:Int):Option (List (List Int)):=
 aa (mkn (IntKind.i64.wrap ((a0.length:Int)+1))) fun n14=>
 thenL (ρ:=(List (List Int))) (σ:=(List (List Int))×Int) (lim fun n4=>whileN (fun (s4:(List (List Int))×Int)=>
 bif decide (0≤s4.2) then
 aa (mkn (IntKind.i64.wrap (a1+1))) fun n22=>
 thenL (ρ:=(Flow (List (List Int)) ((List (List Int))×Int))) (σ:=(List Int)×Int) (lim fun n8=>whileN (fun (s8:(List Int)×Int)=>
 bif decide (s8.2≤a1) then
 aa (idx s8.1 s8.2) fun v30=>
 aa (idx s8.1 s8.2) fun w3=>
 bif decide (s8.2=a1) then
 aa (idx (s8.1.set s8.2.toNat (1000:Int)) s8.2) fun v36=>
 aa (idx (s8.1.set s8.2.toNat (1000:Int)) s8.2) fun w5=>
 some (.nx ((s8.1.set s8.2.toNat (1000:Int)).set s8.2.toNat (0:Int),IntKind.i64.wrap (s8.2+1)))
 else
 bif decide (s4.2<(a0.length:Int)) then
 aa (idx s4.1 (IntKind.i64.wrap (s4.2+1))) fun v45=>
 aa (idx v45 s8.2) fun v48=>
 aa (idx s4.1 (IntKind.i64.wrap (s4.2+1))) fun v53=>
 aa (idx a0 s4.2) fun v58=>
 aa (idx v53 (bitor .i64 s8.2 v58.covers)) fun v62=>
 aa (spec_l1Least v48 (IntKind.i64.wrap ((1:Int)+v62))) fun v65=>
 aa (idx (s8.1.set s8.2.toNat (1000:Int)) s8.2) fun v66=>
 aa (idx (s8.1.set s8.2.toNat (1000:Int)) s8.2) fun w7=>
 some (.nx ((s8.1.set s8.2.toNat (1000:Int)).set s8.2.toNat v65,IntKind.i64.wrap (s8.2+1)))
 else
 some (.nx (s8.1.set s8.2.toNat (1000:Int),IntKind.i64.wrap (s8.2+1)))
 else
 some (.br s8)) n8 (List.replicate n22 (0:Int),(0:Int))) fun s8=>
 aa (idx s4.1 s4.2) fun v70=>
 aa (idx s4.1 s4.2) fun w8=>
 some (.nx (s4.1.set s4.2.toNat s8.1,IntKind.i64.wrap (s4.2-1)))
 else
 some (.br s4)) n4 (List.replicate n14 ([]),(a0.length:Int))) fun s4=>
 some s4.1

def spec_l22Select(a0:lf)(a1:Int):Option (List Tt):=
 aa (spec_l22Fewest a0.candidates a1) fun v13=>
 thenL (ρ:=(List Tt)) (σ:=Int×(List Tt)) (forN (fun (i5:Nat) (s5:Int×(List Tt))=>
 bif decide (s5.1=a1) then
 some (.rt s5.2)
 else
 aa (idx a0.candidates (i5:Int)) fun v31=>
 aa (idx v13 (IntKind.i64.wrap ((i5:Int)+1))) fun v38=>
 aa (idx v38 (bitor .i64 s5.1 v31.covers)) fun v41=>
 aa (idx v13 (i5:Int)) fun v46=>
 aa (idx v46 s5.1) fun v49=>
 bif decide ((IntKind.i64.wrap ((1:Int)+v41))=v49) then
 aa (idx a0.candidates (i5:Int)) fun v56=>
 aa (spec_l16Put s5.2 v56.pattern) fun v59=>
 some (.nx (bitor .i64 s5.1 v31.covers,v59))
 else
 some (.nx (s5.1,s5.2))) a0.candidates.length 0 ((0:Int),[])) fun s5=>
 some s5.2

def spec_l22Smallest(a0:List Tt):Option Dt:=
 thenL (ρ:=Dt) (σ:=(List Tt)) (forN (fun (i3:Nat) (s3:(List Tt))=>
 aa (idx a0 (i3:Int)) fun v20=>
 aa (spec_l16Put s3 v20) fun v22=>
 some (.nx v22)) a0.length 0 ([])) fun s3=>
 aa (spec_l22Rows a0) fun v25=>
 thenL (ρ:=Dt) (σ:=(List Tt)×(List Tt)) (forN (fun (i8:Nat) (s8:(List Tt)×(List Tt))=>
 aa (idx v25 (i8:Int)) fun v34=>
 aa (shl .i64 (1:Int) (IntKind.u64.wrap (a0.length:Int))) fun v39=>
 aa (spec_l22Select v34 (IntKind.i64.wrap (v39-1))) fun v41=>
 aa (idx v25 (i8:Int)) fun v44=>
 bif decide ((IntKind.i64.wrap ((v41.length:Int)+(v44.instances.length:Int)))<(IntKind.i64.wrap ((s8.1.length:Int)+(s8.2.length:Int)))) then
 some (.nx (v41,v44.instances))
 else
 some (.nx (s8.1,s8.2))) v25.length 0 (s3,[])) fun s8=>
 aa (spec_l22Copy s8.1) fun v66=>
 aa (spec_l22Copy s8.2) fun v69=>
 some (Dt.mk v66 v69)

def spec_SmallestDecomposition(a0:List Tt):Option (Dt×Bool):=
 aa (spec_l22Different a0) fun v5=>
 bif v5 then
 aa (spec_l22Smallest a0) fun v9=>
 some (v9,true)
 else
 some ((Dt.mk ([]) ([])),false)

def impl_notGround(a0:Tt):Option Bool:=
 aa (impl_isGroundTerm a0) fun v4=>
 some (!v4)

def impl_isPattern_1(a0:ByteArray):Option Bool:=
 some (!(decide (a0=(⟨#[65]⟩:ByteArray))))

def slices_IndexFunc_Sstring_string(a0:List ByteArray)(a1:ByteArray→Option Bool):Option Int:=
 thenL (ρ:=Int) (σ:=Unit) (forN (fun (i2:Nat) (s2:Unit)=>
 aa (idx a0 (i2:Int)) fun v14=>
 aa (a1 v14) fun v16=>
 bif v16 then
 some (.rt (i2:Int))
 else
 some (.nx ())) a0.length 0 ()) fun s2=>
 some (-1:Int)

def slices_ContainsFunc_Sstring_string(a0:List ByteArray)(a1:ByteArray→Option Bool):Option Bool:=
 aa (slices_IndexFunc_Sstring_string a0 a1) fun v7=>
 some (decide (0≤v7))

def impl_isPattern(a0:Tt):Option Bool:=
 aa (impl_IsValidTerm a0) fun v4=>
 bif v4 then
 aa (impl_collect ([]) a0) fun v7=>
 aa (slices_ContainsFunc_Sstring_string v7 (fun y0=>impl_isPattern_1 y0)) fun v8=>
 some (!v8)
 else
 some false

def impl_IsValidDecomposition_1(a0:Tt):Option Bool:=
 aa (impl_isPattern a0) fun v4=>
 some (!v4)

def impl_areAscending(a0:List Tt):Option Bool:=
 thenL (ρ:=Bool) (σ:=Unit) (forN (fun (i2:Nat) (s2:Unit)=>
 bif decide (0<(i2:Int)) then
 aa (idx a0 (IntKind.i64.wrap ((i2:Int)-1))) fun v15=>
 aa (idx a0 (i2:Int)) fun v19=>
 aa (impl_compareTerms v15 v19) fun v21=>
 bif decide (0≤v21) then
 some (.rt false)
 else
 some (.nx ())
 else
 some (.nx ())) a0.length 0 ()) fun s2=>
 some (decide ((a0.length:Int)≤12))

def impl_IsValidDecomposition(a0:Dt):Option Bool:=
 aa (slices_ContainsFunc_Simpl_Term_impl_Term a0.Instances (fun y0=>impl_notGround y0)) fun v5=>
 bif v5 then
 some false
 else
 aa (slices_ContainsFunc_Simpl_Term_impl_Term a0.Patterns (fun y0=>impl_IsValidDecomposition_1 y0)) fun v9=>
 bif v9 then
 some false
 else
 aa (impl_areAscending a0.Patterns) fun v13=>
 bif v13 then
 aa (impl_areAscending a0.Instances) fun v17=>
 bif v17 then
 bif decide (0<(a0.Instances.length:Int)) then
 some true
 else
 aa (slices_ContainsFunc_Simpl_Term_impl_Term a0.Patterns (fun y0=>impl_notGround y0)) fun v27=>
 some (!v27)
 else
 some false
 else
 some false

def impl_countNameN:Nat→Tt→ByteArray→Option Int
 | 0,_,_=>none
 | n+1,a0,a1=>
 bif decide (a0.Name=a1) then
 thenL (ρ:=Int) (σ:=Int) (forN (fun (i5:Nat) (s5:Int)=>
 aa (idx a0.Args (i5:Int)) fun v17=>
 aa (impl_countNameN n v17 a1) fun v22=>
 some (.nx (IntKind.i64.wrap (s5+v22)))) a0.Args.length 0 (1:Int)) fun s5=>
 some s5
 else
 thenL (ρ:=Int) (σ:=Int) (forN (fun (i5:Nat) (s5:Int)=>
 aa (idx a0.Args (i5:Int)) fun v17=>
 aa (impl_countNameN n v17 a1) fun v22=>
 some (.nx (IntKind.i64.wrap (s5+v22)))) a0.Args.length 0 (0:Int)) fun s5=>
 some s5
def impl_countName(a0:Tt)(a1:ByteArray):Option Int:=lim fun n=>impl_countNameN n a0 a1

def impl_occurs(a0:ByteArray)(a1:Tt):Option Bool:=
 aa (impl_countName a1 a0) fun v7=>
 some (decide (0<v7))

def impl_replaceVarsN:Nat→Tt→(GMap Tt)→Option Tt
 | 0,_,_=>none
 | n+1,a0,a1=>
 bif GMap.has a1 a0.Name then
 bif decide ((a0.Args.length:Int)=0) then
 aa (impl_copyTerm (GMap.get a1 a0.Name (Tt.mk ⟨#[]⟩ ([])))) fun v25=>
 some v25
 else
 thenL (ρ:=Tt) (σ:=(List Tt)) (forN (fun (i6:Nat) (s6:(List Tt))=>
 aa (idx a0.Args (i6:Int)) fun v34=>
 aa (impl_replaceVarsN n v34 a1) fun v40=>
 aa (app s6 ([v40])) fun v42=>
 some (.nx v42)) a0.Args.length 0 ([])) fun s6=>
 some (Tt.mk a0.Name s6)
 else
 thenL (ρ:=Tt) (σ:=(List Tt)) (forN (fun (i6:Nat) (s6:(List Tt))=>
 aa (idx a0.Args (i6:Int)) fun v34=>
 aa (impl_replaceVarsN n v34 a1) fun v40=>
 aa (app s6 ([v40])) fun v42=>
 some (.nx v42)) a0.Args.length 0 ([])) fun s6=>
 some (Tt.mk a0.Name s6)
def impl_replaceVars(a0:Tt)(a1:GMap Tt):Option Tt:=lim fun n=>impl_replaceVarsN n a0 a1

def impl_filled(a0:Tt)(a1:Tt):Option Tt:=
 aa (impl_replaceVars a0 (GMap.put (GMap.empty:GMap Tt) (⟨#[65]⟩:ByteArray) a1)) fun v9=>
 some v9

def impl_language(a0:Dt):Option ((List Tt)×Bool):=
 thenL (ρ:=((List Tt)×Bool)) (σ:=(List Tt)) (forN (fun (i3:Nat) (s3:(List Tt))=>
 aa (idx a0.Patterns (i3:Int)) fun v16=>
 aa (impl_occurs (⟨#[65]⟩:ByteArray) v16) fun v19=>
 bif v19 then
 thenL (ρ:=(Flow ((List Tt)×Bool) (List Tt))) (σ:=(List Tt)) (forN (fun (i8:Nat) (s8:(List Tt))=>
 aa (idx a0.Instances (i8:Int)) fun v29=>
 aa (impl_filled v16 v29) fun v33=>
 aa (impl_IsValidTerm v33) fun v35=>
 bif v35 then
 aa (impl_addAtom s8 v33) fun v39=>
 some (.nx v39)
 else
 some (.rt (.rt ([],false)))) a0.Instances.length 0 s3) fun s8=>
 some (.nx s8)
 else
 aa (impl_addAtom s3 v16) fun v23=>
 some (.nx v23)) a0.Patterns.length 0 ([])) fun s3=>
 aa (slices_SortFuncT s3) fun v43=>
 some (v43.2,true)

def impl_LanguageOf(a0:Dt):Option ((List Tt)×Bool):=
 aa (impl_IsValidDecomposition a0) fun v5=>
 bif v5 then
 aa (impl_language a0) fun v8=>
 some (v8.1,v8.2)
 else
 some ([],false)

def impl_DescribesTerms(a0:Dt)(a1:List Tt):Option (Bool×Bool):=
 aa (impl_LanguageOf a0) fun v13=>
 bif v13.2 then
 bif decide (60<(a1.length:Int)) then
 some (false,false)
 else
 aa (slices_ContainsFunc_Simpl_Term_impl_Term a1 (fun y0=>impl_notGround y0)) fun v25=>
 bif v25 then
 some (false,false)
 else
 thenL (ρ:=(Bool×Bool)) (σ:=(List Tt)) (forN (fun (i6:Nat) (s6:(List Tt))=>
 aa (idx a1 (i6:Int)) fun v32=>
 aa (impl_addAtom s6 v32) fun v36=>
 some (.nx v36)) a1.length 0 ([])) fun s6=>
 aa (slices_SortFuncT s6) fun v39=>
 aa (slices_EqualFunc_Simpl_Term_Simpl_Term_impl_Term_impl_Term v39.2 v13.1 (fun y0 y1=>impl_EqualTerms y0 y1)) fun v42=>
 some (v42,true)
 else
 some (false,false)

def impl_GeneralizeTerms(a0:List Tt):Option (Tt×(List Tt)×Bool):=
 aa (impl_within (a0.length:Int) 1 6) fun v9=>
 bif v9 then
 aa (slices_ContainsFunc_Simpl_Term_impl_Term a0 (fun y0=>impl_notGround y0)) fun v13=>
 bif v13 then
 some ((Tt.mk ⟨#[]⟩ ([])),[],false)
 else
 aa (impl_generalization a0) fun v18=>
 some (v18.1,v18.2,true)
 else
 some ((Tt.mk ⟨#[]⟩ ([])),[],false)

def spec_l4Good(a0:Sa):Option Bool:=
 thenL (ρ:=Bool) (σ:=Unit) (forN (fun (i2:Nat) (s2:Unit)=>
 aa (idx a0.Bindings (i2:Int)) fun v15=>
 aa (spec_l2Var v15.Var) fun v19=>
 bif v19 then
 aa (spec_l2Good v15.Term) fun v24=>
 bif v24 then
 bif decide (v15.Term.Name=v15.Var) then
 some (.rt false)
 else
 bif decide (0<(i2:Int)) then
 aa (idx a0.Bindings (IntKind.i64.wrap ((i2:Int)-1))) fun v43=>
 bif Op.bytesLess v43.Var.data.toList v15.Var.data.toList then
 some (.nx ())
 else
 some (.rt false)
 else
 some (.nx ())
 else
 some (.rt false)
 else
 some (.rt false)) a0.Bindings.length 0 ()) fun s2=>
 some (decide ((a0.Bindings.length:Int)≤12))

def spec_l2Atom(a0:Tt):Option Bool:=
 bif decide (a0.Name=(⟨#[61]⟩:ByteArray)) then
 bif decide ((a0.Args.length:Int)=2) then
 aa (spec_l2Fits a0) fun v12=>
 bif v12 then
 aa (idx a0.Args 0) fun v17=>
 aa (spec_l2Nodes v17) fun v19=>
 bif v19 then
 aa (idx a0.Args 1) fun v24=>
 aa (spec_l2Nodes v24) fun v26=>
 some v26
 else
 some false
 else
 some false
 else
 some false
 else
 aa (spec_l2Symbol a0.Name) fun v30=>
 bif v30 then
 aa (spec_l2Good a0) fun v33=>
 some v33
 else
 some false

def spec_l2Any(a0:Tt):Option Bool:=
 aa (spec_l2Good a0) fun v4=>
 bif v4 then
 some true
 else
 aa (spec_l2Atom a0) fun v7=>
 some v7

def spec_ApplySubstitution(a0:Sa)(a1:Tt):Option (Tt×Bool):=
 aa (spec_l4Good a0) fun v8=>
 bif v8 then
 aa (spec_l2Any a1) fun v12=>
 bif v12 then
 aa (spec_l4Apply a0 a1) fun v18=>
 aa (spec_l2Any v18) fun v20=>
 bif v20 then
 some (v18,true)
 else
 some ((Tt.mk ⟨#[]⟩ ([])),false)
 else
 some ((Tt.mk ⟨#[]⟩ ([])),false)
 else
 some ((Tt.mk ⟨#[]⟩ ([])),false)

def vTermsN:Nat→Tt→Tt→Option Bool
 | 0,_,_=>none
 | n+1,a0,a1=>
 bif decide (a0.Name=a1.Name) then
 bif decide ((a0.Args.length:Int)=(a1.Args.length:Int)) then
 thenL (ρ:=Bool) (σ:=Unit) (forN (fun (i4:Nat) (s4:Unit)=>
 aa (idx a0.Args (i4:Int)) fun v30=>
 aa (idx a1.Args (i4:Int)) fun v35=>
 aa (vTermsN n v30 v35) fun v37=>
 bif v37 then
 some (.nx ())
 else
 some (.rt false)) a0.Args.length 0 ()) fun s4=>
 some true
 else
 some false
 else
 some false
def vTerms(a0:Tt)(a1:Tt):Option Bool:=lim fun n=>vTermsN n a0 a1

def FnGrammars(a0:List Int):Option Bool:=
 aa (vBig a0) fun v20=>
 bif v20 then
 some true
 else
 aa (spec_DrawSmallestDecomposition a0) fun v22=>
 aa (impl_SmallestDecomposition v22) fun v25=>
 aa (impl_SizeGain v22) fun v30=>
 aa (spec_SmallestDecomposition v22) fun v35=>
 bif v25.2==v35.2 then
 bif v30.2==v35.2 then
 bif v25.2 then
 aa (impl_DescribesTerms v25.1 v22) fun v61=>
 aa (impl_GeneralizeTerms v22) fun v66=>
 bif v61.1 then
 bif v61.2 then
 bif v66.2.2 then
 bif decide (v30.1<0) then
 some false
 else
 bif decide (v30.1=(IntKind.i64.wrap ((IntKind.i64.wrap ((v22.length:Int)-(v25.1.Patterns.length:Int)))-(v25.1.Instances.length:Int)))) then
 aa (impl_IsValidDecomposition v25.1) fun v100=>
 bif v100 then
 thenL (ρ:=Bool) (σ:=Unit) (forN (fun (i14:Nat) (s14:Unit)=>
 bif decide (0<(v66.2.1.length:Int)) then
 bif decide ((v66.2.1.length:Int)=(v22.length:Int)) then
 aa (idx v66.2.1 (i14:Int)) fun v121=>
 aa (spec_ApplySubstitution (Sa.mk ([(Bt.mk (⟨#[65]⟩:ByteArray) v121)])) v66.1) fun v127=>
 bif v127.2 then
 aa (idx v22 (i14:Int)) fun v136=>
 aa (vTerms v127.1 v136) fun v138=>
 bif v138 then
 some (.nx ())
 else
 some (.rt false)
 else
 some (.rt false)
 else
 some (.rt false)
 else
 aa (idx v22 (i14:Int)) fun v136=>
 aa (vTerms v66.1 v136) fun v138=>
 bif v138 then
 some (.nx ())
 else
 some (.rt false)) v22.length 0 ()) fun s14=>
 some true
 else
 some false
 else
 some false
 else
 some false
 else
 some false
 else
 some false
 else
 bif false==v35.2 then
 some (v30.2==v35.2)
 else
 some false
 else
 some (v30.2==v35.2)
 else
 some false

end
end Go.Proofs.YtnjgpibbjiofpaaGreat
