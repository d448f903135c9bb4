/- Lemmas of the proof; each says what it shows. -/
import Derived.Test.YtnjgpibbjiofpaaGreatGty
set_option linter.unusedSimpArgs false
set_option linter.unusedVariables false
set_option linter.defProp false
set_option maxRecDepth 4000
namespace Go.Proofs.YtnjgpibbjiofpaaGreat
open Go.Av
open Option renaming bind→ae
noncomputable section
mutual
def szTermSN:Nat→(List Tt)→Int→Option Int
 | 0,_,_=>none
 | n+1,a0,a1=>
 bif decide ((IntKind.i64.wrap (a1-(a0.length:Int)))<0) then
 some (-1:Int)
 else
 thenL (ρ:=Int) (σ:=Int) (forN (fun (i5:Nat) (s5:Int)=>
 ae (idx a0 (i5:Int)) fun v20=>
 ae (szTermN n v20 s5) fun v23=>
 bif decide (v23<0) then
 some (.rt (-1:Int))
 else
 some (.nx v23)) a0.length 0 (IntKind.i64.wrap (a1-(a0.length:Int)))) fun s5=>
 some s5
def szTermN:Nat→Tt→Int→Option Int
 | 0,_,_=>none
 | n+1,a0,a1=>
 bif decide ((IntKind.i64.wrap (a1-(a0.Name.size:Int)))<0) then
 some (-1:Int)
 else
 ae (szTermSN n a0.Args (IntKind.i64.wrap (a1-(a0.Name.size:Int)))) fun v15=>
 bif decide (v15<0) then
 some (-1:Int)
 else
 some v15
end
def szTermS(a0:List Tt)(a1:Int):Option Int:=lim fun n=>szTermSN n a0 a1
def szTerm(a0:Tt)(a1:Int):Option Int:=lim fun n=>szTermN n a0 a1

mutual
def toTermSN:Nat→(List Tt)→Option (List Tt)
 | 0,_=>none
 | n+1,a0=>
 ae (mkn (a0.length:Int)) fun n7=>
 thenL (ρ:=(List Tt)) (σ:=(List Tt)) (forN (fun (i3:Nat) (s3:(List Tt))=>
 ae (idx a0 (i3:Int)) fun v18=>
 ae (toTermN n v18) fun v20=>
 ae (idx s3 (i3:Int)) fun v21=>
 ae (idx s3 (i3:Int)) fun w2=>
 some (.nx (s3.set (i3:Int).toNat v20))) a0.length 0 (List.replicate n7 (Tt.mk ⟨#[]⟩ ([])))) fun s3=>
 some s3
def toTermN:Nat→Tt→Option Tt
 | 0,_=>none
 | n+1,a0=>
 ae (toTermSN n a0.Args) fun v9=>
 some (Tt.mk a0.Name v9)
end
def toTermS(a0:List Tt):Option (List Tt):=lim fun n=>toTermSN n a0
def toTerm(a0:Tt):Option Tt:=lim fun n=>toTermN n a0

def spec_l1In(a0:Int)(a1:Int)(a2:Int):Option Bool:=
 bif decide (a1≤a0) then
 some (decide (a0≤a2))
 else
 some false

def spec_l2ManyN:Nat→Tt→Int→Option Int
 | 0,_,_=>none
 | n+1,a0,a1=>
 thenL (ρ:=Int) (σ:=Int) (forN (fun (i3:Nat) (s3:Int)=>
 bif decide (s3≤a1) then
 ae (idx a0.Args (i3:Int)) fun v23=>
 ae (spec_l2ManyN n v23 (IntKind.i64.wrap (a1-s3))) fun v28=>
 some (.nx (IntKind.i64.wrap (s3+v28)))
 else
 some (.rt s3)) a0.Args.length 0 (1:Int)) fun s3=>
 some s3
def spec_l2Many(a0:Tt)(a1:Int):Option Int:=lim fun n=>spec_l2ManyN n a0 a1

def spec_l1Most(a0:Int)(a1:Int):Option Int:=
 bif decide (a1<a0) then
 some a0
 else
 some a1

def spec_l2DepthN:Nat→Tt→Option Int
 | 0,_=>none
 | n+1,a0=>
 thenL (ρ:=Int) (σ:=Int) (forN (fun (i3:Nat) (s3:Int)=>
 ae (idx a0.Args (i3:Int)) fun v16=>
 ae (spec_l2DepthN n v16) fun v18=>
 ae (spec_l1Most s3 v18) fun v19=>
 some (.nx v19)) a0.Args.length 0 (0:Int)) fun s3=>
 some (IntKind.i64.wrap (s3+1))
def spec_l2Depth(a0:Tt):Option Int:=lim fun n=>spec_l2DepthN n a0

def spec_l2Fits(a0:Tt):Option Bool:=
 ae (spec_l2Many a0 30) fun v4=>
 bif decide (v4≤30) then
 ae (spec_l2Depth a0) fun v8=>
 some (decide (v8≤8))
 else
 some false

def spec_l2Small(a0:Int):Option Bool:=
 bif decide (97≤a0) then
 bif decide (a0≤122) then
 some true
 else
 bif decide (48≤a0) then
 some (decide (a0≤57))
 else
 some false
 else
 bif decide (48≤a0) then
 some (decide (a0≤57))
 else
 some false

def spec_l2Var(a0:ByteArray):Option Bool:=
 ae (spec_l1In (a0.size:Int) 1 4) fun v6=>
 bif v6 then
 ae (sidx a0 (0:Int)) fun v10=>
 bif decide (v10<65) then
 some false
 else
 ae (sidx a0 (0:Int)) fun v15=>
 bif decide (90<v15) then
 some false
 else
 ae (bnd (a0.size:Int)) fun N4=>
 thenL (ρ:=Bool) (σ:=Unit) (forN (fun (i4:Nat) (s4:Unit)=>
 ae (sidx a0 (i4:Int)) fun v26=>
 ae (spec_l2Small v26) fun v27=>
 bif v27 then
 some (.nx ())
 else
 some (.rt false)) (N4-1) 1 ()) fun s4=>
 some true
 else
 some false

def spec_l2Symbol(a0:ByteArray):Option Bool:=
 ae (spec_l1In (a0.size:Int) 1 6) fun v6=>
 bif v6 then
 ae (sidx a0 (0:Int)) fun v10=>
 bif decide (v10<97) then
 some false
 else
 ae (sidx a0 (0:Int)) fun v15=>
 bif decide (122<v15) then
 some false
 else
 bif decide (a0=(⟨#[116,114,117,101]⟩:ByteArray)) then
 some false
 else
 bif decide (a0=(⟨#[102,97,108,115,101]⟩:ByteArray)) then
 some false
 else
 bif decide (a0=(⟨#[116,114,117,116,104]⟩:ByteArray)) then
 some false
 else
 bif decide (a0=(⟨#[98,111,116,104]⟩:ByteArray)) then
 some false
 else
 bif decide (a0=(⟨#[101,105,116,104,101,114]⟩:ByteArray)) then
 some false
 else
 bif decide (a0=(⟨#[105,102]⟩:ByteArray)) then
 some false
 else
 bif decide (a0=(⟨#[97,108,108]⟩:ByteArray)) then
 some false
 else
 bif decide (a0=(⟨#[115,111,109,101]⟩:ByteArray)) then
 some false
 else
 ae (bnd (a0.size:Int)) fun N14=>
 thenL (ρ:=Bool) (σ:=Unit) (forN (fun (i14:Nat) (s14:Unit)=>
 ae (sidx a0 (i14:Int)) fun v36=>
 ae (spec_l2Small v36) fun v37=>
 bif v37 then
 some (.nx ())
 else
 ae (sidx a0 (i14:Int)) fun v42=>
 bif decide (v42=95) then
 some (.nx ())
 else
 some (.rt false)) (N14-1) 1 ()) fun s14=>
 some true
 else
 some false

def spec_l2NodesN:Nat→Tt→Option Bool
 | 0,_=>none
 | n+1,a0=>
 ae (spec_l2Var a0.Name) fun v6=>
 bif v6 then
 some (decide ((a0.Args.length:Int)=0))
 else
 ae (spec_l2Symbol a0.Name) fun v13=>
 bif v13 then
 bif decide (4<(a0.Args.length:Int)) then
 some false
 else
 thenL (ρ:=Bool) (σ:=Unit) (forN (fun (i6:Nat) (s6:Unit)=>
 ae (idx a0.Args (i6:Int)) fun v31=>
 ae (spec_l2NodesN n v31) fun v33=>
 bif v33 then
 some (.nx ())
 else
 some (.rt false)) a0.Args.length 0 ()) fun s6=>
 some true
 else
 some false
def spec_l2Nodes(a0:Tt):Option Bool:=lim fun n=>spec_l2NodesN n a0

def spec_l2Good(a0:Tt):Option Bool:=
 ae (spec_l2Fits a0) fun v4=>
 bif v4 then
 ae (spec_l2Nodes a0) fun v7=>
 some v7
 else
 some false

def spec_l2Put(a0:List ByteArray)(a1:ByteArray):Option (List ByteArray):=
 thenL (ρ:=(List ByteArray)) (σ:=Unit) (forN (fun (i2:Nat) (s2:Unit)=>
 ae (idx a0 (i2:Int)) fun v13=>
 bif Op.bytesLess v13.data.toList a1.data.toList then
 some (.nx ())
 else
 ae (idx a0 (i2:Int)) fun v27=>
 bif decide (v27=a1) then
 some (.rt a0)
 else
 ae (slc a0 (0:Int) (i2:Int)) fun v36=>
 ae (app ([]) v36) fun v37=>
 ae (app v37 ([a1])) fun v40=>
 ae (slc a0 (i2:Int) (a0.length:Int)) fun v43=>
 ae (app v40 v43) fun v44=>
 some (.rt v44)) a0.length 0 ()) fun s2=>
 ae (slc a0 (0:Int) ((a0.length:Nat):Int)) fun v36=>
 ae (app ([]) v36) fun v37=>
 ae (app v37 ([a1])) fun v40=>
 ae (slc a0 ((a0.length:Nat):Int) (a0.length:Int)) fun v43=>
 ae (app v40 v43) fun v44=>
 some v44

def spec_l2IntoN:Nat→(List ByteArray)→Tt→Option (List ByteArray)
 | 0,_,_=>none
 | n+1,a0,a1=>
 ae (spec_l2Var a1.Name) fun v8=>
 bif v8 then
 ae (spec_l2Put a0 a1.Name) fun v12=>
 some v12
 else
 thenL (ρ:=(List ByteArray)) (σ:=(List ByteArray)) (forN (fun (i4:Nat) (s4:(List ByteArray))=>
 ae (idx a1.Args (i4:Int)) fun v24=>
 ae (spec_l2IntoN n s4 v24) fun v26=>
 some (.nx v26)) a1.Args.length 0 a0) fun s4=>
 some s4
def spec_l2Into(a0:List ByteArray)(a1:Tt):Option (List ByteArray):=lim fun n=>spec_l2IntoN n a0 a1

def spec_l2Vars(a0:Tt):Option (List ByteArray):=
 ae (spec_l2Into ([]) a0) fun v5=>
 some v5

def spec_l16Ground(a0:Tt):Option Bool:=
 ae (spec_l2Vars a0) fun v4=>
 some (decide ((v4.length:Int)=0))

def spec_l16Terms(a0:List Tt):Option Bool:=
 thenL (ρ:=Bool) (σ:=Unit) (forN (fun (i2:Nat) (s2:Unit)=>
 bif decide ((i2:Int)≤60) then
 ae (idx a0 (i2:Int)) fun v16=>
 ae (spec_l2Good v16) fun v18=>
 bif v18 then
 ae (idx a0 (i2:Int)) fun v23=>
 ae (spec_l16Ground v23) fun v25=>
 bif v25 then
 some (.nx ())
 else
 some (.rt false)
 else
 some (.rt false)
 else
 some (.rt (decide ((a0.length:Int)≤60)))) a0.length 0 ()) fun s2=>
 some (decide ((a0.length:Int)≤60))

def spec_l2SameN:Nat→Tt→Tt→Option Bool
 | 0,_,_=>none
 | n+1,a0,a1=>
 bif decide (a0.Name=a1.Name) then
 bif decide ((a0.Args.length:Int)=(a1.Args.length:Int)) then
 thenL (ρ:=Bool) (σ:=Unit) (forN (fun (i4:Nat) (s4:Unit)=>
 ae (idx a0.Args (i4:Int)) fun v30=>
 ae (idx a1.Args (i4:Int)) fun v35=>
 ae (spec_l2SameN n v30 v35) fun v37=>
 bif v37 then
 some (.nx ())
 else
 some (.rt false)) a0.Args.length 0 ()) fun s4=>
 some true
 else
 some false
 else
 some false
def spec_l2Same(a0:Tt)(a1:Tt):Option Bool:=lim fun n=>spec_l2SameN n a0 a1

def spec_l16Index(a0:List Tt)(a1:Tt):Option Int:=
 thenL (ρ:=Int) (σ:=Unit) (forN (fun (i2:Nat) (s2:Unit)=>
 ae (idx a0 (i2:Int)) fun v14=>
 ae (spec_l2Same v14 a1) fun v17=>
 bif v17 then
 some (.rt (i2:Int))
 else
 some (.nx ())) a0.length 0 ()) fun s2=>
 some (-1:Int)

def spec_l22Different(a0:List Tt):Option Bool:=
 ae (spec_l1In (a0.length:Int) 1 6) fun v6=>
 bif v6 then
 ae (spec_l16Terms a0) fun v10=>
 bif v10 then
 thenL (ρ:=Bool) (σ:=Unit) (forN (fun (i4:Nat) (s4:Unit)=>
 ae (slc a0 (0:Int) (i4:Int)) fun v21=>
 ae (idx a0 (i4:Int)) fun v24=>
 ae (spec_l16Index v21 v24) fun v26=>
 bif decide (0≤v26) then
 some (.rt false)
 else
 some (.nx ())) a0.length 0 ()) fun s4=>
 some true
 else
 some false
 else
 some false

def spec_l2Text(a0:ByteArray)(a1:ByteArray):Option Int:=
 bif Op.bytesLess a0.data.toList a1.data.toList then
 some (-1:Int)
 else
 bif decide (a0=a1) then
 some (0:Int)
 else
 some (1:Int)

def spec_l2CompareN:Nat→Tt→Tt→Option Int
 | 0,_,_=>none
 | n+1,a0,a1=>
 ae (spec_l2Var a0.Name) fun v11=>
 ae (spec_l2Var a1.Name) fun v14=>
 bif v11 then
 bif v14 then
 bif decide (a0.Name=a1.Name) then
 bif decide ((a0.Args.length:Int)<(a1.Args.length:Int)) then
 some (-1:Int)
 else
 bif decide ((a1.Args.length:Int)<(a0.Args.length:Int)) then
 some (1:Int)
 else
 thenL (ρ:=Int) (σ:=Unit) (forN (fun (i13:Nat) (s13:Unit)=>
 ae (idx a0.Args (i13:Int)) fun v64=>
 ae (idx a1.Args (i13:Int)) fun v69=>
 ae (spec_l2CompareN n v64 v69) fun v71=>
 bif decide (v71=0) then
 some (.nx ())
 else
 some (.rt v71)) a0.Args.length 0 ()) fun s13=>
 some (0:Int)
 else
 ae (spec_l2Text a0.Name a1.Name) fun v37=>
 some v37
 else
 some (-1:Int)
 else
 bif v14 then
 some (1:Int)
 else
 bif decide (a0.Name=a1.Name) then
 bif decide ((a0.Args.length:Int)<(a1.Args.length:Int)) then
 some (-1:Int)
 else
 bif decide ((a1.Args.length:Int)<(a0.Args.length:Int)) then
 some (1:Int)
 else
 thenL (ρ:=Int) (σ:=Unit) (forN (fun (i13:Nat) (s13:Unit)=>
 ae (idx a0.Args (i13:Int)) fun v64=>
 ae (idx a1.Args (i13:Int)) fun v69=>
 ae (spec_l2CompareN n v64 v69) fun v71=>
 bif decide (v71=0) then
 some (.nx ())
 else
 some (.rt v71)) a0.Args.length 0 ()) fun s13=>
 some (0:Int)
 else
 ae (spec_l2Text a0.Name a1.Name) fun v37=>
 some v37
def spec_l2Compare(a0:Tt)(a1:Tt):Option Int:=lim fun n=>spec_l2CompareN n a0 a1

def spec_l16Put(a0:List Tt)(a1:Tt):Option (List Tt):=
 thenL (ρ:=(List Tt)) (σ:=Unit) (forN (fun (i2:Nat) (s2:Unit)=>
 ae (idx a0 (i2:Int)) fun v13=>
 ae (spec_l2Compare v13 a1) fun v16=>
 bif decide (v16<0) then
 some (.nx ())
 else
 ae (idx a0 (i2:Int)) fun v28=>
 ae (spec_l2Same v28 a1) fun v31=>
 bif v31 then
 some (.rt a0)
 else
 ae (slc a0 (0:Int) (i2:Int)) fun v37=>
 ae (app ([]) v37) fun v38=>
 ae (app v38 ([a1])) fun v41=>
 ae (slc a0 (i2:Int) (a0.length:Int)) fun v44=>
 ae (app v41 v44) fun v45=>
 some (.rt v45)) a0.length 0 ()) fun s2=>
 ae (slc a0 (0:Int) ((a0.length:Nat):Int)) fun v37=>
 ae (app ([]) v37) fun v38=>
 ae (app v38 ([a1])) fun v41=>
 ae (slc a0 ((a0.length:Nat):Int) (a0.length:Int)) fun v44=>
 ae (app v41 v44) fun v45=>
 some v45

def spec_l2OwnN:Nat→Tt→Option Tt
 | 0,_=>none
 | n+1,a0=>
 thenL (ρ:=Tt) (σ:=(List Tt)) (forN (fun (i3:Nat) (s3:(List Tt))=>
 ae (idx a0.Args (i3:Int)) fun v20=>
 ae (spec_l2OwnN n v20) fun v22=>
 ae (app s3 ([v22])) fun v24=>
 some (.nx v24)) a0.Args.length 0 ([])) fun s3=>
 some (Tt.mk a0.Name s3)
def spec_l2Own(a0:Tt):Option Tt:=lim fun n=>spec_l2OwnN n a0

def spec_l22Copy(a0:List Tt):Option (List Tt):=
 thenL (ρ:=(List Tt)) (σ:=(List Tt)) (forN (fun (i3:Nat) (s3:(List Tt))=>
 ae (idx a0 (i3:Int)) fun v15=>
 ae (spec_l2Own v15) fun v17=>
 ae (app s3 ([v17])) fun v19=>
 some (.nx v19)) a0.length 0 ([])) fun s3=>
 some s3

def spec_l22Same(a0:List Tt)(a1:List Tt):Option Bool:=
 bif decide ((a0.length:Int)=(a1.length:Int)) then
 thenL (ρ:=Bool) (σ:=Unit) (forN (fun (i4:Nat) (s4:Unit)=>
 ae (idx a0 (i4:Int)) fun v19=>
 ae (idx a1 (i4:Int)) fun v23=>
 ae (spec_l2Same v19 v23) fun v25=>
 bif v25 then
 some (.nx ())
 else
 some (.rt false)) a0.length 0 ()) fun s4=>
 some true
 else
 some false

def spec_l22GeneralN:Nat→(List Tt)→Option (Tt×(List Tt))
 | 0,_=>none
 | n+1,a0=>
 ae (idx a0 0) fun v17=>
 thenL (ρ:=(Tt×(List Tt))) (σ:=Bool×Bool) (forN (fun (i4:Nat) (s4:Bool×Bool)=>
 bif s4.1 then
 ae (idx a0 (i4:Int)) fun v30=>
 ae (spec_l2Same v17 v30) fun v32=>
 bif s4.2 then
 ae (idx a0 (i4:Int)) fun v38=>
 bif decide (v38.Name=v17.Name) then
 ae (idx a0 (i4:Int)) fun v48=>
 some (.nx (v32,decide ((v48.Args.length:Int)=(v17.Args.length:Int))))
 else
 some (.nx (v32,false))
 else
 some (.nx (v32,false))
 else
 bif s4.2 then
 ae (idx a0 (i4:Int)) fun v38=>
 bif decide (v38.Name=v17.Name) then
 ae (idx a0 (i4:Int)) fun v48=>
 some (.nx (false,decide ((v48.Args.length:Int)=(v17.Args.length:Int))))
 else
 some (.nx (false,false))
 else
 some (.nx (false,false))) (a0.length-1) 1 (true,true)) fun s4=>
 bif s4.1 then
 ae (spec_l2Own v17) fun v59=>
 some (v59,[])
 else
 bif s4.2 then
 thenL (ρ:=(Tt×(List Tt))) (σ:=(List Tt)×(List Tt)) (forN (fun (i16:Nat) (s16:(List Tt)×(List Tt))=>
 thenL (ρ:=(Flow (Tt×(List Tt)) ((List Tt)×(List Tt)))) (σ:=(List Tt)) (forN (fun (i20:Nat) (s20:(List Tt))=>
 ae (idx a0 (i20:Int)) fun v88=>
 ae (idx v88.Args (i16:Int)) fun v92=>
 ae (app s20 ([v92])) fun v95=>
 some (.nx v95)) a0.length 0 ([])) fun s20=>
 ae (spec_l22GeneralN n s20) fun v98=>
 bif decide (0<(v98.2.length:Int)) then
 bif decide (0<(s16.1.length:Int)) then
 ae (spec_l22Same s16.1 v98.2) fun v112=>
 bif v112 then
 ae (app s16.2 ([v98.1])) fun v126=>
 some (.nx (v98.2,v126))
 else
 ae (spec_l22Copy a0) fun v117=>
 some (.rt ((Tt.mk (⟨#[65]⟩:ByteArray) ([])),v117))
 else
 ae (app s16.2 ([v98.1])) fun v126=>
 some (.nx (v98.2,v126))
 else
 ae (app s16.2 ([v98.1])) fun v126=>
 some (.nx (s16.1,v126))) v17.Args.length 0 ([],[])) fun s16=>
 some ((Tt.mk v17.Name s16.2),s16.1)
 else
 ae (spec_l22Copy a0) fun v66=>
 some ((Tt.mk (⟨#[65]⟩:ByteArray) ([])),v66)
def spec_l22General(a0:List Tt):Option (Tt×(List Tt)):=lim fun n=>spec_l22GeneralN n a0

def spec_l22Rows(a0:List Tt):Option (List lf):=
 thenL (ρ:=(List lf)) (σ:=Int×(List lf)) (lim fun n3=>whileN (fun (s3:Int×(List lf))=>
 ae (shl .i64 (1:Int) (IntKind.u64.wrap (a0.length:Int))) fun v22=>
 bif decide (s3.1<v22) then
 thenL (ρ:=(Flow (List lf) (Int×(List lf)))) (σ:=(List Tt)) (forN (fun (i7:Nat) (s7:(List Tt))=>
 ae (shr .i64 s3.1 (IntKind.u64.wrap (i7:Int))) fun v36=>
 bif decide ((bitand .i64 v36 (1:Int))=1) then
 ae (idx a0 (i7:Int)) fun v42=>
 ae (app s7 ([v42])) fun v45=>
 some (.nx v45)
 else
 some (.nx s7)) a0.length 0 ([])) fun s7=>
 bif decide ((s7.length:Int)<2) then
 some (.nx (IntKind.i64.wrap (s3.1+1),s3.2))
 else
 ae (spec_l22General s7) fun v51=>
 thenL (ρ:=(Flow (List lf) (Int×(List lf)))) (σ:=(List Tt)) (forN (fun (i15:Nat) (s15:(List Tt))=>
 ae (idx v51.2 (i15:Int)) fun v64=>
 ae (spec_l16Put s15 v64) fun v66=>
 some (.nx v66)) v51.2.length 0 ([])) fun s15=>
 thenL (ρ:=(Flow (List lf) (Int×(List lf)))) (σ:=Int) (forN (fun (i20:Nat) (s20:Int)=>
 bif decide (s20<0) then
 ae (idx s3.2 (i20:Int)) fun v79=>
 ae (spec_l22Same v79.instances s15) fun v83=>
 bif v83 then
 some (.nx (i20:Int))
 else
 some (.nx s20)
 else
 ae (idx s3.2 s20) fun v96=>
 ae (idx s3.2 s20) fun v97=>
 ae (app v97.candidates ([(ld.mk v51.1 s3.1)])) fun v104=>
 ae (idx s3.2 s20) fun v109=>
 ae (idx s3.2 s20) fun w11=>
 some (.rt (.nx (IntKind.i64.wrap (s3.1+1),s3.2.set s20.toNat (lf.mk v97.instances v104))))) s3.2.length 0 (-1:Int)) fun s20=>
 bif decide (s20<0) then
 ae (app s3.2 ([(lf.mk s15 ([]))])) fun v93=>
 ae (idx v93 (s3.2.length:Int)) fun v96=>
 ae (idx v93 (s3.2.length:Int)) fun v97=>
 ae (app v97.candidates ([(ld.mk v51.1 s3.1)])) fun v104=>
 ae (idx v93 (s3.2.length:Int)) fun v109=>
 ae (idx v93 (s3.2.length:Int)) fun w14=>
 some (.nx (IntKind.i64.wrap (s3.1+1),v93.set (s3.2.length:Int).toNat (lf.mk v97.instances v104)))
 else
 ae (idx s3.2 s20) fun v96=>
 ae (idx s3.2 s20) fun v97=>
 ae (app v97.candidates ([(ld.mk v51.1 s3.1)])) fun v104=>
 ae (idx s3.2 s20) fun v109=>
 ae (idx s3.2 s20) fun w15=>
 some (.nx (IntKind.i64.wrap (s3.1+1),s3.2.set s20.toNat (lf.mk v97.instances v104)))
 else
 some (.br s3)) n3 ((1:Int),[])) fun s3=>
 thenL (ρ:=(List lf)) (σ:=(List lf)×Int) (lim fun n31=>whileN (fun (s31:(List lf)×Int)=>
 bif decide (s31.2<(s31.1.length:Int)) then
 ae (idx s31.1 s31.2) fun v118=>
 ae (idx s31.1 s31.2) fun v119=>
 thenL (ρ:=(Flow (List lf) ((List lf)×Int))) (σ:=(List ld)) (forN (fun (i35:Nat) (s35:(List ld))=>
 ae (idx a0 (i35:Int)) fun v130=>
 ae (shl .i64 (1:Int) (IntKind.u64.wrap (i35:Int))) fun v134=>
 ae (app s35 ([(ld.mk v130 v134)])) fun v137=>
 some (.nx v137)) a0.length 0 v119.candidates) fun s35=>
 ae (idx s31.1 s31.2) fun v142=>
 ae (idx s31.1 s31.2) fun w19=>
 some (.nx (s31.1.set s31.2.toNat (lf.mk v119.instances s35),IntKind.i64.wrap (s31.2+1)))
 else
 some (.br s31)) n31 (s3.2,(0:Int))) fun s31=>
 some s31.1

def spec_l1Least(a0:Int)(a1:Int):Option Int:=
 bif decide (a0<a1) then
 some a0
 else
 some a1

def spec_l22Fewest(a0:List ld)(a1:Int):Option (List (List Int)):=
 ae (mkn (IntKind.i64.wrap ((a0.length:Int)+1))) fun n14=>
 thenL (ρ:=(List (List Int))) (σ:=(List (List Int))×Int) (lim fun n4=>whileN (fun (s4:(List (List Int))×Int)=>
 bif decide (0≤s4.2) then
 ae (mkn (IntKind.i64.wrap (a1+1))) fun n22=>
 thenL (ρ:=(Flow (List (List Int)) ((List (List Int))×Int))) (σ:=(List Int)×Int) (lim fun n8=>whileN (fun (s8:(List Int)×Int)=>
 bif decide (s8.2≤a1) then
 ae (idx s8.1 s8.2) fun v30=>
 ae (idx s8.1 s8.2) fun w3=>
 bif decide (s8.2=a1) then
 ae (idx (s8.1.set s8.2.toNat (1000:Int)) s8.2) fun v36=>
 ae (idx (s8.1.set s8.2.toNat (1000:Int)) s8.2) fun w5=>
 some (.nx ((s8.1.set s8.2.toNat (1000:Int)).set s8.2.toNat (0:Int),IntKind.i64.wrap (s8.2+1)))
 else
 bif decide (s4.2<(a0.length:Int)) then
 ae (idx s4.1 (IntKind.i64.wrap (s4.2+1))) fun v45=>
 ae (idx v45 s8.2) fun v48=>
 ae (idx s4.1 (IntKind.i64.wrap (s4.2+1))) fun v53=>
 ae (idx a0 s4.2) fun v58=>
 ae (idx v53 (bitor .i64 s8.2 v58.covers)) fun v62=>
 ae (spec_l1Least v48 (IntKind.i64.wrap ((1:Int)+v62))) fun v65=>
 ae (idx (s8.1.set s8.2.toNat (1000:Int)) s8.2) fun v66=>
 ae (idx (s8.1.set s8.2.toNat (1000:Int)) s8.2) fun w7=>
 some (.nx ((s8.1.set s8.2.toNat (1000:Int)).set s8.2.toNat v65,IntKind.i64.wrap (s8.2+1)))
 else
 some (.nx (s8.1.set s8.2.toNat (1000:Int),IntKind.i64.wrap (s8.2+1)))
 else
 some (.br s8)) n8 (List.replicate n22 (0:Int),(0:Int))) fun s8=>
 ae (idx s4.1 s4.2) fun v70=>
 ae (idx s4.1 s4.2) fun w8=>
 some (.nx (s4.1.set s4.2.toNat s8.1,IntKind.i64.wrap (s4.2-1)))
 else
 some (.br s4)) n4 (List.replicate n14 ([]),(a0.length:Int))) fun s4=>
 some s4.1

def spec_l22Select(a0:lf)(a1:Int):Option (List Tt):=
 ae (spec_l22Fewest a0.candidates a1) fun v13=>
 thenL (ρ:=(List Tt)) (σ:=Int×(List Tt)) (forN (fun (i5:Nat) (s5:Int×(List Tt))=>
 bif decide (s5.1=a1) then
 some (.rt s5.2)
 else
 ae (idx a0.candidates (i5:Int)) fun v31=>
 ae (idx v13 (IntKind.i64.wrap ((i5:Int)+1))) fun v38=>
 ae (idx v38 (bitor .i64 s5.1 v31.covers)) fun v41=>
 ae (idx v13 (i5:Int)) fun v46=>
 ae (idx v46 s5.1) fun v49=>
 bif decide ((IntKind.i64.wrap ((1:Int)+v41))=v49) then
 ae (idx a0.candidates (i5:Int)) fun v56=>
 ae (spec_l16Put s5.2 v56.pattern) fun v59=>
 some (.nx (bitor .i64 s5.1 v31.covers,v59))
 else
 some (.nx (s5.1,s5.2))) a0.candidates.length 0 ((0:Int),[])) fun s5=>
 some s5.2

def spec_l22Smallest(a0:List Tt):Option Dt:=
 thenL (ρ:=Dt) (σ:=(List Tt)) (forN (fun (i3:Nat) (s3:(List Tt))=>
 ae (idx a0 (i3:Int)) fun v20=>
 ae (spec_l16Put s3 v20) fun v22=>
 some (.nx v22)) a0.length 0 ([])) fun s3=>
 ae (spec_l22Rows a0) fun v25=>
 thenL (ρ:=Dt) (σ:=(List Tt)×(List Tt)) (forN (fun (i8:Nat) (s8:(List Tt)×(List Tt))=>
 ae (idx v25 (i8:Int)) fun v34=>
 ae (shl .i64 (1:Int) (IntKind.u64.wrap (a0.length:Int))) fun v39=>
 ae (spec_l22Select v34 (IntKind.i64.wrap (v39-1))) fun v41=>
 ae (idx v25 (i8:Int)) fun v44=>
 bif decide ((IntKind.i64.wrap ((v41.length:Int)+(v44.instances.length:Int)))<(IntKind.i64.wrap ((s8.1.length:Int)+(s8.2.length:Int)))) then
 some (.nx (v41,v44.instances))
 else
 some (.nx (s8.1,s8.2))) v25.length 0 (s3,[])) fun s8=>
 ae (spec_l22Copy s8.1) fun v66=>
 ae (spec_l22Copy s8.2) fun v69=>
 some (Dt.mk v66 v69)

def spec_SmallestDecomposition(a0:List Tt):Option (Dt×Bool):=
 ae (spec_l22Different a0) fun v5=>
 bif v5 then
 ae (spec_l22Smallest a0) fun v9=>
 some (v9,true)
 else
 some ((Dt.mk ([]) ([])),false)

def impl_sizeN:Nat→Tt→Option Int
 | 0,_=>none
 | n+1,a0=>
 thenL (ρ:=Int) (σ:=Int) (forN (fun (i3:Nat) (s3:Int)=>
 ae (idx a0.Args (i3:Int)) fun v11=>
 bif decide (30<s3) then
 some (.rt s3)
 else
 ae (impl_sizeN n v11) fun v18=>
 some (.nx (IntKind.i64.wrap (s3+v18)))) a0.Args.length 0 (1:Int)) fun s3=>
 some s3
def impl_size(a0:Tt):Option Int:=lim fun n=>impl_sizeN n a0

def impl_depthN:Nat→Tt→Option Int
 | 0,_=>none
 | n+1,a0=>
 thenL (ρ:=Int) (σ:=Int) (forN (fun (i3:Nat) (s3:Int)=>
 ae (idx a0.Args (i3:Int)) fun v11=>
 ae (impl_depthN n v11) fun v15=>
 some (.nx (max s3 v15))) a0.Args.length 0 (0:Int)) fun s3=>
 some (IntKind.i64.wrap (s3+1))
def impl_depth(a0:Tt):Option Int:=lim fun n=>impl_depthN n a0

def impl_isSmall(a0:Tt):Option Bool:=
 ae (impl_size a0) fun v4=>
 bif decide (v4≤30) then
 ae (impl_depth a0) fun v8=>
 some (decide (v8≤8))
 else
 some false

def impl_isUpper(a0:Int):Option Bool:=
 bif decide (65≤a0) then
 some (decide (a0≤90))
 else
 some false

def impl_isLower(a0:Int):Option Bool:=
 bif decide (97≤a0) then
 some (decide (a0≤122))
 else
 some false

def impl_isDigit(a0:Int):Option Bool:=
 bif decide (48≤a0) then
 some (decide (a0≤57))
 else
 some false

def impl_within(a0:Int)(a1:Int)(a2:Int):Option Bool:=
 bif decide (a1≤a0) then
 some (decide (a0≤a2))
 else
 some false

def impl_isVariable(a0:ByteArray):Option Bool:=
 ae (bnd (a0.size:Int)) fun N2=>
 thenL (ρ:=Bool) (σ:=Unit) (forN (fun (i2:Nat) (s2:Unit)=>
 bif decide ((i2:Int)=0) then
 ae (sidx a0 (i2:Int)) fun v14=>
 ae (impl_isUpper v14) fun v15=>
 bif v15 then
 bif decide (0<(i2:Int)) then
 ae (sidx a0 (i2:Int)) fun v24=>
 ae (impl_isLower v24) fun v25=>
 bif v25 then
 some (.nx ())
 else
 ae (sidx a0 (i2:Int)) fun v31=>
 ae (impl_isDigit v31) fun v32=>
 bif v32 then
 some (.nx ())
 else
 some (.rt false)
 else
 some (.nx ())
 else
 some (.rt false)
 else
 bif decide (0<(i2:Int)) then
 ae (sidx a0 (i2:Int)) fun v24=>
 ae (impl_isLower v24) fun v25=>
 bif v25 then
 some (.nx ())
 else
 ae (sidx a0 (i2:Int)) fun v31=>
 ae (impl_isDigit v31) fun v32=>
 bif v32 then
 some (.nx ())
 else
 some (.rt false)
 else
 some (.nx ())) N2 0 ()) fun s2=>
 ae (impl_within (a0.size:Int) 1 4) fun v39=>
 some v39

def impl_reserved  :Option (List ByteArray):=
 some ([(⟨#[116,114,117,101]⟩:ByteArray),(⟨#[102,97,108,115,101]⟩:ByteArray),(⟨#[116,114,117,116,104]⟩:ByteArray),(⟨#[98,111,116,104]⟩:ByteArray),(⟨#[101,105,116,104,101,114]⟩:ByteArray),(⟨#[105,102]⟩:ByteArray),(⟨#[97,108,108]⟩:ByteArray),(⟨#[115,111,109,101]⟩:ByteArray)])

def slices_Index_Sstring_string(a0:List ByteArray)(a1:ByteArray):Option Int:=
 thenL (ρ:=Int) (σ:=Unit) (forN (fun (i2:Nat) (s2:Unit)=>
 ae (idx a0 (i2:Int)) fun v14=>
 bif decide (a1=v14) then
 some (.rt (i2:Int))
 else
 some (.nx ())) a0.length 0 ()) fun s2=>
 some (-1:Int)

def slices_Contains_Sstring_string(a0:List ByteArray)(a1:ByteArray):Option Bool:=
 ae (slices_Index_Sstring_string a0 a1) fun v7=>
 some (decide (0≤v7))

def impl_isSymbol(a0:ByteArray):Option Bool:=
 ae (bnd (a0.size:Int)) fun N2=>
 thenL (ρ:=Bool) (σ:=Unit) (forN (fun (i2:Nat) (s2:Unit)=>
 bif decide ((i2:Int)=0) then
 ae (sidx a0 (i2:Int)) fun v14=>
 ae (impl_isLower v14) fun v15=>
 bif v15 then
 ae (sidx a0 (i2:Int)) fun v21=>
 ae (impl_isLower v21) fun v22=>
 bif v22 then
 some (.nx ())
 else
 ae (sidx a0 (i2:Int)) fun v27=>
 ae (impl_isDigit v27) fun v28=>
 bif v28 then
 some (.nx ())
 else
 ae (sidx a0 (i2:Int)) fun v34=>
 bif decide (v34=95) then
 some (.nx ())
 else
 some (.rt false)
 else
 some (.rt false)
 else
 ae (sidx a0 (i2:Int)) fun v21=>
 ae (impl_isLower v21) fun v22=>
 bif v22 then
 some (.nx ())
 else
 ae (sidx a0 (i2:Int)) fun v27=>
 ae (impl_isDigit v27) fun v28=>
 bif v28 then
 some (.nx ())
 else
 ae (sidx a0 (i2:Int)) fun v34=>
 bif decide (v34=95) then
 some (.nx ())
 else
 some (.rt false)) N2 0 ()) fun s2=>
 ae (impl_within (a0.size:Int) 1 6) fun v41=>
 bif v41 then
 ae (impl_reserved ) fun v43=>
 ae (slices_Contains_Sstring_string v43 a0) fun v45=>
 some (!v45)
 else
 some false

def slices_IndexFunc_Simpl_Term_impl_Term(a0:List Tt)(a1:Tt→Option Bool):Option Int:=
 thenL (ρ:=Int) (σ:=Unit) (forN (fun (i2:Nat) (s2:Unit)=>
 ae (idx a0 (i2:Int)) fun v14=>
 ae (a1 v14) fun v16=>
 bif v16 then
 some (.rt (i2:Int))
 else
 some (.nx ())) a0.length 0 ()) fun s2=>
 some (-1:Int)

def slices_ContainsFunc_Simpl_Term_impl_Term(a0:List Tt)(a1:Tt→Option Bool):Option Bool:=
 ae (slices_IndexFunc_Simpl_Term_impl_Term a0 a1) fun v7=>
 some (decide (0≤v7))

mutual
def impl_hasNamesN:Nat→Tt→Option Bool
 | 0,_=>none
 | n+1,a0=>
 ae (impl_isVariable a0.Name) fun v5=>
 bif v5 then
 some (decide ((a0.Args.length:Int)=0))
 else
 ae (impl_isSymbol a0.Name) fun v12=>
 bif v12 then
 bif decide ((a0.Args.length:Int)≤4) then
 ae (slices_ContainsFunc_Simpl_Term_impl_Term a0.Args (fun y0=>impl_hasNames_1N n y0)) fun v22=>
 some (!v22)
 else
 some false
 else
 some false
def impl_hasNames_1N:Nat→Tt→Option Bool
 | 0,_=>none
 | n+1,a0=>
 ae (impl_hasNamesN n a0) fun v4=>
 some (!v4)
end
def impl_hasNames(a0:Tt):Option Bool:=lim fun n=>impl_hasNamesN n a0
def impl_hasNames_1(a0:Tt):Option Bool:=lim fun n=>impl_hasNames_1N n a0

def impl_IsValidTerm(a0:Tt):Option Bool:=
 ae (impl_isSmall a0) fun v4=>
 bif v4 then
 ae (impl_hasNames a0) fun v7=>
 some v7
 else
 some false

def impl_isVar(a0:Tt):Option Bool:=
 ae (sidx a0.Name (0:Int)) fun v5=>
 ae (impl_isUpper v5) fun v6=>
 some v6

def impl_collectN:Nat→(List ByteArray)→Tt→Option (List ByteArray)
 | 0,_,_=>none
 | n+1,a0,a1=>
 bif decide ((a1.Args.length:Int)=0) then
 ae (impl_isVar a1) fun v13=>
 bif v13 then
 ae (slices_Contains_Sstring_string a0 a1.Name) fun v18=>
 bif v18 then
 some a0
 else
 ae (app a0 ([a1.Name])) fun v24=>
 some v24
 else
 thenL (ρ:=(List ByteArray)) (σ:=(List ByteArray)) (forN (fun (i6:Nat) (s6:(List ByteArray))=>
 ae (idx a1.Args (i6:Int)) fun v31=>
 ae (impl_collectN n s6 v31) fun v35=>
 some (.nx v35)) a1.Args.length 0 a0) fun s6=>
 some s6
 else
 thenL (ρ:=(List ByteArray)) (σ:=(List ByteArray)) (forN (fun (i6:Nat) (s6:(List ByteArray))=>
 ae (idx a1.Args (i6:Int)) fun v31=>
 ae (impl_collectN n s6 v31) fun v35=>
 some (.nx v35)) a1.Args.length 0 a0) fun s6=>
 some s6
def impl_collect(a0:List ByteArray)(a1:Tt):Option (List ByteArray):=lim fun n=>impl_collectN n a0 a1

def impl_isGroundTerm(a0:Tt):Option Bool:=
 ae (impl_IsValidTerm a0) fun v4=>
 bif v4 then
 ae (impl_collect ([]) a0) fun v7=>
 some (decide ((v7.length:Int)=0))
 else
 some false

def slices_EqualFunc_Simpl_Term_Simpl_Term_impl_Term_impl_Term(a0:List Tt)(a1:List Tt)(a2:Tt→Tt→Option Bool):Option Bool:=
 bif decide ((a0.length:Int)=(a1.length:Int)) then
 thenL (ρ:=Bool) (σ:=Unit) (forN (fun (i4:Nat) (s4:Unit)=>
 ae (idx a0 (i4:Int)) fun v20=>
 ae (idx a1 (i4:Int)) fun v24=>
 ae (a2 v20 v24) fun v29=>
 bif v29 then
 some (.nx ())
 else
 some (.rt false)) a0.length 0 ()) fun s4=>
 some true
 else
 some false

def impl_EqualTermsN:Nat→Tt→Tt→Option Bool
 | 0,_,_=>none
 | n+1,a0,a1=>
 bif decide (a0.Name=a1.Name) then
 ae (slices_EqualFunc_Simpl_Term_Simpl_Term_impl_Term_impl_Term a0.Args a1.Args (fun y0 y1=>impl_EqualTermsN n y0 y1)) fun v15=>
 some v15
 else
 some false
def impl_EqualTerms(a0:Tt)(a1:Tt):Option Bool:=lim fun n=>impl_EqualTermsN n a0 a1

def impl_indexOfAtom_1(a0:Tt)(b0:Tt):Option Bool:=
 ae (impl_EqualTerms a0 b0) fun v6=>
 some v6

def impl_indexOfAtom(a0:List Tt)(a1:Tt):Option Int:=
 ae (slices_IndexFunc_Simpl_Term_impl_Term a0 (fun y0=>impl_indexOfAtom_1 y0 a1)) fun v7=>
 some v7

mutual
def impl_copyTermsN:Nat→(List Tt)→Option (List Tt)
 | 0,_=>none
 | n+1,a0=>
 bif decide ((a0.length:Int)=0) then
 some ([])
 else
 ae (mkn (a0.length:Int)) fun n11=>
 thenL (ρ:=(List Tt)) (σ:=(List Tt)) (forN (fun (i5:Nat) (s5:(List Tt))=>
 ae (idx a0 (i5:Int)) fun v17=>
 ae (impl_copyTermN n v17) fun v22=>
 ae (idx s5 (i5:Int)) fun v23=>
 ae (idx s5 (i5:Int)) fun w3=>
 some (.nx (s5.set (i5:Int).toNat v22))) a0.length 0 (List.replicate n11 (Tt.mk ⟨#[]⟩ ([])))) fun s5=>
 some s5
def impl_copyTermN:Nat→Tt→Option Tt
 | 0,_=>none
 | n+1,a0=>
 ae (impl_copyTermsN n a0.Args) fun v7=>
 some (Tt.mk a0.Name v7)
end
def impl_copyTerms(a0:List Tt):Option (List Tt):=lim fun n=>impl_copyTermsN n a0
def impl_copyTerm(a0:Tt):Option Tt:=lim fun n=>impl_copyTermN n a0

def impl_subset(a0:List Tt)(a1:Int):Option (List Tt):=
 thenL (ρ:=(List Tt)) (σ:=(List Tt)) (forN (fun (i3:Nat) (s3:(List Tt))=>
 ae (idx a0 (i3:Int)) fun v14=>
 ae (shr .i64 a1 (i3:Int)) fun v18=>
 bif decide ((bitand .i64 v18 (1:Int))=1) then
 ae (app s3 ([v14])) fun v24=>
 some (.nx v24)
 else
 some (.nx s3)) a0.length 0 ([])) fun s3=>
 some s3

def impl_generalization_1(a0:Tt)(b0:Tt):Option Bool:=
 ae (impl_EqualTerms a0 b0) fun v6=>
 some (!v6)

def impl_generalization_2(a0:Tt)(b0:Tt):Option Bool:=
 bif decide (a0.Name=b0.Name) then
 some (!(decide ((a0.Args.length:Int)=(b0.Args.length:Int))))
 else
 some true

def impl_generalizationN:Nat→(List Tt)→Option (Tt×(List Tt))
 | 0,_=>none
 | n+1,a0=>
 ae (idx a0 0) fun v15=>
 ae (slices_ContainsFunc_Simpl_Term_impl_Term a0 (fun y0=>impl_generalization_1 y0 v15)) fun v19=>
 bif v19 then
 ae (slices_ContainsFunc_Simpl_Term_impl_Term a0 (fun y0=>impl_generalization_2 y0 v15)) fun v26=>
 bif v26 then
 ae (impl_copyTerms a0) fun v29=>
 bif v29.isEmpty then none else some ((Tt.mk (⟨#[65]⟩:ByteArray) ([])),v29)
 else
 thenL (ρ:=(Tt×(List Tt))) (σ:=(List Tt)×(List Tt)) (forN (fun (i10:Nat) (s10:(List Tt)×(List Tt))=>
 thenL (ρ:=(Flow (Tt×(List Tt)) ((List Tt)×(List Tt)))) (σ:=(List Tt)) (forN (fun (i14:Nat) (s14:(List Tt))=>
 ae (idx a0 (i14:Int)) fun v44=>
 ae (idx v44.Args (i10:Int)) fun v50=>
 ae (app s14 ([v50])) fun v53=>
 some (.nx v53)) a0.length 0 ([])) fun s14=>
 ae (impl_generalizationN n s14) fun v57=>
 ae (app s10.1 ([v57.1])) fun v64=>
 bif v57.2.isEmpty then
 some (.nx (v64,s10.2))
 else
 bif s10.2.isEmpty then
 some (.nx (v64,v57.2))
 else
 ae (slices_EqualFunc_Simpl_Term_Simpl_Term_impl_Term_impl_Term s10.2 v57.2 (fun y0 y1=>impl_EqualTerms y0 y1)) fun v73=>
 bif v73 then
 some (.nx (v64,v57.2))
 else
 ae (impl_copyTerms a0) fun v78=>
 bif v78.isEmpty then none else some (.rt ((Tt.mk (⟨#[65]⟩:ByteArray) ([])),v78))) v15.Args.length 0 ([],[])) fun s10=>
 some ((Tt.mk v15.Name s10.1),s10.2)
 else
 ae (impl_copyTerm v15) fun v22=>
 some (v22,[])
def impl_generalization(a0:List Tt):Option (Tt×(List Tt)):=lim fun n=>impl_generalizationN n a0

def impl_addAtom_1(a0:Tt)(b0:Tt):Option Bool:=
 ae (impl_EqualTerms a0 b0) fun v6=>
 some v6

def impl_addAtom(a0:List Tt)(a1:Tt):Option (List Tt):=
 ae (slices_ContainsFunc_Simpl_Term_impl_Term a0 (fun y0=>impl_addAtom_1 y0 a1)) fun v7=>
 bif v7 then
 some a0
 else
 ae (impl_copyTerm a1) fun v11=>
 ae (app a0 ([v11])) fun v13=>
 some v13

def cmp_isNaN_string(a0:ByteArray):Option Bool:=
 some (!(decide (a0=a0)))

def cmp_Compare_string(a0:ByteArray)(a1:ByteArray):Option Int:=
 ae (cmp_isNaN_string a0) fun v8=>
 ae (cmp_isNaN_string a1) fun v10=>
 bif v8 then
 bif v10 then
 some (0:Int)
 else
 some (-1:Int)
 else
 bif v10 then
 some (1:Int)
 else
 bif Op.bytesLess a0.data.toList a1.data.toList then
 some (-1:Int)
 else
 bif decide (a0=a1) then
 some (0:Int)
 else
 some (1:Int)

def cmp_isNaN_int(a0:Int):Option Bool:=
 some (!(decide (a0=a0)))

def cmp_Compare_int(a0:Int)(a1:Int):Option Int:=
 ae (cmp_isNaN_int a0) fun v8=>
 ae (cmp_isNaN_int a1) fun v10=>
 bif v8 then
 bif v10 then
 some (0:Int)
 else
 some (-1:Int)
 else
 bif v10 then
 some (1:Int)
 else
 bif decide (a0<a1) then
 some (-1:Int)
 else
 bif decide (a1<a0) then
 some (1:Int)
 else
 some (0:Int)

def cmp_Or_int(a0:List Int):Option Int:=
 thenL (ρ:=Int) (σ:=Unit) (forN (fun (i3:Nat) (s3:Unit)=>
 ae (idx a0 (i3:Int)) fun v10=>
 bif decide (v10=0) then
 some (.nx ())
 else
 some (.rt v10)) a0.length 0 ()) fun s3=>
 some (0:Int)

def slices_CompareFunc_Simpl_Term_Simpl_Term_impl_Term_impl_Term(a0:List Tt)(a1:List Tt)(a2:Tt→Tt→Option Int):Option Int:=
 thenL (ρ:=Int) (σ:=Unit) (forN (fun (i2:Nat) (s2:Unit)=>
 ae (idx a0 (i2:Int)) fun v16=>
 bif decide ((a1.length:Int)≤(i2:Int)) then
 some (.rt (1:Int))
 else
 ae (idx a1 (i2:Int)) fun v24=>
 ae (a2 v16 v24) fun v29=>
 bif decide (v29=0) then
 some (.nx ())
 else
 some (.rt v29)) a0.length 0 ()) fun s2=>
 bif decide ((a0.length:Int)<(a1.length:Int)) then
 some (-1:Int)
 else
 some (0:Int)

def impl_compareTermsN:Nat→Tt→Tt→Option Int
 | 0,_,_=>none
 | n+1,a0,a1=>
 ae (impl_isVar a0) fun v9=>
 ae (impl_isVar a1) fun v11=>
 bif v9 then
 bif v11 then
 ae (cmp_Compare_string a0.Name a1.Name) fun v28=>
 ae (cmp_Compare_int (a0.Args.length:Int) (a1.Args.length:Int)) fun v35=>
 ae (cmp_Or_int ([v28,v35])) fun v37=>
 bif decide (v37=0) then
 ae (slices_CompareFunc_Simpl_Term_Simpl_Term_impl_Term_impl_Term a0.Args a1.Args (fun y0 y1=>impl_compareTermsN n y0 y1)) fun v45=>
 some v45
 else
 some v37
 else
 some (-1:Int)
 else
 bif v11 then
 some (1:Int)
 else
 ae (cmp_Compare_string a0.Name a1.Name) fun v28=>
 ae (cmp_Compare_int (a0.Args.length:Int) (a1.Args.length:Int)) fun v35=>
 ae (cmp_Or_int ([v28,v35])) fun v37=>
 bif decide (v37=0) then
 ae (slices_CompareFunc_Simpl_Term_Simpl_Term_impl_Term_impl_Term a0.Args a1.Args (fun y0 y1=>impl_compareTermsN n y0 y1)) fun v45=>
 some v45
 else
 some v37
def impl_compareTerms(a0:Tt)(a1:Tt):Option Int:=lim fun n=>impl_compareTermsN n a0 a1

def cmpT(x y:Tt):Int:=(impl_compareTerms x y).getD 0
structure SortOk(l:List Tt):Prop where
 len:l.length≤1073741824
 ex:∀ x∈l,∀ y∈l,impl_compareTerms x y=some (cmpT x y)
 irr:∀ x∈l,¬ cmpT x x<0
 tr:∀ x∈l,∀ y∈l,∀ z∈l,cmpT x y<0→cmpT y z<0→cmpT x z<0
 ntr:∀ x∈l,∀ y∈l,∀ z∈l,¬ cmpT x y<0→¬ cmpT y z<0→¬ cmpT x z<0
 anti:∀ x∈l,∀ y∈l,¬ cmpT x y<0→¬ cmpT y x<0→x=y
def sortTs(l:List Tt):List Tt:=(l.attach.mergeSort fun x y=>!decide (cmpT y.1 x.1<0)).map (·.1)
def slices_SortFuncT(a0:List Tt):Option (Unit×List Tt):=@ite _ (SortOk a0) (Classical.propDecidable _) (some ((),sortTs a0)) none

def impl_groups(a0:List Tt):Option (List gt):=
 ae (shl .i64 (1:Int) (a0.length:Int)) fun v14=>
 ae (bnd (v14)) fun N3=>
 thenL (ρ:=(List gt)) (σ:=(List gt)) (forN (fun (i3:Nat) (s3:(List gt))=>
 ae (impl_subset a0 (i3:Int)) fun v20=>
 bif decide ((v20.length:Int)<2) then
 some (.nx s3)
 else
 ae (impl_generalization v20) fun v26=>
 thenL (ρ:=(Flow (List gt) (List gt))) (σ:=(List Tt)) (forN (fun (i10:Nat) (s10:(List Tt))=>
 ae (idx v26.2 (i10:Int)) fun v34=>
 ae (impl_addAtom s10 v34) fun v38=>
 some (.nx v38)) v26.2.length 0 ([])) fun s10=>
 ae (slices_SortFuncT s10) fun v41=>
 ae (app s3 ([(gt.mk (i3:Int) v26.1 v41.2)])) fun v48=>
 some (.nx v48)) N3 0 ([])) fun s3=>
 some s3

def impl_SmallestDecomposition_1(a0:gt)(b0:gt):Option Bool:=
 ae (slices_EqualFunc_Simpl_Term_Simpl_Term_impl_Term_impl_Term a0.instances b0.instances (fun y0 y1=>impl_EqualTerms y0 y1)) fun v8=>
 some v8

def slices_IndexFunc_Simpl_grouped_impl_grouped(a0:List gt)(a1:gt→Option Bool):Option Int:=
 thenL (ρ:=Int) (σ:=Unit) (forN (fun (i2:Nat) (s2:Unit)=>
 ae (idx a0 (i2:Int)) fun v14=>
 ae (a1 v14) fun v16=>
 bif v16 then
 some (.rt (i2:Int))
 else
 some (.nx ())) a0.length 0 ()) fun s2=>
 some (-1:Int)

def slices_ContainsFunc_Simpl_grouped_impl_grouped(a0:List gt)(a1:gt→Option Bool):Option Bool:=
 ae (slices_IndexFunc_Simpl_grouped_impl_grouped a0 a1) fun v7=>
 some (decide (0≤v7))

def impl_coverFromN:Nat→(List ct)→Int→Int→Int→Option ((List Int)×Bool)
 | 0,_,_,_,_=>none
 | n+1,a0,a1,a2,a3=>
 bif decide (a2=0) then
 some ([],decide (a3=0))
 else
 thenL (ρ:=((List Int)×Bool)) (σ:=Int) (lim fun n4=>whileN (fun (s4:Int)=>
 bif decide (s4<(a0.length:Int)) then
 ae (idx a0 s4) fun v33=>
 ae (impl_coverFromN n a0 (IntKind.i64.wrap (s4+1)) (IntKind.i64.wrap (a2-1)) (bitandNot .i64 a3 v33.covers)) fun v37=>
 bif v37.2 then
 ae (app ([s4]) v37.1) fun v44=>
 some (.rt (v44,true))
 else
 some (.nx (IntKind.i64.wrap (s4+1)))
 else
 some (.br s4)) n4 a1) fun s4=>
 some ([],false)
def impl_coverFrom(a0:List ct)(a1:Int)(a2:Int)(a3:Int):Option ((List Int)×Bool):=lim fun n=>impl_coverFromN n a0 a1 a2 a3

def impl_cover(a0:List ct)(a1:Int):Option (List Int):=
 thenL (ρ:=(List Int)) (σ:=Int) (lim fun n3=>whileN (fun (s3:Int)=>
 ae (impl_coverFrom a0 0 s3 a1) fun v14=>
 bif v14.2 then
 some (.rt v14.1)
 else
 some (.nx (IntKind.i64.wrap (s3+1)))) n3 (1:Int)) fun s3=>
 none

def impl_SmallestDecomposition(a0:List Tt):Option (Dt×Bool):=
 thenL (ρ:=(Dt×Bool)) (σ:=Unit) (forN (fun (i2:Nat) (s2:Unit)=>
 ae (idx a0 (i2:Int)) fun v24=>
 ae (impl_isGroundTerm v24) fun v27=>
 bif v27 then
 ae (slc a0 (0:Int) (i2:Int)) fun v32=>
 ae (impl_indexOfAtom v32 v24) fun v34=>
 bif decide (0≤v34) then
 some (.rt ((Dt.mk ([]) ([])),false))
 else
 some (.nx ())
 else
 some (.rt ((Dt.mk ([]) ([])),false))) a0.length 0 ()) fun s2=>
 ae (impl_within (a0.length:Int) 1 6) fun v41=>
 bif v41 then
 ae (impl_copyTerms a0) fun v45=>
 ae (impl_groups a0) fun v48=>
 thenL (ρ:=(Dt×Bool)) (σ:=(List Tt)×(List Tt)) (forN (fun (i12:Nat) (s12:(List Tt)×(List Tt))=>
 ae (idx v48 (i12:Int)) fun v54=>
 ae (slc v48 (0:Int) (i12:Int)) fun v59=>
 ae (slices_ContainsFunc_Simpl_grouped_impl_grouped v59 (fun y0=>impl_SmallestDecomposition_1 y0 v54)) fun v61=>
 bif v61 then
 some (.nx (s12.1,s12.2))
 else
 thenL (ρ:=(Flow (Dt×Bool) ((List Tt)×(List Tt)))) (σ:=(List ct)) (forN (fun (i18:Nat) (s18:(List ct))=>
 ae (idx v48 (i18:Int)) fun v67=>
 ae (impl_SmallestDecomposition_1 v67 v54) fun v71=>
 bif v71 then
 ae (app s18 ([(ct.mk v67.pattern v67.bits)])) fun v79=>
 some (.nx v79)
 else
 some (.nx s18)) v48.length 0 ([])) fun s18=>
 thenL (ρ:=(Flow (Dt×Bool) ((List Tt)×(List Tt)))) (σ:=(List ct)) (forN (fun (i24:Nat) (s24:(List ct))=>
 ae (idx a0 (i24:Int)) fun v86=>
 ae (shl .i64 (1:Int) (i24:Int)) fun v91=>
 ae (app s24 ([(ct.mk v86 v91)])) fun v94=>
 some (.nx v94)) a0.length 0 s18) fun s24=>
 ae (impl_copyTerms v54.instances) fun v98=>
 ae (shl .i64 (1:Int) (a0.length:Int)) fun v103=>
 ae (impl_cover s24 (IntKind.i64.wrap (v103-1))) fun v105=>
 thenL (ρ:=(Flow (Dt×Bool) ((List Tt)×(List Tt)))) (σ:=(List Tt)) (forN (fun (i30:Nat) (s30:(List Tt))=>
 ae (idx v105 (i30:Int)) fun v109=>
 ae (idx v105 (i30:Int)) fun v110=>
 ae (idx s24 v110) fun v115=>
 ae (idx s24 v110) fun v117=>
 ae (impl_copyTerm v117.pattern) fun v118=>
 ae (app s30 ([v118])) fun v120=>
 some (.nx v120)) v105.length 0 ([])) fun s30=>
 bif decide ((IntKind.i64.wrap ((s30.length:Int)+(v98.length:Int)))<(IntKind.i64.wrap ((s12.1.length:Int)+(s12.2.length:Int)))) then
 some (.nx (s30,v98))
 else
 some (.nx (s12.1,s12.2))) v48.length 0 (v45,[])) fun s12=>
 ae (slices_SortFuncT s12.1) fun v142=>
 some ((Dt.mk v142.2 s12.2),true)
 else
 some ((Dt.mk ([]) ([])),false)

mutual
def eqTermSN:Nat→(List Tt)→(List Tt)→Option Bool
 | 0,_,_=>none
 | n+1,a0,a1=>
 bif decide ((a0.length:Int)=(a1.length:Int)) then
 thenL (ρ:=Bool) (σ:=Unit) (forN (fun (i4:Nat) (s4:Unit)=>
 ae (idx a0 (i4:Int)) fun v19=>
 ae (idx a1 (i4:Int)) fun v23=>
 ae (eqTermN n v19 v23) fun v25=>
 bif v25 then
 some (.nx ())
 else
 some (.rt false)) a0.length 0 ()) fun s4=>
 some true
 else
 some false
def eqTermN:Nat→Tt→Tt→Option Bool
 | 0,_,_=>none
 | n+1,a0,a1=>
 bif decide (a0.Name=a1.Name) then
 ae (eqTermSN n a0.Args a1.Args) fun v14=>
 bif v14 then
 some true
 else
 some false
 else
 some false
end
def eqTermS(a0:List Tt)(a1:List Tt):Option Bool:=lim fun n=>eqTermSN n a0 a1
def eqTerm(a0:Tt)(a1:Tt):Option Bool:=lim fun n=>eqTermN n a0 a1

def eqDecomposition(a0:Dt)(a1:Dt):Option Bool:=
 ae (eqTermS a0.Patterns a1.Patterns) fun v9=>
 bif v9 then
 ae (eqTermS a0.Instances a1.Instances) fun v15=>
 bif v15 then
 some true
 else
 some false
 else
 some false

def markText(a0:Int):Option ByteArray:=
 bif decide (a0≤0) then
 some (⟨#[109,48]⟩:ByteArray)
 else
 thenL (ρ:=ByteArray) (σ:=Int×ByteArray) (lim fun n4=>whileN (fun (s4:Int×ByteArray)=>
 bif decide (0<s4.1) then
 ae (rem s4.1 (10:Int)) fun v9=>
 ae (bstr ([IntKind.u8.wrap (IntKind.i64.wrap ((48:Int)+v9))])) fun v13=>
 ae (sapp v13 s4.2) fun v15=>
 ae (quo s4.1 (10:Int)) fun v17=>
 some (.nx (v17,v15))
 else
 some (.br s4)) n4 (a0,(⟨#[]⟩:ByteArray))) fun s4=>
 ae (sapp (⟨#[109]⟩:ByteArray) s4.2) fun v19=>
 some v19

def markTermSN:Nat→(List Tt)→Int→Option (Int×(List Tt))
 | 0,_,_=>none
 | n+1,a0,a1=>
 thenL (ρ:=(Int×(List Tt))) (σ:=(List Tt)×Int×Int) (lim fun n2=>whileN (fun (s2:(List Tt)×Int×Int)=>
 bif decide (s2.2.2<(s2.1.length:Int)) then
 ae (markText s2.2.1) fun v15=>
 ae (idx s2.1 s2.2.2) fun v16=>
 ae (idx s2.1 s2.2.2) fun w2=>
 ae (idx (s2.1.set s2.2.2.toNat (Tt.mk v15 w2.Args)) s2.2.2) fun v22=>
 ae (idx (s2.1.set s2.2.2.toNat (Tt.mk v15 w2.Args)) s2.2.2) fun w3=>
 ae (markTermSN n w3.Args (IntKind.i64.wrap (s2.2.1+1))) fun v26=>
 some (.nx ((s2.1.set s2.2.2.toNat (Tt.mk v15 w2.Args)).set s2.2.2.toNat (Tt.mk w3.Name v26.2),v26.1,IntKind.i64.wrap (s2.2.2+1)))
 else
 some (.br s2)) n2 (a0,a1,(0:Int))) fun s2=>
 some (s2.2.1,s2.1)
def markTermS(a0:List Tt)(a1:Int):Option (Int×(List Tt)):=lim fun n=>markTermSN n a0 a1

def markDecomposition(a0:Dt)(a1:Int):Option (Int×(List Tt)×(List Tt)):=
 ae (markTermS a0.Patterns a1) fun v8=>
 ae (markTermS a0.Instances v8.1) fun v12=>
 some (v12.1,v8.2,v12.2)

def heldTermSN:Nat→(List Tt)→Int→Option Int
 | 0,_,_=>none
 | n+1,a0,a1=>
 thenL (ρ:=Int) (σ:=Int) (forN (fun (i2:Nat) (s2:Int)=>
 ae (idx a0 (i2:Int)) fun v14=>
 ae (markText s2) fun v18=>
 bif decide (v14.Name=v18) then
 ae (idx a0 (i2:Int)) fun v24=>
 ae (heldTermSN n v24.Args (IntKind.i64.wrap (s2+1))) fun v28=>
 bif decide (v28<0) then
 some (.rt (-1:Int))
 else
 some (.nx v28)
 else
 some (.rt (-1:Int))) a0.length 0 a1) fun s2=>
 some s2
def heldTermS(a0:List Tt)(a1:Int):Option Int:=lim fun n=>heldTermSN n a0 a1

def heldDecomposition(a0:Dt)(a1:Int):Option Int:=
 ae (heldTermS a0.Patterns a1) fun v8=>
 bif decide (v8<0) then
 some (-1:Int)
 else
 ae (heldTermS a0.Instances v8) fun v14=>
 bif decide (v14<0) then
 some (-1:Int)
 else
 some v14

def FnExactSmallestDecomposition(a0:List Tt):Option Bool:=
 ae (szTermS a0 (1048576:Int)) fun v16=>
 bif decide (v16<0) then
 some true
 else
 ae (toTermS a0) fun v21=>
 ae (spec_SmallestDecomposition v21) fun v22=>
 ae (toTermS a0) fun v26=>
 ae (impl_SmallestDecomposition v26) fun v29=>
 ae (eqDecomposition v29.1 v22.1) fun v34=>
 bif v34 then
 bif v29.2==v22.2 then
 ae (toTermS a0) fun v43=>
 ae (eqTermS v26 v43) fun v44=>
 bif v44 then
 ae (markTermS v26 (1:Int)) fun v48=>
 bif decide (v48.1<0) then
 some false
 else
 ae (eqDecomposition v29.1 v22.1) fun v54=>
 bif v54 then
 ae (markDecomposition v29.1 (1:Int)) fun v64=>
 ae (heldDecomposition (Dt.mk v64.2.1 v64.2.2) (1:Int)) fun v67=>
 bif decide (v67<0) then
 some false
 else
 bif decide (v67=v64.1) then
 ae (toTermS a0) fun v75=>
 ae (impl_SmallestDecomposition v75) fun v76=>
 ae (eqDecomposition v76.1 v22.1) fun v81=>
 bif v81 then
 bif v76.2==v22.2 then
 ae (heldDecomposition (Dt.mk v64.2.1 v64.2.2) (1:Int)) fun v90=>
 bif decide (v90<0) then
 some false
 else
 bif decide (v90=v64.1) then
 some true
 else
 some false
 else
 some false
 else
 some false
 else
 some false
 else
 some false
 else
 some false
 else
 some false
 else
 some false

end
end Go.Proofs.YtnjgpibbjiofpaaGreat
