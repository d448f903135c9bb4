/- Lemmas of the proof; each says what it shows. -/
import Derived.Test.YtkmfaliedpidbaaGty
set_option linter.unusedSimpArgs false
set_option linter.unusedVariables false
set_option linter.defProp false
set_option maxRecDepth 4000
namespace Go.Proofs.Ytkmfaliedpidbaa
open Go.Av
open Option renaming bind→ae
noncomputable section
def vBig(a0:List Int):Option Bool:=
 some (decide (65536<(a0.length:Int)))

def slC_5(a0:la):Option (Int×la):=
 bif decide (a0.at_f<(a0.code.length:Int)) then
 ae (idx a0.code a0.at_f) fun v22=>
 bif decide ((IntKind.i64.wrap (a0.at_f+1))≤(a0.code.length:Int)) then
 some (IntKind.i64.wrap v22,(la.mk a0.code (IntKind.i64.wrap (a0.at_f+1)) (IntKind.u64.wrap ((IntKind.u64.wrap ((IntKind.u64.wrap (a0.seed*6364136223846793005))+(IntKind.u64.wrap (IntKind.i64.wrap v22))))+892892))))
 else
 ae (shr .u64 (IntKind.u64.wrap ((IntKind.u64.wrap ((IntKind.u64.wrap (a0.seed*6364136223846793005))+(IntKind.u64.wrap (IntKind.i64.wrap v22))))+892892)) (40:Int)) fun v59=>
 some (IntKind.i64.wrap (b_ .u64 v59 (255:Int)),(la.mk a0.code (IntKind.i64.wrap (a0.at_f+1)) (IntKind.u64.wrap ((IntKind.u64.wrap ((IntKind.u64.wrap (a0.seed*6364136223846793005))+(IntKind.u64.wrap (IntKind.i64.wrap v22))))+892892))))
 else
 bif decide ((IntKind.i64.wrap (a0.at_f+1))≤(a0.code.length:Int)) then
 some ((0:Int),(la.mk a0.code (IntKind.i64.wrap (a0.at_f+1)) (IntKind.u64.wrap ((IntKind.u64.wrap ((IntKind.u64.wrap (a0.seed*6364136223846793005))+(IntKind.u64.wrap (0:Int))))+892892))))
 else
 ae (shr .u64 (IntKind.u64.wrap ((IntKind.u64.wrap ((IntKind.u64.wrap (a0.seed*6364136223846793005))+(IntKind.u64.wrap (0:Int))))+892892)) (40:Int)) fun v59=>
 some (IntKind.i64.wrap (b_ .u64 v59 (255:Int)),(la.mk a0.code (IntKind.i64.wrap (a0.at_f+1)) (IntKind.u64.wrap ((IntKind.u64.wrap ((IntKind.u64.wrap (a0.seed*6364136223846793005))+(IntKind.u64.wrap (0:Int))))+892892))))

def slC_1(a0:la)(a1:Int):Option (Int×la):=
 bif decide (a1≤1) then
 some ((0:Int),a0)
 else
 ae (slC_5 a0) fun v9=>
 bif decide (200<a1) then
 ae (slC_5 v9.2) fun v15=>
 ae (rem (IntKind.i64.wrap ((IntKind.i64.wrap (v9.1*256))+v15.1)) a1) fun v19=>
 some (v19,v15.2)
 else
 ae (rem v9.1 a1) fun v19=>
 some (v19,v9.2)

def slC_2(a0:la)(a1:List Int):Option (Int×la):=
 ae (slC_1 a0 (a1.length:Int)) fun v9=>
 ae (idx a1 v9.1) fun v10=>
 some (v10,v9.2)

def slC_6(a0:la)(a1:Int):Option (Bool×la):=
 ae (slC_1 a0 a1) fun v7=>
 some (decide (v7.1=0),v7.2)

def slC_7(a0:la)(a1:List ByteArray):Option (ByteArray×la):=
 ae (slC_1 a0 (a1.length:Int)) fun v9=>
 ae (idx a1 v9.1) fun v10=>
 some (v10,v9.2)

def slC_(a0:la):Option (Lt×la):=
 ae (slC_2 a0 ([(0:Int),(1:Int),(7:Int),(90000:Int)])) fun v8=>
 thenL (ρ:=(Lt×la)) (σ:=la×(List ByteArray)×(List Int)) (forN (fun (i4:Nat) (s4:la×(List ByteArray)×(List Int))=>
 ae (slC_6 s4.1 2) fun v16=>
 bif v16.1 then
 ae (idx ([(⟨#[88]⟩:ByteArray),(⟨#[89]⟩:ByteArray),(⟨#[90]⟩:ByteArray)]) (i4:Int)) fun v21=>
 ae (idx ([(⟨#[88]⟩:ByteArray),(⟨#[89]⟩:ByteArray),(⟨#[90]⟩:ByteArray)]) (i4:Int)) fun v22=>
 ae (app s4.2.1 ([v22])) fun v24=>
 ae (slC_2 v16.2 ([(1:Int),(2:Int),(3:Int),(30:Int),(1000:Int)])) fun v30=>
 ae (app s4.2.2 ([v30.1])) fun v32=>
 some (.nx (v30.2,v24,v32))
 else
 some (.nx (v16.2,s4.2.1,s4.2.2))) 3 0 (v8.2,[],[])) fun s4=>
 ae (slC_1 s4.1 30) fun v35=>
 bif decide (v35.1=0) then
 ae (slC_7 v35.2 ([(⟨#[65]⟩:ByteArray),(⟨#[97]⟩:ByteArray),(⟨#[90,49]⟩:ByteArray)])) fun v42=>
 ae (app s4.2.1 ([v42.1])) fun v44=>
 ae (app s4.2.2 ([(1:Int)])) fun v49=>
 some ((Lt.mk v44 v49 v8.1),v42.2)
 else
 bif decide (v35.1=1) then
 ae (slC_2 v35.2 ([(-1:Int),(100001:Int)])) fun v55=>
 some ((Lt.mk s4.2.1 s4.2.2 v55.1),v55.2)
 else
 bif decide (v35.1=2) then
 ae (app s4.2.2 ([(0:Int)])) fun v62=>
 some ((Lt.mk s4.2.1 v62 v8.1),v35.2)
 else
 some ((Lt.mk s4.2.1 s4.2.2 v8.1),v35.2)

def sDJ_(a0:List Int):Option (Lt×Lt):=
 ae (slC_ (la.mk a0 0 0)) fun v10=>
 ae (slC_ v10.2) fun v13=>
 some (v10.1,v13.1)

def iw_(a0:Int)(a1:Int)(a2:Int):Option Bool:=
 bif decide (a1≤a0) then
 some (decide (a0≤a2))
 else
 some false

def iiU_(a0:Int):Option Bool:=
 bif decide (65≤a0) then
 some (decide (a0≤90))
 else
 some false

def iiL_(a0:Int):Option Bool:=
 bif decide (97≤a0) then
 some (decide (a0≤122))
 else
 some false

def iiD_(a0:Int):Option Bool:=
 bif decide (48≤a0) then
 some (decide (a0≤57))
 else
 some false

def iiV_(a0:ByteArray):Option Bool:=
 ae (bnd (a0.size:Int)) fun N2=>
 thenL (ρ:=Bool) (σ:=Unit) (forN (fun (i2:Nat) (s2:Unit)=>
 bif decide ((i2:Int)=0) then
 ae (sidx a0 (i2:Int)) fun v14=>
 ae (iiU_ v14) fun v15=>
 bif v15 then
 bif decide (0<(i2:Int)) then
 ae (sidx a0 (i2:Int)) fun v24=>
 ae (iiL_ v24) fun v25=>
 bif v25 then
 some (.nx ())
 else
 ae (sidx a0 (i2:Int)) fun v31=>
 ae (iiD_ v31) fun v32=>
 bif v32 then
 some (.nx ())
 else
 some (.rt false)
 else
 some (.nx ())
 else
 some (.rt false)
 else
 bif decide (0<(i2:Int)) then
 ae (sidx a0 (i2:Int)) fun v24=>
 ae (iiL_ v24) fun v25=>
 bif v25 then
 some (.nx ())
 else
 ae (sidx a0 (i2:Int)) fun v31=>
 ae (iiD_ v31) fun v32=>
 bif v32 then
 some (.nx ())
 else
 some (.rt false)
 else
 some (.nx ())) N2 0 ()) fun s2=>
 ae (iw_ (a0.size:Int) 1 4) fun v39=>
 some v39

def iIV_(a0:Lt):Option Bool:=
 bif decide (8<(a0.Vars.length:Int)) then
 some false
 else
 bif decide ((a0.Slopes.length:Int)=(a0.Vars.length:Int)) then
 ae (iw_ a0.Constant 0 100000) fun v21=>
 bif v21 then
 thenL (ρ:=Bool) (σ:=Unit) (forN (fun (i4:Nat) (s4:Unit)=>
 ae (idx a0.Vars (i4:Int)) fun v30=>
 ae (iiV_ v30) fun v33=>
 bif v33 then
 bif decide (0<(i4:Int)) then
 ae (idx a0.Vars (IntKind.i64.wrap ((i4:Int)-1))) fun v44=>
 bif Op.bytesLess v30.data.toList v44.data.toList||decide (v30=v44) then
 some (.rt false)
 else
 ae (idx a0.Slopes (i4:Int)) fun v53=>
 ae (iw_ v53 1 1000) fun v55=>
 bif v55 then
 some (.nx ())
 else
 some (.rt false)
 else
 ae (idx a0.Slopes (i4:Int)) fun v53=>
 ae (iw_ v53 1 1000) fun v55=>
 bif v55 then
 some (.nx ())
 else
 some (.rt false)
 else
 some (.rt false)) a0.Vars.length 0 ()) fun s4=>
 some true
 else
 some false
 else
 some false

def sortB(a:List ByteArray):List ByteArray:=((a.map fun x=>x.data.toList).mergeSort fun x y=>decide (x≤y)).map fun l=>⟨l.toArray⟩
def sSS_(a0:List ByteArray):Option (Unit×List ByteArray):=if a0.length<4611686018427387904 then some ((),sortB a0) else none

def il_(a0:GMap Int)(a1:Int):Option (Lt×Bool):=
 if a0.es.length≤1073741824 then
 ae (sSS_ ((a0.es.filter fun e=>!decide (e.2.1=0)).map fun e=>e.1)) fun v=>
 ae (iIV_ (Lt.mk v.2 (v.2.map fun k=>GMap.get a0 k 0) a1)) fun b=>
 if b then some (Lt.mk v.2 (v.2.map fun k=>GMap.get a0 k 0) a1,true) else some (Lt.mk [] [] 0,false)
 else none
def ilR_(ord:List (ByteArray×Int×Nat))(a0:GMap Int)(a1:Int):Option (Lt×Bool):=
 thenL (ρ:=(Lt×Bool)) (σ:=(List ByteArray)) (forN (ordN (fun (e3:ByteArray×Int×Nat) (s3:(List ByteArray))=>
 bif decide (e3.2.1=0) then
 some (.nx s3)
 else
 ae (app s3 ([e3.1])) fun v26=>
 some (.nx v26)) ord) ord.length 0 ([])) fun s3=>
 ae (sSS_ s3) fun v30=>
 thenL (ρ:=(Lt×Bool)) (σ:=(List Int)) (forN (fun (i9:Nat) (s9:(List Int))=>
 ae (idx v30.2 (i9:Int)) fun v36=>
 ae (idx v30.2 (i9:Int)) fun v37=>
 ae (app s9 ([GMap.get a0 v37 (0:Int)])) fun v44=>
 some (.nx v44)) v30.2.length 0 ([])) fun s9=>
 ae (iIV_ (Lt.mk v30.2 s9 a1)) fun v48=>
 bif v48 then
 some ((Lt.mk v30.2 s9 a1),true)
 else
 some ((Lt.mk ([]) ([]) 0),false)

def ij_(a0:Lt)(a1:Lt):Option (Lt×Bool):=
 thenL (ρ:=(Lt×Bool)) (σ:=(GMap Int)) (forN (fun (i3:Nat) (s3:(GMap Int))=>
 ae (idx ([a0,a1]) (i3:Int)) fun v18=>
 ae (idx ([a0,a1]) (i3:Int)) fun v19=>
 thenL (ρ:=(Flow (Lt×Bool) (GMap Int))) (σ:=(GMap Int)) (forN (fun (i6:Nat) (s6:(GMap Int))=>
 ae (idx v19.Vars (i6:Int)) fun v26=>
 ae (idx v19.Slopes (i6:Int)) fun v36=>
 some (.nx (GMap.put s6 v26 (max (GMap.get s6 v26 (0:Int)) v36)))) v19.Vars.length 0 s3) fun s6=>
 some (.nx s6)) (([a0,a1]).length) 0 (GMap.empty:GMap Int)) fun s3=>
 ae (il_ s3 (max a0.Constant a1.Constant)) fun v47=>
 some (v47.1,v47.2)

def iJL_(a0:Lt)(a1:Lt):Option (Lt×Bool):=
 ae (iIV_ a0) fun v7=>
 bif v7 then
 ae (iIV_ a1) fun v11=>
 bif v11 then
 ae (ij_ a0 a1) fun v17=>
 some (v17.1,v17.2)
 else
 some ((Lt.mk ([]) ([]) 0),false)
 else
 some ((Lt.mk ([]) ([]) 0),false)

def slI_(a0:Int)(a1:Int)(a2:Int):Option Bool:=
 bif decide (a1≤a0) then
 some (decide (a0≤a2))
 else
 some false

def slS_2(a0:Int):Option Bool:=
 bif decide (97≤a0) then
 bif decide (a0≤122) then
 some true
 else
 bif decide (48≤a0) then
 some (decide (a0≤57))
 else
 some false
 else
 bif decide (48≤a0) then
 some (decide (a0≤57))
 else
 some false

def slV_(a0:ByteArray):Option Bool:=
 ae (slI_ (a0.size:Int) 1 4) fun v6=>
 bif v6 then
 ae (sidx a0 (0:Int)) fun v10=>
 bif decide (v10<65) then
 some false
 else
 ae (sidx a0 (0:Int)) fun v15=>
 bif decide (90<v15) then
 some false
 else
 ae (bnd (a0.size:Int)) fun N4=>
 thenL (ρ:=Bool) (σ:=Unit) (forN (fun (i4:Nat) (s4:Unit)=>
 ae (sidx a0 (i4:Int)) fun v26=>
 ae (slS_2 v26) fun v27=>
 bif v27 then
 some (.nx ())
 else
 some (.rt false)) (N4-1) 1 ()) fun s4=>
 some true
 else
 some false

def slL_1(a0:Lt):Option Bool:=
 bif decide (8<(a0.Vars.length:Int)) then
 some false
 else
 bif decide ((a0.Slopes.length:Int)=(a0.Vars.length:Int)) then
 ae (slI_ a0.Constant 0 100000) fun v20=>
 bif v20 then
 thenL (ρ:=Bool) (σ:=Unit) (forN (fun (i4:Nat) (s4:Unit)=>
 ae (idx a0.Vars (i4:Int)) fun v33=>
 ae (slV_ v33) fun v35=>
 bif v35 then
 ae (idx a0.Slopes (i4:Int)) fun v41=>
 ae (slI_ v41 1 1000) fun v43=>
 bif v43 then
 bif decide (0<(i4:Int)) then
 ae (idx a0.Vars (IntKind.i64.wrap ((i4:Int)-1))) fun v54=>
 ae (idx a0.Vars (i4:Int)) fun v59=>
 bif Op.bytesLess v54.data.toList v59.data.toList then
 some (.nx ())
 else
 some (.rt false)
 else
 some (.nx ())
 else
 some (.rt false)
 else
 some (.rt false)) a0.Vars.length 0 ()) fun s4=>
 some true
 else
 some false
 else
 some false

def slP_(a0:List ByteArray)(a1:ByteArray):Option (List ByteArray):=
 thenL (ρ:=(List ByteArray)) (σ:=Unit) (forN (fun (i2:Nat) (s2:Unit)=>
 ae (idx a0 (i2:Int)) fun v13=>
 bif Op.bytesLess v13.data.toList a1.data.toList then
 some (.nx ())
 else
 ae (idx a0 (i2:Int)) fun v27=>
 bif decide (v27=a1) then
 some (.rt a0)
 else
 ae (slc a0 (0:Int) (i2:Int)) fun v36=>
 ae (app ([]) v36) fun v37=>
 ae (app v37 ([a1])) fun v40=>
 ae (slc a0 (i2:Int) (a0.length:Int)) fun v43=>
 ae (app v40 v43) fun v44=>
 some (.rt v44)) a0.length 0 ()) fun s2=>
 ae (slc a0 (0:Int) ((a0.length:Nat):Int)) fun v36=>
 ae (app ([]) v36) fun v37=>
 ae (app v37 ([a1])) fun v40=>
 ae (slc a0 ((a0.length:Nat):Int) (a0.length:Int)) fun v43=>
 ae (app v40 v43) fun v44=>
 some v44

def slN_(a0:Lt)(a1:Lt):Option (List ByteArray):=
 thenL (ρ:=(List ByteArray)) (σ:=(List ByteArray)) (forN (fun (i3:Nat) (s3:(List ByteArray))=>
 ae (idx a0.Vars (i3:Int)) fun v20=>
 ae (slP_ s3 v20) fun v22=>
 some (.nx v22)) a0.Vars.length 0 ([])) fun s3=>
 thenL (ρ:=(List ByteArray)) (σ:=(List ByteArray)) (forN (fun (i7:Nat) (s7:(List ByteArray))=>
 ae (idx a1.Vars (i7:Int)) fun v34=>
 ae (slP_ s7 v34) fun v36=>
 some (.nx v36)) a1.Vars.length 0 s3) fun s7=>
 some s7

def slM_(a0:Int)(a1:Int):Option Int:=
 bif decide (a1<a0) then
 some a0
 else
 some a1

def slS_(a0:Lt)(a1:ByteArray):Option Int:=
 thenL (ρ:=Int) (σ:=Unit) (forN (fun (i2:Nat) (s2:Unit)=>
 ae (idx a0.Vars (i2:Int)) fun v16=>
 bif decide (v16=a1) then
 ae (idx a0.Slopes (i2:Int)) fun v23=>
 some (.rt v23)
 else
 some (.nx ())) a0.Vars.length 0 ()) fun s2=>
 some (0:Int)

def slJ_(a0:Lt)(a1:Lt):Option Lt:=
 ae (slN_ a0 a1) fun v9=>
 ae (slM_ a0.Constant a1.Constant) fun v15=>
 thenL (ρ:=Lt) (σ:=(List Int)) (forN (fun (i3:Nat) (s3:(List Int))=>
 ae (idx v9 (i3:Int)) fun v30=>
 ae (slS_ a0 v30) fun v32=>
 ae (idx v9 (i3:Int)) fun v37=>
 ae (slS_ a1 v37) fun v39=>
 ae (slM_ v32 v39) fun v40=>
 ae (app s3 ([v40])) fun v42=>
 some (.nx v42)) v9.length 0 ([])) fun s3=>
 some (Lt.mk v9 s3 v15)

def sJL_(a0:Lt)(a1:Lt):Option (Lt×Bool):=
 ae (slL_1 a0) fun v8=>
 bif v8 then
 ae (slL_1 a1) fun v12=>
 bif v12 then
 ae (slJ_ a0 a1) fun v18=>
 ae (slL_1 v18) fun v20=>
 bif v20 then
 some (v18,true)
 else
 some ((Lt.mk ([]) ([]) 0),false)
 else
 some ((Lt.mk ([]) ([]) 0),false)
 else
 some ((Lt.mk ([]) ([]) 0),false)

def vAt(a0:List Int)(a1:Int):Option Int:=
 bif decide (a1<(a0.length:Int)) then
 ae (idx a0 a1) fun v11=>
 some (IntKind.i64.wrap v11)
 else
 ae (rem (IntKind.i64.wrap ((IntKind.i64.wrap (a1*7))+(a0.length:Int))) (256:Int)) fun v19=>
 some v19

def vMix(a0:List Int)(a1:ByteArray)(a2:List Int):Option Int:=
 ae (bnd (a1.size:Int)) fun N3=>
 thenL (ρ:=Int) (σ:=Int) (forN (fun (i3:Nat) (s3:Int)=>
 ae (sidx a1 (i3:Int)) fun v20=>
 ae (rem (IntKind.i64.wrap ((IntKind.i64.wrap ((31:Int)*s3))+(IntKind.i64.wrap v20))) (65521:Int)) fun v23=>
 some (.nx v23)) N3 0 (17:Int)) fun s3=>
 thenL (ρ:=Int) (σ:=Int) (forN (fun (i7:Nat) (s7:Int)=>
 ae (idx a2 (i7:Int)) fun v34=>
 ae (rem (IntKind.i64.wrap ((IntKind.i64.wrap ((IntKind.i64.wrap ((37:Int)*s7))+v34))+1)) (65521:Int)) fun v38=>
 some (.nx v38)) a2.length 0 s3) fun s7=>
 ae (rem s7 (53:Int)) fun v42=>
 ae (vAt a0 v42) fun v43=>
 ae (rem s7 (89:Int)) fun v48=>
 ae (vAt a0 v48) fun v49=>
 ae (quo (IntKind.i64.wrap ((IntKind.i64.wrap (s7+(IntKind.i64.wrap ((13:Int)*v43))))+v49)) (3:Int)) fun v51=>
 some v51

def rL_(a0:Lt)(a1:List Int):Option Int:=
 thenL (ρ:=Int) (σ:=Int) (forN (fun (i3:Nat) (s3:Int)=>
 bif decide ((i3:Int)<(a0.Slopes.length:Int)) then
 ae (idx a0.Slopes (i3:Int)) fun v27=>
 ae (idx a0.Vars (i3:Int)) fun v33=>
 ae (vMix a1 v33 ([])) fun v35=>
 ae (rem v35 (50:Int)) fun v36=>
 some (.nx (IntKind.i64.wrap (s3+(IntKind.i64.wrap (v27*v36)))))
 else
 some (.rt s3)) a0.Vars.length 0 a0.Constant) fun s3=>
 some s3

def sDS_(a0:List Int):Option (Lt×ByteArray×Lt):=
 ae (slC_ (la.mk a0 0 0)) fun v11=>
 ae (slC_1 v11.2 9) fun v16=>
 ae (quo v16.1 (8:Int)) fun v17=>
 ae (slc ([(⟨#[88]⟩:ByteArray),(⟨#[89]⟩:ByteArray),(⟨#[90]⟩:ByteArray),(⟨#[120]⟩:ByteArray)]) (0:Int) (IntKind.i64.wrap ((3:Int)+v17))) fun v19=>
 ae (slC_7 v16.2 v19) fun v20=>
 ae (slC_ v20.2) fun v22=>
 some (v11.1,v20.1,v22.1)

def iLa_(a0:Lt)(a1:GMap Int)(a2:Int):Option (Int×(GMap Int)):=
 thenL (ρ:=(Int×(GMap Int))) (σ:=(GMap Int)) (forN (fun (i2:Nat) (s2:(GMap Int))=>
 ae (idx a0.Vars (i2:Int)) fun v15=>
 ae (idx a0.Slopes (i2:Int)) fun v24=>
 some (.nx (GMap.put s2 v15 (IntKind.i64.wrap ((GMap.get s2 v15 (0:Int))+(IntKind.i64.wrap (a2*v24))))))) a0.Vars.length 0 a1) fun s2=>
 some (IntKind.i64.wrap (a2*a0.Constant),s2)

def ciN_(a0:ByteArray):Option Bool:=
 some (!(decide (a0=a0)))

def cLs_(a0:ByteArray)(a1:ByteArray):Option Bool:=
 ae (ciN_ a0) fun v6=>
 bif v6 then
 ae (ciN_ a1) fun v9=>
 bif v9 then
 some (Op.bytesLess a0.data.toList a1.data.toList)
 else
 some true
 else
 some (Op.bytesLess a0.data.toList a1.data.toList)

def siN_(a0:ByteArray):Option Bool:=
 some (!(decide (a0=a0)))

def sBS_(a0:List ByteArray)(a1:ByteArray):Option (Int×Bool):=
 thenL (ρ:=(Int×Bool)) (σ:=Int×Int) (lim fun n3=>whileN (fun (s3:Int×Int)=>
 bif decide (s3.1<s3.2) then
 ae (shr .u64 (IntKind.u64.wrap (IntKind.i64.wrap (s3.1+s3.2))) (1:Int)) fun v20=>
 ae (idx a0 (IntKind.i64.wrap v20)) fun v24=>
 ae (cLs_ v24 a1) fun v27=>
 bif v27 then
 some (.nx (IntKind.i64.wrap ((IntKind.i64.wrap v20)+1),s3.2))
 else
 some (.nx (s3.1,IntKind.i64.wrap v20))
 else
 some (.br s3)) n3 ((0:Int),(a0.length:Int))) fun s3=>
 bif decide (s3.1<(a0.length:Int)) then
 ae (idx a0 s3.1) fun v38=>
 bif decide (v38=a1) then
 some (s3.1,true)
 else
 ae (idx a0 s3.1) fun v45=>
 ae (siN_ v45) fun v47=>
 bif v47 then
 ae (siN_ a1) fun v50=>
 some (s3.1,v50)
 else
 some (s3.1,false)
 else
 some (s3.1,false)

def iLs_(a0:Lt)(a1:ByteArray):Option Int:=
 ae (sBS_ a0.Vars a1) fun v11=>
 bif v11.2 then
 ae (idx a0.Slopes v11.1) fun v19=>
 some v19
 else
 some (0:Int)

def iSL_(a0:Lt)(a1:ByteArray)(a2:Lt):Option (Lt×Bool):=
 ae (iIV_ a0) fun v11=>
 bif v11 then
 ae (iiV_ a1) fun v15=>
 bif v15 then
 ae (iIV_ a2) fun v20=>
 bif v20 then
 ae (iLa_ a0 (GMap.empty:GMap Int) 1) fun v27=>
 ae (iLs_ a0 a1) fun v35=>
 ae (iLa_ a2 (GMap.del v27.2 a1) v35) fun v36=>
 ae (il_ v36.2 (IntKind.i64.wrap (v27.1+v36.1))) fun v40=>
 some (v40.1,v40.2)
 else
 some ((Lt.mk ([]) ([]) 0),false)
 else
 some ((Lt.mk ([]) ([]) 0),false)
 else
 some ((Lt.mk ([]) ([]) 0),false)

def slP_1(a0:Lt)(a1:Lt)(a2:Int):Option Lt:=
 ae (slN_ a0 a1) fun v23=>
 thenL (ρ:=Lt) (σ:=(List ByteArray)×(List Int)) (forN (fun (i4:Nat) (s4:(List ByteArray)×(List Int))=>
 ae (idx v23 (i4:Int)) fun v33=>
 ae (slS_ a0 v33) fun v35=>
 ae (idx v23 (i4:Int)) fun v40=>
 ae (slS_ a1 v40) fun v42=>
 bif decide (0<(IntKind.i64.wrap (v35+(IntKind.i64.wrap (a2*v42))))) then
 ae (idx v23 (i4:Int)) fun v51=>
 ae (app s4.1 ([v51])) fun v54=>
 ae (app s4.2 ([IntKind.i64.wrap (v35+(IntKind.i64.wrap (a2*v42)))])) fun v60=>
 some (.nx (v54,v60))
 else
 some (.nx (s4.1,s4.2))) v23.length 0 ([],[])) fun s4=>
 some (Lt.mk s4.1 s4.2 (IntKind.i64.wrap (a0.Constant+(IntKind.i64.wrap (a2*a1.Constant)))))

def sSL_(a0:Lt)(a1:ByteArray)(a2:Lt):Option (Lt×Bool):=
 ae (slL_1 a0) fun v12=>
 bif v12 then
 ae (slV_ a1) fun v16=>
 bif v16 then
 ae (slL_1 a2) fun v21=>
 bif v21 then
 thenL (ρ:=(Lt×Bool)) (σ:=(List ByteArray)×(List Int)) (forN (fun (i5:Nat) (s5:(List ByteArray)×(List Int))=>
 ae (idx a0.Vars (i5:Int)) fun v38=>
 bif decide (v38=a1) then
 some (.nx (s5.1,s5.2))
 else
 ae (idx a0.Vars (i5:Int)) fun v47=>
 ae (app s5.1 ([v47])) fun v50=>
 ae (idx a0.Slopes (i5:Int)) fun v57=>
 ae (app s5.2 ([v57])) fun v60=>
 some (.nx (v50,v60))) a0.Vars.length 0 ([],[])) fun s5=>
 ae (slS_ a0 a1) fun v66=>
 ae (slP_1 (Lt.mk s5.1 s5.2 a0.Constant) a2 v66) fun v67=>
 ae (slL_1 v67) fun v69=>
 bif v69 then
 some (v67,true)
 else
 some ((Lt.mk ([]) ([]) 0),false)
 else
 some ((Lt.mk ([]) ([]) 0),false)
 else
 some ((Lt.mk ([]) ([]) 0),false)
 else
 some ((Lt.mk ([]) ([]) 0),false)

def slN_1(a0:Lt)(a1:Lt):Option (List ByteArray):=
 thenL (ρ:=(List ByteArray)) (σ:=(List ByteArray)) (forN (fun (i3:Nat) (s3:(List ByteArray))=>
 ae (idx a0.Vars (i3:Int)) fun v20=>
 ae (idx a0.Vars (i3:Int)) fun v21=>
 ae (slP_ s3 v21) fun v22=>
 some (.nx v22)) a0.Vars.length 0 ([])) fun s3=>
 thenL (ρ:=(List ByteArray)) (σ:=(List ByteArray)) (forN (fun (i7:Nat) (s7:(List ByteArray))=>
 ae (idx a1.Vars (i7:Int)) fun v34=>
 ae (idx a1.Vars (i7:Int)) fun v35=>
 ae (slP_ s7 v35) fun v36=>
 some (.nx v36)) a1.Vars.length 0 s3) fun s7=>
 some s7


def FnLinear(a0:List Int):Option Bool:=
 ae (vBig a0) fun v20=>
 bif v20 then
 some true
 else
 ae (sDJ_ a0) fun v23=>
 ae (iJL_ v23.1 v23.2) fun v29=>
 ae (sJL_ v23.1 v23.2) fun v35=>
 bif v29.2==v35.2 then
 bif v29.2 then
 ae (rL_ v29.1 a0) fun v45=>
 ae (rL_ v23.1 a0) fun v48=>
 bif decide (v45<v48) then
 some false
 else
 ae (rL_ v29.1 a0) fun v53=>
 ae (rL_ v23.2 a0) fun v56=>
 bif decide (v53<v56) then
 some false
 else
 ae (iIV_ v29.1) fun v61=>
 bif v61 then
 ae (sDS_ a0) fun v67=>
 ae (iSL_ v67.1 v67.2.1 v67.2.2) fun v75=>
 ae (sSL_ v67.1 v67.2.1 v67.2.2) fun v82=>
 bif v75.2==v82.2 then
 bif v75.2 then
 thenL (ρ:=Bool) (σ:=Int×(List ByteArray)×(List Int)) (forN (fun (i18:Nat) (s18:Int×(List ByteArray)×(List Int))=>
 ae (idx v67.1.Vars (i18:Int)) fun v114=>
 ae (idx v67.1.Vars (i18:Int)) fun v115=>
 bif decide (v115=v67.2.1) then
 ae (idx v67.1.Slopes (i18:Int)) fun v121=>
 ae (idx v67.1.Slopes (i18:Int)) fun v122=>
 some (.nx (v122,s18.2.1,s18.2.2))
 else
 ae (idx v67.1.Vars (i18:Int)) fun v128=>
 ae (idx v67.1.Vars (i18:Int)) fun v129=>
 ae (app s18.2.1 ([v129])) fun v131=>
 ae (idx v67.1.Slopes (i18:Int)) fun v138=>
 ae (idx v67.1.Slopes (i18:Int)) fun v139=>
 ae (app s18.2.2 ([v139])) fun v141=>
 some (.nx (s18.1,v131,v141))) v67.1.Vars.length 0 ((0:Int),[],[])) fun s18=>
 ae (rL_ v75.1 a0) fun v145=>
 ae (rL_ (Lt.mk s18.2.1 s18.2.2 v67.1.Constant) a0) fun v148=>
 ae (rL_ v67.2.2 a0) fun v152=>
 some (decide (v145=(IntKind.i64.wrap (v148+(IntKind.i64.wrap (s18.1*v152))))))
 else
 bif false==v82.2 then
 some (decide ((v75.1.Vars.length:Int)=0))
 else
 some false
 else
 some false
 else
 some false
 else
 ae (sDS_ a0) fun v67=>
 ae (iSL_ v67.1 v67.2.1 v67.2.2) fun v75=>
 ae (sSL_ v67.1 v67.2.1 v67.2.2) fun v82=>
 bif v75.2==v82.2 then
 bif v75.2 then
 thenL (ρ:=Bool) (σ:=Int×(List ByteArray)×(List Int)) (forN (fun (i18:Nat) (s18:Int×(List ByteArray)×(List Int))=>
 ae (idx v67.1.Vars (i18:Int)) fun v114=>
 ae (idx v67.1.Vars (i18:Int)) fun v115=>
 bif decide (v115=v67.2.1) then
 ae (idx v67.1.Slopes (i18:Int)) fun v121=>
 ae (idx v67.1.Slopes (i18:Int)) fun v122=>
 some (.nx (v122,s18.2.1,s18.2.2))
 else
 ae (idx v67.1.Vars (i18:Int)) fun v128=>
 ae (idx v67.1.Vars (i18:Int)) fun v129=>
 ae (app s18.2.1 ([v129])) fun v131=>
 ae (idx v67.1.Slopes (i18:Int)) fun v138=>
 ae (idx v67.1.Slopes (i18:Int)) fun v139=>
 ae (app s18.2.2 ([v139])) fun v141=>
 some (.nx (s18.1,v131,v141))) v67.1.Vars.length 0 ((0:Int),[],[])) fun s18=>
 ae (rL_ v75.1 a0) fun v145=>
 ae (rL_ (Lt.mk s18.2.1 s18.2.2 v67.1.Constant) a0) fun v148=>
 ae (rL_ v67.2.2 a0) fun v152=>
 some (decide (v145=(IntKind.i64.wrap (v148+(IntKind.i64.wrap (s18.1*v152))))))
 else
 bif false==v82.2 then
 some (decide ((v75.1.Vars.length:Int)=0))
 else
 some false
 else
 some false
 else
 some false

end
end Go.Proofs.Ytkmfaliedpidbaa
