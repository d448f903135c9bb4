/- Lemmas of the proof; each says what it shows. -/
import Derived.Test.YtmfpijomelhccaaGreatDoorGty
set_option linter.unusedSimpArgs false
set_option linter.unusedVariables false
set_option linter.defProp false
set_option maxRecDepth 4000
namespace Go.Proofs.YtmfpijomelhccaaGreatDoor
open Go.Av
open Option renaming bind→aa
noncomputable section
def vBig(a0:List Int):Option Bool:=
 some (decide (65536<(a0.length:Int)))

def spec_l1Cur__next(a0:ld):Option (Int×ld):=
 bif decide (a0.at_f<(a0.code.length:Int)) then
 aa (idx a0.code a0.at_f) fun v22=>
 bif decide ((IntKind.i64.wrap (a0.at_f+1))≤(a0.code.length:Int)) then
 some (IntKind.i64.wrap v22,(ld.mk a0.code (IntKind.i64.wrap (a0.at_f+1)) (IntKind.u64.wrap ((IntKind.u64.wrap ((IntKind.u64.wrap (a0.seed*6364136223846793005))+(IntKind.u64.wrap (IntKind.i64.wrap v22))))+892892))))
 else
 aa (shr .u64 (IntKind.u64.wrap ((IntKind.u64.wrap ((IntKind.u64.wrap (a0.seed*6364136223846793005))+(IntKind.u64.wrap (IntKind.i64.wrap v22))))+892892)) (40:Int)) fun v59=>
 some (IntKind.i64.wrap (bitand .u64 v59 (255:Int)),(ld.mk a0.code (IntKind.i64.wrap (a0.at_f+1)) (IntKind.u64.wrap ((IntKind.u64.wrap ((IntKind.u64.wrap (a0.seed*6364136223846793005))+(IntKind.u64.wrap (IntKind.i64.wrap v22))))+892892))))
 else
 bif decide ((IntKind.i64.wrap (a0.at_f+1))≤(a0.code.length:Int)) then
 some ((0:Int),(ld.mk a0.code (IntKind.i64.wrap (a0.at_f+1)) (IntKind.u64.wrap ((IntKind.u64.wrap ((IntKind.u64.wrap (a0.seed*6364136223846793005))+(IntKind.u64.wrap (0:Int))))+892892))))
 else
 aa (shr .u64 (IntKind.u64.wrap ((IntKind.u64.wrap ((IntKind.u64.wrap (a0.seed*6364136223846793005))+(IntKind.u64.wrap (0:Int))))+892892)) (40:Int)) fun v59=>
 some (IntKind.i64.wrap (bitand .u64 v59 (255:Int)),(ld.mk a0.code (IntKind.i64.wrap (a0.at_f+1)) (IntKind.u64.wrap ((IntKind.u64.wrap ((IntKind.u64.wrap (a0.seed*6364136223846793005))+(IntKind.u64.wrap (0:Int))))+892892))))

def spec_l1Cur__pick(a0:ld)(a1:Int):Option (Int×ld):=
 bif decide (a1≤1) then
 some ((0:Int),a0)
 else
 aa (spec_l1Cur__next a0) fun v9=>
 bif decide (200<a1) then
 aa (spec_l1Cur__next v9.2) fun v15=>
 aa (rem (IntKind.i64.wrap ((IntKind.i64.wrap (v9.1*256))+v15.1)) a1) fun v19=>
 some (v19,v15.2)
 else
 aa (rem v9.1 a1) fun v19=>
 some (v19,v9.2)

def spec_l1Cur__one(a0:ld)(a1:Int):Option (Bool×ld):=
 aa (spec_l1Cur__pick a0 a1) fun v7=>
 some (decide (v7.1=0),v7.2)

def spec_l1Cur__propClause(a0:ld)(a1:Int):Option ((List Int)×ld):=
 thenL (ρ:=((List Int)×ld)) (σ:=ld×(List Int)×Int) (lim fun n3=>whileN (fun (s3:ld×(List Int)×Int)=>
 bif decide (s3.2.2≤a1) then
 aa (spec_l1Cur__one s3.1 3) fun v15=>
 bif v15.1 then
 aa (spec_l1Cur__pick v15.2 2) fun v21=>
 aa (app s3.2.1 ([IntKind.i64.wrap (s3.2.2-(IntKind.i64.wrap ((IntKind.i64.wrap ((2:Int)*s3.2.2))*v21.1)))])) fun v25=>
 some (.nx (v21.2,v25,IntKind.i64.wrap (s3.2.2+1)))
 else
 some (.nx (v15.2,s3.2.1,IntKind.i64.wrap (s3.2.2+1)))
 else
 some (.br s3)) n3 (a0,[],(1:Int))) fun s3=>
 bif decide (3<(s3.2.1.length:Int)) then
 aa (slc s3.2.1 (0:Int) (3:Int)) fun v30=>
 bif decide ((v30.length:Int)=0) then
 aa (spec_l1Cur__one s3.1 20) fun v36=>
 bif v36.1 then
 some (v30,v36.2)
 else
 aa (spec_l1Cur__pick v36.2 a1) fun v41=>
 aa (spec_l1Cur__pick v41.2 2) fun v48=>
 aa (app v30 ([IntKind.i64.wrap ((IntKind.i64.wrap ((1:Int)+v41.1))-(IntKind.i64.wrap ((IntKind.i64.wrap ((2:Int)*(IntKind.i64.wrap ((1:Int)+v41.1))))*v48.1)))])) fun v52=>
 some (v52,v48.2)
 else
 some (v30,s3.1)
 else
 bif decide ((s3.2.1.length:Int)=0) then
 aa (spec_l1Cur__one s3.1 20) fun v36=>
 bif v36.1 then
 some (s3.2.1,v36.2)
 else
 aa (spec_l1Cur__pick v36.2 a1) fun v41=>
 aa (spec_l1Cur__pick v41.2 2) fun v48=>
 aa (app s3.2.1 ([IntKind.i64.wrap ((IntKind.i64.wrap ((1:Int)+v41.1))-(IntKind.i64.wrap ((IntKind.i64.wrap ((2:Int)*(IntKind.i64.wrap ((1:Int)+v41.1))))*v48.1)))])) fun v52=>
 some (v52,v48.2)
 else
 some (s3.2.1,s3.1)

def spec_l1Cur__propSet(a0:ld):Option ((List (List Int))×ld):=
 aa (spec_l1Cur__pick a0 4) fun v9=>
 aa (spec_l1Cur__pick v9.2 7) fun v12=>
 thenL (ρ:=((List (List Int))×ld)) (σ:=ld×(List (List Int))×Int) (lim fun n4=>whileN (fun (s4:ld×(List (List Int))×Int)=>
 bif decide (0<s4.2.2) then
 aa (spec_l1Cur__propClause s4.1 (IntKind.i64.wrap ((2:Int)+v9.1))) fun v21=>
 aa (app s4.2.1 ([v21.1])) fun v23=>
 some (.nx (v21.2,v23,IntKind.i64.wrap (s4.2.2-1)))
 else
 some (.br s4)) n4 (v12.2,[],IntKind.i64.wrap ((1:Int)+v12.1))) fun s4=>
 aa (spec_l1Cur__pick s4.1 14) fun v25=>
 thenL (ρ:=((List (List Int))×ld)) (σ:=ld×(List (List Int))×Int) (lim fun n8=>whileN (fun (s8:ld×(List (List Int))×Int)=>
 bif decide (0<s8.2.2) then
 aa (spec_l1Cur__one s8.1 2) fun v30=>
 bif v30.1 then
 aa (spec_l1Cur__propClause v30.2 (IntKind.i64.wrap ((2:Int)+v9.1))) fun v37=>
 aa (app s8.2.1 ([v37.1])) fun v39=>
 aa (spec_l1Cur__propClause v37.2 2) fun v42=>
 aa (app v39 ([v42.1])) fun v44=>
 some (.nx (v42.2,v44,IntKind.i64.wrap (s8.2.2-1)))
 else
 some (.rt (s8.2.1,v30.2))
 else
 some (.br s8)) n8 (v25.2,s4.2.1,v25.1)) fun s8=>
 some (s8.2.1,s8.1)

def spec_l15Abs(a0:Int):Option Int:=
 bif decide (a0<0) then
 some (IntKind.i64.wrap (0-a0))
 else
 some a0

def spec_l1In(a0:Int)(a1:Int)(a2:Int):Option Bool:=
 bif decide (a1≤a0) then
 some (decide (a0≤a2))
 else
 some false

def spec_l15Clause(a0:List Int):Option Bool:=
 thenL (ρ:=Bool) (σ:=Unit) (forN (fun (i2:Nat) (s2:Unit)=>
 aa (idx a0 (i2:Int)) fun v12=>
 aa (spec_l15Abs v12) fun v14=>
 aa (spec_l1In v14 1 12) fun v15=>
 bif v15 then
 bif decide (0<(i2:Int)) then
 aa (idx a0 (IntKind.i64.wrap ((i2:Int)-1))) fun v24=>
 aa (spec_l15Abs v24) fun v26=>
 aa (idx a0 (i2:Int)) fun v29=>
 aa (spec_l15Abs v29) fun v31=>
 bif decide (v31≤v26) then
 some (.rt false)
 else
 some (.nx ())
 else
 some (.nx ())
 else
 some (.rt false)) a0.length 0 ()) fun s2=>
 some true

def spec_l15Set(a0:List (List Int)):Option Bool:=
 thenL (ρ:=Bool) (σ:=Unit) (forN (fun (i2:Nat) (s2:Unit)=>
 bif decide ((i2:Int)≤40) then
 aa (idx a0 (i2:Int)) fun v16=>
 aa (spec_l15Clause v16) fun v18=>
 bif v18 then
 some (.nx ())
 else
 some (.rt false)
 else
 some (.rt (decide ((a0.length:Int)≤40)))) a0.length 0 ()) fun s2=>
 some (decide ((a0.length:Int)≤40))

def spec_l1Has(a0:List Int)(a1:Int):Option Bool:=
 thenL (ρ:=Bool) (σ:=Unit) (forN (fun (i2:Nat) (s2:Unit)=>
 aa (idx a0 (i2:Int)) fun v14=>
 bif decide (v14=a1) then
 some (.rt true)
 else
 some (.nx ())) a0.length 0 ()) fun s2=>
 some false

def spec_l15Status(a0:List Int)(a1:List Int):Option (Int×Int):=
 thenL (ρ:=(Int×Int)) (σ:=Int×Int) (forN (fun (i3:Nat) (s3:Int×Int)=>
 aa (idx a0 (i3:Int)) fun v18=>
 aa (spec_l1Has a1 v18) fun v20=>
 bif v20 then
 some (.rt ((-1:Int),(0:Int)))
 else
 aa (idx a0 (i3:Int)) fun v24=>
 aa (spec_l1Has a1 (IntKind.i64.wrap (0-v24))) fun v27=>
 bif v27 then
 some (.nx (s3.1,s3.2))
 else
 aa (idx a0 (i3:Int)) fun v33=>
 some (.nx (IntKind.i64.wrap (s3.1+1),v33))) a0.length 0 ((0:Int),(0:Int))) fun s3=>
 some (s3.1,s3.2)

def spec_l15False(a0:List (List Int))(a1:List Int):Option Int:=
 thenL (ρ:=Int) (σ:=Unit) (forN (fun (i2:Nat) (s2:Unit)=>
 aa (idx a0 (i2:Int)) fun v17=>
 aa (spec_l15Status v17 a1) fun v20=>
 bif decide (v20.1=0) then
 some (.rt (i2:Int))
 else
 some (.nx ())) a0.length 0 ()) fun s2=>
 some (-1:Int)

def spec_l1Most(a0:Int)(a1:Int):Option Int:=
 bif decide (a1<a0) then
 some a0
 else
 some a1

def spec_l15Most(a0:List (List Int)):Option Int:=
 thenL (ρ:=Int) (σ:=Int) (forN (fun (i3:Nat) (s3:Int)=>
 thenL (ρ:=(Flow Int Int)) (σ:=Int×Int) (lim fun n6=>whileN (fun (s6:Int×Int)=>
 aa (idx a0 (i3:Int)) fun v15=>
 bif decide (s6.2<(v15.length:Int)) then
 aa (idx a0 (i3:Int)) fun v24=>
 aa (idx v24 s6.2) fun v27=>
 aa (spec_l15Abs v27) fun v29=>
 aa (spec_l1Most s6.1 v29) fun v30=>
 some (.nx (v30,IntKind.i64.wrap (s6.2+1)))
 else
 some (.br s6)) n6 (s3,(0:Int))) fun s6=>
 some (.nx s6.1)) a0.length 0 (0:Int)) fun s3=>
 some s3

def spec_l1Own(a0:List Int):Option (List Int):=
 aa (app ([]) a0) fun v5=>
 some v5

def spec_l15SearchN:Nat→(List (List Int))→(List Int)→Int→Int→Option ((List Int)×Bool)
 | 0,_,_,_,_=>none
 | n+1,a0,a1,a2,a3=>
 aa (spec_l15False a0 a1) fun v14=>
 bif decide (0≤v14) then
 some ([],false)
 else
 bif decide (a3<a2) then
 aa (spec_l1Own a1) fun v21=>
 some (v21,true)
 else
 aa (spec_l1Own a1) fun v25=>
 aa (app v25 ([a2])) fun v28=>
 aa (spec_l15SearchN n a0 v28 (IntKind.i64.wrap (a2+1)) a3) fun v32=>
 bif v32.2 then
 some (v32.1,true)
 else
 aa (spec_l1Own a1) fun v39=>
 aa (app v39 ([IntKind.i64.wrap (0-a2)])) fun v43=>
 aa (spec_l15SearchN n a0 v43 (IntKind.i64.wrap (a2+1)) a3) fun v47=>
 some (v47.1,v47.2)
def spec_l15Search(a0:List (List Int))(a1:List Int)(a2:Int)(a3:Int):Option ((List Int)×Bool):=lim fun n=>spec_l15SearchN n a0 a1 a2 a3

def spec_l15Proof__clause(a0:lc)(a1:Int):Option ((List Int)×lc):=
 bif decide (a1<(a0.set.length:Int)) then
 aa (idx a0.set a1) fun v17=>
 some (v17,a0)
 else
 aa (idx a0.steps (IntKind.i64.wrap (a1-(a0.set.length:Int)))) fun v30=>
 some (v30.Clause,a0)

def spec_l15Put(a0:List Int)(a1:Int):Option (List Int):=
 thenL (ρ:=(List Int)) (σ:=Unit) (forN (fun (i2:Nat) (s2:Unit)=>
 aa (idx a0 (i2:Int)) fun v13=>
 aa (spec_l15Abs v13) fun v15=>
 aa (spec_l15Abs a1) fun v17=>
 bif decide (v15<v17) then
 some (.nx ())
 else
 aa (slc a0 (0:Int) (i2:Int)) fun v25=>
 aa (app ([]) v25) fun v26=>
 aa (app v26 ([a1])) fun v29=>
 aa (slc a0 (i2:Int) (a0.length:Int)) fun v32=>
 aa (app v29 v32) fun v33=>
 some (.rt v33)) a0.length 0 ()) fun s2=>
 aa (slc a0 (0:Int) ((a0.length:Nat):Int)) fun v25=>
 aa (app ([]) v25) fun v26=>
 aa (app v26 ([a1])) fun v29=>
 aa (slc a0 ((a0.length:Nat):Int) (a0.length:Int)) fun v32=>
 aa (app v29 v32) fun v33=>
 some v33

def spec_l15Resolve(a0:List Int)(a1:List Int)(a2:Int):Option ((List Int)×Bool):=
 aa (spec_l1Has a0 a2) fun v13=>
 bif v13 then
 aa (spec_l1Has a1 (IntKind.i64.wrap (0-a2))) fun v19=>
 bif v19 then
 thenL (ρ:=((List Int)×Bool)) (σ:=(List Int)) (forN (fun (i5:Nat) (s5:(List Int))=>
 aa (idx a0 (i5:Int)) fun v32=>
 bif decide (v32=a2) then
 some (.nx s5)
 else
 aa (idx a0 (i5:Int)) fun v39=>
 aa (app s5 ([v39])) fun v42=>
 some (.nx v42)) a0.length 0 ([])) fun s5=>
 thenL (ρ:=((List Int)×Bool)) (σ:=(List Int)) (forN (fun (i10:Nat) (s10:(List Int))=>
 aa (idx a1 (i10:Int)) fun v51=>
 bif decide (v51=(IntKind.i64.wrap (0-a2))) then
 some (.nx s10)
 else
 aa (idx a1 (i10:Int)) fun v60=>
 aa (spec_l1Has s10 v60) fun v62=>
 bif v62 then
 some (.nx s10)
 else
 aa (idx a1 (i10:Int)) fun v67=>
 aa (spec_l1Has s10 (IntKind.i64.wrap (0-v67))) fun v70=>
 bif v70 then
 some (.rt ([],false))
 else
 aa (idx a1 (i10:Int)) fun v75=>
 aa (spec_l15Put s10 v75) fun v77=>
 some (.nx v77)) a1.length 0 s5) fun s10=>
 some (s10,true)
 else
 some ([],false)
 else
 some ([],false)

def spec_l15Proof__clause_ht0(a0:lc)(a1:Int):Option ((List Int)×lc):=
 bif decide (a1<(a0.set.length:Int)) then
 aa (idx a0.set a1) fun v17=>
 some (v17,a0)
 else
 aa (idx a0.steps (IntKind.i64.wrap (a1-(a0.set.length:Int)))) fun v30=>
 aa (idx a0.steps (IntKind.i64.wrap (a1-(a0.set.length:Int)))) fun v32=>
 some (v32.Clause,a0)

def spec_l15Proof__searchN:Nat→lc→(List Int)→Int→Option (Int×lc)
 | 0,_,_,_=>none
 | n+1,a0,a1,a2=>
 aa (spec_l15False a0.set a1) fun v17=>
 bif decide (0≤v17) then
 some (v17,a0)
 else
 aa (spec_l1Own a1) fun v23=>
 aa (app v23 ([a2])) fun v26=>
 aa (spec_l15Proof__searchN n a0 v26 (IntKind.i64.wrap (a2+1))) fun v29=>
 aa (spec_l15Proof__clause_ht0 v29.2 v29.1) fun v32=>
 aa (spec_l1Has v32.1 (IntKind.i64.wrap (0-a2))) fun v35=>
 bif v35 then
 aa (spec_l1Own a1) fun v40=>
 aa (app v40 ([IntKind.i64.wrap (0-a2)])) fun v44=>
 aa (spec_l15Proof__searchN n v32.2 v44 (IntKind.i64.wrap (a2+1))) fun v47=>
 aa (spec_l15Proof__clause_ht0 v47.2 v47.1) fun v50=>
 aa (spec_l1Has v50.1 a2) fun v52=>
 bif v52 then
 aa (spec_l15Proof__clause_ht0 v50.2 v47.1) fun v58=>
 aa (spec_l15Proof__clause_ht0 v58.2 v29.1) fun v61=>
 aa (spec_l15Resolve v58.1 v61.1 a2) fun v63=>
 aa (app v61.2.steps ([(Pt.mk v47.1 v29.1 a2 v63.1)])) fun v77=>
 some (IntKind.i64.wrap ((IntKind.i64.wrap ((v61.2.set.length:Int)+(v77.length:Int)))-1),(lc.mk v61.2.set v77))
 else
 some (v47.1,v50.2)
 else
 some (v29.1,v32.2)
def spec_l15Proof__search(a0:lc)(a1:List Int)(a2:Int):Option (Int×lc):=lim fun n=>spec_l15Proof__searchN n a0 a1 a2

def spec_RefuteClauses(a0:List (List Int)):Option ((List Pt)×Bool):=
 aa (spec_l15Set a0) fun v8=>
 bif v8 then
 aa (spec_l15False a0 ([])) fun v13=>
 bif decide (0≤v13) then
 some ([],false)
 else
 aa (spec_l15Most a0) fun v21=>
 aa (spec_l15Search a0 ([]) 1 v21) fun v22=>
 bif v22.2 then
 some ([],false)
 else
 aa (spec_l15Proof__search (lc.mk a0 ([])) ([]) (1:Int)) fun v32=>
 bif decide (200<(v32.2.steps.length:Int)) then
 some ([],false)
 else
 some (v32.2.steps,true)
 else
 some ([],false)

def spec_l1Cur__refutation(a0:ld):Option (((List (List Int))×(List Pt))×ld):=
 aa (spec_l1Cur__propSet a0) fun v9=>
 aa (spec_RefuteClauses v9.1) fun v12=>
 thenL (ρ:=(((List (List Int))×(List Pt))×ld)) (σ:=ld×(List (List Int))×(List Pt)×Bool) (forN (fun (i4:Nat) (s4:ld×(List (List Int))×(List Pt)×Bool)=>
 bif s4.2.2.2 then
 aa (spec_l1Cur__one s4.1 8) fun v47=>
 bif v47.1 then
 some (.rt (([[(1:Int),(2:Int)],[(-1:Int),(2:Int)],[(1:Int),(-2:Int)],[(-1:Int),(-2:Int)]],[(Pt.mk 0 1 1 ([(2:Int)])),(Pt.mk 2 3 1 ([(-2:Int)])),(Pt.mk 0 2 2 ([(1:Int)])),(Pt.mk 4 5 2 ([]))]),v47.2))
 else
 some (.rt ((s4.2.1,s4.2.2.1),v47.2))
 else
 aa (spec_l1Cur__propClause s4.1 2) fun v25=>
 aa (spec_l1Cur__pick v25.2 2) fun v27=>
 aa (spec_l1Cur__pick v27.2 2) fun v32=>
 aa (app s4.2.1 ([v25.1,[IntKind.i64.wrap ((1:Int)-(IntKind.i64.wrap ((2:Int)*v27.1)))],[IntKind.i64.wrap ((2:Int)-(IntKind.i64.wrap ((4:Int)*v32.1)))]])) fun v37=>
 aa (spec_RefuteClauses v37) fun v40=>
 some (.nx (v32.2,v37,v40.1,v40.2))) 3 0 (v9.2,v9.1,v12.1,v12.2)) fun s4=>
 bif s4.2.2.2 then
 aa (spec_l1Cur__one s4.1 8) fun v47=>
 bif v47.1 then
 some (([[(1:Int),(2:Int)],[(-1:Int),(2:Int)],[(1:Int),(-2:Int)],[(-1:Int),(-2:Int)]],[(Pt.mk 0 1 1 ([(2:Int)])),(Pt.mk 2 3 1 ([(-2:Int)])),(Pt.mk 0 2 2 ([(1:Int)])),(Pt.mk 4 5 2 ([]))]),v47.2)
 else
 some ((s4.2.1,s4.2.2.1),v47.2)
 else
 some (([[(1:Int),(2:Int)],[(-1:Int),(2:Int)],[(1:Int),(-2:Int)],[(-1:Int),(-2:Int)]],[(Pt.mk 0 1 1 ([(2:Int)])),(Pt.mk 2 3 1 ([(-2:Int)])),(Pt.mk 0 2 2 ([(1:Int)])),(Pt.mk 4 5 2 ([]))]),s4.1)

def spec_l1Cur__among(a0:ld)(a1:List Int):Option (Int×ld):=
 aa (spec_l1Cur__pick a0 (a1.length:Int)) fun v9=>
 aa (idx a1 v9.1) fun v10=>
 some (v10,v9.2)

def spec_DrawStepInterpolants(a0:List Int):Option ((List (List Int))×(List Pt)×Int×Int):=
 aa (spec_l1Cur__refutation (ld.mk a0 0 0)) fun v15=>
 aa (spec_l1Cur__pick v15.2 (IntKind.i64.wrap ((v15.1.1.length:Int)+1))) fun v22=>
 aa (spec_l1Cur__pick v22.2 20) fun v24=>
 bif decide (v24.1=0) then
 aa (spec_l1Cur__among v24.2 ([(-1:Int),IntKind.i64.wrap ((v15.1.1.length:Int)+1)])) fun v32=>
 aa (spec_l1Cur__pick v32.2 9) fun v46=>
 aa (quo v46.1 (4:Int)) fun v47=>
 aa (slc ([(1:Int),(2:Int),(1:Int),(2:Int),(0:Int),(3:Int)]) (0:Int) (IntKind.i64.wrap ((4:Int)+v47))) fun v49=>
 aa (spec_l1Cur__among v46.2 v49) fun v50=>
 some (v15.1.1,v15.1.2,v32.1,v50.1)
 else
 bif decide (v24.1=1) then
 aa (slc v15.1.2 (0:Int) (IntKind.i64.wrap ((v15.1.2.length:Int)-1))) fun v39=>
 aa (spec_l1Cur__pick v24.2 9) fun v46=>
 aa (quo v46.1 (4:Int)) fun v47=>
 aa (slc ([(1:Int),(2:Int),(1:Int),(2:Int),(0:Int),(3:Int)]) (0:Int) (IntKind.i64.wrap ((4:Int)+v47))) fun v49=>
 aa (spec_l1Cur__among v46.2 v49) fun v50=>
 some (v15.1.1,v39,v22.1,v50.1)
 else
 aa (spec_l1Cur__pick v24.2 9) fun v46=>
 aa (quo v46.1 (4:Int)) fun v47=>
 aa (slc ([(1:Int),(2:Int),(1:Int),(2:Int),(0:Int),(3:Int)]) (0:Int) (IntKind.i64.wrap ((4:Int)+v47))) fun v49=>
 aa (spec_l1Cur__among v46.2 v49) fun v50=>
 some (v15.1.1,v15.1.2,v22.1,v50.1)

def spec_DrawInterpolant(a0:List Int):Option ((List (List Int))×(List Pt)×Int×Int):=
 aa (spec_DrawStepInterpolants a0) fun v7=>
 some (v7.1,v7.2.1,v7.2.2.1,v7.2.2.2)

def impl_within(a0:Int)(a1:Int)(a2:Int):Option Bool:=
 bif decide (a1≤a0) then
 some (decide (a0≤a2))
 else
 some false

def impl_absolute(a0:Int):Option Int:=
 some (max a0 (IntKind.i64.wrap (0-a0)))

def impl_isPropClause(a0:List Int):Option Bool:=
 thenL (ρ:=Bool) (σ:=Unit) (forN (fun (i2:Nat) (s2:Unit)=>
 aa (idx a0 (i2:Int)) fun v10=>
 bif decide (v10=0) then
 some (.rt false)
 else
 aa (impl_within v10 (-12) 12) fun v16=>
 bif v16 then
 bif decide (0<(i2:Int)) then
 aa (idx a0 (IntKind.i64.wrap ((i2:Int)-1))) fun v26=>
 aa (impl_absolute v26) fun v28=>
 aa (impl_absolute v10) fun v30=>
 bif decide (v30≤v28) then
 some (.rt false)
 else
 some (.nx ())
 else
 some (.nx ())
 else
 some (.rt false)) a0.length 0 ()) fun s2=>
 some true

def impl_IsValidClauses_1(a0:List Int):Option Bool:=
 aa (impl_isPropClause a0) fun v4=>
 some (!v4)

def slices_IndexFunc_SSint_Sint(a0:List (List Int))(a1:(List Int)→Option Bool):Option Int:=
 thenL (ρ:=Int) (σ:=Unit) (forN (fun (i2:Nat) (s2:Unit)=>
 aa (idx a0 (i2:Int)) fun v14=>
 aa (a1 v14) fun v16=>
 bif v16 then
 some (.rt (i2:Int))
 else
 some (.nx ())) a0.length 0 ()) fun s2=>
 some (-1:Int)

def slices_ContainsFunc_SSint_Sint(a0:List (List Int))(a1:(List Int)→Option Bool):Option Bool:=
 aa (slices_IndexFunc_SSint_Sint a0 a1) fun v7=>
 some (decide (0≤v7))

def impl_IsValidClauses(a0:List (List Int)):Option Bool:=
 bif decide ((a0.length:Int)≤40) then
 aa (slices_ContainsFunc_SSint_Sint a0 (fun y0=>impl_IsValidClauses_1 y0)) fun v8=>
 some (!v8)
 else
 some false

def impl_clauseAt(a0:List (List Int))(a1:List Pt)(a2:Int):Option ((List Int)×Bool):=
 aa (impl_within a2 0 (IntKind.i64.wrap ((a0.length:Int)-1))) fun v13=>
 bif v13 then
 aa (idx a0 a2) fun v16=>
 some (v16,true)
 else
 aa (impl_within a2 (a0.length:Int) (IntKind.i64.wrap ((IntKind.i64.wrap ((a0.length:Int)+(a1.length:Int)))-1))) fun v28=>
 bif v28 then
 aa (idx a1 (IntKind.i64.wrap (a2-(a0.length:Int)))) fun v34=>
 some (v34.Clause,true)
 else
 some ([],false)

def impl_isPropVariable(a0:Int):Option Bool:=
 aa (impl_within a0 1 12) fun v4=>
 some v4

def slices_Index_Sint_int(a0:List Int)(a1:Int):Option Int:=
 thenL (ρ:=Int) (σ:=Unit) (forN (fun (i2:Nat) (s2:Unit)=>
 aa (idx a0 (i2:Int)) fun v14=>
 bif decide (a1=v14) then
 some (.rt (i2:Int))
 else
 some (.nx ())) a0.length 0 ()) fun s2=>
 some (-1:Int)

def slices_Contains_Sint_int(a0:List Int)(a1:Int):Option Bool:=
 aa (slices_Index_Sint_int a0 a1) fun v7=>
 some (decide (0≤v7))

def slices_Grow_Sint_int_nil0(a1:Int):Option (List Int):=
 bif decide (a1<0) then
 none
 else
 bif decide (0<(IntKind.i64.wrap (a1-(IntKind.i64.wrap ((0:Int)-(([]:List Nat).length:Int)))))) then
 aa (appz (IntKind.i64.wrap (a1-(IntKind.i64.wrap ((0:Int)-(([]:List Nat).length:Int)))))) fun n22=>
 aa (slc (List.replicate n22 (0:Int)) (0:Int) (([]:List Nat).length:Int)) fun v25=>
 some v25
 else
 some ([])

def slices_Concat_Sint_int(a0:List (List Int)):Option (List Int):=
 thenL (ρ:=(List Int)) (σ:=Int) (forN (fun (i3:Nat) (s3:Int)=>
 aa (idx a0 (i3:Int)) fun v13=>
 bif decide ((IntKind.i64.wrap (s3+(v13.length:Int)))<0) then
 none
 else
 some (.nx (IntKind.i64.wrap (s3+(v13.length:Int))))) a0.length 0 (0:Int)) fun s3=>
 aa (slices_Grow_Sint_int_nil0 s3) fun v24=>
 thenL (ρ:=(List Int)) (σ:=(List Int)) (forN (fun (i11:Nat) (s11:(List Int))=>
 aa (idx a0 (i11:Int)) fun v29=>
 aa (app s11 v29) fun v33=>
 some (.nx v33)) a0.length 0 v24) fun s11=>
 some s11

def cmp_isNaN_int(a0:Int):Option Bool:=
 some (!(decide (a0=a0)))

def cmp_Compare_int(a0:Int)(a1:Int):Option Int:=
 aa (cmp_isNaN_int a0) fun v8=>
 aa (cmp_isNaN_int a1) fun v10=>
 bif v8 then
 bif v10 then
 some (0:Int)
 else
 some (-1:Int)
 else
 bif v10 then
 some (1:Int)
 else
 bif decide (a0<a1) then
 some (-1:Int)
 else
 bif decide (a1<a0) then
 some (1:Int)
 else
 some (0:Int)

def impl_byVariable(a0:Int)(a1:Int):Option Int:=
 aa (impl_absolute a0) fun v6=>
 aa (impl_absolute a1) fun v8=>
 aa (cmp_Compare_int v6 v8) fun v9=>
 some v9

def cmpI(x y:Int):Int:=(impl_byVariable x y).getD 0
structure SortOkI(l:List Int):Prop where
 len:l.length≤1073741824
 ex:∀ x∈l,∀ y∈l,impl_byVariable x y=some (cmpI x y)
 irr:∀ x∈l,¬ cmpI x x<0
 tr:∀ x∈l,∀ y∈l,∀ z∈l,cmpI x y<0→cmpI y z<0→cmpI x z<0
 ntr:∀ x∈l,∀ y∈l,∀ z∈l,¬ cmpI x y<0→¬ cmpI y z<0→¬ cmpI x z<0
 anti:∀ x∈l,∀ y∈l,¬ cmpI x y<0→¬ cmpI y x<0→x=y
def sortIs(l:List Int):List Int:=(l.attach.mergeSort fun x y=>!decide (cmpI y.1 x.1<0)).map (·.1)
def slices_SortFuncI(a0:List Int):Option (Unit×List Int):=@ite _ (SortOkI a0) (Classical.propDecidable _) (some ((),sortIs a0)) none

def impl_ResolveOn(a0:List Int)(a1:List Int)(a2:Int):Option ((List Int)×Bool):=
 aa (impl_isPropClause a0) fun v12=>
 bif v12 then
 aa (impl_isPropClause a1) fun v16=>
 bif v16 then
 aa (impl_isPropVariable a2) fun v21=>
 bif v21 then
 aa (slices_Contains_Sint_int a0 a2) fun v27=>
 bif v27 then
 aa (slices_Contains_Sint_int a1 (IntKind.i64.wrap (0-a2))) fun v34=>
 bif v34 then
 aa (slices_Concat_Sint_int ([a0,a1])) fun v41=>
 thenL (ρ:=((List Int)×Bool)) (σ:=(List Int)) (forN (fun (i5:Nat) (s5:(List Int))=>
 aa (idx v41 (i5:Int)) fun v45=>
 aa (idx v41 (i5:Int)) fun v46=>
 bif decide (v46=a2) then
 some (.nx s5)
 else
 bif decide (v46=(IntKind.i64.wrap (0-a2))) then
 some (.nx s5)
 else
 aa (slices_Contains_Sint_int s5 v46) fun v59=>
 bif v59 then
 some (.nx s5)
 else
 aa (slices_Contains_Sint_int s5 (IntKind.i64.wrap (0-v46))) fun v64=>
 bif v64 then
 some (.rt ([],false))
 else
 aa (app s5 ([v46])) fun v68=>
 some (.nx v68)) v41.length 0 ([])) fun s5=>
 aa (slices_SortFuncI s5) fun v71=>
 some (v71.2,true)
 else
 some ([],false)
 else
 some ([],false)
 else
 some ([],false)
 else
 some ([],false)
 else
 some ([],false)

def slices_Equal_Sint_int(a0:List Int)(a1:List Int):Option Bool:=
 bif decide ((a0.length:Int)=(a1.length:Int)) then
 thenL (ρ:=Bool) (σ:=Unit) (forN (fun (i4:Nat) (s4:Unit)=>
 aa (idx a0 (i4:Int)) fun v18=>
 aa (idx a1 (i4:Int)) fun v22=>
 bif decide (v18=v22) then
 some (.nx ())
 else
 some (.rt false)) a0.length 0 ()) fun s4=>
 some true
 else
 some false

def impl_CheckRefutation(a0:List (List Int))(a1:List Pt):Option (Int×Bool):=
 aa (impl_IsValidClauses a0) fun v15=>
 bif v15 then
 aa (impl_within (a1.length:Int) 1 200) fun v20=>
 bif v20 then
 thenL (ρ:=(Int×Bool)) (σ:=Unit) (forN (fun (i4:Nat) (s4:Unit)=>
 aa (idx a1 (i4:Int)) fun v28=>
 aa (slc a1 (0:Int) (i4:Int)) fun v34=>
 aa (impl_clauseAt a0 v34 v28.Left) fun v37=>
 aa (slc a1 (0:Int) (i4:Int)) fun v44=>
 aa (impl_clauseAt a0 v44 v28.Right) fun v47=>
 bif v37.2 then
 bif v47.2 then
 aa (impl_ResolveOn v37.1 v47.1 v28.Pivot) fun v62=>
 bif v62.2 then
 aa (slices_Equal_Sint_int v62.1 v28.Clause) fun v71=>
 bif v71 then
 some (.nx ())
 else
 some (.rt ((i4:Int),true))
 else
 some (.rt ((i4:Int),true))
 else
 some (.rt ((i4:Int),true))
 else
 some (.rt ((i4:Int),true))) a1.length 0 ()) fun s4=>
 aa (idx a1 (IntKind.i64.wrap ((a1.length:Int)-1))) fun v80=>
 bif decide (0<(v80.Clause.length:Int)) then
 some ((a1.length:Int),true)
 else
 some ((-1:Int),true)
 else
 some ((0:Int),false)
 else
 some ((0:Int),false)

def impl_isPropRefutation(a0:List (List Int))(a1:List Pt):Option Bool:=
 aa (impl_CheckRefutation a0 a1) fun v10=>
 bif v10.2 then
 some (decide (v10.1=(-1)))
 else
 some false

def impl_isSplit(a0:List (List Int))(a1:Int):Option Bool:=
 aa (impl_IsValidClauses a0) fun v6=>
 bif v6 then
 aa (impl_within a1 0 (a0.length:Int)) fun v11=>
 some v11
 else
 some false

def impl_greatest(a0:List (List Int)):Option Int:=
 thenL (ρ:=Int) (σ:=Int) (forN (fun (i3:Nat) (s3:Int)=>
 aa (idx a0 (i3:Int)) fun v12=>
 thenL (ρ:=(Flow Int Int)) (σ:=Int) (forN (fun (i6:Nat) (s6:Int)=>
 aa (idx v12 (i6:Int)) fun v18=>
 aa (impl_absolute v18) fun v22=>
 some (.nx (max s6 v22))) v12.length 0 s3) fun s6=>
 some (.nx s6)) a0.length 0 (0:Int)) fun s3=>
 some s3

def impl_colors(a0:List (List Int))(a1:Int):Option (List Int):=
 aa (impl_greatest a0) fun v12=>
 aa (mkn v12) fun n13=>
 thenL (ρ:=(List Int)) (σ:=(List Int)) (forN (fun (i3:Nat) (s3:(List Int))=>
 aa (idx a0 (i3:Int)) fun v19=>
 bif decide (a1≤(i3:Int)) then
 thenL (ρ:=(Flow (List Int) (List Int))) (σ:=(List Int)) (forN (fun (i9:Nat) (s9:(List Int))=>
 aa (idx v19 (i9:Int)) fun v28=>
 aa (impl_absolute v28) fun v32=>
 aa (idx s9 (IntKind.i64.wrap (v32-1))) fun v34=>
 aa (idx s9 (IntKind.i64.wrap (v32-1))) fun v35=>
 aa (idx s9 (IntKind.i64.wrap (v32-1))) fun v38=>
 aa (idx s9 (IntKind.i64.wrap (v32-1))) fun w4=>
 some (.nx (s9.set (IntKind.i64.wrap (v32-1)).toNat (bitor .i64 v35 (2:Int))))) v19.length 0 s3) fun s9=>
 some (.nx s9)
 else
 thenL (ρ:=(Flow (List Int) (List Int))) (σ:=(List Int)) (forN (fun (i9:Nat) (s9:(List Int))=>
 aa (idx v19 (i9:Int)) fun v28=>
 aa (impl_absolute v28) fun v32=>
 aa (idx s9 (IntKind.i64.wrap (v32-1))) fun v34=>
 aa (idx s9 (IntKind.i64.wrap (v32-1))) fun v35=>
 aa (idx s9 (IntKind.i64.wrap (v32-1))) fun v38=>
 aa (idx s9 (IntKind.i64.wrap (v32-1))) fun w7=>
 some (.nx (s9.set (IntKind.i64.wrap (v32-1)).toNat (bitor .i64 v35 (1:Int))))) v19.length 0 s3) fun s9=>
 some (.nx s9)) a0.length 0 (List.replicate n13 (0:Int))) fun s3=>
 some s3

def slices_Clone_Sint_int(a0:List Int):Option (List Int):=
 aa (app ([]) a0) fun v7=>
 some v7

def impl_interpolation__ofClause_1(a0:Int)(b0:ia):Option Bool:=
 aa (impl_absolute a0) fun v9=>
 aa (idx b0.colors (IntKind.i64.wrap (v9-1))) fun v11=>
 some (decide ((bitand .i64 v11 (2:Int))=0))

def slices_IndexFunc_Sint_int(a0:List Int)(a1:Int→Option Bool):Option Int:=
 thenL (ρ:=Int) (σ:=Unit) (forN (fun (i2:Nat) (s2:Unit)=>
 aa (idx a0 (i2:Int)) fun v14=>
 aa (a1 v14) fun v16=>
 bif v16 then
 some (.rt (i2:Int))
 else
 some (.nx ())) a0.length 0 ()) fun s2=>
 some (-1:Int)

def slices_DeleteFunc_Sint_int(a0:List Int)(a1:Int→Option Bool):Option (List Int):=
 aa (slices_IndexFunc_Sint_int a0 a1) fun v10=>
 bif decide (v10=(-1)) then
 some a0
 else
 thenL (ρ:=(List Int)) (σ:=Int×(List Int)×Int) (lim fun n5=>whileN (fun (s5:Int×(List Int)×Int)=>
 bif decide (s5.1<(s5.2.1.length:Int)) then
 aa (idx s5.2.1 s5.1) fun v24=>
 aa (idx s5.2.1 s5.1) fun v25=>
 aa (a1 v25) fun v28=>
 bif v28 then
 some (.nx (IntKind.i64.wrap (s5.1+1),s5.2.1,s5.2.2))
 else
 aa (idx s5.2.1 s5.2.2) fun v33=>
 aa (idx s5.2.1 s5.2.2) fun w4=>
 some (.nx (IntKind.i64.wrap (s5.1+1),s5.2.1.set s5.2.2.toNat v25,IntKind.i64.wrap (s5.2.2+1)))
 else
 some (.br s5)) n5 (IntKind.i64.wrap (v10+1),a0,v10)) fun s5=>
 aa (rngN s5.2.1.length s5.2.2 (s5.2.1.length:Int)) fun v38=>
 aa (clr (0:Int) s5.2.1 s5.2.2) fun r5=>
 aa (slc r5 (0:Int) s5.2.2) fun v41=>
 some v41

def strconv_small(a0:Int):Option ByteArray:=
 bif decide (a0<10) then
 aa (sslc (⟨#[48,49,50,51,52,53,54,55,56,57,97,98,99,100,101,102,103,104,105,106,107,108,109,110,111,112,113,114,115,116,117,118,119,120,121,122]⟩:ByteArray) a0 (IntKind.i64.wrap (a0+1))) fun v8=>
 some v8
 else
 aa (sslc (⟨#[48,48,48,49,48,50,48,51,48,52,48,53,48,54,48,55,48,56,48,57,49,48,49,49,49,50,49,51,49,52,49,53,49,54,49,55,49,56,49,57,50,48,50,49,50,50,50,51,50,52,50,53,50,54,50,55,50,56,50,57,51,48,51,49,51,50,51,51,51,52,51,53,51,54,51,55,51,56,51,57,52,48,52,49,52,50,52,51,52,52,52,53,52,54,52,55,52,56,52,57,53,48,53,49,53,50,53,51,53,52,53,53,53,54,53,55,53,56,53,57,54,48,54,49,54,50,54,51,54,52,54,53,54,54,54,55,54,56,54,57,55,48,55,49,55,50,55,51,55,52,55,53,55,54,55,55,55,56,55,57,56,48,56,49,56,50,56,51,56,52,56,53,56,54,56,55,56,56,56,57,57,48,57,49,57,50,57,51,57,52,57,53,57,54,57,55,57,56,57,57]⟩:ByteArray) (IntKind.i64.wrap (a0*2)) (IntKind.i64.wrap ((IntKind.i64.wrap (a0*2))+2))) fun v14=>
 some v14

def bits_Len64(a0:Int):Option Int:=
 bif decide (4294967296≤a0) then
 aa (shr .u64 a0 (32:Int)) fun v6=>
 bif decide (65536≤v6) then
 aa (shr .u64 v6 (16:Int)) fun v10=>
 bif decide (256≤v10) then
 aa (shr .u64 v10 (8:Int)) fun v16=>
 aa (sidx (⟨#[0,1,2,2,3,3,3,3,4,4,4,4,4,4,4,4,5,5,5,5,5,5,5,5,5,5,5,5,5,5,5,5,6,6,6,6,6,6,6,6,6,6,6,6,6,6,6,6,6,6,6,6,6,6,6,6,6,6,6,6,6,6,6,6,7,7,7,7,7,7,7,7,7,7,7,7,7,7,7,7,7,7,7,7,7,7,7,7,7,7,7,7,7,7,7,7,7,7,7,7,7,7,7,7,7,7,7,7,7,7,7,7,7,7,7,7,7,7,7,7,7,7,7,7,7,7,7,7,8,8,8,8,8,8,8,8,8,8,8,8,8,8,8,8,8,8,8,8,8,8,8,8,8,8,8,8,8,8,8,8,8,8,8,8,8,8,8,8,8,8,8,8,8,8,8,8,8,8,8,8,8,8,8,8,8,8,8,8,8,8,8,8,8,8,8,8,8,8,8,8,8,8,8,8,8,8,8,8,8,8,8,8,8,8,8,8,8,8,8,8,8,8,8,8,8,8,8,8,8,8,8,8,8,8,8,8,8,8,8,8,8,8,8,8,8,8,8,8,8,8,8,8,8,8,8,8]⟩:ByteArray) (IntKind.u8.wrap v16)) fun v22=>
 some (IntKind.i64.wrap ((IntKind.i64.wrap ((IntKind.i64.wrap ((32:Int)+16))+8))+(IntKind.i64.wrap v22)))
 else
 aa (sidx (⟨#[0,1,2,2,3,3,3,3,4,4,4,4,4,4,4,4,5,5,5,5,5,5,5,5,5,5,5,5,5,5,5,5,6,6,6,6,6,6,6,6,6,6,6,6,6,6,6,6,6,6,6,6,6,6,6,6,6,6,6,6,6,6,6,6,7,7,7,7,7,7,7,7,7,7,7,7,7,7,7,7,7,7,7,7,7,7,7,7,7,7,7,7,7,7,7,7,7,7,7,7,7,7,7,7,7,7,7,7,7,7,7,7,7,7,7,7,7,7,7,7,7,7,7,7,7,7,7,7,8,8,8,8,8,8,8,8,8,8,8,8,8,8,8,8,8,8,8,8,8,8,8,8,8,8,8,8,8,8,8,8,8,8,8,8,8,8,8,8,8,8,8,8,8,8,8,8,8,8,8,8,8,8,8,8,8,8,8,8,8,8,8,8,8,8,8,8,8,8,8,8,8,8,8,8,8,8,8,8,8,8,8,8,8,8,8,8,8,8,8,8,8,8,8,8,8,8,8,8,8,8,8,8,8,8,8,8,8,8,8,8,8,8,8,8,8,8,8,8,8,8,8,8,8,8,8,8]⟩:ByteArray) (IntKind.u8.wrap v10)) fun v22=>
 some (IntKind.i64.wrap ((IntKind.i64.wrap ((32:Int)+16))+(IntKind.i64.wrap v22)))
 else
 bif decide (256≤v6) then
 aa (shr .u64 v6 (8:Int)) fun v16=>
 aa (sidx (⟨#[0,1,2,2,3,3,3,3,4,4,4,4,4,4,4,4,5,5,5,5,5,5,5,5,5,5,5,5,5,5,5,5,6,6,6,6,6,6,6,6,6,6,6,6,6,6,6,6,6,6,6,6,6,6,6,6,6,6,6,6,6,6,6,6,7,7,7,7,7,7,7,7,7,7,7,7,7,7,7,7,7,7,7,7,7,7,7,7,7,7,7,7,7,7,7,7,7,7,7,7,7,7,7,7,7,7,7,7,7,7,7,7,7,7,7,7,7,7,7,7,7,7,7,7,7,7,7,7,8,8,8,8,8,8,8,8,8,8,8,8,8,8,8,8,8,8,8,8,8,8,8,8,8,8,8,8,8,8,8,8,8,8,8,8,8,8,8,8,8,8,8,8,8,8,8,8,8,8,8,8,8,8,8,8,8,8,8,8,8,8,8,8,8,8,8,8,8,8,8,8,8,8,8,8,8,8,8,8,8,8,8,8,8,8,8,8,8,8,8,8,8,8,8,8,8,8,8,8,8,8,8,8,8,8,8,8,8,8,8,8,8,8,8,8,8,8,8,8,8,8,8,8,8,8,8,8]⟩:ByteArray) (IntKind.u8.wrap v16)) fun v22=>
 some (IntKind.i64.wrap ((IntKind.i64.wrap ((32:Int)+8))+(IntKind.i64.wrap v22)))
 else
 aa (sidx (⟨#[0,1,2,2,3,3,3,3,4,4,4,4,4,4,4,4,5,5,5,5,5,5,5,5,5,5,5,5,5,5,5,5,6,6,6,6,6,6,6,6,6,6,6,6,6,6,6,6,6,6,6,6,6,6,6,6,6,6,6,6,6,6,6,6,7,7,7,7,7,7,7,7,7,7,7,7,7,7,7,7,7,7,7,7,7,7,7,7,7,7,7,7,7,7,7,7,7,7,7,7,7,7,7,7,7,7,7,7,7,7,7,7,7,7,7,7,7,7,7,7,7,7,7,7,7,7,7,7,8,8,8,8,8,8,8,8,8,8,8,8,8,8,8,8,8,8,8,8,8,8,8,8,8,8,8,8,8,8,8,8,8,8,8,8,8,8,8,8,8,8,8,8,8,8,8,8,8,8,8,8,8,8,8,8,8,8,8,8,8,8,8,8,8,8,8,8,8,8,8,8,8,8,8,8,8,8,8,8,8,8,8,8,8,8,8,8,8,8,8,8,8,8,8,8,8,8,8,8,8,8,8,8,8,8,8,8,8,8,8,8,8,8,8,8,8,8,8,8,8,8,8,8,8,8,8,8]⟩:ByteArray) (IntKind.u8.wrap v6)) fun v22=>
 some (IntKind.i64.wrap ((32:Int)+(IntKind.i64.wrap v22)))
 else
 bif decide (65536≤a0) then
 aa (shr .u64 a0 (16:Int)) fun v10=>
 bif decide (256≤v10) then
 aa (shr .u64 v10 (8:Int)) fun v16=>
 aa (sidx (⟨#[0,1,2,2,3,3,3,3,4,4,4,4,4,4,4,4,5,5,5,5,5,5,5,5,5,5,5,5,5,5,5,5,6,6,6,6,6,6,6,6,6,6,6,6,6,6,6,6,6,6,6,6,6,6,6,6,6,6,6,6,6,6,6,6,7,7,7,7,7,7,7,7,7,7,7,7,7,7,7,7,7,7,7,7,7,7,7,7,7,7,7,7,7,7,7,7,7,7,7,7,7,7,7,7,7,7,7,7,7,7,7,7,7,7,7,7,7,7,7,7,7,7,7,7,7,7,7,7,8,8,8,8,8,8,8,8,8,8,8,8,8,8,8,8,8,8,8,8,8,8,8,8,8,8,8,8,8,8,8,8,8,8,8,8,8,8,8,8,8,8,8,8,8,8,8,8,8,8,8,8,8,8,8,8,8,8,8,8,8,8,8,8,8,8,8,8,8,8,8,8,8,8,8,8,8,8,8,8,8,8,8,8,8,8,8,8,8,8,8,8,8,8,8,8,8,8,8,8,8,8,8,8,8,8,8,8,8,8,8,8,8,8,8,8,8,8,8,8,8,8,8,8,8,8,8,8]⟩:ByteArray) (IntKind.u8.wrap v16)) fun v22=>
 some (IntKind.i64.wrap ((IntKind.i64.wrap ((IntKind.i64.wrap ((0:Int)+16))+8))+(IntKind.i64.wrap v22)))
 else
 aa (sidx (⟨#[0,1,2,2,3,3,3,3,4,4,4,4,4,4,4,4,5,5,5,5,5,5,5,5,5,5,5,5,5,5,5,5,6,6,6,6,6,6,6,6,6,6,6,6,6,6,6,6,6,6,6,6,6,6,6,6,6,6,6,6,6,6,6,6,7,7,7,7,7,7,7,7,7,7,7,7,7,7,7,7,7,7,7,7,7,7,7,7,7,7,7,7,7,7,7,7,7,7,7,7,7,7,7,7,7,7,7,7,7,7,7,7,7,7,7,7,7,7,7,7,7,7,7,7,7,7,7,7,8,8,8,8,8,8,8,8,8,8,8,8,8,8,8,8,8,8,8,8,8,8,8,8,8,8,8,8,8,8,8,8,8,8,8,8,8,8,8,8,8,8,8,8,8,8,8,8,8,8,8,8,8,8,8,8,8,8,8,8,8,8,8,8,8,8,8,8,8,8,8,8,8,8,8,8,8,8,8,8,8,8,8,8,8,8,8,8,8,8,8,8,8,8,8,8,8,8,8,8,8,8,8,8,8,8,8,8,8,8,8,8,8,8,8,8,8,8,8,8,8,8,8,8,8,8,8,8]⟩:ByteArray) (IntKind.u8.wrap v10)) fun v22=>
 some (IntKind.i64.wrap ((IntKind.i64.wrap ((0:Int)+16))+(IntKind.i64.wrap v22)))
 else
 bif decide (256≤a0) then
 aa (shr .u64 a0 (8:Int)) fun v16=>
 aa (sidx (⟨#[0,1,2,2,3,3,3,3,4,4,4,4,4,4,4,4,5,5,5,5,5,5,5,5,5,5,5,5,5,5,5,5,6,6,6,6,6,6,6,6,6,6,6,6,6,6,6,6,6,6,6,6,6,6,6,6,6,6,6,6,6,6,6,6,7,7,7,7,7,7,7,7,7,7,7,7,7,7,7,7,7,7,7,7,7,7,7,7,7,7,7,7,7,7,7,7,7,7,7,7,7,7,7,7,7,7,7,7,7,7,7,7,7,7,7,7,7,7,7,7,7,7,7,7,7,7,7,7,8,8,8,8,8,8,8,8,8,8,8,8,8,8,8,8,8,8,8,8,8,8,8,8,8,8,8,8,8,8,8,8,8,8,8,8,8,8,8,8,8,8,8,8,8,8,8,8,8,8,8,8,8,8,8,8,8,8,8,8,8,8,8,8,8,8,8,8,8,8,8,8,8,8,8,8,8,8,8,8,8,8,8,8,8,8,8,8,8,8,8,8,8,8,8,8,8,8,8,8,8,8,8,8,8,8,8,8,8,8,8,8,8,8,8,8,8,8,8,8,8,8,8,8,8,8,8,8]⟩:ByteArray) (IntKind.u8.wrap v16)) fun v22=>
 some (IntKind.i64.wrap ((IntKind.i64.wrap ((0:Int)+8))+(IntKind.i64.wrap v22)))
 else
 aa (sidx (⟨#[0,1,2,2,3,3,3,3,4,4,4,4,4,4,4,4,5,5,5,5,5,5,5,5,5,5,5,5,5,5,5,5,6,6,6,6,6,6,6,6,6,6,6,6,6,6,6,6,6,6,6,6,6,6,6,6,6,6,6,6,6,6,6,6,7,7,7,7,7,7,7,7,7,7,7,7,7,7,7,7,7,7,7,7,7,7,7,7,7,7,7,7,7,7,7,7,7,7,7,7,7,7,7,7,7,7,7,7,7,7,7,7,7,7,7,7,7,7,7,7,7,7,7,7,7,7,7,7,8,8,8,8,8,8,8,8,8,8,8,8,8,8,8,8,8,8,8,8,8,8,8,8,8,8,8,8,8,8,8,8,8,8,8,8,8,8,8,8,8,8,8,8,8,8,8,8,8,8,8,8,8,8,8,8,8,8,8,8,8,8,8,8,8,8,8,8,8,8,8,8,8,8,8,8,8,8,8,8,8,8,8,8,8,8,8,8,8,8,8,8,8,8,8,8,8,8,8,8,8,8,8,8,8,8,8,8,8,8,8,8,8,8,8,8,8,8,8,8,8,8,8,8,8,8,8,8]⟩:ByteArray) (IntKind.u8.wrap a0)) fun v22=>
 some (IntKind.i64.wrap ((0:Int)+(IntKind.i64.wrap v22)))

def strconv_log10Pow2(a0:Int):Option Int:=
 aa (shr .i64 (IntKind.i64.wrap (a0*78913)) (18:Int)) fun v5=>
 some v5

def strconv_bool2_int(a0:Bool):Option Int:=
 bif a0 then
 some (1:Int)
 else
 some (0:Int)

def strconv_isPowerOfTwo(a0:Int):Option Bool:=
 some (decide ((bitand .i64 a0 (IntKind.i64.wrap (a0-1)))=0))

def strconv_formatBits(a0:List Int)(a1:Int)(a2:Int)(a3:Bool)(a4:Bool):Option ((List Int)×ByteArray):=
 bif decide (a2<2) then
 none
 else
 bif decide (a2=10) then
 none
 else
 bif decide (36<a2) then
 none
 else
 none

def strconv_FormatInt(a0:Int)(a1:Int):Option ByteArray:=
 bif decide (a1=10) then
 bif decide (0≤a0) then
 bif decide (a0<100) then
 aa (strconv_small a0) fun v19=>
 some v19
 else
 none
 else
 none
 else
 aa (strconv_formatBits ([]) (IntKind.u64.wrap a0) a1 (decide (a0<0)) false) fun v50=>
 some v50.2

def strconv_Itoa_148(a0:Int):Option ByteArray:=
 aa (strconv_FormatInt a0 (10:Int)) fun v4=>
 some v4

def strconv_Itoa(a0:Int):Option ByteArray:=
 aa (strconv_Itoa_148 a0) fun v4=>
 some v4

def impl_atomOf(a0:Tt):Option Ft:=
 some (Ft.mk 3 a0 ⟨#[]⟩ ([]))

def impl_not(a0:Ft):Option Ft:=
 some (Ft.mk 4 (Tt.mk ⟨#[]⟩ ([])) (⟨#[]⟩:ByteArray) ([a0]))

def impl_variableFormula(a0:Int):Option Ft:=
 aa (impl_absolute a0) fun v5=>
 aa (strconv_Itoa v5) fun v6=>
 aa (sapp (⟨#[118]⟩:ByteArray) v6) fun v7=>
 aa (impl_atomOf (Tt.mk v7 ([]))) fun v9=>
 bif decide (a0<0) then
 aa (impl_not v9) fun v13=>
 some v13
 else
 some v9

def impl_binary(a0:Int)(a1:Ft)(a2:Ft):Option Ft:=
 some (Ft.mk a0 (Tt.mk ⟨#[]⟩ ([])) (⟨#[]⟩:ByteArray) ([a1,a2]))

def impl_combined(a0:Int)(a1:List Ft)(a2:Ft):Option Ft:=
 some (match a1.reverse with
 | []=>a2
 | x::r=>r.foldl (fun o f=>(impl_binary a0 f o).getD default) x)

def impl_clauseFormula(a0:List Int):Option Ft:=
 thenL (ρ:=Ft) (σ:=(List Ft)) (forN (fun (i3:Nat) (s3:(List Ft))=>
 aa (idx a0 (i3:Int)) fun v11=>
 aa (impl_variableFormula v11) fun v15=>
 aa (app s3 ([v15])) fun v17=>
 some (.nx v17)) a0.length 0 ([])) fun s3=>
 aa (impl_combined 6 s3 (Ft.mk 2 (Tt.mk ⟨#[]⟩ ([])) (⟨#[]⟩:ByteArray) ([]))) fun v21=>
 some v21

def impl_interpolation__ofClause(a0:ia)(a1:Int):Option Ft:=
 bif decide (a0.split≤a1) then
 some (Ft.mk 1 (Tt.mk ⟨#[]⟩ ([])) (⟨#[]⟩:ByteArray) ([]))
 else
 bif decide (a0.system=2) then
 some (Ft.mk 2 (Tt.mk ⟨#[]⟩ ([])) (⟨#[]⟩:ByteArray) ([]))
 else
 aa (idx a0.set a1) fun v25=>
 aa (slices_Clone_Sint_int v25) fun v27=>
 aa (slices_DeleteFunc_Sint_int v27 (fun y0=>impl_interpolation__ofClause_1 y0 a0)) fun v29=>
 aa (impl_clauseFormula v29) fun v30=>
 some v30

def slices_EqualFunc_Simpl_Term_Simpl_Term_impl_Term_impl_Term(a0:List Tt)(a1:List Tt)(a2:Tt→Tt→Option Bool):Option Bool:=
 bif decide ((a0.length:Int)=(a1.length:Int)) then
 thenL (ρ:=Bool) (σ:=Unit) (forN (fun (i4:Nat) (s4:Unit)=>
 aa (idx a0 (i4:Int)) fun v20=>
 aa (idx a1 (i4:Int)) fun v24=>
 aa (a2 v20 v24) fun v29=>
 bif v29 then
 some (.nx ())
 else
 some (.rt false)) a0.length 0 ()) fun s4=>
 some true
 else
 some false

def impl_EqualTermsN:Nat→Tt→Tt→Option Bool
 | 0,_,_=>none
 | n+1,a0,a1=>
 bif decide (a0.Name=a1.Name) then
 aa (slices_EqualFunc_Simpl_Term_Simpl_Term_impl_Term_impl_Term a0.Args a1.Args (fun y0 y1=>impl_EqualTermsN n y0 y1)) fun v15=>
 some v15
 else
 some false
def impl_EqualTerms(a0:Tt)(a1:Tt):Option Bool:=lim fun n=>impl_EqualTermsN n a0 a1

def slices_EqualFunc_Simpl_Formula_Simpl_Formula_impl_Formula_impl_Formula(a0:List Ft)(a1:List Ft)(a2:Ft→Ft→Option Bool):Option Bool:=
 bif decide ((a0.length:Int)=(a1.length:Int)) then
 thenL (ρ:=Bool) (σ:=Unit) (forN (fun (i4:Nat) (s4:Unit)=>
 aa (idx a0 (i4:Int)) fun v20=>
 aa (idx a1 (i4:Int)) fun v24=>
 aa (a2 v20 v24) fun v29=>
 bif v29 then
 some (.nx ())
 else
 some (.rt false)) a0.length 0 ()) fun s4=>
 some true
 else
 some false

def impl_sameFormulaN:Nat→Ft→Ft→Option Bool
 | 0,_,_=>none
 | n+1,a0,a1=>
 bif decide (a0.Op=a1.Op) then
 aa (impl_EqualTerms a0.Atom a1.Atom) fun v15=>
 bif v15 then
 bif decide (a0.Var=a1.Var) then
 aa (slices_EqualFunc_Simpl_Formula_Simpl_Formula_impl_Formula_impl_Formula a0.Parts a1.Parts (fun y0 y1=>impl_sameFormulaN n y0 y1)) fun v29=>
 some v29
 else
 some false
 else
 some false
 else
 some false
def impl_sameFormula(a0:Ft)(a1:Ft):Option Bool:=lim fun n=>impl_sameFormulaN n a0 a1

def impl_simplified(a0:Int)(a1:Int)(a2:Int)(a3:Ft)(a4:Ft):Option Ft:=
 bif decide (a3.Op=a1) then
 some (Ft.mk a1 (Tt.mk ⟨#[]⟩ ([])) (⟨#[]⟩:ByteArray) ([]))
 else
 bif decide (a4.Op=a1) then
 some (Ft.mk a1 (Tt.mk ⟨#[]⟩ ([])) (⟨#[]⟩:ByteArray) ([]))
 else
 bif decide (a3.Op=a2) then
 some a4
 else
 bif decide (a4.Op=a2) then
 some a3
 else
 aa (impl_sameFormula a3 a4) fun v38=>
 bif v38 then
 some a3
 else
 aa (impl_binary a0 a3 a4) fun v44=>
 some v44

def impl_disjoined(a0:Ft)(a1:Ft):Option Ft:=
 aa (impl_simplified 6 1 2 a0 a1) fun v7=>
 some v7

def impl_conjunction(a0:Ft)(a1:Ft):Option Ft:=
 aa (impl_simplified 5 2 1 a0 a1) fun v7=>
 some v7

def impl_interpolation__ofStep(a0:ia)(a1:Int)(a2:Ft)(a3:Ft):Option Ft:=
 aa (idx a0.colors (IntKind.i64.wrap (a1-1))) fun v16=>
 bif decide ((bitand .i64 v16 (2:Int))=0) then
 aa (impl_disjoined a2 a3) fun v24=>
 some v24
 else
 bif decide (a0.system=1) then
 aa (impl_conjunction a2 a3) fun v38=>
 some v38
 else
 bif decide ((bitand .i64 v16 (1:Int))=0) then
 aa (impl_conjunction a2 a3) fun v38=>
 some v38
 else
 aa (impl_variableFormula a1) fun v40=>
 aa (impl_disjoined v40 a2) fun v42=>
 aa (impl_variableFormula (IntKind.i64.wrap (0-a1))) fun v45=>
 aa (impl_disjoined v45 a3) fun v47=>
 aa (impl_conjunction v42 v47) fun v48=>
 some v48

def impl_sizeOfN:Nat→Ft→Option Int
 | 0,_=>none
 | n+1,a0=>
 thenL (ρ:=Int) (σ:=Int) (forN (fun (i3:Nat) (s3:Int)=>
 aa (idx a0.Parts (i3:Int)) fun v11=>
 bif decide (40<s3) then
 some (.rt s3)
 else
 aa (impl_sizeOfN n v11) fun v18=>
 some (.nx (IntKind.i64.wrap (s3+v18)))) a0.Parts.length 0 (1:Int)) fun s3=>
 some s3
def impl_sizeOf(a0:Ft):Option Int:=lim fun n=>impl_sizeOfN n a0

def impl_isQuantifier(a0:Int):Option Bool:=
 bif decide (a0=8) then
 some true
 else
 some (decide (a0=9))

def impl_isBinary(a0:Int):Option Bool:=
 bif decide (a0=5) then
 some true
 else
 bif decide (a0=6) then
 some true
 else
 some (decide (a0=7))

def impl_isUpper(a0:Int):Option Bool:=
 bif decide (65≤a0) then
 some (decide (a0≤90))
 else
 some false

def impl_isLower(a0:Int):Option Bool:=
 bif decide (97≤a0) then
 some (decide (a0≤122))
 else
 some false

def impl_isDigit(a0:Int):Option Bool:=
 bif decide (48≤a0) then
 some (decide (a0≤57))
 else
 some false

def impl_isVariable(a0:ByteArray):Option Bool:=
 aa (bnd (a0.size:Int)) fun N2=>
 thenL (ρ:=Bool) (σ:=Unit) (forN (fun (i2:Nat) (s2:Unit)=>
 bif decide ((i2:Int)=0) then
 aa (sidx a0 (i2:Int)) fun v14=>
 aa (impl_isUpper v14) fun v15=>
 bif v15 then
 bif decide (0<(i2:Int)) then
 aa (sidx a0 (i2:Int)) fun v24=>
 aa (impl_isLower v24) fun v25=>
 bif v25 then
 some (.nx ())
 else
 aa (sidx a0 (i2:Int)) fun v31=>
 aa (impl_isDigit v31) fun v32=>
 bif v32 then
 some (.nx ())
 else
 some (.rt false)
 else
 some (.nx ())
 else
 some (.rt false)
 else
 bif decide (0<(i2:Int)) then
 aa (sidx a0 (i2:Int)) fun v24=>
 aa (impl_isLower v24) fun v25=>
 bif v25 then
 some (.nx ())
 else
 aa (sidx a0 (i2:Int)) fun v31=>
 aa (impl_isDigit v31) fun v32=>
 bif v32 then
 some (.nx ())
 else
 some (.rt false)
 else
 some (.nx ())) N2 0 ()) fun s2=>
 aa (impl_within (a0.size:Int) 1 4) fun v39=>
 some v39

def impl_isEquality(a0:Tt):Option Bool:=
 some (decide (a0.Name=(⟨#[61]⟩:ByteArray)))

def impl_sizeN:Nat→Tt→Option Int
 | 0,_=>none
 | n+1,a0=>
 thenL (ρ:=Int) (σ:=Int) (forN (fun (i3:Nat) (s3:Int)=>
 aa (idx a0.Args (i3:Int)) fun v11=>
 bif decide (30<s3) then
 some (.rt s3)
 else
 aa (impl_sizeN n v11) fun v18=>
 some (.nx (IntKind.i64.wrap (s3+v18)))) a0.Args.length 0 (1:Int)) fun s3=>
 some s3
def impl_size(a0:Tt):Option Int:=lim fun n=>impl_sizeN n a0

def impl_depthN:Nat→Tt→Option Int
 | 0,_=>none
 | n+1,a0=>
 thenL (ρ:=Int) (σ:=Int) (forN (fun (i3:Nat) (s3:Int)=>
 aa (idx a0.Args (i3:Int)) fun v11=>
 aa (impl_depthN n v11) fun v15=>
 some (.nx (max s3 v15))) a0.Args.length 0 (0:Int)) fun s3=>
 some (IntKind.i64.wrap (s3+1))
def impl_depth(a0:Tt):Option Int:=lim fun n=>impl_depthN n a0

def impl_isSmall(a0:Tt):Option Bool:=
 aa (impl_size a0) fun v4=>
 bif decide (v4≤30) then
 aa (impl_depth a0) fun v8=>
 some (decide (v8≤8))
 else
 some false

def impl_reserved  :Option (List ByteArray):=
 some ([(⟨#[116,114,117,101]⟩:ByteArray),(⟨#[102,97,108,115,101]⟩:ByteArray),(⟨#[116,114,117,116,104]⟩:ByteArray),(⟨#[98,111,116,104]⟩:ByteArray),(⟨#[101,105,116,104,101,114]⟩:ByteArray),(⟨#[105,102]⟩:ByteArray),(⟨#[97,108,108]⟩:ByteArray),(⟨#[115,111,109,101]⟩:ByteArray)])

def slices_Index_Sstring_string(a0:List ByteArray)(a1:ByteArray):Option Int:=
 thenL (ρ:=Int) (σ:=Unit) (forN (fun (i2:Nat) (s2:Unit)=>
 aa (idx a0 (i2:Int)) fun v14=>
 bif decide (a1=v14) then
 some (.rt (i2:Int))
 else
 some (.nx ())) a0.length 0 ()) fun s2=>
 some (-1:Int)

def slices_Contains_Sstring_string(a0:List ByteArray)(a1:ByteArray):Option Bool:=
 aa (slices_Index_Sstring_string a0 a1) fun v7=>
 some (decide (0≤v7))

def impl_isSymbol(a0:ByteArray):Option Bool:=
 aa (bnd (a0.size:Int)) fun N2=>
 thenL (ρ:=Bool) (σ:=Unit) (forN (fun (i2:Nat) (s2:Unit)=>
 bif decide ((i2:Int)=0) then
 aa (sidx a0 (i2:Int)) fun v14=>
 aa (impl_isLower v14) fun v15=>
 bif v15 then
 aa (sidx a0 (i2:Int)) fun v21=>
 aa (impl_isLower v21) fun v22=>
 bif v22 then
 some (.nx ())
 else
 aa (sidx a0 (i2:Int)) fun v27=>
 aa (impl_isDigit v27) fun v28=>
 bif v28 then
 some (.nx ())
 else
 aa (sidx a0 (i2:Int)) fun v34=>
 bif decide (v34=95) then
 some (.nx ())
 else
 some (.rt false)
 else
 some (.rt false)
 else
 aa (sidx a0 (i2:Int)) fun v21=>
 aa (impl_isLower v21) fun v22=>
 bif v22 then
 some (.nx ())
 else
 aa (sidx a0 (i2:Int)) fun v27=>
 aa (impl_isDigit v27) fun v28=>
 bif v28 then
 some (.nx ())
 else
 aa (sidx a0 (i2:Int)) fun v34=>
 bif decide (v34=95) then
 some (.nx ())
 else
 some (.rt false)) N2 0 ()) fun s2=>
 aa (impl_within (a0.size:Int) 1 6) fun v41=>
 bif v41 then
 aa (impl_reserved ) fun v43=>
 aa (slices_Contains_Sstring_string v43 a0) fun v45=>
 some (!v45)
 else
 some false

def slices_IndexFunc_Simpl_Term_impl_Term(a0:List Tt)(a1:Tt→Option Bool):Option Int:=
 thenL (ρ:=Int) (σ:=Unit) (forN (fun (i2:Nat) (s2:Unit)=>
 aa (idx a0 (i2:Int)) fun v14=>
 aa (a1 v14) fun v16=>
 bif v16 then
 some (.rt (i2:Int))
 else
 some (.nx ())) a0.length 0 ()) fun s2=>
 some (-1:Int)

def slices_ContainsFunc_Simpl_Term_impl_Term(a0:List Tt)(a1:Tt→Option Bool):Option Bool:=
 aa (slices_IndexFunc_Simpl_Term_impl_Term a0 a1) fun v7=>
 some (decide (0≤v7))

mutual
def impl_hasNamesN:Nat→Tt→Option Bool
 | 0,_=>none
 | n+1,a0=>
 aa (impl_isVariable a0.Name) fun v5=>
 bif v5 then
 some (decide ((a0.Args.length:Int)=0))
 else
 aa (impl_isSymbol a0.Name) fun v12=>
 bif v12 then
 bif decide ((a0.Args.length:Int)≤4) then
 aa (slices_ContainsFunc_Simpl_Term_impl_Term a0.Args (fun y0=>impl_hasNames_1N n y0)) fun v22=>
 some (!v22)
 else
 some false
 else
 some false
def impl_hasNames_1N:Nat→Tt→Option Bool
 | 0,_=>none
 | n+1,a0=>
 aa (impl_hasNamesN n a0) fun v4=>
 some (!v4)
end
def impl_hasNames(a0:Tt):Option Bool:=lim fun n=>impl_hasNamesN n a0
def impl_hasNames_1(a0:Tt):Option Bool:=lim fun n=>impl_hasNames_1N n a0

def impl_IsValidTerm(a0:Tt):Option Bool:=
 aa (impl_isSmall a0) fun v4=>
 bif v4 then
 aa (impl_hasNames a0) fun v7=>
 some v7
 else
 some false

def impl_IsValidAtom(a0:Tt):Option Bool:=
 aa (impl_isEquality a0) fun v4=>
 bif v4 then
 bif decide ((a0.Args.length:Int)=2) then
 aa (impl_isSmall a0) fun v11=>
 bif v11 then
 aa (idx a0.Args 0) fun v16=>
 aa (impl_hasNames v16) fun v18=>
 bif v18 then
 aa (idx a0.Args 1) fun v23=>
 aa (impl_hasNames v23) fun v25=>
 some v25
 else
 some false
 else
 some false
 else
 some false
 else
 aa (impl_isSymbol a0.Name) fun v29=>
 bif v29 then
 aa (impl_IsValidTerm a0) fun v32=>
 some v32
 else
 some false

def impl_isZeroTerm(a0:Tt):Option Bool:=
 bif decide (a0.Name=(⟨#[]⟩:ByteArray)) then
 some (decide ((a0.Args.length:Int)=0))
 else
 some false

def slices_IndexFunc_Simpl_Formula_impl_Formula(a0:List Ft)(a1:Ft→Option Bool):Option Int:=
 thenL (ρ:=Int) (σ:=Unit) (forN (fun (i2:Nat) (s2:Unit)=>
 aa (idx a0 (i2:Int)) fun v14=>
 aa (a1 v14) fun v16=>
 bif v16 then
 some (.rt (i2:Int))
 else
 some (.nx ())) a0.length 0 ()) fun s2=>
 some (-1:Int)

def slices_ContainsFunc_Simpl_Formula_impl_Formula(a0:List Ft)(a1:Ft→Option Bool):Option Bool:=
 aa (slices_IndexFunc_Simpl_Formula_impl_Formula a0 a1) fun v7=>
 some (decide (0≤v7))

mutual
def impl_hasFormN:Nat→Ft→Option Bool
 | 0,_=>none
 | n+1,a0=>
 bif decide (a0.Op=1) then
 bif decide ((a0.Parts.length:Int)=0) then
 aa (impl_isQuantifier a0.Op) fun v33=>
 bif v33 then
 aa (impl_isVariable a0.Var) fun v37=>
 bif v37 then
 aa (impl_isQuantifier a0.Op) fun v44=>
 bif v44 then
 bif decide (a0.Op=3) then
 aa (impl_IsValidAtom a0.Atom) fun v58=>
 bif v58 then
 aa (slices_ContainsFunc_Simpl_Formula_impl_Formula a0.Parts (fun y0=>impl_hasForm_1N n y0)) fun v74=>
 some (!v74)
 else
 some false
 else
 aa (impl_isZeroTerm a0.Atom) fun v68=>
 bif v68 then
 aa (slices_ContainsFunc_Simpl_Formula_impl_Formula a0.Parts (fun y0=>impl_hasForm_1N n y0)) fun v74=>
 some (!v74)
 else
 some false
 else
 bif decide (a0.Var=(⟨#[]⟩:ByteArray)) then
 bif decide (a0.Op=3) then
 aa (impl_IsValidAtom a0.Atom) fun v58=>
 bif v58 then
 aa (slices_ContainsFunc_Simpl_Formula_impl_Formula a0.Parts (fun y0=>impl_hasForm_1N n y0)) fun v74=>
 some (!v74)
 else
 some false
 else
 aa (impl_isZeroTerm a0.Atom) fun v68=>
 bif v68 then
 aa (slices_ContainsFunc_Simpl_Formula_impl_Formula a0.Parts (fun y0=>impl_hasForm_1N n y0)) fun v74=>
 some (!v74)
 else
 some false
 else
 some false
 else
 some false
 else
 aa (impl_isQuantifier a0.Op) fun v44=>
 bif v44 then
 bif decide (a0.Op=3) then
 aa (impl_IsValidAtom a0.Atom) fun v58=>
 bif v58 then
 aa (slices_ContainsFunc_Simpl_Formula_impl_Formula a0.Parts (fun y0=>impl_hasForm_1N n y0)) fun v74=>
 some (!v74)
 else
 some false
 else
 aa (impl_isZeroTerm a0.Atom) fun v68=>
 bif v68 then
 aa (slices_ContainsFunc_Simpl_Formula_impl_Formula a0.Parts (fun y0=>impl_hasForm_1N n y0)) fun v74=>
 some (!v74)
 else
 some false
 else
 bif decide (a0.Var=(⟨#[]⟩:ByteArray)) then
 bif decide (a0.Op=3) then
 aa (impl_IsValidAtom a0.Atom) fun v58=>
 bif v58 then
 aa (slices_ContainsFunc_Simpl_Formula_impl_Formula a0.Parts (fun y0=>impl_hasForm_1N n y0)) fun v74=>
 some (!v74)
 else
 some false
 else
 aa (impl_isZeroTerm a0.Atom) fun v68=>
 bif v68 then
 aa (slices_ContainsFunc_Simpl_Formula_impl_Formula a0.Parts (fun y0=>impl_hasForm_1N n y0)) fun v74=>
 some (!v74)
 else
 some false
 else
 some false
 else
 some false
 else
 bif decide (a0.Op=2) then
 bif decide ((a0.Parts.length:Int)=0) then
 aa (impl_isQuantifier a0.Op) fun v33=>
 bif v33 then
 aa (impl_isVariable a0.Var) fun v37=>
 bif v37 then
 aa (impl_isQuantifier a0.Op) fun v44=>
 bif v44 then
 bif decide (a0.Op=3) then
 aa (impl_IsValidAtom a0.Atom) fun v58=>
 bif v58 then
 aa (slices_ContainsFunc_Simpl_Formula_impl_Formula a0.Parts (fun y0=>impl_hasForm_1N n y0)) fun v74=>
 some (!v74)
 else
 some false
 else
 aa (impl_isZeroTerm a0.Atom) fun v68=>
 bif v68 then
 aa (slices_ContainsFunc_Simpl_Formula_impl_Formula a0.Parts (fun y0=>impl_hasForm_1N n y0)) fun v74=>
 some (!v74)
 else
 some false
 else
 bif decide (a0.Var=(⟨#[]⟩:ByteArray)) then
 bif decide (a0.Op=3) then
 aa (impl_IsValidAtom a0.Atom) fun v58=>
 bif v58 then
 aa (slices_ContainsFunc_Simpl_Formula_impl_Formula a0.Parts (fun y0=>impl_hasForm_1N n y0)) fun v74=>
 some (!v74)
 else
 some false
 else
 aa (impl_isZeroTerm a0.Atom) fun v68=>
 bif v68 then
 aa (slices_ContainsFunc_Simpl_Formula_impl_Formula a0.Parts (fun y0=>impl_hasForm_1N n y0)) fun v74=>
 some (!v74)
 else
 some false
 else
 some false
 else
 some false
 else
 aa (impl_isQuantifier a0.Op) fun v44=>
 bif v44 then
 bif decide (a0.Op=3) then
 aa (impl_IsValidAtom a0.Atom) fun v58=>
 bif v58 then
 aa (slices_ContainsFunc_Simpl_Formula_impl_Formula a0.Parts (fun y0=>impl_hasForm_1N n y0)) fun v74=>
 some (!v74)
 else
 some false
 else
 aa (impl_isZeroTerm a0.Atom) fun v68=>
 bif v68 then
 aa (slices_ContainsFunc_Simpl_Formula_impl_Formula a0.Parts (fun y0=>impl_hasForm_1N n y0)) fun v74=>
 some (!v74)
 else
 some false
 else
 bif decide (a0.Var=(⟨#[]⟩:ByteArray)) then
 bif decide (a0.Op=3) then
 aa (impl_IsValidAtom a0.Atom) fun v58=>
 bif v58 then
 aa (slices_ContainsFunc_Simpl_Formula_impl_Formula a0.Parts (fun y0=>impl_hasForm_1N n y0)) fun v74=>
 some (!v74)
 else
 some false
 else
 aa (impl_isZeroTerm a0.Atom) fun v68=>
 bif v68 then
 aa (slices_ContainsFunc_Simpl_Formula_impl_Formula a0.Parts (fun y0=>impl_hasForm_1N n y0)) fun v74=>
 some (!v74)
 else
 some false
 else
 some false
 else
 some false
 else
 bif decide (a0.Op=3) then
 bif decide ((a0.Parts.length:Int)=0) then
 aa (impl_isQuantifier a0.Op) fun v33=>
 bif v33 then
 aa (impl_isVariable a0.Var) fun v37=>
 bif v37 then
 aa (impl_isQuantifier a0.Op) fun v44=>
 bif v44 then
 aa (impl_IsValidAtom a0.Atom) fun v58=>
 bif v58 then
 aa (slices_ContainsFunc_Simpl_Formula_impl_Formula a0.Parts (fun y0=>impl_hasForm_1N n y0)) fun v74=>
 some (!v74)
 else
 some false
 else
 bif decide (a0.Var=(⟨#[]⟩:ByteArray)) then
 aa (impl_IsValidAtom a0.Atom) fun v58=>
 bif v58 then
 aa (slices_ContainsFunc_Simpl_Formula_impl_Formula a0.Parts (fun y0=>impl_hasForm_1N n y0)) fun v74=>
 some (!v74)
 else
 some false
 else
 some false
 else
 some false
 else
 aa (impl_isQuantifier a0.Op) fun v44=>
 bif v44 then
 aa (impl_IsValidAtom a0.Atom) fun v58=>
 bif v58 then
 aa (slices_ContainsFunc_Simpl_Formula_impl_Formula a0.Parts (fun y0=>impl_hasForm_1N n y0)) fun v74=>
 some (!v74)
 else
 some false
 else
 bif decide (a0.Var=(⟨#[]⟩:ByteArray)) then
 aa (impl_IsValidAtom a0.Atom) fun v58=>
 bif v58 then
 aa (slices_ContainsFunc_Simpl_Formula_impl_Formula a0.Parts (fun y0=>impl_hasForm_1N n y0)) fun v74=>
 some (!v74)
 else
 some false
 else
 some false
 else
 some false
 else
 bif decide (a0.Op=4) then
 bif decide ((a0.Parts.length:Int)=1) then
 aa (impl_isQuantifier a0.Op) fun v33=>
 bif v33 then
 aa (impl_isVariable a0.Var) fun v37=>
 bif v37 then
 aa (impl_isQuantifier a0.Op) fun v44=>
 bif v44 then
 aa (impl_isZeroTerm a0.Atom) fun v68=>
 bif v68 then
 aa (slices_ContainsFunc_Simpl_Formula_impl_Formula a0.Parts (fun y0=>impl_hasForm_1N n y0)) fun v74=>
 some (!v74)
 else
 some false
 else
 bif decide (a0.Var=(⟨#[]⟩:ByteArray)) then
 aa (impl_isZeroTerm a0.Atom) fun v68=>
 bif v68 then
 aa (slices_ContainsFunc_Simpl_Formula_impl_Formula a0.Parts (fun y0=>impl_hasForm_1N n y0)) fun v74=>
 some (!v74)
 else
 some false
 else
 some false
 else
 some false
 else
 aa (impl_isQuantifier a0.Op) fun v44=>
 bif v44 then
 aa (impl_isZeroTerm a0.Atom) fun v68=>
 bif v68 then
 aa (slices_ContainsFunc_Simpl_Formula_impl_Formula a0.Parts (fun y0=>impl_hasForm_1N n y0)) fun v74=>
 some (!v74)
 else
 some false
 else
 bif decide (a0.Var=(⟨#[]⟩:ByteArray)) then
 aa (impl_isZeroTerm a0.Atom) fun v68=>
 bif v68 then
 aa (slices_ContainsFunc_Simpl_Formula_impl_Formula a0.Parts (fun y0=>impl_hasForm_1N n y0)) fun v74=>
 some (!v74)
 else
 some false
 else
 some false
 else
 some false
 else
 aa (impl_isQuantifier a0.Op) fun v20=>
 bif v20 then
 bif decide ((a0.Parts.length:Int)=1) then
 aa (impl_isQuantifier a0.Op) fun v33=>
 bif v33 then
 aa (impl_isVariable a0.Var) fun v37=>
 bif v37 then
 aa (impl_isQuantifier a0.Op) fun v44=>
 bif v44 then
 aa (impl_isZeroTerm a0.Atom) fun v68=>
 bif v68 then
 aa (slices_ContainsFunc_Simpl_Formula_impl_Formula a0.Parts (fun y0=>impl_hasForm_1N n y0)) fun v74=>
 some (!v74)
 else
 some false
 else
 bif decide (a0.Var=(⟨#[]⟩:ByteArray)) then
 aa (impl_isZeroTerm a0.Atom) fun v68=>
 bif v68 then
 aa (slices_ContainsFunc_Simpl_Formula_impl_Formula a0.Parts (fun y0=>impl_hasForm_1N n y0)) fun v74=>
 some (!v74)
 else
 some false
 else
 some false
 else
 some false
 else
 aa (impl_isQuantifier a0.Op) fun v44=>
 bif v44 then
 aa (impl_isZeroTerm a0.Atom) fun v68=>
 bif v68 then
 aa (slices_ContainsFunc_Simpl_Formula_impl_Formula a0.Parts (fun y0=>impl_hasForm_1N n y0)) fun v74=>
 some (!v74)
 else
 some false
 else
 bif decide (a0.Var=(⟨#[]⟩:ByteArray)) then
 aa (impl_isZeroTerm a0.Atom) fun v68=>
 bif v68 then
 aa (slices_ContainsFunc_Simpl_Formula_impl_Formula a0.Parts (fun y0=>impl_hasForm_1N n y0)) fun v74=>
 some (!v74)
 else
 some false
 else
 some false
 else
 some false
 else
 aa (impl_isBinary a0.Op) fun v24=>
 bif v24 then
 bif decide ((a0.Parts.length:Int)=2) then
 aa (impl_isQuantifier a0.Op) fun v33=>
 bif v33 then
 aa (impl_isVariable a0.Var) fun v37=>
 bif v37 then
 aa (impl_isQuantifier a0.Op) fun v44=>
 bif v44 then
 aa (impl_isZeroTerm a0.Atom) fun v68=>
 bif v68 then
 aa (slices_ContainsFunc_Simpl_Formula_impl_Formula a0.Parts (fun y0=>impl_hasForm_1N n y0)) fun v74=>
 some (!v74)
 else
 some false
 else
 bif decide (a0.Var=(⟨#[]⟩:ByteArray)) then
 aa (impl_isZeroTerm a0.Atom) fun v68=>
 bif v68 then
 aa (slices_ContainsFunc_Simpl_Formula_impl_Formula a0.Parts (fun y0=>impl_hasForm_1N n y0)) fun v74=>
 some (!v74)
 else
 some false
 else
 some false
 else
 some false
 else
 aa (impl_isQuantifier a0.Op) fun v44=>
 bif v44 then
 aa (impl_isZeroTerm a0.Atom) fun v68=>
 bif v68 then
 aa (slices_ContainsFunc_Simpl_Formula_impl_Formula a0.Parts (fun y0=>impl_hasForm_1N n y0)) fun v74=>
 some (!v74)
 else
 some false
 else
 bif decide (a0.Var=(⟨#[]⟩:ByteArray)) then
 aa (impl_isZeroTerm a0.Atom) fun v68=>
 bif v68 then
 aa (slices_ContainsFunc_Simpl_Formula_impl_Formula a0.Parts (fun y0=>impl_hasForm_1N n y0)) fun v74=>
 some (!v74)
 else
 some false
 else
 some false
 else
 some false
 else
 some false
def impl_hasForm_1N:Nat→Ft→Option Bool
 | 0,_=>none
 | n+1,a0=>
 aa (impl_hasFormN n a0) fun v4=>
 some (!v4)
end
def impl_hasForm(a0:Ft):Option Bool:=lim fun n=>impl_hasFormN n a0
def impl_hasForm_1(a0:Ft):Option Bool:=lim fun n=>impl_hasForm_1N n a0

def impl_IsValidFormula(a0:Ft):Option Bool:=
 aa (impl_sizeOf a0) fun v4=>
 bif decide (v4≤40) then
 aa (impl_hasForm a0) fun v8=>
 some v8
 else
 some false

mutual
def impl_copyTermN:Nat→Tt→Option Tt
 | 0,_=>none
 | n+1,a0=>
 aa (impl_copyTermsN n a0.Args) fun v7=>
 some (Tt.mk a0.Name v7)
def impl_copyTermsN:Nat→(List Tt)→Option (List Tt)
 | 0,_=>none
 | n+1,a0=>
 bif decide ((a0.length:Int)=0) then
 some ([])
 else
 aa (mkn (a0.length:Int)) fun n11=>
 thenL (ρ:=(List Tt)) (σ:=(List Tt)) (forN (fun (i5:Nat) (s5:(List Tt))=>
 aa (idx a0 (i5:Int)) fun v17=>
 aa (impl_copyTermN n v17) fun v22=>
 aa (idx s5 (i5:Int)) fun v23=>
 aa (idx s5 (i5:Int)) fun w3=>
 some (.nx (s5.set (i5:Int).toNat v22))) a0.length 0 (List.replicate n11 (Tt.mk ⟨#[]⟩ ([])))) fun s5=>
 some s5
end
def impl_copyTerm(a0:Tt):Option Tt:=lim fun n=>impl_copyTermN n a0
def impl_copyTerms(a0:List Tt):Option (List Tt):=lim fun n=>impl_copyTermsN n a0

def impl_mapParts(a0:Ft)(a1:Ft→Option Ft):Option Ft:=
 aa (impl_copyTerm a0.Atom) fun v12=>
 thenL (ρ:=Ft) (σ:=(List Ft)) (forN (fun (i3:Nat) (s3:(List Ft))=>
 aa (idx a0.Parts (i3:Int)) fun v21=>
 aa (a1 v21) fun v27=>
 aa (app s3 ([v27])) fun v29=>
 some (.nx v29)) a0.Parts.length 0 ([])) fun s3=>
 some (Ft.mk a0.Op v12 a0.Var s3)

def impl_copyFormulaN:Nat→Ft→Option Ft
 | 0,_=>none
 | n+1,a0=>
 aa (impl_mapParts a0 (fun y0=>impl_copyFormulaN n y0)) fun v4=>
 some v4
def impl_copyFormula(a0:Ft):Option Ft:=lim fun n=>impl_copyFormulaN n a0

def impl_copyFormulas(a0:List Ft):Option (List Ft):=
 thenL (ρ:=(List Ft)) (σ:=(List Ft)) (forN (fun (i3:Nat) (s3:(List Ft))=>
 aa (idx a0 (i3:Int)) fun v11=>
 aa (impl_copyFormula v11) fun v15=>
 aa (app s3 ([v15])) fun v17=>
 some (.nx v17)) a0.length 0 ([])) fun s3=>
 some s3

def impl_StepInterpolants(a0:List (List Int))(a1:List Pt)(a2:Int)(a3:Int):Option ((List Ft)×Bool):=
 aa (impl_isPropRefutation a0 a1) fun v18=>
 bif v18 then
 aa (impl_isSplit a0 a2) fun v23=>
 bif v23 then
 aa (impl_within a3 1 2) fun v28=>
 bif v28 then
 aa (impl_colors a0 a2) fun v36=>
 thenL (ρ:=((List Ft)×Bool)) (σ:=(List Ft)) (forN (fun (i6:Nat) (s6:(List Ft))=>
 aa (impl_interpolation__ofClause (ia.mk a0 a2 a3 v36) (i6:Int)) fun v48=>
 aa (app s6 ([v48])) fun v50=>
 some (.nx v50)) a0.length 0 ([])) fun s6=>
 thenL (ρ:=((List Ft)×Bool)) (σ:=(List Ft)) (forN (fun (i11:Nat) (s11:(List Ft))=>
 aa (idx a1 (i11:Int)) fun v56=>
 aa (idx s11 v56.Left) fun v64=>
 aa (idx s11 v56.Left) fun v65=>
 aa (idx s11 v56.Right) fun v69=>
 aa (idx s11 v56.Right) fun v70=>
 aa (impl_interpolation__ofStep (ia.mk a0 a2 a3 v36) v56.Pivot v65 v70) fun v71=>
 aa (impl_IsValidFormula v71) fun v73=>
 bif v73 then
 aa (app s11 ([v71])) fun v78=>
 some (.nx v78)
 else
 some (.rt ([],false))) a1.length 0 s6) fun s11=>
 aa (slc s11 (a0.length:Int) (s11.length:Int)) fun v83=>
 aa (impl_copyFormulas v83) fun v84=>
 some (v84,true)
 else
 some ([],false)
 else
 some ([],false)
 else
 some ([],false)

def impl_Interpolant(a0:List (List Int))(a1:List Pt)(a2:Int)(a3:Int):Option (Ft×Bool):=
 aa (impl_StepInterpolants a0 a1 a2 a3) fun v17=>
 bif v17.2 then
 aa (idx v17.1 (IntKind.i64.wrap ((v17.1.length:Int)-1))) fun v27=>
 aa (idx v17.1 (IntKind.i64.wrap ((v17.1.length:Int)-1))) fun v28=>
 some (v28,true)
 else
 some ((Ft.mk 0 (Tt.mk ⟨#[]⟩ ([])) (⟨#[]⟩:ByteArray) ([])),false)

def spec_l15Steps(a0:List (List Int))(a1:List Pt):Option Bool:=
 aa (spec_l15Set a0) fun v6=>
 bif v6 then
 aa (spec_l1In (a1.length:Int) 1 200) fun v10=>
 some v10
 else
 some false

def spec_l1Same(a0:List Int)(a1:List Int):Option Bool:=
 bif decide ((a0.length:Int)=(a1.length:Int)) then
 thenL (ρ:=Bool) (σ:=Unit) (forN (fun (i4:Nat) (s4:Unit)=>
 aa (idx a0 (i4:Int)) fun v19=>
 aa (idx a1 (i4:Int)) fun v23=>
 bif decide (v19=v23) then
 some (.nx ())
 else
 some (.rt false)) a0.length 0 ()) fun s4=>
 some true
 else
 some false

def spec_l15Check(a0:List (List Int))(a1:List Pt):Option Int:=
 thenL (ρ:=Int) (σ:=lc) (forN (fun (i3:Nat) (s3:lc)=>
 aa (idx a1 (i3:Int)) fun v23=>
 aa (spec_l1In v23.Left 0 (IntKind.i64.wrap ((IntKind.i64.wrap ((a0.length:Int)+(i3:Int)))-1))) fun v33=>
 bif v33 then
 aa (spec_l1In v23.Right 0 (IntKind.i64.wrap ((IntKind.i64.wrap ((a0.length:Int)+(i3:Int)))-1))) fun v40=>
 bif v40 then
 aa (spec_l1In v23.Pivot 1 12) fun v46=>
 bif v46 then
 aa (spec_l15Proof__clause s3 v23.Left) fun v54=>
 aa (spec_l15Proof__clause v54.2 v23.Right) fun v58=>
 aa (spec_l15Resolve v54.1 v58.1 v23.Pivot) fun v61=>
 bif v61.2 then
 aa (spec_l1Same v61.1 v23.Clause) fun v70=>
 bif v70 then
 some (.nx v58.2)
 else
 some (.rt (i3:Int))
 else
 some (.rt (i3:Int))
 else
 some (.rt (i3:Int))
 else
 some (.rt (i3:Int))
 else
 some (.rt (i3:Int))) a1.length 0 (lc.mk a0 a1)) fun s3=>
 aa (idx a1 (IntKind.i64.wrap ((a1.length:Int)-1))) fun v78=>
 bif decide (0<(v78.Clause.length:Int)) then
 some (a1.length:Int)
 else
 some (-1:Int)

def spec_l20Occurs(a0:List (List Int))(a1:Int):Option Bool:=
 thenL (ρ:=Bool) (σ:=Unit) (forN (fun (i2:Nat) (s2:Unit)=>
 aa (idx a0 (i2:Int)) fun v14=>
 aa (spec_l1Has v14 a1) fun v17=>
 bif v17 then
 some (.rt true)
 else
 aa (idx a0 (i2:Int)) fun v21=>
 aa (spec_l1Has v21 (IntKind.i64.wrap (0-a1))) fun v25=>
 bif v25 then
 some (.rt true)
 else
 some (.nx ())) a0.length 0 ()) fun s2=>
 some false

def spec_l1NumN:Nat→Int→Option ByteArray
 | 0,_=>none
 | n+1,a0=>
 bif decide (a0<0) then
 aa (spec_l1NumN n (IntKind.i64.wrap (0-a0))) fun v7=>
 aa (sapp (⟨#[45]⟩:ByteArray) v7) fun v8=>
 some v8
 else
 bif decide (a0<10) then
 aa (sslc (⟨#[48,49,50,51,52,53,54,55,56,57]⟩:ByteArray) a0 (IntKind.i64.wrap (a0+1))) fun v14=>
 some v14
 else
 aa (quo a0 (10:Int)) fun v16=>
 aa (spec_l1NumN n v16) fun v17=>
 aa (rem a0 (10:Int)) fun v19=>
 aa (rem a0 (10:Int)) fun v21=>
 aa (sslc (⟨#[48,49,50,51,52,53,54,55,56,57]⟩:ByteArray) v19 (IntKind.i64.wrap (v21+1))) fun v23=>
 aa (sapp v17 v23) fun v24=>
 some v24
def spec_l1Num(a0:Int):Option ByteArray:=lim fun n=>spec_l1NumN n a0

def spec_l20Literal(a0:Int):Option Ft:=
 aa (spec_l15Abs a0) fun v5=>
 aa (spec_l1Num v5) fun v6=>
 aa (sapp (⟨#[118]⟩:ByteArray) v6) fun v7=>
 bif decide (a0<0) then
 some (Ft.mk 4 (Tt.mk ⟨#[]⟩ ([])) (⟨#[]⟩:ByteArray) ([(Ft.mk 3 (Tt.mk v7 ([])) (⟨#[]⟩:ByteArray) ([]))]))
 else
 some (Ft.mk 3 (Tt.mk v7 ([])) (⟨#[]⟩:ByteArray) ([]))

def spec_l2OwnN:Nat→Tt→Option Tt
 | 0,_=>none
 | n+1,a0=>
 thenL (ρ:=Tt) (σ:=(List Tt)) (forN (fun (i3:Nat) (s3:(List Tt))=>
 aa (idx a0.Args (i3:Int)) fun v20=>
 aa (spec_l2OwnN n v20) fun v22=>
 aa (app s3 ([v22])) fun v24=>
 some (.nx v24)) a0.Args.length 0 ([])) fun s3=>
 some (Tt.mk a0.Name s3)
def spec_l2Own(a0:Tt):Option Tt:=lim fun n=>spec_l2OwnN n a0

def spec_l8OwnN:Nat→Ft→Option Ft
 | 0,_=>none
 | n+1,a0=>
 aa (spec_l2Own a0.Atom) fun v9=>
 thenL (ρ:=Ft) (σ:=(List Ft)) (forN (fun (i3:Nat) (s3:(List Ft))=>
 aa (idx a0.Parts (i3:Int)) fun v25=>
 aa (spec_l8OwnN n v25) fun v27=>
 aa (app s3 ([v27])) fun v29=>
 some (.nx v29)) a0.Parts.length 0 ([])) fun s3=>
 some (Ft.mk a0.Op v9 a0.Var s3)
def spec_l8Own(a0:Ft):Option Ft:=lim fun n=>spec_l8OwnN n a0

def spec_l18Joined(a0:List Ft)(a1:Int)(a2:Int):Option Ft:=
 bif decide ((a0.length:Int)=0) then
 some (Ft.mk a2 (Tt.mk ⟨#[]⟩ ([])) (⟨#[]⟩:ByteArray) ([]))
 else
 aa (idx a0 (IntKind.i64.wrap ((a0.length:Int)-1))) fun v18=>
 aa (spec_l8Own v18) fun v20=>
 thenL (ρ:=Ft) (σ:=Int×ByteArray×(List Tt)×ByteArray×(List Ft)×Int) (lim fun n5=>whileN (fun (s5:Int×ByteArray×(List Tt)×ByteArray×(List Ft)×Int)=>
 bif decide (0≤s5.2.2.2.2.2) then
 aa (idx a0 s5.2.2.2.2.2) fun v31=>
 aa (spec_l8Own v31) fun v33=>
 some (.nx (a1,(⟨#[]⟩:ByteArray),[],(⟨#[]⟩:ByteArray),[v33,(Ft.mk s5.1 (Tt.mk s5.2.1 s5.2.2.1) s5.2.2.2.1 s5.2.2.2.2.1)],IntKind.i64.wrap (s5.2.2.2.2.2-1)))
 else
 some (.br s5)) n5 (v20.Op,v20.Atom.Name,v20.Atom.Args,v20.Var,v20.Parts,IntKind.i64.wrap ((a0.length:Int)-2))) fun s5=>
 some (Ft.mk s5.1 (Tt.mk s5.2.1 s5.2.2.1) s5.2.2.2.1 s5.2.2.2.2.1)

def spec_l20Clause(a0:List Int):Option Ft:=
 thenL (ρ:=Ft) (σ:=(List Ft)) (forN (fun (i3:Nat) (s3:(List Ft))=>
 aa (idx a0 (i3:Int)) fun v15=>
 aa (spec_l20Literal v15) fun v17=>
 aa (app s3 ([v17])) fun v19=>
 some (.nx v19)) a0.length 0 ([])) fun s3=>
 aa (spec_l18Joined s3 6 2) fun v21=>
 some v21

def spec_l2SameN:Nat→Tt→Tt→Option Bool
 | 0,_,_=>none
 | n+1,a0,a1=>
 bif decide (a0.Name=a1.Name) then
 bif decide ((a0.Args.length:Int)=(a1.Args.length:Int)) then
 thenL (ρ:=Bool) (σ:=Unit) (forN (fun (i4:Nat) (s4:Unit)=>
 aa (idx a0.Args (i4:Int)) fun v30=>
 aa (idx a1.Args (i4:Int)) fun v35=>
 aa (spec_l2SameN n v30 v35) fun v37=>
 bif v37 then
 some (.nx ())
 else
 some (.rt false)) a0.Args.length 0 ()) fun s4=>
 some true
 else
 some false
 else
 some false
def spec_l2Same(a0:Tt)(a1:Tt):Option Bool:=lim fun n=>spec_l2SameN n a0 a1

def spec_l8SameN:Nat→Ft→Ft→Option Bool
 | 0,_,_=>none
 | n+1,a0,a1=>
 bif decide (a0.Op=a1.Op) then
 bif decide (a0.Var=a1.Var) then
 aa (spec_l2Same a0.Atom a1.Atom) fun v23=>
 bif v23 then
 bif decide ((a0.Parts.length:Int)=(a1.Parts.length:Int)) then
 thenL (ρ:=Bool) (σ:=Unit) (forN (fun (i4:Nat) (s4:Unit)=>
 aa (idx a0.Parts (i4:Int)) fun v45=>
 aa (idx a1.Parts (i4:Int)) fun v50=>
 aa (spec_l8SameN n v45 v50) fun v52=>
 bif v52 then
 some (.nx ())
 else
 some (.rt false)) a0.Parts.length 0 ()) fun s4=>
 some true
 else
 some false
 else
 some false
 else
 some false
 else
 some false
def spec_l8Same(a0:Ft)(a1:Ft):Option Bool:=lim fun n=>spec_l8SameN n a0 a1

def spec_l20Two(a0:Int)(a1:Ft)(a2:Ft):Option Ft:=
 bif decide (a0=6) then
 bif decide (a1.Op=1) then
 some (Ft.mk 1 (Tt.mk ⟨#[]⟩ ([])) (⟨#[]⟩:ByteArray) ([]))
 else
 bif decide (a2.Op=1) then
 some (Ft.mk 1 (Tt.mk ⟨#[]⟩ ([])) (⟨#[]⟩:ByteArray) ([]))
 else
 bif decide (a1.Op=2) then
 aa (spec_l8Own a2) fun v30=>
 some v30
 else
 bif decide (a2.Op=2) then
 aa (spec_l8Own a1) fun v42=>
 some v42
 else
 aa (spec_l8Same a1 a2) fun v39=>
 bif v39 then
 aa (spec_l8Own a1) fun v42=>
 some v42
 else
 aa (spec_l8Own a1) fun v45=>
 aa (spec_l8Own a2) fun v47=>
 some (Ft.mk a0 (Tt.mk ⟨#[]⟩ ([])) (⟨#[]⟩:ByteArray) ([v45,v47]))
 else
 bif decide (a1.Op=2) then
 some (Ft.mk 2 (Tt.mk ⟨#[]⟩ ([])) (⟨#[]⟩:ByteArray) ([]))
 else
 bif decide (a2.Op=2) then
 some (Ft.mk 2 (Tt.mk ⟨#[]⟩ ([])) (⟨#[]⟩:ByteArray) ([]))
 else
 bif decide (a1.Op=1) then
 aa (spec_l8Own a2) fun v30=>
 some v30
 else
 bif decide (a2.Op=1) then
 aa (spec_l8Own a1) fun v42=>
 some v42
 else
 aa (spec_l8Same a1 a2) fun v39=>
 bif v39 then
 aa (spec_l8Own a1) fun v42=>
 some v42
 else
 aa (spec_l8Own a1) fun v45=>
 aa (spec_l8Own a2) fun v47=>
 some (Ft.mk a0 (Tt.mk ⟨#[]⟩ ([])) (⟨#[]⟩:ByteArray) ([v45,v47]))

def spec_l8ManyN:Nat→Ft→Int→Option Int
 | 0,_,_=>none
 | n+1,a0,a1=>
 thenL (ρ:=Int) (σ:=Int) (forN (fun (i3:Nat) (s3:Int)=>
 bif decide (s3≤a1) then
 aa (idx a0.Parts (i3:Int)) fun v23=>
 aa (spec_l8ManyN n v23 (IntKind.i64.wrap (a1-s3))) fun v28=>
 some (.nx (IntKind.i64.wrap (s3+v28)))
 else
 some (.rt s3)) a0.Parts.length 0 (1:Int)) fun s3=>
 some s3
def spec_l8Many(a0:Ft)(a1:Int):Option Int:=lim fun n=>spec_l8ManyN n a0 a1

def spec_l8None(a0:Tt):Option Bool:=
 bif decide (a0.Name=(⟨#[]⟩:ByteArray)) then
 some (decide ((a0.Args.length:Int)=0))
 else
 some false

def spec_l2ManyN:Nat→Tt→Int→Option Int
 | 0,_,_=>none
 | n+1,a0,a1=>
 thenL (ρ:=Int) (σ:=Int) (forN (fun (i3:Nat) (s3:Int)=>
 bif decide (s3≤a1) then
 aa (idx a0.Args (i3:Int)) fun v23=>
 aa (spec_l2ManyN n v23 (IntKind.i64.wrap (a1-s3))) fun v28=>
 some (.nx (IntKind.i64.wrap (s3+v28)))
 else
 some (.rt s3)) a0.Args.length 0 (1:Int)) fun s3=>
 some s3
def spec_l2Many(a0:Tt)(a1:Int):Option Int:=lim fun n=>spec_l2ManyN n a0 a1

def spec_l2DepthN:Nat→Tt→Option Int
 | 0,_=>none
 | n+1,a0=>
 thenL (ρ:=Int) (σ:=Int) (forN (fun (i3:Nat) (s3:Int)=>
 aa (idx a0.Args (i3:Int)) fun v16=>
 aa (spec_l2DepthN n v16) fun v18=>
 aa (spec_l1Most s3 v18) fun v19=>
 some (.nx v19)) a0.Args.length 0 (0:Int)) fun s3=>
 some (IntKind.i64.wrap (s3+1))
def spec_l2Depth(a0:Tt):Option Int:=lim fun n=>spec_l2DepthN n a0

def spec_l2Fits(a0:Tt):Option Bool:=
 aa (spec_l2Many a0 30) fun v4=>
 bif decide (v4≤30) then
 aa (spec_l2Depth a0) fun v8=>
 some (decide (v8≤8))
 else
 some false

def spec_l2Small(a0:Int):Option Bool:=
 bif decide (97≤a0) then
 bif decide (a0≤122) then
 some true
 else
 bif decide (48≤a0) then
 some (decide (a0≤57))
 else
 some false
 else
 bif decide (48≤a0) then
 some (decide (a0≤57))
 else
 some false

def spec_l2Var(a0:ByteArray):Option Bool:=
 aa (spec_l1In (a0.size:Int) 1 4) fun v6=>
 bif v6 then
 aa (sidx a0 (0:Int)) fun v10=>
 bif decide (v10<65) then
 some false
 else
 aa (sidx a0 (0:Int)) fun v15=>
 bif decide (90<v15) then
 some false
 else
 aa (bnd (a0.size:Int)) fun N4=>
 thenL (ρ:=Bool) (σ:=Unit) (forN (fun (i4:Nat) (s4:Unit)=>
 aa (sidx a0 (i4:Int)) fun v26=>
 aa (spec_l2Small v26) fun v27=>
 bif v27 then
 some (.nx ())
 else
 some (.rt false)) (N4-1) 1 ()) fun s4=>
 some true
 else
 some false

def spec_l2Symbol(a0:ByteArray):Option Bool:=
 aa (spec_l1In (a0.size:Int) 1 6) fun v6=>
 bif v6 then
 aa (sidx a0 (0:Int)) fun v10=>
 bif decide (v10<97) then
 some false
 else
 aa (sidx a0 (0:Int)) fun v15=>
 bif decide (122<v15) then
 some false
 else
 bif decide (a0=(⟨#[116,114,117,101]⟩:ByteArray)) then
 some false
 else
 bif decide (a0=(⟨#[102,97,108,115,101]⟩:ByteArray)) then
 some false
 else
 bif decide (a0=(⟨#[116,114,117,116,104]⟩:ByteArray)) then
 some false
 else
 bif decide (a0=(⟨#[98,111,116,104]⟩:ByteArray)) then
 some false
 else
 bif decide (a0=(⟨#[101,105,116,104,101,114]⟩:ByteArray)) then
 some false
 else
 bif decide (a0=(⟨#[105,102]⟩:ByteArray)) then
 some false
 else
 bif decide (a0=(⟨#[97,108,108]⟩:ByteArray)) then
 some false
 else
 bif decide (a0=(⟨#[115,111,109,101]⟩:ByteArray)) then
 some false
 else
 aa (bnd (a0.size:Int)) fun N14=>
 thenL (ρ:=Bool) (σ:=Unit) (forN (fun (i14:Nat) (s14:Unit)=>
 aa (sidx a0 (i14:Int)) fun v36=>
 aa (spec_l2Small v36) fun v37=>
 bif v37 then
 some (.nx ())
 else
 aa (sidx a0 (i14:Int)) fun v42=>
 bif decide (v42=95) then
 some (.nx ())
 else
 some (.rt false)) (N14-1) 1 ()) fun s14=>
 some true
 else
 some false

def spec_l2NodesN:Nat→Tt→Option Bool
 | 0,_=>none
 | n+1,a0=>
 aa (spec_l2Var a0.Name) fun v6=>
 bif v6 then
 some (decide ((a0.Args.length:Int)=0))
 else
 aa (spec_l2Symbol a0.Name) fun v13=>
 bif v13 then
 bif decide (4<(a0.Args.length:Int)) then
 some false
 else
 thenL (ρ:=Bool) (σ:=Unit) (forN (fun (i6:Nat) (s6:Unit)=>
 aa (idx a0.Args (i6:Int)) fun v31=>
 aa (spec_l2NodesN n v31) fun v33=>
 bif v33 then
 some (.nx ())
 else
 some (.rt false)) a0.Args.length 0 ()) fun s6=>
 some true
 else
 some false
def spec_l2Nodes(a0:Tt):Option Bool:=lim fun n=>spec_l2NodesN n a0

def spec_l2Good(a0:Tt):Option Bool:=
 aa (spec_l2Fits a0) fun v4=>
 bif v4 then
 aa (spec_l2Nodes a0) fun v7=>
 some v7
 else
 some false

def spec_l2Atom(a0:Tt):Option Bool:=
 bif decide (a0.Name=(⟨#[61]⟩:ByteArray)) then
 bif decide ((a0.Args.length:Int)=2) then
 aa (spec_l2Fits a0) fun v12=>
 bif v12 then
 aa (idx a0.Args 0) fun v17=>
 aa (spec_l2Nodes v17) fun v19=>
 bif v19 then
 aa (idx a0.Args 1) fun v24=>
 aa (spec_l2Nodes v24) fun v26=>
 some v26
 else
 some false
 else
 some false
 else
 some false
 else
 aa (spec_l2Symbol a0.Name) fun v30=>
 bif v30 then
 aa (spec_l2Good a0) fun v33=>
 some v33
 else
 some false

def spec_l8Form(a0:Ft):Option Bool:=
 bif decide (a0.Op=1) then
 bif decide ((a0.Parts.length:Int)=0) then
 aa (spec_l8None a0.Atom) fun v17=>
 bif v17 then
 some (decide (a0.Var=(⟨#[]⟩:ByteArray)))
 else
 some false
 else
 some false
 else
 bif decide (a0.Op=2) then
 bif decide ((a0.Parts.length:Int)=0) then
 aa (spec_l8None a0.Atom) fun v17=>
 bif v17 then
 some (decide (a0.Var=(⟨#[]⟩:ByteArray)))
 else
 some false
 else
 some false
 else
 bif decide (a0.Op=3) then
 bif decide ((a0.Parts.length:Int)=0) then
 aa (spec_l2Atom a0.Atom) fun v31=>
 bif v31 then
 some (decide (a0.Var=(⟨#[]⟩:ByteArray)))
 else
 some false
 else
 some false
 else
 bif decide (a0.Op=4) then
 bif decide ((a0.Parts.length:Int)=1) then
 aa (spec_l8None a0.Atom) fun v45=>
 bif v45 then
 some (decide (a0.Var=(⟨#[]⟩:ByteArray)))
 else
 some false
 else
 some false
 else
 bif decide (a0.Op=5) then
 bif decide ((a0.Parts.length:Int)=2) then
 aa (spec_l8None a0.Atom) fun v61=>
 bif v61 then
 some (decide (a0.Var=(⟨#[]⟩:ByteArray)))
 else
 some false
 else
 some false
 else
 bif decide (a0.Op=6) then
 bif decide ((a0.Parts.length:Int)=2) then
 aa (spec_l8None a0.Atom) fun v61=>
 bif v61 then
 some (decide (a0.Var=(⟨#[]⟩:ByteArray)))
 else
 some false
 else
 some false
 else
 bif decide (a0.Op=7) then
 bif decide ((a0.Parts.length:Int)=2) then
 aa (spec_l8None a0.Atom) fun v61=>
 bif v61 then
 some (decide (a0.Var=(⟨#[]⟩:ByteArray)))
 else
 some false
 else
 some false
 else
 bif decide (a0.Op=8) then
 bif decide ((a0.Parts.length:Int)=1) then
 aa (spec_l8None a0.Atom) fun v76=>
 bif v76 then
 aa (spec_l2Var a0.Var) fun v81=>
 some v81
 else
 some false
 else
 some false
 else
 bif decide (a0.Op=9) then
 bif decide ((a0.Parts.length:Int)=1) then
 aa (spec_l8None a0.Atom) fun v76=>
 bif v76 then
 aa (spec_l2Var a0.Var) fun v81=>
 some v81
 else
 some false
 else
 some false
 else
 some false

def spec_l8FormsN:Nat→Ft→Option Bool
 | 0,_=>none
 | n+1,a0=>
 aa (spec_l8Form a0) fun v5=>
 bif v5 then
 thenL (ρ:=Bool) (σ:=Unit) (forN (fun (i4:Nat) (s4:Unit)=>
 aa (idx a0.Parts (i4:Int)) fun v17=>
 aa (spec_l8FormsN n v17) fun v19=>
 bif v19 then
 some (.nx ())
 else
 some (.rt false)) a0.Parts.length 0 ()) fun s4=>
 some true
 else
 some false
def spec_l8Forms(a0:Ft):Option Bool:=lim fun n=>spec_l8FormsN n a0

def spec_l8Good(a0:Ft):Option Bool:=
 aa (spec_l8Many a0 40) fun v4=>
 bif decide (v4≤40) then
 aa (spec_l8Forms a0) fun v8=>
 some v8
 else
 some false

def spec_l20Partial(a0:List (List Int))(a1:List Pt)(a2:Int)(a3:Int):Option ((List Ft)×Bool):=
 thenL (ρ:=((List Ft)×Bool)) (σ:=(List Ft)) (forN (fun (i3:Nat) (s3:(List Ft))=>
 bif decide ((i3:Int)<a2) then
 thenL (ρ:=(Flow ((List Ft)×Bool) (List Ft))) (σ:=(List Int)×Int) (lim fun n10=>whileN (fun (s10:(List Int)×Int)=>
 aa (idx a0 (i3:Int)) fun v38=>
 bif decide (s10.2<(v38.length:Int)) then
 bif decide (a3=1) then
 aa (slc a0 a2 (a0.length:Int)) fun v50=>
 aa (idx a0 (i3:Int)) fun v53=>
 aa (idx v53 s10.2) fun v56=>
 aa (spec_l15Abs v56) fun v58=>
 aa (spec_l20Occurs v50 v58) fun v59=>
 bif v59 then
 aa (idx a0 (i3:Int)) fun v63=>
 aa (idx v63 s10.2) fun v66=>
 aa (app s10.1 ([v66])) fun v69=>
 some (.nx (v69,IntKind.i64.wrap (s10.2+1)))
 else
 some (.nx (s10.1,IntKind.i64.wrap (s10.2+1)))
 else
 some (.br s10)
 else
 some (.br s10)) n10 ([],(0:Int))) fun s10=>
 bif decide (a3=1) then
 aa (spec_l20Clause s10.1) fun v73=>
 aa (app s3 ([v73])) fun v77=>
 some (.nx v77)
 else
 aa (app s3 ([(Ft.mk 2 (Tt.mk ⟨#[]⟩ ([])) (⟨#[]⟩:ByteArray) ([]))])) fun v77=>
 some (.nx v77)
 else
 aa (app s3 ([(Ft.mk 1 (Tt.mk ⟨#[]⟩ ([])) (⟨#[]⟩:ByteArray) ([]))])) fun v77=>
 some (.nx v77)) a0.length 0 ([])) fun s3=>
 thenL (ρ:=((List Ft)×Bool)) (σ:=(List Ft)) (forN (fun (i18:Nat) (s18:(List Ft))=>
 aa (idx a1 (i18:Int)) fun v86=>
 aa (idx s18 v86.Left) fun v91=>
 aa (idx s18 v86.Left) fun v92=>
 aa (idx s18 v86.Right) fun v96=>
 aa (idx s18 v86.Right) fun v97=>
 aa (slc a0 (0:Int) a2) fun v100=>
 aa (spec_l20Occurs v100 v86.Pivot) fun v103=>
 aa (slc a0 a2 (a0.length:Int)) fun v106=>
 aa (spec_l20Occurs v106 v86.Pivot) fun v109=>
 bif v109 then
 bif v103 then
 bif decide (a3=1) then
 aa (spec_l20Two 5 v92 v97) fun v138=>
 aa (spec_l8Good v138) fun v140=>
 bif v140 then
 aa (app s18 ([v138])) fun v146=>
 some (.nx v146)
 else
 some (.rt (s18,false))
 else
 aa (spec_l20Literal v86.Pivot) fun v113=>
 aa (spec_l20Two 6 v113 v92) fun v115=>
 aa (spec_l20Literal (IntKind.i64.wrap (0-v86.Pivot))) fun v119=>
 aa (spec_l20Two 6 v119 v97) fun v121=>
 aa (spec_l20Two 5 v115 v121) fun v122=>
 aa (spec_l8Good v122) fun v140=>
 bif v140 then
 aa (app s18 ([v122])) fun v146=>
 some (.nx v146)
 else
 some (.rt (s18,false))
 else
 aa (spec_l20Two 5 v92 v97) fun v138=>
 aa (spec_l8Good v138) fun v140=>
 bif v140 then
 aa (app s18 ([v138])) fun v146=>
 some (.nx v146)
 else
 some (.rt (s18,false))
 else
 aa (spec_l20Two 6 v92 v97) fun v128=>
 aa (spec_l8Good v128) fun v140=>
 bif v140 then
 aa (app s18 ([v128])) fun v146=>
 some (.nx v146)
 else
 some (.rt (s18,false))) a1.length 0 s3) fun s18=>
 some (s18,true)

def spec_StepInterpolants(a0:List (List Int))(a1:List Pt)(a2:Int)(a3:Int):Option ((List Ft)×Bool):=
 aa (spec_l15Steps a0 a1) fun v16=>
 bif v16 then
 aa (spec_l15Check a0 a1) fun v21=>
 bif decide (0≤v21) then
 some ([],false)
 else
 aa (spec_l1In a2 0 (a0.length:Int)) fun v28=>
 bif v28 then
 aa (spec_l1In a3 1 2) fun v33=>
 bif v33 then
 aa (spec_l20Partial a0 a1 a2 a3) fun v42=>
 bif v42.2 then
 thenL (ρ:=((List Ft)×Bool)) (σ:=(List Ft)×Int) (lim fun n8=>whileN (fun (s8:(List Ft)×Int)=>
 bif decide (s8.2<(v42.1.length:Int)) then
 aa (idx v42.1 s8.2) fun v60=>
 aa (idx v42.1 s8.2) fun v61=>
 aa (spec_l8Own v61) fun v62=>
 aa (app s8.1 ([v62])) fun v64=>
 some (.nx (v64,IntKind.i64.wrap (s8.2+1)))
 else
 some (.br s8)) n8 ([],(a0.length:Int))) fun s8=>
 some (s8.1,true)
 else
 some ([],false)
 else
 some ([],false)
 else
 some ([],false)
 else
 some ([],false)

def spec_Interpolant(a0:List (List Int))(a1:List Pt)(a2:Int)(a3:Int):Option (Ft×Bool):=
 aa (spec_StepInterpolants a0 a1 a2 a3) fun v17=>
 bif v17.2 then
 aa (idx v17.1 (IntKind.i64.wrap ((v17.1.length:Int)-1))) fun v27=>
 some (v27,true)
 else
 some ((Ft.mk 0 (Tt.mk ⟨#[]⟩ ([])) (⟨#[]⟩:ByteArray) ([])),false)

mutual
def impl_hasOpN:Nat→Ft→(List Int)→Option Bool
 | 0,_,_=>none
 | n+1,a0,a1=>
 aa (slices_Contains_Sint_int a1 a0.Op) fun v8=>
 bif v8 then
 some true
 else
 aa (slices_ContainsFunc_Simpl_Formula_impl_Formula a0.Parts (fun y0=>impl_hasOp_1N n y0 a1)) fun v13=>
 some v13
def impl_hasOp_1N:Nat→Ft→(List Int)→Option Bool
 | 0,_,_=>none
 | n+1,a0,b0=>
 aa (impl_hasOpN n a0 b0) fun v6=>
 some v6
end
def impl_hasOp(a0:Ft)(a1:List Int):Option Bool:=lim fun n=>impl_hasOpN n a0 a1
def impl_hasOp_1(a0:Ft)(b0:List Int):Option Bool:=lim fun n=>impl_hasOp_1N n a0 b0

def impl_atomsOfN:Nat→Ft→Option (List Tt)
 | 0,_=>none
 | n+1,a0=>
 bif decide (a0.Op=3) then
 some ([a0.Atom])
 else
 thenL (ρ:=(List Tt)) (σ:=(List Tt)) (forN (fun (i5:Nat) (s5:(List Tt))=>
 aa (idx a0.Parts (i5:Int)) fun v18=>
 aa (impl_atomsOfN n v18) fun v22=>
 aa (app s5 v22) fun v23=>
 some (.nx v23)) a0.Parts.length 0 ([])) fun s5=>
 some s5
def impl_atomsOf(a0:Ft):Option (List Tt):=lim fun n=>impl_atomsOfN n a0

def impl_variableOf(a0:Tt):Option Int:=
 thenL (ρ:=Int) (σ:=Int) (lim fun n2=>whileN (fun (s2:Int)=>
 bif decide (s2≤12) then
 bif decide ((a0.Args.length:Int)=0) then
 aa (strconv_Itoa s2) fun v16=>
 aa (sapp (⟨#[118]⟩:ByteArray) v16) fun v17=>
 bif decide (a0.Name=v17) then
 some (.rt s2)
 else
 some (.nx (IntKind.i64.wrap (s2+1)))
 else
 some (.nx (IntKind.i64.wrap (s2+1)))
 else
 some (.br s2)) n2 (1:Int)) fun s2=>
 some (0:Int)

def impl_variablesOf(a0:Ft):Option ((List Int)×Bool):=
 aa (impl_IsValidFormula a0) fun v9=>
 bif v9 then
 aa (impl_hasOp a0 ([(8:Int),(9:Int)])) fun v14=>
 bif v14 then
 some ([],false)
 else
 aa (impl_atomsOf a0) fun v18=>
 thenL (ρ:=((List Int)×Bool)) (σ:=(List Int)) (forN (fun (i5:Nat) (s5:(List Int))=>
 aa (idx v18 (i5:Int)) fun v22=>
 aa (idx v18 (i5:Int)) fun v23=>
 aa (impl_variableOf v23) fun v25=>
 bif decide (v25=0) then
 some (.rt ([],false))
 else
 aa (app s5 ([v25])) fun v31=>
 some (.nx v31)) v18.length 0 ([])) fun s5=>
 some (s5,true)
 else
 some ([],false)

def impl_IsInterpolant_1(a0:Int)(b0:List Int):Option Bool:=
 bif decide ((b0.length:Int)<a0) then
 some true
 else
 aa (idx b0 (IntKind.i64.wrap (a0-1))) fun v12=>
 some (!(decide (v12=3)))

def slices_ContainsFunc_Sint_int(a0:List Int)(a1:Int→Option Bool):Option Bool:=
 aa (slices_IndexFunc_Sint_int a0 a1) fun v7=>
 some (decide (0≤v7))

def impl_assignmentOf(a0:Int)(a1:Int):Option (List Int):=
 aa (mkn a1) fun n8=>
 thenL (ρ:=(List Int)) (σ:=Int×(List Int)×Int) (lim fun n3=>whileN (fun (s3:Int×(List Int)×Int)=>
 bif decide (1≤s3.2.2) then
 aa (idx s3.2.1 (IntKind.i64.wrap (s3.2.2-1))) fun v18=>
 aa (idx s3.2.1 (IntKind.i64.wrap (s3.2.2-1))) fun w2=>
 bif decide ((bitand .i64 s3.1 (1:Int))=1) then
 aa (idx (s3.2.1.set (IntKind.i64.wrap (s3.2.2-1)).toNat s3.2.2) (IntKind.i64.wrap (s3.2.2-1))) fun v27=>
 aa (idx (s3.2.1.set (IntKind.i64.wrap (s3.2.2-1)).toNat s3.2.2) (IntKind.i64.wrap (s3.2.2-1))) fun w4=>
 aa (shr .i64 s3.1 (1:Int)) fun v29=>
 some (.nx (v29,(s3.2.1.set (IntKind.i64.wrap (s3.2.2-1)).toNat s3.2.2).set (IntKind.i64.wrap (s3.2.2-1)).toNat (IntKind.i64.wrap (0-s3.2.2)),IntKind.i64.wrap (s3.2.2-1)))
 else
 aa (shr .i64 s3.1 (1:Int)) fun v29=>
 some (.nx (v29,s3.2.1.set (IntKind.i64.wrap (s3.2.2-1)).toNat s3.2.2,IntKind.i64.wrap (s3.2.2-1)))
 else
 some (.br s3)) n3 (a0,List.replicate n8 (0:Int),a1)) fun s3=>
 some s3.2.1

def impl_addAtom_1(a0:Tt)(b0:Tt):Option Bool:=
 aa (impl_EqualTerms a0 b0) fun v6=>
 some v6

def impl_addAtom(a0:List Tt)(a1:Tt):Option (List Tt):=
 aa (slices_ContainsFunc_Simpl_Term_impl_Term a0 (fun y0=>impl_addAtom_1 y0 a1)) fun v7=>
 bif v7 then
 some a0
 else
 aa (impl_copyTerm a1) fun v11=>
 aa (app a0 ([v11])) fun v13=>
 some v13

def impl_differentAtoms(a0:Ft):Option (List Tt):=
 aa (impl_atomsOf a0) fun v8=>
 thenL (ρ:=(List Tt)) (σ:=(List Tt)) (forN (fun (i3:Nat) (s3:(List Tt))=>
 aa (idx v8 (i3:Int)) fun v12=>
 aa (idx v8 (i3:Int)) fun v13=>
 aa (impl_addAtom s3 v13) fun v16=>
 some (.nx v16)) v8.length 0 ([])) fun s3=>
 some s3

def impl_flag(a0:Bool):Option Int:=
 bif a0 then
 some (1:Int)
 else
 some (0:Int)

def impl_indexOfAtom_1(a0:Tt)(b0:Tt):Option Bool:=
 aa (impl_EqualTerms a0 b0) fun v6=>
 some v6

def impl_indexOfAtom(a0:List Tt)(a1:Tt):Option Int:=
 aa (slices_IndexFunc_Simpl_Term_impl_Term a0 (fun y0=>impl_indexOfAtom_1 y0 a1)) fun v7=>
 some v7

def impl_truthOfN:Nat→Ft→(List Tt)→Int→Option Bool
 | 0,_,_,_=>none
 | n+1,a0,a1,a2=>
 bif decide (a0.Op=1) then
 some true
 else
 bif decide (a0.Op=3) then
 aa (impl_indexOfAtom a1 a0.Atom) fun v17=>
 aa (shr .i64 a2 v17) fun v18=>
 some (decide ((bitand .i64 v18 (1:Int))=1))
 else
 bif decide (a0.Op=4) then
 aa (idx a0.Parts 0) fun v25=>
 aa (impl_truthOfN n v25 a1 a2) fun v29=>
 some (!v29)
 else
 bif decide (a0.Op=5) then
 aa (idx a0.Parts 0) fun v35=>
 aa (impl_truthOfN n v35 a1 a2) fun v39=>
 bif v39 then
 aa (idx a0.Parts 1) fun v43=>
 aa (impl_truthOfN n v43 a1 a2) fun v47=>
 some v47
 else
 some false
 else
 bif decide (a0.Op=6) then
 aa (idx a0.Parts 0) fun v53=>
 aa (impl_truthOfN n v53 a1 a2) fun v57=>
 bif v57 then
 some true
 else
 aa (idx a0.Parts 1) fun v61=>
 aa (impl_truthOfN n v61 a1 a2) fun v65=>
 some v65
 else
 bif decide (a0.Op=7) then
 aa (idx a0.Parts 0) fun v71=>
 aa (impl_truthOfN n v71 a1 a2) fun v75=>
 bif v75 then
 aa (idx a0.Parts 1) fun v80=>
 aa (impl_truthOfN n v80 a1 a2) fun v84=>
 some v84
 else
 some true
 else
 some false
def impl_truthOf(a0:Ft)(a1:List Tt)(a2:Int):Option Bool:=lim fun n=>impl_truthOfN n a0 a1 a2

def impl_evaluateOn(a0:Ft)(a1:List Int):Option Bool:=
 aa (impl_differentAtoms a0) fun v10=>
 thenL (ρ:=Bool) (σ:=Int) (forN (fun (i4:Nat) (s4:Int)=>
 aa (idx v10 (i4:Int)) fun v16=>
 aa (impl_variableOf v16) fun v21=>
 aa (slices_Contains_Sint_int a1 v21) fun v22=>
 aa (impl_flag v22) fun v23=>
 aa (shl .i64 v23 (i4:Int)) fun v25=>
 some (.nx (bitor .i64 s4 v25))) v10.length 0 (0:Int)) fun s4=>
 aa (impl_truthOf a0 v10 s4) fun v31=>
 some v31

def impl_isSatisfied_1(a0:Int)(b0:List Int):Option Bool:=
 aa (slices_Contains_Sint_int b0 a0) fun v6=>
 some v6

def impl_isSatisfied(a0:List Int)(a1:List Int):Option Bool:=
 aa (slices_ContainsFunc_Sint_int a0 (fun y0=>impl_isSatisfied_1 y0 a1)) fun v7=>
 some v7

def impl_isModel_1(a0:List Int)(b0:List Int):Option Bool:=
 aa (impl_isSatisfied a0 b0) fun v6=>
 some (!v6)

def impl_isModel(a0:List (List Int))(a1:List Int):Option Bool:=
 aa (slices_ContainsFunc_SSint_Sint a0 (fun y0=>impl_isModel_1 y0 a1)) fun v7=>
 some (!v7)

def impl_IsInterpolant(a0:List (List Int))(a1:Int)(a2:Ft):Option (Bool×Bool):=
 aa (impl_variablesOf a2) fun v16=>
 bif v16.2 then
 aa (impl_isSplit a0 a1) fun v24=>
 bif v24 then
 aa (impl_colors a0 a1) fun v29=>
 aa (slices_ContainsFunc_Sint_int v16.1 (fun y0=>impl_IsInterpolant_1 y0 v29)) fun v32=>
 bif v32 then
 some (false,true)
 else
 aa (shl .i64 (1:Int) (v29.length:Int)) fun v35=>
 aa (bnd (v35)) fun N8=>
 thenL (ρ:=(Bool×Bool)) (σ:=Unit) (forN (fun (i8:Nat) (s8:Unit)=>
 aa (impl_assignmentOf (i8:Int) (v29.length:Int)) fun v42=>
 aa (impl_evaluateOn a2 v42) fun v45=>
 bif v45 then
 aa (slc a0 a1 (a0.length:Int)) fun v60=>
 aa (impl_isModel v60 v42) fun v62=>
 bif v62 then
 some (.rt (false,true))
 else
 some (.nx ())
 else
 aa (slc a0 (0:Int) a1) fun v51=>
 aa (impl_isModel v51 v42) fun v53=>
 bif v53 then
 some (.rt (false,true))
 else
 some (.nx ())) N8 0 ()) fun s8=>
 some (true,true)
 else
 some (false,false)
 else
 some (false,false)

def impl_ImpliesFormula(a0:Ft)(a1:Ft):Option (Bool×Bool):=
 aa (impl_variablesOf a0) fun v17=>
 aa (impl_variablesOf a1) fun v22=>
 bif v17.2 then
 bif v22.2 then
 aa (slices_Concat_Sint_int ([v17.1,v22.1])) fun v34=>
 thenL (ρ:=(Bool×Bool)) (σ:=Int) (forN (fun (i7:Nat) (s7:Int)=>
 aa (idx v34 (i7:Int)) fun v38=>
 aa (idx v34 (i7:Int)) fun v39=>
 some (.nx (max s7 v39))) v34.length 0 (0:Int)) fun s7=>
 aa (shl .i64 (1:Int) s7) fun v45=>
 aa (bnd (v45)) fun N12=>
 thenL (ρ:=(Bool×Bool)) (σ:=Unit) (forN (fun (i12:Nat) (s12:Unit)=>
 aa (impl_assignmentOf (i12:Int) s7) fun v51=>
 aa (impl_evaluateOn a0 v51) fun v54=>
 bif v54 then
 aa (impl_evaluateOn a1 v51) fun v58=>
 bif v58 then
 some (.nx ())
 else
 some (.rt (false,true))
 else
 some (.nx ())) N12 0 ()) fun s12=>
 some (true,true)
 else
 some (false,false)
 else
 some (false,false)

def FnInterpolants(a0:List Int):Option Bool:=
 aa (vBig a0) fun v22=>
 bif v22 then
 some true
 else
 aa (spec_DrawInterpolant a0) fun v25=>
 aa (impl_Interpolant v25.1 v25.2.1 v25.2.2.1 1) fun v34=>
 aa (impl_Interpolant v25.1 v25.2.1 v25.2.2.1 2) fun v41=>
 aa (spec_Interpolant v25.1 v25.2.1 v25.2.2.1 1) fun v48=>
 aa (spec_Interpolant v25.1 v25.2.1 v25.2.2.1 2) fun v55=>
 bif v34.2==v48.2 then
 bif v41.2==v55.2 then
 bif v34.2 then
 aa (impl_IsInterpolant v25.1 v25.2.2.1 v34.1) fun v71=>
 bif v71.1 then
 bif v71.2 then
 bif v41.2 then
 aa (impl_IsInterpolant v25.1 v25.2.2.1 v41.1) fun v85=>
 bif v85.1 then
 bif v85.2 then
 aa (impl_ImpliesFormula v34.1 v41.1) fun v103=>
 bif v103.1 then
 some v103.2
 else
 some false
 else
 some false
 else
 some false
 else
 some true
 else
 some false
 else
 some false
 else
 bif v41.2 then
 aa (impl_IsInterpolant v25.1 v25.2.2.1 v41.1) fun v85=>
 bif v85.1 then
 bif v85.2 then
 some true
 else
 some false
 else
 some false
 else
 some true
 else
 some false
 else
 some false

end
end Go.Proofs.YtmfpijomelhccaaGreatDoor
