/- Lemmas of the proof; each says what it shows. -/
import Derived.Test.YtjpljobgioglmaaGty
set_option linter.unusedSimpArgs false
set_option linter.unusedVariables false
set_option linter.defProp false
set_option maxRecDepth 4000
namespace Go.Proofs.Ytjpljobgioglmaa
open Go.Av
open Option renaming bind→ae
noncomputable section
def vBig(a0:List Int):Option Bool:=
 some (decide (65536<(a0.length:Int)))

def spec_l1Cur__next(a0:la):Option (Int×la):=
 bif decide (a0.at_f<(a0.code.length:Int)) then
 ae (idx a0.code a0.at_f) fun v22=>
 bif decide ((IntKind.i64.wrap (a0.at_f+1))≤(a0.code.length:Int)) then
 some (IntKind.i64.wrap v22,(la.mk a0.code (IntKind.i64.wrap (a0.at_f+1)) (IntKind.u64.wrap ((IntKind.u64.wrap ((IntKind.u64.wrap (a0.seed*6364136223846793005))+(IntKind.u64.wrap (IntKind.i64.wrap v22))))+892892))))
 else
 ae (shr .u64 (IntKind.u64.wrap ((IntKind.u64.wrap ((IntKind.u64.wrap (a0.seed*6364136223846793005))+(IntKind.u64.wrap (IntKind.i64.wrap v22))))+892892)) (40:Int)) fun v59=>
 some (IntKind.i64.wrap (bitand .u64 v59 (255:Int)),(la.mk a0.code (IntKind.i64.wrap (a0.at_f+1)) (IntKind.u64.wrap ((IntKind.u64.wrap ((IntKind.u64.wrap (a0.seed*6364136223846793005))+(IntKind.u64.wrap (IntKind.i64.wrap v22))))+892892))))
 else
 bif decide ((IntKind.i64.wrap (a0.at_f+1))≤(a0.code.length:Int)) then
 some ((0:Int),(la.mk a0.code (IntKind.i64.wrap (a0.at_f+1)) (IntKind.u64.wrap ((IntKind.u64.wrap ((IntKind.u64.wrap (a0.seed*6364136223846793005))+(IntKind.u64.wrap (0:Int))))+892892))))
 else
 ae (shr .u64 (IntKind.u64.wrap ((IntKind.u64.wrap ((IntKind.u64.wrap (a0.seed*6364136223846793005))+(IntKind.u64.wrap (0:Int))))+892892)) (40:Int)) fun v59=>
 some (IntKind.i64.wrap (bitand .u64 v59 (255:Int)),(la.mk a0.code (IntKind.i64.wrap (a0.at_f+1)) (IntKind.u64.wrap ((IntKind.u64.wrap ((IntKind.u64.wrap (a0.seed*6364136223846793005))+(IntKind.u64.wrap (0:Int))))+892892))))

def spec_l1Cur__pick(a0:la)(a1:Int):Option (Int×la):=
 bif decide (a1≤1) then
 some ((0:Int),a0)
 else
 ae (spec_l1Cur__next a0) fun v9=>
 bif decide (200<a1) then
 ae (spec_l1Cur__next v9.2) fun v15=>
 ae (rem (IntKind.i64.wrap ((IntKind.i64.wrap (v9.1*256))+v15.1)) a1) fun v19=>
 some (v19,v15.2)
 else
 ae (rem v9.1 a1) fun v19=>
 some (v19,v9.2)

def spec_l1Cur__among(a0:la)(a1:List Int):Option (Int×la):=
 ae (spec_l1Cur__pick a0 (a1.length:Int)) fun v9=>
 ae (idx a1 v9.1) fun v10=>
 some (v10,v9.2)

def spec_l1Cur__one(a0:la)(a1:Int):Option (Bool×la):=
 ae (spec_l1Cur__pick a0 a1) fun v7=>
 some (decide (v7.1=0),v7.2)

def spec_l1Cur__sizeGraph(a0:la)(a1:Int)(a2:Int)(a3:Int)(a4:Int):Option (Sb×la):=
 ae (bnd (a3)) fun N3=>
 thenL (ρ:=(Sb×la)) (σ:=la×(List Sa)) (forN (fun (i3:Nat) (s3:la×(List Sa))=>
 ae (bnd (a4)) fun N6=>
 thenL (ρ:=(Flow (Sb×la) (la×(List Sa)))) (σ:=la×(List Sa)) (forN (fun (i6:Nat) (s6:la×(List Sa))=>
 ae (spec_l1Cur__one s6.1 3) fun v28=>
 bif v28.1 then
 ae (spec_l1Cur__one v28.2 2) fun v43=>
 ae (app s6.2 ([(Sa.mk (i3:Int) (i6:Int) v43.1)])) fun v46=>
 some (.nx (v43.2,v46))
 else
 bif decide ((i3:Int)=(i6:Int)) then
 ae (spec_l1Cur__one v28.2 2) fun v35=>
 bif v35.1 then
 ae (spec_l1Cur__one v35.2 2) fun v43=>
 ae (app s6.2 ([(Sa.mk (i3:Int) (i6:Int) v43.1)])) fun v46=>
 some (.nx (v43.2,v46))
 else
 some (.nx (v35.2,s6.2))
 else
 some (.nx (v28.2,s6.2))) N6 0 (s3.1,s3.2)) fun s6=>
 some (.nx (s6.1,s6.2))) N3 0 (a0,[])) fun s3=>
 some ((Sb.mk a1 a2 s3.2),s3.1)

def spec_l1Cur__cyclic(a0:la):Option (Ct×la):=
 ae (spec_l1Cur__among a0 ([(1:Int),(1:Int),(2:Int),(2:Int),(3:Int),(6:Int)])) fun v12=>
 ae (bnd (v12.1)) fun N4=>
 thenL (ρ:=(Ct×la)) (σ:=la×(List Int)) (forN (fun (i4:Nat) (s4:la×(List Int))=>
 ae (spec_l1Cur__pick s4.1 7) fun v23=>
 ae (quo v23.1 (2:Int)) fun v24=>
 ae (slc ([(1:Int),(2:Int),(2:Int),(3:Int),(0:Int),(4:Int)]) (0:Int) (IntKind.i64.wrap ((3:Int)+v24))) fun v26=>
 ae (spec_l1Cur__among v23.2 v26) fun v27=>
 ae (app s4.2 ([v27.1])) fun v29=>
 some (.nx (v27.2,v29))) N4 0 (v12.2,[])) fun s4=>
 ae (spec_l1Cur__pick s4.1 9) fun v34=>
 ae (quo v34.1 (4:Int)) fun v35=>
 ae (slc ([(1:Int),(1:Int),(2:Int),(2:Int),(3:Int),(4:Int),(0:Int)]) (0:Int) (IntKind.i64.wrap ((5:Int)+v35))) fun v37=>
 ae (spec_l1Cur__among v34.2 v37) fun v38=>
 thenL (ρ:=(Ct×la)) (σ:=la×Int×(List Sb)) (lim fun n8=>whileN (fun (s8:la×Int×(List Sb))=>
 bif decide (0<s8.2.1) then
 ae (spec_l1Cur__pick s8.1 v12.1) fun v45=>
 ae (spec_l1Cur__pick v45.2 v12.1) fun v48=>
 ae (idx s4.2 v45.1) fun v57=>
 ae (idx s4.2 v45.1) fun v58=>
 ae (idx s4.2 v48.1) fun v62=>
 ae (idx s4.2 v48.1) fun v63=>
 ae (spec_l1Cur__sizeGraph v48.2 v45.1 v48.1 v58 v63) fun v64=>
 ae (app s8.2.2 ([v64.1])) fun v66=>
 some (.nx (v64.2,IntKind.i64.wrap (s8.2.1-1),v66))
 else
 some (.br s8)) n8 (v38.2,v38.1,[])) fun s8=>
 some ((Ct.mk s4.2 s8.2.2),s8.1)

def spec_l1Cur__anySizeGraph(a0:la)(a1:Int)(a2:Int):Option (Sb×la):=
 ae (spec_l1Cur__pick a0 4) fun v12=>
 ae (spec_l1Cur__pick v12.2 4) fun v15=>
 ae (spec_l1Cur__sizeGraph v15.2 a1 a2 (IntKind.i64.wrap ((1:Int)+v12.1)) (IntKind.i64.wrap ((1:Int)+v15.1))) fun v17=>
 ae (spec_l1Cur__pick v17.2 30) fun v19=>
 bif decide (v19.1=0) then
 ae (spec_l1Cur__among v19.2 ([(-1:Int),(6:Int)])) fun v24=>
 some ((Sb.mk v24.1 v17.1.Target v17.1.Edges),v24.2)
 else
 bif decide (v19.1=1) then
 ae (app v17.1.Edges ([(Sa.mk 0 0 false)])) fun v32=>
 some ((Sb.mk v17.1.Source v17.1.Target v32),v19.2)
 else
 bif decide (v19.1=2) then
 ae (app v17.1.Edges ([(Sa.mk 3 4 false)])) fun v40=>
 some ((Sb.mk v17.1.Source v17.1.Target v40),v19.2)
 else
 some (v17.1,v19.2)

def spec_l1Cur__anyCyclic(a0:la):Option (Ct×la):=
 ae (spec_l1Cur__cyclic a0) fun v6=>
 ae (spec_l1Cur__pick v6.2 30) fun v8=>
 bif decide (v8.1=0) then
 ae (spec_l1Cur__among v8.2 ([(-1:Int),(5:Int),(4:Int)])) fun v15=>
 ae (app v6.1.Arities ([v15.1])) fun v17=>
 some ((Ct.mk v17 v6.1.Calls),v15.2)
 else
 bif decide (v8.1=1) then
 ae (slc v6.1.Arities (1:Int) (v6.1.Arities.length:Int)) fun v23=>
 some ((Ct.mk v23 v6.1.Calls),v8.2)
 else
 bif decide (v8.1=2) then
 ae (spec_l1Cur__pick v8.2 3) fun v31=>
 ae (spec_l1Cur__anySizeGraph v31.2 0 v31.1) fun v32=>
 ae (app v6.1.Calls ([v32.1])) fun v34=>
 some ((Ct.mk v6.1.Arities v34),v32.2)
 else
 bif decide (v8.1=3) then
 thenL (ρ:=(Ct×la)) (σ:=la×(List Sb)) (lim fun n10=>whileN (fun (s10:la×(List Sb))=>
 ae (spec_l1Cur__pick s10.1 2) fun v42=>
 bif decide ((s10.2.length:Int)<(IntKind.i64.wrap ((12:Int)+v42.1))) then
 ae (app s10.2 ([(Sb.mk 0 0 ([]))])) fun v49=>
 some (.nx (v42.2,v49))
 else
 some (.rt ((Ct.mk v6.1.Arities s10.2),v42.2))) n10 (v8.2,v6.1.Calls)) fun s10=>
 none
 else
 bif decide (v8.1=4) then
 thenL (ρ:=(Ct×la)) (σ:=la×(List Sb)) (forN (fun (i15:Nat) (s15:la×(List Sb))=>
 ae (spec_l1Cur__sizeGraph s15.1 (0:Int) 0 4 4) fun v62=>
 ae (app s15.2 ([v62.1])) fun v64=>
 some (.nx (v62.2,v64))) 4 0 (v8.2,[])) fun s15=>
 some ((Ct.mk ([(4:Int)]) s15.2),s15.1)
 else
 some (v6.1,v8.2)

def spec_l1Cur__path(a0:la)(a1:Ct):Option ((List Int)×la):=
 bif decide ((a1.Calls.length:Int)=0) then
 some ([],a0)
 else
 ae (spec_l1Cur__pick a0 (a1.Calls.length:Int)) fun v20=>
 ae (app ([]) ([v20.1])) fun v22=>
 ae (spec_l1Cur__pick v20.2 5) fun v24=>
 thenL (ρ:=((List Int)×la)) (σ:=la×(List Int)×Int) (lim fun n6=>whileN (fun (s6:la×(List Int)×Int)=>
 bif decide (0<s6.2.2) then
 thenL (ρ:=(Flow ((List Int)×la) (la×(List Int)×Int))) (σ:=(List Int)) (forN (fun (i10:Nat) (s10:(List Int))=>
 ae (idx a1.Calls (i10:Int)) fun v40=>
 ae (idx s6.2.1 (IntKind.i64.wrap ((s6.2.1.length:Int)-1))) fun v49=>
 ae (idx s6.2.1 (IntKind.i64.wrap ((s6.2.1.length:Int)-1))) fun v50=>
 ae (idx a1.Calls v50) fun v51=>
 bif decide (v40.Source=v51.Target) then
 ae (app s10 ([(i10:Int)])) fun v58=>
 some (.nx v58)
 else
 some (.nx s10)) a1.Calls.length 0 ([])) fun s10=>
 bif decide ((s10.length:Int)=0) then
 some (.br s6)
 else
 ae (spec_l1Cur__pick s6.1 (s10.length:Int)) fun v67=>
 ae (idx s10 v67.1) fun v68=>
 ae (idx s10 v67.1) fun v69=>
 ae (app s6.2.1 ([v69])) fun v71=>
 some (.nx (v67.2,v71,IntKind.i64.wrap (s6.2.2-1)))
 else
 some (.br s6)) n6 (v24.2,v22,v24.1)) fun s6=>
 ae (spec_l1Cur__pick s6.1 24) fun v73=>
 bif decide (v73.1=0) then
 some ([],v73.2)
 else
 bif decide (v73.1=1) then
 ae (spec_l1Cur__pick v73.2 (IntKind.i64.wrap ((a1.Calls.length:Int)+2))) fun v85=>
 ae (app s6.2.1 ([IntKind.i64.wrap (v85.1-1)])) fun v88=>
 some (v88,v85.2)
 else
 some (s6.2.1,v73.2)

def spec_DrawPathGraph(a0:List Int):Option (Ct×(List Int)):=
 ae (spec_l1Cur__anyCyclic (la.mk a0 0 0)) fun v10=>
 ae (spec_l1Cur__path v10.2 v10.1) fun v14=>
 some (v10.1,v14.1)

def impl_within(a0:Int)(a1:Int)(a2:Int):Option Bool:=
 bif decide (a1≤a0) then
 some (decide (a0≤a2))
 else
 some false

def impl_IsValidCyclic_1(a0:Int):Option Bool:=
 ae (impl_within a0 0 4) fun v4=>
 some (!v4)

def slices_IndexFunc_Sint_int(a0:List Int)(a1:Int→Option Bool):Option Int:=
 thenL (ρ:=Int) (σ:=Unit) (forN (fun (i2:Nat) (s2:Unit)=>
 ae (idx a0 (i2:Int)) fun v14=>
 ae (a1 v14) fun v16=>
 bif v16 then
 some (.rt (i2:Int))
 else
 some (.nx ())) a0.length 0 ()) fun s2=>
 some (-1:Int)

def slices_ContainsFunc_Sint_int(a0:List Int)(a1:Int→Option Bool):Option Bool:=
 ae (slices_IndexFunc_Sint_int a0 a1) fun v7=>
 some (decide (0≤v7))

def cmp_isNaN_int(a0:Int):Option Bool:=
 some (!(decide (a0=a0)))

def cmp_Compare_int(a0:Int)(a1:Int):Option Int:=
 ae (cmp_isNaN_int a0) fun v8=>
 ae (cmp_isNaN_int a1) fun v10=>
 bif v8 then
 bif v10 then
 some (0:Int)
 else
 some (-1:Int)
 else
 bif v10 then
 some (1:Int)
 else
 bif decide (a0<a1) then
 some (-1:Int)
 else
 bif decide (a1<a0) then
 some (1:Int)
 else
 some (0:Int)

def cmp_Or_int(a0:List Int):Option Int:=
 thenL (ρ:=Int) (σ:=Unit) (forN (fun (i3:Nat) (s3:Unit)=>
 ae (idx a0 (i3:Int)) fun v10=>
 bif decide (v10=0) then
 some (.nx ())
 else
 some (.rt v10)) a0.length 0 ()) fun s3=>
 some (0:Int)

def impl_compareEdges(a0:Sa)(a1:Sa):Option Int:=
 ae (cmp_Compare_int a0.From a1.From) fun v9=>
 ae (cmp_Compare_int a0.To a1.To) fun v14=>
 ae (cmp_Or_int ([v9,v14])) fun v16=>
 some v16

def impl_IsValidGraph(a0:Sb):Option Bool:=
 thenL (ρ:=Bool) (σ:=Unit) (forN (fun (i2:Nat) (s2:Unit)=>
 ae (idx a0.Edges (i2:Int)) fun v11=>
 ae (impl_within v11.From 0 3) fun v15=>
 bif v15 then
 ae (impl_within v11.To 0 3) fun v20=>
 bif v20 then
 bif decide (0<(i2:Int)) then
 ae (idx a0.Edges (IntKind.i64.wrap ((i2:Int)-1))) fun v31=>
 ae (impl_compareEdges v31 v11) fun v34=>
 bif decide (0≤v34) then
 some (.rt false)
 else
 some (.nx ())
 else
 some (.nx ())
 else
 some (.rt false)
 else
 some (.rt false)) a0.Edges.length 0 ()) fun s2=>
 ae (impl_within a0.Source 0 5) fun v41=>
 bif v41 then
 ae (impl_within a0.Target 0 5) fun v45=>
 some v45
 else
 some false

def impl_IsValidCyclic_2_1(a0:Sa)(b0:Ct)(b1:Sb):Option Bool:=
 ae (idx b0.Arities b1.Source) fun v11=>
 bif decide (v11≤a0.From) then
 some true
 else
 ae (idx b0.Arities b1.Target) fun v21=>
 some (decide (v21≤a0.To))

def slices_IndexFunc_Simpl_SizeEdge_impl_SizeEdge(a0:List Sa)(a1:Sa→Option Bool):Option Int:=
 thenL (ρ:=Int) (σ:=Unit) (forN (fun (i2:Nat) (s2:Unit)=>
 ae (idx a0 (i2:Int)) fun v14=>
 ae (a1 v14) fun v16=>
 bif v16 then
 some (.rt (i2:Int))
 else
 some (.nx ())) a0.length 0 ()) fun s2=>
 some (-1:Int)

def slices_ContainsFunc_Simpl_SizeEdge_impl_SizeEdge(a0:List Sa)(a1:Sa→Option Bool):Option Bool:=
 ae (slices_IndexFunc_Simpl_SizeEdge_impl_SizeEdge a0 a1) fun v7=>
 some (decide (0≤v7))

def impl_IsValidCyclic_2(a0:Sb)(b0:Int)(b1:Ct):Option Bool:=
 ae (impl_IsValidGraph a0) fun v6=>
 bif v6 then
 bif decide (b0≤a0.Source) then
 some true
 else
 bif decide (b0≤a0.Target) then
 some true
 else
 ae (slices_ContainsFunc_Simpl_SizeEdge_impl_SizeEdge a0.Edges (fun y0=>impl_IsValidCyclic_2_1 y0 b1 a0)) fun v24=>
 some v24
 else
 some true

def slices_IndexFunc_Simpl_SizeGraph_impl_SizeGraph(a0:List Sb)(a1:Sb→Option Bool):Option Int:=
 thenL (ρ:=Int) (σ:=Unit) (forN (fun (i2:Nat) (s2:Unit)=>
 ae (idx a0 (i2:Int)) fun v14=>
 ae (a1 v14) fun v16=>
 bif v16 then
 some (.rt (i2:Int))
 else
 some (.nx ())) a0.length 0 ()) fun s2=>
 some (-1:Int)

def slices_ContainsFunc_Simpl_SizeGraph_impl_SizeGraph(a0:List Sb)(a1:Sb→Option Bool):Option Bool:=
 ae (slices_IndexFunc_Simpl_SizeGraph_impl_SizeGraph a0 a1) fun v7=>
 some (decide (0≤v7))

def impl_IsValidCyclic(a0:Ct):Option Bool:=
 ae (impl_within (a0.Arities.length:Int) 1 6) fun v8=>
 bif v8 then
 bif decide (12<(a0.Calls.length:Int)) then
 some false
 else
 ae (slices_ContainsFunc_Sint_int a0.Arities (fun y0=>impl_IsValidCyclic_1 y0)) fun v19=>
 bif v19 then
 some false
 else
 ae (slices_ContainsFunc_Simpl_SizeGraph_impl_SizeGraph a0.Calls (fun y0=>impl_IsValidCyclic_2 y0 (a0.Arities.length:Int) a0)) fun v24=>
 some (!v24)
 else
 some false

def slices_Equal_Simpl_SizeEdge_impl_SizeEdge(a0:List Sa)(a1:List Sa):Option Bool:=
 bif decide ((a0.length:Int)=(a1.length:Int)) then
 thenL (ρ:=Bool) (σ:=Unit) (forN (fun (i4:Nat) (s4:Unit)=>
 ae (idx a0 (i4:Int)) fun v18=>
 ae (idx a1 (i4:Int)) fun v22=>
 bif decide (v18.From=v22.From)&&(decide (v18.To=v22.To)&&(v18.Strict==v22.Strict)) then
 some (.nx ())
 else
 some (.rt false)) a0.length 0 ()) fun s4=>
 some true
 else
 some false

def impl_sameGraph(a0:Sb)(a1:Sb):Option Bool:=
 bif decide (a0.Source=a1.Source) then
 bif decide (a0.Target=a1.Target) then
 ae (slices_Equal_Simpl_SizeEdge_impl_SizeEdge a0.Edges a1.Edges) fun v22=>
 some v22
 else
 some false
 else
 some false

def impl_closure_1_1(a0:ft)(b0:Sb):Option Bool:=
 ae (impl_sameGraph a0.graph b0) fun v7=>
 some v7

def slices_IndexFunc_Simpl_found_impl_found(a0:List ft)(a1:ft→Option Bool):Option Int:=
 thenL (ρ:=Int) (σ:=Unit) (forN (fun (i2:Nat) (s2:Unit)=>
 ae (idx a0 (i2:Int)) fun v14=>
 ae (a1 v14) fun v16=>
 bif v16 then
 some (.rt (i2:Int))
 else
 some (.nx ())) a0.length 0 ()) fun s2=>
 some (-1:Int)

def slices_ContainsFunc_Simpl_found_impl_found(a0:List ft)(a1:ft→Option Bool):Option Bool:=
 ae (slices_IndexFunc_Simpl_found_impl_found a0 a1) fun v7=>
 some (decide (0≤v7))

def impl_closure_1(a0:Sb)(a1:List Int)(b0:List ft):Option (Unit×(List ft)):=
 ae (slices_ContainsFunc_Simpl_found_impl_found b0 (fun y0=>impl_closure_1_1 y0 a0)) fun v7=>
 bif v7 then
 some ((),b0)
 else
 ae (app b0 ([(ft.mk a0 a1)])) fun v14=>
 some ((),v14)

def slices_Clone_Simpl_SizeEdge_impl_SizeEdge(a0:List Sa):Option (List Sa):=
 ae (app ([]) a0) fun v7=>
 some v7

def impl_copyGraph(a0:Sb):Option Sb:=
 ae (slices_Clone_Simpl_SizeEdge_impl_SizeEdge a0.Edges) fun v5=>
 some (Sb.mk a0.Source a0.Target v5)

def slices_BinarySearchFunc_Simpl_SizeEdge_impl_SizeEdge_impl_SizeEdge(a0:List Sa)(a1:Sa)(a2:Sa→Sa→Option Int):Option (Int×Bool):=
 thenL (ρ:=(Int×Bool)) (σ:=Int×Int) (lim fun n3=>whileN (fun (s3:Int×Int)=>
 bif decide (s3.1<s3.2) then
 ae (shr .u64 (IntKind.u64.wrap (IntKind.i64.wrap (s3.1+s3.2))) (1:Int)) fun v22=>
 ae (idx a0 (IntKind.i64.wrap v22)) fun v27=>
 ae (a2 v27 a1) fun v30=>
 bif decide (v30<0) then
 some (.nx (IntKind.i64.wrap ((IntKind.i64.wrap v22)+1),s3.2))
 else
 some (.nx (s3.1,IntKind.i64.wrap v22))
 else
 some (.br s3)) n3 ((0:Int),(a0.length:Int))) fun s3=>
 bif decide (s3.1<(a0.length:Int)) then
 ae (idx a0 s3.1) fun v43=>
 ae (a2 v43 a1) fun v46=>
 some (s3.1,decide (v46=0))
 else
 some (s3.1,false)

def slices_InsertE(a0:List Sa)(a1:Int)(a2:List Sa):Option (List Sa):=
 if 0≤a1∧a1≤a0.length∧a2.length=1∧a0.length≤1073741824 then some (a0.take a1.toNat++a2++a0.drop a1.toNat) else none

def impl_compose(a0:Sb)(a1:Sb):Option Sb:=
 thenL (ρ:=Sb) (σ:=(List Sa)) (forN (fun (i3:Nat) (s3:(List Sa))=>
 ae (idx a0.Edges (i3:Int)) fun v23=>
 thenL (ρ:=(Flow Sb (List Sa))) (σ:=(List Sa)) (forN (fun (i6:Nat) (s6:(List Sa))=>
 ae (idx a1.Edges (i6:Int)) fun v30=>
 bif decide (v23.To=v30.From) then
 bif v23.Strict then
 ae (slices_BinarySearchFunc_Simpl_SizeEdge_impl_SizeEdge_impl_SizeEdge s6 (Sa.mk v23.From v30.To true) (fun y0 y1=>impl_compareEdges y0 y1)) fun v52=>
 bif v52.2 then
 ae (idx s6 v52.1) fun v62=>
 ae (idx s6 v52.1) fun v64=>
 bif v64.Strict then
 ae (idx s6 v52.1) fun v69=>
 ae (idx s6 v52.1) fun w7=>
 some (.nx (s6.set v52.1.toNat (Sa.mk w7.From w7.To true)))
 else
 ae (idx s6 v52.1) fun v69=>
 ae (idx s6 v52.1) fun w8=>
 some (.nx (s6.set v52.1.toNat (Sa.mk w8.From w8.To true)))
 else
 ae (slices_InsertE s6 v52.1 ([(Sa.mk v23.From v30.To true)])) fun v76=>
 some (.nx v76)
 else
 ae (slices_BinarySearchFunc_Simpl_SizeEdge_impl_SizeEdge_impl_SizeEdge s6 (Sa.mk v23.From v30.To v30.Strict) (fun y0 y1=>impl_compareEdges y0 y1)) fun v52=>
 bif v52.2 then
 ae (idx s6 v52.1) fun v62=>
 ae (idx s6 v52.1) fun v64=>
 bif v64.Strict then
 ae (idx s6 v52.1) fun v69=>
 ae (idx s6 v52.1) fun w11=>
 some (.nx (s6.set v52.1.toNat (Sa.mk w11.From w11.To true)))
 else
 ae (idx s6 v52.1) fun v69=>
 ae (idx s6 v52.1) fun w12=>
 some (.nx (s6.set v52.1.toNat (Sa.mk w12.From w12.To v30.Strict)))
 else
 ae (slices_InsertE s6 v52.1 ([(Sa.mk v23.From v30.To v30.Strict)])) fun v76=>
 some (.nx v76)
 else
 some (.nx s6)) a1.Edges.length 0 s3) fun s6=>
 some (.nx s6)) a0.Edges.length 0 ([])) fun s3=>
 some (Sb.mk a0.Source a1.Target s3)

def slices_Clone_Sint_int(a0:List Int):Option (List Int):=
 ae (app ([]) a0) fun v7=>
 some v7

def impl_closure(a0:Ct):Option ((List ft)×Bool):=
 thenL (ρ:=((List ft)×Bool)) (σ:=(List ft)) (forN (fun (i4:Nat) (s4:(List ft))=>
 ae (idx a0.Calls (i4:Int)) fun v19=>
 ae (impl_copyGraph v19) fun v23=>
 ae (impl_closure_1 v23 ([(i4:Int)]) s4) fun v26=>
 some (.nx v26.2)) a0.Calls.length 0 ([])) fun s4=>
 thenL (ρ:=((List ft)×Bool)) (σ:=(List ft)×Int) (lim fun n9=>whileN (fun (s9:(List ft)×Int)=>
 bif decide (s9.2<(s9.1.length:Int)) then
 thenL (ρ:=(Flow ((List ft)×Bool) ((List ft)×Int))) (σ:=(List ft)) (forN (fun (i12:Nat) (s12:(List ft))=>
 ae (idx a0.Calls (i12:Int)) fun v40=>
 ae (idx s12 s9.2) fun v46=>
 ae (idx s12 s9.2) fun v49=>
 bif decide (v40.Source=v49.graph.Target) then
 ae (idx s12 s9.2) fun v54=>
 ae (idx s12 s9.2) fun v56=>
 ae (impl_compose v56.graph v40) fun v58=>
 ae (idx s12 s9.2) fun v61=>
 ae (idx s12 s9.2) fun v63=>
 ae (slices_Clone_Sint_int v63.path) fun v64=>
 ae (app v64 ([(i12:Int)])) fun v67=>
 ae (impl_closure_1 v58 v67 s12) fun v68=>
 some (.nx v68.2)
 else
 some (.nx s12)) a0.Calls.length 0 s9.1) fun s12=>
 bif decide (400<(s12.length:Int)) then
 some (.rt ([],false))
 else
 some (.nx (s12,IntKind.i64.wrap (s9.2+1)))
 else
 some (.br s9)) n9 (s4,(0:Int))) fun s9=>
 some (s9.1,true)

def impl_isIdempotent(a0:Sb):Option Bool:=
 bif decide (a0.Source=a0.Target) then
 ae (impl_compose a0 a0) fun v11=>
 ae (impl_sameGraph v11 a0) fun v13=>
 some v13
 else
 some false

def impl_TraceDefect_1(a0:Sa):Option Bool:=
 bif decide (a0.From=a0.To) then
 some a0.Strict
 else
 some false

def impl_TraceDefect(a0:Ct):Option ((List Int)×Bool):=
 ae (impl_IsValidCyclic a0) fun v9=>
 bif v9 then
 ae (impl_closure a0) fun v13=>
 bif v13.2 then
 thenL (ρ:=((List Int)×Bool)) (σ:=Unit) (forN (fun (i7:Nat) (s7:Unit)=>
 ae (idx v13.1 (i7:Int)) fun v22=>
 ae (idx v13.1 (i7:Int)) fun v23=>
 ae (impl_isIdempotent v23.graph) fun v26=>
 bif v26 then
 ae (slices_ContainsFunc_Simpl_SizeEdge_impl_SizeEdge v23.graph.Edges (fun y0=>impl_TraceDefect_1 y0)) fun v31=>
 bif v31 then
 some (.nx ())
 else
 some (.rt (v23.path,true))
 else
 some (.nx ())) v13.1.length 0 ()) fun s7=>
 some ([],true)
 else
 some ([],false)
 else
 some ([],false)

def spec_l1In(a0:Int)(a1:Int)(a2:Int):Option Bool:=
 bif decide (a1≤a0) then
 some (decide (a0≤a2))
 else
 some false

def spec_l24Graph(a0:Sb):Option Bool:=
 ae (spec_l1In a0.Source 0 5) fun v7=>
 bif v7 then
 ae (spec_l1In a0.Target 0 5) fun v12=>
 bif v12 then
 thenL (ρ:=Bool) (σ:=Unit) (forN (fun (i4:Nat) (s4:Unit)=>
 ae (idx a0.Edges (i4:Int)) fun v25=>
 ae (spec_l1In v25.From 0 3) fun v29=>
 bif v29 then
 ae (spec_l1In v25.To 0 3) fun v34=>
 bif v34 then
 bif decide (0<(i4:Int)) then
 ae (idx a0.Edges (IntKind.i64.wrap ((i4:Int)-1))) fun v44=>
 ae (idx a0.Edges (IntKind.i64.wrap ((i4:Int)-1))) fun v52=>
 bif decide ((IntKind.i64.wrap ((IntKind.i64.wrap (v25.From*4))+v25.To))≤(IntKind.i64.wrap ((IntKind.i64.wrap (v44.From*4))+v52.To))) then
 some (.rt false)
 else
 some (.nx ())
 else
 some (.nx ())
 else
 some (.rt false)
 else
 some (.rt false)) a0.Edges.length 0 ()) fun s4=>
 some true
 else
 some false
 else
 some false

def spec_l24Good(a0:Ct):Option Bool:=
 ae (spec_l1In (a0.Arities.length:Int) 1 6) fun v12=>
 bif v12 then
 bif decide (12<(a0.Calls.length:Int)) then
 some false
 else
 thenL (ρ:=Bool) (σ:=Unit) (forN (fun (i5:Nat) (s5:Unit)=>
 ae (idx a0.Arities (i5:Int)) fun v28=>
 ae (spec_l1In v28 0 4) fun v30=>
 bif v30 then
 some (.nx ())
 else
 some (.rt false)) a0.Arities.length 0 ()) fun s5=>
 thenL (ρ:=Bool) (σ:=Unit) (forN (fun (i10:Nat) (s10:Unit)=>
 ae (idx a0.Calls (i10:Int)) fun v42=>
 ae (spec_l24Graph v42) fun v45=>
 bif v45 then
 bif decide ((a0.Arities.length:Int)≤v42.Source) then
 some (.rt false)
 else
 bif decide ((a0.Arities.length:Int)≤v42.Target) then
 some (.rt false)
 else
 thenL (ρ:=(Flow Bool Unit)) (σ:=Unit) (forN (fun (i16:Nat) (s16:Unit)=>
 ae (idx v42.Edges (i16:Int)) fun v69=>
 ae (idx a0.Arities v42.Source) fun v76=>
 bif decide (v76≤v69.From) then
 some (.rt (.rt false))
 else
 ae (idx v42.Edges (i16:Int)) fun v83=>
 ae (idx a0.Arities v42.Target) fun v90=>
 bif decide (v90≤v83.To) then
 some (.rt (.rt false))
 else
 some (.nx ())) v42.Edges.length 0 ()) fun s16=>
 some (.nx ())
 else
 some (.rt false)) a0.Calls.length 0 ()) fun s10=>
 some true
 else
 some false

def spec_l24Same(a0:Sb)(a1:Sb):Option Bool:=
 bif decide (a0.Source=a1.Source) then
 bif decide (a0.Target=a1.Target) then
 bif decide ((a0.Edges.length:Int)=(a1.Edges.length:Int)) then
 thenL (ρ:=Bool) (σ:=Unit) (forN (fun (i4:Nat) (s4:Unit)=>
 ae (idx a0.Edges (i4:Int)) fun v37=>
 ae (idx a1.Edges (i4:Int)) fun v42=>
 bif decide (v37.From=v42.From)&&(decide (v37.To=v42.To)&&(v37.Strict==v42.Strict)) then
 some (.nx ())
 else
 some (.rt false)) a0.Edges.length 0 ()) fun s4=>
 some true
 else
 some false
 else
 some false
 else
 some false

def spec_l24At(a0:List Sb)(a1:Sb):Option Int:=
 thenL (ρ:=Int) (σ:=Unit) (forN (fun (i2:Nat) (s2:Unit)=>
 ae (idx a0 (i2:Int)) fun v14=>
 ae (spec_l24Same v14 a1) fun v17=>
 bif v17 then
 some (.rt (i2:Int))
 else
 some (.nx ())) a0.length 0 ()) fun s2=>
 some (-1:Int)

def spec_l24Own(a0:Sb):Option Sb:=
 ae (app ([]) a0.Edges) fun v10=>
 some (Sb.mk a0.Source a0.Target v10)

def spec_l24Level(a0:Sb)(a1:Int)(a2:Int):Option Int:=
 thenL (ρ:=Int) (σ:=Unit) (forN (fun (i2:Nat) (s2:Unit)=>
 ae (idx a0.Edges (i2:Int)) fun v18=>
 bif decide (v18.From=a1) then
 ae (idx a0.Edges (i2:Int)) fun v27=>
 bif decide (v27.To=a2) then
 ae (idx a0.Edges (i2:Int)) fun v36=>
 bif v36.Strict then
 some (.rt (2:Int))
 else
 some (.rt (1:Int))
 else
 some (.nx ())
 else
 some (.nx ())) a0.Edges.length 0 ()) fun s2=>
 some (0:Int)

def spec_l1Most(a0:Int)(a1:Int):Option Int:=
 bif decide (a1<a0) then
 some a0
 else
 some a1

def spec_l24Compose(a0:Sb)(a1:Sb):Option Sb:=
 thenL (ρ:=Sb) (σ:=(List Sa)) (forN (fun (i3:Nat) (s3:(List Sa))=>
 thenL (ρ:=(Flow Sb (List Sa))) (σ:=(List Sa)) (forN (fun (i6:Nat) (s6:(List Sa))=>
 thenL (ρ:=(Flow (Flow Sb (List Sa)) (List Sa))) (σ:=Int) (forN (fun (i10:Nat) (s10:Int)=>
 ae (spec_l24Level a0 (i3:Int) (i10:Int)) fun v33=>
 ae (spec_l24Level a1 (i10:Int) (i6:Int)) fun v37=>
 bif decide (0<v33) then
 bif decide (0<v37) then
 ae (spec_l1Most v33 v37) fun v47=>
 ae (spec_l1Most s10 v47) fun v48=>
 some (.nx v48)
 else
 some (.nx s10)
 else
 some (.nx s10)) 4 0 (0:Int)) fun s10=>
 bif decide (0<s10) then
 ae (app s6 ([(Sa.mk (i3:Int) (i6:Int) (decide (s10=2)))])) fun v59=>
 some (.nx v59)
 else
 some (.nx s6)) 4 0 s3) fun s6=>
 some (.nx s6)) 4 0 ([])) fun s3=>
 some (Sb.mk a0.Source a1.Target s3)

def spec_l1Own(a0:List Int):Option (List Int):=
 ae (app ([]) a0) fun v5=>
 some v5

def spec_l24Closure(a0:Ct):Option ((List Sb)×(List (List Int))×Bool):=
 thenL (ρ:=((List Sb)×(List (List Int))×Bool)) (σ:=(List Sb)×(List (List Int))) (forN (fun (i4:Nat) (s4:(List Sb)×(List (List Int)))=>
 ae (idx a0.Calls (i4:Int)) fun v24=>
 ae (spec_l24At s4.1 v24) fun v26=>
 bif decide (v26<0) then
 ae (idx a0.Calls (i4:Int)) fun v32=>
 ae (spec_l24Own v32) fun v34=>
 ae (app s4.1 ([v34])) fun v36=>
 ae (app s4.2 ([[(i4:Int)]])) fun v41=>
 some (.nx (v36,v41))
 else
 some (.nx (s4.1,s4.2))) a0.Calls.length 0 ([],[])) fun s4=>
 thenL (ρ:=((List Sb)×(List (List Int))×Bool)) (σ:=(List Sb)×(List (List Int))×Int) (lim fun n10=>whileN (fun (s10:(List Sb)×(List (List Int))×Int)=>
 bif decide (s10.2.2<(s10.1.length:Int)) then
 thenL (ρ:=(Flow ((List Sb)×(List (List Int))×Bool) ((List Sb)×(List (List Int))×Int))) (σ:=(List Sb)×(List (List Int))) (forN (fun (i13:Nat) (s13:(List Sb)×(List (List Int)))=>
 ae (idx a0.Calls (i13:Int)) fun v58=>
 ae (idx s13.1 s10.2.2) fun v63=>
 ae (idx s13.1 s10.2.2) fun v65=>
 bif decide (v58.Source=v65.Target) then
 ae (idx s13.1 s10.2.2) fun v69=>
 ae (idx s13.1 s10.2.2) fun v70=>
 ae (idx a0.Calls (i13:Int)) fun v74=>
 ae (spec_l24Compose v70 v74) fun v76=>
 ae (spec_l24At s13.1 v76) fun v79=>
 bif decide (0≤v79) then
 some (.nx (s13.1,s13.2))
 else
 bif decide ((s13.1.length:Int)=400) then
 some (.rt (.rt (s13.1,s13.2,false)))
 else
 ae (app s13.1 ([v76])) fun v89=>
 ae (idx s13.2 s10.2.2) fun v93=>
 ae (idx s13.2 s10.2.2) fun v94=>
 ae (spec_l1Own v94) fun v95=>
 ae (app v95 ([(i13:Int)])) fun v98=>
 ae (app s13.2 ([v98])) fun v100=>
 some (.nx (v89,v100))
 else
 some (.nx (s13.1,s13.2))) a0.Calls.length 0 (s10.1,s10.2.1)) fun s13=>
 some (.nx (s13.1,s13.2,IntKind.i64.wrap (s10.2.2+1)))
 else
 some (.br s10)) n10 (s4.1,s4.2,(0:Int))) fun s10=>
 some (s10.1,s10.2.1,true)

def spec_l24Idempotent(a0:Sb):Option Bool:=
 bif decide (a0.Source=a0.Target) then
 ae (spec_l24Compose a0 a0) fun v11=>
 ae (spec_l24Same v11 a0) fun v13=>
 some v13
 else
 some false

def spec_l24Descends(a0:Sb):Option Bool:=
 thenL (ρ:=Bool) (σ:=Unit) (forN (fun (i2:Nat) (s2:Unit)=>
 ae (idx a0.Edges (i2:Int)) fun v14=>
 ae (idx a0.Edges (i2:Int)) fun v20=>
 bif decide (v14.From=v20.To) then
 ae (idx a0.Edges (i2:Int)) fun v28=>
 bif v28.Strict then
 some (.rt true)
 else
 some (.nx ())
 else
 some (.nx ())) a0.Edges.length 0 ()) fun s2=>
 some false

def spec_TraceDefect(a0:Ct):Option ((List Int)×Bool):=
 ae (spec_l24Good a0) fun v9=>
 bif v9 then
 ae (spec_l24Closure a0) fun v14=>
 bif v14.2.2 then
 thenL (ρ:=((List Int)×Bool)) (σ:=Unit) (forN (fun (i7:Nat) (s7:Unit)=>
 ae (idx v14.1 (i7:Int)) fun v29=>
 ae (idx v14.1 (i7:Int)) fun v30=>
 ae (spec_l24Idempotent v30) fun v31=>
 bif v31 then
 ae (idx v14.1 (i7:Int)) fun v35=>
 ae (idx v14.1 (i7:Int)) fun v36=>
 ae (spec_l24Descends v36) fun v37=>
 bif v37 then
 some (.nx ())
 else
 ae (idx v14.2.1 (i7:Int)) fun v42=>
 ae (idx v14.2.1 (i7:Int)) fun v43=>
 some (.rt (v43,true))
 else
 some (.nx ())) v14.1.length 0 ()) fun s7=>
 some ([],true)
 else
 some ([],false)
 else
 some ([],false)

def vInts(a0:List Int)(a1:List Int):Option Bool:=
 bif decide ((a0.length:Int)=(a1.length:Int)) then
 thenL (ρ:=Bool) (σ:=Unit) (forN (fun (i4:Nat) (s4:Unit)=>
 ae (idx a0 (i4:Int)) fun v19=>
 ae (idx a1 (i4:Int)) fun v23=>
 bif decide (v19=v23) then
 some (.nx ())
 else
 some (.rt false)) a0.length 0 ()) fun s4=>
 some true
 else
 some false

def impl_isPath(a0:Ct)(a1:List Int):Option Bool:=
 thenL (ρ:=Bool) (σ:=Unit) (forN (fun (i2:Nat) (s2:Unit)=>
 ae (idx a1 (i2:Int)) fun v12=>
 ae (impl_within v12 0 (IntKind.i64.wrap ((a0.Calls.length:Int)-1))) fun v19=>
 bif v19 then
 bif decide (0<(i2:Int)) then
 ae (idx a1 (IntKind.i64.wrap ((i2:Int)-1))) fun v30=>
 ae (idx a0.Calls v30) fun v32=>
 ae (idx a0.Calls v12) fun v38=>
 bif decide (v32.Target=v38.Source) then
 some (.nx ())
 else
 some (.rt false)
 else
 some (.nx ())
 else
 some (.rt false)) a1.length 0 ()) fun s2=>
 some (decide ((a1.length:Int)≤200))

def impl_PathGraph(a0:Ct)(a1:List Int):Option (Sb×Bool):=
 ae (impl_IsValidCyclic a0) fun v10=>
 bif v10 then
 bif decide ((a1.length:Int)=0) then
 some ((Sb.mk 0 0 ([])),false)
 else
 ae (impl_isPath a0 a1) fun v20=>
 bif v20 then
 ae (idx a1 0) fun v27=>
 ae (idx a0.Calls v27) fun v29=>
 ae (impl_copyGraph v29) fun v31=>
 ae (slc a1 (1:Int) (a1.length:Int)) fun v33=>
 thenL (ρ:=(Sb×Bool)) (σ:=Int×Int×(List Sa)) (forN (fun (i5:Nat) (s5:Int×Int×(List Sa))=>
 ae (idx v33 (i5:Int)) fun v37=>
 ae (idx a0.Calls v37) fun v43=>
 ae (impl_compose (Sb.mk s5.1 s5.2.1 s5.2.2) v43) fun v45=>
 some (.nx (v45.Source,v45.Target,v45.Edges))) v33.length 0 (v31.Source,v31.Target,v31.Edges)) fun s5=>
 some ((Sb.mk s5.1 s5.2.1 s5.2.2),true)
 else
 some ((Sb.mk 0 0 ([])),false)
 else
 some ((Sb.mk 0 0 ([])),false)

def impl_IsIdempotentGraph(a0:Sb):Option (Bool×Bool):=
 ae (impl_IsValidGraph a0) fun v5=>
 bif v5 then
 ae (impl_isIdempotent a0) fun v8=>
 some (v8,true)
 else
 some (false,false)

def bits_Mul32(a0:Int)(a1:Int):Option (Int×Int):=
 ae (shr .u64 (IntKind.u64.wrap ((IntKind.u64.wrap a0)*(IntKind.u64.wrap a1))) (32:Int)) fun v13=>
 some (IntKind.u32.wrap v13,IntKind.u32.wrap (IntKind.u64.wrap ((IntKind.u64.wrap a0)*(IntKind.u64.wrap a1))))

def bits_Mul64(a0:Int)(a1:Int):Option (Int×Int):=
 ae (shr .u64 a0 (32:Int)) fun v17=>
 ae (shr .u64 a1 (32:Int)) fun v21=>
 ae (shr .u64 (IntKind.u64.wrap ((bitand .u64 a0 (4294967295:Int))*(bitand .u64 a1 (4294967295:Int)))) (32:Int)) fun v29=>
 ae (shr .u64 (IntKind.u64.wrap ((IntKind.u64.wrap (v17*(bitand .u64 a1 (4294967295:Int))))+v29)) (32:Int)) fun v34=>
 ae (shr .u64 (IntKind.u64.wrap ((bitand .u64 (IntKind.u64.wrap ((IntKind.u64.wrap (v17*(bitand .u64 a1 (4294967295:Int))))+v29)) (4294967295:Int))+(IntKind.u64.wrap ((bitand .u64 a0 (4294967295:Int))*v21)))) (32:Int)) fun v46=>
 some (IntKind.u64.wrap ((IntKind.u64.wrap ((IntKind.u64.wrap (v17*v21))+v34))+v46),IntKind.u64.wrap (a0*a1))

def bits_Mul(a0:Int)(a1:Int):Option (Int×Int):=
 ae (bits_Mul64 a0 a1) fun v25=>
 some (v25.1,v25.2)

def slices_Repeat_Sint_int(a0:List Int)(a1:Int):Option (List Int):=
 bif decide (a1<0) then
 none
 else
 ae (bits_Mul (IntKind.u64.wrap (a0.length:Int)) (IntKind.u64.wrap a1)) fun v18=>
 bif decide (0<v18.1) then
 none
 else
 bif decide (9223372036854775807<v18.2) then
 none
 else
 ae (mkn (IntKind.i64.wrap v18.2)) fun n30=>
 thenL (ρ:=(List Int)) (σ:=(List Int)×Int) (lim fun n8=>whileN (fun (s8:(List Int)×Int)=>
 bif decide (s8.2<(s8.1.length:Int)) then
 ae (rngN s8.1.length s8.2 (s8.1.length:Int)) fun v41=>
 ae (rngN s8.1.length (0:Int) s8.2) fun v44=>
 ae (cpSelf s8.1 s8.2 s8.2) fun v45=>
 some (.nx (v45.2,IntKind.i64.wrap (s8.2+v45.1)))
 else
 some (.br s8)) n8 (a0.take (List.replicate n30 (0:Int)).length++(List.replicate n30 (0:Int)).drop a0.length,min (a0.length:Int) ((List.replicate n30 (0:Int)).length:Int))) fun s8=>
 some s8.1

def impl_RepeatPath(a0:Ct)(a1:List Int)(a2:Int):Option ((List Int)×Bool):=
 ae (impl_IsValidCyclic a0) fun v10=>
 bif v10 then
 ae (impl_isPath a0 a1) fun v15=>
 bif v15 then
 bif decide (a2<0) then
 some ([],false)
 else
 bif decide ((a1.length:Int)=0) then
 some ([],true)
 else
 bif decide (200<a2) then
 some ([],false)
 else
 ae (slices_Repeat_Sint_int a1 a2) fun v29=>
 ae (impl_isPath a0 v29) fun v32=>
 bif v32 then
 some (v29,true)
 else
 some ([],false)
 else
 some ([],false)
 else
 some ([],false)

def impl_flag(a0:Bool):Option Int:=
 bif a0 then
 some (1:Int)
 else
 some (0:Int)

def slices_Max_Sint_int(a0:List Int):Option Int:=
 bif decide ((a0.length:Int)<1) then
 none
 else
 ae (idx a0 0) fun v10=>
 thenL (ρ:=Int) (σ:=Int) (forN (fun (i5:Nat) (s5:Int)=>
 ae (idx a0 (i5:Int)) fun v21=>
 some (.nx (max s5 v21))) (a0.length-1) 1 v10) fun s5=>
 some s5

def impl_MostProgress(a0:Ct)(a1:List Int):Option (Int×Bool):=
 ae (impl_IsValidCyclic a0) fun v13=>
 bif v13 then
 ae (impl_isPath a0 a1) fun v18=>
 bif v18 then
 thenL (ρ:=(Int×Bool)) (σ:=Int×Int×Int×Int) (forN (fun (i5:Nat) (s5:Int×Int×Int×Int)=>
 ae (idx a1 (i5:Int)) fun v26=>
 ae (idx a0.Calls v26) fun v32=>
 thenL (ρ:=(Flow (Int×Bool) (Int×Int×Int×Int))) (σ:=Int×Int×Int×Int) (forN (fun (i9:Nat) (s9:Int×Int×Int×Int)=>
 ae (idx v32.Edges (i9:Int)) fun v38=>
 bif decide (v38.From=0) then
 bif decide (0≤s5.1) then
 bif decide (v38.To=0) then
 ae (impl_flag v38.Strict) fun v57=>
 some (.nx (max s9.1 (IntKind.i64.wrap (s5.1+v57)),s9.2.1,s9.2.2.1,s9.2.2.2))
 else
 bif decide (v38.To=1) then
 ae (impl_flag v38.Strict) fun v57=>
 some (.nx (s9.1,max s9.2.1 (IntKind.i64.wrap (s5.1+v57)),s9.2.2.1,s9.2.2.2))
 else
 bif decide (v38.To=2) then
 ae (impl_flag v38.Strict) fun v57=>
 some (.nx (s9.1,s9.2.1,max s9.2.2.1 (IntKind.i64.wrap (s5.1+v57)),s9.2.2.2))
 else
 bif decide (v38.To=3) then
 ae (impl_flag v38.Strict) fun v57=>
 some (.nx (s9.1,s9.2.1,s9.2.2.1,max s9.2.2.2 (IntKind.i64.wrap (s5.1+v57))))
 else
 none
 else
 some (.nx (s9.1,s9.2.1,s9.2.2.1,s9.2.2.2))
 else
 bif decide (v38.From=1) then
 bif decide (0≤s5.2.1) then
 bif decide (v38.To=0) then
 ae (impl_flag v38.Strict) fun v57=>
 some (.nx (max s9.1 (IntKind.i64.wrap (s5.2.1+v57)),s9.2.1,s9.2.2.1,s9.2.2.2))
 else
 bif decide (v38.To=1) then
 ae (impl_flag v38.Strict) fun v57=>
 some (.nx (s9.1,max s9.2.1 (IntKind.i64.wrap (s5.2.1+v57)),s9.2.2.1,s9.2.2.2))
 else
 bif decide (v38.To=2) then
 ae (impl_flag v38.Strict) fun v57=>
 some (.nx (s9.1,s9.2.1,max s9.2.2.1 (IntKind.i64.wrap (s5.2.1+v57)),s9.2.2.2))
 else
 bif decide (v38.To=3) then
 ae (impl_flag v38.Strict) fun v57=>
 some (.nx (s9.1,s9.2.1,s9.2.2.1,max s9.2.2.2 (IntKind.i64.wrap (s5.2.1+v57))))
 else
 none
 else
 some (.nx (s9.1,s9.2.1,s9.2.2.1,s9.2.2.2))
 else
 bif decide (v38.From=2) then
 bif decide (0≤s5.2.2.1) then
 bif decide (v38.To=0) then
 ae (impl_flag v38.Strict) fun v57=>
 some (.nx (max s9.1 (IntKind.i64.wrap (s5.2.2.1+v57)),s9.2.1,s9.2.2.1,s9.2.2.2))
 else
 bif decide (v38.To=1) then
 ae (impl_flag v38.Strict) fun v57=>
 some (.nx (s9.1,max s9.2.1 (IntKind.i64.wrap (s5.2.2.1+v57)),s9.2.2.1,s9.2.2.2))
 else
 bif decide (v38.To=2) then
 ae (impl_flag v38.Strict) fun v57=>
 some (.nx (s9.1,s9.2.1,max s9.2.2.1 (IntKind.i64.wrap (s5.2.2.1+v57)),s9.2.2.2))
 else
 bif decide (v38.To=3) then
 ae (impl_flag v38.Strict) fun v57=>
 some (.nx (s9.1,s9.2.1,s9.2.2.1,max s9.2.2.2 (IntKind.i64.wrap (s5.2.2.1+v57))))
 else
 none
 else
 some (.nx (s9.1,s9.2.1,s9.2.2.1,s9.2.2.2))
 else
 bif decide (v38.From=3) then
 bif decide (0≤s5.2.2.2) then
 bif decide (v38.To=0) then
 ae (impl_flag v38.Strict) fun v57=>
 some (.nx (max s9.1 (IntKind.i64.wrap (s5.2.2.2+v57)),s9.2.1,s9.2.2.1,s9.2.2.2))
 else
 bif decide (v38.To=1) then
 ae (impl_flag v38.Strict) fun v57=>
 some (.nx (s9.1,max s9.2.1 (IntKind.i64.wrap (s5.2.2.2+v57)),s9.2.2.1,s9.2.2.2))
 else
 bif decide (v38.To=2) then
 ae (impl_flag v38.Strict) fun v57=>
 some (.nx (s9.1,s9.2.1,max s9.2.2.1 (IntKind.i64.wrap (s5.2.2.2+v57)),s9.2.2.2))
 else
 bif decide (v38.To=3) then
 ae (impl_flag v38.Strict) fun v57=>
 some (.nx (s9.1,s9.2.1,s9.2.2.1,max s9.2.2.2 (IntKind.i64.wrap (s5.2.2.2+v57))))
 else
 none
 else
 some (.nx (s9.1,s9.2.1,s9.2.2.1,s9.2.2.2))
 else
 none) v32.Edges.length 0 ((-1:Int),(-1:Int),(-1:Int),(-1:Int))) fun s9=>
 some (.nx (s9.1,s9.2.1,s9.2.2.1,s9.2.2.2))) a1.length 0 ((0:Int),(0:Int),(0:Int),(0:Int))) fun s5=>
 ae (slices_Max_Sint_int ([s5.1,s5.2.1,s5.2.2.1,s5.2.2.2])) fun v65=>
 some (v65,true)
 else
 some ((0:Int),false)
 else
 some ((0:Int),false)

def spec_l24Path(a0:Ct)(a1:List Int):Option Bool:=
 thenL (ρ:=Bool) (σ:=Unit) (forN (fun (i2:Nat) (s2:Unit)=>
 bif decide ((i2:Int)≤200) then
 ae (idx a1 (i2:Int)) fun v18=>
 ae (spec_l1In v18 0 (IntKind.i64.wrap ((a0.Calls.length:Int)-1))) fun v24=>
 bif v24 then
 bif decide (0<(i2:Int)) then
 ae (idx a1 (IntKind.i64.wrap ((i2:Int)-1))) fun v35=>
 ae (idx a0.Calls v35) fun v37=>
 ae (idx a1 (i2:Int)) fun v44=>
 ae (idx a0.Calls v44) fun v46=>
 bif decide (v37.Target=v46.Source) then
 some (.nx ())
 else
 some (.rt false)
 else
 some (.nx ())
 else
 some (.rt false)
 else
 some (.rt (decide ((a1.length:Int)≤200)))) a1.length 0 ()) fun s2=>
 some (decide ((a1.length:Int)≤200))

def spec_RepeatPath(a0:Ct)(a1:List Int)(a2:Int):Option ((List Int)×Bool):=
 ae (spec_l24Good a0) fun v12=>
 bif v12 then
 ae (spec_l24Path a0 a1) fun v17=>
 bif v17 then
 bif decide (a2<0) then
 some ([],false)
 else
 bif decide (0<(a1.length:Int)) then
 bif decide (200<a2) then
 some ([],false)
 else
 ae (bnd (a2)) fun N5=>
 thenL (ρ:=((List Int)×Bool)) (σ:=(List Int)) (forN (fun (i5:Nat) (s5:(List Int))=>
 ae (app s5 a1) fun v46=>
 some (.nx v46)) N5 0 ([])) fun s5=>
 ae (spec_l24Path a0 s5) fun v49=>
 bif v49 then
 some (s5,true)
 else
 some ([],false)
 else
 thenL (ρ:=((List Int)×Bool)) (σ:=Unit) (lim fun n5=>whileN (fun (s5:Unit)=>
 bif decide (0<a2) then
 some (.br s5)
 else
 some (.br s5)) n5 ()) fun s5=>
 ae (spec_l24Path a0 ([])) fun v49=>
 bif v49 then
 some ([],true)
 else
 some ([],false)
 else
 some ([],false)
 else
 some ([],false)

def FnTraces(a0:List Int):Option Bool:=
 ae (vBig a0) fun v25=>
 bif v25 then
 some true
 else
 ae (spec_DrawPathGraph a0) fun v28=>
 ae (impl_TraceDefect v28.1) fun v33=>
 ae (spec_TraceDefect v28.1) fun v38=>
 bif v33.2==v38.2 then
 ae (vInts v33.1 v38.1) fun v47=>
 bif v47 then
 bif v33.2 then
 bif decide (0<(v33.1.length:Int)) then
 ae (impl_PathGraph v28.1 v33.1) fun v58=>
 ae (impl_IsIdempotentGraph v58.1) fun v63=>
 ae (quo (200:Int) (v33.1.length:Int)) fun v68=>
 ae (impl_RepeatPath v28.1 v33.1 v68) fun v73=>
 ae (impl_MostProgress v28.1 v73.1) fun v79=>
 bif v58.2 then
 bif v63.2 then
 bif v63.1 then
 bif v73.2 then
 bif v79.2 then
 some (decide (v79.1≤(IntKind.i64.wrap ((4:Int)*(v33.1.length:Int)))))
 else
 some false
 else
 some false
 else
 some false
 else
 some false
 else
 some false
 else
 bif decide ((v28.2.length:Int)=0) then
 some true
 else
 bif decide (4<(v28.2.length:Int)) then
 some true
 else
 ae (quo (200:Int) (v28.2.length:Int)) fun v115=>
 ae (impl_RepeatPath v28.1 v28.2 v115) fun v116=>
 ae (quo (200:Int) (v28.2.length:Int)) fun v124=>
 ae (spec_RepeatPath v28.1 v28.2 v124) fun v125=>
 bif v116.2==v125.2 then
 bif v116.2 then
 ae (impl_MostProgress v28.1 v116.1) fun v141=>
 bif v141.2 then
 some (decide (0<v141.1))
 else
 some false
 else
 some (false==v125.2)
 else
 some (v116.2==v125.2)
 else
 some true
 else
 some false
 else
 some false

end
end Go.Proofs.Ytjpljobgioglmaa
