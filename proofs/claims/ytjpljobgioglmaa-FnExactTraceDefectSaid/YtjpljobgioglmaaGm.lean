/- Lemmas of the proof; each says what it shows. -/
import Derived.Test.YtjpljobgioglmaaGty
set_option linter.unusedSimpArgs false
set_option linter.unusedVariables false
set_option linter.defProp false
set_option maxRecDepth 4000
namespace Go.Proofs.Ytjpljobgioglmaa
open Go.Av
open Option renaming bind→ae
noncomputable section
def szIntS(a0:List Int)(a1:Int):Option Int:=
 bif decide ((IntKind.i64.wrap (a1-(a0.length:Int)))<0) then
 some (-1:Int)
 else
 some (IntKind.i64.wrap (a1-(a0.length:Int)))

def szSizeEdgeS(a0:List Sa)(a1:Int):Option Int:=
 bif decide ((IntKind.i64.wrap (a1-(a0.length:Int)))<0) then
 some (-1:Int)
 else
 some (IntKind.i64.wrap (a1-(a0.length:Int)))

def szSizeGraph(a0:Sb)(a1:Int):Option Int:=
 ae (szSizeEdgeS a0.Edges a1) fun v8=>
 bif decide (v8<0) then
 some (-1:Int)
 else
 some v8

def szSizeGraphS(a0:List Sb)(a1:Int):Option Int:=
 bif decide ((IntKind.i64.wrap (a1-(a0.length:Int)))<0) then
 some (-1:Int)
 else
 thenL (ρ:=Int) (σ:=Int) (forN (fun (i5:Nat) (s5:Int)=>
 ae (idx a0 (i5:Int)) fun v20=>
 ae (szSizeGraph v20 s5) fun v23=>
 bif decide (v23<0) then
 some (.rt (-1:Int))
 else
 some (.nx v23)) a0.length 0 (IntKind.i64.wrap (a1-(a0.length:Int)))) fun s5=>
 some s5

def szCyclicProof(a0:Ct)(a1:Int):Option Int:=
 ae (szIntS a0.Arities a1) fun v8=>
 bif decide (v8<0) then
 some (-1:Int)
 else
 ae (szSizeGraphS a0.Calls v8) fun v14=>
 bif decide (v14<0) then
 some (-1:Int)
 else
 some v14

def toIntS(a0:List Int):Option (List Int):=
 ae (mkn (a0.length:Int)) fun n7=>
 thenL (ρ:=(List Int)) (σ:=(List Int)) (forN (fun (i3:Nat) (s3:(List Int))=>
 ae (idx a0 (i3:Int)) fun v18=>
 ae (idx s3 (i3:Int)) fun v20=>
 ae (idx s3 (i3:Int)) fun w2=>
 some (.nx (s3.set (i3:Int).toNat v18))) a0.length 0 (List.replicate n7 (0:Int))) fun s3=>
 some s3

def toSizeEdge(a0:Sa):Option Sa:=
 some a0

def toSizeEdgeS(a0:List Sa):Option (List Sa):=
 ae (mkn (a0.length:Int)) fun n7=>
 thenL (ρ:=(List Sa)) (σ:=(List Sa)) (forN (fun (i3:Nat) (s3:(List Sa))=>
 ae (idx a0 (i3:Int)) fun v18=>
 ae (toSizeEdge v18) fun v20=>
 ae (idx s3 (i3:Int)) fun v21=>
 ae (idx s3 (i3:Int)) fun w2=>
 some (.nx (s3.set (i3:Int).toNat v20))) a0.length 0 (List.replicate n7 (Sa.mk 0 0 false))) fun s3=>
 some s3

def toSizeGraph(a0:Sb):Option Sb:=
 ae (toSizeEdgeS a0.Edges) fun v12=>
 some (Sb.mk a0.Source a0.Target v12)

def toSizeGraphS(a0:List Sb):Option (List Sb):=
 ae (mkn (a0.length:Int)) fun n7=>
 thenL (ρ:=(List Sb)) (σ:=(List Sb)) (forN (fun (i3:Nat) (s3:(List Sb))=>
 ae (idx a0 (i3:Int)) fun v18=>
 ae (toSizeGraph v18) fun v20=>
 ae (idx s3 (i3:Int)) fun v21=>
 ae (idx s3 (i3:Int)) fun w2=>
 some (.nx (s3.set (i3:Int).toNat v20))) a0.length 0 (List.replicate n7 (Sb.mk 0 0 ([])))) fun s3=>
 some s3

def toCyclicProof(a0:Ct):Option Ct:=
 ae (toIntS a0.Arities) fun v6=>
 ae (toSizeGraphS a0.Calls) fun v10=>
 some (Ct.mk v6 v10)

def spec_l1In(a0:Int)(a1:Int)(a2:Int):Option Bool:=
 bif decide (a1≤a0) then
 some (decide (a0≤a2))
 else
 some false

def spec_l24Graph(a0:Sb):Option Bool:=
 ae (spec_l1In a0.Source 0 5) fun v7=>
 bif v7 then
 ae (spec_l1In a0.Target 0 5) fun v12=>
 bif v12 then
 thenL (ρ:=Bool) (σ:=Unit) (forN (fun (i4:Nat) (s4:Unit)=>
 ae (idx a0.Edges (i4:Int)) fun v25=>
 ae (spec_l1In v25.From 0 3) fun v29=>
 bif v29 then
 ae (spec_l1In v25.To 0 3) fun v34=>
 bif v34 then
 bif decide (0<(i4:Int)) then
 ae (idx a0.Edges (IntKind.i64.wrap ((i4:Int)-1))) fun v44=>
 ae (idx a0.Edges (IntKind.i64.wrap ((i4:Int)-1))) fun v52=>
 bif decide ((IntKind.i64.wrap ((IntKind.i64.wrap (v25.From*4))+v25.To))≤(IntKind.i64.wrap ((IntKind.i64.wrap (v44.From*4))+v52.To))) then
 some (.rt false)
 else
 some (.nx ())
 else
 some (.nx ())
 else
 some (.rt false)
 else
 some (.rt false)) a0.Edges.length 0 ()) fun s4=>
 some true
 else
 some false
 else
 some false

def spec_l24Good(a0:Ct):Option Bool:=
 ae (spec_l1In (a0.Arities.length:Int) 1 6) fun v12=>
 bif v12 then
 bif decide (12<(a0.Calls.length:Int)) then
 some false
 else
 thenL (ρ:=Bool) (σ:=Unit) (forN (fun (i5:Nat) (s5:Unit)=>
 ae (idx a0.Arities (i5:Int)) fun v28=>
 ae (spec_l1In v28 0 4) fun v30=>
 bif v30 then
 some (.nx ())
 else
 some (.rt false)) a0.Arities.length 0 ()) fun s5=>
 thenL (ρ:=Bool) (σ:=Unit) (forN (fun (i10:Nat) (s10:Unit)=>
 ae (idx a0.Calls (i10:Int)) fun v42=>
 ae (spec_l24Graph v42) fun v45=>
 bif v45 then
 bif decide ((a0.Arities.length:Int)≤v42.Source) then
 some (.rt false)
 else
 bif decide ((a0.Arities.length:Int)≤v42.Target) then
 some (.rt false)
 else
 thenL (ρ:=(Flow Bool Unit)) (σ:=Unit) (forN (fun (i16:Nat) (s16:Unit)=>
 ae (idx v42.Edges (i16:Int)) fun v69=>
 ae (idx a0.Arities v42.Source) fun v76=>
 bif decide (v76≤v69.From) then
 some (.rt (.rt false))
 else
 ae (idx v42.Edges (i16:Int)) fun v83=>
 ae (idx a0.Arities v42.Target) fun v90=>
 bif decide (v90≤v83.To) then
 some (.rt (.rt false))
 else
 some (.nx ())) v42.Edges.length 0 ()) fun s16=>
 some (.nx ())
 else
 some (.rt false)) a0.Calls.length 0 ()) fun s10=>
 some true
 else
 some false

def spec_l24Same(a0:Sb)(a1:Sb):Option Bool:=
 bif decide (a0.Source=a1.Source) then
 bif decide (a0.Target=a1.Target) then
 bif decide ((a0.Edges.length:Int)=(a1.Edges.length:Int)) then
 thenL (ρ:=Bool) (σ:=Unit) (forN (fun (i4:Nat) (s4:Unit)=>
 ae (idx a0.Edges (i4:Int)) fun v37=>
 ae (idx a1.Edges (i4:Int)) fun v42=>
 bif decide (v37.From=v42.From)&&(decide (v37.To=v42.To)&&(v37.Strict==v42.Strict)) then
 some (.nx ())
 else
 some (.rt false)) a0.Edges.length 0 ()) fun s4=>
 some true
 else
 some false
 else
 some false
 else
 some false

def spec_l24At(a0:List Sb)(a1:Sb):Option Int:=
 thenL (ρ:=Int) (σ:=Unit) (forN (fun (i2:Nat) (s2:Unit)=>
 ae (idx a0 (i2:Int)) fun v14=>
 ae (spec_l24Same v14 a1) fun v17=>
 bif v17 then
 some (.rt (i2:Int))
 else
 some (.nx ())) a0.length 0 ()) fun s2=>
 some (-1:Int)

def spec_l24Own(a0:Sb):Option Sb:=
 ae (app ([]) a0.Edges) fun v10=>
 some (Sb.mk a0.Source a0.Target v10)

def spec_l24Level(a0:Sb)(a1:Int)(a2:Int):Option Int:=
 thenL (ρ:=Int) (σ:=Unit) (forN (fun (i2:Nat) (s2:Unit)=>
 ae (idx a0.Edges (i2:Int)) fun v18=>
 bif decide (v18.From=a1) then
 ae (idx a0.Edges (i2:Int)) fun v27=>
 bif decide (v27.To=a2) then
 ae (idx a0.Edges (i2:Int)) fun v36=>
 bif v36.Strict then
 some (.rt (2:Int))
 else
 some (.rt (1:Int))
 else
 some (.nx ())
 else
 some (.nx ())) a0.Edges.length 0 ()) fun s2=>
 some (0:Int)

def spec_l1Most(a0:Int)(a1:Int):Option Int:=
 bif decide (a1<a0) then
 some a0
 else
 some a1

def spec_l24Compose(a0:Sb)(a1:Sb):Option Sb:=
 thenL (ρ:=Sb) (σ:=(List Sa)) (forN (fun (i3:Nat) (s3:(List Sa))=>
 thenL (ρ:=(Flow Sb (List Sa))) (σ:=(List Sa)) (forN (fun (i6:Nat) (s6:(List Sa))=>
 thenL (ρ:=(Flow (Flow Sb (List Sa)) (List Sa))) (σ:=Int) (forN (fun (i10:Nat) (s10:Int)=>
 ae (spec_l24Level a0 (i3:Int) (i10:Int)) fun v33=>
 ae (spec_l24Level a1 (i10:Int) (i6:Int)) fun v37=>
 bif decide (0<v33) then
 bif decide (0<v37) then
 ae (spec_l1Most v33 v37) fun v47=>
 ae (spec_l1Most s10 v47) fun v48=>
 some (.nx v48)
 else
 some (.nx s10)
 else
 some (.nx s10)) 4 0 (0:Int)) fun s10=>
 bif decide (0<s10) then
 ae (app s6 ([(Sa.mk (i3:Int) (i6:Int) (decide (s10=2)))])) fun v59=>
 some (.nx v59)
 else
 some (.nx s6)) 4 0 s3) fun s6=>
 some (.nx s6)) 4 0 ([])) fun s3=>
 some (Sb.mk a0.Source a1.Target s3)

def spec_l1Own(a0:List Int):Option (List Int):=
 ae (app ([]) a0) fun v5=>
 some v5

def spec_l24Closure(a0:Ct):Option ((List Sb)×(List (List Int))×Bool):=
 thenL (ρ:=((List Sb)×(List (List Int))×Bool)) (σ:=(List Sb)×(List (List Int))) (forN (fun (i4:Nat) (s4:(List Sb)×(List (List Int)))=>
 ae (idx a0.Calls (i4:Int)) fun v24=>
 ae (spec_l24At s4.1 v24) fun v26=>
 bif decide (v26<0) then
 ae (idx a0.Calls (i4:Int)) fun v32=>
 ae (spec_l24Own v32) fun v34=>
 ae (app s4.1 ([v34])) fun v36=>
 ae (app s4.2 ([[(i4:Int)]])) fun v41=>
 some (.nx (v36,v41))
 else
 some (.nx (s4.1,s4.2))) a0.Calls.length 0 ([],[])) fun s4=>
 thenL (ρ:=((List Sb)×(List (List Int))×Bool)) (σ:=(List Sb)×(List (List Int))×Int) (lim fun n10=>whileN (fun (s10:(List Sb)×(List (List Int))×Int)=>
 bif decide (s10.2.2<(s10.1.length:Int)) then
 thenL (ρ:=(Flow ((List Sb)×(List (List Int))×Bool) ((List Sb)×(List (List Int))×Int))) (σ:=(List Sb)×(List (List Int))) (forN (fun (i13:Nat) (s13:(List Sb)×(List (List Int)))=>
 ae (idx a0.Calls (i13:Int)) fun v58=>
 ae (idx s13.1 s10.2.2) fun v63=>
 ae (idx s13.1 s10.2.2) fun v65=>
 bif decide (v58.Source=v65.Target) then
 ae (idx s13.1 s10.2.2) fun v69=>
 ae (idx s13.1 s10.2.2) fun v70=>
 ae (idx a0.Calls (i13:Int)) fun v74=>
 ae (spec_l24Compose v70 v74) fun v76=>
 ae (spec_l24At s13.1 v76) fun v79=>
 bif decide (0≤v79) then
 some (.nx (s13.1,s13.2))
 else
 bif decide ((s13.1.length:Int)=400) then
 some (.rt (.rt (s13.1,s13.2,false)))
 else
 ae (app s13.1 ([v76])) fun v89=>
 ae (idx s13.2 s10.2.2) fun v93=>
 ae (idx s13.2 s10.2.2) fun v94=>
 ae (spec_l1Own v94) fun v95=>
 ae (app v95 ([(i13:Int)])) fun v98=>
 ae (app s13.2 ([v98])) fun v100=>
 some (.nx (v89,v100))
 else
 some (.nx (s13.1,s13.2))) a0.Calls.length 0 (s10.1,s10.2.1)) fun s13=>
 some (.nx (s13.1,s13.2,IntKind.i64.wrap (s10.2.2+1)))
 else
 some (.br s10)) n10 (s4.1,s4.2,(0:Int))) fun s10=>
 some (s10.1,s10.2.1,true)

def spec_l24Idempotent(a0:Sb):Option Bool:=
 bif decide (a0.Source=a0.Target) then
 ae (spec_l24Compose a0 a0) fun v11=>
 ae (spec_l24Same v11 a0) fun v13=>
 some v13
 else
 some false

def spec_l24Descends(a0:Sb):Option Bool:=
 thenL (ρ:=Bool) (σ:=Unit) (forN (fun (i2:Nat) (s2:Unit)=>
 ae (idx a0.Edges (i2:Int)) fun v14=>
 ae (idx a0.Edges (i2:Int)) fun v20=>
 bif decide (v14.From=v20.To) then
 ae (idx a0.Edges (i2:Int)) fun v28=>
 bif v28.Strict then
 some (.rt true)
 else
 some (.nx ())
 else
 some (.nx ())) a0.Edges.length 0 ()) fun s2=>
 some false

def spec_TraceDefect(a0:Ct):Option ((List Int)×Bool):=
 ae (spec_l24Good a0) fun v9=>
 bif v9 then
 ae (spec_l24Closure a0) fun v14=>
 bif v14.2.2 then
 thenL (ρ:=((List Int)×Bool)) (σ:=Unit) (forN (fun (i7:Nat) (s7:Unit)=>
 ae (idx v14.1 (i7:Int)) fun v29=>
 ae (idx v14.1 (i7:Int)) fun v30=>
 ae (spec_l24Idempotent v30) fun v31=>
 bif v31 then
 ae (idx v14.1 (i7:Int)) fun v35=>
 ae (idx v14.1 (i7:Int)) fun v36=>
 ae (spec_l24Descends v36) fun v37=>
 bif v37 then
 some (.nx ())
 else
 ae (idx v14.2.1 (i7:Int)) fun v42=>
 ae (idx v14.2.1 (i7:Int)) fun v43=>
 some (.rt (v43,true))
 else
 some (.nx ())) v14.1.length 0 ()) fun s7=>
 some ([],true)
 else
 some ([],false)
 else
 some ([],false)

def impl_within(a0:Int)(a1:Int)(a2:Int):Option Bool:=
 bif decide (a1≤a0) then
 some (decide (a0≤a2))
 else
 some false

def impl_IsValidCyclic_1(a0:Int):Option Bool:=
 ae (impl_within a0 0 4) fun v4=>
 some (!v4)

def slices_IndexFunc_Sint_int(a0:List Int)(a1:Int→Option Bool):Option Int:=
 thenL (ρ:=Int) (σ:=Unit) (forN (fun (i2:Nat) (s2:Unit)=>
 ae (idx a0 (i2:Int)) fun v14=>
 ae (a1 v14) fun v16=>
 bif v16 then
 some (.rt (i2:Int))
 else
 some (.nx ())) a0.length 0 ()) fun s2=>
 some (-1:Int)

def slices_ContainsFunc_Sint_int(a0:List Int)(a1:Int→Option Bool):Option Bool:=
 ae (slices_IndexFunc_Sint_int a0 a1) fun v7=>
 some (decide (0≤v7))

def cmp_isNaN_int(a0:Int):Option Bool:=
 some (!(decide (a0=a0)))

def cmp_Compare_int(a0:Int)(a1:Int):Option Int:=
 ae (cmp_isNaN_int a0) fun v8=>
 ae (cmp_isNaN_int a1) fun v10=>
 bif v8 then
 bif v10 then
 some (0:Int)
 else
 some (-1:Int)
 else
 bif v10 then
 some (1:Int)
 else
 bif decide (a0<a1) then
 some (-1:Int)
 else
 bif decide (a1<a0) then
 some (1:Int)
 else
 some (0:Int)

def cmp_Or_int(a0:List Int):Option Int:=
 thenL (ρ:=Int) (σ:=Unit) (forN (fun (i3:Nat) (s3:Unit)=>
 ae (idx a0 (i3:Int)) fun v10=>
 bif decide (v10=0) then
 some (.nx ())
 else
 some (.rt v10)) a0.length 0 ()) fun s3=>
 some (0:Int)

def impl_compareEdges(a0:Sa)(a1:Sa):Option Int:=
 ae (cmp_Compare_int a0.From a1.From) fun v9=>
 ae (cmp_Compare_int a0.To a1.To) fun v14=>
 ae (cmp_Or_int ([v9,v14])) fun v16=>
 some v16

def impl_IsValidGraph(a0:Sb):Option Bool:=
 thenL (ρ:=Bool) (σ:=Unit) (forN (fun (i2:Nat) (s2:Unit)=>
 ae (idx a0.Edges (i2:Int)) fun v11=>
 ae (impl_within v11.From 0 3) fun v15=>
 bif v15 then
 ae (impl_within v11.To 0 3) fun v20=>
 bif v20 then
 bif decide (0<(i2:Int)) then
 ae (idx a0.Edges (IntKind.i64.wrap ((i2:Int)-1))) fun v31=>
 ae (impl_compareEdges v31 v11) fun v34=>
 bif decide (0≤v34) then
 some (.rt false)
 else
 some (.nx ())
 else
 some (.nx ())
 else
 some (.rt false)
 else
 some (.rt false)) a0.Edges.length 0 ()) fun s2=>
 ae (impl_within a0.Source 0 5) fun v41=>
 bif v41 then
 ae (impl_within a0.Target 0 5) fun v45=>
 some v45
 else
 some false

def impl_IsValidCyclic_2_1(a0:Sa)(b0:Ct)(b1:Sb):Option Bool:=
 ae (idx b0.Arities b1.Source) fun v11=>
 bif decide (v11≤a0.From) then
 some true
 else
 ae (idx b0.Arities b1.Target) fun v21=>
 some (decide (v21≤a0.To))

def slices_IndexFunc_Simpl_SizeEdge_impl_SizeEdge(a0:List Sa)(a1:Sa→Option Bool):Option Int:=
 thenL (ρ:=Int) (σ:=Unit) (forN (fun (i2:Nat) (s2:Unit)=>
 ae (idx a0 (i2:Int)) fun v14=>
 ae (a1 v14) fun v16=>
 bif v16 then
 some (.rt (i2:Int))
 else
 some (.nx ())) a0.length 0 ()) fun s2=>
 some (-1:Int)

def slices_ContainsFunc_Simpl_SizeEdge_impl_SizeEdge(a0:List Sa)(a1:Sa→Option Bool):Option Bool:=
 ae (slices_IndexFunc_Simpl_SizeEdge_impl_SizeEdge a0 a1) fun v7=>
 some (decide (0≤v7))

def impl_IsValidCyclic_2(a0:Sb)(b0:Int)(b1:Ct):Option Bool:=
 ae (impl_IsValidGraph a0) fun v6=>
 bif v6 then
 bif decide (b0≤a0.Source) then
 some true
 else
 bif decide (b0≤a0.Target) then
 some true
 else
 ae (slices_ContainsFunc_Simpl_SizeEdge_impl_SizeEdge a0.Edges (fun y0=>impl_IsValidCyclic_2_1 y0 b1 a0)) fun v24=>
 some v24
 else
 some true

def slices_IndexFunc_Simpl_SizeGraph_impl_SizeGraph(a0:List Sb)(a1:Sb→Option Bool):Option Int:=
 thenL (ρ:=Int) (σ:=Unit) (forN (fun (i2:Nat) (s2:Unit)=>
 ae (idx a0 (i2:Int)) fun v14=>
 ae (a1 v14) fun v16=>
 bif v16 then
 some (.rt (i2:Int))
 else
 some (.nx ())) a0.length 0 ()) fun s2=>
 some (-1:Int)

def slices_ContainsFunc_Simpl_SizeGraph_impl_SizeGraph(a0:List Sb)(a1:Sb→Option Bool):Option Bool:=
 ae (slices_IndexFunc_Simpl_SizeGraph_impl_SizeGraph a0 a1) fun v7=>
 some (decide (0≤v7))

def impl_IsValidCyclic(a0:Ct):Option Bool:=
 ae (impl_within (a0.Arities.length:Int) 1 6) fun v8=>
 bif v8 then
 bif decide (12<(a0.Calls.length:Int)) then
 some false
 else
 ae (slices_ContainsFunc_Sint_int a0.Arities (fun y0=>impl_IsValidCyclic_1 y0)) fun v19=>
 bif v19 then
 some false
 else
 ae (slices_ContainsFunc_Simpl_SizeGraph_impl_SizeGraph a0.Calls (fun y0=>impl_IsValidCyclic_2 y0 (a0.Arities.length:Int) a0)) fun v24=>
 some (!v24)
 else
 some false

def slices_Equal_Simpl_SizeEdge_impl_SizeEdge(a0:List Sa)(a1:List Sa):Option Bool:=
 bif decide ((a0.length:Int)=(a1.length:Int)) then
 thenL (ρ:=Bool) (σ:=Unit) (forN (fun (i4:Nat) (s4:Unit)=>
 ae (idx a0 (i4:Int)) fun v18=>
 ae (idx a1 (i4:Int)) fun v22=>
 bif decide (v18.From=v22.From)&&(decide (v18.To=v22.To)&&(v18.Strict==v22.Strict)) then
 some (.nx ())
 else
 some (.rt false)) a0.length 0 ()) fun s4=>
 some true
 else
 some false

def impl_sameGraph(a0:Sb)(a1:Sb):Option Bool:=
 bif decide (a0.Source=a1.Source) then
 bif decide (a0.Target=a1.Target) then
 ae (slices_Equal_Simpl_SizeEdge_impl_SizeEdge a0.Edges a1.Edges) fun v22=>
 some v22
 else
 some false
 else
 some false

def impl_closure_1_1(a0:ft)(b0:Sb):Option Bool:=
 ae (impl_sameGraph a0.graph b0) fun v7=>
 some v7

def slices_IndexFunc_Simpl_found_impl_found(a0:List ft)(a1:ft→Option Bool):Option Int:=
 thenL (ρ:=Int) (σ:=Unit) (forN (fun (i2:Nat) (s2:Unit)=>
 ae (idx a0 (i2:Int)) fun v14=>
 ae (a1 v14) fun v16=>
 bif v16 then
 some (.rt (i2:Int))
 else
 some (.nx ())) a0.length 0 ()) fun s2=>
 some (-1:Int)

def slices_ContainsFunc_Simpl_found_impl_found(a0:List ft)(a1:ft→Option Bool):Option Bool:=
 ae (slices_IndexFunc_Simpl_found_impl_found a0 a1) fun v7=>
 some (decide (0≤v7))

def impl_closure_1(a0:Sb)(a1:List Int)(b0:List ft):Option (Unit×(List ft)):=
 ae (slices_ContainsFunc_Simpl_found_impl_found b0 (fun y0=>impl_closure_1_1 y0 a0)) fun v7=>
 bif v7 then
 some ((),b0)
 else
 ae (app b0 ([(ft.mk a0 a1)])) fun v14=>
 some ((),v14)

def slices_Clone_Simpl_SizeEdge_impl_SizeEdge(a0:List Sa):Option (List Sa):=
 ae (app ([]) a0) fun v7=>
 some v7

def impl_copyGraph(a0:Sb):Option Sb:=
 ae (slices_Clone_Simpl_SizeEdge_impl_SizeEdge a0.Edges) fun v5=>
 some (Sb.mk a0.Source a0.Target v5)

def slices_BinarySearchFunc_Simpl_SizeEdge_impl_SizeEdge_impl_SizeEdge(a0:List Sa)(a1:Sa)(a2:Sa→Sa→Option Int):Option (Int×Bool):=
 thenL (ρ:=(Int×Bool)) (σ:=Int×Int) (lim fun n3=>whileN (fun (s3:Int×Int)=>
 bif decide (s3.1<s3.2) then
 ae (shr .u64 (IntKind.u64.wrap (IntKind.i64.wrap (s3.1+s3.2))) (1:Int)) fun v22=>
 ae (idx a0 (IntKind.i64.wrap v22)) fun v27=>
 ae (a2 v27 a1) fun v30=>
 bif decide (v30<0) then
 some (.nx (IntKind.i64.wrap ((IntKind.i64.wrap v22)+1),s3.2))
 else
 some (.nx (s3.1,IntKind.i64.wrap v22))
 else
 some (.br s3)) n3 ((0:Int),(a0.length:Int))) fun s3=>
 bif decide (s3.1<(a0.length:Int)) then
 ae (idx a0 s3.1) fun v43=>
 ae (a2 v43 a1) fun v46=>
 some (s3.1,decide (v46=0))
 else
 some (s3.1,false)

def slices_InsertE(a0:List Sa)(a1:Int)(a2:List Sa):Option (List Sa):=
 if 0≤a1∧a1≤a0.length∧a2.length=1∧a0.length≤1073741824 then some (a0.take a1.toNat++a2++a0.drop a1.toNat) else none

def impl_compose(a0:Sb)(a1:Sb):Option Sb:=
 thenL (ρ:=Sb) (σ:=(List Sa)) (forN (fun (i3:Nat) (s3:(List Sa))=>
 ae (idx a0.Edges (i3:Int)) fun v23=>
 thenL (ρ:=(Flow Sb (List Sa))) (σ:=(List Sa)) (forN (fun (i6:Nat) (s6:(List Sa))=>
 ae (idx a1.Edges (i6:Int)) fun v30=>
 bif decide (v23.To=v30.From) then
 bif v23.Strict then
 ae (slices_BinarySearchFunc_Simpl_SizeEdge_impl_SizeEdge_impl_SizeEdge s6 (Sa.mk v23.From v30.To true) (fun y0 y1=>impl_compareEdges y0 y1)) fun v52=>
 bif v52.2 then
 ae (idx s6 v52.1) fun v62=>
 ae (idx s6 v52.1) fun v64=>
 bif v64.Strict then
 ae (idx s6 v52.1) fun v69=>
 ae (idx s6 v52.1) fun w7=>
 some (.nx (s6.set v52.1.toNat (Sa.mk w7.From w7.To true)))
 else
 ae (idx s6 v52.1) fun v69=>
 ae (idx s6 v52.1) fun w8=>
 some (.nx (s6.set v52.1.toNat (Sa.mk w8.From w8.To true)))
 else
 ae (slices_InsertE s6 v52.1 ([(Sa.mk v23.From v30.To true)])) fun v76=>
 some (.nx v76)
 else
 ae (slices_BinarySearchFunc_Simpl_SizeEdge_impl_SizeEdge_impl_SizeEdge s6 (Sa.mk v23.From v30.To v30.Strict) (fun y0 y1=>impl_compareEdges y0 y1)) fun v52=>
 bif v52.2 then
 ae (idx s6 v52.1) fun v62=>
 ae (idx s6 v52.1) fun v64=>
 bif v64.Strict then
 ae (idx s6 v52.1) fun v69=>
 ae (idx s6 v52.1) fun w11=>
 some (.nx (s6.set v52.1.toNat (Sa.mk w11.From w11.To true)))
 else
 ae (idx s6 v52.1) fun v69=>
 ae (idx s6 v52.1) fun w12=>
 some (.nx (s6.set v52.1.toNat (Sa.mk w12.From w12.To v30.Strict)))
 else
 ae (slices_InsertE s6 v52.1 ([(Sa.mk v23.From v30.To v30.Strict)])) fun v76=>
 some (.nx v76)
 else
 some (.nx s6)) a1.Edges.length 0 s3) fun s6=>
 some (.nx s6)) a0.Edges.length 0 ([])) fun s3=>
 some (Sb.mk a0.Source a1.Target s3)

def slices_Clone_Sint_int(a0:List Int):Option (List Int):=
 ae (app ([]) a0) fun v7=>
 some v7

def impl_closure(a0:Ct):Option ((List ft)×Bool):=
 thenL (ρ:=((List ft)×Bool)) (σ:=(List ft)) (forN (fun (i4:Nat) (s4:(List ft))=>
 ae (idx a0.Calls (i4:Int)) fun v19=>
 ae (impl_copyGraph v19) fun v23=>
 ae (impl_closure_1 v23 ([(i4:Int)]) s4) fun v26=>
 some (.nx v26.2)) a0.Calls.length 0 ([])) fun s4=>
 thenL (ρ:=((List ft)×Bool)) (σ:=(List ft)×Int) (lim fun n9=>whileN (fun (s9:(List ft)×Int)=>
 bif decide (s9.2<(s9.1.length:Int)) then
 thenL (ρ:=(Flow ((List ft)×Bool) ((List ft)×Int))) (σ:=(List ft)) (forN (fun (i12:Nat) (s12:(List ft))=>
 ae (idx a0.Calls (i12:Int)) fun v40=>
 ae (idx s12 s9.2) fun v46=>
 ae (idx s12 s9.2) fun v49=>
 bif decide (v40.Source=v49.graph.Target) then
 ae (idx s12 s9.2) fun v54=>
 ae (impl_compose v54.graph v40) fun v58=>
 ae (idx s12 s9.2) fun v61=>
 ae (slices_Clone_Sint_int v61.path) fun v64=>
 ae (app v64 ([(i12:Int)])) fun v67=>
 ae (impl_closure_1 v58 v67 s12) fun v68=>
 some (.nx v68.2)
 else
 some (.nx s12)) a0.Calls.length 0 s9.1) fun s12=>
 bif decide (400<(s12.length:Int)) then
 some (.rt ([],false))
 else
 some (.nx (s12,IntKind.i64.wrap (s9.2+1)))
 else
 some (.br s9)) n9 (s4,(0:Int))) fun s9=>
 some (s9.1,true)

def impl_isIdempotent(a0:Sb):Option Bool:=
 bif decide (a0.Source=a0.Target) then
 ae (impl_compose a0 a0) fun v11=>
 ae (impl_sameGraph v11 a0) fun v13=>
 some v13
 else
 some false

def impl_TraceDefect_1(a0:Sa):Option Bool:=
 bif decide (a0.From=a0.To) then
 some a0.Strict
 else
 some false

def impl_TraceDefect(a0:Ct):Option ((List Int)×Bool):=
 ae (impl_IsValidCyclic a0) fun v9=>
 bif v9 then
 ae (impl_closure a0) fun v13=>
 bif v13.2 then
 thenL (ρ:=((List Int)×Bool)) (σ:=Unit) (forN (fun (i7:Nat) (s7:Unit)=>
 ae (idx v13.1 (i7:Int)) fun v22=>
 ae (impl_isIdempotent v22.graph) fun v26=>
 bif v26 then
 ae (slices_ContainsFunc_Simpl_SizeEdge_impl_SizeEdge v22.graph.Edges (fun y0=>impl_TraceDefect_1 y0)) fun v31=>
 bif v31 then
 some (.nx ())
 else
 some (.rt (v22.path,true))
 else
 some (.nx ())) v13.1.length 0 ()) fun s7=>
 some ([],true)
 else
 some ([],false)
 else
 some ([],false)

def eqIntS(a0:List Int)(a1:List Int):Option Bool:=
 bif decide ((a0.length:Int)=(a1.length:Int)) then
 thenL (ρ:=Bool) (σ:=Unit) (forN (fun (i4:Nat) (s4:Unit)=>
 ae (idx a0 (i4:Int)) fun v19=>
 ae (idx a1 (i4:Int)) fun v23=>
 bif decide (v19=v23) then
 some (.nx ())
 else
 some (.rt false)) a0.length 0 ()) fun s4=>
 some true
 else
 some false

def eqSizeEdge(a0:Sa)(a1:Sa):Option Bool:=
 bif decide (a0.From=a1.From) then
 bif decide (a0.To=a1.To) then
 bif a0.Strict==a1.Strict then
 some true
 else
 some false
 else
 some false
 else
 some false

def eqSizeEdgeS(a0:List Sa)(a1:List Sa):Option Bool:=
 bif decide ((a0.length:Int)=(a1.length:Int)) then
 thenL (ρ:=Bool) (σ:=Unit) (forN (fun (i4:Nat) (s4:Unit)=>
 ae (idx a0 (i4:Int)) fun v19=>
 ae (idx a1 (i4:Int)) fun v23=>
 ae (eqSizeEdge v19 v23) fun v25=>
 bif v25 then
 some (.nx ())
 else
 some (.rt false)) a0.length 0 ()) fun s4=>
 some true
 else
 some false

def eqSizeGraph(a0:Sb)(a1:Sb):Option Bool:=
 bif decide (a0.Source=a1.Source) then
 bif decide (a0.Target=a1.Target) then
 ae (eqSizeEdgeS a0.Edges a1.Edges) fun v19=>
 bif v19 then
 some true
 else
 some false
 else
 some false
 else
 some false

def eqSizeGraphS(a0:List Sb)(a1:List Sb):Option Bool:=
 bif decide ((a0.length:Int)=(a1.length:Int)) then
 thenL (ρ:=Bool) (σ:=Unit) (forN (fun (i4:Nat) (s4:Unit)=>
 ae (idx a0 (i4:Int)) fun v19=>
 ae (idx a1 (i4:Int)) fun v23=>
 ae (eqSizeGraph v19 v23) fun v25=>
 bif v25 then
 some (.nx ())
 else
 some (.rt false)) a0.length 0 ()) fun s4=>
 some true
 else
 some false

def eqCyclicProof(a0:Ct)(a1:Ct):Option Bool:=
 ae (eqIntS a0.Arities a1.Arities) fun v9=>
 bif v9 then
 ae (eqSizeGraphS a0.Calls a1.Calls) fun v15=>
 bif v15 then
 some true
 else
 some false
 else
 some false

def markIntS(a0:List Int)(a1:Int):Option (Int×(List Int)):=
 thenL (ρ:=(Int×(List Int))) (σ:=(List Int)×Int×Int) (lim fun n2=>whileN (fun (s2:(List Int)×Int×Int)=>
 bif decide (s2.2.2<(s2.1.length:Int)) then
 ae (idx s2.1 s2.2.2) fun v15=>
 ae (idx s2.1 s2.2.2) fun w2=>
 some (.nx (s2.1.set s2.2.2.toNat s2.2.1,IntKind.i64.wrap (s2.2.1+1),IntKind.i64.wrap (s2.2.2+1)))
 else
 some (.br s2)) n2 (a0,a1,(0:Int))) fun s2=>
 some (s2.2.1,s2.1)

def markSizeEdgeS(a0:List Sa)(a1:Int):Option (Int×(List Sa)):=
 thenL (ρ:=(Int×(List Sa))) (σ:=(List Sa)×Int×Int) (lim fun n2=>whileN (fun (s2:(List Sa)×Int×Int)=>
 bif decide (s2.2.2<(s2.1.length:Int)) then
 ae (idx s2.1 s2.2.2) fun v15=>
 ae (idx s2.1 s2.2.2) fun w2=>
 ae (idx (s2.1.set s2.2.2.toNat (Sa.mk s2.2.1 w2.To w2.Strict)) s2.2.2) fun v22=>
 ae (idx (s2.1.set s2.2.2.toNat (Sa.mk s2.2.1 w2.To w2.Strict)) s2.2.2) fun w3=>
 ae (rem (IntKind.i64.wrap ((IntKind.i64.wrap (s2.2.1+1))+1)) (3:Int)) fun v29=>
 ae (idx ((s2.1.set s2.2.2.toNat (Sa.mk s2.2.1 w2.To w2.Strict)).set s2.2.2.toNat (Sa.mk w3.From (IntKind.i64.wrap (s2.2.1+1)) w3.Strict)) s2.2.2) fun v31=>
 ae (idx ((s2.1.set s2.2.2.toNat (Sa.mk s2.2.1 w2.To w2.Strict)).set s2.2.2.toNat (Sa.mk w3.From (IntKind.i64.wrap (s2.2.1+1)) w3.Strict)) s2.2.2) fun w4=>
 some (.nx (((s2.1.set s2.2.2.toNat (Sa.mk s2.2.1 w2.To w2.Strict)).set s2.2.2.toNat (Sa.mk w3.From (IntKind.i64.wrap (s2.2.1+1)) w3.Strict)).set s2.2.2.toNat (Sa.mk w4.From w4.To (decide (v29=0))),IntKind.i64.wrap ((IntKind.i64.wrap ((IntKind.i64.wrap (s2.2.1+1))+1))+1),IntKind.i64.wrap (s2.2.2+1)))
 else
 some (.br s2)) n2 (a0,a1,(0:Int))) fun s2=>
 some (s2.2.1,s2.1)

def markSizeGraphS(a0:List Sb)(a1:Int):Option (Int×(List Sb)):=
 thenL (ρ:=(Int×(List Sb))) (σ:=(List Sb)×Int×Int) (lim fun n2=>whileN (fun (s2:(List Sb)×Int×Int)=>
 bif decide (s2.2.2<(s2.1.length:Int)) then
 ae (idx s2.1 s2.2.2) fun v15=>
 ae (idx s2.1 s2.2.2) fun w2=>
 ae (idx (s2.1.set s2.2.2.toNat (Sb.mk s2.2.1 w2.Target w2.Edges)) s2.2.2) fun v22=>
 ae (idx (s2.1.set s2.2.2.toNat (Sb.mk s2.2.1 w2.Target w2.Edges)) s2.2.2) fun w3=>
 ae (idx ((s2.1.set s2.2.2.toNat (Sb.mk s2.2.1 w2.Target w2.Edges)).set s2.2.2.toNat (Sb.mk w3.Source (IntKind.i64.wrap (s2.2.1+1)) w3.Edges)) s2.2.2) fun v28=>
 ae (idx ((s2.1.set s2.2.2.toNat (Sb.mk s2.2.1 w2.Target w2.Edges)).set s2.2.2.toNat (Sb.mk w3.Source (IntKind.i64.wrap (s2.2.1+1)) w3.Edges)) s2.2.2) fun w4=>
 ae (markSizeEdgeS w4.Edges (IntKind.i64.wrap ((IntKind.i64.wrap (s2.2.1+1))+1))) fun v32=>
 some (.nx (((s2.1.set s2.2.2.toNat (Sb.mk s2.2.1 w2.Target w2.Edges)).set s2.2.2.toNat (Sb.mk w3.Source (IntKind.i64.wrap (s2.2.1+1)) w3.Edges)).set s2.2.2.toNat (Sb.mk w4.Source w4.Target v32.2),v32.1,IntKind.i64.wrap (s2.2.2+1)))
 else
 some (.br s2)) n2 (a0,a1,(0:Int))) fun s2=>
 some (s2.2.1,s2.1)

def markCyclicProof(a0:Ct)(a1:Int):Option (Int×(List Int)×(List Sb)):=
 ae (markIntS a0.Arities a1) fun v8=>
 ae (markSizeGraphS a0.Calls v8.1) fun v12=>
 some (v12.1,v8.2,v12.2)

def heldIntS(a0:List Int)(a1:Int):Option Int:=
 thenL (ρ:=Int) (σ:=Int) (forN (fun (i2:Nat) (s2:Int)=>
 ae (idx a0 (i2:Int)) fun v14=>
 bif decide (v14=s2) then
 some (.nx (IntKind.i64.wrap (s2+1)))
 else
 some (.rt (-1:Int))) a0.length 0 a1) fun s2=>
 some s2

def FnExactTraceDefect(a0:Ct):Option Bool:=
 ae (szCyclicProof a0 (1048576:Int)) fun v16=>
 bif decide (v16<0) then
 some true
 else
 ae (toCyclicProof a0) fun v21=>
 ae (spec_TraceDefect v21) fun v22=>
 ae (toCyclicProof a0) fun v26=>
 ae (impl_TraceDefect v26) fun v29=>
 ae (eqIntS v29.1 v22.1) fun v34=>
 bif v34 then
 bif v29.2==v22.2 then
 ae (toCyclicProof a0) fun v43=>
 ae (eqCyclicProof v26 v43) fun v44=>
 bif v44 then
 ae (markCyclicProof v26 (1:Int)) fun v48=>
 bif decide (v48.1<0) then
 some false
 else
 ae (eqIntS v29.1 v22.1) fun v54=>
 bif v54 then
 ae (markIntS v29.1 (1:Int)) fun v64=>
 ae (heldIntS v64.2 (1:Int)) fun v67=>
 bif decide (v67<0) then
 some false
 else
 bif decide (v67=v64.1) then
 ae (toCyclicProof a0) fun v75=>
 ae (impl_TraceDefect v75) fun v76=>
 ae (eqIntS v76.1 v22.1) fun v81=>
 bif v81 then
 bif v76.2==v22.2 then
 ae (heldIntS v64.2 (1:Int)) fun v90=>
 bif decide (v90<0) then
 some false
 else
 bif decide (v90=v64.1) then
 some true
 else
 some false
 else
 some false
 else
 some false
 else
 some false
 else
 some false
 else
 some false
 else
 some false
 else
 some false

end
end Go.Proofs.Ytjpljobgioglmaa
