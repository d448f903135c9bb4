/- Lemmas of the proof; each says what it shows. -/
import Derived.Test.YtikeldgdgjoekaaGreatGty
set_option linter.unusedSimpArgs false
set_option linter.unusedVariables false
set_option linter.defProp false
set_option maxRecDepth 4000
namespace Go.Proofs.YtikeldgdgjoekaaGreat
open Go.Av
open Option renaming bind→ae
noncomputable section
def vBig(a0:List Int):Option Bool:=
 some (decide (65536<(a0.length:Int)))

def spec_l1Cur__next(a0:la):Option (Int×la):=
 bif decide (a0.at_f<(a0.code.length:Int)) then
 ae (idx a0.code a0.at_f) fun v22=>
 bif decide ((IntKind.i64.wrap (a0.at_f+1))≤(a0.code.length:Int)) then
 some (IntKind.i64.wrap v22,(la.mk a0.code (IntKind.i64.wrap (a0.at_f+1)) (IntKind.u64.wrap ((IntKind.u64.wrap ((IntKind.u64.wrap (a0.seed*6364136223846793005))+(IntKind.u64.wrap (IntKind.i64.wrap v22))))+892892))))
 else
 ae (shr .u64 (IntKind.u64.wrap ((IntKind.u64.wrap ((IntKind.u64.wrap (a0.seed*6364136223846793005))+(IntKind.u64.wrap (IntKind.i64.wrap v22))))+892892)) (40:Int)) fun v59=>
 some (IntKind.i64.wrap (bitand .u64 v59 (255:Int)),(la.mk a0.code (IntKind.i64.wrap (a0.at_f+1)) (IntKind.u64.wrap ((IntKind.u64.wrap ((IntKind.u64.wrap (a0.seed*6364136223846793005))+(IntKind.u64.wrap (IntKind.i64.wrap v22))))+892892))))
 else
 bif decide ((IntKind.i64.wrap (a0.at_f+1))≤(a0.code.length:Int)) then
 some ((0:Int),(la.mk a0.code (IntKind.i64.wrap (a0.at_f+1)) (IntKind.u64.wrap ((IntKind.u64.wrap ((IntKind.u64.wrap (a0.seed*6364136223846793005))+(IntKind.u64.wrap (0:Int))))+892892))))
 else
 ae (shr .u64 (IntKind.u64.wrap ((IntKind.u64.wrap ((IntKind.u64.wrap (a0.seed*6364136223846793005))+(IntKind.u64.wrap (0:Int))))+892892)) (40:Int)) fun v59=>
 some (IntKind.i64.wrap (bitand .u64 v59 (255:Int)),(la.mk a0.code (IntKind.i64.wrap (a0.at_f+1)) (IntKind.u64.wrap ((IntKind.u64.wrap ((IntKind.u64.wrap (a0.seed*6364136223846793005))+(IntKind.u64.wrap (0:Int))))+892892))))

def spec_l1Cur__pick(a0:la)(a1:Int):Option (Int×la):=
 bif decide (a1≤1) then
 some ((0:Int),a0)
 else
 ae (spec_l1Cur__next a0) fun v9=>
 bif decide (200<a1) then
 ae (spec_l1Cur__next v9.2) fun v15=>
 ae (rem (IntKind.i64.wrap ((IntKind.i64.wrap (v9.1*256))+v15.1)) a1) fun v19=>
 some (v19,v15.2)
 else
 ae (rem v9.1 a1) fun v19=>
 some (v19,v9.2)

def spec_l1Cur__one(a0:la)(a1:Int):Option (Bool×la):=
 ae (spec_l1Cur__pick a0 a1) fun v7=>
 some (decide (v7.1=0),v7.2)

def spec_l1Cur__among(a0:la)(a1:List Int):Option (Int×la):=
 ae (spec_l1Cur__pick a0 (a1.length:Int)) fun v9=>
 ae (idx a1 v9.1) fun v10=>
 some (v10,v9.2)

def spec_l1Cur__of(a0:la)(a1:List ByteArray):Option (ByteArray×la):=
 ae (spec_l1Cur__pick a0 (a1.length:Int)) fun v9=>
 ae (idx a1 v9.1) fun v10=>
 some (v10,v9.2)

def spec_l1Cur__majorants(a0:la):Option ((List Mt)×la):=
 thenL (ρ:=((List Mt)×la)) (σ:=la×(List Mt)) (forN (fun (i5:Nat) (s5:la×(List Mt))=>
 ae (spec_l1Cur__one s5.1 12) fun v17=>
 bif v17.1 then
 some (.nx (v17.2,s5.2))
 else
 ae (idx ([(⟨#[97]⟩:ByteArray),(⟨#[98]⟩:ByteArray),(⟨#[102]⟩:ByteArray),(⟨#[103]⟩:ByteArray)]) (i5:Int)) fun v20=>
 ae (idx ([(⟨#[97]⟩:ByteArray),(⟨#[98]⟩:ByteArray),(⟨#[102]⟩:ByteArray),(⟨#[103]⟩:ByteArray)]) (i5:Int)) fun v21=>
 ae (spec_l1Cur__among v17.2 ([(0:Int),(1:Int),(2:Int),(5:Int),(100:Int),(40000:Int)])) fun v24=>
 thenL (ρ:=(Flow ((List Mt)×la) (la×(List Mt)))) (σ:=la×Int×(List Int)) (lim fun n10=>whileN (fun (s10:la×Int×(List Int))=>
 ae (idx ([(0:Int),(0:Int),(1:Int),(2:Int)]) (i5:Int)) fun v29=>
 ae (idx ([(0:Int),(0:Int),(1:Int),(2:Int)]) (i5:Int)) fun v30=>
 bif decide (s10.2.1<v30) then
 ae (spec_l1Cur__among s10.1 ([(0:Int),(1:Int),(1:Int),(2:Int),(3:Int),(40:Int)])) fun v38=>
 ae (app s10.2.2 ([v38.1])) fun v40=>
 some (.nx (v38.2,IntKind.i64.wrap (s10.2.1+1),v40))
 else
 some (.br s10)) n10 (v24.2,(0:Int),[])) fun s10=>
 ae (app s5.2 ([(Mt.mk v21 s10.2.2 v24.1)])) fun v45=>
 some (.nx (s10.1,v45))) 4 0 (a0,[])) fun s5=>
 ae (spec_l1Cur__pick s5.1 30) fun v47=>
 bif decide (v47.1=0) then
 ae (spec_l1Cur__of v47.2 ([(⟨#[88]⟩:ByteArray),(⟨#[102]⟩:ByteArray),(⟨#[122]⟩:ByteArray)])) fun v53=>
 ae (app s5.2 ([(Mt.mk v53.1 ([(1001:Int)]) (0:Int))])) fun v57=>
 some (v57,v53.2)
 else
 bif decide (v47.1=1) then
 ae (spec_l1Cur__among v47.2 ([(-1:Int),(100001:Int),(100000:Int)])) fun v63=>
 ae (app s5.2 ([(Mt.mk (⟨#[122]⟩:ByteArray) ([]) v63.1)])) fun v66=>
 some (v66,v63.2)
 else
 bif decide (v47.1=2) then
 ae (mkn (5:Int)) fun n70=>
 ae (app s5.2 ([(Mt.mk (⟨#[122]⟩:ByteArray) (List.replicate n70 (0:Int)) (0:Int))])) fun v73=>
 some (v73,v47.2)
 else
 some (s5.2,v47.2)

def spec_l1Cur__grownN:Nat→la→Int→Option (Tt×la)
 | 0,_,_=>none
 | n+1,a0,a1=>
 bif decide (a1≤1) then
 ae (spec_l1Cur__of a0 ([(⟨#[88]⟩:ByteArray),(⟨#[89]⟩:ByteArray),(⟨#[90]⟩:ByteArray),(⟨#[97]⟩:ByteArray),(⟨#[98]⟩:ByteArray),(⟨#[88]⟩:ByteArray),(⟨#[97]⟩:ByteArray)])) fun v13=>
 some ((Tt.mk v13.1 ([])),v13.2)
 else
 ae (spec_l1Cur__one a0 3) fun v9=>
 bif v9.1 then
 ae (spec_l1Cur__of v9.2 ([(⟨#[88]⟩:ByteArray),(⟨#[89]⟩:ByteArray),(⟨#[90]⟩:ByteArray),(⟨#[97]⟩:ByteArray),(⟨#[98]⟩:ByteArray),(⟨#[88]⟩:ByteArray),(⟨#[97]⟩:ByteArray)])) fun v13=>
 some ((Tt.mk v13.1 ([])),v13.2)
 else
 ae (spec_l1Cur__one v9.2 2) fun v16=>
 bif v16.1 then
 ae (spec_l1Cur__grownN n v16.2 (IntKind.i64.wrap (a1-1))) fun v20=>
 some ((Tt.mk (⟨#[102]⟩:ByteArray) ([v20.1])),v20.2)
 else
 ae (spec_l1Cur__grownN n v16.2 (IntKind.i64.wrap (a1-1))) fun v26=>
 ae (spec_l1Cur__grownN n v26.2 (IntKind.i64.wrap (a1-1))) fun v30=>
 some ((Tt.mk (⟨#[103]⟩:ByteArray) ([v26.1,v30.1])),v30.2)
def spec_l1Cur__grown(a0:la)(a1:Int):Option (Tt×la):=lim fun n=>spec_l1Cur__grownN n a0 a1

def spec_l1Cur__term(a0:la):Option (Tt×la):=
 ae (spec_l1Cur__pick a0 3) fun v5=>
 ae (spec_l1Cur__grown v5.2 (IntKind.i64.wrap ((1:Int)+v5.1))) fun v7=>
 some (v7.1,v7.2)

def spec_l1Cur__tower(a0:la)(a1:Int):Option (Tt×la):=
 ae (spec_l1Cur__of a0 ([(⟨#[88]⟩:ByteArray),(⟨#[97]⟩:ByteArray)])) fun v8=>
 thenL (ρ:=(Tt×la)) (σ:=Int×ByteArray×(List Tt)) (lim fun n2=>whileN (fun (s2:Int×ByteArray×(List Tt))=>
 bif decide (1<s2.1) then
 some (.nx (IntKind.i64.wrap (s2.1-1),(⟨#[102]⟩:ByteArray),[(Tt.mk s2.2.1 s2.2.2)]))
 else
 some (.br s2)) n2 (a1,v8.1,[])) fun s2=>
 some ((Tt.mk s2.2.1 s2.2.2),v8.2)

def spec_l1Cur__wide(a0:la):Option (Tt×la):=
 thenL (ρ:=(Tt×la)) (σ:=(List Tt)) (forN (fun (i3:Nat) (s3:(List Tt))=>
 thenL (ρ:=(Flow (Tt×la) (List Tt))) (σ:=(List Tt)) (forN (fun (i7:Nat) (s7:(List Tt))=>
 ae (app s7 ([(Tt.mk (⟨#[102]⟩:ByteArray) ([(Tt.mk (⟨#[97]⟩:ByteArray) ([]))]))])) fun v23=>
 some (.nx v23)) 4 0 ([])) fun s7=>
 ae (app s3 ([(Tt.mk (⟨#[104]⟩:ByteArray) s7)])) fun v29=>
 some (.nx v29)) 4 0 ([])) fun s3=>
 ae (spec_l1Cur__one a0 2) fun v32=>
 bif v32.1 then
 ae (slc s3 (0:Int) (3:Int)) fun v35=>
 ae (spec_l1Cur__one v32.2 2) fun v38=>
 bif v38.1 then
 bif decide ((v35.length:Int)=3) then
 ae (app v35 ([(Tt.mk (⟨#[102]⟩:ByteArray) ([(Tt.mk (⟨#[98]⟩:ByteArray) ([]))]))])) fun v51=>
 some ((Tt.mk (⟨#[103]⟩:ByteArray) v51),v38.2)
 else
 some ((Tt.mk (⟨#[103]⟩:ByteArray) v35),v38.2)
 else
 some ((Tt.mk (⟨#[103]⟩:ByteArray) v35),v38.2)
 else
 ae (spec_l1Cur__one v32.2 2) fun v38=>
 bif v38.1 then
 bif decide ((s3.length:Int)=3) then
 ae (app s3 ([(Tt.mk (⟨#[102]⟩:ByteArray) ([(Tt.mk (⟨#[98]⟩:ByteArray) ([]))]))])) fun v51=>
 some ((Tt.mk (⟨#[103]⟩:ByteArray) v51),v38.2)
 else
 some ((Tt.mk (⟨#[103]⟩:ByteArray) s3),v38.2)
 else
 some ((Tt.mk (⟨#[103]⟩:ByteArray) s3),v38.2)

def spec_l1Cur__anyTerm(a0:la):Option (Tt×la):=
 ae (spec_l1Cur__term a0) fun v5=>
 ae (spec_l1Cur__pick v5.2 24) fun v7=>
 bif decide (v7.1=0) then
 ae (spec_l1Cur__of v7.2 ([(⟨#[]⟩:ByteArray),(⟨#[116,114,117,101]⟩:ByteArray),(⟨#[116,114,117,116,104]⟩:ByteArray),(⟨#[105,102]⟩:ByteArray),(⟨#[88,121,122,57]⟩:ByteArray),(⟨#[88,121,122,57,57]⟩:ByteArray),(⟨#[120,65]⟩:ByteArray),(⟨#[97,95,98]⟩:ByteArray),(⟨#[97,98,99,100,101,102]⟩:ByteArray),(⟨#[97,98,99,100,101,102,103]⟩:ByteArray),(⟨#[95,97]⟩:ByteArray),(⟨#[57]⟩:ByteArray),(⟨#[88,95]⟩:ByteArray),(⟨#[61]⟩:ByteArray)])) fun v12=>
 some ((Tt.mk v12.1 v5.1.Args),v12.2)
 else
 bif decide (v7.1=1) then
 ae (spec_l1Cur__pick v7.2 3) fun v18=>
 ae (spec_l1Cur__tower v18.2 (IntKind.i64.wrap ((7:Int)+v18.1))) fun v20=>
 some (v20.1,v20.2)
 else
 bif decide (v7.1=2) then
 ae (spec_l1Cur__wide v7.2) fun v24=>
 some (v24.1,v24.2)
 else
 bif decide (v7.1=3) then
 ae (spec_l1Cur__term v7.2) fun v30=>
 ae (spec_l1Cur__term v30.2) fun v32=>
 ae (spec_l1Cur__term v32.2) fun v34=>
 ae (app v5.1.Args ([v30.1,v32.1,v34.1])) fun v36=>
 some ((Tt.mk v5.1.Name v36),v34.2)
 else
 bif decide (v7.1=4) then
 bif decide (0<(v5.1.Args.length:Int)) then
 ae (spec_l1Cur__of v7.2 ([(⟨#[61]⟩:ByteArray),(⟨#[]⟩:ByteArray),(⟨#[81,49]⟩:ByteArray),(⟨#[98,50]⟩:ByteArray)])) fun v48=>
 ae (idx v5.1.Args 0) fun v53=>
 some ((Tt.mk v5.1.Name (v5.1.Args.set (0:Int).toNat (Tt.mk v48.1 v53.Args))),v48.2)
 else
 some (v5.1,v7.2)
 else
 some (v5.1,v7.2)

def spec_l1Cur__linear(a0:la):Option (Lt×la):=
 ae (spec_l1Cur__among a0 ([(0:Int),(1:Int),(7:Int),(90000:Int)])) fun v8=>
 thenL (ρ:=(Lt×la)) (σ:=la×(List ByteArray)×(List Int)) (forN (fun (i4:Nat) (s4:la×(List ByteArray)×(List Int))=>
 ae (spec_l1Cur__one s4.1 2) fun v16=>
 bif v16.1 then
 ae (idx ([(⟨#[88]⟩:ByteArray),(⟨#[89]⟩:ByteArray),(⟨#[90]⟩:ByteArray)]) (i4:Int)) fun v21=>
 ae (idx ([(⟨#[88]⟩:ByteArray),(⟨#[89]⟩:ByteArray),(⟨#[90]⟩:ByteArray)]) (i4:Int)) fun v22=>
 ae (app s4.2.1 ([v22])) fun v24=>
 ae (spec_l1Cur__among v16.2 ([(1:Int),(2:Int),(3:Int),(30:Int),(1000:Int)])) fun v30=>
 ae (app s4.2.2 ([v30.1])) fun v32=>
 some (.nx (v30.2,v24,v32))
 else
 some (.nx (v16.2,s4.2.1,s4.2.2))) 3 0 (v8.2,[],[])) fun s4=>
 ae (spec_l1Cur__pick s4.1 30) fun v35=>
 bif decide (v35.1=0) then
 ae (spec_l1Cur__of v35.2 ([(⟨#[65]⟩:ByteArray),(⟨#[97]⟩:ByteArray),(⟨#[90,49]⟩:ByteArray)])) fun v42=>
 ae (app s4.2.1 ([v42.1])) fun v44=>
 ae (app s4.2.2 ([(1:Int)])) fun v49=>
 some ((Lt.mk v44 v49 v8.1),v42.2)
 else
 bif decide (v35.1=1) then
 ae (spec_l1Cur__among v35.2 ([(-1:Int),(100001:Int)])) fun v55=>
 some ((Lt.mk s4.2.1 s4.2.2 v55.1),v55.2)
 else
 bif decide (v35.1=2) then
 ae (app s4.2.2 ([(0:Int)])) fun v62=>
 some ((Lt.mk s4.2.1 v62 v8.1),v35.2)
 else
 some ((Lt.mk s4.2.1 s4.2.2 v8.1),v35.2)

def spec_DrawCappedValue(a0:List Int):Option ((List Mt)×(List Int)×Tt×Lt):=
 ae (spec_l1Cur__majorants (la.mk a0 0 0)) fun v15=>
 thenL (ρ:=((List Mt)×(List Int)×Tt×Lt)) (σ:=(List Int)×la) (forN (fun (i5:Nat) (s5:(List Int)×la)=>
 ae (spec_l1Cur__among s5.2 ([(0:Int),(1:Int),(3:Int),(50:Int),(100000:Int),(100000:Int)])) fun v26=>
 ae (app s5.1 ([v26.1])) fun v28=>
 some (.nx (v28,v26.2))) v15.1.length 0 ([],v15.2)) fun s5=>
 ae (spec_l1Cur__one s5.2 20) fun v30=>
 bif v30.1 then
 ae (spec_l1Cur__among v30.2 ([(-1:Int),(0:Int)])) fun v34=>
 ae (app s5.1 ([v34.1])) fun v36=>
 ae (spec_l1Cur__term v34.2) fun v38=>
 ae (spec_l1Cur__one v38.2 12) fun v40=>
 bif v40.1 then
 ae (spec_l1Cur__anyTerm v40.2) fun v42=>
 ae (spec_l1Cur__linear v42.2) fun v47=>
 some (v15.1,v36,v42.1,v47.1)
 else
 ae (spec_l1Cur__linear v40.2) fun v47=>
 some (v15.1,v36,v38.1,v47.1)
 else
 ae (spec_l1Cur__term v30.2) fun v38=>
 ae (spec_l1Cur__one v38.2 12) fun v40=>
 bif v40.1 then
 ae (spec_l1Cur__anyTerm v40.2) fun v42=>
 ae (spec_l1Cur__linear v42.2) fun v47=>
 some (v15.1,s5.1,v42.1,v47.1)
 else
 ae (spec_l1Cur__linear v40.2) fun v47=>
 some (v15.1,s5.1,v38.1,v47.1)

def impl_isLower(a0:Int):Option Bool:=
 bif decide (97≤a0) then
 some (decide (a0≤122))
 else
 some false

def impl_isDigit(a0:Int):Option Bool:=
 bif decide (48≤a0) then
 some (decide (a0≤57))
 else
 some false

def impl_within(a0:Int)(a1:Int)(a2:Int):Option Bool:=
 bif decide (a1≤a0) then
 some (decide (a0≤a2))
 else
 some false

def impl_reserved  :Option (List ByteArray):=
 some ([(⟨#[116,114,117,101]⟩:ByteArray),(⟨#[102,97,108,115,101]⟩:ByteArray),(⟨#[116,114,117,116,104]⟩:ByteArray),(⟨#[98,111,116,104]⟩:ByteArray),(⟨#[101,105,116,104,101,114]⟩:ByteArray),(⟨#[105,102]⟩:ByteArray),(⟨#[97,108,108]⟩:ByteArray),(⟨#[115,111,109,101]⟩:ByteArray)])

def slices_Index_Sstring_string(a0:List ByteArray)(a1:ByteArray):Option Int:=
 thenL (ρ:=Int) (σ:=Unit) (forN (fun (i2:Nat) (s2:Unit)=>
 ae (idx a0 (i2:Int)) fun v14=>
 bif decide (a1=v14) then
 some (.rt (i2:Int))
 else
 some (.nx ())) a0.length 0 ()) fun s2=>
 some (-1:Int)

def slices_Contains_Sstring_string(a0:List ByteArray)(a1:ByteArray):Option Bool:=
 ae (slices_Index_Sstring_string a0 a1) fun v7=>
 some (decide (0≤v7))

def impl_isSymbol(a0:ByteArray):Option Bool:=
 ae (bnd (a0.size:Int)) fun N2=>
 thenL (ρ:=Bool) (σ:=Unit) (forN (fun (i2:Nat) (s2:Unit)=>
 bif decide ((i2:Int)=0) then
 ae (sidx a0 (i2:Int)) fun v14=>
 ae (impl_isLower v14) fun v15=>
 bif v15 then
 ae (sidx a0 (i2:Int)) fun v21=>
 ae (impl_isLower v21) fun v22=>
 bif v22 then
 some (.nx ())
 else
 ae (sidx a0 (i2:Int)) fun v27=>
 ae (impl_isDigit v27) fun v28=>
 bif v28 then
 some (.nx ())
 else
 ae (sidx a0 (i2:Int)) fun v34=>
 bif decide (v34=95) then
 some (.nx ())
 else
 some (.rt false)
 else
 some (.rt false)
 else
 ae (sidx a0 (i2:Int)) fun v21=>
 ae (impl_isLower v21) fun v22=>
 bif v22 then
 some (.nx ())
 else
 ae (sidx a0 (i2:Int)) fun v27=>
 ae (impl_isDigit v27) fun v28=>
 bif v28 then
 some (.nx ())
 else
 ae (sidx a0 (i2:Int)) fun v34=>
 bif decide (v34=95) then
 some (.nx ())
 else
 some (.rt false)) N2 0 ()) fun s2=>
 ae (impl_within (a0.size:Int) 1 6) fun v41=>
 bif v41 then
 ae (impl_reserved ) fun v43=>
 ae (slices_Contains_Sstring_string v43 a0) fun v45=>
 some (!v45)
 else
 some false

def cmp_isNaN_string(a0:ByteArray):Option Bool:=
 some (!(decide (a0=a0)))

def cmp_Compare_string(a0:ByteArray)(a1:ByteArray):Option Int:=
 ae (cmp_isNaN_string a0) fun v8=>
 ae (cmp_isNaN_string a1) fun v10=>
 bif v8 then
 bif v10 then
 some (0:Int)
 else
 some (-1:Int)
 else
 bif v10 then
 some (1:Int)
 else
 bif Op.bytesLess a0.data.toList a1.data.toList then
 some (-1:Int)
 else
 bif decide (a0=a1) then
 some (0:Int)
 else
 some (1:Int)

def cmp_isNaN_int(a0:Int):Option Bool:=
 some (!(decide (a0=a0)))

def cmp_Compare_int(a0:Int)(a1:Int):Option Int:=
 ae (cmp_isNaN_int a0) fun v8=>
 ae (cmp_isNaN_int a1) fun v10=>
 bif v8 then
 bif v10 then
 some (0:Int)
 else
 some (-1:Int)
 else
 bif v10 then
 some (1:Int)
 else
 bif decide (a0<a1) then
 some (-1:Int)
 else
 bif decide (a1<a0) then
 some (1:Int)
 else
 some (0:Int)

def cmp_Or_int(a0:List Int):Option Int:=
 thenL (ρ:=Int) (σ:=Unit) (forN (fun (i3:Nat) (s3:Unit)=>
 ae (idx a0 (i3:Int)) fun v10=>
 bif decide (v10=0) then
 some (.nx ())
 else
 some (.rt v10)) a0.length 0 ()) fun s3=>
 some (0:Int)

def impl_compareMajorants(a0:Mt)(a1:Mt):Option Int:=
 ae (cmp_Compare_string a0.Name a1.Name) fun v9=>
 ae (cmp_Compare_int (a0.Slopes.length:Int) (a1.Slopes.length:Int)) fun v16=>
 ae (cmp_Or_int ([v9,v16])) fun v18=>
 some v18

def impl_IsValidMajorants_1(a0:Int):Option Bool:=
 ae (impl_within a0 0 1000) fun v4=>
 some (!v4)

def slices_IndexFunc_Sint_int(a0:List Int)(a1:Int→Option Bool):Option Int:=
 thenL (ρ:=Int) (σ:=Unit) (forN (fun (i2:Nat) (s2:Unit)=>
 ae (idx a0 (i2:Int)) fun v14=>
 ae (a1 v14) fun v16=>
 bif v16 then
 some (.rt (i2:Int))
 else
 some (.nx ())) a0.length 0 ()) fun s2=>
 some (-1:Int)

def slices_ContainsFunc_Sint_int(a0:List Int)(a1:Int→Option Bool):Option Bool:=
 ae (slices_IndexFunc_Sint_int a0 a1) fun v7=>
 some (decide (0≤v7))

def impl_IsValidMajorants(a0:List Mt):Option Bool:=
 thenL (ρ:=Bool) (σ:=Unit) (forN (fun (i2:Nat) (s2:Unit)=>
 ae (idx a0 (i2:Int)) fun v10=>
 ae (impl_isSymbol v10.Name) fun v14=>
 bif v14 then
 bif decide (4<(v10.Slopes.length:Int)) then
 some (.rt false)
 else
 ae (impl_within v10.Constant 0 100000) fun v25=>
 bif v25 then
 bif decide (0<(i2:Int)) then
 ae (idx a0 (IntKind.i64.wrap ((i2:Int)-1))) fun v35=>
 ae (impl_compareMajorants v35 v10) fun v38=>
 bif decide (0≤v38) then
 some (.rt false)
 else
 ae (slices_ContainsFunc_Sint_int v10.Slopes (fun y0=>impl_IsValidMajorants_1 y0)) fun v44=>
 bif v44 then
 some (.rt false)
 else
 some (.nx ())
 else
 ae (slices_ContainsFunc_Sint_int v10.Slopes (fun y0=>impl_IsValidMajorants_1 y0)) fun v44=>
 bif v44 then
 some (.rt false)
 else
 some (.nx ())
 else
 some (.rt false)
 else
 some (.rt false)) a0.length 0 ()) fun s2=>
 some (decide ((a0.length:Int)≤8))

def impl_CappedValue_1(a0:Int):Option Bool:=
 ae (impl_within a0 0 100000) fun v4=>
 some (!v4)

def impl_sizeN:Nat→Tt→Option Int
 | 0,_=>none
 | n+1,a0=>
 thenL (ρ:=Int) (σ:=Int) (forN (fun (i3:Nat) (s3:Int)=>
 ae (idx a0.Args (i3:Int)) fun v11=>
 bif decide (30<s3) then
 some (.rt s3)
 else
 ae (impl_sizeN n v11) fun v18=>
 some (.nx (IntKind.i64.wrap (s3+v18)))) a0.Args.length 0 (1:Int)) fun s3=>
 some s3
def impl_size(a0:Tt):Option Int:=lim fun n=>impl_sizeN n a0

def impl_depthN:Nat→Tt→Option Int
 | 0,_=>none
 | n+1,a0=>
 thenL (ρ:=Int) (σ:=Int) (forN (fun (i3:Nat) (s3:Int)=>
 ae (idx a0.Args (i3:Int)) fun v11=>
 ae (impl_depthN n v11) fun v15=>
 some (.nx (max s3 v15))) a0.Args.length 0 (0:Int)) fun s3=>
 some (IntKind.i64.wrap (s3+1))
def impl_depth(a0:Tt):Option Int:=lim fun n=>impl_depthN n a0

def impl_isSmall(a0:Tt):Option Bool:=
 ae (impl_size a0) fun v4=>
 bif decide (v4≤30) then
 ae (impl_depth a0) fun v8=>
 some (decide (v8≤8))
 else
 some false

def impl_isUpper(a0:Int):Option Bool:=
 bif decide (65≤a0) then
 some (decide (a0≤90))
 else
 some false

def impl_isVariable(a0:ByteArray):Option Bool:=
 ae (bnd (a0.size:Int)) fun N2=>
 thenL (ρ:=Bool) (σ:=Unit) (forN (fun (i2:Nat) (s2:Unit)=>
 bif decide ((i2:Int)=0) then
 ae (sidx a0 (i2:Int)) fun v14=>
 ae (impl_isUpper v14) fun v15=>
 bif v15 then
 bif decide (0<(i2:Int)) then
 ae (sidx a0 (i2:Int)) fun v24=>
 ae (impl_isLower v24) fun v25=>
 bif v25 then
 some (.nx ())
 else
 ae (sidx a0 (i2:Int)) fun v31=>
 ae (impl_isDigit v31) fun v32=>
 bif v32 then
 some (.nx ())
 else
 some (.rt false)
 else
 some (.nx ())
 else
 some (.rt false)
 else
 bif decide (0<(i2:Int)) then
 ae (sidx a0 (i2:Int)) fun v24=>
 ae (impl_isLower v24) fun v25=>
 bif v25 then
 some (.nx ())
 else
 ae (sidx a0 (i2:Int)) fun v31=>
 ae (impl_isDigit v31) fun v32=>
 bif v32 then
 some (.nx ())
 else
 some (.rt false)
 else
 some (.nx ())) N2 0 ()) fun s2=>
 ae (impl_within (a0.size:Int) 1 4) fun v39=>
 some v39

def slices_IndexFunc_Simpl_Term_impl_Term(a0:List Tt)(a1:Tt→Option Bool):Option Int:=
 thenL (ρ:=Int) (σ:=Unit) (forN (fun (i2:Nat) (s2:Unit)=>
 ae (idx a0 (i2:Int)) fun v14=>
 ae (a1 v14) fun v16=>
 bif v16 then
 some (.rt (i2:Int))
 else
 some (.nx ())) a0.length 0 ()) fun s2=>
 some (-1:Int)

def slices_ContainsFunc_Simpl_Term_impl_Term(a0:List Tt)(a1:Tt→Option Bool):Option Bool:=
 ae (slices_IndexFunc_Simpl_Term_impl_Term a0 a1) fun v7=>
 some (decide (0≤v7))

mutual
def impl_hasNamesN:Nat→Tt→Option Bool
 | 0,_=>none
 | n+1,a0=>
 ae (impl_isVariable a0.Name) fun v5=>
 bif v5 then
 some (decide ((a0.Args.length:Int)=0))
 else
 ae (impl_isSymbol a0.Name) fun v12=>
 bif v12 then
 bif decide ((a0.Args.length:Int)≤4) then
 ae (slices_ContainsFunc_Simpl_Term_impl_Term a0.Args (fun y0=>impl_hasNames_1N n y0)) fun v22=>
 some (!v22)
 else
 some false
 else
 some false
def impl_hasNames_1N:Nat→Tt→Option Bool
 | 0,_=>none
 | n+1,a0=>
 ae (impl_hasNamesN n a0) fun v4=>
 some (!v4)
end
def impl_hasNames(a0:Tt):Option Bool:=lim fun n=>impl_hasNamesN n a0
def impl_hasNames_1(a0:Tt):Option Bool:=lim fun n=>impl_hasNames_1N n a0

def impl_IsValidTerm(a0:Tt):Option Bool:=
 ae (impl_isSmall a0) fun v4=>
 bif v4 then
 ae (impl_hasNames a0) fun v7=>
 some v7
 else
 some false

def impl_IsValidLinear(a0:Lt):Option Bool:=
 bif decide (8<(a0.Vars.length:Int)) then
 some false
 else
 bif decide ((a0.Slopes.length:Int)=(a0.Vars.length:Int)) then
 ae (impl_within a0.Constant 0 100000) fun v21=>
 bif v21 then
 thenL (ρ:=Bool) (σ:=Unit) (forN (fun (i4:Nat) (s4:Unit)=>
 ae (idx a0.Vars (i4:Int)) fun v30=>
 ae (impl_isVariable v30) fun v33=>
 bif v33 then
 bif decide (0<(i4:Int)) then
 ae (idx a0.Vars (IntKind.i64.wrap ((i4:Int)-1))) fun v44=>
 bif Op.bytesLess v30.data.toList v44.data.toList||decide (v30=v44) then
 some (.rt false)
 else
 ae (idx a0.Slopes (i4:Int)) fun v53=>
 ae (impl_within v53 1 1000) fun v55=>
 bif v55 then
 some (.nx ())
 else
 some (.rt false)
 else
 ae (idx a0.Slopes (i4:Int)) fun v53=>
 ae (impl_within v53 1 1000) fun v55=>
 bif v55 then
 some (.nx ())
 else
 some (.rt false)
 else
 some (.rt false)) a0.Vars.length 0 ()) fun s4=>
 some true
 else
 some false
 else
 some false

def impl_isVar(a0:Tt):Option Bool:=
 ae (sidx a0.Name (0:Int)) fun v5=>
 ae (impl_isUpper v5) fun v6=>
 some v6

def cmp_Less_string(a0:ByteArray)(a1:ByteArray):Option Bool:=
 ae (cmp_isNaN_string a0) fun v6=>
 bif v6 then
 ae (cmp_isNaN_string a1) fun v9=>
 bif v9 then
 some (Op.bytesLess a0.data.toList a1.data.toList)
 else
 some true
 else
 some (Op.bytesLess a0.data.toList a1.data.toList)

def slices_isNaN_string(a0:ByteArray):Option Bool:=
 some (!(decide (a0=a0)))

def slices_BinarySearch_Sstring_string(a0:List ByteArray)(a1:ByteArray):Option (Int×Bool):=
 thenL (ρ:=(Int×Bool)) (σ:=Int×Int) (lim fun n3=>whileN (fun (s3:Int×Int)=>
 bif decide (s3.1<s3.2) then
 ae (shr .u64 (IntKind.u64.wrap (IntKind.i64.wrap (s3.1+s3.2))) (1:Int)) fun v20=>
 ae (idx a0 (IntKind.i64.wrap v20)) fun v24=>
 ae (cmp_Less_string v24 a1) fun v27=>
 bif v27 then
 some (.nx (IntKind.i64.wrap ((IntKind.i64.wrap v20)+1),s3.2))
 else
 some (.nx (s3.1,IntKind.i64.wrap v20))
 else
 some (.br s3)) n3 ((0:Int),(a0.length:Int))) fun s3=>
 bif decide (s3.1<(a0.length:Int)) then
 ae (idx a0 s3.1) fun v38=>
 bif decide (v38=a1) then
 some (s3.1,true)
 else
 ae (idx a0 s3.1) fun v45=>
 ae (slices_isNaN_string v45) fun v47=>
 bif v47 then
 ae (slices_isNaN_string a1) fun v50=>
 some (s3.1,v50)
 else
 some (s3.1,false)
 else
 some (s3.1,false)

def impl_Linear__slope(a0:Lt)(a1:ByteArray):Option Int:=
 ae (slices_BinarySearch_Sstring_string a0.Vars a1) fun v11=>
 bif v11.2 then
 ae (idx a0.Slopes v11.1) fun v19=>
 some v19
 else
 some (0:Int)

def impl_majorant_1(a0:Mt)(b0:Tt):Option Bool:=
 bif decide (a0.Name=b0.Name) then
 some (decide ((a0.Slopes.length:Int)=(b0.Args.length:Int)))
 else
 some false

def slices_IndexFunc_Simpl_Majorant_impl_Majorant(a0:List Mt)(a1:Mt→Option Bool):Option Int:=
 thenL (ρ:=Int) (σ:=Unit) (forN (fun (i2:Nat) (s2:Unit)=>
 ae (idx a0 (i2:Int)) fun v14=>
 ae (a1 v14) fun v16=>
 bif v16 then
 some (.rt (i2:Int))
 else
 some (.nx ())) a0.length 0 ()) fun s2=>
 some (-1:Int)

def impl_majorant(a0:List Mt)(a1:Tt):Option Int:=
 ae (slices_IndexFunc_Simpl_Majorant_impl_Majorant a0 (fun y0=>impl_majorant_1 y0 a1)) fun v7=>
 some v7

def impl_cappedValueN:Nat→(List Mt)→(List Int)→Tt→Lt→Option (Int×Bool)
 | 0,_,_,_,_=>none
 | n+1,a0,a1,a2,a3=>
 ae (impl_isVar a2) fun v17=>
 bif v17 then
 ae (impl_Linear__slope a3 a2.Name) fun v21=>
 some (v21,true)
 else
 ae (impl_majorant a0 a2) fun v24=>
 bif decide (v24<0) then
 some ((0:Int),false)
 else
 ae (idx a0 v24) fun v29=>
 thenL (ρ:=(Int×Bool)) (σ:=Int) (forN (fun (i8:Nat) (s8:Int)=>
 ae (idx a2.Args (i8:Int)) fun v38=>
 ae (impl_cappedValueN n a0 a1 v38 a3) fun v45=>
 bif v45.2 then
 ae (idx a0 v24) fun v54=>
 ae (idx v54.Slopes (i8:Int)) fun v58=>
 some (.nx (IntKind.i64.wrap (s8+(IntKind.i64.wrap (v45.1*v58)))))
 else
 some (.rt ((0:Int),false))) a2.Args.length 0 v29.Constant) fun s8=>
 ae (idx a1 v24) fun v66=>
 some (min s8 v66,true)
def impl_cappedValue(a0:List Mt)(a1:List Int)(a2:Tt)(a3:Lt):Option (Int×Bool):=lim fun n=>impl_cappedValueN n a0 a1 a2 a3

def impl_CappedValue(a0:List Mt)(a1:List Int)(a2:Tt)(a3:Lt):Option (Int×Bool):=
 ae (impl_IsValidMajorants a0) fun v11=>
 bif v11 then
 bif decide ((a1.length:Int)=(a0.length:Int)) then
 ae (slices_ContainsFunc_Sint_int a1 (fun y0=>impl_CappedValue_1 y0)) fun v22=>
 bif v22 then
 some ((0:Int),false)
 else
 ae (impl_IsValidTerm a2) fun v26=>
 bif v26 then
 ae (impl_IsValidLinear a3) fun v31=>
 bif v31 then
 ae (impl_cappedValue a0 a1 a2 a3) fun v38=>
 some (v38.1,v38.2)
 else
 some ((0:Int),false)
 else
 some ((0:Int),false)
 else
 some ((0:Int),false)
 else
 some ((0:Int),false)

def impl_Linear__add(a0:Lt)(a1:GMap Int)(a2:Int):Option (Int×(GMap Int)):=
 thenL (ρ:=(Int×(GMap Int))) (σ:=(GMap Int)) (forN (fun (i2:Nat) (s2:(GMap Int))=>
 ae (idx a0.Vars (i2:Int)) fun v15=>
 ae (idx a0.Slopes (i2:Int)) fun v24=>
 some (.nx (GMap.put s2 v15 (IntKind.i64.wrap ((GMap.get s2 v15 (0:Int))+(IntKind.i64.wrap (a2*v24))))))) a0.Vars.length 0 a1) fun s2=>
 some (IntKind.i64.wrap (a2*a0.Constant),s2)

def sortB(a:List ByteArray):List ByteArray:=((a.map fun x=>x.data.toList).mergeSort fun x y=>decide (x≤y)).map fun l=>⟨l.toArray⟩
def slices_SortS(a0:List ByteArray):Option (Unit×List ByteArray):=if a0.length<4611686018427387904 then some ((),sortB a0) else none

def impl_linear(a0:GMap Int)(a1:Int):Option (Lt×Bool):=
 if a0.es.length≤1073741824 then
 ae (slices_SortS ((a0.es.filter fun e=>!decide (e.2.1=0)).map fun e=>e.1)) fun v=>
 ae (impl_IsValidLinear (Lt.mk v.2 (v.2.map fun k=>GMap.get a0 k 0) a1)) fun b=>
 if b then some (Lt.mk v.2 (v.2.map fun k=>GMap.get a0 k 0) a1,true) else some (Lt.mk [] [] 0,false)
 else none
def impl_linearR(ord:List (ByteArray×Int×Nat))(a0:GMap Int)(a1:Int):Option (Lt×Bool):=
 thenL (ρ:=(Lt×Bool)) (σ:=(List ByteArray)) (forN (ordN (fun (e3:ByteArray×Int×Nat) (s3:(List ByteArray))=>
 bif decide (e3.2.1=0) then
 some (.nx s3)
 else
 ae (app s3 ([e3.1])) fun v26=>
 some (.nx v26)) ord) ord.length 0 ([])) fun s3=>
 ae (slices_SortS s3) fun v30=>
 thenL (ρ:=(Lt×Bool)) (σ:=(List Int)) (forN (fun (i9:Nat) (s9:(List Int))=>
 ae (idx v30.2 (i9:Int)) fun v36=>
 ae (idx v30.2 (i9:Int)) fun v37=>
 ae (app s9 ([GMap.get a0 v37 (0:Int)])) fun v44=>
 some (.nx v44)) v30.2.length 0 ([])) fun s9=>
 ae (impl_IsValidLinear (Lt.mk v30.2 s9 a1)) fun v48=>
 bif v48 then
 some ((Lt.mk v30.2 s9 a1),true)
 else
 some ((Lt.mk ([]) ([]) 0),false)

def impl_boundOfN:Nat→(List Mt)→Tt→Option (Lt×Bool)
 | 0,_,_=>none
 | n+1,a0,a1=>
 ae (impl_isVar a1) fun v14=>
 bif v14 then
 some ((Lt.mk ([a1.Name]) ([(1:Int)]) (0:Int)),true)
 else
 ae (impl_majorant a0 a1) fun v22=>
 bif decide (v22<0) then
 some ((Lt.mk ([]) ([]) 0),false)
 else
 ae (idx a0 v22) fun v29=>
 thenL (ρ:=(Lt×Bool)) (σ:=Int×(GMap Int)) (forN (fun (i9:Nat) (s9:Int×(GMap Int))=>
 ae (idx a1.Args (i9:Int)) fun v38=>
 ae (impl_boundOfN n a0 v38) fun v43=>
 bif v43.2 then
 ae (idx a0 v22) fun v54=>
 ae (idx v54.Slopes (i9:Int)) fun v58=>
 ae (impl_Linear__add v43.1 s9.2 v58) fun v60=>
 some (.nx (IntKind.i64.wrap (s9.1+v60.1),v60.2))
 else
 some (.rt ((Lt.mk ([]) ([]) 0),false))) a1.Args.length 0 (v29.Constant,(GMap.empty:GMap Int))) fun s9=>
 ae (impl_linear s9.2 s9.1) fun v65=>
 some (v65.1,v65.2)
def impl_boundOf(a0:List Mt)(a1:Tt):Option (Lt×Bool):=lim fun n=>impl_boundOfN n a0 a1

def impl_MajorantOf(a0:List Mt)(a1:Tt):Option (Lt×Bool):=
 ae (impl_IsValidMajorants a0) fun v7=>
 bif v7 then
 ae (impl_IsValidTerm a1) fun v11=>
 bif v11 then
 ae (impl_boundOf a0 a1) fun v17=>
 some (v17.1,v17.2)
 else
 some ((Lt.mk ([]) ([]) 0),false)
 else
 some ((Lt.mk ([]) ([]) 0),false)

def spec_l1In(a0:Int)(a1:Int)(a2:Int):Option Bool:=
 bif decide (a1≤a0) then
 some (decide (a0≤a2))
 else
 some false

def spec_l2Small(a0:Int):Option Bool:=
 bif decide (97≤a0) then
 bif decide (a0≤122) then
 some true
 else
 bif decide (48≤a0) then
 some (decide (a0≤57))
 else
 some false
 else
 bif decide (48≤a0) then
 some (decide (a0≤57))
 else
 some false

def spec_l2Symbol(a0:ByteArray):Option Bool:=
 ae (spec_l1In (a0.size:Int) 1 6) fun v6=>
 bif v6 then
 ae (sidx a0 (0:Int)) fun v10=>
 bif decide (v10<97) then
 some false
 else
 ae (sidx a0 (0:Int)) fun v15=>
 bif decide (122<v15) then
 some false
 else
 bif decide (a0=(⟨#[116,114,117,101]⟩:ByteArray)) then
 some false
 else
 bif decide (a0=(⟨#[102,97,108,115,101]⟩:ByteArray)) then
 some false
 else
 bif decide (a0=(⟨#[116,114,117,116,104]⟩:ByteArray)) then
 some false
 else
 bif decide (a0=(⟨#[98,111,116,104]⟩:ByteArray)) then
 some false
 else
 bif decide (a0=(⟨#[101,105,116,104,101,114]⟩:ByteArray)) then
 some false
 else
 bif decide (a0=(⟨#[105,102]⟩:ByteArray)) then
 some false
 else
 bif decide (a0=(⟨#[97,108,108]⟩:ByteArray)) then
 some false
 else
 bif decide (a0=(⟨#[115,111,109,101]⟩:ByteArray)) then
 some false
 else
 ae (bnd (a0.size:Int)) fun N14=>
 thenL (ρ:=Bool) (σ:=Unit) (forN (fun (i14:Nat) (s14:Unit)=>
 ae (sidx a0 (i14:Int)) fun v36=>
 ae (spec_l2Small v36) fun v37=>
 bif v37 then
 some (.nx ())
 else
 ae (sidx a0 (i14:Int)) fun v42=>
 bif decide (v42=95) then
 some (.nx ())
 else
 some (.rt false)) (N14-1) 1 ()) fun s14=>
 some true
 else
 some false

def spec_l25List(a0:List Mt):Option Bool:=
 bif decide (8<(a0.length:Int)) then
 some false
 else
 thenL (ρ:=Bool) (σ:=Unit) (forN (fun (i4:Nat) (s4:Unit)=>
 ae (idx a0 (i4:Int)) fun v17=>
 ae (spec_l2Symbol v17.Name) fun v21=>
 bif v21 then
 bif decide (4<(v17.Slopes.length:Int)) then
 some (.rt false)
 else
 ae (spec_l1In v17.Constant 0 100000) fun v32=>
 bif v32 then
 thenL (ρ:=(Flow Bool Unit)) (σ:=Unit) (forN (fun (i10:Nat) (s10:Unit)=>
 ae (idx v17.Slopes (i10:Int)) fun v45=>
 ae (spec_l1In v45 0 1000) fun v47=>
 bif v47 then
 some (.nx ())
 else
 some (.rt (.rt false))) v17.Slopes.length 0 ()) fun s10=>
 bif decide (0<(i4:Int)) then
 ae (idx a0 (IntKind.i64.wrap ((i4:Int)-1))) fun v55=>
 bif Op.bytesLess v55.Name.data.toList v17.Name.data.toList||decide (v55.Name=v17.Name) then
 ae (idx a0 (IntKind.i64.wrap ((i4:Int)-1))) fun v65=>
 bif decide (v65.Name=v17.Name) then
 ae (idx a0 (IntKind.i64.wrap ((i4:Int)-1))) fun v75=>
 bif decide ((v17.Slopes.length:Int)≤(v75.Slopes.length:Int)) then
 some (.rt false)
 else
 some (.nx ())
 else
 some (.nx ())
 else
 some (.rt false)
 else
 some (.nx ())
 else
 some (.rt false)
 else
 some (.rt false)) a0.length 0 ()) fun s4=>
 some true

def spec_l2ManyN:Nat→Tt→Int→Option Int
 | 0,_,_=>none
 | n+1,a0,a1=>
 thenL (ρ:=Int) (σ:=Int) (forN (fun (i3:Nat) (s3:Int)=>
 bif decide (s3≤a1) then
 ae (idx a0.Args (i3:Int)) fun v23=>
 ae (spec_l2ManyN n v23 (IntKind.i64.wrap (a1-s3))) fun v28=>
 some (.nx (IntKind.i64.wrap (s3+v28)))
 else
 some (.rt s3)) a0.Args.length 0 (1:Int)) fun s3=>
 some s3
def spec_l2Many(a0:Tt)(a1:Int):Option Int:=lim fun n=>spec_l2ManyN n a0 a1

def spec_l1Most(a0:Int)(a1:Int):Option Int:=
 bif decide (a1<a0) then
 some a0
 else
 some a1

def spec_l2DepthN:Nat→Tt→Option Int
 | 0,_=>none
 | n+1,a0=>
 thenL (ρ:=Int) (σ:=Int) (forN (fun (i3:Nat) (s3:Int)=>
 ae (idx a0.Args (i3:Int)) fun v16=>
 ae (spec_l2DepthN n v16) fun v18=>
 ae (spec_l1Most s3 v18) fun v19=>
 some (.nx v19)) a0.Args.length 0 (0:Int)) fun s3=>
 some (IntKind.i64.wrap (s3+1))
def spec_l2Depth(a0:Tt):Option Int:=lim fun n=>spec_l2DepthN n a0

def spec_l2Fits(a0:Tt):Option Bool:=
 ae (spec_l2Many a0 30) fun v4=>
 bif decide (v4≤30) then
 ae (spec_l2Depth a0) fun v8=>
 some (decide (v8≤8))
 else
 some false

def spec_l2Var(a0:ByteArray):Option Bool:=
 ae (spec_l1In (a0.size:Int) 1 4) fun v6=>
 bif v6 then
 ae (sidx a0 (0:Int)) fun v10=>
 bif decide (v10<65) then
 some false
 else
 ae (sidx a0 (0:Int)) fun v15=>
 bif decide (90<v15) then
 some false
 else
 ae (bnd (a0.size:Int)) fun N4=>
 thenL (ρ:=Bool) (σ:=Unit) (forN (fun (i4:Nat) (s4:Unit)=>
 ae (sidx a0 (i4:Int)) fun v26=>
 ae (spec_l2Small v26) fun v27=>
 bif v27 then
 some (.nx ())
 else
 some (.rt false)) (N4-1) 1 ()) fun s4=>
 some true
 else
 some false

def spec_l2NodesN:Nat→Tt→Option Bool
 | 0,_=>none
 | n+1,a0=>
 ae (spec_l2Var a0.Name) fun v6=>
 bif v6 then
 some (decide ((a0.Args.length:Int)=0))
 else
 ae (spec_l2Symbol a0.Name) fun v13=>
 bif v13 then
 bif decide (4<(a0.Args.length:Int)) then
 some false
 else
 thenL (ρ:=Bool) (σ:=Unit) (forN (fun (i6:Nat) (s6:Unit)=>
 ae (idx a0.Args (i6:Int)) fun v31=>
 ae (spec_l2NodesN n v31) fun v33=>
 bif v33 then
 some (.nx ())
 else
 some (.rt false)) a0.Args.length 0 ()) fun s6=>
 some true
 else
 some false
def spec_l2Nodes(a0:Tt):Option Bool:=lim fun n=>spec_l2NodesN n a0

def spec_l2Good(a0:Tt):Option Bool:=
 ae (spec_l2Fits a0) fun v4=>
 bif v4 then
 ae (spec_l2Nodes a0) fun v7=>
 some v7
 else
 some false

def spec_l25Linear(a0:Lt):Option Bool:=
 bif decide (8<(a0.Vars.length:Int)) then
 some false
 else
 bif decide ((a0.Slopes.length:Int)=(a0.Vars.length:Int)) then
 ae (spec_l1In a0.Constant 0 100000) fun v20=>
 bif v20 then
 thenL (ρ:=Bool) (σ:=Unit) (forN (fun (i4:Nat) (s4:Unit)=>
 ae (idx a0.Vars (i4:Int)) fun v33=>
 ae (spec_l2Var v33) fun v35=>
 bif v35 then
 ae (idx a0.Slopes (i4:Int)) fun v41=>
 ae (spec_l1In v41 1 1000) fun v43=>
 bif v43 then
 bif decide (0<(i4:Int)) then
 ae (idx a0.Vars (IntKind.i64.wrap ((i4:Int)-1))) fun v54=>
 ae (idx a0.Vars (i4:Int)) fun v59=>
 bif Op.bytesLess v54.data.toList v59.data.toList then
 some (.nx ())
 else
 some (.rt false)
 else
 some (.nx ())
 else
 some (.rt false)
 else
 some (.rt false)) a0.Vars.length 0 ()) fun s4=>
 some true
 else
 some false
 else
 some false

def spec_l25Slope(a0:Lt)(a1:ByteArray):Option Int:=
 thenL (ρ:=Int) (σ:=Unit) (forN (fun (i2:Nat) (s2:Unit)=>
 ae (idx a0.Vars (i2:Int)) fun v16=>
 bif decide (v16=a1) then
 ae (idx a0.Slopes (i2:Int)) fun v23=>
 some (.rt v23)
 else
 some (.nx ())) a0.Vars.length 0 ()) fun s2=>
 some (0:Int)

def spec_l25Find(a0:List Mt)(a1:ByteArray)(a2:Int):Option Int:=
 thenL (ρ:=Int) (σ:=Unit) (forN (fun (i2:Nat) (s2:Unit)=>
 ae (idx a0 (i2:Int)) fun v16=>
 bif decide (v16.Name=a1) then
 ae (idx a0 (i2:Int)) fun v24=>
 bif decide ((v24.Slopes.length:Int)=a2) then
 some (.rt (i2:Int))
 else
 some (.nx ())
 else
 some (.nx ())) a0.length 0 ()) fun s2=>
 some (-1:Int)

def spec_l1Least(a0:Int)(a1:Int):Option Int:=
 bif decide (a0<a1) then
 some a0
 else
 some a1

def spec_l25ValueN:Nat→(List Mt)→(List Int)→Tt→Lt→Option (Int×Bool)
 | 0,_,_,_,_=>none
 | n+1,a0,a1,a2,a3=>
 ae (spec_l2Var a2.Name) fun v17=>
 bif v17 then
 ae (spec_l25Slope a3 a2.Name) fun v21=>
 some (v21,true)
 else
 ae (spec_l25Find a0 a2.Name (a2.Args.length:Int)) fun v28=>
 bif decide (v28<0) then
 some ((0:Int),false)
 else
 ae (idx a0 v28) fun v33=>
 thenL (ρ:=(Int×Bool)) (σ:=Int) (forN (fun (i8:Nat) (s8:Int)=>
 ae (idx a2.Args (i8:Int)) fun v49=>
 ae (spec_l25ValueN n a0 a1 v49 a3) fun v52=>
 bif v52.2 then
 ae (idx a0 v28) fun v60=>
 ae (idx v60.Slopes (i8:Int)) fun v64=>
 some (.nx (IntKind.i64.wrap (s8+(IntKind.i64.wrap (v64*v52.1)))))
 else
 some (.rt ((0:Int),false))) a2.Args.length 0 v33.Constant) fun s8=>
 ae (idx a1 v28) fun v72=>
 ae (spec_l1Least s8 v72) fun v74=>
 some (v74,true)
def spec_l25Value(a0:List Mt)(a1:List Int)(a2:Tt)(a3:Lt):Option (Int×Bool):=lim fun n=>spec_l25ValueN n a0 a1 a2 a3

def spec_CappedValue(a0:List Mt)(a1:List Int)(a2:Tt)(a3:Lt):Option (Int×Bool):=
 ae (spec_l25List a0) fun v12=>
 bif v12 then
 bif decide ((a1.length:Int)=(a0.length:Int)) then
 ae (spec_l2Good a2) fun v23=>
 bif v23 then
 ae (spec_l25Linear a3) fun v28=>
 bif v28 then
 thenL (ρ:=(Int×Bool)) (σ:=Unit) (forN (fun (i4:Nat) (s4:Unit)=>
 ae (idx a1 (i4:Int)) fun v39=>
 ae (spec_l1In v39 0 100000) fun v41=>
 bif v41 then
 some (.nx ())
 else
 some (.rt ((0:Int),false))) a1.length 0 ()) fun s4=>
 ae (spec_l25Value a0 a1 a2 a3) fun v47=>
 some (v47.1,v47.2)
 else
 some ((0:Int),false)
 else
 some ((0:Int),false)
 else
 some ((0:Int),false)
 else
 some ((0:Int),false)

def spec_l2Put(a0:List ByteArray)(a1:ByteArray):Option (List ByteArray):=
 thenL (ρ:=(List ByteArray)) (σ:=Unit) (forN (fun (i2:Nat) (s2:Unit)=>
 ae (idx a0 (i2:Int)) fun v13=>
 bif Op.bytesLess v13.data.toList a1.data.toList then
 some (.nx ())
 else
 ae (idx a0 (i2:Int)) fun v27=>
 bif decide (v27=a1) then
 some (.rt a0)
 else
 ae (slc a0 (0:Int) (i2:Int)) fun v36=>
 ae (app ([]) v36) fun v37=>
 ae (app v37 ([a1])) fun v40=>
 ae (slc a0 (i2:Int) (a0.length:Int)) fun v43=>
 ae (app v40 v43) fun v44=>
 some (.rt v44)) a0.length 0 ()) fun s2=>
 ae (slc a0 (0:Int) ((a0.length:Nat):Int)) fun v36=>
 ae (app ([]) v36) fun v37=>
 ae (app v37 ([a1])) fun v40=>
 ae (slc a0 ((a0.length:Nat):Int) (a0.length:Int)) fun v43=>
 ae (app v40 v43) fun v44=>
 some v44

def spec_l25Names(a0:Lt)(a1:Lt):Option (List ByteArray):=
 thenL (ρ:=(List ByteArray)) (σ:=(List ByteArray)) (forN (fun (i3:Nat) (s3:(List ByteArray))=>
 ae (idx a0.Vars (i3:Int)) fun v20=>
 ae (spec_l2Put s3 v20) fun v22=>
 some (.nx v22)) a0.Vars.length 0 ([])) fun s3=>
 thenL (ρ:=(List ByteArray)) (σ:=(List ByteArray)) (forN (fun (i7:Nat) (s7:(List ByteArray))=>
 ae (idx a1.Vars (i7:Int)) fun v34=>
 ae (spec_l2Put s7 v34) fun v36=>
 some (.nx v36)) a1.Vars.length 0 s3) fun s7=>
 some s7

def spec_l25Plus(a0:Lt)(a1:Lt)(a2:Int):Option Lt:=
 ae (spec_l25Names a0 a1) fun v23=>
 thenL (ρ:=Lt) (σ:=(List ByteArray)×(List Int)) (forN (fun (i4:Nat) (s4:(List ByteArray)×(List Int))=>
 ae (idx v23 (i4:Int)) fun v33=>
 ae (spec_l25Slope a0 v33) fun v35=>
 ae (idx v23 (i4:Int)) fun v40=>
 ae (spec_l25Slope a1 v40) fun v42=>
 bif decide (0<(IntKind.i64.wrap (v35+(IntKind.i64.wrap (a2*v42))))) then
 ae (idx v23 (i4:Int)) fun v51=>
 ae (app s4.1 ([v51])) fun v54=>
 ae (app s4.2 ([IntKind.i64.wrap (v35+(IntKind.i64.wrap (a2*v42)))])) fun v60=>
 some (.nx (v54,v60))
 else
 some (.nx (s4.1,s4.2))) v23.length 0 ([],[])) fun s4=>
 some (Lt.mk s4.1 s4.2 (IntKind.i64.wrap (a0.Constant+(IntKind.i64.wrap (a2*a1.Constant)))))

def spec_l25BoundN:Nat→(List Mt)→Tt→Option (Lt×Bool)
 | 0,_,_=>none
 | n+1,a0,a1=>
 ae (spec_l2Var a1.Name) fun v13=>
 bif v13 then
 some ((Lt.mk ([a1.Name]) ([(1:Int)]) (0:Int)),true)
 else
 ae (spec_l25Find a0 a1.Name (a1.Args.length:Int)) fun v25=>
 bif decide (v25<0) then
 some ((Lt.mk ([]) ([]) 0),false)
 else
 ae (idx a0 v25) fun v31=>
 thenL (ρ:=(Lt×Bool)) (σ:=Int×(List ByteArray)×(List Int)) (forN (fun (i8:Nat) (s8:Int×(List ByteArray)×(List Int))=>
 ae (idx a1.Args (i8:Int)) fun v47=>
 ae (spec_l25BoundN n a0 v47) fun v49=>
 bif v49.2 then
 ae (idx a0 v25) fun v59=>
 ae (idx v59.Slopes (i8:Int)) fun v63=>
 ae (spec_l25Plus (Lt.mk s8.2.1 s8.2.2 s8.1) v49.1 v63) fun v65=>
 some (.nx (v65.Constant,v65.Vars,v65.Slopes))
 else
 some (.rt ((Lt.mk ([]) ([]) 0),false))) a1.Args.length 0 (v31.Constant,[],[])) fun s8=>
 ae (spec_l25Linear (Lt.mk s8.2.1 s8.2.2 s8.1)) fun v68=>
 some ((Lt.mk s8.2.1 s8.2.2 s8.1),v68)
def spec_l25Bound(a0:List Mt)(a1:Tt):Option (Lt×Bool):=lim fun n=>spec_l25BoundN n a0 a1

def spec_MajorantOf(a0:List Mt)(a1:Tt):Option (Lt×Bool):=
 ae (spec_l25List a0) fun v9=>
 bif v9 then
 ae (spec_l2Good a1) fun v13=>
 bif v13 then
 ae (spec_l25Bound a0 a1) fun v20=>
 bif v20.2 then
 some (v20.1,true)
 else
 some ((Lt.mk ([]) ([]) 0),false)
 else
 some ((Lt.mk ([]) ([]) 0),false)
 else
 some ((Lt.mk ([]) ([]) 0),false)

def impl_EvaluateLinear_1(a0:Int):Option Bool:=
 ae (impl_within a0 0 100000) fun v4=>
 some (!v4)

def impl_EvaluateLinear(a0:Lt)(a1:List Int):Option (Int×Bool):=
 ae (impl_IsValidLinear a0) fun v10=>
 bif v10 then
 bif decide ((a1.length:Int)=(a0.Vars.length:Int)) then
 ae (slices_ContainsFunc_Sint_int a1 (fun y0=>impl_EvaluateLinear_1 y0)) fun v22=>
 bif v22 then
 some ((0:Int),false)
 else
 thenL (ρ:=(Int×Bool)) (σ:=Int) (forN (fun (i5:Nat) (s5:Int)=>
 ae (idx a1 (i5:Int)) fun v31=>
 ae (idx a0.Slopes (i5:Int)) fun v38=>
 some (.nx (IntKind.i64.wrap (s5+(IntKind.i64.wrap (v31*v38)))))) a1.length 0 a0.Constant) fun s5=>
 some (s5,true)
 else
 some ((0:Int),false)
 else
 some ((0:Int),false)

def FnMajorants(a0:List Int):Option Bool:=
 ae (vBig a0) fun v22=>
 bif v22 then
 some true
 else
 ae (spec_DrawCappedValue a0) fun v25=>
 ae (impl_CappedValue v25.1 v25.2.1 v25.2.2.1 v25.2.2.2) fun v35=>
 ae (impl_MajorantOf v25.1 v25.2.2.1) fun v41=>
 ae (spec_CappedValue v25.1 v25.2.1 v25.2.2.1 v25.2.2.2) fun v49=>
 ae (spec_MajorantOf v25.1 v25.2.2.1) fun v55=>
 bif decide (v35.1=v49.1) then
 bif v35.2==v49.2 then
 bif v41.2==v55.2 then
 bif v35.2 then
 bif v41.2 then
 thenL (ρ:=Bool) (σ:=(List Int)) (forN (fun (i14:Nat) (s14:(List Int))=>
 thenL (ρ:=(Flow Bool (List Int))) (σ:=Int) (forN (fun (i18:Nat) (s18:Int)=>
 bif decide ((i18:Int)<(v25.2.2.2.Slopes.length:Int)) then
 ae (idx v25.2.2.2.Vars (i18:Int)) fun v102=>
 ae (idx v25.2.2.2.Vars (i18:Int)) fun v103=>
 ae (idx v41.1.Vars (i14:Int)) fun v107=>
 ae (idx v41.1.Vars (i14:Int)) fun v108=>
 bif decide (v103=v108) then
 ae (idx v25.2.2.2.Slopes (i18:Int)) fun v113=>
 ae (idx v25.2.2.2.Slopes (i18:Int)) fun v114=>
 some (.nx v114)
 else
 some (.nx s18)
 else
 ae (app s14 ([s18])) fun v118=>
 some (.rt (.nx v118))) v25.2.2.2.Vars.length 0 (0:Int)) fun s18=>
 ae (app s14 ([s18])) fun v118=>
 some (.nx v118)) v41.1.Vars.length 0 ([])) fun s14=>
 ae (impl_EvaluateLinear v41.1 s14) fun v122=>
 bif v122.2 then
 some (decide (v35.1≤v122.1))
 else
 some false
 else
 some true
 else
 some true
 else
 some false
 else
 some false
 else
 some false

end
end Go.Proofs.YtikeldgdgjoekaaGreat
