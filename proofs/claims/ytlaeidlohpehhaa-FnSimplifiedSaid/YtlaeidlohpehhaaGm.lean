/- Lemmas of the proof; each says what it shows. -/
import Derived.Test.YtlaeidlohpehhaaGty
set_option linter.unusedSimpArgs false
set_option linter.unusedVariables false
set_option linter.defProp false
set_option maxRecDepth 4000
namespace Go.Proofs.Ytlaeidlohpehhaa
open Go.Av
open Option renaming bind→ae
noncomputable section
def vBig(a0:List Int):Option Bool:=
 some (decide (65536<(a0.length:Int)))

def spec_l1Cur__next(a0:la):Option (Int×la):=
 bif decide (a0.at_f<(a0.code.length:Int)) then
 ae (idx a0.code a0.at_f) fun v22=>
 bif decide ((IntKind.i64.wrap (a0.at_f+1))≤(a0.code.length:Int)) then
 some (IntKind.i64.wrap v22,(la.mk a0.code (IntKind.i64.wrap (a0.at_f+1)) (IntKind.u64.wrap ((IntKind.u64.wrap ((IntKind.u64.wrap (a0.seed*6364136223846793005))+(IntKind.u64.wrap (IntKind.i64.wrap v22))))+892892))))
 else
 ae (shr .u64 (IntKind.u64.wrap ((IntKind.u64.wrap ((IntKind.u64.wrap (a0.seed*6364136223846793005))+(IntKind.u64.wrap (IntKind.i64.wrap v22))))+892892)) (40:Int)) fun v59=>
 some (IntKind.i64.wrap (bitand .u64 v59 (255:Int)),(la.mk a0.code (IntKind.i64.wrap (a0.at_f+1)) (IntKind.u64.wrap ((IntKind.u64.wrap ((IntKind.u64.wrap (a0.seed*6364136223846793005))+(IntKind.u64.wrap (IntKind.i64.wrap v22))))+892892))))
 else
 bif decide ((IntKind.i64.wrap (a0.at_f+1))≤(a0.code.length:Int)) then
 some ((0:Int),(la.mk a0.code (IntKind.i64.wrap (a0.at_f+1)) (IntKind.u64.wrap ((IntKind.u64.wrap ((IntKind.u64.wrap (a0.seed*6364136223846793005))+(IntKind.u64.wrap (0:Int))))+892892))))
 else
 ae (shr .u64 (IntKind.u64.wrap ((IntKind.u64.wrap ((IntKind.u64.wrap (a0.seed*6364136223846793005))+(IntKind.u64.wrap (0:Int))))+892892)) (40:Int)) fun v59=>
 some (IntKind.i64.wrap (bitand .u64 v59 (255:Int)),(la.mk a0.code (IntKind.i64.wrap (a0.at_f+1)) (IntKind.u64.wrap ((IntKind.u64.wrap ((IntKind.u64.wrap (a0.seed*6364136223846793005))+(IntKind.u64.wrap (0:Int))))+892892))))

def spec_l1Cur__pick(a0:la)(a1:Int):Option (Int×la):=
 bif decide (a1≤1) then
 some ((0:Int),a0)
 else
 ae (spec_l1Cur__next a0) fun v9=>
 bif decide (200<a1) then
 ae (spec_l1Cur__next v9.2) fun v15=>
 ae (rem (IntKind.i64.wrap ((IntKind.i64.wrap (v9.1*256))+v15.1)) a1) fun v19=>
 some (v19,v15.2)
 else
 ae (rem v9.1 a1) fun v19=>
 some (v19,v9.2)

def spec_l1Cur__one(a0:la)(a1:Int):Option (Bool×la):=
 ae (spec_l1Cur__pick a0 a1) fun v7=>
 some (decide (v7.1=0),v7.2)

def spec_l1Cur__of(a0:la)(a1:List ByteArray):Option (ByteArray×la):=
 ae (spec_l1Cur__pick a0 (a1.length:Int)) fun v9=>
 ae (idx a1 v9.1) fun v10=>
 some (v10,v9.2)

def spec_l1Cur__grownN:Nat→la→Int→Option (Tt×la)
 | 0,_,_=>none
 | n+1,a0,a1=>
 bif decide (a1≤1) then
 ae (spec_l1Cur__of a0 ([(⟨#[88]⟩:ByteArray),(⟨#[89]⟩:ByteArray),(⟨#[90]⟩:ByteArray),(⟨#[97]⟩:ByteArray),(⟨#[98]⟩:ByteArray),(⟨#[88]⟩:ByteArray),(⟨#[97]⟩:ByteArray)])) fun v13=>
 some ((Tt.mk v13.1 ([])),v13.2)
 else
 ae (spec_l1Cur__one a0 3) fun v9=>
 bif v9.1 then
 ae (spec_l1Cur__of v9.2 ([(⟨#[88]⟩:ByteArray),(⟨#[89]⟩:ByteArray),(⟨#[90]⟩:ByteArray),(⟨#[97]⟩:ByteArray),(⟨#[98]⟩:ByteArray),(⟨#[88]⟩:ByteArray),(⟨#[97]⟩:ByteArray)])) fun v13=>
 some ((Tt.mk v13.1 ([])),v13.2)
 else
 ae (spec_l1Cur__one v9.2 2) fun v16=>
 bif v16.1 then
 ae (spec_l1Cur__grownN n v16.2 (IntKind.i64.wrap (a1-1))) fun v20=>
 some ((Tt.mk (⟨#[102]⟩:ByteArray) ([v20.1])),v20.2)
 else
 ae (spec_l1Cur__grownN n v16.2 (IntKind.i64.wrap (a1-1))) fun v26=>
 ae (spec_l1Cur__grownN n v26.2 (IntKind.i64.wrap (a1-1))) fun v30=>
 some ((Tt.mk (⟨#[103]⟩:ByteArray) ([v26.1,v30.1])),v30.2)
def spec_l1Cur__grown(a0:la)(a1:Int):Option (Tt×la):=lim fun n=>spec_l1Cur__grownN n a0 a1

def spec_l1Cur__term(a0:la):Option (Tt×la):=
 ae (spec_l1Cur__pick a0 3) fun v5=>
 ae (spec_l1Cur__grown v5.2 (IntKind.i64.wrap ((1:Int)+v5.1))) fun v7=>
 some (v7.1,v7.2)

def spec_l1Cur__atom(a0:la):Option (Tt×la):=
 ae (spec_l1Cur__pick a0 8) fun v4=>
 bif decide (v4.1=0) then
 ae (spec_l1Cur__term v4.2) fun v9=>
 ae (spec_l1Cur__term v9.2) fun v11=>
 some ((Tt.mk (⟨#[61]⟩:ByteArray) ([v9.1,v11.1])),v11.2)
 else
 bif decide (v4.1=1) then
 ae (spec_l1Cur__term v4.2) fun v9=>
 ae (spec_l1Cur__term v9.2) fun v11=>
 some ((Tt.mk (⟨#[61]⟩:ByteArray) ([v9.1,v11.1])),v11.2)
 else
 bif decide (v4.1=2) then
 some ((Tt.mk (⟨#[114]⟩:ByteArray) ([])),v4.2)
 else
 bif decide (v4.1=3) then
 ae (spec_l1Cur__grown v4.2 2) fun v21=>
 ae (spec_l1Cur__grown v21.2 2) fun v23=>
 some ((Tt.mk (⟨#[113]⟩:ByteArray) ([v21.1,v23.1])),v23.2)
 else
 bif decide (v4.1=4) then
 ae (spec_l1Cur__grown v4.2 2) fun v21=>
 ae (spec_l1Cur__grown v21.2 2) fun v23=>
 some ((Tt.mk (⟨#[113]⟩:ByteArray) ([v21.1,v23.1])),v23.2)
 else
 ae (spec_l1Cur__grown v4.2 2) fun v27=>
 some ((Tt.mk (⟨#[112]⟩:ByteArray) ([v27.1])),v27.2)

def spec_l1Cur__among(a0:la)(a1:List Int):Option (Int×la):=
 ae (spec_l1Cur__pick a0 (a1.length:Int)) fun v9=>
 ae (idx a1 v9.1) fun v10=>
 some (v10,v9.2)

def spec_l1Cur__builtN:Nat→la→Int→Option (Ft×la)
 | 0,_,_=>none
 | n+1,a0,a1=>
 bif decide (a1≤1) then
 ae (spec_l1Cur__one a0 16) fun v13=>
 bif v13.1 then
 ae (spec_l1Cur__pick v13.2 2) fun v15=>
 some ((Ft.mk (IntKind.i64.wrap ((1:Int)+v15.1)) (Tt.mk ⟨#[]⟩ ([])) (⟨#[]⟩:ByteArray) ([])),v15.2)
 else
 ae (spec_l1Cur__atom v13.2) fun v19=>
 some ((Ft.mk 3 v19.1 ⟨#[]⟩ ([])),v19.2)
 else
 ae (spec_l1Cur__one a0 4) fun v10=>
 bif v10.1 then
 ae (spec_l1Cur__one v10.2 16) fun v13=>
 bif v13.1 then
 ae (spec_l1Cur__pick v13.2 2) fun v15=>
 some ((Ft.mk (IntKind.i64.wrap ((1:Int)+v15.1)) (Tt.mk ⟨#[]⟩ ([])) (⟨#[]⟩:ByteArray) ([])),v15.2)
 else
 ae (spec_l1Cur__atom v13.2) fun v19=>
 some ((Ft.mk 3 v19.1 ⟨#[]⟩ ([])),v19.2)
 else
 ae (spec_l1Cur__among v10.2 ([(4:Int),(5:Int),(6:Int),(7:Int),(8:Int),(9:Int),(8:Int),(9:Int),(5:Int),(7:Int)])) fun v23=>
 bif decide (v23.1=4) then
 ae (spec_l1Cur__builtN n v23.2 (IntKind.i64.wrap (a1-1))) fun v30=>
 some ((Ft.mk v23.1 (Tt.mk ⟨#[]⟩ ([])) (⟨#[]⟩:ByteArray) ([v30.1])),v30.2)
 else
 bif decide (v23.1=8) then
 ae (spec_l1Cur__of v23.2 ([(⟨#[88]⟩:ByteArray),(⟨#[89]⟩:ByteArray),(⟨#[90]⟩:ByteArray),(⟨#[88]⟩:ByteArray)])) fun v42=>
 ae (spec_l1Cur__builtN n v42.2 (IntKind.i64.wrap (a1-1))) fun v46=>
 some ((Ft.mk v23.1 (Tt.mk ⟨#[]⟩ ([])) v42.1 ([v46.1])),v46.2)
 else
 bif decide (v23.1=9) then
 ae (spec_l1Cur__of v23.2 ([(⟨#[88]⟩:ByteArray),(⟨#[89]⟩:ByteArray),(⟨#[90]⟩:ByteArray),(⟨#[88]⟩:ByteArray)])) fun v42=>
 ae (spec_l1Cur__builtN n v42.2 (IntKind.i64.wrap (a1-1))) fun v46=>
 some ((Ft.mk v23.1 (Tt.mk ⟨#[]⟩ ([])) v42.1 ([v46.1])),v46.2)
 else
 ae (spec_l1Cur__builtN n v23.2 (IntKind.i64.wrap (a1-1))) fun v53=>
 ae (spec_l1Cur__builtN n v53.2 (IntKind.i64.wrap (a1-1))) fun v57=>
 some ((Ft.mk v23.1 (Tt.mk ⟨#[]⟩ ([])) (⟨#[]⟩:ByteArray) ([v53.1,v57.1])),v57.2)
def spec_l1Cur__built(a0:la)(a1:Int):Option (Ft×la):=lim fun n=>spec_l1Cur__builtN n a0 a1

def spec_l1Cur__formula(a0:la):Option (Ft×la):=
 ae (spec_l1Cur__pick a0 4) fun v5=>
 ae (spec_l1Cur__built v5.2 (IntKind.i64.wrap ((1:Int)+v5.1))) fun v7=>
 some (v7.1,v7.2)

def spec_l1Cur__tower(a0:la)(a1:Int):Option (Tt×la):=
 ae (spec_l1Cur__of a0 ([(⟨#[88]⟩:ByteArray),(⟨#[97]⟩:ByteArray)])) fun v8=>
 thenL (ρ:=(Tt×la)) (σ:=Int×ByteArray×(List Tt)) (lim fun n2=>whileN (fun (s2:Int×ByteArray×(List Tt))=>
 bif decide (1<s2.1) then
 some (.nx (IntKind.i64.wrap (s2.1-1),(⟨#[102]⟩:ByteArray),[(Tt.mk s2.2.1 s2.2.2)]))
 else
 some (.br s2)) n2 (a1,v8.1,[])) fun s2=>
 some ((Tt.mk s2.2.1 s2.2.2),v8.2)

def spec_l1Cur__wide(a0:la):Option (Tt×la):=
 thenL (ρ:=(Tt×la)) (σ:=(List Tt)) (forN (fun (i3:Nat) (s3:(List Tt))=>
 thenL (ρ:=(Flow (Tt×la) (List Tt))) (σ:=(List Tt)) (forN (fun (i7:Nat) (s7:(List Tt))=>
 ae (app s7 ([(Tt.mk (⟨#[102]⟩:ByteArray) ([(Tt.mk (⟨#[97]⟩:ByteArray) ([]))]))])) fun v23=>
 some (.nx v23)) 4 0 ([])) fun s7=>
 ae (app s3 ([(Tt.mk (⟨#[104]⟩:ByteArray) s7)])) fun v29=>
 some (.nx v29)) 4 0 ([])) fun s3=>
 ae (spec_l1Cur__one a0 2) fun v32=>
 bif v32.1 then
 ae (slc s3 (0:Int) (3:Int)) fun v35=>
 ae (spec_l1Cur__one v32.2 2) fun v38=>
 bif v38.1 then
 bif decide ((v35.length:Int)=3) then
 ae (app v35 ([(Tt.mk (⟨#[102]⟩:ByteArray) ([(Tt.mk (⟨#[98]⟩:ByteArray) ([]))]))])) fun v51=>
 some ((Tt.mk (⟨#[103]⟩:ByteArray) v51),v38.2)
 else
 some ((Tt.mk (⟨#[103]⟩:ByteArray) v35),v38.2)
 else
 some ((Tt.mk (⟨#[103]⟩:ByteArray) v35),v38.2)
 else
 ae (spec_l1Cur__one v32.2 2) fun v38=>
 bif v38.1 then
 bif decide ((s3.length:Int)=3) then
 ae (app s3 ([(Tt.mk (⟨#[102]⟩:ByteArray) ([(Tt.mk (⟨#[98]⟩:ByteArray) ([]))]))])) fun v51=>
 some ((Tt.mk (⟨#[103]⟩:ByteArray) v51),v38.2)
 else
 some ((Tt.mk (⟨#[103]⟩:ByteArray) s3),v38.2)
 else
 some ((Tt.mk (⟨#[103]⟩:ByteArray) s3),v38.2)

def spec_l1Cur__anyTerm(a0:la):Option (Tt×la):=
 ae (spec_l1Cur__term a0) fun v5=>
 ae (spec_l1Cur__pick v5.2 24) fun v7=>
 bif decide (v7.1=0) then
 ae (spec_l1Cur__of v7.2 ([(⟨#[]⟩:ByteArray),(⟨#[116,114,117,101]⟩:ByteArray),(⟨#[116,114,117,116,104]⟩:ByteArray),(⟨#[105,102]⟩:ByteArray),(⟨#[88,121,122,57]⟩:ByteArray),(⟨#[88,121,122,57,57]⟩:ByteArray),(⟨#[120,65]⟩:ByteArray),(⟨#[97,95,98]⟩:ByteArray),(⟨#[97,98,99,100,101,102]⟩:ByteArray),(⟨#[97,98,99,100,101,102,103]⟩:ByteArray),(⟨#[95,97]⟩:ByteArray),(⟨#[57]⟩:ByteArray),(⟨#[88,95]⟩:ByteArray),(⟨#[61]⟩:ByteArray)])) fun v12=>
 some ((Tt.mk v12.1 v5.1.Args),v12.2)
 else
 bif decide (v7.1=1) then
 ae (spec_l1Cur__pick v7.2 3) fun v18=>
 ae (spec_l1Cur__tower v18.2 (IntKind.i64.wrap ((7:Int)+v18.1))) fun v20=>
 some (v20.1,v20.2)
 else
 bif decide (v7.1=2) then
 ae (spec_l1Cur__wide v7.2) fun v24=>
 some (v24.1,v24.2)
 else
 bif decide (v7.1=3) then
 ae (spec_l1Cur__term v7.2) fun v30=>
 ae (spec_l1Cur__term v30.2) fun v32=>
 ae (spec_l1Cur__term v32.2) fun v34=>
 ae (app v5.1.Args ([v30.1,v32.1,v34.1])) fun v36=>
 some ((Tt.mk v5.1.Name v36),v34.2)
 else
 bif decide (v7.1=4) then
 bif decide (0<(v5.1.Args.length:Int)) then
 ae (spec_l1Cur__of v7.2 ([(⟨#[61]⟩:ByteArray),(⟨#[]⟩:ByteArray),(⟨#[81,49]⟩:ByteArray),(⟨#[98,50]⟩:ByteArray)])) fun v48=>
 ae (idx v5.1.Args 0) fun v53=>
 some ((Tt.mk v5.1.Name (v5.1.Args.set (0:Int).toNat (Tt.mk v48.1 v53.Args))),v48.2)
 else
 some (v5.1,v7.2)
 else
 some (v5.1,v7.2)

def spec_l8SizeN:Nat→Ft→Option Int
 | 0,_=>none
 | n+1,a0=>
 thenL (ρ:=Int) (σ:=Int) (forN (fun (i3:Nat) (s3:Int)=>
 ae (idx a0.Parts (i3:Int)) fun v16=>
 ae (spec_l8SizeN n v16) fun v18=>
 some (.nx (IntKind.i64.wrap (s3+v18)))) a0.Parts.length 0 (1:Int)) fun s3=>
 some s3
def spec_l8Size(a0:Ft):Option Int:=lim fun n=>spec_l8SizeN n a0

def spec_l1Cur__anyFormula(a0:la):Option (Ft×la):=
 ae (spec_l1Cur__formula a0) fun v6=>
 ae (spec_l1Cur__pick v6.2 24) fun v8=>
 bif decide (v8.1=0) then
 ae (spec_l1Cur__pick v8.2 11) fun v12=>
 some ((Ft.mk v12.1 v6.1.Atom v6.1.Var v6.1.Parts),v12.2)
 else
 bif decide (v8.1=1) then
 ae (spec_l1Cur__of v8.2 ([(⟨#[88]⟩:ByteArray),(⟨#[97]⟩:ByteArray),(⟨#[]⟩:ByteArray)])) fun v18=>
 some ((Ft.mk v6.1.Op v6.1.Atom v18.1 v6.1.Parts),v18.2)
 else
 bif decide (v8.1=2) then
 ae (spec_l1Cur__anyTerm v8.2) fun v23=>
 some ((Ft.mk v6.1.Op v23.1 v6.1.Var v6.1.Parts),v23.2)
 else
 bif decide (v8.1=3) then
 ae (spec_l1Cur__formula v8.2) fun v30=>
 ae (app v6.1.Parts ([v30.1])) fun v32=>
 some ((Ft.mk v6.1.Op v6.1.Atom v6.1.Var v32),v30.2)
 else
 bif decide (v8.1=4) then
 ae (spec_l1Cur__pick v8.2 5) fun v37=>
 thenL (ρ:=(Ft×la)) (σ:=Int×ByteArray×(List Tt)×ByteArray×(List Ft)) (lim fun n13=>whileN (fun (s13:Int×ByteArray×(List Tt)×ByteArray×(List Ft))=>
 ae (spec_l8Size (Ft.mk s13.1 (Tt.mk s13.2.1 s13.2.2.1) s13.2.2.2.1 s13.2.2.2.2)) fun v40=>
 bif decide (v40<(IntKind.i64.wrap ((36:Int)+v37.1))) then
 some (.nx ((4:Int),(⟨#[]⟩:ByteArray),[],(⟨#[]⟩:ByteArray),[(Ft.mk s13.1 (Tt.mk s13.2.1 s13.2.2.1) s13.2.2.2.1 s13.2.2.2.2)]))
 else
 some (.br s13)) n13 (v6.1.Op,v6.1.Atom.Name,v6.1.Atom.Args,v6.1.Var,v6.1.Parts)) fun s13=>
 some ((Ft.mk s13.1 (Tt.mk s13.2.1 s13.2.2.1) s13.2.2.2.1 s13.2.2.2.2),v37.2)
 else
 bif decide (v8.1=5) then
 bif decide (0<(v6.1.Parts.length:Int)) then
 ae (spec_l1Cur__pick v8.2 11) fun v55=>
 ae (idx v6.1.Parts 0) fun v56=>
 ae (idx v6.1.Parts 0) fun w9=>
 some ((Ft.mk v6.1.Op v6.1.Atom v6.1.Var (v6.1.Parts.set (0:Int).toNat (Ft.mk v55.1 w9.Atom w9.Var w9.Parts))),v55.2)
 else
 some (v6.1,v8.2)
 else
 some (v6.1,v8.2)

def spec_l15Abs(a0:Int):Option Int:=
 bif decide (a0<0) then
 some (IntKind.i64.wrap (0-a0))
 else
 some a0

def spec_l1NumN:Nat→Int→Option ByteArray
 | 0,_=>none
 | n+1,a0=>
 bif decide (a0<0) then
 ae (spec_l1NumN n (IntKind.i64.wrap (0-a0))) fun v7=>
 ae (sapp (⟨#[45]⟩:ByteArray) v7) fun v8=>
 some v8
 else
 bif decide (a0<10) then
 ae (sslc (⟨#[48,49,50,51,52,53,54,55,56,57]⟩:ByteArray) a0 (IntKind.i64.wrap (a0+1))) fun v14=>
 some v14
 else
 ae (quo a0 (10:Int)) fun v16=>
 ae (spec_l1NumN n v16) fun v17=>
 ae (rem a0 (10:Int)) fun v19=>
 ae (rem a0 (10:Int)) fun v21=>
 ae (sslc (⟨#[48,49,50,51,52,53,54,55,56,57]⟩:ByteArray) v19 (IntKind.i64.wrap (v21+1))) fun v23=>
 ae (sapp v17 v23) fun v24=>
 some v24
def spec_l1Num(a0:Int):Option ByteArray:=lim fun n=>spec_l1NumN n a0

def spec_l20Literal(a0:Int):Option Ft:=
 ae (spec_l15Abs a0) fun v5=>
 ae (spec_l1Num v5) fun v6=>
 ae (sapp (⟨#[118]⟩:ByteArray) v6) fun v7=>
 bif decide (a0<0) then
 some (Ft.mk 4 (Tt.mk ⟨#[]⟩ ([])) (⟨#[]⟩:ByteArray) ([(Ft.mk 3 (Tt.mk v7 ([])) (⟨#[]⟩:ByteArray) ([]))]))
 else
 some (Ft.mk 3 (Tt.mk v7 ([])) (⟨#[]⟩:ByteArray) ([]))

def spec_l1Cur__variables20N:Nat→la→Int→Option (Ft×la)
 | 0,_,_=>none
 | n+1,a0,a1=>
 bif decide (a1≤1) then
 ae (spec_l1Cur__one a0 8) fun v13=>
 bif v13.1 then
 ae (spec_l1Cur__pick v13.2 2) fun v15=>
 some ((Ft.mk (IntKind.i64.wrap ((1:Int)+v15.1)) (Tt.mk ⟨#[]⟩ ([])) (⟨#[]⟩:ByteArray) ([])),v15.2)
 else
 ae (spec_l1Cur__pick v13.2 4) fun v19=>
 ae (spec_l20Literal (IntKind.i64.wrap ((1:Int)+v19.1))) fun v21=>
 some (v21,v19.2)
 else
 ae (spec_l1Cur__one a0 4) fun v10=>
 bif v10.1 then
 ae (spec_l1Cur__one v10.2 8) fun v13=>
 bif v13.1 then
 ae (spec_l1Cur__pick v13.2 2) fun v15=>
 some ((Ft.mk (IntKind.i64.wrap ((1:Int)+v15.1)) (Tt.mk ⟨#[]⟩ ([])) (⟨#[]⟩:ByteArray) ([])),v15.2)
 else
 ae (spec_l1Cur__pick v13.2 4) fun v19=>
 ae (spec_l20Literal (IntKind.i64.wrap ((1:Int)+v19.1))) fun v21=>
 some (v21,v19.2)
 else
 ae (spec_l1Cur__among v10.2 ([(4:Int),(5:Int),(6:Int),(7:Int)])) fun v24=>
 bif decide (v24.1=4) then
 ae (spec_l1Cur__variables20N n v24.2 (IntKind.i64.wrap (a1-1))) fun v31=>
 some ((Ft.mk v24.1 (Tt.mk ⟨#[]⟩ ([])) (⟨#[]⟩:ByteArray) ([v31.1])),v31.2)
 else
 ae (spec_l1Cur__variables20N n v24.2 (IntKind.i64.wrap (a1-1))) fun v38=>
 ae (spec_l1Cur__variables20N n v38.2 (IntKind.i64.wrap (a1-1))) fun v42=>
 some ((Ft.mk v24.1 (Tt.mk ⟨#[]⟩ ([])) (⟨#[]⟩:ByteArray) ([v38.1,v42.1])),v42.2)
def spec_l1Cur__variables20(a0:la)(a1:Int):Option (Ft×la):=lim fun n=>spec_l1Cur__variables20N n a0 a1

def spec_DrawSimplifyFormula(a0:List Int):Option Ft:=
 ae (spec_l1Cur__one (la.mk a0 0 0) 2) fun v8=>
 bif v8.1 then
 ae (spec_l1Cur__anyFormula v8.2) fun v10=>
 some v10.1
 else
 ae (spec_l1Cur__variables20 v8.2 5) fun v12=>
 some v12.1

def impl_sizeOfN:Nat→Ft→Option Int
 | 0,_=>none
 | n+1,a0=>
 thenL (ρ:=Int) (σ:=Int) (forN (fun (i3:Nat) (s3:Int)=>
 ae (idx a0.Parts (i3:Int)) fun v11=>
 bif decide (40<s3) then
 some (.rt s3)
 else
 ae (impl_sizeOfN n v11) fun v18=>
 some (.nx (IntKind.i64.wrap (s3+v18)))) a0.Parts.length 0 (1:Int)) fun s3=>
 some s3
def impl_sizeOf(a0:Ft):Option Int:=lim fun n=>impl_sizeOfN n a0

def impl_isQuantifier(a0:Int):Option Bool:=
 bif decide (a0=8) then
 some true
 else
 some (decide (a0=9))

def impl_isBinary(a0:Int):Option Bool:=
 bif decide (a0=5) then
 some true
 else
 bif decide (a0=6) then
 some true
 else
 some (decide (a0=7))

def impl_isUpper(a0:Int):Option Bool:=
 bif decide (65≤a0) then
 some (decide (a0≤90))
 else
 some false

def impl_isLower(a0:Int):Option Bool:=
 bif decide (97≤a0) then
 some (decide (a0≤122))
 else
 some false

def impl_isDigit(a0:Int):Option Bool:=
 bif decide (48≤a0) then
 some (decide (a0≤57))
 else
 some false

def impl_within(a0:Int)(a1:Int)(a2:Int):Option Bool:=
 bif decide (a1≤a0) then
 some (decide (a0≤a2))
 else
 some false

def impl_isVariable(a0:ByteArray):Option Bool:=
 ae (bnd (a0.size:Int)) fun N2=>
 thenL (ρ:=Bool) (σ:=Unit) (forN (fun (i2:Nat) (s2:Unit)=>
 bif decide ((i2:Int)=0) then
 ae (sidx a0 (i2:Int)) fun v14=>
 ae (impl_isUpper v14) fun v15=>
 bif v15 then
 bif decide (0<(i2:Int)) then
 ae (sidx a0 (i2:Int)) fun v24=>
 ae (impl_isLower v24) fun v25=>
 bif v25 then
 some (.nx ())
 else
 ae (sidx a0 (i2:Int)) fun v31=>
 ae (impl_isDigit v31) fun v32=>
 bif v32 then
 some (.nx ())
 else
 some (.rt false)
 else
 some (.nx ())
 else
 some (.rt false)
 else
 bif decide (0<(i2:Int)) then
 ae (sidx a0 (i2:Int)) fun v24=>
 ae (impl_isLower v24) fun v25=>
 bif v25 then
 some (.nx ())
 else
 ae (sidx a0 (i2:Int)) fun v31=>
 ae (impl_isDigit v31) fun v32=>
 bif v32 then
 some (.nx ())
 else
 some (.rt false)
 else
 some (.nx ())) N2 0 ()) fun s2=>
 ae (impl_within (a0.size:Int) 1 4) fun v39=>
 some v39

def impl_isEquality(a0:Tt):Option Bool:=
 some (decide (a0.Name=(⟨#[61]⟩:ByteArray)))

def impl_sizeN:Nat→Tt→Option Int
 | 0,_=>none
 | n+1,a0=>
 thenL (ρ:=Int) (σ:=Int) (forN (fun (i3:Nat) (s3:Int)=>
 ae (idx a0.Args (i3:Int)) fun v11=>
 bif decide (30<s3) then
 some (.rt s3)
 else
 ae (impl_sizeN n v11) fun v18=>
 some (.nx (IntKind.i64.wrap (s3+v18)))) a0.Args.length 0 (1:Int)) fun s3=>
 some s3
def impl_size(a0:Tt):Option Int:=lim fun n=>impl_sizeN n a0

def impl_depthN:Nat→Tt→Option Int
 | 0,_=>none
 | n+1,a0=>
 thenL (ρ:=Int) (σ:=Int) (forN (fun (i3:Nat) (s3:Int)=>
 ae (idx a0.Args (i3:Int)) fun v11=>
 ae (impl_depthN n v11) fun v15=>
 some (.nx (max s3 v15))) a0.Args.length 0 (0:Int)) fun s3=>
 some (IntKind.i64.wrap (s3+1))
def impl_depth(a0:Tt):Option Int:=lim fun n=>impl_depthN n a0

def impl_isSmall(a0:Tt):Option Bool:=
 ae (impl_size a0) fun v4=>
 bif decide (v4≤30) then
 ae (impl_depth a0) fun v8=>
 some (decide (v8≤8))
 else
 some false

def impl_reserved  :Option (List ByteArray):=
 some ([(⟨#[116,114,117,101]⟩:ByteArray),(⟨#[102,97,108,115,101]⟩:ByteArray),(⟨#[116,114,117,116,104]⟩:ByteArray),(⟨#[98,111,116,104]⟩:ByteArray),(⟨#[101,105,116,104,101,114]⟩:ByteArray),(⟨#[105,102]⟩:ByteArray),(⟨#[97,108,108]⟩:ByteArray),(⟨#[115,111,109,101]⟩:ByteArray)])

def slices_Index_Sstring_string(a0:List ByteArray)(a1:ByteArray):Option Int:=
 thenL (ρ:=Int) (σ:=Unit) (forN (fun (i2:Nat) (s2:Unit)=>
 ae (idx a0 (i2:Int)) fun v14=>
 bif decide (a1=v14) then
 some (.rt (i2:Int))
 else
 some (.nx ())) a0.length 0 ()) fun s2=>
 some (-1:Int)

def slices_Contains_Sstring_string(a0:List ByteArray)(a1:ByteArray):Option Bool:=
 ae (slices_Index_Sstring_string a0 a1) fun v7=>
 some (decide (0≤v7))

def impl_isSymbol(a0:ByteArray):Option Bool:=
 ae (bnd (a0.size:Int)) fun N2=>
 thenL (ρ:=Bool) (σ:=Unit) (forN (fun (i2:Nat) (s2:Unit)=>
 bif decide ((i2:Int)=0) then
 ae (sidx a0 (i2:Int)) fun v14=>
 ae (impl_isLower v14) fun v15=>
 bif v15 then
 ae (sidx a0 (i2:Int)) fun v21=>
 ae (impl_isLower v21) fun v22=>
 bif v22 then
 some (.nx ())
 else
 ae (sidx a0 (i2:Int)) fun v27=>
 ae (impl_isDigit v27) fun v28=>
 bif v28 then
 some (.nx ())
 else
 ae (sidx a0 (i2:Int)) fun v34=>
 bif decide (v34=95) then
 some (.nx ())
 else
 some (.rt false)
 else
 some (.rt false)
 else
 ae (sidx a0 (i2:Int)) fun v21=>
 ae (impl_isLower v21) fun v22=>
 bif v22 then
 some (.nx ())
 else
 ae (sidx a0 (i2:Int)) fun v27=>
 ae (impl_isDigit v27) fun v28=>
 bif v28 then
 some (.nx ())
 else
 ae (sidx a0 (i2:Int)) fun v34=>
 bif decide (v34=95) then
 some (.nx ())
 else
 some (.rt false)) N2 0 ()) fun s2=>
 ae (impl_within (a0.size:Int) 1 6) fun v41=>
 bif v41 then
 ae (impl_reserved ) fun v43=>
 ae (slices_Contains_Sstring_string v43 a0) fun v45=>
 some (!v45)
 else
 some false

def slices_IndexFunc_Simpl_Term_impl_Term(a0:List Tt)(a1:Tt→Option Bool):Option Int:=
 thenL (ρ:=Int) (σ:=Unit) (forN (fun (i2:Nat) (s2:Unit)=>
 ae (idx a0 (i2:Int)) fun v14=>
 ae (a1 v14) fun v16=>
 bif v16 then
 some (.rt (i2:Int))
 else
 some (.nx ())) a0.length 0 ()) fun s2=>
 some (-1:Int)

def slices_ContainsFunc_Simpl_Term_impl_Term(a0:List Tt)(a1:Tt→Option Bool):Option Bool:=
 ae (slices_IndexFunc_Simpl_Term_impl_Term a0 a1) fun v7=>
 some (decide (0≤v7))

mutual
def impl_hasNamesN:Nat→Tt→Option Bool
 | 0,_=>none
 | n+1,a0=>
 ae (impl_isVariable a0.Name) fun v5=>
 bif v5 then
 some (decide ((a0.Args.length:Int)=0))
 else
 ae (impl_isSymbol a0.Name) fun v12=>
 bif v12 then
 bif decide ((a0.Args.length:Int)≤4) then
 ae (slices_ContainsFunc_Simpl_Term_impl_Term a0.Args (fun y0=>impl_hasNames_1N n y0)) fun v22=>
 some (!v22)
 else
 some false
 else
 some false
def impl_hasNames_1N:Nat→Tt→Option Bool
 | 0,_=>none
 | n+1,a0=>
 ae (impl_hasNamesN n a0) fun v4=>
 some (!v4)
end
def impl_hasNames(a0:Tt):Option Bool:=lim fun n=>impl_hasNamesN n a0
def impl_hasNames_1(a0:Tt):Option Bool:=lim fun n=>impl_hasNames_1N n a0

def impl_IsValidTerm(a0:Tt):Option Bool:=
 ae (impl_isSmall a0) fun v4=>
 bif v4 then
 ae (impl_hasNames a0) fun v7=>
 some v7
 else
 some false

def impl_IsValidAtom(a0:Tt):Option Bool:=
 ae (impl_isEquality a0) fun v4=>
 bif v4 then
 bif decide ((a0.Args.length:Int)=2) then
 ae (impl_isSmall a0) fun v11=>
 bif v11 then
 ae (idx a0.Args 0) fun v16=>
 ae (impl_hasNames v16) fun v18=>
 bif v18 then
 ae (idx a0.Args 1) fun v23=>
 ae (impl_hasNames v23) fun v25=>
 some v25
 else
 some false
 else
 some false
 else
 some false
 else
 ae (impl_isSymbol a0.Name) fun v29=>
 bif v29 then
 ae (impl_IsValidTerm a0) fun v32=>
 some v32
 else
 some false

def impl_isZeroTerm(a0:Tt):Option Bool:=
 bif decide (a0.Name=(⟨#[]⟩:ByteArray)) then
 some (decide ((a0.Args.length:Int)=0))
 else
 some false

def slices_IndexFunc_Simpl_Formula_impl_Formula(a0:List Ft)(a1:Ft→Option Bool):Option Int:=
 thenL (ρ:=Int) (σ:=Unit) (forN (fun (i2:Nat) (s2:Unit)=>
 ae (idx a0 (i2:Int)) fun v14=>
 ae (a1 v14) fun v16=>
 bif v16 then
 some (.rt (i2:Int))
 else
 some (.nx ())) a0.length 0 ()) fun s2=>
 some (-1:Int)

def slices_ContainsFunc_Simpl_Formula_impl_Formula(a0:List Ft)(a1:Ft→Option Bool):Option Bool:=
 ae (slices_IndexFunc_Simpl_Formula_impl_Formula a0 a1) fun v7=>
 some (decide (0≤v7))

mutual
def impl_hasFormN:Nat→Ft→Option Bool
 | 0,_=>none
 | n+1,a0=>
 bif decide (a0.Op=1) then
 bif decide ((a0.Parts.length:Int)=0) then
 ae (impl_isQuantifier a0.Op) fun v33=>
 bif v33 then
 ae (impl_isVariable a0.Var) fun v37=>
 bif v37 then
 ae (impl_isQuantifier a0.Op) fun v44=>
 bif v44 then
 bif decide (a0.Op=3) then
 ae (impl_IsValidAtom a0.Atom) fun v58=>
 bif v58 then
 ae (slices_ContainsFunc_Simpl_Formula_impl_Formula a0.Parts (fun y0=>impl_hasForm_1N n y0)) fun v74=>
 some (!v74)
 else
 some false
 else
 ae (impl_isZeroTerm a0.Atom) fun v68=>
 bif v68 then
 ae (slices_ContainsFunc_Simpl_Formula_impl_Formula a0.Parts (fun y0=>impl_hasForm_1N n y0)) fun v74=>
 some (!v74)
 else
 some false
 else
 bif decide (a0.Var=(⟨#[]⟩:ByteArray)) then
 bif decide (a0.Op=3) then
 ae (impl_IsValidAtom a0.Atom) fun v58=>
 bif v58 then
 ae (slices_ContainsFunc_Simpl_Formula_impl_Formula a0.Parts (fun y0=>impl_hasForm_1N n y0)) fun v74=>
 some (!v74)
 else
 some false
 else
 ae (impl_isZeroTerm a0.Atom) fun v68=>
 bif v68 then
 ae (slices_ContainsFunc_Simpl_Formula_impl_Formula a0.Parts (fun y0=>impl_hasForm_1N n y0)) fun v74=>
 some (!v74)
 else
 some false
 else
 some false
 else
 some false
 else
 ae (impl_isQuantifier a0.Op) fun v44=>
 bif v44 then
 bif decide (a0.Op=3) then
 ae (impl_IsValidAtom a0.Atom) fun v58=>
 bif v58 then
 ae (slices_ContainsFunc_Simpl_Formula_impl_Formula a0.Parts (fun y0=>impl_hasForm_1N n y0)) fun v74=>
 some (!v74)
 else
 some false
 else
 ae (impl_isZeroTerm a0.Atom) fun v68=>
 bif v68 then
 ae (slices_ContainsFunc_Simpl_Formula_impl_Formula a0.Parts (fun y0=>impl_hasForm_1N n y0)) fun v74=>
 some (!v74)
 else
 some false
 else
 bif decide (a0.Var=(⟨#[]⟩:ByteArray)) then
 bif decide (a0.Op=3) then
 ae (impl_IsValidAtom a0.Atom) fun v58=>
 bif v58 then
 ae (slices_ContainsFunc_Simpl_Formula_impl_Formula a0.Parts (fun y0=>impl_hasForm_1N n y0)) fun v74=>
 some (!v74)
 else
 some false
 else
 ae (impl_isZeroTerm a0.Atom) fun v68=>
 bif v68 then
 ae (slices_ContainsFunc_Simpl_Formula_impl_Formula a0.Parts (fun y0=>impl_hasForm_1N n y0)) fun v74=>
 some (!v74)
 else
 some false
 else
 some false
 else
 some false
 else
 bif decide (a0.Op=2) then
 bif decide ((a0.Parts.length:Int)=0) then
 ae (impl_isQuantifier a0.Op) fun v33=>
 bif v33 then
 ae (impl_isVariable a0.Var) fun v37=>
 bif v37 then
 ae (impl_isQuantifier a0.Op) fun v44=>
 bif v44 then
 bif decide (a0.Op=3) then
 ae (impl_IsValidAtom a0.Atom) fun v58=>
 bif v58 then
 ae (slices_ContainsFunc_Simpl_Formula_impl_Formula a0.Parts (fun y0=>impl_hasForm_1N n y0)) fun v74=>
 some (!v74)
 else
 some false
 else
 ae (impl_isZeroTerm a0.Atom) fun v68=>
 bif v68 then
 ae (slices_ContainsFunc_Simpl_Formula_impl_Formula a0.Parts (fun y0=>impl_hasForm_1N n y0)) fun v74=>
 some (!v74)
 else
 some false
 else
 bif decide (a0.Var=(⟨#[]⟩:ByteArray)) then
 bif decide (a0.Op=3) then
 ae (impl_IsValidAtom a0.Atom) fun v58=>
 bif v58 then
 ae (slices_ContainsFunc_Simpl_Formula_impl_Formula a0.Parts (fun y0=>impl_hasForm_1N n y0)) fun v74=>
 some (!v74)
 else
 some false
 else
 ae (impl_isZeroTerm a0.Atom) fun v68=>
 bif v68 then
 ae (slices_ContainsFunc_Simpl_Formula_impl_Formula a0.Parts (fun y0=>impl_hasForm_1N n y0)) fun v74=>
 some (!v74)
 else
 some false
 else
 some false
 else
 some false
 else
 ae (impl_isQuantifier a0.Op) fun v44=>
 bif v44 then
 bif decide (a0.Op=3) then
 ae (impl_IsValidAtom a0.Atom) fun v58=>
 bif v58 then
 ae (slices_ContainsFunc_Simpl_Formula_impl_Formula a0.Parts (fun y0=>impl_hasForm_1N n y0)) fun v74=>
 some (!v74)
 else
 some false
 else
 ae (impl_isZeroTerm a0.Atom) fun v68=>
 bif v68 then
 ae (slices_ContainsFunc_Simpl_Formula_impl_Formula a0.Parts (fun y0=>impl_hasForm_1N n y0)) fun v74=>
 some (!v74)
 else
 some false
 else
 bif decide (a0.Var=(⟨#[]⟩:ByteArray)) then
 bif decide (a0.Op=3) then
 ae (impl_IsValidAtom a0.Atom) fun v58=>
 bif v58 then
 ae (slices_ContainsFunc_Simpl_Formula_impl_Formula a0.Parts (fun y0=>impl_hasForm_1N n y0)) fun v74=>
 some (!v74)
 else
 some false
 else
 ae (impl_isZeroTerm a0.Atom) fun v68=>
 bif v68 then
 ae (slices_ContainsFunc_Simpl_Formula_impl_Formula a0.Parts (fun y0=>impl_hasForm_1N n y0)) fun v74=>
 some (!v74)
 else
 some false
 else
 some false
 else
 some false
 else
 bif decide (a0.Op=3) then
 bif decide ((a0.Parts.length:Int)=0) then
 ae (impl_isQuantifier a0.Op) fun v33=>
 bif v33 then
 ae (impl_isVariable a0.Var) fun v37=>
 bif v37 then
 ae (impl_isQuantifier a0.Op) fun v44=>
 bif v44 then
 ae (impl_IsValidAtom a0.Atom) fun v58=>
 bif v58 then
 ae (slices_ContainsFunc_Simpl_Formula_impl_Formula a0.Parts (fun y0=>impl_hasForm_1N n y0)) fun v74=>
 some (!v74)
 else
 some false
 else
 bif decide (a0.Var=(⟨#[]⟩:ByteArray)) then
 ae (impl_IsValidAtom a0.Atom) fun v58=>
 bif v58 then
 ae (slices_ContainsFunc_Simpl_Formula_impl_Formula a0.Parts (fun y0=>impl_hasForm_1N n y0)) fun v74=>
 some (!v74)
 else
 some false
 else
 some false
 else
 some false
 else
 ae (impl_isQuantifier a0.Op) fun v44=>
 bif v44 then
 ae (impl_IsValidAtom a0.Atom) fun v58=>
 bif v58 then
 ae (slices_ContainsFunc_Simpl_Formula_impl_Formula a0.Parts (fun y0=>impl_hasForm_1N n y0)) fun v74=>
 some (!v74)
 else
 some false
 else
 bif decide (a0.Var=(⟨#[]⟩:ByteArray)) then
 ae (impl_IsValidAtom a0.Atom) fun v58=>
 bif v58 then
 ae (slices_ContainsFunc_Simpl_Formula_impl_Formula a0.Parts (fun y0=>impl_hasForm_1N n y0)) fun v74=>
 some (!v74)
 else
 some false
 else
 some false
 else
 some false
 else
 bif decide (a0.Op=4) then
 bif decide ((a0.Parts.length:Int)=1) then
 ae (impl_isQuantifier a0.Op) fun v33=>
 bif v33 then
 ae (impl_isVariable a0.Var) fun v37=>
 bif v37 then
 ae (impl_isQuantifier a0.Op) fun v44=>
 bif v44 then
 ae (impl_isZeroTerm a0.Atom) fun v68=>
 bif v68 then
 ae (slices_ContainsFunc_Simpl_Formula_impl_Formula a0.Parts (fun y0=>impl_hasForm_1N n y0)) fun v74=>
 some (!v74)
 else
 some false
 else
 bif decide (a0.Var=(⟨#[]⟩:ByteArray)) then
 ae (impl_isZeroTerm a0.Atom) fun v68=>
 bif v68 then
 ae (slices_ContainsFunc_Simpl_Formula_impl_Formula a0.Parts (fun y0=>impl_hasForm_1N n y0)) fun v74=>
 some (!v74)
 else
 some false
 else
 some false
 else
 some false
 else
 ae (impl_isQuantifier a0.Op) fun v44=>
 bif v44 then
 ae (impl_isZeroTerm a0.Atom) fun v68=>
 bif v68 then
 ae (slices_ContainsFunc_Simpl_Formula_impl_Formula a0.Parts (fun y0=>impl_hasForm_1N n y0)) fun v74=>
 some (!v74)
 else
 some false
 else
 bif decide (a0.Var=(⟨#[]⟩:ByteArray)) then
 ae (impl_isZeroTerm a0.Atom) fun v68=>
 bif v68 then
 ae (slices_ContainsFunc_Simpl_Formula_impl_Formula a0.Parts (fun y0=>impl_hasForm_1N n y0)) fun v74=>
 some (!v74)
 else
 some false
 else
 some false
 else
 some false
 else
 ae (impl_isQuantifier a0.Op) fun v20=>
 bif v20 then
 bif decide ((a0.Parts.length:Int)=1) then
 ae (impl_isQuantifier a0.Op) fun v33=>
 bif v33 then
 ae (impl_isVariable a0.Var) fun v37=>
 bif v37 then
 ae (impl_isQuantifier a0.Op) fun v44=>
 bif v44 then
 ae (impl_isZeroTerm a0.Atom) fun v68=>
 bif v68 then
 ae (slices_ContainsFunc_Simpl_Formula_impl_Formula a0.Parts (fun y0=>impl_hasForm_1N n y0)) fun v74=>
 some (!v74)
 else
 some false
 else
 bif decide (a0.Var=(⟨#[]⟩:ByteArray)) then
 ae (impl_isZeroTerm a0.Atom) fun v68=>
 bif v68 then
 ae (slices_ContainsFunc_Simpl_Formula_impl_Formula a0.Parts (fun y0=>impl_hasForm_1N n y0)) fun v74=>
 some (!v74)
 else
 some false
 else
 some false
 else
 some false
 else
 ae (impl_isQuantifier a0.Op) fun v44=>
 bif v44 then
 ae (impl_isZeroTerm a0.Atom) fun v68=>
 bif v68 then
 ae (slices_ContainsFunc_Simpl_Formula_impl_Formula a0.Parts (fun y0=>impl_hasForm_1N n y0)) fun v74=>
 some (!v74)
 else
 some false
 else
 bif decide (a0.Var=(⟨#[]⟩:ByteArray)) then
 ae (impl_isZeroTerm a0.Atom) fun v68=>
 bif v68 then
 ae (slices_ContainsFunc_Simpl_Formula_impl_Formula a0.Parts (fun y0=>impl_hasForm_1N n y0)) fun v74=>
 some (!v74)
 else
 some false
 else
 some false
 else
 some false
 else
 ae (impl_isBinary a0.Op) fun v24=>
 bif v24 then
 bif decide ((a0.Parts.length:Int)=2) then
 ae (impl_isQuantifier a0.Op) fun v33=>
 bif v33 then
 ae (impl_isVariable a0.Var) fun v37=>
 bif v37 then
 ae (impl_isQuantifier a0.Op) fun v44=>
 bif v44 then
 ae (impl_isZeroTerm a0.Atom) fun v68=>
 bif v68 then
 ae (slices_ContainsFunc_Simpl_Formula_impl_Formula a0.Parts (fun y0=>impl_hasForm_1N n y0)) fun v74=>
 some (!v74)
 else
 some false
 else
 bif decide (a0.Var=(⟨#[]⟩:ByteArray)) then
 ae (impl_isZeroTerm a0.Atom) fun v68=>
 bif v68 then
 ae (slices_ContainsFunc_Simpl_Formula_impl_Formula a0.Parts (fun y0=>impl_hasForm_1N n y0)) fun v74=>
 some (!v74)
 else
 some false
 else
 some false
 else
 some false
 else
 ae (impl_isQuantifier a0.Op) fun v44=>
 bif v44 then
 ae (impl_isZeroTerm a0.Atom) fun v68=>
 bif v68 then
 ae (slices_ContainsFunc_Simpl_Formula_impl_Formula a0.Parts (fun y0=>impl_hasForm_1N n y0)) fun v74=>
 some (!v74)
 else
 some false
 else
 bif decide (a0.Var=(⟨#[]⟩:ByteArray)) then
 ae (impl_isZeroTerm a0.Atom) fun v68=>
 bif v68 then
 ae (slices_ContainsFunc_Simpl_Formula_impl_Formula a0.Parts (fun y0=>impl_hasForm_1N n y0)) fun v74=>
 some (!v74)
 else
 some false
 else
 some false
 else
 some false
 else
 some false
def impl_hasForm_1N:Nat→Ft→Option Bool
 | 0,_=>none
 | n+1,a0=>
 ae (impl_hasFormN n a0) fun v4=>
 some (!v4)
end
def impl_hasForm(a0:Ft):Option Bool:=lim fun n=>impl_hasFormN n a0
def impl_hasForm_1(a0:Ft):Option Bool:=lim fun n=>impl_hasForm_1N n a0

def impl_IsValidFormula(a0:Ft):Option Bool:=
 ae (impl_sizeOf a0) fun v4=>
 bif decide (v4≤40) then
 ae (impl_hasForm a0) fun v8=>
 some v8
 else
 some false

mutual
def impl_copyTermN:Nat→Tt→Option Tt
 | 0,_=>none
 | n+1,a0=>
 ae (impl_copyTermsN n a0.Args) fun v7=>
 some (Tt.mk a0.Name v7)
def impl_copyTermsN:Nat→(List Tt)→Option (List Tt)
 | 0,_=>none
 | n+1,a0=>
 bif decide ((a0.length:Int)=0) then
 some ([])
 else
 ae (mkn (a0.length:Int)) fun n11=>
 thenL (ρ:=(List Tt)) (σ:=(List Tt)) (forN (fun (i5:Nat) (s5:(List Tt))=>
 ae (idx a0 (i5:Int)) fun v17=>
 ae (impl_copyTermN n v17) fun v22=>
 ae (idx s5 (i5:Int)) fun v23=>
 ae (idx s5 (i5:Int)) fun w3=>
 some (.nx (s5.set (i5:Int).toNat v22))) a0.length 0 (List.replicate n11 (Tt.mk ⟨#[]⟩ ([])))) fun s5=>
 some s5
end
def impl_copyTerm(a0:Tt):Option Tt:=lim fun n=>impl_copyTermN n a0
def impl_copyTerms(a0:List Tt):Option (List Tt):=lim fun n=>impl_copyTermsN n a0

def impl_mapParts(a0:Ft)(a1:Ft→Option Ft):Option Ft:=
 ae (impl_copyTerm a0.Atom) fun v12=>
 thenL (ρ:=Ft) (σ:=(List Ft)) (forN (fun (i3:Nat) (s3:(List Ft))=>
 ae (idx a0.Parts (i3:Int)) fun v21=>
 ae (a1 v21) fun v27=>
 ae (app s3 ([v27])) fun v29=>
 some (.nx v29)) a0.Parts.length 0 ([])) fun s3=>
 some (Ft.mk a0.Op v12 a0.Var s3)

def impl_isConstant(a0:Ft):Option Bool:=
 bif decide (a0.Op=1) then
 some true
 else
 some (decide (a0.Op=2))

def slices_EqualFunc_Simpl_Term_Simpl_Term_impl_Term_impl_Term(a0:List Tt)(a1:List Tt)(a2:Tt→Tt→Option Bool):Option Bool:=
 bif decide ((a0.length:Int)=(a1.length:Int)) then
 thenL (ρ:=Bool) (σ:=Unit) (forN (fun (i4:Nat) (s4:Unit)=>
 ae (idx a0 (i4:Int)) fun v20=>
 ae (idx a1 (i4:Int)) fun v24=>
 ae (a2 v20 v24) fun v29=>
 bif v29 then
 some (.nx ())
 else
 some (.rt false)) a0.length 0 ()) fun s4=>
 some true
 else
 some false

def impl_EqualTermsN:Nat→Tt→Tt→Option Bool
 | 0,_,_=>none
 | n+1,a0,a1=>
 bif decide (a0.Name=a1.Name) then
 ae (slices_EqualFunc_Simpl_Term_Simpl_Term_impl_Term_impl_Term a0.Args a1.Args (fun y0 y1=>impl_EqualTermsN n y0 y1)) fun v15=>
 some v15
 else
 some false
def impl_EqualTerms(a0:Tt)(a1:Tt):Option Bool:=lim fun n=>impl_EqualTermsN n a0 a1

def slices_EqualFunc_Simpl_Formula_Simpl_Formula_impl_Formula_impl_Formula(a0:List Ft)(a1:List Ft)(a2:Ft→Ft→Option Bool):Option Bool:=
 bif decide ((a0.length:Int)=(a1.length:Int)) then
 thenL (ρ:=Bool) (σ:=Unit) (forN (fun (i4:Nat) (s4:Unit)=>
 ae (idx a0 (i4:Int)) fun v20=>
 ae (idx a1 (i4:Int)) fun v24=>
 ae (a2 v20 v24) fun v29=>
 bif v29 then
 some (.nx ())
 else
 some (.rt false)) a0.length 0 ()) fun s4=>
 some true
 else
 some false

def impl_sameFormulaN:Nat→Ft→Ft→Option Bool
 | 0,_,_=>none
 | n+1,a0,a1=>
 bif decide (a0.Op=a1.Op) then
 ae (impl_EqualTerms a0.Atom a1.Atom) fun v15=>
 bif v15 then
 bif decide (a0.Var=a1.Var) then
 ae (slices_EqualFunc_Simpl_Formula_Simpl_Formula_impl_Formula_impl_Formula a0.Parts a1.Parts (fun y0 y1=>impl_sameFormulaN n y0 y1)) fun v29=>
 some v29
 else
 some false
 else
 some false
 else
 some false
def impl_sameFormula(a0:Ft)(a1:Ft):Option Bool:=lim fun n=>impl_sameFormulaN n a0 a1

def impl_binary(a0:Int)(a1:Ft)(a2:Ft):Option Ft:=
 some (Ft.mk a0 (Tt.mk ⟨#[]⟩ ([])) (⟨#[]⟩:ByteArray) ([a1,a2]))

def impl_simplified(a0:Int)(a1:Int)(a2:Int)(a3:Ft)(a4:Ft):Option Ft:=
 bif decide (a3.Op=a1) then
 some (Ft.mk a1 (Tt.mk ⟨#[]⟩ ([])) (⟨#[]⟩:ByteArray) ([]))
 else
 bif decide (a4.Op=a1) then
 some (Ft.mk a1 (Tt.mk ⟨#[]⟩ ([])) (⟨#[]⟩:ByteArray) ([]))
 else
 bif decide (a3.Op=a2) then
 some a4
 else
 bif decide (a4.Op=a2) then
 some a3
 else
 ae (impl_sameFormula a3 a4) fun v38=>
 bif v38 then
 some a3
 else
 ae (impl_binary a0 a3 a4) fun v44=>
 some v44

def impl_conjunction(a0:Ft)(a1:Ft):Option Ft:=
 ae (impl_simplified 5 2 1 a0 a1) fun v7=>
 some v7

def impl_disjoined(a0:Ft)(a1:Ft):Option Ft:=
 ae (impl_simplified 6 1 2 a0 a1) fun v7=>
 some v7

def impl_not(a0:Ft):Option Ft:=
 some (Ft.mk 4 (Tt.mk ⟨#[]⟩ ([])) (⟨#[]⟩:ByteArray) ([a0]))

def impl_implication(a0:Ft)(a1:Ft):Option Ft:=
 bif decide (a0.Op=1) then
 some a1
 else
 bif decide (a0.Op=2) then
 some (Ft.mk 1 (Tt.mk ⟨#[]⟩ ([])) (⟨#[]⟩:ByteArray) ([]))
 else
 bif decide (a1.Op=1) then
 some (Ft.mk 1 (Tt.mk ⟨#[]⟩ ([])) (⟨#[]⟩:ByteArray) ([]))
 else
 ae (impl_sameFormula a0 a1) fun v22=>
 bif v22 then
 some (Ft.mk 1 (Tt.mk ⟨#[]⟩ ([])) (⟨#[]⟩:ByteArray) ([]))
 else
 bif decide (a1.Op=2) then
 ae (impl_not a0) fun v30=>
 some v30
 else
 ae (impl_binary 7 a0 a1) fun v33=>
 some v33

def impl_simplifyN:Nat→Ft→Option Ft
 | 0,_=>none
 | n+1,a0=>
 ae (impl_mapParts a0 (fun y0=>impl_simplifyN n y0)) fun v5=>
 bif decide (a0.Op=4) then
 ae (idx v5.Parts 0) fun v12=>
 ae (impl_isConstant v12) fun v14=>
 bif v14 then
 ae (idx v5.Parts 0) fun v17=>
 some (Ft.mk (IntKind.i64.wrap ((3:Int)-v17.Op)) (Tt.mk ⟨#[]⟩ ([])) (⟨#[]⟩:ByteArray) ([]))
 else
 some v5
 else
 bif decide (a0.Op=5) then
 ae (idx v5.Parts 0) fun v26=>
 ae (idx v5.Parts 1) fun v30=>
 ae (impl_conjunction v26 v30) fun v32=>
 some v32
 else
 bif decide (a0.Op=6) then
 ae (idx v5.Parts 0) fun v37=>
 ae (idx v5.Parts 1) fun v41=>
 ae (impl_disjoined v37 v41) fun v43=>
 some v43
 else
 bif decide (a0.Op=7) then
 ae (idx v5.Parts 0) fun v48=>
 ae (idx v5.Parts 1) fun v52=>
 ae (impl_implication v48 v52) fun v54=>
 some v54
 else
 bif decide (a0.Op=8) then
 ae (idx v5.Parts 0) fun v60=>
 ae (impl_isConstant v60) fun v62=>
 bif v62 then
 ae (idx v5.Parts 0) fun v65=>
 some v65
 else
 some v5
 else
 bif decide (a0.Op=9) then
 ae (idx v5.Parts 0) fun v60=>
 ae (impl_isConstant v60) fun v62=>
 bif v62 then
 ae (idx v5.Parts 0) fun v65=>
 some v65
 else
 some v5
 else
 some v5
def impl_simplify(a0:Ft):Option Ft:=lim fun n=>impl_simplifyN n a0

def impl_SimplifyFormula(a0:Ft):Option (Ft×Bool):=
 ae (impl_IsValidFormula a0) fun v5=>
 bif v5 then
 ae (impl_simplify a0) fun v9=>
 some (v9,true)
 else
 some ((Ft.mk 0 (Tt.mk ⟨#[]⟩ ([])) (⟨#[]⟩:ByteArray) ([])),false)

def spec_l8ManyN:Nat→Ft→Int→Option Int
 | 0,_,_=>none
 | n+1,a0,a1=>
 thenL (ρ:=Int) (σ:=Int) (forN (fun (i3:Nat) (s3:Int)=>
 bif decide (s3≤a1) then
 ae (idx a0.Parts (i3:Int)) fun v23=>
 ae (spec_l8ManyN n v23 (IntKind.i64.wrap (a1-s3))) fun v28=>
 some (.nx (IntKind.i64.wrap (s3+v28)))
 else
 some (.rt s3)) a0.Parts.length 0 (1:Int)) fun s3=>
 some s3
def spec_l8Many(a0:Ft)(a1:Int):Option Int:=lim fun n=>spec_l8ManyN n a0 a1

def spec_l8None(a0:Tt):Option Bool:=
 bif decide (a0.Name=(⟨#[]⟩:ByteArray)) then
 some (decide ((a0.Args.length:Int)=0))
 else
 some false

def spec_l2ManyN:Nat→Tt→Int→Option Int
 | 0,_,_=>none
 | n+1,a0,a1=>
 thenL (ρ:=Int) (σ:=Int) (forN (fun (i3:Nat) (s3:Int)=>
 bif decide (s3≤a1) then
 ae (idx a0.Args (i3:Int)) fun v23=>
 ae (spec_l2ManyN n v23 (IntKind.i64.wrap (a1-s3))) fun v28=>
 some (.nx (IntKind.i64.wrap (s3+v28)))
 else
 some (.rt s3)) a0.Args.length 0 (1:Int)) fun s3=>
 some s3
def spec_l2Many(a0:Tt)(a1:Int):Option Int:=lim fun n=>spec_l2ManyN n a0 a1

def spec_l1Most(a0:Int)(a1:Int):Option Int:=
 bif decide (a1<a0) then
 some a0
 else
 some a1

def spec_l2DepthN:Nat→Tt→Option Int
 | 0,_=>none
 | n+1,a0=>
 thenL (ρ:=Int) (σ:=Int) (forN (fun (i3:Nat) (s3:Int)=>
 ae (idx a0.Args (i3:Int)) fun v16=>
 ae (spec_l2DepthN n v16) fun v18=>
 ae (spec_l1Most s3 v18) fun v19=>
 some (.nx v19)) a0.Args.length 0 (0:Int)) fun s3=>
 some (IntKind.i64.wrap (s3+1))
def spec_l2Depth(a0:Tt):Option Int:=lim fun n=>spec_l2DepthN n a0

def spec_l2Fits(a0:Tt):Option Bool:=
 ae (spec_l2Many a0 30) fun v4=>
 bif decide (v4≤30) then
 ae (spec_l2Depth a0) fun v8=>
 some (decide (v8≤8))
 else
 some false

def spec_l1In(a0:Int)(a1:Int)(a2:Int):Option Bool:=
 bif decide (a1≤a0) then
 some (decide (a0≤a2))
 else
 some false

def spec_l2Small(a0:Int):Option Bool:=
 bif decide (97≤a0) then
 bif decide (a0≤122) then
 some true
 else
 bif decide (48≤a0) then
 some (decide (a0≤57))
 else
 some false
 else
 bif decide (48≤a0) then
 some (decide (a0≤57))
 else
 some false

def spec_l2Var(a0:ByteArray):Option Bool:=
 ae (spec_l1In (a0.size:Int) 1 4) fun v6=>
 bif v6 then
 ae (sidx a0 (0:Int)) fun v10=>
 bif decide (v10<65) then
 some false
 else
 ae (sidx a0 (0:Int)) fun v15=>
 bif decide (90<v15) then
 some false
 else
 ae (bnd (a0.size:Int)) fun N4=>
 thenL (ρ:=Bool) (σ:=Unit) (forN (fun (i4:Nat) (s4:Unit)=>
 ae (sidx a0 (i4:Int)) fun v26=>
 ae (spec_l2Small v26) fun v27=>
 bif v27 then
 some (.nx ())
 else
 some (.rt false)) (N4-1) 1 ()) fun s4=>
 some true
 else
 some false

def spec_l2Symbol(a0:ByteArray):Option Bool:=
 ae (spec_l1In (a0.size:Int) 1 6) fun v6=>
 bif v6 then
 ae (sidx a0 (0:Int)) fun v10=>
 bif decide (v10<97) then
 some false
 else
 ae (sidx a0 (0:Int)) fun v15=>
 bif decide (122<v15) then
 some false
 else
 bif decide (a0=(⟨#[116,114,117,101]⟩:ByteArray)) then
 some false
 else
 bif decide (a0=(⟨#[102,97,108,115,101]⟩:ByteArray)) then
 some false
 else
 bif decide (a0=(⟨#[116,114,117,116,104]⟩:ByteArray)) then
 some false
 else
 bif decide (a0=(⟨#[98,111,116,104]⟩:ByteArray)) then
 some false
 else
 bif decide (a0=(⟨#[101,105,116,104,101,114]⟩:ByteArray)) then
 some false
 else
 bif decide (a0=(⟨#[105,102]⟩:ByteArray)) then
 some false
 else
 bif decide (a0=(⟨#[97,108,108]⟩:ByteArray)) then
 some false
 else
 bif decide (a0=(⟨#[115,111,109,101]⟩:ByteArray)) then
 some false
 else
 ae (bnd (a0.size:Int)) fun N14=>
 thenL (ρ:=Bool) (σ:=Unit) (forN (fun (i14:Nat) (s14:Unit)=>
 ae (sidx a0 (i14:Int)) fun v36=>
 ae (spec_l2Small v36) fun v37=>
 bif v37 then
 some (.nx ())
 else
 ae (sidx a0 (i14:Int)) fun v42=>
 bif decide (v42=95) then
 some (.nx ())
 else
 some (.rt false)) (N14-1) 1 ()) fun s14=>
 some true
 else
 some false

def spec_l2NodesN:Nat→Tt→Option Bool
 | 0,_=>none
 | n+1,a0=>
 ae (spec_l2Var a0.Name) fun v6=>
 bif v6 then
 some (decide ((a0.Args.length:Int)=0))
 else
 ae (spec_l2Symbol a0.Name) fun v13=>
 bif v13 then
 bif decide (4<(a0.Args.length:Int)) then
 some false
 else
 thenL (ρ:=Bool) (σ:=Unit) (forN (fun (i6:Nat) (s6:Unit)=>
 ae (idx a0.Args (i6:Int)) fun v31=>
 ae (spec_l2NodesN n v31) fun v33=>
 bif v33 then
 some (.nx ())
 else
 some (.rt false)) a0.Args.length 0 ()) fun s6=>
 some true
 else
 some false
def spec_l2Nodes(a0:Tt):Option Bool:=lim fun n=>spec_l2NodesN n a0

def spec_l2Good(a0:Tt):Option Bool:=
 ae (spec_l2Fits a0) fun v4=>
 bif v4 then
 ae (spec_l2Nodes a0) fun v7=>
 some v7
 else
 some false

def spec_l2Atom(a0:Tt):Option Bool:=
 bif decide (a0.Name=(⟨#[61]⟩:ByteArray)) then
 bif decide ((a0.Args.length:Int)=2) then
 ae (spec_l2Fits a0) fun v12=>
 bif v12 then
 ae (idx a0.Args 0) fun v17=>
 ae (spec_l2Nodes v17) fun v19=>
 bif v19 then
 ae (idx a0.Args 1) fun v24=>
 ae (spec_l2Nodes v24) fun v26=>
 some v26
 else
 some false
 else
 some false
 else
 some false
 else
 ae (spec_l2Symbol a0.Name) fun v30=>
 bif v30 then
 ae (spec_l2Good a0) fun v33=>
 some v33
 else
 some false

def spec_l8Form(a0:Ft):Option Bool:=
 bif decide (a0.Op=1) then
 bif decide ((a0.Parts.length:Int)=0) then
 ae (spec_l8None a0.Atom) fun v17=>
 bif v17 then
 some (decide (a0.Var=(⟨#[]⟩:ByteArray)))
 else
 some false
 else
 some false
 else
 bif decide (a0.Op=2) then
 bif decide ((a0.Parts.length:Int)=0) then
 ae (spec_l8None a0.Atom) fun v17=>
 bif v17 then
 some (decide (a0.Var=(⟨#[]⟩:ByteArray)))
 else
 some false
 else
 some false
 else
 bif decide (a0.Op=3) then
 bif decide ((a0.Parts.length:Int)=0) then
 ae (spec_l2Atom a0.Atom) fun v31=>
 bif v31 then
 some (decide (a0.Var=(⟨#[]⟩:ByteArray)))
 else
 some false
 else
 some false
 else
 bif decide (a0.Op=4) then
 bif decide ((a0.Parts.length:Int)=1) then
 ae (spec_l8None a0.Atom) fun v45=>
 bif v45 then
 some (decide (a0.Var=(⟨#[]⟩:ByteArray)))
 else
 some false
 else
 some false
 else
 bif decide (a0.Op=5) then
 bif decide ((a0.Parts.length:Int)=2) then
 ae (spec_l8None a0.Atom) fun v61=>
 bif v61 then
 some (decide (a0.Var=(⟨#[]⟩:ByteArray)))
 else
 some false
 else
 some false
 else
 bif decide (a0.Op=6) then
 bif decide ((a0.Parts.length:Int)=2) then
 ae (spec_l8None a0.Atom) fun v61=>
 bif v61 then
 some (decide (a0.Var=(⟨#[]⟩:ByteArray)))
 else
 some false
 else
 some false
 else
 bif decide (a0.Op=7) then
 bif decide ((a0.Parts.length:Int)=2) then
 ae (spec_l8None a0.Atom) fun v61=>
 bif v61 then
 some (decide (a0.Var=(⟨#[]⟩:ByteArray)))
 else
 some false
 else
 some false
 else
 bif decide (a0.Op=8) then
 bif decide ((a0.Parts.length:Int)=1) then
 ae (spec_l8None a0.Atom) fun v76=>
 bif v76 then
 ae (spec_l2Var a0.Var) fun v81=>
 some v81
 else
 some false
 else
 some false
 else
 bif decide (a0.Op=9) then
 bif decide ((a0.Parts.length:Int)=1) then
 ae (spec_l8None a0.Atom) fun v76=>
 bif v76 then
 ae (spec_l2Var a0.Var) fun v81=>
 some v81
 else
 some false
 else
 some false
 else
 some false

def spec_l8FormsN:Nat→Ft→Option Bool
 | 0,_=>none
 | n+1,a0=>
 ae (spec_l8Form a0) fun v5=>
 bif v5 then
 thenL (ρ:=Bool) (σ:=Unit) (forN (fun (i4:Nat) (s4:Unit)=>
 ae (idx a0.Parts (i4:Int)) fun v17=>
 ae (spec_l8FormsN n v17) fun v19=>
 bif v19 then
 some (.nx ())
 else
 some (.rt false)) a0.Parts.length 0 ()) fun s4=>
 some true
 else
 some false
def spec_l8Forms(a0:Ft):Option Bool:=lim fun n=>spec_l8FormsN n a0

def spec_l8Good(a0:Ft):Option Bool:=
 ae (spec_l8Many a0 40) fun v4=>
 bif decide (v4≤40) then
 ae (spec_l8Forms a0) fun v8=>
 some v8
 else
 some false

def spec_l2OwnN:Nat→Tt→Option Tt
 | 0,_=>none
 | n+1,a0=>
 thenL (ρ:=Tt) (σ:=(List Tt)) (forN (fun (i3:Nat) (s3:(List Tt))=>
 ae (idx a0.Args (i3:Int)) fun v20=>
 ae (spec_l2OwnN n v20) fun v22=>
 ae (app s3 ([v22])) fun v24=>
 some (.nx v24)) a0.Args.length 0 ([])) fun s3=>
 some (Tt.mk a0.Name s3)
def spec_l2Own(a0:Tt):Option Tt:=lim fun n=>spec_l2OwnN n a0

def spec_l8OwnN:Nat→Ft→Option Ft
 | 0,_=>none
 | n+1,a0=>
 ae (spec_l2Own a0.Atom) fun v9=>
 thenL (ρ:=Ft) (σ:=(List Ft)) (forN (fun (i3:Nat) (s3:(List Ft))=>
 ae (idx a0.Parts (i3:Int)) fun v25=>
 ae (spec_l8OwnN n v25) fun v27=>
 ae (app s3 ([v27])) fun v29=>
 some (.nx v29)) a0.Parts.length 0 ([])) fun s3=>
 some (Ft.mk a0.Op v9 a0.Var s3)
def spec_l8Own(a0:Ft):Option Ft:=lim fun n=>spec_l8OwnN n a0

def spec_l20Constant(a0:Ft):Option Bool:=
 bif decide (a0.Op=1) then
 some true
 else
 some (decide (a0.Op=2))

def spec_l2SameN:Nat→Tt→Tt→Option Bool
 | 0,_,_=>none
 | n+1,a0,a1=>
 bif decide (a0.Name=a1.Name) then
 bif decide ((a0.Args.length:Int)=(a1.Args.length:Int)) then
 thenL (ρ:=Bool) (σ:=Unit) (forN (fun (i4:Nat) (s4:Unit)=>
 ae (idx a0.Args (i4:Int)) fun v30=>
 ae (idx a1.Args (i4:Int)) fun v35=>
 ae (spec_l2SameN n v30 v35) fun v37=>
 bif v37 then
 some (.nx ())
 else
 some (.rt false)) a0.Args.length 0 ()) fun s4=>
 some true
 else
 some false
 else
 some false
def spec_l2Same(a0:Tt)(a1:Tt):Option Bool:=lim fun n=>spec_l2SameN n a0 a1

def spec_l8SameN:Nat→Ft→Ft→Option Bool
 | 0,_,_=>none
 | n+1,a0,a1=>
 bif decide (a0.Op=a1.Op) then
 bif decide (a0.Var=a1.Var) then
 ae (spec_l2Same a0.Atom a1.Atom) fun v23=>
 bif v23 then
 bif decide ((a0.Parts.length:Int)=(a1.Parts.length:Int)) then
 thenL (ρ:=Bool) (σ:=Unit) (forN (fun (i4:Nat) (s4:Unit)=>
 ae (idx a0.Parts (i4:Int)) fun v45=>
 ae (idx a1.Parts (i4:Int)) fun v50=>
 ae (spec_l8SameN n v45 v50) fun v52=>
 bif v52 then
 some (.nx ())
 else
 some (.rt false)) a0.Parts.length 0 ()) fun s4=>
 some true
 else
 some false
 else
 some false
 else
 some false
 else
 some false
def spec_l8Same(a0:Ft)(a1:Ft):Option Bool:=lim fun n=>spec_l8SameN n a0 a1

def spec_l20Two(a0:Int)(a1:Ft)(a2:Ft):Option Ft:=
 bif decide (a0=6) then
 bif decide (a1.Op=1) then
 some (Ft.mk 1 (Tt.mk ⟨#[]⟩ ([])) (⟨#[]⟩:ByteArray) ([]))
 else
 bif decide (a2.Op=1) then
 some (Ft.mk 1 (Tt.mk ⟨#[]⟩ ([])) (⟨#[]⟩:ByteArray) ([]))
 else
 bif decide (a1.Op=2) then
 ae (spec_l8Own a2) fun v30=>
 some v30
 else
 bif decide (a2.Op=2) then
 ae (spec_l8Own a1) fun v42=>
 some v42
 else
 ae (spec_l8Same a1 a2) fun v39=>
 bif v39 then
 ae (spec_l8Own a1) fun v42=>
 some v42
 else
 ae (spec_l8Own a1) fun v45=>
 ae (spec_l8Own a2) fun v47=>
 some (Ft.mk a0 (Tt.mk ⟨#[]⟩ ([])) (⟨#[]⟩:ByteArray) ([v45,v47]))
 else
 bif decide (a1.Op=2) then
 some (Ft.mk 2 (Tt.mk ⟨#[]⟩ ([])) (⟨#[]⟩:ByteArray) ([]))
 else
 bif decide (a2.Op=2) then
 some (Ft.mk 2 (Tt.mk ⟨#[]⟩ ([])) (⟨#[]⟩:ByteArray) ([]))
 else
 bif decide (a1.Op=1) then
 ae (spec_l8Own a2) fun v30=>
 some v30
 else
 bif decide (a2.Op=1) then
 ae (spec_l8Own a1) fun v42=>
 some v42
 else
 ae (spec_l8Same a1 a2) fun v39=>
 bif v39 then
 ae (spec_l8Own a1) fun v42=>
 some v42
 else
 ae (spec_l8Own a1) fun v45=>
 ae (spec_l8Own a2) fun v47=>
 some (Ft.mk a0 (Tt.mk ⟨#[]⟩ ([])) (⟨#[]⟩:ByteArray) ([v45,v47]))

def spec_l20SimpleN:Nat→Ft→Option Ft
 | 0,_=>none
 | n+1,a0=>
 bif decide ((a0.Parts.length:Int)=0) then
 ae (spec_l8Own a0) fun v10=>
 some v10
 else
 ae (idx a0.Parts 0) fun v13=>
 ae (spec_l20SimpleN n v13) fun v15=>
 bif decide (a0.Op=4) then
 ae (spec_l20Constant v15) fun v21=>
 bif v21 then
 some (Ft.mk (IntKind.i64.wrap ((3:Int)-v15.Op)) (Tt.mk ⟨#[]⟩ ([])) (⟨#[]⟩:ByteArray) ([]))
 else
 some (Ft.mk 4 (Tt.mk ⟨#[]⟩ ([])) (⟨#[]⟩:ByteArray) ([v15]))
 else
 bif decide (a0.Op=8) then
 ae (spec_l20Constant v15) fun v33=>
 bif v33 then
 some v15
 else
 some (Ft.mk a0.Op (Tt.mk ⟨#[]⟩ ([])) a0.Var ([v15]))
 else
 bif decide (a0.Op=9) then
 ae (spec_l20Constant v15) fun v33=>
 bif v33 then
 some v15
 else
 some (Ft.mk a0.Op (Tt.mk ⟨#[]⟩ ([])) a0.Var ([v15]))
 else
 ae (idx a0.Parts 1) fun v44=>
 ae (spec_l20SimpleN n v44) fun v46=>
 bif decide (a0.Op=7) then
 bif decide (v15.Op=1) then
 some v46
 else
 bif decide (v15.Op=2) then
 some (Ft.mk 1 (Tt.mk ⟨#[]⟩ ([])) (⟨#[]⟩:ByteArray) ([]))
 else
 bif decide (v46.Op=1) then
 some (Ft.mk 1 (Tt.mk ⟨#[]⟩ ([])) (⟨#[]⟩:ByteArray) ([]))
 else
 ae (spec_l8Same v15 v46) fun v72=>
 bif v72 then
 some (Ft.mk 1 (Tt.mk ⟨#[]⟩ ([])) (⟨#[]⟩:ByteArray) ([]))
 else
 bif decide (v46.Op=2) then
 some (Ft.mk 4 (Tt.mk ⟨#[]⟩ ([])) (⟨#[]⟩:ByteArray) ([v15]))
 else
 some (Ft.mk 7 (Tt.mk ⟨#[]⟩ ([])) (⟨#[]⟩:ByteArray) ([v15,v46]))
 else
 ae (spec_l20Two a0.Op v15 v46) fun v54=>
 some v54
def spec_l20Simple(a0:Ft):Option Ft:=lim fun n=>spec_l20SimpleN n a0

def spec_SimplifyFormula(a0:Ft):Option (Ft×Bool):=
 ae (spec_l8Good a0) fun v5=>
 bif v5 then
 ae (spec_l20Simple a0) fun v9=>
 some (v9,true)
 else
 some ((Ft.mk 0 (Tt.mk ⟨#[]⟩ ([])) (⟨#[]⟩:ByteArray) ([])),false)

def spec_FormulaSize(a0:Ft):Option (Int×Bool):=
 ae (spec_l8Good a0) fun v5=>
 bif v5 then
 ae (spec_l8Size a0) fun v8=>
 some (v8,true)
 else
 some ((0:Int),false)

def vTermsN:Nat→Tt→Tt→Option Bool
 | 0,_,_=>none
 | n+1,a0,a1=>
 bif decide (a0.Name=a1.Name) then
 bif decide ((a0.Args.length:Int)=(a1.Args.length:Int)) then
 thenL (ρ:=Bool) (σ:=Unit) (forN (fun (i4:Nat) (s4:Unit)=>
 ae (idx a0.Args (i4:Int)) fun v30=>
 ae (idx a1.Args (i4:Int)) fun v35=>
 ae (vTermsN n v30 v35) fun v37=>
 bif v37 then
 some (.nx ())
 else
 some (.rt false)) a0.Args.length 0 ()) fun s4=>
 some true
 else
 some false
 else
 some false
def vTerms(a0:Tt)(a1:Tt):Option Bool:=lim fun n=>vTermsN n a0 a1

def vFormulasN:Nat→Ft→Ft→Option Bool
 | 0,_,_=>none
 | n+1,a0,a1=>
 bif decide (a0.Op=a1.Op) then
 bif decide (a0.Var=a1.Var) then
 ae (vTerms a0.Atom a1.Atom) fun v23=>
 bif v23 then
 bif decide ((a0.Parts.length:Int)=(a1.Parts.length:Int)) then
 thenL (ρ:=Bool) (σ:=Unit) (forN (fun (i4:Nat) (s4:Unit)=>
 ae (idx a0.Parts (i4:Int)) fun v45=>
 ae (idx a1.Parts (i4:Int)) fun v50=>
 ae (vFormulasN n v45 v50) fun v52=>
 bif v52 then
 some (.nx ())
 else
 some (.rt false)) a0.Parts.length 0 ()) fun s4=>
 some true
 else
 some false
 else
 some false
 else
 some false
 else
 some false
def vFormulas(a0:Ft)(a1:Ft):Option Bool:=lim fun n=>vFormulasN n a0 a1

def vAt(a0:List Int)(a1:Int):Option Int:=
 bif decide (a1<(a0.length:Int)) then
 ae (idx a0 a1) fun v11=>
 some (IntKind.i64.wrap v11)
 else
 ae (rem (IntKind.i64.wrap ((IntKind.i64.wrap (a1*7))+(a0.length:Int))) (256:Int)) fun v19=>
 some v19

def vEnv__get(a0:vt)(a1:ByteArray):Option Int:=
 thenL (ρ:=Int) (σ:=Int) (lim fun n2=>whileN (fun (s2:Int)=>
 bif decide (0≤s2) then
 ae (idx a0.names s2) fun v17=>
 bif decide (v17=a1) then
 ae (idx a0.values s2) fun v24=>
 some (.rt v24)
 else
 some (.nx (IntKind.i64.wrap (s2-1)))
 else
 some (.br s2)) n2 (IntKind.i64.wrap ((a0.names.length:Int)-1))) fun s2=>
 some (0:Int)

def vMix(a0:List Int)(a1:ByteArray)(a2:List Int):Option Int:=
 ae (bnd (a1.size:Int)) fun N3=>
 thenL (ρ:=Int) (σ:=Int) (forN (fun (i3:Nat) (s3:Int)=>
 ae (sidx a1 (i3:Int)) fun v20=>
 ae (rem (IntKind.i64.wrap ((IntKind.i64.wrap ((31:Int)*s3))+(IntKind.i64.wrap v20))) (65521:Int)) fun v23=>
 some (.nx v23)) N3 0 (17:Int)) fun s3=>
 thenL (ρ:=Int) (σ:=Int) (forN (fun (i7:Nat) (s7:Int)=>
 ae (idx a2 (i7:Int)) fun v34=>
 ae (rem (IntKind.i64.wrap ((IntKind.i64.wrap ((IntKind.i64.wrap ((37:Int)*s7))+v34))+1)) (65521:Int)) fun v38=>
 some (.nx v38)) a2.length 0 s3) fun s7=>
 ae (rem s7 (53:Int)) fun v42=>
 ae (vAt a0 v42) fun v43=>
 ae (rem s7 (89:Int)) fun v48=>
 ae (vAt a0 v48) fun v49=>
 ae (quo (IntKind.i64.wrap ((IntKind.i64.wrap (s7+(IntKind.i64.wrap ((13:Int)*v43))))+v49)) (3:Int)) fun v51=>
 some v51

def vValueN:Nat→(List Int)→Int→vt→Tt→Option Int
 | 0,_,_,_,_=>none
 | n+1,a0,a1,a2,a3=>
 bif decide ((a3.Args.length:Int)=0) then
 bif decide (0<(a3.Name.size:Int)) then
 ae (sidx a3.Name (0:Int)) fun v24=>
 bif decide (65≤v24) then
 ae (sidx a3.Name (0:Int)) fun v30=>
 bif decide (v30≤90) then
 ae (vEnv__get a2 a3.Name) fun v36=>
 some v36
 else
 thenL (ρ:=Int) (σ:=(List Int)) (forN (fun (i5:Nat) (s5:(List Int))=>
 ae (idx a3.Args (i5:Int)) fun v52=>
 ae (vValueN n a0 a1 a2 v52) fun v54=>
 ae (app s5 ([v54])) fun v56=>
 some (.nx v56)) a3.Args.length 0 ([])) fun s5=>
 ae (vMix a0 a3.Name s5) fun v61=>
 ae (rem v61 a1) fun v63=>
 some v63
 else
 thenL (ρ:=Int) (σ:=(List Int)) (forN (fun (i5:Nat) (s5:(List Int))=>
 ae (idx a3.Args (i5:Int)) fun v52=>
 ae (vValueN n a0 a1 a2 v52) fun v54=>
 ae (app s5 ([v54])) fun v56=>
 some (.nx v56)) a3.Args.length 0 ([])) fun s5=>
 ae (vMix a0 a3.Name s5) fun v61=>
 ae (rem v61 a1) fun v63=>
 some v63
 else
 thenL (ρ:=Int) (σ:=(List Int)) (forN (fun (i5:Nat) (s5:(List Int))=>
 ae (idx a3.Args (i5:Int)) fun v52=>
 ae (vValueN n a0 a1 a2 v52) fun v54=>
 ae (app s5 ([v54])) fun v56=>
 some (.nx v56)) a3.Args.length 0 ([])) fun s5=>
 ae (vMix a0 a3.Name s5) fun v61=>
 ae (rem v61 a1) fun v63=>
 some v63
 else
 thenL (ρ:=Int) (σ:=(List Int)) (forN (fun (i5:Nat) (s5:(List Int))=>
 ae (idx a3.Args (i5:Int)) fun v52=>
 ae (vValueN n a0 a1 a2 v52) fun v54=>
 ae (app s5 ([v54])) fun v56=>
 some (.nx v56)) a3.Args.length 0 ([])) fun s5=>
 ae (vMix a0 a3.Name s5) fun v61=>
 ae (rem v61 a1) fun v63=>
 some v63
def vValue(a0:List Int)(a1:Int)(a2:vt)(a3:Tt):Option Int:=lim fun n=>vValueN n a0 a1 a2 a3

def vHolds(a0:List Int)(a1:Int)(a2:vt)(a3:Tt):Option Bool:=
 thenL (ρ:=Bool) (σ:=(List Int)) (forN (fun (i3:Nat) (s3:(List Int))=>
 ae (idx a3.Args (i3:Int)) fun v26=>
 ae (vValue a0 a1 a2 v26) fun v28=>
 ae (app s3 ([v28])) fun v30=>
 some (.nx v30)) a3.Args.length 0 ([])) fun s3=>
 bif decide (a3.Name=(⟨#[61]⟩:ByteArray)) then
 bif decide ((s3.length:Int)=2) then
 ae (idx s3 0) fun v40=>
 ae (idx s3 0) fun v41=>
 ae (idx s3 1) fun v43=>
 ae (idx s3 1) fun v44=>
 some (decide (v41=v44))
 else
 ae (sapp (⟨#[126]⟩:ByteArray) a3.Name) fun v49=>
 ae (vMix a0 v49 s3) fun v51=>
 ae (rem v51 (2:Int)) fun v52=>
 some (decide (v52=1))
 else
 ae (sapp (⟨#[126]⟩:ByteArray) a3.Name) fun v49=>
 ae (vMix a0 v49 s3) fun v51=>
 ae (rem v51 (2:Int)) fun v52=>
 some (decide (v52=1))

def vEnv__with(a0:vt)(a1:ByteArray)(a2:Int):Option vt:=
 ae (app ([]) a0.names) fun v10=>
 ae (app v10 ([a1])) fun v13=>
 ae (app ([]) a0.values) fun v17=>
 ae (app v17 ([a2])) fun v20=>
 some (vt.mk v13 v20)

def vTrueN:Nat→(List Int)→Int→vt→Ft→Option Bool
 | 0,_,_,_,_=>none
 | n+1,a0,a1,a2,a3=>
 bif decide (a3.Op=1) then
 some true
 else
 bif decide (a3.Op=2) then
 some false
 else
 bif decide (a3.Op=3) then
 ae (vHolds a0 a1 a2 a3.Atom) fun v23=>
 some v23
 else
 bif decide (a3.Op=4) then
 ae (idx a3.Parts 0) fun v31=>
 ae (vTrueN n a0 a1 a2 v31) fun v33=>
 some (!v33)
 else
 bif decide (a3.Op=5) then
 ae (idx a3.Parts 0) fun v42=>
 ae (vTrueN n a0 a1 a2 v42) fun v44=>
 bif v44 then
 ae (idx a3.Parts 1) fun v51=>
 ae (vTrueN n a0 a1 a2 v51) fun v53=>
 some v53
 else
 some false
 else
 bif decide (a3.Op=6) then
 ae (idx a3.Parts 0) fun v62=>
 ae (vTrueN n a0 a1 a2 v62) fun v64=>
 bif v64 then
 some true
 else
 ae (idx a3.Parts 1) fun v71=>
 ae (vTrueN n a0 a1 a2 v71) fun v73=>
 some v73
 else
 bif decide (a3.Op=7) then
 ae (idx a3.Parts 0) fun v82=>
 ae (vTrueN n a0 a1 a2 v82) fun v84=>
 bif v84 then
 ae (idx a3.Parts 1) fun v92=>
 ae (vTrueN n a0 a1 a2 v92) fun v94=>
 some v94
 else
 some true
 else
 ae (bnd (a1)) fun N17=>
 thenL (ρ:=Bool) (σ:=Unit) (forN (fun (i17:Nat) (s17:Unit)=>
 ae (vEnv__with a2 a3.Var (i17:Int)) fun v107=>
 ae (idx a3.Parts 0) fun v110=>
 ae (vTrueN n a0 a1 v107 v110) fun v112=>
 bif v112==(decide (a3.Op=9)) then
 some (.rt (decide (a3.Op=9)))
 else
 some (.nx ())) N17 0 ()) fun s17=>
 some (decide (a3.Op=8))
def vTrue(a0:List Int)(a1:Int)(a2:vt)(a3:Ft):Option Bool:=lim fun n=>vTrueN n a0 a1 a2 a3

def FnSimplified(a0:List Int):Option Bool:=
 ae (vBig a0) fun v17=>
 bif v17 then
 some true
 else
 ae (spec_DrawSimplifyFormula a0) fun v19=>
 ae (impl_SimplifyFormula v19) fun v22=>
 ae (spec_SimplifyFormula v19) fun v27=>
 bif v22.2==v27.2 then
 bif v22.2 then
 ae (impl_SimplifyFormula v22.1) fun v47=>
 ae (spec_FormulaSize v19) fun v52=>
 ae (spec_FormulaSize v22.1) fun v57=>
 bif v47.2 then
 ae (vFormulas v22.1 v47.1) fun v65=>
 bif v65 then
 bif v52.2 then
 bif v57.2 then
 bif decide (v52.1<v57.1) then
 some false
 else
 thenL (ρ:=Bool) (σ:=Unit) (forN (fun (i14:Nat) (s14:Unit)=>
 ae (vAt a0 (2:Int)) fun v87=>
 ae (rem v87 (i14:Int)) fun v89=>
 ae (vAt a0 (5:Int)) fun v91=>
 ae (rem v91 (i14:Int)) fun v93=>
 ae (vTrue a0 (i14:Int) (vt.mk ([(⟨#[88]⟩:ByteArray),(⟨#[89]⟩:ByteArray),(⟨#[90]⟩:ByteArray)]) ([(0:Int),v89,v93])) v19) fun v100=>
 ae (vTrue a0 (i14:Int) (vt.mk ([(⟨#[88]⟩:ByteArray),(⟨#[89]⟩:ByteArray),(⟨#[90]⟩:ByteArray)]) ([(0:Int),v89,v93])) v22.1) fun v105=>
 bif v100==v105 then
 some (.nx ())
 else
 some (.rt false)) (4-1) 1 ()) fun s14=>
 some true
 else
 some false
 else
 some false
 else
 some false
 else
 some false
 else
 bif false==v27.2 then
 some (decide (v22.1.Op=0))
 else
 some false
 else
 some false

end
end Go.Proofs.Ytlaeidlohpehhaa
