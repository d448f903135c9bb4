/- A part of the proof: lemmas only; nothing is claimed here beyond what each lemma says. -/
import Derived.Test.YtkoghcphkdecoaaGreatGty
set_option linter.unusedSimpArgs false
set_option linter.unusedVariables false
set_option linter.defProp false
set_option maxRecDepth 4000
namespace Go.Proofs.YtkoghcphkdecoaaGreat
open Go.Av
noncomputable section
mutual
def sTN_:Nat→Term→Int→Option Int
 | 0,_,_=>none
 | n+1,a0,a1=>
 bif decide ((IntKind.i64.wrap (a1-(a0.Name.size:Int)))<(0:Int)) then
 some (-1:Int)
 else
 Option.bind (sTS_ n a0.Args (IntKind.i64.wrap (a1-(a0.Name.size:Int)))) fun v15=>
 bif decide (v15<(0:Int)) then
 some (-1:Int)
 else
 some v15
def sTS_:Nat→(List Term)→Int→Option Int
 | 0,_,_=>none
 | n+1,a0,a1=>
 bif decide ((IntKind.i64.wrap (a1-(a0.length:Int)))<(0:Int)) then
 some (-1:Int)
 else
 thenL (ρ:=Int) (σ:=Int) (forN (fun (i5:Nat) (s5:Int)=>
 Option.bind (idx a0 (i5:Int)) fun v20=>
 Option.bind (sTN_ n v20 s5) fun v23=>
 bif decide (v23<(0:Int)) then
 some (.rt (-1:Int))
 else
 some (.nx v23)) a0.length 0 (IntKind.i64.wrap (a1-(a0.length:Int)))) fun s5=>
 some s5
end
def szTerm(a0:Term)(a1:Int):Option Int:=lim fun n=>sTN_ n a0 a1
def sTS_2(a0:List Term)(a1:Int):Option Int:=lim fun n=>sTS_ n a0 a1

mutual
def sFN_:Nat→Formula→Int→Option Int
 | 0,_,_=>none
 | n+1,a0,a1=>
 Option.bind (szTerm a0.Atom a1) fun v8=>
 bif decide (v8<(0:Int)) then
 some (-1:Int)
 else
 bif decide ((IntKind.i64.wrap (v8-(a0.Var.size:Int)))<(0:Int)) then
 some (-1:Int)
 else
 Option.bind (sFS_ n a0.Parts (IntKind.i64.wrap (v8-(a0.Var.size:Int)))) fun v21=>
 bif decide (v21<(0:Int)) then
 some (-1:Int)
 else
 some v21
def sFS_:Nat→(List Formula)→Int→Option Int
 | 0,_,_=>none
 | n+1,a0,a1=>
 bif decide ((IntKind.i64.wrap (a1-(a0.length:Int)))<(0:Int)) then
 some (-1:Int)
 else
 thenL (ρ:=Int) (σ:=Int) (forN (fun (i5:Nat) (s5:Int)=>
 Option.bind (idx a0 (i5:Int)) fun v20=>
 Option.bind (sFN_ n v20 s5) fun v23=>
 bif decide (v23<(0:Int)) then
 some (.rt (-1:Int))
 else
 some (.nx v23)) a0.length 0 (IntKind.i64.wrap (a1-(a0.length:Int)))) fun s5=>
 some s5
end
def sF_(a0:Formula)(a1:Int):Option Int:=lim fun n=>sFN_ n a0 a1
def sFS_1(a0:List Formula)(a1:Int):Option Int:=lim fun n=>sFS_ n a0 a1

def sS_(a0:Sequent)(a1:Int):Option Int:=
 Option.bind (sFS_1 a0.Left a1) fun v8=>
 bif decide (v8<(0:Int)) then
 some (-1:Int)
 else
 Option.bind (sFS_1 a0.Right v8) fun v14=>
 bif decide (v14<(0:Int)) then
 some (-1:Int)
 else
 some v14

mutual
def sDN_:Nat→Derivation→Int→Option Int
 | 0,_,_=>none
 | n+1,a0,a1=>
 Option.bind (sS_ a0.Sequent a1) fun v8=>
 bif decide (v8<(0:Int)) then
 some (-1:Int)
 else
 Option.bind (szTerm a0.Term v8) fun v14=>
 bif decide (v14<(0:Int)) then
 some (-1:Int)
 else
 Option.bind (sF_ a0.Cut v14) fun v20=>
 bif decide (v20<(0:Int)) then
 some (-1:Int)
 else
 Option.bind (sDS_ n a0.Parts v20) fun v26=>
 bif decide (v26<(0:Int)) then
 some (-1:Int)
 else
 some v26
def sDS_:Nat→(List Derivation)→Int→Option Int
 | 0,_,_=>none
 | n+1,a0,a1=>
 bif decide ((IntKind.i64.wrap (a1-(a0.length:Int)))<(0:Int)) then
 some (-1:Int)
 else
 thenL (ρ:=Int) (σ:=Int) (forN (fun (i5:Nat) (s5:Int)=>
 Option.bind (idx a0 (i5:Int)) fun v20=>
 Option.bind (sDN_ n v20 s5) fun v23=>
 bif decide (v23<(0:Int)) then
 some (.rt (-1:Int))
 else
 some (.nx v23)) a0.length 0 (IntKind.i64.wrap (a1-(a0.length:Int)))) fun s5=>
 some s5
end
def sD_(a0:Derivation)(a1:Int):Option Int:=lim fun n=>sDN_ n a0 a1
def sDS_1(a0:List Derivation)(a1:Int):Option Int:=lim fun n=>sDS_ n a0 a1

mutual
def tTN_:Nat→Term→Option Term
 | 0,_=>none
 | n+1,a0=>
 Option.bind (tTS_ n a0.Args) fun v9=>
 some (Term.mk a0.Name v9)
def tTS_:Nat→(List Term)→Option (List Term)
 | 0,_=>none
 | n+1,a0=>
 Option.bind (mkn (a0.length:Int)) fun n7=>
 thenL (ρ:=(List Term)) (σ:=(List Term)) (forN (fun (i3:Nat) (s3:(List Term))=>
 Option.bind (idx a0 (i3:Int)) fun v18=>
 Option.bind (tTN_ n v18) fun v20=>
 Option.bind (idx s3 (i3:Int)) fun v21=>
 Option.bind (idx s3 (i3:Int)) fun w2=>
 some (.nx (s3.set (i3:Int).toNat v20))) a0.length 0 (List.replicate n7 (Term.mk (⟨#[]⟩:ByteArray) ([])))) fun s3=>
 some s3
end
def toTerm(a0:Term):Option Term:=lim fun n=>tTN_ n a0
def tTS_2(a0:List Term):Option (List Term):=lim fun n=>tTS_ n a0

mutual
def tFN_:Nat→Formula→Option Formula
 | 0,_=>none
 | n+1,a0=>
 Option.bind (toTerm a0.Atom) fun v9=>
 Option.bind (tFS_ n a0.Parts) fun v16=>
 some (Formula.mk a0.Op v9 a0.Var v16)
def tFS_:Nat→(List Formula)→Option (List Formula)
 | 0,_=>none
 | n+1,a0=>
 Option.bind (mkn (a0.length:Int)) fun n7=>
 thenL (ρ:=(List Formula)) (σ:=(List Formula)) (forN (fun (i3:Nat) (s3:(List Formula))=>
 Option.bind (idx a0 (i3:Int)) fun v18=>
 Option.bind (tFN_ n v18) fun v20=>
 Option.bind (idx s3 (i3:Int)) fun v21=>
 Option.bind (idx s3 (i3:Int)) fun w2=>
 some (.nx (s3.set (i3:Int).toNat v20))) a0.length 0 (List.replicate n7 (Formula.mk (0:Int) (Term.mk (⟨#[]⟩:ByteArray) ([])) (⟨#[]⟩:ByteArray) ([])))) fun s3=>
 some s3
end
def tF_(a0:Formula):Option Formula:=lim fun n=>tFN_ n a0
def tFS_1(a0:List Formula):Option (List Formula):=lim fun n=>tFS_ n a0

def tS_(a0:Sequent):Option Sequent:=
 Option.bind (tFS_1 a0.Left) fun v6=>
 Option.bind (tFS_1 a0.Right) fun v10=>
 some (Sequent.mk v6 v10)

mutual
def tDN_:Nat→Derivation→Option Derivation
 | 0,_=>none
 | n+1,a0=>
 Option.bind (tS_ a0.Sequent) fun v9=>
 Option.bind (toTerm a0.Term) fun v16=>
 Option.bind (tF_ a0.Cut) fun v20=>
 Option.bind (tDS_ n a0.Parts) fun v24=>
 some (Derivation.mk a0.Rule v9 a0.Main v16 v20 v24)
def tDS_:Nat→(List Derivation)→Option (List Derivation)
 | 0,_=>none
 | n+1,a0=>
 Option.bind (mkn (a0.length:Int)) fun n7=>
 thenL (ρ:=(List Derivation)) (σ:=(List Derivation)) (forN (fun (i3:Nat) (s3:(List Derivation))=>
 Option.bind (idx a0 (i3:Int)) fun v18=>
 Option.bind (tDN_ n v18) fun v20=>
 Option.bind (idx s3 (i3:Int)) fun v21=>
 Option.bind (idx s3 (i3:Int)) fun w2=>
 some (.nx (s3.set (i3:Int).toNat v20))) a0.length 0 (List.replicate n7 (Derivation.mk (0:Int) (Sequent.mk ([]) ([])) (0:Int) (Term.mk (⟨#[]⟩:ByteArray) ([])) (Formula.mk (0:Int) (Term.mk (⟨#[]⟩:ByteArray) ([])) (⟨#[]⟩:ByteArray) ([])) ([])))) fun s3=>
 some s3
end
def tD_(a0:Derivation):Option Derivation:=lim fun n=>tDN_ n a0
def tDS_1(a0:List Derivation):Option (List Derivation):=lim fun n=>tDS_ n a0

def toIntS(a0:List Int):Option (List Int):=
 Option.bind (mkn (a0.length:Int)) fun n7=>
 thenL (ρ:=(List Int)) (σ:=(List Int)) (forN (fun (i3:Nat) (s3:(List Int))=>
 Option.bind (idx a0 (i3:Int)) fun v18=>
 Option.bind (idx s3 (i3:Int)) fun v20=>
 Option.bind (idx s3 (i3:Int)) fun w2=>
 some (.nx (s3.set (i3:Int).toNat v18))) a0.length 0 (List.replicate n7 (0:Int))) fun s3=>
 some s3

def slS_:Nat→Derivation→Int→Option Int
 | 0,_,_=>none
 | n+1,a0,a1=>
 thenL (ρ:=Int) (σ:=Int) (forN (fun (i3:Nat) (s3:Int)=>
 bif decide (s3≤a1) then
 Option.bind (idx a0.Parts (i3:Int)) fun v23=>
 Option.bind (slS_ n v23 (IntKind.i64.wrap (a1-s3))) fun v28=>
 some (.nx (IntKind.i64.wrap (s3+v28)))
 else
 some (.rt s3)) a0.Parts.length 0 (1:Int)) fun s3=>
 some s3
def slS_18(a0:Derivation)(a1:Int):Option Int:=lim fun n=>slS_ n a0 a1

def slM_:Nat→Formula→Int→Option Int
 | 0,_,_=>none
 | n+1,a0,a1=>
 thenL (ρ:=Int) (σ:=Int) (forN (fun (i3:Nat) (s3:Int)=>
 bif decide (s3≤a1) then
 Option.bind (idx a0.Parts (i3:Int)) fun v23=>
 Option.bind (slM_ n v23 (IntKind.i64.wrap (a1-s3))) fun v28=>
 some (.nx (IntKind.i64.wrap (s3+v28)))
 else
 some (.rt s3)) a0.Parts.length 0 (1:Int)) fun s3=>
 some s3
def slM_5(a0:Formula)(a1:Int):Option Int:=lim fun n=>slM_ n a0 a1

def slN_3(a0:Term):Option Bool:=
 bif decide (a0.Name=(⟨#[]⟩:ByteArray)) then
 some (decide ((a0.Args.length:Int)=(0:Int)))
 else
 some false

def slM_1:Nat→Term→Int→Option Int
 | 0,_,_=>none
 | n+1,a0,a1=>
 thenL (ρ:=Int) (σ:=Int) (forN (fun (i3:Nat) (s3:Int)=>
 bif decide (s3≤a1) then
 Option.bind (idx a0.Args (i3:Int)) fun v23=>
 Option.bind (slM_1 n v23 (IntKind.i64.wrap (a1-s3))) fun v28=>
 some (.nx (IntKind.i64.wrap (s3+v28)))
 else
 some (.rt s3)) a0.Args.length 0 (1:Int)) fun s3=>
 some s3
def slM_6(a0:Term)(a1:Int):Option Int:=lim fun n=>slM_1 n a0 a1

def slM_3(a0:Int)(a1:Int):Option Int:=
 bif decide (a1<a0) then
 some a0
 else
 some a1

def slD_:Nat→Term→Option Int
 | 0,_=>none
 | n+1,a0=>
 thenL (ρ:=Int) (σ:=Int) (forN (fun (i3:Nat) (s3:Int)=>
 Option.bind (idx a0.Args (i3:Int)) fun v16=>
 Option.bind (slD_ n v16) fun v18=>
 Option.bind (slM_3 s3 v18) fun v19=>
 some (.nx v19)) a0.Args.length 0 (0:Int)) fun s3=>
 some (IntKind.i64.wrap (s3+(1:Int)))
def slD_1(a0:Term):Option Int:=lim fun n=>slD_ n a0

def slF_2(a0:Term):Option Bool:=
 Option.bind (slM_6 a0 (30:Int)) fun v4=>
 bif decide (v4≤(30:Int)) then
 Option.bind (slD_1 a0) fun v8=>
 some (decide (v8≤(8:Int)))
 else
 some false

def slI_3(a0:Int)(a1:Int)(a2:Int):Option Bool:=
 bif decide (a1≤a0) then
 some (decide (a0≤a2))
 else
 some false

def slS_6(a0:Int):Option Bool:=
 bif decide ((97:Int)≤a0) then
 bif decide (a0≤(122:Int)) then
 some true
 else
 bif decide ((48:Int)≤a0) then
 some (decide (a0≤(57:Int)))
 else
 some false
 else
 bif decide ((48:Int)≤a0) then
 some (decide (a0≤(57:Int)))
 else
 some false

def slV_(a0:ByteArray):Option Bool:=
 Option.bind (slI_3 (a0.size:Int) (1:Int) (4:Int)) fun v6=>
 bif v6 then
 Option.bind (sidx a0 (0:Int)) fun v10=>
 bif decide (v10<(65:Int)) then
 some false
 else
 Option.bind (sidx a0 (0:Int)) fun v15=>
 bif decide ((90:Int)<v15) then
 some false
 else
 Option.bind (bnd (a0.size:Int)) fun N4=>
 thenL (ρ:=Bool) (σ:=Unit) (forN (fun (i4:Nat) (s4:Unit)=>
 Option.bind (sidx a0 (i4:Int)) fun v26=>
 Option.bind (slS_6 v26) fun v27=>
 bif v27 then
 some (.nx ())
 else
 some (.rt false)) (N4-1) 1 ()) fun s4=>
 some true
 else
 some false

def slS_4(a0:ByteArray):Option Bool:=
 Option.bind (slI_3 (a0.size:Int) (1:Int) (6:Int)) fun v6=>
 bif v6 then
 Option.bind (sidx a0 (0:Int)) fun v10=>
 bif decide (v10<(97:Int)) then
 some false
 else
 Option.bind (sidx a0 (0:Int)) fun v15=>
 bif decide ((122:Int)<v15) then
 some false
 else
 bif decide (a0=(⟨#[116,114,117,101]⟩:ByteArray)) then
 some false
 else
 bif decide (a0=(⟨#[102,97,108,115,101]⟩:ByteArray)) then
 some false
 else
 bif decide (a0=(⟨#[116,114,117,116,104]⟩:ByteArray)) then
 some false
 else
 bif decide (a0=(⟨#[98,111,116,104]⟩:ByteArray)) then
 some false
 else
 bif decide (a0=(⟨#[101,105,116,104,101,114]⟩:ByteArray)) then
 some false
 else
 bif decide (a0=(⟨#[105,102]⟩:ByteArray)) then
 some false
 else
 bif decide (a0=(⟨#[97,108,108]⟩:ByteArray)) then
 some false
 else
 bif decide (a0=(⟨#[115,111,109,101]⟩:ByteArray)) then
 some false
 else
 Option.bind (bnd (a0.size:Int)) fun N14=>
 thenL (ρ:=Bool) (σ:=Unit) (forN (fun (i14:Nat) (s14:Unit)=>
 Option.bind (sidx a0 (i14:Int)) fun v36=>
 Option.bind (slS_6 v36) fun v37=>
 bif v37 then
 some (.nx ())
 else
 Option.bind (sidx a0 (i14:Int)) fun v42=>
 bif decide (v42=(95:Int)) then
 some (.nx ())
 else
 some (.rt false)) (N14-1) 1 ()) fun s14=>
 some true
 else
 some false

def slN_4:Nat→Term→Option Bool
 | 0,_=>none
 | n+1,a0=>
 Option.bind (slV_ a0.Name) fun v6=>
 bif v6 then
 some (decide ((a0.Args.length:Int)=(0:Int)))
 else
 Option.bind (slS_4 a0.Name) fun v13=>
 bif v13 then
 bif decide ((4:Int)<(a0.Args.length:Int)) then
 some false
 else
 thenL (ρ:=Bool) (σ:=Unit) (forN (fun (i6:Nat) (s6:Unit)=>
 Option.bind (idx a0.Args (i6:Int)) fun v31=>
 Option.bind (slN_4 n v31) fun v33=>
 bif v33 then
 some (.nx ())
 else
 some (.rt false)) a0.Args.length 0 ()) fun s6=>
 some true
 else
 some false
def slN_6(a0:Term):Option Bool:=lim fun n=>slN_4 n a0

def slG_2(a0:Term):Option Bool:=
 Option.bind (slF_2 a0) fun v4=>
 bif v4 then
 Option.bind (slN_6 a0) fun v7=>
 some v7
 else
 some false

def slA_1(a0:Term):Option Bool:=
 bif decide (a0.Name=(⟨#[61]⟩:ByteArray)) then
 bif decide ((a0.Args.length:Int)=(2:Int)) then
 Option.bind (slF_2 a0) fun v12=>
 bif v12 then
 Option.bind (idx a0.Args (0:Int)) fun v17=>
 Option.bind (slN_6 v17) fun v19=>
 bif v19 then
 Option.bind (idx a0.Args (1:Int)) fun v24=>
 Option.bind (slN_6 v24) fun v26=>
 some v26
 else
 some false
 else
 some false
 else
 some false
 else
 Option.bind (slS_4 a0.Name) fun v30=>
 bif v30 then
 Option.bind (slG_2 a0) fun v33=>
 some v33
 else
 some false

def slF_3(a0:Formula):Option Bool:=
 bif decide (a0.Op=(1:Int)) then
 bif decide ((a0.Parts.length:Int)=(0:Int)) then
 Option.bind (slN_3 a0.Atom) fun v17=>
 bif v17 then
 some (decide (a0.Var=(⟨#[]⟩:ByteArray)))
 else
 some false
 else
 some false
 else
 bif decide (a0.Op=(2:Int)) then
 bif decide ((a0.Parts.length:Int)=(0:Int)) then
 Option.bind (slN_3 a0.Atom) fun v17=>
 bif v17 then
 some (decide (a0.Var=(⟨#[]⟩:ByteArray)))
 else
 some false
 else
 some false
 else
 bif decide (a0.Op=(3:Int)) then
 bif decide ((a0.Parts.length:Int)=(0:Int)) then
 Option.bind (slA_1 a0.Atom) fun v31=>
 bif v31 then
 some (decide (a0.Var=(⟨#[]⟩:ByteArray)))
 else
 some false
 else
 some false
 else
 bif decide (a0.Op=(4:Int)) then
 bif decide ((a0.Parts.length:Int)=(1:Int)) then
 Option.bind (slN_3 a0.Atom) fun v45=>
 bif v45 then
 some (decide (a0.Var=(⟨#[]⟩:ByteArray)))
 else
 some false
 else
 some false
 else
 bif decide (a0.Op=(5:Int)) then
 bif decide ((a0.Parts.length:Int)=(2:Int)) then
 Option.bind (slN_3 a0.Atom) fun v61=>
 bif v61 then
 some (decide (a0.Var=(⟨#[]⟩:ByteArray)))
 else
 some false
 else
 some false
 else
 bif decide (a0.Op=(6:Int)) then
 bif decide ((a0.Parts.length:Int)=(2:Int)) then
 Option.bind (slN_3 a0.Atom) fun v61=>
 bif v61 then
 some (decide (a0.Var=(⟨#[]⟩:ByteArray)))
 else
 some false
 else
 some false
 else
 bif decide (a0.Op=(7:Int)) then
 bif decide ((a0.Parts.length:Int)=(2:Int)) then
 Option.bind (slN_3 a0.Atom) fun v61=>
 bif v61 then
 some (decide (a0.Var=(⟨#[]⟩:ByteArray)))
 else
 some false
 else
 some false
 else
 bif decide (a0.Op=(8:Int)) then
 bif decide ((a0.Parts.length:Int)=(1:Int)) then
 Option.bind (slN_3 a0.Atom) fun v76=>
 bif v76 then
 Option.bind (slV_ a0.Var) fun v81=>
 some v81
 else
 some false
 else
 some false
 else
 bif decide (a0.Op=(9:Int)) then
 bif decide ((a0.Parts.length:Int)=(1:Int)) then
 Option.bind (slN_3 a0.Atom) fun v76=>
 bif v76 then
 Option.bind (slV_ a0.Var) fun v81=>
 some v81
 else
 some false
 else
 some false
 else
 some false

def slF_:Nat→Formula→Option Bool
 | 0,_=>none
 | n+1,a0=>
 Option.bind (slF_3 a0) fun v5=>
 bif v5 then
 thenL (ρ:=Bool) (σ:=Unit) (forN (fun (i4:Nat) (s4:Unit)=>
 Option.bind (idx a0.Parts (i4:Int)) fun v17=>
 Option.bind (slF_ n v17) fun v19=>
 bif v19 then
 some (.nx ())
 else
 some (.rt false)) a0.Parts.length 0 ()) fun s4=>
 some true
 else
 some false
def slF_6(a0:Formula):Option Bool:=lim fun n=>slF_ n a0

def slG_1(a0:Formula):Option Bool:=
 Option.bind (slM_5 a0 (40:Int)) fun v4=>
 bif decide (v4≤(40:Int)) then
 Option.bind (slF_6 a0) fun v8=>
 some v8
 else
 some false

def slS_8(a0:List Formula):Option Bool:=
 thenL (ρ:=Bool) (σ:=Unit) (forN (fun (i2:Nat) (s2:Unit)=>
 bif decide ((i2:Int)≤(10:Int)) then
 Option.bind (idx a0 (i2:Int)) fun v16=>
 Option.bind (slG_1 v16) fun v18=>
 bif v18 then
 some (.nx ())
 else
 some (.rt false)
 else
 some (.rt (decide ((a0.length:Int)≤(10:Int))))) a0.length 0 ()) fun s2=>
 some (decide ((a0.length:Int)≤(10:Int)))

def slG_(a0:Sequent):Option Bool:=
 Option.bind (slS_8 a0.Left) fun v5=>
 bif v5 then
 Option.bind (slS_8 a0.Right) fun v9=>
 some v9
 else
 some false

def slS_3:Nat→Term→Term→Option Bool
 | 0,_,_=>none
 | n+1,a0,a1=>
 bif decide (a0.Name=a1.Name) then
 bif decide ((a0.Args.length:Int)=(a1.Args.length:Int)) then
 thenL (ρ:=Bool) (σ:=Unit) (forN (fun (i4:Nat) (s4:Unit)=>
 Option.bind (idx a0.Args (i4:Int)) fun v30=>
 Option.bind (idx a1.Args (i4:Int)) fun v35=>
 Option.bind (slS_3 n v30 v35) fun v37=>
 bif v37 then
 some (.nx ())
 else
 some (.rt false)) a0.Args.length 0 ()) fun s4=>
 some true
 else
 some false
 else
 some false
def slS_13(a0:Term)(a1:Term):Option Bool:=lim fun n=>slS_3 n a0 a1

def slS_2:Nat→Formula→Formula→Option Bool
 | 0,_,_=>none
 | n+1,a0,a1=>
 bif decide (a0.Op=a1.Op) then
 bif decide (a0.Var=a1.Var) then
 Option.bind (slS_13 a0.Atom a1.Atom) fun v23=>
 bif v23 then
 bif decide ((a0.Parts.length:Int)=(a1.Parts.length:Int)) then
 thenL (ρ:=Bool) (σ:=Unit) (forN (fun (i4:Nat) (s4:Unit)=>
 Option.bind (idx a0.Parts (i4:Int)) fun v45=>
 Option.bind (idx a1.Parts (i4:Int)) fun v50=>
 Option.bind (slS_2 n v45 v50) fun v52=>
 bif v52 then
 some (.nx ())
 else
 some (.rt false)) a0.Parts.length 0 ()) fun s4=>
 some true
 else
 some false
 else
 some false
 else
 some false
 else
 some false
def slS_5(a0:Formula)(a1:Formula):Option Bool:=lim fun n=>slS_2 n a0 a1

def slO_3:Nat→Term→Option Term
 | 0,_=>none
 | n+1,a0=>
 thenL (ρ:=Term) (σ:=(List Term)) (forN (fun (i3:Nat) (s3:(List Term))=>
 Option.bind (idx a0.Args (i3:Int)) fun v20=>
 Option.bind (slO_3 n v20) fun v22=>
 Option.bind (app s3 ([v22])) fun v24=>
 some (.nx v24)) a0.Args.length 0 ([])) fun s3=>
 some (Term.mk a0.Name s3)
def slO_9(a0:Term):Option Term:=lim fun n=>slO_3 n a0

def slO_2:Nat→Formula→Option Formula
 | 0,_=>none
 | n+1,a0=>
 Option.bind (slO_9 a0.Atom) fun v9=>
 thenL (ρ:=Formula) (σ:=(List Formula)) (forN (fun (i3:Nat) (s3:(List Formula))=>
 Option.bind (idx a0.Parts (i3:Int)) fun v25=>
 Option.bind (slO_2 n v25) fun v27=>
 Option.bind (app s3 ([v27])) fun v29=>
 some (.nx v29)) a0.Parts.length 0 ([])) fun s3=>
 some (Formula.mk a0.Op v9 a0.Var s3)
def slO_6(a0:Formula):Option Formula:=lim fun n=>slO_2 n a0

def slC_(a0:List Formula)(a1:Int)(a2:List Formula):Option (List Formula):=
 thenL (ρ:=(List Formula)) (σ:=(List Formula)) (forN (fun (i3:Nat) (s3:(List Formula))=>
 bif decide ((i3:Int)=a1) then
 some (.nx s3)
 else
 Option.bind (idx a0 (i3:Int)) fun v23=>
 Option.bind (slO_6 v23) fun v25=>
 Option.bind (app s3 ([v25])) fun v27=>
 some (.nx v27)) a0.length 0 ([])) fun s3=>
 thenL (ρ:=(List Formula)) (σ:=(List Formula)) (forN (fun (i8:Nat) (s8:(List Formula))=>
 Option.bind (idx a2 (i8:Int)) fun v37=>
 Option.bind (slO_6 v37) fun v39=>
 Option.bind (app s8 ([v39])) fun v41=>
 some (.nx v41)) a2.length 0 s3) fun s8=>
 some s8

def slN_1(a0:Sequent)(a1:Int)(a2:List Formula)(a3:Int)(a4:List Formula):Option Sequent:=
 Option.bind (slC_ a0.Left a1 a2) fun v15=>
 Option.bind (slC_ a0.Right a3 a4) fun v20=>
 some (Sequent.mk v15 v20)

def slO_(a0:Int):Option Bool:=
 bif decide (a0=(1:Int)) then
 some true
 else
 bif decide (a0=(3:Int)) then
 some true
 else
 bif decide (a0=(5:Int)) then
 some true
 else
 bif decide (a0=(7:Int)) then
 some true
 else
 bif decide (a0=(9:Int)) then
 some true
 else
 bif decide (a0=(11:Int)) then
 some true
 else
 bif decide (a0=(13:Int)) then
 some true
 else
 some false

def slH_(a0:List Formula)(a1:Formula):Option Bool:=
 thenL (ρ:=Bool) (σ:=Unit) (forN (fun (i2:Nat) (s2:Unit)=>
 Option.bind (idx a0 (i2:Int)) fun v14=>
 Option.bind (slS_5 v14 a1) fun v17=>
 bif v17 then
 some (.rt true)
 else
 some (.nx ())) a0.length 0 ()) fun s2=>
 some false

def slO_1(a0:Int):Option Int:=
 bif decide (a0=(2:Int)) then
 some (1:Int)
 else
 bif decide (a0=(3:Int)) then
 some (4:Int)
 else
 bif decide (a0=(4:Int)) then
 some (4:Int)
 else
 bif decide (a0=(5:Int)) then
 some (5:Int)
 else
 bif decide (a0=(6:Int)) then
 some (5:Int)
 else
 bif decide (a0=(7:Int)) then
 some (6:Int)
 else
 bif decide (a0=(8:Int)) then
 some (6:Int)
 else
 bif decide (a0=(9:Int)) then
 some (7:Int)
 else
 bif decide (a0=(10:Int)) then
 some (7:Int)
 else
 bif decide (a0=(11:Int)) then
 some (8:Int)
 else
 bif decide (a0=(12:Int)) then
 some (8:Int)
 else
 bif decide (a0=(13:Int)) then
 some (9:Int)
 else
 bif decide (a0=(14:Int)) then
 some (9:Int)
 else
 some (0:Int)

def slP_5(a0:Substitution)(a1:ByteArray)(a2:Term):Option Substitution:=
 bif decide (a2.Name=a1) then
 some a0
 else
 thenL (ρ:=Substitution) (σ:=Unit) (forN (fun (i4:Nat) (s4:Unit)=>
 Option.bind (idx a0.Bindings (i4:Int)) fun v23=>
 bif Op.bytesLess v23.Var.data.toList a1.data.toList then
 some (.nx ())
 else
 Option.bind (slc a0.Bindings (0:Int) (i4:Int)) fun v35=>
 Option.bind (app ([]) v35) fun v36=>
 Option.bind (slO_9 a2) fun v40=>
 Option.bind (app v36 ([(Binding.mk a1 v40)])) fun v43=>
 Option.bind (slc a0.Bindings (i4:Int) (a0.Bindings.length:Int)) fun v48=>
 Option.bind (app v43 v48) fun v49=>
 some (.rt (Substitution.mk v49))) a0.Bindings.length 0 ()) fun s4=>
 Option.bind (slc a0.Bindings (0:Int) ((a0.Bindings.length:Nat):Int)) fun v35=>
 Option.bind (app ([]) v35) fun v36=>
 Option.bind (slO_9 a2) fun v40=>
 Option.bind (app v36 ([(Binding.mk a1 v40)])) fun v43=>
 Option.bind (slc a0.Bindings ((a0.Bindings.length:Nat):Int) (a0.Bindings.length:Int)) fun v48=>
 Option.bind (app v43 v48) fun v49=>
 some (Substitution.mk v49)

def slF_4(a0:Substitution)(a1:ByteArray):Option Int:=
 thenL (ρ:=Int) (σ:=Unit) (forN (fun (i2:Nat) (s2:Unit)=>
 Option.bind (idx a0.Bindings (i2:Int)) fun v16=>
 bif decide (v16.Var=a1) then
 some (.rt (i2:Int))
 else
 some (.nx ())) a0.Bindings.length 0 ()) fun s2=>
 some (-1:Int)

def slA_:Nat→Substitution→Term→Option Term
 | 0,_,_=>none
 | n+1,a0,a1=>
 Option.bind (slV_ a1.Name) fun v10=>
 bif v10 then
 Option.bind (slF_4 a0 a1.Name) fun v14=>
 bif decide ((0:Int)≤v14) then
 Option.bind (idx a0.Bindings v14) fun v20=>
 Option.bind (slO_9 v20.Term) fun v23=>
 some v23
 else
 some (Term.mk a1.Name ([]))
 else
 thenL (ρ:=Term) (σ:=(List Term)) (forN (fun (i8:Nat) (s8:(List Term))=>
 Option.bind (idx a1.Args (i8:Int)) fun v43=>
 Option.bind (slA_ n a0 v43) fun v45=>
 Option.bind (app s8 ([v45])) fun v47=>
 some (.nx v47)) a1.Args.length 0 ([])) fun s8=>
 some (Term.mk a1.Name s8)
def slA_2(a0:Substitution)(a1:Term):Option Term:=lim fun n=>slA_ n a0 a1

def slP_3(a0:List ByteArray)(a1:ByteArray):Option (List ByteArray):=
 thenL (ρ:=(List ByteArray)) (σ:=Unit) (forN (fun (i2:Nat) (s2:Unit)=>
 Option.bind (idx a0 (i2:Int)) fun v13=>
 bif Op.bytesLess v13.data.toList a1.data.toList then
 some (.nx ())
 else
 Option.bind (idx a0 (i2:Int)) fun v27=>
 bif decide (v27=a1) then
 some (.rt a0)
 else
 Option.bind (slc a0 (0:Int) (i2:Int)) fun v36=>
 Option.bind (app ([]) v36) fun v37=>
 Option.bind (app v37 ([a1])) fun v40=>
 Option.bind (slc a0 (i2:Int) (a0.length:Int)) fun v43=>
 Option.bind (app v40 v43) fun v44=>
 some (.rt v44)) a0.length 0 ()) fun s2=>
 Option.bind (slc a0 (0:Int) ((a0.length:Nat):Int)) fun v36=>
 Option.bind (app ([]) v36) fun v37=>
 Option.bind (app v37 ([a1])) fun v40=>
 Option.bind (slc a0 ((a0.length:Nat):Int) (a0.length:Int)) fun v43=>
 Option.bind (app v40 v43) fun v44=>
 some v44

def slI_2:Nat→(List ByteArray)→Term→Option (List ByteArray)
 | 0,_,_=>none
 | n+1,a0,a1=>
 Option.bind (slV_ a1.Name) fun v8=>
 bif v8 then
 Option.bind (slP_3 a0 a1.Name) fun v12=>
 some v12
 else
 thenL (ρ:=(List ByteArray)) (σ:=(List ByteArray)) (forN (fun (i4:Nat) (s4:(List ByteArray))=>
 Option.bind (idx a1.Args (i4:Int)) fun v24=>
 Option.bind (slI_2 n s4 v24) fun v26=>
 some (.nx v26)) a1.Args.length 0 a0) fun s4=>
 some s4
def slI_8(a0:List ByteArray)(a1:Term):Option (List ByteArray):=lim fun n=>slI_2 n a0 a1

def slV_1(a0:Term):Option (List ByteArray):=
 Option.bind (slI_8 ([]) a0) fun v5=>
 some v5

def slI_5(a0:List ByteArray)(a1:ByteArray):Option Bool:=
 thenL (ρ:=Bool) (σ:=Unit) (forN (fun (i2:Nat) (s2:Unit)=>
 Option.bind (idx a0 (i2:Int)) fun v14=>
 bif decide (v14=a1) then
 some (.rt true)
 else
 some (.nx ())) a0.length 0 ()) fun s2=>
 some false

def slI_:Nat→(List ByteArray)→Formula→(List ByteArray)→Option (List ByteArray)
 | 0,_,_,_=>none
 | n+1,a0,a1,a2=>
 bif decide (a1.Op=(3:Int)) then
 Option.bind (slV_1 a1.Atom) fun v15=>
 thenL (ρ:=(List ByteArray)) (σ:=(List ByteArray)) (forN (fun (i4:Nat) (s4:(List ByteArray))=>
 Option.bind (idx v15 (i4:Int)) fun v25=>
 Option.bind (slI_5 a2 v25) fun v27=>
 bif v27 then
 some (.nx s4)
 else
 Option.bind (idx v15 (i4:Int)) fun v32=>
 Option.bind (slP_3 s4 v32) fun v34=>
 some (.nx v34)) v15.length 0 a0) fun s4=>
 bif decide (a1.Op=(8:Int)) then
 Option.bind (app ([]) a2) fun v45=>
 Option.bind (app v45 ([a1.Var])) fun v49=>
 thenL (ρ:=(List ByteArray)) (σ:=(List ByteArray)) (forN (fun (i11:Nat) (s11:(List ByteArray))=>
 Option.bind (idx a1.Parts (i11:Int)) fun v61=>
 Option.bind (slI_ n s11 v61 v49) fun v64=>
 some (.nx v64)) a1.Parts.length 0 s4) fun s11=>
 some s11
 else
 bif decide (a1.Op=(9:Int)) then
 Option.bind (app ([]) a2) fun v45=>
 Option.bind (app v45 ([a1.Var])) fun v49=>
 thenL (ρ:=(List ByteArray)) (σ:=(List ByteArray)) (forN (fun (i11:Nat) (s11:(List ByteArray))=>
 Option.bind (idx a1.Parts (i11:Int)) fun v61=>
 Option.bind (slI_ n s11 v61 v49) fun v64=>
 some (.nx v64)) a1.Parts.length 0 s4) fun s11=>
 some s11
 else
 thenL (ρ:=(List ByteArray)) (σ:=(List ByteArray)) (forN (fun (i11:Nat) (s11:(List ByteArray))=>
 Option.bind (idx a1.Parts (i11:Int)) fun v61=>
 Option.bind (slI_ n s11 v61 a2) fun v64=>
 some (.nx v64)) a1.Parts.length 0 s4) fun s11=>
 some s11
 else
 bif decide (a1.Op=(8:Int)) then
 Option.bind (app ([]) a2) fun v45=>
 Option.bind (app v45 ([a1.Var])) fun v49=>
 thenL (ρ:=(List ByteArray)) (σ:=(List ByteArray)) (forN (fun (i11:Nat) (s11:(List ByteArray))=>
 Option.bind (idx a1.Parts (i11:Int)) fun v61=>
 Option.bind (slI_ n s11 v61 v49) fun v64=>
 some (.nx v64)) a1.Parts.length 0 a0) fun s11=>
 some s11
 else
 bif decide (a1.Op=(9:Int)) then
 Option.bind (app ([]) a2) fun v45=>
 Option.bind (app v45 ([a1.Var])) fun v49=>
 thenL (ρ:=(List ByteArray)) (σ:=(List ByteArray)) (forN (fun (i11:Nat) (s11:(List ByteArray))=>
 Option.bind (idx a1.Parts (i11:Int)) fun v61=>
 Option.bind (slI_ n s11 v61 v49) fun v64=>
 some (.nx v64)) a1.Parts.length 0 a0) fun s11=>
 some s11
 else
 thenL (ρ:=(List ByteArray)) (σ:=(List ByteArray)) (forN (fun (i11:Nat) (s11:(List ByteArray))=>
 Option.bind (idx a1.Parts (i11:Int)) fun v61=>
 Option.bind (slI_ n s11 v61 a2) fun v64=>
 some (.nx v64)) a1.Parts.length 0 a0) fun s11=>
 some s11
def slI_6(a0:List ByteArray)(a1:Formula)(a2:List ByteArray):Option (List ByteArray):=lim fun n=>slI_ n a0 a1 a2

def slF_1(a0:Formula):Option (List ByteArray):=
 Option.bind (slI_6 ([]) a0 ([])) fun v6=>
 some v6

def slP_1:Nat→Formula→ByteArray→Term→Option (Formula×Bool)
 | 0,_,_,_=>none
 | n+1,a0,a1,a2=>
 bif decide (a0.Op=(3:Int)) then
 Option.bind (slP_5 (Substitution.mk ([])) a1 a2) fun v23=>
 Option.bind (slA_2 v23 a0.Atom) fun v26=>
 Option.bind (slA_1 v26) fun v31=>
 some ((Formula.mk a0.Op v26 a0.Var ([])),v31)
 else
 bif decide (a0.Op=(8:Int)) then
 bif decide (a0.Var=a1) then
 Option.bind (slO_6 a0) fun v55=>
 some (v55,true)
 else
 Option.bind (idx a0.Parts (0:Int)) fun v47=>
 Option.bind (slF_1 v47) fun v49=>
 Option.bind (slI_5 v49 a1) fun v51=>
 bif v51 then
 Option.bind (slV_1 a2) fun v57=>
 Option.bind (slI_5 v57 a0.Var) fun v60=>
 bif v60 then
 some ((Formula.mk a0.Op (Term.mk (⟨#[]⟩:ByteArray) ([])) a0.Var ([])),false)
 else
 thenL (ρ:=(Formula×Bool)) (σ:=(List Formula)) (forN (fun (i11:Nat) (s11:(List Formula))=>
 Option.bind (idx a0.Parts (i11:Int)) fun v73=>
 Option.bind (slP_1 n v73 a1 a2) fun v77=>
 bif v77.2 then
 Option.bind (app s11 ([v77.1])) fun v87=>
 some (.nx v87)
 else
 some (.rt ((Formula.mk a0.Op (Term.mk (⟨#[]⟩:ByteArray) ([])) a0.Var s11),false))) a0.Parts.length 0 ([])) fun s11=>
 some ((Formula.mk a0.Op (Term.mk (⟨#[]⟩:ByteArray) ([])) a0.Var s11),true)
 else
 Option.bind (slO_6 a0) fun v55=>
 some (v55,true)
 else
 bif decide (a0.Op=(9:Int)) then
 bif decide (a0.Var=a1) then
 Option.bind (slO_6 a0) fun v55=>
 some (v55,true)
 else
 Option.bind (idx a0.Parts (0:Int)) fun v47=>
 Option.bind (slF_1 v47) fun v49=>
 Option.bind (slI_5 v49 a1) fun v51=>
 bif v51 then
 Option.bind (slV_1 a2) fun v57=>
 Option.bind (slI_5 v57 a0.Var) fun v60=>
 bif v60 then
 some ((Formula.mk a0.Op (Term.mk (⟨#[]⟩:ByteArray) ([])) a0.Var ([])),false)
 else
 thenL (ρ:=(Formula×Bool)) (σ:=(List Formula)) (forN (fun (i11:Nat) (s11:(List Formula))=>
 Option.bind (idx a0.Parts (i11:Int)) fun v73=>
 Option.bind (slP_1 n v73 a1 a2) fun v77=>
 bif v77.2 then
 Option.bind (app s11 ([v77.1])) fun v87=>
 some (.nx v87)
 else
 some (.rt ((Formula.mk a0.Op (Term.mk (⟨#[]⟩:ByteArray) ([])) a0.Var s11),false))) a0.Parts.length 0 ([])) fun s11=>
 some ((Formula.mk a0.Op (Term.mk (⟨#[]⟩:ByteArray) ([])) a0.Var s11),true)
 else
 Option.bind (slO_6 a0) fun v55=>
 some (v55,true)
 else
 thenL (ρ:=(Formula×Bool)) (σ:=(List Formula)) (forN (fun (i11:Nat) (s11:(List Formula))=>
 Option.bind (idx a0.Parts (i11:Int)) fun v73=>
 Option.bind (slP_1 n v73 a1 a2) fun v77=>
 bif v77.2 then
 Option.bind (app s11 ([v77.1])) fun v87=>
 some (.nx v87)
 else
 some (.rt ((Formula.mk a0.Op (Term.mk (⟨#[]⟩:ByteArray) ([])) a0.Var s11),false))) a0.Parts.length 0 ([])) fun s11=>
 some ((Formula.mk a0.Op (Term.mk (⟨#[]⟩:ByteArray) ([])) a0.Var s11),true)
def slP_8(a0:Formula)(a1:ByteArray)(a2:Term):Option (Formula×Bool):=lim fun n=>slP_1 n a0 a1 a2

def slN_7(a0:Sequent):Option (List ByteArray):=
 thenL (ρ:=(List ByteArray)) (σ:=(List ByteArray)) (forN (fun (i3:Nat) (s3:(List ByteArray))=>
 Option.bind (idx a0.Left (i3:Int)) fun v18=>
 Option.bind (slI_6 s3 v18 ([])) fun v21=>
 some (.nx v21)) a0.Left.length 0 ([])) fun s3=>
 thenL (ρ:=(List ByteArray)) (σ:=(List ByteArray)) (forN (fun (i7:Nat) (s7:(List ByteArray))=>
 Option.bind (idx a0.Right (i7:Int)) fun v33=>
 Option.bind (slI_6 s7 v33 ([])) fun v36=>
 some (.nx v36)) a0.Right.length 0 s3) fun s7=>
 some s7

def slQ_(a0:Sequent)(a1:Int)(a2:Int)(a3:Formula)(a4:Term):Option ((List Sequent)×Bool):=
 Option.bind (slG_2 a4) fun v17=>
 bif v17 then
 Option.bind (idx a3.Parts (0:Int)) fun v23=>
 Option.bind (slP_8 v23 a3.Var a4) fun v28=>
 bif v28.2 then
 bif decide (a1=(11:Int)) then
 Option.bind (slN_1 a0 (-1:Int) ([v28.1]) (-1:Int) ([])) fun v43=>
 some ([v43],true)
 else
 bif decide (a1=(14:Int)) then
 Option.bind (slN_1 a0 (-1:Int) ([]) (-1:Int) ([v28.1])) fun v50=>
 some ([v50],true)
 else
 Option.bind (slV_ a4.Name) fun v54=>
 bif v54 then
 Option.bind (slN_7 a0) fun v58=>
 Option.bind (slI_5 v58 a4.Name) fun v61=>
 bif v61 then
 some ([],false)
 else
 bif decide (a1=(12:Int)) then
 Option.bind (slN_1 a0 (-1:Int) ([]) a2 ([v28.1])) fun v70=>
 some ([v70],true)
 else
 Option.bind (slN_1 a0 a2 ([v28.1]) (-1:Int) ([])) fun v76=>
 some ([v76],true)
 else
 some ([],false)
 else
 some ([],false)
 else
 some ([],false)

def slP_(a0:Sequent)(a1:Int)(a2:Int)(a3:List Formula):Option (List Sequent):=
 Option.bind (slc a3 (0:Int) (1:Int)) fun v14=>
 bif decide (a1=(3:Int)) then
 Option.bind (slN_1 a0 a2 ([]) (-1:Int) v14) fun v22=>
 some ([v22])
 else
 bif decide (a1=(4:Int)) then
 Option.bind (slN_1 a0 (-1:Int) v14 a2 ([])) fun v30=>
 some ([v30])
 else
 Option.bind (slc a3 (1:Int) (2:Int)) fun v33=>
 bif decide (a1=(5:Int)) then
 Option.bind (slN_1 a0 a2 a3 (-1:Int) ([])) fun v41=>
 some ([v41])
 else
 bif decide (a1=(6:Int)) then
 Option.bind (slN_1 a0 (-1:Int) ([]) a2 v14) fun v49=>
 Option.bind (slN_1 a0 (-1:Int) ([]) a2 v33) fun v54=>
 some ([v49,v54])
 else
 bif decide (a1=(7:Int)) then
 Option.bind (slN_1 a0 a2 v14 (-1:Int) ([])) fun v62=>
 Option.bind (slN_1 a0 a2 v33 (-1:Int) ([])) fun v67=>
 some ([v62,v67])
 else
 bif decide (a1=(8:Int)) then
 Option.bind (slN_1 a0 (-1:Int) ([]) a2 a3) fun v75=>
 some ([v75])
 else
 bif decide (a1=(9:Int)) then
 Option.bind (slN_1 a0 a2 ([]) (-1:Int) v14) fun v83=>
 Option.bind (slN_1 a0 a2 v33 (-1:Int) ([])) fun v88=>
 some ([v83,v88])
 else
 Option.bind (slN_1 a0 (-1:Int) v14 a2 v33) fun v94=>
 some ([v94])

def slR_(a0:Sequent)(a1:Derivation):Option ((List Sequent)×Bool):=
 Option.bind (slI_3 a1.Rule (11:Int) (14:Int)) fun v14=>
 bif v14 then
 bif decide (a1.Rule=(15:Int)) then
 Option.bind (slN_1 a0 (-1:Int) ([]) (-1:Int) ([a1.Cut])) fun v46=>
 Option.bind (slN_1 a0 (-1:Int) ([a1.Cut]) (-1:Int) ([])) fun v50=>
 bif decide (a1.Main=(0:Int)) then
 Option.bind (slG_1 a1.Cut) fun v58=>
 some ([v46,v50],v58)
 else
 some ([v46,v50],false)
 else
 Option.bind (slS_5 a1.Cut (Formula.mk (0:Int) (Term.mk (⟨#[]⟩:ByteArray) ([])) (⟨#[]⟩:ByteArray) ([]))) fun v32=>
 bif v32 then
 Option.bind (slO_ a1.Rule) fun v64=>
 bif v64 then
 Option.bind (slI_3 a1.Rule (1:Int) (15:Int)) fun v69=>
 bif v69 then
 Option.bind (slI_3 a1.Main (0:Int) (IntKind.i64.wrap ((a0.Left.length:Int)-(1:Int)))) fun v77=>
 bif v77 then
 Option.bind (idx a0.Left a1.Main) fun v84=>
 bif decide (a1.Rule=(1:Int)) then
 bif decide (v84.Op=(2:Int)) then
 some ([],true)
 else
 Option.bind (slH_ a0.Right v84) fun v97=>
 some ([],v97)
 else
 Option.bind (slO_1 a1.Rule) fun v103=>
 bif decide (v84.Op=v103) then
 bif decide (a1.Rule=(2:Int)) then
 some ([],true)
 else
 Option.bind (slQ_ a0 a1.Rule a1.Main v84 a1.Term) fun v119=>
 some (v119.1,v119.2)
 else
 some ([],false)
 else
 some ([],false)
 else
 some ([],false)
 else
 Option.bind (slI_3 a1.Rule (1:Int) (15:Int)) fun v69=>
 bif v69 then
 Option.bind (slI_3 a1.Main (0:Int) (IntKind.i64.wrap ((a0.Right.length:Int)-(1:Int)))) fun v77=>
 bif v77 then
 Option.bind (idx a0.Right a1.Main) fun v84=>
 bif decide (a1.Rule=(1:Int)) then
 bif decide (v84.Op=(2:Int)) then
 some ([],true)
 else
 Option.bind (slH_ a0.Right v84) fun v97=>
 some ([],v97)
 else
 Option.bind (slO_1 a1.Rule) fun v103=>
 bif decide (v84.Op=v103) then
 bif decide (a1.Rule=(2:Int)) then
 some ([],true)
 else
 Option.bind (slQ_ a0 a1.Rule a1.Main v84 a1.Term) fun v119=>
 some (v119.1,v119.2)
 else
 some ([],false)
 else
 some ([],false)
 else
 some ([],false)
 else
 some ([],false)
 else
 Option.bind (slS_13 a1.Term (Term.mk (⟨#[]⟩:ByteArray) ([]))) fun v21=>
 bif v21 then
 bif decide (a1.Rule=(15:Int)) then
 Option.bind (slN_1 a0 (-1:Int) ([]) (-1:Int) ([a1.Cut])) fun v46=>
 Option.bind (slN_1 a0 (-1:Int) ([a1.Cut]) (-1:Int) ([])) fun v50=>
 bif decide (a1.Main=(0:Int)) then
 Option.bind (slG_1 a1.Cut) fun v58=>
 some ([v46,v50],v58)
 else
 some ([v46,v50],false)
 else
 Option.bind (slS_5 a1.Cut (Formula.mk (0:Int) (Term.mk (⟨#[]⟩:ByteArray) ([])) (⟨#[]⟩:ByteArray) ([]))) fun v32=>
 bif v32 then
 Option.bind (slO_ a1.Rule) fun v64=>
 bif v64 then
 Option.bind (slI_3 a1.Rule (1:Int) (15:Int)) fun v69=>
 bif v69 then
 Option.bind (slI_3 a1.Main (0:Int) (IntKind.i64.wrap ((a0.Left.length:Int)-(1:Int)))) fun v77=>
 bif v77 then
 Option.bind (idx a0.Left a1.Main) fun v84=>
 bif decide (a1.Rule=(1:Int)) then
 bif decide (v84.Op=(2:Int)) then
 some ([],true)
 else
 Option.bind (slH_ a0.Right v84) fun v97=>
 some ([],v97)
 else
 Option.bind (slO_1 a1.Rule) fun v103=>
 bif decide (v84.Op=v103) then
 bif decide (a1.Rule=(2:Int)) then
 some ([],true)
 else
 Option.bind (slP_ a0 a1.Rule a1.Main v84.Parts) fun v129=>
 some (v129,true)
 else
 some ([],false)
 else
 some ([],false)
 else
 some ([],false)
 else
 Option.bind (slI_3 a1.Rule (1:Int) (15:Int)) fun v69=>
 bif v69 then
 Option.bind (slI_3 a1.Main (0:Int) (IntKind.i64.wrap ((a0.Right.length:Int)-(1:Int)))) fun v77=>
 bif v77 then
 Option.bind (idx a0.Right a1.Main) fun v84=>
 bif decide (a1.Rule=(1:Int)) then
 bif decide (v84.Op=(2:Int)) then
 some ([],true)
 else
 Option.bind (slH_ a0.Right v84) fun v97=>
 some ([],v97)
 else
 Option.bind (slO_1 a1.Rule) fun v103=>
 bif decide (v84.Op=v103) then
 bif decide (a1.Rule=(2:Int)) then
 some ([],true)
 else
 Option.bind (slP_ a0 a1.Rule a1.Main v84.Parts) fun v129=>
 some (v129,true)
 else
 some ([],false)
 else
 some ([],false)
 else
 some ([],false)
 else
 some ([],false)
 else
 some ([],false)

def slP_2(a0:Sequent)(a1:Derivation):Option ((List Sequent)×Bool):=
 Option.bind (slR_ a0 a1) fun v12=>
 thenL (ρ:=((List Sequent)×Bool)) (σ:=Bool) (forN (fun (i3:Nat) (s3:Bool)=>
 bif s3 then
 Option.bind (idx v12.1 (i3:Int)) fun v25=>
 Option.bind (slG_ v25) fun v27=>
 some (.nx v27)
 else
 some (.nx false)) v12.1.length 0 v12.2) fun s3=>
 bif s3 then
 some (v12.1,true)
 else
 some ([],false)

def slS_1(a0:List Formula)(a1:List Formula):Option Bool:=
 bif decide ((a0.length:Int)=(a1.length:Int)) then
 thenL (ρ:=Bool) (σ:=Unit) (forN (fun (i4:Nat) (s4:Unit)=>
 Option.bind (idx a0 (i4:Int)) fun v19=>
 Option.bind (idx a1 (i4:Int)) fun v23=>
 Option.bind (slS_5 v19 v23) fun v25=>
 bif v25 then
 some (.nx ())
 else
 some (.rt false)) a0.length 0 ()) fun s4=>
 some true
 else
 some false

def slS_9(a0:Sequent)(a1:Sequent):Option Bool:=
 Option.bind (slS_1 a0.Left a1.Left) fun v9=>
 bif v9 then
 Option.bind (slS_1 a0.Right a1.Right) fun v15=>
 some v15
 else
 some false

def slN_5(a0:Derivation):Option Bool:=
 Option.bind (slG_ a0.Sequent) fun v8=>
 bif v8 then
 Option.bind (slP_2 a0.Sequent a0) fun v14=>
 bif v14.2 then
 bif decide ((v14.1.length:Int)=(a0.Parts.length:Int)) then
 thenL (ρ:=Bool) (σ:=Unit) (forN (fun (i7:Nat) (s7:Unit)=>
 Option.bind (idx v14.1 (i7:Int)) fun v35=>
 Option.bind (idx a0.Parts (i7:Int)) fun v40=>
 Option.bind (slS_9 v35 v40.Sequent) fun v43=>
 bif v43 then
 some (.nx ())
 else
 some (.rt false)) v14.1.length 0 ()) fun s7=>
 some true
 else
 some false
 else
 some false
 else
 some false

def slO_10(a0:List Int):Option (List Int):=
 Option.bind (app ([]) a0) fun v5=>
 some v5

def slW_:Nat→Derivation→(List Int)→Option ((List Int)×Bool)
 | 0,_,_=>none
 | n+1,a0,a1=>
 Option.bind (slN_5 a0) fun v10=>
 bif v10 then
 thenL (ρ:=((List Int)×Bool)) (σ:=Unit) (forN (fun (i4:Nat) (s4:Unit)=>
 Option.bind (idx a0.Parts (i4:Int)) fun v24=>
 Option.bind (slO_10 a1) fun v27=>
 Option.bind (app v27 ([(i4:Int)])) fun v30=>
 Option.bind (slW_ n v24 v30) fun v31=>
 bif v31.2 then
 some (.rt (v31.1,true))
 else
 some (.nx ())) a0.Parts.length 0 ()) fun s4=>
 some ([],false)
 else
 some (a1,true)
def slW_1(a0:Derivation)(a1:List Int):Option ((List Int)×Bool):=lim fun n=>slW_ n a0 a1

def slV_3(a0:Derivation):Option Bool:=
 Option.bind (slS_18 a0 (60:Int)) fun v6=>
 bif decide ((60:Int)<v6) then
 some false
 else
 Option.bind (slW_1 a0 ([])) fun v11=>
 some (!v11.2)

def slM_4(a0:Derivation)(a1:List Bool)(a2:List Bool):Option Bool:=
 bif decide (a0.Rule=(15:Int)) then
 some true
 else
 Option.bind (slO_ a0.Rule) fun v12=>
 bif v12 then
 Option.bind (idx a1 a0.Main) fun v16=>
 some v16
 else
 Option.bind (idx a2 a0.Main) fun v21=>
 some v21

def slR_1(a0:Derivation)(a1:Bool):Option Int:=
 bif decide (a0.Rule=(1:Int)) then
 some (-1:Int)
 else
 bif decide (a0.Rule=(2:Int)) then
 some (-1:Int)
 else
 bif decide (a0.Rule=(11:Int)) then
 some (-1:Int)
 else
 bif decide (a0.Rule=(14:Int)) then
 some (-1:Int)
 else
 bif decide (a0.Rule=(15:Int)) then
 some (-1:Int)
 else
 Option.bind (slO_ a0.Rule) fun v15=>
 bif v15==a1 then
 some a0.Main
 else
 some (-1:Int)

def slS_7(a0:List Bool)(a1:Int)(a2:Int)(a3:Bool):Option (List Bool):=
 thenL (ρ:=(List Bool)) (σ:=(List Bool)) (forN (fun (i3:Nat) (s3:(List Bool))=>
 bif decide ((i3:Int)=a1) then
 some (.nx s3)
 else
 Option.bind (idx a0 (i3:Int)) fun v24=>
 Option.bind (app s3 ([v24])) fun v27=>
 some (.nx v27)) a0.length 0 ([])) fun s3=>
 thenL (ρ:=(List Bool)) (σ:=(List Bool)) (lim fun n7=>whileN (fun (s7:(List Bool))=>
 bif decide ((s7.length:Int)<a2) then
 Option.bind (app s7 ([a3])) fun v35=>
 some (.nx v35)
 else
 some (.br s7)) n7 s3) fun s7=>
 some s7

def slM_2(a0:Derivation)(a1:Int)(a2:List Bool)(a3:List Bool):Option ((List Bool)×(List Bool)):=
 Option.bind (slM_4 a0 a2 a3) fun v15=>
 Option.bind (idx a0.Parts a1) fun v19=>
 Option.bind (slR_1 a0 true) fun v24=>
 Option.bind (slS_7 a2 v24 (v19.Sequent.Left.length:Int) v15) fun v29=>
 Option.bind (slR_1 a0 false) fun v32=>
 Option.bind (slS_7 a3 v32 (v19.Sequent.Right.length:Int) v15) fun v37=>
 some (v29,v37)

def sCA_(a0:Derivation)(a1:List Int):Option ((List Bool)×(List Bool)×Bool):=
 Option.bind (slV_3 a0) fun v11=>
 bif v11 then
 Option.bind (mkn (a0.Sequent.Left.length:Int)) fun n19=>
 Option.bind (mkn (a0.Sequent.Right.length:Int)) fun n24=>
 thenL (ρ:=((List Bool)×(List Bool)×Bool)) (σ:=Derivation×(List Bool)×(List Bool)) (forN (fun (i5:Nat) (s5:Derivation×(List Bool)×(List Bool))=>
 Option.bind (idx a1 (i5:Int)) fun v33=>
 Option.bind (slI_3 v33 (0:Int) (IntKind.i64.wrap ((s5.1.Parts.length:Int)-(1:Int)))) fun v39=>
 bif v39 then
 Option.bind (idx a1 (i5:Int)) fun v47=>
 Option.bind (slM_2 s5.1 v47 s5.2.1 s5.2.2) fun v51=>
 Option.bind (idx a1 (i5:Int)) fun v58=>
 Option.bind (idx s5.1.Parts v58) fun v60=>
 some (.nx (v60,v51.1,v51.2))
 else
 some (.rt ([],[],false))) a1.length 0 (a0,List.replicate n19 false,List.replicate n24 false)) fun s5=>
 some (s5.2.1,s5.2.2,true)
 else
 some ([],[],false)

def irN_:Nat→Derivation→Option Int
 | 0,_=>none
 | n+1,a0=>
 thenL (ρ:=Int) (σ:=Int) (forN (fun (i3:Nat) (s3:Int)=>
 Option.bind (idx a0.Parts (i3:Int)) fun v11=>
 bif decide ((60:Int)<s3) then
 some (.rt s3)
 else
 Option.bind (irN_ n v11) fun v18=>
 some (.nx (IntKind.i64.wrap (s3+v18)))) a0.Parts.length 0 (1:Int)) fun s3=>
 some s3
def irN_1(a0:Derivation):Option Int:=lim fun n=>irN_ n a0

def isO_:Nat→Formula→Option Int
 | 0,_=>none
 | n+1,a0=>
 thenL (ρ:=Int) (σ:=Int) (forN (fun (i3:Nat) (s3:Int)=>
 Option.bind (idx a0.Parts (i3:Int)) fun v11=>
 bif decide ((40:Int)<s3) then
 some (.rt s3)
 else
 Option.bind (isO_ n v11) fun v18=>
 some (.nx (IntKind.i64.wrap (s3+v18)))) a0.Parts.length 0 (1:Int)) fun s3=>
 some s3
def isO_1(a0:Formula):Option Int:=lim fun n=>isO_ n a0

def iiQ_2(a0:Int):Option Bool:=
 bif decide (a0=(8:Int)) then
 some true
 else
 some (decide (a0=(9:Int)))

def iiB_(a0:Int):Option Bool:=
 bif decide (a0=(5:Int)) then
 some true
 else
 bif decide (a0=(6:Int)) then
 some true
 else
 some (decide (a0=(7:Int)))

def iiU_(a0:Int):Option Bool:=
 bif decide ((65:Int)≤a0) then
 some (decide (a0≤(90:Int)))
 else
 some false

def iiL_(a0:Int):Option Bool:=
 bif decide ((97:Int)≤a0) then
 some (decide (a0≤(122:Int)))
 else
 some false

def iiD_(a0:Int):Option Bool:=
 bif decide ((48:Int)≤a0) then
 some (decide (a0≤(57:Int)))
 else
 some false

def iw_(a0:Int)(a1:Int)(a2:Int):Option Bool:=
 bif decide (a1≤a0) then
 some (decide (a0≤a2))
 else
 some false

def iiV_(a0:ByteArray):Option Bool:=
 Option.bind (bnd (a0.size:Int)) fun N2=>
 thenL (ρ:=Bool) (σ:=Unit) (forN (fun (i2:Nat) (s2:Unit)=>
 bif decide ((i2:Int)=(0:Int)) then
 Option.bind (sidx a0 (i2:Int)) fun v14=>
 Option.bind (iiU_ v14) fun v15=>
 bif v15 then
 bif decide ((0:Int)<(i2:Int)) then
 Option.bind (sidx a0 (i2:Int)) fun v24=>
 Option.bind (iiL_ v24) fun v25=>
 bif v25 then
 some (.nx ())
 else
 Option.bind (sidx a0 (i2:Int)) fun v31=>
 Option.bind (iiD_ v31) fun v32=>
 bif v32 then
 some (.nx ())
 else
 some (.rt false)
 else
 some (.nx ())
 else
 some (.rt false)
 else
 bif decide ((0:Int)<(i2:Int)) then
 Option.bind (sidx a0 (i2:Int)) fun v24=>
 Option.bind (iiL_ v24) fun v25=>
 bif v25 then
 some (.nx ())
 else
 Option.bind (sidx a0 (i2:Int)) fun v31=>
 Option.bind (iiD_ v31) fun v32=>
 bif v32 then
 some (.nx ())
 else
 some (.rt false)
 else
 some (.nx ())) N2 0 ()) fun s2=>
 Option.bind (iw_ (a0.size:Int) (1:Int) (4:Int)) fun v39=>
 some v39

def iiE_(a0:Term):Option Bool:=
 some (decide (a0.Name=(⟨#[61]⟩:ByteArray)))

def isN_1:Nat→Term→Option Int
 | 0,_=>none
 | n+1,a0=>
 thenL (ρ:=Int) (σ:=Int) (forN (fun (i3:Nat) (s3:Int)=>
 Option.bind (idx a0.Args (i3:Int)) fun v11=>
 bif decide ((30:Int)<s3) then
 some (.rt s3)
 else
 Option.bind (isN_1 n v11) fun v18=>
 some (.nx (IntKind.i64.wrap (s3+v18)))) a0.Args.length 0 (1:Int)) fun s3=>
 some s3
def is_2(a0:Term):Option Int:=lim fun n=>isN_1 n a0

def idN_:Nat→Term→Option Int
 | 0,_=>none
 | n+1,a0=>
 thenL (ρ:=Int) (σ:=Int) (forN (fun (i3:Nat) (s3:Int)=>
 Option.bind (idx a0.Args (i3:Int)) fun v11=>
 Option.bind (idN_ n v11) fun v15=>
 some (.nx (max s3 v15))) a0.Args.length 0 (0:Int)) fun s3=>
 some (IntKind.i64.wrap (s3+(1:Int)))
def id_(a0:Term):Option Int:=lim fun n=>idN_ n a0

def iiS_1(a0:Term):Option Bool:=
 Option.bind (is_2 a0) fun v4=>
 bif decide (v4≤(30:Int)) then
 Option.bind (id_ a0) fun v8=>
 some (decide (v8≤(8:Int)))
 else
 some false

def ir_  :Option (List ByteArray):=
 some ([(⟨#[116,114,117,101]⟩:ByteArray),(⟨#[102,97,108,115,101]⟩:ByteArray),(⟨#[116,114,117,116,104]⟩:ByteArray),(⟨#[98,111,116,104]⟩:ByteArray),(⟨#[101,105,116,104,101,114]⟩:ByteArray),(⟨#[105,102]⟩:ByteArray),(⟨#[97,108,108]⟩:ByteArray),(⟨#[115,111,109,101]⟩:ByteArray)])

def sIS_(a0:List ByteArray)(a1:ByteArray):Option Int:=
 thenL (ρ:=Int) (σ:=Unit) (forN (fun (i2:Nat) (s2:Unit)=>
 Option.bind (idx a0 (i2:Int)) fun v14=>
 bif decide (a1=v14) then
 some (.rt (i2:Int))
 else
 some (.nx ())) a0.length 0 ()) fun s2=>
 some (-1:Int)

def sCS_(a0:List ByteArray)(a1:ByteArray):Option Bool:=
 Option.bind (sIS_ a0 a1) fun v7=>
 some (decide ((0:Int)≤v7))

def iiS_(a0:ByteArray):Option Bool:=
 Option.bind (bnd (a0.size:Int)) fun N2=>
 thenL (ρ:=Bool) (σ:=Unit) (forN (fun (i2:Nat) (s2:Unit)=>
 bif decide ((i2:Int)=(0:Int)) then
 Option.bind (sidx a0 (i2:Int)) fun v14=>
 Option.bind (iiL_ v14) fun v15=>
 bif v15 then
 Option.bind (sidx a0 (i2:Int)) fun v21=>
 Option.bind (iiL_ v21) fun v22=>
 bif v22 then
 some (.nx ())
 else
 Option.bind (sidx a0 (i2:Int)) fun v27=>
 Option.bind (iiD_ v27) fun v28=>
 bif v28 then
 some (.nx ())
 else
 Option.bind (sidx a0 (i2:Int)) fun v34=>
 bif decide (v34=(95:Int)) then
 some (.nx ())
 else
 some (.rt false)
 else
 some (.rt false)
 else
 Option.bind (sidx a0 (i2:Int)) fun v21=>
 Option.bind (iiL_ v21) fun v22=>
 bif v22 then
 some (.nx ())
 else
 Option.bind (sidx a0 (i2:Int)) fun v27=>
 Option.bind (iiD_ v27) fun v28=>
 bif v28 then
 some (.nx ())
 else
 Option.bind (sidx a0 (i2:Int)) fun v34=>
 bif decide (v34=(95:Int)) then
 some (.nx ())
 else
 some (.rt false)) N2 0 ()) fun s2=>
 Option.bind (iw_ (a0.size:Int) (1:Int) (6:Int)) fun v41=>
 bif v41 then
 Option.bind (ir_ ) fun v43=>
 Option.bind (sCS_ v43 a0) fun v45=>
 some (!v45)
 else
 some false

def sIF_1(a0:List Term)(a1:Term→Option Bool):Option Int:=
 thenL (ρ:=Int) (σ:=Unit) (forN (fun (i2:Nat) (s2:Unit)=>
 Option.bind (idx a0 (i2:Int)) fun v14=>
 Option.bind (a1 v14) fun v16=>
 bif v16 then
 some (.rt (i2:Int))
 else
 some (.nx ())) a0.length 0 ()) fun s2=>
 some (-1:Int)

def sCF_2(a0:List Term)(a1:Term→Option Bool):Option Bool:=
 Option.bind (sIF_1 a0 a1) fun v7=>
 some (decide ((0:Int)≤v7))

mutual
def ihN_:Nat→Term→Option Bool
 | 0,_=>none
 | n+1,a0=>
 Option.bind (iiV_ a0.Name) fun v5=>
 bif v5 then
 some (decide ((a0.Args.length:Int)=(0:Int)))
 else
 Option.bind (iiS_ a0.Name) fun v12=>
 bif v12 then
 bif decide ((a0.Args.length:Int)≤(4:Int)) then
 Option.bind (sCF_2 a0.Args (fun y0=>ihN_1 n y0)) fun v22=>
 some (!v22)
 else
 some false
 else
 some false
def ihN_1:Nat→Term→Option Bool
 | 0,_=>none
 | n+1,a0=>
 Option.bind (ihN_ n a0) fun v4=>
 some (!v4)
end
def ihN_2(a0:Term):Option Bool:=lim fun n=>ihN_ n a0
def ihN_6(a0:Term):Option Bool:=lim fun n=>ihN_1 n a0

def iIV_7(a0:Term):Option Bool:=
 Option.bind (iiS_1 a0) fun v4=>
 bif v4 then
 Option.bind (ihN_2 a0) fun v7=>
 some v7
 else
 some false

def iIV_1(a0:Term):Option Bool:=
 Option.bind (iiE_ a0) fun v4=>
 bif v4 then
 bif decide ((a0.Args.length:Int)=(2:Int)) then
 Option.bind (iiS_1 a0) fun v11=>
 bif v11 then
 Option.bind (idx a0.Args (0:Int)) fun v16=>
 Option.bind (ihN_2 v16) fun v18=>
 bif v18 then
 Option.bind (idx a0.Args (1:Int)) fun v23=>
 Option.bind (ihN_2 v23) fun v25=>
 some v25
 else
 some false
 else
 some false
 else
 some false
 else
 Option.bind (iiS_ a0.Name) fun v29=>
 bif v29 then
 Option.bind (iIV_7 a0) fun v32=>
 some v32
 else
 some false

def iiZ_1(a0:Term):Option Bool:=
 bif decide (a0.Name=(⟨#[]⟩:ByteArray)) then
 some (decide ((a0.Args.length:Int)=(0:Int)))
 else
 some false

def sIF_(a0:List Formula)(a1:Formula→Option Bool):Option Int:=
 thenL (ρ:=Int) (σ:=Unit) (forN (fun (i2:Nat) (s2:Unit)=>
 Option.bind (idx a0 (i2:Int)) fun v14=>
 Option.bind (a1 v14) fun v16=>
 bif v16 then
 some (.rt (i2:Int))
 else
 some (.nx ())) a0.length 0 ()) fun s2=>
 some (-1:Int)

def sCF_(a0:List Formula)(a1:Formula→Option Bool):Option Bool:=
 Option.bind (sIF_ a0 a1) fun v7=>
 some (decide ((0:Int)≤v7))

mutual
def ihF_1:Nat→Formula→Option Bool
 | 0,_=>none
 | n+1,a0=>
 bif decide (a0.Op=(1:Int)) then
 bif decide ((a0.Parts.length:Int)=(0:Int)) then
 Option.bind (iiQ_2 a0.Op) fun v33=>
 bif v33 then
 Option.bind (iiV_ a0.Var) fun v37=>
 bif v37 then
 Option.bind (iiQ_2 a0.Op) fun v44=>
 bif v44 then
 bif decide (a0.Op=(3:Int)) then
 Option.bind (iIV_1 a0.Atom) fun v58=>
 bif v58 then
 Option.bind (sCF_ a0.Parts (fun y0=>ihF_ n y0)) fun v74=>
 some (!v74)
 else
 some false
 else
 Option.bind (iiZ_1 a0.Atom) fun v68=>
 bif v68 then
 Option.bind (sCF_ a0.Parts (fun y0=>ihF_ n y0)) fun v74=>
 some (!v74)
 else
 some false
 else
 bif decide (a0.Var=(⟨#[]⟩:ByteArray)) then
 bif decide (a0.Op=(3:Int)) then
 Option.bind (iIV_1 a0.Atom) fun v58=>
 bif v58 then
 Option.bind (sCF_ a0.Parts (fun y0=>ihF_ n y0)) fun v74=>
 some (!v74)
 else
 some false
 else
 Option.bind (iiZ_1 a0.Atom) fun v68=>
 bif v68 then
 Option.bind (sCF_ a0.Parts (fun y0=>ihF_ n y0)) fun v74=>
 some (!v74)
 else
 some false
 else
 some false
 else
 some false
 else
 Option.bind (iiQ_2 a0.Op) fun v44=>
 bif v44 then
 bif decide (a0.Op=(3:Int)) then
 Option.bind (iIV_1 a0.Atom) fun v58=>
 bif v58 then
 Option.bind (sCF_ a0.Parts (fun y0=>ihF_ n y0)) fun v74=>
 some (!v74)
 else
 some false
 else
 Option.bind (iiZ_1 a0.Atom) fun v68=>
 bif v68 then
 Option.bind (sCF_ a0.Parts (fun y0=>ihF_ n y0)) fun v74=>
 some (!v74)
 else
 some false
 else
 bif decide (a0.Var=(⟨#[]⟩:ByteArray)) then
 bif decide (a0.Op=(3:Int)) then
 Option.bind (iIV_1 a0.Atom) fun v58=>
 bif v58 then
 Option.bind (sCF_ a0.Parts (fun y0=>ihF_ n y0)) fun v74=>
 some (!v74)
 else
 some false
 else
 Option.bind (iiZ_1 a0.Atom) fun v68=>
 bif v68 then
 Option.bind (sCF_ a0.Parts (fun y0=>ihF_ n y0)) fun v74=>
 some (!v74)
 else
 some false
 else
 some false
 else
 some false
 else
 bif decide (a0.Op=(2:Int)) then
 bif decide ((a0.Parts.length:Int)=(0:Int)) then
 Option.bind (iiQ_2 a0.Op) fun v33=>
 bif v33 then
 Option.bind (iiV_ a0.Var) fun v37=>
 bif v37 then
 Option.bind (iiQ_2 a0.Op) fun v44=>
 bif v44 then
 bif decide (a0.Op=(3:Int)) then
 Option.bind (iIV_1 a0.Atom) fun v58=>
 bif v58 then
 Option.bind (sCF_ a0.Parts (fun y0=>ihF_ n y0)) fun v74=>
 some (!v74)
 else
 some false
 else
 Option.bind (iiZ_1 a0.Atom) fun v68=>
 bif v68 then
 Option.bind (sCF_ a0.Parts (fun y0=>ihF_ n y0)) fun v74=>
 some (!v74)
 else
 some false
 else
 bif decide (a0.Var=(⟨#[]⟩:ByteArray)) then
 bif decide (a0.Op=(3:Int)) then
 Option.bind (iIV_1 a0.Atom) fun v58=>
 bif v58 then
 Option.bind (sCF_ a0.Parts (fun y0=>ihF_ n y0)) fun v74=>
 some (!v74)
 else
 some false
 else
 Option.bind (iiZ_1 a0.Atom) fun v68=>
 bif v68 then
 Option.bind (sCF_ a0.Parts (fun y0=>ihF_ n y0)) fun v74=>
 some (!v74)
 else
 some false
 else
 some false
 else
 some false
 else
 Option.bind (iiQ_2 a0.Op) fun v44=>
 bif v44 then
 bif decide (a0.Op=(3:Int)) then
 Option.bind (iIV_1 a0.Atom) fun v58=>
 bif v58 then
 Option.bind (sCF_ a0.Parts (fun y0=>ihF_ n y0)) fun v74=>
 some (!v74)
 else
 some false
 else
 Option.bind (iiZ_1 a0.Atom) fun v68=>
 bif v68 then
 Option.bind (sCF_ a0.Parts (fun y0=>ihF_ n y0)) fun v74=>
 some (!v74)
 else
 some false
 else
 bif decide (a0.Var=(⟨#[]⟩:ByteArray)) then
 bif decide (a0.Op=(3:Int)) then
 Option.bind (iIV_1 a0.Atom) fun v58=>
 bif v58 then
 Option.bind (sCF_ a0.Parts (fun y0=>ihF_ n y0)) fun v74=>
 some (!v74)
 else
 some false
 else
 Option.bind (iiZ_1 a0.Atom) fun v68=>
 bif v68 then
 Option.bind (sCF_ a0.Parts (fun y0=>ihF_ n y0)) fun v74=>
 some (!v74)
 else
 some false
 else
 some false
 else
 some false
 else
 bif decide (a0.Op=(3:Int)) then
 bif decide ((a0.Parts.length:Int)=(0:Int)) then
 Option.bind (iiQ_2 a0.Op) fun v33=>
 bif v33 then
 Option.bind (iiV_ a0.Var) fun v37=>
 bif v37 then
 Option.bind (iiQ_2 a0.Op) fun v44=>
 bif v44 then
 Option.bind (iIV_1 a0.Atom) fun v58=>
 bif v58 then
 Option.bind (sCF_ a0.Parts (fun y0=>ihF_ n y0)) fun v74=>
 some (!v74)
 else
 some false
 else
 bif decide (a0.Var=(⟨#[]⟩:ByteArray)) then
 Option.bind (iIV_1 a0.Atom) fun v58=>
 bif v58 then
 Option.bind (sCF_ a0.Parts (fun y0=>ihF_ n y0)) fun v74=>
 some (!v74)
 else
 some false
 else
 some false
 else
 some false
 else
 Option.bind (iiQ_2 a0.Op) fun v44=>
 bif v44 then
 Option.bind (iIV_1 a0.Atom) fun v58=>
 bif v58 then
 Option.bind (sCF_ a0.Parts (fun y0=>ihF_ n y0)) fun v74=>
 some (!v74)
 else
 some false
 else
 bif decide (a0.Var=(⟨#[]⟩:ByteArray)) then
 Option.bind (iIV_1 a0.Atom) fun v58=>
 bif v58 then
 Option.bind (sCF_ a0.Parts (fun y0=>ihF_ n y0)) fun v74=>
 some (!v74)
 else
 some false
 else
 some false
 else
 some false
 else
 bif decide (a0.Op=(4:Int)) then
 bif decide ((a0.Parts.length:Int)=(1:Int)) then
 Option.bind (iiQ_2 a0.Op) fun v33=>
 bif v33 then
 Option.bind (iiV_ a0.Var) fun v37=>
 bif v37 then
 Option.bind (iiQ_2 a0.Op) fun v44=>
 bif v44 then
 Option.bind (iiZ_1 a0.Atom) fun v68=>
 bif v68 then
 Option.bind (sCF_ a0.Parts (fun y0=>ihF_ n y0)) fun v74=>
 some (!v74)
 else
 some false
 else
 bif decide (a0.Var=(⟨#[]⟩:ByteArray)) then
 Option.bind (iiZ_1 a0.Atom) fun v68=>
 bif v68 then
 Option.bind (sCF_ a0.Parts (fun y0=>ihF_ n y0)) fun v74=>
 some (!v74)
 else
 some false
 else
 some false
 else
 some false
 else
 Option.bind (iiQ_2 a0.Op) fun v44=>
 bif v44 then
 Option.bind (iiZ_1 a0.Atom) fun v68=>
 bif v68 then
 Option.bind (sCF_ a0.Parts (fun y0=>ihF_ n y0)) fun v74=>
 some (!v74)
 else
 some false
 else
 bif decide (a0.Var=(⟨#[]⟩:ByteArray)) then
 Option.bind (iiZ_1 a0.Atom) fun v68=>
 bif v68 then
 Option.bind (sCF_ a0.Parts (fun y0=>ihF_ n y0)) fun v74=>
 some (!v74)
 else
 some false
 else
 some false
 else
 some false
 else
 Option.bind (iiQ_2 a0.Op) fun v20=>
 bif v20 then
 bif decide ((a0.Parts.length:Int)=(1:Int)) then
 Option.bind (iiQ_2 a0.Op) fun v33=>
 bif v33 then
 Option.bind (iiV_ a0.Var) fun v37=>
 bif v37 then
 Option.bind (iiQ_2 a0.Op) fun v44=>
 bif v44 then
 Option.bind (iiZ_1 a0.Atom) fun v68=>
 bif v68 then
 Option.bind (sCF_ a0.Parts (fun y0=>ihF_ n y0)) fun v74=>
 some (!v74)
 else
 some false
 else
 bif decide (a0.Var=(⟨#[]⟩:ByteArray)) then
 Option.bind (iiZ_1 a0.Atom) fun v68=>
 bif v68 then
 Option.bind (sCF_ a0.Parts (fun y0=>ihF_ n y0)) fun v74=>
 some (!v74)
 else
 some false
 else
 some false
 else
 some false
 else
 Option.bind (iiQ_2 a0.Op) fun v44=>
 bif v44 then
 Option.bind (iiZ_1 a0.Atom) fun v68=>
 bif v68 then
 Option.bind (sCF_ a0.Parts (fun y0=>ihF_ n y0)) fun v74=>
 some (!v74)
 else
 some false
 else
 bif decide (a0.Var=(⟨#[]⟩:ByteArray)) then
 Option.bind (iiZ_1 a0.Atom) fun v68=>
 bif v68 then
 Option.bind (sCF_ a0.Parts (fun y0=>ihF_ n y0)) fun v74=>
 some (!v74)
 else
 some false
 else
 some false
 else
 some false
 else
 Option.bind (iiB_ a0.Op) fun v24=>
 bif v24 then
 bif decide ((a0.Parts.length:Int)=(2:Int)) then
 Option.bind (iiQ_2 a0.Op) fun v33=>
 bif v33 then
 Option.bind (iiV_ a0.Var) fun v37=>
 bif v37 then
 Option.bind (iiQ_2 a0.Op) fun v44=>
 bif v44 then
 Option.bind (iiZ_1 a0.Atom) fun v68=>
 bif v68 then
 Option.bind (sCF_ a0.Parts (fun y0=>ihF_ n y0)) fun v74=>
 some (!v74)
 else
 some false
 else
 bif decide (a0.Var=(⟨#[]⟩:ByteArray)) then
 Option.bind (iiZ_1 a0.Atom) fun v68=>
 bif v68 then
 Option.bind (sCF_ a0.Parts (fun y0=>ihF_ n y0)) fun v74=>
 some (!v74)
 else
 some false
 else
 some false
 else
 some false
 else
 Option.bind (iiQ_2 a0.Op) fun v44=>
 bif v44 then
 Option.bind (iiZ_1 a0.Atom) fun v68=>
 bif v68 then
 Option.bind (sCF_ a0.Parts (fun y0=>ihF_ n y0)) fun v74=>
 some (!v74)
 else
 some false
 else
 bif decide (a0.Var=(⟨#[]⟩:ByteArray)) then
 Option.bind (iiZ_1 a0.Atom) fun v68=>
 bif v68 then
 Option.bind (sCF_ a0.Parts (fun y0=>ihF_ n y0)) fun v74=>
 some (!v74)
 else
 some false
 else
 some false
 else
 some false
 else
 some false
def ihF_:Nat→Formula→Option Bool
 | 0,_=>none
 | n+1,a0=>
 Option.bind (ihF_1 n a0) fun v4=>
 some (!v4)
end
def ihF_3(a0:Formula):Option Bool:=lim fun n=>ihF_1 n a0
def ihF_5(a0:Formula):Option Bool:=lim fun n=>ihF_ n a0

def iIV_2(a0:Formula):Option Bool:=
 Option.bind (isO_1 a0) fun v4=>
 bif decide (v4≤(40:Int)) then
 Option.bind (ihF_3 a0) fun v8=>
 some v8
 else
 some false

def iIV_5(a0:Formula):Option Bool:=
 Option.bind (iIV_2 a0) fun v4=>
 some (!v4)

def iIV_4(a0:Sequent):Option Bool:=
 bif decide ((a0.Left.length:Int)≤(10:Int)) then
 bif decide ((a0.Right.length:Int)≤(10:Int)) then
 Option.bind (sCF_ a0.Left (fun y0=>iIV_5 y0)) fun v18=>
 bif v18 then
 some false
 else
 Option.bind (sCF_ a0.Right (fun y0=>iIV_5 y0)) fun v25=>
 some (!v25)
 else
 some false
 else
 some false

def sEF_2(a0:List Term)(a1:List Term)(a2:Term→Term→Option Bool):Option Bool:=
 bif decide ((a0.length:Int)=(a1.length:Int)) then
 thenL (ρ:=Bool) (σ:=Unit) (forN (fun (i4:Nat) (s4:Unit)=>
 Option.bind (idx a0 (i4:Int)) fun v20=>
 Option.bind (idx a1 (i4:Int)) fun v24=>
 Option.bind (a2 v20 v24) fun v29=>
 bif v29 then
 some (.nx ())
 else
 some (.rt false)) a0.length 0 ()) fun s4=>
 some true
 else
 some false

def iET_:Nat→Term→Term→Option Bool
 | 0,_,_=>none
 | n+1,a0,a1=>
 bif decide (a0.Name=a1.Name) then
 Option.bind (sEF_2 a0.Args a1.Args (fun y0 y1=>iET_ n y0 y1)) fun v15=>
 some v15
 else
 some false
def iET_1(a0:Term)(a1:Term):Option Bool:=lim fun n=>iET_ n a0 a1

def sEF_(a0:List Formula)(a1:List Formula)(a2:Formula→Formula→Option Bool):Option Bool:=
 bif decide ((a0.length:Int)=(a1.length:Int)) then
 thenL (ρ:=Bool) (σ:=Unit) (forN (fun (i4:Nat) (s4:Unit)=>
 Option.bind (idx a0 (i4:Int)) fun v20=>
 Option.bind (idx a1 (i4:Int)) fun v24=>
 Option.bind (a2 v20 v24) fun v29=>
 bif v29 then
 some (.nx ())
 else
 some (.rt false)) a0.length 0 ()) fun s4=>
 some true
 else
 some false

def isF_:Nat→Formula→Formula→Option Bool
 | 0,_,_=>none
 | n+1,a0,a1=>
 bif decide (a0.Op=a1.Op) then
 Option.bind (iET_1 a0.Atom a1.Atom) fun v15=>
 bif v15 then
 bif decide (a0.Var=a1.Var) then
 Option.bind (sEF_ a0.Parts a1.Parts (fun y0 y1=>isF_ n y0 y1)) fun v29=>
 some v29
 else
 some false
 else
 some false
 else
 some false
def isF_2(a0:Formula)(a1:Formula):Option Bool:=lim fun n=>isF_ n a0 a1

def iiQ_1(a0:Int):Option Bool:=
 Option.bind (iw_ a0 (11:Int) (14:Int)) fun v4=>
 some v4

def imO_(a0:Int):Option (Bool×Int):=
 bif decide (a0=(1:Int)) then
 some (true,(0:Int))
 else
 bif decide (a0=(2:Int)) then
 some (false,(1:Int))
 else
 bif decide (a0=(3:Int)) then
 some (decide (a0=(3:Int)),(4:Int))
 else
 bif decide (a0=(4:Int)) then
 some (decide (a0=(3:Int)),(4:Int))
 else
 bif decide (a0=(5:Int)) then
 some (decide (a0=(5:Int)),(5:Int))
 else
 bif decide (a0=(6:Int)) then
 some (decide (a0=(5:Int)),(5:Int))
 else
 bif decide (a0=(7:Int)) then
 some (decide (a0=(7:Int)),(6:Int))
 else
 bif decide (a0=(8:Int)) then
 some (decide (a0=(7:Int)),(6:Int))
 else
 bif decide (a0=(9:Int)) then
 some (decide (a0=(9:Int)),(7:Int))
 else
 bif decide (a0=(10:Int)) then
 some (decide (a0=(9:Int)),(7:Int))
 else
 bif decide (a0=(11:Int)) then
 some (decide (a0=(11:Int)),(8:Int))
 else
 bif decide (a0=(12:Int)) then
 some (decide (a0=(11:Int)),(8:Int))
 else
 some (decide (a0=(13:Int)),(9:Int))

def imF_(a0:Sequent)(a1:Derivation):Option (Formula×Bool):=
 Option.bind (imO_ a1.Rule) fun v12=>
 bif v12.1 then
 Option.bind (iw_ a1.Main (0:Int) (IntKind.i64.wrap ((a0.Left.length:Int)-(1:Int)))) fun v25=>
 bif v25 then
 bif decide (v12.2=(0:Int)) then
 Option.bind (idx a0.Left a1.Main) fun v45=>
 some (v45,true)
 else
 Option.bind (idx a0.Left a1.Main) fun v34=>
 bif decide (v34.Op=v12.2) then
 Option.bind (idx a0.Left a1.Main) fun v45=>
 some (v45,true)
 else
 some ((Formula.mk (0:Int) (Term.mk (⟨#[]⟩:ByteArray) ([])) (⟨#[]⟩:ByteArray) ([])),false)
 else
 some ((Formula.mk (0:Int) (Term.mk (⟨#[]⟩:ByteArray) ([])) (⟨#[]⟩:ByteArray) ([])),false)
 else
 Option.bind (iw_ a1.Main (0:Int) (IntKind.i64.wrap ((a0.Right.length:Int)-(1:Int)))) fun v25=>
 bif v25 then
 bif decide (v12.2=(0:Int)) then
 Option.bind (idx a0.Right a1.Main) fun v45=>
 some (v45,true)
 else
 Option.bind (idx a0.Right a1.Main) fun v34=>
 bif decide (v34.Op=v12.2) then
 Option.bind (idx a0.Right a1.Main) fun v45=>
 some (v45,true)
 else
 some ((Formula.mk (0:Int) (Term.mk (⟨#[]⟩:ByteArray) ([])) (⟨#[]⟩:ByteArray) ([])),false)
 else
 some ((Formula.mk (0:Int) (Term.mk (⟨#[]⟩:ByteArray) ([])) (⟨#[]⟩:ByteArray) ([])),false)

def imR_(a0:Int):Option Bool:=
 bif decide (a0=(11:Int)) then
 some true
 else
 some (decide (a0=(14:Int)))

def iiV_2(a0:Term):Option Bool:=
 Option.bind (sidx a0.Name (0:Int)) fun v5=>
 Option.bind (iiU_ v5) fun v6=>
 some v6

def icN_1:Nat→(List ByteArray)→Term→Option (List ByteArray)
 | 0,_,_=>none
 | n+1,a0,a1=>
 bif decide ((a1.Args.length:Int)=(0:Int)) then
 Option.bind (iiV_2 a1) fun v13=>
 bif v13 then
 Option.bind (sCS_ a0 a1.Name) fun v18=>
 bif v18 then
 some a0
 else
 Option.bind (app a0 ([a1.Name])) fun v24=>
 some v24
 else
 thenL (ρ:=(List ByteArray)) (σ:=(List ByteArray)) (forN (fun (i6:Nat) (s6:(List ByteArray))=>
 Option.bind (idx a1.Args (i6:Int)) fun v31=>
 Option.bind (icN_1 n s6 v31) fun v35=>
 some (.nx v35)) a1.Args.length 0 a0) fun s6=>
 some s6
 else
 thenL (ρ:=(List ByteArray)) (σ:=(List ByteArray)) (forN (fun (i6:Nat) (s6:(List ByteArray))=>
 Option.bind (idx a1.Args (i6:Int)) fun v31=>
 Option.bind (icN_1 n s6 v31) fun v35=>
 some (.nx v35)) a1.Args.length 0 a0) fun s6=>
 some s6
def ic_(a0:List ByteArray)(a1:Term):Option (List ByteArray):=lim fun n=>icN_1 n a0 a1

def sortB(a:List ByteArray):List ByteArray:=((a.map fun x=>x.data.toList).mergeSort fun x y=>decide (x≤y)).map fun l=>⟨l.toArray⟩
def sSS_(a0:List ByteArray):Option (Unit×List ByteArray):=if a0.length<4611686018427387904 then some ((),sortB a0) else none

def iv_(a0:Term):Option (List ByteArray):=
 Option.bind (ic_ ([]) a0) fun v6=>
 Option.bind (sSS_ v6) fun v8=>
 some v8.2

def sCS_3(a0:List ByteArray):Option (List ByteArray):=
 Option.bind (app ([]) a0) fun v7=>
 some v7

def igN_:Nat→(List ByteArray)→Formula→(List ByteArray)→Option (List ByteArray)
 | 0,_,_,_=>none
 | n+1,a0,a1,a2=>
 bif decide (a1.Op=(3:Int)) then
 Option.bind (iv_ a1.Atom) fun v16=>
 thenL (ρ:=(List ByteArray)) (σ:=(List ByteArray)) (forN (fun (i3:Nat) (s3:(List ByteArray))=>
 Option.bind (idx v16 (i3:Int)) fun v20=>
 Option.bind (idx v16 (i3:Int)) fun v21=>
 Option.bind (sCS_ a2 v21) fun v24=>
 bif v24 then
 some (.nx s3)
 else
 Option.bind (sCS_ s3 v21) fun v29=>
 bif v29 then
 some (.nx s3)
 else
 Option.bind (app s3 ([v21])) fun v35=>
 some (.nx v35)) v16.length 0 a0) fun s3=>
 some s3
 else
 Option.bind (iiQ_2 a1.Op) fun v40=>
 bif v40 then
 Option.bind (sCS_3 a2) fun v42=>
 Option.bind (app v42 ([a1.Var])) fun v46=>
 thenL (ρ:=(List ByteArray)) (σ:=(List ByteArray)) (forN (fun (i12:Nat) (s12:(List ByteArray))=>
 Option.bind (idx a1.Parts (i12:Int)) fun v52=>
 Option.bind (igN_ n s12 v52 v46) fun v57=>
 some (.nx v57)) a1.Parts.length 0 a0) fun s12=>
 some s12
 else
 thenL (ρ:=(List ByteArray)) (σ:=(List ByteArray)) (forN (fun (i12:Nat) (s12:(List ByteArray))=>
 Option.bind (idx a1.Parts (i12:Int)) fun v52=>
 Option.bind (igN_ n s12 v52 a2) fun v57=>
 some (.nx v57)) a1.Parts.length 0 a0) fun s12=>
 some s12
def ig_(a0:List ByteArray)(a1:Formula)(a2:List ByteArray):Option (List ByteArray):=lim fun n=>igN_ n a0 a1 a2

def if_(a0:Formula):Option (List ByteArray):=
 Option.bind (ig_ ([]) a0 ([])) fun v6=>
 Option.bind (sSS_ v6) fun v8=>
 some v8.2

def iiF_(a0:Formula)(b0:ByteArray):Option Bool:=
 Option.bind (if_ a0) fun v5=>
 Option.bind (sCS_ v5 b0) fun v7=>
 some v7

def iiF_2(a0:Sequent)(a1:ByteArray):Option Bool:=
 Option.bind (sCF_ a0.Left (fun y0=>iiF_ y0 a1)) fun v10=>
 bif v10 then
 some true
 else
 Option.bind (sCF_ a0.Right (fun y0=>iiF_ y0 a1)) fun v15=>
 some v15

mutual
def icT_:Nat→Term→Option Term
 | 0,_=>none
 | n+1,a0=>
 Option.bind (icT_1 n a0.Args) fun v7=>
 some (Term.mk a0.Name v7)
def icT_1:Nat→(List Term)→Option (List Term)
 | 0,_=>none
 | n+1,a0=>
 bif decide ((a0.length:Int)=(0:Int)) then
 some ([])
 else
 Option.bind (mkn (a0.length:Int)) fun n11=>
 thenL (ρ:=(List Term)) (σ:=(List Term)) (forN (fun (i5:Nat) (s5:(List Term))=>
 Option.bind (idx a0 (i5:Int)) fun v17=>
 Option.bind (icT_ n v17) fun v22=>
 Option.bind (idx s5 (i5:Int)) fun v23=>
 Option.bind (idx s5 (i5:Int)) fun w3=>
 some (.nx (s5.set (i5:Int).toNat v22))) a0.length 0 (List.replicate n11 (Term.mk (⟨#[]⟩:ByteArray) ([])))) fun s5=>
 some s5
end
def icT_2(a0:Term):Option Term:=lim fun n=>icT_ n a0
def icT_5(a0:List Term):Option (List Term):=lim fun n=>icT_1 n a0

def imP_2(a0:Formula)(a1:Formula→Option Formula):Option Formula:=
 Option.bind (icT_2 a0.Atom) fun v12=>
 thenL (ρ:=Formula) (σ:=(List Formula)) (forN (fun (i3:Nat) (s3:(List Formula))=>
 Option.bind (idx a0.Parts (i3:Int)) fun v21=>
 Option.bind (a1 v21) fun v27=>
 Option.bind (app s3 ([v27])) fun v29=>
 some (.nx v29)) a0.Parts.length 0 ([])) fun s3=>
 some (Formula.mk a0.Op v12 a0.Var s3)

def icF_:Nat→Formula→Option Formula
 | 0,_=>none
 | n+1,a0=>
 Option.bind (imP_2 a0 (fun y0=>icF_ n y0)) fun v4=>
 some v4
def icF_2(a0:Formula):Option Formula:=lim fun n=>icF_ n a0

def icN_:Nat→Term→ByteArray→Option Int
 | 0,_,_=>none
 | n+1,a0,a1=>
 bif decide (a0.Name=a1) then
 thenL (ρ:=Int) (σ:=Int) (forN (fun (i5:Nat) (s5:Int)=>
 Option.bind (idx a0.Args (i5:Int)) fun v17=>
 Option.bind (icN_ n v17 a1) fun v22=>
 some (.nx (IntKind.i64.wrap (s5+v22)))) a0.Args.length 0 (1:Int)) fun s5=>
 some s5
 else
 thenL (ρ:=Int) (σ:=Int) (forN (fun (i5:Nat) (s5:Int)=>
 Option.bind (idx a0.Args (i5:Int)) fun v17=>
 Option.bind (icN_ n v17 a1) fun v22=>
 some (.nx (IntKind.i64.wrap (s5+v22)))) a0.Args.length 0 (0:Int)) fun s5=>
 some s5
def icN_2(a0:Term)(a1:ByteArray):Option Int:=lim fun n=>icN_ n a0 a1

def io_(a0:ByteArray)(a1:Term):Option Bool:=
 Option.bind (icN_2 a1 a0) fun v7=>
 some (decide ((0:Int)<v7))

def ciN_(a0:ByteArray):Option Bool:=
 some (!(decide (a0=a0)))

def cCs_(a0:ByteArray)(a1:ByteArray):Option Int:=
 Option.bind (ciN_ a0) fun v8=>
 Option.bind (ciN_ a1) fun v10=>
 bif v8 then
 bif v10 then
 some (0:Int)
 else
 some (-1:Int)
 else
 bif v10 then
 some (1:Int)
 else
 bif Op.bytesLess a0.data.toList a1.data.toList then
 some (-1:Int)
 else
 bif decide (a0=a1) then
 some (0:Int)
 else
 some (1:Int)

def iSt_(a0:Binding)(a1:ByteArray):Option Int:=
 Option.bind (cCs_ a0.Var a1) fun v8=>
 some v8

def sBS_(a0:List Binding)(a1:ByteArray)(a2:Binding→ByteArray→Option Int):Option (Int×Bool):=
 thenL (ρ:=(Int×Bool)) (σ:=Int×Int) (lim fun n3=>whileN (fun (s3:Int×Int)=>
 bif decide (s3.1<s3.2) then
 Option.bind (shr .u64 (IntKind.u64.wrap (IntKind.i64.wrap (s3.1+s3.2))) (1:Int)) fun v22=>
 Option.bind (idx a0 (IntKind.i64.wrap v22)) fun v27=>
 Option.bind (a2 v27 a1) fun v30=>
 bif decide (v30<(0:Int)) then
 some (.nx (IntKind.i64.wrap ((IntKind.i64.wrap v22)+(1:Int)),s3.2))
 else
 some (.nx (s3.1,IntKind.i64.wrap v22))
 else
 some (.br s3)) n3 ((0:Int),(a0.length:Int))) fun s3=>
 bif decide (s3.1<(a0.length:Int)) then
 Option.bind (idx a0 s3.1) fun v43=>
 Option.bind (a2 v43 a1) fun v46=>
 some (s3.1,decide (v46=(0:Int)))
 else
 some (s3.1,false)

def iSt_1(a0:Substitution)(a1:ByteArray):Option (Term×Bool):=
 Option.bind (sBS_ a0.Bindings a1 (fun y0 y1=>iSt_ y0 y1)) fun v12=>
 bif v12.2 then
 Option.bind (idx a0.Bindings v12.1) fun v21=>
 some (v21.Term,true)
 else
 some ((Term.mk (⟨#[]⟩:ByteArray) ([])),false)

def iSa_:Nat→Substitution→Term→Option Term
 | 0,_,_=>none
 | n+1,a0,a1=>
 bif decide ((a1.Args.length:Int)=(0:Int)) then
 Option.bind (iSt_1 a0 a1.Name) fun v18=>
 bif v18.2 then
 Option.bind (icT_2 v18.1) fun v23=>
 some v23
 else
 some (Term.mk a1.Name ([]))
 else
 Option.bind (mkn (a1.Args.length:Int)) fun n32=>
 thenL (ρ:=Term) (σ:=(List Term)) (forN (fun (i8:Nat) (s8:(List Term))=>
 Option.bind (idx a1.Args (i8:Int)) fun v40=>
 Option.bind (iSa_ n a0 v40) fun v47=>
 Option.bind (idx s8 (i8:Int)) fun v48=>
 Option.bind (idx s8 (i8:Int)) fun w4=>
 some (.nx (s8.set (i8:Int).toNat v47))) a1.Args.length 0 (List.replicate n32 (Term.mk (⟨#[]⟩:ByteArray) ([])))) fun s8=>
 some (Term.mk a1.Name s8)
def iSa_1(a0:Substitution)(a1:Term):Option Term:=lim fun n=>iSa_ n a0 a1

def imP_(a0:Formula)(a1:Formula→Bool→Option (Formula×Bool))(a1_s:Bool):Option (Formula×Bool):=
 Option.bind (icT_2 a0.Atom) fun v12=>
 thenL (ρ:=(Formula×Bool)) (σ:=Bool×(List Formula)) (forN (fun (i3:Nat) (s3:Bool×(List Formula))=>
 Option.bind (idx a0.Parts (i3:Int)) fun v21=>
 Option.bind (a1 v21 s3.1) fun v27=>
 Option.bind (app s3.2 ([v27.1])) fun v29=>
 some (.nx (v27.2,v29))) a0.Parts.length 0 (a1_s,[])) fun s3=>
 some ((Formula.mk a0.Op v12 a0.Var s3.2),s3.1)

mutual
def isN_:Nat→Formula→ByteArray→Term→Option (Formula×Bool)
 | 0,_,_,_=>none
 | n+1,a0,a1,a2=>
 Option.bind (iiQ_2 a0.Op) fun v12=>
 bif v12 then
 bif decide (a0.Var=a1) then
 Option.bind (icF_2 a0) fun v27=>
 some (v27,true)
 else
 Option.bind (if_ a0) fun v20=>
 Option.bind (sCS_ v20 a1) fun v22=>
 bif v22 then
 Option.bind (iiQ_2 a0.Op) fun v30=>
 bif v30 then
 Option.bind (io_ a0.Var a2) fun v35=>
 bif v35 then
 some ((Formula.mk (0:Int) (Term.mk (⟨#[]⟩:ByteArray) ([])) (⟨#[]⟩:ByteArray) ([])),false)
 else
 Option.bind (imP_ a0 (fun y0 s=>is1_ n y0 a1 a2 s) true) fun v40=>
 bif decide (a0.Op=(3:Int)) then
 Option.bind (iSa_1 (Substitution.mk ([(Binding.mk a1 a2)])) a0.Atom) fun v51=>
 some ((Formula.mk v40.1.Op v51 v40.1.Var v40.1.Parts),v40.2)
 else
 some (v40.1,v40.2)
 else
 Option.bind (imP_ a0 (fun y0 s=>is1_ n y0 a1 a2 s) true) fun v40=>
 bif decide (a0.Op=(3:Int)) then
 Option.bind (iSa_1 (Substitution.mk ([(Binding.mk a1 a2)])) a0.Atom) fun v51=>
 some ((Formula.mk v40.1.Op v51 v40.1.Var v40.1.Parts),v40.2)
 else
 some (v40.1,v40.2)
 else
 Option.bind (icF_2 a0) fun v27=>
 some (v27,true)
 else
 Option.bind (iiQ_2 a0.Op) fun v30=>
 bif v30 then
 Option.bind (io_ a0.Var a2) fun v35=>
 bif v35 then
 some ((Formula.mk (0:Int) (Term.mk (⟨#[]⟩:ByteArray) ([])) (⟨#[]⟩:ByteArray) ([])),false)
 else
 Option.bind (imP_ a0 (fun y0 s=>is1_ n y0 a1 a2 s) true) fun v40=>
 bif decide (a0.Op=(3:Int)) then
 Option.bind (iSa_1 (Substitution.mk ([(Binding.mk a1 a2)])) a0.Atom) fun v51=>
 some ((Formula.mk v40.1.Op v51 v40.1.Var v40.1.Parts),v40.2)
 else
 some (v40.1,v40.2)
 else
 Option.bind (imP_ a0 (fun y0 s=>is1_ n y0 a1 a2 s) true) fun v40=>
 bif decide (a0.Op=(3:Int)) then
 Option.bind (iSa_1 (Substitution.mk ([(Binding.mk a1 a2)])) a0.Atom) fun v51=>
 some ((Formula.mk v40.1.Op v51 v40.1.Var v40.1.Parts),v40.2)
 else
 some (v40.1,v40.2)
def is1_:Nat→Formula→ByteArray→Term→Bool→Option (Formula×Bool)
 | 0,_,_,_,_=>none
 | n+1,a0,b0,b1,b2=>
 Option.bind (isN_ n a0 b0 b1) fun v12=>
 bif b2 then
 some (v12.1,v12.2)
 else
 some (v12.1,false)
end
def is_(a0:Formula)(a1:ByteArray)(a2:Term):Option (Formula×Bool):=lim fun n=>isN_ n a0 a1 a2
def is1_1(a0:Formula)(b0:ByteArray)(b1:Term)(b2:Bool):Option (Formula×Bool):=lim fun n=>is1_ n a0 b0 b1 b2

def iiF_1(a0:Formula):Option (Formula×Bool):=
 Option.bind (iIV_2 a0) fun v5=>
 bif v5 then
 some (a0,true)
 else
 some ((Formula.mk (0:Int) (Term.mk (⟨#[]⟩:ByteArray) ([])) (⟨#[]⟩:ByteArray) ([])),false)


def iSF_(a0:Formula)(a1:ByteArray)(a2:Term):Option (Formula×Bool):=
 Option.bind (iIV_2 a0) fun v11=>
 bif v11 then
 Option.bind (iiV_ a1) fun v15=>
 bif v15 then
 Option.bind (iIV_7 a2) fun v20=>
 bif v20 then
 Option.bind (is_ a0 a1 a2) fun v28=>
 bif v28.2 then
 Option.bind (iiF_1 v28.1) fun v35=>
 some (v35.1,v35.2)
 else
 some ((Formula.mk (0:Int) (Term.mk (⟨#[]⟩:ByteArray) ([])) (⟨#[]⟩:ByteArray) ([])),false)
 else
 some ((Formula.mk (0:Int) (Term.mk (⟨#[]⟩:ByteArray) ([])) (⟨#[]⟩:ByteArray) ([])),false)
 else
 some ((Formula.mk (0:Int) (Term.mk (⟨#[]⟩:ByteArray) ([])) (⟨#[]⟩:ByteArray) ([])),false)
 else
 some ((Formula.mk (0:Int) (Term.mk (⟨#[]⟩:ByteArray) ([])) (⟨#[]⟩:ByteArray) ([])),false)

def ii_(a0:Sequent)(a1:Derivation)(a2:Formula):Option ((List Sequent)×Bool):=
 Option.bind (imR_ a1.Rule) fun v14=>
 bif v14 then
 Option.bind (idx a2.Parts (0:Int)) fun v33=>
 Option.bind (iSF_ v33 a2.Var a1.Term) fun v39=>
 bif v39.2 then
 Option.bind (imO_ a1.Rule) fun v47=>
 bif v47.1 then
 some ([(Sequent.mk ([v39.1]) ([]))],true)
 else
 some ([(Sequent.mk ([]) ([v39.1]))],true)
 else
 some ([],false)
 else
 Option.bind (iiV_ a1.Term.Name) fun v20=>
 bif v20 then
 Option.bind (iiF_2 a0 a1.Term.Name) fun v27=>
 bif v27 then
 some ([],false)
 else
 Option.bind (idx a2.Parts (0:Int)) fun v33=>
 Option.bind (iSF_ v33 a2.Var a1.Term) fun v39=>
 bif v39.2 then
 Option.bind (imO_ a1.Rule) fun v47=>
 bif v47.1 then
 some ([(Sequent.mk ([v39.1]) ([]))],true)
 else
 some ([(Sequent.mk ([]) ([v39.1]))],true)
 else
 some ([],false)
 else
 some ([],false)

def ia1_(a0:Int)(b0:Formula):Option (List Formula):=
 Option.bind (idx b0.Parts a0) fun v7=>
 some ([v7])

def ia2_(a0:Formula)(b0:Formula):Option Bool:=
 Option.bind (isF_2 b0 a0) fun v6=>
 some v6

def ia_(a0:Sequent)(a1:Derivation):Option ((List Sequent)×Bool):=
 bif decide (a1.Rule=(15:Int)) then
 bif decide (a1.Main=(0:Int)) then
 Option.bind (iiZ_1 a1.Term) fun v18=>
 bif v18 then
 Option.bind (iIV_2 a1.Cut) fun v24=>
 bif v24 then
 some ([(Sequent.mk ([]) ([a1.Cut])),(Sequent.mk ([a1.Cut]) ([]))],true)
 else
 some ([],false)
 else
 some ([],false)
 else
 some ([],false)
 else
 Option.bind (iw_ a1.Rule (1:Int) (15:Int)) fun v38=>
 bif v38 then
 Option.bind (isF_2 a1.Cut (Formula.mk (0:Int) (Term.mk (⟨#[]⟩:ByteArray) ([])) (⟨#[]⟩:ByteArray) ([]))) fun v44=>
 bif v44 then
 Option.bind (iiQ_1 a1.Rule) fun v50=>
 Option.bind (iiZ_1 a1.Term) fun v53=>
 bif v50==(!v53) then
 Option.bind (imF_ a0 a1) fun v60=>
 bif v60.2 then
 Option.bind (iiQ_1 a1.Rule) fun v67=>
 bif v67 then
 Option.bind (ii_ a0 a1 v60.1) fun v71=>
 some (v71.1,v71.2)
 else
 bif decide (a1.Rule=(1:Int)) then
 bif decide (v60.1.Op=(2:Int)) then
 some ([],true)
 else
 Option.bind (sCF_ a0.Right (fun y0=>ia2_ y0 v60.1)) fun v86=>
 some ([],v86)
 else
 bif decide (a1.Rule=(2:Int)) then
 some ([],true)
 else
 bif decide (a1.Rule=(3:Int)) then
 Option.bind (ia1_ (0:Int) v60.1) fun v93=>
 some ([(Sequent.mk ([]) v93)],true)
 else
 bif decide (a1.Rule=(4:Int)) then
 Option.bind (ia1_ (0:Int) v60.1) fun v99=>
 some ([(Sequent.mk v99 ([]))],true)
 else
 bif decide (a1.Rule=(5:Int)) then
 some ([(Sequent.mk v60.1.Parts ([]))],true)
 else
 bif decide (a1.Rule=(6:Int)) then
 Option.bind (ia1_ (0:Int) v60.1) fun v111=>
 Option.bind (ia1_ (1:Int) v60.1) fun v114=>
 some ([(Sequent.mk ([]) v111),(Sequent.mk ([]) v114)],true)
 else
 bif decide (a1.Rule=(7:Int)) then
 Option.bind (ia1_ (0:Int) v60.1) fun v120=>
 Option.bind (ia1_ (1:Int) v60.1) fun v123=>
 some ([(Sequent.mk v120 ([])),(Sequent.mk v123 ([]))],true)
 else
 bif decide (a1.Rule=(8:Int)) then
 some ([(Sequent.mk ([]) v60.1.Parts)],true)
 else
 bif decide (a1.Rule=(9:Int)) then
 Option.bind (ia1_ (0:Int) v60.1) fun v135=>
 Option.bind (ia1_ (1:Int) v60.1) fun v138=>
 some ([(Sequent.mk ([]) v135),(Sequent.mk v138 ([]))],true)
 else
 Option.bind (ia1_ (0:Int) v60.1) fun v142=>
 Option.bind (ia1_ (1:Int) v60.1) fun v144=>
 some ([(Sequent.mk v142 v144)],true)
 else
 some ([],false)
 else
 some ([],false)
 else
 some ([],false)
 else
 some ([],false)

def iDr_1(a0:Derivation)(a1:Bool)(a2:Int):Option Bool:=
 bif decide (a0.Rule=(15:Int)) then
 some false
 else
 Option.bind (imR_ a0.Rule) fun v15=>
 bif v15 then
 some false
 else
 Option.bind (imO_ a0.Rule) fun v20=>
 bif v20.1==a1 then
 some (decide (a0.Main=a2))
 else
 some false

def iDr_2(a0:Derivation)(a1:List Formula)(a2:Bool):Option (List Formula):=
 thenL (ρ:=(List Formula)) (σ:=(List Formula)) (forN (fun (i3:Nat) (s3:(List Formula))=>
 Option.bind (idx a1 (i3:Int)) fun v16=>
 Option.bind (iDr_1 a0 a2 (i3:Int)) fun v21=>
 bif v21 then
 some (.nx s3)
 else
 Option.bind (app s3 ([v16])) fun v26=>
 some (.nx v26)) a1.length 0 ([])) fun s3=>
 some s3

def sGS_(a1:Int):Option (List Formula):=
 bif decide (a1<(0:Int)) then
 none
 else
 bif decide ((0:Int)<(IntKind.i64.wrap (a1-(IntKind.i64.wrap ((0:Int)-(([]:List Nat).length:Int)))))) then
 Option.bind (appz (IntKind.i64.wrap (a1-(IntKind.i64.wrap ((0:Int)-(([]:List Nat).length:Int)))))) fun n22=>
 Option.bind (slc (List.replicate n22 (Formula.mk (0:Int) (Term.mk (⟨#[]⟩:ByteArray) ([])) (⟨#[]⟩:ByteArray) ([]))) (0:Int) (([]:List Nat).length:Int)) fun v25=>
 some v25
 else
 some ([])

def sCS_1(a0:List (List Formula)):Option (List Formula):=
 thenL (ρ:=(List Formula)) (σ:=Int) (forN (fun (i3:Nat) (s3:Int)=>
 Option.bind (idx a0 (i3:Int)) fun v13=>
 bif decide ((IntKind.i64.wrap (s3+(v13.length:Int)))<(0:Int)) then
 none
 else
 some (.nx (IntKind.i64.wrap (s3+(v13.length:Int))))) a0.length 0 (0:Int)) fun s3=>
 Option.bind (sGS_ s3) fun v24=>
 thenL (ρ:=(List Formula)) (σ:=(List Formula)) (forN (fun (i11:Nat) (s11:(List Formula))=>
 Option.bind (idx a0 (i11:Int)) fun v29=>
 Option.bind (app s11 v29) fun v33=>
 some (.nx v33)) a0.length 0 v24) fun s11=>
 some s11

def icF_1(a0:List Formula):Option (List Formula):=
 thenL (ρ:=(List Formula)) (σ:=(List Formula)) (forN (fun (i3:Nat) (s3:(List Formula))=>
 Option.bind (idx a0 (i3:Int)) fun v11=>
 Option.bind (icF_2 v11) fun v15=>
 Option.bind (app s3 ([v15])) fun v17=>
 some (.nx v17)) a0.length 0 ([])) fun s3=>
 some s3

def icS_(a0:Sequent):Option Sequent:=
 Option.bind (icF_1 a0.Left) fun v5=>
 Option.bind (icF_1 a0.Right) fun v8=>
 some (Sequent.mk v5 v8)

def ip_(a0:Sequent)(a1:Derivation):Option ((List Sequent)×Bool):=
 Option.bind (ia_ a0 a1) fun v15=>
 bif v15.2 then
 thenL (ρ:=((List Sequent)×Bool)) (σ:=(List Sequent)) (forN (fun (i6:Nat) (s6:(List Sequent))=>
 Option.bind (idx v15.1 (i6:Int)) fun v25=>
 Option.bind (iDr_2 a1 a0.Left true) fun v30=>
 Option.bind (sCS_1 ([v30,v25.Left])) fun v34=>
 Option.bind (iDr_2 a1 a0.Right false) fun v38=>
 Option.bind (sCS_1 ([v38,v25.Right])) fun v42=>
 Option.bind (icS_ (Sequent.mk v34 v42)) fun v44=>
 Option.bind (iIV_4 v44) fun v46=>
 bif v46 then
 Option.bind (app s6 ([v44])) fun v51=>
 some (.nx v51)
 else
 some (.rt ([],false))) v15.1.length 0 ([])) fun s6=>
 some (s6,true)
 else
 some ([],false)

def iPO_(a0:Sequent)(a1:Derivation):Option ((List Sequent)×Bool):=
 Option.bind (iIV_4 a0) fun v7=>
 bif v7 then
 Option.bind (ip_ a0 a1) fun v11=>
 some (v11.1,v11.2)
 else
 some ([],false)

def isF_1(a0:List Formula)(a1:List Formula):Option Bool:=
 Option.bind (sEF_ a0 a1 (fun y0 y1=>isF_2 y0 y1)) fun v7=>
 some v7

def isS_(a0:Sequent)(a1:Sequent):Option Bool:=
 Option.bind (isF_1 a0.Left a1.Left) fun v9=>
 bif v9 then
 Option.bind (isF_1 a0.Right a1.Right) fun v15=>
 some v15
 else
 some false

def iiR_1(a0:Sequent)(a1:Derivation):Option Bool:=
 Option.bind (isS_ a0 a1.Sequent) fun v8=>
 some v8

def sEF_1(a0:List Sequent)(a1:List Derivation)(a2:Sequent→Derivation→Option Bool):Option Bool:=
 bif decide ((a0.length:Int)=(a1.length:Int)) then
 thenL (ρ:=Bool) (σ:=Unit) (forN (fun (i4:Nat) (s4:Unit)=>
 Option.bind (idx a0 (i4:Int)) fun v20=>
 Option.bind (idx a1 (i4:Int)) fun v24=>
 Option.bind (a2 v20 v24) fun v29=>
 bif v29 then
 some (.nx ())
 else
 some (.rt false)) a0.length 0 ()) fun s4=>
 some true
 else
 some false

def iiR_(a0:Derivation):Option Bool:=
 Option.bind (iPO_ a0.Sequent a0) fun v9=>
 bif v9.2 then
 Option.bind (sEF_1 v9.1 a0.Parts (fun y0 y1=>iiR_1 y0 y1)) fun v17=>
 some v17
 else
 some false

def ifW_:Nat→Derivation→Option ((List Int)×Bool)
 | 0,_=>none
 | n+1,a0=>
 Option.bind (iiR_ a0) fun v9=>
 bif v9 then
 thenL (ρ:=((List Int)×Bool)) (σ:=Unit) (forN (fun (i4:Nat) (s4:Unit)=>
 Option.bind (idx a0.Parts (i4:Int)) fun v18=>
 Option.bind (ifW_ n v18) fun v22=>
 bif v22.2 then
 Option.bind (app ([(i4:Int)]) v22.1) fun v29=>
 some (.rt (v29,true))
 else
 some (.nx ())) a0.Parts.length 0 ()) fun s4=>
 some ([],false)
 else
 some ([],true)
def ifW_1(a0:Derivation):Option ((List Int)×Bool):=lim fun n=>ifW_ n a0

def iFW_(a0:Derivation):Option ((List Int)×Bool×Bool):=
 Option.bind (irN_1 a0) fun v8=>
 bif decide ((60:Int)<v8) then
 some ([],false,false)
 else
 Option.bind (ifW_1 a0) fun v12=>
 some (v12.1,v12.2,true)

def iIV_3(a0:Derivation):Option Bool:=
 Option.bind (iFW_ a0) fun v8=>
 bif v8.2.2 then
 some (!v8.2.1)
 else
 some false

def inM_(a0:Sequent):Option marks:=
 Option.bind (mkn (a0.Left.length:Int)) fun n6=>
 Option.bind (mkn (a0.Right.length:Int)) fun n10=>
 some (marks.mk (List.replicate n6 false) (List.replicate n10 false))

def iDr_(a0:Derivation)(a1:List Bool)(a2:Bool):Option (List Bool):=
 thenL (ρ:=(List Bool)) (σ:=(List Bool)) (forN (fun (i3:Nat) (s3:(List Bool))=>
 Option.bind (idx a1 (i3:Int)) fun v16=>
 Option.bind (iDr_1 a0 a2 (i3:Int)) fun v21=>
 bif v21 then
 some (.nx s3)
 else
 Option.bind (app s3 ([v16])) fun v26=>
 some (.nx v26)) a1.length 0 ([])) fun s3=>
 some s3

def iDm_(a0:Derivation)(a1:marks):Option Bool:=
 bif decide (a0.Rule=(15:Int)) then
 some true
 else
 Option.bind (imO_ a0.Rule) fun v13=>
 bif v13.1 then
 Option.bind (idx a1.left a0.Main) fun v21=>
 some v21
 else
 Option.bind (idx a1.right a0.Main) fun v27=>
 some v27

def iDp_(a0:Derivation)(a1:marks)(a2:Int):Option marks:=
 Option.bind (iDr_ a0 a1.left true) fun v12=>
 Option.bind (iDr_ a0 a1.right false) fun v16=>
 Option.bind (iDm_ a0 a1) fun v20=>
 thenL (ρ:=marks) (σ:=(List Bool)) (lim fun n3=>whileN (fun (s3:(List Bool))=>
 Option.bind (idx a0.Parts a2) fun v27=>
 bif decide ((s3.length:Int)<(v27.Sequent.Left.length:Int)) then
 Option.bind (app s3 ([v20])) fun v37=>
 some (.nx v37)
 else
 some (.br s3)) n3 v12) fun s3=>
 thenL (ρ:=marks) (σ:=(List Bool)) (lim fun n5=>whileN (fun (s5:(List Bool))=>
 Option.bind (idx a0.Parts a2) fun v45=>
 bif decide ((s5.length:Int)<(v45.Sequent.Right.length:Int)) then
 Option.bind (app s5 ([v20])) fun v55=>
 some (.nx v55)
 else
 some (.br s5)) n5 v16) fun s5=>
 some (marks.mk s3 s5)

def iCA_(a0:Derivation)(a1:List Int):Option ((List Bool)×(List Bool)×Bool):=
 Option.bind (iIV_3 a0) fun v11=>
 bif v11 then
 Option.bind (inM_ a0.Sequent) fun v15=>
 thenL (ρ:=((List Bool)×(List Bool)×Bool)) (σ:=Derivation×(List Bool)×(List Bool)) (forN (fun (i5:Nat) (s5:Derivation×(List Bool)×(List Bool))=>
 Option.bind (idx a1 (i5:Int)) fun v20=>
 Option.bind (iw_ v20 (0:Int) (IntKind.i64.wrap ((s5.1.Parts.length:Int)-(1:Int)))) fun v27=>
 bif v27 then
 Option.bind (iDp_ s5.1 (marks.mk s5.2.1 s5.2.2) v20) fun v32=>
 Option.bind (idx s5.1.Parts v20) fun v36=>
 some (.nx (v36,v32.left,v32.right))
 else
 some (.rt ([],[],false))) a1.length 0 (a0,v15.left,v15.right)) fun s5=>
 some (s5.2.1,s5.2.2,true)
 else
 some ([],[],false)

def eBS_1(a0:List Bool)(a1:List Bool):Option Bool:=
 bif decide ((a0.length:Int)=(a1.length:Int)) then
 thenL (ρ:=Bool) (σ:=Unit) (forN (fun (i4:Nat) (s4:Unit)=>
 Option.bind (idx a0 (i4:Int)) fun v19=>
 Option.bind (idx a1 (i4:Int)) fun v23=>
 bif v19==v23 then
 some (.nx ())
 else
 some (.rt false)) a0.length 0 ()) fun s4=>
 some true
 else
 some false

mutual
def eTN_:Nat→Term→Term→Option Bool
 | 0,_,_=>none
 | n+1,a0,a1=>
 bif decide (a0.Name=a1.Name) then
 Option.bind (eTS_ n a0.Args a1.Args) fun v14=>
 bif v14 then
 some true
 else
 some false
 else
 some false
def eTS_:Nat→(List Term)→(List Term)→Option Bool
 | 0,_,_=>none
 | n+1,a0,a1=>
 bif decide ((a0.length:Int)=(a1.length:Int)) then
 thenL (ρ:=Bool) (σ:=Unit) (forN (fun (i4:Nat) (s4:Unit)=>
 Option.bind (idx a0 (i4:Int)) fun v19=>
 Option.bind (idx a1 (i4:Int)) fun v23=>
 Option.bind (eTN_ n v19 v23) fun v25=>
 bif v25 then
 some (.nx ())
 else
 some (.rt false)) a0.length 0 ()) fun s4=>
 some true
 else
 some false
end
def eqTerm(a0:Term)(a1:Term):Option Bool:=lim fun n=>eTN_ n a0 a1
def eTS_2(a0:List Term)(a1:List Term):Option Bool:=lim fun n=>eTS_ n a0 a1

mutual
def eFN_:Nat→Formula→Formula→Option Bool
 | 0,_,_=>none
 | n+1,a0,a1=>
 bif decide (a0.Op=a1.Op) then
 Option.bind (eqTerm a0.Atom a1.Atom) fun v14=>
 bif v14 then
 bif decide (a0.Var=a1.Var) then
 Option.bind (eFS_ n a0.Parts a1.Parts) fun v25=>
 bif v25 then
 some true
 else
 some false
 else
 some false
 else
 some false
 else
 some false
def eFS_:Nat→(List Formula)→(List Formula)→Option Bool
 | 0,_,_=>none
 | n+1,a0,a1=>
 bif decide ((a0.length:Int)=(a1.length:Int)) then
 thenL (ρ:=Bool) (σ:=Unit) (forN (fun (i4:Nat) (s4:Unit)=>
 Option.bind (idx a0 (i4:Int)) fun v19=>
 Option.bind (idx a1 (i4:Int)) fun v23=>
 Option.bind (eFN_ n v19 v23) fun v25=>
 bif v25 then
 some (.nx ())
 else
 some (.rt false)) a0.length 0 ()) fun s4=>
 some true
 else
 some false
end
def eF_(a0:Formula)(a1:Formula):Option Bool:=lim fun n=>eFN_ n a0 a1
def eFS_2(a0:List Formula)(a1:List Formula):Option Bool:=lim fun n=>eFS_ n a0 a1

def eS_(a0:Sequent)(a1:Sequent):Option Bool:=
 Option.bind (eFS_2 a0.Left a1.Left) fun v9=>
 bif v9 then
 Option.bind (eFS_2 a0.Right a1.Right) fun v15=>
 bif v15 then
 some true
 else
 some false
 else
 some false

mutual
def eDN_:Nat→Derivation→Derivation→Option Bool
 | 0,_,_=>none
 | n+1,a0,a1=>
 bif decide (a0.Rule=a1.Rule) then
 Option.bind (eS_ a0.Sequent a1.Sequent) fun v14=>
 bif v14 then
 bif decide (a0.Main=a1.Main) then
 Option.bind (eqTerm a0.Term a1.Term) fun v25=>
 bif v25 then
 Option.bind (eF_ a0.Cut a1.Cut) fun v31=>
 bif v31 then
 Option.bind (eDS_ n a0.Parts a1.Parts) fun v37=>
 bif v37 then
 some true
 else
 some false
 else
 some false
 else
 some false
 else
 some false
 else
 some false
 else
 some false
def eDS_:Nat→(List Derivation)→(List Derivation)→Option Bool
 | 0,_,_=>none
 | n+1,a0,a1=>
 bif decide ((a0.length:Int)=(a1.length:Int)) then
 thenL (ρ:=Bool) (σ:=Unit) (forN (fun (i4:Nat) (s4:Unit)=>
 Option.bind (idx a0 (i4:Int)) fun v19=>
 Option.bind (idx a1 (i4:Int)) fun v23=>
 Option.bind (eDN_ n v19 v23) fun v25=>
 bif v25 then
 some (.nx ())
 else
 some (.rt false)) a0.length 0 ()) fun s4=>
 some true
 else
 some false
end
def eD_(a0:Derivation)(a1:Derivation):Option Bool:=lim fun n=>eDN_ n a0 a1
def eDS_1(a0:List Derivation)(a1:List Derivation):Option Bool:=lim fun n=>eDS_ n a0 a1

def eqIntS(a0:List Int)(a1:List Int):Option Bool:=
 bif decide ((a0.length:Int)=(a1.length:Int)) then
 thenL (ρ:=Bool) (σ:=Unit) (forN (fun (i4:Nat) (s4:Unit)=>
 Option.bind (idx a0 (i4:Int)) fun v19=>
 Option.bind (idx a1 (i4:Int)) fun v23=>
 bif decide (v19=v23) then
 some (.nx ())
 else
 some (.rt false)) a0.length 0 ()) fun s4=>
 some true
 else
 some false

def mT_(a0:Int):Option ByteArray:=
 bif decide (a0≤(0:Int)) then
 some (⟨#[109,48]⟩:ByteArray)
 else
 thenL (ρ:=ByteArray) (σ:=Int×ByteArray) (lim fun n4=>whileN (fun (s4:Int×ByteArray)=>
 bif decide ((0:Int)<s4.1) then
 Option.bind (rem s4.1 (10:Int)) fun v9=>
 Option.bind (bstr ([IntKind.u8.wrap (IntKind.i64.wrap ((48:Int)+v9))])) fun v13=>
 Option.bind (sapp v13 s4.2) fun v15=>
 Option.bind (quo s4.1 (10:Int)) fun v17=>
 some (.nx (v17,v15))
 else
 some (.br s4)) n4 (a0,(⟨#[]⟩:ByteArray))) fun s4=>
 Option.bind (sapp (⟨#[109]⟩:ByteArray) s4.2) fun v19=>
 some v19

def mTS_:Nat→(List Term)→Int→Option (Int×(List Term))
 | 0,_,_=>none
 | n+1,a0,a1=>
 thenL (ρ:=(Int×(List Term))) (σ:=(List Term)×Int×Int) (lim fun n2=>whileN (fun (s2:(List Term)×Int×Int)=>
 bif decide (s2.2.2<(s2.1.length:Int)) then
 Option.bind (mT_ s2.2.1) fun v15=>
 Option.bind (idx s2.1 s2.2.2) fun v16=>
 Option.bind (idx s2.1 s2.2.2) fun w2=>
 Option.bind (idx (s2.1.set s2.2.2.toNat (Term.mk v15 w2.Args)) s2.2.2) fun v22=>
 Option.bind (idx (s2.1.set s2.2.2.toNat (Term.mk v15 w2.Args)) s2.2.2) fun w3=>
 Option.bind (mTS_ n w3.Args (IntKind.i64.wrap (s2.2.1+(1:Int)))) fun v26=>
 some (.nx ((s2.1.set s2.2.2.toNat (Term.mk v15 w2.Args)).set s2.2.2.toNat (Term.mk w3.Name v26.2),v26.1,IntKind.i64.wrap (s2.2.2+(1:Int))))
 else
 some (.br s2)) n2 (a0,a1,(0:Int))) fun s2=>
 some (s2.2.1,s2.1)
def mTS_3(a0:List Term)(a1:Int):Option (Int×(List Term)):=lim fun n=>mTS_ n a0 a1

def mFS_1:Nat→(List Formula)→Int→Option (Int×(List Formula))
 | 0,_,_=>none
 | n+1,a0,a1=>
 thenL (ρ:=(Int×(List Formula))) (σ:=(List Formula)×Int×Int) (lim fun n2=>whileN (fun (s2:(List Formula)×Int×Int)=>
 bif decide (s2.2.2<(s2.1.length:Int)) then
 Option.bind (idx s2.1 s2.2.2) fun v15=>
 Option.bind (idx s2.1 s2.2.2) fun w2=>
 Option.bind (mT_ (IntKind.i64.wrap (s2.2.1+(1:Int)))) fun v22=>
 Option.bind (idx (s2.1.set s2.2.2.toNat (Formula.mk s2.2.1 w2.Atom w2.Var w2.Parts)) s2.2.2) fun v23=>
 Option.bind (idx (s2.1.set s2.2.2.toNat (Formula.mk s2.2.1 w2.Atom w2.Var w2.Parts)) s2.2.2) fun w3=>
 Option.bind (idx ((s2.1.set s2.2.2.toNat (Formula.mk s2.2.1 w2.Atom w2.Var w2.Parts)).set s2.2.2.toNat (Formula.mk w3.Op (Term.mk v22 w3.Atom.Args) w3.Var w3.Parts)) s2.2.2) fun v30=>
 Option.bind (idx ((s2.1.set s2.2.2.toNat (Formula.mk s2.2.1 w2.Atom w2.Var w2.Parts)).set s2.2.2.toNat (Formula.mk w3.Op (Term.mk v22 w3.Atom.Args) w3.Var w3.Parts)) s2.2.2) fun w4=>
 Option.bind (mTS_3 w4.Atom.Args (IntKind.i64.wrap ((IntKind.i64.wrap (s2.2.1+(1:Int)))+(1:Int)))) fun v35=>
 Option.bind (mT_ v35.1) fun v39=>
 Option.bind (idx (((s2.1.set s2.2.2.toNat (Formula.mk s2.2.1 w2.Atom w2.Var w2.Parts)).set s2.2.2.toNat (Formula.mk w3.Op (Term.mk v22 w3.Atom.Args) w3.Var w3.Parts)).set s2.2.2.toNat (Formula.mk w4.Op (Term.mk w4.Atom.Name v35.2) w4.Var w4.Parts)) s2.2.2) fun v40=>
 Option.bind (idx (((s2.1.set s2.2.2.toNat (Formula.mk s2.2.1 w2.Atom w2.Var w2.Parts)).set s2.2.2.toNat (Formula.mk w3.Op (Term.mk v22 w3.Atom.Args) w3.Var w3.Parts)).set s2.2.2.toNat (Formula.mk w4.Op (Term.mk w4.Atom.Name v35.2) w4.Var w4.Parts)) s2.2.2) fun w5=>
 Option.bind (idx ((((s2.1.set s2.2.2.toNat (Formula.mk s2.2.1 w2.Atom w2.Var w2.Parts)).set s2.2.2.toNat (Formula.mk w3.Op (Term.mk v22 w3.Atom.Args) w3.Var w3.Parts)).set s2.2.2.toNat (Formula.mk w4.Op (Term.mk w4.Atom.Name v35.2) w4.Var w4.Parts)).set s2.2.2.toNat (Formula.mk w5.Op w5.Atom v39 w5.Parts)) s2.2.2) fun v46=>
 Option.bind (idx ((((s2.1.set s2.2.2.toNat (Formula.mk s2.2.1 w2.Atom w2.Var w2.Parts)).set s2.2.2.toNat (Formula.mk w3.Op (Term.mk v22 w3.Atom.Args) w3.Var w3.Parts)).set s2.2.2.toNat (Formula.mk w4.Op (Term.mk w4.Atom.Name v35.2) w4.Var w4.Parts)).set s2.2.2.toNat (Formula.mk w5.Op w5.Atom v39 w5.Parts)) s2.2.2) fun w6=>
 Option.bind (mFS_1 n w6.Parts (IntKind.i64.wrap (v35.1+(1:Int)))) fun v50=>
 some (.nx (((((s2.1.set s2.2.2.toNat (Formula.mk s2.2.1 w2.Atom w2.Var w2.Parts)).set s2.2.2.toNat (Formula.mk w3.Op (Term.mk v22 w3.Atom.Args) w3.Var w3.Parts)).set s2.2.2.toNat (Formula.mk w4.Op (Term.mk w4.Atom.Name v35.2) w4.Var w4.Parts)).set s2.2.2.toNat (Formula.mk w5.Op w5.Atom v39 w5.Parts)).set s2.2.2.toNat (Formula.mk w6.Op w6.Atom w6.Var v50.2),v50.1,IntKind.i64.wrap (s2.2.2+(1:Int))))
 else
 some (.br s2)) n2 (a0,a1,(0:Int))) fun s2=>
 some (s2.2.1,s2.1)
def mFS_3(a0:List Formula)(a1:Int):Option (Int×(List Formula)):=lim fun n=>mFS_1 n a0 a1

def mS_(a0:Sequent)(a1:Int):Option (Int×(List Formula)×(List Formula)):=
 Option.bind (mFS_3 a0.Left a1) fun v8=>
 Option.bind (mFS_3 a0.Right v8.1) fun v12=>
 some (v12.1,v8.2,v12.2)

def mT_1(a0:Term)(a1:Int):Option (Int×(List Term)):=
 Option.bind (mTS_3 a0.Args a1) fun v8=>
 some (v8.1,v8.2)

def mF_(a0:Formula)(a1:Int):Option (Int×(List Term)×(List Formula)):=
 Option.bind (mT_1 a0.Atom a1) fun v8=>
 Option.bind (mFS_3 a0.Parts v8.1) fun v12=>
 some (v12.1,v8.2,v12.2)

def mDS_:Nat→(List Derivation)→Int→Option (Int×(List Derivation))
 | 0,_,_=>none
 | n+1,a0,a1=>
 thenL (ρ:=(Int×(List Derivation))) (σ:=(List Derivation)×Int×Int) (lim fun n2=>whileN (fun (s2:(List Derivation)×Int×Int)=>
 bif decide (s2.2.2<(s2.1.length:Int)) then
 Option.bind (idx s2.1 s2.2.2) fun v15=>
 Option.bind (idx s2.1 s2.2.2) fun w2=>
 Option.bind (idx (s2.1.set s2.2.2.toNat (Derivation.mk s2.2.1 w2.Sequent w2.Main w2.Term w2.Cut w2.Parts)) s2.2.2) fun v21=>
 Option.bind (idx (s2.1.set s2.2.2.toNat (Derivation.mk s2.2.1 w2.Sequent w2.Main w2.Term w2.Cut w2.Parts)) s2.2.2) fun w3=>
 Option.bind (mFS_3 w3.Sequent.Left (IntKind.i64.wrap (s2.2.1+(1:Int)))) fun v26=>
 Option.bind (idx ((s2.1.set s2.2.2.toNat (Derivation.mk s2.2.1 w2.Sequent w2.Main w2.Term w2.Cut w2.Parts)).set s2.2.2.toNat (Derivation.mk w3.Rule (Sequent.mk v26.2 w3.Sequent.Right) w3.Main w3.Term w3.Cut w3.Parts)) s2.2.2) fun v29=>
 Option.bind (idx ((s2.1.set s2.2.2.toNat (Derivation.mk s2.2.1 w2.Sequent w2.Main w2.Term w2.Cut w2.Parts)).set s2.2.2.toNat (Derivation.mk w3.Rule (Sequent.mk v26.2 w3.Sequent.Right) w3.Main w3.Term w3.Cut w3.Parts)) s2.2.2) fun w4=>
 Option.bind (mFS_3 w4.Sequent.Right v26.1) fun v34=>
 Option.bind (idx (((s2.1.set s2.2.2.toNat (Derivation.mk s2.2.1 w2.Sequent w2.Main w2.Term w2.Cut w2.Parts)).set s2.2.2.toNat (Derivation.mk w3.Rule (Sequent.mk v26.2 w3.Sequent.Right) w3.Main w3.Term w3.Cut w3.Parts)).set s2.2.2.toNat (Derivation.mk w4.Rule (Sequent.mk w4.Sequent.Left v34.2) w4.Main w4.Term w4.Cut w4.Parts)) s2.2.2) fun v38=>
 Option.bind (idx (((s2.1.set s2.2.2.toNat (Derivation.mk s2.2.1 w2.Sequent w2.Main w2.Term w2.Cut w2.Parts)).set s2.2.2.toNat (Derivation.mk w3.Rule (Sequent.mk v26.2 w3.Sequent.Right) w3.Main w3.Term w3.Cut w3.Parts)).set s2.2.2.toNat (Derivation.mk w4.Rule (Sequent.mk w4.Sequent.Left v34.2) w4.Main w4.Term w4.Cut w4.Parts)) s2.2.2) fun w5=>
 Option.bind (mT_ (IntKind.i64.wrap (v34.1+(1:Int)))) fun v45=>
 Option.bind (idx ((((s2.1.set s2.2.2.toNat (Derivation.mk s2.2.1 w2.Sequent w2.Main w2.Term w2.Cut w2.Parts)).set s2.2.2.toNat (Derivation.mk w3.Rule (Sequent.mk v26.2 w3.Sequent.Right) w3.Main w3.Term w3.Cut w3.Parts)).set s2.2.2.toNat (Derivation.mk w4.Rule (Sequent.mk w4.Sequent.Left v34.2) w4.Main w4.Term w4.Cut w4.Parts)).set s2.2.2.toNat (Derivation.mk w5.Rule w5.Sequent v34.1 w5.Term w5.Cut w5.Parts)) s2.2.2) fun v46=>
 Option.bind (idx ((((s2.1.set s2.2.2.toNat (Derivation.mk s2.2.1 w2.Sequent w2.Main w2.Term w2.Cut w2.Parts)).set s2.2.2.toNat (Derivation.mk w3.Rule (Sequent.mk v26.2 w3.Sequent.Right) w3.Main w3.Term w3.Cut w3.Parts)).set s2.2.2.toNat (Derivation.mk w4.Rule (Sequent.mk w4.Sequent.Left v34.2) w4.Main w4.Term w4.Cut w4.Parts)).set s2.2.2.toNat (Derivation.mk w5.Rule w5.Sequent v34.1 w5.Term w5.Cut w5.Parts)) s2.2.2) fun w6=>
 Option.bind (idx (((((s2.1.set s2.2.2.toNat (Derivation.mk s2.2.1 w2.Sequent w2.Main w2.Term w2.Cut w2.Parts)).set s2.2.2.toNat (Derivation.mk w3.Rule (Sequent.mk v26.2 w3.Sequent.Right) w3.Main w3.Term w3.Cut w3.Parts)).set s2.2.2.toNat (Derivation.mk w4.Rule (Sequent.mk w4.Sequent.Left v34.2) w4.Main w4.Term w4.Cut w4.Parts)).set s2.2.2.toNat (Derivation.mk w5.Rule w5.Sequent v34.1 w5.Term w5.Cut w5.Parts)).set s2.2.2.toNat (Derivation.mk w6.Rule w6.Sequent w6.Main (Term.mk v45 w6.Term.Args) w6.Cut w6.Parts)) s2.2.2) fun v53=>
 Option.bind (idx (((((s2.1.set s2.2.2.toNat (Derivation.mk s2.2.1 w2.Sequent w2.Main w2.Term w2.Cut w2.Parts)).set s2.2.2.toNat (Derivation.mk w3.Rule (Sequent.mk v26.2 w3.Sequent.Right) w3.Main w3.Term w3.Cut w3.Parts)).set s2.2.2.toNat (Derivation.mk w4.Rule (Sequent.mk w4.Sequent.Left v34.2) w4.Main w4.Term w4.Cut w4.Parts)).set s2.2.2.toNat (Derivation.mk w5.Rule w5.Sequent v34.1 w5.Term w5.Cut w5.Parts)).set s2.2.2.toNat (Derivation.mk w6.Rule w6.Sequent w6.Main (Term.mk v45 w6.Term.Args) w6.Cut w6.Parts)) s2.2.2) fun w7=>
 Option.bind (mTS_3 w7.Term.Args (IntKind.i64.wrap ((IntKind.i64.wrap (v34.1+(1:Int)))+(1:Int)))) fun v58=>
 Option.bind (idx ((((((s2.1.set s2.2.2.toNat (Derivation.mk s2.2.1 w2.Sequent w2.Main w2.Term w2.Cut w2.Parts)).set s2.2.2.toNat (Derivation.mk w3.Rule (Sequent.mk v26.2 w3.Sequent.Right) w3.Main w3.Term w3.Cut w3.Parts)).set s2.2.2.toNat (Derivation.mk w4.Rule (Sequent.mk w4.Sequent.Left v34.2) w4.Main w4.Term w4.Cut w4.Parts)).set s2.2.2.toNat (Derivation.mk w5.Rule w5.Sequent v34.1 w5.Term w5.Cut w5.Parts)).set s2.2.2.toNat (Derivation.mk w6.Rule w6.Sequent w6.Main (Term.mk v45 w6.Term.Args) w6.Cut w6.Parts)).set s2.2.2.toNat (Derivation.mk w7.Rule w7.Sequent w7.Main (Term.mk w7.Term.Name v58.2) w7.Cut w7.Parts)) s2.2.2) fun v62=>
 Option.bind (idx ((((((s2.1.set s2.2.2.toNat (Derivation.mk s2.2.1 w2.Sequent w2.Main w2.Term w2.Cut w2.Parts)).set s2.2.2.toNat (Derivation.mk w3.Rule (Sequent.mk v26.2 w3.Sequent.Right) w3.Main w3.Term w3.Cut w3.Parts)).set s2.2.2.toNat (Derivation.mk w4.Rule (Sequent.mk w4.Sequent.Left v34.2) w4.Main w4.Term w4.Cut w4.Parts)).set s2.2.2.toNat (Derivation.mk w5.Rule w5.Sequent v34.1 w5.Term w5.Cut w5.Parts)).set s2.2.2.toNat (Derivation.mk w6.Rule w6.Sequent w6.Main (Term.mk v45 w6.Term.Args) w6.Cut w6.Parts)).set s2.2.2.toNat (Derivation.mk w7.Rule w7.Sequent w7.Main (Term.mk w7.Term.Name v58.2) w7.Cut w7.Parts)) s2.2.2) fun w8=>
 Option.bind (mT_ (IntKind.i64.wrap (v58.1+(1:Int)))) fun v70=>
 Option.bind (idx (((((((s2.1.set s2.2.2.toNat (Derivation.mk s2.2.1 w2.Sequent w2.Main w2.Term w2.Cut w2.Parts)).set s2.2.2.toNat (Derivation.mk w3.Rule (Sequent.mk v26.2 w3.Sequent.Right) w3.Main w3.Term w3.Cut w3.Parts)).set s2.2.2.toNat (Derivation.mk w4.Rule (Sequent.mk w4.Sequent.Left v34.2) w4.Main w4.Term w4.Cut w4.Parts)).set s2.2.2.toNat (Derivation.mk w5.Rule w5.Sequent v34.1 w5.Term w5.Cut w5.Parts)).set s2.2.2.toNat (Derivation.mk w6.Rule w6.Sequent w6.Main (Term.mk v45 w6.Term.Args) w6.Cut w6.Parts)).set s2.2.2.toNat (Derivation.mk w7.Rule w7.Sequent w7.Main (Term.mk w7.Term.Name v58.2) w7.Cut w7.Parts)).set s2.2.2.toNat (Derivation.mk w8.Rule w8.Sequent w8.Main w8.Term (Formula.mk v58.1 w8.Cut.Atom w8.Cut.Var w8.Cut.Parts) w8.Parts)) s2.2.2) fun v71=>
 Option.bind (idx (((((((s2.1.set s2.2.2.toNat (Derivation.mk s2.2.1 w2.Sequent w2.Main w2.Term w2.Cut w2.Parts)).set s2.2.2.toNat (Derivation.mk w3.Rule (Sequent.mk v26.2 w3.Sequent.Right) w3.Main w3.Term w3.Cut w3.Parts)).set s2.2.2.toNat (Derivation.mk w4.Rule (Sequent.mk w4.Sequent.Left v34.2) w4.Main w4.Term w4.Cut w4.Parts)).set s2.2.2.toNat (Derivation.mk w5.Rule w5.Sequent v34.1 w5.Term w5.Cut w5.Parts)).set s2.2.2.toNat (Derivation.mk w6.Rule w6.Sequent w6.Main (Term.mk v45 w6.Term.Args) w6.Cut w6.Parts)).set s2.2.2.toNat (Derivation.mk w7.Rule w7.Sequent w7.Main (Term.mk w7.Term.Name v58.2) w7.Cut w7.Parts)).set s2.2.2.toNat (Derivation.mk w8.Rule w8.Sequent w8.Main w8.Term (Formula.mk v58.1 w8.Cut.Atom w8.Cut.Var w8.Cut.Parts) w8.Parts)) s2.2.2) fun w9=>
 Option.bind (idx ((((((((s2.1.set s2.2.2.toNat (Derivation.mk s2.2.1 w2.Sequent w2.Main w2.Term w2.Cut w2.Parts)).set s2.2.2.toNat (Derivation.mk w3.Rule (Sequent.mk v26.2 w3.Sequent.Right) w3.Main w3.Term w3.Cut w3.Parts)).set s2.2.2.toNat (Derivation.mk w4.Rule (Sequent.mk w4.Sequent.Left v34.2) w4.Main w4.Term w4.Cut w4.Parts)).set s2.2.2.toNat (Derivation.mk w5.Rule w5.Sequent v34.1 w5.Term w5.Cut w5.Parts)).set s2.2.2.toNat (Derivation.mk w6.Rule w6.Sequent w6.Main (Term.mk v45 w6.Term.Args) w6.Cut w6.Parts)).set s2.2.2.toNat (Derivation.mk w7.Rule w7.Sequent w7.Main (Term.mk w7.Term.Name v58.2) w7.Cut w7.Parts)).set s2.2.2.toNat (Derivation.mk w8.Rule w8.Sequent w8.Main w8.Term (Formula.mk v58.1 w8.Cut.Atom w8.Cut.Var w8.Cut.Parts) w8.Parts)).set s2.2.2.toNat (Derivation.mk w9.Rule w9.Sequent w9.Main w9.Term (Formula.mk w9.Cut.Op (Term.mk v70 w9.Cut.Atom.Args) w9.Cut.Var w9.Cut.Parts) w9.Parts)) s2.2.2) fun v79=>
 Option.bind (idx ((((((((s2.1.set s2.2.2.toNat (Derivation.mk s2.2.1 w2.Sequent w2.Main w2.Term w2.Cut w2.Parts)).set s2.2.2.toNat (Derivation.mk w3.Rule (Sequent.mk v26.2 w3.Sequent.Right) w3.Main w3.Term w3.Cut w3.Parts)).set s2.2.2.toNat (Derivation.mk w4.Rule (Sequent.mk w4.Sequent.Left v34.2) w4.Main w4.Term w4.Cut w4.Parts)).set s2.2.2.toNat (Derivation.mk w5.Rule w5.Sequent v34.1 w5.Term w5.Cut w5.Parts)).set s2.2.2.toNat (Derivation.mk w6.Rule w6.Sequent w6.Main (Term.mk v45 w6.Term.Args) w6.Cut w6.Parts)).set s2.2.2.toNat (Derivation.mk w7.Rule w7.Sequent w7.Main (Term.mk w7.Term.Name v58.2) w7.Cut w7.Parts)).set s2.2.2.toNat (Derivation.mk w8.Rule w8.Sequent w8.Main w8.Term (Formula.mk v58.1 w8.Cut.Atom w8.Cut.Var w8.Cut.Parts) w8.Parts)).set s2.2.2.toNat (Derivation.mk w9.Rule w9.Sequent w9.Main w9.Term (Formula.mk w9.Cut.Op (Term.mk v70 w9.Cut.Atom.Args) w9.Cut.Var w9.Cut.Parts) w9.Parts)) s2.2.2) fun w10=>
 Option.bind (mTS_3 w10.Cut.Atom.Args (IntKind.i64.wrap ((IntKind.i64.wrap (v58.1+(1:Int)))+(1:Int)))) fun v85=>
 Option.bind (mT_ v85.1) fun v89=>
 Option.bind (idx (((((((((s2.1.set s2.2.2.toNat (Derivation.mk s2.2.1 w2.Sequent w2.Main w2.Term w2.Cut w2.Parts)).set s2.2.2.toNat (Derivation.mk w3.Rule (Sequent.mk v26.2 w3.Sequent.Right) w3.Main w3.Term w3.Cut w3.Parts)).set s2.2.2.toNat (Derivation.mk w4.Rule (Sequent.mk w4.Sequent.Left v34.2) w4.Main w4.Term w4.Cut w4.Parts)).set s2.2.2.toNat (Derivation.mk w5.Rule w5.Sequent v34.1 w5.Term w5.Cut w5.Parts)).set s2.2.2.toNat (Derivation.mk w6.Rule w6.Sequent w6.Main (Term.mk v45 w6.Term.Args) w6.Cut w6.Parts)).set s2.2.2.toNat (Derivation.mk w7.Rule w7.Sequent w7.Main (Term.mk w7.Term.Name v58.2) w7.Cut w7.Parts)).set s2.2.2.toNat (Derivation.mk w8.Rule w8.Sequent w8.Main w8.Term (Formula.mk v58.1 w8.Cut.Atom w8.Cut.Var w8.Cut.Parts) w8.Parts)).set s2.2.2.toNat (Derivation.mk w9.Rule w9.Sequent w9.Main w9.Term (Formula.mk w9.Cut.Op (Term.mk v70 w9.Cut.Atom.Args) w9.Cut.Var w9.Cut.Parts) w9.Parts)).set s2.2.2.toNat (Derivation.mk w10.Rule w10.Sequent w10.Main w10.Term (Formula.mk w10.Cut.Op (Term.mk w10.Cut.Atom.Name v85.2) w10.Cut.Var w10.Cut.Parts) w10.Parts)) s2.2.2) fun v90=>
 Option.bind (idx (((((((((s2.1.set s2.2.2.toNat (Derivation.mk s2.2.1 w2.Sequent w2.Main w2.Term w2.Cut w2.Parts)).set s2.2.2.toNat (Derivation.mk w3.Rule (Sequent.mk v26.2 w3.Sequent.Right) w3.Main w3.Term w3.Cut w3.Parts)).set s2.2.2.toNat (Derivation.mk w4.Rule (Sequent.mk w4.Sequent.Left v34.2) w4.Main w4.Term w4.Cut w4.Parts)).set s2.2.2.toNat (Derivation.mk w5.Rule w5.Sequent v34.1 w5.Term w5.Cut w5.Parts)).set s2.2.2.toNat (Derivation.mk w6.Rule w6.Sequent w6.Main (Term.mk v45 w6.Term.Args) w6.Cut w6.Parts)).set s2.2.2.toNat (Derivation.mk w7.Rule w7.Sequent w7.Main (Term.mk w7.Term.Name v58.2) w7.Cut w7.Parts)).set s2.2.2.toNat (Derivation.mk w8.Rule w8.Sequent w8.Main w8.Term (Formula.mk v58.1 w8.Cut.Atom w8.Cut.Var w8.Cut.Parts) w8.Parts)).set s2.2.2.toNat (Derivation.mk w9.Rule w9.Sequent w9.Main w9.Term (Formula.mk w9.Cut.Op (Term.mk v70 w9.Cut.Atom.Args) w9.Cut.Var w9.Cut.Parts) w9.Parts)).set s2.2.2.toNat (Derivation.mk w10.Rule w10.Sequent w10.Main w10.Term (Formula.mk w10.Cut.Op (Term.mk w10.Cut.Atom.Name v85.2) w10.Cut.Var w10.Cut.Parts) w10.Parts)) s2.2.2) fun w11=>
 Option.bind (idx ((((((((((s2.1.set s2.2.2.toNat (Derivation.mk s2.2.1 w2.Sequent w2.Main w2.Term w2.Cut w2.Parts)).set s2.2.2.toNat (Derivation.mk w3.Rule (Sequent.mk v26.2 w3.Sequent.Right) w3.Main w3.Term w3.Cut w3.Parts)).set s2.2.2.toNat (Derivation.mk w4.Rule (Sequent.mk w4.Sequent.Left v34.2) w4.Main w4.Term w4.Cut w4.Parts)).set s2.2.2.toNat (Derivation.mk w5.Rule w5.Sequent v34.1 w5.Term w5.Cut w5.Parts)).set s2.2.2.toNat (Derivation.mk w6.Rule w6.Sequent w6.Main (Term.mk v45 w6.Term.Args) w6.Cut w6.Parts)).set s2.2.2.toNat (Derivation.mk w7.Rule w7.Sequent w7.Main (Term.mk w7.Term.Name v58.2) w7.Cut w7.Parts)).set s2.2.2.toNat (Derivation.mk w8.Rule w8.Sequent w8.Main w8.Term (Formula.mk v58.1 w8.Cut.Atom w8.Cut.Var w8.Cut.Parts) w8.Parts)).set s2.2.2.toNat (Derivation.mk w9.Rule w9.Sequent w9.Main w9.Term (Formula.mk w9.Cut.Op (Term.mk v70 w9.Cut.Atom.Args) w9.Cut.Var w9.Cut.Parts) w9.Parts)).set s2.2.2.toNat (Derivation.mk w10.Rule w10.Sequent w10.Main w10.Term (Formula.mk w10.Cut.Op (Term.mk w10.Cut.Atom.Name v85.2) w10.Cut.Var w10.Cut.Parts) w10.Parts)).set s2.2.2.toNat (Derivation.mk w11.Rule w11.Sequent w11.Main w11.Term (Formula.mk w11.Cut.Op w11.Cut.Atom v89 w11.Cut.Parts) w11.Parts)) s2.2.2) fun v97=>
 Option.bind (idx ((((((((((s2.1.set s2.2.2.toNat (Derivation.mk s2.2.1 w2.Sequent w2.Main w2.Term w2.Cut w2.Parts)).set s2.2.2.toNat (Derivation.mk w3.Rule (Sequent.mk v26.2 w3.Sequent.Right) w3.Main w3.Term w3.Cut w3.Parts)).set s2.2.2.toNat (Derivation.mk w4.Rule (Sequent.mk w4.Sequent.Left v34.2) w4.Main w4.Term w4.Cut w4.Parts)).set s2.2.2.toNat (Derivation.mk w5.Rule w5.Sequent v34.1 w5.Term w5.Cut w5.Parts)).set s2.2.2.toNat (Derivation.mk w6.Rule w6.Sequent w6.Main (Term.mk v45 w6.Term.Args) w6.Cut w6.Parts)).set s2.2.2.toNat (Derivation.mk w7.Rule w7.Sequent w7.Main (Term.mk w7.Term.Name v58.2) w7.Cut w7.Parts)).set s2.2.2.toNat (Derivation.mk w8.Rule w8.Sequent w8.Main w8.Term (Formula.mk v58.1 w8.Cut.Atom w8.Cut.Var w8.Cut.Parts) w8.Parts)).set s2.2.2.toNat (Derivation.mk w9.Rule w9.Sequent w9.Main w9.Term (Formula.mk w9.Cut.Op (Term.mk v70 w9.Cut.Atom.Args) w9.Cut.Var w9.Cut.Parts) w9.Parts)).set s2.2.2.toNat (Derivation.mk w10.Rule w10.Sequent w10.Main w10.Term (Formula.mk w10.Cut.Op (Term.mk w10.Cut.Atom.Name v85.2) w10.Cut.Var w10.Cut.Parts) w10.Parts)).set s2.2.2.toNat (Derivation.mk w11.Rule w11.Sequent w11.Main w11.Term (Formula.mk w11.Cut.Op w11.Cut.Atom v89 w11.Cut.Parts) w11.Parts)) s2.2.2) fun w12=>
 Option.bind (mFS_3 w12.Cut.Parts (IntKind.i64.wrap (v85.1+(1:Int)))) fun v102=>
 Option.bind (idx (((((((((((s2.1.set s2.2.2.toNat (Derivation.mk s2.2.1 w2.Sequent w2.Main w2.Term w2.Cut w2.Parts)).set s2.2.2.toNat (Derivation.mk w3.Rule (Sequent.mk v26.2 w3.Sequent.Right) w3.Main w3.Term w3.Cut w3.Parts)).set s2.2.2.toNat (Derivation.mk w4.Rule (Sequent.mk w4.Sequent.Left v34.2) w4.Main w4.Term w4.Cut w4.Parts)).set s2.2.2.toNat (Derivation.mk w5.Rule w5.Sequent v34.1 w5.Term w5.Cut w5.Parts)).set s2.2.2.toNat (Derivation.mk w6.Rule w6.Sequent w6.Main (Term.mk v45 w6.Term.Args) w6.Cut w6.Parts)).set s2.2.2.toNat (Derivation.mk w7.Rule w7.Sequent w7.Main (Term.mk w7.Term.Name v58.2) w7.Cut w7.Parts)).set s2.2.2.toNat (Derivation.mk w8.Rule w8.Sequent w8.Main w8.Term (Formula.mk v58.1 w8.Cut.Atom w8.Cut.Var w8.Cut.Parts) w8.Parts)).set s2.2.2.toNat (Derivation.mk w9.Rule w9.Sequent w9.Main w9.Term (Formula.mk w9.Cut.Op (Term.mk v70 w9.Cut.Atom.Args) w9.Cut.Var w9.Cut.Parts) w9.Parts)).set s2.2.2.toNat (Derivation.mk w10.Rule w10.Sequent w10.Main w10.Term (Formula.mk w10.Cut.Op (Term.mk w10.Cut.Atom.Name v85.2) w10.Cut.Var w10.Cut.Parts) w10.Parts)).set s2.2.2.toNat (Derivation.mk w11.Rule w11.Sequent w11.Main w11.Term (Formula.mk w11.Cut.Op w11.Cut.Atom v89 w11.Cut.Parts) w11.Parts)).set s2.2.2.toNat (Derivation.mk w12.Rule w12.Sequent w12.Main w12.Term (Formula.mk w12.Cut.Op w12.Cut.Atom w12.Cut.Var v102.2) w12.Parts)) s2.2.2) fun v105=>
 Option.bind (idx (((((((((((s2.1.set s2.2.2.toNat (Derivation.mk s2.2.1 w2.Sequent w2.Main w2.Term w2.Cut w2.Parts)).set s2.2.2.toNat (Derivation.mk w3.Rule (Sequent.mk v26.2 w3.Sequent.Right) w3.Main w3.Term w3.Cut w3.Parts)).set s2.2.2.toNat (Derivation.mk w4.Rule (Sequent.mk w4.Sequent.Left v34.2) w4.Main w4.Term w4.Cut w4.Parts)).set s2.2.2.toNat (Derivation.mk w5.Rule w5.Sequent v34.1 w5.Term w5.Cut w5.Parts)).set s2.2.2.toNat (Derivation.mk w6.Rule w6.Sequent w6.Main (Term.mk v45 w6.Term.Args) w6.Cut w6.Parts)).set s2.2.2.toNat (Derivation.mk w7.Rule w7.Sequent w7.Main (Term.mk w7.Term.Name v58.2) w7.Cut w7.Parts)).set s2.2.2.toNat (Derivation.mk w8.Rule w8.Sequent w8.Main w8.Term (Formula.mk v58.1 w8.Cut.Atom w8.Cut.Var w8.Cut.Parts) w8.Parts)).set s2.2.2.toNat (Derivation.mk w9.Rule w9.Sequent w9.Main w9.Term (Formula.mk w9.Cut.Op (Term.mk v70 w9.Cut.Atom.Args) w9.Cut.Var w9.Cut.Parts) w9.Parts)).set s2.2.2.toNat (Derivation.mk w10.Rule w10.Sequent w10.Main w10.Term (Formula.mk w10.Cut.Op (Term.mk w10.Cut.Atom.Name v85.2) w10.Cut.Var w10.Cut.Parts) w10.Parts)).set s2.2.2.toNat (Derivation.mk w11.Rule w11.Sequent w11.Main w11.Term (Formula.mk w11.Cut.Op w11.Cut.Atom v89 w11.Cut.Parts) w11.Parts)).set s2.2.2.toNat (Derivation.mk w12.Rule w12.Sequent w12.Main w12.Term (Formula.mk w12.Cut.Op w12.Cut.Atom w12.Cut.Var v102.2) w12.Parts)) s2.2.2) fun w13=>
 Option.bind (mDS_ n w13.Parts v102.1) fun v109=>
 some (.nx ((((((((((((s2.1.set s2.2.2.toNat (Derivation.mk s2.2.1 w2.Sequent w2.Main w2.Term w2.Cut w2.Parts)).set s2.2.2.toNat (Derivation.mk w3.Rule (Sequent.mk v26.2 w3.Sequent.Right) w3.Main w3.Term w3.Cut w3.Parts)).set s2.2.2.toNat (Derivation.mk w4.Rule (Sequent.mk w4.Sequent.Left v34.2) w4.Main w4.Term w4.Cut w4.Parts)).set s2.2.2.toNat (Derivation.mk w5.Rule w5.Sequent v34.1 w5.Term w5.Cut w5.Parts)).set s2.2.2.toNat (Derivation.mk w6.Rule w6.Sequent w6.Main (Term.mk v45 w6.Term.Args) w6.Cut w6.Parts)).set s2.2.2.toNat (Derivation.mk w7.Rule w7.Sequent w7.Main (Term.mk w7.Term.Name v58.2) w7.Cut w7.Parts)).set s2.2.2.toNat (Derivation.mk w8.Rule w8.Sequent w8.Main w8.Term (Formula.mk v58.1 w8.Cut.Atom w8.Cut.Var w8.Cut.Parts) w8.Parts)).set s2.2.2.toNat (Derivation.mk w9.Rule w9.Sequent w9.Main w9.Term (Formula.mk w9.Cut.Op (Term.mk v70 w9.Cut.Atom.Args) w9.Cut.Var w9.Cut.Parts) w9.Parts)).set s2.2.2.toNat (Derivation.mk w10.Rule w10.Sequent w10.Main w10.Term (Formula.mk w10.Cut.Op (Term.mk w10.Cut.Atom.Name v85.2) w10.Cut.Var w10.Cut.Parts) w10.Parts)).set s2.2.2.toNat (Derivation.mk w11.Rule w11.Sequent w11.Main w11.Term (Formula.mk w11.Cut.Op w11.Cut.Atom v89 w11.Cut.Parts) w11.Parts)).set s2.2.2.toNat (Derivation.mk w12.Rule w12.Sequent w12.Main w12.Term (Formula.mk w12.Cut.Op w12.Cut.Atom w12.Cut.Var v102.2) w12.Parts)).set s2.2.2.toNat (Derivation.mk w13.Rule w13.Sequent w13.Main w13.Term w13.Cut v109.2),v109.1,IntKind.i64.wrap (s2.2.2+(1:Int))))
 else
 some (.br s2)) n2 (a0,a1,(0:Int))) fun s2=>
 some (s2.2.1,s2.1)
def mDS_2(a0:List Derivation)(a1:Int):Option (Int×(List Derivation)):=lim fun n=>mDS_ n a0 a1

def mD_(a0:Derivation)(a1:Int):Option (Int×(List Formula)×(List Formula)×(List Term)×(List Term)×(List Formula)×(List Derivation)):=
 Option.bind (mS_ a0.Sequent a1) fun v8=>
 Option.bind (mT_1 a0.Term v8.1) fun v12=>
 Option.bind (mF_ a0.Cut v12.1) fun v16=>
 Option.bind (mDS_2 a0.Parts v16.1) fun v20=>
 some (v20.1,v8.2.1,v8.2.2,v12.2,v16.2.1,v16.2.2,v20.2)

def mIS_(a0:List Int)(a1:Int):Option (Int×(List Int)):=
 thenL (ρ:=(Int×(List Int))) (σ:=(List Int)×Int×Int) (lim fun n2=>whileN (fun (s2:(List Int)×Int×Int)=>
 bif decide (s2.2.2<(s2.1.length:Int)) then
 Option.bind (idx s2.1 s2.2.2) fun v15=>
 Option.bind (idx s2.1 s2.2.2) fun w2=>
 some (.nx (s2.1.set s2.2.2.toNat s2.2.1,IntKind.i64.wrap (s2.2.1+(1:Int)),IntKind.i64.wrap (s2.2.2+(1:Int))))
 else
 some (.br s2)) n2 (a0,a1,(0:Int))) fun s2=>
 some (s2.2.1,s2.1)

def mBS_(a0:List Bool)(a1:Int):Option (Int×(List Bool)):=
 thenL (ρ:=(Int×(List Bool))) (σ:=(List Bool)×Int×Int) (lim fun n2=>whileN (fun (s2:(List Bool)×Int×Int)=>
 bif decide (s2.2.2<(s2.1.length:Int)) then
 Option.bind (rem s2.2.1 (3:Int)) fun v15=>
 Option.bind (idx s2.1 s2.2.2) fun v17=>
 Option.bind (idx s2.1 s2.2.2) fun w2=>
 some (.nx (s2.1.set s2.2.2.toNat (decide (v15=(0:Int))),IntKind.i64.wrap (s2.2.1+(1:Int)),IntKind.i64.wrap (s2.2.2+(1:Int))))
 else
 some (.br s2)) n2 (a0,a1,(0:Int))) fun s2=>
 some (s2.2.1,s2.1)

def hBS_1(a0:List Bool)(a1:Int):Option Int:=
 thenL (ρ:=Int) (σ:=Int) (forN (fun (i2:Nat) (s2:Int)=>
 Option.bind (idx a0 (i2:Int)) fun v14=>
 Option.bind (rem s2 (3:Int)) fun v17=>
 bif v14==(decide (v17=(0:Int))) then
 some (.nx (IntKind.i64.wrap (s2+(1:Int))))
 else
 some (.rt (-1:Int))) a0.length 0 a1) fun s2=>
 some s2

def FnExactCutAncestors(a0:Derivation)(a1:List Int):Option Bool:=
 bif decide ((1048576:Int)<(a1.length:Int)) then
 some true
 else
 Option.bind (sD_ a0 (1048576:Int)) fun v25=>
 bif decide (v25<(0:Int)) then
 some true
 else
 Option.bind (tD_ a0) fun v30=>
 Option.bind (toIntS a1) fun v32=>
 Option.bind (sCA_ v30 v32) fun v33=>
 Option.bind (tD_ a0) fun v38=>
 Option.bind (toIntS a1) fun v40=>
 Option.bind (iCA_ v38 v40) fun v44=>
 Option.bind (eBS_1 v44.1 v33.1) fun v50=>
 bif v50 then
 Option.bind (eBS_1 v44.2.1 v33.2.1) fun v55=>
 bif v55 then
 bif v44.2.2==v33.2.2 then
 Option.bind (tD_ a0) fun v65=>
 Option.bind (eD_ v38 v65) fun v66=>
 bif v66 then
 Option.bind (toIntS a1) fun v70=>
 Option.bind (eqIntS v40 v70) fun v71=>
 bif v71 then
 Option.bind (mD_ v38 (1:Int)) fun v75=>
 Option.bind (mIS_ v40 v75.1) fun v78=>
 bif decide (v78.1<(0:Int)) then
 some false
 else
 Option.bind (eBS_1 v44.1 v33.1) fun v84=>
 bif v84 then
 Option.bind (eBS_1 v44.2.1 v33.2.1) fun v90=>
 bif v90 then
 Option.bind (mBS_ v44.1 (1:Int)) fun v100=>
 Option.bind (mBS_ v44.2.1 v100.1) fun v103=>
 Option.bind (hBS_1 v100.2 (1:Int)) fun v106=>
 bif decide (v106<(0:Int)) then
 some false
 else
 Option.bind (hBS_1 v103.2 v106) fun v111=>
 bif decide (v111<(0:Int)) then
 some false
 else
 bif decide (v111=v103.1) then
 Option.bind (tD_ a0) fun v119=>
 Option.bind (toIntS a1) fun v121=>
 Option.bind (iCA_ v119 v121) fun v122=>
 Option.bind (eBS_1 v122.1 v33.1) fun v128=>
 bif v128 then
 Option.bind (eBS_1 v122.2.1 v33.2.1) fun v133=>
 bif v133 then
 bif v122.2.2==v33.2.2 then
 Option.bind (hBS_1 v100.2 (1:Int)) fun v143=>
 bif decide (v143<(0:Int)) then
 some false
 else
 Option.bind (hBS_1 v103.2 v143) fun v148=>
 bif decide (v148<(0:Int)) then
 some false
 else
 bif decide (v148=v103.1) then
 some true
 else
 some false
 else
 some false
 else
 some false
 else
 some false
 else
 some false
 else
 some false
 else
 some false
 else
 some false
 else
 some false
 else
 some false
 else
 some false
 else
 some false

end
end Go.Proofs.YtkoghcphkdecoaaGreat
