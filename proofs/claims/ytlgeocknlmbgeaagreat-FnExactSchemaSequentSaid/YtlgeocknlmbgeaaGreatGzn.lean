/- A part of the proof: lemmas only; nothing is claimed here beyond what each lemma says. -/
import Derived.Test.YtlgeocknlmbgeaaGreatGst
set_option linter.unusedSimpArgs false
set_option linter.unusedVariables false
set_option linter.defProp false
set_option maxRecDepth 4000
namespace Go.Proofs.YtlgeocknlmbgeaaGreat
open Go.Av
def zN:Tt:=⟨⟨#[122,101,114,111]⟩,[]⟩
def sN(n:ByteArray):Tt:=⟨⟨#[115]⟩,[⟨n,[]⟩]⟩
theorem zNg_:goodT zN=true:=by rfl
theorem sNg_{n:ByteArray}(h:isVarS n=true):goodT (sN n)=true:=by
 have h1:(⟨n,[]⟩:Tt).good=true:=by rw[Tt.good_u]; show(bif isVarS n then true else _)=true; rw[h]; rfl
 have h2:(sN n).good=true:=by
  rw[Tt.good_u]
  show(bif isVarS ⟨#[115]⟩ then false else(isSymS ⟨#[115]⟩&&true&&([⟨n,[]⟩]:List Tt).all Tt.good))=true
  rw[show isVarS ⟨#[115]⟩=false from rfl,show isSymS ⟨#[115]⟩=true from rfl,List.all_cons,h1]; rfl
 have hz:(⟨n,[]⟩:Tt).cnt=1:=by rw[Tcm_]; rfl
 have hd:(⟨n,[]⟩:Tt).dep=1:=by rw[Tdm_]; rfl
 unfold goodT smallT
 rw[h2,show(sN n).cnt=2 from by unfold sN; rw[Tcm_]; simp[hz],show(sN n).dep=2 from by unfold sN; rw[Tdm_]; simp[Td_,hd]]
 rfl
def qua(n:ByteArray)(a:Ft):Ft:=⟨8,⟨⟨#[]⟩,[]⟩,n,[a]⟩
theorem zT_tot:(⟨⟨#[]⟩,[]⟩:Tt).tot=0:=by rw[Tt.tot_u]; rfl
theorem qt_(n:ByteArray)(a:Ft):(qua n a).tot=n.size+a.tot+1:=by
 unfold qua; rw[Ft.tot_u]; show(⟨⟨#[]⟩,[]⟩:Tt).tot+(n.size+ltot Ft.tot [a])=_
 rw[zT_tot]; simp[ltot]; omega
theorem zT_Ok:(⟨⟨#[]⟩,[]⟩:Tt).Ok:=Tt.Ok_of _ (by rw[Tt.tot_u]; exact Nat.le_of_ble_eq_true rfl)
theorem qua_Ok{n:ByteArray}{a:Ft}(hn:Big n.size)(ha:a.Ok):(qua n a).Ok:=
 Ft.Ok.mk _ _ _ _ (by simp[InR]) zT_Ok hn (by simp[Big]) (fun x hx=>by
  simp only[List.mem_cons,List.not_mem_nil,or_false] at hx
  rw[hx]; exact ha)
end Go.Proofs.YtlgeocknlmbgeaaGreat
