/- A part of the proof: lemmas only; nothing is claimed here beyond what each lemma says. -/
import Derived.Test.YtlgeocknlmbgeaaGreatGst
set_option linter.unusedSimpArgs false
set_option linter.unusedVariables false
set_option linter.defProp false
set_option maxRecDepth 4000
namespace Go.Proofs.YtlgeocknlmbgeaaGreat
open Go.Av
def zN:Term:=⟨⟨#[122,101,114,111]⟩,[]⟩
def sN(n:ByteArray):Term:=⟨⟨#[115]⟩,[⟨n,[]⟩]⟩
theorem zNg_:goodT zN=true:=by rfl
theorem sNg_{n:ByteArray}(h:isVarS n=true):goodT (sN n)=true:=by
 have h1:(⟨n,[]⟩:Term).good=true:=by rw[Term.good_u]; show(bif isVarS n then true else _)=true; rw[h]; rfl
 have h2:(sN n).good=true:=by
  rw[Term.good_u]
  show(bif isVarS ⟨#[115]⟩ then false else(isSymS ⟨#[115]⟩&&true&&([⟨n,[]⟩]:List Term).all Term.good))=true
  rw[show isVarS ⟨#[115]⟩=false from rfl,show isSymS ⟨#[115]⟩=true from rfl,List.all_cons,h1]; rfl
 have hz:(⟨n,[]⟩:Term).cnt=1:=by rw[Tcm_]; rfl
 have hd:(⟨n,[]⟩:Term).dep=1:=by rw[Tdm_]; rfl
 unfold goodT smallT
 rw[h2,show(sN n).cnt=2 from by unfold sN; rw[Tcm_]; simp[hz],show(sN n).dep=2 from by unfold sN; rw[Tdm_]; simp[Td_,hd]]
 rfl
end Go.Proofs.YtlgeocknlmbgeaaGreat
