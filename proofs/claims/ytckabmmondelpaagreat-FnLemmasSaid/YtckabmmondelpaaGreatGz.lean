/- Proved: FnLemmas, as the seat states it: for every input that the row describes. No further condition. -/
import Derived.Test.YtckabmmondelpaaGreatGw1
import Derived.Test.YtckabmmondelpaaGreatGtFnLemmas
import Derived.Test.YtckabmmondelpaaGreatAvZ
import Derived.Test.YtckabmmondelpaaGreatRows
import Derived.ProofKit
import Derived.Carry
import Derived.Below
import Derived.ChangeSame
set_option linter.unusedSimpArgs false
set_option linter.unusedVariables false
set_option linter.defProp false
set_option maxRecDepth 4000
namespace Go.Proofs.YtckabmmondelpaaGreat
open Go.ChangeShapes Go.WideShapes Go.ChangeAt Go.RowKit Go.Av
theorem Tryz.own:ownKnob Tryz.prog.godebug=none:=by kernel_rfl
theorem TlO_:laidOutB Tryz.prog=true:=by kernel_rfl
theorem c5_:Tryz.prog.cellsOf 5=1:=by kernel_rfl
theorem c2_:Tryz.prog.cellsOf 22=1:=by kernel_rfl
def GT(t:TypeId):Prop:=t=5∨t=22
theorem kinds:K_ Tryz.prog GT:=by
 rintro t (rfl | rfl)
 ·exact .inr (.inl ⟨_,Tryz.underlying5⟩)
 ·exact .inr (.inr (.inr (.inl ⟨5,Tryz.underlying22,by simp[GT],by rw[c5_]; decide⟩)))
theorem uw_{n:Int}(h:(Lit.int .u8 n).wf=true):0≤n∧n≤255:=by
 simp[Lit.wf,IntKind.min,IntKind.max,IntKind.signed,IntKind.bits] at h
 exact⟨by omega,by omega⟩
theorem o5_{p:PV}(h:HasTy Tryz.prog 5 p):∃ a:Int,(fun x:Int=>0≤x∧x≤255) a∧p=((Ik .u8) a):=by
 cases h with
 | bool h  =>rw[Tryz.underlying5] at h; cases h
 | str h _=>rw[Tryz.underlying5] at h; cases h
 | sl h _ _=>rw[Tryz.underlying5] at h; cases h
 | struct h _=>rw[Tryz.underlying5] at h; cases h
 | int h hw=>
  rw[Tryz.underlying5] at h
  cases h
  exact⟨_,uw_ hw,rfl⟩
theorem o2_{p:PV}(h:HasTy Tryz.prog 22 p):∃ a:List Int,(LOk (fun x:Int=>0≤x∧x≤255)) a∧p=(.sl false 1 (a.map (Ik .u8))):=by
 cases h with
 | bool h  =>rw[Tryz.underlying22] at h; cases h
 | int h _=>rw[Tryz.underlying22] at h; cases h
 | str h _=>rw[Tryz.underlying22] at h; cases h
 | struct h _=>rw[Tryz.underlying22] at h; cases h
 | sl h hl hes=>
  rw[Tryz.underlying22] at h
  cases h
  obtain⟨ts,h1,rfl⟩:=ol_ (ok:=(fun x:Int=>0≤x∧x≤255)) (f:=(Ik .u8)) o5_ _ hes
  exact⟨ts,⟨by simpa[Big,maxLen] using hl,h1⟩,by rw[c5_]⟩
theorem law_sat(ps:List PV)(h:HasTys Tryz.prog Tryz.f3.params.toList ps):Sat Tryz.prog 3 ps (.lit (.bool true)):=by
 rw[Tryz.params3] at h
 cases h with
 | cons k0 h=>
 cases h with
 | nil=>
 obtain⟨a0,o0,rfl⟩:=o2_ k0
 exact FnLemmas_sat (FnLemmas_true a0 o0)
set_option maxRecDepth 100000 in
theorem law_lifted(os:Os)(started:os.Started)(H:Type)(enc:TypeId×Value→H):
 ReturnsInHanded {} Tryz.checked os 3 .any (Rows.fnLemmasSpec.pre6 enc Tryz.prog Tryz.f3 Rows.fnLemmasRow.domain false) (Rows.fnLemmasSpec.post enc Tryz.prog Tryz.f3 false true false false):=by
 refine returnsInHanded_of_change (C:=Tryz.checked) Tryz.own started (by kernel_rfl) Tryz.func3
  (ChangeSpec.witness6 (enc:=enc) (C:=Tryz.checked) false ⟨#[],#[.slice none 0 0],[]⟩ 8 (by kernel_rfl) (by kernel_rfl) (by kernel_rfl) (by kernel_rfl)) ?_
 intro W base args ds gs before hval0 hW hcnd _
 refine law_post (P:=Tryz.prog) (tb:=4) (base:=base) (G:=GT) TlO_ rfl rfl Tryz.underlying4 (fun ds hd=>by rw[Tryz.params3] at hd; match ds,hd with | [d0],_=>exact⟨rfl,rfl,rfl⟩) (fun W'=>okWide_bool_mk Tryz.underlying4 true) kinds ?_ hval0 hW law_sat
 intro t ht
 rw[Tryz.params3] at ht
 simp only[List.mem_cons,List.not_mem_nil,or_false] at ht
 rcases ht with rfl
 all_goals exact⟨by simp[GT],by kernel_rfl,of_decide_eq_true (by kernel_rfl)⟩
theorem andT{a b:Bool}(h1:a=true)(h2:b=true):(a&&b)=true:=by rw[h1,h2]; rfl
set_option maxHeartbeats 4000000 in
theorem law_facts:joinedFacts Tryz.pinned.checked.prog 3 Tryz.f3 Rows.fnLemmasSpec Rows.fnLemmasRow=true:=by
 unfold joinedFacts
 refine andT (andT (andT (andT (andT (andT (andT (andT (andT (andT (andT (andT (andT (andT (andT (andT (andT (andT (andT (andT (andT (andT (andT (andT (andT (andT (andT (andT (andT (andT (andT ?_ ?_) ?_) ?_) ?_) ?_) ?_) ?_) ?_) ?_) ?_) ?_) ?_) ?_) ?_) ?_) ?_) ?_) ?_) ?_) ?_) ?_) ?_) ?_) ?_) ?_) ?_) ?_) ?_) ?_) ?_) ?_
 all_goals as_aux_lemma=>kernel_rfl
theorem law_holds:Rows.FnLemmasSaid:=
 OpenClaim.holds_of_wide 3 Tryz.f3 rfl rfl rfl rfl rfl rfl rfl ⟨rfl,rfl,rfl,rfl,rfl⟩ rfl rfl rfl rfl rfl (by kernel_rfl) Tryz.func3 law_facts
  (of_decide_eq_true (by kernel_rfl)) (by unfold Func.isWrapper; first | (rw[if_pos (by decide+kernel)]; kernel_rfl) | (rw[if_neg (by decide+kernel)]; exact⟨rfl,rfl⟩))
  (fun os started H enc _=>law_lifted os started H enc)
end Go.Proofs.YtckabmmondelpaaGreat
