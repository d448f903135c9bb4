/- Proved: FnExactTraceDefect, as the seat states it: for every input that the row describes. No further condition. -/
import Derived.Test.YtjpljobgioglmaaGw0
import Derived.Test.YtjpljobgioglmaaGtTraceDefect
import Derived.Test.YtjpljobgioglmaaAvS
import Derived.Test.YtjpljobgioglmaaRows
import Derived.ProofKit
import Derived.Carry
import Derived.Below
import Derived.ChangeSame
set_option linter.unusedSimpArgs false
set_option linter.unusedVariables false
set_option linter.defProp false
set_option maxRecDepth 4000
namespace Go.Proofs.Ytjpljobgioglmaa
open Go.ChangeShapes Go.WideShapes Go.ChangeAt Go.RowKit Go.Av
theorem Try.own:ownKnob Try.prog.godebug=none:=by kernel_rfl
theorem Try.laidOut:laidOutB Try.prog=true:=by kernel_rfl
theorem cells_3:Try.prog.cellsOf 3=1:=by kernel_rfl
theorem cells_33:Try.prog.cellsOf 33=1:=by kernel_rfl
theorem cells_4:Try.prog.cellsOf 4=1:=by kernel_rfl
theorem cells_135:Try.prog.cellsOf 135=3:=by kernel_rfl
theorem cells_111:Try.prog.cellsOf 111=1:=by kernel_rfl
theorem cells_113:Try.prog.cellsOf 113=3:=by kernel_rfl
theorem cells_40:Try.prog.cellsOf 40=1:=by kernel_rfl
theorem cells_42:Try.prog.cellsOf 42=2:=by kernel_rfl
def GT(t:TypeId):Prop:=t=3∨t=33∨t=4∨t=135∨t=111∨t=113∨t=40∨t=42
theorem kinds:Kinds Try.prog GT:=by
 rintro t (rfl | rfl | rfl | rfl | rfl | rfl | rfl | rfl)
 ·exact .inr (.inl ⟨_,Try.underlying3⟩)
 ·exact .inr (.inr (.inr (.inl ⟨3,Try.underlying33,by simp[GT],by rw[cells_3]; decide⟩)))
 ·exact .inl Try.underlying4
 ·refine .inr (.inr (.inr (.inr ⟨_,Try.underlying135,?_,?_⟩)))
  ·simp[LaidF,cells_3,cells_4,cells_135]
  ·simp[GT]
 ·exact .inr (.inr (.inr (.inl ⟨135,Try.underlying111,by simp[GT],by rw[cells_135]; decide⟩)))
 ·refine .inr (.inr (.inr (.inr ⟨_,Try.underlying113,?_,?_⟩)))
  ·simp[LaidF,cells_3,cells_111,cells_113]
  ·simp[GT]
 ·exact .inr (.inr (.inr (.inl ⟨113,Try.underlying40,by simp[GT],by rw[cells_113]; decide⟩)))
 ·refine .inr (.inr (.inr (.inr ⟨_,Try.underlying42,?_,?_⟩)))
  ·simp[LaidF,cells_33,cells_40,cells_42]
  ·simp[GT]
theorem open_3{p:PV}(h:HasTy Try.prog 3 p):∃ a:Int,InR a∧p=(I a):=by
 cases h with
 | bool h  =>rw[Try.underlying3] at h; cases h
 | str h _=>rw[Try.underlying3] at h; cases h
 | sl h _ _=>rw[Try.underlying3] at h; cases h
 | struct h _=>rw[Try.underlying3] at h; cases h
 | int h hw=>
  rw[Try.underlying3] at h
  cases h
  exact⟨_,inR_wf hw,rfl⟩
theorem open_33{p:PV}(h:HasTy Try.prog 33 p):∃ a:List Int,(LOk InR) a∧p=(.sl false 1 (a.map I)):=by
 cases h with
 | bool h  =>rw[Try.underlying33] at h; cases h
 | int h _=>rw[Try.underlying33] at h; cases h
 | str h _=>rw[Try.underlying33] at h; cases h
 | struct h _=>rw[Try.underlying33] at h; cases h
 | sl h hl hes=>
  rw[Try.underlying33] at h
  cases h
  obtain⟨ts,h1,rfl⟩:=open_list (ok:=InR) (f:=I) open_3 _ hes
  exact⟨ts,⟨by simpa[Big,maxLen] using hl,h1⟩,by rw[cells_3]⟩
theorem open_4{p:PV}(h:HasTy Try.prog 4 p):∃ a:Bool,(fun _:Bool=>True) a∧p=(B a):=by
 cases h with
 | int h _=>rw[Try.underlying4] at h; cases h
 | str h _=>rw[Try.underlying4] at h; cases h
 | sl h _ _=>rw[Try.underlying4] at h; cases h
 | struct h _=>rw[Try.underlying4] at h; cases h
 | bool h=>exact⟨_,trivial,rfl⟩
theorem open_135{p:PV}(h:HasTy Try.prog 135 p):∃ a:Sa,Sa.Ok a∧p=((Sa.pv false) a):=by
 cases h with
 | bool h  =>rw[Try.underlying135] at h; cases h
 | int h _=>rw[Try.underlying135] at h; cases h
 | str h _=>rw[Try.underlying135] at h; cases h
 | sl h _ _=>rw[Try.underlying135] at h; cases h
 | struct h hps=>
  rw[Try.underlying135] at h
  cases h
  simp only[List.map_cons,List.map_nil] at hps
  cases hps with
  | cons k0 hps=>
  cases hps with
  | cons k1 hps=>
  cases hps with
  | cons k2 hps=>
  cases hps with
  | nil=>
  obtain⟨y0,w0,rfl⟩:=open_3 k0
  obtain⟨y1,w1,rfl⟩:=open_3 k1
  obtain⟨y2,w2,rfl⟩:=open_4 k2
  exact⟨⟨y0,y1,y2⟩,⟨w0,w1,w2⟩,rfl⟩
theorem open_111{p:PV}(h:HasTy Try.prog 111 p):∃ a:List Sa,(LOk Sa.Ok) a∧p=(.sl false 3 (a.map (Sa.pv false))):=by
 cases h with
 | bool h  =>rw[Try.underlying111] at h; cases h
 | int h _=>rw[Try.underlying111] at h; cases h
 | str h _=>rw[Try.underlying111] at h; cases h
 | struct h _=>rw[Try.underlying111] at h; cases h
 | sl h hl hes=>
  rw[Try.underlying111] at h
  cases h
  obtain⟨ts,h1,rfl⟩:=open_list (ok:=Sa.Ok) (f:=(Sa.pv false)) open_135 _ hes
  exact⟨ts,⟨by simpa[Big,maxLen] using hl,h1⟩,by rw[cells_135]⟩
theorem open_113{p:PV}(h:HasTy Try.prog 113 p):∃ a:Sb,Sb.Ok a∧p=((Sb.pv false) a):=by
 cases h with
 | bool h  =>rw[Try.underlying113] at h; cases h
 | int h _=>rw[Try.underlying113] at h; cases h
 | str h _=>rw[Try.underlying113] at h; cases h
 | sl h _ _=>rw[Try.underlying113] at h; cases h
 | struct h hps=>
  rw[Try.underlying113] at h
  cases h
  simp only[List.map_cons,List.map_nil] at hps
  cases hps with
  | cons k0 hps=>
  cases hps with
  | cons k1 hps=>
  cases hps with
  | cons k2 hps=>
  cases hps with
  | nil=>
  obtain⟨y0,w0,rfl⟩:=open_3 k0
  obtain⟨y1,w1,rfl⟩:=open_3 k1
  obtain⟨y2,w2,rfl⟩:=open_111 k2
  exact⟨⟨y0,y1,y2⟩,⟨w0,w1,w2⟩,rfl⟩
theorem open_40{p:PV}(h:HasTy Try.prog 40 p):∃ a:List Sb,(LOk Sb.Ok) a∧p=(.sl false 3 (a.map (Sb.pv false))):=by
 cases h with
 | bool h  =>rw[Try.underlying40] at h; cases h
 | int h _=>rw[Try.underlying40] at h; cases h
 | str h _=>rw[Try.underlying40] at h; cases h
 | struct h _=>rw[Try.underlying40] at h; cases h
 | sl h hl hes=>
  rw[Try.underlying40] at h
  cases h
  obtain⟨ts,h1,rfl⟩:=open_list (ok:=Sb.Ok) (f:=(Sb.pv false)) open_113 _ hes
  exact⟨ts,⟨by simpa[Big,maxLen] using hl,h1⟩,by rw[cells_113]⟩
theorem open_42{p:PV}(h:HasTy Try.prog 42 p):∃ a:Ct,Ct.Ok a∧p=((Ct.pv false) a):=by
 cases h with
 | bool h  =>rw[Try.underlying42] at h; cases h
 | int h _=>rw[Try.underlying42] at h; cases h
 | str h _=>rw[Try.underlying42] at h; cases h
 | sl h _ _=>rw[Try.underlying42] at h; cases h
 | struct h hps=>
  rw[Try.underlying42] at h
  cases h
  simp only[List.map_cons,List.map_nil] at hps
  cases hps with
  | cons k0 hps=>
  cases hps with
  | cons k1 hps=>
  cases hps with
  | nil=>
  obtain⟨y0,w0,rfl⟩:=open_33 k0
  obtain⟨y1,w1,rfl⟩:=open_40 k1
  exact⟨⟨y0,y1⟩,⟨w0,w1⟩,rfl⟩
theorem law_sat(ps:List PV)(h:HasTys Try.prog Try.f4.params.toList ps):Sat Try.prog 4 ps (.lit (.bool true)):=by
 rw[Try.params4] at h
 cases h with
 | cons k0 h=>
 cases h with
 | nil=>
 obtain⟨a0,o0,rfl⟩:=open_42 k0
 exact FnExactTraceDefect_sat (FnExactTraceDefect_true a0 o0)
set_option maxRecDepth 100000 in
theorem law_lifted(os:Os)(started:os.Started)(H:Type)(enc:TypeId×Value→H):
 ReturnsInHanded {} Try.checked os 4 .any (Rows.fnExactTraceDefectSpec.pre6 enc Try.prog Try.f4 Rows.fnExactTraceDefectRow.domain false) (Rows.fnExactTraceDefectSpec.post enc Try.prog Try.f4 false true false false):=by
 refine returnsInHanded_of_change (C:=Try.checked) Try.own started (by kernel_rfl) Try.func4
  (ChangeSpec.witness6 (enc:=enc) (C:=Try.checked) false ⟨#[],#[.agg #[.slice none 0 0,.slice none 0 0]],[]⟩ 8 (by kernel_rfl) (by kernel_rfl) (by kernel_rfl) (by kernel_rfl)) ?_
 intro W base args ds gs before hval0 hW hcnd _
 refine law_post (P:=Try.prog) (tb:=4) (base:=base) (G:=GT) Try.laidOut rfl rfl Try.underlying4 (fun ds hd=>by rw[Try.params4] at hd; match ds,hd with | [d0],_=>exact⟨rfl,rfl,rfl⟩) (fun W'=>okWide_bool_mk Try.underlying4 true) kinds ?_ hval0 hW law_sat
 intro t ht
 rw[Try.params4] at ht
 simp only[List.mem_cons,List.not_mem_nil,or_false] at ht
 rcases ht with rfl
 all_goals exact⟨by simp[GT],by kernel_rfl,of_decide_eq_true (by kernel_rfl)⟩
theorem andT{a b:Bool}(h1:a=true)(h2:b=true):(a&&b)=true:=by rw[h1,h2]; rfl
set_option maxHeartbeats 4000000 in
theorem law_facts:joinedFacts Try.pinned.checked.prog 4 Try.f4 Rows.fnExactTraceDefectSpec Rows.fnExactTraceDefectRow=true:=by
 unfold joinedFacts
 refine andT (andT (andT (andT (andT (andT (andT (andT (andT (andT (andT (andT (andT (andT (andT (andT (andT (andT (andT (andT (andT (andT (andT (andT (andT (andT (andT (andT (andT (andT (andT ?_ ?_) ?_) ?_) ?_) ?_) ?_) ?_) ?_) ?_) ?_) ?_) ?_) ?_) ?_) ?_) ?_) ?_) ?_) ?_) ?_) ?_) ?_) ?_) ?_) ?_) ?_) ?_) ?_) ?_) ?_) ?_
 all_goals as_aux_lemma=>kernel_rfl
theorem law_holds:Rows.FnExactTraceDefectSaid:=
 OpenClaim.holds_of_wide 4 Try.f4 rfl rfl rfl rfl rfl rfl rfl ⟨rfl,rfl,rfl,rfl,rfl⟩ rfl rfl rfl rfl rfl (by kernel_rfl) Try.func4 law_facts
  (of_decide_eq_true (by kernel_rfl)) (by unfold Func.isWrapper; first | (rw[if_pos (by decide+kernel)]; kernel_rfl) | (rw[if_neg (by decide+kernel)]; exact⟨rfl,rfl⟩))
  (fun os started H enc _=>law_lifted os started H enc)
end Go.Proofs.Ytjpljobgioglmaa
