/- Proved: FnExactInterpolant, as the seat states it: for every input that the row describes. No further condition. -/
import Derived.Test.YtmfpijomelhccaaGreatDoorGw1
import Derived.Test.YtmfpijomelhccaaGreatDoorGtInterpolant
import Derived.Test.YtmfpijomelhccaaGreatDoorAvS
import Derived.Test.YtmfpijomelhccaaGreatDoorRows
import Derived.ProofKit
import Derived.Carry
import Derived.Below
import Derived.ChangeSame
import Derived.Test.YtmfpijomelhccaaGreatDoorTie
import Derived.Test.YtmfpijomelhccaaGreatDoorCards
import Derived.LaidMore
import Derived.LaidLaws
import Derived.Stop.Joined
import Derived.SevenTiedAt
set_option linter.unusedSimpArgs false
set_option linter.unusedVariables false
set_option linter.defProp false
set_option maxRecDepth 4000
namespace Go.Proofs.YtmfpijomelhccaaGreatDoor
open Go.ChangeShapes Go.WideShapes Go.ChangeAt Go.RowKit Go.Av
theorem Tryz.own:ownKnob Tryz.prog.godebug=none:=by kernel_rfl
theorem Tryz.laidOut:laidOutB Tryz.prog=true:=by kernel_rfl
theorem cells_3:Tryz.prog.cellsOf 3=1:=by kernel_rfl
theorem cells_55:Tryz.prog.cellsOf 55=1:=by kernel_rfl
theorem cells_22:Tryz.prog.cellsOf 22=1:=by kernel_rfl
theorem cells_58:Tryz.prog.cellsOf 58=4:=by kernel_rfl
theorem cells_23:Tryz.prog.cellsOf 23=1:=by kernel_rfl
def GT(t:TypeId):Prop:=t=3∨t=55∨t=22∨t=58∨t=23
theorem kinds:Kinds Tryz.prog GT:=by
 rintro t (rfl | rfl | rfl | rfl | rfl)
 ·exact .inr (.inl ⟨_,Tryz.underlying3⟩)
 ·exact .inr (.inr (.inr (.inl ⟨3,Tryz.underlying55,by simp[GT],by rw[cells_3]; decide⟩)))
 ·exact .inr (.inr (.inr (.inl ⟨55,Tryz.underlying22,by simp[GT],by rw[cells_55]; decide⟩)))
 ·refine .inr (.inr (.inr (.inr ⟨_,Tryz.underlying58,?_,?_⟩)))
  ·simp[LaidF,cells_3,cells_55,cells_58]
  ·simp[GT]
 ·exact .inr (.inr (.inr (.inl ⟨58,Tryz.underlying23,by simp[GT],by rw[cells_58]; decide⟩)))
theorem open_3{p:PV}(h:HasTy Tryz.prog 3 p):∃ a:Int,InR a∧p=(I a):=by
 cases h with
 | bool h  =>rw[Tryz.underlying3] at h; cases h
 | str h _=>rw[Tryz.underlying3] at h; cases h
 | sl h _ _=>rw[Tryz.underlying3] at h; cases h
 | struct h _=>rw[Tryz.underlying3] at h; cases h
 | int h hw=>
  rw[Tryz.underlying3] at h
  cases h
  exact⟨_,inR_wf hw,rfl⟩
theorem open_55{p:PV}(h:HasTy Tryz.prog 55 p):∃ a:List Int,(LOk InR) a∧p=(.sl false 1 (a.map I)):=by
 cases h with
 | bool h  =>rw[Tryz.underlying55] at h; cases h
 | int h _=>rw[Tryz.underlying55] at h; cases h
 | str h _=>rw[Tryz.underlying55] at h; cases h
 | struct h _=>rw[Tryz.underlying55] at h; cases h
 | sl h hl hes=>
  rw[Tryz.underlying55] at h
  cases h
  obtain⟨ts,h1,rfl⟩:=open_list (ok:=InR) (f:=I) open_3 _ hes
  exact⟨ts,⟨by simpa[Big,maxLen] using hl,h1⟩,by rw[cells_3]⟩
theorem open_22{p:PV}(h:HasTy Tryz.prog 22 p):∃ a:List (List Int),(LOk (LOk InR)) a∧p=(.sl false 1 (a.map (Lv false 1 I))):=by
 cases h with
 | bool h  =>rw[Tryz.underlying22] at h; cases h
 | int h _=>rw[Tryz.underlying22] at h; cases h
 | str h _=>rw[Tryz.underlying22] at h; cases h
 | struct h _=>rw[Tryz.underlying22] at h; cases h
 | sl h hl hes=>
  rw[Tryz.underlying22] at h
  cases h
  obtain⟨ts,h1,rfl⟩:=open_list (ok:=(LOk InR)) (f:=(Lv false 1 I)) open_55 _ hes
  exact⟨ts,⟨by simpa[Big,maxLen] using hl,h1⟩,by rw[cells_55]⟩
theorem open_58{p:PV}(h:HasTy Tryz.prog 58 p):∃ a:Pt,Pt.Ok a∧p=((Pt.pv false) a):=by
 cases h with
 | bool h  =>rw[Tryz.underlying58] at h; cases h
 | int h _=>rw[Tryz.underlying58] at h; cases h
 | str h _=>rw[Tryz.underlying58] at h; cases h
 | sl h _ _=>rw[Tryz.underlying58] at h; cases h
 | struct h hps=>
  rw[Tryz.underlying58] at h
  cases h
  simp only[List.map_cons,List.map_nil] at hps
  cases hps with
  | cons k0 hps=>
  cases hps with
  | cons k1 hps=>
  cases hps with
  | cons k2 hps=>
  cases hps with
  | cons k3 hps=>
  cases hps with
  | nil=>
  obtain⟨y0,w0,rfl⟩:=open_3 k0
  obtain⟨y1,w1,rfl⟩:=open_3 k1
  obtain⟨y2,w2,rfl⟩:=open_3 k2
  obtain⟨y3,w3,rfl⟩:=open_55 k3
  exact⟨⟨y0,y1,y2,y3⟩,⟨w0,w1,w2,w3⟩,rfl⟩
theorem open_23{p:PV}(h:HasTy Tryz.prog 23 p):∃ a:List Pt,(LOk Pt.Ok) a∧p=(.sl false 4 (a.map (Pt.pv false))):=by
 cases h with
 | bool h  =>rw[Tryz.underlying23] at h; cases h
 | int h _=>rw[Tryz.underlying23] at h; cases h
 | str h _=>rw[Tryz.underlying23] at h; cases h
 | struct h _=>rw[Tryz.underlying23] at h; cases h
 | sl h hl hes=>
  rw[Tryz.underlying23] at h
  cases h
  obtain⟨ts,h1,rfl⟩:=open_list (ok:=Pt.Ok) (f:=(Pt.pv false)) open_58 _ hes
  exact⟨ts,⟨by simpa[Big,maxLen] using hl,h1⟩,by rw[cells_58]⟩
theorem law_sat(ps:List PV)(h:HasTys Tryz.prog Tryz.f4.params.toList ps):Sat Tryz.prog 4 ps (.lit (.bool true)):=by
 rw[Tryz.params4] at h
 cases h with
 | cons k0 h=>
 cases h with
 | cons k1 h=>
 cases h with
 | cons k2 h=>
 cases h with
 | cons k3 h=>
 cases h with
 | nil=>
 obtain⟨a0,o0,rfl⟩:=open_22 k0
 obtain⟨a1,o1,rfl⟩:=open_23 k1
 obtain⟨a2,o2,rfl⟩:=open_3 k2
 obtain⟨a3,o3,rfl⟩:=open_3 k3
 exact FnExactInterpolant_sat (FnExactInterpolant_true a0 a1 a2 a3 o0 o1 o2 o3)
noncomputable def lawLaid:List (String×DataW Unit):=[("math/bits.deBruijn32tab",Rows.laid_math_bits_deBruijn32tab),("math/bits.deBruijn64tab",Rows.laid_math_bits_deBruijn64tab),("internal/strconv.uint64pow10",Rows.laid_internal_strconv_uint64pow10)]
theorem door_met(os:Os)(args:Array Value):laidMetH Tryz.prog lawLaid ((World.doorLaid Tryz.prog 400 os).forCall (fun _ _=>0) ⟨#[],args,[]⟩).memory:=
 laidMetH_of_parts3 (fuel:=8) (laidMet_of_run' 8 (by kernel_rfl) (by kernel_rfl)) (by kernel_rfl) (by kernel_rfl)
set_option maxRecDepth 100000 in
theorem law_lifted(os:Os)(started:os.Started)(H:Type)(enc:TypeId×Value→H):
 ReturnsInHanded {} Tryz.checked os 4 .any (fun w args=>(Rows.fnExactInterpolantSpec.pre enc Tryz.prog Tryz.f4 Rows.fnExactInterpolantRow.domain false w args∧laidMetH Tryz.prog lawLaid w)∧sizedMet enc Tryz.prog Tryz.f4 (OpenSpec.ofChange Rows.fnExactInterpolantSpec) false w args) (Rows.fnExactInterpolantSpec.post enc Tryz.prog Tryz.f4 false true false false):=by
 refine returnsInHanded_of_change_and (C:=Tryz.checked) (X:=fun w _=>laidMetH Tryz.prog lawLaid w) (fun _ _ _ hh h=>h.of_heap hh) Tryz.own started (by kernel_rfl) Tryz.func4
  (ChangeSpec.witness_shaped (enc:=enc) (C:=Tryz.checked) (os:=os) (X:=fun w _=>laidMetH Tryz.prog lawLaid w) false (World.doorLaid Tryz.prog 400 os) #[.slice none 0 0,.slice none 0 0,.int .i64 0,.int .i64 0] 8 rfl (World.shaped_of_RefB (by kernel_rfl) (by kernel_rfl)) (by kernel_rfl) (by kernel_rfl) (by kernel_rfl) (door_met os _)) ?_
 intro W base args ds gs before hval0 hW hcnd _ _ _
 refine law_post (P:=Tryz.prog) (tb:=4) (base:=base) (G:=GT) Tryz.laidOut rfl rfl Tryz.underlying4 (fun ds hd=>by rw[Tryz.params4] at hd; match ds,hd with | [d0,d1,d2,d3],_=>exact⟨rfl,rfl,rfl⟩) (fun W'=>okWide_bool_mk Tryz.underlying4 true) kinds ?_ hval0 hW law_sat
 intro t ht
 rw[Tryz.params4] at ht
 simp only[List.mem_cons,List.not_mem_nil,or_false] at ht
 rcases ht with rfl | rfl | rfl | rfl
 all_goals exact⟨by simp[GT],by kernel_rfl,of_decide_eq_true (by kernel_rfl)⟩
theorem andT{a b:Bool}(h1:a=true)(h2:b=true):(a&&b)=true:=by rw[h1,h2]; rfl
set_option maxHeartbeats 4000000 in
theorem law_facts:joinedFacts Tryz.pinned.checked.prog 4 Tryz.f4 Rows.fnExactInterpolantSpec Rows.fnExactInterpolantRow=true:=by
 unfold joinedFacts
 refine andT (andT (andT (andT (andT (andT (andT (andT (andT (andT (andT (andT (andT (andT (andT (andT (andT (andT (andT (andT (andT (andT (andT (andT (andT (andT (andT (andT (andT (andT (andT ?_ ?_) ?_) ?_) ?_) ?_) ?_) ?_) ?_) ?_) ?_) ?_) ?_) ?_) ?_) ?_) ?_) ?_) ?_) ?_) ?_) ?_) ?_) ?_) ?_) ?_) ?_) ?_) ?_) ?_) ?_) ?_
 all_goals as_aux_lemma=>kernel_rfl
theorem law_row:Rows.FnExactInterpolantSaid:=
 OpenClaim.holds_of_wide 4 Tryz.f4 rfl rfl rfl rfl rfl rfl rfl ⟨rfl,rfl,rfl,rfl,rfl⟩ rfl rfl rfl rfl rfl (by kernel_rfl) Tryz.func4 law_facts
  (of_decide_eq_true (by kernel_rfl)) (by unfold Func.isWrapper; first | (rw[if_pos (by decide+kernel)]; kernel_rfl) | (rw[if_neg (by decide+kernel)]; exact⟨rfl,rfl⟩))
  (fun os started H enc _=>law_lifted os started H enc)
theorem law_holds:Rows.FnExactInterpolantCardSaid:=
 Claim7.holds_tied_plain_at .later [] [.data,.data,.data] true (true, "0b3e27860ad36685310f5435f00df83606b50aff0e7dba3315c480f3f4bfe6b1") false
  law_row (fun _ h=>by cases h) (by kernel_rfl) (fun _ h=>by cases h) fnExactInterpolant_row_tie rfl ⟨rfl,rfl⟩ (by kernel_rfl) rfl
  (fun f fn hf hfn=>by
   obtain rfl:f=4:=Option.some.inj ((show Tryz.prog.funcNamed "loop.example/g00892/laws.FnExactInterpolant"=some 4 by kernel_rfl).symm.trans hf) |>.symm
   obtain rfl:fn=Tryz.f4:=(Option.some.inj (Tryz.func4.symm.trans hfn)).symm
   exact⟨by kernel_rfl,fun j t ht=>by
    rw[Tryz.params4] at ht
    have hm:t∈[22,23,3,3]:=by simpa using Array.mem_of_getElem? ht
    have hall:([22,23,3,3].all fun u=>!Tryz.prog.wantsStandIn u)=true:=by kernel_rfl
    exact(show Tryz.prog.wantsStandIn t=false by simpa using List.all_eq_true.1 hall t hm)⟩)
  (by kernel_rfl)
end Go.Proofs.YtmfpijomelhccaaGreatDoor
