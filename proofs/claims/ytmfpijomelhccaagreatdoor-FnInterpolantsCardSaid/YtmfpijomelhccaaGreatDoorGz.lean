/- Proved: FnInterpolants, as the seat states it: for every input that the row describes. No further condition. -/
import Derived.Test.YtmfpijomelhccaaGreatDoorGw1
import Derived.Test.YtmfpijomelhccaaGreatDoorGtFnInterpolants
import Derived.Test.YtmfpijomelhccaaGreatDoorAvZ
import Derived.Test.YtmfpijomelhccaaGreatDoorRows
import Derived.ProofKit
import Derived.Carry
import Derived.Below
import Derived.ChangeSame
import Derived.Test.YtmfpijomelhccaaGreatDoorTie
import Derived.Test.YtmfpijomelhccaaGreatDoorCards
import Derived.LaidMore
import Derived.LaidLaws
import Derived.Stop.Joined
import Derived.SevenTiedAt
set_option linter.unusedSimpArgs false
set_option linter.unusedVariables false
set_option linter.defProp false
set_option maxRecDepth 4000
namespace Go.Proofs.YtmfpijomelhccaaGreatDoor
open Go.ChangeShapes Go.WideShapes Go.ChangeAt Go.RowKit Go.Av
theorem Tryz.own:ownKnob Tryz.prog.godebug=none:=by kernel_rfl
theorem Tryz.laidOut:laidOutB Tryz.prog=true:=by kernel_rfl
theorem cells_5:Tryz.prog.cellsOf 5=1:=by kernel_rfl
theorem cells_47:Tryz.prog.cellsOf 47=1:=by kernel_rfl
def GT(t:TypeId):Prop:=t=5∨t=47
theorem kinds:Kinds Tryz.prog GT:=by
 rintro t (rfl | rfl)
 ·exact .inr (.inl ⟨_,Tryz.underlying5⟩)
 ·exact .inr (.inr (.inr (.inl ⟨5,Tryz.underlying47,by simp[GT],by rw[cells_5]; decide⟩)))
theorem u8_wf{n:Int}(h:(Lit.int .u8 n).wf=true):0≤n∧n≤255:=by
 simp[Lit.wf,IntKind.min,IntKind.max,IntKind.signed,IntKind.bits] at h
 exact⟨by omega,by omega⟩
theorem open_5{p:PV}(h:HasTy Tryz.prog 5 p):∃ a:Int,(fun x:Int=>0≤x∧x≤255) a∧p=((Ik .u8) a):=by
 cases h with
 | bool h  =>rw[Tryz.underlying5] at h; cases h
 | str h _=>rw[Tryz.underlying5] at h; cases h
 | sl h _ _=>rw[Tryz.underlying5] at h; cases h
 | struct h _=>rw[Tryz.underlying5] at h; cases h
 | int h hw=>
  rw[Tryz.underlying5] at h
  cases h
  exact⟨_,u8_wf hw,rfl⟩
theorem open_47{p:PV}(h:HasTy Tryz.prog 47 p):∃ a:List Int,(LOk (fun x:Int=>0≤x∧x≤255)) a∧p=(.sl false 1 (a.map (Ik .u8))):=by
 cases h with
 | bool h  =>rw[Tryz.underlying47] at h; cases h
 | int h _=>rw[Tryz.underlying47] at h; cases h
 | str h _=>rw[Tryz.underlying47] at h; cases h
 | struct h _=>rw[Tryz.underlying47] at h; cases h
 | sl h hl hes=>
  rw[Tryz.underlying47] at h
  cases h
  obtain⟨ts,h1,rfl⟩:=open_list (ok:=(fun x:Int=>0≤x∧x≤255)) (f:=(Ik .u8)) open_5 _ hes
  exact⟨ts,⟨by simpa[Big,maxLen] using hl,h1⟩,by rw[cells_5]⟩
theorem law_sat(ps:List PV)(h:HasTys Tryz.prog Tryz.f5.params.toList ps):Sat Tryz.prog 5 ps (.lit (.bool true)):=by
 rw[Tryz.params5] at h
 cases h with
 | cons k0 h=>
 cases h with
 | nil=>
 obtain⟨a0,o0,rfl⟩:=open_47 k0
 exact FnInterpolants_sat (FnInterpolants_true a0 o0)
noncomputable def lawLaid:List (String×DataW Unit):=[("math/bits.deBruijn32tab",Rows.laid_math_bits_deBruijn32tab),("math/bits.deBruijn64tab",Rows.laid_math_bits_deBruijn64tab),("internal/strconv.uint64pow10",Rows.laid_internal_strconv_uint64pow10)]
theorem door_met(os:Os)(args:Array Value):laidMetH Tryz.prog lawLaid ((World.doorLaid Tryz.prog 400 os).forCall (fun _ _=>0) ⟨#[],args,[]⟩).memory:=
 laidMetH_of_parts3 (fuel:=8) (laidMet_of_run' 8 (by kernel_rfl) (by kernel_rfl)) (by kernel_rfl) (by kernel_rfl)
set_option maxRecDepth 100000 in
theorem law_lifted(os:Os)(started:os.Started)(H:Type)(enc:TypeId×Value→H):
 ReturnsInHanded {} Tryz.checked os 5 .any (fun w args=>(Rows.fnInterpolantsSpec.pre enc Tryz.prog Tryz.f5 Rows.fnInterpolantsRow.domain false w args∧laidMetH Tryz.prog lawLaid w)∧sizedMet enc Tryz.prog Tryz.f5 (OpenSpec.ofChange Rows.fnInterpolantsSpec) false w args) (Rows.fnInterpolantsSpec.post enc Tryz.prog Tryz.f5 false true false false):=by
 refine returnsInHanded_of_change_and (C:=Tryz.checked) (X:=fun w _=>laidMetH Tryz.prog lawLaid w) (fun _ _ _ hh h=>h.of_heap hh) Tryz.own started (by kernel_rfl) Tryz.func5
  (ChangeSpec.witness_shaped (enc:=enc) (C:=Tryz.checked) (os:=os) (X:=fun w _=>laidMetH Tryz.prog lawLaid w) false (World.doorLaid Tryz.prog 400 os) #[.slice none 0 0] 8 rfl (World.shaped_of_RefB (by kernel_rfl) (by kernel_rfl)) (by kernel_rfl) (by kernel_rfl) (by kernel_rfl) (door_met os _)) ?_
 intro W base args ds gs before hval0 hW hcnd _ _ _
 refine law_post (P:=Tryz.prog) (tb:=4) (base:=base) (G:=GT) Tryz.laidOut rfl rfl Tryz.underlying4 (fun ds hd=>by rw[Tryz.params5] at hd; match ds,hd with | [d0],_=>exact⟨rfl,rfl,rfl⟩) (fun W'=>okWide_bool_mk Tryz.underlying4 true) kinds ?_ hval0 hW law_sat
 intro t ht
 rw[Tryz.params5] at ht
 simp only[List.mem_cons,List.not_mem_nil,or_false] at ht
 rcases ht with rfl
 all_goals exact⟨by simp[GT],by kernel_rfl,of_decide_eq_true (by kernel_rfl)⟩
theorem andT{a b:Bool}(h1:a=true)(h2:b=true):(a&&b)=true:=by rw[h1,h2]; rfl
set_option maxHeartbeats 4000000 in
theorem law_facts:joinedFacts Tryz.pinned.checked.prog 5 Tryz.f5 Rows.fnInterpolantsSpec Rows.fnInterpolantsRow=true:=by
 unfold joinedFacts
 refine andT (andT (andT (andT (andT (andT (andT (andT (andT (andT (andT (andT (andT (andT (andT (andT (andT (andT (andT (andT (andT (andT (andT (andT (andT (andT (andT (andT (andT (andT (andT ?_ ?_) ?_) ?_) ?_) ?_) ?_) ?_) ?_) ?_) ?_) ?_) ?_) ?_) ?_) ?_) ?_) ?_) ?_) ?_) ?_) ?_) ?_) ?_) ?_) ?_) ?_) ?_) ?_) ?_) ?_) ?_
 all_goals as_aux_lemma=>kernel_rfl
theorem law_row:Rows.FnInterpolantsSaid:=
 OpenClaim.holds_of_wide 5 Tryz.f5 rfl rfl rfl rfl rfl rfl rfl ⟨rfl,rfl,rfl,rfl,rfl⟩ rfl rfl rfl rfl rfl (by kernel_rfl) Tryz.func5 law_facts
  (of_decide_eq_true (by kernel_rfl)) (by unfold Func.isWrapper; first | (rw[if_pos (by decide+kernel)]; kernel_rfl) | (rw[if_neg (by decide+kernel)]; exact⟨rfl,rfl⟩))
  (fun os started H enc _=>law_lifted os started H enc)
theorem law_holds:Rows.FnInterpolantsCardSaid:=
 Claim7.holds_tied_plain_at .later [] [.data,.data,.data] true (true, "0b3e27860ad36685310f5435f00df83606b50aff0e7dba3315c480f3f4bfe6b1") false
  law_row (fun _ h=>by cases h) (by kernel_rfl) (fun _ h=>by cases h) fnInterpolants_row_tie rfl ⟨rfl,rfl⟩ (by kernel_rfl) rfl
  (fun f fn hf hfn=>by
   obtain rfl:f=5:=Option.some.inj ((show Tryz.prog.funcNamed "loop.example/g00892/laws.FnInterpolants"=some 5 by kernel_rfl).symm.trans hf) |>.symm
   obtain rfl:fn=Tryz.f5:=(Option.some.inj (Tryz.func5.symm.trans hfn)).symm
   exact⟨by kernel_rfl,fun j t ht=>by
    rw[Tryz.params5] at ht
    have hm:t∈[47]:=by simpa using Array.mem_of_getElem? ht
    have hall:([47].all fun u=>!Tryz.prog.wantsStandIn u)=true:=by kernel_rfl
    exact(show Tryz.prog.wantsStandIn t=false by simpa using List.all_eq_true.1 hall t hm)⟩)
  (by kernel_rfl)
end Go.Proofs.YtmfpijomelhccaaGreatDoor
