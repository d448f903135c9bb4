/- Proved: FnExactSmallestDecomposition, as the seat states it: for every input that the row describes. No further condition. -/
import Derived.Test.YtnjgpibbjiofpaaGreatGw0
import Derived.Test.YtnjgpibbjiofpaaGreatGtSmallestDecomposition
import Derived.Test.YtnjgpibbjiofpaaGreatAvFz
import Derived.Test.YtnjgpibbjiofpaaGreatRows
import Derived.ProofKit
import Derived.Carry
import Derived.Below
import Derived.ChangeSame
set_option linter.unusedSimpArgs false
set_option linter.unusedVariables false
set_option linter.defProp false
set_option maxRecDepth 4000
namespace Go.Proofs.YtnjgpibbjiofpaaGreat
open Go.ChangeShapes Go.WideShapes Go.ChangeAt Go.RowKit Go.Av
theorem Tryz.own:ownKnob Tryz.prog.godebug=none:=by kernel_rfl
theorem Tryz.laidOut:laidOutB Tryz.prog=true:=by kernel_rfl
theorem cells_9:Tryz.prog.cellsOf 9=1:=by kernel_rfl
theorem cells_57:Tryz.prog.cellsOf 57=2:=by kernel_rfl
theorem cells_22:Tryz.prog.cellsOf 22=1:=by kernel_rfl
def GT(t:TypeId):Prop:=t=9∨t=57∨t=22
theorem kinds:Kinds Tryz.prog GT:=by
 rintro t (rfl | rfl | rfl)
 ·exact .inr (.inr (.inl Tryz.underlying9))
 ·refine .inr (.inr (.inr (.inr ⟨_,Tryz.underlying57,?_,?_⟩)))
  ·simp[LaidF,cells_9,cells_22,cells_57]
  ·simp[GT]
 ·exact .inr (.inr (.inr (.inl ⟨57,Tryz.underlying22,by simp[GT],by rw[cells_57]; decide⟩)))
theorem open_9{p:PV}(h:HasTy Tryz.prog 9 p):∃ a:ByteArray,(fun s:ByteArray=>Big s.size) a∧p=(Sx a):=by
 cases h with
 | bool h  =>rw[Tryz.underlying9] at h; cases h
 | int h _=>rw[Tryz.underlying9] at h; cases h
 | sl h _ _=>rw[Tryz.underlying9] at h; cases h
 | struct h _=>rw[Tryz.underlying9] at h; cases h
 | str h hs=>exact⟨_,by simpa[Big,maxLen] using hs,rfl⟩
theorem open_57:∀ {p:PV},HasTy Tryz.prog 57 p→∃ a:Tt,Tt.Ok a∧p=((Tt.pv false) a):=by
 intro p
 induction hn:SizeOf.sizeOf p using Nat.strongRecOn generalizing p with
 | _ n ih=>
 intro h
 cases h with
 | bool h  =>rw[Tryz.underlying57] at h; cases h
 | int h _=>rw[Tryz.underlying57] at h; cases h
 | str h _=>rw[Tryz.underlying57] at h; cases h
 | sl h _ _=>rw[Tryz.underlying57] at h; cases h
 | struct h hps=>
  rw[Tryz.underlying57] at h
  cases h
  simp only[List.map_cons,List.map_nil] at hps
  cases hps with
  | cons k0 hps=>
  cases hps with
  | cons k1 hps=>
  cases hps with
  | nil=>
  obtain⟨y0,w0,rfl⟩:=open_9 k0
  cases k1 with
  | bool h  =>rw[Tryz.underlying22] at h; cases h
  | int h _=>rw[Tryz.underlying22] at h; cases h
  | str h _=>rw[Tryz.underlying22] at h; cases h
  | struct h _=>rw[Tryz.underlying22] at h; cases h
  | sl h hl hes=>
  rename_i e es
  rw[Tryz.underlying22] at h
  cases h
  have key:∀ l:List PV,(∀ x∈l,x∈es)→∃ ts:List Tt,(∀ a∈ts,a.Ok)∧l=ts.map (Tt.pv false):=by
   intro l
   induction l with
   | nil=>intro _; exact⟨[],by simp,rfl⟩
   | cons x l ihl=>
    intro hx
    have hm:x∈es:=hx x (by simp)
    have hlt:=List.sizeOf_lt_of_mem hm
    obtain⟨a,ha,rfl⟩:=ih (SizeOf.sizeOf x) (by rw[← hn]; simp; omega) rfl (hes x hm)
    obtain⟨ts,hts,rfl⟩:=ihl (fun y hy=>hx y (by simp[hy]))
    exact⟨a::ts,by simpa using⟨ha,hts⟩,rfl⟩
  obtain⟨y1,w1,rfl⟩:=key es (fun _ h=>h)
  exact⟨.mk y0 y1,.mk _ _ w0 (by simpa[Big,maxLen] using hl) w1,by rw[Tt.pv_u,cells_57]; rfl⟩
theorem open_22{p:PV}(h:HasTy Tryz.prog 22 p):∃ a:List Tt,(LOk Tt.Ok) a∧p=(.sl false 2 (a.map (Tt.pv false))):=by
 cases h with
 | bool h  =>rw[Tryz.underlying22] at h; cases h
 | int h _=>rw[Tryz.underlying22] at h; cases h
 | str h _=>rw[Tryz.underlying22] at h; cases h
 | struct h _=>rw[Tryz.underlying22] at h; cases h
 | sl h hl hes=>
  rw[Tryz.underlying22] at h
  cases h
  obtain⟨ts,h1,rfl⟩:=open_list (ok:=Tt.Ok) (f:=(Tt.pv false)) open_57 _ hes
  exact⟨ts,⟨by simpa[Big,maxLen] using hl,h1⟩,by rw[cells_57]⟩
theorem law_sat(ps:List PV)(h:HasTys Tryz.prog Tryz.f4.params.toList ps):Sat Tryz.prog 4 ps (.lit (.bool true)):=by
 rw[Tryz.params4] at h
 cases h with
 | cons k0 h=>
 cases h with
 | nil=>
 obtain⟨a0,o0,rfl⟩:=open_22 k0
 exact FnExactSmallestDecomposition_sat (FnExactSmallestDecomposition_true a0 o0)
set_option maxRecDepth 100000 in
theorem law_lifted(os:Os)(started:os.Started)(H:Type)(enc:TypeId×Value→H):
 ReturnsInHanded {} Tryz.checked os 4 .any (Rows.fnExactSmallestDecompositionSpec.pre6 enc Tryz.prog Tryz.f4 Rows.fnExactSmallestDecompositionRow.domain false) (Rows.fnExactSmallestDecompositionSpec.post enc Tryz.prog Tryz.f4 false true false false):=by
 refine returnsInHanded_of_change (C:=Tryz.checked) Tryz.own started (by kernel_rfl) Tryz.func4
  (ChangeSpec.witness6 (enc:=enc) (C:=Tryz.checked) false ⟨#[],#[.slice none 0 0],[]⟩ 8 (by kernel_rfl) (by kernel_rfl) (by kernel_rfl) (by kernel_rfl)) ?_
 intro W base args ds gs before hval0 hW hcnd _
 refine law_post (P:=Tryz.prog) (tb:=4) (base:=base) (G:=GT) Tryz.laidOut rfl rfl Tryz.underlying4 (fun ds hd=>by rw[Tryz.params4] at hd; match ds,hd with | [d0],_=>exact⟨rfl,rfl,rfl⟩) (fun W'=>okWide_bool_mk Tryz.underlying4 true) kinds ?_ hval0 hW law_sat
 intro t ht
 rw[Tryz.params4] at ht
 simp only[List.mem_cons,List.not_mem_nil,or_false] at ht
 rcases ht with rfl
 all_goals exact⟨by simp[GT],by kernel_rfl,of_decide_eq_true (by kernel_rfl)⟩
theorem andT{a b:Bool}(h1:a=true)(h2:b=true):(a&&b)=true:=by rw[h1,h2]; rfl
set_option maxHeartbeats 4000000 in
theorem law_facts:joinedFacts Tryz.pinned.checked.prog 4 Tryz.f4 Rows.fnExactSmallestDecompositionSpec Rows.fnExactSmallestDecompositionRow=true:=by
 unfold joinedFacts
 refine andT (andT (andT (andT (andT (andT (andT (andT (andT (andT (andT (andT (andT (andT (andT (andT (andT (andT (andT (andT (andT (andT (andT (andT (andT (andT (andT (andT (andT (andT (andT ?_ ?_) ?_) ?_) ?_) ?_) ?_) ?_) ?_) ?_) ?_) ?_) ?_) ?_) ?_) ?_) ?_) ?_) ?_) ?_) ?_) ?_) ?_) ?_) ?_) ?_) ?_) ?_) ?_) ?_) ?_) ?_
 all_goals as_aux_lemma=>kernel_rfl
theorem law_holds:Rows.FnExactSmallestDecompositionSaid:=
 OpenClaim.holds_of_wide 4 Tryz.f4 rfl rfl rfl rfl rfl rfl rfl ⟨rfl,rfl,rfl,rfl,rfl⟩ rfl rfl rfl rfl rfl (by kernel_rfl) Tryz.func4 law_facts
  (of_decide_eq_true (by kernel_rfl)) (by unfold Func.isWrapper; first | (rw[if_pos (by decide+kernel)]; kernel_rfl) | (rw[if_neg (by decide+kernel)]; exact⟨rfl,rfl⟩))
  (fun os started H enc _=>law_lifted os started H enc)
end Go.Proofs.YtnjgpibbjiofpaaGreat
