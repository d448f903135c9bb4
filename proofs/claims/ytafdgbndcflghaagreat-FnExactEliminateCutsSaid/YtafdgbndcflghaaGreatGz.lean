/- Proved: FnExactEliminateCuts, as the seat states it: for every input that the row describes. No further condition. -/
import Derived.Test.YtafdgbndcflghaaGreatGw2
import Derived.Test.YtafdgbndcflghaaGreatGtEliminateCuts
import Derived.Test.YtafdgbndcflghaaGreatAvZ
import Derived.Test.YtafdgbndcflghaaGreatRows
import Derived.ProofKit
import Derived.Carry
import Derived.Below
import Derived.ChangeSame
set_option linter.unusedSimpArgs false
set_option linter.unusedVariables false
set_option linter.defProp false
set_option maxRecDepth 4000
namespace Go.Proofs.YtafdgbndcflghaaGreat
open Go.ChangeShapes Go.WideShapes Go.ChangeAt Go.RowKit Go.Av
open List renaming map_cons→aK
open SizeOf renaming sizeOf→av
theorem Tryz.own:ownKnob Tryz.prog.godebug=none:=by kernel_rfl
theorem TlO_:laidOutB Tryz.prog=true:=by kernel_rfl
theorem c3_1:Tryz.prog.cellsOf 3=1:=by kernel_rfl
theorem c9_:Tryz.prog.cellsOf 9=1:=by kernel_rfl
theorem c2_4:Tryz.prog.cellsOf 25=1:=by kernel_rfl
theorem c2_:Tryz.prog.cellsOf 27=2:=by kernel_rfl
theorem c2_1:Tryz.prog.cellsOf 29=5:=by kernel_rfl
theorem c2_3:Tryz.prog.cellsOf 22=1:=by kernel_rfl
theorem c2_2:Tryz.prog.cellsOf 24=2:=by kernel_rfl
theorem c3_2:Tryz.prog.cellsOf 30=1:=by kernel_rfl
theorem c3_:Tryz.prog.cellsOf 32=12:=by kernel_rfl
def GT(t:TypeId):Prop:=t=3∨t=9∨t=25∨t=27∨t=29∨t=22∨t=24∨t=30∨t=32
theorem kinds:K_ Tryz.prog GT:=by
 rintro t (rfl | rfl | rfl | rfl | rfl | rfl | rfl | rfl | rfl)
 ·exact .inr (.inl ⟨_,Tryz.underlying3⟩)
 ·exact .inr (.inr (.inl Tryz.underlying9))
 ·exact .inr (.inr (.inr (.inl ⟨27,Tryz.underlying25,by simp[GT],by rw[c2_]; decide⟩)))
 ·refine .inr (.inr (.inr (.inr ⟨_,Tryz.underlying27,?_,?_⟩)))
  ·simp[LF_,c9_,c2_4,c2_]
  ·simp[GT]
 ·refine .inr (.inr (.inr (.inr ⟨_,Tryz.underlying29,?_,?_⟩)))
  ·simp[LF_,c3_1,c2_,c9_,c2_3,c2_1]
  ·simp[GT]
 ·exact .inr (.inr (.inr (.inl ⟨29,Tryz.underlying22,by simp[GT],by rw[c2_1]; decide⟩)))
 ·refine .inr (.inr (.inr (.inr ⟨_,Tryz.underlying24,?_,?_⟩)))
  ·simp[LF_,c2_3,c2_2]
  ·simp[GT]
 ·exact .inr (.inr (.inr (.inl ⟨32,Tryz.underlying30,by simp[GT],by rw[c3_]; decide⟩)))
 ·refine .inr (.inr (.inr (.inr ⟨_,Tryz.underlying32,?_,?_⟩)))
  ·simp[LF_,c3_1,c2_2,c2_,c2_1,c3_2,c3_]
  ·simp[GT]
theorem o3_{p:PV}(h:HasTy Tryz.prog 3 p):∃ a:Int,InR a∧p=(I a):=by
 cases h with
 | bool h  =>rw[Tryz.underlying3] at h; cases h
 | str h _=>rw[Tryz.underlying3] at h; cases h
 | sl h _ _=>rw[Tryz.underlying3] at h; cases h
 | struct h _=>rw[Tryz.underlying3] at h; cases h
 | int h hw=>
  rw[Tryz.underlying3] at h
  cases h
  exact⟨_,iRw_ hw,rfl⟩
theorem o9_{p:PV}(h:HasTy Tryz.prog 9 p):∃ a:ByteArray,(fun s:ByteArray=>Big s.size) a∧p=(Sx a):=by
 cases h with
 | bool h  =>rw[Tryz.underlying9] at h; cases h
 | int h _=>rw[Tryz.underlying9] at h; cases h
 | sl h _ _=>rw[Tryz.underlying9] at h; cases h
 | struct h _=>rw[Tryz.underlying9] at h; cases h
 | str h hs=>exact⟨_,by simpa[Big,maxLen] using hs,rfl⟩
theorem o2_:∀ {p:PV},HasTy Tryz.prog 27 p→∃ a:Tt,Tt.Ok a∧p=((Tt.pv false) a):=by
 intro p
 induction hn:av p using Nat.strongRecOn generalizing p with
 | _ n ih=>
 intro h
 cases h with
 | bool h  =>rw[Tryz.underlying27] at h; cases h
 | int h _=>rw[Tryz.underlying27] at h; cases h
 | str h _=>rw[Tryz.underlying27] at h; cases h
 | sl h _ _=>rw[Tryz.underlying27] at h; cases h
 | struct h hps=>
  rw[Tryz.underlying27] at h
  cases h
  simp only[aK,List.map_nil] at hps
  cases hps with
  | cons k0 hps=>
  cases hps with
  | cons k1 hps=>
  cases hps with
  | nil=>
  obtain⟨y0,w0,rfl⟩:=o9_ k0
  cases k1 with
  | bool h  =>rw[Tryz.underlying25] at h; cases h
  | int h _=>rw[Tryz.underlying25] at h; cases h
  | str h _=>rw[Tryz.underlying25] at h; cases h
  | struct h _=>rw[Tryz.underlying25] at h; cases h
  | sl h hl hes=>
  rename_i e es
  rw[Tryz.underlying25] at h
  cases h
  have key:∀ l:List PV,(∀ x∈l,x∈es)→∃ ts:List Tt,(∀ a∈ts,a.Ok)∧l=ts.map (Tt.pv false):=by
   intro l
   induction l with
   | nil=>intro _; exact⟨[],by simp,rfl⟩
   | cons x l ihl=>
    intro hx
    have hm:x∈es:=hx x (by simp)
    have hlt:=List.sizeOf_lt_of_mem hm
    obtain⟨a,ha,rfl⟩:=ih (av x) (by rw[← hn]; simp; omega) rfl (hes x hm)
    obtain⟨ts,hts,rfl⟩:=ihl (fun y hy=>hx y (by simp[hy]))
    exact⟨a::ts,by simpa using⟨ha,hts⟩,rfl⟩
  obtain⟨y1,w1,rfl⟩:=key es (fun _ h=>h)
  exact⟨.mk y0 y1,.mk _ _ w0 (by simpa[Big,maxLen] using hl) w1,by rw[Tt.pv_u,c2_]; rfl⟩
theorem o2_4{p:PV}(h:HasTy Tryz.prog 25 p):∃ a:List Tt,(LOk Tt.Ok) a∧p=(.sl false 2 (a.map (Tt.pv false))):=by
 cases h with
 | bool h  =>rw[Tryz.underlying25] at h; cases h
 | int h _=>rw[Tryz.underlying25] at h; cases h
 | str h _=>rw[Tryz.underlying25] at h; cases h
 | struct h _=>rw[Tryz.underlying25] at h; cases h
 | sl h hl hes=>
  rw[Tryz.underlying25] at h
  cases h
  obtain⟨ts,h1,rfl⟩:=ol_ (ok:=Tt.Ok) (f:=(Tt.pv false)) o2_ _ hes
  exact⟨ts,⟨by simpa[Big,maxLen] using hl,h1⟩,by rw[c2_]⟩
theorem o2_1:∀ {p:PV},HasTy Tryz.prog 29 p→∃ a:Ft,Ft.Ok a∧p=((Ft.pv false) a):=by
 intro p
 induction hn:av p using Nat.strongRecOn generalizing p with
 | _ n ih=>
 intro h
 cases h with
 | bool h  =>rw[Tryz.underlying29] at h; cases h
 | int h _=>rw[Tryz.underlying29] at h; cases h
 | str h _=>rw[Tryz.underlying29] at h; cases h
 | sl h _ _=>rw[Tryz.underlying29] at h; cases h
 | struct h hps=>
  rw[Tryz.underlying29] at h
  cases h
  simp only[aK,List.map_nil] at hps
  cases hps with
  | cons k0 hps=>
  cases hps with
  | cons k1 hps=>
  cases hps with
  | cons k2 hps=>
  cases hps with
  | cons k3 hps=>
  cases hps with
  | nil=>
  obtain⟨y0,w0,rfl⟩:=o3_ k0
  obtain⟨y1,w1,rfl⟩:=o2_ k1
  obtain⟨y2,w2,rfl⟩:=o9_ k2
  cases k3 with
  | bool h  =>rw[Tryz.underlying22] at h; cases h
  | int h _=>rw[Tryz.underlying22] at h; cases h
  | str h _=>rw[Tryz.underlying22] at h; cases h
  | struct h _=>rw[Tryz.underlying22] at h; cases h
  | sl h hl hes=>
  rename_i e es
  rw[Tryz.underlying22] at h
  cases h
  have key:∀ l:List PV,(∀ x∈l,x∈es)→∃ ts:List Ft,(∀ a∈ts,a.Ok)∧l=ts.map (Ft.pv false):=by
   intro l
   induction l with
   | nil=>intro _; exact⟨[],by simp,rfl⟩
   | cons x l ihl=>
    intro hx
    have hm:x∈es:=hx x (by simp)
    have hlt:=List.sizeOf_lt_of_mem hm
    obtain⟨a,ha,rfl⟩:=ih (av x) (by rw[← hn]; simp; omega) rfl (hes x hm)
    obtain⟨ts,hts,rfl⟩:=ihl (fun y hy=>hx y (by simp[hy]))
    exact⟨a::ts,by simpa using⟨ha,hts⟩,rfl⟩
  obtain⟨y3,w3,rfl⟩:=key es (fun _ h=>h)
  exact⟨.mk y0 y1 y2 y3,.mk _ _ _ _ w0 w1 w2 (by simpa[Big,maxLen] using hl) w3,by rw[Ft.pv_u,c2_1]; rfl⟩
theorem o2_2{p:PV}(h:HasTy Tryz.prog 22 p):∃ a:List Ft,(LOk Ft.Ok) a∧p=(.sl false 5 (a.map (Ft.pv false))):=by
 cases h with
 | bool h  =>rw[Tryz.underlying22] at h; cases h
 | int h _=>rw[Tryz.underlying22] at h; cases h
 | str h _=>rw[Tryz.underlying22] at h; cases h
 | struct h _=>rw[Tryz.underlying22] at h; cases h
 | sl h hl hes=>
  rw[Tryz.underlying22] at h
  cases h
  obtain⟨ts,h1,rfl⟩:=ol_ (ok:=Ft.Ok) (f:=(Ft.pv false)) o2_1 _ hes
  exact⟨ts,⟨by simpa[Big,maxLen] using hl,h1⟩,by rw[c2_1]⟩
theorem o2_3{p:PV}(h:HasTy Tryz.prog 24 p):∃ a:Sa,Sa.Ok a∧p=((Sa.pv false) a):=by
 cases h with
 | bool h  =>rw[Tryz.underlying24] at h; cases h
 | int h _=>rw[Tryz.underlying24] at h; cases h
 | str h _=>rw[Tryz.underlying24] at h; cases h
 | sl h _ _=>rw[Tryz.underlying24] at h; cases h
 | struct h hps=>
  rw[Tryz.underlying24] at h
  cases h
  simp only[aK,List.map_nil] at hps
  cases hps with
  | cons k0 hps=>
  cases hps with
  | cons k1 hps=>
  cases hps with
  | nil=>
  obtain⟨y0,w0,rfl⟩:=o2_2 k0
  obtain⟨y1,w1,rfl⟩:=o2_2 k1
  exact⟨⟨y0,y1⟩,⟨w0,w1⟩,rfl⟩
theorem o3_1:∀ {p:PV},HasTy Tryz.prog 32 p→∃ a:Dt,Dt.Ok a∧p=((Dt.pv false) a):=by
 intro p
 induction hn:av p using Nat.strongRecOn generalizing p with
 | _ n ih=>
 intro h
 cases h with
 | bool h  =>rw[Tryz.underlying32] at h; cases h
 | int h _=>rw[Tryz.underlying32] at h; cases h
 | str h _=>rw[Tryz.underlying32] at h; cases h
 | sl h _ _=>rw[Tryz.underlying32] at h; cases h
 | struct h hps=>
  rw[Tryz.underlying32] at h
  cases h
  simp only[aK,List.map_nil] at hps
  cases hps with
  | cons k0 hps=>
  cases hps with
  | cons k1 hps=>
  cases hps with
  | cons k2 hps=>
  cases hps with
  | cons k3 hps=>
  cases hps with
  | cons k4 hps=>
  cases hps with
  | cons k5 hps=>
  cases hps with
  | nil=>
  obtain⟨y0,w0,rfl⟩:=o3_ k0
  obtain⟨y1,w1,rfl⟩:=o2_3 k1
  obtain⟨y2,w2,rfl⟩:=o3_ k2
  obtain⟨y3,w3,rfl⟩:=o2_ k3
  obtain⟨y4,w4,rfl⟩:=o2_1 k4
  cases k5 with
  | bool h  =>rw[Tryz.underlying30] at h; cases h
  | int h _=>rw[Tryz.underlying30] at h; cases h
  | str h _=>rw[Tryz.underlying30] at h; cases h
  | struct h _=>rw[Tryz.underlying30] at h; cases h
  | sl h hl hes=>
  rename_i e es
  rw[Tryz.underlying30] at h
  cases h
  have key:∀ l:List PV,(∀ x∈l,x∈es)→∃ ts:List Dt,(∀ a∈ts,a.Ok)∧l=ts.map (Dt.pv false):=by
   intro l
   induction l with
   | nil=>intro _; exact⟨[],by simp,rfl⟩
   | cons x l ihl=>
    intro hx
    have hm:x∈es:=hx x (by simp)
    have hlt:=List.sizeOf_lt_of_mem hm
    obtain⟨a,ha,rfl⟩:=ih (av x) (by rw[← hn]; simp; omega) rfl (hes x hm)
    obtain⟨ts,hts,rfl⟩:=ihl (fun y hy=>hx y (by simp[hy]))
    exact⟨a::ts,by simpa using⟨ha,hts⟩,rfl⟩
  obtain⟨y5,w5,rfl⟩:=key es (fun _ h=>h)
  exact⟨.mk y0 y1 y2 y3 y4 y5,.mk _ _ _ _ _ _ w0 w1 w2 w3 w4 (by simpa[Big,maxLen] using hl) w5,by rw[Dt.pv_u,c3_]; rfl⟩
theorem o3_2{p:PV}(h:HasTy Tryz.prog 30 p):∃ a:List Dt,(LOk Dt.Ok) a∧p=(.sl false 12 (a.map (Dt.pv false))):=by
 cases h with
 | bool h  =>rw[Tryz.underlying30] at h; cases h
 | int h _=>rw[Tryz.underlying30] at h; cases h
 | str h _=>rw[Tryz.underlying30] at h; cases h
 | struct h _=>rw[Tryz.underlying30] at h; cases h
 | sl h hl hes=>
  rw[Tryz.underlying30] at h
  cases h
  obtain⟨ts,h1,rfl⟩:=ol_ (ok:=Dt.Ok) (f:=(Dt.pv false)) o3_1 _ hes
  exact⟨ts,⟨by simpa[Big,maxLen] using hl,h1⟩,by rw[c3_]⟩
theorem law_sat(ps:List PV)(h:HasTys Tryz.prog Tryz.f4.params.toList ps):Sat Tryz.prog 4 ps (.lit (.bool true)):=by
 rw[Tryz.params4] at h
 cases h with
 | cons k0 h=>
 cases h with
 | cons k1 h=>
 cases h with
 | nil=>
 obtain⟨a0,o0,rfl⟩:=o3_1 k0
 obtain⟨a1,o1,rfl⟩:=o3_ k1
 exact FnExactEliminateCuts_sat (FnExactEliminateCuts_true a0 a1 o0 o1)
set_option maxRecDepth 100000 in
theorem law_lifted(os:Os)(started:os.Started)(H:Type)(enc:TypeId×Value→H):
 ReturnsInHanded {} Tryz.checked os 4 .any (Rows.fnExactEliminateCutsSpec.pre6 enc Tryz.prog Tryz.f4 Rows.fnExactEliminateCutsRow.domain false) (Rows.fnExactEliminateCutsSpec.post enc Tryz.prog Tryz.f4 false true false false):=by
 refine returnsInHanded_of_change (C:=Tryz.checked) Tryz.own started (by kernel_rfl) Tryz.func4
  (ChangeSpec.witness6 (enc:=enc) (C:=Tryz.checked) false ⟨#[],#[.agg #[.int .i64 0,.slice none 0 0,.slice none 0 0,.int .i64 0,.string ⟨#[]⟩,.slice none 0 0,.int .i64 0,.string ⟨#[]⟩,.slice none 0 0,.string ⟨#[]⟩,.slice none 0 0,.slice none 0 0],.int .i64 0],[]⟩ 8 (by kernel_rfl) (by kernel_rfl) (by kernel_rfl) (by kernel_rfl)) ?_
 intro W base args ds gs before hval0 hW hcnd _
 refine law_post (P:=Tryz.prog) (tb:=4) (base:=base) (G:=GT) TlO_ rfl rfl Tryz.underlying4 (fun ds hd=>by rw[Tryz.params4] at hd; match ds,hd with | [d0,d1],_=>exact⟨rfl,rfl,rfl⟩) (fun W'=>okWide_bool_mk Tryz.underlying4 true) kinds ?_ hval0 hW law_sat
 intro t ht
 rw[Tryz.params4] at ht
 simp only[List.mem_cons,List.not_mem_nil,or_false] at ht
 rcases ht with rfl | rfl
 all_goals exact⟨by simp[GT],by kernel_rfl,of_decide_eq_true (by kernel_rfl)⟩
theorem andT{a b:Bool}(h1:a=true)(h2:b=true):(a&&b)=true:=by rw[h1,h2]; rfl
set_option maxHeartbeats 4000000 in
theorem law_facts:joinedFacts Tryz.pinned.checked.prog 4 Tryz.f4 Rows.fnExactEliminateCutsSpec Rows.fnExactEliminateCutsRow=true:=by
 unfold joinedFacts
 refine andT (andT (andT (andT (andT (andT (andT (andT (andT (andT (andT (andT (andT (andT (andT (andT (andT (andT (andT (andT (andT (andT (andT (andT (andT (andT (andT (andT (andT (andT (andT ?_ ?_) ?_) ?_) ?_) ?_) ?_) ?_) ?_) ?_) ?_) ?_) ?_) ?_) ?_) ?_) ?_) ?_) ?_) ?_) ?_) ?_) ?_) ?_) ?_) ?_) ?_) ?_) ?_) ?_) ?_) ?_
 all_goals as_aux_lemma=>kernel_rfl
theorem law_holds:Rows.FnExactEliminateCutsSaid:=
 OpenClaim.holds_of_wide 4 Tryz.f4 rfl rfl rfl rfl rfl rfl rfl ⟨rfl,rfl,rfl,rfl,rfl⟩ rfl rfl rfl rfl rfl (by kernel_rfl) Tryz.func4 law_facts
  (of_decide_eq_true (by kernel_rfl)) (by unfold Func.isWrapper; first | (rw[if_pos (by decide+kernel)]; kernel_rfl) | (rw[if_neg (by decide+kernel)]; exact⟨rfl,rfl⟩))
  (fun os started H enc _=>law_lifted os started H enc)
end Go.Proofs.YtafdgbndcflghaaGreat
