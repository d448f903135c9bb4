/- Proved: FnExactWitnessTable, as the seat states it: for every input that the row describes. No further condition. -/
import Derived.Test.YtfchaodlnddkpaaGreatGw1
import Derived.Test.YtfchaodlnddkpaaGreatGtWitnessTable
import Derived.Test.YtfchaodlnddkpaaGreatAvZ
import Derived.Test.YtfchaodlnddkpaaGreatRows
import Derived.ProofKit
import Derived.Carry
import Derived.Below
import Derived.ChangeSame
set_option linter.unusedSimpArgs false
set_option linter.unusedVariables false
set_option linter.defProp false
set_option maxRecDepth 4000
namespace Go.Proofs.YtfchaodlnddkpaaGreat
open Go.ChangeShapes Go.WideShapes Go.ChangeAt Go.RowKit Go.Av
open SizeOf renaming sizeOf→au
theorem Tryz.own:ownKnob Tryz.prog.godebug=none:=by kernel_rfl
theorem Tryz.laidOut:laidOutB Tryz.prog=true:=by kernel_rfl
theorem cells_3:Tryz.prog.cellsOf 3=1:=by kernel_rfl
theorem cells_9:Tryz.prog.cellsOf 9=1:=by kernel_rfl
theorem cells_22:Tryz.prog.cellsOf 22=1:=by kernel_rfl
theorem cells_24:Tryz.prog.cellsOf 24=2:=by kernel_rfl
theorem cells_25:Tryz.prog.cellsOf 25=1:=by kernel_rfl
theorem cells_27:Tryz.prog.cellsOf 27=5:=by kernel_rfl
theorem cells_28:Tryz.prog.cellsOf 28=1:=by kernel_rfl
def GT(t:TypeId):Prop:=t=3∨t=9∨t=22∨t=24∨t=25∨t=27∨t=28
theorem kinds:Kinds Tryz.prog GT:=by
 rintro t (rfl | rfl | rfl | rfl | rfl | rfl | rfl)
 ·exact .inr (.inl ⟨_,Tryz.underlying3⟩)
 ·exact .inr (.inr (.inl Tryz.underlying9))
 ·exact .inr (.inr (.inr (.inl ⟨24,Tryz.underlying22,by simp[GT],by rw[cells_24]; decide⟩)))
 ·refine .inr (.inr (.inr (.inr ⟨_,Tryz.underlying24,?_,?_⟩)))
  ·simp[LaidF,cells_9,cells_22,cells_24]
  ·simp[GT]
 ·exact .inr (.inr (.inr (.inl ⟨27,Tryz.underlying25,by simp[GT],by rw[cells_27]; decide⟩)))
 ·refine .inr (.inr (.inr (.inr ⟨_,Tryz.underlying27,?_,?_⟩)))
  ·simp[LaidF,cells_3,cells_24,cells_9,cells_25,cells_27]
  ·simp[GT]
 ·exact .inr (.inr (.inr (.inl ⟨22,Tryz.underlying28,by simp[GT],by rw[cells_22]; decide⟩)))
theorem open_3{p:PV}(h:HasTy Tryz.prog 3 p):∃ a:Int,InR a∧p=(I a):=by
 cases h with
 | bool h  =>rw[Tryz.underlying3] at h; cases h
 | str h _=>rw[Tryz.underlying3] at h; cases h
 | sl h _ _=>rw[Tryz.underlying3] at h; cases h
 | struct h _=>rw[Tryz.underlying3] at h; cases h
 | int h hw=>
  rw[Tryz.underlying3] at h
  cases h
  exact⟨_,inR_wf hw,rfl⟩
theorem open_9{p:PV}(h:HasTy Tryz.prog 9 p):∃ a:ByteArray,(fun s:ByteArray=>Big s.size) a∧p=(Sx a):=by
 cases h with
 | bool h  =>rw[Tryz.underlying9] at h; cases h
 | int h _=>rw[Tryz.underlying9] at h; cases h
 | sl h _ _=>rw[Tryz.underlying9] at h; cases h
 | struct h _=>rw[Tryz.underlying9] at h; cases h
 | str h hs=>exact⟨_,by simpa[Big,maxLen] using hs,rfl⟩
theorem open_24:∀ {p:PV},HasTy Tryz.prog 24 p→∃ a:Tt,Tt.Ok a∧p=((Tt.pv false) a):=by
 intro p
 induction hn:au p using Nat.strongRecOn generalizing p with
 | _ n ih=>
 intro h
 cases h with
 | bool h  =>rw[Tryz.underlying24] at h; cases h
 | int h _=>rw[Tryz.underlying24] at h; cases h
 | str h _=>rw[Tryz.underlying24] at h; cases h
 | sl h _ _=>rw[Tryz.underlying24] at h; cases h
 | struct h hps=>
  rw[Tryz.underlying24] at h
  cases h
  simp only[List.map_cons,List.map_nil] at hps
  cases hps with
  | cons k0 hps=>
  cases hps with
  | cons k1 hps=>
  cases hps with
  | nil=>
  obtain⟨y0,w0,rfl⟩:=open_9 k0
  cases k1 with
  | bool h  =>rw[Tryz.underlying22] at h; cases h
  | int h _=>rw[Tryz.underlying22] at h; cases h
  | str h _=>rw[Tryz.underlying22] at h; cases h
  | struct h _=>rw[Tryz.underlying22] at h; cases h
  | sl h hl hes=>
  rename_i e es
  rw[Tryz.underlying22] at h
  cases h
  have key:∀ l:List PV,(∀ x∈l,x∈es)→∃ ts:List Tt,(∀ a∈ts,a.Ok)∧l=ts.map (Tt.pv false):=by
   intro l
   induction l with
   | nil=>intro _; exact⟨[],by simp,rfl⟩
   | cons x l ihl=>
    intro hx
    have hm:x∈es:=hx x (by simp)
    have hlt:=List.sizeOf_lt_of_mem hm
    obtain⟨a,ha,rfl⟩:=ih (au x) (by rw[← hn]; simp; omega) rfl (hes x hm)
    obtain⟨ts,hts,rfl⟩:=ihl (fun y hy=>hx y (by simp[hy]))
    exact⟨a::ts,by simpa using⟨ha,hts⟩,rfl⟩
  obtain⟨y1,w1,rfl⟩:=key es (fun _ h=>h)
  exact⟨.mk y0 y1,.mk _ _ w0 (by simpa[Big,maxLen] using hl) w1,by rw[Tt.pv_u,cells_24]; rfl⟩
theorem open_22{p:PV}(h:HasTy Tryz.prog 22 p):∃ a:List Tt,(LOk Tt.Ok) a∧p=(.sl false 2 (a.map (Tt.pv false))):=by
 cases h with
 | bool h  =>rw[Tryz.underlying22] at h; cases h
 | int h _=>rw[Tryz.underlying22] at h; cases h
 | str h _=>rw[Tryz.underlying22] at h; cases h
 | struct h _=>rw[Tryz.underlying22] at h; cases h
 | sl h hl hes=>
  rw[Tryz.underlying22] at h
  cases h
  obtain⟨ts,h1,rfl⟩:=open_list (ok:=Tt.Ok) (f:=(Tt.pv false)) open_24 _ hes
  exact⟨ts,⟨by simpa[Big,maxLen] using hl,h1⟩,by rw[cells_24]⟩
theorem open_27:∀ {p:PV},HasTy Tryz.prog 27 p→∃ a:Ft,Ft.Ok a∧p=((Ft.pv false) a):=by
 intro p
 induction hn:au p using Nat.strongRecOn generalizing p with
 | _ n ih=>
 intro h
 cases h with
 | bool h  =>rw[Tryz.underlying27] at h; cases h
 | int h _=>rw[Tryz.underlying27] at h; cases h
 | str h _=>rw[Tryz.underlying27] at h; cases h
 | sl h _ _=>rw[Tryz.underlying27] at h; cases h
 | struct h hps=>
  rw[Tryz.underlying27] at h
  cases h
  simp only[List.map_cons,List.map_nil] at hps
  cases hps with
  | cons k0 hps=>
  cases hps with
  | cons k1 hps=>
  cases hps with
  | cons k2 hps=>
  cases hps with
  | cons k3 hps=>
  cases hps with
  | nil=>
  obtain⟨y0,w0,rfl⟩:=open_3 k0
  obtain⟨y1,w1,rfl⟩:=open_24 k1
  obtain⟨y2,w2,rfl⟩:=open_9 k2
  cases k3 with
  | bool h  =>rw[Tryz.underlying25] at h; cases h
  | int h _=>rw[Tryz.underlying25] at h; cases h
  | str h _=>rw[Tryz.underlying25] at h; cases h
  | struct h _=>rw[Tryz.underlying25] at h; cases h
  | sl h hl hes=>
  rename_i e es
  rw[Tryz.underlying25] at h
  cases h
  have key:∀ l:List PV,(∀ x∈l,x∈es)→∃ ts:List Ft,(∀ a∈ts,a.Ok)∧l=ts.map (Ft.pv false):=by
   intro l
   induction l with
   | nil=>intro _; exact⟨[],by simp,rfl⟩
   | cons x l ihl=>
    intro hx
    have hm:x∈es:=hx x (by simp)
    have hlt:=List.sizeOf_lt_of_mem hm
    obtain⟨a,ha,rfl⟩:=ih (au x) (by rw[← hn]; simp; omega) rfl (hes x hm)
    obtain⟨ts,hts,rfl⟩:=ihl (fun y hy=>hx y (by simp[hy]))
    exact⟨a::ts,by simpa using⟨ha,hts⟩,rfl⟩
  obtain⟨y3,w3,rfl⟩:=key es (fun _ h=>h)
  exact⟨.mk y0 y1 y2 y3,.mk _ _ _ _ w0 w1 w2 (by simpa[Big,maxLen] using hl) w3,by rw[Ft.pv_u,cells_27]; rfl⟩
theorem open_25{p:PV}(h:HasTy Tryz.prog 25 p):∃ a:List Ft,(LOk Ft.Ok) a∧p=(.sl false 5 (a.map (Ft.pv false))):=by
 cases h with
 | bool h  =>rw[Tryz.underlying25] at h; cases h
 | int h _=>rw[Tryz.underlying25] at h; cases h
 | str h _=>rw[Tryz.underlying25] at h; cases h
 | struct h _=>rw[Tryz.underlying25] at h; cases h
 | sl h hl hes=>
  rw[Tryz.underlying25] at h
  cases h
  obtain⟨ts,h1,rfl⟩:=open_list (ok:=Ft.Ok) (f:=(Ft.pv false)) open_27 _ hes
  exact⟨ts,⟨by simpa[Big,maxLen] using hl,h1⟩,by rw[cells_27]⟩
theorem open_28{p:PV}(h:HasTy Tryz.prog 28 p):∃ a:List (List Tt),(LOk (LOk Tt.Ok)) a∧p=(.sl false 1 (a.map (Lv false 2 (Tt.pv false)))):=by
 cases h with
 | bool h  =>rw[Tryz.underlying28] at h; cases h
 | int h _=>rw[Tryz.underlying28] at h; cases h
 | str h _=>rw[Tryz.underlying28] at h; cases h
 | struct h _=>rw[Tryz.underlying28] at h; cases h
 | sl h hl hes=>
  rw[Tryz.underlying28] at h
  cases h
  obtain⟨ts,h1,rfl⟩:=open_list (ok:=(LOk Tt.Ok)) (f:=(Lv false 2 (Tt.pv false))) open_22 _ hes
  exact⟨ts,⟨by simpa[Big,maxLen] using hl,h1⟩,by rw[cells_22]⟩
theorem law_sat(ps:List PV)(h:HasTys Tryz.prog Tryz.f3.params.toList ps):Sat Tryz.prog 3 ps (.lit (.bool true)):=by
 rw[Tryz.params3] at h
 cases h with
 | cons k0 h=>
 cases h with
 | cons k1 h=>
 cases h with
 | nil=>
 obtain⟨a0,o0,rfl⟩:=open_27 k0
 obtain⟨a1,o1,rfl⟩:=open_28 k1
 exact FnExactWitnessTable_sat (FnExactWitnessTable_true a0 a1 o0 o1)
set_option maxRecDepth 100000 in
theorem law_lifted(os:Os)(started:os.Started)(H:Type)(enc:TypeId×Value→H):
 ReturnsInHanded {} Tryz.checked os 3 .any (Rows.fnExactWitnessTableSpec.pre6 enc Tryz.prog Tryz.f3 Rows.fnExactWitnessTableRow.domain false) (Rows.fnExactWitnessTableSpec.post enc Tryz.prog Tryz.f3 false true false false):=by
 refine returnsInHanded_of_change (C:=Tryz.checked) Tryz.own started (by kernel_rfl) Tryz.func3
  (ChangeSpec.witness6 (enc:=enc) (C:=Tryz.checked) false ⟨#[],#[.agg #[.int .i64 0,.string ⟨#[]⟩,.slice none 0 0,.string ⟨#[]⟩,.slice none 0 0],.slice none 0 0],[]⟩ 8 (by kernel_rfl) (by kernel_rfl) (by kernel_rfl) (by kernel_rfl)) ?_
 intro W base args ds gs before hval0 hW hcnd _
 refine law_post (P:=Tryz.prog) (tb:=4) (base:=base) (G:=GT) Tryz.laidOut rfl rfl Tryz.underlying4 (fun ds hd=>by rw[Tryz.params3] at hd; match ds,hd with | [d0,d1],_=>exact⟨rfl,rfl,rfl⟩) (fun W'=>okWide_bool_mk Tryz.underlying4 true) kinds ?_ hval0 hW law_sat
 intro t ht
 rw[Tryz.params3] at ht
 simp only[List.mem_cons,List.not_mem_nil,or_false] at ht
 rcases ht with rfl | rfl
 all_goals exact⟨by simp[GT],by kernel_rfl,of_decide_eq_true (by kernel_rfl)⟩
theorem andT{a b:Bool}(h1:a=true)(h2:b=true):(a&&b)=true:=by rw[h1,h2]; rfl
set_option maxHeartbeats 4000000 in
theorem law_facts:joinedFacts Tryz.pinned.checked.prog 3 Tryz.f3 Rows.fnExactWitnessTableSpec Rows.fnExactWitnessTableRow=true:=by
 unfold joinedFacts
 refine andT (andT (andT (andT (andT (andT (andT (andT (andT (andT (andT (andT (andT (andT (andT (andT (andT (andT (andT (andT (andT (andT (andT (andT (andT (andT (andT (andT (andT (andT (andT ?_ ?_) ?_) ?_) ?_) ?_) ?_) ?_) ?_) ?_) ?_) ?_) ?_) ?_) ?_) ?_) ?_) ?_) ?_) ?_) ?_) ?_) ?_) ?_) ?_) ?_) ?_) ?_) ?_) ?_) ?_) ?_
 all_goals as_aux_lemma=>kernel_rfl
theorem law_holds:Rows.FnExactWitnessTableSaid:=
 OpenClaim.holds_of_wide 3 Tryz.f3 rfl rfl rfl rfl rfl rfl rfl ⟨rfl,rfl,rfl,rfl,rfl⟩ rfl rfl rfl rfl rfl (by kernel_rfl) Tryz.func3 law_facts
  (of_decide_eq_true (by kernel_rfl)) (by unfold Func.isWrapper; first | (rw[if_pos (by decide+kernel)]; kernel_rfl) | (rw[if_neg (by decide+kernel)]; exact⟨rfl,rfl⟩))
  (fun os started H enc _=>law_lifted os started H enc)
end Go.Proofs.YtfchaodlnddkpaaGreat
