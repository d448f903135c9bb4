/- A part of the proof: lemmas only; nothing is claimed here beyond what each lemma says. -/
import Derived.Test.YtlgeocknlmbgeaaGreatGzn
set_option linter.unusedSimpArgs false
set_option linter.unusedVariables false
set_option linter.defProp false
set_option maxRecDepth 4000
namespace Go.Proofs.YtlgeocknlmbgeaaGreat
open Go.Av
open Option renaming bind_some→al
theorem so_(l:List Ft)(g:Ft):same l [g]=(decide (l.length=1)&&same (l.getD 0 default) g):=by
 by_cases h:l.length=1
 ·match l,h with
  | [x],_=>
   rw[Bool.eq_iff_iff,si_]
   simp[si_]
 ·rw[sl_1 (show ¬ l.length=[g].length by simpa using h),decide_eq_false h]; rfl
theorem iOe_{s:Sb}{l:List Ft}{t:Tt}(hof:s.Formula.Ok)(hf:s.Formula.tot≤1048576)(hnb:Big s.Var.size)(hot:t.Ok)(ht:t.tot≤1048576):
 iSi_ s l t=some (subst s.Formula s.Var t&&same l [s.Formula.sub s.Var t]):=by
 unfold iSi_
 rw[SFe_ hof hf hnb hot ht,al,so_]
 cases subst s.Formula s.Var t
 ·rfl
 ·by_cases h:l.length=1
  ·have e:idx l (0:Int)=some (l.getD 0 default):=igD_ (i:=0) (by omega)
   rw[decide_eq_true h,cond_true,cond_true,decide_eq_true (show(l.length:Int)=1 by omega),cond_true,e,al,sFo_]; rfl
  ·rw[decide_eq_false h,cond_true,cond_true,decide_eq_false (show ¬ (l.length:Int)=1 by omega)]; rfl
theorem iNI_{l:List Ft}(hl:Vl l 10)(x:ByteArray):iiN_1 x l=some (!fvS ⟨l,[]⟩ x):=by
 have key:sCF_ l (fun y0=>iiN_ y0 x)=some (l.any fun f=>f.fv x):=by
  refine contFm l (fun f hf=>?_)
  obtain⟨h1,h2⟩:=vFi_ (hl.val f hf)
  obtain⟨v,e,hv⟩:=fi_ h2 (by omega)
  unfold iiN_
  rw[e,al,ChV_,al,hv]
 unfold iiN_1 fvS
 rw[key,al,show(⟨l,[]⟩:Sa).Right.any (fun f=>f.fv x)=false from rfl,Bool.or_false]
noncomputable def schB(s:Sb):Bool:=
 isVarS s.Var&&(validF s.Formula&&(validD s.Base&&(validD s.Step&&((subst s.Formula s.Var zN&&same s.Base.Sequent.Right [s.Formula.sub s.Var zN])&&
  ((subst s.Formula s.Var (sN s.Var)&&same s.Step.Sequent.Right [s.Formula.sub s.Var (sN s.Var)])&&(same s.Step.Sequent.Left (s.Base.Sequent.Left++[s.Formula])&&!fvS ⟨s.Base.Sequent.Left,[]⟩ s.Var))))))
theorem vDV_{d:Dt}(hok:d.Ok)(ht:d.tot≤1048576)(h:validD d=true):Vl d.Sequent.Left 10∧Vl d.Sequent.Right 10:=by
 unfold validD at h
 rw[Bool.and_eq_true,DoD_1,Bool.and_eq_true] at h
 obtain⟨_,_,h3⟩:=nBe_ hok ht
 exact vSV_ (h3 h.2.1).valid
theorem sb_(s:Sb)(hok:s.Ok)(ht:s.tot≤1048576):iIV_8 s=some (schB s)∧slG_4 s=some (schB s):=by
 obtain⟨o1,o2,o3,o4⟩:=hok
 unfold Sb.tot at ht
 have t1:s.Formula.tot≤1048576:=by omega
 unfold iIV_8 slG_4 schB
 rw[iVe_ _ o1,lVe_ _ o1,vFi_1 _ t1 o2,vFs_ _ t1 o2,vDi_ _ o3 (by omega),vDs_ _ o3 (by omega),vDi_ _ o4 (by omega),vDs_ _ o4 (by omega)]
 simp only[al]
 cases hn:isVarS s.Var
 ·exact⟨rfl,rfl⟩
 cases hv:validF s.Formula
 ·exact⟨rfl,rfl⟩
 cases hb:validD s.Base
 ·exact⟨rfl,rfl⟩
 cases hs:validD s.Step
 ·exact⟨rfl,rfl⟩
 obtain⟨bl,_⟩:=vDV_ o3 (by omega) hb
 have h0:=gTO_ zNg_
 have h1:=gTO_ (sNg_ hn)
 obtain⟨v1,v2⟩:=vFi_ hv
 obtain⟨z1,z2⟩:=gTi_ zNg_
 obtain⟨y1,y2⟩:=gTi_ (sNg_ hn)
 obtain⟨r,r1,r2,r3⟩:=sp_ hn z1 h0.2 z2 o2 v2 t1 (by omega)
 obtain⟨q,q1,q2,q3⟩:=sp_ hn y1 h1.2 y2 o2 v2 t1 (by omega)
 have e1:subst s.Formula s.Var zN=r.2:=by unfold subst; rw[hv,hn,zNg_,r2]; rfl
 have e2:subst s.Formula s.Var (sN s.Var)=q.2:=by unfold subst; rw[hv,hn,sNg_ hn,q2]; rfl
 have ml:=bl.mod (by omega)
 have m1:Mod [s.Formula]:=(Vl.one hv).mod (by omega)
 have hlen:=bl.len
 obtain⟨w,w1,w2,_⟩:=ne_ (s:=⟨s.Base.Sequent.Left,[]⟩) bl (Vl.nil 10)
 have ec:sCS_3 s.Base.Sequent.Left=some s.Base.Sequent.Left:=by
  unfold sCS_3 app
  rw[if_pos (by simp only[List.length_nil]; omega)]; rfl
 have ea:app s.Base.Sequent.Left [s.Formula]=some (s.Base.Sequent.Left++[s.Formula]):=by unfold app; rw[if_pos (by simp only[List.length_cons,List.length_nil]; omega)]
 have ed:dropI s.Base.Sequent.Left (-1)=s.Base.Sequent.Left:=dIn_ _ _ (by omega)
 simp only[cond_true,show iz_=some zN from rfl,show is_ (⟨s.Var,[]⟩:Tt)=some (sN s.Var) from rfl,show slN_8 0=some zN from rfl,show slA_2 s.Var=some (sN s.Var) from rfl,
  iOe_ o2 t1 o1 h0.2 (show zN.tot≤1048576 by omega),iOe_ o2 t1 o1 h1.2 (show(sN s.Var).tot≤1048576 by omega),r1,q1,w1,lIe_1,w2,ec,ea,sameFs,sS_2,iNI_ bl,sc_ (-1) ml m1,ed,al,e1,e2]
 cases hr:r.2
 ·exact⟨rfl,rfl⟩
 cases hq:q.2
 ·cases same s.Base.Sequent.Right [s.Formula.sub s.Var zN]<;>exact⟨rfl,rfl⟩
 rw[r3 hr,q3 hq]
 cases same s.Base.Sequent.Right [s.Formula.sub s.Var zN]<;>cases same s.Step.Sequent.Right [s.Formula.sub s.Var (sN s.Var)]<;>cases same s.Step.Sequent.Left (s.Base.Sequent.Left++[s.Formula])<;>cases fvS ⟨s.Base.Sequent.Left,[]⟩ s.Var<;>exact⟨rfl,rfl⟩
end Go.Proofs.YtlgeocknlmbgeaaGreat
