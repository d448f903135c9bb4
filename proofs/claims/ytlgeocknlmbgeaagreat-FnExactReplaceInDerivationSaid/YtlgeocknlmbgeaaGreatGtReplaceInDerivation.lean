/- A part of the proof: lemmas only; nothing is claimed here beyond what each lemma says. -/
import Derived.Test.YtlgeocknlmbgeaaGreatGad
import Derived.Test.YtlgeocknlmbgeaaGreatGrq
set_option linter.unusedSimpArgs false
set_option linter.unusedVariables false
set_option linter.defProp false
set_option maxRecDepth 4000
namespace Go.Proofs.YtlgeocknlmbgeaaGreat
open Go.Av
open Bool renaming and_eq_true→aB
open Ft renaming tot→aS
open Option renaming bind_some→al
theorem dtots{g:Dt→Dt}{c:Nat}:∀ l:List Dt,(∀ a∈l,(g a).tot+1≤c*a.cnt)→ltot Dt.tot (l.map g)≤c*(l.map Dt.cnt).sum
 | [],_=>Nat.zero_le _
 | a::l,h=>by
  have h1:=h a (by simp)
  have h2:=dtots l (fun b hb=>h b (by simp[hb]))
  simp only[ltot,List.length_cons,List.length_map,List.map_cons,List.sum_cons,Nat.mul_add] at h2 ⊢
  omega
theorem zF_tot:(⟨0,⟨⟨#[]⟩,[]⟩,⟨#[]⟩,[]⟩:Ft).tot=0:=by rw[Ft.tot_u]; show(⟨⟨#[]⟩,[]⟩:Tt).tot+0=0; rw[Tt.tot_u]; rfl
theorem zTt_:(⟨⟨#[]⟩,[]⟩:Tt).tot=0:=by rw[Tt.tot_u]; rfl
theorem ownDN(d:Dt):d.bd→d.cnt≤100000→∀ k,2*SizeOf.sizeOf d≤k→slO_2 k d=some d:=by
 refine Dt.ind' (M:=fun d=>d.bd→d.cnt≤100000→∀ k,2*SizeOf.sizeOf d≤k→slO_2 k d=some d) (fun d ih hb hc k hk=>?_) d
 have hp:=d.pos
 have hlen:=cl_2 d
 have hu:=(Dbu_ d).1 hb
 have hs:ltot aS d.Sequent.Left+ltot aS d.Sequent.Right≤1048576:=hu.1
 have ml:Mod d.Sequent.Left:=⟨fun f hf=>by have:=tm_ aS hf; omega,by have:=ll_ aS d.Sequent.Left; omega⟩
 have mr:Mod d.Sequent.Right:=⟨fun f hf=>by have:=tm_ aS hf; omega,by have:=ll_ aS d.Sequent.Right; omega⟩
 have m0:Mod []:=(Vl.nil 0).mod (by omega)
 cases k with
 | zero=>omega
 | succ k=>
  rw[slO_2,ownT _ (cot_ hu.2.1),ownF _ hu.2.2.1,sn_ (-1) (-1) ml mr m0 m0]
  simp only[al,fNi_]
  rw[mapL (f:=slO_2 k) (g:=fun x=>x) d.Parts 0 [] (fun p hp=>ih p hp (Dpb_ hb hp) (by have:=Dpc_ hp; omega) k (by have:=Dt.lt hp; omega)) (by simp; omega),tLi_]
  unfold nx
  rw[dIn_ _ _ (by omega),dIn_ _ _ (by omega)]
  simp only[List.append_nil,List.nil_append,List.map_id']
  exact congrArg some (by cases d; rfl)
section
variable{n:ByteArray}{t:Tt}
theorem rc_(d:Dt):(repD n t d).cnt=d.cnt:=by
 refine Dt.ind' (M:=fun d=>(repD n t d).cnt=d.cnt) (fun d ih=>?_) d
 rw[Dt.cnt_u,Dt.cnt_u d,repD_u]
 show 1+((d.Parts.map (repD n t)).map Dt.cnt).sum=_
 rw[List.map_map,show(d.Parts.map (Dt.cnt∘repD n t))=d.Parts.map Dt.cnt from List.map_congr_left fun a ha=>ih a ha]
theorem sub_Vl(hn:isVarS n=true)(hg:goodT t=true){l:List Ft}(hl:Vl l 10)(h:l.all (Ft.sok n t)=true):Vl (l.map (Ft.sub n t)) 10:=
 ⟨fun f hf=>by
  obtain⟨a,ha,rfl⟩:=List.mem_map.1 hf
  exact(sv_ (by unfold subst; rw[hl.val a ha,hn,hg,List.all_eq_true.1 h a ha]; rfl)).1,by rw[List.length_map]; exact hl.len⟩
theorem rf_(hn:isVarS n=true)(hg:goodT t=true)(d:Dt):d.Ok→d.bd→d.okD=true→rokD n t d=true→
 (repD n t d).Ok∧(repD n t d).bd∧(repD n t d).tot+1≤200000*d.cnt:=by
 refine Dt.ind' (M:=fun d=>d.Ok→d.bd→d.okD=true→rokD n t d=true→
  (repD n t d).Ok∧(repD n t d).bd∧(repD n t d).tot+1≤200000*d.cnt) (fun d ih hok hb hd hr=>?_) d
 rw[DoD_,aB,List.all_eq_true] at hd
 rw[rokD_u] at hr
 simp only[aB] at hr
 obtain⟨r1,r2,r3,r4⟩:=hr
 rw[List.all_eq_true] at r4
 have N:=nR_ hok hb hd.1
 have hu:=hok.u
 have vl:=sub_Vl hn hg N.vl r1
 have vr:=sub_Vl hn hg N.vr r2
 obtain⟨s1,s2⟩:=Vl.seq vl vr (by omega) (by omega)
 have s3:=vl.sum
 have s4:=vr.sum
 have P:=fun p hp=>ih p hp (Dpo_ hok hp) (Dpb_ hb hp) (hd.2 p hp) (r4 p hp)
 obtain⟨g1,g2⟩:=gTi_ hg
 have tm:(sbT n t d.Term).tot≤7000:=by
  rcases N.term with⟨_,h⟩ | ⟨_,h⟩
  ·obtain⟨h1,h2⟩:=gTi_ h
   have e1:=tt_ _ (st_2 (n:=n) (gt_ t g1) d.Term (gt_ _ h1))
   have e2:=sb_cnt (n:=n) (t:=t) d.Term
   have e3:d.Term.cnt*t.cnt≤30*30:=Nat.mul_le_mul h2 g2
   omega
  ·rw[h,sbT_u]
   cases (bif ([]:List Tt).isEmpty&&decide ((⟨#[]⟩:ByteArray)=n) then true else false)
   all_goals
    show(bif (true&&decide ((⟨#[]⟩:ByteArray)=n)) then t else(⟨⟨#[]⟩,[]⟩:Tt)).tot≤7000
    have:=gTO_ hg
    cases decide ((⟨#[]⟩:ByteArray)=n)
    ·show(⟨⟨#[]⟩,[]⟩:Tt).tot≤7000; rw[zTt_]; omega
    ·show t.tot≤7000; omega
 have ct:(bif decide (d.Rule=15) then d.Cut.sub n t else⟨0,⟨⟨#[]⟩,[]⟩,⟨#[]⟩,[]⟩:Ft).Ok∧(bif decide (d.Rule=15) then d.Cut.sub n t else⟨0,⟨⟨#[]⟩,[]⟩,⟨#[]⟩,[]⟩:Ft).tot≤8800:=by
  by_cases h15:d.Rule=15
  ·rw[decide_eq_true h15] at r3 ⊢
   have:=(sv_ (f:=d.Cut) (n:=n) (t:=t) (by unfold subst; rw[N.cut15 h15,hn,hg]; exact r3)).1
   exact⟨vFO_ this,vFt_ this⟩
  ·rw[decide_eq_false h15,cond_false,zF_tot]
   exact⟨N.cut0 h15▸hu.2.2.2.2.1,by omega⟩
 have tl:=dtots (g:=repD n t) (c:=200000) d.Parts (fun p hp=>(P p hp).2.2)
 rw[repD_u]
 refine⟨Dt.Ok.mk _ _ _ _ _ _ hu.1 s1 hu.2.2.1 (Tt.Ok_of _ (by omega)) ct.1 (by rw[List.length_map]; exact hu.2.2.2.2.2.1) (fun a ha=>?_),?_,?_⟩
 ·obtain⟨p,hp,rfl⟩:=List.mem_map.1 ha
  exact(P p hp).1
 ·rw[Dbu_]
  refine⟨s2,Nat.le_trans tm (by omega),Nat.le_trans ct.2 (by omega),fun a ha=>?_⟩
  obtain⟨p,hp,rfl⟩:=List.mem_map.1 ha
  exact(P p hp).2.1
 ·rw[Dt.tot_u,Dt.cnt_u]
  show ltot aS (d.Sequent.Left.map (Ft.sub n t))+ltot aS (d.Sequent.Right.map (Ft.sub n t))+((sbT n t d.Term).tot+((bif decide (d.Rule=15) then d.Cut.sub n t else⟨0,⟨⟨#[]⟩,[]⟩,⟨#[]⟩,[]⟩:Ft).tot+ltot Dt.tot (d.Parts.map (repD n t))))+1≤_
  have:=ct.2
  rw[Nat.mul_add]; omega
theorem Rb_(d:Dt)(hok:d.Ok)(ht:d.tot≤1048576)(hnb:Big n.size)(hot:t.Ok)(htt:t.tot≤1048576):
 ∃ r:Dt×Bool,iRI_ d n t=some r∧sRI_ d n t=some r∧r.1.tot≤12000000:=by
 have z:(⟨0,⟨[],[]⟩,0,⟨⟨#[]⟩,[]⟩,⟨0,⟨⟨#[]⟩,[]⟩,⟨#[]⟩,[]⟩,[]⟩:Dt).tot≤12000000:=by
  rw[Dt.tot_u]; show 0+((⟨⟨#[]⟩,[]⟩:Tt).tot+((⟨0,⟨⟨#[]⟩,[]⟩,⟨#[]⟩,[]⟩:Ft).tot+0))≤_
  rw[zF_tot,zTt_]; omega
 unfold iRI_ sRI_
 rw[vDi_1 d hok ht,vDs_1 d hok ht,iVe_ n hnb,lVe_ n hnb,IVT_ t htt hot,lGo_ t htt hot]
 simp only[al]
 cases hv:validD d
 ·exact⟨_,rfl,rfl,z⟩
 cases hn:isVarS n
 ·exact⟨_,rfl,rfl,z⟩
 cases hg:goodT t
 ·exact⟨_,rfl,rfl,z⟩
 unfold validD at hv
 rw[aB,decide_eq_true_eq] at hv
 have hb:=d.tot_bd ht
 obtain⟨p,p1,p2,p3⟩:=ri_ hn hg d hok hb (by omega) hv.2
 obtain⟨q,q1,q2,q3⟩:=rs_1 hn hg d hok hb (by omega) hv.2
 rw[show irI_1 d n t=some p from lim_eq ⟨_,p1⟩,show slR_2 d n t=some q from lim_eq ⟨_,q1⟩]
 simp only[cond_true,al]
 rw[p2,q2]
 cases hr:rokD n t d
 ·exact⟨_,rfl,rfl,z⟩
 rw[p3 (p2.trans hr),q3 (q2.trans hr)]
 obtain⟨f1,f2,f3⟩:=rf_ hn hg d hok hb hv.2 hr
 have hc:=rc_ (n:=n) (t:=t) d
 unfold iiD_
 rw[vDi_ _ f1 f2 (by omega),vDs_ _ f1 f2 (by omega),show slO_12 (repD n t d)=some (repD n t d) from lim_eq ⟨_,ownDN _ f2 (by omega)⟩]
 simp only[cond_true,al]
 cases validD (repD n t d)
 ·exact⟨_,rfl,rfl,z⟩
 ·have:=Nat.mul_le_mul_left 200000 hv.1
  exact⟨_,rfl,rfl,by show(repD n t d).tot≤_; omega⟩
end
theorem FnExactReplaceInDerivation_true(d:Dt)(n:ByteArray)(t:Tt)(hok:d.Ok)(hnb:Big n.size)(hot:t.Ok):FnExactReplaceInDerivation d n t=some true:=by
 unfold FnExactReplaceInDerivation
 by_cases hs:(1048576:Int)<(n.size:Int)
 ·rw[decide_eq_true hs]; rfl
 rw[decide_eq_false hs,cond_false,sDe_ d hok _ (by omega) (by omega),al]
 by_cases e:szR d.tot 1048576<0
 ·rw[decide_eq_true e]; rfl
 have ht:=szR_ok e
 have hl:szR d.tot 1048576=((1048576-d.tot:Nat):Int):=by unfold szR; rw[if_pos (by omega)]; omega
 rw[decide_eq_false e,cond_false,sTe_ t hot _ (by omega) (by omega),al]
 by_cases e2:szR t.tot (szR d.tot 1048576)<0
 ·rw[decide_eq_true e2]; rfl
 have htt:t.tot≤1048576:=by
  rw[hl] at e2
  unfold szR at e2
  split at e2<;>omega
 obtain⟨r,g1,g2,g3⟩:=Rb_ (n:=n) (t:=t) d hok ht hnb hot htt
 have w1:=d.marks_tot
 have w2:=r.1.marks_tot
 have w3:=t.marks_tot
 obtain⟨y0,y1,y2,y3,y4,y5,m1,_⟩:=mDh_ d (k:=1) (by omega) (by omega)
 obtain⟨x0,x1,x2,x3,x4,x5,m2,m3⟩:=mDh_ r.1 (k:=1) (by omega) (by omega)
 generalize hA:lcn Ft.cn d.Sequent.Left+lcn Ft.cn d.Sequent.Right+lcn Tt.cn d.Term.Args+lcn Tt.cn d.Cut.Atom.Args+lcn Ft.cn d.Cut.Parts+lcn Dt.cn d.Parts=A at m1 w1
 generalize hB:lcn Ft.cn r.1.Sequent.Left+lcn Ft.cn r.1.Sequent.Right+lcn Tt.cn r.1.Term.Args+lcn Tt.cn r.1.Cut.Atom.Args+lcn Ft.cn r.1.Cut.Parts+lcn Dt.cn r.1.Parts=B at m2 m3 w2
 obtain⟨z0,k1,_⟩:=mTh_ t (k:=1+(A:Int)) (by omega) (by omega)
 have d1:decide ((1:Int)+(A:Int)+((lcn Tt.cn t.Args:Nat):Int)<0)=false:=decide_eq_false (by omega)
 have d2:decide ((1:Int)+(B:Int)<0)=false:=decide_eq_false (by omega)
 rw[decide_eq_false e2,cond_false]
 simp only[tDe_ d ht,tTe_ t htt,al,g1,g2,eDr_,eTr_,cond_true,beq_self_eq_true,m1,k1,d1,m2,m3,d2,cond_false,decide_true]
end Go.Proofs.YtlgeocknlmbgeaaGreat
