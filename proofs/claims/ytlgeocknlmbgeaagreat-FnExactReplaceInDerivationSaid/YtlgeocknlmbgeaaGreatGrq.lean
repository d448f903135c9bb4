/- A part of the proof: lemmas only; nothing is claimed here beyond what each lemma says. -/
import Derived.Test.YtlgeocknlmbgeaaGreatGrp
set_option linter.unusedSimpArgs false
set_option linter.unusedVariables false
set_option linter.defProp false
set_option maxRecDepth 4000
namespace Go.Proofs.YtlgeocknlmbgeaaGreat
open Go.Av
open Bool renaming and_eq_true→aB
open Option renaming bind_some→al,bind→aa
open SizeOf renaming sizeOf→av
theorem am_{α:Type}{p q:α→Bool}:∀ {l:List α},(∀ a∈l,p a=q a)→l.all p=l.all q
 | [],_=>rfl
 | a::l,h=>by rw[List.all_cons,List.all_cons,h a (by simp),am_ (l:=l) fun b hb=>h b (by simp[hb])]
theorem cl_2(d:Dt):d.Parts.length≤d.cnt:=by
 have:∀ l:List Dt,l.length≤(l.map Dt.cnt).sum:=by
  intro l
  induction l with
  | nil=>exact Nat.zero_le _
  | cons a l ih=>rw[List.length_cons,List.map_cons,List.sum_cons]; have:=a.cnt_u; omega
 have:=this d.Parts
 rw[Dt.cnt_u]; omega
section
variable{n:ByteArray}{t:Tt}
theorem ri_(hn:isVarS n=true)(hg:goodT t=true)(d:Dt):d.Ok→d.bd→d.cnt≤100000→d.okD=true→
 ∃ r:Dt×Bool,(∀ k,2*av d≤k→irI_ k d n t=some r)∧r.2=rokD n t d∧(r.2=true→r.1=repD n t d):=by
 refine Dt.ind' (M:=fun d=>d.Ok→d.bd→d.cnt≤100000→d.okD=true→
  ∃ r:Dt×Bool,(∀ k,2*av d≤k→irI_ k d n t=some r)∧r.2=rokD n t d∧(r.2=true→r.1=repD n t d)) (fun d ih hok hb hc hd=>?_) d
 have hp:=d.pos
 rw[DoD_,aB,List.all_eq_true] at hd
 obtain⟨R,hR⟩:=mc_ (fun a ha=>ih a ha (Dpo_ hok ha) (Dpb_ hb ha) (by have:=Dpc_ ha; omega) (hd.2 a ha))
 have N:=nR_ hok hb hd.1
 have hlen:=cl_2 d
 have hgt:=gTO_ hg
 have hb':=(Dbu_ d).1 hb
 have e1:=sAi_ hn hg N.vl
 have e2:=sAi_ hn hg N.vr
 have e3:irV_1 d.Term (GMap.put (GMap.empty:GMap Tt) n t)=some (sbT n t d.Term):=rV_ (cot_ (by omega)) (cot_ hb'.2.1)
 have hall:d.Parts.all (fun a=>(R a).2)=d.Parts.all (rokD n t):=am_ fun a ha=>(hR a ha).2.1
 have q1:∀ k,2*av d≤k+1→forL (ρ:=Dt×Bool) (fun _ a (s:List Dt)=>(irI_ k a n t).bind fun v=>(app s [v.1]).bind fun w=>some (.nx w)) d.Parts 0 []=some (.inr (d.Parts.map fun a=>(R a).1)):=fun k hk=>by
  rw[fl_2 (fun a=>irI_ k a n t) R d.Parts 0 [] (fun a ha=>(hR a ha).1 k (by have:=Dt.lt ha; omega)) (by simp; omega),List.nil_append]
 have q2:∀ k,2*av d≤k+1→∀ b,forL (ρ:=Dt×Bool) (fun _ a (s:Bool×List Dt)=>(irI_ k a n t).bind fun v=>bif s.1 then(app s.2 [v.1]).bind fun w=>some (.nx (v.2,w)) else(app s.2 [v.1]).bind fun w=>some (.nx (false,w))) d.Parts 0 (b,[])=some (.inr (b&&d.Parts.all (rokD n t),d.Parts.map fun a=>(R a).1)):=fun k hk b=>by
  rw[al_ (fun a=>irI_ k a n t) R d.Parts 0 [] b (fun a ha=>(hR a ha).1 k (by have:=Dt.lt ha; omega)) (by simp; omega),List.nil_append,hall]
 refine⟨(.mk d.Rule ⟨d.Sequent.Left.map (fun f=>(subP n t f).1),d.Sequent.Right.map (fun f=>(subP n t f).1)⟩ d.Main (sbT n t d.Term) (bif decide (d.Rule=15) then(subP n t d.Cut).1 else⟨0,⟨⟨#[]⟩,[]⟩,⟨#[]⟩,[]⟩) (d.Parts.map fun a=>(R a).1),rokD n t d),fun k hk=>?_,rfl,fun h=>?_⟩
 ·cases k with
  | zero=>omega
  | succ k=>
   rw[irI_,e1,e2,e3,rokD_u]
   simp only[al,fNi_]
   by_cases h15:d.Rule=15
   ·rw[decide_eq_true h15,si_2 hn hg (N.cut15 h15)]
    simp only[cond_true,al,q1 k hk,q2 k hk,tLi_,subP_2]
    cases d.Sequent.Left.all (Ft.sok n t)<;>cases d.Sequent.Right.all (Ft.sok n t)<;>rfl
   ·rw[decide_eq_false h15]
    simp only[cond_false,q1 k hk,q2 k hk,tLi_]
    cases d.Sequent.Left.all (Ft.sok n t)<;>cases d.Sequent.Right.all (Ft.sok n t)<;>rfl
 ·have h:rokD n t d=true:=h
  rw[rokD_u] at h
  simp only[aB] at h
  obtain⟨h1,h2,h3,h4⟩:=h
  rw[repD_u]
  show Dt.mk _ _ _ _ _ _=_
  rw[msP_ h1,msP_ h2,List.map_congr_left (g:=repD n t) fun a ha=>(hR a ha).2.2 ((hR a ha).2.1.trans (List.all_eq_true.1 h4 a ha))]
  cases h15:decide (d.Rule=15)
  ·rfl
  ·rw[h15] at h3
   rw[cond_true,cond_true,subP_1 h3]
theorem rs_1(hn:isVarS n=true)(hg:goodT t=true)(d:Dt):d.Ok→d.bd→d.cnt≤100000→d.okD=true→
 ∃ r:Dt×Bool,(∀ k,2*av d≤k→slR_1 k d n t=some r)∧r.2=rokD n t d∧(r.2=true→r.1=repD n t d):=by
 refine Dt.ind' (M:=fun d=>d.Ok→d.bd→d.cnt≤100000→d.okD=true→
  ∃ r:Dt×Bool,(∀ k,2*av d≤k→slR_1 k d n t=some r)∧r.2=rokD n t d∧(r.2=true→r.1=repD n t d)) (fun d ih hok hb hc hd=>?_) d
 have hp:=d.pos
 rw[DoD_,aB,List.all_eq_true] at hd
 obtain⟨R,hR⟩:=mc_ (fun a ha=>ih a ha (Dpo_ hok ha) (Dpb_ hb ha) (by have:=Dpc_ ha; omega) (hd.2 a ha))
 have N:=nR_ hok hb hd.1
 have hlen:=cl_2 d
 have hgt:=gTO_ hg
 have hb':=(Dbu_ d).1 hb
 obtain⟨hgg,hgc⟩:=gTi_ hg
 obtain⟨r1,e1,e2,e3⟩:=sAs_ hn hg N.vl
 obtain⟨r2,f1,f2,f3⟩:=sAs_ hn hg N.vr
 have hnz:¬ (⟨#[]⟩:ByteArray)=n:=fun e=>by rw[← e] at hn; revert hn; decide
 have hz:sbT n t (⟨⟨#[]⟩,[]⟩:Tt)=⟨⟨#[]⟩,[]⟩:=by
  rw[sbT_u]
  show(bif (true&&decide ((⟨#[]⟩:ByteArray)=n)) then _ else _)=_
  rw[decide_eq_false hnz]; rfl
 have hput:slP_5 (Sc.mk []) n t=some (one n t):=lPe_ n t (by omega)
 -- the loop over the parts, whatever stands around it
 have key:∀ (tm:Tt) (ct:Ft),∃ r:Dt×Bool,(∀ k,2*av d≤k+1→
  (thenL (ρ:=(Dt×Bool)) (σ:=(List Dt)) (forN (fun (i14:Nat) (s14:(List Dt))=>
   aa (idx d.Parts (i14:Int)) fun v89=>
   aa (slR_1 k v89 n t) fun v93=>
   bif v93.2 then
    aa (app s14 ([v93.1])) fun v103=>
    some (.nx v103)
   else
    some (.rt ((Dt.mk d.Rule (Sa.mk r1.1 r2.1) d.Main tm ct s14),false))) d.Parts.length 0 ([])) fun s14=>
  some ((Dt.mk d.Rule (Sa.mk r1.1 r2.1) d.Main tm ct s14),true))=some r)∧r.2=d.Parts.all (rokD n t)∧(r.2=true→r.1=.mk d.Rule (Sa.mk r1.1 r2.1) d.Main tm ct (d.Parts.map (repD n t))):=by
  intro tm ct
  have cg:∀ k,2*av d≤k+1→forL (ρ:=Dt×Bool) (fun (i14:Nat) (v89:Dt) (s14:(List Dt))=>
   aa (slR_1 k v89 n t) fun v93=>
   bif v93.2 then
    aa (app s14 ([v93.1])) fun v103=>
    some (.nx v103)
   else
    some (.rt ((Dt.mk d.Rule (Sa.mk r1.1 r2.1) d.Main tm ct s14),false))) d.Parts 0 []=
   forL (fun _ a (s:List Dt)=>((fun a=>some (R a)) a).bind fun v=>bif v.2 then(app s [v.1]).bind fun w=>some (.nx w) else some (.rt ((fun s=>(Dt.mk d.Rule (Sa.mk r1.1 r2.1) d.Main tm ct s,false)) s))) d.Parts 0 []:=fun k hk=>by
   refine fLc_ d.Parts 0 [] (fun j a s ha=>?_)
   have ha:=List.mem_of_getElem? ha
   have:=Dt.lt ha
   rw[(hR a ha).1 k (by omega)]
  simp only[fNi_]
  rcases tl_ (fun a=>some (R a)) (rokD n t) (repD n t) (fun s=>(Dt.mk d.Rule (Sa.mk r1.1 r2.1) d.Main tm ct s,false)) d.Parts 0 [] (fun a ha=>⟨R a,rfl,(hR a ha).2⟩) (by simp; omega) with⟨h1,h2⟩ | ⟨h1,s',h2⟩
  ·refine⟨(.mk d.Rule (Sa.mk r1.1 r2.1) d.Main tm ct (d.Parts.map (repD n t)),true),fun k hk=>?_,h1.symm,fun _=>rfl⟩
   rw[cg k hk,h2,tLi_,List.nil_append]
  ·refine⟨(.mk d.Rule (Sa.mk r1.1 r2.1) d.Main tm ct s',false),fun k hk=>?_,h1.symm,fun h=>(nomatch h)⟩
   rw[cg k hk,h2,tLi_1]
 rw[rokD_u,repD_u,← e2,← f2]
 have no:∀ (b:Bool) (X:Dt),b=false→(∀ k,2*av d≤k→slR_1 k d n t=some (.mk d.Rule ⟨r1.1,r2.1⟩ d.Main ⟨⟨#[]⟩,[]⟩ ⟨0,⟨⟨#[]⟩,[]⟩,⟨#[]⟩,[]⟩ [],false))→
  ∃ r:Dt×Bool,(∀ k,2*av d≤k→slR_1 k d n t=some r)∧r.2=b∧(r.2=true→r.1=X):=fun b X hb h=>⟨_,h,hb.symm,fun h=>(nomatch h)⟩
 cases c1:r1.2
 ·refine no _ _ rfl (fun k hk=>?_)
  cases k with
  | zero=>omega
  | succ k=>rw[slR_1,e1,f1,al,al,c1]; rfl
 cases c2:r2.2
 ·refine no _ _ rfl (fun k hk=>?_)
  cases k with
  | zero=>omega
  | succ k=>rw[slR_1,e1,f1,al,al,c1,c2]; rfl
 rw[← e3 c1,← f3 c2]
 by_cases h15:d.Rule=15
 ·obtain⟨r3,g1,g2,g3⟩:=ss_ hn hg (N.cut15 h15)
  rw[decide_eq_true h15,cond_true,cond_true,← g2]
  have htm:d.Term=⟨⟨#[]⟩,[]⟩:=by
   rcases N.term with⟨h,_⟩ | ⟨_,h⟩
   ·rw[h15] at h; cases h
   ·exact h
  have hq:inR d.Rule 11 14=false:=by rw[h15]; rfl
  cases c3:r3.2
  ·refine no _ _ rfl (fun k hk=>?_)
   cases k with
   | zero=>omega
   | succ k=>rw[slR_1,e1,f1,al,al,c1,c2,decide_eq_true h15,cond_true,cond_true,cond_true,g1,al,c3]; rfl
  ·obtain⟨r,k1,k2,k3⟩:=key ⟨⟨#[]⟩,[]⟩ r3.1
   refine⟨r,fun k hk=>?_,k2,fun h=>?_⟩
   ·cases k with
    | zero=>omega
    | succ k=>rw[slR_1,e1,f1,al,al,c1,c2,decide_eq_true h15,cond_true,cond_true,cond_true,g1,al,c3,cond_true,lIe_,al,hq,cond_false,k1 k (by omega)]
   ·rw[k3 h,htm,hz,g3 c3]
 ·rw[decide_eq_false h15,cond_false,cond_false]
  rcases N.term with⟨hq,ht⟩ | ⟨hq,ht⟩
  ·obtain⟨tg,_⟩:=gTi_ ht
   obtain⟨r,k1,k2,k3⟩:=key (sbT n t d.Term) ⟨0,⟨⟨#[]⟩,[]⟩,⟨#[]⟩,[]⟩
   have happ:slA_1 (one n t) d.Term=some (sbT n t d.Term):=lim_eq ⟨_,lAN_ hn (by omega) hgg d.Term (gTO_ ht).2 tg⟩
   refine⟨r,fun k hk=>?_,k2,fun h=>k3 h⟩
   cases k with
   | zero=>omega
   | succ k=>rw[slR_1,e1,f1,al,al,c1,c2,decide_eq_false h15,cond_true,cond_true,cond_false,lIe_,al,hq,cond_true,hput,al,happ,al,k1 k (by omega)]
  ·obtain⟨r,k1,k2,k3⟩:=key ⟨⟨#[]⟩,[]⟩ ⟨0,⟨⟨#[]⟩,[]⟩,⟨#[]⟩,[]⟩
   refine⟨r,fun k hk=>?_,k2,fun h=>?_⟩
   ·cases k with
    | zero=>omega
    | succ k=>rw[slR_1,e1,f1,al,al,c1,c2,decide_eq_false h15,cond_true,cond_true,cond_false,lIe_,al,hq,cond_false,k1 k (by omega)]
   ·rw[k3 h,ht,hz]
end
end Go.Proofs.YtlgeocknlmbgeaaGreat
