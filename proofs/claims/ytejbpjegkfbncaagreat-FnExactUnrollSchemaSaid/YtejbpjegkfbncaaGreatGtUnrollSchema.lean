/- Lemmas of the proof; each says what it shows. -/
import Derived.Test.YtejbpjegkfbncaaGreatGrp
import Derived.Test.YtejbpjegkfbncaaGreatGp
set_option linter.unusedSimpArgs false
set_option linter.unusedVariables false
set_option linter.defProp false
set_option maxRecDepth 4000
namespace Go.Proofs.YtejbpjegkfbncaaGreat
open Go.Av
open Bool renaming and_eq_true→aA
open Ft renaming tot→aP
open List renaming all_cons→bI,length_cons→aK,map_cons→aI,sum_cons→bq,length_map→aB,append_nil→bw,nil_append→bG,all_eq_true→a8,length_nil→aU,length_append→aS
open Option renaming bind_some→ak,bind→aa
open SizeOf renaming sizeOf→aw
section
theorem am_{α:Type}{p q:α→Bool}:∀ {l:List α},(∀ a∈l,p a=q a)→l.all p=l.all q
 | [],_=>rfl
 | a::l,h=>by rw[bI,bI,h a (by simp),am_ (l:=l) fun b hb=>h b (by simp[hb])]
theorem cl_(d:Dt):d.Parts.length≤d.cnt:=by
 have:∀ l:List Dt,l.length≤(l.map Dt.cnt).sum:=by
  intro l
  induction l with
  | nil=>exact Nat.zero_le _
  | cons a l ih=>rw[aK,aI,bq]; have:=a.cnt_u; omega
 have:=this d.Parts
 rw[Dt.cnt_u]; omega
theorem d_{g:Dt→Dt}{c:Nat}:∀ l:List Dt,(∀ a∈l,(g a).tot+1≤c*a.cnt)→ltot Dt.tot (l.map g)≤c*(l.map Dt.cnt).sum
 | [],_=>Nat.zero_le _
 | a::l,h=>by
  have h1:=h a (by simp)
  have h2:=d_ l (fun b hb=>h b (by simp[hb]))
  simp only[ltot,aK,aB,aI,bq,Nat.mul_add] at h2 ⊢
  omega
theorem zFt_:(⟨0,⟨⟨#[]⟩,[]⟩,⟨#[]⟩,[]⟩:Ft).tot=0:=by rw[Ft.tot_u]; show(⟨⟨#[]⟩,[]⟩:Tt).tot+0=0; rw[Tt.tot_u]; rfl
theorem zTt_:(⟨⟨#[]⟩,[]⟩:Tt).tot=0:=by rw[Tt.tot_u]; rfl
theorem oD_(d:Dt):d.bd→d.cnt≤100000→∀ k,2*aw d≤k→slO_4 k d=some d:=by
 refine Dt.ind' (M:=fun d=>d.bd→d.cnt≤100000→∀ k,2*aw d≤k→slO_4 k d=some d) (fun d ih hb hc k hk=>?_) d
 have hp:=d.pos
 have hlen:=cl_ d
 have hu:=(Dbu_ d).1 hb
 have hs:ltot aP d.Sequent.Left+ltot aP d.Sequent.Right≤1048576:=hu.1
 have ml:Mod d.Sequent.Left:=⟨fun f hf=>by have:=tm_ aP hf; omega,by have:=ll_ aP d.Sequent.Left; omega⟩
 have mr:Mod d.Sequent.Right:=⟨fun f hf=>by have:=tm_ aP hf; omega,by have:=ll_ aP d.Sequent.Right; omega⟩
 have m0:Mod []:=(Vl.nil 0).mod (by omega)
 cases k with
 | zero=>omega
 | succ k=>
  rw[slO_4,ownT _ (cot_ hu.2.1),ownF _ hu.2.2.1,sn_ (-1) (-1) ml mr m0 m0]
  simp only[ak,fNi_]
  rw[mapL (f:=slO_4 k) (g:=fun x=>x) d.Parts 0 [] (fun p hp=>ih p hp (Dpb_ hb hp) (by have:=Dpc_ hp; omega) k (by have:=Dt.lt hp; omega)) (by simp; omega),tLi_]
  unfold nx
  rw[dIn_ _ _ (by omega),dIn_ _ _ (by omega)]
  simp only[bw,bG,List.map_id']
  exact congrArg some (by cases d; rfl)
section
variable{n:ByteArray}{t:Tt}
theorem ri_1(hn:iVS_ n=true)(hg:gT_ t=true)(d:Dt):d.Ok→d.bd→d.cnt≤100000→d.okD=true→
 ∃ r:Dt×Bool,(∀ k,2*aw d≤k→irI_ k d n t=some r)∧r.2=rokD n t d∧(r.2=true→r.1=repD n t d):=by
 refine Dt.ind' (M:=fun d=>d.Ok→d.bd→d.cnt≤100000→d.okD=true→
  ∃ r:Dt×Bool,(∀ k,2*aw d≤k→irI_ k d n t=some r)∧r.2=rokD n t d∧(r.2=true→r.1=repD n t d)) (fun d ih hok hb hc hd=>?_) d
 have hp:=d.pos
 rw[Dt.okD_u,aA,a8] at hd
 obtain⟨R,hR⟩:=mc_ (fun a ha=>ih a ha (Dpo_ hok ha) (Dpb_ hb ha) (by have:=Dpc_ ha; omega) (hd.2 a ha))
 have N:=nR_ hok hb hd.1
 have hlen:=cl_ d
 have hgt:=gTO_ hg
 have hb':=(Dbu_ d).1 hb
 have e1:=sAi_ hn hg N.vl
 have e2:=sAi_ hn hg N.vr
 have e3:irV_1 d.Term (GMap.put (GMap.empty:GMap Tt) n t)=some (sbT n t d.Term):=rV_ (cot_ (by omega)) (cot_ hb'.2.1)
 have hall:d.Parts.all (fun a=>(R a).2)=d.Parts.all (rokD n t):=am_ fun a ha=>(hR a ha).2.1
 have q1:∀ k,2*aw d≤k+1→forL (ρ:=Dt×Bool) (fun _ a (s:List Dt)=>(irI_ k a n t).bind fun v=>(app s [v.1]).bind fun w=>some (.nx w)) d.Parts 0 []=some (.inr (d.Parts.map fun a=>(R a).1)):=fun k hk=>by
  rw[fl_2 (fun a=>irI_ k a n t) R d.Parts 0 [] (fun a ha=>(hR a ha).1 k (by have:=Dt.lt ha; omega)) (by simp; omega),bG]
 have q2:∀ k,2*aw d≤k+1→∀ b,forL (ρ:=Dt×Bool) (fun _ a (s:Bool×List Dt)=>(irI_ k a n t).bind fun v=>bif s.1 then(app s.2 [v.1]).bind fun w=>some (.nx (v.2,w)) else(app s.2 [v.1]).bind fun w=>some (.nx (false,w))) d.Parts 0 (b,[])=some (.inr (b&&d.Parts.all (rokD n t),d.Parts.map fun a=>(R a).1)):=fun k hk b=>by
  rw[al_ (fun a=>irI_ k a n t) R d.Parts 0 [] b (fun a ha=>(hR a ha).1 k (by have:=Dt.lt ha; omega)) (by simp; omega),bG,hall]
 refine⟨(.mk d.Rule ⟨d.Sequent.Left.map (fun f=>(subP n t f).1),d.Sequent.Right.map (fun f=>(subP n t f).1)⟩ d.Main (sbT n t d.Term) (bif decide (d.Rule=15) then(subP n t d.Cut).1 else⟨0,⟨⟨#[]⟩,[]⟩,⟨#[]⟩,[]⟩) (d.Parts.map fun a=>(R a).1),rokD n t d),fun k hk=>?_,rfl,fun h=>?_⟩
 ·cases k with
  | zero=>omega
  | succ k=>
   rw[irI_,e1,e2,e3,rDu_]
   simp only[ak,fNi_]
   by_cases h15:d.Rule=15
   ·rw[decide_eq_true h15,si_1 hn hg (N.cut15 h15)]
    simp only[cond_true,ak,q1 k hk,q2 k hk,tLi_,sP2_]
    cases d.Sequent.Left.all (Ft.sok n t)<;>cases d.Sequent.Right.all (Ft.sok n t)<;>rfl
   ·rw[decide_eq_false h15]
    simp only[cond_false,q1 k hk,q2 k hk,tLi_]
    cases d.Sequent.Left.all (Ft.sok n t)<;>cases d.Sequent.Right.all (Ft.sok n t)<;>rfl
 ·have h:rokD n t d=true:=h
  rw[rDu_] at h
  simp only[aA] at h
  obtain⟨h1,h2,h3,h4⟩:=h
  rw[rDu_1]
  show Dt.mk _ _ _ _ _ _=_
  rw[msP_ h1,msP_ h2,List.map_congr_left (g:=repD n t) fun a ha=>(hR a ha).2.2 ((hR a ha).2.1.trans (List.all_eq_true.1 h4 a ha))]
  cases h15:decide (d.Rule=15)
  ·rfl
  ·rw[h15] at h3
   rw[cond_true,cond_true,sP1_ h3]
theorem rs_1(hn:iVS_ n=true)(hg:gT_ t=true)(d:Dt):d.Ok→d.bd→d.cnt≤100000→d.okD=true→
 ∃ r:Dt×Bool,(∀ k,2*aw d≤k→slR_1 k d n t=some r)∧r.2=rokD n t d∧(r.2=true→r.1=repD n t d):=by
 refine Dt.ind' (M:=fun d=>d.Ok→d.bd→d.cnt≤100000→d.okD=true→
  ∃ r:Dt×Bool,(∀ k,2*aw d≤k→slR_1 k d n t=some r)∧r.2=rokD n t d∧(r.2=true→r.1=repD n t d)) (fun d ih hok hb hc hd=>?_) d
 have hp:=d.pos
 rw[Dt.okD_u,aA,a8] at hd
 obtain⟨R,hR⟩:=mc_ (fun a ha=>ih a ha (Dpo_ hok ha) (Dpb_ hb ha) (by have:=Dpc_ ha; omega) (hd.2 a ha))
 have N:=nR_ hok hb hd.1
 have hlen:=cl_ d
 have hgt:=gTO_ hg
 have hb':=(Dbu_ d).1 hb
 obtain⟨hgg,hgc⟩:=gTi_ hg
 obtain⟨r1,e1,e2,e3⟩:=sAs_ hn hg N.vl
 obtain⟨r2,f1,f2,f3⟩:=sAs_ hn hg N.vr
 have hnz:¬ (⟨#[]⟩:ByteArray)=n:=fun e=>by rw[← e] at hn; revert hn; decide
 have hz:sbT n t (⟨⟨#[]⟩,[]⟩:Tt)=⟨⟨#[]⟩,[]⟩:=by
  rw[sTu_]
  show(bif (true&&decide ((⟨#[]⟩:ByteArray)=n)) then _ else _)=_
  rw[decide_eq_false hnz]; rfl
 have hput:slP_6 (Sc.mk []) n t=some (one n t):=lPe_ n t (by omega)
 -- the loop over the parts, whatever stands around it
 have key:∀ (tm:Tt) (ct:Ft),∃ r:Dt×Bool,(∀ k,2*aw d≤k+1→
  (tL_ (ρ:=(Dt×Bool)) (σ:=(List Dt)) (forN (fun (i14:Nat) (s14:(List Dt))=>
   aa (idx d.Parts (i14:Int)) fun v89=>
   aa (slR_1 k v89 n t) fun v93=>
   bif v93.2 then
    aa (app s14 ([v93.1])) fun v103=>
    some (.nx v103)
   else
    some (.rt ((Dt.mk d.Rule (Sa.mk r1.1 r2.1) d.Main tm ct s14),false))) d.Parts.length 0 ([])) fun s14=>
  some ((Dt.mk d.Rule (Sa.mk r1.1 r2.1) d.Main tm ct s14),true))=some r)∧r.2=d.Parts.all (rokD n t)∧(r.2=true→r.1=.mk d.Rule (Sa.mk r1.1 r2.1) d.Main tm ct (d.Parts.map (repD n t))):=by
  intro tm ct
  have cg:∀ k,2*aw d≤k+1→forL (ρ:=Dt×Bool) (fun (i14:Nat) (v89:Dt) (s14:(List Dt))=>
   aa (slR_1 k v89 n t) fun v93=>
   bif v93.2 then
    aa (app s14 ([v93.1])) fun v103=>
    some (.nx v103)
   else
    some (.rt ((Dt.mk d.Rule (Sa.mk r1.1 r2.1) d.Main tm ct s14),false))) d.Parts 0 []=
   forL (fun _ a (s:List Dt)=>((fun a=>some (R a)) a).bind fun v=>bif v.2 then(app s [v.1]).bind fun w=>some (.nx w) else some (.rt ((fun s=>(Dt.mk d.Rule (Sa.mk r1.1 r2.1) d.Main tm ct s,false)) s))) d.Parts 0 []:=fun k hk=>by
   refine fLc_ d.Parts 0 [] (fun j a s ha=>?_)
   have ha:=List.mem_of_getElem? ha
   have:=Dt.lt ha
   rw[(hR a ha).1 k (by omega)]
  simp only[fNi_]
  rcases tl_ (fun a=>some (R a)) (rokD n t) (repD n t) (fun s=>(Dt.mk d.Rule (Sa.mk r1.1 r2.1) d.Main tm ct s,false)) d.Parts 0 [] (fun a ha=>⟨R a,rfl,(hR a ha).2⟩) (by simp; omega) with⟨h1,h2⟩ | ⟨h1,s',h2⟩
  ·refine⟨(.mk d.Rule (Sa.mk r1.1 r2.1) d.Main tm ct (d.Parts.map (repD n t)),true),fun k hk=>?_,h1.symm,fun _=>rfl⟩
   rw[cg k hk,h2,tLi_,bG]
  ·refine⟨(.mk d.Rule (Sa.mk r1.1 r2.1) d.Main tm ct s',false),fun k hk=>?_,h1.symm,fun h=>(nomatch h)⟩
   rw[cg k hk,h2,tLi_1]
 rw[rDu_,rDu_1,← e2,← f2]
 have no:∀ (b:Bool) (X:Dt),b=false→(∀ k,2*aw d≤k→slR_1 k d n t=some (.mk d.Rule ⟨r1.1,r2.1⟩ d.Main ⟨⟨#[]⟩,[]⟩ ⟨0,⟨⟨#[]⟩,[]⟩,⟨#[]⟩,[]⟩ [],false))→
  ∃ r:Dt×Bool,(∀ k,2*aw d≤k→slR_1 k d n t=some r)∧r.2=b∧(r.2=true→r.1=X):=fun b X hb h=>⟨_,h,hb.symm,fun h=>(nomatch h)⟩
 cases c1:r1.2
 ·refine no _ _ rfl (fun k hk=>?_)
  cases k with
  | zero=>omega
  | succ k=>rw[slR_1,e1,f1,ak,ak,c1]; rfl
 cases c2:r2.2
 ·refine no _ _ rfl (fun k hk=>?_)
  cases k with
  | zero=>omega
  | succ k=>rw[slR_1,e1,f1,ak,ak,c1,c2]; rfl
 rw[← e3 c1,← f3 c2]
 by_cases h15:d.Rule=15
 ·obtain⟨r3,g1,g2,g3⟩:=ss_ hn hg (N.cut15 h15)
  rw[decide_eq_true h15,cond_true,cond_true,← g2]
  have htm:d.Term=⟨⟨#[]⟩,[]⟩:=by
   rcases N.term with⟨h,_⟩ | ⟨_,h⟩
   ·rw[h15] at h; cases h
   ·exact h
  have hq:inR d.Rule 11 14=false:=by rw[h15]; rfl
  cases c3:r3.2
  ·refine no _ _ rfl (fun k hk=>?_)
   cases k with
   | zero=>omega
   | succ k=>rw[slR_1,e1,f1,ak,ak,c1,c2,decide_eq_true h15,cond_true,cond_true,cond_true,g1,ak,c3]; rfl
  ·obtain⟨r,k1,k2,k3⟩:=key ⟨⟨#[]⟩,[]⟩ r3.1
   refine⟨r,fun k hk=>?_,k2,fun h=>?_⟩
   ·cases k with
    | zero=>omega
    | succ k=>rw[slR_1,e1,f1,ak,ak,c1,c2,decide_eq_true h15,cond_true,cond_true,cond_true,g1,ak,c3,cond_true,lIe_,ak,hq,cond_false,k1 k (by omega)]
   ·rw[k3 h,htm,hz,g3 c3]
 ·rw[decide_eq_false h15,cond_false,cond_false]
  rcases N.term with⟨hq,ht⟩ | ⟨hq,ht⟩
  ·obtain⟨tg,_⟩:=gTi_ ht
   obtain⟨r,k1,k2,k3⟩:=key (sbT n t d.Term) ⟨0,⟨⟨#[]⟩,[]⟩,⟨#[]⟩,[]⟩
   have happ:slA_1 (one n t) d.Term=some (sbT n t d.Term):=le_ ⟨_,lAN_ hn (by omega) hgg d.Term (gTO_ ht).2 tg⟩
   refine⟨r,fun k hk=>?_,k2,fun h=>k3 h⟩
   cases k with
   | zero=>omega
   | succ k=>rw[slR_1,e1,f1,ak,ak,c1,c2,decide_eq_false h15,cond_true,cond_true,cond_false,lIe_,ak,hq,cond_true,hput,ak,happ,ak,k1 k (by omega)]
  ·obtain⟨r,k1,k2,k3⟩:=key ⟨⟨#[]⟩,[]⟩ ⟨0,⟨⟨#[]⟩,[]⟩,⟨#[]⟩,[]⟩
   refine⟨r,fun k hk=>?_,k2,fun h=>?_⟩
   ·cases k with
    | zero=>omega
    | succ k=>rw[slR_1,e1,f1,ak,ak,c1,c2,decide_eq_false h15,cond_true,cond_true,cond_false,lIe_,ak,hq,cond_false,k1 k (by omega)]
   ·rw[k3 h,ht,hz]
end
end
section
theorem fe_{ρ:Type}(N:Nat)(b:Bool)(f:List Bool→Option (Flow ρ (List Bool)))(hN:N≤1000)(hf:∀ s,f s=bif decide ((s.length:Int)<(N:Int)) then aa (app s [b]) fun v=>some (.nx v) else some (.br s)):
 ∀ (k:Nat) (s:List Bool),s.length+k=N→Ev (fun n=>whileN f n s) (.inr (s++List.replicate k b))
 | 0,s,h=>by
  have:=eb_ (f:=f) (s:=s) (s':=s) (by rw[hf,decide_eq_false (by omega)]; rfl)
  simpa using this
 | k+1,s,h=>by
  have e:app s [b]=some (s++[b]):=by unfold app; rw[if_pos (by simp only[aK,aU]; omega)]
  have:=fe_ N b f hN hf k (s++[b]) (by simp only[aS,aK,aU]; omega)
  rw[List.append_assoc] at this
  exact en_1 (s':=s++[b]) (by rw[hf,decide_eq_true (by omega),cond_true,e]; rfl) this
theorem fill{ρ:Type}{N:Nat}{b:Bool}{f:List Bool→Option (Flow ρ (List Bool))}{s:List Bool}(hN:N≤1000)(hs:s.length≤N)(hf:∀ s,f s=bif decide ((s.length:Int)<(N:Int)) then aa (app s [b]) fun v=>some (.nx v) else some (.br s)):
 (lim fun n=>whileN f n s)=some (.inr (s++List.replicate (N-s.length) b)):=le_ (fe_ N b f hN hf (N-s.length) s (by omega))
theorem re_3{d:Dt}(h:d.Rule≠1∧d.Rule≠2)(hr:inR d.Rule 1 15=true)(left:Bool):slR_2 d left=some (remI d left):=by
 unfold slR_2 remI s_
 rw[decide_eq_false h.1,decide_eq_false h.2,oLe_,cond_false,cond_false,ak]
 cases decide (d.Rule=11)<;>cases decide (d.Rule=14)<;>cases decide (d.Rule=15)<;>cases (mOn d.Rule).1<;>cases left<;>rfl
structure Fit(d:Dt)(l r:List Bool):Prop where
 ok:d.Ok
 tot:d.tot≤1048576
 good:d.okD=true
 left:l.length=d.Sequent.Left.length
 right:r.length=d.Sequent.Right.length
end
section
theorem bm_{d:Dt}(hb:d.bd):Mod d.Sequent.Left∧Mod d.Sequent.Right:=by
 have hu:=(Dbu_ d).1 hb
 have hs:ltot aP d.Sequent.Left+ltot aP d.Sequent.Right≤1048576:=hu.1
 exact⟨⟨fun f hf=>by have:=tm_ aP hf; omega,by have:=ll_ aP d.Sequent.Left; omega⟩,⟨fun f hf=>by have:=tm_ aP hf; omega,by have:=ll_ aP d.Sequent.Right; omega⟩⟩
theorem cD_1(d:Dt):d.bd→d.cnt≤100000→∀ k,2*aw d≤k→icD_ k d=some d:=by
 refine Dt.ind' (M:=fun d=>d.bd→d.cnt≤100000→∀ k,2*aw d≤k→icD_ k d=some d) (fun d ih hb hc k hk=>?_) d
 have hp:=d.pos
 have hlen:=cl_ d
 have hu:=(Dbu_ d).1 hb
 obtain⟨ml,mr⟩:=bm_ hb
 cases k with
 | zero=>omega
 | succ k=>
  rw[icD_,cS_1 ml mr,cT_ _ (cot_ hu.2.1),cF_1 _ hu.2.2.1]
  simp only[ak,fNi_]
  rw[mapL (f:=icD_ k) (g:=fun x=>x) d.Parts 0 [] (fun p hp=>ih p hp (Dpb_ hb hp) (by have:=Dpc_ hp; omega) k (by have:=Dt.lt hp; omega)) (by simp; omega),tLi_]
  simp only[bG,List.map_id']
  exact congrArg some (by cases d; rfl)
theorem cD_{d:Dt}(hb:d.bd)(hc:d.cnt≤100000):icD_1 d=some d:=le_ ⟨_,cD_1 d hb hc⟩
theorem setP{α ρ:Type}(f:α→Option α)(g:α→α):∀ (xs pre:List α),(∀ x∈xs,f x=some (g x))→
 forL (ρ:=ρ) (fun i v s=>(f v).bind fun w=>(idx s (i:Int)).bind fun _=>(idx s (i:Int)).bind fun _=>some (.nx (s.set (i:Int).toNat w))) xs pre.length (pre++xs)=some (.inr (pre++xs.map g))
 | [],pre,_=>by simp[forL]
 | x::xs,pre,h=>by
  have hx:=h x (by simp)
  have e:(pre++x::xs)[pre.length]?=some x:=by simp
  rw[fLn_ (s':=(pre++[g x])++xs) (by
   rw[hx,ak,in_,e,ak,ak,Int.toNat_natCast]
   simp)]
  have:=setP (ρ:=ρ) f g xs (pre++[g x]) (fun y hy=>h y (by simp[hy]))
  simp only[aS,aK,aU,Nat.zero_add] at this
  rw[this]; simp
def hit(i:Int)(k:Nat):Nat:=if 0≤i∧i<(k:Int) then 1 else 0
theorem dIl_1{α:Type}:∀ (l:List α) (i:Int),(dI_ l i).length+hit i l.length=l.length
 | [],i=>by unfold hit; rw[if_neg (by simp)]; rfl
 | a::l,i=>by
  rw[dI_]
  by_cases h:i=0
  ·rw[if_pos h]; unfold hit; rw[if_pos (by simp; omega)]; rfl
  ·rw[if_neg h]
   have:=dIl_1 l (i-1)
   have e:hit (i-1) l.length=hit i (a::l).length:=by
    unfold hit
    simp only[aK]
    by_cases h2:0≤i-1∧i-1<(l.length:Int)
    ·rw[if_pos h2,if_pos (by omega)]
    ·rw[if_neg h2,if_neg (by omega)]
   rw[← e,aK,aK]; omega
def i_(d:Dt)(left:Bool)(k:Nat):Nat:=k-hit (remI d left) k
theorem il_{d:Dt}{left:Bool}{α:Type}{l:List α}{k:Nat}(h:k≤l.length):i_ d left k≤(dI_ l (remI d left)).length:=by
 have:=dIl_1 l (remI d left)
 unfold i_ hit at*
 by_cases h1:0≤remI d left∧remI d left<(k:Int)
 ·rw[if_pos h1]
  rw[if_pos (by omega)] at this; omega
 ·rw[if_neg h1]
  by_cases h2:0≤remI d left∧remI d left<(l.length:Int)
  ·rw[if_pos h2] at this; omega
  ·rw[if_neg h2] at this; omega
theorem pl_{ρ:Type}(d:Dt)(left:Bool):∀ (n k:Nat) (s:Nat),s≤1000→hit (remI d left-k) n≤s→
 forN (ρ:=ρ) (fun (i8:Nat) (s8:Int)=>aa (iDr_ d left (i8:Int)) fun v42=>bif v42 then some (.nx (IntKind.i64.wrap (s8-(1:Int)))) else some (.nx s8)) n k (s:Int)=some (.inr ((s-hit (remI d left-k) n:Nat):Int))
 | 0,k,s,_,_=>by
  have:hit (remI d left-k) 0=0:=by unfold hit; rw[if_neg (by simp)]
  rw[this]; rfl
 | n+1,k,s,hs,hh=>by
  by_cases h:(k:Int)=remI d left
  ·have e1:hit (remI d left-k) (n+1)=1:=by unfold hit; rw[if_pos (by omega)]
   have e2:hit (remI d left-((k+1:Nat):Int)) n=0:=by unfold hit; rw[if_neg (by omega)]
   rw[e1] at hh
   have w:IntKind.i64.wrap ((s:Int)-1)=((s-1:Nat):Int):=by rw[w_]<;>omega
   rw[fNn_ (s':=((s-1:Nat):Int)) (by rw[re_ d left (by omega),ak,decide_eq_true h,cond_true,w]),pl_ d left n (k+1) (s-1) (by omega) (by omega),e1,e2]; rfl
  ·have e:hit (remI d left-k) (n+1)=hit (remI d left-((k+1:Nat):Int)) n:=by
    unfold hit
    by_cases h2:0≤remI d left-k∧remI d left-k<((n+1:Nat):Int)
    ·rw[if_pos h2,if_pos (by omega)]
    ·rw[if_neg h2,if_neg (by omega)]
   rw[fNn_ (s':=(s:Int)) (by rw[re_ d left (by omega),ak,decide_eq_false h]; rfl),pl_ d left n (k+1) s hs (by omega),e]
def insL{α:Type}(l:List α)(k:Nat)(f:α):List α:=l.take k++[f]++l.drop k
def insS(s:Sa)(left:Bool)(k:Nat)(f:Ft):Sa:=bif left then⟨insL s.Left k f,s.Right⟩ else⟨s.Left,insL s.Right k f⟩
def iM_(r m:Int)(left:Bool)(k:Nat):Int:=bif decide (r=15) then m else bif (mOn r).1==left then bif decide ((k:Int)≤m) then m+1 else m else m
mutual
def wkD(f:Ft)(left:Bool):Dt→Nat→Dt
 | .mk r s m t c l,k=>.mk r (insS s left k f) (iM_ r m left k) t c (wkDs f left l (i_ (.mk r s m t c l) left k))
def wkDs(f:Ft)(left:Bool):List Dt→Nat→List Dt
 | [],_=>[]
 | a::l,k=>wkD f left a k::wkDs f left l k
end
theorem wDe_(f:Ft)(left:Bool)(k:Nat)(l:List Dt):wkDs f left l k=l.map fun p=>wkD f left p k:=by
 induction l with
 | nil=>rfl
 | cons a l ih=>rw[wkDs,ih]; rfl
theorem wDu_(f:Ft)(left:Bool)(d:Dt)(k:Nat):wkD f left d k=.mk d.Rule (insS d.Sequent left k f) (iM_ d.Rule d.Main left k) d.Term d.Cut (d.Parts.map fun p=>wkD f left p (i_ d left k)):=by
 cases d; rw[wkD,wDe_]; rfl
def side(s:Sa)(left:Bool):List Ft:=bif left then s.Left else s.Right
theorem np_{d:Dt}(hok:d.Ok)(hb:d.bd)(h:nB_ d=true):(∀ p∈d.Parts,∀ left,(dI_ (side d.Sequent left) (remI d left)).length≤(side p.Sequent left).length)∧
 (d.Rule≠15→0≤d.Main∧d.Main<11)∧((d.Rule=1∨d.Rule=2)→d.Parts=[])∧inR d.Rule 1 15=true:=by
 obtain⟨_,_,h3⟩:=nBb_ hok hb
 have N:=h3 h
 obtain⟨xs,a1,a2,a3,a4⟩:=N.rule
 obtain⟨vl,vr⟩:=vSV_ N.valid
 have b1:=vl.len
 have b2:=vr.len
 refine⟨fun p hp left=>?_,fun h15=>?_,fun hr=>?_,ar_ a1⟩
 ·have hm:p.Sequent∈xs.map (prem d.Sequent d):=by rw[← a4]; exact List.mem_map_of_mem hp
  obtain⟨x,_,ex⟩:=List.mem_map.1 hm
  rw[← ex]
  cases left
  ·show _≤(dI_ d.Sequent.Right (remI d false)++x.Right).length
   rw[aS]; exact Nat.le_add_right _ _
  ·show _≤(dI_ d.Sequent.Left (remI d true)++x.Left).length
   rw[aS]; exact Nat.le_add_right _ _
 ·have hm:=am_1 a1 h15 (by omega) (by omega)
  revert hm
  cases (mOn d.Rule).1<;>simp only[cond_true,cond_false]<;>omega
 ·have hx:=al_2 a1 hr
  rw[hx] at a4
  exact List.map_eq_nil_iff.1 a4
theorem iMw_{d:Dt}{left:Bool}{k:Nat}(h:d.Rule≠15→0≤d.Main∧d.Main<11)(h15:d.Rule≠15):IntKind.i64.wrap (d.Main+1)=d.Main+1:=by
 have:=h h15
 rw[w_]<;>omega
theorem zDt_:(⟨0,⟨[],[]⟩,0,⟨⟨#[]⟩,[]⟩,⟨0,⟨⟨#[]⟩,[]⟩,⟨#[]⟩,[]⟩,[]⟩:Dt).tot≤13000000:=by
 rw[Dt.tot_u]; show 0+((⟨⟨#[]⟩,[]⟩:Tt).tot+((⟨0,⟨⟨#[]⟩,[]⟩,⟨#[]⟩,[]⟩:Ft).tot+0))≤_
 rw[zFt_,zTt_]; omega
section
variable{f:Ft}{left:Bool}
theorem wi_2(hf:vF_ f=true)(d:Dt):d.Ok→d.bd→d.cnt≤100000→d.okD=true→∀ k:Nat,k≤(side d.Sequent left).length→∀ n,2*aw d≤n→iwN_ n d f left (k:Int)=some (wkD f left d k):=by
 refine Dt.ind' (M:=fun d=>d.Ok→d.bd→d.cnt≤100000→d.okD=true→∀ k:Nat,k≤(side d.Sequent left).length→∀ n,2*aw d≤n→iwN_ n d f left (k:Int)=some (wkD f left d k)) (fun d ih hok hb hc hd k hk n hn=>?_) d
 have hp:=d.pos
 rw[Dt.okD_u,aA,a8] at hd
 obtain⟨np,nm,_,_⟩:=np_ hok hb hd.1
 have N:=nR_ hok hb hd.1
 have b1:=N.vl.len
 have b2:=N.vr.len
 have hk10:k≤10:=by revert hk; unfold side; cases left<;>simp only[cond_true,cond_false]<;>omega
 cases n with
 | zero=>omega
 | succ n=>
  have P:∀ p∈d.Parts,iwN_ n p f left ((i_ d left k:Nat):Int)=some (wkD f left p (i_ d left k)):=fun p hp=>
   ih p hp (Dpo_ hok hp) (Dpb_ hb hp) (by have:=Dpc_ hp; omega) (hd.2 p hp) (i_ d left k) (Nat.le_trans (il_ hk) (np p hp left)) n (by have:=Dt.lt hp; omega)
  have lp:forL (ρ:=Dt) (fun i v s=>(iwN_ n v f left ((i_ d left k:Nat):Int)).bind fun w=>(idx s (i:Int)).bind fun _=>(idx s (i:Int)).bind fun _=>some (.nx (s.set (i:Int).toNat w))) d.Parts 0 d.Parts=some (.inr (d.Parts.map fun p=>wkD f left p (i_ d left k))):=by
   have:=setP (ρ:=Dt) (fun p=>iwN_ n p f left ((i_ d left k:Nat):Int)) (fun p=>wkD f left p (i_ d left k)) d.Parts [] P
   simpa using this
  have pl:forN (ρ:=Dt) (fun (i8:Nat) (s8:Int)=>aa (iDr_ d left (i8:Int)) fun v42=>bif v42 then some (.nx (IntKind.i64.wrap (s8-(1:Int)))) else some (.nx s8)) k 0 (k:Int)=some (.inr ((i_ d left k:Nat):Int)):=by
   have:=pl_ (ρ:=Dt) d left k 0 k (by omega) (by unfold hit; split<;>omega)
   rw[show remI d left-((0:Nat):Int)=remI d left from Int.sub_zero _] at this
   exact this
  have hins:∀ l:List Ft,l.length≤10→k≤l.length→sIF_3 l (k:Int) [f]=some (insL l k f):=fun l h1 h2=>by
   unfold sIF_3
   rw[if_pos ⟨by omega,by omega,rfl,by omega⟩]; rfl
  rw[iwN_,cD_ hb hc,ak,cF_1 f (by have:=vFt_ hf; omega),bn_ (by simp only[Big]; omega),mOe_,wDu_]
  simp only[ak,fNi_]
  cases left
  ·rw[cond_false,hins d.Sequent.Right b2 hk,ak,pl,tLi_]
   unfold iM_
   by_cases h15:d.Rule=15
   ·rw[decide_eq_true h15,cond_true,cond_true,lp]; rfl
   ·rw[decide_eq_false h15,cond_false,cond_false,iMw_ (left:=false) (k:=k) nm h15]
    cases (mOn d.Rule).1==false
    ·rw[cond_false,cond_false,lp]; rfl
    ·rw[cond_true,cond_true]
     cases decide ((k:Int)≤d.Main)
     ·rw[cond_false,cond_false,lp]; rfl
     ·rw[cond_true,cond_true,lp]; rfl
  ·rw[cond_true,hins d.Sequent.Left b1 hk,ak,pl,tLi_]
   unfold iM_
   by_cases h15:d.Rule=15
   ·rw[decide_eq_true h15,cond_true,cond_true,lp]; rfl
   ·rw[decide_eq_false h15,cond_false,cond_false,iMw_ (left:=true) (k:=k) nm h15]
    cases (mOn d.Rule).1==true
    ·rw[cond_false,cond_false,lp]; rfl
    ·rw[cond_true,cond_true]
     cases decide ((k:Int)≤d.Main)
     ·rw[cond_false,cond_false,lp]; rfl
     ·rw[cond_true,cond_true,lp]; rfl
theorem ws_3(hf:vF_ f=true)(d:Dt):d.Ok→d.bd→d.cnt≤100000→d.okD=true→∀ k:Nat,k≤(side d.Sequent left).length→∀ n,2*aw d≤n→slI_ n d f left (k:Int)=some (wkD f left d k):=by
 refine Dt.ind' (M:=fun d=>d.Ok→d.bd→d.cnt≤100000→d.okD=true→∀ k:Nat,k≤(side d.Sequent left).length→∀ n,2*aw d≤n→slI_ n d f left (k:Int)=some (wkD f left d k)) (fun d ih hok hb hc hd k hk n hn=>?_) d
 have hp:=d.pos
 have hlen:=cl_ d
 have hu:=(Dbu_ d).1 hb
 rw[Dt.okD_u,aA,a8] at hd
 obtain⟨np,nm,nl,nr⟩:=np_ hok hb hd.1
 have N:=nR_ hok hb hd.1
 have b1:=N.vl.len
 have b2:=N.vr.len
 obtain⟨ml,mr⟩:=bm_ hb
 have m0:Mod []:=(Vl.nil 0).mod (by omega)
 have hk10:k≤10:=by revert hk; unfold side; cases left<;>simp only[cond_true,cond_false]<;>omega
 cases n with
 | zero=>omega
 | succ n=>
  obtain⟨v,v1,v2⟩:∃ v,slR_2 d left=some v∧(d.Parts=[]∨v=remI d left):=by
   by_cases h1:d.Rule=1
   ·exact⟨-1,by unfold slR_2; rw[decide_eq_true h1]; rfl,.inl (nl (.inl h1))⟩
   by_cases h2:d.Rule=2
   ·exact⟨-1,by unfold slR_2; rw[decide_eq_false h1,decide_eq_true h2]; rfl,.inl (nl (.inr h2))⟩
   ·exact⟨_,re_3 ⟨h1,h2⟩ nr left,.inr rfl⟩
  have P:∀ p∈d.Parts,slI_ n p f left ((i_ d left k:Nat):Int)=some (wkD f left p (i_ d left k)):=fun p hp=>
   ih p hp (Dpo_ hok hp) (Dpb_ hb hp) (by have:=Dpc_ hp; omega) (hd.2 p hp) (i_ d left k) (Nat.le_trans (il_ hk) (np p hp left)) n (by have:=Dt.lt hp; omega)
  have lp:∀ Z:Int,(d.Parts=[]∨Z=((i_ d left k:Nat):Int))→forL (ρ:=Dt) (fun _ p (s:List Dt)=>(slI_ n p f left Z).bind fun v=>(app s [v]).bind fun w=>some (.nx w)) d.Parts 0 []=some (.inr (d.Parts.map fun p=>wkD f left p (i_ d left k))):=by
   intro Z hZ
   rcases hZ with h | rfl
   ·rw[h]; rfl
   ·rw[mapL (f:=fun p=>slI_ n p f left ((i_ d left k:Nat):Int)) (g:=fun p=>wkD f left p (i_ d left k)) d.Parts 0 [] P (by simp; omega),bG]
  have z1:decide ((0:Int)≤v)=true→decide (v<(k:Int))=true→(d.Parts=[]∨IntKind.i64.wrap ((k:Int)-1)=((i_ d left k:Nat):Int)):=fun h1 h2=>by
   rw[decide_eq_true_eq] at h1 h2
   rcases v2 with h | rfl
   ·exact .inl h
   ·have:i_ d left k=k-1:=by unfold i_ hit; rw[if_pos ⟨h1,h2⟩]
    rw[this,w_]<;>omega
  have z2:(decide ((0:Int)≤v)=false∨decide (v<(k:Int))=false)→(d.Parts=[]∨(k:Int)=((i_ d left k:Nat):Int)):=fun h=>by
   rcases v2 with h2 | rfl
   ·exact .inl h2
   ·have:i_ d left k=k:=by
     unfold i_ hit
     rw[if_neg (by simp only[decide_eq_false_iff_not] at h; omega)]; rfl
    rw[this]; exact .inr rfl
  have s1:∀ l:List Ft,k≤l.length→slc l (0:Int) (k:Int)=some (l.take k):=fun l h=>by
   unfold slc; rw[if_pos ⟨by omega,by omega,by omega⟩]; rfl
  have s2:∀ l:List Ft,k≤l.length→slc l (k:Int) (l.length:Int)=some (l.drop k):=fun l h=>by
   unfold slc; rw[if_pos ⟨by omega,by omega,by omega⟩]
   simp only[Int.toNat_natCast,List.take_length]
  have ap:∀ l m:List Ft,l.length≤100→m.length≤100→app l m=some (l++m):=fun l m h1 h2=>by unfold app; rw[if_pos (by omega)]
  have key:∀ (S:Sa) (M:Int),(bif decide ((0:Int)≤v) then
   bif decide (v<(k:Int)) then
    tL_ (ρ:=Dt) (σ:=(List Dt)) (forL (fun _ p (s:List Dt)=>(slI_ n p f left (IntKind.i64.wrap ((k:Int)-(1:Int)))).bind fun v=>(app s [v]).bind fun w=>some (.nx w)) d.Parts 0 []) fun s16=>some (Dt.mk d.Rule S M d.Term d.Cut s16)
   else tL_ (ρ:=Dt) (σ:=(List Dt)) (forL (fun _ p (s:List Dt)=>(slI_ n p f left (k:Int)).bind fun v=>(app s [v]).bind fun w=>some (.nx w)) d.Parts 0 []) fun s16=>some (Dt.mk d.Rule S M d.Term d.Cut s16)
   else tL_ (ρ:=Dt) (σ:=(List Dt)) (forL (fun _ p (s:List Dt)=>(slI_ n p f left (k:Int)).bind fun v=>(app s [v]).bind fun w=>some (.nx w)) d.Parts 0 []) fun s16=>some (Dt.mk d.Rule S M d.Term d.Cut s16))=
   some (.mk d.Rule S M d.Term d.Cut (d.Parts.map fun p=>wkD f left p (i_ d left k))):=by
   intro S M
   cases c1:decide ((0:Int)≤v)
   ·rw[cond_false,lp _ (z2 (.inl c1)),tLi_]
   ·cases c2:decide (v<(k:Int))
    ·rw[cond_true,cond_false,lp _ (z2 (.inr c2)),tLi_]
    ·rw[cond_true,cond_true,lp _ (z1 c1 c2),tLi_]
  have nx0:nx d.Sequent (-1) [] (-1) []=d.Sequent:=by
   unfold nx
   rw[dIn_ _ _ (by omega),dIn_ _ _ (by omega),bw,bw]
  rw[slI_,ownT _ (cot_ hu.2.1),ownF _ hu.2.2.1,sn_ (-1) (-1) ml mr m0 m0,nx0,v1,oLe_,ownF f (by have:=vFt_ hf; omega),wDu_]
  simp only[ak,fNi_]
  cases left
  ·have l1:(d.Sequent.Right.take k).length≤10:=by rw[List.length_take]; omega
   have l2:(d.Sequent.Right.drop k).length≤10:=by rw[List.length_drop]; omega
   rw[cond_false,s1 d.Sequent.Right hk,ak,ap [] _ (by simp) (by omega),ak,ap _ [f] (by simp; omega) (by simp),ak,s2 d.Sequent.Right hk,ak,ap _ _ (by simp; omega) (by omega),ak]
   unfold iM_
   by_cases h15:d.Rule=15
   ·rw[decide_eq_true h15,cond_true,cond_true,key]; rfl
   ·rw[decide_eq_false h15,cond_false,cond_false,iMw_ (left:=false) (k:=k) nm h15]
    cases (mOn d.Rule).1==false
    ·rw[cond_false,cond_false,key]; rfl
    ·rw[cond_true,cond_true]
     cases decide ((k:Int)≤d.Main)
     ·rw[cond_false,cond_false,key]; rfl
     ·rw[cond_true,cond_true,key]; rfl
  ·have l1:(d.Sequent.Left.take k).length≤10:=by rw[List.length_take]; omega
   have l2:(d.Sequent.Left.drop k).length≤10:=by rw[List.length_drop]; omega
   rw[cond_true,s1 d.Sequent.Left hk,ak,ap [] _ (by simp) (by omega),ak,ap _ [f] (by simp; omega) (by simp),ak,s2 d.Sequent.Left hk,ak,ap _ _ (by simp; omega) (by omega),ak]
   unfold iM_
   by_cases h15:d.Rule=15
   ·rw[decide_eq_true h15,cond_true,cond_true,key]; rfl
   ·rw[decide_eq_false h15,cond_false,cond_false,iMw_ (left:=true) (k:=k) nm h15]
    cases (mOn d.Rule).1==true
    ·rw[cond_false,cond_false,key]; rfl
    ·rw[cond_true,cond_true]
     cases decide ((k:Int)≤d.Main)
     ·rw[cond_false,cond_false,key]; rfl
     ·rw[cond_true,cond_true,key]; rfl
theorem wc_(d:Dt):∀ k,(wkD f left d k).cnt=d.cnt:=by
 refine Dt.ind' (M:=fun d=>∀ k,(wkD f left d k).cnt=d.cnt) (fun d ih k=>?_) d
 rw[Dt.cnt_u,Dt.cnt_u d,wDu_]
 show 1+((d.Parts.map fun p=>wkD f left p (i_ d left k)).map Dt.cnt).sum=_
 rw[List.map_map,show(d.Parts.map (Dt.cnt∘fun p=>wkD f left p (i_ d left k)))=d.Parts.map Dt.cnt from List.map_congr_left fun a ha=>ih a ha _]
theorem iV_(hf:vF_ f=true){l:List Ft}(hl:Vl l 10)(k:Nat):Vl (insL l k f) 11:=
 ⟨fun g hg=>by
  unfold insL at hg
  simp only[List.mem_append,List.mem_singleton] at hg
  rcases hg with (h | rfl) | h
  ·exact hl.val g (List.mem_of_mem_take h)
  ·exact hf
  ·exact hl.val g (List.mem_of_mem_drop h),by
  have:=hl.len
  unfold insL
  simp only[aS,List.length_take,List.length_drop,aK,aU]; omega⟩
theorem wf_(hf:vF_ f=true)(d:Dt):d.Ok→d.bd→d.okD=true→∀ k,(wkD f left d k).Ok∧(wkD f left d k).bd∧(wkD f left d k).tot+1≤210000*d.cnt:=by
 refine Dt.ind' (M:=fun d=>d.Ok→d.bd→d.okD=true→∀ k,(wkD f left d k).Ok∧(wkD f left d k).bd∧(wkD f left d k).tot+1≤210000*d.cnt) (fun d ih hok hb hd k=>?_) d
 rw[Dt.okD_u,aA,a8] at hd
 have N:=nR_ hok hb hd.1
 obtain⟨_,nm,_,_⟩:=np_ hok hb hd.1
 have hu:=hok.u
 have hb':=(Dbu_ d).1 hb
 have S:∃ L R:List Ft,insS d.Sequent left k f=⟨L,R⟩∧Vl L 11∧Vl R 11:=by
  unfold insS
  cases left
  ·exact⟨_,_,rfl,⟨N.vl.val,by have:=N.vl.len; omega⟩,iV_ hf N.vr k⟩
  ·exact⟨_,_,rfl,iV_ hf N.vl k,⟨N.vr.val,by have:=N.vr.len; omega⟩⟩
 obtain⟨L,R,eS,vl,vr⟩:=S
 obtain⟨s1,s2⟩:=Vl.seq vl vr (by omega) (by omega)
 have s3:=vl.sum
 have s4:=vr.sum
 have P:=fun p hp=>ih p hp (Dpo_ hok hp) (Dpb_ hb hp) (hd.2 p hp) (i_ d left k)
 have tm:d.Term.tot≤210:=by
  rcases N.term with⟨_,h⟩ | ⟨_,h⟩
  ·exact(gTO_ h).1
  ·rw[h,zTt_]; omega
 have ct:d.Cut.tot≤8800:=by
  by_cases h15:d.Rule=15
  ·exact vFt_ (N.cut15 h15)
  ·rw[N.cut0 h15,zFt_]; omega
 have hM:InR (iM_ d.Rule d.Main left k):=by
  unfold iM_
  by_cases h15:d.Rule=15
  ·rw[decide_eq_true h15]; exact hu.2.2.1
  ·rw[decide_eq_false h15]
   have:=nm h15
   unfold InR
   cases (mOn d.Rule).1==left<;>cases decide ((k:Int)≤d.Main)<;>simp only[cond_true,cond_false]<;>omega
 have tl:=d_ (g:=fun p=>wkD f left p (i_ d left k)) (c:=210000) d.Parts (fun p hp=>(P p hp).2.2)
 rw[wDu_,eS]
 refine⟨Dt.Ok.mk _ _ _ _ _ _ hu.1 s1 hM hu.2.2.2.1 hu.2.2.2.2.1 (by rw[aB]; exact hu.2.2.2.2.2.1) (fun a ha=>?_),?_,?_⟩
 ·obtain⟨p,hp,rfl⟩:=List.mem_map.1 ha
  exact(P p hp).1
 ·rw[Dbu_]
  refine⟨s2,hb'.2.1,hb'.2.2.1,fun a ha=>?_⟩
  obtain⟨p,hp,rfl⟩:=List.mem_map.1 ha
  exact(P p hp).2.1
 ·rw[Dt.tot_u,Dt.cnt_u]
  show ltot aP L+ltot aP R+(d.Term.tot+(d.Cut.tot+ltot Dt.tot (d.Parts.map fun p=>wkD f left p (i_ d left k))))+1≤_
  rw[Nat.mul_add]; omega
end
end
section
def zN:Tt:=⟨⟨#[122,101,114,111]⟩,[]⟩
def sN(n:ByteArray):Tt:=⟨⟨#[115]⟩,[⟨n,[]⟩]⟩
theorem zNg_:gT_ zN=true:=by rfl
theorem sNg_{n:ByteArray}(h:iVS_ n=true):gT_ (sN n)=true:=by
 have h1:(⟨n,[]⟩:Tt).good=true:=by rw[Tt.good_u]; show(bif iVS_ n then true else _)=true; rw[h]; rfl
 have h2:(sN n).good=true:=by
  rw[Tt.good_u]
  show(bif iVS_ ⟨#[115]⟩ then false else(iSS_ ⟨#[115]⟩&&true&&([⟨n,[]⟩]:List Tt).all Tt.good))=true
  rw[show iVS_ ⟨#[115]⟩=false from rfl,show iSS_ ⟨#[115]⟩=true from rfl,bI,h1]; rfl
 have hz:(⟨n,[]⟩:Tt).cnt=1:=by rw[Tcm_]; rfl
 have hd:(⟨n,[]⟩:Tt).dep=1:=by rw[Tdm_]; rfl
 unfold gT_ sT_
 rw[h2,show(sN n).cnt=2 from by unfold sN; rw[Tcm_]; simp[hz],show(sN n).dep=2 from by unfold sN; rw[Tdm_]; simp[Td_,hd]]
 rfl
theorem zTt_1:(⟨⟨#[]⟩,[]⟩:Tt).tot=0:=by rw[Tt.tot_u]; rfl
theorem zTO_:(⟨⟨#[]⟩,[]⟩:Tt).Ok:=Tt.Ok_of _ (by rw[Tt.tot_u]; exact Nat.le_of_ble_eq_true rfl)
end
section
theorem so_1(l:List Ft)(g:Ft):same l [g]=(decide (l.length=1)&&same (l.getD 0 default) g):=by
 by_cases h:l.length=1
 ·match l,h with
  | [x],_=>
   rw[Bool.eq_iff_iff,si_]
   simp[si_]
 ·rw[sl_1 (show ¬ l.length=[g].length by simpa using h),decide_eq_false h]; rfl
theorem iOe_{s:Sb}{l:List Ft}{t:Tt}(hof:s.Formula.Ok)(hf:s.Formula.tot≤1048576)(hnb:Big s.Var.size)(hot:t.Ok)(ht:t.tot≤1048576):
 iSi_ s l t=some (subst s.Formula s.Var t&&same l [s.Formula.sub s.Var t]):=by
 unfold iSi_
 rw[SFe_ hof hf hnb hot ht,ak,so_1]
 cases subst s.Formula s.Var t
 ·rfl
 ·by_cases h:l.length=1
  ·have e:idx l (0:Int)=some (l.getD 0 default):=igD_ (i:=0) (by omega)
   rw[decide_eq_true h,cond_true,cond_true,decide_eq_true (show(l.length:Int)=1 by omega),cond_true,e,ak,sFo_]; rfl
  ·rw[decide_eq_false h,cond_true,cond_true,decide_eq_false (show ¬ (l.length:Int)=1 by omega)]; rfl
theorem iNI_{l:List Ft}(hl:Vl l 10)(x:ByteArray):iiN_1 x l=some (!fvS ⟨l,[]⟩ x):=by
 have key:sCF_ l (fun y0=>iiN_ y0 x)=some (l.any fun f=>f.fv x):=by
  refine cF_ l (fun f hf=>?_)
  obtain⟨h1,h2⟩:=vFi_ (hl.val f hf)
  obtain⟨v,e,hv⟩:=fi_ h2 (by omega)
  unfold iiN_
  rw[e,ak,ChV_,ak,hv]
 unfold iiN_1 fvS
 rw[key,ak,show(⟨l,[]⟩:Sa).Right.any (fun f=>f.fv x)=false from rfl,Bool.or_false]
noncomputable def schB(s:Sb):Bool:=
 iVS_ s.Var&&(vF_ s.Formula&&(vD_ s.Base&&(vD_ s.Step&&((subst s.Formula s.Var zN&&same s.Base.Sequent.Right [s.Formula.sub s.Var zN])&&
  ((subst s.Formula s.Var (sN s.Var)&&same s.Step.Sequent.Right [s.Formula.sub s.Var (sN s.Var)])&&(same s.Step.Sequent.Left (s.Base.Sequent.Left++[s.Formula])&&!fvS ⟨s.Base.Sequent.Left,[]⟩ s.Var))))))
theorem vDV_{d:Dt}(hok:d.Ok)(ht:d.tot≤1048576)(h:vD_ d=true):Vl d.Sequent.Left 10∧Vl d.Sequent.Right 10:=by
 unfold vD_ at h
 rw[aA,Dt.okD_u,aA] at h
 obtain⟨_,_,h3⟩:=nBe_ hok ht
 exact vSV_ (h3 h.2.1).valid
theorem sb_(s:Sb)(hok:s.Ok)(ht:s.tot≤1048576):iIV_9 s=some (schB s)∧slG_4 s=some (schB s):=by
 obtain⟨o1,o2,o3,o4⟩:=hok
 unfold Sb.tot at ht
 have t1:s.Formula.tot≤1048576:=by omega
 unfold iIV_9 slG_4 schB
 rw[iVe_ _ o1,lVe_ _ o1,vFi_1 _ t1 o2,vFs_ _ t1 o2,vDi_1 _ o3 (by omega),vDs_1 _ o3 (by omega),vDi_1 _ o4 (by omega),vDs_1 _ o4 (by omega)]
 simp only[ak]
 cases hn:iVS_ s.Var
 ·exact⟨rfl,rfl⟩
 cases hv:vF_ s.Formula
 ·exact⟨rfl,rfl⟩
 cases hb:vD_ s.Base
 ·exact⟨rfl,rfl⟩
 cases hs:vD_ s.Step
 ·exact⟨rfl,rfl⟩
 obtain⟨bl,_⟩:=vDV_ o3 (by omega) hb
 have h0:=gTO_ zNg_
 have h1:=gTO_ (sNg_ hn)
 obtain⟨v1,v2⟩:=vFi_ hv
 obtain⟨z1,z2⟩:=gTi_ zNg_
 obtain⟨y1,y2⟩:=gTi_ (sNg_ hn)
 obtain⟨r,r1,r2,r3⟩:=sp_ hn z1 h0.2 z2 o2 v2 t1 (by omega)
 obtain⟨q,q1,q2,q3⟩:=sp_ hn y1 h1.2 y2 o2 v2 t1 (by omega)
 have e1:subst s.Formula s.Var zN=r.2:=by unfold subst; rw[hv,hn,zNg_,r2]; rfl
 have e2:subst s.Formula s.Var (sN s.Var)=q.2:=by unfold subst; rw[hv,hn,sNg_ hn,q2]; rfl
 have ml:=bl.mod (by omega)
 have m1:Mod [s.Formula]:=(Vl.one hv).mod (by omega)
 have hlen:=bl.len
 obtain⟨w,w1,w2,_⟩:=ne_ (s:=⟨s.Base.Sequent.Left,[]⟩) bl (Vl.nil 10)
 have ec:sCS_3 s.Base.Sequent.Left=some s.Base.Sequent.Left:=by
  unfold sCS_3 app
  rw[if_pos (by simp only[aU]; omega)]; rfl
 have ea:app s.Base.Sequent.Left [s.Formula]=some (s.Base.Sequent.Left++[s.Formula]):=by unfold app; rw[if_pos (by simp only[aK,aU]; omega)]
 have ed:dI_ s.Base.Sequent.Left (-1)=s.Base.Sequent.Left:=dIn_ _ _ (by omega)
 simp only[cond_true,show iz_=some zN from rfl,show is_ (⟨s.Var,[]⟩:Tt)=some (sN s.Var) from rfl,show slN_3 0=some zN from rfl,show slA_4 s.Var=some (sN s.Var) from rfl,
  iOe_ o2 t1 o1 h0.2 (show zN.tot≤1048576 by omega),iOe_ o2 t1 o1 h1.2 (show(sN s.Var).tot≤1048576 by omega),r1,q1,w1,lIe_1,w2,ec,ea,sF_1,sS_2,iNI_ bl,sc_ (-1) ml m1,ed,ak,e1,e2]
 cases hr:r.2
 ·exact⟨rfl,rfl⟩
 cases hq:q.2
 ·cases same s.Base.Sequent.Right [s.Formula.sub s.Var zN]<;>exact⟨rfl,rfl⟩
 rw[r3 hr,q3 hq]
 cases same s.Base.Sequent.Right [s.Formula.sub s.Var zN]<;>cases same s.Step.Sequent.Right [s.Formula.sub s.Var (sN s.Var)]<;>cases same s.Step.Sequent.Left (s.Base.Sequent.Left++[s.Formula])<;>cases fvS ⟨s.Base.Sequent.Left,[]⟩ s.Var<;>exact⟨rfl,rfl⟩
end
section
section
variable{n:ByteArray}{t:Tt}
theorem rc_(d:Dt):(repD n t d).cnt=d.cnt:=by
 refine Dt.ind' (M:=fun d=>(repD n t d).cnt=d.cnt) (fun d ih=>?_) d
 rw[Dt.cnt_u,Dt.cnt_u d,rDu_1]
 show 1+((d.Parts.map (repD n t)).map Dt.cnt).sum=_
 rw[List.map_map,show(d.Parts.map (Dt.cnt∘repD n t))=d.Parts.map Dt.cnt from List.map_congr_left fun a ha=>ih a ha]
theorem sV_(hn:iVS_ n=true)(hg:gT_ t=true){l:List Ft}(hl:Vl l 10)(h:l.all (Ft.sok n t)=true):Vl (l.map (Ft.sub n t)) 10:=
 ⟨fun f hf=>by
  obtain⟨a,ha,rfl⟩:=List.mem_map.1 hf
  exact(sv_ (by unfold subst; rw[hl.val a ha,hn,hg,List.all_eq_true.1 h a ha]; rfl)).1,by rw[aB]; exact hl.len⟩
theorem rf_(hn:iVS_ n=true)(hg:gT_ t=true)(d:Dt):d.Ok→d.bd→d.okD=true→rokD n t d=true→
 (repD n t d).Ok∧(repD n t d).bd∧(repD n t d).tot+1≤200000*d.cnt:=by
 refine Dt.ind' (M:=fun d=>d.Ok→d.bd→d.okD=true→rokD n t d=true→
  (repD n t d).Ok∧(repD n t d).bd∧(repD n t d).tot+1≤200000*d.cnt) (fun d ih hok hb hd hr=>?_) d
 rw[Dt.okD_u,aA,a8] at hd
 rw[rDu_] at hr
 simp only[aA] at hr
 obtain⟨r1,r2,r3,r4⟩:=hr
 rw[a8] at r4
 have N:=nR_ hok hb hd.1
 have hu:=hok.u
 have vl:=sV_ hn hg N.vl r1
 have vr:=sV_ hn hg N.vr r2
 obtain⟨s1,s2⟩:=Vl.seq vl vr (by omega) (by omega)
 have s3:=vl.sum
 have s4:=vr.sum
 have P:=fun p hp=>ih p hp (Dpo_ hok hp) (Dpb_ hb hp) (hd.2 p hp) (r4 p hp)
 obtain⟨g1,g2⟩:=gTi_ hg
 have tm:(sbT n t d.Term).tot≤7000:=by
  rcases N.term with⟨_,h⟩ | ⟨_,h⟩
  ·obtain⟨h1,h2⟩:=gTi_ h
   have e1:=tt_ _ (st_2 (n:=n) (gt_ t g1) d.Term (gt_ _ h1))
   have e2:=sc_6 (n:=n) (t:=t) d.Term
   have e3:d.Term.cnt*t.cnt≤30*30:=Nat.mul_le_mul h2 g2
   omega
  ·rw[h,sTu_]
   cases (bif ([]:List Tt).isEmpty&&decide ((⟨#[]⟩:ByteArray)=n) then true else false)
   all_goals
    show(bif (true&&decide ((⟨#[]⟩:ByteArray)=n)) then t else(⟨⟨#[]⟩,[]⟩:Tt)).tot≤7000
    have:=gTO_ hg
    cases decide ((⟨#[]⟩:ByteArray)=n)
    ·show(⟨⟨#[]⟩,[]⟩:Tt).tot≤7000; rw[zTt_]; omega
    ·show t.tot≤7000; omega
 have ct:(bif decide (d.Rule=15) then d.Cut.sub n t else⟨0,⟨⟨#[]⟩,[]⟩,⟨#[]⟩,[]⟩:Ft).Ok∧(bif decide (d.Rule=15) then d.Cut.sub n t else⟨0,⟨⟨#[]⟩,[]⟩,⟨#[]⟩,[]⟩:Ft).tot≤8800:=by
  by_cases h15:d.Rule=15
  ·rw[decide_eq_true h15] at r3 ⊢
   have:=(sv_ (f:=d.Cut) (n:=n) (t:=t) (by unfold subst; rw[N.cut15 h15,hn,hg]; exact r3)).1
   exact⟨vFO_ this,vFt_ this⟩
  ·rw[decide_eq_false h15,cond_false,zFt_]
   exact⟨N.cut0 h15▸hu.2.2.2.2.1,by omega⟩
 have tl:=d_ (g:=repD n t) (c:=200000) d.Parts (fun p hp=>(P p hp).2.2)
 rw[rDu_1]
 refine⟨Dt.Ok.mk _ _ _ _ _ _ hu.1 s1 hu.2.2.1 (Tt.Ok_of _ (by omega)) ct.1 (by rw[aB]; exact hu.2.2.2.2.2.1) (fun a ha=>?_),?_,?_⟩
 ·obtain⟨p,hp,rfl⟩:=List.mem_map.1 ha
  exact(P p hp).1
 ·rw[Dbu_]
  refine⟨s2,Nat.le_trans tm (by omega),Nat.le_trans ct.2 (by omega),fun a ha=>?_⟩
  obtain⟨p,hp,rfl⟩:=List.mem_map.1 ha
  exact(P p hp).2.1
 ·rw[Dt.tot_u,Dt.cnt_u]
  show ltot aP (d.Sequent.Left.map (Ft.sub n t))+ltot aP (d.Sequent.Right.map (Ft.sub n t))+((sbT n t d.Term).tot+((bif decide (d.Rule=15) then d.Cut.sub n t else⟨0,⟨⟨#[]⟩,[]⟩,⟨#[]⟩,[]⟩:Ft).tot+ltot Dt.tot (d.Parts.map (repD n t))))+1≤_
  have:=ct.2
  rw[Nat.mul_add]; omega
end
end
section
def numU:Nat→Tt
 | 0=>Tt.mk ⟨#[122,101,114,111]⟩ []
 | n+1=>Tt.mk ⟨#[115]⟩ [numU n]
theorem nUg_(n:Nat)(h:n≤7):gT_ (numU n)=true:=by
 have:n=0∨n=1∨n=2∨n=3∨n=4∨n=5∨n=6∨n=7:=by omega
 rcases this with rfl | rfl | rfl | rfl | rfl | rfl | rfl | rfl<;>rfl
theorem nUs_(n:Nat)(h:n≤7):slN_3 (n:Int)=some (numU n):=by
 have:n=0∨n=1∨n=2∨n=3∨n=4∨n=5∨n=6∨n=7:=by omega
 rcases this with rfl | rfl | rfl | rfl | rfl | rfl | rfl | rfl<;>rfl
theorem nUi_(n:Nat)(h:n≤7):in_1 (n:Int)=some (numU n):=by
 have:n=0∨n=1∨n=2∨n=3∨n=4∨n=5∨n=6∨n=7:=by omega
 rcases this with rfl | rfl | rfl | rfl | rfl | rfl | rfl | rfl<;>rfl
def zDv:Dt:=⟨0,⟨[],[]⟩,0,⟨⟨#[]⟩,[]⟩,⟨0,⟨⟨#[]⟩,[]⟩,⟨#[]⟩,[]⟩,[]⟩
def resU:Option Dt→Dt×Bool
 | some d=>(d,true)
 | none=>(zDv,false)
structure InvD(d:Dt):Prop where
 ok:d.Ok
 bd:d.bd
 val:vD_ d=true
theorem InvD.cnt{d:Dt}(h:InvD d):d.cnt≤60∧d.okD=true:=by
 have:=h.val
 unfold vD_ at this
 rw[aA,decide_eq_true_eq] at this
 exact this
def cutU(s:Sb)(k:Nat)(d:Dt):Dt:=
 ⟨15,⟨s.Base.Sequent.Left,[s.Formula.sub s.Var (numU (k+1))]⟩,0,⟨⟨#[]⟩,[]⟩,s.Formula.sub s.Var (numU k),[wkD (s.Formula.sub s.Var (numU (k+1))) false d 0,repD s.Var (numU k) s.Step]⟩
noncomputable def sU_(s:Sb)(k:Nat)(d:Dt):Option Dt:=
 bif s.Formula.sok s.Var (numU k)&&(s.Formula.sok s.Var (numU (k+1))&&(rokD s.Var (numU k) s.Step&&vD_ (cutU s k d))) then some (cutU s k d) else none
theorem vp_3{d:Dt}{a b:Dt}(hp:d.Parts=[a,b])(h:vD_ d=true):vD_ a=true∧vD_ b=true:=by
 unfold vD_ at h ⊢
 rw[aA,decide_eq_true_eq,d.cnt_u,d.okD_u,hp] at h
 obtain⟨h1,h2⟩:=h
 simp only[aA,bI,aI,List.map_nil,bq,List.sum_nil] at h1 h2
 rw[h2.2.1,h2.2.2.1,decide_eq_true (show a.cnt≤60 by omega),decide_eq_true (show b.cnt≤60 by omega)]
 exact⟨rfl,rfl⟩
structure SchU(s:Sb):Prop where
 var:iVS_ s.Var=true
 form:vF_ s.Formula=true
 base:InvD s.Base
 step:InvD s.Step
 left:Vl s.Base.Sequent.Left 10
theorem sUo_{s:Sb}(hok:s.Ok)(ht:s.tot≤1048576)(h:schB s=true):SchU s:=by
 obtain⟨o1,o2,o3,o4⟩:=hok
 unfold Sb.tot at ht
 unfold schB at h
 simp only[aA] at h
 obtain⟨hn,hv,hb,hs,_⟩:=h
 exact⟨hn,hv,⟨o3,Dt.tot_bd _ (by omega),hb⟩,⟨o4,Dt.tot_bd _ (by omega),hs⟩,(vDV_ o3 (by omega) hb).1⟩
section
variable{s:Sb}{k:Nat}{d:Dt}
theorem sv_1(hs:SchU s){n:Nat}(hn:n≤7)(h:s.Formula.sok s.Var (numU n)=true):vF_ (s.Formula.sub s.Var (numU n))=true:=
 (sv_ (by unfold subst; rw[hs.form,hs.var,nUg_ n hn,h]; rfl)).1
theorem cf_(hs:SchU s)(hk:k+1≤7)(hd:InvD d)(h1:s.Formula.sok s.Var (numU k)=true)(h2:s.Formula.sok s.Var (numU (k+1))=true)(h3:rokD s.Var (numU k) s.Step=true):
 (wkD (s.Formula.sub s.Var (numU (k+1))) false d 0).Ok∧(wkD (s.Formula.sub s.Var (numU (k+1))) false d 0).bd∧(wkD (s.Formula.sub s.Var (numU (k+1))) false d 0).cnt≤60∧
 (repD s.Var (numU k) s.Step).Ok∧(repD s.Var (numU k) s.Step).bd∧(repD s.Var (numU k) s.Step).cnt≤60∧(cutU s k d).Ok∧(cutU s k d).bd∧(cutU s k d).cnt≤121:=by
 have v1:=sv_1 hs (by omega) h1
 have v2:=sv_1 hs hk h2
 obtain⟨w1,w2,_⟩:=wf_ (left:=false) v2 d hd.ok hd.bd hd.cnt.2 0
 have w3:=wc_ (f:=s.Formula.sub s.Var (numU (k+1))) (left:=false) d 0
 obtain⟨r1,r2,_⟩:=rf_ hs.var (nUg_ k (by omega)) s.Step hs.step.ok hs.step.bd hs.step.cnt.2 h3
 have r3:=rc_ (n:=s.Var) (t:=numU k) s.Step
 have c1:=hd.cnt.1
 have c2:=hs.step.cnt.1
 have t1:=vFt_ v1
 have t2:=vFt_ v2
 have hsum:=hs.left.sum
 have hlen:=hs.left.len
 have zt:(⟨⟨#[]⟩,[]⟩:Tt).tot=0:=zTt_1
 refine⟨w1,w2,by omega,r1,r2,by omega,?_,?_,?_⟩
 ·exact Dt.Ok.mk _ _ _ _ _ _ (by simp[InR]) ⟨⟨by simp only[Big]; show s.Base.Sequent.Left.length≤_; omega,fun f hf=>vFO_ (hs.left.val f hf)⟩,⟨by simp[Big],fun f hf=>by rw[List.mem_singleton.1 hf]; exact vFO_ v2⟩⟩ (by simp[InR]) zTO_ (vFO_ v1) (by simp[Big]) (fun a ha=>by
   simp only[List.mem_cons,List.not_mem_nil,or_false] at ha
   rcases ha with rfl | rfl
   ·exact w1
   ·exact r1)
 ·rw[Dbu_]
  refine⟨?_,by show(⟨⟨#[]⟩,[]⟩:Tt).tot≤_; omega,by show(s.Formula.sub s.Var (numU k)).tot≤_; omega,fun a ha=>?_⟩
  ·show Sa.tot ⟨s.Base.Sequent.Left,[s.Formula.sub s.Var (numU (k+1))]⟩≤_
   unfold Sa.tot
   show ltot aP s.Base.Sequent.Left+ltot aP [s.Formula.sub s.Var (numU (k+1))]≤_
   have:ltot aP [s.Formula.sub s.Var (numU (k+1))]=(s.Formula.sub s.Var (numU (k+1))).tot+1:=by simp[ltot]; omega
   omega
  ·have ha:a∈[wkD (s.Formula.sub s.Var (numU (k+1))) false d 0,repD s.Var (numU k) s.Step]:=ha
   simp only[List.mem_cons,List.not_mem_nil,or_false] at ha
   rcases ha with rfl | rfl
   ·exact w2
   ·exact r2
 ·rw[Dt.cnt_u]
  show 1+([wkD (s.Formula.sub s.Var (numU (k+1))) false d 0,repD s.Var (numU k) s.Step].map Dt.cnt).sum≤121
  simp only[aI,List.map_nil,bq,List.sum_nil]
  omega
theorem sUi_{c:Dt}(hs:SchU s)(hk:k+1≤7)(hd:InvD d)(h:sU_ s k d=some c):InvD c:=by
 unfold sU_ at h
 cases h1:s.Formula.sok s.Var (numU k)
 ·rw[h1] at h; cases h
 cases h2:s.Formula.sok s.Var (numU (k+1))
 ·rw[h1,h2] at h; cases h
 cases h3:rokD s.Var (numU k) s.Step
 ·rw[h1,h2,h3] at h; cases h
 cases h4:vD_ (cutU s k d)
 ·rw[h1,h2,h3,h4] at h; cases h
 ·rw[h1,h2,h3,h4] at h
  cases h
  obtain⟨_,_,_,_,_,_,g1,g2,_⟩:=cf_ hs hk hd h1 h2 h3
  exact⟨g1,g2,h4⟩
end
end
section
section
variable{s:Sb}{k:Nat}{d:Dt}
theorem wrK(h:k≤8):IntKind.i64.wrap (((k+1:Nat):Int)-1)=(k:Int):=by rw[w_]<;>omega
theorem wi_1(hs:SchU s)(hk:k+1≤7)(hd:InvD d)(h2:s.Formula.sok s.Var (numU (k+1))=true):
 iWA_ d (s.Formula.sub s.Var (numU (k+1))) false 0=some (bif vD_ (wkD (s.Formula.sub s.Var (numU (k+1))) false d 0) then(wkD (s.Formula.sub s.Var (numU (k+1))) false d 0,true) else(zDv,false)):=by
 have v2:=sv_1 hs hk h2
 have t2:=vFt_ v2
 have c1:=hd.cnt
 obtain⟨w1,w2,_⟩:=wf_ (left:=false) v2 d hd.ok hd.bd c1.2 0
 have w3:=wc_ (f:=s.Formula.sub s.Var (numU (k+1))) (left:=false) d 0
 have hi:inR 0 0 (d.Sequent.Right.length:Int)=true:=by
  unfold inR; exact decide_eq_true ⟨by omega,by omega⟩
 unfold iWA_
 rw[cond_false,vDi_ d hd.ok hd.bd (by omega),vFi_1 _ (by omega) (vFO_ v2),hd.val,v2,ak,cond_true,ak,cond_true,we_,hi,ak,cond_true,
  show iw_1 d (s.Formula.sub s.Var (numU (k+1))) false 0=some (wkD (s.Formula.sub s.Var (numU (k+1))) false d 0) from le_ ⟨_,wi_2 (left:=false) v2 d hd.ok hd.bd (by omega) c1.2 0 (Nat.zero_le _)⟩,ak]
 unfold iiD_
 rw[vDi_ _ w1 w2 (by omega),ak]
 cases vD_ (wkD (s.Formula.sub s.Var (numU (k+1))) false d 0)<;>rfl
theorem ri_(hs:SchU s)(hk:k≤7):
 iRI_ s.Step s.Var (numU k)=some (bif rokD s.Var (numU k) s.Step&&vD_ (repD s.Var (numU k) s.Step) then(repD s.Var (numU k) s.Step,true) else(zDv,false)):=by
 have c1:=hs.step.cnt
 have g:=nUg_ k hk
 have gt:=gTO_ g
 have hv:=vs_1 hs.var
 obtain⟨p,p1,p2,p3⟩:=ri_1 hs.var g s.Step hs.step.ok hs.step.bd (by omega) c1.2
 unfold iRI_
 rw[vDi_ _ hs.step.ok hs.step.bd (by omega),iVe_ _ (by simp only[Big]; omega),IVT_ _ (by omega) gt.2,hs.step.val,hs.var,g,ak,cond_true,ak,cond_true,ak,cond_true,
  show irI_1 s.Step s.Var (numU k)=some p from le_ ⟨_,p1⟩,ak,p2]
 cases hr:rokD s.Var (numU k) s.Step
 ·rfl
 ·obtain⟨r1,r2,_⟩:=rf_ hs.var g s.Step hs.step.ok hs.step.bd c1.2 hr
  have r3:=rc_ (n:=s.Var) (t:=numU k) s.Step
  unfold iiD_
  rw[p3 (p2.trans hr),cond_true,vDi_ _ r1 r2 (by omega),ak,Bool.true_and]
  cases vD_ (repD s.Var (numU k) s.Step)<;>rfl
theorem si_3(hs:SchU s)(hk:k+1≤7)(hd:InvD d):iSu_ s d ((k+1:Nat):Int)=some (resU (sU_ s k d)):=by
 have g1:=nUg_ k (by omega)
 have g2:=nUg_ (k+1) hk
 have e1:=si_1 hs.var g1 hs.form
 have e2:=si_1 hs.var g2 hs.form
 have ml:=hs.left.mod (by omega)
 unfold iSu_ sU_
 rw[wrK (by omega),nUi_ k (by omega),nUi_ (k+1) hk,ak,e1,ak,ak,e2,ak,sP2_,sP2_]
 cases h1:s.Formula.sok s.Var (numU k)
 ·rfl
 cases h2:s.Formula.sok s.Var (numU (k+1))
 ·rfl
 rw[cond_true,cond_true,sP1_ h1,sP1_ h2,wi_1 hs hk hd h2,ak,ak,ri_ hs (by omega),ak,cF_2 ml]
 cases h3:rokD s.Var (numU k) s.Step
 ·cases vD_ (wkD (s.Formula.sub s.Var (numU (k+1))) false d 0)<;>rfl
 obtain⟨w1,w2,w3,r1,r2,r3,q1,q2,q3⟩:=cf_ hs hk hd h1 h2 h3
 have hp:=vp_3 (d:=cutU s k d) (a:=wkD (s.Formula.sub s.Var (numU (k+1))) false d 0) (b:=repD s.Var (numU k) s.Step) rfl
 have hif:iiD_ (cutU s k d)=some (bif vD_ (cutU s k d) then(cutU s k d,true) else(zDv,false)):=by
  unfold iiD_
  rw[vDi_ _ q1 q2 (by omega),ak]
  cases vD_ (cutU s k d)<;>rfl
 cases h4:vD_ (cutU s k d)
 ·rw[h4] at hif
  cases vD_ (wkD (s.Formula.sub s.Var (numU (k+1))) false d 0)
  ·rfl
  ·cases vD_ (repD s.Var (numU k) s.Step)
   ·rfl
   ·show aa (iiD_ (cutU s k d)) _=_
    rw[hif]; rfl
 ·rw[h4] at hif
  rw[(hp h4).1,(hp h4).2]
  show aa (iiD_ (cutU s k d)) _=_
  rw[hif]; rfl
theorem ss_4(hs:SchU s)(hk:k+1≤7)(hd:InvD d){n:Nat}(hrec:slU_ n s (k:Int)=some (d,true)):slU_ (n+1) s ((k+1:Nat):Int)=some (resU (sU_ s k d)):=by
 have g1:=nUg_ k (by omega)
 have g2:=nUg_ (k+1) hk
 obtain⟨p,p1,p2,p3⟩:=ss_ hs.var g1 hs.form
 obtain⟨q,q1,q2,q3⟩:=ss_ hs.var g2 hs.form
 obtain⟨r,r1,r2,r3⟩:=rs_1 hs.var g1 s.Step hs.step.ok hs.step.bd (by have:=hs.step.cnt.1; omega) hs.step.cnt.2
 rw[slU_,decide_eq_false (show ¬ (((k+1:Nat):Int)=0) by omega),cond_false,wrK (by omega),hrec,ak,cond_true,nUs_ k (by omega),nUs_ (k+1) hk]
 simp only[ak,p1,q1,show slR_4 s.Step s.Var (numU k)=some r from le_ ⟨_,r1⟩,q2,p2,r2]
 unfold sU_
 cases h1:s.Formula.sok s.Var (numU k)
 ·cases s.Formula.sok s.Var (numU (k+1))<;>rfl
 cases h2:s.Formula.sok s.Var (numU (k+1))
 ·rfl
 cases h3:rokD s.Var (numU k) s.Step
 ·rfl
 obtain⟨w1,w2,w3,z1,z2,z3,c1,c2,c3⟩:=cf_ hs hk hd h1 h2 h3
 have v1:=sv_1 hs (by omega) h1
 have v2:=sv_1 hs hk h2
 have t1:=vFt_ v1
 have ml:=hs.left.mod (by omega)
 have m1:Mod [s.Formula.sub s.Var (numU (k+1))]:=(Vl.one v2).mod (by omega)
 have m0:Mod []:=(Vl.nil 0).mod (by omega)
 have nx0:nx ⟨s.Base.Sequent.Left,[s.Formula.sub s.Var (numU (k+1))]⟩ (-1) [] (-1) []=⟨s.Base.Sequent.Left,[s.Formula.sub s.Var (numU (k+1))]⟩:=by
  unfold nx
  rw[dIn_ _ _ (by omega),dIn_ _ _ (by omega),bw,bw]
 rw[p3 (p2.trans h1),q3 (q2.trans h2),r3 (r2.trans h3)]
 have ei:slI_9 d (s.Formula.sub s.Var (numU (k+1))) false 0=some (wkD (s.Formula.sub s.Var (numU (k+1))) false d 0):=le_ ⟨_,ws_3 (left:=false) v2 d hd.ok hd.bd (by have:=hd.cnt.1; omega) hd.cnt.2 0 (Nat.zero_le _)⟩
 have ec:slC_1 (Sa.mk s.Base.Sequent.Left [s.Formula.sub s.Var (numU (k+1))]) (s.Formula.sub s.Var (numU k)) (wkD (s.Formula.sub s.Var (numU (k+1))) false d 0) (repD s.Var (numU k) s.Step)=some (cutU s k d):=by
  unfold slC_1
  rw[ownF _ (by omega),ak,sn_ (s:=⟨s.Base.Sequent.Left,[s.Formula.sub s.Var (numU (k+1))]⟩) (-1) (-1) ml m1 m0 m0,nx0]; rfl
 simp only[cond_true,ei,ak,ec,vDs_ _ c1 c2 (by omega)]
 cases vD_ (cutU s k d)<;>rfl
noncomputable def UU(s:Sb):Nat→Option Dt
 | 0=>some s.Base
 | k+1=>(UU s k).bind (sU_ s k)
theorem Ui_(hs:SchU s):∀ (k:Nat) (d:Dt),k≤7→UU s k=some d→InvD d
 | 0,d,_,h=>by cases h; exact hs.base
 | k+1,d,hk,h=>by
  rw[UU] at h
  cases e:UU s k with
  | none=>rw[e] at h; cases h
  | some c=>rw[e] at h; exact sUi_ hs hk (Ui_ hs k c (by omega) e) h
theorem us_1(hs:SchU s):∀ k:Nat,k≤7→∀ n:Nat,k+1≤n→slU_ n s (k:Int)=some (resU (UU s k))
 | 0,_,n,hn=>by
  obtain⟨m,rfl⟩:∃ m,n=m+1:=⟨n-1,by omega⟩
  rw[slU_,decide_eq_true (show((0:Nat):Int)=0 from rfl),cond_true,show slO_10 s.Base=some s.Base from le_ ⟨_,oD_ _ hs.base.bd (by have:=hs.base.cnt.1; omega)⟩]; rfl
 | k+1,hk,n,hn=>by
  obtain⟨m,rfl⟩:∃ m,n=m+1:=⟨n-1,by omega⟩
  have ih:=us_1 hs k (by omega) m (by omega)
  rw[UU]
  cases e:UU s k with
  | some d=>rw[e] at ih; exact ss_4 hs hk (Ui_ hs k d (by omega) e) ih
  | none=>
   rw[e] at ih
   rw[slU_,decide_eq_false (show ¬ (((k+1:Nat):Int)=0) by omega),cond_false,wrK (by omega),ih]; rfl
end
end
section
theorem eD_1(d:Dt):Dt.mk d.Rule (Sa.mk d.Sequent.Left d.Sequent.Right) d.Main (Tt.mk d.Term.Name d.Term.Args) (Ft.mk d.Cut.Op (Tt.mk d.Cut.Atom.Name d.Cut.Atom.Args) d.Cut.Var d.Cut.Parts) d.Parts=d:=by
 obtain⟨a,⟨b,c⟩,e,⟨f,g⟩,⟨h,⟨i,j⟩,k,l⟩,m⟩:=d; rfl
def T13(d:Dt)(k:Int):Int×(List Ft)×(List Ft)×Int×ByteArray×(List Tt)×Int×ByteArray×(List Tt)×ByteArray×(List Ft)×(List Dt)×Int:=
 (d.Rule,d.Sequent.Left,d.Sequent.Right,d.Main,d.Term.Name,d.Term.Args,d.Cut.Op,d.Cut.Atom.Name,d.Cut.Atom.Args,d.Cut.Var,d.Cut.Parts,d.Parts,k)
theorem Un_{s:Sb}{k:Nat}(h:UU s k=none):∀ j,UU s (k+j)=none
 | 0=>h
 | j+1=>by
  show(UU s (k+j)).bind (sU_ s (k+j))=none
  rw[Un_ h j]; rfl
def endU(n:Nat):Option Dt→(Dt×Bool) ⊕ (Int×(List Ft)×(List Ft)×Int×ByteArray×(List Tt)×Int×ByteArray×(List Tt)×ByteArray×(List Ft)×(List Dt)×Int)
 | some d=>.inr (T13 d ((n+1:Nat):Int))
 | none=>.inl (zDv,false)
theorem ul_{s:Sb}(hs:SchU s){n:Nat}(hn:n≤7){F:(Int×(List Ft)×(List Ft)×Int×ByteArray×(List Tt)×Int×ByteArray×(List Tt)×ByteArray×(List Ft)×(List Dt)×Int)→Option (Flow (Dt×Bool) (Int×(List Ft)×(List Ft)×Int×ByteArray×(List Tt)×Int×ByteArray×(List Tt)×ByteArray×(List Ft)×(List Dt)×Int))}
 (hF:∀ d (k:Nat),k≤7→F (T13 d ((k+1:Nat):Int))=bif decide (((k+1:Nat):Int)≤(n:Int)) then aa (iSu_ s d ((k+1:Nat):Int)) fun v=>bif v.2 then some (.nx (T13 v.1 ((k+1+1:Nat):Int))) else some (.rt (zDv,false)) else some (.br (T13 d ((k+1:Nat):Int)))):
 ∀ (j k:Nat) (d:Dt),k+j=n→UU s k=some d→Ev (fun m=>whileN F m (T13 d ((k+1:Nat):Int))) (endU n (UU s n))
 | 0,k,d,hk,h=>by
  have e:k=n:=by omega
  subst e
  rw[h]
  refine eb_ ?_
  rw[hF d k hn,decide_eq_false (by omega),cond_false]
 | j+1,k,d,hk,h=>by
  have hi:=Ui_ hs k d (by omega) h
  have hstep:=si_3 hs (k:=k) (d:=d) (by omega) hi
  have hnext:UU s (k+1)=sU_ s k d:=by rw[UU,h]; rfl
  have h0:=hF d k (by omega)
  rw[decide_eq_true (show((k+1:Nat):Int)≤(n:Int) by omega),cond_true,hstep,ak] at h0
  cases e:sU_ s k d with
  | some c=>
   rw[e] at h0 hnext
   exact en_1 h0 (ul_ hs hn hF j (k+1) c (by omega) hnext)
  | none=>
   rw[e] at h0 hnext
   have:UU s n=none:=by
    have:=Un_ hnext j
    rwa [show k+1+j=n by omega] at this
   rw[this]
   exact er_ h0
theorem bt_(d:Dt):d.bd→d.tot+1≤4000000*d.cnt:=by
 refine Dt.ind' (M:=fun d=>d.bd→d.tot+1≤4000000*d.cnt) (fun d ih hb=>?_) d
 have hu:=(Dbu_ d).1 hb
 have tl:=d_ (g:=fun x=>x) (c:=4000000) d.Parts (fun p hp=>ih p hp (Dpb_ hb hp))
 rw[List.map_id'] at tl
 have h1:=hu.1
 unfold Sa.tot at h1
 rw[Dt.tot_u,Dt.cnt_u,Nat.mul_add]
 have h2:=hu.2.1
 have h3:=hu.2.2.1
 omega
theorem Ub_(s:Sb)(a:Int)(hok:s.Ok)(ht:s.tot≤1048576):∃ r:Dt×Bool,iUS_ s a=some r∧sUS_ s a=some r∧r.1.tot≤240000000:=by
 have hz:zDv.tot≤240000000:=by have:=zDt_; show(⟨0,⟨[],[]⟩,0,⟨⟨#[]⟩,[]⟩,⟨0,⟨⟨#[]⟩,[]⟩,⟨#[]⟩,[]⟩,[]⟩:Dt).tot≤_; omega
 obtain⟨b1,b2⟩:=sb_ s hok ht
 unfold iUS_ sUS_
 rw[b1,b2,ak,ak]
 cases hb:schB s
 ·exact⟨_,rfl,rfl,hz⟩
 have hs:=sUo_ hok ht hb
 rw[cond_true,cond_true,we_,lIe_,ak,ak]
 cases hi:inR a 0 7
 ·exact⟨_,rfl,rfl,hz⟩
 have ha:0≤a∧a≤7:=by
  unfold inR at hi
  simp only[aA,decide_eq_true_eq] at hi
  exact hi
 obtain⟨n,rfl⟩:∃ n:Nat,a=(n:Int):=⟨a.toNat,by omega⟩
 have hn:n≤7:=by omega
 have hsp:slU_1 s (n:Int)=some (resU (UU s n)):=le_ ⟨n+1,fun m hm=>us_1 hs n hn m hm⟩
 rw[cond_true,cond_true,cD_ hs.base.bd (by have:=hs.base.cnt.1; omega),ak,hsp,ak]
 have key:=ul_ (s:=s) hs (n:=n) hn (F:=fun (s5:Int×(List Ft)×(List Ft)×Int×ByteArray×(List Tt)×Int×ByteArray×(List Tt)×ByteArray×(List Ft)×(List Dt)×Int)=>
  bif decide (s5.2.2.2.2.2.2.2.2.2.2.2.2≤(n:Int)) then
   aa (iSu_ s (Dt.mk s5.1 (Sa.mk s5.2.1 s5.2.2.1) s5.2.2.2.1 (Tt.mk s5.2.2.2.2.1 s5.2.2.2.2.2.1) (Ft.mk s5.2.2.2.2.2.2.1 (Tt.mk s5.2.2.2.2.2.2.2.1 s5.2.2.2.2.2.2.2.2.1) s5.2.2.2.2.2.2.2.2.2.1 s5.2.2.2.2.2.2.2.2.2.2.1) s5.2.2.2.2.2.2.2.2.2.2.2.1) s5.2.2.2.2.2.2.2.2.2.2.2.2) fun v31=>
   bif v31.2 then
    some (.nx (v31.1.Rule,v31.1.Sequent.Left,v31.1.Sequent.Right,v31.1.Main,v31.1.Term.Name,v31.1.Term.Args,v31.1.Cut.Op,v31.1.Cut.Atom.Name,v31.1.Cut.Atom.Args,v31.1.Cut.Var,v31.1.Cut.Parts,v31.1.Parts,IntKind.i64.wrap (s5.2.2.2.2.2.2.2.2.2.2.2.2+(1:Int))))
   else
    some (.rt ((Dt.mk (0:Int) (Sa.mk ([]) ([])) (0:Int) (Tt.mk (⟨#[]⟩:ByteArray) ([])) (Ft.mk (0:Int) (Tt.mk (⟨#[]⟩:ByteArray) ([])) (⟨#[]⟩:ByteArray) ([])) ([])),false))
  else
   some (.br s5)) (fun d k hk=>by
  have e:=eD_1 d
  have w:IntKind.i64.wrap (((k+1:Nat):Int)+1)=((k+1+1:Nat):Int):=ws_1 (by omega)
  simp only[T13,e,w]
  rfl) n 0 s.Base (by omega) rfl
 rw[show((0+1:Nat):Int)=1 from rfl] at key
 have hl:=le_ key
 unfold T13 at hl
 rw[hl]
 cases e:UU s n with
 | none=>exact⟨_,rfl,rfl,hz⟩
 | some d=>
  have hi:=Ui_ hs n d hn e
  have hc:=hi.cnt.1
  have ht:=bt_ d hi.bd
  refine⟨(d,true),?_,?_,by show d.tot≤_; omega⟩
  ·show some (Dt.mk d.Rule (Sa.mk d.Sequent.Left d.Sequent.Right) d.Main (Tt.mk d.Term.Name d.Term.Args) (Ft.mk d.Cut.Op (Tt.mk d.Cut.Atom.Name d.Cut.Atom.Args) d.Cut.Var d.Cut.Parts) d.Parts,true)=_
   rw[eD_1]
  ·show aa (slO_10 d) _=_
   rw[show slO_10 d=some d from le_ ⟨_,oD_ d hi.bd (by omega)⟩]; rfl
theorem FnExactUnrollSchema_true(s:Sb)(a:Int)(hok:s.Ok)(ha:InR a):FnExactUnrollSchema s a=some true:=by
 unfold FnExactUnrollSchema
 rw[sSe_1 s hok _ (by omega) (by omega),ak]
 by_cases e:szR s.tot 1048576<0
 ·rw[decide_eq_true e]; rfl
 have ht:=sRo_ e
 obtain⟨r,g1,g2,g3⟩:=Ub_ s a hok ht
 have n1:=s.Formula.marks_tot
 have n2:=s.Base.marks_tot
 have n3:=s.Step.marks_tot
 have n4:=r.1.marks_tot
 have ht':=ht
 unfold Sb.tot at ht'
 obtain⟨y0,y1,y2,y3,y4,y5,y6,y7,y8,y9,y10,y11,y12,y13,m1⟩:=mSm_ s (k:=1) (by omega) (by omega)
 obtain⟨x0,x1,x2,x3,x4,x5,m2,m3⟩:=mDh_ r.1 (k:=1) (by omega) (by omega)
 generalize hA:(lcn Tt.cn s.Formula.Atom.Args+lcn Ft.cn s.Formula.Parts+lcn Ft.cn s.Base.Sequent.Left+lcn Ft.cn s.Base.Sequent.Right+lcn Tt.cn s.Base.Term.Args+lcn Tt.cn s.Base.Cut.Atom.Args+lcn Ft.cn s.Base.Cut.Parts+lcn Dt.cn s.Base.Parts+lcn Ft.cn s.Step.Sequent.Left+lcn Ft.cn s.Step.Sequent.Right+lcn Tt.cn s.Step.Term.Args+lcn Tt.cn s.Step.Cut.Atom.Args+lcn Ft.cn s.Step.Cut.Parts+lcn Dt.cn s.Step.Parts)=A at m1
 generalize hB:lcn Ft.cn r.1.Sequent.Left+lcn Ft.cn r.1.Sequent.Right+lcn Tt.cn r.1.Term.Args+lcn Tt.cn r.1.Cut.Atom.Args+lcn Ft.cn r.1.Cut.Parts+lcn Dt.cn r.1.Parts=B at m2 m3 n4
 have d1:decide ((1:Int)+(A:Int)<0)=false:=decide_eq_false (by omega)
 have d2:decide ((1:Int)+(B:Int)<0)=false:=decide_eq_false (by omega)
 rw[decide_eq_false e,cond_false]
 simp only[tSe_1 s ht,ak,g1,g2,eSr_1,eDr_,cond_true,beq_self_eq_true,m1,m2,m3,d1,d2,cond_false,decide_true]
end
end Go.Proofs.YtejbpjegkfbncaaGreat
