/- Lemmas of the proof; each says what it shows. -/
import Derived.Test.YtafdgbndcflghaaGreatGan
set_option linter.unusedSimpArgs false
set_option linter.unusedVariables false
set_option linter.defProp false
set_option maxRecDepth 4000
namespace Go.Proofs.YtafdgbndcflghaaGreat
open Go.Av
open Bool renaming and_eq_true→aA
open Ft renaming tot→aR
open Int renaming reduceEq→aY
open List renaming length_append→aP,length_cons→aO,all_eq_true→a7,append_nil→aZ,map_cons→aK,append_assoc→aV,sum_cons→bn
open Option renaming bind_some→ak,bind→aa
open SizeOf renaming sizeOf→av
section
theorem bm_{d:Dt}(hb:d.bd):Mod d.Sequent.Left∧Mod d.Sequent.Right:=by
 have hu:=(Dbu_ d).1 hb
 have hs:ltot aR d.Sequent.Left+ltot aR d.Sequent.Right≤1048576:=hu.1
 exact⟨⟨fun f hf=>by have:=tm_ aR hf; omega,by have:=ll_ aR d.Sequent.Left; omega⟩,⟨fun f hf=>by have:=tm_ aR hf; omega,by have:=ll_ aR d.Sequent.Right; omega⟩⟩
theorem cD_1(d:Dt):d.bd→d.cnt≤100000→∀ k,2*av d≤k→icD_1 k d=some d:=by
 refine Dt.ind' (M:=fun d=>d.bd→d.cnt≤100000→∀ k,2*av d≤k→icD_1 k d=some d) (fun d ih hb hc k hk=>?_) d
 have hp:=d.pos
 have hlen:=cl_2 d
 have hu:=(Dbu_ d).1 hb
 obtain⟨ml,mr⟩:=bm_ hb
 cases k with
 | zero=>omega
 | succ k=>
  rw[icD_1,cS_1 ml mr,cT_ _ (cot_ hu.2.1),cF_1 _ hu.2.2.1]
  simp only[ak,fNi_]
  rw[mapL (f:=icD_1 k) (g:=fun x=>x) d.Parts 0 [] (fun p hp=>ih p hp (Dpb_ hb hp) (by have:=Dpc_ hp; omega) k (by have:=Dt.lt hp; omega)) (by simp; omega),tLi_]
  simp only[List.nil_append,List.map_id']
  exact congrArg some (by cases d; rfl)
theorem cD_{d:Dt}(hb:d.bd)(hc:d.cnt≤100000):icD_ d=some d:=le_ ⟨_,cD_1 d hb hc⟩
theorem setP{α ρ:Type}(f:α→Option α)(g:α→α):∀ (xs pre:List α),(∀ x∈xs,f x=some (g x))→
 forL (ρ:=ρ) (fun i v s=>(f v).bind fun w=>(idx s (i:Int)).bind fun _=>(idx s (i:Int)).bind fun _=>some (.nx (s.set (i:Int).toNat w))) xs pre.length (pre++xs)=some (.inr (pre++xs.map g))
 | [],pre,_=>by simp[forL]
 | x::xs,pre,h=>by
  have hx:=h x (by simp)
  have e:(pre++x::xs)[pre.length]?=some x:=by simp
  rw[fLn_ (s':=(pre++[g x])++xs) (by
   rw[hx,ak,in_,e,ak,ak,Int.toNat_natCast]
   simp)]
  have:=setP (ρ:=ρ) f g xs (pre++[g x]) (fun y hy=>h y (by simp[hy]))
  simp only[aP,aO,List.length_nil,Nat.zero_add] at this
  rw[this]; simp
def hit(i:Int)(k:Nat):Nat:=if 0≤i∧i<(k:Int) then 1 else 0
theorem dIl_1{α:Type}:∀ (l:List α) (i:Int),(dI_ l i).length+hit i l.length=l.length
 | [],i=>by unfold hit; rw[if_neg (by simp)]; rfl
 | a::l,i=>by
  rw[dI_]
  by_cases h:i=0
  ·rw[if_pos h]; unfold hit; rw[if_pos (by simp; omega)]; rfl
  ·rw[if_neg h]
   have:=dIl_1 l (i-1)
   have e:hit (i-1) l.length=hit i (a::l).length:=by
    unfold hit
    simp only[aO]
    by_cases h2:0≤i-1∧i-1<(l.length:Int)
    ·rw[if_pos h2,if_pos (by omega)]
    ·rw[if_neg h2,if_neg (by omega)]
   rw[← e,aO,aO]; omega
def i_(d:Dt)(left:Bool)(k:Nat):Nat:=k-hit (remI d left) k
theorem il_1{d:Dt}{left:Bool}{α:Type}{l:List α}{k:Nat}(h:k≤l.length):i_ d left k≤(dI_ l (remI d left)).length:=by
 have:=dIl_1 l (remI d left)
 unfold i_ hit at*
 by_cases h1:0≤remI d left∧remI d left<(k:Int)
 ·rw[if_pos h1]
  rw[if_pos (by omega)] at this; omega
 ·rw[if_neg h1]
  by_cases h2:0≤remI d left∧remI d left<(l.length:Int)
  ·rw[if_pos h2] at this; omega
  ·rw[if_neg h2] at this; omega
theorem pl_{ρ:Type}(d:Dt)(left:Bool):∀ (n k:Nat) (s:Nat),s≤1000→hit (remI d left-k) n≤s→
 forN (ρ:=ρ) (fun (i8:Nat) (s8:Int)=>aa (iDr_ d left (i8:Int)) fun v42=>bif v42 then some (.nx (IntKind.i64.wrap (s8-(1:Int)))) else some (.nx s8)) n k (s:Int)=some (.inr ((s-hit (remI d left-k) n:Nat):Int))
 | 0,k,s,_,_=>by
  have:hit (remI d left-k) 0=0:=by unfold hit; rw[if_neg (by simp)]
  rw[this]; rfl
 | n+1,k,s,hs,hh=>by
  by_cases h:(k:Int)=remI d left
  ·have e1:hit (remI d left-k) (n+1)=1:=by unfold hit; rw[if_pos (by omega)]
   have e2:hit (remI d left-((k+1:Nat):Int)) n=0:=by unfold hit; rw[if_neg (by omega)]
   rw[e1] at hh
   have w:IntKind.i64.wrap ((s:Int)-1)=((s-1:Nat):Int):=by rw[w_]<;>omega
   rw[fNn_ (s':=((s-1:Nat):Int)) (by rw[re_ d left (by omega),ak,decide_eq_true h,cond_true,w]),pl_ d left n (k+1) (s-1) (by omega) (by omega),e1,e2]; rfl
  ·have e:hit (remI d left-k) (n+1)=hit (remI d left-((k+1:Nat):Int)) n:=by
    unfold hit
    by_cases h2:0≤remI d left-k∧remI d left-k<((n+1:Nat):Int)
    ·rw[if_pos h2,if_pos (by omega)]
    ·rw[if_neg h2,if_neg (by omega)]
   rw[fNn_ (s':=(s:Int)) (by rw[re_ d left (by omega),ak,decide_eq_false h]; rfl),pl_ d left n (k+1) s hs (by omega),e]
def insL{α:Type}(l:List α)(k:Nat)(f:α):List α:=l.take k++[f]++l.drop k
def insS(s:Sa)(left:Bool)(k:Nat)(f:Ft):Sa:=bif left then⟨insL s.Left k f,s.Right⟩ else⟨s.Left,insL s.Right k f⟩
def iM_(r m:Int)(left:Bool)(k:Nat):Int:=bif decide (r=15) then m else bif (mOn r).1==left then bif decide ((k:Int)≤m) then m+1 else m else m
mutual
def wkD(f:Ft)(left:Bool):Dt→Nat→Dt
 | .mk r s m t c l,k=>.mk r (insS s left k f) (iM_ r m left k) t c (wkDs f left l (i_ (.mk r s m t c l) left k))
def wkDs(f:Ft)(left:Bool):List Dt→Nat→List Dt
 | [],_=>[]
 | a::l,k=>wkD f left a k::wkDs f left l k
end
theorem wDe_(f:Ft)(left:Bool)(k:Nat)(l:List Dt):wkDs f left l k=l.map fun p=>wkD f left p k:=by
 induction l with
 | nil=>rfl
 | cons a l ih=>rw[wkDs,ih]; rfl
theorem wDu_(f:Ft)(left:Bool)(d:Dt)(k:Nat):wkD f left d k=.mk d.Rule (insS d.Sequent left k f) (iM_ d.Rule d.Main left k) d.Term d.Cut (d.Parts.map fun p=>wkD f left p (i_ d left k)):=by
 cases d; rw[wkD,wDe_]; rfl
def side(s:Sa)(left:Bool):List Ft:=bif left then s.Left else s.Right
theorem np_{d:Dt}(hok:d.Ok)(hb:d.bd)(h:nB_ d=true):(∀ p∈d.Parts,∀ left,(dI_ (side d.Sequent left) (remI d left)).length≤(side p.Sequent left).length)∧
 (d.Rule≠15→0≤d.Main∧d.Main<11)∧((d.Rule=1∨d.Rule=2)→d.Parts=[])∧inR d.Rule 1 15=true:=by
 obtain⟨_,_,h3⟩:=nBb_ hok hb
 have N:=h3 h
 obtain⟨xs,a1,a2,a3,a4⟩:=N.rule
 obtain⟨vl,vr⟩:=vSV_ N.valid
 have b1:=vl.len
 have b2:=vr.len
 refine⟨fun p hp left=>?_,fun h15=>?_,fun hr=>?_,ar_ a1⟩
 ·have hm:p.Sequent∈xs.map (prem d.Sequent d):=by rw[← a4]; exact List.mem_map_of_mem hp
  obtain⟨x,_,ex⟩:=List.mem_map.1 hm
  rw[← ex]
  cases left
  ·show _≤(dI_ d.Sequent.Right (remI d false)++x.Right).length
   rw[aP]; exact Nat.le_add_right _ _
  ·show _≤(dI_ d.Sequent.Left (remI d true)++x.Left).length
   rw[aP]; exact Nat.le_add_right _ _
 ·have hm:=am_ a1 h15 (by omega) (by omega)
  revert hm
  cases (mOn d.Rule).1<;>simp only[cond_true,cond_false]<;>omega
 ·have hx:=al_ a1 hr
  rw[hx] at a4
  exact List.map_eq_nil_iff.1 a4
theorem iMw_{d:Dt}{left:Bool}{k:Nat}(h:d.Rule≠15→0≤d.Main∧d.Main<11)(h15:d.Rule≠15):IntKind.i64.wrap (d.Main+1)=d.Main+1:=by
 have:=h h15
 rw[w_]<;>omega
theorem zDt_:(⟨0,⟨[],[]⟩,0,⟨⟨#[]⟩,[]⟩,⟨0,⟨⟨#[]⟩,[]⟩,⟨#[]⟩,[]⟩,[]⟩:Dt).tot≤13000000:=by
 rw[Dt.tot_u]; show 0+((⟨⟨#[]⟩,[]⟩:Tt).tot+((⟨0,⟨⟨#[]⟩,[]⟩,⟨#[]⟩,[]⟩:Ft).tot+0))≤_
 rw[zFt_,zTt_]; omega
section
variable{f:Ft}{left:Bool}
theorem wi_1(hf:vF_ f=true)(d:Dt):d.Ok→d.bd→d.cnt≤100000→d.okD=true→∀ k:Nat,k≤(side d.Sequent left).length→∀ n,2*av d≤n→iwN_ n d f left (k:Int)=some (wkD f left d k):=by
 refine Dt.ind' (M:=fun d=>d.Ok→d.bd→d.cnt≤100000→d.okD=true→∀ k:Nat,k≤(side d.Sequent left).length→∀ n,2*av d≤n→iwN_ n d f left (k:Int)=some (wkD f left d k)) (fun d ih hok hb hc hd k hk n hn=>?_) d
 have hp:=d.pos
 rw[DoD_,aA,a7] at hd
 obtain⟨np,nm,_,_⟩:=np_ hok hb hd.1
 have N:=nR_ hok hb hd.1
 have b1:=N.vl.len
 have b2:=N.vr.len
 have hk10:k≤10:=by revert hk; unfold side; cases left<;>simp only[cond_true,cond_false]<;>omega
 cases n with
 | zero=>omega
 | succ n=>
  have P:∀ p∈d.Parts,iwN_ n p f left ((i_ d left k:Nat):Int)=some (wkD f left p (i_ d left k)):=fun p hp=>
   ih p hp (Dpo_ hok hp) (Dpb_ hb hp) (by have:=Dpc_ hp; omega) (hd.2 p hp) (i_ d left k) (Nat.le_trans (il_1 hk) (np p hp left)) n (by have:=Dt.lt hp; omega)
  have lp:forL (ρ:=Dt) (fun i v s=>(iwN_ n v f left ((i_ d left k:Nat):Int)).bind fun w=>(idx s (i:Int)).bind fun _=>(idx s (i:Int)).bind fun _=>some (.nx (s.set (i:Int).toNat w))) d.Parts 0 d.Parts=some (.inr (d.Parts.map fun p=>wkD f left p (i_ d left k))):=by
   have:=setP (ρ:=Dt) (fun p=>iwN_ n p f left ((i_ d left k:Nat):Int)) (fun p=>wkD f left p (i_ d left k)) d.Parts [] P
   simpa using this
  have pl:forN (ρ:=Dt) (fun (i8:Nat) (s8:Int)=>aa (iDr_ d left (i8:Int)) fun v42=>bif v42 then some (.nx (IntKind.i64.wrap (s8-(1:Int)))) else some (.nx s8)) k 0 (k:Int)=some (.inr ((i_ d left k:Nat):Int)):=by
   have:=pl_ (ρ:=Dt) d left k 0 k (by omega) (by unfold hit; split<;>omega)
   rw[show remI d left-((0:Nat):Int)=remI d left from Int.sub_zero _] at this
   exact this
  have hins:∀ l:List Ft,l.length≤10→k≤l.length→sIF_3 l (k:Int) [f]=some (insL l k f):=fun l h1 h2=>by
   unfold sIF_3
   rw[if_pos ⟨by omega,by omega,rfl,by omega⟩]; rfl
  rw[iwN_,cD_ hb hc,ak,cF_1 f (by have:=vFt_ hf; omega),bn_ (by simp only[Big]; omega),mOe_,wDu_]
  simp only[ak,fNi_]
  cases left
  ·rw[cond_false,hins d.Sequent.Right b2 hk,ak,pl,tLi_]
   unfold iM_
   by_cases h15:d.Rule=15
   ·rw[decide_eq_true h15,cond_true,cond_true,lp]; rfl
   ·rw[decide_eq_false h15,cond_false,cond_false,iMw_ (left:=false) (k:=k) nm h15]
    cases (mOn d.Rule).1==false
    ·rw[cond_false,cond_false,lp]; rfl
    ·rw[cond_true,cond_true]
     cases decide ((k:Int)≤d.Main)
     ·rw[cond_false,cond_false,lp]; rfl
     ·rw[cond_true,cond_true,lp]; rfl
  ·rw[cond_true,hins d.Sequent.Left b1 hk,ak,pl,tLi_]
   unfold iM_
   by_cases h15:d.Rule=15
   ·rw[decide_eq_true h15,cond_true,cond_true,lp]; rfl
   ·rw[decide_eq_false h15,cond_false,cond_false,iMw_ (left:=true) (k:=k) nm h15]
    cases (mOn d.Rule).1==true
    ·rw[cond_false,cond_false,lp]; rfl
    ·rw[cond_true,cond_true]
     cases decide ((k:Int)≤d.Main)
     ·rw[cond_false,cond_false,lp]; rfl
     ·rw[cond_true,cond_true,lp]; rfl
theorem ws_3(hf:vF_ f=true)(d:Dt):d.Ok→d.bd→d.cnt≤100000→d.okD=true→∀ k:Nat,k≤(side d.Sequent left).length→∀ n,2*av d≤n→slI_ n d f left (k:Int)=some (wkD f left d k):=by
 refine Dt.ind' (M:=fun d=>d.Ok→d.bd→d.cnt≤100000→d.okD=true→∀ k:Nat,k≤(side d.Sequent left).length→∀ n,2*av d≤n→slI_ n d f left (k:Int)=some (wkD f left d k)) (fun d ih hok hb hc hd k hk n hn=>?_) d
 have hp:=d.pos
 have hlen:=cl_2 d
 have hu:=(Dbu_ d).1 hb
 rw[DoD_,aA,a7] at hd
 obtain⟨np,nm,nl,nr⟩:=np_ hok hb hd.1
 have N:=nR_ hok hb hd.1
 have b1:=N.vl.len
 have b2:=N.vr.len
 obtain⟨ml,mr⟩:=bm_ hb
 have m0:Mod []:=(Vl.nil 0).mod (by omega)
 have hk10:k≤10:=by revert hk; unfold side; cases left<;>simp only[cond_true,cond_false]<;>omega
 cases n with
 | zero=>omega
 | succ n=>
  obtain⟨v,v1,v2⟩:∃ v,slR_1 d left=some v∧(d.Parts=[]∨v=remI d left):=by
   by_cases h1:d.Rule=1
   ·exact⟨-1,by unfold slR_1; rw[decide_eq_true h1]; rfl,.inl (nl (.inl h1))⟩
   by_cases h2:d.Rule=2
   ·exact⟨-1,by unfold slR_1; rw[decide_eq_false h1,decide_eq_true h2]; rfl,.inl (nl (.inr h2))⟩
   ·exact⟨_,re_3 ⟨h1,h2⟩ nr left,.inr rfl⟩
  have P:∀ p∈d.Parts,slI_ n p f left ((i_ d left k:Nat):Int)=some (wkD f left p (i_ d left k)):=fun p hp=>
   ih p hp (Dpo_ hok hp) (Dpb_ hb hp) (by have:=Dpc_ hp; omega) (hd.2 p hp) (i_ d left k) (Nat.le_trans (il_1 hk) (np p hp left)) n (by have:=Dt.lt hp; omega)
  have lp:∀ Z:Int,(d.Parts=[]∨Z=((i_ d left k:Nat):Int))→forL (ρ:=Dt) (fun _ p (s:List Dt)=>(slI_ n p f left Z).bind fun v=>(app s [v]).bind fun w=>some (.nx w)) d.Parts 0 []=some (.inr (d.Parts.map fun p=>wkD f left p (i_ d left k))):=by
   intro Z hZ
   rcases hZ with h | rfl
   ·rw[h]; rfl
   ·rw[mapL (f:=fun p=>slI_ n p f left ((i_ d left k:Nat):Int)) (g:=fun p=>wkD f left p (i_ d left k)) d.Parts 0 [] P (by simp; omega),List.nil_append]
  have z1:decide ((0:Int)≤v)=true→decide (v<(k:Int))=true→(d.Parts=[]∨IntKind.i64.wrap ((k:Int)-1)=((i_ d left k:Nat):Int)):=fun h1 h2=>by
   rw[decide_eq_true_eq] at h1 h2
   rcases v2 with h | rfl
   ·exact .inl h
   ·have:i_ d left k=k-1:=by unfold i_ hit; rw[if_pos ⟨h1,h2⟩]
    rw[this,w_]<;>omega
  have z2:(decide ((0:Int)≤v)=false∨decide (v<(k:Int))=false)→(d.Parts=[]∨(k:Int)=((i_ d left k:Nat):Int)):=fun h=>by
   rcases v2 with h2 | rfl
   ·exact .inl h2
   ·have:i_ d left k=k:=by
     unfold i_ hit
     rw[if_neg (by simp only[decide_eq_false_iff_not] at h; omega)]; rfl
    rw[this]; exact .inr rfl
  have s1:∀ l:List Ft,k≤l.length→slc l (0:Int) (k:Int)=some (l.take k):=fun l h=>by
   unfold slc; rw[if_pos ⟨by omega,by omega,by omega⟩]; rfl
  have s2:∀ l:List Ft,k≤l.length→slc l (k:Int) (l.length:Int)=some (l.drop k):=fun l h=>by
   unfold slc; rw[if_pos ⟨by omega,by omega,by omega⟩]
   simp only[Int.toNat_natCast,List.take_length]
  have ap:∀ l m:List Ft,l.length≤100→m.length≤100→app l m=some (l++m):=fun l m h1 h2=>by unfold app; rw[if_pos (by omega)]
  have key:∀ (S:Sa) (M:Int),(bif decide ((0:Int)≤v) then
   bif decide (v<(k:Int)) then
    tL_ (ρ:=Dt) (σ:=(List Dt)) (forL (fun _ p (s:List Dt)=>(slI_ n p f left (IntKind.i64.wrap ((k:Int)-(1:Int)))).bind fun v=>(app s [v]).bind fun w=>some (.nx w)) d.Parts 0 []) fun s16=>some (Dt.mk d.Rule S M d.Term d.Cut s16)
   else tL_ (ρ:=Dt) (σ:=(List Dt)) (forL (fun _ p (s:List Dt)=>(slI_ n p f left (k:Int)).bind fun v=>(app s [v]).bind fun w=>some (.nx w)) d.Parts 0 []) fun s16=>some (Dt.mk d.Rule S M d.Term d.Cut s16)
   else tL_ (ρ:=Dt) (σ:=(List Dt)) (forL (fun _ p (s:List Dt)=>(slI_ n p f left (k:Int)).bind fun v=>(app s [v]).bind fun w=>some (.nx w)) d.Parts 0 []) fun s16=>some (Dt.mk d.Rule S M d.Term d.Cut s16))=
   some (.mk d.Rule S M d.Term d.Cut (d.Parts.map fun p=>wkD f left p (i_ d left k))):=by
   intro S M
   cases c1:decide ((0:Int)≤v)
   ·rw[cond_false,lp _ (z2 (.inl c1)),tLi_]
   ·cases c2:decide (v<(k:Int))
    ·rw[cond_true,cond_false,lp _ (z2 (.inr c2)),tLi_]
    ·rw[cond_true,cond_true,lp _ (z1 c1 c2),tLi_]
  have nx0:nx d.Sequent (-1) [] (-1) []=d.Sequent:=by
   unfold nx
   rw[dIn_ _ _ (by omega),dIn_ _ _ (by omega),aZ,aZ]
  rw[slI_,ownT _ (cot_ hu.2.1),ownF _ hu.2.2.1,sn_ (-1) (-1) ml mr m0 m0,nx0,v1,oLe_,ownF f (by have:=vFt_ hf; omega),wDu_]
  simp only[ak,fNi_]
  cases left
  ·have l1:(d.Sequent.Right.take k).length≤10:=by rw[List.length_take]; omega
   have l2:(d.Sequent.Right.drop k).length≤10:=by rw[List.length_drop]; omega
   rw[cond_false,s1 d.Sequent.Right hk,ak,ap [] _ (by simp) (by omega),ak,ap _ [f] (by simp; omega) (by simp),ak,s2 d.Sequent.Right hk,ak,ap _ _ (by simp; omega) (by omega),ak]
   unfold iM_
   by_cases h15:d.Rule=15
   ·rw[decide_eq_true h15,cond_true,cond_true,key]; rfl
   ·rw[decide_eq_false h15,cond_false,cond_false,iMw_ (left:=false) (k:=k) nm h15]
    cases (mOn d.Rule).1==false
    ·rw[cond_false,cond_false,key]; rfl
    ·rw[cond_true,cond_true]
     cases decide ((k:Int)≤d.Main)
     ·rw[cond_false,cond_false,key]; rfl
     ·rw[cond_true,cond_true,key]; rfl
  ·have l1:(d.Sequent.Left.take k).length≤10:=by rw[List.length_take]; omega
   have l2:(d.Sequent.Left.drop k).length≤10:=by rw[List.length_drop]; omega
   rw[cond_true,s1 d.Sequent.Left hk,ak,ap [] _ (by simp) (by omega),ak,ap _ [f] (by simp; omega) (by simp),ak,s2 d.Sequent.Left hk,ak,ap _ _ (by simp; omega) (by omega),ak]
   unfold iM_
   by_cases h15:d.Rule=15
   ·rw[decide_eq_true h15,cond_true,cond_true,key]; rfl
   ·rw[decide_eq_false h15,cond_false,cond_false,iMw_ (left:=true) (k:=k) nm h15]
    cases (mOn d.Rule).1==true
    ·rw[cond_false,cond_false,key]; rfl
    ·rw[cond_true,cond_true]
     cases decide ((k:Int)≤d.Main)
     ·rw[cond_false,cond_false,key]; rfl
     ·rw[cond_true,cond_true,key]; rfl
theorem wc_(d:Dt):∀ k,(wkD f left d k).cnt=d.cnt:=by
 refine Dt.ind' (M:=fun d=>∀ k,(wkD f left d k).cnt=d.cnt) (fun d ih k=>?_) d
 rw[Dt.cnt_u,Dt.cnt_u d,wDu_]
 show 1+((d.Parts.map fun p=>wkD f left p (i_ d left k)).map Dt.cnt).sum=_
 rw[List.map_map,show(d.Parts.map (Dt.cnt∘fun p=>wkD f left p (i_ d left k)))=d.Parts.map Dt.cnt from List.map_congr_left fun a ha=>ih a ha _]
theorem iV_(hf:vF_ f=true){l:List Ft}(hl:Vl l 10)(k:Nat):Vl (insL l k f) 11:=
 ⟨fun g hg=>by
  unfold insL at hg
  simp only[List.mem_append,List.mem_singleton] at hg
  rcases hg with (h | rfl) | h
  ·exact hl.val g (List.mem_of_mem_take h)
  ·exact hf
  ·exact hl.val g (List.mem_of_mem_drop h),by
  have:=hl.len
  unfold insL
  simp only[aP,List.length_take,List.length_drop,aO,List.length_nil]; omega⟩
theorem wf_(hf:vF_ f=true)(d:Dt):d.Ok→d.bd→d.okD=true→∀ k,(wkD f left d k).Ok∧(wkD f left d k).bd∧(wkD f left d k).tot+1≤210000*d.cnt:=by
 refine Dt.ind' (M:=fun d=>d.Ok→d.bd→d.okD=true→∀ k,(wkD f left d k).Ok∧(wkD f left d k).bd∧(wkD f left d k).tot+1≤210000*d.cnt) (fun d ih hok hb hd k=>?_) d
 rw[DoD_,aA,a7] at hd
 have N:=nR_ hok hb hd.1
 obtain⟨_,nm,_,_⟩:=np_ hok hb hd.1
 have hu:=hok.u
 have hb':=(Dbu_ d).1 hb
 have S:∃ L R:List Ft,insS d.Sequent left k f=⟨L,R⟩∧Vl L 11∧Vl R 11:=by
  unfold insS
  cases left
  ·exact⟨_,_,rfl,⟨N.vl.val,by have:=N.vl.len; omega⟩,iV_ hf N.vr k⟩
  ·exact⟨_,_,rfl,iV_ hf N.vl k,⟨N.vr.val,by have:=N.vr.len; omega⟩⟩
 obtain⟨L,R,eS,vl,vr⟩:=S
 obtain⟨s1,s2⟩:=Vl.seq vl vr (by omega) (by omega)
 have s3:=vl.sum
 have s4:=vr.sum
 have P:=fun p hp=>ih p hp (Dpo_ hok hp) (Dpb_ hb hp) (hd.2 p hp) (i_ d left k)
 have tm:d.Term.tot≤210:=by
  rcases N.term with⟨_,h⟩ | ⟨_,h⟩
  ·exact(gTO_ h).1
  ·rw[h,zTt_]; omega
 have ct:d.Cut.tot≤8800:=by
  by_cases h15:d.Rule=15
  ·exact vFt_ (N.cut15 h15)
  ·rw[N.cut0 h15,zFt_]; omega
 have hM:InR (iM_ d.Rule d.Main left k):=by
  unfold iM_
  by_cases h15:d.Rule=15
  ·rw[decide_eq_true h15]; exact hu.2.2.1
  ·rw[decide_eq_false h15]
   have:=nm h15
   unfold InR
   cases (mOn d.Rule).1==left<;>cases decide ((k:Int)≤d.Main)<;>simp only[cond_true,cond_false]<;>omega
 have tl:=d_ (g:=fun p=>wkD f left p (i_ d left k)) (c:=210000) d.Parts (fun p hp=>(P p hp).2.2)
 rw[wDu_,eS]
 refine⟨Dt.Ok.mk _ _ _ _ _ _ hu.1 s1 hM hu.2.2.2.1 hu.2.2.2.2.1 (by rw[List.length_map]; exact hu.2.2.2.2.2.1) (fun a ha=>?_),?_,?_⟩
 ·obtain⟨p,hp,rfl⟩:=List.mem_map.1 ha
  exact(P p hp).1
 ·rw[Dbu_]
  refine⟨s2,hb'.2.1,hb'.2.2.1,fun a ha=>?_⟩
  obtain⟨p,hp,rfl⟩:=List.mem_map.1 ha
  exact(P p hp).2.1
 ·rw[Dt.tot_u,Dt.cnt_u]
  show ltot aR L+ltot aR R+(d.Term.tot+(d.Cut.tot+ltot Dt.tot (d.Parts.map fun p=>wkD f left p (i_ d left k))))+1≤_
  rw[Nat.mul_add]; omega
end
end
section
theorem zTO_:(⟨⟨#[]⟩,[]⟩:Tt).Ok:=Tt.Ok.mk _ _ (Nat.zero_le _) (Nat.zero_le _) (fun a ha=>nomatch ha)
theorem zFO_:(⟨0,⟨⟨#[]⟩,[]⟩,⟨#[]⟩,[]⟩:Ft).Ok:=Ft.Ok.mk _ _ _ _ (by simp[InR]) zTO_ (Nat.zero_le _) (Nat.zero_le _) (fun a ha=>nomatch ha)
def lR_(r:Int)(s:Sa)(m:Int):Dt:=.mk r s m ⟨⟨#[]⟩,[]⟩ ⟨0,⟨⟨#[]⟩,[]⟩,⟨#[]⟩,[]⟩ []
def cutR(s:Sa)(f:Ft)(a b:Dt):Dt:=.mk 15 s 0 ⟨⟨#[]⟩,[]⟩ f [a,b]
def zR:Dt:=.mk 0 ⟨[],[]⟩ 0 ⟨⟨#[]⟩,[]⟩ ⟨0,⟨⟨#[]⟩,[]⟩,⟨#[]⟩,[]⟩ []
section
variable{s:Sa}{d:Dt}{xs:List Sa}
theorem a_(h:ia_ s d=some (xs,true))(h15:d.Rule=15)(hc:d.Cut.Ok)(hct:d.Cut.tot≤1048576):xs=[⟨[],[d.Cut]⟩,⟨[d.Cut],[]⟩]:=by
 unfold ia_ at h
 rw[h15] at h
 simp only[decide_true,cond_true,zTi_,vFi_1 d.Cut hct hc,ak] at h
 revert h
 cases decide (d.Main=0)<;>cases zT_ d.Term<;>cases vF_ d.Cut<;>intro h<;>first | exact(congrArg Prod.fst (Option.some.inj h)).symm | cases h
theorem ao_2{a c:Ft}(h:ia_ s d=some (xs,true))(hi:idx (bif (mOn d.Rule).1 then s.Left else s.Right) d.Main=some c)(hp:c.Parts=[a]):
 (d.Rule=3→xs=[⟨[],[a]⟩])∧(d.Rule=4→xs=[⟨[a],[]⟩]):=by
 have i0:idx [a] (0:Int)=some a:=rfl
 refine⟨fun hr=>?_,fun hr=>?_⟩
 all_goals
  have hw:inR d.Rule 1 15=true:=by rw[hr]; rfl
  have hq:inR d.Rule 11 14=false:=by rw[hr]; rfl
  unfold ia_ imF_ ia1_ at h
  rw[hr] at hi hw hq
  simp only[mOn,aY,decide_true,decide_false,cond_true,cond_false] at hi
  simp only[hr,we_,sFo_,zTi_,iiQ_,mOe_,mOn,hw,hq,hi,aY,decide_true,decide_false,cond_true,cond_false,ak] at h
  revert h
  cases same d.Cut (⟨0,⟨⟨#[]⟩,[]⟩,⟨#[]⟩,[]⟩:Ft)
  ·intro h; cases h
  cases zT_ d.Term
  ·intro h; cases h
  rw[cond_true]
  simp only[Bool.not_true,beq_self_eq_true,cond_true]
  generalize inR d.Main _ _=q
  cases q
  ·intro h; cases h
  rw[cond_true]
  generalize decide (c.Op=_)=q
  cases q
  ·intro h; cases h
  ·simp only[ak,cond_true,hp,i0]
   intro h; exact(congrArg Prod.fst (Option.some.inj h)).symm
theorem at_2{a b c:Ft}(h:ia_ s d=some (xs,true))(hi:idx (bif (mOn d.Rule).1 then s.Left else s.Right) d.Main=some c)(hp:c.Parts=[a,b]):
 (d.Rule=5→xs=[⟨[a,b],[]⟩])∧(d.Rule=6→xs=[⟨[],[a]⟩,⟨[],[b]⟩])∧(d.Rule=7→xs=[⟨[a],[]⟩,⟨[b],[]⟩])∧(d.Rule=8→xs=[⟨[],[a,b]⟩])∧
 (d.Rule=9→xs=[⟨[],[a]⟩,⟨[b],[]⟩])∧(d.Rule=10→xs=[⟨[a],[b]⟩]):=by
 have i0:idx [a,b] (0:Int)=some a:=rfl
 have i1:idx [a,b] (1:Int)=some b:=rfl
 refine⟨fun hr=>?_,fun hr=>?_,fun hr=>?_,fun hr=>?_,fun hr=>?_,fun hr=>?_⟩
 all_goals
  have hw:inR d.Rule 1 15=true:=by rw[hr]; rfl
  have hq:inR d.Rule 11 14=false:=by rw[hr]; rfl
  unfold ia_ imF_ ia1_ at h
  rw[hr] at hi hw hq
  simp only[mOn,aY,decide_true,decide_false,cond_true,cond_false] at hi
  simp only[hr,we_,sFo_,zTi_,iiQ_,mOe_,mOn,hw,hq,hi,aY,decide_true,decide_false,cond_true,cond_false,ak] at h
  revert h
  cases same d.Cut (⟨0,⟨⟨#[]⟩,[]⟩,⟨#[]⟩,[]⟩:Ft)
  ·intro h; cases h
  cases zT_ d.Term
  ·intro h; cases h
  rw[cond_true]
  simp only[Bool.not_true,beq_self_eq_true,cond_true]
  generalize inR d.Main _ _=q
  cases q
  ·intro h; cases h
  rw[cond_true]
  generalize decide (c.Op=_)=q
  cases q
  ·intro h; cases h
  ·simp only[ak,cond_true,hp,i0,i1]
   intro h; exact(congrArg Prod.fst (Option.some.inj h)).symm
end
theorem mt_{α β:Type}{f:α→β}{l:List α}{u v:β}(h:l.map f=[u,v]):∃ p q,l=[p,q]∧f p=u∧f q=v:=by
 match l,h with
 | [p,q],h=>
  simp only[aK,List.map_nil,List.cons.injEq,and_true] at h
  exact⟨p,q,rfl,h.1,h.2⟩
theorem mo_{α β:Type}{f:α→β}{l:List α}{u:β}(h:l.map f=[u]):∃ p,l=[p]∧f p=u:=by
 match l,h with
 | [p],h=>
  simp only[aK,List.map_nil,List.cons.injEq,and_true] at h
  exact⟨p,rfl,h⟩
theorem dIl_2{α:Type}(l:List α)(a:α):dI_ (l++[a]) (l.length:Int)=l:=by
 induction l with
 | nil=>rfl
 | cons b l ih=>
  rw[List.cons_append,dI_,aO,if_neg (by omega),show((l.length+1:Nat):Int)-1=(l.length:Int) by omega,ih]
structure Dv(d:Dt):Prop where
 ok:d.Ok
 bd:d.bd
 cnt:d.cnt≤60
 val:d.okD=true
theorem Dv.node{d:Dt}(h:Dv d):nB_ d=true:=by
 have:=h.val
 rw[DoD_,aA] at this
 exact this.1
theorem Dv.part{d p:Dt}(h:Dv d)(hp:p∈d.Parts):Dv p:=by
 have:=h.val
 rw[DoD_,aA,a7] at this
 exact⟨Dpo_ h.ok hp,Dpb_ h.bd hp,by have:=Dpc_ hp; have:=h.cnt; omega,this.2 p hp⟩
theorem Dv.rule{d:Dt}(h:Dv d):∃ xs,ia_ d.Sequent d=some (xs,true)∧d.Parts.map Dt.Sequent=xs.map (prem d.Sequent d):=by
 obtain⟨_,_,h3⟩:=nBb_ h.ok h.bd
 obtain⟨xs,a1,_,_,a4⟩:=(h3 h.node).rule
 exact⟨xs,a1,a4⟩
theorem Dv.RN{d:Dt}(h:Dv d):RN d:=nR_ h.ok h.bd h.node
theorem Dv.validD{d:Dt}(h:Dv d):vD_ d=true:=by
 show(decide (d.cnt≤60)&&d.okD)=true
 rw[h.val,decide_eq_true h.cnt]; rfl
theorem Dv.cut{d:Dt}(h:Dv d)(h15:d.Rule=15):∃ x y,d.Parts=[x,y]∧x.Sequent=⟨d.Sequent.Left,d.Sequent.Right++[d.Cut]⟩∧y.Sequent=⟨d.Sequent.Left++[d.Cut],d.Sequent.Right⟩:=by
 obtain⟨xs,a1,a4⟩:=h.rule
 have hb:=(Dbu_ d).1 h.bd
 rw[a_ a1 h15 h.ok.u.2.2.2.2.1 hb.2.2.1] at a4
 obtain⟨x,y,e,e1,e2⟩:=mt_ a4
 have r1:∀ l,remI d l=-1:=fun l=>by unfold remI; rw[decide_eq_true h15]; rfl
 refine⟨x,y,e,e1.trans ?_,e2.trans ?_⟩
 ·unfold prem nx
  rw[r1,r1,dIn_ _ _ (by omega),dIn_ _ _ (by omega),aZ]
 ·unfold prem nx
  rw[r1,r1,dIn_ _ _ (by omega),dIn_ _ _ (by omega),aZ]
theorem pa_1{x:Dt}{L R:List Ft}{c:Ft}(h0:(decide (x.Rule=15)||s_ x.Rule)=false)(hs:x.Sequent=(bif (mOn x.Rule).1 then⟨L++[c],R⟩ else⟨L,R++[c]⟩))(hm:x.Main=((bif (mOn x.Rule).1 then L else R).length:Int))(u:Sa):prem x.Sequent x u=⟨L++u.Left,R++u.Right⟩:=by
 unfold prem nx remI
 rw[h0,cond_false,cond_false,hs,hm]
 cases (mOn x.Rule).1
 ·show Sa.mk (dI_ L (-1)++u.Left) (dI_ (R++[c]) (R.length:Int)++u.Right)=_
  rw[dIl_2,dIn_ _ _ (by omega)]
 ·show Sa.mk (dI_ (L++[c]) (L.length:Int)++u.Left) (dI_ R (-1)++u.Right)=_
  rw[dIl_2,dIn_ _ _ (by omega)]
theorem il_2{x:Dt}{L R:List Ft}{c:Ft}(hs:x.Sequent=(bif (mOn x.Rule).1 then⟨L++[c],R⟩ else⟨L,R++[c]⟩))(hm:x.Main=((bif (mOn x.Rule).1 then L else R).length:Int)):idx (bif (mOn x.Rule).1 then x.Sequent.Left else x.Sequent.Right) x.Main=some c:=by
 rw[hs,hm]
 cases (mOn x.Rule).1
 ·show idx (R++[c]) (R.length:Int)=_
  rw[in_]; simp
 ·show idx (L++[c]) (L.length:Int)=_
  rw[in_]; simp
theorem iLe_1{α:Type}(l m:List α)(a:α):insL (l++m) l.length a=l++([a]++m):=by
 unfold insL
 rw[List.take_left',List.drop_left',aV]<;>rfl
theorem vFp_{f p:Ft}(hf:vF_ f=true)(hp:p∈f.Parts):vF_ p=true:=by
 obtain⟨h1,h2⟩:=vFi_ hf
 rw[Ft.good_u,aA,a7] at h2
 have:p.cnt≤f.cnt:=by
  rw[Ft.cnt_u f]
  have:=lsm_ Ft.cnt hp
  omega
 unfold vF_
 rw[h2.2 p hp,decide_eq_true (by omega)]; rfl
theorem po_1{f:Ft}(hf:vF_ f=true)(ho:f.Op=4):∃ a,f.Parts=[a]:=by
 obtain⟨_,h2⟩:=vFi_ hf
 rw[Ft.good_u,aA] at h2
 have h:=h2.1
 unfold fC_ at h
 simp only[ho,aY,decide_true,decide_false,cond_true,cond_false,Bool.or_self,aA,decide_eq_true_eq] at h
 match hl:f.Parts,h.1 with
 | [a],_=>exact⟨a,rfl⟩
theorem pt_{f:Ft}(hf:vF_ f=true)(ho:f.Op=5∨f.Op=6∨f.Op=7):∃ a b,f.Parts=[a,b]:=by
 obtain⟨_,h2⟩:=vFi_ hf
 rw[Ft.good_u,aA] at h2
 have h:=h2.1
 unfold fC_ at h
 have:f.Parts.length=2:=by
  rcases ho with ho | ho | ho<;>simp only[ho,aY,decide_true,decide_false,cond_true,cond_false,Bool.or_self,Bool.or_true,Bool.true_or,Bool.or_false,Bool.false_or,aA,decide_eq_true_eq] at h<;>exact h.1
 match hl:f.Parts,this with
 | [a,b],_=>exact⟨a,b,rfl⟩
section
variable{s:Sa}{f:Ft}{a b:Dt}
theorem cRc_:(cutR s f a b).cnt=1+(a.cnt+b.cnt):=by
 rw[Dt.cnt_u]
 show 1+([a,b].map Dt.cnt).sum=_
 simp only[aK,List.map_nil,bn,List.sum_nil,Nat.add_zero]
theorem cRf_(hl:Vl s.Left 11)(hr:Vl s.Right 11)(hf:vF_ f=true)(ha:a.Ok∧a.bd)(hb:b.Ok∧b.bd):(cutR s f a b).Ok∧(cutR s f a b).bd:=by
 obtain⟨s1,s2⟩:=Vl.seq hl hr (by omega) (by omega)
 have t1:=vFt_ hf
 refine⟨Dt.Ok.mk _ _ _ _ _ _ (by simp[InR]) s1 (by simp[InR]) zTO_ (vFO_ hf) (by simp[Big]) (fun p hp=>?_),?_⟩
 ·simp only[List.mem_cons,List.not_mem_nil,or_false] at hp
  rcases hp with rfl | rfl
  ·exact ha.1
  ·exact hb.1
 ·rw[Dbu_]
  refine⟨s2,by show(⟨⟨#[]⟩,[]⟩:Tt).tot≤_; rw[zTt_]; omega,by show f.tot≤_; omega,fun p hp=>?_⟩
  have hp:p∈[a,b]:=hp
  simp only[List.mem_cons,List.not_mem_nil,or_false] at hp
  rcases hp with rfl | rfl
  ·exact ha.2
  ·exact hb.2
theorem cRb_(h:a.okD=false∨b.okD=false):(cutR s f a b).okD=false:=by
 rw[DoD_]
 show(nB_ _&&[a,b].all Dt.okD)=false
 simp only[List.all_cons,List.all_nil,Bool.and_true]
 rcases h with h | h<;>rw[h]<;>simp
theorem cOe_{L R:List Ft}{z:Ft}(hs:a.Sequent=⟨L,R++[z]⟩)(ha:a.bd)(hac:a.cnt≤1000)(hb:b.bd)(hbc:b.cnt≤1000)(hf:vF_ f=true):icO_ f a b=some (cutR ⟨L,R⟩ f a b):=by
 obtain⟨ml,mr⟩:=bm_ ha
 have hlen:=mr.len
 unfold icO_
 rw[cS_1 ml mr,ak]
 rw[hs] at hlen ⊢
 have hlen:(R++[z]).length≤1048576:=hlen
 rw[aP,List.length_singleton] at hlen
 have w:IntKind.i64.wrap (((R++[z]).length:Int)-1)=(R.length:Int):=by rw[aP,List.length_singleton,w_]<;>omega
 have sl:slc (R++[z]) (0:Int) (R.length:Int)=some R:=by
  unfold slc
  rw[if_pos ⟨by omega,by omega,by rw[aP]; omega⟩]
  simp
 show aa (slc (R++[z]) (0:Int) (IntKind.i64.wrap (((R++[z]).length:Int)-1))) _=_
 rw[w,sl,ak,cF_1 f (by have:=vFt_ hf; omega),ak,cD_ ha (by omega),ak,cD_ hb (by omega),ak]
 rfl
theorem lCe_(hl:Vl s.Left 11)(hr:Vl s.Right 11)(hf:vF_ f=true):slC_ s f a b=some (cutR s f a b):=by
 have m0:Mod []:=(Vl.nil 0).mod (by omega)
 unfold slC_
 rw[ownF f (by have:=vFt_ hf; omega),ak,sn_ (-1) (-1) (hl.mod (by omega)) (hr.mod (by omega)) m0 m0,ak]
 unfold nx
 rw[dIn_ _ _ (by omega),dIn_ _ _ (by omega),aZ,aZ]
 rfl
theorem wv_{p:Dt}{f:Ft}{left:Bool}(hp:Dv p)(hf:vF_ f=true)(k:Nat)(hk:k≤(side p.Sequent left).length):
 iWA_ p f left (k:Int)=some (bif vD_ (wkD f left p k) then(wkD f left p k,true) else(zR,false))∧slI_8 p f left (k:Int)=some (wkD f left p k):=by
 obtain⟨f1,f2,_⟩:=wf_ (left:=left) hf p hp.ok hp.bd hp.val k
 have hc:=wc_ (f:=f) (left:=left) p k
 have hc2:=hp.cnt
 refine⟨?_,le_ ⟨_,ws_3 hf p hp.ok hp.bd (by omega) hp.val k hk⟩⟩
 have i:inR (k:Int) 0 ((side p.Sequent left).length:Int)=true:=by unfold inR; simp only[aA,decide_eq_true_eq]; omega
 have w:iw_1 p f left (k:Int)=some (wkD f left p k):=le_ ⟨_,wi_1 hf p hp.ok hp.bd (by omega) hp.val k hk⟩
 unfold iWA_ iiD_
 rw[vDi_ p hp.ok hp.bd (by omega),hp.validD,vFi_1 f (by have:=vFt_ hf; omega) (vFO_ hf),hf,w]
 simp only[cond_true,ak,we_]
 rw[vDi_ _ f1 f2 (by omega)]
 cases left
 ·rw[show inR (k:Int) 0 (p.Sequent.Right.length:Int)=true from i]
  cases vD_ (wkD f false p k)<;>rfl
 ·rw[show inR (k:Int) 0 (p.Sequent.Left.length:Int)=true from i]
  cases vD_ (wkD f true p k)<;>rfl
end
end
section
structure Fine(d e:Dt):Prop where
 ok:e.Ok
 bd:e.bd
 cnt:e.cnt≤d.cnt
theorem lf_{d p:Dt}(hd:Dv d)(hp:p∈d.Parts):Fine d (lR_ p.Rule d.Sequent p.Main):=by
 have hu:=hd.ok.u
 have hb:=(Dbu_ d).1 hd.bd
 have hq:=(Dpo_ hd.ok hp).u
 refine⟨Dt.Ok.mk _ _ _ _ _ _ hq.1 hu.2.1 hq.2.2.1 zTO_ zFO_ (Nat.zero_le _) (fun a ha=>(nomatch ha)),?_,?_⟩
 ·rw[Dbu_]
  exact⟨hb.1,by show(⟨⟨#[]⟩,[]⟩:Tt).tot≤_; rw[zTt_]; omega,by show(⟨0,⟨⟨#[]⟩,[]⟩,⟨#[]⟩,[]⟩:Ft).tot≤_; rw[zFt_]; omega,fun p hp=>(nomatch hp)⟩
 ·have:=Dpc_ hp
  rw[Dt.cnt_u (lR_ _ _ _)]
  show 1+0≤_
  omega
def resR:Option Dt→Dt×Bool
 | some e=>(e,true)
 | none=>(zR,false)
theorem ac_2(l:List Ft)(f:Ft):sCF_ l (fun y0=>ic1_ y0 f)=some (l.any fun g=>same f g):=
 cF_ l (fun a _=>by unfold ic1_; rw[sFo_,ak])
theorem mr_{x:Dt}(hx:Dv x)(h15:x.Rule≠15):0≤x.Main∧x.Main<((bif (mOn x.Rule).1 then x.Sequent.Left else x.Sequent.Right).length:Int):=by
 obtain⟨xs,a1,_⟩:=hx.rule
 have h1:=hx.RN.vl.len
 have h2:=hx.RN.vr.len
 exact am_ a1 h15 (by omega) (by omega)
theorem cb_{d x y:Dt}(hd:Dv d)(hp:d.Parts=[x,y])(hxs:x.Sequent=⟨d.Sequent.Left,d.Sequent.Right++[d.Cut]⟩)(hys:y.Sequent=⟨d.Sequent.Left++[d.Cut],d.Sequent.Right⟩):
 ∃ o:Option Dt,slC_1 d=some (resR o)∧(∀ e,o=some e→Fine d e)∧
  (∀ K:Unit→Option (Dt×Bool×Bool),tL_ (ρ:=(Dt×Bool×Bool)) (σ:=Unit) (forN (fun (i2:Nat) (s2:Unit)=>
   aa (idx d.Parts (i2:Int)) fun v26=>
   aa (ic_ d (i2:Int)) fun v30=>
   bif v30 then
    aa (il_ d v26) fun v33=>
    some (.rt (v33,true,true))
   else
    some (.nx ())) d.Parts.length 0 ()) K=match o with | some e=>some (e,true,true) | none=>K ()):=by
 have hx:Dv x:=hd.part (by rw[hp]; simp)
 have hy:Dv y:=hd.part (by rw[hp]; simp)
 have fx:=lf_ hd (p:=x) (by rw[hp]; simp)
 have fy:=lf_ hd (p:=y) (by rw[hp]; simp)
 have N:=hd.RN
 have m0:Mod []:=(Vl.nil 0).mod (by omega)
 have i0:idx d.Parts ((0:Nat):Int)=some x:=by rw[hp]; rfl
 have i1:idx d.Parts ((1:Nat):Int)=some y:=by rw[hp]; rfl
 have j0:idx d.Parts (0:Int)=some x:=i0
 have j1:idx d.Parts (1:Int)=some y:=i1
 have hlen:d.Parts.length=2:=by rw[hp]; rfl
 have lf:∀ p,il_ d p=some (lR_ p.Rule d.Sequent p.Main):=fun p=>by
  unfold il_
  rw[cS_1 (N.vl.mod (by omega)) (N.vr.mod (by omega)),ak]; rfl
 have nx0:slN_1 d.Sequent (-1) [] (-1) []=some d.Sequent:=by
  rw[sn_ (-1) (-1) (N.vl.mod (by omega)) (N.vr.mod (by omega)) m0 m0]
  unfold nx
  rw[dIn_ _ _ (by omega),dIn_ _ _ (by omega),aZ,aZ]
 -- what the loop does
 have loop:∀ c0 c1:Bool,ic_ d (0:Int)=some c0→(c0=false→ic_ d (1:Int)=some c1)→
  ∀ K:Unit→Option (Dt×Bool×Bool),tL_ (ρ:=(Dt×Bool×Bool)) (σ:=Unit) (forN (fun (i2:Nat) (s2:Unit)=>
   aa (idx d.Parts (i2:Int)) fun v26=>
   aa (ic_ d (i2:Int)) fun v30=>
   bif v30 then
    aa (il_ d v26) fun v33=>
    some (.rt (v33,true,true))
   else
    some (.nx ())) d.Parts.length 0 ()) K=match (bif c0 then some (lR_ x.Rule d.Sequent x.Main) else bif c1 then some (lR_ y.Rule d.Sequent y.Main) else none) with | some e=>some (e,true,true) | none=>K ():=by
  intro c0 c1 h0 h1 K
  rw[hlen]
  cases c0
  ·rw[fNn_ (s':=()) (by rw[i0,ak,show((0:Nat):Int)=0 from rfl,h0]; rfl)]
   have h1:=h1 rfl
   cases c1
   ·rw[fNn_ (s':=()) (by rw[show((0+1:Nat):Int)=((1:Nat):Int) from rfl,i1,ak,show((1:Nat):Int)=1 from rfl,h1]; rfl)]
    rfl
   ·rw[fNr_ (r:=(lR_ y.Rule d.Sequent y.Main,true,true)) (by rw[show((0+1:Nat):Int)=((1:Nat):Int) from rfl,i1,ak,show((1:Nat):Int)=1 from rfl,h1,ak,cond_true,lf]; rfl)]
    rfl
  ·rw[fNr_ (r:=(lR_ x.Rule d.Sequent x.Main,true,true)) (by rw[i0,ak,show((0:Nat):Int)=0 from rfl,h0,ak,cond_true,lf]; rfl)]
   rfl
 have cx:∃ c0,ic_ d (0:Int)=some c0∧(c0=true→slC_1 d=some (lR_ x.Rule d.Sequent x.Main,true))∧
  (c0=false→slC_1 d=(bif decide (y.Rule=(1:Int)) then
   bif decide (y.Main<(d.Sequent.Left.length:Int)) then
    some (lR_ 1 d.Sequent y.Main,true)
   else
    bif decide (y.Rule=(2:Int)) then
     some (lR_ 2 d.Sequent y.Main,true)
    else
     some (zR,false)
   else
    bif decide (y.Rule=(2:Int)) then
     some (lR_ 2 d.Sequent y.Main,true)
    else
     some (zR,false))):=by
  unfold ic_ slC_1
  rw[j0,j1,nx0]
  simp only[ak,aY,decide_false,cond_false,show((1:Int)=0)=False from by simp]
  by_cases h1:x.Rule=1
  ·obtain⟨m1,m2⟩:=mr_ hx (by omega)
   rw[h1,hxs] at m2
   obtain⟨g,hg⟩:∃ g,idx d.Sequent.Left x.Main=some g:=⟨_,ii_1 m1 m2⟩
   have hg2:idx x.Sequent.Left x.Main=some g:=by rw[hxs]; exact hg
   simp only[hg2,hg,ac_2,hs_,h1,aY,decide_true,decide_false,cond_true,cond_false,ak]
   cases decide (g.Op=2)
   ·cases d.Sequent.Right.any fun h=>same g h
    ·exact⟨false,rfl,fun h=>(nomatch h),fun _=>rfl⟩
    ·exact⟨true,rfl,fun _=>rfl,fun h=>(nomatch h)⟩
   ·exact⟨true,rfl,fun _=>rfl,fun h=>(nomatch h)⟩
  by_cases h2:x.Rule=2
  ·obtain⟨m1,m2⟩:=mr_ hx (by omega)
   rw[h2,hxs] at m2
   have m2:x.Main<((d.Sequent.Right++[d.Cut]).length:Int):=m2
   rw[aP,List.length_singleton] at m2
   simp only[h2,aY,decide_true,decide_false,cond_true,cond_false,ak]
   by_cases e:x.Main=(d.Sequent.Right.length:Int)
   ·rw[decide_eq_true e,decide_eq_false (show ¬ x.Main<(d.Sequent.Right.length:Int) by omega)]
    exact⟨false,rfl,fun h=>(nomatch h),fun _=>rfl⟩
   ·rw[decide_eq_false e,decide_eq_true (show x.Main<(d.Sequent.Right.length:Int) by omega)]
    exact⟨true,rfl,fun _=>rfl,fun h=>(nomatch h)⟩
  ·rw[decide_eq_false h1,decide_eq_false h2]
   exact⟨false,rfl,fun h=>(nomatch h),fun _=>rfl⟩
 have cy:∃ c1,ic_ d (1:Int)=some c1∧(bif decide (y.Rule=(1:Int)) then
  bif decide (y.Main<(d.Sequent.Left.length:Int)) then
   some (lR_ 1 d.Sequent y.Main,true)
  else
   bif decide (y.Rule=(2:Int)) then
    some (lR_ 2 d.Sequent y.Main,true)
   else
    some (zR,false)
  else
   bif decide (y.Rule=(2:Int)) then
    some (lR_ 2 d.Sequent y.Main,true)
   else
    some (zR,false))=some (resR (bif c1 then some (lR_ y.Rule d.Sequent y.Main) else none)):=by
  unfold ic_
  rw[j1]
  simp only[ak,decide_true,cond_true]
  by_cases h1:y.Rule=1
  ·obtain⟨m1,m2⟩:=mr_ hy (by omega)
   rw[h1,hys] at m2
   have m2:y.Main<((d.Sequent.Left++[d.Cut]).length:Int):=m2
   rw[aP,List.length_singleton] at m2
   simp only[h1,aY,decide_true,decide_false,cond_true,cond_false]
   by_cases e:y.Main=(d.Sequent.Left.length:Int)
   ·rw[decide_eq_true e,decide_eq_false (show ¬ y.Main<(d.Sequent.Left.length:Int) by omega)]
    exact⟨false,rfl,rfl⟩
   ·rw[decide_eq_false e,decide_eq_true (show y.Main<(d.Sequent.Left.length:Int) by omega)]
    exact⟨true,rfl,rfl⟩
  by_cases h2:y.Rule=2
  ·simp only[h2,aY,decide_true,decide_false,cond_true,cond_false]
   exact⟨true,rfl,rfl⟩
  ·rw[decide_eq_false h1,decide_eq_false h2]
   exact⟨false,rfl,rfl⟩
 obtain⟨c0,a1,a2,a3⟩:=cx
 obtain⟨c1,b1,b2⟩:=cy
 have L:=loop c0 c1 a1 (fun _=>b1)
 cases c0
 ·refine⟨bif c1 then some (lR_ y.Rule d.Sequent y.Main) else none,(a3 rfl).trans b2,fun e he=>?_,L⟩
  cases c1
  ·cases he
  ·cases he; exact fy
 ·exact⟨some (lR_ x.Rule d.Sequent x.Main),a2 rfl,fun e he=>by cases he; exact fx,L⟩
structure RR(d out:Dt)(found ok:Bool)(out':Dt):Prop where
 good:found=true→ok=true→out'=out
 bad:found=true→ok=false→out'.okD=false
 fine:found=true→Fine d out'
theorem RR.none{d a b:Dt}{ok:Bool}:RR d a false ok b:=⟨fun h=>(nomatch h),fun h=>(nomatch h),fun h=>(nomatch h)⟩
theorem RR.same{d a:Dt}{f:Bool}(h:Fine d a):RR d a f true a:=⟨fun _ _=>rfl,fun _ h=>(nomatch h),fun _=>h⟩
theorem wb_{p:Dt}{f:Ft}{left:Bool}{k:Nat}(hp:Dv p)(h:vD_ (wkD f left p k)=false):(wkD f left p k).okD=false:=by
 unfold vD_ at h
 rw[wc_,decide_eq_true hp.cnt] at h
 exact h
theorem ct_{d x y:Dt}(hp:d.Parts=[x,y]):d.cnt=1+(x.cnt+y.cnt):=by
 rw[Dt.cnt_u,hp]; simp only[aK,List.map_nil,bn,List.sum_nil,Nat.add_zero]
theorem co_{d x:Dt}(hp:d.Parts=[x]):d.cnt=1+x.cnt:=by
 rw[Dt.cnt_u,hp]; simp only[aK,List.map_nil,bn,List.sum_nil,Nat.add_zero]
theorem oe_{d:Dt}(h:Dv d):slO_4 d=some d:=le_ ⟨_,oD_ d h.bd (by have:=h.cnt; omega)⟩
theorem Vl.snoc{l:List Ft}{f:Ft}(h:Vl l 10)(hf:vF_ f=true):Vl (l++[f]) 11:=
 ⟨fun g hg=>by
  rcases List.mem_append.1 hg with h1 | h1
  ·exact h.val g h1
  ·rw[List.mem_singleton.1 h1]; exact hf,by have:=h.len; rw[aP,List.length_singleton]; omega⟩
theorem Vl.up{l:List Ft}(h:Vl l 10):Vl l 11:=⟨h.val,by have:=h.len; omega⟩
set_option maxHeartbeats 2000000 in
theorem rb_2{d:Dt}(hd:Dv d)(h15:d.Rule=15):∃ out found ok out',ir_ d=some (out,found,ok)∧slR_3 d=some (out',found)∧RR d out found ok out':=by
 obtain⟨x,y,hp,hxs,hys⟩:=hd.cut h15
 obtain⟨o,o1,o2,o3⟩:=cb_ hd hp hxs hys
 have hx:Dv x:=hd.part (by rw[hp]; simp)
 have hy:Dv y:=hd.part (by rw[hp]; simp)
 have N:=hd.RN
 have l10:=N.vl.len
 have r10:=N.vr.len
 have hc:=N.cut15 h15
 have j0:idx d.Parts (0:Int)=some x:=by rw[hp]; rfl
 have j1:idx d.Parts (1:Int)=some y:=by rw[hp]; rfl
 unfold ir_ slR_3
 rw[o3,o1,ak]
 cases o with
 | some e=>exact⟨e,true,true,e,rfl,rfl,RR.same (o2 e rfl)⟩
 | none=>
 simp only[resR,cond_false]
 rw[j0,j1]
 simp only[ak,irF_2,lIe_]
 by_cases hop:4≤d.Cut.Op∧d.Cut.Op≤7
 rotate_left
 ·have:inR d.Cut.Op 4 7=false:=decide_eq_false hop
  rw[if_neg hop,this]
  exact⟨_,_,_,zR,rfl,rfl,RR.none⟩
 have e0:inR d.Cut.Op 4 7=true:=decide_eq_true hop
 have w1:IntKind.i64.wrap ((3:Int)+IntKind.i64.wrap ((2:Int)*IntKind.i64.wrap (d.Cut.Op-4)))=2*d.Cut.Op-5:=by
  rw[w_ (n:=d.Cut.Op-4) (by omega) (by omega),w_ (n:=2*(d.Cut.Op-4)) (by omega) (by omega),w_ (by omega) (by omega)]; omega
 have w2:IntKind.i64.wrap (2*d.Cut.Op-5+1)=2*d.Cut.Op-4:=by rw[w_ (by omega) (by omega)]; omega
 rw[if_pos hop,e0,w1]
 simp only[if_true,Int.add_zero,cond_true]
 rw[w2,decide_eq_false (show ¬ (2*d.Cut.Op-5=0) by omega),cond_false]
 by_cases q1:x.Rule=2*d.Cut.Op-4
 rotate_left
 ·rw[decide_eq_false q1]; exact⟨_,_,_,zR,rfl,rfl,RR.none⟩
 by_cases q2:y.Rule=2*d.Cut.Op-5
 rotate_left
 ·rw[decide_eq_true q1,decide_eq_false q2]; exact⟨_,_,_,zR,rfl,rfl,RR.none⟩
 by_cases q3:x.Main=(d.Sequent.Right.length:Int)
 rotate_left
 ·rw[decide_eq_true q1,decide_eq_true q2,decide_eq_false q3]; exact⟨_,_,_,zR,rfl,rfl,RR.none⟩
 by_cases q4:y.Main=(d.Sequent.Left.length:Int)
 rotate_left
 ·rw[decide_eq_true q1,decide_eq_true q2,decide_eq_true q3,decide_eq_false q4]; exact⟨_,_,_,zR,rfl,rfl,RR.none⟩
 rw[decide_eq_true q1,decide_eq_true q2,decide_eq_true q3,decide_eq_true q4]
 simp only[cond_true]
 obtain⟨xs,ax,bx⟩:=hx.rule
 obtain⟨ys,ay,By⟩:=hy.rule
 -- the main formulas
 have mx:(mOn x.Rule).1=false:=by
  rcases (by omega:d.Cut.Op=4∨d.Cut.Op=5∨d.Cut.Op=6∨d.Cut.Op=7) with h | h | h | h<;>rw[q1,h]<;>rfl
 have my:(mOn y.Rule).1=true:=by
  rcases (by omega:d.Cut.Op=4∨d.Cut.Op=5∨d.Cut.Op=6∨d.Cut.Op=7) with h | h | h | h<;>rw[q2,h]<;>rfl
 have sx:(decide (x.Rule=15)||s_ x.Rule)=false:=by
  rcases (by omega:d.Cut.Op=4∨d.Cut.Op=5∨d.Cut.Op=6∨d.Cut.Op=7) with h | h | h | h<;>rw[q1,h]<;>rfl
 have sy:(decide (y.Rule=15)||s_ y.Rule)=false:=by
  rcases (by omega:d.Cut.Op=4∨d.Cut.Op=5∨d.Cut.Op=6∨d.Cut.Op=7) with h | h | h | h<;>rw[q2,h]<;>rfl
 have ux:x.Sequent=(bif (mOn x.Rule).1 then⟨d.Sequent.Left++[d.Cut],d.Sequent.Right⟩ else⟨d.Sequent.Left,d.Sequent.Right++[d.Cut]⟩):=by rw[mx]; exact hxs
 have uy:y.Sequent=(bif (mOn y.Rule).1 then⟨d.Sequent.Left++[d.Cut],d.Sequent.Right⟩ else⟨d.Sequent.Left,d.Sequent.Right++[d.Cut]⟩):=by rw[my]; exact hys
 have vx:x.Main=((bif (mOn x.Rule).1 then d.Sequent.Left else d.Sequent.Right).length:Int):=by rw[mx]; exact q3
 have vy:y.Main=((bif (mOn y.Rule).1 then d.Sequent.Left else d.Sequent.Right).length:Int):=by rw[my]; exact q4
 have ix:=il_2 ux vx
 have iy:=il_2 uy vy
 rw[show prem x.Sequent x=fun u=>⟨d.Sequent.Left++u.Left,d.Sequent.Right++u.Right⟩ from funext fun u=>pa_1 sx ux vx u] at bx
 rw[show prem y.Sequent y=fun u=>⟨d.Sequent.Left++u.Left,d.Sequent.Right++u.Right⟩ from funext fun u=>pa_1 sy uy vy u] at By
 have hS:d.Sequent=⟨d.Sequent.Left,d.Sequent.Right⟩:=rfl
 have m0:Mod []:=(Vl.nil 0).mod (by omega)
 have nxl:∀ a,vF_ a=true→slN_1 d.Sequent (-1) [a] (-1) []=some ⟨d.Sequent.Left++[a],d.Sequent.Right⟩:=fun a ha=>by
  rw[sn_ (-1) (-1) (N.vl.mod (by omega)) (N.vr.mod (by omega)) ⟨fun f hf=>by rw[List.mem_singleton.1 hf]; have:=vFt_ ha; omega,by simp⟩ m0]
  unfold nx
  rw[dIn_ _ _ (by omega),dIn_ _ _ (by omega),aZ]
 have nxr:∀ a,vF_ a=true→slN_1 d.Sequent (-1) [] (-1) [a]=some ⟨d.Sequent.Left,d.Sequent.Right++[a]⟩:=fun a ha=>by
  rw[sn_ (-1) (-1) (N.vl.mod (by omega)) (N.vr.mod (by omega)) m0 ⟨fun f hf=>by rw[List.mem_singleton.1 hf]; have:=vFt_ ha; omega,by simp⟩]
  unfold nx
  rw[dIn_ _ _ (by omega),dIn_ _ _ (by omega),aZ]
 have dc:=ct_ hp
 have d60:=hd.cnt
 by_cases h4:d.Cut.Op=4
 ·obtain⟨a,ha⟩:=po_1 hc h4
  have va:=vFp_ hc (p:=a) (by rw[ha]; simp)
  obtain⟨_,k1⟩:=ao_2 ax ix ha
  obtain⟨k2,_⟩:=ao_2 ay iy ha
  rw[k1 (by omega)] at bx
  rw[k2 (by omega)] at By
  obtain⟨x0,px,tx⟩:=mo_ bx
  obtain⟨y0,py,ty⟩:=mo_ By
  have hx0:Dv x0:=hx.part (by rw[px]; simp)
  have hy0:Dv y0:=hy.part (by rw[py]; simp)
  have cx:=co_ px
  have cy:=co_ py
  have f:=cRf_ (s:=d.Sequent) (f:=a) (a:=y0) (b:=x0) N.vl.up N.vr.up va ⟨hy0.ok,hy0.bd⟩ ⟨hx0.ok,hx0.bd⟩
  have ec:icO_ a y0 x0=some (cutR d.Sequent a y0 x0):=cOe_ (L:=d.Sequent.Left) (R:=d.Sequent.Right) (z:=a) (ty.trans (by simp only[aZ])) hy0.bd (by have:=hy0.cnt; omega) hx0.bd (by have:=hx0.cnt; omega) va
  rw[ha,px,py]
  simp only[h4,decide_true,cond_true,show idx [a] (0:Int)=some a from rfl,show idx [x0] (0:Int)=some x0 from rfl,show idx [y0] (0:Int)=some y0 from rfl,ak,ec,oe_ hx0,oe_ hy0,lCe_ N.vl.up N.vr.up va]
  exact⟨_,_,_,_,rfl,rfl,RR.same ⟨f.1,f.2,by rw[cRc_]; omega⟩⟩
 obtain⟨a,b,hab⟩:=pt_ hc (by omega)
 have va:=vFp_ hc (p:=a) (by rw[hab]; simp)
 have vb:=vFp_ hc (p:=b) (by rw[hab]; simp)
 have g0:idx [a,b] (0:Int)=some a:=rfl
 have g1:idx [a,b] (1:Int)=some b:=rfl
 obtain⟨_,x6,_,x8,_,x10⟩:=at_2 ax ix hab
 obtain⟨y5,_,y7,_,y9,_⟩:=at_2 ay iy hab
 rw[hab]
 by_cases h5:d.Cut.Op=5
 ·rw[x6 (by omega)] at bx
  rw[y5 (by omega)] at By
  obtain⟨x0,x1,px,tx0,tx1⟩:=mt_ bx
  obtain⟨y0,py,ty⟩:=mo_ By
  have hx0:Dv x0:=hx.part (by rw[px]; simp)
  have hx1:Dv x1:=hx.part (by rw[px]; simp)
  have hy0:Dv y0:=hy.part (by rw[py]; simp)
  have cx:=ct_ px
  have cy:=co_ py
  have tx0:x0.Sequent=⟨d.Sequent.Left,d.Sequent.Right++[a]⟩:=tx0.trans (by simp only[aZ])
  have tx1:x1.Sequent=⟨d.Sequent.Left,d.Sequent.Right++[b]⟩:=tx1.trans (by simp only[aZ])
  obtain⟨k1,k2⟩:=wv_ (left:=true) hx1 va d.Sequent.Left.length (by rw[tx1]; exact Nat.le_refl _)
  obtain⟨f1,f2,_⟩:=wf_ (left:=true) va x1 hx1.ok hx1.bd hx1.val d.Sequent.Left.length
  have f3:=wc_ (f:=a) (left:=true) x1 d.Sequent.Left.length
  have bad:=fun h=>wb_ (f:=a) (left:=true) (k:=d.Sequent.Left.length) hx1 h
  have tw:(wkD a true x1 d.Sequent.Left.length).Sequent=⟨d.Sequent.Left++[a],d.Sequent.Right++[b]⟩:=by
   rw[wDu_]
   show insS x1.Sequent true d.Sequent.Left.length a=_
   rw[tx1]
   have:=iLe_1 d.Sequent.Left [] a
   rw[aZ,aZ] at this
   show Sa.mk (insL d.Sequent.Left d.Sequent.Left.length a) _=_
   rw[this]
  generalize wkD a true x1 d.Sequent.Left.length=W at k1 k2 f1 f2 f3 bad tw
  have c1:=hx1.cnt
  have gi:=cRf_ (s:=⟨d.Sequent.Left++[a],d.Sequent.Right⟩) (f:=b) (a:=W) (b:=y0) (N.vl.snoc va) N.vr.up vb ⟨f1,f2⟩ ⟨hy0.ok,hy0.bd⟩
  have go:=cRf_ (s:=d.Sequent) (f:=a) (a:=x0) (b:=cutR ⟨d.Sequent.Left++[a],d.Sequent.Right⟩ b W y0) N.vl.up N.vr.up va ⟨hx0.ok,hx0.bd⟩ gi
  have ci:=cRc_ (s:=⟨d.Sequent.Left++[a],d.Sequent.Right⟩) (f:=b) (a:=W) (b:=y0)
  have co:=cRc_ (s:=d.Sequent) (f:=a) (a:=x0) (b:=cutR ⟨d.Sequent.Left++[a],d.Sequent.Right⟩ b W y0)
  have e1:icO_ b W y0=some (cutR ⟨d.Sequent.Left++[a],d.Sequent.Right⟩ b W y0):=cOe_ tw f2 (by omega) hy0.bd (by omega) vb
  have e2:icO_ a x0 (cutR ⟨d.Sequent.Left++[a],d.Sequent.Right⟩ b W y0)=some (cutR d.Sequent a x0 (cutR ⟨d.Sequent.Left++[a],d.Sequent.Right⟩ b W y0)):=cOe_ tx0 hx0.bd (by omega) gi.2 (by omega) va
  have fin:Fine d (cutR d.Sequent a x0 (cutR ⟨d.Sequent.Left++[a],d.Sequent.Right⟩ b W y0)):=⟨go.1,go.2,by omega⟩
  rw[px,py]
  simp only[h5,aY,decide_true,decide_false,cond_true,cond_false,g0,g1,show idx [x0,x1] (0:Int)=some x0 from rfl,show idx [x0,x1] (1:Int)=some x1 from rfl,show idx [y0] (0:Int)=some y0 from rfl,ak,k1,k2,oe_ hx0,oe_ hy0,nxl a va,lCe_ (s:=⟨d.Sequent.Left++[a],d.Sequent.Right⟩) (N.vl.snoc va) N.vr.up vb,lCe_ N.vl.up N.vr.up va]
  cases hv:vD_ W
  ·exact⟨_,_,_,_,rfl,rfl,⟨fun _ h=>(nomatch h),fun _ _=>cRb_ (.inr (cRb_ (.inl (bad hv)))),fun _=>fin⟩⟩
  ·simp only[cond_true,e1,e2,ak]
   exact⟨_,_,_,_,rfl,rfl,RR.same fin⟩
 by_cases h6:d.Cut.Op=6
 ·rw[x8 (by omega)] at bx
  rw[y7 (by omega)] at By
  obtain⟨x0,px,tx0⟩:=mo_ bx
  obtain⟨y0,y1,py,ty0,ty1⟩:=mt_ By
  have hx0:Dv x0:=hx.part (by rw[px]; simp)
  have hy0:Dv y0:=hy.part (by rw[py]; simp)
  have hy1:Dv y1:=hy.part (by rw[py]; simp)
  have cx:=co_ px
  have cy:=ct_ py
  have tx0:x0.Sequent=⟨d.Sequent.Left,(d.Sequent.Right++[a])++[b]⟩:=tx0.trans (by simp only[aZ,aV,List.cons_append,List.nil_append])
  have ty1:y1.Sequent=⟨d.Sequent.Left++[b],d.Sequent.Right⟩:=ty1.trans (by simp only[aZ])
  obtain⟨k1,k2⟩:=wv_ (left:=false) hy1 va d.Sequent.Right.length (by rw[ty1]; exact Nat.le_refl _)
  obtain⟨f1,f2,_⟩:=wf_ (left:=false) va y1 hy1.ok hy1.bd hy1.val d.Sequent.Right.length
  have f3:=wc_ (f:=a) (left:=false) y1 d.Sequent.Right.length
  have bad:=fun h=>wb_ (f:=a) (left:=false) (k:=d.Sequent.Right.length) hy1 h
  generalize wkD a false y1 d.Sequent.Right.length=W at k1 k2 f1 f2 f3 bad
  have c1:=hy1.cnt
  have gi:=cRf_ (s:=⟨d.Sequent.Left,d.Sequent.Right++[a]⟩) (f:=b) (a:=x0) (b:=W) N.vl.up (N.vr.snoc va) vb ⟨hx0.ok,hx0.bd⟩ ⟨f1,f2⟩
  have go:=cRf_ (s:=d.Sequent) (f:=a) (a:=cutR ⟨d.Sequent.Left,d.Sequent.Right++[a]⟩ b x0 W) (b:=y0) N.vl.up N.vr.up va gi ⟨hy0.ok,hy0.bd⟩
  have ci:=cRc_ (s:=⟨d.Sequent.Left,d.Sequent.Right++[a]⟩) (f:=b) (a:=x0) (b:=W)
  have co:=cRc_ (s:=d.Sequent) (f:=a) (a:=cutR ⟨d.Sequent.Left,d.Sequent.Right++[a]⟩ b x0 W) (b:=y0)
  have e1:icO_ b x0 W=some (cutR ⟨d.Sequent.Left,d.Sequent.Right++[a]⟩ b x0 W):=cOe_ tx0 hx0.bd (by omega) f2 (by omega) vb
  have e2:icO_ a (cutR ⟨d.Sequent.Left,d.Sequent.Right++[a]⟩ b x0 W) y0=some (cutR d.Sequent a (cutR ⟨d.Sequent.Left,d.Sequent.Right++[a]⟩ b x0 W) y0):=cOe_ (L:=d.Sequent.Left) (R:=d.Sequent.Right) (z:=a) rfl gi.2 (by omega) hy0.bd (by omega) va
  have fin:Fine d (cutR d.Sequent a (cutR ⟨d.Sequent.Left,d.Sequent.Right++[a]⟩ b x0 W) y0):=⟨go.1,go.2,by omega⟩
  rw[px,py]
  simp only[h6,aY,decide_true,decide_false,cond_true,cond_false,g0,g1,show idx [y0,y1] (0:Int)=some y0 from rfl,show idx [y0,y1] (1:Int)=some y1 from rfl,show idx [x0] (0:Int)=some x0 from rfl,ak,k1,k2,oe_ hx0,oe_ hy0,nxr a va,lCe_ (s:=⟨d.Sequent.Left,d.Sequent.Right++[a]⟩) N.vl.up (N.vr.snoc va) vb,lCe_ N.vl.up N.vr.up va]
  cases hv:vD_ W
  ·exact⟨_,_,_,_,rfl,rfl,⟨fun _ h=>(nomatch h),fun _ _=>cRb_ (.inl (cRb_ (.inr (bad hv)))),fun _=>fin⟩⟩
  ·simp only[cond_true,e1,e2,ak]
   exact⟨_,_,_,_,rfl,rfl,RR.same fin⟩
 ·have h7:d.Cut.Op=7:=by omega
  rw[x10 (by omega)] at bx
  rw[y9 (by omega)] at By
  obtain⟨x0,px,tx0⟩:=mo_ bx
  obtain⟨y0,y1,py,ty0,ty1⟩:=mt_ By
  have hx0:Dv x0:=hx.part (by rw[px]; simp)
  have hy0:Dv y0:=hy.part (by rw[py]; simp)
  have hy1:Dv y1:=hy.part (by rw[py]; simp)
  have cx:=co_ px
  have cy:=ct_ py
  have tx0:x0.Sequent=⟨d.Sequent.Left++[a],d.Sequent.Right++[b]⟩:=tx0
  have ty0:y0.Sequent=⟨d.Sequent.Left,d.Sequent.Right++[a]⟩:=ty0.trans (by simp only[aZ])
  have ty1:y1.Sequent=⟨d.Sequent.Left++[b],d.Sequent.Right⟩:=ty1.trans (by simp only[aZ])
  obtain⟨k1,k2⟩:=wv_ (left:=true) hy1 va d.Sequent.Left.length (by rw[ty1]; show _≤(d.Sequent.Left++[b]).length; rw[aP]; omega)
  obtain⟨f1,f2,_⟩:=wf_ (left:=true) va y1 hy1.ok hy1.bd hy1.val d.Sequent.Left.length
  have f3:=wc_ (f:=a) (left:=true) y1 d.Sequent.Left.length
  have bad:=fun h=>wb_ (f:=a) (left:=true) (k:=d.Sequent.Left.length) hy1 h
  generalize wkD a true y1 d.Sequent.Left.length=W at k1 k2 f1 f2 f3 bad
  have c1:=hy1.cnt
  have gi:=cRf_ (s:=⟨d.Sequent.Left++[a],d.Sequent.Right⟩) (f:=b) (a:=x0) (b:=W) (N.vl.snoc va) N.vr.up vb ⟨hx0.ok,hx0.bd⟩ ⟨f1,f2⟩
  have go:=cRf_ (s:=d.Sequent) (f:=a) (a:=y0) (b:=cutR ⟨d.Sequent.Left++[a],d.Sequent.Right⟩ b x0 W) N.vl.up N.vr.up va ⟨hy0.ok,hy0.bd⟩ gi
  have ci:=cRc_ (s:=⟨d.Sequent.Left++[a],d.Sequent.Right⟩) (f:=b) (a:=x0) (b:=W)
  have co:=cRc_ (s:=d.Sequent) (f:=a) (a:=y0) (b:=cutR ⟨d.Sequent.Left++[a],d.Sequent.Right⟩ b x0 W)
  have e1:icO_ b x0 W=some (cutR ⟨d.Sequent.Left++[a],d.Sequent.Right⟩ b x0 W):=cOe_ tx0 hx0.bd (by omega) f2 (by omega) vb
  have e2:icO_ a y0 (cutR ⟨d.Sequent.Left++[a],d.Sequent.Right⟩ b x0 W)=some (cutR d.Sequent a y0 (cutR ⟨d.Sequent.Left++[a],d.Sequent.Right⟩ b x0 W)):=cOe_ ty0 hy0.bd (by omega) gi.2 (by omega) va
  have fin:Fine d (cutR d.Sequent a y0 (cutR ⟨d.Sequent.Left++[a],d.Sequent.Right⟩ b x0 W)):=⟨go.1,go.2,by omega⟩
  rw[px,py]
  simp only[h7,aY,decide_true,decide_false,cond_true,cond_false,g0,g1,show idx [y0,y1] (0:Int)=some y0 from rfl,show idx [y0,y1] (1:Int)=some y1 from rfl,show idx [x0] (0:Int)=some x0 from rfl,ak,k1,k2,oe_ hx0,oe_ hy0,nxl a va,lCe_ (s:=⟨d.Sequent.Left++[a],d.Sequent.Right⟩) (N.vl.snoc va) N.vr.up vb,lCe_ N.vl.up N.vr.up va]
  cases hv:vD_ W
  ·exact⟨_,_,_,_,rfl,rfl,⟨fun _ h=>(nomatch h),fun _ _=>cRb_ (.inr (cRb_ (.inr (bad hv)))),fun _=>fin⟩⟩
  ·simp only[cond_true,e1,e2,ak]
   exact⟨_,_,_,_,rfl,rfl,RR.same fin⟩
end
section
theorem sa_3{α:Type}(pre l:List α)(a x:α):(pre++a::l).set pre.length x=pre++x::l:=by simp
theorem pf_{d a e:Dt}{pre l:List Dt}(hd:Dv d)(hp:d.Parts=pre++a::l)(he:Fine a e):Fine d (.mk d.Rule d.Sequent d.Main d.Term d.Cut (pre++e::l)):=by
 have hu:=hd.ok.u
 have hb:=(Dbu_ d).1 hd.bd
 have hmem:∀ p∈pre++e::l,p=e∨p∈d.Parts:=fun p hp'=>by
  rw[hp]
  simp only[List.mem_append,List.mem_cons] at hp' ⊢
  rcases hp' with h | h | h
  ·exact .inr (.inl h)
  ·exact .inl h
  ·exact .inr (.inr (.inr h))
 refine⟨Dt.Ok.mk _ _ _ _ _ _ hu.1 hu.2.1 hu.2.2.1 hu.2.2.2.1 hu.2.2.2.2.1 ?_ (fun p hp'=>?_),?_,?_⟩
 ·have:=hu.2.2.2.2.2.1
  rw[hp] at this
  have e1:(pre++e::l).length=(pre++a::l).length:=by simp
  rw[e1]; exact this
 ·rcases hmem p hp' with rfl | h
  ·exact he.ok
  ·exact Dpo_ hd.ok h
 ·rw[Dbu_]
  refine⟨hb.1,hb.2.1,hb.2.2.1,fun p hp'=>?_⟩
  rcases hmem p hp' with rfl | h
  ·exact he.bd
  ·exact hb.2.2.2 p h
 ·have:=he.cnt
  rw[Dt.cnt_u,Dt.cnt_u d,hp]
  show 1+((pre++e::l).map Dt.cnt).sum≤_
  simp only[List.map_append,aK,List.sum_append,bn]
  omega
theorem pb_{d e:Dt}{pre l:List Dt}(he:e.okD=false):(Dt.mk d.Rule d.Sequent d.Main d.Term d.Cut (pre++e::l)).okD=false:=by
 rw[DoD_]
 show(nB_ _&&(pre++e::l).all Dt.okD)=false
 rw[List.all_append,List.all_cons,he]
 simp
theorem pR_{d a o o':Dt}{k:Bool}{pre l:List Dt}(hd:Dv d)(hp:d.Parts=pre++a::l)(h:RR a o true k o'):
 RR d (.mk d.Rule d.Sequent d.Main d.Term d.Cut (pre++o::l)) true k (.mk d.Rule d.Sequent d.Main d.Term d.Cut (pre++o'::l)):=
 ⟨fun _ hk=>by rw[h.good rfl hk],fun _ hk=>pb_ (h.bad rfl hk),fun _=>pf_ hd hp (h.fine rfl)⟩
theorem fp_{d:Dt}(hd:Dv d)(R:Dt→Dt×Bool×Bool×Dt):∀ (l pre:List Dt),d.Parts=pre++l→(∀ a∈l,RR a (R a).1 (R a).2.1 (R a).2.2.1 (R a).2.2.2)→
 ∃ out found ok out',tL_ (forL (ρ:=Dt×Bool×Bool) (σ:=Unit) (fun i a _=>bif (R a).2.1 then some (.rt (Dt.mk d.Rule d.Sequent d.Main d.Term d.Cut (d.Parts.set i (R a).1),true,(R a).2.2.1)) else some (.nx ())) l pre.length ()) (fun _=>some (zR,false,true))=some (out,found,ok)∧
  tL_ (forL (ρ:=Dt×Bool) (σ:=Unit) (fun i a _=>bif (R a).2.1 then some (.rt (Dt.mk d.Rule d.Sequent d.Main d.Term d.Cut (d.Parts.set i (R a).2.2.2),true)) else some (.nx ())) l pre.length ()) (fun _=>some (zR,false))=some (out',found)∧RR d out found ok out'
 | [],pre,hp,h=>⟨_,_,_,zR,rfl,rfl,RR.none⟩
 | a::l,pre,hp,h=>by
  have ha:=h a (by simp)
  cases hf:(R a).2.1
  ·rw[fLn_ (s':=()) (by rw[hf]; rfl),fLn_ (s':=()) (by rw[hf]; rfl)]
   have:=fp_ hd R l (pre++[a]) (by rw[hp,aV]; rfl) (fun b hb=>h b (by simp[hb]))
   rw[aP,List.length_singleton] at this
   exact this
  ·rw[hf] at ha
   have e:=pR_ hd hp ha
   have hs:∀ x,d.Parts.set pre.length x=pre++x::l:=fun x=>by rw[hp]; exact sa_3 pre l a x
   refine⟨_,true,_,_,?_,?_,e⟩
   ·rw[fLr_ (by rw[hf]; rfl),tLi_1,hs]
   ·rw[fLr_ (by rw[hf]; rfl),tLi_1,hs]
theorem fb_(d:Dt):Dv d→∃ out found ok out',(∀ n,2*av d≤n→irF_ n d=some (out,found,ok))∧(∀ n,2*av d≤n→slF_ n d=some (out',found))∧RR d out found ok out':=by
 refine Dt.ind' (M:=fun d=>Dv d→∃ out found ok out',(∀ n,2*av d≤n→irF_ n d=some (out,found,ok))∧(∀ n,2*av d≤n→slF_ n d=some (out',found))∧RR d out found ok out') (fun d ih hd=>?_) d
 have hp:=d.pos
 have h60:=hd.cnt
 obtain⟨R,hR⟩:=mc_ (β:=Dt×Bool×Bool×Dt) (P:=fun a b=>(∀ n,2*av a≤n→irF_ n a=some (b.1,b.2.1,b.2.2.1))∧(∀ n,2*av a≤n→slF_ n a=some (b.2.2.2,b.2.1))∧RR a b.1 b.2.1 b.2.2.1 b.2.2.2) (fun a ha=>by
  obtain⟨o,f,k,o',h⟩:=ih a ha (hd.part ha)
  exact⟨(o,f,k,o'),h⟩)
 obtain⟨out,found,ok,out',l1,l2,l3⟩:=fp_ hd R d.Parts [] rfl (fun a ha=>(hR a ha).2.2)
 have hcp:icD_ d=some d:=cD_ hd.bd (by omega)
 have how:=oe_ hd
 have L1:∀ n,2*av d≤n+1→tL_ (ρ:=(Dt×Bool×Bool)) (σ:=Unit) (forN (fun (i6:Nat) (s6:Unit)=>
  aa (idx d.Parts (i6:Int)) fun v32=>
  aa (irF_ n v32) fun v36=>
  bif v36.2.1 then
   aa (icD_ d) fun v42=>
   aa (idx v42.Parts (i6:Int)) fun v47=>
   aa (idx v42.Parts (i6:Int)) fun w9=>
   some (.rt ((Dt.mk v42.Rule v42.Sequent v42.Main v42.Term v42.Cut (v42.Parts.set (i6:Int).toNat v36.1)),true,v36.2.2))
  else
   some (.nx ())) d.Parts.length 0 ()) (fun s6=>some (zR,false,true))=some (out,found,ok):=fun n hn=>by
  rw[← l1]
  congr 1
  refine fNf_ _ _ d.Parts 0 () (fun j a s ha=>?_)
  have hm:=List.mem_of_getElem? ha
  have:=Dt.lt hm
  have hi:idx d.Parts ((0+j:Nat):Int)=some a:=by rw[Nat.zero_add,in_,ha]
  rw[hi,ak,(hR a hm).1 n (by omega),ak,hcp]
  cases (R a).2.1
  ·rfl
  ·simp only[cond_true,ak,hi,Int.toNat_natCast]
 have L2:∀ n,2*av d≤n+1→tL_ (ρ:=(Dt×Bool)) (σ:=Unit) (forN (fun (i6:Nat) (s6:Unit)=>
  aa (idx d.Parts (i6:Int)) fun v31=>
  aa (slF_ n v31) fun v33=>
  bif v33.2 then
   aa (slO_4 d) fun v38=>
   aa (idx v38.Parts (i6:Int)) fun v43=>
   aa (idx v38.Parts (i6:Int)) fun w9=>
   some (.rt ((Dt.mk v38.Rule v38.Sequent v38.Main v38.Term v38.Cut (v38.Parts.set (i6:Int).toNat v33.1)),true))
  else
   some (.nx ())) d.Parts.length 0 ()) (fun s6=>some (zR,false))=some (out',found):=fun n hn=>by
  rw[← l2]
  congr 1
  refine fNf_ _ _ d.Parts 0 () (fun j a s ha=>?_)
  have hm:=List.mem_of_getElem? ha
  have:=Dt.lt hm
  have hi:idx d.Parts ((0+j:Nat):Int)=some a:=by rw[Nat.zero_add,in_,ha]
  rw[hi,ak,(hR a hm).2.1 n (by omega),ak,how]
  cases (R a).2.1
  ·rfl
  ·simp only[cond_true,ak,hi,Int.toNat_natCast]
 by_cases h15:d.Rule=15
 ·obtain⟨o,f,k,o',r1,r2,r3⟩:=rb_2 hd h15
  cases f
  ·refine⟨out,found,ok,out',fun n hn=>?_,fun n hn=>?_,l3⟩
   ·cases n with
    | zero=>omega
    | succ n=>rw[irF_,decide_eq_true h15,cond_true,r1]; exact L1 n hn
   ·cases n with
    | zero=>omega
    | succ n=>rw[slF_,decide_eq_true h15,cond_true,r2]; exact L2 n hn
  ·refine⟨o,true,k,o',fun n hn=>?_,fun n hn=>?_,r3⟩
   ·cases n with
    | zero=>omega
    | succ n=>rw[irF_,decide_eq_true h15,cond_true,r1]; rfl
   ·cases n with
    | zero=>omega
    | succ n=>rw[slF_,decide_eq_true h15,cond_true,r2]; rfl
 ·refine⟨out,found,ok,out',fun n hn=>?_,fun n hn=>?_,l3⟩
  ·cases n with
   | zero=>omega
   | succ n=>rw[irF_,decide_eq_false h15]; exact L1 n hn
  ·cases n with
   | zero=>omega
   | succ n=>rw[slF_,decide_eq_false h15]; exact L2 n hn
theorem nb_{d:Dt}(hd:Dv d):∃ r:Dt×Bool,iRC_ d=some r∧slN_5 d=some r∧(r.2=true→Dv r.1)∧(r.2=false→r.1=zR):=by
 obtain⟨out,found,ok,out',h1,h2,h3⟩:=fb_ d hd
 have h60:=hd.cnt
 have e1:irF_1 d=some (out,found,ok):=le_ ⟨_,h1⟩
 have e2:slF_6 d=some (out',found):=le_ ⟨_,h2⟩
 unfold iRC_ slN_5 iiD_
 rw[vDi_ d hd.ok hd.bd (by omega),hd.validD,e1,e2]
 simp only[ak,cond_true]
 cases found
 ·exact⟨_,rfl,rfl,fun h=>(nomatch h),fun _=>rfl⟩
 have hf:=h3.fine rfl
 have hcn:=hf.cnt
 have hv:=vDs_ out' hf.ok hf.bd (by omega)
 simp only[cond_true]
 rw[hv,ak]
 cases ok
 ·have hb:vD_ out'=false:=by unfold vD_; rw[h3.bad rfl rfl,Bool.and_false]
  rw[hb]
  exact⟨_,rfl,rfl,fun h=>(nomatch h),fun _=>rfl⟩
 ·rw[← h3.good rfl rfl,vDi_ out' hf.ok hf.bd (by omega)]
  simp only[cond_true,ak]
  cases hq:vD_ out'
  ·exact⟨_,rfl,rfl,fun h=>(nomatch h),fun _=>rfl⟩
  ·unfold vD_ at hq
   rw[aA,decide_eq_true_eq] at hq
   exact⟨_,rfl,rfl,fun _=>⟨hf.ok,hf.bd,hq.1,hq.2⟩,fun h=>(nomatch h)⟩
theorem bt_(d:Dt):d.bd→d.tot+1≤4000000*d.cnt:=by
 refine Dt.ind' (M:=fun d=>d.bd→d.tot+1≤4000000*d.cnt) (fun d ih hb=>?_) d
 have hu:=(Dbu_ d).1 hb
 have tl:=d_ (g:=fun x=>x) (c:=4000000) d.Parts (fun p hp=>ih p hp (Dpb_ hb hp))
 rw[List.map_id'] at tl
 have h1:=hu.1
 unfold Sa.tot at h1
 rw[Dt.tot_u,Dt.cnt_u,Nat.mul_add]
 have h2:=hu.2.1
 have h3:=hu.2.2.1
 omega
theorem Dv.tot{d:Dt}(h:Dv d):d.tot≤240000000:=by
 have h1:=bt_ d h.bd
 have h2:=h.cnt
 omega
theorem zRt_:zR.tot≤240000000:=by
 have:=zDt_
 show(⟨0,⟨[],[]⟩,0,⟨⟨#[]⟩,[]⟩,⟨0,⟨⟨#[]⟩,[]⟩,⟨#[]⟩,[]⟩,[]⟩:Dt).tot≤_
 omega
end
section
theorem eD_1(d:Dt):Dt.mk d.Rule (Sa.mk d.Sequent.Left d.Sequent.Right) d.Main (Tt.mk d.Term.Name d.Term.Args) (Ft.mk d.Cut.Op (Tt.mk d.Cut.Atom.Name d.Cut.Atom.Args) d.Cut.Var d.Cut.Parts) d.Parts=d:=by
 obtain⟨a,⟨b,c⟩,e,⟨f,g⟩,⟨h,⟨i,j⟩,k,l⟩,m⟩:=d; rfl
def T12(d:Dt):Int×(List Ft)×(List Ft)×Int×ByteArray×(List Tt)×Int×ByteArray×(List Tt)×ByteArray×(List Ft)×(List Dt):=
 (d.Rule,d.Sequent.Left,d.Sequent.Right,d.Main,d.Term.Name,d.Term.Args,d.Cut.Op,d.Cut.Atom.Name,d.Cut.Atom.Args,d.Cut.Var,d.Cut.Parts,d.Parts)
theorem cl_4{F:Nat→(Int×(List Ft)×(List Ft)×Int×ByteArray×(List Tt)×Int×ByteArray×(List Tt)×ByteArray×(List Ft)×(List Dt))→Option (Flow (Dt×Int×Bool) (Int×(List Ft)×(List Ft)×Int×ByteArray×(List Tt)×Int×ByteArray×(List Tt)×ByteArray×(List Ft)×(List Dt)))}
 {H:Nat→Dt→Option (Flow (Dt×Int×Bool) Dt)}
 (hF:∀ i d,F i (T12 d)=aa (iRC_ d) fun v=>bif v.2 then some (.nx (T12 v.1)) else some (.rt (d,(i:Int),true)))
 (hH:∀ i d,H i d=aa (slN_5 d) fun v=>bif v.2 then some (.nx v.1) else some (.rt (d,(i:Int),true))):
 ∀ (j i:Nat) (d:Dt),Dv d→(∃ d' k,Dv d'∧forN F j i (T12 d)=some (.inl (d',(k:Int),true))∧forN H j i d=some (.inl (d',(k:Int),true)))∨
  (∃ d',Dv d'∧forN F j i (T12 d)=some (.inr (T12 d'))∧forN H j i d=some (.inr d'))
 | 0,i,d,hd=>.inr ⟨d,hd,rfl,rfl⟩
 | j+1,i,d,hd=>by
  obtain⟨r,h1,h2,h3,_⟩:=nb_ hd
  have e1:=hF i d
  have e2:=hH i d
  rw[h1,ak] at e1
  rw[h2,ak] at e2
  cases hr:r.2
  ·rw[hr,cond_false] at e1 e2
   rw[fNr_ e1,fNr_ e2]
   exact .inl ⟨d,i,hd,rfl,rfl⟩
  ·rw[hr,cond_true] at e1 e2
   rw[fNn_ e1,fNn_ e2]
   exact cl_4 hF hH j (i+1) r.1 (h3 hr)
theorem Eb_(d:Dt)(a:Int)(hok:d.Ok)(ht:d.tot≤1048576):∃ r:Dt×Int×Bool,iEC_ d a=some r∧sEC_ d a=some r∧r.1.tot≤240000000:=by
 unfold iEC_ sEC_
 rw[vDi_1 d hok ht,vDs_1 d hok ht,ak,ak]
 cases hv:vD_ d
 ·exact⟨(zR,0,false),rfl,rfl,zRt_⟩
 have hw:=hv
 unfold vD_ at hw
 rw[aA,decide_eq_true_eq] at hw
 have hd:Dv d:=⟨hok,d.tot_bd ht,hw.1,hw.2⟩
 rw[cond_true,cond_true,we_,lIe_,ak,ak]
 cases hi:inR a 0 60
 ·exact⟨(zR,0,false),rfl,rfl,zRt_⟩
 have ha:0≤a∧a≤60:=by
  unfold inR at hi
  simp only[aA,decide_eq_true_eq] at hi
  exact hi
 obtain⟨n,rfl⟩:∃ n:Nat,a=(n:Int):=⟨a.toNat,by omega⟩
 rw[cond_true,cond_true,cD_ hd.bd (by have:=hd.cnt; omega),oe_ hd,ak,ak,bn_ (by simp only[Big]; omega),ak,ak]
 have key:=cl_4 (F:=fun (i5:Nat) (s5:Int×(List Ft)×(List Ft)×Int×ByteArray×(List Tt)×Int×ByteArray×(List Tt)×ByteArray×(List Ft)×(List Dt))=>
  aa (iRC_ (Dt.mk s5.1 (Sa.mk s5.2.1 s5.2.2.1) s5.2.2.2.1 (Tt.mk s5.2.2.2.2.1 s5.2.2.2.2.2.1) (Ft.mk s5.2.2.2.2.2.2.1 (Tt.mk s5.2.2.2.2.2.2.2.1 s5.2.2.2.2.2.2.2.2.1) s5.2.2.2.2.2.2.2.2.2.1 s5.2.2.2.2.2.2.2.2.2.2.1) s5.2.2.2.2.2.2.2.2.2.2.2)) fun v28=>
  bif v28.2 then
   some (.nx (v28.1.Rule,v28.1.Sequent.Left,v28.1.Sequent.Right,v28.1.Main,v28.1.Term.Name,v28.1.Term.Args,v28.1.Cut.Op,v28.1.Cut.Atom.Name,v28.1.Cut.Atom.Args,v28.1.Cut.Var,v28.1.Cut.Parts,v28.1.Parts))
  else
   some (.rt ((Dt.mk s5.1 (Sa.mk s5.2.1 s5.2.2.1) s5.2.2.2.1 (Tt.mk s5.2.2.2.2.1 s5.2.2.2.2.2.1) (Ft.mk s5.2.2.2.2.2.2.1 (Tt.mk s5.2.2.2.2.2.2.2.1 s5.2.2.2.2.2.2.2.2.1) s5.2.2.2.2.2.2.2.2.2.1 s5.2.2.2.2.2.2.2.2.2.2.1) s5.2.2.2.2.2.2.2.2.2.2.2),(i5:Int),true)))
  (H:=fun (i5:Nat) (s5:Dt)=>
   aa (slN_5 s5) fun v27=>
   bif v27.2 then
    some (.nx v27.1)
   else
    some (.rt (s5,(i5:Int),true)))
  (fun i d=>by
   have e:=eD_1 d
   simp only[T12,e]) (fun i d=>rfl) n 0 d hd
 rcases key with⟨d',k,hd',k1,k2⟩ | ⟨d',hd',k1,k2⟩
 ·unfold T12 at k1
  rw[k1,k2]
  exact⟨_,rfl,rfl,hd'.tot⟩
 ·unfold T12 at k1
  rw[k1,k2]
  refine⟨(d',(n:Int),true),?_,rfl,hd'.tot⟩
  show some (Dt.mk d'.Rule (Sa.mk d'.Sequent.Left d'.Sequent.Right) d'.Main (Tt.mk d'.Term.Name d'.Term.Args) (Ft.mk d'.Cut.Op (Tt.mk d'.Cut.Atom.Name d'.Cut.Atom.Args) d'.Cut.Var d'.Cut.Parts) d'.Parts,(n:Int),true)=_
  rw[eD_1]
theorem FnExactEliminateCuts_true(d:Dt)(a:Int)(hok:d.Ok)(ha:InR a):FnExactEliminateCuts d a=some true:=by
 unfold FnExactEliminateCuts
 rw[sDe_ d hok _ (by omega) (by omega),ak]
 by_cases e:szR d.tot 1048576<0
 ·rw[decide_eq_true e]; rfl
 have ht:=sRo_ e
 obtain⟨r,g1,g2,g3⟩:=Eb_ d a hok ht
 have w1:=d.marks_tot
 have w2:=r.1.marks_tot
 obtain⟨y0,y1,y2,y3,y4,y5,m1,_⟩:=mDh_ d (k:=1) (by omega) (by omega)
 obtain⟨x0,x1,x2,x3,x4,x5,m2,m3⟩:=mDh_ r.1 (k:=1) (by omega) (by omega)
 generalize hA:lcn Ft.cn d.Sequent.Left+lcn Ft.cn d.Sequent.Right+lcn Tt.cn d.Term.Args+lcn Tt.cn d.Cut.Atom.Args+lcn Ft.cn d.Cut.Parts+lcn Dt.cn d.Parts=A at m1 w1
 generalize hB:lcn Ft.cn r.1.Sequent.Left+lcn Ft.cn r.1.Sequent.Right+lcn Tt.cn r.1.Term.Args+lcn Tt.cn r.1.Cut.Atom.Args+lcn Ft.cn r.1.Cut.Parts+lcn Dt.cn r.1.Parts=B at m2 m3 w2
 have d1:decide ((1:Int)+(A:Int)<0)=false:=decide_eq_false (by omega)
 have d2:decide ((1:Int)+(B:Int)<0)=false:=decide_eq_false (by omega)
 rw[decide_eq_false e,cond_false]
 simp only[tDe_ d ht,ak,g1,g2,eDr_,cond_true,beq_self_eq_true,m1,d1,m2,m3,d2,cond_false,decide_true]
end
end Go.Proofs.YtafdgbndcflghaaGreat
