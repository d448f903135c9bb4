/- Lemmas of the proof; each says what it shows. -/
import Derived.Test.YtkoghcphkdecoaaGreatGrq
set_option linter.unusedSimpArgs false
set_option linter.unusedVariables false
set_option linter.defProp false
set_option maxRecDepth 4000
namespace Go.Proofs.YtkoghcphkdecoaaGreat
open Go.Av
open Bool renaming and_eq_true→aH
open Ft renaming tot→aV
open List renaming length_append→aU,length_cons→aS,all_eq_true→bf
open Option renaming bind_some→aq,bind→aa
open SizeOf renaming sizeOf→az
section
theorem bm_{d:Dt}(hb:d.bd):Mod d.Sequent.Left∧Mod d.Sequent.Right:=by
 have hu:=(Dbu_ d).1 hb
 have hs:ltot aV d.Sequent.Left+ltot aV d.Sequent.Right≤1048576:=hu.1
 exact⟨⟨fun f hf=>by have:=tm_ aV hf; omega,by have:=ll_ aV d.Sequent.Left; omega⟩,⟨fun f hf=>by have:=tm_ aV hf; omega,by have:=ll_ aV d.Sequent.Right; omega⟩⟩
theorem cD_(d:Dt):d.bd→d.cnt≤100000→∀ k,2*az d≤k→icD_ k d=some d:=by
 refine Dt.ind' (M:=fun d=>d.bd→d.cnt≤100000→∀ k,2*az d≤k→icD_ k d=some d) (fun d ih hb hc k hk=>?_) d
 have hp:=d.pos
 have hlen:=cl_3 d
 have hu:=(Dbu_ d).1 hb
 obtain⟨ml,mr⟩:=bm_ hb
 cases k with
 | zero=>omega
 | succ k=>
  rw[icD_,copyS ml mr,copyT _ (cot_ hu.2.1),copyF _ hu.2.2.1]
  simp only[aq,fNi_]
  rw[mapL (f:=icD_ k) (g:=fun x=>x) d.Parts 0 [] (fun p hp=>ih p hp (Dpb_ hb hp) (by have:=Dpc_ hp; omega) k (by have:=Dt.lt hp; omega)) (by simp; omega),tLi_]
  simp only[List.nil_append,List.map_id']
  exact congrArg some (by cases d; rfl)
theorem copyD{d:Dt}(hb:d.bd)(hc:d.cnt≤100000):icD_1 d=some d:=le_ ⟨_,cD_ d hb hc⟩
theorem setP{α ρ:Type}(f:α→Option α)(g:α→α):∀ (xs pre:List α),(∀ x∈xs,f x=some (g x))→
 forL (ρ:=ρ) (fun i v s=>(f v).bind fun w=>(idx s (i:Int)).bind fun _=>(idx s (i:Int)).bind fun _=>some (.nx (s.set (i:Int).toNat w))) xs pre.length (pre++xs)=some (.inr (pre++xs.map g))
 | [],pre,_=>by simp[forL]
 | x::xs,pre,h=>by
  have hx:=h x (by simp)
  have e:(pre++x::xs)[pre.length]?=some x:=by simp
  rw[fLn_ (s':=(pre++[g x])++xs) (by
   rw[hx,aq,in_,e,aq,aq,Int.toNat_natCast]
   simp)]
  have:=setP (ρ:=ρ) f g xs (pre++[g x]) (fun y hy=>h y (by simp[hy]))
  simp only[aU,aS,List.length_nil,Nat.zero_add] at this
  rw[this]; simp
def hit(i:Int)(k:Nat):Nat:=if 0≤i∧i<(k:Int) then 1 else 0
theorem dIl_1{α:Type}:∀ (l:List α) (i:Int),(dropI l i).length+hit i l.length=l.length
 | [],i=>by unfold hit; rw[if_neg (by simp)]; rfl
 | a::l,i=>by
  rw[dropI]
  by_cases h:i=0
  ·rw[if_pos h]; unfold hit; rw[if_pos (by simp; omega)]; rfl
  ·rw[if_neg h]
   have:=dIl_1 l (i-1)
   have e:hit (i-1) l.length=hit i (a::l).length:=by
    unfold hit
    simp only[aS]
    by_cases h2:0≤i-1∧i-1<(l.length:Int)
    ·rw[if_pos h2,if_pos (by omega)]
    ·rw[if_neg h2,if_neg (by omega)]
   rw[← e,aS,aS]; omega
def inner(d:Dt)(left:Bool)(k:Nat):Nat:=k-hit (remI d left) k
theorem il_{d:Dt}{left:Bool}{α:Type}{l:List α}{k:Nat}(h:k≤l.length):inner d left k≤(dropI l (remI d left)).length:=by
 have:=dIl_1 l (remI d left)
 unfold inner hit at*
 by_cases h1:0≤remI d left∧remI d left<(k:Int)
 ·rw[if_pos h1]
  rw[if_pos (by omega)] at this; omega
 ·rw[if_neg h1]
  by_cases h2:0≤remI d left∧remI d left<(l.length:Int)
  ·rw[if_pos h2] at this; omega
  ·rw[if_neg h2] at this; omega
theorem pl_{ρ:Type}(d:Dt)(left:Bool):∀ (n k:Nat) (s:Nat),s≤1000→hit (remI d left-k) n≤s→
 forN (ρ:=ρ) (fun (i8:Nat) (s8:Int)=>aa (iDr_ d left (i8:Int)) fun v42=>bif v42 then some (.nx (IntKind.i64.wrap (s8-(1:Int)))) else some (.nx s8)) n k (s:Int)=some (.inr ((s-hit (remI d left-k) n:Nat):Int))
 | 0,k,s,_,_=>by
  have:hit (remI d left-k) 0=0:=by unfold hit; rw[if_neg (by simp)]
  rw[this]; rfl
 | n+1,k,s,hs,hh=>by
  by_cases h:(k:Int)=remI d left
  ·have e1:hit (remI d left-k) (n+1)=1:=by unfold hit; rw[if_pos (by omega)]
   have e2:hit (remI d left-((k+1:Nat):Int)) n=0:=by unfold hit; rw[if_neg (by omega)]
   rw[e1] at hh
   have w:IntKind.i64.wrap ((s:Int)-1)=((s-1:Nat):Int):=by rw[w_]<;>omega
   rw[fNn_ (s':=((s-1:Nat):Int)) (by rw[re_ d left (by omega),aq,decide_eq_true h,cond_true,w]),pl_ d left n (k+1) (s-1) (by omega) (by omega),e1,e2]; rfl
  ·have e:hit (remI d left-k) (n+1)=hit (remI d left-((k+1:Nat):Int)) n:=by
    unfold hit
    by_cases h2:0≤remI d left-k∧remI d left-k<((n+1:Nat):Int)
    ·rw[if_pos h2,if_pos (by omega)]
    ·rw[if_neg h2,if_neg (by omega)]
   rw[fNn_ (s':=(s:Int)) (by rw[re_ d left (by omega),aq,decide_eq_false h]; rfl),pl_ d left n (k+1) s hs (by omega),e]
def insL{α:Type}(l:List α)(k:Nat)(f:α):List α:=l.take k++[f]++l.drop k
def insS(s:Sa)(left:Bool)(k:Nat)(f:Ft):Sa:=bif left then⟨insL s.Left k f,s.Right⟩ else⟨s.Left,insL s.Right k f⟩
def insMn(r m:Int)(left:Bool)(k:Nat):Int:=bif decide (r=15) then m else bif (mOn r).1==left then bif decide ((k:Int)≤m) then m+1 else m else m
mutual
def wkD(f:Ft)(left:Bool):Dt→Nat→Dt
 | .mk r s m t c l,k=>.mk r (insS s left k f) (insMn r m left k) t c (wkDs f left l (inner (.mk r s m t c l) left k))
def wkDs(f:Ft)(left:Bool):List Dt→Nat→List Dt
 | [],_=>[]
 | a::l,k=>wkD f left a k::wkDs f left l k
end
theorem wDe_(f:Ft)(left:Bool)(k:Nat)(l:List Dt):wkDs f left l k=l.map fun p=>wkD f left p k:=by
 induction l with
 | nil=>rfl
 | cons a l ih=>rw[wkDs,ih]; rfl
theorem wkD_u(f:Ft)(left:Bool)(d:Dt)(k:Nat):wkD f left d k=.mk d.Rule (insS d.Sequent left k f) (insMn d.Rule d.Main left k) d.Term d.Cut (d.Parts.map fun p=>wkD f left p (inner d left k)):=by
 cases d; rw[wkD,wDe_]; rfl
def side(s:Sa)(left:Bool):List Ft:=bif left then s.Left else s.Right
theorem np_{d:Dt}(hok:d.Ok)(hb:d.bd)(h:nodeB d=true):(∀ p∈d.Parts,∀ left,(dropI (side d.Sequent left) (remI d left)).length≤(side p.Sequent left).length)∧
 (d.Rule≠15→0≤d.Main∧d.Main<11)∧((d.Rule=1∨d.Rule=2)→d.Parts=[])∧inR d.Rule 1 15=true:=by
 obtain⟨_,_,h3⟩:=nBb_ hok hb
 have N:=h3 h
 obtain⟨xs,a1,a2,a3,a4⟩:=N.rule
 obtain⟨vl,vr⟩:=vSV_ N.valid
 have b1:=vl.len
 have b2:=vr.len
 refine⟨fun p hp left=>?_,fun h15=>?_,fun hr=>?_,ar_ a1⟩
 ·have hm:p.Sequent∈xs.map (prem d.Sequent d):=by rw[← a4]; exact List.mem_map_of_mem hp
  obtain⟨x,_,ex⟩:=List.mem_map.1 hm
  rw[← ex]
  cases left
  ·show _≤(dropI d.Sequent.Right (remI d false)++x.Right).length
   rw[aU]; exact Nat.le_add_right _ _
  ·show _≤(dropI d.Sequent.Left (remI d true)++x.Left).length
   rw[aU]; exact Nat.le_add_right _ _
 ·have hm:=am_ a1 h15 (by omega) (by omega)
  revert hm
  cases (mOn d.Rule).1<;>simp only[cond_true,cond_false]<;>omega
 ·have hx:=al_ a1 hr
  rw[hx] at a4
  exact List.map_eq_nil_iff.1 a4
theorem iMw_{d:Dt}{left:Bool}{k:Nat}(h:d.Rule≠15→0≤d.Main∧d.Main<11)(h15:d.Rule≠15):IntKind.i64.wrap (d.Main+1)=d.Main+1:=by
 have:=h h15
 rw[w_]<;>omega
theorem zDt_:(⟨0,⟨[],[]⟩,0,⟨⟨#[]⟩,[]⟩,⟨0,⟨⟨#[]⟩,[]⟩,⟨#[]⟩,[]⟩,[]⟩:Dt).tot≤13000000:=by
 rw[Dt.tot_u]; show 0+((⟨⟨#[]⟩,[]⟩:Tt).tot+((⟨0,⟨⟨#[]⟩,[]⟩,⟨#[]⟩,[]⟩:Ft).tot+0))≤_
 rw[zFt_,zTt_]; omega
section
variable{f:Ft}{left:Bool}
theorem wi_1(hf:vF_ f=true)(d:Dt):d.Ok→d.bd→d.cnt≤100000→d.okD=true→∀ k:Nat,k≤(side d.Sequent left).length→∀ n,2*az d≤n→iwN_ n d f left (k:Int)=some (wkD f left d k):=by
 refine Dt.ind' (M:=fun d=>d.Ok→d.bd→d.cnt≤100000→d.okD=true→∀ k:Nat,k≤(side d.Sequent left).length→∀ n,2*az d≤n→iwN_ n d f left (k:Int)=some (wkD f left d k)) (fun d ih hok hb hc hd k hk n hn=>?_) d
 have hp:=d.pos
 rw[DoD_,aH,bf] at hd
 obtain⟨np,nm,_,_⟩:=np_ hok hb hd.1
 have N:=nR_ hok hb hd.1
 have b1:=N.vl.len
 have b2:=N.vr.len
 have hk10:k≤10:=by revert hk; unfold side; cases left<;>simp only[cond_true,cond_false]<;>omega
 cases n with
 | zero=>omega
 | succ n=>
  have P:∀ p∈d.Parts,iwN_ n p f left ((inner d left k:Nat):Int)=some (wkD f left p (inner d left k)):=fun p hp=>
   ih p hp (Dpo_ hok hp) (Dpb_ hb hp) (by have:=Dpc_ hp; omega) (hd.2 p hp) (inner d left k) (Nat.le_trans (il_ hk) (np p hp left)) n (by have:=Dt.lt hp; omega)
  have lp:forL (ρ:=Dt) (fun i v s=>(iwN_ n v f left ((inner d left k:Nat):Int)).bind fun w=>(idx s (i:Int)).bind fun _=>(idx s (i:Int)).bind fun _=>some (.nx (s.set (i:Int).toNat w))) d.Parts 0 d.Parts=some (.inr (d.Parts.map fun p=>wkD f left p (inner d left k))):=by
   have:=setP (ρ:=Dt) (fun p=>iwN_ n p f left ((inner d left k:Nat):Int)) (fun p=>wkD f left p (inner d left k)) d.Parts [] P
   simpa using this
  have pl:forN (ρ:=Dt) (fun (i8:Nat) (s8:Int)=>aa (iDr_ d left (i8:Int)) fun v42=>bif v42 then some (.nx (IntKind.i64.wrap (s8-(1:Int)))) else some (.nx s8)) k 0 (k:Int)=some (.inr ((inner d left k:Nat):Int)):=by
   have:=pl_ (ρ:=Dt) d left k 0 k (by omega) (by unfold hit; split<;>omega)
   rw[show remI d left-((0:Nat):Int)=remI d left from Int.sub_zero _] at this
   exact this
  have hins:∀ l:List Ft,l.length≤10→k≤l.length→sIF_3 l (k:Int) [f]=some (insL l k f):=fun l h1 h2=>by
   unfold sIF_3
   rw[if_pos ⟨by omega,by omega,rfl,by omega⟩]; rfl
  rw[iwN_,copyD hb hc,aq,copyF f (by have:=vFt_ hf; omega),bn_ (by simp only[Big]; omega),mOe_,wkD_u]
  simp only[aq,fNi_]
  cases left
  ·rw[cond_false,hins d.Sequent.Right b2 hk,aq,pl,tLi_]
   unfold insMn
   by_cases h15:d.Rule=15
   ·rw[decide_eq_true h15,cond_true,cond_true,lp]; rfl
   ·rw[decide_eq_false h15,cond_false,cond_false,iMw_ (left:=false) (k:=k) nm h15]
    cases (mOn d.Rule).1==false
    ·rw[cond_false,cond_false,lp]; rfl
    ·rw[cond_true,cond_true]
     cases decide ((k:Int)≤d.Main)
     ·rw[cond_false,cond_false,lp]; rfl
     ·rw[cond_true,cond_true,lp]; rfl
  ·rw[cond_true,hins d.Sequent.Left b1 hk,aq,pl,tLi_]
   unfold insMn
   by_cases h15:d.Rule=15
   ·rw[decide_eq_true h15,cond_true,cond_true,lp]; rfl
   ·rw[decide_eq_false h15,cond_false,cond_false,iMw_ (left:=true) (k:=k) nm h15]
    cases (mOn d.Rule).1==true
    ·rw[cond_false,cond_false,lp]; rfl
    ·rw[cond_true,cond_true]
     cases decide ((k:Int)≤d.Main)
     ·rw[cond_false,cond_false,lp]; rfl
     ·rw[cond_true,cond_true,lp]; rfl
theorem ws_2(hf:vF_ f=true)(d:Dt):d.Ok→d.bd→d.cnt≤100000→d.okD=true→∀ k:Nat,k≤(side d.Sequent left).length→∀ n,2*az d≤n→slI_ n d f left (k:Int)=some (wkD f left d k):=by
 refine Dt.ind' (M:=fun d=>d.Ok→d.bd→d.cnt≤100000→d.okD=true→∀ k:Nat,k≤(side d.Sequent left).length→∀ n,2*az d≤n→slI_ n d f left (k:Int)=some (wkD f left d k)) (fun d ih hok hb hc hd k hk n hn=>?_) d
 have hp:=d.pos
 have hlen:=cl_3 d
 have hu:=(Dbu_ d).1 hb
 rw[DoD_,aH,bf] at hd
 obtain⟨np,nm,nl,nr⟩:=np_ hok hb hd.1
 have N:=nR_ hok hb hd.1
 have b1:=N.vl.len
 have b2:=N.vr.len
 obtain⟨ml,mr⟩:=bm_ hb
 have m0:Mod []:=(Vl.nil 0).mod (by omega)
 have hk10:k≤10:=by revert hk; unfold side; cases left<;>simp only[cond_true,cond_false]<;>omega
 cases n with
 | zero=>omega
 | succ n=>
  obtain⟨v,v1,v2⟩:∃ v,slR_1 d left=some v∧(d.Parts=[]∨v=remI d left):=by
   by_cases h1:d.Rule=1
   ·exact⟨-1,by unfold slR_1; rw[decide_eq_true h1]; rfl,.inl (nl (.inl h1))⟩
   by_cases h2:d.Rule=2
   ·exact⟨-1,by unfold slR_1; rw[decide_eq_false h1,decide_eq_true h2]; rfl,.inl (nl (.inr h2))⟩
   ·exact⟨_,re_2 ⟨h1,h2⟩ nr left,.inr rfl⟩
  have P:∀ p∈d.Parts,slI_ n p f left ((inner d left k:Nat):Int)=some (wkD f left p (inner d left k)):=fun p hp=>
   ih p hp (Dpo_ hok hp) (Dpb_ hb hp) (by have:=Dpc_ hp; omega) (hd.2 p hp) (inner d left k) (Nat.le_trans (il_ hk) (np p hp left)) n (by have:=Dt.lt hp; omega)
  have lp:∀ Z:Int,(d.Parts=[]∨Z=((inner d left k:Nat):Int))→forL (ρ:=Dt) (fun _ p (s:List Dt)=>(slI_ n p f left Z).bind fun v=>(app s [v]).bind fun w=>some (.nx w)) d.Parts 0 []=some (.inr (d.Parts.map fun p=>wkD f left p (inner d left k))):=by
   intro Z hZ
   rcases hZ with h | rfl
   ·rw[h]; rfl
   ·rw[mapL (f:=fun p=>slI_ n p f left ((inner d left k:Nat):Int)) (g:=fun p=>wkD f left p (inner d left k)) d.Parts 0 [] P (by simp; omega),List.nil_append]
  have z1:decide ((0:Int)≤v)=true→decide (v<(k:Int))=true→(d.Parts=[]∨IntKind.i64.wrap ((k:Int)-1)=((inner d left k:Nat):Int)):=fun h1 h2=>by
   rw[decide_eq_true_eq] at h1 h2
   rcases v2 with h | rfl
   ·exact .inl h
   ·have:inner d left k=k-1:=by unfold inner hit; rw[if_pos ⟨h1,h2⟩]
    rw[this,w_]<;>omega
  have z2:(decide ((0:Int)≤v)=false∨decide (v<(k:Int))=false)→(d.Parts=[]∨(k:Int)=((inner d left k:Nat):Int)):=fun h=>by
   rcases v2 with h2 | rfl
   ·exact .inl h2
   ·have:inner d left k=k:=by
     unfold inner hit
     rw[if_neg (by simp only[decide_eq_false_iff_not] at h; omega)]; rfl
    rw[this]; exact .inr rfl
  have s1:∀ l:List Ft,k≤l.length→slc l (0:Int) (k:Int)=some (l.take k):=fun l h=>by
   unfold slc; rw[if_pos ⟨by omega,by omega,by omega⟩]; rfl
  have s2:∀ l:List Ft,k≤l.length→slc l (k:Int) (l.length:Int)=some (l.drop k):=fun l h=>by
   unfold slc; rw[if_pos ⟨by omega,by omega,by omega⟩]
   simp only[Int.toNat_natCast,List.take_length]
  have ap:∀ l m:List Ft,l.length≤100→m.length≤100→app l m=some (l++m):=fun l m h1 h2=>by unfold app; rw[if_pos (by omega)]
  have key:∀ (S:Sa) (M:Int),(bif decide ((0:Int)≤v) then
   bif decide (v<(k:Int)) then
    thenL (ρ:=Dt) (σ:=(List Dt)) (forL (fun _ p (s:List Dt)=>(slI_ n p f left (IntKind.i64.wrap ((k:Int)-(1:Int)))).bind fun v=>(app s [v]).bind fun w=>some (.nx w)) d.Parts 0 []) fun s16=>some (Dt.mk d.Rule S M d.Term d.Cut s16)
   else thenL (ρ:=Dt) (σ:=(List Dt)) (forL (fun _ p (s:List Dt)=>(slI_ n p f left (k:Int)).bind fun v=>(app s [v]).bind fun w=>some (.nx w)) d.Parts 0 []) fun s16=>some (Dt.mk d.Rule S M d.Term d.Cut s16)
   else thenL (ρ:=Dt) (σ:=(List Dt)) (forL (fun _ p (s:List Dt)=>(slI_ n p f left (k:Int)).bind fun v=>(app s [v]).bind fun w=>some (.nx w)) d.Parts 0 []) fun s16=>some (Dt.mk d.Rule S M d.Term d.Cut s16))=
   some (.mk d.Rule S M d.Term d.Cut (d.Parts.map fun p=>wkD f left p (inner d left k))):=by
   intro S M
   cases c1:decide ((0:Int)≤v)
   ·rw[cond_false,lp _ (z2 (.inl c1)),tLi_]
   ·cases c2:decide (v<(k:Int))
    ·rw[cond_true,cond_false,lp _ (z2 (.inr c2)),tLi_]
    ·rw[cond_true,cond_true,lp _ (z1 c1 c2),tLi_]
  have nx0:nx d.Sequent (-1) [] (-1) []=d.Sequent:=by
   unfold nx
   rw[dIn_ _ _ (by omega),dIn_ _ _ (by omega),List.append_nil,List.append_nil]
  rw[slI_,ownT _ (cot_ hu.2.1),ownF _ hu.2.2.1,sn_ (-1) (-1) ml mr m0 m0,nx0,v1,oLe_,ownF f (by have:=vFt_ hf; omega),wkD_u]
  simp only[aq,fNi_]
  cases left
  ·have l1:(d.Sequent.Right.take k).length≤10:=by rw[List.length_take]; omega
   have l2:(d.Sequent.Right.drop k).length≤10:=by rw[List.length_drop]; omega
   rw[cond_false,s1 d.Sequent.Right hk,aq,ap [] _ (by simp) (by omega),aq,ap _ [f] (by simp; omega) (by simp),aq,s2 d.Sequent.Right hk,aq,ap _ _ (by simp; omega) (by omega),aq]
   unfold insMn
   by_cases h15:d.Rule=15
   ·rw[decide_eq_true h15,cond_true,cond_true,key]; rfl
   ·rw[decide_eq_false h15,cond_false,cond_false,iMw_ (left:=false) (k:=k) nm h15]
    cases (mOn d.Rule).1==false
    ·rw[cond_false,cond_false,key]; rfl
    ·rw[cond_true,cond_true]
     cases decide ((k:Int)≤d.Main)
     ·rw[cond_false,cond_false,key]; rfl
     ·rw[cond_true,cond_true,key]; rfl
  ·have l1:(d.Sequent.Left.take k).length≤10:=by rw[List.length_take]; omega
   have l2:(d.Sequent.Left.drop k).length≤10:=by rw[List.length_drop]; omega
   rw[cond_true,s1 d.Sequent.Left hk,aq,ap [] _ (by simp) (by omega),aq,ap _ [f] (by simp; omega) (by simp),aq,s2 d.Sequent.Left hk,aq,ap _ _ (by simp; omega) (by omega),aq]
   unfold insMn
   by_cases h15:d.Rule=15
   ·rw[decide_eq_true h15,cond_true,cond_true,key]; rfl
   ·rw[decide_eq_false h15,cond_false,cond_false,iMw_ (left:=true) (k:=k) nm h15]
    cases (mOn d.Rule).1==true
    ·rw[cond_false,cond_false,key]; rfl
    ·rw[cond_true,cond_true]
     cases decide ((k:Int)≤d.Main)
     ·rw[cond_false,cond_false,key]; rfl
     ·rw[cond_true,cond_true,key]; rfl
theorem wc_(d:Dt):∀ k,(wkD f left d k).cnt=d.cnt:=by
 refine Dt.ind' (M:=fun d=>∀ k,(wkD f left d k).cnt=d.cnt) (fun d ih k=>?_) d
 rw[Dt.cnt_u,Dt.cnt_u d,wkD_u]
 show 1+((d.Parts.map fun p=>wkD f left p (inner d left k)).map Dt.cnt).sum=_
 rw[List.map_map,show(d.Parts.map (Dt.cnt∘fun p=>wkD f left p (inner d left k)))=d.Parts.map Dt.cnt from List.map_congr_left fun a ha=>ih a ha _]
theorem iV_(hf:vF_ f=true){l:List Ft}(hl:Vl l 10)(k:Nat):Vl (insL l k f) 11:=
 ⟨fun g hg=>by
  unfold insL at hg
  simp only[List.mem_append,List.mem_singleton] at hg
  rcases hg with (h | rfl) | h
  ·exact hl.val g (List.mem_of_mem_take h)
  ·exact hf
  ·exact hl.val g (List.mem_of_mem_drop h),by
  have:=hl.len
  unfold insL
  simp only[aU,List.length_take,List.length_drop,aS,List.length_nil]; omega⟩
theorem wf_(hf:vF_ f=true)(d:Dt):d.Ok→d.bd→d.okD=true→∀ k,(wkD f left d k).Ok∧(wkD f left d k).bd∧(wkD f left d k).tot+1≤210000*d.cnt:=by
 refine Dt.ind' (M:=fun d=>d.Ok→d.bd→d.okD=true→∀ k,(wkD f left d k).Ok∧(wkD f left d k).bd∧(wkD f left d k).tot+1≤210000*d.cnt) (fun d ih hok hb hd k=>?_) d
 rw[DoD_,aH,bf] at hd
 have N:=nR_ hok hb hd.1
 obtain⟨_,nm,_,_⟩:=np_ hok hb hd.1
 have hu:=hok.u
 have hb':=(Dbu_ d).1 hb
 have S:∃ L R:List Ft,insS d.Sequent left k f=⟨L,R⟩∧Vl L 11∧Vl R 11:=by
  unfold insS
  cases left
  ·exact⟨_,_,rfl,⟨N.vl.val,by have:=N.vl.len; omega⟩,iV_ hf N.vr k⟩
  ·exact⟨_,_,rfl,iV_ hf N.vl k,⟨N.vr.val,by have:=N.vr.len; omega⟩⟩
 obtain⟨L,R,eS,vl,vr⟩:=S
 obtain⟨s1,s2⟩:=Vl.seq vl vr (by omega) (by omega)
 have s3:=vl.sum
 have s4:=vr.sum
 have P:=fun p hp=>ih p hp (Dpo_ hok hp) (Dpb_ hb hp) (hd.2 p hp) (inner d left k)
 have tm:d.Term.tot≤210:=by
  rcases N.term with⟨_,h⟩ | ⟨_,h⟩
  ·exact(gTO_ h).1
  ·rw[h,zTt_]; omega
 have ct:d.Cut.tot≤8800:=by
  by_cases h15:d.Rule=15
  ·exact vFt_ (N.cut15 h15)
  ·rw[N.cut0 h15,zFt_]; omega
 have hM:InR (insMn d.Rule d.Main left k):=by
  unfold insMn
  by_cases h15:d.Rule=15
  ·rw[decide_eq_true h15]; exact hu.2.2.1
  ·rw[decide_eq_false h15]
   have:=nm h15
   unfold InR
   cases (mOn d.Rule).1==left<;>cases decide ((k:Int)≤d.Main)<;>simp only[cond_true,cond_false]<;>omega
 have tl:=dtots (g:=fun p=>wkD f left p (inner d left k)) (c:=210000) d.Parts (fun p hp=>(P p hp).2.2)
 rw[wkD_u,eS]
 refine⟨Dt.Ok.mk _ _ _ _ _ _ hu.1 s1 hM hu.2.2.2.1 hu.2.2.2.2.1 (by rw[List.length_map]; exact hu.2.2.2.2.2.1) (fun a ha=>?_),?_,?_⟩
 ·obtain⟨p,hp,rfl⟩:=List.mem_map.1 ha
  exact(P p hp).1
 ·rw[Dbu_]
  refine⟨s2,hb'.2.1,hb'.2.2.1,fun a ha=>?_⟩
  obtain⟨p,hp,rfl⟩:=List.mem_map.1 ha
  exact(P p hp).2.1
 ·rw[Dt.tot_u,Dt.cnt_u]
  show ltot aV L+ltot aV R+(d.Term.tot+(d.Cut.tot+ltot Dt.tot (d.Parts.map fun p=>wkD f left p (inner d left k))))+1≤_
  rw[Nat.mul_add]; omega
end
end
section
theorem WAb_(d:Dt)(f:Ft)(left:Bool)(i:Int)(hok:d.Ok)(ht:d.tot≤1048576)(hof:f.Ok)(hft:f.tot≤1048576):
 ∃ r:Dt×Bool,iWA_ d f left i=some r∧sWA_ d f left i=some r∧r.1.tot≤13000000:=by
 unfold iWA_ sWA_
 rw[vDi_1 d hok ht,vDs_1 d hok ht,vFi_1 f hft hof,vFs_ f hft hof]
 simp only[aq,we_,lIe_]
 cases hv:vD_ d
 ·cases left<;>exact⟨_,rfl,rfl,zDt_⟩
 cases hf:vF_ f
 ·cases left<;>exact⟨_,rfl,rfl,zDt_⟩
 unfold vD_ at hv
 rw[aH,decide_eq_true_eq] at hv
 have hb:=d.tot_bd ht
 have main:∀ k:Nat,k≤(side d.Sequent left).length→i=(k:Int)→∃ r:Dt×Bool,(aa (iw_1 d f left i) fun v38=>aa (iiD_ v38) fun v39=>some (v39.1,v39.2))=some r∧
  (aa (slI_9 d f left i) fun v39=>aa (slV_ v39) fun v41=>bif v41 then some (v39,true) else some ((Dt.mk (0:Int) (Sa.mk ([]) ([])) (0:Int) (Tt.mk (⟨#[]⟩:ByteArray) ([])) (Ft.mk (0:Int) (Tt.mk (⟨#[]⟩:ByteArray) ([])) (⟨#[]⟩:ByteArray) ([])) ([])),false))=some r∧r.1.tot≤13000000:=by
  intro k hk e
  subst e
  obtain⟨f1,f2,f3⟩:=wf_ (left:=left) hf d hok hb hv.2 k
  have hc:=wc_ (f:=f) (left:=left) d k
  rw[show iw_1 d f left (k:Int)=some (wkD f left d k) from le_ ⟨_,wi_1 hf d hok hb (by omega) hv.2 k hk⟩,show slI_9 d f left (k:Int)=some (wkD f left d k) from le_ ⟨_,ws_2 hf d hok hb (by omega) hv.2 k hk⟩]
  unfold iiD_
  simp only[aq]
  rw[vDi_ _ f1 f2 (by omega),vDs_ _ f1 f2 (by omega)]
  simp only[aq]
  cases vD_ (wkD f left d k)
  ·exact⟨_,rfl,rfl,zDt_⟩
  ·have:=Nat.mul_le_mul_left 210000 hv.1
   exact⟨_,rfl,rfl,by show(wkD f left d k).tot≤_; omega⟩
 cases left
 ·simp only[cond_true,cond_false]
  cases hi:inR i 0 (d.Sequent.Right.length:Int)
  ·exact⟨_,rfl,rfl,zDt_⟩
  ·unfold inR at hi
   simp only[aH,decide_eq_true_eq] at hi
   exact main i.toNat (by show i.toNat≤d.Sequent.Right.length; omega) (by omega)
 ·simp only[cond_true]
  cases hi:inR i 0 (d.Sequent.Left.length:Int)
  ·exact⟨_,rfl,rfl,zDt_⟩
  ·unfold inR at hi
   simp only[aH,decide_eq_true_eq] at hi
   exact main i.toNat (by show i.toNat≤d.Sequent.Left.length; omega) (by omega)
theorem FnExactWeakenAt_true(d:Dt)(f:Ft)(left:Bool)(i:Int)(hok:d.Ok)(hof:f.Ok)(_:True)(hi:InR i):FnExactWeakenAt d f left i=some true:=by
 unfold FnExactWeakenAt
 rw[sDe_ d hok _ (by omega) (by omega),aq]
 by_cases e:szR d.tot 1048576<0
 ·rw[decide_eq_true e]; rfl
 have ht:=sRo_ e
 have hl:szR d.tot 1048576=((1048576-d.tot:Nat):Int):=by unfold szR; rw[if_pos (by omega)]; omega
 rw[decide_eq_false e,cond_false,sFe_ f hof _ (by omega) (by omega),aq]
 by_cases e2:szR f.tot (szR d.tot 1048576)<0
 ·rw[decide_eq_true e2]; rfl
 have hft:f.tot≤1048576:=by
  rw[hl] at e2
  unfold szR at e2
  split at e2<;>omega
 obtain⟨r,g1,g2,g3⟩:=WAb_ d f left i hok ht hof hft
 have w1:=d.marks_tot
 have w2:=r.1.marks_tot
 have w3:=f.marks_tot
 obtain⟨y0,y1,y2,y3,y4,y5,m1,_⟩:=mDh_ d (k:=1) (by omega) (by omega)
 obtain⟨x0,x1,x2,x3,x4,x5,m2,m3⟩:=mDh_ r.1 (k:=1) (by omega) (by omega)
 generalize hA:lcn Ft.cn d.Sequent.Left+lcn Ft.cn d.Sequent.Right+lcn Tt.cn d.Term.Args+lcn Tt.cn d.Cut.Atom.Args+lcn Ft.cn d.Cut.Parts+lcn Dt.cn d.Parts=A at m1 w1
 generalize hB:lcn Ft.cn r.1.Sequent.Left+lcn Ft.cn r.1.Sequent.Right+lcn Tt.cn r.1.Term.Args+lcn Tt.cn r.1.Cut.Atom.Args+lcn Ft.cn r.1.Cut.Parts+lcn Dt.cn r.1.Parts=B at m2 m3 w2
 obtain⟨z0,z1,k1,_⟩:=mFh_ f (k:=1+(A:Int)) (by omega) (by omega)
 have d1:decide ((1:Int)+(A:Int)+((lcn Tt.cn f.Atom.Args+lcn Ft.cn f.Parts:Nat):Int)<0)=false:=decide_eq_false (by omega)
 have d2:decide ((1:Int)+(B:Int)<0)=false:=decide_eq_false (by omega)
 rw[decide_eq_false e2,cond_false]
 simp only[tDe_ d ht,tFe_ f hft,aq,g1,g2,eDr_,eFr_,cond_true,beq_self_eq_true,m1,k1,d1,m2,m3,d2,cond_false,decide_true]
end
end Go.Proofs.YtkoghcphkdecoaaGreat
