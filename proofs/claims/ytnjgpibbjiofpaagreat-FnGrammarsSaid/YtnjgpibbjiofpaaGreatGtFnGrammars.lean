/- Lemmas of the proof; each says what it shows. -/
import Derived.Test.YtnjgpibbjiofpaaGreatGm
import Derived.Test.YtnjgpibbjiofpaaGreatAvZ
import Derived.Test.YtnjgpibbjiofpaaGreatGp
import Derived.Test.YtnjgpibbjiofpaaGreatGsd8
set_option linter.unusedSimpArgs false
set_option linter.unusedVariables false
set_option linter.defProp false
set_option maxRecDepth 4000
namespace Go.Proofs.YtnjgpibbjiofpaaGreat
open Go.Av
open List renaming map_cons→aF,sum_cons→bK,length_cons→aH,mem_cons→bu,length_nil→a6,length_append→aQ,length_map→au,all_eq_true→aZ
open Nat renaming le_refl→aP
open Option renaming bind_some→ai,bind→aa
open SizeOf renaming sizeOf→aX
open Tt renaming tot→bg,fl→ba
section
/-- A cursor that has been moved at most n times, over bytes. -/
def CurOk(c:lc)(n:Nat):Prop:=0≤c.at_f∧c.at_f≤(n:Int)∧∀ x∈c.code,0≤x∧x≤255
theorem CurOk.mono{c:lc}{n m:Nat}(h:CurOk c n)(hm:n≤m):CurOk c m:=⟨h.1,by have:=h.2.1; omega,h.2.2⟩
theorem wrap_i64{x:Int}(h0:0≤x)(h1:x≤4611686018427387904):IntKind.i64.wrap x=x:=wrap64 (by omega) (by omega)
theorem bitand255(v:Int):0≤IntKind.i64.wrap (bitand .u64 v (255:Int))∧IntKind.i64.wrap (bitand .u64 v (255:Int))≤255:=by
 have h:∃ k:Nat,k≤255∧bitand .u64 v (255:Int)=(k:Int):=by
  refine⟨(BitVec.ofInt 64 v&&& BitVec.ofInt 64 255).toNat,?_,?_⟩
  ·rw[BitVec.toNat_and]
   exact Nat.le_trans Nat.and_le_right (by decide)
  ·have hk:(BitVec.ofInt 64 v&&& BitVec.ofInt 64 255).toNat≤255:=by
    rw[BitVec.toNat_and]; exact Nat.le_trans Nat.and_le_right (by decide)
   unfold bitand
   exact u64_nat (n:=(BitVec.ofInt 64 v&&& BitVec.ofInt 64 255).toNat) (by omega)
 obtain⟨k,hk,e⟩:=h
 rw[e,wrap_i64 (by omega) (by omega)]
 omega
theorem next_ok{c:lc}{n:Nat}(h:CurOk c n)(hn:n≤1000000000):∃ v c',spec_l1Cur__next c=some (v,c')∧0≤v∧v≤255∧CurOk c' (n+1):=by
 obtain⟨h0,h1,h2⟩:=h
 have ha:IntKind.i64.wrap (c.at_f+1)=c.at_f+1:=wrap_i64 (by omega) (by omega)
 unfold spec_l1Cur__next
 have hs:∀ x:Int,shr .u64 x 40=some (x.fdiv (2 ^ (min (40:Int).toNat IntKind.u64.bits))):=fun x=>by simp[shr]
 by_cases e:c.at_f<(c.code.length:Int)
 ·rw[decide_eq_true e,cond_true]
  obtain⟨b,hb⟩:∃ b,c.code[c.at_f.toNat]?=some b:=⟨_,List.getElem?_eq_getElem (by omega)⟩
  have hbr:=h2 b (List.mem_of_getElem? hb)
  have hi:idx c.code c.at_f=some b:=by simp[idx,h0,hb]
  rw[hi,ai,ha,wrap_i64 hbr.1 (by omega)]
  cases decide (c.at_f+1≤(c.code.length:Int)) with
  | true=>exact⟨_,_,rfl,hbr.1,hbr.2,by simp only; omega,by simp only; omega,h2⟩
  | false=>
   rw[cond_false,hs,ai]
   exact⟨_,_,rfl,(bitand255 _).1,(bitand255 _).2,by simp only; omega,by simp only; omega,h2⟩
 ·rw[decide_eq_false e,cond_false,ha]
  cases decide (c.at_f+1≤(c.code.length:Int)) with
  | true=>exact⟨_,_,rfl,by omega,by omega,by simp only; omega,by simp only; omega,h2⟩
  | false=>
   rw[cond_false,hs,ai]
   exact⟨_,_,rfl,(bitand255 _).1,(bitand255 _).2,by simp only; omega,by simp only; omega,h2⟩
theorem rem_lt{x m:Int}(h0:0≤x)(hm:0<m):∃ v,rem x m=some v∧0≤v∧v<m:=
 ⟨x.tmod m,by simp[rem,show m≠0 by omega],Int.tmod_nonneg _ h0,Int.tmod_lt_of_pos _ hm⟩
theorem pick_ok{c:lc}{n:Nat}(m:Int)(h:CurOk c n)(hn:n+2≤1000000000):∃ v c',spec_l1Cur__pick c m=some (v,c')∧0≤v∧(1≤m→v<m)∧CurOk c' (n+2):=by
 unfold spec_l1Cur__pick
 by_cases e:m≤1
 ·rw[decide_eq_true e,cond_true]
  exact⟨_,_,rfl,by omega,fun _=>by omega,h.mono (by omega)⟩
 ·rw[decide_eq_false e,cond_false]
  obtain⟨v,c',e1,hv0,hv1,hc⟩:=next_ok h (by omega)
  rw[e1,ai]
  by_cases e2:200<m
  ·rw[decide_eq_true e2,cond_true]
   obtain⟨u,c'',e3,hu0,hu1,hc'⟩:=next_ok hc (by omega)
   simp only[e3,ai]
   rw[wrap_i64 (x:=v*256) (by omega) (by omega),wrap_i64 (by omega) (by omega)]
   obtain⟨q,e4,hq0,hq1⟩:=rem_lt (x:=v*256+u) (m:=m) (by omega) (by omega)
   rw[e4]
   exact⟨_,_,rfl,hq0,fun _=>hq1,hc'⟩
  ·rw[decide_eq_false e2,cond_false]
   obtain⟨q,e4,hq0,hq1⟩:=rem_lt (x:=v) (m:=m) hv0 (by omega)
   simp only[e4]
   exact⟨_,_,rfl,hq0,fun _=>hq1,hc.mono (by omega)⟩
theorem of_ok{c:lc}{n:Nat}(l:List ByteArray)(hl:l≠[])(h:CurOk c n)(hn:n+2≤1000000000):∃ v c',spec_l1Cur__of c l=some (v,c')∧v∈l∧CurOk c' (n+2):=by
 unfold spec_l1Cur__of
 have hp:0<l.length:=List.length_pos_iff.2 hl
 obtain⟨k,c',e,h0,h1,hc⟩:=pick_ok (l.length:Int) h hn
 have hk:=h1 (by omega)
 obtain⟨b,hb⟩:∃ b,l[k.toNat]?=some b:=⟨_,List.getElem?_eq_getElem (by omega)⟩
 have hi:idx l k=some b:=by simp[idx,h0,hb]
 simp only[e,ai,hi]
 exact⟨_,_,rfl,List.mem_of_getElem? hb,hc⟩
theorem one_ok{c:lc}{n:Nat}(m:Int)(h:CurOk c n)(hn:n+2≤1000000000):∃ b c',spec_l1Cur__one c m=some (b,c')∧CurOk c' (n+2):=by
 unfold spec_l1Cur__one
 obtain⟨k,c',e,_,_,hc⟩:=pick_ok m h hn
 simp only[e,ai]
 exact⟨_,_,rfl,hc⟩
/-- A loop that always goes on, with what holds at each turn. -/
theorem forN_inv{ρ σ:Type}{f:Nat→σ→Option (Flow ρ σ)}(I:Nat→σ→Prop):∀ (n i:Nat) (s:σ),I i s→(∀ j s,i≤j→j<i+n→I j s→∃ s',f j s=some (.nx s')∧I (j+1) s')→∃ s',forN f n i s=some (.inr s')∧I (i+n) s'
 | 0,i,s,h,_=>⟨s,rfl,h⟩
 | n+1,i,s,h,hf=>by
  obtain⟨s',e,h'⟩:=hf i s (by omega) (by omega) h
  rw[forN_nx e]
  obtain⟨s'',e2,h2⟩:=forN_inv I n (i+1) s' h' (fun j s hj hj'=>hf j s (by omega) (by omega))
  exact⟨s'',e2,by rw[show i+(n+1)=i+1+n by omega]; exact h2⟩
theorem appc1{α:Type}{xs:List α}(x:α)(h:xs.length≤1000):app xs [x]=some (xs++[x]):=by
 unfold app; rw[if_pos (by simp; omega)]
end
section
/-! The drawn terms. -/
def SmT(k:Nat)(t:Tt):Prop:=t.Ok∧t.tot≤k
theorem smT_mk{x:ByteArray}{l:List Tt}{k m:Nat}(h:x.size≤8)(hl:∀ a∈l,SmT k a)(hn:l.length≤8)(hm:8+8*(k+1)≤m):SmT m (Tt.mk x l):=by
 refine⟨.mk x l (by simp only[Big]; omega) (by simp only[Big]; omega) (fun a ha=>(hl a ha).1),?_⟩
 have:∀ l:List Tt,(∀ a∈l,SmT k a)→ltot bg l≤l.length*(k+1):=by
  intro l
  induction l with
  | nil=>intro _; simp[ltot]
  | cons a l ih=>
   intro h
   have h1:=ih (fun x hx=>h x (by simp[hx]))
   have h2:=(h a (by simp)).2
   simp only[ltot,aF,bK,aH] at h1 ⊢
   rw[Nat.succ_mul]
   omega
 have h3:=this l hl
 have h4:l.length*(k+1)≤8*(k+1):=Nat.mul_le_mul_right _ hn
 rw[Tt.tot_mk]
 omega
theorem SmT.mono{k m:Nat}{t:Tt}(h:SmT k t)(hm:k≤m):SmT m t:=⟨h.1,Nat.le_trans h.2 hm⟩
def ksz:Nat→Nat
 | 0=>16
 | d+1=>8+8*(ksz d+1)
theorem ksz_16:∀ d,16≤ksz d
 | 0=>aP _
 | d+1=>by have:=ksz_16 d; simp only[ksz]; omega
def bud:Nat→Nat
 | 0=>10
 | d+1=>2*bud d+10
theorem bud_ge:∀ d,d+10≤bud d
 | 0=>aP _
 | d+1=>by have:=bud_ge d; simp only[bud]; omega
theorem grownN_ok:∀ (d:Nat) (c:lc) (m:Nat),CurOk c m→m+bud d≤1000000000→∃ t c',(∀ n,d+1≤n→spec_l1Cur__grownN n c (d:Int)=some (t,c'))∧SmT (ksz d) t∧CurOk c' (m+bud d):=by
 intro d
 induction d with
 | zero=>
  intro c m hc hm
  have hp0:bud 0=10:=rfl
  obtain⟨v,c',e1,e2,e3⟩:=of_ok [(⟨#[88]⟩:ByteArray),(⟨#[89]⟩:ByteArray),(⟨#[90]⟩:ByteArray),(⟨#[97]⟩:ByteArray),(⟨#[98]⟩:ByteArray),(⟨#[88]⟩:ByteArray),(⟨#[97]⟩:ByteArray)] (by simp) hc (by omega)
  have hv:v.size≤8:=by
   simp only[bu,List.not_mem_nil,or_false] at e2
   rcases e2 with rfl | rfl | rfl | rfl | rfl | rfl | rfl<;>decide
  refine⟨Tt.mk v [],c',fun n hn=>?_,smT_mk (k:=0) hv (by simp) (by simp) (by simp[ksz]),e3.mono (by omega)⟩
  cases n with
  | zero=>omega
  | succ n=>rw[spec_l1Cur__grownN,decide_eq_true (by omega),cond_true,e1]; rfl
 | succ d ih=>
  intro c m hc hm
  have hp:bud (d+1)=2*bud d+10:=rfl
  have hp1:=bud_ge d
  have hk:=ksz_16 d
  have leaf:∀ (c:lc) (m':Nat),CurOk c m'→m'+2≤m+bud (d+1)→∃ v c',spec_l1Cur__of c [(⟨#[88]⟩:ByteArray),(⟨#[89]⟩:ByteArray),(⟨#[90]⟩:ByteArray),(⟨#[97]⟩:ByteArray),(⟨#[98]⟩:ByteArray),(⟨#[88]⟩:ByteArray),(⟨#[97]⟩:ByteArray)]=some (v,c')∧SmT (ksz (d+1)) (Tt.mk v [])∧CurOk c' (m+bud (d+1)):=by
   intro c m' hc hm'
   obtain⟨v,c',e1,e2,e3⟩:=of_ok [(⟨#[88]⟩:ByteArray),(⟨#[89]⟩:ByteArray),(⟨#[90]⟩:ByteArray),(⟨#[97]⟩:ByteArray),(⟨#[98]⟩:ByteArray),(⟨#[88]⟩:ByteArray),(⟨#[97]⟩:ByteArray)] (by simp) hc (by omega)
   have hv:v.size≤8:=by
    simp only[bu,List.not_mem_nil,or_false] at e2
    rcases e2 with rfl | rfl | rfl | rfl | rfl | rfl | rfl<;>decide
   exact⟨v,c',e1,smT_mk (k:=0) hv (by simp) (by simp) (by simp only[ksz]; omega),e3.mono (by omega)⟩
  by_cases hd:((d+1:Nat):Int)≤1
  ·obtain⟨v,c',e1,e2,e3⟩:=leaf c m hc (by omega)
   refine⟨_,c',fun n hn=>?_,e2,e3⟩
   cases n with
   | zero=>omega
   | succ n=>rw[spec_l1Cur__grownN,decide_eq_true hd,cond_true,e1]; rfl
  ·have hw:IntKind.i64.wrap (((d+1:Nat):Int)-(1:Int))=(d:Int):=by
    rw[wrap64 (by omega) (by omega)]; omega
   obtain⟨b,c1,q1,q2⟩:=one_ok (3:Int) hc (by omega)
   cases b
   ·obtain⟨b2,c2,r1,r2⟩:=one_ok (2:Int) q2 (by omega)
    obtain⟨t1,c3,s1,s2,s3⟩:=ih c2 (m+2+2) r2 (by omega)
    cases b2
    ·obtain⟨t2,c4,u1,u2,u3⟩:=ih c3 _ s3 (by omega)
     refine⟨Tt.mk (⟨#[103]⟩:ByteArray) [t1,t2],c4,fun n hn=>?_,smT_mk (k:=ksz d) (by decide) (by intro a ha; simp at ha; rcases ha with rfl | rfl<;>assumption) (by simp) (by simp only[ksz]; omega),u3.mono (by omega)⟩
     cases n with
     | zero=>omega
     | succ n=>
      rw[spec_l1Cur__grownN,decide_eq_false hd,cond_false,q1,ai,cond_false,r1,ai,cond_false,hw,s1 n (by omega),ai,u1 n (by omega)]; rfl
    ·refine⟨Tt.mk (⟨#[102]⟩:ByteArray) [t1],c3,fun n hn=>?_,smT_mk (k:=ksz d) (by decide) (by intro a ha; simp at ha; rcases ha with rfl; assumption) (by simp) (by simp only[ksz]; omega),s3.mono (by omega)⟩
     cases n with
     | zero=>omega
     | succ n=>
      rw[spec_l1Cur__grownN,decide_eq_false hd,cond_false,q1,ai,cond_false,r1,ai,cond_true,hw,s1 n (by omega)]; rfl
   ·obtain⟨v,c',e1,e2,e3⟩:=leaf c1 _ q2 (by omega)
    refine⟨_,c',fun n hn=>?_,e2,e3⟩
    cases n with
    | zero=>omega
    | succ n=>rw[spec_l1Cur__grownN,decide_eq_false hd,cond_false,q1,ai,cond_true,e1]; rfl
theorem ksz_mono{a b:Nat}(h:a≤b):ksz a≤ksz b:=by
 induction h with
 | refl=>exact aP _
 | step _ ih=>simp only[ksz]; omega
theorem bud_mono{a b:Nat}(h:a≤b):bud a≤bud b:=by
 induction h with
 | refl=>exact aP _
 | step _ ih=>simp only[bud]; omega
theorem term_ok{c:lc}{m:Nat}(h:CurOk c m)(hm:m+200≤1000000000):∃ t c',spec_l1Cur__term c=some (t,c')∧SmT 9360 t∧CurOk c' (m+200):=by
 obtain⟨v,c1,e1,e2,e3,e4⟩:=pick_ok (3:Int) h (by omega)
 have e3:=e3 (by omega)
 obtain⟨d,rfl⟩:∃ d:Nat,v=d:=⟨v.toNat,by omega⟩
 have hb:bud (1+d)≤bud 3:=bud_mono (by omega)
 have hk:ksz (1+d)≤ksz 3:=ksz_mono (by omega)
 have hb3:bud 3=150:=rfl
 have hk3:ksz 3=9360:=rfl
 obtain⟨t,c2,f1,f2,f3⟩:=grownN_ok (1+d) c1 _ e4 (by omega)
 have hw:IntKind.i64.wrap ((1:Int)+(d:Int))=((1+d:Nat):Int):=by rw[wrap64 (by omega) (by omega)]; omega
 have hg:spec_l1Cur__grown c1 ((1+d:Nat):Int)=some (t,c2):=lim_eq ⟨_,f1⟩
 exact⟨t,c2,by unfold spec_l1Cur__term; rw[e1,ai,hw,hg]; rfl,f2.mono (by omega),f3.mono (by omega)⟩
theorem tower_loop:∀ (d:Nat) (x:ByteArray) (l:List Tt) (k:Nat),d≤100→x.size≤8→(∀ a∈l,SmT k a)→l.length≤1→∃ y l',Ev (fun n2=>whileN (ρ:=Tt×lc) (fun (s2:Int×ByteArray×(List Tt))=>
 bif decide ((1:Int)<s2.1) then
  some (.nx (IntKind.i64.wrap (s2.1-(1:Int)),(⟨#[102]⟩:ByteArray),[(Tt.mk s2.2.1 s2.2.2)]))
 else
  some (.br s2)) n2 ((d:Int),x,l)) (.inr (((if d=0 then 0 else 1:Nat):Int),y,l'))∧y.size≤8∧l'.length≤1∧∀ a∈l',SmT (k+9*d) a:=by
 intro d
 induction d with
 | zero=>intro x l k _ hx hl hn; exact⟨x,l,ev_br rfl,hx,hn,fun a ha=>(hl a ha).mono (by omega)⟩
 | succ d ih=>
  intro x l k hd hx hl hn
  by_cases h1:d=0
  ·subst h1; exact⟨x,l,ev_br rfl,hx,hn,fun a ha=>(hl a ha).mono (by omega)⟩
  ·have hs:SmT (k+9) (Tt.mk x l):=by
    refine⟨.mk x l (by simp only[Big]; omega) (by simp only[Big]; omega) (fun a ha=>(hl a ha).1),?_⟩
    rw[Tt.tot_mk]
    cases l with
    | nil=>simp only[ltot,List.map_nil,List.sum_nil,a6]; omega
    | cons a l=>
     cases l with
     | nil=>
      have:=(hl a (by simp)).2
      simp only[ltot,aF,List.map_nil,bK,List.sum_nil,aH,a6]; omega
     | cons b l=>simp at hn
   obtain⟨y,l',e1,e2,e3,e4⟩:=ih (⟨#[102]⟩:ByteArray) [Tt.mk x l] (k+9) (by omega) (by decide) (by intro a ha; simp at ha; rw[ha]; exact hs) (by simp)
   rw[if_neg h1] at e1
   refine⟨y,l',?_,e2,e3,fun a ha=>(e4 a ha).mono (by omega)⟩
   rw[if_neg (by omega)]
   refine ev_nx ?_ e1
   show(bif decide ((1:Int)<((d+1:Nat):Int)) then _ else _)=_
   rw[decide_eq_true (by omega),cond_true,show IntKind.i64.wrap (((d+1:Nat):Int)-(1:Int))=(d:Int) by rw[wrap64 (by omega) (by omega)]; omega]
theorem tower_ok{c:lc}{m d:Nat}(h:CurOk c m)(hm:m+2≤1000000000)(hd:d≤100):∃ t c',spec_l1Cur__tower c (d:Int)=some (t,c')∧SmT 9360 t∧CurOk c' (m+2):=by
 obtain⟨v,c',e1,e2,e3⟩:=of_ok [(⟨#[88]⟩:ByteArray),(⟨#[97]⟩:ByteArray)] (by simp) h (by omega)
 have hv:v.size≤8:=by
  simp only[bu,List.not_mem_nil,or_false] at e2
  rcases e2 with rfl | rfl<;>decide
 obtain⟨y,l',f1,f2,f3,f4⟩:=tower_loop d v [] 0 hd hv (by simp) (by simp)
 refine⟨Tt.mk y l',c',?_,smT_mk (k:=900) f2 (fun a ha=>(f4 a ha).mono (by omega)) (by omega) (by omega),e3⟩
 unfold spec_l1Cur__tower
 rw[e1,ai]
 refine(congrArg (fun z=>thenL z _) (lim_eq f1)).trans ?_
 rw[thenL_inr]
def leafH:Tt:=Tt.mk (⟨#[104]⟩:ByteArray) (List.replicate 4 (Tt.mk (⟨#[102]⟩:ByteArray) ([(Tt.mk (⟨#[97]⟩:ByteArray) ([]))])))
theorem leafH_ok:SmT 1000 leafH:=by
 refine smT_mk (k:=100) (by decide) (fun a ha=>?_) (by simp) (by omega)
 rw[List.eq_of_mem_replicate ha]
 exact smT_mk (k:=8) (by decide) (fun b hb=>by
  simp at hb; subst hb
  exact⟨.mk _ _ (by simp only[Big]; decide) (by simp[Big]) (by simp),by rw[Tt.tot_mk]; decide⟩) (by simp) (by omega)
theorem wide_loop:forN (ρ:=Tt×lc) (fun (i3:Nat) (s3:(List Tt))=>
 thenL (ρ:=(Flow (Tt×lc) (List Tt))) (σ:=(List Tt)) (forN (fun (i7:Nat) (s7:(List Tt))=>
  aa (app s7 ([(Tt.mk (⟨#[102]⟩:ByteArray) ([(Tt.mk (⟨#[97]⟩:ByteArray) ([]))]))])) fun v23=>
  some (.nx v23)) 4 0 ([])) fun s7=>
 aa (app s3 ([(Tt.mk (⟨#[104]⟩:ByteArray) s7)])) fun v29=>
 some (.nx v29)) 4 0 ([])=some (.inr (List.replicate 4 leafH)):=by
 simp[forN,app,thenL,leafH,List.replicate]
end
section
/-! The drawn arguments of FnMajorants. -/
theorem smT_re{k:Nat}{x:ByteArray}{t:Tt}(h:SmT k t)(hx:x.size≤8)(hk:k≤1000000):SmT (k+8) (Tt.mk x t.Args):=by
 obtain⟨h1,h2⟩:=h
 have h3:=h1.u
 have h4:=Tt.tot_u t
 refine⟨.mk _ _ (by simp only[Big]; omega) h3.2.1 h3.2.2,?_⟩
 rw[Tt.tot_mk]; omega
theorem smT_arg{k:Nat}{t:Tt}(h:SmT k t):∀ a∈t.Args,SmT k a:=by
 intro a ha
 obtain⟨h1,h2⟩:=h
 have h3:=h1.u
 refine⟨h3.2.2 a ha,?_⟩
 have h4:=Tt.tot_u t
 have:a.tot≤(t.Args.map bg).sum:=le_sum_mem bg ha
 unfold ltot at h4; omega
theorem wide_ok{c:lc}{m:Nat}(h:CurOk c m)(hm:m+4≤1000000000):∃ t c',spec_l1Cur__wide c=some (t,c')∧SmT 10000 t∧CurOk c' (m+4):=by
 unfold spec_l1Cur__wide
 refine(fun {P:Option (Tt×lc)→Prop} (H:P _)=>(congrArg (fun z=>P (thenL z _)) wide_loop).mpr H) (P:=fun z=>∃ t c',z=some (t,c')∧SmT 10000 t∧CurOk c' (m+4)) ?_
 rw[thenL_inr]
 obtain⟨b,c1,e1,h1⟩:=one_ok 2 h (by omega)
 obtain⟨b2,c2,e2,h2⟩:=one_ok 2 h1 (by omega)
 have hr:∀ n,n≤4→SmT 10000 (Tt.mk (⟨#[103]⟩:ByteArray) (List.replicate n leafH)):=fun n hn=>
  smT_mk (k:=1000) (by decide) (fun a ha=>by rw[List.eq_of_mem_replicate ha]; exact leafH_ok) (by simp; omega) (by omega)
 have hb:SmT 10000 (Tt.mk (⟨#[103]⟩:ByteArray) (List.replicate 3 leafH++[Tt.mk (⟨#[102]⟩:ByteArray) [Tt.mk (⟨#[98]⟩:ByteArray) []]])):=by
  refine smT_mk (k:=1000) (by decide) (fun a ha=>?_) (by simp) (by omega)
  rcases List.mem_append.1 ha with ha | ha
  ·rw[List.eq_of_mem_replicate ha]; exact leafH_ok
  ·rw[List.mem_singleton.1 ha]
   exact smT_mk (k:=8) (by decide) (fun b hb=>by
    simp at hb; subst hb
    exact⟨.mk _ _ (by simp only[Big]; decide) (by simp[Big]) (by simp),by rw[Tt.tot_mk]; decide⟩) (by simp) (by omega)
 rw[e1,ai]
 cases b
 ·rw[cond_false,e2,ai]
  cases b2
  ·exact⟨_,_,rfl,hr 4 (by omega),h2.mono (by omega)⟩
  ·exact⟨_,_,rfl,hr 4 (by omega),h2.mono (by omega)⟩
 ·rw[cond_true,show slc (List.replicate 4 leafH) 0 3=some (List.replicate 3 leafH) from rfl,ai,e2,ai]
  cases b2
  ·exact⟨_,_,rfl,hr 3 (by omega),h2.mono (by omega)⟩
  ·exact⟨_,_,rfl,hb,h2.mono (by omega)⟩
theorem anyTerm_ok{c:lc}{m:Nat}(h:CurOk c m)(hm:m+1000≤1000000000):∃ t c',spec_l1Cur__anyTerm c=some (t,c')∧SmT 50000 t∧CurOk c' (m+1000):=by
 unfold spec_l1Cur__anyTerm
 obtain⟨t,c1,e1,ht,h1⟩:=term_ok h (by omega)
 obtain⟨v,c2,e2,_,_,h2⟩:=pick_ok 24 h1 (by omega)
 rw[e1,ai,e2,ai]
 by_cases q:v=0
 ·obtain⟨w,c3,e3,hw,h3⟩:=of_ok [(⟨#[]⟩:ByteArray),(⟨#[116,114,117,101]⟩:ByteArray),(⟨#[116,114,117,116,104]⟩:ByteArray),(⟨#[105,102]⟩:ByteArray),(⟨#[88,121,122,57]⟩:ByteArray),(⟨#[88,121,122,57,57]⟩:ByteArray),(⟨#[120,65]⟩:ByteArray),(⟨#[97,95,98]⟩:ByteArray),(⟨#[97,98,99,100,101,102]⟩:ByteArray),(⟨#[97,98,99,100,101,102,103]⟩:ByteArray),(⟨#[95,97]⟩:ByteArray),(⟨#[57]⟩:ByteArray),(⟨#[88,95]⟩:ByteArray),(⟨#[61]⟩:ByteArray)] (by simp) h2 (by omega)
  have hws:w.size≤8:=by
   simp only[bu,List.not_mem_nil,or_false] at hw
   rcases hw with rfl | rfl | rfl | rfl | rfl | rfl | rfl | rfl | rfl | rfl | rfl | rfl | rfl | rfl<;>decide
  rw[decide_eq_true q,cond_true,e3,ai]
  exact⟨_,_,rfl,(smT_re ht hws (by omega)).mono (by omega),h3.mono (by omega)⟩
 rw[decide_eq_false q,cond_false]
 by_cases q:v=1
 ·obtain⟨w,c3,e3,hw0,hw1,h3⟩:=pick_ok 3 h2 (by omega)
  have hw1:=hw1 (by omega)
  obtain⟨d,rfl⟩:∃ d:Nat,w=d:=⟨w.toNat,by omega⟩
  have hw:IntKind.i64.wrap ((7:Int)+(d:Int))=((7+d:Nat):Int):=by rw[wrap64 (by omega) (by omega)]; omega
  obtain⟨y,c4,e4,hy,h4⟩:=tower_ok (d:=7+d) h3 (by omega) (by omega)
  rw[decide_eq_true q,cond_true,e3,ai,hw,e4,ai]
  exact⟨_,_,rfl,hy.mono (by omega),h4.mono (by omega)⟩
 rw[decide_eq_false q,cond_false]
 by_cases q:v=2
 ·obtain⟨y,c4,e4,hy,h4⟩:=wide_ok h2 (by omega)
  rw[decide_eq_true q,cond_true,e4,ai]
  exact⟨_,_,rfl,hy.mono (by omega),h4.mono (by omega)⟩
 rw[decide_eq_false q,cond_false]
 by_cases q:v=3
 ·obtain⟨a,c3,e3,ha,h3⟩:=term_ok h2 (by omega)
  obtain⟨b,c4,e4,hb,h4⟩:=term_ok h3 (by omega)
  obtain⟨d,c5,e5,hd,h5⟩:=term_ok h4 (by omega)
  have h6:=ht.1.u
  have h7:=Tt.tot_u t
  have h8:=ht.2
  have hl:t.Args.length≤ltot bg t.Args:=by unfold ltot; omega
  rw[decide_eq_true q,cond_true,e3,ai,e4,ai,e5,ai,show app t.Args [a,b,d]=some (t.Args++[a,b,d]) by unfold app; rw[if_pos (by simp; omega)],ai]
  refine⟨_,_,rfl,⟨.mk _ _ h6.1 (by simp[Big]; omega) (fun x hx=>?_),?_⟩,h5.mono (by omega)⟩
  ·rcases List.mem_append.1 hx with hx | hx
   ·exact h6.2.2 x hx
   ·simp at hx; rcases hx with rfl | rfl | rfl
    ·exact ha.1
    ·exact hb.1
    ·exact hd.1
  ·rw[Tt.tot_mk]
   have:=ha.2; have:=hb.2; have:=hd.2
   simp only[ltot,aQ,List.map_append,List.sum_append,aF,List.map_nil,bK,List.sum_nil,aH,a6] at h7 ⊢
   omega
 rw[decide_eq_false q,cond_false]
 by_cases q:v=4
 ·rw[decide_eq_true q,cond_true]
  by_cases hl:(0:Int)<(t.Args.length:Int)
  ·obtain⟨w,c3,e3,hw,h3⟩:=of_ok [(⟨#[61]⟩:ByteArray),(⟨#[]⟩:ByteArray),(⟨#[81,49]⟩:ByteArray),(⟨#[98,50]⟩:ByteArray)] (by simp) h2 (by omega)
   have hws:w.size≤8:=by
    simp only[bu,List.not_mem_nil,or_false] at hw
    rcases hw with rfl | rfl | rfl | rfl<;>decide
   rw[decide_eq_true hl,cond_true,e3,ai]
   cases hA:t.Args with
   | nil=>rw[hA] at hl; simp at hl
   | cons a l=>
    have hs:=smT_re (smT_arg ht a (by rw[hA]; simp)) hws (by omega)
    have h6:=ht.1.u
    have h7:=Tt.tot_u t
    have h8:=ht.2
    rw[hA] at h6 h7
    rw[show idx (a::l) (0:Int)=some a from rfl,ai]
    refine⟨_,_,rfl,⟨.mk _ _ h6.1 (by simpa[LOk] using h6.2.1) (fun x hx=>?_),?_⟩,h3.mono (by omega)⟩
    ·have hx:x=Tt.mk w a.Args∨x∈l:=by simpa using hx
     rcases hx with rfl | hx
     ·exact hs.1
     ·exact h6.2.2 x (by simp[hx])
    ·rw[Tt.tot_mk]
     have:=hs.2
     show _+ltot bg (Tt.mk w a.Args::l)≤_
     simp only[ltot,aF,bK,aH] at h7 ⊢
     omega
  ·rw[decide_eq_false hl,cond_false]
   exact⟨_,_,rfl,ht.mono (by omega),h2.mono (by omega)⟩
 ·rw[decide_eq_false q,cond_false]
  exact⟨_,_,rfl,ht.mono (by omega),h2.mono (by omega)⟩
end
section
/-! ### reading a term ends -/
theorem small_some(c:Int):∃ b,spec_l2Small c=some b:=by
 unfold spec_l2Small
 cases decide ((97:Int)≤c)<;>cases decide (c≤(122:Int))<;>cases decide ((48:Int)≤c)<;>exact⟨_,rfl⟩
theorem word_some(c:Int):∃ b,spec_l3Word c=some b:=by
 obtain⟨b,e⟩:=small_some c
 unfold spec_l3Word
 rw[e,ai]
 cases b<;>cases decide ((65:Int)≤c)<;>cases decide (c≤(90:Int))<;>exact⟨_,rfl⟩
theorem scan_ok(s:ByteArray)(hb:s.size≤4000){ρ:Type}:∀ k i:Nat,i+k=s.size→∃ j:Nat,i≤j∧j≤s.size∧Ev (fun n2=>whileN (ρ:=ρ) (fun (s2:Int)=>
 bif decide (s2<(s.size:Int)) then
  aa (sidx s s2) fun v18=>
  aa (spec_l3Word v18) fun v19=>
  bif v19 then
   some (.nx (IntKind.i64.wrap (s2+(1:Int))))
  else
   some (.br s2)
 else
  some (.br s2)) n2 (i:Int)) (.inr (j:Int))
 | 0,i,h=>⟨i,aP _,by omega,ev_br (by rw[decide_eq_false (by omega)]; rfl)⟩
 | k+1,i,h=>by
  obtain⟨b,e⟩:=word_some (byt s i)
  have hi:sidx s (i:Int)=some (byt s i):=sidx_nat (by omega)
  cases b
  ·exact⟨i,aP _,by omega,ev_br (by rw[decide_eq_true (by omega),cond_true,hi,ai,e]; rfl)⟩
  ·obtain⟨j,h1,h2,h3⟩:=scan_ok s hb k (i+1) (by omega)
   exact⟨j,by omega,h2,ev_nx (by rw[decide_eq_true (by omega),cond_true,hi,ai,e,ai,cond_true,wrap_succ (by omega)]) h3⟩
/-- What a read yields. -/
def RdOk(s:ByteArray)(i:Nat)(r:Tt×Int):Prop:=r.2=-1∨∃ e:Nat,r.2=(e:Int)∧i<e∧e≤s.size∧r.1.Ok∧r.1.tot≤2*(e-i)
theorem args_ok(s:ByteArray)(hb:s.size≤4000)(i:Nat)(nm:ByteArray)(R:Nat→Tt×Int)(hR:∀ x,i<x→x≤s.size→RdOk s x (R x)):∀ (k q:Nat) (args:List Tt),q+k=s.size→i<q→q<s.size→nm.size+ltot bg args≤2*(q-i)→(∀ a∈args,a.Ok)→
 ∃ r:Tt×Int,RdOk s i r∧∀ f:Int→Option (Tt×Int),(∀ x:Nat,i<x→x≤s.size→f (x:Int)=some (R x))→Ev (fun n9=>whileN (fun (s9:Int×(List Tt))=>
  aa (f (IntKind.i64.wrap (s9.1+(1:Int)))) fun v48=>
  bif decide (v48.2<(0:Int)) then
   some (.rt ((Tt.mk nm s9.2),(-1:Int)))
  else
   bif decide (v48.2=(s.size:Int)) then
    some (.rt ((Tt.mk nm s9.2),(-1:Int)))
   else
    aa (sidx s v48.2) fun v62=>
    bif decide (v62=(44:Int)) then
     aa (app s9.2 ([v48.1])) fun v76=>
     aa (sidx s v48.2) fun v81=>
     bif decide (v81=(41:Int)) then
      some (.rt ((Tt.mk nm v76),IntKind.i64.wrap (v48.2+(1:Int))))
     else
      some (.nx (v48.2,v76))
    else
     aa (sidx s v48.2) fun v67=>
     bif decide (v67=(41:Int)) then
      aa (app s9.2 ([v48.1])) fun v76=>
      aa (sidx s v48.2) fun v81=>
      bif decide (v81=(41:Int)) then
       some (.rt ((Tt.mk nm v76),IntKind.i64.wrap (v48.2+(1:Int))))
      else
       some (.nx (v48.2,v76))
     else
      some (.rt ((Tt.mk nm s9.2),(-1:Int)))) n9 ((q:Int),args)) (.inl r)
 | k,q,args,hk,hq,hqs,ht,ho=>by
  have h:=hR (q+1) (by omega) (by omega)
  have hfx:∀ f:Int→Option (Tt×Int),(∀ x:Nat,i<x→x≤s.size→f (x:Int)=some (R x))→f (IntKind.i64.wrap ((q:Int)+1))=some (R (q+1)):=fun f hf=>by
   rw[wrap_succ (by omega)]; exact hf (q+1) (by omega) (by omega)
  have len:=ltot_len bg args
  rcases h with h | ⟨e,h1,h2,h3,h4,h5⟩
  ·exact⟨(Tt.mk nm args,-1),.inl rfl,fun f hf=>ev_rt (by
    show aa (f (IntKind.i64.wrap ((q:Int)+1))) _=_
    rw[hfx f hf,ai,h,decide_eq_true (by omega)]; rfl)⟩
  ·by_cases g:e=s.size
   ·exact⟨(Tt.mk nm args,-1),.inl rfl,fun f hf=>ev_rt (by
     show aa (f (IntKind.i64.wrap ((q:Int)+1))) _=_
     rw[hfx f hf,ai,h1,decide_eq_false (by omega),cond_false,decide_eq_true (by omega)]; rfl)⟩
   ·have hi:sidx s (e:Int)=some (byt s e):=sidx_nat (by omega)
    have ha:app args [(R (q+1)).1]=some (args++[(R (q+1)).1]):=by unfold app; rw[if_pos (by simp; omega)]
    have ht2:nm.size+ltot bg (args++[(R (q+1)).1])≤2*(e-i):=by
     simp only[ltot,aQ,List.map_append,List.sum_append,aH,a6,aF,List.map_nil,bK,List.sum_nil] at ht ⊢
     omega
    have ho2:∀ a∈args++[(R (q+1)).1],a.Ok:=fun a ha=>by
     rcases List.mem_append.1 ha with ha | ha
     ·exact ho a ha
     ·rw[List.mem_singleton.1 ha]; exact h4
    have len2:=ltot_len bg (args++[(R (q+1)).1])
    by_cases c2:byt s e=41
    ·refine⟨(Tt.mk nm (args++[(R (q+1)).1]),((e+1:Nat):Int)),.inr ⟨e+1,rfl,by omega,by omega,Tt.Ok.mk _ _ (by simp only[Big]; omega) (by simp only[Big]; omega) ho2,?_⟩,fun f hf=>ev_rt ?_⟩
     ·rw[Tt.tot_mk]; omega
     ·show aa (f (IntKind.i64.wrap ((q:Int)+1))) _=_
      rw[hfx f hf,ai,h1,decide_eq_false (by omega),cond_false,decide_eq_false (by omega),cond_false,hi]
      simp only[ai]
      rw[ha,ai,c2,decide_eq_true rfl,decide_eq_false (by decide),cond_false,cond_true,wrap_succ (by omega)]; rfl
    ·by_cases c1:byt s e=44
     ·obtain⟨r,r1,r2⟩:=args_ok s hb i nm R hR (s.size-e) e (args++[(R (q+1)).1]) (by omega) (by omega) (by omega) ht2 ho2
      refine⟨r,r1,fun f hf=>ev_nx ?_ (r2 f hf)⟩
      show aa (f (IntKind.i64.wrap ((q:Int)+1))) _=_
      rw[hfx f hf,ai,h1,decide_eq_false (by omega),cond_false,decide_eq_false (by omega),cond_false,hi]
      simp only[ai]
      rw[ha,ai,c1,decide_eq_true rfl,decide_eq_false (by decide)]; rfl
     ·exact⟨(Tt.mk nm args,-1),.inl rfl,fun f hf=>ev_rt (by
       show aa (f (IntKind.i64.wrap ((q:Int)+1))) _=_
       rw[hfx f hf,ai,h1,decide_eq_false (by omega),cond_false,decide_eq_false (by omega),cond_false,hi]
       simp only[ai]
       rw[decide_eq_false c1,decide_eq_false c2]; rfl)⟩
termination_by k=>k
decreasing_by omega
theorem read_ok(s:ByteArray)(hb:s.size≤4000):∀ (d i:Nat),i≤s.size→s.size-i≤d→∃ r,(∀ n,d+1≤n→spec_l3ReadN n s (i:Int)=some r)∧RdOk s i r
 | d,i,hi,hd=>by
  obtain⟨j,j1,j2,j3⟩:=scan_ok s hb (ρ:=Tt×Int) (s.size-i) i (by omega)
  have hs:sslc s (i:Int) (j:Int)=some (s.extract i j):=by unfold sslc; rw[if_pos (by omega)]; rfl
  have hz:(s.extract i j).size=j-i:=by rw[ByteArray.size_extract]; omega
  have start:∀ (n:Nat) (r:Option (Tt×Int)),(aa (some (s.extract i j)) fun v26=>
  bif decide ((j:Int)=(i:Int)) then
   some ((Tt.mk v26 ([])),(-1:Int))
  else
   bif decide ((j:Int)=(s.size:Int)) then
    some ((Tt.mk v26 ([])),(j:Int))
   else
    aa (sidx s (j:Int)) fun v39=>
    bif decide (v39=(40:Int)) then
     thenL (ρ:=(Tt×Int)) (σ:=Int×(List Tt)) (lim fun n9=>whileN (fun (s9:Int×(List Tt))=>
      aa (spec_l3ReadN n s (IntKind.i64.wrap (s9.1+(1:Int)))) fun v48=>
      bif decide (v48.2<(0:Int)) then
       some (.rt ((Tt.mk v26 s9.2),(-1:Int)))
      else
       bif decide (v48.2=(s.size:Int)) then
        some (.rt ((Tt.mk v26 s9.2),(-1:Int)))
       else
        aa (sidx s v48.2) fun v62=>
        bif decide (v62=(44:Int)) then
         aa (app s9.2 ([v48.1])) fun v76=>
         aa (sidx s v48.2) fun v81=>
         bif decide (v81=(41:Int)) then
          some (.rt ((Tt.mk v26 v76),IntKind.i64.wrap (v48.2+(1:Int))))
         else
          some (.nx (v48.2,v76))
        else
         aa (sidx s v48.2) fun v67=>
         bif decide (v67=(41:Int)) then
          aa (app s9.2 ([v48.1])) fun v76=>
          aa (sidx s v48.2) fun v81=>
          bif decide (v81=(41:Int)) then
           some (.rt ((Tt.mk v26 v76),IntKind.i64.wrap (v48.2+(1:Int))))
          else
           some (.nx (v48.2,v76))
         else
          some (.rt ((Tt.mk v26 s9.2),(-1:Int)))) n9 ((j:Int),[])) fun s9=>
     none
    else
     some ((Tt.mk v26 ([])),(j:Int)))=r→spec_l3ReadN (n+1) s (i:Int)=r:=fun n r e=>by
   rw[spec_l3ReadN]
   refine(congrArg (fun z=>thenL z _) (lim_eq j3)).trans ?_
   rw[thenL_inr,hs]
   exact e
  have leaf:∀ e:Nat,i<e→j=e→RdOk s i (Tt.mk (s.extract i j) [],(j:Int)):=fun e h1 h2=>.inr ⟨j,rfl,by omega,j2,Tt.Ok.mk _ _ (by show(s.extract i j).size≤_; rw[hz]; omega) (Nat.zero_le _) (fun a ha=>nomatch ha),by rw[Tt.tot_mk,hz]; simp[ltot]; omega⟩
  by_cases g1:j=i
  ·refine⟨(Tt.mk (s.extract i j) [],-1),fun n hn=>?_,.inl rfl⟩
   obtain⟨n,rfl⟩:∃ m,n=m+1:=⟨n-1,by omega⟩
   exact start n _ (by rw[ai,decide_eq_true (by omega)]; rfl)
  by_cases g2:j=s.size
  ·refine⟨(Tt.mk (s.extract i j) [],(j:Int)),fun n hn=>?_,leaf j (by omega) rfl⟩
   obtain⟨n,rfl⟩:∃ m,n=m+1:=⟨n-1,by omega⟩
   exact start n _ (by rw[ai,decide_eq_false (by omega),cond_false,decide_eq_true (by omega)]; rfl)
  have hc:sidx s (j:Int)=some (byt s j):=sidx_nat (by omega)
  by_cases g3:byt s j=40
  ·cases d with
   | zero=>omega
   | succ d=>
    have ih:∀ x:Nat,∃ r,i<x→x≤s.size→(∀ n,d+1≤n→spec_l3ReadN n s (x:Int)=some r)∧RdOk s x r:=fun x=>by
     by_cases hx:i<x∧x≤s.size
     ·obtain⟨r,r1,r2⟩:=read_ok s hb d x hx.2 (by omega)
      exact⟨r,fun _ _=>⟨r1,r2⟩⟩
     ·exact⟨default,fun h1 h2=>absurd ⟨h1,h2⟩ hx⟩
    obtain⟨R,hR⟩:=Classical.skolem.1 ih
    obtain⟨r,r1,r2⟩:=args_ok s hb i (s.extract i j) R (fun x h1 h2=>(hR x h1 h2).2) (s.size-j) j [] (by omega) (by omega) (by omega) (by rw[hz]; simp[ltot]; omega) (fun a ha=>nomatch ha)
    refine⟨r,fun n hn=>?_,r1⟩
    obtain⟨n,rfl⟩:∃ m,n=m+1:=⟨n-1,by omega⟩
    refine start n _ ?_
    rw[ai,decide_eq_false (by omega),cond_false,decide_eq_false (by omega),cond_false,hc,ai,decide_eq_true g3,cond_true]
    refine(congrArg (fun z=>thenL z _) (lim_eq (r2 (spec_l3ReadN n s) (fun x h1 h2=>(hR x h1 h2).1 n (by omega))))).trans rfl
  ·refine⟨(Tt.mk (s.extract i j) [],(j:Int)),fun n hn=>?_,leaf j (by omega) rfl⟩
   obtain⟨n,rfl⟩:∃ m,n=m+1:=⟨n-1,by omega⟩
   exact start n _ (by rw[ai,decide_eq_false (by omega),cond_false,decide_eq_false (by omega),cond_false,hc,ai,decide_eq_false g3]; rfl)
end
section
/-! ### the draws end, and what they draw is small -/
theorem zeroT_SmT:SmT 0 (Tt.mk (⟨#[]⟩:ByteArray) []):=⟨Tt.Ok.mk _ _ (Nat.zero_le _) (Nat.zero_le _) (fun a ha=>nomatch ha),by rw[Tt.tot_mk]; exact aP _⟩
theorem parse_ok(s:ByteArray)(hs:s.size≤100):∃ t b,spec_ParseTerm s=some (t,b)∧SmT 200 t:=by
 obtain⟨r,h1,h2⟩:=read_ok s (by omega) s.size 0 (Nat.zero_le _) (by omega)
 have hr:spec_l3Read s 0=some r:=lim_eq ⟨s.size+1,fun n hn=>h1 n hn⟩
 unfold spec_ParseTerm spec_l3Whole
 rw[decide_eq_false (by omega),cond_false,hr,ai]
 by_cases g:r.2=(s.size:Int)
 ·rw[decide_eq_true g,cond_true]
  rcases h2 with h2 | ⟨e,h2,h3,h4,h5,h6⟩
  ·omega
  ·have h7:r.1.tot≤200:=by omega
   rw[l2Good_ok _ (by omega) h5,ai]
   cases goodT r.1
   ·exact⟨_,_,rfl,zeroT_SmT.mono (by omega)⟩
   ·exact⟨_,_,rfl,h5,h7⟩
 ·rw[decide_eq_false g]; exact⟨_,_,rfl,zeroT_SmT.mono (by omega)⟩
theorem text_ok{c:lc}{m:Nat}(l:List ByteArray)(hl:l≠[])(hs:∀ s∈l,s.size≤100)(h:CurOk c m)(hm:m+2≤1000000000):∃ t c',spec_l22Text c l=some (t,c')∧SmT 200 t∧CurOk c' (m+2):=by
 obtain⟨v,c1,h1,h2,h3⟩:=of_ok l hl h hm
 obtain⟨t,b,h4,h5⟩:=parse_ok v (hs v h2)
 unfold spec_l22Text
 rw[h1,ai,h4]
 exact⟨t,c1,rfl,h5,h3⟩
/-! ### filling -/
theorem forN_buildT{ρ α:Type}{f:Nat→List α→Option (Flow ρ (List α))}(g:Nat→α):∀ (n i:Nat) (acc:List α),acc.length+n≤1000000→(∀ j s,i≤j→j<i+n→s.length≤1000000→f j s=some (.nx (s++[g j])))→forN f n i acc=some (.inr (acc++(List.range' i n).map g))
 | 0,i,acc,_,_=>by rw[forN_zero]; simp
 | n+1,i,acc,hb,h=>by
  rw[forN_nx (s':=acc++[g i]) (h i acc (by omega) (by omega) (by omega)),forN_buildT g n (i+1) _ (by simp; omega) (fun j s h1 h2=>h j s (by omega) (by omega)),List.range'_succ,aF,List.append_assoc]; rfl
def BndS(k:Nat)(σ:Sa):Prop:=∀ b∈σ.Bindings,SmT k b.Term
theorem find_rng(σ:Sa)(x:ByteArray):∃ v,spec_l4Find σ x=some v∧(0≤v→v<σ.Bindings.length):=by
 unfold spec_l4Find
 have:∀ n i:Nat,i+n=σ.Bindings.length→∃ v,thenL (ρ:=Int) (σ:=Unit) (forN (fun (i2:Nat) (s2:Unit)=>
  aa (idx σ.Bindings (i2:Int)) fun v16=>
  bif decide (v16.Var=x) then
   some (.rt (i2:Int))
  else
   some (.nx ())) n i ()) (fun s2=>some (-1:Int))=some v∧(0≤v→v<σ.Bindings.length):=fun n=>by
  induction n with
  | zero=>intro i hi; exact⟨-1,rfl,by omega⟩
  | succ n ih=>
   intro i hi
   by_cases g:(σ.Bindings.getD i default).Var=x
   ·exact⟨(i:Int),by rw[forN_rt (r:=(i:Int)) (by rw[idx_getD (by omega),ai,decide_eq_true g]; rfl)]; rfl,by omega⟩
   ·obtain⟨v,h1,h2⟩:=ih (i+1) (by omega)
    exact⟨v,by rw[forN_nx (s':=()) (by rw[idx_getD (by omega),ai,decide_eq_false g]; rfl),h1],h2⟩
 exact this _ 0 (by omega)
theorem applyT_ok{σ:Sa}{k:Nat}(hσ:BndS k σ)(hk:k≤1000)(a:Tt):a.Ok→a.tot≤1000→∃ r,(∀ n,2*aX a≤n→spec_l4ApplyN n σ a=some r)∧r.Ok∧r.tot+1≤(a.tot+1)*(k+2):=by
 refine Tt.ind' (M:=fun a=>a.Ok→a.tot≤1000→∃ r,(∀ n,2*aX a≤n→spec_l4ApplyN n σ a=some r)∧r.Ok∧r.tot+1≤(a.tot+1)*(k+2)) (fun a ih hok ht=>?_) a
 have hp:=a.pos
 have hu:=a.tot_u
 obtain⟨ho1,ho2⟩:=hok.u
 have h1:a.tot+1≤(a.tot+1)*(k+2):=Nat.le_mul_of_pos_right _ (by omega)
 have h2:k+2≤(a.tot+1)*(k+2):=Nat.le_mul_of_pos_left _ (by omega)
 cases hv:isVarS a.Name
 ·-- a function symbol
  have hl:=ltot_len bg a.Args
  have each:∀ j:Nat,∃ r,j<a.Args.length→(∀ n,2*aX (a.Args.getD j default)≤n→spec_l4ApplyN n σ (a.Args.getD j default)=some r)∧r.Ok∧r.tot+1≤((a.Args.getD j default).tot+1)*(k+2):=fun j=>by
   by_cases hj:j<a.Args.length
   ·have hm:=getD_mem (l:=a.Args) hj
    have:=tot_mem hm
    obtain⟨r,r1,r2⟩:=ih _ hm (ho2.2 _ hm) (by omega)
    exact⟨r,fun _=>⟨r1,r2⟩⟩
   ·exact⟨default,fun h=>absurd h hj⟩
  obtain⟨R,hR⟩:=Classical.skolem.1 each
  have hsum:∀ (l:List Tt) (i:Nat),(∀ j,j<l.length→l.getD j default=a.Args.getD (i+j) default)→i+l.length≤a.Args.length→ltot bg ((List.range' i l.length).map R)≤ltot bg l*(k+2):=fun l=>by
   induction l with
   | nil=>intro i _ _; simp[ltot]
   | cons x l ihl=>
    intro i h hi
    simp only[aH] at hi
    have e0:=h 0 (by simp)
    have e1:=(hR i (by omega)).2.2
    have e2:=ihl (i+1) (fun j hj=>by
     have:=h (j+1) (by simp; omega)
     rw[show i+1+j=i+(j+1) by omega,← this]; rfl) (by omega)
    rw[Nat.add_zero] at e0
    rw[← e0] at e1
    rw[aH,List.range'_succ,aF]
    simp only[ltot,aH,aF,bK,Nat.add_mul,Nat.one_mul] at e1 e2 ⊢
    have e3:(List.getD (x::l) 0 default).tot=x.tot:=rfl
    rw[e3] at e1
    omega
  have hs:=hsum a.Args 0 (fun j _=>by rw[Nat.zero_add]) (by omega)
  refine⟨Tt.mk a.Name ((List.range' 0 a.Args.length).map R),fun n hn=>?_,?_,?_⟩
  ·obtain⟨n,rfl⟩:∃ m,n=m+1:=⟨n-1,by omega⟩
   rw[spec_l4ApplyN,l2Var_eq _ ho1,ai,hv,cond_false]
   have:=forN_buildT (ρ:=Tt) (f:=fun (i8:Nat) (s8:(List Tt))=>
    aa (idx a.Args (i8:Int)) fun v43=>
    aa (spec_l4ApplyN n σ v43) fun v45=>
    aa (app s8 ([v45])) fun v47=>
    some (.nx v47)) R a.Args.length 0 [] (by simp; omega) (fun j s _ hj hs=>by
     have hj':j<a.Args.length:=by omega
     have hm:=getD_mem (l:=a.Args) hj'
     have:=Tt.lt hm
     rw[idx_getD hj',ai,(hR j hj').1 n (by omega),ai]
     unfold app
     rw[if_pos (by simp; omega)]; rfl)
   rw[this,thenL_inr,List.nil_append]
  ·refine Tt.Ok.mk _ _ ho1 (by simp only[Big,au,List.length_range']; omega) fun r hr=>?_
   obtain⟨j,hj,rfl⟩:=List.mem_map.1 hr
   rw[List.mem_range'_1] at hj
   exact(hR j (by omega)).2.1
  ·rw[Tt.tot_mk]
   have:a.Name.size+1≤(a.Name.size+1)*(k+2):=Nat.le_mul_of_pos_right _ (by omega)
   rw[hu,show a.Name.size+ltot bg a.Args+1=(a.Name.size+1)+ltot bg a.Args by omega,Nat.add_mul]
   omega
 ·obtain⟨v,f1,f2⟩:=find_rng σ a.Name
  by_cases g:0≤v
  ·have hlt:=f2 g
   have hb:=hσ _ (getD_mem (l:=σ.Bindings) (i:=v.toNat) (by omega))
   refine⟨(σ.Bindings.getD v.toNat default).Term,fun n hn=>?_,hb.1,by have:=hb.2; omega⟩
   obtain⟨n,rfl⟩:∃ m,n=m+1:=⟨n-1,by omega⟩
   have hi:idx σ.Bindings v=some (σ.Bindings.getD v.toNat default):=by
    rw[show v=((v.toNat:Nat):Int) by omega]; exact idx_getD (by omega)
   rw[spec_l4ApplyN,l2Var_eq _ ho1,ai,hv,cond_true,f1,ai,decide_eq_true g,cond_true,hi,ai,ownT _ (by have:=hb.2; have:=Tt.cnt_tot (σ.Bindings.getD v.toNat default).Term; omega)]; rfl
  ·refine⟨Tt.mk a.Name [],fun n hn=>?_,Tt.Ok.mk _ _ ho1 (Nat.zero_le _) (fun a ha=>nomatch ha),by
    rw[Tt.tot_mk]; simp only[ltot,a6,List.map_nil,List.sum_nil,Nat.add_zero]; omega⟩
   obtain⟨n,rfl⟩:∃ m,n=m+1:=⟨n-1,by omega⟩
   rw[spec_l4ApplyN,l2Var_eq _ ho1,ai,hv,cond_true,f1,ai,decide_eq_false g]; rfl
theorem fill_ok{p s:Tt}(hp:SmT 200 p)(hs:SmT 200 s):∃ t,spec_l22Fill p s=some t∧SmT 50000 t:=by
 unfold spec_l22Fill
 rw[l4Put_eq _ _ (by have:=hs.2; have:=Tt.cnt_tot s; omega),ai]
 have hb:BndS 200 (bif decide (s.Name=(⟨#[65]⟩:ByteArray)) then⟨[]⟩ else⟨[⟨(⟨#[65]⟩:ByteArray),s⟩]⟩):=by
  cases decide (s.Name=(⟨#[65]⟩:ByteArray))
  ·intro b hb; rw[List.mem_singleton.1 hb]; exact hs
  ·intro b hb; cases hb
 obtain⟨r,h1,h2,h3⟩:=applyT_ok hb (by omega) p hp.1 (by have:=hp.2; omega)
 have:spec_l4Apply (bif decide (s.Name=(⟨#[65]⟩:ByteArray)) then⟨[]⟩ else⟨[⟨(⟨#[65]⟩:ByteArray),s⟩]⟩) p=some r:=lim_eq ⟨_,h1⟩
 rw[this]
 refine⟨r,rfl,h2,?_⟩
 have h4:(p.tot+1)*(200+2)≤201*202:=Nat.mul_le_mul (by have:=hp.2; omega) (aP _)
 omega
theorem index_ok(l:List Tt)(t:Tt):∃ v,spec_l16Index l t=some v:=by
 unfold spec_l16Index
 have:∀ n i:Nat,i+n=l.length→∃ v,thenL (ρ:=Int) (σ:=Unit) (forN (fun (i2:Nat) (s2:Unit)=>
  aa (idx l (i2:Int)) fun v14=>
  aa (spec_l2Same v14 t) fun v17=>
  bif v17 then
   some (.rt (i2:Int))
  else
   some (.nx ())) n i ()) (fun s2=>some (-1:Int))=some v:=fun n=>by
  induction n with
  | zero=>intro i hi; exact⟨-1,rfl⟩
  | succ n ih=>
   intro i hi
   cases g:same (l.getD i default) t
   ·obtain⟨v,h1⟩:=ih (i+1) (by omega)
    exact⟨v,by rw[forN_nx (s':=()) (by rw[idx_getD (by omega),ai,l2Same_ok,ai,g]; rfl),h1]⟩
   ·exact⟨(i:Int),by rw[forN_rt (r:=(i:Int)) (by rw[idx_getD (by omega),ai,l2Same_ok,ai,g]; rfl)]; rfl⟩
 exact this _ 0 (by omega)
end
section
theorem texts_loop{ρ:Type}(L:List ByteArray)(hL:L≠[])(hs:∀ s∈L,s.size≤100):∀ (k:Nat) (c:lc) (acc:List Tt) (m:Nat),CurOk c m→m+2*k≤1000000→acc.length+k≤100→(∀ a∈acc,SmT 200 a)→
 ∃ c' acc',Ev (fun n6=>whileN (ρ:=ρ) (fun (s6:lc×(List Tt)×Int)=>
 bif decide ((0:Int)<s6.2.2) then
  aa (spec_l22Text s6.1 L) fun v28=>
  aa (app s6.2.1 ([v28.1])) fun v30=>
  some (.nx (v28.2,v30,IntKind.i64.wrap (s6.2.2-(1:Int))))
 else
  some (.br s6)) n6 (c,acc,(k:Int))) (.inr (c',acc',0))∧CurOk c' (m+2*k)∧acc'.length=acc.length+k∧∀ a∈acc',SmT 200 a
 | 0,c,acc,m,hc,hm,hl,ha=>⟨c,acc,ev_br rfl,hc,rfl,ha⟩
 | k+1,c,acc,m,hc,hm,hl,ha=>by
  obtain⟨t,c1,h1,h2,h3⟩:=text_ok L hL hs hc (by omega)
  obtain⟨c',acc',g1,g2,g3,g4⟩:=texts_loop (ρ:=ρ) L hL hs k c1 (acc++[t]) (m+2) h3 (by omega) (by simp; omega) (fun a hx=>by
   rcases List.mem_append.1 hx with hx | hx
   ·exact ha a hx
   ·rw[List.mem_singleton.1 hx]; exact h2)
  refine⟨c',acc',ev_nx ?_ g1,g2.mono (by omega),by rw[g3]; simp; omega,g4⟩
  show(bif decide ((0:Int)<((k+1:Nat):Int)) then aa (spec_l22Text c L) _ else _)=_
  rw[decide_eq_true (by omega),cond_true,h1,ai]
  show aa (app acc [t]) _=_
  rw[appc1 _ (by omega),ai]
  show some (Flow.nx (c1,acc++[t],IntKind.i64.wrap (((k+1:Nat):Int)-1)))=_
  rw[wrap64 (by omega) (by omega),show((k+1:Nat):Int)-1=(k:Int) by omega]
/-- What is drawn so far. -/
def Drw(m:Nat)(q:lc×List Tt):Prop:=CurOk q.1 m∧q.2.length≤6∧∀ a∈q.2,SmT 50000 a
theorem Drw.push{m:Nat}{c:lc}{l:List Tt}{t:Tt}(hc:CurOk c m)(hl:l.length<6)(h:∀ a∈l,SmT 50000 a)(ht:SmT 50000 t):Drw m (c,l++[t]):=⟨hc,by simp; omega,fun a ha=>by
 rcases List.mem_append.1 ha with ha | ha
 ·exact h a ha
 ·rw[List.mem_singleton.1 ha]; exact ht⟩
noncomputable def fillB(ρ:Type)(P s:List Tt)(i:Nat)(i18:Nat)(s18:lc×(List Tt)):Option (Flow ρ (lc×(List Tt))):=
 aa (idx P (i:Int)) fun v59=>
 aa (idx s (i18:Int)) fun v63=>
 aa (spec_l22Fill v59 v63) fun v65=>
 aa (spec_l16Index s18.2 v65) fun v68=>
 bif decide (v68<(0:Int)) then
  bif decide ((s18.2.length:Int)<(6:Int)) then
   aa (spec_l1Cur__one s18.1 (12:Int)) fun v77=>
   bif v77.1 then
    some (.nx (v77.2,s18.2))
   else
    aa (app s18.2 ([v65])) fun v83=>
    some (.nx (v77.2,v83))
  else
   some (.nx (s18.1,s18.2))
 else
  some (.nx (s18.1,s18.2))
theorem fills_in{ρ:Type}(s:List Tt)(hs:∀ a∈s,SmT 200 a)(hl:s.length≤100)(P:List Tt)(hP:∀ a∈P,SmT 200 a)(i:Nat)(hi:i<P.length)(m:Nat)(hm:m+300≤1000000)(q:lc×List Tt)(hq:Drw m q):
 ∃ q',forN (fillB ρ P s i) s.length 0 q=some (.inr q')∧Drw (m+2*s.length) q':=by
 obtain⟨q',h1,h2⟩:=forN_inv (f:=fillB ρ P s i) (fun j q=>Drw (m+2*j) q) s.length 0 q hq (fun j q _ hj hq=>by
  obtain⟨c,l⟩:=q
  obtain⟨g1,g2,g3⟩:=hq
  have hsj:=hs _ (getD_mem (l:=s) (i:=j) (by omega))
  obtain⟨t,f1,f2⟩:=fill_ok (hP _ (getD_mem hi)) hsj
  obtain⟨v,e1⟩:=index_ok l t
  simp only at g1 g2 g3
  unfold fillB
  rw[idx_getD hi,ai,idx_getD (by omega),ai,f1,ai,e1,ai]
  dsimp only
  by_cases b1:v<0
  ·rw[decide_eq_true b1,cond_true]
   by_cases b2:l.length<6
   ·obtain⟨b,c1,o1,o2⟩:=one_ok 12 g1 (by omega)
    rw[decide_eq_true (by omega),cond_true,o1,ai]
    cases b
    ·rw[cond_false,appc1 _ (by omega)]
     exact⟨_,rfl,Drw.push (o2.mono (by omega)) b2 g3 f2⟩
    ·exact⟨_,rfl,o2.mono (by omega),g2,g3⟩
   ·rw[decide_eq_false (by omega)]
    exact⟨_,rfl,g1.mono (by omega),g2,g3⟩
  ·rw[decide_eq_false b1]
   exact⟨_,rfl,g1.mono (by omega),g2,g3⟩)
 rw[Nat.zero_add] at h2
 exact⟨q',h1,h2⟩
theorem fills_all{ρ:Type}(s:List Tt)(hs:∀ a∈s,SmT 200 a)(hl:s.length≤10)(P:List Tt)(hP:∀ a∈P,SmT 200 a)(hPl:P.length≤10)(m:Nat)(hm:m+1000≤1000000)(q:lc×List Tt)(hq:Drw m q):
 ∃ q',forN (fun (i15:Nat) (s15:lc×(List Tt))=>thenL (ρ:=(Flow ρ (lc×(List Tt)))) (σ:=lc×(List Tt)) (forN (fillB (Flow ρ (lc×List Tt)) P s i15) s.length 0 (s15.1,s15.2)) fun s18=>some (.nx (s18.1,s18.2))) P.length 0 q=some (.inr q')∧Drw (m+200) q':=by
 obtain⟨q',h1,h2⟩:=forN_inv (f:=fun (i15:Nat) (s15:lc×(List Tt))=>thenL (ρ:=(Flow ρ (lc×(List Tt)))) (σ:=lc×(List Tt)) (forN (fillB (Flow ρ (lc×List Tt)) P s i15) s.length 0 (s15.1,s15.2)) fun s18=>some (.nx (s18.1,s18.2))) (fun j q=>Drw (m+20*j) q) P.length 0 q hq (fun j q _ hj hq=>by
  obtain⟨q',g1,g2⟩:=fills_in (ρ:=Flow ρ (lc×List Tt)) s hs (by omega) P hP j (by omega) (m+20*j) (by omega) q hq
  exact⟨q',(congrArg (fun z=>thenL z _) g1).trans rfl,g2.1.mono (by omega),g2.2.1,g2.2.2⟩)
 exact⟨q',h1,h2.1.mono (by omega),h2.2.1,h2.2.2⟩
theorem thenL_lim{ρ σ:Type}{f:σ→Option (Flow ρ σ)}{s s':σ}{K:σ→Option ρ}(h:Ev (fun n=>whileN f n s) (.inr s')):thenL (lim fun n=>whileN f n s) K=K s':=by rw[lim_eq h]; rfl
set_option maxRecDepth 4000 in
theorem terms22_ok{c:lc}{m:Nat}(h:CurOk c m)(hm:m+2000≤1000000):∃ l c',spec_l1Cur__terms22 c=some (l,c')∧Drw (m+2000) (c',l):=by
 unfold spec_l1Cur__terms22
 obtain⟨v,c1,p1,p2,p3,p4⟩:=pick_ok 3 h (by omega)
 have p5:=p3 (by omega)
 obtain⟨k,hk⟩:∃ k:Nat,(1:Int)+v=(k:Int):=⟨(1+v).toNat,by omega⟩
 obtain⟨c2,P,q1,q2,q3,q4⟩:=texts_loop (ρ:=List Tt×lc) [(⟨#[102,40,65,41]⟩:ByteArray),(⟨#[103,40,65,44,97,41]⟩:ByteArray),(⟨#[65]⟩:ByteArray),(⟨#[103,40,65,44,65,41]⟩:ByteArray),(⟨#[102,40,102,40,65,41,41]⟩:ByteArray),(⟨#[103,40,98,44,102,40,65,41,41]⟩:ByteArray)] (by simp) (by decide) k c1 [] (m+2) p4 (by omega) (by simp; omega) (fun a ha=>nomatch ha)
 rw[p1,ai]
 dsimp only
 rw[wrap64 (by omega) (by omega),hk,thenL_lim q1]
 obtain⟨v2,c3,r1,r2,r3,r4⟩:=pick_ok 3 q2 (by omega)
 have r5:=r3 (by omega)
 obtain⟨k2,hk2⟩:∃ k:Nat,(1:Int)+v2=(k:Int):=⟨(1+v2).toNat,by omega⟩
 obtain⟨c4,S,u1,u2,u3,u4⟩:=texts_loop (ρ:=List Tt×lc) [(⟨#[97]⟩:ByteArray),(⟨#[98]⟩:ByteArray),(⟨#[102,40,97,41]⟩:ByteArray),(⟨#[99]⟩:ByteArray),(⟨#[103,40,97,44,98,41]⟩:ByteArray)] (by simp) (by decide) k2 c3 [] (m+2+2*k+2) r4 (by omega) (by simp; omega) (fun a ha=>nomatch ha)
 simp only[a6,Nat.zero_add] at q3 u3
 rw[r1,ai]
 dsimp only
 rw[wrap64 (by omega) (by omega),hk2,thenL_lim u1]
 dsimp only
 obtain⟨⟨c5,out⟩,w1,w2⟩:=fills_all (ρ:=List Tt×lc) S u4 (by omega) P q4 (by omega) (m+100) (by omega) (c4,[]) ⟨u2.mono (by omega),by simp,fun a ha=>nomatch ha⟩
 have step:∀ (K:lc×List Tt→Option (List Tt×lc)) (z:Option ((List Tt×lc) ⊕ (lc×List Tt))),z=some (.inr (c5,out))→thenL z K=K (c5,out):=fun K z e=>by rw[e]; rfl
 obtain⟨x1,x2,x3⟩:=w2
 simp only at x1 x2 x3
 have tail:∃ l c',(aa (spec_l1Cur__one c5 (3:Int)) fun v85=>
 bif v85.1 then
  aa (spec_l22Text v85.2 ([(⟨#[97]⟩:ByteArray),(⟨#[98]⟩:ByteArray),(⟨#[102,40,97,41]⟩:ByteArray),(⟨#[99]⟩:ByteArray),(⟨#[103,40,97,44,98,41]⟩:ByteArray)])) fun v88=>
  aa (spec_l16Index out v88.1) fun v91=>
  bif decide (v91<(0:Int)) then
   bif decide ((out.length:Int)<(6:Int)) then
    aa (app out ([v88.1])) fun v101=>
    some (v101,v88.2)
   else
    some (out,v88.2)
  else
   some (out,v88.2)
 else
  some (out,v85.2))=some (l,c')∧Drw (m+2000) (c',l):=by
  obtain⟨b,c6,o1,o2⟩:=one_ok 3 x1 (by omega)
  rw[o1,ai]
  cases b
  ·exact⟨_,_,rfl,o2.mono (by omega),x2,x3⟩
  ·obtain⟨t,c7,y1,y2,y3⟩:=text_ok [(⟨#[97]⟩:ByteArray),(⟨#[98]⟩:ByteArray),(⟨#[102,40,97,41]⟩:ByteArray),(⟨#[99]⟩:ByteArray),(⟨#[103,40,97,44,98,41]⟩:ByteArray)] (by simp) (by decide) o2 (by omega)
   obtain⟨v9,y4⟩:=index_ok out t
   rw[cond_true]
   dsimp only
   rw[y1,ai]
   dsimp only
   rw[y4,ai]
   by_cases b1:v9<0
   ·rw[decide_eq_true b1,cond_true]
    by_cases b2:out.length<6
    ·rw[decide_eq_true (by omega),cond_true,appc1 _ (by omega)]
     exact⟨_,_,rfl,Drw.push (y3.mono (by omega)) b2 x3 (y2.mono (by omega))⟩
    ·rw[decide_eq_false (by omega)]
     exact⟨_,_,rfl,y3.mono (by omega),x2,x3⟩
   ·rw[decide_eq_false b1]
    exact⟨_,_,rfl,y3.mono (by omega),x2,x3⟩
 obtain⟨l,c',t1,t2⟩:=tail
 exact⟨l,c',(step _ _ w1).trans t1,t2⟩
end
section
set_option maxRecDepth 4000 in
theorem num1{k:Nat}(h:k<10):∃ v:ByteArray,spec_l1Num (k:Int)=some v∧v.size≤1:=by
 have hs:sslc (⟨#[48,49,50,51,52,53,54,55,56,57]⟩:ByteArray) (k:Int) (IntKind.i64.wrap ((k:Int)+(1:Int)))=some ((⟨#[48,49,50,51,52,53,54,55,56,57]⟩:ByteArray).extract k (k+1)):=by
  rw[wrap_succ (by omega)]
  unfold sslc
  rw[if_pos (by
   have:(⟨#[48,49,50,51,52,53,54,55,56,57]⟩:ByteArray).size=10:=rfl
   omega)]; rfl
 refine⟨(⟨#[48,49,50,51,52,53,54,55,56,57]⟩:ByteArray).extract k (k+1),lim_eq ⟨1,fun n hn=>?_⟩,?_⟩
 ·obtain⟨n,rfl⟩:∃ m,n=m+1:=⟨n-1,by omega⟩
  show spec_l1NumN (n+1) (k:Int)=_
  rw[spec_l1NumN,decide_eq_false (by omega),cond_false,decide_eq_true (by omega),cond_true,hs]; rfl
 ·rw[ByteArray.size_extract]; omega
theorem names_loop{ρ:Type}:∀ (d:Nat) (l:List Tt),7-l.length≤d→l.length≤7→(∀ a∈l,SmT 50000 a)→∃ l',Ev (fun n10=>whileN (ρ:=ρ) (fun (s10:(List Tt))=>
 bif decide ((s10.length:Int)<(7:Int)) then
  aa (spec_l1Num (s10.length:Int)) fun v31=>
  aa (sapp (⟨#[110]⟩:ByteArray) v31) fun v32=>
  aa (app s10 ([(Tt.mk v32 ([]))])) fun v35=>
  some (.nx v35)
 else
  some (.br s10)) n10 l) (.inr l')∧l'.length≤7∧∀ a∈l',SmT 50000 a
 | d,l,hd,hl,ha=>by
  by_cases g:l.length<7
  ·cases d with
   | zero=>omega
   | succ d=>
    obtain⟨v,h1,h2⟩:=num1 (k:=l.length) (by omega)
    have hn:(⟨#[110]⟩:ByteArray).size=1:=rfl
    have h3:sapp (⟨#[110]⟩:ByteArray) v=some ((⟨#[110]⟩:ByteArray)++v):=by unfold sapp; rw[if_pos (by omega)]
    have h4:((⟨#[110]⟩:ByteArray)++v).size≤2:=by rw[ByteArray.size_append]; omega
    obtain⟨l',g1,g2,g3⟩:=names_loop (ρ:=ρ) d (l++[Tt.mk ((⟨#[110]⟩:ByteArray)++v) []]) (by simp; omega) (by simp; omega) (fun a hx=>by
     rcases List.mem_append.1 hx with hx | hx
     ·exact ha a hx
     ·rw[List.mem_singleton.1 hx]
      exact⟨Tt.Ok.mk _ _ (by simp only[Big]; omega) (Nat.zero_le _) (fun a ha=>nomatch ha),by rw[Tt.tot_mk]; simp only[ltot,a6,List.map_nil,List.sum_nil]; omega⟩)
    exact⟨l',ev_nx (by rw[decide_eq_true (by omega),cond_true,h1,ai,h3,ai,appc1 _ (by omega)]; rfl) g1,g2,g3⟩
  ·exact⟨l,ev_br (by rw[decide_eq_false (by omega)]; rfl),hl,ha⟩
theorem any22_ok{c:lc}{m:Nat}(h:CurOk c m)(hm:m+5000≤1000000):∃ l c',spec_l1Cur__anyTerms22 c=some (l,c')∧l.length≤14∧∀ a∈l,SmT 50000 a:=by
 obtain⟨l,c1,h1,h2,h3,h4⟩:=terms22_ok h (by omega)
 simp only at h2 h3 h4
 obtain⟨v,c2,p1,p2,p3,p4⟩:=pick_ok 24 h2 (by omega)
 unfold spec_l1Cur__anyTerms22
 rw[h1,ai]
 dsimp only
 rw[p1,ai]
 dsimp only
 by_cases b0:v=0
 ·obtain⟨t,c3,t1,t2,t3⟩:=anyTerm_ok p4 (by omega)
  rw[decide_eq_true b0,cond_true,t1,ai]
  dsimp only
  rw[appc1 _ (by omega)]
  refine⟨_,_,rfl,by simp; omega,fun a ha=>?_⟩
  rcases List.mem_append.1 ha with ha | ha
  ·exact h4 a ha
  ·rw[List.mem_singleton.1 ha]; exact t2
 rw[decide_eq_false b0,cond_false]
 by_cases b1:v=1
 ·have:app l l=some (l++l):=by unfold app; rw[if_pos (by omega)]
  rw[decide_eq_true b1,cond_true,this]
  exact⟨_,_,rfl,by rw[aQ]; omega,fun a ha=>(List.mem_append.1 ha).elim (h4 a) (h4 a)⟩
 rw[decide_eq_false b1,cond_false]
 by_cases b2:v=2
 ·rw[decide_eq_true b2]
  exact⟨_,_,rfl,by simp,fun a ha=>nomatch ha⟩
 rw[decide_eq_false b2,cond_false]
 by_cases b3:v=3
 ·obtain⟨l',g1,g2,g3⟩:=names_loop (ρ:=List Tt×lc) 7 l (by omega) (by omega) h4
  rw[decide_eq_true b3,cond_true,thenL_lim g1]
  exact⟨_,_,rfl,by omega,g3⟩
 ·rw[decide_eq_false b3]
  exact⟨_,_,rfl,by omega,h4⟩
theorem draw_ok(code:List Int)(hc:∀ x∈code,0≤x∧x≤255):∃ l,spec_DrawSmallestDecomposition code=some l∧LOk Tt.Ok l∧l.length≤14∧∀ a∈l,a.tot≤1048576:=by
 obtain⟨l,c',h1,h2,h3⟩:=any22_ok (c:=lc.mk code 0 0) (m:=0) ⟨Int.le_refl _,Int.le_refl _,hc⟩ (by omega)
 refine⟨l,?_,⟨by simp only[Big]; omega,fun a ha=>(h3 a ha).1⟩,h2,fun a ha=>by have:=(h3 a ha).2; omega⟩
 unfold spec_DrawSmallestDecomposition spec_DrawGeneralizeTerms
 rw[h1]; rfl
end
section
/-! ### the selection covers all -/
theorem selS_cov{full:Nat}{b:Nat}(hb:full.testBit b=true):∀ (l:List Nat) (i h:Nat),fewS full l h<1000→h.testBit b=true∨∃ j∈selS full l i h,i≤j∧(l.getD (j-i) 0).testBit b=true
 | [],i,h,hf=>by
  rw[fewS] at hf
  split at hf
  ·rename_i e; left; rw[e]; exact hb
  ·omega
 | c::l,i,h,hf=>by
  by_cases e:h=full
  ·left; rw[e]; exact hb
  have hs:selS full (c::l) i h=if 1+fewS full l (h||| c)=fewS full (c::l) h then i::selS full l (i+1) (h||| c) else selS full l (i+1) h:=by rw[selS,if_neg e]
  have hm:fewS full (c::l) h=min (fewS full l h) (1+fewS full l (h||| c)):=by rw[fewS,if_neg e]
  have up:∀ j,i+1≤j→(l.getD (j-(i+1)) 0).testBit b=true→((c::l).getD (j-i) 0).testBit b=true:=fun j hj ht=>by
   rw[show j-i=(j-(i+1))+1 by omega]; exact ht
  rw[hs]
  by_cases g:1+fewS full l (h||| c)=fewS full (c::l) h
  ·rw[if_pos g]
   rcases selS_cov hb l (i+1) (h||| c) (by omega) with q | ⟨j,q1,q2,q3⟩
   ·rw[Nat.testBit_or,Bool.or_eq_true] at q
    rcases q with q | q
    ·exact .inl q
    ·exact .inr ⟨i,by simp,aP _,by rw[Nat.sub_self]; exact q⟩
   ·exact .inr ⟨j,by simp[q1],by omega,up j q2 q3⟩
  ·rw[if_neg g]
   rcases selS_cov hb l (i+1) h (by omega) with q | ⟨j,q1,q2,q3⟩
   ·exact .inl q
   ·exact .inr ⟨j,q1,by omega,up j q2 q3⟩
theorem cvS_get(cs:List (Tt×Nat)){j:Nat}(h:j<cs.length):(cvS cs).getD j 0=(cs.getD j default).2:=by
 unfold cvS
 rw[List.getD_eq_getElem?_getD,List.getElem?_map,List.getD_eq_getElem?_getD,List.getElem?_eq_getElem h]; rfl
theorem cov_mem{l:List Tt}(h:Vd l)(k:List Tt){b:Nat}(hb:b<l.length):∃ c∈cands l k,c.1∈selP l k∧c.2.testBit b=true:=by
 have hf:(2 ^ l.length-1).testBit b=true:=by rw[Nat.testBit_two_pow_sub_one]; exact decide_eq_true hb
 rcases selS_cov hf (cvS (cands l k)) 0 0 (by have:=cands_few h k; omega) with q | ⟨j,q1,q2,q3⟩
 ·simp at q
 ·have hj:=selS_lt j q1
  have hj':j<(cands l k).length:=by unfold cvS at hj; rw[au] at hj; exact hj
  rw[Nat.sub_zero,cvS_get _ hj'] at q3
  exact⟨_,getD_mem hj',List.mem_map.2 ⟨j,q1,rfl⟩,q3⟩
theorem selP_from{l:List Tt}{k:List Tt}{p:Tt}(hp:p∈selP l k):∃ c∈cands l k,c.1=p:=by
 obtain⟨j,q1,rfl⟩:=List.mem_map.1 hp
 have hj:=selS_lt j q1
 have hj':j<(cands l k).length:=by unfold cvS at hj; rw[au] at hj; exact hj
 exact⟨_,getD_mem hj',rfl⟩
/-! ### filling and variables -/
theorem nameA_eq:nameA=(⟨#[65]⟩:ByteArray):=rfl
theorem sb_fl(z p:Tt):sbT nameA z p=ba z p:=by
 refine Tt.ind' (M:=fun p=>sbT nameA z p=ba z p) (fun p ih=>?_) p
 rw[sbT_u,Tt.fl_u,Bool.and_comm,← nameA_eq,List.map_congr_left ih]
theorem mem_varss{x:ByteArray}:∀ {l:List Tt},x∈Tt.varss l↔∃ a∈l,x∈a.vars
 | []=>by simp[Tt.varss]
 | a::l=>by rw[Tt.varss,List.mem_append,mem_varss]; simp
theorem vars_fl(z p:Tt):p.good=true→(∀ x∈p.vars,x≠nameA→x∈(ba z p).vars)∧(nameA∈p.vars→∀ x∈z.vars,x∈(ba z p).vars)∧(nameA∉p.vars→p.noH=true):=by
 refine Tt.ind' (M:=fun p=>p.good=true→(∀ x∈p.vars,x≠nameA→x∈(ba z p).vars)∧(nameA∈p.vars→∀ x∈z.vars,x∈(ba z p).vars)∧(nameA∉p.vars→p.noH=true)) (fun p ih hg=>?_) p
 rcases nameCase hg with⟨h1,h2⟩ | ⟨h1,h2,h3,h4⟩
 ·have hv:p.vars=[p.Name]:=by rw[Tt.vars_u,h1]; rfl
  have hf:ba z p=bif decide (p.Name=nameA) then z else p:=by
   rw[Tt.fl_u,h2,nameA_eq]
   cases decide (p.Name=(⟨#[65]⟩:ByteArray))
   ·show Tt.mk p.Name []=p
    rw[← h2,p.eta]
   ·rfl
  by_cases e:p.Name=nameA
  ·rw[hv,hf,decide_eq_true e]
   refine⟨fun x hx hn=>absurd ((List.mem_singleton.1 hx).trans e) hn,fun _ x hx=>hx,fun hn=>absurd (by rw[e]; simp) hn⟩
  ·rw[hf,decide_eq_false e,cond_false]
   refine⟨fun x hx _=>hx,fun hn=>?_,fun _=>?_⟩
   ·rw[hv] at hn; exact absurd (List.mem_singleton.1 hn).symm e
   ·rw[Tt.noH_u,h2,← nameA_eq,decide_eq_false e]; rfl
 ·have hne:¬ p.Name=nameA:=fun e=>by rw[e,nameA_var] at h1; cases h1
  have hv:p.vars=Tt.varss p.Args:=by rw[Tt.vars_u,h1]; rfl
  have hf:ba z p=Tt.mk p.Name (p.Args.map (ba z)):=by rw[Tt.fl_u,← nameA_eq,decide_eq_false hne]; rfl
  have hfv:(ba z p).vars=Tt.varss (p.Args.map (ba z)):=by rw[hf,Tt.vars_u]; show(bif isVarS p.Name then _ else _)=_; rw[h1]; rfl
  rw[hv,hfv]
  refine⟨fun x hx hn=>?_,fun hA x hx=>?_,fun hA=>?_⟩
  ·obtain⟨a,ha,hx⟩:=mem_varss.1 hx
   exact mem_varss.2 ⟨_,List.mem_map_of_mem ha,(ih a ha (h4 a ha)).1 x hx hn⟩
  ·obtain⟨a,ha,hA⟩:=mem_varss.1 hA
   exact mem_varss.2 ⟨_,List.mem_map_of_mem ha,(ih a ha (h4 a ha)).2.1 hA x hx⟩
  ·rw[Tt.noH_u,← nameA_eq,decide_eq_false hne]
   show(true&&p.Args.all Tt.noH)=true
   rw[Bool.true_and,aZ]
   exact fun a ha=>(ih a ha (h4 a ha)).2.2 fun hA'=>hA (mem_varss.2 ⟨a,ha,hA'⟩)
end
section
theorem gnd_vars{t:Tt}(h:gndT t=true):t.vars=[]:=by
 unfold gndT at h
 rw[Bool.and_eq_true,List.isEmpty_iff] at h
 exact h.2
theorem gnd_of{t:Tt}(h:goodT t=true)(hv:t.vars=[]):gndT t=true:=by unfold gndT; rw[h,hv]; rfl
/-! ### a group of terms -/
structure Grp(l s:List Tt):Prop where
 f:GenF s
 nd:s.Nodup
 two:2≤s.length
 gnd:∀ t∈s,gndT t=true
theorem Grp.of{l:List Tt}(h:Vd l){m:Nat}(hb:big l m=true):Grp l (subS l m 0):=by
 obtain⟨h1,h2,h3,_⟩:=h.gen hb
 exact⟨h1,h2,h3,fun t ht=>h.gnd t (subS_sub ht)⟩
theorem Grp.mem{l s:List Tt}(g:Grp l s)(y:Tt):y∈s↔∃ z∈(gen s).2,ba z (gen s).1=y:=g.f.ok.mem g.nd g.two y
theorem Grp.ne{l s:List Tt}(g:Grp l s):(gen s).2≠[]:=g.f.ok.some' g.nd g.two
theorem Grp.good{l s:List Tt}(g:Grp l s):(gen s).1.good=true:=(goodT_parts g.f.pat).1
theorem Grp.hole{l s:List Tt}(g:Grp l s):nameA∈(gen s).1.vars:=by
 refine Classical.byContradiction fun hn=>?_
 exact g.f.ok.notGround g.nd g.two ((vars_fl default (gen s).1 g.good).2.2 hn) rfl
theorem Grp.fl_gnd{l s:List Tt}(g:Grp l s){z:Tt}(hz:z∈(gen s).2):(ba z (gen s).1).vars=[]:=gnd_vars (g.gnd _ ((g.mem _).2 ⟨z,hz,rfl⟩))
theorem Grp.ins{l s:List Tt}(g:Grp l s){z:Tt}(hz:z∈(gen s).2):gndT z=true:=by
 refine gnd_of (g.f.ins z hz) ?_
 have h:=(vars_fl z (gen s).1 g.good).2.1 g.hole
 rw[g.fl_gnd hz] at h
 exact List.eq_nil_iff_forall_not_mem.2 fun x hx=>nomatch h x hx
theorem Grp.pat{l s:List Tt}(g:Grp l s):patT (gen s).1=true:=by
 unfold patT
 rw[g.f.pat,Bool.true_and,aZ]
 intro x hx
 refine decide_eq_true (Classical.byContradiction fun hn=>?_)
 obtain⟨z,hz⟩:=List.exists_mem_of_ne_nil _ g.ne
 have h:=(vars_fl z (gen s).1 g.good).1 x hx hn
 rw[g.fl_gnd hz] at h
 exact nomatch h
theorem keyS_gnd{l s:List Tt}(g:Grp l s):∀ z∈keyS s,gndT z=true:=fun z hz=>g.ins ((key_mem z).1 hz)
theorem keyS_ne{l s:List Tt}(g:Grp l s):keyS s≠[]:=fun e=>by
 obtain⟨z,hz⟩:=List.exists_mem_of_ne_nil _ g.ne
 have:=(key_mem z).2 hz
 rw[e] at this
 exact nomatch this
/-! ### the best -/
theorem fks_mem{K C:Type}[DecidableEq K]:∀ (xs:List (K×C)) (ks:List K) (k:K),k∈fkS ks xs→k∈ks∨∃ g∈xs,g.1=k
 | [],ks,k,h=>.inl h
 | g::xs,ks,k,h=>by
  rw[fkS] at h
  split at h
  ·rcases fks_mem xs ks k h with q | ⟨g',q1,q2⟩
   ·exact .inl q
   ·exact .inr ⟨g',by simp[q1],q2⟩
  ·rcases fks_mem xs _ k h with q | ⟨g',q1,q2⟩
   ·rcases List.mem_append.1 q with q | q
    ·exact .inl q
    ·exact .inr ⟨g,by simp,(List.mem_singleton.1 q).symm⟩
   ·exact .inr ⟨g',by simp[q1],q2⟩
def Bst(l:List Tt)(s:List Tt×List Tt):Prop:=(s=(l,[])∨∃ m,big l m=true∧s=(selP l (keyS (subS l m 0)),keyS (subS l m 0)))∧s.1.length+s.2.length≤l.length
theorem step_bst{l:List Tt}{s:List Tt×List Tt}(hs:Bst l s){k:List Tt}(hk:∃ m,big l m=true∧k=keyS (subS l m 0)):Bst l (stepI l s k):=by
 unfold stepI
 split
 ·rename_i e
  obtain⟨m,h1,rfl⟩:=hk
  exact⟨.inr ⟨m,h1,rfl⟩,by have:=hs.2; simp only; omega⟩
 ·exact hs
theorem fold_bst{l:List Tt}:∀ (ks:List (List Tt)) (s:List Tt×List Tt),(∀ k∈ks,∃ m,big l m=true∧k=keyS (subS l m 0))→Bst l s→Bst l (ks.foldl (stepI l) s)
 | [],s,_,h=>h
 | k::ks,s,hk,h=>fold_bst ks _ (fun x hx=>hk x (by simp[hx])) (step_bst h (hk k (by simp)))
theorem best_bst{l:List Tt}(h:Vd l):Bst l (bestI l):=by
 refine fold_bst _ _ (fun k hk=>?_) ⟨.inl rfl,by simp⟩
 rcases fks_mem (allK l) [] k hk with q | ⟨g,q1,q2⟩
 ·exact nomatch q
 ·obtain⟨m,_,m2,rfl⟩:=allK_mem h q1
  exact⟨m,m2,q2.symm⟩
/-! ### what it describes -/
theorem cand_pat{l:List Tt}(h:Vd l){k:List Tt}{c:Tt×Nat}(hc:c∈cands l k):(∃ m,big l m=true∧keyS (subS l m 0)=k∧c=((gen (subS l m 0)).1,m))∨∃ i,i<l.length∧c=(l.getD i default,2 ^ i):=by
 unfold cands at hc
 rcases List.mem_append.1 hc with hc | hc
 ·obtain⟨m,_,h2,h3,h4⟩:=rowS_mem h hc
  exact .inl ⟨m,h2,h3,h4⟩
 ·unfold singles at hc
  obtain⟨i,hi,rfl⟩:=List.mem_map.1 hc
  exact .inr ⟨i,List.mem_range.1 hi,rfl⟩
theorem gens_gnd{d:Dt}{p:Tt}(hp:gndT p=true):gens d p=[p]:=by
 unfold gens
 rw[gnd_vars hp]; rfl
theorem gens_pat{d:Dt}{p:Tt}(hp:nameA∈p.vars):gens d p=d.Instances.map (fun t=>ba t p):=by
 unfold gens
 rw[hasV_iff.2 hp,cond_true]
 exact List.map_congr_left fun t _=>sb_fl t p
theorem lang_sel{l:List Tt}(h:Vd l)(k:List Tt)(z:Tt):(∃ p∈selP l k,z∈gens ⟨putAllT (selP l k) [],k⟩ p)↔z∈l:=by
 constructor
 ·rintro ⟨p,hp,hz⟩
  obtain⟨c,hc,rfl⟩:=selP_from hp
  rcases cand_pat h hc with⟨m,h1,h2,rfl⟩ | ⟨i,h1,rfl⟩
  ·have g:=Grp.of h h1
   rw[gens_pat g.hole] at hz
   obtain⟨t,ht,rfl⟩:=List.mem_map.1 hz
   have ht':t∈(gen (subS l m 0)).2:=(key_mem t).1 (by rw[h2]; exact ht)
   exact subS_sub ((g.mem _).2 ⟨t,ht',rfl⟩)
  ·have hm:=getD_mem (l:=l) h1
   rw[gens_gnd (h.gnd _ hm)] at hz
   rw[List.mem_singleton.1 hz]; exact hm
 ·intro hz
  obtain⟨b,hb,e⟩:=List.getElem_of_mem hz
  obtain⟨c,hc,hp,ht⟩:=cov_mem h k hb
  refine⟨c.1,hp,?_⟩
  rcases cand_pat h hc with⟨m,h1,h2,rfl⟩ | ⟨i,h1,rfl⟩
  ·have g:=Grp.of h h1
   rw[gens_pat g.hole]
   have hs:z∈subS l m 0:=(subS_bit h.nodup (by rw[List.getElem?_eq_getElem hb,e])).2 ht
   obtain⟨t,h3,h4⟩:=(g.mem z).1 hs
   exact List.mem_map.2 ⟨t,by show t∈k; rw[← h2]; exact(key_mem t).2 h3,h4⟩
  ·have hm:=getD_mem (l:=l) h1
   rw[gens_gnd (h.gnd _ hm)]
   have ht':(2 ^ i).testBit b=true:=ht
   have eb:i=b:=by
    rw[Nat.testBit_two_pow] at ht'
    exact of_decide_eq_true ht'
   subst eb
   rw[List.mem_singleton,← e,List.getD_eq_getElem?_getD,List.getElem?_eq_getElem hb]; rfl
theorem lang_small{l:List Tt}(h:Vd l)(z:Tt):z∈G0 (smallestD l)↔z∈l:=by
 unfold G0 smallestD
 rw[List.mem_flatMap]
 have hput:∀ (P:List Tt) (Q:Tt→Prop),(∃ p∈putAllT P [],Q p)↔∃ p∈P,Q p:=fun P Q=>by
  constructor
  ·rintro ⟨p,h1,h2⟩; exact⟨p,by simpa using (putAllT_mem p P []).1 h1,h2⟩
  ·rintro ⟨p,h1,h2⟩; exact⟨p,(putAllT_mem p P []).2 (.inl h1),h2⟩
 rw[hput]
 rcases (best_bst h).1 with e | ⟨m,_,e⟩
 ·rw[e]
  constructor
  ·rintro ⟨p,h1,h2⟩
   rw[gens_gnd (h.gnd p h1)] at h2
   rw[List.mem_singleton.1 h2]; exact h1
  ·intro hz
   exact⟨z,hz,by rw[gens_gnd (h.gnd z hz)]; simp⟩
 ·rw[e]; exact lang_sel h _ z
/-! ### it is valid -/
theorem asc_srt{l:List Tt}(h:SrtT l):asc l=true:=by
 unfold asc
 rw[aZ]
 intro j hj
 rw[List.mem_range] at hj
 unfold ascC
 rw[Bool.or_eq_true,decide_eq_true_eq,decide_eq_true_eq]
 by_cases h0:j=0
 ·exact .inl h0
 ·unfold SrtT at h
  rw[List.pairwise_iff_getElem] at h
  have:=h (j-1) j (by omega) hj (by omega)
  exact .inr (by simpa[List.getD,hj,show j-1<l.length by omega] using this)
theorem srt_nil:SrtT []:=List.Pairwise.nil
theorem small_valid{l:List Tt}(h:Vd l):validD (smallestD l)=true:=by
 have hb:=best_bst h
 have h6:=h.six
 have ok:=best_ok h
 have hlen:(smallestD l).Patterns.length≤6∧(smallestD l).Instances.length≤6:=by
  have:=put_len ok.nd
  have:=ok.len
  unfold smallestD
  simp only
  omega
 have parts:(smallestD l).Instances.all gndT=true∧(smallestD l).Patterns.all (patD (smallestD l).Instances.isEmpty)=true∧asc (smallestD l).Instances=true:=by
  rw[aZ,aZ]
  have hput:∀ p∈putAllT (bestI l).1 [],p∈(bestI l).1:=fun p hp=>by simpa using (putAllT_mem p _ []).1 hp
  rcases hb.1 with e | ⟨m,h1,e⟩
  ·unfold smallestD
   rw[e] at hput ⊢
   refine⟨fun a ha=>(nomatch ha),fun p hp=>?_,asc_srt srt_nil⟩
   have hg:=h.gnd p (hput p hp)
   unfold patD patT
   rw[hg,(gndT_iff hg).1,gnd_vars hg]; rfl
  ·have g:=Grp.of h h1
   unfold smallestD
   rw[e] at hput ⊢
   refine⟨fun a ha=>keyS_gnd g a ha,fun p hp=>?_,asc_srt (putAllT_srt _ _ srt_nil)⟩
   have hp':=hput p hp
   obtain⟨c,hc,rfl⟩:=selP_from hp'
   have hne:(keyS (subS l m 0)).isEmpty=false:=by
    rw[Bool.eq_false_iff,Ne,List.isEmpty_iff]; exact keyS_ne g
   unfold patD
   show(patT c.1&&(!(keyS (subS l m 0)).isEmpty||gndT c.1))=true
   rw[hne,Bool.not_false,Bool.true_or,Bool.and_true]
   rcases cand_pat h hc with⟨m2,g1,g2,rfl⟩ | ⟨i,g1,rfl⟩
   ·exact(Grp.of h g1).pat
   ·have hg:=h.gnd _ (getD_mem (l:=l) g1)
    unfold patT
    show(goodT (l.getD i default)&&_)=true
    rw[(gndT_iff hg).1,gnd_vars hg]; rfl
 have e:asc (smallestD l).Patterns=true:=asc_srt (putAllT_srt _ _ srt_nil)
 unfold validD
 rw[decide_eq_true (by omega),decide_eq_true (by omega),parts.1,parts.2.1,parts.2.2,e]; rfl
end
section
/-! ### sorted lists of the same terms -/
theorem srt_ext:∀ {a b:List Tt},SrtT a→SrtT b→(∀ z,z∈a↔z∈b)→a=b
 | [],[],_,_,_=>rfl
 | [],y::b,_,_,h=>nomatch (h y).2 (by simp)
 | x::a,[],_,_,h=>nomatch (h x).1 (by simp)
 | x::a,y::b,ha,hb,h=>by
  unfold SrtT at ha hb
  rw[List.pairwise_cons] at ha hb
  have e:x=y:=by
   rcases List.mem_cons.1 ((h x).1 (by simp)) with q | q
   ·exact q
   ·rcases List.mem_cons.1 ((h y).2 (by simp)) with q' | q'
    ·exact q'.symm
    ·have h1:=hb.1 x q
     have h2:=ha.1 y q'
     have:=cmpR_neg x y
     omega
  subst e
  have nx:∀ {c:List Tt},(∀ z∈c,cmpR x z<0)→x∉c:=fun hc hx=>by
   have:=hc x hx
   rw[cmpR_self] at this; omega
  rw[srt_ext ha.2 hb.2 fun z=>by
   have hz:=h z
   rw[bu,bu] at hz
   constructor
   ·intro q
    rcases hz.1 (.inr q) with rfl | q'
    ·exact absurd q (nx ha.1)
    ·exact q'
   ·intro q
    rcases hz.2 (.inr q) with rfl | q'
    ·exact absurd q (nx hb.1)
    ·exact q']
theorem put_ext{a b:List Tt}(h:∀ z,z∈a↔z∈b):putAllT a []=putAllT b []:=srt_ext (putAllT_srt _ _ srt_nil) (putAllT_srt _ _ srt_nil) fun z=>by
 rw[putAllT_mem,putAllT_mem]; simp[h z]
/-! ### it describes the terms -/
theorem dec_ok{l:List Tt}(h:Vd l):(smallestD l).Ok∧(smallestD l).tot≤1048576:=by
 have ok:=best_ok h
 have hl:=ok.len
 have hp:∀ a∈(smallestD l).Patterns,goodT a=true:=fun a ha=>ok.gd a (by simpa using (putAllT_mem a _ []).1 ha)
 have hi:∀ a∈(smallestD l).Instances,goodT a=true:=ok.gi
 have n1:(smallestD l).Patterns.length≤6∧(smallestD l).Instances.length≤6:=by
  have:=put_len ok.nd
  unfold smallestD
  simp only
  omega
 have b:∀ m:List Tt,(∀ a∈m,goodT a=true)→ltot bg m≤211*m.length:=fun m=>by
  induction m with
  | nil=>intro _; simp[ltot]
  | cons a m ih=>
   intro hm
   have h1:=ih fun x hx=>hm x (by simp[hx])
   have h2:=(goodT_Ok (hm a (by simp))).1
   simp only[ltot,aH,aF,bK,Nat.mul_add,Nat.mul_one] at h1 ⊢
   omega
 have b1:=b _ hp
 have b2:=b _ hi
 refine⟨⟨⟨by simp only[Big]; omega,fun a ha=>(goodT_Ok (hp a ha)).2⟩,⟨by simp only[Big]; omega,fun a ha=>(goodT_Ok (hi a ha)).2⟩⟩,?_⟩
 show ltot bg (smallestD l).Patterns+ltot bg (smallestD l).Instances≤_
 omega
theorem gnd_all{l:List Tt}(h:Vd l):l.all gndT=true:=List.all_eq_true.2 h.gnd
theorem describes{l:List Tt}(h:Vd l)(hok:LOk Tt.Ok l)(tm:∀ a∈l,a.tot≤1048576):impl_DescribesTerms (smallestD l) l=some (true,true):=by
 obtain⟨d1,d2⟩:=dec_ok h
 have h6:=h.six
 have hv:=small_valid h
 have hG:(G0 (smallestD l)).all goodT=true:=by
  rw[aZ]
  exact fun z hz=>h.gd z ((lang_small h z).1 hz)
 have hL:langD (smallestD l)=(putAllT (G0 (smallestD l)) [],true):=by unfold langD; rw[hv,hG]; rfl
 unfold impl_DescribesTerms
 rw[LanguageOf_impl _ d1 d2,hL,ai]
 dsimp only
 rw[cond_true,decide_eq_false (show ¬ (60:Int)<(l.length:Int) by omega),cond_false,contF l (fun a ha=>notGround_eq a (tm a ha) (hok.2 a ha)),gnd_all h,ai,Bool.not_true,cond_false]
 simp only[forN_idx]
 rw[add_loopA l 0 [] h.gd (by simp; omega),thenL_inr]
 rw[show addAll l []=addAll l [] from rfl,sort_put h.gd (by omega),ai,same_impl,ai,put_ext (lang_small h),same_iff.2 rfl]
theorem valid_dec{l:List Tt}(h:Vd l):impl_IsValidDecomposition (smallestD l)=some true:=by
 obtain⟨d1,d2⟩:=dec_ok h
 rw[impl_dec _ d1 d2,small_valid h]
/-! ### the generalization -/
theorem gen_one(x:Tt)(hc:x.cnt≤10000000):impl_generalization [x]=some (x,[]):=by
 refine lim_eq ⟨1,fun n hn=>?_⟩
 obtain⟨n,rfl⟩:∃ m,n=m+1:=⟨n-1,by omega⟩
 show impl_generalizationN (n+1) [x]=_
 rw[impl_generalizationN,show idx [x] (0:Int)=some x from rfl,ai,contF (p:=fun y=>same y x) [x] (fun a _=>by unfold impl_generalization_1; rw[EqualTerms_ok]; rfl),ai]
 have:[x].all (fun y=>same y x)=true:=by rw[aZ]; intro a ha; rw[List.mem_singleton.1 ha]; exact same_iff.2 rfl
 rw[this,Bool.not_true,cond_false,copyT x hc]; rfl
theorem gen_val{l:List Tt}(h:Vd l)(hok:LOk Tt.Ok l)(tm:∀ a∈l,a.tot≤1048576):GenF l∧impl_GeneralizeTerms l=some ((gen l).1,(gen l).2,true):=by
 have h6:=h.six
 have h1:=h.pos
 have f:=gen_fact (s:=l) (fun e=>by rw[e] at h1; simp at h1) (by omega) h.gnd
 refine⟨f,?_⟩
 unfold impl_GeneralizeTerms
 rw[within_eq,ai,contF l (fun a ha=>notGround_eq a (tm a ha) (hok.2 a ha)),gnd_all h,ai,f.im]
 have:inR (l.length:Int) 1 6=true:=by unfold inR; simp only[Bool.and_eq_true,decide_eq_true_eq]; omega
 rw[this]; rfl
theorem ins_gnd{l:List Tt}(h:Vd l)(f:GenF l):∀ z∈(gen l).2,gndT z=true:=fun z hz=>by
 by_cases h2:2≤l.length
 ·exact Grp.ins (l:=l) ⟨f,h.nodup,h2,h.gnd⟩ hz
 ·have h1:=h.pos
  obtain⟨x,rfl⟩:∃ x,l=[x]:=by
   match l,h1,h2 with
   | [x],_,_=>exact⟨x,rfl⟩
   | [],h1,_=>simp at h1
   | x::y::l,_,h2=>simp at h2
  have e:=f.im
  rw[gen_one x (by have:=(goodT_parts (h.gd x (by simp))).2.1; omega)] at e
  rw[← Option.some.inj e] at hz
  exact nomatch hz
theorem vTermsN_same(n:Nat):∀ a b,vTermsN n a b=spec_l2SameN n a b:=by
 induction n with
 | zero=>intro a b; rfl
 | succ n ih=>
  intro a b
  rw[vTermsN,spec_l2SameN]
  simp only[ih]
theorem vTerms_refl(a:Tt):vTerms a a=some true:=by
 have:vTerms a a=spec_l2Same a a:=by unfold vTerms spec_l2Same; simp only[vTermsN_same]
 rw[this,l2Same_ok,same_iff.2 rfl]
theorem any_good{t:Tt}(h:goodT t=true):spec_l2Any t=some true:=by
 obtain⟨h1,h2⟩:=goodT_Ok h
 unfold spec_l2Any
 rw[l2Good_ok t (by omega) h2,h]; rfl
theorem apply_val{t z y:Tt}(ht:goodT t=true)(hz:gndT z=true)(hy:goodT y=true)(e:ba z t=y):spec_ApplySubstitution ⟨[⟨(⟨#[65]⟩:ByteArray),z⟩]⟩ t=some (y,true):=by
 have hz':=(gndT_iff hz).1
 have hzv:=gnd_vars hz
 obtain⟨z1,z2⟩:=goodT_Ok hz'
 obtain⟨t1,t2⟩:=goodT_Ok ht
 have hne:¬ z.Name=nameA:=fun q=>by
  rw[Tt.vars_u,q,nameA_var] at hzv
  exact nomatch hzv
 have good:spec_l4Good ⟨[⟨(⟨#[65]⟩:ByteArray),z⟩]⟩=some true:=by
  unfold spec_l4Good
  show thenL (forN _ 1 0 ()) _=_
  rw[forN_nx (n:=0) (s':=()) (by
   rw[show idx (Sa.mk [⟨(⟨#[65]⟩:ByteArray),z⟩]).Bindings ((0:Nat):Int)=some ⟨(⟨#[65]⟩:ByteArray),z⟩ from rfl,ai]
   show aa (spec_l2Var nameA) _=_
   rw[l2Var_eq nameA (by show(1:Nat)≤_; simp),nameA_var,ai,cond_true]
   show aa (spec_l2Good z) _=_
   rw[l2Good_ok z (by omega) z2,hz',ai,cond_true]
   show(bif decide (z.Name=nameA) then _ else _)=_
   rw[decide_eq_false hne,cond_false]; rfl)]
  rfl
 have ap:spec_l4Apply ⟨[⟨(⟨#[65]⟩:ByteArray),z⟩]⟩ t=some y:=by
  have e1:(⟨[⟨(⟨#[65]⟩:ByteArray),z⟩]⟩:Sa)=one nameA z:=by unfold one; rw[decide_eq_false hne]; rfl
  rw[e1]
  refine lim_eq ⟨2*aX t,fun n hn=>?_⟩
  show spec_l4ApplyN n (one nameA z) t=_
  rw[l4ApplyN_good nameA_var (by have:=(goodT_parts hz').2.1; omega) (goodT_parts hz').1 t t2 (goodT_parts ht).1 n hn,sb_fl,e]
 unfold spec_ApplySubstitution
 rw[good,ai,cond_true,any_good ht,ai,cond_true,ap,ai,any_good hy]; rfl
end
section
theorem FnGrammars_true(a0:List Int)(h:LOk (fun x:Int=>0≤x∧x≤255) a0):FnGrammars a0=some true:=by
 unfold FnGrammars vBig
 rw[ai]
 by_cases hv:(65536:Int)<(a0.length:Int)
 ·rw[decide_eq_true hv]; rfl
 rw[decide_eq_false hv,cond_false]
 obtain⟨l,d1,hok,d3,tm⟩:=draw_ok a0 h.2
 rw[d1,ai,small_impl hok tm,ai,gain_impl hok tm,ai,smallest_spec hok tm,ai]
 unfold smallR gainR
 cases hb:vdB l
 ·rfl
 have vd:=vdB_iff.1 hb
 simp only[cond_true]
 obtain⟨f,gv⟩:=gen_val vd hok tm
 have h6:=vd.six
 have hlen:=(best_bst vd).2
 have hp:(smallestD l).Patterns.length+(smallestD l).Instances.length≤l.length:=by
  have:=put_len (best_ok vd).nd
  unfold smallestD
  simp only
  omega
 have w1:IntKind.i64.wrap ((l.length:Int)-((smallestD l).Patterns.length:Int))=(l.length:Int)-((smallestD l).Patterns.length:Int):=wrap64 (by omega) (by omega)
 have w2:IntKind.i64.wrap ((l.length:Int)-((smallestD l).Patterns.length:Int)-((smallestD l).Instances.length:Int))=(l.length:Int)-((smallestD l).Patterns.length:Int)-((smallestD l).Instances.length:Int):=wrap64 (by omega) (by omega)
 rw[describes vd hok tm,gv,valid_dec vd,w1,w2]
 simp only[ai,cond_true,beq_self_eq_true]
 rw[decide_eq_false (by omega),cond_false,decide_eq_true trivial,cond_true]
 have loop:forN (ρ:=Bool) (fun (i14:Nat) (s14:Unit)=>
  bif decide ((0:Int)<((gen l).2.length:Int)) then
   bif decide (((gen l).2.length:Int)=(l.length:Int)) then
    aa (idx (gen l).2 (i14:Int)) fun v121=>
    aa (spec_ApplySubstitution (Sa.mk ([(Bt.mk (⟨#[65]⟩:ByteArray) v121)])) (gen l).1) fun v127=>
    bif v127.2 then
     aa (idx l (i14:Int)) fun v136=>
     aa (vTerms v127.1 v136) fun v138=>
     bif v138 then
      some (.nx ())
     else
      some (.rt false)
    else
     some (.rt false)
   else
    some (.rt false)
  else
   aa (idx l (i14:Int)) fun v136=>
   aa (vTerms (gen l).1 v136) fun v138=>
   bif v138 then
    some (.nx ())
   else
    some (.rt false)) l.length 0 ()=some (.inr ()):=by
  refine for_iter (fun _=>()) l.length 0 fun j _ hj=>?_
  have hj':j<l.length:=by omega
  have hm:=getD_mem (l:=l) hj'
  by_cases e:(gen l).2=[]
  ·have:=f.ok.none e _ hm
   rw[e,decide_eq_false (by simp),cond_false,idx_getD hj',ai,← this,vTerms_refl]; rfl
  ·have es:=f.ok.some e
   have el:(gen l).2.length=l.length:=by rw[← es,au,es]
   have hj2:j<(gen l).2.length:=by omega
   have hz:=getD_mem (l:=(gen l).2) hj2
   have ey:ba ((gen l).2.getD j default) (gen l).1=l.getD j default:=by
    have:l.getD j default=((gen l).2.map (fun z=>ba z (gen l).1)).getD j default:=by rw[es]
    rw[this,List.getD_eq_getElem?_getD,List.getD_eq_getElem?_getD,List.getElem?_map,List.getElem?_eq_getElem hj2]; rfl
   rw[decide_eq_true (by omega),cond_true,decide_eq_true (by omega),cond_true,idx_getD hj2,ai,apply_val f.pat (ins_gnd vd f _ hz) (vd.gd _ hm) ey,ai]
   dsimp only
   rw[cond_true,idx_getD hj',ai,vTerms_refl]; rfl
 exact(congrArg (fun z=>thenL z _) loop).trans rfl
end
end Go.Proofs.YtnjgpibbjiofpaaGreat
