/- Lemmas of the proof; each says what it shows. -/
import Derived.Test.YtckabmmondelpaaGreatGstvL
import Derived.Test.YtckabmmondelpaaGreatAvZ
import Derived.KernelRfl
set_option linter.unusedSimpArgs false
set_option linter.unusedVariables false
set_option linter.defProp false
set_option maxRecDepth 4000
namespace Go.Proofs.YtckabmmondelpaaGreat
open Go.Av
open Bool renaming and_eq_true→aq,or_eq_false_iff→bH
open Ft renaming ind'→bk
open List renaming map_cons→aD,sum_cons→bp,mem_cons→aU,length_append→aP,length_cons→aA,nil_append→bh,append_assoc→aY,all_eq_true→ba,length_map→aw,all_cons→bB
open Nat renaming le_refl→aJ
open OLe renaming refl→aG,bind→aN,cond→bc
open Option renaming bind_some→ah,bind→aa
open SizeOf renaming sizeOf→ap
section
def B_(c:List Int):Prop:=c.length≤4611686018427387∧∀ x∈c,0≤x∧x≤255
theorem vAo_{c:List Int}(h:B_ c){i:Int}(h0:0≤i)(h1:i≤1000):∃ v,vAt c i=some v∧0≤v∧v≤255:=by
 unfold vAt
 by_cases e:i<(c.length:Int)
 ·rw[decide_eq_true e,cond_true]
  obtain⟨b,hb⟩:∃ b,c[i.toNat]?=some b:=⟨_,List.getElem?_eq_getElem (by omega)⟩
  have hbr:=h.2 b (List.mem_of_getElem? hb)
  have hi:idx c i=some b:=by simp[idx,h0,hb]
  rw[hi,ah,wi_ hbr.1 (by omega)]
  exact⟨_,rfl,hbr.1,hbr.2⟩
 ·have hl:=h.1
  rw[decide_eq_false e,cond_false,wi_ (x:=i*7) (by omega) (by omega),wi_ (by omega) (by omega)]
  obtain⟨q,e4,hq0,hq1⟩:=rl_1 (x:=i*7+(c.length:Int)) (m:=256) (by omega) (by omega)
  rw[e4,ah]
  exact⟨_,rfl,hq0,by omega⟩
theorem vMo_{c:List Int}(h:B_ c){n:ByteArray}(hn:Big n.size)(vs:List Int)(hv:∀ v∈vs,0≤v∧v≤1000):∃ v,vMix c n vs=some v∧0≤v:=by
 unfold vMix
 simp only[Big] at hn
 have hb:bnd (n.size:Int)=some n.size:=by unfold bnd; rw[if_pos (by omega)]; simp
 rw[hb,ah]
 obtain⟨s,e,hs0,hs1⟩:=fNi_1 (ρ:=Int) (σ:=Int) (f:=fun (i3:Nat) (s3:Int)=>
  aa (sidx n (i3:Int)) fun v20=>
  aa (rem (IntKind.i64.wrap ((IntKind.i64.wrap ((31:Int)*s3))+(IntKind.i64.wrap v20))) (65521:Int)) fun v23=>
  some (.nx v23)) (fun _ s=>0≤s∧s≤65521) n.size 0 17 ⟨by omega,by omega⟩ (by
  intro j s _ hj hs
  have hi:sidx n (j:Int)=some ((n.data.toList.getD j 0).toNat:Int):=by
   unfold sidx; rw[if_pos ⟨by omega,by omega⟩]; simp
  have hb:=(n.data.toList.getD j 0).toNat_lt
  rw[hi,ah,wi_ (x:=31*s) (by omega) (by omega),wi_ (x:=(((n.data.toList.getD j 0).toNat:Nat):Int)) (by omega) (by omega),wi_ (by omega) (by omega)]
  obtain⟨q,e4,hq0,hq1⟩:=rl_1 (x:=31*s+(((n.data.toList.getD j 0).toNat:Nat):Int)) (m:=65521) (by omega) (by omega)
  rw[e4,ah]
  exact⟨_,rfl,hq0,by omega⟩)
 rw[e,tLi_]
 obtain⟨s2,e2,hs0,hs1⟩:=fNi_1 (ρ:=Int) (σ:=Int) (f:=fun (i7:Nat) (s7:Int)=>
  aa (idx vs (i7:Int)) fun v34=>
  aa (rem (IntKind.i64.wrap ((IntKind.i64.wrap ((IntKind.i64.wrap ((37:Int)*s7))+v34))+(1:Int))) (65521:Int)) fun v38=>
  some (.nx v38)) (fun _ s=>0≤s∧s≤65521) vs.length 0 s ⟨hs0,hs1⟩ (by
  intro j s _ hj hs
  have hj:j<vs.length:=by omega
  have hb:=hv _ (gDm_ hj)
  rw[igD_ hj,ah,wi_ (x:=37*s) (by omega) (by omega),wi_ (x:=37*s+vs.getD j default) (by omega) (by omega),wi_ (by omega) (by omega)]
  obtain⟨q,e4,hq0,hq1⟩:=rl_1 (x:=37*s+vs.getD j default+1) (m:=65521) (by omega) (by omega)
  rw[e4,ah]
  exact⟨_,rfl,hq0,by omega⟩)
 rw[e2,tLi_]
 obtain⟨q1,e1,hq0,hq1⟩:=rl_1 (x:=s2) (m:=53) hs0 (by omega)
 obtain⟨q2,e2,hr0,hr1⟩:=rl_1 (x:=s2) (m:=89) hs0 (by omega)
 obtain⟨v1,e3,hv0,hv1⟩:=vAo_ h hq0 (by omega)
 obtain⟨v2,e4,hw0,hw1⟩:=vAo_ h hr0 (by omega)
 simp only[e1,e2,e3,e4,ah]
 rw[wi_ (x:=13*v1) (by omega) (by omega),wi_ (x:=s2+13*v1) (by omega) (by omega),wi_ (by omega) (by omega)]
 have hq:quo (s2+13*v1+v2) 3=some (IntKind.i64.wrap ((s2+13*v1+v2).tdiv 3)):=by simp[quo]
 have hd0:0≤(s2+13*v1+v2).tdiv 3:=Int.tdiv_nonneg (by omega) (by omega)
 have hd1:(s2+13*v1+v2).tdiv 3≤s2+13*v1+v2:=by rw[Int.tdiv_eq_ediv_of_nonneg (by omega)]; omega
 rw[hq,ah,wi_ hd0 (by omega)]
 exact⟨_,rfl,hd0⟩
theorem go_3{n:Nat}(hn:1≤n){e:vt}(he:EOk n e)(hl:e.names.length≤1000000)(x:ByteArray):∃ r,vEg_ e x=some r∧0≤r∧r<n:=by
 have key:∀ i:Nat,i≤e.names.length→∃ r:Int ⊕ Int,Ev (fun n2=>whileN (ρ:=Int) (fun (s2:Int)=>
  bif decide ((0:Int)≤s2) then
   aa (idx e.names s2) fun v17=>
   bif decide (v17=x) then
    aa (idx e.values s2) fun v24=>
    some (.rt v24)
   else
    some (.nx (IntKind.i64.wrap (s2-(1:Int))))
  else
   some (.br s2)) n2 ((i:Int)-1)) r∧∀ v,r=.inl v→0≤v∧v<n:=by
  intro i
  induction i with
  | zero=>
   intro _
   refine⟨.inr (((0:Nat):Int)-1),eb_ (s':=((0:Nat):Int)-1) ?_,nofun⟩
   rw[decide_eq_false (by omega)]; rfl
  | succ i ih=>
   intro hi
   obtain⟨r,h1,h2⟩:=ih (by omega)
   have ei:((i+1:Nat):Int)-1=(i:Int):=by omega
   rw[ei]
   by_cases hx:e.names.getD i default=x
   ·have hv:=he.vs _ (gDm_ (l:=e.values) (i:=i) (by have:=he.len; omega))
    refine⟨.inl (e.values.getD i default),er_ ?_,fun v hv'=>by cases hv'; exact hv⟩
    rw[decide_eq_true (by omega),cond_true,igD_ (by omega),ah,decide_eq_true hx,cond_true,igD_ (by have:=he.len; omega),ah]
   ·refine⟨r,en_ (s':=(i:Int)-1) ?_ h1,h2⟩
    rw[decide_eq_true (by omega),cond_true,igD_ (by omega),ah,decide_eq_false hx,cond_false,w_ (by omega) (by omega)]
 obtain⟨r,h1,h2⟩:=key e.names.length (aJ _)
 have hw:IntKind.i64.wrap ((e.names.length:Int)-(1:Int))=(e.names.length:Int)-1:=w_ (by omega) (by omega)
 unfold vEg_
 rw[hw]
 cases r with
 | inl v=>exact⟨v,(congrArg (fun z=>thenL z _) (le_ h1)).trans rfl,h2 v rfl⟩
 | inr s=>exact⟨0,(congrArg (fun z=>thenL z _) (le_ h1)).trans rfl,by omega,by omega⟩
theorem ta_{t a:Tt}(h:a∈t.Args):a.tot≤t.tot:=by
 have:=tm_ Tt.tot h
 have:=Tt.tot_u t
 omega
theorem nb_{t:Tt}(h:t.tot≤4194304):Big t.Name.size∧t.Args.length≤4194304:=by
 have h1:=Tt.tot_u t
 have h2:=ll_ Tt.tot t.Args
 exact⟨by unfold Big; omega,by omega⟩
theorem vm_2{F:Tt→Option Int}{n:Nat}(l:List Tt)(h:∀ a∈l,∃ r,F a=some r∧0≤r∧r<n)(hl:l.length≤4194304):
 ∃ vs:List Int,(∀ v∈vs,0≤v∧v<n)∧∀ ρ:Type,forN (ρ:=ρ) (fun (i5:Nat) (s5:(List Int))=>
  aa (idx l (i5:Int)) fun v52=>
  aa (F v52) fun v54=>
  aa (app s5 ([v54])) fun v56=>
  some (.nx v56)) l.length 0 ([])=some (.inr vs):=by
 obtain⟨R,hR⟩:=mc_ h
 refine⟨l.map R,fun v hv=>?_,fun ρ=>?_⟩
 ·obtain⟨a,ha,rfl⟩:=List.mem_map.1 hv
  exact(hR a ha).2
 ·rw[fNi_ l (fun _ v52 (s5:List Int)=>aa (F v52) fun v54=>aa (app s5 ([v54])) fun v56=>some (.nx v56)),mapL (f:=F) (g:=R) l 0 [] (fun a ha=>(hR a ha).1) (by simp; omega)]
  simp
theorem vo_{c:List Int}(hc:B_ c){n:Nat}(hn:1≤n)(hn2:n≤1000){e:vt}(he:EOk n e)(hl:e.names.length≤1000000)(t:Tt):t.tot≤4194304→∃ r,(∀ m,2*ap t≤m→vVN_ m c (n:Int) e t=some r)∧0≤r∧r<n:=by
 refine Tt.ind' (M:=fun t=>t.tot≤4194304→∃ r,(∀ m,2*ap t≤m→vVN_ m c (n:Int) e t=some r)∧0≤r∧r<n) (fun t ih ht=>?_) t
 have hp:=t.pos
 obtain⟨hnb,hal⟩:=nb_ ht
 obtain⟨R,hR⟩:=mc_ (fun a ha=>ih a ha (by have:=ta_ ha; omega))
 have ml:∀ m,2*ap t≤m+1→∀ ρ:Type,forN (ρ:=ρ) (fun (i5:Nat) (s5:(List Int))=>
  aa (idx t.Args (i5:Int)) fun v52=>
  aa (vVN_ m c n e v52) fun v54=>
  aa (app s5 ([v54])) fun v56=>
  some (.nx v56)) t.Args.length 0 ([])=some (.inr (t.Args.map R)):=fun m hm ρ=>by
  rw[fNi_ t.Args (fun _ v52 (s5:List Int)=>aa (vVN_ m c n e v52) fun v54=>aa (app s5 ([v54])) fun v56=>some (.nx v56)),mapL (f:=vVN_ m c n e) (g:=R) t.Args 0 [] (fun a ha=>(hR a ha).1 m (by have:=Tt.lt ha; omega)) (by simp; omega)]
  simp
 obtain⟨w,hw,hw0⟩:=vMo_ hc hnb (t.Args.map R) (fun v hv=>by
  obtain⟨a,ha,rfl⟩:=List.mem_map.1 hv
  have:=(hR a ha).2
  omega)
 obtain⟨q,hq,hq0,hq1⟩:=rl_1 (x:=w) (m:=(n:Int)) hw0 (by omega)
 have rest:∀ m,2*ap t≤m+1→(thenL (ρ:=Int) (σ:=(List Int)) (forN (fun (i5:Nat) (s5:(List Int))=>
  aa (idx t.Args (i5:Int)) fun v52=>
  aa (vVN_ m c n e v52) fun v54=>
  aa (app s5 ([v54])) fun v56=>
  some (.nx v56)) t.Args.length 0 ([])) fun s5=>
  aa (vMix c t.Name s5) fun v61=>
  aa (rem v61 (n:Int)) fun v63=>
  some v63)=some q:=fun m hm=>by
  rw[ml m hm,tLi_,hw,ah,hq]; rfl
 by_cases h0:(t.Args.length:Int)=0
 ·by_cases h1:(0:Int)<(t.Name.size:Int)
  ·have hs:sidx t.Name (0:Int)=some (((t.Name.data.toList.getD 0 0).toNat:Nat):Int):=by
    unfold sidx; rw[if_pos ⟨by omega,by omega⟩]; rfl
   by_cases h2:(65:Int)≤(((t.Name.data.toList.getD 0 0).toNat:Nat):Int)
   ·by_cases h3:(((t.Name.data.toList.getD 0 0).toNat:Nat):Int)≤90
    ·obtain⟨r,g1,g2⟩:=go_3 hn he hl t.Name
     refine⟨r,fun m hm=>?_,g2⟩
     obtain⟨m,rfl⟩:∃ k,m=k+1:=⟨m-1,by omega⟩
     rw[vVN_,decide_eq_true h0,cond_true,decide_eq_true h1,cond_true,hs,ah,decide_eq_true h2,cond_true,ah,decide_eq_true h3,cond_true,g1]; rfl
    ·refine⟨q,fun m hm=>?_,hq0,hq1⟩
     obtain⟨m,rfl⟩:∃ k,m=k+1:=⟨m-1,by omega⟩
     rw[vVN_,decide_eq_true h0,cond_true,decide_eq_true h1,cond_true,hs,ah,decide_eq_true h2,cond_true,ah,decide_eq_false h3,cond_false]; exact rest m hm
   ·refine⟨q,fun m hm=>?_,hq0,hq1⟩
    obtain⟨m,rfl⟩:∃ k,m=k+1:=⟨m-1,by omega⟩
    rw[vVN_,decide_eq_true h0,cond_true,decide_eq_true h1,cond_true,hs,ah,decide_eq_false h2,cond_false]; exact rest m hm
  ·refine⟨q,fun m hm=>?_,hq0,hq1⟩
   obtain⟨m,rfl⟩:∃ k,m=k+1:=⟨m-1,by omega⟩
   rw[vVN_,decide_eq_true h0,cond_true,decide_eq_false h1,cond_false]; exact rest m hm
 ·refine⟨q,fun m hm=>?_,hq0,hq1⟩
  obtain⟨m,rfl⟩:∃ k,m=k+1:=⟨m-1,by omega⟩
  rw[vVN_,decide_eq_false h0,cond_false]; exact rest m hm
theorem ho_{c:List Int}(hc:B_ c){n:Nat}(hn:1≤n)(hn2:n≤1000){e:vt}(he:EOk n e)(hl:e.names.length≤1000000)(t:Tt)(ht:t.tot≤4194304):∃ b,vH_ c (n:Int) e t=some b:=by
 obtain⟨hnb,hal⟩:=nb_ ht
 have hv:∀ a∈t.Args,∃ r,vV_ c (n:Int) e a=some r∧0≤r∧r<n:=fun a ha=>by
  obtain⟨r,h1,h2⟩:=vo_ hc hn hn2 he hl a (by have:=ta_ ha; omega)
  exact⟨r,le_ ⟨_,h1⟩,h2⟩
 obtain⟨vs,h1,h2⟩:=vm_2 t.Args hv hal
 have hs:sapp (⟨#[126]⟩:ByteArray) t.Name=some ((⟨#[126]⟩:ByteArray)++t.Name):=by
  have h3:(⟨#[126]⟩:ByteArray).size=1:=rfl
  have h4:=Tt.tot_u t
  unfold sapp; rw[if_pos (by omega)]
 have hb:Big ((⟨#[126]⟩:ByteArray)++t.Name).size:=by
  have h3:(⟨#[126]⟩:ByteArray).size=1:=rfl
  have h4:=Tt.tot_u t
  unfold Big; rw[ByteArray.size_append]; omega
 obtain⟨w,hw,hw0⟩:=vMo_ hc hb vs (fun v hv=>by have:=h1 v hv; omega)
 obtain⟨q,hq,_⟩:=rl_1 (x:=w) (m:=2) hw0 (by omega)
 unfold vH_
 rw[h2,tLi_,hs,ah,hw,ah,hq]
 by_cases e1:t.Name=(⟨#[61]⟩:ByteArray)
 ·rw[decide_eq_true e1,cond_true]
  by_cases e2:(vs.length:Int)=2
  ·rw[decide_eq_true e2,cond_true,show(0:Int)=((0:Nat):Int) from rfl,show(1:Int)=((1:Nat):Int) from rfl,igD_ (by omega),igD_ (by omega)]
   exact⟨_,rfl⟩
  ·rw[decide_eq_false e2]; exact⟨_,rfl⟩
 ·rw[decide_eq_false e1]; exact⟨_,rfl⟩
end
section
theorem cl_3{ρ:Type}(cnt:Ft→Nat)(f:Ft→Option Int):∀ (l:List Ft) (i:Nat) (c0:Nat),(∀ a∈l,f a=some (cnt a:Int))→c0+(l.map cnt).sum≤8388610→
 forL (ρ:=ρ) (fun _ v (s:Int)=>(f v).bind fun w=>some (.nx (IntKind.i64.wrap (s+w)))) l i (c0:Int)=some (.inr ((c0+(l.map cnt).sum:Nat):Int))
 | [],i,c0,_,_=>by simp[forL]
 | a::l,i,c0,h,hb=>by
  simp only[aD,bp] at hb ⊢
  have w:IntKind.i64.wrap ((c0:Int)+(cnt a:Int))=((c0+cnt a:Nat):Int):=by rw[w_]<;>omega
  rw[fLn_ (s':=((c0+cnt a:Nat):Int)) (by rw[h a (by simp),ah,w]),cl_3 cnt f l (i+1) (c0+cnt a) (fun b hb=>h b (by simp[hb])) (by omega),Nat.add_assoc]
theorem lSe_2(t:Ft):t.cnt≤8388610→∀ n,2*ap t≤n→slS_2 n t=some (t.cnt:Int):=by
 refine bk (M:=fun t=>t.cnt≤8388610→∀ n,2*ap t≤n→slS_2 n t=some (t.cnt:Int)) (fun t ih hc n hn=>?_) t
 rw[Ft.cnt_u] at hc ⊢
 have hp:=t.pos
 cases n with
 | zero=>omega
 | succ n=>
  rw[slS_2]
  simp only[fNi_]
  have:=cl_3 (ρ:=Int) Ft.cnt (slS_2 n) t.Parts 0 1 (fun a ha=>ih a ha (by have:=lsm_ Ft.cnt ha; omega) n (by have:=Ft.lt ha; omega)) hc
  rw[show(1:Int)=((1:Nat):Int) from rfl,this]; rfl

def SmF(k:Nat)(f:Ft):Prop:=f.Ok∧f.tot≤k
theorem SmF.mono{k m:Nat}{f:Ft}(h:SmF k f)(hm:k≤m):SmF m f:=⟨h.1,Nat.le_trans h.2 hm⟩
theorem go_2{c:la}{m:Nat}(h:CurOk c m)(hm:m+100≤1000000000):∃ t c',slC_14 c 2=some (t,c')∧SmT 9360 t∧CurOk c' (m+100):=by
 have hb:bud 2=70:=rfl
 have hk:ksz 2=1168:=rfl
 obtain⟨t,c2,f1,f2,f3⟩:=gNo_ 2 c m h (by omega)
 exact⟨t,c2,le_ ⟨_,f1⟩,f2.mono (by omega),f3.mono (by omega)⟩
theorem as_{x:ByteArray}{l:List Tt}(hx:x.size≤8)(hl:l.length≤2)(h:∀ a∈l,SmT 9360 a):SmF 20000 (Ft.mk 3 (Tt.mk x l) es []):=by
 have hok:(Tt.mk x l).Ok:=.mk _ _ (by simp only[Big]; omega) (by simp only[Big]; omega) (fun a ha=>(h a ha).1)
 have ht:(Tt.mk x l).tot≤20000:=by
  rw[Tt.tot_mk]
  match l,hl,h with
  | [],_,_=>simp[ltot]; omega
  | [a],_,h=>have:=(h a (by simp)).2; simp[ltot]; omega
  | [a,b],_,h=>have:=(h a (by simp)).2; have:=(h b (by simp)).2; simp[ltot]; omega
  | _::_::_::_,hl,_=>simp at hl
 exact⟨.mk _ _ _ _ (by simp only[InR]; omega) hok oe_ (by simp[Big]) (by simp),by rw[Ft.tot_mk]; simp[ltot]; exact ht⟩
theorem ao_4{c:la}{m:Nat}(h:CurOk c m)(hm:m+500≤1000000000):∃ t c',slC_16 c=some (t,c')∧SmF 20000 (Ft.mk 3 t es [])∧CurOk c' (m+500):=by
 unfold slC_16
 obtain⟨v,c1,e1,_,_,h1⟩:=po_ 8 h (by omega)
 rw[e1,ah]
 obtain⟨a,c2,e2,ha,h2⟩:=to_ h1 (by omega)
 obtain⟨b,c3,e3,hb,h3⟩:=to_ h2 (by omega)
 obtain⟨x,c4,e4,hx,h4⟩:=go_2 h1 (by omega)
 obtain⟨y,c5,e5,hy,h5⟩:=go_2 h4 (by omega)
 have two:∀ {a b:Tt},SmT 9360 a→SmT 9360 b→∀ z∈[a,b],SmT 9360 z:=fun ha hb z hz=>by
  simp at hz; rcases hz with rfl | rfl<;>assumption
 by_cases q:v=0
 ·rw[decide_eq_true q,cond_true,e2,ah,e3,ah]
  exact⟨_,_,rfl,as_ (by decide) (by simp) (two ha hb),h3.mono (by omega)⟩
 rw[decide_eq_false q,cond_false]
 by_cases q:v=1
 ·rw[decide_eq_true q,cond_true,e2,ah,e3,ah]
  exact⟨_,_,rfl,as_ (by decide) (by simp) (two ha hb),h3.mono (by omega)⟩
 rw[decide_eq_false q,cond_false]
 by_cases q:v=2
 ·rw[decide_eq_true q,cond_true]
  exact⟨_,_,rfl,as_ (by decide) (by simp) (by simp),h1.mono (by omega)⟩
 rw[decide_eq_false q,cond_false]
 by_cases q:v=3
 ·rw[decide_eq_true q,cond_true,e4,ah,e5,ah]
  exact⟨_,_,rfl,as_ (by decide) (by simp) (two hx hy),h5.mono (by omega)⟩
 rw[decide_eq_false q,cond_false]
 by_cases q:v=4
 ·rw[decide_eq_true q,cond_true,e4,ah,e5,ah]
  exact⟨_,_,rfl,as_ (by decide) (by simp) (two hx hy),h5.mono (by omega)⟩
 ·rw[decide_eq_false q,cond_false,e4,ah]
  exact⟨_,_,rfl,as_ (by decide) (by simp) (fun z hz=>by rw[List.mem_singleton.1 hz]; exact hx),h4.mono (by omega)⟩
theorem cs_1{v:Int}(h0:0≤v)(h1:v<2){k:Nat}:SmF k (Ft.mk (IntKind.i64.wrap (1+v)) zt es []):=by
 rw[w_ (by omega) (by omega)]
 have:1+v=1∨1+v=2:=by omega
 exact⟨ofC_ this,by rw[tfC_]; omega⟩
def kf:Nat→Nat
 | 0=>20000
 | d+1=>2*kf d+20
def bf:Nat→Nat
 | 0=>600
 | d+1=>2*bf d+700
theorem kg_:∀ d,20000≤kf d
 | 0=>aJ _
 | d+1=>by have:=kg_ d; simp only[kf]; omega
theorem bg_1:∀ d,d+600≤bf d
 | 0=>aJ _
 | d+1=>by have:=bg_1 d; simp only[bf]; omega
theorem km_1{a b:Nat}(h:a≤b):kf a≤kf b:=by
 induction h with
 | refl=>exact aJ _
 | step _ ih=>simp only[kf]; omega
theorem bm_4{a b:Nat}(h:a≤b):bf a≤bf b:=by
 induction h with
 | refl=>exact aJ _
 | step _ ih=>simp only[bf]; omega
theorem fNs_{p:Ft}{k m:Nat}(h:SmF k p)(hm:k+1≤m):SmF m (fN p):=⟨ofN_ h.1,by rw[tfN_]; have:=h.2; omega⟩
theorem fBs_{o:Int}{p q:Ft}{k m:Nat}(ho:o=5∨o=6∨o=7)(h:SmF k p)(h2:SmF k q)(hm:2*k+2≤m):SmF m (fB o p q):=⟨ofB_ ho h.1 h2.1,by rw[tfB_]; have:=h.2; have:=h2.2; omega⟩
theorem fQs_{o:Int}{v:ByteArray}{p:Ft}{k m:Nat}(ho:o=8∨o=9)(hv:v.size≤8)(h:SmF k p)(hm:k+9≤m):SmF m (fQ o v p):=⟨ofQ_ ho (by unfold Big; omega) h.1,by rw[tfQ_]; have:=h.2; omega⟩
theorem bo_:∀ (d:Nat) (c:la) (m:Nat),CurOk c m→m+bf d≤1000000000→∃ f c',(∀ n,d+1≤n→slC_2 n c (d:Int)=some (f,c'))∧SmF (kf d) f∧CurOk c' (m+bf d):=by
 have leaf:∀ (c:la) (m:Nat),CurOk c m→m+600≤1000000000→∃ f c',(aa (slC_6 c (16:Int)) fun v13=>
  bif v13.1 then
   aa (slC_ v13.2 (2:Int)) fun v15=>
   some ((Ft.mk (IntKind.i64.wrap ((1:Int)+v15.1)) (Tt.mk (⟨#[]⟩:ByteArray) ([])) (⟨#[]⟩:ByteArray) ([])),v15.2)
  else
   aa (slC_16 v13.2) fun v19=>
   some ((Ft.mk (3:Int) v19.1 (⟨#[]⟩:ByteArray) ([])),v19.2))=some (f,c')∧SmF 20000 f∧CurOk c' (m+600):=by
  intro c m hc hm
  obtain⟨b,c1,e1,h1⟩:=oo_1 16 hc (by omega)
  rw[e1,ah]
  cases b
  ·obtain⟨t,c2,e2,h2,h3⟩:=ao_4 h1 (by omega)
   rw[cond_false,e2,ah]
   exact⟨_,_,rfl,h2,h3.mono (by omega)⟩
  ·obtain⟨v,c2,e2,v0,v1,h2⟩:=po_ 2 h1 (by omega)
   rw[cond_true,e2,ah]
   exact⟨_,_,rfl,cs_1 v0 (v1 (by omega)),h2.mono (by omega)⟩
 intro d
 induction d with
 | zero=>
  intro c m hc hm
  have hb0:bf 0=600:=rfl
  obtain⟨f,c',e1,e2,e3⟩:=leaf c m hc (by omega)
  refine⟨f,c',fun n hn=>?_,e2,e3.mono (by omega)⟩
  obtain⟨n,rfl⟩:∃ k,n=k+1:=⟨n-1,by omega⟩
  rw[slC_2,decide_eq_true (by omega),cond_true]; exact e1
 | succ d ih=>
  intro c m hc hm
  have hk:=kg_ d
  have hb:=bg_1 d
  have hbs:bf (d+1)=2*bf d+700:=rfl
  have hks:kf (d+1)=2*kf d+20:=rfl
  by_cases hd:((d+1:Nat):Int)≤1
  ·obtain⟨f,c',e1,e2,e3⟩:=leaf c m hc (by omega)
   refine⟨f,c',fun n hn=>?_,e2.mono (by omega),e3.mono (by omega)⟩
   obtain⟨n,rfl⟩:∃ k,n=k+1:=⟨n-1,by omega⟩
   rw[slC_2,decide_eq_true hd,cond_true]; exact e1
  ·have hw:IntKind.i64.wrap (((d+1:Nat):Int)-(1:Int))=(d:Int):=by
    rw[w_ (by omega) (by omega)]; omega
   obtain⟨b,c1,q1,q2⟩:=oo_1 (4:Int) hc (by omega)
   cases b
   ·obtain⟨o,c2,r1,ro,r2⟩:=ao_3 [(4:Int),(5:Int),(6:Int),(7:Int),(8:Int),(9:Int),(8:Int),(9:Int),(5:Int),(7:Int)] (by simp) q2 (by omega)
    have ro:o=4∨o=8∨o=9∨(o=5∨o=6∨o=7):=by simp at ro; omega
    rcases ro with rfl | rfl | rfl | ho
    ·obtain⟨p,c3,s1,s2,s3⟩:=ih c2 _ r2 (by omega)
     refine⟨fN p,c3,fun n hn=>?_,fNs_ s2 (by omega),s3.mono (by omega)⟩
     obtain⟨n,rfl⟩:∃ k,n=k+1:=⟨n-1,by omega⟩
     rw[slC_2,decide_eq_false hd,cond_false,q1,ah,cond_false,r1,ah]
     simp only[decide_true,cond_true,hw,s1 n (by omega),ah]
    ·obtain⟨v,c3,t1,tv,t2⟩:=oo_ [(⟨#[88]⟩:ByteArray),(⟨#[89]⟩:ByteArray),(⟨#[90]⟩:ByteArray),(⟨#[88]⟩:ByteArray)] (by simp) r2 (by omega)
     have hv:v.size≤8:=by
      simp only[aU,List.not_mem_nil,or_false] at tv
      rcases tv with rfl | rfl | rfl | rfl<;>decide
     obtain⟨p,c4,s1,s2,s3⟩:=ih c3 _ t2 (by omega)
     refine⟨fQ 8 v p,c4,fun n hn=>?_,fQs_ (.inl rfl) hv s2 (by omega),s3.mono (by omega)⟩
     obtain⟨n,rfl⟩:∃ k,n=k+1:=⟨n-1,by omega⟩
     rw[slC_2,decide_eq_false hd,cond_false,q1,ah,cond_false,r1,ah]
     simp only[Int.reduceEq,decide_false,cond_false,decide_true,cond_true,t1,hw,s1 n (by omega),ah]
    ·obtain⟨v,c3,t1,tv,t2⟩:=oo_ [(⟨#[88]⟩:ByteArray),(⟨#[89]⟩:ByteArray),(⟨#[90]⟩:ByteArray),(⟨#[88]⟩:ByteArray)] (by simp) r2 (by omega)
     have hv:v.size≤8:=by
      simp only[aU,List.not_mem_nil,or_false] at tv
      rcases tv with rfl | rfl | rfl | rfl<;>decide
     obtain⟨p,c4,s1,s2,s3⟩:=ih c3 _ t2 (by omega)
     refine⟨fQ 9 v p,c4,fun n hn=>?_,fQs_ (.inr rfl) hv s2 (by omega),s3.mono (by omega)⟩
     obtain⟨n,rfl⟩:∃ k,n=k+1:=⟨n-1,by omega⟩
     rw[slC_2,decide_eq_false hd,cond_false,q1,ah,cond_false,r1,ah]
     simp only[Int.reduceEq,decide_false,cond_false,decide_true,cond_true,t1,hw,s1 n (by omega),ah]
    ·obtain⟨p,c3,s1,s2,s3⟩:=ih c2 _ r2 (by omega)
     obtain⟨q,c4,u1,u2,u3⟩:=ih c3 _ s3 (by omega)
     refine⟨fB o p q,c4,fun n hn=>?_,fBs_ ho s2 u2 (by omega),u3.mono (by omega)⟩
     obtain⟨n,rfl⟩:∃ k,n=k+1:=⟨n-1,by omega⟩
     rw[slC_2,decide_eq_false hd,cond_false,q1,ah,cond_false,r1,ah]
     simp only[decide_eq_false (show ¬ o=4 by omega),decide_eq_false (show ¬ o=8 by omega),decide_eq_false (show ¬ o=9 by omega),cond_false,hw,s1 n (by omega),u1 n (by omega),ah]
   ·obtain⟨f,c',e1,e2,e3⟩:=leaf c1 _ q2 (by omega)
    refine⟨f,c',fun n hn=>?_,e2.mono (by omega),e3.mono (by omega)⟩
    obtain⟨n,rfl⟩:∃ k,n=k+1:=⟨n-1,by omega⟩
    rw[slC_2,decide_eq_false hd,cond_false,q1,ah,cond_true]; exact e1
theorem fo_{c:la}{m:Nat}(h:CurOk c m)(hm:m+30000≤1000000000):∃ f c',slC_13 c=some (f,c')∧SmF 330000 f∧CurOk c' (m+30000):=by
 unfold slC_13
 obtain⟨v,c1,e1,v0,v1,h1⟩:=po_ 4 h (by omega)
 have v1:=v1 (by omega)
 obtain⟨d,rfl⟩:∃ d:Nat,v=(d:Int):=⟨v.toNat,by omega⟩
 have hb:bf (1+d)≤bf 4:=bm_4 (by omega)
 have hk:kf (1+d)≤kf 4:=km_1 (by omega)
 have hb4:bf 4=20100:=rfl
 have hk4:kf 4=320300:=rfl
 obtain⟨f,c2,f1,f2,f3⟩:=bo_ (1+d) c1 _ h1 (by omega)
 have hw:IntKind.i64.wrap ((1:Int)+(d:Int))=((1+d:Nat):Int):=by rw[w_ (by omega) (by omega)]; omega
 have hg:slC_27 c1 ((1+d:Nat):Int)=some (f,c2):=le_ ⟨_,f1⟩
 rw[e1,ah,hw,hg]
 exact⟨_,_,rfl,f2.mono (by omega),f3.mono (by omega)⟩
theorem no_1(T:Int)(hT:T≤40):∀ (d:Nat) (F:Ft),F.Ok→F.tot+d≤1000000→T-(F.cnt:Int)≤(d:Int)→∃ F':Ft,Ev (fun n13=>whileN (ρ:=Ft×la) (fun (s13:Int×ByteArray×(List Tt)×ByteArray×(List Ft))=>
 aa (slS_7 (Ft.mk s13.1 (Tt.mk s13.2.1 s13.2.2.1) s13.2.2.2.1 s13.2.2.2.2)) fun v40=>
 bif decide (v40<T) then
  some (.nx ((4:Int),(⟨#[]⟩:ByteArray),[],(⟨#[]⟩:ByteArray),[(Ft.mk s13.1 (Tt.mk s13.2.1 s13.2.2.1) s13.2.2.2.1 s13.2.2.2.2)]))
 else
  some (.br s13)) n13 (F.Op,F.Atom.Name,F.Atom.Args,F.Var,F.Parts)) (.inr (F'.Op,F'.Atom.Name,F'.Atom.Args,F'.Var,F'.Parts))∧F'.Ok∧F'.tot≤F.tot+d:=by
 intro d
 induction d with
 | zero=>
  intro F hF ht hd
  refine⟨F,eb_ ?_,hF,aJ _⟩
  simp only[Tt.eta,Ft.eta]
  have hc:=F.cnt_tot
  have hs:slS_7 F=some (F.cnt:Int):=le_ ⟨_,lSe_2 F (by omega)⟩
  rw[hs,ah,decide_eq_false (by omega)]; rfl
 | succ d ih=>
  intro F hF ht hd
  have hc:=F.cnt_tot
  have hs:slS_7 F=some (F.cnt:Int):=le_ ⟨_,lSe_2 F (by omega)⟩
  by_cases e:(F.cnt:Int)<T
  ·obtain⟨F',h1,h2,h3⟩:=ih (fN F) (ofN_ hF) (by rw[tfN_]; omega) (by rw[cfN_]; omega)
   refine⟨F',en_ (s':=((fN F).Op,(fN F).Atom.Name,(fN F).Atom.Args,(fN F).Var,(fN F).Parts)) ?_ h1,h2,by rw[tfN_] at h3; omega⟩
   simp only[Tt.eta,Ft.eta]
   rw[hs,ah,decide_eq_true e]; rfl
  ·refine⟨F,eb_ ?_,hF,by omega⟩
   simp only[Tt.eta,Ft.eta]
   rw[hs,ah,decide_eq_false e]; rfl
theorem ms_{f:Ft}{k:Nat}(h:SmF k f){o:Int}(ho:-100≤o∧o≤100){v:ByteArray}(hv:v.size≤8):SmF k (Ft.mk o f.Atom f.Var f.Parts)∧SmF (k+8) (Ft.mk f.Op f.Atom v f.Parts):=by
 obtain⟨h1,h2⟩:=h
 have h3:=h1.u
 have h4:=Ft.tot_u f
 refine⟨⟨.mk _ _ _ _ (by simp only[InR]; omega) h3.2.1 h3.2.2.1 h3.2.2.2.1 h3.2.2.2.2,by rw[Ft.tot_mk]; omega⟩,.mk _ _ _ _ h3.1 h3.2.1 (by unfold Big; omega) h3.2.2.2.1 h3.2.2.2.2,by rw[Ft.tot_mk]; omega⟩
theorem aFo_{c:la}{m:Nat}(h:CurOk c m)(hm:m+100000≤1000000000):∃ f c',slC_4 c=some (f,c')∧SmF 900000 f:=by
 unfold slC_4
 obtain⟨f,c1,e1,hf,h1⟩:=fo_ h (by omega)
 obtain⟨v,c2,e2,_,_,h2⟩:=po_ 24 h1 (by omega)
 rw[e1,ah,e2,ah]
 obtain⟨u,c3,e3,u0,u1,h3⟩:=po_ 11 h2 (by omega)
 have u1:=u1 (by omega)
 have hfu:=hf.1.u
 have hft:=Ft.tot_u f
 have hf2:=hf.2
 by_cases q:v=0
 ·rw[decide_eq_true q,cond_true,e3,ah]
  exact⟨_,_,rfl,((ms_ hf (o:=u) (v:=es) (by omega) (by decide)).1).mono (by omega)⟩
 rw[decide_eq_false q,cond_false]
 by_cases q:v=1
 ·obtain⟨w,c4,e4,hw,h4⟩:=oo_ [(⟨#[88]⟩:ByteArray),(⟨#[97]⟩:ByteArray),(⟨#[]⟩:ByteArray)] (by simp) h2 (by omega)
  have hws:w.size≤8:=by
   simp only[aU,List.not_mem_nil,or_false] at hw
   rcases hw with rfl | rfl | rfl<;>decide
  rw[decide_eq_true q,cond_true,e4,ah]
  exact⟨_,_,rfl,((ms_ hf (o:=0) (v:=w) (by omega) hws).2).mono (by omega)⟩
 rw[decide_eq_false q,cond_false]
 by_cases q:v=2
 ·obtain⟨t,c4,e4,ht,h4⟩:=aTo_1 h2 (by omega)
  rw[decide_eq_true q,cond_true,e4,ah]
  refine⟨_,_,rfl,.mk _ _ _ _ hfu.1 ht.1 hfu.2.2.1 hfu.2.2.2.1 hfu.2.2.2.2,?_⟩
  rw[Ft.tot_mk]; have:=ht.2; simp only; omega
 rw[decide_eq_false q,cond_false]
 by_cases q:v=3
 ·obtain⟨g,c4,e4,hg,h4⟩:=fo_ h2 (by omega)
  have hl:f.Parts.length≤ltot Ft.tot f.Parts:=ll_ _ _
  rw[decide_eq_true q,cond_true,e4,ah,show app f.Parts [g]=some (f.Parts++[g]) by unfold app; rw[if_pos (by simp; omega)],ah]
  refine⟨_,_,rfl,.mk _ _ _ _ hfu.1 hfu.2.1 hfu.2.2.1 (by simp[Big]; omega) (fun x hx=>?_),?_⟩
  ·rcases List.mem_append.1 hx with hx | hx
   ·exact hfu.2.2.2.2 x hx
   ·rw[List.mem_singleton.1 hx]; exact hg.1
  ·rw[Ft.tot_mk]
   have:=hg.2
   simp only[ltot,aP,List.map_append,List.sum_append,aD,List.map_nil,bp,List.sum_nil,aA,List.length_nil] at hft ⊢
   omega
 rw[decide_eq_false q,cond_false]
 by_cases q:v=4
 ·obtain⟨k,c4,e4,k0,k1,h4⟩:=po_ 5 h2 (by omega)
  have k1:=k1 (by omega)
  rw[decide_eq_true q,cond_true,e4,ah]
  obtain⟨F',g1,g2,g3⟩:=no_1 (IntKind.i64.wrap ((36:Int)+k)) (by rw[w_]<;>omega) 40 f hf.1 (by omega) (by rw[w_]<;>omega)
  refine⟨F',c4,(tLe_ (le_ g1)).trans ?_,g2,by omega⟩
  simp only[Tt.eta,Ft.eta]
 rw[decide_eq_false q,cond_false]
 by_cases q:v=5
 ·rw[decide_eq_true q,cond_true]
  by_cases hl:(0:Int)<(f.Parts.length:Int)
  ·rw[decide_eq_true hl,cond_true,e3,ah]
   cases hA:f.Parts with
   | nil=>rw[hA] at hl; simp at hl
   | cons a l=>
    rw[hA] at hfu hft
    have ha:SmF 330000 a:=⟨hfu.2.2.2.2 a (by simp),by
     simp only[ltot,aD,bp,aA] at hft; omega⟩
    obtain⟨a1,a2⟩:=(ms_ ha (o:=u) (v:=es) (by omega) (by decide)).1
    rw[show idx (a::l) (0:Int)=some a from rfl,ah,ah]
    refine⟨_,_,rfl,.mk _ _ _ _ hfu.1 hfu.2.1 hfu.2.2.1 (by simpa[LOk] using hfu.2.2.2.1) (fun x hx=>?_),?_⟩
    ·have hx:x=Ft.mk u a.Atom a.Var a.Parts∨x∈l:=by simpa using hx
     rcases hx with rfl | hx
     ·exact a1
     ·exact hfu.2.2.2.2 x (by simp[hx])
    ·rw[Ft.tot_mk]
     show _+(_+ltot Ft.tot (Ft.mk u a.Atom a.Var a.Parts::l))≤_
     simp only[ltot,aD,bp,aA] at hft ⊢
     omega
  ·rw[decide_eq_false hl,cond_false]
   exact⟨_,_,rfl,hf.mono (by omega)⟩
 ·rw[decide_eq_false q,cond_false]
  exact⟨_,_,rfl,hf.mono (by omega)⟩
end
section
noncomputable def gt(e:vt)(x:ByteArray):Int:=(vEg_ e x).getD 0
noncomputable def mxv(c:List Int)(n:Nat)(x:ByteArray)(vs:List Int):Int:=((vMix c x vs).bind fun v=>rem v (n:Int)).getD 0
mutual
noncomputable def Tt.vl(G:ByteArray→Int)(M:ByteArray→List Int→Int):Tt→Int
 | .mk x l=>bif iVS_ x then G x else M x (Tv_1 G M l)
noncomputable def Tv_1(G:ByteArray→Int)(M:ByteArray→List Int→Int):List Tt→List Int
 | []=>[]
 | a::l=>a.vl G M::Tv_1 G M l
end
theorem Tve_(G:ByteArray→Int)(M:ByteArray→List Int→Int)(l:List Tt):Tv_1 G M l=l.map (Tt.vl G M):=by
 induction l with
 | nil=>rfl
 | cons a l ih=>rw[Tv_1,ih]; rfl
theorem Tvu_1(G:ByteArray→Int)(M:ByteArray→List Int→Int)(t:Tt):t.vl G M=bif iVS_ t.Name then G t.Name else M t.Name (t.Args.map (Tt.vl G M)):=by cases t; rw[Tt.vl,Tve_]; rfl
theorem vf_{x:ByteArray}(h:iVS_ x=true):0<x.size∧65≤byt x 0∧byt x 0≤90:=by
 unfold iVS_ at h
 rw[aq] at h
 have hz:0<x.size:=by have:=iRi_.1 h.1; omega
 have h3:=List.all_eq_true.1 h.2 0 (by simpa using hz)
 have h4:cUp (byt x 0)=true:=by simpa[varC] using h3
 have:=iRi_.1 h4
 exact⟨hz,this.1,this.2⟩
theorem sf_1{x:ByteArray}(h:iSS_ x=true):0<x.size∧97≤byt x 0:=by
 unfold iSS_ at h
 rw[aq,aq] at h
 have hz:0<x.size:=by have:=iRi_.1 h.1.1; omega
 have h3:=List.all_eq_true.1 h.1.2 0 (by simpa using hz)
 have h4:cLow (byt x 0)=true:=by simpa[symC] using h3
 have:=iRi_.1 h4
 exact⟨hz,this.1⟩
section
variable{c:List Int}{n:Nat}{e:vt}
theorem veN_(hc:B_ c)(hn:1≤n)(hn2:n≤1000)(he:EOk n e)(hl:e.names.length≤1000000)(t:Tt):t.good=true→t.tot≤4194304→
 (∀ m,2*ap t≤m→vVN_ m c (n:Int) e t=some (t.vl (gt e) (mxv c n)))∧0≤t.vl (gt e) (mxv c n)∧t.vl (gt e) (mxv c n)<n:=by
 refine Tt.ind' (M:=fun t=>t.good=true→t.tot≤4194304→(∀ m,2*ap t≤m→vVN_ m c (n:Int) e t=some (t.vl (gt e) (mxv c n)))∧0≤t.vl (gt e) (mxv c n)∧t.vl (gt e) (mxv c n)<n) (fun t ih hg ht=>?_) t
 have hp:=t.pos
 obtain⟨hnb,hal⟩:=nb_ ht
 rw[Tvu_1]
 rcases nC_ hg with⟨hv,ha⟩ | ⟨hv,hs,_,hag⟩
 ·obtain⟨f1,f2,f3⟩:=vf_ hv
  obtain⟨r,g1,g2,g3⟩:=go_3 hn he hl t.Name
  have hr:gt e t.Name=r:=by unfold gt; rw[g1]; rfl
  rw[hv,cond_true,hr]
  refine⟨fun m hm=>?_,g2,g3⟩
  obtain⟨m,rfl⟩:∃ k,m=k+1:=⟨m-1,by omega⟩
  rw[vVN_,ha,decide_eq_true (by simp),cond_true,decide_eq_true (by omega),cond_true,s_ f1,ah,decide_eq_true f2,cond_true,ah,decide_eq_true f3,cond_true,g1]; rfl
 ·obtain⟨f1,f2⟩:=sf_1 hs
  have hR:∀ a∈t.Args,(∀ m,2*ap a≤m→vVN_ m c (n:Int) e a=some (a.vl (gt e) (mxv c n)))∧0≤a.vl (gt e) (mxv c n)∧a.vl (gt e) (mxv c n)<n:=fun a ha=>ih a ha (hag a ha) (by have:=ta_ ha; omega)
  obtain⟨w,hw,hw0⟩:=vMo_ hc hnb (t.Args.map (Tt.vl (gt e) (mxv c n))) (fun v hv=>by
   obtain⟨a,ha,rfl⟩:=List.mem_map.1 hv
   have:=(hR a ha).2
   omega)
  obtain⟨q,hq,hq0,hq1⟩:=rl_1 (x:=w) (m:=(n:Int)) hw0 (by omega)
  have hM:mxv c n t.Name (t.Args.map (Tt.vl (gt e) (mxv c n)))=q:=by
   show((vMix c t.Name (t.Args.map (Tt.vl (gt e) (mxv c n)))).bind fun v=>rem v (n:Int)).getD 0=q
   rw[hw,ah,hq]; rfl
  rw[hv,cond_false,hM]
  refine⟨fun m hm=>?_,hq0,hq1⟩
  obtain⟨m,rfl⟩:∃ k,m=k+1:=⟨m-1,by omega⟩
  have rest:(thenL (ρ:=Int) (σ:=(List Int)) (forN (fun (i5:Nat) (s5:(List Int))=>
   aa (idx t.Args (i5:Int)) fun v52=>
   aa (vVN_ m c n e v52) fun v54=>
   aa (app s5 ([v54])) fun v56=>
   some (.nx v56)) t.Args.length 0 ([])) fun s5=>
   aa (vMix c t.Name s5) fun v61=>
   aa (rem v61 (n:Int)) fun v63=>
   some v63)=some q:=by
   rw[fNi_ t.Args (fun _ v52 (s5:List Int)=>aa (vVN_ m c n e v52) fun v54=>aa (app s5 ([v54])) fun v56=>some (.nx v56)),mapL (f:=vVN_ m c n e) (g:=Tt.vl (gt e) (mxv c n)) t.Args 0 [] (fun a ha=>(hR a ha).1 m (by have:=Tt.lt ha; omega)) (by simp; omega),tLi_,bh,hw,ah,hq]; rfl
  by_cases h0:(t.Args.length:Int)=0
  ·rw[vVN_,decide_eq_true h0,cond_true,decide_eq_true (by omega),cond_true,s_ f1,ah,decide_eq_true (by omega),cond_true,ah,decide_eq_false (by omega),cond_false]; exact rest
  ·rw[vVN_,decide_eq_false h0,cond_false]; exact rest
theorem ve_1(hc:B_ c)(hn:1≤n)(hn2:n≤1000)(he:EOk n e)(hl:e.names.length≤1000000){t:Tt}(hg:t.good=true)(ht:t.tot≤4194304):vV_ c (n:Int) e t=some (t.vl (gt e) (mxv c n)):=le_ ⟨_,(veN_ hc hn hn2 he hl t hg ht).1⟩
theorem gw_(he:EOk n e)(hl:e.names.length≤100000)(x:ByteArray)(v:Nat)(y:ByteArray):gt (e_2 e x v) y=if y=x then(v:Int) else gt e y:=by
 have key:∀ i:Nat,i≤e.names.length→∃ r:Int ⊕ Int,Ev (fun n2=>whileN (ρ:=Int) (fun (s2:Int)=>
  bif decide ((0:Int)≤s2) then
   aa (idx e.names s2) fun v17=>
   bif decide (v17=y) then
    aa (idx e.values s2) fun v24=>
    some (.rt v24)
   else
    some (.nx (IntKind.i64.wrap (s2-(1:Int))))
  else
   some (.br s2)) n2 ((i:Int)-1)) r∧Ev (fun n2=>whileN (ρ:=Int) (fun (s2:Int)=>
  bif decide ((0:Int)≤s2) then
   aa (idx (e.names++[x]) s2) fun v17=>
   bif decide (v17=y) then
    aa (idx (e.values++[(v:Int)]) s2) fun v24=>
    some (.rt v24)
   else
    some (.nx (IntKind.i64.wrap (s2-(1:Int))))
  else
   some (.br s2)) n2 ((i:Int)-1)) r:=by
  intro i
  induction i with
  | zero=>
   intro _
   refine⟨.inr (((0:Nat):Int)-1),eb_ (s':=((0:Nat):Int)-1) ?_,eb_ (s':=((0:Nat):Int)-1) ?_⟩<;>(rw[decide_eq_false (by omega)]; rfl)
  | succ i ih=>
   intro hi
   obtain⟨r,h1,h2⟩:=ih (by omega)
   have hlen:=he.len
   have ei:((i+1:Nat):Int)-1=(i:Int):=by omega
   have n1:(e.names++[x]).getD i default=e.names.getD i default:=by rw[List.getD_eq_getElem?_getD,List.getElem?_append_left (by omega),← List.getD_eq_getElem?_getD]
   have n2:(e.values++[(v:Int)]).getD i default=e.values.getD i default:=by rw[List.getD_eq_getElem?_getD,List.getElem?_append_left (by omega),← List.getD_eq_getElem?_getD]
   rw[ei]
   by_cases hx:e.names.getD i default=y
   ·refine⟨.inl (e.values.getD i default),er_ ?_,er_ ?_⟩
    ·rw[decide_eq_true (by omega),cond_true,igD_ (by omega),ah,decide_eq_true hx,cond_true,igD_ (by omega),ah]
    ·rw[decide_eq_true (by omega),cond_true,igD_ (by simp; omega),ah,n1,decide_eq_true hx,cond_true,igD_ (by simp; omega),ah,n2]
   ·refine⟨r,en_ (s':=(i:Int)-1) ?_ h1,en_ (s':=(i:Int)-1) ?_ h2⟩
    ·rw[decide_eq_true (by omega),cond_true,igD_ (by omega),ah,decide_eq_false hx,cond_false,w_ (by omega) (by omega)]
    ·rw[decide_eq_true (by omega),cond_true,igD_ (by simp; omega),ah,n1,decide_eq_false hx,cond_false,w_ (by omega) (by omega)]
 obtain⟨r,h1,h2⟩:=key e.names.length (aJ _)
 have hlen:=he.len
 have hw:IntKind.i64.wrap ((e.names.length:Int)-(1:Int))=(e.names.length:Int)-1:=w_ (by omega) (by omega)
 have hw2:IntKind.i64.wrap (((e.names++[x]).length:Int)-(1:Int))=(e.names.length:Int):=by
  rw[aP]; simp only[aA,List.length_nil]; rw[w_ (by omega) (by omega)]; omega
 have a1:gt e y=(match r with | .inl v=>v | .inr _=>0):=by
  unfold gt vEg_
  rw[hw]
  have:=(congrArg (fun z=>(thenL z (fun _=>some (0:Int))).getD 0) (le_ h1))
  refine this.trans ?_
  cases r<;>rfl
 have gn:(e.names++[x]).getD e.names.length default=x:=by rw[List.getD_eq_getElem?_getD,List.getElem?_append_right (aJ _),Nat.sub_self]; rfl
 have gv:(e.values++[(v:Int)]).getD e.names.length default=(v:Int):=by rw[List.getD_eq_getElem?_getD,hlen,List.getElem?_append_right (aJ _),Nat.sub_self]; rfl
 unfold gt vEg_ e_2
 simp only
 rw[hw2]
 by_cases hx:x=y
 ·rw[if_pos hx.symm]
  have:Ev (fun n2=>whileN (ρ:=Int) (fun (s2:Int)=>
   bif decide ((0:Int)≤s2) then
    aa (idx (e.names++[x]) s2) fun v17=>
    bif decide (v17=y) then
     aa (idx (e.values++[(v:Int)]) s2) fun v24=>
     some (.rt v24)
    else
     some (.nx (IntKind.i64.wrap (s2-(1:Int))))
   else
    some (.br s2)) n2 (e.names.length:Int)) (.inl (v:Int)):=er_ (by
   rw[decide_eq_true (by omega),cond_true,igD_ (by simp),ah,gn,decide_eq_true hx,cond_true,igD_ (by simp; omega),ah,gv])
  exact(congrArg (fun z=>(thenL z (fun _=>some (0:Int))).getD 0) (le_ this)).trans rfl
 ·rw[if_neg (fun h=>hx h.symm)]
  have:Ev (fun n2=>whileN (ρ:=Int) (fun (s2:Int)=>
   bif decide ((0:Int)≤s2) then
    aa (idx (e.names++[x]) s2) fun v17=>
    bif decide (v17=y) then
     aa (idx (e.values++[(v:Int)]) s2) fun v24=>
     some (.rt v24)
    else
     some (.nx (IntKind.i64.wrap (s2-(1:Int))))
   else
    some (.br s2)) n2 (e.names.length:Int)) r:=en_ (s':=(e.names.length:Int)-1) (by
   rw[decide_eq_true (by omega),cond_true,igD_ (by simp),ah,gn,decide_eq_false hx,cond_false,hw]) h2
  refine(congrArg (fun z=>(thenL z (fun _=>some (0:Int))).getD 0) (le_ this)).trans ?_
  have h3:(vEg_ e y).getD 0=gt e y:=rfl
  rw[show((thenL (lim fun n2=>whileN (ρ:=Int) (fun (s2:Int)=>
   bif decide ((0:Int)≤s2) then
    aa (idx e.names s2) fun v17=>
    bif decide (v17=y) then
     aa (idx e.values s2) fun v24=>
     some (.rt v24)
    else
     some (.nx (IntKind.i64.wrap (s2-(1:Int))))
   else
    some (.br s2)) n2 (IntKind.i64.wrap ((e.names.length:Int)-(1:Int)))) fun s2=>some (0:Int)).getD 0)=gt e y from rfl,a1]
  cases r<;>rfl
end
theorem vs_3{x:ByteArray}(hx:iVS_ x=true)(t:Tt)(G:ByteArray→Int)(M:ByteArray→List Int→Int)(a:Tt):a.good=true→(sbT x t a).vl G M=a.vl (fun y=>if y=x then t.vl G M else G y) M:=by
 refine Tt.ind' (M:=fun a=>a.good=true→(sbT x t a).vl G M=a.vl (fun y=>if y=x then t.vl G M else G y) M) (fun a ih hg=>?_) a
 rw[sTu_,Tvu_1 (fun y=>if y=x then t.vl G M else G y)]
 rcases nC_ hg with⟨hv,ha⟩ | ⟨hv,hs,_,hag⟩
 ·rw[ha,hv,cond_true]
  by_cases e:a.Name=x
  ·rw[decide_eq_true e,if_pos e]; rfl
  ·rw[decide_eq_false e,if_neg e,List.isEmpty_nil,Bool.true_and,cond_false,Tvu_1]
   show(bif iVS_ a.Name then G a.Name else _)=_
   rw[hv]; rfl
 ·have e:¬ a.Name=x:=fun e=>by rw[e,hx] at hv; cases hv
  rw[decide_eq_false e,Bool.and_false,cond_false,hv,cond_false,Tvu_1]
  show(bif iVS_ a.Name then G a.Name else M a.Name ((a.Args.map (sbT x t)).map (Tt.vl G M)))=_
  rw[hv,cond_false,List.map_map]
  congr 1
  exact List.map_congr_left fun b hb=>ih b hb (hag b hb)
theorem vi_{y:ByteArray}:∀ {l:List Tt},y∈Tv_ l↔∃ b∈l,y∈b.vars
 | []=>by simp[Tv_]
 | a::l=>by simp only[Tv_,List.mem_append,vi_ (l:=l),aU,exists_eq_or_imp]
theorem vc_1{G G':ByteArray→Int}{M:ByteArray→List Int→Int}(a:Tt):a.good=true→(∀ y∈a.vars,G y=G' y)→a.vl G M=a.vl G' M:=by
 refine Tt.ind' (M:=fun a=>a.good=true→(∀ y∈a.vars,G y=G' y)→a.vl G M=a.vl G' M) (fun a ih hg h=>?_) a
 rw[Tvu_1,Tvu_1 G']
 rw[Tvu_] at h
 rcases nC_ hg with⟨hv,ha⟩ | ⟨hv,hs,_,hag⟩
 ·rw[hv,cond_true] at h ⊢
  rw[cond_true]
  exact h _ (by simp)
 ·rw[hv,cond_false] at h ⊢
  rw[cond_false]
  congr 1
  exact List.map_congr_left fun b hb=>ih b hb (hag b hb) fun y hy=>h y (vi_.2 ⟨b,hb,hy⟩)
end
section
def hasI(l:List Int)(x:Int):Bool:=decide (x∈l)
theorem ahI_(l:List Int)(x:Int):l.any (fun v=>decide (x=v))=hasI l x:=by
 unfold hasI
 rw[Bool.eq_iff_iff,List.any_eq_true,decide_eq_true_iff]
 constructor
 ·rintro ⟨v,h1,h2⟩; rw[of_decide_eq_true h2]; exact h1
 ·exact fun h=>⟨x,h,decide_eq_true rfl⟩
theorem Ce_(l:List Int)(x:Int):sCS_3 l x=some (hasI l x):=by
 unfold sCS_3 sIS_1
 rw[← ahI_]
 exact fl_ (f:=fun v=>some (decide (x=v))) (p:=fun v=>decide (x=v)) l (fun _ _=>rfl)
mutual
def Ft.ats:Ft→List Tt
 | .mk o t _ l=>bif decide (o=3) then [t] else Fa_ l
def Fa_:List Ft→List Tt
 | []=>[]
 | a::l=>a.ats++Fa_ l
end
theorem Fau_(a:Ft):a.ats=bif decide (a.Op=3) then [a.Atom] else Fa_ a.Parts:=by cases a; rw[Ft.ats]; rfl
mutual
def Ft.hq:Ft→Bool
 | .mk o _ _ l=>(decide (o=8)||(decide (o=9)||false))||Ft.hqs l
def Ft.hqs:List Ft→Bool
 | []=>false
 | a::l=>a.hq||Ft.hqs l
end
theorem Fhe_(l:List Ft):Ft.hqs l=l.any Ft.hq:=by
 induction l with
 | nil=>rfl
 | cons a l ih=>rw[Ft.hqs,ih]; rfl
theorem Fhu_(a:Ft):a.hq=((decide (a.Op=8)||(decide (a.Op=9)||false))||a.Parts.any Ft.hq):=by cases a; rw[Ft.hq,Fhe_]; rfl
theorem hOe_(a:Ft):∀ n,3*ap a≤n→ihO_ n a [8,9]=some a.hq:=by
 refine bk (M:=fun a=>∀ n,3*ap a≤n→ihO_ n a [8,9]=some a.hq) (fun a ih n hn=>?_) a
 have hp:=a.pos
 cases n with
 | zero=>omega
 | succ n=>
  have e:hasI [8,9] a.Op=(decide (a.Op=8)||(decide (a.Op=9)||false)):=by rw[← ahI_]; rfl
  rw[ihO_,Ce_,ah,e,Fhu_]
  cases (decide (a.Op=8)||(decide (a.Op=9)||false))
  ·rw[cond_false,cF_2 (p:=Ft.hq) a.Parts (fun x hx=>by
    have:=Ft.lt hx
    cases n with
    | zero=>omega
    | succ n=>rw[ihO_1,ih x hx n (by omega)]; rfl)]; rfl
  ·rfl
theorem al_(f:Ft→Option (List Tt)):∀ (l:List Ft) (i:Nat) (acc:List Tt),(∀ a∈l,f a=some a.ats)→acc.length+(Fa_ l).length≤1073741824→
 forL (ρ:=List Tt) (fun _ x s=>(f x).bind fun v22=>(app s v22).bind fun v23=>some (.nx v23)) l i acc=some (.inr (acc++Fa_ l))
 | [],i,acc,_,_=>by rw[fLn_1,Fa_,List.append_nil]
 | a::l,i,acc,h,hb=>by
  rw[Fa_,aP] at hb
  rw[fLn_ (s':=acc++a.ats) (by
   rw[h a (by simp),ah]; unfold app
   rw[if_pos (by omega)]; rfl),al_ f l (i+1) _ (fun x hx=>h x (by simp[hx])) (by rw[aP]; omega),Fa_,aY]
theorem al_2{l:List Ft}{a:Ft}(h:a∈l):a.ats.length≤(Fa_ l).length:=by
 induction l with
 | nil=>cases h
 | cons b l ih=>
  rw[Fa_,aP]
  rcases List.mem_cons.1 h with rfl | h
  ·omega
  ·have:=ih h; omega
theorem aOe_(a:Ft):a.ats.length≤1073741824→∀ n,2*ap a≤n→iaO_ n a=some a.ats:=by
 refine bk (M:=fun a=>a.ats.length≤1073741824→∀ n,2*ap a≤n→iaO_ n a=some a.ats) (fun a ih hb n hn=>?_) a
 have hp:=a.pos
 rw[Fau_] at hb
 cases n with
 | zero=>omega
 | succ n=>
  rw[iaO_,Fau_]
  cases e:decide (a.Op=3)
  ·rw[e,cond_false] at hb
   rw[cond_false,cond_false,fNi_ a.Parts (fun _ x s=>(iaO_ n x).bind fun v22=>(app s v22).bind fun v23=>some (.nx v23)),
    al_ (iaO_ n) a.Parts 0 [] (fun x hx=>ih x hx (by have:=al_2 hx; omega) n (by have:=Ft.lt hx; omega)) (by simpa using hb)]; rfl
  ·rfl
end
section
def hoT(c:List Int)(x:ByteArray)(s3:List Int):Option Bool:=
 bif decide (x=(⟨#[61]⟩:ByteArray)) then
  bif decide ((s3.length:Int)=(2:Int)) then
   aa (idx s3 (0:Int)) fun v40=>
   aa (idx s3 (0:Int)) fun v41=>
   aa (idx s3 (1:Int)) fun v43=>
   aa (idx s3 (1:Int)) fun v44=>
   some (decide (v41=v44))
  else
   aa (sapp (⟨#[126]⟩:ByteArray) x) fun v49=>
   aa (vMix c v49 s3) fun v51=>
   aa (rem v51 (2:Int)) fun v52=>
   some (decide (v52=(1:Int)))
 else
  aa (sapp (⟨#[126]⟩:ByteArray) x) fun v49=>
  aa (vMix c v49 s3) fun v51=>
  aa (rem v51 (2:Int)) fun v52=>
  some (decide (v52=(1:Int)))
noncomputable def HH(c:List Int)(n:Nat)(e:vt)(t:Tt):Bool:=(vH_ c (n:Int) e t).getD false
section
variable{c:List Int}{n:Nat}{e:vt}
theorem Ho_(hc:B_ c)(hn:1≤n)(hn2:n≤1000)(he:EOk n e)(hl:e.names.length≤1000000)(t:Tt)(ht:t.tot≤4194304):vH_ c (n:Int) e t=some (HH c n e t):=by
 obtain⟨b,hb⟩:=ho_ hc hn hn2 he hl t ht
 unfold HH
 rw[hb]; rfl
theorem Ha_(hc:B_ c)(hn:1≤n)(hn2:n≤1000)(he:EOk n e)(hl:e.names.length≤1000000){t:Tt}(ha:∀ a∈t.Args,a.good=true)(ht:t.tot≤4194304):HH c n e t=(hoT c t.Name (t.Args.map (Tt.vl (gt e) (mxv c n)))).getD false:=by
 have hal:=(nb_ ht).2
 unfold HH vH_
 rw[fNi_ t.Args (fun _ v26 (s3:List Int)=>aa (vV_ c (n:Int) e v26) fun v28=>aa (app s3 ([v28])) fun v30=>some (.nx v30)),mapL (f:=vV_ c (n:Int) e) (g:=Tt.vl (gt e) (mxv c n)) t.Args 0 [] (fun a hm=>ve_1 hc hn hn2 he hl (ha a hm) (by have:=ta_ hm; omega)) (by simp; omega),tLi_,bh]
 rfl
end
mutual
def Ft.av:Ft→Bool
 | .mk o t _ l=>bif decide (o=3) then hasV nameA t.vars else Ft.avs l
def Ft.avs:List Ft→Bool
 | []=>false
 | a::l=>a.av||Ft.avs l
end
theorem Fae_(l:List Ft):Ft.avs l=l.any Ft.av:=by
 induction l with
 | nil=>rfl
 | cons a l ih=>rw[Ft.avs,ih]; rfl
theorem Fau_1(a:Ft):a.av=bif decide (a.Op=3) then hasV nameA a.Atom.vars else a.Parts.any Ft.av:=by cases a; rw[Ft.av,Fae_]; rfl
theorem hfN_(p:Ft):(fN p).hq=p.hq:=by simp[fN,Ft.hq,Ft.hqs]
theorem hfB_{o:Int}(ho:o=5∨o=6∨o=7)(p q:Ft):(fB o p q).hq=(p.hq||q.hq):=by rcases ho with rfl | rfl | rfl<;>simp[fB,Ft.hq,Ft.hqs]
theorem hfQ_{o:Int}(ho:o=8∨o=9)(v:ByteArray)(p:Ft):(fQ o v p).hq=true:=by rcases ho with rfl | rfl<;>simp[fQ,Ft.hq]
theorem afN_(p:Ft):(fN p).av=p.av:=by simp[fN,Ft.av,Ft.avs]
theorem afB_{o:Int}(ho:o=5∨o=6∨o=7)(p q:Ft):(fB o p q).av=(p.av||q.av):=by rcases ho with rfl | rfl | rfl<;>simp[fB,Ft.av,Ft.avs]
theorem sfN_(x:ByteArray)(t:Tt)(p:Ft):(fN p).sub x t=fN (p.sub x t):=by simp[fN,Ft.sub,Fs_,Ft.keep,isQ,FOm_]
theorem sfB_{o:Int}(ho:o=5∨o=6∨o=7)(x:ByteArray)(t:Tt)(p q:Ft):(fB o p q).sub x t=fB o (p.sub x t) (q.sub x t):=by rcases ho with rfl | rfl | rfl<;>simp[fB,Ft.sub,Fs_,Ft.keep,isQ,FOm_]
theorem sfC_{o:Int}(ho:o=1∨o=2)(x:ByteArray)(t:Tt):(fC o).sub x t=fC o:=by rcases ho with rfl | rfl<;>simp[fC,Ft.sub,Fs_,Ft.keep,isQ,FOm_]
theorem sfA_(x:ByteArray)(t a:Tt):(Ft.mk 3 a es []).sub x t=Ft.mk 3 (sbT x t a) es []:=by simp[Ft.sub,Ft.keep,isQ,FOm_]
theorem tv_fB{o:Int}(ho:o=5∨o=6∨o=7){H:vt→Tt→Bool}{n:Nat}{e e':vt}{p q p' q':Ft}(h:p.tv H n e=p'.tv H n e')(h':q.tv H n e=q'.tv H n e'):(fB o p q).tv H n e=(fB o p' q').tv H n e':=by
 rcases ho with rfl | rfl | rfl
 ·rw[tb_,tb_,h,h']
 ·rw[tb_2,tb_2,h,h']
 ·rw[tb_1,tb_1,h,h']
theorem ts_{H:vt→Tt→Bool}{n:Nat}{e e':vt}{x:ByteArray}{t:Tt}(hA:∀ a,aT_ a=true→H e (sbT x t a)=H e' a)(f:Ft):f.good=true→f.hq=false→(f.sub x t).tv H n e=f.tv H n e':=by
 refine bk (M:=fun f=>f.good=true→f.hq=false→(f.sub x t).tv H n e=f.tv H n e') (fun f ih hg hq=>?_) f
 rcases gc_ hg with⟨o,ho,rfl⟩ | ⟨a,rfl,ha⟩ | ⟨p,rfl,gp⟩ | ⟨o,p,q,ho,rfl,gp,gq⟩ | ⟨o,v,p,ho,rfl,hv,gp⟩
 ·rw[sfC_ ho]
  rcases ho with rfl | rfl
  ·rw[tc_,tc_]
  ·rw[tc_1,tc_1]
 ·rw[sfA_,tv_a,tv_a]; exact hA a ha
 ·rw[sfN_,tv_n,tv_n,ih p (by simp[fN,FPm_]) gp (by rw[hfN_] at hq; exact hq)]
 ·rw[hfB_ ho,bH] at hq
  rw[sfB_ ho]
  exact tv_fB ho (ih p (by simp[fB,FPm_]) gp hq.1) (ih q (by simp[fB,FPm_]) gq hq.2)
 ·rw[hfQ_ ho] at hq; cases hq
theorem tf_1{H:vt→Tt→Bool}{n:Nat}{e e':vt}(hA:∀ a,aT_ a=true→hasV nameA a.vars=false→H e a=H e' a)(f:Ft):f.good=true→f.hq=false→f.av=false→f.tv H n e=f.tv H n e':=by
 refine bk (M:=fun f=>f.good=true→f.hq=false→f.av=false→f.tv H n e=f.tv H n e') (fun f ih hg hq hv=>?_) f
 rcases gc_ hg with⟨o,ho,rfl⟩ | ⟨a,rfl,ha⟩ | ⟨p,rfl,gp⟩ | ⟨o,p,q,ho,rfl,gp,gq⟩ | ⟨o,v,p,ho,rfl,hv',gp⟩
 ·rcases ho with rfl | rfl
  ·rw[tc_,tc_]
  ·rw[tc_1,tc_1]
 ·rw[tv_a,tv_a]; exact hA a ha (by simpa[Ft.av] using hv)
 ·rw[tv_n,tv_n,ih p (by simp[fN,FPm_]) gp (by rw[hfN_] at hq; exact hq) (by rw[afN_] at hv; exact hv)]
 ·rw[hfB_ ho,bH] at hq
  rw[afB_ ho,bH] at hv
  exact tv_fB ho (ih p (by simp[fB,FPm_]) gp hq.1 hv.1) (ih q (by simp[fB,FPm_]) gq hq.2 hv.2)
 ·rw[hfQ_ ho] at hq; cases hq
theorem at_1{a:Tt}(ha:aT_ a=true):a.tot≤210:=by
 have:=tt_ _ (at_ ha); have:=(aTo_ ha).cnt; omega
theorem sTs_2{x:ByteArray}{t a:Tt}(hg:gT_ t=true)(ha:aT_ a=true):(sbT x t a).tot≤4194304:=by
 have:=sat_ (n:=x) (gTi_ hg).1 (gTi_ hg).2 ha; omega
theorem sTg_{x:ByteArray}(hx:iVS_ x=true){t:Tt}(hg:t.good=true)(a:Tt):a.good=true→(sbT x t a).good=true:=by
 refine Tt.ind' (M:=fun a=>a.good=true→(sbT x t a).good=true) (fun a ih h=>?_) a
 rw[sTu_]
 rcases nC_ h with⟨hv,ha⟩ | ⟨hv,hs,hl,hag⟩
 ·rw[ha]
  by_cases e:a.Name=x
  ·rw[decide_eq_true e]; exact hg
  ·rw[decide_eq_false e,List.isEmpty_nil,Bool.true_and,cond_false,Tt.good_u]
   show(bif iVS_ a.Name then _ else _)=true
   rw[hv]; rfl
 ·have e:¬ a.Name=x:=fun e=>by rw[e,hx] at hv; cases hv
  rw[decide_eq_false e,Bool.and_false,cond_false,Tt.good_u]
  show(bif iVS_ a.Name then _ else _)=true
  rw[hv,cond_false]
  simp only[aq,ba,decide_eq_true_eq,aw]
  refine⟨⟨hs,by show(a.Args.map (sbT x t)).length≤4; rw[aw]; exact hl⟩,fun b hb=>?_⟩
  obtain⟨b',hb',rfl⟩:=List.mem_map.1 hb
  exact ih b' hb' (hag b' hb')
theorem as_1{c:List Int}(hc:B_ c){n:Nat}(hn:1≤n)(hn2:n≤1000){e:vt}(he:EOk n e)(hl:e.names.length≤1000){x:ByteArray}(hx:iVS_ x=true){t:Tt}(hg:gT_ t=true){a:Tt}(ha:aT_ a=true):HH c n e (sbT x t a)=HH c n (e_2 e x (t.vl (gt e) (mxv c n)).toNat) a:=by
 have hk:=aTo_ ha
 have hta:=at_1 ha
 obtain⟨gg,gc⟩:=gTi_ hg
 have gt1:=(gTO_ hg).1
 obtain⟨_,v0,v1⟩:=veN_ hc hn hn2 he (by omega) t gg (by omega)
 have hne:¬ a.Name=x:=fun e=>by have:=hk.nv; rw[e,hx] at this; cases this
 have hs:sbT x t a=.mk a.Name (a.Args.map (sbT x t)):=by rw[sTu_,decide_eq_false hne,Bool.and_false,cond_false]
 have hts:(sbT x t a).tot≤4194304:=sTs_2 hg ha
 rw[Ha_ hc hn hn2 he (by omega) (t:=sbT x t a) (by
  rw[hs]
  intro b hb
  obtain⟨b',hb',rfl⟩:=List.mem_map.1 hb
  exact sTg_ hx gg b' (hk.hall b' hb')) hts,Ha_ hc hn hn2 (he.with x (by omega)) (by simp[e_2]; omega) hk.hall (by omega),hs]
 show(hoT c a.Name ((a.Args.map (sbT x t)).map _)).getD false=_
 rw[List.map_map]
 congr 2
 refine List.map_congr_left fun b hb=>?_
 show(sbT x t b).vl (gt e) (mxv c n)=_
 rw[vs_3 hx t _ _ b (hk.hall b hb)]
 refine vc_1 b (hk.hall b hb) fun y _=>?_
 rw[gw_ he (by omega)]
 by_cases hy:y=x
 ·rw[if_pos hy,if_pos hy]; omega
 ·rw[if_neg hy,if_neg hy]
theorem af_{c:List Int}(hc:B_ c){n:Nat}(hn:1≤n)(hn2:n≤1000){e e':vt}(he:EOk n e)(hl:e.names.length≤1000)(he':EOk n e')(hl':e'.names.length≤1000)(hy:∀ y,y≠nameA→gt e y=gt e' y){a:Tt}(ha:aT_ a=true)(hv:hasV nameA a.vars=false):HH c n e a=HH c n e' a:=by
 have hk:=aTo_ ha
 have hta:=at_1 ha
 rw[Ha_ hc hn hn2 he (by omega) hk.hall (by omega),Ha_ hc hn hn2 he' (by omega) hk.hall (by omega)]
 congr 2
 refine List.map_congr_left fun b hb=>vc_1 b (hk.hall b hb) fun y hyb=>hy y fun e=>?_
 subst e
 rw[← Bool.not_eq_true,hVi_,Tvu_,hk.nv,cond_false,vi_] at hv
 exact hv ⟨b,hb,hyb⟩
end
section
theorem pe_(a:Ft):∀ n,2*ap a≤n→slP_2 n a=some (!a.hq):=by
 refine bk (M:=fun a=>∀ n,2*ap a≤n→slP_2 n a=some (!a.hq)) (fun a ih n hn=>?_) a
 have hp:=a.pos
 cases n with
 | zero=>omega
 | succ n=>
  rw[slP_2,Fhu_]
  cases decide (a.Op=8)
  ·cases decide (a.Op=9)
   ·rw[cond_false,cond_false,fNa_ (fun j=>!(a.Parts.getD j default).hq) (r0:=false) (fun j hj _=>by
     have ha:=gDm_ hj
     have:=Ft.lt ha
     rw[igD_ hj,ah,ih _ ha n (by omega),ah]
     cases (a.Parts.getD j default).hq<;>rfl),ral_ a.Parts (fun x=>!x.hq)]
    rw[List.any_eq_not_all_not]
    cases a.Parts.all (fun x=>!x.hq)<;>rfl
   ·rfl
  ·rfl
theorem oe_2(a:Ft):a.Ok→a.good=true→∀ n,2*ap a≤n→slO_ n a=some a.av:=by
 refine bk (M:=fun a=>a.Ok→a.good=true→∀ n,2*ap a≤n→slO_ n a=some a.av) (fun a ih hok hg n hn=>?_) a
 have hp:=a.pos
 cases n with
 | zero=>omega
 | succ n=>
  rw[slO_]
  by_cases e:a.Op=3
  ·rcases gc_ hg with⟨o,ho,rfl⟩ | ⟨t,rfl,ht⟩ | ⟨p,rfl,gp⟩ | ⟨o,p,q,ho,rfl,gp,gq⟩ | ⟨o,v,p,ho,rfl,hv,gp⟩
   ·simp only[fC,FOm_] at e; omega
   ·obtain⟨v,h1,h2,_⟩:=alV_ hok.u.2.1 (aTo_ ht)
    rw[decide_eq_true e,cond_true]
    simp only[FAm_] at h1 h2 ⊢
    rw[h1,ah,lIe_,ah]
    rw[show hasV (⟨#[65]⟩:ByteArray) v=hasV nameA t.vars from hVc_ (h2 _)]
    simp only[Ft.av,decide_true,cond_true]
    cases hasV nameA t.vars<;>rfl
   ·simp only[fN,FOm_] at e; omega
   ·simp only[fB,FOm_] at e; omega
   ·simp only[fQ,FOm_] at e; omega
  ·rw[decide_eq_false e,cond_false,Fau_1,decide_eq_false e,cond_false,fNa_ (fun j=>!(a.Parts.getD j default).av) (r0:=true) (fun j hj _=>by
    have ha:=gDm_ hj
    have:=Ft.lt ha
    have hgp:(a.Parts.getD j default).good=true:=by rw[Ft.good_u,aq,ba] at hg; exact hg.2 _ ha
    rw[igD_ hj,ah,ih _ ha (hok.u.2.2.2.2 _ ha) hgp n (by omega),ah]
    cases (a.Parts.getD j default).av<;>rfl),ral_ a.Parts (fun x=>!x.av)]
   rw[List.any_eq_not_all_not]
   cases a.Parts.all (fun x=>!x.av)<;>rfl
theorem aa_(a:Ft):a.good=true→(∀ t∈a.ats,aT_ t=true)∧2*a.ats.length≤a.cnt+1∧(a.av=true↔∃ t∈a.ats,nameA∈t.vars):=by
 refine bk (M:=fun a=>a.good=true→(∀ t∈a.ats,aT_ t=true)∧2*a.ats.length≤a.cnt+1∧(a.av=true↔∃ t∈a.ats,nameA∈t.vars)) (fun a ih hg=>?_) a
 rcases gc_ hg with⟨o,ho,rfl⟩ | ⟨t,rfl,ht⟩ | ⟨p,rfl,gp⟩ | ⟨o,p,q,ho,rfl,gp,gq⟩ | ⟨o,v,p,ho,rfl,hv,gp⟩
 ·have e:(fC o).ats=[]:=by rcases ho with rfl | rfl<;>simp[fC,Ft.ats,Fa_]
  have e2:(fC o).av=false:=by rcases ho with rfl | rfl<;>simp[fC,Ft.av,Ft.avs]
  rw[e,e2]; simp
 ·have e:(Ft.mk 3 t es []).ats=[t]:=by simp[Ft.ats]
  have e2:(Ft.mk 3 t es []).av=hasV nameA t.vars:=by simp[Ft.av]
  rw[e,e2,hVi_,Ft.cnt_u]
  simp[ht]
 ·obtain⟨h1,h2,h3⟩:=ih p (by simp[fN,FPm_]) gp
  have e:(fN p).ats=p.ats:=by simp[fN,Ft.ats,Fa_]
  rw[e,afN_,cfN_]
  exact⟨h1,by omega,h3⟩
 ·obtain⟨h1,h2,h3⟩:=ih p (by simp[fB,FPm_]) gp
  obtain⟨k1,k2,k3⟩:=ih q (by simp[fB,FPm_]) gq
  have e:(fB o p q).ats=p.ats++q.ats:=by rcases ho with rfl | rfl | rfl<;>simp[fB,Ft.ats,Fa_]
  rw[e,afB_ ho,cfB_,aP]
  refine⟨fun t ht=>?_,by omega,?_⟩
  ·rcases List.mem_append.1 ht with ht | ht
   ·exact h1 t ht
   ·exact k1 t ht
  ·rw[Bool.or_eq_true,h3,k3]
   simp only[List.mem_append]
   constructor
   ·rintro (⟨t,a,b⟩ | ⟨t,a,b⟩)
    ·exact⟨t,.inl a,b⟩
    ·exact⟨t,.inr a,b⟩
   ·rintro ⟨t,a | a,b⟩
    ·exact .inl ⟨t,a,b⟩
    ·exact .inr ⟨t,a,b⟩
 ·obtain⟨h1,h2,h3⟩:=ih p (by simp[fQ,FPm_]) gp
  have e:(fQ o v p).ats=p.ats:=by rcases ho with rfl | rfl<;>simp[fQ,Ft.ats,Fa_]
  have e2:(fQ o v p).av=p.av:=by rcases ho with rfl | rfl<;>simp[fQ,Ft.av,Ft.avs]
  rw[e,e2,cfQ_]
  exact⟨h1,by omega,h3⟩
theorem gl_1{ρ:Type}:∀ (l:List Tt) (i:Nat) (acc:List ByteArray),(∀ t∈l,aT_ t=true)→acc.length+30*l.length≤1000→∃ v,forL (ρ:=ρ) (fun _ x s3=>(ic_ s3 x).bind fun v16=>some (.nx v16)) l i acc=some (.inr v)∧(∀ y,y∈v↔y∈acc∨∃ t∈l,y∈t.vars)∧v.length≤acc.length+30*l.length
 | [],i,acc,_,_=>⟨acc,rfl,fun y=>by simp,by simp⟩
 | a::l,i,acc,h,hb=>by
  simp only[aA] at hb
  have hk:=aTo_ (h a (by simp))
  have hu:=a.cnt_u
  have hc:=hk.cnt
  obtain⟨v,h1,h2,h3,_⟩:=vl_1 (fun _=>True) (fun n s x=>icN_ n s x) (2*ap a) a.Args 0 acc (fun x hx acc _ hb=>by
   obtain⟨v,k1,k2⟩:=cNo_ x (hk.hall x hx) acc trivial hb
   exact⟨v,fun n hn=>k1 n (by have:=Tt.lt hx; omega),k2⟩) trivial (by omega)
  have hv:ic_ acc a=some v:=le_ ⟨2*ap a+1,fun n hn=>by
   cases n with
   | zero=>omega
   | succ n=>
    show icN_ (n+1) acc a=_
    rw[icN_,hk.isv]
    simp only[ah,cond_false,Bool.cond_self,fNi_]
    rw[h1 n (by omega)]; rfl⟩
  obtain⟨w,g1,g2,g3⟩:=gl_1 (ρ:=ρ) l (i+1) v (fun t ht=>h t (by simp[ht])) (by omega)
  refine⟨w,by rw[fLn_ (s':=v) (by rw[hv]; rfl),g1],fun y=>?_,by simp only[aA]; omega⟩
  rw[g2,h2,show y∈Tv_ a.Args↔y∈a.vars by rw[Tvu_,hk.nv,cond_false]]
  simp only[aU,exists_eq_or_imp,or_assoc]
theorem iVe_1{f:Ft}(hg:f.good=true)(hc:f.cnt≤40):∃ v,ivI_ f=some v∧sCS_ v (⟨#[65]⟩:ByteArray)=some f.av:=by
 obtain⟨a1,a2,a3⟩:=aa_ f hg
 obtain⟨v,h1,h2,h3⟩:=gl_1 (ρ:=List ByteArray) f.ats 0 [] a1 (by simp; omega)
 refine⟨sB_ v,?_,?_⟩
 ·unfold ivI_
  rw[show iaO_1 f=some f.ats from le_ ⟨_,aOe_ f (by omega)⟩,ah]
  have e:=fNi_ (ρ:=List ByteArray) f.ats (fun i x (s3:List ByteArray)=>aa (idx f.ats (i:Int)) fun v13=>aa (ic_ s3 v13) fun v16=>some (.nx v16)) []
  rw[e,fLc_ (g:=fun _ x s3=>(ic_ s3 x).bind fun v16=>some (.nx v16)) f.ats 0 [] (fun i x z hx=>by rw[Nat.zero_add,in_,hx,ah]),h1,tLi_,So_ (by simp at h3; omega)]; rfl
 ·rw[Cs_]
  congr 1
  rw[Bool.eq_iff_iff,List.any_eq_true,a3]
  constructor
  ·rintro ⟨y,y1,y2⟩
   have:=of_decide_eq_true y2
   subst this
   rw[sBm_,h2] at y1
   exact y1.resolve_left (fun h=>by cases h)
  ·intro h
   refine⟨nameA,?_,decide_eq_true rfl⟩
   rw[sBm_,h2]; exact .inr h
end
section
def zeF:Ft:=Ft.mk (0:Int) (Tt.mk (⟨#[]⟩:ByteArray) ([])) (⟨#[]⟩:ByteArray) ([])
def bF_(F:Ft)(v:ByteArray)(d:Dt):Ft:=jF_ 5 (d.Patterns.map fun p=>F.sub v p) (fC 1)
noncomputable def lemC(v:ByteArray)(F:Ft)(d:Dt):Bool:=!F.hq&&(!F.av&&(vD_ d&&(d.Patterns.all (fun p=>F.sok v p)&&vF_ (fQ 8 nameA (bF_ F v d)))))
noncomputable def lemR(v:ByteArray)(F:Ft)(d:Dt):Ft×Bool:=bif lemC v F d then(fQ 8 nameA (bF_ F v d),true) else(zeF,false)
theorem sl_{ρ:Type}(r0:ρ)(G:Tt→Option (Ft×Bool))(S:Tt→Ft)(q:Tt→Bool):∀ (l:List Tt) (i:Nat) (acc:List Ft),(∀ p∈l,∃ r,G p=some r∧r.2=q p∧(q p=true→r.1=S p))→acc.length+l.length≤1000000→
 forL (ρ:=ρ) (fun _ p s=>(G p).bind fun v=>bif v.2 then(app s [v.1]).bind fun w=>some (.nx w) else some (.rt r0)) l i acc=some (bif l.all q then .inr (acc++l.map S) else .inl r0)
 | [],i,acc,_,_=>by rw[fLn_1]; simp
 | p::l,i,acc,h,hb=>by
  obtain⟨r,h1,h2,h3⟩:=h p (by simp)
  rw[aA] at hb
  rw[bB]
  cases hq:q p
  ·rw[fLr_ (r:=r0) (by rw[h1,ah,h2,hq]; rfl)]; rfl
  ·rw[fLn_ (s':=acc++[S p]) (by
    rw[h1,ah,h2,hq,cond_true,h3 hq]; unfold app; rw[if_pos (by simp; omega)]; rfl),sl_ r0 G S q l (i+1) _ (fun x hx=>h x (by simp[hx])) (by simp; omega),Bool.true_and,aD,aY]
   rfl
theorem ff_1{k:Nat}:∀ (r:List Ft) (x:Ft) (m:Nat),x.Ok→x.tot≤m→(∀ f∈r,f.Ok∧f.tot≤k)→(r.foldl (fun a f=>fB 5 f a) x).Ok∧(r.foldl (fun a f=>fB 5 f a) x).tot≤m+(k+2)*r.length
 | [],x,m,h1,h2,_=>⟨h1,by simpa using h2⟩
 | f::r,x,m,h1,h2,h=>by
  obtain⟨k1,k2⟩:=h f (by simp)
  obtain⟨g1,g2⟩:=ff_1 r (fB 5 f x) (m+(k+2)) (ofB_ (.inl rfl) k1 h1) (by rw[tfB_]; omega) (fun y hy=>h y (by simp[hy]))
  refine⟨g1,?_⟩
  rw[aA,Nat.mul_add,Nat.mul_one]
  rw[List.foldl_cons]; omega
theorem jf_{k:Nat}{l:List Ft}(h:∀ f∈l,f.Ok∧f.tot≤k):(jF_ 5 l (fC 1)).Ok∧(jF_ 5 l (fC 1)).tot≤(k+2)*l.length:=by
 unfold jF_
 cases e:l.reverse with
 | nil=>exact⟨ofC_ (.inl rfl),by rw[tfC_]; omega⟩
 | cons x r=>
  have hm:∀ f∈x::r,f.Ok∧f.tot≤k:=fun f hf=>h f (by rw[← List.mem_reverse,e]; exact hf)
  obtain⟨g1,g2⟩:=ff_1 r x k (hm x (by simp)).1 (hm x (by simp)).2 (fun f hf=>hm f (by simp[hf]))
  have:l.length=r.length+1:=by rw[← List.length_reverse,e,aA]
  refine⟨g1,?_⟩
  rw[this,Nat.mul_add,Nat.mul_one]
  show(r.foldl (fun a f=>fB 5 f a) x).tot≤_
  omega
theorem nAb_:Big nameA.size:=by unfold Big; exact Nat.le_of_ble_eq_true rfl
theorem nAi_:iVS_ nameA=true:=by decide
section
variable{v:ByteArray}{F:Ft}{d:Dt}
structure Uni(v:ByteArray)(F:Ft):Prop where
 ok:(fQ 8 v F).Ok
 val:vF_ (fQ 8 v F)=true
theorem Uni.u(h:Uni v F):iVS_ v=true∧F.good=true∧F.Ok∧F.cnt≤39∧F.tot≤8800∧vF_ F=true∧(fQ 8 v F).tot≤8800:=by
 obtain⟨h1,h2⟩:=vFi_ h.val
 have h3:=vFt_ h.val
 rw[cfQ_] at h1
 rcases gc_ h2 with⟨o,ho,e⟩ | ⟨t,e,ht⟩ | ⟨p,e,gp⟩ | ⟨o,p,q,ho,e,gp,gq⟩ | ⟨o,w,p,ho,e,hv,gp⟩
 ·simp only[fQ,fC,Ft.mk.injEq] at e; omega
 ·simp only[fQ,Ft.mk.injEq] at e; omega
 ·simp only[fQ,fN,Ft.mk.injEq] at e; omega
 ·simp only[fQ,fB,Ft.mk.injEq] at e; omega
 ·simp only[fQ,Ft.mk.injEq,List.cons.injEq,and_true] at e
  obtain⟨_,_,rfl,rfl⟩:=e
  have h4:=h3
  rw[tfQ_] at h4
  refine⟨hv,gp,h.ok.u.2.2.2.2 _ (by simp[fQ,FPm_]),by omega,by omega,?_,h3⟩
  unfold vF_
  rw[gp,decide_eq_true (by omega)]; rfl
theorem sf_(h:Uni v F){p:Tt}(hp:gT_ p=true):(F.sub v p).Ok∧(F.sub v p).tot≤256000:=by
 obtain⟨h1,h2,h3,h4,_⟩:=h.u
 obtain⟨g1,g2⟩:=gTi_ hp
 have:=st_2 (n:=v) g1 g2 F h2
 exact⟨sO_2 (gTO_ hp).2 g1 g2 F h3 h2,by omega⟩
theorem bf_(h:Uni v F)(hd:vD_ d=true):(bF_ F v d).Ok∧(bF_ F v d).tot≤3100000:=by
 obtain⟨d1,d2,d3,d4⟩:=vp_1 hd
 obtain⟨g1,g2⟩:=jf_ (k:=256000) (l:=d.Patterns.map fun p=>F.sub v p) (fun f hf=>by
  obtain⟨p,hp,rfl⟩:=List.mem_map.1 hf
  exact sf_ h (d3 p hp).1)
 refine⟨g1,Nat.le_trans g2 ?_⟩
 rw[aw]
 have:=Nat.mul_le_mul_left (256000+2) d1
 omega
theorem lOq_(h:Uni v F)(hA:v=nameA→F.av=true)(hd:d.Ok)(td:d.tot≤4194304):
 sLO_ (fQ 8 v F) d=some (lemR v F d)∧iLO_ (fQ 8 v F) d=some (lemR v F d):=by
 obtain⟨h1,h2,h3,h4,h5,h6,h7⟩:=h.u
 have hop:(fQ 8 v F).Op=8:=rfl
 have hpa:(fQ 8 v F).Parts=[F]:=rfl
 have hva:(fQ 8 v F).Var=v:=rfl
 have hix:idx [F] (0:Int)=some F:=rfl
 have vi:=vFi_1 (fQ 8 v F) (by omega) h.ok
 have vs:=vFs_ (fQ 8 v F) (by omega) h.ok
 rw[h.val] at vi vs
 have ho:ihO_3 F ([(8:Int),(9:Int)])=some F.hq:=le_ ⟨_,hOe_ F⟩
 have hp:slP_9 F=some (!F.hq):=le_ ⟨_,pe_ F⟩
 obtain⟨vl,i1,i2⟩:=iVe_1 h2 (by omega)
 have hoc:slO_6 (fQ 8 v F)=some F.av:=by
  have:slO_6 (fQ 8 v F)=some (fQ 8 v F).av:=le_ ⟨_,oe_2 _ h.ok (vFi_ h.val).2⟩
  rw[this]; congr 1; simp[fQ,Ft.av,Ft.avs]
 have di:=id_1 d hd td
 have ds:=gd_ d hd td
 unfold sLO_ slB_ iLO_ lemR lemC
 rw[vi,vs,hop,hpa,hva]
 simp only[ah,cond_true,decide_true,hix,ho,hp,hoc,i1,i2,di,ds]
 cases hq:F.hq with
 | true=>exact⟨rfl,rfl⟩
 | false=>
 cases hav:F.av with
 | true=>
  refine⟨?_,rfl⟩
  cases decide (v=(⟨#[65]⟩:ByteArray))<;>rfl
 | false=>
 have hvA:¬ v=(⟨#[65]⟩:ByteArray):=fun e=>by rw[hA e] at hav; cases hav
 rw[decide_eq_false hvA]
 cases hvd:vD_ d with
 | false=>exact⟨rfl,rfl⟩
 | true=>
 obtain⟨d1,d2,d3,d4⟩:=vp_1 hvd
 have Gi:∀ p∈d.Patterns,∃ r,iSF_ F v p=some r∧r.2=F.sok v p∧(F.sok v p=true→r.1=F.sub v p):=fun p hp=>by
  have g:=(d3 p hp).1
  refine⟨_,SFe_ h3 (by omega) (by have:=vs_1 h1; unfold Big; omega) (gTO_ g).2 (by have:=(gTO_ g).1; omega),?_,?_⟩
  ·unfold subst; rw[h6,h1,g]
   cases F.sok v p<;>rfl
  ·intro e; unfold subst; rw[h6,h1,g,e]; rfl
 have Gs:∀ p∈d.Patterns,∃ r,slP_4 F v p=some r∧r.2=F.sok v p∧(F.sok v p=true→r.1=F.sub v p):=fun p hp=>by
  have g:=(d3 p hp).1
  obtain⟨r,r1,r2,r3⟩:=sp_ h1 (gTi_ g).1 (gTO_ g).2 (gTi_ g).2 h3 h2 (by omega) (by omega)
  exact⟨r,r1,r2,fun e=>r3 (by rw[r2,e])⟩
 simp only[Bool.not_false,Bool.true_and,cond_true,cond_false]
 have bf:=bf_ h hvd
 have lt:(fQ 8 nameA (bF_ F v d)).tot≤4194304:=by
  rw[tfQ_]
  have:nameA.size=1:=rfl
  omega
 have lok:(fQ 8 nameA (bF_ F v d)).Ok:=ofQ_ (.inl rfl) nAb_ bf.1
 constructor
 ·have e:=fNi_ (ρ:=Ft×Bool) d.Patterns (fun _ p (s:List Ft)=>(slP_4 F v p).bind fun v61=>bif v61.2 then(app s [v61.1]).bind fun w=>some (.nx w) else some (.rt (zeF,false))) []
  unfold zeF at e
  rw[e]
  have sl:=sl_ (ρ:=Ft×Bool) (zeF,false) (fun p=>slP_4 F v p) (fun p=>F.sub v p) (fun p=>F.sok v p) d.Patterns 0 [] Gs (by simp; omega)
  unfold zeF at sl
  rw[sl]
  cases hall:d.Patterns.all (fun p=>F.sok v p)
  ·rfl
  ·rw[cond_true,tLi_,bh,je_ (fun f hf=>by
    obtain⟨p,hp,rfl⟩:=List.mem_map.1 hf
    have:=(sf_ h (d3 p hp).1).2; omega) (by simp; omega)]
   simp only[ah,cond_true,Bool.true_and]
   rw[show slG_ (Ft.mk (8:Int) (Tt.mk (⟨#[]⟩:ByteArray) ([])) (⟨#[65]⟩:ByteArray) ([jF_ 5 (d.Patterns.map fun p=>F.sub v p) (fC 1)]))=some (vF_ (fQ 8 nameA (bF_ F v d))) from vFs_ _ lt lok,ah]
   cases vF_ (fQ 8 nameA (bF_ F v d))<;>rfl
 ·have e:=fNi_ (ρ:=Ft×Bool) d.Patterns (fun _ p (s:List Ft)=>(iSF_ F v p).bind fun v61=>bif v61.2 then(app s [v61.1]).bind fun w=>some (.nx w) else some (.rt (zeF,false))) []
  unfold zeF at e
  rw[e]
  have sl:=sl_ (ρ:=Ft×Bool) (zeF,false) (fun p=>iSF_ F v p) (fun p=>F.sub v p) (fun p=>F.sok v p) d.Patterns 0 [] Gi (by simp; omega)
  unfold zeF at sl
  rw[sl]
  cases hall:d.Patterns.all (fun p=>F.sok v p)
  ·rfl
  ·rw[cond_true,tLi_,bh]
   show aa (iiF_ (fQ 8 nameA (bF_ F v d))) _=_
   unfold iiF_
   rw[vFi_1 _ lt lok,ah,Bool.true_and]
   cases vF_ (fQ 8 nameA (bF_ F v d))<;>rfl
end
theorem lOn_{f:Ft}{d:Dt}(hok:f.Ok)(ht:f.tot≤4194304)(h:¬ (vF_ f=true∧f.Op=8)):sLO_ f d=some (zeF,false)∧iLO_ f d=some (zeF,false):=by
 unfold sLO_ slB_ iLO_
 rw[vFi_1 f ht hok,vFs_ f ht hok,ah,ah]
 cases hv:vF_ f
 ·exact⟨rfl,rfl⟩
 ·have:¬ f.Op=8:=fun e=>h ⟨hv,e⟩
  rw[decide_eq_false this]; exact⟨rfl,rfl⟩
end
section
noncomputable def insR(v:ByteArray)(F:Ft)(d:Dt):List Ft×Bool:=
 bif lemC v F d&&d.Instances.all (fun t=>(bF_ F v d).sok nameA t) then(d.Instances.map (fun t=>(bF_ F v d).sub nameA t),true) else([],false)
theorem il_1{ρ:Type}(r0:ρ)(G:Tt→Option (Ft×Bool))(S:Tt→Ft)(q:Tt→Bool):∀ (l:List Tt) (i:Nat) (acc:List Ft),(∀ p∈l,(S p).tot≤4194304∧(S p).Ok∧(q p=true→vF_ (S p)=true)∧∃ r,G p=some r∧r.2=q p∧(q p=true→r.1=S p))→acc.length+l.length≤1000000→
 forL (ρ:=ρ) (fun _ p s=>(G p).bind fun v=>bif v.2 then(slG_ v.1).bind fun v46=>bif v46 then(slO_1 v.1).bind fun v52=>(app s [v52]).bind fun w=>some (.nx w) else some (.rt r0) else some (.rt r0)) l i acc=some (bif l.all q then .inr (acc++l.map S) else .inl r0)
 | [],i,acc,_,_=>by rw[fLn_1]; simp
 | p::l,i,acc,h,hb=>by
  obtain⟨t1,t2,t3,r,h1,h2,h3⟩:=h p (by simp)
  rw[aA] at hb
  rw[bB]
  cases hq:q p
  ·rw[fLr_ (r:=r0) (by rw[h1,ah,h2,hq]; rfl)]; rfl
  ·rw[fLn_ (s':=acc++[S p]) (by
    rw[h1,ah,h2,hq,cond_true,h3 hq,vFs_ _ t1 t2,t3 hq,ah,cond_true,ownF _ t1,ah]; unfold app; rw[if_pos (by simp; omega)]; rfl),il_1 r0 G S q l (i+1) _ (fun x hx=>h x (by simp[hx])) (by simp; omega),Bool.true_and,aD,aY]
   rfl
section
variable{v:ByteArray}{F:Ft}{d:Dt}
structure Lem(v:ByteArray)(F:Ft)(d:Dt):Prop where
 hq:F.hq=false
 av:F.av=false
 vd:vD_ d=true
 sok:∀ p∈d.Patterns,F.sok v p=true
 val:vF_ (fQ 8 nameA (bF_ F v d))=true
theorem li_1:lemC v F d=true↔Lem v F d:=by
 unfold lemC
 simp only[aq,Bool.not_eq_true',ba]
 exact⟨fun ⟨a,b,c,e,f⟩=>⟨a,b,c,e,f⟩,fun h=>⟨h.hq,h.av,h.vd,h.sok,h.val⟩⟩
theorem Lu_(h:Lem v F d)(hu:Uni v F):Uni nameA (bF_ F v d):=⟨ofQ_ (.inl rfl) nAb_ (bf_ hu h.vd).1,h.val⟩
theorem iq_1(h:Uni v F)(hA:v=nameA→F.av=true)(hd:d.Ok)(td:d.tot≤4194304):
 sLI_ (fQ 8 v F) d=some (insR v F d)∧iLI_ (fQ 8 v F) d=some (insR v F d):=by
 obtain⟨e1,e2⟩:=lOq_ h hA hd td
 unfold sLI_ iLI_ insR
 rw[e1,e2]
 unfold lemR
 cases hl:lemC v F d with
 | false=>exact⟨rfl,rfl⟩
 | true=>
 have L:=li_1.1 hl
 have U:=Lu_ L h
 obtain⟨h1,h2,h3,h4,h5,h6,h7⟩:=U.u
 obtain⟨d1,d2,d3,d4⟩:=vp_1 L.vd
 have hpa:(fQ 8 nameA (bF_ F v d)).Parts=[bF_ F v d]:=rfl
 have hix:idx [bF_ F v d] (0:Int)=some (bF_ F v d):=rfl
 simp only[ah,cond_true,Bool.true_and,hpa,hix]
 have fine:∀ t∈d.Instances,((bF_ F v d).sub nameA t).Ok∧((bF_ F v d).sub nameA t).tot≤256000:=fun t ht=>sf_ U (d4 t ht)
 have Gs:∀ t∈d.Instances,((bF_ F v d).sub nameA t).tot≤4194304∧((bF_ F v d).sub nameA t).Ok∧((bF_ F v d).sok nameA t=true→vF_ ((bF_ F v d).sub nameA t)=true)∧∃ r,slP_4 (bF_ F v d) nameA t=some r∧r.2=(bF_ F v d).sok nameA t∧((bF_ F v d).sok nameA t=true→r.1=(bF_ F v d).sub nameA t):=fun t ht=>by
  have g:=d4 t ht
  obtain⟨r,r1,r2,r3⟩:=sp_ h1 (gTi_ g).1 (gTO_ g).2 (gTi_ g).2 h3 h2 (by omega) (by omega)
  exact⟨by have:=(fine t ht).2; omega,(fine t ht).1,fun e=>by rw[sv_ h6 (sc_ _ e),e],r,r1,r2,fun e=>r3 (by rw[r2,e])⟩
 have Gi:∀ t∈d.Instances,∃ r,iSF_ (bF_ F v d) nameA t=some r∧r.2=(bF_ F v d).sok nameA t∧((bF_ F v d).sok nameA t=true→r.1=(bF_ F v d).sub nameA t):=fun t ht=>by
  have g:=d4 t ht
  refine⟨_,SFe_ h3 (by omega) nAb_ (gTO_ g).2 (by have:=(gTO_ g).1; omega),?_,?_⟩
  ·unfold subst; rw[h6,h1,g]
   cases (bF_ F v d).sok nameA t<;>rfl
  ·intro e; unfold subst; rw[h6,h1,g,e]; rfl
 constructor
 ·have e:=fNi_ (ρ:=List Ft×Bool) d.Instances (fun _ p (s:List Ft)=>(slP_4 (bF_ F v d) nameA p).bind fun v=>bif v.2 then(slG_ v.1).bind fun v46=>bif v46 then(slO_1 v.1).bind fun v52=>(app s [v52]).bind fun w=>some (.nx w) else some (.rt ([],false)) else some (.rt ([],false))) []
  have sl:=il_1 (ρ:=List Ft×Bool) ([],false) (fun p=>slP_4 (bF_ F v d) nameA p) (fun t=>(bF_ F v d).sub nameA t) (fun t=>(bF_ F v d).sok nameA t) d.Instances 0 [] Gs (by simp; omega)
  refine(congrArg (fun z=>thenL z _) (e.trans sl)).trans ?_
  cases d.Instances.all (fun t=>(bF_ F v d).sok nameA t)<;>rfl
 ·have e:=fNi_ (ρ:=List Ft×Bool) d.Instances (fun _ p (s:List Ft)=>(iSF_ (bF_ F v d) nameA p).bind fun v61=>bif v61.2 then(app s [v61.1]).bind fun w=>some (.nx w) else some (.rt ([],false))) []
  have sl:=sl_ (ρ:=List Ft×Bool) ([],false) (fun p=>iSF_ (bF_ F v d) nameA p) (fun t=>(bF_ F v d).sub nameA t) (fun t=>(bF_ F v d).sok nameA t) d.Instances 0 [] Gi (by simp; omega)
  refine(congrArg (fun z=>thenL z _) (e.trans sl)).trans ?_
  cases d.Instances.all (fun t=>(bF_ F v d).sok nameA t)<;>rfl
end
theorem in_1{f:Ft}{d:Dt}(hok:f.Ok)(ht:f.tot≤4194304)(h:¬ (vF_ f=true∧f.Op=8)):sLI_ f d=some ([],false)∧iLI_ f d=some ([],false):=by
 obtain⟨h1,h2⟩:=lOn_ (d:=d) hok ht h
 unfold sLI_ iLI_
 rw[h1,h2]; exact⟨rfl,rfl⟩
theorem tf_(H:vt→Tt→Bool)(n:Nat)(e:vt):∀ (r:List Ft) (x:Ft),(r.foldl (fun a f=>fB 5 f a) x).tv H n e=(x.tv H n e&&r.all (fun f=>f.tv H n e))
 | [],x=>by simp
 | f::r,x=>by
  rw[List.foldl_cons,tf_ H n e r,tb_,bB]
  cases f.tv H n e<;>cases x.tv H n e<;>simp
theorem tj_(H:vt→Tt→Bool)(n:Nat)(e:vt)(l:List Ft):(jF_ 5 l (fC 1)).tv H n e=l.all (fun f=>f.tv H n e):=by
 have h:l.all (fun f=>f.tv H n e)=l.reverse.all (fun f=>f.tv H n e):=by rw[List.all_reverse]
 unfold jF_
 rw[h]
 cases l.reverse with
 | nil=>exact tc_ H n e
 | cons x r=>exact tf_ H n e r x
theorem hf_:∀ (r:List Ft) (x:Ft),x.hq=false→(∀ f∈r,f.hq=false)→(r.foldl (fun a f=>fB 5 f a) x).hq=false
 | [],x,h,_=>h
 | f::r,x,h,hr=>hf_ r (fB 5 f x) (by rw[hfB_ (.inl rfl),hr f (by simp),h]; rfl) (fun g hg=>hr g (by simp[hg]))
theorem hj_{l:List Ft}(h:∀ f∈l,f.hq=false):(jF_ 5 l (fC 1)).hq=false:=by
 unfold jF_
 cases e:l.reverse with
 | nil=>rfl
 | cons x r=>
  have hm:∀ f∈x::r,f.hq=false:=fun f hf=>h f (by rw[← List.mem_reverse,e]; exact hf)
  exact hf_ r x (hm x (by simp)) fun f hf=>hm f (by simp[hf])
theorem hs_(x:ByteArray)(t:Tt)(f:Ft):f.good=true→f.hq=false→(f.sub x t).hq=false:=by
 refine bk (M:=fun f=>f.good=true→f.hq=false→(f.sub x t).hq=false) (fun f ih hg hq=>?_) f
 rcases gc_ hg with⟨o,ho,rfl⟩ | ⟨a,rfl,ha⟩ | ⟨p,rfl,gp⟩ | ⟨o,p,q,ho,rfl,gp,gq⟩ | ⟨o,v,p,ho,rfl,hv,gp⟩
 ·rw[sfC_ ho]; exact hq
 ·rw[sfA_]; simp[Ft.hq,Ft.hqs]
 ·rw[sfN_,hfN_]; exact ih p (by simp[fN,FPm_]) gp (by rw[hfN_] at hq; exact hq)
 ·rw[hfB_ ho,bH] at hq
  rw[sfB_ ho,hfB_ ho,ih p (by simp[fB,FPm_]) gp hq.1,ih q (by simp[fB,FPm_]) gq hq.2]; rfl
 ·rw[hfQ_ ho] at hq; cases hq
end
section
structure FS(f:Ft):Prop where
 good:f.good=true
 ok:f.Ok
 tot:f.tot≤4194304
 cnt:f.cnt≤1000
theorem tvOk{c:List Int}(hc:B_ c){n:Nat}(hn:1≤n)(hn2:n≤1000){e:vt}(he:EOk n e)(hl:e.names.length≤1000){f:Ft}(hf:FS f):vT_ c (n:Int) e f=some (f.tv (HH c n) n e):=
 le_ ⟨_,fun m hm=>vTe_ hn2 (H:=HH c n) (fun e he hl t _ ht=>Ho_ hc hn hn2 he hl t ht) f hf.good hf.ok hf.tot e he (by have:=hf.cnt; omega) m hm⟩
theorem al_1{ρ:Type}(G:Ft→Option Bool)(q:Ft→Bool):∀ (l:List Ft) (i:Nat) (s:Bool),(∀ f∈l,G f=some (q f))→
 forL (ρ:=ρ) (fun i f (s:Bool)=>bif s then aa (G f) fun v=>some (.nx v) else some (.nx false)) l i s=some (.inr (s&&l.all q))
 | [],i,s,_=>by rw[fLn_1]; simp
 | f::l,i,s,h=>by
  rw[fLn_ (s':=s&&q f) (by cases s<;>first | rfl | (rw[cond_true,h f (by simp)]; rfl)),al_1 G q l (i+1) _ (fun x hx=>h x (by simp[hx])),bB,Bool.and_assoc]
theorem ol_1{ρ:Type}(G:Ft→Option Bool)(q:Ft→Bool):∀ (l:List Ft) (i:Nat) (s:Bool),(∀ f∈l,G f=some (q f))→
 forL (ρ:=ρ) (fun i f (s:Bool)=>bif s then some (.nx true) else aa (G f) fun v=>some (.nx v)) l i s=some (.inr (s||l.any q))
 | [],i,s,_=>by rw[fLn_1]; simp
 | f::l,i,s,h=>by
  rw[fLn_ (s':=s||q f) (by cases s<;>first | rfl | (rw[cond_false,h f (by simp)]; rfl)),ol_1 G q l (i+1) _ (fun x hx=>h x (by simp[hx])),List.any_cons,Bool.or_assoc]
theorem fNi_2{α ρ σ:Type}(xs:List α)(g:Nat→α→σ→Option (Flow ρ σ)){f:Nat→σ→Option (Flow ρ σ)}(s:σ)(h:∀ i,i<xs.length→∀ s,f i s=(match xs[i]? with | some x=>g i x s | none=>none)):forN f xs.length 0 s=forL g xs 0 s:=by
 rw[← fNi_ xs g s]
 refine fNc_ xs.length 0 s fun j t _ hj=>?_
 rw[h j (by omega),in_]
 cases xs[j]?<;>rfl
theorem rSo_{c:List Int}(hc:B_ c){L R:List Ft}(hL:∀ f∈L,FS f)(hR:∀ f∈R,FS f)
 (h:∀ n,1≤n→n≤3→∀ e,EOk n e→e.names.length=4→(∀ f∈L,f.tv (HH c n) n e=true)→∃ g∈R,g.tv (HH c n) n e=true):rS_1 c (Sa.mk L R)=some true:=by
 unfold rS_1
 refine(congrArg (fun z=>thenL z _) (fi_ (ρ:=Bool) (fun _=>()) (4-1) 1 fun n h1 h2=>?_)).trans rfl
 have hn3:n≤3:=by omega
 rw[bn_ (by unfold Big; omega),ah]
 refine(congrArg (fun z=>thenL z _) (fi_ (ρ:=Flow Bool Unit) (fun _=>()) n 0 fun k _ hk=>?_)).trans rfl
 obtain⟨a,a1,a2,a3⟩:=vAo_ hc (i:=(k:Int)) (by omega) (by omega)
 obtain⟨b,b1,b2,b3⟩:=vAo_ hc (i:=(k:Int)+1) (by omega) (by omega)
 obtain⟨d,d1,d2,d3⟩:=vAo_ hc (i:=(k:Int)+2) (by omega) (by omega)
 obtain⟨a',a4,a5,a6⟩:=rl_1 (x:=a) (m:=(n:Int)) a2 (by omega)
 obtain⟨b',b4,b5,b6⟩:=rl_1 (x:=b) (m:=(n:Int)) b2 (by omega)
 obtain⟨d',d4,d5,d6⟩:=rl_1 (x:=d) (m:=(n:Int)) d2 (by omega)
 rw[w_ (n:=(k:Int)+1) (by omega) (by omega),w_ (n:=(k:Int)+2) (by omega) (by omega),a1,ah,a4,ah,b1,ah,b4,ah,d1,ah,d4,ah]
 have he:EOk n (vt.mk ([(⟨#[88]⟩:ByteArray),(⟨#[89]⟩:ByteArray),(⟨#[90]⟩:ByteArray),(⟨#[85]⟩:ByteArray)]) ([(k:Int),a',b',d'])):=⟨rfl,fun v hv=>by
  simp only[aU,List.not_mem_nil,or_false] at hv
  rcases hv with rfl | rfl | rfl | rfl<;>omega⟩
 have hh:=h n h1 hn3 _ he rfl
 have hl:(vt.mk ([(⟨#[88]⟩:ByteArray),(⟨#[89]⟩:ByteArray),(⟨#[90]⟩:ByteArray),(⟨#[85]⟩:ByteArray)]) ([(k:Int),a',b',d'])).names.length≤1000:=by show 4≤1000; omega
 generalize (vt.mk ([(⟨#[88]⟩:ByteArray),(⟨#[89]⟩:ByteArray),(⟨#[90]⟩:ByteArray),(⟨#[85]⟩:ByteArray)]) ([(k:Int),a',b',d']))=e at he hh hl
 have l1:=(fNi_2 (ρ:=Flow (Flow Bool Unit) Unit) L (fun _ f (s:Bool)=>bif s then aa (vT_ c (n:Int) e f) fun v=>some (.nx v) else some (.nx false)) (f:=fun (i10:Nat) (s10:Bool)=>bif s10 then aa (idx L (i10:Int)) fun v57=>aa (vT_ c (n:Int) e v57) fun v59=>some (.nx v59) else some (.nx false)) true (fun i hi s=>by
  rw[List.getElem?_eq_getElem hi,in_,List.getElem?_eq_getElem hi]; rfl)).trans (al_1 (fun f=>vT_ c (n:Int) e f) (fun f=>f.tv (HH c n) n e) L 0 true fun f hf=>tvOk hc h1 (by omega) he hl (hL f hf))
 have l2:=(fNi_2 (ρ:=Flow (Flow Bool Unit) Unit) R (fun _ f (s:Bool)=>bif s then some (.nx true) else aa (vT_ c (n:Int) e f) fun v=>some (.nx v)) (f:=fun (i14:Nat) (s14:Bool)=>bif s14 then some (.nx true) else aa (idx R (i14:Int)) fun v76=>aa (vT_ c (n:Int) e v76) fun v78=>some (.nx v78)) false (fun i hi s=>by
  rw[List.getElem?_eq_getElem hi,in_,List.getElem?_eq_getElem hi]; rfl)).trans (ol_1 (fun f=>vT_ c (n:Int) e f) (fun f=>f.tv (HH c n) n e) R 0 false fun f hf=>tvOk hc h1 (by omega) he hl (hR f hf))
 refine(congrArg (fun z=>thenL z _) l1).trans ?_
 rw[tLi_]
 refine(congrArg (fun z=>thenL z _) l2).trans ?_
 rw[tLi_,Bool.true_and,Bool.false_or]
 cases q:L.all (fun f=>f.tv (HH c n) n e)
 ·rfl
 ·obtain⟨g,g1,g2⟩:=hh (fun f hf=>List.all_eq_true.1 q f hf)
  rw[show R.any (fun f=>f.tv (HH c n) n e)=true from List.any_eq_true.2 ⟨g,g1,g2⟩]; rfl
end
section
section
variable{c:List Int}{n:Nat}{e:vt}{v:ByteArray}{F:Ft}{d:Dt}
theorem pt_(hc:B_ c)(hn:1≤n)(hn2:n≤1000)(he:EOk n e)(hl:e.names.length≤900)(U:Uni v F)(hq:F.hq=false)(hav:F.av=false){w:Nat}(hw:w<n){p:Tt}(hp:gT_ p=true):
 (F.sub v p).tv (HH c n) n (e_2 e nameA w)=F.tv (HH c n) n (e_2 e v (p.vl (gt (e_2 e nameA w)) (mxv c n)).toNat):=by
 obtain⟨h1,h2,h3,_⟩:=U.u
 have heA:=he.with nameA hw
 have hlA:(e_2 e nameA w).names.length≤1000:=by simp[e_2]; omega
 obtain⟨_,v0,v1⟩:=veN_ hc hn hn2 heA (by omega) p (gTi_ hp).1 (by have:=(gTO_ hp).1; omega)
 rw[ts_ (fun a ha=>as_1 hc hn hn2 heA hlA h1 hp ha) F h2 hq]
 have hr:(p.vl (gt (e_2 e nameA w)) (mxv c n)).toNat<n:=by omega
 refine tf_1 (fun a ha hv=>af_ hc hn hn2 (heA.with v hr) (by simp[e_2]; omega) (he.with v hr) (by simp[e_2]; omega) (fun y hy=>?_) ha hv) F h2 hq hav
 rw[gw_ heA (by simp[e_2]; omega) v _ y,gw_ he (by omega) v _ y]
 by_cases e1:y=v
 ·rw[if_pos e1,if_pos e1]
 ·rw[if_neg e1,if_neg e1,gw_ he (by omega) nameA _ y,if_neg hy]
theorem bt_(H:vt→Tt→Bool)(e:vt):(bF_ F v d).tv H n e=d.Patterns.all (fun p=>(F.sub v p).tv H n e):=by
 unfold bF_
 rw[tj_,List.all_map]; rfl
theorem e_3(hc:B_ c)(hn:1≤n)(hn2:n≤1000)(he:EOk n e)(hl:e.names.length≤900)(U:Uni v F)(L:Lem v F d)(h:(fQ 8 v F).tv (HH c n) n e=true):(fQ 8 nameA (bF_ F v d)).tv (HH c n) n e=true:=by
 rw[tq_,ba] at h ⊢
 intro w hw
 have hw:w<n:=List.mem_range.1 hw
 rw[bt_,ba]
 intro p hp
 have hg:=((vp_1 L.vd).2.2.1 p hp).1
 rw[pt_ hc hn hn2 he hl U L.hq L.av hw hg]
 have heA:=he.with nameA hw
 obtain⟨_,v0,v1⟩:=veN_ hc hn hn2 heA (by simp[e_2]; omega) p (gTi_ hg).1 (by have:=(gTO_ hg).1; omega)
 exact h _ (List.mem_range.2 (by omega))
theorem it_(hc:B_ c)(hn:1≤n)(hn2:n≤1000)(he:EOk n e)(hl:e.names.length≤900)(U:Uni v F)(L:Lem v F d)(hne:d.Instances≠[]){t:Tt}(ht:t∈G0 d)(hgt:gT_ t=true)
 (h:∀ i∈d.Instances,((bF_ F v d).sub nameA i).tv (HH c n) n e=true):(F.sub v t).tv (HH c n) n e=true:=by
 obtain⟨h1,h2,h3,_⟩:=U.u
 obtain⟨d1,d2,d3,d4⟩:=vp_1 L.vd
 have UB:=Lu_ L U
 obtain⟨_,b2,_⟩:=UB.u
 have hqB:(bF_ F v d).hq=false:=hj_ fun f hf=>by
  obtain⟨p,hp,rfl⟩:=List.mem_map.1 hf
  exact hs_ v p F h2 L.hq
 have hl':e.names.length≤1000:=by omega
 -- what one instance says
 have one:∀ i∈d.Instances,∀ p∈d.Patterns,F.tv (HH c n) n (e_2 e v (p.vl (gt (e_2 e nameA (i.vl (gt e) (mxv c n)).toNat)) (mxv c n)).toNat)=true:=fun i hi p hp=>by
  have gi:=d4 i hi
  obtain⟨_,v0,v1⟩:=veN_ hc hn hn2 he (by omega) i (gTi_ gi).1 (by have:=(gTO_ gi).1; omega)
  have:=h i hi
  rw[ts_ (fun a ha=>as_1 hc hn hn2 he hl' nAi_ gi ha) _ b2 hqB,bt_,ba] at this
  have:=this p hp
  rwa [pt_ hc hn hn2 he hl U L.hq L.av (by omega) (d3 p hp).1] at this
 rw[ts_ (fun a ha=>as_1 hc hn hn2 he hl' h1 hgt ha) F h2 L.hq]
 unfold G0 at ht
 obtain⟨p,hp,htp⟩:=List.mem_flatMap.1 ht
 have gp:=(d3 p hp).1
 -- the value of the term is that of the pattern
 have same:∀ i∈d.Instances,(hasV nameA p.vars=true→t=sbT nameA i p)→(hasV nameA p.vars=false→t=p)→t.vl (gt e) (mxv c n)=p.vl (gt (e_2 e nameA (i.vl (gt e) (mxv c n)).toNat)) (mxv c n):=fun i hi k1 k2=>by
  have gi:=d4 i hi
  obtain⟨_,v0,v1⟩:=veN_ hc hn hn2 he (by omega) i (gTi_ gi).1 (by have:=(gTO_ gi).1; omega)
  have hgw:=fun y=>gw_ he (by omega) nameA (i.vl (gt e) (mxv c n)).toNat y
  cases hv:hasV nameA p.vars
  ·rw[k2 hv]
   refine vc_1 p (gTi_ gp).1 fun y hy=>?_
   rw[hgw,if_neg (fun e=>by rw[e,← hVi_,hv] at hy; cases hy)]
  ·rw[k1 hv,vs_3 nAi_ i _ _ p (gTi_ gp).1]
   refine vc_1 p (gTi_ gp).1 fun y hy=>?_
   rw[hgw]
   by_cases e1:y=nameA
   ·rw[if_pos e1,if_pos e1]; omega
   ·rw[if_neg e1,if_neg e1]
 unfold gens at htp
 cases hv:hasV nameA p.vars
 ·rw[hv,cond_false] at htp
  obtain⟨i,is,ei⟩:∃ i is,d.Instances=i::is:=by
   cases hd:d.Instances with
   | nil=>exact(hne hd).elim
   | cons i is=>exact⟨i,is,rfl⟩
  have hi:i∈d.Instances:=by rw[ei]; simp
  rw[same i hi (fun e=>by rw[hv] at e; cases e) (fun _=>List.mem_singleton.1 htp)]
  exact one i hi p hp
 ·rw[hv,cond_true] at htp
  obtain⟨i,hi,rfl⟩:=List.mem_map.1 htp
  rw[same i hi (fun _=>rfl) (fun e=>by rw[hv] at e; cases e)]
  exact one i hi p hp
end
theorem sSo_{v:ByteArray}{F:Ft}(U:Uni v F){t:Tt}(ht:t.Ok)(htt:t.tot≤4194304):∃ r,sSF_ F v t=some r∧(r.2=true→gT_ t=true∧r.1=F.sub v t∧vF_ (F.sub v t)=true):=by
 obtain⟨h1,h2,h3,h4,h5,h6,_⟩:=U.u
 unfold sSF_
 rw[vFs_ F (by omega) h3,h6,lVe_ v (by have:=vs_1 h1; unfold Big; omega),h1,lGo_ t htt ht]
 simp only[ah,cond_true]
 cases g:gT_ t
 ·exact⟨_,rfl,fun e=>(nomatch e)⟩
 ·obtain⟨r,r1,r2,r3⟩:=sp_ h1 (gTi_ g).1 (gTO_ g).2 (gTi_ g).2 h3 h2 (by omega) (by omega)
  rw[cond_true,r1,ah]
  cases e:r.2
  ·exact⟨_,rfl,fun e=>(nomatch e)⟩
  ·exact⟨_,rfl,fun _=>⟨rfl,r3 e,by rw[sv_ h6 (sc_ _ (r2▸e)),← r2,e]⟩⟩
end
section
def pq3:Nat→ByteArray→Int→Option (Tt×Int)
 | 0,_,_=>none
 | n+1,a0,a1=>
  thenL (ρ:=(Tt×Int)) (σ:=Int) (whileN (fun (s2:Int)=>
   bif decide (s2<(a0.size:Int)) then
    aa (sidx a0 s2) fun v18=>
    aa (slW_ v18) fun v19=>
    bif v19 then
     some (.nx (IntKind.i64.wrap (s2+(1:Int))))
    else
     some (.br s2)
   else
    some (.br s2)) 60 a1) fun s2=>
  aa (sslc a0 a1 s2) fun v26=>
  bif decide (s2=a1) then
   some ((Tt.mk v26 ([])),(-1:Int))
  else
   bif decide (s2=(a0.size:Int)) then
    some ((Tt.mk v26 ([])),s2)
   else
    aa (sidx a0 s2) fun v39=>
    bif decide (v39=(40:Int)) then
     thenL (ρ:=(Tt×Int)) (σ:=Int×(List Tt)) (whileN (fun (s9:Int×(List Tt))=>
      aa (pq3 n a0 (IntKind.i64.wrap (s9.1+(1:Int)))) fun v48=>
      bif decide (v48.2<(0:Int)) then
       some (.rt ((Tt.mk v26 s9.2),(-1:Int)))
      else
       bif decide (v48.2=(a0.size:Int)) then
        some (.rt ((Tt.mk v26 s9.2),(-1:Int)))
       else
        aa (sidx a0 v48.2) fun v62=>
        bif decide (v62=(44:Int)) then
         aa (app s9.2 ([v48.1])) fun v76=>
         aa (sidx a0 v48.2) fun v81=>
         bif decide (v81=(41:Int)) then
          some (.rt ((Tt.mk v26 v76),IntKind.i64.wrap (v48.2+(1:Int))))
         else
          some (.nx (v48.2,v76))
        else
         aa (sidx a0 v48.2) fun v67=>
         bif decide (v67=(41:Int)) then
          aa (app s9.2 ([v48.1])) fun v76=>
          aa (sidx a0 v48.2) fun v81=>
          bif decide (v81=(41:Int)) then
           some (.rt ((Tt.mk v26 v76),IntKind.i64.wrap (v48.2+(1:Int))))
          else
           some (.nx (v48.2,v76))
         else
          some (.rt ((Tt.mk v26 s9.2),(-1:Int)))) 60 (s2,[])) fun s9=>
     none
    else
     some ((Tt.mk v26 ([])),s2)
def pqS(a0:ByteArray)(a1:Int):Option (Ft×Int):=
 aa (pq3 30 a0 a1) fun v13=>
 bif decide (v13.2<(0:Int)) then
  some ((Ft.mk (0:Int) (Tt.mk (⟨#[]⟩:ByteArray) ([])) (⟨#[]⟩:ByteArray) ([])),(-1:Int))
 else
  aa (slS_ a0 v13.2 (⟨#[32,61,32]⟩:ByteArray)) fun v21=>
  bif v21 then
   aa (pq3 30 a0 (IntKind.i64.wrap (v13.2+(3:Int)))) fun v26=>
   some ((Ft.mk (3:Int) (Tt.mk (⟨#[61]⟩:ByteArray) ([v13.1,v26.1])) (⟨#[]⟩:ByteArray) ([])),v26.2)
  else
   bif decide ((v13.1.Args.length:Int)=(0:Int)) then
    bif decide (v13.1.Name=(⟨#[116,114,117,101]⟩:ByteArray)) then
     some ((Ft.mk (1:Int) (Tt.mk (⟨#[]⟩:ByteArray) ([])) (⟨#[]⟩:ByteArray) ([])),v13.2)
    else
     bif decide (v13.1.Name=(⟨#[102,97,108,115,101]⟩:ByteArray)) then
      some ((Ft.mk (2:Int) (Tt.mk (⟨#[]⟩:ByteArray) ([])) (⟨#[]⟩:ByteArray) ([])),v13.2)
     else
      some ((Ft.mk (3:Int) v13.1 (⟨#[]⟩:ByteArray) ([])),v13.2)
   else
    some ((Ft.mk (3:Int) v13.1 (⟨#[]⟩:ByteArray) ([])),v13.2)
mutual
def pqR:Nat→ByteArray→Int→Option (Ft×Int)
 | 0,_,_=>none
 | n+1,a0,a1=>
  aa (slS_ a0 a1 (⟨#[97,108,108,32]⟩:ByteArray)) fun v15=>
  bif v15 then
   aa (pqQ n a0 (IntKind.i64.wrap (a1+(4:Int))) (8:Int)) fun v19=>
   some (v19.1,v19.2)
  else
   aa (slS_ a0 a1 (⟨#[115,111,109,101,32]⟩:ByteArray)) fun v25=>
   bif v25 then
    aa (pqQ n a0 (IntKind.i64.wrap (a1+(5:Int))) (9:Int)) fun v29=>
    some (v29.1,v29.2)
   else
    aa (slS_ a0 a1 (⟨#[126,40]⟩:ByteArray)) fun v35=>
    bif v35 then
     aa (pqS a0 (IntKind.i64.wrap (a1+(2:Int)))) fun v40=>
     bif decide ((0:Int)≤v40.2) then
      bif decide (v40.1.Op=(3:Int)) then
       bif decide (v40.1.Atom.Name=(⟨#[61]⟩:ByteArray)) then
        aa (slS_ a0 v40.2 (⟨#[41]⟩:ByteArray)) fun v59=>
        bif v59 then
         some ((Ft.mk (4:Int) (Tt.mk (⟨#[]⟩:ByteArray) ([])) (⟨#[]⟩:ByteArray) ([v40.1])),IntKind.i64.wrap (v40.2+(1:Int)))
        else
         aa (pqP n a0 (IntKind.i64.wrap (a1+(1:Int)))) fun v70=>
         some ((Ft.mk (4:Int) (Tt.mk (⟨#[]⟩:ByteArray) ([])) (⟨#[]⟩:ByteArray) ([v70.1])),v70.2)
       else
        aa (pqP n a0 (IntKind.i64.wrap (a1+(1:Int)))) fun v70=>
        some ((Ft.mk (4:Int) (Tt.mk (⟨#[]⟩:ByteArray) ([])) (⟨#[]⟩:ByteArray) ([v70.1])),v70.2)
      else
       aa (pqP n a0 (IntKind.i64.wrap (a1+(1:Int)))) fun v70=>
       some ((Ft.mk (4:Int) (Tt.mk (⟨#[]⟩:ByteArray) ([])) (⟨#[]⟩:ByteArray) ([v70.1])),v70.2)
     else
      aa (pqP n a0 (IntKind.i64.wrap (a1+(1:Int)))) fun v70=>
      some ((Ft.mk (4:Int) (Tt.mk (⟨#[]⟩:ByteArray) ([])) (⟨#[]⟩:ByteArray) ([v70.1])),v70.2)
    else
     aa (slS_ a0 a1 (⟨#[126]⟩:ByteArray)) fun v80=>
     bif v80 then
      aa (pqR n a0 (IntKind.i64.wrap (a1+(1:Int)))) fun v85=>
      some ((Ft.mk (4:Int) (Tt.mk (⟨#[]⟩:ByteArray) ([])) (⟨#[]⟩:ByteArray) ([v85.1])),v85.2)
     else
      aa (slS_ a0 a1 (⟨#[40]⟩:ByteArray)) fun v95=>
      bif v95 then
       aa (pqP n a0 a1) fun v98=>
       some (v98.1,v98.2)
      else
       aa (pqS a0 a1) fun v103=>
       some (v103.1,v103.2)
def pqQ:Nat→ByteArray→Int→Int→Option (Ft×Int)
 | 0,_,_,_=>none
 | n+1,a0,a1,a2=>
  thenL (ρ:=(Ft×Int)) (σ:=Int) (whileN (fun (s2:Int)=>
   bif decide (s2<(a0.size:Int)) then
    aa (sidx a0 s2) fun v19=>
    aa (slW_ v19) fun v20=>
    bif v20 then
     some (.nx (IntKind.i64.wrap (s2+(1:Int))))
    else
     some (.br s2)
   else
    some (.br s2)) 60 a1) fun s2=>
  bif decide (s2=(a0.size:Int)) then
   some ((Ft.mk (0:Int) (Tt.mk (⟨#[]⟩:ByteArray) ([])) (⟨#[]⟩:ByteArray) ([])),(-1:Int))
  else
   aa (sidx a0 s2) fun v31=>
   bif decide (v31=(46:Int)) then
    aa (pqR n a0 (IntKind.i64.wrap (s2+(1:Int)))) fun v39=>
    aa (sslc a0 a1 s2) fun v46=>
    some ((Ft.mk a2 (Tt.mk (⟨#[]⟩:ByteArray) ([])) v46 ([v39.1])),v39.2)
   else
    some ((Ft.mk (0:Int) (Tt.mk (⟨#[]⟩:ByteArray) ([])) (⟨#[]⟩:ByteArray) ([])),(-1:Int))
def pqP:Nat→ByteArray→Int→Option (Ft×Int)
 | 0,_,_=>none
 | n+1,a0,a1=>
  aa (pqR n a0 (IntKind.i64.wrap (a1+(1:Int)))) fun v16=>
  bif decide (v16.2<(0:Int)) then
   some ((Ft.mk (0:Int) (Tt.mk (⟨#[]⟩:ByteArray) ([])) (⟨#[]⟩:ByteArray) ([])),(-1:Int))
  else
   aa (slS_ a0 v16.2 (⟨#[32,38,32]⟩:ByteArray)) fun v26=>
   bif v26 then
    aa (pqR n a0 (IntKind.i64.wrap (v16.2+(3:Int)))) fun v40=>
    bif decide (v40.2<(0:Int)) then
     some ((Ft.mk (0:Int) (Tt.mk (⟨#[]⟩:ByteArray) ([])) (⟨#[]⟩:ByteArray) ([])),(-1:Int))
    else
     bif decide (v40.2=(a0.size:Int)) then
      some ((Ft.mk (0:Int) (Tt.mk (⟨#[]⟩:ByteArray) ([])) (⟨#[]⟩:ByteArray) ([])),(-1:Int))
     else
      aa (sidx a0 v40.2) fun v54=>
      bif decide (v54=(41:Int)) then
       some ((Ft.mk (5:Int) (Tt.mk (⟨#[]⟩:ByteArray) ([])) (⟨#[]⟩:ByteArray) ([v16.1,v40.1])),IntKind.i64.wrap (v40.2+(1:Int)))
      else
       some ((Ft.mk (0:Int) (Tt.mk (⟨#[]⟩:ByteArray) ([])) (⟨#[]⟩:ByteArray) ([])),(-1:Int))
   else
    aa (slS_ a0 v16.2 (⟨#[32,124,32]⟩:ByteArray)) fun v30=>
    bif v30 then
     aa (pqR n a0 (IntKind.i64.wrap (v16.2+(3:Int)))) fun v40=>
     bif decide (v40.2<(0:Int)) then
      some ((Ft.mk (0:Int) (Tt.mk (⟨#[]⟩:ByteArray) ([])) (⟨#[]⟩:ByteArray) ([])),(-1:Int))
     else
      bif decide (v40.2=(a0.size:Int)) then
       some ((Ft.mk (0:Int) (Tt.mk (⟨#[]⟩:ByteArray) ([])) (⟨#[]⟩:ByteArray) ([])),(-1:Int))
      else
       aa (sidx a0 v40.2) fun v54=>
       bif decide (v54=(41:Int)) then
        some ((Ft.mk (6:Int) (Tt.mk (⟨#[]⟩:ByteArray) ([])) (⟨#[]⟩:ByteArray) ([v16.1,v40.1])),IntKind.i64.wrap (v40.2+(1:Int)))
       else
        some ((Ft.mk (0:Int) (Tt.mk (⟨#[]⟩:ByteArray) ([])) (⟨#[]⟩:ByteArray) ([])),(-1:Int))
    else
     aa (slS_ a0 v16.2 (⟨#[32,61,62,32]⟩:ByteArray)) fun v34=>
     bif v34 then
      aa (pqR n a0 (IntKind.i64.wrap (v16.2+(4:Int)))) fun v40=>
      bif decide (v40.2<(0:Int)) then
       some ((Ft.mk (0:Int) (Tt.mk (⟨#[]⟩:ByteArray) ([])) (⟨#[]⟩:ByteArray) ([])),(-1:Int))
      else
       bif decide (v40.2=(a0.size:Int)) then
        some ((Ft.mk (0:Int) (Tt.mk (⟨#[]⟩:ByteArray) ([])) (⟨#[]⟩:ByteArray) ([])),(-1:Int))
       else
        aa (sidx a0 v40.2) fun v54=>
        bif decide (v54=(41:Int)) then
         some ((Ft.mk (7:Int) (Tt.mk (⟨#[]⟩:ByteArray) ([])) (⟨#[]⟩:ByteArray) ([v16.1,v40.1])),IntKind.i64.wrap (v40.2+(1:Int)))
        else
         some ((Ft.mk (0:Int) (Tt.mk (⟨#[]⟩:ByteArray) ([])) (⟨#[]⟩:ByteArray) ([])),(-1:Int))
     else
      some ((Ft.mk (0:Int) (Tt.mk (⟨#[]⟩:ByteArray) ([])) (⟨#[]⟩:ByteArray) ([])),(-1:Int))
end
def pqT:Nat→Ft→Option ByteArray
 | 0,_=>none
 | n+1,a0=>
  bif decide (a0.Op=(1:Int)) then
   some (⟨#[116,114,117,101]⟩:ByteArray)
  else
   bif decide (a0.Op=(2:Int)) then
    some (⟨#[102,97,108,115,101]⟩:ByteArray)
   else
    bif decide (a0.Op=(3:Int)) then
     aa (slT_1 30 a0.Atom) fun v14=>
     some v14
    else
     bif decide (a0.Op=(4:Int)) then
      aa (idx a0.Parts (0:Int)) fun v19=>
      bif decide (v19.Op=(3:Int)) then
       aa (idx a0.Parts (0:Int)) fun v26=>
       bif decide (v26.Atom.Name=(⟨#[61]⟩:ByteArray)) then
        aa (idx a0.Parts (0:Int)) fun v34=>
        aa (pqT n v34) fun v36=>
        aa (sapp (⟨#[126,40]⟩:ByteArray) v36) fun v37=>
        aa (sapp v37 (⟨#[41]⟩:ByteArray)) fun v38=>
        some v38
       else
        aa (idx a0.Parts (0:Int)) fun v41=>
        aa (pqT n v41) fun v43=>
        aa (sapp (⟨#[126]⟩:ByteArray) v43) fun v44=>
        some v44
      else
       aa (idx a0.Parts (0:Int)) fun v41=>
       aa (pqT n v41) fun v43=>
       aa (sapp (⟨#[126]⟩:ByteArray) v43) fun v44=>
       some v44
     else
      bif decide (a0.Op=(8:Int)) then
       aa (sapp (⟨#[97,108,108,32]⟩:ByteArray) a0.Var) fun v49=>
       aa (sapp v49 (⟨#[46]⟩:ByteArray)) fun v50=>
       aa (idx a0.Parts (0:Int)) fun v53=>
       aa (pqT n v53) fun v55=>
       aa (sapp v50 v55) fun v56=>
       some v56
      else
       bif decide (a0.Op=(9:Int)) then
        aa (sapp (⟨#[115,111,109,101,32]⟩:ByteArray) a0.Var) fun v61=>
        aa (sapp v61 (⟨#[46]⟩:ByteArray)) fun v62=>
        aa (idx a0.Parts (0:Int)) fun v65=>
        aa (pqT n v65) fun v67=>
        aa (sapp v62 v67) fun v68=>
        some v68
       else
        bif decide (a0.Op=(6:Int)) then
         bif decide (a0.Op=(7:Int)) then
          aa (idx a0.Parts (0:Int)) fun v77=>
          aa (pqT n v77) fun v79=>
          aa (sapp (⟨#[40]⟩:ByteArray) v79) fun v80=>
          aa (sapp v80 (⟨#[32,61,62,32]⟩:ByteArray)) fun v82=>
          aa (idx a0.Parts (1:Int)) fun v85=>
          aa (pqT n v85) fun v87=>
          aa (sapp v82 v87) fun v88=>
          aa (sapp v88 (⟨#[41]⟩:ByteArray)) fun v89=>
          some v89
         else
          aa (idx a0.Parts (0:Int)) fun v77=>
          aa (pqT n v77) fun v79=>
          aa (sapp (⟨#[40]⟩:ByteArray) v79) fun v80=>
          aa (sapp v80 (⟨#[32,124,32]⟩:ByteArray)) fun v82=>
          aa (idx a0.Parts (1:Int)) fun v85=>
          aa (pqT n v85) fun v87=>
          aa (sapp v82 v87) fun v88=>
          aa (sapp v88 (⟨#[41]⟩:ByteArray)) fun v89=>
          some v89
        else
         bif decide (a0.Op=(7:Int)) then
          aa (idx a0.Parts (0:Int)) fun v77=>
          aa (pqT n v77) fun v79=>
          aa (sapp (⟨#[40]⟩:ByteArray) v79) fun v80=>
          aa (sapp v80 (⟨#[32,61,62,32]⟩:ByteArray)) fun v82=>
          aa (idx a0.Parts (1:Int)) fun v85=>
          aa (pqT n v85) fun v87=>
          aa (sapp v82 v87) fun v88=>
          aa (sapp v88 (⟨#[41]⟩:ByteArray)) fun v89=>
          some v89
         else
          aa (idx a0.Parts (0:Int)) fun v77=>
          aa (pqT n v77) fun v79=>
          aa (sapp (⟨#[40]⟩:ByteArray) v79) fun v80=>
          aa (sapp v80 (⟨#[32,38,32]⟩:ByteArray)) fun v82=>
          aa (idx a0.Parts (1:Int)) fun v85=>
          aa (pqT n v85) fun v87=>
          aa (sapp v82 v87) fun v88=>
          aa (sapp v88 (⟨#[41]⟩:ByteArray)) fun v89=>
          some v89

theorem Oel_{ρ σ:Type}{f f':σ→Option (Flow ρ σ)}(h:∀ s,OLe (f s) (f' s))(N:Nat)(s:σ):OLe (whileN f N s) (lim fun n=>whileN f' n s):=fun r hr=>by
 have h1:Mono (fun n=>whileN f' n s):=fun n=>wNm_ n s
 have h2:=OLe.whileN h N s r hr
 exact le_ ⟨N,fun n hn=>h1.le hn r h2⟩
theorem pl_3:∀ n m,n≤m→∀ a i,OLe (pq3 n a i) (slR_1 m a i)
 | 0,m,_,a,i=>OLe.none _
 | n+1,0,h,a,i=>absurd h (by omega)
 | n+1,m+1,h,a,i=>by
  have ih:=pl_3 n m (by omega)
  unfold pq3 slR_1
  refine OLe.thenL (Oel_ (fun _=>aG _) _ _) fun s=>?_
  refine aN (aG _) fun _=>bc (aG _) (bc (aG _) (aN (aG _) fun _=>bc ?_ (aG _)))
  refine OLe.thenL (Oel_ (fun _=>aN (ih _ _) fun _=>aG _) _ _) fun _=>aG _
theorem pl_2{a:ByteArray}{i:Int}:OLe (pq3 30 a i) (slR_3 a i):=fun r h=>le_ ⟨30,fun n hn=>pl_3 30 n hn a i r h⟩
theorem pSl_1(a:ByteArray)(i:Int):OLe (pqS a i) (slS_5 a i):=by
 unfold pqS slS_5
 refine aN pl_2 fun _=>bc (aG _) (aN (aG _) fun _=>bc (aN pl_2 fun _=>aG _) (aG _))
theorem pRl_:∀ n m,n≤m→(∀ a i,OLe (pqR n a i) (slR_ m a i))∧(∀ a i o,OLe (pqQ n a i o) (slQ_ m a i o))∧∀ a i,OLe (pqP n a i) (slP_1 m a i)
 | 0,m,_=>⟨fun _ _=>OLe.none _,fun _ _ _=>OLe.none _,fun _ _=>OLe.none _⟩
 | n+1,0,h=>absurd h (by omega)
 | n+1,m+1,h=>by
  obtain⟨i1,i2,i3⟩:=pRl_ n m (by omega)
  have t1:∀ a i (k:Ft×Int→Option (Ft×Int)),OLe (aa (pqR n a i) k) (aa (slR_ m a i) k):=fun a i k=>aN (i1 a i) fun _=>aG _
  have t3:∀ a i (k:Ft×Int→Option (Ft×Int)),OLe (aa (pqP n a i) k) (aa (slP_1 m a i) k):=fun a i k=>aN (i3 a i) fun _=>aG _
  refine⟨fun a i=>?_,fun a i o=>?_,fun a i=>?_⟩
  ·unfold pqR slR_
   refine aN (aG _) fun _=>bc (aN (i2 _ _ _) fun _=>aG _) ?_
   refine aN (aG _) fun _=>bc (aN (i2 _ _ _) fun _=>aG _) ?_
   refine aN (aG _) fun _=>bc ?_ ?_
   ·refine aN (pSl_1 _ _) fun _=>bc (bc (bc (aN (aG _) fun _=>bc (aG _) (t3 _ _ _)) (t3 _ _ _)) (t3 _ _ _)) (t3 _ _ _)
   ·refine aN (aG _) fun _=>bc (t1 _ _ _) ?_
    refine aN (aG _) fun _=>bc (t3 _ _ _) ?_
    exact aN (pSl_1 _ _) fun _=>aG _
  ·unfold pqQ slQ_
   refine OLe.thenL (Oel_ (fun _=>aG _) _ _) fun s=>bc (aG _) (aN (aG _) fun _=>bc (t1 _ _ _) (aG _))
  ·unfold pqP slP_1
   refine aN (i1 _ _) fun _=>bc (aG _) ?_
   refine aN (aG _) fun _=>bc (t1 _ _ _) ?_
   refine aN (aG _) fun _=>bc (t1 _ _ _) ?_
   exact aN (aG _) fun _=>bc (t1 _ _ _) (aG _)
theorem lTl_:∀ n m,n≤m→∀ t,OLe (slT_1 n t) (slT_1 m t)
 | 0,m,_,t=>OLe.none _
 | n+1,0,h,t=>absurd h (by omega)
 | n+1,m+1,h,t=>by
  have ih:=lTl_ n m (by omega)
  unfold slT_1
  refine bc ?_ (OLe.thenL (OLe.forN (fun i s=>bc ?_ ?_) _ _ _) fun _=>aG _)
  ·exact aN (aG _) fun _=>aN (ih _) fun _=>aN (aG _) fun _=>aN (aG _) fun _=>aN (ih _) fun _=>aG _
  ·exact aN (aG _) fun _=>aN (aG _) fun _=>aN (ih _) fun _=>aG _
  ·exact aN (aG _) fun _=>aN (aG _) fun _=>aN (ih _) fun _=>aG _
theorem lTl_1(t:Tt):OLe (slT_1 30 t) (slT_8 t):=fun r h=>le_ ⟨30,fun n hn=>lTl_ 30 n hn t r h⟩
theorem pTl_1:∀ n m,n≤m→∀ f,OLe (pqT n f) (slT_ m f)
 | 0,m,_,f=>OLe.none _
 | n+1,0,h,f=>absurd h (by omega)
 | n+1,m+1,h,f=>by
  have ih:=pTl_1 n m (by omega)
  have b1:∀ (x:Option Ft) (k:ByteArray→Option ByteArray),OLe (aa x fun v=>aa (pqT n v) k) (aa x fun v=>aa (slT_ m v) k):=fun x k=>aN (aG _) fun _=>aN (ih _) fun _=>aG _
  have b2:∀ (x y:Option Ft) (c:ByteArray→Option ByteArray) (d:ByteArray→Option ByteArray) (k:ByteArray→ByteArray→Option ByteArray),OLe (aa x fun v=>aa (pqT n v) fun w=>aa (c w) fun z=>aa (d z) fun z2=>aa y fun v=>aa (pqT n v) fun w=>k z2 w) (aa x fun v=>aa (slT_ m v) fun w=>aa (c w) fun z=>aa (d z) fun z2=>aa y fun v=>aa (slT_ m v) fun w=>k z2 w):=fun x y c d k=>aN (aG _) fun _=>aN (ih _) fun _=>aN (aG _) fun _=>aN (aG _) fun _=>aN (aG _) fun _=>aN (ih _) fun _=>aG _
  unfold pqT slT_
  refine bc (aG _) (bc (aG _) (bc (aN (lTl_1 _) fun _=>aG _) (bc ?_ (bc ?_ (bc ?_ (bc (bc ?_ ?_) (bc ?_ ?_)))))))
  ·exact aN (aG _) fun _=>bc (aN (aG _) fun _=>bc (b1 _ _) (b1 _ _)) (b1 _ _)
  ·exact aN (aG _) fun _=>aN (aG _) fun _=>b1 _ _
  ·exact aN (aG _) fun _=>aN (aG _) fun _=>b1 _ _
  all_goals exact b2 _ _ _ _ _
theorem to_6{f:Ft}(h:(pqT 30 f).isSome=true):∃ s,slT_5 f=some s:=by
 cases e:pqT 30 f with
 | none=>rw[e] at h; cases h
 | some s=>exact⟨s,le_ ⟨30,fun n hn=>pTl_1 30 n hn f s e⟩⟩
theorem po_2{T:ByteArray}{f:Ft}(hs:T.size≤60)(h1:pqR 30 T 0=some (f,(T.size:Int)))(hok:f.Ok)(ht:f.tot≤4194304)(h2:∃ s,slT_5 f=some s):∃ b:Bool,sPF_ T=some (bif b then f else zeF,b):=by
 unfold sPF_
 rw[decide_eq_false (by omega),cond_false,show slR_7 T 0=some (f,(T.size:Int)) from le_ ⟨30,fun n hn=>(pRl_ 30 n hn).1 T 0 _ h1⟩,ah,decide_eq_true rfl,cond_true]
 simp only
 rw[vFs_ f ht hok,ah]
 obtain⟨s,hs⟩:=h2
 cases vF_ f
 ·exact⟨false,rfl⟩
 ·rw[cond_true,hs,ah]
  cases decide (s=T)
  ·exact⟨false,rfl⟩
  ·exact⟨true,rfl⟩
theorem tx1:(pqT 30 (fQ 8 (⟨#[88]⟩:ByteArray) (Ft.mk 3 (Tt.mk (⟨#[112]⟩:ByteArray) [(Tt.mk (⟨#[88]⟩:ByteArray) [])]) es []))).isSome=true:=by kernel_rfl
theorem rd1:pqR 30 (⟨#[97,108,108,32,88,46,112,40,88,41]⟩:ByteArray) 0=some (fQ 8 (⟨#[88]⟩:ByteArray) (Ft.mk 3 (Tt.mk (⟨#[112]⟩:ByteArray) [(Tt.mk (⟨#[88]⟩:ByteArray) [])]) es []),10):=by kernel_rfl
theorem tx2:(pqT 30 (fQ 8 (⟨#[88]⟩:ByteArray) (fB 7 (Ft.mk 3 (Tt.mk (⟨#[112]⟩:ByteArray) [(Tt.mk (⟨#[88]⟩:ByteArray) [])]) es []) (Ft.mk 3 (Tt.mk (⟨#[112]⟩:ByteArray) [(Tt.mk (⟨#[102]⟩:ByteArray) [(Tt.mk (⟨#[88]⟩:ByteArray) [])])]) es [])))).isSome=true:=by kernel_rfl
theorem rd2:pqR 30 (⟨#[97,108,108,32,88,46,40,112,40,88,41,32,61,62,32,112,40,102,40,88,41,41,41]⟩:ByteArray) 0=some (fQ 8 (⟨#[88]⟩:ByteArray) (fB 7 (Ft.mk 3 (Tt.mk (⟨#[112]⟩:ByteArray) [(Tt.mk (⟨#[88]⟩:ByteArray) [])]) es []) (Ft.mk 3 (Tt.mk (⟨#[112]⟩:ByteArray) [(Tt.mk (⟨#[102]⟩:ByteArray) [(Tt.mk (⟨#[88]⟩:ByteArray) [])])]) es [])),23):=by kernel_rfl
theorem tx3:(pqT 30 (fQ 8 (⟨#[88]⟩:ByteArray) (Ft.mk 3 (Tt.mk (⟨#[113]⟩:ByteArray) [(Tt.mk (⟨#[88]⟩:ByteArray) []),(Tt.mk (⟨#[98]⟩:ByteArray) [])]) es []))).isSome=true:=by kernel_rfl
theorem rd3:pqR 30 (⟨#[97,108,108,32,88,46,113,40,88,44,98,41]⟩:ByteArray) 0=some (fQ 8 (⟨#[88]⟩:ByteArray) (Ft.mk 3 (Tt.mk (⟨#[113]⟩:ByteArray) [(Tt.mk (⟨#[88]⟩:ByteArray) []),(Tt.mk (⟨#[98]⟩:ByteArray) [])]) es []),12):=by kernel_rfl
theorem tx4:(pqT 30 (fQ 8 (⟨#[88]⟩:ByteArray) (fB 6 (Ft.mk 3 (Tt.mk (⟨#[114]⟩:ByteArray) []) es []) (fN (Ft.mk 3 (Tt.mk (⟨#[112]⟩:ByteArray) [(Tt.mk (⟨#[88]⟩:ByteArray) [])]) es []))))).isSome=true:=by kernel_rfl
theorem rd4:pqR 30 (⟨#[97,108,108,32,88,46,40,114,32,124,32,126,112,40,88,41,41]⟩:ByteArray) 0=some (fQ 8 (⟨#[88]⟩:ByteArray) (fB 6 (Ft.mk 3 (Tt.mk (⟨#[114]⟩:ByteArray) []) es []) (fN (Ft.mk 3 (Tt.mk (⟨#[112]⟩:ByteArray) [(Tt.mk (⟨#[88]⟩:ByteArray) [])]) es []))),17):=by kernel_rfl
theorem tx5:(pqT 30 (fQ 8 (⟨#[88]⟩:ByteArray) (fQ 9 (⟨#[89]⟩:ByteArray) (Ft.mk 3 (Tt.mk (⟨#[113]⟩:ByteArray) [(Tt.mk (⟨#[88]⟩:ByteArray) []),(Tt.mk (⟨#[89]⟩:ByteArray) [])]) es [])))).isSome=true:=by kernel_rfl
theorem rd5:pqR 30 (⟨#[97,108,108,32,88,46,115,111,109,101,32,89,46,113,40,88,44,89,41]⟩:ByteArray) 0=some (fQ 8 (⟨#[88]⟩:ByteArray) (fQ 9 (⟨#[89]⟩:ByteArray) (Ft.mk 3 (Tt.mk (⟨#[113]⟩:ByteArray) [(Tt.mk (⟨#[88]⟩:ByteArray) []),(Tt.mk (⟨#[89]⟩:ByteArray) [])]) es [])),19):=by kernel_rfl
theorem tx6:(pqT 30 (fQ 9 (⟨#[88]⟩:ByteArray) (Ft.mk 3 (Tt.mk (⟨#[112]⟩:ByteArray) [(Tt.mk (⟨#[88]⟩:ByteArray) [])]) es []))).isSome=true:=by kernel_rfl
theorem rd6:pqR 30 (⟨#[115,111,109,101,32,88,46,112,40,88,41]⟩:ByteArray) 0=some (fQ 9 (⟨#[88]⟩:ByteArray) (Ft.mk 3 (Tt.mk (⟨#[112]⟩:ByteArray) [(Tt.mk (⟨#[88]⟩:ByteArray) [])]) es []),11):=by kernel_rfl
theorem tx7:(pqT 30 (fQ 8 (⟨#[65]⟩:ByteArray) (Ft.mk 3 (Tt.mk (⟨#[112]⟩:ByteArray) [(Tt.mk (⟨#[65]⟩:ByteArray) [])]) es []))).isSome=true:=by kernel_rfl
theorem rd7:pqR 30 (⟨#[97,108,108,32,65,46,112,40,65,41]⟩:ByteArray) 0=some (fQ 8 (⟨#[65]⟩:ByteArray) (Ft.mk 3 (Tt.mk (⟨#[112]⟩:ByteArray) [(Tt.mk (⟨#[65]⟩:ByteArray) [])]) es []),10):=by kernel_rfl
theorem tx8:(pqT 30 (fQ 8 (⟨#[88]⟩:ByteArray) (Ft.mk 3 (Tt.mk (⟨#[113]⟩:ByteArray) [(Tt.mk (⟨#[88]⟩:ByteArray) []),(Tt.mk (⟨#[65]⟩:ByteArray) [])]) es []))).isSome=true:=by kernel_rfl
theorem rd8:pqR 30 (⟨#[97,108,108,32,88,46,113,40,88,44,65,41]⟩:ByteArray) 0=some (fQ 8 (⟨#[88]⟩:ByteArray) (Ft.mk 3 (Tt.mk (⟨#[113]⟩:ByteArray) [(Tt.mk (⟨#[88]⟩:ByteArray) []),(Tt.mk (⟨#[65]⟩:ByteArray) [])]) es []),12):=by kernel_rfl
end
section
def Wp{α:Type}(x:Option α)(P:α→Prop):Prop:=∀ r,x=some r→P r
section
variable{α β:Type}
theorem Wp.eq{x:Option α}{v:α}{P:α→Prop}(h:x=some v)(hp:P v):Wp x P:=fun r hr=>by rw[h] at hr; cases hr; exact hp
theorem Wp.ret{v:α}{P:α→Prop}(hp:P v):Wp (some v) P:=Wp.eq rfl hp
theorem Wp.bnd{x:Option α}{k:α→Option β}{P:β→Prop}(Q:α→Prop)(hx:Wp x Q)(hk:∀ v,Q v→Wp (k v) P):Wp (aa x k) P:=fun r hr=>by
 cases e:x with
 | none=>rw[e] at hr; cases hr
 | some v=>rw[e,ah] at hr; exact hk v (hx v e) r hr
theorem Wp.any{x:Option α}{k:α→Option β}{P:β→Prop}(hk:∀ v,Wp (k v) P):Wp (aa x k) P:=Wp.bnd (fun _=>True) (fun _ _=>trivial) fun v _=>hk v
theorem Wc_{b:Bool}{x y:Option α}{P:α→Prop}(h:Wp x P)(h':Wp y P):Wp (bif b then x else y) P:=by cases b<;>assumption
theorem Wp.mono{x:Option α}{P Q:α→Prop}(h:Wp x P)(hq:∀ v,P v→Q v):Wp x Q:=fun r hr=>hq r (h r hr)
end
theorem ww_{ρ σ:Type}{f:σ→Option (Flow ρ σ)}(I:σ→Prop)(Q:ρ ⊕ σ→Prop)(h:∀ s,I s→Wp (f s) (fun x=>match x with | .nx s'=>I s' | .br s'=>Q (.inr s') | .rt r=>Q (.inl r))):∀ (n:Nat) (s:σ),I s→Wp (whileN f n s) Q
 | 0,s,_=>fun r hr=>by cases hr
 | n+1,s,hs=>by
  refine Wp.bnd _ (h s hs) fun x hx=>?_
  cases x with
  | nx s'=>exact ww_ I Q h n s' hx
  | br s'=>exact Wp.ret hx
  | rt r=>exact Wp.ret hx
theorem lw_1{α:Type}{m:Nat→Option α}{P:α→Prop}(h:∀ n,Wp (m n) P):Wp (lim m) P:=fun r hr=>by
 obtain⟨n,hn⟩:=ls_ hr
 exact h n r hn
theorem ow_(c:la)(l:List ByteArray):Wp (slC_7 c l) (fun r=>r.1∈l):=by
 unfold slC_7
 refine Wp.any fun v=>Wp.bnd (fun x=>x∈l) (fun x hx=>?_) fun x hx=>Wp.ret hx
 unfold idx at hx
 split at hx
 ·exact List.mem_of_getElem? hx
 ·cases hx
theorem xn_{x:ByteArray}(h:x∈[(⟨#[88]⟩:ByteArray),(⟨#[89]⟩:ByteArray),(⟨#[90]⟩:ByteArray),(⟨#[88]⟩:ByteArray)]):x≠nameA:=by
 simp only[aU,List.not_mem_nil,or_false] at h
 rcases h with rfl | rfl | rfl | rfl<;>decide
theorem en_2:es≠nameA:=by decide
def VarN(r:Ft×la):Prop:=r.1.Var≠nameA
theorem bv_(n:Nat)(c:la)(d:Int):Wp (slC_2 n c d) VarN:=by
 cases n with
 | zero=>exact fun r hr=>by cases hr
 | succ n=>
  rw[slC_2]
  have leaf:∀ c:la,Wp (aa (slC_6 c (16:Int)) fun v13=>
   bif v13.1 then
    aa (slC_ v13.2 (2:Int)) fun v15=>
    some ((Ft.mk (IntKind.i64.wrap ((1:Int)+v15.1)) (Tt.mk (⟨#[]⟩:ByteArray) ([])) (⟨#[]⟩:ByteArray) ([])),v15.2)
   else
    aa (slC_16 v13.2) fun v19=>
    some ((Ft.mk (3:Int) v19.1 (⟨#[]⟩:ByteArray) ([])),v19.2)) VarN:=fun c=>Wp.any fun _=>Wc_ (Wp.any fun _=>Wp.ret en_2) (Wp.any fun _=>Wp.ret en_2)
  refine Wc_ (leaf c) (Wp.any fun _=>Wc_ (leaf _) (Wp.any fun _=>Wc_ ?_ (Wc_ ?_ (Wc_ ?_ ?_))))
  ·exact Wp.any fun _=>Wp.ret en_2
  ·exact Wp.bnd _ (ow_ _ _) fun v hv=>Wp.any fun _=>Wp.ret (xn_ hv)
  ·exact Wp.bnd _ (ow_ _ _) fun v hv=>Wp.any fun _=>Wp.ret (xn_ hv)
  ·exact Wp.any fun _=>Wp.any fun _=>Wp.ret en_2
theorem fv_1(c:la):Wp (slC_13 c) VarN:=by
 unfold slC_13
 refine Wp.any fun v=>Wp.bnd VarN (lw_1 fun n=>bv_ n _ _) fun w hw=>Wp.ret hw
theorem av_1(c:la):Wp (slC_4 c) VarN:=by
 unfold slC_4
 refine Wp.bnd VarN (fv_1 c) fun v hv=>Wp.any fun _=>Wc_ ?_ (Wc_ ?_ (Wc_ ?_ (Wc_ ?_ (Wc_ ?_ (Wc_ (Wc_ ?_ ?_) ?_)))))
 ·exact Wp.any fun _=>Wp.ret hv
 ·refine Wp.bnd _ (ow_ _ _) fun x hx=>Wp.ret ?_
  simp only[aU,List.not_mem_nil,or_false] at hx
  show x.1≠nameA
  rcases hx with h | h | h<;>rw[h]<;>decide
 ·exact Wp.any fun _=>Wp.ret hv
 ·exact Wp.any fun _=>Wp.any fun _=>Wp.ret hv
 ·refine Wp.any fun _=>Wp.bnd (fun z=>match z with | .inl r=>VarN r | .inr s=>s.2.2.2.1≠nameA) (lw_1 fun n=>ww_ (fun s:Int×ByteArray×(List Tt)×ByteArray×(List Ft)=>s.2.2.2.1≠nameA) _ (fun s hs=>?_) n _ hv) fun z hz=>?_
  ·exact Wp.any fun _=>Wc_ (Wp.ret en_2) (Wp.ret hs)
  ·cases z with
   | inl r=>exact Wp.ret hz
   | inr s=>exact Wp.ret hz
 ·exact Wp.any fun _=>Wp.any fun _=>Wp.any fun _=>Wp.ret hv
 ·exact Wp.ret hv
 ·exact Wp.ret hv
theorem ac_2{c:la}{m:Nat}(h:CurOk c m)(hm:m+100000≤1000000000):Wp (slC_4 c) (fun r=>CurOk r.2 (m+100000)):=by
 unfold slC_4
 obtain⟨f,c1,e1,_,h1⟩:=fo_ h (by omega)
 refine Wp.bnd (fun r=>CurOk r.2 (m+30000)) (Wp.eq e1 h1) fun r hr=>?_
 obtain⟨v,c2,e2,_,_,h2⟩:=po_ 24 hr (by omega)
 refine Wp.bnd (fun r=>CurOk r.2 (m+30002)) (Wp.eq e2 h2) fun q hq=>?_
 have pk:∀ k,Wp (slC_ q.2 k) (fun r=>CurOk r.2 (m+30004)):=fun k=>by
  obtain⟨v,c2,e2,_,_,h2⟩:=po_ k hq (by omega)
  exact Wp.eq e2 h2
 have up:∀ {x:la} {k:Nat},CurOk x k→k≤m+100000→CurOk x (m+100000):=fun hx hk=>hx.mono hk
 refine Wc_ ?_ (Wc_ ?_ (Wc_ ?_ (Wc_ ?_ (Wc_ ?_ (Wc_ (Wc_ ?_ ?_) ?_)))))
 ·exact Wp.bnd _ (pk _) fun w hw=>Wp.ret (up hw (by omega))
 ·obtain⟨x,c3,e3,_,h3⟩:=oo_ [(⟨#[88]⟩:ByteArray),(⟨#[97]⟩:ByteArray),(⟨#[]⟩:ByteArray)] (by simp) hq (by omega)
  exact Wp.bnd (fun r=>CurOk r.2 (m+30004)) (Wp.eq e3 h3) fun w hw=>Wp.ret (up hw (by omega))
 ·obtain⟨x,c3,e3,_,h3⟩:=aTo_1 hq (by omega)
  exact Wp.bnd (fun r=>CurOk r.2 (m+31002)) (Wp.eq e3 h3) fun w hw=>Wp.ret (up hw (by omega))
 ·obtain⟨x,c3,e3,_,h3⟩:=fo_ hq (by omega)
  exact Wp.bnd (fun r=>CurOk r.2 (m+60002)) (Wp.eq e3 h3) fun w hw=>Wp.any fun _=>Wp.ret (up hw (by omega))
 ·refine Wp.bnd _ (pk _) fun w hw=>Wp.bnd (fun z=>match z with | .inl r=>CurOk r.2 (m+100000) | .inr s=>True) (lw_1 fun n=>ww_ (fun s:Int×ByteArray×(List Tt)×ByteArray×(List Ft)=>True) _ (fun s hs=>?_) n _ trivial) fun z hz=>?_
  ·exact Wp.any fun _=>Wc_ (Wp.ret trivial) (Wp.ret trivial)
  ·cases z with
   | inl r=>exact Wp.ret hz
   | inr s=>exact Wp.ret (up hw (by omega))
 ·exact Wp.bnd _ (pk _) fun w hw=>Wp.any fun _=>Wp.any fun _=>Wp.ret (up hw (by omega))
 ·exact Wp.ret (up hq (by omega))
 ·exact Wp.ret (up hq (by omega))
structure DF(f:Ft):Prop where
 ok:f.Ok
 tot:f.tot≤4194304
 hA:∀ v F,f=fQ 8 v F→v=nameA→F.av=true
theorem ad_{c:la}{m:Nat}(h:CurOk c m)(hm:m+100000≤1000000000):∃ f c',slC_4 c=some (f,c')∧DF f∧CurOk c' (m+100000):=by
 obtain⟨f,c',e,h1⟩:=aFo_ h hm
 refine⟨f,c',e,⟨h1.1,by have:=h1.2; omega,fun v F hf hv=>?_⟩,ac_2 h hm _ e⟩
 have:f.Var≠nameA:=av_1 c _ e
 rw[hf] at this
 exact(this hv).elim
theorem dz_:DF zeF:=⟨.mk _ _ _ _ (by simp[InR]) oz_ oe_ (by simp[Big]) (by simp),Nat.le_trans (Nat.le_of_eq (tfC_ 0)) (Nat.zero_le _),fun v F h _=>by simp only[zeF,fQ,Ft.mk.injEq] at h; omega⟩
theorem dv_{f:Ft}(h:vF_ f=true)(hA:∀ v F,f=fQ 8 v F→v=nameA→F.av=true):DF f:=⟨vFO_ h,by have:=vFt_ h; omega,hA⟩
end
section
theorem cs_4(a:Tt):∀ b:Tt,a.Ok→b.Ok→∀ n,2*ap a≤n→slC_5 n a b=some (cmpR a b):=by
 refine Tt.ind' (M:=fun a=>∀ b:Tt,a.Ok→b.Ok→∀ n,2*ap a≤n→slC_5 n a b=some (cmpR a b)) (fun a ih b oka okb n hn=>?_) a
 have hp:=a.pos
 cases n with
 | zero=>omega
 | succ n=>
 rw[slC_5,lVe_ a.Name oka.u.1,lVe_ b.Name okb.u.1,cRu_]
 simp only[ah]
 have hS:(bif decide (a.Name=b.Name) then
  bif decide ((a.Args.length:Int)<(b.Args.length:Int)) then
   some (-1:Int)
  else
   bif decide ((b.Args.length:Int)<(a.Args.length:Int)) then
    some (1:Int)
   else
    thenL (ρ:=Int) (σ:=Unit) (forN (fun (i13:Nat) (s13:Unit)=>
     aa (idx a.Args (i13:Int)) fun v64=>
     aa (idx b.Args (i13:Int)) fun v69=>
     aa (slC_5 n v64 v69) fun v71=>
     bif decide (v71=(0:Int)) then
      some (.nx ())
     else
      some (.rt v71)) a.Args.length 0 ()) fun s13=>
    some (0:Int)
  else
   aa (slT_3 a.Name b.Name) fun v37=>
   some v37)=some (cmpB a b):=by
  unfold cmpB
  by_cases e:a.Name=b.Name
  ·rw[decide_eq_true e,if_pos e,cond_true]
   by_cases e1:a.Args.length<b.Args.length
   ·rw[decide_eq_true (show(a.Args.length:Int)<(b.Args.length:Int) by omega),if_pos e1]; rfl
   ·rw[decide_eq_false (show ¬ (a.Args.length:Int)<(b.Args.length:Int) by omega),if_neg e1,cond_false]
    by_cases e2:b.Args.length<a.Args.length
    ·rw[decide_eq_true (show(b.Args.length:Int)<(a.Args.length:Int) by omega),if_pos e2]; rfl
    ·rw[decide_eq_false (show ¬ (b.Args.length:Int)<(a.Args.length:Int) by omega),if_neg e2,cond_false,← lIe_1 _ _ (show a.Args.length=b.Args.length by omega)]
     refine fNl_ rfl _ _ (fun j _ hj=>?_)
     have ha:=gDm_ (l:=a.Args) (i:=j) (by omega)
     have hb:=gDm_ (l:=b.Args) (i:=j) (by omega)
     rw[igD_ (by omega),ah,igD_ (by omega),ah,ih _ ha _ (oka.u.2.2 _ ha) (okb.u.2.2 _ hb) n (by have:=Tt.lt ha; omega),ah]
     cases decide (cmpR (a.Args.getD j default) (b.Args.getD j default)=0)<;>rfl
  ·rw[decide_eq_false e,if_neg e,cond_false,lTe_]; rfl
 cases iVS_ a.Name<;>cases iVS_ b.Name<;>first | exact hS | rfl
theorem ps_1{k:Nat}{l:List Tt}{x:Tt}(hl:l.length≤1000)(h:∀ a∈l,SmT k a)(hx:SmT k x):∃ r,slP_3 l x=some r∧r.length≤l.length+1∧∀ a∈r,SmT k a:=by
 refine⟨putT x l,lPg_ x l (fun y hy=>le_ ⟨_,cs_4 y x (h y hy).1 hx.1⟩) (by omega),pTl_ x l,fun a ha=>?_⟩
 rcases (pTm_ x a l).1 ha with rfl | h'
 ·exact hx
 ·exact h a h'
def DrQ(m q:Nat):(Dt×la) ⊕ (la×Int×(List Tt))→Prop
 | .inl _=>False
 | .inr s=>CurOk s.1 (m+100)∧s.2.2.length≤q∧∀ a∈s.2.2,SmT 200 a
theorem dl_1(T:List ByteArray)(hT:T≠[])(hs:∀ s∈T,s.size≤100){c:la}{m q:Nat}(h:CurOk c m)(hq:q≤10)(hm:m+100≤1000000000):
 ∃ s:la×Int×(List Tt),lim (fun n=>whileN (ρ:=Dt×la) (fun (s5:la×Int×(List Tt))=>
  bif decide ((0:Int)<s5.2.1) then
   aa (slT_2 s5.1 T) fun v23=>
   aa (slP_3 s5.2.2 v23.1) fun v24=>
   some (.nx (v23.2,IntKind.i64.wrap (s5.2.1-(1:Int)),v24))
  else
   some (.br s5)) n (c,(q:Int),[]))=some (.inr s)∧CurOk s.1 (m+100)∧s.2.2.length≤q∧∀ a∈s.2.2,SmT 200 a:=by
 suffices H:∃ z:(Dt×la) ⊕ (la×Int×(List Tt)),lim (fun n=>whileN (ρ:=Dt×la) (fun (s5:la×Int×(List Tt))=>
  bif decide ((0:Int)<s5.2.1) then
   aa (slT_2 s5.1 T) fun v23=>
   aa (slP_3 s5.2.2 v23.1) fun v24=>
   some (.nx (v23.2,IntKind.i64.wrap (s5.2.1-(1:Int)),v24))
  else
   some (.br s5)) n (c,(q:Int),[]))=some z∧DrQ m q z by
  obtain⟨z,e,hz⟩:=H
  cases z with
  | inl r=>exact hz.elim
  | inr s=>exact⟨s,e,hz⟩
 refine li_3 (Q:=DrQ m q) (fun j s=>CurOk s.1 (m+2*j)∧s.2.1=((q-j:Nat):Int)∧s.2.2.length≤j∧∀ a∈s.2.2,SmT 200 a) q (c,(q:Int),[]) ⟨h,rfl,aJ _,fun a ha=>nomatch ha⟩ (fun j s hj hI=>?_) (fun s hI=>?_)
 ·obtain⟨i1,i2,i3,i4⟩:=hI
  obtain⟨t,c',e1,e2,e3⟩:=to_5 T hT hs i1 (by omega)
  obtain⟨r,r1,r2,r3⟩:=ps_1 (by omega) i4 e2
  refine .inl ⟨(c',((q-(j+1):Nat):Int),r),?_,e3,rfl,by show r.length≤_; omega,r3⟩
  rw[i2,decide_eq_true (by omega),cond_true,e1,ah,r1,ah,w_ (by omega) (by omega)]
  rw[show((q-j:Nat):Int)-1=((q-(j+1):Nat):Int) by omega]
 ·obtain⟨i1,i2,i3,i4⟩:=hI
  exact⟨s,by rw[i2,decide_eq_false (by omega)]; rfl,i1.mono (by omega),i3,i4⟩
theorem ls_1{k:Nat}:∀ {l:List Tt},(∀ a∈l,SmT k a)→ltot Tt.tot l≤l.length*(k+1)
 | [],_=>by simp[ltot]
 | a::l,h=>by
  have h1:=ls_1 (l:=l) (fun x hx=>h x (List.mem_cons_of_mem _ hx))
  have h2:=(h a (by simp)).2
  simp only[ltot,aD,bp,aA] at h1 ⊢
  rw[Nat.succ_mul]; omega
def DD(d:Dt):Prop:=d.Ok∧d.tot≤4194304
theorem dm_{P I:List Tt}(h1:P.length≤8)(h2:I.length≤8)(h3:∀ a∈P,SmT 50000 a)(h4:∀ a∈I,SmT 50000 a):DD (Dt.mk P I):=by
 have b:∀ n,n≤8→Big n:=fun n hn=>by unfold Big; omega
 refine⟨⟨⟨b _ h1,fun a ha=>(h3 a ha).1⟩,b _ h2,fun a ha=>(h4 a ha).1⟩,?_⟩
 show ltot Tt.tot P+ltot Tt.tot I≤_
 have:=ls_1 h3
 have:=ls_1 h4
 have:=Nat.mul_le_mul_right (50000+1) h1
 have:=Nat.mul_le_mul_right (50000+1) h2
 omega
def twr(x:ByteArray):Nat→Tt
 | 0=>Tt.mk x []
 | n+1=>Tt.mk (⟨#[102]⟩:ByteArray) [twr x n]
theorem t_{c:la}{m:Nat}(h:CurOk c m)(hm:m+2≤1000000000):∃ x c',slC_9 c (6:Int)=some (twr x 5,c')∧(x=(⟨#[88]⟩:ByteArray)∨x=(⟨#[97]⟩:ByteArray))∧SmT 9360 (twr x 5)∧CurOk c' (m+2):=by
 obtain⟨v,c',e1,e2,e3⟩:=oo_ [(⟨#[88]⟩:ByteArray),(⟨#[97]⟩:ByteArray)] (by simp) h (by omega)
 have e:slC_9 c (6:Int)=some (twr v 5,c'):=by
  unfold slC_9
  rw[e1,ah]
  refine(congrArg (fun z=>thenL z _) (le_ (en_ rfl (en_ rfl (en_ rfl (en_ rfl (en_ rfl (eb_ rfl)))))))).trans ?_
  rfl
 obtain⟨t,c2,f1,f2,_⟩:=to_1 (d:=6) h hm (by omega)
 have f1:slC_9 c (6:Int)=some (t,c2):=f1
 rw[e] at f1
 cases f1
 exact⟨v,c',e,by simpa using e2,f2,e3⟩
theorem tg_{x y:ByteArray}(hx:x=(⟨#[88]⟩:ByteArray)∨x=(⟨#[97]⟩:ByteArray))(hy:y=(⟨#[88]⟩:ByteArray)∨y=(⟨#[97]⟩:ByteArray)):(Tt.mk (⟨#[103]⟩:ByteArray) [twr x 5,twr y 5]).good=true∧(Tt.mk (⟨#[103]⟩:ByteArray) [twr x 5,twr y 5]).cnt≤1000:=by
 rcases hx with rfl | rfl<;>rcases hy with rfl | rfl<;>exact⟨by kernel_rfl,Nat.le_of_ble_eq_true (by kernel_rfl)⟩
theorem do_{c:la}{m:Nat}(h:CurOk c m)(hm:m+10000≤1000000000):∃ d c',slC_12 c=some (d,c')∧DD d:=by
 unfold slC_12
 obtain⟨v,c1,e1,v0,v1,h1⟩:=po_ (4:Int) h (by omega)
 have v1:=v1 (by omega)
 obtain⟨q,rfl⟩:∃ q:Nat,v=q:=⟨v.toNat,by omega⟩
 obtain⟨s,e2,h2,l2,p2⟩:=dl_1 ([(⟨#[102,40,65,41]⟩:ByteArray),(⟨#[103,40,65,44,97,41]⟩:ByteArray),(⟨#[65]⟩:ByteArray),(⟨#[103,40,65,44,65,41]⟩:ByteArray),(⟨#[102,40,102,40,65,41,41]⟩:ByteArray),(⟨#[97]⟩:ByteArray),(⟨#[102,40,98,41]⟩:ByteArray)]) (by simp) (by intro s hs; simp only[aU,List.not_mem_nil,or_false] at hs; rcases hs with rfl | rfl | rfl | rfl | rfl | rfl | rfl<;>decide) h1 (q:=q) (by omega) (by omega)
 rw[e1,ah]
 simp only[e2,tLi_]
 obtain⟨w,c3,e3,w0,w1,h3⟩:=po_ (3:Int) h2 (by omega)
 have w1:=w1 (by omega)
 obtain⟨p,rfl⟩:∃ p:Nat,w=p:=⟨w.toNat,by omega⟩
 have wr:IntKind.i64.wrap ((1:Int)+(p:Int))=((1+p:Nat):Int):=by rw[w_ (by omega) (by omega)]; omega
 obtain⟨u,e4,h4,l4,p4⟩:=dl_1 ([(⟨#[97]⟩:ByteArray),(⟨#[98]⟩:ByteArray),(⟨#[102,40,97,41]⟩:ByteArray),(⟨#[99]⟩:ByteArray),(⟨#[103,40,97,44,98,41]⟩:ByteArray)]) (by simp) (by intro s hs; simp only[aU,List.not_mem_nil,or_false] at hs; rcases hs with rfl | rfl | rfl | rfl | rfl<;>decide) h3 (q:=1+p) (by omega) (by omega)
 rw[e3,ah]
 simp only[wr,e4,tLi_]
 obtain⟨k,c5,e5,k0,k1,h5⟩:=po_ (24:Int) h4 (by omega)
 rw[e5,ah]
 have P:∀ a∈s.2.2,SmT 50000 a:=fun a ha=>(p2 a ha).mono (by omega)
 have I:∀ a∈u.2.2,SmT 50000 a:=fun a ha=>(p4 a ha).mono (by omega)
 have base:DD (Dt.mk s.2.2 u.2.2):=dm_ (by omega) (by omega) P I
 by_cases g:k=0
 ·obtain⟨t,c6,e6,ht,h6⟩:=aTo_1 h5 (by omega)
  rw[decide_eq_true g,cond_true,e6,ah,a_ _ (by omega),ah]
  refine⟨_,_,rfl,dm_ (by simp; omega) (by omega) (fun a ha=>?_) I⟩
  rcases List.mem_append.1 ha with ha | ha
  ·exact P a ha
  ·rw[List.mem_singleton.1 ha]; exact ht
 rw[decide_eq_false g,cond_false]
 by_cases g:k=1
 ·obtain⟨t,c6,e6,ht,h6⟩:=to_ h5 (by omega)
  rw[decide_eq_true g,cond_true,e6,ah,a_ _ (by omega),ah]
  refine⟨_,_,rfl,dm_ (by omega) (by simp; omega) P (fun a ha=>?_)⟩
  rcases List.mem_append.1 ha with ha | ha
  ·exact I a ha
  ·rw[List.mem_singleton.1 ha]; exact ht.mono (by omega)
 rw[decide_eq_false g,cond_false]
 by_cases g:k=2
 ·rw[decide_eq_true g,cond_true]
  exact⟨_,_,rfl,dm_ (by omega) (by simp) P (fun a ha=>nomatch ha)⟩
 rw[decide_eq_false g,cond_false]
 by_cases g:k=3
 ·rw[decide_eq_true g,cond_true]
  cases hs:s.2.2 with
  | nil=>exact⟨_,_,rfl,by rw[hs] at base; exact base⟩
  | cons a l=>
   cases l with
   | nil=>exact⟨_,_,rfl,by rw[hs] at base; exact base⟩
   | cons b l=>
    rw[hs] at P l2
    rw[decide_eq_true (by simp only[aA]; omega),cond_true]
    refine⟨_,_,rfl,dm_ (P:=b::a::l) (by simp only[aA] at l2 ⊢; omega) (by omega) (fun x hx=>P x ?_) I⟩
    simp only[aU] at hx ⊢
    rcases hx with h | h | h<;>simp[h]
 rw[decide_eq_false g,cond_false]
 by_cases g:k=4
 ·rw[decide_eq_true g,cond_true]
  obtain⟨x,c6,e6,hx,tx,h6⟩:=t_ h5 (by omega)
  obtain⟨y,c7,e7,hy,ty,h7⟩:=t_ h6 (by omega)
  have sm:SmT 50000 (Tt.mk (⟨#[103]⟩:ByteArray) [twr x 5,twr y 5]):=by
   have h8:SmT 49000 (twr x 5):=tx.mono (by omega)
   refine⟨.mk _ _ (by simp only[Big]; decide) (by simp[Big]) (by simp[tx.1,ty.1]),?_⟩
   have:=tx.2
   have:=ty.2
   rw[Tt.tot_mk]
   simp only[ltot,aD,List.map_nil,bp,List.sum_nil,aA,List.length_nil]
   show 1+_≤_
   omega
  obtain⟨t1,t2⟩:=tg_ hx hy
  obtain⟨vs,f1,_⟩:=lVo_ sm.1 t1 t2
  obtain⟨r,r1,r2,r3⟩:=ps_1 (l:=u.2.2) (by omega) I sm
  rw[e6,ah,e7,ah]
  simp only[slG_2,f1,ah,lGo_ _ (Nat.le_trans sm.2 (by omega)) sm.1,r1]
  cases decide ((vs.length:Int)=0)
  ·exact⟨_,_,rfl,base⟩
  ·cases gT_ (Tt.mk (⟨#[103]⟩:ByteArray) [twr x 5,twr y 5])
   ·exact⟨_,_,rfl,base⟩
   ·exact⟨_,_,rfl,dm_ (by omega) (by show r.length≤_; omega) P r3⟩
 ·rw[decide_eq_false g,cond_false]
  exact⟨_,_,rfl,base⟩
theorem ro_{T:ByteArray}{f:Ft}(hs:T.size≤60)(h1:pqR 30 T 0=some (f,(T.size:Int)))(h2:(pqT 30 f).isSome=true)(hd:DF f):∃ r,sPF_ T=some r∧DF r.1:=by
 obtain⟨b,e⟩:=po_2 hs h1 hd.ok hd.tot (to_6 h2)
 refine⟨_,e,?_⟩
 cases b
 ·exact dz_
 ·exact hd
theorem hAn_{x:ByteArray}{G:Ft}(hx:x≠nameA):∀ v F,fQ 8 x G=fQ 8 v F→v=nameA→F.av=true:=fun v F h hv=>by
 simp only[fQ,Ft.mk.injEq] at h
 exact absurd (h.2.2.1.trans hv) hx
theorem hA_9{x:ByteArray}{G:Ft}:∀ v F,fQ 9 x G=fQ 8 v F→v=nameA→F.av=true:=fun v F h hv=>by
 simp only[fQ,Ft.mk.injEq] at h; omega
theorem hAa_{x:ByteArray}{G:Ft}(hG:G.av=true):∀ v F,fQ 8 x G=fQ 8 v F→v=nameA→F.av=true:=fun v F h hv=>by
 simp only[fQ,Ft.mk.injEq,List.cons.injEq,and_true] at h
 rw[← h.2.2.2]; exact hG
theorem to_3:∀ T∈([(⟨#[97,108,108,32,88,46,112,40,88,41]⟩:ByteArray),(⟨#[97,108,108,32,88,46,40,112,40,88,41,32,61,62,32,112,40,102,40,88,41,41,41]⟩:ByteArray),(⟨#[97,108,108,32,88,46,113,40,88,44,98,41]⟩:ByteArray),(⟨#[97,108,108,32,88,46,40,114,32,124,32,126,112,40,88,41,41]⟩:ByteArray),(⟨#[97,108,108,32,88,46,115,111,109,101,32,89,46,113,40,88,44,89,41]⟩:ByteArray),(⟨#[115,111,109,101,32,88,46,112,40,88,41]⟩:ByteArray),(⟨#[97,108,108,32,65,46,112,40,65,41]⟩:ByteArray),(⟨#[97,108,108,32,88,46,113,40,88,44,65,41]⟩:ByteArray)]:List ByteArray),∃ r,sPF_ T=some r∧DF r.1:=by
 intro T hT
 simp only[aU,List.not_mem_nil,or_false] at hT
 rcases hT with rfl | rfl | rfl | rfl | rfl | rfl | rfl | rfl
 ·exact ro_ (by decide) rd1 tx1 (dv_ (by kernel_rfl) (hAn_ (by decide)))
 ·exact ro_ (by decide) rd2 tx2 (dv_ (by kernel_rfl) (hAn_ (by decide)))
 ·exact ro_ (by decide) rd3 tx3 (dv_ (by kernel_rfl) (hAn_ (by decide)))
 ·exact ro_ (by decide) rd4 tx4 (dv_ (by kernel_rfl) (hAn_ (by decide)))
 ·exact ro_ (by decide) rd5 tx5 (dv_ (by kernel_rfl) (hAn_ (by decide)))
 ·exact ro_ (by decide) rd6 tx6 (dv_ (by kernel_rfl) hA_9)
 ·exact ro_ (by decide) rd7 tx7 (dv_ (by kernel_rfl) (hAa_ (by kernel_rfl)))
 ·exact ro_ (by decide) rd8 tx8 (dv_ (by kernel_rfl) (hAn_ (by decide)))
theorem dLo_(a:List Int)(h:∀ x∈a,0≤x∧x≤255):∃ f d,sDL_ a=some (f,d)∧DF f∧DD d:=by
 unfold sDL_
 obtain⟨v,c1,e1,v0,v1,h1⟩:=po_ (c:=la.mk a 0 0) (n:=0) (4:Int) ⟨by simp,by simp,h⟩ (by omega)
 have v1:=v1 (by omega)
 rw[e1,ah,qs_ v0 (by omega) (by omega),ah]
 have q0:0≤v / 3∧v / 3≤1:=by omega
 generalize v / 3=q at q0
 rw[w_ (n:=(4:Int)*q) (by omega) (by omega),w_ (by omega) (by omega)]
 obtain⟨w,c2,e2,w0,w1,h2⟩:=po_ ((4:Int)+4*q) h1 (by omega)
 have w1:=w1 (by omega)
 rw[e2,ah]
 obtain⟨k,rfl⟩:∃ k:Nat,w=k:=⟨w.toNat,by omega⟩
 have hk:k<8:=by omega
 rw[igD_ (by simpa using hk),ah,ah]
 obtain⟨r,r1,r2⟩:=to_3 _ (gDm_ (i:=k) (by simpa using hk))
 rw[r1,ah]
 obtain⟨b,c3,e3,h3⟩:=oo_1 (12:Int) h2 (by omega)
 rw[e3,ah]
 cases b
 ·obtain⟨d,c4,e4,hd⟩:=do_ h3 (by omega)
  rw[cond_false,e4]
  exact⟨_,_,rfl,r2,hd⟩
 ·obtain⟨f,c4,e4,hf,h4⟩:=ad_ h3 (by omega)
  obtain⟨d,c5,e5,hd⟩:=do_ h4 (by omega)
  rw[cond_true,e4,ah,e5]
  exact⟨_,_,rfl,hf,hd⟩
end
section
theorem fv_{f:Ft}(h:vF_ f=true):FS f:=⟨(vFi_ h).2,vFO_ h,by have:=vFt_ h; omega,by have:=(vFi_ h).1; omega⟩
theorem sf_3{v:ByteArray}{F:Ft}{t:Tt}(U:Uni v F)(h:F.sok v t=true):FS (F.sub v t):=by
 obtain⟨_,_,_,_,_,h6,_⟩:=U.u
 exact fv_ (by rw[sv_ h6 (sc_ _ h),h])
theorem lm_1{d:Dt}(h:(lD_ d).2=true):∀ t∈(lD_ d).1,t∈G0 d:=by
 unfold lD_ at h ⊢
 cases e:(vD_ d&&(G0 d).all gT_)
 ·rw[e] at h; cases h
 ·rw[cond_true]
  intro t ht
  rcases (pAT_1 t _ _).1 ht with h | h
  ·exact h
  ·cases h
theorem op8{f:Ft}(h:vF_ f=true)(ho:f.Op=8):∃ v F,f=fQ 8 v F:=by
 rcases gc_ (vFi_ h).2 with⟨o,g,rfl⟩ | ⟨t,rfl,_⟩ | ⟨p,rfl,_⟩ | ⟨o,p,q,g,rfl,_,_⟩ | ⟨o,w,p,g,rfl,_,_⟩
 ·have:o=8:=ho
  omega
 ·exact absurd (show(3:Int)=8 from ho) (by decide)
 ·exact absurd (show(4:Int)=8 from ho) (by decide)
 ·have:o=8:=ho
  omega
 ·have:o=8:=ho
  exact⟨w,p,by rw[this]⟩
theorem FnLemmas_true(a0:List Int)(h:LOk (fun x:Int=>0≤x∧x≤255) a0):FnLemmas a0=some true:=by
 unfold FnLemmas vBig
 rw[ah]
 by_cases hv:(65536:Int)<(a0.length:Int)
 ·rw[decide_eq_true hv]; rfl
 rw[decide_eq_false hv,cond_false]
 have hc:B_ a0:=⟨by omega,h.2⟩
 obtain⟨f,d,e,df,dd⟩:=dLo_ a0 h.2
 rw[e,ah]
 by_cases hu:vF_ f=true∧f.Op=8
 case neg=>
  obtain⟨n1,n2⟩:=lOn_ (d:=d) df.ok df.tot hu
  obtain⟨n3,n4⟩:=in_1 (d:=d) df.ok df.tot hu
  simp only[n1,n2,n3,n4,ah]; rfl
 obtain⟨v,F,rfl⟩:=op8 hu.1 hu.2
 have U:Uni v F:=⟨df.ok,hu.1⟩
 obtain⟨s1,i1⟩:=lOq_ U (df.hA v F rfl) dd.1 dd.2
 obtain⟨s2,i2⟩:=iq_1 U (df.hA v F rfl) dd.1 dd.2
 simp only[s1,s2,i1,i2,ah]
 unfold lemR insR
 cases hl:lemC v F d
 ·rfl
 have L:=li_1.1 hl
 cases hI:d.Instances.all (fun t=>(bF_ F v d).sok nameA t)
 ·rfl
 have UB:=Lu_ L U
 have r0:rS_1 a0 (Sa.mk [fQ 8 v F] [fQ 8 nameA (bF_ F v d)])=some true:=rSo_ hc (fun f hf=>by rw[List.mem_singleton.1 hf]; exact fv_ hu.1) (fun f hf=>by rw[List.mem_singleton.1 hf]; exact fv_ L.val) fun n h1 h3 e he hn hL=>
  ⟨_,List.mem_singleton.2 rfl,e_3 hc h1 (by omega) he (by omega) U L (hL _ (List.mem_singleton.2 rfl))⟩
 simp only[cond_true,Bool.true_and,beq_self_eq_true,r0,ah,aw,decide_true,LOi_ d dd.1 dd.2]
 cases hf:(lD_ d).2
 ·rfl
 rw[cond_true]
 by_cases h0:(d.Instances.length:Int)=0
 ·rw[decide_eq_true h0]; rfl
 have hne:d.Instances≠[]:=fun e=>h0 (by rw[e]; rfl)
 rw[decide_eq_false h0,cond_false]
 have hFI:∀ f∈d.Instances.map (fun t=>(bF_ F v d).sub nameA t),FS f:=fun f hf=>by
  obtain⟨t,ht,rfl⟩:=List.mem_map.1 hf
  exact sf_3 UB (List.all_eq_true.1 hI t ht)
 refine(congrArg (fun z=>thenL z _) (fi_ (ρ:=Bool) (fun _=>()) (lD_ d).1.length 0 fun j _ hj=>?_)).trans rfl
 have hj':j<(lD_ d).1.length:=by omega
 have hm:=gDm_ (l:=(lD_ d).1) hj'
 have hg:=(lDf_ d).1 _ hm
 obtain⟨r,r1,r2⟩:=sSo_ U (gTO_ hg).2 (by have:=(gTO_ hg).1; omega)
 rw[show idx (fQ 8 v F).Parts (0:Int)=some F from rfl,ah,igD_ hj',ah,show(fQ 8 v F).Var=v from rfl,r1,ah]
 cases er:r.2
 ·rfl
 ·obtain⟨_,e1,e2⟩:=r2 er
  rw[cond_true,e1,rSo_ hc hFI (fun f hf=>by rw[List.mem_singleton.1 hf]; exact fv_ e2) fun n h1 h3 e he hn hL=>
   ⟨_,List.mem_singleton.2 rfl,it_ hc h1 (by omega) he (by omega) U L hne (lm_1 hf _ hm) hg fun i hi=>hL _ (List.mem_map.2 ⟨i,hi,rfl⟩)⟩]
  rfl
end
end Go.Proofs.YtckabmmondelpaaGreat
