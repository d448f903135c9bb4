/- Lemmas of the proof; each says what it shows. -/
import Derived.Test.YtckabmmondelpaaGreatGp
import Derived.Test.YtckabmmondelpaaGreatAvZ
import Derived.Test.YtckabmmondelpaaGreatGsrt
import Derived.Test.YtckabmmondelpaaGreatGsf
import Derived.Test.YtckabmmondelpaaGreatGm
set_option linter.unusedSimpArgs false
set_option linter.unusedVariables false
set_option linter.defProp false
namespace Go.Proofs.YtckabmmondelpaaGreat
open Go.Av
open Bool renaming and_eq_true→aq
open Ft renaming ind'→bk
open List renaming map_cons→aD,sum_cons→bp,length_cons→aA,all_cons→bB,all_eq_true→ba,mem_cons→aU,mem_append→aS,length_nil→aQ,length_append→aP,nil_append→bh
open Nat renaming le_refl→aJ
open Option renaming bind_some→ah,bind→aa
open SizeOf renaming sizeOf→ap
open Tt renaming tot→bg,ind'→bj
section
theorem we_(a lo hi:Int):iw_ a lo hi=some (inR a lo hi):=ciR_ a lo hi
theorem lIe_2(a lo hi:Int):slI_5 a lo hi=some (inR a lo hi):=ciR_ a lo hi
def cLow(c:Int):Bool:=inR c 97 122
def cUp(c:Int):Bool:=inR c 65 90
def cDig(c:Int):Bool:=inR c 48 57
theorem iLe_(c:Int):iiL_ c=some (cLow c):=ciR_ c 97 122
theorem iUe_(c:Int):iiU_ c=some (cUp c):=ciR_ c 65 90
theorem iDe_(c:Int):iiD_ c=some (cDig c):=ciR_ c 48 57
theorem lSe_1(c:Int):slS_3 c=some (cLow c||cDig c):=by
 unfold slS_3 cLow cDig inR
 by_cases h1:(97:Int)≤c<;>by_cases h2:c≤(122:Int)<;>by_cases h3:(48:Int)≤c<;>by_cases h4:c≤(57:Int)<;>simp[h1,h2,h3,h4]
def varC(s:ByteArray)(j:Nat):Bool:=if j=0 then cUp (byt s 0) else(cLow (byt s j)||cDig (byt s j))
def iVS_(s:ByteArray):Bool:=inR (s.size:Int) 1 4&&(List.range s.size).all (varC s)
theorem iVe_(s:ByteArray)(hb:Big s.size):iiV_ s=some (iVS_ s):=by
 unfold iiV_
 rw[bn_ hb,ah,fNa_ (varC s)]
 ·simp only[we_,ah,iVS_]
  cases (List.range s.size).all (varC s)<;>cases inR (s.size:Int) 1 4<;>rfl
 ·intro j hj _
  simp only[sn_ hj,ah,iUe_,iLe_,iDe_,varC]
  by_cases h0:j=0
  ·subst h0
   cases cUp (byt s 0)<;>rfl
  ·have h1:¬ ((j:Int)=0):=by omega
   have h2:(0:Int)<(j:Int):=by omega
   rw[decide_eq_false h1,decide_eq_true h2,if_neg h0]
   cases cLow (byt s j)<;>cases cDig (byt s j)<;>rfl
theorem lVe_(s:ByteArray)(hb:Big s.size):slV_2 s=some (iVS_ s):=by
 unfold slV_2
 rw[lIe_2,ah]
 unfold iVS_
 cases hr:inR (s.size:Int) 1 4
 ·rfl
 ·have hs:0<s.size:=by have:=iRi_.1 hr; omega
  simp only[cond_true,Bool.true_and]
  rw[s_ hs,ah]
  by_cases h0:cUp (byt s 0)=true
  ·have hu:=iRi_.1 h0
   rw[decide_eq_false (by omega),cond_false,ah,decide_eq_false (by omega),cond_false,bn_ hb,ah,fNa_1 (varC s) hs (by simp[varC,h0])]
   ·cases (List.range s.size).all (varC s)<;>rfl
   ·intro j hj0 hj _
    simp only[sn_ hj,ah,lSe_1,varC]
    rw[if_neg (by omega)]
    cases (cLow (byt s j)||cDig (byt s j))<;>rfl
  ·have h1:(List.range s.size).all (varC s)=false:=List.all_eq_false.2 ⟨0,by simp; omega,by simp[varC,h0]⟩
   rw[h1]
   have hu:¬ (65≤byt s 0∧byt s 0≤90):=by intro g; exact h0 (iRi_.2 g)
   by_cases g:byt s 0<65
   ·rw[decide_eq_true g]; rfl
   ·rw[decide_eq_false g,cond_false,ah,decide_eq_true (by omega)]; rfl
def resv:List ByteArray:=[(⟨#[116,114,117,101]⟩:ByteArray),(⟨#[102,97,108,115,101]⟩:ByteArray),(⟨#[116,114,117,116,104]⟩:ByteArray),(⟨#[98,111,116,104]⟩:ByteArray),(⟨#[101,105,116,104,101,114]⟩:ByteArray),(⟨#[105,102]⟩:ByteArray),(⟨#[97,108,108]⟩:ByteArray),(⟨#[115,111,109,101]⟩:ByteArray)]
def symC(s:ByteArray)(j:Nat):Bool:=if j=0 then cLow (byt s 0) else(cLow (byt s j)||cDig (byt s j)||decide (byt s j=95))
def iSS_(s:ByteArray):Bool:=inR (s.size:Int) 1 6&&(List.range s.size).all (symC s)&&!resv.any (fun v=>decide (s=v))
theorem Cs_(xs:List ByteArray)(s:ByteArray):sCS_ xs s=some (xs.any (fun v=>decide (s=v))):=by
 unfold sCS_ sIS_
 obtain⟨r,h1,h2⟩:=fNf_1 (n:=xs.length) (p:=fun i=>decide (s=xs.getD i default)) (f:=fun i2 s2=>(idx xs (i2:Int)).bind fun v14=>bif decide (s=v14) then some (.rt (i2:Int)) else some (.nx ())) (fun j hj=>by
  simp only[igD_ hj,ah]
  cases decide (s=xs.getD j default)<;>rfl)
 rw[h1,ah,h2,ral_1 xs (fun v=>decide (s=v))]
theorem iSe_(s:ByteArray)(hb:Big s.size):iiS_ s=some (iSS_ s):=by
 unfold iiS_
 rw[bn_ hb,ah,fNa_ (symC s)]
 ·simp only[we_,ah,iSS_,ir_,Cs_]
  rw[show resv.any (fun v=>decide (s=v))=_ from rfl]
  unfold resv
  cases (List.range s.size).all (symC s)<;>cases inR (s.size:Int) 1 6<;>rfl
 ·intro j hj _
  simp only[sn_ hj,ah,iLe_,iDe_,symC]
  by_cases h0:j=0
  ·subst h0
   cases cLow (byt s 0)<;>rfl
  ·have h1:¬ ((j:Int)=0):=by omega
   rw[decide_eq_false h1,if_neg h0]
   cases cLow (byt s j)<;>cases cDig (byt s j)<;>cases decide (byt s j=95)<;>rfl
theorem lSe_(s:ByteArray)(hb:Big s.size):slS_6 s=some (iSS_ s):=by
 unfold slS_6
 rw[lIe_2,ah]
 unfold iSS_
 cases hr:inR (s.size:Int) 1 6
 ·rfl
 ·have hs:0<s.size:=by have:=iRi_.1 hr; omega
  simp only[cond_true,Bool.true_and]
  rw[s_ hs,ah]
  by_cases h0:cLow (byt s 0)=true
  ·have hu:=iRi_.1 h0
   rw[decide_eq_false (by omega),cond_false,ah,decide_eq_false (by omega),cond_false,bn_ hb,ah,fNa_1 (symC s) hs (by simp[symC,h0])]
   ·simp only[resv,List.any_cons,List.any_nil,Bool.or_false]
    generalize decide (s=_)=b1
    generalize decide (s=_)=b2
    generalize decide (s=_)=b3
    generalize decide (s=_)=b4
    generalize decide (s=_)=b5
    generalize decide (s=_)=b6
    generalize decide (s=_)=b7
    generalize decide (s=_)=b8
    cases (List.range s.size).all (symC s)<;>cases b1<;>cases b2<;>cases b3<;>cases b4<;>cases b5<;>cases b6<;>cases b7<;>cases b8<;>rfl
   ·intro j hj0 hj _
    simp only[sn_ hj,ah,lSe_1,symC]
    rw[if_neg (by omega)]
    cases (cLow (byt s j)||cDig (byt s j))<;>cases decide (byt s j=95)<;>rfl
  ·have h1:(List.range s.size).all (symC s)=false:=List.all_eq_false.2 ⟨0,by simp; omega,by simp[symC,h0]⟩
   rw[h1]
   have hu:¬ (97≤byt s 0∧byt s 0≤122):=by intro g; exact h0 (iRi_.2 g)
   by_cases g:byt s 0<97
   ·rw[decide_eq_true g]; rfl
   ·rw[decide_eq_false g,cond_false,ah,decide_eq_true (by omega)]; rfl
end
section
mutual
def Tt.cnt:Tt→Nat
 | .mk _ l=>1+Tt.cnts l
def Tt.cnts:List Tt→Nat
 | []=>0
 | a::l=>a.cnt+Tt.cnts l
end
theorem Tt.cnts_eq(l:List Tt):Tt.cnts l=(l.map Tt.cnt).sum:=by
 induction l with
 | nil=>rfl
 | cons a l ih=>rw[Tt.cnts,ih,aD,bp]
theorem Tcm_(x:ByteArray)(l:List Tt):(Tt.mk x l).cnt=1+(l.map Tt.cnt).sum:=by rw[Tt.cnt,Tt.cnts_eq]
mutual
def Tt.dep:Tt→Nat
 | .mk _ l=>1+Td_ l
def Td_:List Tt→Nat
 | []=>0
 | a::l=>max a.dep (Td_ l)
end
theorem Tdm_(x:ByteArray)(l:List Tt):(Tt.mk x l).dep=1+Td_ l:=by rw[Tt.dep]
theorem Tt.cnt_tot(t:Tt):t.cnt≤1+t.tot:=by
 refine Tt.ind (M:=fun t=>t.cnt≤1+t.tot) (fun x l ih=>?_) t
 rw[Tcm_,Tt.tot_mk]
 have:(l.map Tt.cnt).sum≤ltot bg l:=by
  clear x
  induction l with
  | nil=>simp[ltot]
  | cons a l ihl=>
   have h1:=ih a (by simp)
   have h2:=ihl (fun b hb=>ih b (by simp[hb]))
   simp only[ltot,aD,bp,aA] at h2 ⊢
   omega
 omega
theorem Tt.dep_cnt(t:Tt):t.dep≤t.cnt:=by
 refine Tt.ind (M:=fun t=>t.dep≤t.cnt) (fun x l ih=>?_) t
 rw[Tcm_,Tdm_]
 have:Td_ l≤(l.map Tt.cnt).sum:=by
  clear x
  induction l with
  | nil=>simp[Td_]
  | cons a l ihl=>
   have h1:=ih a (by simp)
   have h2:=ihl (fun b hb=>ih b (by simp[hb]))
   simp only[Td_,aD,bp]
   omega
 omega
theorem Tt.cnt_pos(t:Tt):1≤t.cnt:=by cases t; rw[Tcm_]; omega
def Cap(L c:Nat)(r:Int):Prop:=1≤r∧r≤c∧(c≤L→r=c)∧(L<c→L<r)
theorem Cap.le{L c:Nat}{r:Int}(h:Cap L c r):decide (r≤(L:Int))=decide (c≤L):=by
 by_cases e:c≤L
 ·have:=h.2.2.1 e; rw[decide_eq_true e,decide_eq_true (by omega)]
 ·have:=h.2.2.2 (by omega); rw[decide_eq_false e,decide_eq_false (by omega)]
theorem sl_2(f:Tt→Option Int):∀ (l:List Tt) (i:Nat) (s:Int) (c0:Nat),(∀ a∈l,∃ r,f a=some r∧Cap 30 a.cnt r)→1≤s→s≤c0→(c0≤30→s=c0)→(30<c0→30<s)→c0+(l.map Tt.cnt).sum≤8388610→
 ∃ r,thenL (ρ:=Int) (forL (fun _ v s=>bif decide ((30:Int)<s) then some (.rt s) else(f v).bind fun w=>some (.nx (wr (s+w)))) l i s) (fun s=>some s)=some r∧Cap 30 (c0+(l.map Tt.cnt).sum) r
 | [],i,s,c0,_,h1,h2,h3,h4,_=>⟨s,rfl,by simpa using⟨h1,h2,h3,h4⟩⟩
 | a::l,i,s,c0,hf,h1,h2,h3,h4,hb=>by
  simp only[aD,bp] at hb ⊢
  by_cases e:(30:Int)<s
  ·rw[fLr_ (r:=s) (by rw[decide_eq_true e]; rfl),tLi_1]
   exact⟨s,rfl,h1,by omega,fun g=>by omega,fun _=>e⟩
  ·obtain⟨r,hr,c1,c2,c3,c4⟩:=hf a (by simp)
   have hs:s=c0:=h3 (by omega)
   rw[fLn_ (s':=wr (s+r)) (by rw[decide_eq_false e,cond_false,hr]; rfl),wr64 (by omega) (by omega)]
   have:=sl_2 f l (i+1) (s+r) (c0+a.cnt) (fun b hb=>hf b (by simp[hb])) (by omega) (by omega) (fun g=>by have:=c3 (by omega); omega) (fun g=>by
    by_cases g2:a.cnt≤30
    ·have:=c3 g2; omega
    ·have:=c4 (by omega); omega) (by omega)
   rwa [Nat.add_assoc] at this
theorem ise_(t:Tt):t.cnt≤8388610→∃ r,(∀ n,2*ap t≤n→isN_1 n t=some r)∧Cap 30 t.cnt r:=by
 refine Tt.ind (M:=fun t=>t.cnt≤8388610→∃ r,(∀ n,2*ap t≤n→isN_1 n t=some r)∧Cap 30 t.cnt r) (fun x l ih hc=>?_) t
 rw[Tcm_] at hc ⊢
 obtain⟨R,hR⟩:=mc_ (fun a ha=>ih a ha (by have:=lsm_ Tt.cnt ha; omega))
 obtain⟨r,h1,h2⟩:=sl_2 (fun a=>some (R a)) l 0 1 1 (fun a ha=>⟨R a,rfl,(hR a ha).2⟩) (by omega) (by omega) (by omega) (by omega) hc
 refine⟨r,fun n hn=>?_,h2⟩
 cases n with
 | zero=>simp only[Tt.mk.sizeOf_spec] at hn; omega
 | succ n=>
  rw[isN_1]
  simp only[TAm_,fNi_]
  rw[← h1]
  congr 1
  refine fLc_ l 0 1 (fun j a s ha=>?_)
  have ha:=List.mem_of_getElem? ha
  simp only[(hR a ha).1 n (by have:=List.sizeOf_lt_of_mem ha; simp only[Tt.mk.sizeOf_spec] at hn; omega)]
theorem iso_(t:Tt)(h:t.tot≤4194304):∃ r,is_1 t=some r∧Cap 30 t.cnt r:=by
 obtain⟨r,h1,h2⟩:=ise_ t (by have:=Tt.cnt_tot t; omega)
 exact⟨r,le_ ⟨_,h1⟩,h2⟩
theorem ml_2(f:Tt→Int→Option Int)(L:Nat)(hL:L≤30):∀ (l:List Tt) (i:Nat) (s:Int) (c0:Nat),(∀ a∈l,∀ L':Nat,L'≤30→∃ r,f a L'=some r∧Cap L' a.cnt r)→1≤s→s≤c0→(c0≤L→s=c0)→(L<c0→L<s)→c0+(l.map Tt.cnt).sum≤8388610→
 ∃ r,thenL (ρ:=Int) (forL (fun _ v s=>bif decide (s≤(L:Int)) then(f v (wr ((L:Int)-s))).bind fun w=>some (.nx (wr (s+w))) else some (.rt s)) l i s) (fun s=>some s)=some r∧Cap L (c0+(l.map Tt.cnt).sum) r
 | [],i,s,c0,_,h1,h2,h3,h4,_=>⟨s,rfl,by simpa using⟨h1,h2,h3,h4⟩⟩
 | a::l,i,s,c0,hf,h1,h2,h3,h4,hb=>by
  simp only[aD,bp] at hb ⊢
  by_cases e:s≤(L:Int)
  ·have hs:s=c0:=h3 (by omega)
   have eL:wr ((L:Int)-s)=((L-c0:Nat):Int):=by rw[wr64 (by omega) (by omega)]; omega
   obtain⟨r,hr,c1,c2,c3,c4⟩:=hf a (by simp) (L-c0) (by omega)
   rw[fLn_ (s':=wr (s+r)) (by rw[decide_eq_true e,cond_true,eL,hr]; rfl),wr64 (by omega) (by omega)]
   have:=ml_2 f L hL l (i+1) (s+r) (c0+a.cnt) (fun b hb=>hf b (by simp[hb])) (by omega) (by omega) (fun g=>by have:=c3 (by omega); omega) (fun g=>by
    by_cases g2:a.cnt≤L-c0
    ·omega
    ·have:=c4 (by omega); omega) (by omega)
   rwa [Nat.add_assoc] at this
  ·rw[fLr_ (r:=s) (by rw[decide_eq_false e]; rfl),tLi_1]
   exact⟨s,rfl,h1,by omega,fun g=>by omega,fun _=>by omega⟩
theorem ls_2{α:Type}{m:Nat→Option α}{N:Nat}{r:α}(hs:∀ n,N≤n→m n=m N)(h:m N=some r):lim m=some r:=le_ ⟨N,fun n hn=>by rw[hs n hn,h]⟩
theorem sms_(t:Tt):∀ n m,2*ap t≤n→2*ap t≤m→∀ L,slM_1 n t L=slM_1 m t L:=by
 refine Tt.ind (M:=fun t=>∀ n m,2*ap t≤n→2*ap t≤m→∀ L,slM_1 n t L=slM_1 m t L) (fun x l ih n m hn hm L=>?_) t
 simp only[Tt.mk.sizeOf_spec] at hn hm
 cases n with
 | zero=>omega
 | succ n=>
  cases m with
  | zero=>omega
  | succ m=>
   rw[slM_1,slM_1]
   congr 1
   refine fNc_1 _ _ _ (fun j s hj=>?_)
   simp only[TAm_,Nat.zero_add] at hj ⊢
   rw[igD_ hj]
   simp only[ah]
   have hm':=gDm_ hj
   have:=List.sizeOf_lt_of_mem hm'
   rw[ih _ hm' n m (by omega) (by omega)]
theorem sme_(t:Tt):t.cnt≤8388610→∀ n,2*ap t≤n→∀ L:Nat,L≤30→∃ r,slM_1 n t L=some r∧Cap L t.cnt r:=by
 refine Tt.ind (M:=fun t=>t.cnt≤8388610→∀ n,2*ap t≤n→∀ L:Nat,L≤30→∃ r,slM_1 n t L=some r∧Cap L t.cnt r) (fun x l ih hc n hn L hL=>?_) t
 rw[Tcm_] at hc ⊢
 simp only[Tt.mk.sizeOf_spec] at hn
 cases n with
 | zero=>omega
 | succ n=>
  rw[slM_1]
  simp only[TAm_]
  obtain⟨r,h1,h2⟩:=ml_2 (slM_1 n) L hL l 0 1 1 (fun a ha L' hL'=>ih a ha (by have:=lsm_ Tt.cnt ha; omega) n (by have:=List.sizeOf_lt_of_mem ha; omega) L' hL') (by omega) (by omega) (by omega) (by omega) hc
  refine⟨r,?_,h2⟩
  rw[← h1]
  congr 1
  refine fNf_ _ _ l 0 1 (fun j a s ha=>?_)
  simp only[Nat.zero_add,in_,ha,ah]
theorem smo_(t:Tt)(h:t.tot≤4194304):∃ r,slM_4 t 30=some r∧Cap 30 t.cnt r:=by
 obtain⟨r,h1,h2⟩:=sme_ t (by have:=Tt.cnt_tot t; omega) _ (aJ _) 30 (by omega)
 exact⟨r,ls_2 (fun n hn=>sms_ t _ _ hn (aJ _) _) h1,h2⟩
theorem dl_(f:Tt→Option Int)(g:Int→Int→Option Int)(hg:∀ a b,g a b=some (max a b)):∀ (l:List Tt) (i:Nat) (s:Nat),(∀ a∈l,f a=some (a.dep:Int))→
 thenL (ρ:=Int) (forL (fun _ v s=>(f v).bind fun w=>(g s w).bind fun z=>some (.nx z)) l i (s:Int)) (fun s=>some (wr (s+1)))=some (wr (((max s (Td_ l):Nat):Int)+1))
 | [],i,s,_=>by simp[forL,tLi_,Td_]
 | a::l,i,s,h=>by
  have e:max (s:Int) (a.dep:Int)=((max s a.dep:Nat):Int):=by omega
  rw[fLn_ (s':=((max s a.dep:Nat):Int)) (by rw[h a (by simp),ah,hg,ah,e]),dl_ f g hg l (i+1) _ (fun b hb=>h b (by simp[hb])),Td_]
  congr 3; omega
theorem Me_(a b:Int):slM_2 a b=some (max a b):=by
 unfold slM_2
 by_cases h:b<a
 ·rw[decide_eq_true h,cond_true]; congr 1; omega
 ·rw[decide_eq_false h,cond_false]; congr 1; omega
theorem dl_3(l:List Tt):Td_ l≤(l.map Tt.cnt).sum:=by
 induction l with
 | nil=>simp[Td_]
 | cons a l ih=>simp only[Td_,aD,bp]; have:=a.dep_cnt; omega
theorem idN_2(t:Tt):t.cnt≤8388610→∀ n,2*ap t≤n→idN_ n t=some (t.dep:Int):=by
 refine Tt.ind (M:=fun t=>t.cnt≤8388610→∀ n,2*ap t≤n→idN_ n t=some (t.dep:Int)) (fun x l ih hc n hn=>?_) t
 rw[Tcm_] at hc
 rw[Tdm_]
 simp only[Tt.mk.sizeOf_spec] at hn
 cases n with
 | zero=>omega
 | succ n=>
  rw[idN_]
  simp only[TAm_,fNi_]
  have:=dl_ (idN_ n) (fun a b=>some (max a b)) (fun _ _=>rfl) l 0 0 (fun a ha=>ih a ha (by have:=lsm_ Tt.cnt ha; omega) n (by have:=List.sizeOf_lt_of_mem ha; omega))
  simp only[ah] at this
  refine this.trans ?_
  have:=dl_3 l
  rw[wr64 (by omega) (by omega)]; congr 1; omega
theorem sdN_(t:Tt):t.cnt≤8388610→∀ n,2*ap t≤n→slD_ n t=some (t.dep:Int):=by
 refine Tt.ind (M:=fun t=>t.cnt≤8388610→∀ n,2*ap t≤n→slD_ n t=some (t.dep:Int)) (fun x l ih hc n hn=>?_) t
 rw[Tcm_] at hc
 rw[Tdm_]
 simp only[Tt.mk.sizeOf_spec] at hn
 cases n with
 | zero=>omega
 | succ n=>
  rw[slD_]
  simp only[TAm_,fNi_]
  have:=dl_ (slD_ n) slM_2 Me_ l 0 0 (fun a ha=>ih a ha (by have:=lsm_ Tt.cnt ha; omega) n (by have:=List.sizeOf_lt_of_mem ha; omega))
  refine this.trans ?_
  have:=dl_3 l
  rw[wr64 (by omega) (by omega)]; congr 1; omega
theorem ido_(t:Tt)(h:t.tot≤4194304):id_ t=some (t.dep:Int):=le_ ⟨_,idN_2 t (by have:=Tt.cnt_tot t; omega)⟩
theorem sdo_(t:Tt)(h:t.tot≤4194304):slD_1 t=some (t.dep:Int):=le_ ⟨_,sdN_ t (by have:=Tt.cnt_tot t; omega)⟩
def sT_(t:Tt):Bool:=decide (t.cnt≤30)&&decide (t.dep≤8)
theorem iSo_(t:Tt)(h:t.tot≤4194304):iiS_1 t=some (sT_ t):=by
 obtain⟨r,h1,h2⟩:=iso_ t h
 have h3:=h2.le
 unfold iiS_1 sT_
 rw[h1,ah,show decide (r≤30)=decide (t.cnt≤30) from h3,ido_ t h,ah]
 cases decide (t.cnt≤30)
 ·rfl
 ·rw[cond_true,Bool.true_and]; congr 1; exact decide_eq_decide.2 (by omega)
theorem lFo_(t:Tt)(h:t.tot≤4194304):slF_2 t=some (sT_ t):=by
 obtain⟨r,h1,h2⟩:=smo_ t h
 have h3:=h2.le
 unfold slF_2 sT_
 rw[h1,ah,show decide (r≤30)=decide (t.cnt≤30) from h3,sdo_ t h,ah]
 cases decide (t.cnt≤30)
 ·rfl
 ·rw[cond_true,Bool.true_and]; congr 1; exact decide_eq_decide.2 (by omega)
mutual
def Tt.good:Tt→Bool
 | .mk x l=>bif iVS_ x then l.isEmpty else(iSS_ x&&decide (l.length≤4)&&Tt.goods l)
def Tt.goods:List Tt→Bool
 | []=>true
 | a::l=>a.good&&Tt.goods l
end
theorem Tt.goods_eq(l:List Tt):Tt.goods l=l.all Tt.good:=by
 induction l with
 | nil=>rfl
 | cons a l ih=>rw[Tt.goods,ih]; rfl
theorem Tgm_(x:ByteArray)(l:List Tt):(Tt.mk x l).good=bif iVS_ x then l.isEmpty else(iSS_ x&&decide (l.length≤4)&&l.all Tt.good):=by rw[Tt.good,Tt.goods_eq]
theorem Tt.good_u(t:Tt):t.good=bif iVS_ t.Name then t.Args.isEmpty else(iSS_ t.Name&&decide (t.Args.length≤4)&&t.Args.all Tt.good):=by cases t; exact Tgm_ _ _
theorem iEd_{α:Type}(l:List α):decide ((l.length:Int)=0)=l.isEmpty:=by cases l<;>simp; omega
theorem ihN_5(t:Tt):t.Ok→∀ n,3*ap t≤n→ihN_ n t=some t.good:=by
 refine bj (M:=fun t=>t.Ok→∀ n,3*ap t≤n→ihN_ n t=some t.good) (fun t ih hok n hn=>?_) t
 obtain⟨hx,hl,hall⟩:=hok.u
 rw[Tt.good_u]
 have hpos:=t.pos
 cases n with
 | zero=>omega
 | succ n=>
  rw[ihN_]
  rw[iVe_ _ hx,ah,iSe_ _ hx,ah,iEd_]
  cases iVS_ t.Name
  ·rw[cond_false,cond_false]
   cases iSS_ t.Name
   ·rfl
   ·by_cases h4:t.Args.length≤4
    ·rw[cond_true,decide_eq_true (show(t.Args.length:Int)≤4 by omega),cond_true,decide_eq_true h4,Bool.true_and,Bool.true_and]
     unfold sCF_1 sIF_
     rw[fl_ (p:=fun a=>!a.good) t.Args (fun a ha=>?_),ah,List.all_eq_not_any_not]
     have hs:=Tt.lt ha
     cases n with
     | zero=>omega
     | succ n=>
      rw[ihN_1,ih a ha (hall a ha) n (by omega)]; rfl
    ·rw[cond_true,decide_eq_false (show ¬ (t.Args.length:Int)≤4 by omega),decide_eq_false h4]; rfl
  ·rfl
theorem slN_5(t:Tt):t.Ok→∀ n,3*ap t≤n→slN_2 n t=some t.good:=by
 refine bj (M:=fun t=>t.Ok→∀ n,3*ap t≤n→slN_2 n t=some t.good) (fun t ih hok n hn=>?_) t
 obtain⟨hx,hl,hall⟩:=hok.u
 rw[Tt.good_u]
 have hpos:=t.pos
 cases n with
 | zero=>omega
 | succ n=>
  rw[slN_2]
  rw[lVe_ _ hx,ah,lSe_ _ hx,ah,iEd_]
  cases iVS_ t.Name
  ·rw[cond_false,cond_false]
   cases iSS_ t.Name
   ·rfl
   ·by_cases h4:t.Args.length≤4
    ·rw[cond_true,decide_eq_false (show ¬ (4:Int)<(t.Args.length:Int) by omega),cond_false,decide_eq_true h4,Bool.true_and,Bool.true_and,
      fNa_ (fun j=>(t.Args.getD j default).good) (fun j hj _=>?_),ral_ t.Args Tt.good]
     ·cases t.Args.all Tt.good<;>rfl
     ·have ha:=gDm_ hj
      have hs:=Tt.lt ha
      simp only[igD_ hj,ah,ih _ ha (hall _ ha) n (by omega)]
      cases (t.Args.getD j default).good<;>rfl
    ·rw[cond_true,decide_eq_true (show(4:Int)<(t.Args.length:Int) by omega),decide_eq_false h4]; rfl
  ·rfl
def gT_(t:Tt):Bool:=sT_ t&&t.good
theorem IVT_(t:Tt)(h:t.tot≤4194304)(hok:t.Ok):iIV_4 t=some (gT_ t):=by
 unfold iIV_4 gT_
 rw[iSo_ t h,ah,show ihN_2 t=some t.good from le_ ⟨_,ihN_5 t hok⟩,ah]
 cases sT_ t<;>rfl
theorem lGo_(t:Tt)(h:t.tot≤4194304)(hok:t.Ok):slG_1 t=some (gT_ t):=by
 unfold slG_1 gT_
 rw[lFo_ t h,ah,show slN_3 t=some t.good from le_ ⟨_,slN_5 t hok⟩,ah]
 cases sT_ t<;>rfl
end
section
def zT_(t:Tt):Bool:=decide (t.Name=(⟨#[]⟩:ByteArray))&&t.Args.isEmpty
theorem zTi_1(t:Tt):iiZ_1 t=some (zT_ t):=by
 unfold iiZ_1 zT_
 rw[iEd_]
 cases decide (t.Name=(⟨#[]⟩:ByteArray))<;>rfl
theorem zTs_(t:Tt):slN_1 t=some (zT_ t):=zTi_1 t
def aT_(t:Tt):Bool:=bif decide (t.Name=(⟨#[61]⟩:ByteArray)) then decide (t.Args.length=2)&&(sT_ t&&t.Args.all Tt.good) else iSS_ t.Name&&gT_ t
theorem ta_1{l:List Tt}(h:l.length=2):∃ x y,l=[x,y]:=by
 match l,h with
 | [x,y],_=>exact⟨x,y,rfl⟩
theorem hNo_(t:Tt)(hok:t.Ok):ihN_2 t=some t.good:=le_ ⟨_,ihN_5 t hok⟩
theorem lNo_(t:Tt)(hok:t.Ok):slN_3 t=some t.good:=le_ ⟨_,slN_5 t hok⟩
theorem ai_3(t:Tt)(h:t.tot≤4194304)(hok:t.Ok):iIV_ t=some (aT_ t):=by
 unfold iIV_ aT_ iiE_
 obtain⟨hx,hl,hall⟩:=hok.u
 rw[iSe_ _ hx,IVT_ t h hok,iSo_ t h]
 simp only[ah]
 cases decide (t.Name=(⟨#[61]⟩:ByteArray))
 ·simp only[cond_false]; cases iSS_ t.Name<;>rfl
 ·by_cases h2:t.Args.length=2
  ·obtain⟨x,y,e⟩:=ta_1 h2
   rw[decide_eq_true (show(t.Args.length:Int)=2 by omega),decide_eq_true h2]
   simp only[cond_true,Bool.true_and]
   cases sT_ t
   ·rfl
   ·rw[e] at hall ⊢
    rw[show(0:Int)=((0:Nat):Int) from rfl,show(1:Int)=((1:Nat):Int) from rfl,in_,in_]
    simp only[List.getElem?_cons_zero,List.getElem?_cons_succ,ah,hNo_ x (hall x (by simp)),hNo_ y (hall y (by simp)),cond_true,Bool.true_and,bB,List.all_nil,Bool.and_true]
    cases x.good<;>rfl
  ·rw[decide_eq_false (show ¬ (t.Args.length:Int)=2 by omega),decide_eq_false h2]; rfl
theorem as_2(t:Tt)(h:t.tot≤4194304)(hok:t.Ok):slA_1 t=some (aT_ t):=by
 unfold slA_1 aT_
 obtain⟨hx,hl,hall⟩:=hok.u
 rw[lSe_ _ hx,lGo_ t h hok,lFo_ t h]
 simp only[ah]
 cases decide (t.Name=(⟨#[61]⟩:ByteArray))
 ·simp only[cond_false]; cases iSS_ t.Name<;>rfl
 ·by_cases h2:t.Args.length=2
  ·obtain⟨x,y,e⟩:=ta_1 h2
   rw[decide_eq_true (show(t.Args.length:Int)=2 by omega),decide_eq_true h2]
   simp only[cond_true,Bool.true_and]
   cases sT_ t
   ·rfl
   ·rw[e] at hall ⊢
    rw[show(0:Int)=((0:Nat):Int) from rfl,show(1:Int)=((1:Nat):Int) from rfl,in_,in_]
    simp only[List.getElem?_cons_zero,List.getElem?_cons_succ,ah,lNo_ x (hall x (by simp)),lNo_ y (hall y (by simp)),cond_true,Bool.true_and,bB,List.all_nil,Bool.and_true]
    cases x.good<;>rfl
  ·rw[decide_eq_false (show ¬ (t.Args.length:Int)=2 by omega),decide_eq_false h2]; rfl
mutual
def Ft.cnt:Ft→Nat
 | .mk _ _ _ l=>1+Ft.cnts l
def Ft.cnts:List Ft→Nat
 | []=>0
 | a::l=>a.cnt+Ft.cnts l
end
theorem Ft.cnts_eq(l:List Ft):Ft.cnts l=(l.map Ft.cnt).sum:=by
 induction l with
 | nil=>rfl
 | cons a l ih=>rw[Ft.cnts,ih,aD,bp]
theorem Ft.cnt_u(a:Ft):a.cnt=1+(a.Parts.map Ft.cnt).sum:=by cases a; rw[Ft.cnt,Ft.cnts_eq]; rfl
theorem sll_{α:Type}{c t:α→Nat}:∀ l:List α,(∀ a∈l,c a≤1+t a)→(l.map c).sum≤ltot t l
 | [],_=>by simp[ltot]
 | a::l,h=>by
  have h1:=h a (by simp)
  have h2:=sll_ l (fun b hb=>h b (by simp[hb]))
  simp only[ltot,aD,bp,aA] at h2 ⊢
  omega
theorem Ft.cnt_tot(t:Ft):t.cnt≤1+t.tot:=by
 refine bk (M:=fun t=>t.cnt≤1+t.tot) (fun t ih=>?_) t
 rw[Ft.cnt_u,Ft.tot_u]
 have:=sll_ (c:=Ft.cnt) (t:=Ft.tot) t.Parts ih
 omega
theorem Ft.cnt_pos(t:Ft):1≤t.cnt:=by rw[Ft.cnt_u]; omega
theorem gl_2{α:Type}(cnt:α→Nat)(L:Nat)(hL:L≤1000)(f:α→Option Int):∀ (l:List α) (i:Nat) (s:Int) (c0:Nat),(∀ a∈l,∃ r,f a=some r∧Cap L (cnt a) r)→1≤s→s≤c0→(c0≤L→s=c0)→(L<c0→L<s)→c0+(l.map cnt).sum≤8388610→
 ∃ r,thenL (ρ:=Int) (forL (fun _ v s=>bif decide ((L:Int)<s) then some (.rt s) else(f v).bind fun w=>some (.nx (wr (s+w)))) l i s) (fun s=>some s)=some r∧Cap L (c0+(l.map cnt).sum) r
 | [],i,s,c0,_,h1,h2,h3,h4,_=>⟨s,rfl,by simpa using⟨h1,h2,h3,h4⟩⟩
 | a::l,i,s,c0,hf,h1,h2,h3,h4,hb=>by
  simp only[aD,bp] at hb ⊢
  by_cases e:(L:Int)<s
  ·rw[fLr_ (r:=s) (by rw[decide_eq_true e]; rfl),tLi_1]
   exact⟨s,rfl,h1,by omega,fun g=>by omega,fun _=>e⟩
  ·obtain⟨r,hr,c1,c2,c3,c4⟩:=hf a (by simp)
   have hs:s=c0:=h3 (by omega)
   rw[fLn_ (s':=wr (s+r)) (by rw[decide_eq_false e,cond_false,hr]; rfl),wr64 (by omega) (by omega)]
   have:=gl_2 cnt L hL f l (i+1) (s+r) (c0+cnt a) (fun b hb=>hf b (by simp[hb])) (by omega) (by omega) (fun g=>by have:=c3 (by omega); omega) (fun g=>by
    by_cases g2:cnt a≤L
    ·have:=c3 g2; omega
    ·have:=c4 (by omega); omega) (by omega)
   rwa [Nat.add_assoc] at this
theorem gl_3{α:Type}(cnt:α→Nat)(M:Nat)(hM:M≤1000)(f:α→Int→Option Int)(L:Nat)(hL:L≤M):∀ (l:List α) (i:Nat) (s:Int) (c0:Nat),(∀ a∈l,∀ L':Nat,L'≤M→∃ r,f a L'=some r∧Cap L' (cnt a) r)→1≤s→s≤c0→(c0≤L→s=c0)→(L<c0→L<s)→c0+(l.map cnt).sum≤8388610→
 ∃ r,thenL (ρ:=Int) (forL (fun _ v s=>bif decide (s≤(L:Int)) then(f v (wr ((L:Int)-s))).bind fun w=>some (.nx (wr (s+w))) else some (.rt s)) l i s) (fun s=>some s)=some r∧Cap L (c0+(l.map cnt).sum) r
 | [],i,s,c0,_,h1,h2,h3,h4,_=>⟨s,rfl,by simpa using⟨h1,h2,h3,h4⟩⟩
 | a::l,i,s,c0,hf,h1,h2,h3,h4,hb=>by
  simp only[aD,bp] at hb ⊢
  by_cases e:s≤(L:Int)
  ·have hs:s=c0:=h3 (by omega)
   have eL:wr ((L:Int)-s)=((L-c0:Nat):Int):=by rw[wr64 (by omega) (by omega)]; omega
   obtain⟨r,hr,c1,c2,c3,c4⟩:=hf a (by simp) (L-c0) (by omega)
   rw[fLn_ (s':=wr (s+r)) (by rw[decide_eq_true e,cond_true,eL,hr]; rfl),wr64 (by omega) (by omega)]
   have:=gl_3 cnt M hM f L hL l (i+1) (s+r) (c0+cnt a) (fun b hb=>hf b (by simp[hb])) (by omega) (by omega) (fun g=>by have:=c3 (by omega); omega) (fun g=>by
    by_cases g2:cnt a≤L-c0
    ·omega
    ·have:=c4 (by omega); omega) (by omega)
   rwa [Nat.add_assoc] at this
  ·rw[fLr_ (r:=s) (by rw[decide_eq_false e]; rfl),tLi_1]
   exact⟨s,rfl,h1,by omega,fun g=>by omega,fun _=>by omega⟩
theorem sOe_(t:Ft):t.cnt≤8388610→∃ r,(∀ n,2*ap t≤n→isO_ n t=some r)∧Cap 40 t.cnt r:=by
 refine bk (M:=fun t=>t.cnt≤8388610→∃ r,(∀ n,2*ap t≤n→isO_ n t=some r)∧Cap 40 t.cnt r) (fun t ih hc=>?_) t
 rw[Ft.cnt_u] at hc ⊢
 have hp:=t.pos
 obtain⟨R,hR⟩:=mc_ (fun a ha=>ih a ha (by have:=lsm_ Ft.cnt ha; omega))
 obtain⟨r,h1,h2⟩:=gl_2 Ft.cnt 40 (by omega) (fun a=>some (R a)) t.Parts 0 1 1 (fun a ha=>⟨R a,rfl,(hR a ha).2⟩) (by omega) (by omega) (by omega) (by omega) hc
 refine⟨r,fun n hn=>?_,h2⟩
 cases n with
 | zero=>omega
 | succ n=>
  rw[isO_]
  simp only[fNi_]
  rw[← h1]
  congr 1
  refine fLc_ t.Parts 0 1 (fun j a s ha=>?_)
  have ha:=List.mem_of_getElem? ha
  have:=Ft.lt ha
  simp only[(hR a ha).1 n (by omega)]
  rfl
theorem sOo_4(t:Ft)(h:t.tot≤4194304):∃ r,isO_1 t=some r∧Cap 40 t.cnt r:=by
 obtain⟨r,h1,h2⟩:=sOe_ t (by have:=Ft.cnt_tot t; omega)
 exact⟨r,le_ ⟨_,h1⟩,h2⟩
theorem lMs_(t:Ft):∀ n m,2*ap t≤n→2*ap t≤m→∀ L,slM_ n t L=slM_ m t L:=by
 refine bk (M:=fun t=>∀ n m,2*ap t≤n→2*ap t≤m→∀ L,slM_ n t L=slM_ m t L) (fun t ih n m hn hm L=>?_) t
 have hp:=t.pos
 cases n with
 | zero=>omega
 | succ n=>
  cases m with
  | zero=>omega
  | succ m=>
   rw[slM_,slM_]
   congr 1
   refine fNc_1 _ _ _ (fun j s hj=>?_)
   simp only[Nat.zero_add] at hj ⊢
   rw[igD_ hj]
   simp only[ah]
   have hm':=gDm_ hj
   have:=Ft.lt hm'
   rw[ih _ hm' n m (by omega) (by omega)]
theorem lMe_(t:Ft):t.cnt≤8388610→∀ n,2*ap t≤n→∀ L:Nat,L≤40→∃ r,slM_ n t L=some r∧Cap L t.cnt r:=by
 refine bk (M:=fun t=>t.cnt≤8388610→∀ n,2*ap t≤n→∀ L:Nat,L≤40→∃ r,slM_ n t L=some r∧Cap L t.cnt r) (fun t ih hc n hn L hL=>?_) t
 rw[Ft.cnt_u] at hc ⊢
 have hp:=t.pos
 cases n with
 | zero=>omega
 | succ n=>
  rw[slM_]
  obtain⟨r,h1,h2⟩:=gl_3 Ft.cnt 40 (by omega) (slM_ n) L hL t.Parts 0 1 1 (fun a ha L' hL'=>ih a ha (by have:=lsm_ Ft.cnt ha; omega) n (by have:=Ft.lt ha; omega) L' hL') (by omega) (by omega) (by omega) (by omega) hc
  refine⟨r,?_,h2⟩
  rw[← h1]
  congr 1
  refine fNf_ _ _ t.Parts 0 1 (fun j a s ha=>?_)
  simp only[Nat.zero_add,in_,ha,ah]
theorem lMo_(t:Ft)(h:t.tot≤4194304):∃ r,slM_3 t 40=some r∧Cap 40 t.cnt r:=by
 obtain⟨r,h1,h2⟩:=lMe_ t (by have:=Ft.cnt_tot t; omega) _ (aJ _) 40 (by omega)
 exact⟨r,ls_2 (fun n hn=>lMs_ t _ _ hn (aJ _) _) h1,h2⟩
def fC_(o:Int)(t:Tt)(v:ByteArray)(k:Nat):Bool:=
 bif decide (o=3) then decide (k=0)&&(aT_ t&&decide (v=(⟨#[]⟩:ByteArray)))
 else bif decide (o=8)||decide (o=9) then decide (k=1)&&(zT_ t&&iVS_ v)
 else(bif decide (o=1)||decide (o=2) then decide (k=0) else bif decide (o=4) then decide (k=1) else bif decide (o=5)||(decide (o=6)||decide (o=7)) then decide (k=2) else false)&&(zT_ t&&decide (v=(⟨#[]⟩:ByteArray)))
theorem oc_(o:Int):o=1∨o=2∨o=3∨o=4∨o=5∨o=6∨o=7∨o=8∨o=9∨(o≠1∧o≠2∧o≠3∧o≠4∧o≠5∧o≠6∧o≠7∧o≠8∧o≠9):=by omega
theorem lFo_1(a:Ft)(h:a.tot≤4194304)(hok:a.Ok):slF_3 a=some (fC_ a.Op a.Atom a.Var a.Parts.length):=by
 obtain⟨h1,h2,h3,h4⟩:=hok.u
 have ht:=a.tot_u
 unfold slF_3 fC_
 have e0:decide ((a.Parts.length:Int)=0)=decide (a.Parts.length=0):=decide_eq_decide.2 (by omega)
 have e1:decide ((a.Parts.length:Int)=1)=decide (a.Parts.length=1):=decide_eq_decide.2 (by omega)
 have e2:decide ((a.Parts.length:Int)=2)=decide (a.Parts.length=2):=decide_eq_decide.2 (by omega)
 rw[zTs_,as_2 _ (by omega) h2,lVe_ _ h3,e0,e1,e2]
 simp only[ah]
 generalize zT_ a.Atom=z
 generalize aT_ a.Atom=y
 generalize iVS_ a.Var=x
 generalize decide (a.Parts.length=0)=k0
 generalize decide (a.Parts.length=1)=k1
 generalize decide (a.Parts.length=2)=k2
 generalize decide (a.Var=(⟨#[]⟩:ByteArray))=u
 rcases oc_ a.Op with e | e | e | e | e | e | e | e | e | ⟨g1,g2,g3,g4,g5,g6,g7,g8,g9⟩
 all_goals first | (simp only[e]; revert z y x k0 k1 k2 u; decide) | (simp only[g1,g2,g3,g4,g5,g6,g7,g8,g9]; rfl)
mutual
def Ft.good:Ft→Bool
 | .mk o t v l=>fC_ o t v l.length&&Ft.goods l
def Ft.goods:List Ft→Bool
 | []=>true
 | a::l=>a.good&&Ft.goods l
end
theorem Ft.goods_eq(l:List Ft):Ft.goods l=l.all Ft.good:=by
 induction l with
 | nil=>rfl
 | cons a l ih=>rw[Ft.goods,ih]; rfl
theorem Ft.good_u(a:Ft):a.good=(fC_ a.Op a.Atom a.Var a.Parts.length&&a.Parts.all Ft.good):=by cases a; rw[Ft.good,Ft.goods_eq]; rfl
theorem lm_{α:Type}{t:α→Nat}{l:List α}{a:α}(h:a∈l):t a≤ltot t l:=by have:=tm_ t h; omega
theorem lFe_(a:Ft):a.Ok→a.tot≤4194304→∀ n,3*ap a≤n→slF_ n a=some a.good:=by
 refine bk (M:=fun a=>a.Ok→a.tot≤4194304→∀ n,3*ap a≤n→slF_ n a=some a.good) (fun a ih hok ht n hn=>?_) a
 obtain⟨h1,h2,h3,h4,hall⟩:=hok.u
 have hpos:=a.pos
 have htu:=a.tot_u
 cases n with
 | zero=>omega
 | succ n=>
  rw[slF_,lFo_1 a ht hok,Ft.good_u,ah]
  cases fC_ a.Op a.Atom a.Var a.Parts.length
  ·rfl
  ·rw[cond_true,Bool.true_and,fNa_ (fun j=>(a.Parts.getD j default).good) (fun j hj _=>?_),ral_ a.Parts Ft.good]
   ·cases a.Parts.all Ft.good<;>rfl
   ·have ha:=gDm_ hj
    have hs:=Ft.lt ha
    have hm:=lm_ (t:=Ft.tot) ha
    simp only[igD_ hj,ah,ih _ ha (hall _ ha) (by omega) n (by omega)]
    cases (a.Parts.getD j default).good<;>rfl
theorem iQe_(x:Int):iiQ_1 x=some (decide (x=8)||decide (x=9)):=by
 unfold iiQ_1
 cases decide (x=8)<;>rfl
theorem iBe_(x:Int):iiB_ x=some (decide (x=5)||(decide (x=6)||decide (x=7))):=by
 unfold iiB_
 cases decide (x=5)<;>cases decide (x=6)<;>rfl
theorem cF_2{p:Ft→Bool}{f:Ft→Option Bool}(l:List Ft)(h:∀ a∈l,f a=some (p a)):sCF_ l f=some (l.any p):=by
 unfold sCF_ sIF_1
 exact fl_ (p:=p) l h
theorem hFe_(a:Ft):a.Ok→a.tot≤4194304→∀ n,3*ap a≤n→ihF_1 n a=some a.good:=by
 refine bk (M:=fun a=>a.Ok→a.tot≤4194304→∀ n,3*ap a≤n→ihF_1 n a=some a.good) (fun a ih hok ht n hn=>?_) a
 obtain⟨h1,h2,h3,h4,hall⟩:=hok.u
 have hpos:=a.pos
 have htu:=a.tot_u
 cases n with
 | zero=>omega
 | succ n=>
  have hc:sCF_ a.Parts (fun y0=>ihF_ n y0)=some (!a.Parts.all Ft.good):=by
   rw[cF_2 (p:=fun x=>!x.good) a.Parts (fun x hx=>?_),List.all_eq_not_any_not,Bool.not_not]
   have hs:=Ft.lt hx
   have hm:=lm_ (t:=Ft.tot) hx
   cases n with
   | zero=>omega
   | succ n=>rw[ihF_,ih x hx (hall x hx) (by omega) n (by omega)]; rfl
  have e0:decide ((a.Parts.length:Int)=0)=decide (a.Parts.length=0):=decide_eq_decide.2 (by omega)
  have e1:decide ((a.Parts.length:Int)=1)=decide (a.Parts.length=1):=decide_eq_decide.2 (by omega)
  have e2:decide ((a.Parts.length:Int)=2)=decide (a.Parts.length=2):=decide_eq_decide.2 (by omega)
  rw[ihF_1,Ft.good_u]
  unfold fC_
  simp only[hc,e0,e1,e2,iQe_,iBe_,iVe_ _ h3,zTi_1,ai_3 _ (show a.Atom.tot≤4194304 by omega) h2,ah]
  clear hc e0 e1 e2 ih
  generalize zT_ a.Atom=z
  generalize aT_ a.Atom=y
  generalize iVS_ a.Var=x
  generalize decide (a.Parts.length=0)=k0
  generalize decide (a.Parts.length=1)=k1
  generalize decide (a.Parts.length=2)=k2
  generalize decide (a.Var=(⟨#[]⟩:ByteArray))=u
  generalize a.Parts.all Ft.good=w
  rcases oc_ a.Op with e | e | e | e | e | e | e | e | e | ⟨g1,g2,g3,g4,g5,g6,g7,g8,g9⟩
  all_goals first | (simp only[e]; clear e htu; revert z y x k0 k1 k2 u w; decide) | (simp only[g1,g2,g3,g4,g5,g6,g7,g8,g9]; rfl)
def vF_(a:Ft):Bool:=decide (a.cnt≤40)&&a.good
theorem vFi_1(a:Ft)(h:a.tot≤4194304)(hok:a.Ok):iIV_5 a=some (vF_ a):=by
 obtain⟨r,h1,h2⟩:=sOo_4 a h
 unfold iIV_5 vF_
 rw[h1,ah,show decide (r≤40)=decide (a.cnt≤40) from h2.le,show ihF_3 a=some a.good from le_ ⟨_,hFe_ a hok h⟩]
 cases decide (a.cnt≤40)<;>rfl
theorem vFs_(a:Ft)(h:a.tot≤4194304)(hok:a.Ok):slG_ a=some (vF_ a):=by
 obtain⟨r,h1,h2⟩:=lMo_ a h
 unfold slG_ vF_
 rw[h1,ah,show decide (r≤40)=decide (a.cnt≤40) from h2.le,show slF_5 a=some a.good from le_ ⟨_,lFe_ a hok h⟩]
 cases decide (a.cnt≤40)<;>rfl
end
section
noncomputable def same{α:Type}(a b:α):Bool:=@decide (a=b) (Classical.propDecidable _)
theorem si_{α:Type}{a b:α}:same a b=true↔a=b:=by unfold same; exact @decide_eq_true_iff _ (Classical.propDecidable _)
theorem sl_8{α:Type}{xs ys:List α}(h:¬ xs.length=ys.length):same xs ys=false:=by
 cases e:same xs ys
 ·rfl
 ·rw[si_] at e; exact absurd (by rw[e]) h
theorem as_9{α:Type}[Inhabited α]{xs ys:List α}(h:xs.length=ys.length):(List.range xs.length).all (fun j=>same (xs.getD j default) (ys.getD j default))=same xs ys:=by
 rw[Bool.eq_iff_iff,ba,si_]
 constructor
 ·intro g
  refine List.ext_getElem h (fun i h1 h2=>?_)
  have:=si_.1 (g i (by simpa using h1))
  simpa[List.getD,h1,h2] using this
 ·rintro rfl x _
  exact si_.2 rfl
theorem sl_3{α:Type}[Inhabited α](f:α→α→Option Bool)(xs ys:List α)(h:xs.length=ys.length)(hf:∀ a∈xs,∀ b,f a b=some (same a b)):
 thenL (ρ:=Bool) (σ:=Unit) (forN (fun (i:Nat) (_:Unit)=>aa (idx xs (i:Int)) fun v=>aa (idx ys (i:Int)) fun w=>aa (f v w) fun x=>bif x then some (.nx ()) else some (.rt false)) xs.length 0 ()) (fun _=>some true)=some (same xs ys):=by
 rw[fNa_ (fun j=>same (xs.getD j default) (ys.getD j default)) (r0:=false) (fun j hj _=>?_),as_9 h]
 ·cases same xs ys<;>rfl
 ·rw[igD_ hj,igD_ (h▸hj),ah,ah,hf _ (gDm_ hj),ah]
  cases same (xs.getD j default) (ys.getD j default)<;>rfl
theorem ld_{α:Type}(xs ys:List α):decide ((xs.length:Int)=(ys.length:Int))=decide (xs.length=ys.length):=decide_eq_decide.2 (by omega)
theorem Tsu_(a b:Tt):same a b=(decide (a.Name=b.Name)&&same a.Args b.Args):=by
 rw[Bool.eq_iff_iff,si_,aq,si_,decide_eq_true_iff]
 constructor
 ·rintro rfl; exact⟨rfl,rfl⟩
 ·rintro ⟨h1,h2⟩; rw[← a.eta,← b.eta,h1,h2]
theorem lSe_3(a:Tt):∀ b n,2*ap a≤n→slS_4 n a b=some (same a b)∧iET_ n a b=some (same a b):=by
 refine bj (M:=fun a=>∀ b n,2*ap a≤n→slS_4 n a b=some (same a b)∧iET_ n a b=some (same a b)) (fun a ih b n hn=>?_) a
 have hp:=a.pos
 cases n with
 | zero=>omega
 | succ n=>
  rw[slS_4,iET_,Tsu_]
  unfold sEF_
  rw[ld_]
  cases decide (a.Name=b.Name)
  ·exact⟨rfl,rfl⟩
  ·by_cases h:a.Args.length=b.Args.length
   ·have k:=fun x (hx:x∈a.Args) y=>ih x hx y n (by have:=Tt.lt hx; omega)
    rw[decide_eq_true h,cond_true,cond_true,sl_3 (slS_4 n) a.Args b.Args h (fun x hx y=>(k x hx y).1)]
    refine⟨rfl,?_⟩
    rw[cond_true,cond_true,sl_3 (iET_ n) a.Args b.Args h (fun x hx y=>(k x hx y).2)]; rfl
   ·rw[decide_eq_false h,sl_8 h]; exact⟨rfl,rfl⟩
theorem lSo_(a b:Tt):slS_9 a b=some (same a b):=le_ ⟨_,fun n hn=>(lSe_3 a b n hn).1⟩
theorem ETo_(a b:Tt):iET_1 a b=some (same a b):=le_ ⟨_,fun n hn=>(lSe_3 a b n hn).2⟩
end
section
def Srt(l:List ByteArray):Prop:=l.Pairwise fun a b=>slt a b=true
theorem si_3(a:ByteArray):slt a a=false:=bLi_ _
def leB(x y:List UInt8):Bool:=decide (x≤y)
theorem sBp_(a:List ByteArray):(sB_ a).Perm a:=by
 have h1:((a.map fun x=>x.data.toList).mergeSort leB).Perm (a.map fun x=>x.data.toList):=List.mergeSort_perm _ _
 have h2:=h1.map (fun l:List UInt8=>(⟨l.toArray⟩:ByteArray))
 rw[List.map_map] at h2
 have e:((fun l:List UInt8=>(⟨l.toArray⟩:ByteArray))∘fun x:ByteArray=>x.data.toList)=id:=by funext x; cases x; rfl
 rw[e,List.map_id] at h2
 exact h2
def putS(x:ByteArray):List ByteArray→List ByteArray
 | []=>[x]
 | y::l=>if slt y x=true then y::putS x l else if y=x then y::l else x::y::l
theorem pSm_(x z:ByteArray):∀ l,z∈putS x l↔z=x∨z∈l
 | []=>by simp[putS]
 | y::l=>by
  simp only[putS]
  split
  ·simp only[aU,pSm_ x z l]
   constructor
   ·rintro (h | h | h)<;>simp[h]
   ·rintro (h | h | h)<;>simp[h]
  ·split
   ·rename_i h; subst h; simp
   ·simp
theorem pSl_(x:ByteArray):∀ l,(putS x l).length≤l.length+1
 | []=>by simp[putS]
 | y::l=>by
  have:=pSl_ x l
  simp only[putS]
  split
  ·simp only[aA]; omega
  ·split<;>simp
structure GOk(m:GMap Int):Prop where
 nd:(m.es.map (·.1)).Nodup
theorem GOk.put{m:GMap Int}(h:GOk m)(k:ByteArray)(v:Int):GOk (GMap.put m k v):=⟨by
 unfold GMap.put
 simp only[gk_]
 cases hh:ghas k m.es with
 | true=>simpa using h.nd
 | false=>
  have:k∉m.es.map (·.1):=fun hm=>by rw[(gi_ k _).2 hm] at hh; cases hh
  simp only[Bool.false_eq_true,if_false]
  exact List.nodup_append.2 ⟨h.nd,by simp,fun a ha b hb=>by simp at hb; subst hb; exact fun e=>this (e▸ha)⟩⟩
end
section
mutual
def Tt.vars:Tt→List ByteArray
 | .mk x l=>bif iVS_ x then [x] else Tv_ l
def Tv_:List Tt→List ByteArray
 | []=>[]
 | a::l=>a.vars++Tv_ l
end
theorem Tvu_(t:Tt):t.vars=bif iVS_ t.Name then [t.Name] else Tv_ t.Args:=by cases t; rw[Tt.vars]; rfl
theorem Tt.cnt_u(t:Tt):t.cnt=1+Tt.cnts t.Args:=by cases t; rw[Tt.cnt]; rfl
theorem nC_{t:Tt}(h:t.good=true):(iVS_ t.Name=true∧t.Args=[])∨(iVS_ t.Name=false∧iSS_ t.Name=true∧t.Args.length≤4∧∀ a∈t.Args,a.good=true):=by
 rw[Tt.good_u] at h
 cases hv:iVS_ t.Name
 ·rw[hv,cond_false] at h
  simp only[aq,decide_eq_true_eq,ba] at h
  exact Or.inr ⟨rfl,h.1.1,h.1.2,h.2⟩
 ·rw[hv,cond_true] at h
  exact Or.inl ⟨rfl,by simpa using h⟩
theorem iVg_{t:Tt}(h:t.good=true):iiV_2 t=some (iVS_ t.Name):=by
 unfold iiV_2
 rcases nC_ h with⟨hv,_⟩ | ⟨hv,hs,_⟩
 ·have h2:=hv
  unfold iVS_ at h2
  rw[aq] at h2
  have hz:0<t.Name.size:=by have:=iRi_.1 h2.1; omega
  have h3:=List.all_eq_true.1 h2.2 0 (by simpa using hz)
  rw[s_ hz,ah,iUe_,ah,hv]
  simpa[varC] using h3
 ·have h2:=hs
  unfold iSS_ at h2
  rw[aq,aq] at h2
  have hz:0<t.Name.size:=by have:=iRi_.1 h2.1.1; omega
  have h3:=List.all_eq_true.1 h2.1.2 0 (by simpa using hz)
  rw[s_ hz,ah,iUe_,ah,hv]
  have h4:cLow (byt t.Name 0)=true:=by simpa[symC] using h3
  have h5:=iRi_.1 h4
  congr 1
  rw[← Bool.not_eq_true]
  intro g
  have:=iRi_.1 g
  omega
def VS(Q:List ByteArray→Prop)(acc v:List ByteArray)(vs:List ByteArray)(c:Nat):Prop:=(∀ x,x∈v↔x∈acc∨x∈vs)∧v.length≤acc.length+c∧(Q acc→Q v)
theorem vl_1(Q:List ByteArray→Prop)(F:Nat→List ByteArray→Tt→Option (List ByteArray))(N:Nat):∀ (l:List Tt) (i:Nat) (acc:List ByteArray),
 (∀ a∈l,∀ acc,Q acc→acc.length+a.cnt≤1000→∃ v,(∀ n,N≤n→F n acc a=some v)∧VS Q acc v a.vars a.cnt)→Q acc→acc.length+Tt.cnts l≤1000→
 ∃ v,(∀ n,N≤n→forL (ρ:=List ByteArray) (fun _ x s=>(F n s x).bind fun w=>some (.nx w)) l i acc=some (.inr v))∧VS Q acc v (Tv_ l) (Tt.cnts l)
 | [],i,acc,_,hq,_=>⟨acc,fun _ _=>rfl,fun x=>by simp[Tv_],by simp[Tt.cnts],id⟩
 | a::l,i,acc,h,hq,hb=>by
  simp only[Tt.cnts] at hb
  obtain⟨v,h1,h2,h3,h4⟩:=h a (by simp) acc hq (by omega)
  obtain⟨w,g1,g2,g3,g4⟩:=vl_1 Q F N l (i+1) v (fun b hb=>h b (by simp[hb])) (h4 hq) (by omega)
  refine⟨w,fun n hn=>?_,fun x=>?_,?_,fun q=>g4 (h4 q)⟩
  ·rw[fLn_ (s':=v) (by rw[h1 n hn]; rfl),g1 n hn]
  ·rw[g2,h2,Tv_,aS,or_assoc]
  ·simp only[Tt.cnts]; omega
theorem cNo_(t:Tt):t.good=true→∀ acc,True→acc.length+t.cnt≤1000→∃ v,(∀ n,2*ap t≤n→icN_ n acc t=some v)∧VS (fun _=>True) acc v t.vars t.cnt:=by
 refine bj (M:=fun t=>t.good=true→∀ acc,True→acc.length+t.cnt≤1000→∃ v,(∀ n,2*ap t≤n→icN_ n acc t=some v)∧VS (fun _=>True) acc v t.vars t.cnt) (fun t ih hg acc _ hb=>?_) t
 have hp:=t.pos
 have hiv:=iVg_ hg
 rcases nC_ hg with⟨hv,ha⟩ | ⟨hv,hs,_,hall⟩
 ·rw[Tvu_,hv,cond_true]
  have hc:=t.cnt_pos
  refine⟨bif acc.any (fun v=>decide (t.Name=v)) then acc else acc++[t.Name],fun n hn=>?_,fun x=>?_,?_,fun _=>trivial⟩
  ·cases n with
   | zero=>omega
   | succ n=>
    rw[icN_,hiv,hv,ha]
    simp only[ah,aQ,Cs_]
    cases acc.any (fun v=>decide (t.Name=v))
    ·simp only[cond_false,cond_true,app]
     rw[if_pos (by simp only[aA,aQ]; omega)]; rfl
    ·rfl
  ·cases e:acc.any (fun v=>decide (t.Name=v))
   ·simp
   ·rw[cond_true]
    rw[List.any_eq_true] at e
    obtain⟨y,y1,y2⟩:=e
    have y2:=of_decide_eq_true y2
    refine⟨Or.inl,fun g=>g.elim id fun g=>?_⟩
    rw[List.mem_singleton] at g
    rw[g,y2]; exact y1
  ·cases acc.any (fun v=>decide (t.Name=v))
   ·simp only[cond_false,aP,aA,aQ]; omega
   ·simp only[cond_true]; omega
 ·rw[Tvu_,hv,cond_false]
  have hcu:=t.cnt_u
  obtain⟨v,h1,h2,h3,h4⟩:=vl_1 (fun _=>True) (fun n s x=>icN_ n s x) (2*ap t-1) t.Args 0 acc (fun a ha acc _ hb=>by
   obtain⟨v,k1,k2⟩:=ih a ha (hall a ha) acc trivial hb
   exact⟨v,fun n hn=>k1 n (by have:=Tt.lt ha; omega),k2⟩) trivial (by omega)
  refine⟨v,fun n hn=>?_,h2,by omega,h4⟩
  cases n with
  | zero=>omega
  | succ n=>
   rw[icN_,hiv,hv]
   simp only[ah,cond_false,Bool.cond_self,fNi_]
   rw[h1 n (by omega)]; rfl
theorem co_{t:Tt}(hg:t.good=true)(hc:t.cnt≤1000):∃ v,ic_ [] t=some v∧∀ x,x∈v↔x∈t.vars:=by
 obtain⟨v,h1,h2,_⟩:=cNo_ t hg [] trivial (by simpa using hc)
 exact⟨v,le_ ⟨_,h1⟩,fun x=>by simpa using h2 x⟩
theorem lPe_(x:ByteArray)(l:List ByteArray)(hl:l.length≤4194304):slP_5 l x=some (putS x l):=by
 unfold slP_5
 have tl:∀ {β:Type} (K:List ByteArray→Option β) (pre rest:List ByteArray),pre.length+rest.length≤4194304→(aa (slc (pre++rest) (0:Int) (pre.length:Int)) fun v36=>aa (app ([]) v36) fun v37=>aa (app v37 ([x])) fun v40=>aa (slc (pre++rest) (pre.length:Int) ((pre++rest).length:Int)) fun v43=>aa (app v40 v43) fun v44=>K v44)=K (pre++x::rest):=by
  intro β K pre rest h
  have e1:slc (pre++rest) (0:Int) (pre.length:Int)=some pre:=by
   unfold slc; rw[if_pos ⟨by omega,by omega,by simp; omega⟩]; simp
  have e2:slc (pre++rest) (pre.length:Int) ((pre++rest).length:Int)=some rest:=by
   unfold slc; rw[if_pos ⟨by omega,by simp; omega,by omega⟩]; simp only[Int.toNat_natCast,List.take_length,List.drop_left]
  rw[e1,e2]
  simp only[ah,app,aQ,Nat.zero_add,bh]
  rw[if_pos (by omega)]
  simp only[ah,aA,aQ]
  rw[if_pos (by omega)]
  simp only[ah,aP,aA,aQ]
  rw[if_pos (by omega)]
  simp
 have key:∀ (rest pre:List ByteArray),pre.length+rest.length≤4194304→
  thenL (ρ:=List ByteArray) (forN (fun (i2:Nat) (s2:Unit)=>
   aa (idx (pre++rest) (i2:Int)) fun v13=>
   bif Op.bytesLess v13.data.toList x.data.toList then some (.nx ())
   else aa (idx (pre++rest) (i2:Int)) fun v27=>bif decide (v27=x) then some (.rt (pre++rest)) else
    aa (slc (pre++rest) (0:Int) (i2:Int)) fun v36=>aa (app ([]) v36) fun v37=>aa (app v37 ([x])) fun v40=>aa (slc (pre++rest) (i2:Int) ((pre++rest).length:Int)) fun v43=>aa (app v40 v43) fun v44=>some (.rt v44)) rest.length pre.length ()) (fun _=>
   aa (slc (pre++rest) (0:Int) (((pre++rest).length:Nat):Int)) fun v36=>aa (app ([]) v36) fun v37=>aa (app v37 ([x])) fun v40=>aa (slc (pre++rest) (((pre++rest).length:Nat):Int) ((pre++rest).length:Int)) fun v43=>aa (app v40 v43) fun v44=>some v44)=some (pre++putS x rest):=by
  intro rest
  induction rest with
  | nil=>
   intro pre h
   have:=tl some pre [] (by simpa using h)
   simpa[putS,forN,tLi_] using this
  | cons y rest ih=>
   intro pre h
   simp only[putS,aA]
   by_cases hy:slt y x=true
   ·rw[fNn_ (s':=()) (by rw[im_,ah,show Op.bytesLess y.data.toList x.data.toList=true from hy]; rfl),if_pos hy]
    have:=ih (pre++[y]) (by simp at h ⊢; omega)
    simpa using this
   ·have hy':Op.bytesLess y.data.toList x.data.toList=false:=by simpa[slt] using hy
    by_cases e:y=x
    ·rw[fNr_ (r:=pre++y::rest) (by rw[im_,ah,hy',cond_false,ah,decide_eq_true e]; rfl),tLi_1,if_neg hy,if_pos e]
    ·rw[fNr_ (r:=pre++x::y::rest) (by
      rw[im_,ah,hy',cond_false,ah,decide_eq_false e,cond_false]
      exact tl (fun v=>some (Flow.rt v)) pre (y::rest) h),tLi_1,if_neg hy,if_neg e]
 exact key l [] (by simpa using hl)
end
section
theorem mapL{α β ρ:Type}{f:α→Option β}{g:α→β}:∀ (l:List α) (i:Nat) (s:List β),(∀ a∈l,f a=some (g a))→s.length+l.length≤1073741824→
 forL (ρ:=ρ) (fun _ x (s:List β)=>(f x).bind fun v=>(app s [v]).bind fun w=>some (.nx w)) l i s=some (.inr (s++l.map g))
 | [],i,s,_,_=>by simp[forL]
 | a::l,i,s,h,hb=>by
  simp only[aA] at hb
  rw[fLn_ (s':=s++[g a]) (by rw[h a (by simp),ah]; unfold app; rw[if_pos (by simp only[aA,aQ]; omega)]; rfl),
   mapL l (i+1) _ (fun b hb=>h b (by simp[hb])) (by simp only[aP,aA,aQ]; omega)]
  simp
theorem setL{α β ρ:Type}(f:α→Option β)(g:α→β)(z:β):∀ (xs:List α) (pre:List β),(∀ x∈xs,f x=some (g x))→
 forL (ρ:=ρ) (fun i v s=>(f v).bind fun w=>(idx s (i:Int)).bind fun _=>(idx s (i:Int)).bind fun _=>some (.nx (s.set (i:Int).toNat w))) xs pre.length (pre++List.replicate xs.length z)=some (.inr (pre++xs.map g))
 | [],pre,_=>by simp[forL]
 | x::xs,pre,h=>by
  have hx:=h x (by simp)
  have e:(pre++List.replicate (x::xs).length z)[pre.length]?=some z:=by simp[List.replicate_succ]
  rw[fLn_ (s':=(pre++[g x])++List.replicate xs.length z) (by
   rw[hx,ah,in_,e,ah,ah,Int.toNat_natCast]
   simp[List.replicate_succ])]
  have:=setL (ρ:=ρ) f g z xs (pre++[g x]) (fun y hy=>h y (by simp[hy]))
  simp only[aP,aA,aQ,Nat.zero_add] at this
  rw[this]; simp
theorem cl_:∀ l:List Tt,l.length≤Tt.cnts l
 | []=>by simp
 | a::l=>by have:=cl_ l; have:=a.cnt_pos; simp only[Tt.cnts,aA]; omega
theorem cm_{a:Tt}:∀ {l:List Tt},a∈l→a.cnt≤Tt.cnts l
 | b::l,h=>by
  simp only[Tt.cnts]
  rcases List.mem_cons.1 h with rfl | h
  ·omega
  ·have:=cm_ h; omega
theorem ml_3{n:Nat}(h:n≤1073741824):mkn (n:Int)=some n:=by unfold mkn; rw[if_pos (by omega)]; simp
theorem oT_(t:Tt):t.cnt≤10000000→∀ n,2*ap t≤n→slO_4 n t=some t:=by
 refine bj (M:=fun t=>t.cnt≤10000000→∀ n,2*ap t≤n→slO_4 n t=some t) (fun t ih hc n hn=>?_) t
 have hp:=t.pos
 have hu:=t.cnt_u
 have hl:=cl_ t.Args
 cases n with
 | zero=>omega
 | succ n=>
  rw[slO_4]
  simp only[fNi_]
  rw[mapL (f:=slO_4 n) (g:=fun x=>x) t.Args 0 [] (fun a ha=>ih a ha (by have:=cm_ ha; omega) n (by have:=Tt.lt ha; omega)) (by simp; omega),tLi_]
  simp[t.eta]
theorem ownT(t:Tt)(h:t.cnt≤10000000):slO_7 t=some t:=le_ ⟨_,oT_ t h⟩
theorem cT_1(t:Tt):t.cnt≤10000000→∀ n,3*ap t≤n→icT_1 n t=some t:=by
 refine bj (M:=fun t=>t.cnt≤10000000→∀ n,3*ap t≤n→icT_1 n t=some t) (fun t ih hc n hn=>?_) t
 have hp:=t.pos
 have hu:=t.cnt_u
 have hl:=cl_ t.Args
 obtain⟨m,rfl⟩:∃ m,n=m+2:=⟨n-2,by omega⟩
 show icT_1 (m+2) _=_
 rw[icT_1]
 show aa (icT_3 (m+1) t.Args) _=_
 rw[icT_3,iEd_]
 cases he:t.Args.isEmpty
 ·rw[cond_false,toL (f:=icT_1 m) (g:=fun x=>x) (z:=(Tt.mk (⟨#[]⟩:ByteArray) ([]))) (xs:=t.Args) (fun a ha=>ih a ha (by have:=cm_ ha; omega) m (by have:=Tt.lt ha; omega)) (by omega)]
  simp[t.eta]
 ·have h0:t.Args=[]:=by simpa using he
  rw[cond_true,ah]
  conv=>rhs; rw[← t.eta,h0]
theorem cT_(t:Tt)(h:t.cnt≤10000000):icT_5 t=some t:=le_ ⟨_,cT_1 t h⟩
theorem cot_{t:Tt}(h:t.tot≤4194304):t.cnt≤10000000:=by have:=Tt.cnt_tot t; omega
theorem Ft.tot_atom(a:Ft):a.Atom.tot≤a.tot:=by rw[Ft.tot_u]; omega
theorem Ftp_{a p:Ft}(h:p∈a.Parts):p.tot+1≤a.tot:=by
 have:=tm_ Ft.tot h
 rw[Ft.tot_u a]; omega
theorem Ft.tot_len(a:Ft):a.Parts.length≤a.tot:=by
 have:=ll_ Ft.tot a.Parts
 rw[Ft.tot_u a]; omega
theorem mPe_(a:Ft)(f:Ft→Option Ft)(g:Ft→Ft)(h:∀ p∈a.Parts,f p=some (g p))(ht:a.tot≤4194304):
 imP_2 a f=some (Ft.mk a.Op a.Atom a.Var (a.Parts.map g)):=by
 unfold imP_2
 rw[cT_ _ (cot_ (by have:=a.tot_atom; omega)),ah]
 simp only[fNi_]
 rw[mapL (f:=f) (g:=g) a.Parts 0 [] h (by have:=a.tot_len; simp; omega),tLi_]
 simp
theorem cF_4(a:Ft):a.tot≤4194304→∀ n,2*ap a≤n→icF_ n a=some a:=by
 refine bk (M:=fun a=>a.tot≤4194304→∀ n,2*ap a≤n→icF_ n a=some a) (fun a ih ht n hn=>?_) a
 have hp:=a.pos
 cases n with
 | zero=>omega
 | succ n=>
  rw[icF_,mPe_ a _ (fun x=>x) (fun p hp=>ih p hp (by have:=Ftp_ hp; omega) n (by have:=Ft.lt hp; omega)) ht]
  simp[a.eta]
theorem cF_3(a:Ft)(h:a.tot≤4194304):icF_1 a=some a:=le_ ⟨_,cF_4 a h⟩
theorem oF_(a:Ft):a.tot≤4194304→∀ n,2*ap a≤n→slO_3 n a=some a:=by
 refine bk (M:=fun a=>a.tot≤4194304→∀ n,2*ap a≤n→slO_3 n a=some a) (fun a ih ht n hn=>?_) a
 have hp:=a.pos
 cases n with
 | zero=>omega
 | succ n=>
  rw[slO_3,ownT _ (cot_ (by have:=a.tot_atom; omega)),ah]
  simp only[fNi_]
  rw[mapL (f:=slO_3 n) (g:=fun x=>x) a.Parts 0 [] (fun p hp=>ih p hp (by have:=Ftp_ hp; omega) n (by have:=Ft.lt hp; omega)) (by have:=a.tot_len; simp; omega),tLi_]
  simp[a.eta]
theorem ownF(a:Ft)(h:a.tot≤4194304):slO_1 a=some a:=le_ ⟨_,oF_ a h⟩

mutual
def sbT(n:ByteArray)(t:Tt):Tt→Tt
 | .mk x l=>bif l.isEmpty&&decide (x=n) then t else .mk x (sbTs n t l)
def sbTs(n:ByteArray)(t:Tt):List Tt→List Tt
 | []=>[]
 | a::l=>sbT n t a::sbTs n t l
end
theorem sTe_(n:ByteArray)(t:Tt)(l:List Tt):sbTs n t l=l.map (sbT n t):=by
 induction l with
 | nil=>rfl
 | cons a l ih=>rw[sbTs,ih]; rfl
theorem sTu_(n:ByteArray)(t a:Tt):sbT n t a=bif a.Args.isEmpty&&decide (a.Name=n) then t else .mk a.Name (a.Args.map (sbT n t)):=by cases a; rw[sbT,sTe_]; rfl
theorem lPe_1(n:ByteArray)(t:Tt)(h:t.cnt≤10000000):slP_7 ⟨[]⟩ n t=some (bif decide (t.Name=n) then⟨[]⟩ else⟨[⟨n,t⟩]⟩):=by
 unfold slP_7
 cases decide (t.Name=n)
 ·simp only[cond_false,aQ,fNz_,tLi_,ownT t h]
  rfl
 ·rfl
def one(n:ByteArray)(t:Tt):Sb:=bif decide (t.Name=n) then⟨[]⟩ else⟨[⟨n,t⟩]⟩
theorem fo_4(n:ByteArray)(t:Tt)(x:ByteArray):slF_4 (one n t) x=some (bif decide (t.Name=n) then -1 else bif decide (n=x) then 0 else -1):=by
 unfold one
 cases decide (t.Name=n)
 ·simp only[cond_false,slF_4,aA,aQ]
  show thenL (forN _ (0+1) 0 ()) _=_
  cases e:decide (n=x)
  ·rw[fNn_ (s':=()) (by show aa (some _) _=_; rw[ah,e]; rfl)]; rfl
  ·rw[fNr_ (r:=((0:Nat):Int)) (by show aa (some _) _=_; rw[ah,e]; rfl)]; rfl
 ·rfl
theorem sn_2{n:ByteArray}{t a:Tt}(hn:iVS_ n=true)(ha:iVS_ a.Name=false):sbT n t a=.mk a.Name (a.Args.map (sbT n t)):=by
 rw[sTu_,decide_eq_false (fun e=>by rw[e,hn] at ha; cases ha),Bool.and_false,cond_false]
theorem lAN_{n:ByteArray}{t:Tt}(hn:iVS_ n=true)(ht:t.cnt≤10000000)(hg:t.good=true)(a:Tt):a.Ok→a.good=true→∀ k,2*ap a≤k→slA_ k (one n t) a=some (sbT n t a):=by
 refine bj (M:=fun a=>a.Ok→a.good=true→∀ k,2*ap a≤k→slA_ k (one n t) a=some (sbT n t a)) (fun a ih hok hga k hk=>?_) a
 have hp:=a.pos
 cases k with
 | zero=>omega
 | succ k=>
  rw[slA_,lVe_ _ hok.u.1,ah]
  rcases nC_ hga with⟨hv,ha⟩ | ⟨hv,hs,h4,hall⟩
  ·rw[hv,cond_true,fo_4,ah,sTu_,ha]
   by_cases e:t.Name=n
   ·rw[decide_eq_true e,cond_true]
    have hta:t.Args=[]:=by
     rcases nC_ hg with⟨_,h⟩ | ⟨h,_⟩
     ·exact h
     ·rw[e,hn] at h; cases h
    rw[show decide ((0:Int)≤-1)=false from rfl,cond_false]
    by_cases e2:a.Name=n
    ·rw[decide_eq_true e2]
     have:t=⟨a.Name,[]⟩:=by rw[← t.eta,hta,e,e2]
     rw[this]; rfl
    ·rw[decide_eq_false e2]; rfl
   ·rw[decide_eq_false e,cond_false]
    by_cases e2:a.Name=n
    ·rw[decide_eq_true e2.symm,decide_eq_true e2,cond_true]
     have:one n t=⟨[⟨n,t⟩]⟩:=by unfold one; rw[decide_eq_false e]; rfl
     rw[this,show decide ((0:Int)≤0)=true from rfl,cond_true]
     show aa (some _) _=_
     rw[ah,ownT t ht]; rfl
    ·rw[decide_eq_false (Ne.symm e2),decide_eq_false e2]; rfl
  ·rw[hv,cond_false,sn_2 hn hv]
   simp only[fNi_]
   rw[mapL (f:=slA_ k (one n t)) (g:=sbT n t) a.Args 0 [] (fun x hx=>ih x hx (hok.u.2.2 x hx) (hall x hx) k (by have:=Tt.lt hx; omega)) (by simp; omega),tLi_]
   simp
theorem lAa_{n:ByteArray}{t:Tt}(hn:iVS_ n=true)(ht:t.cnt≤10000000)(hg:t.good=true){a:Tt}(hok:a.Ok)(hv:iVS_ a.Name=false)(hall:∀ x∈a.Args,x.good=true)(hl:a.Args.length≤1000):slA_2 (one n t) a=some (sbT n t a):=by
 refine le_ ⟨2*ap a+1,fun k hk=>?_⟩
 cases k with
 | zero=>omega
 | succ k=>
  show slA_ (k+1) _ _=_
  rw[slA_,lVe_ _ hok.u.1,ah,hv,cond_false,sn_2 hn hv]
  simp only[fNi_]
  rw[mapL (f:=slA_ k (one n t)) (g:=sbT n t) a.Args 0 [] (fun x hx=>lAN_ hn ht hg x (hok.u.2.2 x hx) (hall x hx) k (by have:=Tt.lt hx; omega)) (by simp; omega),tLi_]
  simp
def cmp3(a b:ByteArray):Int:=if slt a b=true then -1 else if a=b then 0 else 1
theorem cS_1(a b:ByteArray):cCs_ a b=some (cmp3 a b):=by
 have hz:∀ x:ByteArray,ciN_ x=some false:=fun x=>by simp[ciN_]
 unfold cCs_ cmp3
 rw[hz,hz]
 simp only[ah,cond_false]
 show(bif slt a b then _ else _)=_
 cases slt a b
 ·by_cases e:a=b
  ·rw[decide_eq_true e]; simp[e]; try omega
  ·rw[decide_eq_false e]; simp[e]
 ·rfl
theorem to_4(n:ByteArray)(t:Tt)(x:ByteArray):iSt_1 ⟨[⟨n,t⟩]⟩ x=some (bif decide (n=x) then(t,true) else(Tt.mk (⟨#[]⟩:ByteArray) ([]),false)):=by
 unfold iSt_1
 have hc:∀ y0 y1,iSt_ y0 y1=some (cmp3 y0.Var y1):=fun y0 y1=>by unfold iSt_; rw[cS_1]; rfl
 have key:sBS_ [⟨n,t⟩] x (fun y0 y1=>iSt_ y0 y1)=some (if cmp3 n x<0 then(1,false) else(0,decide (cmp3 n x=0))):=by
  unfold sBS_
  simp only[hc]
  have hs:shr .u64 (IntKind.u64.wrap (IntKind.i64.wrap ((0:Int)+((([⟨n,t⟩]:List Bt).length:Nat):Int)))) 1=some 0:=rfl
  have hl:decide ((0:Int)<((([⟨n,t⟩]:List Bt).length:Nat):Int))=true:=rfl
  by_cases h:cmp3 n x<0
  ·rw[le_ (r:=.inr ((1:Int),(1:Int))) ⟨2,fun k hk=>by
    obtain⟨m,rfl⟩:∃ m,k=m+2:=⟨k-2,by omega⟩
    show aa (bif decide ((0:Int)<((([⟨n,t⟩]:List Bt).length:Nat):Int)) then _ else _) _=_
    rw[hl,cond_true,hs,ah]
    show aa (bif decide (cmp3 n x<0) then _ else _) _=_
    rw[decide_eq_true h,cond_true,ah]
    rfl⟩,if_pos h]; rfl
  ·rw[le_ (r:=.inr ((0:Int),(0:Int))) ⟨2,fun k hk=>by
    obtain⟨m,rfl⟩:∃ m,k=m+2:=⟨k-2,by omega⟩
    show aa (bif decide ((0:Int)<((([⟨n,t⟩]:List Bt).length:Nat):Int)) then _ else _) _=_
    rw[hl,cond_true,hs,ah]
    show aa (bif decide (cmp3 n x<0) then _ else _) _=_
    rw[decide_eq_false h,cond_false,ah]
    rfl⟩,if_neg h]; rfl
 rw[key]
 unfold cmp3
 by_cases h:slt n x=true
 ·have hne:¬ n=x:=fun e=>by rw[e,si_3] at h; cases h
  rw[if_pos h,decide_eq_false hne]; rfl
 ·rw[if_neg h]
  by_cases e:n=x
  ·rw[if_pos e,decide_eq_true e]; rfl
  ·rw[if_neg e,decide_eq_false e]; rfl
theorem aNe_{n:ByteArray}{t:Tt}(ht:t.cnt≤10000000)(a:Tt):a.cnt≤10000000→∀ k,2*ap a≤k→iSa_ k ⟨[⟨n,t⟩]⟩ a=some (sbT n t a):=by
 refine bj (M:=fun a=>a.cnt≤10000000→∀ k,2*ap a≤k→iSa_ k ⟨[⟨n,t⟩]⟩ a=some (sbT n t a)) (fun a ih hc k hk=>?_) a
 have hp:=a.pos
 have hu:=a.cnt_u
 have hl:=cl_ a.Args
 cases k with
 | zero=>omega
 | succ k=>
  rw[iSa_,iEd_,sTu_]
  cases he:a.Args.isEmpty
  ·rw[cond_false,ml_3 (by omega),ah,Bool.false_and,cond_false]
   simp only[fNi_]
   have:=setL (ρ:=Tt) (iSa_ k ⟨[⟨n,t⟩]⟩) (sbT n t) (Tt.mk (⟨#[]⟩:ByteArray) ([])) a.Args [] (fun x hx=>ih x hx (by have:=cm_ hx; omega) k (by have:=Tt.lt hx; omega))
   simp only[aQ,bh] at this
   rw[this,tLi_]
  ·have h0:a.Args=[]:=by simpa using he
   rw[cond_true,to_4,ah,Bool.true_and,h0]
   by_cases e:a.Name=n
   ·rw[decide_eq_true e.symm,decide_eq_true e,cond_true]
    simp only[cond_true,cT_ t ht,ah]
   ·rw[decide_eq_false (Ne.symm e),decide_eq_false e]; rfl
theorem ae_{n:ByteArray}{t a:Tt}(ht:t.cnt≤10000000)(ha:a.cnt≤10000000):iSa_1 ⟨[⟨n,t⟩]⟩ a=some (sbT n t a):=le_ ⟨_,aNe_ ht a ha⟩

mutual
def Tt.occ(v:ByteArray):Tt→Nat
 | .mk x l=>(bif decide (x=v) then 1 else 0)+To_ v l
def To_(v:ByteArray):List Tt→Nat
 | []=>0
 | a::l=>a.occ v+To_ v l
end
theorem Tou_(v:ByteArray)(a:Tt):a.occ v=(bif decide (a.Name=v) then 1 else 0)+To_ v a.Args:=by cases a; rw[Tt.occ]; rfl
theorem cl_5(v:ByteArray)(a:Tt):a.occ v≤a.cnt:=by
 refine bj (M:=fun a=>a.occ v≤a.cnt) (fun a ih=>?_) a
 have:∀ l:List Tt,(∀ x∈l,x.occ v≤x.cnt)→To_ v l≤Tt.cnts l:=by
  intro l
  induction l with
  | nil=>intro _; simp[To_]
  | cons b l ihl=>intro h; have:=h b (by simp); have:=ihl (fun x hx=>h x (by simp[hx])); simp only[To_,Tt.cnts]; omega
 have:=this a.Args ih
 rw[Tou_,a.cnt_u]
 cases decide (a.Name=v)<;>simp<;>omega
theorem cl_4(v:ByteArray):∀ l:List Tt,To_ v l≤Tt.cnts l
 | []=>by simp[To_]
 | a::l=>by have:=cl_5 v a; have:=cl_4 v l; simp only[To_,Tt.cnts]; omega
theorem cl_2(v:ByteArray)(f:Tt→Option Int):∀ (l:List Tt) (i s:Nat),(∀ x∈l,f x=some (x.occ v:Int))→s+To_ v l≤1000000000→
 forL (ρ:=Int) (fun _ x (s:Int)=>(f x).bind fun c=>some (.nx (IntKind.i64.wrap (s+c)))) l i (s:Int)=some (.inr ((s+To_ v l:Nat):Int))
 | [],i,s,_,_=>by simp[forL,To_]
 | a::l,i,s,h,hb=>by
  simp only[To_] at hb
  rw[fLn_ (s':=((s+a.occ v:Nat):Int)) (by rw[h a (by simp),ah,w_ (by omega) (by omega)]; simp),cl_2 v f l (i+1) _ (fun x hx=>h x (by simp[hx])) (by omega)]
  simp only[To_,Nat.add_assoc]
theorem cNe_(v:ByteArray)(a:Tt):a.cnt≤10000000→∀ n,2*ap a≤n→icN_1 n a v=some (a.occ v:Int):=by
 refine bj (M:=fun a=>a.cnt≤10000000→∀ n,2*ap a≤n→icN_1 n a v=some (a.occ v:Int)) (fun a ih hc n hn=>?_) a
 have hp:=a.pos
 have hu:=a.cnt_u
 have hcl:=cl_4 v a.Args
 cases n with
 | zero=>omega
 | succ n=>
  have hf:∀ x∈a.Args,icN_1 n x v=some (x.occ v:Int):=fun x hx=>ih x hx (by have:=cm_ hx; omega) n (by have:=Tt.lt hx; omega)
  rw[icN_1,Tou_]
  simp only[fNi_]
  cases decide (a.Name=v)
  ·have:=cl_2 v (fun x=>icN_1 n x v) a.Args 0 0 hf (by omega)
   rw[cond_false,show((0:Nat):Int)=0 from rfl] at*
   rw[this,tLi_]; simp
  ·have:=cl_2 v (fun x=>icN_1 n x v) a.Args 0 1 hf (by omega)
   rw[cond_true,show((1:Nat):Int)=1 from rfl] at*
   rw[this,tLi_]; simp
theorem cv_1{v:ByteArray}(hv:iVS_ v=true)(a:Tt):a.good=true→(0<a.occ v↔v∈a.vars):=by
 refine bj (M:=fun a=>a.good=true→(0<a.occ v↔v∈a.vars)) (fun a ih hg=>?_) a
 rw[Tou_,Tvu_]
 rcases nC_ hg with⟨h1,h2⟩ | ⟨h1,_,_,hall⟩
 ·rw[h1,cond_true,h2,List.mem_singleton]
  by_cases e:a.Name=v
  ·rw[decide_eq_true e]; simp[e]; try omega
  ·rw[decide_eq_false e]; simp[To_,Ne.symm e]
 ·rw[h1,cond_false,decide_eq_false (fun e=>by rw[e,hv] at h1; cases h1),cond_false,Nat.zero_add]
  have:∀ l:List Tt,(∀ x∈l,(0<x.occ v↔v∈x.vars))→(0<To_ v l↔v∈Tv_ l):=by
   intro l
   induction l with
   | nil=>intro _; simp[To_,Tv_]
   | cons b l ihl=>
    intro h
    simp only[To_,Tv_,aS]
    rw[← h b (by simp),← ihl (fun x hx=>h x (by simp[hx]))]; omega
  exact this a.Args (fun x hx=>ih x hx (hall x hx))
def hasV(v:ByteArray)(l:List ByteArray):Bool:=l.any fun y=>decide (v=y)
theorem hVi_{v:ByteArray}{l:List ByteArray}:hasV v l=true↔v∈l:=by
 unfold hasV; rw[List.any_eq_true]
 exact⟨fun ⟨y,h1,h2⟩=>by rw[of_decide_eq_true h2]; exact h1,fun h=>⟨v,h,decide_eq_true rfl⟩⟩
theorem hVc_{v:ByteArray}{l m:List ByteArray}(h:v∈l↔v∈m):hasV v l=hasV v m:=by
 rw[Bool.eq_iff_iff,hVi_,hVi_]; exact h
theorem oe_1{v:ByteArray}(hv:iVS_ v=true){a:Tt}(hg:a.good=true)(hc:a.cnt≤10000000):io_ v a=some (hasV v a.vars):=by
 unfold io_
 rw[show icN_2 a v=some (a.occ v:Int) from le_ ⟨_,cNe_ v a hc⟩,ah]
 congr 1
 rw[Bool.eq_iff_iff,hVi_,← cv_1 hv a hg,decide_eq_true_iff]
 omega
theorem lIe_(l:List ByteArray)(v:ByteArray):slI_2 l v=some (hasV v l):=by
 unfold slI_2
 simp only[fNi_]
 have:∀ (l:List ByteArray) (i:Nat),thenL (ρ:=Bool) (forL (fun _ x (_:Unit)=>bif decide (x=v) then some (.rt true) else some (.nx ())) l i ()) (fun _=>some false)=some (hasV v l):=by
  intro l
  induction l with
  | nil=>intro i; rfl
  | cons y l ih=>
   intro i
   by_cases e:y=v
   ·rw[fLr_ (r:=true) (by rw[decide_eq_true e]; rfl),tLi_1]; simp[hasV,e]
   ·rw[fLn_ (s':=()) (by rw[decide_eq_false e]; rfl),ih]; simp[hasV,Ne.symm e]
 exact this l 0
end
section
theorem fu_1{s:ByteArray}(h:iVS_ s=true):0<s.size∧cUp (byt s 0)=true:=by
 unfold iVS_ at h
 rw[aq] at h
 have hz:0<s.size:=by have:=iRi_.1 h.1; omega
 have h3:=List.all_eq_true.1 h.2 0 (by simpa using hz)
 exact⟨hz,by simpa[varC] using h3⟩
theorem fl_4{s:ByteArray}(h:iSS_ s=true):0<s.size∧cUp (byt s 0)=false:=by
 unfold iSS_ at h
 rw[aq,aq] at h
 have hz:0<s.size:=by have:=iRi_.1 h.1.1; omega
 have h3:=List.all_eq_true.1 h.1.2 0 (by simpa using hz)
 have h4:cLow (byt s 0)=true:=by simpa[symC] using h3
 have h5:=iRi_.1 h4
 refine⟨hz,?_⟩
 rw[← Bool.not_eq_true]
 intro g
 have:=iRi_.1 g
 omega
theorem snv_{s:ByteArray}(h:iSS_ s=true):iVS_ s=false:=by
 rw[← Bool.not_eq_true]
 intro g
 have h1:=(fl_4 h).2
 rw[(fu_1 g).2] at h1; cases h1
theorem ef_1:cUp (byt (⟨#[61]⟩:ByteArray) 0)=false:=rfl
theorem env_:iVS_ (⟨#[61]⟩:ByteArray)=false:=by
 rw[← Bool.not_eq_true]
 intro g
 have h1:=(fu_1 g).2
 rw[ef_1] at h1; cases h1
structure AtomOk(a:Tt):Prop where
 nv:iVS_ a.Name=false
 hall:∀ x∈a.Args,x.good=true
 cnt:a.cnt≤30
 isv:iiV_2 a=some false
theorem sTc_{t:Tt}(h:sT_ t=true):t.cnt≤30:=by
 unfold sT_ at h; rw[aq] at h; exact of_decide_eq_true h.1
theorem gTi_{t:Tt}(h:gT_ t=true):t.good=true∧t.cnt≤30:=by
 unfold gT_ at h; rw[aq] at h; exact⟨h.2,sTc_ h.1⟩
theorem aTo_{a:Tt}(h:aT_ a=true):AtomOk a:=by
 unfold aT_ at h
 by_cases e:a.Name=(⟨#[61]⟩:ByteArray)
 ·rw[decide_eq_true e,cond_true] at h
  simp only[aq,ba] at h
  refine⟨by rw[e]; exact env_,h.2.2,sTc_ h.2.1,?_⟩
  unfold iiV_2
  rw[s_ (by rw[e]; exact Nat.lt_of_lt_of_eq Nat.zero_lt_one rfl),ah,iUe_,ah,e,ef_1]
 ·rw[decide_eq_false e,cond_false,aq] at h
  have hv:=snv_ h.1
  obtain⟨hg,hc⟩:=gTi_ h.2
  refine⟨hv,?_,hc,by rw[iVg_ hg,hv]⟩
  rcases nC_ hg with⟨h1,_⟩ | ⟨_,_,_,h2⟩
  ·rw[hv] at h1; cases h1
  ·exact h2
theorem sBm_(l:List ByteArray)(x:ByteArray):x∈sB_ l↔x∈l:=(sBp_ l).mem_iff
theorem So_{l:List ByteArray}(h:l.length≤1000000000):sSS_ l=some ((),sB_ l):=by unfold sSS_; rw[if_pos (by omega)]
theorem ac_{a:Tt}(h:AtomOk a):∃ v,ic_ [] a=some v∧(∀ x,x∈v↔x∈a.vars)∧v.length≤30:=by
 have hu:=a.cnt_u
 have hc:=h.cnt
 obtain⟨v,h1,h2,h3,_⟩:=vl_1 (fun _=>True) (fun n s x=>icN_ n s x) (2*ap a) a.Args 0 [] (fun x hx acc _ hb=>by
  obtain⟨v,k1,k2⟩:=cNo_ x (h.hall x hx) acc trivial hb
  exact⟨v,fun n hn=>k1 n (by have:=Tt.lt hx; omega),k2⟩) trivial (by simp; omega)
 refine⟨v,le_ ⟨2*ap a+1,fun n hn=>?_⟩,fun x=>?_,by simp at h3; omega⟩
 ·cases n with
  | zero=>omega
  | succ n=>
   show icN_ (n+1) [] a=_
   rw[icN_,h.isv]
   simp only[ah,cond_false,Bool.cond_self,fNi_]
   rw[h1 n (by omega)]; rfl
 ·rw[h2,Tvu_,h.nv]; simp
theorem av_{a:Tt}(h:AtomOk a):∃ v,iv_ a=some v∧(∀ x,x∈v↔x∈a.vars)∧v.length≤30:=by
 obtain⟨v,h1,h2,h3⟩:=ac_ h
 unfold iv_
 rw[h1,ah,So_ (by omega),ah]
 exact⟨_,rfl,fun x=>by rw[sBm_,h2],by rw[(sBp_ v).length_eq]; exact h3⟩
theorem lIN_(t:Tt):t.Ok→t.good=true→∀ acc,True→acc.length+t.cnt≤1000→∃ v,(∀ n,2*ap t≤n→slI_ n acc t=some v)∧VS (fun _=>True) acc v t.vars t.cnt:=by
 refine bj (M:=fun t=>t.Ok→t.good=true→∀ acc,True→acc.length+t.cnt≤1000→∃ v,(∀ n,2*ap t≤n→slI_ n acc t=some v)∧VS (fun _=>True) acc v t.vars t.cnt) (fun t ih hok hg acc _ hb=>?_) t
 have hp:=t.pos
 have hcp:=t.cnt_pos
 rcases nC_ hg with⟨hv,ha⟩ | ⟨hv,hs,_,hall⟩
 ·refine⟨putS t.Name acc,fun n hn=>?_,fun x=>?_,?_,fun _=>trivial⟩
  ·cases n with
   | zero=>omega
   | succ n=>rw[slI_,lVe_ _ hok.u.1,ah,hv,cond_true,lPe_ _ _ (by omega)]; rfl
  ·rw[pSm_,Tvu_,hv,cond_true,List.mem_singleton,or_comm]
  ·have:=pSl_ t.Name acc; omega
 ·have hcu:=t.cnt_u
  obtain⟨v,h1,h2,h3,_⟩:=vl_1 (fun _=>True) (fun n s x=>slI_ n s x) (2*ap t-1) t.Args 0 acc (fun a ha acc _ hb=>by
   obtain⟨v,k1,k2⟩:=ih a ha (hok.u.2.2 a ha) (hall a ha) acc trivial hb
   exact⟨v,fun n hn=>k1 n (by have:=Tt.lt ha; omega),k2⟩) trivial (by omega)
  refine⟨v,fun n hn=>?_,fun x=>by rw[h2,Tvu_,hv,cond_false],by omega,fun _=>trivial⟩
  cases n with
  | zero=>omega
  | succ n=>
   rw[slI_,lVe_ _ hok.u.1,ah,hv]
   simp only[cond_false,fNi_]
   rw[h1 n (by omega)]; rfl
theorem lVo_1{t:Tt}(hok:t.Ok)(hg:t.good=true)(hc:t.cnt≤1000):∃ v,slV_ t=some v∧(∀ x,x∈v↔x∈t.vars):=by
 obtain⟨v,h1,h2,_⟩:=lIN_ t hok hg [] trivial (by simpa using hc)
 refine⟨v,?_,fun x=>by simpa using h2 x⟩
 unfold slV_
 rw[show slI_4 [] t=some v from le_ ⟨_,h1⟩]; rfl
theorem alV_{a:Tt}(hok:a.Ok)(h:AtomOk a):∃ v,slV_ a=some v∧(∀ x,x∈v↔x∈a.vars)∧v.length≤30:=by
 have hu:=a.cnt_u
 have hc:=h.cnt
 obtain⟨v,h1,h2,h3,_⟩:=vl_1 (fun _=>True) (fun n s x=>slI_ n s x) (2*ap a) a.Args 0 [] (fun x hx acc _ hb=>by
  obtain⟨v,k1,k2⟩:=lIN_ x (hok.u.2.2 x hx) (h.hall x hx) acc trivial hb
  exact⟨v,fun n hn=>k1 n (by have:=Tt.lt hx; omega),k2⟩) trivial (by simp; omega)
 refine⟨v,?_,fun x=>?_,by simp at h3; omega⟩
 ·unfold slV_
  rw[show slI_4 [] a=some v from le_ ⟨2*ap a+1,fun n hn=>?_⟩]
  ·rfl
  ·cases n with
   | zero=>omega
   | succ n=>
    show slI_ (n+1) [] a=_
    rw[slI_,lVe_ _ hok.u.1,ah,h.nv]
    simp only[cond_false,fNi_]
    rw[h1 n (by omega)]; rfl
 ·rw[h2,Tvu_,h.nv]; simp

def isQ(o:Int):Bool:=decide (o=8)||decide (o=9)
theorem zTi_{t:Tt}:zT_ t=true↔t=⟨⟨#[]⟩,[]⟩:=by
 unfold zT_
 rw[aq,decide_eq_true_iff,List.isEmpty_iff]
 constructor
 ·rintro ⟨h1,h2⟩; rw[← t.eta,h1,h2]
 ·intro h; rw[h]; exact⟨rfl,rfl⟩
theorem gs_{a:Ft}(h:a.good=true):fC_ a.Op a.Atom a.Var a.Parts.length=true∧∀ p∈a.Parts,p.good=true:=by
 rw[Ft.good_u,aq] at h
 exact⟨h.1,List.all_eq_true.1 h.2⟩
theorem fCc_{o:Int}{t:Tt}{v:ByteArray}{k:Nat}(h:fC_ o t v k=true):
 (o=3∧isQ o=false∧k=0∧aT_ t=true∧v=⟨#[]⟩)∨(o≠3∧isQ o=true∧k=1∧t=⟨⟨#[]⟩,[]⟩∧iVS_ v=true)∨(o≠3∧isQ o=false∧k≤2∧t=⟨⟨#[]⟩,[]⟩∧v=⟨#[]⟩):=by
 unfold fC_ at h
 by_cases e3:o=3
 ·rw[decide_eq_true e3,cond_true] at h
  simp only[aq,decide_eq_true_eq] at h
  exact .inl ⟨e3,by rw[e3]; rfl,h.1,h.2.1,h.2.2⟩
 ·rw[decide_eq_false e3,cond_false] at h
  cases hq:(decide (o=8)||decide (o=9))
  ·rw[hq,cond_false,aq,aq] at h
   refine .inr (.inr ⟨e3,hq,?_,zTi_.1 h.2.1,of_decide_eq_true h.2.2⟩)
   have h1:=h.1
   cases h12:(decide (o=1)||decide (o=2))
   ·rw[h12,cond_false] at h1
    cases h4:decide (o=4)
    ·rw[h4,cond_false] at h1
     cases h5:(decide (o=5)||(decide (o=6)||decide (o=7)))
     ·rw[h5] at h1; cases h1
     ·rw[h5,cond_true,decide_eq_true_iff] at h1; omega
    ·rw[h4,cond_true,decide_eq_true_iff] at h1; omega
   ·rw[h12,cond_true,decide_eq_true_iff] at h1; omega
  ·rw[hq,cond_true] at h
   simp only[aq,decide_eq_true_eq] at h
   exact .inr (.inl ⟨e3,hq,h.1,zTi_.1 h.2.1,h.2.2⟩)
theorem fm_{a:Ft}:∀ {l:List Ft},a∈l→a.cnt≤Ft.cnts l
 | b::l,h=>by
  simp only[Ft.cnts]
  rcases List.mem_cons.1 h with rfl | h
  ·omega
  ·have:=fm_ h; omega
theorem fu_(a:Ft):a.cnt=1+Ft.cnts a.Parts:=by rw[Ft.cnt_u,Ft.cnts_eq]
theorem fl_1:∀ l:List Ft,l.length≤Ft.cnts l
 | []=>by simp
 | a::l=>by have:=fl_1 l; have:=a.cnt_pos; simp only[Ft.cnts,aA]; omega

mutual
def Ft.fv(x:ByteArray):Ft→Bool
 | .mk o a v ps=>bif decide (o=3) then hasV x a.vars else !(isQ o&&decide (v=x))&&Ff_ x ps
def Ff_(x:ByteArray):List Ft→Bool
 | []=>false
 | a::l=>a.fv x||Ff_ x l
end
theorem Ffu_(x:ByteArray)(a:Ft):a.fv x=bif decide (a.Op=3) then hasV x a.Atom.vars else !(isQ a.Op&&decide (a.Var=x))&&Ff_ x a.Parts:=by cases a; rw[Ft.fv]; rfl
def GV(acc v:List ByteArray)(P:ByteArray→Bool)(bnd:List ByteArray)(c:Nat):Prop:=(∀ x,x∈v↔x∈acc∨(P x=true∧x∉bnd))∧v.length≤acc.length+c
theorem gl_(bnd:List ByteArray)(F:Nat→List ByteArray→Ft→Option (List ByteArray))(N:Nat):∀ (l:List Ft) (i:Nat) (acc:List ByteArray),
 (∀ a∈l,∀ acc:List ByteArray,acc.length+30*a.cnt≤1000000→∃ v,(∀ n,N≤n→F n acc a=some v)∧GV acc v (fun x=>a.fv x) bnd (30*a.cnt))→acc.length+30*Ft.cnts l≤1000000→
 ∃ v,(∀ n,N≤n→forL (ρ:=List ByteArray) (fun _ x s=>(F n s x).bind fun w=>some (.nx w)) l i acc=some (.inr v))∧GV acc v (fun x=>Ff_ x l) bnd (30*Ft.cnts l)
 | [],i,acc,_,_=>⟨acc,fun _ _=>rfl,fun x=>by simp[Ff_],by simp[Ft.cnts]⟩
 | a::l,i,acc,h,hb=>by
  simp only[Ft.cnts] at hb
  obtain⟨v,h1,h2,h3⟩:=h a (by simp) acc (by omega)
  obtain⟨w,g1,g2,g3⟩:=gl_ bnd F N l (i+1) v (fun b hb=>h b (by simp[hb])) (by omega)
  refine⟨w,fun n hn=>?_,fun x=>?_,?_⟩
  ·rw[fLn_ (s':=v) (by rw[h1 n hn]; rfl),g1 n hn]
  ·rw[g2,h2]; simp only[Ff_,Bool.or_eq_true,or_and_right,or_assoc]
  ·simp only[Ft.cnts]; omega
theorem ai_1(bnd:List ByteArray):∀ (V:List ByteArray) (i:Nat) (acc:List ByteArray),acc.length+V.length≤1000000→
 ∃ v,forL (ρ:=List ByteArray) (fun _ x s=>bif hasV x bnd then some (.nx s) else bif hasV x s then some (.nx s) else(app s [x]).bind fun w=>some (.nx w)) V i acc=some (.inr v)∧GV acc v (fun x=>hasV x V) bnd V.length
 | [],i,acc,_=>⟨acc,rfl,fun x=>by simp[hasV],by simp⟩
 | y::V,i,acc,hb=>by
  simp only[aA] at hb
  have key:∃ u,(bif hasV y bnd then some (Flow.nx acc) else bif hasV y acc then some (.nx acc) else(app acc [y]).bind fun w=>some (.nx w))=some (Flow.nx (ρ:=List ByteArray) u)∧(∀ x,x∈u↔x∈acc∨(x=y∧x∉bnd))∧u.length≤acc.length+1:=by
   cases h1:hasV y bnd
   ·have h1':y∉bnd:=fun h=>by rw[hVi_.2 h] at h1; cases h1
    cases h2:hasV y acc
    ·refine⟨acc++[y],?_,fun x=>?_,by simp⟩
     ·simp only[cond_false]; unfold app; rw[if_pos (by simp only[aA,aQ]; omega)]; rfl
     ·simp only[aS,List.mem_singleton]
      exact⟨fun h=>h.imp id (fun e=>⟨e,e▸h1'⟩),fun h=>h.imp id (fun e=>e.1)⟩
    ·refine⟨acc,rfl,fun x=>⟨.inl,fun h=>h.elim id (fun e=>by rw[e.1]; exact hVi_.1 h2)⟩,by omega⟩
   ·exact⟨acc,rfl,fun x=>⟨.inl,fun h=>h.elim id (fun e=>absurd (by rw[e.1]; exact hVi_.1 h1) e.2)⟩,by omega⟩
  obtain⟨u,k1,k2,k3⟩:=key
  obtain⟨w,g1,g2,g3⟩:=ai_1 bnd V (i+1) u (by omega)
  refine⟨w,by rw[fLn_ (s':=u) k1,g1],fun x=>?_,by simp only[aA]; omega⟩
  rw[g2,k2,hVi_,hVi_,aU,or_and_right,or_assoc]
theorem as_5(bnd:List ByteArray):∀ (V:List ByteArray) (i:Nat) (acc:List ByteArray),acc.length+V.length≤1000000→
 ∃ v,forL (ρ:=List ByteArray) (fun _ x s=>bif hasV x bnd then some (.nx s) else(slP_5 s x).bind fun w=>some (.nx w)) V i acc=some (.inr v)∧GV acc v (fun x=>hasV x V) bnd V.length
 | [],i,acc,_=>⟨acc,rfl,fun x=>by simp[hasV],by simp⟩
 | y::V,i,acc,hb=>by
  simp only[aA] at hb
  have key:∃ u,(bif hasV y bnd then some (Flow.nx acc) else(slP_5 acc y).bind fun w=>some (.nx w))=some (Flow.nx (ρ:=List ByteArray) u)∧(∀ x,x∈u↔x∈acc∨(x=y∧x∉bnd))∧u.length≤acc.length+1:=by
   cases h1:hasV y bnd
   ·have h1':y∉bnd:=fun h=>by rw[hVi_.2 h] at h1; cases h1
    refine⟨putS y acc,by rw[cond_false,lPe_ _ _ (by omega)]; rfl,fun x=>?_,pSl_ y acc⟩
    rw[pSm_]
    exact⟨fun h=>h.elim (fun e=>.inr ⟨e,e▸h1'⟩) .inl,fun h=>h.elim .inr (fun e=>.inl e.1)⟩
   ·exact⟨acc,rfl,fun x=>⟨.inl,fun h=>h.elim id (fun e=>absurd (by rw[e.1]; exact hVi_.1 h1) e.2)⟩,by omega⟩
  obtain⟨u,k1,k2,k3⟩:=key
  obtain⟨w,g1,g2,g3⟩:=as_5 bnd V (i+1) u (by omega)
  refine⟨w,by rw[fLn_ (s':=u) k1,g1],fun x=>?_,by simp only[aA]; omega⟩
  rw[g2,k2,hVi_,hVi_,aU,or_and_right,or_assoc]
theorem GV.bound{acc v bnd:List ByteArray}{y:ByteArray}{P Q:ByteArray→Bool}{c d:Nat}(h:GV acc v P (bnd++[y]) c)(hq:∀ x,Q x=(!decide (y=x)&&P x))(hc:c≤d):GV acc v Q bnd d:=by
 refine⟨fun x=>?_,by have:=h.2; omega⟩
 rw[h.1,hq]
 simp only[aS,List.mem_singleton,aq,Bool.not_eq_true',decide_eq_false_iff_not,not_or]
 constructor
 ·rintro (h | ⟨h1,h2,h3⟩)
  ·exact .inl h
  ·exact .inr ⟨⟨fun e=>h3 e.symm,h1⟩,h2⟩
 ·rintro (h | ⟨⟨h1,h2⟩,h3⟩)
  ·exact .inl h
  ·exact .inr ⟨h2,h3,fun e=>h1 e.symm⟩
theorem GV.congr{acc v bnd:List ByteArray}{P Q:ByteArray→Bool}{c d:Nat}(h:GV acc v P bnd c)(hq:∀ x,Q x=P x)(hc:c≤d):GV acc v Q bnd d:=
 ⟨fun x=>by rw[h.1,hq],by have:=h.2; omega⟩
theorem cs_2(l:List ByteArray)(h:l.length≤1000000):sCS_2 l=some l:=by
 unfold sCS_2 app
 rw[if_pos (by simp; omega)]; rfl
theorem as_6(l:List ByteArray)(y:ByteArray)(h:l.length≤1000000):app l [y]=some (l++[y]):=by unfold app; rw[if_pos (by simp only[aA,aQ]; omega)]
theorem ans_(l:List ByteArray)(h:l.length≤1000000):app ([]:List ByteArray) l=some l:=by unfold app; rw[if_pos (by simp; omega)]; rfl
theorem ge_(f:Ft):f.good=true→∀ acc bnd:List ByteArray,acc.length+30*f.cnt≤1000000→bnd.length+f.cnt≤1000000→
 ∃ v,(∀ n,2*ap f≤n→igN_ n acc f bnd=some v)∧GV acc v (fun x=>f.fv x) bnd (30*f.cnt):=by
 refine bk (M:=fun f=>f.good=true→∀ acc bnd:List ByteArray,acc.length+30*f.cnt≤1000000→bnd.length+f.cnt≤1000000→
  ∃ v,(∀ n,2*ap f≤n→igN_ n acc f bnd=some v)∧GV acc v (fun x=>f.fv x) bnd (30*f.cnt)) (fun f ih hg acc bnd hb hbb=>?_) f
 have hp:=f.pos
 have hcp:=f.cnt_pos
 have hu:=fu_ f
 obtain⟨hform,hparts⟩:=gs_ hg
 rcases fCc_ hform with⟨e3,hq,_,hat,_⟩ | ⟨e3,hq,_,_,_⟩ | ⟨e3,hq,_,_,_⟩
 ·obtain⟨V,h1,h2,h3⟩:=av_ (aTo_ hat)
  obtain⟨v,g1,g2⟩:=ai_1 bnd V 0 acc (by omega)
  refine⟨v,fun n hn=>?_,g2.congr (fun x=>by rw[Ffu_,decide_eq_true e3,cond_true]; exact hVc_ (h2 x).symm) (by omega)⟩
  cases n with
  | zero=>omega
  | succ n=>
   rw[igN_,decide_eq_true e3,cond_true,h1,ah,fNf_ _ (fun _ x s=>bif hasV x bnd then some (.nx s) else bif hasV x s then some (.nx s) else(app s [x]).bind fun w=>some (.nx w)) V 0 acc (fun j x s hx=>by
    simp only[Nat.zero_add,in_,hx,ah,Cs_]; rfl),g1]
   rfl
 ·obtain⟨v,g1,g2⟩:=gl_ (bnd++[f.Var]) (fun n s x=>igN_ n s x (bnd++[f.Var])) (2*ap f-1) f.Parts 0 acc (fun a ha acc hb=>by
   obtain⟨v,k1,k2⟩:=ih a ha (hparts a ha) acc (bnd++[f.Var]) hb (by have:=fm_ ha; simp; omega)
   exact⟨v,fun n hn=>k1 n (by have:=Ft.lt ha; omega),k2⟩) (by omega)
  refine⟨v,fun n hn=>?_,g2.bound (fun x=>by rw[Ffu_,decide_eq_false e3,cond_false,hq,Bool.true_and]) (by omega)⟩
  cases n with
  | zero=>omega
  | succ n=>
   rw[igN_,decide_eq_false e3,cond_false,iQe_,ah,show(decide (f.Op=8)||decide (f.Op=9))=true from hq,cond_true,cs_2 _ (by omega),ah,as_6 _ _ (by omega),ah]
   simp only[fNi_]
   rw[g1 n (by omega)]; rfl
 ·obtain⟨v,g1,g2⟩:=gl_ bnd (fun n s x=>igN_ n s x bnd) (2*ap f-1) f.Parts 0 acc (fun a ha acc hb=>by
   obtain⟨v,k1,k2⟩:=ih a ha (hparts a ha) acc bnd hb (by have:=fm_ ha; omega)
   exact⟨v,fun n hn=>k1 n (by have:=Ft.lt ha; omega),k2⟩) (by omega)
  refine⟨v,fun n hn=>?_,g2.congr (fun x=>by rw[Ffu_,decide_eq_false e3,cond_false,hq]; simp) (by omega)⟩
  cases n with
  | zero=>omega
  | succ n=>
   rw[igN_,decide_eq_false e3,cond_false,iQe_,ah,show(decide (f.Op=8)||decide (f.Op=9))=false from hq,cond_false]
   simp only[fNi_]
   rw[g1 n (by omega)]; rfl
theorem ie_1(f:Ft):f.Ok→f.good=true→∀ acc bnd:List ByteArray,acc.length+30*f.cnt≤1000000→bnd.length+f.cnt≤1000000→
 ∃ v,(∀ n,2*ap f≤n→slI_1 n acc f bnd=some v)∧GV acc v (fun x=>f.fv x) bnd (30*f.cnt):=by
 refine bk (M:=fun f=>f.Ok→f.good=true→∀ acc bnd:List ByteArray,acc.length+30*f.cnt≤1000000→bnd.length+f.cnt≤1000000→
  ∃ v,(∀ n,2*ap f≤n→slI_1 n acc f bnd=some v)∧GV acc v (fun x=>f.fv x) bnd (30*f.cnt)) (fun f ih hok hg acc bnd hb hbb=>?_) f
 have hp:=f.pos
 have hcp:=f.cnt_pos
 have hu:=fu_ f
 obtain⟨hform,hparts⟩:=gs_ hg
 have hokp:=hok.u.2.2.2.2
 rcases fCc_ hform with⟨e3,hq,hk,hat,_⟩ | ⟨e3,hq,_,_,_⟩ | ⟨e3,hq,_,_,_⟩
 ·obtain⟨V,h1,h2,h3⟩:=alV_ hok.u.2.1 (aTo_ hat)
  obtain⟨v,g1,g2⟩:=as_5 bnd V 0 acc (by omega)
  refine⟨v,fun n hn=>?_,g2.congr (fun x=>by rw[Ffu_,decide_eq_true e3,cond_true]; exact hVc_ (h2 x).symm) (by omega)⟩
  have h0:f.Parts=[]:=List.eq_nil_of_length_eq_zero hk
  cases n with
  | zero=>omega
  | succ n=>
   rw[slI_1,decide_eq_true e3,cond_true,h1,ah,fNf_ _ (fun _ x s=>bif hasV x bnd then some (.nx s) else(slP_5 s x).bind fun w=>some (.nx w)) V 0 acc (fun j x s hx=>by
    simp only[Nat.zero_add,in_,hx,ah,lIe_]),g1,tLi_,e3,h0]
   rfl
 ·obtain⟨v,g1,g2⟩:=gl_ (bnd++[f.Var]) (fun n s x=>slI_1 n s x (bnd++[f.Var])) (2*ap f-1) f.Parts 0 acc (fun a ha acc hb=>by
   obtain⟨v,k1,k2⟩:=ih a ha (hokp a ha) (hparts a ha) acc (bnd++[f.Var]) hb (by have:=fm_ ha; simp; omega)
   exact⟨v,fun n hn=>k1 n (by have:=Ft.lt ha; omega),k2⟩) (by omega)
  refine⟨v,fun n hn=>?_,g2.bound (fun x=>by rw[Ffu_,decide_eq_false e3,cond_false,hq,Bool.true_and]) (by omega)⟩
  cases n with
  | zero=>omega
  | succ n=>
   rw[slI_1,decide_eq_false e3,cond_false,ans_ _ (by omega)]
   simp only[ah,as_6 _ _ (show bnd.length≤1000000 by omega),fNi_]
   rw[g1 n (by omega)]
   unfold isQ at hq
   cases e8:decide (f.Op=8)
   ·rw[e8,Bool.false_or] at hq; rw[hq]; rfl
   ·rfl
 ·obtain⟨v,g1,g2⟩:=gl_ bnd (fun n s x=>slI_1 n s x bnd) (2*ap f-1) f.Parts 0 acc (fun a ha acc hb=>by
   obtain⟨v,k1,k2⟩:=ih a ha (hokp a ha) (hparts a ha) acc bnd hb (by have:=fm_ ha; omega)
   exact⟨v,fun n hn=>k1 n (by have:=Ft.lt ha; omega),k2⟩) (by omega)
  refine⟨v,fun n hn=>?_,g2.congr (fun x=>by rw[Ffu_,decide_eq_false e3,cond_false,hq]; simp) (by omega)⟩
  cases n with
  | zero=>omega
  | succ n=>
   unfold isQ at hq
   rw[Bool.or_eq_false_iff] at hq
   rw[slI_1,decide_eq_false e3,cond_false,hq.1,cond_false,hq.2,cond_false]
   simp only[fNi_]
   rw[g1 n (by omega)]; rfl
theorem fi_1{f:Ft}(hg:f.good=true)(hc:f.cnt≤10000):∃ v,if_1 f=some v∧∀ x,hasV x v=f.fv x:=by
 obtain⟨v,h1,h2,h3⟩:=ge_ f hg [] [] (by simp; omega) (by simp; omega)
 unfold if_1
 rw[show ig_ [] f []=some v from le_ ⟨_,h1⟩,ah,So_ (by simp at h3; omega),ah]
 refine⟨_,rfl,fun x=>?_⟩
 rw[Bool.eq_iff_iff,hVi_,sBm_,h2]; simp
theorem fs_1{f:Ft}(hok:f.Ok)(hg:f.good=true)(hc:f.cnt≤10000):∃ v,slF_1 f=some v∧∀ x,hasV x v=f.fv x:=by
 obtain⟨v,h1,h2,h3⟩:=ie_1 f hok hg [] [] (by simp; omega) (by simp; omega)
 unfold slF_1
 rw[show slI_6 [] f []=some v from le_ ⟨_,h1⟩,ah]
 refine⟨_,rfl,fun x=>?_⟩
 rw[Bool.eq_iff_iff,hVi_,h2]; simp
end
section
theorem Tt.Ok_of(t:Tt):t.tot≤4194304→t.Ok:=by
 refine bj (M:=fun t=>t.tot≤4194304→t.Ok) (fun t ih h=>?_) t
 have hu:=t.tot_u
 have hl:=ll_ bg t.Args
 have:=Tt.Ok.mk t.Name t.Args (by simp only[Big]; omega) (by simp only[Big]; omega) (fun a ha=>ih a ha (by have:=tm_ bg ha; omega))
 rwa [t.eta] at this
mutual
def Tt.tiny:Tt→Bool
 | .mk x l=>decide (x.size≤6)&&Tt_ l
def Tt_:List Tt→Bool
 | []=>true
 | a::l=>a.tiny&&Tt_ l
end
theorem Tte_(l:List Tt):Tt_ l=l.all Tt.tiny:=by
 induction l with
 | nil=>rfl
 | cons a l ih=>rw[Tt_,ih]; rfl
theorem Ttu_(t:Tt):t.tiny=(decide (t.Name.size≤6)&&t.Args.all Tt.tiny):=by cases t; rw[Tt.tiny,Tte_]; rfl
theorem tt_1:∀ l:List Tt,(∀ a∈l,a.tot+1≤7*a.cnt)→ltot bg l≤7*Tt.cnts l
 | [],_=>by simp[ltot]
 | a::l,h=>by
  have h1:=h a (by simp)
  have h2:=tt_1 l (fun x hx=>h x (by simp[hx]))
  simp only[ltot,aA,aD,bp,Tt.cnts] at*
  omega
theorem tt_(t:Tt):t.tiny=true→t.tot+1≤7*t.cnt:=by
 refine bj (M:=fun t=>t.tiny=true→t.tot+1≤7*t.cnt) (fun t ih h=>?_) t
 rw[Ttu_,aq,decide_eq_true_iff,ba] at h
 have h1:=tt_1 t.Args (fun a ha=>ih a ha (h.2 a ha))
 rw[t.tot_u,t.cnt_u]; omega
theorem vs_1{s:ByteArray}(h:iVS_ s=true):s.size≤4:=by
 unfold iVS_ at h
 rw[aq] at h
 have:=iRi_.1 h.1; omega
theorem ss_{s:ByteArray}(h:iSS_ s=true):s.size≤6:=by
 unfold iSS_ at h
 rw[aq,aq] at h
 have:=iRi_.1 h.1.1; omega
theorem gt_(t:Tt):t.good=true→t.tiny=true:=by
 refine bj (M:=fun t=>t.good=true→t.tiny=true) (fun t ih h=>?_) t
 rw[Ttu_,aq,decide_eq_true_iff,ba]
 rcases nC_ h with⟨h1,h2⟩ | ⟨_,h1,_,hall⟩
 ·exact⟨by have:=vs_1 h1; omega,by rw[h2]; simp⟩
 ·exact⟨ss_ h1,fun a ha=>ih a ha (hall a ha)⟩
theorem at_{a:Tt}(h:aT_ a=true):a.tiny=true:=by
 have hall:=(aTo_ h).hall
 rw[Ttu_,aq,decide_eq_true_iff,ba]
 refine⟨?_,fun x hx=>gt_ x (hall x hx)⟩
 unfold aT_ at h
 by_cases e:a.Name=(⟨#[61]⟩:ByteArray)
 ·rw[e]; exact Nat.le_of_ble_eq_true rfl
 ·rw[decide_eq_false e,cond_false,aq] at h
  exact ss_ h.1
theorem st_4{n:ByteArray}{t:Tt}(ht:t.tiny=true)(a:Tt):a.tiny=true→(sbT n t a).tiny=true:=by
 refine bj (M:=fun a=>a.tiny=true→(sbT n t a).tiny=true) (fun a ih h=>?_) a
 rw[Ttu_,aq,ba] at h
 rw[sTu_]
 cases (a.Args.isEmpty&&decide (a.Name=n))
 ·rw[cond_false,Ttu_,aq,ba]
  refine⟨h.1,fun x hx=>?_⟩
  obtain⟨y,hy,rfl⟩:=List.mem_map.1 hx
  exact ih y hy (h.2 y hy)
 ·exact ht
theorem sc_3{n:ByteArray}{t:Tt}:∀ l:List Tt,(∀ a∈l,(sbT n t a).cnt≤a.cnt*t.cnt)→Tt.cnts (l.map (sbT n t))≤Tt.cnts l*t.cnt
 | [],_=>by simp[Tt.cnts]
 | a::l,h=>by
  have h1:=h a (by simp)
  have h2:=sc_3 l (fun x hx=>h x (by simp[hx]))
  simp only[aD,Tt.cnts,Nat.add_mul]; omega
theorem sc_4{n:ByteArray}{t:Tt}(a:Tt):(sbT n t a).cnt≤a.cnt*t.cnt:=by
 refine bj (M:=fun a=>(sbT n t a).cnt≤a.cnt*t.cnt) (fun a ih=>?_) a
 have hp:=t.cnt_pos
 have h1:=sc_3 a.Args ih
 rw[sTu_,a.cnt_u,Nat.add_mul,Nat.one_mul]
 cases (a.Args.isEmpty&&decide (a.Name=n))
 ·rw[cond_false,Tt.cnt_u]; show 1+Tt.cnts (a.Args.map _)≤_; omega
 ·rw[cond_true]; omega
theorem sat_{n:ByteArray}{t a:Tt}(hg:t.good=true)(hc:t.cnt≤30)(ha:aT_ a=true):(sbT n t a).tot≤6300:=by
 have h1:=tt_ _ (st_4 (n:=n) (gt_ t hg) a (at_ ha))
 have h2:=sc_4 (n:=n) (t:=t) a
 have h3:=(aTo_ ha).cnt
 have h4:a.cnt*t.cnt≤30*30:=Nat.mul_le_mul h3 hc
 omega
def Ft.keep(n:ByteArray)(f:Ft):Bool:=isQ f.Op&&(decide (f.Var=n)||!f.fv n)
mutual
def Ft.sub(n:ByteArray)(t:Tt):Ft→Ft
 | .mk o a v ps=>bif (Ft.mk o a v ps).keep n then .mk o a v ps else bif decide (o=3) then .mk o (sbT n t a) v [] else .mk o a v (Fs_ n t ps)
def Fs_(n:ByteArray)(t:Tt):List Ft→List Ft
 | []=>[]
 | a::l=>a.sub n t::Fs_ n t l
end
mutual
def Ft.cf(n:ByteArray)(t:Tt):Ft→Bool
 | .mk o a v ps=>bif (Ft.mk o a v ps).keep n then true else bif decide (o=3) then true else !(isQ o&&hasV v t.vars)&&Fc_ n t ps
def Fc_(n:ByteArray)(t:Tt):List Ft→Bool
 | []=>true
 | a::l=>a.cf n t&&Fc_ n t l
end
mutual
def Ft.sok(n:ByteArray)(t:Tt):Ft→Bool
 | .mk o a v ps=>bif (Ft.mk o a v ps).keep n then true else bif decide (o=3) then aT_ (sbT n t a) else !(isQ o&&hasV v t.vars)&&Fs_1 n t ps
def Fs_1(n:ByteArray)(t:Tt):List Ft→Bool
 | []=>true
 | a::l=>a.sok n t&&Fs_1 n t l
end
theorem Fse_(n:ByteArray)(t:Tt)(l:List Ft):Fs_ n t l=l.map (Ft.sub n t):=by
 induction l with
 | nil=>rfl
 | cons a l ih=>rw[Fs_,ih]; rfl
theorem Fce_(n:ByteArray)(t:Tt)(l:List Ft):Fc_ n t l=l.all (Ft.cf n t):=by
 induction l with
 | nil=>rfl
 | cons a l ih=>rw[Fc_,ih]; rfl
theorem Fse_1(n:ByteArray)(t:Tt)(l:List Ft):Fs_1 n t l=l.all (Ft.sok n t):=by
 induction l with
 | nil=>rfl
 | cons a l ih=>rw[Fs_1,ih]; rfl
theorem Fsu_(n:ByteArray)(t:Tt)(f:Ft):f.sub n t=bif f.keep n then f else bif decide (f.Op=3) then .mk f.Op (sbT n t f.Atom) f.Var [] else .mk f.Op f.Atom f.Var (f.Parts.map (Ft.sub n t)):=by cases f; rw[Ft.sub,Fse_]; rfl
theorem Fcu_(n:ByteArray)(t:Tt)(f:Ft):f.cf n t=bif f.keep n then true else bif decide (f.Op=3) then true else !(isQ f.Op&&hasV f.Var t.vars)&&f.Parts.all (Ft.cf n t):=by cases f; rw[Ft.cf,Fce_]; rfl
theorem Fsu_1(n:ByteArray)(t:Tt)(f:Ft):f.sok n t=bif f.keep n then true else bif decide (f.Op=3) then aT_ (sbT n t f.Atom) else !(isQ f.Op&&hasV f.Var t.vars)&&f.Parts.all (Ft.sok n t):=by cases f; rw[Ft.sok,Fse_1]; rfl
theorem sc_{n:ByteArray}{t:Tt}(f:Ft):f.sok n t=true→f.cf n t=true:=by
 refine bk (M:=fun f=>f.sok n t=true→f.cf n t=true) (fun f ih h=>?_) f
 rw[Fsu_1] at h
 rw[Fcu_]
 cases hk:f.keep n
 ·rw[hk] at h
  rw[cond_false] at h ⊢
  cases e3:decide (f.Op=3)
  ·rw[e3] at h
   simp only[cond_false,aq,ba] at h ⊢
   exact⟨h.1,fun p hp=>ih p hp (h.2 p hp)⟩
  ·rfl
 ·rfl
theorem fl_3{ρ:Type}{n:ByteArray}{t:Tt}(F:Nat→Ft→Bool→Option (Ft×Bool))(N:Nat):∀ (l:List Ft) (i:Nat) (b:Bool) (acc:List Ft),
 (∀ p∈l,∃ r:Ft×Bool,(∀ m,N≤m→∀ b,F m p b=some (r.1,b&&r.2))∧r.2=p.cf n t∧(r.2=true→r.1=p.sub n t))→acc.length+l.length≤1000000→
 ∃ q:List Ft,(∀ m,N≤m→forL (ρ:=ρ) (fun _ x (s:Bool×List Ft)=>(F m x s.1).bind fun v=>(app s.2 [v.1]).bind fun w=>some (.nx (v.2,w))) l i (b,acc)=some (.inr (b&&l.all (Ft.cf n t),acc++q)))∧q.length=l.length∧(l.all (Ft.cf n t)=true→q=l.map (Ft.sub n t))
 | [],i,b,acc,_,_=>⟨[],fun m _=>by simp[forL],rfl,fun _=>rfl⟩
 | p::l,i,b,acc,h,hb=>by
  simp only[aA] at hb
  obtain⟨r,h1,h2,h3⟩:=h p (by simp)
  obtain⟨q,g1,g2,g3⟩:=fl_3 (ρ:=ρ) F N l (i+1) (b&&r.2) (acc++[r.1]) (fun x hx=>h x (by simp[hx])) (by simp; omega)
  refine⟨r.1::q,fun m hm=>?_,by simp[g2],fun hall=>?_⟩
  ·rw[fLn_ (s':=(b&&r.2,acc++[r.1])) (by rw[h1 m hm,ah]; unfold app; rw[if_pos (by simp only[aA,aQ]; omega)]; rfl),g1 m hm,bB,h2]
   simp[Bool.and_assoc]
  ·rw[bB,aq] at hall
   rw[aD,h3 (h2.trans hall.1),g3 hall.2]
theorem mF_{n:ByteArray}{t:Tt}{f:Ft}(hf:f.tot≤4194304)(hl:f.Parts.length≤1000)(F:Nat→Ft→Bool→Option (Ft×Bool))(N:Nat)
 (h:∀ p∈f.Parts,∃ r:Ft×Bool,(∀ m,N≤m→∀ b,F m p b=some (r.1,b&&r.2))∧r.2=p.cf n t∧(r.2=true→r.1=p.sub n t)):
 ∃ q:List Ft,(∀ m,N≤m→imP_ f (F m) true=some (⟨f.Op,f.Atom,f.Var,q⟩,f.Parts.all (Ft.cf n t)))∧q.length=f.Parts.length∧(f.Parts.all (Ft.cf n t)=true→q=f.Parts.map (Ft.sub n t)):=by
 obtain⟨q,g1,g2,g3⟩:=fl_3 (ρ:=Ft×Bool) F N f.Parts 0 true [] h (by simp; omega)
 refine⟨q,fun m hm=>?_,g2,g3⟩
 unfold imP_
 rw[cT_ _ (cot_ (by have:=f.tot_atom; omega)),ah]
 simp only[fNi_]
 rw[g1 m hm,tLi_]
 simp
theorem ChV_(l:List ByteArray)(x:ByteArray):sCS_ l x=some (hasV x l):=Cs_ l x
theorem ise_1{n:ByteArray}{t:Tt}(hn:iVS_ n=true)(hg:t.good=true)(hct:t.cnt≤1000)(f:Ft):f.good=true→f.tot≤4194304→f.cnt≤10000→
 ∃ r:Ft×Bool,(∀ m,4*ap f≤m→isN_ m f n t=some r)∧r.2=f.cf n t∧(r.2=true→r.1=f.sub n t):=by
 refine bk (M:=fun f=>f.good=true→f.tot≤4194304→f.cnt≤10000→
  ∃ r:Ft×Bool,(∀ m,4*ap f≤m→isN_ m f n t=some r)∧r.2=f.cf n t∧(r.2=true→r.1=f.sub n t)) (fun f ih hgf ht hc=>?_) f
 have hp:=f.pos
 have hu:=fu_ f
 have hpl:=fl_1 f.Parts
 obtain⟨hform,hparts⟩:=gs_ hgf
 obtain⟨q,q1,q2,q3⟩:=mF_ (n:=n) (t:=t) ht (show f.Parts.length≤1000 by
  rcases fCc_ hform with⟨_,_,h,_⟩ | ⟨_,_,h,_⟩ | ⟨_,_,h,_⟩<;>omega) (fun m y s=>is1_ m y n t s) (4*ap f-1) (fun p hpm=>by
  obtain⟨r,h1,h2,h3⟩:=ih p hpm (hparts p hpm) (by have:=Ftp_ hpm; omega) (by have:=fm_ hpm; omega)
  have hlt:=Ft.lt hpm
  refine⟨r,fun m hm b=>?_,h2,h3⟩
  obtain⟨k,rfl⟩:∃ k,m=k+1:=⟨m-1,by omega⟩
  show is1_ (k+1) p n t b=_
  rw[is1_,h1 k (by omega),ah]
  cases b<;>rfl)
 have hmf:∀ m,4*ap f≤m→∃ k,m=k+1∧4*ap f-1≤k:=fun m hm=>⟨m-1,by omega,by omega⟩
 rcases fCc_ hform with⟨e3,hq,hk,hat,_⟩ | ⟨e3,hq,hk,hza,hvv⟩ | ⟨e3,hq,_,_,_⟩
 ·have hkeep:f.keep n=false:=by unfold Ft.keep; rw[hq]; rfl
  have h0:f.Parts=[]:=List.eq_nil_of_length_eq_zero hk
  refine⟨(⟨f.Op,sbT n t f.Atom,f.Var,[]⟩,true),fun m hm=>?_,by rw[Fcu_,hkeep,cond_false,decide_eq_true e3]; rfl,fun _=>by rw[Fsu_,hkeep,cond_false,decide_eq_true e3]; rfl⟩
  obtain⟨k,rfl,hk'⟩:=hmf m hm
  show isN_ (k+1) f n t=_
  rw[isN_,iQe_,ah,show(decide (f.Op=8)||decide (f.Op=9))=false from hq,cond_false,ah,cond_false,q1 k hk',ah,decide_eq_true e3,cond_true,
   ae_ (by omega) (by have:=(aTo_ hat).cnt; omega),ah,h0]
  have hq0:q=[]:=List.eq_nil_of_length_eq_zero (by rw[q2,h0]; rfl)
  rw[hq0]; rfl
 ·obtain⟨V,v1,v2⟩:=fi_1 hgf hc
  have hov:=oe_1 hvv hg (show t.cnt≤10000000 by omega)
  by_cases en:f.Var=n
  ·have hkeep:f.keep n=true:=by unfold Ft.keep; rw[hq,decide_eq_true en]; rfl
   refine⟨(f,true),fun m hm=>?_,by rw[Fcu_,hkeep]; rfl,fun _=>by rw[Fsu_,hkeep]; rfl⟩
   obtain⟨k,rfl,hk'⟩:=hmf m hm
   show isN_ (k+1) f n t=_
   rw[isN_,iQe_,ah,show(decide (f.Op=8)||decide (f.Op=9))=true from hq,cond_true,decide_eq_true en,cond_true,cF_3 f ht]; rfl
  ·cases hfv:f.fv n
   ·have hkeep:f.keep n=true:=by unfold Ft.keep; rw[hq,hfv]; simp
    refine⟨(f,true),fun m hm=>?_,by rw[Fcu_,hkeep]; rfl,fun _=>by rw[Fsu_,hkeep]; rfl⟩
    obtain⟨k,rfl,hk'⟩:=hmf m hm
    show isN_ (k+1) f n t=_
    rw[isN_,iQe_,ah,show(decide (f.Op=8)||decide (f.Op=9))=true from hq,cond_true,decide_eq_false en,cond_false,v1,ah,ChV_,ah,v2,hfv,cond_false,cF_3 f ht]; rfl
   ·have hkeep:f.keep n=false:=by unfold Ft.keep; rw[hq,hfv,decide_eq_false en]; rfl
    cases ho:hasV f.Var t.vars
    ·refine⟨(⟨f.Op,f.Atom,f.Var,q⟩,f.Parts.all (Ft.cf n t)),fun m hm=>?_,by rw[Fcu_,hkeep,cond_false,decide_eq_false e3,cond_false,ho]; simp,fun hh=>by rw[Fsu_,hkeep,cond_false,decide_eq_false e3,cond_false,q3 hh]⟩
     obtain⟨k,rfl,hk'⟩:=hmf m hm
     show isN_ (k+1) f n t=_
     rw[isN_,iQe_,ah,show(decide (f.Op=8)||decide (f.Op=9))=true from hq,cond_true,decide_eq_false en,cond_false,v1,ah,ChV_,ah,v2,hfv,cond_true,ah,cond_true,hov,ah,ho,cond_false,q1 k hk',ah,decide_eq_false e3]; rfl
    ·refine⟨(⟨0,⟨⟨#[]⟩,[]⟩,⟨#[]⟩,[]⟩,false),fun m hm=>?_,by rw[Fcu_,hkeep,cond_false,decide_eq_false e3,cond_false,ho,hq]; rfl,fun hh=>by cases hh⟩
     obtain⟨k,rfl,hk'⟩:=hmf m hm
     show isN_ (k+1) f n t=_
     rw[isN_,iQe_,ah,show(decide (f.Op=8)||decide (f.Op=9))=true from hq,cond_true,decide_eq_false en,cond_false,v1,ah,ChV_,ah,v2,hfv,cond_true,ah,cond_true,hov,ah,ho]; rfl
 ·have hkeep:f.keep n=false:=by unfold Ft.keep; rw[hq]; rfl
  refine⟨(⟨f.Op,f.Atom,f.Var,q⟩,f.Parts.all (Ft.cf n t)),fun m hm=>?_,by rw[Fcu_,hkeep,cond_false,decide_eq_false e3,cond_false,hq]; simp,fun hh=>by rw[Fsu_,hkeep,cond_false,decide_eq_false e3,cond_false,q3 hh]⟩
  obtain⟨k,rfl,hk'⟩:=hmf m hm
  show isN_ (k+1) f n t=_
  rw[isN_,iQe_,ah,show(decide (f.Op=8)||decide (f.Op=9))=false from hq,cond_false,ah,cond_false,q1 k hk',ah,decide_eq_false e3]; rfl
theorem sl_1{n:ByteArray}{t:Tt}(F:Nat→Ft→Option (Ft×Bool))(G:List Ft→Ft)(N:Nat):∀ (l:List Ft) (i:Nat) (acc:List Ft),
 (∀ p∈l,∃ r:Ft×Bool,(∀ m,N≤m→F m p=some r)∧r.2=p.sok n t∧(r.2=true→r.1=p.sub n t))→acc.length+l.length≤1000000→
 ∃ q:(Ft×Bool) ⊕ List Ft,(∀ m,N≤m→forL (fun _ x (s:List Ft)=>(F m x).bind fun v=>bif v.2 then(app s [v.1]).bind fun w=>some (.nx w) else some (.rt (G s,false))) l i acc=some q)∧(l.all (Ft.sok n t)=true→q=.inr (acc++l.map (Ft.sub n t)))∧(l.all (Ft.sok n t)=false→∃ g,q=.inl (g,false))
 | [],i,acc,_,_=>⟨.inr acc,fun m _=>rfl,fun _=>by simp,fun h=>by cases h⟩
 | p::l,i,acc,h,hb=>by
  simp only[aA] at hb
  obtain⟨r,h1,h2,h3⟩:=h p (by simp)
  cases hr:r.2
  ·refine⟨.inl (G acc,false),fun m hm=>by rw[fLr_ (r:=(G acc,false)) (by rw[h1 m hm,ah,hr]; rfl)],fun ha=>?_,fun _=>⟨_,rfl⟩⟩
   rw[bB,aq,← h2,hr] at ha; cases ha.1
  ·obtain⟨q,g1,g2,g3⟩:=sl_1 F G N l (i+1) (acc++[r.1]) (fun x hx=>h x (by simp[hx])) (by simp; omega)
   refine⟨q,fun m hm=>?_,fun ha=>?_,fun ha=>?_⟩
   ·rw[fLn_ (s':=acc++[r.1]) (by rw[h1 m hm,ah,hr,cond_true]; unfold app; rw[if_pos (by simp only[aA,aQ]; omega)]; rfl),g1 m hm]
   ·rw[bB,aq] at ha
    rw[g2 ha.2,h3 hr]; simp
   ·rw[bB,← h2,hr,Bool.true_and] at ha; exact g3 ha
theorem sse_{n:ByteArray}{t:Tt}(hn:iVS_ n=true)(hg:t.good=true)(hok:t.Ok)(hct:t.cnt≤30)(f:Ft):f.Ok→f.good=true→f.tot≤4194304→f.cnt≤10000→
 ∃ r:Ft×Bool,(∀ m,2*ap f≤m→slP_ m f n t=some r)∧r.2=f.sok n t∧(r.2=true→r.1=f.sub n t):=by
 refine bk (M:=fun f=>f.Ok→f.good=true→f.tot≤4194304→f.cnt≤10000→
  ∃ r:Ft×Bool,(∀ m,2*ap f≤m→slP_ m f n t=some r)∧r.2=f.sok n t∧(r.2=true→r.1=f.sub n t)) (fun f ih hokf hgf ht hc=>?_) f
 have hp:=f.pos
 have hu:=fu_ f
 have hpl:=fl_1 f.Parts
 have hokp:=hokf.u.2.2.2.2
 obtain⟨hform,hparts⟩:=gs_ hgf
 obtain⟨q,q1,q2,q3⟩:=sl_1 (n:=n) (t:=t) (fun m y=>slP_ m y n t) (fun s=>Ft.mk f.Op (Tt.mk (⟨#[]⟩:ByteArray) ([])) f.Var s) (2*ap f-1) f.Parts 0 [] (fun p hpm=>by
  obtain⟨r,h1,h2,h3⟩:=ih p hpm (hokp p hpm) (hparts p hpm) (by have:=Ftp_ hpm; omega) (by have:=fm_ hpm; omega)
  exact⟨r,fun m hm=>h1 m (by have:=Ft.lt hpm; omega),h2,h3⟩) (by simp; omega)
 have hmf:∀ m,2*ap f≤m→∃ k,m=k+1∧2*ap f-1≤k:=fun m hm=>⟨m-1,by omega,by omega⟩
 have fin:f.Atom=⟨⟨#[]⟩,[]⟩→∃ r:Ft×Bool,thenL (ρ:=Ft×Bool) (some q) (fun s11=>some ((Ft.mk f.Op (Tt.mk (⟨#[]⟩:ByteArray) ([])) f.Var s11),true))=some r∧r.2=f.Parts.all (Ft.sok n t)∧(r.2=true→r.1=⟨f.Op,f.Atom,f.Var,f.Parts.map (Ft.sub n t)⟩):=by
  intro ha
  cases hall:f.Parts.all (Ft.sok n t)
  ·obtain⟨g,hg⟩:=q3 hall
   rw[hg,tLi_1]
   exact⟨_,rfl,rfl,fun h=>by cases h⟩
  ·rw[q2 hall,tLi_]
   exact⟨_,rfl,rfl,fun _=>by rw[ha]; rfl⟩
 rcases fCc_ hform with⟨e3,hq,hk,hat,_⟩ | ⟨e3,hq,hk,hza,hvv⟩ | ⟨e3,hq,_,hza,_⟩
 ·have hkeep:f.keep n=false:=by unfold Ft.keep; rw[hq]; rfl
  have hao:=aTo_ hat
  have htot:=sat_ (n:=n) hg hct hat
  refine⟨(⟨f.Op,sbT n t f.Atom,f.Var,[]⟩,aT_ (sbT n t f.Atom)),fun m hm=>?_,by rw[Fsu_1,hkeep,cond_false,decide_eq_true e3]; rfl,fun _=>by rw[Fsu_,hkeep,cond_false,decide_eq_true e3]; rfl⟩
  obtain⟨k,rfl,hk'⟩:=hmf m hm
  show slP_ (k+1) f n t=_
  rw[slP_,decide_eq_true e3,cond_true,lPe_1 n t (by omega),ah,
   show slA_2 (bif decide (t.Name=n) then⟨[]⟩ else⟨[⟨n,t⟩]⟩) f.Atom=some (sbT n t f.Atom) from lAa_ hn (by omega) hg hokf.u.2.1 hao.nv hao.hall (by have:=cl_ f.Atom.Args; have:=f.Atom.cnt_u; have:=hao.cnt; omega),ah,
   as_2 _ (by omega) (Tt.Ok_of _ (by omega)),ah]
 ·obtain⟨p0,hp0⟩:∃ p,f.Parts=[p]:=by
   match hpp:f.Parts with
   | []=>rw[hpp] at hk; cases hk
   | [p]=>exact⟨p,rfl⟩
   | _::_::_=>rw[hpp] at hk; simp at hk
  have hm0:p0∈f.Parts:=by rw[hp0]; simp
  obtain⟨V,v1,v2⟩:=fs_1 (hokp p0 hm0) (hparts p0 hm0) (by have:=fm_ hm0; omega)
  obtain⟨W,w1,w2⟩:=lVo_1 hok hg (show t.cnt≤1000 by omega)
  have hwv:hasV f.Var W=hasV f.Var t.vars:=hVc_ (w2 _)
  have body:∀ k,2*ap f-1≤k→slP_ (k+1) f n t=bif decide (f.Var=n) then some (f,true) else bif p0.fv n then(bif hasV f.Var t.vars then some ((Ft.mk f.Op (Tt.mk (⟨#[]⟩:ByteArray) ([])) f.Var ([])),false) else thenL (ρ:=Ft×Bool) (some q) (fun s11=>some ((Ft.mk f.Op (Tt.mk (⟨#[]⟩:ByteArray) ([])) f.Var s11),true))) else some (f,true):=by
   intro k hk'
   have hi:idx f.Parts (0:Int)=some p0:=by rw[hp0]; rfl
   rw[slP_,decide_eq_false e3,cond_false,ownF f ht,hi]
   simp only[ah,v1,lIe_,v2,w1,hwv,fNi_]
   rw[q1 k hk']
   unfold isQ at hq
   cases e8:decide (f.Op=8)
   ·rw[e8,Bool.false_or] at hq; rw[hq]; rfl
   ·rfl
  by_cases en:f.Var=n
  ·have hkeep:f.keep n=true:=by unfold Ft.keep; rw[hq,decide_eq_true en]; rfl
   refine⟨(f,true),fun m hm=>?_,by rw[Fsu_1,hkeep]; rfl,fun _=>by rw[Fsu_,hkeep]; rfl⟩
   obtain⟨k,rfl,hk'⟩:=hmf m hm
   show slP_ (k+1) f n t=_
   rw[body k hk',decide_eq_true en]; rfl
  ·have hfe:f.fv n=p0.fv n:=by rw[Ffu_,decide_eq_false e3,cond_false,decide_eq_false en,hp0]; simp[Ff_]
   cases hfv:p0.fv n
   ·have hkeep:f.keep n=true:=by unfold Ft.keep; rw[hq,hfe,hfv]; simp
    refine⟨(f,true),fun m hm=>?_,by rw[Fsu_1,hkeep]; rfl,fun _=>by rw[Fsu_,hkeep]; rfl⟩
    obtain⟨k,rfl,hk'⟩:=hmf m hm
    show slP_ (k+1) f n t=_
    rw[body k hk',decide_eq_false en,hfv]; rfl
   ·have hkeep:f.keep n=false:=by unfold Ft.keep; rw[hq,hfe,hfv,decide_eq_false en]; rfl
    cases ho:hasV f.Var t.vars
    ·obtain⟨r,r1,r2,r3⟩:=fin hza
     refine⟨r,fun m hm=>?_,by rw[r2,Fsu_1,hkeep,cond_false,decide_eq_false e3,cond_false,ho]; simp,fun hh=>by rw[r3 hh,Fsu_,hkeep,cond_false,decide_eq_false e3,cond_false]⟩
     obtain⟨k,rfl,hk'⟩:=hmf m hm
     show slP_ (k+1) f n t=_
     rw[body k hk',decide_eq_false en,hfv,ho]; exact r1
    ·refine⟨(⟨f.Op,⟨⟨#[]⟩,[]⟩,f.Var,[]⟩,false),fun m hm=>?_,by rw[Fsu_1,hkeep,cond_false,decide_eq_false e3,cond_false,ho,hq]; rfl,fun hh=>by cases hh⟩
     obtain⟨k,rfl,hk'⟩:=hmf m hm
     show slP_ (k+1) f n t=_
     rw[body k hk',decide_eq_false en,hfv,ho]; rfl
 ·have hkeep:f.keep n=false:=by unfold Ft.keep; rw[hq]; rfl
  obtain⟨r,r1,r2,r3⟩:=fin hza
  refine⟨r,fun m hm=>?_,by rw[r2,Fsu_1,hkeep,cond_false,decide_eq_false e3,cond_false,hq]; simp,fun hh=>by rw[r3 hh,Fsu_,hkeep,cond_false,decide_eq_false e3,cond_false]⟩
  obtain⟨k,rfl,hk'⟩:=hmf m hm
  show slP_ (k+1) f n t=_
  unfold isQ at hq
  rw[Bool.or_eq_false_iff] at hq
  rw[slP_,decide_eq_false e3,cond_false,hq.1,cond_false,hq.2,cond_false]
  simp only[fNi_]
  rw[q1 k hk']; exact r1
theorem sp_{n:ByteArray}{t:Tt}(hn:iVS_ n=true)(hg:t.good=true)(hok:t.Ok)(hct:t.cnt≤30){f:Ft}(hof:f.Ok)(hgf:f.good=true)(ht:f.tot≤4194304)(hc:f.cnt≤10000):
 ∃ r:Ft×Bool,slP_4 f n t=some r∧r.2=f.sok n t∧(r.2=true→r.1=f.sub n t):=by
 obtain⟨r,h1,h2,h3⟩:=sse_ hn hg hok hct f hof hgf ht hc
 exact⟨r,le_ ⟨_,h1⟩,h2,h3⟩
theorem sc_1{n:ByteArray}{t:Tt}:∀ l:List Ft,(∀ a∈l,(a.sub n t).cnt=a.cnt)→Ft.cnts (l.map (Ft.sub n t))=Ft.cnts l
 | [],_=>rfl
 | a::l,h=>by
  simp only[aD,Ft.cnts]
  rw[h a (by simp),sc_1 l (fun x hx=>h x (by simp[hx]))]
theorem sc_5{n:ByteArray}{t:Tt}(f:Ft):f.good=true→(f.sub n t).cnt=f.cnt:=by
 refine bk (M:=fun f=>f.good=true→(f.sub n t).cnt=f.cnt) (fun f ih hg=>?_) f
 obtain⟨hform,hparts⟩:=gs_ hg
 rw[Fsu_]
 cases f.keep n
 ·rw[cond_false]
  cases e:decide (f.Op=3)
  ·rw[cond_false,fu_,fu_ f]
   show 1+Ft.cnts (f.Parts.map _)=_
   rw[sc_1 f.Parts (fun a ha=>ih a ha (hparts a ha))]
  ·have e3:=of_decide_eq_true e
   rcases fCc_ hform with⟨_,_,hk,_⟩ | ⟨h,_⟩ | ⟨h,_⟩
   ·rw[cond_true,fu_,fu_ f,List.eq_nil_of_length_eq_zero hk]; rfl
   ·exact absurd e3 h
   ·exact absurd e3 h
 ·rfl
theorem sg_1{n:ByteArray}{t:Tt}(f:Ft):f.good=true→f.cf n t=true→(f.sub n t).good=f.sok n t:=by
 refine bk (M:=fun f=>f.good=true→f.cf n t=true→(f.sub n t).good=f.sok n t) (fun f ih hg hcf=>?_) f
 obtain⟨hform,hparts⟩:=gs_ hg
 rw[Fsu_,Fsu_1]
 rw[Fcu_] at hcf
 cases hk:f.keep n
 ·rw[hk,cond_false] at hcf
  rw[cond_false,cond_false]
  cases e:decide (f.Op=3)
  ·rw[e,cond_false,aq,ba] at hcf
   rw[cond_false,cond_false,Ft.good_u,hcf.1,Bool.true_and]
   show(fC_ f.Op f.Atom f.Var (f.Parts.map _).length&&(f.Parts.map _).all Ft.good)=_
   rw[List.length_map,hform,Bool.true_and,List.all_map,Bool.eq_iff_iff,ba,ba]
   exact⟨fun h a ha=>by rw[← ih a ha (hparts a ha) (hcf.2 a ha)]; exact h a ha,fun h a ha=>by show(a.sub n t).good=true; rw[ih a ha (hparts a ha) (hcf.2 a ha)]; exact h a ha⟩
  ·have e3:=of_decide_eq_true e
   rcases fCc_ hform with⟨_,_,_,_,hv⟩ | ⟨h,_⟩ | ⟨h,_⟩
   ·rw[cond_true,cond_true,Ft.good_u]
    show(fC_ f.Op (sbT n t f.Atom) f.Var 0&&true)=_
    unfold fC_
    rw[e,cond_true,hv]; simp
   ·exact absurd e3 h
   ·exact absurd e3 h
 ·rw[cond_true,cond_true,hg]
theorem f_{g:Ft→Ft}{c:Nat}:∀ l:List Ft,(∀ a∈l,(g a).tot+1≤c*a.cnt)→ltot Ft.tot (l.map g)≤c*Ft.cnts l
 | [],_=>by simp[ltot]
 | a::l,h=>by
  have h1:=h a (by simp)
  have h2:=f_ l (fun x hx=>h x (by simp[hx]))
  simp only[ltot,aA,aD,bp,Ft.cnts,Nat.mul_add] at*
  omega
theorem vt_1{f:Ft}(hform:fC_ f.Op f.Atom f.Var f.Parts.length=true):f.Var.size≤4:=by
 rcases fCc_ hform with⟨_,_,_,_,hv⟩ | ⟨_,_,_,_,hv⟩ | ⟨_,_,_,_,hv⟩
 ·rw[hv]; exact Nat.zero_le _
 ·exact vs_1 hv
 ·rw[hv]; exact Nat.zero_le _
theorem at_2{f:Ft}(hform:fC_ f.Op f.Atom f.Var f.Parts.length=true):f.Atom.tot≤210:=by
 have hz:(⟨⟨#[]⟩,[]⟩:Tt).tot≤210:=by rw[Tt.tot_u]; exact Nat.le_of_ble_eq_true rfl
 rcases fCc_ hform with⟨_,_,_,hat,_⟩ | ⟨_,_,_,hv,_⟩ | ⟨_,_,_,hv,_⟩
 ·have:=tt_ _ (at_ hat); have:=(aTo_ hat).cnt; omega
 ·rw[hv]; exact hz
 ·rw[hv]; exact hz
theorem gt_2(f:Ft):f.good=true→f.tot+1≤220*f.cnt:=by
 refine bk (M:=fun f=>f.good=true→f.tot+1≤220*f.cnt) (fun f ih hg=>?_) f
 obtain⟨hform,hparts⟩:=gs_ hg
 have h1:=vt_1 hform
 have h2:=at_2 hform
 have h3:=f_ (g:=fun x=>x) (c:=220) f.Parts (fun a ha=>ih a ha (hparts a ha))
 rw[List.map_id'] at h3
 rw[f.tot_u,fu_ f]; omega
theorem st_2{n:ByteArray}{t:Tt}(hg:t.good=true)(hc:t.cnt≤30)(f:Ft):f.good=true→(f.sub n t).tot+1≤6400*f.cnt:=by
 refine bk (M:=fun f=>f.good=true→(f.sub n t).tot+1≤6400*f.cnt) (fun f ih hgf=>?_) f
 obtain⟨hform,hparts⟩:=gs_ hgf
 have h1:=vt_1 hform
 have h2:=at_2 hform
 have hcp:=f.cnt_pos
 rw[Fsu_]
 cases f.keep n
 ·rw[cond_false]
  cases e:decide (f.Op=3)
  ·have h3:=f_ (g:=Ft.sub n t) (c:=6400) f.Parts (fun a ha=>ih a ha (hparts a ha))
   rw[cond_false,Ft.tot_u,fu_ f]
   show f.Atom.tot+(f.Var.size+ltot Ft.tot (f.Parts.map _))+1≤_
   omega
  ·have e3:=of_decide_eq_true e
   rcases fCc_ hform with⟨_,_,_,hat,_⟩ | ⟨h,_⟩ | ⟨h,_⟩
   ·have h4:=sat_ (n:=n) hg hc hat
    rw[cond_true,Ft.tot_u]
    show(sbT n t f.Atom).tot+(f.Var.size+ltot Ft.tot [])+1≤_
    have h5:ltot Ft.tot []=0:=rfl
    omega
   ·exact absurd e3 h
   ·exact absurd e3 h
 ·have:=gt_2 f hgf
  rw[cond_true]; omega
theorem Ft.Ok_of(f:Ft):f.good=true→f.tot≤4194304→f.Ok:=by
 refine bk (M:=fun f=>f.good=true→f.tot≤4194304→f.Ok) (fun f ih hg ht=>?_) f
 obtain⟨hform,hparts⟩:=gs_ hg
 have hu:=f.tot_u
 have hl:=ll_ Ft.tot f.Parts
 have hop:InR f.Op:=by
  unfold fC_ at hform
  by_cases hr:InR f.Op
  ·exact hr
  ·simp only[InR] at hr
   have e:∀ k:Int,1≤k→k≤9→decide (f.Op=k)=false:=fun k h1 h2=>decide_eq_false (fun h=>hr (by omega))
   rw[e 1 (by decide) (by decide),e 2 (by decide) (by decide),e 3 (by decide) (by decide),e 4 (by decide) (by decide),e 5 (by decide) (by decide),e 6 (by decide) (by decide),e 7 (by decide) (by decide),e 8 (by decide) (by decide),e 9 (by decide) (by decide)] at hform
   simp at hform
 have:=Ft.Ok.mk f.Op f.Atom f.Var f.Parts hop (Tt.Ok_of f.Atom (by omega)) (show f.Var.size≤9223372036854775807 by omega) (show f.Parts.length≤9223372036854775807 by omega) (fun a ha=>ih a ha (hparts a ha) (by have:=Ftp_ ha; omega))
 rwa [f.eta] at this
theorem sO_2{n:ByteArray}{t:Tt}(hok:t.Ok)(hg:t.good=true)(hc:t.cnt≤30)(f:Ft):f.Ok→f.good=true→(f.sub n t).Ok:=by
 refine bk (M:=fun f=>f.Ok→f.good=true→(f.sub n t).Ok) (fun f ih hokf hgf=>?_) f
 obtain⟨hform,hparts⟩:=gs_ hgf
 obtain⟨h1,h2,h3,h4⟩:=hokf.u
 rw[Fsu_]
 cases f.keep n
 ·rw[cond_false]
  cases e:decide (f.Op=3)
  ·refine Ft.Ok.mk _ _ _ _ h1 h2 h3 (by rw[List.length_map]; exact h4.1) (fun a ha=>?_)
   obtain⟨b,hb,rfl⟩:=List.mem_map.1 ha
   exact ih b hb (h4.2 b hb) (hparts b hb)
  ·have e3:=of_decide_eq_true e
   rcases fCc_ hform with⟨_,_,_,hat,_⟩ | ⟨h,_⟩ | ⟨h,_⟩
   ·have h5:=sat_ (n:=n) hg hc hat
    exact Ft.Ok.mk _ _ _ _ h1 (Tt.Ok_of _ (by omega)) h3 (by simp only[Big,aQ]; omega) (fun a ha=>by cases ha)
   ·exact absurd e3 h
   ·exact absurd e3 h
 ·exact hokf
theorem vFi_{f:Ft}(h:vF_ f=true):f.cnt≤40∧f.good=true:=by
 unfold vF_ at h; rw[aq,decide_eq_true_iff] at h; exact h
theorem vFt_{f:Ft}(h:vF_ f=true):f.tot≤8800:=by
 obtain⟨h1,h2⟩:=vFi_ h
 have:=gt_2 f h2; omega
theorem vFO_{f:Ft}(h:vF_ f=true):f.Ok:=Ft.Ok_of f (vFi_ h).2 (by have:=vFt_ h; omega)
theorem gTO_{t:Tt}(h:gT_ t=true):t.tot≤210∧t.Ok:=by
 obtain⟨h1,h2⟩:=gTi_ h
 have:=tt_ t (gt_ t h1)
 exact⟨by omega,Tt.Ok_of t (by omega)⟩
def subst(f:Ft)(n:ByteArray)(t:Tt):Bool:=vF_ f&&(iVS_ n&&(gT_ t&&f.sok n t))
theorem sv_{n:ByteArray}{t:Tt}{f:Ft}(hv:vF_ f=true)(hcf:f.cf n t=true):vF_ (f.sub n t)=f.sok n t:=by
 obtain⟨h1,h2⟩:=vFi_ hv
 unfold vF_
 rw[sc_5 f h2,sg_1 f h2 hcf,decide_eq_true h1,Bool.true_and]
theorem SFe_{n:ByteArray}{t:Tt}{f:Ft}(hof:f.Ok)(hf:f.tot≤4194304)(hnb:Big n.size)(hot:t.Ok)(ht:t.tot≤4194304):
 iSF_ f n t=some (bif subst f n t then(f.sub n t,true) else(⟨0,⟨⟨#[]⟩,[]⟩,⟨#[]⟩,[]⟩,false)):=by
 unfold iSF_ subst
 rw[vFi_1 f hf hof,iVe_ n hnb,IVT_ t ht hot]
 simp only[ah]
 cases hv:vF_ f
 ·rfl
 cases hn:iVS_ n
 ·rfl
 cases hg:gT_ t
 ·rfl
 obtain⟨h1,h2⟩:=vFi_ hv
 obtain⟨g1,g2⟩:=gTi_ hg
 obtain⟨r,r1,r2,r3⟩:=ise_1 hn g1 (by omega) f h2 hf (by omega)
 simp only[cond_true,Bool.true_and]
 rw[show is_ f n t=some r from le_ ⟨_,r1⟩,ah,r2]
 cases hcf:f.cf n t
 ·have:f.sok n t=false:=by rw[← Bool.not_eq_true]; intro h; rw[sc_ f h] at hcf; cases hcf
  rw[this]; rfl
 ·rw[cond_true,r3 (r2.trans hcf)]
  have h3:=st_2 (n:=n) g1 g2 f h2
  unfold iiF_
  rw[vFi_1 _ (by omega) (sO_2 hot g1 g2 f hof h2),ah,sv_ hv hcf]
  cases f.sok n t<;>rfl
end
section
def cmpI(a b:Int):Int:=if a<b then -1 else if b<a then 1 else 0
theorem iNN_1(a:Int):ciN_1 a=some false:=by simp[ciN_1]
theorem Ce_1(a b:Int):cCi_ a b=some (cmpI a b):=by
 simp only[cCi_,iNN_1,ah,cond_false]
 unfold cmpI
 by_cases h:a<b
 ·simp[h]
 ·by_cases h':b<a<;>simp[h,h']
theorem Oe_(a b:Int):cOi_ [a,b]=some (if a=0 then b else a):=by
 unfold cOi_
 simp only[fNi_]
 by_cases h:a=0
 ·rw[fLn_ (s':=()) (by simp[h])]
  by_cases h':b=0
  ·rw[fLn_ (s':=()) (by simp[h'])]; simp[forL,tLi_,h,h']
  ·rw[fLr_ (r:=b) (by simp[h']),tLi_1]; simp[h]
 ·rw[fLr_ (r:=a) (by simp[h]),tLi_1]; simp[h]
def cmpS(a b:ByteArray):Int:=if slt a b=true then -1 else if a=b then 0 else 1
theorem iNN_(a:ByteArray):ciN_ a=some false:=by simp[ciN_]
theorem CSe_(a b:ByteArray):cCs_ a b=some (cmpS a b):=by
 simp only[cCs_,iNN_,ah,cond_false]
 unfold cmpS slt
 by_cases h:Op.bytesLess a.data.toList b.data.toList=true
 ·rw[if_pos h,h]; rfl
 ·rw[if_neg h]
  have h':Op.bytesLess a.data.toList b.data.toList=false:=by simpa using h
  rw[h',cond_false]
  by_cases e:a=b
  ·rw[decide_eq_true e,if_pos e]; rfl
  ·rw[decide_eq_false e,if_neg e]; rfl
theorem st_3{a b:ByteArray}(h:¬ slt a b=true)(h2:¬ a=b):slt b a=true:=by
 cases e:slt b a
 ·exact absurd (be_1 (bLt_1 (by simpa[slt] using h) (by simpa[slt] using e))) h2
 ·rfl
theorem si_2{pre suf:List ByteArray}{x:ByteArray}(h:Srt (pre++suf))(h1:∀ y∈pre,slt y x=true)(h2:∀ y∈suf,slt x y=true):Srt (pre++[x]++suf):=by
 unfold Srt at*
 rw[List.pairwise_append] at h
 rw[List.append_assoc,List.pairwise_append]
 refine⟨h.1,?_,fun a ha b hb=>?_⟩
 ·rw[List.singleton_append,List.pairwise_cons]; exact⟨h2,h.2.1⟩
 ·rw[List.singleton_append,aU] at hb
  rcases hb with rfl | hb
  ·exact h1 a ha
  ·exact h.2.2 a ha b hb
theorem ie_{pre suf:List ByteArray}{x:ByteArray}(hb:(pre++suf).length≤1000)(i:Int)(hi:i=(pre.length:Nat)):(aa (slc (pre++suf) 0 i) fun v36=>aa (app ([]) v36) fun v37=>aa (app v37 ([x])) fun v40=>aa (slc (pre++suf) i ((pre++suf).length:Int)) fun v43=>app v40 v43)=some (pre++[x]++suf):=by
 subst hi
 simp only[aP] at hb
 have e1:slc (pre++suf) 0 (pre.length:Int)=some pre:=by unfold slc; rw[if_pos (by simp; omega)]; simp
 have e2:slc (pre++suf) (pre.length:Int) ((pre++suf).length:Int)=some suf:=by unfold slc; rw[if_pos (by simp; omega),Int.toNat_natCast,Int.toNat_natCast,List.take_length,List.drop_left]
 rw[e1,ah]
 have e3:app ([]:List ByteArray) pre=some pre:=by unfold app; rw[if_pos (by simp only[aQ]; omega)]; rfl
 have e4:app pre [x]=some (pre++[x]):=by unfold app; rw[if_pos (by simp only[aA,aQ]; omega)]
 rw[e3,ah,e4,ah,e2,ah]
 unfold app; rw[if_pos (by simp only[aP,aA,aQ]; omega)]
theorem lPo_(acc:List ByteArray)(x:ByteArray)(hs:Srt acc)(hb:acc.length≤1000):∃ v,slP_5 acc x=some v∧(∀ y,y∈v↔y∈acc∨y∈[x])∧v.length≤acc.length+1∧Srt v:=by
 unfold slP_5
 have key:∀ (suf pre:List ByteArray),pre++suf=acc→(∀ y∈pre,slt y x=true)→∃ v,(thenL (ρ:=(List ByteArray)) (σ:=Unit) (forN (fun (i2:Nat) (s2:Unit)=>
  aa (idx acc (i2:Int)) fun v13=>
  bif Op.bytesLess v13.data.toList x.data.toList then
   some (.nx ())
  else
   aa (idx acc (i2:Int)) fun v27=>
   bif decide (v27=x) then
    some (.rt acc)
   else
    aa (slc acc (0:Int) (i2:Int)) fun v36=>
    aa (app ([]) v36) fun v37=>
    aa (app v37 ([x])) fun v40=>
    aa (slc acc (i2:Int) (acc.length:Int)) fun v43=>
    aa (app v40 v43) fun v44=>
    some (.rt v44)) suf.length pre.length ()) fun s2=>
  aa (slc acc (0:Int) ((acc.length:Nat):Int)) fun v36=>
  aa (app ([]) v36) fun v37=>
  aa (app v37 ([x])) fun v40=>
  aa (slc acc ((acc.length:Nat):Int) (acc.length:Int)) fun v43=>
  aa (app v40 v43) fun v44=>
  some v44)=some v∧(∀ y,y∈v↔y∈acc∨y∈[x])∧v.length≤acc.length+1∧Srt v:=by
  intro suf
  induction suf with
  | nil=>
   intro pre he hp
   rw[List.append_nil] at he
   subst he
   have e:=ie_ (pre:=pre) (suf:=[]) (x:=x) (by simpa using hb) pre.length rfl
   simp only[List.append_nil] at e
   refine⟨pre++[x],?_,fun y=>by simp,by simp,?_⟩
   ·rw[aQ,fNz_,tLi_]
    have:=congrArg (fun o=>aa o fun v44=>some v44) e
    simpa only[Option.bind_assoc,ah] using this
   ·have:=si_2 (pre:=pre) (suf:=[]) (x:=x) (by simpa using hs) hp (by simp)
    simpa using this
  | cons s suf ih=>
   intro pre he hp
   have hi:idx acc (pre.length:Int)=some s:=by rw[in_,← he]; simp
   by_cases c1:slt s x=true
   ·rw[aA,fNn_ (s':=()) (by rw[hi,ah]; rw[show Op.bytesLess s.data.toList x.data.toList=true from c1]; rfl)]
    have:=ih (pre++[s]) (by simpa using he) (fun y hy=>by
     rw[aS,List.mem_singleton] at hy
     rcases hy with hy | rfl
     ·exact hp y hy
     ·exact c1)
    simpa only[aP,aA,aQ,Nat.zero_add] using this
   ·have c1':Op.bytesLess s.data.toList x.data.toList=false:=by simpa[slt] using c1
    by_cases c2:s=x
    ·rw[aA,fNr_ (r:=acc) (by rw[hi,ah,c1',cond_false,ah,decide_eq_true c2]; rfl),tLi_1]
     refine⟨acc,rfl,fun y=>⟨Or.inl,fun g=>g.elim id fun g=>?_⟩,by omega,hs⟩
     rw[List.mem_singleton] at g
     rw[g,← he,← c2]; simp
    ·have c3:=st_3 c1 c2
     have e:=ie_ (pre:=pre) (suf:=s::suf) (x:=x) (by rw[he]; exact hb) pre.length rfl
     rw[he] at e
     have e':(aa (slc acc (0:Int) (pre.length:Int)) fun v36=>aa (app ([]) v36) fun v37=>aa (app v37 ([x])) fun v40=>aa (slc acc (pre.length:Int) (acc.length:Int)) fun v43=>aa (app v40 v43) fun v44=>some (Flow.rt (ρ:=List ByteArray) (σ:=Unit) v44))=some (.rt (pre++[x]++s::suf)):=by
      have:=congrArg (fun o=>aa o fun v44=>some (Flow.rt (ρ:=List ByteArray) (σ:=Unit) v44)) e
      simpa only[Option.bind_assoc,ah] using this
     rw[aA,fNr_ (r:=pre++[x]++s::suf) (by rw[hi,ah,c1',cond_false,ah,decide_eq_false c2,cond_false]; exact e'),tLi_1]
     refine⟨_,rfl,fun y=>?_,?_,si_2 (by rw[he]; exact hs) hp (fun y hy=>?_)⟩
     ·rw[← he]; simp only[aS,aU,List.mem_singleton,List.not_mem_nil,or_false]
      constructor
      ·rintro ((g | g) | g)
       ·exact Or.inl (Or.inl g)
       ·exact Or.inr g
       ·exact Or.inl (Or.inr g)
      ·rintro ((g | g) | g)
       ·exact Or.inl (Or.inl g)
       ·exact Or.inr g
       ·exact Or.inl (Or.inr g)
     ·rw[← he]; simp only[aP,aA,aQ]; omega
     ·rw[aU] at hy
      rcases hy with rfl | hy
      ·exact c3
      ·have hs2:=hs
       rw[← he] at hs2
       unfold Srt at hs2
       rw[List.pairwise_append,List.pairwise_cons] at hs2
       have:=hs2.2.1.1 y hy
       exact bLt_ c3 this
 exact key acc [] rfl (by simp)
theorem lo_{v w:List ByteArray}(h:∀ x,x∈v↔x∈w):decide ((v.length:Int)=0)=w.isEmpty:=by
 rw[iEd_]
 cases v with
 | nil=>
  cases w with
  | nil=>rfl
  | cons b w=>exact absurd ((h b).2 (by simp)) (by simp)
 | cons a v=>
  cases w with
  | nil=>exact absurd ((h a).1 (by simp)) (by simp)
  | cons b w=>rfl
theorem lIN_1(t:Tt):t.Ok→t.good=true→∀ acc,Srt acc→acc.length+t.cnt≤1000→∃ v,(∀ n,2*ap t≤n→slI_ n acc t=some v)∧VS Srt acc v t.vars t.cnt:=by
 refine bj (M:=fun t=>t.Ok→t.good=true→∀ acc,Srt acc→acc.length+t.cnt≤1000→∃ v,(∀ n,2*ap t≤n→slI_ n acc t=some v)∧VS Srt acc v t.vars t.cnt) (fun t ih hok hg acc hq hb=>?_) t
 have hp:=t.pos
 have hiv:=lVe_ t.Name hok.u.1
 have hc:=t.cnt_pos
 rcases nC_ hg with⟨hv,ha⟩ | ⟨hv,hs,_,hall⟩
 ·rw[Tvu_,hv,cond_true]
  obtain⟨v,h1,h2,h3,h4⟩:=lPo_ acc t.Name hq (by omega)
  refine⟨v,fun n hn=>?_,h2,by omega,fun _=>h4⟩
  cases n with
  | zero=>omega
  | succ n=>
   rw[slI_,hiv,hv,h1]; rfl
 ·rw[Tvu_,hv,cond_false]
  have hcu:=t.cnt_u
  obtain⟨v,h1,h2,h3,h4⟩:=vl_1 Srt (fun n s x=>slI_ n s x) (2*ap t-1) t.Args 0 acc (fun a ha acc hq hb=>by
   obtain⟨v,k1,k2⟩:=ih a ha (hok.u.2.2 a ha) (hall a ha) acc hq hb
   exact⟨v,fun n hn=>k1 n (by have:=Tt.lt ha; omega),k2⟩) hq (by omega)
  refine⟨v,fun n hn=>?_,h2,by omega,h4⟩
  cases n with
  | zero=>omega
  | succ n=>
   rw[slI_,hiv,hv]
   simp only[ah,cond_false,fNi_]
   rw[h1 n (by omega)]; rfl
theorem lVo_{t:Tt}(hok:t.Ok)(hg:t.good=true)(hc:t.cnt≤1000):∃ v,slV_ t=some v∧(∀ x,x∈v↔x∈t.vars)∧Srt v:=by
 obtain⟨v,h1,h2,_,h3⟩:=lIN_1 t hok hg [] List.Pairwise.nil (by simpa using hc)
 refine⟨v,?_,fun x=>by simpa using h2 x,h3 List.Pairwise.nil⟩
 unfold slV_
 rw[show slI_4 [] t=some v from le_ ⟨_,h1⟩]; rfl
end
section
theorem lTe_(a b:ByteArray):slT_3 a b=some (cmpS a b):=by
 unfold slT_3 cmpS
 by_cases h:slt a b=true
 ·rw[if_pos h]; rw[show Op.bytesLess a.data.toList b.data.toList=true from h]; rfl
 ·rw[if_neg h,show Op.bytesLess a.data.toList b.data.toList=false by simpa[slt] using h,cond_false]
  by_cases e:a=b
  ·rw[decide_eq_true e,if_pos e]; rfl
  ·rw[decide_eq_false e,if_neg e]; rfl
theorem cSs_(a:ByteArray):cmpS a a=0:=by
 unfold cmpS; rw[if_neg (by unfold slt; rw[bLi_]; decide),if_pos rfl]
theorem cSn_{a b:ByteArray}(h:¬ a=b):cmpS a b≠0:=by
 unfold cmpS; rw[if_neg h]; split<;>decide
def lexI(f:Nat→Int):Nat→Nat→Int
 | 0,_=>0
 | n+1,i=>if f i=0 then lexI f n (i+1) else f i
theorem fNl_{f:Nat→Int}{g:Nat→Unit→Option (Flow Int Unit)}{k:Unit→Option Int}(hk:k ()=some 0):∀ (n i:Nat),(∀ j,i≤j→j<i+n→g j ()=some (bif decide (f j=0) then .nx () else .rt (f j)))→
 thenL (forN g n i ()) k=some (lexI f n i)
 | 0,i,_=>by rw[fNz_,tLi_,hk]; rfl
 | n+1,i,h=>by
  have g1:=h i (aJ _) (by omega)
  rw[lexI]
  by_cases e:f i=0
  ·rw[fNn_ (s':=()) (by rw[g1,decide_eq_true e]; rfl),if_pos e]
   exact fNl_ hk n (i+1) (fun j h1 h2=>h j (by omega) (by omega))
  ·rw[fNr_ (r:=f i) (by rw[g1,decide_eq_false e]; rfl),if_neg e,tLi_1]
mutual
def cmpR:Tt→Tt→Int
 | .mk n l,.mk m k=>if iVS_ n=iVS_ m then(if n=m then(if l.length<k.length then -1 else if k.length<l.length then 1 else cR_ l k) else cmpS n m) else(if iVS_ n=true then -1 else 1)
def cR_:List Tt→List Tt→Int
 | a::l,b::k=>if cmpR a b=0 then cR_ l k else cmpR a b
 | [],_=>0
 | _::_,[]=>0
end
def cmpB(a b:Tt):Int:=if a.Name=b.Name then(if a.Args.length<b.Args.length then -1 else if b.Args.length<a.Args.length then 1 else cR_ a.Args b.Args) else cmpS a.Name b.Name
theorem cRu_(a b:Tt):cmpR a b=if iVS_ a.Name=iVS_ b.Name then cmpB a b else(if iVS_ a.Name=true then -1 else 1):=by cases a; cases b; rw[cmpR]; rfl
theorem lIe_1(l k:List Tt)(h:l.length=k.length):lexI (fun j=>cmpR (l.getD j default) (k.getD j default)) l.length 0=cR_ l k:=by
 have key:∀ (l k pl pk:List Tt),pl.length=pk.length→l.length=k.length→lexI (fun j=>cmpR ((pl++l).getD j default) ((pk++k).getD j default)) l.length pl.length=cR_ l k:=by
  intro l
  induction l with
  | nil=>intro k pl pk _ h; cases k with
   | nil=>rfl
   | cons _ _=>simp at h
  | cons a l ih=>
   intro k pl pk hp h
   cases k with
   | nil=>simp at h
   | cons b k=>
    simp only[aA,lexI]
    have e1:(pl++a::l).getD pl.length default=a:=by simp[List.getD]
    have e2:(pk++b::k).getD pl.length default=b:=by rw[hp]; simp[List.getD]
    rw[e1,e2,cR_]
    by_cases c:cmpR a b=0
    ·rw[if_pos c,if_pos c]
     have:=ih k (pl++[a]) (pk++[b]) (by simp[hp]) (by simpa using h)
     simpa using this
    ·rw[if_neg c,if_neg c]
 have:=key l k [] [] rfl h
 simpa using this
theorem cb_(a:Tt):∀ b:Tt,a.Ok→a.good=true→b.Ok→b.good=true→∀ n,2*ap a≤n→slC_5 n a b=some (cmpR a b)∧icT_ n a b=some (cmpR a b):=by
 refine bj (M:=fun a=>∀ b:Tt,a.Ok→a.good=true→b.Ok→b.good=true→∀ n,2*ap a≤n→slC_5 n a b=some (cmpR a b)∧icT_ n a b=some (cmpR a b)) (fun a ih b oka ga okb gb=>?_) a
 have hp:=a.pos
 have ia:=iVg_ ga
 have ib:=iVg_ gb
 have sa:=lVe_ a.Name oka.u.1
 have sb:=lVe_ b.Name okb.u.1
 have gargs:∀ {t:Tt},t.good=true→∀ x∈t.Args,x.good=true:=fun {t} g x hx=>by
  rcases nC_ g with⟨_,h⟩ | ⟨_,_,_,h⟩
  ·rw[h] at hx; simp at hx
  ·exact h x hx
 have hR:∀ x∈a.Args,∀ y∈b.Args,∀ n,2*ap x≤n→slC_5 n x y=some (cmpR x y)∧icT_ n x y=some (cmpR x y):=fun x hx y hy=>
  ih x hx y (oka.u.2.2 x hx) (gargs ga x hx) (okb.u.2.2 y hy) (gargs gb y hy)
 let w:Int:=if a.Name=b.Name then(if a.Args.length<b.Args.length then -1 else if b.Args.length<a.Args.length then 1 else lexI (fun j=>cmpR (a.Args.getD j default) (b.Args.getD j default)) a.Args.length 0) else cmpS a.Name b.Name
 have hS:∀ n,2*ap a≤n+1→(bif decide (a.Name=b.Name) then
  bif decide ((a.Args.length:Int)<(b.Args.length:Int)) then
   some (-1:Int)
  else
   bif decide ((b.Args.length:Int)<(a.Args.length:Int)) then
    some (1:Int)
   else
    thenL (ρ:=Int) (σ:=Unit) (forN (fun (i13:Nat) (s13:Unit)=>
     aa (idx a.Args (i13:Int)) fun v64=>
     aa (idx b.Args (i13:Int)) fun v69=>
     aa (slC_5 n v64 v69) fun v71=>
     bif decide (v71=(0:Int)) then
      some (.nx ())
     else
      some (.rt v71)) a.Args.length 0 ()) fun s13=>
    some (0:Int)
  else
   aa (slT_3 a.Name b.Name) fun v37=>
   some v37)=some w:=by
  intro n hn
  simp only[w]
  by_cases e:a.Name=b.Name
  ·rw[decide_eq_true e,if_pos e,cond_true]
   by_cases e1:a.Args.length<b.Args.length
   ·rw[decide_eq_true (show(a.Args.length:Int)<(b.Args.length:Int) by omega),if_pos e1]; rfl
   ·rw[decide_eq_false (show ¬ (a.Args.length:Int)<(b.Args.length:Int) by omega),if_neg e1,cond_false]
    by_cases e2:b.Args.length<a.Args.length
    ·rw[decide_eq_true (show(b.Args.length:Int)<(a.Args.length:Int) by omega),if_pos e2]; rfl
    ·rw[decide_eq_false (show ¬ (b.Args.length:Int)<(a.Args.length:Int) by omega),if_neg e2,cond_false]
     refine fNl_ rfl _ _ (fun j _ hj=>?_)
     have ha:=gDm_ (l:=a.Args) (i:=j) (by omega)
     have hb:=gDm_ (l:=b.Args) (i:=j) (by omega)
     rw[igD_ (by omega),ah,igD_ (by omega),ah,(hR _ ha _ hb n (by have:=Tt.lt ha; omega)).1,ah]
     cases decide (cmpR (a.Args.getD j default) (b.Args.getD j default)=0)<;>rfl
  ·rw[decide_eq_false e,if_neg e,cond_false,lTe_]; rfl
 have hI:∀ n,2*ap a≤n+1→(aa (cCs_ a.Name b.Name) fun v28=>
  aa (cCi_ (a.Args.length:Int) (b.Args.length:Int)) fun v35=>
  aa (cOi_ ([v28,v35])) fun v37=>
  bif decide (v37=(0:Int)) then
   aa (sCF_2 a.Args b.Args (fun y0 y1=>icT_ n y0 y1)) fun v45=>
   some v45
  else
   some v37)=some w:=by
  intro n hn
  simp only[w]
  rw[CSe_,ah,Ce_1,ah,Oe_,ah]
  by_cases e:a.Name=b.Name
  ·rw[if_pos e,e,cSs_,if_pos rfl]
   unfold cmpI
   by_cases e1:a.Args.length<b.Args.length
   ·rw[if_pos (show(a.Args.length:Int)<(b.Args.length:Int) by omega),if_pos e1]; rfl
   ·rw[if_neg (show ¬ (a.Args.length:Int)<(b.Args.length:Int) by omega),if_neg e1]
    by_cases e2:b.Args.length<a.Args.length
    ·rw[if_pos (show(b.Args.length:Int)<(a.Args.length:Int) by omega),if_pos e2]; rfl
    ·rw[if_neg (show ¬ (b.Args.length:Int)<(a.Args.length:Int) by omega),if_neg e2,decide_eq_true rfl,cond_true]
     unfold sCF_2
     rw[fNl_ (f:=fun j=>cmpR (a.Args.getD j default) (b.Args.getD j default)) (by rw[decide_eq_false (show ¬ (a.Args.length:Int)<(b.Args.length:Int) by omega)]; rfl) _ _ (fun j _ hj=>?_)]
     ·rfl
     ·have ha:=gDm_ (l:=a.Args) (i:=j) (by omega)
      have hb:=gDm_ (l:=b.Args) (i:=j) (by omega)
      rw[igD_ (by omega),ah,decide_eq_false (show ¬ (b.Args.length:Int)≤(j:Int) by omega),cond_false,igD_ (by omega),ah]
      have:=(hR _ ha _ hb n (by have:=Tt.lt ha; omega)).2
      simp only[this,ah]
      cases decide (cmpR (a.Args.getD j default) (b.Args.getD j default)=0)<;>rfl
  ·have:=cSn_ e
   rw[if_neg e,if_neg this,decide_eq_false this]; rfl
 have hr:cmpR a b=bif iVS_ a.Name then(bif iVS_ b.Name then w else -1) else(bif iVS_ b.Name then 1 else w):=by
  rw[cRu_]
  have hl:¬ a.Args.length<b.Args.length→¬ b.Args.length<a.Args.length→lexI (fun j=>cmpR (a.Args.getD j default) (b.Args.getD j default)) a.Args.length 0=cR_ a.Args b.Args:=fun h1 h2=>lIe_1 a.Args b.Args (by omega)
  have hw:w=cmpB a b:=by
   simp only[w,cmpB]
   by_cases e:a.Name=b.Name
   ·rw[if_pos e,if_pos e]
    by_cases e1:a.Args.length<b.Args.length
    ·rw[if_pos e1,if_pos e1]
    ·rw[if_neg e1,if_neg e1]
     by_cases e2:b.Args.length<a.Args.length
     ·rw[if_pos e2,if_pos e2]
     ·rw[if_neg e2,if_neg e2,hl e1 e2]
   ·rw[if_neg e,if_neg e]
  rw[hw]
  cases iVS_ a.Name<;>cases iVS_ b.Name<;>rfl
 intro n hn
 rw[hr]
 cases n with
 | zero=>omega
 | succ n=>
  rw[slC_5,icT_,sa,sb,ia,ib]
  simp only[ah]
  have h1:=hS n hn
  have h2:=hI n hn
  cases iVS_ a.Name<;>cases iVS_ b.Name<;>simp only[cond_true,cond_false]
  ·exact⟨h1,h2⟩
  ·exact⟨trivial,trivial⟩
  ·exact⟨trivial,trivial⟩
  ·exact⟨h1,h2⟩
theorem cRs_{a b:Tt}(h1:a.Ok)(h2:a.good=true)(h3:b.Ok)(h4:b.good=true):slC_18 a b=some (cmpR a b)∧icT_2 a b=some (cmpR a b):=
 ⟨le_ ⟨_,fun n hn=>(cb_ a b h1 h2 h3 h4 n hn).1⟩,le_ ⟨_,fun n hn=>(cb_ a b h1 h2 h3 h4 n hn).2⟩⟩
theorem cSn_1(a b:ByteArray):cmpS b a=- cmpS a b:=by
 unfold cmpS
 by_cases h:slt a b=true
 ·have h2:slt b a=false:=bLa_ h
  have hne:¬ b=a:=by rintro rfl; rw[h] at h2; cases h2
  rw[if_pos h,if_neg (by rw[h2]; simp),if_neg hne]; rfl
 ·by_cases e:a=b
  ·subst e; rw[if_neg h,if_pos rfl]; rfl
  ·have:=st_3 h e
   rw[if_pos this,if_neg h,if_neg e]
theorem cSl_{a b:ByteArray}:cmpS a b<0↔slt a b=true:=by
 unfold cmpS
 by_cases h:slt a b=true
 ·rw[if_pos h]; simp[h]
 ·rw[if_neg h]
  split<;>simp[h]
theorem cRz_1:∀ (l k:List Tt),(∀ x∈l,∀ y,cmpR x y=0→x=y)→l.length=k.length→cR_ l k=0→l=k
 | [],[],_,_,_=>rfl
 | [],_::_,_,h,_=>by simp at h
 | _::_,[],_,h,_=>by simp at h
 | a::l,b::k,ih,h,hz=>by
  rw[cR_] at hz
  by_cases c:cmpR a b=0
  ·rw[if_pos c] at hz
   rw[ih a (by simp) b c,cRz_1 l k (fun x hx=>ih x (by simp[hx])) (by simpa using h) hz]
  ·rw[if_neg c] at hz; exact absurd hz c
theorem cRz_(a:Tt):∀ b,cmpR a b=0→a=b:=by
 refine bj (M:=fun a=>∀ b,cmpR a b=0→a=b) (fun a ih b h=>?_) a
 rw[cRu_] at h
 by_cases hv:iVS_ a.Name=iVS_ b.Name
 ·rw[if_pos hv] at h
  unfold cmpB at h
  by_cases e:a.Name=b.Name
  ·rw[if_pos e] at h
   by_cases e1:a.Args.length<b.Args.length
   ·rw[if_pos e1] at h; omega
   ·rw[if_neg e1] at h
    by_cases e2:b.Args.length<a.Args.length
    ·rw[if_pos e2] at h; omega
    ·rw[if_neg e2] at h
     have:=cRz_1 a.Args b.Args ih (by omega) h
     cases a; cases b; simp only[TNm_,TAm_] at e this; rw[e,this]
  ·rw[if_neg e] at h; exact absurd h (cSn_ e)
 ·rw[if_neg hv] at h; split at h<;>omega
theorem cRn_1:∀ (l k:List Tt),(∀ x∈l,∀ y,cmpR y x=- cmpR x y)→cR_ k l=- cR_ l k
 | [],[],_=>rfl
 | [],_::_,_=>rfl
 | _::_,[],_=>rfl
 | a::l,b::k,ih=>by
  rw[cR_,cR_,ih a (by simp) b]
  by_cases c:cmpR a b=0
  ·rw[if_pos c,if_pos (by omega)]; exact cRn_1 l k fun x hx=>ih x (by simp[hx])
  ·rw[if_neg c,if_neg (by omega)]
theorem cRn_(a:Tt):∀ b,cmpR b a=- cmpR a b:=by
 refine bj (M:=fun a=>∀ b,cmpR b a=- cmpR a b) (fun a ih b=>?_) a
 rw[cRu_,cRu_ a]
 by_cases hv:iVS_ a.Name=iVS_ b.Name
 ·rw[if_pos hv,if_pos hv.symm]
  unfold cmpB
  by_cases e:a.Name=b.Name
  ·rw[if_pos e,if_pos e.symm]
   by_cases e1:a.Args.length<b.Args.length
   ·rw[if_pos e1,if_neg (by omega),if_pos e1]; rfl
   ·by_cases e2:b.Args.length<a.Args.length
    ·rw[if_pos e2,if_neg e1,if_pos e2]
    ·rw[if_neg e2,if_neg e1,if_neg e1,if_neg e2]; exact cRn_1 _ _ ih
  ·rw[if_neg e,if_neg (Ne.symm e)]; exact cSn_1 _ _
 ·rw[if_neg hv,if_neg (Ne.symm hv)]
  cases h1:iVS_ a.Name<;>cases h2:iVS_ b.Name
  ·rw[h1,h2] at hv; exact absurd rfl hv
  ·simp
  ·simp
  ·rw[h1,h2] at hv; exact absurd rfl hv
theorem cRs_1(a:Tt):cmpR a a=0:=by have:=cRn_ a a; omega
theorem cRt_1:∀ (l k m:List Tt),(∀ x∈l,∀ y z,cmpR x y<0→cmpR y z<0→cmpR x z<0)→cR_ l k<0→cR_ k m<0→cR_ l m<0
 | [],k,m,_,h,_=>by cases k<;>simp[cR_] at h
 | _::_,[],m,_,h,_=>by simp[cR_] at h
 | _::_,_::_,[],_,_,h=>by simp[cR_] at h
 | a::l,b::k,c::m,ih,h1,h2=>by
  rw[cR_] at h1 h2 ⊢
  by_cases e1:cmpR a b=0
  ·obtain rfl:=cRz_ a b e1
   rw[if_pos e1] at h1
   by_cases e2:cmpR a c=0
   ·rw[if_pos e2] at h2 ⊢; exact cRt_1 l k m (fun x hx=>ih x (by simp[hx])) h1 h2
   ·rw[if_neg e2] at h2 ⊢; exact h2
  ·rw[if_neg e1] at h1
   by_cases e2:cmpR b c=0
   ·obtain rfl:=cRz_ b c e2
    rw[if_neg e1]; exact h1
   ·rw[if_neg e2] at h2
    have:=ih a (by simp) b c h1 h2
    rw[if_neg (by omega)]; exact this
theorem cRt_(a:Tt):∀ b c,cmpR a b<0→cmpR b c<0→cmpR a c<0:=by
 refine bj (M:=fun a=>∀ b c,cmpR a b<0→cmpR b c<0→cmpR a c<0) (fun a ih b c h1 h2=>?_) a
 rw[cRu_] at h1 h2 ⊢
 have body:cmpB a b<0→cmpB b c<0→cmpB a c<0:=by
  unfold cmpB
  intro h1 h2
  by_cases e1:a.Name=b.Name
  ·rw[if_pos e1] at h1
   by_cases e2:b.Name=c.Name
   ·rw[if_pos e2] at h2
    rw[if_pos (e1.trans e2)]
    by_cases l1:a.Args.length<b.Args.length
    ·by_cases l2:b.Args.length<c.Args.length
     ·rw[if_pos (by omega)]; omega
     ·rw[if_neg l2] at h2
      by_cases l3:c.Args.length<b.Args.length
      ·rw[if_pos l3] at h2; omega
      ·rw[if_pos (by omega)]; omega
    ·rw[if_neg l1] at h1
     by_cases l2:b.Args.length<a.Args.length
     ·rw[if_pos l2] at h1; omega
     ·rw[if_neg l2] at h1
      by_cases l3:b.Args.length<c.Args.length
      ·rw[if_pos (by omega)]; omega
      ·rw[if_neg l3] at h2
       by_cases l4:c.Args.length<b.Args.length
       ·rw[if_pos l4] at h2; omega
       ·rw[if_neg l4] at h2
        rw[if_neg (by omega),if_neg (by omega)]
        exact cRt_1 _ _ _ ih h1 h2
   ·rw[if_neg e2] at h2
    rw[if_neg (fun h=>e2 (e1▸h)),e1]; exact h2
  ·rw[if_neg e1] at h1
   by_cases e2:b.Name=c.Name
   ·rw[if_neg (fun h=>e1 (h.trans e2.symm)),← e2]; exact h1
   ·rw[if_neg e2] at h2
    have h3:slt a.Name c.Name=true:=bLt_ (cSl_.1 h1) (cSl_.1 h2)
    have h4:¬ a.Name=c.Name:=fun h=>by
     have h5:=cSl_.1 h1
     have h6:=cSl_.1 h2
     rw[← h] at h6
     have:slt b.Name a.Name=false:=bLa_ h5
     rw[this] at h6; cases h6
    rw[if_neg h4]; exact cSl_.2 h3
 cases va:iVS_ a.Name<;>cases vb:iVS_ b.Name<;>cases vc:iVS_ c.Name<;>simp[va,vb,vc] at h1 h2 ⊢
 ·exact body h1 h2
 ·exact body h1 h2
end
section
noncomputable def ascC(l:List Tt)(j:Nat):Bool:=decide (j=0)||decide (cmpR (l.getD (j-1) default) (l.getD j default)<0)
noncomputable def asc(l:List Tt):Bool:=(List.range l.length).all (ascC l)
theorem ai_{l:List Tt}(hok:LOk Tt.Ok l)(hg:∀ a∈l,a.good=true):iaA_ l=some (asc l&&decide (l.length≤12)):=by
 unfold iaA_ asc
 rw[fNa_ (ascC l)]
 ·cases (List.range l.length).all (ascC l)
  ·rfl
  ·rw[cond_true,Bool.true_and]; congr 1; exact decide_eq_decide.2 (by omega)
 ·intro j hj _
  by_cases h0:j=0
  ·subst h0; rfl
  ·have hb:=hok.1
   have hp:=gDm_ (l:=l) (i:=j-1) (by omega)
   have hq:=gDm_ (l:=l) (i:=j) (by omega)
   rw[decide_eq_true (show(0:Int)<(j:Int) by omega),cond_true,ip_ hj (by omega) (by simp only[Big] at hb; omega),ah,igD_ hj,ah,
    (cRs_ (hok.2 _ hp) (hg _ hp) (hok.2 _ hq) (hg _ hq)).2,ah]
   unfold ascC
   rw[decide_eq_false h0,Bool.false_or]
   by_cases c:cmpR (l.getD (j-1) default) (l.getD j default)<0
   ·rw[decide_eq_true c,decide_eq_false (by omega)]; rfl
   ·rw[decide_eq_false c,decide_eq_true (by omega)]; rfl
theorem as_3{l:List Tt}(hok:LOk Tt.Ok l)(hg:∀ a∈l,a.good=true):slR_2 l=some (asc l):=by
 unfold slR_2 asc
 by_cases hn:0<l.length
 ·rw[fNa_1 (ascC l) hn (by rfl)]
  ·cases (List.range l.length).all (ascC l)<;>rfl
  ·intro j h0 hj _
   have hb:=hok.1
   have hp:=gDm_ (l:=l) (i:=j-1) (by omega)
   have hq:=gDm_ (l:=l) (i:=j) (by omega)
   rw[ip_ hj (by omega) (by simp only[Big] at hb; omega),ah,igD_ hj,ah,
    (cRs_ (hok.2 _ hp) (hg _ hp) (hok.2 _ hq) (hg _ hq)).1,ah]
   unfold ascC
   rw[decide_eq_false (show ¬ j=0 by omega),Bool.false_or]
   by_cases c:cmpR (l.getD (j-1) default) (l.getD j default)<0
   ·rw[decide_eq_true c,decide_eq_false (by omega)]; rfl
   ·rw[decide_eq_false c,decide_eq_true (by omega)]; rfl
 ·have:l=[]:=List.length_eq_zero_iff.1 (by omega)
  subst this; rfl
def nameA:ByteArray:=⟨#[65]⟩
def gndT(t:Tt):Bool:=gT_ t&&t.vars.isEmpty
def patT(t:Tt):Bool:=gT_ t&&t.vars.all (fun x=>decide (x=nameA))
theorem gTu_{t:Tt}(h:gT_ t=true):t.good=true∧t.cnt≤1000:=by
 unfold gT_ sT_ at h
 simp only[aq,decide_eq_true_eq] at h
 exact⟨h.2,by omega⟩
theorem iGe_(t:Tt)(h:t.tot≤4194304)(hok:t.Ok):iiG_ t=some (gndT t):=by
 unfold iiG_ gndT
 rw[IVT_ t h hok,ah]
 cases hg:gT_ t
 ·rfl
 ·obtain⟨v,h1,h2⟩:=co_ (gTu_ hg).1 (gTu_ hg).2
  rw[cond_true,h1,ah,lo_ h2]; rfl
theorem nGe_(t:Tt)(h:t.tot≤4194304)(hok:t.Ok):inG_ t=some (!gndT t):=by
 unfold inG_; rw[iGe_ t h hok]; rfl
theorem ai_2{v w:List ByteArray}(h:∀ x,x∈v↔x∈w)(p:ByteArray→Bool):v.any p=w.any p:=by
 rw[Bool.eq_iff_iff,List.any_eq_true,List.any_eq_true]
 exact⟨fun ⟨x,a,b⟩=>⟨x,(h x).1 a,b⟩,fun ⟨x,a,b⟩=>⟨x,(h x).2 a,b⟩⟩
theorem iPe_(t:Tt)(h:t.tot≤4194304)(hok:t.Ok):iiP_ t=some (patT t):=by
 unfold iiP_ patT
 rw[IVT_ t h hok,ah]
 cases hg:gT_ t
 ·rfl
 ·obtain⟨v,h1,h2⟩:=co_ (gTu_ hg).1 (gTu_ hg).2
  rw[cond_true,h1,ah]
  unfold sCF_4 sIF_2
  rw[fl_ (f:=fun y0=>iiP_1 y0) (p:=fun x=>!decide (x=nameA)) v (fun a ha=>rfl),ah,ai_2 h2,Bool.true_and,List.all_eq_not_any_not]
theorem gs_2(t:Tt)(hok:t.Ok)(hg:gT_ t=true):slG_2 t=some t.vars.isEmpty:=by
 obtain⟨v,h1,h2,_⟩:=lVo_ hok (gTu_ hg).1 (gTu_ hg).2
 unfold slG_2
 rw[h1,ah,lo_ h2]
theorem ls_3{l:List Tt}(hok:LOk Tt.Ok l)(ht:∀ a∈l,a.tot≤4194304)(h12:l.length≤12):slT_4 l=some (l.all gndT):=by
 unfold slT_4
 rw[fNa_ (fun j=>gndT (l.getD j default)) (r0:=false),ral_ l gndT]
 ·rw[decide_eq_true (show(l.length:Int)≤60 by omega)]
  cases l.all gndT<;>rfl
 ·intro j hj _
  have hm:=gDm_ hj
  rw[decide_eq_true (show(j:Int)≤60 by omega),cond_true,igD_ hj,ah,lGo_ _ (ht _ hm) (hok.2 _ hm),ah]
  unfold gndT
  cases hg:gT_ (l.getD j default)
  ·rfl
  ·rw[cond_true,ah,gs_2 _ (hok.2 _ hm) hg,ah]
   cases (l.getD j default).vars.isEmpty<;>rfl
def patD(e:Bool)(t:Tt):Bool:=patT t&&(!e||gndT t)
theorem ps_2{ρ:Type}{e:Bool}{t:Tt}(hok:t.Ok)(hg:gT_ t=true)(f:ρ)(k:ρ):(aa (slV_ t) fun v40=>
 bif decide ((1:Int)<(v40.length:Int)) then
  some f
 else
  bif decide ((v40.length:Int)=(1:Int)) then
   aa (idx v40 (0:Int)) fun v50=>
   bif decide (v50=(⟨#[65]⟩:ByteArray)) then
    bif e then
     some f
    else
     some k
   else
    some f
  else
   some k)=some (bif patD e t then k else f):=by
 obtain⟨v,h1,h2,h3⟩:=lVo_ hok (gTu_ hg).1 (gTu_ hg).2
 have hall:t.vars.all (fun x=>decide (x=nameA))=v.all (fun x=>decide (x=nameA)):=by
  rw[List.all_eq_not_any_not,List.all_eq_not_any_not,ai_2 h2]
 have hemp:t.vars.isEmpty=v.isEmpty:=by rw[← lo_ h2,iEd_]
 unfold patD patT gndT
 rw[h1,ah,hg,hall,hemp]
 cases v with
 | nil=>cases e<;>rfl
 | cons a v=>
  cases v with
  | nil=>
   rw[decide_eq_false (by simp),cond_false,decide_eq_true (by simp),cond_true,show idx [a] (0:Int)=some a from rfl,ah]
   rw[show(⟨#[65]⟩:ByteArray)=nameA from rfl]
   by_cases c:a=nameA
   ·simp only[bB,List.all_nil,List.isEmpty_cons,decide_eq_true c]
    cases e<;>rfl
   ·simp only[bB,List.all_nil,List.isEmpty_cons,decide_eq_false c]
    cases e<;>rfl
  | cons b v=>
   rw[decide_eq_true (by simp only[aA]; omega),cond_true]
   have hab:¬ (a=nameA∧b=nameA):=by
    rintro ⟨rfl,rfl⟩
    unfold Srt at h3
    rw[List.pairwise_cons] at h3
    have:=h3.1 nameA (by simp)
    unfold slt at this
    rw[bLi_] at this; cases this
   have:((a::b::v).all fun x=>decide (x=nameA))=false:=by
    simp only[bB]
    by_cases c:a=nameA
    ·rw[decide_eq_false (fun g=>hab ⟨c,g⟩)]; simp
    ·rw[decide_eq_false c]; rfl
   rw[this]; rfl
noncomputable def vD_(d:Dt):Bool:=decide (d.Patterns.length≤12)&&decide (d.Instances.length≤12)&&d.Instances.all gndT&&d.Patterns.all (patD d.Instances.isEmpty)&&asc d.Patterns&&asc d.Instances
theorem gg_{l:List Tt}(h:l.all gndT=true):∀ a∈l,a.good=true:=fun a ha=>by
 have:=List.all_eq_true.1 h a ha
 unfold gndT at this
 rw[aq] at this
 exact(gTu_ this.1).1
theorem pg_{l:List Tt}(h:l.all patT=true):∀ a∈l,a.good=true:=fun a ha=>by
 have:=List.all_eq_true.1 h a ha
 unfold patT at this
 rw[aq] at this
 exact(gTu_ this.1).1
theorem pDa_(e:Bool)(l:List Tt):l.all (patD e)=(l.all patT&&(!e||l.all gndT)):=by
 induction l with
 | nil=>cases e<;>rfl
 | cons a l ih=>
  simp only[bB,ih,patD]
  cases e<;>cases patT a<;>cases gndT a<;>cases l.all patT<;>cases l.all gndT<;>rfl
theorem tmD_{l:List Tt}{a:Tt}(h:a∈l):a.tot≤ltot bg l:=by
 have:=lsm_ bg h
 unfold ltot; omega
theorem cF_{p:Tt→Bool}{f:Tt→Option Bool}(l:List Tt)(h:∀ a∈l,f a=some (!p a)):sCF_1 l f=some (!l.all p):=by
 unfold sCF_1 sIF_
 rw[fl_ (p:=fun a=>!p a) l h,List.all_eq_not_any_not,Bool.not_not]
theorem id_1(d:Dt)(hok:d.Ok)(ht:d.tot≤4194304):iIV_2 d=some (vD_ d):=by
 unfold iIV_2 vD_
 unfold Dt.tot at ht
 have tI:∀ a∈d.Instances,inG_ a=some (!gndT a):=fun a ha=>nGe_ a (by have:=tmD_ ha; omega) (hok.2.2 a ha)
 have tP:∀ a∈d.Patterns,inG_ a=some (!gndT a):=fun a ha=>nGe_ a (by have:=tmD_ ha; omega) (hok.1.2 a ha)
 have tQ:∀ a∈d.Patterns,iIV_3 a=some (!patT a):=fun a ha=>by
  unfold iIV_3
  rw[iPe_ a (by have:=tmD_ ha; omega) (hok.1.2 a ha)]; rfl
 rw[cF_ d.Instances tI,ah,cF_ d.Patterns tQ,ah,cF_ d.Patterns tP,ah,pDa_]
 cases hI:d.Instances.all gndT
 ·simp
 ·cases hP:d.Patterns.all patT
  ·simp
  ·rw[ai_ hok.1 (pg_ hP),ah,ai_ hok.2 (gg_ hI),ah]
   have:decide ((0:Int)<(d.Instances.length:Int))=!d.Instances.isEmpty:=by cases d.Instances<;>simp
   rw[this]
   cases asc d.Patterns<;>cases asc d.Instances<;>cases decide (d.Patterns.length≤12)<;>cases decide (d.Instances.length≤12)<;>cases d.Instances.isEmpty<;>cases d.Patterns.all gndT<;>rfl
end
section
theorem nAv_:iVS_ nameA=true:=by decide
theorem gAh_(t:Tt)(x:ByteArray):GMap.has (GMap.put (GMap.empty:GMap Tt) nameA t) x=decide (x=nameA):=by
 show ghas x [(nameA,t,_)]=_
 unfold ghas
 by_cases e:nameA=x
 ·rw[if_pos e,decide_eq_true e.symm]
 ·rw[if_neg e,decide_eq_false (Ne.symm e)]; rfl
theorem gAg_(t z:Tt):GMap.get (GMap.put (GMap.empty:GMap Tt) nameA t) nameA z=t:=by
 show gget z nameA [(nameA,t,_)]=_
 unfold gget
 rw[if_pos rfl]
theorem rNe_{t:Tt}(ht:t.cnt≤10000000)(a:Tt):a.cnt≤10000000→∀ k,2*ap a≤k→irV_ k a (GMap.put (GMap.empty:GMap Tt) nameA t)=some (sbT nameA t a):=by
 refine bj (M:=fun a=>a.cnt≤10000000→∀ k,2*ap a≤k→irV_ k a (GMap.put (GMap.empty:GMap Tt) nameA t)=some (sbT nameA t a)) (fun a ih hc k hk=>?_) a
 have hp:=a.pos
 have hu:=a.cnt_u
 have hl:=cl_ a.Args
 cases k with
 | zero=>omega
 | succ k=>
  have hm:=mapL (ρ:=Tt) (f:=fun x=>irV_ k x (GMap.put (GMap.empty:GMap Tt) nameA t)) (g:=sbT nameA t) a.Args 0 [] (fun x hx=>ih x hx (by have:=cm_ hx; omega) k (by have:=Tt.lt hx; omega)) (by simp; omega)
  rw[irV_,gAh_,iEd_,sTu_]
  simp only[fNi_]
  rw[hm,tLi_,bh]
  by_cases e:a.Name=nameA
  ·rw[decide_eq_true e,cond_true]
   cases he:a.Args.isEmpty
   ·rfl
   ·rw[cond_true,e,gAg_,cT_ t ht]; rfl
  ·rw[decide_eq_false e,cond_false,Bool.and_false]; rfl
theorem fe_{p t:Tt}(hp:p.cnt≤10000000)(ht:t.cnt≤10000000):if_ p t=some (sbT nameA t p):=by
 unfold if_
 show aa (irV_1 p (GMap.put (GMap.empty:GMap Tt) nameA t)) _=_
 rw[show irV_1 p (GMap.put (GMap.empty:GMap Tt) nameA t)=some (sbT nameA t p) from le_ ⟨_,rNe_ ht p hp⟩]; rfl
def Gd(l:List Tt):Prop:=∀ a∈l,gT_ a=true
theorem cg_{a b:Tt}(ha:gT_ a=true)(hb:gT_ b=true):slC_18 a b=some (cmpR a b)∧icT_2 a b=some (cmpR a b):=
 cRs_ (gTO_ ha).2 (gTi_ ha).1 (gTO_ hb).2 (gTi_ hb).1
def putT(x:Tt):List Tt→List Tt
 | []=>[x]
 | y::l=>if cmpR y x<0 then y::putT x l else if cmpR y x=0 then y::l else x::y::l
noncomputable def addT(x:Tt)(l:List Tt):List Tt:=bif l.any (fun y=>same y x) then l else l++[x]
theorem cRs_2(a b:Tt):same a b=decide (cmpR a b=0):=by
 rw[Bool.eq_iff_iff,si_,decide_eq_true_iff]
 exact⟨fun h=>h▸cRs_1 a,cRz_ a b⟩
theorem pTm_(x z:Tt):∀ l,z∈putT x l↔z=x∨z∈l
 | []=>by simp[putT]
 | y::l=>by
  simp only[putT]
  split
  ·rw[aU,pTm_ x z l,aU]
   constructor
   ·rintro (h | h | h)<;>simp[h]
   ·rintro (h | h | h)<;>simp[h]
  ·split
   ·rename_i e
    have:=cRz_ y x e
    subst this
    simp
   ·simp
def SrtT(l:List Tt):Prop:=l.Pairwise fun a b=>cmpR a b<0
theorem pTs_(x:Tt):∀ l,SrtT l→SrtT (putT x l)
 | [],_=>by simp[putT,SrtT]
 | y::l,h=>by
  unfold SrtT at h ⊢
  rw[List.pairwise_cons] at h
  simp only[putT]
  split
  ·rename_i c
   rw[List.pairwise_cons]
   refine⟨fun z hz=>?_,pTs_ x l h.2⟩
   rcases (pTm_ x z l).1 hz with rfl | hz
   ·exact c
   ·exact h.1 z hz
  ·split
   ·rw[List.pairwise_cons]; exact h
   ·rename_i c1 c2
    have hxy:cmpR x y<0:=by have:=cRn_ y x; omega
    rw[List.pairwise_cons,List.pairwise_cons]
    refine⟨fun z hz=>?_,h⟩
    rcases List.mem_cons.1 hz with rfl | hz
    ·exact hxy
    ·exact cRt_ x y z hxy (h.1 z hz)
theorem pTl_(x:Tt):∀ l,(putT x l).length≤l.length+1
 | []=>by simp[putT]
 | y::l=>by
  simp only[putT]
  have:=pTl_ x l
  split
  ·simp only[aA]; omega
  ·split<;>simp
theorem as_4(x:Tt)(l:List Tt):l.any (fun y=>same y x)=true↔x∈l:=by
 rw[List.any_eq_true]
 exact⟨fun ⟨y,h1,h2⟩=>si_.1 h2▸h1,fun h=>⟨x,h,si_.2 rfl⟩⟩
theorem aTm_(x z:Tt)(l:List Tt):z∈addT x l↔z=x∨z∈l:=by
 unfold addT
 cases h:l.any (fun y=>same y x)
 ·simp only[cond_false,aS,List.mem_singleton]; exact or_comm
 ·rw[cond_true]
  have:=(as_4 x l).1 h
  exact⟨.inr,fun h=>h.elim (fun e=>e▸this) id⟩
theorem aTn_(x:Tt)(l:List Tt)(h:l.Nodup):(addT x l).Nodup:=by
 unfold addT
 cases e:l.any (fun y=>same y x)
 ·rw[cond_false,List.nodup_append]
  refine⟨h,by simp,fun a ha b hb=>?_⟩
  rintro rfl
  rw[List.mem_singleton] at hb
  subst hb
  rw[(as_4 a l).2 ha] at e; cases e
 ·exact h
theorem aTl_(x:Tt)(l:List Tt):(addT x l).length≤l.length+1:=by
 unfold addT
 cases l.any (fun y=>same y x)
 ·simp
 ·simp
theorem aTg_{x:Tt}{l:List Tt}(hx:gT_ x=true)(hl:Gd l):Gd (addT x l):=fun a ha=>by
 rcases (aTm_ x a l).1 ha with rfl | h
 ·exact hx
 ·exact hl a h
theorem aAe_(l:List Tt)(x:Tt)(hx:x.cnt≤10000000)(hl:l.length≤1000000):iaA_1 l x=some (addT x l):=by
 unfold iaA_1 sCF_1 sIF_ addT
 rw[fl_ (p:=fun y=>same y x) l (fun a _=>by unfold iaA_2; rw[ETo_]; rfl),ah,cT_ x hx]
 cases l.any (fun y=>same y x)
 ·rw[cond_false,cond_false,ah]
  unfold app
  rw[if_pos (by simp only[aA,aQ]; omega)]; rfl
 ·rfl
theorem lPg_(x:Tt)(l:List Tt)(hg:∀ y∈l,slC_18 y x=some (cmpR y x))(hl:l.length≤4194304):slP_3 l x=some (putT x l):=by
 unfold slP_3
 have tl:∀ {β:Type} (K:List Tt→Option β) (pre rest:List Tt),pre.length+rest.length≤4194304→(aa (slc (pre++rest) (0:Int) (pre.length:Int)) fun v36=>aa (app ([]) v36) fun v37=>aa (app v37 ([x])) fun v40=>aa (slc (pre++rest) (pre.length:Int) ((pre++rest).length:Int)) fun v43=>aa (app v40 v43) fun v44=>K v44)=K (pre++x::rest):=by
  intro β K pre rest h
  have e1:slc (pre++rest) (0:Int) (pre.length:Int)=some pre:=by
   unfold slc; rw[if_pos ⟨by omega,by omega,by simp; omega⟩]; simp
  have e2:slc (pre++rest) (pre.length:Int) ((pre++rest).length:Int)=some rest:=by
   unfold slc; rw[if_pos ⟨by omega,by simp; omega,by omega⟩]; simp only[Int.toNat_natCast,List.take_length,List.drop_left]
  rw[e1,e2]
  simp only[ah,app,aQ,Nat.zero_add,bh]
  rw[if_pos (by omega)]
  simp only[ah,aA,aQ]
  rw[if_pos (by omega)]
  simp only[ah,aP,aA,aQ]
  rw[if_pos (by omega)]
  simp
 have key:∀ (rest pre:List Tt),(∀ y∈rest,slC_18 y x=some (cmpR y x))→pre.length+rest.length≤4194304→
  thenL (ρ:=List Tt) (forN (fun (i2:Nat) (s2:Unit)=>
   aa (idx (pre++rest) (i2:Int)) fun v13=>
   aa (idx (pre++rest) (i2:Int)) fun v14=>
   aa (slC_18 v14 x) fun v16=>
   bif decide (v16<(0:Int)) then some (.nx ())
   else aa (idx (pre++rest) (i2:Int)) fun v27=>aa (idx (pre++rest) (i2:Int)) fun v28=>aa (slS_9 v28 x) fun v31=>bif v31 then some (.rt (pre++rest)) else
    aa (slc (pre++rest) (0:Int) (i2:Int)) fun v36=>aa (app ([]) v36) fun v37=>aa (app v37 ([x])) fun v40=>aa (slc (pre++rest) (i2:Int) ((pre++rest).length:Int)) fun v43=>aa (app v40 v43) fun v44=>some (.rt v44)) rest.length pre.length ()) (fun _=>
   aa (slc (pre++rest) (0:Int) (((pre++rest).length:Nat):Int)) fun v36=>aa (app ([]) v36) fun v37=>aa (app v37 ([x])) fun v40=>aa (slc (pre++rest) (((pre++rest).length:Nat):Int) ((pre++rest).length:Int)) fun v43=>aa (app v40 v43) fun v44=>some v44)=some (pre++putT x rest):=by
  intro rest
  induction rest with
  | nil=>
   intro pre _ h
   have:=tl some pre [] (by simpa using h)
   simpa[putT,forN,tLi_] using this
  | cons y rest ih=>
   intro pre hg h
   have hy:=hg y (by simp)
   simp only[putT,aA]
   by_cases c:cmpR y x<0
   ·rw[fNn_ (s':=()) (by rw[im_,ah,ah,hy,ah,decide_eq_true c]; rfl),if_pos c]
    have:=ih (pre++[y]) (fun a ha=>hg a (by simp[ha])) (by simp at h ⊢; omega)
    simpa using this
   ·by_cases e:cmpR y x=0
    ·rw[fNr_ (r:=pre++y::rest) (by rw[im_,ah,ah,hy,ah,decide_eq_false c,cond_false,ah,ah,lSo_,ah,cRs_2,decide_eq_true e]; rfl),tLi_1,if_neg c,if_pos e]
    ·rw[fNr_ (r:=pre++x::y::rest) (by
      rw[im_,ah,ah,hy,ah,decide_eq_false c,cond_false,ah,ah,lSo_,ah,cRs_2,decide_eq_false e,cond_false]
      exact tl (fun v=>some (Flow.rt v)) pre (y::rest) h),tLi_1,if_neg c,if_neg e]
 exact key l [] hg (by simpa using hl)
noncomputable def aA_(xs l:List Tt):List Tt:=xs.foldl (fun l x=>addT x l) l
def pAT_(xs l:List Tt):List Tt:=xs.foldl (fun l x=>putT x l) l
theorem aAm_(z:Tt):∀ (xs l:List Tt),z∈aA_ xs l↔z∈xs∨z∈l
 | [],l=>by simp[aA_]
 | x::xs,l=>by
  show z∈aA_ xs (addT x l)↔_
  rw[aAm_ z xs,aTm_,aU]
  constructor
  ·rintro (h | h | h)<;>simp[h]
  ·rintro ((h | h) | h)<;>simp[h]
theorem pAT_1(z:Tt):∀ (xs l:List Tt),z∈pAT_ xs l↔z∈xs∨z∈l
 | [],l=>by simp[pAT_]
 | x::xs,l=>by
  show z∈pAT_ xs (putT x l)↔_
  rw[pAT_1 z xs,pTm_,aU]
  constructor
  ·rintro (h | h | h)<;>simp[h]
  ·rintro ((h | h) | h)<;>simp[h]
theorem aAn_:∀ (xs l:List Tt),l.Nodup→(aA_ xs l).Nodup
 | [],l,h=>h
 | x::xs,l,h=>aAn_ xs _ (aTn_ x l h)
theorem pAT_2:∀ (xs l:List Tt),SrtT l→SrtT (pAT_ xs l)
 | [],l,h=>h
 | x::xs,l,h=>pAT_2 xs _ (pTs_ x l h)
theorem aAl_:∀ (xs l:List Tt),(aA_ xs l).length≤l.length+xs.length
 | [],l=>by simp[aA_]
 | x::xs,l=>by
  have:=aAl_ xs (addT x l)
  have:=aTl_ x l
  show(aA_ xs (addT x l)).length≤_
  simp only[aA]; omega
theorem pAT_3:∀ (xs l:List Tt),(pAT_ xs l).length≤l.length+xs.length
 | [],l=>by simp[pAT_]
 | x::xs,l=>by
  have:=pAT_3 xs (putT x l)
  have:=pTl_ x l
  show(pAT_ xs (putT x l)).length≤_
  simp only[aA]; omega
theorem STn_{l:List Tt}(h:SrtT l):l.Nodup:=h.imp (fun {a b} h e=>by rw[e,cRs_1] at h; omega)
theorem cTe_{a b:Tt}(ha:gT_ a=true)(hb:gT_ b=true):cmpT a b=cmpR a b:=by
 unfold cmpT; rw[(cg_ ha hb).2]; rfl
theorem cRl_1{a b c:Tt}(h1:¬ cmpR a b<0)(h2:¬ cmpR b c<0):¬ cmpR a c<0:=by
 intro h
 have n1:=cRn_ a b
 have n2:=cRn_ b c
 by_cases e1:cmpR a b=0
 ·rw[cRz_ a b e1] at h; exact h2 h
 ·have:=cRt_ b a c (by omega) h
  exact h2 this
theorem sOg_{l:List Tt}(h:Gd l)(hl:l.length≤1073741824):SortOk l where
 len:=hl
 ex:=fun x hx y hy=>by rw[cTe_ (h x hx) (h y hy),(cg_ (h x hx) (h y hy)).2]
 irr:=fun x hx=>by rw[cTe_ (h x hx) (h x hx),cRs_1]; omega
 tr:=fun x hx y hy z hz h1 h2=>by
  rw[cTe_ (h x hx) (h y hy)] at h1
  rw[cTe_ (h y hy) (h z hz)] at h2
  rw[cTe_ (h x hx) (h z hz)]
  exact cRt_ x y z h1 h2
 ntr:=fun x hx y hy z hz h1 h2=>by
  rw[cTe_ (h x hx) (h y hy)] at h1
  rw[cTe_ (h y hy) (h z hz)] at h2
  rw[cTe_ (h x hx) (h z hz)]
  exact cRl_1 h1 h2
 anti:=fun x hx y hy h1 h2=>by
  rw[cTe_ (h x hx) (h y hy)] at h1
  rw[cTe_ (h y hy) (h x hx)] at h2
  have:=cRn_ x y
  exact cRz_ x y (by omega)
theorem ga_{l:List Tt}(h:l.all gT_=true):Gd l:=fun a ha=>List.all_eq_true.1 h a ha
theorem sp_2{xs:List Tt}(h:Gd xs)(hl:xs.length≤4194304):sSF_1 (aA_ xs [])=some ((),pAT_ xs []):=by
 have hg:Gd (aA_ xs []):=fun a ha=>h a (by have:=(aAm_ a xs []).1 ha; simpa using this)
 have hlen:=aAl_ xs []
 have hok:=sOg_ hg (by simp only[aQ] at hlen; omega)
 have hs:=pAT_2 xs [] List.Pairwise.nil
 have hperm:(pAT_ xs []).Perm (aA_ xs []):=by
  rw[List.perm_ext_iff_of_nodup (STn_ hs) (aAn_ xs [] List.nodup_nil)]
  intro a; rw[pAT_1,aAm_]
 unfold sSF_1
 rw[if_pos hok,so_ hok hperm (hs.imp_of_mem (fun {a b} ha hb hab=>by
  have ga:=hg a (hperm.mem_iff.1 ha)
  have gb:=hg b (hperm.mem_iff.1 hb)
  rw[cTe_ gb ga]
  have:=cRn_ a b; omega))]
end
section
theorem gl_5{α ρ:Type}(q:α→Tt)(step:Tt→List Tt→List Tt)(F:Nat→α→List Tt→Option (Flow ρ (List Tt)))(r:ρ)
 (hlen:∀ x s,(step x s).length≤s.length+1) (hgd:∀ x s,gT_ x=true→Gd s→Gd (step x s)):
 ∀ (xs:List α) (i:Nat) (s:List Tt),(∀ x∈xs,∀ i s,Gd s→s.length≤100000→F i x s=some (bif gT_ (q x) then .nx (step (q x) s) else .rt r))→Gd s→s.length+xs.length≤100001→
 forL F xs i s=some (bif (xs.map q).all gT_ then .inr ((xs.map q).foldl (fun s x=>step x s) s) else .inl r)
 | [],i,s,_,_,_=>rfl
 | x::xs,i,s,h,hs,hl=>by
  simp only[aA] at hl
  have h0:=h x (by simp) i s hs (by omega)
  simp only[aD,bB,List.foldl_cons]
  cases hg:gT_ (q x)
  ·rw[hg] at h0
   rw[fLr_ (r:=r) h0]; rfl
  ·rw[hg] at h0
   have:=hlen (q x) s
   rw[fLn_ (s':=step (q x) s) h0,gl_5 q step F r hlen hgd xs (i+1) (step (q x) s) (fun y hy=>h y (by simp[hy])) (hgd _ _ hg hs) (by omega),Bool.true_and]
theorem fg_{step:Tt→List Tt→List Tt}(hgd:∀ x s,gT_ x=true→Gd s→Gd (step x s)):∀ (xs s:List Tt),xs.all gT_=true→Gd s→Gd (xs.foldl (fun s x=>step x s) s)
 | [],s,_,h=>h
 | x::xs,s,h,hs=>by
  rw[bB,aq] at h
  exact fg_ hgd xs _ h.2 (hgd x s h.1 hs)
theorem fl_2{step:Tt→List Tt→List Tt}(hlen:∀ x s,(step x s).length≤s.length+1):∀ (xs s:List Tt),(xs.foldl (fun s x=>step x s) s).length≤s.length+xs.length
 | [],s=>by simp
 | x::xs,s=>by
  have:=fl_2 hlen xs (step x s)
  have:=hlen x s
  simp only[List.foldl_cons,aA]; omega
theorem go_1{ρ:Type}(gen:Tt→List Tt)(step:Tt→List Tt→List Tt)(F:Nat→Tt→List Tt→Option (Flow ρ (List Tt)))(r:ρ)
 (hlen:∀ x s,(step x s).length≤s.length+1) (hgd:∀ x s,gT_ x=true→Gd s→Gd (step x s)):
 ∀ (ps:List Tt) (i:Nat) (s:List Tt),(∀ p∈ps,∀ i s,Gd s→s.length≤10000→F i p s=some (bif (gen p).all gT_ then .nx ((gen p).foldl (fun s x=>step x s) s) else .rt r))→
 (∀ p∈ps,(gen p).length≤100)→Gd s→s.length+100*ps.length≤10000→
 forL F ps i s=some (bif (ps.flatMap gen).all gT_ then .inr ((ps.flatMap gen).foldl (fun s x=>step x s) s) else .inl r)
 | [],i,s,_,_,_,_=>rfl
 | p::ps,i,s,h,hn,hs,hl=>by
  simp only[aA] at hl
  have h0:=h p (by simp) i s hs (by omega)
  have h1:=hn p (by simp)
  rw[List.flatMap_cons,List.all_append,List.foldl_append]
  cases hg:(gen p).all gT_
  ·rw[hg] at h0
   rw[fLr_ (r:=r) h0]; rfl
  ·rw[hg] at h0
   have:=fl_2 hlen (gen p) s
   rw[fLn_ (s':=(gen p).foldl (fun s x=>step x s) s) h0,go_1 gen step F r hlen hgd ps (i+1) _ (fun y hy=>h y (by simp[hy])) (fun y hy=>hn y (by simp[hy])) (fg_ hgd _ _ hg hs) (by omega),Bool.true_and]
noncomputable def gens(d:Dt)(p:Tt):List Tt:=bif hasV nameA p.vars then d.Instances.map (fun t=>sbT nameA t p) else [p]
noncomputable def G0(d:Dt):List Tt:=d.Patterns.flatMap (gens d)
theorem sf_2{p t:Tt}(hp:gT_ p=true)(ht:gT_ t=true):(sbT nameA t p).tot≤7000∧(sbT nameA t p).Ok∧(sbT nameA t p).cnt≤900:=by
 obtain⟨g1,g2⟩:=gTi_ hp
 obtain⟨g3,g4⟩:=gTi_ ht
 have e1:=tt_ _ (st_4 (n:=nameA) (gt_ t g3) p (gt_ _ g1))
 have e2:=sc_4 (n:=nameA) (t:=t) p
 have e3:p.cnt*t.cnt≤30*30:=Nat.mul_le_mul g2 g4
 exact⟨by omega,Tt.Ok_of _ (by omega),by omega⟩
theorem gl_4{d:Dt}(hd:vD_ d=true)(p:Tt):(gens d p).length≤100:=by
 unfold vD_ at hd
 simp only[aq,decide_eq_true_eq] at hd
 unfold gens
 cases hasV nameA p.vars
 ·simp
 ·rw[cond_true,List.length_map]; omega
theorem vp_1{d:Dt}(hd:vD_ d=true):d.Patterns.length≤12∧d.Instances.length≤12∧(∀ p∈d.Patterns,gT_ p=true∧hasV nameA p.vars=!p.vars.isEmpty)∧∀ t∈d.Instances,gT_ t=true:=by
 unfold vD_ at hd
 simp only[aq,decide_eq_true_eq] at hd
 obtain⟨⟨⟨⟨⟨h1,h2⟩,h3⟩,h4⟩,_⟩,_⟩:=hd
 refine⟨h1,h2,fun p hp=>?_,fun t ht=>?_⟩
 ·have:=List.all_eq_true.1 h4 p hp
  unfold patD patT at this
  simp only[aq] at this
  refine⟨this.1.1,?_⟩
  have ha:=this.1.2
  cases hv:p.vars with
  | nil=>rfl
  | cons x l=>
   rw[hv,bB,aq,decide_eq_true_eq] at ha
   rw[ha.1]
   show hasV nameA (nameA::l)=true
   exact hVi_.2 (by simp)
 ·have:=List.all_eq_true.1 h3 t ht
  unfold gndT at this
  rw[aq] at this
  exact this.1
theorem li_(d:Dt)(hd:vD_ d=true):il_ d=some (bif (G0 d).all gT_ then(pAT_ (G0 d) [],true) else([],false)):=by
 obtain⟨v1,v2,v3,v4⟩:=vp_1 hd
 unfold il_
 simp only[fNi_]
 rw[go_1 (gens d) addT _ (([],false):List Tt×Bool) aTl_ (fun x s=>aTg_) d.Patterns 0 [] (fun p hp i s hs hl=>?_) (fun p _=>gl_4 hd p) (fun a ha=>by simp at ha) (by simp; omega)]
 ·show thenL (some (bif (G0 d).all gT_ then .inr (aA_ (G0 d) []) else .inl _)) _=_
  cases hg:(G0 d).all gT_
  ·rfl
  ·rw[cond_true,tLi_,sp_2 (ga_ hg) (by
    have:(G0 d).length≤100*12:=by
     unfold G0
     have key:∀ ps:List Tt,(ps.flatMap (gens d)).length≤100*ps.length:=fun ps=>by
      induction ps with
      | nil=>simp
      | cons p ps ih=>
       have:=gl_4 hd p
       rw[List.flatMap_cons,aP,aA]; omega
     have:=key d.Patterns
     omega
    omega)]; rfl
 ·obtain⟨g,hv⟩:=v3 p hp
  have gi:=gTi_ g
  show aa (io_ nameA p) _=_
  rw[oe_1 nAv_ gi.1 (by omega),ah]
  unfold gens
  cases hh:hasV nameA p.vars
  ·rw[cond_false,aAe_ s p (by omega) (by omega)]
   show _=some (bif ([p].all gT_) then _ else _)
   rw[bB,g]; rfl
  ·simp only[cond_true]
   rw[gl_5 (fun t=>sbT nameA t p) addT _ (Flow.rt ([],false)) aTl_ (fun x s=>aTg_) d.Instances 0 s (fun t ht i s hs hl=>?_) hs (by omega)]
   ·cases (d.Instances.map fun t=>sbT nameA t p).all gT_<;>rfl
   ·have gt:=v4 t ht
    have f:=sf_2 g gt
    have:=gTi_ gt
    rw[fe_ (by omega) (by omega),ah,IVT_ _ (by omega) f.2.1,ah,aAe_ s _ (by omega) (by omega)]
    cases gT_ (sbT nameA t p)<;>rfl
theorem gd_(d:Dt)(hok:d.Ok)(ht:d.tot≤4194304):slG_5 d=some (vD_ d):=by
 unfold slG_5 vD_
 unfold Dt.tot at ht
 by_cases h1:d.Patterns.length≤12
 ·rw[decide_eq_false (show ¬ (12:Int)<(d.Patterns.length:Int) by omega),cond_false,decide_eq_true h1,Bool.true_and]
  by_cases h2:d.Instances.length≤12
  ·rw[decide_eq_false (show ¬ (12:Int)<(d.Instances.length:Int) by omega),cond_false,decide_eq_true h2,Bool.true_and,
    ls_3 hok.2 (fun a ha=>by have:=tmD_ ha; omega) h2,ah]
   cases hI:d.Instances.all gndT
   ·rfl
   ·rw[cond_true,Bool.true_and,fNa_ (fun j=>patD d.Instances.isEmpty (d.Patterns.getD j default)) (r0:=false),ral_ d.Patterns (patD d.Instances.isEmpty)]
    ·cases hP:d.Patterns.all (patD d.Instances.isEmpty)
     ·rfl
     ·have hP2:=hP
      rw[pDa_,aq] at hP2
      rw[cond_true,as_3 hok.1 (pg_ hP2.1),ah,as_3 hok.2 (gg_ hI),ah]
      cases asc d.Patterns<;>rfl
    ·intro j hj _
     have hm:=gDm_ hj
     rw[igD_ hj,ah,lGo_ _ (by have:=tmD_ hm; omega) (hok.1.2 _ hm),ah]
     cases hg:gT_ (d.Patterns.getD j default)
     ·simp only[patD,patT,hg]; rfl
     ·have:=ps_2 (ρ:=Flow Bool Unit) (e:=d.Instances.isEmpty) (hok.1.2 _ hm) hg (.rt false) (.nx ())
      rw[cond_true,ah,← this,← iEd_]
  ·rw[decide_eq_true (show(12:Int)<(d.Instances.length:Int) by omega),decide_eq_false h2]; rfl
 ·rw[decide_eq_true (show(12:Int)<(d.Patterns.length:Int) by omega),decide_eq_false h1]; rfl
noncomputable def lD_(d:Dt):List Tt×Bool:=bif vD_ d&&(G0 d).all gT_ then(pAT_ (G0 d) [],true) else([],false)
theorem LOi_(d:Dt)(hok:d.Ok)(ht:d.tot≤4194304):iLO_1 d=some (lD_ d):=by
 unfold iLO_1 lD_
 rw[id_1 d hok ht,ah]
 cases hv:vD_ d
 ·rfl
 ·rw[cond_true,li_ d hv,Bool.true_and]; rfl
theorem lDf_(d:Dt):Gd (lD_ d).1∧(lD_ d).1.length≤1200:=by
 unfold lD_
 cases hv:vD_ d
 ·exact⟨fun a ha=>by simp at ha,by simp⟩
 cases hg:(G0 d).all gT_
 ·exact⟨fun a ha=>by simp at ha,by simp⟩
 refine⟨fun a ha=>?_,?_⟩
 ·have:=(pAT_1 a (G0 d) []).1 ha
  exact ga_ hg a (by simpa using this)
 ·obtain⟨v1,_,_,_⟩:=vp_1 hv
  have key:∀ ps:List Tt,(ps.flatMap (gens d)).length≤100*ps.length:=fun ps=>by
   induction ps with
   | nil=>simp
   | cons p ps ih=>
    have:=gl_4 hv p
    rw[List.flatMap_cons,aP,aA]; omega
  have h1:=key d.Patterns
  have h2:=pAT_3 (G0 d) []
  have h3:(G0 d).length≤100*d.Patterns.length:=h1
  show(pAT_ (G0 d) []).length≤1200
  simp only[aQ] at h2
  omega
end
section
theorem wi_1{ρ σ:Type}{f:σ→Option (Flow ρ σ)}(st:Nat→σ):∀ (N i:Nat) (z:ρ ⊕ σ),(∀ j,i≤j→j<i+N→f (st j)=some (.nx (st (j+1))))→((∃ s',f (st (i+N))=some (.br s')∧z=.inr s')∨∃ r,f (st (i+N))=some (.rt r)∧z=.inl r)→
 ∀ m,N+1≤m→whileN f m (st i)=some z
 | 0,i,z,_,h,m,hm=>by
  obtain⟨k,rfl⟩:∃ k,m=k+1:=⟨m-1,by omega⟩
  rw[Nat.add_zero] at h
  rcases h with⟨s',h,rfl⟩ | ⟨r,h,rfl⟩
  ·rw[wNb_ h]
  ·rw[wNr_ h]
 | N+1,i,z,h1,h2,m,hm=>by
  obtain⟨k,rfl⟩:∃ k,m=k+1:=⟨m-1,by omega⟩
  rw[wNn_ (h1 i (aJ _) (by omega))]
  exact wi_1 st N (i+1) z (fun j a b=>h1 j (by omega) (by omega)) (by rw[show i+1+N=i+(N+1) by omega]; exact h2) k (by omega)
theorem li_2{ρ σ:Type}{f:σ→Option (Flow ρ σ)}(st:Nat→σ)(N:Nat){s':σ}(h1:∀ j,j<N→f (st j)=some (.nx (st (j+1))))(h2:f (st N)=some (.br s')):lim (fun n=>whileN f n (st 0))=some (.inr s'):=
 le_ ⟨N+1,fun n hn=>wi_1 st N 0 _ (fun j _ hj=>h1 j (by omega)) (.inl ⟨s',by rw[Nat.zero_add]; exact h2,rfl⟩) n hn⟩
theorem fi_{ρ σ:Type}{f:Nat→σ→Option (Flow ρ σ)}(st:Nat→σ):∀ (n i:Nat),(∀ j,i≤j→j<i+n→f j (st j)=some (.nx (st (j+1))))→forN f n i (st i)=some (.inr (st (i+n)))
 | 0,i,_=>rfl
 | n+1,i,h=>by
  rw[fNn_ (h i (aJ _) (by omega)),fi_ st n (i+1) (fun j a b=>h j (by omega) (by omega)),show i+1+n=i+(n+1) by omega]
theorem fNc_{ρ σ:Type}{f g:Nat→σ→Option (Flow ρ σ)}:∀ (n i:Nat) (s:σ),(∀ j s,i≤j→j<i+n→f j s=g j s)→forN f n i s=forN g n i s
 | 0,_,_,_=>rfl
 | n+1,i,s,h=>by
  unfold forN
  rw[h i s (aJ _) (by omega)]
  congr 1
  funext x
  cases x with
  | nx s'=>exact fNc_ n (i+1) s' (fun j t a b=>h j t (by omega) (by omega))
  | br s'=>rfl
  | rt r=>rfl
theorem fNf_{α ρ σ:Type}[Inhabited α]{f:Nat→σ→Option (Flow ρ σ)}(xs:List α)(g:Nat→α→σ→Option (Flow ρ σ))(s:σ)(h:∀ j,j<xs.length→∀ s,f j s=g j (xs.getD j default) s):forN f xs.length 0 s=forL g xs 0 s:=by
 rw[← fNi_]
 refine fNc_ _ _ _ fun j s _ hj=>?_
 rw[igD_ (by omega),ah,h j (by omega)]
end
section
abbrev zt:Tt:=Tt.mk (⟨#[]⟩:ByteArray) []
abbrev es:ByteArray:=(⟨#[]⟩:ByteArray)
abbrev fC(o:Int):Ft:=Ft.mk o zt es []
abbrev fN(p:Ft):Ft:=Ft.mk 4 zt es [p]
abbrev fB(o:Int)(p q:Ft):Ft:=Ft.mk o zt es [p,q]
abbrev fQ(o:Int)(v:ByteArray)(p:Ft):Ft:=Ft.mk o zt v [p]
def K(p:Ft):Prop:=p.Op=1∨p.Op=2
theorem gc_{f:Ft}(h:f.good=true):
 (∃ o,(o=1∨o=2)∧f=fC o)∨(∃ t,f=Ft.mk 3 t es []∧aT_ t=true)∨(∃ p,f=fN p∧p.good=true)∨
 (∃ o p q,(o=5∨o=6∨o=7)∧f=fB o p q∧p.good=true∧q.good=true)∨∃ o v p,(o=8∨o=9)∧f=fQ o v p∧iVS_ v=true∧p.good=true:=by
 obtain⟨o,t,v,l⟩:=f
 rw[Ft.good_u,aq,ba] at h
 obtain⟨h,hp⟩:=h
 simp only[FOm_,FAm_,FVm_,FPm_] at h hp
 unfold fC_ at h
 have two:∀ k:Nat,l.length=k→(k=0→l=[])∧(k=1→∃ p,l=[p]∧p.good=true)∧(k=2→∃ p q,l=[p,q]∧p.good=true∧q.good=true):=by
  intro k hk
  refine⟨fun e=>List.eq_nil_of_length_eq_zero (by omega),fun e=>?_,fun e=>?_⟩
  ·match l,hk,hp with
   | [p],_,hp=>exact⟨p,rfl,hp p (by simp)⟩
   | [],hk,_=>simp at hk; omega
   | _::_::_,hk,_=>simp at hk; omega
  ·match l,hk,hp with
   | [p,q],_,hp=>exact⟨p,q,rfl,hp p (by simp),hp q (by simp)⟩
   | [],hk,_=>simp at hk; omega
   | [_],hk,_=>simp at hk; omega
   | _::_::_::_,hk,_=>simp at hk; omega
 by_cases e3:o=3
 ·rw[decide_eq_true e3,cond_true] at h
  simp only[aq,decide_eq_true_eq] at h
  rw[(two _ h.1).1 rfl,e3,h.2.2]
  exact .inr (.inl ⟨t,rfl,h.2.1⟩)
 rw[decide_eq_false e3,cond_false] at h
 by_cases eq:o=8∨o=9
 ·have:(decide (o=8)||decide (o=9))=true:=by simpa using eq
  rw[this,cond_true] at h
  simp only[aq,decide_eq_true_eq] at h
  obtain⟨p,rfl,hg⟩:=(two _ h.1).2.1 rfl
  rw[zTi_.1 h.2.1]
  exact .inr (.inr (.inr (.inr ⟨o,v,p,eq,rfl,h.2.2,hg⟩)))
 have:(decide (o=8)||decide (o=9))=false:=by simpa using eq
 rw[this,cond_false,aq,aq,decide_eq_true_iff,zTi_] at h
 obtain⟨h,rfl,rfl⟩:=h
 by_cases e1:o=1∨o=2
 ·have:(decide (o=1)||decide (o=2))=true:=by simpa using e1
  rw[this,cond_true,decide_eq_true_iff] at h
  rw[(two _ h).1 rfl]
  exact .inl ⟨o,e1,rfl⟩
 have:(decide (o=1)||decide (o=2))=false:=by simpa using e1
 rw[this,cond_false] at h
 by_cases e4:o=4
 ·rw[decide_eq_true e4,cond_true,decide_eq_true_iff] at h
  obtain⟨p,rfl,hg⟩:=(two _ h).2.1 rfl
  rw[e4]
  exact .inr (.inr (.inl ⟨p,rfl,hg⟩))
 rw[decide_eq_false e4,cond_false] at h
 by_cases e5:o=5∨o=6∨o=7
 ·have:(decide (o=5)||(decide (o=6)||decide (o=7)))=true:=by simpa using e5
  rw[this,cond_true,decide_eq_true_iff] at h
  obtain⟨p,q,rfl,hg,hg2⟩:=(two _ h).2.2 rfl
  exact .inr (.inr (.inr (.inl ⟨o,p,q,e5,rfl,hg,hg2⟩)))
 ·have:(decide (o=5)||(decide (o=6)||decide (o=7)))=false:=by simpa using e5
  rw[this] at h; cases h
theorem cfN_(p:Ft):(fN p).cnt=1+p.cnt:=by rw[Ft.cnt_u]; simp[FPm_]
theorem cfB_(o:Int)(p q:Ft):(fB o p q).cnt=1+(p.cnt+q.cnt):=by rw[Ft.cnt_u]; simp[FPm_]
theorem cfQ_(o:Int)(v:ByteArray)(p:Ft):(fQ o v p).cnt=1+p.cnt:=by rw[Ft.cnt_u]; simp[FPm_]
theorem tz_:zt.tot=0:=by rw[Tt.tot_mk]; rfl
theorem tfC_(o:Int):(fC o).tot=0:=by rw[Ft.tot_mk,tz_]; rfl
theorem tfN_(p:Ft):(fN p).tot=1+p.tot:=by rw[Ft.tot_mk,tz_]; simp[ltot]; rfl
theorem tfB_(o:Int)(p q:Ft):(fB o p q).tot=2+(p.tot+q.tot):=by rw[Ft.tot_mk,tz_]; simp[ltot]; rfl
theorem tfQ_(o:Int)(v:ByteArray)(p:Ft):(fQ o v p).tot=v.size+(1+p.tot):=by rw[Ft.tot_mk,tz_]; simp[ltot]
theorem oz_:zt.Ok:=.mk _ _ (by simp only[Big]; decide) (by simp[Big]) (by simp)
theorem oe_:Big es.size:=by simp only[Big]; decide
theorem ofC_{o:Int}(h:o=1∨o=2):(fC o).Ok:=.mk _ _ _ _ (by simp only[InR]; omega) oz_ oe_ (by simp[Big]) (by simp)
theorem ofN_{p:Ft}(h:p.Ok):(fN p).Ok:=.mk _ _ _ _ (by simp only[InR]; omega) oz_ oe_ (by simp[Big]) (by simpa using h)
theorem ofB_{o:Int}{p q:Ft}(ho:o=5∨o=6∨o=7)(h:p.Ok)(h2:q.Ok):(fB o p q).Ok:=.mk _ _ _ _ (by simp only[InR]; omega) oz_ oe_ (by simp[Big]) (by simpa using⟨h,h2⟩)
theorem ofQ_{o:Int}{v:ByteArray}{p:Ft}(ho:o=8∨o=9)(hv:Big v.size)(h:p.Ok):(fQ o v p).Ok:=.mk _ _ _ _ (by simp only[InR]; omega) oz_ hv (by simp[Big]) (by simpa using h)
inductive NF:Ft→Prop
 | c (o:Int) (h:o=1∨o=2):NF (fC o)
 | a (t:Tt):NF (Ft.mk 3 t es [])
 | n (p:Ft) (hp:NF p) (h:¬ K p):NF (fN p)
 | b (o:Int) (p q:Ft) (ho:o=5∨o=6∨o=7) (hp:NF p) (hq:NF q) (h1:¬ K p) (h2:¬ K q) (h3:p≠q):NF (fB o p q)
 | q (o:Int) (v:ByteArray) (p:Ft) (ho:o=8∨o=9) (hp:NF p) (h:¬ K p):NF (fQ o v p)
noncomputable def imp(p q:Ft):Ft:=bif decide (p.Op=1) then q else bif decide (p.Op=2) then fC 1 else bif decide (q.Op=1) then fC 1 else bif same p q then fC 1 else bif decide (q.Op=2) then fN p else fB 7 p q
end
section
def jF_(o:Int)(l:List Ft)(e:Ft):Ft:=match l.reverse with
 | []=>e
 | x::r=>r.foldl (fun a f=>fB o f a) x
def jst(o:Int)(x:Ft)(r:List Ft)(j:Nat):Int×ByteArray×(List Tt)×ByteArray×(List Ft)×Int:=
 let g:=(r.take j).foldl (fun a f=>fB o f a) x
 (g.Op,g.Atom.Name,g.Atom.Args,g.Var,g.Parts,(r.length:Int)-1-j)
theorem fe_1(g:Ft):Ft.mk g.Op (Tt.mk g.Atom.Name g.Atom.Args) g.Var g.Parts=g:=by rw[g.Atom.eta,g.eta]
theorem je_{o e:Int}{l:List Ft}(hl:∀ f∈l,f.tot≤4194304)(hb:l.length≤1000):slJ_ l o e=some (jF_ o l (fC e)):=by
 unfold slJ_ jF_
 cases h:l.reverse with
 | nil=>
  have:l=[]:=by rw[← List.reverse_reverse l,h]; rfl
  subst this; rfl
 | cons x r=>
  have hlen:l.length=r.length+1:=by rw[← List.length_reverse,h,aA]
  have hrev:l=(x::r).reverse:=by rw[← h,List.reverse_reverse]
  have hm:∀ f∈x::r,f.tot≤4194304:=fun f hf=>hl f (by rw[← List.mem_reverse,h]; exact hf)
  have get:∀ j:Nat,j≤r.length→idx l ((r.length:Int)-j)=(x::r)[j]?:=fun j hj=>by
   rw[show(r.length:Int)-j=((r.length-j:Nat):Int) by omega,in_,hrev,List.getElem?_reverse (by simp; omega)]
   congr 1
   simp; omega
  rw[decide_eq_false (by omega),cond_false,w_ (by omega) (by omega),w_ (by omega) (by omega),show(l.length:Int)-1=(r.length:Int)-(0:Nat) by omega,get 0 (by omega)]
  show aa (slO_1 x) _=_
  rw[ownF x (hm x (by simp)),ah]
  have e0:(x.Op,x.Atom.Name,x.Atom.Args,x.Var,x.Parts,(l.length:Int)-2)=jst o x r 0:=by
   unfold jst
   show _=(x.Op,x.Atom.Name,x.Atom.Args,x.Var,x.Parts,(r.length:Int)-1-(0:Nat))
   rw[show(l.length:Int)-2=(r.length:Int)-1-(0:Nat) by omega]
  rw[e0,li_2 (jst o x r) r.length (s':=jst o x r r.length) (h1:=?_) (h2:=?_),tLi_]
  ·show some (Ft.mk _ (Tt.mk _ _) _ _)=_
   unfold jst
   rw[fe_1,List.take_length]
  ·intro j hj
   show(bif decide ((0:Int)≤(r.length:Int)-1-j) then _ else _)=_
   rw[decide_eq_true (by omega),cond_true]
   show aa (idx l ((r.length:Int)-1-j)) _=_
   rw[show(r.length:Int)-1-j=(r.length:Int)-((j+1:Nat):Int) by omega,get (j+1) (by omega),List.getElem?_cons_succ,List.getElem?_eq_getElem hj,ah,ownF _ (hm _ (by simp)),ah]
   show some (Flow.nx (o,_,_,_,[r[j],Ft.mk (jst o x r j).1 (Tt.mk (jst o x r j).2.1 (jst o x r j).2.2.1) (jst o x r j).2.2.2.1 (jst o x r j).2.2.2.2.1],IntKind.i64.wrap (((r.length:Int)-1-j)-1)))=some (Flow.nx (jst o x r (j+1)))
   rw[w_ (by omega) (by omega)]
   unfold jst
   simp only[fe_1]
   rw[List.take_succ_eq_append_getElem hj,List.foldl_append]
   show _=some (Flow.nx (o,_,_,_,[r[j],_],_))
   rw[show(r.length:Int)-1-j-1=(r.length:Int)-1-((j+1:Nat):Int) by omega]
   rfl
  ·show(bif decide ((0:Int)≤(r.length:Int)-1-r.length) then _ else _)=_
   rw[decide_eq_false (by omega)]; rfl
end
section
def CurOk(c:la)(n:Nat):Prop:=0≤c.at_f∧c.at_f≤(n:Int)∧∀ x∈c.code,0≤x∧x≤255
theorem CurOk.mono{c:la}{n m:Nat}(h:CurOk c n)(hm:n≤m):CurOk c m:=⟨h.1,by have:=h.2.1; omega,h.2.2⟩
theorem wi_{x:Int}(h0:0≤x)(h1:x≤4611686018427387904):IntKind.i64.wrap x=x:=w_ (by omega) (by omega)
theorem b_1(v:Int):0≤IntKind.i64.wrap (b_ .u64 v (255:Int))∧IntKind.i64.wrap (b_ .u64 v (255:Int))≤255:=by
 have h:∃ k:Nat,k≤255∧b_ .u64 v (255:Int)=(k:Int):=by
  refine⟨(BitVec.ofInt 64 v&&& BitVec.ofInt 64 255).toNat,?_,?_⟩
  ·rw[BitVec.toNat_and]
   exact Nat.le_trans Nat.and_le_right (by decide)
  ·have hk:(BitVec.ofInt 64 v&&& BitVec.ofInt 64 255).toNat≤255:=by
    rw[BitVec.toNat_and]; exact Nat.le_trans Nat.and_le_right (by decide)
   unfold b_
   exact un_1 (n:=(BitVec.ofInt 64 v&&& BitVec.ofInt 64 255).toNat) (by omega)
 obtain⟨k,hk,e⟩:=h
 rw[e,wi_ (by omega) (by omega)]
 omega
theorem no_{c:la}{n:Nat}(h:CurOk c n)(hn:n≤1000000000):∃ v c',slC_19 c=some (v,c')∧0≤v∧v≤255∧CurOk c' (n+1):=by
 obtain⟨h0,h1,h2⟩:=h
 have ha:IntKind.i64.wrap (c.at_f+1)=c.at_f+1:=wi_ (by omega) (by omega)
 unfold slC_19
 have hs:∀ x:Int,shr .u64 x 40=some (x.fdiv (2 ^ (min (40:Int).toNat IntKind.u64.bits))):=fun x=>by simp[shr]
 by_cases e:c.at_f<(c.code.length:Int)
 ·rw[decide_eq_true e,cond_true]
  obtain⟨b,hb⟩:∃ b,c.code[c.at_f.toNat]?=some b:=⟨_,List.getElem?_eq_getElem (by omega)⟩
  have hbr:=h2 b (List.mem_of_getElem? hb)
  have hi:idx c.code c.at_f=some b:=by simp[idx,h0,hb]
  rw[hi,ah,ha,wi_ hbr.1 (by omega)]
  cases decide (c.at_f+1≤(c.code.length:Int)) with
  | true=>exact⟨_,_,rfl,hbr.1,hbr.2,by simp only; omega,by simp only; omega,h2⟩
  | false=>
   rw[cond_false,hs,ah]
   exact⟨_,_,rfl,(b_1 _).1,(b_1 _).2,by simp only; omega,by simp only; omega,h2⟩
 ·rw[decide_eq_false e,cond_false,ha]
  cases decide (c.at_f+1≤(c.code.length:Int)) with
  | true=>exact⟨_,_,rfl,by omega,by omega,by simp only; omega,by simp only; omega,h2⟩
  | false=>
   rw[cond_false,hs,ah]
   exact⟨_,_,rfl,(b_1 _).1,(b_1 _).2,by simp only; omega,by simp only; omega,h2⟩
theorem rl_1{x m:Int}(h0:0≤x)(hm:0<m):∃ v,rem x m=some v∧0≤v∧v<m:=
 ⟨x.tmod m,by simp[rem,show m≠0 by omega],Int.tmod_nonneg _ h0,Int.tmod_lt_of_pos _ hm⟩
theorem po_{c:la}{n:Nat}(m:Int)(h:CurOk c n)(hn:n+2≤1000000000):∃ v c',slC_ c m=some (v,c')∧0≤v∧(1≤m→v<m)∧CurOk c' (n+2):=by
 unfold slC_
 by_cases e:m≤1
 ·rw[decide_eq_true e,cond_true]
  exact⟨_,_,rfl,by omega,fun _=>by omega,h.mono (by omega)⟩
 ·rw[decide_eq_false e,cond_false]
  obtain⟨v,c',e1,hv0,hv1,hc⟩:=no_ h (by omega)
  rw[e1,ah]
  by_cases e2:200<m
  ·rw[decide_eq_true e2,cond_true]
   obtain⟨u,c'',e3,hu0,hu1,hc'⟩:=no_ hc (by omega)
   simp only[e3,ah]
   rw[wi_ (x:=v*256) (by omega) (by omega),wi_ (by omega) (by omega)]
   obtain⟨q,e4,hq0,hq1⟩:=rl_1 (x:=v*256+u) (m:=m) (by omega) (by omega)
   rw[e4]
   exact⟨_,_,rfl,hq0,fun _=>hq1,hc'⟩
  ·rw[decide_eq_false e2,cond_false]
   obtain⟨q,e4,hq0,hq1⟩:=rl_1 (x:=v) (m:=m) hv0 (by omega)
   simp only[e4]
   exact⟨_,_,rfl,hq0,fun _=>hq1,hc.mono (by omega)⟩
theorem ao_3{c:la}{n:Nat}(l:List Int)(hl:l≠[])(h:CurOk c n)(hn:n+2≤1000000000):∃ v c',slC_21 c l=some (v,c')∧v∈l∧CurOk c' (n+2):=by
 unfold slC_21
 have hp:0<l.length:=List.length_pos_iff.2 hl
 obtain⟨k,c',e,h0,h1,hc⟩:=po_ (l.length:Int) h hn
 have hk:=h1 (by omega)
 obtain⟨b,hb⟩:∃ b,l[k.toNat]?=some b:=⟨_,List.getElem?_eq_getElem (by omega)⟩
 have hi:idx l k=some b:=by simp[idx,h0,hb]
 simp only[e,ah,hi]
 exact⟨_,_,rfl,List.mem_of_getElem? hb,hc⟩
theorem oo_{c:la}{n:Nat}(l:List ByteArray)(hl:l≠[])(h:CurOk c n)(hn:n+2≤1000000000):∃ v c',slC_7 c l=some (v,c')∧v∈l∧CurOk c' (n+2):=by
 unfold slC_7
 have hp:0<l.length:=List.length_pos_iff.2 hl
 obtain⟨k,c',e,h0,h1,hc⟩:=po_ (l.length:Int) h hn
 have hk:=h1 (by omega)
 obtain⟨b,hb⟩:∃ b,l[k.toNat]?=some b:=⟨_,List.getElem?_eq_getElem (by omega)⟩
 have hi:idx l k=some b:=by simp[idx,h0,hb]
 simp only[e,ah,hi]
 exact⟨_,_,rfl,List.mem_of_getElem? hb,hc⟩
theorem oo_1{c:la}{n:Nat}(m:Int)(h:CurOk c n)(hn:n+2≤1000000000):∃ b c',slC_6 c m=some (b,c')∧CurOk c' (n+2):=by
 unfold slC_6
 obtain⟨k,c',e,_,_,hc⟩:=po_ m h hn
 simp only[e,ah]
 exact⟨_,_,rfl,hc⟩
theorem fNi_1{ρ σ:Type}{f:Nat→σ→Option (Flow ρ σ)}(I:Nat→σ→Prop):∀ (n i:Nat) (s:σ),I i s→(∀ j s,i≤j→j<i+n→I j s→∃ s',f j s=some (.nx s')∧I (j+1) s')→∃ s',forN f n i s=some (.inr s')∧I (i+n) s'
 | 0,i,s,h,_=>⟨s,rfl,h⟩
 | n+1,i,s,h,hf=>by
  obtain⟨s',e,h'⟩:=hf i s (by omega) (by omega) h
  rw[fNn_ e]
  obtain⟨s'',e2,h2⟩:=fNi_1 I n (i+1) s' h' (fun j s hj hj'=>hf j s (by omega) (by omega))
  exact⟨s'',e2,by rw[show i+(n+1)=i+1+n by omega]; exact h2⟩
theorem a_{α:Type}{xs:List α}(x:α)(h:xs.length≤1000):app xs [x]=some (xs++[x]):=by
 unfold app; rw[if_pos (by simp; omega)]
end
section
theorem wi_2{ρ σ:Type}{f:σ→Option (Flow ρ σ)}{Q:ρ ⊕ σ→Prop}(I:Nat→σ→Prop):∀ (N i:Nat) (s:σ),I i s→(∀ j s,i≤j→j<i+N→I j s→(∃ s',f s=some (.nx s')∧I (j+1) s')∨∃ r,f s=some (.rt r)∧Q (.inl r))→(∀ s,I (i+N) s→∃ s',f s=some (.br s')∧Q (.inr s'))→
 ∃ z,(∀ m,N+1≤m→whileN f m s=some z)∧Q z
 | 0,i,s,h,_,h2=>by
  obtain⟨s',e,q⟩:=h2 s h
  refine⟨_,fun m hm=>?_,q⟩
  obtain⟨k,rfl⟩:∃ k,m=k+1:=⟨m-1,by omega⟩
  rw[wNb_ e]
 | N+1,i,s,h,h1,h2=>by
  rcases h1 i s (aJ _) (by omega) h with⟨s',e,h'⟩ | ⟨r,e,q⟩
  ·obtain⟨z,g1,g2⟩:=wi_2 (Q:=Q) I N (i+1) s' h' (fun j t a b=>h1 j t (by omega) (by omega)) (fun t ht=>h2 t (by rw[show i+(N+1)=i+1+N by omega]; exact ht))
   refine⟨z,fun m hm=>?_,g2⟩
   obtain⟨k,rfl⟩:∃ k,m=k+1:=⟨m-1,by omega⟩
   rw[wNn_ e]; exact g1 k (by omega)
  ·refine⟨_,fun m hm=>?_,q⟩
   obtain⟨k,rfl⟩:∃ k,m=k+1:=⟨m-1,by omega⟩
   rw[wNr_ e]
theorem li_3{ρ σ:Type}{f:σ→Option (Flow ρ σ)}{Q:ρ ⊕ σ→Prop}(I:Nat→σ→Prop)(N:Nat)(s:σ)(h:I 0 s)(h1:∀ j s,j<N→I j s→(∃ s',f s=some (.nx s')∧I (j+1) s')∨∃ r,f s=some (.rt r)∧Q (.inl r))(h2:∀ s,I N s→∃ s',f s=some (.br s')∧Q (.inr s')):
 ∃ z,lim (fun n=>whileN f n s)=some z∧Q z:=by
 obtain⟨z,g1,g2⟩:=wi_2 (Q:=Q) I N 0 s h (fun j t _ b=>h1 j t (by omega)) (fun t ht=>h2 t (by rw[Nat.zero_add] at ht; exact ht))
 exact⟨z,le_ ⟨N+1,g1⟩,g2⟩
theorem qs_{x m:Int}(h0:0≤x)(h1:x≤1000)(hm:0<m):quo x m=some (x / m):=by
 unfold quo
 rw[if_neg (by omega),Int.tdiv_eq_ediv_of_nonneg h0,wi_ (Int.ediv_nonneg h0 (by omega)) (by have:=Int.ediv_le_self m h0; omega)]
end
section
def SmT(k:Nat)(t:Tt):Prop:=t.Ok∧t.tot≤k
theorem sTm_{x:ByteArray}{l:List Tt}{k m:Nat}(h:x.size≤8)(hl:∀ a∈l,SmT k a)(hn:l.length≤8)(hm:8+8*(k+1)≤m):SmT m (Tt.mk x l):=by
 refine⟨.mk x l (by simp only[Big]; omega) (by simp only[Big]; omega) (fun a ha=>(hl a ha).1),?_⟩
 have:∀ l:List Tt,(∀ a∈l,SmT k a)→ltot bg l≤l.length*(k+1):=by
  intro l
  induction l with
  | nil=>intro _; simp[ltot]
  | cons a l ih=>
   intro h
   have h1:=ih (fun x hx=>h x (by simp[hx]))
   have h2:=(h a (by simp)).2
   simp only[ltot,aD,bp,aA] at h1 ⊢
   rw[Nat.succ_mul]
   omega
 have h3:=this l hl
 have h4:l.length*(k+1)≤8*(k+1):=Nat.mul_le_mul_right _ hn
 rw[Tt.tot_mk]
 omega
theorem SmT.mono{k m:Nat}{t:Tt}(h:SmT k t)(hm:k≤m):SmT m t:=⟨h.1,Nat.le_trans h.2 hm⟩
def ksz:Nat→Nat
 | 0=>16
 | d+1=>8+8*(ksz d+1)
theorem k1_:∀ d,16≤ksz d
 | 0=>aJ _
 | d+1=>by have:=k1_ d; simp only[ksz]; omega
def bud:Nat→Nat
 | 0=>10
 | d+1=>2*bud d+10
theorem bg_:∀ d,d+10≤bud d
 | 0=>aJ _
 | d+1=>by have:=bg_ d; simp only[bud]; omega
theorem gNo_:∀ (d:Nat) (c:la) (m:Nat),CurOk c m→m+bud d≤1000000000→∃ t c',(∀ n,d+1≤n→slC_3 n c (d:Int)=some (t,c'))∧SmT (ksz d) t∧CurOk c' (m+bud d):=by
 intro d
 induction d with
 | zero=>
  intro c m hc hm
  have hp0:bud 0=10:=rfl
  obtain⟨v,c',e1,e2,e3⟩:=oo_ [(⟨#[88]⟩:ByteArray),(⟨#[89]⟩:ByteArray),(⟨#[90]⟩:ByteArray),(⟨#[97]⟩:ByteArray),(⟨#[98]⟩:ByteArray),(⟨#[88]⟩:ByteArray),(⟨#[97]⟩:ByteArray)] (by simp) hc (by omega)
  have hv:v.size≤8:=by
   simp only[aU,List.not_mem_nil,or_false] at e2
   rcases e2 with rfl | rfl | rfl | rfl | rfl | rfl | rfl<;>decide
  refine⟨Tt.mk v [],c',fun n hn=>?_,sTm_ (k:=0) hv (by simp) (by simp) (by simp[ksz]),e3.mono (by omega)⟩
  cases n with
  | zero=>omega
  | succ n=>rw[slC_3,decide_eq_true (by omega),cond_true,e1]; rfl
 | succ d ih=>
  intro c m hc hm
  have hp:bud (d+1)=2*bud d+10:=rfl
  have hp1:=bg_ d
  have hk:=k1_ d
  have leaf:∀ (c:la) (m':Nat),CurOk c m'→m'+2≤m+bud (d+1)→∃ v c',slC_7 c [(⟨#[88]⟩:ByteArray),(⟨#[89]⟩:ByteArray),(⟨#[90]⟩:ByteArray),(⟨#[97]⟩:ByteArray),(⟨#[98]⟩:ByteArray),(⟨#[88]⟩:ByteArray),(⟨#[97]⟩:ByteArray)]=some (v,c')∧SmT (ksz (d+1)) (Tt.mk v [])∧CurOk c' (m+bud (d+1)):=by
   intro c m' hc hm'
   obtain⟨v,c',e1,e2,e3⟩:=oo_ [(⟨#[88]⟩:ByteArray),(⟨#[89]⟩:ByteArray),(⟨#[90]⟩:ByteArray),(⟨#[97]⟩:ByteArray),(⟨#[98]⟩:ByteArray),(⟨#[88]⟩:ByteArray),(⟨#[97]⟩:ByteArray)] (by simp) hc (by omega)
   have hv:v.size≤8:=by
    simp only[aU,List.not_mem_nil,or_false] at e2
    rcases e2 with rfl | rfl | rfl | rfl | rfl | rfl | rfl<;>decide
   exact⟨v,c',e1,sTm_ (k:=0) hv (by simp) (by simp) (by simp only[ksz]; omega),e3.mono (by omega)⟩
  by_cases hd:((d+1:Nat):Int)≤1
  ·obtain⟨v,c',e1,e2,e3⟩:=leaf c m hc (by omega)
   refine⟨_,c',fun n hn=>?_,e2,e3⟩
   cases n with
   | zero=>omega
   | succ n=>rw[slC_3,decide_eq_true hd,cond_true,e1]; rfl
  ·have hw:IntKind.i64.wrap (((d+1:Nat):Int)-(1:Int))=(d:Int):=by
    rw[w_ (by omega) (by omega)]; omega
   obtain⟨b,c1,q1,q2⟩:=oo_1 (3:Int) hc (by omega)
   cases b
   ·obtain⟨b2,c2,r1,r2⟩:=oo_1 (2:Int) q2 (by omega)
    obtain⟨t1,c3,s1,s2,s3⟩:=ih c2 (m+2+2) r2 (by omega)
    cases b2
    ·obtain⟨t2,c4,u1,u2,u3⟩:=ih c3 _ s3 (by omega)
     refine⟨Tt.mk (⟨#[103]⟩:ByteArray) [t1,t2],c4,fun n hn=>?_,sTm_ (k:=ksz d) (by decide) (by intro a ha; simp at ha; rcases ha with rfl | rfl<;>assumption) (by simp) (by simp only[ksz]; omega),u3.mono (by omega)⟩
     cases n with
     | zero=>omega
     | succ n=>
      rw[slC_3,decide_eq_false hd,cond_false,q1,ah,cond_false,r1,ah,cond_false,hw,s1 n (by omega),ah,u1 n (by omega)]; rfl
    ·refine⟨Tt.mk (⟨#[102]⟩:ByteArray) [t1],c3,fun n hn=>?_,sTm_ (k:=ksz d) (by decide) (by intro a ha; simp at ha; rcases ha with rfl; assumption) (by simp) (by simp only[ksz]; omega),s3.mono (by omega)⟩
     cases n with
     | zero=>omega
     | succ n=>
      rw[slC_3,decide_eq_false hd,cond_false,q1,ah,cond_false,r1,ah,cond_true,hw,s1 n (by omega)]; rfl
   ·obtain⟨v,c',e1,e2,e3⟩:=leaf c1 _ q2 (by omega)
    refine⟨_,c',fun n hn=>?_,e2,e3⟩
    cases n with
    | zero=>omega
    | succ n=>rw[slC_3,decide_eq_false hd,cond_false,q1,ah,cond_true,e1]; rfl
theorem km_{a b:Nat}(h:a≤b):ksz a≤ksz b:=by
 induction h with
 | refl=>exact aJ _
 | step _ ih=>simp only[ksz]; omega
theorem bm_1{a b:Nat}(h:a≤b):bud a≤bud b:=by
 induction h with
 | refl=>exact aJ _
 | step _ ih=>simp only[bud]; omega
theorem to_{c:la}{m:Nat}(h:CurOk c m)(hm:m+200≤1000000000):∃ t c',slC_8 c=some (t,c')∧SmT 9360 t∧CurOk c' (m+200):=by
 obtain⟨v,c1,e1,e2,e3,e4⟩:=po_ (3:Int) h (by omega)
 have e3:=e3 (by omega)
 obtain⟨d,rfl⟩:∃ d:Nat,v=d:=⟨v.toNat,by omega⟩
 have hb:bud (1+d)≤bud 3:=bm_1 (by omega)
 have hk:ksz (1+d)≤ksz 3:=km_ (by omega)
 have hb3:bud 3=150:=rfl
 have hk3:ksz 3=9360:=rfl
 obtain⟨t,c2,f1,f2,f3⟩:=gNo_ (1+d) c1 _ e4 (by omega)
 have hw:IntKind.i64.wrap ((1:Int)+(d:Int))=((1+d:Nat):Int):=by rw[w_ (by omega) (by omega)]; omega
 have hg:slC_14 c1 ((1+d:Nat):Int)=some (t,c2):=le_ ⟨_,f1⟩
 exact⟨t,c2,by unfold slC_8; rw[e1,ah,hw,hg]; rfl,f2.mono (by omega),f3.mono (by omega)⟩
theorem tl_:∀ (d:Nat) (x:ByteArray) (l:List Tt) (k:Nat),d≤100→x.size≤8→(∀ a∈l,SmT k a)→l.length≤1→∃ y l',Ev (fun n2=>whileN (ρ:=Tt×la) (fun (s2:Int×ByteArray×(List Tt))=>
 bif decide ((1:Int)<s2.1) then
  some (.nx (IntKind.i64.wrap (s2.1-(1:Int)),(⟨#[102]⟩:ByteArray),[(Tt.mk s2.2.1 s2.2.2)]))
 else
  some (.br s2)) n2 ((d:Int),x,l)) (.inr (((if d=0 then 0 else 1:Nat):Int),y,l'))∧y.size≤8∧l'.length≤1∧∀ a∈l',SmT (k+9*d) a:=by
 intro d
 induction d with
 | zero=>intro x l k _ hx hl hn; exact⟨x,l,eb_ rfl,hx,hn,fun a ha=>(hl a ha).mono (by omega)⟩
 | succ d ih=>
  intro x l k hd hx hl hn
  by_cases h1:d=0
  ·subst h1; exact⟨x,l,eb_ rfl,hx,hn,fun a ha=>(hl a ha).mono (by omega)⟩
  ·have hs:SmT (k+9) (Tt.mk x l):=by
    refine⟨.mk x l (by simp only[Big]; omega) (by simp only[Big]; omega) (fun a ha=>(hl a ha).1),?_⟩
    rw[Tt.tot_mk]
    cases l with
    | nil=>simp only[ltot,List.map_nil,List.sum_nil,aQ]; omega
    | cons a l=>
     cases l with
     | nil=>
      have:=(hl a (by simp)).2
      simp only[ltot,aD,List.map_nil,bp,List.sum_nil,aA,aQ]; omega
     | cons b l=>simp at hn
   obtain⟨y,l',e1,e2,e3,e4⟩:=ih (⟨#[102]⟩:ByteArray) [Tt.mk x l] (k+9) (by omega) (by decide) (by intro a ha; simp at ha; rw[ha]; exact hs) (by simp)
   rw[if_neg h1] at e1
   refine⟨y,l',?_,e2,e3,fun a ha=>(e4 a ha).mono (by omega)⟩
   rw[if_neg (by omega)]
   refine en_ ?_ e1
   show(bif decide ((1:Int)<((d+1:Nat):Int)) then _ else _)=_
   rw[decide_eq_true (by omega),cond_true,show IntKind.i64.wrap (((d+1:Nat):Int)-(1:Int))=(d:Int) by rw[w_ (by omega) (by omega)]; omega]
theorem to_1{c:la}{m d:Nat}(h:CurOk c m)(hm:m+2≤1000000000)(hd:d≤100):∃ t c',slC_9 c (d:Int)=some (t,c')∧SmT 9360 t∧CurOk c' (m+2):=by
 obtain⟨v,c',e1,e2,e3⟩:=oo_ [(⟨#[88]⟩:ByteArray),(⟨#[97]⟩:ByteArray)] (by simp) h (by omega)
 have hv:v.size≤8:=by
  simp only[aU,List.not_mem_nil,or_false] at e2
  rcases e2 with rfl | rfl<;>decide
 obtain⟨y,l',f1,f2,f3,f4⟩:=tl_ d v [] 0 hd hv (by simp) (by simp)
 refine⟨Tt.mk y l',c',?_,sTm_ (k:=900) f2 (fun a ha=>(f4 a ha).mono (by omega)) (by omega) (by omega),e3⟩
 unfold slC_9
 rw[e1,ah]
 refine(congrArg (fun z=>thenL z _) (le_ f1)).trans ?_
 rw[tLi_]
def lH_:Tt:=Tt.mk (⟨#[104]⟩:ByteArray) (List.replicate 4 (Tt.mk (⟨#[102]⟩:ByteArray) ([(Tt.mk (⟨#[97]⟩:ByteArray) ([]))])))
theorem lHo_:SmT 1000 lH_:=by
 refine sTm_ (k:=100) (by decide) (fun a ha=>?_) (by simp) (by omega)
 rw[List.eq_of_mem_replicate ha]
 exact sTm_ (k:=8) (by decide) (fun b hb=>by
  simp at hb; subst hb
  exact⟨.mk _ _ (by simp only[Big]; decide) (by simp[Big]) (by simp),by rw[Tt.tot_mk]; decide⟩) (by simp) (by omega)
theorem wl_:forN (ρ:=Tt×la) (fun (i3:Nat) (s3:(List Tt))=>
 thenL (ρ:=(Flow (Tt×la) (List Tt))) (σ:=(List Tt)) (forN (fun (i7:Nat) (s7:(List Tt))=>
  aa (app s7 ([(Tt.mk (⟨#[102]⟩:ByteArray) ([(Tt.mk (⟨#[97]⟩:ByteArray) ([]))]))])) fun v23=>
  some (.nx v23)) 4 0 ([])) fun s7=>
 aa (app s3 ([(Tt.mk (⟨#[104]⟩:ByteArray) s7)])) fun v29=>
 some (.nx v29)) 4 0 ([])=some (.inr (List.replicate 4 lH_)):=by
 simp[forN,app,thenL,lH_,List.replicate]
end
section
theorem tLe_{ρ σ:Type}{m:Option (ρ ⊕ σ)}{s:σ}{k:σ→Option ρ}(h:m=some (.inr s)):thenL m k=k s:=by rw[h]; rfl
theorem sTr_{k:Nat}{x:ByteArray}{t:Tt}(h:SmT k t)(hx:x.size≤8)(hk:k≤1000000):SmT (k+8) (Tt.mk x t.Args):=by
 obtain⟨h1,h2⟩:=h
 have h3:=h1.u
 have h4:=Tt.tot_u t
 refine⟨.mk _ _ (by simp only[Big]; omega) h3.2.1 h3.2.2,?_⟩
 rw[Tt.tot_mk]; omega
theorem sTa_{k:Nat}{t:Tt}(h:SmT k t):∀ a∈t.Args,SmT k a:=by
 intro a ha
 obtain⟨h1,h2⟩:=h
 have h3:=h1.u
 refine⟨h3.2.2 a ha,?_⟩
 have h4:=Tt.tot_u t
 have:a.tot≤(t.Args.map bg).sum:=lsm_ bg ha
 unfold ltot at h4; omega
theorem wo_1{c:la}{m:Nat}(h:CurOk c m)(hm:m+4≤1000000000):∃ t c',slC_22 c=some (t,c')∧SmT 10000 t∧CurOk c' (m+4):=by
 unfold slC_22
 refine(fun {P:Option (Tt×la)→Prop} (H:P _)=>(congrArg (fun z=>P (thenL z _)) wl_).mpr H) (P:=fun z=>∃ t c',z=some (t,c')∧SmT 10000 t∧CurOk c' (m+4)) ?_
 rw[tLi_]
 obtain⟨b,c1,e1,h1⟩:=oo_1 2 h (by omega)
 obtain⟨b2,c2,e2,h2⟩:=oo_1 2 h1 (by omega)
 have hr:∀ n,n≤4→SmT 10000 (Tt.mk (⟨#[103]⟩:ByteArray) (List.replicate n lH_)):=fun n hn=>
  sTm_ (k:=1000) (by decide) (fun a ha=>by rw[List.eq_of_mem_replicate ha]; exact lHo_) (by simp; omega) (by omega)
 have hb:SmT 10000 (Tt.mk (⟨#[103]⟩:ByteArray) (List.replicate 3 lH_++[Tt.mk (⟨#[102]⟩:ByteArray) [Tt.mk (⟨#[98]⟩:ByteArray) []]])):=by
  refine sTm_ (k:=1000) (by decide) (fun a ha=>?_) (by simp) (by omega)
  rcases List.mem_append.1 ha with ha | ha
  ·rw[List.eq_of_mem_replicate ha]; exact lHo_
  ·rw[List.mem_singleton.1 ha]
   exact sTm_ (k:=8) (by decide) (fun b hb=>by
    simp at hb; subst hb
    exact⟨.mk _ _ (by simp only[Big]; decide) (by simp[Big]) (by simp),by rw[Tt.tot_mk]; decide⟩) (by simp) (by omega)
 rw[e1,ah]
 cases b
 ·rw[cond_false,e2,ah]
  cases b2
  ·exact⟨_,_,rfl,hr 4 (by omega),h2.mono (by omega)⟩
  ·exact⟨_,_,rfl,hr 4 (by omega),h2.mono (by omega)⟩
 ·rw[cond_true,show slc (List.replicate 4 lH_) 0 3=some (List.replicate 3 lH_) from rfl,ah,e2,ah]
  cases b2
  ·exact⟨_,_,rfl,hr 3 (by omega),h2.mono (by omega)⟩
  ·exact⟨_,_,rfl,hb,h2.mono (by omega)⟩
theorem aTo_1{c:la}{m:Nat}(h:CurOk c m)(hm:m+1000≤1000000000):∃ t c',slC_17 c=some (t,c')∧SmT 50000 t∧CurOk c' (m+1000):=by
 unfold slC_17
 obtain⟨t,c1,e1,ht,h1⟩:=to_ h (by omega)
 obtain⟨v,c2,e2,_,_,h2⟩:=po_ 24 h1 (by omega)
 rw[e1,ah,e2,ah]
 by_cases q:v=0
 ·obtain⟨w,c3,e3,hw,h3⟩:=oo_ [(⟨#[]⟩:ByteArray),(⟨#[116,114,117,101]⟩:ByteArray),(⟨#[116,114,117,116,104]⟩:ByteArray),(⟨#[105,102]⟩:ByteArray),(⟨#[88,121,122,57]⟩:ByteArray),(⟨#[88,121,122,57,57]⟩:ByteArray),(⟨#[120,65]⟩:ByteArray),(⟨#[97,95,98]⟩:ByteArray),(⟨#[97,98,99,100,101,102]⟩:ByteArray),(⟨#[97,98,99,100,101,102,103]⟩:ByteArray),(⟨#[95,97]⟩:ByteArray),(⟨#[57]⟩:ByteArray),(⟨#[88,95]⟩:ByteArray),(⟨#[61]⟩:ByteArray)] (by simp) h2 (by omega)
  have hws:w.size≤8:=by
   simp only[aU,List.not_mem_nil,or_false] at hw
   rcases hw with rfl | rfl | rfl | rfl | rfl | rfl | rfl | rfl | rfl | rfl | rfl | rfl | rfl | rfl<;>decide
  rw[decide_eq_true q,cond_true,e3,ah]
  exact⟨_,_,rfl,(sTr_ ht hws (by omega)).mono (by omega),h3.mono (by omega)⟩
 rw[decide_eq_false q,cond_false]
 by_cases q:v=1
 ·obtain⟨w,c3,e3,hw0,hw1,h3⟩:=po_ 3 h2 (by omega)
  have hw1:=hw1 (by omega)
  obtain⟨d,rfl⟩:∃ d:Nat,w=d:=⟨w.toNat,by omega⟩
  have hw:IntKind.i64.wrap ((7:Int)+(d:Int))=((7+d:Nat):Int):=by rw[w_ (by omega) (by omega)]; omega
  obtain⟨y,c4,e4,hy,h4⟩:=to_1 (d:=7+d) h3 (by omega) (by omega)
  rw[decide_eq_true q,cond_true,e3,ah,hw,e4,ah]
  exact⟨_,_,rfl,hy.mono (by omega),h4.mono (by omega)⟩
 rw[decide_eq_false q,cond_false]
 by_cases q:v=2
 ·obtain⟨y,c4,e4,hy,h4⟩:=wo_1 h2 (by omega)
  rw[decide_eq_true q,cond_true,e4,ah]
  exact⟨_,_,rfl,hy.mono (by omega),h4.mono (by omega)⟩
 rw[decide_eq_false q,cond_false]
 by_cases q:v=3
 ·obtain⟨a,c3,e3,ha,h3⟩:=to_ h2 (by omega)
  obtain⟨b,c4,e4,hb,h4⟩:=to_ h3 (by omega)
  obtain⟨d,c5,e5,hd,h5⟩:=to_ h4 (by omega)
  have h6:=ht.1.u
  have h7:=Tt.tot_u t
  have h8:=ht.2
  have hl:t.Args.length≤ltot bg t.Args:=by unfold ltot; omega
  rw[decide_eq_true q,cond_true,e3,ah,e4,ah,e5,ah,show app t.Args [a,b,d]=some (t.Args++[a,b,d]) by unfold app; rw[if_pos (by simp; omega)],ah]
  refine⟨_,_,rfl,⟨.mk _ _ h6.1 (by simp[Big]; omega) (fun x hx=>?_),?_⟩,h5.mono (by omega)⟩
  ·rcases List.mem_append.1 hx with hx | hx
   ·exact h6.2.2 x hx
   ·simp at hx; rcases hx with rfl | rfl | rfl
    ·exact ha.1
    ·exact hb.1
    ·exact hd.1
  ·rw[Tt.tot_mk]
   have:=ha.2; have:=hb.2; have:=hd.2
   simp only[ltot,aP,List.map_append,List.sum_append,aD,List.map_nil,bp,List.sum_nil,aA,aQ] at h7 ⊢
   omega
 rw[decide_eq_false q,cond_false]
 by_cases q:v=4
 ·rw[decide_eq_true q,cond_true]
  by_cases hl:(0:Int)<(t.Args.length:Int)
  ·obtain⟨w,c3,e3,hw,h3⟩:=oo_ [(⟨#[61]⟩:ByteArray),(⟨#[]⟩:ByteArray),(⟨#[81,49]⟩:ByteArray),(⟨#[98,50]⟩:ByteArray)] (by simp) h2 (by omega)
   have hws:w.size≤8:=by
    simp only[aU,List.not_mem_nil,or_false] at hw
    rcases hw with rfl | rfl | rfl | rfl<;>decide
   rw[decide_eq_true hl,cond_true,e3,ah]
   cases hA:t.Args with
   | nil=>rw[hA] at hl; simp at hl
   | cons a l=>
    have hs:=sTr_ (sTa_ ht a (by rw[hA]; simp)) hws (by omega)
    have h6:=ht.1.u
    have h7:=Tt.tot_u t
    have h8:=ht.2
    rw[hA] at h6 h7
    rw[show idx (a::l) (0:Int)=some a from rfl,ah]
    refine⟨_,_,rfl,⟨.mk _ _ h6.1 (by simpa[LOk] using h6.2.1) (fun x hx=>?_),?_⟩,h3.mono (by omega)⟩
    ·have hx:x=Tt.mk w a.Args∨x∈l:=by simpa using hx
     rcases hx with rfl | hx
     ·exact hs.1
     ·exact h6.2.2 x (by simp[hx])
    ·rw[Tt.tot_mk]
     have:=hs.2
     show _+ltot bg (Tt.mk w a.Args::l)≤_
     simp only[ltot,aD,bp,aA] at h7 ⊢
     omega
  ·rw[decide_eq_false hl,cond_false]
   exact⟨_,_,rfl,ht.mono (by omega),h2.mono (by omega)⟩
 ·rw[decide_eq_false q,cond_false]
  exact⟨_,_,rfl,ht.mono (by omega),h2.mono (by omega)⟩
end
section
theorem ss_1(c:Int):∃ b,slS_3 c=some b:=by
 unfold slS_3
 cases decide ((97:Int)≤c)<;>cases decide (c≤(122:Int))<;>cases decide ((48:Int)≤c)<;>exact⟨_,rfl⟩
theorem ws_2(c:Int):∃ b,slW_ c=some b:=by
 obtain⟨b,e⟩:=ss_1 c
 unfold slW_
 rw[e,ah]
 cases b<;>cases decide ((65:Int)≤c)<;>cases decide (c≤(90:Int))<;>exact⟨_,rfl⟩
theorem so_2(s:ByteArray)(hb:s.size≤4000){ρ:Type}:∀ k i:Nat,i+k=s.size→∃ j:Nat,i≤j∧j≤s.size∧Ev (fun n2=>whileN (ρ:=ρ) (fun (s2:Int)=>
 bif decide (s2<(s.size:Int)) then
  aa (sidx s s2) fun v18=>
  aa (slW_ v18) fun v19=>
  bif v19 then
   some (.nx (IntKind.i64.wrap (s2+(1:Int))))
  else
   some (.br s2)
 else
  some (.br s2)) n2 (i:Int)) (.inr (j:Int))
 | 0,i,h=>⟨i,aJ _,by omega,eb_ (by rw[decide_eq_false (by omega)]; rfl)⟩
 | k+1,i,h=>by
  obtain⟨b,e⟩:=ws_2 (byt s i)
  have hi:sidx s (i:Int)=some (byt s i):=sn_ (by omega)
  cases b
  ·exact⟨i,aJ _,by omega,eb_ (by rw[decide_eq_true (by omega),cond_true,hi,ah,e]; rfl)⟩
  ·obtain⟨j,h1,h2,h3⟩:=so_2 s hb k (i+1) (by omega)
   exact⟨j,by omega,h2,en_ (by rw[decide_eq_true (by omega),cond_true,hi,ah,e,ah,cond_true,ws_1 (by omega)]) h3⟩
def RdOk(s:ByteArray)(i:Nat)(r:Tt×Int):Prop:=r.2=-1∨∃ e:Nat,r.2=(e:Int)∧i<e∧e≤s.size∧r.1.Ok∧r.1.tot≤2*(e-i)
theorem ao_(s:ByteArray)(hb:s.size≤4000)(i:Nat)(nm:ByteArray)(R:Nat→Tt×Int)(hR:∀ x,i<x→x≤s.size→RdOk s x (R x)):∀ (k q:Nat) (args:List Tt),q+k=s.size→i<q→q<s.size→nm.size+ltot bg args≤2*(q-i)→(∀ a∈args,a.Ok)→
 ∃ r:Tt×Int,RdOk s i r∧∀ f:Int→Option (Tt×Int),(∀ x:Nat,i<x→x≤s.size→f (x:Int)=some (R x))→Ev (fun n9=>whileN (fun (s9:Int×(List Tt))=>
  aa (f (IntKind.i64.wrap (s9.1+(1:Int)))) fun v48=>
  bif decide (v48.2<(0:Int)) then
   some (.rt ((Tt.mk nm s9.2),(-1:Int)))
  else
   bif decide (v48.2=(s.size:Int)) then
    some (.rt ((Tt.mk nm s9.2),(-1:Int)))
   else
    aa (sidx s v48.2) fun v62=>
    bif decide (v62=(44:Int)) then
     aa (app s9.2 ([v48.1])) fun v76=>
     aa (sidx s v48.2) fun v81=>
     bif decide (v81=(41:Int)) then
      some (.rt ((Tt.mk nm v76),IntKind.i64.wrap (v48.2+(1:Int))))
     else
      some (.nx (v48.2,v76))
    else
     aa (sidx s v48.2) fun v67=>
     bif decide (v67=(41:Int)) then
      aa (app s9.2 ([v48.1])) fun v76=>
      aa (sidx s v48.2) fun v81=>
      bif decide (v81=(41:Int)) then
       some (.rt ((Tt.mk nm v76),IntKind.i64.wrap (v48.2+(1:Int))))
      else
       some (.nx (v48.2,v76))
     else
      some (.rt ((Tt.mk nm s9.2),(-1:Int)))) n9 ((q:Int),args)) (.inl r)
 | k,q,args,hk,hq,hqs,ht,ho=>by
  have h:=hR (q+1) (by omega) (by omega)
  have hfx:∀ f:Int→Option (Tt×Int),(∀ x:Nat,i<x→x≤s.size→f (x:Int)=some (R x))→f (IntKind.i64.wrap ((q:Int)+1))=some (R (q+1)):=fun f hf=>by
   rw[ws_1 (by omega)]; exact hf (q+1) (by omega) (by omega)
  have len:=ll_ bg args
  rcases h with h | ⟨e,h1,h2,h3,h4,h5⟩
  ·exact⟨(Tt.mk nm args,-1),.inl rfl,fun f hf=>er_ (by
    show aa (f (IntKind.i64.wrap ((q:Int)+1))) _=_
    rw[hfx f hf,ah,h,decide_eq_true (by omega)]; rfl)⟩
  ·by_cases g:e=s.size
   ·exact⟨(Tt.mk nm args,-1),.inl rfl,fun f hf=>er_ (by
     show aa (f (IntKind.i64.wrap ((q:Int)+1))) _=_
     rw[hfx f hf,ah,h1,decide_eq_false (by omega),cond_false,decide_eq_true (by omega)]; rfl)⟩
   ·have hi:sidx s (e:Int)=some (byt s e):=sn_ (by omega)
    have ha:app args [(R (q+1)).1]=some (args++[(R (q+1)).1]):=by unfold app; rw[if_pos (by simp; omega)]
    have ht2:nm.size+ltot bg (args++[(R (q+1)).1])≤2*(e-i):=by
     simp only[ltot,aP,List.map_append,List.sum_append,aA,aQ,aD,List.map_nil,bp,List.sum_nil] at ht ⊢
     omega
    have ho2:∀ a∈args++[(R (q+1)).1],a.Ok:=fun a ha=>by
     rcases List.mem_append.1 ha with ha | ha
     ·exact ho a ha
     ·rw[List.mem_singleton.1 ha]; exact h4
    have len2:=ll_ bg (args++[(R (q+1)).1])
    by_cases c2:byt s e=41
    ·refine⟨(Tt.mk nm (args++[(R (q+1)).1]),((e+1:Nat):Int)),.inr ⟨e+1,rfl,by omega,by omega,Tt.Ok.mk _ _ (by simp only[Big]; omega) (by simp only[Big]; omega) ho2,?_⟩,fun f hf=>er_ ?_⟩
     ·rw[Tt.tot_mk]; omega
     ·show aa (f (IntKind.i64.wrap ((q:Int)+1))) _=_
      rw[hfx f hf,ah,h1,decide_eq_false (by omega),cond_false,decide_eq_false (by omega),cond_false,hi]
      simp only[ah]
      rw[ha,ah,c2,decide_eq_true rfl,decide_eq_false (by decide),cond_false,cond_true,ws_1 (by omega)]; rfl
    ·by_cases c1:byt s e=44
     ·obtain⟨r,r1,r2⟩:=ao_ s hb i nm R hR (s.size-e) e (args++[(R (q+1)).1]) (by omega) (by omega) (by omega) ht2 ho2
      refine⟨r,r1,fun f hf=>en_ ?_ (r2 f hf)⟩
      show aa (f (IntKind.i64.wrap ((q:Int)+1))) _=_
      rw[hfx f hf,ah,h1,decide_eq_false (by omega),cond_false,decide_eq_false (by omega),cond_false,hi]
      simp only[ah]
      rw[ha,ah,c1,decide_eq_true rfl,decide_eq_false (by decide)]; rfl
     ·exact⟨(Tt.mk nm args,-1),.inl rfl,fun f hf=>er_ (by
       show aa (f (IntKind.i64.wrap ((q:Int)+1))) _=_
       rw[hfx f hf,ah,h1,decide_eq_false (by omega),cond_false,decide_eq_false (by omega),cond_false,hi]
       simp only[ah]
       rw[decide_eq_false c1,decide_eq_false c2]; rfl)⟩
termination_by k=>k
decreasing_by omega
theorem ro_1(s:ByteArray)(hb:s.size≤4000):∀ (d i:Nat),i≤s.size→s.size-i≤d→∃ r,(∀ n,d+1≤n→slR_1 n s (i:Int)=some r)∧RdOk s i r
 | d,i,hi,hd=>by
  obtain⟨j,j1,j2,j3⟩:=so_2 s hb (ρ:=Tt×Int) (s.size-i) i (by omega)
  have hs:sslc s (i:Int) (j:Int)=some (s.extract i j):=by unfold sslc; rw[if_pos (by omega)]; rfl
  have hz:(s.extract i j).size=j-i:=by rw[ByteArray.size_extract]; omega
  have start:∀ (n:Nat) (r:Option (Tt×Int)),(aa (some (s.extract i j)) fun v26=>
  bif decide ((j:Int)=(i:Int)) then
   some ((Tt.mk v26 ([])),(-1:Int))
  else
   bif decide ((j:Int)=(s.size:Int)) then
    some ((Tt.mk v26 ([])),(j:Int))
   else
    aa (sidx s (j:Int)) fun v39=>
    bif decide (v39=(40:Int)) then
     thenL (ρ:=(Tt×Int)) (σ:=Int×(List Tt)) (lim fun n9=>whileN (fun (s9:Int×(List Tt))=>
      aa (slR_1 n s (IntKind.i64.wrap (s9.1+(1:Int)))) fun v48=>
      bif decide (v48.2<(0:Int)) then
       some (.rt ((Tt.mk v26 s9.2),(-1:Int)))
      else
       bif decide (v48.2=(s.size:Int)) then
        some (.rt ((Tt.mk v26 s9.2),(-1:Int)))
       else
        aa (sidx s v48.2) fun v62=>
        bif decide (v62=(44:Int)) then
         aa (app s9.2 ([v48.1])) fun v76=>
         aa (sidx s v48.2) fun v81=>
         bif decide (v81=(41:Int)) then
          some (.rt ((Tt.mk v26 v76),IntKind.i64.wrap (v48.2+(1:Int))))
         else
          some (.nx (v48.2,v76))
        else
         aa (sidx s v48.2) fun v67=>
         bif decide (v67=(41:Int)) then
          aa (app s9.2 ([v48.1])) fun v76=>
          aa (sidx s v48.2) fun v81=>
          bif decide (v81=(41:Int)) then
           some (.rt ((Tt.mk v26 v76),IntKind.i64.wrap (v48.2+(1:Int))))
          else
           some (.nx (v48.2,v76))
         else
          some (.rt ((Tt.mk v26 s9.2),(-1:Int)))) n9 ((j:Int),[])) fun s9=>
     none
    else
     some ((Tt.mk v26 ([])),(j:Int)))=r→slR_1 (n+1) s (i:Int)=r:=fun n r e=>by
   rw[slR_1]
   refine(congrArg (fun z=>thenL z _) (le_ j3)).trans ?_
   rw[tLi_,hs]
   exact e
  have leaf:∀ e:Nat,i<e→j=e→RdOk s i (Tt.mk (s.extract i j) [],(j:Int)):=fun e h1 h2=>.inr ⟨j,rfl,by omega,j2,Tt.Ok.mk _ _ (by show(s.extract i j).size≤_; rw[hz]; omega) (Nat.zero_le _) (fun a ha=>nomatch ha),by rw[Tt.tot_mk,hz]; simp[ltot]; omega⟩
  by_cases g1:j=i
  ·refine⟨(Tt.mk (s.extract i j) [],-1),fun n hn=>?_,.inl rfl⟩
   obtain⟨n,rfl⟩:∃ m,n=m+1:=⟨n-1,by omega⟩
   exact start n _ (by rw[ah,decide_eq_true (by omega)]; rfl)
  by_cases g2:j=s.size
  ·refine⟨(Tt.mk (s.extract i j) [],(j:Int)),fun n hn=>?_,leaf j (by omega) rfl⟩
   obtain⟨n,rfl⟩:∃ m,n=m+1:=⟨n-1,by omega⟩
   exact start n _ (by rw[ah,decide_eq_false (by omega),cond_false,decide_eq_true (by omega)]; rfl)
  have hc:sidx s (j:Int)=some (byt s j):=sn_ (by omega)
  by_cases g3:byt s j=40
  ·cases d with
   | zero=>omega
   | succ d=>
    have ih:∀ x:Nat,∃ r,i<x→x≤s.size→(∀ n,d+1≤n→slR_1 n s (x:Int)=some r)∧RdOk s x r:=fun x=>by
     by_cases hx:i<x∧x≤s.size
     ·obtain⟨r,r1,r2⟩:=ro_1 s hb d x hx.2 (by omega)
      exact⟨r,fun _ _=>⟨r1,r2⟩⟩
     ·exact⟨default,fun h1 h2=>absurd ⟨h1,h2⟩ hx⟩
    obtain⟨R,hR⟩:=Classical.skolem.1 ih
    obtain⟨r,r1,r2⟩:=ao_ s hb i (s.extract i j) R (fun x h1 h2=>(hR x h1 h2).2) (s.size-j) j [] (by omega) (by omega) (by omega) (by rw[hz]; simp[ltot]; omega) (fun a ha=>nomatch ha)
    refine⟨r,fun n hn=>?_,r1⟩
    obtain⟨n,rfl⟩:∃ m,n=m+1:=⟨n-1,by omega⟩
    refine start n _ ?_
    rw[ah,decide_eq_false (by omega),cond_false,decide_eq_false (by omega),cond_false,hc,ah,decide_eq_true g3,cond_true]
    refine(congrArg (fun z=>thenL z _) (le_ (r2 (slR_1 n s) (fun x h1 h2=>(hR x h1 h2).1 n (by omega))))).trans rfl
  ·refine⟨(Tt.mk (s.extract i j) [],(j:Int)),fun n hn=>?_,leaf j (by omega) rfl⟩
   obtain⟨n,rfl⟩:∃ m,n=m+1:=⟨n-1,by omega⟩
   exact start n _ (by rw[ah,decide_eq_false (by omega),cond_false,decide_eq_false (by omega),cond_false,hc,ah,decide_eq_false g3]; rfl)
end
section
theorem zeroT_SmT:SmT 0 (Tt.mk (⟨#[]⟩:ByteArray) []):=⟨Tt.Ok.mk _ _ (Nat.zero_le _) (Nat.zero_le _) (fun a ha=>nomatch ha),by rw[Tt.tot_mk]; exact aJ _⟩
theorem po_1(s:ByteArray)(hs:s.size≤100):∃ t b,sPT_ s=some (t,b)∧SmT 200 t:=by
 obtain⟨r,h1,h2⟩:=ro_1 s (by omega) s.size 0 (Nat.zero_le _) (by omega)
 have hr:slR_3 s 0=some r:=le_ ⟨s.size+1,fun n hn=>h1 n hn⟩
 unfold sPT_ slW_1
 rw[decide_eq_false (by omega),cond_false,hr,ah]
 by_cases g:r.2=(s.size:Int)
 ·rw[decide_eq_true g,cond_true]
  rcases h2 with h2 | ⟨e,h2,h3,h4,h5,h6⟩
  ·omega
  ·have h7:r.1.tot≤200:=by omega
   rw[lGo_ _ (by omega) h5,ah]
   cases gT_ r.1
   ·exact⟨_,_,rfl,zeroT_SmT.mono (by omega)⟩
   ·exact⟨_,_,rfl,h5,h7⟩
 ·rw[decide_eq_false g]; exact⟨_,_,rfl,zeroT_SmT.mono (by omega)⟩
theorem to_5{c:la}{m:Nat}(l:List ByteArray)(hl:l≠[])(hs:∀ s∈l,s.size≤100)(h:CurOk c m)(hm:m+2≤1000000000):∃ t c',slT_2 c l=some (t,c')∧SmT 200 t∧CurOk c' (m+2):=by
 obtain⟨v,c1,h1,h2,h3⟩:=oo_ l hl h hm
 obtain⟨t,b,h4,h5⟩:=po_1 v (hs v h2)
 unfold slT_2
 rw[h1,ah,h4]
 exact⟨t,c1,rfl,h5,h3⟩
end
section
def e_2(e:vt)(v:ByteArray)(x:Nat):vt:=vt.mk (e.names++[v]) (e.values++[(x:Int)])
mutual
def Ft.tv(H:vt→Tt→Bool)(n:Nat):Ft→vt→Bool
 | .mk o t v l,e=>if o=1 then true else if o=2 then false else if o=3 then H e t else if o=4 then !((Ft_ H n l).getD 0 (fun _=>false) e)
  else if o=5 then(Ft_ H n l).getD 0 (fun _=>false) e&&(Ft_ H n l).getD 1 (fun _=>false) e
  else if o=6 then(Ft_ H n l).getD 0 (fun _=>false) e||(Ft_ H n l).getD 1 (fun _=>false) e
  else if o=7 then !(Ft_ H n l).getD 0 (fun _=>false) e||(Ft_ H n l).getD 1 (fun _=>false) e
  else if o=9 then(List.range n).any (fun x=>(Ft_ H n l).getD 0 (fun _=>false) (e_2 e v x))
  else(List.range n).all (fun x=>(Ft_ H n l).getD 0 (fun _=>false) (e_2 e v x))
def Ft_(H:vt→Tt→Bool)(n:Nat):List Ft→List (vt→Bool)
 | []=>[]
 | a::l=>a.tv H n::Ft_ H n l
end
section
variable(H:vt→Tt→Bool)(n:Nat)(e:vt)
theorem tc_:(fC 1).tv H n e=true:=by simp[Ft.tv]
theorem tc_1:(fC 2).tv H n e=false:=by simp[Ft.tv]
theorem tv_a(t:Tt):(Ft.mk 3 t es []).tv H n e=H e t:=by simp[Ft.tv]
theorem tv_n(p:Ft):(fN p).tv H n e=!p.tv H n e:=by simp[Ft.tv,Ft_]
theorem tb_(p q:Ft):(fB 5 p q).tv H n e=(p.tv H n e&&q.tv H n e):=by simp[Ft.tv,Ft_]
theorem tb_2(p q:Ft):(fB 6 p q).tv H n e=(p.tv H n e||q.tv H n e):=by simp[Ft.tv,Ft_]
theorem tb_1(p q:Ft):(fB 7 p q).tv H n e=(!p.tv H n e||q.tv H n e):=by simp[Ft.tv,Ft_]
theorem tq_(v:ByteArray)(p:Ft):(fQ 8 v p).tv H n e=(List.range n).all (fun x=>p.tv H n (e_2 e v x)):=by simp[Ft.tv,Ft_]
theorem tq_1(v:ByteArray)(p:Ft):(fQ 9 v p).tv H n e=(List.range n).any (fun x=>p.tv H n (e_2 e v x)):=by simp[Ft.tv,Ft_]
end
structure EOk(n:Nat)(e:vt):Prop where
 len:e.names.length=e.values.length
 vs:∀ v∈e.values,0≤v∧v<n
theorem EOk.with{n:Nat}{e:vt}(h:EOk n e)(v:ByteArray){x:Nat}(hx:x<n):EOk n (e_2 e v x):=by
 refine⟨by simp[e_2,h.len],fun y hy=>?_⟩
 simp only[e_2] at hy
 rcases List.mem_append.1 hy with hy | hy
 ·exact h.vs y hy
 ·rw[List.mem_singleton.1 hy]; omega
theorem wo_{e:vt}{n:Nat}(h:EOk n e)(hl:e.names.length≤1000000)(v:ByteArray)(x:Nat):vEw_ e v (x:Int)=some (e_2 e v x):=by
 have h2:=h.len
 unfold vEw_ app
 rw[if_pos (by simp; omega),ah,bh,if_pos (by simp; omega),ah,if_pos (by simp; omega),ah,bh,if_pos (by simp; omega),ah]
 rfl
theorem vTe_{c:List Int}{n:Nat}(hn:n≤1000){H:vt→Tt→Bool}(hH:∀ e,EOk n e→e.names.length≤1000000→∀ t:Tt,t.Ok→t.tot≤4194304→vH_ c (n:Int) e t=some (H e t))(f:Ft):
 f.good=true→f.Ok→f.tot≤4194304→∀ e,EOk n e→e.names.length+f.cnt≤1000000→∀ m,2*ap f≤m→vTN_ m c (n:Int) e f=some (f.tv H n e):=by
 refine bk (M:=fun f=>f.good=true→f.Ok→f.tot≤4194304→∀ e,EOk n e→e.names.length+f.cnt≤1000000→∀ m,2*ap f≤m→vTN_ m c (n:Int) e f=some (f.tv H n e)) (fun f ih hg hok ht e he hl m hm=>?_) f
 have hp:=f.pos
 obtain⟨m,rfl⟩:∃ k,m=k+1:=⟨m-1,by omega⟩
 have part:∀ p∈f.Parts,p.Ok∧p.tot≤4194304∧2*ap p≤m:=fun p hp=>by
  have:=Ft.lt hp
  have:=Ftp_ hp
  exact⟨hok.u.2.2.2.2 p hp,by omega,by omega⟩
 rcases gc_ hg with⟨o,ho,rfl⟩ | ⟨t,rfl,_⟩ | ⟨p,rfl,gp⟩ | ⟨o,p,q,ho,rfl,gp,gq⟩ | ⟨o,v,p,ho,rfl,hv,gp⟩
 ·rcases ho with rfl | rfl
  ·rw[tc_]; rfl
  ·rw[tc_1]; rfl
 ·rw[tv_a,vTN_]
  have h1:=hok.u.2.1
  have h2:=Ft.tot_atom (Ft.mk 3 t es [])
  simp only[FAm_] at h1 h2
  show aa (vH_ c n e t) _=_
  rw[hH e he (by omega) t h1 (by omega)]; rfl
 ·obtain⟨o1,o2,o3⟩:=part p (by simp[FPm_])
  rw[cfN_] at hl
  have h1:=ih p (by simp[FPm_]) gp o1 o2 e he (by omega) m o3
  rw[tv_n,vTN_]
  show aa (vTN_ m c n e p) _=_
  rw[h1]; rfl
 ·obtain⟨o1,o2,o3⟩:=part p (by simp[FPm_])
  obtain⟨u1,u2,u3⟩:=part q (by simp[FPm_])
  rw[cfB_] at hl
  have h1:=ih p (by simp[FPm_]) gp o1 o2 e he (by omega) m o3
  have h2:=ih q (by simp[FPm_]) gq u1 u2 e he (by omega) m u3
  rcases ho with rfl | rfl | rfl
  ·rw[tb_,vTN_]
   show aa (vTN_ m c n e p) _=_
   rw[h1,ah]
   cases p.tv H n e
   ·rfl
   ·show aa (vTN_ m c n e q) _=_
    rw[h2]; rfl
  ·rw[tb_2,vTN_]
   show aa (vTN_ m c n e p) _=_
   rw[h1,ah]
   cases p.tv H n e
   ·show aa (vTN_ m c n e q) _=_
    rw[h2]; rfl
   ·rfl
  ·rw[tb_1,vTN_]
   show aa (vTN_ m c n e p) _=_
   rw[h1,ah]
   cases p.tv H n e
   ·rfl
   ·show aa (vTN_ m c n e q) _=_
    rw[h2]; rfl
 ·obtain⟨o1,o2,o3⟩:=part p (by simp[FPm_])
  rw[cfQ_] at hl
  have h1:∀ x,x<n→vTN_ m c n (e_2 e v x) p=some (p.tv H n (e_2 e v x)):=fun x hx=>
   ih p (by simp[FPm_]) gp o1 o2 _ (he.with v hx) (by simp only[e_2,aP,List.length_singleton]; omega) m o3
  have hw:=wo_ he (by omega) v
  rcases ho with rfl | rfl
  ·rw[tq_,vTN_]
   show aa (bnd (n:Int)) _=_
   rw[bn_ (by unfold Big; omega),ah]
   rw[fNa_ (fun x=>p.tv H n (e_2 e v x)) (r0:=false) (fun j hj _=>by
    show aa (vEw_ e v (j:Int)) _=_
    rw[hw,ah]
    show aa (vTN_ m c n (e_2 e v j) p) _=_
    rw[h1 j hj,ah]
    cases p.tv H n (e_2 e v j)<;>rfl)]
   cases (List.range n).all fun x=>p.tv H n (e_2 e v x)<;>rfl
  ·rw[tq_1,vTN_]
   show aa (bnd (n:Int)) _=_
   rw[bn_ (by unfold Big; omega),ah]
   rw[fNa_ (fun x=>!p.tv H n (e_2 e v x)) (r0:=true) (fun j hj _=>by
    show aa (vEw_ e v (j:Int)) _=_
    rw[hw,ah]
    show aa (vTN_ m c n (e_2 e v j) p) _=_
    rw[h1 j hj,ah]
    cases p.tv H n (e_2 e v j)<;>rfl),← List.not_any_eq_all_not]
   cases (List.range n).any fun x=>p.tv H n (e_2 e v x)<;>rfl
structure Smp(f g:Ft):Prop where
 good:g.good=true
 nf:NF g
 cnt:g.cnt≤f.cnt
 ok:g.Ok
 tot:g.tot≤f.tot
 tv:∀ (H:vt→Tt→Bool) (n:Nat),1≤n→∀ e,g.tv H n e=f.tv H n e
end
end Go.Proofs.YtckabmmondelpaaGreat
