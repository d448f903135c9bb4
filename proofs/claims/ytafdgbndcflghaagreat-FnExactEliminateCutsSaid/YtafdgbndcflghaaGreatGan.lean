/- Lemmas of the proof; each says what it shows. -/
import Derived.Test.YtafdgbndcflghaaGreatGp
import Derived.Test.YtafdgbndcflghaaGreatAvZ
import Derived.Test.YtafdgbndcflghaaGreatGsrt
import Derived.Test.YtafdgbndcflghaaGreatGmk
set_option linter.unusedSimpArgs false
set_option linter.unusedVariables false
set_option linter.defProp false
namespace Go.Proofs.YtafdgbndcflghaaGreat
open Go.Av
open Bool renaming and_eq_true→aA
open Ft renaming tot→aR,cn→aw
open Int renaming reduceEq→aY
open List renaming map_cons→aK,sum_cons→bn,length_cons→aO,all_cons→bD,all_eq_true→a7,mem_cons→bg,mem_append→aT,length_nil→bf,length_append→aP,length_map→aD,append_assoc→aV
open Nat renaming le_refl→a6
open Option renaming bind_some→ak,bind→aa
open SizeOf renaming sizeOf→av
section
theorem we_(a lo hi:Int):iw_ a lo hi=some (inR a lo hi):=ciR_ a lo hi
theorem lIe_(a lo hi:Int):slI_4 a lo hi=some (inR a lo hi):=ciR_ a lo hi
def cLow(c:Int):Bool:=inR c 97 122
def cUp(c:Int):Bool:=inR c 65 90
def cDig(c:Int):Bool:=inR c 48 57
theorem iLe_(c:Int):iiL_ c=some (cLow c):=ciR_ c 97 122
theorem iUe_(c:Int):iiU_ c=some (cUp c):=ciR_ c 65 90
theorem iDe_(c:Int):iiD_1 c=some (cDig c):=ciR_ c 48 57
theorem lSe_1(c:Int):slS_6 c=some (cLow c||cDig c):=by
 unfold slS_6 cLow cDig inR
 by_cases h1:(97:Int)≤c<;>by_cases h2:c≤(122:Int)<;>by_cases h3:(48:Int)≤c<;>by_cases h4:c≤(57:Int)<;>simp[h1,h2,h3,h4]
def varC(s:ByteArray)(j:Nat):Bool:=if j=0 then cUp (byt s 0) else(cLow (byt s j)||cDig (byt s j))
def iVS_(s:ByteArray):Bool:=inR (s.size:Int) 1 4&&(List.range s.size).all (varC s)
theorem iVe_(s:ByteArray)(hb:Big s.size):iiV_ s=some (iVS_ s):=by
 unfold iiV_
 rw[bn_ hb,ak,fNa_ (varC s)]
 ·simp only[we_,ak,iVS_]
  cases (List.range s.size).all (varC s)<;>cases inR (s.size:Int) 1 4<;>rfl
 ·intro j hj _
  simp only[sn_2 hj,ak,iUe_,iLe_,iDe_,varC]
  by_cases h0:j=0
  ·subst h0
   cases cUp (byt s 0)<;>rfl
  ·have h1:¬ ((j:Int)=0):=by omega
   have h2:(0:Int)<(j:Int):=by omega
   rw[decide_eq_false h1,decide_eq_true h2,if_neg h0]
   cases cLow (byt s j)<;>cases cDig (byt s j)<;>rfl
theorem lVe_(s:ByteArray)(hb:Big s.size):slV_ s=some (iVS_ s):=by
 unfold slV_
 rw[lIe_,ak]
 unfold iVS_
 cases hr:inR (s.size:Int) 1 4
 ·rfl
 ·have hs:0<s.size:=by have:=iRi_.1 hr; omega
  simp only[cond_true,Bool.true_and]
  rw[s_1 hs,ak]
  by_cases h0:cUp (byt s 0)=true
  ·have hu:=iRi_.1 h0
   rw[decide_eq_false (by omega),cond_false,ak,decide_eq_false (by omega),cond_false,bn_ hb,ak,fNa_2 (varC s) hs (by simp[varC,h0])]
   ·cases (List.range s.size).all (varC s)<;>rfl
   ·intro j hj0 hj _
    simp only[sn_2 hj,ak,lSe_1,varC]
    rw[if_neg (by omega)]
    cases (cLow (byt s j)||cDig (byt s j))<;>rfl
  ·have h1:(List.range s.size).all (varC s)=false:=List.all_eq_false.2 ⟨0,by simp; omega,by simp[varC,h0]⟩
   rw[h1]
   have hu:¬ (65≤byt s 0∧byt s 0≤90):=by intro g; exact h0 (iRi_.2 g)
   by_cases g:byt s 0<65
   ·rw[decide_eq_true g]; rfl
   ·rw[decide_eq_false g,cond_false,ak,decide_eq_true (by omega)]; rfl
def resv:List ByteArray:=[(⟨#[116,114,117,101]⟩:ByteArray),(⟨#[102,97,108,115,101]⟩:ByteArray),(⟨#[116,114,117,116,104]⟩:ByteArray),(⟨#[98,111,116,104]⟩:ByteArray),(⟨#[101,105,116,104,101,114]⟩:ByteArray),(⟨#[105,102]⟩:ByteArray),(⟨#[97,108,108]⟩:ByteArray),(⟨#[115,111,109,101]⟩:ByteArray)]
def symC(s:ByteArray)(j:Nat):Bool:=if j=0 then cLow (byt s 0) else(cLow (byt s j)||cDig (byt s j)||decide (byt s j=95))
def iSS_(s:ByteArray):Bool:=inR (s.size:Int) 1 6&&(List.range s.size).all (symC s)&&!resv.any (fun v=>decide (s=v))
theorem Cs_(xs:List ByteArray)(s:ByteArray):sCS_ xs s=some (xs.any (fun v=>decide (s=v))):=by
 unfold sCS_ sIS_
 obtain⟨r,h1,h2⟩:=fNf_1 (n:=xs.length) (p:=fun i=>decide (s=xs.getD i default)) (f:=fun i2 s2=>(idx xs (i2:Int)).bind fun v14=>bif decide (s=v14) then some (.rt (i2:Int)) else some (.nx ())) (fun j hj=>by
  simp only[igD_ hj,ak]
  cases decide (s=xs.getD j default)<;>rfl)
 rw[h1,ak,h2,ral_1 xs (fun v=>decide (s=v))]
theorem iSe_(s:ByteArray)(hb:Big s.size):iiS_ s=some (iSS_ s):=by
 unfold iiS_
 rw[bn_ hb,ak,fNa_ (symC s)]
 ·simp only[we_,ak,iSS_,ir_1,Cs_]
  rw[show resv.any (fun v=>decide (s=v))=_ from rfl]
  unfold resv
  cases (List.range s.size).all (symC s)<;>cases inR (s.size:Int) 1 6<;>rfl
 ·intro j hj _
  simp only[sn_2 hj,ak,iLe_,iDe_,symC]
  by_cases h0:j=0
  ·subst h0
   cases cLow (byt s 0)<;>rfl
  ·have h1:¬ ((j:Int)=0):=by omega
   rw[decide_eq_false h1,if_neg h0]
   cases cLow (byt s j)<;>cases cDig (byt s j)<;>cases decide (byt s j=95)<;>rfl
theorem lSe_(s:ByteArray)(hb:Big s.size):slS_4 s=some (iSS_ s):=by
 unfold slS_4
 rw[lIe_,ak]
 unfold iSS_
 cases hr:inR (s.size:Int) 1 6
 ·rfl
 ·have hs:0<s.size:=by have:=iRi_.1 hr; omega
  simp only[cond_true,Bool.true_and]
  rw[s_1 hs,ak]
  by_cases h0:cLow (byt s 0)=true
  ·have hu:=iRi_.1 h0
   rw[decide_eq_false (by omega),cond_false,ak,decide_eq_false (by omega),cond_false,bn_ hb,ak,fNa_2 (symC s) hs (by simp[symC,h0])]
   ·simp only[resv,List.any_cons,List.any_nil,Bool.or_false]
    generalize decide (s=_)=b1
    generalize decide (s=_)=b2
    generalize decide (s=_)=b3
    generalize decide (s=_)=b4
    generalize decide (s=_)=b5
    generalize decide (s=_)=b6
    generalize decide (s=_)=b7
    generalize decide (s=_)=b8
    cases (List.range s.size).all (symC s)<;>cases b1<;>cases b2<;>cases b3<;>cases b4<;>cases b5<;>cases b6<;>cases b7<;>cases b8<;>rfl
   ·intro j hj0 hj _
    simp only[sn_2 hj,ak,lSe_1,symC]
    rw[if_neg (by omega)]
    cases (cLow (byt s j)||cDig (byt s j))<;>cases decide (byt s j=95)<;>rfl
  ·have h1:(List.range s.size).all (symC s)=false:=List.all_eq_false.2 ⟨0,by simp; omega,by simp[symC,h0]⟩
   rw[h1]
   have hu:¬ (97≤byt s 0∧byt s 0≤122):=by intro g; exact h0 (iRi_.2 g)
   by_cases g:byt s 0<97
   ·rw[decide_eq_true g]; rfl
   ·rw[decide_eq_false g,cond_false,ak,decide_eq_true (by omega)]; rfl
end
section
mutual
def Tt.cnt:Tt→Nat
 | .mk _ l=>1+Tt.cnts l
def Tt.cnts:List Tt→Nat
 | []=>0
 | a::l=>a.cnt+Tt.cnts l
end
theorem Tt.cnts_eq(l:List Tt):Tt.cnts l=(l.map Tt.cnt).sum:=by
 induction l with
 | nil=>rfl
 | cons a l ih=>rw[Tt.cnts,ih,aK,bn]
theorem Tcm_(x:ByteArray)(l:List Tt):(Tt.mk x l).cnt=1+(l.map Tt.cnt).sum:=by rw[Tt.cnt,Tt.cnts_eq]
mutual
def Tt.dep:Tt→Nat
 | .mk _ l=>1+Td_ l
def Td_:List Tt→Nat
 | []=>0
 | a::l=>max a.dep (Td_ l)
end
theorem Tdm_(x:ByteArray)(l:List Tt):(Tt.mk x l).dep=1+Td_ l:=by rw[Tt.dep]
theorem Tt.cnt_tot(t:Tt):t.cnt≤1+t.tot:=by
 refine Tt.ind (M:=fun t=>t.cnt≤1+t.tot) (fun x l ih=>?_) t
 rw[Tcm_,Tt.tot_mk]
 have:(l.map Tt.cnt).sum≤ltot Tt.tot l:=by
  clear x
  induction l with
  | nil=>simp[ltot]
  | cons a l ihl=>
   have h1:=ih a (by simp)
   have h2:=ihl (fun b hb=>ih b (by simp[hb]))
   simp only[ltot,aK,bn,aO] at h2 ⊢
   omega
 omega
theorem Tt.dep_cnt(t:Tt):t.dep≤t.cnt:=by
 refine Tt.ind (M:=fun t=>t.dep≤t.cnt) (fun x l ih=>?_) t
 rw[Tcm_,Tdm_]
 have:Td_ l≤(l.map Tt.cnt).sum:=by
  clear x
  induction l with
  | nil=>simp[Td_]
  | cons a l ihl=>
   have h1:=ih a (by simp)
   have h2:=ihl (fun b hb=>ih b (by simp[hb]))
   simp only[Td_,aK,bn]
   omega
 omega
theorem Tt.cnt_pos(t:Tt):1≤t.cnt:=by cases t; rw[Tcm_]; omega
def Cap(L c:Nat)(r:Int):Prop:=1≤r∧r≤c∧(c≤L→r=c)∧(L<c→L<r)
theorem Cap.le{L c:Nat}{r:Int}(h:Cap L c r):decide (r≤(L:Int))=decide (c≤L):=by
 by_cases e:c≤L
 ·have:=h.2.2.1 e; rw[decide_eq_true e,decide_eq_true (by omega)]
 ·have:=h.2.2.2 (by omega); rw[decide_eq_false e,decide_eq_false (by omega)]
theorem sl_4(f:Tt→Option Int):∀ (l:List Tt) (i:Nat) (s:Int) (c0:Nat),(∀ a∈l,∃ r,f a=some r∧Cap 30 a.cnt r)→1≤s→s≤c0→(c0≤30→s=c0)→(30<c0→30<s)→c0+(l.map Tt.cnt).sum≤2097152→
 ∃ r,tL_ (ρ:=Int) (forL (fun _ v s=>bif decide ((30:Int)<s) then some (.rt s) else(f v).bind fun w=>some (.nx (wr (s+w)))) l i s) (fun s=>some s)=some r∧Cap 30 (c0+(l.map Tt.cnt).sum) r
 | [],i,s,c0,_,h1,h2,h3,h4,_=>⟨s,rfl,by simpa using⟨h1,h2,h3,h4⟩⟩
 | a::l,i,s,c0,hf,h1,h2,h3,h4,hb=>by
  simp only[aK,bn] at hb ⊢
  by_cases e:(30:Int)<s
  ·rw[fLr_ (r:=s) (by rw[decide_eq_true e]; rfl),tLi_1]
   exact⟨s,rfl,h1,by omega,fun g=>by omega,fun _=>e⟩
  ·obtain⟨r,hr,c1,c2,c3,c4⟩:=hf a (by simp)
   have hs:s=c0:=h3 (by omega)
   rw[fLn_ (s':=wr (s+r)) (by rw[decide_eq_false e,cond_false,hr]; rfl),wr64 (by omega) (by omega)]
   have:=sl_4 f l (i+1) (s+r) (c0+a.cnt) (fun b hb=>hf b (by simp[hb])) (by omega) (by omega) (fun g=>by have:=c3 (by omega); omega) (fun g=>by
    by_cases g2:a.cnt≤30
    ·have:=c3 g2; omega
    ·have:=c4 (by omega); omega) (by omega)
   rwa [Nat.add_assoc] at this
theorem ise_(t:Tt):t.cnt≤2097152→∃ r,(∀ n,2*av t≤n→isN_1 n t=some r)∧Cap 30 t.cnt r:=by
 refine Tt.ind (M:=fun t=>t.cnt≤2097152→∃ r,(∀ n,2*av t≤n→isN_1 n t=some r)∧Cap 30 t.cnt r) (fun x l ih hc=>?_) t
 rw[Tcm_] at hc ⊢
 obtain⟨R,hR⟩:=mc_ (fun a ha=>ih a ha (by have:=lsm_ Tt.cnt ha; omega))
 obtain⟨r,h1,h2⟩:=sl_4 (fun a=>some (R a)) l 0 1 1 (fun a ha=>⟨R a,rfl,(hR a ha).2⟩) (by omega) (by omega) (by omega) (by omega) hc
 refine⟨r,fun n hn=>?_,h2⟩
 cases n with
 | zero=>simp only[Tt.mk.sizeOf_spec] at hn; omega
 | succ n=>
  rw[isN_1]
  simp only[TAm_,fNi_]
  rw[← h1]
  congr 1
  refine fLc_ l 0 1 (fun j a s ha=>?_)
  have ha:=List.mem_of_getElem? ha
  simp only[(hR a ha).1 n (by have:=List.sizeOf_lt_of_mem ha; simp only[Tt.mk.sizeOf_spec] at hn; omega)]
theorem iso_(t:Tt)(h:t.tot≤1048576):∃ r,is_1 t=some r∧Cap 30 t.cnt r:=by
 obtain⟨r,h1,h2⟩:=ise_ t (by have:=Tt.cnt_tot t; omega)
 exact⟨r,le_ ⟨_,h1⟩,h2⟩
theorem ml_1(f:Tt→Int→Option Int)(L:Nat)(hL:L≤30):∀ (l:List Tt) (i:Nat) (s:Int) (c0:Nat),(∀ a∈l,∀ L':Nat,L'≤30→∃ r,f a L'=some r∧Cap L' a.cnt r)→1≤s→s≤c0→(c0≤L→s=c0)→(L<c0→L<s)→c0+(l.map Tt.cnt).sum≤2097152→
 ∃ r,tL_ (ρ:=Int) (forL (fun _ v s=>bif decide (s≤(L:Int)) then(f v (wr ((L:Int)-s))).bind fun w=>some (.nx (wr (s+w))) else some (.rt s)) l i s) (fun s=>some s)=some r∧Cap L (c0+(l.map Tt.cnt).sum) r
 | [],i,s,c0,_,h1,h2,h3,h4,_=>⟨s,rfl,by simpa using⟨h1,h2,h3,h4⟩⟩
 | a::l,i,s,c0,hf,h1,h2,h3,h4,hb=>by
  simp only[aK,bn] at hb ⊢
  by_cases e:s≤(L:Int)
  ·have hs:s=c0:=h3 (by omega)
   have eL:wr ((L:Int)-s)=((L-c0:Nat):Int):=by rw[wr64 (by omega) (by omega)]; omega
   obtain⟨r,hr,c1,c2,c3,c4⟩:=hf a (by simp) (L-c0) (by omega)
   rw[fLn_ (s':=wr (s+r)) (by rw[decide_eq_true e,cond_true,eL,hr]; rfl),wr64 (by omega) (by omega)]
   have:=ml_1 f L hL l (i+1) (s+r) (c0+a.cnt) (fun b hb=>hf b (by simp[hb])) (by omega) (by omega) (fun g=>by have:=c3 (by omega); omega) (fun g=>by
    by_cases g2:a.cnt≤L-c0
    ·omega
    ·have:=c4 (by omega); omega) (by omega)
   rwa [Nat.add_assoc] at this
  ·rw[fLr_ (r:=s) (by rw[decide_eq_false e]; rfl),tLi_1]
   exact⟨s,rfl,h1,by omega,fun g=>by omega,fun _=>by omega⟩
theorem ls_1{α:Type}{m:Nat→Option α}{N:Nat}{r:α}(hs:∀ n,N≤n→m n=m N)(h:m N=some r):lim m=some r:=le_ ⟨N,fun n hn=>by rw[hs n hn,h]⟩
theorem sms_(t:Tt):∀ n m,2*av t≤n→2*av t≤m→∀ L,slM_1 n t L=slM_1 m t L:=by
 refine Tt.ind (M:=fun t=>∀ n m,2*av t≤n→2*av t≤m→∀ L,slM_1 n t L=slM_1 m t L) (fun x l ih n m hn hm L=>?_) t
 simp only[Tt.mk.sizeOf_spec] at hn hm
 cases n with
 | zero=>omega
 | succ n=>
  cases m with
  | zero=>omega
  | succ m=>
   rw[slM_1,slM_1]
   congr 1
   refine fNc_ _ _ _ (fun j s hj=>?_)
   simp only[TAm_,Nat.zero_add] at hj ⊢
   rw[igD_ hj]
   simp only[ak]
   have hm':=gDm_ hj
   have:=List.sizeOf_lt_of_mem hm'
   rw[ih _ hm' n m (by omega) (by omega)]
theorem sme_(t:Tt):t.cnt≤2097152→∀ n,2*av t≤n→∀ L:Nat,L≤30→∃ r,slM_1 n t L=some r∧Cap L t.cnt r:=by
 refine Tt.ind (M:=fun t=>t.cnt≤2097152→∀ n,2*av t≤n→∀ L:Nat,L≤30→∃ r,slM_1 n t L=some r∧Cap L t.cnt r) (fun x l ih hc n hn L hL=>?_) t
 rw[Tcm_] at hc ⊢
 simp only[Tt.mk.sizeOf_spec] at hn
 cases n with
 | zero=>omega
 | succ n=>
  rw[slM_1]
  simp only[TAm_]
  obtain⟨r,h1,h2⟩:=ml_1 (slM_1 n) L hL l 0 1 1 (fun a ha L' hL'=>ih a ha (by have:=lsm_ Tt.cnt ha; omega) n (by have:=List.sizeOf_lt_of_mem ha; omega) L' hL') (by omega) (by omega) (by omega) (by omega) hc
  refine⟨r,?_,h2⟩
  rw[← h1]
  congr 1
  refine fNf_ _ _ l 0 1 (fun j a s ha=>?_)
  simp only[Nat.zero_add,in_,ha,ak]
theorem smo_(t:Tt)(h:t.tot≤1048576):∃ r,slM_4 t 30=some r∧Cap 30 t.cnt r:=by
 obtain⟨r,h1,h2⟩:=sme_ t (by have:=Tt.cnt_tot t; omega) _ (a6 _) 30 (by omega)
 exact⟨r,ls_1 (fun n hn=>sms_ t _ _ hn (a6 _) _) h1,h2⟩
theorem dl_(f:Tt→Option Int)(g:Int→Int→Option Int)(hg:∀ a b,g a b=some (max a b)):∀ (l:List Tt) (i:Nat) (s:Nat),(∀ a∈l,f a=some (a.dep:Int))→
 tL_ (ρ:=Int) (forL (fun _ v s=>(f v).bind fun w=>(g s w).bind fun z=>some (.nx z)) l i (s:Int)) (fun s=>some (wr (s+1)))=some (wr (((max s (Td_ l):Nat):Int)+1))
 | [],i,s,_=>by simp[forL,tLi_,Td_]
 | a::l,i,s,h=>by
  have e:max (s:Int) (a.dep:Int)=((max s a.dep:Nat):Int):=by omega
  rw[fLn_ (s':=((max s a.dep:Nat):Int)) (by rw[h a (by simp),ak,hg,ak,e]),dl_ f g hg l (i+1) _ (fun b hb=>h b (by simp[hb])),Td_]
  congr 3; omega
theorem Me_(a b:Int):slM_2 a b=some (max a b):=by
 unfold slM_2
 by_cases h:b<a
 ·rw[decide_eq_true h,cond_true]; congr 1; omega
 ·rw[decide_eq_false h,cond_false]; congr 1; omega
theorem dl_1(l:List Tt):Td_ l≤(l.map Tt.cnt).sum:=by
 induction l with
 | nil=>simp[Td_]
 | cons a l ih=>simp only[Td_,aK,bn]; have:=a.dep_cnt; omega
theorem idN_2(t:Tt):t.cnt≤2097152→∀ n,2*av t≤n→idN_ n t=some (t.dep:Int):=by
 refine Tt.ind (M:=fun t=>t.cnt≤2097152→∀ n,2*av t≤n→idN_ n t=some (t.dep:Int)) (fun x l ih hc n hn=>?_) t
 rw[Tcm_] at hc
 rw[Tdm_]
 simp only[Tt.mk.sizeOf_spec] at hn
 cases n with
 | zero=>omega
 | succ n=>
  rw[idN_]
  simp only[TAm_,fNi_]
  have:=dl_ (idN_ n) (fun a b=>some (max a b)) (fun _ _=>rfl) l 0 0 (fun a ha=>ih a ha (by have:=lsm_ Tt.cnt ha; omega) n (by have:=List.sizeOf_lt_of_mem ha; omega))
  simp only[ak] at this
  refine this.trans ?_
  have:=dl_1 l
  rw[wr64 (by omega) (by omega)]; congr 1; omega
theorem sdN_(t:Tt):t.cnt≤2097152→∀ n,2*av t≤n→slD_ n t=some (t.dep:Int):=by
 refine Tt.ind (M:=fun t=>t.cnt≤2097152→∀ n,2*av t≤n→slD_ n t=some (t.dep:Int)) (fun x l ih hc n hn=>?_) t
 rw[Tcm_] at hc
 rw[Tdm_]
 simp only[Tt.mk.sizeOf_spec] at hn
 cases n with
 | zero=>omega
 | succ n=>
  rw[slD_]
  simp only[TAm_,fNi_]
  have:=dl_ (slD_ n) slM_2 Me_ l 0 0 (fun a ha=>ih a ha (by have:=lsm_ Tt.cnt ha; omega) n (by have:=List.sizeOf_lt_of_mem ha; omega))
  refine this.trans ?_
  have:=dl_1 l
  rw[wr64 (by omega) (by omega)]; congr 1; omega
theorem ido_(t:Tt)(h:t.tot≤1048576):id_ t=some (t.dep:Int):=le_ ⟨_,idN_2 t (by have:=Tt.cnt_tot t; omega)⟩
theorem sdo_(t:Tt)(h:t.tot≤1048576):slD_1 t=some (t.dep:Int):=le_ ⟨_,sdN_ t (by have:=Tt.cnt_tot t; omega)⟩
def sT_(t:Tt):Bool:=decide (t.cnt≤30)&&decide (t.dep≤8)
theorem iSo_(t:Tt)(h:t.tot≤1048576):iiS_1 t=some (sT_ t):=by
 obtain⟨r,h1,h2⟩:=iso_ t h
 have h3:=h2.le
 unfold iiS_1 sT_
 rw[h1,ak,show decide (r≤30)=decide (t.cnt≤30) from h3,ido_ t h,ak]
 cases decide (t.cnt≤30)
 ·rfl
 ·rw[cond_true,Bool.true_and]; congr 1; exact decide_eq_decide.2 (by omega)
theorem lFo_(t:Tt)(h:t.tot≤1048576):slF_3 t=some (sT_ t):=by
 obtain⟨r,h1,h2⟩:=smo_ t h
 have h3:=h2.le
 unfold slF_3 sT_
 rw[h1,ak,show decide (r≤30)=decide (t.cnt≤30) from h3,sdo_ t h,ak]
 cases decide (t.cnt≤30)
 ·rfl
 ·rw[cond_true,Bool.true_and]; congr 1; exact decide_eq_decide.2 (by omega)
mutual
def Tt.good:Tt→Bool
 | .mk x l=>bif iVS_ x then l.isEmpty else(iSS_ x&&decide (l.length≤4)&&Tt.goods l)
def Tt.goods:List Tt→Bool
 | []=>true
 | a::l=>a.good&&Tt.goods l
end
theorem Tt.goods_eq(l:List Tt):Tt.goods l=l.all Tt.good:=by
 induction l with
 | nil=>rfl
 | cons a l ih=>rw[Tt.goods,ih]; rfl
theorem Tgm_(x:ByteArray)(l:List Tt):(Tt.mk x l).good=bif iVS_ x then l.isEmpty else(iSS_ x&&decide (l.length≤4)&&l.all Tt.good):=by rw[Tt.good,Tt.goods_eq]
theorem Tt.good_u(t:Tt):t.good=bif iVS_ t.Name then t.Args.isEmpty else(iSS_ t.Name&&decide (t.Args.length≤4)&&t.Args.all Tt.good):=by cases t; exact Tgm_ _ _
theorem iEd_{α:Type}(l:List α):decide ((l.length:Int)=0)=l.isEmpty:=by cases l<;>simp; omega
theorem ihN_5(t:Tt):t.Ok→∀ n,3*av t≤n→ihN_ n t=some t.good:=by
 refine Tt.ind' (M:=fun t=>t.Ok→∀ n,3*av t≤n→ihN_ n t=some t.good) (fun t ih hok n hn=>?_) t
 obtain⟨hx,hl,hall⟩:=hok.u
 rw[Tt.good_u]
 have hpos:=t.pos
 cases n with
 | zero=>omega
 | succ n=>
  rw[ihN_]
  rw[iVe_ _ hx,ak,iSe_ _ hx,ak,iEd_]
  cases iVS_ t.Name
  ·rw[cond_false,cond_false]
   cases iSS_ t.Name
   ·rfl
   ·by_cases h4:t.Args.length≤4
    ·rw[cond_true,decide_eq_true (show(t.Args.length:Int)≤4 by omega),cond_true,decide_eq_true h4,Bool.true_and,Bool.true_and]
     unfold sCF_2 sIF_1
     rw[fl_1 (p:=fun a=>!a.good) t.Args (fun a ha=>?_),ak,List.all_eq_not_any_not]
     have hs:=Tt.lt ha
     cases n with
     | zero=>omega
     | succ n=>
      rw[ihN_1,ih a ha (hall a ha) n (by omega)]; rfl
    ·rw[cond_true,decide_eq_false (show ¬ (t.Args.length:Int)≤4 by omega),decide_eq_false h4]; rfl
  ·rfl
theorem slN_10(t:Tt):t.Ok→∀ n,3*av t≤n→slN_4 n t=some t.good:=by
 refine Tt.ind' (M:=fun t=>t.Ok→∀ n,3*av t≤n→slN_4 n t=some t.good) (fun t ih hok n hn=>?_) t
 obtain⟨hx,hl,hall⟩:=hok.u
 rw[Tt.good_u]
 have hpos:=t.pos
 cases n with
 | zero=>omega
 | succ n=>
  rw[slN_4]
  rw[lVe_ _ hx,ak,lSe_ _ hx,ak,iEd_]
  cases iVS_ t.Name
  ·rw[cond_false,cond_false]
   cases iSS_ t.Name
   ·rfl
   ·by_cases h4:t.Args.length≤4
    ·rw[cond_true,decide_eq_false (show ¬ (4:Int)<(t.Args.length:Int) by omega),cond_false,decide_eq_true h4,Bool.true_and,Bool.true_and,
      fNa_ (fun j=>(t.Args.getD j default).good) (fun j hj _=>?_),ral_ t.Args Tt.good]
     ·cases t.Args.all Tt.good<;>rfl
     ·have ha:=gDm_ hj
      have hs:=Tt.lt ha
      simp only[igD_ hj,ak,ih _ ha (hall _ ha) n (by omega)]
      cases (t.Args.getD j default).good<;>rfl
    ·rw[cond_true,decide_eq_true (show(4:Int)<(t.Args.length:Int) by omega),decide_eq_false h4]; rfl
  ·rfl
def gT_(t:Tt):Bool:=sT_ t&&t.good
theorem IVT_(t:Tt)(h:t.tot≤1048576)(hok:t.Ok):iIV_8 t=some (gT_ t):=by
 unfold iIV_8 gT_
 rw[iSo_ t h,ak,show ihN_2 t=some t.good from le_ ⟨_,ihN_5 t hok⟩,ak]
 cases sT_ t<;>rfl
theorem lGo_(t:Tt)(h:t.tot≤1048576)(hok:t.Ok):slG_2 t=some (gT_ t):=by
 unfold slG_2 gT_
 rw[lFo_ t h,ak,show slN_7 t=some t.good from le_ ⟨_,slN_10 t hok⟩,ak]
 cases sT_ t<;>rfl
end
section
def zT_(t:Tt):Bool:=decide (t.Name=(⟨#[]⟩:ByteArray))&&t.Args.isEmpty
theorem zTi_(t:Tt):iiZ_1 t=some (zT_ t):=by
 unfold iiZ_1 zT_
 rw[iEd_]
 cases decide (t.Name=(⟨#[]⟩:ByteArray))<;>rfl
theorem zTs_(t:Tt):slN_3 t=some (zT_ t):=zTi_ t
def aT_(t:Tt):Bool:=bif decide (t.Name=(⟨#[61]⟩:ByteArray)) then decide (t.Args.length=2)&&(sT_ t&&t.Args.all Tt.good) else iSS_ t.Name&&gT_ t
theorem ta_{l:List Tt}(h:l.length=2):∃ x y,l=[x,y]:=by
 match l,h with
 | [x,y],_=>exact⟨x,y,rfl⟩
theorem hNo_(t:Tt)(hok:t.Ok):ihN_2 t=some t.good:=le_ ⟨_,ihN_5 t hok⟩
theorem lNo_(t:Tt)(hok:t.Ok):slN_7 t=some t.good:=le_ ⟨_,slN_10 t hok⟩
theorem ai_1(t:Tt)(h:t.tot≤1048576)(hok:t.Ok):iIV_ t=some (aT_ t):=by
 unfold iIV_ aT_ iiE_
 obtain⟨hx,hl,hall⟩:=hok.u
 rw[iSe_ _ hx,IVT_ t h hok,iSo_ t h]
 simp only[ak]
 cases decide (t.Name=(⟨#[61]⟩:ByteArray))
 ·simp only[cond_false]; cases iSS_ t.Name<;>rfl
 ·by_cases h2:t.Args.length=2
  ·obtain⟨x,y,e⟩:=ta_ h2
   rw[decide_eq_true (show(t.Args.length:Int)=2 by omega),decide_eq_true h2]
   simp only[cond_true,Bool.true_and]
   cases sT_ t
   ·rfl
   ·rw[e] at hall ⊢
    rw[show(0:Int)=((0:Nat):Int) from rfl,show(1:Int)=((1:Nat):Int) from rfl,in_,in_]
    simp only[List.getElem?_cons_zero,List.getElem?_cons_succ,ak,hNo_ x (hall x (by simp)),hNo_ y (hall y (by simp)),cond_true,Bool.true_and,bD,List.all_nil,Bool.and_true]
    cases x.good<;>rfl
  ·rw[decide_eq_false (show ¬ (t.Args.length:Int)=2 by omega),decide_eq_false h2]; rfl
theorem as_(t:Tt)(h:t.tot≤1048576)(hok:t.Ok):slA_1 t=some (aT_ t):=by
 unfold slA_1 aT_
 obtain⟨hx,hl,hall⟩:=hok.u
 rw[lSe_ _ hx,lGo_ t h hok,lFo_ t h]
 simp only[ak]
 cases decide (t.Name=(⟨#[61]⟩:ByteArray))
 ·simp only[cond_false]; cases iSS_ t.Name<;>rfl
 ·by_cases h2:t.Args.length=2
  ·obtain⟨x,y,e⟩:=ta_ h2
   rw[decide_eq_true (show(t.Args.length:Int)=2 by omega),decide_eq_true h2]
   simp only[cond_true,Bool.true_and]
   cases sT_ t
   ·rfl
   ·rw[e] at hall ⊢
    rw[show(0:Int)=((0:Nat):Int) from rfl,show(1:Int)=((1:Nat):Int) from rfl,in_,in_]
    simp only[List.getElem?_cons_zero,List.getElem?_cons_succ,ak,lNo_ x (hall x (by simp)),lNo_ y (hall y (by simp)),cond_true,Bool.true_and,bD,List.all_nil,Bool.and_true]
    cases x.good<;>rfl
  ·rw[decide_eq_false (show ¬ (t.Args.length:Int)=2 by omega),decide_eq_false h2]; rfl
mutual
def Ft.cnt:Ft→Nat
 | .mk _ _ _ l=>1+Ft.cnts l
def Ft.cnts:List Ft→Nat
 | []=>0
 | a::l=>a.cnt+Ft.cnts l
end
theorem Ft.cnts_eq(l:List Ft):Ft.cnts l=(l.map Ft.cnt).sum:=by
 induction l with
 | nil=>rfl
 | cons a l ih=>rw[Ft.cnts,ih,aK,bn]
theorem Ft.cnt_u(a:Ft):a.cnt=1+(a.Parts.map Ft.cnt).sum:=by cases a; rw[Ft.cnt,Ft.cnts_eq]; rfl
theorem sll_{α:Type}{c t:α→Nat}:∀ l:List α,(∀ a∈l,c a≤1+t a)→(l.map c).sum≤ltot t l
 | [],_=>by simp[ltot]
 | a::l,h=>by
  have h1:=h a (by simp)
  have h2:=sll_ l (fun b hb=>h b (by simp[hb]))
  simp only[ltot,aK,bn,aO] at h2 ⊢
  omega
theorem Ft.cnt_tot(t:Ft):t.cnt≤1+t.tot:=by
 refine Ft.ind' (M:=fun t=>t.cnt≤1+t.tot) (fun t ih=>?_) t
 rw[Ft.cnt_u,Ft.tot_u]
 have:=sll_ (c:=Ft.cnt) (t:=aR) t.Parts ih
 omega
theorem Ft.cnt_pos(t:Ft):1≤t.cnt:=by rw[Ft.cnt_u]; omega
theorem gl_1{α:Type}(cnt:α→Nat)(L:Nat)(hL:L≤1000)(f:α→Option Int):∀ (l:List α) (i:Nat) (s:Int) (c0:Nat),(∀ a∈l,∃ r,f a=some r∧Cap L (cnt a) r)→1≤s→s≤c0→(c0≤L→s=c0)→(L<c0→L<s)→c0+(l.map cnt).sum≤2097152→
 ∃ r,tL_ (ρ:=Int) (forL (fun _ v s=>bif decide ((L:Int)<s) then some (.rt s) else(f v).bind fun w=>some (.nx (wr (s+w)))) l i s) (fun s=>some s)=some r∧Cap L (c0+(l.map cnt).sum) r
 | [],i,s,c0,_,h1,h2,h3,h4,_=>⟨s,rfl,by simpa using⟨h1,h2,h3,h4⟩⟩
 | a::l,i,s,c0,hf,h1,h2,h3,h4,hb=>by
  simp only[aK,bn] at hb ⊢
  by_cases e:(L:Int)<s
  ·rw[fLr_ (r:=s) (by rw[decide_eq_true e]; rfl),tLi_1]
   exact⟨s,rfl,h1,by omega,fun g=>by omega,fun _=>e⟩
  ·obtain⟨r,hr,c1,c2,c3,c4⟩:=hf a (by simp)
   have hs:s=c0:=h3 (by omega)
   rw[fLn_ (s':=wr (s+r)) (by rw[decide_eq_false e,cond_false,hr]; rfl),wr64 (by omega) (by omega)]
   have:=gl_1 cnt L hL f l (i+1) (s+r) (c0+cnt a) (fun b hb=>hf b (by simp[hb])) (by omega) (by omega) (fun g=>by have:=c3 (by omega); omega) (fun g=>by
    by_cases g2:cnt a≤L
    ·have:=c3 g2; omega
    ·have:=c4 (by omega); omega) (by omega)
   rwa [Nat.add_assoc] at this
theorem gl_2{α:Type}(cnt:α→Nat)(M:Nat)(hM:M≤1000)(f:α→Int→Option Int)(L:Nat)(hL:L≤M):∀ (l:List α) (i:Nat) (s:Int) (c0:Nat),(∀ a∈l,∀ L':Nat,L'≤M→∃ r,f a L'=some r∧Cap L' (cnt a) r)→1≤s→s≤c0→(c0≤L→s=c0)→(L<c0→L<s)→c0+(l.map cnt).sum≤2097152→
 ∃ r,tL_ (ρ:=Int) (forL (fun _ v s=>bif decide (s≤(L:Int)) then(f v (wr ((L:Int)-s))).bind fun w=>some (.nx (wr (s+w))) else some (.rt s)) l i s) (fun s=>some s)=some r∧Cap L (c0+(l.map cnt).sum) r
 | [],i,s,c0,_,h1,h2,h3,h4,_=>⟨s,rfl,by simpa using⟨h1,h2,h3,h4⟩⟩
 | a::l,i,s,c0,hf,h1,h2,h3,h4,hb=>by
  simp only[aK,bn] at hb ⊢
  by_cases e:s≤(L:Int)
  ·have hs:s=c0:=h3 (by omega)
   have eL:wr ((L:Int)-s)=((L-c0:Nat):Int):=by rw[wr64 (by omega) (by omega)]; omega
   obtain⟨r,hr,c1,c2,c3,c4⟩:=hf a (by simp) (L-c0) (by omega)
   rw[fLn_ (s':=wr (s+r)) (by rw[decide_eq_true e,cond_true,eL,hr]; rfl),wr64 (by omega) (by omega)]
   have:=gl_2 cnt M hM f L hL l (i+1) (s+r) (c0+cnt a) (fun b hb=>hf b (by simp[hb])) (by omega) (by omega) (fun g=>by have:=c3 (by omega); omega) (fun g=>by
    by_cases g2:cnt a≤L-c0
    ·omega
    ·have:=c4 (by omega); omega) (by omega)
   rwa [Nat.add_assoc] at this
  ·rw[fLr_ (r:=s) (by rw[decide_eq_false e]; rfl),tLi_1]
   exact⟨s,rfl,h1,by omega,fun g=>by omega,fun _=>by omega⟩
theorem sOe_(t:Ft):t.cnt≤2097152→∃ r,(∀ n,2*av t≤n→isO_ n t=some r)∧Cap 40 t.cnt r:=by
 refine Ft.ind' (M:=fun t=>t.cnt≤2097152→∃ r,(∀ n,2*av t≤n→isO_ n t=some r)∧Cap 40 t.cnt r) (fun t ih hc=>?_) t
 rw[Ft.cnt_u] at hc ⊢
 have hp:=t.pos
 obtain⟨R,hR⟩:=mc_ (fun a ha=>ih a ha (by have:=lsm_ Ft.cnt ha; omega))
 obtain⟨r,h1,h2⟩:=gl_1 Ft.cnt 40 (by omega) (fun a=>some (R a)) t.Parts 0 1 1 (fun a ha=>⟨R a,rfl,(hR a ha).2⟩) (by omega) (by omega) (by omega) (by omega) hc
 refine⟨r,fun n hn=>?_,h2⟩
 cases n with
 | zero=>omega
 | succ n=>
  rw[isO_]
  simp only[fNi_]
  rw[← h1]
  congr 1
  refine fLc_ t.Parts 0 1 (fun j a s ha=>?_)
  have ha:=List.mem_of_getElem? ha
  have:=Ft.lt ha
  simp only[(hR a ha).1 n (by omega)]
  rfl
theorem sOo_4(t:Ft)(h:t.tot≤1048576):∃ r,isO_1 t=some r∧Cap 40 t.cnt r:=by
 obtain⟨r,h1,h2⟩:=sOe_ t (by have:=Ft.cnt_tot t; omega)
 exact⟨r,le_ ⟨_,h1⟩,h2⟩
theorem lMs_(t:Ft):∀ n m,2*av t≤n→2*av t≤m→∀ L,slM_ n t L=slM_ m t L:=by
 refine Ft.ind' (M:=fun t=>∀ n m,2*av t≤n→2*av t≤m→∀ L,slM_ n t L=slM_ m t L) (fun t ih n m hn hm L=>?_) t
 have hp:=t.pos
 cases n with
 | zero=>omega
 | succ n=>
  cases m with
  | zero=>omega
  | succ m=>
   rw[slM_,slM_]
   congr 1
   refine fNc_ _ _ _ (fun j s hj=>?_)
   simp only[Nat.zero_add] at hj ⊢
   rw[igD_ hj]
   simp only[ak]
   have hm':=gDm_ hj
   have:=Ft.lt hm'
   rw[ih _ hm' n m (by omega) (by omega)]
theorem lMe_(t:Ft):t.cnt≤2097152→∀ n,2*av t≤n→∀ L:Nat,L≤40→∃ r,slM_ n t L=some r∧Cap L t.cnt r:=by
 refine Ft.ind' (M:=fun t=>t.cnt≤2097152→∀ n,2*av t≤n→∀ L:Nat,L≤40→∃ r,slM_ n t L=some r∧Cap L t.cnt r) (fun t ih hc n hn L hL=>?_) t
 rw[Ft.cnt_u] at hc ⊢
 have hp:=t.pos
 cases n with
 | zero=>omega
 | succ n=>
  rw[slM_]
  obtain⟨r,h1,h2⟩:=gl_2 Ft.cnt 40 (by omega) (slM_ n) L hL t.Parts 0 1 1 (fun a ha L' hL'=>ih a ha (by have:=lsm_ Ft.cnt ha; omega) n (by have:=Ft.lt ha; omega) L' hL') (by omega) (by omega) (by omega) (by omega) hc
  refine⟨r,?_,h2⟩
  rw[← h1]
  congr 1
  refine fNf_ _ _ t.Parts 0 1 (fun j a s ha=>?_)
  simp only[Nat.zero_add,in_,ha,ak]
theorem lMo_(t:Ft)(h:t.tot≤1048576):∃ r,slM_3 t 40=some r∧Cap 40 t.cnt r:=by
 obtain⟨r,h1,h2⟩:=lMe_ t (by have:=Ft.cnt_tot t; omega) _ (a6 _) 40 (by omega)
 exact⟨r,ls_1 (fun n hn=>lMs_ t _ _ hn (a6 _) _) h1,h2⟩
def fC_(o:Int)(t:Tt)(v:ByteArray)(k:Nat):Bool:=
 bif decide (o=3) then decide (k=0)&&(aT_ t&&decide (v=(⟨#[]⟩:ByteArray)))
 else bif decide (o=8)||decide (o=9) then decide (k=1)&&(zT_ t&&iVS_ v)
 else(bif decide (o=1)||decide (o=2) then decide (k=0) else bif decide (o=4) then decide (k=1) else bif decide (o=5)||(decide (o=6)||decide (o=7)) then decide (k=2) else false)&&(zT_ t&&decide (v=(⟨#[]⟩:ByteArray)))
theorem oc_(o:Int):o=1∨o=2∨o=3∨o=4∨o=5∨o=6∨o=7∨o=8∨o=9∨(o≠1∧o≠2∧o≠3∧o≠4∧o≠5∧o≠6∧o≠7∧o≠8∧o≠9):=by omega
theorem lFo_1(a:Ft)(h:a.tot≤1048576)(hok:a.Ok):slF_4 a=some (fC_ a.Op a.Atom a.Var a.Parts.length):=by
 obtain⟨h1,h2,h3,h4⟩:=hok.u
 have ht:=a.tot_u
 unfold slF_4 fC_
 have e0:decide ((a.Parts.length:Int)=0)=decide (a.Parts.length=0):=decide_eq_decide.2 (by omega)
 have e1:decide ((a.Parts.length:Int)=1)=decide (a.Parts.length=1):=decide_eq_decide.2 (by omega)
 have e2:decide ((a.Parts.length:Int)=2)=decide (a.Parts.length=2):=decide_eq_decide.2 (by omega)
 rw[zTs_,as_ _ (by omega) h2,lVe_ _ h3,e0,e1,e2]
 simp only[ak]
 generalize zT_ a.Atom=z
 generalize aT_ a.Atom=y
 generalize iVS_ a.Var=x
 generalize decide (a.Parts.length=0)=k0
 generalize decide (a.Parts.length=1)=k1
 generalize decide (a.Parts.length=2)=k2
 generalize decide (a.Var=(⟨#[]⟩:ByteArray))=u
 rcases oc_ a.Op with e | e | e | e | e | e | e | e | e | ⟨g1,g2,g3,g4,g5,g6,g7,g8,g9⟩
 all_goals first | (simp only[e]; revert z y x k0 k1 k2 u; decide) | (simp only[g1,g2,g3,g4,g5,g6,g7,g8,g9]; rfl)
mutual
def Ft.good:Ft→Bool
 | .mk o t v l=>fC_ o t v l.length&&Ft.goods l
def Ft.goods:List Ft→Bool
 | []=>true
 | a::l=>a.good&&Ft.goods l
end
theorem Ft.goods_eq(l:List Ft):Ft.goods l=l.all Ft.good:=by
 induction l with
 | nil=>rfl
 | cons a l ih=>rw[Ft.goods,ih]; rfl
theorem Ft.good_u(a:Ft):a.good=(fC_ a.Op a.Atom a.Var a.Parts.length&&a.Parts.all Ft.good):=by cases a; rw[Ft.good,Ft.goods_eq]; rfl
theorem lm_{α:Type}{t:α→Nat}{l:List α}{a:α}(h:a∈l):t a≤ltot t l:=by have:=tm_ t h; omega
theorem lFe_(a:Ft):a.Ok→a.tot≤1048576→∀ n,3*av a≤n→slF_1 n a=some a.good:=by
 refine Ft.ind' (M:=fun a=>a.Ok→a.tot≤1048576→∀ n,3*av a≤n→slF_1 n a=some a.good) (fun a ih hok ht n hn=>?_) a
 obtain⟨h1,h2,h3,h4,hall⟩:=hok.u
 have hpos:=a.pos
 have htu:=a.tot_u
 cases n with
 | zero=>omega
 | succ n=>
  rw[slF_1,lFo_1 a ht hok,Ft.good_u,ak]
  cases fC_ a.Op a.Atom a.Var a.Parts.length
  ·rfl
  ·rw[cond_true,Bool.true_and,fNa_ (fun j=>(a.Parts.getD j default).good) (fun j hj _=>?_),ral_ a.Parts Ft.good]
   ·cases a.Parts.all Ft.good<;>rfl
   ·have ha:=gDm_ hj
    have hs:=Ft.lt ha
    have hm:=lm_ (t:=aR) ha
    simp only[igD_ hj,ak,ih _ ha (hall _ ha) (by omega) n (by omega)]
    cases (a.Parts.getD j default).good<;>rfl
theorem iQe_(x:Int):iiQ_2 x=some (decide (x=8)||decide (x=9)):=by
 unfold iiQ_2
 cases decide (x=8)<;>rfl
theorem iBe_(x:Int):iiB_ x=some (decide (x=5)||(decide (x=6)||decide (x=7))):=by
 unfold iiB_
 cases decide (x=5)<;>cases decide (x=6)<;>rfl
theorem cF_{p:Ft→Bool}{f:Ft→Option Bool}(l:List Ft)(h:∀ a∈l,f a=some (p a)):sCF_ l f=some (l.any p):=by
 unfold sCF_ sIF_
 exact fl_1 (p:=p) l h
theorem hFe_(a:Ft):a.Ok→a.tot≤1048576→∀ n,3*av a≤n→ihF_1 n a=some a.good:=by
 refine Ft.ind' (M:=fun a=>a.Ok→a.tot≤1048576→∀ n,3*av a≤n→ihF_1 n a=some a.good) (fun a ih hok ht n hn=>?_) a
 obtain⟨h1,h2,h3,h4,hall⟩:=hok.u
 have hpos:=a.pos
 have htu:=a.tot_u
 cases n with
 | zero=>omega
 | succ n=>
  have hc:sCF_ a.Parts (fun y0=>ihF_ n y0)=some (!a.Parts.all Ft.good):=by
   rw[cF_ (p:=fun x=>!x.good) a.Parts (fun x hx=>?_),List.all_eq_not_any_not,Bool.not_not]
   have hs:=Ft.lt hx
   have hm:=lm_ (t:=aR) hx
   cases n with
   | zero=>omega
   | succ n=>rw[ihF_,ih x hx (hall x hx) (by omega) n (by omega)]; rfl
  have e0:decide ((a.Parts.length:Int)=0)=decide (a.Parts.length=0):=decide_eq_decide.2 (by omega)
  have e1:decide ((a.Parts.length:Int)=1)=decide (a.Parts.length=1):=decide_eq_decide.2 (by omega)
  have e2:decide ((a.Parts.length:Int)=2)=decide (a.Parts.length=2):=decide_eq_decide.2 (by omega)
  rw[ihF_1,Ft.good_u]
  unfold fC_
  simp only[hc,e0,e1,e2,iQe_,iBe_,iVe_ _ h3,zTi_,ai_1 _ (show a.Atom.tot≤1048576 by omega) h2,ak]
  clear hc e0 e1 e2 ih
  generalize zT_ a.Atom=z
  generalize aT_ a.Atom=y
  generalize iVS_ a.Var=x
  generalize decide (a.Parts.length=0)=k0
  generalize decide (a.Parts.length=1)=k1
  generalize decide (a.Parts.length=2)=k2
  generalize decide (a.Var=(⟨#[]⟩:ByteArray))=u
  generalize a.Parts.all Ft.good=w
  rcases oc_ a.Op with e | e | e | e | e | e | e | e | e | ⟨g1,g2,g3,g4,g5,g6,g7,g8,g9⟩
  all_goals first | (simp only[e]; clear e htu; revert z y x k0 k1 k2 u w; decide) | (simp only[g1,g2,g3,g4,g5,g6,g7,g8,g9]; rfl)
def vF_(a:Ft):Bool:=decide (a.cnt≤40)&&a.good
theorem vFi_1(a:Ft)(h:a.tot≤1048576)(hok:a.Ok):iIV_3 a=some (vF_ a):=by
 obtain⟨r,h1,h2⟩:=sOo_4 a h
 unfold iIV_3 vF_
 rw[h1,ak,show decide (r≤40)=decide (a.cnt≤40) from h2.le,show ihF_3 a=some a.good from le_ ⟨_,hFe_ a hok h⟩]
 cases decide (a.cnt≤40)<;>rfl
theorem vFs_(a:Ft)(h:a.tot≤1048576)(hok:a.Ok):slG_1 a=some (vF_ a):=by
 obtain⟨r,h1,h2⟩:=lMo_ a h
 unfold slG_1 vF_
 rw[h1,ak,show decide (r≤40)=decide (a.cnt≤40) from h2.le,show slF_7 a=some a.good from le_ ⟨_,lFe_ a hok h⟩]
 cases decide (a.cnt≤40)<;>rfl
theorem ss_(l:List Ft)(hok:∀ a∈l,a.Ok)(ht:ltot aR l≤1048576):slS_7 l=some (decide (l.length≤10)&&l.all vF_):=by
 unfold slS_7
 have hd:decide ((l.length:Int)≤10)=decide (l.length≤10):=decide_eq_decide.2 (by omega)
 rw[hd]
 rw[fNa_ (fun j=>decide (j≤10)&&vF_ (l.getD j default)) (r0:=false) (fun j hj _=>?_)]
 ·by_cases h:l.length≤10
  ·rw[decide_eq_true h,ral_2 l _ vF_ (fun i hi=>by rw[decide_eq_true (show i≤10 by omega)]; rfl)]
   cases l.all vF_<;>rfl
  ·rw[decide_eq_false h]
   cases (List.range l.length).all fun j=>decide (j≤10)&&vF_ (l.getD j default)<;>rfl
 ·have hm:=gDm_ hj
  have:=lm_ (t:=aR) hm
  simp only[igD_ hj,ak,vFs_ _ (show(l.getD j default).tot≤1048576 by omega) (hok _ hm)]
  by_cases h:j≤10
  ·rw[decide_eq_true h,decide_eq_true (show(j:Int)≤10 by omega)]
   cases vF_ (l.getD j default)<;>rfl
  ·rw[decide_eq_false h,decide_eq_false (show ¬ (j:Int)≤10 by omega),decide_eq_false (show ¬ l.length≤10 by omega)]; rfl
def vS_(s:Sa):Bool:=(decide (s.Left.length≤10)&&s.Left.all vF_)&&(decide (s.Right.length≤10)&&s.Right.all vF_)
theorem vSs_(s:Sa)(hok:s.Ok)(ht:s.tot≤1048576):slG_ s=some (vS_ s):=by
 unfold slG_ vS_
 unfold Sa.tot at ht
 rw[ss_ s.Left hok.1.2 (by omega),ss_ s.Right hok.2.2 (by omega),ak,ak]
 cases decide (s.Left.length≤10)&&s.Left.all vF_<;>rfl
theorem vSi_(s:Sa)(hok:s.Ok)(ht:s.tot≤1048576):iIV_6 s=some (vS_ s):=by
 unfold iIV_6 vS_
 unfold Sa.tot at ht
 have key:∀ l:List Ft,(∀ a∈l,a.Ok)→ltot aR l≤1048576→sCF_ l (fun y0=>iIV_7 y0)=some (!l.all vF_):=fun l hk hl=>by
  rw[cF_ (p:=fun x=>!vF_ x) l (fun x hx=>?_),List.all_eq_not_any_not,Bool.not_not]
  have:=lm_ (t:=aR) hx
  unfold iIV_7
  rw[vFi_1 x (by omega) (hk x hx)]; rfl
 rw[key s.Left hok.1.2 (by omega),key s.Right hok.2.2 (by omega),show decide ((s.Left.length:Int)≤10)=decide (s.Left.length≤10) from decide_eq_decide.2 (by omega),show decide ((s.Right.length:Int)≤10)=decide (s.Right.length≤10) from decide_eq_decide.2 (by omega)]
 simp only[ak]
 generalize decide (s.Left.length≤10)=a
 generalize decide (s.Right.length≤10)=b
 generalize s.Left.all vF_=c
 generalize s.Right.all vF_=d
 revert a b c d; decide
end
section
noncomputable def same{α:Type}(a b:α):Bool:=@decide (a=b) (Classical.propDecidable _)
theorem si_{α:Type}{a b:α}:same a b=true↔a=b:=by unfold same; exact @decide_eq_true_iff _ (Classical.propDecidable _)
theorem sc_4{α:Type}(a b:α):same a b=same b a:=by rw[Bool.eq_iff_iff,si_,si_]; exact eq_comm
theorem sl_1{α:Type}{xs ys:List α}(h:¬ xs.length=ys.length):same xs ys=false:=by
 cases e:same xs ys
 ·rfl
 ·rw[si_] at e; exact absurd (by rw[e]) h
theorem as_2{α:Type}[Inhabited α]{xs ys:List α}(h:xs.length=ys.length):(List.range xs.length).all (fun j=>same (xs.getD j default) (ys.getD j default))=same xs ys:=by
 rw[Bool.eq_iff_iff,a7,si_]
 constructor
 ·intro g
  refine List.ext_getElem h (fun i h1 h2=>?_)
  have:=si_.1 (g i (by simpa using h1))
  simpa[List.getD,h1,h2] using this
 ·rintro rfl x _
  exact si_.2 rfl
theorem sl_{α:Type}[Inhabited α](f:α→α→Option Bool)(xs ys:List α)(h:xs.length=ys.length)(hf:∀ a∈xs,∀ b,f a b=some (same a b)):
 tL_ (ρ:=Bool) (σ:=Unit) (forN (fun (i:Nat) (_:Unit)=>aa (idx xs (i:Int)) fun v=>aa (idx ys (i:Int)) fun w=>aa (f v w) fun x=>bif x then some (.nx ()) else some (.rt false)) xs.length 0 ()) (fun _=>some true)=some (same xs ys):=by
 rw[fNa_ (fun j=>same (xs.getD j default) (ys.getD j default)) (r0:=false) (fun j hj _=>?_),as_2 h]
 ·cases same xs ys<;>rfl
 ·rw[igD_ hj,igD_ (h▸hj),ak,ak,hf _ (gDm_ hj),ak]
  cases same (xs.getD j default) (ys.getD j default)<;>rfl
theorem ld_{α:Type}(xs ys:List α):decide ((xs.length:Int)=(ys.length:Int))=decide (xs.length=ys.length):=decide_eq_decide.2 (by omega)
theorem Tt.same_u(a b:Tt):same a b=(decide (a.Name=b.Name)&&same a.Args b.Args):=by
 rw[Bool.eq_iff_iff,si_,aA,si_,decide_eq_true_iff]
 constructor
 ·rintro rfl; exact⟨rfl,rfl⟩
 ·rintro ⟨h1,h2⟩; rw[← a.eta,← b.eta,h1,h2]
theorem lSe_3(a:Tt):∀ b n,2*av a≤n→slS_2 n a b=some (same a b)∧iET_ n a b=some (same a b):=by
 refine Tt.ind' (M:=fun a=>∀ b n,2*av a≤n→slS_2 n a b=some (same a b)∧iET_ n a b=some (same a b)) (fun a ih b n hn=>?_) a
 have hp:=a.pos
 cases n with
 | zero=>omega
 | succ n=>
  rw[slS_2,iET_,Tt.same_u]
  unfold sEF_2
  rw[ld_]
  cases decide (a.Name=b.Name)
  ·exact⟨rfl,rfl⟩
  ·by_cases h:a.Args.length=b.Args.length
   ·have k:=fun x (hx:x∈a.Args) y=>ih x hx y n (by have:=Tt.lt hx; omega)
    rw[decide_eq_true h,cond_true,cond_true,sl_ (slS_2 n) a.Args b.Args h (fun x hx y=>(k x hx y).1)]
    refine⟨rfl,?_⟩
    rw[cond_true,cond_true,sl_ (iET_ n) a.Args b.Args h (fun x hx y=>(k x hx y).2)]; rfl
   ·rw[decide_eq_false h,sl_1 h]; exact⟨rfl,rfl⟩
theorem lSo_1(a b:Tt):slS_11 a b=some (same a b):=le_ ⟨_,fun n hn=>(lSe_3 a b n hn).1⟩
theorem ETo_(a b:Tt):iET_1 a b=some (same a b):=le_ ⟨_,fun n hn=>(lSe_3 a b n hn).2⟩
theorem Ft.same_u(a b:Ft):same a b=(decide (a.Op=b.Op)&&(same a.Atom b.Atom&&(decide (a.Var=b.Var)&&same a.Parts b.Parts))):=by
 rw[Bool.eq_iff_iff,si_,aA,aA,aA,si_,si_,decide_eq_true_iff,decide_eq_true_iff]
 constructor
 ·rintro rfl; exact⟨rfl,rfl,rfl,rfl⟩
 ·rintro ⟨h1,h2,h3,h4⟩; rw[← a.eta,← b.eta,h1,h2,h3,h4]
theorem lSe_2(a:Ft):∀ b n,2*av a≤n→slS_1 n a b=some (same a b)∧isF_ n a b=some (same a b):=by
 refine Ft.ind' (M:=fun a=>∀ b n,2*av a≤n→slS_1 n a b=some (same a b)∧isF_ n a b=some (same a b)) (fun a ih b n hn=>?_) a
 have hp:=a.pos
 cases n with
 | zero=>omega
 | succ n=>
  rw[slS_1,isF_,Ft.same_u,lSo_1,ETo_]
  unfold sEF_
  simp only[ld_,ak]
  generalize decide (a.Op=b.Op)=x
  generalize decide (a.Var=b.Var)=y
  generalize same a.Atom b.Atom=z
  by_cases h:a.Parts.length=b.Parts.length
  ·have k:=fun x (hx:x∈a.Parts) y=>ih x hx y n (by have:=Ft.lt hx; omega)
   rw[decide_eq_true h,sl_ (slS_1 n) a.Parts b.Parts h (fun x hx y=>(k x hx y).1),sl_ (isF_ n) a.Parts b.Parts h (fun x hx y=>(k x hx y).2)]
   generalize same a.Parts b.Parts=w
   revert x y z w; decide
  ·rw[decide_eq_false h,sl_1 h]
   simp only[cond_false,ak]
   revert x y z; decide
theorem lSo_(a b:Ft):slS_5 a b=some (same a b):=le_ ⟨_,fun n hn=>(lSe_2 a b n hn).1⟩
theorem sFo_(a b:Ft):isF_2 a b=some (same a b):=le_ ⟨_,fun n hn=>(lSe_2 a b n hn).2⟩
end
section
def Srt(l:List ByteArray):Prop:=l.Pairwise fun a b=>slt a b=true
theorem si_1(a:ByteArray):slt a a=false:=bLi_ _
theorem Srt.nodup{l:List ByteArray}(hl:Srt l):l.Nodup:=hl.imp (fun {x y} h e=>by subst e; rw[si_1] at h; cases h)
def leB(x y:List UInt8):Bool:=decide (x≤y)
theorem sBp_(a:List ByteArray):(sB_ a).Perm a:=by
 have h1:((a.map fun x=>x.data.toList).mergeSort leB).Perm (a.map fun x=>x.data.toList):=List.mergeSort_perm _ _
 have h2:=h1.map (fun l:List UInt8=>(⟨l.toArray⟩:ByteArray))
 rw[List.map_map] at h2
 have e:((fun l:List UInt8=>(⟨l.toArray⟩:ByteArray))∘fun x:ByteArray=>x.data.toList)=id:=by funext x; cases x; rfl
 rw[e,List.map_id] at h2
 exact h2
def putS(x:ByteArray):List ByteArray→List ByteArray
 | []=>[x]
 | y::l=>if slt y x=true then y::putS x l else if y=x then y::l else x::y::l
theorem pSm_(x z:ByteArray):∀ l,z∈putS x l↔z=x∨z∈l
 | []=>by simp[putS]
 | y::l=>by
  simp only[putS]
  split
  ·simp only[bg,pSm_ x z l]
   constructor
   ·rintro (h | h | h)<;>simp[h]
   ·rintro (h | h | h)<;>simp[h]
  ·split
   ·rename_i h; subst h; simp
   ·simp
theorem pSl_(x:ByteArray):∀ l,(putS x l).length≤l.length+1
 | []=>by simp[putS]
 | y::l=>by
  have:=pSl_ x l
  simp only[putS]
  split
  ·simp only[aO]; omega
  ·split<;>simp
end
section
mutual
def Tt.vars:Tt→List ByteArray
 | .mk x l=>bif iVS_ x then [x] else Tv_ l
def Tv_:List Tt→List ByteArray
 | []=>[]
 | a::l=>a.vars++Tv_ l
end
theorem Tvu_(t:Tt):t.vars=bif iVS_ t.Name then [t.Name] else Tv_ t.Args:=by cases t; rw[Tt.vars]; rfl
theorem Tt.cnt_u(t:Tt):t.cnt=1+Tt.cnts t.Args:=by cases t; rw[Tt.cnt]; rfl
theorem nC_{t:Tt}(h:t.good=true):(iVS_ t.Name=true∧t.Args=[])∨(iVS_ t.Name=false∧iSS_ t.Name=true∧t.Args.length≤4∧∀ a∈t.Args,a.good=true):=by
 rw[Tt.good_u] at h
 cases hv:iVS_ t.Name
 ·rw[hv,cond_false] at h
  simp only[aA,decide_eq_true_eq,a7] at h
  exact Or.inr ⟨rfl,h.1.1,h.1.2,h.2⟩
 ·rw[hv,cond_true] at h
  exact Or.inl ⟨rfl,by simpa using h⟩
theorem iVg_{t:Tt}(h:t.good=true):iiV_2 t=some (iVS_ t.Name):=by
 unfold iiV_2
 rcases nC_ h with⟨hv,_⟩ | ⟨hv,hs,_⟩
 ·have h2:=hv
  unfold iVS_ at h2
  rw[aA] at h2
  have hz:0<t.Name.size:=by have:=iRi_.1 h2.1; omega
  have h3:=List.all_eq_true.1 h2.2 0 (by simpa using hz)
  rw[s_1 hz,ak,iUe_,ak,hv]
  simpa[varC] using h3
 ·have h2:=hs
  unfold iSS_ at h2
  rw[aA,aA] at h2
  have hz:0<t.Name.size:=by have:=iRi_.1 h2.1.1; omega
  have h3:=List.all_eq_true.1 h2.1.2 0 (by simpa using hz)
  rw[s_1 hz,ak,iUe_,ak,hv]
  have h4:cLow (byt t.Name 0)=true:=by simpa[symC] using h3
  have h5:=iRi_.1 h4
  congr 1
  rw[← Bool.not_eq_true]
  intro g
  have:=iRi_.1 g
  omega
def VS(Q:List ByteArray→Prop)(acc v:List ByteArray)(vs:List ByteArray)(c:Nat):Prop:=(∀ x,x∈v↔x∈acc∨x∈vs)∧v.length≤acc.length+c∧(Q acc→Q v)
theorem vl_1(Q:List ByteArray→Prop)(F:Nat→List ByteArray→Tt→Option (List ByteArray))(N:Nat):∀ (l:List Tt) (i:Nat) (acc:List ByteArray),
 (∀ a∈l,∀ acc,Q acc→acc.length+a.cnt≤1000→∃ v,(∀ n,N≤n→F n acc a=some v)∧VS Q acc v a.vars a.cnt)→Q acc→acc.length+Tt.cnts l≤1000→
 ∃ v,(∀ n,N≤n→forL (ρ:=List ByteArray) (fun _ x s=>(F n s x).bind fun w=>some (.nx w)) l i acc=some (.inr v))∧VS Q acc v (Tv_ l) (Tt.cnts l)
 | [],i,acc,_,hq,_=>⟨acc,fun _ _=>rfl,fun x=>by simp[Tv_],by simp[Tt.cnts],id⟩
 | a::l,i,acc,h,hq,hb=>by
  simp only[Tt.cnts] at hb
  obtain⟨v,h1,h2,h3,h4⟩:=h a (by simp) acc hq (by omega)
  obtain⟨w,g1,g2,g3,g4⟩:=vl_1 Q F N l (i+1) v (fun b hb=>h b (by simp[hb])) (h4 hq) (by omega)
  refine⟨w,fun n hn=>?_,fun x=>?_,?_,fun q=>g4 (h4 q)⟩
  ·rw[fLn_ (s':=v) (by rw[h1 n hn]; rfl),g1 n hn]
  ·rw[g2,h2,Tv_,aT,or_assoc]
  ·simp only[Tt.cnts]; omega
theorem cNo_(t:Tt):t.good=true→∀ acc,True→acc.length+t.cnt≤1000→∃ v,(∀ n,2*av t≤n→icN_1 n acc t=some v)∧VS (fun _=>True) acc v t.vars t.cnt:=by
 refine Tt.ind' (M:=fun t=>t.good=true→∀ acc,True→acc.length+t.cnt≤1000→∃ v,(∀ n,2*av t≤n→icN_1 n acc t=some v)∧VS (fun _=>True) acc v t.vars t.cnt) (fun t ih hg acc _ hb=>?_) t
 have hp:=t.pos
 have hiv:=iVg_ hg
 rcases nC_ hg with⟨hv,ha⟩ | ⟨hv,hs,_,hall⟩
 ·rw[Tvu_,hv,cond_true]
  have hc:=t.cnt_pos
  refine⟨bif acc.any (fun v=>decide (t.Name=v)) then acc else acc++[t.Name],fun n hn=>?_,fun x=>?_,?_,fun _=>trivial⟩
  ·cases n with
   | zero=>omega
   | succ n=>
    rw[icN_1,hiv,hv,ha]
    simp only[ak,bf,Cs_]
    cases acc.any (fun v=>decide (t.Name=v))
    ·simp only[cond_false,cond_true,app]
     rw[if_pos (by simp only[aO,bf]; omega)]; rfl
    ·rfl
  ·cases e:acc.any (fun v=>decide (t.Name=v))
   ·simp
   ·rw[cond_true]
    rw[List.any_eq_true] at e
    obtain⟨y,y1,y2⟩:=e
    have y2:=of_decide_eq_true y2
    refine⟨Or.inl,fun g=>g.elim id fun g=>?_⟩
    rw[List.mem_singleton] at g
    rw[g,y2]; exact y1
  ·cases acc.any (fun v=>decide (t.Name=v))
   ·simp only[cond_false,aP,aO,bf]; omega
   ·simp only[cond_true]; omega
 ·rw[Tvu_,hv,cond_false]
  have hcu:=t.cnt_u
  obtain⟨v,h1,h2,h3,h4⟩:=vl_1 (fun _=>True) (fun n s x=>icN_1 n s x) (2*av t-1) t.Args 0 acc (fun a ha acc _ hb=>by
   obtain⟨v,k1,k2⟩:=ih a ha (hall a ha) acc trivial hb
   exact⟨v,fun n hn=>k1 n (by have:=Tt.lt ha; omega),k2⟩) trivial (by omega)
  refine⟨v,fun n hn=>?_,h2,by omega,h4⟩
  cases n with
  | zero=>omega
  | succ n=>
   rw[icN_1,hiv,hv]
   simp only[ak,cond_false,Bool.cond_self,fNi_]
   rw[h1 n (by omega)]; rfl
theorem lPe_(x:ByteArray)(l:List ByteArray)(hl:l.length≤1048576):slP_2 l x=some (putS x l):=by
 unfold slP_2
 have tl:∀ {β:Type} (K:List ByteArray→Option β) (pre rest:List ByteArray),pre.length+rest.length≤1048576→(aa (slc (pre++rest) (0:Int) (pre.length:Int)) fun v36=>aa (app ([]) v36) fun v37=>aa (app v37 ([x])) fun v40=>aa (slc (pre++rest) (pre.length:Int) ((pre++rest).length:Int)) fun v43=>aa (app v40 v43) fun v44=>K v44)=K (pre++x::rest):=by
  intro β K pre rest h
  have e1:slc (pre++rest) (0:Int) (pre.length:Int)=some pre:=by
   unfold slc; rw[if_pos ⟨by omega,by omega,by simp; omega⟩]; simp
  have e2:slc (pre++rest) (pre.length:Int) ((pre++rest).length:Int)=some rest:=by
   unfold slc; rw[if_pos ⟨by omega,by simp; omega,by omega⟩]; simp only[Int.toNat_natCast,List.take_length,List.drop_left]
  rw[e1,e2]
  simp only[ak,app,bf,Nat.zero_add,List.nil_append]
  rw[if_pos (by omega)]
  simp only[ak,aO,bf]
  rw[if_pos (by omega)]
  simp only[ak,aP,aO,bf]
  rw[if_pos (by omega)]
  simp
 have key:∀ (rest pre:List ByteArray),pre.length+rest.length≤1048576→
  tL_ (ρ:=List ByteArray) (forN (fun (i2:Nat) (s2:Unit)=>
   aa (idx (pre++rest) (i2:Int)) fun v13=>
   bif Op.bytesLess v13.data.toList x.data.toList then some (.nx ())
   else aa (idx (pre++rest) (i2:Int)) fun v27=>bif decide (v27=x) then some (.rt (pre++rest)) else
    aa (slc (pre++rest) (0:Int) (i2:Int)) fun v36=>aa (app ([]) v36) fun v37=>aa (app v37 ([x])) fun v40=>aa (slc (pre++rest) (i2:Int) ((pre++rest).length:Int)) fun v43=>aa (app v40 v43) fun v44=>some (.rt v44)) rest.length pre.length ()) (fun _=>
   aa (slc (pre++rest) (0:Int) (((pre++rest).length:Nat):Int)) fun v36=>aa (app ([]) v36) fun v37=>aa (app v37 ([x])) fun v40=>aa (slc (pre++rest) (((pre++rest).length:Nat):Int) ((pre++rest).length:Int)) fun v43=>aa (app v40 v43) fun v44=>some v44)=some (pre++putS x rest):=by
  intro rest
  induction rest with
  | nil=>
   intro pre h
   have:=tl some pre [] (by simpa using h)
   simpa[putS,forN,tLi_] using this
  | cons y rest ih=>
   intro pre h
   simp only[putS,aO]
   by_cases hy:slt y x=true
   ·rw[fNn_ (s':=()) (by rw[im_,ak,show Op.bytesLess y.data.toList x.data.toList=true from hy]; rfl),if_pos hy]
    have:=ih (pre++[y]) (by simp at h ⊢; omega)
    simpa using this
   ·have hy':Op.bytesLess y.data.toList x.data.toList=false:=by simpa[slt] using hy
    by_cases e:y=x
    ·rw[fNr_ (r:=pre++y::rest) (by rw[im_,ak,hy',cond_false,ak,decide_eq_true e]; rfl),tLi_1,if_neg hy,if_pos e]
    ·rw[fNr_ (r:=pre++x::y::rest) (by
      rw[im_,ak,hy',cond_false,ak,decide_eq_false e,cond_false]
      exact tl (fun v=>some (Flow.rt v)) pre (y::rest) h),tLi_1,if_neg hy,if_neg e]
 exact key l [] (by simpa using hl)
end
section
theorem mapL{α β ρ:Type}{f:α→Option β}{g:α→β}:∀ (l:List α) (i:Nat) (s:List β),(∀ a∈l,f a=some (g a))→s.length+l.length≤1073741824→
 forL (ρ:=ρ) (fun _ x (s:List β)=>(f x).bind fun v=>(app s [v]).bind fun w=>some (.nx w)) l i s=some (.inr (s++l.map g))
 | [],i,s,_,_=>by simp[forL]
 | a::l,i,s,h,hb=>by
  simp only[aO] at hb
  rw[fLn_ (s':=s++[g a]) (by rw[h a (by simp),ak]; unfold app; rw[if_pos (by simp only[aO,bf]; omega)]; rfl),
   mapL l (i+1) _ (fun b hb=>h b (by simp[hb])) (by simp only[aP,aO,bf]; omega)]
  simp
theorem setL{α β ρ:Type}(f:α→Option β)(g:α→β)(z:β):∀ (xs:List α) (pre:List β),(∀ x∈xs,f x=some (g x))→
 forL (ρ:=ρ) (fun i v s=>(f v).bind fun w=>(idx s (i:Int)).bind fun _=>(idx s (i:Int)).bind fun _=>some (.nx (s.set (i:Int).toNat w))) xs pre.length (pre++List.replicate xs.length z)=some (.inr (pre++xs.map g))
 | [],pre,_=>by simp[forL]
 | x::xs,pre,h=>by
  have hx:=h x (by simp)
  have e:(pre++List.replicate (x::xs).length z)[pre.length]?=some z:=by simp[List.replicate_succ]
  rw[fLn_ (s':=(pre++[g x])++List.replicate xs.length z) (by
   rw[hx,ak,in_,e,ak,ak,Int.toNat_natCast]
   simp[List.replicate_succ])]
  have:=setL (ρ:=ρ) f g z xs (pre++[g x]) (fun y hy=>h y (by simp[hy]))
  simp only[aP,aO,bf,Nat.zero_add] at this
  rw[this]; simp
theorem cl_1:∀ l:List Tt,l.length≤Tt.cnts l
 | []=>by simp
 | a::l=>by have:=cl_1 l; have:=a.cnt_pos; simp only[Tt.cnts,aO]; omega
theorem cm_{a:Tt}:∀ {l:List Tt},a∈l→a.cnt≤Tt.cnts l
 | b::l,h=>by
  simp only[Tt.cnts]
  rcases List.mem_cons.1 h with rfl | h
  ·omega
  ·have:=cm_ h; omega
theorem ml_2{n:Nat}(h:n≤1073741824):mkn (n:Int)=some n:=by unfold mkn; rw[if_pos (by omega)]; simp
theorem oT_(t:Tt):t.cnt≤10000000→∀ n,2*av t≤n→slO_9 n t=some t:=by
 refine Tt.ind' (M:=fun t=>t.cnt≤10000000→∀ n,2*av t≤n→slO_9 n t=some t) (fun t ih hc n hn=>?_) t
 have hp:=t.pos
 have hu:=t.cnt_u
 have hl:=cl_1 t.Args
 cases n with
 | zero=>omega
 | succ n=>
  rw[slO_9]
  simp only[fNi_]
  rw[mapL (f:=slO_9 n) (g:=fun x=>x) t.Args 0 [] (fun a ha=>ih a ha (by have:=cm_ ha; omega) n (by have:=Tt.lt ha; omega)) (by simp; omega),tLi_]
  simp[t.eta]
theorem ownT(t:Tt)(h:t.cnt≤10000000):slO_11 t=some t:=le_ ⟨_,oT_ t h⟩
theorem cT_1(t:Tt):t.cnt≤10000000→∀ n,3*av t≤n→icT_ n t=some t:=by
 refine Tt.ind' (M:=fun t=>t.cnt≤10000000→∀ n,3*av t≤n→icT_ n t=some t) (fun t ih hc n hn=>?_) t
 have hp:=t.pos
 have hu:=t.cnt_u
 have hl:=cl_1 t.Args
 obtain⟨m,rfl⟩:∃ m,n=m+2:=⟨n-2,by omega⟩
 show icT_ (m+2) _=_
 rw[icT_]
 show aa (icT_1 (m+1) t.Args) _=_
 rw[icT_1,iEd_]
 cases he:t.Args.isEmpty
 ·rw[cond_false,toL (f:=icT_ m) (g:=fun x=>x) (z:=(Tt.mk (⟨#[]⟩:ByteArray) ([]))) (xs:=t.Args) (fun a ha=>ih a ha (by have:=cm_ ha; omega) m (by have:=Tt.lt ha; omega)) (by omega)]
  simp[t.eta]
 ·have h0:t.Args=[]:=by simpa using he
  rw[cond_true,ak]
  conv=>rhs; rw[← t.eta,h0]
theorem cT_(t:Tt)(h:t.cnt≤10000000):icT_2 t=some t:=le_ ⟨_,cT_1 t h⟩
theorem cot_{t:Tt}(h:t.tot≤1048576):t.cnt≤10000000:=by have:=Tt.cnt_tot t; omega
theorem Ft.tot_atom(a:Ft):a.Atom.tot≤a.tot:=by rw[Ft.tot_u]; omega
theorem Ftp_{a p:Ft}(h:p∈a.Parts):p.tot+1≤a.tot:=by
 have:=tm_ aR h
 rw[Ft.tot_u a]; omega
theorem Ft.tot_len(a:Ft):a.Parts.length≤a.tot:=by
 have:=ll_ aR a.Parts
 rw[Ft.tot_u a]; omega
theorem mPe_(a:Ft)(f:Ft→Option Ft)(g:Ft→Ft)(h:∀ p∈a.Parts,f p=some (g p))(ht:a.tot≤1048576):
 imP_2 a f=some (Ft.mk a.Op a.Atom a.Var (a.Parts.map g)):=by
 unfold imP_2
 rw[cT_ _ (cot_ (by have:=a.tot_atom; omega)),ak]
 simp only[fNi_]
 rw[mapL (f:=f) (g:=g) a.Parts 0 [] h (by have:=a.tot_len; simp; omega),tLi_]
 simp
theorem cF_4(a:Ft):a.tot≤1048576→∀ n,2*av a≤n→icF_2 n a=some a:=by
 refine Ft.ind' (M:=fun a=>a.tot≤1048576→∀ n,2*av a≤n→icF_2 n a=some a) (fun a ih ht n hn=>?_) a
 have hp:=a.pos
 cases n with
 | zero=>omega
 | succ n=>
  rw[icF_2,mPe_ a _ (fun x=>x) (fun p hp=>ih p hp (by have:=Ftp_ hp; omega) n (by have:=Ft.lt hp; omega)) ht]
  simp[a.eta]
theorem cF_1(a:Ft)(h:a.tot≤1048576):icF_ a=some a:=le_ ⟨_,cF_4 a h⟩
theorem oF_(a:Ft):a.tot≤1048576→∀ n,2*av a≤n→slO_8 n a=some a:=by
 refine Ft.ind' (M:=fun a=>a.tot≤1048576→∀ n,2*av a≤n→slO_8 n a=some a) (fun a ih ht n hn=>?_) a
 have hp:=a.pos
 cases n with
 | zero=>omega
 | succ n=>
  rw[slO_8,ownT _ (cot_ (by have:=a.tot_atom; omega)),ak]
  simp only[fNi_]
  rw[mapL (f:=slO_8 n) (g:=fun x=>x) a.Parts 0 [] (fun p hp=>ih p hp (by have:=Ftp_ hp; omega) n (by have:=Ft.lt hp; omega)) (by have:=a.tot_len; simp; omega),tLi_]
  simp[a.eta]
theorem ownF(a:Ft)(h:a.tot≤1048576):slO_5 a=some a:=le_ ⟨_,oF_ a h⟩

mutual
def sbT(n:ByteArray)(t:Tt):Tt→Tt
 | .mk x l=>bif l.isEmpty&&decide (x=n) then t else .mk x (sbTs n t l)
def sbTs(n:ByteArray)(t:Tt):List Tt→List Tt
 | []=>[]
 | a::l=>sbT n t a::sbTs n t l
end
theorem sTe_1(n:ByteArray)(t:Tt)(l:List Tt):sbTs n t l=l.map (sbT n t):=by
 induction l with
 | nil=>rfl
 | cons a l ih=>rw[sbTs,ih]; rfl
theorem sTu_(n:ByteArray)(t a:Tt):sbT n t a=bif a.Args.isEmpty&&decide (a.Name=n) then t else .mk a.Name (a.Args.map (sbT n t)):=by cases a; rw[sbT,sTe_1]; rfl
theorem lPe_1(n:ByteArray)(t:Tt)(h:t.cnt≤10000000):slP_5 ⟨[]⟩ n t=some (bif decide (t.Name=n) then⟨[]⟩ else⟨[⟨n,t⟩]⟩):=by
 unfold slP_5
 cases decide (t.Name=n)
 ·simp only[cond_false,bf,fNz_,tLi_,ownT t h]
  rfl
 ·rfl
def one(n:ByteArray)(t:Tt):Sb:=bif decide (t.Name=n) then⟨[]⟩ else⟨[⟨n,t⟩]⟩
theorem fo_2(n:ByteArray)(t:Tt)(x:ByteArray):slF_5 (one n t) x=some (bif decide (t.Name=n) then -1 else bif decide (n=x) then 0 else -1):=by
 unfold one
 cases decide (t.Name=n)
 ·simp only[cond_false,slF_5,aO,bf]
  show tL_ (forN _ (0+1) 0 ()) _=_
  cases e:decide (n=x)
  ·rw[fNn_ (s':=()) (by show aa (some _) _=_; rw[ak,e]; rfl)]; rfl
  ·rw[fNr_ (r:=((0:Nat):Int)) (by show aa (some _) _=_; rw[ak,e]; rfl)]; rfl
 ·rfl
theorem sn_3{n:ByteArray}{t a:Tt}(hn:iVS_ n=true)(ha:iVS_ a.Name=false):sbT n t a=.mk a.Name (a.Args.map (sbT n t)):=by
 rw[sTu_,decide_eq_false (fun e=>by rw[e,hn] at ha; cases ha),Bool.and_false,cond_false]
theorem lAN_{n:ByteArray}{t:Tt}(hn:iVS_ n=true)(ht:t.cnt≤10000000)(hg:t.good=true)(a:Tt):a.Ok→a.good=true→∀ k,2*av a≤k→slA_ k (one n t) a=some (sbT n t a):=by
 refine Tt.ind' (M:=fun a=>a.Ok→a.good=true→∀ k,2*av a≤k→slA_ k (one n t) a=some (sbT n t a)) (fun a ih hok hga k hk=>?_) a
 have hp:=a.pos
 cases k with
 | zero=>omega
 | succ k=>
  rw[slA_,lVe_ _ hok.u.1,ak]
  rcases nC_ hga with⟨hv,ha⟩ | ⟨hv,hs,h4,hall⟩
  ·rw[hv,cond_true,fo_2,ak,sTu_,ha]
   by_cases e:t.Name=n
   ·rw[decide_eq_true e,cond_true]
    have hta:t.Args=[]:=by
     rcases nC_ hg with⟨_,h⟩ | ⟨h,_⟩
     ·exact h
     ·rw[e,hn] at h; cases h
    rw[show decide ((0:Int)≤-1)=false from rfl,cond_false]
    by_cases e2:a.Name=n
    ·rw[decide_eq_true e2]
     have:t=⟨a.Name,[]⟩:=by rw[← t.eta,hta,e,e2]
     rw[this]; rfl
    ·rw[decide_eq_false e2]; rfl
   ·rw[decide_eq_false e,cond_false]
    by_cases e2:a.Name=n
    ·rw[decide_eq_true e2.symm,decide_eq_true e2,cond_true]
     have:one n t=⟨[⟨n,t⟩]⟩:=by unfold one; rw[decide_eq_false e]; rfl
     rw[this,show decide ((0:Int)≤0)=true from rfl,cond_true]
     show aa (some _) _=_
     rw[ak,ownT t ht]; rfl
    ·rw[decide_eq_false (Ne.symm e2),decide_eq_false e2]; rfl
  ·rw[hv,cond_false,sn_3 hn hv]
   simp only[fNi_]
   rw[mapL (f:=slA_ k (one n t)) (g:=sbT n t) a.Args 0 [] (fun x hx=>ih x hx (hok.u.2.2 x hx) (hall x hx) k (by have:=Tt.lt hx; omega)) (by simp; omega),tLi_]
   simp
theorem lAa_{n:ByteArray}{t:Tt}(hn:iVS_ n=true)(ht:t.cnt≤10000000)(hg:t.good=true){a:Tt}(hok:a.Ok)(hv:iVS_ a.Name=false)(hall:∀ x∈a.Args,x.good=true)(hl:a.Args.length≤1000):slA_2 (one n t) a=some (sbT n t a):=by
 refine le_ ⟨2*av a+1,fun k hk=>?_⟩
 cases k with
 | zero=>omega
 | succ k=>
  show slA_ (k+1) _ _=_
  rw[slA_,lVe_ _ hok.u.1,ak,hv,cond_false,sn_3 hn hv]
  simp only[fNi_]
  rw[mapL (f:=slA_ k (one n t)) (g:=sbT n t) a.Args 0 [] (fun x hx=>lAN_ hn ht hg x (hok.u.2.2 x hx) (hall x hx) k (by have:=Tt.lt hx; omega)) (by simp; omega),tLi_]
  simp
def cmp3(a b:ByteArray):Int:=if slt a b=true then -1 else if a=b then 0 else 1
theorem cS_2(a b:ByteArray):cCs_ a b=some (cmp3 a b):=by
 have hz:∀ x:ByteArray,ciN_ x=some false:=fun x=>by simp[ciN_]
 unfold cCs_ cmp3
 rw[hz,hz]
 simp only[ak,cond_false]
 show(bif slt a b then _ else _)=_
 cases slt a b
 ·by_cases e:a=b
  ·rw[decide_eq_true e]; simp[e]; try omega
  ·rw[decide_eq_false e]; simp[e]
 ·rfl
theorem to_(n:ByteArray)(t:Tt)(x:ByteArray):iSt_1 ⟨[⟨n,t⟩]⟩ x=some (bif decide (n=x) then(t,true) else(Tt.mk (⟨#[]⟩:ByteArray) ([]),false)):=by
 unfold iSt_1
 have hc:∀ y0 y1,iSt_ y0 y1=some (cmp3 y0.Var y1):=fun y0 y1=>by unfold iSt_; rw[cS_2]; rfl
 have key:sBS_ [⟨n,t⟩] x (fun y0 y1=>iSt_ y0 y1)=some (if cmp3 n x<0 then(1,false) else(0,decide (cmp3 n x=0))):=by
  unfold sBS_
  simp only[hc]
  have hs:shr .u64 (IntKind.u64.wrap (IntKind.i64.wrap ((0:Int)+((([⟨n,t⟩]:List Bt).length:Nat):Int)))) 1=some 0:=rfl
  have hl:decide ((0:Int)<((([⟨n,t⟩]:List Bt).length:Nat):Int))=true:=rfl
  by_cases h:cmp3 n x<0
  ·rw[le_ (r:=.inr ((1:Int),(1:Int))) ⟨2,fun k hk=>by
    obtain⟨m,rfl⟩:∃ m,k=m+2:=⟨k-2,by omega⟩
    show aa (bif decide ((0:Int)<((([⟨n,t⟩]:List Bt).length:Nat):Int)) then _ else _) _=_
    rw[hl,cond_true,hs,ak]
    show aa (bif decide (cmp3 n x<0) then _ else _) _=_
    rw[decide_eq_true h,cond_true,ak]
    rfl⟩,if_pos h]; rfl
  ·rw[le_ (r:=.inr ((0:Int),(0:Int))) ⟨2,fun k hk=>by
    obtain⟨m,rfl⟩:∃ m,k=m+2:=⟨k-2,by omega⟩
    show aa (bif decide ((0:Int)<((([⟨n,t⟩]:List Bt).length:Nat):Int)) then _ else _) _=_
    rw[hl,cond_true,hs,ak]
    show aa (bif decide (cmp3 n x<0) then _ else _) _=_
    rw[decide_eq_false h,cond_false,ak]
    rfl⟩,if_neg h]; rfl
 rw[key]
 unfold cmp3
 by_cases h:slt n x=true
 ·have hne:¬ n=x:=fun e=>by rw[e,si_1] at h; cases h
  rw[if_pos h,decide_eq_false hne]; rfl
 ·rw[if_neg h]
  by_cases e:n=x
  ·rw[if_pos e,decide_eq_true e]; rfl
  ·rw[if_neg e,decide_eq_false e]; rfl
theorem aNe_{n:ByteArray}{t:Tt}(ht:t.cnt≤10000000)(a:Tt):a.cnt≤10000000→∀ k,2*av a≤k→iSa_ k ⟨[⟨n,t⟩]⟩ a=some (sbT n t a):=by
 refine Tt.ind' (M:=fun a=>a.cnt≤10000000→∀ k,2*av a≤k→iSa_ k ⟨[⟨n,t⟩]⟩ a=some (sbT n t a)) (fun a ih hc k hk=>?_) a
 have hp:=a.pos
 have hu:=a.cnt_u
 have hl:=cl_1 a.Args
 cases k with
 | zero=>omega
 | succ k=>
  rw[iSa_,iEd_,sTu_]
  cases he:a.Args.isEmpty
  ·rw[cond_false,ml_2 (by omega),ak,Bool.false_and,cond_false]
   simp only[fNi_]
   have:=setL (ρ:=Tt) (iSa_ k ⟨[⟨n,t⟩]⟩) (sbT n t) (Tt.mk (⟨#[]⟩:ByteArray) ([])) a.Args [] (fun x hx=>ih x hx (by have:=cm_ hx; omega) k (by have:=Tt.lt hx; omega))
   simp only[bf,List.nil_append] at this
   rw[this,tLi_]
  ·have h0:a.Args=[]:=by simpa using he
   rw[cond_true,to_,ak,Bool.true_and,h0]
   by_cases e:a.Name=n
   ·rw[decide_eq_true e.symm,decide_eq_true e,cond_true]
    simp only[cond_true,cT_ t ht,ak]
   ·rw[decide_eq_false (Ne.symm e),decide_eq_false e]; rfl
theorem ae_{n:ByteArray}{t a:Tt}(ht:t.cnt≤10000000)(ha:a.cnt≤10000000):iSa_1 ⟨[⟨n,t⟩]⟩ a=some (sbT n t a):=le_ ⟨_,aNe_ ht a ha⟩

mutual
def Tt.occ(v:ByteArray):Tt→Nat
 | .mk x l=>(bif decide (x=v) then 1 else 0)+To_ v l
def To_(v:ByteArray):List Tt→Nat
 | []=>0
 | a::l=>a.occ v+To_ v l
end
theorem Tou_(v:ByteArray)(a:Tt):a.occ v=(bif decide (a.Name=v) then 1 else 0)+To_ v a.Args:=by cases a; rw[Tt.occ]; rfl
theorem cl_6(v:ByteArray)(a:Tt):a.occ v≤a.cnt:=by
 refine Tt.ind' (M:=fun a=>a.occ v≤a.cnt) (fun a ih=>?_) a
 have:∀ l:List Tt,(∀ x∈l,x.occ v≤x.cnt)→To_ v l≤Tt.cnts l:=by
  intro l
  induction l with
  | nil=>intro _; simp[To_]
  | cons b l ihl=>intro h; have:=h b (by simp); have:=ihl (fun x hx=>h x (by simp[hx])); simp only[To_,Tt.cnts]; omega
 have:=this a.Args ih
 rw[Tou_,a.cnt_u]
 cases decide (a.Name=v)<;>simp<;>omega
theorem cl_5(v:ByteArray):∀ l:List Tt,To_ v l≤Tt.cnts l
 | []=>by simp[To_]
 | a::l=>by have:=cl_6 v a; have:=cl_5 v l; simp only[To_,Tt.cnts]; omega
theorem cl_3(v:ByteArray)(f:Tt→Option Int):∀ (l:List Tt) (i s:Nat),(∀ x∈l,f x=some (x.occ v:Int))→s+To_ v l≤1000000000→
 forL (ρ:=Int) (fun _ x (s:Int)=>(f x).bind fun c=>some (.nx (IntKind.i64.wrap (s+c)))) l i (s:Int)=some (.inr ((s+To_ v l:Nat):Int))
 | [],i,s,_,_=>by simp[forL,To_]
 | a::l,i,s,h,hb=>by
  simp only[To_] at hb
  rw[fLn_ (s':=((s+a.occ v:Nat):Int)) (by rw[h a (by simp),ak,w_ (by omega) (by omega)]; simp),cl_3 v f l (i+1) _ (fun x hx=>h x (by simp[hx])) (by omega)]
  simp only[To_,Nat.add_assoc]
theorem cNe_(v:ByteArray)(a:Tt):a.cnt≤10000000→∀ n,2*av a≤n→icN_ n a v=some (a.occ v:Int):=by
 refine Tt.ind' (M:=fun a=>a.cnt≤10000000→∀ n,2*av a≤n→icN_ n a v=some (a.occ v:Int)) (fun a ih hc n hn=>?_) a
 have hp:=a.pos
 have hu:=a.cnt_u
 have hcl:=cl_5 v a.Args
 cases n with
 | zero=>omega
 | succ n=>
  have hf:∀ x∈a.Args,icN_ n x v=some (x.occ v:Int):=fun x hx=>ih x hx (by have:=cm_ hx; omega) n (by have:=Tt.lt hx; omega)
  rw[icN_,Tou_]
  simp only[fNi_]
  cases decide (a.Name=v)
  ·have:=cl_3 v (fun x=>icN_ n x v) a.Args 0 0 hf (by omega)
   rw[cond_false,show((0:Nat):Int)=0 from rfl] at*
   rw[this,tLi_]; simp
  ·have:=cl_3 v (fun x=>icN_ n x v) a.Args 0 1 hf (by omega)
   rw[cond_true,show((1:Nat):Int)=1 from rfl] at*
   rw[this,tLi_]; simp
theorem cv_1{v:ByteArray}(hv:iVS_ v=true)(a:Tt):a.good=true→(0<a.occ v↔v∈a.vars):=by
 refine Tt.ind' (M:=fun a=>a.good=true→(0<a.occ v↔v∈a.vars)) (fun a ih hg=>?_) a
 rw[Tou_,Tvu_]
 rcases nC_ hg with⟨h1,h2⟩ | ⟨h1,_,_,hall⟩
 ·rw[h1,cond_true,h2,List.mem_singleton]
  by_cases e:a.Name=v
  ·rw[decide_eq_true e]; simp[e]; try omega
  ·rw[decide_eq_false e]; simp[To_,Ne.symm e]
 ·rw[h1,cond_false,decide_eq_false (fun e=>by rw[e,hv] at h1; cases h1),cond_false,Nat.zero_add]
  have:∀ l:List Tt,(∀ x∈l,(0<x.occ v↔v∈x.vars))→(0<To_ v l↔v∈Tv_ l):=by
   intro l
   induction l with
   | nil=>intro _; simp[To_,Tv_]
   | cons b l ihl=>
    intro h
    simp only[To_,Tv_,aT]
    rw[← h b (by simp),← ihl (fun x hx=>h x (by simp[hx]))]; omega
  exact this a.Args (fun x hx=>ih x hx (hall x hx))
def hasV(v:ByteArray)(l:List ByteArray):Bool:=l.any fun y=>decide (v=y)
theorem hVi_{v:ByteArray}{l:List ByteArray}:hasV v l=true↔v∈l:=by
 unfold hasV; rw[List.any_eq_true]
 exact⟨fun ⟨y,h1,h2⟩=>by rw[of_decide_eq_true h2]; exact h1,fun h=>⟨v,h,decide_eq_true rfl⟩⟩
theorem hVc_{v:ByteArray}{l m:List ByteArray}(h:v∈l↔v∈m):hasV v l=hasV v m:=by
 rw[Bool.eq_iff_iff,hVi_,hVi_]; exact h
theorem oe_1{v:ByteArray}(hv:iVS_ v=true){a:Tt}(hg:a.good=true)(hc:a.cnt≤10000000):io_ v a=some (hasV v a.vars):=by
 unfold io_
 rw[show icN_2 a v=some (a.occ v:Int) from le_ ⟨_,cNe_ v a hc⟩,ak]
 congr 1
 rw[Bool.eq_iff_iff,hVi_,← cv_1 hv a hg,decide_eq_true_iff]
 omega
theorem lIe_1(l:List ByteArray)(v:ByteArray):slI_5 l v=some (hasV v l):=by
 unfold slI_5
 simp only[fNi_]
 have:∀ (l:List ByteArray) (i:Nat),tL_ (ρ:=Bool) (forL (fun _ x (_:Unit)=>bif decide (x=v) then some (.rt true) else some (.nx ())) l i ()) (fun _=>some false)=some (hasV v l):=by
  intro l
  induction l with
  | nil=>intro i; rfl
  | cons y l ih=>
   intro i
   by_cases e:y=v
   ·rw[fLr_ (r:=true) (by rw[decide_eq_true e]; rfl),tLi_1]; simp[hasV,e]
   ·rw[fLn_ (s':=()) (by rw[decide_eq_false e]; rfl),ih]; simp[hasV,Ne.symm e]
 exact this l 0
end
section
theorem fu_1{s:ByteArray}(h:iVS_ s=true):0<s.size∧cUp (byt s 0)=true:=by
 unfold iVS_ at h
 rw[aA] at h
 have hz:0<s.size:=by have:=iRi_.1 h.1; omega
 have h3:=List.all_eq_true.1 h.2 0 (by simpa using hz)
 exact⟨hz,by simpa[varC] using h3⟩
theorem fl_3{s:ByteArray}(h:iSS_ s=true):0<s.size∧cUp (byt s 0)=false:=by
 unfold iSS_ at h
 rw[aA,aA] at h
 have hz:0<s.size:=by have:=iRi_.1 h.1.1; omega
 have h3:=List.all_eq_true.1 h.1.2 0 (by simpa using hz)
 have h4:cLow (byt s 0)=true:=by simpa[symC] using h3
 have h5:=iRi_.1 h4
 refine⟨hz,?_⟩
 rw[← Bool.not_eq_true]
 intro g
 have:=iRi_.1 g
 omega
theorem snv_{s:ByteArray}(h:iSS_ s=true):iVS_ s=false:=by
 rw[← Bool.not_eq_true]
 intro g
 have h1:=(fl_3 h).2
 rw[(fu_1 g).2] at h1; cases h1
theorem ef_1:cUp (byt (⟨#[61]⟩:ByteArray) 0)=false:=rfl
theorem env_:iVS_ (⟨#[61]⟩:ByteArray)=false:=by
 rw[← Bool.not_eq_true]
 intro g
 have h1:=(fu_1 g).2
 rw[ef_1] at h1; cases h1
structure AtomOk(a:Tt):Prop where
 nv:iVS_ a.Name=false
 hall:∀ x∈a.Args,x.good=true
 cnt:a.cnt≤30
 isv:iiV_2 a=some false
theorem sTc_{t:Tt}(h:sT_ t=true):t.cnt≤30:=by
 unfold sT_ at h; rw[aA] at h; exact of_decide_eq_true h.1
theorem gTi_{t:Tt}(h:gT_ t=true):t.good=true∧t.cnt≤30:=by
 unfold gT_ at h; rw[aA] at h; exact⟨h.2,sTc_ h.1⟩
theorem aTo_{a:Tt}(h:aT_ a=true):AtomOk a:=by
 unfold aT_ at h
 by_cases e:a.Name=(⟨#[61]⟩:ByteArray)
 ·rw[decide_eq_true e,cond_true] at h
  simp only[aA,a7] at h
  refine⟨by rw[e]; exact env_,h.2.2,sTc_ h.2.1,?_⟩
  unfold iiV_2
  rw[s_1 (by rw[e]; exact Nat.lt_of_lt_of_eq Nat.zero_lt_one rfl),ak,iUe_,ak,e,ef_1]
 ·rw[decide_eq_false e,cond_false,aA] at h
  have hv:=snv_ h.1
  obtain⟨hg,hc⟩:=gTi_ h.2
  refine⟨hv,?_,hc,by rw[iVg_ hg,hv]⟩
  rcases nC_ hg with⟨h1,_⟩ | ⟨_,_,_,h2⟩
  ·rw[hv] at h1; cases h1
  ·exact h2
theorem sBm_(l:List ByteArray)(x:ByteArray):x∈sB_ l↔x∈l:=(sBp_ l).mem_iff
theorem So_{l:List ByteArray}(h:l.length≤1000000000):sSS_ l=some ((),sB_ l):=by unfold sSS_; rw[if_pos (by omega)]
theorem ac_{a:Tt}(h:AtomOk a):∃ v,ic_1 [] a=some v∧(∀ x,x∈v↔x∈a.vars)∧v.length≤30:=by
 have hu:=a.cnt_u
 have hc:=h.cnt
 obtain⟨v,h1,h2,h3,_⟩:=vl_1 (fun _=>True) (fun n s x=>icN_1 n s x) (2*av a) a.Args 0 [] (fun x hx acc _ hb=>by
  obtain⟨v,k1,k2⟩:=cNo_ x (h.hall x hx) acc trivial hb
  exact⟨v,fun n hn=>k1 n (by have:=Tt.lt hx; omega),k2⟩) trivial (by simp; omega)
 refine⟨v,le_ ⟨2*av a+1,fun n hn=>?_⟩,fun x=>?_,by simp at h3; omega⟩
 ·cases n with
  | zero=>omega
  | succ n=>
   show icN_1 (n+1) [] a=_
   rw[icN_1,h.isv]
   simp only[ak,cond_false,Bool.cond_self,fNi_]
   rw[h1 n (by omega)]; rfl
 ·rw[h2,Tvu_,h.nv]; simp
theorem av_{a:Tt}(h:AtomOk a):∃ v,iv_ a=some v∧(∀ x,x∈v↔x∈a.vars)∧v.length≤30:=by
 obtain⟨v,h1,h2,h3⟩:=ac_ h
 unfold iv_
 rw[h1,ak,So_ (by omega),ak]
 exact⟨_,rfl,fun x=>by rw[sBm_,h2],by rw[(sBp_ v).length_eq]; exact h3⟩
theorem lIN_(t:Tt):t.Ok→t.good=true→∀ acc,True→acc.length+t.cnt≤1000→∃ v,(∀ n,2*av t≤n→slI_3 n acc t=some v)∧VS (fun _=>True) acc v t.vars t.cnt:=by
 refine Tt.ind' (M:=fun t=>t.Ok→t.good=true→∀ acc,True→acc.length+t.cnt≤1000→∃ v,(∀ n,2*av t≤n→slI_3 n acc t=some v)∧VS (fun _=>True) acc v t.vars t.cnt) (fun t ih hok hg acc _ hb=>?_) t
 have hp:=t.pos
 have hcp:=t.cnt_pos
 rcases nC_ hg with⟨hv,ha⟩ | ⟨hv,hs,_,hall⟩
 ·refine⟨putS t.Name acc,fun n hn=>?_,fun x=>?_,?_,fun _=>trivial⟩
  ·cases n with
   | zero=>omega
   | succ n=>rw[slI_3,lVe_ _ hok.u.1,ak,hv,cond_true,lPe_ _ _ (by omega)]; rfl
  ·rw[pSm_,Tvu_,hv,cond_true,List.mem_singleton,or_comm]
  ·have:=pSl_ t.Name acc; omega
 ·have hcu:=t.cnt_u
  obtain⟨v,h1,h2,h3,_⟩:=vl_1 (fun _=>True) (fun n s x=>slI_3 n s x) (2*av t-1) t.Args 0 acc (fun a ha acc _ hb=>by
   obtain⟨v,k1,k2⟩:=ih a ha (hok.u.2.2 a ha) (hall a ha) acc trivial hb
   exact⟨v,fun n hn=>k1 n (by have:=Tt.lt ha; omega),k2⟩) trivial (by omega)
  refine⟨v,fun n hn=>?_,fun x=>by rw[h2,Tvu_,hv,cond_false],by omega,fun _=>trivial⟩
  cases n with
  | zero=>omega
  | succ n=>
   rw[slI_3,lVe_ _ hok.u.1,ak,hv]
   simp only[cond_false,fNi_]
   rw[h1 n (by omega)]; rfl
theorem lVo_{t:Tt}(hok:t.Ok)(hg:t.good=true)(hc:t.cnt≤1000):∃ v,slV_1 t=some v∧(∀ x,x∈v↔x∈t.vars):=by
 obtain⟨v,h1,h2,_⟩:=lIN_ t hok hg [] trivial (by simpa using hc)
 refine⟨v,?_,fun x=>by simpa using h2 x⟩
 unfold slV_1
 rw[show slI_11 [] t=some v from le_ ⟨_,h1⟩]; rfl
theorem alV_{a:Tt}(hok:a.Ok)(h:AtomOk a):∃ v,slV_1 a=some v∧(∀ x,x∈v↔x∈a.vars)∧v.length≤30:=by
 have hu:=a.cnt_u
 have hc:=h.cnt
 obtain⟨v,h1,h2,h3,_⟩:=vl_1 (fun _=>True) (fun n s x=>slI_3 n s x) (2*av a) a.Args 0 [] (fun x hx acc _ hb=>by
  obtain⟨v,k1,k2⟩:=lIN_ x (hok.u.2.2 x hx) (h.hall x hx) acc trivial hb
  exact⟨v,fun n hn=>k1 n (by have:=Tt.lt hx; omega),k2⟩) trivial (by simp; omega)
 refine⟨v,?_,fun x=>?_,by simp at h3; omega⟩
 ·unfold slV_1
  rw[show slI_11 [] a=some v from le_ ⟨2*av a+1,fun n hn=>?_⟩]
  ·rfl
  ·cases n with
   | zero=>omega
   | succ n=>
    show slI_3 (n+1) [] a=_
    rw[slI_3,lVe_ _ hok.u.1,ak,h.nv]
    simp only[cond_false,fNi_]
    rw[h1 n (by omega)]; rfl
 ·rw[h2,Tvu_,h.nv]; simp

def isQ(o:Int):Bool:=decide (o=8)||decide (o=9)
theorem zTi_1{t:Tt}:zT_ t=true↔t=⟨⟨#[]⟩,[]⟩:=by
 unfold zT_
 rw[aA,decide_eq_true_iff,List.isEmpty_iff]
 constructor
 ·rintro ⟨h1,h2⟩; rw[← t.eta,h1,h2]
 ·intro h; rw[h]; exact⟨rfl,rfl⟩
theorem gs_{a:Ft}(h:a.good=true):fC_ a.Op a.Atom a.Var a.Parts.length=true∧∀ p∈a.Parts,p.good=true:=by
 rw[Ft.good_u,aA] at h
 exact⟨h.1,List.all_eq_true.1 h.2⟩
theorem fCc_{o:Int}{t:Tt}{v:ByteArray}{k:Nat}(h:fC_ o t v k=true):
 (o=3∧isQ o=false∧k=0∧aT_ t=true∧v=⟨#[]⟩)∨(o≠3∧isQ o=true∧k=1∧t=⟨⟨#[]⟩,[]⟩∧iVS_ v=true)∨(o≠3∧isQ o=false∧k≤2∧t=⟨⟨#[]⟩,[]⟩∧v=⟨#[]⟩):=by
 unfold fC_ at h
 by_cases e3:o=3
 ·rw[decide_eq_true e3,cond_true] at h
  simp only[aA,decide_eq_true_eq] at h
  exact .inl ⟨e3,by rw[e3]; rfl,h.1,h.2.1,h.2.2⟩
 ·rw[decide_eq_false e3,cond_false] at h
  cases hq:(decide (o=8)||decide (o=9))
  ·rw[hq,cond_false,aA,aA] at h
   refine .inr (.inr ⟨e3,hq,?_,zTi_1.1 h.2.1,of_decide_eq_true h.2.2⟩)
   have h1:=h.1
   cases h12:(decide (o=1)||decide (o=2))
   ·rw[h12,cond_false] at h1
    cases h4:decide (o=4)
    ·rw[h4,cond_false] at h1
     cases h5:(decide (o=5)||(decide (o=6)||decide (o=7)))
     ·rw[h5] at h1; cases h1
     ·rw[h5,cond_true,decide_eq_true_iff] at h1; omega
    ·rw[h4,cond_true,decide_eq_true_iff] at h1; omega
   ·rw[h12,cond_true,decide_eq_true_iff] at h1; omega
  ·rw[hq,cond_true] at h
   simp only[aA,decide_eq_true_eq] at h
   exact .inr (.inl ⟨e3,hq,h.1,zTi_1.1 h.2.1,h.2.2⟩)
theorem fm_{a:Ft}:∀ {l:List Ft},a∈l→a.cnt≤Ft.cnts l
 | b::l,h=>by
  simp only[Ft.cnts]
  rcases List.mem_cons.1 h with rfl | h
  ·omega
  ·have:=fm_ h; omega
theorem fu_(a:Ft):a.cnt=1+Ft.cnts a.Parts:=by rw[Ft.cnt_u,Ft.cnts_eq]
theorem fl_:∀ l:List Ft,l.length≤Ft.cnts l
 | []=>by simp
 | a::l=>by have:=fl_ l; have:=a.cnt_pos; simp only[Ft.cnts,aO]; omega

mutual
def Ft.fv(x:ByteArray):Ft→Bool
 | .mk o a v ps=>bif decide (o=3) then hasV x a.vars else !(isQ o&&decide (v=x))&&Ff_ x ps
def Ff_(x:ByteArray):List Ft→Bool
 | []=>false
 | a::l=>a.fv x||Ff_ x l
end
theorem Ffu_(x:ByteArray)(a:Ft):a.fv x=bif decide (a.Op=3) then hasV x a.Atom.vars else !(isQ a.Op&&decide (a.Var=x))&&Ff_ x a.Parts:=by cases a; rw[Ft.fv]; rfl
def GV(acc v:List ByteArray)(P:ByteArray→Bool)(bnd:List ByteArray)(c:Nat):Prop:=(∀ x,x∈v↔x∈acc∨(P x=true∧x∉bnd))∧v.length≤acc.length+c
theorem gl_(bnd:List ByteArray)(F:Nat→List ByteArray→Ft→Option (List ByteArray))(N:Nat):∀ (l:List Ft) (i:Nat) (acc:List ByteArray),
 (∀ a∈l,∀ acc:List ByteArray,acc.length+30*a.cnt≤1000000→∃ v,(∀ n,N≤n→F n acc a=some v)∧GV acc v (fun x=>a.fv x) bnd (30*a.cnt))→acc.length+30*Ft.cnts l≤1000000→
 ∃ v,(∀ n,N≤n→forL (ρ:=List ByteArray) (fun _ x s=>(F n s x).bind fun w=>some (.nx w)) l i acc=some (.inr v))∧GV acc v (fun x=>Ff_ x l) bnd (30*Ft.cnts l)
 | [],i,acc,_,_=>⟨acc,fun _ _=>rfl,fun x=>by simp[Ff_],by simp[Ft.cnts]⟩
 | a::l,i,acc,h,hb=>by
  simp only[Ft.cnts] at hb
  obtain⟨v,h1,h2,h3⟩:=h a (by simp) acc (by omega)
  obtain⟨w,g1,g2,g3⟩:=gl_ bnd F N l (i+1) v (fun b hb=>h b (by simp[hb])) (by omega)
  refine⟨w,fun n hn=>?_,fun x=>?_,?_⟩
  ·rw[fLn_ (s':=v) (by rw[h1 n hn]; rfl),g1 n hn]
  ·rw[g2,h2]; simp only[Ff_,Bool.or_eq_true,or_and_right,or_assoc]
  ·simp only[Ft.cnts]; omega
theorem ai_(bnd:List ByteArray):∀ (V:List ByteArray) (i:Nat) (acc:List ByteArray),acc.length+V.length≤1000000→
 ∃ v,forL (ρ:=List ByteArray) (fun _ x s=>bif hasV x bnd then some (.nx s) else bif hasV x s then some (.nx s) else(app s [x]).bind fun w=>some (.nx w)) V i acc=some (.inr v)∧GV acc v (fun x=>hasV x V) bnd V.length
 | [],i,acc,_=>⟨acc,rfl,fun x=>by simp[hasV],by simp⟩
 | y::V,i,acc,hb=>by
  simp only[aO] at hb
  have key:∃ u,(bif hasV y bnd then some (Flow.nx acc) else bif hasV y acc then some (.nx acc) else(app acc [y]).bind fun w=>some (.nx w))=some (Flow.nx (ρ:=List ByteArray) u)∧(∀ x,x∈u↔x∈acc∨(x=y∧x∉bnd))∧u.length≤acc.length+1:=by
   cases h1:hasV y bnd
   ·have h1':y∉bnd:=fun h=>by rw[hVi_.2 h] at h1; cases h1
    cases h2:hasV y acc
    ·refine⟨acc++[y],?_,fun x=>?_,by simp⟩
     ·simp only[cond_false]; unfold app; rw[if_pos (by simp only[aO,bf]; omega)]; rfl
     ·simp only[aT,List.mem_singleton]
      exact⟨fun h=>h.imp id (fun e=>⟨e,e▸h1'⟩),fun h=>h.imp id (fun e=>e.1)⟩
    ·refine⟨acc,rfl,fun x=>⟨.inl,fun h=>h.elim id (fun e=>by rw[e.1]; exact hVi_.1 h2)⟩,by omega⟩
   ·exact⟨acc,rfl,fun x=>⟨.inl,fun h=>h.elim id (fun e=>absurd (by rw[e.1]; exact hVi_.1 h1) e.2)⟩,by omega⟩
  obtain⟨u,k1,k2,k3⟩:=key
  obtain⟨w,g1,g2,g3⟩:=ai_ bnd V (i+1) u (by omega)
  refine⟨w,by rw[fLn_ (s':=u) k1,g1],fun x=>?_,by simp only[aO]; omega⟩
  rw[g2,k2,hVi_,hVi_,bg,or_and_right,or_assoc]
theorem as_3(bnd:List ByteArray):∀ (V:List ByteArray) (i:Nat) (acc:List ByteArray),acc.length+V.length≤1000000→
 ∃ v,forL (ρ:=List ByteArray) (fun _ x s=>bif hasV x bnd then some (.nx s) else(slP_2 s x).bind fun w=>some (.nx w)) V i acc=some (.inr v)∧GV acc v (fun x=>hasV x V) bnd V.length
 | [],i,acc,_=>⟨acc,rfl,fun x=>by simp[hasV],by simp⟩
 | y::V,i,acc,hb=>by
  simp only[aO] at hb
  have key:∃ u,(bif hasV y bnd then some (Flow.nx acc) else(slP_2 acc y).bind fun w=>some (.nx w))=some (Flow.nx (ρ:=List ByteArray) u)∧(∀ x,x∈u↔x∈acc∨(x=y∧x∉bnd))∧u.length≤acc.length+1:=by
   cases h1:hasV y bnd
   ·have h1':y∉bnd:=fun h=>by rw[hVi_.2 h] at h1; cases h1
    refine⟨putS y acc,by rw[cond_false,lPe_ _ _ (by omega)]; rfl,fun x=>?_,pSl_ y acc⟩
    rw[pSm_]
    exact⟨fun h=>h.elim (fun e=>.inr ⟨e,e▸h1'⟩) .inl,fun h=>h.elim .inr (fun e=>.inl e.1)⟩
   ·exact⟨acc,rfl,fun x=>⟨.inl,fun h=>h.elim id (fun e=>absurd (by rw[e.1]; exact hVi_.1 h1) e.2)⟩,by omega⟩
  obtain⟨u,k1,k2,k3⟩:=key
  obtain⟨w,g1,g2,g3⟩:=as_3 bnd V (i+1) u (by omega)
  refine⟨w,by rw[fLn_ (s':=u) k1,g1],fun x=>?_,by simp only[aO]; omega⟩
  rw[g2,k2,hVi_,hVi_,bg,or_and_right,or_assoc]
theorem GV.bound{acc v bnd:List ByteArray}{y:ByteArray}{P Q:ByteArray→Bool}{c d:Nat}(h:GV acc v P (bnd++[y]) c)(hq:∀ x,Q x=(!decide (y=x)&&P x))(hc:c≤d):GV acc v Q bnd d:=by
 refine⟨fun x=>?_,by have:=h.2; omega⟩
 rw[h.1,hq]
 simp only[aT,List.mem_singleton,aA,Bool.not_eq_true',decide_eq_false_iff_not,not_or]
 constructor
 ·rintro (h | ⟨h1,h2,h3⟩)
  ·exact .inl h
  ·exact .inr ⟨⟨fun e=>h3 e.symm,h1⟩,h2⟩
 ·rintro (h | ⟨⟨h1,h2⟩,h3⟩)
  ·exact .inl h
  ·exact .inr ⟨h2,h3,fun e=>h1 e.symm⟩
theorem GV.congr{acc v bnd:List ByteArray}{P Q:ByteArray→Bool}{c d:Nat}(h:GV acc v P bnd c)(hq:∀ x,Q x=P x)(hc:c≤d):GV acc v Q bnd d:=
 ⟨fun x=>by rw[h.1,hq],by have:=h.2; omega⟩
theorem cs_1(l:List ByteArray)(h:l.length≤1000000):sCS_3 l=some l:=by
 unfold sCS_3 app
 rw[if_pos (by simp; omega)]; rfl
theorem as_4(l:List ByteArray)(y:ByteArray)(h:l.length≤1000000):app l [y]=some (l++[y]):=by unfold app; rw[if_pos (by simp only[aO,bf]; omega)]
theorem ans_(l:List ByteArray)(h:l.length≤1000000):app ([]:List ByteArray) l=some l:=by unfold app; rw[if_pos (by simp; omega)]; rfl
theorem ge_(f:Ft):f.good=true→∀ acc bnd:List ByteArray,acc.length+30*f.cnt≤1000000→bnd.length+f.cnt≤1000000→
 ∃ v,(∀ n,2*av f≤n→igN_ n acc f bnd=some v)∧GV acc v (fun x=>f.fv x) bnd (30*f.cnt):=by
 refine Ft.ind' (M:=fun f=>f.good=true→∀ acc bnd:List ByteArray,acc.length+30*f.cnt≤1000000→bnd.length+f.cnt≤1000000→
  ∃ v,(∀ n,2*av f≤n→igN_ n acc f bnd=some v)∧GV acc v (fun x=>f.fv x) bnd (30*f.cnt)) (fun f ih hg acc bnd hb hbb=>?_) f
 have hp:=f.pos
 have hcp:=f.cnt_pos
 have hu:=fu_ f
 obtain⟨hform,hparts⟩:=gs_ hg
 rcases fCc_ hform with⟨e3,hq,_,hat,_⟩ | ⟨e3,hq,_,_,_⟩ | ⟨e3,hq,_,_,_⟩
 ·obtain⟨V,h1,h2,h3⟩:=av_ (aTo_ hat)
  obtain⟨v,g1,g2⟩:=ai_ bnd V 0 acc (by omega)
  refine⟨v,fun n hn=>?_,g2.congr (fun x=>by rw[Ffu_,decide_eq_true e3,cond_true]; exact hVc_ (h2 x).symm) (by omega)⟩
  cases n with
  | zero=>omega
  | succ n=>
   rw[igN_,decide_eq_true e3,cond_true,h1,ak,fNf_ _ (fun _ x s=>bif hasV x bnd then some (.nx s) else bif hasV x s then some (.nx s) else(app s [x]).bind fun w=>some (.nx w)) V 0 acc (fun j x s hx=>by
    simp only[Nat.zero_add,in_,hx,ak,Cs_]; rfl),g1]
   rfl
 ·obtain⟨v,g1,g2⟩:=gl_ (bnd++[f.Var]) (fun n s x=>igN_ n s x (bnd++[f.Var])) (2*av f-1) f.Parts 0 acc (fun a ha acc hb=>by
   obtain⟨v,k1,k2⟩:=ih a ha (hparts a ha) acc (bnd++[f.Var]) hb (by have:=fm_ ha; simp; omega)
   exact⟨v,fun n hn=>k1 n (by have:=Ft.lt ha; omega),k2⟩) (by omega)
  refine⟨v,fun n hn=>?_,g2.bound (fun x=>by rw[Ffu_,decide_eq_false e3,cond_false,hq,Bool.true_and]) (by omega)⟩
  cases n with
  | zero=>omega
  | succ n=>
   rw[igN_,decide_eq_false e3,cond_false,iQe_,ak,show(decide (f.Op=8)||decide (f.Op=9))=true from hq,cond_true,cs_1 _ (by omega),ak,as_4 _ _ (by omega),ak]
   simp only[fNi_]
   rw[g1 n (by omega)]; rfl
 ·obtain⟨v,g1,g2⟩:=gl_ bnd (fun n s x=>igN_ n s x bnd) (2*av f-1) f.Parts 0 acc (fun a ha acc hb=>by
   obtain⟨v,k1,k2⟩:=ih a ha (hparts a ha) acc bnd hb (by have:=fm_ ha; omega)
   exact⟨v,fun n hn=>k1 n (by have:=Ft.lt ha; omega),k2⟩) (by omega)
  refine⟨v,fun n hn=>?_,g2.congr (fun x=>by rw[Ffu_,decide_eq_false e3,cond_false,hq]; simp) (by omega)⟩
  cases n with
  | zero=>omega
  | succ n=>
   rw[igN_,decide_eq_false e3,cond_false,iQe_,ak,show(decide (f.Op=8)||decide (f.Op=9))=false from hq,cond_false]
   simp only[fNi_]
   rw[g1 n (by omega)]; rfl
theorem ie_(f:Ft):f.Ok→f.good=true→∀ acc bnd:List ByteArray,acc.length+30*f.cnt≤1000000→bnd.length+f.cnt≤1000000→
 ∃ v,(∀ n,2*av f≤n→slI_1 n acc f bnd=some v)∧GV acc v (fun x=>f.fv x) bnd (30*f.cnt):=by
 refine Ft.ind' (M:=fun f=>f.Ok→f.good=true→∀ acc bnd:List ByteArray,acc.length+30*f.cnt≤1000000→bnd.length+f.cnt≤1000000→
  ∃ v,(∀ n,2*av f≤n→slI_1 n acc f bnd=some v)∧GV acc v (fun x=>f.fv x) bnd (30*f.cnt)) (fun f ih hok hg acc bnd hb hbb=>?_) f
 have hp:=f.pos
 have hcp:=f.cnt_pos
 have hu:=fu_ f
 obtain⟨hform,hparts⟩:=gs_ hg
 have hokp:=hok.u.2.2.2.2
 rcases fCc_ hform with⟨e3,hq,hk,hat,_⟩ | ⟨e3,hq,_,_,_⟩ | ⟨e3,hq,_,_,_⟩
 ·obtain⟨V,h1,h2,h3⟩:=alV_ hok.u.2.1 (aTo_ hat)
  obtain⟨v,g1,g2⟩:=as_3 bnd V 0 acc (by omega)
  refine⟨v,fun n hn=>?_,g2.congr (fun x=>by rw[Ffu_,decide_eq_true e3,cond_true]; exact hVc_ (h2 x).symm) (by omega)⟩
  have h0:f.Parts=[]:=List.eq_nil_of_length_eq_zero hk
  cases n with
  | zero=>omega
  | succ n=>
   rw[slI_1,decide_eq_true e3,cond_true,h1,ak,fNf_ _ (fun _ x s=>bif hasV x bnd then some (.nx s) else(slP_2 s x).bind fun w=>some (.nx w)) V 0 acc (fun j x s hx=>by
    simp only[Nat.zero_add,in_,hx,ak,lIe_1]),g1,tLi_,e3,h0]
   rfl
 ·obtain⟨v,g1,g2⟩:=gl_ (bnd++[f.Var]) (fun n s x=>slI_1 n s x (bnd++[f.Var])) (2*av f-1) f.Parts 0 acc (fun a ha acc hb=>by
   obtain⟨v,k1,k2⟩:=ih a ha (hokp a ha) (hparts a ha) acc (bnd++[f.Var]) hb (by have:=fm_ ha; simp; omega)
   exact⟨v,fun n hn=>k1 n (by have:=Ft.lt ha; omega),k2⟩) (by omega)
  refine⟨v,fun n hn=>?_,g2.bound (fun x=>by rw[Ffu_,decide_eq_false e3,cond_false,hq,Bool.true_and]) (by omega)⟩
  cases n with
  | zero=>omega
  | succ n=>
   rw[slI_1,decide_eq_false e3,cond_false,ans_ _ (by omega)]
   simp only[ak,as_4 _ _ (show bnd.length≤1000000 by omega),fNi_]
   rw[g1 n (by omega)]
   unfold isQ at hq
   cases e8:decide (f.Op=8)
   ·rw[e8,Bool.false_or] at hq; rw[hq]; rfl
   ·rfl
 ·obtain⟨v,g1,g2⟩:=gl_ bnd (fun n s x=>slI_1 n s x bnd) (2*av f-1) f.Parts 0 acc (fun a ha acc hb=>by
   obtain⟨v,k1,k2⟩:=ih a ha (hokp a ha) (hparts a ha) acc bnd hb (by have:=fm_ ha; omega)
   exact⟨v,fun n hn=>k1 n (by have:=Ft.lt ha; omega),k2⟩) (by omega)
  refine⟨v,fun n hn=>?_,g2.congr (fun x=>by rw[Ffu_,decide_eq_false e3,cond_false,hq]; simp) (by omega)⟩
  cases n with
  | zero=>omega
  | succ n=>
   unfold isQ at hq
   rw[Bool.or_eq_false_iff] at hq
   rw[slI_1,decide_eq_false e3,cond_false,hq.1,cond_false,hq.2,cond_false]
   simp only[fNi_]
   rw[g1 n (by omega)]; rfl
theorem fi_{f:Ft}(hg:f.good=true)(hc:f.cnt≤10000):∃ v,if_ f=some v∧∀ x,hasV x v=f.fv x:=by
 obtain⟨v,h1,h2,h3⟩:=ge_ f hg [] [] (by simp; omega) (by simp; omega)
 unfold if_
 rw[show ig_ [] f []=some v from le_ ⟨_,h1⟩,ak,So_ (by simp at h3; omega),ak]
 refine⟨_,rfl,fun x=>?_⟩
 rw[Bool.eq_iff_iff,hVi_,sBm_,h2]; simp
theorem fs_{f:Ft}(hok:f.Ok)(hg:f.good=true)(hc:f.cnt≤10000):∃ v,slF_2 f=some v∧∀ x,hasV x v=f.fv x:=by
 obtain⟨v,h1,h2,h3⟩:=ie_ f hok hg [] [] (by simp; omega) (by simp; omega)
 unfold slF_2
 rw[show slI_7 [] f []=some v from le_ ⟨_,h1⟩,ak]
 refine⟨_,rfl,fun x=>?_⟩
 rw[Bool.eq_iff_iff,hVi_,h2]; simp
end
section
theorem Tt.Ok_of(t:Tt):t.tot≤1048576→t.Ok:=by
 refine Tt.ind' (M:=fun t=>t.tot≤1048576→t.Ok) (fun t ih h=>?_) t
 have hu:=t.tot_u
 have hl:=ll_ Tt.tot t.Args
 have:=Tt.Ok.mk t.Name t.Args (by simp only[Big]; omega) (by simp only[Big]; omega) (fun a ha=>ih a ha (by have:=tm_ Tt.tot ha; omega))
 rwa [t.eta] at this
mutual
def Tt.tiny:Tt→Bool
 | .mk x l=>decide (x.size≤6)&&Tt_ l
def Tt_:List Tt→Bool
 | []=>true
 | a::l=>a.tiny&&Tt_ l
end
theorem Tte_(l:List Tt):Tt_ l=l.all Tt.tiny:=by
 induction l with
 | nil=>rfl
 | cons a l ih=>rw[Tt_,ih]; rfl
theorem Ttu_(t:Tt):t.tiny=(decide (t.Name.size≤6)&&t.Args.all Tt.tiny):=by cases t; rw[Tt.tiny,Tte_]; rfl
theorem tt_1:∀ l:List Tt,(∀ a∈l,a.tot+1≤7*a.cnt)→ltot Tt.tot l≤7*Tt.cnts l
 | [],_=>by simp[ltot]
 | a::l,h=>by
  have h1:=h a (by simp)
  have h2:=tt_1 l (fun x hx=>h x (by simp[hx]))
  simp only[ltot,aO,aK,bn,Tt.cnts] at*
  omega
theorem tt_(t:Tt):t.tiny=true→t.tot+1≤7*t.cnt:=by
 refine Tt.ind' (M:=fun t=>t.tiny=true→t.tot+1≤7*t.cnt) (fun t ih h=>?_) t
 rw[Ttu_,aA,decide_eq_true_iff,a7] at h
 have h1:=tt_1 t.Args (fun a ha=>ih a ha (h.2 a ha))
 rw[t.tot_u,t.cnt_u]; omega
theorem vs_1{s:ByteArray}(h:iVS_ s=true):s.size≤4:=by
 unfold iVS_ at h
 rw[aA] at h
 have:=iRi_.1 h.1; omega
theorem ss_1{s:ByteArray}(h:iSS_ s=true):s.size≤6:=by
 unfold iSS_ at h
 rw[aA,aA] at h
 have:=iRi_.1 h.1.1; omega
theorem gt_(t:Tt):t.good=true→t.tiny=true:=by
 refine Tt.ind' (M:=fun t=>t.good=true→t.tiny=true) (fun t ih h=>?_) t
 rw[Ttu_,aA,decide_eq_true_iff,a7]
 rcases nC_ h with⟨h1,h2⟩ | ⟨_,h1,_,hall⟩
 ·exact⟨by have:=vs_1 h1; omega,by rw[h2]; simp⟩
 ·exact⟨ss_1 h1,fun a ha=>ih a ha (hall a ha)⟩
theorem at_{a:Tt}(h:aT_ a=true):a.tiny=true:=by
 have hall:=(aTo_ h).hall
 rw[Ttu_,aA,decide_eq_true_iff,a7]
 refine⟨?_,fun x hx=>gt_ x (hall x hx)⟩
 unfold aT_ at h
 by_cases e:a.Name=(⟨#[61]⟩:ByteArray)
 ·rw[e]; exact Nat.le_of_ble_eq_true rfl
 ·rw[decide_eq_false e,cond_false,aA] at h
  exact ss_1 h.1
theorem st_3{n:ByteArray}{t:Tt}(ht:t.tiny=true)(a:Tt):a.tiny=true→(sbT n t a).tiny=true:=by
 refine Tt.ind' (M:=fun a=>a.tiny=true→(sbT n t a).tiny=true) (fun a ih h=>?_) a
 rw[Ttu_,aA,a7] at h
 rw[sTu_]
 cases (a.Args.isEmpty&&decide (a.Name=n))
 ·rw[cond_false,Ttu_,aA,a7]
  refine⟨h.1,fun x hx=>?_⟩
  obtain⟨y,hy,rfl⟩:=List.mem_map.1 hx
  exact ih y hy (h.2 y hy)
 ·exact ht
theorem sc_3{n:ByteArray}{t:Tt}:∀ l:List Tt,(∀ a∈l,(sbT n t a).cnt≤a.cnt*t.cnt)→Tt.cnts (l.map (sbT n t))≤Tt.cnts l*t.cnt
 | [],_=>by simp[Tt.cnts]
 | a::l,h=>by
  have h1:=h a (by simp)
  have h2:=sc_3 l (fun x hx=>h x (by simp[hx]))
  simp only[aK,Tt.cnts,Nat.add_mul]; omega
theorem sc_7{n:ByteArray}{t:Tt}(a:Tt):(sbT n t a).cnt≤a.cnt*t.cnt:=by
 refine Tt.ind' (M:=fun a=>(sbT n t a).cnt≤a.cnt*t.cnt) (fun a ih=>?_) a
 have hp:=t.cnt_pos
 have h1:=sc_3 a.Args ih
 rw[sTu_,a.cnt_u,Nat.add_mul,Nat.one_mul]
 cases (a.Args.isEmpty&&decide (a.Name=n))
 ·rw[cond_false,Tt.cnt_u]; show 1+Tt.cnts (a.Args.map _)≤_; omega
 ·rw[cond_true]; omega
theorem sat_{n:ByteArray}{t a:Tt}(hg:t.good=true)(hc:t.cnt≤30)(ha:aT_ a=true):(sbT n t a).tot≤6300:=by
 have h1:=tt_ _ (st_3 (n:=n) (gt_ t hg) a (at_ ha))
 have h2:=sc_7 (n:=n) (t:=t) a
 have h3:=(aTo_ ha).cnt
 have h4:a.cnt*t.cnt≤30*30:=Nat.mul_le_mul h3 hc
 omega
def Ft.keep(n:ByteArray)(f:Ft):Bool:=isQ f.Op&&(decide (f.Var=n)||!f.fv n)
mutual
def Ft.sub(n:ByteArray)(t:Tt):Ft→Ft
 | .mk o a v ps=>bif (Ft.mk o a v ps).keep n then .mk o a v ps else bif decide (o=3) then .mk o (sbT n t a) v [] else .mk o a v (Fs_ n t ps)
def Fs_(n:ByteArray)(t:Tt):List Ft→List Ft
 | []=>[]
 | a::l=>a.sub n t::Fs_ n t l
end
mutual
def Ft.cf(n:ByteArray)(t:Tt):Ft→Bool
 | .mk o a v ps=>bif (Ft.mk o a v ps).keep n then true else bif decide (o=3) then true else !(isQ o&&hasV v t.vars)&&Fc_ n t ps
def Fc_(n:ByteArray)(t:Tt):List Ft→Bool
 | []=>true
 | a::l=>a.cf n t&&Fc_ n t l
end
mutual
def Ft.sok(n:ByteArray)(t:Tt):Ft→Bool
 | .mk o a v ps=>bif (Ft.mk o a v ps).keep n then true else bif decide (o=3) then aT_ (sbT n t a) else !(isQ o&&hasV v t.vars)&&Fs_1 n t ps
def Fs_1(n:ByteArray)(t:Tt):List Ft→Bool
 | []=>true
 | a::l=>a.sok n t&&Fs_1 n t l
end
theorem Fse_(n:ByteArray)(t:Tt)(l:List Ft):Fs_ n t l=l.map (Ft.sub n t):=by
 induction l with
 | nil=>rfl
 | cons a l ih=>rw[Fs_,ih]; rfl
theorem Fce_(n:ByteArray)(t:Tt)(l:List Ft):Fc_ n t l=l.all (Ft.cf n t):=by
 induction l with
 | nil=>rfl
 | cons a l ih=>rw[Fc_,ih]; rfl
theorem Fse_1(n:ByteArray)(t:Tt)(l:List Ft):Fs_1 n t l=l.all (Ft.sok n t):=by
 induction l with
 | nil=>rfl
 | cons a l ih=>rw[Fs_1,ih]; rfl
theorem Fsu_(n:ByteArray)(t:Tt)(f:Ft):f.sub n t=bif f.keep n then f else bif decide (f.Op=3) then .mk f.Op (sbT n t f.Atom) f.Var [] else .mk f.Op f.Atom f.Var (f.Parts.map (Ft.sub n t)):=by cases f; rw[Ft.sub,Fse_]; rfl
theorem Fcu_(n:ByteArray)(t:Tt)(f:Ft):f.cf n t=bif f.keep n then true else bif decide (f.Op=3) then true else !(isQ f.Op&&hasV f.Var t.vars)&&f.Parts.all (Ft.cf n t):=by cases f; rw[Ft.cf,Fce_]; rfl
theorem Fsu_1(n:ByteArray)(t:Tt)(f:Ft):f.sok n t=bif f.keep n then true else bif decide (f.Op=3) then aT_ (sbT n t f.Atom) else !(isQ f.Op&&hasV f.Var t.vars)&&f.Parts.all (Ft.sok n t):=by cases f; rw[Ft.sok,Fse_1]; rfl
theorem sc_5{n:ByteArray}{t:Tt}(f:Ft):f.sok n t=true→f.cf n t=true:=by
 refine Ft.ind' (M:=fun f=>f.sok n t=true→f.cf n t=true) (fun f ih h=>?_) f
 rw[Fsu_1] at h
 rw[Fcu_]
 cases hk:f.keep n
 ·rw[hk] at h
  rw[cond_false] at h ⊢
  cases e3:decide (f.Op=3)
  ·rw[e3] at h
   simp only[cond_false,aA,a7] at h ⊢
   exact⟨h.1,fun p hp=>ih p hp (h.2 p hp)⟩
  ·rfl
 ·rfl
theorem fl_2{ρ:Type}{n:ByteArray}{t:Tt}(F:Nat→Ft→Bool→Option (Ft×Bool))(N:Nat):∀ (l:List Ft) (i:Nat) (b:Bool) (acc:List Ft),
 (∀ p∈l,∃ r:Ft×Bool,(∀ m,N≤m→∀ b,F m p b=some (r.1,b&&r.2))∧r.2=p.cf n t∧(r.2=true→r.1=p.sub n t))→acc.length+l.length≤1000000→
 ∃ q:List Ft,(∀ m,N≤m→forL (ρ:=ρ) (fun _ x (s:Bool×List Ft)=>(F m x s.1).bind fun v=>(app s.2 [v.1]).bind fun w=>some (.nx (v.2,w))) l i (b,acc)=some (.inr (b&&l.all (Ft.cf n t),acc++q)))∧q.length=l.length∧(l.all (Ft.cf n t)=true→q=l.map (Ft.sub n t))
 | [],i,b,acc,_,_=>⟨[],fun m _=>by simp[forL],rfl,fun _=>rfl⟩
 | p::l,i,b,acc,h,hb=>by
  simp only[aO] at hb
  obtain⟨r,h1,h2,h3⟩:=h p (by simp)
  obtain⟨q,g1,g2,g3⟩:=fl_2 (ρ:=ρ) F N l (i+1) (b&&r.2) (acc++[r.1]) (fun x hx=>h x (by simp[hx])) (by simp; omega)
  refine⟨r.1::q,fun m hm=>?_,by simp[g2],fun hall=>?_⟩
  ·rw[fLn_ (s':=(b&&r.2,acc++[r.1])) (by rw[h1 m hm,ak]; unfold app; rw[if_pos (by simp only[aO,bf]; omega)]; rfl),g1 m hm,bD,h2]
   simp[Bool.and_assoc]
  ·rw[bD,aA] at hall
   rw[aK,h3 (h2.trans hall.1),g3 hall.2]
theorem mF_1{n:ByteArray}{t:Tt}{f:Ft}(hf:f.tot≤1048576)(hl:f.Parts.length≤1000)(F:Nat→Ft→Bool→Option (Ft×Bool))(N:Nat)
 (h:∀ p∈f.Parts,∃ r:Ft×Bool,(∀ m,N≤m→∀ b,F m p b=some (r.1,b&&r.2))∧r.2=p.cf n t∧(r.2=true→r.1=p.sub n t)):
 ∃ q:List Ft,(∀ m,N≤m→imP_ f (F m) true=some (⟨f.Op,f.Atom,f.Var,q⟩,f.Parts.all (Ft.cf n t)))∧q.length=f.Parts.length∧(f.Parts.all (Ft.cf n t)=true→q=f.Parts.map (Ft.sub n t)):=by
 obtain⟨q,g1,g2,g3⟩:=fl_2 (ρ:=Ft×Bool) F N f.Parts 0 true [] h (by simp; omega)
 refine⟨q,fun m hm=>?_,g2,g3⟩
 unfold imP_
 rw[cT_ _ (cot_ (by have:=f.tot_atom; omega)),ak]
 simp only[fNi_]
 rw[g1 m hm,tLi_]
 simp
theorem ChV_(l:List ByteArray)(x:ByteArray):sCS_ l x=some (hasV x l):=Cs_ l x
theorem ise_1{n:ByteArray}{t:Tt}(hn:iVS_ n=true)(hg:t.good=true)(hct:t.cnt≤1000)(f:Ft):f.good=true→f.tot≤1048576→f.cnt≤10000→
 ∃ r:Ft×Bool,(∀ m,4*av f≤m→isN_ m f n t=some r)∧r.2=f.cf n t∧(r.2=true→r.1=f.sub n t):=by
 refine Ft.ind' (M:=fun f=>f.good=true→f.tot≤1048576→f.cnt≤10000→
  ∃ r:Ft×Bool,(∀ m,4*av f≤m→isN_ m f n t=some r)∧r.2=f.cf n t∧(r.2=true→r.1=f.sub n t)) (fun f ih hgf ht hc=>?_) f
 have hp:=f.pos
 have hu:=fu_ f
 have hpl:=fl_ f.Parts
 obtain⟨hform,hparts⟩:=gs_ hgf
 obtain⟨q,q1,q2,q3⟩:=mF_1 (n:=n) (t:=t) ht (show f.Parts.length≤1000 by
  rcases fCc_ hform with⟨_,_,h,_⟩ | ⟨_,_,h,_⟩ | ⟨_,_,h,_⟩<;>omega) (fun m y s=>is1_ m y n t s) (4*av f-1) (fun p hpm=>by
  obtain⟨r,h1,h2,h3⟩:=ih p hpm (hparts p hpm) (by have:=Ftp_ hpm; omega) (by have:=fm_ hpm; omega)
  have hlt:=Ft.lt hpm
  refine⟨r,fun m hm b=>?_,h2,h3⟩
  obtain⟨k,rfl⟩:∃ k,m=k+1:=⟨m-1,by omega⟩
  show is1_ (k+1) p n t b=_
  rw[is1_,h1 k (by omega),ak]
  cases b<;>rfl)
 have hmf:∀ m,4*av f≤m→∃ k,m=k+1∧4*av f-1≤k:=fun m hm=>⟨m-1,by omega,by omega⟩
 rcases fCc_ hform with⟨e3,hq,hk,hat,_⟩ | ⟨e3,hq,hk,hza,hvv⟩ | ⟨e3,hq,_,_,_⟩
 ·have hkeep:f.keep n=false:=by unfold Ft.keep; rw[hq]; rfl
  have h0:f.Parts=[]:=List.eq_nil_of_length_eq_zero hk
  refine⟨(⟨f.Op,sbT n t f.Atom,f.Var,[]⟩,true),fun m hm=>?_,by rw[Fcu_,hkeep,cond_false,decide_eq_true e3]; rfl,fun _=>by rw[Fsu_,hkeep,cond_false,decide_eq_true e3]; rfl⟩
  obtain⟨k,rfl,hk'⟩:=hmf m hm
  show isN_ (k+1) f n t=_
  rw[isN_,iQe_,ak,show(decide (f.Op=8)||decide (f.Op=9))=false from hq,cond_false,ak,cond_false,q1 k hk',ak,decide_eq_true e3,cond_true,
   ae_ (by omega) (by have:=(aTo_ hat).cnt; omega),ak,h0]
  have hq0:q=[]:=List.eq_nil_of_length_eq_zero (by rw[q2,h0]; rfl)
  rw[hq0]; rfl
 ·obtain⟨V,v1,v2⟩:=fi_ hgf hc
  have hov:=oe_1 hvv hg (show t.cnt≤10000000 by omega)
  by_cases en:f.Var=n
  ·have hkeep:f.keep n=true:=by unfold Ft.keep; rw[hq,decide_eq_true en]; rfl
   refine⟨(f,true),fun m hm=>?_,by rw[Fcu_,hkeep]; rfl,fun _=>by rw[Fsu_,hkeep]; rfl⟩
   obtain⟨k,rfl,hk'⟩:=hmf m hm
   show isN_ (k+1) f n t=_
   rw[isN_,iQe_,ak,show(decide (f.Op=8)||decide (f.Op=9))=true from hq,cond_true,decide_eq_true en,cond_true,cF_1 f ht]; rfl
  ·cases hfv:f.fv n
   ·have hkeep:f.keep n=true:=by unfold Ft.keep; rw[hq,hfv]; simp
    refine⟨(f,true),fun m hm=>?_,by rw[Fcu_,hkeep]; rfl,fun _=>by rw[Fsu_,hkeep]; rfl⟩
    obtain⟨k,rfl,hk'⟩:=hmf m hm
    show isN_ (k+1) f n t=_
    rw[isN_,iQe_,ak,show(decide (f.Op=8)||decide (f.Op=9))=true from hq,cond_true,decide_eq_false en,cond_false,v1,ak,ChV_,ak,v2,hfv,cond_false,cF_1 f ht]; rfl
   ·have hkeep:f.keep n=false:=by unfold Ft.keep; rw[hq,hfv,decide_eq_false en]; rfl
    cases ho:hasV f.Var t.vars
    ·refine⟨(⟨f.Op,f.Atom,f.Var,q⟩,f.Parts.all (Ft.cf n t)),fun m hm=>?_,by rw[Fcu_,hkeep,cond_false,decide_eq_false e3,cond_false,ho]; simp,fun hh=>by rw[Fsu_,hkeep,cond_false,decide_eq_false e3,cond_false,q3 hh]⟩
     obtain⟨k,rfl,hk'⟩:=hmf m hm
     show isN_ (k+1) f n t=_
     rw[isN_,iQe_,ak,show(decide (f.Op=8)||decide (f.Op=9))=true from hq,cond_true,decide_eq_false en,cond_false,v1,ak,ChV_,ak,v2,hfv,cond_true,ak,cond_true,hov,ak,ho,cond_false,q1 k hk',ak,decide_eq_false e3]; rfl
    ·refine⟨(⟨0,⟨⟨#[]⟩,[]⟩,⟨#[]⟩,[]⟩,false),fun m hm=>?_,by rw[Fcu_,hkeep,cond_false,decide_eq_false e3,cond_false,ho,hq]; rfl,fun hh=>by cases hh⟩
     obtain⟨k,rfl,hk'⟩:=hmf m hm
     show isN_ (k+1) f n t=_
     rw[isN_,iQe_,ak,show(decide (f.Op=8)||decide (f.Op=9))=true from hq,cond_true,decide_eq_false en,cond_false,v1,ak,ChV_,ak,v2,hfv,cond_true,ak,cond_true,hov,ak,ho]; rfl
 ·have hkeep:f.keep n=false:=by unfold Ft.keep; rw[hq]; rfl
  refine⟨(⟨f.Op,f.Atom,f.Var,q⟩,f.Parts.all (Ft.cf n t)),fun m hm=>?_,by rw[Fcu_,hkeep,cond_false,decide_eq_false e3,cond_false,hq]; simp,fun hh=>by rw[Fsu_,hkeep,cond_false,decide_eq_false e3,cond_false,q3 hh]⟩
  obtain⟨k,rfl,hk'⟩:=hmf m hm
  show isN_ (k+1) f n t=_
  rw[isN_,iQe_,ak,show(decide (f.Op=8)||decide (f.Op=9))=false from hq,cond_false,ak,cond_false,q1 k hk',ak,decide_eq_false e3]; rfl
theorem sl_3{n:ByteArray}{t:Tt}(F:Nat→Ft→Option (Ft×Bool))(G:List Ft→Ft)(N:Nat):∀ (l:List Ft) (i:Nat) (acc:List Ft),
 (∀ p∈l,∃ r:Ft×Bool,(∀ m,N≤m→F m p=some r)∧r.2=p.sok n t∧(r.2=true→r.1=p.sub n t))→acc.length+l.length≤1000000→
 ∃ q:(Ft×Bool) ⊕ List Ft,(∀ m,N≤m→forL (fun _ x (s:List Ft)=>(F m x).bind fun v=>bif v.2 then(app s [v.1]).bind fun w=>some (.nx w) else some (.rt (G s,false))) l i acc=some q)∧(l.all (Ft.sok n t)=true→q=.inr (acc++l.map (Ft.sub n t)))∧(l.all (Ft.sok n t)=false→∃ g,q=.inl (g,false))
 | [],i,acc,_,_=>⟨.inr acc,fun m _=>rfl,fun _=>by simp,fun h=>by cases h⟩
 | p::l,i,acc,h,hb=>by
  simp only[aO] at hb
  obtain⟨r,h1,h2,h3⟩:=h p (by simp)
  cases hr:r.2
  ·refine⟨.inl (G acc,false),fun m hm=>by rw[fLr_ (r:=(G acc,false)) (by rw[h1 m hm,ak,hr]; rfl)],fun ha=>?_,fun _=>⟨_,rfl⟩⟩
   rw[bD,aA,← h2,hr] at ha; cases ha.1
  ·obtain⟨q,g1,g2,g3⟩:=sl_3 F G N l (i+1) (acc++[r.1]) (fun x hx=>h x (by simp[hx])) (by simp; omega)
   refine⟨q,fun m hm=>?_,fun ha=>?_,fun ha=>?_⟩
   ·rw[fLn_ (s':=acc++[r.1]) (by rw[h1 m hm,ak,hr,cond_true]; unfold app; rw[if_pos (by simp only[aO,bf]; omega)]; rfl),g1 m hm]
   ·rw[bD,aA] at ha
    rw[g2 ha.2,h3 hr]; simp
   ·rw[bD,← h2,hr,Bool.true_and] at ha; exact g3 ha
theorem sse_{n:ByteArray}{t:Tt}(hn:iVS_ n=true)(hg:t.good=true)(hok:t.Ok)(hct:t.cnt≤30)(f:Ft):f.Ok→f.good=true→f.tot≤1048576→f.cnt≤10000→
 ∃ r:Ft×Bool,(∀ m,2*av f≤m→slP_1 m f n t=some r)∧r.2=f.sok n t∧(r.2=true→r.1=f.sub n t):=by
 refine Ft.ind' (M:=fun f=>f.Ok→f.good=true→f.tot≤1048576→f.cnt≤10000→
  ∃ r:Ft×Bool,(∀ m,2*av f≤m→slP_1 m f n t=some r)∧r.2=f.sok n t∧(r.2=true→r.1=f.sub n t)) (fun f ih hokf hgf ht hc=>?_) f
 have hp:=f.pos
 have hu:=fu_ f
 have hpl:=fl_ f.Parts
 have hokp:=hokf.u.2.2.2.2
 obtain⟨hform,hparts⟩:=gs_ hgf
 obtain⟨q,q1,q2,q3⟩:=sl_3 (n:=n) (t:=t) (fun m y=>slP_1 m y n t) (fun s=>Ft.mk f.Op (Tt.mk (⟨#[]⟩:ByteArray) ([])) f.Var s) (2*av f-1) f.Parts 0 [] (fun p hpm=>by
  obtain⟨r,h1,h2,h3⟩:=ih p hpm (hokp p hpm) (hparts p hpm) (by have:=Ftp_ hpm; omega) (by have:=fm_ hpm; omega)
  exact⟨r,fun m hm=>h1 m (by have:=Ft.lt hpm; omega),h2,h3⟩) (by simp; omega)
 have hmf:∀ m,2*av f≤m→∃ k,m=k+1∧2*av f-1≤k:=fun m hm=>⟨m-1,by omega,by omega⟩
 have fin:f.Atom=⟨⟨#[]⟩,[]⟩→∃ r:Ft×Bool,tL_ (ρ:=Ft×Bool) (some q) (fun s11=>some ((Ft.mk f.Op (Tt.mk (⟨#[]⟩:ByteArray) ([])) f.Var s11),true))=some r∧r.2=f.Parts.all (Ft.sok n t)∧(r.2=true→r.1=⟨f.Op,f.Atom,f.Var,f.Parts.map (Ft.sub n t)⟩):=by
  intro ha
  cases hall:f.Parts.all (Ft.sok n t)
  ·obtain⟨g,hg⟩:=q3 hall
   rw[hg,tLi_1]
   exact⟨_,rfl,rfl,fun h=>by cases h⟩
  ·rw[q2 hall,tLi_]
   exact⟨_,rfl,rfl,fun _=>by rw[ha]; rfl⟩
 rcases fCc_ hform with⟨e3,hq,hk,hat,_⟩ | ⟨e3,hq,hk,hza,hvv⟩ | ⟨e3,hq,_,hza,_⟩
 ·have hkeep:f.keep n=false:=by unfold Ft.keep; rw[hq]; rfl
  have hao:=aTo_ hat
  have htot:=sat_ (n:=n) hg hct hat
  refine⟨(⟨f.Op,sbT n t f.Atom,f.Var,[]⟩,aT_ (sbT n t f.Atom)),fun m hm=>?_,by rw[Fsu_1,hkeep,cond_false,decide_eq_true e3]; rfl,fun _=>by rw[Fsu_,hkeep,cond_false,decide_eq_true e3]; rfl⟩
  obtain⟨k,rfl,hk'⟩:=hmf m hm
  show slP_1 (k+1) f n t=_
  rw[slP_1,decide_eq_true e3,cond_true,lPe_1 n t (by omega),ak,
   show slA_2 (bif decide (t.Name=n) then⟨[]⟩ else⟨[⟨n,t⟩]⟩) f.Atom=some (sbT n t f.Atom) from lAa_ hn (by omega) hg hokf.u.2.1 hao.nv hao.hall (by have:=cl_1 f.Atom.Args; have:=f.Atom.cnt_u; have:=hao.cnt; omega),ak,
   as_ _ (by omega) (Tt.Ok_of _ (by omega)),ak]
 ·obtain⟨p0,hp0⟩:∃ p,f.Parts=[p]:=by
   match hpp:f.Parts with
   | []=>rw[hpp] at hk; cases hk
   | [p]=>exact⟨p,rfl⟩
   | _::_::_=>rw[hpp] at hk; simp at hk
  have hm0:p0∈f.Parts:=by rw[hp0]; simp
  obtain⟨V,v1,v2⟩:=fs_ (hokp p0 hm0) (hparts p0 hm0) (by have:=fm_ hm0; omega)
  obtain⟨W,w1,w2⟩:=lVo_ hok hg (show t.cnt≤1000 by omega)
  have hwv:hasV f.Var W=hasV f.Var t.vars:=hVc_ (w2 _)
  have body:∀ k,2*av f-1≤k→slP_1 (k+1) f n t=bif decide (f.Var=n) then some (f,true) else bif p0.fv n then(bif hasV f.Var t.vars then some ((Ft.mk f.Op (Tt.mk (⟨#[]⟩:ByteArray) ([])) f.Var ([])),false) else tL_ (ρ:=Ft×Bool) (some q) (fun s11=>some ((Ft.mk f.Op (Tt.mk (⟨#[]⟩:ByteArray) ([])) f.Var s11),true))) else some (f,true):=by
   intro k hk'
   have hi:idx f.Parts (0:Int)=some p0:=by rw[hp0]; rfl
   rw[slP_1,decide_eq_false e3,cond_false,ownF f ht,hi]
   simp only[ak,v1,lIe_1,v2,w1,hwv,fNi_]
   rw[q1 k hk']
   unfold isQ at hq
   cases e8:decide (f.Op=8)
   ·rw[e8,Bool.false_or] at hq; rw[hq]; rfl
   ·rfl
  by_cases en:f.Var=n
  ·have hkeep:f.keep n=true:=by unfold Ft.keep; rw[hq,decide_eq_true en]; rfl
   refine⟨(f,true),fun m hm=>?_,by rw[Fsu_1,hkeep]; rfl,fun _=>by rw[Fsu_,hkeep]; rfl⟩
   obtain⟨k,rfl,hk'⟩:=hmf m hm
   show slP_1 (k+1) f n t=_
   rw[body k hk',decide_eq_true en]; rfl
  ·have hfe:f.fv n=p0.fv n:=by rw[Ffu_,decide_eq_false e3,cond_false,decide_eq_false en,hp0]; simp[Ff_]
   cases hfv:p0.fv n
   ·have hkeep:f.keep n=true:=by unfold Ft.keep; rw[hq,hfe,hfv]; simp
    refine⟨(f,true),fun m hm=>?_,by rw[Fsu_1,hkeep]; rfl,fun _=>by rw[Fsu_,hkeep]; rfl⟩
    obtain⟨k,rfl,hk'⟩:=hmf m hm
    show slP_1 (k+1) f n t=_
    rw[body k hk',decide_eq_false en,hfv]; rfl
   ·have hkeep:f.keep n=false:=by unfold Ft.keep; rw[hq,hfe,hfv,decide_eq_false en]; rfl
    cases ho:hasV f.Var t.vars
    ·obtain⟨r,r1,r2,r3⟩:=fin hza
     refine⟨r,fun m hm=>?_,by rw[r2,Fsu_1,hkeep,cond_false,decide_eq_false e3,cond_false,ho]; simp,fun hh=>by rw[r3 hh,Fsu_,hkeep,cond_false,decide_eq_false e3,cond_false]⟩
     obtain⟨k,rfl,hk'⟩:=hmf m hm
     show slP_1 (k+1) f n t=_
     rw[body k hk',decide_eq_false en,hfv,ho]; exact r1
    ·refine⟨(⟨f.Op,⟨⟨#[]⟩,[]⟩,f.Var,[]⟩,false),fun m hm=>?_,by rw[Fsu_1,hkeep,cond_false,decide_eq_false e3,cond_false,ho,hq]; rfl,fun hh=>by cases hh⟩
     obtain⟨k,rfl,hk'⟩:=hmf m hm
     show slP_1 (k+1) f n t=_
     rw[body k hk',decide_eq_false en,hfv,ho]; rfl
 ·have hkeep:f.keep n=false:=by unfold Ft.keep; rw[hq]; rfl
  obtain⟨r,r1,r2,r3⟩:=fin hza
  refine⟨r,fun m hm=>?_,by rw[r2,Fsu_1,hkeep,cond_false,decide_eq_false e3,cond_false,hq]; simp,fun hh=>by rw[r3 hh,Fsu_,hkeep,cond_false,decide_eq_false e3,cond_false]⟩
  obtain⟨k,rfl,hk'⟩:=hmf m hm
  show slP_1 (k+1) f n t=_
  unfold isQ at hq
  rw[Bool.or_eq_false_iff] at hq
  rw[slP_1,decide_eq_false e3,cond_false,hq.1,cond_false,hq.2,cond_false]
  simp only[fNi_]
  rw[q1 k hk']; exact r1
theorem sp_3{n:ByteArray}{t:Tt}(hn:iVS_ n=true)(hg:t.good=true)(hok:t.Ok)(hct:t.cnt≤30){f:Ft}(hof:f.Ok)(hgf:f.good=true)(ht:f.tot≤1048576)(hc:f.cnt≤10000):
 ∃ r:Ft×Bool,slP_8 f n t=some r∧r.2=f.sok n t∧(r.2=true→r.1=f.sub n t):=by
 obtain⟨r,h1,h2,h3⟩:=sse_ hn hg hok hct f hof hgf ht hc
 exact⟨r,le_ ⟨_,h1⟩,h2,h3⟩
theorem sc_1{n:ByteArray}{t:Tt}:∀ l:List Ft,(∀ a∈l,(a.sub n t).cnt=a.cnt)→Ft.cnts (l.map (Ft.sub n t))=Ft.cnts l
 | [],_=>rfl
 | a::l,h=>by
  simp only[aK,Ft.cnts]
  rw[h a (by simp),sc_1 l (fun x hx=>h x (by simp[hx]))]
theorem sc_6{n:ByteArray}{t:Tt}(f:Ft):f.good=true→(f.sub n t).cnt=f.cnt:=by
 refine Ft.ind' (M:=fun f=>f.good=true→(f.sub n t).cnt=f.cnt) (fun f ih hg=>?_) f
 obtain⟨hform,hparts⟩:=gs_ hg
 rw[Fsu_]
 cases f.keep n
 ·rw[cond_false]
  cases e:decide (f.Op=3)
  ·rw[cond_false,fu_,fu_ f]
   show 1+Ft.cnts (f.Parts.map _)=_
   rw[sc_1 f.Parts (fun a ha=>ih a ha (hparts a ha))]
  ·have e3:=of_decide_eq_true e
   rcases fCc_ hform with⟨_,_,hk,_⟩ | ⟨h,_⟩ | ⟨h,_⟩
   ·rw[cond_true,fu_,fu_ f,List.eq_nil_of_length_eq_zero hk]; rfl
   ·exact absurd e3 h
   ·exact absurd e3 h
 ·rfl
theorem sg_1{n:ByteArray}{t:Tt}(f:Ft):f.good=true→f.cf n t=true→(f.sub n t).good=f.sok n t:=by
 refine Ft.ind' (M:=fun f=>f.good=true→f.cf n t=true→(f.sub n t).good=f.sok n t) (fun f ih hg hcf=>?_) f
 obtain⟨hform,hparts⟩:=gs_ hg
 rw[Fsu_,Fsu_1]
 rw[Fcu_] at hcf
 cases hk:f.keep n
 ·rw[hk,cond_false] at hcf
  rw[cond_false,cond_false]
  cases e:decide (f.Op=3)
  ·rw[e,cond_false,aA,a7] at hcf
   rw[cond_false,cond_false,Ft.good_u,hcf.1,Bool.true_and]
   show(fC_ f.Op f.Atom f.Var (f.Parts.map _).length&&(f.Parts.map _).all Ft.good)=_
   rw[aD,hform,Bool.true_and,List.all_map,Bool.eq_iff_iff,a7,a7]
   exact⟨fun h a ha=>by rw[← ih a ha (hparts a ha) (hcf.2 a ha)]; exact h a ha,fun h a ha=>by show(a.sub n t).good=true; rw[ih a ha (hparts a ha) (hcf.2 a ha)]; exact h a ha⟩
  ·have e3:=of_decide_eq_true e
   rcases fCc_ hform with⟨_,_,_,_,hv⟩ | ⟨h,_⟩ | ⟨h,_⟩
   ·rw[cond_true,cond_true,Ft.good_u]
    show(fC_ f.Op (sbT n t f.Atom) f.Var 0&&true)=_
    unfold fC_
    rw[e,cond_true,hv]; simp
   ·exact absurd e3 h
   ·exact absurd e3 h
 ·rw[cond_true,cond_true,hg]
theorem f_{g:Ft→Ft}{c:Nat}:∀ l:List Ft,(∀ a∈l,(g a).tot+1≤c*a.cnt)→ltot aR (l.map g)≤c*Ft.cnts l
 | [],_=>by simp[ltot]
 | a::l,h=>by
  have h1:=h a (by simp)
  have h2:=f_ l (fun x hx=>h x (by simp[hx]))
  simp only[ltot,aO,aK,bn,Ft.cnts,Nat.mul_add] at*
  omega
theorem vt_1{f:Ft}(hform:fC_ f.Op f.Atom f.Var f.Parts.length=true):f.Var.size≤4:=by
 rcases fCc_ hform with⟨_,_,_,_,hv⟩ | ⟨_,_,_,_,hv⟩ | ⟨_,_,_,_,hv⟩
 ·rw[hv]; exact Nat.zero_le _
 ·exact vs_1 hv
 ·rw[hv]; exact Nat.zero_le _
theorem at_1{f:Ft}(hform:fC_ f.Op f.Atom f.Var f.Parts.length=true):f.Atom.tot≤210:=by
 have hz:(⟨⟨#[]⟩,[]⟩:Tt).tot≤210:=by rw[Tt.tot_u]; exact Nat.le_of_ble_eq_true rfl
 rcases fCc_ hform with⟨_,_,_,hat,_⟩ | ⟨_,_,_,hv,_⟩ | ⟨_,_,_,hv,_⟩
 ·have:=tt_ _ (at_ hat); have:=(aTo_ hat).cnt; omega
 ·rw[hv]; exact hz
 ·rw[hv]; exact hz
theorem gt_1(f:Ft):f.good=true→f.tot+1≤220*f.cnt:=by
 refine Ft.ind' (M:=fun f=>f.good=true→f.tot+1≤220*f.cnt) (fun f ih hg=>?_) f
 obtain⟨hform,hparts⟩:=gs_ hg
 have h1:=vt_1 hform
 have h2:=at_1 hform
 have h3:=f_ (g:=fun x=>x) (c:=220) f.Parts (fun a ha=>ih a ha (hparts a ha))
 rw[List.map_id'] at h3
 rw[f.tot_u,fu_ f]; omega
theorem st_2{n:ByteArray}{t:Tt}(hg:t.good=true)(hc:t.cnt≤30)(f:Ft):f.good=true→(f.sub n t).tot+1≤6400*f.cnt:=by
 refine Ft.ind' (M:=fun f=>f.good=true→(f.sub n t).tot+1≤6400*f.cnt) (fun f ih hgf=>?_) f
 obtain⟨hform,hparts⟩:=gs_ hgf
 have h1:=vt_1 hform
 have h2:=at_1 hform
 have hcp:=f.cnt_pos
 rw[Fsu_]
 cases f.keep n
 ·rw[cond_false]
  cases e:decide (f.Op=3)
  ·have h3:=f_ (g:=Ft.sub n t) (c:=6400) f.Parts (fun a ha=>ih a ha (hparts a ha))
   rw[cond_false,Ft.tot_u,fu_ f]
   show f.Atom.tot+(f.Var.size+ltot aR (f.Parts.map _))+1≤_
   omega
  ·have e3:=of_decide_eq_true e
   rcases fCc_ hform with⟨_,_,_,hat,_⟩ | ⟨h,_⟩ | ⟨h,_⟩
   ·have h4:=sat_ (n:=n) hg hc hat
    rw[cond_true,Ft.tot_u]
    show(sbT n t f.Atom).tot+(f.Var.size+ltot aR [])+1≤_
    have h5:ltot aR []=0:=rfl
    omega
   ·exact absurd e3 h
   ·exact absurd e3 h
 ·have:=gt_1 f hgf
  rw[cond_true]; omega
theorem Ft.Ok_of(f:Ft):f.good=true→f.tot≤1048576→f.Ok:=by
 refine Ft.ind' (M:=fun f=>f.good=true→f.tot≤1048576→f.Ok) (fun f ih hg ht=>?_) f
 obtain⟨hform,hparts⟩:=gs_ hg
 have hu:=f.tot_u
 have hl:=ll_ aR f.Parts
 have hop:InR f.Op:=by
  unfold fC_ at hform
  by_cases hr:InR f.Op
  ·exact hr
  ·simp only[InR] at hr
   have e:∀ k:Int,1≤k→k≤9→decide (f.Op=k)=false:=fun k h1 h2=>decide_eq_false (fun h=>hr (by omega))
   rw[e 1 (by decide) (by decide),e 2 (by decide) (by decide),e 3 (by decide) (by decide),e 4 (by decide) (by decide),e 5 (by decide) (by decide),e 6 (by decide) (by decide),e 7 (by decide) (by decide),e 8 (by decide) (by decide),e 9 (by decide) (by decide)] at hform
   simp at hform
 have:=Ft.Ok.mk f.Op f.Atom f.Var f.Parts hop (Tt.Ok_of f.Atom (by omega)) (show f.Var.size≤9223372036854775807 by omega) (show f.Parts.length≤9223372036854775807 by omega) (fun a ha=>ih a ha (hparts a ha) (by have:=Ftp_ ha; omega))
 rwa [f.eta] at this
theorem sO_2{n:ByteArray}{t:Tt}(hok:t.Ok)(hg:t.good=true)(hc:t.cnt≤30)(f:Ft):f.Ok→f.good=true→(f.sub n t).Ok:=by
 refine Ft.ind' (M:=fun f=>f.Ok→f.good=true→(f.sub n t).Ok) (fun f ih hokf hgf=>?_) f
 obtain⟨hform,hparts⟩:=gs_ hgf
 obtain⟨h1,h2,h3,h4⟩:=hokf.u
 rw[Fsu_]
 cases f.keep n
 ·rw[cond_false]
  cases e:decide (f.Op=3)
  ·refine Ft.Ok.mk _ _ _ _ h1 h2 h3 (by rw[aD]; exact h4.1) (fun a ha=>?_)
   obtain⟨b,hb,rfl⟩:=List.mem_map.1 ha
   exact ih b hb (h4.2 b hb) (hparts b hb)
  ·have e3:=of_decide_eq_true e
   rcases fCc_ hform with⟨_,_,_,hat,_⟩ | ⟨h,_⟩ | ⟨h,_⟩
   ·have h5:=sat_ (n:=n) hg hc hat
    exact Ft.Ok.mk _ _ _ _ h1 (Tt.Ok_of _ (by omega)) h3 (by simp only[Big,bf]; omega) (fun a ha=>by cases ha)
   ·exact absurd e3 h
   ·exact absurd e3 h
 ·exact hokf
theorem vFi_{f:Ft}(h:vF_ f=true):f.cnt≤40∧f.good=true:=by
 unfold vF_ at h; rw[aA,decide_eq_true_iff] at h; exact h
theorem vFt_{f:Ft}(h:vF_ f=true):f.tot≤8800:=by
 obtain⟨h1,h2⟩:=vFi_ h
 have:=gt_1 f h2; omega
theorem vFO_{f:Ft}(h:vF_ f=true):f.Ok:=Ft.Ok_of f (vFi_ h).2 (by have:=vFt_ h; omega)
theorem gTO_{t:Tt}(h:gT_ t=true):t.tot≤210∧t.Ok:=by
 obtain⟨h1,h2⟩:=gTi_ h
 have:=tt_ t (gt_ t h1)
 exact⟨by omega,Tt.Ok_of t (by omega)⟩
def subst(f:Ft)(n:ByteArray)(t:Tt):Bool:=vF_ f&&(iVS_ n&&(gT_ t&&f.sok n t))
theorem sv_1{n:ByteArray}{t:Tt}{f:Ft}(hv:vF_ f=true)(hcf:f.cf n t=true):vF_ (f.sub n t)=f.sok n t:=by
 obtain⟨h1,h2⟩:=vFi_ hv
 unfold vF_
 rw[sc_6 f h2,sg_1 f h2 hcf,decide_eq_true h1,Bool.true_and]
theorem SFe_{n:ByteArray}{t:Tt}{f:Ft}(hof:f.Ok)(hf:f.tot≤1048576)(hnb:Big n.size)(hot:t.Ok)(ht:t.tot≤1048576):
 iSF_ f n t=some (bif subst f n t then(f.sub n t,true) else(⟨0,⟨⟨#[]⟩,[]⟩,⟨#[]⟩,[]⟩,false)):=by
 unfold iSF_ subst
 rw[vFi_1 f hf hof,iVe_ n hnb,IVT_ t ht hot]
 simp only[ak]
 cases hv:vF_ f
 ·rfl
 cases hn:iVS_ n
 ·rfl
 cases hg:gT_ t
 ·rfl
 obtain⟨h1,h2⟩:=vFi_ hv
 obtain⟨g1,g2⟩:=gTi_ hg
 obtain⟨r,r1,r2,r3⟩:=ise_1 hn g1 (by omega) f h2 hf (by omega)
 simp only[cond_true,Bool.true_and]
 rw[show is_ f n t=some r from le_ ⟨_,r1⟩,ak,r2]
 cases hcf:f.cf n t
 ·have:f.sok n t=false:=by rw[← Bool.not_eq_true]; intro h; rw[sc_5 f h] at hcf; cases hcf
  rw[this]; rfl
 ·rw[cond_true,r3 (r2.trans hcf)]
  have h3:=st_2 (n:=n) g1 g2 f h2
  unfold iiF_1
  rw[vFi_1 _ (by omega) (sO_2 hot g1 g2 f hof h2),ak,sv_1 hv hcf]
  cases f.sok n t<;>rfl
theorem sv_{n:ByteArray}{t:Tt}{f:Ft}(h:subst f n t=true):vF_ (f.sub n t)=true∧vF_ f=true∧iVS_ n=true∧gT_ t=true∧f.sok n t=true:=by
 unfold subst at h
 simp only[aA] at h
 exact⟨by rw[sv_1 h.1 (sc_5 f h.2.2.2)]; exact h.2.2.2,h.1,h.2.1,h.2.2.1,h.2.2.2⟩
end
section
theorem ll_1{α:Type}{c t:α→Nat}{m:Nat}:∀ l:List α,(∀ a∈l,c a≤m+m*t a)→lcn c l≤m*ltot t l
 | [],_=>by simp[ln_]
 | a::l,h=>by
  have h1:=h a (by simp)
  have h2:=ll_1 l (fun x hx=>h x (by simp[hx]))
  rw[lc_]
  simp only[ltot,aO,aK,bn,Nat.mul_add,Nat.mul_one] at*
  omega
theorem Tt.cn_tot(t:Tt):Tt.cn t≤1+t.tot:=by
 refine Tt.ind' (M:=fun t=>Tt.cn t≤1+t.tot) (fun t ih=>?_) t
 have:=ll_1 (c:=Tt.cn) (t:=Tt.tot) (m:=1) t.Args (fun a ha=>by have:=ih a ha; omega)
 rw[Tt.cn_u,t.tot_u]; omega
theorem Ft.cn_tot(f:Ft):aw f≤3+3*f.tot:=by
 refine Ft.ind' (M:=fun f=>aw f≤3+3*f.tot) (fun f ih=>?_) f
 have h1:=ll_1 (c:=Tt.cn) (t:=Tt.tot) (m:=1) f.Atom.Args (fun a _=>by have:=Tt.cn_tot a; omega)
 have h2:=ll_1 (c:=aw) (t:=aR) (m:=3) f.Parts (fun a ha=>by have:=ih a ha; omega)
 have h3:=f.Atom.tot_u
 rw[Ft.cn_u,f.tot_u]; omega
theorem Ft.marks_tot(f:Ft):lcn Tt.cn f.Atom.Args+lcn aw f.Parts≤3*f.tot:=by
 have:=Ft.cn_tot f
 rw[Ft.cn_u] at this; omega
end
section
def dI_{α:Type}:List α→Int→List α
 | [],_=>[]
 | f::l,i=>if i=0 then l else f::dI_ l (i-1)
theorem dIn_{α:Type}:∀ (l:List α) (i:Int),i<0→dI_ l i=l
 | [],_,_=>rfl
 | f::l,i,h=>by rw[dI_,if_neg (by omega),dIn_ l (i-1) (by omega)]
theorem dIm_{α:Type}{l:List α}{i:Int}{f:α}:f∈dI_ l i→f∈l:=by
 induction l generalizing i with
 | nil=>exact fun h=>h
 | cons g l ih=>
  rw[dI_]
  split
  ·exact List.mem_cons_of_mem _
  ·rw[bg,bg]; exact fun h=>h.imp id ih
theorem dIl_{α:Type}(l:List α)(i:Int):(dI_ l i).length≤l.length:=by
 induction l generalizing i with
 | nil=>exact a6 _
 | cons g l ih=>
  rw[dI_]
  split
  ·simp
  ·simp only[aO]; have:=ih (i-1); omega
theorem kg_{α ρ:Type}[Inhabited α](l:List α)(i:Int)(F:Nat→List α→Option (Flow ρ (List α)))
 (hF:∀ j s,j<l.length→s.length≤j→F j s=some (.nx (if (j:Int)=i then s else s++[l.getD j default]))):
 ∀ (n k:Nat) (s:List α),k+n=l.length→s.length≤k→forN F n k s=some (.inr (s++dI_ (l.drop k) (i-k))):=by
 intro n
 induction n with
 | zero=>
  intro k s hk _
  rw[List.drop_eq_nil_of_le (by omega),dI_,List.append_nil]; rfl
 | succ n ih=>
  intro k s hk hs
  rw[dgD_ (show k<l.length by omega),dI_]
  by_cases h:(k:Int)=i
  ·rw[fNn_ (s':=s) (by rw[hF k s (by omega) hs,if_pos h]),ih (k+1) s (by omega) (by omega),if_pos (by omega),dIn_ _ _ (by omega)]
  ·rw[fNn_ (s':=s++[l.getD k default]) (by rw[hF k s (by omega) hs,if_neg h]),ih (k+1) _ (by omega) (by simp; omega),if_neg (by omega),aV]
   have:i-((k+1:Nat):Int)=i-k-1:=by omega
   rw[this]; rfl
theorem kl_{α ρ:Type}[Inhabited α](l:List α)(i:Int)(F:Nat→List α→Option (Flow ρ (List α)))
 (hF:∀ j s,j<l.length→s.length≤j→F j s=some (.nx (if (j:Int)=i then s else s++[l.getD j default]))):
 forN F l.length 0 []=some (.inr (dI_ l i)):=by
 have:=kg_ l i F hF l.length 0 [] (by omega) (a6 _)
 simpa using this
structure Mod(l:List Ft):Prop where
 tot:∀ f∈l,f.tot≤1048576
 len:l.length≤1048576
theorem sc_{l m:List Ft}(i:Int)(hl:Mod l)(hm:Mod m):slC_3 l i m=some (dI_ l i++m):=by
 unfold slC_3
 rw[kl_ l i _ (fun j s hj hs=>?_),tLi_]
 ·simp only[fNi_]
  have:=dIl_ l i
  have h1:=hl.len
  have h2:=hm.len
  rw[mapL (f:=slO_5) (g:=fun x=>x) m 0 (dI_ l i) (fun a ha=>ownF a (hm.tot a ha)) (by omega),tLi_]
  simp
 ·have h1:=hl.len
  by_cases h:(j:Int)=i
  ·rw[decide_eq_true h,if_pos h]; rfl
  ·rw[decide_eq_false h,if_neg h,cond_false,igD_ hj,ak,ownF _ (hl.tot _ (gDm_ hj)),ak,app,if_pos (by simp; omega)]; rfl
def nx(s:Sa)(i:Int)(m:List Ft)(j:Int)(k:List Ft):Sa:=⟨dI_ s.Left i++m,dI_ s.Right j++k⟩
theorem sn_{s:Sa}(i j:Int){m k:List Ft}(hl:Mod s.Left)(hr:Mod s.Right)(hm:Mod m)(hk:Mod k):slN_1 s i m j k=some (nx s i m j k):=by
 unfold slN_1
 rw[sc_ i hl hm,ak,sc_ j hr hk,ak]; rfl
def mOn(r:Int):Bool×Int:=
 bif decide (r=1) then(true,0) else bif decide (r=2) then(false,1) else bif decide (r=3) then(true,4) else bif decide (r=4) then(false,4) else
 bif decide (r=5) then(true,5) else bif decide (r=6) then(false,5) else bif decide (r=7) then(true,6) else bif decide (r=8) then(false,6) else
 bif decide (r=9) then(true,7) else bif decide (r=10) then(false,7) else bif decide (r=11) then(true,8) else bif decide (r=12) then(false,8) else(decide (r=13),9)
theorem mOe_(r:Int):imO_ r=some (mOn r):=by
 have hr:r=1∨r=2∨r=3∨r=4∨r=5∨r=6∨r=7∨r=8∨r=9∨r=10∨r=11∨r=12∨(r≠1∧r≠2∧r≠3∧r≠4∧r≠5∧r≠6∧r≠7∧r≠8∧r≠9∧r≠10∧r≠11∧r≠12):=by omega
 rcases hr with rfl | rfl | rfl | rfl | rfl | rfl | rfl | rfl | rfl | rfl | rfl | rfl | ⟨h1,h2,h3,h4,h5,h6,h7,h8,h9,h10,h11,h12⟩
 all_goals first | rfl | skip
 unfold imO_ mOn
 simp only[decide_eq_false h1,decide_eq_false h2,decide_eq_false h3,decide_eq_false h4,decide_eq_false h5,decide_eq_false h6,decide_eq_false h7,decide_eq_false h8,decide_eq_false h9,decide_eq_false h10,decide_eq_false h11,decide_eq_false h12,cond_false]
def s_(r:Int):Bool:=decide (r=11)||decide (r=14)
theorem re_1(r:Int):imR_ r=some (s_ r):=by
 unfold imR_ s_
 cases decide (r=11)<;>rfl
def remI(d:Dt)(left:Bool):Int:=bif decide (d.Rule=15)||s_ d.Rule then -1 else bif (mOn d.Rule).1==left then d.Main else -1
theorem re_(d:Dt)(left:Bool){i:Int}(hi:0≤i):iDr_ d left i=some (decide (i=remI d left)):=by
 unfold iDr_ remI
 have hn:decide (i=-1)=false:=decide_eq_false (by omega)
 rw[re_1,mOe_]
 simp only[ak]
 cases decide (d.Rule=15)
 ·cases s_ d.Rule
  ·cases h:(mOn d.Rule).1==left
   ·simp[hn]
   ·simp only[cond_false,cond_true,Bool.or_self]
    rw[decide_eq_decide.2 (eq_comm (a:=d.Main) (b:=i))]
  ·simp[hn]
 ·simp[hn]
theorem re_2(d:Dt)(left:Bool){l:List Ft}(hl:Mod l):iDr_1 d l left=some (dI_ l (remI d left)):=by
 unfold iDr_1
 rw[kl_ l (remI d left) _ (fun j s hj hs=>?_),tLi_]
 have h1:=hl.len
 rw[igD_ hj,ak,re_ d left (by omega),ak]
 by_cases h:(j:Int)=remI d left
 ·rw[decide_eq_true h,if_pos h]; rfl
 ·rw[decide_eq_false h,if_neg h,cond_false,app,if_pos (by simp; omega)]; rfl
theorem cg_(xs:List Sa)(P:Sa→Sa)(F:Nat→List Sa→Option (Flow (List Sa×Bool) (List Sa)))
 (hF:∀ j s,j<xs.length→s.length≤j→F j s=some (bif vS_ (P (xs.getD j default)) then .nx (s++[P (xs.getD j default)]) else .rt ([],false))):
 ∀ (n k:Nat) (s:List Sa),k+n=xs.length→s.length≤k→
  tL_ (forN F n k s) (fun s=>some (s,true))=some (bif ((xs.drop k).map P).all vS_ then(s++(xs.drop k).map P,true) else([],false)):=by
 intro n
 induction n with
 | zero=>
  intro k s hk _
  rw[List.drop_eq_nil_of_le (by omega),List.map_nil,List.append_nil]; rfl
 | succ n ih=>
  intro k s hk hs
  rw[dgD_ (show k<xs.length by omega),aK,bD]
  cases h:vS_ (P (xs.getD k default))
  ·rw[fNr_ (r:=([],false)) (by rw[hF k s (by omega) hs,h]; rfl)]; rfl
  ·rw[fNn_ (s':=s++[P (xs.getD k default)]) (by rw[hF k s (by omega) hs,h]; rfl),ih (k+1) _ (by omega) (by simp; omega),aV]; rfl
theorem gg_(L:List Sa)(F:Nat→Bool→Option (Flow (List Sa×Bool) Bool))
 (hF:∀ j,j<L.length→F j true=some (.nx (vS_ (L.getD j default)))) (hN:∀ j,F j false=some (.nx false)):
 ∀ (n k:Nat) (b:Bool),k+n=L.length→forN F n k b=some (.inr (b&&(L.drop k).all vS_)):=by
 intro n
 induction n with
 | zero=>
  intro k b hk
  rw[List.drop_eq_nil_of_le (by omega),List.all_nil,Bool.and_true]; rfl
 | succ n ih=>
  intro k b hk
  cases b
  ·rw[fNn_ (s':=false) (hN k),ih (k+1) false (by omega)]; rfl
  ·rw[fNn_ (s':=vS_ (L.getD k default)) (hF k (by omega)),ih (k+1) _ (by omega),dgD_ (show k<L.length by omega),bD,Bool.true_and]
structure Vl(l:List Ft)(k:Nat):Prop where
 val:∀ f∈l,vF_ f=true
 len:l.length≤k
theorem Vl.mod{l:List Ft}{k:Nat}(h:Vl l k)(hk:k≤1000):Mod l:=⟨fun f hf=>by have:=vFt_ (h.val f hf); omega,by have:=h.len; omega⟩
theorem Vl.sum{l:List Ft}{k:Nat}(h:Vl l k):ltot aR l≤8801*k:=by
 have:∀ l:List Ft,(∀ f∈l,vF_ f=true)→ltot aR l≤8801*l.length:=by
  intro l
  induction l with
  | nil=>intro _; exact Nat.zero_le _
  | cons a l ih=>
   intro h
   have h1:=vFt_ (h a (by simp))
   have h2:=ih (fun f hf=>h f (by simp[hf]))
   simp only[ltot,aO,aK,bn] at h2 ⊢
   omega
 have h1:=this l h.val
 have h2:=Nat.mul_le_mul_left 8801 h.len
 omega
theorem Vl.drop{l m:List Ft}{k j:Nat}(h:Vl l k)(hm:Vl m j)(i:Int):Vl (dI_ l i++m) (k+j):=⟨fun f hf=>by
 rcases List.mem_append.1 hf with h1 | h1
 ·exact h.val f (dIm_ h1)
 ·exact hm.val f h1,by have:=dIl_ l i; have:=h.len; have:=hm.len; rw[aP]; omega⟩
theorem Vl.seq{l r:List Ft}{k j:Nat}(hl:Vl l k)(hr:Vl r j)(hk:k≤20)(hj:j≤20):Sa.Ok ⟨l,r⟩∧Sa.tot ⟨l,r⟩≤1048576:=by
 have h1:=hl.sum
 have h2:=hr.sum
 have h3:=Nat.mul_le_mul_left 8801 hk
 have h4:=Nat.mul_le_mul_left 8801 hj
 have g1:=hl.len
 have g2:=hr.len
 refine⟨⟨⟨by simp only[Big]; show l.length≤_; omega,fun f hf=>vFO_ (hl.val f hf)⟩,⟨by simp only[Big]; show r.length≤_; omega,fun f hf=>vFO_ (hr.val f hf)⟩⟩,?_⟩
 unfold Sa.tot
 show ltot aR l+ltot aR r≤_
 omega
theorem cF_3{l:List Ft}(h:Mod l):icF_3 l=some l:=by
 unfold icF_3
 simp only[fNi_]
 have:=h.len
 rw[mapL (f:=icF_) (g:=fun x=>x) l 0 [] (fun a ha=>cF_1 a (h.tot a ha)) (by simp; omega),tLi_]
 simp
theorem cF_2(L R:List Ft)(h1:L.length≤10)(h2:R.length≤10):sCS_1 [L,R]=some (L++R):=by
 unfold sCS_1
 have w1:IntKind.i64.wrap ((0:Int)+(L.length:Int))=(L.length:Int):=by rw[w_]<;>omega
 have w2:IntKind.i64.wrap ((L.length:Int)+(R.length:Int))=((L.length+R.length:Nat):Int):=by rw[w_]<;>omega
 have e1:∀ i:Nat,idx [L,R] (i:Int)=[L,R][i]?:=fun i=>in_ _ i
 have g:∀ n:Nat,n≤20→sGS_ (n:Int)=some []:=by
  intro n hn
  unfold sGS_
  rw[decide_eq_false (by omega),cond_false]
  have:IntKind.i64.wrap ((n:Int)-IntKind.i64.wrap ((0:Int)-(([]:List Nat).length:Int)))=(n:Int):=by
   rw[show(0:Int)-(([]:List Nat).length:Int)=0 from rfl,w_ (n:=0) (by omega) (by omega),w_]<;>omega
  rw[this]
  by_cases h:0<(n:Int)
  ·rw[decide_eq_true h,cond_true]
   have:appz (n:Int)=some n:=by unfold appz; rw[if_pos (by omega)]; rfl
   rw[this,ak]
   unfold slc
   rw[if_pos ⟨by omega,by simp,by simp⟩]; rfl
  ·rw[decide_eq_false h]; rfl
 have a1:app ([]:List Ft) L=some L:=by unfold app; rw[if_pos (by simp only[bf]; omega)]; rfl
 have a2:app L R=some (L++R):=by unfold app; rw[if_pos (by omega)]
 have f1:forN (fun (i3:Nat) (s3:Int)=>aa (idx [L,R] (i3:Int)) fun v13=>bif decide ((IntKind.i64.wrap (s3+(v13.length:Int)))<(0:Int)) then(none:Option (Flow (List Ft) Int)) else some (.nx (IntKind.i64.wrap (s3+(v13.length:Int))))) [L,R].length 0 (0:Int)=some (.inr ((L.length+R.length:Nat):Int)):=by
  rw[show [L,R].length=1+1 from rfl,fNn_ (s':=(L.length:Int)) (by rw[e1]; simp only[List.getElem?_cons_zero,ak,w1]; rw[decide_eq_false (by omega)]; rfl),
   fNn_ (n:=0) (s':=((L.length+R.length:Nat):Int)) (by rw[e1]; simp only[List.getElem?_cons_zero,List.getElem?_cons_succ,ak,w2]; rw[decide_eq_false (by omega)]; rfl)]
  rfl
 have f2:forN (ρ:=List Ft) (fun (i11:Nat) (s11:(List Ft))=>aa (idx [L,R] (i11:Int)) fun v29=>aa (app s11 v29) fun v33=>some (.nx v33)) [L,R].length 0 []=some (.inr (L++R)):=by
  rw[show [L,R].length=1+1 from rfl,fNn_ (s':=L) (by rw[e1]; simp only[List.getElem?_cons_zero,ak,a1]),
   fNn_ (n:=0) (s':=L++R) (by rw[e1]; simp only[List.getElem?_cons_zero,List.getElem?_cons_succ,ak,a2])]
  rfl
 rw[f1,tLi_,g _ (by omega),ak,f2]; rfl
theorem cS_1{s:Sa}(hl:Mod s.Left)(hr:Mod s.Right):icS_ s=some s:=by
 unfold icS_
 rw[cF_3 hl,ak,cF_3 hr,ak]
def prem(s:Sa)(d:Dt)(x:Sa):Sa:=nx s (remI d true) x.Left (remI d false) x.Right
theorem po_{s x:Sa}{d:Dt}(hl:Vl s.Left 10)(hr:Vl s.Right 10)(xl:Vl x.Left 2)(xr:Vl x.Right 2):(prem s d x).Ok∧(prem s d x).tot≤1048576:=
 Vl.seq (k:=12) (j:=12) (hl.drop xl _) (hr.drop xr _) (by omega) (by omega)
theorem ip_1{s:Sa}{d:Dt}{xs:List Sa}{b:Bool}(hl:Vl s.Left 10)(hr:Vl s.Right 10)(ha:ia_ s d=some (xs,b))
 (hx:b=true→∀ x∈xs,Vl x.Left 2∧Vl x.Right 2) (hn:xs.length≤1000):
 ip_ s d=some (bif b&&(xs.map (prem s d)).all vS_ then(xs.map (prem s d),true) else([],false)):=by
 unfold ip_
 rw[ha,ak]
 cases b
 ·rfl
 have ml:=hl.mod (by omega)
 have mr:=hr.mod (by omega)
 show tL_ _ _=_
 rw[cg_ xs (prem s d) _ (fun j t hj ht=>?_) xs.length 0 [] (by omega) (a6 _)]
 ·rfl
 ·obtain⟨x1,x2⟩:=hx rfl _ (gDm_ hj)
  have e1:=dIl_ s.Left (remI d true)
  have e2:=dIl_ s.Right (remI d false)
  have e3:=hl.len
  have e4:=hr.len
  have e5:=x1.len
  have e6:=x2.len
  have g1:=hl.drop x1 (remI d true)
  have g2:=hr.drop x2 (remI d false)
  obtain⟨k1,k2⟩:=po_ (d:=d) hl hr x1 x2
  rw[igD_ hj,ak,re_2 d true ml,ak,cF_2 _ _ (by omega) (by omega),ak,re_2 d false mr,ak,cF_2 _ _ (by omega) (by omega),ak,
   cS_1 (s:=⟨_,_⟩) (g1.mod (by omega)) (g2.mod (by omega)),ak]
  show(iIV_6 (prem s d (xs.getD j default))).bind _=_
  rw[vSi_ _ k1 k2,ak]
  cases h:vS_ (prem s d (xs.getD j default))
  ·rfl
  ·rw[cond_true,cond_true,app,if_pos (by simp; omega)]; rfl
theorem sp_2{s:Sa}{d:Dt}{L:List Sa}{b:Bool}(h:slR_ s d=some (L,b))(hx:b=true→∀ x∈L,x.Ok∧x.tot≤1048576):
 slP_3 s d=some (bif b&&L.all vS_ then(L,true) else([],false)):=by
 unfold slP_3
 rw[h,ak]
 cases b
 ·have:∀ (n k:Nat),forN (ρ:=List Sa×Bool) (fun (i3:Nat) (s3:Bool)=>bif s3 then aa (idx L (i3:Int)) fun v25=>aa (slG_ v25) fun v27=>some (.nx v27) else some (.nx false)) n k false=some (.inr false):=by
   intro n
   induction n with
   | zero=>intro k; rfl
   | succ n ih=>intro k; rw[fNn_ (s':=false) rfl,ih]
  show tL_ _ _=_
  rw[this,tLi_]; rfl
 ·show tL_ _ _=_
  rw[gg_ L _ (fun j hj=>?_) (fun j=>rfl) L.length 0 true (by omega),tLi_]
  ·show(bif (true&&L.all vS_) then _ else _)=_
   cases L.all vS_<;>rfl
  ·obtain⟨k1,k2⟩:=hx rfl _ (gDm_ hj)
   rw[cond_true,igD_ hj,ak,vSs_ _ k1 k2,ak]
end
section
theorem cm_1{l:List Ft}{p:Ft}(h:p∈l):p.cnt≤(l.map Ft.cnt).sum:=by
 induction l with
 | nil=>cases h
 | cons a l ih=>
  rw[aK,bn]
  rcases List.mem_cons.1 h with rfl | h
  ·omega
  ·have:=ih h; omega
theorem pv_{f p:Ft}(h:vF_ f=true)(hp:p∈f.Parts):vF_ p=true:=by
 obtain⟨h1,h2⟩:=vFi_ h
 rw[Ft.good_u,aA,a7] at h2
 have h3:=cm_1 hp
 rw[Ft.cnt_u] at h1
 unfold vF_
 rw[h2.2 p hp,Bool.and_true]
 exact decide_eq_true (by omega)
theorem fo_{f:Ft}(h:vF_ f=true):fC_ f.Op f.Atom f.Var f.Parts.length=true:=by
 have h2:=(vFi_ h).2
 rw[Ft.good_u,aA] at h2
 exact h2.1
theorem op_{f:Ft}(h:vF_ f=true)(ho:f.Op=4∨f.Op=8∨f.Op=9):∃ p,f.Parts=[p]:=by
 have h2:=fo_ h
 have:f.Parts.length=1:=by
  unfold fC_ at h2
  rcases ho with e | e | e<;>rw[e] at h2<;>simp at h2<;>omega
 match hp:f.Parts,this with
 | [p],_=>exact⟨p,rfl⟩
theorem tp_{f:Ft}(h:vF_ f=true)(ho:f.Op=5∨f.Op=6∨f.Op=7):∃ p q,f.Parts=[p,q]:=by
 have h2:=fo_ h
 have:f.Parts.length=2:=by
  unfold fC_ at h2
  rcases ho with e | e | e<;>rw[e] at h2<;>simp at h2<;>omega
 match hp:f.Parts,this with
 | [p,q],_=>exact⟨p,q,rfl⟩
theorem qv_{f:Ft}(h:vF_ f=true)(ho:f.Op=8∨f.Op=9):iVS_ f.Var=true:=by
 have h2:=fo_ h
 unfold fC_ at h2
 rcases ho with e | e<;>rw[e] at h2<;>simp at h2<;>exact h2.2.2
theorem Vl.nil(k:Nat):Vl [] k:=⟨fun _ h=>(nomatch h),Nat.zero_le _⟩
theorem Vl.one{p:Ft}(h:vF_ p=true):Vl [p] 2:=⟨fun f hf=>by rw[List.mem_singleton.1 hf]; exact h,by simp⟩
theorem Vt_{p q:Ft}(h:vF_ p=true)(g:vF_ q=true):Vl [p,q] 2:=by
 refine⟨fun f hf=>?_,by simp⟩
 simp only[bg,List.not_mem_nil,or_false] at hf
 rcases hf with rfl | rfl
 ·exact h
 ·exact g
def fvS(s:Sa)(x:ByteArray):Bool:=s.Left.any (fun f=>f.fv x)||s.Right.any (fun f=>f.fv x)
theorem fIe_{s:Sa}(hl:Vl s.Left 10)(hr:Vl s.Right 10)(x:ByteArray):iiF_2 s x=some (fvS s x):=by
 have key:∀ l:List Ft,Vl l 10→sCF_ l (fun y0=>iiF_ y0 x)=some (l.any fun f=>f.fv x):=fun l h=>by
  refine cF_ l (fun f hf=>?_)
  obtain⟨h1,h2⟩:=vFi_ (h.val f hf)
  obtain⟨v,e,hv⟩:=fi_ h2 (by omega)
  unfold iiF_
  rw[e,ak,ChV_,ak,hv]
 unfold iiF_2 fvS
 rw[key _ hl,ak]
 cases s.Left.any fun f=>f.fv x
 ·rw[cond_false,key _ hr]; rfl
 ·rfl
theorem Vl.cnts{l:List Ft}{k:Nat}(h:Vl l k):Ft.cnts l≤40*k:=by
 have:∀ l:List Ft,(∀ f∈l,vF_ f=true)→Ft.cnts l≤40*l.length:=by
  intro l
  induction l with
  | nil=>intro _; exact Nat.zero_le _
  | cons a l ih=>
   intro h
   have h1:=(vFi_ (h a (by simp))).1
   have h2:=ih (fun f hf=>h f (by simp[hf]))
   simp only[Ft.cnts,aO]; omega
 have h1:=this l h.val
 have h2:=Nat.mul_le_mul_left 40 h.len
 omega
theorem nl_{l:List Ft}(h:Vl l 10)(acc:List ByteArray)(hb:acc.length≤20000):
 ∃ v,forL (ρ:=List ByteArray) (fun _ x s=>(slI_7 s x []).bind fun w=>some (.nx w)) l 0 acc=some (.inr v)∧(∀ x,x∈v↔x∈acc∨Ff_ x l=true)∧v.length≤acc.length+12000:=by
 have hc:=h.cnts
 obtain⟨v,h1,h2,h3⟩:=gl_ [] (fun _ s x=>slI_7 s x []) 0 l 0 acc (fun a ha acc hb=>by
  obtain⟨g1,g2⟩:=vFi_ (h.val a ha)
  obtain⟨v,k1,k2⟩:=ie_ a (vFO_ (h.val a ha)) g2 acc [] hb (by simp; omega)
  exact⟨v,fun _ _=>le_ ⟨_,k1⟩,k2⟩) (by omega)
 exact⟨v,h1 0 (a6 _),fun x=>by rw[h2]; simp,by omega⟩
theorem ne_{s:Sa}(hl:Vl s.Left 10)(hr:Vl s.Right 10):∃ v,slN_8 s=some v∧(∀ x,hasV x v=fvS s x)∧v.length≤100000:=by
 obtain⟨v,h1,h2,h3⟩:=nl_ hl [] (by simp)
 simp only[bf] at h3
 obtain⟨w,g1,g2,g3⟩:=nl_ hr v (by omega)
 refine⟨w,?_,fun x=>?_,by omega⟩
 ·unfold slN_8
  simp only[fNi_]
  rw[h1,tLi_,g1,tLi_]
 ·have e:∀ l:List Ft,Ff_ x l=l.any fun f=>f.fv x:=by
   intro l
   induction l with
   | nil=>rfl
   | cons a l ih=>rw[Ff_,ih]; rfl
  rw[Bool.eq_iff_iff,hVi_,g2,h2,e,e]
  unfold fvS
  simp
theorem mi_{l:List Ft}(hl:l.length≤1000)(m:Int):inR m 0 (IntKind.i64.wrap ((l.length:Int)-1))=false∨
 (inR m 0 (IntKind.i64.wrap ((l.length:Int)-1))=true∧∃ f∈l,idx l m=some f):=by
 have w:IntKind.i64.wrap ((l.length:Int)-1)=(l.length:Int)-1:=by rw[w_]<;>omega
 rw[w]
 cases h:inR m 0 ((l.length:Int)-1)
 ·exact .inl rfl
 ·refine .inr ⟨rfl,?_⟩
  unfold inR at h
  simp only[aA,decide_eq_true_eq] at h
  exact⟨_,gDm_ (show m.toNat<l.length by omega),ii_1 h.1 (by omega)⟩
theorem r_12{s:Sa}{d:Dt}(hr:d.Rule=3)(hl:Vl s.Left 10)(hR:Vl s.Right 10)(hcut:same d.Cut (⟨0,⟨⟨#[]⟩,[]⟩,⟨#[]⟩,[]⟩:Ft)=true)(ht:zT_ d.Term=true)(hz:same d.Term (⟨⟨#[]⟩,[]⟩:Tt)=true):
 ∃ xs b L,ia_ s d=some (xs,b)∧slR_ s d=some (L,b)∧(b=true→L=xs.map (prem s d)∧∀ x∈xs,Vl x.Left 2∧Vl x.Right 2)∧xs.length≤2:=by
 have ml:=hl.mod (by omega)
 have mr:=hR.mod (by omega)
 have hop:slO_1 3=some 4:=rfl
 have hon:slO_ 3=some true:=rfl
 have p1:remI d true=d.Main:=by unfold remI; rw[hr]; rfl
 have p2:remI d false=-1:=by unfold remI; rw[hr]; rfl
 have hm:mOn 3=(true,4):=rfl
 have hq:inR 3 11 14=false:=rfl
 have hw:inR 3 1 15=true:=rfl
 unfold ia_ slR_
 rw[hr]
 simp only[we_,lIe_,sFo_,lSo_,lSo_1,zTi_,ak,iiQ_,imF_,mOe_,hr,ht,hz,hcut,hop,hon,hm,hq,hw,aY,decide_false,decide_true,cond_true,cond_false,Bool.not_true,beq_self_eq_true]
 rcases mi_ (l:=s.Left) (by have:=hl.len; omega) d.Main with h | ⟨h,f,hf,he⟩
 ·simp only[h,cond_false,ak]
  exact⟨_,_,_,rfl,rfl,fun h=>(nomatch h),by simp⟩
 ·have hv:=hl.val f hf
  simp only[h,he,ak,cond_true]
  cases ho:decide (f.Op=4)
  ·exact⟨_,_,_,rfl,rfl,fun h=>(nomatch h),by simp⟩
  ·obtain⟨p,hp⟩:=op_ hv (.inl (of_decide_eq_true ho))
   have vp:=pv_ hv (p:=p) (by rw[hp]; simp)
   have mp:Mod [p]:=(Vl.one vp).mod (by omega)
   simp only[cond_true,ak,ia1_,hp]
   unfold slP_
   have e1:slc [p] 0 1=some [p]:=rfl
   have e2:idx [p] 0=some p:=rfl
   rw[e1,e2]
   simp only[ak,decide_true,cond_true,sn_ d.Main (-1) ml mr (m:=[]) (k:=[p]) ((Vl.nil 0).mod (by omega)) mp]
   refine⟨_,_,_,rfl,rfl,fun _=>⟨?_,?_⟩,by simp⟩
   ·simp only[aK,List.map_nil,prem,p1,p2]
   ·intro x hx
    rw[List.mem_singleton.1 hx]
    exact⟨Vl.nil 2,Vl.one vp⟩
theorem r_11{s:Sa}{d:Dt}(hr:d.Rule=4)(hl:Vl s.Left 10)(hR:Vl s.Right 10)(hcut:same d.Cut (⟨0,⟨⟨#[]⟩,[]⟩,⟨#[]⟩,[]⟩:Ft)=true)(ht:zT_ d.Term=true)(hz:same d.Term (⟨⟨#[]⟩,[]⟩:Tt)=true):
 ∃ xs b L,ia_ s d=some (xs,b)∧slR_ s d=some (L,b)∧(b=true→L=xs.map (prem s d)∧∀ x∈xs,Vl x.Left 2∧Vl x.Right 2)∧xs.length≤2:=by
 have ml:=hl.mod (by omega)
 have mr:=hR.mod (by omega)
 have hop:slO_1 4=some 4:=rfl
 have hon:slO_ 4=some false:=rfl
 have p1:remI d true=-1:=by unfold remI; rw[hr]; rfl
 have p2:remI d false=d.Main:=by unfold remI; rw[hr]; rfl
 have hm:mOn 4=(false,4):=rfl
 have hq:inR 4 11 14=false:=rfl
 have hw:inR 4 1 15=true:=rfl
 unfold ia_ slR_
 rw[hr]
 simp only[we_,lIe_,sFo_,lSo_,lSo_1,zTi_,ak,iiQ_,imF_,mOe_,hr,ht,hz,hcut,hop,hon,hm,hq,hw,aY,decide_false,decide_true,cond_true,cond_false,Bool.not_true,beq_self_eq_true]
 rcases mi_ (l:=s.Right) (by have:=hR.len; omega) d.Main with h | ⟨h,f,hf,he⟩
 ·simp only[h,cond_false,ak]
  exact⟨_,_,_,rfl,rfl,fun h=>(nomatch h),by simp⟩
 ·have hv:=hR.val f hf
  simp only[h,he,ak,cond_true]
  cases ho:decide (f.Op=4)
  ·exact⟨_,_,_,rfl,rfl,fun h=>(nomatch h),by simp⟩
  ·obtain⟨p,hp⟩:=op_ hv (.inl (of_decide_eq_true ho))
   have vp:=pv_ hv (p:=p) (by rw[hp]; simp)
   simp only[cond_true,ak,ia1_,hp]
   unfold slP_
   have e1:slc [p] 0 1=some [p]:=rfl
   have e2:idx [p] 0=some p:=rfl
   have n0:=sn_ (-1) d.Main ml mr (m:=[p]) (k:=[]) ((Vl.one vp).mod (by omega)) ((Vl.nil 2).mod (by omega))
   simp only[e1,e2,ak,aY,decide_false,decide_true,cond_true,cond_false,n0]
   refine⟨_,_,_,rfl,rfl,fun _=>⟨?_,?_⟩,by simp⟩
   ·simp only[aK,List.map_nil,prem,p1,p2]
   ·intro x hx
    simp only[bg,List.not_mem_nil,or_false] at hx
    rw[hx]
    exact⟨(Vl.one vp),(Vl.nil 2)⟩
theorem r_10{s:Sa}{d:Dt}(hr:d.Rule=5)(hl:Vl s.Left 10)(hR:Vl s.Right 10)(hcut:same d.Cut (⟨0,⟨⟨#[]⟩,[]⟩,⟨#[]⟩,[]⟩:Ft)=true)(ht:zT_ d.Term=true)(hz:same d.Term (⟨⟨#[]⟩,[]⟩:Tt)=true):
 ∃ xs b L,ia_ s d=some (xs,b)∧slR_ s d=some (L,b)∧(b=true→L=xs.map (prem s d)∧∀ x∈xs,Vl x.Left 2∧Vl x.Right 2)∧xs.length≤2:=by
 have ml:=hl.mod (by omega)
 have mr:=hR.mod (by omega)
 have hop:slO_1 5=some 5:=rfl
 have hon:slO_ 5=some true:=rfl
 have p1:remI d true=d.Main:=by unfold remI; rw[hr]; rfl
 have p2:remI d false=-1:=by unfold remI; rw[hr]; rfl
 have hm:mOn 5=(true,5):=rfl
 have hq:inR 5 11 14=false:=rfl
 have hw:inR 5 1 15=true:=rfl
 unfold ia_ slR_
 rw[hr]
 simp only[we_,lIe_,sFo_,lSo_,lSo_1,zTi_,ak,iiQ_,imF_,mOe_,hr,ht,hz,hcut,hop,hon,hm,hq,hw,aY,decide_false,decide_true,cond_true,cond_false,Bool.not_true,beq_self_eq_true]
 rcases mi_ (l:=s.Left) (by have:=hl.len; omega) d.Main with h | ⟨h,f,hf,he⟩
 ·simp only[h,cond_false,ak]
  exact⟨_,_,_,rfl,rfl,fun h=>(nomatch h),by simp⟩
 ·have hv:=hl.val f hf
  simp only[h,he,ak,cond_true]
  cases ho:decide (f.Op=5)
  ·exact⟨_,_,_,rfl,rfl,fun h=>(nomatch h),by simp⟩
  ·obtain⟨p,q,hp⟩:=tp_ hv (by have:=of_decide_eq_true ho; omega)
   have vp:=pv_ hv (p:=p) (by rw[hp]; simp)
   have vq:=pv_ hv (p:=q) (by rw[hp]; simp)
   simp only[cond_true,ak,ia1_,hp]
   unfold slP_
   have e1:slc [p,q] 0 1=some [p]:=rfl
   have e2:idx [p,q] 0=some p:=rfl
   have e3:slc [p,q] 1 2=some [q]:=rfl
   have e4:idx [p,q] 1=some q:=rfl
   have n0:=sn_ d.Main (-1) ml mr (m:=[p,q]) (k:=[]) ((Vt_ vp vq).mod (by omega)) ((Vl.nil 2).mod (by omega))
   simp only[e1,e2,e3,e4,ak,aY,decide_false,decide_true,cond_true,cond_false,n0]
   refine⟨_,_,_,rfl,rfl,fun _=>⟨?_,?_⟩,by simp⟩
   ·simp only[aK,List.map_nil,prem,p1,p2]
   ·intro x hx
    simp only[bg,List.not_mem_nil,or_false] at hx
    rw[hx]
    exact⟨(Vt_ vp vq),(Vl.nil 2)⟩
theorem r_9{s:Sa}{d:Dt}(hr:d.Rule=6)(hl:Vl s.Left 10)(hR:Vl s.Right 10)(hcut:same d.Cut (⟨0,⟨⟨#[]⟩,[]⟩,⟨#[]⟩,[]⟩:Ft)=true)(ht:zT_ d.Term=true)(hz:same d.Term (⟨⟨#[]⟩,[]⟩:Tt)=true):
 ∃ xs b L,ia_ s d=some (xs,b)∧slR_ s d=some (L,b)∧(b=true→L=xs.map (prem s d)∧∀ x∈xs,Vl x.Left 2∧Vl x.Right 2)∧xs.length≤2:=by
 have ml:=hl.mod (by omega)
 have mr:=hR.mod (by omega)
 have hop:slO_1 6=some 5:=rfl
 have hon:slO_ 6=some false:=rfl
 have p1:remI d true=-1:=by unfold remI; rw[hr]; rfl
 have p2:remI d false=d.Main:=by unfold remI; rw[hr]; rfl
 have hm:mOn 6=(false,5):=rfl
 have hq:inR 6 11 14=false:=rfl
 have hw:inR 6 1 15=true:=rfl
 unfold ia_ slR_
 rw[hr]
 simp only[we_,lIe_,sFo_,lSo_,lSo_1,zTi_,ak,iiQ_,imF_,mOe_,hr,ht,hz,hcut,hop,hon,hm,hq,hw,aY,decide_false,decide_true,cond_true,cond_false,Bool.not_true,beq_self_eq_true]
 rcases mi_ (l:=s.Right) (by have:=hR.len; omega) d.Main with h | ⟨h,f,hf,he⟩
 ·simp only[h,cond_false,ak]
  exact⟨_,_,_,rfl,rfl,fun h=>(nomatch h),by simp⟩
 ·have hv:=hR.val f hf
  simp only[h,he,ak,cond_true]
  cases ho:decide (f.Op=5)
  ·exact⟨_,_,_,rfl,rfl,fun h=>(nomatch h),by simp⟩
  ·obtain⟨p,q,hp⟩:=tp_ hv (by have:=of_decide_eq_true ho; omega)
   have vp:=pv_ hv (p:=p) (by rw[hp]; simp)
   have vq:=pv_ hv (p:=q) (by rw[hp]; simp)
   simp only[cond_true,ak,ia1_,hp]
   unfold slP_
   have e1:slc [p,q] 0 1=some [p]:=rfl
   have e2:idx [p,q] 0=some p:=rfl
   have e3:slc [p,q] 1 2=some [q]:=rfl
   have e4:idx [p,q] 1=some q:=rfl
   have n0:=sn_ (-1) d.Main ml mr (m:=[]) (k:=[p]) ((Vl.nil 2).mod (by omega)) ((Vl.one vp).mod (by omega))
   have n1:=sn_ (-1) d.Main ml mr (m:=[]) (k:=[q]) ((Vl.nil 2).mod (by omega)) ((Vl.one vq).mod (by omega))
   simp only[e1,e2,e3,e4,ak,aY,decide_false,decide_true,cond_true,cond_false,n0,n1]
   refine⟨_,_,_,rfl,rfl,fun _=>⟨?_,?_⟩,by simp⟩
   ·simp only[aK,List.map_nil,prem,p1,p2]
   ·intro x hx
    simp only[bg,List.not_mem_nil,or_false] at hx
    rcases hx with rfl | rfl
    ·exact⟨(Vl.nil 2),(Vl.one vp)⟩
    ·exact⟨(Vl.nil 2),(Vl.one vq)⟩
theorem r_8{s:Sa}{d:Dt}(hr:d.Rule=7)(hl:Vl s.Left 10)(hR:Vl s.Right 10)(hcut:same d.Cut (⟨0,⟨⟨#[]⟩,[]⟩,⟨#[]⟩,[]⟩:Ft)=true)(ht:zT_ d.Term=true)(hz:same d.Term (⟨⟨#[]⟩,[]⟩:Tt)=true):
 ∃ xs b L,ia_ s d=some (xs,b)∧slR_ s d=some (L,b)∧(b=true→L=xs.map (prem s d)∧∀ x∈xs,Vl x.Left 2∧Vl x.Right 2)∧xs.length≤2:=by
 have ml:=hl.mod (by omega)
 have mr:=hR.mod (by omega)
 have hop:slO_1 7=some 6:=rfl
 have hon:slO_ 7=some true:=rfl
 have p1:remI d true=d.Main:=by unfold remI; rw[hr]; rfl
 have p2:remI d false=-1:=by unfold remI; rw[hr]; rfl
 have hm:mOn 7=(true,6):=rfl
 have hq:inR 7 11 14=false:=rfl
 have hw:inR 7 1 15=true:=rfl
 unfold ia_ slR_
 rw[hr]
 simp only[we_,lIe_,sFo_,lSo_,lSo_1,zTi_,ak,iiQ_,imF_,mOe_,hr,ht,hz,hcut,hop,hon,hm,hq,hw,aY,decide_false,decide_true,cond_true,cond_false,Bool.not_true,beq_self_eq_true]
 rcases mi_ (l:=s.Left) (by have:=hl.len; omega) d.Main with h | ⟨h,f,hf,he⟩
 ·simp only[h,cond_false,ak]
  exact⟨_,_,_,rfl,rfl,fun h=>(nomatch h),by simp⟩
 ·have hv:=hl.val f hf
  simp only[h,he,ak,cond_true]
  cases ho:decide (f.Op=6)
  ·exact⟨_,_,_,rfl,rfl,fun h=>(nomatch h),by simp⟩
  ·obtain⟨p,q,hp⟩:=tp_ hv (by have:=of_decide_eq_true ho; omega)
   have vp:=pv_ hv (p:=p) (by rw[hp]; simp)
   have vq:=pv_ hv (p:=q) (by rw[hp]; simp)
   simp only[cond_true,ak,ia1_,hp]
   unfold slP_
   have e1:slc [p,q] 0 1=some [p]:=rfl
   have e2:idx [p,q] 0=some p:=rfl
   have e3:slc [p,q] 1 2=some [q]:=rfl
   have e4:idx [p,q] 1=some q:=rfl
   have n0:=sn_ d.Main (-1) ml mr (m:=[p]) (k:=[]) ((Vl.one vp).mod (by omega)) ((Vl.nil 2).mod (by omega))
   have n1:=sn_ d.Main (-1) ml mr (m:=[q]) (k:=[]) ((Vl.one vq).mod (by omega)) ((Vl.nil 2).mod (by omega))
   simp only[e1,e2,e3,e4,ak,aY,decide_false,decide_true,cond_true,cond_false,n0,n1]
   refine⟨_,_,_,rfl,rfl,fun _=>⟨?_,?_⟩,by simp⟩
   ·simp only[aK,List.map_nil,prem,p1,p2]
   ·intro x hx
    simp only[bg,List.not_mem_nil,or_false] at hx
    rcases hx with rfl | rfl
    ·exact⟨(Vl.one vp),(Vl.nil 2)⟩
    ·exact⟨(Vl.one vq),(Vl.nil 2)⟩
theorem r_7{s:Sa}{d:Dt}(hr:d.Rule=8)(hl:Vl s.Left 10)(hR:Vl s.Right 10)(hcut:same d.Cut (⟨0,⟨⟨#[]⟩,[]⟩,⟨#[]⟩,[]⟩:Ft)=true)(ht:zT_ d.Term=true)(hz:same d.Term (⟨⟨#[]⟩,[]⟩:Tt)=true):
 ∃ xs b L,ia_ s d=some (xs,b)∧slR_ s d=some (L,b)∧(b=true→L=xs.map (prem s d)∧∀ x∈xs,Vl x.Left 2∧Vl x.Right 2)∧xs.length≤2:=by
 have ml:=hl.mod (by omega)
 have mr:=hR.mod (by omega)
 have hop:slO_1 8=some 6:=rfl
 have hon:slO_ 8=some false:=rfl
 have p1:remI d true=-1:=by unfold remI; rw[hr]; rfl
 have p2:remI d false=d.Main:=by unfold remI; rw[hr]; rfl
 have hm:mOn 8=(false,6):=rfl
 have hq:inR 8 11 14=false:=rfl
 have hw:inR 8 1 15=true:=rfl
 unfold ia_ slR_
 rw[hr]
 simp only[we_,lIe_,sFo_,lSo_,lSo_1,zTi_,ak,iiQ_,imF_,mOe_,hr,ht,hz,hcut,hop,hon,hm,hq,hw,aY,decide_false,decide_true,cond_true,cond_false,Bool.not_true,beq_self_eq_true]
 rcases mi_ (l:=s.Right) (by have:=hR.len; omega) d.Main with h | ⟨h,f,hf,he⟩
 ·simp only[h,cond_false,ak]
  exact⟨_,_,_,rfl,rfl,fun h=>(nomatch h),by simp⟩
 ·have hv:=hR.val f hf
  simp only[h,he,ak,cond_true]
  cases ho:decide (f.Op=6)
  ·exact⟨_,_,_,rfl,rfl,fun h=>(nomatch h),by simp⟩
  ·obtain⟨p,q,hp⟩:=tp_ hv (by have:=of_decide_eq_true ho; omega)
   have vp:=pv_ hv (p:=p) (by rw[hp]; simp)
   have vq:=pv_ hv (p:=q) (by rw[hp]; simp)
   simp only[cond_true,ak,ia1_,hp]
   unfold slP_
   have e1:slc [p,q] 0 1=some [p]:=rfl
   have e2:idx [p,q] 0=some p:=rfl
   have e3:slc [p,q] 1 2=some [q]:=rfl
   have e4:idx [p,q] 1=some q:=rfl
   have n0:=sn_ (-1) d.Main ml mr (m:=[]) (k:=[p,q]) ((Vl.nil 2).mod (by omega)) ((Vt_ vp vq).mod (by omega))
   simp only[e1,e2,e3,e4,ak,aY,decide_false,decide_true,cond_true,cond_false,n0]
   refine⟨_,_,_,rfl,rfl,fun _=>⟨?_,?_⟩,by simp⟩
   ·simp only[aK,List.map_nil,prem,p1,p2]
   ·intro x hx
    simp only[bg,List.not_mem_nil,or_false] at hx
    rw[hx]
    exact⟨(Vl.nil 2),(Vt_ vp vq)⟩
theorem r_6{s:Sa}{d:Dt}(hr:d.Rule=9)(hl:Vl s.Left 10)(hR:Vl s.Right 10)(hcut:same d.Cut (⟨0,⟨⟨#[]⟩,[]⟩,⟨#[]⟩,[]⟩:Ft)=true)(ht:zT_ d.Term=true)(hz:same d.Term (⟨⟨#[]⟩,[]⟩:Tt)=true):
 ∃ xs b L,ia_ s d=some (xs,b)∧slR_ s d=some (L,b)∧(b=true→L=xs.map (prem s d)∧∀ x∈xs,Vl x.Left 2∧Vl x.Right 2)∧xs.length≤2:=by
 have ml:=hl.mod (by omega)
 have mr:=hR.mod (by omega)
 have hop:slO_1 9=some 7:=rfl
 have hon:slO_ 9=some true:=rfl
 have p1:remI d true=d.Main:=by unfold remI; rw[hr]; rfl
 have p2:remI d false=-1:=by unfold remI; rw[hr]; rfl
 have hm:mOn 9=(true,7):=rfl
 have hq:inR 9 11 14=false:=rfl
 have hw:inR 9 1 15=true:=rfl
 unfold ia_ slR_
 rw[hr]
 simp only[we_,lIe_,sFo_,lSo_,lSo_1,zTi_,ak,iiQ_,imF_,mOe_,hr,ht,hz,hcut,hop,hon,hm,hq,hw,aY,decide_false,decide_true,cond_true,cond_false,Bool.not_true,beq_self_eq_true]
 rcases mi_ (l:=s.Left) (by have:=hl.len; omega) d.Main with h | ⟨h,f,hf,he⟩
 ·simp only[h,cond_false,ak]
  exact⟨_,_,_,rfl,rfl,fun h=>(nomatch h),by simp⟩
 ·have hv:=hl.val f hf
  simp only[h,he,ak,cond_true]
  cases ho:decide (f.Op=7)
  ·exact⟨_,_,_,rfl,rfl,fun h=>(nomatch h),by simp⟩
  ·obtain⟨p,q,hp⟩:=tp_ hv (by have:=of_decide_eq_true ho; omega)
   have vp:=pv_ hv (p:=p) (by rw[hp]; simp)
   have vq:=pv_ hv (p:=q) (by rw[hp]; simp)
   simp only[cond_true,ak,ia1_,hp]
   unfold slP_
   have e1:slc [p,q] 0 1=some [p]:=rfl
   have e2:idx [p,q] 0=some p:=rfl
   have e3:slc [p,q] 1 2=some [q]:=rfl
   have e4:idx [p,q] 1=some q:=rfl
   have n0:=sn_ d.Main (-1) ml mr (m:=[]) (k:=[p]) ((Vl.nil 2).mod (by omega)) ((Vl.one vp).mod (by omega))
   have n1:=sn_ d.Main (-1) ml mr (m:=[q]) (k:=[]) ((Vl.one vq).mod (by omega)) ((Vl.nil 2).mod (by omega))
   simp only[e1,e2,e3,e4,ak,aY,decide_false,decide_true,cond_true,cond_false,n0,n1]
   refine⟨_,_,_,rfl,rfl,fun _=>⟨?_,?_⟩,by simp⟩
   ·simp only[aK,List.map_nil,prem,p1,p2]
   ·intro x hx
    simp only[bg,List.not_mem_nil,or_false] at hx
    rcases hx with rfl | rfl
    ·exact⟨(Vl.nil 2),(Vl.one vp)⟩
    ·exact⟨(Vl.one vq),(Vl.nil 2)⟩
theorem r_5{s:Sa}{d:Dt}(hr:d.Rule=10)(hl:Vl s.Left 10)(hR:Vl s.Right 10)(hcut:same d.Cut (⟨0,⟨⟨#[]⟩,[]⟩,⟨#[]⟩,[]⟩:Ft)=true)(ht:zT_ d.Term=true)(hz:same d.Term (⟨⟨#[]⟩,[]⟩:Tt)=true):
 ∃ xs b L,ia_ s d=some (xs,b)∧slR_ s d=some (L,b)∧(b=true→L=xs.map (prem s d)∧∀ x∈xs,Vl x.Left 2∧Vl x.Right 2)∧xs.length≤2:=by
 have ml:=hl.mod (by omega)
 have mr:=hR.mod (by omega)
 have hop:slO_1 10=some 7:=rfl
 have hon:slO_ 10=some false:=rfl
 have p1:remI d true=-1:=by unfold remI; rw[hr]; rfl
 have p2:remI d false=d.Main:=by unfold remI; rw[hr]; rfl
 have hm:mOn 10=(false,7):=rfl
 have hq:inR 10 11 14=false:=rfl
 have hw:inR 10 1 15=true:=rfl
 unfold ia_ slR_
 rw[hr]
 simp only[we_,lIe_,sFo_,lSo_,lSo_1,zTi_,ak,iiQ_,imF_,mOe_,hr,ht,hz,hcut,hop,hon,hm,hq,hw,aY,decide_false,decide_true,cond_true,cond_false,Bool.not_true,beq_self_eq_true]
 rcases mi_ (l:=s.Right) (by have:=hR.len; omega) d.Main with h | ⟨h,f,hf,he⟩
 ·simp only[h,cond_false,ak]
  exact⟨_,_,_,rfl,rfl,fun h=>(nomatch h),by simp⟩
 ·have hv:=hR.val f hf
  simp only[h,he,ak,cond_true]
  cases ho:decide (f.Op=7)
  ·exact⟨_,_,_,rfl,rfl,fun h=>(nomatch h),by simp⟩
  ·obtain⟨p,q,hp⟩:=tp_ hv (by have:=of_decide_eq_true ho; omega)
   have vp:=pv_ hv (p:=p) (by rw[hp]; simp)
   have vq:=pv_ hv (p:=q) (by rw[hp]; simp)
   simp only[cond_true,ak,ia1_,hp]
   unfold slP_
   have e1:slc [p,q] 0 1=some [p]:=rfl
   have e2:idx [p,q] 0=some p:=rfl
   have e3:slc [p,q] 1 2=some [q]:=rfl
   have e4:idx [p,q] 1=some q:=rfl
   have n0:=sn_ (-1) d.Main ml mr (m:=[p]) (k:=[q]) ((Vl.one vp).mod (by omega)) ((Vl.one vq).mod (by omega))
   simp only[e1,e2,e3,e4,ak,aY,decide_false,decide_true,cond_true,cond_false,n0]
   refine⟨_,_,_,rfl,rfl,fun _=>⟨?_,?_⟩,by simp⟩
   ·simp only[aK,List.map_nil,prem,p1,p2]
   ·intro x hx
    simp only[bg,List.not_mem_nil,or_false] at hx
    rw[hx]
    exact⟨(Vl.one vp),(Vl.one vq)⟩

end
section
def RO_1(s:Sa)(d:Dt):Prop:=
 ∃ xs b L,ia_ s d=some (xs,b)∧slR_ s d=some (L,b)∧(b=true→L=xs.map (prem s d)∧∀ x∈xs,Vl x.Left 2∧Vl x.Right 2)∧xs.length≤2
theorem zs_(t:Tt):same t (⟨⟨#[]⟩,[]⟩:Tt)=zT_ t:=by
 rw[Tt.same_u,Bool.eq_iff_iff]
 unfold zT_
 rw[aA,aA,si_,List.isEmpty_iff]
 exact Iff.rfl
theorem as_1(l:List Ft)(f:Ft):sCF_ l (fun y0=>ia2_ y0 f)=some (l.any fun g=>same f g):=
 cF_ l (fun a _=>by unfold ia2_; rw[sFo_,ak])
theorem af_{f:Ft→Option Bool}{p:Ft→Bool}(l:List Ft)(hf:∀ a∈l,f a=some (p a)):
 tL_ (ρ:=Bool) (σ:=Unit) (forN (fun (i2:Nat) (s2:Unit)=>aa (idx l (i2:Int)) fun v14=>aa (f v14) fun v17=>bif v17 then some (.rt true) else some (.nx ())) l.length 0 ()) (fun s2=>some false)=some (l.any p):=by
 have key:∀ (n k:Nat),k+n=l.length→tL_ (ρ:=Bool) (σ:=Unit) (forN (fun (i2:Nat) (s2:Unit)=>aa (idx l (i2:Int)) fun v14=>aa (f v14) fun v17=>bif v17 then some (.rt true) else some (.nx ())) n k ()) (fun s2=>some false)=some ((l.drop k).any p):=by
  intro n
  induction n with
  | zero=>intro k hk; rw[List.drop_eq_nil_of_le (by omega)]; rfl
  | succ n ih=>
   intro k hk
   rw[dgD_ (show k<l.length by omega),List.any_cons]
   have e:idx l (k:Int)=some (l.getD k default):=igD_ (by omega)
   cases h:p (l.getD k default)
   ·rw[fNn_ (s':=()) (by rw[e,ak,hf _ (gDm_ (by omega)),h]; rfl),ih (k+1) (by omega)]; rfl
   ·rw[fNr_ (r:=true) (by rw[e,ak,hf _ (gDm_ (by omega)),h]; rfl)]; rfl
 exact key l.length 0 (by omega)
theorem hs_(l:List Ft)(f:Ft):slH_ l f=some (l.any fun g=>same f g):=by
 unfold slH_
 rw[af_ (f:=fun v=>slS_5 v f) (p:=fun g=>same f g) l (fun a _=>by rw[lSo_,sc_4])]
theorem r_14{s:Sa}{d:Dt}(hr:d.Rule=1)(hl:Vl s.Left 10)(hR:Vl s.Right 10)(hcut:same d.Cut (⟨0,⟨⟨#[]⟩,[]⟩,⟨#[]⟩,[]⟩:Ft)=true)(ht:zT_ d.Term=true)(hz:same d.Term (⟨⟨#[]⟩,[]⟩:Tt)=true):RO_1 s d:=by
 have hop:slO_1 1=some 0:=rfl
 have hon:slO_ 1=some true:=rfl
 have hm:mOn 1=(true,0):=rfl
 have hq:inR 1 11 14=false:=rfl
 have hw:inR 1 1 15=true:=rfl
 unfold RO_1 ia_ slR_
 rw[hr]
 simp only[we_,lIe_,sFo_,lSo_,lSo_1,zTi_,ak,iiQ_,imF_,mOe_,hr,ht,hz,hcut,hop,hon,hm,hq,hw,aY,decide_false,decide_true,cond_true,cond_false,Bool.not_true,beq_self_eq_true]
 rcases mi_ (l:=s.Left) (by have:=hl.len; omega) d.Main with h | ⟨h,f,hf,he⟩
 ·simp only[h,cond_false,ak]
  exact⟨_,_,_,rfl,rfl,fun h=>(nomatch h),by simp⟩
 ·simp only[h,he,ak,cond_true,as_1,hs_]
  cases ho:decide (f.Op=2)
  ·exact⟨_,_,_,rfl,rfl,fun _=>⟨rfl,fun x hx=>(nomatch hx)⟩,by simp⟩
  ·exact⟨_,_,_,rfl,rfl,fun _=>⟨rfl,fun x hx=>(nomatch hx)⟩,by simp⟩
theorem r_13{s:Sa}{d:Dt}(hr:d.Rule=2)(hl:Vl s.Left 10)(hR:Vl s.Right 10)(hcut:same d.Cut (⟨0,⟨⟨#[]⟩,[]⟩,⟨#[]⟩,[]⟩:Ft)=true)(ht:zT_ d.Term=true)(hz:same d.Term (⟨⟨#[]⟩,[]⟩:Tt)=true):RO_1 s d:=by
 have hop:slO_1 2=some 1:=rfl
 have hon:slO_ 2=some false:=rfl
 have hm:mOn 2=(false,1):=rfl
 have hq:inR 2 11 14=false:=rfl
 have hw:inR 2 1 15=true:=rfl
 unfold RO_1 ia_ slR_
 rw[hr]
 simp only[we_,lIe_,sFo_,lSo_,lSo_1,zTi_,ak,iiQ_,imF_,mOe_,hr,ht,hz,hcut,hop,hon,hm,hq,hw,aY,decide_false,decide_true,cond_true,cond_false,Bool.not_true,beq_self_eq_true]
 rcases mi_ (l:=s.Right) (by have:=hR.len; omega) d.Main with h | ⟨h,f,hf,he⟩
 ·simp only[h,cond_false,ak]
  exact⟨_,_,_,rfl,rfl,fun h=>(nomatch h),by simp⟩
 ·simp only[h,he,ak,cond_true]
  cases ho:decide (f.Op=1)
  ·exact⟨_,_,_,rfl,rfl,fun h=>(nomatch h),by simp⟩
  ·exact⟨_,_,_,rfl,rfl,fun _=>⟨rfl,fun x hx=>(nomatch hx)⟩,by simp⟩
theorem r_{s:Sa}{d:Dt}(hr:d.Rule=15)(hl:Vl s.Left 10)(hR:Vl s.Right 10)(hc:d.Cut.Ok)(hct:d.Cut.tot≤1048576):RO_1 s d:=by
 have ml:=hl.mod (by omega)
 have mr:=hR.mod (by omega)
 have hq:inR 15 11 14=false:=rfl
 have p1:remI d true=-1:=by unfold remI; rw[hr]; rfl
 have p2:remI d false=-1:=by unfold remI; rw[hr]; rfl
 have mc:Mod [d.Cut]:=⟨fun f hf=>by rw[List.mem_singleton.1 hf]; exact hct,by simp⟩
 have m0:Mod []:=(Vl.nil 0).mod (by omega)
 have n0:=sn_ (-1) (-1) ml mr m0 mc
 have n1:=sn_ (-1) (-1) ml mr mc m0
 unfold RO_1 ia_ slR_
 rw[hr]
 simp only[lIe_,hq,lSo_1,zs_,zTi_,ak,cond_false,aY,decide_true,cond_true,n0,n1,vFi_1 d.Cut hct hc,vFs_ d.Cut hct hc]
 cases hz:zT_ d.Term
 ·cases decide (d.Main=0)
  ·exact⟨_,_,_,rfl,rfl,fun h=>(nomatch h),by simp⟩
  ·exact⟨_,_,_,rfl,rfl,fun h=>(nomatch h),by simp⟩
 ·cases decide (d.Main=0)
  ·exact⟨_,_,_,rfl,rfl,fun h=>(nomatch h),by simp⟩
  ·cases hv:vF_ d.Cut
   ·exact⟨_,_,_,rfl,rfl,fun h=>(nomatch h),by simp⟩
   ·refine⟨_,_,_,rfl,rfl,fun _=>⟨?_,?_⟩,by simp⟩
    ·simp only[aK,List.map_nil,prem,p1,p2]
    ·intro x hx
     simp only[bg,List.not_mem_nil,or_false] at hx
     rcases hx with rfl | rfl
     ·exact⟨Vl.nil 2,Vl.one hv⟩
     ·exact⟨Vl.one hv,Vl.nil 2⟩
def qok(s:Sa)(p:Ft)(v:ByteArray)(t:Tt)(st:Bool):Bool:=gT_ t&&(p.sok v t&&(st||(iVS_ t.Name&&!fvS s t.Name)))
theorem qz_{s:Sa}{p:Ft}{v:ByteArray}{t:Tt}{st:Bool}(h:zT_ t=true):qok s p v t st=false:=by
 unfold qok
 have:gT_ t=false:=by
  cases t with
  | mk n a=>
   unfold zT_ at h
   rw[aA,decide_eq_true_iff,List.isEmpty_iff] at h
   obtain⟨rfl,rfl⟩:=h
   rw[← Bool.not_eq_true]; intro h
   have:=(gTi_ h).1
   rw[Tt.good_u] at this
   revert this; decide
 rw[this]; rfl
theorem qi_{s:Sa}{d:Dt}{f p:Ft}(hl:Vl s.Left 10)(hR:Vl s.Right 10)(hp:f.Parts=[p])(hv:vF_ f=true)(hq:iVS_ f.Var=true)(hot:d.Term.Ok)(htt:d.Term.tot≤1048576):
 ii_ s d f=some (bif qok s p f.Var d.Term (s_ d.Rule) then([bif (mOn d.Rule).1 then⟨[p.sub f.Var d.Term],[]⟩ else⟨[],[p.sub f.Var d.Term]⟩],true) else([],false)):=by
 have vp:=pv_ hv (p:=p) (by rw[hp]; simp)
 have ei:idx f.Parts (0:Int)=some p:=by rw[hp]; rfl
 have es:=SFe_ (n:=f.Var) (t:=d.Term) (f:=p) (vFO_ vp) (by have:=vFt_ vp; omega) ((vFO_ hv).u.2.2.1) hot htt
 have e0:subst p f.Var d.Term=(gT_ d.Term&&p.sok f.Var d.Term):=by unfold subst; rw[vp,hq]; rfl
 unfold ii_ qok
 simp only[re_1,mOe_,ei,es,iVe_ _ hot.u.1,fIe_ hl hR,ak,e0]
 cases s_ d.Rule<;>cases gT_ d.Term<;>cases p.sok f.Var d.Term<;>cases iVS_ d.Term.Name<;>cases fvS s d.Term.Name<;>cases (mOn d.Rule).1<;>rfl
theorem qs_{s:Sa}{r m:Int}{t:Tt}{f p:Ft}(hl:Vl s.Left 10)(hR:Vl s.Right 10)(hp:f.Parts=[p])(hv:vF_ f=true)(hq:iVS_ f.Var=true)(hot:t.Ok)(htt:t.tot≤1048576)
 (hr:r=11∨r=12∨r=13∨r=14):
 slQ_ s r m f t=some (bif qok s p f.Var t (s_ r) then
  ([bif decide (r=11) then nx s (-1) [p.sub f.Var t] (-1) [] else bif decide (r=14) then nx s (-1) [] (-1) [p.sub f.Var t] else bif decide (r=12) then nx s (-1) [] m [p.sub f.Var t] else nx s m [p.sub f.Var t] (-1) []],true) else([],false)):=by
 have vp:=pv_ hv (p:=p) (by rw[hp]; simp)
 have ei:idx f.Parts (0:Int)=some p:=by rw[hp]; rfl
 have ml:=hl.mod (by omega)
 have mr:=hR.mod (by omega)
 have m0:Mod []:=(Vl.nil 0).mod (by omega)
 unfold slQ_ qok
 rw[lGo_ t htt hot,ak]
 cases hg:gT_ t
 ·rfl
 obtain⟨g1,g2⟩:=gTi_ hg
 obtain⟨k1,k2⟩:=vFi_ vp
 obtain⟨x,x1,x2,x3⟩:=sp_3 hq g1 hot g2 (vFO_ vp) k2 (by have:=vFt_ vp; omega) (by omega)
 rw[cond_true,ei,ak,x1,ak,x2]
 cases hs:p.sok f.Var t
 ·rfl
 have e3:=x3 (x2.trans hs)
 have hsub:subst p f.Var t=true:=by unfold subst; rw[vp,hq,hg,hs]; rfl
 have m1:Mod [p.sub f.Var t]:=(Vl.one (sv_ hsub).1).mod (by omega)
 obtain⟨w,w1,w2,w3⟩:=ne_ hl hR
 have hsv:slV_ t.Name=some (iVS_ t.Name):=lVe_ _ hot.u.1
 simp only[cond_true,e3,sn_ _ _ ml mr m0 m1,sn_ _ _ ml mr m1 m0,hsv,w1,lIe_1,w2,ak,Bool.true_and]
 rcases hr with rfl | rfl | rfl | rfl
 ·rfl
 ·cases iVS_ t.Name<;>cases fvS s t.Name<;>rfl
 ·cases iVS_ t.Name<;>cases fvS s t.Name<;>rfl
 ·rfl
theorem r_4{s:Sa}{d:Dt}(hr:d.Rule=11)(hl:Vl s.Left 10)(hR:Vl s.Right 10)(hcut:same d.Cut (⟨0,⟨⟨#[]⟩,[]⟩,⟨#[]⟩,[]⟩:Ft)=true)(hot:d.Term.Ok)(htt:d.Term.tot≤1048576):RO_1 s d:=by
 have hop:slO_1 11=some 8:=rfl
 have hon:slO_ 11=some true:=rfl
 have p1:remI d true=-1:=by unfold remI; rw[hr]; rfl
 have p2:remI d false=-1:=by unfold remI; rw[hr]; rfl
 have hm:mOn 11=(true,8):=rfl
 have hq:inR 11 11 14=true:=rfl
 have hw:inR 11 1 15=true:=rfl
 unfold RO_1 ia_ slR_
 rw[hr]
 simp only[we_,lIe_,sFo_,lSo_,lSo_1,zTi_,ak,iiQ_,imF_,mOe_,hr,hcut,hop,hon,hm,hq,hw,aY,decide_false,decide_true,cond_true,cond_false,Bool.not_true,Bool.true_beq]
 rcases mi_ (l:=s.Left) (by have:=hl.len; omega) d.Main with h | ⟨h,f,hf,he⟩
 ·simp only[h,cond_false,ak]
  cases zT_ d.Term
  ·exact⟨_,_,_,rfl,rfl,fun h=>(nomatch h),by simp⟩
  ·exact⟨_,_,_,rfl,rfl,fun h=>(nomatch h),by simp⟩
 ·have hv:=hl.val f hf
  simp only[h,he,ak,cond_true]
  cases ho:decide (f.Op=8)
  ·cases zT_ d.Term
   ·exact⟨_,_,_,rfl,rfl,fun h=>(nomatch h),by simp⟩
   ·exact⟨_,_,_,rfl,rfl,fun h=>(nomatch h),by simp⟩
  ·have ho':f.Op=8:=of_decide_eq_true ho
   obtain⟨p,hp⟩:=op_ hv (by omega)
   have vp:=pv_ hv (p:=p) (by rw[hp]; simp)
   have hqv:=qv_ hv (by omega)
   simp only[cond_true,ak,qi_ hl hR hp hv hqv hot htt,qs_ (r:=11) (m:=d.Main) hl hR hp hv hqv hot htt (by omega),hr]
   have hst:s_ 11=true:=rfl
   rw[hst]
   cases hk:qok s p f.Var d.Term true
   ·cases zT_ d.Term
    ·exact⟨_,_,_,rfl,rfl,fun h=>(nomatch h),by simp⟩
    ·exact⟨_,_,_,rfl,rfl,fun h=>(nomatch h),by simp⟩
   ·cases hz:zT_ d.Term
    ·have hw:vF_ (p.sub f.Var d.Term)=true:=by
      unfold qok at hk
      simp only[aA] at hk
      exact(sv_ (by unfold subst; rw[vp,hqv,hk.1,hk.2.1]; rfl)).1
     refine⟨_,_,_,rfl,rfl,fun _=>⟨?_,?_⟩,by simp⟩
     ·simp only[hm,aK,List.map_nil,prem,p1,p2,aY,decide_false,decide_true,cond_true,cond_false]
     ·intro x hx
      simp only[hm,bg,List.not_mem_nil,or_false,cond_true,cond_false] at hx
      rw[hx]
      exact⟨Vl.one hw,Vl.nil 2⟩
    ·rw[qz_ hz] at hk; cases hk
theorem r_3{s:Sa}{d:Dt}(hr:d.Rule=12)(hl:Vl s.Left 10)(hR:Vl s.Right 10)(hcut:same d.Cut (⟨0,⟨⟨#[]⟩,[]⟩,⟨#[]⟩,[]⟩:Ft)=true)(hot:d.Term.Ok)(htt:d.Term.tot≤1048576):RO_1 s d:=by
 have hop:slO_1 12=some 8:=rfl
 have hon:slO_ 12=some false:=rfl
 have p1:remI d true=-1:=by unfold remI; rw[hr]; rfl
 have p2:remI d false=d.Main:=by unfold remI; rw[hr]; rfl
 have hm:mOn 12=(false,8):=rfl
 have hq:inR 12 11 14=true:=rfl
 have hw:inR 12 1 15=true:=rfl
 unfold RO_1 ia_ slR_
 rw[hr]
 simp only[we_,lIe_,sFo_,lSo_,lSo_1,zTi_,ak,iiQ_,imF_,mOe_,hr,hcut,hop,hon,hm,hq,hw,aY,decide_false,decide_true,cond_true,cond_false,Bool.not_true,Bool.true_beq]
 rcases mi_ (l:=s.Right) (by have:=hR.len; omega) d.Main with h | ⟨h,f,hf,he⟩
 ·simp only[h,cond_false,ak]
  cases zT_ d.Term
  ·exact⟨_,_,_,rfl,rfl,fun h=>(nomatch h),by simp⟩
  ·exact⟨_,_,_,rfl,rfl,fun h=>(nomatch h),by simp⟩
 ·have hv:=hR.val f hf
  simp only[h,he,ak,cond_true]
  cases ho:decide (f.Op=8)
  ·cases zT_ d.Term
   ·exact⟨_,_,_,rfl,rfl,fun h=>(nomatch h),by simp⟩
   ·exact⟨_,_,_,rfl,rfl,fun h=>(nomatch h),by simp⟩
  ·have ho':f.Op=8:=of_decide_eq_true ho
   obtain⟨p,hp⟩:=op_ hv (by omega)
   have vp:=pv_ hv (p:=p) (by rw[hp]; simp)
   have hqv:=qv_ hv (by omega)
   simp only[cond_true,ak,qi_ hl hR hp hv hqv hot htt,qs_ (r:=12) (m:=d.Main) hl hR hp hv hqv hot htt (by omega),hr]
   have hst:s_ 12=false:=rfl
   rw[hst]
   cases hk:qok s p f.Var d.Term false
   ·cases zT_ d.Term
    ·exact⟨_,_,_,rfl,rfl,fun h=>(nomatch h),by simp⟩
    ·exact⟨_,_,_,rfl,rfl,fun h=>(nomatch h),by simp⟩
   ·cases hz:zT_ d.Term
    ·have hw:vF_ (p.sub f.Var d.Term)=true:=by
      unfold qok at hk
      simp only[aA] at hk
      exact(sv_ (by unfold subst; rw[vp,hqv,hk.1,hk.2.1]; rfl)).1
     refine⟨_,_,_,rfl,rfl,fun _=>⟨?_,?_⟩,by simp⟩
     ·simp only[hm,aK,List.map_nil,prem,p1,p2,aY,decide_false,decide_true,cond_true,cond_false]
     ·intro x hx
      simp only[hm,bg,List.not_mem_nil,or_false,cond_true,cond_false] at hx
      rw[hx]
      exact⟨Vl.nil 2,Vl.one hw⟩
    ·rw[qz_ hz] at hk; cases hk
theorem r_2{s:Sa}{d:Dt}(hr:d.Rule=13)(hl:Vl s.Left 10)(hR:Vl s.Right 10)(hcut:same d.Cut (⟨0,⟨⟨#[]⟩,[]⟩,⟨#[]⟩,[]⟩:Ft)=true)(hot:d.Term.Ok)(htt:d.Term.tot≤1048576):RO_1 s d:=by
 have hop:slO_1 13=some 9:=rfl
 have hon:slO_ 13=some true:=rfl
 have p1:remI d true=d.Main:=by unfold remI; rw[hr]; rfl
 have p2:remI d false=-1:=by unfold remI; rw[hr]; rfl
 have hm:mOn 13=(true,9):=rfl
 have hq:inR 13 11 14=true:=rfl
 have hw:inR 13 1 15=true:=rfl
 unfold RO_1 ia_ slR_
 rw[hr]
 simp only[we_,lIe_,sFo_,lSo_,lSo_1,zTi_,ak,iiQ_,imF_,mOe_,hr,hcut,hop,hon,hm,hq,hw,aY,decide_false,decide_true,cond_true,cond_false,Bool.not_true,Bool.true_beq]
 rcases mi_ (l:=s.Left) (by have:=hl.len; omega) d.Main with h | ⟨h,f,hf,he⟩
 ·simp only[h,cond_false,ak]
  cases zT_ d.Term
  ·exact⟨_,_,_,rfl,rfl,fun h=>(nomatch h),by simp⟩
  ·exact⟨_,_,_,rfl,rfl,fun h=>(nomatch h),by simp⟩
 ·have hv:=hl.val f hf
  simp only[h,he,ak,cond_true]
  cases ho:decide (f.Op=9)
  ·cases zT_ d.Term
   ·exact⟨_,_,_,rfl,rfl,fun h=>(nomatch h),by simp⟩
   ·exact⟨_,_,_,rfl,rfl,fun h=>(nomatch h),by simp⟩
  ·have ho':f.Op=9:=of_decide_eq_true ho
   obtain⟨p,hp⟩:=op_ hv (by omega)
   have vp:=pv_ hv (p:=p) (by rw[hp]; simp)
   have hqv:=qv_ hv (by omega)
   simp only[cond_true,ak,qi_ hl hR hp hv hqv hot htt,qs_ (r:=13) (m:=d.Main) hl hR hp hv hqv hot htt (by omega),hr]
   have hst:s_ 13=false:=rfl
   rw[hst]
   cases hk:qok s p f.Var d.Term false
   ·cases zT_ d.Term
    ·exact⟨_,_,_,rfl,rfl,fun h=>(nomatch h),by simp⟩
    ·exact⟨_,_,_,rfl,rfl,fun h=>(nomatch h),by simp⟩
   ·cases hz:zT_ d.Term
    ·have hw:vF_ (p.sub f.Var d.Term)=true:=by
      unfold qok at hk
      simp only[aA] at hk
      exact(sv_ (by unfold subst; rw[vp,hqv,hk.1,hk.2.1]; rfl)).1
     refine⟨_,_,_,rfl,rfl,fun _=>⟨?_,?_⟩,by simp⟩
     ·simp only[hm,aK,List.map_nil,prem,p1,p2,aY,decide_false,decide_true,cond_true,cond_false]
     ·intro x hx
      simp only[hm,bg,List.not_mem_nil,or_false,cond_true,cond_false] at hx
      rw[hx]
      exact⟨Vl.one hw,Vl.nil 2⟩
    ·rw[qz_ hz] at hk; cases hk
theorem r_1{s:Sa}{d:Dt}(hr:d.Rule=14)(hl:Vl s.Left 10)(hR:Vl s.Right 10)(hcut:same d.Cut (⟨0,⟨⟨#[]⟩,[]⟩,⟨#[]⟩,[]⟩:Ft)=true)(hot:d.Term.Ok)(htt:d.Term.tot≤1048576):RO_1 s d:=by
 have hop:slO_1 14=some 9:=rfl
 have hon:slO_ 14=some false:=rfl
 have p1:remI d true=-1:=by unfold remI; rw[hr]; rfl
 have p2:remI d false=-1:=by unfold remI; rw[hr]; rfl
 have hm:mOn 14=(false,9):=rfl
 have hq:inR 14 11 14=true:=rfl
 have hw:inR 14 1 15=true:=rfl
 unfold RO_1 ia_ slR_
 rw[hr]
 simp only[we_,lIe_,sFo_,lSo_,lSo_1,zTi_,ak,iiQ_,imF_,mOe_,hr,hcut,hop,hon,hm,hq,hw,aY,decide_false,decide_true,cond_true,cond_false,Bool.not_true,Bool.true_beq]
 rcases mi_ (l:=s.Right) (by have:=hR.len; omega) d.Main with h | ⟨h,f,hf,he⟩
 ·simp only[h,cond_false,ak]
  cases zT_ d.Term
  ·exact⟨_,_,_,rfl,rfl,fun h=>(nomatch h),by simp⟩
  ·exact⟨_,_,_,rfl,rfl,fun h=>(nomatch h),by simp⟩
 ·have hv:=hR.val f hf
  simp only[h,he,ak,cond_true]
  cases ho:decide (f.Op=9)
  ·cases zT_ d.Term
   ·exact⟨_,_,_,rfl,rfl,fun h=>(nomatch h),by simp⟩
   ·exact⟨_,_,_,rfl,rfl,fun h=>(nomatch h),by simp⟩
  ·have ho':f.Op=9:=of_decide_eq_true ho
   obtain⟨p,hp⟩:=op_ hv (by omega)
   have vp:=pv_ hv (p:=p) (by rw[hp]; simp)
   have hqv:=qv_ hv (by omega)
   simp only[cond_true,ak,qi_ hl hR hp hv hqv hot htt,qs_ (r:=14) (m:=d.Main) hl hR hp hv hqv hot htt (by omega),hr]
   have hst:s_ 14=true:=rfl
   rw[hst]
   cases hk:qok s p f.Var d.Term true
   ·cases zT_ d.Term
    ·exact⟨_,_,_,rfl,rfl,fun h=>(nomatch h),by simp⟩
    ·exact⟨_,_,_,rfl,rfl,fun h=>(nomatch h),by simp⟩
   ·cases hz:zT_ d.Term
    ·have hw:vF_ (p.sub f.Var d.Term)=true:=by
      unfold qok at hk
      simp only[aA] at hk
      exact(sv_ (by unfold subst; rw[vp,hqv,hk.1,hk.2.1]; rfl)).1
     refine⟨_,_,_,rfl,rfl,fun _=>⟨?_,?_⟩,by simp⟩
     ·simp only[hm,aK,List.map_nil,prem,p1,p2,aY,decide_false,decide_true,cond_true,cond_false]
     ·intro x hx
      simp only[hm,bg,List.not_mem_nil,or_false,cond_true,cond_false] at hx
      rw[hx]
      exact⟨Vl.nil 2,Vl.one hw⟩
    ·rw[qz_ hz] at hk; cases hk
theorem bs_1{α:Type}{b:Bool}{x y:Option α}(h1:∃ o,x=some o)(h2:∃ o,y=some o):∃ o,(bif b then x else y)=some o:=by
 cases b
 ·exact h2
 ·exact h1
theorem ro_{s:Sa}{d:Dt}(h:inR d.Rule 1 15=false):RO_1 s d:=by
 have h15:decide (d.Rule=15)=false:=by
  rw[decide_eq_false_iff_not]; intro e; rw[e] at h; cases h
 have hq:inR d.Rule 11 14=false:=by
  unfold inR at h ⊢
  simp only[Bool.and_eq_false_iff,decide_eq_false_iff_not] at h ⊢
  omega
 unfold RO_1 ia_ slR_
 simp only[we_,lIe_,sFo_,lSo_,lSo_1,ak,h,h15,hq,cond_false]
 have ho:∃ o,slO_ d.Rule=some o:=by
  unfold slO_
  repeat' (first | exact⟨_,rfl⟩ | apply bs_1)
 obtain⟨o,ho⟩:=ho
 simp only[ho,ak]
 cases same d.Term (⟨⟨#[]⟩,[]⟩:Tt)<;>cases same d.Cut (⟨0,⟨⟨#[]⟩,[]⟩,⟨#[]⟩,[]⟩:Ft)<;>cases o<;>
  exact⟨_,_,_,rfl,rfl,fun h=>(nomatch h),by simp⟩
theorem rn_3{s:Sa}{d:Dt}(h15:d.Rule≠15)(hc:same d.Cut (⟨0,⟨⟨#[]⟩,[]⟩,⟨#[]⟩,[]⟩:Ft)=false):RO_1 s d:=by
 have h:decide (d.Rule=15)=false:=decide_eq_false h15
 unfold RO_1 ia_ slR_
 simp only[we_,lIe_,sFo_,lSo_,lSo_1,ak,h,hc,cond_false]
 cases inR d.Rule 1 15<;>cases inR d.Rule 11 14<;>cases same d.Term (⟨⟨#[]⟩,[]⟩:Tt)<;>
  exact⟨_,_,_,rfl,rfl,fun h=>(nomatch h),by simp⟩
theorem rn_2{s:Sa}{d:Dt}(h15:d.Rule≠15)(hq:inR d.Rule 11 14=false)(hz:zT_ d.Term=false):RO_1 s d:=by
 have h:decide (d.Rule=15)=false:=decide_eq_false h15
 unfold RO_1 ia_ slR_
 simp only[we_,lIe_,sFo_,lSo_,lSo_1,ak,h,hq,zs_,zTi_,hz,iiQ_,cond_false,Bool.not_false]
 cases inR d.Rule 1 15<;>cases same d.Cut (⟨0,⟨⟨#[]⟩,[]⟩,⟨#[]⟩,[]⟩:Ft)<;>
  exact⟨_,_,_,rfl,rfl,fun h=>(nomatch h),by simp⟩
theorem ro_1(s:Sa)(d:Dt)(hl:Vl s.Left 10)(hR:Vl s.Right 10)(hot:d.Term.Ok)(htt:d.Term.tot≤1048576)(hc:d.Cut.Ok)(hct:d.Cut.tot≤1048576):RO_1 s d:=by
 by_cases h15:d.Rule=15
 ·exact r_ h15 hl hR hc hct
 cases hw:inR d.Rule 1 15
 ·exact ro_ hw
 cases hcut:same d.Cut (⟨0,⟨⟨#[]⟩,[]⟩,⟨#[]⟩,[]⟩:Ft)
 ·exact rn_3 h15 hcut
 have hr:d.Rule=1∨d.Rule=2∨d.Rule=3∨d.Rule=4∨d.Rule=5∨d.Rule=6∨d.Rule=7∨d.Rule=8∨d.Rule=9∨d.Rule=10∨d.Rule=11∨d.Rule=12∨d.Rule=13∨d.Rule=14:=by
  unfold inR at hw
  simp only[aA,decide_eq_true_eq] at hw
  omega
 by_cases hq:11≤d.Rule
 ·rcases (by omega:d.Rule=11∨d.Rule=12∨d.Rule=13∨d.Rule=14) with h | h | h | h
  ·exact r_4 h hl hR hcut hot htt
  ·exact r_3 h hl hR hcut hot htt
  ·exact r_2 h hl hR hcut hot htt
  ·exact r_1 h hl hR hcut hot htt
 cases hz:zT_ d.Term
 ·exact rn_2 h15 (by unfold inR; simp only[Bool.and_eq_false_iff,decide_eq_false_iff_not]; omega) hz
 have hs:=(zs_ d.Term).trans hz
 rcases (by omega:d.Rule=1∨d.Rule=2∨d.Rule=3∨d.Rule=4∨d.Rule=5∨d.Rule=6∨d.Rule=7∨d.Rule=8∨d.Rule=9∨d.Rule=10) with h | h | h | h | h | h | h | h | h | h
 ·exact r_14 h hl hR hcut hz hs
 ·exact r_13 h hl hR hcut hz hs
 ·exact r_12 h hl hR hcut hz hs
 ·exact r_11 h hl hR hcut hz hs
 ·exact r_10 h hl hR hcut hz hs
 ·exact r_9 h hl hR hcut hz hs
 ·exact r_8 h hl hR hcut hz hs
 ·exact r_7 h hl hR hcut hz hs
 ·exact r_6 h hl hR hcut hz hs
 ·exact r_5 h hl hR hcut hz hs
end
section
theorem sl_2{α β:Type}[Inhabited α][Inhabited β](e:β→α)(f:α→β→Option Bool)(xs:List α)(ys:List β)(h:xs.length=ys.length)(hf:∀ a b,f a b=some (same a (e b))):
 tL_ (ρ:=Bool) (σ:=Unit) (forN (fun (i:Nat) (_:Unit)=>aa (idx xs (i:Int)) fun v=>aa (idx ys (i:Int)) fun w=>aa (f v w) fun x=>bif x then some (.nx ()) else some (.rt false)) xs.length 0 ()) (fun _=>some true)=some (same xs (ys.map e)):=by
 have h':xs.length=(ys.map e).length:=by rw[aD]; exact h
 rw[fNa_ (fun j=>same (xs.getD j default) ((ys.map e).getD j default)) (r0:=false) (fun j hj _=>?_),as_2 h']
 ·cases same xs (ys.map e)<;>rfl
 ·have g:j<ys.length:=h▸hj
  have e1:(ys.map e).getD j default=e (ys.getD j default):=by simp[List.getD,g]
  rw[igD_ hj,igD_ g,ak,ak,hf,ak,e1]
  cases same (xs.getD j default) (e (ys.getD j default))<;>rfl
theorem ldG_{α β:Type}(xs:List α)(ys:List β):decide ((xs.length:Int)=(ys.length:Int))=decide (xs.length=ys.length):=decide_eq_decide.2 (by omega)
theorem sF_1(a b:List Ft):isF_1 a b=some (same a b):=by
 unfold isF_1 sEF_
 rw[ld_]
 by_cases h:a.length=b.length
 ·rw[decide_eq_true h,cond_true,sl_ _ a b h (fun x _ y=>sFo_ x y)]; rfl
 ·rw[decide_eq_false h,sl_1 h]; rfl
theorem sS_1(a b:List Ft):slS_3 a b=some (same a b):=by
 unfold slS_3
 rw[ld_]
 by_cases h:a.length=b.length
 ·rw[decide_eq_true h,cond_true,sl_ _ a b h (fun x _ y=>lSo_ x y)]
 ·rw[decide_eq_false h,sl_1 h]; rfl
theorem Sa.same_u(a b:Sa):same a b=(same a.Left b.Left&&same a.Right b.Right):=by
 rw[Bool.eq_iff_iff,aA,si_,si_,si_]
 cases a; cases b
 exact⟨fun h=>by cases h; exact⟨rfl,rfl⟩,fun h=>by obtain⟨h1,h2⟩:=h; simp only at h1 h2; rw[h1,h2]⟩
theorem sSi_(a b:Sa):isS_ a b=some (same a b):=by
 unfold isS_
 rw[sF_1,sF_1,Sa.same_u]
 simp only[ak]
 cases same a.Left b.Left<;>rfl
theorem sSs_1(a b:Sa):slS_8 a b=some (same a b):=by
 unfold slS_8
 rw[sS_1,sS_1,Sa.same_u]
 simp only[ak]
 cases same a.Left b.Left<;>rfl
theorem vSV_{s:Sa}(h:vS_ s=true):Vl s.Left 10∧Vl s.Right 10:=by
 unfold vS_ at h
 simp only[aA,decide_eq_true_eq,a7] at h
 exact⟨⟨h.1.2,h.1.1⟩,⟨h.2.2,h.2.1⟩⟩
structure NodeOk(d:Dt):Prop where
 valid:vS_ d.Sequent=true
 rule:∃ xs,ia_ d.Sequent d=some (xs,true)∧xs.length≤2∧(∀ x∈xs,Vl x.Left 2∧Vl x.Right 2)∧d.Parts.map Dt.Sequent=xs.map (prem d.Sequent d)
 parts:∀ p∈d.Parts,vS_ p.Sequent=true
theorem no_(d:Dt)(hok:d.Ok)(h1:d.Sequent.tot≤1048576)(h2:d.Term.tot≤1048576)(h3:d.Cut.tot≤1048576):∃ b,iiR_1 d=some b∧slN_6 d=some b∧(b=true→NodeOk d):=by
 have hu:=hok.u
 unfold iiR_1 slN_6 iPO_
 rw[vSi_ _ hu.2.1 (by omega),vSs_ _ hu.2.1 (by omega)]
 simp only[ak]
 cases hv:vS_ d.Sequent
 ·exact⟨false,rfl,rfl,fun h=>(nomatch h)⟩
 obtain⟨vl,vr⟩:=vSV_ hv
 obtain⟨xs,b,L,a1,a2,a3,a4⟩:=ro_1 d.Sequent d vl vr hu.2.2.2.1 (by omega) hu.2.2.2.2.1 (by omega)
 rw[cond_true,cond_true,ip_1 vl vr a1 (fun hb=>(a3 hb).2) (by omega),sp_2 a2 (fun hb x hx=>by
  obtain⟨e1,e2⟩:=a3 hb
  rw[e1] at hx
  obtain⟨y,hy,rfl⟩:=List.mem_map.1 hx
  exact po_ vl vr (e2 y hy).1 (e2 y hy).2)]
 simp only[ak]
 cases b
 ·exact⟨false,rfl,rfl,fun h=>(nomatch h)⟩
 obtain⟨e1,e2⟩:=a3 rfl
 rw[← e1]
 cases hg:L.all vS_
 ·exact⟨false,rfl,rfl,fun h=>(nomatch h)⟩
 simp only[Bool.and_self,cond_true]
 unfold sEF_1
 rw[ldG_]
 by_cases hlen:L.length=d.Parts.length
 ·rw[decide_eq_true hlen,cond_true,cond_true,sl_2 Dt.Sequent (fun y0 y1=>iiR_ y0 y1) L d.Parts hlen (fun a b=>by unfold iiR_; rw[sSi_]; rfl),
   sl_2 Dt.Sequent (fun y0 y1=>slS_8 y0 y1.Sequent) L d.Parts hlen (fun a b=>sSs_1 _ _)]
  refine⟨_,rfl,rfl,fun h=>?_⟩
  have h:=si_.1 h
  refine⟨hv,⟨xs,a1,a4,e2,by rw[← h,e1]⟩,fun p hp=>?_⟩
  have:p.Sequent∈L:=by rw[h]; exact List.mem_map_of_mem hp
  exact List.all_eq_true.1 hg _ this
 ·rw[decide_eq_false hlen]
  exact⟨false,rfl,rfl,fun h=>(nomatch h)⟩
noncomputable def nB_(d:Dt):Bool:=slN_6 d==some true
mutual
def Dt.bd:Dt→Prop
 | .mk _ s _ t c l=>s.tot≤1048576∧t.tot≤1048576∧c.tot≤1048576∧Db_ l
def Db_:List Dt→Prop
 | []=>True
 | a::l=>a.bd∧Db_ l
end
theorem Dbi_(l:List Dt):Db_ l↔∀ a∈l,a.bd:=by
 induction l with
 | nil=>simp[Db_]
 | cons a l ih=>rw[Db_,ih]; simp
theorem Dbu_(a:Dt):a.bd↔a.Sequent.tot≤1048576∧a.Term.tot≤1048576∧a.Cut.tot≤1048576∧∀ p∈a.Parts,p.bd:=by cases a; rw[Dt.bd,Dbi_]; exact Iff.rfl
theorem Dpo_{d p:Dt}(hok:d.Ok)(hp:p∈d.Parts):p.Ok:=hok.u.2.2.2.2.2.2 p hp
theorem Dpt_{d p:Dt}(hp:p∈d.Parts):p.tot+1≤d.tot:=by
 rw[Dt.tot_u d]
 have:=tm_ Dt.tot hp
 omega
theorem Dt.tot_bd(d:Dt):d.tot≤1048576→d.bd:=by
 refine Dt.ind' (M:=fun d=>d.tot≤1048576→d.bd) (fun d ih ht=>?_) d
 rw[Dbu_]
 refine⟨?_,?_,?_,fun p hp=>ih p hp (by have:=Dpt_ hp; omega)⟩
 all_goals (rw[Dt.tot_u] at ht; omega)
theorem nBb_{d:Dt}(hok:d.Ok)(hb:d.bd):iiR_1 d=some (nB_ d)∧slN_6 d=some (nB_ d)∧(nB_ d=true→NodeOk d):=by
 rw[Dbu_] at hb
 obtain⟨b,h1,h2,h3⟩:=no_ d hok hb.1 hb.2.1 hb.2.2.1
 have:nB_ d=b:=by unfold nB_; rw[h2]; cases b<;>rfl
 rw[this]; exact⟨h1,h2,h3⟩
mutual
def Dt.cnt:Dt→Nat
 | .mk _ _ _ _ _ l=>1+Dt.cnts l
def Dt.cnts:List Dt→Nat
 | []=>0
 | a::l=>a.cnt+Dt.cnts l
end
theorem Dt.cnts_eq(l:List Dt):Dt.cnts l=(l.map Dt.cnt).sum:=by
 induction l with
 | nil=>rfl
 | cons a l ih=>rw[Dt.cnts,ih,aK,bn]
theorem Dt.cnt_u(a:Dt):a.cnt=1+(a.Parts.map Dt.cnt).sum:=by cases a; rw[Dt.cnt,Dt.cnts_eq]; rfl
theorem Dt.cnt_tot(t:Dt):t.cnt≤1+t.tot:=by
 refine Dt.ind' (M:=fun t=>t.cnt≤1+t.tot) (fun t ih=>?_) t
 rw[Dt.cnt_u,Dt.tot_u]
 have:=sll_ (c:=Dt.cnt) (t:=Dt.tot) t.Parts ih
 omega
mutual
noncomputable def Dt.okD:Dt→Bool
 | .mk r s m t c l=>nB_ (.mk r s m t c l)&&DoD_1 l
noncomputable def DoD_1:List Dt→Bool
 | []=>true
 | a::l=>a.okD&&DoD_1 l
end
theorem DoD_2(l:List Dt):DoD_1 l=l.all Dt.okD:=by
 induction l with
 | nil=>rfl
 | cons a l ih=>rw[DoD_1,ih]; rfl
theorem DoD_(a:Dt):a.okD=(nB_ a&&a.Parts.all Dt.okD):=by cases a; rw[Dt.okD,DoD_2]; rfl
theorem Dpb_{d p:Dt}(h:d.bd)(hp:p∈d.Parts):p.bd:=((Dbu_ d).1 h).2.2.2 p hp
theorem Dpc_{d p:Dt}(hp:p∈d.Parts):p.cnt+1≤d.cnt:=by
 rw[Dt.cnt_u d]
 have:=lsm_ Dt.cnt hp
 omega
theorem rNe_(t:Dt):t.cnt≤2097152→∃ r,(∀ n,2*av t≤n→irN_ n t=some r)∧Cap 60 t.cnt r:=by
 refine Dt.ind' (M:=fun t=>t.cnt≤2097152→∃ r,(∀ n,2*av t≤n→irN_ n t=some r)∧Cap 60 t.cnt r) (fun t ih hc=>?_) t
 rw[Dt.cnt_u] at hc ⊢
 have hp:=t.pos
 obtain⟨R,hR⟩:=mc_ (fun a ha=>ih a ha (by have:=lsm_ Dt.cnt ha; omega))
 obtain⟨r,h1,h2⟩:=gl_1 Dt.cnt 60 (by omega) (fun a=>some (R a)) t.Parts 0 1 1 (fun a ha=>⟨R a,rfl,(hR a ha).2⟩) (by omega) (by omega) (by omega) (by omega) hc
 refine⟨r,fun n hn=>?_,h2⟩
 cases n with
 | zero=>omega
 | succ n=>
  rw[irN_]
  simp only[fNi_]
  rw[← h1]
  congr 1
  refine fLc_ t.Parts 0 1 (fun j a s ha=>?_)
  have ha:=List.mem_of_getElem? ha
  have:=Dt.lt ha
  simp only[(hR a ha).1 n (by omega)]
  rfl
theorem lSs_(t:Dt):∀ n m,2*av t≤n→2*av t≤m→∀ L,slS_ n t L=slS_ m t L:=by
 refine Dt.ind' (M:=fun t=>∀ n m,2*av t≤n→2*av t≤m→∀ L,slS_ n t L=slS_ m t L) (fun t ih n m hn hm L=>?_) t
 have hp:=t.pos
 cases n with
 | zero=>omega
 | succ n=>
  cases m with
  | zero=>omega
  | succ m=>
   rw[slS_,slS_]
   congr 1
   refine fNc_ _ _ _ (fun j s hj=>?_)
   simp only[Nat.zero_add] at hj ⊢
   rw[igD_ hj]
   simp only[ak]
   have hm':=gDm_ hj
   have:=Dt.lt hm'
   rw[ih _ hm' n m (by omega) (by omega)]
theorem lSe_4(t:Dt):t.cnt≤2097152→∀ n,2*av t≤n→∀ L:Nat,L≤60→∃ r,slS_ n t L=some r∧Cap L t.cnt r:=by
 refine Dt.ind' (M:=fun t=>t.cnt≤2097152→∀ n,2*av t≤n→∀ L:Nat,L≤60→∃ r,slS_ n t L=some r∧Cap L t.cnt r) (fun t ih hc n hn L hL=>?_) t
 rw[Dt.cnt_u] at hc ⊢
 have hp:=t.pos
 cases n with
 | zero=>omega
 | succ n=>
  rw[slS_]
  obtain⟨r,h1,h2⟩:=gl_2 Dt.cnt 60 (by omega) (slS_ n) L hL t.Parts 0 1 1 (fun a ha L' hL'=>ih a ha (by have:=lsm_ Dt.cnt ha; omega) n (by have:=Dt.lt ha; omega) L' hL') (by omega) (by omega) (by omega) (by omega) hc
  refine⟨r,?_,h2⟩
  rw[← h1]
  congr 1
  refine fNf_ _ _ t.Parts 0 1 (fun j a s ha=>?_)
  simp only[Nat.zero_add,in_,ha,ak]
theorem rNo_(t:Dt)(h:t.cnt≤2097152):∃ r,irN_1 t=some r∧Cap 60 t.cnt r:=by
 obtain⟨r,h1,h2⟩:=rNe_ t h
 exact⟨r,le_ ⟨_,h1⟩,h2⟩
theorem lSo_2(t:Dt)(h:t.cnt≤2097152):∃ r,slS_15 t 60=some r∧Cap 60 t.cnt r:=by
 obtain⟨r,h1,h2⟩:=lSe_4 t h _ (a6 _) 60 (by omega)
 exact⟨r,ls_1 (fun n hn=>lSs_ t _ _ hn (a6 _) _) h1,h2⟩
theorem Cap.gt{L c:Nat}{r:Int}(h:Cap L c r):decide ((L:Int)<r)=decide (L<c):=by
 by_cases e:L<c
 ·have:=h.2.2.2 e; rw[decide_eq_true e,decide_eq_true (by omega)]
 ·have:=h.2.2.1 (by omega); rw[decide_eq_false e,decide_eq_false (by omega)]
theorem wl_{ok:Dt→Bool}{B:Nat}(body:Nat→Dt→Unit→Option (Flow (List Int×Bool) Unit)):∀ (l:List Dt) (i:Nat),
 (∀ a∈l,∀ j,∃ r:List Int,body j a ()=some (bif ok a then .nx () else .rt (r,true))∧r.length≤B)→∃ r:List Int,tL_ (forL body l i ()) (fun _=>some ([],false))=some (r,!l.all ok)∧r.length≤B
 | [],i,_=>⟨[],rfl,Nat.zero_le _⟩
 | a::l,i,h=>by
  obtain⟨r,h1,h2⟩:=h a (by simp) i
  rw[bD]
  cases e:ok a
  ·rw[e,cond_false] at h1
   rw[fLr_ (r:=(r,true)) h1]
   exact⟨r,rfl,h2⟩
  ·rw[e,cond_true] at h1
   rw[fLn_ (s':=()) h1,Bool.true_and]
   exact wl_ body l (i+1) (fun b hb=>h b (by simp[hb]))
theorem wi_(d:Dt):d.Ok→d.bd→d.cnt≤2097152→∃ l:List Int,(∀ n,2*av d≤n→ifW_ n d=some (l,!d.okD))∧l.length≤d.cnt:=by
 refine Dt.ind' (M:=fun d=>d.Ok→d.bd→d.cnt≤2097152→∃ l:List Int,(∀ n,2*av d≤n→ifW_ n d=some (l,!d.okD))∧l.length≤d.cnt) (fun d ih hok ht hcn=>?_) d
 have hp:=d.pos
 obtain⟨R,hR⟩:=mc_ (fun a ha=>ih a ha (Dpo_ hok ha) (Dpb_ ht ha) (by have:=Dpc_ ha; omega))
 obtain⟨h1,_,_⟩:=nBb_ hok ht
 rw[DoD_]
 cases hb:nB_ d
 ·refine⟨[],fun n hn=>?_,Nat.zero_le _⟩
  cases n with
  | zero=>omega
  | succ n=>rw[ifW_,h1,hb]; rfl
 obtain⟨r,g1,g2⟩:=wl_ (ok:=Dt.okD) (B:=d.cnt) (fun i a _=>bif !a.okD then aa (app ([(i:Int)]) (R a)) fun v29=>some (.rt (v29,true)) else some (.nx ())) d.Parts 0 (fun a ha j=>by
  have h2:=(hR a ha).2
  have h3:=Dpc_ ha
  cases a.okD
  ·refine⟨(j:Int)::R a,?_,by simp only[aO]; omega⟩
   have:app [(j:Int)] (R a)=some ((j:Int)::R a):=by unfold app; rw[if_pos (by simp only[aO,bf]; omega)]; rfl
   rw[this]; rfl
  ·exact⟨[],rfl,Nat.zero_le _⟩)
 refine⟨r,fun n hn=>?_,g2⟩
 cases n with
 | zero=>omega
 | succ n=>
  rw[ifW_,h1,hb,ak,cond_true,Bool.true_and]
  simp only[fNi_]
  rw[← g1]
  congr 1
  refine fLc_ d.Parts 0 () (fun j a s ha=>?_)
  have ha:=List.mem_of_getElem? ha
  have:=Dt.lt ha
  rw[(hR a ha).1 n (by omega),ak,Nat.zero_add]
theorem ws_2(d:Dt):d.Ok→d.bd→∀ at0:List Int,at0.length+d.cnt≤10000000→∃ l:List Int,∀ n,2*av d≤n→slW_ n d at0=some (l,!d.okD):=by
 refine Dt.ind' (M:=fun d=>d.Ok→d.bd→∀ at0:List Int,at0.length+d.cnt≤10000000→∃ l:List Int,∀ n,2*av d≤n→slW_ n d at0=some (l,!d.okD)) (fun d ih hok ht at0 hat=>?_) d
 have hp:=d.pos
 have key:∀ a:Dt,∀ i:Int,∃ l:List Int,a∈d.Parts→∀ n,2*av a≤n→slW_ n a (at0++[i])=some (l,!a.okD):=by
  intro a i
  by_cases ha:a∈d.Parts
  ·have:=Dpc_ ha
   obtain⟨l,hl⟩:=ih a ha (Dpo_ hok ha) (Dpb_ ht ha) (at0++[i]) (by simp only[aP,aO,bf]; omega)
   exact⟨l,fun _=>hl⟩
  ·exact⟨[],fun h=>absurd h ha⟩
 have key2:∀ a:Dt,∃ F:Int→List Int,∀ i:Int,a∈d.Parts→∀ n,2*av a≤n→slW_ n a (at0++[i])=some (F i,!a.okD):=fun a=>Classical.axiomOfChoice (key a)
 obtain⟨R,hR⟩:=Classical.axiomOfChoice key2
 obtain⟨_,h1,_⟩:=nBb_ hok ht
 rw[DoD_]
 cases hb:nB_ d
 ·refine⟨at0,fun n hn=>?_⟩
  cases n with
  | zero=>omega
  | succ n=>rw[slW_,h1,hb]; rfl
 have hR':=hR
 have key3:∀ (l:List Dt) (k:Nat),∃ r:List Int,tL_ (forL (fun (i:Nat) (a:Dt) (_:Unit)=>(bif !a.okD then some (.rt (R a i,true)) else some (.nx ()):Option (Flow (List Int×Bool) Unit))) l k ()) (fun _=>some ([],false))=some (r,!l.all Dt.okD):=by
  intro l
  induction l with
  | nil=>exact fun k=>⟨[],rfl⟩
  | cons a l ih=>
   intro k
   rw[bD]
   cases e:a.okD
   ·rw[fLr_ (r:=(R a k,true)) (by rw[e]; rfl)]; exact⟨_,rfl⟩
   ·rw[fLn_ (s':=()) (by rw[e]; rfl),Bool.true_and]; exact ih (k+1)
 obtain⟨r,g1⟩:=key3 d.Parts 0
 refine⟨r,fun n hn=>?_⟩
 cases n with
 | zero=>omega
 | succ n=>
  rw[slW_,h1,hb,ak,cond_true,Bool.true_and]
  simp only[fNi_]
  rw[← g1]
  congr 1
  refine fLc_ d.Parts 0 () (fun j a s ha=>?_)
  have ha:=List.mem_of_getElem? ha
  have:=Dt.lt ha
  have e1:slO_13 at0=some at0:=by unfold slO_13 app; rw[if_pos (by simp only[bf]; omega)]; rfl
  have e2:app at0 [((0+j:Nat):Int)]=some (at0++[((0+j:Nat):Int)]):=by unfold app; rw[if_pos (by simp only[aO,bf]; omega)]
  rw[e1,ak,e2,ak,hR a _ ha n (by omega),ak]
noncomputable def vD_(d:Dt):Bool:=decide (d.cnt≤60)&&d.okD
theorem vDi_(d:Dt)(hok:d.Ok)(ht:d.bd)(hc:d.cnt≤2097152):iIV_2 d=some (vD_ d):=by
 obtain⟨r,h1,h2⟩:=rNo_ d hc
 obtain⟨l,h3,_⟩:=wi_ d hok ht hc
 have h4:decide ((60:Int)<r)=decide (60<d.cnt):=h2.gt
 unfold iIV_2 iFW_ vD_
 rw[h1,ak,h4,show ifW_1 d=some (l,!d.okD) from le_ ⟨_,h3⟩]
 by_cases e:d.cnt≤60
 ·rw[decide_eq_false (by omega),decide_eq_true e]; cases d.okD<;>rfl
 ·rw[decide_eq_true (by omega),decide_eq_false e]; rfl
theorem vDs_(d:Dt)(hok:d.Ok)(ht:d.bd)(hc:d.cnt≤2097152):slV_2 d=some (vD_ d):=by
 obtain⟨r,h1,h2⟩:=lSo_2 d hc
 obtain⟨l,h3⟩:=ws_2 d hok ht [] (by simp only[bf]; omega)
 have h4:decide ((60:Int)<r)=decide (60<d.cnt):=h2.gt
 unfold slV_2 vD_
 rw[h1,ak,h4,show slW_1 d []=some (l,!d.okD) from le_ ⟨_,h3⟩]
 by_cases e:d.cnt≤60
 ·rw[decide_eq_false (by omega),decide_eq_true e]; cases d.okD<;>rfl
 ·rw[decide_eq_true (by omega),decide_eq_false e]; rfl
theorem vDi_1(d:Dt)(hok:d.Ok)(ht:d.tot≤1048576):iIV_2 d=some (vD_ d):=vDi_ d hok (d.tot_bd ht) (by have:=Dt.cnt_tot d; omega)
theorem vDs_1(d:Dt)(hok:d.Ok)(ht:d.tot≤1048576):slV_2 d=some (vD_ d):=vDs_ d hok (d.tot_bd ht) (by have:=Dt.cnt_tot d; omega)
end
section
theorem Sa.marks_tot(s:Sa):lcn aw s.Left+lcn aw s.Right≤3*s.tot:=by
 have h1:=ll_1 (c:=aw) (t:=aR) (m:=3) s.Left (fun a _=>Ft.cn_tot a)
 have h2:=ll_1 (c:=aw) (t:=aR) (m:=3) s.Right (fun a _=>Ft.cn_tot a)
 unfold Sa.tot
 omega
theorem Tt.marks_tot(t:Tt):lcn Tt.cn t.Args≤t.tot:=by
 have:=Tt.cn_tot t
 rw[Tt.cn_u] at this; omega
theorem Dt.cn_tot(d:Dt):Dt.cn d≤6+6*d.tot:=by
 refine Dt.ind' (M:=fun d=>Dt.cn d≤6+6*d.tot) (fun d ih=>?_) d
 have h1:=d.Sequent.marks_tot
 have h2:=d.Term.marks_tot
 have h3:=d.Cut.marks_tot
 have h4:=ll_1 (c:=Dt.cn) (t:=Dt.tot) (m:=6) d.Parts (fun a ha=>ih a ha)
 rw[Dt.cn_u,d.tot_u]; omega
theorem Dt.marks_tot(d:Dt):lcn aw d.Sequent.Left+lcn aw d.Sequent.Right+lcn Tt.cn d.Term.Args+lcn Tt.cn d.Cut.Atom.Args+lcn aw d.Cut.Parts+lcn Dt.cn d.Parts≤6*d.tot:=by
 have:=Dt.cn_tot d
 rw[Dt.cn_u] at this; omega
end
section
theorem oLe_(r:Int):slO_ r=some (mOn r).1:=by
 have hr:r=1∨r=2∨r=3∨r=4∨r=5∨r=6∨r=7∨r=8∨r=9∨r=10∨r=11∨r=12∨r=13∨(r≠1∧r≠2∧r≠3∧r≠4∧r≠5∧r≠6∧r≠7∧r≠8∧r≠9∧r≠10∧r≠11∧r≠12∧r≠13):=by omega
 rcases hr with rfl | rfl | rfl | rfl | rfl | rfl | rfl | rfl | rfl | rfl | rfl | rfl | rfl | ⟨h1,h2,h3,h4,h5,h6,h7,h8,h9,h10,h11,h12,h13⟩
 all_goals first | rfl | skip
 unfold slO_ mOn
 simp only[decide_eq_false h1,decide_eq_false h2,decide_eq_false h3,decide_eq_false h4,decide_eq_false h5,decide_eq_false h6,decide_eq_false h7,decide_eq_false h8,decide_eq_false h9,decide_eq_false h10,decide_eq_false h11,decide_eq_false h12,decide_eq_false h13,cond_false]
theorem ac_3{s:Sa}{d:Dt}{xs:List Sa}(h:ia_ s d=some (xs,true))(h15:d.Rule=15)(hc:d.Cut.Ok)(hct:d.Cut.tot≤1048576):vF_ d.Cut=true:=by
 unfold ia_ at h
 rw[h15] at h
 simp only[decide_true,cond_true,zTi_,vFi_1 d.Cut hct hc,ak] at h
 revert h
 cases decide (d.Main=0)<;>cases zT_ d.Term<;>cases vF_ d.Cut<;>simp
theorem ar_{s:Sa}{d:Dt}{xs:List Sa}(h:ia_ s d=some (xs,true)):inR d.Rule 1 15=true:=by
 by_cases h15:d.Rule=15
 ·rw[h15]; rfl
 unfold ia_ at h
 rw[decide_eq_false h15] at h
 simp only[cond_false,we_,ak] at h
 revert h
 cases inR d.Rule 1 15
 ·simp
 ·exact fun _=>rfl
theorem mn_{s:Sa}{d:Dt}(h:inR d.Main 0 (IntKind.i64.wrap (((bif (mOn d.Rule).1 then s.Left else s.Right).length:Int)-1))=false):∃ f,imF_ s d=some (f,false):=by
 unfold imF_
 rw[mOe_,ak]
 revert h
 cases (mOn d.Rule).1
 ·intro h
  simp only[cond_false] at h ⊢
  rw[we_,h]
  exact⟨_,rfl⟩
 ·intro h
  simp only[cond_true] at h ⊢
  rw[we_,h]
  exact⟨_,rfl⟩
theorem am_{s:Sa}{d:Dt}{xs:List Sa}(h:ia_ s d=some (xs,true))(h15:d.Rule≠15)(hl:s.Left.length≤1000)(hr:s.Right.length≤1000):
 0≤d.Main∧d.Main<((bif (mOn d.Rule).1 then s.Left else s.Right).length:Int):=by
 have hlen:(bif (mOn d.Rule).1 then s.Left else s.Right).length≤1000:=by cases (mOn d.Rule).1<;>assumption
 have key:inR d.Main 0 (IntKind.i64.wrap (((bif (mOn d.Rule).1 then s.Left else s.Right).length:Int)-1))=true:=by
  cases hm:inR d.Main 0 (IntKind.i64.wrap (((bif (mOn d.Rule).1 then s.Left else s.Right).length:Int)-1))
  ·obtain⟨f,hf⟩:=mn_ hm
   unfold ia_ at h
   rw[decide_eq_false h15] at h
   simp only[cond_false,we_,sFo_,zTi_,iiQ_,ak,hf] at h
   revert h
   cases inR d.Rule 1 15<;>cases same d.Cut (⟨0,⟨⟨#[]⟩,[]⟩,⟨#[]⟩,[]⟩:Ft)<;>cases inR d.Rule 11 14<;>cases zT_ d.Term<;>simp
  ·rfl
 rw[w_ (by omega) (by omega)] at key
 unfold inR at key
 simp only[aA,decide_eq_true_eq] at key
 omega
theorem al_{s:Sa}{d:Dt}{xs:List Sa}(h:ia_ s d=some (xs,true))(hr:d.Rule=1∨d.Rule=2):xs=[]:=by
 unfold ia_ at h
 have hq:inR d.Rule 11 14=false:=by rcases hr with e | e<;>rw[e]<;>rfl
 have h15:decide (d.Rule=15)=false:=decide_eq_false (by omega)
 simp only[h15,cond_false,we_,sFo_,zTi_,iiQ_,ak,hq] at h
 cases hm:imF_ s d with
 | none=>
  rw[hm] at h; revert h
  cases inR d.Rule 1 15<;>cases same d.Cut (⟨0,⟨⟨#[]⟩,[]⟩,⟨#[]⟩,[]⟩:Ft)<;>cases zT_ d.Term<;>intro h<;>first | exact(congrArg Prod.fst (Option.some.inj h)).symm | cases h
 | some v=>
  rw[hm] at h
  rcases hr with e | e
  ·simp only[e,decide_true,cond_true,ak,as_1] at h
   revert h
   cases inR 1 1 15<;>cases same d.Cut (⟨0,⟨⟨#[]⟩,[]⟩,⟨#[]⟩,[]⟩:Ft)<;>cases zT_ d.Term<;>cases v.2<;>cases decide (v.1.Op=2)<;>intro h<;>exact(congrArg Prod.fst (Option.some.inj h)).symm
  ·simp only[e,aY,decide_false,decide_true,cond_true,cond_false,ak] at h
   revert h
   cases inR 2 1 15<;>cases same d.Cut (⟨0,⟨⟨#[]⟩,[]⟩,⟨#[]⟩,[]⟩:Ft)<;>cases zT_ d.Term<;>cases v.2<;>intro h<;>exact(congrArg Prod.fst (Option.some.inj h)).symm
end
section
theorem sf_{f:Ft}{n:ByteArray}{t:Tt}{r:Ft×Bool}(hot:t.Ok)(ht:t.tot≤1048576)(h:iSF_ f n t=some r)(h2:r.2=true):gT_ t=true:=by
 unfold iSF_ at h
 rw[IVT_ t ht hot] at h
 cases h1:iIV_3 f with
 | none=>rw[h1] at h; cases h
 | some b=>
  rw[h1,ak] at h
  cases b
  ·rw[← Option.some.inj h] at h2; cases h2
  rw[cond_true] at h
  cases h3:iiV_ n with
  | none=>rw[h3] at h; cases h
  | some c=>
   rw[h3,ak] at h
   cases c
   ·rw[← Option.some.inj h] at h2; cases h2
   rw[cond_true,ak] at h
   cases hg:gT_ t
   ·rw[hg] at h; rw[← Option.some.inj h] at h2; cases h2
   ·rfl
theorem it_{f:Ft}{d:Dt}{w:List Sa×Bool}(hot:d.Term.Ok)(ht:d.Term.tot≤1048576)
 (h:(aa (idx f.Parts (0:Int)) fun v33=>aa (iSF_ v33 f.Var d.Term) fun v39=>bif v39.2 then
  aa (imO_ d.Rule) fun v47=>bif v47.1 then some ([(Sa.mk ([v39.1]) ([]))],true) else some ([(Sa.mk ([]) ([v39.1]))],true)
  else some ([],false))=some w) (h2:w.2=true):gT_ d.Term=true:=by
 cases hp:idx f.Parts (0:Int) with
 | none=>rw[hp] at h; cases h
 | some p=>
  rw[hp,ak] at h
  cases hs:iSF_ p f.Var d.Term with
  | none=>rw[hs] at h; cases h
  | some r=>
   rw[hs,ak] at h
   cases hr:r.2
   ·rw[hr] at h; rw[← Option.some.inj h] at h2; cases h2
   ·exact sf_ hot ht hs hr
theorem ig_1{s:Sa}{d:Dt}{f:Ft}{w:List Sa×Bool}(hot:d.Term.Ok)(ht:d.Term.tot≤1048576)(h:ii_ s d f=some w)(h2:w.2=true):gT_ d.Term=true:=by
 unfold ii_ at h
 rw[re_1,ak] at h
 cases hs:s_ d.Rule
 ·rw[hs,cond_false] at h
  cases h1:iiV_ d.Term.Name with
  | none=>rw[h1] at h; cases h
  | some b=>
   rw[h1,ak] at h
   cases b
   ·rw[← Option.some.inj h] at h2; cases h2
   rw[cond_true] at h
   cases h3:iiF_2 s d.Term.Name with
   | none=>rw[h3] at h; cases h
   | some c=>
    rw[h3,ak] at h
    cases c
    ·exact it_ hot ht h h2
    ·rw[← Option.some.inj h] at h2; cases h2
 ·rw[hs,cond_true] at h
  exact it_ hot ht h h2
theorem an_1{s:Sa}{d:Dt}{xs:List Sa}(h:ia_ s d=some (xs,true))(h15:d.Rule≠15)(hot:d.Term.Ok)(htt:d.Term.tot≤1048576):
 same d.Cut (⟨0,⟨⟨#[]⟩,[]⟩,⟨#[]⟩,[]⟩:Ft)=true∧((inR d.Rule 11 14=true∧gT_ d.Term=true)∨(inR d.Rule 11 14=false∧zT_ d.Term=true)):=by
 unfold ia_ at h
 rw[decide_eq_false h15] at h
 simp only[cond_false,we_,sFo_,zTi_,iiQ_,ak] at h
 cases h1:inR d.Rule 1 15
 ·rw[h1] at h; cases h
 cases h2:same d.Cut (⟨0,⟨⟨#[]⟩,[]⟩,⟨#[]⟩,[]⟩:Ft)
 ·rw[h1,h2] at h; cases h
 refine⟨rfl,?_⟩
 rw[h1,h2,cond_true,cond_true] at h
 cases hq:inR d.Rule 11 14
 ·cases hz:zT_ d.Term
  ·rw[hq,hz] at h; cases h
  ·exact .inr ⟨rfl,rfl⟩
 ·refine .inl ⟨rfl,?_⟩
  rw[hq] at h
  cases hz:zT_ d.Term
  ·rw[hz] at h
   simp only[Bool.not_false,beq_self_eq_true,cond_true] at h
   cases hm:imF_ s d with
   | none=>rw[hm] at h; cases h
   | some v=>
    rw[hm,ak] at h
    cases hv:v.2
    ·rw[hv] at h; cases h
    ·rw[hv,cond_true] at h
     cases hi:ii_ s d v.1 with
     | none=>rw[hi] at h; cases h
     | some w=>
      rw[hi,ak] at h
      exact ig_1 hot htt hi (congrArg Prod.snd (Option.some.inj h))
  ·rw[hz] at h; cases h
theorem az_{s:Sa}{d:Dt}{xs:List Sa}(h:ia_ s d=some (xs,true))(h15:d.Rule=15):zT_ d.Term=true:=by
 unfold ia_ at h
 rw[h15] at h
 simp only[decide_true,cond_true,zTi_,ak] at h
 revert h
 cases decide (d.Main=0)<;>cases zT_ d.Term<;>simp
theorem zTe_{t:Tt}(h:zT_ t=true):t=⟨⟨#[]⟩,[]⟩:=si_.1 ((zs_ t).trans h)
structure RN(d:Dt):Prop where
 vl:Vl d.Sequent.Left 10
 vr:Vl d.Sequent.Right 10
 cut15:d.Rule=15→vF_ d.Cut=true
 cut0:d.Rule≠15→d.Cut=⟨0,⟨⟨#[]⟩,[]⟩,⟨#[]⟩,[]⟩
 term:(inR d.Rule 11 14=true∧gT_ d.Term=true)∨(inR d.Rule 11 14=false∧d.Term=⟨⟨#[]⟩,[]⟩)
theorem nR_{d:Dt}(hok:d.Ok)(hb:d.bd)(h:nB_ d=true):RN d:=by
 obtain⟨_,_,h3⟩:=nBb_ hok hb
 obtain⟨g1,⟨xs,a1,_⟩,_⟩:=h3 h
 obtain⟨vl,vr⟩:=vSV_ g1
 have hu:=hok.u
 rw[Dbu_] at hb
 by_cases h15:d.Rule=15
 ·exact⟨vl,vr,fun _=>ac_3 a1 h15 hu.2.2.2.2.1 hb.2.2.1,fun e=>absurd h15 e,.inr ⟨by rw[h15]; rfl,zTe_ (az_ a1 h15)⟩⟩
 ·obtain⟨n1,n2⟩:=an_1 a1 h15 hu.2.2.2.1 hb.2.1
  refine⟨vl,vr,fun e=>absurd e h15,fun _=>si_.1 n1,?_⟩
  rcases n2 with n2 | ⟨n2,n3⟩
  ·exact .inl n2
  ·exact .inr ⟨n2,zTe_ n3⟩
mutual
def repD(n:ByteArray)(t:Tt):Dt→Dt
 | .mk r s m a c l=>.mk r ⟨s.Left.map (Ft.sub n t),s.Right.map (Ft.sub n t)⟩ m (sbT n t a) (bif decide (r=15) then c.sub n t else⟨0,⟨⟨#[]⟩,[]⟩,⟨#[]⟩,[]⟩) (rD_1 n t l)
def rD_1(n:ByteArray)(t:Tt):List Dt→List Dt
 | []=>[]
 | a::l=>repD n t a::rD_1 n t l
end
mutual
def rokD(n:ByteArray)(t:Tt):Dt→Bool
 | .mk r s m a c l=>s.Left.all (Ft.sok n t)&&(s.Right.all (Ft.sok n t)&&((bif decide (r=15) then c.sok n t else true)&&rD_ n t l))
def rD_(n:ByteArray)(t:Tt):List Dt→Bool
 | []=>true
 | a::l=>rokD n t a&&rD_ n t l
end
section
variable{n:ByteArray}{t:Tt}
end
end
section
theorem cl_2(d:Dt):d.Parts.length≤d.cnt:=by
 have:∀ l:List Dt,l.length≤(l.map Dt.cnt).sum:=by
  intro l
  induction l with
  | nil=>exact Nat.zero_le _
  | cons a l ih=>rw[aO,aK,bn]; have:=a.cnt_u; omega
 have:=this d.Parts
 rw[Dt.cnt_u]; omega
theorem d_{g:Dt→Dt}{c:Nat}:∀ l:List Dt,(∀ a∈l,(g a).tot+1≤c*a.cnt)→ltot Dt.tot (l.map g)≤c*(l.map Dt.cnt).sum
 | [],_=>Nat.zero_le _
 | a::l,h=>by
  have h1:=h a (by simp)
  have h2:=d_ l (fun b hb=>h b (by simp[hb]))
  simp only[ltot,aO,aD,aK,bn,Nat.mul_add] at h2 ⊢
  omega
theorem zFt_:(⟨0,⟨⟨#[]⟩,[]⟩,⟨#[]⟩,[]⟩:Ft).tot=0:=by rw[Ft.tot_u]; show(⟨⟨#[]⟩,[]⟩:Tt).tot+0=0; rw[Tt.tot_u]; rfl
theorem zTt_:(⟨⟨#[]⟩,[]⟩:Tt).tot=0:=by rw[Tt.tot_u]; rfl
theorem oD_(d:Dt):d.bd→d.cnt≤100000→∀ k,2*av d≤k→slO_6 k d=some d:=by
 refine Dt.ind' (M:=fun d=>d.bd→d.cnt≤100000→∀ k,2*av d≤k→slO_6 k d=some d) (fun d ih hb hc k hk=>?_) d
 have hp:=d.pos
 have hlen:=cl_2 d
 have hu:=(Dbu_ d).1 hb
 have hs:ltot aR d.Sequent.Left+ltot aR d.Sequent.Right≤1048576:=hu.1
 have ml:Mod d.Sequent.Left:=⟨fun f hf=>by have:=tm_ aR hf; omega,by have:=ll_ aR d.Sequent.Left; omega⟩
 have mr:Mod d.Sequent.Right:=⟨fun f hf=>by have:=tm_ aR hf; omega,by have:=ll_ aR d.Sequent.Right; omega⟩
 have m0:Mod []:=(Vl.nil 0).mod (by omega)
 cases k with
 | zero=>omega
 | succ k=>
  rw[slO_6,ownT _ (cot_ hu.2.1),ownF _ hu.2.2.1,sn_ (-1) (-1) ml mr m0 m0]
  simp only[ak,fNi_]
  rw[mapL (f:=slO_6 k) (g:=fun x=>x) d.Parts 0 [] (fun p hp=>ih p hp (Dpb_ hb hp) (by have:=Dpc_ hp; omega) k (by have:=Dt.lt hp; omega)) (by simp; omega),tLi_]
  unfold nx
  rw[dIn_ _ _ (by omega),dIn_ _ _ (by omega)]
  simp only[List.append_nil,List.nil_append,List.map_id']
  exact congrArg some (by cases d; rfl)
section
variable{n:ByteArray}{t:Tt}
end
end
section
theorem fe_{ρ:Type}(N:Nat)(b:Bool)(f:List Bool→Option (Flow ρ (List Bool)))(hN:N≤1000)(hf:∀ s,f s=bif decide ((s.length:Int)<(N:Int)) then aa (app s [b]) fun v=>some (.nx v) else some (.br s)):
 ∀ (k:Nat) (s:List Bool),s.length+k=N→Ev (fun n=>whileN f n s) (.inr (s++List.replicate k b))
 | 0,s,h=>by
  have:=eb_ (f:=f) (s:=s) (s':=s) (by rw[hf,decide_eq_false (by omega)]; rfl)
  simpa using this
 | k+1,s,h=>by
  have e:app s [b]=some (s++[b]):=by unfold app; rw[if_pos (by simp only[aO,bf]; omega)]
  have:=fe_ N b f hN hf k (s++[b]) (by simp only[aP,aO,bf]; omega)
  rw[aV] at this
  exact en_1 (s':=s++[b]) (by rw[hf,decide_eq_true (by omega),cond_true,e]; rfl) this
theorem fill{ρ:Type}{N:Nat}{b:Bool}{f:List Bool→Option (Flow ρ (List Bool))}{s:List Bool}(hN:N≤1000)(hs:s.length≤N)(hf:∀ s,f s=bif decide ((s.length:Int)<(N:Int)) then aa (app s [b]) fun v=>some (.nx v) else some (.br s)):
 (lim fun n=>whileN f n s)=some (.inr (s++List.replicate (N-s.length) b)):=le_ (fe_ N b f hN hf (N-s.length) s (by omega))
theorem re_3{d:Dt}(h:d.Rule≠1∧d.Rule≠2)(hr:inR d.Rule 1 15=true)(left:Bool):slR_1 d left=some (remI d left):=by
 unfold slR_1 remI s_
 rw[decide_eq_false h.1,decide_eq_false h.2,oLe_,cond_false,cond_false,ak]
 cases decide (d.Rule=11)<;>cases decide (d.Rule=14)<;>cases decide (d.Rule=15)<;>cases (mOn d.Rule).1<;>cases left<;>rfl
structure Fit(d:Dt)(l r:List Bool):Prop where
 ok:d.Ok
 tot:d.tot≤1048576
 good:d.okD=true
 left:l.length=d.Sequent.Left.length
 right:r.length=d.Sequent.Right.length
end
end Go.Proofs.YtafdgbndcflghaaGreat
