/- Lemmas of the proof; each says what it shows. -/
import Derived.Test.YtpfobcjmfobiaaaGp
import Derived.Test.YtpfobcjmfobiaaaAvZ
import Derived.Test.YtpfobcjmfobiaaaGmk
set_option linter.unusedSimpArgs false
set_option linter.unusedVariables false
set_option linter.defProp false
namespace Go.Proofs.Ytpfobcjmfobiaaa
open Go.Av
open Bool renaming and_eq_true→au
open List renaming map_cons→aD,sum_cons→a7,length_cons→aF,length_nil→aR,length_append→aE
open Nat renaming le_refl→aQ
open Option renaming bind_some→ak,bind→ag
open SizeOf renaming sizeOf→aA
section
theorem we_(a lo hi:Int):iw_ a lo hi=some (inR a lo hi):=ciR_ a lo hi
theorem lIe_(a lo hi:Int):slI_1 a lo hi=some (inR a lo hi):=ciR_ a lo hi
end
section
def cLow(c:Int):Bool:=inR c 97 122
def cUp(c:Int):Bool:=inR c 65 90
def cDig(c:Int):Bool:=inR c 48 57
theorem iLe_(c:Int):iiL_ c=some (cLow c):=ciR_ c 97 122
theorem iUe_(c:Int):iiU_ c=some (cUp c):=ciR_ c 65 90
theorem iDe_(c:Int):iiD_ c=some (cDig c):=ciR_ c 48 57
theorem lSe_(c:Int):slS_1 c=some (cLow c||cDig c):=by
 unfold slS_1 cLow cDig inR
 by_cases h1:(97:Int)≤c<;>by_cases h2:c≤(122:Int)<;>by_cases h3:(48:Int)≤c<;>by_cases h4:c≤(57:Int)<;>simp[h1,h2,h3,h4]
def varC(s:ByteArray)(j:Nat):Bool:=if j=0 then cUp (byt s 0) else(cLow (byt s j)||cDig (byt s j))
def iVS_(s:ByteArray):Bool:=inR (s.size:Int) 1 4&&(List.range s.size).all (varC s)
theorem iVe_(s:ByteArray)(hb:Big s.size):iiV_ s=some (iVS_ s):=by
 unfold iiV_
 rw[bn_ hb,ak,fNa_ (varC s)]
 ·simp only[we_,ak,iVS_]
  cases (List.range s.size).all (varC s)<;>cases inR (s.size:Int) 1 4<;>rfl
 ·intro j hj _
  simp only[sn_1 hj,ak,iUe_,iLe_,iDe_,varC]
  by_cases h0:j=0
  ·subst h0
   cases cUp (byt s 0)<;>rfl
  ·have h1:¬ ((j:Int)=0):=by omega
   have h2:(0:Int)<(j:Int):=by omega
   rw[decide_eq_false h1,decide_eq_true h2,if_neg h0]
   cases cLow (byt s j)<;>cases cDig (byt s j)<;>rfl
theorem lVe_(s:ByteArray)(hb:Big s.size):slV_ s=some (iVS_ s):=by
 unfold slV_
 rw[lIe_,ak]
 unfold iVS_
 cases hr:inR (s.size:Int) 1 4
 ·rfl
 ·have hs:0<s.size:=by have:=iRi_.1 hr; omega
  simp only[cond_true,Bool.true_and]
  rw[sidx0 hs,ak]
  by_cases h0:cUp (byt s 0)=true
  ·have hu:=iRi_.1 h0
   rw[decide_eq_false (by omega),cond_false,ak,decide_eq_false (by omega),cond_false,bn_ hb,ak,fNa_2 (varC s) hs (by simp[varC,h0])]
   ·cases (List.range s.size).all (varC s)<;>rfl
   ·intro j hj0 hj _
    simp only[sn_1 hj,ak,lSe_,varC]
    rw[if_neg (by omega)]
    cases (cLow (byt s j)||cDig (byt s j))<;>rfl
  ·have h1:(List.range s.size).all (varC s)=false:=List.all_eq_false.2 ⟨0,by simp; omega,by simp[varC,h0]⟩
   rw[h1]
   have hu:¬ (65≤byt s 0∧byt s 0≤90):=by intro g; exact h0 (iRi_.2 g)
   by_cases g:byt s 0<65
   ·rw[decide_eq_true g]; rfl
   ·rw[decide_eq_false g,cond_false,ak,decide_eq_true (by omega)]; rfl
end
section
end
section
def resv:List ByteArray:=[(⟨#[116,114,117,101]⟩:ByteArray),(⟨#[102,97,108,115,101]⟩:ByteArray),(⟨#[116,114,117,116,104]⟩:ByteArray),(⟨#[98,111,116,104]⟩:ByteArray),(⟨#[101,105,116,104,101,114]⟩:ByteArray),(⟨#[105,102]⟩:ByteArray),(⟨#[97,108,108]⟩:ByteArray),(⟨#[115,111,109,101]⟩:ByteArray)]
def symC(s:ByteArray)(j:Nat):Bool:=if j=0 then cLow (byt s 0) else(cLow (byt s j)||cDig (byt s j)||decide (byt s j=95))
def iSS_(s:ByteArray):Bool:=inR (s.size:Int) 1 6&&(List.range s.size).all (symC s)&&!resv.any (fun v=>decide (s=v))
theorem Cs_(xs:List ByteArray)(s:ByteArray):sCS_ xs s=some (xs.any (fun v=>decide (s=v))):=by
 unfold sCS_ sIS_
 obtain⟨r,h1,h2⟩:=fNf_1 (n:=xs.length) (p:=fun i=>decide (s=xs.getD i default)) (f:=fun i2 s2=>(idx xs (i2:Int)).bind fun v14=>bif decide (s=v14) then some (.rt (i2:Int)) else some (.nx ())) (fun j hj=>by
  simp only[igD_ hj,ak]
  cases decide (s=xs.getD j default)<;>rfl)
 rw[h1,ak,h2,ral_1 xs (fun v=>decide (s=v))]
theorem iSe_(s:ByteArray)(hb:Big s.size):iiS_ s=some (iSS_ s):=by
 unfold iiS_
 rw[bn_ hb,ak,fNa_ (symC s)]
 ·simp only[we_,ak,iSS_,ir_,Cs_]
  rw[show resv.any (fun v=>decide (s=v))=_ from rfl]
  unfold resv
  cases (List.range s.size).all (symC s)<;>cases inR (s.size:Int) 1 6<;>rfl
 ·intro j hj _
  simp only[sn_1 hj,ak,iLe_,iDe_,symC]
  by_cases h0:j=0
  ·subst h0
   cases cLow (byt s 0)<;>rfl
  ·have h1:¬ ((j:Int)=0):=by omega
   rw[decide_eq_false h1,if_neg h0]
   cases cLow (byt s j)<;>cases cDig (byt s j)<;>cases decide (byt s j=95)<;>rfl
theorem lSe_2(s:ByteArray)(hb:Big s.size):slS_2 s=some (iSS_ s):=by
 unfold slS_2
 rw[lIe_,ak]
 unfold iSS_
 cases hr:inR (s.size:Int) 1 6
 ·rfl
 ·have hs:0<s.size:=by have:=iRi_.1 hr; omega
  simp only[cond_true,Bool.true_and]
  rw[sidx0 hs,ak]
  by_cases h0:cLow (byt s 0)=true
  ·have hu:=iRi_.1 h0
   rw[decide_eq_false (by omega),cond_false,ak,decide_eq_false (by omega),cond_false,bn_ hb,ak,fNa_2 (symC s) hs (by simp[symC,h0])]
   ·simp only[resv,List.any_cons,List.any_nil,Bool.or_false]
    generalize decide (s=_)=b1
    generalize decide (s=_)=b2
    generalize decide (s=_)=b3
    generalize decide (s=_)=b4
    generalize decide (s=_)=b5
    generalize decide (s=_)=b6
    generalize decide (s=_)=b7
    generalize decide (s=_)=b8
    cases (List.range s.size).all (symC s)<;>cases b1<;>cases b2<;>cases b3<;>cases b4<;>cases b5<;>cases b6<;>cases b7<;>cases b8<;>rfl
   ·intro j hj0 hj _
    simp only[sn_1 hj,ak,lSe_,symC]
    rw[if_neg (by omega)]
    cases (cLow (byt s j)||cDig (byt s j))<;>cases decide (byt s j=95)<;>rfl
  ·have h1:(List.range s.size).all (symC s)=false:=List.all_eq_false.2 ⟨0,by simp; omega,by simp[symC,h0]⟩
   rw[h1]
   have hu:¬ (97≤byt s 0∧byt s 0≤122):=by intro g; exact h0 (iRi_.2 g)
   by_cases g:byt s 0<97
   ·rw[decide_eq_true g]; rfl
   ·rw[decide_eq_false g,cond_false,ak,decide_eq_true (by omega)]; rfl
end
section
def cmpS(a b:ByteArray):Int:=if slt a b=true then -1 else if a=b then 0 else 1
end
section
mutual
def Tt.cnt:Tt→Nat
 | .mk _ l=>1+Tc_ l
def Tc_:List Tt→Nat
 | []=>0
 | a::l=>a.cnt+Tc_ l
end
theorem Tce_(l:List Tt):Tc_ l=(l.map Tt.cnt).sum:=by
 induction l with
 | nil=>rfl
 | cons a l ih=>rw[Tc_,ih,aD,a7]
theorem Tcm_(x:ByteArray)(l:List Tt):(Tt.mk x l).cnt=1+(l.map Tt.cnt).sum:=by rw[Tt.cnt,Tce_]
mutual
def Tt.dep:Tt→Nat
 | .mk _ l=>1+Td_ l
def Td_:List Tt→Nat
 | []=>0
 | a::l=>max a.dep (Td_ l)
end
theorem Tdm_(x:ByteArray)(l:List Tt):(Tt.mk x l).dep=1+Td_ l:=by rw[Tt.dep]
theorem Tct_(t:Tt):t.cnt≤1+t.tot:=by
 refine Ti_ (M:=fun t=>t.cnt≤1+t.tot) (fun x l ih=>?_) t
 rw[Tcm_,Ttm_]
 have:(l.map Tt.cnt).sum≤ltot Tt.tot l:=by
  clear x
  induction l with
  | nil=>simp[ltot]
  | cons a l ihl=>
   have h1:=ih a (by simp)
   have h2:=ihl (fun b hb=>ih b (by simp[hb]))
   simp only[ltot,aD,a7,aF] at h2 ⊢
   omega
 omega
theorem Tt.dep_cnt(t:Tt):t.dep≤t.cnt:=by
 refine Ti_ (M:=fun t=>t.dep≤t.cnt) (fun x l ih=>?_) t
 rw[Tcm_,Tdm_]
 have:Td_ l≤(l.map Tt.cnt).sum:=by
  clear x
  induction l with
  | nil=>simp[Td_]
  | cons a l ihl=>
   have h1:=ih a (by simp)
   have h2:=ihl (fun b hb=>ih b (by simp[hb]))
   simp only[Td_,aD,a7]
   omega
 omega
theorem Tt.cnt_pos(t:Tt):1≤t.cnt:=by cases t; rw[Tcm_]; omega
def Cap(L c:Nat)(r:Int):Prop:=1≤r∧r≤c∧(c≤L→r=c)∧(L<c→L<r)
theorem Cap.le{L c:Nat}{r:Int}(h:Cap L c r):decide (r≤(L:Int))=decide (c≤L):=by
 by_cases e:c≤L
 ·have:=h.2.2.1 e; rw[decide_eq_true e,decide_eq_true (by omega)]
 ·have:=h.2.2.2 (by omega); rw[decide_eq_false e,decide_eq_false (by omega)]
theorem sl_2(f:Tt→Option Int):∀ (l:List Tt) (i:Nat) (s:Int) (c0:Nat),(∀ a∈l,∃ r,f a=some r∧Cap 30 a.cnt r)→1≤s→s≤c0→(c0≤30→s=c0)→(30<c0→30<s)→c0+(l.map Tt.cnt).sum≤2097152→
 ∃ r,thenL (ρ:=Int) (forL (fun _ v s=>bif decide ((30:Int)<s) then some (.rt s) else(f v).bind fun w=>some (.nx (wr (s+w)))) l i s) (fun s=>some s)=some r∧Cap 30 (c0+(l.map Tt.cnt).sum) r
 | [],i,s,c0,_,h1,h2,h3,h4,_=>⟨s,rfl,by simpa using⟨h1,h2,h3,h4⟩⟩
 | a::l,i,s,c0,hf,h1,h2,h3,h4,hb=>by
  simp only[aD,a7] at hb ⊢
  by_cases e:(30:Int)<s
  ·rw[fLr_ (r:=s) (by rw[decide_eq_true e]; rfl),tLi_1]
   exact⟨s,rfl,h1,by omega,fun g=>by omega,fun _=>e⟩
  ·obtain⟨r,hr,c1,c2,c3,c4⟩:=hf a (by simp)
   have hs:s=c0:=h3 (by omega)
   rw[fLn_ (s':=wr (s+r)) (by rw[decide_eq_false e,cond_false,hr]; rfl),wr64 (by omega) (by omega)]
   have:=sl_2 f l (i+1) (s+r) (c0+a.cnt) (fun b hb=>hf b (by simp[hb])) (by omega) (by omega) (fun g=>by have:=c3 (by omega); omega) (fun g=>by
    by_cases g2:a.cnt≤30
    ·have:=c3 g2; omega
    ·have:=c4 (by omega); omega) (by omega)
   rwa [Nat.add_assoc] at this
theorem ise_(t:Tt):t.cnt≤2097152→∃ r,(∀ n,2*aA t≤n→isN_ n t=some r)∧Cap 30 t.cnt r:=by
 refine Ti_ (M:=fun t=>t.cnt≤2097152→∃ r,(∀ n,2*aA t≤n→isN_ n t=some r)∧Cap 30 t.cnt r) (fun x l ih hc=>?_) t
 rw[Tcm_] at hc ⊢
 obtain⟨R,hR⟩:=mc_ (fun a ha=>ih a ha (by have:=lsm_ Tt.cnt ha; omega))
 obtain⟨r,h1,h2⟩:=sl_2 (fun a=>some (R a)) l 0 1 1 (fun a ha=>⟨R a,rfl,(hR a ha).2⟩) (by omega) (by omega) (by omega) (by omega) hc
 refine⟨r,fun n hn=>?_,h2⟩
 cases n with
 | zero=>simp only[Tt.mk.sizeOf_spec] at hn; omega
 | succ n=>
  rw[isN_]
  simp only[TAm_,fNi_]
  rw[← h1]
  congr 1
  refine fLc_ l 0 1 (fun j a s ha=>?_)
  have ha:=List.mem_of_getElem? ha
  simp only[(hR a ha).1 n (by have:=List.sizeOf_lt_of_mem ha; simp only[Tt.mk.sizeOf_spec] at hn; omega)]
theorem iso_(t:Tt)(h:t.tot≤1048576):∃ r,is_ t=some r∧Cap 30 t.cnt r:=by
 obtain⟨r,h1,h2⟩:=ise_ t (by have:=Tct_ t; omega)
 exact⟨r,le_ ⟨_,h1⟩,h2⟩
theorem ml_2(f:Tt→Int→Option Int)(L:Nat)(hL:L≤30):∀ (l:List Tt) (i:Nat) (s:Int) (c0:Nat),(∀ a∈l,∀ L':Nat,L'≤30→∃ r,f a L'=some r∧Cap L' a.cnt r)→1≤s→s≤c0→(c0≤L→s=c0)→(L<c0→L<s)→c0+(l.map Tt.cnt).sum≤2097152→
 ∃ r,thenL (ρ:=Int) (forL (fun _ v s=>bif decide (s≤(L:Int)) then(f v (wr ((L:Int)-s))).bind fun w=>some (.nx (wr (s+w))) else some (.rt s)) l i s) (fun s=>some s)=some r∧Cap L (c0+(l.map Tt.cnt).sum) r
 | [],i,s,c0,_,h1,h2,h3,h4,_=>⟨s,rfl,by simpa using⟨h1,h2,h3,h4⟩⟩
 | a::l,i,s,c0,hf,h1,h2,h3,h4,hb=>by
  simp only[aD,a7] at hb ⊢
  by_cases e:s≤(L:Int)
  ·have hs:s=c0:=h3 (by omega)
   have eL:wr ((L:Int)-s)=((L-c0:Nat):Int):=by rw[wr64 (by omega) (by omega)]; omega
   obtain⟨r,hr,c1,c2,c3,c4⟩:=hf a (by simp) (L-c0) (by omega)
   rw[fLn_ (s':=wr (s+r)) (by rw[decide_eq_true e,cond_true,eL,hr]; rfl),wr64 (by omega) (by omega)]
   have:=ml_2 f L hL l (i+1) (s+r) (c0+a.cnt) (fun b hb=>hf b (by simp[hb])) (by omega) (by omega) (fun g=>by have:=c3 (by omega); omega) (fun g=>by
    by_cases g2:a.cnt≤L-c0
    ·omega
    ·have:=c4 (by omega); omega) (by omega)
   rwa [Nat.add_assoc] at this
  ·rw[fLr_ (r:=s) (by rw[decide_eq_false e]; rfl),tLi_1]
   exact⟨s,rfl,h1,by omega,fun g=>by omega,fun _=>by omega⟩
theorem ls_1{α:Type}{m:Nat→Option α}{N:Nat}{r:α}(hs:∀ n,N≤n→m n=m N)(h:m N=some r):lim m=some r:=le_ ⟨N,fun n hn=>by rw[hs n hn,h]⟩
theorem sms_(t:Tt):∀ n m,2*aA t≤n→2*aA t≤m→∀ L,slM_ n t L=slM_ m t L:=by
 refine Ti_ (M:=fun t=>∀ n m,2*aA t≤n→2*aA t≤m→∀ L,slM_ n t L=slM_ m t L) (fun x l ih n m hn hm L=>?_) t
 simp only[Tt.mk.sizeOf_spec] at hn hm
 cases n with
 | zero=>omega
 | succ n=>
  cases m with
  | zero=>omega
  | succ m=>
   rw[slM_,slM_]
   congr 1
   refine fNc_ _ _ _ (fun j s hj=>?_)
   simp only[TAm_,Nat.zero_add] at hj ⊢
   rw[igD_ hj]
   simp only[ak]
   have hm':=gDm_ hj
   have:=List.sizeOf_lt_of_mem hm'
   rw[ih _ hm' n m (by omega) (by omega)]
theorem sme_(t:Tt):t.cnt≤2097152→∀ n,2*aA t≤n→∀ L:Nat,L≤30→∃ r,slM_ n t L=some r∧Cap L t.cnt r:=by
 refine Ti_ (M:=fun t=>t.cnt≤2097152→∀ n,2*aA t≤n→∀ L:Nat,L≤30→∃ r,slM_ n t L=some r∧Cap L t.cnt r) (fun x l ih hc n hn L hL=>?_) t
 rw[Tcm_] at hc ⊢
 simp only[Tt.mk.sizeOf_spec] at hn
 cases n with
 | zero=>omega
 | succ n=>
  rw[slM_]
  simp only[TAm_]
  obtain⟨r,h1,h2⟩:=ml_2 (slM_ n) L hL l 0 1 1 (fun a ha L' hL'=>ih a ha (by have:=lsm_ Tt.cnt ha; omega) n (by have:=List.sizeOf_lt_of_mem ha; omega) L' hL') (by omega) (by omega) (by omega) (by omega) hc
  refine⟨r,?_,h2⟩
  rw[← h1]
  congr 1
  refine fNf_ _ _ l 0 1 (fun j a s ha=>?_)
  simp only[Nat.zero_add,in_,ha,ak]
theorem smo_(t:Tt)(h:t.tot≤1048576):∃ r,slM_2 t 30=some r∧Cap 30 t.cnt r:=by
 obtain⟨r,h1,h2⟩:=sme_ t (by have:=Tct_ t; omega) _ (aQ _) 30 (by omega)
 exact⟨r,ls_1 (fun n hn=>sms_ t _ _ hn (aQ _) _) h1,h2⟩
theorem dl_(f:Tt→Option Int)(g:Int→Int→Option Int)(hg:∀ a b,g a b=some (max a b)):∀ (l:List Tt) (i:Nat) (s:Nat),(∀ a∈l,f a=some (a.dep:Int))→
 thenL (ρ:=Int) (forL (fun _ v s=>(f v).bind fun w=>(g s w).bind fun z=>some (.nx z)) l i (s:Int)) (fun s=>some (wr (s+1)))=some (wr (((max s (Td_ l):Nat):Int)+1))
 | [],i,s,_=>by simp[forL,tLi_,Td_]
 | a::l,i,s,h=>by
  have e:max (s:Int) (a.dep:Int)=((max s a.dep:Nat):Int):=by omega
  rw[fLn_ (s':=((max s a.dep:Nat):Int)) (by rw[h a (by simp),ak,hg,ak,e]),dl_ f g hg l (i+1) _ (fun b hb=>h b (by simp[hb])),Td_]
  congr 3; omega
theorem Me_(a b:Int):slM_1 a b=some (max a b):=by
 unfold slM_1
 by_cases h:b<a
 ·rw[decide_eq_true h,cond_true]; congr 1; omega
 ·rw[decide_eq_false h,cond_false]; congr 1; omega
theorem dl_1(l:List Tt):Td_ l≤(l.map Tt.cnt).sum:=by
 induction l with
 | nil=>simp[Td_]
 | cons a l ih=>simp only[Td_,aD,a7]; have:=a.dep_cnt; omega
theorem idN_2(t:Tt):t.cnt≤2097152→∀ n,2*aA t≤n→idN_ n t=some (t.dep:Int):=by
 refine Ti_ (M:=fun t=>t.cnt≤2097152→∀ n,2*aA t≤n→idN_ n t=some (t.dep:Int)) (fun x l ih hc n hn=>?_) t
 rw[Tcm_] at hc
 rw[Tdm_]
 simp only[Tt.mk.sizeOf_spec] at hn
 cases n with
 | zero=>omega
 | succ n=>
  rw[idN_]
  simp only[TAm_,fNi_]
  have:=dl_ (idN_ n) (fun a b=>some (max a b)) (fun _ _=>rfl) l 0 0 (fun a ha=>ih a ha (by have:=lsm_ Tt.cnt ha; omega) n (by have:=List.sizeOf_lt_of_mem ha; omega))
  simp only[ak] at this
  refine this.trans ?_
  have:=dl_1 l
  rw[wr64 (by omega) (by omega)]; congr 1; omega
theorem sdN_(t:Tt):t.cnt≤2097152→∀ n,2*aA t≤n→slD_ n t=some (t.dep:Int):=by
 refine Ti_ (M:=fun t=>t.cnt≤2097152→∀ n,2*aA t≤n→slD_ n t=some (t.dep:Int)) (fun x l ih hc n hn=>?_) t
 rw[Tcm_] at hc
 rw[Tdm_]
 simp only[Tt.mk.sizeOf_spec] at hn
 cases n with
 | zero=>omega
 | succ n=>
  rw[slD_]
  simp only[TAm_,fNi_]
  have:=dl_ (slD_ n) slM_1 Me_ l 0 0 (fun a ha=>ih a ha (by have:=lsm_ Tt.cnt ha; omega) n (by have:=List.sizeOf_lt_of_mem ha; omega))
  refine this.trans ?_
  have:=dl_1 l
  rw[wr64 (by omega) (by omega)]; congr 1; omega
theorem ido_(t:Tt)(h:t.tot≤1048576):id_ t=some (t.dep:Int):=le_ ⟨_,idN_2 t (by have:=Tct_ t; omega)⟩
theorem sdo_(t:Tt)(h:t.tot≤1048576):slD_1 t=some (t.dep:Int):=le_ ⟨_,sdN_ t (by have:=Tct_ t; omega)⟩
def sT_(t:Tt):Bool:=decide (t.cnt≤30)&&decide (t.dep≤8)
theorem iSo_(t:Tt)(h:t.tot≤1048576):iiS_1 t=some (sT_ t):=by
 obtain⟨r,h1,h2⟩:=iso_ t h
 have h3:=h2.le
 unfold iiS_1 sT_
 rw[h1,ak,show decide (r≤30)=decide (t.cnt≤30) from h3,ido_ t h,ak]
 cases decide (t.cnt≤30)
 ·rfl
 ·rw[cond_true,Bool.true_and]; congr 1; exact decide_eq_decide.2 (by omega)
theorem lFo_(t:Tt)(h:t.tot≤1048576):slF_ t=some (sT_ t):=by
 obtain⟨r,h1,h2⟩:=smo_ t h
 have h3:=h2.le
 unfold slF_ sT_
 rw[h1,ak,show decide (r≤30)=decide (t.cnt≤30) from h3,sdo_ t h,ak]
 cases decide (t.cnt≤30)
 ·rfl
 ·rw[cond_true,Bool.true_and]; congr 1; exact decide_eq_decide.2 (by omega)
mutual
def Tt.good:Tt→Bool
 | .mk x l=>bif iVS_ x then l.isEmpty else(iSS_ x&&decide (l.length≤4)&&Tg_ l)
def Tg_:List Tt→Bool
 | []=>true
 | a::l=>a.good&&Tg_ l
end
theorem Tge_(l:List Tt):Tg_ l=l.all Tt.good:=by
 induction l with
 | nil=>rfl
 | cons a l ih=>rw[Tg_,ih]; rfl
theorem Tgm_(x:ByteArray)(l:List Tt):(Tt.mk x l).good=bif iVS_ x then l.isEmpty else(iSS_ x&&decide (l.length≤4)&&l.all Tt.good):=by rw[Tt.good,Tge_]
theorem Tgu_(t:Tt):t.good=bif iVS_ t.Name then t.Args.isEmpty else(iSS_ t.Name&&decide (t.Args.length≤4)&&t.Args.all Tt.good):=by cases t; exact Tgm_ _ _
theorem iEd_{α:Type}(l:List α):decide ((l.length:Int)=0)=l.isEmpty:=by cases l<;>simp; omega
theorem ihN_5(t:Tt):t.Ok→∀ n,3*aA t≤n→ihN_ n t=some t.good:=by
 refine Ti_1 (M:=fun t=>t.Ok→∀ n,3*aA t≤n→ihN_ n t=some t.good) (fun t ih hok n hn=>?_) t
 obtain⟨hx,hl,hall⟩:=hok.u
 rw[Tgu_]
 have hpos:=t.pos
 cases n with
 | zero=>omega
 | succ n=>
  rw[ihN_]
  rw[iVe_ _ hx,ak,iSe_ _ hx,ak,iEd_]
  cases iVS_ t.Name
  ·rw[cond_false,cond_false]
   cases iSS_ t.Name
   ·rfl
   ·by_cases h4:t.Args.length≤4
    ·rw[cond_true,decide_eq_true (show(t.Args.length:Int)≤4 by omega),cond_true,decide_eq_true h4,Bool.true_and,Bool.true_and]
     unfold sCF_ sIF_
     rw[fl_ (p:=fun a=>!a.good) t.Args (fun a ha=>?_),ak,List.all_eq_not_any_not]
     have hs:=Tt.lt ha
     cases n with
     | zero=>omega
     | succ n=>
      rw[ihN_1,ih a ha (hall a ha) n (by omega)]; rfl
    ·rw[cond_true,decide_eq_false (show ¬ (t.Args.length:Int)≤4 by omega),decide_eq_false h4]; rfl
  ·rfl
theorem slN_4(t:Tt):t.Ok→∀ n,3*aA t≤n→slN_ n t=some t.good:=by
 refine Ti_1 (M:=fun t=>t.Ok→∀ n,3*aA t≤n→slN_ n t=some t.good) (fun t ih hok n hn=>?_) t
 obtain⟨hx,hl,hall⟩:=hok.u
 rw[Tgu_]
 have hpos:=t.pos
 cases n with
 | zero=>omega
 | succ n=>
  rw[slN_]
  rw[lVe_ _ hx,ak,lSe_2 _ hx,ak,iEd_]
  cases iVS_ t.Name
  ·rw[cond_false,cond_false]
   cases iSS_ t.Name
   ·rfl
   ·by_cases h4:t.Args.length≤4
    ·rw[cond_true,decide_eq_false (show ¬ (4:Int)<(t.Args.length:Int) by omega),cond_false,decide_eq_true h4,Bool.true_and,Bool.true_and,
      fNa_ (fun j=>(t.Args.getD j default).good) (fun j hj _=>?_),ral_ t.Args Tt.good]
     ·cases t.Args.all Tt.good<;>rfl
     ·have ha:=gDm_ hj
      have hs:=Tt.lt ha
      simp only[igD_ hj,ak,ih _ ha (hall _ ha) n (by omega)]
      cases (t.Args.getD j default).good<;>rfl
    ·rw[cond_true,decide_eq_true (show(4:Int)<(t.Args.length:Int) by omega),decide_eq_false h4]; rfl
  ·rfl
def goodT(t:Tt):Bool:=sT_ t&&t.good
theorem IVT_(t:Tt)(h:t.tot≤1048576)(hok:t.Ok):iIV_ t=some (goodT t):=by
 unfold iIV_ goodT
 rw[iSo_ t h,ak,show ihN_3 t=some t.good from le_ ⟨_,ihN_5 t hok⟩,ak]
 cases sT_ t<;>rfl
theorem lGo_(t:Tt)(h:t.tot≤1048576)(hok:t.Ok):slG_2 t=some (goodT t):=by
 unfold slG_2 goodT
 rw[lFo_ t h,ak,show slN_1 t=some t.good from le_ ⟨_,slN_4 t hok⟩,ak]
 cases sT_ t<;>rfl
end
section
noncomputable def same{α:Type}(a b:α):Bool:=@decide (a=b) (Classical.propDecidable _)
theorem si_{α:Type}{a b:α}:same a b=true↔a=b:=by unfold same; exact @decide_eq_true_iff _ (Classical.propDecidable _)
theorem sc_1{α:Type}(a b:α):same a b=same b a:=by rw[Bool.eq_iff_iff,si_,si_]; exact eq_comm
theorem sl_1{α:Type}{xs ys:List α}(h:¬ xs.length=ys.length):same xs ys=false:=by
 cases e:same xs ys
 ·rfl
 ·rw[si_] at e; exact absurd (by rw[e]) h
theorem as_2{α:Type}[Inhabited α]{xs ys:List α}(h:xs.length=ys.length):(List.range xs.length).all (fun j=>same (xs.getD j default) (ys.getD j default))=same xs ys:=by
 rw[Bool.eq_iff_iff,List.all_eq_true,si_]
 constructor
 ·intro g
  refine List.ext_getElem h (fun i h1 h2=>?_)
  have:=si_.1 (g i (by simpa using h1))
  simpa[List.getD,h1,h2] using this
 ·rintro rfl x _
  exact si_.2 rfl
theorem sl_{α:Type}[Inhabited α](f:α→α→Option Bool)(xs ys:List α)(h:xs.length=ys.length)(hf:∀ a∈xs,∀ b,f a b=some (same a b)):
 thenL (ρ:=Bool) (σ:=Unit) (forN (fun (i:Nat) (_:Unit)=>ag (idx xs (i:Int)) fun v=>ag (idx ys (i:Int)) fun w=>ag (f v w) fun x=>bif x then some (.nx ()) else some (.rt false)) xs.length 0 ()) (fun _=>some true)=some (same xs ys):=by
 rw[fNa_ (fun j=>same (xs.getD j default) (ys.getD j default)) (r0:=false) (fun j hj _=>?_),as_2 h]
 ·cases same xs ys<;>rfl
 ·rw[igD_ hj,igD_ (h▸hj),ak,ak,hf _ (gDm_ hj),ak]
  cases same (xs.getD j default) (ys.getD j default)<;>rfl
theorem ld_{α:Type}(xs ys:List α):decide ((xs.length:Int)=(ys.length:Int))=decide (xs.length=ys.length):=decide_eq_decide.2 (by omega)
theorem Tsu_(a b:Tt):same a b=(decide (a.Name=b.Name)&&same a.Args b.Args):=by
 rw[Bool.eq_iff_iff,si_,au,si_,decide_eq_true_iff]
 constructor
 ·rintro rfl; exact⟨rfl,rfl⟩
 ·rintro ⟨h1,h2⟩; rw[← a.eta,← b.eta,h1,h2]
theorem lSe_1(a:Tt):∀ b n,2*aA a≤n→slS_ n a b=some (same a b)∧iET_ n a b=some (same a b):=by
 refine Ti_1 (M:=fun a=>∀ b n,2*aA a≤n→slS_ n a b=some (same a b)∧iET_ n a b=some (same a b)) (fun a ih b n hn=>?_) a
 have hp:=a.pos
 cases n with
 | zero=>omega
 | succ n=>
  rw[slS_,iET_,Tsu_]
  unfold sEF_
  rw[ld_]
  cases decide (a.Name=b.Name)
  ·exact⟨rfl,rfl⟩
  ·by_cases h:a.Args.length=b.Args.length
   ·have k:=fun x (hx:x∈a.Args) y=>ih x hx y n (by have:=Tt.lt hx; omega)
    rw[decide_eq_true h,cond_true,cond_true,sl_ (slS_ n) a.Args b.Args h (fun x hx y=>(k x hx y).1)]
    refine⟨rfl,?_⟩
    rw[cond_true,cond_true,sl_ (iET_ n) a.Args b.Args h (fun x hx y=>(k x hx y).2)]; rfl
   ·rw[decide_eq_false h,sl_1 h]; exact⟨rfl,rfl⟩
theorem lSo_(a b:Tt):slS_3 a b=some (same a b):=le_ ⟨_,fun n hn=>(lSe_1 a b n hn).1⟩
theorem ETo_(a b:Tt):iET_1 a b=some (same a b):=le_ ⟨_,fun n hn=>(lSe_1 a b n hn).2⟩
end
section
mutual
def Tt.vars:Tt→List ByteArray
 | .mk x l=>bif iVS_ x then [x] else Tv_ l
def Tv_:List Tt→List ByteArray
 | []=>[]
 | a::l=>a.vars++Tv_ l
end
theorem Tvu_(t:Tt):t.vars=bif iVS_ t.Name then [t.Name] else Tv_ t.Args:=by cases t; rw[Tt.vars]; rfl
theorem Tt.cnt_u(t:Tt):t.cnt=1+Tc_ t.Args:=by cases t; rw[Tt.cnt]; rfl
theorem nC_{t:Tt}(h:t.good=true):(iVS_ t.Name=true∧t.Args=[])∨(iVS_ t.Name=false∧iSS_ t.Name=true∧t.Args.length≤4∧∀ a∈t.Args,a.good=true):=by
 rw[Tgu_] at h
 cases hv:iVS_ t.Name
 ·rw[hv,cond_false] at h
  simp only[au,decide_eq_true_eq,List.all_eq_true] at h
  exact Or.inr ⟨rfl,h.1.1,h.1.2,h.2⟩
 ·rw[hv,cond_true] at h
  exact Or.inl ⟨rfl,by simpa using h⟩
theorem iVg_{t:Tt}(h:t.good=true):iiV_1 t=some (iVS_ t.Name):=by
 unfold iiV_1
 rcases nC_ h with⟨hv,_⟩ | ⟨hv,hs,_⟩
 ·have h2:=hv
  unfold iVS_ at h2
  rw[au] at h2
  have hz:0<t.Name.size:=by have:=iRi_.1 h2.1; omega
  have h3:=List.all_eq_true.1 h2.2 0 (by simpa using hz)
  rw[sidx0 hz,ak,iUe_,ak,hv]
  simpa[varC] using h3
 ·have h2:=hs
  unfold iSS_ at h2
  rw[au,au] at h2
  have hz:0<t.Name.size:=by have:=iRi_.1 h2.1.1; omega
  have h3:=List.all_eq_true.1 h2.1.2 0 (by simpa using hz)
  rw[sidx0 hz,ak,iUe_,ak,hv]
  have h4:cLow (byt t.Name 0)=true:=by simpa[symC] using h3
  have h5:=iRi_.1 h4
  congr 1
  rw[← Bool.not_eq_true]
  intro g
  have:=iRi_.1 g
  omega
def VS(Q:List ByteArray→Prop)(acc v:List ByteArray)(vs:List ByteArray)(c:Nat):Prop:=(∀ x,x∈v↔x∈acc∨x∈vs)∧v.length≤acc.length+c∧(Q acc→Q v)
theorem vl_1(Q:List ByteArray→Prop)(F:Nat→List ByteArray→Tt→Option (List ByteArray))(N:Nat):∀ (l:List Tt) (i:Nat) (acc:List ByteArray),
 (∀ a∈l,∀ acc,Q acc→acc.length+a.cnt≤1000→∃ v,(∀ n,N≤n→F n acc a=some v)∧VS Q acc v a.vars a.cnt)→Q acc→acc.length+Tc_ l≤1000→
 ∃ v,(∀ n,N≤n→forL (ρ:=List ByteArray) (fun _ x s=>(F n s x).bind fun w=>some (.nx w)) l i acc=some (.inr v))∧VS Q acc v (Tv_ l) (Tc_ l)
 | [],i,acc,_,hq,_=>⟨acc,fun _ _=>rfl,fun x=>by simp[Tv_],by simp[Tc_],id⟩
 | a::l,i,acc,h,hq,hb=>by
  simp only[Tc_] at hb
  obtain⟨v,h1,h2,h3,h4⟩:=h a (by simp) acc hq (by omega)
  obtain⟨w,g1,g2,g3,g4⟩:=vl_1 Q F N l (i+1) v (fun b hb=>h b (by simp[hb])) (h4 hq) (by omega)
  refine⟨w,fun n hn=>?_,fun x=>?_,?_,fun q=>g4 (h4 q)⟩
  ·rw[fLn_ (s':=v) (by rw[h1 n hn]; rfl),g1 n hn]
  ·rw[g2,h2,Tv_,List.mem_append,or_assoc]
  ·simp only[Tc_]; omega
theorem cNo_(t:Tt):t.good=true→∀ acc,True→acc.length+t.cnt≤1000→∃ v,(∀ n,2*aA t≤n→icN_ n acc t=some v)∧VS (fun _=>True) acc v t.vars t.cnt:=by
 refine Ti_1 (M:=fun t=>t.good=true→∀ acc,True→acc.length+t.cnt≤1000→∃ v,(∀ n,2*aA t≤n→icN_ n acc t=some v)∧VS (fun _=>True) acc v t.vars t.cnt) (fun t ih hg acc _ hb=>?_) t
 have hp:=t.pos
 have hiv:=iVg_ hg
 rcases nC_ hg with⟨hv,ha⟩ | ⟨hv,hs,_,hall⟩
 ·rw[Tvu_,hv,cond_true]
  have hc:=t.cnt_pos
  refine⟨bif acc.any (fun v=>decide (t.Name=v)) then acc else acc++[t.Name],fun n hn=>?_,fun x=>?_,?_,fun _=>trivial⟩
  ·cases n with
   | zero=>omega
   | succ n=>
    rw[icN_,hiv,hv,ha]
    simp only[ak,aR,Cs_]
    cases acc.any (fun v=>decide (t.Name=v))
    ·simp only[cond_false,cond_true,app]
     rw[if_pos (by simp only[aF,aR]; omega)]; rfl
    ·rfl
  ·cases e:acc.any (fun v=>decide (t.Name=v))
   ·simp
   ·rw[cond_true]
    rw[List.any_eq_true] at e
    obtain⟨y,y1,y2⟩:=e
    have y2:=of_decide_eq_true y2
    refine⟨Or.inl,fun g=>g.elim id fun g=>?_⟩
    rw[List.mem_singleton] at g
    rw[g,y2]; exact y1
  ·cases acc.any (fun v=>decide (t.Name=v))
   ·simp only[cond_false,aE,aF,aR]; omega
   ·simp only[cond_true]; omega
 ·rw[Tvu_,hv,cond_false]
  have hcu:=t.cnt_u
  obtain⟨v,h1,h2,h3,h4⟩:=vl_1 (fun _=>True) (fun n s x=>icN_ n s x) (2*aA t-1) t.Args 0 acc (fun a ha acc _ hb=>by
   obtain⟨v,k1,k2⟩:=ih a ha (hall a ha) acc trivial hb
   exact⟨v,fun n hn=>k1 n (by have:=Tt.lt ha; omega),k2⟩) trivial (by omega)
  refine⟨v,fun n hn=>?_,h2,by omega,h4⟩
  cases n with
  | zero=>omega
  | succ n=>
   rw[icN_,hiv,hv]
   simp only[ak,cond_false,Bool.cond_self,fNi_]
   rw[h1 n (by omega)]; rfl
def Srt(l:List ByteArray):Prop:=l.Pairwise (fun a b=>slt a b=true)
theorem st_2{a b:ByteArray}(h:¬ slt a b=true)(h2:¬ a=b):slt b a=true:=by
 cases e:slt b a
 ·exact absurd (be_ (bLt_1 (by simpa[slt] using h) (by simpa[slt] using e))) h2
 ·rfl
theorem si_1{pre suf:List ByteArray}{x:ByteArray}(h:Srt (pre++suf))(h1:∀ y∈pre,slt y x=true)(h2:∀ y∈suf,slt x y=true):Srt (pre++[x]++suf):=by
 unfold Srt at*
 rw[List.pairwise_append] at h
 rw[List.append_assoc,List.pairwise_append]
 refine⟨h.1,?_,fun a ha b hb=>?_⟩
 ·rw[List.singleton_append,List.pairwise_cons]; exact⟨h2,h.2.1⟩
 ·rw[List.singleton_append,List.mem_cons] at hb
  rcases hb with rfl | hb
  ·exact h1 a ha
  ·exact h.2.2 a ha b hb
theorem ie_{pre suf:List ByteArray}{x:ByteArray}(hb:(pre++suf).length≤1000)(i:Int)(hi:i=(pre.length:Nat)):(ag (slc (pre++suf) 0 i) fun v36=>ag (app ([]) v36) fun v37=>ag (app v37 ([x])) fun v40=>ag (slc (pre++suf) i ((pre++suf).length:Int)) fun v43=>app v40 v43)=some (pre++[x]++suf):=by
 subst hi
 simp only[aE] at hb
 have e1:slc (pre++suf) 0 (pre.length:Int)=some pre:=by unfold slc; rw[if_pos (by simp; omega)]; simp
 have e2:slc (pre++suf) (pre.length:Int) ((pre++suf).length:Int)=some suf:=by unfold slc; rw[if_pos (by simp; omega),Int.toNat_natCast,Int.toNat_natCast,List.take_length,List.drop_left]
 rw[e1,ak]
 have e3:app ([]:List ByteArray) pre=some pre:=by unfold app; rw[if_pos (by simp only[aR]; omega)]; rfl
 have e4:app pre [x]=some (pre++[x]):=by unfold app; rw[if_pos (by simp only[aF,aR]; omega)]
 rw[e3,ak,e4,ak,e2,ak]
 unfold app; rw[if_pos (by simp only[aE,aF,aR]; omega)]
theorem lPo_(acc:List ByteArray)(x:ByteArray)(hs:Srt acc)(hb:acc.length≤1000):∃ v,slP_ acc x=some v∧(∀ y,y∈v↔y∈acc∨y∈[x])∧v.length≤acc.length+1∧Srt v:=by
 unfold slP_
 have key:∀ (suf pre:List ByteArray),pre++suf=acc→(∀ y∈pre,slt y x=true)→∃ v,(thenL (ρ:=(List ByteArray)) (σ:=Unit) (forN (fun (i2:Nat) (s2:Unit)=>
  ag (idx acc (i2:Int)) fun v13=>
  bif Op.bytesLess v13.data.toList x.data.toList then
   some (.nx ())
  else
   ag (idx acc (i2:Int)) fun v27=>
   bif decide (v27=x) then
    some (.rt acc)
   else
    ag (slc acc (0:Int) (i2:Int)) fun v36=>
    ag (app ([]) v36) fun v37=>
    ag (app v37 ([x])) fun v40=>
    ag (slc acc (i2:Int) (acc.length:Int)) fun v43=>
    ag (app v40 v43) fun v44=>
    some (.rt v44)) suf.length pre.length ()) fun s2=>
  ag (slc acc (0:Int) ((acc.length:Nat):Int)) fun v36=>
  ag (app ([]) v36) fun v37=>
  ag (app v37 ([x])) fun v40=>
  ag (slc acc ((acc.length:Nat):Int) (acc.length:Int)) fun v43=>
  ag (app v40 v43) fun v44=>
  some v44)=some v∧(∀ y,y∈v↔y∈acc∨y∈[x])∧v.length≤acc.length+1∧Srt v:=by
  intro suf
  induction suf with
  | nil=>
   intro pre he hp
   rw[List.append_nil] at he
   subst he
   have e:=ie_ (pre:=pre) (suf:=[]) (x:=x) (by simpa using hb) pre.length rfl
   simp only[List.append_nil] at e
   refine⟨pre++[x],?_,fun y=>by simp,by simp,?_⟩
   ·rw[aR,fNz_,tLi_]
    have:=congrArg (fun o=>ag o fun v44=>some v44) e
    simpa only[Option.bind_assoc,ak] using this
   ·have:=si_1 (pre:=pre) (suf:=[]) (x:=x) (by simpa using hs) hp (by simp)
    simpa using this
  | cons s suf ih=>
   intro pre he hp
   have hi:idx acc (pre.length:Int)=some s:=by rw[in_,← he]; simp
   by_cases c1:slt s x=true
   ·rw[aF,fNn_ (s':=()) (by rw[hi,ak]; rw[show Op.bytesLess s.data.toList x.data.toList=true from c1]; rfl)]
    have:=ih (pre++[s]) (by simpa using he) (fun y hy=>by
     rw[List.mem_append,List.mem_singleton] at hy
     rcases hy with hy | rfl
     ·exact hp y hy
     ·exact c1)
    simpa only[aE,aF,aR,Nat.zero_add] using this
   ·have c1':Op.bytesLess s.data.toList x.data.toList=false:=by simpa[slt] using c1
    by_cases c2:s=x
    ·rw[aF,fNr_ (r:=acc) (by rw[hi,ak,c1',cond_false,ak,decide_eq_true c2]; rfl),tLi_1]
     refine⟨acc,rfl,fun y=>⟨Or.inl,fun g=>g.elim id fun g=>?_⟩,by omega,hs⟩
     rw[List.mem_singleton] at g
     rw[g,← he,← c2]; simp
    ·have c3:=st_2 c1 c2
     have e:=ie_ (pre:=pre) (suf:=s::suf) (x:=x) (by rw[he]; exact hb) pre.length rfl
     rw[he] at e
     have e':(ag (slc acc (0:Int) (pre.length:Int)) fun v36=>ag (app ([]) v36) fun v37=>ag (app v37 ([x])) fun v40=>ag (slc acc (pre.length:Int) (acc.length:Int)) fun v43=>ag (app v40 v43) fun v44=>some (Flow.rt (ρ:=List ByteArray) (σ:=Unit) v44))=some (.rt (pre++[x]++s::suf)):=by
      have:=congrArg (fun o=>ag o fun v44=>some (Flow.rt (ρ:=List ByteArray) (σ:=Unit) v44)) e
      simpa only[Option.bind_assoc,ak] using this
     rw[aF,fNr_ (r:=pre++[x]++s::suf) (by rw[hi,ak,c1',cond_false,ak,decide_eq_false c2,cond_false]; exact e'),tLi_1]
     refine⟨_,rfl,fun y=>?_,?_,si_1 (by rw[he]; exact hs) hp (fun y hy=>?_)⟩
     ·rw[← he]; simp only[List.mem_append,List.mem_cons,List.mem_singleton,List.not_mem_nil,or_false]
      constructor
      ·rintro ((g | g) | g)
       ·exact Or.inl (Or.inl g)
       ·exact Or.inr g
       ·exact Or.inl (Or.inr g)
      ·rintro ((g | g) | g)
       ·exact Or.inl (Or.inl g)
       ·exact Or.inr g
       ·exact Or.inl (Or.inr g)
     ·rw[← he]; simp only[aE,aF,aR]; omega
     ·rw[List.mem_cons] at hy
      rcases hy with rfl | hy
      ·exact c3
      ·have hs2:=hs
       rw[← he] at hs2
       unfold Srt at hs2
       rw[List.pairwise_append,List.pairwise_cons] at hs2
       have:=hs2.2.1.1 y hy
       exact bLt_ c3 this
 exact key acc [] rfl (by simp)
theorem lIN_(t:Tt):t.Ok→t.good=true→∀ acc,Srt acc→acc.length+t.cnt≤1000→∃ v,(∀ n,2*aA t≤n→slI_ n acc t=some v)∧VS Srt acc v t.vars t.cnt:=by
 refine Ti_1 (M:=fun t=>t.Ok→t.good=true→∀ acc,Srt acc→acc.length+t.cnt≤1000→∃ v,(∀ n,2*aA t≤n→slI_ n acc t=some v)∧VS Srt acc v t.vars t.cnt) (fun t ih hok hg acc hq hb=>?_) t
 have hp:=t.pos
 have hiv:=lVe_ t.Name hok.u.1
 have hc:=t.cnt_pos
 rcases nC_ hg with⟨hv,ha⟩ | ⟨hv,hs,_,hall⟩
 ·rw[Tvu_,hv,cond_true]
  obtain⟨v,h1,h2,h3,h4⟩:=lPo_ acc t.Name hq (by omega)
  refine⟨v,fun n hn=>?_,h2,by omega,fun _=>h4⟩
  cases n with
  | zero=>omega
  | succ n=>
   rw[slI_,hiv,hv,h1]; rfl
 ·rw[Tvu_,hv,cond_false]
  have hcu:=t.cnt_u
  obtain⟨v,h1,h2,h3,h4⟩:=vl_1 Srt (fun n s x=>slI_ n s x) (2*aA t-1) t.Args 0 acc (fun a ha acc hq hb=>by
   obtain⟨v,k1,k2⟩:=ih a ha (hok.u.2.2 a ha) (hall a ha) acc hq hb
   exact⟨v,fun n hn=>k1 n (by have:=Tt.lt ha; omega),k2⟩) hq (by omega)
  refine⟨v,fun n hn=>?_,h2,by omega,h4⟩
  cases n with
  | zero=>omega
  | succ n=>
   rw[slI_,hiv,hv]
   simp only[ak,cond_false,fNi_]
   rw[h1 n (by omega)]; rfl
theorem co_{t:Tt}(hg:t.good=true)(hc:t.cnt≤1000):∃ v,ic_ [] t=some v∧∀ x,x∈v↔x∈t.vars:=by
 obtain⟨v,h1,h2,_⟩:=cNo_ t hg [] trivial (by simpa using hc)
 exact⟨v,le_ ⟨_,h1⟩,fun x=>by simpa using h2 x⟩
theorem lVo_{t:Tt}(hok:t.Ok)(hg:t.good=true)(hc:t.cnt≤1000):∃ v,slV_1 t=some v∧(∀ x,x∈v↔x∈t.vars)∧Srt v:=by
 obtain⟨v,h1,h2,_,h3⟩:=lIN_ t hok hg [] List.Pairwise.nil (by simpa using hc)
 refine⟨v,?_,fun x=>by simpa using h2 x,h3 List.Pairwise.nil⟩
 unfold slV_1
 rw[show slI_3 [] t=some v from le_ ⟨_,h1⟩]; rfl
theorem lo_{v w:List ByteArray}(h:∀ x,x∈v↔x∈w):decide ((v.length:Int)=0)=w.isEmpty:=by
 rw[iEd_]
 cases v with
 | nil=>
  cases w with
  | nil=>rfl
  | cons b w=>exact absurd ((h b).2 (by simp)) (by simp)
 | cons a v=>
  cases w with
  | nil=>exact absurd ((h a).1 (by simp)) (by simp)
  | cons b w=>rfl
end
section
mutual
def cmpR:Tt→Tt→Int
 | .mk n l,.mk m k=>if iVS_ n=iVS_ m then(if n=m then(if l.length<k.length then -1 else if k.length<l.length then 1 else cmpRs l k) else cmpS n m) else(if iVS_ n=true then -1 else 1)
def cmpRs:List Tt→List Tt→Int
 | a::l,b::k=>if cmpR a b=0 then cmpRs l k else cmpR a b
 | [],_=>0
 | _::_,[]=>0
end
end
section
def gndT(t:Tt):Bool:=goodT t&&t.vars.isEmpty
theorem gTu_{t:Tt}(h:goodT t=true):t.good=true∧t.cnt≤1000:=by
 unfold goodT sT_ at h
 simp only[au,decide_eq_true_eq] at h
 exact⟨h.2,by omega⟩
theorem iGe_(t:Tt)(h:t.tot≤1048576)(hok:t.Ok):iiG_ t=some (gndT t):=by
 unfold iiG_ gndT
 rw[IVT_ t h hok,ak]
 cases hg:goodT t
 ·rfl
 ·obtain⟨v,h1,h2⟩:=co_ (gTu_ hg).1 (gTu_ hg).2
  rw[cond_true,h1,ak,lo_ h2]; rfl
theorem nGe_(t:Tt)(h:t.tot≤1048576)(hok:t.Ok):inG_ t=some (!gndT t):=by
 unfold inG_; rw[iGe_ t h hok]; rfl
theorem gs_1(t:Tt)(hok:t.Ok)(hg:goodT t=true):slG_1 t=some t.vars.isEmpty:=by
 obtain⟨v,h1,h2,_⟩:=lVo_ hok (gTu_ hg).1 (gTu_ hg).2
 unfold slG_1
 rw[h1,ak,lo_ h2]
theorem tot_mem{l:List Tt}{a:Tt}(h:a∈l):a.tot≤ltot Tt.tot l:=by
 have:=lsm_ Tt.tot h
 unfold ltot; omega
theorem contF{p:Tt→Bool}{f:Tt→Option Bool}(l:List Tt)(h:∀ a∈l,f a=some (!p a)):sCF_ l f=some (!l.all p):=by
 unfold sCF_ sIF_
 rw[fl_ (p:=fun a=>!p a) l h,List.all_eq_not_any_not,Bool.not_not]
end
section
theorem mapL{α β ρ:Type}{f:α→Option β}{g:α→β}:∀ (l:List α) (i:Nat) (s:List β),(∀ a∈l,f a=some (g a))→s.length+l.length≤1073741824→
 forL (ρ:=ρ) (fun _ x (s:List β)=>(f x).bind fun v=>(app s [v]).bind fun w=>some (.nx w)) l i s=some (.inr (s++l.map g))
 | [],i,s,_,_=>by simp[forL]
 | a::l,i,s,h,hb=>by
  simp only[aF] at hb
  rw[fLn_ (s':=s++[g a]) (by rw[h a (by simp),ak]; unfold app; rw[if_pos (by simp only[aF,aR]; omega)]; rfl),
   mapL l (i+1) _ (fun b hb=>h b (by simp[hb])) (by simp only[aE,aF,aR]; omega)]
  simp
theorem cl_1:∀ l:List Tt,l.length≤Tc_ l
 | []=>by simp
 | a::l=>by have:=cl_1 l; have:=a.cnt_pos; simp only[Tc_,aF]; omega
theorem cm_{a:Tt}:∀ {l:List Tt},a∈l→a.cnt≤Tc_ l
 | b::l,h=>by
  simp only[Tc_]
  rcases List.mem_cons.1 h with rfl | h
  ·omega
  ·have:=cm_ h; omega
theorem ownTN(t:Tt):t.cnt≤10000000→∀ n,2*aA t≤n→slO_ n t=some t:=by
 refine Ti_1 (M:=fun t=>t.cnt≤10000000→∀ n,2*aA t≤n→slO_ n t=some t) (fun t ih hc n hn=>?_) t
 have hp:=t.pos
 have hu:=t.cnt_u
 have hl:=cl_1 t.Args
 cases n with
 | zero=>omega
 | succ n=>
  rw[slO_]
  simp only[fNi_]
  rw[mapL (f:=slO_ n) (g:=fun x=>x) t.Args 0 [] (fun a ha=>ih a ha (by have:=cm_ ha; omega) n (by have:=Tt.lt ha; omega)) (by simp; omega),tLi_]
  simp[t.eta]
theorem ownT(t:Tt)(h:t.cnt≤10000000):slO_1 t=some t:=le_ ⟨_,ownTN t h⟩
theorem cT_(t:Tt):t.cnt≤10000000→∀ n,3*aA t≤n→icT_ n t=some t:=by
 refine Ti_1 (M:=fun t=>t.cnt≤10000000→∀ n,3*aA t≤n→icT_ n t=some t) (fun t ih hc n hn=>?_) t
 have hp:=t.pos
 have hu:=t.cnt_u
 have hl:=cl_1 t.Args
 obtain⟨m,rfl⟩:∃ m,n=m+2:=⟨n-2,by omega⟩
 show icT_ (m+2) _=_
 rw[icT_]
 show ag (icT_1 (m+1) t.Args) _=_
 rw[icT_1,iEd_]
 cases he:t.Args.isEmpty
 ·rw[cond_false,toL (f:=icT_ m) (g:=fun x=>x) (z:=(Tt.mk (⟨#[]⟩:ByteArray) ([]))) (xs:=t.Args) (fun a ha=>ih a ha (by have:=cm_ ha; omega) m (by have:=Tt.lt ha; omega)) (by omega)]
  simp[t.eta]
 ·have h0:t.Args=[]:=by simpa using he
  rw[cond_true,ak]
  conv=>rhs; rw[← t.eta,h0]
theorem copyT(t:Tt)(h:t.cnt≤10000000):icT_5 t=some t:=le_ ⟨_,cT_ t h⟩
theorem cT_1(l:List Tt)(h:∀ t∈l,t.cnt≤10000000)(hl:l.length≤1073741824):icT_2 l=some l:=by
 refine le_ ⟨3*aA l+1,fun n hn=>?_⟩
 obtain⟨m,rfl⟩:∃ m,n=m+1:=⟨n-1,by omega⟩
 show icT_1 (m+1) l=_
 rw[icT_1,iEd_]
 cases he:l.isEmpty
 ·rw[cond_false,toL (f:=icT_ m) (g:=fun x=>x) (z:=(Tt.mk (⟨#[]⟩:ByteArray) ([]))) (xs:=l) (fun a ha=>cT_ a (h a ha) m (by have:=List.sizeOf_lt_of_mem ha; omega)) hl]
  simp
 ·have h0:l=[]:=by simpa using he
  rw[h0]; rfl
theorem cot_{t:Tt}(h:t.tot≤1048576):t.cnt≤10000000:=by have:=Tct_ t; omega
mutual
def sbT(n:ByteArray)(t:Tt):Tt→Tt
 | .mk x l=>bif l.isEmpty&&decide (x=n) then t else .mk x (sbTs n t l)
def sbTs(n:ByteArray)(t:Tt):List Tt→List Tt
 | []=>[]
 | a::l=>sbT n t a::sbTs n t l
end
mutual
def Tt.occ(v:ByteArray):Tt→Nat
 | .mk x l=>(bif decide (x=v) then 1 else 0)+To_ v l
def To_(v:ByteArray):List Tt→Nat
 | []=>0
 | a::l=>a.occ v+To_ v l
end
end
section
theorem ts_{l:List Tt}(hok:LOk Tt.Ok l)(ht:∀ a∈l,a.tot≤1048576):slT_ l=some (decide (l.length≤60)&&l.all gndT):=by
 unfold slT_
 rw[fNa_ (fun j=>decide (j≤60)&&gndT (l.getD j default)) (r0:=false)]
 ·by_cases h:l.length≤60
  ·rw[decide_eq_true (show(l.length:Int)≤60 by omega),decide_eq_true h,Bool.true_and,ral_2 l (fun j=>decide (j≤60)&&gndT (l.getD j default)) gndT (fun i hi=>by rw[decide_eq_true (show i≤60 by omega),Bool.true_and])]
   cases l.all gndT<;>rfl
  ·rw[decide_eq_false (show ¬ (l.length:Int)≤60 by omega),decide_eq_false h]
   cases (List.range l.length).all fun j=>decide (j≤60)&&gndT (l.getD j default)<;>rfl
 ·intro j hj _
  have hm:=gDm_ hj
  by_cases c:j≤60
  ·rw[decide_eq_true (show(j:Int)≤60 by omega),cond_true,igD_ hj,ak,lGo_ _ (ht _ hm) (hok.2 _ hm),ak,decide_eq_true c,Bool.true_and]
   unfold gndT
   cases hg:goodT (l.getD j default)
   ·rfl
   ·rw[cond_true,ak,gs_1 _ (hok.2 _ hm) hg,ak]
    cases (l.getD j default).vars.isEmpty<;>rfl
  ·rw[decide_eq_false (show ¬ (j:Int)≤60 by omega),decide_eq_false c,decide_eq_false (show ¬ (l.length:Int)≤60 by omega)]; rfl
theorem si_2(a b:List Tt):sEF_ a b (fun y0 y1=>iET_1 y0 y1)=some (same a b):=by
 unfold sEF_
 rw[ld_]
 by_cases h:a.length=b.length
 ·rw[decide_eq_true h,cond_true]
  exact sl_ _ a b h (fun x _ y=>ETo_ x y)
 ·rw[decide_eq_false h,sl_1 h]; rfl
theorem ss_1(a b:List Tt):slS_4 a b=some (same a b):=by
 unfold slS_4
 rw[ld_]
 by_cases h:a.length=b.length
 ·rw[decide_eq_true h,cond_true]
  exact sl_ _ a b h (fun x _ y=>lSo_ x y)
 ·rw[decide_eq_false h,sl_1 h]; rfl
end
section
def hole:Tt:=⟨⟨#[65]⟩,[]⟩
noncomputable def genL(R:Nat→Tt×List Tt)(w:List Tt):Nat→Nat→List Tt→List Tt→(Tt×List Tt) ⊕ (List Tt×List Tt)
 | 0,_,o,s=>.inr (o,s)
 | k+1,i,o,s=>bif (R i).2.isEmpty then genL R w k (i+1) (o++[(R i).1]) s else bif s.isEmpty||same s (R i).2 then genL R w k (i+1) (o++[(R i).1]) (R i).2 else .inl (hole,w)
theorem app1{α:Type}(xs:List α)(x:α)(h:xs.length+1≤1073741824):app xs [x]=some (xs++[x]):=by
 unfold app; rw[if_pos (by simp only[aF,aR]; omega)]
theorem gi_{R:Nat→Tt×List Tt}{w:List Tt}{F:Nat→List Tt×List Tt→Option (Flow (Tt×List Tt) (List Tt×List Tt))}{N:Nat}
 (h:∀ i o s,i<N→o.length≤100000000→F i (o,s)=some (bif (R i).2.isEmpty then .nx (o++[(R i).1],s) else bif s.isEmpty||same s (R i).2 then .nx (o++[(R i).1],(R i).2) else .rt (hole,w))):
 ∀ (k i:Nat) (o s:List Tt),i+k≤N→o.length+k≤100000000→forN F k i (o,s)=some (genL R w k i o s)
 | 0,i,o,s,_,_=>rfl
 | k+1,i,o,s,hi,ho=>by
  have h0:=h i o s (by omega) (by omega)
  rw[genL]
  cases e:(R i).2.isEmpty
  ·rw[e,cond_false] at h0
   cases e2:(s.isEmpty||same s (R i).2)
   ·rw[e2,cond_false] at h0
    rw[fNr_ (r:=(hole,w)) h0]; rfl
   ·rw[e2,cond_true] at h0
    rw[fNn_ (s':=(o++[(R i).1],(R i).2)) h0,gi_ h k (i+1) _ _ (by omega) (by simp only[aE,aF,aR]; omega)]; rfl
  ·rw[e,cond_true] at h0
   rw[fNn_ (s':=(o++[(R i).1],s)) h0,gi_ h k (i+1) _ _ (by omega) (by simp only[aE,aF,aR]; omega)]; rfl
def swp:(Tt×List Tt) ⊕ (List Tt×List Tt)→(Tt×List Tt) ⊕ (List Tt×List Tt)
 | .inl r=>.inl r
 | .inr (o,s)=>.inr (s,o)
theorem gs_{R:Nat→Tt×List Tt}{w:List Tt}{F:Nat→List Tt×List Tt→Option (Flow (Tt×List Tt) (List Tt×List Tt))}{N:Nat}
 (h:∀ i o s,i<N→o.length≤100000000→F i (s,o)=some (bif (R i).2.isEmpty then .nx (s,o++[(R i).1]) else bif s.isEmpty||same s (R i).2 then .nx ((R i).2,o++[(R i).1]) else .rt (hole,w))):
 ∀ (k i:Nat) (o s:List Tt),i+k≤N→o.length+k≤100000000→forN F k i (s,o)=some (swp (genL R w k i o s))
 | 0,i,o,s,_,_=>rfl
 | k+1,i,o,s,hi,ho=>by
  have h0:=h i o s (by omega) (by omega)
  rw[genL]
  cases e:(R i).2.isEmpty
  ·rw[e,cond_false] at h0
   cases e2:(s.isEmpty||same s (R i).2)
   ·rw[e2,cond_false] at h0
    rw[fNr_ (r:=(hole,w)) h0]; rfl
   ·rw[e2,cond_true] at h0
    rw[fNn_ (s':=((R i).2,o++[(R i).1])) h0,gs_ h k (i+1) _ _ (by omega) (by simp only[aE,aF,aR]; omega)]; rfl
  ·rw[e,cond_true] at h0
   rw[fNn_ (s':=(s,o++[(R i).1])) h0,gs_ h k (i+1) _ _ (by omega) (by simp only[aE,aF,aR]; omega)]; rfl
theorem gLf_{R:Nat→Tt×List Tt}{w:List Tt}{c:Nat→Nat}{B:Nat}(hR:∀ i,(R i).1.cnt≤c i∧Tc_ (R i).2≤B):∀ (k i:Nat) (o s:List Tt),Tc_ s≤B→
 (match genL R w k i o s with
 | .inl r=>r=(hole,w)
 | .inr (o',s')=>Tc_ o'≤Tc_ o+((List.range k).map fun j=>c (i+j)).sum∧Tc_ s'≤B)
 | 0,i,o,s,hs=>by simp[genL,hs]
 | k+1,i,o,s,hs=>by
  have step:∀ s2,Tc_ s2≤B→(match genL R w k (i+1) (o++[(R i).1]) s2 with
   | .inl r=>r=(hole,w)
   | .inr (o',s')=>Tc_ o'≤Tc_ o+((List.range (k+1)).map fun j=>c (i+j)).sum∧Tc_ s'≤B):=fun s2 h2=>by
   have:=gLf_ (w:=w) (c:=c) hR k (i+1) (o++[(R i).1]) s2 h2
   revert this
   cases genL R w k (i+1) (o++[(R i).1]) s2 with
   | inl r=>exact id
   | inr p=>
    obtain⟨o',s'⟩:=p
    rintro ⟨h1,h3⟩
    refine⟨?_,h3⟩
    have e1:Tc_ (o++[(R i).1])=Tc_ o+(R i).1.cnt:=by rw[Tce_,Tce_]; simp
    have e2:=(hR i).1
    rw[List.range_succ_eq_map,aD,a7,List.map_map]
    have e3:((List.range k).map ((fun j=>c (i+j))∘Nat.succ))=(List.range k).map fun j=>c (i+1+j):=List.map_congr_left fun j _=>by
     show c (i+(j+1))=c (i+1+j); congr 1; omega
    rw[e3]
    simp only[Nat.add_zero]
    omega
  rw[genL]
  cases (R i).2.isEmpty
  ·cases s.isEmpty||same s (R i).2
   ·rfl
   ·exact step _ (hR i).2
  ·exact step _ hs
def col(l:List Tt)(i:Nat):List Tt:=l.map fun y=>y.Args.getD i default
theorem dep_u(t:Tt):t.dep=1+Td_ t.Args:=by cases t; exact Tdm_ _ _
theorem dm_{a:Tt}:∀ {l:List Tt},a∈l→a.dep≤Td_ l
 | [],h=>by simp at h
 | b::l,h=>by
  simp only[Td_]
  rcases List.mem_cons.1 h with rfl | h
  ·exact Nat.le_max_left _ _
  ·have:=dm_ h; exact Nat.le_trans this (Nat.le_max_right _ _)
theorem cs_1{l:List Tt}(h:∀ t∈l,t.cnt≤10000000)(hl:l.length≤1073741824):slC_ l=some l:=by
 unfold slC_
 simp only[fNi_]
 rw[mapL (f:=slO_1) (g:=id) l 0 [] (fun a ha=>ownT a (h a ha)) (by simpa using hl),tLi_]
 simp
theorem al_{x:Tt}{F:Nat→Bool×Bool→Option (Flow (Tt×List Tt) (Bool×Bool))}{l:List Tt}
 (h:∀ pre y rest e a,l=pre++y::rest→F pre.length (e,a)=some (.nx (e&&same x y,a&&(decide (y.Name=x.Name)&&decide (y.Args.length=x.Args.length))))):
 ∀ (rest pre:List Tt) (e a:Bool),l=pre++rest→forN F rest.length pre.length (e,a)=some (.inr (e&&rest.all (fun y=>same x y),a&&rest.all (fun y=>decide (y.Name=x.Name)&&decide (y.Args.length=x.Args.length))))
 | [],pre,e,a,_=>by simp[fNz_]
 | y::rest,pre,e,a,hl=>by
  rw[aF,fNn_ (s':=(e&&same x y,a&&(decide (y.Name=x.Name)&&decide (y.Args.length=x.Args.length)))) (h pre y rest e a hl)]
  have:=al_ h rest (pre++[y]) (e&&same x y) (a&&(decide (y.Name=x.Name)&&decide (y.Args.length=x.Args.length))) (by simpa using hl)
  rw[aE,aF,aR] at this
  rw[this,List.all_cons,List.all_cons,Bool.and_assoc,Bool.and_assoc]
theorem sr_{α:Type}(a:α):same a a=true:=si_.2 rfl
theorem gb_:∀ (d:Nat) (x:Tt) (xs:List Tt),x.dep≤d→(∀ y∈x::xs,y.tot≤1048576)→(x::xs).length≤1000→
 ∃ r:Tt×List Tt,(∀ n,d≤n→igN_ n (x::xs)=some r∧slG_ n (x::xs)=some r)∧r.1.cnt≤x.cnt∧Tc_ r.2≤Tc_ (x::xs)
 | 0,x,xs,h,_,_=>by rw[dep_u] at h; omega
 | d+1,x,xs,hd,ht,hl=>by
  have hc:∀ y∈x::xs,y.cnt≤10000000:=fun y hy=>cot_ (ht y hy)
  have hx:=ht x (by simp)
  have hargs:x.Args.length≤1048576:=by
   have h1:=ll_ Tt.tot x.Args
   have h2:=x.tot_u
   omega
  have hcp:=cT_1 (x::xs) hc (by omega)
  have hsp:=cs_1 hc (show(x::xs).length≤1073741824 by omega)
  -- the columns
  have alk:(xs.all fun y=>decide (y.Name=x.Name)&&decide (y.Args.length=x.Args.length))=true→∀ y∈x::xs,y.Args.length=x.Args.length:=fun h y hy=>by
   rcases List.mem_cons.1 hy with rfl | hy
   ·rfl
   ·have:=List.all_eq_true.1 h y hy
    rw[au,decide_eq_true_eq,decide_eq_true_eq] at this
    exact this.2
  have IH:(xs.all fun y=>decide (y.Name=x.Name)&&decide (y.Args.length=x.Args.length))=true→∀ i,i<x.Args.length→∃ r:Tt×List Tt,(∀ n,d≤n→igN_ n (col (x::xs) i)=some r∧slG_ n (col (x::xs) i)=some r)∧r.1.cnt≤(x.Args.getD i default).cnt∧Tc_ r.2≤Tc_ (x::xs):=fun h i hi=>by
   have mem:∀ y∈x::xs,y.Args.getD i default∈y.Args:=fun y hy=>gDm_ (by rw[alk h y hy]; exact hi)
   obtain⟨r,h1,h2,h3⟩:=gb_ d (x.Args.getD i default) (xs.map fun y=>y.Args.getD i default) (by
    have:=dm_ (mem x (by simp)); rw[dep_u] at hd; omega) (fun z hz=>by
    have:z∈col (x::xs) i:=hz
    obtain⟨y,hy,rfl⟩:=List.mem_map.1 this
    have h4:=Go.Av.tot_mem Tt.tot (mem y hy)
    have h5:=y.tot_u
    have h6:=ht y hy
    omega) (by simpa using hl)
   refine⟨r,h1,h2,Nat.le_trans h3 ?_⟩
   have key:∀ l:List Tt,(∀ y∈l,y.Args.getD i default∈y.Args)→Tc_ (l.map fun y=>y.Args.getD i default)≤Tc_ l:=fun l=>by
    induction l with
    | nil=>intro _; exact aQ _
    | cons y l ih=>
     intro hm
     have h7:=cm_ (hm y (by simp))
     have h8:=y.cnt_u
     have h9:=ih (fun z hz=>hm z (by simp[hz]))
     simp only[aD,Tc_]
     omega
   exact key (x::xs) mem
  obtain⟨R,hR⟩:∃ R:Nat→Tt×List Tt,(xs.all fun y=>decide (y.Name=x.Name)&&decide (y.Args.length=x.Args.length))=true→(∀ i,i<x.Args.length→∀ n,d≤n→igN_ n (col (x::xs) i)=some (R i)∧slG_ n (col (x::xs) i)=some (R i))∧
   ∀ i,(R i).1.cnt≤(bif decide (i<x.Args.length) then(x.Args.getD i default).cnt else 1)∧Tc_ (R i).2≤Tc_ (x::xs):=by
   by_cases h:(xs.all fun y=>decide (y.Name=x.Name)&&decide (y.Args.length=x.Args.length))=true
   ·refine⟨fun i=>if hi:i<x.Args.length then(IH h i hi).choose else(hole,[]),fun _=>⟨fun i hi n hn=>?_,fun i=>?_⟩⟩
    ·simp only[dif_pos hi]
     exact(IH h i hi).choose_spec.1 n hn
    ·by_cases hi:i<x.Args.length
     ·simp only[dif_pos hi,decide_eq_true hi,cond_true]
      exact(IH h i hi).choose_spec.2
     ·simp only[dif_neg hi,decide_eq_false hi,cond_false]
      exact⟨by decide,Nat.zero_le _⟩
   ·exact⟨fun _=>(hole,[]),fun h'=>absurd h' h⟩
  have hEq:sCF_ (x::xs) (fun y0=>ig1_ y0 x)=some (!xs.all fun y=>same x y):=by
   unfold sCF_ sIF_
   rw[fl_ (p:=fun y=>!same y x) (x::xs) (fun a _=>by unfold ig1_; rw[ETo_]; rfl),List.any_cons,sr_,List.all_eq_not_any_not]
   simp only[sc_1 x,Bool.not_true,Bool.false_or,Bool.not_not]
  have hAl:sCF_ (x::xs) (fun y0=>ig2_ y0 x)=some (!xs.all fun y=>decide (y.Name=x.Name)&&decide (y.Args.length=x.Args.length)):=by
   unfold sCF_ sIF_
   rw[fl_ (p:=fun y=>!(decide (y.Name=x.Name)&&decide (y.Args.length=x.Args.length))) (x::xs) (fun a _=>by
    unfold ig2_
    rw[ld_]
    cases decide (a.Name=x.Name)<;>rfl),List.any_cons,List.all_eq_not_any_not]
   simp
  have hLoop:∀ (k:Bool×Bool→Option (Tt×List Tt)),thenL (ρ:=(Tt×(List Tt))) (σ:=Bool×Bool) (forN (fun (i4:Nat) (s4:Bool×Bool)=>
   bif s4.1 then
    ag (idx (x::xs) (i4:Int)) fun v30=>
    ag (slS_3 x v30) fun v32=>
    bif s4.2 then
     ag (idx (x::xs) (i4:Int)) fun v38=>
     bif decide (v38.Name=x.Name) then
      ag (idx (x::xs) (i4:Int)) fun v48=>
      some (.nx (v32,decide ((v48.Args.length:Int)=(x.Args.length:Int))))
     else
      some (.nx (v32,false))
    else
     some (.nx (v32,false))
   else
    bif s4.2 then
     ag (idx (x::xs) (i4:Int)) fun v38=>
     bif decide (v38.Name=x.Name) then
      ag (idx (x::xs) (i4:Int)) fun v48=>
      some (.nx (false,decide ((v48.Args.length:Int)=(x.Args.length:Int))))
     else
      some (.nx (false,false))
    else
     some (.nx (false,false))) ((x::xs).length-1) 1 (true,true)) k=k (xs.all (fun y=>same x y),xs.all (fun y=>decide (y.Name=x.Name)&&decide (y.Args.length=x.Args.length))):=fun k=>by
   have:=al_ (x:=x) (l:=x::xs) (F:=fun (i4:Nat) (s4:Bool×Bool)=>
    bif s4.1 then
     ag (idx (x::xs) (i4:Int)) fun v30=>
     ag (slS_3 x v30) fun v32=>
     bif s4.2 then
      ag (idx (x::xs) (i4:Int)) fun v38=>
      bif decide (v38.Name=x.Name) then
       ag (idx (x::xs) (i4:Int)) fun v48=>
       some (.nx (v32,decide ((v48.Args.length:Int)=(x.Args.length:Int))))
      else
       some (.nx (v32,false))
     else
      some (.nx (v32,false))
    else
     bif s4.2 then
      ag (idx (x::xs) (i4:Int)) fun v38=>
      bif decide (v38.Name=x.Name) then
       ag (idx (x::xs) (i4:Int)) fun v48=>
       some (.nx (false,decide ((v48.Args.length:Int)=(x.Args.length:Int))))
      else
       some (.nx (false,false))
     else
      some (.nx (false,false))) (fun pre y rest e a hl=>by
    have hi:idx (x::xs) (pre.length:Int)=some y:=by rw[hl]; exact im_ _ _ _
    simp only[hi,ak,lSo_,ld_]
    cases e<;>cases a<;>cases decide (y.Name=x.Name)<;>rfl) xs [x] true true rfl
   simp only[aF,aR,Nat.zero_add] at this
   rw[show(x::xs).length-1=xs.length by simp,this,tLi_,Bool.true_and,Bool.true_and]
  have hxc:=x.cnt_u
  cases hE:xs.all fun y=>same x y
  ·cases hA:xs.all fun y=>decide (y.Name=x.Name)&&decide (y.Args.length=x.Args.length)
   ·-- not alike
    refine⟨(hole,x::xs),fun (n:Nat) hn=>?_,by show 1+0≤x.cnt; omega,aQ _⟩
    obtain⟨m,rfl⟩:∃ m,n=m+1:=⟨n-1,by omega⟩
    constructor
    ·rw[igN_,show idx (x::xs) (0:Int)=some x from rfl,ak,hEq,ak,hE,hAl,hA,hcp]
     rfl
    ·rw[slG_,show idx (x::xs) (0:Int)=some x from rfl,ak,hLoop,hE,hA,hsp]
     rfl
   ·obtain⟨hR1,hR2⟩:=hR hA
    have fine:=gLf_ (w:=x::xs) (c:=fun i=>bif decide (i<x.Args.length) then(x.Args.getD i default).cnt else 1) hR2 x.Args.length 0 [] [] (Nat.zero_le _)
    have hsum:((List.range x.Args.length).map fun j=>bif decide (0+j<x.Args.length) then(x.Args.getD (0+j) default).cnt else 1).sum=Tc_ x.Args:=by
     have e1:((List.range x.Args.length).map fun j=>bif decide (0+j<x.Args.length) then(x.Args.getD (0+j) default).cnt else 1)=(List.range x.Args.length).map fun j=>(x.Args.getD j default).cnt:=List.map_congr_left fun j hj=>by
      have:=List.mem_range.1 hj
      rw[Nat.zero_add,decide_eq_true this]; rfl
     rw[e1,Tce_]
     congr 1
     refine List.ext_getElem (by simp) fun j h1 h2=>?_
     simp only[List.length_map,List.length_range] at h1
     simp[List.getD,h1]
    rw[hsum] at fine
    have column:∀ (ρ:Type) i,i<x.Args.length→forN (ρ:=ρ) (fun (i14:Nat) (s14:List Tt)=>ag (idx (x::xs) (i14:Int)) fun v44=>ag (idx v44.Args (i:Int)) fun v50=>ag (app s14 ([v50])) fun v53=>some (.nx v53)) (x::xs).length 0 []=some (.inr (col (x::xs) i)):=fun ρ i hi=>by
     have e0:=fNi_ (ρ:=ρ) (x::xs) (fun _ v44 s14=>ag (idx v44.Args (i:Int)) fun v50=>ag (app s14 ([v50])) fun v53=>some (.nx v53)) []
     rw[e0,mapL (f:=fun v:Tt=>idx v.Args (i:Int)) (g:=fun v=>v.Args.getD i default) (x::xs) 0 [] (fun a ha=>igD_ (by rw[alk hA a ha]; exact hi)) (by simp only[aR]; omega),List.nil_append]
     rfl
    refine⟨match genL R (x::xs) x.Args.length 0 [] [] with | .inl r=>r | .inr (o,s)=>(⟨x.Name,o⟩,s),fun (n:Nat) hn=>?_,?_⟩
    ·obtain⟨m,rfl⟩:∃ m,n=m+1:=⟨n-1,by omega⟩
     constructor
     ·rw[igN_,show idx (x::xs) (0:Int)=some x from rfl,ak,hEq,ak,hE,hAl,ak,hA]
      simp only[Bool.not_false,Bool.not_true,cond_true,cond_false]
      rw[gi_ (R:=R) (w:=x::xs) (N:=x.Args.length) (fun i o s hi ho=>?_) x.Args.length 0 [] [] (by omega) (by simp only[aR]; omega)]
      ·cases genL R (x::xs) x.Args.length 0 [] [] with
       | inl r=>rfl
       | inr p=>rfl
      ·rw[column _ i hi,tLi_,(hR1 i hi m (by omega)).1,ak,app1 o _ (by omega),ak,si_2,hcp]
       cases (R i).2.isEmpty
       ·cases s.isEmpty
        ·cases same s (R i).2<;>rfl
        ·rfl
       ·rfl
     ·rw[slG_,show idx (x::xs) (0:Int)=some x from rfl,ak,hLoop,hE,hA]
      simp only[cond_true,cond_false]
      rw[gs_ (R:=R) (w:=x::xs) (N:=x.Args.length) (fun i o s hi ho=>?_) x.Args.length 0 [] [] (by omega) (by simp only[aR]; omega)]
      ·cases genL R (x::xs) x.Args.length 0 [] [] with
       | inl r=>rfl
       | inr p=>rfl
      ·have ne:∀ l:List Tt,decide ((0:Int)<(l.length:Int))=!l.isEmpty:=fun l=>by cases l<;>simp
       rw[column _ i hi,tLi_,(hR1 i hi m (by omega)).2,ak,app1 o _ (by omega),ne,ne,ss_1,hsp]
       cases (R i).2.isEmpty
       ·cases s.isEmpty
        ·cases same s (R i).2<;>rfl
        ·rfl
       ·rfl
    ·revert fine
     cases genL R (x::xs) x.Args.length 0 [] [] with
     | inl r=>
      intro e; subst e
      exact⟨by show 1+0≤x.cnt; omega,aQ _⟩
     | inr p=>
      obtain⟨o,s⟩:=p
      rintro ⟨h1,h2⟩
      refine⟨?_,h2⟩
      show(⟨x.Name,o⟩:Tt).cnt≤x.cnt
      rw[Tt.cnt_u]
      have:Tc_ ([]:List Tt)=0:=rfl
      show 1+Tc_ o≤_
      omega
  ·refine⟨(x,[]),fun (n:Nat) hn=>?_,aQ _,Nat.zero_le _⟩
   obtain⟨m,rfl⟩:∃ m,n=m+1:=⟨n-1,by omega⟩
   constructor
   ·rw[igN_,show idx (x::xs) (0:Int)=some x from rfl,ak,hEq,ak,hE,copyT x (hc x (by simp))]
    rfl
   ·rw[slG_,show idx (x::xs) (0:Int)=some x from rfl,ak,hLoop,hE,ownT x (hc x (by simp))]
    rfl
end
section
theorem cc_5(t:Tt):Tt.cn t=t.cnt:=by
 refine Ti_1 (M:=fun t=>Tt.cn t=t.cnt) (fun t ih=>?_) t
 have key:∀ l:List Tt,(∀ a∈l,Tt.cn a=a.cnt)→lcn Tt.cn l=Tc_ l:=fun l=>by
  induction l with
  | nil=>intro _; rfl
  | cons a l ihl=>
   intro h
   rw[lc_,h a (by simp),ihl (fun b hb=>h b (by simp[hb]))]; rfl
 rw[Tcu_,t.cnt_u,key t.Args ih]
theorem lc_1:∀ l:List Tt,lcn Tt.cn l=Tc_ l
 | []=>rfl
 | a::l=>by rw[lc_,cc_5,lc_1 l]; rfl
theorem ct_:∀ l:List Tt,Tc_ l≤ltot Tt.tot l
 | []=>Nat.zero_le _
 | a::l=>by
  have h1:=ct_ l
  have h2:=Tct_ a
  simp only[ltot,aF,aD,a7,Tc_] at*
  omega
theorem FnExactGeneralizeTerms_true(l:List Tt)(hl:LOk Tt.Ok l):FnExactGeneralizeTerms l=some true:=by
 unfold FnExactGeneralizeTerms
 rw[sTS_4 l hl _ (by omega) (by omega),ak]
 by_cases e:szR (ltot Tt.tot l) 1048576<0
 ·rw[decide_eq_true e]; rfl
 have ht:=sRo_ e
 rw[decide_eq_false e,cond_false]
 have tm:∀ a∈l,a.tot≤1048576:=fun a ha=>by have:=tot_mem ha; omega
 have w0:=ct_ l
 have key:∃ r:Tt×List Tt×Bool,iGT_ l=some r∧sGT_ l=some r∧r.1.cnt≤1048577∧Tc_ r.2.1≤1048576:=by
  have z:(⟨⟨#[]⟩,[]⟩:Tt).cnt≤1048577:=by rw[Tt.cnt_u]; show 1+0≤_; omega
  unfold iGT_ sGT_
  rw[we_,lIe_,ak,ak,ts_ hl tm,contF l (fun a ha=>nGe_ a (tm a ha) (hl.2 a ha))]
  cases hi:inR (l.length:Int) 1 6
  ·exact⟨_,rfl,rfl,z,Nat.zero_le _⟩
  have hlen:1≤l.length∧l.length≤6:=by
   unfold inR at hi
   simp only[au,decide_eq_true_eq] at hi
   omega
  rw[cond_true,cond_true,ak,ak,decide_eq_true (show l.length≤60 by omega),Bool.true_and]
  cases hg:l.all gndT
  ·exact⟨_,rfl,rfl,z,Nat.zero_le _⟩
  cases l with
  | nil=>simp at hlen
  | cons x xs=>
   obtain⟨r,h1,h2,h3⟩:=gb_ x.dep x xs (aQ _) tm (by omega)
   have g1:ig_ (x::xs)=some r:=le_ ⟨x.dep,fun n hn=>(h1 n hn).1⟩
   have g2:slG_3 (x::xs)=some r:=le_ ⟨x.dep,fun n hn=>(h1 n hn).2⟩
   have hx:=Tct_ x
   have hx2:=tm x (by simp)
   rw[Bool.not_true,cond_false,cond_true,g1,g2]
   exact⟨_,rfl,rfl,by show r.1.cnt≤_; omega,by show Tc_ r.2≤_; omega⟩
 obtain⟨⟨r1,r2,r3⟩,h1,h2,h3,h4⟩:=key
 simp only at h3 h4
 have c1:lcn Tt.cn r1.Args≤1048577:=by rw[lc_1]; have:=r1.cnt_u; omega
 have c2:lcn Tt.cn r2≤1048576:=by rw[lc_1]; exact h4
 have c0:lcn Tt.cn l≤1048576:=by rw[lc_1]; omega
 obtain⟨y0,m0,_⟩:=(mTS_1 l).unit (k:=1) (by omega) (by omega)
 obtain⟨y1,m1,n1⟩:=mTh_ r1 (k:=1) (by omega) (by omega)
 obtain⟨y2,m2,n2⟩:=(mTS_1 r2).unit (k:=1+((lcn Tt.cn r1.Args:Nat):Int)) (by omega) (by omega)
 have d0:decide ((1:Int)+((lcn Tt.cn l:Nat):Int)<0)=false:=decide_eq_false (by omega)
 have d1:decide ((1:Int)+((lcn Tt.cn r1.Args:Nat):Int)<0)=false:=decide_eq_false (by omega)
 have d2:decide ((1:Int)+((lcn Tt.cn r1.Args:Nat):Int)+((lcn Tt.cn r2:Nat):Int)<0)=false:=decide_eq_false (by omega)
 simp only[tTS_4 l ht,ak,h1,h2,eTr_,eTS_3,cond_true,beq_self_eq_true,m0,d0,m1,n1,m2,n2,d1,d2,cond_false,decide_true]
end
end Go.Proofs.Ytpfobcjmfobiaaa
