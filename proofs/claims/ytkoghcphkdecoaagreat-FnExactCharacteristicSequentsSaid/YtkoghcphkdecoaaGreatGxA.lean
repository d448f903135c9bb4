/- A part of the proof: lemmas only; nothing is claimed here beyond what each lemma says. -/
import Derived.Test.YtkoghcphkdecoaaGreatGp
import Derived.Test.YtkoghcphkdecoaaGreatAvS
set_option linter.unusedSimpArgs false
set_option linter.unusedVariables false
set_option linter.defProp false
namespace Go.Proofs.YtkoghcphkdecoaaGreat
open Go.Av
open Option renaming bind_some→ak
theorem we_(a lo hi:Int):iw_ a lo hi=some (inR a lo hi):=ciR_ a lo hi
theorem lIe_(a lo hi:Int):slI_3 a lo hi=some (inR a lo hi):=ciR_ a lo hi
def cLow(c:Int):Bool:=inR c 97 122
def cUp(c:Int):Bool:=inR c 65 90
def cDig(c:Int):Bool:=inR c 48 57
theorem iLe_(c:Int):iiL_ c=some (cLow c):=ciR_ c 97 122
theorem iUe_(c:Int):iiU_ c=some (cUp c):=ciR_ c 65 90
theorem iDe_(c:Int):iiD_ c=some (cDig c):=ciR_ c 48 57
theorem lSe_1(c:Int):slS_8 c=some (cLow c||cDig c):=by
 unfold slS_8 cLow cDig inR
 by_cases h1:(97:Int)≤c<;>by_cases h2:c≤(122:Int)<;>by_cases h3:(48:Int)≤c<;>by_cases h4:c≤(57:Int)<;>simp[h1,h2,h3,h4]
def varC(s:ByteArray)(j:Nat):Bool:=if j=0 then cUp (byt s 0) else(cLow (byt s j)||cDig (byt s j))
def isVarS(s:ByteArray):Bool:=inR (s.size:Int) 1 4&&(List.range s.size).all (varC s)
theorem iVe_(s:ByteArray)(hb:Big s.size):iiV_ s=some (isVarS s):=by
 unfold iiV_
 rw[bn_ hb,ak,fNa_ (varC s)]
 ·simp only[we_,ak,isVarS]
  cases (List.range s.size).all (varC s)<;>cases inR (s.size:Int) 1 4<;>rfl
 ·intro j hj _
  simp only[sn_1 hj,ak,iUe_,iLe_,iDe_,varC]
  by_cases h0:j=0
  ·subst h0
   cases cUp (byt s 0)<;>rfl
  ·have h1:¬ ((j:Int)=0):=by omega
   have h2:(0:Int)<(j:Int):=by omega
   rw[decide_eq_false h1,decide_eq_true h2,if_neg h0]
   cases cLow (byt s j)<;>cases cDig (byt s j)<;>rfl
theorem lVe_(s:ByteArray)(hb:Big s.size):slV_ s=some (isVarS s):=by
 unfold slV_
 rw[lIe_,ak]
 unfold isVarS
 cases hr:inR (s.size:Int) 1 4
 ·rfl
 ·have hs:0<s.size:=by have:=iRi_.1 hr; omega
  simp only[cond_true,Bool.true_and]
  rw[sidx0 hs,ak]
  by_cases h0:cUp (byt s 0)=true
  ·have hu:=iRi_.1 h0
   rw[decide_eq_false (by omega),cond_false,ak,decide_eq_false (by omega),cond_false,bn_ hb,ak,fNa_2 (varC s) hs (by simp[varC,h0])]
   ·cases (List.range s.size).all (varC s)<;>rfl
   ·intro j hj0 hj _
    simp only[sn_1 hj,ak,lSe_1,varC]
    rw[if_neg (by omega)]
    cases (cLow (byt s j)||cDig (byt s j))<;>rfl
  ·have h1:(List.range s.size).all (varC s)=false:=List.all_eq_false.2 ⟨0,by simp; omega,by simp[varC,h0]⟩
   rw[h1]
   have hu:¬ (65≤byt s 0∧byt s 0≤90):=by intro g; exact h0 (iRi_.2 g)
   by_cases g:byt s 0<65
   ·rw[decide_eq_true g]; rfl
   ·rw[decide_eq_false g,cond_false,ak,decide_eq_true (by omega)]; rfl
def resv:List ByteArray:=[(⟨#[116,114,117,101]⟩:ByteArray),(⟨#[102,97,108,115,101]⟩:ByteArray),(⟨#[116,114,117,116,104]⟩:ByteArray),(⟨#[98,111,116,104]⟩:ByteArray),(⟨#[101,105,116,104,101,114]⟩:ByteArray),(⟨#[105,102]⟩:ByteArray),(⟨#[97,108,108]⟩:ByteArray),(⟨#[115,111,109,101]⟩:ByteArray)]
def symC(s:ByteArray)(j:Nat):Bool:=if j=0 then cLow (byt s 0) else(cLow (byt s j)||cDig (byt s j)||decide (byt s j=95))
def isSymS(s:ByteArray):Bool:=inR (s.size:Int) 1 6&&(List.range s.size).all (symC s)&&!resv.any (fun v=>decide (s=v))
theorem Cs_(xs:List ByteArray)(s:ByteArray):sCS_1 xs s=some (xs.any (fun v=>decide (s=v))):=by
 unfold sCS_1 sIS_
 obtain⟨r,h1,h2⟩:=fNf_1 (n:=xs.length) (p:=fun i=>decide (s=xs.getD i default)) (f:=fun i2 s2=>(idx xs (i2:Int)).bind fun v14=>bif decide (s=v14) then some (.rt (i2:Int)) else some (.nx ())) (fun j hj=>by
  simp only[igD_ hj,ak]
  cases decide (s=xs.getD j default)<;>rfl)
 rw[h1,ak,h2,ral_1 xs (fun v=>decide (s=v))]
theorem iSe_(s:ByteArray)(hb:Big s.size):iiS_ s=some (isSymS s):=by
 unfold iiS_
 rw[bn_ hb,ak,fNa_ (symC s)]
 ·simp only[we_,ak,isSymS,ir_,Cs_]
  rw[show resv.any (fun v=>decide (s=v))=_ from rfl]
  unfold resv
  cases (List.range s.size).all (symC s)<;>cases inR (s.size:Int) 1 6<;>rfl
 ·intro j hj _
  simp only[sn_1 hj,ak,iLe_,iDe_,symC]
  by_cases h0:j=0
  ·subst h0
   cases cLow (byt s 0)<;>rfl
  ·have h1:¬ ((j:Int)=0):=by omega
   rw[decide_eq_false h1,if_neg h0]
   cases cLow (byt s j)<;>cases cDig (byt s j)<;>cases decide (byt s j=95)<;>rfl
theorem lSe_(s:ByteArray)(hb:Big s.size):slS_7 s=some (isSymS s):=by
 unfold slS_7
 rw[lIe_,ak]
 unfold isSymS
 cases hr:inR (s.size:Int) 1 6
 ·rfl
 ·have hs:0<s.size:=by have:=iRi_.1 hr; omega
  simp only[cond_true,Bool.true_and]
  rw[sidx0 hs,ak]
  by_cases h0:cLow (byt s 0)=true
  ·have hu:=iRi_.1 h0
   rw[decide_eq_false (by omega),cond_false,ak,decide_eq_false (by omega),cond_false,bn_ hb,ak,fNa_2 (symC s) hs (by simp[symC,h0])]
   ·simp only[resv,List.any_cons,List.any_nil,Bool.or_false]
    generalize decide (s=_)=b1
    generalize decide (s=_)=b2
    generalize decide (s=_)=b3
    generalize decide (s=_)=b4
    generalize decide (s=_)=b5
    generalize decide (s=_)=b6
    generalize decide (s=_)=b7
    generalize decide (s=_)=b8
    cases (List.range s.size).all (symC s)<;>cases b1<;>cases b2<;>cases b3<;>cases b4<;>cases b5<;>cases b6<;>cases b7<;>cases b8<;>rfl
   ·intro j hj0 hj _
    simp only[sn_1 hj,ak,lSe_1,symC]
    rw[if_neg (by omega)]
    cases (cLow (byt s j)||cDig (byt s j))<;>cases decide (byt s j=95)<;>rfl
  ·have h1:(List.range s.size).all (symC s)=false:=List.all_eq_false.2 ⟨0,by simp; omega,by simp[symC,h0]⟩
   rw[h1]
   have hu:¬ (97≤byt s 0∧byt s 0≤122):=by intro g; exact h0 (iRi_.2 g)
   by_cases g:byt s 0<97
   ·rw[decide_eq_true g]; rfl
   ·rw[decide_eq_false g,cond_false,ak,decide_eq_true (by omega)]; rfl
end Go.Proofs.YtkoghcphkdecoaaGreat
namespace Go.Proofs.YtkoghcphkdecoaaGreat
open Go.Av
open List renaming map_cons→aM,sum_cons→bx
open Option renaming bind_some→ak
open SizeOf renaming sizeOf→aw
mutual
def Tt.cnt:Tt→Nat
 | .mk _ l=>1+Tt.cnts l
def Tt.cnts:List Tt→Nat
 | []=>0
 | a::l=>a.cnt+Tt.cnts l
end
theorem Tt.cnts_eq(l:List Tt):Tt.cnts l=(l.map Tt.cnt).sum:=by
 induction l with
 | nil=>rfl
 | cons a l ih=>rw[Tt.cnts,ih,aM,bx]
theorem Tcm_(x:ByteArray)(l:List Tt):(Tt.mk x l).cnt=1+(l.map Tt.cnt).sum:=by rw[Tt.cnt,Tt.cnts_eq]
mutual
def Tt.dep:Tt→Nat
 | .mk _ l=>1+Td_ l
def Td_:List Tt→Nat
 | []=>0
 | a::l=>max a.dep (Td_ l)
end
theorem Tdm_(x:ByteArray)(l:List Tt):(Tt.mk x l).dep=1+Td_ l:=by rw[Tt.dep]
theorem Tt.cnt_tot(t:Tt):t.cnt≤1+t.tot:=by
 refine Tt.ind (M:=fun t=>t.cnt≤1+t.tot) (fun x l ih=>?_) t
 rw[Tcm_,Tt.tot_mk]
 have:(l.map Tt.cnt).sum≤ltot Tt.tot l:=by
  clear x
  induction l with
  | nil=>simp[ltot]
  | cons a l ihl=>
   have h1:=ih a (by simp)
   have h2:=ihl (fun b hb=>ih b (by simp[hb]))
   simp only[ltot,aM,bx,List.length_cons] at h2 ⊢
   omega
 omega
theorem Tt.dep_cnt(t:Tt):t.dep≤t.cnt:=by
 refine Tt.ind (M:=fun t=>t.dep≤t.cnt) (fun x l ih=>?_) t
 rw[Tcm_,Tdm_]
 have:Td_ l≤(l.map Tt.cnt).sum:=by
  clear x
  induction l with
  | nil=>simp[Td_]
  | cons a l ihl=>
   have h1:=ih a (by simp)
   have h2:=ihl (fun b hb=>ih b (by simp[hb]))
   simp only[Td_,aM,bx]
   omega
 omega
theorem Tt.cnt_pos(t:Tt):1≤t.cnt:=by cases t; rw[Tcm_]; omega
def Cap(L c:Nat)(r:Int):Prop:=1≤r∧r≤c∧(c≤L→r=c)∧(L<c→L<r)
theorem Cap.le{L c:Nat}{r:Int}(h:Cap L c r):decide (r≤(L:Int))=decide (c≤L):=by
 by_cases e:c≤L
 ·have:=h.2.2.1 e; rw[decide_eq_true e,decide_eq_true (by omega)]
 ·have:=h.2.2.2 (by omega); rw[decide_eq_false e,decide_eq_false (by omega)]
theorem sl_4(f:Tt→Option Int):∀ (l:List Tt) (i:Nat) (s:Int) (c0:Nat),(∀ a∈l,∃ r,f a=some r∧Cap 30 a.cnt r)→1≤s→s≤c0→(c0≤30→s=c0)→(30<c0→30<s)→c0+(l.map Tt.cnt).sum≤2097152→
 ∃ r,thenL (ρ:=Int) (forL (fun _ v s=>bif decide ((30:Int)<s) then some (.rt s) else(f v).bind fun w=>some (.nx (wr (s+w)))) l i s) (fun s=>some s)=some r∧Cap 30 (c0+(l.map Tt.cnt).sum) r
 | [],i,s,c0,_,h1,h2,h3,h4,_=>⟨s,rfl,by simpa using⟨h1,h2,h3,h4⟩⟩
 | a::l,i,s,c0,hf,h1,h2,h3,h4,hb=>by
  simp only[aM,bx] at hb ⊢
  by_cases e:(30:Int)<s
  ·rw[fLr_ (r:=s) (by rw[decide_eq_true e]; rfl),tLi_1]
   exact⟨s,rfl,h1,by omega,fun g=>by omega,fun _=>e⟩
  ·obtain⟨r,hr,c1,c2,c3,c4⟩:=hf a (by simp)
   have hs:s=c0:=h3 (by omega)
   rw[fLn_ (s':=wr (s+r)) (by rw[decide_eq_false e,cond_false,hr]; rfl),wr64 (by omega) (by omega)]
   have:=sl_4 f l (i+1) (s+r) (c0+a.cnt) (fun b hb=>hf b (by simp[hb])) (by omega) (by omega) (fun g=>by have:=c3 (by omega); omega) (fun g=>by
    by_cases g2:a.cnt≤30
    ·have:=c3 g2; omega
    ·have:=c4 (by omega); omega) (by omega)
   rwa [Nat.add_assoc] at this
theorem ise_(t:Tt):t.cnt≤2097152→∃ r,(∀ n,2*aw t≤n→isN_1 n t=some r)∧Cap 30 t.cnt r:=by
 refine Tt.ind (M:=fun t=>t.cnt≤2097152→∃ r,(∀ n,2*aw t≤n→isN_1 n t=some r)∧Cap 30 t.cnt r) (fun x l ih hc=>?_) t
 rw[Tcm_] at hc ⊢
 obtain⟨R,hR⟩:=mc_ (fun a ha=>ih a ha (by have:=lsm_ Tt.cnt ha; omega))
 obtain⟨r,h1,h2⟩:=sl_4 (fun a=>some (R a)) l 0 1 1 (fun a ha=>⟨R a,rfl,(hR a ha).2⟩) (by omega) (by omega) (by omega) (by omega) hc
 refine⟨r,fun n hn=>?_,h2⟩
 cases n with
 | zero=>simp only[Tt.mk.sizeOf_spec] at hn; omega
 | succ n=>
  rw[isN_1]
  simp only[TAm_,fNi_]
  rw[← h1]
  congr 1
  refine fLc_ l 0 1 (fun j a s ha=>?_)
  have ha:=List.mem_of_getElem? ha
  simp only[(hR a ha).1 n (by have:=List.sizeOf_lt_of_mem ha; simp only[Tt.mk.sizeOf_spec] at hn; omega)]
theorem iso_(t:Tt)(h:t.tot≤1048576):∃ r,is_2 t=some r∧Cap 30 t.cnt r:=by
 obtain⟨r,h1,h2⟩:=ise_ t (by have:=Tt.cnt_tot t; omega)
 exact⟨r,lim_eq ⟨_,h1⟩,h2⟩
theorem ml_2(f:Tt→Int→Option Int)(L:Nat)(hL:L≤30):∀ (l:List Tt) (i:Nat) (s:Int) (c0:Nat),(∀ a∈l,∀ L':Nat,L'≤30→∃ r,f a L'=some r∧Cap L' a.cnt r)→1≤s→s≤c0→(c0≤L→s=c0)→(L<c0→L<s)→c0+(l.map Tt.cnt).sum≤2097152→
 ∃ r,thenL (ρ:=Int) (forL (fun _ v s=>bif decide (s≤(L:Int)) then(f v (wr ((L:Int)-s))).bind fun w=>some (.nx (wr (s+w))) else some (.rt s)) l i s) (fun s=>some s)=some r∧Cap L (c0+(l.map Tt.cnt).sum) r
 | [],i,s,c0,_,h1,h2,h3,h4,_=>⟨s,rfl,by simpa using⟨h1,h2,h3,h4⟩⟩
 | a::l,i,s,c0,hf,h1,h2,h3,h4,hb=>by
  simp only[aM,bx] at hb ⊢
  by_cases e:s≤(L:Int)
  ·have hs:s=c0:=h3 (by omega)
   have eL:wr ((L:Int)-s)=((L-c0:Nat):Int):=by rw[wr64 (by omega) (by omega)]; omega
   obtain⟨r,hr,c1,c2,c3,c4⟩:=hf a (by simp) (L-c0) (by omega)
   rw[fLn_ (s':=wr (s+r)) (by rw[decide_eq_true e,cond_true,eL,hr]; rfl),wr64 (by omega) (by omega)]
   have:=ml_2 f L hL l (i+1) (s+r) (c0+a.cnt) (fun b hb=>hf b (by simp[hb])) (by omega) (by omega) (fun g=>by have:=c3 (by omega); omega) (fun g=>by
    by_cases g2:a.cnt≤L-c0
    ·omega
    ·have:=c4 (by omega); omega) (by omega)
   rwa [Nat.add_assoc] at this
  ·rw[fLr_ (r:=s) (by rw[decide_eq_false e]; rfl),tLi_1]
   exact⟨s,rfl,h1,by omega,fun g=>by omega,fun _=>by omega⟩
theorem lim_st{α:Type}{m:Nat→Option α}{N:Nat}{r:α}(hs:∀ n,N≤n→m n=m N)(h:m N=some r):lim m=some r:=lim_eq ⟨N,fun n hn=>by rw[hs n hn,h]⟩
theorem sms_(t:Tt):∀ n m,2*aw t≤n→2*aw t≤m→∀ L,slM_1 n t L=slM_1 m t L:=by
 refine Tt.ind (M:=fun t=>∀ n m,2*aw t≤n→2*aw t≤m→∀ L,slM_1 n t L=slM_1 m t L) (fun x l ih n m hn hm L=>?_) t
 simp only[Tt.mk.sizeOf_spec] at hn hm
 cases n with
 | zero=>omega
 | succ n=>
  cases m with
  | zero=>omega
  | succ m=>
   rw[slM_1,slM_1]
   congr 1
   refine fNc_ _ _ _ (fun j s hj=>?_)
   simp only[TAm_,Nat.zero_add] at hj ⊢
   rw[igD_ hj]
   simp only[ak]
   have hm':=gDm_ hj
   have:=List.sizeOf_lt_of_mem hm'
   rw[ih _ hm' n m (by omega) (by omega)]
theorem sme_(t:Tt):t.cnt≤2097152→∀ n,2*aw t≤n→∀ L:Nat,L≤30→∃ r,slM_1 n t L=some r∧Cap L t.cnt r:=by
 refine Tt.ind (M:=fun t=>t.cnt≤2097152→∀ n,2*aw t≤n→∀ L:Nat,L≤30→∃ r,slM_1 n t L=some r∧Cap L t.cnt r) (fun x l ih hc n hn L hL=>?_) t
 rw[Tcm_] at hc ⊢
 simp only[Tt.mk.sizeOf_spec] at hn
 cases n with
 | zero=>omega
 | succ n=>
  rw[slM_1]
  simp only[TAm_]
  obtain⟨r,h1,h2⟩:=ml_2 (slM_1 n) L hL l 0 1 1 (fun a ha L' hL'=>ih a ha (by have:=lsm_ Tt.cnt ha; omega) n (by have:=List.sizeOf_lt_of_mem ha; omega) L' hL') (by omega) (by omega) (by omega) (by omega) hc
  refine⟨r,?_,h2⟩
  rw[← h1]
  congr 1
  refine fNf_ _ _ l 0 1 (fun j a s ha=>?_)
  simp only[Nat.zero_add,in_,ha,ak]
theorem smo_(t:Tt)(h:t.tot≤1048576):∃ r,slM_8 t 30=some r∧Cap 30 t.cnt r:=by
 obtain⟨r,h1,h2⟩:=sme_ t (by have:=Tt.cnt_tot t; omega) _ (Nat.le_refl _) 30 (by omega)
 exact⟨r,lim_st (fun n hn=>sms_ t _ _ hn (Nat.le_refl _) _) h1,h2⟩
theorem dl_(f:Tt→Option Int)(g:Int→Int→Option Int)(hg:∀ a b,g a b=some (max a b)):∀ (l:List Tt) (i:Nat) (s:Nat),(∀ a∈l,f a=some (a.dep:Int))→
 thenL (ρ:=Int) (forL (fun _ v s=>(f v).bind fun w=>(g s w).bind fun z=>some (.nx z)) l i (s:Int)) (fun s=>some (wr (s+1)))=some (wr (((max s (Td_ l):Nat):Int)+1))
 | [],i,s,_=>by simp[forL,tLi_,Td_]
 | a::l,i,s,h=>by
  have e:max (s:Int) (a.dep:Int)=((max s a.dep:Nat):Int):=by omega
  rw[fLn_ (s':=((max s a.dep:Nat):Int)) (by rw[h a (by simp),ak,hg,ak,e]),dl_ f g hg l (i+1) _ (fun b hb=>h b (by simp[hb])),Td_]
  congr 3; omega
theorem Me_(a b:Int):slM_4 a b=some (max a b):=by
 unfold slM_4
 by_cases h:b<a
 ·rw[decide_eq_true h,cond_true]; congr 1; omega
 ·rw[decide_eq_false h,cond_false]; congr 1; omega
theorem dl_1(l:List Tt):Td_ l≤(l.map Tt.cnt).sum:=by
 induction l with
 | nil=>simp[Td_]
 | cons a l ih=>simp only[Td_,aM,bx]; have:=a.dep_cnt; omega
theorem idN_2(t:Tt):t.cnt≤2097152→∀ n,2*aw t≤n→idN_ n t=some (t.dep:Int):=by
 refine Tt.ind (M:=fun t=>t.cnt≤2097152→∀ n,2*aw t≤n→idN_ n t=some (t.dep:Int)) (fun x l ih hc n hn=>?_) t
 rw[Tcm_] at hc
 rw[Tdm_]
 simp only[Tt.mk.sizeOf_spec] at hn
 cases n with
 | zero=>omega
 | succ n=>
  rw[idN_]
  simp only[TAm_,fNi_]
  have:=dl_ (idN_ n) (fun a b=>some (max a b)) (fun _ _=>rfl) l 0 0 (fun a ha=>ih a ha (by have:=lsm_ Tt.cnt ha; omega) n (by have:=List.sizeOf_lt_of_mem ha; omega))
  simp only[ak] at this
  refine this.trans ?_
  have:=dl_1 l
  rw[wr64 (by omega) (by omega)]; congr 1; omega
theorem sdN_(t:Tt):t.cnt≤2097152→∀ n,2*aw t≤n→slD_ n t=some (t.dep:Int):=by
 refine Tt.ind (M:=fun t=>t.cnt≤2097152→∀ n,2*aw t≤n→slD_ n t=some (t.dep:Int)) (fun x l ih hc n hn=>?_) t
 rw[Tcm_] at hc
 rw[Tdm_]
 simp only[Tt.mk.sizeOf_spec] at hn
 cases n with
 | zero=>omega
 | succ n=>
  rw[slD_]
  simp only[TAm_,fNi_]
  have:=dl_ (slD_ n) slM_4 Me_ l 0 0 (fun a ha=>ih a ha (by have:=lsm_ Tt.cnt ha; omega) n (by have:=List.sizeOf_lt_of_mem ha; omega))
  refine this.trans ?_
  have:=dl_1 l
  rw[wr64 (by omega) (by omega)]; congr 1; omega
theorem ido_(t:Tt)(h:t.tot≤1048576):id_ t=some (t.dep:Int):=lim_eq ⟨_,idN_2 t (by have:=Tt.cnt_tot t; omega)⟩
theorem sdo_(t:Tt)(h:t.tot≤1048576):slD_1 t=some (t.dep:Int):=lim_eq ⟨_,sdN_ t (by have:=Tt.cnt_tot t; omega)⟩
def smallT(t:Tt):Bool:=decide (t.cnt≤30)&&decide (t.dep≤8)
theorem iSo_(t:Tt)(h:t.tot≤1048576):iiS_1 t=some (smallT t):=by
 obtain⟨r,h1,h2⟩:=iso_ t h
 have h3:=h2.le
 unfold iiS_1 smallT
 rw[h1,ak,show decide (r≤30)=decide (t.cnt≤30) from h3,ido_ t h,ak]
 cases decide (t.cnt≤30)
 ·rfl
 ·rw[cond_true,Bool.true_and]; congr 1; exact decide_eq_decide.2 (by omega)
theorem lFo_(t:Tt)(h:t.tot≤1048576):slF_2 t=some (smallT t):=by
 obtain⟨r,h1,h2⟩:=smo_ t h
 have h3:=h2.le
 unfold slF_2 smallT
 rw[h1,ak,show decide (r≤30)=decide (t.cnt≤30) from h3,sdo_ t h,ak]
 cases decide (t.cnt≤30)
 ·rfl
 ·rw[cond_true,Bool.true_and]; congr 1; exact decide_eq_decide.2 (by omega)
mutual
def Tt.good:Tt→Bool
 | .mk x l=>bif isVarS x then l.isEmpty else(isSymS x&&decide (l.length≤4)&&Tt.goods l)
def Tt.goods:List Tt→Bool
 | []=>true
 | a::l=>a.good&&Tt.goods l
end
theorem Tt.goods_eq(l:List Tt):Tt.goods l=l.all Tt.good:=by
 induction l with
 | nil=>rfl
 | cons a l ih=>rw[Tt.goods,ih]; rfl
theorem Tgm_(x:ByteArray)(l:List Tt):(Tt.mk x l).good=bif isVarS x then l.isEmpty else(isSymS x&&decide (l.length≤4)&&l.all Tt.good):=by rw[Tt.good,Tt.goods_eq]
theorem Tt.good_u(t:Tt):t.good=bif isVarS t.Name then t.Args.isEmpty else(isSymS t.Name&&decide (t.Args.length≤4)&&t.Args.all Tt.good):=by cases t; exact Tgm_ _ _
theorem iEd_{α:Type}(l:List α):decide ((l.length:Int)=0)=l.isEmpty:=by cases l<;>simp; omega
theorem ihN_5(t:Tt):t.Ok→∀ n,3*aw t≤n→ihN_ n t=some t.good:=by
 refine Tt.ind' (M:=fun t=>t.Ok→∀ n,3*aw t≤n→ihN_ n t=some t.good) (fun t ih hok n hn=>?_) t
 obtain⟨hx,hl,hall⟩:=hok.u
 rw[Tt.good_u]
 have hpos:=t.pos
 cases n with
 | zero=>omega
 | succ n=>
  rw[ihN_]
  rw[iVe_ _ hx,ak,iSe_ _ hx,ak,iEd_]
  cases isVarS t.Name
  ·rw[cond_false,cond_false]
   cases isSymS t.Name
   ·rfl
   ·by_cases h4:t.Args.length≤4
    ·rw[cond_true,decide_eq_true (show(t.Args.length:Int)≤4 by omega),cond_true,decide_eq_true h4,Bool.true_and,Bool.true_and]
     unfold sCF_4 sIF_3
     rw[fl_1 (p:=fun a=>!a.good) t.Args (fun a ha=>?_),ak,List.all_eq_not_any_not]
     have hs:=Tt.lt ha
     cases n with
     | zero=>omega
     | succ n=>
      rw[ihN_1,ih a ha (hall a ha) n (by omega)]; rfl
    ·rw[cond_true,decide_eq_false (show ¬ (t.Args.length:Int)≤4 by omega),decide_eq_false h4]; rfl
  ·rfl
theorem slN_9(t:Tt):t.Ok→∀ n,3*aw t≤n→slN_4 n t=some t.good:=by
 refine Tt.ind' (M:=fun t=>t.Ok→∀ n,3*aw t≤n→slN_4 n t=some t.good) (fun t ih hok n hn=>?_) t
 obtain⟨hx,hl,hall⟩:=hok.u
 rw[Tt.good_u]
 have hpos:=t.pos
 cases n with
 | zero=>omega
 | succ n=>
  rw[slN_4]
  rw[lVe_ _ hx,ak,lSe_ _ hx,ak,iEd_]
  cases isVarS t.Name
  ·rw[cond_false,cond_false]
   cases isSymS t.Name
   ·rfl
   ·by_cases h4:t.Args.length≤4
    ·rw[cond_true,decide_eq_false (show ¬ (4:Int)<(t.Args.length:Int) by omega),cond_false,decide_eq_true h4,Bool.true_and,Bool.true_and,
      fNa_ (fun j=>(t.Args.getD j default).good) (fun j hj _=>?_),ral_ t.Args Tt.good]
     ·cases t.Args.all Tt.good<;>rfl
     ·have ha:=gDm_ hj
      have hs:=Tt.lt ha
      simp only[igD_ hj,ak,ih _ ha (hall _ ha) n (by omega)]
      cases (t.Args.getD j default).good<;>rfl
    ·rw[cond_true,decide_eq_true (show(4:Int)<(t.Args.length:Int) by omega),decide_eq_false h4]; rfl
  ·rfl
def goodT(t:Tt):Bool:=smallT t&&t.good
theorem IVT_(t:Tt)(h:t.tot≤1048576)(hok:t.Ok):iIV_7 t=some (goodT t):=by
 unfold iIV_7 goodT
 rw[iSo_ t h,ak,show ihN_2 t=some t.good from lim_eq ⟨_,ihN_5 t hok⟩,ak]
 cases smallT t<;>rfl
theorem lGo_(t:Tt)(h:t.tot≤1048576)(hok:t.Ok):slG_3 t=some (goodT t):=by
 unfold slG_3 goodT
 rw[lFo_ t h,ak,show slN_6 t=some t.good from lim_eq ⟨_,slN_9 t hok⟩,ak]
 cases smallT t<;>rfl
end Go.Proofs.YtkoghcphkdecoaaGreat
