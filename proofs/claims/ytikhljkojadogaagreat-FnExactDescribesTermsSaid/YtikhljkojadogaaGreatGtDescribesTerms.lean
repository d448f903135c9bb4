/- Lemmas of the proof; each says what it shows. -/
import Derived.Test.YtikhljkojadogaaGreatGp
import Derived.Test.YtikhljkojadogaaGreatAvZ
import Derived.Test.YtikhljkojadogaaGreatGsf
set_option linter.unusedSimpArgs false
set_option linter.unusedVariables false
set_option linter.defProp false
namespace Go.Proofs.YtikhljkojadogaaGreat
open Go.Av
open Bool renaming and_eq_true→ar
open List renaming map_cons→az,sum_cons→bg,length_cons→aG,all_eq_true→aY,mem_append→aK,length_nil→aW,length_append→aL,mem_cons→a8,all_cons→bh
open Option renaming bind_some→aj,bind→ae
open SizeOf renaming sizeOf→aC
section
theorem we_(a lo hi:Int):iw_ a lo hi=some (inR a lo hi):=ciR_ a lo hi
theorem lIe_(a lo hi:Int):slI_1 a lo hi=some (inR a lo hi):=ciR_ a lo hi
def cmpI(a b:Int):Int:=if a<b then -1 else if b<a then 1 else 0
theorem iNN_1(a:Int):ciN_1 a=some false:=by simp[ciN_1]
theorem Ce_(a b:Int):cCi_ a b=some (cmpI a b):=by
 simp only[cCi_,iNN_1,aj,cond_false]
 unfold cmpI
 by_cases h:a<b
 ·simp[h]
 ·by_cases h':b<a<;>simp[h,h']
theorem Oe_(a b:Int):cOi_ [a,b]=some (if a=0 then b else a):=by
 unfold cOi_
 simp only[fNi_]
 by_cases h:a=0
 ·rw[fLn_ (s':=()) (by simp[h])]
  by_cases h':b=0
  ·rw[fLn_ (s':=()) (by simp[h'])]; simp[forL,tLi_,h,h']
  ·rw[fLr_ (r:=b) (by simp[h']),tLi_1]; simp[h]
 ·rw[fLr_ (r:=a) (by simp[h]),tLi_1]; simp[h]
end
section
def cLow(c:Int):Bool:=inR c 97 122
def cUp(c:Int):Bool:=inR c 65 90
def cDig(c:Int):Bool:=inR c 48 57
theorem iLe_(c:Int):iiL_ c=some (cLow c):=ciR_ c 97 122
theorem iUe_(c:Int):iiU_ c=some (cUp c):=ciR_ c 65 90
theorem iDe_(c:Int):iiD_ c=some (cDig c):=ciR_ c 48 57
theorem lSe_(c:Int):slS_1 c=some (cLow c||cDig c):=by
 unfold slS_1 cLow cDig inR
 by_cases h1:(97:Int)≤c<;>by_cases h2:c≤(122:Int)<;>by_cases h3:(48:Int)≤c<;>by_cases h4:c≤(57:Int)<;>simp[h1,h2,h3,h4]
def varC(s:ByteArray)(j:Nat):Bool:=if j=0 then cUp (byt s 0) else(cLow (byt s j)||cDig (byt s j))
def iVS_(s:ByteArray):Bool:=inR (s.size:Int) 1 4&&(List.range s.size).all (varC s)
theorem iVe_(s:ByteArray)(hb:Big s.size):iiV_ s=some (iVS_ s):=by
 unfold iiV_
 rw[bn_ hb,aj,fNa_ (varC s)]
 ·simp only[we_,aj,iVS_]
  cases (List.range s.size).all (varC s)<;>cases inR (s.size:Int) 1 4<;>rfl
 ·intro j hj _
  simp only[sn_ hj,aj,iUe_,iLe_,iDe_,varC]
  by_cases h0:j=0
  ·subst h0
   cases cUp (byt s 0)<;>rfl
  ·have h1:¬ ((j:Int)=0):=by omega
   have h2:(0:Int)<(j:Int):=by omega
   rw[decide_eq_false h1,decide_eq_true h2,if_neg h0]
   cases cLow (byt s j)<;>cases cDig (byt s j)<;>rfl
theorem lVe_(s:ByteArray)(hb:Big s.size):slV_ s=some (iVS_ s):=by
 unfold slV_
 rw[lIe_,aj]
 unfold iVS_
 cases hr:inR (s.size:Int) 1 4
 ·rfl
 ·have hs:0<s.size:=by have:=iRi_.1 hr; omega
  simp only[cond_true,Bool.true_and]
  rw[sidx0 hs,aj]
  by_cases h0:cUp (byt s 0)=true
  ·have hu:=iRi_.1 h0
   rw[decide_eq_false (by omega),cond_false,aj,decide_eq_false (by omega),cond_false,bn_ hb,aj,fNa_1 (varC s) hs (by simp[varC,h0])]
   ·cases (List.range s.size).all (varC s)<;>rfl
   ·intro j hj0 hj _
    simp only[sn_ hj,aj,lSe_,varC]
    rw[if_neg (by omega)]
    cases (cLow (byt s j)||cDig (byt s j))<;>rfl
  ·have h1:(List.range s.size).all (varC s)=false:=List.all_eq_false.2 ⟨0,by simp; omega,by simp[varC,h0]⟩
   rw[h1]
   have hu:¬ (65≤byt s 0∧byt s 0≤90):=by intro g; exact h0 (iRi_.2 g)
   by_cases g:byt s 0<65
   ·rw[decide_eq_true g]; rfl
   ·rw[decide_eq_false g,cond_false,aj,decide_eq_true (by omega)]; rfl
end
section
end
section
def resv:List ByteArray:=[(⟨#[116,114,117,101]⟩:ByteArray),(⟨#[102,97,108,115,101]⟩:ByteArray),(⟨#[116,114,117,116,104]⟩:ByteArray),(⟨#[98,111,116,104]⟩:ByteArray),(⟨#[101,105,116,104,101,114]⟩:ByteArray),(⟨#[105,102]⟩:ByteArray),(⟨#[97,108,108]⟩:ByteArray),(⟨#[115,111,109,101]⟩:ByteArray)]
def symC(s:ByteArray)(j:Nat):Bool:=if j=0 then cLow (byt s 0) else(cLow (byt s j)||cDig (byt s j)||decide (byt s j=95))
def iSS_(s:ByteArray):Bool:=inR (s.size:Int) 1 6&&(List.range s.size).all (symC s)&&!resv.any (fun v=>decide (s=v))
theorem Cs_(xs:List ByteArray)(s:ByteArray):sCS_ xs s=some (xs.any (fun v=>decide (s=v))):=by
 unfold sCS_ sIS_
 obtain⟨r,h1,h2⟩:=fNf_1 (n:=xs.length) (p:=fun i=>decide (s=xs.getD i default)) (f:=fun i2 s2=>(idx xs (i2:Int)).bind fun v14=>bif decide (s=v14) then some (.rt (i2:Int)) else some (.nx ())) (fun j hj=>by
  simp only[igD_ hj,aj]
  cases decide (s=xs.getD j default)<;>rfl)
 rw[h1,aj,h2,ral_1 xs (fun v=>decide (s=v))]
theorem iSe_(s:ByteArray)(hb:Big s.size):iiS_ s=some (iSS_ s):=by
 unfold iiS_
 rw[bn_ hb,aj,fNa_ (symC s)]
 ·simp only[we_,aj,iSS_,ir_,Cs_]
  rw[show resv.any (fun v=>decide (s=v))=_ from rfl]
  unfold resv
  cases (List.range s.size).all (symC s)<;>cases inR (s.size:Int) 1 6<;>rfl
 ·intro j hj _
  simp only[sn_ hj,aj,iLe_,iDe_,symC]
  by_cases h0:j=0
  ·subst h0
   cases cLow (byt s 0)<;>rfl
  ·have h1:¬ ((j:Int)=0):=by omega
   rw[decide_eq_false h1,if_neg h0]
   cases cLow (byt s j)<;>cases cDig (byt s j)<;>cases decide (byt s j=95)<;>rfl
theorem lSe_2(s:ByteArray)(hb:Big s.size):slS_2 s=some (iSS_ s):=by
 unfold slS_2
 rw[lIe_,aj]
 unfold iSS_
 cases hr:inR (s.size:Int) 1 6
 ·rfl
 ·have hs:0<s.size:=by have:=iRi_.1 hr; omega
  simp only[cond_true,Bool.true_and]
  rw[sidx0 hs,aj]
  by_cases h0:cLow (byt s 0)=true
  ·have hu:=iRi_.1 h0
   rw[decide_eq_false (by omega),cond_false,aj,decide_eq_false (by omega),cond_false,bn_ hb,aj,fNa_1 (symC s) hs (by simp[symC,h0])]
   ·simp only[resv,List.any_cons,List.any_nil,Bool.or_false]
    generalize decide (s=_)=b1
    generalize decide (s=_)=b2
    generalize decide (s=_)=b3
    generalize decide (s=_)=b4
    generalize decide (s=_)=b5
    generalize decide (s=_)=b6
    generalize decide (s=_)=b7
    generalize decide (s=_)=b8
    cases (List.range s.size).all (symC s)<;>cases b1<;>cases b2<;>cases b3<;>cases b4<;>cases b5<;>cases b6<;>cases b7<;>cases b8<;>rfl
   ·intro j hj0 hj _
    simp only[sn_ hj,aj,lSe_,symC]
    rw[if_neg (by omega)]
    cases (cLow (byt s j)||cDig (byt s j))<;>cases decide (byt s j=95)<;>rfl
  ·have h1:(List.range s.size).all (symC s)=false:=List.all_eq_false.2 ⟨0,by simp; omega,by simp[symC,h0]⟩
   rw[h1]
   have hu:¬ (97≤byt s 0∧byt s 0≤122):=by intro g; exact h0 (iRi_.2 g)
   by_cases g:byt s 0<97
   ·rw[decide_eq_true g]; rfl
   ·rw[decide_eq_false g,cond_false,aj,decide_eq_true (by omega)]; rfl
end
section
def cmpS(a b:ByteArray):Int:=if slt a b=true then -1 else if a=b then 0 else 1
theorem iNN_(a:ByteArray):ciN_ a=some false:=by simp[ciN_]
theorem CSe_(a b:ByteArray):cCs_ a b=some (cmpS a b):=by
 simp only[cCs_,iNN_,aj,cond_false]
 unfold cmpS slt
 by_cases h:Op.bytesLess a.data.toList b.data.toList=true
 ·rw[if_pos h,h]; rfl
 ·rw[if_neg h]
  have h':Op.bytesLess a.data.toList b.data.toList=false:=by simpa using h
  rw[h',cond_false]
  by_cases e:a=b
  ·rw[decide_eq_true e,if_pos e]; rfl
  ·rw[decide_eq_false e,if_neg e]; rfl
end
section
mutual
def Tt.cnt:Tt→Nat
 | .mk _ l=>1+Tc_ l
def Tc_:List Tt→Nat
 | []=>0
 | a::l=>a.cnt+Tc_ l
end
theorem Tce_(l:List Tt):Tc_ l=(l.map Tt.cnt).sum:=by
 induction l with
 | nil=>rfl
 | cons a l ih=>rw[Tc_,ih,az,bg]
theorem Tcm_(x:ByteArray)(l:List Tt):(Tt.mk x l).cnt=1+(l.map Tt.cnt).sum:=by rw[Tt.cnt,Tce_]
mutual
def Tt.dep:Tt→Nat
 | .mk _ l=>1+Td_ l
def Td_:List Tt→Nat
 | []=>0
 | a::l=>max a.dep (Td_ l)
end
theorem Tdm_(x:ByteArray)(l:List Tt):(Tt.mk x l).dep=1+Td_ l:=by rw[Tt.dep]
theorem Tct_(t:Tt):t.cnt≤1+t.tot:=by
 refine Ti_1 (M:=fun t=>t.cnt≤1+t.tot) (fun x l ih=>?_) t
 rw[Tcm_,Ttm_]
 have:(l.map Tt.cnt).sum≤ltot Tt.tot l:=by
  clear x
  induction l with
  | nil=>simp[ltot]
  | cons a l ihl=>
   have h1:=ih a (by simp)
   have h2:=ihl (fun b hb=>ih b (by simp[hb]))
   simp only[ltot,az,bg,aG] at h2 ⊢
   omega
 omega
theorem Tt.dep_cnt(t:Tt):t.dep≤t.cnt:=by
 refine Ti_1 (M:=fun t=>t.dep≤t.cnt) (fun x l ih=>?_) t
 rw[Tcm_,Tdm_]
 have:Td_ l≤(l.map Tt.cnt).sum:=by
  clear x
  induction l with
  | nil=>simp[Td_]
  | cons a l ihl=>
   have h1:=ih a (by simp)
   have h2:=ihl (fun b hb=>ih b (by simp[hb]))
   simp only[Td_,az,bg]
   omega
 omega
theorem Tt.cnt_pos(t:Tt):1≤t.cnt:=by cases t; rw[Tcm_]; omega
def Cap(L c:Nat)(r:Int):Prop:=1≤r∧r≤c∧(c≤L→r=c)∧(L<c→L<r)
theorem Cap.le{L c:Nat}{r:Int}(h:Cap L c r):decide (r≤(L:Int))=decide (c≤L):=by
 by_cases e:c≤L
 ·have:=h.2.2.1 e; rw[decide_eq_true e,decide_eq_true (by omega)]
 ·have:=h.2.2.2 (by omega); rw[decide_eq_false e,decide_eq_false (by omega)]
theorem sl_2(f:Tt→Option Int):∀ (l:List Tt) (i:Nat) (s:Int) (c0:Nat),(∀ a∈l,∃ r,f a=some r∧Cap 30 a.cnt r)→1≤s→s≤c0→(c0≤30→s=c0)→(30<c0→30<s)→c0+(l.map Tt.cnt).sum≤2097152→
 ∃ r,thenL (ρ:=Int) (forL (fun _ v s=>bif decide ((30:Int)<s) then some (.rt s) else(f v).bind fun w=>some (.nx (wr (s+w)))) l i s) (fun s=>some s)=some r∧Cap 30 (c0+(l.map Tt.cnt).sum) r
 | [],i,s,c0,_,h1,h2,h3,h4,_=>⟨s,rfl,by simpa using⟨h1,h2,h3,h4⟩⟩
 | a::l,i,s,c0,hf,h1,h2,h3,h4,hb=>by
  simp only[az,bg] at hb ⊢
  by_cases e:(30:Int)<s
  ·rw[fLr_ (r:=s) (by rw[decide_eq_true e]; rfl),tLi_1]
   exact⟨s,rfl,h1,by omega,fun g=>by omega,fun _=>e⟩
  ·obtain⟨r,hr,c1,c2,c3,c4⟩:=hf a (by simp)
   have hs:s=c0:=h3 (by omega)
   rw[fLn_ (s':=wr (s+r)) (by rw[decide_eq_false e,cond_false,hr]; rfl),wr64 (by omega) (by omega)]
   have:=sl_2 f l (i+1) (s+r) (c0+a.cnt) (fun b hb=>hf b (by simp[hb])) (by omega) (by omega) (fun g=>by have:=c3 (by omega); omega) (fun g=>by
    by_cases g2:a.cnt≤30
    ·have:=c3 g2; omega
    ·have:=c4 (by omega); omega) (by omega)
   rwa [Nat.add_assoc] at this
theorem ise_(t:Tt):t.cnt≤2097152→∃ r,(∀ n,2*aC t≤n→isN_ n t=some r)∧Cap 30 t.cnt r:=by
 refine Ti_1 (M:=fun t=>t.cnt≤2097152→∃ r,(∀ n,2*aC t≤n→isN_ n t=some r)∧Cap 30 t.cnt r) (fun x l ih hc=>?_) t
 rw[Tcm_] at hc ⊢
 obtain⟨R,hR⟩:=mc_ (fun a ha=>ih a ha (by have:=lsm_ Tt.cnt ha; omega))
 obtain⟨r,h1,h2⟩:=sl_2 (fun a=>some (R a)) l 0 1 1 (fun a ha=>⟨R a,rfl,(hR a ha).2⟩) (by omega) (by omega) (by omega) (by omega) hc
 refine⟨r,fun n hn=>?_,h2⟩
 cases n with
 | zero=>simp only[Tt.mk.sizeOf_spec] at hn; omega
 | succ n=>
  rw[isN_]
  simp only[TAm_,fNi_]
  rw[← h1]
  congr 1
  refine fLc_ l 0 1 (fun j a s ha=>?_)
  have ha:=List.mem_of_getElem? ha
  simp only[(hR a ha).1 n (by have:=List.sizeOf_lt_of_mem ha; simp only[Tt.mk.sizeOf_spec] at hn; omega)]
theorem iso_(t:Tt)(h:t.tot≤1048576):∃ r,is_ t=some r∧Cap 30 t.cnt r:=by
 obtain⟨r,h1,h2⟩:=ise_ t (by have:=Tct_ t; omega)
 exact⟨r,le_ ⟨_,h1⟩,h2⟩
theorem ml_2(f:Tt→Int→Option Int)(L:Nat)(hL:L≤30):∀ (l:List Tt) (i:Nat) (s:Int) (c0:Nat),(∀ a∈l,∀ L':Nat,L'≤30→∃ r,f a L'=some r∧Cap L' a.cnt r)→1≤s→s≤c0→(c0≤L→s=c0)→(L<c0→L<s)→c0+(l.map Tt.cnt).sum≤2097152→
 ∃ r,thenL (ρ:=Int) (forL (fun _ v s=>bif decide (s≤(L:Int)) then(f v (wr ((L:Int)-s))).bind fun w=>some (.nx (wr (s+w))) else some (.rt s)) l i s) (fun s=>some s)=some r∧Cap L (c0+(l.map Tt.cnt).sum) r
 | [],i,s,c0,_,h1,h2,h3,h4,_=>⟨s,rfl,by simpa using⟨h1,h2,h3,h4⟩⟩
 | a::l,i,s,c0,hf,h1,h2,h3,h4,hb=>by
  simp only[az,bg] at hb ⊢
  by_cases e:s≤(L:Int)
  ·have hs:s=c0:=h3 (by omega)
   have eL:wr ((L:Int)-s)=((L-c0:Nat):Int):=by rw[wr64 (by omega) (by omega)]; omega
   obtain⟨r,hr,c1,c2,c3,c4⟩:=hf a (by simp) (L-c0) (by omega)
   rw[fLn_ (s':=wr (s+r)) (by rw[decide_eq_true e,cond_true,eL,hr]; rfl),wr64 (by omega) (by omega)]
   have:=ml_2 f L hL l (i+1) (s+r) (c0+a.cnt) (fun b hb=>hf b (by simp[hb])) (by omega) (by omega) (fun g=>by have:=c3 (by omega); omega) (fun g=>by
    by_cases g2:a.cnt≤L-c0
    ·omega
    ·have:=c4 (by omega); omega) (by omega)
   rwa [Nat.add_assoc] at this
  ·rw[fLr_ (r:=s) (by rw[decide_eq_false e]; rfl),tLi_1]
   exact⟨s,rfl,h1,by omega,fun g=>by omega,fun _=>by omega⟩
theorem ls_3{α:Type}{m:Nat→Option α}{N:Nat}{r:α}(hs:∀ n,N≤n→m n=m N)(h:m N=some r):lim m=some r:=le_ ⟨N,fun n hn=>by rw[hs n hn,h]⟩
theorem sms_(t:Tt):∀ n m,2*aC t≤n→2*aC t≤m→∀ L,slM_ n t L=slM_ m t L:=by
 refine Ti_1 (M:=fun t=>∀ n m,2*aC t≤n→2*aC t≤m→∀ L,slM_ n t L=slM_ m t L) (fun x l ih n m hn hm L=>?_) t
 simp only[Tt.mk.sizeOf_spec] at hn hm
 cases n with
 | zero=>omega
 | succ n=>
  cases m with
  | zero=>omega
  | succ m=>
   rw[slM_,slM_]
   congr 1
   refine fNc_ _ _ _ (fun j s hj=>?_)
   simp only[TAm_,Nat.zero_add] at hj ⊢
   rw[igD_ hj]
   simp only[aj]
   have hm':=gDm_ hj
   have:=List.sizeOf_lt_of_mem hm'
   rw[ih _ hm' n m (by omega) (by omega)]
theorem sme_(t:Tt):t.cnt≤2097152→∀ n,2*aC t≤n→∀ L:Nat,L≤30→∃ r,slM_ n t L=some r∧Cap L t.cnt r:=by
 refine Ti_1 (M:=fun t=>t.cnt≤2097152→∀ n,2*aC t≤n→∀ L:Nat,L≤30→∃ r,slM_ n t L=some r∧Cap L t.cnt r) (fun x l ih hc n hn L hL=>?_) t
 rw[Tcm_] at hc ⊢
 simp only[Tt.mk.sizeOf_spec] at hn
 cases n with
 | zero=>omega
 | succ n=>
  rw[slM_]
  simp only[TAm_]
  obtain⟨r,h1,h2⟩:=ml_2 (slM_ n) L hL l 0 1 1 (fun a ha L' hL'=>ih a ha (by have:=lsm_ Tt.cnt ha; omega) n (by have:=List.sizeOf_lt_of_mem ha; omega) L' hL') (by omega) (by omega) (by omega) (by omega) hc
  refine⟨r,?_,h2⟩
  rw[← h1]
  congr 1
  refine fNf_ _ _ l 0 1 (fun j a s ha=>?_)
  simp only[Nat.zero_add,in_,ha,aj]
theorem smo_(t:Tt)(h:t.tot≤1048576):∃ r,slM_2 t 30=some r∧Cap 30 t.cnt r:=by
 obtain⟨r,h1,h2⟩:=sme_ t (by have:=Tct_ t; omega) _ (Nat.le_refl _) 30 (by omega)
 exact⟨r,ls_3 (fun n hn=>sms_ t _ _ hn (Nat.le_refl _) _) h1,h2⟩
theorem dl_(f:Tt→Option Int)(g:Int→Int→Option Int)(hg:∀ a b,g a b=some (max a b)):∀ (l:List Tt) (i:Nat) (s:Nat),(∀ a∈l,f a=some (a.dep:Int))→
 thenL (ρ:=Int) (forL (fun _ v s=>(f v).bind fun w=>(g s w).bind fun z=>some (.nx z)) l i (s:Int)) (fun s=>some (wr (s+1)))=some (wr (((max s (Td_ l):Nat):Int)+1))
 | [],i,s,_=>by simp[forL,tLi_,Td_]
 | a::l,i,s,h=>by
  have e:max (s:Int) (a.dep:Int)=((max s a.dep:Nat):Int):=by omega
  rw[fLn_ (s':=((max s a.dep:Nat):Int)) (by rw[h a (by simp),aj,hg,aj,e]),dl_ f g hg l (i+1) _ (fun b hb=>h b (by simp[hb])),Td_]
  congr 3; omega
theorem Me_(a b:Int):slM_1 a b=some (max a b):=by
 unfold slM_1
 by_cases h:b<a
 ·rw[decide_eq_true h,cond_true]; congr 1; omega
 ·rw[decide_eq_false h,cond_false]; congr 1; omega
theorem dl_1(l:List Tt):Td_ l≤(l.map Tt.cnt).sum:=by
 induction l with
 | nil=>simp[Td_]
 | cons a l ih=>simp only[Td_,az,bg]; have:=a.dep_cnt; omega
theorem idN_2(t:Tt):t.cnt≤2097152→∀ n,2*aC t≤n→idN_ n t=some (t.dep:Int):=by
 refine Ti_1 (M:=fun t=>t.cnt≤2097152→∀ n,2*aC t≤n→idN_ n t=some (t.dep:Int)) (fun x l ih hc n hn=>?_) t
 rw[Tcm_] at hc
 rw[Tdm_]
 simp only[Tt.mk.sizeOf_spec] at hn
 cases n with
 | zero=>omega
 | succ n=>
  rw[idN_]
  simp only[TAm_,fNi_]
  have:=dl_ (idN_ n) (fun a b=>some (max a b)) (fun _ _=>rfl) l 0 0 (fun a ha=>ih a ha (by have:=lsm_ Tt.cnt ha; omega) n (by have:=List.sizeOf_lt_of_mem ha; omega))
  simp only[aj] at this
  refine this.trans ?_
  have:=dl_1 l
  rw[wr64 (by omega) (by omega)]; congr 1; omega
theorem sdN_(t:Tt):t.cnt≤2097152→∀ n,2*aC t≤n→slD_ n t=some (t.dep:Int):=by
 refine Ti_1 (M:=fun t=>t.cnt≤2097152→∀ n,2*aC t≤n→slD_ n t=some (t.dep:Int)) (fun x l ih hc n hn=>?_) t
 rw[Tcm_] at hc
 rw[Tdm_]
 simp only[Tt.mk.sizeOf_spec] at hn
 cases n with
 | zero=>omega
 | succ n=>
  rw[slD_]
  simp only[TAm_,fNi_]
  have:=dl_ (slD_ n) slM_1 Me_ l 0 0 (fun a ha=>ih a ha (by have:=lsm_ Tt.cnt ha; omega) n (by have:=List.sizeOf_lt_of_mem ha; omega))
  refine this.trans ?_
  have:=dl_1 l
  rw[wr64 (by omega) (by omega)]; congr 1; omega
theorem ido_(t:Tt)(h:t.tot≤1048576):id_ t=some (t.dep:Int):=le_ ⟨_,idN_2 t (by have:=Tct_ t; omega)⟩
theorem sdo_(t:Tt)(h:t.tot≤1048576):slD_1 t=some (t.dep:Int):=le_ ⟨_,sdN_ t (by have:=Tct_ t; omega)⟩
def sT_(t:Tt):Bool:=decide (t.cnt≤30)&&decide (t.dep≤8)
theorem iSo_(t:Tt)(h:t.tot≤1048576):iiS_1 t=some (sT_ t):=by
 obtain⟨r,h1,h2⟩:=iso_ t h
 have h3:=h2.le
 unfold iiS_1 sT_
 rw[h1,aj,show decide (r≤30)=decide (t.cnt≤30) from h3,ido_ t h,aj]
 cases decide (t.cnt≤30)
 ·rfl
 ·rw[cond_true,Bool.true_and]; congr 1; exact decide_eq_decide.2 (by omega)
theorem lFo_(t:Tt)(h:t.tot≤1048576):slF_2 t=some (sT_ t):=by
 obtain⟨r,h1,h2⟩:=smo_ t h
 have h3:=h2.le
 unfold slF_2 sT_
 rw[h1,aj,show decide (r≤30)=decide (t.cnt≤30) from h3,sdo_ t h,aj]
 cases decide (t.cnt≤30)
 ·rfl
 ·rw[cond_true,Bool.true_and]; congr 1; exact decide_eq_decide.2 (by omega)
mutual
def Tt.good:Tt→Bool
 | .mk x l=>bif iVS_ x then l.isEmpty else(iSS_ x&&decide (l.length≤4)&&Tg_ l)
def Tg_:List Tt→Bool
 | []=>true
 | a::l=>a.good&&Tg_ l
end
theorem Tge_(l:List Tt):Tg_ l=l.all Tt.good:=by
 induction l with
 | nil=>rfl
 | cons a l ih=>rw[Tg_,ih]; rfl
theorem Tgm_(x:ByteArray)(l:List Tt):(Tt.mk x l).good=bif iVS_ x then l.isEmpty else(iSS_ x&&decide (l.length≤4)&&l.all Tt.good):=by rw[Tt.good,Tge_]
theorem Tgu_(t:Tt):t.good=bif iVS_ t.Name then t.Args.isEmpty else(iSS_ t.Name&&decide (t.Args.length≤4)&&t.Args.all Tt.good):=by cases t; exact Tgm_ _ _
theorem iEd_{α:Type}(l:List α):decide ((l.length:Int)=0)=l.isEmpty:=by cases l<;>simp; omega
theorem ihN_5(t:Tt):t.Ok→∀ n,3*aC t≤n→ihN_ n t=some t.good:=by
 refine Ti_ (M:=fun t=>t.Ok→∀ n,3*aC t≤n→ihN_ n t=some t.good) (fun t ih hok n hn=>?_) t
 obtain⟨hx,hl,hall⟩:=hok.u
 rw[Tgu_]
 have hpos:=t.pos
 cases n with
 | zero=>omega
 | succ n=>
  rw[ihN_]
  rw[iVe_ _ hx,aj,iSe_ _ hx,aj,iEd_]
  cases iVS_ t.Name
  ·rw[cond_false,cond_false]
   cases iSS_ t.Name
   ·rfl
   ·by_cases h4:t.Args.length≤4
    ·rw[cond_true,decide_eq_true (show(t.Args.length:Int)≤4 by omega),cond_true,decide_eq_true h4,Bool.true_and,Bool.true_and]
     unfold sCF_ sIF_
     rw[fl_ (p:=fun a=>!a.good) t.Args (fun a ha=>?_),aj,List.all_eq_not_any_not]
     have hs:=Tt.lt ha
     cases n with
     | zero=>omega
     | succ n=>
      rw[ihN_1,ih a ha (hall a ha) n (by omega)]; rfl
    ·rw[cond_true,decide_eq_false (show ¬ (t.Args.length:Int)≤4 by omega),decide_eq_false h4]; rfl
  ·rfl
theorem slN_4(t:Tt):t.Ok→∀ n,3*aC t≤n→slN_ n t=some t.good:=by
 refine Ti_ (M:=fun t=>t.Ok→∀ n,3*aC t≤n→slN_ n t=some t.good) (fun t ih hok n hn=>?_) t
 obtain⟨hx,hl,hall⟩:=hok.u
 rw[Tgu_]
 have hpos:=t.pos
 cases n with
 | zero=>omega
 | succ n=>
  rw[slN_]
  rw[lVe_ _ hx,aj,lSe_2 _ hx,aj,iEd_]
  cases iVS_ t.Name
  ·rw[cond_false,cond_false]
   cases iSS_ t.Name
   ·rfl
   ·by_cases h4:t.Args.length≤4
    ·rw[cond_true,decide_eq_false (show ¬ (4:Int)<(t.Args.length:Int) by omega),cond_false,decide_eq_true h4,Bool.true_and,Bool.true_and,
      fNa_ (fun j=>(t.Args.getD j default).good) (fun j hj _=>?_),ral_ t.Args Tt.good]
     ·cases t.Args.all Tt.good<;>rfl
     ·have ha:=gDm_ hj
      have hs:=Tt.lt ha
      simp only[igD_ hj,aj,ih _ ha (hall _ ha) n (by omega)]
      cases (t.Args.getD j default).good<;>rfl
    ·rw[cond_true,decide_eq_true (show(4:Int)<(t.Args.length:Int) by omega),decide_eq_false h4]; rfl
  ·rfl
def goodT(t:Tt):Bool:=sT_ t&&t.good
theorem IVT_(t:Tt)(h:t.tot≤1048576)(hok:t.Ok):iIV_2 t=some (goodT t):=by
 unfold iIV_2 goodT
 rw[iSo_ t h,aj,show ihN_3 t=some t.good from le_ ⟨_,ihN_5 t hok⟩,aj]
 cases sT_ t<;>rfl
theorem lGo_(t:Tt)(h:t.tot≤1048576)(hok:t.Ok):slG_1 t=some (goodT t):=by
 unfold slG_1 goodT
 rw[lFo_ t h,aj,show slN_1 t=some t.good from le_ ⟨_,slN_4 t hok⟩,aj]
 cases sT_ t<;>rfl
end
section
noncomputable def same{α:Type}(a b:α):Bool:=@decide (a=b) (Classical.propDecidable _)
theorem si_{α:Type}{a b:α}:same a b=true↔a=b:=by unfold same; exact @decide_eq_true_iff _ (Classical.propDecidable _)
theorem sc_2{α:Type}(a b:α):same a b=same b a:=by rw[Bool.eq_iff_iff,si_,si_]; exact eq_comm
theorem sl_1{α:Type}{xs ys:List α}(h:¬ xs.length=ys.length):same xs ys=false:=by
 cases e:same xs ys
 ·rfl
 ·rw[si_] at e; exact absurd (by rw[e]) h
theorem as_4{α:Type}[Inhabited α]{xs ys:List α}(h:xs.length=ys.length):(List.range xs.length).all (fun j=>same (xs.getD j default) (ys.getD j default))=same xs ys:=by
 rw[Bool.eq_iff_iff,aY,si_]
 constructor
 ·intro g
  refine List.ext_getElem h (fun i h1 h2=>?_)
  have:=si_.1 (g i (by simpa using h1))
  simpa[List.getD,h1,h2] using this
 ·rintro rfl x _
  exact si_.2 rfl
theorem sl_{α:Type}[Inhabited α](f:α→α→Option Bool)(xs ys:List α)(h:xs.length=ys.length)(hf:∀ a∈xs,∀ b,f a b=some (same a b)):
 thenL (ρ:=Bool) (σ:=Unit) (forN (fun (i:Nat) (_:Unit)=>ae (idx xs (i:Int)) fun v=>ae (idx ys (i:Int)) fun w=>ae (f v w) fun x=>bif x then some (.nx ()) else some (.rt false)) xs.length 0 ()) (fun _=>some true)=some (same xs ys):=by
 rw[fNa_ (fun j=>same (xs.getD j default) (ys.getD j default)) (r0:=false) (fun j hj _=>?_),as_4 h]
 ·cases same xs ys<;>rfl
 ·rw[igD_ hj,igD_ (h▸hj),aj,aj,hf _ (gDm_ hj),aj]
  cases same (xs.getD j default) (ys.getD j default)<;>rfl
theorem ld_{α:Type}(xs ys:List α):decide ((xs.length:Int)=(ys.length:Int))=decide (xs.length=ys.length):=decide_eq_decide.2 (by omega)
theorem Tsu_(a b:Tt):same a b=(decide (a.Name=b.Name)&&same a.Args b.Args):=by
 rw[Bool.eq_iff_iff,si_,ar,si_,decide_eq_true_iff]
 constructor
 ·rintro rfl; exact⟨rfl,rfl⟩
 ·rintro ⟨h1,h2⟩; rw[← a.eta,← b.eta,h1,h2]
theorem lSe_1(a:Tt):∀ b n,2*aC a≤n→slS_ n a b=some (same a b)∧iET_ n a b=some (same a b):=by
 refine Ti_ (M:=fun a=>∀ b n,2*aC a≤n→slS_ n a b=some (same a b)∧iET_ n a b=some (same a b)) (fun a ih b n hn=>?_) a
 have hp:=a.pos
 cases n with
 | zero=>omega
 | succ n=>
  rw[slS_,iET_,Tsu_]
  unfold sEF_
  rw[ld_]
  cases decide (a.Name=b.Name)
  ·exact⟨rfl,rfl⟩
  ·by_cases h:a.Args.length=b.Args.length
   ·have k:=fun x (hx:x∈a.Args) y=>ih x hx y n (by have:=Tt.lt hx; omega)
    rw[decide_eq_true h,cond_true,cond_true,sl_ (slS_ n) a.Args b.Args h (fun x hx y=>(k x hx y).1)]
    refine⟨rfl,?_⟩
    rw[cond_true,cond_true,sl_ (iET_ n) a.Args b.Args h (fun x hx y=>(k x hx y).2)]; rfl
   ·rw[decide_eq_false h,sl_1 h]; exact⟨rfl,rfl⟩
theorem lSo_(a b:Tt):slS_4 a b=some (same a b):=le_ ⟨_,fun n hn=>(lSe_1 a b n hn).1⟩
theorem ETo_(a b:Tt):iET_1 a b=some (same a b):=le_ ⟨_,fun n hn=>(lSe_1 a b n hn).2⟩
end
section
mutual
def Tt.vars:Tt→List ByteArray
 | .mk x l=>bif iVS_ x then [x] else Tv_ l
def Tv_:List Tt→List ByteArray
 | []=>[]
 | a::l=>a.vars++Tv_ l
end
theorem Tvu_(t:Tt):t.vars=bif iVS_ t.Name then [t.Name] else Tv_ t.Args:=by cases t; rw[Tt.vars]; rfl
theorem Tt.cnt_u(t:Tt):t.cnt=1+Tc_ t.Args:=by cases t; rw[Tt.cnt]; rfl
theorem nC_{t:Tt}(h:t.good=true):(iVS_ t.Name=true∧t.Args=[])∨(iVS_ t.Name=false∧iSS_ t.Name=true∧t.Args.length≤4∧∀ a∈t.Args,a.good=true):=by
 rw[Tgu_] at h
 cases hv:iVS_ t.Name
 ·rw[hv,cond_false] at h
  simp only[ar,decide_eq_true_eq,aY] at h
  exact Or.inr ⟨rfl,h.1.1,h.1.2,h.2⟩
 ·rw[hv,cond_true] at h
  exact Or.inl ⟨rfl,by simpa using h⟩
theorem iVg_{t:Tt}(h:t.good=true):iiV_1 t=some (iVS_ t.Name):=by
 unfold iiV_1
 rcases nC_ h with⟨hv,_⟩ | ⟨hv,hs,_⟩
 ·have h2:=hv
  unfold iVS_ at h2
  rw[ar] at h2
  have hz:0<t.Name.size:=by have:=iRi_.1 h2.1; omega
  have h3:=List.all_eq_true.1 h2.2 0 (by simpa using hz)
  rw[sidx0 hz,aj,iUe_,aj,hv]
  simpa[varC] using h3
 ·have h2:=hs
  unfold iSS_ at h2
  rw[ar,ar] at h2
  have hz:0<t.Name.size:=by have:=iRi_.1 h2.1.1; omega
  have h3:=List.all_eq_true.1 h2.1.2 0 (by simpa using hz)
  rw[sidx0 hz,aj,iUe_,aj,hv]
  have h4:cLow (byt t.Name 0)=true:=by simpa[symC] using h3
  have h5:=iRi_.1 h4
  congr 1
  rw[← Bool.not_eq_true]
  intro g
  have:=iRi_.1 g
  omega
def VS(Q:List ByteArray→Prop)(acc v:List ByteArray)(vs:List ByteArray)(c:Nat):Prop:=(∀ x,x∈v↔x∈acc∨x∈vs)∧v.length≤acc.length+c∧(Q acc→Q v)
theorem vl_1(Q:List ByteArray→Prop)(F:Nat→List ByteArray→Tt→Option (List ByteArray))(N:Nat):∀ (l:List Tt) (i:Nat) (acc:List ByteArray),
 (∀ a∈l,∀ acc,Q acc→acc.length+a.cnt≤1000→∃ v,(∀ n,N≤n→F n acc a=some v)∧VS Q acc v a.vars a.cnt)→Q acc→acc.length+Tc_ l≤1000→
 ∃ v,(∀ n,N≤n→forL (ρ:=List ByteArray) (fun _ x s=>(F n s x).bind fun w=>some (.nx w)) l i acc=some (.inr v))∧VS Q acc v (Tv_ l) (Tc_ l)
 | [],i,acc,_,hq,_=>⟨acc,fun _ _=>rfl,fun x=>by simp[Tv_],by simp[Tc_],id⟩
 | a::l,i,acc,h,hq,hb=>by
  simp only[Tc_] at hb
  obtain⟨v,h1,h2,h3,h4⟩:=h a (by simp) acc hq (by omega)
  obtain⟨w,g1,g2,g3,g4⟩:=vl_1 Q F N l (i+1) v (fun b hb=>h b (by simp[hb])) (h4 hq) (by omega)
  refine⟨w,fun n hn=>?_,fun x=>?_,?_,fun q=>g4 (h4 q)⟩
  ·rw[fLn_ (s':=v) (by rw[h1 n hn]; rfl),g1 n hn]
  ·rw[g2,h2,Tv_,aK,or_assoc]
  ·simp only[Tc_]; omega
theorem cNo_(t:Tt):t.good=true→∀ acc,True→acc.length+t.cnt≤1000→∃ v,(∀ n,2*aC t≤n→icN_1 n acc t=some v)∧VS (fun _=>True) acc v t.vars t.cnt:=by
 refine Ti_ (M:=fun t=>t.good=true→∀ acc,True→acc.length+t.cnt≤1000→∃ v,(∀ n,2*aC t≤n→icN_1 n acc t=some v)∧VS (fun _=>True) acc v t.vars t.cnt) (fun t ih hg acc _ hb=>?_) t
 have hp:=t.pos
 have hiv:=iVg_ hg
 rcases nC_ hg with⟨hv,ha⟩ | ⟨hv,hs,_,hall⟩
 ·rw[Tvu_,hv,cond_true]
  have hc:=t.cnt_pos
  refine⟨bif acc.any (fun v=>decide (t.Name=v)) then acc else acc++[t.Name],fun n hn=>?_,fun x=>?_,?_,fun _=>trivial⟩
  ·cases n with
   | zero=>omega
   | succ n=>
    rw[icN_1,hiv,hv,ha]
    simp only[aj,aW,Cs_]
    cases acc.any (fun v=>decide (t.Name=v))
    ·simp only[cond_false,cond_true,app]
     rw[if_pos (by simp only[aG,aW]; omega)]; rfl
    ·rfl
  ·cases e:acc.any (fun v=>decide (t.Name=v))
   ·simp
   ·rw[cond_true]
    rw[List.any_eq_true] at e
    obtain⟨y,y1,y2⟩:=e
    have y2:=of_decide_eq_true y2
    refine⟨Or.inl,fun g=>g.elim id fun g=>?_⟩
    rw[List.mem_singleton] at g
    rw[g,y2]; exact y1
  ·cases acc.any (fun v=>decide (t.Name=v))
   ·simp only[cond_false,aL,aG,aW]; omega
   ·simp only[cond_true]; omega
 ·rw[Tvu_,hv,cond_false]
  have hcu:=t.cnt_u
  obtain⟨v,h1,h2,h3,h4⟩:=vl_1 (fun _=>True) (fun n s x=>icN_1 n s x) (2*aC t-1) t.Args 0 acc (fun a ha acc _ hb=>by
   obtain⟨v,k1,k2⟩:=ih a ha (hall a ha) acc trivial hb
   exact⟨v,fun n hn=>k1 n (by have:=Tt.lt ha; omega),k2⟩) trivial (by omega)
  refine⟨v,fun n hn=>?_,h2,by omega,h4⟩
  cases n with
  | zero=>omega
  | succ n=>
   rw[icN_1,hiv,hv]
   simp only[aj,cond_false,Bool.cond_self,fNi_]
   rw[h1 n (by omega)]; rfl
def Srt(l:List ByteArray):Prop:=l.Pairwise (fun a b=>slt a b=true)
theorem st_2{a b:ByteArray}(h:¬ slt a b=true)(h2:¬ a=b):slt b a=true:=by
 cases e:slt b a
 ·exact absurd (be_ (bLt_1 (by simpa[slt] using h) (by simpa[slt] using e))) h2
 ·rfl
theorem si_2{pre suf:List ByteArray}{x:ByteArray}(h:Srt (pre++suf))(h1:∀ y∈pre,slt y x=true)(h2:∀ y∈suf,slt x y=true):Srt (pre++[x]++suf):=by
 unfold Srt at*
 rw[List.pairwise_append] at h
 rw[List.append_assoc,List.pairwise_append]
 refine⟨h.1,?_,fun a ha b hb=>?_⟩
 ·rw[List.singleton_append,List.pairwise_cons]; exact⟨h2,h.2.1⟩
 ·rw[List.singleton_append,a8] at hb
  rcases hb with rfl | hb
  ·exact h1 a ha
  ·exact h.2.2 a ha b hb
theorem ie_{pre suf:List ByteArray}{x:ByteArray}(hb:(pre++suf).length≤1000)(i:Int)(hi:i=(pre.length:Nat)):(ae (slc (pre++suf) 0 i) fun v36=>ae (app ([]) v36) fun v37=>ae (app v37 ([x])) fun v40=>ae (slc (pre++suf) i ((pre++suf).length:Int)) fun v43=>app v40 v43)=some (pre++[x]++suf):=by
 subst hi
 simp only[aL] at hb
 have e1:slc (pre++suf) 0 (pre.length:Int)=some pre:=by unfold slc; rw[if_pos (by simp; omega)]; simp
 have e2:slc (pre++suf) (pre.length:Int) ((pre++suf).length:Int)=some suf:=by unfold slc; rw[if_pos (by simp; omega),Int.toNat_natCast,Int.toNat_natCast,List.take_length,List.drop_left]
 rw[e1,aj]
 have e3:app ([]:List ByteArray) pre=some pre:=by unfold app; rw[if_pos (by simp only[aW]; omega)]; rfl
 have e4:app pre [x]=some (pre++[x]):=by unfold app; rw[if_pos (by simp only[aG,aW]; omega)]
 rw[e3,aj,e4,aj,e2,aj]
 unfold app; rw[if_pos (by simp only[aL,aG,aW]; omega)]
theorem lPo_(acc:List ByteArray)(x:ByteArray)(hs:Srt acc)(hb:acc.length≤1000):∃ v,slP_3 acc x=some v∧(∀ y,y∈v↔y∈acc∨y∈[x])∧v.length≤acc.length+1∧Srt v:=by
 unfold slP_3
 have key:∀ (suf pre:List ByteArray),pre++suf=acc→(∀ y∈pre,slt y x=true)→∃ v,(thenL (ρ:=(List ByteArray)) (σ:=Unit) (forN (fun (i2:Nat) (s2:Unit)=>
  ae (idx acc (i2:Int)) fun v13=>
  bif Op.bytesLess v13.data.toList x.data.toList then
   some (.nx ())
  else
   ae (idx acc (i2:Int)) fun v27=>
   bif decide (v27=x) then
    some (.rt acc)
   else
    ae (slc acc (0:Int) (i2:Int)) fun v36=>
    ae (app ([]) v36) fun v37=>
    ae (app v37 ([x])) fun v40=>
    ae (slc acc (i2:Int) (acc.length:Int)) fun v43=>
    ae (app v40 v43) fun v44=>
    some (.rt v44)) suf.length pre.length ()) fun s2=>
  ae (slc acc (0:Int) ((acc.length:Nat):Int)) fun v36=>
  ae (app ([]) v36) fun v37=>
  ae (app v37 ([x])) fun v40=>
  ae (slc acc ((acc.length:Nat):Int) (acc.length:Int)) fun v43=>
  ae (app v40 v43) fun v44=>
  some v44)=some v∧(∀ y,y∈v↔y∈acc∨y∈[x])∧v.length≤acc.length+1∧Srt v:=by
  intro suf
  induction suf with
  | nil=>
   intro pre he hp
   rw[List.append_nil] at he
   subst he
   have e:=ie_ (pre:=pre) (suf:=[]) (x:=x) (by simpa using hb) pre.length rfl
   simp only[List.append_nil] at e
   refine⟨pre++[x],?_,fun y=>by simp,by simp,?_⟩
   ·rw[aW,fNz_,tLi_]
    have:=congrArg (fun o=>ae o fun v44=>some v44) e
    simpa only[Option.bind_assoc,aj] using this
   ·have:=si_2 (pre:=pre) (suf:=[]) (x:=x) (by simpa using hs) hp (by simp)
    simpa using this
  | cons s suf ih=>
   intro pre he hp
   have hi:idx acc (pre.length:Int)=some s:=by rw[in_,← he]; simp
   by_cases c1:slt s x=true
   ·rw[aG,fNn_ (s':=()) (by rw[hi,aj]; rw[show Op.bytesLess s.data.toList x.data.toList=true from c1]; rfl)]
    have:=ih (pre++[s]) (by simpa using he) (fun y hy=>by
     rw[aK,List.mem_singleton] at hy
     rcases hy with hy | rfl
     ·exact hp y hy
     ·exact c1)
    simpa only[aL,aG,aW,Nat.zero_add] using this
   ·have c1':Op.bytesLess s.data.toList x.data.toList=false:=by simpa[slt] using c1
    by_cases c2:s=x
    ·rw[aG,fNr_ (r:=acc) (by rw[hi,aj,c1',cond_false,aj,decide_eq_true c2]; rfl),tLi_1]
     refine⟨acc,rfl,fun y=>⟨Or.inl,fun g=>g.elim id fun g=>?_⟩,by omega,hs⟩
     rw[List.mem_singleton] at g
     rw[g,← he,← c2]; simp
    ·have c3:=st_2 c1 c2
     have e:=ie_ (pre:=pre) (suf:=s::suf) (x:=x) (by rw[he]; exact hb) pre.length rfl
     rw[he] at e
     have e':(ae (slc acc (0:Int) (pre.length:Int)) fun v36=>ae (app ([]) v36) fun v37=>ae (app v37 ([x])) fun v40=>ae (slc acc (pre.length:Int) (acc.length:Int)) fun v43=>ae (app v40 v43) fun v44=>some (Flow.rt (ρ:=List ByteArray) (σ:=Unit) v44))=some (.rt (pre++[x]++s::suf)):=by
      have:=congrArg (fun o=>ae o fun v44=>some (Flow.rt (ρ:=List ByteArray) (σ:=Unit) v44)) e
      simpa only[Option.bind_assoc,aj] using this
     rw[aG,fNr_ (r:=pre++[x]++s::suf) (by rw[hi,aj,c1',cond_false,aj,decide_eq_false c2,cond_false]; exact e'),tLi_1]
     refine⟨_,rfl,fun y=>?_,?_,si_2 (by rw[he]; exact hs) hp (fun y hy=>?_)⟩
     ·rw[← he]; simp only[aK,a8,List.mem_singleton,List.not_mem_nil,or_false]
      constructor
      ·rintro ((g | g) | g)
       ·exact Or.inl (Or.inl g)
       ·exact Or.inr g
       ·exact Or.inl (Or.inr g)
      ·rintro ((g | g) | g)
       ·exact Or.inl (Or.inl g)
       ·exact Or.inr g
       ·exact Or.inl (Or.inr g)
     ·rw[← he]; simp only[aL,aG,aW]; omega
     ·rw[a8] at hy
      rcases hy with rfl | hy
      ·exact c3
      ·have hs2:=hs
       rw[← he] at hs2
       unfold Srt at hs2
       rw[List.pairwise_append,List.pairwise_cons] at hs2
       have:=hs2.2.1.1 y hy
       exact bLt_ c3 this
 exact key acc [] rfl (by simp)
theorem lIN_(t:Tt):t.Ok→t.good=true→∀ acc,Srt acc→acc.length+t.cnt≤1000→∃ v,(∀ n,2*aC t≤n→slI_ n acc t=some v)∧VS Srt acc v t.vars t.cnt:=by
 refine Ti_ (M:=fun t=>t.Ok→t.good=true→∀ acc,Srt acc→acc.length+t.cnt≤1000→∃ v,(∀ n,2*aC t≤n→slI_ n acc t=some v)∧VS Srt acc v t.vars t.cnt) (fun t ih hok hg acc hq hb=>?_) t
 have hp:=t.pos
 have hiv:=lVe_ t.Name hok.u.1
 have hc:=t.cnt_pos
 rcases nC_ hg with⟨hv,ha⟩ | ⟨hv,hs,_,hall⟩
 ·rw[Tvu_,hv,cond_true]
  obtain⟨v,h1,h2,h3,h4⟩:=lPo_ acc t.Name hq (by omega)
  refine⟨v,fun n hn=>?_,h2,by omega,fun _=>h4⟩
  cases n with
  | zero=>omega
  | succ n=>
   rw[slI_,hiv,hv,h1]; rfl
 ·rw[Tvu_,hv,cond_false]
  have hcu:=t.cnt_u
  obtain⟨v,h1,h2,h3,h4⟩:=vl_1 Srt (fun n s x=>slI_ n s x) (2*aC t-1) t.Args 0 acc (fun a ha acc hq hb=>by
   obtain⟨v,k1,k2⟩:=ih a ha (hok.u.2.2 a ha) (hall a ha) acc hq hb
   exact⟨v,fun n hn=>k1 n (by have:=Tt.lt ha; omega),k2⟩) hq (by omega)
  refine⟨v,fun n hn=>?_,h2,by omega,h4⟩
  cases n with
  | zero=>omega
  | succ n=>
   rw[slI_,hiv,hv]
   simp only[aj,cond_false,fNi_]
   rw[h1 n (by omega)]; rfl
theorem co_{t:Tt}(hg:t.good=true)(hc:t.cnt≤1000):∃ v,ic_ [] t=some v∧∀ x,x∈v↔x∈t.vars:=by
 obtain⟨v,h1,h2,_⟩:=cNo_ t hg [] trivial (by simpa using hc)
 exact⟨v,le_ ⟨_,h1⟩,fun x=>by simpa using h2 x⟩
theorem lVo_{t:Tt}(hok:t.Ok)(hg:t.good=true)(hc:t.cnt≤1000):∃ v,slV_1 t=some v∧(∀ x,x∈v↔x∈t.vars)∧Srt v:=by
 obtain⟨v,h1,h2,_,h3⟩:=lIN_ t hok hg [] List.Pairwise.nil (by simpa using hc)
 refine⟨v,?_,fun x=>by simpa using h2 x,h3 List.Pairwise.nil⟩
 unfold slV_1
 rw[show slI_2 [] t=some v from le_ ⟨_,h1⟩]; rfl
theorem lo_{v w:List ByteArray}(h:∀ x,x∈v↔x∈w):decide ((v.length:Int)=0)=w.isEmpty:=by
 rw[iEd_]
 cases v with
 | nil=>
  cases w with
  | nil=>rfl
  | cons b w=>exact absurd ((h b).2 (by simp)) (by simp)
 | cons a v=>
  cases w with
  | nil=>exact absurd ((h a).1 (by simp)) (by simp)
  | cons b w=>rfl
end
section
theorem lTe_(a b:ByteArray):slT_1 a b=some (cmpS a b):=by
 unfold slT_1 cmpS
 by_cases h:slt a b=true
 ·rw[if_pos h]; rw[show Op.bytesLess a.data.toList b.data.toList=true from h]; rfl
 ·rw[if_neg h,show Op.bytesLess a.data.toList b.data.toList=false by simpa[slt] using h,cond_false]
  by_cases e:a=b
  ·rw[decide_eq_true e,if_pos e]; rfl
  ·rw[decide_eq_false e,if_neg e]; rfl
theorem cSs_(a:ByteArray):cmpS a a=0:=by
 unfold cmpS; rw[if_neg (by unfold slt; rw[bLi_]; decide),if_pos rfl]
theorem cSn_{a b:ByteArray}(h:¬ a=b):cmpS a b≠0:=by
 unfold cmpS; rw[if_neg h]; split<;>decide
def lexI(f:Nat→Int):Nat→Nat→Int
 | 0,_=>0
 | n+1,i=>if f i=0 then lexI f n (i+1) else f i
theorem fNl_{f:Nat→Int}{g:Nat→Unit→Option (Flow Int Unit)}{k:Unit→Option Int}(hk:k ()=some 0):∀ (n i:Nat),(∀ j,i≤j→j<i+n→g j ()=some (bif decide (f j=0) then .nx () else .rt (f j)))→
 thenL (forN g n i ()) k=some (lexI f n i)
 | 0,i,_=>by rw[fNz_,tLi_,hk]; rfl
 | n+1,i,h=>by
  have g1:=h i (Nat.le_refl _) (by omega)
  rw[lexI]
  by_cases e:f i=0
  ·rw[fNn_ (s':=()) (by rw[g1,decide_eq_true e]; rfl),if_pos e]
   exact fNl_ hk n (i+1) (fun j h1 h2=>h j (by omega) (by omega))
  ·rw[fNr_ (r:=f i) (by rw[g1,decide_eq_false e]; rfl),if_neg e,tLi_1]
mutual
def cmpR:Tt→Tt→Int
 | .mk n l,.mk m k=>if iVS_ n=iVS_ m then(if n=m then(if l.length<k.length then -1 else if k.length<l.length then 1 else cmpRs l k) else cmpS n m) else(if iVS_ n=true then -1 else 1)
def cmpRs:List Tt→List Tt→Int
 | a::l,b::k=>if cmpR a b=0 then cmpRs l k else cmpR a b
 | [],_=>0
 | _::_,[]=>0
end
def cmpB(a b:Tt):Int:=if a.Name=b.Name then(if a.Args.length<b.Args.length then -1 else if b.Args.length<a.Args.length then 1 else cmpRs a.Args b.Args) else cmpS a.Name b.Name
theorem cRu_(a b:Tt):cmpR a b=if iVS_ a.Name=iVS_ b.Name then cmpB a b else(if iVS_ a.Name=true then -1 else 1):=by cases a; cases b; rw[cmpR]; rfl
theorem lIe_1(l k:List Tt)(h:l.length=k.length):lexI (fun j=>cmpR (l.getD j default) (k.getD j default)) l.length 0=cmpRs l k:=by
 have key:∀ (l k pl pk:List Tt),pl.length=pk.length→l.length=k.length→lexI (fun j=>cmpR ((pl++l).getD j default) ((pk++k).getD j default)) l.length pl.length=cmpRs l k:=by
  intro l
  induction l with
  | nil=>intro k pl pk _ h; cases k with
   | nil=>rfl
   | cons _ _=>simp at h
  | cons a l ih=>
   intro k pl pk hp h
   cases k with
   | nil=>simp at h
   | cons b k=>
    simp only[aG,lexI]
    have e1:(pl++a::l).getD pl.length default=a:=by simp[List.getD]
    have e2:(pk++b::k).getD pl.length default=b:=by rw[hp]; simp[List.getD]
    rw[e1,e2,cmpRs]
    by_cases c:cmpR a b=0
    ·rw[if_pos c,if_pos c]
     have:=ih k (pl++[a]) (pk++[b]) (by simp[hp]) (by simpa using h)
     simpa using this
    ·rw[if_neg c,if_neg c]
 have:=key l k [] [] rfl h
 simpa using this
theorem cb_(a:Tt):∀ b:Tt,a.Ok→a.good=true→b.Ok→b.good=true→∀ n,2*aC a≤n→slC_ n a b=some (cmpR a b)∧icT_ n a b=some (cmpR a b):=by
 refine Ti_ (M:=fun a=>∀ b:Tt,a.Ok→a.good=true→b.Ok→b.good=true→∀ n,2*aC a≤n→slC_ n a b=some (cmpR a b)∧icT_ n a b=some (cmpR a b)) (fun a ih b oka ga okb gb=>?_) a
 have hp:=a.pos
 have ia:=iVg_ ga
 have ib:=iVg_ gb
 have sa:=lVe_ a.Name oka.u.1
 have sb:=lVe_ b.Name okb.u.1
 have gargs:∀ {t:Tt},t.good=true→∀ x∈t.Args,x.good=true:=fun {t} g x hx=>by
  rcases nC_ g with⟨_,h⟩ | ⟨_,_,_,h⟩
  ·rw[h] at hx; simp at hx
  ·exact h x hx
 have hR:∀ x∈a.Args,∀ y∈b.Args,∀ n,2*aC x≤n→slC_ n x y=some (cmpR x y)∧icT_ n x y=some (cmpR x y):=fun x hx y hy=>
  ih x hx y (oka.u.2.2 x hx) (gargs ga x hx) (okb.u.2.2 y hy) (gargs gb y hy)
 let w:Int:=if a.Name=b.Name then(if a.Args.length<b.Args.length then -1 else if b.Args.length<a.Args.length then 1 else lexI (fun j=>cmpR (a.Args.getD j default) (b.Args.getD j default)) a.Args.length 0) else cmpS a.Name b.Name
 have hS:∀ n,2*aC a≤n+1→(bif decide (a.Name=b.Name) then
  bif decide ((a.Args.length:Int)<(b.Args.length:Int)) then
   some (-1:Int)
  else
   bif decide ((b.Args.length:Int)<(a.Args.length:Int)) then
    some (1:Int)
   else
    thenL (ρ:=Int) (σ:=Unit) (forN (fun (i13:Nat) (s13:Unit)=>
     ae (idx a.Args (i13:Int)) fun v64=>
     ae (idx b.Args (i13:Int)) fun v69=>
     ae (slC_ n v64 v69) fun v71=>
     bif decide (v71=(0:Int)) then
      some (.nx ())
     else
      some (.rt v71)) a.Args.length 0 ()) fun s13=>
    some (0:Int)
  else
   ae (slT_1 a.Name b.Name) fun v37=>
   some v37)=some w:=by
  intro n hn
  simp only[w]
  by_cases e:a.Name=b.Name
  ·rw[decide_eq_true e,if_pos e,cond_true]
   by_cases e1:a.Args.length<b.Args.length
   ·rw[decide_eq_true (show(a.Args.length:Int)<(b.Args.length:Int) by omega),if_pos e1]; rfl
   ·rw[decide_eq_false (show ¬ (a.Args.length:Int)<(b.Args.length:Int) by omega),if_neg e1,cond_false]
    by_cases e2:b.Args.length<a.Args.length
    ·rw[decide_eq_true (show(b.Args.length:Int)<(a.Args.length:Int) by omega),if_pos e2]; rfl
    ·rw[decide_eq_false (show ¬ (b.Args.length:Int)<(a.Args.length:Int) by omega),if_neg e2,cond_false]
     refine fNl_ rfl _ _ (fun j _ hj=>?_)
     have ha:=gDm_ (l:=a.Args) (i:=j) (by omega)
     have hb:=gDm_ (l:=b.Args) (i:=j) (by omega)
     rw[igD_ (by omega),aj,igD_ (by omega),aj,(hR _ ha _ hb n (by have:=Tt.lt ha; omega)).1,aj]
     cases decide (cmpR (a.Args.getD j default) (b.Args.getD j default)=0)<;>rfl
  ·rw[decide_eq_false e,if_neg e,cond_false,lTe_]; rfl
 have hI:∀ n,2*aC a≤n+1→(ae (cCs_ a.Name b.Name) fun v28=>
  ae (cCi_ (a.Args.length:Int) (b.Args.length:Int)) fun v35=>
  ae (cOi_ ([v28,v35])) fun v37=>
  bif decide (v37=(0:Int)) then
   ae (sCF_1 a.Args b.Args (fun y0 y1=>icT_ n y0 y1)) fun v45=>
   some v45
  else
   some v37)=some w:=by
  intro n hn
  simp only[w]
  rw[CSe_,aj,Ce_,aj,Oe_,aj]
  by_cases e:a.Name=b.Name
  ·rw[if_pos e,e,cSs_,if_pos rfl]
   unfold cmpI
   by_cases e1:a.Args.length<b.Args.length
   ·rw[if_pos (show(a.Args.length:Int)<(b.Args.length:Int) by omega),if_pos e1]; rfl
   ·rw[if_neg (show ¬ (a.Args.length:Int)<(b.Args.length:Int) by omega),if_neg e1]
    by_cases e2:b.Args.length<a.Args.length
    ·rw[if_pos (show(b.Args.length:Int)<(a.Args.length:Int) by omega),if_pos e2]; rfl
    ·rw[if_neg (show ¬ (b.Args.length:Int)<(a.Args.length:Int) by omega),if_neg e2,decide_eq_true rfl,cond_true]
     unfold sCF_1
     rw[fNl_ (f:=fun j=>cmpR (a.Args.getD j default) (b.Args.getD j default)) (by rw[decide_eq_false (show ¬ (a.Args.length:Int)<(b.Args.length:Int) by omega)]; rfl) _ _ (fun j _ hj=>?_)]
     ·rfl
     ·have ha:=gDm_ (l:=a.Args) (i:=j) (by omega)
      have hb:=gDm_ (l:=b.Args) (i:=j) (by omega)
      rw[igD_ (by omega),aj,decide_eq_false (show ¬ (b.Args.length:Int)≤(j:Int) by omega),cond_false,igD_ (by omega),aj]
      have:=(hR _ ha _ hb n (by have:=Tt.lt ha; omega)).2
      simp only[this,aj]
      cases decide (cmpR (a.Args.getD j default) (b.Args.getD j default)=0)<;>rfl
  ·have:=cSn_ e
   rw[if_neg e,if_neg this,decide_eq_false this]; rfl
 have hr:cmpR a b=bif iVS_ a.Name then(bif iVS_ b.Name then w else -1) else(bif iVS_ b.Name then 1 else w):=by
  rw[cRu_]
  have hl:¬ a.Args.length<b.Args.length→¬ b.Args.length<a.Args.length→lexI (fun j=>cmpR (a.Args.getD j default) (b.Args.getD j default)) a.Args.length 0=cmpRs a.Args b.Args:=fun h1 h2=>lIe_1 a.Args b.Args (by omega)
  have hw:w=cmpB a b:=by
   simp only[w,cmpB]
   by_cases e:a.Name=b.Name
   ·rw[if_pos e,if_pos e]
    by_cases e1:a.Args.length<b.Args.length
    ·rw[if_pos e1,if_pos e1]
    ·rw[if_neg e1,if_neg e1]
     by_cases e2:b.Args.length<a.Args.length
     ·rw[if_pos e2,if_pos e2]
     ·rw[if_neg e2,if_neg e2,hl e1 e2]
   ·rw[if_neg e,if_neg e]
  rw[hw]
  cases iVS_ a.Name<;>cases iVS_ b.Name<;>rfl
 intro n hn
 rw[hr]
 cases n with
 | zero=>omega
 | succ n=>
  rw[slC_,icT_,sa,sb,ia,ib]
  simp only[aj]
  have h1:=hS n hn
  have h2:=hI n hn
  cases iVS_ a.Name<;>cases iVS_ b.Name<;>simp only[cond_true,cond_false]
  ·exact⟨h1,h2⟩
  ·exact⟨trivial,trivial⟩
  ·exact⟨trivial,trivial⟩
  ·exact⟨h1,h2⟩
theorem cRs_{a b:Tt}(h1:a.Ok)(h2:a.good=true)(h3:b.Ok)(h4:b.good=true):slC_1 a b=some (cmpR a b)∧icT_2 a b=some (cmpR a b):=
 ⟨le_ ⟨_,fun n hn=>(cb_ a b h1 h2 h3 h4 n hn).1⟩,le_ ⟨_,fun n hn=>(cb_ a b h1 h2 h3 h4 n hn).2⟩⟩
theorem cSn_1(a b:ByteArray):cmpS b a=- cmpS a b:=by
 unfold cmpS
 by_cases h:slt a b=true
 ·have h2:slt b a=false:=bLa_ h
  have hne:¬ b=a:=by rintro rfl; rw[h] at h2; cases h2
  rw[if_pos h,if_neg (by rw[h2]; simp),if_neg hne]; rfl
 ·by_cases e:a=b
  ·subst e; rw[if_neg h,if_pos rfl]; rfl
  ·have:=st_2 h e
   rw[if_pos this,if_neg h,if_neg e]
theorem cSl_{a b:ByteArray}:cmpS a b<0↔slt a b=true:=by
 unfold cmpS
 by_cases h:slt a b=true
 ·rw[if_pos h]; simp[h]
 ·rw[if_neg h]
  split<;>simp[h]
theorem cRz_1:∀ (l k:List Tt),(∀ x∈l,∀ y,cmpR x y=0→x=y)→l.length=k.length→cmpRs l k=0→l=k
 | [],[],_,_,_=>rfl
 | [],_::_,_,h,_=>by simp at h
 | _::_,[],_,h,_=>by simp at h
 | a::l,b::k,ih,h,hz=>by
  rw[cmpRs] at hz
  by_cases c:cmpR a b=0
  ·rw[if_pos c] at hz
   rw[ih a (by simp) b c,cRz_1 l k (fun x hx=>ih x (by simp[hx])) (by simpa using h) hz]
  ·rw[if_neg c] at hz; exact absurd hz c
theorem cRz_(a:Tt):∀ b,cmpR a b=0→a=b:=by
 refine Ti_ (M:=fun a=>∀ b,cmpR a b=0→a=b) (fun a ih b h=>?_) a
 rw[cRu_] at h
 by_cases hv:iVS_ a.Name=iVS_ b.Name
 ·rw[if_pos hv] at h
  unfold cmpB at h
  by_cases e:a.Name=b.Name
  ·rw[if_pos e] at h
   by_cases e1:a.Args.length<b.Args.length
   ·rw[if_pos e1] at h; omega
   ·rw[if_neg e1] at h
    by_cases e2:b.Args.length<a.Args.length
    ·rw[if_pos e2] at h; omega
    ·rw[if_neg e2] at h
     have:=cRz_1 a.Args b.Args ih (by omega) h
     cases a; cases b; simp only[TNm_,TAm_] at e this; rw[e,this]
  ·rw[if_neg e] at h; exact absurd h (cSn_ e)
 ·rw[if_neg hv] at h; split at h<;>omega
theorem cRn_1:∀ (l k:List Tt),(∀ x∈l,∀ y,cmpR y x=- cmpR x y)→cmpRs k l=- cmpRs l k
 | [],[],_=>rfl
 | [],_::_,_=>rfl
 | _::_,[],_=>rfl
 | a::l,b::k,ih=>by
  rw[cmpRs,cmpRs,ih a (by simp) b]
  by_cases c:cmpR a b=0
  ·rw[if_pos c,if_pos (by omega)]; exact cRn_1 l k fun x hx=>ih x (by simp[hx])
  ·rw[if_neg c,if_neg (by omega)]
theorem cRn_(a:Tt):∀ b,cmpR b a=- cmpR a b:=by
 refine Ti_ (M:=fun a=>∀ b,cmpR b a=- cmpR a b) (fun a ih b=>?_) a
 rw[cRu_,cRu_ a]
 by_cases hv:iVS_ a.Name=iVS_ b.Name
 ·rw[if_pos hv,if_pos hv.symm]
  unfold cmpB
  by_cases e:a.Name=b.Name
  ·rw[if_pos e,if_pos e.symm]
   by_cases e1:a.Args.length<b.Args.length
   ·rw[if_pos e1,if_neg (by omega),if_pos e1]; rfl
   ·by_cases e2:b.Args.length<a.Args.length
    ·rw[if_pos e2,if_neg e1,if_pos e2]
    ·rw[if_neg e2,if_neg e1,if_neg e1,if_neg e2]; exact cRn_1 _ _ ih
  ·rw[if_neg e,if_neg (Ne.symm e)]; exact cSn_1 _ _
 ·rw[if_neg hv,if_neg (Ne.symm hv)]
  cases h1:iVS_ a.Name<;>cases h2:iVS_ b.Name
  ·rw[h1,h2] at hv; exact absurd rfl hv
  ·simp
  ·simp
  ·rw[h1,h2] at hv; exact absurd rfl hv
theorem cRs_1(a:Tt):cmpR a a=0:=by have:=cRn_ a a; omega
theorem cRt_1:∀ (l k m:List Tt),(∀ x∈l,∀ y z,cmpR x y<0→cmpR y z<0→cmpR x z<0)→cmpRs l k<0→cmpRs k m<0→cmpRs l m<0
 | [],k,m,_,h,_=>by cases k<;>simp[cmpRs] at h
 | _::_,[],m,_,h,_=>by simp[cmpRs] at h
 | _::_,_::_,[],_,_,h=>by simp[cmpRs] at h
 | a::l,b::k,c::m,ih,h1,h2=>by
  rw[cmpRs] at h1 h2 ⊢
  by_cases e1:cmpR a b=0
  ·obtain rfl:=cRz_ a b e1
   rw[if_pos e1] at h1
   by_cases e2:cmpR a c=0
   ·rw[if_pos e2] at h2 ⊢; exact cRt_1 l k m (fun x hx=>ih x (by simp[hx])) h1 h2
   ·rw[if_neg e2] at h2 ⊢; exact h2
  ·rw[if_neg e1] at h1
   by_cases e2:cmpR b c=0
   ·obtain rfl:=cRz_ b c e2
    rw[if_neg e1]; exact h1
   ·rw[if_neg e2] at h2
    have:=ih a (by simp) b c h1 h2
    rw[if_neg (by omega)]; exact this
theorem cRt_(a:Tt):∀ b c,cmpR a b<0→cmpR b c<0→cmpR a c<0:=by
 refine Ti_ (M:=fun a=>∀ b c,cmpR a b<0→cmpR b c<0→cmpR a c<0) (fun a ih b c h1 h2=>?_) a
 rw[cRu_] at h1 h2 ⊢
 have body:cmpB a b<0→cmpB b c<0→cmpB a c<0:=by
  unfold cmpB
  intro h1 h2
  by_cases e1:a.Name=b.Name
  ·rw[if_pos e1] at h1
   by_cases e2:b.Name=c.Name
   ·rw[if_pos e2] at h2
    rw[if_pos (e1.trans e2)]
    by_cases l1:a.Args.length<b.Args.length
    ·by_cases l2:b.Args.length<c.Args.length
     ·rw[if_pos (by omega)]; omega
     ·rw[if_neg l2] at h2
      by_cases l3:c.Args.length<b.Args.length
      ·rw[if_pos l3] at h2; omega
      ·rw[if_pos (by omega)]; omega
    ·rw[if_neg l1] at h1
     by_cases l2:b.Args.length<a.Args.length
     ·rw[if_pos l2] at h1; omega
     ·rw[if_neg l2] at h1
      by_cases l3:b.Args.length<c.Args.length
      ·rw[if_pos (by omega)]; omega
      ·rw[if_neg l3] at h2
       by_cases l4:c.Args.length<b.Args.length
       ·rw[if_pos l4] at h2; omega
       ·rw[if_neg l4] at h2
        rw[if_neg (by omega),if_neg (by omega)]
        exact cRt_1 _ _ _ ih h1 h2
   ·rw[if_neg e2] at h2
    rw[if_neg (fun h=>e2 (e1▸h)),e1]; exact h2
  ·rw[if_neg e1] at h1
   by_cases e2:b.Name=c.Name
   ·rw[if_neg (fun h=>e1 (h.trans e2.symm)),← e2]; exact h1
   ·rw[if_neg e2] at h2
    have h3:slt a.Name c.Name=true:=bLt_ (cSl_.1 h1) (cSl_.1 h2)
    have h4:¬ a.Name=c.Name:=fun h=>by
     have h5:=cSl_.1 h1
     have h6:=cSl_.1 h2
     rw[← h] at h6
     have:slt b.Name a.Name=false:=bLa_ h5
     rw[this] at h6; cases h6
    rw[if_neg h4]; exact cSl_.2 h3
 cases va:iVS_ a.Name<;>cases vb:iVS_ b.Name<;>cases vc:iVS_ c.Name<;>simp[va,vb,vc] at h1 h2 ⊢
 ·exact body h1 h2
 ·exact body h1 h2
end
section
noncomputable def ascC(l:List Tt)(j:Nat):Bool:=decide (j=0)||decide (cmpR (l.getD (j-1) default) (l.getD j default)<0)
noncomputable def asc(l:List Tt):Bool:=(List.range l.length).all (ascC l)
theorem ai_{l:List Tt}(hok:LOk Tt.Ok l)(hg:∀ a∈l,a.good=true):iaA_ l=some (asc l&&decide (l.length≤12)):=by
 unfold iaA_ asc
 rw[fNa_ (ascC l)]
 ·cases (List.range l.length).all (ascC l)
  ·rfl
  ·rw[cond_true,Bool.true_and]; congr 1; exact decide_eq_decide.2 (by omega)
 ·intro j hj _
  by_cases h0:j=0
  ·subst h0; rfl
  ·have hb:=hok.1
   have hp:=gDm_ (l:=l) (i:=j-1) (by omega)
   have hq:=gDm_ (l:=l) (i:=j) (by omega)
   rw[decide_eq_true (show(0:Int)<(j:Int) by omega),cond_true,ip_ hj (by omega) (by simp only[Big] at hb; omega),aj,igD_ hj,aj,
    (cRs_ (hok.2 _ hp) (hg _ hp) (hok.2 _ hq) (hg _ hq)).2,aj]
   unfold ascC
   rw[decide_eq_false h0,Bool.false_or]
   by_cases c:cmpR (l.getD (j-1) default) (l.getD j default)<0
   ·rw[decide_eq_true c,decide_eq_false (by omega)]; rfl
   ·rw[decide_eq_false c,decide_eq_true (by omega)]; rfl
theorem as_{l:List Tt}(hok:LOk Tt.Ok l)(hg:∀ a∈l,a.good=true):slR_ l=some (asc l):=by
 unfold slR_ asc
 by_cases hn:0<l.length
 ·rw[fNa_1 (ascC l) hn (by rfl)]
  ·cases (List.range l.length).all (ascC l)<;>rfl
  ·intro j h0 hj _
   have hb:=hok.1
   have hp:=gDm_ (l:=l) (i:=j-1) (by omega)
   have hq:=gDm_ (l:=l) (i:=j) (by omega)
   rw[ip_ hj (by omega) (by simp only[Big] at hb; omega),aj,igD_ hj,aj,
    (cRs_ (hok.2 _ hp) (hg _ hp) (hok.2 _ hq) (hg _ hq)).1,aj]
   unfold ascC
   rw[decide_eq_false (show ¬ j=0 by omega),Bool.false_or]
   by_cases c:cmpR (l.getD (j-1) default) (l.getD j default)<0
   ·rw[decide_eq_true c,decide_eq_false (by omega)]; rfl
   ·rw[decide_eq_false c,decide_eq_true (by omega)]; rfl
 ·have:l=[]:=List.length_eq_zero_iff.1 (by omega)
  subst this; rfl
def nameA:ByteArray:=⟨#[65]⟩
def gndT(t:Tt):Bool:=goodT t&&t.vars.isEmpty
def patT(t:Tt):Bool:=goodT t&&t.vars.all (fun x=>decide (x=nameA))
theorem gTu_{t:Tt}(h:goodT t=true):t.good=true∧t.cnt≤1000:=by
 unfold goodT sT_ at h
 simp only[ar,decide_eq_true_eq] at h
 exact⟨h.2,by omega⟩
theorem iGe_(t:Tt)(h:t.tot≤1048576)(hok:t.Ok):iiG_ t=some (gndT t):=by
 unfold iiG_ gndT
 rw[IVT_ t h hok,aj]
 cases hg:goodT t
 ·rfl
 ·obtain⟨v,h1,h2⟩:=co_ (gTu_ hg).1 (gTu_ hg).2
  rw[cond_true,h1,aj,lo_ h2]; rfl
theorem nGe_(t:Tt)(h:t.tot≤1048576)(hok:t.Ok):inG_ t=some (!gndT t):=by
 unfold inG_; rw[iGe_ t h hok]; rfl
theorem ai_1{v w:List ByteArray}(h:∀ x,x∈v↔x∈w)(p:ByteArray→Bool):v.any p=w.any p:=by
 rw[Bool.eq_iff_iff,List.any_eq_true,List.any_eq_true]
 exact⟨fun ⟨x,a,b⟩=>⟨x,(h x).1 a,b⟩,fun ⟨x,a,b⟩=>⟨x,(h x).2 a,b⟩⟩
theorem iPe_(t:Tt)(h:t.tot≤1048576)(hok:t.Ok):iiP_ t=some (patT t):=by
 unfold iiP_ patT
 rw[IVT_ t h hok,aj]
 cases hg:goodT t
 ·rfl
 ·obtain⟨v,h1,h2⟩:=co_ (gTu_ hg).1 (gTu_ hg).2
  rw[cond_true,h1,aj]
  unfold sCF_4 sIF_1
  rw[fl_ (f:=fun y0=>iiP_1 y0) (p:=fun x=>!decide (x=nameA)) v (fun a ha=>rfl),aj,ai_1 h2,Bool.true_and,List.all_eq_not_any_not]
theorem gs_(t:Tt)(hok:t.Ok)(hg:goodT t=true):slG_ t=some t.vars.isEmpty:=by
 obtain⟨v,h1,h2,_⟩:=lVo_ hok (gTu_ hg).1 (gTu_ hg).2
 unfold slG_
 rw[h1,aj,lo_ h2]
theorem ls_2{l:List Tt}(hok:LOk Tt.Ok l)(ht:∀ a∈l,a.tot≤1048576)(h12:l.length≤12):slT_ l=some (l.all gndT):=by
 unfold slT_
 rw[fNa_ (fun j=>gndT (l.getD j default)) (r0:=false),ral_ l gndT]
 ·rw[decide_eq_true (show(l.length:Int)≤60 by omega)]
  cases l.all gndT<;>rfl
 ·intro j hj _
  have hm:=gDm_ hj
  rw[decide_eq_true (show(j:Int)≤60 by omega),cond_true,igD_ hj,aj,lGo_ _ (ht _ hm) (hok.2 _ hm),aj]
  unfold gndT
  cases hg:goodT (l.getD j default)
  ·rfl
  ·rw[cond_true,aj,gs_ _ (hok.2 _ hm) hg,aj]
   cases (l.getD j default).vars.isEmpty<;>rfl
def patD(e:Bool)(t:Tt):Bool:=patT t&&(!e||gndT t)
theorem ps_1{ρ:Type}{e:Bool}{t:Tt}(hok:t.Ok)(hg:goodT t=true)(f:ρ)(k:ρ):(ae (slV_1 t) fun v40=>
 bif decide ((1:Int)<(v40.length:Int)) then
  some f
 else
  bif decide ((v40.length:Int)=(1:Int)) then
   ae (idx v40 (0:Int)) fun v50=>
   bif decide (v50=(⟨#[65]⟩:ByteArray)) then
    bif e then
     some f
    else
     some k
   else
    some f
  else
   some k)=some (bif patD e t then k else f):=by
 obtain⟨v,h1,h2,h3⟩:=lVo_ hok (gTu_ hg).1 (gTu_ hg).2
 have hall:t.vars.all (fun x=>decide (x=nameA))=v.all (fun x=>decide (x=nameA)):=by
  rw[List.all_eq_not_any_not,List.all_eq_not_any_not,ai_1 h2]
 have hemp:t.vars.isEmpty=v.isEmpty:=by rw[← lo_ h2,iEd_]
 unfold patD patT gndT
 rw[h1,aj,hg,hall,hemp]
 cases v with
 | nil=>cases e<;>rfl
 | cons a v=>
  cases v with
  | nil=>
   rw[decide_eq_false (by simp),cond_false,decide_eq_true (by simp),cond_true,show idx [a] (0:Int)=some a from rfl,aj]
   rw[show(⟨#[65]⟩:ByteArray)=nameA from rfl]
   by_cases c:a=nameA
   ·simp only[bh,List.all_nil,List.isEmpty_cons,decide_eq_true c]
    cases e<;>rfl
   ·simp only[bh,List.all_nil,List.isEmpty_cons,decide_eq_false c]
    cases e<;>rfl
  | cons b v=>
   rw[decide_eq_true (by simp only[aG]; omega),cond_true]
   have hab:¬ (a=nameA∧b=nameA):=by
    rintro ⟨rfl,rfl⟩
    unfold Srt at h3
    rw[List.pairwise_cons] at h3
    have:=h3.1 nameA (by simp)
    unfold slt at this
    rw[bLi_] at this; cases this
   have:((a::b::v).all fun x=>decide (x=nameA))=false:=by
    simp only[bh]
    by_cases c:a=nameA
    ·rw[decide_eq_false (fun g=>hab ⟨c,g⟩)]; simp
    ·rw[decide_eq_false c]; rfl
   rw[this]; rfl
noncomputable def vD_(d:Dt):Bool:=decide (d.Patterns.length≤12)&&decide (d.Instances.length≤12)&&d.Instances.all gndT&&d.Patterns.all (patD d.Instances.isEmpty)&&asc d.Patterns&&asc d.Instances
theorem gg_1{l:List Tt}(h:l.all gndT=true):∀ a∈l,a.good=true:=fun a ha=>by
 have:=List.all_eq_true.1 h a ha
 unfold gndT at this
 rw[ar] at this
 exact(gTu_ this.1).1
theorem pg_{l:List Tt}(h:l.all patT=true):∀ a∈l,a.good=true:=fun a ha=>by
 have:=List.all_eq_true.1 h a ha
 unfold patT at this
 rw[ar] at this
 exact(gTu_ this.1).1
theorem pDa_(e:Bool)(l:List Tt):l.all (patD e)=(l.all patT&&(!e||l.all gndT)):=by
 induction l with
 | nil=>cases e<;>rfl
 | cons a l ih=>
  simp only[bh,ih,patD]
  cases e<;>cases patT a<;>cases gndT a<;>cases l.all patT<;>cases l.all gndT<;>rfl
theorem tot_mem{l:List Tt}{a:Tt}(h:a∈l):a.tot≤ltot Tt.tot l:=by
 have:=lsm_ Tt.tot h
 unfold ltot; omega
theorem contF{p:Tt→Bool}{f:Tt→Option Bool}(l:List Tt)(h:∀ a∈l,f a=some (!p a)):sCF_ l f=some (!l.all p):=by
 unfold sCF_ sIF_
 rw[fl_ (p:=fun a=>!p a) l h,List.all_eq_not_any_not,Bool.not_not]
theorem id_1(d:Dt)(hok:d.Ok)(ht:d.tot≤1048576):iIV_1 d=some (vD_ d):=by
 unfold iIV_1 vD_
 unfold Dt.tot at ht
 have tI:∀ a∈d.Instances,inG_ a=some (!gndT a):=fun a ha=>nGe_ a (by have:=tot_mem ha; omega) (hok.2.2 a ha)
 have tP:∀ a∈d.Patterns,inG_ a=some (!gndT a):=fun a ha=>nGe_ a (by have:=tot_mem ha; omega) (hok.1.2 a ha)
 have tQ:∀ a∈d.Patterns,iIV_ a=some (!patT a):=fun a ha=>by
  unfold iIV_
  rw[iPe_ a (by have:=tot_mem ha; omega) (hok.1.2 a ha)]; rfl
 rw[contF d.Instances tI,aj,contF d.Patterns tQ,aj,contF d.Patterns tP,aj,pDa_]
 cases hI:d.Instances.all gndT
 ·simp
 ·cases hP:d.Patterns.all patT
  ·simp
  ·rw[ai_ hok.1 (pg_ hP),aj,ai_ hok.2 (gg_1 hI),aj]
   have:decide ((0:Int)<(d.Instances.length:Int))=!d.Instances.isEmpty:=by cases d.Instances<;>simp
   rw[this]
   cases asc d.Patterns<;>cases asc d.Instances<;>cases decide (d.Patterns.length≤12)<;>cases decide (d.Instances.length≤12)<;>cases d.Instances.isEmpty<;>cases d.Patterns.all gndT<;>rfl
end
section
theorem mapL{α β ρ:Type}{f:α→Option β}{g:α→β}:∀ (l:List α) (i:Nat) (s:List β),(∀ a∈l,f a=some (g a))→s.length+l.length≤1073741824→
 forL (ρ:=ρ) (fun _ x (s:List β)=>(f x).bind fun v=>(app s [v]).bind fun w=>some (.nx w)) l i s=some (.inr (s++l.map g))
 | [],i,s,_,_=>by simp[forL]
 | a::l,i,s,h,hb=>by
  simp only[aG] at hb
  rw[fLn_ (s':=s++[g a]) (by rw[h a (by simp),aj]; unfold app; rw[if_pos (by simp only[aG,aW]; omega)]; rfl),
   mapL l (i+1) _ (fun b hb=>h b (by simp[hb])) (by simp only[aL,aG,aW]; omega)]
  simp
theorem cl_2:∀ l:List Tt,l.length≤Tc_ l
 | []=>by simp
 | a::l=>by have:=cl_2 l; have:=a.cnt_pos; simp only[Tc_,aG]; omega
theorem cm_{a:Tt}:∀ {l:List Tt},a∈l→a.cnt≤Tc_ l
 | b::l,h=>by
  simp only[Tc_]
  rcases List.mem_cons.1 h with rfl | h
  ·omega
  ·have:=cm_ h; omega
theorem ownTN(t:Tt):t.cnt≤10000000→∀ n,2*aC t≤n→slO_1 n t=some t:=by
 refine Ti_ (M:=fun t=>t.cnt≤10000000→∀ n,2*aC t≤n→slO_1 n t=some t) (fun t ih hc n hn=>?_) t
 have hp:=t.pos
 have hu:=t.cnt_u
 have hl:=cl_2 t.Args
 cases n with
 | zero=>omega
 | succ n=>
  rw[slO_1]
  simp only[fNi_]
  rw[mapL (f:=slO_1 n) (g:=fun x=>x) t.Args 0 [] (fun a ha=>ih a ha (by have:=cm_ ha; omega) n (by have:=Tt.lt ha; omega)) (by simp; omega),tLi_]
  simp[t.eta]
theorem ownT(t:Tt)(h:t.cnt≤10000000):slO_ t=some t:=le_ ⟨_,ownTN t h⟩
theorem cT_(t:Tt):t.cnt≤10000000→∀ n,3*aC t≤n→icT_1 n t=some t:=by
 refine Ti_ (M:=fun t=>t.cnt≤10000000→∀ n,3*aC t≤n→icT_1 n t=some t) (fun t ih hc n hn=>?_) t
 have hp:=t.pos
 have hu:=t.cnt_u
 have hl:=cl_2 t.Args
 obtain⟨m,rfl⟩:∃ m,n=m+2:=⟨n-2,by omega⟩
 show icT_1 (m+2) _=_
 rw[icT_1]
 show ae (icT_3 (m+1) t.Args) _=_
 rw[icT_3,iEd_]
 cases he:t.Args.isEmpty
 ·rw[cond_false,toL (f:=icT_1 m) (g:=fun x=>x) (z:=(Tt.mk (⟨#[]⟩:ByteArray) ([]))) (xs:=t.Args) (fun a ha=>ih a ha (by have:=cm_ ha; omega) m (by have:=Tt.lt ha; omega)) (by omega)]
  simp[t.eta]
 ·have h0:t.Args=[]:=by simpa using he
  rw[cond_true,aj]
  conv=>rhs; rw[← t.eta,h0]
theorem copyT(t:Tt)(h:t.cnt≤10000000):icT_5 t=some t:=le_ ⟨_,cT_ t h⟩
mutual
def sbT(n:ByteArray)(t:Tt):Tt→Tt
 | .mk x l=>bif l.isEmpty&&decide (x=n) then t else .mk x (sbTs n t l)
def sbTs(n:ByteArray)(t:Tt):List Tt→List Tt
 | []=>[]
 | a::l=>sbT n t a::sbTs n t l
end
theorem sTe_(n:ByteArray)(t:Tt)(l:List Tt):sbTs n t l=l.map (sbT n t):=by
 induction l with
 | nil=>rfl
 | cons a l ih=>rw[sbTs,ih]; rfl
theorem sbT_u(n:ByteArray)(t a:Tt):sbT n t a=bif a.Args.isEmpty&&decide (a.Name=n) then t else .mk a.Name (a.Args.map (sbT n t)):=by cases a; rw[sbT,sTe_]; rfl
theorem lPe_1(n:ByteArray)(t:Tt)(h:t.cnt≤10000000):slP_1 ⟨[]⟩ n t=some (bif decide (t.Name=n) then⟨[]⟩ else⟨[⟨n,t⟩]⟩):=by
 unfold slP_1
 cases decide (t.Name=n)
 ·simp only[cond_false,aW,fNz_,tLi_,ownT t h]
  rfl
 ·rfl
def one(n:ByteArray)(t:Tt):Sa:=bif decide (t.Name=n) then⟨[]⟩ else⟨[⟨n,t⟩]⟩
theorem fo_2(n:ByteArray)(t:Tt)(x:ByteArray):slF_1 (one n t) x=some (bif decide (t.Name=n) then -1 else bif decide (n=x) then 0 else -1):=by
 unfold one
 cases decide (t.Name=n)
 ·simp only[cond_false,slF_1,aG,aW]
  show thenL (forN _ (0+1) 0 ()) _=_
  cases e:decide (n=x)
  ·rw[fNn_ (s':=()) (by show ae (some _) _=_; rw[aj,e]; rfl)]; rfl
  ·rw[fNr_ (r:=((0:Nat):Int)) (by show ae (some _) _=_; rw[aj,e]; rfl)]; rfl
 ·rfl
theorem sn_2{n:ByteArray}{t a:Tt}(hn:iVS_ n=true)(ha:iVS_ a.Name=false):sbT n t a=.mk a.Name (a.Args.map (sbT n t)):=by
 rw[sbT_u,decide_eq_false (fun e=>by rw[e,hn] at ha; cases ha),Bool.and_false,cond_false]
theorem lAN_{n:ByteArray}{t:Tt}(hn:iVS_ n=true)(ht:t.cnt≤10000000)(hg:t.good=true)(a:Tt):a.Ok→a.good=true→∀ k,2*aC a≤k→slA_ k (one n t) a=some (sbT n t a):=by
 refine Ti_ (M:=fun a=>a.Ok→a.good=true→∀ k,2*aC a≤k→slA_ k (one n t) a=some (sbT n t a)) (fun a ih hok hga k hk=>?_) a
 have hp:=a.pos
 cases k with
 | zero=>omega
 | succ k=>
  rw[slA_,lVe_ _ hok.u.1,aj]
  rcases nC_ hga with⟨hv,ha⟩ | ⟨hv,hs,h4,hall⟩
  ·rw[hv,cond_true,fo_2,aj,sbT_u,ha]
   by_cases e:t.Name=n
   ·rw[decide_eq_true e,cond_true]
    have hta:t.Args=[]:=by
     rcases nC_ hg with⟨_,h⟩ | ⟨h,_⟩
     ·exact h
     ·rw[e,hn] at h; cases h
    rw[show decide ((0:Int)≤-1)=false from rfl,cond_false]
    by_cases e2:a.Name=n
    ·rw[decide_eq_true e2]
     have:t=⟨a.Name,[]⟩:=by rw[← t.eta,hta,e,e2]
     rw[this]; rfl
    ·rw[decide_eq_false e2]; rfl
   ·rw[decide_eq_false e,cond_false]
    by_cases e2:a.Name=n
    ·rw[decide_eq_true e2.symm,decide_eq_true e2,cond_true]
     have:one n t=⟨[⟨n,t⟩]⟩:=by unfold one; rw[decide_eq_false e]; rfl
     rw[this,show decide ((0:Int)≤0)=true from rfl,cond_true]
     show ae (some _) _=_
     rw[aj,ownT t ht]; rfl
    ·rw[decide_eq_false (Ne.symm e2),decide_eq_false e2]; rfl
  ·rw[hv,cond_false,sn_2 hn hv]
   simp only[fNi_]
   rw[mapL (f:=slA_ k (one n t)) (g:=sbT n t) a.Args 0 [] (fun x hx=>ih x hx (hok.u.2.2 x hx) (hall x hx) k (by have:=Tt.lt hx; omega)) (by simp; omega),tLi_]
   simp
mutual
def Tt.occ(v:ByteArray):Tt→Nat
 | .mk x l=>(bif decide (x=v) then 1 else 0)+To_ v l
def To_(v:ByteArray):List Tt→Nat
 | []=>0
 | a::l=>a.occ v+To_ v l
end
theorem Tou_(v:ByteArray)(a:Tt):a.occ v=(bif decide (a.Name=v) then 1 else 0)+To_ v a.Args:=by cases a; rw[Tt.occ]; rfl
theorem cn_le(v:ByteArray)(a:Tt):a.occ v≤a.cnt:=by
 refine Ti_ (M:=fun a=>a.occ v≤a.cnt) (fun a ih=>?_) a
 have:∀ l:List Tt,(∀ x∈l,x.occ v≤x.cnt)→To_ v l≤Tc_ l:=by
  intro l
  induction l with
  | nil=>intro _; simp[To_]
  | cons b l ihl=>intro h; have:=h b (by simp); have:=ihl (fun x hx=>h x (by simp[hx])); simp only[To_,Tc_]; omega
 have:=this a.Args ih
 rw[Tou_,a.cnt_u]
 cases decide (a.Name=v)<;>simp<;>omega
theorem cl_3(v:ByteArray):∀ l:List Tt,To_ v l≤Tc_ l
 | []=>by simp[To_]
 | a::l=>by have:=cn_le v a; have:=cl_3 v l; simp only[To_,Tc_]; omega
theorem cl_1(v:ByteArray)(f:Tt→Option Int):∀ (l:List Tt) (i s:Nat),(∀ x∈l,f x=some (x.occ v:Int))→s+To_ v l≤1000000000→
 forL (ρ:=Int) (fun _ x (s:Int)=>(f x).bind fun c=>some (.nx (IntKind.i64.wrap (s+c)))) l i (s:Int)=some (.inr ((s+To_ v l:Nat):Int))
 | [],i,s,_,_=>by simp[forL,To_]
 | a::l,i,s,h,hb=>by
  simp only[To_] at hb
  rw[fLn_ (s':=((s+a.occ v:Nat):Int)) (by rw[h a (by simp),aj,w_ (by omega) (by omega)]; simp),cl_1 v f l (i+1) _ (fun x hx=>h x (by simp[hx])) (by omega)]
  simp only[To_,Nat.add_assoc]
theorem cNe_(v:ByteArray)(a:Tt):a.cnt≤10000000→∀ n,2*aC a≤n→icN_ n a v=some (a.occ v:Int):=by
 refine Ti_ (M:=fun a=>a.cnt≤10000000→∀ n,2*aC a≤n→icN_ n a v=some (a.occ v:Int)) (fun a ih hc n hn=>?_) a
 have hp:=a.pos
 have hu:=a.cnt_u
 have hcl:=cl_3 v a.Args
 cases n with
 | zero=>omega
 | succ n=>
  have hf:∀ x∈a.Args,icN_ n x v=some (x.occ v:Int):=fun x hx=>ih x hx (by have:=cm_ hx; omega) n (by have:=Tt.lt hx; omega)
  rw[icN_,Tou_]
  simp only[fNi_]
  cases decide (a.Name=v)
  ·have:=cl_1 v (fun x=>icN_ n x v) a.Args 0 0 hf (by omega)
   rw[cond_false,show((0:Nat):Int)=0 from rfl] at*
   rw[this,tLi_]; simp
  ·have:=cl_1 v (fun x=>icN_ n x v) a.Args 0 1 hf (by omega)
   rw[cond_true,show((1:Nat):Int)=1 from rfl] at*
   rw[this,tLi_]; simp
theorem cv_1{v:ByteArray}(hv:iVS_ v=true)(a:Tt):a.good=true→(0<a.occ v↔v∈a.vars):=by
 refine Ti_ (M:=fun a=>a.good=true→(0<a.occ v↔v∈a.vars)) (fun a ih hg=>?_) a
 rw[Tou_,Tvu_]
 rcases nC_ hg with⟨h1,h2⟩ | ⟨h1,_,_,hall⟩
 ·rw[h1,cond_true,h2,List.mem_singleton]
  by_cases e:a.Name=v
  ·rw[decide_eq_true e]; simp[e]; try omega
  ·rw[decide_eq_false e]; simp[To_,Ne.symm e]
 ·rw[h1,cond_false,decide_eq_false (fun e=>by rw[e,hv] at h1; cases h1),cond_false,Nat.zero_add]
  have:∀ l:List Tt,(∀ x∈l,(0<x.occ v↔v∈x.vars))→(0<To_ v l↔v∈Tv_ l):=by
   intro l
   induction l with
   | nil=>intro _; simp[To_,Tv_]
   | cons b l ihl=>
    intro h
    simp only[To_,Tv_,aK]
    rw[← h b (by simp),← ihl (fun x hx=>h x (by simp[hx]))]; omega
  exact this a.Args (fun x hx=>ih x hx (hall x hx))
def hasV(v:ByteArray)(l:List ByteArray):Bool:=l.any fun y=>decide (v=y)
theorem hVi_{v:ByteArray}{l:List ByteArray}:hasV v l=true↔v∈l:=by
 unfold hasV; rw[List.any_eq_true]
 exact⟨fun ⟨y,h1,h2⟩=>by rw[of_decide_eq_true h2]; exact h1,fun h=>⟨v,h,decide_eq_true rfl⟩⟩
theorem oe_{v:ByteArray}(hv:iVS_ v=true){a:Tt}(hg:a.good=true)(hc:a.cnt≤10000000):io_ v a=some (hasV v a.vars):=by
 unfold io_
 rw[show icN_2 a v=some (a.occ v:Int) from le_ ⟨_,cNe_ v a hc⟩,aj]
 congr 1
 rw[Bool.eq_iff_iff,hVi_,← cv_1 hv a hg,decide_eq_true_iff]
 omega
end
section
theorem sTc_{t:Tt}(h:sT_ t=true):t.cnt≤30:=by
 unfold sT_ at h; rw[ar] at h; exact of_decide_eq_true h.1
theorem gTi_{t:Tt}(h:goodT t=true):t.good=true∧t.cnt≤30:=by
 unfold goodT at h; rw[ar] at h; exact⟨h.2,sTc_ h.1⟩
theorem TOo_(t:Tt):t.tot≤1048576→t.Ok:=by
 refine Ti_ (M:=fun t=>t.tot≤1048576→t.Ok) (fun t ih h=>?_) t
 have hu:=t.tot_u
 have hl:=ll_ Tt.tot t.Args
 have:=Tt.Ok.mk t.Name t.Args (by simp only[Big]; omega) (by simp only[Big]; omega) (fun a ha=>ih a ha (by have:=Go.Av.tot_mem Tt.tot ha; omega))
 rwa [t.eta] at this
mutual
def Tt.tiny:Tt→Bool
 | .mk x l=>decide (x.size≤6)&&Tt_ l
def Tt_:List Tt→Bool
 | []=>true
 | a::l=>a.tiny&&Tt_ l
end
theorem Tte_(l:List Tt):Tt_ l=l.all Tt.tiny:=by
 induction l with
 | nil=>rfl
 | cons a l ih=>rw[Tt_,ih]; rfl
theorem Ttu_(t:Tt):t.tiny=(decide (t.Name.size≤6)&&t.Args.all Tt.tiny):=by cases t; rw[Tt.tiny,Tte_]; rfl
theorem tt_:∀ l:List Tt,(∀ a∈l,a.tot+1≤7*a.cnt)→ltot Tt.tot l≤7*Tc_ l
 | [],_=>by simp[ltot]
 | a::l,h=>by
  have h1:=h a (by simp)
  have h2:=tt_ l (fun x hx=>h x (by simp[hx]))
  simp only[ltot,aG,az,bg,Tc_] at*
  omega
theorem tt_1(t:Tt):t.tiny=true→t.tot+1≤7*t.cnt:=by
 refine Ti_ (M:=fun t=>t.tiny=true→t.tot+1≤7*t.cnt) (fun t ih h=>?_) t
 rw[Ttu_,ar,decide_eq_true_iff,aY] at h
 have h1:=tt_ t.Args (fun a ha=>ih a ha (h.2 a ha))
 rw[t.tot_u,t.cnt_u]; omega
theorem vs_1{s:ByteArray}(h:iVS_ s=true):s.size≤4:=by
 unfold iVS_ at h
 rw[ar] at h
 have:=iRi_.1 h.1; omega
theorem ss_2{s:ByteArray}(h:iSS_ s=true):s.size≤6:=by
 unfold iSS_ at h
 rw[ar,ar] at h
 have:=iRi_.1 h.1.1; omega
theorem gt_(t:Tt):t.good=true→t.tiny=true:=by
 refine Ti_ (M:=fun t=>t.good=true→t.tiny=true) (fun t ih h=>?_) t
 rw[Ttu_,ar,decide_eq_true_iff,aY]
 rcases nC_ h with⟨h1,h2⟩ | ⟨_,h1,_,hall⟩
 ·exact⟨by have:=vs_1 h1; omega,by rw[h2]; simp⟩
 ·exact⟨ss_2 h1,fun a ha=>ih a ha (hall a ha)⟩
theorem st_3{n:ByteArray}{t:Tt}(ht:t.tiny=true)(a:Tt):a.tiny=true→(sbT n t a).tiny=true:=by
 refine Ti_ (M:=fun a=>a.tiny=true→(sbT n t a).tiny=true) (fun a ih h=>?_) a
 rw[Ttu_,ar,aY] at h
 rw[sbT_u]
 cases (a.Args.isEmpty&&decide (a.Name=n))
 ·rw[cond_false,Ttu_,ar,aY]
  refine⟨h.1,fun x hx=>?_⟩
  obtain⟨y,hy,rfl⟩:=List.mem_map.1 hx
  exact ih y hy (h.2 y hy)
 ·exact ht
theorem sc_1{n:ByteArray}{t:Tt}:∀ l:List Tt,(∀ a∈l,(sbT n t a).cnt≤a.cnt*t.cnt)→Tc_ (l.map (sbT n t))≤Tc_ l*t.cnt
 | [],_=>by simp[Tc_]
 | a::l,h=>by
  have h1:=h a (by simp)
  have h2:=sc_1 l (fun x hx=>h x (by simp[hx]))
  simp only[az,Tc_,Nat.add_mul]; omega
theorem sc_3{n:ByteArray}{t:Tt}(a:Tt):(sbT n t a).cnt≤a.cnt*t.cnt:=by
 refine Ti_ (M:=fun a=>(sbT n t a).cnt≤a.cnt*t.cnt) (fun a ih=>?_) a
 have hp:=t.cnt_pos
 have h1:=sc_1 a.Args ih
 rw[sbT_u,a.cnt_u,Nat.add_mul,Nat.one_mul]
 cases (a.Args.isEmpty&&decide (a.Name=n))
 ·rw[cond_false,Tt.cnt_u]; show 1+Tc_ (a.Args.map _)≤_; omega
 ·rw[cond_true]; omega
theorem gTO_{t:Tt}(h:goodT t=true):t.tot≤210∧t.Ok:=by
 obtain⟨h1,h2⟩:=gTi_ h
 have:=tt_1 t (gt_ t h1)
 exact⟨by omega,TOo_ t (by omega)⟩
end
section
theorem nAv_:iVS_ nameA=true:=by decide
theorem gAh_(t:Tt)(x:ByteArray):GMap.has (GMap.put (GMap.empty:GMap Tt) nameA t) x=decide (x=nameA):=by
 show ghas x [(nameA,t,_)]=_
 unfold ghas
 by_cases e:nameA=x
 ·rw[if_pos e,decide_eq_true e.symm]
 ·rw[if_neg e,decide_eq_false (Ne.symm e)]; rfl
theorem gAg_(t z:Tt):GMap.get (GMap.put (GMap.empty:GMap Tt) nameA t) nameA z=t:=by
 show gget z nameA [(nameA,t,_)]=_
 unfold gget
 rw[if_pos rfl]
theorem rNe_{t:Tt}(ht:t.cnt≤10000000)(a:Tt):a.cnt≤10000000→∀ k,2*aC a≤k→irV_ k a (GMap.put (GMap.empty:GMap Tt) nameA t)=some (sbT nameA t a):=by
 refine Ti_ (M:=fun a=>a.cnt≤10000000→∀ k,2*aC a≤k→irV_ k a (GMap.put (GMap.empty:GMap Tt) nameA t)=some (sbT nameA t a)) (fun a ih hc k hk=>?_) a
 have hp:=a.pos
 have hu:=a.cnt_u
 have hl:=cl_2 a.Args
 cases k with
 | zero=>omega
 | succ k=>
  have hm:=mapL (ρ:=Tt) (f:=fun x=>irV_ k x (GMap.put (GMap.empty:GMap Tt) nameA t)) (g:=sbT nameA t) a.Args 0 [] (fun x hx=>ih x hx (by have:=cm_ hx; omega) k (by have:=Tt.lt hx; omega)) (by simp; omega)
  rw[irV_,gAh_,iEd_,sbT_u]
  simp only[fNi_]
  rw[hm,tLi_,List.nil_append]
  by_cases e:a.Name=nameA
  ·rw[decide_eq_true e,cond_true]
   cases he:a.Args.isEmpty
   ·rfl
   ·rw[cond_true,e,gAg_,copyT t ht]; rfl
  ·rw[decide_eq_false e,cond_false,Bool.and_false]; rfl
theorem fe_{p t:Tt}(hp:p.cnt≤10000000)(ht:t.cnt≤10000000):if_ p t=some (sbT nameA t p):=by
 unfold if_
 show ae (irV_1 p (GMap.put (GMap.empty:GMap Tt) nameA t)) _=_
 rw[show irV_1 p (GMap.put (GMap.empty:GMap Tt) nameA t)=some (sbT nameA t p) from le_ ⟨_,rNe_ ht p hp⟩]; rfl
theorem fe_1{p t:Tt}(hp:goodT p=true)(ht:goodT t=true):slF_ p t=some (sbT nameA t p):=by
 have h1:=gTi_ hp
 have h2:=gTi_ ht
 unfold slF_
 show ae (slP_1 ⟨[]⟩ nameA t) _=_
 rw[lPe_1 nameA t (by omega),aj]
 show ae (slA_1 (one nameA t) p) _=_
 rw[show slA_1 (one nameA t) p=some (sbT nameA t p) from le_ ⟨_,lAN_ nAv_ (by omega) h2.1 p (gTO_ hp).2 h1.1⟩]; rfl
def Gd(l:List Tt):Prop:=∀ a∈l,goodT a=true
theorem cmp_g{a b:Tt}(ha:goodT a=true)(hb:goodT b=true):slC_1 a b=some (cmpR a b)∧icT_2 a b=some (cmpR a b):=
 cRs_ (gTO_ ha).2 (gTi_ ha).1 (gTO_ hb).2 (gTi_ hb).1
def putT(x:Tt):List Tt→List Tt
 | []=>[x]
 | y::l=>if cmpR y x<0 then y::putT x l else if cmpR y x=0 then y::l else x::y::l
noncomputable def addT(x:Tt)(l:List Tt):List Tt:=bif l.any (fun y=>same y x) then l else l++[x]
theorem cRs_2(a b:Tt):same a b=decide (cmpR a b=0):=by
 rw[Bool.eq_iff_iff,si_,decide_eq_true_iff]
 exact⟨fun h=>h▸cRs_1 a,cRz_ a b⟩
theorem pTm_(x z:Tt):∀ l,z∈putT x l↔z=x∨z∈l
 | []=>by simp[putT]
 | y::l=>by
  simp only[putT]
  split
  ·rw[a8,pTm_ x z l,a8]
   constructor
   ·rintro (h | h | h)<;>simp[h]
   ·rintro (h | h | h)<;>simp[h]
  ·split
   ·rename_i e
    have:=cRz_ y x e
    subst this
    simp
   ·simp
def SrtT(l:List Tt):Prop:=l.Pairwise fun a b=>cmpR a b<0
theorem pTs_(x:Tt):∀ l,SrtT l→SrtT (putT x l)
 | [],_=>by simp[putT,SrtT]
 | y::l,h=>by
  unfold SrtT at h ⊢
  rw[List.pairwise_cons] at h
  simp only[putT]
  split
  ·rename_i c
   rw[List.pairwise_cons]
   refine⟨fun z hz=>?_,pTs_ x l h.2⟩
   rcases (pTm_ x z l).1 hz with rfl | hz
   ·exact c
   ·exact h.1 z hz
  ·split
   ·rw[List.pairwise_cons]; exact h
   ·rename_i c1 c2
    have hxy:cmpR x y<0:=by have:=cRn_ y x; omega
    rw[List.pairwise_cons,List.pairwise_cons]
    refine⟨fun z hz=>?_,h⟩
    rcases List.mem_cons.1 hz with rfl | hz
    ·exact hxy
    ·exact cRt_ x y z hxy (h.1 z hz)
theorem pTl_(x:Tt):∀ l,(putT x l).length≤l.length+1
 | []=>by simp[putT]
 | y::l=>by
  simp only[putT]
  have:=pTl_ x l
  split
  ·simp only[aG]; omega
  ·split<;>simp
theorem pTg_{x:Tt}{l:List Tt}(hx:goodT x=true)(hl:Gd l):Gd (putT x l):=fun a ha=>by
 rcases (pTm_ x a l).1 ha with rfl | h
 ·exact hx
 ·exact hl a h
theorem as_1(x:Tt)(l:List Tt):l.any (fun y=>same y x)=true↔x∈l:=by
 rw[List.any_eq_true]
 exact⟨fun ⟨y,h1,h2⟩=>si_.1 h2▸h1,fun h=>⟨x,h,si_.2 rfl⟩⟩
theorem aTm_(x z:Tt)(l:List Tt):z∈addT x l↔z=x∨z∈l:=by
 unfold addT
 cases h:l.any (fun y=>same y x)
 ·simp only[cond_false,aK,List.mem_singleton]; exact or_comm
 ·rw[cond_true]
  have:=(as_1 x l).1 h
  exact⟨.inr,fun h=>h.elim (fun e=>e▸this) id⟩
theorem aTn_(x:Tt)(l:List Tt)(h:l.Nodup):(addT x l).Nodup:=by
 unfold addT
 cases e:l.any (fun y=>same y x)
 ·rw[cond_false,List.nodup_append]
  refine⟨h,by simp,fun a ha b hb=>?_⟩
  rintro rfl
  rw[List.mem_singleton] at hb
  subst hb
  rw[(as_1 a l).2 ha] at e; cases e
 ·exact h
theorem aTl_(x:Tt)(l:List Tt):(addT x l).length≤l.length+1:=by
 unfold addT
 cases l.any (fun y=>same y x)
 ·simp
 ·simp
theorem aTg_{x:Tt}{l:List Tt}(hx:goodT x=true)(hl:Gd l):Gd (addT x l):=fun a ha=>by
 rcases (aTm_ x a l).1 ha with rfl | h
 ·exact hx
 ·exact hl a h
theorem aAe_(l:List Tt)(x:Tt)(hx:x.cnt≤10000000)(hl:l.length≤1000000):iaA_1 l x=some (addT x l):=by
 unfold iaA_1 sCF_ sIF_ addT
 rw[fl_ (p:=fun y=>same y x) l (fun a _=>by unfold iaA_2; rw[ETo_]; rfl),aj,copyT x hx]
 cases l.any (fun y=>same y x)
 ·rw[cond_false,cond_false,aj]
  unfold app
  rw[if_pos (by simp only[aG,aW]; omega)]; rfl
 ·rfl
theorem lPe_(x:Tt)(hx:goodT x=true)(l:List Tt)(hg:Gd l)(hl:l.length≤1048576):slP_ l x=some (putT x l):=by
 unfold slP_
 have tl:∀ {β:Type} (K:List Tt→Option β) (pre rest:List Tt),pre.length+rest.length≤1048576→(ae (slc (pre++rest) (0:Int) (pre.length:Int)) fun v36=>ae (app ([]) v36) fun v37=>ae (app v37 ([x])) fun v40=>ae (slc (pre++rest) (pre.length:Int) ((pre++rest).length:Int)) fun v43=>ae (app v40 v43) fun v44=>K v44)=K (pre++x::rest):=by
  intro β K pre rest h
  have e1:slc (pre++rest) (0:Int) (pre.length:Int)=some pre:=by
   unfold slc; rw[if_pos ⟨by omega,by omega,by simp; omega⟩]; simp
  have e2:slc (pre++rest) (pre.length:Int) ((pre++rest).length:Int)=some rest:=by
   unfold slc; rw[if_pos ⟨by omega,by simp; omega,by omega⟩]; simp only[Int.toNat_natCast,List.take_length,List.drop_left]
  rw[e1,e2]
  simp only[aj,app,aW,Nat.zero_add,List.nil_append]
  rw[if_pos (by omega)]
  simp only[aj,aG,aW]
  rw[if_pos (by omega)]
  simp only[aj,aL,aG,aW]
  rw[if_pos (by omega)]
  simp
 have key:∀ (rest pre:List Tt),Gd rest→pre.length+rest.length≤1048576→
  thenL (ρ:=List Tt) (forN (fun (i2:Nat) (s2:Unit)=>
   ae (idx (pre++rest) (i2:Int)) fun v13=>
   ae (slC_1 v13 x) fun v16=>
   bif decide (v16<(0:Int)) then some (.nx ())
   else ae (idx (pre++rest) (i2:Int)) fun v27=>ae (slS_4 v27 x) fun v31=>bif v31 then some (.rt (pre++rest)) else
    ae (slc (pre++rest) (0:Int) (i2:Int)) fun v36=>ae (app ([]) v36) fun v37=>ae (app v37 ([x])) fun v40=>ae (slc (pre++rest) (i2:Int) ((pre++rest).length:Int)) fun v43=>ae (app v40 v43) fun v44=>some (.rt v44)) rest.length pre.length ()) (fun _=>
   ae (slc (pre++rest) (0:Int) (((pre++rest).length:Nat):Int)) fun v36=>ae (app ([]) v36) fun v37=>ae (app v37 ([x])) fun v40=>ae (slc (pre++rest) (((pre++rest).length:Nat):Int) ((pre++rest).length:Int)) fun v43=>ae (app v40 v43) fun v44=>some v44)=some (pre++putT x rest):=by
  intro rest
  induction rest with
  | nil=>
   intro pre _ h
   have:=tl some pre [] (by simpa using h)
   simpa[putT,forN,tLi_] using this
  | cons y rest ih=>
   intro pre hg h
   have hy:=(cmp_g (hg y (by simp)) hx).1
   simp only[putT,aG]
   by_cases c:cmpR y x<0
   ·rw[fNn_ (s':=()) (by rw[im_,aj,hy,aj,decide_eq_true c]; rfl),if_pos c]
    have:=ih (pre++[y]) (fun a ha=>hg a (by simp[ha])) (by simp at h ⊢; omega)
    simpa using this
   ·by_cases e:cmpR y x=0
    ·rw[fNr_ (r:=pre++y::rest) (by rw[im_,aj,hy,aj,decide_eq_false c,cond_false,aj,lSo_,aj,cRs_2,decide_eq_true e]; rfl),tLi_1,if_neg c,if_pos e]
    ·rw[fNr_ (r:=pre++x::y::rest) (by
      rw[im_,aj,hy,aj,decide_eq_false c,cond_false,aj,lSo_,aj,cRs_2,decide_eq_false e,cond_false]
      exact tl (fun v=>some (Flow.rt v)) pre (y::rest) h),tLi_1,if_neg c,if_neg e]
 exact key l [] hg (by simpa using hl)
noncomputable def aA_(xs l:List Tt):List Tt:=xs.foldl (fun l x=>addT x l) l
def pAT_(xs l:List Tt):List Tt:=xs.foldl (fun l x=>putT x l) l
theorem aAm_(z:Tt):∀ (xs l:List Tt),z∈aA_ xs l↔z∈xs∨z∈l
 | [],l=>by simp[aA_]
 | x::xs,l=>by
  show z∈aA_ xs (addT x l)↔_
  rw[aAm_ z xs,aTm_,a8]
  constructor
  ·rintro (h | h | h)<;>simp[h]
  ·rintro ((h | h) | h)<;>simp[h]
theorem pAT_2(z:Tt):∀ (xs l:List Tt),z∈pAT_ xs l↔z∈xs∨z∈l
 | [],l=>by simp[pAT_]
 | x::xs,l=>by
  show z∈pAT_ xs (putT x l)↔_
  rw[pAT_2 z xs,pTm_,a8]
  constructor
  ·rintro (h | h | h)<;>simp[h]
  ·rintro ((h | h) | h)<;>simp[h]
theorem aAn_:∀ (xs l:List Tt),l.Nodup→(aA_ xs l).Nodup
 | [],l,h=>h
 | x::xs,l,h=>aAn_ xs _ (aTn_ x l h)
theorem pAT_1:∀ (xs l:List Tt),SrtT l→SrtT (pAT_ xs l)
 | [],l,h=>h
 | x::xs,l,h=>pAT_1 xs _ (pTs_ x l h)
theorem aAl_:∀ (xs l:List Tt),(aA_ xs l).length≤l.length+xs.length
 | [],l=>by simp[aA_]
 | x::xs,l=>by
  have:=aAl_ xs (addT x l)
  have:=aTl_ x l
  show(aA_ xs (addT x l)).length≤_
  simp only[aG]; omega
theorem STn_{l:List Tt}(h:SrtT l):l.Nodup:=h.imp (fun {a b} h e=>by rw[e,cRs_1] at h; omega)
theorem cTe_{a b:Tt}(ha:goodT a=true)(hb:goodT b=true):cmpT a b=cmpR a b:=by
 unfold cmpT; rw[(cmp_g ha hb).2]; rfl
theorem cRl_1{a b c:Tt}(h1:¬ cmpR a b<0)(h2:¬ cmpR b c<0):¬ cmpR a c<0:=by
 intro h
 have n1:=cRn_ a b
 have n2:=cRn_ b c
 by_cases e1:cmpR a b=0
 ·rw[cRz_ a b e1] at h; exact h2 h
 ·have:=cRt_ b a c (by omega) h
  exact h2 this
theorem sOg_{l:List Tt}(h:Gd l)(hl:l.length≤1073741824):SortOk l where
 len:=hl
 ex:=fun x hx y hy=>by rw[cTe_ (h x hx) (h y hy),(cmp_g (h x hx) (h y hy)).2]
 irr:=fun x hx=>by rw[cTe_ (h x hx) (h x hx),cRs_1]; omega
 tr:=fun x hx y hy z hz h1 h2=>by
  rw[cTe_ (h x hx) (h y hy)] at h1
  rw[cTe_ (h y hy) (h z hz)] at h2
  rw[cTe_ (h x hx) (h z hz)]
  exact cRt_ x y z h1 h2
 ntr:=fun x hx y hy z hz h1 h2=>by
  rw[cTe_ (h x hx) (h y hy)] at h1
  rw[cTe_ (h y hy) (h z hz)] at h2
  rw[cTe_ (h x hx) (h z hz)]
  exact cRl_1 h1 h2
 anti:=fun x hx y hy h1 h2=>by
  rw[cTe_ (h x hx) (h y hy)] at h1
  rw[cTe_ (h y hy) (h x hx)] at h2
  have:=cRn_ x y
  exact cRz_ x y (by omega)
theorem ga_{l:List Tt}(h:l.all goodT=true):Gd l:=fun a ha=>List.all_eq_true.1 h a ha
theorem sp_{xs:List Tt}(h:Gd xs)(hl:xs.length≤1048576):sSF_ (aA_ xs [])=some ((),pAT_ xs []):=by
 have hg:Gd (aA_ xs []):=fun a ha=>h a (by have:=(aAm_ a xs []).1 ha; simpa using this)
 have hlen:=aAl_ xs []
 have hok:=sOg_ hg (by simp only[aW] at hlen; omega)
 have hs:=pAT_1 xs [] List.Pairwise.nil
 have hperm:(pAT_ xs []).Perm (aA_ xs []):=by
  rw[List.perm_ext_iff_of_nodup (STn_ hs) (aAn_ xs [] List.nodup_nil)]
  intro a; rw[pAT_2,aAm_]
 unfold sSF_
 rw[if_pos hok,so_ hok hperm (hs.imp_of_mem (fun {a b} ha hb hab=>by
  have ga:=hg a (hperm.mem_iff.1 ha)
  have gb:=hg b (hperm.mem_iff.1 hb)
  rw[cTe_ gb ga]
  have:=cRn_ a b; omega))]
end
section
theorem gl_{α ρ:Type}(q:α→Tt)(step:Tt→List Tt→List Tt)(F:Nat→α→List Tt→Option (Flow ρ (List Tt)))(r:ρ)
 (hlen:∀ x s,(step x s).length≤s.length+1) (hgd:∀ x s,goodT x=true→Gd s→Gd (step x s)):
 ∀ (xs:List α) (i:Nat) (s:List Tt),(∀ x∈xs,∀ i s,Gd s→s.length≤100000→F i x s=some (bif goodT (q x) then .nx (step (q x) s) else .rt r))→Gd s→s.length+xs.length≤100001→
 forL F xs i s=some (bif (xs.map q).all goodT then .inr ((xs.map q).foldl (fun s x=>step x s) s) else .inl r)
 | [],i,s,_,_,_=>rfl
 | x::xs,i,s,h,hs,hl=>by
  simp only[aG] at hl
  have h0:=h x (by simp) i s hs (by omega)
  simp only[az,bh,List.foldl_cons]
  cases hg:goodT (q x)
  ·rw[hg] at h0
   rw[fLr_ (r:=r) h0]; rfl
  ·rw[hg] at h0
   have:=hlen (q x) s
   rw[fLn_ (s':=step (q x) s) h0,gl_ q step F r hlen hgd xs (i+1) (step (q x) s) (fun y hy=>h y (by simp[hy])) (hgd _ _ hg hs) (by omega),Bool.true_and]
theorem fg_{step:Tt→List Tt→List Tt}(hgd:∀ x s,goodT x=true→Gd s→Gd (step x s)):∀ (xs s:List Tt),xs.all goodT=true→Gd s→Gd (xs.foldl (fun s x=>step x s) s)
 | [],s,_,h=>h
 | x::xs,s,h,hs=>by
  rw[bh,ar] at h
  exact fg_ hgd xs _ h.2 (hgd x s h.1 hs)
theorem fl_1{step:Tt→List Tt→List Tt}(hlen:∀ x s,(step x s).length≤s.length+1):∀ (xs s:List Tt),(xs.foldl (fun s x=>step x s) s).length≤s.length+xs.length
 | [],s=>by simp
 | x::xs,s=>by
  have:=fl_1 hlen xs (step x s)
  have:=hlen x s
  simp only[List.foldl_cons,aG]; omega
theorem go_{ρ:Type}(gen:Tt→List Tt)(step:Tt→List Tt→List Tt)(F:Nat→Tt→List Tt→Option (Flow ρ (List Tt)))(r:ρ)
 (hlen:∀ x s,(step x s).length≤s.length+1) (hgd:∀ x s,goodT x=true→Gd s→Gd (step x s)):
 ∀ (ps:List Tt) (i:Nat) (s:List Tt),(∀ p∈ps,∀ i s,Gd s→s.length≤10000→F i p s=some (bif (gen p).all goodT then .nx ((gen p).foldl (fun s x=>step x s) s) else .rt r))→
 (∀ p∈ps,(gen p).length≤100)→Gd s→s.length+100*ps.length≤10000→
 forL F ps i s=some (bif (ps.flatMap gen).all goodT then .inr ((ps.flatMap gen).foldl (fun s x=>step x s) s) else .inl r)
 | [],i,s,_,_,_,_=>rfl
 | p::ps,i,s,h,hn,hs,hl=>by
  simp only[aG] at hl
  have h0:=h p (by simp) i s hs (by omega)
  have h1:=hn p (by simp)
  rw[List.flatMap_cons,List.all_append,List.foldl_append]
  cases hg:(gen p).all goodT
  ·rw[hg] at h0
   rw[fLr_ (r:=r) h0]; rfl
  ·rw[hg] at h0
   have:=fl_1 hlen (gen p) s
   rw[fLn_ (s':=(gen p).foldl (fun s x=>step x s) s) h0,go_ gen step F r hlen hgd ps (i+1) _ (fun y hy=>h y (by simp[hy])) (fun y hy=>hn y (by simp[hy])) (fg_ hgd _ _ hg hs) (by omega),Bool.true_and]
noncomputable def gens(d:Dt)(p:Tt):List Tt:=bif hasV nameA p.vars then d.Instances.map (fun t=>sbT nameA t p) else [p]
noncomputable def G0(d:Dt):List Tt:=d.Patterns.flatMap (gens d)
theorem sf_{p t:Tt}(hp:goodT p=true)(ht:goodT t=true):(sbT nameA t p).tot≤7000∧(sbT nameA t p).Ok∧(sbT nameA t p).cnt≤900:=by
 obtain⟨g1,g2⟩:=gTi_ hp
 obtain⟨g3,g4⟩:=gTi_ ht
 have e1:=tt_1 _ (st_3 (n:=nameA) (gt_ t g3) p (gt_ _ g1))
 have e2:=sc_3 (n:=nameA) (t:=t) p
 have e3:p.cnt*t.cnt≤30*30:=Nat.mul_le_mul g2 g4
 exact⟨by omega,TOo_ _ (by omega),by omega⟩
theorem gl_1{d:Dt}(hd:vD_ d=true)(p:Tt):(gens d p).length≤100:=by
 unfold vD_ at hd
 simp only[ar,decide_eq_true_eq] at hd
 unfold gens
 cases hasV nameA p.vars
 ·simp
 ·rw[cond_true,List.length_map]; omega
theorem vp_2{d:Dt}(hd:vD_ d=true):d.Patterns.length≤12∧d.Instances.length≤12∧(∀ p∈d.Patterns,goodT p=true∧hasV nameA p.vars=!p.vars.isEmpty)∧∀ t∈d.Instances,goodT t=true:=by
 unfold vD_ at hd
 simp only[ar,decide_eq_true_eq] at hd
 obtain⟨⟨⟨⟨⟨h1,h2⟩,h3⟩,h4⟩,_⟩,_⟩:=hd
 refine⟨h1,h2,fun p hp=>?_,fun t ht=>?_⟩
 ·have:=List.all_eq_true.1 h4 p hp
  unfold patD patT at this
  simp only[ar] at this
  refine⟨this.1.1,?_⟩
  have ha:=this.1.2
  cases hv:p.vars with
  | nil=>rfl
  | cons x l=>
   rw[hv,bh,ar,decide_eq_true_eq] at ha
   rw[ha.1]
   show hasV nameA (nameA::l)=true
   exact hVi_.2 (by simp)
 ·have:=List.all_eq_true.1 h3 t ht
  unfold gndT at this
  rw[ar] at this
  exact this.1
theorem li_(d:Dt)(hd:vD_ d=true):il_ d=some (bif (G0 d).all goodT then(pAT_ (G0 d) [],true) else([],false)):=by
 obtain⟨v1,v2,v3,v4⟩:=vp_2 hd
 unfold il_
 simp only[fNi_]
 rw[go_ (gens d) addT _ (([],false):List Tt×Bool) aTl_ (fun x s=>aTg_) d.Patterns 0 [] (fun p hp i s hs hl=>?_) (fun p _=>gl_1 hd p) (fun a ha=>by simp at ha) (by simp; omega)]
 ·show thenL (some (bif (G0 d).all goodT then .inr (aA_ (G0 d) []) else .inl _)) _=_
  cases hg:(G0 d).all goodT
  ·rfl
  ·rw[cond_true,tLi_,sp_ (ga_ hg) (by
    have:(G0 d).length≤100*12:=by
     unfold G0
     have key:∀ ps:List Tt,(ps.flatMap (gens d)).length≤100*ps.length:=fun ps=>by
      induction ps with
      | nil=>simp
      | cons p ps ih=>
       have:=gl_1 hd p
       rw[List.flatMap_cons,aL,aG]; omega
     have:=key d.Patterns
     omega
    omega)]; rfl
 ·obtain⟨g,hv⟩:=v3 p hp
  have gi:=gTi_ g
  show ae (io_ nameA p) _=_
  rw[oe_ nAv_ gi.1 (by omega),aj]
  unfold gens
  cases hh:hasV nameA p.vars
  ·rw[cond_false,aAe_ s p (by omega) (by omega)]
   show _=some (bif ([p].all goodT) then _ else _)
   rw[bh,g]; rfl
  ·simp only[cond_true]
   rw[gl_ (fun t=>sbT nameA t p) addT _ (Flow.rt ([],false)) aTl_ (fun x s=>aTg_) d.Instances 0 s (fun t ht i s hs hl=>?_) hs (by omega)]
   ·cases (d.Instances.map fun t=>sbT nameA t p).all goodT<;>rfl
   ·have gt:=v4 t ht
    have f:=sf_ g gt
    have:=gTi_ gt
    rw[fe_ (by omega) (by omega),aj,IVT_ _ (by omega) f.2.1,aj,aAe_ s _ (by omega) (by omega)]
    cases goodT (sbT nameA t p)<;>rfl
theorem ls_1(d:Dt)(hd:vD_ d=true):slL_ d=some (bif (G0 d).all goodT then(pAT_ (G0 d) [],true) else([],false)):=by
 obtain⟨v1,v2,v3,v4⟩:=vp_2 hd
 unfold slL_
 rw[show(forN (ρ:=List Tt×Bool) (fun (i3:Nat) (s3:(List Tt))=>
  ae (idx d.Patterns (i3:Int)) fun v19=>
  ae (slG_ v19) fun v21=>
  bif v21 then
   ae (idx d.Patterns (i3:Int)) fun v26=>
   ae (slO_ v26) fun v28=>
   ae (slP_ s3 v28) fun v29=>
   some (.nx v29)
  else
   thenL (ρ:=(Flow ((List Tt)×Bool) (List Tt))) (σ:=(List Tt)) (forN (fun (i8:Nat) (s8:(List Tt))=>
    ae (idx d.Patterns (i3:Int)) fun v40=>
    ae (idx d.Instances (i8:Int)) fun v45=>
    ae (slF_ v40 v45) fun v47=>
    ae (slG_1 v47) fun v49=>
    bif v49 then
     ae (slO_ v47) fun v54=>
     ae (slP_ s8 v54) fun v55=>
     some (.nx v55)
    else
     some (.rt (.rt ([],false)))) d.Instances.length 0 s3) fun s8=>
   some (.nx s8)) d.Patterns.length 0 ([]))=forL (fun _ p s3=>ae (slG_ p) fun v21=>
  bif v21 then
   ae (slO_ p) fun v28=>
   ae (slP_ s3 v28) fun v29=>
   some (.nx v29)
  else
   thenL (ρ:=(Flow ((List Tt)×Bool) (List Tt))) (σ:=(List Tt)) (forL (fun _ t (s8:(List Tt))=>
    ae (slF_ p t) fun v47=>
    ae (slG_1 v47) fun v49=>
    bif v49 then
     ae (slO_ v47) fun v54=>
     ae (slP_ s8 v54) fun v55=>
     some (.nx v55)
    else
     some (.rt (.rt ([],false)))) d.Instances 0 s3) fun s8=>
   some (.nx s8)) d.Patterns 0 [] from fNf_ _ _ d.Patterns 0 [] (fun j p s h=>by
    simp only[Nat.zero_add,in_,h,aj]
    congr 1; funext v21
    cases v21
    ·simp only[cond_false]
     congr 1
     refine fNf_ _ _ d.Instances 0 s (fun k t s h=>?_)
     simp only[Nat.zero_add,h,aj]
    ·rfl)]
 rw[go_ (gens d) putT _ (([],false):List Tt×Bool) pTl_ (fun x s=>pTg_) d.Patterns 0 [] (fun p hp i s hs hl=>?_) (fun p _=>gl_1 hd p) (fun a ha=>by simp at ha) (by simp; omega)]
 ·show thenL (some (bif (G0 d).all goodT then .inr (pAT_ (G0 d) []) else .inl _)) _=_
  cases hg:(G0 d).all goodT<;>rfl
 ·obtain⟨g,hv⟩:=v3 p hp
  have gi:=gTi_ g
  rw[gs_ p (gTO_ g).2 g,aj]
  unfold gens
  rw[hv]
  cases hh:p.vars.isEmpty
  ·rw[cond_false,Bool.not_false,cond_true]
   rw[gl_ (fun t=>sbT nameA t p) putT _ (Flow.rt ([],false)) pTl_ (fun x s=>pTg_) d.Instances 0 s (fun t ht i s hs hl=>?_) hs (by omega)]
   ·cases (d.Instances.map fun t=>sbT nameA t p).all goodT<;>rfl
   ·have gt:=v4 t ht
    have f:=sf_ g gt
    rw[fe_1 g gt,aj,lGo_ _ (by omega) f.2.1,aj,ownT _ (by omega),aj]
    cases hz:goodT (sbT nameA t p)
    ·rfl
    ·rw[cond_true,lPe_ _ hz s hs (by omega)]; rfl
  ·rw[cond_true,ownT p (by omega),aj,lPe_ p g s hs (by omega),Bool.not_true,cond_false]
   show _=some (bif ([p].all goodT) then _ else _)
   rw[bh,g]; rfl
theorem gd_(d:Dt)(hok:d.Ok)(ht:d.tot≤1048576):slG_2 d=some (vD_ d):=by
 unfold slG_2 vD_
 unfold Dt.tot at ht
 by_cases h1:d.Patterns.length≤12
 ·rw[decide_eq_false (show ¬ (12:Int)<(d.Patterns.length:Int) by omega),cond_false,decide_eq_true h1,Bool.true_and]
  by_cases h2:d.Instances.length≤12
  ·rw[decide_eq_false (show ¬ (12:Int)<(d.Instances.length:Int) by omega),cond_false,decide_eq_true h2,Bool.true_and,
    ls_2 hok.2 (fun a ha=>by have:=tot_mem ha; omega) h2,aj]
   cases hI:d.Instances.all gndT
   ·rfl
   ·rw[cond_true,Bool.true_and,fNa_ (fun j=>patD d.Instances.isEmpty (d.Patterns.getD j default)) (r0:=false),ral_ d.Patterns (patD d.Instances.isEmpty)]
    ·cases hP:d.Patterns.all (patD d.Instances.isEmpty)
     ·rfl
     ·have hP2:=hP
      rw[pDa_,ar] at hP2
      rw[cond_true,as_ hok.1 (pg_ hP2.1),aj,as_ hok.2 (gg_1 hI),aj]
      cases asc d.Patterns<;>rfl
    ·intro j hj _
     have hm:=gDm_ hj
     rw[igD_ hj,aj,lGo_ _ (by have:=tot_mem hm; omega) (hok.1.2 _ hm),aj]
     cases hg:goodT (d.Patterns.getD j default)
     ·simp only[patD,patT,hg]; rfl
     ·have:=ps_1 (ρ:=Flow Bool Unit) (e:=d.Instances.isEmpty) (hok.1.2 _ hm) hg (.rt false) (.nx ())
      rw[cond_true,aj,← this,← iEd_]
  ·rw[decide_eq_true (show(12:Int)<(d.Instances.length:Int) by omega),decide_eq_false h2]; rfl
 ·rw[decide_eq_true (show(12:Int)<(d.Patterns.length:Int) by omega),decide_eq_false h1]; rfl
noncomputable def langD(d:Dt):List Tt×Bool:=bif vD_ d&&(G0 d).all goodT then(pAT_ (G0 d) [],true) else([],false)
theorem LOi_(d:Dt)(hok:d.Ok)(ht:d.tot≤1048576):iLO_ d=some (langD d):=by
 unfold iLO_ langD
 rw[id_1 d hok ht,aj]
 cases hv:vD_ d
 ·rfl
 ·rw[cond_true,li_ d hv,Bool.true_and]; rfl
theorem LOs_(d:Dt)(hv:vD_ d=true):slL_ d=some (langD d):=by
 unfold langD
 rw[ls_1 d hv,hv,Bool.true_and]
end
section
theorem ts_{l:List Tt}(hok:LOk Tt.Ok l)(ht:∀ a∈l,a.tot≤1048576):slT_ l=some (decide (l.length≤60)&&l.all gndT):=by
 unfold slT_
 rw[fNa_ (fun j=>decide (j≤60)&&gndT (l.getD j default)) (r0:=false)]
 ·by_cases h:l.length≤60
  ·rw[decide_eq_true (show(l.length:Int)≤60 by omega),decide_eq_true h,Bool.true_and,ral_2 l (fun j=>decide (j≤60)&&gndT (l.getD j default)) gndT (fun i hi=>by rw[decide_eq_true (show i≤60 by omega),Bool.true_and])]
   cases l.all gndT<;>rfl
  ·rw[decide_eq_false (show ¬ (l.length:Int)≤60 by omega),decide_eq_false h]
   cases (List.range l.length).all fun j=>decide (j≤60)&&gndT (l.getD j default)<;>rfl
 ·intro j hj _
  have hm:=gDm_ hj
  by_cases c:j≤60
  ·rw[decide_eq_true (show(j:Int)≤60 by omega),cond_true,igD_ hj,aj,lGo_ _ (ht _ hm) (hok.2 _ hm),aj,decide_eq_true c,Bool.true_and]
   unfold gndT
   cases hg:goodT (l.getD j default)
   ·rfl
   ·rw[cond_true,aj,gs_ _ (hok.2 _ hm) hg,aj]
    cases (l.getD j default).vars.isEmpty<;>rfl
  ·rw[decide_eq_false (show ¬ (j:Int)≤60 by omega),decide_eq_false c,decide_eq_false (show ¬ (l.length:Int)≤60 by omega)]; rfl
theorem gg_2{l:List Tt}(h:l.all gndT=true):Gd l:=fun a ha=>by
 have:=List.all_eq_true.1 h a ha
 unfold gndT at this
 rw[ar] at this
 exact this.1
theorem al_:∀ (xs:List Tt) (i:Nat) (s:List Tt),Gd xs→s.length+xs.length≤100000→
 forL (ρ:=Bool×Bool) (fun _ x s=>ae (iaA_1 s x) fun v=>some (.nx v)) xs i s=some (.inr (aA_ xs s))
 | [],i,s,_,_=>rfl
 | x::xs,i,s,hg,hl=>by
  simp only[aG] at hl
  have:=aTl_ x s
  have:=gTi_ (hg x (by simp))
  rw[fLn_ (s':=addT x s) (by rw[aAe_ s x (by omega) (by omega)]; rfl),al_ xs (i+1) _ (fun a ha=>hg a (by simp[ha])) (by omega)]; rfl
theorem plT_:∀ (xs:List Tt) (i:Nat) (s:List Tt),Gd xs→Gd s→s.length+xs.length≤100000→
 forL (ρ:=Bool×Bool) (fun _ x s=>ae (slP_ s x) fun v=>some (.nx v)) xs i s=some (.inr (pAT_ xs s))
 | [],i,s,_,_,_=>rfl
 | x::xs,i,s,hg,hs,hl=>by
  simp only[aG] at hl
  have:=pTl_ x s
  have hx:=hg x (by simp)
  rw[fLn_ (s':=putT x s) (by rw[lPe_ x hx s hs (by omega)]; rfl),plT_ xs (i+1) _ (fun a ha=>hg a (by simp[ha])) (pTg_ hx hs) (by omega)]; rfl
theorem si_3(a b:List Tt):sEF_ a b (fun y0 y1=>iET_1 y0 y1)=some (same a b):=by
 unfold sEF_
 rw[ld_]
 by_cases h:a.length=b.length
 ·rw[decide_eq_true h,cond_true]
  exact sl_ _ a b h (fun x _ y=>ETo_ x y)
 ·rw[decide_eq_false h,sl_1 h]; rfl
theorem ss_1(a b:List Tt):slS_3 a b=some (same a b):=by
 unfold slS_3
 rw[ld_]
 by_cases h:a.length=b.length
 ·rw[decide_eq_true h,cond_true]
  exact sl_ _ a b h (fun x _ y=>lSo_ x y)
 ·rw[decide_eq_false h,sl_1 h]; rfl
theorem FnExactDescribesTerms_true(d:Dt)(l:List Tt)(hok:d.Ok)(hl:LOk Tt.Ok l):FnExactDescribesTerms d l=some true:=by
 unfold FnExactDescribesTerms
 rw[sDe_ d hok _ (by omega) (by omega),aj]
 by_cases e:szR d.tot 1048576<0
 ·rw[decide_eq_true e]; rfl
 have ht:=sRo_ e
 have hz:szR d.tot 1048576=((1048576-d.tot:Nat):Int):=by unfold szR; rw[if_pos (by omega)]; omega
 rw[decide_eq_false e,cond_false,sTS_2 l hl _ (by omega) (by omega),aj]
 by_cases e2:szR (ltot Tt.tot l) (szR d.tot 1048576)<0
 ·rw[decide_eq_true e2]; rfl
 have htl:ltot Tt.tot l≤1048576:=by
  rw[hz] at e2
  unfold szR at e2
  split at e2<;>omega
 rw[decide_eq_false e2,cond_false]
 have tm:∀ a∈l,a.tot≤1048576:=fun a ha=>by have:=tot_mem ha; omega
 have key:∃ r,iDT_ d l=some r∧sDT_ d l=some r:=by
  unfold iDT_ sDT_
  rw[LOi_ d hok ht,gd_ d hok ht,aj,aj,ts_ hl tm]
  cases hv:vD_ d
  ·unfold langD; rw[hv]; exact⟨_,rfl,rfl⟩
  rw[cond_true,aj,LOs_ d hv,aj]
  cases hb:(langD d).2
  ·rw[cond_false]
   refine⟨_,rfl,?_⟩
   cases decide (l.length≤60)&&l.all gndT<;>rfl
  rw[cond_true]
  by_cases h60:l.length≤60
  ·rw[decide_eq_false (show ¬ (60:Int)<(l.length:Int) by omega),cond_false,decide_eq_true h60,Bool.true_and,contF l (fun a ha=>nGe_ a (tm a ha) (hl.2 a ha)),aj]
   cases hg:l.all gndT
   ·exact⟨_,rfl,rfl⟩
   ·have gd:=gg_2 hg
    rw[Bool.not_true,cond_false,cond_true]
    simp only[fNi_]
    rw[al_ l 0 [] gd (by simp; omega),plT_ l 0 [] gd (fun a ha=>by simp at ha) (by simp; omega),tLi_,tLi_,sp_ gd (by omega),aj,si_3,ss_1,aj,aj,sc_2]
    exact⟨_,rfl,rfl⟩
  ·rw[decide_eq_true (show(60:Int)<(l.length:Int) by omega),decide_eq_false h60]
   exact⟨_,rfl,rfl⟩
 obtain⟨r,h1,h2⟩:=key
 simp only[tDe_ d ht,tTS_3 l htl,aj,h1,h2,eDr_,eTS_1,cond_true,beq_self_eq_true]
end
end Go.Proofs.YtikhljkojadogaaGreat
