/- Lemmas of the proof; each says what it shows. -/
import Derived.Test.YtfchaodlnddkpaaGreatGp
import Derived.Test.YtfchaodlnddkpaaGreatAvZ
import Derived.Test.YtfchaodlnddkpaaGreatGsrt
import Derived.Test.YtfchaodlnddkpaaGreatGsf
import Derived.Test.YtfchaodlnddkpaaGreatGcp
set_option linter.unusedSimpArgs false
set_option linter.unusedVariables false
set_option linter.defProp false
namespace Go.Proofs.YtfchaodlnddkpaaGreat
open Go.Av
open Bool renaming and_eq_true→aw
open Ft renaming Parts_mk→aY
open List renaming map_cons→aF,sum_cons→bw,length_cons→aG,all_cons→bH,all_eq_true→aX,mem_cons→bq,mem_append→aT,length_nil→a6,length_append→aV,nil_append→bA,length_map→aC,append_assoc→aS,append_nil→bj
open Nat renaming le_refl→aM
open Option renaming bind_some→ap,bind→aa
open SizeOf renaming sizeOf→au
open Tt renaming tot→aU,Args_mk→bp,ind'→a8,Name_mk→bD
section
theorem within_eq(a lo hi:Int):impl_within a lo hi=some (inR a lo hi):=cond_inR a lo hi
theorem l1In_eq(a lo hi:Int):spec_l1In a lo hi=some (inR a lo hi):=cond_inR a lo hi
def cLow(c:Int):Bool:=inR c 97 122
def cUp(c:Int):Bool:=inR c 65 90
def cDig(c:Int):Bool:=inR c 48 57
theorem isLower_eq(c:Int):impl_isLower c=some (cLow c):=cond_inR c 97 122
theorem isUpper_eq(c:Int):impl_isUpper c=some (cUp c):=cond_inR c 65 90
theorem isDigit_eq(c:Int):impl_isDigit c=some (cDig c):=cond_inR c 48 57
theorem l2Small_eq(c:Int):spec_l2Small c=some (cLow c||cDig c):=by
 unfold spec_l2Small cLow cDig inR
 by_cases h1:(97:Int)≤c<;>by_cases h2:c≤(122:Int)<;>by_cases h3:(48:Int)≤c<;>by_cases h4:c≤(57:Int)<;>simp[h1,h2,h3,h4]
def varC(s:ByteArray)(j:Nat):Bool:=if j=0 then cUp (byt s 0) else(cLow (byt s j)||cDig (byt s j))
def isVarS(s:ByteArray):Bool:=inR (s.size:Int) 1 4&&(List.range s.size).all (varC s)
theorem isVariable_eq(s:ByteArray)(hb:Big s.size):impl_isVariable s=some (isVarS s):=by
 unfold impl_isVariable
 rw[bnd_nat hb,ap,forN_all (varC s)]
 ·simp only[within_eq,ap,isVarS]
  cases (List.range s.size).all (varC s)<;>cases inR (s.size:Int) 1 4<;>rfl
 ·intro j hj _
  simp only[sidx_nat hj,ap,isUpper_eq,isLower_eq,isDigit_eq,varC]
  by_cases h0:j=0
  ·subst h0
   cases cUp (byt s 0)<;>rfl
  ·have h1:¬ ((j:Int)=0):=by omega
   have h2:(0:Int)<(j:Int):=by omega
   rw[decide_eq_false h1,decide_eq_true h2,if_neg h0]
   cases cLow (byt s j)<;>cases cDig (byt s j)<;>rfl
theorem l2Var_eq(s:ByteArray)(hb:Big s.size):spec_l2Var s=some (isVarS s):=by
 unfold spec_l2Var
 rw[l1In_eq,ap]
 unfold isVarS
 cases hr:inR (s.size:Int) 1 4
 ·rfl
 ·have hs:0<s.size:=by have:=inR_iff.1 hr; omega
  simp only[cond_true,Bool.true_and]
  rw[sidx0 hs,ap]
  by_cases h0:cUp (byt s 0)=true
  ·have hu:=inR_iff.1 h0
   rw[decide_eq_false (by omega),cond_false,ap,decide_eq_false (by omega),cond_false,bnd_nat hb,ap,forN_all1 (varC s) hs (by simp[varC,h0])]
   ·cases (List.range s.size).all (varC s)<;>rfl
   ·intro j hj0 hj _
    simp only[sidx_nat hj,ap,l2Small_eq,varC]
    rw[if_neg (by omega)]
    cases (cLow (byt s j)||cDig (byt s j))<;>rfl
  ·have h1:(List.range s.size).all (varC s)=false:=List.all_eq_false.2 ⟨0,by simp; omega,by simp[varC,h0]⟩
   rw[h1]
   have hu:¬ (65≤byt s 0∧byt s 0≤90):=by intro g; exact h0 (inR_iff.2 g)
   by_cases g:byt s 0<65
   ·rw[decide_eq_true g]; rfl
   ·rw[decide_eq_false g,cond_false,ap,decide_eq_true (by omega)]; rfl
def resv:List ByteArray:=[(⟨#[116,114,117,101]⟩:ByteArray),(⟨#[102,97,108,115,101]⟩:ByteArray),(⟨#[116,114,117,116,104]⟩:ByteArray),(⟨#[98,111,116,104]⟩:ByteArray),(⟨#[101,105,116,104,101,114]⟩:ByteArray),(⟨#[105,102]⟩:ByteArray),(⟨#[97,108,108]⟩:ByteArray),(⟨#[115,111,109,101]⟩:ByteArray)]
def symC(s:ByteArray)(j:Nat):Bool:=if j=0 then cLow (byt s 0) else(cLow (byt s j)||cDig (byt s j)||decide (byt s j=95))
def isSymS(s:ByteArray):Bool:=inR (s.size:Int) 1 6&&(List.range s.size).all (symC s)&&!resv.any (fun v=>decide (s=v))
theorem Contains_str(xs:List ByteArray)(s:ByteArray):slices_Contains_Sstring_string xs s=some (xs.any (fun v=>decide (s=v))):=by
 unfold slices_Contains_Sstring_string slices_Index_Sstring_string
 obtain⟨r,h1,h2⟩:=forN_find (n:=xs.length) (p:=fun i=>decide (s=xs.getD i default)) (f:=fun i2 s2=>(idx xs (i2:Int)).bind fun v14=>bif decide (s=v14) then some (.rt (i2:Int)) else some (.nx ())) (fun j hj=>by
  simp only[idx_getD hj,ap]
  cases decide (s=xs.getD j default)<;>rfl)
 rw[h1,ap,h2,range_any_list xs (fun v=>decide (s=v))]
theorem isSymbol_eq(s:ByteArray)(hb:Big s.size):impl_isSymbol s=some (isSymS s):=by
 unfold impl_isSymbol
 rw[bnd_nat hb,ap,forN_all (symC s)]
 ·simp only[within_eq,ap,isSymS,impl_reserved,Contains_str]
  rw[show resv.any (fun v=>decide (s=v))=_ from rfl]
  unfold resv
  cases (List.range s.size).all (symC s)<;>cases inR (s.size:Int) 1 6<;>rfl
 ·intro j hj _
  simp only[sidx_nat hj,ap,isLower_eq,isDigit_eq,symC]
  by_cases h0:j=0
  ·subst h0
   cases cLow (byt s 0)<;>rfl
  ·have h1:¬ ((j:Int)=0):=by omega
   rw[decide_eq_false h1,if_neg h0]
   cases cLow (byt s j)<;>cases cDig (byt s j)<;>cases decide (byt s j=95)<;>rfl
theorem l2Symbol_eq(s:ByteArray)(hb:Big s.size):spec_l2Symbol s=some (isSymS s):=by
 unfold spec_l2Symbol
 rw[l1In_eq,ap]
 unfold isSymS
 cases hr:inR (s.size:Int) 1 6
 ·rfl
 ·have hs:0<s.size:=by have:=inR_iff.1 hr; omega
  simp only[cond_true,Bool.true_and]
  rw[sidx0 hs,ap]
  by_cases h0:cLow (byt s 0)=true
  ·have hu:=inR_iff.1 h0
   rw[decide_eq_false (by omega),cond_false,ap,decide_eq_false (by omega),cond_false,bnd_nat hb,ap,forN_all1 (symC s) hs (by simp[symC,h0])]
   ·simp only[resv,List.any_cons,List.any_nil,Bool.or_false]
    generalize decide (s=_)=b1
    generalize decide (s=_)=b2
    generalize decide (s=_)=b3
    generalize decide (s=_)=b4
    generalize decide (s=_)=b5
    generalize decide (s=_)=b6
    generalize decide (s=_)=b7
    generalize decide (s=_)=b8
    cases (List.range s.size).all (symC s)<;>cases b1<;>cases b2<;>cases b3<;>cases b4<;>cases b5<;>cases b6<;>cases b7<;>cases b8<;>rfl
   ·intro j hj0 hj _
    simp only[sidx_nat hj,ap,l2Small_eq,symC]
    rw[if_neg (by omega)]
    cases (cLow (byt s j)||cDig (byt s j))<;>cases decide (byt s j=95)<;>rfl
  ·have h1:(List.range s.size).all (symC s)=false:=List.all_eq_false.2 ⟨0,by simp; omega,by simp[symC,h0]⟩
   rw[h1]
   have hu:¬ (97≤byt s 0∧byt s 0≤122):=by intro g; exact h0 (inR_iff.2 g)
   by_cases g:byt s 0<97
   ·rw[decide_eq_true g]; rfl
   ·rw[decide_eq_false g,cond_false,ap,decide_eq_true (by omega)]; rfl
end
section
mutual
def Tt.cnt:Tt→Nat
 | .mk _ l=>1+Tt.cnts l
def Tt.cnts:List Tt→Nat
 | []=>0
 | a::l=>a.cnt+Tt.cnts l
end
theorem Tt.cnts_eq(l:List Tt):Tt.cnts l=(l.map Tt.cnt).sum:=by
 induction l with
 | nil=>rfl
 | cons a l ih=>rw[Tt.cnts,ih,aF,bw]
theorem Tt.cnt_mk(x:ByteArray)(l:List Tt):(Tt.mk x l).cnt=1+(l.map Tt.cnt).sum:=by rw[Tt.cnt,Tt.cnts_eq]
mutual
def Tt.dep:Tt→Nat
 | .mk _ l=>1+Tt.deps l
def Tt.deps:List Tt→Nat
 | []=>0
 | a::l=>max a.dep (Tt.deps l)
end
theorem Tt.dep_mk(x:ByteArray)(l:List Tt):(Tt.mk x l).dep=1+Tt.deps l:=by rw[Tt.dep]
theorem Tt.cnt_tot(t:Tt):t.cnt≤1+t.tot:=by
 refine Tt.ind (M:=fun t=>t.cnt≤1+t.tot) (fun x l ih=>?_) t
 rw[Tt.cnt_mk,Tt.tot_mk]
 have:(l.map Tt.cnt).sum≤ltot aU l:=by
  clear x
  induction l with
  | nil=>simp[ltot]
  | cons a l ihl=>
   have h1:=ih a (by simp)
   have h2:=ihl (fun b hb=>ih b (by simp[hb]))
   simp only[ltot,aF,bw,aG] at h2 ⊢
   omega
 omega
theorem Tt.dep_cnt(t:Tt):t.dep≤t.cnt:=by
 refine Tt.ind (M:=fun t=>t.dep≤t.cnt) (fun x l ih=>?_) t
 rw[Tt.cnt_mk,Tt.dep_mk]
 have:Tt.deps l≤(l.map Tt.cnt).sum:=by
  clear x
  induction l with
  | nil=>simp[Tt.deps]
  | cons a l ihl=>
   have h1:=ih a (by simp)
   have h2:=ihl (fun b hb=>ih b (by simp[hb]))
   simp only[Tt.deps,aF,bw]
   omega
 omega
theorem Tt.cnt_pos(t:Tt):1≤t.cnt:=by cases t; rw[Tt.cnt_mk]; omega
/-- A sum that stops when it is too great. -/
def Cap(L c:Nat)(r:Int):Prop:=1≤r∧r≤c∧(c≤L→r=c)∧(L<c→L<r)
theorem Cap.le{L c:Nat}{r:Int}(h:Cap L c r):decide (r≤(L:Int))=decide (c≤L):=by
 by_cases e:c≤L
 ·have:=h.2.2.1 e; rw[decide_eq_true e,decide_eq_true (by omega)]
 ·have:=h.2.2.2 (by omega); rw[decide_eq_false e,decide_eq_false (by omega)]
theorem size_loop(f:Tt→Option Int):∀ (l:List Tt) (i:Nat) (s:Int) (c0:Nat),(∀ a∈l,∃ r,f a=some r∧Cap 30 a.cnt r)→1≤s→s≤c0→(c0≤30→s=c0)→(30<c0→30<s)→c0+(l.map Tt.cnt).sum≤20000000000002→
 ∃ r,thenL (ρ:=Int) (forL (fun _ v s=>bif decide ((30:Int)<s) then some (.rt s) else(f v).bind fun w=>some (.nx (wr (s+w)))) l i s) (fun s=>some s)=some r∧Cap 30 (c0+(l.map Tt.cnt).sum) r
 | [],i,s,c0,_,h1,h2,h3,h4,_=>⟨s,rfl,by simpa using⟨h1,h2,h3,h4⟩⟩
 | a::l,i,s,c0,hf,h1,h2,h3,h4,hb=>by
  simp only[aF,bw] at hb ⊢
  by_cases e:(30:Int)<s
  ·rw[forL_rt (r:=s) (by rw[decide_eq_true e]; rfl),thenL_inl]
   exact⟨s,rfl,h1,by omega,fun g=>by omega,fun _=>e⟩
  ·obtain⟨r,hr,c1,c2,c3,c4⟩:=hf a (by simp)
   have hs:s=c0:=h3 (by omega)
   rw[forL_nx (s':=wr (s+r)) (by rw[decide_eq_false e,cond_false,hr]; rfl),wr64 (by omega) (by omega)]
   have:=size_loop f l (i+1) (s+r) (c0+a.cnt) (fun b hb=>hf b (by simp[hb])) (by omega) (by omega) (fun g=>by have:=c3 (by omega); omega) (fun g=>by
    by_cases g2:a.cnt≤30
    ·have:=c3 g2; omega
    ·have:=c4 (by omega); omega) (by omega)
   rwa [Nat.add_assoc] at this
theorem impl_size_eq(t:Tt):t.cnt≤20000000000002→∃ r,(∀ n,2*au t≤n→impl_sizeN n t=some r)∧Cap 30 t.cnt r:=by
 refine Tt.ind (M:=fun t=>t.cnt≤20000000000002→∃ r,(∀ n,2*au t≤n→impl_sizeN n t=some r)∧Cap 30 t.cnt r) (fun x l ih hc=>?_) t
 rw[Tt.cnt_mk] at hc ⊢
 obtain⟨R,hR⟩:=mem_choice (fun a ha=>ih a ha (by have:=le_sum_mem Tt.cnt ha; omega))
 obtain⟨r,h1,h2⟩:=size_loop (fun a=>some (R a)) l 0 1 1 (fun a ha=>⟨R a,rfl,(hR a ha).2⟩) (by omega) (by omega) (by omega) (by omega) hc
 refine⟨r,fun n hn=>?_,h2⟩
 cases n with
 | zero=>simp only[Tt.mk.sizeOf_spec] at hn; omega
 | succ n=>
  rw[impl_sizeN]
  simp only[bp,forN_idx]
  rw[← h1]
  congr 1
  refine forL_congr l 0 1 (fun j a s ha=>?_)
  have ha:=List.mem_of_getElem? ha
  simp only[(hR a ha).1 n (by have:=List.sizeOf_lt_of_mem ha; simp only[Tt.mk.sizeOf_spec] at hn; omega)]
theorem impl_size_ok(t:Tt)(h:t.tot≤10000000000000):∃ r,impl_size t=some r∧Cap 30 t.cnt r:=by
 obtain⟨r,h1,h2⟩:=impl_size_eq t (by have:=Tt.cnt_tot t; omega)
 exact⟨r,lim_eq ⟨_,h1⟩,h2⟩
theorem many_loop(f:Tt→Int→Option Int)(L:Nat)(hL:L≤30):∀ (l:List Tt) (i:Nat) (s:Int) (c0:Nat),(∀ a∈l,∀ L':Nat,L'≤30→∃ r,f a L'=some r∧Cap L' a.cnt r)→1≤s→s≤c0→(c0≤L→s=c0)→(L<c0→L<s)→c0+(l.map Tt.cnt).sum≤20000000000002→
 ∃ r,thenL (ρ:=Int) (forL (fun _ v s=>bif decide (s≤(L:Int)) then(f v (wr ((L:Int)-s))).bind fun w=>some (.nx (wr (s+w))) else some (.rt s)) l i s) (fun s=>some s)=some r∧Cap L (c0+(l.map Tt.cnt).sum) r
 | [],i,s,c0,_,h1,h2,h3,h4,_=>⟨s,rfl,by simpa using⟨h1,h2,h3,h4⟩⟩
 | a::l,i,s,c0,hf,h1,h2,h3,h4,hb=>by
  simp only[aF,bw] at hb ⊢
  by_cases e:s≤(L:Int)
  ·have hs:s=c0:=h3 (by omega)
   have eL:wr ((L:Int)-s)=((L-c0:Nat):Int):=by rw[wr64 (by omega) (by omega)]; omega
   obtain⟨r,hr,c1,c2,c3,c4⟩:=hf a (by simp) (L-c0) (by omega)
   rw[forL_nx (s':=wr (s+r)) (by rw[decide_eq_true e,cond_true,eL,hr]; rfl),wr64 (by omega) (by omega)]
   have:=many_loop f L hL l (i+1) (s+r) (c0+a.cnt) (fun b hb=>hf b (by simp[hb])) (by omega) (by omega) (fun g=>by have:=c3 (by omega); omega) (fun g=>by
    by_cases g2:a.cnt≤L-c0
    ·omega
    ·have:=c4 (by omega); omega) (by omega)
   rwa [Nat.add_assoc] at this
  ·rw[forL_rt (r:=s) (by rw[decide_eq_false e]; rfl),thenL_inl]
   exact⟨s,rfl,h1,by omega,fun g=>by omega,fun _=>by omega⟩
theorem lim_st{α:Type}{m:Nat→Option α}{N:Nat}{r:α}(hs:∀ n,N≤n→m n=m N)(h:m N=some r):lim m=some r:=lim_eq ⟨N,fun n hn=>by rw[hs n hn,h]⟩
theorem spec_many_st(t:Tt):∀ n m,2*au t≤n→2*au t≤m→∀ L,spec_l2ManyN n t L=spec_l2ManyN m t L:=by
 refine Tt.ind (M:=fun t=>∀ n m,2*au t≤n→2*au t≤m→∀ L,spec_l2ManyN n t L=spec_l2ManyN m t L) (fun x l ih n m hn hm L=>?_) t
 simp only[Tt.mk.sizeOf_spec] at hn hm
 cases n with
 | zero=>omega
 | succ n=>
  cases m with
  | zero=>omega
  | succ m=>
   rw[spec_l2ManyN,spec_l2ManyN]
   congr 1
   refine forN_congr _ _ _ (fun j s hj=>?_)
   simp only[bp,Nat.zero_add] at hj ⊢
   rw[idx_getD hj]
   simp only[ap]
   have hm':=getD_mem hj
   have:=List.sizeOf_lt_of_mem hm'
   rw[ih _ hm' n m (by omega) (by omega)]
theorem spec_many_eq(t:Tt):t.cnt≤20000000000002→∀ n,2*au t≤n→∀ L:Nat,L≤30→∃ r,spec_l2ManyN n t L=some r∧Cap L t.cnt r:=by
 refine Tt.ind (M:=fun t=>t.cnt≤20000000000002→∀ n,2*au t≤n→∀ L:Nat,L≤30→∃ r,spec_l2ManyN n t L=some r∧Cap L t.cnt r) (fun x l ih hc n hn L hL=>?_) t
 rw[Tt.cnt_mk] at hc ⊢
 simp only[Tt.mk.sizeOf_spec] at hn
 cases n with
 | zero=>omega
 | succ n=>
  rw[spec_l2ManyN]
  simp only[bp]
  obtain⟨r,h1,h2⟩:=many_loop (spec_l2ManyN n) L hL l 0 1 1 (fun a ha L' hL'=>ih a ha (by have:=le_sum_mem Tt.cnt ha; omega) n (by have:=List.sizeOf_lt_of_mem ha; omega) L' hL') (by omega) (by omega) (by omega) (by omega) hc
  refine⟨r,?_,h2⟩
  rw[← h1]
  congr 1
  refine forN_forL _ _ l 0 1 (fun j a s ha=>?_)
  simp only[Nat.zero_add,idx_nat,ha,ap]
theorem spec_many_ok(t:Tt)(h:t.tot≤10000000000000):∃ r,spec_l2Many t 30=some r∧Cap 30 t.cnt r:=by
 obtain⟨r,h1,h2⟩:=spec_many_eq t (by have:=Tt.cnt_tot t; omega) _ (aM _) 30 (by omega)
 exact⟨r,lim_st (fun n hn=>spec_many_st t _ _ hn (aM _) _) h1,h2⟩
/-! depth -/
theorem dep_loop(f:Tt→Option Int)(g:Int→Int→Option Int)(hg:∀ a b,g a b=some (max a b)):∀ (l:List Tt) (i:Nat) (s:Nat),(∀ a∈l,f a=some (a.dep:Int))→
 thenL (ρ:=Int) (forL (fun _ v s=>(f v).bind fun w=>(g s w).bind fun z=>some (.nx z)) l i (s:Int)) (fun s=>some (wr (s+1)))=some (wr (((max s (Tt.deps l):Nat):Int)+1))
 | [],i,s,_=>by simp[forL,thenL_inr,Tt.deps]
 | a::l,i,s,h=>by
  have e:max (s:Int) (a.dep:Int)=((max s a.dep:Nat):Int):=by omega
  rw[forL_nx (s':=((max s a.dep:Nat):Int)) (by rw[h a (by simp),ap,hg,ap,e]),dep_loop f g hg l (i+1) _ (fun b hb=>h b (by simp[hb])),Tt.deps]
  congr 3; omega
theorem Most_eq(a b:Int):spec_l1Most a b=some (max a b):=by
 unfold spec_l1Most
 by_cases h:b<a
 ·rw[decide_eq_true h,cond_true]; congr 1; omega
 ·rw[decide_eq_false h,cond_false]; congr 1; omega
theorem deps_le(l:List Tt):Tt.deps l≤(l.map Tt.cnt).sum:=by
 induction l with
 | nil=>simp[Tt.deps]
 | cons a l ih=>simp only[Tt.deps,aF,bw]; have:=a.dep_cnt; omega
theorem impl_depthN_eq(t:Tt):t.cnt≤20000000000002→∀ n,2*au t≤n→impl_depthN n t=some (t.dep:Int):=by
 refine Tt.ind (M:=fun t=>t.cnt≤20000000000002→∀ n,2*au t≤n→impl_depthN n t=some (t.dep:Int)) (fun x l ih hc n hn=>?_) t
 rw[Tt.cnt_mk] at hc
 rw[Tt.dep_mk]
 simp only[Tt.mk.sizeOf_spec] at hn
 cases n with
 | zero=>omega
 | succ n=>
  rw[impl_depthN]
  simp only[bp,forN_idx]
  have:=dep_loop (impl_depthN n) (fun a b=>some (max a b)) (fun _ _=>rfl) l 0 0 (fun a ha=>ih a ha (by have:=le_sum_mem Tt.cnt ha; omega) n (by have:=List.sizeOf_lt_of_mem ha; omega))
  simp only[ap] at this
  refine this.trans ?_
  have:=deps_le l
  rw[wr64 (by omega) (by omega)]; congr 1; omega
theorem spec_depthN_eq(t:Tt):t.cnt≤20000000000002→∀ n,2*au t≤n→spec_l2DepthN n t=some (t.dep:Int):=by
 refine Tt.ind (M:=fun t=>t.cnt≤20000000000002→∀ n,2*au t≤n→spec_l2DepthN n t=some (t.dep:Int)) (fun x l ih hc n hn=>?_) t
 rw[Tt.cnt_mk] at hc
 rw[Tt.dep_mk]
 simp only[Tt.mk.sizeOf_spec] at hn
 cases n with
 | zero=>omega
 | succ n=>
  rw[spec_l2DepthN]
  simp only[bp,forN_idx]
  have:=dep_loop (spec_l2DepthN n) spec_l1Most Most_eq l 0 0 (fun a ha=>ih a ha (by have:=le_sum_mem Tt.cnt ha; omega) n (by have:=List.sizeOf_lt_of_mem ha; omega))
  refine this.trans ?_
  have:=deps_le l
  rw[wr64 (by omega) (by omega)]; congr 1; omega
theorem impl_depth_ok(t:Tt)(h:t.tot≤10000000000000):impl_depth t=some (t.dep:Int):=lim_eq ⟨_,impl_depthN_eq t (by have:=Tt.cnt_tot t; omega)⟩
theorem spec_depth_ok(t:Tt)(h:t.tot≤10000000000000):spec_l2Depth t=some (t.dep:Int):=lim_eq ⟨_,spec_depthN_eq t (by have:=Tt.cnt_tot t; omega)⟩
def smallT(t:Tt):Bool:=decide (t.cnt≤30)&&decide (t.dep≤8)
theorem isSmall_ok(t:Tt)(h:t.tot≤10000000000000):impl_isSmall t=some (smallT t):=by
 obtain⟨r,h1,h2⟩:=impl_size_ok t h
 have h3:=h2.le
 unfold impl_isSmall smallT
 rw[h1,ap,show decide (r≤30)=decide (t.cnt≤30) from h3,impl_depth_ok t h,ap]
 cases decide (t.cnt≤30)
 ·rfl
 ·rw[cond_true,Bool.true_and]; congr 1; exact decide_eq_decide.2 (by omega)
theorem l2Fits_ok(t:Tt)(h:t.tot≤10000000000000):spec_l2Fits t=some (smallT t):=by
 obtain⟨r,h1,h2⟩:=spec_many_ok t h
 have h3:=h2.le
 unfold spec_l2Fits smallT
 rw[h1,ap,show decide (r≤30)=decide (t.cnt≤30) from h3,spec_depth_ok t h,ap]
 cases decide (t.cnt≤30)
 ·rfl
 ·rw[cond_true,Bool.true_and]; congr 1; exact decide_eq_decide.2 (by omega)
/-! names -/
mutual
def Tt.good:Tt→Bool
 | .mk x l=>bif isVarS x then l.isEmpty else(isSymS x&&decide (l.length≤4)&&Tt.goods l)
def Tt.goods:List Tt→Bool
 | []=>true
 | a::l=>a.good&&Tt.goods l
end
theorem Tt.goods_eq(l:List Tt):Tt.goods l=l.all Tt.good:=by
 induction l with
 | nil=>rfl
 | cons a l ih=>rw[Tt.goods,ih]; rfl
theorem Tt.good_mk(x:ByteArray)(l:List Tt):(Tt.mk x l).good=bif isVarS x then l.isEmpty else(isSymS x&&decide (l.length≤4)&&l.all Tt.good):=by rw[Tt.good,Tt.goods_eq]
theorem Tt.good_u(t:Tt):t.good=bif isVarS t.Name then t.Args.isEmpty else(isSymS t.Name&&decide (t.Args.length≤4)&&t.Args.all Tt.good):=by cases t; exact Tt.good_mk _ _
theorem isEmpty_dec{α:Type}(l:List α):decide ((l.length:Int)=0)=l.isEmpty:=by cases l<;>simp; omega
theorem impl_hasNamesN_eq(t:Tt):t.Ok→∀ n,3*au t≤n→impl_hasNamesN n t=some t.good:=by
 refine a8 (M:=fun t=>t.Ok→∀ n,3*au t≤n→impl_hasNamesN n t=some t.good) (fun t ih hok n hn=>?_) t
 obtain⟨hx,hl,hall⟩:=hok.u
 rw[Tt.good_u]
 have hpos:=t.pos
 cases n with
 | zero=>omega
 | succ n=>
  rw[impl_hasNamesN]
  rw[isVariable_eq _ hx,ap,isSymbol_eq _ hx,ap,isEmpty_dec]
  cases isVarS t.Name
  ·rw[cond_false,cond_false]
   cases isSymS t.Name
   ·rfl
   ·by_cases h4:t.Args.length≤4
    ·rw[cond_true,decide_eq_true (show(t.Args.length:Int)≤4 by omega),cond_true,decide_eq_true h4,Bool.true_and,Bool.true_and]
     unfold slices_ContainsFunc_Simpl_Term_impl_Term slices_IndexFunc_Simpl_Term_impl_Term
     rw[find_list (p:=fun a=>!a.good) t.Args (fun a ha=>?_),ap,List.all_eq_not_any_not]
     have hs:=Tt.lt ha
     cases n with
     | zero=>omega
     | succ n=>
      rw[impl_hasNames_1N,ih a ha (hall a ha) n (by omega)]; rfl
    ·rw[cond_true,decide_eq_false (show ¬ (t.Args.length:Int)≤4 by omega),decide_eq_false h4]; rfl
  ·rfl
theorem spec_l2NodesN_eq(t:Tt):t.Ok→∀ n,3*au t≤n→spec_l2NodesN n t=some t.good:=by
 refine a8 (M:=fun t=>t.Ok→∀ n,3*au t≤n→spec_l2NodesN n t=some t.good) (fun t ih hok n hn=>?_) t
 obtain⟨hx,hl,hall⟩:=hok.u
 rw[Tt.good_u]
 have hpos:=t.pos
 cases n with
 | zero=>omega
 | succ n=>
  rw[spec_l2NodesN]
  rw[l2Var_eq _ hx,ap,l2Symbol_eq _ hx,ap,isEmpty_dec]
  cases isVarS t.Name
  ·rw[cond_false,cond_false]
   cases isSymS t.Name
   ·rfl
   ·by_cases h4:t.Args.length≤4
    ·rw[cond_true,decide_eq_false (show ¬ (4:Int)<(t.Args.length:Int) by omega),cond_false,decide_eq_true h4,Bool.true_and,Bool.true_and,
      forN_all (fun j=>(t.Args.getD j default).good) (fun j hj _=>?_),range_all_list t.Args Tt.good]
     ·cases t.Args.all Tt.good<;>rfl
     ·have ha:=getD_mem hj
      have hs:=Tt.lt ha
      simp only[idx_getD hj,ap,ih _ ha (hall _ ha) n (by omega)]
      cases (t.Args.getD j default).good<;>rfl
    ·rw[cond_true,decide_eq_true (show(4:Int)<(t.Args.length:Int) by omega),decide_eq_false h4]; rfl
  ·rfl
def goodT(t:Tt):Bool:=smallT t&&t.good
theorem IsValidTerm_ok(t:Tt)(h:t.tot≤10000000000000)(hok:t.Ok):impl_IsValidTerm t=some (goodT t):=by
 unfold impl_IsValidTerm goodT
 rw[isSmall_ok t h,ap,show impl_hasNames t=some t.good from lim_eq ⟨_,impl_hasNamesN_eq t hok⟩,ap]
 cases smallT t<;>rfl
theorem l2Good_ok(t:Tt)(h:t.tot≤10000000000000)(hok:t.Ok):spec_l2Good t=some (goodT t):=by
 unfold spec_l2Good goodT
 rw[l2Fits_ok t h,ap,show spec_l2Nodes t=some t.good from lim_eq ⟨_,spec_l2NodesN_eq t hok⟩,ap]
 cases smallT t<;>rfl
end
section
/-! atoms -/
def zeroT(t:Tt):Bool:=decide (t.Name=(⟨#[]⟩:ByteArray))&&t.Args.isEmpty
theorem zeroT_impl(t:Tt):impl_isZeroTerm t=some (zeroT t):=by
 unfold impl_isZeroTerm zeroT
 rw[isEmpty_dec]
 cases decide (t.Name=(⟨#[]⟩:ByteArray))<;>rfl
theorem zeroT_spec(t:Tt):spec_l8None t=some (zeroT t):=zeroT_impl t
def atomT(t:Tt):Bool:=bif decide (t.Name=(⟨#[61]⟩:ByteArray)) then decide (t.Args.length=2)&&(smallT t&&t.Args.all Tt.good) else isSymS t.Name&&goodT t
theorem two_args{l:List Tt}(h:l.length=2):∃ x y,l=[x,y]:=by
 match l,h with
 | [x,y],_=>exact⟨x,y,rfl⟩
theorem hasNames_ok(t:Tt)(hok:t.Ok):impl_hasNames t=some t.good:=lim_eq ⟨_,impl_hasNamesN_eq t hok⟩
theorem l2Nodes_ok(t:Tt)(hok:t.Ok):spec_l2Nodes t=some t.good:=lim_eq ⟨_,spec_l2NodesN_eq t hok⟩
theorem atom_impl(t:Tt)(h:t.tot≤10000000000000)(hok:t.Ok):impl_IsValidAtom t=some (atomT t):=by
 unfold impl_IsValidAtom atomT impl_isEquality
 obtain⟨hx,hl,hall⟩:=hok.u
 rw[isSymbol_eq _ hx,IsValidTerm_ok t h hok,isSmall_ok t h]
 simp only[ap]
 cases decide (t.Name=(⟨#[61]⟩:ByteArray))
 ·simp only[cond_false]; cases isSymS t.Name<;>rfl
 ·by_cases h2:t.Args.length=2
  ·obtain⟨x,y,e⟩:=two_args h2
   rw[decide_eq_true (show(t.Args.length:Int)=2 by omega),decide_eq_true h2]
   simp only[cond_true,Bool.true_and]
   cases smallT t
   ·rfl
   ·rw[e] at hall ⊢
    rw[show(0:Int)=((0:Nat):Int) from rfl,show(1:Int)=((1:Nat):Int) from rfl,idx_nat,idx_nat]
    simp only[List.getElem?_cons_zero,List.getElem?_cons_succ,ap,hasNames_ok x (hall x (by simp)),hasNames_ok y (hall y (by simp)),cond_true,Bool.true_and,bH,List.all_nil,Bool.and_true]
    cases x.good<;>rfl
  ·rw[decide_eq_false (show ¬ (t.Args.length:Int)=2 by omega),decide_eq_false h2]; rfl
theorem atom_spec(t:Tt)(h:t.tot≤10000000000000)(hok:t.Ok):spec_l2Atom t=some (atomT t):=by
 unfold spec_l2Atom atomT
 obtain⟨hx,hl,hall⟩:=hok.u
 rw[l2Symbol_eq _ hx,l2Good_ok t h hok,l2Fits_ok t h]
 simp only[ap]
 cases decide (t.Name=(⟨#[61]⟩:ByteArray))
 ·simp only[cond_false]; cases isSymS t.Name<;>rfl
 ·by_cases h2:t.Args.length=2
  ·obtain⟨x,y,e⟩:=two_args h2
   rw[decide_eq_true (show(t.Args.length:Int)=2 by omega),decide_eq_true h2]
   simp only[cond_true,Bool.true_and]
   cases smallT t
   ·rfl
   ·rw[e] at hall ⊢
    rw[show(0:Int)=((0:Nat):Int) from rfl,show(1:Int)=((1:Nat):Int) from rfl,idx_nat,idx_nat]
    simp only[List.getElem?_cons_zero,List.getElem?_cons_succ,ap,l2Nodes_ok x (hall x (by simp)),l2Nodes_ok y (hall y (by simp)),cond_true,Bool.true_and,bH,List.all_nil,Bool.and_true]
    cases x.good<;>rfl
  ·rw[decide_eq_false (show ¬ (t.Args.length:Int)=2 by omega),decide_eq_false h2]; rfl
/-! sizes -/
mutual
def Ft.cnt:Ft→Nat
 | .mk _ _ _ l=>1+Ft.cnts l
def Ft.cnts:List Ft→Nat
 | []=>0
 | a::l=>a.cnt+Ft.cnts l
end
theorem Ft.cnts_eq(l:List Ft):Ft.cnts l=(l.map Ft.cnt).sum:=by
 induction l with
 | nil=>rfl
 | cons a l ih=>rw[Ft.cnts,ih,aF,bw]
theorem Ft.cnt_u(a:Ft):a.cnt=1+(a.Parts.map Ft.cnt).sum:=by cases a; rw[Ft.cnt,Ft.cnts_eq]; rfl
theorem sum_le_ltot{α:Type}{c t:α→Nat}:∀ l:List α,(∀ a∈l,c a≤1+t a)→(l.map c).sum≤ltot t l
 | [],_=>by simp[ltot]
 | a::l,h=>by
  have h1:=h a (by simp)
  have h2:=sum_le_ltot l (fun b hb=>h b (by simp[hb]))
  simp only[ltot,aF,bw,aG] at h2 ⊢
  omega
theorem Ft.cnt_tot(t:Ft):t.cnt≤1+t.tot:=by
 refine Ft.ind' (M:=fun t=>t.cnt≤1+t.tot) (fun t ih=>?_) t
 rw[Ft.cnt_u,Ft.tot_u]
 have:=sum_le_ltot (c:=Ft.cnt) (t:=Ft.tot) t.Parts ih
 omega
theorem Ft.cnt_pos(t:Ft):1≤t.cnt:=by rw[Ft.cnt_u]; omega
theorem gsize_loop{α:Type}(cnt:α→Nat)(L:Nat)(hL:L≤1000)(f:α→Option Int):∀ (l:List α) (i:Nat) (s:Int) (c0:Nat),(∀ a∈l,∃ r,f a=some r∧Cap L (cnt a) r)→1≤s→s≤c0→(c0≤L→s=c0)→(L<c0→L<s)→c0+(l.map cnt).sum≤20000000000002→
 ∃ r,thenL (ρ:=Int) (forL (fun _ v s=>bif decide ((L:Int)<s) then some (.rt s) else(f v).bind fun w=>some (.nx (wr (s+w)))) l i s) (fun s=>some s)=some r∧Cap L (c0+(l.map cnt).sum) r
 | [],i,s,c0,_,h1,h2,h3,h4,_=>⟨s,rfl,by simpa using⟨h1,h2,h3,h4⟩⟩
 | a::l,i,s,c0,hf,h1,h2,h3,h4,hb=>by
  simp only[aF,bw] at hb ⊢
  by_cases e:(L:Int)<s
  ·rw[forL_rt (r:=s) (by rw[decide_eq_true e]; rfl),thenL_inl]
   exact⟨s,rfl,h1,by omega,fun g=>by omega,fun _=>e⟩
  ·obtain⟨r,hr,c1,c2,c3,c4⟩:=hf a (by simp)
   have hs:s=c0:=h3 (by omega)
   rw[forL_nx (s':=wr (s+r)) (by rw[decide_eq_false e,cond_false,hr]; rfl),wr64 (by omega) (by omega)]
   have:=gsize_loop cnt L hL f l (i+1) (s+r) (c0+cnt a) (fun b hb=>hf b (by simp[hb])) (by omega) (by omega) (fun g=>by have:=c3 (by omega); omega) (fun g=>by
    by_cases g2:cnt a≤L
    ·have:=c3 g2; omega
    ·have:=c4 (by omega); omega) (by omega)
   rwa [Nat.add_assoc] at this
theorem gmany_loop{α:Type}(cnt:α→Nat)(M:Nat)(hM:M≤1000)(f:α→Int→Option Int)(L:Nat)(hL:L≤M):∀ (l:List α) (i:Nat) (s:Int) (c0:Nat),(∀ a∈l,∀ L':Nat,L'≤M→∃ r,f a L'=some r∧Cap L' (cnt a) r)→1≤s→s≤c0→(c0≤L→s=c0)→(L<c0→L<s)→c0+(l.map cnt).sum≤20000000000002→
 ∃ r,thenL (ρ:=Int) (forL (fun _ v s=>bif decide (s≤(L:Int)) then(f v (wr ((L:Int)-s))).bind fun w=>some (.nx (wr (s+w))) else some (.rt s)) l i s) (fun s=>some s)=some r∧Cap L (c0+(l.map cnt).sum) r
 | [],i,s,c0,_,h1,h2,h3,h4,_=>⟨s,rfl,by simpa using⟨h1,h2,h3,h4⟩⟩
 | a::l,i,s,c0,hf,h1,h2,h3,h4,hb=>by
  simp only[aF,bw] at hb ⊢
  by_cases e:s≤(L:Int)
  ·have hs:s=c0:=h3 (by omega)
   have eL:wr ((L:Int)-s)=((L-c0:Nat):Int):=by rw[wr64 (by omega) (by omega)]; omega
   obtain⟨r,hr,c1,c2,c3,c4⟩:=hf a (by simp) (L-c0) (by omega)
   rw[forL_nx (s':=wr (s+r)) (by rw[decide_eq_true e,cond_true,eL,hr]; rfl),wr64 (by omega) (by omega)]
   have:=gmany_loop cnt M hM f L hL l (i+1) (s+r) (c0+cnt a) (fun b hb=>hf b (by simp[hb])) (by omega) (by omega) (fun g=>by have:=c3 (by omega); omega) (fun g=>by
    by_cases g2:cnt a≤L-c0
    ·omega
    ·have:=c4 (by omega); omega) (by omega)
   rwa [Nat.add_assoc] at this
  ·rw[forL_rt (r:=s) (by rw[decide_eq_false e]; rfl),thenL_inl]
   exact⟨s,rfl,h1,by omega,fun g=>by omega,fun _=>by omega⟩
theorem sizeOf_eq(t:Ft):t.cnt≤20000000000002→∃ r,(∀ n,2*au t≤n→impl_sizeOfN n t=some r)∧Cap 40 t.cnt r:=by
 refine Ft.ind' (M:=fun t=>t.cnt≤20000000000002→∃ r,(∀ n,2*au t≤n→impl_sizeOfN n t=some r)∧Cap 40 t.cnt r) (fun t ih hc=>?_) t
 rw[Ft.cnt_u] at hc ⊢
 have hp:=t.pos
 obtain⟨R,hR⟩:=mem_choice (fun a ha=>ih a ha (by have:=le_sum_mem Ft.cnt ha; omega))
 obtain⟨r,h1,h2⟩:=gsize_loop Ft.cnt 40 (by omega) (fun a=>some (R a)) t.Parts 0 1 1 (fun a ha=>⟨R a,rfl,(hR a ha).2⟩) (by omega) (by omega) (by omega) (by omega) hc
 refine⟨r,fun n hn=>?_,h2⟩
 cases n with
 | zero=>omega
 | succ n=>
  rw[impl_sizeOfN]
  simp only[forN_idx]
  rw[← h1]
  congr 1
  refine forL_congr t.Parts 0 1 (fun j a s ha=>?_)
  have ha:=List.mem_of_getElem? ha
  have:=Ft.lt ha
  simp only[(hR a ha).1 n (by omega)]
  rfl
theorem sizeOf_ok(t:Ft)(h:t.tot≤10000000000000):∃ r,impl_sizeOf t=some r∧Cap 40 t.cnt r:=by
 obtain⟨r,h1,h2⟩:=sizeOf_eq t (by have:=Ft.cnt_tot t; omega)
 exact⟨r,lim_eq ⟨_,h1⟩,h2⟩
theorem l8Many_st(t:Ft):∀ n m,2*au t≤n→2*au t≤m→∀ L,spec_l8ManyN n t L=spec_l8ManyN m t L:=by
 refine Ft.ind' (M:=fun t=>∀ n m,2*au t≤n→2*au t≤m→∀ L,spec_l8ManyN n t L=spec_l8ManyN m t L) (fun t ih n m hn hm L=>?_) t
 have hp:=t.pos
 cases n with
 | zero=>omega
 | succ n=>
  cases m with
  | zero=>omega
  | succ m=>
   rw[spec_l8ManyN,spec_l8ManyN]
   congr 1
   refine forN_congr _ _ _ (fun j s hj=>?_)
   simp only[Nat.zero_add] at hj ⊢
   rw[idx_getD hj]
   simp only[ap]
   have hm':=getD_mem hj
   have:=Ft.lt hm'
   rw[ih _ hm' n m (by omega) (by omega)]
theorem l8Many_eq(t:Ft):t.cnt≤20000000000002→∀ n,2*au t≤n→∀ L:Nat,L≤40→∃ r,spec_l8ManyN n t L=some r∧Cap L t.cnt r:=by
 refine Ft.ind' (M:=fun t=>t.cnt≤20000000000002→∀ n,2*au t≤n→∀ L:Nat,L≤40→∃ r,spec_l8ManyN n t L=some r∧Cap L t.cnt r) (fun t ih hc n hn L hL=>?_) t
 rw[Ft.cnt_u] at hc ⊢
 have hp:=t.pos
 cases n with
 | zero=>omega
 | succ n=>
  rw[spec_l8ManyN]
  obtain⟨r,h1,h2⟩:=gmany_loop Ft.cnt 40 (by omega) (spec_l8ManyN n) L hL t.Parts 0 1 1 (fun a ha L' hL'=>ih a ha (by have:=le_sum_mem Ft.cnt ha; omega) n (by have:=Ft.lt ha; omega) L' hL') (by omega) (by omega) (by omega) (by omega) hc
  refine⟨r,?_,h2⟩
  rw[← h1]
  congr 1
  refine forN_forL _ _ t.Parts 0 1 (fun j a s ha=>?_)
  simp only[Nat.zero_add,idx_nat,ha,ap]
theorem l8Many_ok(t:Ft)(h:t.tot≤10000000000000):∃ r,spec_l8Many t 40=some r∧Cap 40 t.cnt r:=by
 obtain⟨r,h1,h2⟩:=l8Many_eq t (by have:=Ft.cnt_tot t; omega) _ (aM _) 40 (by omega)
 exact⟨r,lim_st (fun n hn=>l8Many_st t _ _ hn (aM _) _) h1,h2⟩
/-! forms -/
def formC(o:Int)(t:Tt)(v:ByteArray)(k:Nat):Bool:=
 bif decide (o=3) then decide (k=0)&&(atomT t&&decide (v=(⟨#[]⟩:ByteArray)))
 else bif decide (o=8)||decide (o=9) then decide (k=1)&&(zeroT t&&isVarS v)
 else(bif decide (o=1)||decide (o=2) then decide (k=0) else bif decide (o=4) then decide (k=1) else bif decide (o=5)||(decide (o=6)||decide (o=7)) then decide (k=2) else false)&&(zeroT t&&decide (v=(⟨#[]⟩:ByteArray)))
theorem op_cases(o:Int):o=1∨o=2∨o=3∨o=4∨o=5∨o=6∨o=7∨o=8∨o=9∨(o≠1∧o≠2∧o≠3∧o≠4∧o≠5∧o≠6∧o≠7∧o≠8∧o≠9):=by omega
theorem l8Form_ok(a:Ft)(h:a.tot≤10000000000000)(hok:a.Ok):spec_l8Form a=some (formC a.Op a.Atom a.Var a.Parts.length):=by
 obtain⟨h1,h2,h3,h4⟩:=hok.u
 have ht:=a.tot_u
 unfold spec_l8Form formC
 have e0:decide ((a.Parts.length:Int)=0)=decide (a.Parts.length=0):=decide_eq_decide.2 (by omega)
 have e1:decide ((a.Parts.length:Int)=1)=decide (a.Parts.length=1):=decide_eq_decide.2 (by omega)
 have e2:decide ((a.Parts.length:Int)=2)=decide (a.Parts.length=2):=decide_eq_decide.2 (by omega)
 rw[zeroT_spec,atom_spec _ (by omega) h2,l2Var_eq _ h3,e0,e1,e2]
 simp only[ap]
 generalize zeroT a.Atom=z
 generalize atomT a.Atom=y
 generalize isVarS a.Var=x
 generalize decide (a.Parts.length=0)=k0
 generalize decide (a.Parts.length=1)=k1
 generalize decide (a.Parts.length=2)=k2
 generalize decide (a.Var=(⟨#[]⟩:ByteArray))=u
 rcases op_cases a.Op with e | e | e | e | e | e | e | e | e | ⟨g1,g2,g3,g4,g5,g6,g7,g8,g9⟩
 all_goals first | (simp only[e]; revert z y x k0 k1 k2 u; decide) | (simp only[g1,g2,g3,g4,g5,g6,g7,g8,g9]; rfl)
mutual
def Ft.good:Ft→Bool
 | .mk o t v l=>formC o t v l.length&&Ft.goods l
def Ft.goods:List Ft→Bool
 | []=>true
 | a::l=>a.good&&Ft.goods l
end
theorem Ft.goods_eq(l:List Ft):Ft.goods l=l.all Ft.good:=by
 induction l with
 | nil=>rfl
 | cons a l ih=>rw[Ft.goods,ih]; rfl
theorem Ft.good_u(a:Ft):a.good=(formC a.Op a.Atom a.Var a.Parts.length&&a.Parts.all Ft.good):=by cases a; rw[Ft.good,Ft.goods_eq]; rfl
theorem ltot_mem{α:Type}{t:α→Nat}{l:List α}{a:α}(h:a∈l):t a≤ltot t l:=by have:=tot_mem t h; omega
theorem l8Forms_eq(a:Ft):a.Ok→a.tot≤10000000000000→∀ n,3*au a≤n→spec_l8FormsN n a=some a.good:=by
 refine Ft.ind' (M:=fun a=>a.Ok→a.tot≤10000000000000→∀ n,3*au a≤n→spec_l8FormsN n a=some a.good) (fun a ih hok ht n hn=>?_) a
 obtain⟨h1,h2,h3,h4,hall⟩:=hok.u
 have hpos:=a.pos
 have htu:=a.tot_u
 cases n with
 | zero=>omega
 | succ n=>
  rw[spec_l8FormsN,l8Form_ok a ht hok,Ft.good_u,ap]
  cases formC a.Op a.Atom a.Var a.Parts.length
  ·rfl
  ·rw[cond_true,Bool.true_and,forN_all (fun j=>(a.Parts.getD j default).good) (fun j hj _=>?_),range_all_list a.Parts Ft.good]
   ·cases a.Parts.all Ft.good<;>rfl
   ·have ha:=getD_mem hj
    have hs:=Ft.lt ha
    have hm:=ltot_mem (t:=Ft.tot) ha
    simp only[idx_getD hj,ap,ih _ ha (hall _ ha) (by omega) n (by omega)]
    cases (a.Parts.getD j default).good<;>rfl
theorem isQ_eq(x:Int):impl_isQuantifier x=some (decide (x=8)||decide (x=9)):=by
 unfold impl_isQuantifier
 cases decide (x=8)<;>rfl
theorem isBin_eq(x:Int):impl_isBinary x=some (decide (x=5)||(decide (x=6)||decide (x=7))):=by
 unfold impl_isBinary
 cases decide (x=5)<;>cases decide (x=6)<;>rfl
theorem contFm{p:Ft→Bool}{f:Ft→Option Bool}(l:List Ft)(h:∀ a∈l,f a=some (p a)):slices_ContainsFunc_Simpl_Formula_impl_Formula l f=some (l.any p):=by
 unfold slices_ContainsFunc_Simpl_Formula_impl_Formula slices_IndexFunc_Simpl_Formula_impl_Formula
 exact find_list (p:=p) l h
theorem hasForm_eq(a:Ft):a.Ok→a.tot≤10000000000000→∀ n,3*au a≤n→impl_hasFormN n a=some a.good:=by
 refine Ft.ind' (M:=fun a=>a.Ok→a.tot≤10000000000000→∀ n,3*au a≤n→impl_hasFormN n a=some a.good) (fun a ih hok ht n hn=>?_) a
 obtain⟨h1,h2,h3,h4,hall⟩:=hok.u
 have hpos:=a.pos
 have htu:=a.tot_u
 cases n with
 | zero=>omega
 | succ n=>
  have hc:slices_ContainsFunc_Simpl_Formula_impl_Formula a.Parts (fun y0=>impl_hasForm_1N n y0)=some (!a.Parts.all Ft.good):=by
   rw[contFm (p:=fun x=>!x.good) a.Parts (fun x hx=>?_),List.all_eq_not_any_not,Bool.not_not]
   have hs:=Ft.lt hx
   have hm:=ltot_mem (t:=Ft.tot) hx
   cases n with
   | zero=>omega
   | succ n=>rw[impl_hasForm_1N,ih x hx (hall x hx) (by omega) n (by omega)]; rfl
  have e0:decide ((a.Parts.length:Int)=0)=decide (a.Parts.length=0):=decide_eq_decide.2 (by omega)
  have e1:decide ((a.Parts.length:Int)=1)=decide (a.Parts.length=1):=decide_eq_decide.2 (by omega)
  have e2:decide ((a.Parts.length:Int)=2)=decide (a.Parts.length=2):=decide_eq_decide.2 (by omega)
  rw[impl_hasFormN,Ft.good_u]
  unfold formC
  simp only[hc,e0,e1,e2,isQ_eq,isBin_eq,isVariable_eq _ h3,zeroT_impl,atom_impl _ (show a.Atom.tot≤10000000000000 by omega) h2,ap]
  clear hc e0 e1 e2 ih
  generalize zeroT a.Atom=z
  generalize atomT a.Atom=y
  generalize isVarS a.Var=x
  generalize decide (a.Parts.length=0)=k0
  generalize decide (a.Parts.length=1)=k1
  generalize decide (a.Parts.length=2)=k2
  generalize decide (a.Var=(⟨#[]⟩:ByteArray))=u
  generalize a.Parts.all Ft.good=w
  rcases op_cases a.Op with e | e | e | e | e | e | e | e | e | ⟨g1,g2,g3,g4,g5,g6,g7,g8,g9⟩
  all_goals first | (simp only[e]; clear e htu; revert z y x k0 k1 k2 u w; decide) | (simp only[g1,g2,g3,g4,g5,g6,g7,g8,g9]; rfl)
def validF(a:Ft):Bool:=decide (a.cnt≤40)&&a.good
theorem validF_impl(a:Ft)(h:a.tot≤10000000000000)(hok:a.Ok):impl_IsValidFormula a=some (validF a):=by
 obtain⟨r,h1,h2⟩:=sizeOf_ok a h
 unfold impl_IsValidFormula validF
 rw[h1,ap,show decide (r≤40)=decide (a.cnt≤40) from h2.le,show impl_hasForm a=some a.good from lim_eq ⟨_,hasForm_eq a hok h⟩]
 cases decide (a.cnt≤40)<;>rfl
theorem validF_spec(a:Ft)(h:a.tot≤10000000000000)(hok:a.Ok):spec_l8Good a=some (validF a):=by
 obtain⟨r,h1,h2⟩:=l8Many_ok a h
 unfold spec_l8Good validF
 rw[h1,ap,show decide (r≤40)=decide (a.cnt≤40) from h2.le,show spec_l8Forms a=some a.good from lim_eq ⟨_,l8Forms_eq a hok h⟩]
 cases decide (a.cnt≤40)<;>rfl
/-! sequents -/
end
section
/-! the same -/
noncomputable def same{α:Type}(a b:α):Bool:=@decide (a=b) (Classical.propDecidable _)
theorem same_iff{α:Type}{a b:α}:same a b=true↔a=b:=by unfold same; exact @decide_eq_true_iff _ (Classical.propDecidable _)
theorem same_len{α:Type}{xs ys:List α}(h:¬ xs.length=ys.length):same xs ys=false:=by
 cases e:same xs ys
 ·rfl
 ·rw[same_iff] at e; exact absurd (by rw[e]) h
theorem all_same{α:Type}[Inhabited α]{xs ys:List α}(h:xs.length=ys.length):(List.range xs.length).all (fun j=>same (xs.getD j default) (ys.getD j default))=same xs ys:=by
 rw[Bool.eq_iff_iff,aX,same_iff]
 constructor
 ·intro g
  refine List.ext_getElem h (fun i h1 h2=>?_)
  have:=same_iff.1 (g i (by simpa using h1))
  simpa[List.getD,h1,h2] using this
 ·rintro rfl x _
  exact same_iff.2 rfl
theorem same_loop{α:Type}[Inhabited α](f:α→α→Option Bool)(xs ys:List α)(h:xs.length=ys.length)(hf:∀ a∈xs,∀ b,f a b=some (same a b)):
 thenL (ρ:=Bool) (σ:=Unit) (forN (fun (i:Nat) (_:Unit)=>aa (idx xs (i:Int)) fun v=>aa (idx ys (i:Int)) fun w=>aa (f v w) fun x=>bif x then some (.nx ()) else some (.rt false)) xs.length 0 ()) (fun _=>some true)=some (same xs ys):=by
 rw[forN_all (fun j=>same (xs.getD j default) (ys.getD j default)) (r0:=false) (fun j hj _=>?_),all_same h]
 ·cases same xs ys<;>rfl
 ·rw[idx_getD hj,idx_getD (h▸hj),ap,ap,hf _ (getD_mem hj),ap]
  cases same (xs.getD j default) (ys.getD j default)<;>rfl
theorem len_dec'{α:Type}(xs ys:List α):decide ((xs.length:Int)=(ys.length:Int))=decide (xs.length=ys.length):=decide_eq_decide.2 (by omega)
theorem Tt.same_u(a b:Tt):same a b=(decide (a.Name=b.Name)&&same a.Args b.Args):=by
 rw[Bool.eq_iff_iff,same_iff,aw,same_iff,decide_eq_true_iff]
 constructor
 ·rintro rfl; exact⟨rfl,rfl⟩
 ·rintro ⟨h1,h2⟩; rw[← a.eta,← b.eta,h1,h2]
theorem l2Same_eq(a:Tt):∀ b n,2*au a≤n→spec_l2SameN n a b=some (same a b)∧impl_EqualTermsN n a b=some (same a b):=by
 refine a8 (M:=fun a=>∀ b n,2*au a≤n→spec_l2SameN n a b=some (same a b)∧impl_EqualTermsN n a b=some (same a b)) (fun a ih b n hn=>?_) a
 have hp:=a.pos
 cases n with
 | zero=>omega
 | succ n=>
  rw[spec_l2SameN,impl_EqualTermsN,Tt.same_u]
  unfold slices_EqualFunc_Simpl_Term_Simpl_Term_impl_Term_impl_Term
  rw[len_dec']
  cases decide (a.Name=b.Name)
  ·exact⟨rfl,rfl⟩
  ·by_cases h:a.Args.length=b.Args.length
   ·have k:=fun x (hx:x∈a.Args) y=>ih x hx y n (by have:=Tt.lt hx; omega)
    rw[decide_eq_true h,cond_true,cond_true,same_loop (spec_l2SameN n) a.Args b.Args h (fun x hx y=>(k x hx y).1)]
    refine⟨rfl,?_⟩
    rw[cond_true,cond_true,same_loop (impl_EqualTermsN n) a.Args b.Args h (fun x hx y=>(k x hx y).2)]; rfl
   ·rw[decide_eq_false h,same_len h]; exact⟨rfl,rfl⟩
theorem l2Same_ok(a b:Tt):spec_l2Same a b=some (same a b):=lim_eq ⟨_,fun n hn=>(l2Same_eq a b n hn).1⟩
theorem EqualTerms_ok(a b:Tt):impl_EqualTerms a b=some (same a b):=lim_eq ⟨_,fun n hn=>(l2Same_eq a b n hn).2⟩
end
section
/-! Strings in order. -/
theorem lt_bytes:∀ a b:List UInt8,a<b↔Op.bytesLess a b=true
 | [],[]=>by simp[Op.bytesLess]
 | [],_::_=>by simp[Op.bytesLess]
 | _::_,[]=>by simp[Op.bytesLess]
 | x::a,y::b=>by
  rw[List.cons_lt_cons_iff,lt_bytes a b]
  simp only[Op.bytesLess,Bool.or_eq_true,decide_eq_true_eq,aw,beq_iff_eq]
theorem le_bytes(a b:List UInt8):a≤b↔Op.bytesLess b a=false:=by
 rw[← List.not_lt,lt_bytes]; simp
def Srt(l:List ByteArray):Prop:=l.Pairwise fun a b=>slt a b=true
def leB(x y:List UInt8):Bool:=decide (x≤y)
theorem leB_trans(a b c:List UInt8)(h1:leB a b=true)(h2:leB b c=true):leB a c=true:=by
 simp only[leB,decide_eq_true_eq,le_bytes] at h1 h2 ⊢
 cases h:Op.bytesLess c a with
 | false=>rfl
 | true=>
  cases h3:Op.bytesLess a b with
  | true=>rw[bytesLess_trans h h3] at h2; cases h2
  | false=>
   have:=bytesLess_total (a:=a) (b:=b) h3 h1
   subst this
   rw[h] at h2; cases h2
theorem leB_total(a b:List UInt8):(leB a b||leB b a)=true:=by
 cases h:leB a b with
 | true=>rfl
 | false=>
  simp only[leB,decide_eq_false_iff_not,le_bytes,Bool.false_or] at h ⊢
  simp only[leB,decide_eq_true_eq,le_bytes]
  exact bytesLess_asymm (by simpa using h)
theorem leB_antisymm{a b:List UInt8}(h1:leB a b=true)(h2:leB b a=true):a=b:=by
 simp only[leB,decide_eq_true_eq,le_bytes] at h1 h2
 exact bytesLess_total h2 h1
theorem sortB_perm(a:List ByteArray):(sortB a).Perm a:=by
 have h1:((a.map fun x=>x.data.toList).mergeSort leB).Perm (a.map fun x=>x.data.toList):=List.mergeSort_perm _ _
 have h2:=h1.map (fun l:List UInt8=>(⟨l.toArray⟩:ByteArray))
 rw[List.map_map] at h2
 have e:((fun l:List UInt8=>(⟨l.toArray⟩:ByteArray))∘fun x:ByteArray=>x.data.toList)=id:=by funext x; cases x; rfl
 rw[e,List.map_id] at h2
 exact h2
/-! Inserting one. -/
def putS(x:ByteArray):List ByteArray→List ByteArray
 | []=>[x]
 | y::l=>if slt y x=true then y::putS x l else if y=x then y::l else x::y::l
theorem putS_mem(x z:ByteArray):∀ l,z∈putS x l↔z=x∨z∈l
 | []=>by simp[putS]
 | y::l=>by
  simp only[putS]
  split
  ·simp only[bq,putS_mem x z l]
   constructor
   ·rintro (h | h | h)<;>simp[h]
   ·rintro (h | h | h)<;>simp[h]
  ·split
   ·rename_i h; subst h; simp
   ·simp
theorem putS_len(x:ByteArray):∀ l,(putS x l).length≤l.length+1
 | []=>by simp[putS]
 | y::l=>by
  have:=putS_len x l
  simp only[putS]
  split
  ·simp only[aG]; omega
  ·split<;>simp
/-! Entries. -/
/-- What a map says: its keys once each. -/
structure GOk(m:GMap Int):Prop where
 nd:(m.es.map (·.1)).Nodup
theorem GOk.put{m:GMap Int}(h:GOk m)(k:ByteArray)(v:Int):GOk (GMap.put m k v):=⟨by
 unfold GMap.put
 simp only[gput_keys]
 cases hh:ghas k m.es with
 | true=>simpa using h.nd
 | false=>
  have:k∉m.es.map (·.1):=fun hm=>by rw[(ghas_iff k _).2 hm] at hh; cases hh
  simp only[Bool.false_eq_true,if_false]
  exact List.nodup_append.2 ⟨h.nd,by simp,fun a ha b hb=>by simp at hb; subst hb; exact fun e=>this (e▸ha)⟩⟩
end
section
mutual
def Tt.vars:Tt→List ByteArray
 | .mk x l=>bif isVarS x then [x] else Tt.varss l
def Tt.varss:List Tt→List ByteArray
 | []=>[]
 | a::l=>a.vars++Tt.varss l
end
theorem Tt.vars_u(t:Tt):t.vars=bif isVarS t.Name then [t.Name] else Tt.varss t.Args:=by cases t; rw[Tt.vars]; rfl
theorem Tt.cnt_u(t:Tt):t.cnt=1+Tt.cnts t.Args:=by cases t; rw[Tt.cnt]; rfl
theorem nameCase{t:Tt}(h:t.good=true):(isVarS t.Name=true∧t.Args=[])∨(isVarS t.Name=false∧isSymS t.Name=true∧t.Args.length≤4∧∀ a∈t.Args,a.good=true):=by
 rw[Tt.good_u] at h
 cases hv:isVarS t.Name
 ·rw[hv,cond_false] at h
  simp only[aw,decide_eq_true_eq,aX] at h
  exact Or.inr ⟨rfl,h.1.1,h.1.2,h.2⟩
 ·rw[hv,cond_true] at h
  exact Or.inl ⟨rfl,by simpa using h⟩
theorem isVar_good{t:Tt}(h:t.good=true):impl_isVar t=some (isVarS t.Name):=by
 unfold impl_isVar
 rcases nameCase h with⟨hv,_⟩ | ⟨hv,hs,_⟩
 ·have h2:=hv
  unfold isVarS at h2
  rw[aw] at h2
  have hz:0<t.Name.size:=by have:=inR_iff.1 h2.1; omega
  have h3:=List.all_eq_true.1 h2.2 0 (by simpa using hz)
  rw[sidx0 hz,ap,isUpper_eq,ap,hv]
  simpa[varC] using h3
 ·have h2:=hs
  unfold isSymS at h2
  rw[aw,aw] at h2
  have hz:0<t.Name.size:=by have:=inR_iff.1 h2.1.1; omega
  have h3:=List.all_eq_true.1 h2.1.2 0 (by simpa using hz)
  rw[sidx0 hz,ap,isUpper_eq,ap,hv]
  have h4:cLow (byt t.Name 0)=true:=by simpa[symC] using h3
  have h5:=inR_iff.1 h4
  congr 1
  rw[← Bool.not_eq_true]
  intro g
  have:=inR_iff.1 g
  omega
/-- What a gathering of names does. -/
def VS(Q:List ByteArray→Prop)(acc v:List ByteArray)(vs:List ByteArray)(c:Nat):Prop:=(∀ x,x∈v↔x∈acc∨x∈vs)∧v.length≤acc.length+c∧(Q acc→Q v)
theorem vs_loop(Q:List ByteArray→Prop)(F:Nat→List ByteArray→Tt→Option (List ByteArray))(N:Nat):∀ (l:List Tt) (i:Nat) (acc:List ByteArray),
 (∀ a∈l,∀ acc,Q acc→acc.length+a.cnt≤1000→∃ v,(∀ n,N≤n→F n acc a=some v)∧VS Q acc v a.vars a.cnt)→Q acc→acc.length+Tt.cnts l≤1000→
 ∃ v,(∀ n,N≤n→forL (ρ:=List ByteArray) (fun _ x s=>(F n s x).bind fun w=>some (.nx w)) l i acc=some (.inr v))∧VS Q acc v (Tt.varss l) (Tt.cnts l)
 | [],i,acc,_,hq,_=>⟨acc,fun _ _=>rfl,fun x=>by simp[Tt.varss],by simp[Tt.cnts],id⟩
 | a::l,i,acc,h,hq,hb=>by
  simp only[Tt.cnts] at hb
  obtain⟨v,h1,h2,h3,h4⟩:=h a (by simp) acc hq (by omega)
  obtain⟨w,g1,g2,g3,g4⟩:=vs_loop Q F N l (i+1) v (fun b hb=>h b (by simp[hb])) (h4 hq) (by omega)
  refine⟨w,fun n hn=>?_,fun x=>?_,?_,fun q=>g4 (h4 q)⟩
  ·rw[forL_nx (s':=v) (by rw[h1 n hn]; rfl),g1 n hn]
  ·rw[g2,h2,Tt.varss,aT,or_assoc]
  ·simp only[Tt.cnts]; omega
theorem collectN_ok(t:Tt):t.good=true→∀ acc,True→acc.length+t.cnt≤1000→∃ v,(∀ n,2*au t≤n→impl_collectN n acc t=some v)∧VS (fun _=>True) acc v t.vars t.cnt:=by
 refine a8 (M:=fun t=>t.good=true→∀ acc,True→acc.length+t.cnt≤1000→∃ v,(∀ n,2*au t≤n→impl_collectN n acc t=some v)∧VS (fun _=>True) acc v t.vars t.cnt) (fun t ih hg acc _ hb=>?_) t
 have hp:=t.pos
 have hiv:=isVar_good hg
 rcases nameCase hg with⟨hv,ha⟩ | ⟨hv,hs,_,hall⟩
 ·rw[Tt.vars_u,hv,cond_true]
  have hc:=t.cnt_pos
  refine⟨bif acc.any (fun v=>decide (t.Name=v)) then acc else acc++[t.Name],fun n hn=>?_,fun x=>?_,?_,fun _=>trivial⟩
  ·cases n with
   | zero=>omega
   | succ n=>
    rw[impl_collectN,hiv,hv,ha]
    simp only[ap,a6,Contains_str]
    cases acc.any (fun v=>decide (t.Name=v))
    ·simp only[cond_false,cond_true,app]
     rw[if_pos (by simp only[aG,a6]; omega)]; rfl
    ·rfl
  ·cases e:acc.any (fun v=>decide (t.Name=v))
   ·simp
   ·rw[cond_true]
    rw[List.any_eq_true] at e
    obtain⟨y,y1,y2⟩:=e
    have y2:=of_decide_eq_true y2
    refine⟨Or.inl,fun g=>g.elim id fun g=>?_⟩
    rw[List.mem_singleton] at g
    rw[g,y2]; exact y1
  ·cases acc.any (fun v=>decide (t.Name=v))
   ·simp only[cond_false,aV,aG,a6]; omega
   ·simp only[cond_true]; omega
 ·rw[Tt.vars_u,hv,cond_false]
  have hcu:=t.cnt_u
  obtain⟨v,h1,h2,h3,h4⟩:=vs_loop (fun _=>True) (fun n s x=>impl_collectN n s x) (2*au t-1) t.Args 0 acc (fun a ha acc _ hb=>by
   obtain⟨v,k1,k2⟩:=ih a ha (hall a ha) acc trivial hb
   exact⟨v,fun n hn=>k1 n (by have:=Tt.lt ha; omega),k2⟩) trivial (by omega)
  refine⟨v,fun n hn=>?_,h2,by omega,h4⟩
  cases n with
  | zero=>omega
  | succ n=>
   rw[impl_collectN,hiv,hv]
   simp only[ap,cond_false,Bool.cond_self,forN_idx]
   rw[h1 n (by omega)]; rfl
theorem collect_ok{t:Tt}(hg:t.good=true)(hc:t.cnt≤1000):∃ v,impl_collect [] t=some v∧∀ x,x∈v↔x∈t.vars:=by
 obtain⟨v,h1,h2,_⟩:=collectN_ok t hg [] trivial (by simpa using hc)
 exact⟨v,lim_eq ⟨_,h1⟩,fun x=>by simpa using h2 x⟩
/-- Inserting, in the text. -/
theorem l2Put_eq(x:ByteArray)(l:List ByteArray)(hl:l.length≤1048576):spec_l2Put l x=some (putS x l):=by
 unfold spec_l2Put
 have tl:∀ {β:Type} (K:List ByteArray→Option β) (pre rest:List ByteArray),pre.length+rest.length≤1048576→(aa (slc (pre++rest) (0:Int) (pre.length:Int)) fun v36=>aa (app ([]) v36) fun v37=>aa (app v37 ([x])) fun v40=>aa (slc (pre++rest) (pre.length:Int) ((pre++rest).length:Int)) fun v43=>aa (app v40 v43) fun v44=>K v44)=K (pre++x::rest):=by
  intro β K pre rest h
  have e1:slc (pre++rest) (0:Int) (pre.length:Int)=some pre:=by
   unfold slc; rw[if_pos ⟨by omega,by omega,by simp; omega⟩]; simp
  have e2:slc (pre++rest) (pre.length:Int) ((pre++rest).length:Int)=some rest:=by
   unfold slc; rw[if_pos ⟨by omega,by simp; omega,by omega⟩]; simp only[Int.toNat_natCast,List.take_length,List.drop_left]
  rw[e1,e2]
  simp only[ap,app,a6,Nat.zero_add,bA]
  rw[if_pos (by omega)]
  simp only[ap,aG,a6]
  rw[if_pos (by omega)]
  simp only[ap,aV,aG,a6]
  rw[if_pos (by omega)]
  simp
 have key:∀ (rest pre:List ByteArray),pre.length+rest.length≤1048576→
  thenL (ρ:=List ByteArray) (forN (fun (i2:Nat) (s2:Unit)=>
   aa (idx (pre++rest) (i2:Int)) fun v13=>
   bif Op.bytesLess v13.data.toList x.data.toList then some (.nx ())
   else aa (idx (pre++rest) (i2:Int)) fun v27=>bif decide (v27=x) then some (.rt (pre++rest)) else
    aa (slc (pre++rest) (0:Int) (i2:Int)) fun v36=>aa (app ([]) v36) fun v37=>aa (app v37 ([x])) fun v40=>aa (slc (pre++rest) (i2:Int) ((pre++rest).length:Int)) fun v43=>aa (app v40 v43) fun v44=>some (.rt v44)) rest.length pre.length ()) (fun _=>
   aa (slc (pre++rest) (0:Int) (((pre++rest).length:Nat):Int)) fun v36=>aa (app ([]) v36) fun v37=>aa (app v37 ([x])) fun v40=>aa (slc (pre++rest) (((pre++rest).length:Nat):Int) ((pre++rest).length:Int)) fun v43=>aa (app v40 v43) fun v44=>some v44)=some (pre++putS x rest):=by
  intro rest
  induction rest with
  | nil=>
   intro pre h
   have:=tl some pre [] (by simpa using h)
   simpa[putS,forN,thenL_inr] using this
  | cons y rest ih=>
   intro pre h
   simp only[putS,aG]
   by_cases hy:slt y x=true
   ·rw[forN_nx (s':=()) (by rw[idx_mid,ap,show Op.bytesLess y.data.toList x.data.toList=true from hy]; rfl),if_pos hy]
    have:=ih (pre++[y]) (by simp at h ⊢; omega)
    simpa using this
   ·have hy':Op.bytesLess y.data.toList x.data.toList=false:=by simpa[slt] using hy
    by_cases e:y=x
    ·rw[forN_rt (r:=pre++y::rest) (by rw[idx_mid,ap,hy',cond_false,ap,decide_eq_true e]; rfl),thenL_inl,if_neg hy,if_pos e]
    ·rw[forN_rt (r:=pre++x::y::rest) (by
      rw[idx_mid,ap,hy',cond_false,ap,decide_eq_false e,cond_false]
      exact tl (fun v=>some (Flow.rt v)) pre (y::rest) h),thenL_inl,if_neg hy,if_neg e]
 exact key l [] (by simpa using hl)
end
section
/-! ### copies -/
theorem mapL{α β ρ:Type}{f:α→Option β}{g:α→β}:∀ (l:List α) (i:Nat) (s:List β),(∀ a∈l,f a=some (g a))→s.length+l.length≤1073741824→
 forL (ρ:=ρ) (fun _ x (s:List β)=>(f x).bind fun v=>(app s [v]).bind fun w=>some (.nx w)) l i s=some (.inr (s++l.map g))
 | [],i,s,_,_=>by simp[forL]
 | a::l,i,s,h,hb=>by
  simp only[aG] at hb
  rw[forL_nx (s':=s++[g a]) (by rw[h a (by simp),ap]; unfold app; rw[if_pos (by simp only[aG,a6]; omega)]; rfl),
   mapL l (i+1) _ (fun b hb=>h b (by simp[hb])) (by simp only[aV,aG,a6]; omega)]
  simp
theorem cnts_len:∀ l:List Tt,l.length≤Tt.cnts l
 | []=>by simp
 | a::l=>by have:=cnts_len l; have:=a.cnt_pos; simp only[Tt.cnts,aG]; omega
theorem cnts_mem{a:Tt}:∀ {l:List Tt},a∈l→a.cnt≤Tt.cnts l
 | b::l,h=>by
  simp only[Tt.cnts]
  rcases List.mem_cons.1 h with rfl | h
  ·omega
  ·have:=cnts_mem h; omega
theorem ownTN(t:Tt):t.cnt≤10000000→∀ n,2*au t≤n→spec_l2OwnN n t=some t:=by
 refine a8 (M:=fun t=>t.cnt≤10000000→∀ n,2*au t≤n→spec_l2OwnN n t=some t) (fun t ih hc n hn=>?_) t
 have hp:=t.pos
 have hu:=t.cnt_u
 have hl:=cnts_len t.Args
 cases n with
 | zero=>omega
 | succ n=>
  rw[spec_l2OwnN]
  simp only[forN_idx]
  rw[mapL (f:=spec_l2OwnN n) (g:=fun x=>x) t.Args 0 [] (fun a ha=>ih a ha (by have:=cnts_mem ha; omega) n (by have:=Tt.lt ha; omega)) (by simp; omega),thenL_inr]
  simp[t.eta]
theorem ownT(t:Tt)(h:t.cnt≤10000000):spec_l2Own t=some t:=lim_eq ⟨_,ownTN t h⟩
theorem copyTN(t:Tt):t.cnt≤10000000→∀ n,3*au t≤n→impl_copyTermN n t=some t:=by
 refine a8 (M:=fun t=>t.cnt≤10000000→∀ n,3*au t≤n→impl_copyTermN n t=some t) (fun t ih hc n hn=>?_) t
 have hp:=t.pos
 have hu:=t.cnt_u
 have hl:=cnts_len t.Args
 obtain⟨m,rfl⟩:∃ m,n=m+2:=⟨n-2,by omega⟩
 show impl_copyTermN (m+2) _=_
 rw[impl_copyTermN]
 show aa (impl_copyTermsN (m+1) t.Args) _=_
 rw[impl_copyTermsN,isEmpty_dec]
 cases he:t.Args.isEmpty
 ·rw[cond_false,toL (f:=impl_copyTermN m) (g:=fun x=>x) (z:=(Tt.mk (⟨#[]⟩:ByteArray) ([]))) (xs:=t.Args) (fun a ha=>ih a ha (by have:=cnts_mem ha; omega) m (by have:=Tt.lt ha; omega)) (by omega)]
  simp[t.eta]
 ·have h0:t.Args=[]:=by simpa using he
  rw[cond_true,ap]
  conv=>rhs; rw[← t.eta,h0]
theorem copyT(t:Tt)(h:t.cnt≤10000000):impl_copyTerm t=some t:=lim_eq ⟨_,copyTN t h⟩
theorem cnt_of_tot{t:Tt}(h:t.tot≤1048576):t.cnt≤10000000:=by have:=Tt.cnt_tot t; omega
theorem Ft.tot_atom(a:Ft):a.Atom.tot≤a.tot:=by rw[Ft.tot_u]; omega
theorem Ft.tot_part{a p:Ft}(h:p∈a.Parts):p.tot+1≤a.tot:=by
 have:=tot_mem Ft.tot h
 rw[Ft.tot_u a]; omega
theorem Ft.tot_len(a:Ft):a.Parts.length≤a.tot:=by
 have:=ltot_len Ft.tot a.Parts
 rw[Ft.tot_u a]; omega
theorem ownFN(a:Ft):a.tot≤1048576→∀ n,2*au a≤n→spec_l8OwnN n a=some a:=by
 refine Ft.ind' (M:=fun a=>a.tot≤1048576→∀ n,2*au a≤n→spec_l8OwnN n a=some a) (fun a ih ht n hn=>?_) a
 have hp:=a.pos
 cases n with
 | zero=>omega
 | succ n=>
  rw[spec_l8OwnN,ownT _ (cnt_of_tot (by have:=a.tot_atom; omega)),ap]
  simp only[forN_idx]
  rw[mapL (f:=spec_l8OwnN n) (g:=fun x=>x) a.Parts 0 [] (fun p hp=>ih p hp (by have:=Ft.tot_part hp; omega) n (by have:=Ft.lt hp; omega)) (by have:=a.tot_len; simp; omega),thenL_inr]
  simp[a.eta]
theorem ownF(a:Ft)(h:a.tot≤1048576):spec_l8Own a=some a:=lim_eq ⟨_,ownFN a h⟩

/-! ### terms: a variable replaced -/
mutual
def sbT(n:ByteArray)(t:Tt):Tt→Tt
 | .mk x l=>bif l.isEmpty&&decide (x=n) then t else .mk x (sbTs n t l)
def sbTs(n:ByteArray)(t:Tt):List Tt→List Tt
 | []=>[]
 | a::l=>sbT n t a::sbTs n t l
end
theorem sbTs_eq(n:ByteArray)(t:Tt)(l:List Tt):sbTs n t l=l.map (sbT n t):=by
 induction l with
 | nil=>rfl
 | cons a l ih=>rw[sbTs,ih]; rfl
theorem sbT_u(n:ByteArray)(t a:Tt):sbT n t a=bif a.Args.isEmpty&&decide (a.Name=n) then t else .mk a.Name (a.Args.map (sbT n t)):=by cases a; rw[sbT,sbTs_eq]; rfl
theorem l4Put_eq(n:ByteArray)(t:Tt)(h:t.cnt≤10000000):spec_l4Put ⟨[]⟩ n t=some (bif decide (t.Name=n) then⟨[]⟩ else⟨[⟨n,t⟩]⟩):=by
 unfold spec_l4Put
 cases decide (t.Name=n)
 ·simp only[cond_false,a6,forN_zero,thenL_inr,ownT t h]
  rfl
 ·rfl
/-- The substitution that the text builds. -/
def one(n:ByteArray)(t:Tt):Sa:=bif decide (t.Name=n) then⟨[]⟩ else⟨[⟨n,t⟩]⟩
theorem find_one(n:ByteArray)(t:Tt)(x:ByteArray):spec_l4Find (one n t) x=some (bif decide (t.Name=n) then -1 else bif decide (n=x) then 0 else -1):=by
 unfold one
 cases decide (t.Name=n)
 ·simp only[cond_false,spec_l4Find,aG,a6]
  show thenL (forN _ (0+1) 0 ()) _=_
  cases e:decide (n=x)
  ·rw[forN_nx (s':=()) (by show aa (some _) _=_; rw[ap,e]; rfl)]; rfl
  ·rw[forN_rt (r:=((0:Nat):Int)) (by show aa (some _) _=_; rw[ap,e]; rfl)]; rfl
 ·rfl
theorem sb_nonvar{n:ByteArray}{t a:Tt}(hn:isVarS n=true)(ha:isVarS a.Name=false):sbT n t a=.mk a.Name (a.Args.map (sbT n t)):=by
 rw[sbT_u,decide_eq_false (fun e=>by rw[e,hn] at ha; cases ha),Bool.and_false,cond_false]
theorem l4ApplyN_good{n:ByteArray}{t:Tt}(hn:isVarS n=true)(ht:t.cnt≤10000000)(hg:t.good=true)(a:Tt):a.Ok→a.good=true→∀ k,2*au a≤k→spec_l4ApplyN k (one n t) a=some (sbT n t a):=by
 refine a8 (M:=fun a=>a.Ok→a.good=true→∀ k,2*au a≤k→spec_l4ApplyN k (one n t) a=some (sbT n t a)) (fun a ih hok hga k hk=>?_) a
 have hp:=a.pos
 cases k with
 | zero=>omega
 | succ k=>
  rw[spec_l4ApplyN,l2Var_eq _ hok.u.1,ap]
  rcases nameCase hga with⟨hv,ha⟩ | ⟨hv,hs,h4,hall⟩
  ·rw[hv,cond_true,find_one,ap,sbT_u,ha]
   by_cases e:t.Name=n
   ·rw[decide_eq_true e,cond_true]
    have hta:t.Args=[]:=by
     rcases nameCase hg with⟨_,h⟩ | ⟨h,_⟩
     ·exact h
     ·rw[e,hn] at h; cases h
    rw[show decide ((0:Int)≤-1)=false from rfl,cond_false]
    by_cases e2:a.Name=n
    ·rw[decide_eq_true e2]
     have:t=⟨a.Name,[]⟩:=by rw[← t.eta,hta,e,e2]
     rw[this]; rfl
    ·rw[decide_eq_false e2]; rfl
   ·rw[decide_eq_false e,cond_false]
    by_cases e2:a.Name=n
    ·rw[decide_eq_true e2.symm,decide_eq_true e2,cond_true]
     have:one n t=⟨[⟨n,t⟩]⟩:=by unfold one; rw[decide_eq_false e]; rfl
     rw[this,show decide ((0:Int)≤0)=true from rfl,cond_true]
     show aa (some _) _=_
     rw[ap,ownT t ht]; rfl
    ·rw[decide_eq_false (Ne.symm e2),decide_eq_false e2]; rfl
  ·rw[hv,cond_false,sb_nonvar hn hv]
   simp only[forN_idx]
   rw[mapL (f:=spec_l4ApplyN k (one n t)) (g:=sbT n t) a.Args 0 [] (fun x hx=>ih x hx (hok.u.2.2 x hx) (hall x hx) k (by have:=Tt.lt hx; omega)) (by simp; omega),thenL_inr]
   simp
theorem l4Apply_atom{n:ByteArray}{t:Tt}(hn:isVarS n=true)(ht:t.cnt≤10000000)(hg:t.good=true){a:Tt}(hok:a.Ok)(hv:isVarS a.Name=false)(hall:∀ x∈a.Args,x.good=true)(hl:a.Args.length≤1000):spec_l4Apply (one n t) a=some (sbT n t a):=by
 refine lim_eq ⟨2*au a+1,fun k hk=>?_⟩
 cases k with
 | zero=>omega
 | succ k=>
  show spec_l4ApplyN (k+1) _ _=_
  rw[spec_l4ApplyN,l2Var_eq _ hok.u.1,ap,hv,cond_false,sb_nonvar hn hv]
  simp only[forN_idx]
  rw[mapL (f:=spec_l4ApplyN k (one n t)) (g:=sbT n t) a.Args 0 [] (fun x hx=>l4ApplyN_good hn ht hg x (hok.u.2.2 x hx) (hall x hx) k (by have:=Tt.lt hx; omega)) (by simp; omega),thenL_inr]
  simp
/-! ### occurrences -/
mutual
def Tt.occ(v:ByteArray):Tt→Nat
 | .mk x l=>(bif decide (x=v) then 1 else 0)+Tt.occs v l
def Tt.occs(v:ByteArray):List Tt→Nat
 | []=>0
 | a::l=>a.occ v+Tt.occs v l
end
def hasV(v:ByteArray)(l:List ByteArray):Bool:=l.any fun y=>decide (v=y)
theorem hasV_iff{v:ByteArray}{l:List ByteArray}:hasV v l=true↔v∈l:=by
 unfold hasV; rw[List.any_eq_true]
 exact⟨fun ⟨y,h1,h2⟩=>by rw[of_decide_eq_true h2]; exact h1,fun h=>⟨v,h,decide_eq_true rfl⟩⟩
theorem hasV_congr{v:ByteArray}{l m:List ByteArray}(h:v∈l↔v∈m):hasV v l=hasV v m:=by
 rw[Bool.eq_iff_iff,hasV_iff,hasV_iff]; exact h
theorem l2In_eq(l:List ByteArray)(v:ByteArray):spec_l2In l v=some (hasV v l):=by
 unfold spec_l2In
 simp only[forN_idx]
 have:∀ (l:List ByteArray) (i:Nat),thenL (ρ:=Bool) (forL (fun _ x (_:Unit)=>bif decide (x=v) then some (.rt true) else some (.nx ())) l i ()) (fun _=>some false)=some (hasV v l):=by
  intro l
  induction l with
  | nil=>intro i; rfl
  | cons y l ih=>
   intro i
   by_cases e:y=v
   ·rw[forL_rt (r:=true) (by rw[decide_eq_true e]; rfl),thenL_inl]; simp[hasV,e]
   ·rw[forL_nx (s':=()) (by rw[decide_eq_false e]; rfl),ih]; simp[hasV,Ne.symm e]
 exact this l 0
end
section
/-! ### atoms and their variables -/
theorem first_up{s:ByteArray}(h:isVarS s=true):0<s.size∧cUp (byt s 0)=true:=by
 unfold isVarS at h
 rw[aw] at h
 have hz:0<s.size:=by have:=inR_iff.1 h.1; omega
 have h3:=List.all_eq_true.1 h.2 0 (by simpa using hz)
 exact⟨hz,by simpa[varC] using h3⟩
theorem first_low{s:ByteArray}(h:isSymS s=true):0<s.size∧cUp (byt s 0)=false:=by
 unfold isSymS at h
 rw[aw,aw] at h
 have hz:0<s.size:=by have:=inR_iff.1 h.1.1; omega
 have h3:=List.all_eq_true.1 h.1.2 0 (by simpa using hz)
 have h4:cLow (byt s 0)=true:=by simpa[symC] using h3
 have h5:=inR_iff.1 h4
 refine⟨hz,?_⟩
 rw[← Bool.not_eq_true]
 intro g
 have:=inR_iff.1 g
 omega
theorem sym_not_var{s:ByteArray}(h:isSymS s=true):isVarS s=false:=by
 rw[← Bool.not_eq_true]
 intro g
 have h1:=(first_low h).2
 rw[(first_up g).2] at h1; cases h1
theorem eq_first:cUp (byt (⟨#[61]⟩:ByteArray) 0)=false:=rfl
theorem eq_not_var:isVarS (⟨#[61]⟩:ByteArray)=false:=by
 rw[← Bool.not_eq_true]
 intro g
 have h1:=(first_up g).2
 rw[eq_first] at h1; cases h1
structure AtomOk(a:Tt):Prop where
 nv:isVarS a.Name=false
 hall:∀ x∈a.Args,x.good=true
 cnt:a.cnt≤30
 isv:impl_isVar a=some false
theorem smallT_cnt{t:Tt}(h:smallT t=true):t.cnt≤30:=by
 unfold smallT at h; rw[aw] at h; exact of_decide_eq_true h.1
theorem goodT_iff{t:Tt}(h:goodT t=true):t.good=true∧t.cnt≤30:=by
 unfold goodT at h; rw[aw] at h; exact⟨h.2,smallT_cnt h.1⟩
theorem atomT_ok{a:Tt}(h:atomT a=true):AtomOk a:=by
 unfold atomT at h
 by_cases e:a.Name=(⟨#[61]⟩:ByteArray)
 ·rw[decide_eq_true e,cond_true] at h
  simp only[aw,aX] at h
  refine⟨by rw[e]; exact eq_not_var,h.2.2,smallT_cnt h.2.1,?_⟩
  unfold impl_isVar
  rw[sidx0 (by rw[e]; exact Nat.lt_of_lt_of_eq Nat.zero_lt_one rfl),ap,isUpper_eq,ap,e,eq_first]
 ·rw[decide_eq_false e,cond_false,aw] at h
  have hv:=sym_not_var h.1
  obtain⟨hg,hc⟩:=goodT_iff h.2
  refine⟨hv,?_,hc,by rw[isVar_good hg,hv]⟩
  rcases nameCase hg with⟨h1,_⟩ | ⟨_,_,_,h2⟩
  ·rw[hv] at h1; cases h1
  ·exact h2
theorem sortB_mem(l:List ByteArray)(x:ByteArray):x∈sortB l↔x∈l:=(sortB_perm l).mem_iff
theorem Sort_ok{l:List ByteArray}(h:l.length≤1000000000):slices_SortS l=some ((),sortB l):=by unfold slices_SortS; rw[if_pos (by omega)]
theorem atom_collect{a:Tt}(h:AtomOk a):∃ v,impl_collect [] a=some v∧(∀ x,x∈v↔x∈a.vars)∧v.length≤30:=by
 have hu:=a.cnt_u
 have hc:=h.cnt
 obtain⟨v,h1,h2,h3,_⟩:=vs_loop (fun _=>True) (fun n s x=>impl_collectN n s x) (2*au a) a.Args 0 [] (fun x hx acc _ hb=>by
  obtain⟨v,k1,k2⟩:=collectN_ok x (h.hall x hx) acc trivial hb
  exact⟨v,fun n hn=>k1 n (by have:=Tt.lt hx; omega),k2⟩) trivial (by simp; omega)
 refine⟨v,lim_eq ⟨2*au a+1,fun n hn=>?_⟩,fun x=>?_,by simp at h3; omega⟩
 ·cases n with
  | zero=>omega
  | succ n=>
   show impl_collectN (n+1) [] a=_
   rw[impl_collectN,h.isv]
   simp only[ap,cond_false,Bool.cond_self,forN_idx]
   rw[h1 n (by omega)]; rfl
 ·rw[h2,Tt.vars_u,h.nv]; simp
theorem atom_vars{a:Tt}(h:AtomOk a):∃ v,impl_variables a=some v∧(∀ x,x∈v↔x∈a.vars)∧v.length≤30:=by
 obtain⟨v,h1,h2,h3⟩:=atom_collect h
 unfold impl_variables
 rw[h1,ap,Sort_ok (by omega),ap]
 exact⟨_,rfl,fun x=>by rw[sortB_mem,h2],by rw[(sortB_perm v).length_eq]; exact h3⟩
theorem l2IntoN_ok(t:Tt):t.Ok→t.good=true→∀ acc,True→acc.length+t.cnt≤1000→∃ v,(∀ n,2*au t≤n→spec_l2IntoN n acc t=some v)∧VS (fun _=>True) acc v t.vars t.cnt:=by
 refine a8 (M:=fun t=>t.Ok→t.good=true→∀ acc,True→acc.length+t.cnt≤1000→∃ v,(∀ n,2*au t≤n→spec_l2IntoN n acc t=some v)∧VS (fun _=>True) acc v t.vars t.cnt) (fun t ih hok hg acc _ hb=>?_) t
 have hp:=t.pos
 have hcp:=t.cnt_pos
 rcases nameCase hg with⟨hv,ha⟩ | ⟨hv,hs,_,hall⟩
 ·refine⟨putS t.Name acc,fun n hn=>?_,fun x=>?_,?_,fun _=>trivial⟩
  ·cases n with
   | zero=>omega
   | succ n=>rw[spec_l2IntoN,l2Var_eq _ hok.u.1,ap,hv,cond_true,l2Put_eq _ _ (by omega)]; rfl
  ·rw[putS_mem,Tt.vars_u,hv,cond_true,List.mem_singleton,or_comm]
  ·have:=putS_len t.Name acc; omega
 ·have hcu:=t.cnt_u
  obtain⟨v,h1,h2,h3,_⟩:=vs_loop (fun _=>True) (fun n s x=>spec_l2IntoN n s x) (2*au t-1) t.Args 0 acc (fun a ha acc _ hb=>by
   obtain⟨v,k1,k2⟩:=ih a ha (hok.u.2.2 a ha) (hall a ha) acc trivial hb
   exact⟨v,fun n hn=>k1 n (by have:=Tt.lt ha; omega),k2⟩) trivial (by omega)
  refine⟨v,fun n hn=>?_,fun x=>by rw[h2,Tt.vars_u,hv,cond_false],by omega,fun _=>trivial⟩
  cases n with
  | zero=>omega
  | succ n=>
   rw[spec_l2IntoN,l2Var_eq _ hok.u.1,ap,hv]
   simp only[cond_false,forN_idx]
   rw[h1 n (by omega)]; rfl
theorem l2Vars_ok{t:Tt}(hok:t.Ok)(hg:t.good=true)(hc:t.cnt≤1000):∃ v,spec_l2Vars t=some v∧(∀ x,x∈v↔x∈t.vars):=by
 obtain⟨v,h1,h2,_⟩:=l2IntoN_ok t hok hg [] trivial (by simpa using hc)
 refine⟨v,?_,fun x=>by simpa using h2 x⟩
 unfold spec_l2Vars
 rw[show spec_l2Into [] t=some v from lim_eq ⟨_,h1⟩]; rfl
theorem atom_l2Vars{a:Tt}(hok:a.Ok)(h:AtomOk a):∃ v,spec_l2Vars a=some v∧(∀ x,x∈v↔x∈a.vars)∧v.length≤30:=by
 have hu:=a.cnt_u
 have hc:=h.cnt
 obtain⟨v,h1,h2,h3,_⟩:=vs_loop (fun _=>True) (fun n s x=>spec_l2IntoN n s x) (2*au a) a.Args 0 [] (fun x hx acc _ hb=>by
  obtain⟨v,k1,k2⟩:=l2IntoN_ok x (hok.u.2.2 x hx) (h.hall x hx) acc trivial hb
  exact⟨v,fun n hn=>k1 n (by have:=Tt.lt hx; omega),k2⟩) trivial (by simp; omega)
 refine⟨v,?_,fun x=>?_,by simp at h3; omega⟩
 ·unfold spec_l2Vars
  rw[show spec_l2Into [] a=some v from lim_eq ⟨2*au a+1,fun n hn=>?_⟩]
  ·rfl
  ·cases n with
   | zero=>omega
   | succ n=>
    show spec_l2IntoN (n+1) [] a=_
    rw[spec_l2IntoN,l2Var_eq _ hok.u.1,ap,h.nv]
    simp only[cond_false,forN_idx]
    rw[h1 n (by omega)]; rfl
 ·rw[h2,Tt.vars_u,h.nv]; simp

/-! ### formulas by cases -/
def isQ(o:Int):Bool:=decide (o=8)||decide (o=9)
theorem zeroT_iff{t:Tt}:zeroT t=true↔t=⟨⟨#[]⟩,[]⟩:=by
 unfold zeroT
 rw[aw,decide_eq_true_iff,List.isEmpty_iff]
 constructor
 ·rintro ⟨h1,h2⟩; rw[← t.eta,h1,h2]
 ·intro h; rw[h]; exact⟨rfl,rfl⟩
theorem good_split{a:Ft}(h:a.good=true):formC a.Op a.Atom a.Var a.Parts.length=true∧∀ p∈a.Parts,p.good=true:=by
 rw[Ft.good_u,aw] at h
 exact⟨h.1,List.all_eq_true.1 h.2⟩
theorem formC_cases{o:Int}{t:Tt}{v:ByteArray}{k:Nat}(h:formC o t v k=true):
 (o=3∧isQ o=false∧k=0∧atomT t=true∧v=⟨#[]⟩)∨(o≠3∧isQ o=true∧k=1∧t=⟨⟨#[]⟩,[]⟩∧isVarS v=true)∨(o≠3∧isQ o=false∧k≤2∧t=⟨⟨#[]⟩,[]⟩∧v=⟨#[]⟩):=by
 unfold formC at h
 by_cases e3:o=3
 ·rw[decide_eq_true e3,cond_true] at h
  simp only[aw,decide_eq_true_eq] at h
  exact .inl ⟨e3,by rw[e3]; rfl,h.1,h.2.1,h.2.2⟩
 ·rw[decide_eq_false e3,cond_false] at h
  cases hq:(decide (o=8)||decide (o=9))
  ·rw[hq,cond_false,aw,aw] at h
   refine .inr (.inr ⟨e3,hq,?_,zeroT_iff.1 h.2.1,of_decide_eq_true h.2.2⟩)
   have h1:=h.1
   cases h12:(decide (o=1)||decide (o=2))
   ·rw[h12,cond_false] at h1
    cases h4:decide (o=4)
    ·rw[h4,cond_false] at h1
     cases h5:(decide (o=5)||(decide (o=6)||decide (o=7)))
     ·rw[h5] at h1; cases h1
     ·rw[h5,cond_true,decide_eq_true_iff] at h1; omega
    ·rw[h4,cond_true,decide_eq_true_iff] at h1; omega
   ·rw[h12,cond_true,decide_eq_true_iff] at h1; omega
  ·rw[hq,cond_true] at h
   simp only[aw,decide_eq_true_eq] at h
   exact .inr (.inl ⟨e3,hq,h.1,zeroT_iff.1 h.2.1,h.2.2⟩)
theorem fcnts_mem{a:Ft}:∀ {l:List Ft},a∈l→a.cnt≤Ft.cnts l
 | b::l,h=>by
  simp only[Ft.cnts]
  rcases List.mem_cons.1 h with rfl | h
  ·omega
  ·have:=fcnts_mem h; omega
theorem fcnt_u(a:Ft):a.cnt=1+Ft.cnts a.Parts:=by rw[Ft.cnt_u,Ft.cnts_eq]
theorem fcnts_len:∀ l:List Ft,l.length≤Ft.cnts l
 | []=>by simp
 | a::l=>by have:=fcnts_len l; have:=a.cnt_pos; simp only[Ft.cnts,aG]; omega

/-! ### free variables -/
mutual
def Ft.fv(x:ByteArray):Ft→Bool
 | .mk o a v ps=>bif decide (o=3) then hasV x a.vars else !(isQ o&&decide (v=x))&&Ft.fvs x ps
def Ft.fvs(x:ByteArray):List Ft→Bool
 | []=>false
 | a::l=>a.fv x||Ft.fvs x l
end
theorem Ft.fv_u(x:ByteArray)(a:Ft):a.fv x=bif decide (a.Op=3) then hasV x a.Atom.vars else !(isQ a.Op&&decide (a.Var=x))&&Ft.fvs x a.Parts:=by cases a; rw[Ft.fv]; rfl
/-- What is gathered of a formula. -/
def GV(acc v:List ByteArray)(P:ByteArray→Bool)(bnd:List ByteArray)(c:Nat):Prop:=(∀ x,x∈v↔x∈acc∨(P x=true∧x∉bnd))∧v.length≤acc.length+c
theorem gv_loop(bnd:List ByteArray)(F:Nat→List ByteArray→Ft→Option (List ByteArray))(N:Nat):∀ (l:List Ft) (i:Nat) (acc:List ByteArray),
 (∀ a∈l,∀ acc:List ByteArray,acc.length+30*a.cnt≤1000000→∃ v,(∀ n,N≤n→F n acc a=some v)∧GV acc v (fun x=>a.fv x) bnd (30*a.cnt))→acc.length+30*Ft.cnts l≤1000000→
 ∃ v,(∀ n,N≤n→forL (ρ:=List ByteArray) (fun _ x s=>(F n s x).bind fun w=>some (.nx w)) l i acc=some (.inr v))∧GV acc v (fun x=>Ft.fvs x l) bnd (30*Ft.cnts l)
 | [],i,acc,_,_=>⟨acc,fun _ _=>rfl,fun x=>by simp[Ft.fvs],by simp[Ft.cnts]⟩
 | a::l,i,acc,h,hb=>by
  simp only[Ft.cnts] at hb
  obtain⟨v,h1,h2,h3⟩:=h a (by simp) acc (by omega)
  obtain⟨w,g1,g2,g3⟩:=gv_loop bnd F N l (i+1) v (fun b hb=>h b (by simp[hb])) (by omega)
  refine⟨w,fun n hn=>?_,fun x=>?_,?_⟩
  ·rw[forL_nx (s':=v) (by rw[h1 n hn]; rfl),g1 n hn]
  ·rw[g2,h2]; simp only[Ft.fvs,Bool.or_eq_true,or_and_right,or_assoc]
  ·simp only[Ft.cnts]; omega
theorem add_impl(bnd:List ByteArray):∀ (V:List ByteArray) (i:Nat) (acc:List ByteArray),acc.length+V.length≤1000000→
 ∃ v,forL (ρ:=List ByteArray) (fun _ x s=>bif hasV x bnd then some (.nx s) else bif hasV x s then some (.nx s) else(app s [x]).bind fun w=>some (.nx w)) V i acc=some (.inr v)∧GV acc v (fun x=>hasV x V) bnd V.length
 | [],i,acc,_=>⟨acc,rfl,fun x=>by simp[hasV],by simp⟩
 | y::V,i,acc,hb=>by
  simp only[aG] at hb
  have key:∃ u,(bif hasV y bnd then some (Flow.nx acc) else bif hasV y acc then some (.nx acc) else(app acc [y]).bind fun w=>some (.nx w))=some (Flow.nx (ρ:=List ByteArray) u)∧(∀ x,x∈u↔x∈acc∨(x=y∧x∉bnd))∧u.length≤acc.length+1:=by
   cases h1:hasV y bnd
   ·have h1':y∉bnd:=fun h=>by rw[hasV_iff.2 h] at h1; cases h1
    cases h2:hasV y acc
    ·refine⟨acc++[y],?_,fun x=>?_,by simp⟩
     ·simp only[cond_false]; unfold app; rw[if_pos (by simp only[aG,a6]; omega)]; rfl
     ·simp only[aT,List.mem_singleton]
      exact⟨fun h=>h.imp id (fun e=>⟨e,e▸h1'⟩),fun h=>h.imp id (fun e=>e.1)⟩
    ·refine⟨acc,rfl,fun x=>⟨.inl,fun h=>h.elim id (fun e=>by rw[e.1]; exact hasV_iff.1 h2)⟩,by omega⟩
   ·exact⟨acc,rfl,fun x=>⟨.inl,fun h=>h.elim id (fun e=>absurd (by rw[e.1]; exact hasV_iff.1 h1) e.2)⟩,by omega⟩
  obtain⟨u,k1,k2,k3⟩:=key
  obtain⟨w,g1,g2,g3⟩:=add_impl bnd V (i+1) u (by omega)
  refine⟨w,by rw[forL_nx (s':=u) k1,g1],fun x=>?_,by simp only[aG]; omega⟩
  rw[g2,k2,hasV_iff,hasV_iff,bq,or_and_right,or_assoc]
theorem add_spec(bnd:List ByteArray):∀ (V:List ByteArray) (i:Nat) (acc:List ByteArray),acc.length+V.length≤1000000→
 ∃ v,forL (ρ:=List ByteArray) (fun _ x s=>bif hasV x bnd then some (.nx s) else(spec_l2Put s x).bind fun w=>some (.nx w)) V i acc=some (.inr v)∧GV acc v (fun x=>hasV x V) bnd V.length
 | [],i,acc,_=>⟨acc,rfl,fun x=>by simp[hasV],by simp⟩
 | y::V,i,acc,hb=>by
  simp only[aG] at hb
  have key:∃ u,(bif hasV y bnd then some (Flow.nx acc) else(spec_l2Put acc y).bind fun w=>some (.nx w))=some (Flow.nx (ρ:=List ByteArray) u)∧(∀ x,x∈u↔x∈acc∨(x=y∧x∉bnd))∧u.length≤acc.length+1:=by
   cases h1:hasV y bnd
   ·have h1':y∉bnd:=fun h=>by rw[hasV_iff.2 h] at h1; cases h1
    refine⟨putS y acc,by rw[cond_false,l2Put_eq _ _ (by omega)]; rfl,fun x=>?_,putS_len y acc⟩
    rw[putS_mem]
    exact⟨fun h=>h.elim (fun e=>.inr ⟨e,e▸h1'⟩) .inl,fun h=>h.elim .inr (fun e=>.inl e.1)⟩
   ·exact⟨acc,rfl,fun x=>⟨.inl,fun h=>h.elim id (fun e=>absurd (by rw[e.1]; exact hasV_iff.1 h1) e.2)⟩,by omega⟩
  obtain⟨u,k1,k2,k3⟩:=key
  obtain⟨w,g1,g2,g3⟩:=add_spec bnd V (i+1) u (by omega)
  refine⟨w,by rw[forL_nx (s':=u) k1,g1],fun x=>?_,by simp only[aG]; omega⟩
  rw[g2,k2,hasV_iff,hasV_iff,bq,or_and_right,or_assoc]
theorem GV.bound{acc v bnd:List ByteArray}{y:ByteArray}{P Q:ByteArray→Bool}{c d:Nat}(h:GV acc v P (bnd++[y]) c)(hq:∀ x,Q x=(!decide (y=x)&&P x))(hc:c≤d):GV acc v Q bnd d:=by
 refine⟨fun x=>?_,by have:=h.2; omega⟩
 rw[h.1,hq]
 simp only[aT,List.mem_singleton,aw,Bool.not_eq_true',decide_eq_false_iff_not,not_or]
 constructor
 ·rintro (h | ⟨h1,h2,h3⟩)
  ·exact .inl h
  ·exact .inr ⟨⟨fun e=>h3 e.symm,h1⟩,h2⟩
 ·rintro (h | ⟨⟨h1,h2⟩,h3⟩)
  ·exact .inl h
  ·exact .inr ⟨h2,h3,fun e=>h1 e.symm⟩
theorem GV.congr{acc v bnd:List ByteArray}{P Q:ByteArray→Bool}{c d:Nat}(h:GV acc v P bnd c)(hq:∀ x,Q x=P x)(hc:c≤d):GV acc v Q bnd d:=
 ⟨fun x=>by rw[h.1,hq],by have:=h.2; omega⟩
theorem clone_str(l:List ByteArray)(h:l.length≤1000000):slices_Clone_Sstring_string l=some l:=by
 unfold slices_Clone_Sstring_string app
 rw[if_pos (by simp; omega)]; rfl
theorem app_str(l:List ByteArray)(y:ByteArray)(h:l.length≤1000000):app l [y]=some (l++[y]):=by unfold app; rw[if_pos (by simp only[aG,a6]; omega)]
theorem app_nil_str(l:List ByteArray)(h:l.length≤1000000):app ([]:List ByteArray) l=some l:=by unfold app; rw[if_pos (by simp; omega)]; rfl
theorem gather_eq(f:Ft):f.good=true→∀ acc bnd:List ByteArray,acc.length+30*f.cnt≤1000000→bnd.length+f.cnt≤1000000→
 ∃ v,(∀ n,2*au f≤n→impl_gatherN n acc f bnd=some v)∧GV acc v (fun x=>f.fv x) bnd (30*f.cnt):=by
 refine Ft.ind' (M:=fun f=>f.good=true→∀ acc bnd:List ByteArray,acc.length+30*f.cnt≤1000000→bnd.length+f.cnt≤1000000→
  ∃ v,(∀ n,2*au f≤n→impl_gatherN n acc f bnd=some v)∧GV acc v (fun x=>f.fv x) bnd (30*f.cnt)) (fun f ih hg acc bnd hb hbb=>?_) f
 have hp:=f.pos
 have hcp:=f.cnt_pos
 have hu:=fcnt_u f
 obtain⟨hform,hparts⟩:=good_split hg
 rcases formC_cases hform with⟨e3,hq,_,hat,_⟩ | ⟨e3,hq,_,_,_⟩ | ⟨e3,hq,_,_,_⟩
 ·obtain⟨V,h1,h2,h3⟩:=atom_vars (atomT_ok hat)
  obtain⟨v,g1,g2⟩:=add_impl bnd V 0 acc (by omega)
  refine⟨v,fun n hn=>?_,g2.congr (fun x=>by rw[Ft.fv_u,decide_eq_true e3,cond_true]; exact hasV_congr (h2 x).symm) (by omega)⟩
  cases n with
  | zero=>omega
  | succ n=>
   rw[impl_gatherN,decide_eq_true e3,cond_true,h1,ap,forN_forL _ (fun _ x s=>bif hasV x bnd then some (.nx s) else bif hasV x s then some (.nx s) else(app s [x]).bind fun w=>some (.nx w)) V 0 acc (fun j x s hx=>by
    simp only[Nat.zero_add,idx_nat,hx,ap,Contains_str]; rfl),g1]
   rfl
 ·obtain⟨v,g1,g2⟩:=gv_loop (bnd++[f.Var]) (fun n s x=>impl_gatherN n s x (bnd++[f.Var])) (2*au f-1) f.Parts 0 acc (fun a ha acc hb=>by
   obtain⟨v,k1,k2⟩:=ih a ha (hparts a ha) acc (bnd++[f.Var]) hb (by have:=fcnts_mem ha; simp; omega)
   exact⟨v,fun n hn=>k1 n (by have:=Ft.lt ha; omega),k2⟩) (by omega)
  refine⟨v,fun n hn=>?_,g2.bound (fun x=>by rw[Ft.fv_u,decide_eq_false e3,cond_false,hq,Bool.true_and]) (by omega)⟩
  cases n with
  | zero=>omega
  | succ n=>
   rw[impl_gatherN,decide_eq_false e3,cond_false,isQ_eq,ap,show(decide (f.Op=8)||decide (f.Op=9))=true from hq,cond_true,clone_str _ (by omega),ap,app_str _ _ (by omega),ap]
   simp only[forN_idx]
   rw[g1 n (by omega)]; rfl
 ·obtain⟨v,g1,g2⟩:=gv_loop bnd (fun n s x=>impl_gatherN n s x bnd) (2*au f-1) f.Parts 0 acc (fun a ha acc hb=>by
   obtain⟨v,k1,k2⟩:=ih a ha (hparts a ha) acc bnd hb (by have:=fcnts_mem ha; omega)
   exact⟨v,fun n hn=>k1 n (by have:=Ft.lt ha; omega),k2⟩) (by omega)
  refine⟨v,fun n hn=>?_,g2.congr (fun x=>by rw[Ft.fv_u,decide_eq_false e3,cond_false,hq]; simp) (by omega)⟩
  cases n with
  | zero=>omega
  | succ n=>
   rw[impl_gatherN,decide_eq_false e3,cond_false,isQ_eq,ap,show(decide (f.Op=8)||decide (f.Op=9))=false from hq,cond_false]
   simp only[forN_idx]
   rw[g1 n (by omega)]; rfl
theorem into_eq8(f:Ft):f.Ok→f.good=true→∀ acc bnd:List ByteArray,acc.length+30*f.cnt≤1000000→bnd.length+f.cnt≤1000000→
 ∃ v,(∀ n,2*au f≤n→spec_l8IntoN n acc f bnd=some v)∧GV acc v (fun x=>f.fv x) bnd (30*f.cnt):=by
 refine Ft.ind' (M:=fun f=>f.Ok→f.good=true→∀ acc bnd:List ByteArray,acc.length+30*f.cnt≤1000000→bnd.length+f.cnt≤1000000→
  ∃ v,(∀ n,2*au f≤n→spec_l8IntoN n acc f bnd=some v)∧GV acc v (fun x=>f.fv x) bnd (30*f.cnt)) (fun f ih hok hg acc bnd hb hbb=>?_) f
 have hp:=f.pos
 have hcp:=f.cnt_pos
 have hu:=fcnt_u f
 obtain⟨hform,hparts⟩:=good_split hg
 have hokp:=hok.u.2.2.2.2
 rcases formC_cases hform with⟨e3,hq,hk,hat,_⟩ | ⟨e3,hq,_,_,_⟩ | ⟨e3,hq,_,_,_⟩
 ·obtain⟨V,h1,h2,h3⟩:=atom_l2Vars hok.u.2.1 (atomT_ok hat)
  obtain⟨v,g1,g2⟩:=add_spec bnd V 0 acc (by omega)
  refine⟨v,fun n hn=>?_,g2.congr (fun x=>by rw[Ft.fv_u,decide_eq_true e3,cond_true]; exact hasV_congr (h2 x).symm) (by omega)⟩
  have h0:f.Parts=[]:=List.eq_nil_of_length_eq_zero hk
  cases n with
  | zero=>omega
  | succ n=>
   rw[spec_l8IntoN,decide_eq_true e3,cond_true,h1,ap,forN_forL _ (fun _ x s=>bif hasV x bnd then some (.nx s) else(spec_l2Put s x).bind fun w=>some (.nx w)) V 0 acc (fun j x s hx=>by
    simp only[Nat.zero_add,idx_nat,hx,ap,l2In_eq]),g1,thenL_inr,e3,h0]
   rfl
 ·obtain⟨v,g1,g2⟩:=gv_loop (bnd++[f.Var]) (fun n s x=>spec_l8IntoN n s x (bnd++[f.Var])) (2*au f-1) f.Parts 0 acc (fun a ha acc hb=>by
   obtain⟨v,k1,k2⟩:=ih a ha (hokp a ha) (hparts a ha) acc (bnd++[f.Var]) hb (by have:=fcnts_mem ha; simp; omega)
   exact⟨v,fun n hn=>k1 n (by have:=Ft.lt ha; omega),k2⟩) (by omega)
  refine⟨v,fun n hn=>?_,g2.bound (fun x=>by rw[Ft.fv_u,decide_eq_false e3,cond_false,hq,Bool.true_and]) (by omega)⟩
  cases n with
  | zero=>omega
  | succ n=>
   rw[spec_l8IntoN,decide_eq_false e3,cond_false,app_nil_str _ (by omega)]
   simp only[ap,app_str _ _ (show bnd.length≤1000000 by omega),forN_idx]
   rw[g1 n (by omega)]
   unfold isQ at hq
   cases e8:decide (f.Op=8)
   ·rw[e8,Bool.false_or] at hq; rw[hq]; rfl
   ·rfl
 ·obtain⟨v,g1,g2⟩:=gv_loop bnd (fun n s x=>spec_l8IntoN n s x bnd) (2*au f-1) f.Parts 0 acc (fun a ha acc hb=>by
   obtain⟨v,k1,k2⟩:=ih a ha (hokp a ha) (hparts a ha) acc bnd hb (by have:=fcnts_mem ha; omega)
   exact⟨v,fun n hn=>k1 n (by have:=Ft.lt ha; omega),k2⟩) (by omega)
  refine⟨v,fun n hn=>?_,g2.congr (fun x=>by rw[Ft.fv_u,decide_eq_false e3,cond_false,hq]; simp) (by omega)⟩
  cases n with
  | zero=>omega
  | succ n=>
   unfold isQ at hq
   rw[Bool.or_eq_false_iff] at hq
   rw[spec_l8IntoN,decide_eq_false e3,cond_false,hq.1,cond_false,hq.2,cond_false]
   simp only[forN_idx]
   rw[g1 n (by omega)]; rfl
theorem free_impl{f:Ft}(hg:f.good=true)(hc:f.cnt≤10000):∃ v,impl_free f=some v∧∀ x,hasV x v=f.fv x:=by
 obtain⟨v,h1,h2,h3⟩:=gather_eq f hg [] [] (by simp; omega) (by simp; omega)
 unfold impl_free
 rw[show impl_gather [] f []=some v from lim_eq ⟨_,h1⟩,ap,Sort_ok (by simp at h3; omega),ap]
 refine⟨_,rfl,fun x=>?_⟩
 rw[Bool.eq_iff_iff,hasV_iff,sortB_mem,h2]; simp
theorem free_spec{f:Ft}(hok:f.Ok)(hg:f.good=true)(hc:f.cnt≤10000):∃ v,spec_l8Free f=some v∧∀ x,hasV x v=f.fv x:=by
 obtain⟨v,h1,h2,h3⟩:=into_eq8 f hok hg [] [] (by simp; omega) (by simp; omega)
 unfold spec_l8Free
 rw[show spec_l8Into [] f []=some v from lim_eq ⟨_,h1⟩,ap]
 refine⟨_,rfl,fun x=>?_⟩
 rw[Bool.eq_iff_iff,hasV_iff,h2]; simp
end
section
/-! ### sizes -/
theorem Tt.Ok_of(t:Tt):t.tot≤1048576→t.Ok:=by
 refine a8 (M:=fun t=>t.tot≤1048576→t.Ok) (fun t ih h=>?_) t
 have hu:=t.tot_u
 have hl:=ltot_len aU t.Args
 have:=Tt.Ok.mk t.Name t.Args (by simp only[Big]; omega) (by simp only[Big]; omega) (fun a ha=>ih a ha (by have:=tot_mem aU ha; omega))
 rwa [t.eta] at this
mutual
def Tt.tiny:Tt→Bool
 | .mk x l=>decide (x.size≤6)&&Tt.tinys l
def Tt.tinys:List Tt→Bool
 | []=>true
 | a::l=>a.tiny&&Tt.tinys l
end
theorem Tt.tinys_eq(l:List Tt):Tt.tinys l=l.all Tt.tiny:=by
 induction l with
 | nil=>rfl
 | cons a l ih=>rw[Tt.tinys,ih]; rfl
theorem Tt.tiny_u(t:Tt):t.tiny=(decide (t.Name.size≤6)&&t.Args.all Tt.tiny):=by cases t; rw[Tt.tiny,Tt.tinys_eq]; rfl
theorem tiny_tots:∀ l:List Tt,(∀ a∈l,a.tot+1≤7*a.cnt)→ltot aU l≤7*Tt.cnts l
 | [],_=>by simp[ltot]
 | a::l,h=>by
  have h1:=h a (by simp)
  have h2:=tiny_tots l (fun x hx=>h x (by simp[hx]))
  simp only[ltot,aG,aF,bw,Tt.cnts] at*
  omega
theorem tiny_tot(t:Tt):t.tiny=true→t.tot+1≤7*t.cnt:=by
 refine a8 (M:=fun t=>t.tiny=true→t.tot+1≤7*t.cnt) (fun t ih h=>?_) t
 rw[Tt.tiny_u,aw,decide_eq_true_iff,aX] at h
 have h1:=tiny_tots t.Args (fun a ha=>ih a ha (h.2 a ha))
 rw[t.tot_u,t.cnt_u]; omega
theorem var_size{s:ByteArray}(h:isVarS s=true):s.size≤4:=by
 unfold isVarS at h
 rw[aw] at h
 have:=inR_iff.1 h.1; omega
theorem sym_size{s:ByteArray}(h:isSymS s=true):s.size≤6:=by
 unfold isSymS at h
 rw[aw,aw] at h
 have:=inR_iff.1 h.1.1; omega
theorem good_tiny(t:Tt):t.good=true→t.tiny=true:=by
 refine a8 (M:=fun t=>t.good=true→t.tiny=true) (fun t ih h=>?_) t
 rw[Tt.tiny_u,aw,decide_eq_true_iff,aX]
 rcases nameCase h with⟨h1,h2⟩ | ⟨_,h1,_,hall⟩
 ·exact⟨by have:=var_size h1; omega,by rw[h2]; simp⟩
 ·exact⟨sym_size h1,fun a ha=>ih a ha (hall a ha)⟩
theorem atom_tiny{a:Tt}(h:atomT a=true):a.tiny=true:=by
 have hall:=(atomT_ok h).hall
 rw[Tt.tiny_u,aw,decide_eq_true_iff,aX]
 refine⟨?_,fun x hx=>good_tiny x (hall x hx)⟩
 unfold atomT at h
 by_cases e:a.Name=(⟨#[61]⟩:ByteArray)
 ·rw[e]; exact Nat.le_of_ble_eq_true rfl
 ·rw[decide_eq_false e,cond_false,aw] at h
  exact sym_size h.1
theorem sb_tiny{n:ByteArray}{t:Tt}(ht:t.tiny=true)(a:Tt):a.tiny=true→(sbT n t a).tiny=true:=by
 refine a8 (M:=fun a=>a.tiny=true→(sbT n t a).tiny=true) (fun a ih h=>?_) a
 rw[Tt.tiny_u,aw,aX] at h
 rw[sbT_u]
 cases (a.Args.isEmpty&&decide (a.Name=n))
 ·rw[cond_false,Tt.tiny_u,aw,aX]
  refine⟨h.1,fun x hx=>?_⟩
  obtain⟨y,hy,rfl⟩:=List.mem_map.1 hx
  exact ih y hy (h.2 y hy)
 ·exact ht
theorem sb_cnts{n:ByteArray}{t:Tt}:∀ l:List Tt,(∀ a∈l,(sbT n t a).cnt≤a.cnt*t.cnt)→Tt.cnts (l.map (sbT n t))≤Tt.cnts l*t.cnt
 | [],_=>by simp[Tt.cnts]
 | a::l,h=>by
  have h1:=h a (by simp)
  have h2:=sb_cnts l (fun x hx=>h x (by simp[hx]))
  simp only[aF,Tt.cnts,Nat.add_mul]; omega
theorem sb_cnt{n:ByteArray}{t:Tt}(a:Tt):(sbT n t a).cnt≤a.cnt*t.cnt:=by
 refine a8 (M:=fun a=>(sbT n t a).cnt≤a.cnt*t.cnt) (fun a ih=>?_) a
 have hp:=t.cnt_pos
 have h1:=sb_cnts a.Args ih
 rw[sbT_u,a.cnt_u,Nat.add_mul,Nat.one_mul]
 cases (a.Args.isEmpty&&decide (a.Name=n))
 ·rw[cond_false,Tt.cnt_u]; show 1+Tt.cnts (a.Args.map _)≤_; omega
 ·rw[cond_true]; omega
theorem sb_atom_tot{n:ByteArray}{t a:Tt}(hg:t.good=true)(hc:t.cnt≤30)(ha:atomT a=true):(sbT n t a).tot≤6300:=by
 have h1:=tiny_tot _ (sb_tiny (n:=n) (good_tiny t hg) a (atom_tiny ha))
 have h2:=sb_cnt (n:=n) (t:=t) a
 have h3:=(atomT_ok ha).cnt
 have h4:a.cnt*t.cnt≤30*30:=Nat.mul_le_mul h3 hc
 omega
/-! ### the substitution -/
def Ft.keep(n:ByteArray)(f:Ft):Bool:=isQ f.Op&&(decide (f.Var=n)||!f.fv n)
mutual
def Ft.sub(n:ByteArray)(t:Tt):Ft→Ft
 | .mk o a v ps=>bif (Ft.mk o a v ps).keep n then .mk o a v ps else bif decide (o=3) then .mk o (sbT n t a) v [] else .mk o a v (Ft.subs n t ps)
def Ft.subs(n:ByteArray)(t:Tt):List Ft→List Ft
 | []=>[]
 | a::l=>a.sub n t::Ft.subs n t l
end
mutual
def Ft.cf(n:ByteArray)(t:Tt):Ft→Bool
 | .mk o a v ps=>bif (Ft.mk o a v ps).keep n then true else bif decide (o=3) then true else !(isQ o&&hasV v t.vars)&&Ft.cfs n t ps
def Ft.cfs(n:ByteArray)(t:Tt):List Ft→Bool
 | []=>true
 | a::l=>a.cf n t&&Ft.cfs n t l
end
mutual
def Ft.sok(n:ByteArray)(t:Tt):Ft→Bool
 | .mk o a v ps=>bif (Ft.mk o a v ps).keep n then true else bif decide (o=3) then atomT (sbT n t a) else !(isQ o&&hasV v t.vars)&&Ft.soks n t ps
def Ft.soks(n:ByteArray)(t:Tt):List Ft→Bool
 | []=>true
 | a::l=>a.sok n t&&Ft.soks n t l
end
theorem Ft.subs_eq(n:ByteArray)(t:Tt)(l:List Ft):Ft.subs n t l=l.map (Ft.sub n t):=by
 induction l with
 | nil=>rfl
 | cons a l ih=>rw[Ft.subs,ih]; rfl
theorem Ft.cfs_eq(n:ByteArray)(t:Tt)(l:List Ft):Ft.cfs n t l=l.all (Ft.cf n t):=by
 induction l with
 | nil=>rfl
 | cons a l ih=>rw[Ft.cfs,ih]; rfl
theorem Ft.soks_eq(n:ByteArray)(t:Tt)(l:List Ft):Ft.soks n t l=l.all (Ft.sok n t):=by
 induction l with
 | nil=>rfl
 | cons a l ih=>rw[Ft.soks,ih]; rfl
theorem Ft.sub_u(n:ByteArray)(t:Tt)(f:Ft):f.sub n t=bif f.keep n then f else bif decide (f.Op=3) then .mk f.Op (sbT n t f.Atom) f.Var [] else .mk f.Op f.Atom f.Var (f.Parts.map (Ft.sub n t)):=by cases f; rw[Ft.sub,Ft.subs_eq]; rfl
theorem Ft.cf_u(n:ByteArray)(t:Tt)(f:Ft):f.cf n t=bif f.keep n then true else bif decide (f.Op=3) then true else !(isQ f.Op&&hasV f.Var t.vars)&&f.Parts.all (Ft.cf n t):=by cases f; rw[Ft.cf,Ft.cfs_eq]; rfl
theorem Ft.sok_u(n:ByteArray)(t:Tt)(f:Ft):f.sok n t=bif f.keep n then true else bif decide (f.Op=3) then atomT (sbT n t f.Atom) else !(isQ f.Op&&hasV f.Var t.vars)&&f.Parts.all (Ft.sok n t):=by cases f; rw[Ft.sok,Ft.soks_eq]; rfl
/-! ### the program's side -/
/-! ### the text's side -/
theorem sput_loop{n:ByteArray}{t:Tt}(F:Nat→Ft→Option (Ft×Bool))(G:List Ft→Ft)(N:Nat):∀ (l:List Ft) (i:Nat) (acc:List Ft),
 (∀ p∈l,∃ r:Ft×Bool,(∀ m,N≤m→F m p=some r)∧r.2=p.sok n t∧(r.2=true→r.1=p.sub n t))→acc.length+l.length≤1000000→
 ∃ q:(Ft×Bool) ⊕ List Ft,(∀ m,N≤m→forL (fun _ x (s:List Ft)=>(F m x).bind fun v=>bif v.2 then(app s [v.1]).bind fun w=>some (.nx w) else some (.rt (G s,false))) l i acc=some q)∧(l.all (Ft.sok n t)=true→q=.inr (acc++l.map (Ft.sub n t)))∧(l.all (Ft.sok n t)=false→∃ g,q=.inl (g,false))
 | [],i,acc,_,_=>⟨.inr acc,fun m _=>rfl,fun _=>by simp,fun h=>by cases h⟩
 | p::l,i,acc,h,hb=>by
  simp only[aG] at hb
  obtain⟨r,h1,h2,h3⟩:=h p (by simp)
  cases hr:r.2
  ·refine⟨.inl (G acc,false),fun m hm=>by rw[forL_rt (r:=(G acc,false)) (by rw[h1 m hm,ap,hr]; rfl)],fun ha=>?_,fun _=>⟨_,rfl⟩⟩
   rw[bH,aw,← h2,hr] at ha; cases ha.1
  ·obtain⟨q,g1,g2,g3⟩:=sput_loop F G N l (i+1) (acc++[r.1]) (fun x hx=>h x (by simp[hx])) (by simp; omega)
   refine⟨q,fun m hm=>?_,fun ha=>?_,fun ha=>?_⟩
   ·rw[forL_nx (s':=acc++[r.1]) (by rw[h1 m hm,ap,hr,cond_true]; unfold app; rw[if_pos (by simp only[aG,a6]; omega)]; rfl),g1 m hm]
   ·rw[bH,aw] at ha
    rw[g2 ha.2,h3 hr]; simp
   ·rw[bH,← h2,hr,Bool.true_and] at ha; exact g3 ha
theorem spec_sub_eq{n:ByteArray}{t:Tt}(hn:isVarS n=true)(hg:t.good=true)(hok:t.Ok)(hct:t.cnt≤30)(f:Ft):f.Ok→f.good=true→f.tot≤1048576→f.cnt≤10000→
 ∃ r:Ft×Bool,(∀ m,2*au f≤m→spec_l8PutN m f n t=some r)∧r.2=f.sok n t∧(r.2=true→r.1=f.sub n t):=by
 refine Ft.ind' (M:=fun f=>f.Ok→f.good=true→f.tot≤1048576→f.cnt≤10000→
  ∃ r:Ft×Bool,(∀ m,2*au f≤m→spec_l8PutN m f n t=some r)∧r.2=f.sok n t∧(r.2=true→r.1=f.sub n t)) (fun f ih hokf hgf ht hc=>?_) f
 have hp:=f.pos
 have hu:=fcnt_u f
 have hpl:=fcnts_len f.Parts
 have hokp:=hokf.u.2.2.2.2
 obtain⟨hform,hparts⟩:=good_split hgf
 obtain⟨q,q1,q2,q3⟩:=sput_loop (n:=n) (t:=t) (fun m y=>spec_l8PutN m y n t) (fun s=>Ft.mk f.Op (Tt.mk (⟨#[]⟩:ByteArray) ([])) f.Var s) (2*au f-1) f.Parts 0 [] (fun p hpm=>by
  obtain⟨r,h1,h2,h3⟩:=ih p hpm (hokp p hpm) (hparts p hpm) (by have:=Ft.tot_part hpm; omega) (by have:=fcnts_mem hpm; omega)
  exact⟨r,fun m hm=>h1 m (by have:=Ft.lt hpm; omega),h2,h3⟩) (by simp; omega)
 have hmf:∀ m,2*au f≤m→∃ k,m=k+1∧2*au f-1≤k:=fun m hm=>⟨m-1,by omega,by omega⟩
 have fin:f.Atom=⟨⟨#[]⟩,[]⟩→∃ r:Ft×Bool,thenL (ρ:=Ft×Bool) (some q) (fun s11=>some ((Ft.mk f.Op (Tt.mk (⟨#[]⟩:ByteArray) ([])) f.Var s11),true))=some r∧r.2=f.Parts.all (Ft.sok n t)∧(r.2=true→r.1=⟨f.Op,f.Atom,f.Var,f.Parts.map (Ft.sub n t)⟩):=by
  intro ha
  cases hall:f.Parts.all (Ft.sok n t)
  ·obtain⟨g,hg⟩:=q3 hall
   rw[hg,thenL_inl]
   exact⟨_,rfl,rfl,fun h=>by cases h⟩
  ·rw[q2 hall,thenL_inr]
   exact⟨_,rfl,rfl,fun _=>by rw[ha]; rfl⟩
 rcases formC_cases hform with⟨e3,hq,hk,hat,_⟩ | ⟨e3,hq,hk,hza,hvv⟩ | ⟨e3,hq,_,hza,_⟩
 ·have hkeep:f.keep n=false:=by unfold Ft.keep; rw[hq]; rfl
  have hao:=atomT_ok hat
  have htot:=sb_atom_tot (n:=n) hg hct hat
  refine⟨(⟨f.Op,sbT n t f.Atom,f.Var,[]⟩,atomT (sbT n t f.Atom)),fun m hm=>?_,by rw[Ft.sok_u,hkeep,cond_false,decide_eq_true e3]; rfl,fun _=>by rw[Ft.sub_u,hkeep,cond_false,decide_eq_true e3]; rfl⟩
  obtain⟨k,rfl,hk'⟩:=hmf m hm
  show spec_l8PutN (k+1) f n t=_
  rw[spec_l8PutN,decide_eq_true e3,cond_true,l4Put_eq n t (by omega),ap,
   show spec_l4Apply (bif decide (t.Name=n) then⟨[]⟩ else⟨[⟨n,t⟩]⟩) f.Atom=some (sbT n t f.Atom) from l4Apply_atom hn (by omega) hg hokf.u.2.1 hao.nv hao.hall (by have:=cnts_len f.Atom.Args; have:=f.Atom.cnt_u; have:=hao.cnt; omega),ap,
   atom_spec _ (by omega) (Tt.Ok_of _ (by omega)),ap]
 ·obtain⟨p0,hp0⟩:∃ p,f.Parts=[p]:=by
   match hpp:f.Parts with
   | []=>rw[hpp] at hk; cases hk
   | [p]=>exact⟨p,rfl⟩
   | _::_::_=>rw[hpp] at hk; simp at hk
  have hm0:p0∈f.Parts:=by rw[hp0]; simp
  obtain⟨V,v1,v2⟩:=free_spec (hokp p0 hm0) (hparts p0 hm0) (by have:=fcnts_mem hm0; omega)
  obtain⟨W,w1,w2⟩:=l2Vars_ok hok hg (show t.cnt≤1000 by omega)
  have hwv:hasV f.Var W=hasV f.Var t.vars:=hasV_congr (w2 _)
  have body:∀ k,2*au f-1≤k→spec_l8PutN (k+1) f n t=bif decide (f.Var=n) then some (f,true) else bif p0.fv n then(bif hasV f.Var t.vars then some ((Ft.mk f.Op (Tt.mk (⟨#[]⟩:ByteArray) ([])) f.Var ([])),false) else thenL (ρ:=Ft×Bool) (some q) (fun s11=>some ((Ft.mk f.Op (Tt.mk (⟨#[]⟩:ByteArray) ([])) f.Var s11),true))) else some (f,true):=by
   intro k hk'
   have hi:idx f.Parts (0:Int)=some p0:=by rw[hp0]; rfl
   rw[spec_l8PutN,decide_eq_false e3,cond_false,ownF f ht,hi]
   simp only[ap,v1,l2In_eq,v2,w1,hwv,forN_idx]
   rw[q1 k hk']
   unfold isQ at hq
   cases e8:decide (f.Op=8)
   ·rw[e8,Bool.false_or] at hq; rw[hq]; rfl
   ·rfl
  by_cases en:f.Var=n
  ·have hkeep:f.keep n=true:=by unfold Ft.keep; rw[hq,decide_eq_true en]; rfl
   refine⟨(f,true),fun m hm=>?_,by rw[Ft.sok_u,hkeep]; rfl,fun _=>by rw[Ft.sub_u,hkeep]; rfl⟩
   obtain⟨k,rfl,hk'⟩:=hmf m hm
   show spec_l8PutN (k+1) f n t=_
   rw[body k hk',decide_eq_true en]; rfl
  ·have hfe:f.fv n=p0.fv n:=by rw[Ft.fv_u,decide_eq_false e3,cond_false,decide_eq_false en,hp0]; simp[Ft.fvs]
   cases hfv:p0.fv n
   ·have hkeep:f.keep n=true:=by unfold Ft.keep; rw[hq,hfe,hfv]; simp
    refine⟨(f,true),fun m hm=>?_,by rw[Ft.sok_u,hkeep]; rfl,fun _=>by rw[Ft.sub_u,hkeep]; rfl⟩
    obtain⟨k,rfl,hk'⟩:=hmf m hm
    show spec_l8PutN (k+1) f n t=_
    rw[body k hk',decide_eq_false en,hfv]; rfl
   ·have hkeep:f.keep n=false:=by unfold Ft.keep; rw[hq,hfe,hfv,decide_eq_false en]; rfl
    cases ho:hasV f.Var t.vars
    ·obtain⟨r,r1,r2,r3⟩:=fin hza
     refine⟨r,fun m hm=>?_,by rw[r2,Ft.sok_u,hkeep,cond_false,decide_eq_false e3,cond_false,ho]; simp,fun hh=>by rw[r3 hh,Ft.sub_u,hkeep,cond_false,decide_eq_false e3,cond_false]⟩
     obtain⟨k,rfl,hk'⟩:=hmf m hm
     show spec_l8PutN (k+1) f n t=_
     rw[body k hk',decide_eq_false en,hfv,ho]; exact r1
    ·refine⟨(⟨f.Op,⟨⟨#[]⟩,[]⟩,f.Var,[]⟩,false),fun m hm=>?_,by rw[Ft.sok_u,hkeep,cond_false,decide_eq_false e3,cond_false,ho,hq]; rfl,fun hh=>by cases hh⟩
     obtain⟨k,rfl,hk'⟩:=hmf m hm
     show spec_l8PutN (k+1) f n t=_
     rw[body k hk',decide_eq_false en,hfv,ho]; rfl
 ·have hkeep:f.keep n=false:=by unfold Ft.keep; rw[hq]; rfl
  obtain⟨r,r1,r2,r3⟩:=fin hza
  refine⟨r,fun m hm=>?_,by rw[r2,Ft.sok_u,hkeep,cond_false,decide_eq_false e3,cond_false,hq]; simp,fun hh=>by rw[r3 hh,Ft.sub_u,hkeep,cond_false,decide_eq_false e3,cond_false]⟩
  obtain⟨k,rfl,hk'⟩:=hmf m hm
  show spec_l8PutN (k+1) f n t=_
  unfold isQ at hq
  rw[Bool.or_eq_false_iff] at hq
  rw[spec_l8PutN,decide_eq_false e3,cond_false,hq.1,cond_false,hq.2,cond_false]
  simp only[forN_idx]
  rw[q1 k hk']; exact r1
theorem spec_put{n:ByteArray}{t:Tt}(hn:isVarS n=true)(hg:t.good=true)(hok:t.Ok)(hct:t.cnt≤30){f:Ft}(hof:f.Ok)(hgf:f.good=true)(ht:f.tot≤1048576)(hc:f.cnt≤10000):
 ∃ r:Ft×Bool,spec_l8Put f n t=some r∧r.2=f.sok n t∧(r.2=true→r.1=f.sub n t):=by
 obtain⟨r,h1,h2,h3⟩:=spec_sub_eq hn hg hok hct f hof hgf ht hc
 exact⟨r,lim_eq ⟨_,h1⟩,h2,h3⟩
/-! ### what comes of it is valid if its atoms are -/
theorem sub_cnts{n:ByteArray}{t:Tt}:∀ l:List Ft,(∀ a∈l,(a.sub n t).cnt=a.cnt)→Ft.cnts (l.map (Ft.sub n t))=Ft.cnts l
 | [],_=>rfl
 | a::l,h=>by
  simp only[aF,Ft.cnts]
  rw[h a (by simp),sub_cnts l (fun x hx=>h x (by simp[hx]))]
theorem sub_cnt{n:ByteArray}{t:Tt}(f:Ft):f.good=true→(f.sub n t).cnt=f.cnt:=by
 refine Ft.ind' (M:=fun f=>f.good=true→(f.sub n t).cnt=f.cnt) (fun f ih hg=>?_) f
 obtain⟨hform,hparts⟩:=good_split hg
 rw[Ft.sub_u]
 cases f.keep n
 ·rw[cond_false]
  cases e:decide (f.Op=3)
  ·rw[cond_false,fcnt_u,fcnt_u f]
   show 1+Ft.cnts (f.Parts.map _)=_
   rw[sub_cnts f.Parts (fun a ha=>ih a ha (hparts a ha))]
  ·have e3:=of_decide_eq_true e
   rcases formC_cases hform with⟨_,_,hk,_⟩ | ⟨h,_⟩ | ⟨h,_⟩
   ·rw[cond_true,fcnt_u,fcnt_u f,List.eq_nil_of_length_eq_zero hk]; rfl
   ·exact absurd e3 h
   ·exact absurd e3 h
 ·rfl
theorem sub_good{n:ByteArray}{t:Tt}(f:Ft):f.good=true→f.cf n t=true→(f.sub n t).good=f.sok n t:=by
 refine Ft.ind' (M:=fun f=>f.good=true→f.cf n t=true→(f.sub n t).good=f.sok n t) (fun f ih hg hcf=>?_) f
 obtain⟨hform,hparts⟩:=good_split hg
 rw[Ft.sub_u,Ft.sok_u]
 rw[Ft.cf_u] at hcf
 cases hk:f.keep n
 ·rw[hk,cond_false] at hcf
  rw[cond_false,cond_false]
  cases e:decide (f.Op=3)
  ·rw[e,cond_false,aw,aX] at hcf
   rw[cond_false,cond_false,Ft.good_u,hcf.1,Bool.true_and]
   show(formC f.Op f.Atom f.Var (f.Parts.map _).length&&(f.Parts.map _).all Ft.good)=_
   rw[aC,hform,Bool.true_and,List.all_map,Bool.eq_iff_iff,aX,aX]
   exact⟨fun h a ha=>by rw[← ih a ha (hparts a ha) (hcf.2 a ha)]; exact h a ha,fun h a ha=>by show(a.sub n t).good=true; rw[ih a ha (hparts a ha) (hcf.2 a ha)]; exact h a ha⟩
  ·have e3:=of_decide_eq_true e
   rcases formC_cases hform with⟨_,_,_,_,hv⟩ | ⟨h,_⟩ | ⟨h,_⟩
   ·rw[cond_true,cond_true,Ft.good_u]
    show(formC f.Op (sbT n t f.Atom) f.Var 0&&true)=_
    unfold formC
    rw[e,cond_true,hv]; simp
   ·exact absurd e3 h
   ·exact absurd e3 h
 ·rw[cond_true,cond_true,hg]
theorem ftots{g:Ft→Ft}{c:Nat}:∀ l:List Ft,(∀ a∈l,(g a).tot+1≤c*a.cnt)→ltot Ft.tot (l.map g)≤c*Ft.cnts l
 | [],_=>by simp[ltot]
 | a::l,h=>by
  have h1:=h a (by simp)
  have h2:=ftots l (fun x hx=>h x (by simp[hx]))
  simp only[ltot,aG,aF,bw,Ft.cnts,Nat.mul_add] at*
  omega
theorem var_tot{f:Ft}(hform:formC f.Op f.Atom f.Var f.Parts.length=true):f.Var.size≤4:=by
 rcases formC_cases hform with⟨_,_,_,_,hv⟩ | ⟨_,_,_,_,hv⟩ | ⟨_,_,_,_,hv⟩
 ·rw[hv]; exact Nat.zero_le _
 ·exact var_size hv
 ·rw[hv]; exact Nat.zero_le _
theorem atom_tot{f:Ft}(hform:formC f.Op f.Atom f.Var f.Parts.length=true):f.Atom.tot≤210:=by
 have hz:(⟨⟨#[]⟩,[]⟩:Tt).tot≤210:=by rw[Tt.tot_u]; exact Nat.le_of_ble_eq_true rfl
 rcases formC_cases hform with⟨_,_,_,hat,_⟩ | ⟨_,_,_,hv,_⟩ | ⟨_,_,_,hv,_⟩
 ·have:=tiny_tot _ (atom_tiny hat); have:=(atomT_ok hat).cnt; omega
 ·rw[hv]; exact hz
 ·rw[hv]; exact hz
theorem good_tot(f:Ft):f.good=true→f.tot+1≤220*f.cnt:=by
 refine Ft.ind' (M:=fun f=>f.good=true→f.tot+1≤220*f.cnt) (fun f ih hg=>?_) f
 obtain⟨hform,hparts⟩:=good_split hg
 have h1:=var_tot hform
 have h2:=atom_tot hform
 have h3:=ftots (g:=fun x=>x) (c:=220) f.Parts (fun a ha=>ih a ha (hparts a ha))
 rw[List.map_id'] at h3
 rw[f.tot_u,fcnt_u f]; omega
theorem Ft.Ok_of(f:Ft):f.good=true→f.tot≤1048576→f.Ok:=by
 refine Ft.ind' (M:=fun f=>f.good=true→f.tot≤1048576→f.Ok) (fun f ih hg ht=>?_) f
 obtain⟨hform,hparts⟩:=good_split hg
 have hu:=f.tot_u
 have hl:=ltot_len Ft.tot f.Parts
 have hop:InR f.Op:=by
  unfold formC at hform
  by_cases hr:InR f.Op
  ·exact hr
  ·simp only[InR] at hr
   have e:∀ k:Int,1≤k→k≤9→decide (f.Op=k)=false:=fun k h1 h2=>decide_eq_false (fun h=>hr (by omega))
   rw[e 1 (by decide) (by decide),e 2 (by decide) (by decide),e 3 (by decide) (by decide),e 4 (by decide) (by decide),e 5 (by decide) (by decide),e 6 (by decide) (by decide),e 7 (by decide) (by decide),e 8 (by decide) (by decide),e 9 (by decide) (by decide)] at hform
   simp at hform
 have:=Ft.Ok.mk f.Op f.Atom f.Var f.Parts hop (Tt.Ok_of f.Atom (by omega)) (show f.Var.size≤9223372036854775807 by omega) (show f.Parts.length≤9223372036854775807 by omega) (fun a ha=>ih a ha (hparts a ha) (by have:=Ft.tot_part ha; omega))
 rwa [f.eta] at this
theorem validF_iff{f:Ft}(h:validF f=true):f.cnt≤40∧f.good=true:=by
 unfold validF at h; rw[aw,decide_eq_true_iff] at h; exact h
theorem validF_tot{f:Ft}(h:validF f=true):f.tot≤8800:=by
 obtain⟨h1,h2⟩:=validF_iff h
 have:=good_tot f h2; omega
theorem validF_Ok{f:Ft}(h:validF f=true):f.Ok:=Ft.Ok_of f (validF_iff h).2 (by have:=validF_tot h; omega)
theorem goodT_Ok{t:Tt}(h:goodT t=true):t.tot≤210∧t.Ok:=by
 obtain⟨h1,h2⟩:=goodT_iff h
 have:=tiny_tot t (good_tiny t h1)
 exact⟨by omega,Tt.Ok_of t (by omega)⟩
/-- What SubstituteFormula gives, for whatever it is handed. -/
def subst(f:Ft)(n:ByteArray)(t:Tt):Bool:=validF f&&(isVarS n&&(goodT t&&f.sok n t))
theorem sub_valid{n:ByteArray}{t:Tt}{f:Ft}(hv:validF f=true)(hcf:f.cf n t=true):validF (f.sub n t)=f.sok n t:=by
 obtain⟨h1,h2⟩:=validF_iff hv
 unfold validF
 rw[sub_cnt f h2,sub_good f h2 hcf,decide_eq_true h1,Bool.true_and]
end
section
def cmpI(a b:Int):Int:=if a<b then -1 else if b<a then 1 else 0
theorem isNaN_eq(a:Int):cmp_isNaN_int a=some false:=by simp[cmp_isNaN_int]
theorem Compare_eq(a b:Int):cmp_Compare_int a b=some (cmpI a b):=by
 simp only[cmp_Compare_int,isNaN_eq,ap,cond_false]
 unfold cmpI
 by_cases h:a<b
 ·simp[h]
 ·by_cases h':b<a<;>simp[h,h']
theorem Or2_eq(a b:Int):cmp_Or_int [a,b]=some (if a=0 then b else a):=by
 unfold cmp_Or_int
 simp only[forN_idx]
 by_cases h:a=0
 ·rw[forL_nx (s':=()) (by simp[h])]
  by_cases h':b=0
  ·rw[forL_nx (s':=()) (by simp[h'])]; simp[forL,thenL_inr,h,h']
  ·rw[forL_rt (r:=b) (by simp[h']),thenL_inl]; simp[h]
 ·rw[forL_rt (r:=a) (by simp[h]),thenL_inl]; simp[h]
def cmpS(a b:ByteArray):Int:=if slt a b=true then -1 else if a=b then 0 else 1
theorem isNaNS_eq(a:ByteArray):cmp_isNaN_string a=some false:=by simp[cmp_isNaN_string]
theorem CompareS_eq(a b:ByteArray):cmp_Compare_string a b=some (cmpS a b):=by
 simp only[cmp_Compare_string,isNaNS_eq,ap,cond_false]
 unfold cmpS slt
 by_cases h:Op.bytesLess a.data.toList b.data.toList=true
 ·rw[if_pos h,h]; rfl
 ·rw[if_neg h]
  have h':Op.bytesLess a.data.toList b.data.toList=false:=by simpa using h
  rw[h',cond_false]
  by_cases e:a=b
  ·rw[decide_eq_true e,if_pos e]; rfl
  ·rw[decide_eq_false e,if_neg e]; rfl
theorem slt_tri{a b:ByteArray}(h:¬ slt a b=true)(h2:¬ a=b):slt b a=true:=by
 cases e:slt b a
 ·exact absurd (ba_ext (bytesLess_total (by simpa[slt] using h) (by simpa[slt] using e))) h2
 ·rfl
theorem srt_ins{pre suf:List ByteArray}{x:ByteArray}(h:Srt (pre++suf))(h1:∀ y∈pre,slt y x=true)(h2:∀ y∈suf,slt x y=true):Srt (pre++[x]++suf):=by
 unfold Srt at*
 rw[List.pairwise_append] at h
 rw[aS,List.pairwise_append]
 refine⟨h.1,?_,fun a ha b hb=>?_⟩
 ·rw[List.singleton_append,List.pairwise_cons]; exact⟨h2,h.2.1⟩
 ·rw[List.singleton_append,bq] at hb
  rcases hb with rfl | hb
  ·exact h1 a ha
  ·exact h.2.2 a ha b hb
theorem ins_eq{pre suf:List ByteArray}{x:ByteArray}(hb:(pre++suf).length≤1000)(i:Int)(hi:i=(pre.length:Nat)):(aa (slc (pre++suf) 0 i) fun v36=>aa (app ([]) v36) fun v37=>aa (app v37 ([x])) fun v40=>aa (slc (pre++suf) i ((pre++suf).length:Int)) fun v43=>app v40 v43)=some (pre++[x]++suf):=by
 subst hi
 simp only[aV] at hb
 have e1:slc (pre++suf) 0 (pre.length:Int)=some pre:=by unfold slc; rw[if_pos (by simp; omega)]; simp
 have e2:slc (pre++suf) (pre.length:Int) ((pre++suf).length:Int)=some suf:=by unfold slc; rw[if_pos (by simp; omega),Int.toNat_natCast,Int.toNat_natCast,List.take_length,List.drop_left]
 rw[e1,ap]
 have e3:app ([]:List ByteArray) pre=some pre:=by unfold app; rw[if_pos (by simp only[a6]; omega)]; rfl
 have e4:app pre [x]=some (pre++[x]):=by unfold app; rw[if_pos (by simp only[aG,a6]; omega)]
 rw[e3,ap,e4,ap,e2,ap]
 unfold app; rw[if_pos (by simp only[aV,aG,a6]; omega)]
theorem l2Put_ok(acc:List ByteArray)(x:ByteArray)(hs:Srt acc)(hb:acc.length≤1000):∃ v,spec_l2Put acc x=some v∧(∀ y,y∈v↔y∈acc∨y∈[x])∧v.length≤acc.length+1∧Srt v:=by
 unfold spec_l2Put
 have key:∀ (suf pre:List ByteArray),pre++suf=acc→(∀ y∈pre,slt y x=true)→∃ v,(thenL (ρ:=(List ByteArray)) (σ:=Unit) (forN (fun (i2:Nat) (s2:Unit)=>
  aa (idx acc (i2:Int)) fun v13=>
  bif Op.bytesLess v13.data.toList x.data.toList then
   some (.nx ())
  else
   aa (idx acc (i2:Int)) fun v27=>
   bif decide (v27=x) then
    some (.rt acc)
   else
    aa (slc acc (0:Int) (i2:Int)) fun v36=>
    aa (app ([]) v36) fun v37=>
    aa (app v37 ([x])) fun v40=>
    aa (slc acc (i2:Int) (acc.length:Int)) fun v43=>
    aa (app v40 v43) fun v44=>
    some (.rt v44)) suf.length pre.length ()) fun s2=>
  aa (slc acc (0:Int) ((acc.length:Nat):Int)) fun v36=>
  aa (app ([]) v36) fun v37=>
  aa (app v37 ([x])) fun v40=>
  aa (slc acc ((acc.length:Nat):Int) (acc.length:Int)) fun v43=>
  aa (app v40 v43) fun v44=>
  some v44)=some v∧(∀ y,y∈v↔y∈acc∨y∈[x])∧v.length≤acc.length+1∧Srt v:=by
  intro suf
  induction suf with
  | nil=>
   intro pre he hp
   rw[bj] at he
   subst he
   have e:=ins_eq (pre:=pre) (suf:=[]) (x:=x) (by simpa using hb) pre.length rfl
   simp only[bj] at e
   refine⟨pre++[x],?_,fun y=>by simp,by simp,?_⟩
   ·rw[a6,forN_zero,thenL_inr]
    have:=congrArg (fun o=>aa o fun v44=>some v44) e
    simpa only[Option.bind_assoc,ap] using this
   ·have:=srt_ins (pre:=pre) (suf:=[]) (x:=x) (by simpa using hs) hp (by simp)
    simpa using this
  | cons s suf ih=>
   intro pre he hp
   have hi:idx acc (pre.length:Int)=some s:=by rw[idx_nat,← he]; simp
   by_cases c1:slt s x=true
   ·rw[aG,forN_nx (s':=()) (by rw[hi,ap]; rw[show Op.bytesLess s.data.toList x.data.toList=true from c1]; rfl)]
    have:=ih (pre++[s]) (by simpa using he) (fun y hy=>by
     rw[aT,List.mem_singleton] at hy
     rcases hy with hy | rfl
     ·exact hp y hy
     ·exact c1)
    simpa only[aV,aG,a6,Nat.zero_add] using this
   ·have c1':Op.bytesLess s.data.toList x.data.toList=false:=by simpa[slt] using c1
    by_cases c2:s=x
    ·rw[aG,forN_rt (r:=acc) (by rw[hi,ap,c1',cond_false,ap,decide_eq_true c2]; rfl),thenL_inl]
     refine⟨acc,rfl,fun y=>⟨Or.inl,fun g=>g.elim id fun g=>?_⟩,by omega,hs⟩
     rw[List.mem_singleton] at g
     rw[g,← he,← c2]; simp
    ·have c3:=slt_tri c1 c2
     have e:=ins_eq (pre:=pre) (suf:=s::suf) (x:=x) (by rw[he]; exact hb) pre.length rfl
     rw[he] at e
     have e':(aa (slc acc (0:Int) (pre.length:Int)) fun v36=>aa (app ([]) v36) fun v37=>aa (app v37 ([x])) fun v40=>aa (slc acc (pre.length:Int) (acc.length:Int)) fun v43=>aa (app v40 v43) fun v44=>some (Flow.rt (ρ:=List ByteArray) (σ:=Unit) v44))=some (.rt (pre++[x]++s::suf)):=by
      have:=congrArg (fun o=>aa o fun v44=>some (Flow.rt (ρ:=List ByteArray) (σ:=Unit) v44)) e
      simpa only[Option.bind_assoc,ap] using this
     rw[aG,forN_rt (r:=pre++[x]++s::suf) (by rw[hi,ap,c1',cond_false,ap,decide_eq_false c2,cond_false]; exact e'),thenL_inl]
     refine⟨_,rfl,fun y=>?_,?_,srt_ins (by rw[he]; exact hs) hp (fun y hy=>?_)⟩
     ·rw[← he]; simp only[aT,bq,List.mem_singleton,List.not_mem_nil,or_false]
      constructor
      ·rintro ((g | g) | g)
       ·exact Or.inl (Or.inl g)
       ·exact Or.inr g
       ·exact Or.inl (Or.inr g)
      ·rintro ((g | g) | g)
       ·exact Or.inl (Or.inl g)
       ·exact Or.inr g
       ·exact Or.inl (Or.inr g)
     ·rw[← he]; simp only[aV,aG,a6]; omega
     ·rw[bq] at hy
      rcases hy with rfl | hy
      ·exact c3
      ·have hs2:=hs
       rw[← he] at hs2
       unfold Srt at hs2
       rw[List.pairwise_append,List.pairwise_cons] at hs2
       have:=hs2.2.1.1 y hy
       exact bytesLess_trans c3 this
 exact key acc [] rfl (by simp)
theorem len0_of{v w:List ByteArray}(h:∀ x,x∈v↔x∈w):decide ((v.length:Int)=0)=w.isEmpty:=by
 rw[isEmpty_dec]
 cases v with
 | nil=>
  cases w with
  | nil=>rfl
  | cons b w=>exact absurd ((h b).2 (by simp)) (by simp)
 | cons a v=>
  cases w with
  | nil=>exact absurd ((h a).1 (by simp)) (by simp)
  | cons b w=>rfl
theorem l2IntoN_okS(t:Tt):t.Ok→t.good=true→∀ acc,Srt acc→acc.length+t.cnt≤1000→∃ v,(∀ n,2*au t≤n→spec_l2IntoN n acc t=some v)∧VS Srt acc v t.vars t.cnt:=by
 refine a8 (M:=fun t=>t.Ok→t.good=true→∀ acc,Srt acc→acc.length+t.cnt≤1000→∃ v,(∀ n,2*au t≤n→spec_l2IntoN n acc t=some v)∧VS Srt acc v t.vars t.cnt) (fun t ih hok hg acc hq hb=>?_) t
 have hp:=t.pos
 have hiv:=l2Var_eq t.Name hok.u.1
 have hc:=t.cnt_pos
 rcases nameCase hg with⟨hv,ha⟩ | ⟨hv,hs,_,hall⟩
 ·rw[Tt.vars_u,hv,cond_true]
  obtain⟨v,h1,h2,h3,h4⟩:=l2Put_ok acc t.Name hq (by omega)
  refine⟨v,fun n hn=>?_,h2,by omega,fun _=>h4⟩
  cases n with
  | zero=>omega
  | succ n=>
   rw[spec_l2IntoN,hiv,hv,h1]; rfl
 ·rw[Tt.vars_u,hv,cond_false]
  have hcu:=t.cnt_u
  obtain⟨v,h1,h2,h3,h4⟩:=vs_loop Srt (fun n s x=>spec_l2IntoN n s x) (2*au t-1) t.Args 0 acc (fun a ha acc hq hb=>by
   obtain⟨v,k1,k2⟩:=ih a ha (hok.u.2.2 a ha) (hall a ha) acc hq hb
   exact⟨v,fun n hn=>k1 n (by have:=Tt.lt ha; omega),k2⟩) hq (by omega)
  refine⟨v,fun n hn=>?_,h2,by omega,h4⟩
  cases n with
  | zero=>omega
  | succ n=>
   rw[spec_l2IntoN,hiv,hv]
   simp only[ap,cond_false,forN_idx]
   rw[h1 n (by omega)]; rfl
theorem l2Vars_okS{t:Tt}(hok:t.Ok)(hg:t.good=true)(hc:t.cnt≤1000):∃ v,spec_l2Vars t=some v∧(∀ x,x∈v↔x∈t.vars)∧Srt v:=by
 obtain⟨v,h1,h2,_,h3⟩:=l2IntoN_okS t hok hg [] List.Pairwise.nil (by simpa using hc)
 refine⟨v,?_,fun x=>by simpa using h2 x,h3 List.Pairwise.nil⟩
 unfold spec_l2Vars
 rw[show spec_l2Into [] t=some v from lim_eq ⟨_,h1⟩]; rfl
end
section
theorem l2Text_eq(a b:ByteArray):spec_l2Text a b=some (cmpS a b):=by
 unfold spec_l2Text cmpS
 by_cases h:slt a b=true
 ·rw[if_pos h]; rw[show Op.bytesLess a.data.toList b.data.toList=true from h]; rfl
 ·rw[if_neg h,show Op.bytesLess a.data.toList b.data.toList=false by simpa[slt] using h,cond_false]
  by_cases e:a=b
  ·rw[decide_eq_true e,if_pos e]; rfl
  ·rw[decide_eq_false e,if_neg e]; rfl
theorem cmpS_self(a:ByteArray):cmpS a a=0:=by
 unfold cmpS; rw[if_neg (by unfold slt; rw[bytesLess_irrefl]; decide),if_pos rfl]
theorem cmpS_ne{a b:ByteArray}(h:¬ a=b):cmpS a b≠0:=by
 unfold cmpS; rw[if_neg h]; split<;>decide
def lexI(f:Nat→Int):Nat→Nat→Int
 | 0,_=>0
 | n+1,i=>if f i=0 then lexI f n (i+1) else f i
theorem forN_lex{f:Nat→Int}{g:Nat→Unit→Option (Flow Int Unit)}{k:Unit→Option Int}(hk:k ()=some 0):∀ (n i:Nat),(∀ j,i≤j→j<i+n→g j ()=some (bif decide (f j=0) then .nx () else .rt (f j)))→
 thenL (forN g n i ()) k=some (lexI f n i)
 | 0,i,_=>by rw[forN_zero,thenL_inr,hk]; rfl
 | n+1,i,h=>by
  have g1:=h i (aM _) (by omega)
  rw[lexI]
  by_cases e:f i=0
  ·rw[forN_nx (s':=()) (by rw[g1,decide_eq_true e]; rfl),if_pos e]
   exact forN_lex hk n (i+1) (fun j h1 h2=>h j (by omega) (by omega))
  ·rw[forN_rt (r:=f i) (by rw[g1,decide_eq_false e]; rfl),if_neg e,thenL_inl]
/-! The order of terms. -/
mutual
def cmpR:Tt→Tt→Int
 | .mk n l,.mk m k=>if isVarS n=isVarS m then(if n=m then(if l.length<k.length then -1 else if k.length<l.length then 1 else cmpRs l k) else cmpS n m) else(if isVarS n=true then -1 else 1)
def cmpRs:List Tt→List Tt→Int
 | a::l,b::k=>if cmpR a b=0 then cmpRs l k else cmpR a b
 | [],_=>0
 | _::_,[]=>0
end
def cmpB(a b:Tt):Int:=if a.Name=b.Name then(if a.Args.length<b.Args.length then -1 else if b.Args.length<a.Args.length then 1 else cmpRs a.Args b.Args) else cmpS a.Name b.Name
theorem cmpR_u(a b:Tt):cmpR a b=if isVarS a.Name=isVarS b.Name then cmpB a b else(if isVarS a.Name=true then -1 else 1):=by cases a; cases b; rw[cmpR]; rfl
theorem lexI_eq(l k:List Tt)(h:l.length=k.length):lexI (fun j=>cmpR (l.getD j default) (k.getD j default)) l.length 0=cmpRs l k:=by
 have key:∀ (l k pl pk:List Tt),pl.length=pk.length→l.length=k.length→lexI (fun j=>cmpR ((pl++l).getD j default) ((pk++k).getD j default)) l.length pl.length=cmpRs l k:=by
  intro l
  induction l with
  | nil=>intro k pl pk _ h; cases k with
   | nil=>rfl
   | cons _ _=>simp at h
  | cons a l ih=>
   intro k pl pk hp h
   cases k with
   | nil=>simp at h
   | cons b k=>
    simp only[aG,lexI]
    have e1:(pl++a::l).getD pl.length default=a:=by simp[List.getD]
    have e2:(pk++b::k).getD pl.length default=b:=by rw[hp]; simp[List.getD]
    rw[e1,e2,cmpRs]
    by_cases c:cmpR a b=0
    ·rw[if_pos c,if_pos c]
     have:=ih k (pl++[a]) (pk++[b]) (by simp[hp]) (by simpa using h)
     simpa using this
    ·rw[if_neg c,if_neg c]
 have:=key l k [] [] rfl h
 simpa using this
/-- A term or an atom: what a comparison asks of it. -/
def CG(t:Tt):Prop:=impl_isVar t=some (isVarS t.Name)∧∀ x∈t.Args,x.good=true
theorem cg_of{t:Tt}(g:t.good=true):CG t:=⟨isVar_good g,fun x hx=>by
 rcases nameCase g with⟨_,h⟩ | ⟨_,_,_,h⟩
 ·rw[h] at hx; simp at hx
 ·exact h x hx⟩
theorem cg_atom{t:Tt}(h:atomT t=true):CG t:=⟨by rw[(atomT_ok h).isv,(atomT_ok h).nv],(atomT_ok h).hall⟩
theorem cmp_both(a:Tt):∀ b:Tt,a.Ok→CG a→b.Ok→CG b→∀ n,2*au a≤n→spec_l2CompareN n a b=some (cmpR a b)∧impl_compareTermsN n a b=some (cmpR a b):=by
 refine a8 (M:=fun a=>∀ b:Tt,a.Ok→CG a→b.Ok→CG b→∀ n,2*au a≤n→spec_l2CompareN n a b=some (cmpR a b)∧impl_compareTermsN n a b=some (cmpR a b)) (fun a ih b oka ga okb gb=>?_) a
 have hp:=a.pos
 have ia:=ga.1
 have ib:=gb.1
 have sa:=l2Var_eq a.Name oka.u.1
 have sb:=l2Var_eq b.Name okb.u.1
 have gargs:∀ {t:Tt},CG t→∀ x∈t.Args,CG x:=fun {t} g x hx=>cg_of (g.2 x hx)
 have hR:∀ x∈a.Args,∀ y∈b.Args,∀ n,2*au x≤n→spec_l2CompareN n x y=some (cmpR x y)∧impl_compareTermsN n x y=some (cmpR x y):=fun x hx y hy=>
  ih x hx y (oka.u.2.2 x hx) (gargs ga x hx) (okb.u.2.2 y hy) (gargs gb y hy)
 let w:Int:=if a.Name=b.Name then(if a.Args.length<b.Args.length then -1 else if b.Args.length<a.Args.length then 1 else lexI (fun j=>cmpR (a.Args.getD j default) (b.Args.getD j default)) a.Args.length 0) else cmpS a.Name b.Name
 have hS:∀ n,2*au a≤n+1→(bif decide (a.Name=b.Name) then
  bif decide ((a.Args.length:Int)<(b.Args.length:Int)) then
   some (-1:Int)
  else
   bif decide ((b.Args.length:Int)<(a.Args.length:Int)) then
    some (1:Int)
   else
    thenL (ρ:=Int) (σ:=Unit) (forN (fun (i13:Nat) (s13:Unit)=>
     aa (idx a.Args (i13:Int)) fun v64=>
     aa (idx b.Args (i13:Int)) fun v69=>
     aa (spec_l2CompareN n v64 v69) fun v71=>
     bif decide (v71=(0:Int)) then
      some (.nx ())
     else
      some (.rt v71)) a.Args.length 0 ()) fun s13=>
    some (0:Int)
  else
   aa (spec_l2Text a.Name b.Name) fun v37=>
   some v37)=some w:=by
  intro n hn
  simp only[w]
  by_cases e:a.Name=b.Name
  ·rw[decide_eq_true e,if_pos e,cond_true]
   by_cases e1:a.Args.length<b.Args.length
   ·rw[decide_eq_true (show(a.Args.length:Int)<(b.Args.length:Int) by omega),if_pos e1]; rfl
   ·rw[decide_eq_false (show ¬ (a.Args.length:Int)<(b.Args.length:Int) by omega),if_neg e1,cond_false]
    by_cases e2:b.Args.length<a.Args.length
    ·rw[decide_eq_true (show(b.Args.length:Int)<(a.Args.length:Int) by omega),if_pos e2]; rfl
    ·rw[decide_eq_false (show ¬ (b.Args.length:Int)<(a.Args.length:Int) by omega),if_neg e2,cond_false]
     refine forN_lex rfl _ _ (fun j _ hj=>?_)
     have ha:=getD_mem (l:=a.Args) (i:=j) (by omega)
     have hb:=getD_mem (l:=b.Args) (i:=j) (by omega)
     rw[idx_getD (by omega),ap,idx_getD (by omega),ap,(hR _ ha _ hb n (by have:=Tt.lt ha; omega)).1,ap]
     cases decide (cmpR (a.Args.getD j default) (b.Args.getD j default)=0)<;>rfl
  ·rw[decide_eq_false e,if_neg e,cond_false,l2Text_eq]; rfl
 have hI:∀ n,2*au a≤n+1→(aa (cmp_Compare_string a.Name b.Name) fun v28=>
  aa (cmp_Compare_int (a.Args.length:Int) (b.Args.length:Int)) fun v35=>
  aa (cmp_Or_int ([v28,v35])) fun v37=>
  bif decide (v37=(0:Int)) then
   aa (slices_CompareFunc_Simpl_Term_Simpl_Term_impl_Term_impl_Term a.Args b.Args (fun y0 y1=>impl_compareTermsN n y0 y1)) fun v45=>
   some v45
  else
   some v37)=some w:=by
  intro n hn
  simp only[w]
  rw[CompareS_eq,ap,Compare_eq,ap,Or2_eq,ap]
  by_cases e:a.Name=b.Name
  ·rw[if_pos e,e,cmpS_self,if_pos rfl]
   unfold cmpI
   by_cases e1:a.Args.length<b.Args.length
   ·rw[if_pos (show(a.Args.length:Int)<(b.Args.length:Int) by omega),if_pos e1]; rfl
   ·rw[if_neg (show ¬ (a.Args.length:Int)<(b.Args.length:Int) by omega),if_neg e1]
    by_cases e2:b.Args.length<a.Args.length
    ·rw[if_pos (show(b.Args.length:Int)<(a.Args.length:Int) by omega),if_pos e2]; rfl
    ·rw[if_neg (show ¬ (b.Args.length:Int)<(a.Args.length:Int) by omega),if_neg e2,decide_eq_true rfl,cond_true]
     unfold slices_CompareFunc_Simpl_Term_Simpl_Term_impl_Term_impl_Term
     rw[forN_lex (f:=fun j=>cmpR (a.Args.getD j default) (b.Args.getD j default)) (by rw[decide_eq_false (show ¬ (a.Args.length:Int)<(b.Args.length:Int) by omega)]; rfl) _ _ (fun j _ hj=>?_)]
     ·rfl
     ·have ha:=getD_mem (l:=a.Args) (i:=j) (by omega)
      have hb:=getD_mem (l:=b.Args) (i:=j) (by omega)
      rw[idx_getD (by omega),ap,decide_eq_false (show ¬ (b.Args.length:Int)≤(j:Int) by omega),cond_false,idx_getD (by omega),ap]
      have:=(hR _ ha _ hb n (by have:=Tt.lt ha; omega)).2
      simp only[this,ap]
      cases decide (cmpR (a.Args.getD j default) (b.Args.getD j default)=0)<;>rfl
  ·have:=cmpS_ne e
   rw[if_neg e,if_neg this,decide_eq_false this]; rfl
 have hr:cmpR a b=bif isVarS a.Name then(bif isVarS b.Name then w else -1) else(bif isVarS b.Name then 1 else w):=by
  rw[cmpR_u]
  have hl:¬ a.Args.length<b.Args.length→¬ b.Args.length<a.Args.length→lexI (fun j=>cmpR (a.Args.getD j default) (b.Args.getD j default)) a.Args.length 0=cmpRs a.Args b.Args:=fun h1 h2=>lexI_eq a.Args b.Args (by omega)
  have hw:w=cmpB a b:=by
   simp only[w,cmpB]
   by_cases e:a.Name=b.Name
   ·rw[if_pos e,if_pos e]
    by_cases e1:a.Args.length<b.Args.length
    ·rw[if_pos e1,if_pos e1]
    ·rw[if_neg e1,if_neg e1]
     by_cases e2:b.Args.length<a.Args.length
     ·rw[if_pos e2,if_pos e2]
     ·rw[if_neg e2,if_neg e2,hl e1 e2]
   ·rw[if_neg e,if_neg e]
  rw[hw]
  cases isVarS a.Name<;>cases isVarS b.Name<;>rfl
 intro n hn
 rw[hr]
 cases n with
 | zero=>omega
 | succ n=>
  rw[spec_l2CompareN,impl_compareTermsN,sa,sb,ia,ib]
  simp only[ap]
  have h1:=hS n hn
  have h2:=hI n hn
  cases isVarS a.Name<;>cases isVarS b.Name<;>simp only[cond_true,cond_false]
  ·exact⟨h1,h2⟩
  ·exact⟨trivial,trivial⟩
  ·exact⟨trivial,trivial⟩
  ·exact⟨h1,h2⟩
theorem cmpR_specG{a b:Tt}(h1:a.Ok)(h2:CG a)(h3:b.Ok)(h4:CG b):spec_l2Compare a b=some (cmpR a b)∧impl_compareTerms a b=some (cmpR a b):=
 ⟨lim_eq ⟨_,fun n hn=>(cmp_both a b h1 h2 h3 h4 n hn).1⟩,lim_eq ⟨_,fun n hn=>(cmp_both a b h1 h2 h3 h4 n hn).2⟩⟩
/-! It is a strict order. -/
theorem cmpS_neg(a b:ByteArray):cmpS b a=- cmpS a b:=by
 unfold cmpS
 by_cases h:slt a b=true
 ·have h2:slt b a=false:=bytesLess_asymm h
  have hne:¬ b=a:=by rintro rfl; rw[h] at h2; cases h2
  rw[if_pos h,if_neg (by rw[h2]; simp),if_neg hne]; rfl
 ·by_cases e:a=b
  ·subst e; rw[if_neg h,if_pos rfl]; rfl
  ·have:=slt_tri h e
   rw[if_pos this,if_neg h,if_neg e]
theorem cmpS_lt{a b:ByteArray}:cmpS a b<0↔slt a b=true:=by
 unfold cmpS
 by_cases h:slt a b=true
 ·rw[if_pos h]; simp[h]
 ·rw[if_neg h]
  split<;>simp[h]
theorem cmpRs_zero:∀ (l k:List Tt),(∀ x∈l,∀ y,cmpR x y=0→x=y)→l.length=k.length→cmpRs l k=0→l=k
 | [],[],_,_,_=>rfl
 | [],_::_,_,h,_=>by simp at h
 | _::_,[],_,h,_=>by simp at h
 | a::l,b::k,ih,h,hz=>by
  rw[cmpRs] at hz
  by_cases c:cmpR a b=0
  ·rw[if_pos c] at hz
   rw[ih a (by simp) b c,cmpRs_zero l k (fun x hx=>ih x (by simp[hx])) (by simpa using h) hz]
  ·rw[if_neg c] at hz; exact absurd hz c
theorem cmpR_zero(a:Tt):∀ b,cmpR a b=0→a=b:=by
 refine a8 (M:=fun a=>∀ b,cmpR a b=0→a=b) (fun a ih b h=>?_) a
 rw[cmpR_u] at h
 by_cases hv:isVarS a.Name=isVarS b.Name
 ·rw[if_pos hv] at h
  unfold cmpB at h
  by_cases e:a.Name=b.Name
  ·rw[if_pos e] at h
   by_cases e1:a.Args.length<b.Args.length
   ·rw[if_pos e1] at h; omega
   ·rw[if_neg e1] at h
    by_cases e2:b.Args.length<a.Args.length
    ·rw[if_pos e2] at h; omega
    ·rw[if_neg e2] at h
     have:=cmpRs_zero a.Args b.Args ih (by omega) h
     cases a; cases b; simp only[bD,bp] at e this; rw[e,this]
  ·rw[if_neg e] at h; exact absurd h (cmpS_ne e)
 ·rw[if_neg hv] at h; split at h<;>omega
theorem cmpRs_neg:∀ (l k:List Tt),(∀ x∈l,∀ y,cmpR y x=- cmpR x y)→cmpRs k l=- cmpRs l k
 | [],[],_=>rfl
 | [],_::_,_=>rfl
 | _::_,[],_=>rfl
 | a::l,b::k,ih=>by
  rw[cmpRs,cmpRs,ih a (by simp) b]
  by_cases c:cmpR a b=0
  ·rw[if_pos c,if_pos (by omega)]; exact cmpRs_neg l k fun x hx=>ih x (by simp[hx])
  ·rw[if_neg c,if_neg (by omega)]
theorem cmpR_neg(a:Tt):∀ b,cmpR b a=- cmpR a b:=by
 refine a8 (M:=fun a=>∀ b,cmpR b a=- cmpR a b) (fun a ih b=>?_) a
 rw[cmpR_u,cmpR_u a]
 by_cases hv:isVarS a.Name=isVarS b.Name
 ·rw[if_pos hv,if_pos hv.symm]
  unfold cmpB
  by_cases e:a.Name=b.Name
  ·rw[if_pos e,if_pos e.symm]
   by_cases e1:a.Args.length<b.Args.length
   ·rw[if_pos e1,if_neg (by omega),if_pos e1]; rfl
   ·by_cases e2:b.Args.length<a.Args.length
    ·rw[if_pos e2,if_neg e1,if_pos e2]
    ·rw[if_neg e2,if_neg e1,if_neg e1,if_neg e2]; exact cmpRs_neg _ _ ih
  ·rw[if_neg e,if_neg (Ne.symm e)]; exact cmpS_neg _ _
 ·rw[if_neg hv,if_neg (Ne.symm hv)]
  cases h1:isVarS a.Name<;>cases h2:isVarS b.Name
  ·rw[h1,h2] at hv; exact absurd rfl hv
  ·simp
  ·simp
  ·rw[h1,h2] at hv; exact absurd rfl hv
theorem cmpR_self(a:Tt):cmpR a a=0:=by have:=cmpR_neg a a; omega
theorem cmpRs_trans:∀ (l k m:List Tt),(∀ x∈l,∀ y z,cmpR x y<0→cmpR y z<0→cmpR x z<0)→cmpRs l k<0→cmpRs k m<0→cmpRs l m<0
 | [],k,m,_,h,_=>by cases k<;>simp[cmpRs] at h
 | _::_,[],m,_,h,_=>by simp[cmpRs] at h
 | _::_,_::_,[],_,_,h=>by simp[cmpRs] at h
 | a::l,b::k,c::m,ih,h1,h2=>by
  rw[cmpRs] at h1 h2 ⊢
  by_cases e1:cmpR a b=0
  ·obtain rfl:=cmpR_zero a b e1
   rw[if_pos e1] at h1
   by_cases e2:cmpR a c=0
   ·rw[if_pos e2] at h2 ⊢; exact cmpRs_trans l k m (fun x hx=>ih x (by simp[hx])) h1 h2
   ·rw[if_neg e2] at h2 ⊢; exact h2
  ·rw[if_neg e1] at h1
   by_cases e2:cmpR b c=0
   ·obtain rfl:=cmpR_zero b c e2
    rw[if_neg e1]; exact h1
   ·rw[if_neg e2] at h2
    have:=ih a (by simp) b c h1 h2
    rw[if_neg (by omega)]; exact this
theorem cmpR_trans(a:Tt):∀ b c,cmpR a b<0→cmpR b c<0→cmpR a c<0:=by
 refine a8 (M:=fun a=>∀ b c,cmpR a b<0→cmpR b c<0→cmpR a c<0) (fun a ih b c h1 h2=>?_) a
 rw[cmpR_u] at h1 h2 ⊢
 have body:cmpB a b<0→cmpB b c<0→cmpB a c<0:=by
  unfold cmpB
  intro h1 h2
  by_cases e1:a.Name=b.Name
  ·rw[if_pos e1] at h1
   by_cases e2:b.Name=c.Name
   ·rw[if_pos e2] at h2
    rw[if_pos (e1.trans e2)]
    by_cases l1:a.Args.length<b.Args.length
    ·by_cases l2:b.Args.length<c.Args.length
     ·rw[if_pos (by omega)]; omega
     ·rw[if_neg l2] at h2
      by_cases l3:c.Args.length<b.Args.length
      ·rw[if_pos l3] at h2; omega
      ·rw[if_pos (by omega)]; omega
    ·rw[if_neg l1] at h1
     by_cases l2:b.Args.length<a.Args.length
     ·rw[if_pos l2] at h1; omega
     ·rw[if_neg l2] at h1
      by_cases l3:b.Args.length<c.Args.length
      ·rw[if_pos (by omega)]; omega
      ·rw[if_neg l3] at h2
       by_cases l4:c.Args.length<b.Args.length
       ·rw[if_pos l4] at h2; omega
       ·rw[if_neg l4] at h2
        rw[if_neg (by omega),if_neg (by omega)]
        exact cmpRs_trans _ _ _ ih h1 h2
   ·rw[if_neg e2] at h2
    rw[if_neg (fun h=>e2 (e1▸h)),e1]; exact h2
  ·rw[if_neg e1] at h1
   by_cases e2:b.Name=c.Name
   ·rw[if_neg (fun h=>e1 (h.trans e2.symm)),← e2]; exact h1
   ·rw[if_neg e2] at h2
    have h3:slt a.Name c.Name=true:=bytesLess_trans (cmpS_lt.1 h1) (cmpS_lt.1 h2)
    have h4:¬ a.Name=c.Name:=fun h=>by
     have h5:=cmpS_lt.1 h1
     have h6:=cmpS_lt.1 h2
     rw[← h] at h6
     have:slt b.Name a.Name=false:=bytesLess_asymm h5
     rw[this] at h6; cases h6
    rw[if_neg h4]; exact cmpS_lt.2 h3
 cases va:isVarS a.Name<;>cases vb:isVarS b.Name<;>cases vc:isVarS c.Name<;>simp[va,vb,vc] at h1 h2 ⊢
 ·exact body h1 h2
 ·exact body h1 h2
end
section
def gndT(t:Tt):Bool:=goodT t&&t.vars.isEmpty
theorem goodT_u{t:Tt}(h:goodT t=true):t.good=true∧t.cnt≤1000:=by
 unfold goodT smallT at h
 simp only[aw,decide_eq_true_eq] at h
 exact⟨h.2,by omega⟩
theorem isGround_eq(t:Tt)(h:t.tot≤10000000000000)(hok:t.Ok):impl_isGroundTerm t=some (gndT t):=by
 unfold impl_isGroundTerm gndT
 rw[IsValidTerm_ok t h hok,ap]
 cases hg:goodT t
 ·rfl
 ·obtain⟨v,h1,h2⟩:=collect_ok (goodT_u hg).1 (goodT_u hg).2
  rw[cond_true,h1,ap,len0_of h2]; rfl
theorem ground_spec(t:Tt)(hok:t.Ok)(hg:goodT t=true):spec_l16Ground t=some t.vars.isEmpty:=by
 obtain⟨v,h1,h2,_⟩:=l2Vars_okS hok (goodT_u hg).1 (goodT_u hg).2
 unfold spec_l16Ground
 rw[h1,ap,len0_of h2]
theorem l16_spec{l:List Tt}(hok:LOk Tt.Ok l)(ht:∀ a∈l,a.tot≤10000000000000)(h12:l.length≤60):spec_l16Terms l=some (l.all gndT):=by
 unfold spec_l16Terms
 rw[forN_all (fun j=>gndT (l.getD j default)) (r0:=false),range_all_list l gndT]
 ·rw[decide_eq_true (show(l.length:Int)≤60 by omega)]
  cases l.all gndT<;>rfl
 ·intro j hj _
  have hm:=getD_mem hj
  rw[decide_eq_true (show(j:Int)≤60 by omega),cond_true,idx_getD hj,ap,l2Good_ok _ (ht _ hm) (hok.2 _ hm),ap]
  unfold gndT
  cases hg:goodT (l.getD j default)
  ·rfl
  ·rw[cond_true,ap,ground_spec _ (hok.2 _ hm) hg,ap]
   cases (l.getD j default).vars.isEmpty<;>rfl
theorem tot_mem{l:List Tt}{a:Tt}(h:a∈l):a.tot≤ltot aU l:=by
 have:=le_sum_mem aU h
 unfold ltot; omega
theorem contF{p:Tt→Bool}{f:Tt→Option Bool}(l:List Tt)(h:∀ a∈l,f a=some (!p a)):slices_ContainsFunc_Simpl_Term_impl_Term l f=some (!l.all p):=by
 unfold slices_ContainsFunc_Simpl_Term_impl_Term slices_IndexFunc_Simpl_Term_impl_Term
 rw[find_list (p:=fun a=>!p a) l h,List.all_eq_not_any_not,Bool.not_not]
end
section
/-! ### a pattern filled in -/
/-! ### the two ways to add -/
def CT(t:Tt):Prop:=t.Ok∧CG t
def Gd(l:List Tt):Prop:=∀ a∈l,CT a
theorem cmp_g{a b:Tt}(ha:CT a)(hb:CT b):spec_l2Compare a b=some (cmpR a b)∧impl_compareTerms a b=some (cmpR a b):=
 cmpR_specG ha.1 ha.2 hb.1 hb.2
def putT(x:Tt):List Tt→List Tt
 | []=>[x]
 | y::l=>if cmpR y x<0 then y::putT x l else if cmpR y x=0 then y::l else x::y::l
noncomputable def addT(x:Tt)(l:List Tt):List Tt:=bif l.any (fun y=>same y x) then l else l++[x]
theorem cmpR_same(a b:Tt):same a b=decide (cmpR a b=0):=by
 rw[Bool.eq_iff_iff,same_iff,decide_eq_true_iff]
 exact⟨fun h=>h▸cmpR_self a,cmpR_zero a b⟩
theorem putT_mem(x z:Tt):∀ l,z∈putT x l↔z=x∨z∈l
 | []=>by simp[putT]
 | y::l=>by
  simp only[putT]
  split
  ·rw[bq,putT_mem x z l,bq]
   constructor
   ·rintro (h | h | h)<;>simp[h]
   ·rintro (h | h | h)<;>simp[h]
  ·split
   ·rename_i e
    have:=cmpR_zero y x e
    subst this
    simp
   ·simp
def SrtT(l:List Tt):Prop:=l.Pairwise fun a b=>cmpR a b<0
theorem putT_srt(x:Tt):∀ l,SrtT l→SrtT (putT x l)
 | [],_=>by simp[putT,SrtT]
 | y::l,h=>by
  unfold SrtT at h ⊢
  rw[List.pairwise_cons] at h
  simp only[putT]
  split
  ·rename_i c
   rw[List.pairwise_cons]
   refine⟨fun z hz=>?_,putT_srt x l h.2⟩
   rcases (putT_mem x z l).1 hz with rfl | hz
   ·exact c
   ·exact h.1 z hz
  ·split
   ·rw[List.pairwise_cons]; exact h
   ·rename_i c1 c2
    have hxy:cmpR x y<0:=by have:=cmpR_neg y x; omega
    rw[List.pairwise_cons,List.pairwise_cons]
    refine⟨fun z hz=>?_,h⟩
    rcases List.mem_cons.1 hz with rfl | hz
    ·exact hxy
    ·exact cmpR_trans x y z hxy (h.1 z hz)
theorem putT_len(x:Tt):∀ l,(putT x l).length≤l.length+1
 | []=>by simp[putT]
 | y::l=>by
  simp only[putT]
  have:=putT_len x l
  split
  ·simp only[aG]; omega
  ·split<;>simp
theorem any_same(x:Tt)(l:List Tt):l.any (fun y=>same y x)=true↔x∈l:=by
 rw[List.any_eq_true]
 exact⟨fun ⟨y,h1,h2⟩=>same_iff.1 h2▸h1,fun h=>⟨x,h,same_iff.2 rfl⟩⟩
theorem addT_mem(x z:Tt)(l:List Tt):z∈addT x l↔z=x∨z∈l:=by
 unfold addT
 cases h:l.any (fun y=>same y x)
 ·simp only[cond_false,aT,List.mem_singleton]; exact or_comm
 ·rw[cond_true]
  have:=(any_same x l).1 h
  exact⟨.inr,fun h=>h.elim (fun e=>e▸this) id⟩
theorem addT_nodup(x:Tt)(l:List Tt)(h:l.Nodup):(addT x l).Nodup:=by
 unfold addT
 cases e:l.any (fun y=>same y x)
 ·rw[cond_false,List.nodup_append]
  refine⟨h,by simp,fun a ha b hb=>?_⟩
  rintro rfl
  rw[List.mem_singleton] at hb
  subst hb
  rw[(any_same a l).2 ha] at e; cases e
 ·exact h
theorem addT_len(x:Tt)(l:List Tt):(addT x l).length≤l.length+1:=by
 unfold addT
 cases l.any (fun y=>same y x)
 ·simp
 ·simp
theorem addAtom_eq(l:List Tt)(x:Tt)(hx:x.cnt≤10000000)(hl:l.length≤1000000):impl_addAtom l x=some (addT x l):=by
 unfold impl_addAtom slices_ContainsFunc_Simpl_Term_impl_Term slices_IndexFunc_Simpl_Term_impl_Term addT
 rw[find_list (p:=fun y=>same y x) l (fun a _=>by unfold impl_addAtom_1; rw[EqualTerms_ok]; rfl),ap,copyT x hx]
 cases l.any (fun y=>same y x)
 ·rw[cond_false,cond_false,ap]
  unfold app
  rw[if_pos (by simp only[aG,a6]; omega)]; rfl
 ·rfl
theorem l16Put_eq(x:Tt)(hx:CT x)(l:List Tt)(hg:Gd l)(hl:l.length≤1048576):spec_l16Put l x=some (putT x l):=by
 unfold spec_l16Put
 have tl:∀ {β:Type} (K:List Tt→Option β) (pre rest:List Tt),pre.length+rest.length≤1048576→(aa (slc (pre++rest) (0:Int) (pre.length:Int)) fun v36=>aa (app ([]) v36) fun v37=>aa (app v37 ([x])) fun v40=>aa (slc (pre++rest) (pre.length:Int) ((pre++rest).length:Int)) fun v43=>aa (app v40 v43) fun v44=>K v44)=K (pre++x::rest):=by
  intro β K pre rest h
  have e1:slc (pre++rest) (0:Int) (pre.length:Int)=some pre:=by
   unfold slc; rw[if_pos ⟨by omega,by omega,by simp; omega⟩]; simp
  have e2:slc (pre++rest) (pre.length:Int) ((pre++rest).length:Int)=some rest:=by
   unfold slc; rw[if_pos ⟨by omega,by simp; omega,by omega⟩]; simp only[Int.toNat_natCast,List.take_length,List.drop_left]
  rw[e1,e2]
  simp only[ap,app,a6,Nat.zero_add,bA]
  rw[if_pos (by omega)]
  simp only[ap,aG,a6]
  rw[if_pos (by omega)]
  simp only[ap,aV,aG,a6]
  rw[if_pos (by omega)]
  simp
 have key:∀ (rest pre:List Tt),Gd rest→pre.length+rest.length≤1048576→
  thenL (ρ:=List Tt) (forN (fun (i2:Nat) (s2:Unit)=>
   aa (idx (pre++rest) (i2:Int)) fun v13=>
   aa (spec_l2Compare v13 x) fun v16=>
   bif decide (v16<(0:Int)) then some (.nx ())
   else aa (idx (pre++rest) (i2:Int)) fun v27=>aa (spec_l2Same v27 x) fun v31=>bif v31 then some (.rt (pre++rest)) else
    aa (slc (pre++rest) (0:Int) (i2:Int)) fun v36=>aa (app ([]) v36) fun v37=>aa (app v37 ([x])) fun v40=>aa (slc (pre++rest) (i2:Int) ((pre++rest).length:Int)) fun v43=>aa (app v40 v43) fun v44=>some (.rt v44)) rest.length pre.length ()) (fun _=>
   aa (slc (pre++rest) (0:Int) (((pre++rest).length:Nat):Int)) fun v36=>aa (app ([]) v36) fun v37=>aa (app v37 ([x])) fun v40=>aa (slc (pre++rest) (((pre++rest).length:Nat):Int) ((pre++rest).length:Int)) fun v43=>aa (app v40 v43) fun v44=>some v44)=some (pre++putT x rest):=by
  intro rest
  induction rest with
  | nil=>
   intro pre _ h
   have:=tl some pre [] (by simpa using h)
   simpa[putT,forN,thenL_inr] using this
  | cons y rest ih=>
   intro pre hg h
   have hy:=(cmp_g (hg y (by simp)) hx).1
   simp only[putT,aG]
   by_cases c:cmpR y x<0
   ·rw[forN_nx (s':=()) (by rw[idx_mid,ap,hy,ap,decide_eq_true c]; rfl),if_pos c]
    have:=ih (pre++[y]) (fun a ha=>hg a (by simp[ha])) (by simp at h ⊢; omega)
    simpa using this
   ·by_cases e:cmpR y x=0
    ·rw[forN_rt (r:=pre++y::rest) (by rw[idx_mid,ap,hy,ap,decide_eq_false c,cond_false,ap,l2Same_ok,ap,cmpR_same,decide_eq_true e]; rfl),thenL_inl,if_neg c,if_pos e]
    ·rw[forN_rt (r:=pre++x::y::rest) (by
      rw[idx_mid,ap,hy,ap,decide_eq_false c,cond_false,ap,l2Same_ok,ap,cmpR_same,decide_eq_false e,cond_false]
      exact tl (fun v=>some (Flow.rt v)) pre (y::rest) h),thenL_inl,if_neg c,if_neg e]
 exact key l [] hg (by simpa using hl)
/-! ### folds -/
noncomputable def addAll(xs l:List Tt):List Tt:=xs.foldl (fun l x=>addT x l) l
def putAllT(xs l:List Tt):List Tt:=xs.foldl (fun l x=>putT x l) l
theorem addAll_mem(z:Tt):∀ (xs l:List Tt),z∈addAll xs l↔z∈xs∨z∈l
 | [],l=>by simp[addAll]
 | x::xs,l=>by
  show z∈addAll xs (addT x l)↔_
  rw[addAll_mem z xs,addT_mem,bq]
  constructor
  ·rintro (h | h | h)<;>simp[h]
  ·rintro ((h | h) | h)<;>simp[h]
theorem putAllT_mem(z:Tt):∀ (xs l:List Tt),z∈putAllT xs l↔z∈xs∨z∈l
 | [],l=>by simp[putAllT]
 | x::xs,l=>by
  show z∈putAllT xs (putT x l)↔_
  rw[putAllT_mem z xs,putT_mem,bq]
  constructor
  ·rintro (h | h | h)<;>simp[h]
  ·rintro ((h | h) | h)<;>simp[h]
theorem addAll_nodup:∀ (xs l:List Tt),l.Nodup→(addAll xs l).Nodup
 | [],l,h=>h
 | x::xs,l,h=>addAll_nodup xs _ (addT_nodup x l h)
theorem putAllT_srt:∀ (xs l:List Tt),SrtT l→SrtT (putAllT xs l)
 | [],l,h=>h
 | x::xs,l,h=>putAllT_srt xs _ (putT_srt x l h)
theorem addAll_len:∀ (xs l:List Tt),(addAll xs l).length≤l.length+xs.length
 | [],l=>by simp[addAll]
 | x::xs,l=>by
  have:=addAll_len xs (addT x l)
  have:=addT_len x l
  show(addAll xs (addT x l)).length≤_
  simp only[aG]; omega
theorem putAllT_len:∀ (xs l:List Tt),(putAllT xs l).length≤l.length+xs.length
 | [],l=>by simp[putAllT]
 | x::xs,l=>by
  have:=putAllT_len xs (putT x l)
  have:=putT_len x l
  show(putAllT xs (putT x l)).length≤_
  simp only[aG]; omega
theorem SrtT_nodup{l:List Tt}(h:SrtT l):l.Nodup:=h.imp (fun {a b} h e=>by rw[e,cmpR_self] at h; omega)
theorem cmpT_eq{a b:Tt}(ha:CT a)(hb:CT b):cmpT a b=cmpR a b:=by
 unfold cmpT; rw[(cmp_g ha hb).2]; rfl
theorem cmpR_le{a b c:Tt}(h1:¬ cmpR a b<0)(h2:¬ cmpR b c<0):¬ cmpR a c<0:=by
 intro h
 have n1:=cmpR_neg a b
 have n2:=cmpR_neg b c
 by_cases e1:cmpR a b=0
 ·rw[cmpR_zero a b e1] at h; exact h2 h
 ·have:=cmpR_trans b a c (by omega) h
  exact h2 this
theorem sortOk_gd{l:List Tt}(h:Gd l)(hl:l.length≤1073741824):SortOk l where
 len:=hl
 ex:=fun x hx y hy=>by rw[cmpT_eq (h x hx) (h y hy),(cmp_g (h x hx) (h y hy)).2]
 irr:=fun x hx=>by rw[cmpT_eq (h x hx) (h x hx),cmpR_self]; omega
 tr:=fun x hx y hy z hz h1 h2=>by
  rw[cmpT_eq (h x hx) (h y hy)] at h1
  rw[cmpT_eq (h y hy) (h z hz)] at h2
  rw[cmpT_eq (h x hx) (h z hz)]
  exact cmpR_trans x y z h1 h2
 ntr:=fun x hx y hy z hz h1 h2=>by
  rw[cmpT_eq (h x hx) (h y hy)] at h1
  rw[cmpT_eq (h y hy) (h z hz)] at h2
  rw[cmpT_eq (h x hx) (h z hz)]
  exact cmpR_le h1 h2
 anti:=fun x hx y hy h1 h2=>by
  rw[cmpT_eq (h x hx) (h y hy)] at h1
  rw[cmpT_eq (h y hy) (h x hx)] at h2
  have:=cmpR_neg x y
  exact cmpR_zero x y (by omega)
theorem sort_put{xs:List Tt}(h:Gd xs)(hl:xs.length≤1048576):slices_SortFuncT (addAll xs [])=some ((),putAllT xs []):=by
 have hg:Gd (addAll xs []):=fun a ha=>h a (by have:=(addAll_mem a xs []).1 ha; simpa using this)
 have hlen:=addAll_len xs []
 have hok:=sortOk_gd hg (by simp only[a6] at hlen; omega)
 have hs:=putAllT_srt xs [] List.Pairwise.nil
 have hperm:(putAllT xs []).Perm (addAll xs []):=by
  rw[List.perm_ext_iff_of_nodup (SrtT_nodup hs) (addAll_nodup xs [] List.nodup_nil)]
  intro a; rw[putAllT_mem,addAll_mem]
 unfold slices_SortFuncT
 rw[if_pos hok,sorted_one hok hperm (hs.imp_of_mem (fun {a b} ha hb hab=>by
  have ga:=hg a (hperm.mem_iff.1 ha)
  have gb:=hg b (hperm.mem_iff.1 hb)
  rw[cmpT_eq gb ga]
  have:=cmpR_neg a b; omega))]
end
section
/-! Simplification of formulas. -/
abbrev zt:Tt:=Tt.mk (⟨#[]⟩:ByteArray) []
abbrev es:ByteArray:=(⟨#[]⟩:ByteArray)
abbrev fC(o:Int):Ft:=Ft.mk o zt es []
abbrev fN(p:Ft):Ft:=Ft.mk 4 zt es [p]
abbrev fB(o:Int)(p q:Ft):Ft:=Ft.mk o zt es [p,q]
abbrev fQ(o:Int)(v:ByteArray)(p:Ft):Ft:=Ft.mk o zt v [p]
def K(p:Ft):Prop:=p.Op=1∨p.Op=2
theorem good_cases{f:Ft}(h:f.good=true):
 (∃ o,(o=1∨o=2)∧f=fC o)∨(∃ t,f=Ft.mk 3 t es []∧atomT t=true)∨(∃ p,f=fN p∧p.good=true)∨
 (∃ o p q,(o=5∨o=6∨o=7)∧f=fB o p q∧p.good=true∧q.good=true)∨∃ o v p,(o=8∨o=9)∧f=fQ o v p∧isVarS v=true∧p.good=true:=by
 obtain⟨o,t,v,l⟩:=f
 rw[Ft.good_u,aw,aX] at h
 obtain⟨h,hp⟩:=h
 simp only[Ft.Op_mk,Ft.Atom_mk,Ft.Var_mk,aY] at h hp
 unfold formC at h
 have two:∀ k:Nat,l.length=k→(k=0→l=[])∧(k=1→∃ p,l=[p]∧p.good=true)∧(k=2→∃ p q,l=[p,q]∧p.good=true∧q.good=true):=by
  intro k hk
  refine⟨fun e=>List.eq_nil_of_length_eq_zero (by omega),fun e=>?_,fun e=>?_⟩
  ·match l,hk,hp with
   | [p],_,hp=>exact⟨p,rfl,hp p (by simp)⟩
   | [],hk,_=>simp at hk; omega
   | _::_::_,hk,_=>simp at hk; omega
  ·match l,hk,hp with
   | [p,q],_,hp=>exact⟨p,q,rfl,hp p (by simp),hp q (by simp)⟩
   | [],hk,_=>simp at hk; omega
   | [_],hk,_=>simp at hk; omega
   | _::_::_::_,hk,_=>simp at hk; omega
 by_cases e3:o=3
 ·rw[decide_eq_true e3,cond_true] at h
  simp only[aw,decide_eq_true_eq] at h
  rw[(two _ h.1).1 rfl,e3,h.2.2]
  exact .inr (.inl ⟨t,rfl,h.2.1⟩)
 rw[decide_eq_false e3,cond_false] at h
 by_cases eq:o=8∨o=9
 ·have:(decide (o=8)||decide (o=9))=true:=by simpa using eq
  rw[this,cond_true] at h
  simp only[aw,decide_eq_true_eq] at h
  obtain⟨p,rfl,hg⟩:=(two _ h.1).2.1 rfl
  rw[zeroT_iff.1 h.2.1]
  exact .inr (.inr (.inr (.inr ⟨o,v,p,eq,rfl,h.2.2,hg⟩)))
 have:(decide (o=8)||decide (o=9))=false:=by simpa using eq
 rw[this,cond_false,aw,aw,decide_eq_true_iff,zeroT_iff] at h
 obtain⟨h,rfl,rfl⟩:=h
 by_cases e1:o=1∨o=2
 ·have:(decide (o=1)||decide (o=2))=true:=by simpa using e1
  rw[this,cond_true,decide_eq_true_iff] at h
  rw[(two _ h).1 rfl]
  exact .inl ⟨o,e1,rfl⟩
 have:(decide (o=1)||decide (o=2))=false:=by simpa using e1
 rw[this,cond_false] at h
 by_cases e4:o=4
 ·rw[decide_eq_true e4,cond_true,decide_eq_true_iff] at h
  obtain⟨p,rfl,hg⟩:=(two _ h).2.1 rfl
  rw[e4]
  exact .inr (.inr (.inl ⟨p,rfl,hg⟩))
 rw[decide_eq_false e4,cond_false] at h
 by_cases e5:o=5∨o=6∨o=7
 ·have:(decide (o=5)||(decide (o=6)||decide (o=7)))=true:=by simpa using e5
  rw[this,cond_true,decide_eq_true_iff] at h
  obtain⟨p,q,rfl,hg,hg2⟩:=(two _ h).2.2 rfl
  exact .inr (.inr (.inr (.inl ⟨o,p,q,e5,rfl,hg,hg2⟩)))
 ·have:(decide (o=5)||(decide (o=6)||decide (o=7)))=false:=by simpa using e5
  rw[this] at h; cases h
theorem good_fC{o:Int}(h:o=1∨o=2):(fC o).good=true:=by
 rw[Ft.good_u]; rcases h with rfl | rfl<;>rfl
theorem good_fN{p:Ft}(h:p.good=true):(fN p).good=true:=by
 rw[Ft.good_u]
 show(formC 4 zt es 1&&[p].all Ft.good)=true
 simp only[bH,List.all_nil,h]; rfl
theorem good_fB{o:Int}{p q:Ft}(ho:o=5∨o=6∨o=7)(h:p.good=true)(h2:q.good=true):(fB o p q).good=true:=by
 rw[Ft.good_u]
 show(formC o zt es 2&&[p,q].all Ft.good)=true
 simp only[bH,List.all_nil,h,h2]
 rcases ho with rfl | rfl | rfl<;>rfl
theorem cnt_fN(p:Ft):(fN p).cnt=1+p.cnt:=by rw[Ft.cnt_u]; simp[aY]
theorem cnt_fB(o:Int)(p q:Ft):(fB o p q).cnt=1+(p.cnt+q.cnt):=by rw[Ft.cnt_u]; simp[aY]
theorem cnt_fQ(o:Int)(v:ByteArray)(p:Ft):(fQ o v p).cnt=1+p.cnt:=by rw[Ft.cnt_u]; simp[aY]
theorem tot_zt:zt.tot=0:=by rw[Tt.tot_mk]; rfl
theorem tot_fC(o:Int):(fC o).tot=0:=by rw[Ft.tot_mk,tot_zt]; rfl
theorem tot_fN(p:Ft):(fN p).tot=1+p.tot:=by rw[Ft.tot_mk,tot_zt]; simp[ltot]; rfl
theorem tot_fB(o:Int)(p q:Ft):(fB o p q).tot=2+(p.tot+q.tot):=by rw[Ft.tot_mk,tot_zt]; simp[ltot]; rfl
theorem tot_fQ(o:Int)(v:ByteArray)(p:Ft):(fQ o v p).tot=v.size+(1+p.tot):=by rw[Ft.tot_mk,tot_zt]; simp[ltot]
theorem ok_zt:zt.Ok:=.mk _ _ (by simp only[Big]; decide) (by simp[Big]) (by simp)
theorem ok_es:Big es.size:=by simp only[Big]; decide
theorem ok_fC{o:Int}(h:o=1∨o=2):(fC o).Ok:=.mk _ _ _ _ (by simp only[InR]; omega) ok_zt ok_es (by simp[Big]) (by simp)
theorem ok_fN{p:Ft}(h:p.Ok):(fN p).Ok:=.mk _ _ _ _ (by simp only[InR]; omega) ok_zt ok_es (by simp[Big]) (by simpa using h)
theorem ok_fB{o:Int}{p q:Ft}(ho:o=5∨o=6∨o=7)(h:p.Ok)(h2:q.Ok):(fB o p q).Ok:=.mk _ _ _ _ (by simp only[InR]; omega) ok_zt ok_es (by simp[Big]) (by simpa using⟨h,h2⟩)
/-- A formula that stays as it is. -/
inductive NF:Ft→Prop
 | c (o:Int) (h:o=1∨o=2):NF (fC o)
 | a (t:Tt):NF (Ft.mk 3 t es [])
 | n (p:Ft) (hp:NF p) (h:¬ K p):NF (fN p)
 | b (o:Int) (p q:Ft) (ho:o=5∨o=6∨o=7) (hp:NF p) (hq:NF q) (h1:¬ K p) (h2:¬ K q) (h3:p≠q):NF (fB o p q)
 | q (o:Int) (v:ByteArray) (p:Ft) (ho:o=8∨o=9) (hp:NF p) (h:¬ K p):NF (fQ o v p)
/-! The steps. -/
noncomputable def imp(p q:Ft):Ft:=bif decide (p.Op=1) then q else bif decide (p.Op=2) then fC 1 else bif decide (q.Op=1) then fC 1 else bif same p q then fC 1 else bif decide (q.Op=2) then fN p else fB 7 p q
end
section
/-! ### loops whose states are known -/
theorem while_iter{ρ σ:Type}{f:σ→Option (Flow ρ σ)}(st:Nat→σ):∀ (N i:Nat) (z:ρ ⊕ σ),(∀ j,i≤j→j<i+N→f (st j)=some (.nx (st (j+1))))→((∃ s',f (st (i+N))=some (.br s')∧z=.inr s')∨∃ r,f (st (i+N))=some (.rt r)∧z=.inl r)→
 ∀ m,N+1≤m→whileN f m (st i)=some z
 | 0,i,z,_,h,m,hm=>by
  obtain⟨k,rfl⟩:∃ k,m=k+1:=⟨m-1,by omega⟩
  rw[Nat.add_zero] at h
  rcases h with⟨s',h,rfl⟩ | ⟨r,h,rfl⟩
  ·rw[whileN_br h]
  ·rw[whileN_rt h]
 | N+1,i,z,h1,h2,m,hm=>by
  obtain⟨k,rfl⟩:∃ k,m=k+1:=⟨m-1,by omega⟩
  rw[whileN_nx (h1 i (aM _) (by omega))]
  exact while_iter st N (i+1) z (fun j a b=>h1 j (by omega) (by omega)) (by rw[show i+1+N=i+(N+1) by omega]; exact h2) k (by omega)
theorem lim_iter{ρ σ:Type}{f:σ→Option (Flow ρ σ)}(st:Nat→σ)(N:Nat){s':σ}(h1:∀ j,j<N→f (st j)=some (.nx (st (j+1))))(h2:f (st N)=some (.br s')):lim (fun n=>whileN f n (st 0))=some (.inr s'):=
 lim_eq ⟨N+1,fun n hn=>while_iter st N 0 _ (fun j _ hj=>h1 j (by omega)) (.inl ⟨s',by rw[Nat.zero_add]; exact h2,rfl⟩) n hn⟩
theorem lim_iterR{ρ σ:Type}{f:σ→Option (Flow ρ σ)}(st:Nat→σ)(N:Nat){r:ρ}(h1:∀ j,j<N→f (st j)=some (.nx (st (j+1))))(h2:f (st N)=some (.rt r)):lim (fun n=>whileN f n (st 0))=some (.inl r):=
 lim_eq ⟨N+1,fun n hn=>while_iter st N 0 _ (fun j _ hj=>h1 j (by omega)) (.inr ⟨r,by rw[Nat.zero_add]; exact h2,rfl⟩) n hn⟩
theorem for_iter{ρ σ:Type}{f:Nat→σ→Option (Flow ρ σ)}(st:Nat→σ):∀ (n i:Nat),(∀ j,i≤j→j<i+n→f j (st j)=some (.nx (st (j+1))))→forN f n i (st i)=some (.inr (st (i+n)))
 | 0,i,_=>rfl
 | n+1,i,h=>by
  rw[forN_nx (h i (aM _) (by omega)),for_iter st n (i+1) (fun j a b=>h j (by omega) (by omega)),show i+1+n=i+(n+1) by omega]
theorem forN_congr'{ρ σ:Type}{f g:Nat→σ→Option (Flow ρ σ)}:∀ (n i:Nat) (s:σ),(∀ j s,i≤j→j<i+n→f j s=g j s)→forN f n i s=forN g n i s
 | 0,_,_,_=>rfl
 | n+1,i,s,h=>by
  unfold forN
  rw[h i s (aM _) (by omega)]
  congr 1
  funext x
  cases x with
  | nx s'=>exact forN_congr' n (i+1) s' (fun j t a b=>h j t (by omega) (by omega))
  | br s'=>rfl
  | rt r=>rfl
theorem forN_forL{α ρ σ:Type}[Inhabited α]{f:Nat→σ→Option (Flow ρ σ)}(xs:List α)(g:Nat→α→σ→Option (Flow ρ σ))(s:σ)(h:∀ j,j<xs.length→∀ s,f j s=g j (xs.getD j default) s):forN f xs.length 0 s=forL g xs 0 s:=by
 rw[← forN_idx]
 refine forN_congr' _ _ _ fun j s _ hj=>?_
 rw[idx_getD (by omega),ap,h j (by omega)]
theorem app_one{α:Type}(xs:List α)(x:α)(h:xs.length≤1000000):app xs [x]=some (xs++[x]):=by
 unfold app; rw[if_pos (by simp only[aG,a6]; omega)]
end
section
def joinF(o:Int)(l:List Ft)(e:Ft):Ft:=match l.reverse with
 | []=>e
 | x::r=>r.foldl (fun a f=>fB o f a) x
/-- The state of the loop. -/
def jst(o:Int)(x:Ft)(r:List Ft)(j:Nat):Int×ByteArray×(List Tt)×ByteArray×(List Ft)×Int:=
 let g:=(r.take j).foldl (fun a f=>fB o f a) x
 (g.Op,g.Atom.Name,g.Atom.Args,g.Var,g.Parts,(r.length:Int)-1-j)
theorem fm_eta(g:Ft):Ft.mk g.Op (Tt.mk g.Atom.Name g.Atom.Args) g.Var g.Parts=g:=by rw[g.Atom.eta,g.eta]
theorem joined_eq{o e:Int}{l:List Ft}(hl:∀ f∈l,f.tot≤1048576)(hb:l.length≤1048576):spec_l18Joined l o e=some (joinF o l (fC e)):=by
 unfold spec_l18Joined joinF
 cases h:l.reverse with
 | nil=>
  have:l=[]:=by rw[← List.reverse_reverse l,h]; rfl
  subst this; rfl
 | cons x r=>
  have hlen:l.length=r.length+1:=by rw[← List.length_reverse,h,aG]
  have hrev:l=(x::r).reverse:=by rw[← h,List.reverse_reverse]
  have hm:∀ f∈x::r,f.tot≤1048576:=fun f hf=>hl f (by rw[← List.mem_reverse,h]; exact hf)
  have get:∀ j:Nat,j≤r.length→idx l ((r.length:Int)-j)=(x::r)[j]?:=fun j hj=>by
   rw[show(r.length:Int)-j=((r.length-j:Nat):Int) by omega,idx_nat,hrev,List.getElem?_reverse (by simp; omega)]
   congr 1
   simp; omega
  rw[decide_eq_false (by omega),cond_false,wrap64 (by omega) (by omega),wrap64 (by omega) (by omega),show(l.length:Int)-1=(r.length:Int)-(0:Nat) by omega,get 0 (by omega)]
  show aa (spec_l8Own x) _=_
  rw[ownF x (hm x (by simp)),ap]
  have e0:(x.Op,x.Atom.Name,x.Atom.Args,x.Var,x.Parts,(l.length:Int)-2)=jst o x r 0:=by
   unfold jst
   show _=(x.Op,x.Atom.Name,x.Atom.Args,x.Var,x.Parts,(r.length:Int)-1-(0:Nat))
   rw[show(l.length:Int)-2=(r.length:Int)-1-(0:Nat) by omega]
  rw[e0,lim_iter (jst o x r) r.length (s':=jst o x r r.length) (h1:=?_) (h2:=?_),thenL_inr]
  ·show some (Ft.mk _ (Tt.mk _ _) _ _)=_
   unfold jst
   rw[fm_eta,List.take_length]
  ·intro j hj
   show(bif decide ((0:Int)≤(r.length:Int)-1-j) then _ else _)=_
   rw[decide_eq_true (by omega),cond_true]
   show aa (idx l ((r.length:Int)-1-j)) _=_
   rw[show(r.length:Int)-1-j=(r.length:Int)-((j+1:Nat):Int) by omega,get (j+1) (by omega),List.getElem?_cons_succ,List.getElem?_eq_getElem hj,ap,ownF _ (hm _ (by simp)),ap]
   show some (Flow.nx (o,_,_,_,[r[j],Ft.mk (jst o x r j).1 (Tt.mk (jst o x r j).2.1 (jst o x r j).2.2.1) (jst o x r j).2.2.2.1 (jst o x r j).2.2.2.2.1],IntKind.i64.wrap (((r.length:Int)-1-j)-1)))=some (Flow.nx (jst o x r (j+1)))
   rw[wrap64 (by omega) (by omega)]
   unfold jst
   simp only[fm_eta]
   rw[List.take_succ_eq_append_getElem hj,List.foldl_append]
   show _=some (Flow.nx (o,_,_,_,[r[j],_],_))
   rw[show(r.length:Int)-1-j-1=(r.length:Int)-1-((j+1:Nat):Int) by omega]
   rfl
  ·show(bif decide ((0:Int)≤(r.length:Int)-1-r.length) then _ else _)=_
   rw[decide_eq_false (by omega)]; rfl
def hasI(l:List Int)(x:Int):Bool:=decide (x∈l)
theorem any_hasI(l:List Int)(x:Int):l.any (fun v=>decide (x=v))=hasI l x:=by
 unfold hasI
 rw[Bool.eq_iff_iff,List.any_eq_true,decide_eq_true_iff]
 constructor
 ·rintro ⟨v,h1,h2⟩; rw[of_decide_eq_true h2]; exact h1
 ·exact fun h=>⟨x,h,decide_eq_true rfl⟩
theorem Contains_eq(l:List Int)(x:Int):slices_Contains_Sint_int l x=some (hasI l x):=by
 unfold slices_Contains_Sint_int slices_Index_Sint_int
 rw[← any_hasI]
 exact find_list (f:=fun v=>some (decide (x=v))) (p:=fun v=>decide (x=v)) l (fun _ _=>rfl)
mutual
def Ft.ats:Ft→List Tt
 | .mk o t _ l=>bif decide (o=3) then [t] else Ft.atss l
def Ft.atss:List Ft→List Tt
 | []=>[]
 | a::l=>a.ats++Ft.atss l
end
theorem Ft.ats_u(a:Ft):a.ats=bif decide (a.Op=3) then [a.Atom] else Ft.atss a.Parts:=by cases a; rw[Ft.ats]; rfl
mutual
def Ft.hq:Ft→Bool
 | .mk o _ _ l=>(decide (o=8)||(decide (o=9)||false))||Ft.hqs l
def Ft.hqs:List Ft→Bool
 | []=>false
 | a::l=>a.hq||Ft.hqs l
end
theorem Ft.hqs_eq(l:List Ft):Ft.hqs l=l.any Ft.hq:=by
 induction l with
 | nil=>rfl
 | cons a l ih=>rw[Ft.hqs,ih]; rfl
theorem Ft.hq_u(a:Ft):a.hq=((decide (a.Op=8)||(decide (a.Op=9)||false))||a.Parts.any Ft.hq):=by cases a; rw[Ft.hq,Ft.hqs_eq]; rfl
theorem hasOp_eq(a:Ft):∀ n,3*au a≤n→impl_hasOpN n a [8,9]=some a.hq:=by
 refine Ft.ind' (M:=fun a=>∀ n,3*au a≤n→impl_hasOpN n a [8,9]=some a.hq) (fun a ih n hn=>?_) a
 have hp:=a.pos
 cases n with
 | zero=>omega
 | succ n=>
  have e:hasI [8,9] a.Op=(decide (a.Op=8)||(decide (a.Op=9)||false)):=by rw[← any_hasI]; rfl
  rw[impl_hasOpN,Contains_eq,ap,e,Ft.hq_u]
  cases (decide (a.Op=8)||(decide (a.Op=9)||false))
  ·rw[cond_false,contFm (p:=Ft.hq) a.Parts (fun x hx=>by
    have:=Ft.lt hx
    cases n with
    | zero=>omega
    | succ n=>rw[impl_hasOp_1N,ih x hx n (by omega)]; rfl)]; rfl
  ·rfl
theorem ats_loop(f:Ft→Option (List Tt)):∀ (l:List Ft) (i:Nat) (acc:List Tt),(∀ a∈l,f a=some a.ats)→acc.length+(Ft.atss l).length≤1073741824→
 forL (ρ:=List Tt) (fun _ x s=>(f x).bind fun v22=>(app s v22).bind fun v23=>some (.nx v23)) l i acc=some (.inr (acc++Ft.atss l))
 | [],i,acc,_,_=>by rw[forL_nil,Ft.atss,bj]
 | a::l,i,acc,h,hb=>by
  rw[Ft.atss,aV] at hb
  rw[forL_nx (s':=acc++a.ats) (by
   rw[h a (by simp),ap]; unfold app
   rw[if_pos (by omega)]; rfl),ats_loop f l (i+1) _ (fun x hx=>h x (by simp[hx])) (by rw[aV]; omega),Ft.atss,aS]
theorem atss_len{l:List Ft}{a:Ft}(h:a∈l):a.ats.length≤(Ft.atss l).length:=by
 induction l with
 | nil=>cases h
 | cons b l ih=>
  rw[Ft.atss,aV]
  rcases List.mem_cons.1 h with rfl | h
  ·omega
  ·have:=ih h; omega
theorem atomsOf_eq(a:Ft):a.ats.length≤1073741824→∀ n,2*au a≤n→impl_atomsOfN n a=some a.ats:=by
 refine Ft.ind' (M:=fun a=>a.ats.length≤1073741824→∀ n,2*au a≤n→impl_atomsOfN n a=some a.ats) (fun a ih hb n hn=>?_) a
 have hp:=a.pos
 rw[Ft.ats_u] at hb
 cases n with
 | zero=>omega
 | succ n=>
  rw[impl_atomsOfN,Ft.ats_u]
  cases e:decide (a.Op=3)
  ·rw[e,cond_false] at hb
   rw[cond_false,cond_false,forN_idx a.Parts (fun _ x s=>(impl_atomsOfN n x).bind fun v22=>(app s v22).bind fun v23=>some (.nx v23)),
    ats_loop (impl_atomsOfN n) a.Parts 0 [] (fun x hx=>ih x hx (by have:=atss_len hx; omega) n (by have:=Ft.lt hx; omega)) (by simpa using hb)]; rfl
  ·rfl
theorem plain_eq(a:Ft):∀ n,2*au a≤n→spec_l16PlainN n a=some (!a.hq):=by
 refine Ft.ind' (M:=fun a=>∀ n,2*au a≤n→spec_l16PlainN n a=some (!a.hq)) (fun a ih n hn=>?_) a
 have hp:=a.pos
 cases n with
 | zero=>omega
 | succ n=>
  rw[spec_l16PlainN,Ft.hq_u]
  cases decide (a.Op=8)
  ·cases decide (a.Op=9)
   ·rw[cond_false,cond_false,forN_all (fun j=>!(a.Parts.getD j default).hq) (r0:=false) (fun j hj _=>by
     have ha:=getD_mem hj
     have:=Ft.lt ha
     rw[idx_getD hj,ap,ih _ ha n (by omega),ap]
     cases (a.Parts.getD j default).hq<;>rfl),range_all_list a.Parts (fun x=>!x.hq)]
    rw[List.any_eq_not_all_not]
    cases a.Parts.all (fun x=>!x.hq)<;>rfl
   ·rfl
  ·rfl
theorem forN_idxB{α ρ σ:Type}(xs:List α)(g:Nat→α→σ→Option (Flow ρ σ)){f:Nat→σ→Option (Flow ρ σ)}(s:σ)(h:∀ i,i<xs.length→∀ s,f i s=(match xs[i]? with | some x=>g i x s | none=>none)):forN f xs.length 0 s=forL g xs 0 s:=by
 rw[← forN_idx xs g s]
 refine forN_congr' xs.length 0 s fun j t _ hj=>?_
 rw[h j (by omega),idx_nat]
 cases xs[j]?<;>rfl
theorem hq_fN(p:Ft):(fN p).hq=p.hq:=by simp[fN,Ft.hq,Ft.hqs]
theorem hq_fB{o:Int}(ho:o=5∨o=6∨o=7)(p q:Ft):(fB o p q).hq=(p.hq||q.hq):=by rcases ho with rfl | rfl | rfl<;>simp[fB,Ft.hq,Ft.hqs]
theorem hq_fQ{o:Int}(ho:o=8∨o=9)(v:ByteArray)(p:Ft):(fQ o v p).hq=true:=by rcases ho with rfl | rfl<;>simp[fQ,Ft.hq]
theorem sub_fN(x:ByteArray)(t:Tt)(p:Ft):(fN p).sub x t=fN (p.sub x t):=by simp[fN,Ft.sub,Ft.subs,Ft.keep,isQ,Ft.Op_mk]
theorem sub_fB{o:Int}(ho:o=5∨o=6∨o=7)(x:ByteArray)(t:Tt)(p q:Ft):(fB o p q).sub x t=fB o (p.sub x t) (q.sub x t):=by rcases ho with rfl | rfl | rfl<;>simp[fB,Ft.sub,Ft.subs,Ft.keep,isQ,Ft.Op_mk]
theorem sub_fC{o:Int}(ho:o=1∨o=2)(x:ByteArray)(t:Tt):(fC o).sub x t=fC o:=by rcases ho with rfl | rfl<;>simp[fC,Ft.sub,Ft.subs,Ft.keep,isQ,Ft.Op_mk]
theorem sub_fA(x:ByteArray)(t a:Tt):(Ft.mk 3 a es []).sub x t=Ft.mk 3 (sbT x t a) es []:=by simp[Ft.sub,Ft.keep,isQ,Ft.Op_mk]
theorem bitand_one{x:Nat}(hx:x<2 ^ 62):bitand .i64 (x:Int) 1=((x % 2:Nat):Int):=by
 show IntKind.i64.wrap (((BitVec.ofInt 64 (x:Int)&&& BitVec.ofInt 64 ((1:Nat):Int)).toNat:Nat):Int)=_
 rw[BitVec.ofInt_natCast,BitVec.ofInt_natCast,BitVec.toNat_and,BitVec.toNat_ofNat,BitVec.toNat_ofNat,Nat.mod_eq_of_lt (by omega:x<2 ^ 64),show 1 % 2 ^ 64=2 ^ 1-1 from rfl,Nat.and_two_pow_sub_one_eq_mod,wrap64 (by omega) (by omega)]
theorem shr_eq{x j:Nat}(hj:j≤64):shr .i64 (x:Int) (j:Int)=some ((x / 2 ^ j:Nat):Int):=by
 unfold shr
 rw[if_pos (by omega),Int.toNat_natCast,show min j IntKind.i64.bits=j from Nat.min_eq_left hj,Int.fdiv_eq_ediv_of_nonneg _ (by exact_mod_cast Nat.zero_le _)]
 congr 1
theorem bit_test{x j:Nat}(hx:x<2 ^ 62):decide (bitand .i64 ((x / 2 ^ j:Nat):Int) 1=1)=x.testBit j:=by
 rw[bitand_one (Nat.lt_of_le_of_lt (Nat.div_le_self _ _) hx),Nat.testBit_eq_decide_div_mod_eq]
 exact decide_eq_decide.2 (by omega)
theorem shl_flag(b:Bool){i:Nat}(hi:i≤61):shl .i64 (bif b then 1 else 0) (i:Int)=some ((b.toNat<<<i:Nat):Int):=by
 have h2:2 ^ i≤2 ^ 61:=Nat.pow_le_pow_right (by omega) hi
 unfold shl
 rw[if_pos (by omega),Int.toNat_natCast,show min i IntKind.i64.bits=i from Nat.min_eq_left (by show i≤64; omega),Nat.shiftLeft_eq]
 cases b
 ·rw[cond_false,Int.zero_mul]; simp[IntKind.wrap_i64]
 ·have key:∀ m:Nat,m≤2 ^ 61→IntKind.i64.wrap (m:Int)=m:=fun m hm=>wrap64 (by omega) (by omega)
  rw[cond_true,Int.one_mul,show(2:Int) ^ i=((2 ^ i:Nat):Int) from by simp,key _ h2]; simp
end
section
/-! ### some .. some, and what is behind it -/
inductive Opn:Ft→List ByteArray→Ft→Prop
 | stop (f:Ft) (h:f.Op≠9):Opn f [] f
 | step (v:ByteArray) (p:Ft) (ns:List ByteArray) (b:Ft) (h:Opn p ns b):Opn (fQ 9 v p) (v::ns) b
theorem opn_ex(f:Ft):f.good=true→∃ ns b,Opn f ns b∧b.good=true∧b.Op≠9∧f.cnt=ns.length+b.cnt∧(∀ x∈ns,isVarS x=true)∧(∀ x,f.fv x=(!hasV x ns&&b.fv x))∧b.tot≤f.tot∧(f.Ok→b.Ok):=by
 refine Ft.ind' (M:=fun f=>f.good=true→∃ ns b,Opn f ns b∧b.good=true∧b.Op≠9∧f.cnt=ns.length+b.cnt∧(∀ x∈ns,isVarS x=true)∧(∀ x,f.fv x=(!hasV x ns&&b.fv x))∧b.tot≤f.tot∧(f.Ok→b.Ok)) (fun f ih hg=>?_) f
 have st:f.Op≠9→∃ ns b,Opn f ns b∧b.good=true∧b.Op≠9∧f.cnt=ns.length+b.cnt∧(∀ x∈ns,isVarS x=true)∧(∀ x,f.fv x=(!hasV x ns&&b.fv x))∧b.tot≤f.tot∧(f.Ok→b.Ok):=fun h=>
  ⟨[],f,.stop f h,hg,h,by simp,(fun x hx=>nomatch hx),fun x=>by simp[hasV],aM _,id⟩
 rcases good_cases hg with⟨o,ho,rfl⟩ | ⟨a,rfl,ha⟩ | ⟨p,rfl,gp⟩ | ⟨o,p,q,ho,rfl,gp,gq⟩ | ⟨o,v,p,ho,rfl,hv,gp⟩
 ·exact st (by show o≠9; omega)
 ·exact st (by show(3:Int)≠9; omega)
 ·exact st (by show(4:Int)≠9; omega)
 ·exact st (by show o≠9; omega)
 ·rcases ho with rfl | rfl
  ·exact st (by show(8:Int)≠9; omega)
  ·obtain⟨ns,b,h1,h2,h3,h4,h5,h6,h7,h8⟩:=ih p (by simp[aY]) gp
   refine⟨v::ns,b,.step v p ns b h1,h2,h3,by rw[cnt_fQ,h4,aG]; omega,fun x hx=>?_,fun x=>?_,by rw[tot_fQ]; omega,fun hk=>h8 (hk.u.2.2.2.2 p (by simp[aY]))⟩
   ·rcases List.mem_cons.1 hx with rfl | hx
    ·exact hv
    ·exact h5 x hx
   ·rw[Ft.fv_u]
    have e1:decide ((fQ 9 v p).Op=3)=false:=rfl
    have e2:isQ (fQ 9 v p).Op=true:=rfl
    rw[e1,e2,cond_false]
    show(!(true&&decide (v=x))&&(p.fv x||false))=_
    have e3:hasV x (v::ns)=(decide (v=x)||hasV x ns):=by simp[hasV,eq_comm]
    rw[e3,h6,Bool.or_false,Bool.true_and,Bool.not_or,Bool.and_assoc]
theorem opn_loop{ρ:Type}{f:Ft}{ns:List ByteArray}{b:Ft}(h:Opn f ns b):b.Op≠9→∀ acc:List ByteArray,acc.length+ns.length≤1000000→
 Ev (fun n2=>whileN (ρ:=ρ) (fun (s2:Ft×(List ByteArray))=>
  bif decide (s2.1.Op=(9:Int)) then
   aa (app s2.2 ([s2.1.Var])) fun v13=>
   aa (idx s2.1.Parts (0:Int)) fun v16=>
   some (.nx (v16,v13))
  else
   some (.br s2)) n2 (f,acc)) (.inr (b,acc++ns)):=by
 induction h with
 | stop f h=>
  intro _ acc _
  rw[bj]
  exact ev_br (by show(bif decide (f.Op=9) then _ else _)=_; rw[decide_eq_false h]; rfl)
 | step v p ns b h ih=>
  intro hb acc hl
  rw[aG] at hl
  have:=ih hb (acc++[v]) (by simp; omega)
  rw[aS] at this
  refine ev_nx ?_ this
  show aa (app acc [v]) _=_
  rw[app_one _ _ (by omega)]; rfl
theorem opn_eq{f:Ft}{ns:List ByteArray}{b:Ft}(h:Opn f ns b)(hb:b.Op≠9)(hl:ns.length≤1000000):spec_l16Open f=some (ns,b)∧impl_prefix f=some (ns,b):=by
 have e:∀ ρ:Type,_:=fun ρ=>lim_eq (opn_loop (ρ:=ρ) h hb [] (by simpa using hl))
 constructor
 ·unfold spec_l16Open
  refine(congrArg (fun z=>thenL z _) (e _)).trans rfl
 ·unfold impl_prefix
  refine(congrArg (fun z=>thenL z _) (e _)).trans rfl
/-! ### names that differ -/
theorem nd_spec(ns:List ByteArray):(List.range ns.length).all (fun i=>!hasV (ns.getD i default) (ns.take i))=decide ns.Nodup:=by
 rw[Bool.eq_iff_iff,aX,decide_eq_true_iff,List.Nodup,List.pairwise_iff_getElem]
 constructor
 ·intro h i j hi hj hij e
  have:=h j (List.mem_range.2 hj)
  rw[Bool.not_eq_true',← Bool.not_eq_true,hasV_iff] at this
  refine this ?_
  have e1:ns.getD j default=ns[j]:=by simp[List.getD,hj]
  rw[e1,← e]
  exact List.mem_take_iff_getElem.2 ⟨i,by omega,rfl⟩
 ·intro h i hi
  have hi:i<ns.length:=List.mem_range.1 hi
  rw[Bool.not_eq_true',← Bool.not_eq_true,hasV_iff]
  intro hm
  have e1:ns.getD i default=ns[i]:=by simp[List.getD,hi]
  rw[e1] at hm
  obtain⟨j,hj,e⟩:=List.mem_take_iff_getElem.1 hm
  exact h j i (by omega) hi (by omega) e
theorem sortB_le(a:List ByteArray):(sortB a).Pairwise (fun x y=>leB x.data.toList y.data.toList=true):=by
 have hs:((a.map fun x=>x.data.toList).mergeSort leB).Pairwise (fun x y=>leB x y=true):=List.pairwise_mergeSort leB_trans leB_total _
 show(((a.map fun x=>x.data.toList).mergeSort leB).map fun l=>(⟨l.toArray⟩:ByteArray)).Pairwise _
 rw[List.pairwise_map]
 exact hs.imp (fun {x y} h=>by simpa using h)
theorem compB_len{l:List ByteArray}:(compB l).length=l.length↔∀ j,j<l.length→cmpK l j=true:=by
 unfold compB
 rw[aC]
 have h:=List.length_filter_eq_length_iff (p:=cmpK l) (l:=List.range l.length)
 rw[List.length_range] at h
 rw[h]
 exact⟨fun h j hj=>h j (List.mem_range.2 hj),fun h j hj=>h j (List.mem_range.1 hj)⟩
theorem nd_impl(ns:List ByteArray):decide (((compB (sortB ns)).length:Int)=((sortB ns).length:Int))=decide ns.Nodup:=by
 rw[Bool.eq_iff_iff,decide_eq_true_iff,decide_eq_true_iff,Int.ofNat_inj,compB_len]
 have hp:=sortB_perm ns
 rw[← hp.nodup_iff]
 have hle:=sortB_le ns
 generalize sortB ns=l at hle
 constructor
 ·intro h
  rw[List.pairwise_iff_getElem] at hle
  rw[List.Nodup,List.pairwise_iff_getElem]
  intro i j hi hj hij e
  have h1:=h (i+1) (by omega)
  unfold cmpK at h1
  rw[decide_eq_false (by omega),Bool.false_or,Bool.not_eq_true',decide_eq_false_iff_not,Nat.add_sub_cancel] at h1
  have e1:l.getD (i+1) default=l[i+1]:=by simp[List.getD,show i+1<l.length by omega]
  have e2:l.getD i default=l[i]:=by simp[List.getD,hi]
  rw[e1,e2] at h1
  have a1:=hle i (i+1) hi (by omega) (by omega)
  have a2:leB (l[i+1]).data.toList (l[i]).data.toList=true:=by
   by_cases g:i+1=j
   ·subst g; rw[← e]; unfold leB; exact decide_eq_true (List.le_refl _)
   ·have:=hle (i+1) j (by omega) hj (by omega)
    rw[← e] at this; exact this
  have:=leB_antisymm a1 a2
  exact h1 (cpt_inj.1 this.symm)
 ·intro h j hj
  unfold cmpK
  by_cases g:j=0
  ·rw[decide_eq_true g]; rfl
  ·rw[List.Nodup,List.pairwise_iff_getElem] at h
   have:=h (j-1) j (by omega) hj (by omega)
   have e1:l.getD j default=l[j]:=by simp[List.getD,hj]
   have e2:l.getD (j-1) default=l[j-1]'(by omega):=by simp[List.getD,show j-1<l.length by omega]
   rw[e1,e2,decide_eq_false g,decide_eq_false (show ¬ l[j]=l[j-1]'(by omega) from fun e=>this e.symm)]; rfl
theorem nd_loop(ns:List ByteArray)(k:Unit→Option Bool):thenL (ρ:=Bool) (σ:=Unit) (forN (fun (i5:Nat) (s5:Unit)=>
 aa (slc ns (0:Int) (i5:Int)) fun v28=>
 aa (idx ns (i5:Int)) fun v31=>
 aa (spec_l2In v28 v31) fun v33=>
 bif v33 then
  some (.rt false)
 else
  some (.nx ())) ns.length 0 ()) k=bif decide ns.Nodup then k () else some false:=by
 rw[forN_all (fun i=>!hasV (ns.getD i default) (ns.take i)) (r0:=false) (fun j hj _=>?_),nd_spec]
 have e1:slc ns (0:Int) (j:Int)=some (ns.take j):=by
  unfold slc; rw[if_pos ⟨by omega,by omega,by omega⟩]; simp
 rw[e1,ap,idx_getD hj,ap,l2In_eq,ap]
 cases hasV (ns.getD j default) (ns.take j)<;>rfl
/-! ### the test -/
structure Hb(f:Ft)(ns:List ByteArray)(b:Ft):Prop where
 so:spec_l16Open f=some (ns,b)
 io:impl_prefix f=some (ns,b)
 val:validF f=true
 bg:b.good=true
 bc:ns.length+b.cnt≤40
 bt:b.tot≤8800
 bo:b.Ok
 vr:∀ x∈ns,isVarS x=true
 fv:∀ x,b.fv x=true→x∈ns
 nd:ns.Nodup
 pl:b.hq=false
theorem herb_eq{f:Ft}(hok:f.Ok)(ht:f.tot≤10000000000000):∃ B:Bool,spec_l16Formula f=some B∧impl_IsHerbrandFormula f=some B∧(B=true→∃ ns b,Hb f ns b):=by
 unfold spec_l16Formula impl_IsHerbrandFormula
 rw[validF_impl f ht hok,validF_spec f ht hok,ap,ap]
 cases hv:validF f
 ·exact⟨false,rfl,rfl,fun e=>nomatch e⟩
 obtain⟨h1,h2⟩:=validF_iff hv
 obtain⟨v1,f1,g1⟩:=free_spec hok h2 (by omega)
 obtain⟨v2,f2,g2⟩:=free_impl h2 (by omega)
 obtain⟨ns,b,o1,o2,o3,o4,o5,o6,o7,o8⟩:=opn_ex f h2
 obtain⟨p1,p2⟩:=opn_eq o1 o3 (by omega)
 rw[cond_true,cond_true,f1,f2,ap,ap]
 have key:∀ v:List ByteArray,(∀ x,hasV x v=f.fv x)→((0:Int)<(v.length:Int)↔∃ x,f.fv x=true):=fun v g=>by
  constructor
  ·intro h
   cases v with
   | nil=>simp at h
   | cons x l=>exact⟨x,by rw[← g]; simp[hasV]⟩
  ·rintro ⟨x,hx⟩
   rw[← g,hasV_iff] at hx
   have:=List.length_pos_of_mem hx
   omega
 by_cases hf:∃ x,f.fv x=true
 ·rw[decide_eq_true ((key v1 g1).2 hf),decide_eq_true ((key v2 g2).2 hf)]
  exact⟨false,rfl,rfl,fun e=>nomatch e⟩
 rw[decide_eq_false (fun h=>hf ((key v1 g1).1 h)),decide_eq_false (fun h=>hf ((key v2 g2).1 h)),cond_false,cond_false,p1,p2,ap,ap]
 have hl:ns.length≤1000:=by omega
 have hsl:(sortB ns).length=ns.length:=(sortB_perm ns).length_eq
 have ho:impl_hasOp b ([(8:Int),(9:Int)])=some b.hq:=lim_eq ⟨_,hasOp_eq b⟩
 have hp:spec_l16Plain b=some (!b.hq):=lim_eq ⟨_,plain_eq b⟩
 have hc:slices_CompactS (sortB ns)=some (compB (sortB ns)):=by unfold slices_CompactS; rw[if_pos (by omega)]
 simp only[nd_loop,Sort_ok (show ns.length≤1000000000 by omega),clone_str _ (show(sortB ns).length≤1000000 by omega),hc,ap,nd_impl,ho,hp]
 by_cases hn:ns.Nodup
 ·rw[decide_eq_true hn]
  refine⟨!b.hq,rfl,rfl,fun e=>⟨ns,b,p1,p2,hv,o2,by omega,by have:=validF_tot hv; omega,o8 hok,o5,fun x hx=>?_,hn,by simpa using e⟩⟩
  have:=o6 x
  rw[hx,Bool.and_true] at this
  have h0:f.fv x=false:=by rw[← Bool.not_eq_true]; exact fun h=>hf ⟨x,h⟩
  rw[h0] at this
  exact hasV_iff.1 (by simpa using this.symm)
 ·rw[decide_eq_false hn]
  exact⟨false,rfl,rfl,fun e=>nomatch e⟩
end
section
/-! ### all variables replaced at once -/
abbrev AL:=List (ByteArray×Tt)
def lk:AL→ByteArray→Option Tt
 | [],_=>none
 | p::al,x=>if p.1=x then some p.2 else lk al x
theorem lk_app(x:ByteArray):∀ (al bl:AL),lk (al++bl) x=(lk al x).or (lk bl x)
 | [],bl=>rfl
 | p::al,bl=>by
  rw[List.cons_append,lk,lk]
  split
  ·rfl
  ·exact lk_app x al bl
theorem lk_none{x:ByteArray}:∀ {al:AL},x∉al.map (·.1)→lk al x=none
 | [],_=>rfl
 | p::al,h=>by
  rw[aF,bq] at h
  rw[lk,if_neg (fun e=>h (.inl e.symm))]
  exact lk_none (fun hm=>h (.inr hm))
theorem lk_mem{x:ByteArray}{t:Tt}:∀ {al:AL},lk al x=some t→(x,t)∈al
 | [],h=>nomatch h
 | p::al,h=>by
  rw[lk] at h
  split at h
  ·rename_i e
   cases h
   rw[← e]; exact List.mem_cons_self
  ·exact List.mem_cons_of_mem _ (lk_mem h)
theorem ghasT_put(k x:ByteArray)(v:Tt)(ck:Nat):∀ l:List (ByteArray×Tt×Nat),ghas x (gput k v ck l)=(decide (k=x)||ghas x l)
 | []=>by
  rw[gput,ghas,ghas]
  by_cases e:k=x
  ·rw[if_pos e,decide_eq_true e]; rfl
  ·rw[if_neg e,decide_eq_false e]; rfl
 | e::es=>by
  rw[gput]
  by_cases h:e.1=k
  ·rw[if_pos h,ghas,ghas]
   by_cases g:k=x
   ·rw[if_pos g,decide_eq_true g]; rfl
   ·rw[if_neg g,decide_eq_false g,if_neg (fun q=>g (h▸q)),Bool.false_or]
  ·rw[if_neg h,ghas,ghas]
   by_cases g:e.1=x
   ·rw[if_pos g,if_pos g,Bool.or_true]
   ·rw[if_neg g,if_neg g]; exact ghasT_put k x v ck es
theorem ggetT_put(k x:ByteArray)(v d:Tt)(ck:Nat):∀ l:List (ByteArray×Tt×Nat),gget d x (gput k v ck l)=if k=x then v else gget d x l
 | []=>rfl
 | e::es=>by
  rw[gput]
  by_cases h:e.1=k
  ·rw[if_pos h,gget,gget]
   by_cases g:k=x
   ·rw[if_pos g,if_pos g]
   ·rw[if_neg g,if_neg g,if_neg (fun q=>g (h▸q))]
  ·rw[if_neg h,gget,gget]
   by_cases g:e.1=x
   ·rw[if_pos g,if_pos g,if_neg (fun q=>h (g.trans q.symm))]
   ·rw[if_neg g,if_neg g]; exact ggetT_put k x v d ck es
/-- The map says what the list says. -/
def MR(m:GMap Tt)(al:AL):Prop:=∀ x,m.has x=(lk al x).isSome∧∀ z,m.get x z=(lk al x).getD z
theorem MR.put{m:GMap Tt}{al:AL}(h:MR m al){k:ByteArray}{v:Tt}(hk:k∉al.map (·.1)):MR (m.put k v) (al++[(k,v)]):=fun x=>by
 obtain⟨h1,h2⟩:=h x
 have e1:(m.put k v).has x=(decide (k=x)||m.has x):=ghasT_put k x v _ _
 have e2:∀ z,(m.put k v).get x z=if k=x then v else m.get x z:=fun z=>ggetT_put k x v z _ _
 rw[e1,lk_app]
 by_cases e:k=x
 ·subst e
  rw[lk_none hk,decide_eq_true rfl]
  refine⟨by simp[lk],fun z=>?_⟩
  rw[e2,if_pos rfl]; simp[lk]
 ·rw[decide_eq_false e,h1]
  refine⟨by cases lk al x<;>simp[lk,e],fun z=>?_⟩
  rw[e2,if_neg e,h2]
  cases lk al x<;>simp[lk,e]
theorem MR.fold:∀ (bl al:AL) (m:GMap Tt),MR m al→((al++bl).map (·.1)).Nodup→MR (bl.foldl (fun m p=>m.put p.1 p.2) m) (al++bl)
 | [],al,m,h,_=>by rw[bj]; exact h
 | p::bl,al,m,h,hn=>by
  have hk:p.1∉al.map (·.1):=by
   rw[List.map_append,List.nodup_append] at hn
   intro hm
   exact hn.2.2 _ hm p.1 (by simp) rfl
  have:=MR.fold bl (al++[p]) (m.put p.1 p.2) (h.put hk) (by rw[aS]; exact hn)
  rw[aS] at this
  exact this
def mkM(al:AL):GMap Tt:=al.foldl (fun m p=>m.put p.1 p.2) GMap.empty
theorem mkM_MR{al:AL}(h:(al.map (·.1)).Nodup):MR (mkM al) al:=MR.fold al [] GMap.empty (fun x=>⟨rfl,fun _=>rfl⟩) h
theorem put_loop{ρ:Type}{ns:List ByteArray}{ts:List Tt}(h:ts.length=ns.length):forN (ρ:=ρ) (fun (i12:Nat) (s12:(GMap Tt))=>
 aa (idx ns (i12:Int)) fun v46=>
 aa (idx ns (i12:Int)) fun v47=>
 aa (idx ts (i12:Int)) fun v52=>
 some (.nx (GMap.put s12 v47 v52))) ns.length 0 (GMap.empty:GMap Tt)=some (.inr (mkM (ns.zip ts))):=by
 have:=for_iter (ρ:=ρ) (f:=fun (i12:Nat) (s12:(GMap Tt))=>
  aa (idx ns (i12:Int)) fun v46=>
  aa (idx ns (i12:Int)) fun v47=>
  aa (idx ts (i12:Int)) fun v52=>
  some (.nx (GMap.put s12 v47 v52))) (fun j=>mkM ((ns.zip ts).take j)) ns.length 0 (fun j _ hj=>by
  have hj:j<ns.length:=by omega
  have hz:j<(ns.zip ts).length:=by rw[List.length_zip]; omega
  rw[idx_nat,idx_nat,List.getElem?_eq_getElem hj,List.getElem?_eq_getElem (show j<ts.length by omega)]
  simp only[ap]
  rw[List.take_succ_eq_append_getElem hz]
  unfold mkM
  rw[List.foldl_append,List.getElem_zip]; rfl)
 rw[Nat.zero_add,List.take_of_length_le (show(ns.zip ts).length≤ns.length by rw[List.length_zip]; omega)] at this
 exact this
mutual
def msT(al:AL):Tt→Tt
 | .mk x l=>if l.isEmpty=true∧(lk al x).isSome=true then(lk al x).getD default else .mk x (msTs al l)
def msTs(al:AL):List Tt→List Tt
 | []=>[]
 | a::l=>msT al a::msTs al l
end
theorem msTs_eq(al:AL)(l:List Tt):msTs al l=l.map (msT al):=by
 induction l with
 | nil=>rfl
 | cons a l ih=>rw[msTs,ih]; rfl
theorem msT_u(al:AL)(a:Tt):msT al a=if a.Args.isEmpty=true∧(lk al a.Name).isSome=true then(lk al a.Name).getD default else .mk a.Name (a.Args.map (msT al)):=by cases a; rw[msT,msTs_eq]; rfl
theorem repl_eq{al:AL}{m:GMap Tt}(hm:MR m al)(hc:∀ p∈al,p.2.cnt≤10000000)(a:Tt):a.cnt≤10000000→∀ k,2*au a≤k→impl_replaceVarsN k a m=some (msT al a):=by
 refine a8 (M:=fun a=>a.cnt≤10000000→∀ k,2*au a≤k→impl_replaceVarsN k a m=some (msT al a)) (fun a ih hac k hk=>?_) a
 have hp:=a.pos
 have hu:=a.cnt_u
 have hl:=cnts_len a.Args
 cases k with
 | zero=>omega
 | succ k=>
  have hM:=mapL (ρ:=Tt) (f:=fun x=>impl_replaceVarsN k x m) (g:=msT al) a.Args 0 [] (fun x hx=>ih x hx (by have:=cnts_mem hx; omega) k (by have:=Tt.lt hx; omega)) (by simp; omega)
  rw[impl_replaceVarsN,(hm a.Name).1,isEmpty_dec,msT_u]
  simp only[forN_idx]
  rw[hM,thenL_inr,bA,(hm a.Name).2]
  cases e:lk al a.Name with
  | none=>simp
  | some t=>
   cases he:a.Args.isEmpty with
   | false=>simp
   | true=>
    have:=hc _ (lk_mem e)
    show aa (impl_copyTerm t) _=_
    rw[copyT t this]; rfl
/-! Formulas without quantifiers. -/
inductive Pl:Ft→Prop
 | c (o:Int) (ho:o=1∨o=2):Pl (fC o)
 | a (t:Tt):Pl (Ft.mk 3 t es [])
 | n (p:Ft) (h:Pl p):Pl (fN p)
 | b (o:Int) (p q:Ft) (ho:o=5∨o=6∨o=7) (h:Pl p) (h':Pl q):Pl (fB o p q)
theorem pl_of(f:Ft):f.good=true→f.hq=false→Pl f:=by
 refine Ft.ind' (M:=fun f=>f.good=true→f.hq=false→Pl f) (fun f ih hg hq=>?_) f
 rcases good_cases hg with⟨o,ho,rfl⟩ | ⟨a,rfl,ha⟩ | ⟨p,rfl,gp⟩ | ⟨o,p,q,ho,rfl,gp,gq⟩ | ⟨o,v,p,ho,rfl,hv,gp⟩
 ·exact .c o ho
 ·exact .a a
 ·rw[hq_fN] at hq
  exact .n p (ih p (by simp[aY]) gp hq)
 ·rw[hq_fB ho,Bool.or_eq_false_iff] at hq
  exact .b o p q ho (ih p (by simp[aY]) gp hq.1) (ih q (by simp[aY]) gq hq.2)
 ·rw[hq_fQ ho] at hq; cases hq
mutual
def msF(al:AL):Ft→Ft
 | .mk o a v ps=>bif decide (o=3) then .mk 3 (msT al a) es [] else .mk o a v (msFs al ps)
def msFs(al:AL):List Ft→List Ft
 | []=>[]
 | a::l=>msF al a::msFs al l
end
theorem msF_c(al:AL){o:Int}(ho:o=1∨o=2):msF al (fC o)=fC o:=by rcases ho with rfl | rfl<;>rfl
theorem msF_a(al:AL)(t:Tt):msF al (Ft.mk 3 t es [])=Ft.mk 3 (msT al t) es []:=rfl
theorem msF_n(al:AL)(p:Ft):msF al (fN p)=fN (msF al p):=rfl
theorem msF_b(al:AL){o:Int}(ho:o=5∨o=6∨o=7)(p q:Ft):msF al (fB o p q)=fB o (msF al p) (msF al q):=by rcases ho with rfl | rfl | rfl<;>rfl
theorem parts_eq{f:Ft}{F:Ft→Option Ft}{G:Ft→Ft}(ht:f.Atom.cnt≤10000000)(hl:f.Parts.length≤1000000)(h:∀ p∈f.Parts,F p=some (G p)):impl_mapParts f F=some (Ft.mk f.Op f.Atom f.Var (f.Parts.map G)):=by
 unfold impl_mapParts
 simp only[forN_idx]
 rw[copyT _ ht,ap,mapL (f:=F) (g:=G) f.Parts 0 [] h (by simp; omega),thenL_inr,bA]
theorem inst_eq{al:AL}{m:GMap Tt}(hm:MR m al)(hc:∀ p∈al,p.2.cnt≤10000000){f:Ft}(hf:Pl f):f.good=true→∀ k,3*au f≤k→impl_instanceN k f m=some (msF al f):=by
 have z:zt.cnt≤10000000:=Nat.le_of_ble_eq_true rfl
 induction hf with
 | c o ho=>
  intro _ k hk
  have hp:=(fC o).pos
  obtain⟨k,rfl⟩:∃ j,k=j+1:=⟨k-1,by omega⟩
  rw[impl_instanceN,msF_c al ho]
  show(bif decide (o=3) then _ else _)=_
  rw[decide_eq_false (by omega),cond_false,parts_eq (f:=fC o) (G:=id) z (by simp[aY]) (fun p hp=>nomatch hp)]; rfl
 | a t=>
  intro hg k hk
  have hp:=(Ft.mk 3 t es []).pos
  obtain⟨k,rfl⟩:∃ j,k=j+1:=⟨k-1,by omega⟩
  have ht:t.cnt≤30:=by
   rcases good_cases hg with⟨o,ho,e⟩ | ⟨a,e,ha⟩ | ⟨p,e,_⟩ | ⟨o,p,q,ho,e,_,_⟩ | ⟨o,v,p,ho,e,_,_⟩
   ·simp only[fC,Ft.mk.injEq] at e; omega
   ·simp only[Ft.mk.injEq] at e
    rw[e.2.1]; exact(atomT_ok ha).cnt
   ·simp only[fN,Ft.mk.injEq] at e; omega
   ·simp only[fB,Ft.mk.injEq] at e; omega
   ·simp only[fQ,Ft.mk.injEq] at e; omega
  rw[impl_instanceN,msF_a]
  show aa (impl_replaceVars t m) _=_
  rw[show impl_replaceVars t m=some (msT al t) from lim_eq ⟨_,repl_eq hm hc t (by omega)⟩]; rfl
 | n p h ih=>
  intro hg k hk
  have hp:=(fN p).pos
  have hlt:au p<au (fN p):=Ft.lt (by simp[aY])
  obtain⟨k,rfl⟩:∃ j,k=j+1:=⟨k-1,by omega⟩
  have gp:=(good_split hg).2 p (by simp[aY])
  rw[impl_instanceN,msF_n]
  show(bif decide ((4:Int)=3) then _ else _)=_
  rw[decide_eq_false (by omega),cond_false,parts_eq (f:=fN p) (G:=msF al) z (by simp[aY]) (fun x hx=>by
   rw[List.mem_singleton.1 hx]
   obtain⟨k,rfl⟩:∃ j,k=j+1:=⟨k-1,by omega⟩
   rw[impl_instance_1N,ih gp k (by omega)]; rfl)]; rfl
 | b o p q ho h h' ih ih'=>
  intro hg k hk
  have hp:=(fB o p q).pos
  have hlt:au p<au (fB o p q):=Ft.lt (by simp[aY])
  have hlt':au q<au (fB o p q):=Ft.lt (by simp[aY])
  obtain⟨k,rfl⟩:∃ j,k=j+1:=⟨k-1,by omega⟩
  have gp:=(good_split hg).2 p (by simp[aY])
  have gq:=(good_split hg).2 q (by simp[aY])
  rw[impl_instanceN,msF_b al ho]
  show(bif decide (o=3) then _ else _)=_
  rw[decide_eq_false (by omega),cond_false,parts_eq (f:=fB o p q) (G:=msF al) z (by simp[aY]) (fun x hx=>by
   obtain⟨k,rfl⟩:∃ j,k=j+1:=⟨k-1,by omega⟩
   rcases List.mem_cons.1 hx with rfl | hx
   ·rw[impl_instance_1N,ih gp k (by omega)]; rfl
   ·rw[List.mem_singleton.1 hx,impl_instance_1N,ih' gq k (by omega)]; rfl)]; rfl
/-! One after the other. -/
theorem msT_id{al:AL}(hv:∀ p∈al,isVarS p.1=true)(t:Tt):t.good=true→t.vars=[]→msT al t=t:=by
 refine a8 (M:=fun t=>t.good=true→t.vars=[]→msT al t=t) (fun t ih hg hv0=>?_) t
 rw[Tt.vars_u] at hv0
 rcases nameCase hg with⟨h1,h2⟩ | ⟨h1,_,_,h4⟩
 ·rw[h1] at hv0; cases hv0
 ·rw[h1,cond_false] at hv0
  have hn:lk al t.Name=none:=by
   cases e:lk al t.Name with
   | none=>rfl
   | some u=>
    have:=hv _ (lk_mem e)
    rw[h1] at this; cases this
  have hall:∀ a∈t.Args,a.vars=[]:=fun a ha=>by
   have key:∀ l:List Tt,a∈l→Tt.varss l=[]→a.vars=[]:=fun l=>by
    induction l with
    | nil=>intro h; cases h
    | cons b l ih=>
     intro h e
     rw[Tt.varss,List.append_eq_nil_iff] at e
     rcases List.mem_cons.1 h with rfl | h
     ·exact e.1
     ·exact ih h e.2
   exact key t.Args ha hv0
  rw[msT_u,hn,if_neg (by simp)]
  have:t.Args.map (msT al)=t.Args:=by
   rw[List.map_congr_left (g:=id) (fun a ha=>ih a ha (h4 a ha) (hall a ha)),List.map_id]
  rw[this,t.eta]
theorem msT_cons{al:AL}{x:ByteArray}{t:Tt}(hx:isVarS x=true)(hv:∀ p∈al,isVarS p.1=true)(hg:t.good=true)(h0:t.vars=[])(a:Tt):msT ((x,t)::al) a=msT al (sbT x t a):=by
 refine a8 (M:=fun a=>msT ((x,t)::al) a=msT al (sbT x t a)) (fun a ih=>?_) a
 rw[msT_u,sbT_u,lk]
 cases he:a.Args.isEmpty
 ·rw[Bool.false_and,cond_false,if_neg (by simp),msT_u]
  have:(Tt.mk a.Name (a.Args.map (sbT x t))).Args.isEmpty=false:=by rw[bp,List.isEmpty_map]; exact he
  rw[this,if_neg (by simp),bp,bD,List.map_map]
  rw[List.map_congr_left (g:=msT al∘sbT x t) (fun b hb=>ih b hb)]
 ·rw[Bool.true_and]
  by_cases e:a.Name=x
  ·rw[decide_eq_true e,cond_true,if_pos e.symm,msT_id hv t hg h0]; rfl
  ·rw[decide_eq_false e,cond_false,if_neg (show ¬ (x,t).1=a.Name from fun q=>e q.symm),msT_u,bp,bD,List.isEmpty_map,he]
   have:a.Args=[]:=List.isEmpty_iff.1 he
   rw[this]; rfl
theorem msF_cons{al:AL}{x:ByteArray}{t:Tt}(hx:isVarS x=true)(hv:∀ p∈al,isVarS p.1=true)(hg:t.good=true)(h0:t.vars=[]){f:Ft}(hf:Pl f):msF ((x,t)::al) f=msF al (f.sub x t):=by
 induction hf with
 | c o ho=>rw[msF_c _ ho,sub_fC ho,msF_c _ ho]
 | a a=>rw[msF_a,sub_fA,msF_a,msT_cons hx hv hg h0]
 | n p h ih=>rw[msF_n,sub_fN,msF_n,ih]
 | b o p q ho h h' ih ih'=>rw[msF_b _ ho,sub_fB ho,msF_b _ ho,ih,ih']
theorem pl_sub{x:ByteArray}{t:Tt}{f:Ft}(hf:Pl f):Pl (f.sub x t):=by
 induction hf with
 | c o ho=>rw[sub_fC ho]; exact .c o ho
 | a a=>rw[sub_fA]; exact .a _
 | n p h ih=>rw[sub_fN]; exact .n _ ih
 | b o p q ho h h' ih ih'=>rw[sub_fB ho]; exact .b o _ _ ho ih ih'
theorem msF_nil{f:Ft}(hf:Pl f):msF [] f=f:=by
 induction hf with
 | c o ho=>exact msF_c _ ho
 | a a=>
  have:∀ a:Tt,msT [] a=a:=fun a=>a8 (M:=fun a=>msT [] a=a) (fun a ih=>by
   rw[msT_u,if_neg (by simp[lk]),List.map_congr_left (g:=id) (fun b hb=>ih b hb),List.map_id,a.eta]) a
  rw[msF_a,this]
 | n p h ih=>rw[msF_n,ih]
 | b o p q ho h h' ih ih'=>rw[msF_b _ ho,ih,ih']
end
section
/-! ### atoms but for their size -/
def wkA(a:Tt):Bool:=bif decide (a.Name=(⟨#[61]⟩:ByteArray)) then decide (a.Args.length=2)&&a.Args.all Tt.good else isSymS a.Name&&a.good
theorem atomT_wk(a:Tt):atomT a=(wkA a&&smallT a):=by
 unfold atomT wkA goodT
 cases decide (a.Name=(⟨#[61]⟩:ByteArray))<;>cases decide (a.Args.length=2)<;>cases smallT a<;>cases a.Args.all Tt.good<;>cases isSymS a.Name<;>cases a.good<;>rfl
section
variable{x:ByteArray}{t:Tt}
theorem sbT_good(hg:t.good=true)(a:Tt):a.good=true→(sbT x t a).good=true:=by
 refine a8 (M:=fun a=>a.good=true→(sbT x t a).good=true) (fun a ih h=>?_) a
 rw[sbT_u]
 cases hc:(a.Args.isEmpty&&decide (a.Name=x))
 ·rw[cond_false,Tt.good_u,bD,bp,List.isEmpty_map,aC]
  rcases nameCase h with⟨h1,h2⟩ | ⟨h1,h2,h3,h4⟩
  ·rw[h1,h2]; rfl
  ·rw[h1,h2,decide_eq_true h3,cond_false,Bool.true_and,Bool.true_and,List.all_map,aX]
   exact fun b hb=>ih b hb (h4 b hb)
 ·exact hg
theorem wk_sb(hx:isVarS x=true)(hg:t.good=true){a:Tt}(h:wkA a=true):wkA (sbT x t a)=true:=by
 unfold wkA at h
 have hn:isVarS a.Name=false∧∀ b∈a.Args,b.good=true:=by
  by_cases e:a.Name=(⟨#[61]⟩:ByteArray)
  ·rw[decide_eq_true e,cond_true,aw,aX] at h
   exact⟨by rw[e]; exact eq_not_var,h.2⟩
  ·rw[decide_eq_false e,cond_false,aw] at h
   refine⟨sym_not_var h.1,?_⟩
   rcases nameCase h.2 with⟨h1,_⟩ | ⟨_,_,_,h4⟩
   ·rw[sym_not_var h.1] at h1; cases h1
   ·exact h4
 have hne:a.Name≠x:=fun e=>by rw[e,hx] at hn; cases hn.1
 rw[sbT_u,decide_eq_false hne,Bool.and_false,cond_false]
 unfold wkA
 rw[bD,bp,aC]
 have hall:(a.Args.map (sbT x t)).all Tt.good=true:=by
  rw[List.all_map,aX]
  exact fun b hb=>sbT_good hg b (hn.2 b hb)
 by_cases e:a.Name=(⟨#[61]⟩:ByteArray)
 ·rw[decide_eq_true e,cond_true] at h ⊢
  rw[aw] at h
  rw[h.1,hall]; rfl
 ·rw[decide_eq_false e,cond_false,aw] at h ⊢
  refine⟨h.1,?_⟩
  have:=h.2
  rw[Tt.good_u,hn.1,cond_false,aw,aw] at this
  rw[Tt.good_u,bD,bp,hn.1,cond_false,aC,hall,this.1.1,this.1.2]; rfl
theorem cnts_le:∀ l:List Tt,(∀ a∈l,a.cnt≤(sbT x t a).cnt)→Tt.cnts l≤Tt.cnts (l.map (sbT x t))
 | [],_=>aM _
 | a::l,h=>by
  have h1:=h a (by simp)
  have h2:=cnts_le l (fun b hb=>h b (by simp[hb]))
  simp only[aF,Tt.cnts]; omega
theorem sb_cnt_ge(a:Tt):a.cnt≤(sbT x t a).cnt:=by
 refine a8 (M:=fun a=>a.cnt≤(sbT x t a).cnt) (fun a ih=>?_) a
 have h1:=cnts_le a.Args ih
 rw[sbT_u]
 cases hc:(a.Args.isEmpty&&decide (a.Name=x))
 ·rw[cond_false,a.cnt_u,Tt.cnt_u,bp]; omega
 ·rw[aw] at hc
  rw[cond_true,a.cnt_u,List.isEmpty_iff.1 hc.1]
  have:=t.cnt_pos
  show 1+0≤_
  omega
theorem deps_ge:∀ l:List Tt,(∀ a∈l,a.dep≤(sbT x t a).dep)→Tt.deps l≤Tt.deps (l.map (sbT x t))
 | [],_=>aM _
 | a::l,h=>by
  have h1:=h a (by simp)
  have h2:=deps_ge l (fun b hb=>h b (by simp[hb]))
  simp only[aF,Tt.deps]; omega
theorem dep_u(a:Tt):a.dep=1+Tt.deps a.Args:=by cases a; rw[Tt.dep]; rfl
theorem sb_dep_ge(a:Tt):a.dep≤(sbT x t a).dep:=by
 refine a8 (M:=fun a=>a.dep≤(sbT x t a).dep) (fun a ih=>?_) a
 have h1:=deps_ge a.Args ih
 rw[sbT_u]
 cases hc:(a.Args.isEmpty&&decide (a.Name=x))
 ·rw[cond_false,dep_u a,dep_u,bp]; omega
 ·rw[aw] at hc
  rw[cond_true,dep_u a,List.isEmpty_iff.1 hc.1,dep_u t]
  show 1+0≤_
  omega
theorem small_sb{a:Tt}(h:smallT (sbT x t a)=true):smallT a=true:=by
 unfold smallT at h ⊢
 simp only[aw,decide_eq_true_eq] at h ⊢
 have h1:=sb_cnt_ge (x:=x) (t:=t) a
 have h2:=sb_dep_ge (x:=x) (t:=t) a
 omega
end
theorem good_fA(a:Tt):(Ft.mk 3 a es []).good=atomT a:=by
 rw[Ft.good_u]
 show((decide ((0:Nat)=0)&&(atomT a&&decide (es=(⟨#[]⟩:ByteArray))))&&true)=_
 simp
theorem good_fN'(p:Ft):(fN p).good=p.good:=by
 cases h:p.good
 ·rw[Ft.good_u]
  show(_&&(p.good&&true))=false
  rw[h]; simp
 ·exact good_fN h
theorem good_fB'{o:Int}(ho:o=5∨o=6∨o=7)(p q:Ft):(fB o p q).good=(p.good&&q.good):=by
 cases h:p.good&&q.good
 ·rw[Ft.good_u]
  show(_&&(p.good&&(q.good&&true)))=false
  rw[Bool.and_true,h,Bool.and_false]
 ·rw[aw] at h
  exact good_fB ho h.1 h.2
/-- Plain formulas whose atoms are as they should be but for their size. -/
inductive Pw:Ft→Prop
 | c (o:Int) (ho:o=1∨o=2):Pw (fC o)
 | a (t:Tt) (h:wkA t=true):Pw (Ft.mk 3 t es [])
 | n (p:Ft) (h:Pw p):Pw (fN p)
 | b (o:Int) (p q:Ft) (ho:o=5∨o=6∨o=7) (h:Pw p) (h':Pw q):Pw (fB o p q)
theorem Pw.pl{f:Ft}(h:Pw f):Pl f:=by
 induction h with
 | c o ho=>exact .c o ho
 | a t h=>exact .a t
 | n p h ih=>exact .n p ih
 | b o p q ho h h' ih ih'=>exact .b o p q ho ih ih'
theorem pw_of{f:Ft}(hp:Pl f):f.good=true→Pw f:=by
 induction hp with
 | c o ho=>exact fun _=>.c o ho
 | a t=>exact fun h=>.a t (by rw[good_fA,atomT_wk,aw] at h; exact h.1)
 | n p h ih=>exact fun hg=>.n p (ih (by rw[good_fN'] at hg; exact hg))
 | b o p q ho h h' ih ih'=>exact fun hg=>by rw[good_fB' ho,aw] at hg; exact .b o p q ho (ih hg.1) (ih' hg.2)
section
variable{x:ByteArray}{t:Tt}
theorem pw_sub(hx:isVarS x=true)(hg:t.good=true){f:Ft}(h:Pw f):Pw (f.sub x t):=by
 induction h with
 | c o ho=>rw[sub_fC ho]; exact .c o ho
 | a a h=>rw[sub_fA]; exact .a _ (wk_sb hx hg h)
 | n p h ih=>rw[sub_fN]; exact .n _ ih
 | b o p q ho h h' ih ih'=>rw[sub_fB ho]; exact .b o _ _ ho ih ih'
theorem good_back{f:Ft}(h:Pw f):(f.sub x t).good=true→f.good=true:=by
 induction h with
 | c o ho=>exact fun _=>good_fC ho
 | a a h=>
  rw[sub_fA,good_fA,good_fA,atomT_wk,atomT_wk,aw]
  rintro ⟨_,h2⟩
  rw[h,small_sb h2]; rfl
 | n p h ih=>rw[sub_fN,good_fN',good_fN']; exact ih
 | b o p q ho h h' ih ih'=>
  rw[sub_fB ho,good_fB' ho,good_fB' ho,aw,aw]
  exact fun ⟨a,b⟩=>⟨ih a,ih' b⟩
theorem keep_pl{f:Ft}(h:Pl f):f.keep x=false:=by
 unfold Ft.keep
 cases h with
 | c o ho=>rcases ho with rfl | rfl<;>rfl
 | a t=>rfl
 | n p h=>rfl
 | b o p q ho h h'=>rcases ho with rfl | rfl | rfl<;>rfl
theorem cf_pl{f:Ft}(h:Pl f):f.cf x t=true:=by
 induction h with
 | c o ho=>rw[Ft.cf_u,keep_pl (.c o ho)]; rcases ho with rfl | rfl<;>rfl
 | a a=>rw[Ft.cf_u,keep_pl (.a a)]; rfl
 | n p h ih=>
  rw[Ft.cf_u,keep_pl (.n p h)]
  show(true&&(p.cf x t&&true))=true
  rw[ih]; rfl
 | b o p q ho h h' ih ih'=>
  rw[Ft.cf_u,keep_pl (.b o p q ho h h')]
  have e1:decide ((fB o p q).Op=3)=false:=decide_eq_false (by show ¬ o=3; omega)
  have e2:isQ (fB o p q).Op=false:=by show isQ o=false; rcases ho with rfl | rfl | rfl<;>rfl
  rw[e1,e2,cond_false,cond_false]
  show(true&&(p.cf x t&&(q.cf x t&&true)))=true
  rw[ih,ih']; rfl
end
theorem pl_ms{al:AL}{f:Ft}(h:Pl f):Pl (msF al f):=by
 induction h with
 | c o ho=>rw[msF_c _ ho]; exact .c o ho
 | a t=>rw[msF_a]; exact .a _
 | n p h ih=>rw[msF_n]; exact .n _ ih
 | b o p q ho h h' ih ih'=>rw[msF_b _ ho]; exact .b o _ _ ho ih ih'
theorem cnt_ms{al:AL}{f:Ft}(h:Pl f):(msF al f).cnt=f.cnt:=by
 induction h with
 | c o ho=>rw[msF_c _ ho]
 | a t=>rw[msF_a,Ft.cnt_u,Ft.cnt_u]; rfl
 | n p h ih=>rw[msF_n,cnt_fN,cnt_fN,ih]
 | b o p q ho h h' ih ih'=>rw[msF_b _ ho,cnt_fB,cnt_fB,ih,ih']
/-! ### one variable after the other -/
def seqOk:AL→Ft→Bool
 | [],_=>true
 | p::al,g=>g.sok p.1 p.2&&seqOk al (g.sub p.1 p.2)
/-- What is known of the terms that are put in. -/
def AOk(al:AL):Prop:=∀ p∈al,isVarS p.1=true∧gndT p.2=true
theorem gnd_u{t:Tt}(h:gndT t=true):goodT t=true∧t.good=true∧t.cnt≤30∧t.vars=[]:=by
 unfold gndT at h
 rw[aw,List.isEmpty_iff] at h
 obtain⟨h1,h2⟩:=goodT_iff h.1
 exact⟨h.1,h1,h2,h.2⟩
theorem back_all:∀ {al:AL},AOk al→∀ {f:Ft},Pw f→(msF al f).good=true→f.good=true
 | [],_,f,h,hg=>by rw[msF_nil h.pl] at hg; exact hg
 | p::al,ha,f,h,hg=>by
  obtain⟨h1,h2⟩:=ha p (by simp)
  obtain⟨_,g2,_,g4⟩:=gnd_u h2
  have hal:AOk al:=fun q hq=>ha q (by simp[hq])
  rw[show p::al=(p.1,p.2)::al from rfl,msF_cons h1 (fun q hq=>(hal q hq).1) g2 g4 h.pl] at hg
  exact good_back h (back_all hal (pw_sub h1 g2 h) hg)
theorem seq_iff:∀ {al:AL},AOk al→∀ {f:Ft},Pl f→f.good=true→seqOk al f=(msF al f).good
 | [],_,f,h,hg=>by rw[msF_nil h,hg]; rfl
 | p::al,ha,f,h,hg=>by
  obtain⟨h1,h2⟩:=ha p (by simp)
  obtain⟨_,g2,_,g4⟩:=gnd_u h2
  have hal:AOk al:=fun q hq=>ha q (by simp[hq])
  have e:=sub_good (n:=p.1) (t:=p.2) f hg (cf_pl h)
  rw[seqOk,show msF (p::al) f=msF al (f.sub p.1 p.2) from msF_cons h1 (fun q hq=>(hal q hq).1) g2 g4 h]
  cases hs:f.sok p.1 p.2
  ·rw[hs] at e
   rw[Bool.false_and]
   symm
   rw[← Bool.not_eq_true]
   intro hg'
   rw[back_all hal (pw_sub h1 g2 (pw_of h hg)) hg'] at e; cases e
  ·rw[Bool.true_and]
   exact seq_iff hal (pl_sub h) (e.trans hs)
/-! ### a joined formula -/
theorem fold_good:∀ (r:List Ft) (x:Ft),(r.foldl (fun a f=>fB 6 f a) x).good=true→x.good=true∧∀ f∈r,f.good=true
 | [],x,h=>⟨h,fun f hf=>nomatch hf⟩
 | f::r,x,h=>by
  obtain⟨h1,h2⟩:=fold_good r (fB 6 f x) h
  rw[good_fB' (.inr (.inl rfl)),aw] at h1
  refine⟨h1.2,fun g hg=>?_⟩
  rcases List.mem_cons.1 hg with rfl | hg
  ·exact h1.1
  ·exact h2 g hg
theorem fold_cnt:∀ (r:List Ft) (x:Ft),x.cnt≤(r.foldl (fun a f=>fB 6 f a) x).cnt∧∀ f∈r,f.cnt≤(r.foldl (fun a f=>fB 6 f a) x).cnt
 | [],x=>⟨aM _,fun f hf=>nomatch hf⟩
 | f::r,x=>by
  obtain⟨h1,h2⟩:=fold_cnt r (fB 6 f x)
  rw[cnt_fB] at h1
  refine⟨by rw[List.foldl_cons]; omega,fun g hg=>?_⟩
  rcases List.mem_cons.1 hg with rfl | hg
  ·rw[List.foldl_cons]; omega
  ·exact h2 g hg
theorem join_valid{l:List Ft}(h:validF (joinF 6 l (fC 2))=true):∀ f∈l,validF f=true:=by
 intro f hf
 unfold joinF at h
 have hr:f∈l.reverse:=List.mem_reverse.2 hf
 cases e:l.reverse with
 | nil=>rw[e] at hr; cases hr
 | cons x r=>
  rw[e] at h hr
  obtain⟨h1,h2⟩:=validF_iff h
  obtain⟨g1,g2⟩:=fold_good r x h2
  obtain⟨c1,c2⟩:=fold_cnt r x
  unfold validF
  rcases List.mem_cons.1 hr with rfl | hr
  ·rw[g1,decide_eq_true (Nat.le_trans c1 h1)]; rfl
  ·rw[g2 f hr,decide_eq_true (Nat.le_trans (c2 f hr) h1)]; rfl
theorem fold_fine6{k:Nat}:∀ (r:List Ft) (x:Ft) (m:Nat),x.Ok→x.tot≤m→(∀ f∈r,f.Ok∧f.tot≤k)→(r.foldl (fun a f=>fB 6 f a) x).Ok∧(r.foldl (fun a f=>fB 6 f a) x).tot≤m+(k+2)*r.length
 | [],x,m,h1,h2,_=>⟨h1,by simpa using h2⟩
 | f::r,x,m,h1,h2,h=>by
  obtain⟨k1,k2⟩:=h f (by simp)
  obtain⟨g1,g2⟩:=fold_fine6 r (fB 6 f x) (m+(k+2)) (ok_fB (.inr (.inl rfl)) k1 h1) (by rw[tot_fB]; omega) (fun y hy=>h y (by simp[hy]))
  refine⟨g1,?_⟩
  rw[aG,Nat.mul_add,Nat.mul_one]
  rw[List.foldl_cons]; omega
theorem join_fine6{k:Nat}{l:List Ft}(h:∀ f∈l,f.Ok∧f.tot≤k):(joinF 6 l (fC 2)).Ok∧(joinF 6 l (fC 2)).tot≤(k+2)*l.length:=by
 unfold joinF
 cases e:l.reverse with
 | nil=>exact⟨ok_fC (.inr rfl),by rw[tot_fC]; omega⟩
 | cons x r=>
  have hm:∀ f∈x::r,f.Ok∧f.tot≤k:=fun f hf=>h f (by rw[← List.mem_reverse,e]; exact hf)
  obtain⟨g1,g2⟩:=fold_fine6 r x k (hm x (by simp)).1 (hm x (by simp)).2 (fun f hf=>hm f (by simp[hf]))
  have:l.length=r.length+1:=by rw[← List.length_reverse,e,aG]
  refine⟨g1,?_⟩
  rw[this,Nat.mul_add,Nat.mul_one]
  show(r.foldl (fun a f=>fB 6 f a) x).tot≤_
  omega
/-! ### an instance is not too large -/
theorem tots_ms{al:AL}:∀ l:List Tt,(∀ a∈l,(msT al a).tot+1≤211*(a.tot+1))→ltot aU (l.map (msT al))≤211*ltot aU l
 | [],_=>by simp[ltot]
 | a::l,h=>by
  have h1:=h a (by simp)
  have h2:=tots_ms l (fun b hb=>h b (by simp[hb]))
  simp only[ltot,aF,bw,aG] at h2 ⊢
  omega
theorem tot_msT{al:AL}(ha:AOk al)(a:Tt):(msT al a).tot+1≤211*(a.tot+1):=by
 refine a8 (M:=fun a=>(msT al a).tot+1≤211*(a.tot+1)) (fun a ih=>?_) a
 have h1:=tots_ms a.Args ih
 rw[msT_u]
 by_cases c:a.Args.isEmpty=true∧(lk al a.Name).isSome=true
 ·rw[if_pos c]
  cases e:lk al a.Name with
  | none=>rw[e] at c; cases c.2
  | some u=>
   have:=(goodT_Ok (gnd_u (ha _ (lk_mem e)).2).1).1
   show u.tot+1≤_
   simp only at this
   omega
 ·rw[if_neg c,Tt.tot_mk,a.tot_u]; omega
theorem fine_ms{al:AL}(ha:AOk al){f:Ft}(h:Pl f):f.good=true→(msF al f).Ok∧(msF al f).tot+1≤211*(f.tot+1):=by
 induction h with
 | c o ho=>intro _; rw[msF_c _ ho]; exact⟨ok_fC ho,by omega⟩
 | a t=>
  intro hg
  rw[good_fA] at hg
  rw[msF_a]
  have e1:(Ft.mk 3 t es []).tot=t.tot:=by rw[Ft.tot_mk]; simp[ltot]; rfl
  have e2:(Ft.mk 3 (msT al t) es []).tot=(msT al t).tot:=by rw[Ft.tot_mk]; simp[ltot]; rfl
  have h1:=tot_msT ha t
  have h2:=tiny_tot _ (atom_tiny hg)
  have h3:=(atomT_ok hg).cnt
  rw[e1,e2]
  exact⟨.mk _ _ _ _ (by simp only[InR]; omega) (Tt.Ok_of _ (by omega)) ok_es (by simp[Big]) (by simp),h1⟩
 | n p h ih=>
  intro hg
  rw[good_fN'] at hg
  obtain⟨g1,g2⟩:=ih hg
  rw[msF_n,tot_fN,tot_fN]
  exact⟨ok_fN g1,by omega⟩
 | b o p q ho h h' ih ih'=>
  intro hg
  rw[good_fB' ho,aw] at hg
  obtain⟨g1,g2⟩:=ih hg.1
  obtain⟨g3,g4⟩:=ih' hg.2
  rw[msF_b _ ho,tot_fB,tot_fB]
  exact⟨ok_fB ho g1 g3,by omega⟩
end
section
/-! ### the disjunction -/
def tupOk(ns:List ByteArray)(ts:List Tt):Bool:=decide (ts.length=ns.length)&&ts.all gndT
def insF(ns:List ByteArray)(b:Ft)(ts:List Tt):Ft:=msF (ns.zip ts) b
def disD(ns:List ByteArray)(b:Ft)(l:List (List Tt)):Ft:=joinF 6 (l.map (insF ns b)) (fC 2)
def zFo:Ft×Bool:=(Ft.mk (0:Int) (Tt.mk (⟨#[]⟩:ByteArray) ([])) (⟨#[]⟩:ByteArray) ([]),false)
def disR(ns:List ByteArray)(b:Ft)(l:List (List Tt)):Ft×Bool:=bif l.all (tupOk ns)&&validF (disD ns b l) then(disD ns b l,true) else zFo
/-- What is known of the tuples. -/
def TOk(ts:List Tt):Prop:=LOk Tt.Ok ts∧∀ a∈ts,a.tot≤1048576
theorem gate_loop{α ρ:Type}(r0:ρ)(S:α→Ft)(q:α→Bool)(body:Nat→α→List Ft→Option (Flow ρ (List Ft))):∀ (l:List α) (i:Nat) (acc:List Ft),(∀ a∈l,∀ i s,s.length≤2000000→body i a s=some (bif q a then .nx (s++[S a]) else .rt r0))→acc.length+l.length≤2000000→
 forL body l i acc=some (bif l.all q then .inr (acc++l.map S) else .inl r0)
 | [],i,acc,_,_=>by rw[forL_nil]; simp
 | a::l,i,acc,h,hb=>by
  rw[aG] at hb
  have h1:=h a (by simp) i acc (by omega)
  rw[bH]
  cases hq:q a
  ·rw[forL_rt (r:=r0) (by rw[h1,hq]; rfl)]; rfl
  ·rw[forL_nx (s':=acc++[S a]) (by rw[h1,hq]; rfl),gate_loop r0 S q body l (i+1) _ (fun x hx=>h x (by simp[hx])) (by simp; omega),Bool.true_and,aF,aS]
   rfl
theorem gate_forN{α ρ:Type}(r0:ρ)(S:α→Ft)(q:α→Bool)(l:List α)(F:Nat→List Ft→Option (Flow ρ (List Ft)))(h:∀ j,j<l.length→∀ a,l[j]?=some a→∀ s,s.length≤2000000→F j s=some (bif q a then .nx (s++[S a]) else .rt r0)):∀ (k i:Nat) (acc:List Ft),i+k=l.length→acc.length+k≤2000000→
 forN F k i acc=some (bif (l.drop i).all q then .inr (acc++(l.drop i).map S) else .inl r0)
 | 0,i,acc,hi,hb=>by
  rw[List.drop_of_length_le (by omega),forN_zero]; simp
 | k+1,i,acc,hi,hb=>by
  have hi':i<l.length:=by omega
  rw[List.drop_eq_getElem_cons hi',bH]
  have h1:=h i hi' l[i] (List.getElem?_eq_getElem hi') acc (by omega)
  cases hq:q l[i]
  ·rw[forN_rt (r:=r0) (by rw[h1,hq]; rfl)]; rfl
  ·rw[forN_nx (s':=acc++[S l[i]]) (by rw[h1,hq]; rfl),gate_forN r0 S q l F h k (i+1) _ (by omega) (by simp; omega),Bool.true_and,aF,aS]
   rfl
section
variable{f:Ft}{ns:List ByteArray}{b:Ft}
theorem Hb.bval(h:Hb f ns b):validF b=true:=by
 unfold validF
 rw[h.bg,decide_eq_true (by have:=h.bc; omega)]; rfl
theorem Hb.pl'(h:Hb f ns b):Pl b:=pl_of b h.bg h.pl
theorem tup_u{ts:List Tt}(h:tupOk ns ts=true):ts.length=ns.length∧∀ a∈ts,gndT a=true:=by
 unfold tupOk at h
 rw[aw,decide_eq_true_iff,aX] at h
 exact h
theorem zip_ok(h:Hb f ns b){ts:List Tt}(ht:tupOk ns ts=true):AOk (ns.zip ts):=fun p hp=>by
 obtain⟨h1,h2⟩:=tup_u ht
 have:=List.of_mem_zip (show(p.1,p.2)∈ns.zip ts from hp)
 exact⟨h.vr _ this.1,h2 _ this.2⟩
theorem ins_fine(h:Hb f ns b){ts:List Tt}(ht:tupOk ns ts=true):(insF ns b ts).Ok∧(insF ns b ts).tot≤2000000:=by
 obtain⟨g1,g2⟩:=fine_ms (zip_ok h ht) h.pl' h.bg
 have:=h.bt
 refine⟨g1,?_⟩
 unfold insF; omega
theorem ins_val(h:Hb f ns b){ts:List Tt}(ht:tupOk ns ts=true):seqOk (ns.zip ts) b=validF (insF ns b ts):=by
 rw[seq_iff (zip_ok h ht) h.pl' h.bg]
 unfold validF insF
 rw[cnt_ms h.pl',decide_eq_true (by have:=h.bc; omega)]; rfl
/-! The program's. -/
theorem not_ground(a:Tt)(h:a.tot≤1048576)(hok:a.Ok):impl_HerbrandDisjunction_1 a=some (!gndT a):=by
 unfold impl_HerbrandDisjunction_1
 rw[isGround_eq a (by omega) hok]; rfl
theorem impl_body(h:Hb f ns b){ts:List Tt}(ht:TOk ts){s:List Ft}(hs:s.length≤2000000):
 (bif decide ((ts.length:Int)=(ns.length:Int)) then
  aa (slices_ContainsFunc_Simpl_Term_impl_Term ts (fun y0=>impl_HerbrandDisjunction_1 y0)) fun v37=>
  bif v37 then
   some (.rt zFo)
  else
   thenL (ρ:=(Flow (Ft×Bool) (List Ft))) (σ:=(GMap Tt)) (forN (fun (i12:Nat) (s12:(GMap Tt))=>
    aa (idx ns (i12:Int)) fun v46=>
    aa (idx ns (i12:Int)) fun v47=>
    aa (idx ts (i12:Int)) fun v52=>
    some (.nx (GMap.put s12 v47 v52))) ns.length 0 (GMap.empty:GMap Tt)) fun s12=>
   aa (impl_instance b s12) fun v58=>
   aa (app s ([v58])) fun v60=>
   some (.nx v60)
  else
   some (.rt zFo))=some (bif tupOk ns ts then .nx (s++[insF ns b ts]) else .rt zFo):=by
 by_cases hl:ts.length=ns.length
 ·rw[decide_eq_true (show(ts.length:Int)=(ns.length:Int) by omega),cond_true,contF (p:=gndT) ts (fun a ha=>not_ground a (ht.2 a ha) (ht.1.2 a ha)),ap]
  cases hg:ts.all gndT
  ·unfold tupOk; rw[hg,Bool.and_false]; rfl
  ·have hto:tupOk ns ts=true:=by unfold tupOk; rw[hg,decide_eq_true hl]; rfl
   have hn:((ns.zip ts).map (·.1)).Nodup:=by rw[List.map_fst_zip (by omega)]; exact h.nd
   have hi:impl_instance b (mkM (ns.zip ts))=some (insF ns b ts):=lim_eq ⟨_,inst_eq (mkM_MR hn) (fun p hp=>by have:=(gnd_u (zip_ok h hto p hp).2).2.2.1; omega) h.pl' h.bg⟩
   rw[put_loop hl,thenL_inr]
   show aa (impl_instance b (mkM (ns.zip ts))) _=_
   rw[hi,ap,hto]
   have:app s [insF ns b ts]=some (s++[insF ns b ts]):=by unfold app; rw[if_pos (by simp; omega)]
   rw[this]; rfl
 ·rw[decide_eq_false (show ¬ (ts.length:Int)=(ns.length:Int) by omega)]
  have:tupOk ns ts=false:=by unfold tupOk; rw[decide_eq_false hl]; rfl
  rw[this]; rfl
theorem D_fine(h:Hb f ns b){l:List (List Tt)}(hl:l.length≤1048576)(ht:l.all (tupOk ns)=true):(disD ns b l).Ok∧(disD ns b l).tot≤10000000000000:=by
 rw[aX] at ht
 obtain⟨g1,g2⟩:=join_fine6 (k:=2000000) (l:=l.map (insF ns b)) (fun f hf=>by
  obtain⟨ts,hts,rfl⟩:=List.mem_map.1 hf
  exact ins_fine h (ht ts hts))
 refine⟨g1,Nat.le_trans g2 ?_⟩
 rw[aC]
 have:=Nat.mul_le_mul_left (2000000+2) hl
 omega
theorem dis_impl(h:Hb f ns b)(hH:impl_IsHerbrandFormula f=some true){l:List (List Tt)}(hl:l.length≤1048576)(ht:∀ ts∈l,TOk ts):impl_HerbrandDisjunction f l=some (disR ns b l):=by
 unfold impl_HerbrandDisjunction disR
 rw[hH,ap,cond_true,h.io,ap]
 have e:=(forN_idx (ρ:=Ft×Bool) l (fun _ ts (s:List Ft)=>bif decide ((ts.length:Int)=(ns.length:Int)) then
  aa (slices_ContainsFunc_Simpl_Term_impl_Term ts (fun y0=>impl_HerbrandDisjunction_1 y0)) fun v37=>
  bif v37 then
   some (.rt zFo)
  else
   thenL (ρ:=(Flow (Ft×Bool) (List Ft))) (σ:=(GMap Tt)) (forN (fun (i12:Nat) (s12:(GMap Tt))=>
    aa (idx ns (i12:Int)) fun v46=>
    aa (idx ns (i12:Int)) fun v47=>
    aa (idx ts (i12:Int)) fun v52=>
    some (.nx (GMap.put s12 v47 v52))) ns.length 0 (GMap.empty:GMap Tt)) fun s12=>
   aa (impl_instance b s12) fun v58=>
   aa (app s ([v58])) fun v60=>
   some (.nx v60)
  else
   some (.rt zFo)) []).trans (gate_loop zFo (insF ns b) (tupOk ns) _ l 0 [] (fun ts hts i s hs=>impl_body h (ht ts hts) hs) (by simp; omega))
 refine(congrArg (fun z=>thenL z _) e).trans ?_
 cases ha:l.all (tupOk ns)
 ·rfl
 ·obtain⟨d1,d2⟩:=D_fine h hl ha
  rw[cond_true,thenL_inr,bA,Bool.true_and]
  show aa (impl_ifFormula (disD ns b l)) _=_
  unfold impl_ifFormula
  rw[validF_impl _ d2 d1,ap]
  cases validF (disD ns b l)<;>rfl
/-! The reference's. -/
theorem seq_loop{ρ:Type}(r0:ρ){l:List (List Tt)}{i6:Nat}{ts:List Tt}(hrow:idx l (i6:Int)=some ts)(hlen:ts.length=ns.length):∀ (k i:Nat) (g:Ft),i+k=ns.length→AOk ((ns.zip ts).drop i)→Pl g→validF g=true→
 ∃ z,forN (ρ:=ρ) (fun (i13:Nat) (s13:Ft×Bool)=>
  bif s13.2 then
   aa (idx ns (i13:Int)) fun v61=>
   aa (idx l (i6:Int)) fun v65=>
   aa (idx v65 (i13:Int)) fun v68=>
   aa (spec_l8Put s13.1 v61 v68) fun v70=>
   some (.nx (v70.1,v70.2))
  else
   some (.rt r0)) k i (g,true)=some z∧(seqOk ((ns.zip ts).drop i) g=true→z=.inr (msF ((ns.zip ts).drop i) g,true))∧(seqOk ((ns.zip ts).drop i) g=false→z=.inl r0∨∃ g',z=.inr (g',false))
 | 0,i,g,hi,ha,hp,hv=>by
  have:(ns.zip ts).drop i=[]:=List.drop_of_length_le (by rw[List.length_zip]; omega)
  rw[this]
  exact⟨_,rfl,(fun _=>by rw[msF_nil hp]),(fun e=>nomatch e)⟩
 | k+1,i,g,hi,ha,hp,hv=>by
  have hz:i<(ns.zip ts).length:=by rw[List.length_zip]; omega
  have hd:(ns.zip ts).drop i=(ns[i]'(by omega),ts[i]'(by omega))::(ns.zip ts).drop (i+1):=by rw[List.drop_eq_getElem_cons hz,List.getElem_zip]
  rw[hd] at ha ⊢
  obtain⟨a1,a2⟩:=ha _ List.mem_cons_self
  obtain⟨t1,t2,t3,t4⟩:=gnd_u a2
  have hal:AOk ((ns.zip ts).drop (i+1)):=fun q hq=>ha q (List.mem_cons_of_mem _ hq)
  obtain⟨v1,v2⟩:=validF_iff hv
  have v3:=validF_tot hv
  obtain⟨r,r1,r2,r3⟩:=spec_put a1 t2 (goodT_Ok t1).2 t3 (validF_Ok hv) v2 (by omega) (by omega)
  have step:(fun (i13:Nat) (s13:Ft×Bool)=>
   bif s13.2 then
    aa (idx ns (i13:Int)) fun v61=>
    aa (idx l (i6:Int)) fun v65=>
    aa (idx v65 (i13:Int)) fun v68=>
    aa (spec_l8Put s13.1 v61 v68) fun v70=>
    some (Flow.nx (v70.1,v70.2))
   else
    some (Flow.rt (ρ:=ρ) r0)) i (g,true)=some (.nx (r.1,r.2)):=by
   show aa (idx ns (i:Int)) _=_
   rw[idx_nat,List.getElem?_eq_getElem (show i<ns.length by omega),ap,hrow,ap,idx_nat,List.getElem?_eq_getElem (show i<ts.length by omega),ap]
   show aa (spec_l8Put g _ _) _=_
   rw[r1]; rfl
  rw[forN_nx step,seqOk]
  cases hr:r.2
  ·rw[hr] at r2
   rw[← r2,Bool.false_and]
   cases k with
   | zero=>exact⟨_,rfl,(fun e=>nomatch e),(fun _=>.inr ⟨r.1,rfl⟩)⟩
   | succ k=>exact⟨_,forN_rt (r:=r0) rfl,(fun e=>nomatch e),(fun _=>.inl rfl)⟩
  ·rw[hr] at r2
   have hv':validF (g.sub (ns[i]'(by omega)) (ts[i]'(by omega)))=true:=by rw[sub_valid hv (cf_pl hp),← r2]
   obtain⟨z,z1,z2,z3⟩:=seq_loop r0 hrow hlen k (i+1) _ (by omega) hal (pl_sub hp) hv'
   rw[← r2,Bool.true_and,r3 hr,msF_cons a1 (fun q hq=>(hal q hq).1) t2 t4 hp]
   exact⟨z,z1,z2,z3⟩
theorem spec_body(h:Hb f ns b){l:List (List Tt)}{i:Nat}{ts:List Tt}(hrow:idx l (i:Int)=some ts)(ht:TOk ts){s:List Ft}(hs:s.length≤2000000):
 (aa (idx l (i:Int)) fun v32=>
  bif decide ((v32.length:Int)=(ns.length:Int)) then
   aa (idx l (i:Int)) fun v41=>
   aa (spec_l16Terms v41) fun v43=>
   bif v43 then
    thenL (ρ:=(Flow (Ft×Bool) (List Ft))) (σ:=Ft×Bool) (forN (fun (i13:Nat) (s13:Ft×Bool)=>
     bif s13.2 then
      aa (idx ns (i13:Int)) fun v61=>
      aa (idx l (i:Int)) fun v65=>
      aa (idx v65 (i13:Int)) fun v68=>
      aa (spec_l8Put s13.1 v61 v68) fun v70=>
      some (.nx (v70.1,v70.2))
     else
      some (.rt (.rt zFo))) ns.length 0 (b,true)) fun s13=>
    bif s13.2 then
     aa (spec_l8Good s13.1) fun v77=>
     bif v77 then
      aa (app s ([s13.1])) fun v84=>
      some (.nx v84)
     else
      some (.rt zFo)
    else
     some (.rt zFo)
   else
    some (.rt zFo)
  else
   some (.rt zFo))=some (bif tupOk ns ts&&seqOk (ns.zip ts) b then .nx (s++[insF ns b ts]) else .rt zFo):=by
 rw[hrow,ap]
 by_cases hl:ts.length=ns.length
 ·rw[decide_eq_true (show(ts.length:Int)=(ns.length:Int) by omega),cond_true,ap,l16_spec ht.1 (fun a ha=>by have:=ht.2 a ha; omega) (by have:=h.bc; omega),ap]
  cases hg:ts.all gndT
  ·unfold tupOk; rw[hg,Bool.and_false]; rfl
  ·have hto:tupOk ns ts=true:=by unfold tupOk; rw[hg,decide_eq_true hl]; rfl
   obtain⟨z,z1,z2,z3⟩:=seq_loop (ρ:=Flow (Ft×Bool) (List Ft)) (.rt zFo) hrow hl ns.length 0 b (by omega) (by rw[List.drop_zero]; exact zip_ok h hto) h.pl' h.bval
   rw[List.drop_zero] at z2 z3
   rw[hrow] at z1
   rw[cond_true,z1,hto,Bool.true_and]
   have hiv:=ins_val h hto
   cases hsq:seqOk (ns.zip ts) b
   ·rcases z3 hsq with rfl | ⟨g',rfl⟩
    ·rfl
    ·rfl
   ·rw[z2 hsq,thenL_inr]
    rw[hsq] at hiv
    obtain⟨g1,g2⟩:=ins_fine h hto
    show aa (spec_l8Good (insF ns b ts)) _=_
    rw[validF_spec _ (by omega) g1,← hiv,ap,cond_true]
    have:app s [insF ns b ts]=some (s++[insF ns b ts]):=by unfold app; rw[if_pos (by simp; omega)]
    show aa (app s [insF ns b ts]) _=_
    rw[this]; rfl
 ·rw[decide_eq_false (show ¬ (ts.length:Int)=(ns.length:Int) by omega)]
  have:tupOk ns ts=false:=by unfold tupOk; rw[decide_eq_false hl]; rfl
  rw[this]; rfl
theorem dis_spec(h:Hb f ns b)(hH:spec_l16Formula f=some true){l:List (List Tt)}(hl:l.length≤1048576)(ht:∀ ts∈l,TOk ts):spec_l16Disjunction f l=some (disR ns b l):=by
 unfold spec_l16Disjunction disR
 rw[hH,ap,cond_true,h.so,ap]
 have e:=gate_forN (ρ:=Ft×Bool) zFo (insF ns b) (fun ts=>tupOk ns ts&&seqOk (ns.zip ts) b) l (fun i6 s6=>aa (idx l (i6:Int)) fun v32=>
  bif decide ((v32.length:Int)=(ns.length:Int)) then
   aa (idx l (i6:Int)) fun v41=>
   aa (spec_l16Terms v41) fun v43=>
   bif v43 then
    thenL (ρ:=(Flow (Ft×Bool) (List Ft))) (σ:=Ft×Bool) (forN (fun (i13:Nat) (s13:Ft×Bool)=>
     bif s13.2 then
      aa (idx ns (i13:Int)) fun v61=>
      aa (idx l (i6:Int)) fun v65=>
      aa (idx v65 (i13:Int)) fun v68=>
      aa (spec_l8Put s13.1 v61 v68) fun v70=>
      some (.nx (v70.1,v70.2))
     else
      some (.rt (.rt zFo))) ns.length 0 (b,true)) fun s13=>
    bif s13.2 then
     aa (spec_l8Good s13.1) fun v77=>
     bif v77 then
      aa (app s6 ([s13.1])) fun v84=>
      some (.nx v84)
     else
      some (.rt zFo)
    else
     some (.rt zFo)
   else
    some (.rt zFo)
  else
   some (.rt zFo)) (fun j hj ts hts s hs=>spec_body h (by rw[idx_nat]; exact hts) (ht ts (List.mem_of_getElem? hts)) hs) l.length 0 [] (by omega) (by simp; omega)
 refine(congrArg (fun z=>thenL z _) e).trans ?_
 rw[List.drop_zero,bA]
 cases hq:l.all (fun ts=>tupOk ns ts&&seqOk (ns.zip ts) b)
 ·have hD:(l.all (tupOk ns)&&validF (disD ns b l))=false:=by
   rw[← Bool.not_eq_true,aw]
   rintro ⟨h1,h2⟩
   rw[← Bool.not_eq_true] at hq
   refine hq (List.all_eq_true.2 fun ts hts=>?_)
   have h3:=List.all_eq_true.1 h1 ts hts
   rw[h3,ins_val h h3,join_valid h2 _ (List.mem_map.2 ⟨ts,hts,rfl⟩)]; rfl
  rw[hD]; rfl
 ·have ha:l.all (tupOk ns)=true:=by
   rw[aX] at hq ⊢
   intro ts hts
   have:=hq ts hts
   rw[aw] at this
   exact this.1
  obtain⟨d1,d2⟩:=D_fine h hl ha
  rw[cond_true,thenL_inr,joined_eq (fun g hg=>by
   obtain⟨ts,hts,rfl⟩:=List.mem_map.1 hg
   have:=List.all_eq_true.1 hq ts hts
   rw[aw] at this
   have hv:=this.2
   rw[ins_val h this.1] at hv
   have:=validF_tot hv
   omega) (by rw[aC]; exact hl),ap,ha,Bool.true_and]
  show aa (spec_l8Good (disD ns b l)) _=_
  rw[validF_spec _ d2 d1,ap]
  cases validF (disD ns b l)<;>rfl
end
/-- Both, whatever they are handed. -/
theorem dis_both{f:Ft}(hok:f.Ok)(ht:f.tot≤1048576){l:List (List Tt)}(hl:l.length≤1048576)(hT:∀ ts∈l,TOk ts):
 (∃ ns b,Hb f ns b∧∀ l:List (List Tt),l.length≤1048576→(∀ ts∈l,TOk ts)→spec_l16Disjunction f l=some (disR ns b l)∧impl_HerbrandDisjunction f l=some (disR ns b l))∨∀ l:List (List Tt),spec_l16Disjunction f l=some zFo∧impl_HerbrandDisjunction f l=some zFo:=by
 obtain⟨B,h1,h2,h3⟩:=herb_eq hok (show f.tot≤10000000000000 by omega)
 cases B
 ·right
  intro l
  unfold spec_l16Disjunction impl_HerbrandDisjunction
  rw[h1,h2]; exact⟨rfl,rfl⟩
 ·left
  obtain⟨ns,b,hb⟩:=h3 rfl
  exact⟨ns,b,hb,fun l hl hT=>⟨dis_spec hb h1 hl hT,dis_impl hb h2 hl hT⟩⟩
end
section
/-! ### truth of plain formulas -/
def trO(o:Int)(a:Bool)(l:List Bool):Bool:=
 if o=1 then true else if o=3 then a else if o=4 then !l.getD 0 false else if o=5 then l.getD 0 false&&l.getD 1 false else if o=6 then l.getD 0 false||l.getD 1 false else if o=7 then !l.getD 0 false||l.getD 1 false else false
mutual
def Ft.tr(v:Tt→Bool):Ft→Bool
 | .mk o a _ ps=>trO o (v a) (Ft.trs v ps)
def Ft.trs(v:Tt→Bool):List Ft→List Bool
 | []=>[]
 | f::l=>f.tr v::Ft.trs v l
end
section
variable(v:Tt→Bool)(p q:Ft)
theorem tr_a(t:Tt):(Ft.mk 3 t es []).tr v=v t:=rfl
theorem tr_n:(fN p).tr v=!p.tr v:=rfl
theorem tr_5:(fB 5 p q).tr v=(p.tr v&&q.tr v):=rfl
theorem tr_6:(fB 6 p q).tr v=(p.tr v||q.tr v):=rfl
theorem tr_7:(fB 7 p q).tr v=(!p.tr v||q.tr v):=rfl
end
theorem ats_c{o:Int}(ho:o=1∨o=2):(fC o).ats=[]:=by rcases ho with rfl | rfl<;>rfl
theorem ats_a(t:Tt):(Ft.mk 3 t es []).ats=[t]:=rfl
theorem ats_n(p:Ft):(fN p).ats=p.ats:=by
 rw[Ft.ats_u]; show p.ats++[]=_; rw[bj]
theorem ats_b{o:Int}(ho:o=5∨o=6∨o=7)(p q:Ft):(fB o p q).ats=p.ats++q.ats:=by
 rw[Ft.ats_u,show decide ((fB o p q).Op=3)=false from decide_eq_false (by show ¬ o=3; omega),cond_false]
 show p.ats++(q.ats++[])=_; rw[bj]
theorem tr_congr{v w:Tt→Bool}{f:Ft}(h:Pl f):(∀ a∈f.ats,v a=w a)→f.tr v=f.tr w:=by
 induction h with
 | c o ho=>intro _; rcases ho with rfl | rfl<;>rfl
 | a t=>intro h; rw[tr_a,tr_a,h t (by rw[ats_a]; simp)]
 | n p h ih=>intro h; rw[ats_n] at h; rw[tr_n,tr_n,ih h]
 | b o p q ho h h' ih ih'=>
  intro h
  rw[ats_b ho] at h
  have e1:=ih (fun a ha=>h a (by simp[ha]))
  have e2:=ih' (fun a ha=>h a (by simp[ha]))
  rcases ho with rfl | rfl | rfl
  ·rw[tr_5,tr_5,e1,e2]
  ·rw[tr_6,tr_6,e1,e2]
  ·rw[tr_7,tr_7,e1,e2]
theorem ats_good{f:Ft}(h:Pl f):f.good=true→∀ a∈f.ats,atomT a=true:=by
 induction h with
 | c o ho=>intro _ a ha; rw[ats_c ho] at ha; cases ha
 | a t=>intro hg a ha; rw[ats_a,List.mem_singleton] at ha; rw[ha,← good_fA]; exact hg
 | n p h ih=>intro hg; rw[good_fN'] at hg; rw[ats_n]; exact ih hg
 | b o p q ho h h' ih ih'=>
  intro hg a ha
  rw[good_fB' ho,aw] at hg
  rw[ats_b ho,aT] at ha
  exact ha.elim (ih hg.1 a) (ih' hg.2 a)
theorem ats_cnt{f:Ft}(h:Pl f):f.ats.length≤f.cnt:=by
 induction h with
 | c o ho=>rw[ats_c ho]; exact Nat.zero_le _
 | a t=>rw[ats_a,Ft.cnt_u,List.length_singleton]; omega
 | n p h ih=>rw[ats_n,cnt_fN]; omega
 | b o p q ho h h' ih ih'=>rw[ats_b ho,cnt_fB,aV]; omega
theorem ct_atom{a:Tt}(h:atomT a=true):CT a:=by
 have h2:=tiny_tot _ (atom_tiny h)
 have h3:=(atomT_ok h).cnt
 exact⟨Tt.Ok_of _ (by omega),cg_atom h⟩
/-! ### the first that fits -/
theorem find_ix{α:Type}{F:α→Option Bool}{p:α→Bool}(l:List α)(h:∀ x∈l,F x=some (p x)):
 thenL (ρ:=Int) (σ:=Unit) (forN (fun (i:Nat) (_:Unit)=>aa (idx l (i:Int)) fun v=>aa (F v) fun b=>bif b then some (.rt (i:Int)) else some (.nx ())) l.length 0 ()) (fun _=>some (-1:Int))=some (if l.findIdx p<l.length then(l.findIdx p:Int) else -1):=by
 have key:∀ (l:List α) (i:Nat),(∀ x∈l,F x=some (p x))→thenL (ρ:=Int) (σ:=Unit) (forL (fun (i:Nat) v (_:Unit)=>aa (F v) fun b=>bif b then some (.rt (i:Int)) else some (.nx ())) l i ()) (fun _=>some (-1:Int))=some (if l.findIdx p<l.length then((i+l.findIdx p:Nat):Int) else -1):=by
  intro l
  induction l with
  | nil=>intro i _; rfl
  | cons a l ih=>
   intro i h
   have h1:=h a (by simp)
   rw[List.findIdx_cons,aG]
   cases hp:p a
   ·rw[forL_nx (s':=()) (by rw[h1,ap,hp]; rfl),ih (i+1) (fun x hx=>h x (by simp[hx])),cond_false]
    by_cases c:l.findIdx p<l.length
    ·rw[if_pos c,if_pos (by omega),show i+1+l.findIdx p=i+(l.findIdx p+1) by omega]
    ·rw[if_neg c,if_neg (by omega)]
   ·rw[forL_rt (r:=(i:Int)) (by rw[h1,ap,hp]; rfl),thenL_inl,cond_true,if_pos (by omega)]; rfl
 rw[forN_idx l (fun (i:Nat) v (_:Unit)=>aa (F v) fun b=>bif b then some (.rt (i:Int)) else some (.nx ())) (),key l 0 h]
 simp
noncomputable def ixT(l:List Tt)(a:Tt):Nat:=l.findIdx (fun y=>same y a)
theorem ixT_lt{l:List Tt}{a:Tt}(h:a∈l):ixT l a<l.length:=List.findIdx_lt_length_of_exists ⟨a,h,same_iff.2 rfl⟩
theorem ixT_get{l:List Tt}{a:Tt}(h:a∈l):l[ixT l a]'(ixT_lt h)=a:=same_iff.1 (List.findIdx_getElem (p:=fun y=>same y a) (w:=ixT_lt h))
theorem ix_spec{l:List Tt}{a:Tt}(h:a∈l):spec_l16Index l a=some (ixT l a:Int):=by
 unfold spec_l16Index
 rw[find_ix (F:=fun y=>spec_l2Same y a) (p:=fun y=>same y a) l (fun x _=>l2Same_ok x a)]
 exact congrArg some (if_pos (ixT_lt h))
theorem ix_impl{l:List Tt}{a:Tt}(h:a∈l):impl_indexOfAtom l a=some (ixT l a:Int):=by
 unfold impl_indexOfAtom slices_IndexFunc_Simpl_Term_impl_Term
 rw[find_ix (F:=fun y=>impl_indexOfAtom_1 y a) (p:=fun y=>same y a) l (fun x _=>by unfold impl_indexOfAtom_1; rw[EqualTerms_ok]; rfl)]
 exact congrArg (fun z=>aa (some z) _) (if_pos (ixT_lt h))
noncomputable def vm(l:List Tt)(m:Nat)(a:Tt):Bool:=m.testBit (ixT l a)
theorem wrapU{n:Nat}(h:n≤1000):IntKind.u64.wrap (n:Int)=(n:Int):=by
 show(n:Int).emod _=_
 exact Int.emod_eq_of_lt (by omega) (by show(n:Int)<18446744073709551616; omega)
theorem bit_impl{l:List Tt}{a:Tt}{m:Nat}(h:a∈l)(hl:l.length≤40)(hm:m<2 ^ 62):(aa (impl_indexOfAtom l a) fun v17=>aa (shr .i64 (m:Int) v17) fun v18=>some (decide ((bitand .i64 v18 (1:Int))=(1:Int))))=some (vm l m a):=by
 have:=ixT_lt h
 rw[ix_impl h,ap,shr_eq (by omega),ap,bit_test hm]; rfl
theorem bit_spec{l:List Tt}{a:Tt}{m:Nat}(h:a∈l)(hl:l.length≤40)(hm:m<2 ^ 62):(aa (spec_l16Index l a) fun v19=>aa (shr .i64 (m:Int) (IntKind.u64.wrap v19)) fun v21=>some (decide ((bitand .i64 v21 (1:Int))=(1:Int))))=some (vm l m a):=by
 have:=ixT_lt h
 rw[ix_spec h,ap,wrapU (by omega),shr_eq (by omega),ap,bit_test hm]; rfl
theorem truth_impl{l:List Tt}{m:Nat}(hl:l.length≤40)(hm:m<2 ^ 62){f:Ft}(h:Pl f):(∀ a∈f.ats,a∈l)→∀ n,au f≤n→impl_truthOfN n f l (m:Int)=some (f.tr (vm l m)):=by
 induction h with
 | c o ho=>
  intro _ n hn
  have hp:=(fC o).pos
  obtain⟨n,rfl⟩:∃ j,n=j+1:=⟨n-1,by omega⟩
  rcases ho with rfl | rfl<;>rfl
 | a t=>
  intro ha n hn
  have hp:=(Ft.mk 3 t es []).pos
  obtain⟨n,rfl⟩:∃ j,n=j+1:=⟨n-1,by omega⟩
  exact bit_impl (ha t (by rw[ats_a]; simp)) hl hm
 | n p h ih=>
  intro ha n hn
  have hp:=(fN p).pos
  have hlt:au p<au (fN p):=Ft.lt (by simp[aY])
  obtain⟨n,rfl⟩:∃ j,n=j+1:=⟨n-1,by omega⟩
  rw[ats_n] at ha
  rw[impl_truthOfN]
  show aa (impl_truthOfN n p l (m:Int)) _=_
  rw[ih ha n (by omega)]; rfl
 | b o p q ho h h' ih ih'=>
  intro ha n hn
  have hp:=(fB o p q).pos
  have hlt:au p<au (fB o p q):=Ft.lt (by simp[aY])
  have hlt':au q<au (fB o p q):=Ft.lt (by simp[aY])
  obtain⟨n,rfl⟩:∃ j,n=j+1:=⟨n-1,by omega⟩
  rw[ats_b ho] at ha
  have e1:=ih (fun a h=>ha a (by simp[h])) n (by omega)
  have e2:=ih' (fun a h=>ha a (by simp[h])) n (by omega)
  rw[impl_truthOfN]
  rcases ho with rfl | rfl | rfl
  ·show aa (impl_truthOfN n p l (m:Int)) _=_
   rw[e1,ap,tr_5]
   cases p.tr (vm l m)
   ·rfl
   ·show aa (impl_truthOfN n q l (m:Int)) _=_
    rw[e2]; rfl
  ·show aa (impl_truthOfN n p l (m:Int)) _=_
   rw[e1,ap,tr_6]
   cases p.tr (vm l m)
   ·show aa (impl_truthOfN n q l (m:Int)) _=_
    rw[e2]; rfl
   ·rfl
  ·show aa (impl_truthOfN n p l (m:Int)) _=_
   rw[e1,ap,tr_7]
   cases p.tr (vm l m)
   ·rfl
   ·show aa (impl_truthOfN n q l (m:Int)) _=_
    rw[e2]; rfl
theorem truth_spec{l:List Tt}{m:Nat}(hl:l.length≤40)(hm:m<2 ^ 62){f:Ft}(h:Pl f):(∀ a∈f.ats,a∈l)→∀ n,au f≤n→spec_l16HoldsN n f l (m:Int)=some (f.tr (vm l m)):=by
 induction h with
 | c o ho=>
  intro _ n hn
  have hp:=(fC o).pos
  obtain⟨n,rfl⟩:∃ j,n=j+1:=⟨n-1,by omega⟩
  rcases ho with rfl | rfl<;>rfl
 | a t=>
  intro ha n hn
  have hp:=(Ft.mk 3 t es []).pos
  obtain⟨n,rfl⟩:∃ j,n=j+1:=⟨n-1,by omega⟩
  exact bit_spec (ha t (by rw[ats_a]; simp)) hl hm
 | n p h ih=>
  intro ha n hn
  have hp:=(fN p).pos
  have hlt:au p<au (fN p):=Ft.lt (by simp[aY])
  obtain⟨n,rfl⟩:∃ j,n=j+1:=⟨n-1,by omega⟩
  rw[ats_n] at ha
  rw[spec_l16HoldsN]
  show aa (spec_l16HoldsN n p l (m:Int)) _=_
  rw[ih ha n (by omega)]; rfl
 | b o p q ho h h' ih ih'=>
  intro ha n hn
  have hp:=(fB o p q).pos
  have hlt:au p<au (fB o p q):=Ft.lt (by simp[aY])
  have hlt':au q<au (fB o p q):=Ft.lt (by simp[aY])
  obtain⟨n,rfl⟩:∃ j,n=j+1:=⟨n-1,by omega⟩
  rw[ats_b ho] at ha
  have e1:=ih (fun a h=>ha a (by simp[h])) n (by omega)
  have e2:=ih' (fun a h=>ha a (by simp[h])) n (by omega)
  rw[spec_l16HoldsN]
  rcases ho with rfl | rfl | rfl
  ·show aa (spec_l16HoldsN n p l (m:Int)) _=_
   rw[e1,ap,tr_5]
   cases p.tr (vm l m)
   ·rfl
   ·show aa (spec_l16HoldsN n q l (m:Int)) _=_
    rw[e2]; rfl
  ·show aa (spec_l16HoldsN n p l (m:Int)) _=_
   rw[e1,ap,tr_6]
   cases p.tr (vm l m)
   ·show aa (spec_l16HoldsN n q l (m:Int)) _=_
    rw[e2]; rfl
   ·rfl
  ·show aa (spec_l16HoldsN n p l (m:Int)) _=_
   rw[e1,ap,tr_7]
   cases p.tr (vm l m)
   ·rfl
   ·show aa (spec_l16HoldsN n q l (m:Int)) _=_
    rw[e2]; rfl
/-! ### the atoms -/
theorem into_eq{f:Ft}(h:Pl f):f.good=true→∀ acc:List Tt,Gd acc→acc.length+f.ats.length≤1000000→∀ n,au f≤n→spec_l16IntoN n acc f=some (putAllT f.ats acc)∧Gd (putAllT f.ats acc):=by
 have pg:∀ (xs acc:List Tt),(∀ a∈xs,CT a)→Gd acc→Gd (putAllT xs acc):=fun xs acc h1 h2 a ha=>by
  rcases (putAllT_mem a xs acc).1 ha with h | h
  ·exact h1 a h
  ·exact h2 a h
 induction h with
 | c o ho=>
  intro _ acc hA _ n hn
  have hp:=(fC o).pos
  obtain⟨n,rfl⟩:∃ j,n=j+1:=⟨n-1,by omega⟩
  rw[ats_c ho]
  refine⟨?_,hA⟩
  rcases ho with rfl | rfl<;>rfl
 | a t=>
  intro hg acc hA hb n hn
  have hp:=(Ft.mk 3 t es []).pos
  obtain⟨n,rfl⟩:∃ j,n=j+1:=⟨n-1,by omega⟩
  rw[good_fA] at hg
  have hc:=ct_atom hg
  rw[ats_a] at hb ⊢
  refine⟨?_,pg [t] acc (fun a ha=>by rw[List.mem_singleton.1 ha]; exact hc) hA⟩
  rw[spec_l16IntoN]
  show aa (spec_l16Put acc t) _=_
  rw[l16Put_eq t hc acc hA (by simp at hb; omega)]; rfl
 | n p h ih=>
  intro hg acc hA hb n hn
  have hp:=(fN p).pos
  have hlt:au p<au (fN p):=Ft.lt (by simp[aY])
  obtain⟨n,rfl⟩:∃ j,n=j+1:=⟨n-1,by omega⟩
  rw[good_fN'] at hg
  rw[ats_n] at hb ⊢
  obtain⟨e1,e2⟩:=ih hg acc hA hb n (by omega)
  refine⟨?_,e2⟩
  rw[spec_l16IntoN]
  show thenL (forN _ (0+1) 0 acc) _=_
  rw[forN_nx (s':=putAllT p.ats acc) (by show aa (some p) _=_; rw[ap,e1]; rfl)]; rfl
 | b o p q ho h h' ih ih'=>
  intro hg acc hA hb n hn
  have hp:=(fB o p q).pos
  have hlt:au p<au (fB o p q):=Ft.lt (by simp[aY])
  have hlt':au q<au (fB o p q):=Ft.lt (by simp[aY])
  obtain⟨n,rfl⟩:∃ j,n=j+1:=⟨n-1,by omega⟩
  rw[good_fB' ho,aw] at hg
  rw[ats_b ho] at hb ⊢
  rw[aV] at hb
  obtain⟨e1,e2⟩:=ih hg.1 acc hA (by omega) n (by omega)
  have hl:=putAllT_len p.ats acc
  obtain⟨e3,e4⟩:=ih' hg.2 (putAllT p.ats acc) e2 (by omega) n (by omega)
  have ea:putAllT (p.ats++q.ats) acc=putAllT q.ats (putAllT p.ats acc):=by unfold putAllT; rw[List.foldl_append]
  rw[ea]
  refine⟨?_,e4⟩
  rw[spec_l16IntoN]
  show(bif decide (o=3) then _ else _)=_
  rw[decide_eq_false (by omega),cond_false]
  show thenL (forN _ (0+1+1) 0 acc) _=_
  rw[forN_nx (s':=putAllT p.ats acc) (by show aa (some p) _=_; rw[ap,e1]; rfl),forN_nx (s':=putAllT q.ats (putAllT p.ats acc)) (by show aa (some q) _=_; rw[ap,e3]; rfl)]; rfl
theorem add_loop{ρ:Type}:∀ (xs:List Tt) (i:Nat) (acc:List Tt),(∀ a∈xs,a.cnt≤10000000)→acc.length+xs.length≤1000000→forL (ρ:=ρ) (fun _ x s=>aa (impl_addAtom s x) fun v=>some (.nx v)) xs i acc=some (.inr (addAll xs acc))
 | [],i,acc,_,_=>rfl
 | x::xs,i,acc,h,hb=>by
  rw[aG] at hb
  have:=addT_len x acc
  rw[forL_nx (s':=addT x acc) (by rw[addAtom_eq acc x (h x (by simp)) (by omega)]; rfl),add_loop xs (i+1) _ (fun a ha=>h a (by simp[ha])) (by omega)]; rfl
theorem diff_eq{f:Ft}(h:Pl f)(hg:f.good=true)(hb:f.ats.length≤1000):impl_differentAtoms f=some (addAll f.ats []):=by
 unfold impl_differentAtoms
 rw[show impl_atomsOf f=some f.ats from lim_eq ⟨_,atomsOf_eq f (by omega)⟩,ap]
 have e:=(forN_idxB (ρ:=List Tt) f.ats (fun _ x s=>aa (impl_addAtom s x) fun v=>some (.nx v)) (f:=fun (i3:Nat) (s3:(List Tt))=>
  aa (idx f.ats (i3:Int)) fun v12=>
  aa (idx f.ats (i3:Int)) fun v13=>
  aa (impl_addAtom s3 v13) fun v16=>
  some (.nx v16)) [] (fun i hi s=>by rw[idx_nat,List.getElem?_eq_getElem hi]; rfl)).trans (add_loop f.ats 0 [] (fun a ha=>by have:=(atomT_ok (ats_good h hg a ha)).cnt; omega) (by simp; omega))
 refine(congrArg (fun z=>thenL z _) e).trans rfl
end
end Go.Proofs.YtfchaodlnddkpaaGreat
