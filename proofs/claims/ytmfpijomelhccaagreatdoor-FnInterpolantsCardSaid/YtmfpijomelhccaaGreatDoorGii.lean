/- Lemmas of the proof; each says what it shows. -/
import Derived.Test.YtmfpijomelhccaaGreatDoorGp
import Derived.Test.YtmfpijomelhccaaGreatDoorAvZ
import Derived.Test.YtmfpijomelhccaaGreatDoorGsi
set_option linter.unusedSimpArgs false
set_option linter.unusedVariables false
set_option linter.defProp false
namespace Go.Proofs.YtmfpijomelhccaaGreatDoor
open Go.Av
open Bool renaming and_eq_true→aD
open List renaming map_cons→aP,sum_cons→bA,length_cons→aW,all_eq_true→bc,append_nil→bu,length_append→aV,append_assoc→aT,length_nil→bw,nil_append→bn
open Nat renaming le_refl→a7
open Option renaming bind_some→ai,bind→aa
open SizeOf renaming sizeOf→aM
section
theorem within_eq(a lo hi:Int):impl_within a lo hi=some (inR a lo hi):=cond_inR a lo hi
theorem l1In_eq(a lo hi:Int):spec_l1In a lo hi=some (inR a lo hi):=cond_inR a lo hi
def cLow(c:Int):Bool:=inR c 97 122
def cUp(c:Int):Bool:=inR c 65 90
def cDig(c:Int):Bool:=inR c 48 57
theorem isLower_eq(c:Int):impl_isLower c=some (cLow c):=cond_inR c 97 122
theorem isUpper_eq(c:Int):impl_isUpper c=some (cUp c):=cond_inR c 65 90
theorem isDigit_eq(c:Int):impl_isDigit c=some (cDig c):=cond_inR c 48 57
theorem l2Small_eq(c:Int):spec_l2Small c=some (cLow c||cDig c):=by
 unfold spec_l2Small cLow cDig inR
 by_cases h1:(97:Int)≤c<;>by_cases h2:c≤(122:Int)<;>by_cases h3:(48:Int)≤c<;>by_cases h4:c≤(57:Int)<;>simp[h1,h2,h3,h4]
def varC(s:ByteArray)(j:Nat):Bool:=if j=0 then cUp (byt s 0) else(cLow (byt s j)||cDig (byt s j))
def isVarS(s:ByteArray):Bool:=inR (s.size:Int) 1 4&&(List.range s.size).all (varC s)
theorem isVariable_eq(s:ByteArray)(hb:Big s.size):impl_isVariable s=some (isVarS s):=by
 unfold impl_isVariable
 rw[bnd_nat hb,ai,forN_all (varC s)]
 ·simp only[within_eq,ai,isVarS]
  cases (List.range s.size).all (varC s)<;>cases inR (s.size:Int) 1 4<;>rfl
 ·intro j hj _
  simp only[sidx_nat hj,ai,isUpper_eq,isLower_eq,isDigit_eq,varC]
  by_cases h0:j=0
  ·subst h0
   cases cUp (byt s 0)<;>rfl
  ·have h1:¬ ((j:Int)=0):=by omega
   have h2:(0:Int)<(j:Int):=by omega
   rw[decide_eq_false h1,decide_eq_true h2,if_neg h0]
   cases cLow (byt s j)<;>cases cDig (byt s j)<;>rfl
theorem l2Var_eq(s:ByteArray)(hb:Big s.size):spec_l2Var s=some (isVarS s):=by
 unfold spec_l2Var
 rw[l1In_eq,ai]
 unfold isVarS
 cases hr:inR (s.size:Int) 1 4
 ·rfl
 ·have hs:0<s.size:=by have:=inR_iff.1 hr; omega
  simp only[cond_true,Bool.true_and]
  rw[sidx0 hs,ai]
  by_cases h0:cUp (byt s 0)=true
  ·have hu:=inR_iff.1 h0
   rw[decide_eq_false (by omega),cond_false,ai,decide_eq_false (by omega),cond_false,bnd_nat hb,ai,forN_all1 (varC s) hs (by simp[varC,h0])]
   ·cases (List.range s.size).all (varC s)<;>rfl
   ·intro j hj0 hj _
    simp only[sidx_nat hj,ai,l2Small_eq,varC]
    rw[if_neg (by omega)]
    cases (cLow (byt s j)||cDig (byt s j))<;>rfl
  ·have h1:(List.range s.size).all (varC s)=false:=List.all_eq_false.2 ⟨0,by simp; omega,by simp[varC,h0]⟩
   rw[h1]
   have hu:¬ (65≤byt s 0∧byt s 0≤90):=by intro g; exact h0 (inR_iff.2 g)
   by_cases g:byt s 0<65
   ·rw[decide_eq_true g]; rfl
   ·rw[decide_eq_false g,cond_false,ai,decide_eq_true (by omega)]; rfl
def resv:List ByteArray:=[(⟨#[116,114,117,101]⟩:ByteArray),(⟨#[102,97,108,115,101]⟩:ByteArray),(⟨#[116,114,117,116,104]⟩:ByteArray),(⟨#[98,111,116,104]⟩:ByteArray),(⟨#[101,105,116,104,101,114]⟩:ByteArray),(⟨#[105,102]⟩:ByteArray),(⟨#[97,108,108]⟩:ByteArray),(⟨#[115,111,109,101]⟩:ByteArray)]
def symC(s:ByteArray)(j:Nat):Bool:=if j=0 then cLow (byt s 0) else(cLow (byt s j)||cDig (byt s j)||decide (byt s j=95))
def isSymS(s:ByteArray):Bool:=inR (s.size:Int) 1 6&&(List.range s.size).all (symC s)&&!resv.any (fun v=>decide (s=v))
theorem Contains_str(xs:List ByteArray)(s:ByteArray):slices_Contains_Sstring_string xs s=some (xs.any (fun v=>decide (s=v))):=by
 unfold slices_Contains_Sstring_string slices_Index_Sstring_string
 obtain⟨r,h1,h2⟩:=forN_find (n:=xs.length) (p:=fun i=>decide (s=xs.getD i default)) (f:=fun i2 s2=>(idx xs (i2:Int)).bind fun v14=>bif decide (s=v14) then some (.rt (i2:Int)) else some (.nx ())) (fun j hj=>by
  simp only[idx_getD hj,ai]
  cases decide (s=xs.getD j default)<;>rfl)
 rw[h1,ai,h2,range_any_list xs (fun v=>decide (s=v))]
theorem isSymbol_eq(s:ByteArray)(hb:Big s.size):impl_isSymbol s=some (isSymS s):=by
 unfold impl_isSymbol
 rw[bnd_nat hb,ai,forN_all (symC s)]
 ·simp only[within_eq,ai,isSymS,impl_reserved,Contains_str]
  rw[show resv.any (fun v=>decide (s=v))=_ from rfl]
  unfold resv
  cases (List.range s.size).all (symC s)<;>cases inR (s.size:Int) 1 6<;>rfl
 ·intro j hj _
  simp only[sidx_nat hj,ai,isLower_eq,isDigit_eq,symC]
  by_cases h0:j=0
  ·subst h0
   cases cLow (byt s 0)<;>rfl
  ·have h1:¬ ((j:Int)=0):=by omega
   rw[decide_eq_false h1,if_neg h0]
   cases cLow (byt s j)<;>cases cDig (byt s j)<;>cases decide (byt s j=95)<;>rfl
theorem l2Symbol_eq(s:ByteArray)(hb:Big s.size):spec_l2Symbol s=some (isSymS s):=by
 unfold spec_l2Symbol
 rw[l1In_eq,ai]
 unfold isSymS
 cases hr:inR (s.size:Int) 1 6
 ·rfl
 ·have hs:0<s.size:=by have:=inR_iff.1 hr; omega
  simp only[cond_true,Bool.true_and]
  rw[sidx0 hs,ai]
  by_cases h0:cLow (byt s 0)=true
  ·have hu:=inR_iff.1 h0
   rw[decide_eq_false (by omega),cond_false,ai,decide_eq_false (by omega),cond_false,bnd_nat hb,ai,forN_all1 (symC s) hs (by simp[symC,h0])]
   ·simp only[resv,List.any_cons,List.any_nil,Bool.or_false]
    generalize decide (s=_)=b1
    generalize decide (s=_)=b2
    generalize decide (s=_)=b3
    generalize decide (s=_)=b4
    generalize decide (s=_)=b5
    generalize decide (s=_)=b6
    generalize decide (s=_)=b7
    generalize decide (s=_)=b8
    cases (List.range s.size).all (symC s)<;>cases b1<;>cases b2<;>cases b3<;>cases b4<;>cases b5<;>cases b6<;>cases b7<;>cases b8<;>rfl
   ·intro j hj0 hj _
    simp only[sidx_nat hj,ai,l2Small_eq,symC]
    rw[if_neg (by omega)]
    cases (cLow (byt s j)||cDig (byt s j))<;>cases decide (byt s j=95)<;>rfl
  ·have h1:(List.range s.size).all (symC s)=false:=List.all_eq_false.2 ⟨0,by simp; omega,by simp[symC,h0]⟩
   rw[h1]
   have hu:¬ (97≤byt s 0∧byt s 0≤122):=by intro g; exact h0 (inR_iff.2 g)
   by_cases g:byt s 0<97
   ·rw[decide_eq_true g]; rfl
   ·rw[decide_eq_false g,cond_false,ai,decide_eq_true (by omega)]; rfl
end
section
mutual
def Tt.cnt:Tt→Nat
 | .mk _ l=>1+Tt.cnts l
def Tt.cnts:List Tt→Nat
 | []=>0
 | a::l=>a.cnt+Tt.cnts l
end
theorem Tt.cnts_eq(l:List Tt):Tt.cnts l=(l.map Tt.cnt).sum:=by
 induction l with
 | nil=>rfl
 | cons a l ih=>rw[Tt.cnts,ih,aP,bA]
theorem Tt.cnt_mk(x:ByteArray)(l:List Tt):(Tt.mk x l).cnt=1+(l.map Tt.cnt).sum:=by rw[Tt.cnt,Tt.cnts_eq]
mutual
def Tt.dep:Tt→Nat
 | .mk _ l=>1+Tt.deps l
def Tt.deps:List Tt→Nat
 | []=>0
 | a::l=>max a.dep (Tt.deps l)
end
theorem Tt.dep_mk(x:ByteArray)(l:List Tt):(Tt.mk x l).dep=1+Tt.deps l:=by rw[Tt.dep]
theorem Tt.cnt_tot(t:Tt):t.cnt≤1+t.tot:=by
 refine Tt.ind (M:=fun t=>t.cnt≤1+t.tot) (fun x l ih=>?_) t
 rw[Tt.cnt_mk,Tt.tot_mk]
 have:(l.map Tt.cnt).sum≤ltot Tt.tot l:=by
  clear x
  induction l with
  | nil=>simp[ltot]
  | cons a l ihl=>
   have h1:=ih a (by simp)
   have h2:=ihl (fun b hb=>ih b (by simp[hb]))
   simp only[ltot,aP,bA,aW] at h2 ⊢
   omega
 omega
theorem Tt.dep_cnt(t:Tt):t.dep≤t.cnt:=by
 refine Tt.ind (M:=fun t=>t.dep≤t.cnt) (fun x l ih=>?_) t
 rw[Tt.cnt_mk,Tt.dep_mk]
 have:Tt.deps l≤(l.map Tt.cnt).sum:=by
  clear x
  induction l with
  | nil=>simp[Tt.deps]
  | cons a l ihl=>
   have h1:=ih a (by simp)
   have h2:=ihl (fun b hb=>ih b (by simp[hb]))
   simp only[Tt.deps,aP,bA]
   omega
 omega
theorem Tt.cnt_pos(t:Tt):1≤t.cnt:=by cases t; rw[Tt.cnt_mk]; omega
/-- A sum that stops when it is too great. -/
def Cap(L c:Nat)(r:Int):Prop:=1≤r∧r≤c∧(c≤L→r=c)∧(L<c→L<r)
theorem Cap.le{L c:Nat}{r:Int}(h:Cap L c r):decide (r≤(L:Int))=decide (c≤L):=by
 by_cases e:c≤L
 ·have:=h.2.2.1 e; rw[decide_eq_true e,decide_eq_true (by omega)]
 ·have:=h.2.2.2 (by omega); rw[decide_eq_false e,decide_eq_false (by omega)]
theorem size_loop(f:Tt→Option Int):∀ (l:List Tt) (i:Nat) (s:Int) (c0:Nat),(∀ a∈l,∃ r,f a=some r∧Cap 30 a.cnt r)→1≤s→s≤c0→(c0≤30→s=c0)→(30<c0→30<s)→c0+(l.map Tt.cnt).sum≤2097152→
 ∃ r,thenL (ρ:=Int) (forL (fun _ v s=>bif decide ((30:Int)<s) then some (.rt s) else(f v).bind fun w=>some (.nx (wr (s+w)))) l i s) (fun s=>some s)=some r∧Cap 30 (c0+(l.map Tt.cnt).sum) r
 | [],i,s,c0,_,h1,h2,h3,h4,_=>⟨s,rfl,by simpa using⟨h1,h2,h3,h4⟩⟩
 | a::l,i,s,c0,hf,h1,h2,h3,h4,hb=>by
  simp only[aP,bA] at hb ⊢
  by_cases e:(30:Int)<s
  ·rw[forL_rt (r:=s) (by rw[decide_eq_true e]; rfl),thenL_inl]
   exact⟨s,rfl,h1,by omega,fun g=>by omega,fun _=>e⟩
  ·obtain⟨r,hr,c1,c2,c3,c4⟩:=hf a (by simp)
   have hs:s=c0:=h3 (by omega)
   rw[forL_nx (s':=wr (s+r)) (by rw[decide_eq_false e,cond_false,hr]; rfl),wr64 (by omega) (by omega)]
   have:=size_loop f l (i+1) (s+r) (c0+a.cnt) (fun b hb=>hf b (by simp[hb])) (by omega) (by omega) (fun g=>by have:=c3 (by omega); omega) (fun g=>by
    by_cases g2:a.cnt≤30
    ·have:=c3 g2; omega
    ·have:=c4 (by omega); omega) (by omega)
   rwa [Nat.add_assoc] at this
theorem impl_size_eq(t:Tt):t.cnt≤2097152→∃ r,(∀ n,2*aM t≤n→impl_sizeN n t=some r)∧Cap 30 t.cnt r:=by
 refine Tt.ind (M:=fun t=>t.cnt≤2097152→∃ r,(∀ n,2*aM t≤n→impl_sizeN n t=some r)∧Cap 30 t.cnt r) (fun x l ih hc=>?_) t
 rw[Tt.cnt_mk] at hc ⊢
 obtain⟨R,hR⟩:=mem_choice (fun a ha=>ih a ha (by have:=le_sum_mem Tt.cnt ha; omega))
 obtain⟨r,h1,h2⟩:=size_loop (fun a=>some (R a)) l 0 1 1 (fun a ha=>⟨R a,rfl,(hR a ha).2⟩) (by omega) (by omega) (by omega) (by omega) hc
 refine⟨r,fun n hn=>?_,h2⟩
 cases n with
 | zero=>simp only[Tt.mk.sizeOf_spec] at hn; omega
 | succ n=>
  rw[impl_sizeN]
  simp only[Tt.Args_mk,forN_idx]
  rw[← h1]
  congr 1
  refine forL_congr l 0 1 (fun j a s ha=>?_)
  have ha:=List.mem_of_getElem? ha
  simp only[(hR a ha).1 n (by have:=List.sizeOf_lt_of_mem ha; simp only[Tt.mk.sizeOf_spec] at hn; omega)]
theorem impl_size_ok(t:Tt)(h:t.tot≤1048576):∃ r,impl_size t=some r∧Cap 30 t.cnt r:=by
 obtain⟨r,h1,h2⟩:=impl_size_eq t (by have:=Tt.cnt_tot t; omega)
 exact⟨r,lim_eq ⟨_,h1⟩,h2⟩
theorem many_loop(f:Tt→Int→Option Int)(L:Nat)(hL:L≤30):∀ (l:List Tt) (i:Nat) (s:Int) (c0:Nat),(∀ a∈l,∀ L':Nat,L'≤30→∃ r,f a L'=some r∧Cap L' a.cnt r)→1≤s→s≤c0→(c0≤L→s=c0)→(L<c0→L<s)→c0+(l.map Tt.cnt).sum≤2097152→
 ∃ r,thenL (ρ:=Int) (forL (fun _ v s=>bif decide (s≤(L:Int)) then(f v (wr ((L:Int)-s))).bind fun w=>some (.nx (wr (s+w))) else some (.rt s)) l i s) (fun s=>some s)=some r∧Cap L (c0+(l.map Tt.cnt).sum) r
 | [],i,s,c0,_,h1,h2,h3,h4,_=>⟨s,rfl,by simpa using⟨h1,h2,h3,h4⟩⟩
 | a::l,i,s,c0,hf,h1,h2,h3,h4,hb=>by
  simp only[aP,bA] at hb ⊢
  by_cases e:s≤(L:Int)
  ·have hs:s=c0:=h3 (by omega)
   have eL:wr ((L:Int)-s)=((L-c0:Nat):Int):=by rw[wr64 (by omega) (by omega)]; omega
   obtain⟨r,hr,c1,c2,c3,c4⟩:=hf a (by simp) (L-c0) (by omega)
   rw[forL_nx (s':=wr (s+r)) (by rw[decide_eq_true e,cond_true,eL,hr]; rfl),wr64 (by omega) (by omega)]
   have:=many_loop f L hL l (i+1) (s+r) (c0+a.cnt) (fun b hb=>hf b (by simp[hb])) (by omega) (by omega) (fun g=>by have:=c3 (by omega); omega) (fun g=>by
    by_cases g2:a.cnt≤L-c0
    ·omega
    ·have:=c4 (by omega); omega) (by omega)
   rwa [Nat.add_assoc] at this
  ·rw[forL_rt (r:=s) (by rw[decide_eq_false e]; rfl),thenL_inl]
   exact⟨s,rfl,h1,by omega,fun g=>by omega,fun _=>by omega⟩
theorem lim_st{α:Type}{m:Nat→Option α}{N:Nat}{r:α}(hs:∀ n,N≤n→m n=m N)(h:m N=some r):lim m=some r:=lim_eq ⟨N,fun n hn=>by rw[hs n hn,h]⟩
theorem spec_many_st(t:Tt):∀ n m,2*aM t≤n→2*aM t≤m→∀ L,spec_l2ManyN n t L=spec_l2ManyN m t L:=by
 refine Tt.ind (M:=fun t=>∀ n m,2*aM t≤n→2*aM t≤m→∀ L,spec_l2ManyN n t L=spec_l2ManyN m t L) (fun x l ih n m hn hm L=>?_) t
 simp only[Tt.mk.sizeOf_spec] at hn hm
 cases n with
 | zero=>omega
 | succ n=>
  cases m with
  | zero=>omega
  | succ m=>
   rw[spec_l2ManyN,spec_l2ManyN]
   congr 1
   refine forN_congr _ _ _ (fun j s hj=>?_)
   simp only[Tt.Args_mk,Nat.zero_add] at hj ⊢
   rw[idx_getD hj]
   simp only[ai]
   have hm':=getD_mem hj
   have:=List.sizeOf_lt_of_mem hm'
   rw[ih _ hm' n m (by omega) (by omega)]
theorem spec_many_eq(t:Tt):t.cnt≤2097152→∀ n,2*aM t≤n→∀ L:Nat,L≤30→∃ r,spec_l2ManyN n t L=some r∧Cap L t.cnt r:=by
 refine Tt.ind (M:=fun t=>t.cnt≤2097152→∀ n,2*aM t≤n→∀ L:Nat,L≤30→∃ r,spec_l2ManyN n t L=some r∧Cap L t.cnt r) (fun x l ih hc n hn L hL=>?_) t
 rw[Tt.cnt_mk] at hc ⊢
 simp only[Tt.mk.sizeOf_spec] at hn
 cases n with
 | zero=>omega
 | succ n=>
  rw[spec_l2ManyN]
  simp only[Tt.Args_mk]
  obtain⟨r,h1,h2⟩:=many_loop (spec_l2ManyN n) L hL l 0 1 1 (fun a ha L' hL'=>ih a ha (by have:=le_sum_mem Tt.cnt ha; omega) n (by have:=List.sizeOf_lt_of_mem ha; omega) L' hL') (by omega) (by omega) (by omega) (by omega) hc
  refine⟨r,?_,h2⟩
  rw[← h1]
  congr 1
  refine forN_forL _ _ l 0 1 (fun j a s ha=>?_)
  simp only[Nat.zero_add,idx_nat,ha,ai]
theorem spec_many_ok(t:Tt)(h:t.tot≤1048576):∃ r,spec_l2Many t 30=some r∧Cap 30 t.cnt r:=by
 obtain⟨r,h1,h2⟩:=spec_many_eq t (by have:=Tt.cnt_tot t; omega) _ (a7 _) 30 (by omega)
 exact⟨r,lim_st (fun n hn=>spec_many_st t _ _ hn (a7 _) _) h1,h2⟩
/-! depth -/
theorem dep_loop(f:Tt→Option Int)(g:Int→Int→Option Int)(hg:∀ a b,g a b=some (max a b)):∀ (l:List Tt) (i:Nat) (s:Nat),(∀ a∈l,f a=some (a.dep:Int))→
 thenL (ρ:=Int) (forL (fun _ v s=>(f v).bind fun w=>(g s w).bind fun z=>some (.nx z)) l i (s:Int)) (fun s=>some (wr (s+1)))=some (wr (((max s (Tt.deps l):Nat):Int)+1))
 | [],i,s,_=>by simp[forL,thenL_inr,Tt.deps]
 | a::l,i,s,h=>by
  have e:max (s:Int) (a.dep:Int)=((max s a.dep:Nat):Int):=by omega
  rw[forL_nx (s':=((max s a.dep:Nat):Int)) (by rw[h a (by simp),ai,hg,ai,e]),dep_loop f g hg l (i+1) _ (fun b hb=>h b (by simp[hb])),Tt.deps]
  congr 3; omega
theorem Most_eq(a b:Int):spec_l1Most a b=some (max a b):=by
 unfold spec_l1Most
 by_cases h:b<a
 ·rw[decide_eq_true h,cond_true]; congr 1; omega
 ·rw[decide_eq_false h,cond_false]; congr 1; omega
theorem deps_le(l:List Tt):Tt.deps l≤(l.map Tt.cnt).sum:=by
 induction l with
 | nil=>simp[Tt.deps]
 | cons a l ih=>simp only[Tt.deps,aP,bA]; have:=a.dep_cnt; omega
theorem impl_depthN_eq(t:Tt):t.cnt≤2097152→∀ n,2*aM t≤n→impl_depthN n t=some (t.dep:Int):=by
 refine Tt.ind (M:=fun t=>t.cnt≤2097152→∀ n,2*aM t≤n→impl_depthN n t=some (t.dep:Int)) (fun x l ih hc n hn=>?_) t
 rw[Tt.cnt_mk] at hc
 rw[Tt.dep_mk]
 simp only[Tt.mk.sizeOf_spec] at hn
 cases n with
 | zero=>omega
 | succ n=>
  rw[impl_depthN]
  simp only[Tt.Args_mk,forN_idx]
  have:=dep_loop (impl_depthN n) (fun a b=>some (max a b)) (fun _ _=>rfl) l 0 0 (fun a ha=>ih a ha (by have:=le_sum_mem Tt.cnt ha; omega) n (by have:=List.sizeOf_lt_of_mem ha; omega))
  simp only[ai] at this
  refine this.trans ?_
  have:=deps_le l
  rw[wr64 (by omega) (by omega)]; congr 1; omega
theorem spec_depthN_eq(t:Tt):t.cnt≤2097152→∀ n,2*aM t≤n→spec_l2DepthN n t=some (t.dep:Int):=by
 refine Tt.ind (M:=fun t=>t.cnt≤2097152→∀ n,2*aM t≤n→spec_l2DepthN n t=some (t.dep:Int)) (fun x l ih hc n hn=>?_) t
 rw[Tt.cnt_mk] at hc
 rw[Tt.dep_mk]
 simp only[Tt.mk.sizeOf_spec] at hn
 cases n with
 | zero=>omega
 | succ n=>
  rw[spec_l2DepthN]
  simp only[Tt.Args_mk,forN_idx]
  have:=dep_loop (spec_l2DepthN n) spec_l1Most Most_eq l 0 0 (fun a ha=>ih a ha (by have:=le_sum_mem Tt.cnt ha; omega) n (by have:=List.sizeOf_lt_of_mem ha; omega))
  refine this.trans ?_
  have:=deps_le l
  rw[wr64 (by omega) (by omega)]; congr 1; omega
theorem impl_depth_ok(t:Tt)(h:t.tot≤1048576):impl_depth t=some (t.dep:Int):=lim_eq ⟨_,impl_depthN_eq t (by have:=Tt.cnt_tot t; omega)⟩
theorem spec_depth_ok(t:Tt)(h:t.tot≤1048576):spec_l2Depth t=some (t.dep:Int):=lim_eq ⟨_,spec_depthN_eq t (by have:=Tt.cnt_tot t; omega)⟩
def smallT(t:Tt):Bool:=decide (t.cnt≤30)&&decide (t.dep≤8)
theorem isSmall_ok(t:Tt)(h:t.tot≤1048576):impl_isSmall t=some (smallT t):=by
 obtain⟨r,h1,h2⟩:=impl_size_ok t h
 have h3:=h2.le
 unfold impl_isSmall smallT
 rw[h1,ai,show decide (r≤30)=decide (t.cnt≤30) from h3,impl_depth_ok t h,ai]
 cases decide (t.cnt≤30)
 ·rfl
 ·rw[cond_true,Bool.true_and]; congr 1; exact decide_eq_decide.2 (by omega)
theorem l2Fits_ok(t:Tt)(h:t.tot≤1048576):spec_l2Fits t=some (smallT t):=by
 obtain⟨r,h1,h2⟩:=spec_many_ok t h
 have h3:=h2.le
 unfold spec_l2Fits smallT
 rw[h1,ai,show decide (r≤30)=decide (t.cnt≤30) from h3,spec_depth_ok t h,ai]
 cases decide (t.cnt≤30)
 ·rfl
 ·rw[cond_true,Bool.true_and]; congr 1; exact decide_eq_decide.2 (by omega)
/-! names -/
mutual
def Tt.good:Tt→Bool
 | .mk x l=>bif isVarS x then l.isEmpty else(isSymS x&&decide (l.length≤4)&&Tt.goods l)
def Tt.goods:List Tt→Bool
 | []=>true
 | a::l=>a.good&&Tt.goods l
end
theorem Tt.goods_eq(l:List Tt):Tt.goods l=l.all Tt.good:=by
 induction l with
 | nil=>rfl
 | cons a l ih=>rw[Tt.goods,ih]; rfl
theorem Tt.good_mk(x:ByteArray)(l:List Tt):(Tt.mk x l).good=bif isVarS x then l.isEmpty else(isSymS x&&decide (l.length≤4)&&l.all Tt.good):=by rw[Tt.good,Tt.goods_eq]
theorem Tt.good_u(t:Tt):t.good=bif isVarS t.Name then t.Args.isEmpty else(isSymS t.Name&&decide (t.Args.length≤4)&&t.Args.all Tt.good):=by cases t; exact Tt.good_mk _ _
theorem isEmpty_dec{α:Type}(l:List α):decide ((l.length:Int)=0)=l.isEmpty:=by cases l<;>simp; omega
theorem impl_hasNamesN_eq(t:Tt):t.Ok→∀ n,3*aM t≤n→impl_hasNamesN n t=some t.good:=by
 refine Tt.ind' (M:=fun t=>t.Ok→∀ n,3*aM t≤n→impl_hasNamesN n t=some t.good) (fun t ih hok n hn=>?_) t
 obtain⟨hx,hl,hall⟩:=hok.u
 rw[Tt.good_u]
 have hpos:=t.pos
 cases n with
 | zero=>omega
 | succ n=>
  rw[impl_hasNamesN]
  rw[isVariable_eq _ hx,ai,isSymbol_eq _ hx,ai,isEmpty_dec]
  cases isVarS t.Name
  ·rw[cond_false,cond_false]
   cases isSymS t.Name
   ·rfl
   ·by_cases h4:t.Args.length≤4
    ·rw[cond_true,decide_eq_true (show(t.Args.length:Int)≤4 by omega),cond_true,decide_eq_true h4,Bool.true_and,Bool.true_and]
     unfold slices_ContainsFunc_Simpl_Term_impl_Term slices_IndexFunc_Simpl_Term_impl_Term
     rw[find_list (p:=fun a=>!a.good) t.Args (fun a ha=>?_),ai,List.all_eq_not_any_not]
     have hs:=Tt.lt ha
     cases n with
     | zero=>omega
     | succ n=>
      rw[impl_hasNames_1N,ih a ha (hall a ha) n (by omega)]; rfl
    ·rw[cond_true,decide_eq_false (show ¬ (t.Args.length:Int)≤4 by omega),decide_eq_false h4]; rfl
  ·rfl
theorem spec_l2NodesN_eq(t:Tt):t.Ok→∀ n,3*aM t≤n→spec_l2NodesN n t=some t.good:=by
 refine Tt.ind' (M:=fun t=>t.Ok→∀ n,3*aM t≤n→spec_l2NodesN n t=some t.good) (fun t ih hok n hn=>?_) t
 obtain⟨hx,hl,hall⟩:=hok.u
 rw[Tt.good_u]
 have hpos:=t.pos
 cases n with
 | zero=>omega
 | succ n=>
  rw[spec_l2NodesN]
  rw[l2Var_eq _ hx,ai,l2Symbol_eq _ hx,ai,isEmpty_dec]
  cases isVarS t.Name
  ·rw[cond_false,cond_false]
   cases isSymS t.Name
   ·rfl
   ·by_cases h4:t.Args.length≤4
    ·rw[cond_true,decide_eq_false (show ¬ (4:Int)<(t.Args.length:Int) by omega),cond_false,decide_eq_true h4,Bool.true_and,Bool.true_and,
      forN_all (fun j=>(t.Args.getD j default).good) (fun j hj _=>?_),range_all_list t.Args Tt.good]
     ·cases t.Args.all Tt.good<;>rfl
     ·have ha:=getD_mem hj
      have hs:=Tt.lt ha
      simp only[idx_getD hj,ai,ih _ ha (hall _ ha) n (by omega)]
      cases (t.Args.getD j default).good<;>rfl
    ·rw[cond_true,decide_eq_true (show(4:Int)<(t.Args.length:Int) by omega),decide_eq_false h4]; rfl
  ·rfl
def goodT(t:Tt):Bool:=smallT t&&t.good
theorem IsValidTerm_ok(t:Tt)(h:t.tot≤1048576)(hok:t.Ok):impl_IsValidTerm t=some (goodT t):=by
 unfold impl_IsValidTerm goodT
 rw[isSmall_ok t h,ai,show impl_hasNames t=some t.good from lim_eq ⟨_,impl_hasNamesN_eq t hok⟩,ai]
 cases smallT t<;>rfl
theorem l2Good_ok(t:Tt)(h:t.tot≤1048576)(hok:t.Ok):spec_l2Good t=some (goodT t):=by
 unfold spec_l2Good goodT
 rw[l2Fits_ok t h,ai,show spec_l2Nodes t=some t.good from lim_eq ⟨_,spec_l2NodesN_eq t hok⟩,ai]
 cases smallT t<;>rfl
end
section
/-! atoms -/
def zeroT(t:Tt):Bool:=decide (t.Name=(⟨#[]⟩:ByteArray))&&t.Args.isEmpty
theorem zeroT_impl(t:Tt):impl_isZeroTerm t=some (zeroT t):=by
 unfold impl_isZeroTerm zeroT
 rw[isEmpty_dec]
 cases decide (t.Name=(⟨#[]⟩:ByteArray))<;>rfl
theorem zeroT_spec(t:Tt):spec_l8None t=some (zeroT t):=zeroT_impl t
def atomT(t:Tt):Bool:=bif decide (t.Name=(⟨#[61]⟩:ByteArray)) then decide (t.Args.length=2)&&(smallT t&&t.Args.all Tt.good) else isSymS t.Name&&goodT t
theorem two_args{l:List Tt}(h:l.length=2):∃ x y,l=[x,y]:=by
 match l,h with
 | [x,y],_=>exact⟨x,y,rfl⟩
theorem hasNames_ok(t:Tt)(hok:t.Ok):impl_hasNames t=some t.good:=lim_eq ⟨_,impl_hasNamesN_eq t hok⟩
theorem l2Nodes_ok(t:Tt)(hok:t.Ok):spec_l2Nodes t=some t.good:=lim_eq ⟨_,spec_l2NodesN_eq t hok⟩
theorem atom_impl(t:Tt)(h:t.tot≤1048576)(hok:t.Ok):impl_IsValidAtom t=some (atomT t):=by
 unfold impl_IsValidAtom atomT impl_isEquality
 obtain⟨hx,hl,hall⟩:=hok.u
 rw[isSymbol_eq _ hx,IsValidTerm_ok t h hok,isSmall_ok t h]
 simp only[ai]
 cases decide (t.Name=(⟨#[61]⟩:ByteArray))
 ·simp only[cond_false]; cases isSymS t.Name<;>rfl
 ·by_cases h2:t.Args.length=2
  ·obtain⟨x,y,e⟩:=two_args h2
   rw[decide_eq_true (show(t.Args.length:Int)=2 by omega),decide_eq_true h2]
   simp only[cond_true,Bool.true_and]
   cases smallT t
   ·rfl
   ·rw[e] at hall ⊢
    rw[show(0:Int)=((0:Nat):Int) from rfl,show(1:Int)=((1:Nat):Int) from rfl,idx_nat,idx_nat]
    simp only[List.getElem?_cons_zero,List.getElem?_cons_succ,ai,hasNames_ok x (hall x (by simp)),hasNames_ok y (hall y (by simp)),cond_true,Bool.true_and,List.all_cons,List.all_nil,Bool.and_true]
    cases x.good<;>rfl
  ·rw[decide_eq_false (show ¬ (t.Args.length:Int)=2 by omega),decide_eq_false h2]; rfl
theorem atom_spec(t:Tt)(h:t.tot≤1048576)(hok:t.Ok):spec_l2Atom t=some (atomT t):=by
 unfold spec_l2Atom atomT
 obtain⟨hx,hl,hall⟩:=hok.u
 rw[l2Symbol_eq _ hx,l2Good_ok t h hok,l2Fits_ok t h]
 simp only[ai]
 cases decide (t.Name=(⟨#[61]⟩:ByteArray))
 ·simp only[cond_false]; cases isSymS t.Name<;>rfl
 ·by_cases h2:t.Args.length=2
  ·obtain⟨x,y,e⟩:=two_args h2
   rw[decide_eq_true (show(t.Args.length:Int)=2 by omega),decide_eq_true h2]
   simp only[cond_true,Bool.true_and]
   cases smallT t
   ·rfl
   ·rw[e] at hall ⊢
    rw[show(0:Int)=((0:Nat):Int) from rfl,show(1:Int)=((1:Nat):Int) from rfl,idx_nat,idx_nat]
    simp only[List.getElem?_cons_zero,List.getElem?_cons_succ,ai,l2Nodes_ok x (hall x (by simp)),l2Nodes_ok y (hall y (by simp)),cond_true,Bool.true_and,List.all_cons,List.all_nil,Bool.and_true]
    cases x.good<;>rfl
  ·rw[decide_eq_false (show ¬ (t.Args.length:Int)=2 by omega),decide_eq_false h2]; rfl
/-! sizes -/
mutual
def Ft.cnt:Ft→Nat
 | .mk _ _ _ l=>1+Ft.cnts l
def Ft.cnts:List Ft→Nat
 | []=>0
 | a::l=>a.cnt+Ft.cnts l
end
theorem Ft.cnts_eq(l:List Ft):Ft.cnts l=(l.map Ft.cnt).sum:=by
 induction l with
 | nil=>rfl
 | cons a l ih=>rw[Ft.cnts,ih,aP,bA]
theorem Ft.cnt_u(a:Ft):a.cnt=1+(a.Parts.map Ft.cnt).sum:=by cases a; rw[Ft.cnt,Ft.cnts_eq]; rfl
theorem sum_le_ltot{α:Type}{c t:α→Nat}:∀ l:List α,(∀ a∈l,c a≤1+t a)→(l.map c).sum≤ltot t l
 | [],_=>by simp[ltot]
 | a::l,h=>by
  have h1:=h a (by simp)
  have h2:=sum_le_ltot l (fun b hb=>h b (by simp[hb]))
  simp only[ltot,aP,bA,aW] at h2 ⊢
  omega
theorem Ft.cnt_tot(t:Ft):t.cnt≤1+t.tot:=by
 refine Ft.ind' (M:=fun t=>t.cnt≤1+t.tot) (fun t ih=>?_) t
 rw[Ft.cnt_u,Ft.tot_u]
 have:=sum_le_ltot (c:=Ft.cnt) (t:=Ft.tot) t.Parts ih
 omega
theorem Ft.cnt_pos(t:Ft):1≤t.cnt:=by rw[Ft.cnt_u]; omega
theorem gsize_loop{α:Type}(cnt:α→Nat)(L:Nat)(hL:L≤1000)(f:α→Option Int):∀ (l:List α) (i:Nat) (s:Int) (c0:Nat),(∀ a∈l,∃ r,f a=some r∧Cap L (cnt a) r)→1≤s→s≤c0→(c0≤L→s=c0)→(L<c0→L<s)→c0+(l.map cnt).sum≤2097152→
 ∃ r,thenL (ρ:=Int) (forL (fun _ v s=>bif decide ((L:Int)<s) then some (.rt s) else(f v).bind fun w=>some (.nx (wr (s+w)))) l i s) (fun s=>some s)=some r∧Cap L (c0+(l.map cnt).sum) r
 | [],i,s,c0,_,h1,h2,h3,h4,_=>⟨s,rfl,by simpa using⟨h1,h2,h3,h4⟩⟩
 | a::l,i,s,c0,hf,h1,h2,h3,h4,hb=>by
  simp only[aP,bA] at hb ⊢
  by_cases e:(L:Int)<s
  ·rw[forL_rt (r:=s) (by rw[decide_eq_true e]; rfl),thenL_inl]
   exact⟨s,rfl,h1,by omega,fun g=>by omega,fun _=>e⟩
  ·obtain⟨r,hr,c1,c2,c3,c4⟩:=hf a (by simp)
   have hs:s=c0:=h3 (by omega)
   rw[forL_nx (s':=wr (s+r)) (by rw[decide_eq_false e,cond_false,hr]; rfl),wr64 (by omega) (by omega)]
   have:=gsize_loop cnt L hL f l (i+1) (s+r) (c0+cnt a) (fun b hb=>hf b (by simp[hb])) (by omega) (by omega) (fun g=>by have:=c3 (by omega); omega) (fun g=>by
    by_cases g2:cnt a≤L
    ·have:=c3 g2; omega
    ·have:=c4 (by omega); omega) (by omega)
   rwa [Nat.add_assoc] at this
theorem gmany_loop{α:Type}(cnt:α→Nat)(M:Nat)(hM:M≤1000)(f:α→Int→Option Int)(L:Nat)(hL:L≤M):∀ (l:List α) (i:Nat) (s:Int) (c0:Nat),(∀ a∈l,∀ L':Nat,L'≤M→∃ r,f a L'=some r∧Cap L' (cnt a) r)→1≤s→s≤c0→(c0≤L→s=c0)→(L<c0→L<s)→c0+(l.map cnt).sum≤2097152→
 ∃ r,thenL (ρ:=Int) (forL (fun _ v s=>bif decide (s≤(L:Int)) then(f v (wr ((L:Int)-s))).bind fun w=>some (.nx (wr (s+w))) else some (.rt s)) l i s) (fun s=>some s)=some r∧Cap L (c0+(l.map cnt).sum) r
 | [],i,s,c0,_,h1,h2,h3,h4,_=>⟨s,rfl,by simpa using⟨h1,h2,h3,h4⟩⟩
 | a::l,i,s,c0,hf,h1,h2,h3,h4,hb=>by
  simp only[aP,bA] at hb ⊢
  by_cases e:s≤(L:Int)
  ·have hs:s=c0:=h3 (by omega)
   have eL:wr ((L:Int)-s)=((L-c0:Nat):Int):=by rw[wr64 (by omega) (by omega)]; omega
   obtain⟨r,hr,c1,c2,c3,c4⟩:=hf a (by simp) (L-c0) (by omega)
   rw[forL_nx (s':=wr (s+r)) (by rw[decide_eq_true e,cond_true,eL,hr]; rfl),wr64 (by omega) (by omega)]
   have:=gmany_loop cnt M hM f L hL l (i+1) (s+r) (c0+cnt a) (fun b hb=>hf b (by simp[hb])) (by omega) (by omega) (fun g=>by have:=c3 (by omega); omega) (fun g=>by
    by_cases g2:cnt a≤L-c0
    ·omega
    ·have:=c4 (by omega); omega) (by omega)
   rwa [Nat.add_assoc] at this
  ·rw[forL_rt (r:=s) (by rw[decide_eq_false e]; rfl),thenL_inl]
   exact⟨s,rfl,h1,by omega,fun g=>by omega,fun _=>by omega⟩
theorem sizeOf_eq(t:Ft):t.cnt≤2097152→∃ r,(∀ n,2*aM t≤n→impl_sizeOfN n t=some r)∧Cap 40 t.cnt r:=by
 refine Ft.ind' (M:=fun t=>t.cnt≤2097152→∃ r,(∀ n,2*aM t≤n→impl_sizeOfN n t=some r)∧Cap 40 t.cnt r) (fun t ih hc=>?_) t
 rw[Ft.cnt_u] at hc ⊢
 have hp:=t.pos
 obtain⟨R,hR⟩:=mem_choice (fun a ha=>ih a ha (by have:=le_sum_mem Ft.cnt ha; omega))
 obtain⟨r,h1,h2⟩:=gsize_loop Ft.cnt 40 (by omega) (fun a=>some (R a)) t.Parts 0 1 1 (fun a ha=>⟨R a,rfl,(hR a ha).2⟩) (by omega) (by omega) (by omega) (by omega) hc
 refine⟨r,fun n hn=>?_,h2⟩
 cases n with
 | zero=>omega
 | succ n=>
  rw[impl_sizeOfN]
  simp only[forN_idx]
  rw[← h1]
  congr 1
  refine forL_congr t.Parts 0 1 (fun j a s ha=>?_)
  have ha:=List.mem_of_getElem? ha
  have:=Ft.lt ha
  simp only[(hR a ha).1 n (by omega)]
  rfl
theorem sizeOf_ok(t:Ft)(h:t.tot≤1048576):∃ r,impl_sizeOf t=some r∧Cap 40 t.cnt r:=by
 obtain⟨r,h1,h2⟩:=sizeOf_eq t (by have:=Ft.cnt_tot t; omega)
 exact⟨r,lim_eq ⟨_,h1⟩,h2⟩
theorem l8Many_st(t:Ft):∀ n m,2*aM t≤n→2*aM t≤m→∀ L,spec_l8ManyN n t L=spec_l8ManyN m t L:=by
 refine Ft.ind' (M:=fun t=>∀ n m,2*aM t≤n→2*aM t≤m→∀ L,spec_l8ManyN n t L=spec_l8ManyN m t L) (fun t ih n m hn hm L=>?_) t
 have hp:=t.pos
 cases n with
 | zero=>omega
 | succ n=>
  cases m with
  | zero=>omega
  | succ m=>
   rw[spec_l8ManyN,spec_l8ManyN]
   congr 1
   refine forN_congr _ _ _ (fun j s hj=>?_)
   simp only[Nat.zero_add] at hj ⊢
   rw[idx_getD hj]
   simp only[ai]
   have hm':=getD_mem hj
   have:=Ft.lt hm'
   rw[ih _ hm' n m (by omega) (by omega)]
theorem l8Many_eq(t:Ft):t.cnt≤2097152→∀ n,2*aM t≤n→∀ L:Nat,L≤40→∃ r,spec_l8ManyN n t L=some r∧Cap L t.cnt r:=by
 refine Ft.ind' (M:=fun t=>t.cnt≤2097152→∀ n,2*aM t≤n→∀ L:Nat,L≤40→∃ r,spec_l8ManyN n t L=some r∧Cap L t.cnt r) (fun t ih hc n hn L hL=>?_) t
 rw[Ft.cnt_u] at hc ⊢
 have hp:=t.pos
 cases n with
 | zero=>omega
 | succ n=>
  rw[spec_l8ManyN]
  obtain⟨r,h1,h2⟩:=gmany_loop Ft.cnt 40 (by omega) (spec_l8ManyN n) L hL t.Parts 0 1 1 (fun a ha L' hL'=>ih a ha (by have:=le_sum_mem Ft.cnt ha; omega) n (by have:=Ft.lt ha; omega) L' hL') (by omega) (by omega) (by omega) (by omega) hc
  refine⟨r,?_,h2⟩
  rw[← h1]
  congr 1
  refine forN_forL _ _ t.Parts 0 1 (fun j a s ha=>?_)
  simp only[Nat.zero_add,idx_nat,ha,ai]
theorem l8Many_ok(t:Ft)(h:t.tot≤1048576):∃ r,spec_l8Many t 40=some r∧Cap 40 t.cnt r:=by
 obtain⟨r,h1,h2⟩:=l8Many_eq t (by have:=Ft.cnt_tot t; omega) _ (a7 _) 40 (by omega)
 exact⟨r,lim_st (fun n hn=>l8Many_st t _ _ hn (a7 _) _) h1,h2⟩
/-! forms -/
def formC(o:Int)(t:Tt)(v:ByteArray)(k:Nat):Bool:=
 bif decide (o=3) then decide (k=0)&&(atomT t&&decide (v=(⟨#[]⟩:ByteArray)))
 else bif decide (o=8)||decide (o=9) then decide (k=1)&&(zeroT t&&isVarS v)
 else(bif decide (o=1)||decide (o=2) then decide (k=0) else bif decide (o=4) then decide (k=1) else bif decide (o=5)||(decide (o=6)||decide (o=7)) then decide (k=2) else false)&&(zeroT t&&decide (v=(⟨#[]⟩:ByteArray)))
theorem op_cases(o:Int):o=1∨o=2∨o=3∨o=4∨o=5∨o=6∨o=7∨o=8∨o=9∨(o≠1∧o≠2∧o≠3∧o≠4∧o≠5∧o≠6∧o≠7∧o≠8∧o≠9):=by omega
theorem l8Form_ok(a:Ft)(h:a.tot≤1048576)(hok:a.Ok):spec_l8Form a=some (formC a.Op a.Atom a.Var a.Parts.length):=by
 obtain⟨h1,h2,h3,h4⟩:=hok.u
 have ht:=a.tot_u
 unfold spec_l8Form formC
 have e0:decide ((a.Parts.length:Int)=0)=decide (a.Parts.length=0):=decide_eq_decide.2 (by omega)
 have e1:decide ((a.Parts.length:Int)=1)=decide (a.Parts.length=1):=decide_eq_decide.2 (by omega)
 have e2:decide ((a.Parts.length:Int)=2)=decide (a.Parts.length=2):=decide_eq_decide.2 (by omega)
 rw[zeroT_spec,atom_spec _ (by omega) h2,l2Var_eq _ h3,e0,e1,e2]
 simp only[ai]
 generalize zeroT a.Atom=z
 generalize atomT a.Atom=y
 generalize isVarS a.Var=x
 generalize decide (a.Parts.length=0)=k0
 generalize decide (a.Parts.length=1)=k1
 generalize decide (a.Parts.length=2)=k2
 generalize decide (a.Var=(⟨#[]⟩:ByteArray))=u
 rcases op_cases a.Op with e | e | e | e | e | e | e | e | e | ⟨g1,g2,g3,g4,g5,g6,g7,g8,g9⟩
 all_goals first | (simp only[e]; revert z y x k0 k1 k2 u; decide) | (simp only[g1,g2,g3,g4,g5,g6,g7,g8,g9]; rfl)
mutual
def Ft.good:Ft→Bool
 | .mk o t v l=>formC o t v l.length&&Ft.goods l
def Ft.goods:List Ft→Bool
 | []=>true
 | a::l=>a.good&&Ft.goods l
end
theorem Ft.goods_eq(l:List Ft):Ft.goods l=l.all Ft.good:=by
 induction l with
 | nil=>rfl
 | cons a l ih=>rw[Ft.goods,ih]; rfl
theorem Ft.good_u(a:Ft):a.good=(formC a.Op a.Atom a.Var a.Parts.length&&a.Parts.all Ft.good):=by cases a; rw[Ft.good,Ft.goods_eq]; rfl
theorem ltot_mem{α:Type}{t:α→Nat}{l:List α}{a:α}(h:a∈l):t a≤ltot t l:=by have:=tot_mem t h; omega
theorem l8Forms_eq(a:Ft):a.Ok→a.tot≤1048576→∀ n,3*aM a≤n→spec_l8FormsN n a=some a.good:=by
 refine Ft.ind' (M:=fun a=>a.Ok→a.tot≤1048576→∀ n,3*aM a≤n→spec_l8FormsN n a=some a.good) (fun a ih hok ht n hn=>?_) a
 obtain⟨h1,h2,h3,h4,hall⟩:=hok.u
 have hpos:=a.pos
 have htu:=a.tot_u
 cases n with
 | zero=>omega
 | succ n=>
  rw[spec_l8FormsN,l8Form_ok a ht hok,Ft.good_u,ai]
  cases formC a.Op a.Atom a.Var a.Parts.length
  ·rfl
  ·rw[cond_true,Bool.true_and,forN_all (fun j=>(a.Parts.getD j default).good) (fun j hj _=>?_),range_all_list a.Parts Ft.good]
   ·cases a.Parts.all Ft.good<;>rfl
   ·have ha:=getD_mem hj
    have hs:=Ft.lt ha
    have hm:=ltot_mem (t:=Ft.tot) ha
    simp only[idx_getD hj,ai,ih _ ha (hall _ ha) (by omega) n (by omega)]
    cases (a.Parts.getD j default).good<;>rfl
theorem isQ_eq(x:Int):impl_isQuantifier x=some (decide (x=8)||decide (x=9)):=by
 unfold impl_isQuantifier
 cases decide (x=8)<;>rfl
theorem isBin_eq(x:Int):impl_isBinary x=some (decide (x=5)||(decide (x=6)||decide (x=7))):=by
 unfold impl_isBinary
 cases decide (x=5)<;>cases decide (x=6)<;>rfl
theorem contFm{p:Ft→Bool}{f:Ft→Option Bool}(l:List Ft)(h:∀ a∈l,f a=some (p a)):slices_ContainsFunc_Simpl_Formula_impl_Formula l f=some (l.any p):=by
 unfold slices_ContainsFunc_Simpl_Formula_impl_Formula slices_IndexFunc_Simpl_Formula_impl_Formula
 exact find_list (p:=p) l h
theorem hasForm_eq(a:Ft):a.Ok→a.tot≤1048576→∀ n,3*aM a≤n→impl_hasFormN n a=some a.good:=by
 refine Ft.ind' (M:=fun a=>a.Ok→a.tot≤1048576→∀ n,3*aM a≤n→impl_hasFormN n a=some a.good) (fun a ih hok ht n hn=>?_) a
 obtain⟨h1,h2,h3,h4,hall⟩:=hok.u
 have hpos:=a.pos
 have htu:=a.tot_u
 cases n with
 | zero=>omega
 | succ n=>
  have hc:slices_ContainsFunc_Simpl_Formula_impl_Formula a.Parts (fun y0=>impl_hasForm_1N n y0)=some (!a.Parts.all Ft.good):=by
   rw[contFm (p:=fun x=>!x.good) a.Parts (fun x hx=>?_),List.all_eq_not_any_not,Bool.not_not]
   have hs:=Ft.lt hx
   have hm:=ltot_mem (t:=Ft.tot) hx
   cases n with
   | zero=>omega
   | succ n=>rw[impl_hasForm_1N,ih x hx (hall x hx) (by omega) n (by omega)]; rfl
  have e0:decide ((a.Parts.length:Int)=0)=decide (a.Parts.length=0):=decide_eq_decide.2 (by omega)
  have e1:decide ((a.Parts.length:Int)=1)=decide (a.Parts.length=1):=decide_eq_decide.2 (by omega)
  have e2:decide ((a.Parts.length:Int)=2)=decide (a.Parts.length=2):=decide_eq_decide.2 (by omega)
  rw[impl_hasFormN,Ft.good_u]
  unfold formC
  simp only[hc,e0,e1,e2,isQ_eq,isBin_eq,isVariable_eq _ h3,zeroT_impl,atom_impl _ (show a.Atom.tot≤1048576 by omega) h2,ai]
  clear hc e0 e1 e2 ih
  generalize zeroT a.Atom=z
  generalize atomT a.Atom=y
  generalize isVarS a.Var=x
  generalize decide (a.Parts.length=0)=k0
  generalize decide (a.Parts.length=1)=k1
  generalize decide (a.Parts.length=2)=k2
  generalize decide (a.Var=(⟨#[]⟩:ByteArray))=u
  generalize a.Parts.all Ft.good=w
  rcases op_cases a.Op with e | e | e | e | e | e | e | e | e | ⟨g1,g2,g3,g4,g5,g6,g7,g8,g9⟩
  all_goals first | (simp only[e]; clear e htu; revert z y x k0 k1 k2 u w; decide) | (simp only[g1,g2,g3,g4,g5,g6,g7,g8,g9]; rfl)
def validF(a:Ft):Bool:=decide (a.cnt≤40)&&a.good
theorem validF_impl(a:Ft)(h:a.tot≤1048576)(hok:a.Ok):impl_IsValidFormula a=some (validF a):=by
 obtain⟨r,h1,h2⟩:=sizeOf_ok a h
 unfold impl_IsValidFormula validF
 rw[h1,ai,show decide (r≤40)=decide (a.cnt≤40) from h2.le,show impl_hasForm a=some a.good from lim_eq ⟨_,hasForm_eq a hok h⟩]
 cases decide (a.cnt≤40)<;>rfl
theorem validF_spec(a:Ft)(h:a.tot≤1048576)(hok:a.Ok):spec_l8Good a=some (validF a):=by
 obtain⟨r,h1,h2⟩:=l8Many_ok a h
 unfold spec_l8Good validF
 rw[h1,ai,show decide (r≤40)=decide (a.cnt≤40) from h2.le,show spec_l8Forms a=some a.good from lim_eq ⟨_,l8Forms_eq a hok h⟩]
 cases decide (a.cnt≤40)<;>rfl
end
section
/-! numbers as texts -/
def VN:List ByteArray:=[⟨#[118,49]⟩,⟨#[118,50]⟩,⟨#[118,51]⟩,⟨#[118,52]⟩,⟨#[118,53]⟩,⟨#[118,54]⟩,⟨#[118,55]⟩,⟨#[118,56]⟩,⟨#[118,57]⟩,⟨#[118,49,48]⟩,⟨#[118,49,49]⟩,⟨#[118,49,50]⟩]
def DG:List ByteArray:=[⟨#[49]⟩,⟨#[50]⟩,⟨#[51]⟩,⟨#[52]⟩,⟨#[53]⟩,⟨#[54]⟩,⟨#[55]⟩,⟨#[56]⟩,⟨#[57]⟩,⟨#[49,48]⟩,⟨#[49,49]⟩,⟨#[49,50]⟩]
def vnm(k:Nat):ByteArray:=VN.getD k default
def dgm(k:Nat):ByteArray:=DG.getD k default
theorem twelve{k:Nat}(h:k<12):k=0∨k=1∨k=2∨k=3∨k=4∨k=5∨k=6∨k=7∨k=8∨k=9∨k=10∨k=11:=by omega
set_option maxRecDepth 4000 in
theorem Itoa_eq{k:Nat}(h:k<12):strconv_Itoa ((k+1:Nat):Int)=some (dgm k):=by
 rcases twelve h with rfl | rfl | rfl | rfl | rfl | rfl | rfl | rfl | rfl | rfl | rfl | rfl<;>rfl
theorem vn_app{k:Nat}(h:k<12):sapp (⟨#[118]⟩:ByteArray) (dgm k)=some (vnm k):=by
 rcases twelve h with rfl | rfl | rfl | rfl | rfl | rfl | rfl | rfl | rfl | rfl | rfl | rfl<;>rfl
theorem num_eq{k:Nat}(h:k<12):spec_l1Num ((k+1:Nat):Int)=some (dgm k):=by
 refine lim_eq ⟨2,fun n hn=>?_⟩
 obtain⟨m,rfl⟩:∃ m,n=m+2:=⟨n-2,by omega⟩
 rcases twelve h with rfl | rfl | rfl | rfl | rfl | rfl | rfl | rfl | rfl | rfl | rfl | rfl<;>rfl
/-! the first number of a search -/
def fnd(p:Nat→Bool):Nat→Nat→Int
 | 0,_=>0
 | n+1,i=>bif p i then(i:Int) else fnd p n (i+1)
theorem fnd_no{p:Nat→Bool}:∀ (n i:Nat),(∀ j,i≤j→j<i+n→p j=false)→fnd p n i=0
 | 0,_,_=>rfl
 | n+1,i,h=>by rw[fnd,h i (by omega) (by omega),cond_false,fnd_no n (i+1) (fun j h1 h2=>h j (by omega) (by omega))]
theorem fnd_one{p:Nat→Bool}{j:Nat}:∀ (n i:Nat),i≤j→j<i+n→p j=true→(∀ k,i≤k→k<j→p k=false)→fnd p n i=(j:Int)
 | 0,i,h1,h2,_,_=>by omega
 | n+1,i,h1,h2,h3,h4=>by
  by_cases e:i=j
  ·subst e; rw[fnd,h3]; rfl
  ·rw[fnd,h4 i (by omega) (by omega),cond_false,fnd_one n (i+1) (by omega) (by omega) h3 (fun k g1 g2=>h4 k (by omega) g2)]
theorem while_fnd{p:Nat→Bool}{f:Int→Option (Flow Int Int)}{N:Nat}(hlt:∀ i:Nat,1≤i→i≤N→f (i:Int)=some (bif p i then .rt (i:Int) else .nx ((i+1:Nat):Int)))(hge:f ((N+1:Nat):Int)=some (.br ((N+1:Nat):Int))):
 ∀ (n i:Nat),1≤i→i+n=N+1→∃ r,Ev (fun m=>whileN f m (i:Int)) r∧thenL (ρ:=Int) (some r) (fun _=>some 0)=some (fnd p n i)
 | 0,i,h0,h=>by
  have e:i=N+1:=by omega
  subst e
  exact⟨_,ev_br hge,rfl⟩
 | n+1,i,h0,h=>by
  have hi:=hlt i h0 (by omega)
  cases hp:p i with
  | true=>rw[hp] at hi; exact⟨_,ev_rt hi,by rw[fnd,hp]; rfl⟩
  | false=>
   rw[hp] at hi
   obtain⟨r,h1,h2⟩:=while_fnd hlt hge n (i+1) (by omega) (by omega)
   exact⟨r,ev_nx hi h1,by rw[h2,fnd,hp]; rfl⟩
def nmOf(s:ByteArray):Int:=fnd (fun i=>decide (s=vnm (i-1))) 12 1
def varOf(t:Tt):Int:=bif t.Args.isEmpty then nmOf t.Name else 0
theorem vnm_inj{i j:Nat}(hi:i<12)(hj:j<12)(h:vnm i=vnm j):i=j:=by
 have key:∀ i,i<12→∀ j,j<12→(vnm i).data.toList=(vnm j).data.toList→i=j:=by decide
 exact key i hi j hj (by rw[h])
theorem nmOf_vnm{k:Nat}(h:k<12):nmOf (vnm k)=((k+1:Nat):Int):=by
 refine fnd_one (j:=k+1) 12 1 (by omega) (by omega) (decide_eq_true rfl) (fun i h1 h2=>decide_eq_false fun e=>?_)
 have:=vnm_inj h (by omega) e
 omega
theorem nmOf_none{s:ByteArray}(h:∀ k,k<12→s≠vnm k):nmOf s=0:=fnd_no 12 1 (fun j h1 h2=>decide_eq_false (h (j-1) (by omega)))
theorem variableOf_eq(t:Tt):impl_variableOf t=some (varOf t):=by
 unfold impl_variableOf
 obtain⟨r,h1,h2⟩:=while_fnd (p:=fun i=>t.Args.isEmpty&&decide (t.Name=vnm (i-1))) (N:=12) (f:=fun (s2:Int)=>
  bif decide (s2≤(12:Int)) then
   bif decide ((t.Args.length:Int)=(0:Int)) then
    aa (strconv_Itoa s2) fun v16=>
    aa (sapp (⟨#[118]⟩:ByteArray) v16) fun v17=>
    bif decide (t.Name=v17) then
     some (.rt s2)
    else
     some (.nx (IntKind.i64.wrap (s2+(1:Int))))
   else
    some (.nx (IntKind.i64.wrap (s2+(1:Int))))
  else
   some (.br s2)) (fun i g1 g2=>by
   obtain⟨k,rfl⟩:∃ k,i=k+1:=⟨i-1,by omega⟩
   rw[decide_eq_true (by omega),cond_true,isEmpty_dec]
   cases t.Args.isEmpty
   ·rw[cond_false,wrap_succ (by omega)]; rfl
   ·rw[cond_true,Itoa_eq (by omega),ai,vn_app (by omega),ai,wrap_succ (by omega),Nat.add_sub_cancel]
    cases decide (t.Name=vnm k)<;>rfl) (by rw[decide_eq_false (by omega),cond_false]) 12 1 (by omega) rfl
 have e:thenL (ρ:=Int) (σ:=Int) (lim fun n2=>whileN (fun (s2:Int)=>
  bif decide (s2≤(12:Int)) then
   bif decide ((t.Args.length:Int)=(0:Int)) then
    aa (strconv_Itoa s2) fun v16=>
    aa (sapp (⟨#[118]⟩:ByteArray) v16) fun v17=>
    bif decide (t.Name=v17) then
     some (.rt s2)
    else
     some (.nx (IntKind.i64.wrap (s2+(1:Int))))
   else
    some (.nx (IntKind.i64.wrap (s2+(1:Int))))
  else
   some (.br s2)) n2 (1:Int)) (fun s2=>some (0:Int))=some (fnd (fun i=>t.Args.isEmpty&&decide (t.Name=vnm (i-1))) 12 1):=by
  exact(congrArg (fun z=>thenL z (fun s2=>some (0:Int))) (lim_eq h1)).trans h2
 rw[e]
 unfold varOf nmOf
 cases t.Args.isEmpty
 ·exact congrArg some (fnd_no 12 1 (fun _ _ _=>rfl))
 ·rfl
/-! numbers that are read -/
end
section
/-! the same -/
noncomputable def same{α:Type}(a b:α):Bool:=@decide (a=b) (Classical.propDecidable _)
theorem same_iff{α:Type}{a b:α}:same a b=true↔a=b:=by unfold same; exact @decide_eq_true_iff _ (Classical.propDecidable _)
theorem same_len{α:Type}{xs ys:List α}(h:¬ xs.length=ys.length):same xs ys=false:=by
 cases e:same xs ys
 ·rfl
 ·rw[same_iff] at e; exact absurd (by rw[e]) h
theorem all_same{α:Type}[Inhabited α]{xs ys:List α}(h:xs.length=ys.length):(List.range xs.length).all (fun j=>same (xs.getD j default) (ys.getD j default))=same xs ys:=by
 rw[Bool.eq_iff_iff,bc,same_iff]
 constructor
 ·intro g
  refine List.ext_getElem h (fun i h1 h2=>?_)
  have:=same_iff.1 (g i (by simpa using h1))
  simpa[List.getD,h1,h2] using this
 ·rintro rfl x _
  exact same_iff.2 rfl
theorem same_loop{α:Type}[Inhabited α](f:α→α→Option Bool)(xs ys:List α)(h:xs.length=ys.length)(hf:∀ a∈xs,∀ b,f a b=some (same a b)):
 thenL (ρ:=Bool) (σ:=Unit) (forN (fun (i:Nat) (_:Unit)=>aa (idx xs (i:Int)) fun v=>aa (idx ys (i:Int)) fun w=>aa (f v w) fun x=>bif x then some (.nx ()) else some (.rt false)) xs.length 0 ()) (fun _=>some true)=some (same xs ys):=by
 rw[forN_all (fun j=>same (xs.getD j default) (ys.getD j default)) (r0:=false) (fun j hj _=>?_),all_same h]
 ·cases same xs ys<;>rfl
 ·rw[idx_getD hj,idx_getD (h▸hj),ai,ai,hf _ (getD_mem hj),ai]
  cases same (xs.getD j default) (ys.getD j default)<;>rfl
theorem len_dec'{α:Type}(xs ys:List α):decide ((xs.length:Int)=(ys.length:Int))=decide (xs.length=ys.length):=decide_eq_decide.2 (by omega)
theorem Tt.same_u(a b:Tt):same a b=(decide (a.Name=b.Name)&&same a.Args b.Args):=by
 rw[Bool.eq_iff_iff,same_iff,aD,same_iff,decide_eq_true_iff]
 constructor
 ·rintro rfl; exact⟨rfl,rfl⟩
 ·rintro ⟨h1,h2⟩; rw[← a.eta,← b.eta,h1,h2]
theorem EqualTermsN_eq(a:Tt):∀ b n,2*aM a≤n→impl_EqualTermsN n a b=some (same a b):=by
 refine Tt.ind' (M:=fun a=>∀ b n,2*aM a≤n→impl_EqualTermsN n a b=some (same a b)) (fun a ih b n hn=>?_) a
 have hp:=a.pos
 cases n with
 | zero=>omega
 | succ n=>
  rw[impl_EqualTermsN,Tt.same_u]
  unfold slices_EqualFunc_Simpl_Term_Simpl_Term_impl_Term_impl_Term
  rw[len_dec']
  cases decide (a.Name=b.Name)
  ·rfl
  ·by_cases h:a.Args.length=b.Args.length
   ·have k:=fun x (hx:x∈a.Args) y=>ih x hx y n (by have:=Tt.lt hx; omega)
    rw[decide_eq_true h,cond_true]
    rw[cond_true,same_loop (impl_EqualTermsN n) a.Args b.Args h (fun x hx y=>k x hx y)]; rfl
   ·rw[decide_eq_false h,same_len h]; rfl
theorem EqualTerms_ok(a b:Tt):impl_EqualTerms a b=some (same a b):=lim_eq ⟨_,fun n hn=>EqualTermsN_eq a b n hn⟩
/-! what is among numbers -/
def hasI(l:List Int)(x:Int):Bool:=decide (x∈l)
theorem any_hasI(l:List Int)(x:Int):l.any (fun v=>decide (x=v))=hasI l x:=by
 unfold hasI
 rw[Bool.eq_iff_iff,List.any_eq_true,decide_eq_true_iff]
 constructor
 ·rintro ⟨v,h1,h2⟩; rw[of_decide_eq_true h2]; exact h1
 ·exact fun h=>⟨x,h,decide_eq_true rfl⟩
theorem Contains_eq(l:List Int)(x:Int):slices_Contains_Sint_int l x=some (hasI l x):=by
 unfold slices_Contains_Sint_int slices_Index_Sint_int
 rw[← any_hasI]
 exact find_list (f:=fun v=>some (decide (x=v))) (p:=fun v=>decide (x=v)) l (fun _ _=>rfl)
theorem Has_eq(l:List Int)(x:Int):spec_l1Has l x=some (hasI l x):=by
 unfold spec_l1Has
 rw[forN_all (fun j=>!decide (l.getD j default=x)) (r0:=true) (fun j hj _=>by
  rw[idx_getD hj,ai]
  cases decide (l.getD j default=x)<;>rfl),range_all_list l (fun v=>!decide (v=x)),List.all_eq_not_any_not]
 have:l.any (fun v=>!!decide (v=x))=hasI l x:=by
  rw[← any_hasI]
  congr 1; funext v
  rw[Bool.not_not]; exact decide_eq_decide.2 eq_comm
 rw[this]
 cases hasI l x<;>rfl
theorem ContainsFunc_int{f:Int→Option Bool}{p:Int→Bool}(xs:List Int)(h:∀ x∈xs,f x=some (p x)):slices_ContainsFunc_Sint_int xs f=some (xs.any p):=by
 unfold slices_ContainsFunc_Sint_int slices_IndexFunc_Sint_int
 exact find_list (p:=p) xs h
theorem abs_same{v:Int}(h:InR v):impl_absolute v=spec_l15Abs v:=by
 unfold InR at h
 unfold impl_absolute spec_l15Abs
 rw[IntKind.wrap_i64]
 by_cases g:v<0
 ·rw[decide_eq_true g,cond_true]; congr 1; omega
 ·rw[decide_eq_false g,cond_false]; congr 1; omega
theorem clause_same(l:List Int)(hl:∀ x∈l,InR x):impl_isPropClause l=spec_l15Clause l:=by
 unfold impl_isPropClause spec_l15Clause
 refine congrArg (fun z=>thenL z _) ?_
 refine forN_congr _ _ _ (fun j s hj=>?_)
 rw[Nat.zero_add]
 cases hx:idx l (j:Int) with
 | none=>rfl
 | some v=>
  rw[ai,ai,within_eq,ai]
  have habs:∀ v∈l,impl_absolute v=spec_l15Abs v:=fun v h=>abs_same (hl v h)
  have hmem:∀ {e:Int} {v:Int},idx l e=some v→v∈l:=fun h=>List.mem_of_getElem? (idx_some h).2.2
  have hv:∀ v:Int,spec_l15Abs v=some (if v<0 then IntKind.i64.wrap (0-v) else v):=fun v=>by
   unfold spec_l15Abs
   by_cases h:v<0
   ·rw[decide_eq_true h,if_pos h]; rfl
   ·rw[decide_eq_false h,if_neg h]; rfl
  rw[hv v,ai,l1In_eq,ai]
  by_cases h0:v=0
  ·subst h0; rfl
  ·rw[decide_eq_false h0,cond_false]
   have e:inR v (-12) 12=inR (if v<0 then IntKind.i64.wrap (0-v) else v) 1 12:=by
    simp only[inR]
    refine decide_eq_decide.2 ?_
    have hr:=hl v (hmem hx)
    unfold InR at hr
    split
    ·rw[IntKind.wrap_i64]; omega
    ·omega
   rw[e]
   cases inR (if v<0 then IntKind.i64.wrap (0-v) else v) 1 12
   ·rfl
   ·rw[cond_true,cond_true]
    by_cases hj0:(0:Int)<(j:Int)
    ·rw[decide_eq_true hj0,cond_true,cond_true]
     cases hu:idx l (IntKind.i64.wrap ((j:Int)-1)) with
     | none=>rfl
     | some u=>
      rw[ai,ai,habs u (hmem hu),hv u,ai,ai,habs v (hmem hx),hv v,ai,ai,hv v]; rfl
    ·rw[decide_eq_false hj0]; rfl
theorem varOf_nn(t:Tt):0≤varOf t∧varOf t≤12∧(varOf t≠0→t.Args=[]):=by
 unfold varOf
 cases h:t.Args with
 | cons a l=>exact⟨Int.le_refl _,(by omega:(0:Int)≤12),fun h=>absurd rfl h⟩
 | nil=>
  show 0≤nmOf t.Name∧nmOf t.Name≤12∧_
  by_cases hv:∃ k,k<12∧t.Name=vnm k
  ·obtain⟨k,hk,e⟩:=hv
   rw[e,nmOf_vnm hk]
   exact⟨by omega,by omega,fun _=>rfl⟩
  ·rw[nmOf_none (fun k hk e=>hv ⟨k,hk,e⟩)]
   exact⟨by omega,by omega,fun _=>rfl⟩
/-! atoms, quantifiers, truth -/
mutual
def Ft.ats:Ft→List Tt
 | .mk o t _ l=>bif decide (o=3) then [t] else Ft.atss l
def Ft.atss:List Ft→List Tt
 | []=>[]
 | a::l=>a.ats++Ft.atss l
end
theorem Ft.ats_u(a:Ft):a.ats=bif decide (a.Op=3) then [a.Atom] else Ft.atss a.Parts:=by cases a; rw[Ft.ats]; rfl
theorem atss_mem{t:Tt}:∀ {l:List Ft},t∈Ft.atss l↔∃ a∈l,t∈a.ats
 | []=>by simp[Ft.atss]
 | a::l=>by simp only[Ft.atss,List.mem_append,List.mem_cons,exists_eq_or_imp,atss_mem (l:=l)]
mutual
def Ft.vf:Ft→Bool
 | .mk o t _ l=>bif decide (o=3) then decide (0<varOf t) else bif decide (o=8) then false else bif decide (o=9) then false else Ft.vfs l
def Ft.vfs:List Ft→Bool
 | []=>true
 | a::l=>a.vf&&Ft.vfs l
end
theorem Ft.vfs_eq(l:List Ft):Ft.vfs l=l.all Ft.vf:=by
 induction l with
 | nil=>rfl
 | cons a l ih=>rw[Ft.vfs,ih]; rfl
theorem Ft.vf_u(a:Ft):a.vf=bif decide (a.Op=3) then decide (0<varOf a.Atom) else bif decide (a.Op=8) then false else bif decide (a.Op=9) then false else a.Parts.all Ft.vf:=by cases a; rw[Ft.vf,Ft.vfs_eq]; rfl
mutual
def Ft.hq:Ft→Bool
 | .mk o _ _ l=>(decide (o=8)||(decide (o=9)||false))||Ft.hqs l
def Ft.hqs:List Ft→Bool
 | []=>false
 | a::l=>a.hq||Ft.hqs l
end
theorem Ft.hqs_eq(l:List Ft):Ft.hqs l=l.any Ft.hq:=by
 induction l with
 | nil=>rfl
 | cons a l ih=>rw[Ft.hqs,ih]; rfl
theorem Ft.hq_u(a:Ft):a.hq=((decide (a.Op=8)||(decide (a.Op=9)||false))||a.Parts.any Ft.hq):=by cases a; rw[Ft.hq,Ft.hqs_eq]; rfl
mutual
def Ft.ev(p:Int→Bool):Ft→Bool
 | .mk o t _ l=>bif decide (o=1) then true else bif decide (o=2) then false else bif decide (o=3) then p (varOf t) else bif decide (o=4) then !(Ft.evs p l).getD 0 false else bif decide (o=5) then(Ft.evs p l).getD 0 false&&(Ft.evs p l).getD 1 false else bif decide (o=6) then(Ft.evs p l).getD 0 false||(Ft.evs p l).getD 1 false else !(Ft.evs p l).getD 0 false||(Ft.evs p l).getD 1 false
def Ft.evs(p:Int→Bool):List Ft→List Bool
 | []=>[]
 | a::l=>a.ev p::Ft.evs p l
end
theorem Ft.evs_eq(p:Int→Bool)(l:List Ft):Ft.evs p l=l.map (Ft.ev p):=by
 induction l with
 | nil=>rfl
 | cons a l ih=>rw[Ft.evs,ih]; rfl
theorem Ft.ev_u(p:Int→Bool)(a:Ft):a.ev p=bif decide (a.Op=1) then true else bif decide (a.Op=2) then false else bif decide (a.Op=3) then p (varOf a.Atom) else bif decide (a.Op=4) then !(a.Parts.map (Ft.ev p)).getD 0 false else bif decide (a.Op=5) then(a.Parts.map (Ft.ev p)).getD 0 false&&(a.Parts.map (Ft.ev p)).getD 1 false else bif decide (a.Op=6) then(a.Parts.map (Ft.ev p)).getD 0 false||(a.Parts.map (Ft.ev p)).getD 1 false else !(a.Parts.map (Ft.ev p)).getD 0 false||(a.Parts.map (Ft.ev p)).getD 1 false:=by cases a; rw[Ft.ev,Ft.evs_eq]; rfl
theorem good_parts{a:Ft}(h:a.good=true):∀ x∈a.Parts,x.good=true:=by
 rw[Ft.good_u,aD,bc] at h
 exact h.2
theorem good_form{a:Ft}(h:a.good=true):formC a.Op a.Atom a.Var a.Parts.length=true:=by
 rw[Ft.good_u,aD] at h
 exact h.1
theorem good_atom{a:Ft}(h:a.good=true)(e:a.Op=3):a.Parts=[]:=by
 have:=good_form h
 unfold formC at this
 rw[decide_eq_true e,cond_true,aD,decide_eq_true_iff] at this
 exact List.length_eq_zero_iff.1 this.1
theorem hasOp_eq(a:Ft):∀ n,3*aM a≤n→impl_hasOpN n a [8,9]=some a.hq:=by
 refine Ft.ind' (M:=fun a=>∀ n,3*aM a≤n→impl_hasOpN n a [8,9]=some a.hq) (fun a ih n hn=>?_) a
 have hp:=a.pos
 cases n with
 | zero=>omega
 | succ n=>
  have e:hasI [8,9] a.Op=(decide (a.Op=8)||(decide (a.Op=9)||false)):=by rw[← any_hasI]; rfl
  rw[impl_hasOpN,Contains_eq,ai,e,Ft.hq_u]
  cases (decide (a.Op=8)||(decide (a.Op=9)||false))
  ·rw[cond_false,contFm (p:=Ft.hq) a.Parts (fun x hx=>by
    have:=Ft.lt hx
    cases n with
    | zero=>omega
    | succ n=>rw[impl_hasOp_1N,ih x hx n (by omega)]; rfl)]; rfl
  ·rfl
theorem ats_loop(f:Ft→Option (List Tt)):∀ (l:List Ft) (i:Nat) (acc:List Tt),(∀ a∈l,f a=some a.ats)→acc.length+(Ft.atss l).length≤1073741824→
 forL (ρ:=List Tt) (fun _ x s=>(f x).bind fun v22=>(app s v22).bind fun v23=>some (.nx v23)) l i acc=some (.inr (acc++Ft.atss l))
 | [],i,acc,_,_=>by rw[forL_nil,Ft.atss,bu]
 | a::l,i,acc,h,hb=>by
  rw[Ft.atss,aV] at hb
  rw[forL_nx (s':=acc++a.ats) (by
   rw[h a (by simp),ai]; unfold app
   rw[if_pos (by omega)]; rfl),ats_loop f l (i+1) _ (fun x hx=>h x (by simp[hx])) (by rw[aV]; omega),Ft.atss,aT]
theorem atss_len{l:List Ft}{a:Ft}(h:a∈l):a.ats.length≤(Ft.atss l).length:=by
 induction l with
 | nil=>cases h
 | cons b l ih=>
  rw[Ft.atss,aV]
  rcases List.mem_cons.1 h with rfl | h
  ·omega
  ·have:=ih h; omega
theorem atomsOf_eq(a:Ft):a.ats.length≤1073741824→∀ n,2*aM a≤n→impl_atomsOfN n a=some a.ats:=by
 refine Ft.ind' (M:=fun a=>a.ats.length≤1073741824→∀ n,2*aM a≤n→impl_atomsOfN n a=some a.ats) (fun a ih hb n hn=>?_) a
 have hp:=a.pos
 rw[Ft.ats_u] at hb
 cases n with
 | zero=>omega
 | succ n=>
  rw[impl_atomsOfN,Ft.ats_u]
  cases e:decide (a.Op=3)
  ·rw[e,cond_false] at hb
   rw[cond_false,cond_false,forN_idx a.Parts (fun _ x s=>(impl_atomsOfN n x).bind fun v22=>(app s v22).bind fun v23=>some (.nx v23)),
    ats_loop (impl_atomsOfN n) a.Parts 0 [] (fun x hx=>ih x hx (by have:=atss_len hx; omega) n (by have:=Ft.lt hx; omega)) (by simpa using hb)]; rfl
  ·rfl
theorem atss_cnt:∀ {l:List Ft},(∀ a∈l,a.ats.length≤a.cnt)→(Ft.atss l).length≤(l.map Ft.cnt).sum
 | [],_=>by simp[Ft.atss]
 | a::l,h=>by
  have h1:=h a (by simp)
  have h2:=atss_cnt (l:=l) (fun x hx=>h x (by simp[hx]))
  rw[Ft.atss,aV,aP,bA]; omega
theorem ats_cnt(a:Ft):a.ats.length≤a.cnt:=by
 refine Ft.ind' (M:=fun a=>a.ats.length≤a.cnt) (fun a ih=>?_) a
 rw[Ft.ats_u,Ft.cnt_u]
 cases decide (a.Op=3)
 ·have:=atss_cnt ih
  rw[cond_false]; omega
 ·rw[cond_true]; simp
theorem atss_all(q:Tt→Bool):∀ l:List Ft,(Ft.atss l).all q=l.all (fun a=>a.ats.all q)
 | []=>rfl
 | a::l=>by rw[Ft.atss,List.all_append,atss_all q l]; rfl
theorem vf_split(a:Ft):a.good=true→a.vf=(!a.hq&&a.ats.all (fun t=>!decide (varOf t=0))):=by
 refine Ft.ind' (M:=fun a=>a.good=true→a.vf=(!a.hq&&a.ats.all (fun t=>!decide (varOf t=0)))) (fun a ih hg=>?_) a
 rw[Ft.vf_u,Ft.hq_u,Ft.ats_u]
 by_cases e:a.Op=3
 ·rw[decide_eq_true e,cond_true,cond_true,good_atom hg e,decide_eq_false (by omega:¬ a.Op=8),decide_eq_false (by omega:¬ a.Op=9)]
  have:=(varOf_nn a.Atom).1
  simp only[List.any_nil,Bool.or_false,Bool.not_false,Bool.true_and,List.all_cons,List.all_nil,Bool.and_true]
  by_cases h0:varOf a.Atom=0
  ·rw[h0]; rfl
  ·rw[decide_eq_false h0,decide_eq_true (by omega)]; rfl
 ·rw[decide_eq_false e,cond_false,cond_false]
  cases decide (a.Op=8)
  ·cases decide (a.Op=9)
   ·have hall:a.Parts.all Ft.vf=(!a.Parts.any Ft.hq&&(Ft.atss a.Parts).all (fun t=>!decide (varOf t=0))):=by
     rw[atss_all,Bool.eq_iff_iff,aD,Bool.not_eq_true',List.any_eq_false,bc,bc]
     constructor
     ·intro h
      refine⟨fun x hx=>?_,fun x hx=>?_⟩
      ·have:=h x hx
       rw[ih x hx (good_parts hg x hx),aD,Bool.not_eq_true'] at this
       rw[this.1]; simp
      ·have:=h x hx
       rw[ih x hx (good_parts hg x hx),aD] at this
       exact this.2
     ·rintro ⟨h1,h2⟩ x hx
      rw[ih x hx (good_parts hg x hx),aD,Bool.not_eq_true']
      exact⟨by simpa using h1 x hx,h2 x hx⟩
    rw[hall]; rfl
   ·rfl
  ·rfl
theorem vars_loop:∀ (l:List Tt) (i:Nat) (acc:List Int),acc.length+l.length≤1000000→
 thenL (ρ:=(List Int)×Bool) (forL (fun _ x s=>(impl_variableOf x).bind fun v25=>bif decide (v25=(0:Int)) then some (.rt ([],false)) else(app s [v25]).bind fun v31=>some (.nx v31)) l i acc) (fun s=>some (s,true))=some (bif l.all (fun t=>!decide (varOf t=0)) then(acc++l.map varOf,true) else([],false))
 | [],i,acc,_=>by rw[forL_nil]; simp[thenL_inr]
 | t::l,i,acc,hb=>by
  rw[aW] at hb
  rw[List.all_cons]
  by_cases h:varOf t=0
  ·rw[forL_rt (r:=([],false)) (by rw[variableOf_eq,ai,decide_eq_true h,cond_true]),thenL_inl,decide_eq_true h]; rfl
  ·rw[forL_nx (s':=acc++[varOf t]) (by
    rw[variableOf_eq,ai,decide_eq_false h,cond_false]; unfold app
    rw[if_pos (by simp; omega)]; rfl),vars_loop l (i+1) _ (by rw[aV]; simp; omega),decide_eq_false h,aT]; rfl
def okF(a:Ft):Bool:=validF a&&a.vf
theorem validF_cnt{a:Ft}(h:validF a=true):a.cnt≤40∧a.good=true:=by
 unfold validF at h
 rwa [aD,decide_eq_true_iff] at h
theorem variablesOf_eq(a:Ft)(h:a.tot≤1048576)(hok:a.Ok):impl_variablesOf a=some (bif okF a then(a.ats.map varOf,true) else([],false)):=by
 unfold impl_variablesOf okF
 rw[validF_impl a h hok,ai]
 cases hv:validF a
 ·rfl
 ·obtain⟨h1,h2⟩:=validF_cnt hv
  have hl:=ats_cnt a
  rw[cond_true,show impl_hasOp a [8,9]=some a.hq from lim_eq ⟨_,hasOp_eq a⟩,ai,vf_split a h2]
  cases a.hq
  ·rw[cond_false,show impl_atomsOf a=some a.ats from lim_eq ⟨_,atomsOf_eq a (by omega)⟩,ai]
   have e:=forN_idx (ρ:=(List Int)×Bool) a.ats (fun i x (s:List Int)=>(idx a.ats (i:Int)).bind fun v23=>(impl_variableOf v23).bind fun v25=>bif decide (v25=(0:Int)) then some (.rt ([],false)) else(app s [v25]).bind fun v31=>some (.nx v31)) []
   rw[e,forL_congr (g:=fun _ x s=>(impl_variableOf x).bind fun v25=>bif decide (v25=(0:Int)) then some (.rt ([],false)) else(app s [v25]).bind fun v31=>some (.nx v31)) a.ats 0 [] (fun j x s hx=>by
    rw[Nat.zero_add,idx_nat,hx,ai]),vars_loop a.ats 0 [] (by simp; omega)]
   rfl
  ·rfl
end
section
/-! clauses of numbers -/
def absI(v:Int):Int:=if v<0 then IntKind.i64.wrap (0-v) else v
theorem abs_eq(v:Int):spec_l15Abs v=some (absI v):=by
 unfold spec_l15Abs absI
 by_cases h:v<0
 ·rw[decide_eq_true h,if_pos h]; rfl
 ·rw[decide_eq_false h,if_neg h]; rfl
def clauseB(l:List Int):Bool:=(List.range l.length).all (fun j=>inR (absI (l.getD j default)) 1 12&&(decide (j=0)||decide (absI (l.getD (j-1) default)<absI (l.getD j default))))
theorem clause_eq(l:List Int)(hb:l.length≤1048576):spec_l15Clause l=some (clauseB l):=by
 unfold spec_l15Clause clauseB
 rw[forN_all (fun j=>inR (absI (l.getD j default)) 1 12&&(decide (j=0)||decide (absI (l.getD (j-1) default)<absI (l.getD j default)))) (r0:=false) (fun j hj _=>by
  rw[idx_getD hj,ai,abs_eq,ai,l1In_eq,ai]
  cases inR (absI (l.getD j default)) 1 12
  ·rfl
  ·rw[cond_true,Bool.true_and]
   by_cases h0:j=0
   ·subst h0; rfl
   ·rw[decide_eq_true (by omega:(0:Int)<(j:Int)),cond_true,idx_pred hj (by omega) (by omega),ai,abs_eq,ai,ai,abs_eq,ai,decide_eq_false h0,Bool.false_or]
    by_cases hlt:absI (l.getD (j-1) default)<absI (l.getD j default)
    ·rw[decide_eq_true hlt,decide_eq_false (by omega)]; rfl
    ·rw[decide_eq_false hlt,decide_eq_true (by omega)]; rfl)]
 cases (List.range l.length).all (fun j=>inR (absI (l.getD j default)) 1 12&&(decide (j=0)||decide (absI (l.getD (j-1) default)<absI (l.getD j default))))<;>rfl
/-! bits -/
theorem bitor_nat{x y:Nat}(hx:x<2 ^ 62)(hy:y<2 ^ 62):bitor .i64 (x:Int) (y:Int)=((x||| y:Nat):Int):=by
 have h:x||| y<2 ^ 62:=Nat.or_lt_two_pow hx hy
 show IntKind.i64.wrap (((BitVec.ofInt 64 (x:Int)||| BitVec.ofInt 64 (y:Int)).toNat:Nat):Int)=_
 rw[BitVec.ofInt_natCast,BitVec.ofInt_natCast,BitVec.toNat_or,BitVec.toNat_ofNat,BitVec.toNat_ofNat,Nat.mod_eq_of_lt (by omega),Nat.mod_eq_of_lt (by omega),wrap64 (by omega) (by omega)]
theorem bitand_one{x:Nat}(hx:x<2 ^ 62):bitand .i64 (x:Int) 1=((x % 2:Nat):Int):=by
 show IntKind.i64.wrap (((BitVec.ofInt 64 (x:Int)&&& BitVec.ofInt 64 ((1:Nat):Int)).toNat:Nat):Int)=_
 rw[BitVec.ofInt_natCast,BitVec.ofInt_natCast,BitVec.toNat_and,BitVec.toNat_ofNat,BitVec.toNat_ofNat,Nat.mod_eq_of_lt (by omega:x<2 ^ 64),show 1 % 2 ^ 64=2 ^ 1-1 from rfl,Nat.and_two_pow_sub_one_eq_mod,wrap64 (by omega) (by omega)]
theorem shr_eq{x j:Nat}(hj:j≤64):shr .i64 (x:Int) (j:Int)=some ((x / 2 ^ j:Nat):Int):=by
 unfold shr
 rw[if_pos (by omega),Int.toNat_natCast,show min j IntKind.i64.bits=j from Nat.min_eq_left hj,Int.fdiv_eq_ediv_of_nonneg _ (by exact_mod_cast Nat.zero_le _)]
 congr 1
theorem bit_test{x j:Nat}(hx:x<2 ^ 62):decide (bitand .i64 ((x / 2 ^ j:Nat):Int) 1=1)=x.testBit j:=by
 rw[bitand_one (Nat.lt_of_le_of_lt (Nat.div_le_self _ _) hx),Nat.testBit_eq_decide_div_mod_eq]
 exact decide_eq_decide.2 (by omega)
theorem shl_flag(b:Bool){i:Nat}(hi:i≤61):shl .i64 (bif b then 1 else 0) (i:Int)=some ((b.toNat<<<i:Nat):Int):=by
 have h2:2 ^ i≤2 ^ 61:=Nat.pow_le_pow_right (by omega) hi
 unfold shl
 rw[if_pos (by omega),Int.toNat_natCast,show min i IntKind.i64.bits=i from Nat.min_eq_left (by show i≤64; omega),Nat.shiftLeft_eq]
 cases b
 ·rw[cond_false,Int.zero_mul]; simp[IntKind.wrap_i64]
 ·have key:∀ m:Nat,m≤2 ^ 61→IntKind.i64.wrap (m:Int)=m:=fun m hm=>wrap64 (by omega) (by omega)
  rw[cond_true,Int.one_mul,show(2:Int) ^ i=((2 ^ i:Nat):Int) from by simp,key _ h2]; simp
theorem flag_eq(b:Bool):impl_flag b=some (bif b then 1 else 0):=by cases b<;>rfl
/-! putting numbers into an ascending list -/
def Asc(l:List Int):Prop:=l.Pairwise (· <·)
/-! truth -/
theorem one_part{l:List Ft}(h:l.length=1):∃ x,l=[x]:=by
 match l,h with
 | [x],_=>exact⟨x,rfl⟩
theorem two_parts{l:List Ft}(h:l.length=2):∃ x y,l=[x,y]:=by
 match l,h with
 | [x,y],_=>exact⟨x,y,rfl⟩
theorem form_len{a:Ft}(h:a.good=true)(hv:a.vf=true):a.Op=1∨a.Op=2∨a.Op=3∨(a.Op=4∧a.Parts.length=1)∨((a.Op=5∨a.Op=6∨a.Op=7)∧a.Parts.length=2):=by
 have hf:=good_form h
 rw[Ft.vf_u] at hv
 unfold formC at hf
 rcases op_cases a.Op with e | e | e | e | e | e | e | e | e | ⟨g1,g2,g3,g4,g5,g6,g7,g8,g9⟩
 ·exact .inl e
 ·exact .inr (.inl e)
 ·exact .inr (.inr (.inl e))
 ·rw[e] at hf; simp at hf; exact .inr (.inr (.inr (.inl ⟨e,hf.1⟩)))
 ·rw[e] at hf; simp at hf; exact .inr (.inr (.inr (.inr ⟨.inl e,hf.1⟩)))
 ·rw[e] at hf; simp at hf; exact .inr (.inr (.inr (.inr ⟨.inr (.inl e),hf.1⟩)))
 ·rw[e] at hf; simp at hf; exact .inr (.inr (.inr (.inr ⟨.inr (.inr e),hf.1⟩)))
 ·rw[e] at hv; simp at hv
 ·rw[e] at hv; simp at hv
 ·rw[decide_eq_false g3,decide_eq_false g8,decide_eq_false g9,decide_eq_false g1,decide_eq_false g2,decide_eq_false g4,decide_eq_false g5,decide_eq_false g6,decide_eq_false g7] at hf
  cases hf
theorem vf_parts{a:Ft}(hv:a.vf=true)(h3:a.Op≠3):∀ x∈a.Parts,x.vf=true:=by
 rw[Ft.vf_u,decide_eq_false h3,cond_false] at hv
 cases h8:decide (a.Op=8)
 ·rw[h8,cond_false] at hv
  cases h9:decide (a.Op=9)
  ·rw[h9,cond_false,bc] at hv; exact hv
  ·rw[h9] at hv; cases hv
 ·rw[h8] at hv; cases hv
theorem ats_parts{a x:Ft}(h3:a.Op≠3)(hx:x∈a.Parts){t:Tt}(ht:t∈x.ats):t∈a.ats:=by
 rw[Ft.ats_u,decide_eq_false h3,cond_false]
 exact atss_mem.2 ⟨x,hx,ht⟩
theorem idx0{α:Type}(x:α)(l:List α):idx (x::l) 0=some x:=rfl
theorem idx1{α:Type}(x y:α)(l:List α):idx (x::y::l) 1=some y:=rfl
/-! the different atoms -/
theorem copy_leaf(nm:ByteArray):impl_copyTerm ⟨nm,[]⟩=some ⟨nm,[]⟩:=lim_eq ⟨2,fun n hn=>by
 obtain⟨m,rfl⟩:∃ m,n=m+2:=⟨n-2,by omega⟩
 show impl_copyTermN (m+2) _=_
 rw[impl_copyTermN]
 show aa (impl_copyTermsN (m+1) []) _=_
 rw[impl_copyTermsN]; rfl⟩
theorem any_sameT{l:List Tt}{t:Tt}:l.any (fun x=>same x t)=true↔t∈l:=by
 rw[List.any_eq_true]
 constructor
 ·rintro ⟨x,h1,h2⟩; rw[← same_iff.1 h2]; exact h1
 ·exact fun h=>⟨t,h,same_iff.2 rfl⟩
theorem addAtom_eq(l:List Tt)(t:Tt)(ht:t.Args=[])(hb:l.length≤1000000):∃ v,impl_addAtom l t=some v∧(∀ x,x∈v↔x∈l∨x=t)∧v.length≤l.length+1:=by
 unfold impl_addAtom slices_ContainsFunc_Simpl_Term_impl_Term slices_IndexFunc_Simpl_Term_impl_Term
 rw[show _=some (l.any (fun x=>same x t)) from find_list (f:=fun y0=>impl_addAtom_1 y0 t) (p:=fun x=>same x t) l (fun x _=>by unfold impl_addAtom_1; rw[EqualTerms_ok]; rfl),ai]
 cases e:l.any (fun x=>same x t)
 ·have hc:impl_copyTerm t=some t:=by
   have:=copy_leaf t.Name
   rw[← ht,t.eta] at this; exact this
  rw[cond_false,hc,ai]
  unfold app
  rw[if_pos (by simp; omega)]
  exact⟨_,rfl,fun x=>by simp,by simp⟩
 ·have:=any_sameT.1 e
  exact⟨l,rfl,fun x=>⟨.inl,fun h=>h.elim id (fun h=>by rw[h]; exact this)⟩,by omega⟩
theorem diff_loop:∀ (l:List Tt) (i:Nat) (acc:List Tt),(∀ t∈l,t.Args=[])→acc.length+l.length≤1000000→
 ∃ v,forL (ρ:=List Tt) (fun _ x s=>(impl_addAtom s x).bind fun v16=>some (.nx v16)) l i acc=some (.inr v)∧(∀ x,x∈v↔x∈acc∨x∈l)∧v.length≤acc.length+l.length
 | [],i,acc,_,_=>⟨acc,rfl,fun x=>by simp,by simp⟩
 | t::l,i,acc,h,hb=>by
  rw[aW] at hb
  obtain⟨v,h1,h2,h3⟩:=addAtom_eq acc t (h t (by simp)) (by omega)
  obtain⟨u,g1,g2,g3⟩:=diff_loop l (i+1) v (fun x hx=>h x (by simp[hx])) (by omega)
  refine⟨u,by rw[forL_nx (s':=v) (by rw[h1]; rfl),g1],fun x=>by rw[g2,h2,List.mem_cons,or_assoc],by rw[aW]; omega⟩
theorem ats_vf{a:Ft}(hg:a.good=true)(hv:a.vf=true):∀ t∈a.ats,varOf t≠0:=fun t ht=>by
 rw[vf_split a hg,aD,bc] at hv
 simpa using hv.2 t ht
theorem different_eq{a:Ft}(hc:a.cnt≤40)(hg:a.good=true)(hv:a.vf=true):∃ v,impl_differentAtoms a=some v∧(∀ x,x∈v↔x∈a.ats)∧v.length≤40:=by
 have hl:=ats_cnt a
 obtain⟨v,h1,h2,h3⟩:=diff_loop a.ats 0 [] (fun t ht=>(varOf_nn t).2.2 (ats_vf hg hv t ht)) (by simp; omega)
 refine⟨v,?_,fun x=>by rw[h2]; simp,by simp at h3; omega⟩
 unfold impl_differentAtoms
 rw[show impl_atomsOf a=some a.ats from lim_eq ⟨_,atomsOf_eq a (by omega)⟩,ai]
 have e:=forN_idx (ρ:=List Tt) a.ats (fun i x (s:List Tt)=>(idx a.ats (i:Int)).bind fun v13=>(impl_addAtom s v13).bind fun v16=>some (.nx v16)) []
 rw[e,forL_congr (g:=fun _ x s=>(impl_addAtom s x).bind fun v16=>some (.nx v16)) a.ats 0 [] (fun j x s hx=>by
  rw[Nat.zero_add,idx_nat,hx,ai]),h1]; rfl
theorem bits_loop(s:List Int):∀ (l:List Tt) (i m:Nat),i+l.length≤40→m<2 ^ i→
 ∃ M:Nat,forL (ρ:=Bool) (fun i x (s4:Int)=>(impl_variableOf x).bind fun v21=>(slices_Contains_Sint_int s v21).bind fun v22=>(impl_flag v22).bind fun v23=>(shl .i64 v23 (i:Int)).bind fun v25=>some (.nx (bitor .i64 s4 v25))) l i (m:Int)=some (.inr (M:Int))∧M<2 ^ (i+l.length)∧
  (∀ j,j<i→M.testBit j=m.testBit j)∧∀ j,j<l.length→M.testBit (i+j)=hasI s (varOf (l.getD j default))
 | [],i,m,hb,hm=>⟨m,rfl,by simpa using hm,fun _ _=>rfl,fun j hj=>absurd hj (by simp)⟩
 | t::l,i,m,hb,hm=>by
  rw[aW] at hb
  have hp:2 ^ i≤2 ^ 40:=Nat.pow_le_pow_right (by omega) (by omega)
  have hp1:2 ^ (i+1)≤2 ^ 40:=Nat.pow_le_pow_right (by omega) (by omega)
  have hs1:(hasI s (varOf t)).toNat<<<i<2 ^ (i+1):=by
   rw[Nat.shiftLeft_eq,Nat.pow_succ]
   have:=Bool.toNat_le (hasI s (varOf t))
   have:(hasI s (varOf t)).toNat*2 ^ i≤1*2 ^ i:=Nat.mul_le_mul_right _ this
   have:0<2 ^ i:=Nat.two_pow_pos i
   omega
  have hm1:m<2 ^ (i+1):=Nat.lt_of_lt_of_le hm (Nat.pow_le_pow_right (by omega) (by omega))
  obtain⟨M,h1,h2,h3,h4⟩:=bits_loop s l (i+1) (m||| (hasI s (varOf t)).toNat<<<i) (by omega) (Nat.or_lt_two_pow hm1 hs1)
  refine⟨M,?_,by rw[aW,show i+(l.length+1)=i+1+l.length from by omega]; exact h2,fun j hj=>?_,fun j hj=>?_⟩
  ·rw[forL_nx (s':=((m||| (hasI s (varOf t)).toNat<<<i:Nat):Int)) (by
    rw[variableOf_eq,ai,Contains_eq,ai,flag_eq,ai,shl_flag _ (by omega),ai,bitor_nat (by omega) (by omega)]),h1]
  ·rw[h3 j (by omega),Nat.testBit_or,Nat.testBit_shiftLeft]
   simp[show ¬ j≥i by omega]
  ·cases j with
   | zero=>
    rw[Nat.add_zero,h3 i (by omega),Nat.testBit_or,Nat.testBit_shiftLeft,Nat.testBit_lt_two_pow hm,List.getD_cons_zero,Nat.sub_self]
    cases hasI s (varOf t)<;>simp
   | succ j=>rw[List.getD_cons_succ,← h4 j (by rw[aW] at hj; omega),show i+(j+1)=i+1+j from by omega]
theorem indexOf_mem{l:List Tt}{t:Tt}(h:t∈l):∃ k:Nat,impl_indexOfAtom l t=some (k:Int)∧k<l.length∧l.getD k default=t:=by
 unfold impl_indexOfAtom slices_IndexFunc_Simpl_Term_impl_Term
 rw[forN_ffind (q:=fun j=>same (l.getD j default) t) l.length 0 (fun j _ hj=>by
  simp only[idx_getD (show j<l.length by omega),ai,impl_indexOfAtom_1,EqualTerms_ok]
  cases same (l.getD j default) t<;>rfl),ai]
 rcases ffind_cases (fun j=>same (l.getD j default) t) l.length 0 with⟨_,h2⟩ | ⟨k,h1,_,h3,h4,_⟩
 ·obtain⟨j,hj,e⟩:=List.getElem_of_mem h
  have:=h2 j (by omega) (by omega)
  rw[List.getD_eq_getElem?_getD,List.getElem?_eq_getElem hj,Option.getD_some,e,same_iff.2 rfl] at this
  cases this
 ·exact⟨k,by rw[h1],by omega,same_iff.1 h4⟩
end
section
/-! loops over all numbers below a bound -/
theorem forN_build{ρ α:Type}{f:Nat→List α→Option (Flow ρ (List α))}(g:Nat→α):∀ (n i:Nat) (acc:List α),acc.length+n≤1000000→(∀ j s,i≤j→j<i+n→s.length≤1000000→f j s=some (.nx (s++[g j])))→forN f n i acc=some (.inr (acc++(List.range' i n).map g))
 | 0,i,acc,_,_=>by rw[forN_zero]; simp
 | n+1,i,acc,hb,h=>by
  rw[forN_nx (s':=acc++[g i]) (h i acc (by omega) (by omega) (by omega)),forN_build g n (i+1) _ (by simp; omega) (fun j s h1 h2=>h j s (by omega) (by omega)),List.range'_succ,aP,aT]; rfl
theorem shl_two{k:Nat}(h:k≤12):shl .i64 1 (k:Int)=some ((2 ^ k:Nat):Int):=by
 have:=shl_flag true (i:=k) (by omega)
 rw[show(1:Int)=(bif true then 1 else 0) from rfl,this,show true.toNat=1 from rfl,Nat.one_shiftLeft]
theorem two_le{k:Nat}(h:k≤12):2 ^ k≤4096:=Nat.pow_le_pow_right (by omega) h
/-! assignments -/
def asg(n:Nat)(q:Nat→Bool):List Int:=(List.range n).map fun j=>bif q j then((j+1:Nat):Int) else -((j+1:Nat):Int)
theorem has_asg{n:Nat}{q:Nat→Bool}{x:Int}(h1:1≤x)(h2:x≤n):hasI (asg n q) x=q (x.toNat-1):=by
 unfold hasI asg
 rw[Bool.eq_iff_iff,decide_eq_true_iff,List.mem_map]
 constructor
 ·rintro ⟨j,hj,e⟩
  cases hq:q j with
  | true=>rw[hq,cond_true] at e; rw[← hq]; congr 1; omega
  | false=>rw[hq,cond_false] at e; omega
 ·intro hq
  refine⟨x.toNat-1,by simp; omega,?_⟩
  rw[hq,cond_true]; omega
theorem set_drop{α:Type}{l:List α}{u:Nat}(h:u<l.length)(x:α):(l.set u x).drop u=x::l.drop (u+1):=by
 rw[List.set_eq_take_append_cons_drop,if_pos h]
 have:(l.take u).length=u:=by rw[List.length_take]; omega
 exact List.drop_left' this
theorem asg_loop(n:Nat)(hn:n≤12):∀ (v N:Nat) (out:List Int),N<2 ^ 40→v≤n→out.length=n→
 ∃ z:Int,Ev (fun m=>whileN (ρ:=List Int) (fun (s3:Int×(List Int)×Int)=>
 bif decide ((1:Int)≤s3.2.2) then
  aa (idx s3.2.1 (IntKind.i64.wrap (s3.2.2-(1:Int)))) fun v18=>
  aa (idx s3.2.1 (IntKind.i64.wrap (s3.2.2-(1:Int)))) fun w2=>
  bif decide ((bitand .i64 s3.1 (1:Int))=(1:Int)) then
   aa (idx (s3.2.1.set (IntKind.i64.wrap (s3.2.2-(1:Int))).toNat s3.2.2) (IntKind.i64.wrap (s3.2.2-(1:Int)))) fun v27=>
   aa (idx (s3.2.1.set (IntKind.i64.wrap (s3.2.2-(1:Int))).toNat s3.2.2) (IntKind.i64.wrap (s3.2.2-(1:Int)))) fun w4=>
   aa (shr .i64 s3.1 (1:Int)) fun v29=>
   some (.nx (v29,(s3.2.1.set (IntKind.i64.wrap (s3.2.2-(1:Int))).toNat s3.2.2).set (IntKind.i64.wrap (s3.2.2-(1:Int))).toNat (IntKind.i64.wrap (0-s3.2.2)),IntKind.i64.wrap (s3.2.2-(1:Int))))
  else
   aa (shr .i64 s3.1 (1:Int)) fun v29=>
   some (.nx (v29,s3.2.1.set (IntKind.i64.wrap (s3.2.2-(1:Int))).toNat s3.2.2,IntKind.i64.wrap (s3.2.2-(1:Int))))
 else
  some (.br s3)) m ((N:Int),out,(v:Int))) (.inr (z,asg v (fun j=>!N.testBit (v-1-j))++out.drop v,0))
 | 0,N,out,hN,hv,ho=>⟨(N:Int),ev_br (by rw[show(((N:Int),out,((0:Nat):Int)):Int×List Int×Int).2.2=0 from rfl]; rfl)⟩
 | u+1,N,out,hN,hv,ho=>by
  have hw:IntKind.i64.wrap (((u+1:Nat):Int)-1)=(u:Int):=by rw[wrap64 (by omega) (by omega)]; omega
  have hwn:IntKind.i64.wrap (0-((u+1:Nat):Int))=-((u+1:Nat):Int):=by rw[wrap64 (by omega) (by omega)]; omega
  have h2:shr .i64 (N:Int) 1=some ((N / 2:Nat):Int):=shr_eq (x:=N) (j:=1) (by omega)
  have hu:u<out.length:=by omega
  have hb:decide (bitand .i64 (N:Int) 1=1)=N.testBit 0:=by
   rw[bitand_one (by omega),Nat.testBit_zero]; exact decide_eq_decide.2 (by omega)
  have step:∀ x:Int,x=(bif (!N.testBit 0) then((u+1:Nat):Int) else -((u+1:Nat):Int))→asg u (fun j=>!(N / 2).testBit (u-1-j))++(out.set u x).drop u=asg (u+1) (fun j=>!N.testBit (u+1-1-j))++out.drop (u+1):=fun x hx=>by
   rw[set_drop hu,hx]
   unfold asg
   rw[List.range_succ,List.map_append,List.map_singleton,aT]
   have e1:(List.range u).map (fun j=>bif !(N / 2).testBit (u-1-j) then((j+1:Nat):Int) else -((j+1:Nat):Int))=(List.range u).map (fun j=>bif !N.testBit (u+1-1-j) then((j+1:Nat):Int) else -((j+1:Nat):Int)):=by
    apply List.map_congr_left
    intro j hj
    have hj':j<u:=List.mem_range.1 hj
    have e2:(N / 2).testBit (u-1-j)=N.testBit (u+1-1-j):=by
     rw[show u+1-1-j=(u-1-j)+1 from by omega,Nat.testBit_succ]
    simp only[e2]
   have e3:u+1-1-u=0:=by omega
   rw[e1]
   simp only[e3,List.singleton_append]
  have hset:(out.set u ((u+1:Nat):Int)).length=n:=by rw[List.length_set]; exact ho
  cases hbit:N.testBit 0 with
  | true=>
   obtain⟨z,hz⟩:=asg_loop n hn u (N / 2) (out.set u (-((u+1:Nat):Int))) (by omega) (by omega) (by rw[List.length_set]; exact ho)
   refine⟨z,?_⟩
   rw[step _ (by rw[hbit]; rfl)] at hz
   refine ev_nx ?_ hz
   have hi2:idx (out.set u ((u+1:Nat):Int)) (u:Int)=some ((out.set u ((u+1:Nat):Int)).getD u default):=idx_getD (by omega)
   simp only[hw,hwn,hb,hbit,h2,idx_getD hu,hi2,ai,cond_true,Int.toNat_natCast,List.set_set]
   rw[decide_eq_true (by omega),cond_true]
  | false=>
   obtain⟨z,hz⟩:=asg_loop n hn u (N / 2) (out.set u ((u+1:Nat):Int)) (by omega) (by omega) (by rw[List.length_set]; exact ho)
   refine⟨z,?_⟩
   rw[step _ (by rw[hbit]; rfl)] at hz
   refine ev_nx ?_ hz
   simp only[hw,hwn,hb,hbit,h2,idx_getD hu,ai,cond_false,Int.toNat_natCast]
   rw[decide_eq_true (by omega),cond_true]
theorem assignmentOf_eq{n N:Nat}(hn:n≤12)(hN:N<2 ^ 40):impl_assignmentOf (N:Int) (n:Int)=some (asg n (fun j=>!N.testBit (n-1-j))):=by
 obtain⟨z,hz⟩:=asg_loop n hn n N (List.replicate n 0) hN (a7 _) (by simp)
 unfold impl_assignmentOf
 rw[show mkn (n:Int)=some n from by unfold mkn; rw[if_pos (by omega)]; rfl,ai]
 refine(congrArg (fun x=>thenL x (fun s3:Int×List Int×Int=>some s3.2.1)) (lim_eq hz)).trans ?_
 rw[thenL_inr,List.drop_of_length_le (by simp),bu]
theorem ev_congr{p q:Int→Bool}(a:Ft):a.good=true→a.vf=true→(∀ x∈a.ats.map varOf,p x=q x)→a.ev p=a.ev q:=by
 refine Ft.ind' (M:=fun a=>a.good=true→a.vf=true→(∀ x∈a.ats.map varOf,p x=q x)→a.ev p=a.ev q) (fun a ih hg hv h=>?_) a
 have sub:a.Op≠3→∀ x∈a.Parts,x.ev p=x.ev q:=fun h3 x hx=>ih x hx (good_parts hg x hx) (vf_parts hv h3 x hx) (fun y hy=>by
  obtain⟨t,ht,rfl⟩:=List.mem_map.1 hy
  exact h _ (List.mem_map.2 ⟨t,ats_parts h3 hx ht,rfl⟩))
 by_cases e3:a.Op=3
 ·have:=h (varOf a.Atom) (List.mem_map.2 ⟨a.Atom,by rw[Ft.ats_u,decide_eq_true e3,cond_true]; simp,rfl⟩)
  rw[Ft.ev_u,Ft.ev_u,this]
  simp[e3]
 ·have:a.Parts.map (Ft.ev p)=a.Parts.map (Ft.ev q):=List.map_congr_left (fun x hx=>sub e3 x hx)
  rw[Ft.ev_u,Ft.ev_u,this,decide_eq_false e3]; rfl
theorem vars_rng{a:Ft}(hg:a.good=true)(hv:a.vf=true){x:Int}(hx:x∈a.ats.map varOf):1≤x∧x≤12:=by
 obtain⟨t,ht,rfl⟩:=List.mem_map.1 hx
 have:=varOf_nn t
 have:=ats_vf hg hv t ht
 omega
theorem asc_len:∀ (l:List Int) (lo:Int),Asc l→(∀ x∈l,lo≤x∧x≤12)→lo≤13→(l.length:Int)≤13-lo
 | [],lo,_,_,h=>by simp; omega
 | x::l,lo,ha,hr,h=>by
  have hx:=hr x (by simp)
  unfold Asc at ha
  rw[List.pairwise_cons] at ha
  have:=asc_len l (x+1) ha.2 (fun y hy=>⟨by have:=ha.1 y hy; omega,(hr y (by simp[hy])).2⟩) (by omega)
  rw[aW]; omega
end
section
/-! clause sets -/
def validC(s:List (List Int)):Bool:=decide (s.length≤40)&&s.all clauseB
def OkC(s:List (List Int)):Prop:=∀ c∈s,c.length≤1048576∧∀ x∈c,InR x
theorem l15Set_eq(s:List (List Int))(h:OkC s):spec_l15Set s=some (validC s):=by
 unfold spec_l15Set validC
 by_cases hl:s.length≤40
 ·rw[forN_all (fun j=>clauseB (s.getD j default)) (r0:=false) (fun j hj _=>by
   rw[decide_eq_true (by omega),cond_true,idx_getD hj,ai,clause_eq _ (h _ (getD_mem hj)).1,ai]
   cases clauseB (s.getD j default)<;>rfl),range_all_list s clauseB,decide_eq_true hl,decide_eq_true (by omega:(s.length:Int)≤40)]
  cases s.all clauseB<;>rfl
 ·rw[decide_eq_false hl,decide_eq_false (by omega:¬ (s.length:Int)≤40),Bool.false_and]
  rw[forN_all (fun j=>decide (j≤40)&&clauseB (s.getD j default)) (r0:=false) (fun j hj _=>by
   by_cases h40:j≤40
   ·rw[decide_eq_true (by omega:(j:Int)≤40),cond_true,idx_getD hj,ai,clause_eq _ (h _ (getD_mem hj)).1,ai,decide_eq_true h40]
    cases clauseB (s.getD j default)<;>rfl
   ·rw[decide_eq_false (by omega:¬ (j:Int)≤40),decide_eq_false h40]; rfl)]
  cases (List.range s.length).all (fun j=>decide (j≤40)&&clauseB (s.getD j default))<;>rfl
theorem contC{f:List Int→Option Bool}{p:List Int→Bool}(s:List (List Int))(h:∀ a∈s,f a=some (p a)):slices_ContainsFunc_SSint_Sint s f=some (s.any p):=by
 unfold slices_ContainsFunc_SSint_Sint slices_IndexFunc_SSint_Sint
 exact find_list (p:=p) s h
theorem valid_impl(s:List (List Int))(h:OkC s):impl_IsValidClauses s=some (validC s):=by
 unfold impl_IsValidClauses validC
 by_cases hl:s.length≤40
 ·rw[decide_eq_true hl,decide_eq_true (by omega:(s.length:Int)≤40),cond_true,contC (p:=fun c=>!clauseB c) s (fun c hc=>by
   unfold impl_IsValidClauses_1
   rw[clause_same c (h c hc).2,clause_eq c (h c hc).1]; rfl),ai,Bool.true_and,List.all_eq_not_any_not]
 ·rw[decide_eq_false hl,decide_eq_false (by omega:¬ (s.length:Int)≤40)]; rfl
theorem absI_rng{x:Int}(h:InR x)(h1:1≤absI x):absI x=(if x<0 then -x else x)∧(x≠0):=by
 unfold InR at h
 unfold absI at h1 ⊢
 split
 ·rename_i g
  rw[if_pos g,IntKind.wrap_i64] at h1
  rw[IntKind.wrap_i64]; omega
 ·rename_i g
  rw[if_neg g] at h1
  omega
def Good(s:List (List Int)):Prop:=s.length≤40∧∀ c∈s,c.length≤1048576∧∀ x∈c,InR x∧1≤absI x∧absI x≤12
theorem valid_good{s:List (List Int)}(h:OkC s)(hv:validC s=true):Good s:=by
 unfold validC at hv
 rw[aD,decide_eq_true_iff,bc] at hv
 refine⟨hv.1,fun c hc=>⟨(h c hc).1,fun x hx=>?_⟩⟩
 have:=hv.2 c hc
 unfold clauseB at this
 rw[bc] at this
 obtain⟨i,hi,e⟩:=List.getElem_of_mem hx
 have hk:=this i (List.mem_range.2 hi)
 rw[aD] at hk
 have h1:=hk.1
 rw[List.getD_eq_getElem?_getD,List.getElem?_eq_getElem hi,Option.getD_some,e] at h1
 simp only[inR,decide_eq_true_iff] at h1
 exact⟨(h c hc).2 x hx,h1.1,h1.2⟩
/-! the greatest variable -/
def mx(s:Int)(c:List Int):Int:=c.foldl (fun s l=>max s (absI l)) s
def most(s:List (List Int)):Int:=s.foldl mx 0
theorem forL_fold{α ρ σ:Type}(u:σ→α→σ){g:Nat→α→σ→Option (Flow ρ σ)}:∀ (l:List α) (i:Nat) (s:σ),(∀ j x s,x∈l→g j x s=some (.nx (u s x)))→forL g l i s=some (.inr (l.foldl u s))
 | [],i,s,_=>rfl
 | x::l,i,s,h=>by rw[forL_nx (s':=u s x) (h i x s (by simp)),forL_fold u l (i+1) _ (fun j y s hy=>h j y s (by simp[hy]))]; rfl
theorem impl_abs{x:Int}(h:InR x):impl_absolute x=some (absI x):=by rw[abs_same h,abs_eq]
theorem greatest_eq{s:List (List Int)}(h:Good s):impl_greatest s=some (most s):=by
 unfold impl_greatest most
 rw[forN_idx s (fun _ v12 (s3:Int)=>thenL (ρ:=(Flow Int Int)) (σ:=Int) (forN (fun (i6:Nat) (s6:Int)=>
  aa (idx v12 (i6:Int)) fun v18=>
  aa (impl_absolute v18) fun v22=>
  some (.nx (max s6 v22))) v12.length 0 s3) fun s6=>
  some (.nx s6)) 0,forL_fold mx s 0 0 (fun j c a hc=>by
   rw[forN_idx c (fun _ v18 (s6:Int)=>aa (impl_absolute v18) fun v22=>some (.nx (max s6 v22))) a,
    forL_fold (fun s l=>max s (absI l)) c 0 a (fun j x b hx=>by rw[impl_abs ((h.2 c hc).2 x hx).1]; rfl)]; rfl)]; rfl
theorem Most2_eq(a b:Int):spec_l1Most a b=some (max a b):=Most_eq a b
theorem inner_most(a0:List (List Int))(i:Nat)(c:List Int)(hc:a0[i]?=some c)(hl:c.length≤1048576):∀ (k j:Nat) (s:Int),j+k=c.length→
 Ev (fun m=>whileN (ρ:=Flow Int Int) (fun (s6:Int×Int)=>
  aa (idx a0 (i:Int)) fun v15=>
  bif decide (s6.2<(v15.length:Int)) then
   aa (idx a0 (i:Int)) fun v24=>
   aa (idx v24 s6.2) fun v27=>
   aa (spec_l15Abs v27) fun v29=>
   aa (spec_l1Most s6.1 v29) fun v30=>
   some (.nx (v30,IntKind.i64.wrap (s6.2+(1:Int))))
  else
   some (.br s6)) m (s,(j:Int))) (.inr (mx s (c.drop j),(c.length:Int)))
 | 0,j,s,h=>by
  have e:j=c.length:=by omega
  subst e
  rw[List.drop_length]
  refine ev_br ?_
  rw[idx_nat,hc,ai,decide_eq_false (by show ¬ ((c.length:Int)<c.length); omega)]; rfl
 | k+1,j,s,h=>by
  have hj:j<c.length:=by omega
  have:=inner_most a0 i c hc hl k (j+1) (max s (absI (c.getD j default))) (by omega)
  rw[show mx (max s (absI (c.getD j default))) (c.drop (j+1))=mx s (c.drop j) from by
   rw[List.drop_eq_getElem_cons hj]; unfold mx
   rw[List.foldl_cons,List.getD_eq_getElem?_getD,List.getElem?_eq_getElem hj,Option.getD_some]] at this
  refine ev_nx ?_ this
  rw[idx_nat,hc,ai,decide_eq_true (by show(j:Int)<c.length; omega),cond_true,ai]
  show aa (idx c (j:Int)) _=_
  rw[idx_getD hj,ai,abs_eq,ai,Most2_eq,ai]
  show some (Flow.nx (_,IntKind.i64.wrap ((j:Int)+1)))=_
  rw[wrap_succ (by omega)]
theorem l15Most_eq{s:List (List Int)}(h:Good s):spec_l15Most s=some (most s):=by
 unfold spec_l15Most most
 rw[forN_forL _ (fun _ c a=>some (.nx (mx a c))) s 0 0 (fun j c a hc=>by
  have hm:c∈s:=List.mem_of_getElem? hc
  have hi:=inner_most s j c hc (h.2 c hm).1 c.length 0 a (by omega)
  rw[Nat.zero_add]
  refine(congrArg (fun x=>thenL x (fun s6:Int×Int=>some (Flow.nx (ρ:=Int) s6.1))) (lim_eq hi)).trans ?_
  rw[thenL_inr,List.drop_zero])]
 rw[forL_fold mx s 0 0 (fun _ _ _ _=>rfl)]; rfl
theorem mx_props:∀ (c:List Int) (s:Int),0≤s→s≤12→(∀ x∈c,absI x≤12)→0≤mx s c∧mx s c≤12∧s≤mx s c∧∀ x∈c,absI x≤mx s c
 | [],s,h0,h1,_=>⟨h0,h1,Int.le_refl _,fun x hx=>by cases hx⟩
 | x::c,s,h0,h1,h=>by
  have hx:=h x (by simp)
  obtain⟨g1,g2,g3,g4⟩:=mx_props c (max s (absI x)) (by omega) (by omega) (fun y hy=>h y (by simp[hy]))
  refine⟨g1,g2,by show s≤mx (max s (absI x)) c; omega,fun y hy=>?_⟩
  rcases List.mem_cons.1 hy with rfl | hy
  ·show absI y≤mx (max s (absI y)) c; omega
  ·exact g4 y hy
theorem most_props:∀ (s:List (List Int)) (a:Int),0≤a→a≤12→(∀ c∈s,∀ x∈c,absI x≤12)→0≤s.foldl mx a∧s.foldl mx a≤12∧a≤s.foldl mx a∧∀ c∈s,∀ x∈c,absI x≤s.foldl mx a
 | [],a,h0,h1,_=>⟨h0,h1,Int.le_refl _,fun x hx=>by cases hx⟩
 | c::s,a,h0,h1,h=>by
  obtain⟨k1,k2,k3,k4⟩:=mx_props c a h0 h1 (h c (by simp))
  obtain⟨g1,g2,g3,g4⟩:=most_props s (mx a c) k1 k2 (fun y hy=>h y (by simp[hy]))
  refine⟨g1,g2,by show a≤s.foldl mx (mx a c); omega,fun y hy x hx=>?_⟩
  rcases List.mem_cons.1 hy with rfl | hy
  ·show absI x≤s.foldl mx (mx a y); have:=k4 x hx; omega
  ·exact g4 y hy x hx
theorem most_ok{s:List (List Int)}(h:Good s):∃ n:Nat,most s=(n:Int)∧n≤12∧∀ c∈s,∀ x∈c,absI x≤n:=by
 obtain⟨g1,g2,_,g4⟩:=most_props s 0 (by omega) (by omega) (fun c hc x hx=>((h.2 c hc).2 x hx).2.2)
 refine⟨(most s).toNat,?_,?_,fun c hc x hx=>?_⟩
 ·unfold most; omega
 ·unfold most; omega
 ·have:=g4 c hc x hx; unfold most; omega
/-! occurrences, colours -/
def occ(s:List (List Int))(x:Int):Bool:=s.any (fun c=>hasI c x||hasI c (-x))
theorem Occurs_eq(s:List (List Int)){x:Int}(h1:1≤x)(h2:x≤12):spec_l20Occurs s x=some (occ s x):=by
 unfold spec_l20Occurs occ
 have hw:IntKind.i64.wrap (0-x)=-x:=by rw[wrap64 (by omega) (by omega)]; omega
 rw[forN_all (fun j=>!(hasI (s.getD j default) x||hasI (s.getD j default) (-x))) (r0:=true) (fun j hj _=>by
  rw[idx_getD hj,ai,Has_eq,ai,ai,hw,Has_eq,ai]
  cases hasI (s.getD j default) x<;>cases hasI (s.getD j default) (-x)<;>rfl),range_all_list s (fun c=>!(hasI c x||hasI c (-x)))]
 rw[show s.all (fun c=>!(hasI c x||hasI c (-x)))=!s.any (fun c=>hasI c x||hasI c (-x)) from by rw[List.not_any_eq_all_not]]
 cases s.any (fun c=>hasI c x||hasI c (-x))<;>rfl
def tch(c:List Int)(j:Nat):Bool:=c.any (fun l=>decide (absI l=((j+1:Nat):Int)))
theorem tch_has{c:List Int}(h:∀ x∈c,InR x∧1≤absI x∧absI x≤12)(j:Nat):tch c j=(hasI c ((j+1:Nat):Int)||hasI c (-((j+1:Nat):Int))):=by
 unfold tch hasI
 rw[Bool.eq_iff_iff,List.any_eq_true,Bool.or_eq_true,decide_eq_true_iff,decide_eq_true_iff]
 constructor
 ·rintro ⟨l,hl,e⟩
  have e':=of_decide_eq_true e
  obtain⟨k1,k2⟩:=absI_rng (h l hl).1 (h l hl).2.1
  rw[k1] at e'
  split at e'
  ·right; rw[← e']; simpa using hl
  ·left; rw[← e']; exact hl
 ·rintro (hl | hl)
  ·refine⟨_,hl,decide_eq_true ?_⟩
   obtain⟨k1,k2⟩:=absI_rng (h _ hl).1 (h _ hl).2.1
   rw[k1,if_neg (by omega)]
  ·refine⟨_,hl,decide_eq_true ?_⟩
   obtain⟨k1,k2⟩:=absI_rng (h _ hl).1 (h _ hl).2.1
   rw[k1,if_pos (by omega)]; omega
def cell(p q:Bool):Int:=bif p then(bif q then 3 else 1) else(bif q then 2 else 0)
theorem cell_one(p q:Bool):bitor .i64 (cell p q) 1=cell true q:=by cases p<;>cases q<;>decide
theorem cell_two(p q:Bool):bitor .i64 (cell p q) 2=cell p true:=by cases p<;>cases q<;>decide
theorem cell_three(p q:Bool):decide (cell p q=3)=(p&&q):=by cases p<;>cases q<;>decide
def cellsOf(P Q:Nat→Bool)(n:Nat):List Int:=(List.range n).map fun j=>cell (P j) (Q j)
theorem cellsOf_get{P Q:Nat→Bool}{n j:Nat}(h:j<n):(cellsOf P Q n)[j]?=some (cell (P j) (Q j)):=by
 unfold cellsOf
 rw[List.getElem?_map,List.getElem?_range h]; rfl
theorem cellsOf_set{P Q P' Q':Nat→Bool}{n j:Nat}(h:j<n)(hP:∀ i,i≠j→cell (P' i) (Q' i)=cell (P i) (Q i)):(cellsOf P Q n).set j (cell (P' j) (Q' j))=cellsOf P' Q' n:=by
 apply List.ext_getElem?
 intro i
 rw[List.getElem?_set]
 by_cases e:j=i
 ·subst e
  rw[if_pos rfl,if_pos (by unfold cellsOf; simpa using h),cellsOf_get h]
 ·rw[if_neg e]
  by_cases hi:i<n
  ·rw[cellsOf_get hi,cellsOf_get hi,hP i (fun g=>e g.symm)]
  ·rw[List.getElem?_eq_none (by unfold cellsOf; simp; omega),List.getElem?_eq_none (by unfold cellsOf; simp; omega)]
theorem cellsOf_congr{P Q P' Q':Nat→Bool}{n:Nat}(h:∀ i,P i=P' i∧Q i=Q' i):cellsOf P Q n=cellsOf P' Q' n:=by
 have e1:P=P':=funext fun i=>(h i).1
 have e2:Q=Q':=funext fun i=>(h i).2
 rw[e1,e2]
theorem color_step{n:Nat}(b:Bool){l:Int}(h:InR l∧1≤absI l∧absI l≤n)(hn:n≤12)(P Q:Nat→Bool):
 (aa (impl_absolute l) fun v32=>
  aa (idx (cellsOf P Q n) (IntKind.i64.wrap (v32-(1:Int)))) fun v34=>
  aa (idx (cellsOf P Q n) (IntKind.i64.wrap (v32-(1:Int)))) fun v35=>
  aa (idx (cellsOf P Q n) (IntKind.i64.wrap (v32-(1:Int)))) fun v38=>
  aa (idx (cellsOf P Q n) (IntKind.i64.wrap (v32-(1:Int)))) fun w4=>
  some (Flow.nx (ρ:=Flow (List Int) (List Int)) ((cellsOf P Q n).set (IntKind.i64.wrap (v32-(1:Int))).toNat (bitor .i64 v35 (bif b then 2 else 1)))))=
  some (.nx (cellsOf (fun i=>P i||(!b&&decide (absI l=((i+1:Nat):Int)))) (fun i=>Q i||(b&&decide (absI l=((i+1:Nat):Int)))) n)):=by
 obtain⟨j,hj⟩:∃ j:Nat,absI l=((j+1:Nat):Int):=⟨(absI l-1).toNat,by omega⟩
 have hjn:j<n:=by omega
 have hw:IntKind.i64.wrap (((j+1:Nat):Int)-1)=(j:Int):=by rw[wrap64 (by omega) (by omega)]; omega
 rw[impl_abs h.1,ai,hj,hw,idx_nat,cellsOf_get hjn,ai,ai,ai,ai,Int.toNat_natCast]
 congr 2
 have hne:∀ i,i≠j→decide (((j+1:Nat):Int)=((i+1:Nat):Int))=false:=fun i hi=>decide_eq_false (by omega)
 cases b
 ·rw[cond_false,cell_one]
  have:=cellsOf_set (P:=P) (Q:=Q) (P':=fun i=>P i||(!false&&decide (((j+1:Nat):Int)=((i+1:Nat):Int)))) (Q':=fun i=>Q i||(false&&decide (((j+1:Nat):Int)=((i+1:Nat):Int)))) hjn (fun i hi=>by rw[hne i hi]; simp)
  rw[← this]; simp
 ·rw[cond_true,cell_two]
  have:=cellsOf_set (P:=P) (Q:=Q) (P':=fun i=>P i||(!true&&decide (((j+1:Nat):Int)=((i+1:Nat):Int)))) (Q':=fun i=>Q i||(true&&decide (((j+1:Nat):Int)=((i+1:Nat):Int)))) hjn (fun i hi=>by rw[hne i hi]; simp)
  rw[← this]; simp
theorem color_inner{n:Nat}(b:Bool)(hn:n≤12):∀ (c:List Int) (i:Nat) (P Q:Nat→Bool),(∀ l∈c,InR l∧1≤absI l∧absI l≤n)→
 forL (ρ:=Flow (List Int) (List Int)) (fun _ v28 s9=>aa (impl_absolute v28) fun v32=>
  aa (idx s9 (IntKind.i64.wrap (v32-(1:Int)))) fun v34=>
  aa (idx s9 (IntKind.i64.wrap (v32-(1:Int)))) fun v35=>
  aa (idx s9 (IntKind.i64.wrap (v32-(1:Int)))) fun v38=>
  aa (idx s9 (IntKind.i64.wrap (v32-(1:Int)))) fun w4=>
  some (.nx (s9.set (IntKind.i64.wrap (v32-(1:Int))).toNat (bitor .i64 v35 (bif b then 2 else 1))))) c i (cellsOf P Q n)=
  some (.inr (cellsOf (fun i=>P i||(!b&&tch c i)) (fun i=>Q i||(b&&tch c i)) n))
 | [],i,P,Q,_=>by
  rw[forL_nil]
  refine congrArg (fun x=>some (Sum.inr x)) (cellsOf_congr (fun i=>?_))
  unfold tch; simp
 | l::c,i,P,Q,h=>by
  rw[forL_nx (color_step b (h l (by simp)) hn P Q),color_inner b hn c (i+1) _ _ (fun x hx=>h x (by simp[hx]))]
  refine congrArg (fun x=>some (Sum.inr x)) (cellsOf_congr (fun i=>?_))
  unfold tch
  rw[List.any_cons]
  constructor
  ·cases P i<;>cases b<;>cases decide (absI l=((i+1:Nat):Int))<;>simp
  ·cases Q i<;>cases b<;>cases decide (absI l=((i+1:Nat):Int))<;>simp
theorem colors_loop{n k:Nat}(hn:n≤12)(s:List (List Int))(hg:∀ c∈s,∀ l∈c,InR l∧1≤absI l∧absI l≤n):∀ (m i:Nat),i+m=s.length→
 forN (ρ:=List Int) (fun (i3:Nat) (s3:(List Int))=>
 aa (idx s (i3:Int)) fun v19=>
 bif decide ((k:Int)≤(i3:Int)) then
  thenL (ρ:=(Flow (List Int) (List Int))) (σ:=(List Int)) (forN (fun (i9:Nat) (s9:(List Int))=>
   aa (idx v19 (i9:Int)) fun v28=>
   aa (impl_absolute v28) fun v32=>
   aa (idx s9 (IntKind.i64.wrap (v32-(1:Int)))) fun v34=>
   aa (idx s9 (IntKind.i64.wrap (v32-(1:Int)))) fun v35=>
   aa (idx s9 (IntKind.i64.wrap (v32-(1:Int)))) fun v38=>
   aa (idx s9 (IntKind.i64.wrap (v32-(1:Int)))) fun w4=>
   some (.nx (s9.set (IntKind.i64.wrap (v32-(1:Int))).toNat (bitor .i64 v35 (2:Int))))) v19.length 0 s3) fun s9=>
  some (.nx s9)
 else
  thenL (ρ:=(Flow (List Int) (List Int))) (σ:=(List Int)) (forN (fun (i9:Nat) (s9:(List Int))=>
   aa (idx v19 (i9:Int)) fun v28=>
   aa (impl_absolute v28) fun v32=>
   aa (idx s9 (IntKind.i64.wrap (v32-(1:Int)))) fun v34=>
   aa (idx s9 (IntKind.i64.wrap (v32-(1:Int)))) fun v35=>
   aa (idx s9 (IntKind.i64.wrap (v32-(1:Int)))) fun v38=>
   aa (idx s9 (IntKind.i64.wrap (v32-(1:Int)))) fun w7=>
   some (.nx (s9.set (IntKind.i64.wrap (v32-(1:Int))).toNat (bitor .i64 v35 (1:Int))))) v19.length 0 s3) fun s9=>
  some (.nx s9)) m i (cellsOf (fun j=>(s.take (min i k)).any (fun c=>tch c j)) (fun j=>((s.take i).drop k).any (fun c=>tch c j)) n)=
 some (.inr (cellsOf (fun j=>(s.take k).any (fun c=>tch c j)) (fun j=>(s.drop k).any (fun c=>tch c j)) n))
 | 0,i,h=>by
  rw[forN_zero]
  refine congrArg (fun x=>some (Sum.inr x)) (cellsOf_congr (fun j=>?_))
  have e:i=s.length:=by omega
  subst e
  rw[List.take_length]
  refine⟨?_,rfl⟩
  by_cases g:s.length≤k
  ·rw[Nat.min_eq_left g,List.take_length,List.take_of_length_le g]
  ·rw[Nat.min_eq_right (by omega)]
 | m+1,i,h=>by
  have hi:i<s.length:=by omega
  have hc:s[i]∈s:=List.getElem_mem hi
  have htake:s.take (i+1)=s.take i++[s[i]]:=List.take_succ_eq_append_getElem hi
  by_cases g:k≤i
  ·rw[forN_nx (s':=cellsOf (fun j=>(s.take (min (i+1) k)).any (fun c=>tch c j)) (fun j=>((s.take (i+1)).drop k).any (fun c=>tch c j)) n) (by
    rw[idx_nat,List.getElem?_eq_getElem hi,ai,decide_eq_true (by omega),cond_true]
    have e:=forN_idx (ρ:=Flow (List Int) (List Int)) s[i] (fun _ v28 (s9:List Int)=>aa (impl_absolute v28) fun v32=>
     aa (idx s9 (IntKind.i64.wrap (v32-(1:Int)))) fun v34=>
     aa (idx s9 (IntKind.i64.wrap (v32-(1:Int)))) fun v35=>
     aa (idx s9 (IntKind.i64.wrap (v32-(1:Int)))) fun v38=>
     aa (idx s9 (IntKind.i64.wrap (v32-(1:Int)))) fun w4=>
     some (.nx (s9.set (IntKind.i64.wrap (v32-(1:Int))).toNat (bitor .i64 v35 (2:Int))))) (cellsOf (fun j=>(s.take (min i k)).any (fun c=>tch c j)) (fun j=>((s.take i).drop k).any (fun c=>tch c j)) n)
    have ci:=color_inner true hn s[i] 0 (fun j=>(s.take (min i k)).any (fun c=>tch c j)) (fun j=>((s.take i).drop k).any (fun c=>tch c j)) (hg _ hc)
    rw[cond_true] at ci
    rw[e,ci,thenL_inr]
    refine congrArg (fun x=>some (Flow.nx x)) (cellsOf_congr (fun j=>?_))
    refine⟨?_,?_⟩
    ·rw[Nat.min_eq_right g,Nat.min_eq_right (by omega)]; simp
    ·rw[htake,List.drop_append_of_le_length (by rw[List.length_take]; omega),List.any_append]; simp)]
   exact colors_loop hn s hg m (i+1) (by omega)
  ·rw[forN_nx (s':=cellsOf (fun j=>(s.take (min (i+1) k)).any (fun c=>tch c j)) (fun j=>((s.take (i+1)).drop k).any (fun c=>tch c j)) n) (by
    rw[idx_nat,List.getElem?_eq_getElem hi,ai,decide_eq_false (by omega),cond_false]
    have e:=forN_idx (ρ:=Flow (List Int) (List Int)) s[i] (fun _ v28 (s9:List Int)=>aa (impl_absolute v28) fun v32=>
     aa (idx s9 (IntKind.i64.wrap (v32-(1:Int)))) fun v34=>
     aa (idx s9 (IntKind.i64.wrap (v32-(1:Int)))) fun v35=>
     aa (idx s9 (IntKind.i64.wrap (v32-(1:Int)))) fun v38=>
     aa (idx s9 (IntKind.i64.wrap (v32-(1:Int)))) fun w4=>
     some (.nx (s9.set (IntKind.i64.wrap (v32-(1:Int))).toNat (bitor .i64 v35 (1:Int))))) (cellsOf (fun j=>(s.take (min i k)).any (fun c=>tch c j)) (fun j=>((s.take i).drop k).any (fun c=>tch c j)) n)
    have ci:=color_inner false hn s[i] 0 (fun j=>(s.take (min i k)).any (fun c=>tch c j)) (fun j=>((s.take i).drop k).any (fun c=>tch c j)) (hg _ hc)
    rw[cond_false] at ci
    rw[e,ci,thenL_inr]
    refine congrArg (fun x=>some (Flow.nx x)) (cellsOf_congr (fun j=>?_))
    refine⟨?_,?_⟩
    ·rw[Nat.min_eq_left (by omega),Nat.min_eq_left (by omega),htake,List.any_append]; simp
    ·rw[List.drop_of_length_le (by rw[List.length_take]; omega),List.drop_of_length_le (by rw[List.length_take]; omega)]; simp)]
   exact colors_loop hn s hg m (i+1) (by omega)
/-! models -/
def sat(s:List (List Int))(a:List Int):Bool:=s.all (fun c=>c.any (hasI a))
theorem isModel_eq(s:List (List Int))(a:List Int):impl_isModel s a=some (sat s a):=by
 unfold impl_isModel sat
 rw[contC (p:=fun c=>!c.any (hasI a)) s (fun c _=>by
  unfold impl_isModel_1 impl_isSatisfied
  rw[ContainsFunc_int (p:=hasI a) c (fun x _=>by unfold impl_isSatisfied_1; rw[Contains_eq]; rfl)]; rfl),ai,List.all_eq_not_any_not]
end
section
/-! ### loops whose states are known -/
theorem while_iter{ρ σ:Type}{f:σ→Option (Flow ρ σ)}(st:Nat→σ):∀ (N i:Nat) (z:ρ ⊕ σ),(∀ j,i≤j→j<i+N→f (st j)=some (.nx (st (j+1))))→((∃ s',f (st (i+N))=some (.br s')∧z=.inr s')∨∃ r,f (st (i+N))=some (.rt r)∧z=.inl r)→
 ∀ m,N+1≤m→whileN f m (st i)=some z
 | 0,i,z,_,h,m,hm=>by
  obtain⟨k,rfl⟩:∃ k,m=k+1:=⟨m-1,by omega⟩
  rw[Nat.add_zero] at h
  rcases h with⟨s',h,rfl⟩ | ⟨r,h,rfl⟩
  ·rw[whileN_br h]
  ·rw[whileN_rt h]
 | N+1,i,z,h1,h2,m,hm=>by
  obtain⟨k,rfl⟩:∃ k,m=k+1:=⟨m-1,by omega⟩
  rw[whileN_nx (h1 i (a7 _) (by omega))]
  exact while_iter st N (i+1) z (fun j a b=>h1 j (by omega) (by omega)) (by rw[show i+1+N=i+(N+1) by omega]; exact h2) k (by omega)
theorem lim_iter{ρ σ:Type}{f:σ→Option (Flow ρ σ)}(st:Nat→σ)(N:Nat){s':σ}(h1:∀ j,j<N→f (st j)=some (.nx (st (j+1))))(h2:f (st N)=some (.br s')):lim (fun n=>whileN f n (st 0))=some (.inr s'):=
 lim_eq ⟨N+1,fun n hn=>while_iter st N 0 _ (fun j _ hj=>h1 j (by omega)) (.inl ⟨s',by rw[Nat.zero_add]; exact h2,rfl⟩) n hn⟩
theorem forN_congr'{ρ σ:Type}{f g:Nat→σ→Option (Flow ρ σ)}:∀ (n i:Nat) (s:σ),(∀ j s,i≤j→j<i+n→f j s=g j s)→forN f n i s=forN g n i s
 | 0,_,_,_=>rfl
 | n+1,i,s,h=>by
  unfold forN
  rw[h i s (a7 _) (by omega)]
  congr 1
  funext x
  cases x with
  | nx s'=>exact forN_congr' n (i+1) s' (fun j t a b=>h j t (by omega) (by omega))
  | br s'=>rfl
  | rt r=>rfl
theorem forN_forL{α ρ σ:Type}[Inhabited α]{f:Nat→σ→Option (Flow ρ σ)}(xs:List α)(g:Nat→α→σ→Option (Flow ρ σ))(s:σ)(h:∀ j,j<xs.length→∀ s,f j s=g j (xs.getD j default) s):forN f xs.length 0 s=forL g xs 0 s:=by
 rw[← forN_idx]
 refine forN_congr' _ _ _ fun j s _ hj=>?_
 rw[idx_getD (by omega),ai,h j (by omega)]
theorem app_one{α:Type}(xs:List α)(x:α)(h:xs.length≤1000000):app xs [x]=some (xs++[x]):=by
 unfold app; rw[if_pos (by simp only[aW,bw]; omega)]
theorem filt_forA{α ρ:Type}{p:α→Bool}{body:Nat→α→List α→Option (Flow ρ (List α))}:∀ (xs:List α) (i:Nat) (s:List α),(∀ i x s,x∈xs→s.length≤1000→body i x s=some (.nx (bif p x then s++[x] else s)))→s.length+xs.length≤1000→forL body xs i s=some (.inr (s++xs.filter p))
 | [],i,s,_,_=>by rw[List.filter_nil,bu]; rfl
 | x::xs,i,s,h,hs=>by
  simp only[aW] at hs
  rw[forL_nx (h i x s (by simp) (by omega)),List.filter_cons]
  cases p x
  ·rw[cond_false,if_neg (by simp),filt_forA xs (i+1) s (fun i y s hy=>h i y s (by simp[hy])) (by omega)]
  ·rw[cond_true,if_pos rfl,filt_forA xs (i+1) (s++[x]) (fun i y s hy=>h i y s (by simp[hy])) (by simp; omega),aT]; rfl
end
section
/-! ### clauses, sorted by their variables -/
def absS(l:List Int):Prop:=l.Pairwise fun a b=>absI a<absI b
theorem clauseB_srt{l:List Int}(h:clauseB l=true):absS l∧∀ x∈l,1≤absI x∧absI x≤12:=by
 unfold clauseB at h
 rw[bc] at h
 have hk:∀ j,j<l.length→(1≤absI (l.getD j default)∧absI (l.getD j default)≤12)∧(j=0∨absI (l.getD (j-1) default)<absI (l.getD j default)):=fun j hj=>by
  have:=h j (List.mem_range.2 hj)
  rw[aD,Bool.or_eq_true,decide_eq_true_eq,decide_eq_true_eq] at this
  simp only[inR,decide_eq_true_eq] at this
  exact this
 have step:∀ d i,i+d+1<l.length→absI (l.getD i default)<absI (l.getD (i+d+1) default):=fun d=>by
  induction d with
  | zero=>
   intro i hi
   have:=(hk (i+1) hi).2
   simpa using this
  | succ d ih=>
   intro i hi
   have h1:=ih i (by omega)
   have h2:=(hk (i+(d+1)+1) hi).2
   rw[show i+(d+1)+1-1=i+d+1 by omega] at h2
   have:¬ i+(d+1)+1=0:=by omega
   omega
 refine⟨?_,fun x hx=>?_⟩
 ·unfold absS
  rw[List.pairwise_iff_getElem]
  intro i j hi hj hij
  have:=step (j-i-1) i (by omega)
  rw[show i+(j-i-1)+1=j by omega] at this
  simpa[List.getD,hi,hj] using this
 ·obtain⟨i,hi,rfl⟩:=List.getElem_of_mem hx
  have:=(hk i hi).1
  simpa[List.getD,hi] using this
theorem clauseB_of{l:List Int}(h:absS l)(hr:∀ x∈l,1≤absI x∧absI x≤12):clauseB l=true:=by
 unfold clauseB
 rw[bc]
 intro j hj
 rw[List.mem_range] at hj
 have h1:=hr _ (getD_mem hj)
 rw[aD,Bool.or_eq_true,decide_eq_true_eq,decide_eq_true_eq]
 simp only[inR,decide_eq_true_eq]
 refine⟨h1,?_⟩
 by_cases h0:j=0
 ·exact .inl h0
 ·unfold absS at h
  rw[List.pairwise_iff_getElem] at h
  have:=h (j-1) j (by omega) hj (by omega)
  exact .inr (by simpa[List.getD,hj,show j-1<l.length by omega] using this)
structure Cl(l:List Int):Prop where
 b:clauseB l=true
 r:∀ x∈l,InR x
theorem Cl.srt{l:List Int}(h:Cl l):absS l:=(clauseB_srt h.b).1
theorem Cl.rng{l:List Int}(h:Cl l):∀ x∈l,InR x∧1≤absI x∧absI x≤12:=fun x hx=>⟨h.r x hx,(clauseB_srt h.b).2 x hx⟩
/-- What a literal is. -/
def Lit(x:Int):Prop:=InR x∧1≤absI x∧absI x≤12
theorem Lit.v{x:Int}(h:Lit x):absI x=(if x<0 then -x else x)∧x≠0∧-12≤x∧x≤12:=by
 obtain⟨h1,h2⟩:=absI_rng h.1 h.2.1
 have h3:=h.2.2
 rw[h1] at h3
 refine⟨h1,h2,?_,?_⟩<;>split at h3<;>omega
theorem Lit.neg{x:Int}(h:Lit x):IntKind.i64.wrap (0-x)=-x:=by
 obtain⟨_,_,h3,h4⟩:=h.v
 rw[wrap64 (by omega) (by omega)]; omega
theorem Lit.abs_eq{x y:Int}(hx:Lit x)(hy:Lit y):absI x=absI y↔x=y∨x=-y:=by
 obtain⟨a1,a2,a3,a4⟩:=hx.v
 obtain⟨b1,b2,b3,b4⟩:=hy.v
 rw[a1,b1]
 split<;>split<;>omega
theorem lit_len{l:List Int}(h:absS l)(hr:∀ x∈l,Lit x):l.length≤12:=by
 have:=asc_len (l.map absI) 1 (by unfold Asc; rw[List.pairwise_map]; exact h) (fun x hx=>by
  obtain⟨y,hy,rfl⟩:=List.mem_map.1 hx
  exact(hr y hy).2) (by omega)
 rw[List.length_map] at this; omega
theorem absS_inj{l:List Int}(h:absS l){x y:Int}(hx:x∈l)(hy:y∈l)(e:absI x=absI y):x=y:=by
 unfold absS at h
 rw[List.pairwise_iff_getElem] at h
 obtain⟨i,hi,rfl⟩:=List.getElem_of_mem hx
 obtain⟨j,hj,rfl⟩:=List.getElem_of_mem hy
 rcases Nat.lt_trichotomy i j with g | g | g
 ·have:=h i j hi hj g; omega
 ·subst g; rfl
 ·have:=h j i hj hi g; omega
/-! ### inserting -/
def insA:List Int→Int→List Int
 | [],x=>[x]
 | y::l,x=>if absI y<absI x then y::insA l x else x::y::l
theorem insA_perm(x:Int):∀ l:List Int,(insA l x).Perm (x::l)
 | []=>List.Perm.refl _
 | y::l=>by
  rw[insA]
  split
  ·exact((insA_perm x l).cons y).trans (List.Perm.swap x y l)
  ·exact List.Perm.refl _
theorem insA_srt{x:Int}:∀ {l:List Int},absS l→(∀ y∈l,absI y≠absI x)→absS (insA l x)
 | [],_,_=>by simp[insA,absS]
 | y::l,h,hn=>by
  unfold absS at h ⊢
  rw[List.pairwise_cons] at h
  rw[insA]
  split
  ·rename_i g
   rw[List.pairwise_cons]
   refine⟨fun z hz=>?_,insA_srt h.2 fun z hz=>hn z (by simp[hz])⟩
   rcases List.mem_cons.1 ((insA_perm x l).mem_iff.1 hz) with rfl | hz
   ·exact g
   ·exact h.1 z hz
  ·rename_i g
   have:=hn y (by simp)
   rw[List.pairwise_cons]
   refine⟨fun z hz=>?_,List.pairwise_cons.2 h⟩
   rcases List.mem_cons.1 hz with rfl | hz
   ·omega
   ·have:=h.1 z hz; omega
theorem put15_eq(l:List Int)(x:Int)(hl:l.length≤1000000):spec_l15Put l x=some (insA l x):=by
 unfold spec_l15Put
 have mid:∀ {β:Type} (k:List Int→Option β) (pre suf:List Int),l=pre++suf→(aa (slc l (0:Int) (pre.length:Int)) fun v25=>aa (app ([]) v25) fun v26=>aa (app v26 ([x])) fun v29=>aa (slc l (pre.length:Int) (l.length:Int)) fun v32=>aa (app v29 v32) fun v33=>k v33)=k (pre++x::suf):=fun k pre suf e=>by
  have hlen:l.length=pre.length+suf.length:=by rw[e,aV]
  unfold slc app
  rw[if_pos (by omega),ai]
  simp only[Int.toNat_natCast,bn,Int.toNat_zero,List.drop_zero,bw]
  rw[if_pos (by rw[List.length_take]; omega),ai,if_pos (by rw[List.length_take]; simp; omega),ai,if_pos (by omega),ai,if_pos (by simp only[aV,List.length_take,List.length_drop,aW,bw]; omega),ai,List.take_length]
  rw[e,List.take_left,List.drop_left,aT]; rfl
 have key:∀ (suf pre:List Int),l=pre++suf→thenL (ρ:=List Int) (σ:=Unit) (forN (fun (i2:Nat) (s2:Unit)=>
  aa (idx l (i2:Int)) fun v13=>
  aa (spec_l15Abs v13) fun v15=>
  aa (spec_l15Abs x) fun v17=>
  bif decide (v15<v17) then
   some (.nx ())
  else
   aa (slc l (0:Int) (i2:Int)) fun v25=>
   aa (app ([]) v25) fun v26=>
   aa (app v26 ([x])) fun v29=>
   aa (slc l (i2:Int) (l.length:Int)) fun v32=>
   aa (app v29 v32) fun v33=>
   some (.rt v33)) suf.length pre.length ()) (fun s2=>
 aa (slc l (0:Int) ((l.length:Nat):Int)) fun v25=>
 aa (app ([]) v25) fun v26=>
 aa (app v26 ([x])) fun v29=>
 aa (slc l ((l.length:Nat):Int) (l.length:Int)) fun v32=>
 aa (app v29 v32) fun v33=>
 some v33)=some (pre++insA suf x):=fun suf=>by
  induction suf with
  | nil=>
   intro pre e
   have:=mid some pre [] e
   rw[bu] at e
   rw[← e] at this
   rw[bw,forN_zero,thenL_inr,this,← e]; rfl
  | cons y suf ih=>
   intro pre e
   have hi:idx l (pre.length:Int)=some y:=by rw[e]; unfold idx; rw[if_pos (by omega)]; simp
   rw[aW,insA]
   by_cases g:absI y<absI x
   ·rw[if_pos g,forN_nx (s':=()) (by rw[hi,ai,abs_eq,ai,abs_eq,ai,decide_eq_true g]; rfl)]
    have:=ih (pre++[y]) (by rw[e,aT]; rfl)
    rw[aV,aW,bw,aT] at this
    exact this
   ·have hb:=mid (fun r=>some (Flow.rt r:Flow (List Int) Unit)) pre (y::suf) e
    rw[if_neg g,forN_rt (r:=pre++x::y::suf) (by rw[hi,ai,abs_eq,ai,abs_eq,ai,decide_eq_false g]; exact hb)]; rfl
 exact key l [] rfl
/-! ### resolution -/
def specF(v:Int):List Int→List Int→Option (List Int)
 | [],Y=>some Y
 | x::b,Y=>if x=-v then specF v b Y else if hasI Y x then specF v b Y else if hasI Y (-x) then none else specF v b (insA Y x)
def implF(v:Int):List Int→List Int→Option (List Int)
 | [],X=>some X
 | x::b,X=>if x=v∨x=-v then implF v b X else if hasI X x then implF v b X else if hasI X (-x) then none else implF v b (X++[x])
theorem hasI_iff{l:List Int}{x:Int}:hasI l x=true↔x∈l:=by unfold hasI; exact decide_eq_true_iff
theorem hasI_perm{l m:List Int}(h:l.Perm m)(x:Int):hasI l x=hasI m x:=by
 rw[Bool.eq_iff_iff,hasI_iff,hasI_iff]; exact h.mem_iff
theorem implF_append(v:Int)(b:List Int):∀ (a X:List Int),implF v (a++b) X=(implF v a X).bind (implF v b)
 | [],X=>rfl
 | x::a,X=>by
  rw[List.cons_append,implF,implF]
  split
  ·exact implF_append v b a X
  ·split
   ·exact implF_append v b a X
   ·split
    ·rfl
    ·exact implF_append v b a _
theorem implF_first(v:Int):∀ (a X:List Int),(∀ x∈X++a,Lit x)→absS (X++a)→implF v a X=some (X++a.filter fun x=>!(decide (x=v)||decide (x=-v)))
 | [],X,_,_=>by simp[implF]
 | x::a,X,hl,hs=>by
  have hx:=hl x (by simp)
  have sub:(X++a).Sublist (X++x::a):=List.Sublist.append_left (List.sublist_cons_self x a) X
  have hno:∀ y∈X,y≠x∧y≠-x:=fun y hy=>by
   have hy':=hl y (by simp[hy])
   unfold absS at hs
   rw[List.pairwise_append] at hs
   have:=hs.2.2 y hy x (by simp)
   have e:=hy'.abs_eq hx
   constructor<;>intro q
   ·rw[e.2 (.inl q)] at this; omega
   ·rw[e.2 (.inr q)] at this; omega
  rw[implF,List.filter_cons]
  by_cases e:x=v∨x=-v
  ·rw[if_pos e,if_neg (by rcases e with e | e<;>simp[e]),implF_first v a X (fun y hy=>hl y (sub.subset hy)) (List.Pairwise.sublist sub hs)]
  ·have f1:hasI X x=false:=by rw[Bool.eq_false_iff,Ne,hasI_iff]; exact fun q=>(hno x q).1 rfl
   have f2:hasI X (-x)=false:=by rw[Bool.eq_false_iff,Ne,hasI_iff]; exact fun q=>(hno _ q).2 rfl
   rw[if_neg e,f1,f2,if_neg (by simp),if_neg (by simp),if_pos (by simp; omega)]
   have:=implF_first v a (X++[x]) (by rw[aT]; exact hl) (by rw[aT]; exact hs)
   rw[this,aT]; rfl
/-- Both find the same. -/
theorem resolve_both(v:Int):∀ (b X Y:List Int),(∀ x∈b,Lit x∧x≠v)→(∀ x∈Y,Lit x)→X.Perm Y→absS Y→
 (match specF v b Y with
 | none=>implF v b X=none
 | some r=>∃ q,implF v b X=some q∧q.Perm r∧absS r∧∀ x∈r,Lit x)
 | [],X,Y,_,hY,hp,hs=>⟨X,rfl,hp,hs,hY⟩
 | x::b,X,Y,hb,hY,hp,hs=>by
  have hx:=hb x (by simp)
  have hb':∀ z∈b,Lit z∧z≠v:=fun z hz=>hb z (by simp[hz])
  rw[specF,implF,hasI_perm hp x,hasI_perm hp (-x)]
  by_cases e:x=-v
  ·rw[if_pos e,if_pos (.inr e)]; exact resolve_both v b X Y hb' hY hp hs
  ·have hne:¬ (x=v∨x=-v):=by intro q; rcases q with q | q; exact hx.2 q; exact e q
   simp only[if_neg e,if_neg hne]
   by_cases h1:hasI Y x=true
   ·simp only[if_pos h1]; exact resolve_both v b X Y hb' hY hp hs
   ·simp only[if_neg h1]
    by_cases h2:hasI Y (-x)=true
    ·simp only[if_pos h2]
    ·simp only[if_neg h2]
     refine resolve_both v b (X++[x]) (insA Y x) hb' (fun z hz=>?_) ?_ (insA_srt hs fun z hz q=>?_)
     ·rcases List.mem_cons.1 ((insA_perm x Y).mem_iff.1 hz) with rfl | hz
      ·exact hx.1
      ·exact hY z hz
     ·exact(List.perm_append_singleton x X).trans ((hp.cons x).trans (insA_perm x Y).symm)
     ·rcases ((hY z hz).abs_eq hx.1).1 q with rfl | rfl
      ·exact h1 (hasI_iff.2 hz)
      ·exact h2 (hasI_iff.2 hz)
end
section
/-! ### the sort -/
theorem byVar_eq{x y:Int}(hx:Lit x)(hy:Lit y):impl_byVariable x y=some (if absI x<absI y then -1 else if absI y<absI x then 1 else 0):=by
 unfold impl_byVariable cmp_Compare_int cmp_isNaN_int
 rw[impl_abs hx.1,impl_abs hy.1]
 simp only[ai,decide_true,Bool.not_true,cond_false]
 by_cases h1:absI x<absI y
 ·rw[decide_eq_true h1,if_pos h1]; rfl
 ·rw[decide_eq_false h1,if_neg h1,cond_false]
  by_cases h2:absI y<absI x
  ·rw[decide_eq_true h2,if_pos h2]; rfl
  ·rw[decide_eq_false h2,if_neg h2]; rfl
theorem cmpI_lit{x y:Int}(hx:Lit x)(hy:Lit y):cmpI x y=if absI x<absI y then -1 else if absI y<absI x then 1 else 0:=by unfold cmpI; rw[byVar_eq hx hy]; rfl
theorem cmpI_neg{x y:Int}(hx:Lit x)(hy:Lit y):cmpI x y<0↔absI x<absI y:=by
 rw[cmpI_lit hx hy]
 split
 ·simp_all
 ·split<;>simp_all
theorem sort_lits{X r:List Int}(hp:X.Perm r)(hs:absS r)(hr:∀ x∈r,Lit x):slices_SortFuncI X=some ((),r):=by
 have hX:∀ x∈X,Lit x:=fun x hx=>hr x (hp.mem_iff.1 hx)
 have hok:SortOkI X:={
  len:=by rw[hp.length_eq]; have:=lit_len hs hr; omega
  ex:=fun x hx y hy=>by unfold cmpI; rw[byVar_eq (hX x hx) (hX y hy)]; rfl
  irr:=fun x hx=>by rw[cmpI_neg (hX x hx) (hX x hx)]; omega
  tr:=fun x hx y hy z hz h1 h2=>by
   rw[cmpI_neg (hX x hx) (hX y hy)] at h1
   rw[cmpI_neg (hX y hy) (hX z hz)] at h2
   rw[cmpI_neg (hX x hx) (hX z hz)]; omega
  ntr:=fun x hx y hy z hz h1 h2=>by
   rw[cmpI_neg (hX x hx) (hX y hy)] at h1
   rw[cmpI_neg (hX y hy) (hX z hz)] at h2
   rw[cmpI_neg (hX x hx) (hX z hz)]; omega
  anti:=fun x hx y hy h1 h2=>by
   rw[cmpI_neg (hX x hx) (hX y hy)] at h1
   rw[cmpI_neg (hX y hy) (hX x hx)] at h2
   exact absS_inj hs (hp.mem_iff.1 hx) (hp.mem_iff.1 hy) (by omega) }
 unfold slices_SortFuncI
 rw[if_pos hok,sortedI_one hok hp.symm (hs.imp_of_mem (fun {a b} ha hb hab=>by
  rw[cmpI_neg (hr b hb) (hr a ha)]; omega))]
/-! ### resolution -/
/-- The resolvent of two clauses. -/
def resR(a b:List Int)(v:Int):Option (List Int):=if hasI a v=true∧hasI b (-v)=true then specF v b (a.filter fun x=>!decide (x=v)) else none
def resP(r:Option (List Int)):List Int×Bool:=match r with
 | some l=>(l,true)
 | none=>([],false)
theorem specF_loop{v:Int}(hv:Lit v){body:Nat→Int→List Int→Option (Flow (List Int×Bool) (List Int))}(h:∀ i x s,Lit x→s.length≤1000→body i x s=some (if x=-v then .nx s else if hasI s x then .nx s else if hasI s (-x) then .rt ([],false) else .nx (insA s x))):∀ (b:List Int) (i:Nat) (Y:List Int),(∀ x∈b,Lit x)→Y.length+b.length≤1000→
 forL body b i Y=some (match specF v b Y with | none=>.inl ([],false) | some r=>.inr r)
 | [],i,Y,_,_=>rfl
 | x::b,i,Y,hb,hl=>by
  simp only[aW] at hl
  have h0:=h i x Y (hb x (by simp)) (by omega)
  have hb':∀ z∈b,Lit z:=fun z hz=>hb z (by simp[hz])
  rw[specF]
  by_cases e:x=-v
  ·rw[if_pos e] at h0 ⊢
   rw[forL_nx h0,specF_loop hv h b (i+1) Y hb' (by omega)]
  ·rw[if_neg e] at h0 ⊢
   by_cases h1:hasI Y x=true
   ·rw[if_pos h1] at h0 ⊢
    rw[forL_nx h0,specF_loop hv h b (i+1) Y hb' (by omega)]
   ·rw[if_neg h1] at h0 ⊢
    by_cases h2:hasI Y (-x)=true
    ·rw[if_pos h2] at h0 ⊢
     unfold forL
     rw[h0]; rfl
    ·rw[if_neg h2] at h0 ⊢
     have:=(insA_perm x Y).length_eq
     simp only[aW] at this
     rw[forL_nx h0,specF_loop hv h b (i+1) _ hb' (by omega)]
theorem implF_loop{v:Int}{body:Nat→Int→List Int→Option (Flow (List Int×Bool) (List Int))}(h:∀ i x s,Lit x→s.length≤1000→body i x s=some (if x=v∨x=-v then .nx s else if hasI s x then .nx s else if hasI s (-x) then .rt ([],false) else .nx (s++[x]))):∀ (b:List Int) (i:Nat) (Y:List Int),(∀ x∈b,Lit x)→Y.length+b.length≤1000→
 forL body b i Y=some (match implF v b Y with | none=>.inl ([],false) | some r=>.inr r)
 | [],i,Y,_,_=>rfl
 | x::b,i,Y,hb,hl=>by
  simp only[aW] at hl
  have h0:=h i x Y (hb x (by simp)) (by omega)
  have hb':∀ z∈b,Lit z:=fun z hz=>hb z (by simp[hz])
  rw[implF]
  by_cases e:x=v∨x=-v
  ·rw[if_pos e] at h0 ⊢
   rw[forL_nx h0,implF_loop h b (i+1) Y hb' (by omega)]
  ·rw[if_neg e] at h0 ⊢
   by_cases h1:hasI Y x=true
   ·rw[if_pos h1] at h0 ⊢
    rw[forL_nx h0,implF_loop h b (i+1) Y hb' (by omega)]
   ·rw[if_neg h1] at h0 ⊢
    by_cases h2:hasI Y (-x)=true
    ·rw[if_pos h2] at h0 ⊢
     unfold forL
     rw[h0]; rfl
    ·rw[if_neg h2] at h0 ⊢
     rw[forL_nx h0,implF_loop h b (i+1) _ hb' (by simp; omega)]
theorem Cl.lit{l:List Int}(h:Cl l):∀ x∈l,Lit x:=h.rng
theorem Cl.len{l:List Int}(h:Cl l):l.length≤12:=lit_len h.srt h.lit
theorem resolve_spec{a b:List Int}{v:Int}(ha:Cl a)(hb:Cl b)(hv:1≤v∧v≤12):spec_l15Resolve a b v=some (resP (resR a b v)):=by
 have la:=ha.len
 have lb:=hb.len
 have hn:IntKind.i64.wrap (0-v)=-v:=by rw[wrap64 (by omega) (by omega)]; omega
 have hvl:Lit v:=⟨⟨by omega,by omega⟩,by unfold absI; rw[if_neg (by omega)]; omega,by unfold absI; rw[if_neg (by omega)]; omega⟩
 unfold spec_l15Resolve resR
 rw[Has_eq,ai,hn,Has_eq,ai]
 cases h1:hasI a v
 ·rw[if_neg (by simp)]; rfl
 cases h2:hasI b (-v)
 ·rw[if_neg (by simp)]; rfl
 rw[cond_true,cond_true,if_pos ⟨rfl,rfl⟩]
 rw[forN_forL a (fun i x s=>bif decide (x=v) then some (.nx s) else aa (app s ([x])) fun v42=>some (.nx v42)) [] (fun j hj s=>by simp only[idx_getD hj,ai]),filt_forA (p:=fun x=>!decide (x=v)) a 0 [] (fun i x s _ hs=>by
  cases decide (x=v)
  ·rw[cond_false,app_one _ _ (by omega)]; rfl
  ·rfl) (by simp; omega),thenL_inr,bn]
 rw[forN_forL b (fun i x s=>bif decide (x=-v) then some (.nx s) else aa (spec_l1Has s x) fun v62=>bif v62 then some (.nx s) else aa (spec_l1Has s (IntKind.i64.wrap (0-x))) fun v70=>bif v70 then some (.rt ([],false)) else aa (spec_l15Put s x) fun v77=>some (.nx v77)) _ (fun j hj s=>by simp only[idx_getD hj,ai])]
 rw[specF_loop hvl (fun i x s hx hs=>by
  rw[Has_eq,ai,hx.neg,Has_eq,ai]
  by_cases e:x=-v
  ·rw[decide_eq_true e,if_pos e]; rfl
  ·rw[decide_eq_false e,if_neg e,cond_false]
   cases hasI s x
   ·cases hasI s (-x)
    ·rw[cond_false,cond_false,put15_eq _ _ (by omega)]; rfl
    ·rfl
   ·rfl) b 0 _ hb.lit (by have:=List.length_filter_le (fun x=>!decide (x=v)) a; omega)]
 cases specF v b (a.filter fun x=>!decide (x=v))<;>rfl
theorem concatA(L R:List Int)(h1:L.length≤1000)(h2:R.length≤1000):slices_Concat_Sint_int [L,R]=some (L++R):=by
 unfold slices_Concat_Sint_int
 simp only[forN_idx]
 rw[forL_nx (s':=(L.length:Int)) (by
  rw[Int.zero_add,wrap64 (by omega) (by omega),decide_eq_false (by omega)]; rfl),forL_nx (s':=((L.length+R.length:Nat):Int)) (by
  rw[wrap64 (by omega) (by omega),decide_eq_false (by omega)]
  show some _=some _
  congr 2)]
 have g:∀ n:Nat,n≤2000→slices_Grow_Sint_int_nil0 (n:Int)=some []:=by
  intro n hn
  unfold slices_Grow_Sint_int_nil0
  rw[decide_eq_false (by omega),cond_false,show IntKind.i64.wrap ((0:Int)-(([]:List Nat).length:Int))=0 by rw[wrap64 (by simp) (by simp)]; rfl,Int.sub_zero,wrap64 (by omega) (by omega)]
  by_cases h0:n=0
  ·subst h0; rfl
  ·rw[decide_eq_true (by omega),cond_true,show appz (n:Int)=some n from by unfold appz; rw[if_pos (by omega)]; simp,ai]
   unfold slc
   rw[if_pos (by simp)]; simp
 have e0:forL (ρ:=List Int) (fun (_:Nat) (v13:List Int) (s3:Int)=>bif decide ((IntKind.i64.wrap (s3+(v13.length:Int)))<(0:Int)) then none else some (.nx (IntKind.i64.wrap (s3+(v13.length:Int))))) [] (0+1+1) ((L.length+R.length:Nat):Int)=some (.inr ((L.length+R.length:Nat):Int)):=rfl
 rw[e0,thenL_inr,g _ (by omega),ai]
 rw[forL_nx (s':=L) (by unfold app; rw[if_pos (by simp; omega)]; rfl),forL_nx (s':=L++R) (by unfold app; rw[if_pos (by omega)]; rfl)]
 rfl
theorem propClause{c:List Int}(h:∀ x∈c,InR x)(hl:c.length≤1048576):impl_isPropClause c=some (clauseB c):=by rw[clause_same c h,clause_eq c hl]
theorem resolve_impl{a b:List Int}{v:Int}(ha:Cl a)(hb:Cl b):impl_ResolveOn a b v=some (resP (bif inR v 1 12 then resR a b v else none)):=by
 have la:=ha.len
 have lb:=hb.len
 unfold impl_ResolveOn impl_isPropVariable
 rw[propClause ha.r (by omega),propClause hb.r (by omega),ha.b,hb.b,within_eq]
 simp only[ai,cond_true]
 cases hi:inR v 1 12
 ·rfl
 have hv:1≤v∧v≤12:=by unfold inR at hi; rw[decide_eq_true_eq] at hi; exact hi
 have hn:IntKind.i64.wrap (0-v)=-v:=by rw[wrap64 (by omega) (by omega)]; omega
 have hvl:Lit v:=⟨⟨by omega,by omega⟩,by unfold absI; rw[if_neg (by omega)]; omega,by unfold absI; rw[if_neg (by omega)]; omega⟩
 rw[cond_true,cond_true,Contains_eq,ai,hn,Contains_eq,ai]
 unfold resR
 cases h1:hasI a v
 ·rw[if_neg (by simp)]; rfl
 cases h2:hasI b (-v)
 ·rw[if_neg (by simp)]; rfl
 rw[cond_true,cond_true,if_pos ⟨rfl,rfl⟩,concatA a b (by omega) (by omega),ai]
 rw[forN_forL (a++b) (fun i x s=>bif decide (x=v) then some (.nx s) else bif decide (x=-v) then some (.nx s) else aa (slices_Contains_Sint_int s x) fun v59=>bif v59 then some (.nx s) else aa (slices_Contains_Sint_int s (IntKind.i64.wrap (0-x))) fun v64=>bif v64 then some (.rt ([],false)) else aa (app s ([x])) fun v68=>some (.nx v68)) [] (fun j hj s=>by simp only[idx_getD hj,ai])]
 rw[implF_loop (v:=v) (fun i x s hx hs=>by
  rw[Contains_eq,ai,hx.neg,Contains_eq,ai]
  by_cases e1:x=v
  ·rw[decide_eq_true e1,if_pos (.inl e1)]; rfl
  ·rw[decide_eq_false e1,cond_false]
   by_cases e:x=-v
   ·rw[decide_eq_true e,if_pos (.inr e)]; rfl
   ·rw[decide_eq_false e,if_neg (by intro q; rcases q with q | q; exact e1 q; exact e q),cond_false]
    cases hasI s x
    ·cases hasI s (-x)
     ·rw[cond_false,cond_false,app_one _ _ (by omega)]; rfl
     ·rfl
    ·rfl) (a++b) 0 [] (fun x hx=>by
   rcases List.mem_append.1 hx with hx | hx
   ·exact ha.lit x hx
   ·exact hb.lit x hx) (by simp; omega)]
 have hna:-v∉a:=fun q=>by
  have:=absS_inj ha.srt (hasI_iff.1 h1) q (by rw[(hvl.abs_eq (ha.lit _ q)).2 (.inr (by omega))])
  omega
 have hnb:v∉b:=fun q=>by
  have:=absS_inj hb.srt (hasI_iff.1 h2) q (by rw[((hb.lit _ (hasI_iff.1 h2)).abs_eq (hb.lit _ q)).2 (.inr rfl)])
  omega
 have hfa:(a.filter fun x=>!(decide (x=v)||decide (x=-v)))=a.filter fun x=>!decide (x=v):=List.filter_congr fun x hx=>by
  rw[decide_eq_false (show ¬ x=-v from fun e=>hna (e▸hx)),Bool.or_false]
 rw[implF_append,implF_first v a [] (by simpa using ha.lit) (by simpa using ha.srt),bn,hfa]
 have sub:(a.filter fun x=>!decide (x=v)).Sublist a:=List.filter_sublist
 have both:=resolve_both v b (a.filter fun x=>!decide (x=v)) (a.filter fun x=>!decide (x=v)) (fun x hx=>⟨hb.lit x hx,fun e=>hnb (e▸hx)⟩) (fun x hx=>ha.lit x (sub.subset hx)) (List.Perm.refl _) (List.Pairwise.sublist sub ha.srt)
 revert both
 rw[ai]
 cases specF v b (a.filter fun x=>!decide (x=v)) with
 | none=>intro e; rw[show implF v b (a.filter fun x=>!decide (x=v))=none from e]; rfl
 | some r=>
  rintro ⟨q,q1,q2,q3,q4⟩
  rw[q1]
  show(aa (slices_SortFuncI q) fun v71=>some (v71.2,true))=_
  rw[sort_lits q2 q3 q4]; rfl
/-- A resolvent is a clause. -/
theorem resR_cl{a b:List Int}{v:Int}(ha:Cl a)(hb:Cl b)(hv:1≤v∧v≤12){r:List Int}(h:resR a b v=some r):Cl r:=by
 unfold resR at h
 split at h
 ·rename_i g
  have sub:(a.filter fun x=>!decide (x=v)).Sublist a:=List.filter_sublist
  have hvl:Lit v:=⟨⟨by omega,by omega⟩,by unfold absI; rw[if_neg (by omega)]; omega,by unfold absI; rw[if_neg (by omega)]; omega⟩
  have hnb:v∉b:=fun q=>by
   have:=absS_inj hb.srt (hasI_iff.1 g.2) q (by rw[((hb.lit _ (hasI_iff.1 g.2)).abs_eq (hb.lit _ q)).2 (.inr rfl)])
   omega
  have both:=resolve_both v b (a.filter fun x=>!decide (x=v)) (a.filter fun x=>!decide (x=v)) (fun x hx=>⟨hb.lit x hx,fun e=>hnb (e▸hx)⟩) (fun x hx=>ha.lit x (sub.subset hx)) (List.Perm.refl _) (List.Pairwise.sublist sub ha.srt)
  rw[h] at both
  obtain⟨q,_,_,q3,q4⟩:=both
  exact⟨clauseB_of q3 fun x hx=>(q4 x hx).2,fun x hx=>(q4 x hx).1⟩
 ·cases h
end
section
/-! ### the check of a refutation -/
def ffail(c:Nat→Bool):Nat→Nat→Option Nat
 | 0,_=>none
 | n+1,i=>if c i=true then ffail c n (i+1) else some i
theorem forN_ffail{ρ σ:Type}{c:Nat→Bool}{g:Nat→ρ}{f:Nat→σ→Option (Flow ρ σ)}{s:σ}:∀ (n i:Nat),(∀ k,k<i→c k=true)→(∀ j,j<i+n→(∀ k,k<j→c k=true)→f j s=some (bif c j then .nx s else .rt (g j)))→
 forN f n i s=some (match ffail c n i with | none=>.inr s | some j=>.inl (g j))
 | 0,i,_,_=>rfl
 | n+1,i,h0,h=>by
  have h1:=h i (by omega) h0
  rw[ffail]
  by_cases e:c i=true
  ·rw[if_pos e,forN_nx (by rw[h1,e]; rfl)]
   refine forN_ffail n (i+1) (fun k hk=>?_) (fun j hj=>h j (by omega))
   by_cases q:k=i
   ·rw[q]; exact e
   ·exact h0 k (by omega)
  ·rw[if_neg e,forN_rt (r:=g i) (by rw[h1,Bool.eq_false_iff.2 e]; rfl)]
theorem ffail_none{c:Nat→Bool}:∀ {n i:Nat},ffail c n i=none→∀ j,i≤j→j<i+n→c j=true
 | 0,i,_,j,h1,h2=>by omega
 | n+1,i,h,j,h1,h2=>by
  rw[ffail] at h
  split at h
  ·by_cases e:j=i
   ·subst e; assumption
   ·exact ffail_none h j (by omega) (by omega)
  ·cases h
theorem ffail_lt{c:Nat→Bool}:∀ {n i j:Nat},ffail c n i=some j→i≤j∧j<i+n
 | 0,i,j,h=>by cases h
 | n+1,i,j,h=>by
  rw[ffail] at h
  split at h
  ·have:=ffail_lt h; omega
  ·cases h; omega
def stp(p:List Pt)(j:Nat):Pt:=p.getD j default
/-- The clause at an index. -/
def clsAt(s:List (List Int))(p:List Pt)(k:Nat):List Int:=if k<s.length then s.getD k default else(stp p (k-s.length)).Clause
def resAt(s:List (List Int))(p:List Pt)(j:Nat):Option (List Int):=resR (clsAt s p (stp p j).Left.toNat) (clsAt s p (stp p j).Right.toNat) (stp p j).Pivot
def okS(s:List (List Int))(p:List Pt)(j:Nat):Bool:=
 inR (stp p j).Left 0 (s.length+j-1)&&(inR (stp p j).Right 0 (s.length+j-1)&&(inR (stp p j).Pivot 1 12&&((resP (resAt s p j)).2&&decide ((resP (resAt s p j)).1=(stp p j).Clause))))
theorem inR_iff{a lo hi:Int}:inR a lo hi=true↔lo≤a∧a≤hi:=by unfold inR; exact decide_eq_true_iff
structure StepOk(s:List (List Int))(p:List Pt)(j:Nat):Prop where
 l0:0≤(stp p j).Left
 l1:(stp p j).Left<s.length+j
 r0:0≤(stp p j).Right
 r1:(stp p j).Right<s.length+j
 v0:1≤(stp p j).Pivot
 v1:(stp p j).Pivot≤12
 res:resAt s p j=some (stp p j).Clause
theorem okS_iff{s:List (List Int)}{p:List Pt}{j:Nat}(h:okS s p j=true):StepOk s p j:=by
 unfold okS at h
 rw[aD,aD,aD,inR_iff,inR_iff,inR_iff] at h
 obtain⟨h1,h2,h3,h4⟩:=h
 refine⟨h1.1,by omega,h2.1,by omega,h3.1,h3.2,?_⟩
 revert h4
 cases resAt s p j with
 | none=>intro h; cases h
 | some r=>
  intro h
  rw[show((resP (some r)).2&&decide ((resP (some r)).1=(stp p j).Clause))=decide (r=(stp p j).Clause) from rfl,decide_eq_true_iff] at h
  rw[h]
theorem cls_cl{s:List (List Int)}{p:List Pt}(hs:∀ c∈s,Cl c){j:Nat}(hp:∀ k,k<j→Cl (stp p k).Clause){l:Int}(h0:0≤l)(h1:l<s.length+j):Cl (clsAt s p l.toNat):=by
 unfold clsAt
 split
 ·rename_i g; exact hs _ (getD_mem g)
 ·exact hp _ (by omega)
theorem steps_cl{s:List (List Int)}{p:List Pt}(hs:∀ c∈s,Cl c):∀ (j:Nat),(∀ k,k<j→okS s p k=true)→∀ k,k<j→Cl (stp p k).Clause
 | 0,_,k,hk=>by omega
 | j+1,h,k,hk=>by
  have ih:=steps_cl hs j (fun k hk=>h k (by omega))
  by_cases e:k=j
  ·subst e
   have q:=okS_iff (h k (by omega))
   have:=q.res
   exact resR_cl (cls_cl hs ih q.l0 q.l1) (cls_cl hs ih q.r0 q.r1) ⟨q.v0,q.v1⟩ this
  ·exact ih k (by omega)
theorem same1_eq(a b:List Int):spec_l1Same a b=some (decide (a=b)):=by
 unfold spec_l1Same
 rw[len_dec']
 by_cases h:a.length=b.length
 ·rw[decide_eq_true h,cond_true]
  rw[forN_all (fun j=>decide (a.getD j default=b.getD j default)) (r0:=false) (fun j hj _=>by
   rw[idx_getD hj,ai,idx_getD (h▸hj),ai]
   cases decide (a.getD j default=b.getD j default)<;>rfl)]
  have:(List.range a.length).all (fun j=>decide (a.getD j default=b.getD j default))=decide (a=b):=by
   rw[Bool.eq_iff_iff,bc,decide_eq_true_iff]
   constructor
   ·intro g
    refine List.ext_getElem h (fun i h1 h2=>?_)
    have:=of_decide_eq_true (g i (by simpa using h1))
    simpa[List.getD,h1,h2] using this
   ·rintro rfl x _; exact decide_eq_true rfl
  rw[this]
  cases decide (a=b)<;>rfl
 ·rw[decide_eq_false h,decide_eq_false (fun e=>h (by rw[e]))]; rfl
theorem equal_eq(a b:List Int):slices_Equal_Sint_int a b=some (decide (a=b)):=same1_eq a b
theorem spec_cls{s:List (List Int)}{p:List Pt}{l:Int}(h0:0≤l)(h1:l<s.length+p.length)(b:s.length+p.length≤1000000):spec_l15Proof__clause ⟨s,p⟩ l=some (clsAt s p l.toNat,⟨s,p⟩):=by
 obtain⟨k,rfl⟩:∃ k:Nat,l=(k:Int):=⟨l.toNat,by omega⟩
 unfold spec_l15Proof__clause clsAt
 show(bif decide ((k:Int)<(s.length:Int)) then aa (idx s (k:Int)) fun v17=>some (v17,(lc.mk s p)) else aa (idx p (IntKind.i64.wrap ((k:Int)-(s.length:Int)))) fun v30=>some (v30.Clause,(lc.mk s p)))=_
 rw[Int.toNat_natCast]
 by_cases g:k<s.length
 ·rw[decide_eq_true (by omega),cond_true,idx_getD g,if_pos g]; rfl
 ·rw[decide_eq_false (by omega),cond_false,if_neg g,wrap64 (by omega) (by omega),show(k:Int)-(s.length:Int)=((k-s.length:Nat):Int) by omega,idx_getD (by omega)]; rfl
theorem impl_cls{s:List (List Int)}{p:List Pt}{i:Nat}(hi:i<p.length)(b:s.length+p.length≤1000000)(l:Int):impl_clauseAt s (p.take i) l=some (bif inR l 0 (s.length+i-1) then(clsAt s p l.toNat,true) else([],false)):=by
 have hl:(p.take i).length=i:=by rw[List.length_take]; omega
 unfold impl_clauseAt
 rw[within_eq,within_eq,hl,wrap64 (n:=(s.length:Int)-1) (by omega) (by omega),wrap64 (n:=(s.length:Int)+(i:Int)) (by omega) (by omega),wrap64 (by omega) (by omega),ai,ai]
 cases g:inR l 0 ((s.length:Int)-1)
 ·rw[cond_false]
  cases g':inR l (s.length:Int) ((s.length:Int)+(i:Int)-1)
  ·have:inR l 0 ((s.length:Int)+(i:Int)-1)=false:=by
    rw[Bool.eq_false_iff,Ne,inR_iff] at*; omega
   rw[this]; rfl
  ·rw[inR_iff] at g'
   have:inR l 0 ((s.length:Int)+(i:Int)-1)=true:=by rw[inR_iff]; omega
   rw[this,cond_true,cond_true,wrap64 (by omega) (by omega)]
   unfold clsAt stp
   rw[if_neg (by omega),show l-(s.length:Int)=((l.toNat-s.length:Nat):Int) by omega,idx_nat,List.getElem?_take,if_pos (by omega)]
   rw[List.getD_eq_getElem?_getD,List.getElem?_eq_getElem (by omega)]; rfl
 ·rw[inR_iff] at g
  have:inR l 0 ((s.length:Int)+(i:Int)-1)=true:=by rw[inR_iff]; omega
  rw[this,cond_true,cond_true]
  unfold clsAt
  rw[if_pos (by omega),show l=((l.toNat:Nat):Int) by omega,idx_getD (by omega)]; rfl
/-- What the check says. -/
def chk(s:List (List Int))(p:List Pt):Int:=match ffail (okS s p) p.length 0 with
 | some j=>(j:Int)
 | none=>if 0<(stp p (p.length-1)).Clause.length then(p.length:Int) else -1
theorem valid_cl{s:List (List Int)}(h:OkC s)(hv:validC s=true):∀ c∈s,Cl c:=fun c hc=>by
 unfold validC at hv
 rw[aD,bc] at hv
 exact⟨hv.2 c hc,(h c hc).2⟩
theorem valid_len{s:List (List Int)}(hv:validC s=true):s.length≤40:=by
 unfold validC at hv
 rw[aD,decide_eq_true_iff] at hv
 exact hv.1
theorem check_spec{s:List (List Int)}{p:List Pt}(hc:∀ c∈s,Cl c)(hl:s.length≤40)(hp:1≤p.length∧p.length≤200):spec_l15Check s p=some (chk s p):=by
 unfold spec_l15Check chk
 rw[forN_ffail (c:=okS s p) (g:=fun j=>((j:Nat):Int)) (s:=lc.mk s p) p.length 0 (fun k hk=>by omega) (fun j hj hk=>by
  have hj':j<p.length:=by omega
  have sc:=steps_cl hc j hk
  rw[idx_getD hj',ai,wrap64 (n:=(s.length:Int)+(j:Int)) (by omega) (by omega),wrap64 (by omega) (by omega),l1In_eq,l1In_eq,l1In_eq]
  simp only[ai]
  have e:okS s p j=(inR (stp p j).Left 0 (s.length+j-1)&&(inR (stp p j).Right 0 (s.length+j-1)&&(inR (stp p j).Pivot 1 12&&((resP (resAt s p j)).2&&decide ((resP (resAt s p j)).1=(stp p j).Clause))))):=rfl
  rw[e]
  show(bif inR (stp p j).Left 0 ((s.length:Int)+(j:Int)-1) then _ else _)=_
  cases g1:inR (stp p j).Left 0 ((s.length:Int)+(j:Int)-1)
  ·rfl
  show(bif inR (stp p j).Right 0 ((s.length:Int)+(j:Int)-1) then _ else _)=_
  cases g2:inR (stp p j).Right 0 ((s.length:Int)+(j:Int)-1)
  ·rfl
  show(bif inR (stp p j).Pivot 1 12 then _ else _)=_
  cases g3:inR (stp p j).Pivot 1 12
  ·rfl
  rw[inR_iff] at g1 g2 g3
  show aa (spec_l15Proof__clause ⟨s,p⟩ (stp p j).Left) _=_
  rw[spec_cls g1.1 (by omega) (by omega),ai]
  show aa (spec_l15Proof__clause ⟨s,p⟩ (stp p j).Right) _=_
  rw[spec_cls g2.1 (by omega) (by omega),ai]
  show aa (spec_l15Resolve (clsAt s p (stp p j).Left.toNat) (clsAt s p (stp p j).Right.toNat) (stp p j).Pivot) _=_
  rw[resolve_spec (cls_cl hc sc g1.1 (by omega)) (cls_cl hc sc g2.1 (by omega)) g3,ai]
  show(bif (resP (resAt s p j)).2 then aa (spec_l1Same (resP (resAt s p j)).1 (stp p j).Clause) _ else _)=_
  rw[same1_eq,ai]
  cases (resP (resAt s p j)).2<;>cases decide ((resP (resAt s p j)).1=(stp p j).Clause)<;>rfl)]
 cases ffail (okS s p) p.length 0 with
 | some j=>rfl
 | none=>
  rw[thenL_inr,wrap64 (by omega) (by omega),show(p.length:Int)-1=((p.length-1:Nat):Int) by omega,idx_getD (by omega),ai]
  show(bif decide ((0:Int)<((stp p (p.length-1)).Clause.length:Int)) then _ else _)=_
  by_cases g:0<(stp p (p.length-1)).Clause.length
  ·rw[decide_eq_true (by omega),cond_true]; simp only[if_pos g]
  ·rw[decide_eq_false (by omega),cond_false]; simp only[if_neg g]
theorem check_impl{s:List (List Int)}{p:List Pt}(h:OkC s):impl_CheckRefutation s p=some (bif validC s&&inR p.length 1 200 then(chk s p,true) else(0,false)):=by
 unfold impl_CheckRefutation chk
 rw[valid_impl s h,within_eq,ai,ai]
 cases hv:validC s
 ·rfl
 cases hp:inR (p.length:Int) 1 200
 ·rfl
 rw[inR_iff] at hp
 have hc:=valid_cl h hv
 have hl:=valid_len hv
 rw[cond_true,cond_true]
 rw[forN_ffail (c:=okS s p) (g:=fun j=>(((j:Nat):Int),true)) (s:=()) p.length 0 (fun k hk=>by omega) (fun j hj hk=>by
  have hj':j<p.length:=by omega
  have sc:=steps_cl hc j hk
  have e:okS s p j=(inR (stp p j).Left 0 (s.length+j-1)&&(inR (stp p j).Right 0 (s.length+j-1)&&(inR (stp p j).Pivot 1 12&&((resP (resAt s p j)).2&&decide ((resP (resAt s p j)).1=(stp p j).Clause))))):=rfl
  rw[idx_getD hj',ai,show slc p (0:Int) (j:Int)=some (p.take j) from by unfold slc; rw[if_pos (by omega)]; rfl,ai,impl_cls hj' (by omega),ai,ai,impl_cls hj' (by omega),ai,show p.getD j default=stp p j from rfl]
  rw[e]
  cases g1:inR (stp p j).Left 0 ((s.length:Int)+(j:Int)-1)
  ·rfl
  cases g2:inR (stp p j).Right 0 ((s.length:Int)+(j:Int)-1)
  ·rfl
  rw[inR_iff] at g1 g2
  show aa (impl_ResolveOn (clsAt s p (stp p j).Left.toNat) (clsAt s p (stp p j).Right.toNat) (stp p j).Pivot) _=_
  rw[resolve_impl (cls_cl hc sc g1.1 (by omega)) (cls_cl hc sc g2.1 (by omega)),ai]
  cases g3:inR (stp p j).Pivot 1 12
  ·rfl
  show(bif (resP (resAt s p j)).2 then aa (slices_Equal_Sint_int (resP (resAt s p j)).1 (stp p j).Clause) _ else _)=_
  rw[equal_eq,ai]
  cases (resP (resAt s p j)).2<;>cases decide ((resP (resAt s p j)).1=(stp p j).Clause)<;>rfl)]
 cases ffail (okS s p) p.length 0 with
 | some j=>rfl
 | none=>
  rw[thenL_inr,wrap64 (by omega) (by omega),show(p.length:Int)-1=((p.length-1:Nat):Int) by omega,idx_getD (by omega),ai]
  show(bif decide ((0:Int)<((stp p (p.length-1)).Clause.length:Int)) then _ else _)=_
  by_cases g:0<(stp p (p.length-1)).Clause.length
  ·rw[decide_eq_true (by omega),cond_true]; simp only[if_pos g]; rfl
  ·rw[decide_eq_false (by omega),cond_false]; simp only[if_neg g]; rfl
theorem chk_neg{s:List (List Int)}{p:List Pt}:0≤chk s p∨(chk s p=-1∧∀ j,j<p.length→StepOk s p j):=by
 unfold chk
 cases e:ffail (okS s p) p.length 0 with
 | some j=>left; exact Int.natCast_nonneg j
 | none=>
  simp only
  split
  ·left; omega
  ·exact .inr ⟨rfl,fun j hj=>okS_iff (ffail_none e j (by omega) (by omega))⟩
end
section
theorem Tt.cnt_u(t:Tt):t.cnt=1+Tt.cnts t.Args:=by cases t; rw[Tt.cnt]; rfl
/-! ### copies -/
theorem mapL{α β ρ:Type}{f:α→Option β}{g:α→β}:∀ (l:List α) (i:Nat) (s:List β),(∀ a∈l,f a=some (g a))→s.length+l.length≤1073741824→
 forL (ρ:=ρ) (fun _ x (s:List β)=>(f x).bind fun v=>(app s [v]).bind fun w=>some (.nx w)) l i s=some (.inr (s++l.map g))
 | [],i,s,_,_=>by simp[forL]
 | a::l,i,s,h,hb=>by
  simp only[aW] at hb
  rw[forL_nx (s':=s++[g a]) (by rw[h a (by simp),ai]; unfold app; rw[if_pos (by simp only[aW,bw]; omega)]; rfl),
   mapL l (i+1) _ (fun b hb=>h b (by simp[hb])) (by simp only[aV,aW,bw]; omega)]
  simp
theorem cnts_len:∀ l:List Tt,l.length≤Tt.cnts l
 | []=>by simp
 | a::l=>by have:=cnts_len l; have:=a.cnt_pos; simp only[Tt.cnts,aW]; omega
theorem cnts_mem{a:Tt}:∀ {l:List Tt},a∈l→a.cnt≤Tt.cnts l
 | b::l,h=>by
  simp only[Tt.cnts]
  rcases List.mem_cons.1 h with rfl | h
  ·omega
  ·have:=cnts_mem h; omega
theorem ownTN(t:Tt):t.cnt≤10000000→∀ n,2*aM t≤n→spec_l2OwnN n t=some t:=by
 refine Tt.ind' (M:=fun t=>t.cnt≤10000000→∀ n,2*aM t≤n→spec_l2OwnN n t=some t) (fun t ih hc n hn=>?_) t
 have hp:=t.pos
 have hu:=t.cnt_u
 have hl:=cnts_len t.Args
 cases n with
 | zero=>omega
 | succ n=>
  rw[spec_l2OwnN]
  simp only[forN_idx]
  rw[mapL (f:=spec_l2OwnN n) (g:=fun x=>x) t.Args 0 [] (fun a ha=>ih a ha (by have:=cnts_mem ha; omega) n (by have:=Tt.lt ha; omega)) (by simp; omega),thenL_inr]
  simp[t.eta]
theorem ownT(t:Tt)(h:t.cnt≤10000000):spec_l2Own t=some t:=lim_eq ⟨_,ownTN t h⟩
theorem copyTN(t:Tt):t.cnt≤10000000→∀ n,3*aM t≤n→impl_copyTermN n t=some t:=by
 refine Tt.ind' (M:=fun t=>t.cnt≤10000000→∀ n,3*aM t≤n→impl_copyTermN n t=some t) (fun t ih hc n hn=>?_) t
 have hp:=t.pos
 have hu:=t.cnt_u
 have hl:=cnts_len t.Args
 obtain⟨m,rfl⟩:∃ m,n=m+2:=⟨n-2,by omega⟩
 show impl_copyTermN (m+2) _=_
 rw[impl_copyTermN]
 show aa (impl_copyTermsN (m+1) t.Args) _=_
 rw[impl_copyTermsN,isEmpty_dec]
 cases he:t.Args.isEmpty
 ·rw[cond_false,toL (f:=impl_copyTermN m) (g:=fun x=>x) (z:=(Tt.mk (⟨#[]⟩:ByteArray) ([]))) (xs:=t.Args) (fun a ha=>ih a ha (by have:=cnts_mem ha; omega) m (by have:=Tt.lt ha; omega)) (by omega)]
  simp[t.eta]
 ·have h0:t.Args=[]:=by simpa using he
  rw[cond_true,ai]
  conv=>rhs; rw[← t.eta,h0]
theorem copyT(t:Tt)(h:t.cnt≤10000000):impl_copyTerm t=some t:=lim_eq ⟨_,copyTN t h⟩
theorem cnt_of_tot{t:Tt}(h:t.tot≤1048576):t.cnt≤10000000:=by have:=Tt.cnt_tot t; omega
theorem Ft.tot_atom(a:Ft):a.Atom.tot≤a.tot:=by rw[Ft.tot_u]; omega
theorem Ft.tot_part{a p:Ft}(h:p∈a.Parts):p.tot+1≤a.tot:=by
 have:=tot_mem Ft.tot h
 rw[Ft.tot_u a]; omega
theorem Ft.tot_len(a:Ft):a.Parts.length≤a.tot:=by
 have:=ltot_len Ft.tot a.Parts
 rw[Ft.tot_u a]; omega
theorem mapParts_eq(a:Ft)(f:Ft→Option Ft)(g:Ft→Ft)(h:∀ p∈a.Parts,f p=some (g p))(ht:a.tot≤1048576):
 impl_mapParts a f=some (Ft.mk a.Op a.Atom a.Var (a.Parts.map g)):=by
 unfold impl_mapParts
 rw[copyT _ (cnt_of_tot (by have:=a.tot_atom; omega)),ai]
 simp only[forN_idx]
 rw[mapL (f:=f) (g:=g) a.Parts 0 [] h (by have:=a.tot_len; simp; omega),thenL_inr]
 simp
theorem copyFN(a:Ft):a.tot≤1048576→∀ n,2*aM a≤n→impl_copyFormulaN n a=some a:=by
 refine Ft.ind' (M:=fun a=>a.tot≤1048576→∀ n,2*aM a≤n→impl_copyFormulaN n a=some a) (fun a ih ht n hn=>?_) a
 have hp:=a.pos
 cases n with
 | zero=>omega
 | succ n=>
  rw[impl_copyFormulaN,mapParts_eq a _ (fun x=>x) (fun p hp=>ih p hp (by have:=Ft.tot_part hp; omega) n (by have:=Ft.lt hp; omega)) ht]
  simp[a.eta]
theorem copyF(a:Ft)(h:a.tot≤1048576):impl_copyFormula a=some a:=lim_eq ⟨_,copyFN a h⟩
theorem ownFN(a:Ft):a.tot≤1048576→∀ n,2*aM a≤n→spec_l8OwnN n a=some a:=by
 refine Ft.ind' (M:=fun a=>a.tot≤1048576→∀ n,2*aM a≤n→spec_l8OwnN n a=some a) (fun a ih ht n hn=>?_) a
 have hp:=a.pos
 cases n with
 | zero=>omega
 | succ n=>
  rw[spec_l8OwnN,ownT _ (cnt_of_tot (by have:=a.tot_atom; omega)),ai]
  simp only[forN_idx]
  rw[mapL (f:=spec_l8OwnN n) (g:=fun x=>x) a.Parts 0 [] (fun p hp=>ih p hp (by have:=Ft.tot_part hp; omega) n (by have:=Ft.lt hp; omega)) (by have:=a.tot_len; simp; omega),thenL_inr]
  simp[a.eta]
theorem ownF(a:Ft)(h:a.tot≤1048576):spec_l8Own a=some a:=lim_eq ⟨_,ownFN a h⟩
theorem l2Same_eq(a:Tt):∀ b n,2*aM a≤n→spec_l2SameN n a b=some (same a b)∧impl_EqualTermsN n a b=some (same a b):=by
 refine Tt.ind' (M:=fun a=>∀ b n,2*aM a≤n→spec_l2SameN n a b=some (same a b)∧impl_EqualTermsN n a b=some (same a b)) (fun a ih b n hn=>?_) a
 have hp:=a.pos
 cases n with
 | zero=>omega
 | succ n=>
  rw[spec_l2SameN,impl_EqualTermsN,Tt.same_u]
  unfold slices_EqualFunc_Simpl_Term_Simpl_Term_impl_Term_impl_Term
  rw[len_dec']
  cases decide (a.Name=b.Name)
  ·exact⟨rfl,rfl⟩
  ·by_cases h:a.Args.length=b.Args.length
   ·have k:=fun x (hx:x∈a.Args) y=>ih x hx y n (by have:=Tt.lt hx; omega)
    rw[decide_eq_true h,cond_true,cond_true,same_loop (spec_l2SameN n) a.Args b.Args h (fun x hx y=>(k x hx y).1)]
    refine⟨rfl,?_⟩
    rw[cond_true,cond_true,same_loop (impl_EqualTermsN n) a.Args b.Args h (fun x hx y=>(k x hx y).2)]; rfl
   ·rw[decide_eq_false h,same_len h]; exact⟨rfl,rfl⟩
theorem l2Same_ok(a b:Tt):spec_l2Same a b=some (same a b):=lim_eq ⟨_,fun n hn=>(l2Same_eq a b n hn).1⟩
theorem Ft.same_u(a b:Ft):same a b=(decide (a.Op=b.Op)&&(same a.Atom b.Atom&&(decide (a.Var=b.Var)&&same a.Parts b.Parts))):=by
 rw[Bool.eq_iff_iff,same_iff,aD,aD,aD,same_iff,same_iff,decide_eq_true_iff,decide_eq_true_iff]
 constructor
 ·rintro rfl; exact⟨rfl,rfl,rfl,rfl⟩
 ·rintro ⟨h1,h2,h3,h4⟩; rw[← a.eta,← b.eta,h1,h2,h3,h4]
theorem l8Same_eq(a:Ft):∀ b n,2*aM a≤n→spec_l8SameN n a b=some (same a b)∧impl_sameFormulaN n a b=some (same a b):=by
 refine Ft.ind' (M:=fun a=>∀ b n,2*aM a≤n→spec_l8SameN n a b=some (same a b)∧impl_sameFormulaN n a b=some (same a b)) (fun a ih b n hn=>?_) a
 have hp:=a.pos
 cases n with
 | zero=>omega
 | succ n=>
  rw[spec_l8SameN,impl_sameFormulaN,Ft.same_u,l2Same_ok,EqualTerms_ok]
  unfold slices_EqualFunc_Simpl_Formula_Simpl_Formula_impl_Formula_impl_Formula
  simp only[len_dec',ai]
  generalize decide (a.Op=b.Op)=x
  generalize decide (a.Var=b.Var)=y
  generalize same a.Atom b.Atom=z
  by_cases h:a.Parts.length=b.Parts.length
  ·have k:=fun x (hx:x∈a.Parts) y=>ih x hx y n (by have:=Ft.lt hx; omega)
   rw[decide_eq_true h,same_loop (spec_l8SameN n) a.Parts b.Parts h (fun x hx y=>(k x hx y).1),same_loop (impl_sameFormulaN n) a.Parts b.Parts h (fun x hx y=>(k x hx y).2)]
   generalize same a.Parts b.Parts=w
   revert x y z w; decide
  ·rw[decide_eq_false h,same_len h]
   simp only[cond_false,ai]
   revert x y z; decide
theorem l8Same_ok(a b:Ft):spec_l8Same a b=some (same a b):=lim_eq ⟨_,fun n hn=>(l8Same_eq a b n hn).1⟩
theorem sameF_ok(a b:Ft):impl_sameFormula a b=some (same a b):=lim_eq ⟨_,fun n hn=>(l8Same_eq a b n hn).2⟩
end
section
/-! ### formulas built of literals -/
def zT:Tt:=⟨⟨#[]⟩,[]⟩
def conF(o:Int):Ft:=⟨o,zT,⟨#[]⟩,[]⟩
def binF(o:Int)(a b:Ft):Ft:=⟨o,zT,⟨#[]⟩,[a,b]⟩
def litF(x:Int):Ft:=if x<0 then⟨4,zT,⟨#[]⟩,[⟨3,⟨vnm ((absI x).toNat-1),[]⟩,⟨#[]⟩,[]⟩]⟩ else⟨3,⟨vnm ((absI x).toNat-1),[]⟩,⟨#[]⟩,[]⟩
/-- Few nodes, short texts. -/
structure LB(n:Nat)(f:Ft):Prop where
 ok:f.Ok
 tot:f.tot≤10*f.cnt
 cnt:f.cnt≤n
theorem LB.mono{n m:Nat}{f:Ft}(h:LB n f)(e:n≤m):LB m f:=⟨h.ok,h.tot,by have:=h.cnt; omega⟩
theorem LB.t{n:Nat}{f:Ft}(h:LB n f)(e:n≤1000):f.tot≤1048576:=by have:=h.tot; have:=h.cnt; omega
theorem zT_Ok:zT.Ok:=Tt.Ok.mk _ _ (Nat.zero_le _) (Nat.zero_le _) (fun a ha=>nomatch ha)
theorem zT_tot:zT.tot=0:=by rw[Tt.tot_u]; rfl
theorem conF_LB{o:Int}(h:InR o):LB 1 (conF o):=⟨Ft.Ok.mk _ _ _ _ h zT_Ok (Nat.zero_le _) (Nat.zero_le _) (fun a ha=>nomatch ha),by
 unfold conF; rw[Ft.tot_mk,zT_tot]; simp[ltot]; exact Nat.zero_le _,by unfold conF; rw[Ft.cnt_u]; simp[Ft.Parts]⟩
theorem vnm_size{k:Nat}(h:k<12):(vnm k).size≤3:=by
 rcases twelve h with rfl | rfl | rfl | rfl | rfl | rfl | rfl | rfl | rfl | rfl | rfl | rfl<;>decide
theorem atF_LB{k:Nat}(h:k<12):LB 1 (⟨3,⟨vnm k,[]⟩,⟨#[]⟩,[]⟩:Ft):=by
 have hs:=vnm_size h
 refine⟨Ft.Ok.mk _ _ _ _ (by simp[InR]) (Tt.Ok.mk _ _ (by show(vnm k).size≤_; omega) (Nat.zero_le _) (fun a ha=>nomatch ha)) (Nat.zero_le _) (Nat.zero_le _) (fun a ha=>nomatch ha),?_,?_⟩
 ·rw[Ft.tot_mk,Tt.tot_mk,Ft.cnt_u]
  simp[ltot,Ft.Parts]; show(vnm k).size+0≤_; omega
 ·rw[Ft.cnt_u]; simp[Ft.Parts]
theorem Lit.idx{x:Int}(h:Lit x):(absI x).toNat-1<12∧absI x=(((absI x).toNat-1+1:Nat):Int):=by
 have:=h.2; omega
theorem notF_LB{n:Nat}{f:Ft}(h:LB n f):LB (n+1) ⟨4,zT,⟨#[]⟩,[f]⟩:=by
 have h1:=h.tot
 have h2:=h.cnt
 refine⟨Ft.Ok.mk _ _ _ _ (by simp[InR]) zT_Ok (Nat.zero_le _) (by simp[Big]) (fun a ha=>by rw[List.mem_singleton.1 ha]; exact h.ok),?_,?_⟩
 ·rw[Ft.tot_mk,zT_tot,Ft.cnt_u]
  simp[ltot,Ft.Parts]; show 0+(_)≤_; omega
 ·rw[Ft.cnt_u]; simp[Ft.Parts]; omega
theorem litF_LB{x:Int}(h:Lit x):LB 2 (litF x):=by
 unfold litF
 split
 ·exact notF_LB (atF_LB h.idx.1)
 ·exact(atF_LB h.idx.1).mono (by omega)
theorem binF_LB{o:Int}(ho:InR o){n m:Nat}{a b:Ft}(ha:LB n a)(hb:LB m b):LB (n+m+1) (binF o a b):=by
 have h1:=ha.tot
 have h2:=ha.cnt
 have h3:=hb.tot
 have h4:=hb.cnt
 refine⟨Ft.Ok.mk _ _ _ _ ho zT_Ok (Nat.zero_le _) (by simp[Big]) (fun x hx=>?_),?_,?_⟩
 ·rcases List.mem_cons.1 hx with rfl | hx
  ·exact ha.ok
  ·rw[List.mem_singleton.1 hx]; exact hb.ok
 ·unfold binF
  rw[Ft.tot_mk,zT_tot,Ft.cnt_u]
  simp[ltot,Ft.Parts]; show 0+(_)≤_; omega
 ·unfold binF
  rw[Ft.cnt_u]; simp[Ft.Parts]; omega
theorem lit_spec{x:Int}(h:Lit x):spec_l20Literal x=some (litF x):=by
 obtain⟨h1,h2⟩:=h.idx
 unfold spec_l20Literal litF
 rw[abs_eq,ai,h2,num_eq h1,ai,vn_app h1,ai,← h2]
 by_cases g:x<0
 ·rw[decide_eq_true g,if_pos g]; rfl
 ·rw[decide_eq_false g,if_neg g]; rfl
theorem lit_impl{x:Int}(h:Lit x):impl_variableFormula x=some (litF x):=by
 obtain⟨h1,h2⟩:=h.idx
 unfold impl_variableFormula litF
 rw[impl_abs h.1,ai,h2,Itoa_eq h1,ai,vn_app h1,ai,← h2]
 by_cases g:x<0
 ·rw[decide_eq_true g,if_pos g]; rfl
 ·rw[decide_eq_false g,if_neg g]; rfl
/-! ### many joined -/
def joinF(o:Int)(l:List Ft)(e:Ft):Ft:=match l.reverse with
 | []=>e
 | x::r=>r.foldl (fun a f=>binF o f a) x
theorem foldF_LB{o:Int}(ho:InR o){n:Nat}:∀ (r:List Ft) (x:Ft) (m:Nat),LB m x→(∀ f∈r,LB n f)→LB (m+(n+1)*r.length) (r.foldl (fun a f=>binF o f a) x)
 | [],x,m,h,_=>h.mono (by simp)
 | f::r,x,m,h,hr=>by
  have:=foldF_LB ho r (binF o f x) (n+m+1) (binF_LB ho (hr f (by simp)) h) (fun g hg=>hr g (by simp[hg]))
  refine this.mono ?_
  rw[aW,Nat.mul_add,Nat.mul_one]; omega
theorem joinF_LB{o:Int}(ho:InR o){n:Nat}{l:List Ft}{e:Ft}(he:LB n e)(hl:∀ f∈l,LB n f):LB (n+(n+1)*l.length) (joinF o l e):=by
 unfold joinF
 cases h:l.reverse with
 | nil=>exact he.mono (by omega)
 | cons x r=>
  have hm:∀ f∈x::r,LB n f:=fun f hf=>hl f (by rw[← List.mem_reverse,h]; exact hf)
  refine(foldF_LB ho r x n (hm x (by simp)) (fun f hf=>hm f (by simp[hf]))).mono ?_
  have:l.length=r.length+1:=by rw[← List.length_reverse,h,aW]
  rw[this,Nat.mul_add (n+1) r.length 1]; omega
/-- The state of the loop. -/
def jst(o:Int)(x:Ft)(r:List Ft)(j:Nat):Int×ByteArray×(List Tt)×ByteArray×(List Ft)×Int:=
 let g:=(r.take j).foldl (fun a f=>binF o f a) x
 (g.Op,g.Atom.Name,g.Atom.Args,g.Var,g.Parts,(r.length:Int)-1-j)
theorem fm_eta(g:Ft):Ft.mk g.Op (Tt.mk g.Atom.Name g.Atom.Args) g.Var g.Parts=g:=by rw[g.Atom.eta,g.eta]
theorem joined_eq{o e:Int}{l:List Ft}(hl:∀ f∈l,f.tot≤1048576)(hb:l.length≤1000):spec_l18Joined l o e=some (joinF o l (conF e)):=by
 unfold spec_l18Joined joinF
 cases h:l.reverse with
 | nil=>
  have:l=[]:=by rw[← List.reverse_reverse l,h]; rfl
  subst this; rfl
 | cons x r=>
  have hlen:l.length=r.length+1:=by rw[← List.length_reverse,h,aW]
  have hrev:l=(x::r).reverse:=by rw[← h,List.reverse_reverse]
  have hm:∀ f∈x::r,f.tot≤1048576:=fun f hf=>hl f (by rw[← List.mem_reverse,h]; exact hf)
  have get:∀ j:Nat,j≤r.length→idx l ((r.length:Int)-j)=(x::r)[j]?:=fun j hj=>by
   rw[show(r.length:Int)-j=((r.length-j:Nat):Int) by omega,idx_nat,hrev,List.getElem?_reverse (by simp; omega)]
   congr 1
   simp; omega
  rw[decide_eq_false (by omega),cond_false,wrap64 (by omega) (by omega),wrap64 (by omega) (by omega),show(l.length:Int)-1=(r.length:Int)-(0:Nat) by omega,get 0 (by omega)]
  show aa (spec_l8Own x) _=_
  rw[ownF x (hm x (by simp)),ai]
  have e0:(x.Op,x.Atom.Name,x.Atom.Args,x.Var,x.Parts,(l.length:Int)-2)=jst o x r 0:=by
   unfold jst
   show _=(x.Op,x.Atom.Name,x.Atom.Args,x.Var,x.Parts,(r.length:Int)-1-(0:Nat))
   rw[show(l.length:Int)-2=(r.length:Int)-1-(0:Nat) by omega]
  rw[e0,lim_iter (jst o x r) r.length (s':=jst o x r r.length) (h1:=?_) (h2:=?_),thenL_inr]
  ·show some (Ft.mk _ (Tt.mk _ _) _ _)=_
   unfold jst
   rw[fm_eta,List.take_length]
  ·intro j hj
   show(bif decide ((0:Int)≤(r.length:Int)-1-j) then _ else _)=_
   rw[decide_eq_true (by omega),cond_true]
   show aa (idx l ((r.length:Int)-1-j)) _=_
   rw[show(r.length:Int)-1-j=(r.length:Int)-((j+1:Nat):Int) by omega,get (j+1) (by omega),List.getElem?_cons_succ,List.getElem?_eq_getElem hj,ai,ownF _ (hm _ (by simp)),ai]
   show some (Flow.nx (o,_,_,_,[r[j],Ft.mk (jst o x r j).1 (Tt.mk (jst o x r j).2.1 (jst o x r j).2.2.1) (jst o x r j).2.2.2.1 (jst o x r j).2.2.2.2.1],IntKind.i64.wrap (((r.length:Int)-1-j)-1)))=some (Flow.nx (jst o x r (j+1)))
   rw[wrap64 (by omega) (by omega)]
   unfold jst
   simp only[fm_eta]
   rw[List.take_succ_eq_append_getElem hj,List.foldl_append]
   show _=some (Flow.nx (o,_,_,_,[r[j],_],_))
   rw[show(r.length:Int)-1-j-1=(r.length:Int)-1-((j+1:Nat):Int) by omega]
   rfl
  ·show(bif decide ((0:Int)≤(r.length:Int)-1-r.length) then _ else _)=_
   rw[decide_eq_false (by omega)]; rfl
/-! ### a clause -/
def clF(c:List Int):Ft:=joinF 6 (c.map litF) (conF 2)
theorem mapF{ρ:Type}{f:Int→Option Ft}(l:List Int)(h:∀ x∈l,f x=some (litF x))(hb:l.length≤1000):forN (ρ:=ρ) (fun i (s:List Ft)=>aa (idx l (i:Int)) fun v=>aa (f v) fun w=>aa (app s [w]) fun u=>some (.nx u)) l.length 0 []=some (.inr (l.map litF)):=by
 rw[forN_idx l (fun _ v s=>aa (f v) fun w=>aa (app s [w]) fun u=>some (.nx u)),mapL (g:=litF) l 0 [] h (by simp; omega),bn]
theorem clause_spec{c:List Int}(h:∀ x∈c,Lit x)(hb:c.length≤12):spec_l20Clause c=some (clF c):=by
 unfold spec_l20Clause
 rw[mapF c (fun x hx=>lit_spec (h x hx)) (by omega),thenL_inr,joined_eq (fun f hf=>by
  obtain⟨x,hx,rfl⟩:=List.mem_map.1 hf
  exact(litF_LB (h x hx)).t (by omega)) (by rw[List.length_map]; omega)]; rfl
theorem clause_impl{c:List Int}(h:∀ x∈c,Lit x)(hb:c.length≤12):impl_clauseFormula c=some (clF c):=by
 unfold impl_clauseFormula
 rw[mapF c (fun x hx=>lit_impl (h x hx)) (by omega),thenL_inr]; rfl
theorem clF_LB{c:List Int}(h:∀ x∈c,Lit x)(hb:c.length≤12):LB 40 (clF c):=by
 have:=joinF_LB (o:=6) (by simp[InR]) (n:=2) (l:=c.map litF) (e:=conF 2) ((conF_LB (by simp[InR])).mono (by omega)) (fun f hf=>by
  obtain⟨x,hx,rfl⟩:=List.mem_map.1 hf
  exact litF_LB (h x hx))
 exact this.mono (by rw[List.length_map]; omega)
/-! ### two joined -/
noncomputable def twoF(o z u:Int)(a b:Ft):Ft:=if a.Op=z then conF z else if b.Op=z then conF z else if a.Op=u then b else if b.Op=u then a else if same a b=true then a else binF o a b
theorem two_impl(o z u:Int)(a b:Ft):impl_simplified o z u a b=some (twoF o z u a b):=by
 unfold impl_simplified twoF
 rw[sameF_ok,ai]
 by_cases h1:a.Op=z
 ·rw[decide_eq_true h1,if_pos h1]; rfl
 rw[decide_eq_false h1,if_neg h1,cond_false]
 by_cases h2:b.Op=z
 ·rw[decide_eq_true h2,if_pos h2]; rfl
 rw[decide_eq_false h2,if_neg h2,cond_false]
 by_cases h3:a.Op=u
 ·rw[decide_eq_true h3,if_pos h3]; rfl
 rw[decide_eq_false h3,if_neg h3,cond_false]
 by_cases h4:b.Op=u
 ·rw[decide_eq_true h4,if_pos h4]; rfl
 rw[decide_eq_false h4,if_neg h4,cond_false]
 cases same a b<;>rfl
theorem twoF_LB{o z u:Int}(ho:InR o)(hz:InR z){n m:Nat}{a b:Ft}(ha:LB n a)(hb:LB m b):LB (n+m+1) (twoF o z u a b):=by
 unfold twoF
 split
 ·exact(conF_LB hz).mono (by omega)
 split
 ·exact(conF_LB hz).mono (by omega)
 split
 ·exact hb.mono (by omega)
 split
 ·exact ha.mono (by omega)
 split
 ·exact ha.mono (by omega)
 ·exact binF_LB ho ha hb
noncomputable def orF(a b:Ft):Ft:=twoF 6 1 2 a b
noncomputable def andF(a b:Ft):Ft:=twoF 5 2 1 a b
theorem or_impl(a b:Ft):impl_disjoined a b=some (orF a b):=by unfold impl_disjoined; rw[two_impl]; rfl
theorem and_impl(a b:Ft):impl_conjunction a b=some (andF a b):=by unfold impl_conjunction; rw[two_impl]; rfl
theorem or_spec{a b:Ft}(ha:a.tot≤1048576)(hb:b.tot≤1048576):spec_l20Two 6 a b=some (orF a b):=by
 unfold spec_l20Two orF twoF
 rw[ownF a ha,ownF b hb,l8Same_ok,decide_eq_true rfl,cond_true]
 simp only[ai]
 by_cases h1:a.Op=1
 ·rw[decide_eq_true h1,if_pos h1]; rfl
 rw[decide_eq_false h1,if_neg h1,cond_false]
 by_cases h2:b.Op=1
 ·rw[decide_eq_true h2,if_pos h2]; rfl
 rw[decide_eq_false h2,if_neg h2,cond_false]
 by_cases h3:a.Op=2
 ·rw[decide_eq_true h3,if_pos h3]; rfl
 rw[decide_eq_false h3,if_neg h3,cond_false]
 by_cases h4:b.Op=2
 ·rw[decide_eq_true h4,if_pos h4]; rfl
 rw[decide_eq_false h4,if_neg h4,cond_false]
 cases same a b<;>rfl
theorem and_spec{a b:Ft}(ha:a.tot≤1048576)(hb:b.tot≤1048576):spec_l20Two 5 a b=some (andF a b):=by
 unfold spec_l20Two andF twoF
 rw[ownF a ha,ownF b hb,l8Same_ok,decide_eq_false (by decide),cond_false]
 simp only[ai]
 by_cases h1:a.Op=2
 ·rw[decide_eq_true h1,if_pos h1]; rfl
 rw[decide_eq_false h1,if_neg h1,cond_false]
 by_cases h2:b.Op=2
 ·rw[decide_eq_true h2,if_pos h2]; rfl
 rw[decide_eq_false h2,if_neg h2,cond_false]
 by_cases h3:a.Op=1
 ·rw[decide_eq_true h3,if_pos h3]; rfl
 rw[decide_eq_false h3,if_neg h3,cond_false]
 by_cases h4:b.Op=1
 ·rw[decide_eq_true h4,if_pos h4]; rfl
 rw[decide_eq_false h4,if_neg h4,cond_false]
 cases same a b<;>rfl
end
section
/-! ### what is left of a clause -/
theorem index_eq{f:Int→Option Bool}{p:Int→Bool}(l:List Int)(h:∀ x∈l,f x=some (p x)):slices_IndexFunc_Sint_int l f=some (match ffail (fun j=>!p (l.getD j default)) l.length 0 with | none=>-1 | some j=>(j:Int)):=by
 unfold slices_IndexFunc_Sint_int
 rw[forN_ffail (c:=fun j=>!p (l.getD j default)) (g:=fun j=>((j:Nat):Int)) (s:=()) l.length 0 (fun k hk=>by omega) (fun j hj _=>by
  rw[idx_getD (by omega),ai,h _ (getD_mem (by omega)),ai]
  cases p (l.getD j default)<;>rfl)]
 cases ffail (fun j=>!p (l.getD j default)) l.length 0<;>rfl
theorem ffail_some{c:Nat→Bool}:∀ {n i j:Nat},ffail c n i=some j→c j=false∧∀ k,i≤k→k<j→c k=true
 | 0,i,j,h=>by cases h
 | n+1,i,j,h=>by
  rw[ffail] at h
  split at h
  ·rename_i g
   obtain⟨h1,h2⟩:=ffail_some h
   refine⟨h1,fun k hk hj=>?_⟩
   by_cases e:k=i
   ·subst e; exact g
   ·exact h2 k (by omega) hj
  ·rename_i g
   cases h
   exact⟨by simpa using g,fun k hk hj=>by omega⟩
theorem del_loop{f:Int→Option Bool}{p:Int→Bool}:∀ (suf A R:List Int),(∀ x∈suf,f x=some (p x))→0<R.length→A.length+R.length+suf.length≤1000→
 ∃ R',R'.length+(suf.filter fun x=>!p x).length=R.length+suf.length∧0<R'.length∧Ev (fun n5=>whileN (ρ:=List Int) (fun (s5:Int×(List Int)×Int)=>
  bif decide (s5.1<(s5.2.1.length:Int)) then
   aa (idx s5.2.1 s5.1) fun v24=>
   aa (idx s5.2.1 s5.1) fun v25=>
   aa (f v25) fun v28=>
   bif v28 then
    some (.nx (IntKind.i64.wrap (s5.1+(1:Int)),s5.2.1,s5.2.2))
   else
    aa (idx s5.2.1 s5.2.2) fun v33=>
    aa (idx s5.2.1 s5.2.2) fun w4=>
    some (.nx (IntKind.i64.wrap (s5.1+(1:Int)),s5.2.1.set s5.2.2.toNat v25,IntKind.i64.wrap (s5.2.2+(1:Int))))
  else
   some (.br s5)) n5 (((A.length+R.length:Nat):Int),A++(R++suf),(A.length:Int))) (.inr (((A.length+R.length+suf.length:Nat):Int),(A++suf.filter fun x=>!p x)++R',((A++suf.filter fun x=>!p x).length:Int)))
 | [],A,R,_,hR,hb=>by
  refine⟨R,by simp,hR,?_⟩
  simp only[List.filter_nil,bu,bw,Nat.add_zero]
  refine ev_br ?_
  show(bif decide (((A.length+R.length:Nat):Int)<((A++R).length:Int)) then _ else _)=_
  rw[aV,decide_eq_false (by omega)]; rfl
 | v::suf,A,R,h,hR,hb=>by
  simp only[aW] at hb
  have hv:=h v (by simp)
  have hs:∀ x∈suf,f x=some (p x):=fun x hx=>h x (by simp[hx])
  have hl:(A++(R++v::suf)).length=A.length+R.length+suf.length+1:=by simp; omega
  have hi:idx (A++(R++v::suf)) ((A.length+R.length:Nat):Int)=some v:=by
   rw[idx_nat,List.getElem?_append_right (by omega),List.getElem?_append_right (by omega),show A.length+R.length-A.length-R.length=0 by omega]; rfl
  cases e:p v
  ·obtain⟨r0,R0,rfl⟩:∃ r0 R0,R=r0::R0:=by cases R with | nil=>simp at hR | cons a l=>exact⟨a,l,rfl⟩
   obtain⟨R',q1,q2,q3⟩:=del_loop suf (A++[v]) (R0++[v]) hs (by simp) (by simp at hb ⊢; omega)
   refine⟨R',?_,q2,?_⟩
   ·rw[List.filter_cons,e]
    simp at q1 ⊢; omega
   ·rw[show((v::suf).filter fun x=>!p x)=v::(suf.filter fun x=>!p x) by rw[List.filter_cons,e]; rfl]
    have e1:((A++[v]).length+(R0++[v]).length:Nat)=A.length+(r0::R0).length+1:=by simp; omega
    have e2:A++[v]++(R0++[v]++suf)=A++(v::R0++v::suf):=by simp
    have e3:A++[v]++(suf.filter fun x=>!p x)=A++v::(suf.filter fun x=>!p x):=by simp
    rw[e1,e2,e3,show A.length+(r0::R0).length+1+suf.length=A.length+(r0::R0).length+(v::suf).length by simp; omega] at q3
    refine ev_nx ?_ q3
    show(bif decide (((A.length+(r0::R0).length:Nat):Int)<((A++(r0::R0++v::suf)).length:Int)) then _ else _)=_
    rw[hl,decide_eq_true (by omega),cond_true,hi,ai,ai,hv,ai,e,cond_false]
    show aa (idx (A++(r0::R0++v::suf)) (A.length:Int)) _=_
    have hj:idx (A++(r0::R0++v::suf)) (A.length:Int)=some r0:=by
     rw[idx_nat,List.getElem?_append_right (by omega),Nat.sub_self]; rfl
    rw[hj,ai,ai,Int.toNat_natCast,wrap_succ (by omega),wrap_succ (by omega)]
    simp
  ·obtain⟨R',q1,q2,q3⟩:=del_loop suf A (R++[v]) hs (by simp) (by simp at hb ⊢; omega)
   refine⟨R',?_,q2,?_⟩
   ·rw[List.filter_cons,e]
    simp at q1 ⊢; omega
   ·rw[show((v::suf).filter fun x=>!p x)=(suf.filter fun x=>!p x) by rw[List.filter_cons,e]; rfl]
    have e1:(A.length+(R++[v]).length:Nat)=A.length+R.length+1:=by simp; omega
    have e2:A++(R++[v]++suf)=A++(R++v::suf):=by simp
    rw[e1,e2,show A.length+R.length+1+suf.length=A.length+R.length+(v::suf).length by simp; omega] at q3
    refine ev_nx ?_ q3
    show(bif decide (((A.length+R.length:Nat):Int)<((A++(R++v::suf)).length:Int)) then _ else _)=_
    rw[hl,decide_eq_true (by omega),cond_true,hi,ai,ai,hv,ai,e,cond_true]
    show some (Flow.nx (IntKind.i64.wrap (((A.length+R.length:Nat):Int)+1),_,_))=_
    rw[wrap_succ (by omega)]
theorem delete_eq{f:Int→Option Bool}{p:Int→Bool}(l:List Int)(h:∀ x∈l,f x=some (p x))(hb:l.length≤1000):slices_DeleteFunc_Sint_int l f=some (l.filter fun x=>!p x):=by
 unfold slices_DeleteFunc_Sint_int
 rw[index_eq l h,ai]
 cases e:ffail (fun j=>!p (l.getD j default)) l.length 0 with
 | none=>
  show(bif decide ((-1:Int)=-1) then _ else _)=_
  rw[decide_eq_true rfl,cond_true]
  congr 1
  symm
  rw[List.filter_eq_self]
  intro x hx
  obtain⟨i,hi,rfl⟩:=List.getElem_of_mem hx
  have:=ffail_none e i (by omega) (by omega)
  simpa[List.getD,hi] using this
 | some j=>
  obtain⟨g1,g2⟩:=ffail_some e
  have hj:=(ffail_lt e).2
  rw[Nat.zero_add] at hj
  show(bif decide ((j:Int)=-1) then _ else _)=_
  rw[decide_eq_false (by omega),cond_false,wrap_succ (by omega)]
  have hd:l=l.take j++([l.getD j default]++l.drop (j+1)):=by
   rw[List.getD_eq_getElem?_getD,List.getElem?_eq_getElem hj,Option.getD_some,List.singleton_append,← List.drop_eq_getElem_cons hj,List.take_append_drop]
  have hA:(l.take j).filter (fun x=>!p x)=l.take j:=by
   rw[List.filter_eq_self]
   intro x hx
   obtain⟨i,hi,rfl⟩:=List.getElem_of_mem hx
   rw[List.length_take] at hi
   have:=g2 i (by omega) (by omega)
   rw[List.getElem_take]
   simpa[List.getD,show i<l.length by omega] using this
  have hlt:(l.take j).length=j:=by rw[List.length_take]; omega
  have hld:(l.drop (j+1)).length=l.length-(j+1):=by rw[List.length_drop]
  obtain⟨R',q1,q2,q3⟩:=del_loop (f:=f) (p:=p) (l.drop (j+1)) (l.take j) [l.getD j default] (fun x hx=>h x (List.mem_of_mem_drop hx)) (by simp) (by rw[hlt,hld]; simp; omega)
  rw[hlt,← hd] at q3
  have hf:l.filter (fun x=>!p x)=l.take j++(l.drop (j+1)).filter fun x=>!p x:=by
   conv=>lhs; rw[hd]
   rw[List.filter_append,List.filter_append,hA]
   congr 1
   rw[List.filter_cons,if_neg (by simpa using g1)]; rfl
  rw[show j+[l.getD j default].length=j+1 from rfl] at q3
  rw[lim_eq q3,thenL_inr,← hf]
  generalize hF:l.filter (fun x=>!p x)=F
  show aa (rngN (F++R').length (F.length:Int) ((F++R').length:Int)) _=_
  have hlen:(F++R').length=F.length+R'.length:=aV
  unfold rngN
  rw[if_pos (by rw[hlen]; omega),ai]
  show aa (clr (0:Int) (F++R') (F.length:Int)) _=_
  unfold clr
  rw[if_pos (by rw[hlen]; omega),ai,Int.toNat_natCast,List.take_left]
  show aa (slc (F++_) (0:Int) (F.length:Int)) _=_
  unfold slc
  rw[if_pos (by rw[aV]; omega),ai,Int.toNat_natCast,List.take_left]; rfl
/-! ### colours -/
theorem colors_eq{s:List (List Int)}{n k:Nat}(h:Good s)(hm:most s=(n:Int))(hn:n≤12)(hb:∀ c∈s,∀ x∈c,absI x≤n):impl_colors s (k:Int)=some (cellsOf (fun j=>(s.take k).any (fun c=>tch c j)) (fun j=>(s.drop k).any (fun c=>tch c j)) n):=by
 have hl:=colors_loop (k:=k) hn s (fun c hc l hl=>⟨((h.2 c hc).2 l hl).1,((h.2 c hc).2 l hl).2.1,hb c hc l hl⟩) s.length 0 (by omega)
 have e0:cellsOf (fun j=>(s.take (min 0 k)).any (fun c=>tch c j)) (fun j=>((s.take 0).drop k).any (fun c=>tch c j)) n=List.replicate n 0:=by
  apply List.ext_getElem?
  intro i
  by_cases hi:i<n
  ·rw[cellsOf_get hi,List.getElem?_replicate,if_pos hi]; simp[cell]
  ·rw[List.getElem?_eq_none (by unfold cellsOf; simp; omega),List.getElem?_eq_none (by simp; omega)]
 rw[e0] at hl
 unfold impl_colors
 rw[greatest_eq h,ai,hm,show mkn (n:Int)=some n from by unfold mkn; rw[if_pos (by omega)]; rfl,ai,hl]; rfl
theorem occ_tch{s:List (List Int)}(h:∀ c∈s,∀ x∈c,InR x∧1≤absI x∧absI x≤12)(j:Nat):s.any (fun c=>tch c j)=occ s ((j+1:Nat):Int):=by
 unfold occ
 rw[Bool.eq_iff_iff,List.any_eq_true,List.any_eq_true]
 constructor
 ·rintro ⟨c,h1,h2⟩; exact⟨c,h1,by rw[← tch_has (h c h1)]; exact h2⟩
 ·rintro ⟨c,h1,h2⟩; exact⟨c,h1,by rw[tch_has (h c h1)]; exact h2⟩
end
section
theorem forN_run{ρ σ:Type}{c:Nat→Bool}{g:Nat→ρ}{f:Nat→σ→Option (Flow ρ σ)}{st:Nat→σ}:∀ (n i:Nat),(∀ k,k<i→c k=true)→(∀ j,j<i+n→(∀ k,k<j→c k=true)→f j (st j)=some (bif c j then .nx (st (j+1)) else .rt (g j)))→
 forN f n i (st i)=some (match ffail c n i with | none=>.inr (st (i+n)) | some j=>.inl (g j))
 | 0,i,_,_=>rfl
 | n+1,i,h0,h=>by
  have h1:=h i (by omega) h0
  rw[ffail]
  by_cases e:c i=true
  ·rw[if_pos e,forN_nx (by rw[h1,e]; rfl),forN_run n (i+1) (fun k hk=>?_) (fun j hj=>h j (by omega)),show i+1+n=i+(n+1) by omega]
   by_cases q:k=i
   ·rw[q]; exact e
   ·exact h0 k (by omega)
  ·rw[if_neg e,forN_rt (r:=g i) (by rw[h1,Bool.eq_false_iff.2 e]; rfl)]
theorem cell_b(p q:Bool):decide (bitand .i64 (cell p q) 2=0)=!q:=by cases p<;>cases q<;>decide
theorem cell_a(p q:Bool):decide (bitand .i64 (cell p q) 1=0)=!p:=by cases p<;>cases q<;>decide
/-- What holds of the input. -/
structure In(s:List (List Int))(k y:Nat)(n:Nat):Prop where
 cl:∀ c∈s,Cl c
 len:s.length≤40
 good:Good s
 kl:k≤s.length
 yl:y=1∨y=2
 mo:most s=(n:Int)
 nl:n≤12
 b:∀ c∈s,∀ x∈c,absI x≤n
def cols(s:List (List Int))(k n:Nat):List Int:=cellsOf (fun j=>(s.take k).any (fun c=>tch c j)) (fun j=>(s.drop k).any (fun c=>tch c j)) n
def fr(s:List (List Int))(k y n:Nat):ia:=⟨s,(k:Int),(y:Int),cols s k n⟩
theorem In.rng{s:List (List Int)}{k y n:Nat}(h:In s k y n):∀ c∈s,∀ x∈c,InR x∧1≤absI x∧absI x≤12:=fun c hc=>(h.good.2 c hc).2
theorem In.col{s:List (List Int)}{k y n:Nat}(h:In s k y n){v:Int}(h1:1≤v)(h2:v≤n):idx (cols s k n) (IntKind.i64.wrap (v-1))=some (cell (occ (s.take k) v) (occ (s.drop k) v)):=by
 have:=h.nl
 obtain⟨j,rfl⟩:∃ j:Nat,v=((j+1:Nat):Int):=⟨(v-1).toNat,by omega⟩
 rw[wrap64 (by omega) (by omega),show((j+1:Nat):Int)-1=(j:Int) by omega,idx_nat]
 unfold cols
 rw[cellsOf_get (by omega),occ_tch (fun c hc=>h.rng c (List.mem_of_mem_take hc)),occ_tch (fun c hc=>h.rng c (List.mem_of_mem_drop hc))]
/-! ### the clauses -/
def keep(s:List (List Int))(k:Nat)(c:List Int):List Int:=c.filter fun x=>occ (s.drop k) (absI x)
def baseF(s:List (List Int))(k y:Nat)(i:Nat):Ft:=if k≤i then conF 1 else if y=1 then clF (keep s k (s.getD i default)) else conF 2
theorem keep_lit{s:List (List Int)}{k:Nat}{c:List Int}(h:Cl c):(∀ x∈keep s k c,Lit x)∧(keep s k c).length≤12:=by
 refine⟨fun x hx=>h.lit x ((List.mem_filter.1 hx).1),?_⟩
 have:=List.length_filter_le (fun x=>occ (s.drop k) (absI x)) c
 have:=h.len
 unfold keep; omega
theorem baseF_LB{s:List (List Int)}{k y n:Nat}(h:In s k y n){i:Nat}(hi:i<s.length):LB 40 (baseF s k y i):=by
 unfold baseF
 split
 ·exact(conF_LB (by simp[InR])).mono (by omega)
 split
 ·have:=keep_lit (s:=s) (k:=k) (h.cl _ (getD_mem hi))
  exact clF_LB this.1 this.2
 ·exact(conF_LB (by simp[InR])).mono (by omega)
theorem base_impl{s:List (List Int)}{k y n:Nat}(h:In s k y n){i:Nat}(hi:i<s.length):impl_interpolation__ofClause (fr s k y n) (i:Int)=some (baseF s k y i):=by
 unfold impl_interpolation__ofClause baseF
 show(bif decide ((k:Int)≤(i:Int)) then _ else bif decide ((y:Int)=2) then _ else aa (idx s (i:Int)) _)=_
 by_cases h1:k≤i
 ·rw[decide_eq_true (by omega),if_pos h1]; rfl
 rw[decide_eq_false (by omega),if_neg h1,cond_false]
 by_cases h2:y=1
 ·have hc:=h.cl _ (getD_mem hi)
  have hl:=hc.len
  rw[decide_eq_false (by omega),if_pos h2,cond_false,idx_getD hi,ai]
  unfold slices_Clone_Sint_int app
  rw[if_pos (by rw[bw]; omega),ai,ai,bn]
  rw[delete_eq (p:=fun x=>!occ (s.drop k) (absI x)) _ (fun x hx=>by
   have hx':=hc.lit x hx
   have hb:=h.b _ (getD_mem hi) x hx
   unfold impl_interpolation__ofClause_1
   rw[impl_abs hx'.1,ai]
   show aa (idx (cols s k n) _) _=_
   rw[h.col hx'.2.1 hb,ai,cell_b]) (by omega),ai]
  have e:((s.getD i default).filter fun x=>!!occ (s.drop k) (absI x))=keep s k (s.getD i default):=by
   unfold keep; simp only[Bool.not_not]
  rw[e,clause_impl (keep_lit hc).1 (keep_lit hc).2]; rfl
 ·rw[decide_eq_true (by have:=h.yl; omega),if_neg h2]; rfl
theorem base_spec{s:List (List Int)}{k y n:Nat}(h:In s k y n){i:Nat}(hi:i<s.length)(s3:List Ft)(hs3:s3.length≤1000000):
 (bif decide ((i:Int)<(k:Int)) then
  thenL (ρ:=(Flow ((List Ft)×Bool) (List Ft))) (σ:=(List Int)×Int) (lim fun n10=>whileN (fun (s10:(List Int)×Int)=>
   aa (idx s (i:Int)) fun v38=>
   bif decide (s10.2<(v38.length:Int)) then
    bif decide ((y:Int)=(1:Int)) then
     aa (slc s (k:Int) (s.length:Int)) fun v50=>
     aa (idx s (i:Int)) fun v53=>
     aa (idx v53 s10.2) fun v56=>
     aa (spec_l15Abs v56) fun v58=>
     aa (spec_l20Occurs v50 v58) fun v59=>
     bif v59 then
      aa (idx s (i:Int)) fun v63=>
      aa (idx v63 s10.2) fun v66=>
      aa (app s10.1 ([v66])) fun v69=>
      some (.nx (v69,IntKind.i64.wrap (s10.2+(1:Int))))
     else
      some (.nx (s10.1,IntKind.i64.wrap (s10.2+(1:Int))))
    else
     some (.br s10)
   else
    some (.br s10)) n10 ([],(0:Int))) fun s10=>
  bif decide ((y:Int)=(1:Int)) then
   aa (spec_l20Clause s10.1) fun v73=>
   aa (app s3 ([v73])) fun v77=>
   some (Flow.nx v77)
  else
   aa (app s3 ([(Ft.mk (2:Int) (Tt.mk (⟨#[]⟩:ByteArray) ([])) (⟨#[]⟩:ByteArray) ([]))])) fun v77=>
   some (.nx v77)
 else
  aa (app s3 ([(Ft.mk (1:Int) (Tt.mk (⟨#[]⟩:ByteArray) ([])) (⟨#[]⟩:ByteArray) ([]))])) fun v77=>
  some (.nx v77))=some (.nx (s3++[baseF s k y i])):=by
 unfold baseF
 by_cases h1:k≤i
 ·rw[decide_eq_false (by omega),if_pos h1,cond_false,app_one _ _ hs3]; rfl
 rw[decide_eq_true (by omega),if_neg h1,cond_true]
 by_cases h2:y=1
 ·have hc:=h.cl _ (getD_mem hi)
  have hl:=hc.len
  rw[decide_eq_true (by omega),if_pos h2,idx_getD hi]
  generalize hcc:s.getD i default=c at hc hl ⊢
  have hlit:=hc.lit
  have e:=lim_iter (ρ:=Flow ((List Ft)×Bool) (List Ft)) (f:=fun (s10:(List Int)×Int)=>
   aa (some c) fun v38=>
   bif decide (s10.2<(v38.length:Int)) then
    bif true then
     aa (slc s (k:Int) (s.length:Int)) fun v50=>
     aa (some c) fun v53=>
     aa (idx v53 s10.2) fun v56=>
     aa (spec_l15Abs v56) fun v58=>
     aa (spec_l20Occurs v50 v58) fun v59=>
     bif v59 then
      aa (some c) fun v63=>
      aa (idx v63 s10.2) fun v66=>
      aa (app s10.1 ([v66])) fun v69=>
      some (.nx (v69,IntKind.i64.wrap (s10.2+(1:Int))))
     else
      some (.nx (s10.1,IntKind.i64.wrap (s10.2+(1:Int))))
    else
     some (.br s10)
   else
    some (.br s10)) (fun j=>((c.take j).filter (fun x=>occ (s.drop k) (absI x)),(j:Int))) c.length (s':=(c.filter (fun x=>occ (s.drop k) (absI x)),(c.length:Int))) (fun j hj=>by
   have hx:=hlit _ (getD_mem hj)
   have s2:slc s (k:Int) (s.length:Int)=some (s.drop k):=by unfold slc; rw[if_pos (by have:=h.kl; omega),Int.toNat_natCast,Int.toNat_natCast,List.take_length]
   show(bif decide ((j:Int)<(c.length:Int)) then _ else _)=_
   rw[decide_eq_true (by omega),cond_true,cond_true,s2,ai,ai]
   show aa (idx c (j:Int)) _=_
   rw[idx_getD hj,ai,abs_eq,ai,Occurs_eq _ hx.2.1 hx.2.2,ai,List.take_succ_eq_append_getElem hj,List.filter_append]
   have hg:c[j]=c.getD j default:=by rw[List.getD_eq_getElem?_getD,List.getElem?_eq_getElem hj]; rfl
   rw[hg,List.filter_cons]
   have hlen:((c.take j).filter (fun x=>occ (s.drop k) (absI x))).length≤12:=by
    have:=List.length_filter_le (fun x=>occ (s.drop k) (absI x)) (c.take j)
    rw[List.length_take] at this; omega
   have hrun:∀ (b:Bool) (A:List Int) (x:Int),A.length≤12→(bif b then aa (some x) fun v66=>aa (app A ([v66])) fun v69=>some (Flow.nx (ρ:=Flow ((List Ft)×Bool) (List Ft)) (v69,IntKind.i64.wrap ((j:Int)+(1:Int)))) else some (.nx (A,IntKind.i64.wrap ((j:Int)+(1:Int)))))=some (.nx (A++(if b=true then x::[] else []),((j+1:Nat):Int))):=fun b A x hA=>by
    rw[wrap_succ (by omega)]
    cases b
    ·simp
    ·rw[cond_true,ai,app_one _ _ (by omega)]; rfl
   have:=hrun (occ (s.drop k) (absI (c.getD j default))) _ (c.getD j default) hlen
   rw[← idx_getD hj] at this
   exact this) (by
   show(bif decide ((c.length:Int)<(c.length:Int)) then _ else _)=_
   rw[decide_eq_false (by omega),cond_false,List.take_length])
  refine(congrArg (fun z=>thenL z _) e).trans ?_
  rw[thenL_inr,cond_true]
  have hk:=keep_lit (s:=s) (k:=k) hc
  show aa (spec_l20Clause (keep s k c)) _=_
  rw[clause_spec hk.1 hk.2,ai,app_one _ _ hs3]; rfl
 ·rw[decide_eq_false (by omega),if_neg h2,idx_getD hi]
  have e:∀ g:((List Int)×Int)→Option (Flow (Flow ((List Ft)×Bool) (List Ft)) ((List Int)×Int)),g ([],0)=some (.br ([],0))→lim (fun n=>whileN g n ([],0))=some (.inr ([],0)):=fun g hg=>lim_iter (f:=g) (fun _=>([],0)) 0 (fun j hj=>by omega) hg
  rw[e _ (by
   rw[ai,cond_false]
   cases decide ((0:Int)<((s.getD i default).length:Int))<;>rfl),thenL_inr,cond_false,app_one _ _ hs3]; rfl
/-! ### the steps -/
noncomputable def stepF(s:List (List Int))(k y:Nat)(v:Int)(a b:Ft):Ft:=
 if occ (s.drop k) v=true then(if occ (s.take k) v=true then(if y=1 then andF a b else andF (orF (litF v) a) (orF (litF (-v)) b)) else andF a b) else orF a b
theorem lit_v{v:Int}(h:1≤v∧v≤12):Lit v∧Lit (-v):=by
 refine⟨⟨⟨by omega,by omega⟩,by unfold absI; rw[if_neg (by omega)]; omega,by unfold absI; rw[if_neg (by omega)]; omega⟩,⟨by omega,by omega⟩,?_,?_⟩<;>
 ·unfold absI; rw[if_pos (by omega),wrap64 (by omega) (by omega)]; omega
theorem orF_LB{n m:Nat}{a b:Ft}(ha:LB n a)(hb:LB m b):LB (n+m+1) (orF a b):=twoF_LB (by simp[InR]) (by simp[InR]) ha hb
theorem andF_LB{n m:Nat}{a b:Ft}(ha:LB n a)(hb:LB m b):LB (n+m+1) (andF a b):=twoF_LB (by simp[InR]) (by simp[InR]) ha hb
theorem stepF_LB{s:List (List Int)}{k y:Nat}{v:Int}(hv:1≤v∧v≤12){a b:Ft}(ha:LB 40 a)(hb:LB 40 b):LB 87 (stepF s k y v a b):=by
 unfold stepF
 split
 ·split
  ·split
   ·exact(andF_LB ha hb).mono (by omega)
   ·exact(andF_LB (orF_LB (litF_LB (lit_v hv).1) ha) (orF_LB (litF_LB (lit_v hv).2) hb)).mono (by omega)
  ·exact(andF_LB ha hb).mono (by omega)
 ·exact(orF_LB ha hb).mono (by omega)
theorem neg_wrap{v:Int}(h:1≤v∧v≤12):IntKind.i64.wrap (0-v)=-v:=by rw[wrap64 (by omega) (by omega)]; omega
theorem step_impl{s:List (List Int)}{k y n:Nat}(h:In s k y n){v:Int}(hv:1≤v∧v≤n)(a b:Ft):impl_interpolation__ofStep (fr s k y n) v a b=some (stepF s k y v a b):=by
 have hn:=h.nl
 have hl:=lit_v (v:=v) (by omega)
 unfold impl_interpolation__ofStep stepF
 show aa (idx (cols s k n) _) _=_
 rw[h.col hv.1 hv.2,ai,cell_b,cell_a]
 show(bif !occ (s.drop k) v then _ else bif decide ((y:Int)=1) then _ else _)=_
 rw[or_impl,and_impl,lit_impl hl.1,neg_wrap (by omega),lit_impl hl.2]
 simp only[ai,or_impl,and_impl]
 cases occ (s.drop k) v
 ·rfl
 cases occ (s.take k) v
 ·cases decide ((y:Int)=1)<;>rfl
 ·by_cases e:y=1
  ·rw[decide_eq_true (by omega),if_pos rfl,if_pos rfl,if_pos e]; rfl
  ·rw[decide_eq_false (by omega),if_pos rfl,if_pos rfl,if_neg e]; rfl
/-- The formulas up to a step. -/
noncomputable def runF(s:List (List Int))(p:List Pt)(k y:Nat):Nat→List Ft
 | 0=>(List.range s.length).map (baseF s k y)
 | j+1=>runF s p k y j++[stepF s k y (stp p j).Pivot ((runF s p k y j).getD (stp p j).Left.toNat default) ((runF s p k y j).getD (stp p j).Right.toNat default)]
noncomputable def nxtF(s:List (List Int))(p:List Pt)(k y j:Nat):Ft:=stepF s k y (stp p j).Pivot ((runF s p k y j).getD (stp p j).Left.toNat default) ((runF s p k y j).getD (stp p j).Right.toNat default)
theorem runF_succ(s:List (List Int))(p:List Pt)(k y j:Nat):runF s p k y (j+1)=runF s p k y j++[nxtF s p k y j]:=rfl
theorem runF_len(s:List (List Int))(p:List Pt)(k y:Nat):∀ j,(runF s p k y j).length=s.length+j
 | 0=>by simp[runF]
 | j+1=>by rw[runF_succ,aV,runF_len s p k y j]; rfl
theorem get_LB{s:List (List Int)}{p:List Pt}{k y j:Nat}(hL:∀ f∈runF s p k y j,LB 40 f){l:Int}(h0:0≤l)(h1:l<s.length+j):idx (runF s p k y j) l=some ((runF s p k y j).getD l.toNat default)∧LB 40 ((runF s p k y j).getD l.toNat default):=by
 have hl:=runF_len s p k y j
 obtain⟨i,rfl⟩:∃ i:Nat,l=(i:Int):=⟨l.toNat,by omega⟩
 exact⟨idx_getD (by omega),hL _ (getD_mem (by show i<_; omega))⟩
theorem runF_LB{s:List (List Int)}{p:List Pt}{k y n:Nat}(h:In s k y n){m:Nat}(hp:∀ j,j<m→StepOk s p j):∀ j,j≤m→(∀ i,i<j→validF (nxtF s p k y i)=true)→∀ f∈runF s p k y j,LB 40 f
 | 0,_,_,f,hf=>by
  obtain⟨i,hi,rfl⟩:=List.mem_map.1 hf
  exact baseF_LB h (List.mem_range.1 hi)
 | j+1,hj,hv,f,hf=>by
  have ih:=runF_LB h hp j (by omega) (fun i hi=>hv i (by omega))
  rw[runF_succ] at hf
  rcases List.mem_append.1 hf with hf | hf
  ·exact ih f hf
  ·rw[List.mem_singleton.1 hf]
   have q:=hp j (by omega)
   have:=stepF_LB (s:=s) (k:=k) (y:=y) ⟨q.v0,q.v1⟩ (get_LB ih q.l0 q.l1).2 (get_LB ih q.r0 q.r1).2
   exact⟨this.ok,this.tot,(validF_cnt (hv j (by omega))).1⟩
end
section
theorem specF_mem(v:Int):∀ (b Y r:List Int),specF v b Y=some r→∀ x∈r,x∈Y∨x∈b
 | [],Y,r,h,x,hx=>by cases h; exact .inl hx
 | z::b,Y,r,h,x,hx=>by
  rw[specF] at h
  have up:∀ Y',specF v b Y'=some r→(∀ u∈Y',u∈Y∨u=z)→x∈Y∨x∈z::b:=fun Y' e q=>by
   rcases specF_mem v b Y' r e x hx with g | g
   ·rcases q x g with g | g
    ·exact .inl g
    ·exact .inr (by rw[g]; simp)
   ·exact .inr (by simp[g])
  split at h
  ·exact up Y h fun u hu=>.inl hu
  ·split at h
   ·exact up Y h fun u hu=>.inl hu
   ·split at h
    ·cases h
    ·refine up _ h fun u hu=>?_
     rcases List.mem_cons.1 ((insA_perm z Y).mem_iff.1 hu) with g | g
     ·exact .inr g
     ·exact .inl g
theorem resR_mem{a b r:List Int}{v:Int}(h:resR a b v=some r):v∈a∧∀ x∈r,x∈a∨x∈b:=by
 unfold resR at h
 split at h
 ·rename_i g
  refine⟨hasI_iff.1 g.1,fun x hx=>?_⟩
  rcases specF_mem v b _ r h x hx with q | q
  ·exact .inl (List.mem_filter.1 q).1
  ·exact .inr q
 ·cases h
theorem cls_bnd{s:List (List Int)}{p:List Pt}{n:Nat}(hb:∀ c∈s,∀ x∈c,absI x≤n){j:Nat}(hp:∀ k,k<j→∀ x∈(stp p k).Clause,absI x≤n){l:Int}(h0:0≤l)(h1:l<s.length+j):∀ x∈clsAt s p l.toNat,absI x≤n:=by
 unfold clsAt
 split
 ·rename_i g; exact hb _ (getD_mem g)
 ·exact hp _ (by omega)
theorem steps_bnd{s:List (List Int)}{p:List Pt}{n m:Nat}(hb:∀ c∈s,∀ x∈c,absI x≤n)(hp:∀ j,j<m→StepOk s p j):∀ j,j≤m→∀ k,k<j→∀ x∈(stp p k).Clause,absI x≤n
 | 0,_,k,hk=>by omega
 | j+1,hj,k,hk=>by
  have ih:=steps_bnd hb hp j (by omega)
  by_cases e:k=j
  ·subst e
   have q:=hp k (by omega)
   intro x hx
   rcases (resR_mem q.res).2 x hx with g | g
   ·exact cls_bnd hb ih q.l0 q.l1 x g
   ·exact cls_bnd hb ih q.r0 q.r1 x g
  ·exact ih k (by omega)
theorem piv_le{s:List (List Int)}{p:List Pt}{n m:Nat}(hb:∀ c∈s,∀ x∈c,absI x≤n)(hp:∀ j,j<m→StepOk s p j){j:Nat}(hj:j<m):1≤(stp p j).Pivot∧(stp p j).Pivot≤n:=by
 have q:=hp j hj
 refine⟨q.v0,?_⟩
 have:=cls_bnd hb (steps_bnd hb hp j (by omega)) q.l0 q.l1 _ (resR_mem q.res).1
 unfold absI at this
 have h0:=q.v0
 rw[if_neg (by omega)] at this
 exact this
/-! ### all steps -/
noncomputable def stepR(s:List (List Int))(p:List Pt)(k y:Nat):List Ft×Bool:=match ffail (fun j=>validF (nxtF s p k y j)) p.length 0 with
 | none=>((runF s p k y p.length).drop s.length,true)
 | some _=>([],false)
theorem base_build{s:List (List Int)}{k y:Nat}{ρ:Type}{f:Nat→List Ft→Option (Flow ρ (List Ft))}(hb:s.length≤40)(h:∀ i (s3:List Ft),i<s.length→s3.length≤1000000→f i s3=some (.nx (s3++[baseF s k y i])))(p:List Pt):forN f s.length 0 []=some (.inr (runF s p k y 0)):=by
 rw[forN_build (baseF s k y) s.length 0 [] (by simp; omega) (fun j s3 _ hj hs=>h j s3 (by omega) hs),bn,← List.range_eq_range']; rfl
theorem partial_spec{s:List (List Int)}{p:List Pt}{k y n:Nat}(h:In s k y n)(hp:∀ j,j<p.length→StepOk s p j)(hl:p.length≤200):∃ w,spec_l20Partial s p (k:Int) (y:Int)=some w∧w.2=(stepR s p k y).2∧(w.2=true→w.1=runF s p k y p.length):=by
 have s1:slc s (0:Int) (k:Int)=some (s.take k):=by unfold slc; rw[if_pos (by have:=h.kl; omega)]; rfl
 have s2:slc s (k:Int) (s.length:Int)=some (s.drop k):=by unfold slc; rw[if_pos (by have:=h.kl; omega),Int.toNat_natCast,Int.toNat_natCast,List.take_length]
 unfold spec_l20Partial
 rw[base_build (k:=k) (y:=y) (p:=p) h.len (fun i s3 hi hs=>base_spec h hi s3 hs),thenL_inr]
 have e:=forN_run (ρ:=List Ft×Bool) (c:=fun j=>validF (nxtF s p k y j)) (g:=fun j=>(runF s p k y j,false)) (st:=runF s p k y) (f:=fun (i18:Nat) (s18:(List Ft))=>
  aa (idx p (i18:Int)) fun v86=>
  aa (idx s18 v86.Left) fun v91=>
  aa (idx s18 v86.Left) fun v92=>
  aa (idx s18 v86.Right) fun v96=>
  aa (idx s18 v86.Right) fun v97=>
  aa (slc s (0:Int) (k:Int)) fun v100=>
  aa (spec_l20Occurs v100 v86.Pivot) fun v103=>
  aa (slc s (k:Int) (s.length:Int)) fun v106=>
  aa (spec_l20Occurs v106 v86.Pivot) fun v109=>
  bif v109 then
   bif v103 then
    bif decide ((y:Int)=(1:Int)) then
     aa (spec_l20Two (5:Int) v92 v97) fun v138=>
     aa (spec_l8Good v138) fun v140=>
     bif v140 then
      aa (app s18 ([v138])) fun v146=>
      some (.nx v146)
     else
      some (.rt (s18,false))
    else
     aa (spec_l20Literal v86.Pivot) fun v113=>
     aa (spec_l20Two (6:Int) v113 v92) fun v115=>
     aa (spec_l20Literal (IntKind.i64.wrap (0-v86.Pivot))) fun v119=>
     aa (spec_l20Two (6:Int) v119 v97) fun v121=>
     aa (spec_l20Two (5:Int) v115 v121) fun v122=>
     aa (spec_l8Good v122) fun v140=>
     bif v140 then
      aa (app s18 ([v122])) fun v146=>
      some (.nx v146)
     else
      some (.rt (s18,false))
   else
    aa (spec_l20Two (5:Int) v92 v97) fun v138=>
    aa (spec_l8Good v138) fun v140=>
    bif v140 then
     aa (app s18 ([v138])) fun v146=>
     some (.nx v146)
    else
     some (.rt (s18,false))
  else
   aa (spec_l20Two (6:Int) v92 v97) fun v128=>
   aa (spec_l8Good v128) fun v140=>
   bif v140 then
    aa (app s18 ([v128])) fun v146=>
    some (.nx v146)
   else
    some (.rt (s18,false))) p.length 0 (fun k hk=>by omega) (fun j hj hk=>by
  have hj':j<p.length:=by omega
  have q:=hp j hj'
  have hL:=runF_LB h hp j (by omega) hk
  have gl:=get_LB hL q.l0 q.l1
  have gr:=get_LB hL q.r0 q.r1
  have len:=runF_len s p k y j
  have hsl:=h.len
  have hv:1≤(stp p j).Pivot∧(stp p j).Pivot≤12:=⟨q.v0,q.v1⟩
  have hlit:=lit_v hv
  rw[idx_getD hj',ai,show p.getD j default=stp p j from rfl,gl.1,gr.1,s1,s2]
  simp only[ai]
  rw[Occurs_eq _ hv.1 hv.2,Occurs_eq _ hv.1 hv.2,lit_spec hlit.1,neg_wrap hv,lit_spec hlit.2]
  simp only[ai]
  rw[runF_succ]
  unfold nxtF
  generalize hgA:(runF s p k y j).getD (stp p j).Left.toNat default=A at gl ⊢
  generalize hgB:(runF s p k y j).getD (stp p j).Right.toNat default=B at gr ⊢
  have hA:=gl.2
  have hB:=gr.2
  have fin:∀ F,LB 87 F→(aa (spec_l8Good F) fun v140=>
   bif v140 then
    aa (app (runF s p k y j) ([F])) fun v146=>
    some (Flow.nx (ρ:=List Ft×Bool) v146)
   else
    some (.rt (runF s p k y j,false)))=some (bif validF F then .nx (runF s p k y j++[F]) else .rt (runF s p k y j,false)):=fun F hF=>by
   rw[validF_spec F (hF.t (by omega)) hF.ok,ai]
   cases validF F
   ·rfl
   ·rw[cond_true,app_one _ _ (by omega)]; rfl
  have o1:=orF_LB (litF_LB hlit.1) hA
  have o2:=orF_LB (litF_LB hlit.2) hB
  rw[and_spec (hA.t (by omega)) (hB.t (by omega)),or_spec (hA.t (by omega)) (hB.t (by omega)),or_spec ((litF_LB hlit.1).t (by omega)) (hA.t (by omega)),or_spec ((litF_LB hlit.2).t (by omega)) (hB.t (by omega))]
  simp only[ai]
  rw[and_spec (o1.t (by omega)) (o2.t (by omega))]
  simp only[ai]
  rw[fin _ ((andF_LB hA hB).mono (by omega)),fin _ ((orF_LB hA hB).mono (by omega)),fin _ ((andF_LB o1 o2).mono (by omega))]
  unfold stepF
  cases occ (s.drop k) (stp p j).Pivot
  ·rw[if_neg (by simp)]; rfl
  cases occ (s.take k) (stp p j).Pivot
  ·rw[if_pos rfl,if_neg (by simp)]; rfl
  by_cases ey:y=1
  ·rw[decide_eq_true (by omega),if_pos rfl,if_pos rfl,if_pos ey]; rfl
  ·rw[decide_eq_false (by omega),if_pos rfl,if_pos rfl,if_neg ey]; rfl)
 refine⟨(match ffail (fun j=>validF (nxtF s p k y j)) p.length 0 with | none=>(runF s p k y p.length,true) | some j=>(runF s p k y j,false)),(congrArg (fun z=>thenL z (fun s18:List Ft=>some (s18,true))) e).trans ?_,?_⟩
 ·cases ffail (fun j=>validF (nxtF s p k y j)) p.length 0 with
  | none=>rw[thenL_inr,Nat.zero_add]
  | some j=>rfl
 ·unfold stepR
  cases ffail (fun j=>validF (nxtF s p k y j)) p.length 0 with
  | none=>exact⟨rfl,fun _=>rfl⟩
  | some j=>exact⟨rfl,fun e=>(nomatch e)⟩
theorem stepR_LB{s:List (List Int)}{p:List Pt}{k y n:Nat}(h:In s k y n)(hp:∀ j,j<p.length→StepOk s p j):(∀ f∈(stepR s p k y).1,LB 40 f)∧(stepR s p k y).1.length≤p.length∧((stepR s p k y).2=true→(stepR s p k y).1=(runF s p k y p.length).drop s.length∧(stepR s p k y).1.length=p.length)∧((stepR s p k y).2=false→(stepR s p k y).1=[]):=by
 unfold stepR
 cases e:ffail (fun j=>validF (nxtF s p k y j)) p.length 0 with
 | none=>
  have hL:=runF_LB h hp p.length (a7 _) (fun i hi=>ffail_none e i (by omega) (by omega))
  have len:=runF_len s p k y p.length
  refine⟨fun f hf=>hL f (List.mem_of_mem_drop hf),?_,fun _=>⟨rfl,?_⟩,fun e=>(nomatch e)⟩
  ·show((runF s p k y p.length).drop s.length).length≤_; rw[List.length_drop]; omega
  ·show((runF s p k y p.length).drop s.length).length=_; rw[List.length_drop]; omega
 | some j=>exact⟨fun f hf=>(nomatch hf),Nat.zero_le _,fun e=>(nomatch e),fun _=>rfl⟩
theorem steps_impl{s:List (List Int)}{p:List Pt}{k y n:Nat}(h:In s k y n)(hp:∀ j,j<p.length→StepOk s p j)(hl:p.length≤200):
 (thenL (ρ:=((List Ft)×Bool)) (σ:=(List Ft)) (forN (fun (i6:Nat) (s6:(List Ft))=>
  aa (impl_interpolation__ofClause (fr s k y n) (i6:Int)) fun v48=>
  aa (app s6 ([v48])) fun v50=>
  some (.nx v50)) s.length 0 ([])) fun s6=>
  thenL (ρ:=((List Ft)×Bool)) (σ:=(List Ft)) (forN (fun (i11:Nat) (s11:(List Ft))=>
   aa (idx p (i11:Int)) fun v56=>
   aa (idx s11 v56.Left) fun v64=>
   aa (idx s11 v56.Left) fun v65=>
   aa (idx s11 v56.Right) fun v69=>
   aa (idx s11 v56.Right) fun v70=>
   aa (impl_interpolation__ofStep (fr s k y n) v56.Pivot v65 v70) fun v71=>
   aa (impl_IsValidFormula v71) fun v73=>
   bif v73 then
    aa (app s11 ([v71])) fun v78=>
    some (.nx v78)
   else
    some (.rt ([],false))) p.length 0 s6) fun s11=>
  aa (slc s11 (s.length:Int) (s11.length:Int)) fun v83=>
  aa (impl_copyFormulas v83) fun v84=>
  some (v84,true))=some (stepR s p k y):=by
 rw[base_build (k:=k) (y:=y) (p:=p) h.len (fun i s3 hi hs=>by rw[base_impl h hi,ai,app_one _ _ hs]; rfl),thenL_inr]
 have e:=forN_run (ρ:=List Ft×Bool) (c:=fun j=>validF (nxtF s p k y j)) (g:=fun j=>([],false)) (st:=runF s p k y) (f:=fun (i11:Nat) (s11:(List Ft))=>
  aa (idx p (i11:Int)) fun v56=>
  aa (idx s11 v56.Left) fun v64=>
  aa (idx s11 v56.Left) fun v65=>
  aa (idx s11 v56.Right) fun v69=>
  aa (idx s11 v56.Right) fun v70=>
  aa (impl_interpolation__ofStep (fr s k y n) v56.Pivot v65 v70) fun v71=>
  aa (impl_IsValidFormula v71) fun v73=>
  bif v73 then
   aa (app s11 ([v71])) fun v78=>
   some (.nx v78)
  else
   some (.rt ([],false))) p.length 0 (fun k hk=>by omega) (fun j hj hk=>by
  have hj':j<p.length:=by omega
  have q:=hp j hj'
  have hL:=runF_LB h hp j (by omega) hk
  have gl:=get_LB hL q.l0 q.l1
  have gr:=get_LB hL q.r0 q.r1
  have len:=runF_len s p k y j
  have hsl:=h.len
  have hv:1≤(stp p j).Pivot∧(stp p j).Pivot≤12:=⟨q.v0,q.v1⟩
  have hF:=stepF_LB (s:=s) (k:=k) (y:=y) hv gl.2 gr.2
  rw[idx_getD hj',ai,show p.getD j default=stp p j from rfl,gl.1,gr.1]
  simp only[ai]
  rw[step_impl h (piv_le h.b hp hj'),ai,runF_succ,validF_impl _ (hF.t (by omega)) hF.ok,ai]
  unfold nxtF
  cases validF (stepF s k y (stp p j).Pivot ((runF s p k y j).getD (stp p j).Left.toNat default) ((runF s p k y j).getD (stp p j).Right.toNat default))
  ·rfl
  ·rw[cond_true,app_one _ _ (by omega)]; rfl)
 refine(congrArg (fun z=>thenL z _) e).trans ?_
 have hh:=stepR_LB h hp
 unfold stepR at hh ⊢
 cases ee:ffail (fun j=>validF (nxtF s p k y j)) p.length 0 with
 | none=>
  rw[ee] at hh
  have len:=runF_len s p k y p.length
  show(aa (slc (runF s p k y (0+p.length)) (s.length:Int) ((runF s p k y (0+p.length)).length:Int)) fun v83=>aa (impl_copyFormulas v83) fun v84=>some (v84,true))=_
  rw[Nat.zero_add]
  unfold slc
  rw[if_pos (by omega),Int.toNat_natCast,Int.toNat_natCast,List.take_length,ai]
  have hc:impl_copyFormulas ((runF s p k y p.length).drop s.length)=some ((runF s p k y p.length).drop s.length):=by
   unfold impl_copyFormulas
   simp only[forN_idx]
   rw[mapL (f:=impl_copyFormula) (g:=fun x=>x) _ 0 [] (fun a ha=>copyF a ((hh.1 a ha).t (by omega))) (by have:=hh.2.1; simp at this ⊢; omega),thenL_inr]
   simp
  rw[hc]; rfl
 | some j=>rfl
theorem tail_spec{L:List Ft}{a:Nat}(ha:a≤L.length)(hL:L.length≤1000)(ht:∀ f∈L.drop a,f.tot≤1048576):(thenL (ρ:=((List Ft)×Bool)) (σ:=(List Ft)×Int) (lim fun n8=>whileN (fun (s8:(List Ft)×Int)=>
 bif decide (s8.2<(L.length:Int)) then
  aa (idx L s8.2) fun v60=>
  aa (idx L s8.2) fun v61=>
  aa (spec_l8Own v61) fun v62=>
  aa (app s8.1 ([v62])) fun v64=>
  some (.nx (v64,IntKind.i64.wrap (s8.2+(1:Int))))
 else
  some (.br s8)) n8 ([],(a:Int))) fun s8=>
 some (s8.1,true))=some (L.drop a,true):=by
 have hd:(L.drop a).length=L.length-a:=by rw[List.length_drop]
 have e:=lim_iter (ρ:=(List Ft)×Bool) (f:=fun (s8:(List Ft)×Int)=>
  bif decide (s8.2<(L.length:Int)) then
   aa (idx L s8.2) fun v60=>
   aa (idx L s8.2) fun v61=>
   aa (spec_l8Own v61) fun v62=>
   aa (app s8.1 ([v62])) fun v64=>
   some (.nx (v64,IntKind.i64.wrap (s8.2+(1:Int))))
  else
   some (.br s8)) (fun j=>((L.drop a).take j,((a+j:Nat):Int))) (L.length-a) (s':=(L.drop a,(L.length:Int))) (fun j hj=>by
  show(bif decide (((a+j:Nat):Int)<(L.length:Int)) then aa (idx L ((a+j:Nat):Int)) _ else _)=_
  rw[decide_eq_true (by omega),cond_true,idx_getD (by omega),ai,ai]
  have hg:L.getD (a+j) default=(L.drop a)[j]'(by omega):=by
   rw[List.getElem_drop,List.getD_eq_getElem?_getD,List.getElem?_eq_getElem (by omega)]; rfl
  rw[hg,ownF _ (ht _ (List.getElem_mem _)),ai]
  show aa (app ((L.drop a).take j) _) _=_
  rw[app_one _ _ (by rw[List.length_take]; omega),ai,List.take_succ_eq_append_getElem (by omega)]
  show some (Flow.nx (_,IntKind.i64.wrap (((a+j:Nat):Int)+1)))=_
  rw[wrap_succ (by omega)]; rfl) (by
  show(bif decide (((a+(L.length-a):Nat):Int)<(L.length:Int)) then _ else _)=_
  rw[decide_eq_false (by omega),cond_false]
  show some (Flow.br ((L.drop a).take (L.length-a),((a+(L.length-a):Nat):Int)))=_
  rw[show a+(L.length-a)=L.length by omega,← hd,List.take_length])
 refine(congrArg (fun z=>thenL z _) e).trans rfl
/-! ### both -/
structure Fin(r:List Ft×Bool):Prop where
 lb:∀ f∈r.1,LB 40 f
 len:r.1.length≤200
 pos:r.2=true→0<r.1.length
end
section
/-! ### what the formulas say -/
/-- A truth value for every literal up to a variable. -/
def Cons(p:Int→Bool)(n:Nat):Prop:=∀ x:Int,1≤x→x≤n→p (-x)=!p x
theorem ev_con1(p:Int→Bool){a:Ft}(h:a.Op=1):a.ev p=true:=by rw[Ft.ev_u,decide_eq_true h]; rfl
theorem ev_con2(p:Int→Bool){a:Ft}(h:a.Op=2):a.ev p=false:=by rw[Ft.ev_u,decide_eq_false (by omega),decide_eq_true h]; rfl
theorem ev_or(p:Int→Bool)(a b:Ft):(binF 6 a b).ev p=(a.ev p||b.ev p):=by
 rw[Ft.ev_u]; unfold binF; simp[Ft.Op,Ft.Parts]
theorem ev_and(p:Int→Bool)(a b:Ft):(binF 5 a b).ev p=(a.ev p&&b.ev p):=by
 rw[Ft.ev_u]; unfold binF; simp[Ft.Op,Ft.Parts]
theorem varOf_vnm{k:Nat}(h:k<12):varOf ⟨vnm k,[]⟩=((k+1:Nat):Int):=by
 unfold varOf
 show(bif true then nmOf (vnm k) else 0)=_
 rw[cond_true,nmOf_vnm h]
theorem lit_ev{p:Int→Bool}{n:Nat}(hp:Cons p n){x:Int}(h:Lit x)(hn:absI x≤n):(litF x).ev p=p x:=by
 obtain⟨h1,h2⟩:=h.idx
 obtain⟨a1,a2,a3,a4⟩:=h.v
 have e:(⟨3,⟨vnm ((absI x).toNat-1),[]⟩,⟨#[]⟩,[]⟩:Ft).ev p=p (absI x):=by
  rw[Ft.ev_u]
  show(bif decide ((3:Int)=1) then _ else bif decide ((3:Int)=2) then _ else bif decide ((3:Int)=3) then p (varOf ⟨vnm ((absI x).toNat-1),[]⟩) else _)=_
  rw[varOf_vnm h1,← h2]; rfl
 unfold litF
 by_cases g:x<0
 ·rw[if_pos g,Ft.ev_u]
  rw[if_pos g] at a1
  have:=hp (absI x) (by omega) hn
  rw[a1,Int.neg_neg] at this
  rw[this,← a1,← e]
  simp[Ft.Op,Ft.Parts]
 ·rw[if_neg g,e]
  rw[if_neg g] at a1
  rw[a1]
theorem fold_ev(p:Int→Bool):∀ (r:List Ft) (x:Ft),(r.foldl (fun a f=>binF 6 f a) x).ev p=(x.ev p||r.any (Ft.ev p))
 | [],x=>by simp
 | f::r,x=>by
  rw[List.foldl_cons,fold_ev p r,ev_or,List.any_cons]
  cases f.ev p<;>cases x.ev p<;>simp
theorem join_ev(p:Int→Bool)(l:List Ft):(joinF 6 l (conF 2)).ev p=l.any (Ft.ev p):=by
 have e:l.any (Ft.ev p)=l.reverse.any (Ft.ev p):=by rw[List.any_reverse]
 unfold joinF
 rw[e]
 cases l.reverse with
 | nil=>exact ev_con2 p rfl
 | cons x r=>rw[fold_ev,List.any_cons]
theorem or_ev(p:Int→Bool)(a b:Ft):(orF a b).ev p=(a.ev p||b.ev p):=by
 unfold orF twoF
 by_cases h1:a.Op=1
 ·rw[if_pos h1,ev_con1 p h1]; exact ev_con1 p rfl
 rw[if_neg h1]
 by_cases h2:b.Op=1
 ·rw[if_pos h2,ev_con1 p h2,Bool.or_true]; exact ev_con1 p rfl
 rw[if_neg h2]
 by_cases h3:a.Op=2
 ·rw[if_pos h3,ev_con2 p h3,Bool.false_or]
 rw[if_neg h3]
 by_cases h4:b.Op=2
 ·rw[if_pos h4,ev_con2 p h4,Bool.or_false]
 rw[if_neg h4]
 by_cases h5:same a b=true
 ·rw[if_pos h5,same_iff.1 h5,Bool.or_self]
 ·rw[if_neg h5,ev_or]
theorem and_ev(p:Int→Bool)(a b:Ft):(andF a b).ev p=(a.ev p&&b.ev p):=by
 unfold andF twoF
 by_cases h1:a.Op=2
 ·rw[if_pos h1,ev_con2 p h1]; exact ev_con2 p rfl
 rw[if_neg h1]
 by_cases h2:b.Op=2
 ·rw[if_pos h2,ev_con2 p h2,Bool.and_false]; exact ev_con2 p rfl
 rw[if_neg h2]
 by_cases h3:a.Op=1
 ·rw[if_pos h3,ev_con1 p h3,Bool.true_and]
 rw[if_neg h3]
 by_cases h4:b.Op=1
 ·rw[if_pos h4,ev_con1 p h4,Bool.and_true]
 rw[if_neg h4]
 by_cases h5:same a b=true
 ·rw[if_pos h5,same_iff.1 h5,Bool.and_self]
 ·rw[if_neg h5,ev_and]
/-! ### their variables -/
def VF(P:Int→Prop)(f:Ft):Prop:=f.vf=true∧∀ t∈f.ats,P (varOf t)
theorem VF.con(P:Int→Prop){o:Int}(h:o=1∨o=2):VF P (conF o):=by
 rcases h with rfl | rfl
 ·exact⟨rfl,fun t ht=>(nomatch ht)⟩
 ·exact⟨rfl,fun t ht=>(nomatch ht)⟩
theorem VF.bin{P:Int→Prop}{o:Int}(h:o=5∨o=6){a b:Ft}(ha:VF P a)(hb:VF P b):VF P (binF o a b):=by
 refine⟨?_,fun t ht=>?_⟩
 ·rw[Ft.vf_u]; unfold binF
  rcases h with rfl | rfl<;>simp[Ft.Op,Ft.Parts,ha.1,hb.1]
 ·rw[Ft.ats_u] at ht
  unfold binF at ht
  have:t∈Ft.atss [a,b]:=by
   rcases h with rfl | rfl
   ·exact ht
   ·exact ht
  obtain⟨f,hf,h2⟩:=atss_mem.1 this
  rcases List.mem_cons.1 hf with rfl | hf
  ·exact ha.2 t h2
  ·rw[List.mem_singleton.1 hf] at h2; exact hb.2 t h2
theorem VF.lit{P:Int→Prop}{x:Int}(h:Lit x)(hP:P (absI x)):VF P (litF x):=by
 obtain⟨h1,h2⟩:=h.idx
 have e:VF P (⟨3,⟨vnm ((absI x).toNat-1),[]⟩,⟨#[]⟩,[]⟩:Ft):=by
  refine⟨?_,fun t ht=>?_⟩
  ·rw[Ft.vf_u]
   show(bif decide ((3:Int)=3) then decide (0<varOf ⟨vnm ((absI x).toNat-1),[]⟩) else _)=true
   rw[varOf_vnm h1,decide_eq_true rfl,cond_true,decide_eq_true (by omega)]
  ·rw[Ft.ats_u] at ht
   have:t=⟨vnm ((absI x).toNat-1),[]⟩:=List.mem_singleton.1 ht
   rw[this,varOf_vnm h1,← h2]; exact hP
 unfold litF
 split
 ·refine⟨?_,fun t ht=>?_⟩
  ·rw[Ft.vf_u]; simp[Ft.Op,Ft.Parts,e.1]
  ·rw[Ft.ats_u] at ht
   obtain⟨f,hf,h3⟩:=atss_mem.1 (show t∈Ft.atss [(⟨3,⟨vnm ((absI x).toNat-1),[]⟩,⟨#[]⟩,[]⟩:Ft)] from ht)
   rw[List.mem_singleton.1 hf] at h3
   exact e.2 t h3
 ·exact e
theorem VF.two{P:Int→Prop}{o z u:Int}(ho:o=5∨o=6)(hz:z=1∨z=2){a b:Ft}(ha:VF P a)(hb:VF P b):VF P (twoF o z u a b):=by
 unfold twoF
 split
 ·exact VF.con P hz
 split
 ·exact VF.con P hz
 split
 ·exact hb
 split
 ·exact ha
 split
 ·exact ha
 ·exact VF.bin ho ha hb
theorem VF.or{P:Int→Prop}{a b:Ft}(ha:VF P a)(hb:VF P b):VF P (orF a b):=VF.two (.inr rfl) (.inl rfl) ha hb
theorem VF.and{P:Int→Prop}{a b:Ft}(ha:VF P a)(hb:VF P b):VF P (andF a b):=VF.two (.inl rfl) (.inr rfl) ha hb
theorem VF.fold{P:Int→Prop}:∀ (r:List Ft) (x:Ft),VF P x→(∀ f∈r,VF P f)→VF P (r.foldl (fun a f=>binF 6 f a) x)
 | [],x,h,_=>h
 | f::r,x,h,hr=>VF.fold r _ (VF.bin (.inr rfl) (hr f (by simp)) h) fun g hg=>hr g (by simp[hg])
theorem VF.join{P:Int→Prop}{l:List Ft}(hl:∀ f∈l,VF P f):VF P (joinF 6 l (conF 2)):=by
 unfold joinF
 cases h:l.reverse with
 | nil=>exact VF.con P (.inr rfl)
 | cons x r=>
  have hm:∀ f∈x::r,VF P f:=fun f hf=>hl f (by rw[← List.mem_reverse,h]; exact hf)
  exact VF.fold r x (hm x (by simp)) fun f hf=>hm f (by simp[hf])
/-! ### the formulas of the run -/
theorem specF_sup(v:Int):∀ (b Y r:List Int),specF v b Y=some r→(∀ x∈Y,x∈r)∧∀ x∈b,x≠-v→x∈r
 | [],Y,r,h=>by cases h; exact⟨fun x hx=>hx,fun x hx=>(nomatch hx)⟩
 | z::b,Y,r,h=>by
  rw[specF] at h
  split at h
  ·rename_i g
   obtain⟨h1,h2⟩:=specF_sup v b Y r h
   refine⟨h1,fun x hx hv=>?_⟩
   rcases List.mem_cons.1 hx with rfl | hx
   ·exact absurd g hv
   ·exact h2 x hx hv
  ·split at h
   ·rename_i g
    obtain⟨h1,h2⟩:=specF_sup v b Y r h
    refine⟨h1,fun x hx hv=>?_⟩
    rcases List.mem_cons.1 hx with rfl | hx
    ·exact h1 x (hasI_iff.1 g)
    ·exact h2 x hx hv
   ·split at h
    ·cases h
    ·obtain⟨h1,h2⟩:=specF_sup v b _ r h
     have hz:∀ x,x=z∨x∈Y→x∈insA Y z:=fun x hx=>(insA_perm z Y).mem_iff.2 (by rcases hx with rfl | hx<;>simp[*])
     refine⟨fun x hx=>h1 x (hz x (.inr hx)),fun x hx hv=>?_⟩
     rcases List.mem_cons.1 hx with rfl | hx
     ·exact h1 x (hz x (.inl rfl))
     ·exact h2 x hx hv
theorem resR_sup{a b r:List Int}{v:Int}(h:resR a b v=some r):(∀ x∈a,x≠v→x∈r)∧∀ x∈b,x≠-v→x∈r:=by
 unfold resR at h
 split at h
 ·obtain⟨h1,h2⟩:=specF_sup v b _ r h
  exact⟨fun x hx hv=>h1 x (List.mem_filter.2 ⟨hx,by simpa using hv⟩),h2⟩
 ·cases h
/-- The formula at an index. -/
noncomputable def fAt(s:List (List Int))(p:List Pt)(k y i:Nat):Ft:=(runF s p k y p.length).getD i default
theorem runF_get(s:List (List Int))(p:List Pt)(k y:Nat){j:Nat}:∀ (m:Nat),j≤m→∀ i,i<s.length+j→(runF s p k y m).getD i default=(runF s p k y j).getD i default
 | 0,h,i,hi=>by
  have:j=0:=by omega
  subst this; rfl
 | m+1,h,i,hi=>by
  by_cases e:j=m+1
  ·subst e; rfl
  ·rw[runF_succ,List.getD_eq_getElem?_getD,List.getElem?_append_left (by rw[runF_len]; omega),← List.getD_eq_getElem?_getD]
   exact runF_get s p k y m (by omega) i hi
theorem fAt_base(s:List (List Int))(p:List Pt)(k y:Nat){i:Nat}(hi:i<s.length):fAt s p k y i=baseF s k y i:=by
 unfold fAt
 rw[runF_get s p k y (j:=0) _ (Nat.zero_le _) i hi]
 show((List.range s.length).map (baseF s k y)).getD i default=_
 rw[List.getD_eq_getElem?_getD,List.getElem?_map,List.getElem?_range hi]; rfl
theorem fAt_nxt(s:List (List Int))(p:List Pt)(k y:Nat){j:Nat}(hj:j<p.length):fAt s p k y (s.length+j)=nxtF s p k y j:=by
 unfold fAt
 rw[runF_get s p k y (j:=j+1) _ (by omega) _ (by omega),runF_succ,List.getD_eq_getElem?_getD,List.getElem?_append_right (by rw[runF_len]; exact a7 _),runF_len,Nat.sub_self]; rfl
theorem fAt_step{s:List (List Int)}{p:List Pt}{k y:Nat}{j:Nat}(hj:j<p.length)(q:StepOk s p j):fAt s p k y (s.length+j)=stepF s k y (stp p j).Pivot (fAt s p k y (stp p j).Left.toNat) (fAt s p k y (stp p j).Right.toNat):=by
 have h1:=q.l0
 have h2:=q.l1
 have h3:=q.r0
 have h4:=q.r1
 rw[fAt_nxt s p k y hj]
 unfold nxtF fAt
 rw[runF_get s p k y (j:=j) p.length (by omega) (stp p j).Left.toNat (by omega),runF_get s p k y (j:=j) p.length (by omega) (stp p j).Right.toNat (by omega)]
end
section
/-! ### soundness -/
theorem occ_of{s:List (List Int)}{c:List Int}(hc:c∈s){x:Int}(hx:x∈c)(h:Lit x):occ s (absI x)=true:=by
 obtain⟨h1,h2,_,_⟩:=h.v
 unfold occ
 rw[List.any_eq_true]
 refine⟨c,hc,?_⟩
 rw[Bool.or_eq_true,hasI_iff,hasI_iff,h1]
 split
 ·right; rw[Int.neg_neg]; exact hx
 ·left; exact hx
theorem mem_take_of{s:List (List Int)}{k i:Nat}(hi:i<s.length)(hk:i<k):s.getD i default∈s.take k:=by
 rw[List.getD_eq_getElem?_getD,List.getElem?_eq_getElem hi,Option.getD_some]
 rw[List.mem_iff_getElem]
 exact⟨i,by rw[List.length_take]; omega,by rw[List.getElem_take]⟩
theorem mem_drop_of{s:List (List Int)}{k i:Nat}(hi:i<s.length)(hk:k≤i):s.getD i default∈s.drop k:=by
 rw[List.getD_eq_getElem?_getD,List.getElem?_eq_getElem hi,Option.getD_some]
 rw[List.mem_iff_getElem]
 exact⟨i-k,by rw[List.length_drop]; omega,by rw[List.getElem_drop]; congr 1; omega⟩
/-- Which variables a clause may keep on the first side. -/
def LA(s:List (List Int))(k y:Nat)(v:Int):Prop:=if y=1 then occ (s.drop k) v=false else occ (s.take k) v=true
def LB'(s:List (List Int))(k:Nat)(v:Int):Prop:=occ (s.drop k) v=true
/-- A true literal among a clause's, of a kind. -/
def Tr(p:Int→Bool)(K:Int→Prop)(c:List Int):Prop:=∃ x∈c,p x=true∧K (absI x)
theorem Tr.mono{p:Int→Bool}{K:Int→Prop}{a r:List Int}(h:Tr p K a)(e:∀ x∈a,p x=true→K (absI x)→x∈r):Tr p K r:=by
 obtain⟨x,h1,h2,h3⟩:=h
 exact⟨x,e x h1 h2 h3,h2,h3⟩
structure StepC(n:Nat)(s:List (List Int))(p:List Pt)(j:Nat):Prop where
 sup1:∀ x∈clsAt s p (stp p j).Left.toNat,x≠(stp p j).Pivot→x∈(stp p j).Clause
 sup2:∀ x∈clsAt s p (stp p j).Right.toNat,x≠-(stp p j).Pivot→x∈(stp p j).Clause
 v1:1≤(stp p j).Pivot
 vn:(stp p j).Pivot≤n
theorem absI_pos{v:Int}(h:1≤v):absI v=v:=by unfold absI; rw[if_neg (by omega)]
theorem absI_neg{v:Int}(h:1≤v)(h2:v≤12):absI (-v)=v:=by unfold absI; rw[if_pos (by omega),wrap64 (by omega) (by omega)]; omega
section
variable{s:List (List Int)}{p:List Pt}{k y n:Nat}
theorem stepC(h:In s k y n)(hp:∀ j,j<p.length→StepOk s p j){j:Nat}(hj:j<p.length):StepC n s p j:=by
 have q:=hp j hj
 obtain⟨h1,h2⟩:=resR_sup q.res
 obtain⟨h3,h4⟩:=piv_le h.b hp hj
 exact⟨h1,h2,h3,h4⟩
theorem cls_base(h:In s k y n){i:Nat}(hi:i<s.length):clsAt s p i=s.getD i default:=by unfold clsAt; rw[if_pos hi]
theorem cls_step{j:Nat}:clsAt s p (s.length+j)=(stp p j).Clause:=by
 unfold clsAt; rw[if_neg (by omega),show s.length+j-s.length=j by omega]
/-- By strong induction over the indices. -/
theorem all_at{M:Nat→Prop}(hp:∀ j,j<p.length→StepOk s p j)(hb:∀ i,i<s.length→M i)(hs:∀ j,j<p.length→M (stp p j).Left.toNat→M (stp p j).Right.toNat→M (s.length+j)):∀ i,i<s.length+p.length→M i:=by
 intro i
 induction i using Nat.strongRecOn with
 | ind i ih=>
  intro hi
  by_cases g:i<s.length
  ·exact hb i g
  ·have q:=hp (i-s.length) (by omega)
   have h1:=q.l0
   have h2:=q.l1
   have h3:=q.r0
   have h4:=q.r1
   have:=hs (i-s.length) (by omega) (ih _ (by omega) (by omega)) (ih _ (by omega) (by omega))
   rwa [show s.length+(i-s.length)=i by omega] at this
theorem keep_ev{t:Int→Bool}(h:In s k y n)(ht:Cons t n){i:Nat}(hi:i<s.length):(clF (keep s k (s.getD i default))).ev t=(keep s k (s.getD i default)).any t:=by
 have hc:=h.cl _ (getD_mem hi)
 have hb:=h.b _ (getD_mem hi)
 unfold clF
 rw[join_ev,List.any_map]
 rw[Bool.eq_iff_iff,List.any_eq_true,List.any_eq_true]
 have key:∀ x∈keep s k (s.getD i default),(litF x).ev t=t x:=fun x hx=>by
  have hx':=(List.mem_filter.1 hx).1
  exact lit_ev ht (hc.lit x hx') (hb x hx')
 constructor
 ·rintro ⟨x,h1,h2⟩; exact⟨x,h1,by rw[← key x h1]; exact h2⟩
 ·rintro ⟨x,h1,h2⟩; exact⟨x,h1,by show(litF x).ev t=true; rw[key x h1]; exact h2⟩
theorem sat_lit{a:List (List Int)}{t:Int→Bool}{c:List Int}(hs:a.all (fun c=>c.any t)=true)(hc:c∈a):∃ x∈c,t x=true:=by
 rw[bc] at hs
 exact List.any_eq_true.1 (hs c hc)
theorem sideA{t:Int→Bool}(h:In s k y n)(ht:Cons t n)(hp:∀ j,j<p.length→StepOk s p j)(hA:(s.take k).all (fun c=>c.any t)=true):∀ i,i<s.length+p.length→(fAt s p k y i).ev t=false→Tr t (LA s k y) (clsAt s p i):=by
 refine all_at hp (fun i hi=>?_) (fun j hj h1 h2=>?_)
 ·rw[fAt_base s p k y hi,cls_base h hi]
  have hc:=h.cl _ (getD_mem hi)
  unfold baseF
  split
  ·intro e; rw[ev_con1 t rfl] at e; cases e
  ·rename_i hk
   obtain⟨x,x1,x2⟩:=sat_lit hA (mem_take_of hi (by omega))
   have o:=occ_of (mem_take_of hi (show i<k by omega)) x1 (hc.lit x x1)
   split
   ·rename_i ey
    intro e
    rw[keep_ev h ht hi,List.any_eq_false] at e
    refine⟨x,x1,x2,?_⟩
    unfold LA
    rw[if_pos ey]
    cases g:occ (s.drop k) (absI x)
    ·rfl
    ·exact absurd x2 (e x (List.mem_filter.2 ⟨x1,g⟩))
   ·rename_i ey
    intro _
    refine⟨x,x1,x2,?_⟩
    unfold LA
    rw[if_neg ey]; exact o
 ·have q:=stepC h hp hj
  have hv:=q.v1
  have hn:=h.nl
  have hvn:=q.vn
  have neg:=ht _ hv hvn
  rw[fAt_step hj (hp j hj),cls_step]
  unfold stepF
  generalize fAt s p k y (stp p j).Left.toNat=F at h1
  generalize fAt s p k y (stp p j).Right.toNat=G at h2
  generalize hvv:(stp p j).Pivot=v at q hv hvn neg
  have s1:=q.sup1
  have s2:=q.sup2
  rw[hvv] at s1 s2
  have av:=absI_pos hv
  have an:=absI_neg hv (by omega)
  -- a side's literal that is not the pivot
  have l1:Tr t (LA s k y) (clsAt s p (stp p j).Left.toNat)→(t v=false∨¬ LA s k y v)→Tr t (LA s k y) (stp p j).Clause:=fun T o=>T.mono fun x x1 x2 x3=>s1 x x1 fun e=>by
   subst e
   rcases o with o | o
   ·rw[o] at x2; cases x2
   ·rw[av] at x3; exact o x3
  have l2:Tr t (LA s k y) (clsAt s p (stp p j).Right.toNat)→(t v=true∨¬ LA s k y v)→Tr t (LA s k y) (stp p j).Clause:=fun T o=>T.mono fun x x1 x2 x3=>s2 x x1 fun e=>by
   subst e
   rcases o with o | o
   ·rw[neg,o] at x2; cases x2
   ·rw[an] at x3; exact o x3
  split
  ·rename_i hB
   split
   ·rename_i hA2
    split
    ·rename_i ey
     have no:¬ LA s k y v:=by unfold LA; rw[if_pos ey,hB]; simp
     rw[and_ev,Bool.and_eq_false_iff]
     rintro (e | e)
     ·exact l1 (h1 e) (.inr no)
     ·exact l2 (h2 e) (.inr no)
    ·rw[and_ev,or_ev,or_ev,lit_ev ht (lit_v ⟨hv,by omega⟩).1 (by rw[av]; exact hvn),lit_ev ht (lit_v ⟨hv,by omega⟩).2 (by rw[an]; exact hvn),Bool.and_eq_false_iff,Bool.or_eq_false_iff,Bool.or_eq_false_iff,neg]
     rintro (⟨e,e2⟩ | ⟨e,e2⟩)
     ·exact l1 (h1 e2) (.inl e)
     ·exact l2 (h2 e2) (.inl (by simpa using e))
   ·rename_i hA2
    have hA3:occ (s.take k) v=false:=by simpa using hA2
    have no:¬ LA s k y v:=by
     unfold LA
     split
     ·rw[hB]; simp
     ·rw[hA3]; simp
    rw[and_ev,Bool.and_eq_false_iff]
    rintro (e | e)
    ·exact l1 (h1 e) (.inr no)
    ·exact l2 (h2 e) (.inr no)
  ·rw[or_ev,Bool.or_eq_false_iff]
   rintro ⟨e1,e2⟩
   cases tv:t v
   ·exact l1 (h1 e1) (.inl tv)
   ·exact l2 (h2 e2) (.inl tv)
theorem sideB{t:Int→Bool}(h:In s k y n)(ht:Cons t n)(hp:∀ j,j<p.length→StepOk s p j)(hB:(s.drop k).all (fun c=>c.any t)=true):∀ i,i<s.length+p.length→(fAt s p k y i).ev t=true→Tr t (LB' s k) (clsAt s p i):=by
 refine all_at hp (fun i hi=>?_) (fun j hj h1 h2=>?_)
 ·rw[fAt_base s p k y hi,cls_base h hi]
  have hc:=h.cl _ (getD_mem hi)
  unfold baseF
  split
  ·rename_i hk
   intro _
   obtain⟨x,x1,x2⟩:=sat_lit hB (mem_drop_of hi hk)
   exact⟨x,x1,x2,occ_of (mem_drop_of hi hk) x1 (hc.lit x x1)⟩
  ·split
   ·intro e
    rw[keep_ev h ht hi,List.any_eq_true] at e
    obtain⟨x,x1,x2⟩:=e
    exact⟨x,(List.mem_filter.1 x1).1,x2,(List.mem_filter.1 x1).2⟩
   ·intro e; rw[ev_con2 t rfl] at e; cases e
 ·have q:=stepC h hp hj
  have hv:=q.v1
  have hn:=h.nl
  have hvn:=q.vn
  have neg:=ht _ hv hvn
  rw[fAt_step hj (hp j hj),cls_step]
  unfold stepF
  generalize fAt s p k y (stp p j).Left.toNat=F at h1
  generalize fAt s p k y (stp p j).Right.toNat=G at h2
  generalize hvv:(stp p j).Pivot=v at q hv hvn neg
  have s1:=q.sup1
  have s2:=q.sup2
  rw[hvv] at s1 s2
  have av:=absI_pos hv
  have an:=absI_neg hv (by omega)
  have l1:Tr t (LB' s k) (clsAt s p (stp p j).Left.toNat)→(t v=false∨¬ LB' s k v)→Tr t (LB' s k) (stp p j).Clause:=fun T o=>T.mono fun x x1 x2 x3=>s1 x x1 fun e=>by
   subst e
   rcases o with o | o
   ·rw[o] at x2; cases x2
   ·rw[av] at x3; exact o x3
  have l2:Tr t (LB' s k) (clsAt s p (stp p j).Right.toNat)→(t v=true∨¬ LB' s k v)→Tr t (LB' s k) (stp p j).Clause:=fun T o=>T.mono fun x x1 x2 x3=>s2 x x1 fun e=>by
   subst e
   rcases o with o | o
   ·rw[neg,o] at x2; cases x2
   ·rw[an] at x3; exact o x3
  have both:Tr t (LB' s k) (clsAt s p (stp p j).Left.toNat)→Tr t (LB' s k) (clsAt s p (stp p j).Right.toNat)→Tr t (LB' s k) (stp p j).Clause:=fun T1 T2=>by
   cases tv:t v
   ·exact l1 T1 (.inl tv)
   ·exact l2 T2 (.inl tv)
  split
  ·split
   ·split
    ·rw[and_ev,aD]
     rintro ⟨e1,e2⟩
     exact both (h1 e1) (h2 e2)
    ·rw[and_ev,or_ev,or_ev,lit_ev ht (lit_v ⟨hv,by omega⟩).1 (by rw[av]; exact hvn),lit_ev ht (lit_v ⟨hv,by omega⟩).2 (by rw[an]; exact hvn),aD,Bool.or_eq_true,Bool.or_eq_true,neg]
     rintro ⟨e1,e2⟩
     cases tv:t v
     ·rw[tv] at e1
      exact l1 (h1 (e1.resolve_left (by simp))) (.inl tv)
     ·rw[tv] at e2
      exact l2 (h2 (e2.resolve_left (by simp))) (.inl tv)
   ·rw[and_ev,aD]
    rintro ⟨e1,e2⟩
    exact both (h1 e1) (h2 e2)
  ·rename_i hB2
   have no:¬ LB' s k v:=hB2
   rw[or_ev,Bool.or_eq_true]
   rintro (e | e)
   ·exact l1 (h1 e) (.inr no)
   ·exact l2 (h2 e) (.inr no)
/-- The variables of the formulas occur on both sides. -/
def Sh(s:List (List Int))(k:Nat)(v:Int):Prop:=occ (s.take k) v=true∧occ (s.drop k) v=true
theorem vars_at(h:In s k y n)(hp:∀ j,j<p.length→StepOk s p j):∀ i,i<s.length+p.length→VF (Sh s k) (fAt s p k y i):=by
 refine all_at hp (fun i hi=>?_) (fun j hj h1 h2=>?_)
 ·rw[fAt_base s p k y hi]
  have hc:=h.cl _ (getD_mem hi)
  unfold baseF
  split
  ·exact VF.con _ (.inl rfl)
  ·rename_i hk
   split
   ·refine VF.join fun f hf=>?_
    obtain⟨x,hx,rfl⟩:=List.mem_map.1 hf
    obtain⟨x1,x2⟩:=List.mem_filter.1 hx
    exact VF.lit (hc.lit x x1) ⟨occ_of (mem_take_of hi (by omega)) x1 (hc.lit x x1),x2⟩
   ·exact VF.con _ (.inr rfl)
 ·have q:=stepC h hp hj
  have hv:=q.v1
  have hn:=h.nl
  have hvn:=q.vn
  have av:=absI_pos hv
  have an:=absI_neg hv (by omega)
  rw[fAt_step hj (hp j hj)]
  unfold stepF
  split
  ·rename_i hB
   split
   ·rename_i hA
    split
    ·exact VF.and h1 h2
    ·exact VF.and (VF.or (VF.lit (lit_v ⟨hv,by omega⟩).1 (by rw[av]; exact⟨hA,hB⟩)) h1) (VF.or (VF.lit (lit_v ⟨hv,by omega⟩).2 (by rw[an]; exact⟨hA,hB⟩)) h2)
   ·exact VF.and h1 h2
  ·exact VF.or h1 h2
end
/-- McMillan's formulas imply Pudlak's. -/
theorem mc_pud{s:List (List Int)}{p:List Pt}{k n:Nat}{t:Int→Bool}(h:In s k 1 n)(ht:Cons t n)(hp:∀ j,j<p.length→StepOk s p j):∀ i,i<s.length+p.length→(fAt s p k 1 i).ev t=true→(fAt s p k 2 i).ev t=false→Tr t (Sh s k) (clsAt s p i):=by
 refine all_at hp (fun i hi=>?_) (fun j hj h1 h2=>?_)
 ·rw[fAt_base s p k 1 hi,fAt_base s p k 2 hi,cls_base h hi]
  have hc:=h.cl _ (getD_mem hi)
  unfold baseF
  split
  ·intro _ e; rw[ev_con1 t rfl] at e; cases e
  ·rename_i hk
   rw[if_pos rfl]
   intro e _
   rw[keep_ev h ht hi,List.any_eq_true] at e
   obtain⟨x,x1,x2⟩:=e
   obtain⟨x3,x4⟩:=List.mem_filter.1 x1
   exact⟨x,x3,x2,occ_of (mem_take_of hi (by omega)) x3 (hc.lit x x3),x4⟩
 ·have q:=stepC h hp hj
  have hv:=q.v1
  have hn:=h.nl
  have hvn:=q.vn
  have neg:=ht _ hv hvn
  rw[fAt_step hj (hp j hj),fAt_step hj (hp j hj),cls_step]
  unfold stepF
  generalize fAt s p k 1 (stp p j).Left.toNat=F1 at h1
  generalize fAt s p k 1 (stp p j).Right.toNat=G1 at h2
  generalize fAt s p k 2 (stp p j).Left.toNat=F2 at h1
  generalize fAt s p k 2 (stp p j).Right.toNat=G2 at h2
  generalize hvv:(stp p j).Pivot=v at q hv hvn neg
  have s1:=q.sup1
  have s2:=q.sup2
  rw[hvv] at s1 s2
  have av:=absI_pos hv
  have an:=absI_neg hv (by omega)
  have l1:Tr t (Sh s k) (clsAt s p (stp p j).Left.toNat)→(t v=false∨¬ Sh s k v)→Tr t (Sh s k) (stp p j).Clause:=fun T o=>T.mono fun x x1 x2 x3=>s1 x x1 fun e=>by
   subst e
   rcases o with o | o
   ·rw[o] at x2; cases x2
   ·rw[av] at x3; exact o x3
  have l2:Tr t (Sh s k) (clsAt s p (stp p j).Right.toNat)→(t v=true∨¬ Sh s k v)→Tr t (Sh s k) (stp p j).Clause:=fun T o=>T.mono fun x x1 x2 x3=>s2 x x1 fun e=>by
   subst e
   rcases o with o | o
   ·rw[neg,o] at x2; cases x2
   ·rw[an] at x3; exact o x3
  split
  ·split
   ·rw[if_pos rfl,if_neg (by omega),and_ev,and_ev,or_ev,or_ev,lit_ev ht (lit_v ⟨hv,by omega⟩).1 (by rw[av]; exact hvn),lit_ev ht (lit_v ⟨hv,by omega⟩).2 (by rw[an]; exact hvn),aD,Bool.and_eq_false_iff,Bool.or_eq_false_iff,Bool.or_eq_false_iff,neg]
    rintro ⟨m1,m2⟩ (⟨e,e2⟩ | ⟨e,e2⟩)
    ·exact l1 (h1 m1 e2) (.inl e)
    ·exact l2 (h2 m2 e2) (.inl (by simpa using e))
   ·rename_i hA
    have no:¬ Sh s k v:=fun g=>hA g.1
    rw[and_ev,and_ev,aD,Bool.and_eq_false_iff]
    rintro ⟨m1,m2⟩ (e | e)
    ·exact l1 (h1 m1 e) (.inr no)
    ·exact l2 (h2 m2 e) (.inr no)
  ·rename_i hB
   have no:¬ Sh s k v:=fun g=>hB g.2
   rw[or_ev,or_ev,Bool.or_eq_true,Bool.or_eq_false_iff]
   rintro (m | m) ⟨e1,e2⟩
   ·exact l1 (h1 m e1) (.inr no)
   ·exact l2 (h2 m e2) (.inr no)
end
section
theorem has_asgN{n:Nat}{q:Nat→Bool}{x:Int}(h1:1≤x)(h2:x≤n):hasI (asg n q) (-x)=!q (x.toNat-1):=by
 unfold hasI asg
 rw[Bool.eq_iff_iff,decide_eq_true_iff,List.mem_map,Bool.not_eq_true']
 constructor
 ·rintro ⟨j,hj,e⟩
  cases hq:q j with
  | true=>rw[hq,cond_true] at e; omega
  | false=>rw[hq,cond_false] at e; rw[← hq]; congr 1; omega
 ·intro hq
  refine⟨x.toNat-1,by simp; omega,?_⟩
  rw[hq,cond_false]; omega
theorem cons_asg(n:Nat)(q:Nat→Bool):Cons (hasI (asg n q)) n:=fun x h1 h2=>by rw[has_asgN h1 h2,has_asg h1 h2]
/-- What is known where a run answers. -/
structure Ran(s:List (List Int))(p:List Pt)(k y n:Nat)(f:Ft):Prop where
 inn:In s k y n
 ok:∀ j,j<p.length→StepOk s p j
 pos:1≤p.length
 last:(stp p (p.length-1)).Clause=[]
 eq:f=fAt s p k y (s.length+(p.length-1))
 vf:validF f=true
theorem getD_drop{α:Type}(L:List α)(a i:Nat)(d:α):(L.drop a).getD i d=L.getD (a+i) d:=by
 rw[List.getD_eq_getElem?_getD,List.getD_eq_getElem?_getD,List.getElem?_drop]
theorem step_full(s:List (List Int))(p:List Pt)(a2 a3:Int)(hs:OkC s):∃ r,spec_StepInterpolants s p a2 a3=some r∧impl_StepInterpolants s p a2 a3=some r∧Fin r∧(r.2=true→∃ k y n:Nat,a2=(k:Int)∧a3=(y:Int)∧Ran s p k y n (r.1.getD (r.1.length-1) default)):=by
 have no:Fin (([],false):List Ft×Bool):=⟨fun f hf=>(nomatch hf),Nat.zero_le _,fun e=>(nomatch e)⟩
 have no2:(([],false):List Ft×Bool).2=true→∃ k y n:Nat,a2=(k:Int)∧a3=(y:Int)∧Ran s p k y n ((([],false):List Ft×Bool).1.getD ((([],false):List Ft×Bool).1.length-1) default):=fun e=>(nomatch e)
 unfold spec_StepInterpolants spec_l15Steps impl_StepInterpolants impl_isPropRefutation impl_isSplit
 rw[l15Set_eq s hs,check_impl hs,l1In_eq,l1In_eq,l1In_eq,within_eq,within_eq,valid_impl s hs]
 simp only[ai]
 cases hv:validC s
 ·exact⟨_,rfl,rfl,no,no2⟩
 cases hpl:inR (p.length:Int) 1 200
 ·exact⟨_,rfl,rfl,no,no2⟩
 rw[inR_iff] at hpl
 have hcl:=valid_cl hs hv
 have hlen:=valid_len hv
 simp only[cond_true,ai,Bool.and_self]
 rw[check_spec hcl hlen (by omega),ai]
 rcases chk_neg (s:=s) (p:=p) with hc | ⟨hc,hp⟩
 ·rw[decide_eq_true hc,decide_eq_false (by omega)]; exact⟨_,rfl,rfl,no,no2⟩
 have hlast:(stp p (p.length-1)).Clause=[]:=by
  unfold chk at hc
  split at hc
  ·omega
  ·by_cases g:0<(stp p (p.length-1)).Clause.length
   ·rw[if_pos g] at hc; omega
   ·exact List.length_eq_zero_iff.1 (by omega)
 rw[hc,decide_eq_true rfl,decide_eq_false (by omega)]
 simp only[cond_true,cond_false]
 cases h2:inR a2 0 (s.length:Int)
 ·exact⟨_,rfl,rfl,no,no2⟩
 cases h3:inR a3 1 2
 ·exact⟨_,rfl,rfl,no,no2⟩
 rw[inR_iff] at h2 h3
 simp only[cond_true]
 have hg:=valid_good hs hv
 obtain⟨n,hmost,hn,hb⟩:=most_ok hg
 obtain⟨k,rfl⟩:∃ k:Nat,a2=(k:Int):=⟨a2.toNat,by omega⟩
 obtain⟨y,rfl⟩:∃ y:Nat,a3=(y:Int):=⟨a3.toNat,by omega⟩
 have hin:In s k y n:=⟨hcl,hlen,hg,by omega,by omega,hmost,hn,hb⟩
 have hL:=stepR_LB hin hp
 obtain⟨w,w1,w2,w3⟩:=partial_spec hin hp (by omega)
 refine⟨stepR s p k y,?_,?_,⟨hL.1,by have:=hL.2.1; omega,fun e=>by rw[(hL.2.2.1 e).2]; omega⟩,fun e=>⟨k,y,n,rfl,rfl,hin,hp,by omega,hlast,?_,?_⟩⟩
 ·rw[w1,ai]
  cases e:w.2
  ·have:=hL.2.2.2 (by rw[← w2,e])
   rw[cond_false]
   rw[← this,← e,w2]
  ·have:=hL.2.2.1 (by rw[← w2,e])
   have len:=runF_len s p k y p.length
   rw[cond_true,w3 e,tail_spec (by omega) (by omega) (fun f hf=>(hL.1 f (by rw[this.1]; exact hf)).t (by omega)),← this.1,← e,w2]
 ·rw[colors_eq hg hmost hn hb,ai]
  exact steps_impl hin hp (by omega)
 ·rw[(hL.2.2.1 e).2,(hL.2.2.1 e).1,getD_drop]; rfl
 ·have e2:=(hL.2.2.1 e).1
  rw[(hL.2.2.1 e).2,e2,getD_drop]
  show validF (fAt s p k y (s.length+(p.length-1)))=true
  rw[fAt_nxt s p k y (by omega)]
  unfold stepR at e
  cases ef:ffail (fun j=>validF (nxtF s p k y j)) p.length 0 with
  | none=>exact ffail_none ef _ (Nat.zero_le _) (by omega)
  | some j=>rw[ef] at e; cases e
def lastR(r:List Ft×Bool):Ft×Bool:=bif r.2 then(r.1.getD (r.1.length-1) default,true) else(conF 0,false)
theorem last_full(s:List (List Int))(p:List Pt)(a2 a3:Int)(hs:OkC s):∃ q,spec_Interpolant s p a2 a3=some q∧impl_Interpolant s p a2 a3=some q∧LB 40 q.1∧(q.2=true→∃ k y n:Nat,a2=(k:Int)∧a3=(y:Int)∧Ran s p k y n q.1):=by
 obtain⟨r,g1,g2,g3,g4⟩:=step_full s p a2 a3 hs
 refine⟨lastR r,?_,?_,?_,?_⟩
 ·unfold spec_Interpolant lastR
  rw[g1,ai]
  cases e:r.2
  ·rfl
  ·have:=g3.pos e
   have:=g3.len
   rw[cond_true,wrap64 (by omega) (by omega),show(r.1.length:Int)-1=((r.1.length-1:Nat):Int) by omega,idx_getD (by omega)]; rfl
 ·unfold impl_Interpolant lastR
  rw[g2,ai]
  cases e:r.2
  ·rfl
  ·have:=g3.pos e
   have:=g3.len
   rw[cond_true,wrap64 (by omega) (by omega),show(r.1.length:Int)-1=((r.1.length-1:Nat):Int) by omega,idx_getD (by omega)]; rfl
 ·unfold lastR
  cases e:r.2
  ·exact(conF_LB (by simp[InR])).mono (by omega)
  ·have:=g3.pos e
   exact g3.lb _ (getD_mem (by omega))
 ·unfold lastR
  cases e:r.2
  ·exact fun e=>(nomatch e)
  ·exact fun _=>g4 e
/-! ### what an interpolant means -/
section
variable{s:List (List Int)}{p:List Pt}{k y n:Nat}{f:Ft}
theorem Ran.i(h:Ran s p k y n f):s.length+(p.length-1)<s.length+p.length:=by have:=h.pos; omega
theorem Ran.c(h:Ran s p k y n f):clsAt s p (s.length+(p.length-1))=[]:=by rw[cls_step,h.last]
theorem Tr.no{t:Int→Bool}{K:Int→Prop}(h:Tr t K []):False:=by obtain⟨x,hx,_⟩:=h; cases hx
theorem Ran.vs(h:Ran s p k y n f):VF (Sh s k) f:=by rw[h.eq]; exact vars_at h.inn h.ok _ h.i
theorem Ran.okF(h:Ran s p k y n f):okF f=true:=by unfold Go.Proofs.YtmfpijomelhccaaGreatDoor.okF; rw[h.vf,h.vs.1]; rfl
theorem Ran.bad(h:Ran s p k y n f){t:Int→Bool}(ht:Cons t n):(bif f.ev t then(s.drop k).all (fun c=>c.any t) else(s.take k).all (fun c=>c.any t))=false:=by
 have e:=h.eq
 cases ev:f.ev t
 ·rw[cond_false]
  cases g:(s.take k).all (fun c=>c.any t)
  ·rfl
  ·rw[e] at ev
   have:=sideA h.inn ht h.ok g _ h.i ev
   rw[h.c] at this; exact this.no.elim
 ·rw[cond_true]
  cases g:(s.drop k).all (fun c=>c.any t)
  ·rfl
  ·rw[e] at ev
   have:=sideB h.inn ht h.ok g _ h.i ev
   rw[h.c] at this; exact this.no.elim
theorem Ran.imp{g:Ft}(h:Ran s p k 1 n f)(h2:Ran s p k 2 n g){t:Int→Bool}(ht:Cons t n):(f.ev t&&!g.ev t)=false:=by
 cases e1:f.ev t
 ·rfl
 ·cases e2:g.ev t
  ·rw[h.eq] at e1
   rw[h2.eq] at e2
   have:=mc_pud h.inn ht h.ok _ h.i e1 e2
   rw[h.c] at this; exact this.no.elim
  ·rfl
theorem Ran.valid(h:Ran s p k y n f):validC s=true:=by
 unfold validC
 rw[aD,decide_eq_true_iff,bc]
 exact⟨h.inn.len,fun c hc=>(h.inn.cl c hc).b⟩
end
end
end Go.Proofs.YtmfpijomelhccaaGreatDoor
