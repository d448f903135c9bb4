/- Lemmas of the proof; each says what it shows. -/
import Derived.Test.YtlaeidlohpehhaaGp
import Derived.Test.YtlaeidlohpehhaaAvS
import Derived.Test.YtlaeidlohpehhaaAvFs
import Derived.Test.YtlaeidlohpehhaaGm
set_option linter.unusedSimpArgs false
set_option linter.unusedVariables false
set_option linter.defProp false
namespace Go.Proofs.Ytlaeidlohpehhaa
open Go.Av
open Bool renaming and_eq_true→aC
open Ft renaming Parts_mk→aY
open List renaming map_cons→aG,sum_cons→a9,length_cons→aZ,length_nil→bB,length_append→aU,mem_cons→bg
open Nat renaming le_refl→aS
open Option renaming bind_some→al,bind→ae
open SizeOf renaming sizeOf→aF
section
theorem within_eq(a lo hi:Int):impl_within a lo hi=some (inR a lo hi):=cond_inR a lo hi
theorem l1In_eq(a lo hi:Int):spec_l1In a lo hi=some (inR a lo hi):=cond_inR a lo hi
def cLow(c:Int):Bool:=inR c 97 122
def cUp(c:Int):Bool:=inR c 65 90
def cDig(c:Int):Bool:=inR c 48 57
theorem isLower_eq(c:Int):impl_isLower c=some (cLow c):=cond_inR c 97 122
theorem isUpper_eq(c:Int):impl_isUpper c=some (cUp c):=cond_inR c 65 90
theorem isDigit_eq(c:Int):impl_isDigit c=some (cDig c):=cond_inR c 48 57
theorem l2Small_eq(c:Int):spec_l2Small c=some (cLow c||cDig c):=by
 unfold spec_l2Small cLow cDig inR
 by_cases h1:(97:Int)≤c<;>by_cases h2:c≤(122:Int)<;>by_cases h3:(48:Int)≤c<;>by_cases h4:c≤(57:Int)<;>simp[h1,h2,h3,h4]
def varC(s:ByteArray)(j:Nat):Bool:=if j=0 then cUp (byt s 0) else(cLow (byt s j)||cDig (byt s j))
def isVarS(s:ByteArray):Bool:=inR (s.size:Int) 1 4&&(List.range s.size).all (varC s)
theorem isVariable_eq(s:ByteArray)(hb:Big s.size):impl_isVariable s=some (isVarS s):=by
 unfold impl_isVariable
 rw[bnd_nat hb,al,forN_all (varC s)]
 ·simp only[within_eq,al,isVarS]
  cases (List.range s.size).all (varC s)<;>cases inR (s.size:Int) 1 4<;>rfl
 ·intro j hj _
  simp only[sidx_nat hj,al,isUpper_eq,isLower_eq,isDigit_eq,varC]
  by_cases h0:j=0
  ·subst h0
   cases cUp (byt s 0)<;>rfl
  ·have h1:¬ ((j:Int)=0):=by omega
   have h2:(0:Int)<(j:Int):=by omega
   rw[decide_eq_false h1,decide_eq_true h2,if_neg h0]
   cases cLow (byt s j)<;>cases cDig (byt s j)<;>rfl
theorem l2Var_eq(s:ByteArray)(hb:Big s.size):spec_l2Var s=some (isVarS s):=by
 unfold spec_l2Var
 rw[l1In_eq,al]
 unfold isVarS
 cases hr:inR (s.size:Int) 1 4
 ·rfl
 ·have hs:0<s.size:=by have:=inR_iff.1 hr; omega
  simp only[cond_true,Bool.true_and]
  rw[sidx0 hs,al]
  by_cases h0:cUp (byt s 0)=true
  ·have hu:=inR_iff.1 h0
   rw[decide_eq_false (by omega),cond_false,al,decide_eq_false (by omega),cond_false,bnd_nat hb,al,forN_all1 (varC s) hs (by simp[varC,h0])]
   ·cases (List.range s.size).all (varC s)<;>rfl
   ·intro j hj0 hj _
    simp only[sidx_nat hj,al,l2Small_eq,varC]
    rw[if_neg (by omega)]
    cases (cLow (byt s j)||cDig (byt s j))<;>rfl
  ·have h1:(List.range s.size).all (varC s)=false:=List.all_eq_false.2 ⟨0,by simp; omega,by simp[varC,h0]⟩
   rw[h1]
   have hu:¬ (65≤byt s 0∧byt s 0≤90):=by intro g; exact h0 (inR_iff.2 g)
   by_cases g:byt s 0<65
   ·rw[decide_eq_true g]; rfl
   ·rw[decide_eq_false g,cond_false,al,decide_eq_true (by omega)]; rfl
def resv:List ByteArray:=[(⟨#[116,114,117,101]⟩:ByteArray),(⟨#[102,97,108,115,101]⟩:ByteArray),(⟨#[116,114,117,116,104]⟩:ByteArray),(⟨#[98,111,116,104]⟩:ByteArray),(⟨#[101,105,116,104,101,114]⟩:ByteArray),(⟨#[105,102]⟩:ByteArray),(⟨#[97,108,108]⟩:ByteArray),(⟨#[115,111,109,101]⟩:ByteArray)]
def symC(s:ByteArray)(j:Nat):Bool:=if j=0 then cLow (byt s 0) else(cLow (byt s j)||cDig (byt s j)||decide (byt s j=95))
def isSymS(s:ByteArray):Bool:=inR (s.size:Int) 1 6&&(List.range s.size).all (symC s)&&!resv.any (fun v=>decide (s=v))
theorem Contains_str(xs:List ByteArray)(s:ByteArray):slices_Contains_Sstring_string xs s=some (xs.any (fun v=>decide (s=v))):=by
 unfold slices_Contains_Sstring_string slices_Index_Sstring_string
 obtain⟨r,h1,h2⟩:=forN_find (n:=xs.length) (p:=fun i=>decide (s=xs.getD i default)) (f:=fun i2 s2=>(idx xs (i2:Int)).bind fun v14=>bif decide (s=v14) then some (.rt (i2:Int)) else some (.nx ())) (fun j hj=>by
  simp only[idx_getD hj,al]
  cases decide (s=xs.getD j default)<;>rfl)
 rw[h1,al,h2,range_any_list xs (fun v=>decide (s=v))]
theorem isSymbol_eq(s:ByteArray)(hb:Big s.size):impl_isSymbol s=some (isSymS s):=by
 unfold impl_isSymbol
 rw[bnd_nat hb,al,forN_all (symC s)]
 ·simp only[within_eq,al,isSymS,impl_reserved,Contains_str]
  rw[show resv.any (fun v=>decide (s=v))=_ from rfl]
  unfold resv
  cases (List.range s.size).all (symC s)<;>cases inR (s.size:Int) 1 6<;>rfl
 ·intro j hj _
  simp only[sidx_nat hj,al,isLower_eq,isDigit_eq,symC]
  by_cases h0:j=0
  ·subst h0
   cases cLow (byt s 0)<;>rfl
  ·have h1:¬ ((j:Int)=0):=by omega
   rw[decide_eq_false h1,if_neg h0]
   cases cLow (byt s j)<;>cases cDig (byt s j)<;>cases decide (byt s j=95)<;>rfl
theorem l2Symbol_eq(s:ByteArray)(hb:Big s.size):spec_l2Symbol s=some (isSymS s):=by
 unfold spec_l2Symbol
 rw[l1In_eq,al]
 unfold isSymS
 cases hr:inR (s.size:Int) 1 6
 ·rfl
 ·have hs:0<s.size:=by have:=inR_iff.1 hr; omega
  simp only[cond_true,Bool.true_and]
  rw[sidx0 hs,al]
  by_cases h0:cLow (byt s 0)=true
  ·have hu:=inR_iff.1 h0
   rw[decide_eq_false (by omega),cond_false,al,decide_eq_false (by omega),cond_false,bnd_nat hb,al,forN_all1 (symC s) hs (by simp[symC,h0])]
   ·simp only[resv,List.any_cons,List.any_nil,Bool.or_false]
    generalize decide (s=_)=b1
    generalize decide (s=_)=b2
    generalize decide (s=_)=b3
    generalize decide (s=_)=b4
    generalize decide (s=_)=b5
    generalize decide (s=_)=b6
    generalize decide (s=_)=b7
    generalize decide (s=_)=b8
    cases (List.range s.size).all (symC s)<;>cases b1<;>cases b2<;>cases b3<;>cases b4<;>cases b5<;>cases b6<;>cases b7<;>cases b8<;>rfl
   ·intro j hj0 hj _
    simp only[sidx_nat hj,al,l2Small_eq,symC]
    rw[if_neg (by omega)]
    cases (cLow (byt s j)||cDig (byt s j))<;>cases decide (byt s j=95)<;>rfl
  ·have h1:(List.range s.size).all (symC s)=false:=List.all_eq_false.2 ⟨0,by simp; omega,by simp[symC,h0]⟩
   rw[h1]
   have hu:¬ (97≤byt s 0∧byt s 0≤122):=by intro g; exact h0 (inR_iff.2 g)
   by_cases g:byt s 0<97
   ·rw[decide_eq_true g]; rfl
   ·rw[decide_eq_false g,cond_false,al,decide_eq_true (by omega)]; rfl
end
section
mutual
def Tt.cnt:Tt→Nat
 | .mk _ l=>1+Tt.cnts l
def Tt.cnts:List Tt→Nat
 | []=>0
 | a::l=>a.cnt+Tt.cnts l
end
theorem Tt.cnts_eq(l:List Tt):Tt.cnts l=(l.map Tt.cnt).sum:=by
 induction l with
 | nil=>rfl
 | cons a l ih=>rw[Tt.cnts,ih,aG,a9]
theorem Tt.cnt_mk(x:ByteArray)(l:List Tt):(Tt.mk x l).cnt=1+(l.map Tt.cnt).sum:=by rw[Tt.cnt,Tt.cnts_eq]
mutual
def Tt.dep:Tt→Nat
 | .mk _ l=>1+Tt.deps l
def Tt.deps:List Tt→Nat
 | []=>0
 | a::l=>max a.dep (Tt.deps l)
end
theorem Tt.dep_mk(x:ByteArray)(l:List Tt):(Tt.mk x l).dep=1+Tt.deps l:=by rw[Tt.dep]
theorem Tt.cnt_tot(t:Tt):t.cnt≤1+t.tot:=by
 refine Tt.ind (M:=fun t=>t.cnt≤1+t.tot) (fun x l ih=>?_) t
 rw[Tt.cnt_mk,Tt.tot_mk]
 have:(l.map Tt.cnt).sum≤ltot Tt.tot l:=by
  clear x
  induction l with
  | nil=>simp[ltot]
  | cons a l ihl=>
   have h1:=ih a (by simp)
   have h2:=ihl (fun b hb=>ih b (by simp[hb]))
   simp only[ltot,aG,a9,aZ] at h2 ⊢
   omega
 omega
theorem Tt.dep_cnt(t:Tt):t.dep≤t.cnt:=by
 refine Tt.ind (M:=fun t=>t.dep≤t.cnt) (fun x l ih=>?_) t
 rw[Tt.cnt_mk,Tt.dep_mk]
 have:Tt.deps l≤(l.map Tt.cnt).sum:=by
  clear x
  induction l with
  | nil=>simp[Tt.deps]
  | cons a l ihl=>
   have h1:=ih a (by simp)
   have h2:=ihl (fun b hb=>ih b (by simp[hb]))
   simp only[Tt.deps,aG,a9]
   omega
 omega
theorem Tt.cnt_pos(t:Tt):1≤t.cnt:=by cases t; rw[Tt.cnt_mk]; omega
/-- A sum that stops when it is too great. -/
def Cap(L c:Nat)(r:Int):Prop:=1≤r∧r≤c∧(c≤L→r=c)∧(L<c→L<r)
theorem Cap.le{L c:Nat}{r:Int}(h:Cap L c r):decide (r≤(L:Int))=decide (c≤L):=by
 by_cases e:c≤L
 ·have:=h.2.2.1 e; rw[decide_eq_true e,decide_eq_true (by omega)]
 ·have:=h.2.2.2 (by omega); rw[decide_eq_false e,decide_eq_false (by omega)]
theorem size_loop(f:Tt→Option Int):∀ (l:List Tt) (i:Nat) (s:Int) (c0:Nat),(∀ a∈l,∃ r,f a=some r∧Cap 30 a.cnt r)→1≤s→s≤c0→(c0≤30→s=c0)→(30<c0→30<s)→c0+(l.map Tt.cnt).sum≤2097152→
 ∃ r,thenL (ρ:=Int) (forL (fun _ v s=>bif decide ((30:Int)<s) then some (.rt s) else(f v).bind fun w=>some (.nx (wr (s+w)))) l i s) (fun s=>some s)=some r∧Cap 30 (c0+(l.map Tt.cnt).sum) r
 | [],i,s,c0,_,h1,h2,h3,h4,_=>⟨s,rfl,by simpa using⟨h1,h2,h3,h4⟩⟩
 | a::l,i,s,c0,hf,h1,h2,h3,h4,hb=>by
  simp only[aG,a9] at hb ⊢
  by_cases e:(30:Int)<s
  ·rw[forL_rt (r:=s) (by rw[decide_eq_true e]; rfl),thenL_inl]
   exact⟨s,rfl,h1,by omega,fun g=>by omega,fun _=>e⟩
  ·obtain⟨r,hr,c1,c2,c3,c4⟩:=hf a (by simp)
   have hs:s=c0:=h3 (by omega)
   rw[forL_nx (s':=wr (s+r)) (by rw[decide_eq_false e,cond_false,hr]; rfl),wr64 (by omega) (by omega)]
   have:=size_loop f l (i+1) (s+r) (c0+a.cnt) (fun b hb=>hf b (by simp[hb])) (by omega) (by omega) (fun g=>by have:=c3 (by omega); omega) (fun g=>by
    by_cases g2:a.cnt≤30
    ·have:=c3 g2; omega
    ·have:=c4 (by omega); omega) (by omega)
   rwa [Nat.add_assoc] at this
theorem impl_size_eq(t:Tt):t.cnt≤2097152→∃ r,(∀ n,2*aF t≤n→impl_sizeN n t=some r)∧Cap 30 t.cnt r:=by
 refine Tt.ind (M:=fun t=>t.cnt≤2097152→∃ r,(∀ n,2*aF t≤n→impl_sizeN n t=some r)∧Cap 30 t.cnt r) (fun x l ih hc=>?_) t
 rw[Tt.cnt_mk] at hc ⊢
 obtain⟨R,hR⟩:=mem_choice (fun a ha=>ih a ha (by have:=le_sum_mem Tt.cnt ha; omega))
 obtain⟨r,h1,h2⟩:=size_loop (fun a=>some (R a)) l 0 1 1 (fun a ha=>⟨R a,rfl,(hR a ha).2⟩) (by omega) (by omega) (by omega) (by omega) hc
 refine⟨r,fun n hn=>?_,h2⟩
 cases n with
 | zero=>simp only[Tt.mk.sizeOf_spec] at hn; omega
 | succ n=>
  rw[impl_sizeN]
  simp only[Tt.Args_mk,forN_idx]
  rw[← h1]
  congr 1
  refine forL_congr l 0 1 (fun j a s ha=>?_)
  have ha:=List.mem_of_getElem? ha
  simp only[(hR a ha).1 n (by have:=List.sizeOf_lt_of_mem ha; simp only[Tt.mk.sizeOf_spec] at hn; omega)]
theorem impl_size_ok(t:Tt)(h:t.tot≤1048576):∃ r,impl_size t=some r∧Cap 30 t.cnt r:=by
 obtain⟨r,h1,h2⟩:=impl_size_eq t (by have:=Tt.cnt_tot t; omega)
 exact⟨r,lim_eq ⟨_,h1⟩,h2⟩
theorem many_loop(f:Tt→Int→Option Int)(L:Nat)(hL:L≤30):∀ (l:List Tt) (i:Nat) (s:Int) (c0:Nat),(∀ a∈l,∀ L':Nat,L'≤30→∃ r,f a L'=some r∧Cap L' a.cnt r)→1≤s→s≤c0→(c0≤L→s=c0)→(L<c0→L<s)→c0+(l.map Tt.cnt).sum≤2097152→
 ∃ r,thenL (ρ:=Int) (forL (fun _ v s=>bif decide (s≤(L:Int)) then(f v (wr ((L:Int)-s))).bind fun w=>some (.nx (wr (s+w))) else some (.rt s)) l i s) (fun s=>some s)=some r∧Cap L (c0+(l.map Tt.cnt).sum) r
 | [],i,s,c0,_,h1,h2,h3,h4,_=>⟨s,rfl,by simpa using⟨h1,h2,h3,h4⟩⟩
 | a::l,i,s,c0,hf,h1,h2,h3,h4,hb=>by
  simp only[aG,a9] at hb ⊢
  by_cases e:s≤(L:Int)
  ·have hs:s=c0:=h3 (by omega)
   have eL:wr ((L:Int)-s)=((L-c0:Nat):Int):=by rw[wr64 (by omega) (by omega)]; omega
   obtain⟨r,hr,c1,c2,c3,c4⟩:=hf a (by simp) (L-c0) (by omega)
   rw[forL_nx (s':=wr (s+r)) (by rw[decide_eq_true e,cond_true,eL,hr]; rfl),wr64 (by omega) (by omega)]
   have:=many_loop f L hL l (i+1) (s+r) (c0+a.cnt) (fun b hb=>hf b (by simp[hb])) (by omega) (by omega) (fun g=>by have:=c3 (by omega); omega) (fun g=>by
    by_cases g2:a.cnt≤L-c0
    ·omega
    ·have:=c4 (by omega); omega) (by omega)
   rwa [Nat.add_assoc] at this
  ·rw[forL_rt (r:=s) (by rw[decide_eq_false e]; rfl),thenL_inl]
   exact⟨s,rfl,h1,by omega,fun g=>by omega,fun _=>by omega⟩
theorem lim_st{α:Type}{m:Nat→Option α}{N:Nat}{r:α}(hs:∀ n,N≤n→m n=m N)(h:m N=some r):lim m=some r:=lim_eq ⟨N,fun n hn=>by rw[hs n hn,h]⟩
theorem spec_many_st(t:Tt):∀ n m,2*aF t≤n→2*aF t≤m→∀ L,spec_l2ManyN n t L=spec_l2ManyN m t L:=by
 refine Tt.ind (M:=fun t=>∀ n m,2*aF t≤n→2*aF t≤m→∀ L,spec_l2ManyN n t L=spec_l2ManyN m t L) (fun x l ih n m hn hm L=>?_) t
 simp only[Tt.mk.sizeOf_spec] at hn hm
 cases n with
 | zero=>omega
 | succ n=>
  cases m with
  | zero=>omega
  | succ m=>
   rw[spec_l2ManyN,spec_l2ManyN]
   congr 1
   refine forN_congr _ _ _ (fun j s hj=>?_)
   simp only[Tt.Args_mk,Nat.zero_add] at hj ⊢
   rw[idx_getD hj]
   simp only[al]
   have hm':=getD_mem hj
   have:=List.sizeOf_lt_of_mem hm'
   rw[ih _ hm' n m (by omega) (by omega)]
theorem spec_many_eq(t:Tt):t.cnt≤2097152→∀ n,2*aF t≤n→∀ L:Nat,L≤30→∃ r,spec_l2ManyN n t L=some r∧Cap L t.cnt r:=by
 refine Tt.ind (M:=fun t=>t.cnt≤2097152→∀ n,2*aF t≤n→∀ L:Nat,L≤30→∃ r,spec_l2ManyN n t L=some r∧Cap L t.cnt r) (fun x l ih hc n hn L hL=>?_) t
 rw[Tt.cnt_mk] at hc ⊢
 simp only[Tt.mk.sizeOf_spec] at hn
 cases n with
 | zero=>omega
 | succ n=>
  rw[spec_l2ManyN]
  simp only[Tt.Args_mk]
  obtain⟨r,h1,h2⟩:=many_loop (spec_l2ManyN n) L hL l 0 1 1 (fun a ha L' hL'=>ih a ha (by have:=le_sum_mem Tt.cnt ha; omega) n (by have:=List.sizeOf_lt_of_mem ha; omega) L' hL') (by omega) (by omega) (by omega) (by omega) hc
  refine⟨r,?_,h2⟩
  rw[← h1]
  congr 1
  refine forN_forL _ _ l 0 1 (fun j a s ha=>?_)
  simp only[Nat.zero_add,idx_nat,ha,al]
theorem spec_many_ok(t:Tt)(h:t.tot≤1048576):∃ r,spec_l2Many t 30=some r∧Cap 30 t.cnt r:=by
 obtain⟨r,h1,h2⟩:=spec_many_eq t (by have:=Tt.cnt_tot t; omega) _ (aS _) 30 (by omega)
 exact⟨r,lim_st (fun n hn=>spec_many_st t _ _ hn (aS _) _) h1,h2⟩
/-! depth -/
theorem dep_loop(f:Tt→Option Int)(g:Int→Int→Option Int)(hg:∀ a b,g a b=some (max a b)):∀ (l:List Tt) (i:Nat) (s:Nat),(∀ a∈l,f a=some (a.dep:Int))→
 thenL (ρ:=Int) (forL (fun _ v s=>(f v).bind fun w=>(g s w).bind fun z=>some (.nx z)) l i (s:Int)) (fun s=>some (wr (s+1)))=some (wr (((max s (Tt.deps l):Nat):Int)+1))
 | [],i,s,_=>by simp[forL,thenL_inr,Tt.deps]
 | a::l,i,s,h=>by
  have e:max (s:Int) (a.dep:Int)=((max s a.dep:Nat):Int):=by omega
  rw[forL_nx (s':=((max s a.dep:Nat):Int)) (by rw[h a (by simp),al,hg,al,e]),dep_loop f g hg l (i+1) _ (fun b hb=>h b (by simp[hb])),Tt.deps]
  congr 3; omega
theorem Most_eq(a b:Int):spec_l1Most a b=some (max a b):=by
 unfold spec_l1Most
 by_cases h:b<a
 ·rw[decide_eq_true h,cond_true]; congr 1; omega
 ·rw[decide_eq_false h,cond_false]; congr 1; omega
theorem deps_le(l:List Tt):Tt.deps l≤(l.map Tt.cnt).sum:=by
 induction l with
 | nil=>simp[Tt.deps]
 | cons a l ih=>simp only[Tt.deps,aG,a9]; have:=a.dep_cnt; omega
theorem impl_depthN_eq(t:Tt):t.cnt≤2097152→∀ n,2*aF t≤n→impl_depthN n t=some (t.dep:Int):=by
 refine Tt.ind (M:=fun t=>t.cnt≤2097152→∀ n,2*aF t≤n→impl_depthN n t=some (t.dep:Int)) (fun x l ih hc n hn=>?_) t
 rw[Tt.cnt_mk] at hc
 rw[Tt.dep_mk]
 simp only[Tt.mk.sizeOf_spec] at hn
 cases n with
 | zero=>omega
 | succ n=>
  rw[impl_depthN]
  simp only[Tt.Args_mk,forN_idx]
  have:=dep_loop (impl_depthN n) (fun a b=>some (max a b)) (fun _ _=>rfl) l 0 0 (fun a ha=>ih a ha (by have:=le_sum_mem Tt.cnt ha; omega) n (by have:=List.sizeOf_lt_of_mem ha; omega))
  simp only[al] at this
  refine this.trans ?_
  have:=deps_le l
  rw[wr64 (by omega) (by omega)]; congr 1; omega
theorem spec_depthN_eq(t:Tt):t.cnt≤2097152→∀ n,2*aF t≤n→spec_l2DepthN n t=some (t.dep:Int):=by
 refine Tt.ind (M:=fun t=>t.cnt≤2097152→∀ n,2*aF t≤n→spec_l2DepthN n t=some (t.dep:Int)) (fun x l ih hc n hn=>?_) t
 rw[Tt.cnt_mk] at hc
 rw[Tt.dep_mk]
 simp only[Tt.mk.sizeOf_spec] at hn
 cases n with
 | zero=>omega
 | succ n=>
  rw[spec_l2DepthN]
  simp only[Tt.Args_mk,forN_idx]
  have:=dep_loop (spec_l2DepthN n) spec_l1Most Most_eq l 0 0 (fun a ha=>ih a ha (by have:=le_sum_mem Tt.cnt ha; omega) n (by have:=List.sizeOf_lt_of_mem ha; omega))
  refine this.trans ?_
  have:=deps_le l
  rw[wr64 (by omega) (by omega)]; congr 1; omega
theorem impl_depth_ok(t:Tt)(h:t.tot≤1048576):impl_depth t=some (t.dep:Int):=lim_eq ⟨_,impl_depthN_eq t (by have:=Tt.cnt_tot t; omega)⟩
theorem spec_depth_ok(t:Tt)(h:t.tot≤1048576):spec_l2Depth t=some (t.dep:Int):=lim_eq ⟨_,spec_depthN_eq t (by have:=Tt.cnt_tot t; omega)⟩
def smallT(t:Tt):Bool:=decide (t.cnt≤30)&&decide (t.dep≤8)
theorem isSmall_ok(t:Tt)(h:t.tot≤1048576):impl_isSmall t=some (smallT t):=by
 obtain⟨r,h1,h2⟩:=impl_size_ok t h
 have h3:=h2.le
 unfold impl_isSmall smallT
 rw[h1,al,show decide (r≤30)=decide (t.cnt≤30) from h3,impl_depth_ok t h,al]
 cases decide (t.cnt≤30)
 ·rfl
 ·rw[cond_true,Bool.true_and]; congr 1; exact decide_eq_decide.2 (by omega)
theorem l2Fits_ok(t:Tt)(h:t.tot≤1048576):spec_l2Fits t=some (smallT t):=by
 obtain⟨r,h1,h2⟩:=spec_many_ok t h
 have h3:=h2.le
 unfold spec_l2Fits smallT
 rw[h1,al,show decide (r≤30)=decide (t.cnt≤30) from h3,spec_depth_ok t h,al]
 cases decide (t.cnt≤30)
 ·rfl
 ·rw[cond_true,Bool.true_and]; congr 1; exact decide_eq_decide.2 (by omega)
/-! names -/
mutual
def Tt.good:Tt→Bool
 | .mk x l=>bif isVarS x then l.isEmpty else(isSymS x&&decide (l.length≤4)&&Tt.goods l)
def Tt.goods:List Tt→Bool
 | []=>true
 | a::l=>a.good&&Tt.goods l
end
theorem Tt.goods_eq(l:List Tt):Tt.goods l=l.all Tt.good:=by
 induction l with
 | nil=>rfl
 | cons a l ih=>rw[Tt.goods,ih]; rfl
theorem Tt.good_mk(x:ByteArray)(l:List Tt):(Tt.mk x l).good=bif isVarS x then l.isEmpty else(isSymS x&&decide (l.length≤4)&&l.all Tt.good):=by rw[Tt.good,Tt.goods_eq]
theorem Tt.good_u(t:Tt):t.good=bif isVarS t.Name then t.Args.isEmpty else(isSymS t.Name&&decide (t.Args.length≤4)&&t.Args.all Tt.good):=by cases t; exact Tt.good_mk _ _
theorem isEmpty_dec{α:Type}(l:List α):decide ((l.length:Int)=0)=l.isEmpty:=by cases l<;>simp; omega
theorem impl_hasNamesN_eq(t:Tt):t.Ok→∀ n,3*aF t≤n→impl_hasNamesN n t=some t.good:=by
 refine Tt.ind' (M:=fun t=>t.Ok→∀ n,3*aF t≤n→impl_hasNamesN n t=some t.good) (fun t ih hok n hn=>?_) t
 obtain⟨hx,hl,hall⟩:=hok.u
 rw[Tt.good_u]
 have hpos:=t.pos
 cases n with
 | zero=>omega
 | succ n=>
  rw[impl_hasNamesN]
  rw[isVariable_eq _ hx,al,isSymbol_eq _ hx,al,isEmpty_dec]
  cases isVarS t.Name
  ·rw[cond_false,cond_false]
   cases isSymS t.Name
   ·rfl
   ·by_cases h4:t.Args.length≤4
    ·rw[cond_true,decide_eq_true (show(t.Args.length:Int)≤4 by omega),cond_true,decide_eq_true h4,Bool.true_and,Bool.true_and]
     unfold slices_ContainsFunc_Simpl_Term_impl_Term slices_IndexFunc_Simpl_Term_impl_Term
     rw[find_list (p:=fun a=>!a.good) t.Args (fun a ha=>?_),al,List.all_eq_not_any_not]
     have hs:=Tt.lt ha
     cases n with
     | zero=>omega
     | succ n=>
      rw[impl_hasNames_1N,ih a ha (hall a ha) n (by omega)]; rfl
    ·rw[cond_true,decide_eq_false (show ¬ (t.Args.length:Int)≤4 by omega),decide_eq_false h4]; rfl
  ·rfl
theorem spec_l2NodesN_eq(t:Tt):t.Ok→∀ n,3*aF t≤n→spec_l2NodesN n t=some t.good:=by
 refine Tt.ind' (M:=fun t=>t.Ok→∀ n,3*aF t≤n→spec_l2NodesN n t=some t.good) (fun t ih hok n hn=>?_) t
 obtain⟨hx,hl,hall⟩:=hok.u
 rw[Tt.good_u]
 have hpos:=t.pos
 cases n with
 | zero=>omega
 | succ n=>
  rw[spec_l2NodesN]
  rw[l2Var_eq _ hx,al,l2Symbol_eq _ hx,al,isEmpty_dec]
  cases isVarS t.Name
  ·rw[cond_false,cond_false]
   cases isSymS t.Name
   ·rfl
   ·by_cases h4:t.Args.length≤4
    ·rw[cond_true,decide_eq_false (show ¬ (4:Int)<(t.Args.length:Int) by omega),cond_false,decide_eq_true h4,Bool.true_and,Bool.true_and,
      forN_all (fun j=>(t.Args.getD j default).good) (fun j hj _=>?_),range_all_list t.Args Tt.good]
     ·cases t.Args.all Tt.good<;>rfl
     ·have ha:=getD_mem hj
      have hs:=Tt.lt ha
      simp only[idx_getD hj,al,ih _ ha (hall _ ha) n (by omega)]
      cases (t.Args.getD j default).good<;>rfl
    ·rw[cond_true,decide_eq_true (show(4:Int)<(t.Args.length:Int) by omega),decide_eq_false h4]; rfl
  ·rfl
def goodT(t:Tt):Bool:=smallT t&&t.good
theorem IsValidTerm_ok(t:Tt)(h:t.tot≤1048576)(hok:t.Ok):impl_IsValidTerm t=some (goodT t):=by
 unfold impl_IsValidTerm goodT
 rw[isSmall_ok t h,al,show impl_hasNames t=some t.good from lim_eq ⟨_,impl_hasNamesN_eq t hok⟩,al]
 cases smallT t<;>rfl
theorem l2Good_ok(t:Tt)(h:t.tot≤1048576)(hok:t.Ok):spec_l2Good t=some (goodT t):=by
 unfold spec_l2Good goodT
 rw[l2Fits_ok t h,al,show spec_l2Nodes t=some t.good from lim_eq ⟨_,spec_l2NodesN_eq t hok⟩,al]
 cases smallT t<;>rfl
end
section
/-! atoms -/
def zeroT(t:Tt):Bool:=decide (t.Name=(⟨#[]⟩:ByteArray))&&t.Args.isEmpty
theorem zeroT_impl(t:Tt):impl_isZeroTerm t=some (zeroT t):=by
 unfold impl_isZeroTerm zeroT
 rw[isEmpty_dec]
 cases decide (t.Name=(⟨#[]⟩:ByteArray))<;>rfl
theorem zeroT_spec(t:Tt):spec_l8None t=some (zeroT t):=zeroT_impl t
def atomT(t:Tt):Bool:=bif decide (t.Name=(⟨#[61]⟩:ByteArray)) then decide (t.Args.length=2)&&(smallT t&&t.Args.all Tt.good) else isSymS t.Name&&goodT t
theorem two_args{l:List Tt}(h:l.length=2):∃ x y,l=[x,y]:=by
 match l,h with
 | [x,y],_=>exact⟨x,y,rfl⟩
theorem hasNames_ok(t:Tt)(hok:t.Ok):impl_hasNames t=some t.good:=lim_eq ⟨_,impl_hasNamesN_eq t hok⟩
theorem l2Nodes_ok(t:Tt)(hok:t.Ok):spec_l2Nodes t=some t.good:=lim_eq ⟨_,spec_l2NodesN_eq t hok⟩
theorem atom_impl(t:Tt)(h:t.tot≤1048576)(hok:t.Ok):impl_IsValidAtom t=some (atomT t):=by
 unfold impl_IsValidAtom atomT impl_isEquality
 obtain⟨hx,hl,hall⟩:=hok.u
 rw[isSymbol_eq _ hx,IsValidTerm_ok t h hok,isSmall_ok t h]
 simp only[al]
 cases decide (t.Name=(⟨#[61]⟩:ByteArray))
 ·simp only[cond_false]; cases isSymS t.Name<;>rfl
 ·by_cases h2:t.Args.length=2
  ·obtain⟨x,y,e⟩:=two_args h2
   rw[decide_eq_true (show(t.Args.length:Int)=2 by omega),decide_eq_true h2]
   simp only[cond_true,Bool.true_and]
   cases smallT t
   ·rfl
   ·rw[e] at hall ⊢
    rw[show(0:Int)=((0:Nat):Int) from rfl,show(1:Int)=((1:Nat):Int) from rfl,idx_nat,idx_nat]
    simp only[List.getElem?_cons_zero,List.getElem?_cons_succ,al,hasNames_ok x (hall x (by simp)),hasNames_ok y (hall y (by simp)),cond_true,Bool.true_and,List.all_cons,List.all_nil,Bool.and_true]
    cases x.good<;>rfl
  ·rw[decide_eq_false (show ¬ (t.Args.length:Int)=2 by omega),decide_eq_false h2]; rfl
theorem atom_spec(t:Tt)(h:t.tot≤1048576)(hok:t.Ok):spec_l2Atom t=some (atomT t):=by
 unfold spec_l2Atom atomT
 obtain⟨hx,hl,hall⟩:=hok.u
 rw[l2Symbol_eq _ hx,l2Good_ok t h hok,l2Fits_ok t h]
 simp only[al]
 cases decide (t.Name=(⟨#[61]⟩:ByteArray))
 ·simp only[cond_false]; cases isSymS t.Name<;>rfl
 ·by_cases h2:t.Args.length=2
  ·obtain⟨x,y,e⟩:=two_args h2
   rw[decide_eq_true (show(t.Args.length:Int)=2 by omega),decide_eq_true h2]
   simp only[cond_true,Bool.true_and]
   cases smallT t
   ·rfl
   ·rw[e] at hall ⊢
    rw[show(0:Int)=((0:Nat):Int) from rfl,show(1:Int)=((1:Nat):Int) from rfl,idx_nat,idx_nat]
    simp only[List.getElem?_cons_zero,List.getElem?_cons_succ,al,l2Nodes_ok x (hall x (by simp)),l2Nodes_ok y (hall y (by simp)),cond_true,Bool.true_and,List.all_cons,List.all_nil,Bool.and_true]
    cases x.good<;>rfl
  ·rw[decide_eq_false (show ¬ (t.Args.length:Int)=2 by omega),decide_eq_false h2]; rfl
/-! sizes -/
mutual
def Ft.cnt:Ft→Nat
 | .mk _ _ _ l=>1+Ft.cnts l
def Ft.cnts:List Ft→Nat
 | []=>0
 | a::l=>a.cnt+Ft.cnts l
end
theorem Ft.cnts_eq(l:List Ft):Ft.cnts l=(l.map Ft.cnt).sum:=by
 induction l with
 | nil=>rfl
 | cons a l ih=>rw[Ft.cnts,ih,aG,a9]
theorem Ft.cnt_u(a:Ft):a.cnt=1+(a.Parts.map Ft.cnt).sum:=by cases a; rw[Ft.cnt,Ft.cnts_eq]; rfl
theorem sum_le_ltot{α:Type}{c t:α→Nat}:∀ l:List α,(∀ a∈l,c a≤1+t a)→(l.map c).sum≤ltot t l
 | [],_=>by simp[ltot]
 | a::l,h=>by
  have h1:=h a (by simp)
  have h2:=sum_le_ltot l (fun b hb=>h b (by simp[hb]))
  simp only[ltot,aG,a9,aZ] at h2 ⊢
  omega
theorem Ft.cnt_tot(t:Ft):t.cnt≤1+t.tot:=by
 refine Ft.ind' (M:=fun t=>t.cnt≤1+t.tot) (fun t ih=>?_) t
 rw[Ft.cnt_u,Ft.tot_u]
 have:=sum_le_ltot (c:=Ft.cnt) (t:=Ft.tot) t.Parts ih
 omega
theorem Ft.cnt_pos(t:Ft):1≤t.cnt:=by rw[Ft.cnt_u]; omega
theorem gsize_loop{α:Type}(cnt:α→Nat)(L:Nat)(hL:L≤1000)(f:α→Option Int):∀ (l:List α) (i:Nat) (s:Int) (c0:Nat),(∀ a∈l,∃ r,f a=some r∧Cap L (cnt a) r)→1≤s→s≤c0→(c0≤L→s=c0)→(L<c0→L<s)→c0+(l.map cnt).sum≤2097152→
 ∃ r,thenL (ρ:=Int) (forL (fun _ v s=>bif decide ((L:Int)<s) then some (.rt s) else(f v).bind fun w=>some (.nx (wr (s+w)))) l i s) (fun s=>some s)=some r∧Cap L (c0+(l.map cnt).sum) r
 | [],i,s,c0,_,h1,h2,h3,h4,_=>⟨s,rfl,by simpa using⟨h1,h2,h3,h4⟩⟩
 | a::l,i,s,c0,hf,h1,h2,h3,h4,hb=>by
  simp only[aG,a9] at hb ⊢
  by_cases e:(L:Int)<s
  ·rw[forL_rt (r:=s) (by rw[decide_eq_true e]; rfl),thenL_inl]
   exact⟨s,rfl,h1,by omega,fun g=>by omega,fun _=>e⟩
  ·obtain⟨r,hr,c1,c2,c3,c4⟩:=hf a (by simp)
   have hs:s=c0:=h3 (by omega)
   rw[forL_nx (s':=wr (s+r)) (by rw[decide_eq_false e,cond_false,hr]; rfl),wr64 (by omega) (by omega)]
   have:=gsize_loop cnt L hL f l (i+1) (s+r) (c0+cnt a) (fun b hb=>hf b (by simp[hb])) (by omega) (by omega) (fun g=>by have:=c3 (by omega); omega) (fun g=>by
    by_cases g2:cnt a≤L
    ·have:=c3 g2; omega
    ·have:=c4 (by omega); omega) (by omega)
   rwa [Nat.add_assoc] at this
theorem gmany_loop{α:Type}(cnt:α→Nat)(M:Nat)(hM:M≤1000)(f:α→Int→Option Int)(L:Nat)(hL:L≤M):∀ (l:List α) (i:Nat) (s:Int) (c0:Nat),(∀ a∈l,∀ L':Nat,L'≤M→∃ r,f a L'=some r∧Cap L' (cnt a) r)→1≤s→s≤c0→(c0≤L→s=c0)→(L<c0→L<s)→c0+(l.map cnt).sum≤2097152→
 ∃ r,thenL (ρ:=Int) (forL (fun _ v s=>bif decide (s≤(L:Int)) then(f v (wr ((L:Int)-s))).bind fun w=>some (.nx (wr (s+w))) else some (.rt s)) l i s) (fun s=>some s)=some r∧Cap L (c0+(l.map cnt).sum) r
 | [],i,s,c0,_,h1,h2,h3,h4,_=>⟨s,rfl,by simpa using⟨h1,h2,h3,h4⟩⟩
 | a::l,i,s,c0,hf,h1,h2,h3,h4,hb=>by
  simp only[aG,a9] at hb ⊢
  by_cases e:s≤(L:Int)
  ·have hs:s=c0:=h3 (by omega)
   have eL:wr ((L:Int)-s)=((L-c0:Nat):Int):=by rw[wr64 (by omega) (by omega)]; omega
   obtain⟨r,hr,c1,c2,c3,c4⟩:=hf a (by simp) (L-c0) (by omega)
   rw[forL_nx (s':=wr (s+r)) (by rw[decide_eq_true e,cond_true,eL,hr]; rfl),wr64 (by omega) (by omega)]
   have:=gmany_loop cnt M hM f L hL l (i+1) (s+r) (c0+cnt a) (fun b hb=>hf b (by simp[hb])) (by omega) (by omega) (fun g=>by have:=c3 (by omega); omega) (fun g=>by
    by_cases g2:cnt a≤L-c0
    ·omega
    ·have:=c4 (by omega); omega) (by omega)
   rwa [Nat.add_assoc] at this
  ·rw[forL_rt (r:=s) (by rw[decide_eq_false e]; rfl),thenL_inl]
   exact⟨s,rfl,h1,by omega,fun g=>by omega,fun _=>by omega⟩
theorem sizeOf_eq(t:Ft):t.cnt≤2097152→∃ r,(∀ n,2*aF t≤n→impl_sizeOfN n t=some r)∧Cap 40 t.cnt r:=by
 refine Ft.ind' (M:=fun t=>t.cnt≤2097152→∃ r,(∀ n,2*aF t≤n→impl_sizeOfN n t=some r)∧Cap 40 t.cnt r) (fun t ih hc=>?_) t
 rw[Ft.cnt_u] at hc ⊢
 have hp:=t.pos
 obtain⟨R,hR⟩:=mem_choice (fun a ha=>ih a ha (by have:=le_sum_mem Ft.cnt ha; omega))
 obtain⟨r,h1,h2⟩:=gsize_loop Ft.cnt 40 (by omega) (fun a=>some (R a)) t.Parts 0 1 1 (fun a ha=>⟨R a,rfl,(hR a ha).2⟩) (by omega) (by omega) (by omega) (by omega) hc
 refine⟨r,fun n hn=>?_,h2⟩
 cases n with
 | zero=>omega
 | succ n=>
  rw[impl_sizeOfN]
  simp only[forN_idx]
  rw[← h1]
  congr 1
  refine forL_congr t.Parts 0 1 (fun j a s ha=>?_)
  have ha:=List.mem_of_getElem? ha
  have:=Ft.lt ha
  simp only[(hR a ha).1 n (by omega)]
  rfl
theorem sizeOf_ok(t:Ft)(h:t.tot≤1048576):∃ r,impl_sizeOf t=some r∧Cap 40 t.cnt r:=by
 obtain⟨r,h1,h2⟩:=sizeOf_eq t (by have:=Ft.cnt_tot t; omega)
 exact⟨r,lim_eq ⟨_,h1⟩,h2⟩
theorem l8Many_st(t:Ft):∀ n m,2*aF t≤n→2*aF t≤m→∀ L,spec_l8ManyN n t L=spec_l8ManyN m t L:=by
 refine Ft.ind' (M:=fun t=>∀ n m,2*aF t≤n→2*aF t≤m→∀ L,spec_l8ManyN n t L=spec_l8ManyN m t L) (fun t ih n m hn hm L=>?_) t
 have hp:=t.pos
 cases n with
 | zero=>omega
 | succ n=>
  cases m with
  | zero=>omega
  | succ m=>
   rw[spec_l8ManyN,spec_l8ManyN]
   congr 1
   refine forN_congr _ _ _ (fun j s hj=>?_)
   simp only[Nat.zero_add] at hj ⊢
   rw[idx_getD hj]
   simp only[al]
   have hm':=getD_mem hj
   have:=Ft.lt hm'
   rw[ih _ hm' n m (by omega) (by omega)]
theorem l8Many_eq(t:Ft):t.cnt≤2097152→∀ n,2*aF t≤n→∀ L:Nat,L≤40→∃ r,spec_l8ManyN n t L=some r∧Cap L t.cnt r:=by
 refine Ft.ind' (M:=fun t=>t.cnt≤2097152→∀ n,2*aF t≤n→∀ L:Nat,L≤40→∃ r,spec_l8ManyN n t L=some r∧Cap L t.cnt r) (fun t ih hc n hn L hL=>?_) t
 rw[Ft.cnt_u] at hc ⊢
 have hp:=t.pos
 cases n with
 | zero=>omega
 | succ n=>
  rw[spec_l8ManyN]
  obtain⟨r,h1,h2⟩:=gmany_loop Ft.cnt 40 (by omega) (spec_l8ManyN n) L hL t.Parts 0 1 1 (fun a ha L' hL'=>ih a ha (by have:=le_sum_mem Ft.cnt ha; omega) n (by have:=Ft.lt ha; omega) L' hL') (by omega) (by omega) (by omega) (by omega) hc
  refine⟨r,?_,h2⟩
  rw[← h1]
  congr 1
  refine forN_forL _ _ t.Parts 0 1 (fun j a s ha=>?_)
  simp only[Nat.zero_add,idx_nat,ha,al]
theorem l8Many_ok(t:Ft)(h:t.tot≤1048576):∃ r,spec_l8Many t 40=some r∧Cap 40 t.cnt r:=by
 obtain⟨r,h1,h2⟩:=l8Many_eq t (by have:=Ft.cnt_tot t; omega) _ (aS _) 40 (by omega)
 exact⟨r,lim_st (fun n hn=>l8Many_st t _ _ hn (aS _) _) h1,h2⟩
/-! forms -/
def formC(o:Int)(t:Tt)(v:ByteArray)(k:Nat):Bool:=
 bif decide (o=3) then decide (k=0)&&(atomT t&&decide (v=(⟨#[]⟩:ByteArray)))
 else bif decide (o=8)||decide (o=9) then decide (k=1)&&(zeroT t&&isVarS v)
 else(bif decide (o=1)||decide (o=2) then decide (k=0) else bif decide (o=4) then decide (k=1) else bif decide (o=5)||(decide (o=6)||decide (o=7)) then decide (k=2) else false)&&(zeroT t&&decide (v=(⟨#[]⟩:ByteArray)))
theorem op_cases(o:Int):o=1∨o=2∨o=3∨o=4∨o=5∨o=6∨o=7∨o=8∨o=9∨(o≠1∧o≠2∧o≠3∧o≠4∧o≠5∧o≠6∧o≠7∧o≠8∧o≠9):=by omega
theorem len_dec{α:Type}(l:List α)(k:Nat):decide ((l.length:Int)=(k:Int))=decide (l.length=k):=decide_eq_decide.2 (by omega)
theorem l8Form_ok(a:Ft)(h:a.tot≤1048576)(hok:a.Ok):spec_l8Form a=some (formC a.Op a.Atom a.Var a.Parts.length):=by
 obtain⟨h1,h2,h3,h4⟩:=hok.u
 have ht:=a.tot_u
 unfold spec_l8Form formC
 have e0:decide ((a.Parts.length:Int)=0)=decide (a.Parts.length=0):=decide_eq_decide.2 (by omega)
 have e1:decide ((a.Parts.length:Int)=1)=decide (a.Parts.length=1):=decide_eq_decide.2 (by omega)
 have e2:decide ((a.Parts.length:Int)=2)=decide (a.Parts.length=2):=decide_eq_decide.2 (by omega)
 rw[zeroT_spec,atom_spec _ (by omega) h2,l2Var_eq _ h3,e0,e1,e2]
 simp only[al]
 generalize zeroT a.Atom=z
 generalize atomT a.Atom=y
 generalize isVarS a.Var=x
 generalize decide (a.Parts.length=0)=k0
 generalize decide (a.Parts.length=1)=k1
 generalize decide (a.Parts.length=2)=k2
 generalize decide (a.Var=(⟨#[]⟩:ByteArray))=u
 rcases op_cases a.Op with e | e | e | e | e | e | e | e | e | ⟨g1,g2,g3,g4,g5,g6,g7,g8,g9⟩
 all_goals first | (simp only[e]; revert z y x k0 k1 k2 u; decide) | (simp only[g1,g2,g3,g4,g5,g6,g7,g8,g9]; rfl)
mutual
def Ft.good:Ft→Bool
 | .mk o t v l=>formC o t v l.length&&Ft.goods l
def Ft.goods:List Ft→Bool
 | []=>true
 | a::l=>a.good&&Ft.goods l
end
theorem Ft.goods_eq(l:List Ft):Ft.goods l=l.all Ft.good:=by
 induction l with
 | nil=>rfl
 | cons a l ih=>rw[Ft.goods,ih]; rfl
theorem Ft.good_u(a:Ft):a.good=(formC a.Op a.Atom a.Var a.Parts.length&&a.Parts.all Ft.good):=by cases a; rw[Ft.good,Ft.goods_eq]; rfl
theorem ltot_mem{α:Type}{t:α→Nat}{l:List α}{a:α}(h:a∈l):t a≤ltot t l:=by have:=tot_mem t h; omega
theorem l8Forms_eq(a:Ft):a.Ok→a.tot≤1048576→∀ n,3*aF a≤n→spec_l8FormsN n a=some a.good:=by
 refine Ft.ind' (M:=fun a=>a.Ok→a.tot≤1048576→∀ n,3*aF a≤n→spec_l8FormsN n a=some a.good) (fun a ih hok ht n hn=>?_) a
 obtain⟨h1,h2,h3,h4,hall⟩:=hok.u
 have hpos:=a.pos
 have htu:=a.tot_u
 cases n with
 | zero=>omega
 | succ n=>
  rw[spec_l8FormsN,l8Form_ok a ht hok,Ft.good_u,al]
  cases formC a.Op a.Atom a.Var a.Parts.length
  ·rfl
  ·rw[cond_true,Bool.true_and,forN_all (fun j=>(a.Parts.getD j default).good) (fun j hj _=>?_),range_all_list a.Parts Ft.good]
   ·cases a.Parts.all Ft.good<;>rfl
   ·have ha:=getD_mem hj
    have hs:=Ft.lt ha
    have hm:=ltot_mem (t:=Ft.tot) ha
    simp only[idx_getD hj,al,ih _ ha (hall _ ha) (by omega) n (by omega)]
    cases (a.Parts.getD j default).good<;>rfl
theorem isQ_eq(x:Int):impl_isQuantifier x=some (decide (x=8)||decide (x=9)):=by
 unfold impl_isQuantifier
 cases decide (x=8)<;>rfl
theorem isBin_eq(x:Int):impl_isBinary x=some (decide (x=5)||(decide (x=6)||decide (x=7))):=by
 unfold impl_isBinary
 cases decide (x=5)<;>cases decide (x=6)<;>rfl
theorem contFm{p:Ft→Bool}{f:Ft→Option Bool}(l:List Ft)(h:∀ a∈l,f a=some (p a)):slices_ContainsFunc_Simpl_Formula_impl_Formula l f=some (l.any p):=by
 unfold slices_ContainsFunc_Simpl_Formula_impl_Formula slices_IndexFunc_Simpl_Formula_impl_Formula
 exact find_list (p:=p) l h
theorem hasForm_eq(a:Ft):a.Ok→a.tot≤1048576→∀ n,3*aF a≤n→impl_hasFormN n a=some a.good:=by
 refine Ft.ind' (M:=fun a=>a.Ok→a.tot≤1048576→∀ n,3*aF a≤n→impl_hasFormN n a=some a.good) (fun a ih hok ht n hn=>?_) a
 obtain⟨h1,h2,h3,h4,hall⟩:=hok.u
 have hpos:=a.pos
 have htu:=a.tot_u
 cases n with
 | zero=>omega
 | succ n=>
  have hc:slices_ContainsFunc_Simpl_Formula_impl_Formula a.Parts (fun y0=>impl_hasForm_1N n y0)=some (!a.Parts.all Ft.good):=by
   rw[contFm (p:=fun x=>!x.good) a.Parts (fun x hx=>?_),List.all_eq_not_any_not,Bool.not_not]
   have hs:=Ft.lt hx
   have hm:=ltot_mem (t:=Ft.tot) hx
   cases n with
   | zero=>omega
   | succ n=>rw[impl_hasForm_1N,ih x hx (hall x hx) (by omega) n (by omega)]; rfl
  have e0:decide ((a.Parts.length:Int)=0)=decide (a.Parts.length=0):=decide_eq_decide.2 (by omega)
  have e1:decide ((a.Parts.length:Int)=1)=decide (a.Parts.length=1):=decide_eq_decide.2 (by omega)
  have e2:decide ((a.Parts.length:Int)=2)=decide (a.Parts.length=2):=decide_eq_decide.2 (by omega)
  rw[impl_hasFormN,Ft.good_u]
  unfold formC
  simp only[hc,e0,e1,e2,isQ_eq,isBin_eq,isVariable_eq _ h3,zeroT_impl,atom_impl _ (show a.Atom.tot≤1048576 by omega) h2,al]
  clear hc e0 e1 e2 ih
  generalize zeroT a.Atom=z
  generalize atomT a.Atom=y
  generalize isVarS a.Var=x
  generalize decide (a.Parts.length=0)=k0
  generalize decide (a.Parts.length=1)=k1
  generalize decide (a.Parts.length=2)=k2
  generalize decide (a.Var=(⟨#[]⟩:ByteArray))=u
  generalize a.Parts.all Ft.good=w
  rcases op_cases a.Op with e | e | e | e | e | e | e | e | e | ⟨g1,g2,g3,g4,g5,g6,g7,g8,g9⟩
  all_goals first | (simp only[e]; clear e htu; revert z y x k0 k1 k2 u w; decide) | (simp only[g1,g2,g3,g4,g5,g6,g7,g8,g9]; rfl)
def validF(a:Ft):Bool:=decide (a.cnt≤40)&&a.good
theorem validF_impl(a:Ft)(h:a.tot≤1048576)(hok:a.Ok):impl_IsValidFormula a=some (validF a):=by
 obtain⟨r,h1,h2⟩:=sizeOf_ok a h
 unfold impl_IsValidFormula validF
 rw[h1,al,show decide (r≤40)=decide (a.cnt≤40) from h2.le,show impl_hasForm a=some a.good from lim_eq ⟨_,hasForm_eq a hok h⟩]
 cases decide (a.cnt≤40)<;>rfl
theorem validF_spec(a:Ft)(h:a.tot≤1048576)(hok:a.Ok):spec_l8Good a=some (validF a):=by
 obtain⟨r,h1,h2⟩:=l8Many_ok a h
 unfold spec_l8Good validF
 rw[h1,al,show decide (r≤40)=decide (a.cnt≤40) from h2.le,show spec_l8Forms a=some a.good from lim_eq ⟨_,l8Forms_eq a hok h⟩]
 cases decide (a.cnt≤40)<;>rfl
/-! sequents -/
end
section
/-! the same -/
noncomputable def same{α:Type}(a b:α):Bool:=@decide (a=b) (Classical.propDecidable _)
theorem same_iff{α:Type}{a b:α}:same a b=true↔a=b:=by unfold same; exact @decide_eq_true_iff _ (Classical.propDecidable _)
theorem same_comm{α:Type}(a b:α):same a b=same b a:=by rw[Bool.eq_iff_iff,same_iff,same_iff]; exact eq_comm
theorem same_dec{α:Type}(a b:α)[Decidable (a=b)]:decide (a=b)=same a b:=by rw[Bool.eq_iff_iff,same_iff]; exact decide_eq_true_iff
theorem same_len{α:Type}{xs ys:List α}(h:¬ xs.length=ys.length):same xs ys=false:=by
 cases e:same xs ys
 ·rfl
 ·rw[same_iff] at e; exact absurd (by rw[e]) h
theorem all_same{α:Type}[Inhabited α]{xs ys:List α}(h:xs.length=ys.length):(List.range xs.length).all (fun j=>same (xs.getD j default) (ys.getD j default))=same xs ys:=by
 rw[Bool.eq_iff_iff,List.all_eq_true,same_iff]
 constructor
 ·intro g
  refine List.ext_getElem h (fun i h1 h2=>?_)
  have:=same_iff.1 (g i (by simpa using h1))
  simpa[List.getD,h1,h2] using this
 ·rintro rfl x _
  exact same_iff.2 rfl
theorem same_loop{α:Type}[Inhabited α](f:α→α→Option Bool)(xs ys:List α)(h:xs.length=ys.length)(hf:∀ a∈xs,∀ b,f a b=some (same a b)):
 thenL (ρ:=Bool) (σ:=Unit) (forN (fun (i:Nat) (_:Unit)=>ae (idx xs (i:Int)) fun v=>ae (idx ys (i:Int)) fun w=>ae (f v w) fun x=>bif x then some (.nx ()) else some (.rt false)) xs.length 0 ()) (fun _=>some true)=some (same xs ys):=by
 rw[forN_all (fun j=>same (xs.getD j default) (ys.getD j default)) (r0:=false) (fun j hj _=>?_),all_same h]
 ·cases same xs ys<;>rfl
 ·rw[idx_getD hj,idx_getD (h▸hj),al,al,hf _ (getD_mem hj),al]
  cases same (xs.getD j default) (ys.getD j default)<;>rfl
theorem len_dec'{α:Type}(xs ys:List α):decide ((xs.length:Int)=(ys.length:Int))=decide (xs.length=ys.length):=decide_eq_decide.2 (by omega)
theorem Tt.same_u(a b:Tt):same a b=(decide (a.Name=b.Name)&&same a.Args b.Args):=by
 rw[Bool.eq_iff_iff,same_iff,aC,same_iff,decide_eq_true_iff]
 constructor
 ·rintro rfl; exact⟨rfl,rfl⟩
 ·rintro ⟨h1,h2⟩; rw[← a.eta,← b.eta,h1,h2]
theorem l2Same_eq(a:Tt):∀ b n,2*aF a≤n→spec_l2SameN n a b=some (same a b)∧impl_EqualTermsN n a b=some (same a b):=by
 refine Tt.ind' (M:=fun a=>∀ b n,2*aF a≤n→spec_l2SameN n a b=some (same a b)∧impl_EqualTermsN n a b=some (same a b)) (fun a ih b n hn=>?_) a
 have hp:=a.pos
 cases n with
 | zero=>omega
 | succ n=>
  rw[spec_l2SameN,impl_EqualTermsN,Tt.same_u]
  unfold slices_EqualFunc_Simpl_Term_Simpl_Term_impl_Term_impl_Term
  rw[len_dec']
  cases decide (a.Name=b.Name)
  ·exact⟨rfl,rfl⟩
  ·by_cases h:a.Args.length=b.Args.length
   ·have k:=fun x (hx:x∈a.Args) y=>ih x hx y n (by have:=Tt.lt hx; omega)
    rw[decide_eq_true h,cond_true,cond_true,same_loop (spec_l2SameN n) a.Args b.Args h (fun x hx y=>(k x hx y).1)]
    refine⟨rfl,?_⟩
    rw[cond_true,cond_true,same_loop (impl_EqualTermsN n) a.Args b.Args h (fun x hx y=>(k x hx y).2)]; rfl
   ·rw[decide_eq_false h,same_len h]; exact⟨rfl,rfl⟩
theorem l2Same_ok(a b:Tt):spec_l2Same a b=some (same a b):=lim_eq ⟨_,fun n hn=>(l2Same_eq a b n hn).1⟩
theorem EqualTerms_ok(a b:Tt):impl_EqualTerms a b=some (same a b):=lim_eq ⟨_,fun n hn=>(l2Same_eq a b n hn).2⟩
theorem Ft.same_u(a b:Ft):same a b=(decide (a.Op=b.Op)&&(same a.Atom b.Atom&&(decide (a.Var=b.Var)&&same a.Parts b.Parts))):=by
 rw[Bool.eq_iff_iff,same_iff,aC,aC,aC,same_iff,same_iff,decide_eq_true_iff,decide_eq_true_iff]
 constructor
 ·rintro rfl; exact⟨rfl,rfl,rfl,rfl⟩
 ·rintro ⟨h1,h2,h3,h4⟩; rw[← a.eta,← b.eta,h1,h2,h3,h4]
theorem l8Same_eq(a:Ft):∀ b n,2*aF a≤n→spec_l8SameN n a b=some (same a b)∧impl_sameFormulaN n a b=some (same a b):=by
 refine Ft.ind' (M:=fun a=>∀ b n,2*aF a≤n→spec_l8SameN n a b=some (same a b)∧impl_sameFormulaN n a b=some (same a b)) (fun a ih b n hn=>?_) a
 have hp:=a.pos
 cases n with
 | zero=>omega
 | succ n=>
  rw[spec_l8SameN,impl_sameFormulaN,Ft.same_u,l2Same_ok,EqualTerms_ok]
  unfold slices_EqualFunc_Simpl_Formula_Simpl_Formula_impl_Formula_impl_Formula
  simp only[len_dec',al]
  generalize decide (a.Op=b.Op)=x
  generalize decide (a.Var=b.Var)=y
  generalize same a.Atom b.Atom=z
  by_cases h:a.Parts.length=b.Parts.length
  ·have k:=fun x (hx:x∈a.Parts) y=>ih x hx y n (by have:=Ft.lt hx; omega)
   rw[decide_eq_true h,same_loop (spec_l8SameN n) a.Parts b.Parts h (fun x hx y=>(k x hx y).1),same_loop (impl_sameFormulaN n) a.Parts b.Parts h (fun x hx y=>(k x hx y).2)]
   generalize same a.Parts b.Parts=w
   revert x y z w; decide
  ·rw[decide_eq_false h,same_len h]
   simp only[cond_false,al]
   revert x y z; decide
theorem l8Same_ok(a b:Ft):spec_l8Same a b=some (same a b):=lim_eq ⟨_,fun n hn=>(l8Same_eq a b n hn).1⟩
theorem sameF_ok(a b:Ft):impl_sameFormula a b=some (same a b):=lim_eq ⟨_,fun n hn=>(l8Same_eq a b n hn).2⟩
end
section
/-! ### copies -/
theorem Tt.cnt_u(t:Tt):t.cnt=1+Tt.cnts t.Args:=by cases t; rw[Tt.cnt]; rfl
theorem mapL{α β ρ:Type}{f:α→Option β}{g:α→β}:∀ (l:List α) (i:Nat) (s:List β),(∀ a∈l,f a=some (g a))→s.length+l.length≤1073741824→
 forL (ρ:=ρ) (fun _ x (s:List β)=>(f x).bind fun v=>(app s [v]).bind fun w=>some (.nx w)) l i s=some (.inr (s++l.map g))
 | [],i,s,_,_=>by simp[forL]
 | a::l,i,s,h,hb=>by
  simp only[aZ] at hb
  rw[forL_nx (s':=s++[g a]) (by rw[h a (by simp),al]; unfold app; rw[if_pos (by simp only[aZ,bB]; omega)]; rfl),
   mapL l (i+1) _ (fun b hb=>h b (by simp[hb])) (by simp only[aU,aZ,bB]; omega)]
  simp
theorem setL{α β ρ:Type}(f:α→Option β)(g:α→β)(z:β):∀ (xs:List α) (pre:List β),(∀ x∈xs,f x=some (g x))→
 forL (ρ:=ρ) (fun i v s=>(f v).bind fun w=>(idx s (i:Int)).bind fun _=>(idx s (i:Int)).bind fun _=>some (.nx (s.set (i:Int).toNat w))) xs pre.length (pre++List.replicate xs.length z)=some (.inr (pre++xs.map g))
 | [],pre,_=>by simp[forL]
 | x::xs,pre,h=>by
  have hx:=h x (by simp)
  have e:(pre++List.replicate (x::xs).length z)[pre.length]?=some z:=by simp[List.replicate_succ]
  rw[forL_nx (s':=(pre++[g x])++List.replicate xs.length z) (by
   rw[hx,al,idx_nat,e,al,al,Int.toNat_natCast]
   simp[List.replicate_succ])]
  have:=setL (ρ:=ρ) f g z xs (pre++[g x]) (fun y hy=>h y (by simp[hy]))
  simp only[aU,aZ,bB,Nat.zero_add] at this
  rw[this]; simp
theorem cnts_len:∀ l:List Tt,l.length≤Tt.cnts l
 | []=>by simp
 | a::l=>by have:=cnts_len l; have:=a.cnt_pos; simp only[Tt.cnts,aZ]; omega
theorem cnts_mem{a:Tt}:∀ {l:List Tt},a∈l→a.cnt≤Tt.cnts l
 | b::l,h=>by
  simp only[Tt.cnts]
  rcases List.mem_cons.1 h with rfl | h
  ·omega
  ·have:=cnts_mem h; omega
theorem mkn_len{n:Nat}(h:n≤1073741824):mkn (n:Int)=some n:=by unfold mkn; rw[if_pos (by omega)]; simp
theorem ownTN(t:Tt):t.cnt≤10000000→∀ n,2*aF t≤n→spec_l2OwnN n t=some t:=by
 refine Tt.ind' (M:=fun t=>t.cnt≤10000000→∀ n,2*aF t≤n→spec_l2OwnN n t=some t) (fun t ih hc n hn=>?_) t
 have hp:=t.pos
 have hu:=t.cnt_u
 have hl:=cnts_len t.Args
 cases n with
 | zero=>omega
 | succ n=>
  rw[spec_l2OwnN]
  simp only[forN_idx]
  rw[mapL (f:=spec_l2OwnN n) (g:=fun x=>x) t.Args 0 [] (fun a ha=>ih a ha (by have:=cnts_mem ha; omega) n (by have:=Tt.lt ha; omega)) (by simp; omega),thenL_inr]
  simp[t.eta]
theorem ownT(t:Tt)(h:t.cnt≤10000000):spec_l2Own t=some t:=lim_eq ⟨_,ownTN t h⟩
theorem copyTN(t:Tt):t.cnt≤10000000→∀ n,3*aF t≤n→impl_copyTermN n t=some t:=by
 refine Tt.ind' (M:=fun t=>t.cnt≤10000000→∀ n,3*aF t≤n→impl_copyTermN n t=some t) (fun t ih hc n hn=>?_) t
 have hp:=t.pos
 have hu:=t.cnt_u
 have hl:=cnts_len t.Args
 obtain⟨m,rfl⟩:∃ m,n=m+2:=⟨n-2,by omega⟩
 show impl_copyTermN (m+2) _=_
 rw[impl_copyTermN]
 show ae (impl_copyTermsN (m+1) t.Args) _=_
 rw[impl_copyTermsN,isEmpty_dec]
 cases he:t.Args.isEmpty
 ·rw[cond_false,toL (f:=impl_copyTermN m) (g:=fun x=>x) (z:=(Tt.mk (⟨#[]⟩:ByteArray) ([]))) (xs:=t.Args) (fun a ha=>ih a ha (by have:=cnts_mem ha; omega) m (by have:=Tt.lt ha; omega)) (by omega)]
  simp[t.eta]
 ·have h0:t.Args=[]:=by simpa using he
  rw[cond_true,al]
  conv=>rhs; rw[← t.eta,h0]
theorem copyT(t:Tt)(h:t.cnt≤10000000):impl_copyTerm t=some t:=lim_eq ⟨_,copyTN t h⟩
theorem cnt_of_tot{t:Tt}(h:t.tot≤1048576):t.cnt≤10000000:=by have:=Tt.cnt_tot t; omega
theorem Ft.tot_atom(a:Ft):a.Atom.tot≤a.tot:=by rw[Ft.tot_u]; omega
theorem Ft.tot_part{a p:Ft}(h:p∈a.Parts):p.tot+1≤a.tot:=by
 have:=tot_mem Ft.tot h
 rw[Ft.tot_u a]; omega
theorem Ft.tot_len(a:Ft):a.Parts.length≤a.tot:=by
 have:=ltot_len Ft.tot a.Parts
 rw[Ft.tot_u a]; omega
theorem mapParts_eq(a:Ft)(f:Ft→Option Ft)(g:Ft→Ft)(h:∀ p∈a.Parts,f p=some (g p))(ht:a.tot≤1048576):
 impl_mapParts a f=some (Ft.mk a.Op a.Atom a.Var (a.Parts.map g)):=by
 unfold impl_mapParts
 rw[copyT _ (cnt_of_tot (by have:=a.tot_atom; omega)),al]
 simp only[forN_idx]
 rw[mapL (f:=f) (g:=g) a.Parts 0 [] h (by have:=a.tot_len; simp; omega),thenL_inr]
 simp
theorem ownFN(a:Ft):a.tot≤1048576→∀ n,2*aF a≤n→spec_l8OwnN n a=some a:=by
 refine Ft.ind' (M:=fun a=>a.tot≤1048576→∀ n,2*aF a≤n→spec_l8OwnN n a=some a) (fun a ih ht n hn=>?_) a
 have hp:=a.pos
 cases n with
 | zero=>omega
 | succ n=>
  rw[spec_l8OwnN,ownT _ (cnt_of_tot (by have:=a.tot_atom; omega)),al]
  simp only[forN_idx]
  rw[mapL (f:=spec_l8OwnN n) (g:=fun x=>x) a.Parts 0 [] (fun p hp=>ih p hp (by have:=Ft.tot_part hp; omega) n (by have:=Ft.lt hp; omega)) (by have:=a.tot_len; simp; omega),thenL_inr]
  simp[a.eta]
theorem ownF(a:Ft)(h:a.tot≤1048576):spec_l8Own a=some a:=lim_eq ⟨_,ownFN a h⟩

end
section
/-! Simplification of formulas. -/
theorem zeroT_iff{t:Tt}:zeroT t=true↔t=⟨⟨#[]⟩,[]⟩:=by
 unfold zeroT
 rw[aC,decide_eq_true_iff,List.isEmpty_iff]
 constructor
 ·rintro ⟨h1,h2⟩; rw[← t.eta,h1,h2]
 ·intro h; rw[h]; exact⟨rfl,rfl⟩
abbrev zt:Tt:=Tt.mk (⟨#[]⟩:ByteArray) []
abbrev es:ByteArray:=(⟨#[]⟩:ByteArray)
abbrev fC(o:Int):Ft:=Ft.mk o zt es []
abbrev fN(p:Ft):Ft:=Ft.mk 4 zt es [p]
abbrev fB(o:Int)(p q:Ft):Ft:=Ft.mk o zt es [p,q]
abbrev fQ(o:Int)(v:ByteArray)(p:Ft):Ft:=Ft.mk o zt v [p]
def K(p:Ft):Prop:=p.Op=1∨p.Op=2
theorem good_cases{f:Ft}(h:f.good=true):
 (∃ o,(o=1∨o=2)∧f=fC o)∨(∃ t,f=Ft.mk 3 t es []∧atomT t=true)∨(∃ p,f=fN p∧p.good=true)∨
 (∃ o p q,(o=5∨o=6∨o=7)∧f=fB o p q∧p.good=true∧q.good=true)∨∃ o v p,(o=8∨o=9)∧f=fQ o v p∧isVarS v=true∧p.good=true:=by
 obtain⟨o,t,v,l⟩:=f
 rw[Ft.good_u,aC,List.all_eq_true] at h
 obtain⟨h,hp⟩:=h
 simp only[Ft.Op_mk,Ft.Atom_mk,Ft.Var_mk,aY] at h hp
 unfold formC at h
 have two:∀ k:Nat,l.length=k→(k=0→l=[])∧(k=1→∃ p,l=[p]∧p.good=true)∧(k=2→∃ p q,l=[p,q]∧p.good=true∧q.good=true):=by
  intro k hk
  refine⟨fun e=>List.eq_nil_of_length_eq_zero (by omega),fun e=>?_,fun e=>?_⟩
  ·match l,hk,hp with
   | [p],_,hp=>exact⟨p,rfl,hp p (by simp)⟩
   | [],hk,_=>simp at hk; omega
   | _::_::_,hk,_=>simp at hk; omega
  ·match l,hk,hp with
   | [p,q],_,hp=>exact⟨p,q,rfl,hp p (by simp),hp q (by simp)⟩
   | [],hk,_=>simp at hk; omega
   | [_],hk,_=>simp at hk; omega
   | _::_::_::_,hk,_=>simp at hk; omega
 by_cases e3:o=3
 ·rw[decide_eq_true e3,cond_true] at h
  simp only[aC,decide_eq_true_eq] at h
  rw[(two _ h.1).1 rfl,e3,h.2.2]
  exact .inr (.inl ⟨t,rfl,h.2.1⟩)
 rw[decide_eq_false e3,cond_false] at h
 by_cases eq:o=8∨o=9
 ·have:(decide (o=8)||decide (o=9))=true:=by simpa using eq
  rw[this,cond_true] at h
  simp only[aC,decide_eq_true_eq] at h
  obtain⟨p,rfl,hg⟩:=(two _ h.1).2.1 rfl
  rw[zeroT_iff.1 h.2.1]
  exact .inr (.inr (.inr (.inr ⟨o,v,p,eq,rfl,h.2.2,hg⟩)))
 have:(decide (o=8)||decide (o=9))=false:=by simpa using eq
 rw[this,cond_false,aC,aC,decide_eq_true_iff,zeroT_iff] at h
 obtain⟨h,rfl,rfl⟩:=h
 by_cases e1:o=1∨o=2
 ·have:(decide (o=1)||decide (o=2))=true:=by simpa using e1
  rw[this,cond_true,decide_eq_true_iff] at h
  rw[(two _ h).1 rfl]
  exact .inl ⟨o,e1,rfl⟩
 have:(decide (o=1)||decide (o=2))=false:=by simpa using e1
 rw[this,cond_false] at h
 by_cases e4:o=4
 ·rw[decide_eq_true e4,cond_true,decide_eq_true_iff] at h
  obtain⟨p,rfl,hg⟩:=(two _ h).2.1 rfl
  rw[e4]
  exact .inr (.inr (.inl ⟨p,rfl,hg⟩))
 rw[decide_eq_false e4,cond_false] at h
 by_cases e5:o=5∨o=6∨o=7
 ·have:(decide (o=5)||(decide (o=6)||decide (o=7)))=true:=by simpa using e5
  rw[this,cond_true,decide_eq_true_iff] at h
  obtain⟨p,q,rfl,hg,hg2⟩:=(two _ h).2.2 rfl
  exact .inr (.inr (.inr (.inl ⟨o,p,q,e5,rfl,hg,hg2⟩)))
 ·have:(decide (o=5)||(decide (o=6)||decide (o=7)))=false:=by simpa using e5
  rw[this] at h; cases h
theorem good_fC{o:Int}(h:o=1∨o=2):(fC o).good=true:=by
 rw[Ft.good_u]; rcases h with rfl | rfl<;>rfl
theorem good_fN{p:Ft}(h:p.good=true):(fN p).good=true:=by
 rw[Ft.good_u]
 show(formC 4 zt es 1&&[p].all Ft.good)=true
 simp only[List.all_cons,List.all_nil,h]; rfl
theorem good_fB{o:Int}{p q:Ft}(ho:o=5∨o=6∨o=7)(h:p.good=true)(h2:q.good=true):(fB o p q).good=true:=by
 rw[Ft.good_u]
 show(formC o zt es 2&&[p,q].all Ft.good)=true
 simp only[List.all_cons,List.all_nil,h,h2]
 rcases ho with rfl | rfl | rfl<;>rfl
theorem good_fQ{o:Int}{v:ByteArray}{p:Ft}(ho:o=8∨o=9)(hv:isVarS v=true)(h:p.good=true):(fQ o v p).good=true:=by
 rw[Ft.good_u]
 show(formC o zt v 1&&[p].all Ft.good)=true
 simp only[List.all_cons,List.all_nil,h]
 unfold formC
 rcases ho with rfl | rfl<;>(rw[hv]; rfl)
theorem cnt_fC(o:Int):(fC o).cnt=1:=by rw[Ft.cnt_u]; rfl
theorem cnt_fN(p:Ft):(fN p).cnt=1+p.cnt:=by rw[Ft.cnt_u]; simp[aY]
theorem cnt_fB(o:Int)(p q:Ft):(fB o p q).cnt=1+(p.cnt+q.cnt):=by rw[Ft.cnt_u]; simp[aY]
theorem cnt_fQ(o:Int)(v:ByteArray)(p:Ft):(fQ o v p).cnt=1+p.cnt:=by rw[Ft.cnt_u]; simp[aY]
theorem tot_zt:zt.tot=0:=by rw[Tt.tot_mk]; rfl
theorem tot_fC(o:Int):(fC o).tot=0:=by rw[Ft.tot_mk,tot_zt]; rfl
theorem tot_fN(p:Ft):(fN p).tot=1+p.tot:=by rw[Ft.tot_mk,tot_zt]; simp[ltot]; rfl
theorem tot_fB(o:Int)(p q:Ft):(fB o p q).tot=2+(p.tot+q.tot):=by rw[Ft.tot_mk,tot_zt]; simp[ltot]; rfl
theorem tot_fQ(o:Int)(v:ByteArray)(p:Ft):(fQ o v p).tot=v.size+(1+p.tot):=by rw[Ft.tot_mk,tot_zt]; simp[ltot]
theorem ok_zt:zt.Ok:=.mk _ _ (by simp only[Big]; decide) (by simp[Big]) (by simp)
theorem ok_es:Big es.size:=by simp only[Big]; decide
theorem ok_fC{o:Int}(h:o=1∨o=2):(fC o).Ok:=.mk _ _ _ _ (by simp only[InR]; omega) ok_zt ok_es (by simp[Big]) (by simp)
theorem ok_fN{p:Ft}(h:p.Ok):(fN p).Ok:=.mk _ _ _ _ (by simp only[InR]; omega) ok_zt ok_es (by simp[Big]) (by simpa using h)
theorem ok_fB{o:Int}{p q:Ft}(ho:o=5∨o=6∨o=7)(h:p.Ok)(h2:q.Ok):(fB o p q).Ok:=.mk _ _ _ _ (by simp only[InR]; omega) ok_zt ok_es (by simp[Big]) (by simpa using⟨h,h2⟩)
theorem ok_fQ{o:Int}{v:ByteArray}{p:Ft}(ho:o=8∨o=9)(hv:Big v.size)(h:p.Ok):(fQ o v p).Ok:=.mk _ _ _ _ (by simp only[InR]; omega) ok_zt hv (by simp[Big]) (by simpa using h)
/-- A formula that stays as it is. -/
inductive NF:Ft→Prop
 | c (o:Int) (h:o=1∨o=2):NF (fC o)
 | a (t:Tt):NF (Ft.mk 3 t es [])
 | n (p:Ft) (hp:NF p) (h:¬ K p):NF (fN p)
 | b (o:Int) (p q:Ft) (ho:o=5∨o=6∨o=7) (hp:NF p) (hq:NF q) (h1:¬ K p) (h2:¬ K q) (h3:p≠q):NF (fB o p q)
 | q (o:Int) (v:ByteArray) (p:Ft) (ho:o=8∨o=9) (hp:NF p) (h:¬ K p):NF (fQ o v p)
/-! The steps. -/
noncomputable def sfd(o s w:Int)(p q:Ft):Ft:=bif decide (p.Op=s) then fC s else bif decide (q.Op=s) then fC s else bif decide (p.Op=w) then q else bif decide (q.Op=w) then p else bif same p q then p else fB o p q
noncomputable def imp(p q:Ft):Ft:=bif decide (p.Op=1) then q else bif decide (p.Op=2) then fC 1 else bif decide (q.Op=1) then fC 1 else bif same p q then fC 1 else bif decide (q.Op=2) then fN p else fB 7 p q
noncomputable def opB(o:Int)(p q:Ft):Ft:=bif decide (o=5) then sfd 5 2 1 p q else bif decide (o=6) then sfd 6 1 2 p q else imp p q
def kB(p:Ft):Bool:=decide (p.Op=1)||decide (p.Op=2)
theorem kB_iff{p:Ft}:kB p=true↔K p:=by unfold kB K; simp
def opN(p:Ft):Ft:=bif kB p then fC (3-p.Op) else fN p
def opQ(o:Int)(v:ByteArray)(p:Ft):Ft:=bif kB p then p else fQ o v p
theorem sfd_impl(o s w:Int)(p q:Ft):impl_simplified o s w p q=some (sfd o s w p q):=by
 unfold impl_simplified sfd
 cases decide (p.Op=s)<;>cases decide (q.Op=s)<;>cases decide (p.Op=w)<;>cases decide (q.Op=w)<;>try rfl
 all_goals
  simp only[cond_false,sameF_ok,al]
  cases same p q<;>rfl
theorem imp_impl(p q:Ft):impl_implication p q=some (imp p q):=by
 unfold impl_implication imp
 cases decide (p.Op=1)<;>cases decide (p.Op=2)<;>cases decide (q.Op=1)<;>try rfl
 all_goals
  simp only[cond_false,sameF_ok,al]
  cases same p q<;>cases decide (q.Op=2)<;>rfl
theorem const_impl(p:Ft):impl_isConstant p=some (kB p):=by
 unfold impl_isConstant kB
 cases decide (p.Op=1)<;>rfl
theorem const_spec(p:Ft):spec_l20Constant p=some (kB p):=const_impl p
theorem two_spec{p q:Ft}(hp:p.tot≤1048576)(hq:q.tot≤1048576):spec_l20Two 5 p q=some (sfd 5 2 1 p q)∧spec_l20Two 6 p q=some (sfd 6 1 2 p q):=by
 unfold spec_l20Two sfd
 simp only[ownF p hp,ownF q hq,l8Same_ok,al]
 constructor
 ·rw[decide_eq_false (by omega:¬ (5:Int)=6),cond_false]
  cases decide (p.Op=2)<;>cases decide (q.Op=2)<;>cases decide (p.Op=1)<;>cases decide (q.Op=1)<;>cases same p q<;>rfl
 ·simp only[decide_true,cond_true]
  cases decide (p.Op=1)<;>cases decide (q.Op=1)<;>cases decide (p.Op=2)<;>cases decide (q.Op=2)<;>cases same p q<;>rfl
theorem kop{p:Ft}(h:p.good=true)(hk:K p):p=fC p.Op:=by
 rcases good_cases h with⟨o,ho,rfl⟩ | ⟨t,rfl,_⟩ | ⟨p,rfl,_⟩ | ⟨o,p,q,ho,rfl,_⟩ | ⟨o,v,p,ho,rfl,_⟩
 ·rfl
 all_goals
  exfalso
  rcases hk with hk | hk<;>simp only[Ft.Op_mk] at hk<;>omega
end
section
/-! The truth of formulas. -/
def ewith(e:vt)(v:ByteArray)(x:Nat):vt:=vt.mk (e.names++[v]) (e.values++[(x:Int)])
mutual
def Ft.tv(H:vt→Tt→Bool)(n:Nat):Ft→vt→Bool
 | .mk o t v l,e=>if o=1 then true else if o=2 then false else if o=3 then H e t else if o=4 then !((Ft.tvs H n l).getD 0 (fun _=>false) e)
  else if o=5 then(Ft.tvs H n l).getD 0 (fun _=>false) e&&(Ft.tvs H n l).getD 1 (fun _=>false) e
  else if o=6 then(Ft.tvs H n l).getD 0 (fun _=>false) e||(Ft.tvs H n l).getD 1 (fun _=>false) e
  else if o=7 then !(Ft.tvs H n l).getD 0 (fun _=>false) e||(Ft.tvs H n l).getD 1 (fun _=>false) e
  else if o=9 then(List.range n).any (fun x=>(Ft.tvs H n l).getD 0 (fun _=>false) (ewith e v x))
  else(List.range n).all (fun x=>(Ft.tvs H n l).getD 0 (fun _=>false) (ewith e v x))
def Ft.tvs(H:vt→Tt→Bool)(n:Nat):List Ft→List (vt→Bool)
 | []=>[]
 | a::l=>a.tv H n::Ft.tvs H n l
end
section
variable(H:vt→Tt→Bool)(n:Nat)(e:vt)
theorem tv_c1:(fC 1).tv H n e=true:=by simp[Ft.tv]
theorem tv_c2:(fC 2).tv H n e=false:=by simp[Ft.tv]
theorem tv_a(t:Tt):(Ft.mk 3 t es []).tv H n e=H e t:=by simp[Ft.tv]
theorem tv_n(p:Ft):(fN p).tv H n e=!p.tv H n e:=by simp[Ft.tv,Ft.tvs]
theorem tv_b5(p q:Ft):(fB 5 p q).tv H n e=(p.tv H n e&&q.tv H n e):=by simp[Ft.tv,Ft.tvs]
theorem tv_b6(p q:Ft):(fB 6 p q).tv H n e=(p.tv H n e||q.tv H n e):=by simp[Ft.tv,Ft.tvs]
theorem tv_b7(p q:Ft):(fB 7 p q).tv H n e=(!p.tv H n e||q.tv H n e):=by simp[Ft.tv,Ft.tvs]
theorem tv_q8(v:ByteArray)(p:Ft):(fQ 8 v p).tv H n e=(List.range n).all (fun x=>p.tv H n (ewith e v x)):=by simp[Ft.tv,Ft.tvs]
theorem tv_q9(v:ByteArray)(p:Ft):(fQ 9 v p).tv H n e=(List.range n).any (fun x=>p.tv H n (ewith e v x)):=by simp[Ft.tv,Ft.tvs]
end
structure EOk(n:Nat)(e:vt):Prop where
 len:e.names.length=e.values.length
 vs:∀ v∈e.values,0≤v∧v<n
theorem EOk.with{n:Nat}{e:vt}(h:EOk n e)(v:ByteArray){x:Nat}(hx:x<n):EOk n (ewith e v x):=by
 refine⟨by simp[ewith,h.len],fun y hy=>?_⟩
 simp only[ewith] at hy
 rcases List.mem_append.1 hy with hy | hy
 ·exact h.vs y hy
 ·rw[List.mem_singleton.1 hy]; omega
theorem with_ok{e:vt}{n:Nat}(h:EOk n e)(hl:e.names.length≤1000000)(v:ByteArray)(x:Nat):vEnv__with e v (x:Int)=some (ewith e v x):=by
 have h2:=h.len
 unfold vEnv__with app
 rw[if_pos (by simp; omega),al,List.nil_append,if_pos (by simp; omega),al,if_pos (by simp; omega),al,List.nil_append,if_pos (by simp; omega),al]
 rfl
theorem vTrue_eq{c:List Int}{n:Nat}(hn:n≤1000){H:vt→Tt→Bool}(hH:∀ e,EOk n e→e.names.length≤1000000→∀ t:Tt,t.Ok→t.tot≤1048576→vHolds c (n:Int) e t=some (H e t))(f:Ft):
 f.good=true→f.Ok→f.tot≤1048576→∀ e,EOk n e→e.names.length+f.cnt≤1000000→∀ m,2*aF f≤m→vTrueN m c (n:Int) e f=some (f.tv H n e):=by
 refine Ft.ind' (M:=fun f=>f.good=true→f.Ok→f.tot≤1048576→∀ e,EOk n e→e.names.length+f.cnt≤1000000→∀ m,2*aF f≤m→vTrueN m c (n:Int) e f=some (f.tv H n e)) (fun f ih hg hok ht e he hl m hm=>?_) f
 have hp:=f.pos
 obtain⟨m,rfl⟩:∃ k,m=k+1:=⟨m-1,by omega⟩
 have part:∀ p∈f.Parts,p.Ok∧p.tot≤1048576∧2*aF p≤m:=fun p hp=>by
  have:=Ft.lt hp
  have:=Ft.tot_part hp
  exact⟨hok.u.2.2.2.2 p hp,by omega,by omega⟩
 rcases good_cases hg with⟨o,ho,rfl⟩ | ⟨t,rfl,_⟩ | ⟨p,rfl,gp⟩ | ⟨o,p,q,ho,rfl,gp,gq⟩ | ⟨o,v,p,ho,rfl,hv,gp⟩
 ·rcases ho with rfl | rfl
  ·rw[tv_c1]; rfl
  ·rw[tv_c2]; rfl
 ·rw[tv_a,vTrueN]
  have h1:=hok.u.2.1
  have h2:=Ft.tot_atom (Ft.mk 3 t es [])
  simp only[Ft.Atom_mk] at h1 h2
  show ae (vHolds c n e t) _=_
  rw[hH e he (by omega) t h1 (by omega)]; rfl
 ·obtain⟨o1,o2,o3⟩:=part p (by simp[aY])
  rw[cnt_fN] at hl
  have h1:=ih p (by simp[aY]) gp o1 o2 e he (by omega) m o3
  rw[tv_n,vTrueN]
  show ae (vTrueN m c n e p) _=_
  rw[h1]; rfl
 ·obtain⟨o1,o2,o3⟩:=part p (by simp[aY])
  obtain⟨u1,u2,u3⟩:=part q (by simp[aY])
  rw[cnt_fB] at hl
  have h1:=ih p (by simp[aY]) gp o1 o2 e he (by omega) m o3
  have h2:=ih q (by simp[aY]) gq u1 u2 e he (by omega) m u3
  rcases ho with rfl | rfl | rfl
  ·rw[tv_b5,vTrueN]
   show ae (vTrueN m c n e p) _=_
   rw[h1,al]
   cases p.tv H n e
   ·rfl
   ·show ae (vTrueN m c n e q) _=_
    rw[h2]; rfl
  ·rw[tv_b6,vTrueN]
   show ae (vTrueN m c n e p) _=_
   rw[h1,al]
   cases p.tv H n e
   ·show ae (vTrueN m c n e q) _=_
    rw[h2]; rfl
   ·rfl
  ·rw[tv_b7,vTrueN]
   show ae (vTrueN m c n e p) _=_
   rw[h1,al]
   cases p.tv H n e
   ·rfl
   ·show ae (vTrueN m c n e q) _=_
    rw[h2]; rfl
 ·obtain⟨o1,o2,o3⟩:=part p (by simp[aY])
  rw[cnt_fQ] at hl
  have h1:∀ x,x<n→vTrueN m c n (ewith e v x) p=some (p.tv H n (ewith e v x)):=fun x hx=>
   ih p (by simp[aY]) gp o1 o2 _ (he.with v hx) (by simp only[ewith,aU,List.length_singleton]; omega) m o3
  have hw:=with_ok he (by omega) v
  rcases ho with rfl | rfl
  ·rw[tv_q8,vTrueN]
   show ae (bnd (n:Int)) _=_
   rw[bnd_nat (by unfold Big; omega),al]
   rw[forN_all (fun x=>p.tv H n (ewith e v x)) (r0:=false) (fun j hj _=>by
    show ae (vEnv__with e v (j:Int)) _=_
    rw[hw,al]
    show ae (vTrueN m c n (ewith e v j) p) _=_
    rw[h1 j hj,al]
    cases p.tv H n (ewith e v j)<;>rfl)]
   cases (List.range n).all fun x=>p.tv H n (ewith e v x)<;>rfl
  ·rw[tv_q9,vTrueN]
   show ae (bnd (n:Int)) _=_
   rw[bnd_nat (by unfold Big; omega),al]
   rw[forN_all (fun x=>!p.tv H n (ewith e v x)) (r0:=true) (fun j hj _=>by
    show ae (vEnv__with e v (j:Int)) _=_
    rw[hw,al]
    show ae (vTrueN m c n (ewith e v j) p) _=_
    rw[h1 j hj,al]
    cases p.tv H n (ewith e v j)<;>rfl),← List.not_any_eq_all_not]
   cases (List.range n).any fun x=>p.tv H n (ewith e v x)<;>rfl
/-! Simplification. -/
theorem all_const{n:Nat}(hn:1≤n)(b:Bool):((List.range n).all fun _=>b)=b∧((List.range n).any fun _=>b)=b:=by
 obtain⟨k,rfl⟩:∃ k,n=k+1:=⟨n-1,by omega⟩
 rw[List.range_succ]
 cases b<;>simp
structure Smp(f g:Ft):Prop where
 good:g.good=true
 nf:NF g
 cnt:g.cnt≤f.cnt
 ok:g.Ok
 tot:g.tot≤f.tot
 tv:∀ (H:vt→Tt→Bool) (n:Nat),1≤n→∀ e,g.tv H n e=f.tv H n e
theorem kC{p:Ft}(h:p.good=true)(hk:kB p=true):p=fC 1∨p=fC 2:=by
 have:=kop h (kB_iff.1 hk)
 rcases kB_iff.1 hk with e | e<;>rw[e] at this
 ·exact .inl this
 ·exact .inr this
theorem not_k{p:Ft}(h1:¬ p.Op=1)(h2:¬ p.Op=2):¬ K p:=fun h=>h.elim h1 h2
theorem op1{p:Ft}(h:p.good=true)(e:p.Op=1):p=fC 1:=by have:=kop h (.inl e); rwa [e] at this
theorem op2{p:Ft}(h:p.good=true)(e:p.Op=2):p=fC 2:=by have:=kop h (.inr e); rwa [e] at this
theorem smp_B{o:Int}(ho:o=5∨o=6∨o=7){p q p' q':Ft}(hp:Smp p p')(hq:Smp q q'):Smp (fB o p q) (opB o p' q'):=by
 have cf:∀ i:Int,i=1∨i=2→(∀ (H:vt→Tt→Bool) (n:Nat),1≤n→∀ e,(fC i).tv H n e=(fB o p q).tv H n e)→Smp (fB o p q) (fC i):=fun i hi h=>
  ⟨good_fC hi,.c i hi,by rw[cnt_fC,cnt_fB]; omega,ok_fC hi,by rw[tot_fC]; omega,h⟩
 have lf:(∀ (H:vt→Tt→Bool) (n:Nat),1≤n→∀ e,p'.tv H n e=(fB o p q).tv H n e)→Smp (fB o p q) p':=fun h=>
  ⟨hp.good,hp.nf,by rw[cnt_fB]; have:=hp.cnt; omega,hp.ok,by rw[tot_fB]; have:=hp.tot; omega,h⟩
 have rt:(∀ (H:vt→Tt→Bool) (n:Nat),1≤n→∀ e,q'.tv H n e=(fB o p q).tv H n e)→Smp (fB o p q) q':=fun h=>
  ⟨hq.good,hq.nf,by rw[cnt_fB]; have:=hq.cnt; omega,hq.ok,by rw[tot_fB]; have:=hq.tot; omega,h⟩
 have bt:¬ K p'→¬ K q'→p'≠q'→Smp (fB o p q) (fB o p' q'):=fun h1 h2 h3=>
  ⟨good_fB ho hp.good hq.good,.b o p' q' ho hp.nf hq.nf h1 h2 h3,by rw[cnt_fB,cnt_fB]; have:=hp.cnt; have:=hq.cnt; omega,ok_fB ho hp.ok hq.ok,by rw[tot_fB,tot_fB]; have:=hp.tot; have:=hq.tot; omega,fun H n hn e=>by
   rcases ho with rfl | rfl | rfl
   ·rw[tv_b5,tv_b5,hp.tv H n hn,hq.tv H n hn]
   ·rw[tv_b6,tv_b6,hp.tv H n hn,hq.tv H n hn]
   ·rw[tv_b7,tv_b7,hp.tv H n hn,hq.tv H n hn]⟩
 rcases ho with rfl | rfl | rfl
 ·unfold opB sfd
  simp only[decide_true,cond_true]
  by_cases a2:p'.Op=2
  ·rw[decide_eq_true a2,cond_true]
   exact cf 2 (.inr rfl) fun H n hn e=>by rw[tv_b5,← hp.tv H n hn,op2 hp.good a2,tv_c2,Bool.false_and]
  rw[decide_eq_false a2,cond_false]
  by_cases b2:q'.Op=2
  ·rw[decide_eq_true b2,cond_true]
   exact cf 2 (.inr rfl) fun H n hn e=>by rw[tv_b5,← hq.tv H n hn,op2 hq.good b2,tv_c2,Bool.and_false]
  rw[decide_eq_false b2,cond_false]
  by_cases a1:p'.Op=1
  ·rw[decide_eq_true a1,cond_true]
   exact rt fun H n hn e=>by rw[tv_b5,← hp.tv H n hn,op1 hp.good a1,tv_c1,Bool.true_and,hq.tv H n hn]
  rw[decide_eq_false a1,cond_false]
  by_cases b1:q'.Op=1
  ·rw[decide_eq_true b1,cond_true]
   exact lf fun H n hn e=>by rw[tv_b5,← hq.tv H n hn,op1 hq.good b1,tv_c1,Bool.and_true,hp.tv H n hn]
  rw[decide_eq_false b1,cond_false]
  cases hs:same p' q' with
  | true=>
   rw[cond_true]
   exact lf fun H n hn e=>by rw[tv_b5,← hp.tv H n hn,← hq.tv H n hn,← same_iff.1 hs,Bool.and_self]
  | false=>
   rw[cond_false]
   exact bt (not_k a1 a2) (not_k b1 b2) (fun e=>by rw[same_iff.2 e] at hs; cases hs)
 ·unfold opB sfd
  rw[decide_eq_false (by omega:¬ (6:Int)=5),cond_false]
  simp only[decide_true,cond_true]
  by_cases a1:p'.Op=1
  ·rw[decide_eq_true a1,cond_true]
   exact cf 1 (.inl rfl) fun H n hn e=>by rw[tv_b6,← hp.tv H n hn,op1 hp.good a1,tv_c1,Bool.true_or]
  rw[decide_eq_false a1,cond_false]
  by_cases b1:q'.Op=1
  ·rw[decide_eq_true b1,cond_true]
   exact cf 1 (.inl rfl) fun H n hn e=>by rw[tv_b6,← hq.tv H n hn,op1 hq.good b1,tv_c1,Bool.or_true]
  rw[decide_eq_false b1,cond_false]
  by_cases a2:p'.Op=2
  ·rw[decide_eq_true a2,cond_true]
   exact rt fun H n hn e=>by rw[tv_b6,← hp.tv H n hn,op2 hp.good a2,tv_c2,Bool.false_or,hq.tv H n hn]
  rw[decide_eq_false a2,cond_false]
  by_cases b2:q'.Op=2
  ·rw[decide_eq_true b2,cond_true]
   exact lf fun H n hn e=>by rw[tv_b6,← hq.tv H n hn,op2 hq.good b2,tv_c2,Bool.or_false,hp.tv H n hn]
  rw[decide_eq_false b2,cond_false]
  cases hs:same p' q' with
  | true=>
   rw[cond_true]
   exact lf fun H n hn e=>by rw[tv_b6,← hp.tv H n hn,← hq.tv H n hn,← same_iff.1 hs,Bool.or_self]
  | false=>
   rw[cond_false]
   exact bt (not_k a1 a2) (not_k b1 b2) (fun e=>by rw[same_iff.2 e] at hs; cases hs)
 ·unfold opB imp
  rw[decide_eq_false (by omega:¬ (7:Int)=5),cond_false,decide_eq_false (by omega:¬ (7:Int)=6),cond_false]
  by_cases a1:p'.Op=1
  ·rw[decide_eq_true a1,cond_true]
   exact rt fun H n hn e=>by rw[tv_b7,← hp.tv H n hn,op1 hp.good a1,tv_c1,Bool.not_true,Bool.false_or,hq.tv H n hn]
  rw[decide_eq_false a1,cond_false]
  by_cases a2:p'.Op=2
  ·rw[decide_eq_true a2,cond_true]
   exact cf 1 (.inl rfl) fun H n hn e=>by rw[tv_b7,← hp.tv H n hn,op2 hp.good a2,tv_c2,tv_c1,Bool.not_false,Bool.true_or]
  rw[decide_eq_false a2,cond_false]
  by_cases b1:q'.Op=1
  ·rw[decide_eq_true b1,cond_true]
   exact cf 1 (.inl rfl) fun H n hn e=>by rw[tv_b7,← hq.tv H n hn,op1 hq.good b1,tv_c1,Bool.or_true]
  rw[decide_eq_false b1,cond_false]
  cases hs:same p' q' with
  | true=>
   rw[cond_true]
   exact cf 1 (.inl rfl) fun H n hn e=>by rw[tv_b7,← hp.tv H n hn,← hq.tv H n hn,← same_iff.1 hs,tv_c1,Bool.not_or_self]
  | false=>
   rw[cond_false]
   by_cases b2:q'.Op=2
   ·rw[decide_eq_true b2,cond_true]
    exact⟨good_fN hp.good,.n p' hp.nf (not_k a1 a2),by rw[cnt_fN,cnt_fB]; have:=hp.cnt; omega,ok_fN hp.ok,by rw[tot_fN,tot_fB]; have:=hp.tot; omega,fun H n hn e=>by
     rw[tv_n,tv_b7,← hq.tv H n hn,op2 hq.good b2,tv_c2,Bool.or_false,hp.tv H n hn]⟩
   ·rw[decide_eq_false b2,cond_false]
    exact bt (not_k a1 a2) (not_k b1 b2) (fun e=>by rw[same_iff.2 e] at hs; cases hs)
theorem smp_N{p p':Ft}(hp:Smp p p'):Smp (fN p) (opN p'):=by
 unfold opN
 cases hk:kB p' with
 | true=>
  rw[cond_true]
  rcases kC hp.good hk with e | e
  ·rw[e]
   refine⟨good_fC (.inr rfl),.c 2 (.inr rfl),by rw[cnt_fN]; rw[show fC (3-(fC 1).Op)=fC 2 from rfl,cnt_fC]; omega,ok_fC (.inr rfl),by rw[show fC (3-(fC 1).Op)=fC 2 from rfl,tot_fC]; omega,fun H n hn e'=>?_⟩
   rw[tv_n,← hp.tv H n hn,e,tv_c1]; exact tv_c2 H n e'
  ·rw[e]
   refine⟨good_fC (.inl rfl),.c 1 (.inl rfl),by rw[cnt_fN]; rw[show fC (3-(fC 2).Op)=fC 1 from rfl,cnt_fC]; omega,ok_fC (.inl rfl),by rw[show fC (3-(fC 2).Op)=fC 1 from rfl,tot_fC]; omega,fun H n hn e'=>?_⟩
   rw[tv_n,← hp.tv H n hn,e,tv_c2]; exact tv_c1 H n e'
 | false=>
  rw[cond_false]
  exact⟨good_fN hp.good,.n p' hp.nf (fun h=>by rw[kB_iff.2 h] at hk; cases hk),by rw[cnt_fN,cnt_fN]; have:=hp.cnt; omega,ok_fN hp.ok,by rw[tot_fN,tot_fN]; have:=hp.tot; omega,fun H n hn e=>by rw[tv_n,tv_n,hp.tv H n hn]⟩
theorem smp_Q{o:Int}{v:ByteArray}(ho:o=8∨o=9)(hv:isVarS v=true)(hb:Big v.size){p p':Ft}(hp:Smp p p'):Smp (fQ o v p) (opQ o v p'):=by
 unfold opQ
 cases hk:kB p' with
 | true=>
  rw[cond_true]
  refine⟨hp.good,hp.nf,by rw[cnt_fQ]; have:=hp.cnt; omega,hp.ok,by rw[tot_fQ]; have:=hp.tot; omega,fun H n hn e=>?_⟩
  have hc:∃ b,∀ e,p'.tv H n e=b:=by
   rcases kC hp.good hk with e | e
   ·exact⟨true,fun e'=>by rw[e,tv_c1]⟩
   ·exact⟨false,fun e'=>by rw[e,tv_c2]⟩
  obtain⟨b,hb⟩:=hc
  have h2:∀ e,p.tv H n e=b:=fun e=>by rw[← hp.tv H n hn,hb]
  rcases ho with rfl | rfl
  ·rw[tv_q8,hb]; simp only[h2]; rw[(all_const hn b).1]
  ·rw[tv_q9,hb]; simp only[h2]; rw[(all_const hn b).2]
 | false=>
  rw[cond_false]
  refine⟨good_fQ ho hv hp.good,.q o v p' ho hp.nf (fun h=>by rw[kB_iff.2 h] at hk; cases hk),by rw[cnt_fQ,cnt_fQ]; have:=hp.cnt; omega,ok_fQ ho hb hp.ok,by rw[tot_fQ,tot_fQ]; have:=hp.tot; omega,fun H n hn e=>?_⟩
  rcases ho with rfl | rfl
  ·rw[tv_q8,tv_q8]; simp only[hp.tv H n hn]
  ·rw[tv_q9,tv_q9]; simp only[hp.tv H n hn]
end
section
theorem nf_N{p:Ft}(h:NF (fN p)):NF p∧¬ K p:=by
 generalize e:fN p=g at h
 cases h with
 | c o h=>injection e with e1 e2 e3 e4; cases e4
 | a t=>injection e with e1 e2 e3 e4; cases e4
 | n p' hp h=>injection e with e1 e2 e3 e4; injection e4 with e5; rw[e5]; exact⟨hp,h⟩
 | b o p' q' ho hp hq h1 h2 h3=>injection e with e1 e2 e3 e4; injection e4 with e5 e6; cases e6
 | q o v p' ho hp h=>injection e with e1 e2 e3 e4; omega
theorem nf_B{o:Int}{p q:Ft}(h:NF (fB o p q)):NF p∧NF q∧¬ K p∧¬ K q∧p≠q:=by
 generalize e:fB o p q=g at h
 cases h with
 | c o h=>injection e with e1 e2 e3 e4; cases e4
 | a t=>injection e with e1 e2 e3 e4; cases e4
 | n p' hp h=>injection e with e1 e2 e3 e4; injection e4 with e5 e6; cases e6
 | b o p' q' ho hp hq h1 h2 h3=>injection e with e1 e2 e3 e4; injection e4 with e5 e6; injection e6 with e7; rw[e5,e7]; exact⟨hp,hq,h1,h2,h3⟩
 | q o v p' ho hp h=>injection e with e1 e2 e3 e4; injection e4 with e5 e6; cases e6
theorem nf_Q{o:Int}(ho:o=8∨o=9){v:ByteArray}{p:Ft}(h:NF (fQ o v p)):NF p∧¬ K p:=by
 generalize e:fQ o v p=g at h
 cases h with
 | c o h=>injection e with e1 e2 e3 e4; cases e4
 | a t=>injection e with e1 e2 e3 e4; cases e4
 | n p' hp h=>injection e with e1 e2 e3 e4; omega
 | b o p' q' ho hp hq h1 h2 h3=>injection e with e1 e2 e3 e4; injection e4 with e5 e6; cases e6
 | q o v p' ho hp h=>injection e with e1 e2 e3 e4; injection e4 with e5; rw[e5]; exact⟨hp,h⟩
theorem kB_false{p:Ft}(h:¬ K p):kB p=false:=by
 cases e:kB p with
 | false=>rfl
 | true=>exact absurd (kB_iff.1 e) h
theorem opB_fix{o:Int}(ho:o=5∨o=6∨o=7){p q:Ft}(h1:¬ K p)(h2:¬ K q)(h3:p≠q):opB o p q=fB o p q:=by
 have a1:¬ p.Op=1:=fun e=>h1 (.inl e)
 have a2:¬ p.Op=2:=fun e=>h1 (.inr e)
 have b1:¬ q.Op=1:=fun e=>h2 (.inl e)
 have b2:¬ q.Op=2:=fun e=>h2 (.inr e)
 have hs:same p q=false:=by
  cases e:same p q with
  | false=>rfl
  | true=>exact absurd (same_iff.1 e) h3
 unfold opB sfd imp
 rw[decide_eq_false a1,decide_eq_false a2,decide_eq_false b1,decide_eq_false b2,hs]
 rcases ho with rfl | rfl | rfl<;>rfl
theorem simp_main(f:Ft):f.good=true→f.Ok→f.tot≤1048576→∃ g,Smp f g∧(NF f→g=f)∧∀ m,2*aF f≤m→impl_simplifyN m f=some g∧spec_l20SimpleN m f=some g:=by
 refine Ft.ind' (M:=fun f=>f.good=true→f.Ok→f.tot≤1048576→∃ g,Smp f g∧(NF f→g=f)∧∀ m,2*aF f≤m→impl_simplifyN m f=some g∧spec_l20SimpleN m f=some g) (fun f ih hg hok ht=>?_) f
 have hpos:=f.pos
 have part:∀ p∈f.Parts,p.Ok∧p.tot≤1048576∧aF p<aF f:=fun p hp=>by
  have:=Ft.lt hp
  have:=Ft.tot_part hp
  exact⟨hok.u.2.2.2.2 p hp,by omega,by omega⟩
 have mp:∀ m,(∀ p∈f.Parts,∃ r,impl_simplifyN m p=some r)→impl_mapParts f (fun y0=>impl_simplifyN m y0)=some (Ft.mk f.Op f.Atom f.Var (f.Parts.map fun p=>(impl_simplifyN m p).getD default)):=fun m h=>
  mapParts_eq f _ _ (fun p hp=>by obtain⟨r,e⟩:=h p hp; rw[e]; rfl) ht
 have refl:∀ h:NF f,f.Parts=[]→Smp f f:=fun h _=>⟨hg,h,aS _,hok,aS _,fun _ _ _ _=>rfl⟩
 rcases good_cases hg with⟨o,ho,rfl⟩ | ⟨t,rfl,_⟩ | ⟨p,rfl,gp⟩ | ⟨o,p,q,ho,rfl,gp,gq⟩ | ⟨o,v,p,ho,rfl,hv,gp⟩
 ·refine⟨fC o,refl (.c o ho) rfl,fun _=>rfl,fun m hm=>?_⟩
  obtain⟨m,rfl⟩:∃ k,m=k+1:=⟨m-1,by omega⟩
  rw[impl_simplifyN,spec_l20SimpleN,mp m (by simp[aY]),al]
  constructor
  ·rcases ho with rfl | rfl<;>rfl
  ·show ae (spec_l8Own (fC o)) _=_
   rw[ownF _ ht]; rfl
 ·refine⟨_,refl (.a t) rfl,fun _=>rfl,fun m hm=>?_⟩
  obtain⟨m,rfl⟩:∃ k,m=k+1:=⟨m-1,by omega⟩
  rw[impl_simplifyN,spec_l20SimpleN,mp m (by simp[aY]),al]
  constructor
  ·rfl
  ·show ae (spec_l8Own (Ft.mk 3 t es [])) _=_
   rw[ownF _ ht]; rfl
 ·obtain⟨o1,o2,o3⟩:=part p (by simp[aY])
  obtain⟨p',s1,s2,s3⟩:=ih p (by simp[aY]) gp o1 o2
  refine⟨opN p',smp_N s1,fun h=>?_,fun m hm=>?_⟩
  ·obtain⟨h1,h2⟩:=nf_N h
   rw[s2 h1]; unfold opN; rw[kB_false h2]; rfl
  ·obtain⟨m,rfl⟩:∃ k,m=k+1:=⟨m-1,by omega⟩
   obtain⟨e1,e2⟩:=s3 m (by omega)
   rw[impl_simplifyN,spec_l20SimpleN,mp m (fun x hx=>by simp[aY] at hx; rw[hx]; exact⟨_,e1⟩),al]
   have hw:kB p'=true→IntKind.i64.wrap (3-p'.Op)=3-p'.Op:=fun h=>by
    have:=kB_iff.1 h
    rw[wrap64]<;>(rcases this with h | h<;>omega)
   have i0:idx [p'] 0=some p':=rfl
   have j0:idx [p] 0=some p:=rfl
   have d0:decide ((([p].length:Nat):Int)=0)=false:=rfl
   simp only[Ft.Op_mk,aY,Ft.Atom_mk,Ft.Var_mk,aG,List.map_nil,Option.getD_some,Int.reduceEq,decide_true,decide_false,cond_true,cond_false,al,const_impl,const_spec,e1,e2,i0,j0,d0]
   unfold opN
   cases hk:kB p' with
   | true=>rw[hw hk]; exact⟨rfl,rfl⟩
   | false=>exact⟨rfl,rfl⟩
 ·obtain⟨o1,o2,o3⟩:=part p (by simp[aY])
  obtain⟨u1,u2,u3⟩:=part q (by simp[aY])
  obtain⟨p',s1,s2,s3⟩:=ih p (by simp[aY]) gp o1 o2
  obtain⟨q',r1,r2,r3⟩:=ih q (by simp[aY]) gq u1 u2
  refine⟨opB o p' q',smp_B ho s1 r1,fun h=>?_,fun m hm=>?_⟩
  ·obtain⟨h1,h2,h3,h4,h5⟩:=nf_B h
   rw[s2 h1,r2 h2]; exact opB_fix ho h3 h4 h5
  ·obtain⟨m,rfl⟩:∃ k,m=k+1:=⟨m-1,by omega⟩
   obtain⟨e1,e2⟩:=s3 m (by omega)
   obtain⟨f1,f2⟩:=r3 m (by omega)
   rw[impl_simplifyN,spec_l20SimpleN,mp m (fun x hx=>by
    simp[aY] at hx
    rcases hx with rfl | rfl
    ·exact⟨_,e1⟩
    ·exact⟨_,f1⟩),al]
   have i0:idx [p',q'] 0=some p':=rfl
   have i1:idx [p',q'] 1=some q':=rfl
   have ts:=two_spec (p:=p') (q:=q') (by have:=s1.tot; omega) (by have:=r1.tot; omega)
   have j0:idx [p,q] 0=some p:=rfl
   have j1:idx [p,q] 1=some q:=rfl
   have d0:decide ((([p,q].length:Nat):Int)=0)=false:=rfl
   rcases ho with rfl | rfl | rfl
   ·simp only[Ft.Op_mk,aY,Ft.Atom_mk,Ft.Var_mk,aG,List.map_nil,Option.getD_some,Int.reduceEq,decide_true,decide_false,cond_true,cond_false,al,const_impl,const_spec,e1,e2,f1,f2,i0,i1,j0,j1,d0,ts.1]
    unfold impl_conjunction
    rw[sfd_impl]
    exact⟨rfl,rfl⟩
   ·simp only[Ft.Op_mk,aY,Ft.Atom_mk,Ft.Var_mk,aG,List.map_nil,Option.getD_some,Int.reduceEq,decide_true,decide_false,cond_true,cond_false,al,const_impl,const_spec,e1,e2,f1,f2,i0,i1,j0,j1,d0,ts.2]
    unfold impl_disjoined
    rw[sfd_impl]
    exact⟨rfl,rfl⟩
   ·simp only[Ft.Op_mk,aY,Ft.Atom_mk,Ft.Var_mk,aG,List.map_nil,Option.getD_some,Int.reduceEq,decide_true,decide_false,cond_true,cond_false,al,const_impl,const_spec,e1,e2,f1,f2,i0,i1,j0,j1,d0,imp_impl,l8Same_ok]
    refine⟨rfl,?_⟩
    unfold opB imp
    cases decide (p'.Op=1)<;>cases decide (p'.Op=2)<;>cases decide (q'.Op=1)<;>cases same p' q'<;>cases decide (q'.Op=2)<;>rfl
 ·obtain⟨o1,o2,o3⟩:=part p (by simp[aY])
  obtain⟨p',s1,s2,s3⟩:=ih p (by simp[aY]) gp o1 o2
  have hb:=hok.u.2.2.1
  simp only[Ft.Var_mk] at hb
  refine⟨opQ o v p',smp_Q ho hv hb s1,fun h=>?_,fun m hm=>?_⟩
  ·obtain⟨h1,h2⟩:=nf_Q ho h
   rw[s2 h1]; unfold opQ; rw[kB_false h2]; rfl
  ·obtain⟨m,rfl⟩:∃ k,m=k+1:=⟨m-1,by omega⟩
   obtain⟨e1,e2⟩:=s3 m (by omega)
   rw[impl_simplifyN,spec_l20SimpleN,mp m (fun x hx=>by simp[aY] at hx; rw[hx]; exact⟨_,e1⟩),al]
   have i0:idx [p'] 0=some p':=rfl
   have j0:idx [p] 0=some p:=rfl
   have d0:decide ((([p].length:Nat):Int)=0)=false:=rfl
   rcases ho with rfl | rfl
   all_goals
    simp only[Ft.Op_mk,aY,Ft.Atom_mk,Ft.Var_mk,aG,List.map_nil,Option.getD_some,Int.reduceEq,decide_true,decide_false,cond_true,cond_false,al,const_impl,const_spec,e1,e2,i0,j0,d0]
    unfold opQ
    cases hk:kB p'<;>exact⟨rfl,rfl⟩
end
section
/-- A cursor that has been moved at most n times, over bytes. -/
def CurOk(c:la)(n:Nat):Prop:=0≤c.at_f∧c.at_f≤(n:Int)∧∀ x∈c.code,0≤x∧x≤255
theorem CurOk.mono{c:la}{n m:Nat}(h:CurOk c n)(hm:n≤m):CurOk c m:=⟨h.1,by have:=h.2.1; omega,h.2.2⟩
theorem wrap_i64{x:Int}(h0:0≤x)(h1:x≤4611686018427387904):IntKind.i64.wrap x=x:=wrap64 (by omega) (by omega)
theorem bitand255(v:Int):0≤IntKind.i64.wrap (bitand .u64 v (255:Int))∧IntKind.i64.wrap (bitand .u64 v (255:Int))≤255:=by
 have h:∃ k:Nat,k≤255∧bitand .u64 v (255:Int)=(k:Int):=by
  refine⟨(BitVec.ofInt 64 v&&& BitVec.ofInt 64 255).toNat,?_,?_⟩
  ·rw[BitVec.toNat_and]
   exact Nat.le_trans Nat.and_le_right (by decide)
  ·have hk:(BitVec.ofInt 64 v&&& BitVec.ofInt 64 255).toNat≤255:=by
    rw[BitVec.toNat_and]; exact Nat.le_trans Nat.and_le_right (by decide)
   unfold bitand
   exact u64_nat (n:=(BitVec.ofInt 64 v&&& BitVec.ofInt 64 255).toNat) (by omega)
 obtain⟨k,hk,e⟩:=h
 rw[e,wrap_i64 (by omega) (by omega)]
 omega
theorem next_ok{c:la}{n:Nat}(h:CurOk c n)(hn:n≤1000000000):∃ v c',spec_l1Cur__next c=some (v,c')∧0≤v∧v≤255∧CurOk c' (n+1):=by
 obtain⟨h0,h1,h2⟩:=h
 have ha:IntKind.i64.wrap (c.at_f+1)=c.at_f+1:=wrap_i64 (by omega) (by omega)
 unfold spec_l1Cur__next
 have hs:∀ x:Int,shr .u64 x 40=some (x.fdiv (2 ^ (min (40:Int).toNat IntKind.u64.bits))):=fun x=>by simp[shr]
 by_cases e:c.at_f<(c.code.length:Int)
 ·rw[decide_eq_true e,cond_true]
  obtain⟨b,hb⟩:∃ b,c.code[c.at_f.toNat]?=some b:=⟨_,List.getElem?_eq_getElem (by omega)⟩
  have hbr:=h2 b (List.mem_of_getElem? hb)
  have hi:idx c.code c.at_f=some b:=by simp[idx,h0,hb]
  rw[hi,al,ha,wrap_i64 hbr.1 (by omega)]
  cases decide (c.at_f+1≤(c.code.length:Int)) with
  | true=>exact⟨_,_,rfl,hbr.1,hbr.2,by simp only; omega,by simp only; omega,h2⟩
  | false=>
   rw[cond_false,hs,al]
   exact⟨_,_,rfl,(bitand255 _).1,(bitand255 _).2,by simp only; omega,by simp only; omega,h2⟩
 ·rw[decide_eq_false e,cond_false,ha]
  cases decide (c.at_f+1≤(c.code.length:Int)) with
  | true=>exact⟨_,_,rfl,by omega,by omega,by simp only; omega,by simp only; omega,h2⟩
  | false=>
   rw[cond_false,hs,al]
   exact⟨_,_,rfl,(bitand255 _).1,(bitand255 _).2,by simp only; omega,by simp only; omega,h2⟩
theorem rem_lt{x m:Int}(h0:0≤x)(hm:0<m):∃ v,rem x m=some v∧0≤v∧v<m:=
 ⟨x.tmod m,by simp[rem,show m≠0 by omega],Int.tmod_nonneg _ h0,Int.tmod_lt_of_pos _ hm⟩
theorem pick_ok{c:la}{n:Nat}(m:Int)(h:CurOk c n)(hn:n+2≤1000000000):∃ v c',spec_l1Cur__pick c m=some (v,c')∧0≤v∧(1≤m→v<m)∧CurOk c' (n+2):=by
 unfold spec_l1Cur__pick
 by_cases e:m≤1
 ·rw[decide_eq_true e,cond_true]
  exact⟨_,_,rfl,by omega,fun _=>by omega,h.mono (by omega)⟩
 ·rw[decide_eq_false e,cond_false]
  obtain⟨v,c',e1,hv0,hv1,hc⟩:=next_ok h (by omega)
  rw[e1,al]
  by_cases e2:200<m
  ·rw[decide_eq_true e2,cond_true]
   obtain⟨u,c'',e3,hu0,hu1,hc'⟩:=next_ok hc (by omega)
   simp only[e3,al]
   rw[wrap_i64 (x:=v*256) (by omega) (by omega),wrap_i64 (by omega) (by omega)]
   obtain⟨q,e4,hq0,hq1⟩:=rem_lt (x:=v*256+u) (m:=m) (by omega) (by omega)
   rw[e4]
   exact⟨_,_,rfl,hq0,fun _=>hq1,hc'⟩
  ·rw[decide_eq_false e2,cond_false]
   obtain⟨q,e4,hq0,hq1⟩:=rem_lt (x:=v) (m:=m) hv0 (by omega)
   simp only[e4]
   exact⟨_,_,rfl,hq0,fun _=>hq1,hc.mono (by omega)⟩
theorem among_ok{c:la}{n:Nat}(l:List Int)(hl:l≠[])(h:CurOk c n)(hn:n+2≤1000000000):∃ v c',spec_l1Cur__among c l=some (v,c')∧v∈l∧CurOk c' (n+2):=by
 unfold spec_l1Cur__among
 have hp:0<l.length:=List.length_pos_iff.2 hl
 obtain⟨k,c',e,h0,h1,hc⟩:=pick_ok (l.length:Int) h hn
 have hk:=h1 (by omega)
 obtain⟨b,hb⟩:∃ b,l[k.toNat]?=some b:=⟨_,List.getElem?_eq_getElem (by omega)⟩
 have hi:idx l k=some b:=by simp[idx,h0,hb]
 simp only[e,al,hi]
 exact⟨_,_,rfl,List.mem_of_getElem? hb,hc⟩
theorem of_ok{c:la}{n:Nat}(l:List ByteArray)(hl:l≠[])(h:CurOk c n)(hn:n+2≤1000000000):∃ v c',spec_l1Cur__of c l=some (v,c')∧v∈l∧CurOk c' (n+2):=by
 unfold spec_l1Cur__of
 have hp:0<l.length:=List.length_pos_iff.2 hl
 obtain⟨k,c',e,h0,h1,hc⟩:=pick_ok (l.length:Int) h hn
 have hk:=h1 (by omega)
 obtain⟨b,hb⟩:∃ b,l[k.toNat]?=some b:=⟨_,List.getElem?_eq_getElem (by omega)⟩
 have hi:idx l k=some b:=by simp[idx,h0,hb]
 simp only[e,al,hi]
 exact⟨_,_,rfl,List.mem_of_getElem? hb,hc⟩
theorem one_ok{c:la}{n:Nat}(m:Int)(h:CurOk c n)(hn:n+2≤1000000000):∃ b c',spec_l1Cur__one c m=some (b,c')∧CurOk c' (n+2):=by
 unfold spec_l1Cur__one
 obtain⟨k,c',e,_,_,hc⟩:=pick_ok m h hn
 simp only[e,al]
 exact⟨_,_,rfl,hc⟩
/-- A loop that always goes on, with what holds at each turn. -/
theorem forN_inv{ρ σ:Type}{f:Nat→σ→Option (Flow ρ σ)}(I:Nat→σ→Prop):∀ (n i:Nat) (s:σ),I i s→(∀ j s,i≤j→j<i+n→I j s→∃ s',f j s=some (.nx s')∧I (j+1) s')→∃ s',forN f n i s=some (.inr s')∧I (i+n) s'
 | 0,i,s,h,_=>⟨s,rfl,h⟩
 | n+1,i,s,h,hf=>by
  obtain⟨s',e,h'⟩:=hf i s (by omega) (by omega) h
  rw[forN_nx e]
  obtain⟨s'',e2,h2⟩:=forN_inv I n (i+1) s' h' (fun j s hj hj'=>hf j s (by omega) (by omega))
  exact⟨s'',e2,by rw[show i+(n+1)=i+1+n by omega]; exact h2⟩
theorem app1{α:Type}{xs:List α}(x:α)(h:xs.length≤1000):app xs [x]=some (xs++[x]):=by
 unfold app; rw[if_pos (by simp; omega)]
end
section
/-! Values of terms, truth of atoms. -/
def Bytes(c:List Int):Prop:=c.length≤4611686018427387∧∀ x∈c,0≤x∧x≤255
theorem vAt_ok{c:List Int}(h:Bytes c){i:Int}(h0:0≤i)(h1:i≤1000):∃ v,vAt c i=some v∧0≤v∧v≤255:=by
 unfold vAt
 by_cases e:i<(c.length:Int)
 ·rw[decide_eq_true e,cond_true]
  obtain⟨b,hb⟩:∃ b,c[i.toNat]?=some b:=⟨_,List.getElem?_eq_getElem (by omega)⟩
  have hbr:=h.2 b (List.mem_of_getElem? hb)
  have hi:idx c i=some b:=by simp[idx,h0,hb]
  rw[hi,al,wrap_i64 hbr.1 (by omega)]
  exact⟨_,rfl,hbr.1,hbr.2⟩
 ·have hl:=h.1
  rw[decide_eq_false e,cond_false,wrap_i64 (x:=i*7) (by omega) (by omega),wrap_i64 (by omega) (by omega)]
  obtain⟨q,e4,hq0,hq1⟩:=rem_lt (x:=i*7+(c.length:Int)) (m:=256) (by omega) (by omega)
  rw[e4,al]
  exact⟨_,rfl,hq0,by omega⟩
theorem vMix_ok{c:List Int}(h:Bytes c){n:ByteArray}(hn:Big n.size)(vs:List Int)(hv:∀ v∈vs,0≤v∧v≤1000):∃ v,vMix c n vs=some v∧0≤v:=by
 unfold vMix
 simp only[Big] at hn
 have hb:bnd (n.size:Int)=some n.size:=by unfold bnd; rw[if_pos (by omega)]; simp
 rw[hb,al]
 obtain⟨s,e,hs0,hs1⟩:=forN_inv (ρ:=Int) (σ:=Int) (f:=fun (i3:Nat) (s3:Int)=>
  ae (sidx n (i3:Int)) fun v20=>
  ae (rem (IntKind.i64.wrap ((IntKind.i64.wrap ((31:Int)*s3))+(IntKind.i64.wrap v20))) (65521:Int)) fun v23=>
  some (.nx v23)) (fun _ s=>0≤s∧s≤65521) n.size 0 17 ⟨by omega,by omega⟩ (by
  intro j s _ hj hs
  have hi:sidx n (j:Int)=some ((n.data.toList.getD j 0).toNat:Int):=by
   unfold sidx; rw[if_pos ⟨by omega,by omega⟩]; simp
  have hb:=(n.data.toList.getD j 0).toNat_lt
  rw[hi,al,wrap_i64 (x:=31*s) (by omega) (by omega),wrap_i64 (x:=(((n.data.toList.getD j 0).toNat:Nat):Int)) (by omega) (by omega),wrap_i64 (by omega) (by omega)]
  obtain⟨q,e4,hq0,hq1⟩:=rem_lt (x:=31*s+(((n.data.toList.getD j 0).toNat:Nat):Int)) (m:=65521) (by omega) (by omega)
  rw[e4,al]
  exact⟨_,rfl,hq0,by omega⟩)
 rw[e,thenL_inr]
 obtain⟨s2,e2,hs0,hs1⟩:=forN_inv (ρ:=Int) (σ:=Int) (f:=fun (i7:Nat) (s7:Int)=>
  ae (idx vs (i7:Int)) fun v34=>
  ae (rem (IntKind.i64.wrap ((IntKind.i64.wrap ((IntKind.i64.wrap ((37:Int)*s7))+v34))+(1:Int))) (65521:Int)) fun v38=>
  some (.nx v38)) (fun _ s=>0≤s∧s≤65521) vs.length 0 s ⟨hs0,hs1⟩ (by
  intro j s _ hj hs
  have hj:j<vs.length:=by omega
  have hb:=hv _ (getD_mem hj)
  rw[idx_getD hj,al,wrap_i64 (x:=37*s) (by omega) (by omega),wrap_i64 (x:=37*s+vs.getD j default) (by omega) (by omega),wrap_i64 (by omega) (by omega)]
  obtain⟨q,e4,hq0,hq1⟩:=rem_lt (x:=37*s+vs.getD j default+1) (m:=65521) (by omega) (by omega)
  rw[e4,al]
  exact⟨_,rfl,hq0,by omega⟩)
 rw[e2,thenL_inr]
 obtain⟨q1,e1,hq0,hq1⟩:=rem_lt (x:=s2) (m:=53) hs0 (by omega)
 obtain⟨q2,e2,hr0,hr1⟩:=rem_lt (x:=s2) (m:=89) hs0 (by omega)
 obtain⟨v1,e3,hv0,hv1⟩:=vAt_ok h hq0 (by omega)
 obtain⟨v2,e4,hw0,hw1⟩:=vAt_ok h hr0 (by omega)
 simp only[e1,e2,e3,e4,al]
 rw[wrap_i64 (x:=13*v1) (by omega) (by omega),wrap_i64 (x:=s2+13*v1) (by omega) (by omega),wrap_i64 (by omega) (by omega)]
 have hq:quo (s2+13*v1+v2) 3=some (IntKind.i64.wrap ((s2+13*v1+v2).tdiv 3)):=by simp[quo]
 have hd0:0≤(s2+13*v1+v2).tdiv 3:=Int.tdiv_nonneg (by omega) (by omega)
 have hd1:(s2+13*v1+v2).tdiv 3≤s2+13*v1+v2:=by rw[Int.tdiv_eq_ediv_of_nonneg (by omega)]; omega
 rw[hq,al,wrap_i64 hd0 (by omega)]
 exact⟨_,rfl,hd0⟩
theorem get_ok{n:Nat}(hn:1≤n){e:vt}(he:EOk n e)(hl:e.names.length≤1000000)(x:ByteArray):∃ r,vEnv__get e x=some r∧0≤r∧r<n:=by
 have key:∀ i:Nat,i≤e.names.length→∃ r:Int ⊕ Int,Ev (fun n2=>whileN (ρ:=Int) (fun (s2:Int)=>
  bif decide ((0:Int)≤s2) then
   ae (idx e.names s2) fun v17=>
   bif decide (v17=x) then
    ae (idx e.values s2) fun v24=>
    some (.rt v24)
   else
    some (.nx (IntKind.i64.wrap (s2-(1:Int))))
  else
   some (.br s2)) n2 ((i:Int)-1)) r∧∀ v,r=.inl v→0≤v∧v<n:=by
  intro i
  induction i with
  | zero=>
   intro _
   refine⟨.inr (((0:Nat):Int)-1),ev_br (s':=((0:Nat):Int)-1) ?_,nofun⟩
   rw[decide_eq_false (by omega)]; rfl
  | succ i ih=>
   intro hi
   obtain⟨r,h1,h2⟩:=ih (by omega)
   have ei:((i+1:Nat):Int)-1=(i:Int):=by omega
   rw[ei]
   by_cases hx:e.names.getD i default=x
   ·have hv:=he.vs _ (getD_mem (l:=e.values) (i:=i) (by have:=he.len; omega))
    refine⟨.inl (e.values.getD i default),ev_rt ?_,fun v hv'=>by cases hv'; exact hv⟩
    rw[decide_eq_true (by omega),cond_true,idx_getD (by omega),al,decide_eq_true hx,cond_true,idx_getD (by have:=he.len; omega),al]
   ·refine⟨r,ev_nx (s':=(i:Int)-1) ?_ h1,h2⟩
    rw[decide_eq_true (by omega),cond_true,idx_getD (by omega),al,decide_eq_false hx,cond_false,wrap64 (by omega) (by omega)]
 obtain⟨r,h1,h2⟩:=key e.names.length (aS _)
 have hw:IntKind.i64.wrap ((e.names.length:Int)-(1:Int))=(e.names.length:Int)-1:=wrap64 (by omega) (by omega)
 unfold vEnv__get
 rw[hw]
 cases r with
 | inl v=>exact⟨v,(congrArg (fun z=>thenL z _) (lim_eq h1)).trans rfl,h2 v rfl⟩
 | inr s=>exact⟨0,(congrArg (fun z=>thenL z _) (lim_eq h1)).trans rfl,by omega,by omega⟩
theorem tot_arg{t a:Tt}(h:a∈t.Args):a.tot≤t.tot:=by
 have:=tot_mem Tt.tot h
 have:=Tt.tot_u t
 omega
theorem name_big{t:Tt}(h:t.tot≤1048576):Big t.Name.size∧t.Args.length≤1048576:=by
 have h1:=Tt.tot_u t
 have h2:=ltot_len Tt.tot t.Args
 exact⟨by unfold Big; omega,by omega⟩
theorem vals_map{F:Tt→Option Int}{n:Nat}(l:List Tt)(h:∀ a∈l,∃ r,F a=some r∧0≤r∧r<n)(hl:l.length≤1048576):
 ∃ vs:List Int,(∀ v∈vs,0≤v∧v<n)∧∀ ρ:Type,forN (ρ:=ρ) (fun (i5:Nat) (s5:(List Int))=>
  ae (idx l (i5:Int)) fun v52=>
  ae (F v52) fun v54=>
  ae (app s5 ([v54])) fun v56=>
  some (.nx v56)) l.length 0 ([])=some (.inr vs):=by
 obtain⟨R,hR⟩:=mem_choice h
 refine⟨l.map R,fun v hv=>?_,fun ρ=>?_⟩
 ·obtain⟨a,ha,rfl⟩:=List.mem_map.1 hv
  exact(hR a ha).2
 ·rw[forN_idx l (fun _ v52 (s5:List Int)=>ae (F v52) fun v54=>ae (app s5 ([v54])) fun v56=>some (.nx v56)),mapL (f:=F) (g:=R) l 0 [] (fun a ha=>(hR a ha).1) (by simp; omega)]
  simp
theorem val_ok{c:List Int}(hc:Bytes c){n:Nat}(hn:1≤n)(hn2:n≤1000){e:vt}(he:EOk n e)(hl:e.names.length≤1000000)(t:Tt):t.tot≤1048576→∃ r,(∀ m,2*aF t≤m→vValueN m c (n:Int) e t=some r)∧0≤r∧r<n:=by
 refine Tt.ind' (M:=fun t=>t.tot≤1048576→∃ r,(∀ m,2*aF t≤m→vValueN m c (n:Int) e t=some r)∧0≤r∧r<n) (fun t ih ht=>?_) t
 have hp:=t.pos
 obtain⟨hnb,hal⟩:=name_big ht
 obtain⟨R,hR⟩:=mem_choice (fun a ha=>ih a ha (by have:=tot_arg ha; omega))
 have ml:∀ m,2*aF t≤m+1→∀ ρ:Type,forN (ρ:=ρ) (fun (i5:Nat) (s5:(List Int))=>
  ae (idx t.Args (i5:Int)) fun v52=>
  ae (vValueN m c n e v52) fun v54=>
  ae (app s5 ([v54])) fun v56=>
  some (.nx v56)) t.Args.length 0 ([])=some (.inr (t.Args.map R)):=fun m hm ρ=>by
  rw[forN_idx t.Args (fun _ v52 (s5:List Int)=>ae (vValueN m c n e v52) fun v54=>ae (app s5 ([v54])) fun v56=>some (.nx v56)),mapL (f:=vValueN m c n e) (g:=R) t.Args 0 [] (fun a ha=>(hR a ha).1 m (by have:=Tt.lt ha; omega)) (by simp; omega)]
  simp
 obtain⟨w,hw,hw0⟩:=vMix_ok hc hnb (t.Args.map R) (fun v hv=>by
  obtain⟨a,ha,rfl⟩:=List.mem_map.1 hv
  have:=(hR a ha).2
  omega)
 obtain⟨q,hq,hq0,hq1⟩:=rem_lt (x:=w) (m:=(n:Int)) hw0 (by omega)
 have rest:∀ m,2*aF t≤m+1→(thenL (ρ:=Int) (σ:=(List Int)) (forN (fun (i5:Nat) (s5:(List Int))=>
  ae (idx t.Args (i5:Int)) fun v52=>
  ae (vValueN m c n e v52) fun v54=>
  ae (app s5 ([v54])) fun v56=>
  some (.nx v56)) t.Args.length 0 ([])) fun s5=>
  ae (vMix c t.Name s5) fun v61=>
  ae (rem v61 (n:Int)) fun v63=>
  some v63)=some q:=fun m hm=>by
  rw[ml m hm,thenL_inr,hw,al,hq]; rfl
 by_cases h0:(t.Args.length:Int)=0
 ·by_cases h1:(0:Int)<(t.Name.size:Int)
  ·have hs:sidx t.Name (0:Int)=some (((t.Name.data.toList.getD 0 0).toNat:Nat):Int):=by
    unfold sidx; rw[if_pos ⟨by omega,by omega⟩]; rfl
   by_cases h2:(65:Int)≤(((t.Name.data.toList.getD 0 0).toNat:Nat):Int)
   ·by_cases h3:(((t.Name.data.toList.getD 0 0).toNat:Nat):Int)≤90
    ·obtain⟨r,g1,g2⟩:=get_ok hn he hl t.Name
     refine⟨r,fun m hm=>?_,g2⟩
     obtain⟨m,rfl⟩:∃ k,m=k+1:=⟨m-1,by omega⟩
     rw[vValueN,decide_eq_true h0,cond_true,decide_eq_true h1,cond_true,hs,al,decide_eq_true h2,cond_true,al,decide_eq_true h3,cond_true,g1]; rfl
    ·refine⟨q,fun m hm=>?_,hq0,hq1⟩
     obtain⟨m,rfl⟩:∃ k,m=k+1:=⟨m-1,by omega⟩
     rw[vValueN,decide_eq_true h0,cond_true,decide_eq_true h1,cond_true,hs,al,decide_eq_true h2,cond_true,al,decide_eq_false h3,cond_false]; exact rest m hm
   ·refine⟨q,fun m hm=>?_,hq0,hq1⟩
    obtain⟨m,rfl⟩:∃ k,m=k+1:=⟨m-1,by omega⟩
    rw[vValueN,decide_eq_true h0,cond_true,decide_eq_true h1,cond_true,hs,al,decide_eq_false h2,cond_false]; exact rest m hm
  ·refine⟨q,fun m hm=>?_,hq0,hq1⟩
   obtain⟨m,rfl⟩:∃ k,m=k+1:=⟨m-1,by omega⟩
   rw[vValueN,decide_eq_true h0,cond_true,decide_eq_false h1,cond_false]; exact rest m hm
 ·refine⟨q,fun m hm=>?_,hq0,hq1⟩
  obtain⟨m,rfl⟩:∃ k,m=k+1:=⟨m-1,by omega⟩
  rw[vValueN,decide_eq_false h0,cond_false]; exact rest m hm
theorem holds_ok{c:List Int}(hc:Bytes c){n:Nat}(hn:1≤n)(hn2:n≤1000){e:vt}(he:EOk n e)(hl:e.names.length≤1000000)(t:Tt)(ht:t.tot≤1048576):∃ b,vHolds c (n:Int) e t=some b:=by
 obtain⟨hnb,hal⟩:=name_big ht
 have hv:∀ a∈t.Args,∃ r,vValue c (n:Int) e a=some r∧0≤r∧r<n:=fun a ha=>by
  obtain⟨r,h1,h2⟩:=val_ok hc hn hn2 he hl a (by have:=tot_arg ha; omega)
  exact⟨r,lim_eq ⟨_,h1⟩,h2⟩
 obtain⟨vs,h1,h2⟩:=vals_map t.Args hv hal
 have hs:sapp (⟨#[126]⟩:ByteArray) t.Name=some ((⟨#[126]⟩:ByteArray)++t.Name):=by
  have h3:(⟨#[126]⟩:ByteArray).size=1:=rfl
  have h4:=Tt.tot_u t
  unfold sapp; rw[if_pos (by omega)]
 have hb:Big ((⟨#[126]⟩:ByteArray)++t.Name).size:=by
  have h3:(⟨#[126]⟩:ByteArray).size=1:=rfl
  have h4:=Tt.tot_u t
  unfold Big; rw[ByteArray.size_append]; omega
 obtain⟨w,hw,hw0⟩:=vMix_ok hc hb vs (fun v hv=>by have:=h1 v hv; omega)
 obtain⟨q,hq,_⟩:=rem_lt (x:=w) (m:=2) hw0 (by omega)
 unfold vHolds
 rw[h2,thenL_inr,hs,al,hw,al,hq]
 by_cases e1:t.Name=(⟨#[61]⟩:ByteArray)
 ·rw[decide_eq_true e1,cond_true]
  by_cases e2:(vs.length:Int)=2
  ·rw[decide_eq_true e2,cond_true,show(0:Int)=((0:Nat):Int) from rfl,show(1:Int)=((1:Nat):Int) from rfl,idx_getD (by omega),idx_getD (by omega)]
   exact⟨_,rfl⟩
  ·rw[decide_eq_false e2]; exact⟨_,rfl⟩
 ·rw[decide_eq_false e1]; exact⟨_,rfl⟩
end
section
/-! The drawn terms. -/
def SmT(k:Nat)(t:Tt):Prop:=t.Ok∧t.tot≤k
theorem smT_mk{x:ByteArray}{l:List Tt}{k m:Nat}(h:x.size≤8)(hl:∀ a∈l,SmT k a)(hn:l.length≤8)(hm:8+8*(k+1)≤m):SmT m (Tt.mk x l):=by
 refine⟨.mk x l (by simp only[Big]; omega) (by simp only[Big]; omega) (fun a ha=>(hl a ha).1),?_⟩
 have:∀ l:List Tt,(∀ a∈l,SmT k a)→ltot Tt.tot l≤l.length*(k+1):=by
  intro l
  induction l with
  | nil=>intro _; simp[ltot]
  | cons a l ih=>
   intro h
   have h1:=ih (fun x hx=>h x (by simp[hx]))
   have h2:=(h a (by simp)).2
   simp only[ltot,aG,a9,aZ] at h1 ⊢
   rw[Nat.succ_mul]
   omega
 have h3:=this l hl
 have h4:l.length*(k+1)≤8*(k+1):=Nat.mul_le_mul_right _ hn
 rw[Tt.tot_mk]
 omega
theorem SmT.mono{k m:Nat}{t:Tt}(h:SmT k t)(hm:k≤m):SmT m t:=⟨h.1,Nat.le_trans h.2 hm⟩
def ksz:Nat→Nat
 | 0=>16
 | d+1=>8+8*(ksz d+1)
theorem ksz_16:∀ d,16≤ksz d
 | 0=>aS _
 | d+1=>by have:=ksz_16 d; simp only[ksz]; omega
def bud:Nat→Nat
 | 0=>10
 | d+1=>2*bud d+10
theorem bud_ge:∀ d,d+10≤bud d
 | 0=>aS _
 | d+1=>by have:=bud_ge d; simp only[bud]; omega
theorem grownN_ok:∀ (d:Nat) (c:la) (m:Nat),CurOk c m→m+bud d≤1000000000→∃ t c',(∀ n,d+1≤n→spec_l1Cur__grownN n c (d:Int)=some (t,c'))∧SmT (ksz d) t∧CurOk c' (m+bud d):=by
 intro d
 induction d with
 | zero=>
  intro c m hc hm
  have hp0:bud 0=10:=rfl
  obtain⟨v,c',e1,e2,e3⟩:=of_ok [(⟨#[88]⟩:ByteArray),(⟨#[89]⟩:ByteArray),(⟨#[90]⟩:ByteArray),(⟨#[97]⟩:ByteArray),(⟨#[98]⟩:ByteArray),(⟨#[88]⟩:ByteArray),(⟨#[97]⟩:ByteArray)] (by simp) hc (by omega)
  have hv:v.size≤8:=by
   simp only[bg,List.not_mem_nil,or_false] at e2
   rcases e2 with rfl | rfl | rfl | rfl | rfl | rfl | rfl<;>decide
  refine⟨Tt.mk v [],c',fun n hn=>?_,smT_mk (k:=0) hv (by simp) (by simp) (by simp[ksz]),e3.mono (by omega)⟩
  cases n with
  | zero=>omega
  | succ n=>rw[spec_l1Cur__grownN,decide_eq_true (by omega),cond_true,e1]; rfl
 | succ d ih=>
  intro c m hc hm
  have hp:bud (d+1)=2*bud d+10:=rfl
  have hp1:=bud_ge d
  have hk:=ksz_16 d
  have leaf:∀ (c:la) (m':Nat),CurOk c m'→m'+2≤m+bud (d+1)→∃ v c',spec_l1Cur__of c [(⟨#[88]⟩:ByteArray),(⟨#[89]⟩:ByteArray),(⟨#[90]⟩:ByteArray),(⟨#[97]⟩:ByteArray),(⟨#[98]⟩:ByteArray),(⟨#[88]⟩:ByteArray),(⟨#[97]⟩:ByteArray)]=some (v,c')∧SmT (ksz (d+1)) (Tt.mk v [])∧CurOk c' (m+bud (d+1)):=by
   intro c m' hc hm'
   obtain⟨v,c',e1,e2,e3⟩:=of_ok [(⟨#[88]⟩:ByteArray),(⟨#[89]⟩:ByteArray),(⟨#[90]⟩:ByteArray),(⟨#[97]⟩:ByteArray),(⟨#[98]⟩:ByteArray),(⟨#[88]⟩:ByteArray),(⟨#[97]⟩:ByteArray)] (by simp) hc (by omega)
   have hv:v.size≤8:=by
    simp only[bg,List.not_mem_nil,or_false] at e2
    rcases e2 with rfl | rfl | rfl | rfl | rfl | rfl | rfl<;>decide
   exact⟨v,c',e1,smT_mk (k:=0) hv (by simp) (by simp) (by simp only[ksz]; omega),e3.mono (by omega)⟩
  by_cases hd:((d+1:Nat):Int)≤1
  ·obtain⟨v,c',e1,e2,e3⟩:=leaf c m hc (by omega)
   refine⟨_,c',fun n hn=>?_,e2,e3⟩
   cases n with
   | zero=>omega
   | succ n=>rw[spec_l1Cur__grownN,decide_eq_true hd,cond_true,e1]; rfl
  ·have hw:IntKind.i64.wrap (((d+1:Nat):Int)-(1:Int))=(d:Int):=by
    rw[wrap64 (by omega) (by omega)]; omega
   obtain⟨b,c1,q1,q2⟩:=one_ok (3:Int) hc (by omega)
   cases b
   ·obtain⟨b2,c2,r1,r2⟩:=one_ok (2:Int) q2 (by omega)
    obtain⟨t1,c3,s1,s2,s3⟩:=ih c2 (m+2+2) r2 (by omega)
    cases b2
    ·obtain⟨t2,c4,u1,u2,u3⟩:=ih c3 _ s3 (by omega)
     refine⟨Tt.mk (⟨#[103]⟩:ByteArray) [t1,t2],c4,fun n hn=>?_,smT_mk (k:=ksz d) (by decide) (by intro a ha; simp at ha; rcases ha with rfl | rfl<;>assumption) (by simp) (by simp only[ksz]; omega),u3.mono (by omega)⟩
     cases n with
     | zero=>omega
     | succ n=>
      rw[spec_l1Cur__grownN,decide_eq_false hd,cond_false,q1,al,cond_false,r1,al,cond_false,hw,s1 n (by omega),al,u1 n (by omega)]; rfl
    ·refine⟨Tt.mk (⟨#[102]⟩:ByteArray) [t1],c3,fun n hn=>?_,smT_mk (k:=ksz d) (by decide) (by intro a ha; simp at ha; rcases ha with rfl; assumption) (by simp) (by simp only[ksz]; omega),s3.mono (by omega)⟩
     cases n with
     | zero=>omega
     | succ n=>
      rw[spec_l1Cur__grownN,decide_eq_false hd,cond_false,q1,al,cond_false,r1,al,cond_true,hw,s1 n (by omega)]; rfl
   ·obtain⟨v,c',e1,e2,e3⟩:=leaf c1 _ q2 (by omega)
    refine⟨_,c',fun n hn=>?_,e2,e3⟩
    cases n with
    | zero=>omega
    | succ n=>rw[spec_l1Cur__grownN,decide_eq_false hd,cond_false,q1,al,cond_true,e1]; rfl
theorem ksz_mono{a b:Nat}(h:a≤b):ksz a≤ksz b:=by
 induction h with
 | refl=>exact aS _
 | step _ ih=>simp only[ksz]; omega
theorem bud_mono{a b:Nat}(h:a≤b):bud a≤bud b:=by
 induction h with
 | refl=>exact aS _
 | step _ ih=>simp only[bud]; omega
theorem term_ok{c:la}{m:Nat}(h:CurOk c m)(hm:m+200≤1000000000):∃ t c',spec_l1Cur__term c=some (t,c')∧SmT 9360 t∧CurOk c' (m+200):=by
 obtain⟨v,c1,e1,e2,e3,e4⟩:=pick_ok (3:Int) h (by omega)
 have e3:=e3 (by omega)
 obtain⟨d,rfl⟩:∃ d:Nat,v=d:=⟨v.toNat,by omega⟩
 have hb:bud (1+d)≤bud 3:=bud_mono (by omega)
 have hk:ksz (1+d)≤ksz 3:=ksz_mono (by omega)
 have hb3:bud 3=150:=rfl
 have hk3:ksz 3=9360:=rfl
 obtain⟨t,c2,f1,f2,f3⟩:=grownN_ok (1+d) c1 _ e4 (by omega)
 have hw:IntKind.i64.wrap ((1:Int)+(d:Int))=((1+d:Nat):Int):=by rw[wrap64 (by omega) (by omega)]; omega
 have hg:spec_l1Cur__grown c1 ((1+d:Nat):Int)=some (t,c2):=lim_eq ⟨_,f1⟩
 exact⟨t,c2,by unfold spec_l1Cur__term; rw[e1,al,hw,hg]; rfl,f2.mono (by omega),f3.mono (by omega)⟩
theorem tower_loop:∀ (d:Nat) (x:ByteArray) (l:List Tt) (k:Nat),d≤100→x.size≤8→(∀ a∈l,SmT k a)→l.length≤1→∃ y l',Ev (fun n2=>whileN (ρ:=Tt×la) (fun (s2:Int×ByteArray×(List Tt))=>
 bif decide ((1:Int)<s2.1) then
  some (.nx (IntKind.i64.wrap (s2.1-(1:Int)),(⟨#[102]⟩:ByteArray),[(Tt.mk s2.2.1 s2.2.2)]))
 else
  some (.br s2)) n2 ((d:Int),x,l)) (.inr (((if d=0 then 0 else 1:Nat):Int),y,l'))∧y.size≤8∧l'.length≤1∧∀ a∈l',SmT (k+9*d) a:=by
 intro d
 induction d with
 | zero=>intro x l k _ hx hl hn; exact⟨x,l,ev_br rfl,hx,hn,fun a ha=>(hl a ha).mono (by omega)⟩
 | succ d ih=>
  intro x l k hd hx hl hn
  by_cases h1:d=0
  ·subst h1; exact⟨x,l,ev_br rfl,hx,hn,fun a ha=>(hl a ha).mono (by omega)⟩
  ·have hs:SmT (k+9) (Tt.mk x l):=by
    refine⟨.mk x l (by simp only[Big]; omega) (by simp only[Big]; omega) (fun a ha=>(hl a ha).1),?_⟩
    rw[Tt.tot_mk]
    cases l with
    | nil=>simp only[ltot,List.map_nil,List.sum_nil,bB]; omega
    | cons a l=>
     cases l with
     | nil=>
      have:=(hl a (by simp)).2
      simp only[ltot,aG,List.map_nil,a9,List.sum_nil,aZ,bB]; omega
     | cons b l=>simp at hn
   obtain⟨y,l',e1,e2,e3,e4⟩:=ih (⟨#[102]⟩:ByteArray) [Tt.mk x l] (k+9) (by omega) (by decide) (by intro a ha; simp at ha; rw[ha]; exact hs) (by simp)
   rw[if_neg h1] at e1
   refine⟨y,l',?_,e2,e3,fun a ha=>(e4 a ha).mono (by omega)⟩
   rw[if_neg (by omega)]
   refine ev_nx ?_ e1
   show(bif decide ((1:Int)<((d+1:Nat):Int)) then _ else _)=_
   rw[decide_eq_true (by omega),cond_true,show IntKind.i64.wrap (((d+1:Nat):Int)-(1:Int))=(d:Int) by rw[wrap64 (by omega) (by omega)]; omega]
theorem tower_ok{c:la}{m d:Nat}(h:CurOk c m)(hm:m+2≤1000000000)(hd:d≤100):∃ t c',spec_l1Cur__tower c (d:Int)=some (t,c')∧SmT 9360 t∧CurOk c' (m+2):=by
 obtain⟨v,c',e1,e2,e3⟩:=of_ok [(⟨#[88]⟩:ByteArray),(⟨#[97]⟩:ByteArray)] (by simp) h (by omega)
 have hv:v.size≤8:=by
  simp only[bg,List.not_mem_nil,or_false] at e2
  rcases e2 with rfl | rfl<;>decide
 obtain⟨y,l',f1,f2,f3,f4⟩:=tower_loop d v [] 0 hd hv (by simp) (by simp)
 refine⟨Tt.mk y l',c',?_,smT_mk (k:=900) f2 (fun a ha=>(f4 a ha).mono (by omega)) (by omega) (by omega),e3⟩
 unfold spec_l1Cur__tower
 rw[e1,al]
 refine(congrArg (fun z=>thenL z _) (lim_eq f1)).trans ?_
 rw[thenL_inr]
def leafH:Tt:=Tt.mk (⟨#[104]⟩:ByteArray) (List.replicate 4 (Tt.mk (⟨#[102]⟩:ByteArray) ([(Tt.mk (⟨#[97]⟩:ByteArray) ([]))])))
theorem leafH_ok:SmT 1000 leafH:=by
 refine smT_mk (k:=100) (by decide) (fun a ha=>?_) (by simp) (by omega)
 rw[List.eq_of_mem_replicate ha]
 exact smT_mk (k:=8) (by decide) (fun b hb=>by
  simp at hb; subst hb
  exact⟨.mk _ _ (by simp only[Big]; decide) (by simp[Big]) (by simp),by rw[Tt.tot_mk]; decide⟩) (by simp) (by omega)
theorem wide_loop:forN (ρ:=Tt×la) (fun (i3:Nat) (s3:(List Tt))=>
 thenL (ρ:=(Flow (Tt×la) (List Tt))) (σ:=(List Tt)) (forN (fun (i7:Nat) (s7:(List Tt))=>
  ae (app s7 ([(Tt.mk (⟨#[102]⟩:ByteArray) ([(Tt.mk (⟨#[97]⟩:ByteArray) ([]))]))])) fun v23=>
  some (.nx v23)) 4 0 ([])) fun s7=>
 ae (app s3 ([(Tt.mk (⟨#[104]⟩:ByteArray) s7)])) fun v29=>
 some (.nx v29)) 4 0 ([])=some (.inr (List.replicate 4 leafH)):=by
 simp[forN,app,thenL,leafH,List.replicate]
end
section
/-! The drawn arguments of FnMajorants. -/
theorem thenL_eq{ρ σ:Type}{m:Option (ρ ⊕ σ)}{s:σ}{k:σ→Option ρ}(h:m=some (.inr s)):thenL m k=k s:=by rw[h]; rfl
theorem smT_re{k:Nat}{x:ByteArray}{t:Tt}(h:SmT k t)(hx:x.size≤8)(hk:k≤1000000):SmT (k+8) (Tt.mk x t.Args):=by
 obtain⟨h1,h2⟩:=h
 have h3:=h1.u
 have h4:=Tt.tot_u t
 refine⟨.mk _ _ (by simp only[Big]; omega) h3.2.1 h3.2.2,?_⟩
 rw[Tt.tot_mk]; omega
theorem smT_arg{k:Nat}{t:Tt}(h:SmT k t):∀ a∈t.Args,SmT k a:=by
 intro a ha
 obtain⟨h1,h2⟩:=h
 have h3:=h1.u
 refine⟨h3.2.2 a ha,?_⟩
 have h4:=Tt.tot_u t
 have:a.tot≤(t.Args.map Tt.tot).sum:=le_sum_mem Tt.tot ha
 unfold ltot at h4; omega
theorem wide_ok{c:la}{m:Nat}(h:CurOk c m)(hm:m+4≤1000000000):∃ t c',spec_l1Cur__wide c=some (t,c')∧SmT 10000 t∧CurOk c' (m+4):=by
 unfold spec_l1Cur__wide
 refine(fun {P:Option (Tt×la)→Prop} (H:P _)=>(congrArg (fun z=>P (thenL z _)) wide_loop).mpr H) (P:=fun z=>∃ t c',z=some (t,c')∧SmT 10000 t∧CurOk c' (m+4)) ?_
 rw[thenL_inr]
 obtain⟨b,c1,e1,h1⟩:=one_ok 2 h (by omega)
 obtain⟨b2,c2,e2,h2⟩:=one_ok 2 h1 (by omega)
 have hr:∀ n,n≤4→SmT 10000 (Tt.mk (⟨#[103]⟩:ByteArray) (List.replicate n leafH)):=fun n hn=>
  smT_mk (k:=1000) (by decide) (fun a ha=>by rw[List.eq_of_mem_replicate ha]; exact leafH_ok) (by simp; omega) (by omega)
 have hb:SmT 10000 (Tt.mk (⟨#[103]⟩:ByteArray) (List.replicate 3 leafH++[Tt.mk (⟨#[102]⟩:ByteArray) [Tt.mk (⟨#[98]⟩:ByteArray) []]])):=by
  refine smT_mk (k:=1000) (by decide) (fun a ha=>?_) (by simp) (by omega)
  rcases List.mem_append.1 ha with ha | ha
  ·rw[List.eq_of_mem_replicate ha]; exact leafH_ok
  ·rw[List.mem_singleton.1 ha]
   exact smT_mk (k:=8) (by decide) (fun b hb=>by
    simp at hb; subst hb
    exact⟨.mk _ _ (by simp only[Big]; decide) (by simp[Big]) (by simp),by rw[Tt.tot_mk]; decide⟩) (by simp) (by omega)
 rw[e1,al]
 cases b
 ·rw[cond_false,e2,al]
  cases b2
  ·exact⟨_,_,rfl,hr 4 (by omega),h2.mono (by omega)⟩
  ·exact⟨_,_,rfl,hr 4 (by omega),h2.mono (by omega)⟩
 ·rw[cond_true,show slc (List.replicate 4 leafH) 0 3=some (List.replicate 3 leafH) from rfl,al,e2,al]
  cases b2
  ·exact⟨_,_,rfl,hr 3 (by omega),h2.mono (by omega)⟩
  ·exact⟨_,_,rfl,hb,h2.mono (by omega)⟩
theorem anyTerm_ok{c:la}{m:Nat}(h:CurOk c m)(hm:m+1000≤1000000000):∃ t c',spec_l1Cur__anyTerm c=some (t,c')∧SmT 50000 t∧CurOk c' (m+1000):=by
 unfold spec_l1Cur__anyTerm
 obtain⟨t,c1,e1,ht,h1⟩:=term_ok h (by omega)
 obtain⟨v,c2,e2,_,_,h2⟩:=pick_ok 24 h1 (by omega)
 rw[e1,al,e2,al]
 by_cases q:v=0
 ·obtain⟨w,c3,e3,hw,h3⟩:=of_ok [(⟨#[]⟩:ByteArray),(⟨#[116,114,117,101]⟩:ByteArray),(⟨#[116,114,117,116,104]⟩:ByteArray),(⟨#[105,102]⟩:ByteArray),(⟨#[88,121,122,57]⟩:ByteArray),(⟨#[88,121,122,57,57]⟩:ByteArray),(⟨#[120,65]⟩:ByteArray),(⟨#[97,95,98]⟩:ByteArray),(⟨#[97,98,99,100,101,102]⟩:ByteArray),(⟨#[97,98,99,100,101,102,103]⟩:ByteArray),(⟨#[95,97]⟩:ByteArray),(⟨#[57]⟩:ByteArray),(⟨#[88,95]⟩:ByteArray),(⟨#[61]⟩:ByteArray)] (by simp) h2 (by omega)
  have hws:w.size≤8:=by
   simp only[bg,List.not_mem_nil,or_false] at hw
   rcases hw with rfl | rfl | rfl | rfl | rfl | rfl | rfl | rfl | rfl | rfl | rfl | rfl | rfl | rfl<;>decide
  rw[decide_eq_true q,cond_true,e3,al]
  exact⟨_,_,rfl,(smT_re ht hws (by omega)).mono (by omega),h3.mono (by omega)⟩
 rw[decide_eq_false q,cond_false]
 by_cases q:v=1
 ·obtain⟨w,c3,e3,hw0,hw1,h3⟩:=pick_ok 3 h2 (by omega)
  have hw1:=hw1 (by omega)
  obtain⟨d,rfl⟩:∃ d:Nat,w=d:=⟨w.toNat,by omega⟩
  have hw:IntKind.i64.wrap ((7:Int)+(d:Int))=((7+d:Nat):Int):=by rw[wrap64 (by omega) (by omega)]; omega
  obtain⟨y,c4,e4,hy,h4⟩:=tower_ok (d:=7+d) h3 (by omega) (by omega)
  rw[decide_eq_true q,cond_true,e3,al,hw,e4,al]
  exact⟨_,_,rfl,hy.mono (by omega),h4.mono (by omega)⟩
 rw[decide_eq_false q,cond_false]
 by_cases q:v=2
 ·obtain⟨y,c4,e4,hy,h4⟩:=wide_ok h2 (by omega)
  rw[decide_eq_true q,cond_true,e4,al]
  exact⟨_,_,rfl,hy.mono (by omega),h4.mono (by omega)⟩
 rw[decide_eq_false q,cond_false]
 by_cases q:v=3
 ·obtain⟨a,c3,e3,ha,h3⟩:=term_ok h2 (by omega)
  obtain⟨b,c4,e4,hb,h4⟩:=term_ok h3 (by omega)
  obtain⟨d,c5,e5,hd,h5⟩:=term_ok h4 (by omega)
  have h6:=ht.1.u
  have h7:=Tt.tot_u t
  have h8:=ht.2
  have hl:t.Args.length≤ltot Tt.tot t.Args:=by unfold ltot; omega
  rw[decide_eq_true q,cond_true,e3,al,e4,al,e5,al,show app t.Args [a,b,d]=some (t.Args++[a,b,d]) by unfold app; rw[if_pos (by simp; omega)],al]
  refine⟨_,_,rfl,⟨.mk _ _ h6.1 (by simp[Big]; omega) (fun x hx=>?_),?_⟩,h5.mono (by omega)⟩
  ·rcases List.mem_append.1 hx with hx | hx
   ·exact h6.2.2 x hx
   ·simp at hx; rcases hx with rfl | rfl | rfl
    ·exact ha.1
    ·exact hb.1
    ·exact hd.1
  ·rw[Tt.tot_mk]
   have:=ha.2; have:=hb.2; have:=hd.2
   simp only[ltot,aU,List.map_append,List.sum_append,aG,List.map_nil,a9,List.sum_nil,aZ,bB] at h7 ⊢
   omega
 rw[decide_eq_false q,cond_false]
 by_cases q:v=4
 ·rw[decide_eq_true q,cond_true]
  by_cases hl:(0:Int)<(t.Args.length:Int)
  ·obtain⟨w,c3,e3,hw,h3⟩:=of_ok [(⟨#[61]⟩:ByteArray),(⟨#[]⟩:ByteArray),(⟨#[81,49]⟩:ByteArray),(⟨#[98,50]⟩:ByteArray)] (by simp) h2 (by omega)
   have hws:w.size≤8:=by
    simp only[bg,List.not_mem_nil,or_false] at hw
    rcases hw with rfl | rfl | rfl | rfl<;>decide
   rw[decide_eq_true hl,cond_true,e3,al]
   cases hA:t.Args with
   | nil=>rw[hA] at hl; simp at hl
   | cons a l=>
    have hs:=smT_re (smT_arg ht a (by rw[hA]; simp)) hws (by omega)
    have h6:=ht.1.u
    have h7:=Tt.tot_u t
    have h8:=ht.2
    rw[hA] at h6 h7
    rw[show idx (a::l) (0:Int)=some a from rfl,al]
    refine⟨_,_,rfl,⟨.mk _ _ h6.1 (by simpa[LOk] using h6.2.1) (fun x hx=>?_),?_⟩,h3.mono (by omega)⟩
    ·have hx:x=Tt.mk w a.Args∨x∈l:=by simpa using hx
     rcases hx with rfl | hx
     ·exact hs.1
     ·exact h6.2.2 x (by simp[hx])
    ·rw[Tt.tot_mk]
     have:=hs.2
     show _+ltot Tt.tot (Tt.mk w a.Args::l)≤_
     simp only[ltot,aG,a9,aZ] at h7 ⊢
     omega
  ·rw[decide_eq_false hl,cond_false]
   exact⟨_,_,rfl,ht.mono (by omega),h2.mono (by omega)⟩
 ·rw[decide_eq_false q,cond_false]
  exact⟨_,_,rfl,ht.mono (by omega),h2.mono (by omega)⟩
end
section
/-! Drawn formulas. -/
theorem cutsz_loop{ρ:Type}(cnt:Ft→Nat)(f:Ft→Option Int):∀ (l:List Ft) (i:Nat) (c0:Nat),(∀ a∈l,f a=some (cnt a:Int))→c0+(l.map cnt).sum≤2097152→
 forL (ρ:=ρ) (fun _ v (s:Int)=>(f v).bind fun w=>some (.nx (IntKind.i64.wrap (s+w)))) l i (c0:Int)=some (.inr ((c0+(l.map cnt).sum:Nat):Int))
 | [],i,c0,_,_=>by simp[forL]
 | a::l,i,c0,h,hb=>by
  simp only[aG,a9] at hb ⊢
  have w:IntKind.i64.wrap ((c0:Int)+(cnt a:Int))=((c0+cnt a:Nat):Int):=by rw[wrap64]<;>omega
  rw[forL_nx (s':=((c0+cnt a:Nat):Int)) (by rw[h a (by simp),al,w]),cutsz_loop cnt f l (i+1) (c0+cnt a) (fun b hb=>h b (by simp[hb])) (by omega),Nat.add_assoc]
theorem l8Size_eq(t:Ft):t.cnt≤2097152→∀ n,2*aF t≤n→spec_l8SizeN n t=some (t.cnt:Int):=by
 refine Ft.ind' (M:=fun t=>t.cnt≤2097152→∀ n,2*aF t≤n→spec_l8SizeN n t=some (t.cnt:Int)) (fun t ih hc n hn=>?_) t
 rw[Ft.cnt_u] at hc ⊢
 have hp:=t.pos
 cases n with
 | zero=>omega
 | succ n=>
  rw[spec_l8SizeN]
  simp only[forN_idx]
  have:=cutsz_loop (ρ:=Int) Ft.cnt (spec_l8SizeN n) t.Parts 0 1 (fun a ha=>ih a ha (by have:=le_sum_mem Ft.cnt ha; omega) n (by have:=Ft.lt ha; omega)) hc
  rw[show(1:Int)=((1:Nat):Int) from rfl,this]; rfl

def SmF(k:Nat)(f:Ft):Prop:=f.Ok∧f.tot≤k
theorem SmF.mono{k m:Nat}{f:Ft}(h:SmF k f)(hm:k≤m):SmF m f:=⟨h.1,Nat.le_trans h.2 hm⟩
theorem grown2_ok{c:la}{m:Nat}(h:CurOk c m)(hm:m+100≤1000000000):∃ t c',spec_l1Cur__grown c 2=some (t,c')∧SmT 9360 t∧CurOk c' (m+100):=by
 have hb:bud 2=70:=rfl
 have hk:ksz 2=1168:=rfl
 obtain⟨t,c2,f1,f2,f3⟩:=grownN_ok 2 c m h (by omega)
 exact⟨t,c2,lim_eq ⟨_,f1⟩,f2.mono (by omega),f3.mono (by omega)⟩
theorem atom_smf{x:ByteArray}{l:List Tt}(hx:x.size≤8)(hl:l.length≤2)(h:∀ a∈l,SmT 9360 a):SmF 20000 (Ft.mk 3 (Tt.mk x l) es []):=by
 have hok:(Tt.mk x l).Ok:=.mk _ _ (by simp only[Big]; omega) (by simp only[Big]; omega) (fun a ha=>(h a ha).1)
 have ht:(Tt.mk x l).tot≤20000:=by
  rw[Tt.tot_mk]
  match l,hl,h with
  | [],_,_=>simp[ltot]; omega
  | [a],_,h=>have:=(h a (by simp)).2; simp[ltot]; omega
  | [a,b],_,h=>have:=(h a (by simp)).2; have:=(h b (by simp)).2; simp[ltot]; omega
  | _::_::_::_,hl,_=>simp at hl
 exact⟨.mk _ _ _ _ (by simp only[InR]; omega) hok ok_es (by simp[Big]) (by simp),by rw[Ft.tot_mk]; simp[ltot]; exact ht⟩
theorem atom_ok{c:la}{m:Nat}(h:CurOk c m)(hm:m+500≤1000000000):∃ t c',spec_l1Cur__atom c=some (t,c')∧SmF 20000 (Ft.mk 3 t es [])∧CurOk c' (m+500):=by
 unfold spec_l1Cur__atom
 obtain⟨v,c1,e1,_,_,h1⟩:=pick_ok 8 h (by omega)
 rw[e1,al]
 obtain⟨a,c2,e2,ha,h2⟩:=term_ok h1 (by omega)
 obtain⟨b,c3,e3,hb,h3⟩:=term_ok h2 (by omega)
 obtain⟨x,c4,e4,hx,h4⟩:=grown2_ok h1 (by omega)
 obtain⟨y,c5,e5,hy,h5⟩:=grown2_ok h4 (by omega)
 have two:∀ {a b:Tt},SmT 9360 a→SmT 9360 b→∀ z∈[a,b],SmT 9360 z:=fun ha hb z hz=>by
  simp at hz; rcases hz with rfl | rfl<;>assumption
 by_cases q:v=0
 ·rw[decide_eq_true q,cond_true,e2,al,e3,al]
  exact⟨_,_,rfl,atom_smf (by decide) (by simp) (two ha hb),h3.mono (by omega)⟩
 rw[decide_eq_false q,cond_false]
 by_cases q:v=1
 ·rw[decide_eq_true q,cond_true,e2,al,e3,al]
  exact⟨_,_,rfl,atom_smf (by decide) (by simp) (two ha hb),h3.mono (by omega)⟩
 rw[decide_eq_false q,cond_false]
 by_cases q:v=2
 ·rw[decide_eq_true q,cond_true]
  exact⟨_,_,rfl,atom_smf (by decide) (by simp) (by simp),h1.mono (by omega)⟩
 rw[decide_eq_false q,cond_false]
 by_cases q:v=3
 ·rw[decide_eq_true q,cond_true,e4,al,e5,al]
  exact⟨_,_,rfl,atom_smf (by decide) (by simp) (two hx hy),h5.mono (by omega)⟩
 rw[decide_eq_false q,cond_false]
 by_cases q:v=4
 ·rw[decide_eq_true q,cond_true,e4,al,e5,al]
  exact⟨_,_,rfl,atom_smf (by decide) (by simp) (two hx hy),h5.mono (by omega)⟩
 ·rw[decide_eq_false q,cond_false,e4,al]
  exact⟨_,_,rfl,atom_smf (by decide) (by simp) (fun z hz=>by rw[List.mem_singleton.1 hz]; exact hx),h4.mono (by omega)⟩
theorem const_smf{v:Int}(h0:0≤v)(h1:v<2){k:Nat}:SmF k (Ft.mk (IntKind.i64.wrap (1+v)) zt es []):=by
 rw[wrap64 (by omega) (by omega)]
 have:1+v=1∨1+v=2:=by omega
 exact⟨ok_fC this,by rw[tot_fC]; omega⟩
def kf:Nat→Nat
 | 0=>20000
 | d+1=>2*kf d+20
def bf:Nat→Nat
 | 0=>600
 | d+1=>2*bf d+700
theorem kf_ge:∀ d,20000≤kf d
 | 0=>aS _
 | d+1=>by have:=kf_ge d; simp only[kf]; omega
theorem bf_ge:∀ d,d+600≤bf d
 | 0=>aS _
 | d+1=>by have:=bf_ge d; simp only[bf]; omega
theorem kf_mono{a b:Nat}(h:a≤b):kf a≤kf b:=by
 induction h with
 | refl=>exact aS _
 | step _ ih=>simp only[kf]; omega
theorem bf_mono{a b:Nat}(h:a≤b):bf a≤bf b:=by
 induction h with
 | refl=>exact aS _
 | step _ ih=>simp only[bf]; omega
theorem fN_smf{p:Ft}{k m:Nat}(h:SmF k p)(hm:k+1≤m):SmF m (fN p):=⟨ok_fN h.1,by rw[tot_fN]; have:=h.2; omega⟩
theorem fB_smf{o:Int}{p q:Ft}{k m:Nat}(ho:o=5∨o=6∨o=7)(h:SmF k p)(h2:SmF k q)(hm:2*k+2≤m):SmF m (fB o p q):=⟨ok_fB ho h.1 h2.1,by rw[tot_fB]; have:=h.2; have:=h2.2; omega⟩
theorem fQ_smf{o:Int}{v:ByteArray}{p:Ft}{k m:Nat}(ho:o=8∨o=9)(hv:v.size≤8)(h:SmF k p)(hm:k+9≤m):SmF m (fQ o v p):=⟨ok_fQ ho (by unfold Big; omega) h.1,by rw[tot_fQ]; have:=h.2; omega⟩
theorem built_ok:∀ (d:Nat) (c:la) (m:Nat),CurOk c m→m+bf d≤1000000000→∃ f c',(∀ n,d+1≤n→spec_l1Cur__builtN n c (d:Int)=some (f,c'))∧SmF (kf d) f∧CurOk c' (m+bf d):=by
 have leaf:∀ (c:la) (m:Nat),CurOk c m→m+600≤1000000000→∃ f c',(ae (spec_l1Cur__one c (16:Int)) fun v13=>
  bif v13.1 then
   ae (spec_l1Cur__pick v13.2 (2:Int)) fun v15=>
   some ((Ft.mk (IntKind.i64.wrap ((1:Int)+v15.1)) (Tt.mk (⟨#[]⟩:ByteArray) ([])) (⟨#[]⟩:ByteArray) ([])),v15.2)
  else
   ae (spec_l1Cur__atom v13.2) fun v19=>
   some ((Ft.mk (3:Int) v19.1 (⟨#[]⟩:ByteArray) ([])),v19.2))=some (f,c')∧SmF 20000 f∧CurOk c' (m+600):=by
  intro c m hc hm
  obtain⟨b,c1,e1,h1⟩:=one_ok 16 hc (by omega)
  rw[e1,al]
  cases b
  ·obtain⟨t,c2,e2,h2,h3⟩:=atom_ok h1 (by omega)
   rw[cond_false,e2,al]
   exact⟨_,_,rfl,h2,h3.mono (by omega)⟩
  ·obtain⟨v,c2,e2,v0,v1,h2⟩:=pick_ok 2 h1 (by omega)
   rw[cond_true,e2,al]
   exact⟨_,_,rfl,const_smf v0 (v1 (by omega)),h2.mono (by omega)⟩
 intro d
 induction d with
 | zero=>
  intro c m hc hm
  have hb0:bf 0=600:=rfl
  obtain⟨f,c',e1,e2,e3⟩:=leaf c m hc (by omega)
  refine⟨f,c',fun n hn=>?_,e2,e3.mono (by omega)⟩
  obtain⟨n,rfl⟩:∃ k,n=k+1:=⟨n-1,by omega⟩
  rw[spec_l1Cur__builtN,decide_eq_true (by omega),cond_true]; exact e1
 | succ d ih=>
  intro c m hc hm
  have hk:=kf_ge d
  have hb:=bf_ge d
  have hbs:bf (d+1)=2*bf d+700:=rfl
  have hks:kf (d+1)=2*kf d+20:=rfl
  by_cases hd:((d+1:Nat):Int)≤1
  ·obtain⟨f,c',e1,e2,e3⟩:=leaf c m hc (by omega)
   refine⟨f,c',fun n hn=>?_,e2.mono (by omega),e3.mono (by omega)⟩
   obtain⟨n,rfl⟩:∃ k,n=k+1:=⟨n-1,by omega⟩
   rw[spec_l1Cur__builtN,decide_eq_true hd,cond_true]; exact e1
  ·have hw:IntKind.i64.wrap (((d+1:Nat):Int)-(1:Int))=(d:Int):=by
    rw[wrap64 (by omega) (by omega)]; omega
   obtain⟨b,c1,q1,q2⟩:=one_ok (4:Int) hc (by omega)
   cases b
   ·obtain⟨o,c2,r1,ro,r2⟩:=among_ok [(4:Int),(5:Int),(6:Int),(7:Int),(8:Int),(9:Int),(8:Int),(9:Int),(5:Int),(7:Int)] (by simp) q2 (by omega)
    have ro:o=4∨o=8∨o=9∨(o=5∨o=6∨o=7):=by simp at ro; omega
    rcases ro with rfl | rfl | rfl | ho
    ·obtain⟨p,c3,s1,s2,s3⟩:=ih c2 _ r2 (by omega)
     refine⟨fN p,c3,fun n hn=>?_,fN_smf s2 (by omega),s3.mono (by omega)⟩
     obtain⟨n,rfl⟩:∃ k,n=k+1:=⟨n-1,by omega⟩
     rw[spec_l1Cur__builtN,decide_eq_false hd,cond_false,q1,al,cond_false,r1,al]
     simp only[decide_true,cond_true,hw,s1 n (by omega),al]
    ·obtain⟨v,c3,t1,tv,t2⟩:=of_ok [(⟨#[88]⟩:ByteArray),(⟨#[89]⟩:ByteArray),(⟨#[90]⟩:ByteArray),(⟨#[88]⟩:ByteArray)] (by simp) r2 (by omega)
     have hv:v.size≤8:=by
      simp only[bg,List.not_mem_nil,or_false] at tv
      rcases tv with rfl | rfl | rfl | rfl<;>decide
     obtain⟨p,c4,s1,s2,s3⟩:=ih c3 _ t2 (by omega)
     refine⟨fQ 8 v p,c4,fun n hn=>?_,fQ_smf (.inl rfl) hv s2 (by omega),s3.mono (by omega)⟩
     obtain⟨n,rfl⟩:∃ k,n=k+1:=⟨n-1,by omega⟩
     rw[spec_l1Cur__builtN,decide_eq_false hd,cond_false,q1,al,cond_false,r1,al]
     simp only[Int.reduceEq,decide_false,cond_false,decide_true,cond_true,t1,hw,s1 n (by omega),al]
    ·obtain⟨v,c3,t1,tv,t2⟩:=of_ok [(⟨#[88]⟩:ByteArray),(⟨#[89]⟩:ByteArray),(⟨#[90]⟩:ByteArray),(⟨#[88]⟩:ByteArray)] (by simp) r2 (by omega)
     have hv:v.size≤8:=by
      simp only[bg,List.not_mem_nil,or_false] at tv
      rcases tv with rfl | rfl | rfl | rfl<;>decide
     obtain⟨p,c4,s1,s2,s3⟩:=ih c3 _ t2 (by omega)
     refine⟨fQ 9 v p,c4,fun n hn=>?_,fQ_smf (.inr rfl) hv s2 (by omega),s3.mono (by omega)⟩
     obtain⟨n,rfl⟩:∃ k,n=k+1:=⟨n-1,by omega⟩
     rw[spec_l1Cur__builtN,decide_eq_false hd,cond_false,q1,al,cond_false,r1,al]
     simp only[Int.reduceEq,decide_false,cond_false,decide_true,cond_true,t1,hw,s1 n (by omega),al]
    ·obtain⟨p,c3,s1,s2,s3⟩:=ih c2 _ r2 (by omega)
     obtain⟨q,c4,u1,u2,u3⟩:=ih c3 _ s3 (by omega)
     refine⟨fB o p q,c4,fun n hn=>?_,fB_smf ho s2 u2 (by omega),u3.mono (by omega)⟩
     obtain⟨n,rfl⟩:∃ k,n=k+1:=⟨n-1,by omega⟩
     rw[spec_l1Cur__builtN,decide_eq_false hd,cond_false,q1,al,cond_false,r1,al]
     simp only[decide_eq_false (show ¬ o=4 by omega),decide_eq_false (show ¬ o=8 by omega),decide_eq_false (show ¬ o=9 by omega),cond_false,hw,s1 n (by omega),u1 n (by omega),al]
   ·obtain⟨f,c',e1,e2,e3⟩:=leaf c1 _ q2 (by omega)
    refine⟨f,c',fun n hn=>?_,e2.mono (by omega),e3.mono (by omega)⟩
    obtain⟨n,rfl⟩:∃ k,n=k+1:=⟨n-1,by omega⟩
    rw[spec_l1Cur__builtN,decide_eq_false hd,cond_false,q1,al,cond_true]; exact e1
theorem formula_ok{c:la}{m:Nat}(h:CurOk c m)(hm:m+30000≤1000000000):∃ f c',spec_l1Cur__formula c=some (f,c')∧SmF 330000 f∧CurOk c' (m+30000):=by
 unfold spec_l1Cur__formula
 obtain⟨v,c1,e1,v0,v1,h1⟩:=pick_ok 4 h (by omega)
 have v1:=v1 (by omega)
 obtain⟨d,rfl⟩:∃ d:Nat,v=(d:Int):=⟨v.toNat,by omega⟩
 have hb:bf (1+d)≤bf 4:=bf_mono (by omega)
 have hk:kf (1+d)≤kf 4:=kf_mono (by omega)
 have hb4:bf 4=20100:=rfl
 have hk4:kf 4=320300:=rfl
 obtain⟨f,c2,f1,f2,f3⟩:=built_ok (1+d) c1 _ h1 (by omega)
 have hw:IntKind.i64.wrap ((1:Int)+(d:Int))=((1+d:Nat):Int):=by rw[wrap64 (by omega) (by omega)]; omega
 have hg:spec_l1Cur__built c1 ((1+d:Nat):Int)=some (f,c2):=lim_eq ⟨_,f1⟩
 rw[e1,al,hw,hg]
 exact⟨_,_,rfl,f2.mono (by omega),f3.mono (by omega)⟩
theorem lit_ok{x:Int}(h0:1≤x)(h1:x≤4):∃ f,spec_l20Literal x=some f∧SmF 100 f:=by
 have e1:spec_l15Abs x=some x:=by unfold spec_l15Abs; rw[decide_eq_false (by omega)]; rfl
 have hw:IntKind.i64.wrap (x+1)=x+1:=wrap64 (by omega) (by omega)
 have hD:(⟨#[48,49,50,51,52,53,54,55,56,57]⟩:ByteArray).size=10:=rfl
 have e2:∃ s:ByteArray,spec_l1Num x=some s∧s.size≤10:=by
  refine⟨(⟨#[48,49,50,51,52,53,54,55,56,57]⟩:ByteArray).extract x.toNat (x+1).toNat,lim_eq ⟨1,fun n hn=>?_⟩,?_⟩
  ·obtain⟨n,rfl⟩:∃ k,n=k+1:=⟨n-1,by omega⟩
   show spec_l1NumN (n+1) x=_
   rw[spec_l1NumN,decide_eq_false (by omega),cond_false,decide_eq_true (by omega),cond_true,hw]
   unfold sslc
   rw[if_pos ⟨by omega,by omega,by rw[hD]; omega⟩]; rfl
  ·rw[ByteArray.size_extract,hD]; omega
 obtain⟨s,e2,hs⟩:=e2
 have hv:(⟨#[118]⟩:ByteArray).size=1:=rfl
 have e3:sapp (⟨#[118]⟩:ByteArray) s=some ((⟨#[118]⟩:ByteArray)++s):=by unfold sapp; rw[if_pos (by omega)]
 have h3:((⟨#[118]⟩:ByteArray)++s).size≤11:=by rw[ByteArray.size_append,hv]; omega
 unfold spec_l20Literal
 rw[e1,al,e2,al,e3,al,decide_eq_false (by omega),cond_false]
 refine⟨_,rfl,.mk _ _ _ _ (by simp only[InR]; omega) (.mk _ _ (by unfold Big; omega) (by simp[Big]) (by simp)) ok_es (by simp[Big]) (by simp),?_⟩
 have hz:(⟨#[]⟩:ByteArray).size=0:=rfl
 rw[Ft.tot_mk,Tt.tot_mk]; simp[ltot]; omega
theorem vars_ok:∀ (d:Nat) (c:la) (m:Nat),CurOk c m→m+bf d≤1000000000→∃ f c',(∀ n,d+1≤n→spec_l1Cur__variables20N n c (d:Int)=some (f,c'))∧SmF (kf d) f∧CurOk c' (m+bf d):=by
 have leaf:∀ (c:la) (m:Nat),CurOk c m→m+600≤1000000000→∃ f c',(ae (spec_l1Cur__one c (8:Int)) fun v13=>
  bif v13.1 then
   ae (spec_l1Cur__pick v13.2 (2:Int)) fun v15=>
   some ((Ft.mk (IntKind.i64.wrap ((1:Int)+v15.1)) (Tt.mk (⟨#[]⟩:ByteArray) ([])) (⟨#[]⟩:ByteArray) ([])),v15.2)
  else
   ae (spec_l1Cur__pick v13.2 (4:Int)) fun v19=>
   ae (spec_l20Literal (IntKind.i64.wrap ((1:Int)+v19.1))) fun v21=>
   some (v21,v19.2))=some (f,c')∧SmF 20000 f∧CurOk c' (m+600):=by
  intro c m hc hm
  obtain⟨b,c1,e1,h1⟩:=one_ok 8 hc (by omega)
  rw[e1,al]
  cases b
  ·obtain⟨v,c2,e2,v0,v1,h2⟩:=pick_ok 4 h1 (by omega)
   have v1:=v1 (by omega)
   obtain⟨f,e3,h3⟩:=lit_ok (x:=1+v) (by omega) (by omega)
   rw[cond_false,e2,al,wrap64 (by omega) (by omega),e3,al]
   exact⟨_,_,rfl,h3.mono (by omega),h2.mono (by omega)⟩
  ·obtain⟨v,c2,e2,v0,v1,h2⟩:=pick_ok 2 h1 (by omega)
   rw[cond_true,e2,al]
   exact⟨_,_,rfl,const_smf v0 (v1 (by omega)),h2.mono (by omega)⟩
 intro d
 induction d with
 | zero=>
  intro c m hc hm
  have hb0:bf 0=600:=rfl
  obtain⟨f,c',e1,e2,e3⟩:=leaf c m hc (by omega)
  refine⟨f,c',fun n hn=>?_,e2,e3.mono (by omega)⟩
  obtain⟨n,rfl⟩:∃ k,n=k+1:=⟨n-1,by omega⟩
  rw[spec_l1Cur__variables20N,decide_eq_true (by omega),cond_true]; exact e1
 | succ d ih=>
  intro c m hc hm
  have hk:=kf_ge d
  have hb:=bf_ge d
  have hbs:bf (d+1)=2*bf d+700:=rfl
  have hks:kf (d+1)=2*kf d+20:=rfl
  by_cases hd:((d+1:Nat):Int)≤1
  ·obtain⟨f,c',e1,e2,e3⟩:=leaf c m hc (by omega)
   refine⟨f,c',fun n hn=>?_,e2.mono (by omega),e3.mono (by omega)⟩
   obtain⟨n,rfl⟩:∃ k,n=k+1:=⟨n-1,by omega⟩
   rw[spec_l1Cur__variables20N,decide_eq_true hd,cond_true]; exact e1
  ·have hw:IntKind.i64.wrap (((d+1:Nat):Int)-(1:Int))=(d:Int):=by
    rw[wrap64 (by omega) (by omega)]; omega
   obtain⟨b,c1,q1,q2⟩:=one_ok (4:Int) hc (by omega)
   cases b
   ·obtain⟨o,c2,r1,ro,r2⟩:=among_ok [(4:Int),(5:Int),(6:Int),(7:Int)] (by simp) q2 (by omega)
    have ro:o=4∨(o=5∨o=6∨o=7):=by simp at ro; omega
    rcases ro with rfl | ho
    ·obtain⟨p,c3,s1,s2,s3⟩:=ih c2 _ r2 (by omega)
     refine⟨fN p,c3,fun n hn=>?_,fN_smf s2 (by omega),s3.mono (by omega)⟩
     obtain⟨n,rfl⟩:∃ k,n=k+1:=⟨n-1,by omega⟩
     rw[spec_l1Cur__variables20N,decide_eq_false hd,cond_false,q1,al,cond_false,r1,al]
     simp only[decide_true,cond_true,hw,s1 n (by omega),al]
    ·obtain⟨p,c3,s1,s2,s3⟩:=ih c2 _ r2 (by omega)
     obtain⟨q,c4,u1,u2,u3⟩:=ih c3 _ s3 (by omega)
     refine⟨fB o p q,c4,fun n hn=>?_,fB_smf ho s2 u2 (by omega),u3.mono (by omega)⟩
     obtain⟨n,rfl⟩:∃ k,n=k+1:=⟨n-1,by omega⟩
     rw[spec_l1Cur__variables20N,decide_eq_false hd,cond_false,q1,al,cond_false,r1,al]
     simp only[decide_eq_false (show ¬ o=4 by omega),cond_false,hw,s1 n (by omega),u1 n (by omega),al]
   ·obtain⟨f,c',e1,e2,e3⟩:=leaf c1 _ q2 (by omega)
    refine⟨f,c',fun n hn=>?_,e2.mono (by omega),e3.mono (by omega)⟩
    obtain⟨n,rfl⟩:∃ k,n=k+1:=⟨n-1,by omega⟩
    rw[spec_l1Cur__variables20N,decide_eq_false hd,cond_false,q1,al,cond_true]; exact e1
theorem nots_ok(T:Int)(hT:T≤40):∀ (d:Nat) (F:Ft),F.Ok→F.tot+d≤1000000→T-(F.cnt:Int)≤(d:Int)→∃ F':Ft,Ev (fun n13=>whileN (ρ:=Ft×la) (fun (s13:Int×ByteArray×(List Tt)×ByteArray×(List Ft))=>
 ae (spec_l8Size (Ft.mk s13.1 (Tt.mk s13.2.1 s13.2.2.1) s13.2.2.2.1 s13.2.2.2.2)) fun v40=>
 bif decide (v40<T) then
  some (.nx ((4:Int),(⟨#[]⟩:ByteArray),[],(⟨#[]⟩:ByteArray),[(Ft.mk s13.1 (Tt.mk s13.2.1 s13.2.2.1) s13.2.2.2.1 s13.2.2.2.2)]))
 else
  some (.br s13)) n13 (F.Op,F.Atom.Name,F.Atom.Args,F.Var,F.Parts)) (.inr (F'.Op,F'.Atom.Name,F'.Atom.Args,F'.Var,F'.Parts))∧F'.Ok∧F'.tot≤F.tot+d:=by
 intro d
 induction d with
 | zero=>
  intro F hF ht hd
  refine⟨F,ev_br ?_,hF,aS _⟩
  simp only[Tt.eta,Ft.eta]
  have hc:=F.cnt_tot
  have hs:spec_l8Size F=some (F.cnt:Int):=lim_eq ⟨_,l8Size_eq F (by omega)⟩
  rw[hs,al,decide_eq_false (by omega)]; rfl
 | succ d ih=>
  intro F hF ht hd
  have hc:=F.cnt_tot
  have hs:spec_l8Size F=some (F.cnt:Int):=lim_eq ⟨_,l8Size_eq F (by omega)⟩
  by_cases e:(F.cnt:Int)<T
  ·obtain⟨F',h1,h2,h3⟩:=ih (fN F) (ok_fN hF) (by rw[tot_fN]; omega) (by rw[cnt_fN]; omega)
   refine⟨F',ev_nx (s':=((fN F).Op,(fN F).Atom.Name,(fN F).Atom.Args,(fN F).Var,(fN F).Parts)) ?_ h1,h2,by rw[tot_fN] at h3; omega⟩
   simp only[Tt.eta,Ft.eta]
   rw[hs,al,decide_eq_true e]; rfl
  ·refine⟨F,ev_br ?_,hF,by omega⟩
   simp only[Tt.eta,Ft.eta]
   rw[hs,al,decide_eq_false e]; rfl
theorem mk_smf{f:Ft}{k:Nat}(h:SmF k f){o:Int}(ho:-100≤o∧o≤100){v:ByteArray}(hv:v.size≤8):SmF k (Ft.mk o f.Atom f.Var f.Parts)∧SmF (k+8) (Ft.mk f.Op f.Atom v f.Parts):=by
 obtain⟨h1,h2⟩:=h
 have h3:=h1.u
 have h4:=Ft.tot_u f
 refine⟨⟨.mk _ _ _ _ (by simp only[InR]; omega) h3.2.1 h3.2.2.1 h3.2.2.2.1 h3.2.2.2.2,by rw[Ft.tot_mk]; omega⟩,.mk _ _ _ _ h3.1 h3.2.1 (by unfold Big; omega) h3.2.2.2.1 h3.2.2.2.2,by rw[Ft.tot_mk]; omega⟩
theorem anyFormula_ok{c:la}{m:Nat}(h:CurOk c m)(hm:m+100000≤1000000000):∃ f c',spec_l1Cur__anyFormula c=some (f,c')∧SmF 900000 f:=by
 unfold spec_l1Cur__anyFormula
 obtain⟨f,c1,e1,hf,h1⟩:=formula_ok h (by omega)
 obtain⟨v,c2,e2,_,_,h2⟩:=pick_ok 24 h1 (by omega)
 rw[e1,al,e2,al]
 obtain⟨u,c3,e3,u0,u1,h3⟩:=pick_ok 11 h2 (by omega)
 have u1:=u1 (by omega)
 have hfu:=hf.1.u
 have hft:=Ft.tot_u f
 have hf2:=hf.2
 by_cases q:v=0
 ·rw[decide_eq_true q,cond_true,e3,al]
  exact⟨_,_,rfl,((mk_smf hf (o:=u) (v:=es) (by omega) (by decide)).1).mono (by omega)⟩
 rw[decide_eq_false q,cond_false]
 by_cases q:v=1
 ·obtain⟨w,c4,e4,hw,h4⟩:=of_ok [(⟨#[88]⟩:ByteArray),(⟨#[97]⟩:ByteArray),(⟨#[]⟩:ByteArray)] (by simp) h2 (by omega)
  have hws:w.size≤8:=by
   simp only[bg,List.not_mem_nil,or_false] at hw
   rcases hw with rfl | rfl | rfl<;>decide
  rw[decide_eq_true q,cond_true,e4,al]
  exact⟨_,_,rfl,((mk_smf hf (o:=0) (v:=w) (by omega) hws).2).mono (by omega)⟩
 rw[decide_eq_false q,cond_false]
 by_cases q:v=2
 ·obtain⟨t,c4,e4,ht,h4⟩:=anyTerm_ok h2 (by omega)
  rw[decide_eq_true q,cond_true,e4,al]
  refine⟨_,_,rfl,.mk _ _ _ _ hfu.1 ht.1 hfu.2.2.1 hfu.2.2.2.1 hfu.2.2.2.2,?_⟩
  rw[Ft.tot_mk]; have:=ht.2; simp only; omega
 rw[decide_eq_false q,cond_false]
 by_cases q:v=3
 ·obtain⟨g,c4,e4,hg,h4⟩:=formula_ok h2 (by omega)
  have hl:f.Parts.length≤ltot Ft.tot f.Parts:=ltot_len _ _
  rw[decide_eq_true q,cond_true,e4,al,show app f.Parts [g]=some (f.Parts++[g]) by unfold app; rw[if_pos (by simp; omega)],al]
  refine⟨_,_,rfl,.mk _ _ _ _ hfu.1 hfu.2.1 hfu.2.2.1 (by simp[Big]; omega) (fun x hx=>?_),?_⟩
  ·rcases List.mem_append.1 hx with hx | hx
   ·exact hfu.2.2.2.2 x hx
   ·rw[List.mem_singleton.1 hx]; exact hg.1
  ·rw[Ft.tot_mk]
   have:=hg.2
   simp only[ltot,aU,List.map_append,List.sum_append,aG,List.map_nil,a9,List.sum_nil,aZ,bB] at hft ⊢
   omega
 rw[decide_eq_false q,cond_false]
 by_cases q:v=4
 ·obtain⟨k,c4,e4,k0,k1,h4⟩:=pick_ok 5 h2 (by omega)
  have k1:=k1 (by omega)
  rw[decide_eq_true q,cond_true,e4,al]
  obtain⟨F',g1,g2,g3⟩:=nots_ok (IntKind.i64.wrap ((36:Int)+k)) (by rw[wrap64]<;>omega) 40 f hf.1 (by omega) (by rw[wrap64]<;>omega)
  refine⟨F',c4,(thenL_eq (lim_eq g1)).trans ?_,g2,by omega⟩
  simp only[Tt.eta,Ft.eta]
 rw[decide_eq_false q,cond_false]
 by_cases q:v=5
 ·rw[decide_eq_true q,cond_true]
  by_cases hl:(0:Int)<(f.Parts.length:Int)
  ·rw[decide_eq_true hl,cond_true,e3,al]
   cases hA:f.Parts with
   | nil=>rw[hA] at hl; simp at hl
   | cons a l=>
    rw[hA] at hfu hft
    have ha:SmF 330000 a:=⟨hfu.2.2.2.2 a (by simp),by
     simp only[ltot,aG,a9,aZ] at hft; omega⟩
    obtain⟨a1,a2⟩:=(mk_smf ha (o:=u) (v:=es) (by omega) (by decide)).1
    rw[show idx (a::l) (0:Int)=some a from rfl,al,al]
    refine⟨_,_,rfl,.mk _ _ _ _ hfu.1 hfu.2.1 hfu.2.2.1 (by simpa[LOk] using hfu.2.2.2.1) (fun x hx=>?_),?_⟩
    ·have hx:x=Ft.mk u a.Atom a.Var a.Parts∨x∈l:=by simpa using hx
     rcases hx with rfl | hx
     ·exact a1
     ·exact hfu.2.2.2.2 x (by simp[hx])
    ·rw[Ft.tot_mk]
     show _+(_+ltot Ft.tot (Ft.mk u a.Atom a.Var a.Parts::l))≤_
     simp only[ltot,aG,a9,aZ] at hft ⊢
     omega
  ·rw[decide_eq_false hl,cond_false]
   exact⟨_,_,rfl,hf.mono (by omega)⟩
 ·rw[decide_eq_false q,cond_false]
  exact⟨_,_,rfl,hf.mono (by omega)⟩
theorem drawSimp_ok(code:List Int)(hb:∀ x∈code,0≤x∧x≤255):∃ f,spec_DrawSimplifyFormula code=some f∧f.Ok∧f.tot≤1048576:=by
 unfold spec_DrawSimplifyFormula
 have h0:CurOk (la.mk code (0:Int) (0:Int)) 0:=⟨by simp,by simp,hb⟩
 obtain⟨b,c1,e1,h1⟩:=one_ok 2 h0 (by omega)
 rw[e1,al]
 cases b
 ·have hb5:bf 5=40900:=rfl
  have hk5:kf 5=640620:=rfl
  obtain⟨f,c2,f1,f2,f3⟩:=vars_ok 5 c1 _ h1 (by omega)
  have hg:spec_l1Cur__variables20 c1 5=some (f,c2):=lim_eq ⟨_,f1⟩
  rw[cond_false,hg,al]
  exact⟨_,rfl,f2.1,by have:=f2.2; simp only; omega⟩
 ·obtain⟨f,c2,e2,h2⟩:=anyFormula_ok h1 (by omega)
  rw[cond_true,e2,al]
  exact⟨_,rfl,h2.1,by have:=h2.2; simp only; omega⟩
end
section
theorem allT(n:Nat):((List.range n).all fun _=>true)=true:=List.all_eq_true.2 fun _ _=>rfl
theorem vT_refl(t:Tt):∀ m,2*aF t≤m→vTermsN m t t=some true:=by
 refine Tt.ind' (M:=fun t=>∀ m,2*aF t≤m→vTermsN m t t=some true) (fun t ih m hm=>?_) t
 have hp:=t.pos
 obtain⟨m,rfl⟩:∃ k,m=k+1:=⟨m-1,by omega⟩
 rw[vTermsN,decide_eq_true rfl,cond_true,decide_eq_true rfl,cond_true,forN_all (fun _=>true) (r0:=false) (fun j hj _=>by
  have ha:=getD_mem (l:=t.Args) hj
  rw[idx_getD hj,al,al,ih _ ha m (by have:=Tt.lt ha; omega)]; rfl),allT]
 rfl
theorem vF_refl(f:Ft):∀ m,2*aF f≤m→vFormulasN m f f=some true:=by
 refine Ft.ind' (M:=fun t=>∀ m,2*aF t≤m→vFormulasN m t t=some true) (fun t ih m hm=>?_) f
 have hp:=t.pos
 obtain⟨m,rfl⟩:∃ k,m=k+1:=⟨m-1,by omega⟩
 have ht:vTerms t.Atom t.Atom=some true:=lim_eq ⟨_,vT_refl t.Atom⟩
 rw[vFormulasN,decide_eq_true rfl,cond_true,decide_eq_true rfl,cond_true,ht,al,cond_true,decide_eq_true rfl,cond_true,forN_all (fun _=>true) (r0:=false) (fun j hj _=>by
  have ha:=getD_mem (l:=t.Parts) hj
  rw[idx_getD hj,al,al,ih _ ha m (by have:=Ft.lt ha; omega)]; rfl),allT]
 rfl
theorem simp_valid{f:Ft}(hok:f.Ok)(ht:f.tot≤1048576)(hv:validF f=true):∃ g,Smp f g∧(NF f→g=f)∧impl_SimplifyFormula f=some (g,true)∧spec_SimplifyFormula f=some (g,true):=by
 have hv2:=hv
 unfold validF at hv2
 rw[aC] at hv2
 obtain⟨g,h1,h2,h3⟩:=simp_main f hv2.2 hok ht
 have e1:impl_simplify f=some g:=lim_eq ⟨_,fun m hm=>(h3 m hm).1⟩
 have e2:spec_l20Simple f=some g:=lim_eq ⟨_,fun m hm=>(h3 m hm).2⟩
 refine⟨g,h1,h2,?_,?_⟩
 ·unfold impl_SimplifyFormula
  rw[validF_impl f ht hok,al,hv,cond_true,e1]; rfl
 ·unfold spec_SimplifyFormula
  rw[validF_spec f ht hok,al,hv,cond_true,e2]; rfl
theorem size_valid{f:Ft}(hok:f.Ok)(ht:f.tot≤1048576)(hv:validF f=true):spec_FormulaSize f=some ((f.cnt:Int),true):=by
 have hc:=f.cnt_tot
 have hs:spec_l8Size f=some (f.cnt:Int):=lim_eq ⟨_,l8Size_eq f (by omega)⟩
 unfold spec_FormulaSize
 rw[validF_spec f ht hok,al,hv,cond_true,hs]; rfl
theorem forN_nxs{ρ:Type}{f:Nat→Unit→Option (Flow ρ Unit)}:∀ (n i:Nat),(∀ j,i≤j→j<i+n→f j ()=some (.nx ()))→forN f n i ()=some (.inr ())
 | 0,_,_=>rfl
 | n+1,i,h=>by
  rw[forN_nx (s':=()) (h i (by omega) (by omega))]
  exact forN_nxs n (i+1) (fun j h1 h2=>h j (by omega) (by omega))
theorem FnSimplified_true(a0:List Int)(h:LOk (fun x:Int=>0≤x∧x≤255) a0):FnSimplified a0=some true:=by
 unfold FnSimplified vBig
 rw[al]
 by_cases hb:(65536:Int)<(a0.length:Int)
 ·rw[decide_eq_true hb]; rfl
 rw[decide_eq_false hb,cond_false]
 have hB:Bytes a0:=⟨by omega,h.2⟩
 obtain⟨f,e1,hok,ht⟩:=drawSimp_ok a0 h.2
 rw[e1,al]
 cases hv:validF f with
 | false=>
  have i1:impl_SimplifyFormula f=some ((Ft.mk (0:Int) (Tt.mk (⟨#[]⟩:ByteArray) ([])) (⟨#[]⟩:ByteArray) ([])),false):=by
   unfold impl_SimplifyFormula
   rw[validF_impl f ht hok,al,hv]; rfl
  have i2:∃ z,spec_SimplifyFormula f=some (z,false):=by
   unfold spec_SimplifyFormula
   rw[validF_spec f ht hok,al,hv]; exact⟨_,rfl⟩
  obtain⟨z,i2⟩:=i2
  rw[i1,i2]; rfl
 | true=>
  obtain⟨g,s1,_,s3,s4⟩:=simp_valid hok ht hv
  have hgt:g.tot≤1048576:=by have:=s1.tot; omega
  have hgv:validF g=true:=by
   unfold validF at hv ⊢
   rw[aC,decide_eq_true_iff] at hv ⊢
   exact⟨by have:=s1.cnt; omega,s1.good⟩
  obtain⟨g2,_,t2,t3,_⟩:=simp_valid s1.ok hgt hgv
  rw[t2 s1.nf] at t3
  have hvf:vFormulas g g=some true:=lim_eq ⟨_,vF_refl g⟩
  have hgood:f.good=true∧f.cnt≤40:=by
   unfold validF at hv
   rw[aC,decide_eq_true_iff] at hv
   exact⟨hv.2,hv.1⟩
  rw[s3,al,s4,al]
  simp only[beq_self_eq_true,cond_true]
  rw[t3,al,size_valid hok ht hv,al,size_valid s1.ok hgt hgv,al]
  simp only[cond_true]
  rw[hvf,al,cond_true,decide_eq_false (by have:=s1.cnt; omega),cond_false]
  refine(congrArg (fun z=>thenL z _) (forN_nxs 3 1 (fun j h1 h2=>?_))).trans rfl
  obtain⟨v,a1,v0,_⟩:=vAt_ok hB (i:=2) (by omega) (by omega)
  obtain⟨w,a2,w0,_⟩:=vAt_ok hB (i:=5) (by omega) (by omega)
  obtain⟨x,b1,x0,x1⟩:=rem_lt (x:=v) (m:=(j:Int)) v0 (by omega)
  obtain⟨y,b2,y0,y1⟩:=rem_lt (x:=w) (m:=(j:Int)) w0 (by omega)
  have he:EOk j (vt.mk ([(⟨#[88]⟩:ByteArray),(⟨#[89]⟩:ByteArray),(⟨#[90]⟩:ByteArray)]) ([(0:Int),x,y])):=⟨rfl,fun v hv=>by
   simp only[bg,List.not_mem_nil,or_false] at hv
   rcases hv with rfl | rfl | rfl<;>omega⟩
  have hH:∀ e,EOk j e→e.names.length≤1000000→∀ t:Tt,t.Ok→t.tot≤1048576→vHolds a0 (j:Int) e t=some ((vHolds a0 (j:Int) e t).getD false):=fun e he hl t _ ht=>by
   obtain⟨b,hb⟩:=holds_ok hB h1 (by omega) he hl t ht
   rw[hb]; rfl
  have k1:vTrue a0 (j:Int) (vt.mk ([(⟨#[88]⟩:ByteArray),(⟨#[89]⟩:ByteArray),(⟨#[90]⟩:ByteArray)]) ([(0:Int),x,y])) f=some _:=lim_eq ⟨_,vTrue_eq (by omega) hH f hgood.1 hok ht _ he (by have:=hgood.2; show 3+_≤_; omega)⟩
  have k2:vTrue a0 (j:Int) (vt.mk ([(⟨#[88]⟩:ByteArray),(⟨#[89]⟩:ByteArray),(⟨#[90]⟩:ByteArray)]) ([(0:Int),x,y])) g=some _:=lim_eq ⟨_,vTrue_eq (by omega) hH g s1.good s1.ok hgt _ he (by have:=s1.cnt; have:=hgood.2; show 3+_≤_; omega)⟩
  rw[a1,al,b1,al,a2,al,b2,al,k1,al,k2,al,s1.tv _ j h1,beq_self_eq_true,cond_true]
end
end Go.Proofs.Ytlaeidlohpehhaa
