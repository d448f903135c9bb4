/- Lemmas of the proof; each says what it shows. -/
import Derived.Test.YtnjgpibbjiofpaaGreatGp
import Derived.Test.YtnjgpibbjiofpaaGreatAvZ
import Derived.Test.YtnjgpibbjiofpaaGreatGsf
set_option linter.unusedSimpArgs false
set_option linter.unusedVariables false
set_option linter.defProp false
namespace Go.Proofs.YtnjgpibbjiofpaaGreat
open Go.Av
open Bool renaming and_eq_true→aA
open List renaming map_cons→aF,sum_cons→bK,length_cons→aH,all_eq_true→aZ,mem_append→bc,length_nil→a6,length_append→aQ,append_assoc→aV,mem_cons→bu,append_nil→bw,map_map→bL,nil_append→bC,length_map→au,nodup_cons→bO,nodup_append→bS,map_append→bt
open Nat renaming le_refl→aP
open Option renaming bind_some→ai,bind→aa
open SizeOf renaming sizeOf→aX
open Tt renaming tot→bg,ind'→bA
section
theorem within_eq(a lo hi:Int):impl_within a lo hi=some (inR a lo hi):=cond_inR a lo hi
theorem l1In_eq(a lo hi:Int):spec_l1In a lo hi=some (inR a lo hi):=cond_inR a lo hi
def cmpI(a b:Int):Int:=if a<b then -1 else if b<a then 1 else 0
theorem isNaN_eq(a:Int):cmp_isNaN_int a=some false:=by simp[cmp_isNaN_int]
theorem Compare_eq(a b:Int):cmp_Compare_int a b=some (cmpI a b):=by
 simp only[cmp_Compare_int,isNaN_eq,ai,cond_false]
 unfold cmpI
 by_cases h:a<b
 ·simp[h]
 ·by_cases h':b<a<;>simp[h,h']
theorem Or2_eq(a b:Int):cmp_Or_int [a,b]=some (if a=0 then b else a):=by
 unfold cmp_Or_int
 simp only[forN_idx]
 by_cases h:a=0
 ·rw[forL_nx (s':=()) (by simp[h])]
  by_cases h':b=0
  ·rw[forL_nx (s':=()) (by simp[h'])]; simp[forL,thenL_inr,h,h']
  ·rw[forL_rt (r:=b) (by simp[h']),thenL_inl]; simp[h]
 ·rw[forL_rt (r:=a) (by simp[h]),thenL_inl]; simp[h]
end
section
def cLow(c:Int):Bool:=inR c 97 122
def cUp(c:Int):Bool:=inR c 65 90
def cDig(c:Int):Bool:=inR c 48 57
theorem isLower_eq(c:Int):impl_isLower c=some (cLow c):=cond_inR c 97 122
theorem isUpper_eq(c:Int):impl_isUpper c=some (cUp c):=cond_inR c 65 90
theorem isDigit_eq(c:Int):impl_isDigit c=some (cDig c):=cond_inR c 48 57
theorem l2Small_eq(c:Int):spec_l2Small c=some (cLow c||cDig c):=by
 unfold spec_l2Small cLow cDig inR
 by_cases h1:(97:Int)≤c<;>by_cases h2:c≤(122:Int)<;>by_cases h3:(48:Int)≤c<;>by_cases h4:c≤(57:Int)<;>simp[h1,h2,h3,h4]
def varC(s:ByteArray)(j:Nat):Bool:=if j=0 then cUp (byt s 0) else(cLow (byt s j)||cDig (byt s j))
def isVarS(s:ByteArray):Bool:=inR (s.size:Int) 1 4&&(List.range s.size).all (varC s)
theorem isVariable_eq(s:ByteArray)(hb:Big s.size):impl_isVariable s=some (isVarS s):=by
 unfold impl_isVariable
 rw[bnd_nat hb,ai,forN_all (varC s)]
 ·simp only[within_eq,ai,isVarS]
  cases (List.range s.size).all (varC s)<;>cases inR (s.size:Int) 1 4<;>rfl
 ·intro j hj _
  simp only[sidx_nat hj,ai,isUpper_eq,isLower_eq,isDigit_eq,varC]
  by_cases h0:j=0
  ·subst h0
   cases cUp (byt s 0)<;>rfl
  ·have h1:¬ ((j:Int)=0):=by omega
   have h2:(0:Int)<(j:Int):=by omega
   rw[decide_eq_false h1,decide_eq_true h2,if_neg h0]
   cases cLow (byt s j)<;>cases cDig (byt s j)<;>rfl
theorem l2Var_eq(s:ByteArray)(hb:Big s.size):spec_l2Var s=some (isVarS s):=by
 unfold spec_l2Var
 rw[l1In_eq,ai]
 unfold isVarS
 cases hr:inR (s.size:Int) 1 4
 ·rfl
 ·have hs:0<s.size:=by have:=inR_iff.1 hr; omega
  simp only[cond_true,Bool.true_and]
  rw[sidx0 hs,ai]
  by_cases h0:cUp (byt s 0)=true
  ·have hu:=inR_iff.1 h0
   rw[decide_eq_false (by omega),cond_false,ai,decide_eq_false (by omega),cond_false,bnd_nat hb,ai,forN_all1 (varC s) hs (by simp[varC,h0])]
   ·cases (List.range s.size).all (varC s)<;>rfl
   ·intro j hj0 hj _
    simp only[sidx_nat hj,ai,l2Small_eq,varC]
    rw[if_neg (by omega)]
    cases (cLow (byt s j)||cDig (byt s j))<;>rfl
  ·have h1:(List.range s.size).all (varC s)=false:=List.all_eq_false.2 ⟨0,by simp; omega,by simp[varC,h0]⟩
   rw[h1]
   have hu:¬ (65≤byt s 0∧byt s 0≤90):=by intro g; exact h0 (inR_iff.2 g)
   by_cases g:byt s 0<65
   ·rw[decide_eq_true g]; rfl
   ·rw[decide_eq_false g,cond_false,ai,decide_eq_true (by omega)]; rfl
end
section
end
section
def resv:List ByteArray:=[(⟨#[116,114,117,101]⟩:ByteArray),(⟨#[102,97,108,115,101]⟩:ByteArray),(⟨#[116,114,117,116,104]⟩:ByteArray),(⟨#[98,111,116,104]⟩:ByteArray),(⟨#[101,105,116,104,101,114]⟩:ByteArray),(⟨#[105,102]⟩:ByteArray),(⟨#[97,108,108]⟩:ByteArray),(⟨#[115,111,109,101]⟩:ByteArray)]
def symC(s:ByteArray)(j:Nat):Bool:=if j=0 then cLow (byt s 0) else(cLow (byt s j)||cDig (byt s j)||decide (byt s j=95))
def isSymS(s:ByteArray):Bool:=inR (s.size:Int) 1 6&&(List.range s.size).all (symC s)&&!resv.any (fun v=>decide (s=v))
theorem Contains_str(xs:List ByteArray)(s:ByteArray):slices_Contains_Sstring_string xs s=some (xs.any (fun v=>decide (s=v))):=by
 unfold slices_Contains_Sstring_string slices_Index_Sstring_string
 obtain⟨r,h1,h2⟩:=forN_find (n:=xs.length) (p:=fun i=>decide (s=xs.getD i default)) (f:=fun i2 s2=>(idx xs (i2:Int)).bind fun v14=>bif decide (s=v14) then some (.rt (i2:Int)) else some (.nx ())) (fun j hj=>by
  simp only[idx_getD hj,ai]
  cases decide (s=xs.getD j default)<;>rfl)
 rw[h1,ai,h2,range_any_list xs (fun v=>decide (s=v))]
theorem isSymbol_eq(s:ByteArray)(hb:Big s.size):impl_isSymbol s=some (isSymS s):=by
 unfold impl_isSymbol
 rw[bnd_nat hb,ai,forN_all (symC s)]
 ·simp only[within_eq,ai,isSymS,impl_reserved,Contains_str]
  rw[show resv.any (fun v=>decide (s=v))=_ from rfl]
  unfold resv
  cases (List.range s.size).all (symC s)<;>cases inR (s.size:Int) 1 6<;>rfl
 ·intro j hj _
  simp only[sidx_nat hj,ai,isLower_eq,isDigit_eq,symC]
  by_cases h0:j=0
  ·subst h0
   cases cLow (byt s 0)<;>rfl
  ·have h1:¬ ((j:Int)=0):=by omega
   rw[decide_eq_false h1,if_neg h0]
   cases cLow (byt s j)<;>cases cDig (byt s j)<;>cases decide (byt s j=95)<;>rfl
theorem l2Symbol_eq(s:ByteArray)(hb:Big s.size):spec_l2Symbol s=some (isSymS s):=by
 unfold spec_l2Symbol
 rw[l1In_eq,ai]
 unfold isSymS
 cases hr:inR (s.size:Int) 1 6
 ·rfl
 ·have hs:0<s.size:=by have:=inR_iff.1 hr; omega
  simp only[cond_true,Bool.true_and]
  rw[sidx0 hs,ai]
  by_cases h0:cLow (byt s 0)=true
  ·have hu:=inR_iff.1 h0
   rw[decide_eq_false (by omega),cond_false,ai,decide_eq_false (by omega),cond_false,bnd_nat hb,ai,forN_all1 (symC s) hs (by simp[symC,h0])]
   ·simp only[resv,List.any_cons,List.any_nil,Bool.or_false]
    generalize decide (s=_)=b1
    generalize decide (s=_)=b2
    generalize decide (s=_)=b3
    generalize decide (s=_)=b4
    generalize decide (s=_)=b5
    generalize decide (s=_)=b6
    generalize decide (s=_)=b7
    generalize decide (s=_)=b8
    cases (List.range s.size).all (symC s)<;>cases b1<;>cases b2<;>cases b3<;>cases b4<;>cases b5<;>cases b6<;>cases b7<;>cases b8<;>rfl
   ·intro j hj0 hj _
    simp only[sidx_nat hj,ai,l2Small_eq,symC]
    rw[if_neg (by omega)]
    cases (cLow (byt s j)||cDig (byt s j))<;>cases decide (byt s j=95)<;>rfl
  ·have h1:(List.range s.size).all (symC s)=false:=List.all_eq_false.2 ⟨0,by simp; omega,by simp[symC,h0]⟩
   rw[h1]
   have hu:¬ (97≤byt s 0∧byt s 0≤122):=by intro g; exact h0 (inR_iff.2 g)
   by_cases g:byt s 0<97
   ·rw[decide_eq_true g]; rfl
   ·rw[decide_eq_false g,cond_false,ai,decide_eq_true (by omega)]; rfl
end
section
def cmpS(a b:ByteArray):Int:=if slt a b=true then -1 else if a=b then 0 else 1
theorem isNaNS_eq(a:ByteArray):cmp_isNaN_string a=some false:=by simp[cmp_isNaN_string]
theorem CompareS_eq(a b:ByteArray):cmp_Compare_string a b=some (cmpS a b):=by
 simp only[cmp_Compare_string,isNaNS_eq,ai,cond_false]
 unfold cmpS slt
 by_cases h:Op.bytesLess a.data.toList b.data.toList=true
 ·rw[if_pos h,h]; rfl
 ·rw[if_neg h]
  have h':Op.bytesLess a.data.toList b.data.toList=false:=by simpa using h
  rw[h',cond_false]
  by_cases e:a=b
  ·rw[decide_eq_true e,if_pos e]; rfl
  ·rw[decide_eq_false e,if_neg e]; rfl
end
section
mutual
def Tt.cnt:Tt→Nat
 | .mk _ l=>1+Tt.cnts l
def Tt.cnts:List Tt→Nat
 | []=>0
 | a::l=>a.cnt+Tt.cnts l
end
theorem Tt.cnts_eq(l:List Tt):Tt.cnts l=(l.map Tt.cnt).sum:=by
 induction l with
 | nil=>rfl
 | cons a l ih=>rw[Tt.cnts,ih,aF,bK]
theorem Tt.cnt_mk(x:ByteArray)(l:List Tt):(Tt.mk x l).cnt=1+(l.map Tt.cnt).sum:=by rw[Tt.cnt,Tt.cnts_eq]
mutual
def Tt.dep:Tt→Nat
 | .mk _ l=>1+Tt.deps l
def Tt.deps:List Tt→Nat
 | []=>0
 | a::l=>max a.dep (Tt.deps l)
end
theorem Tt.dep_mk(x:ByteArray)(l:List Tt):(Tt.mk x l).dep=1+Tt.deps l:=by rw[Tt.dep]
theorem Tt.cnt_tot(t:Tt):t.cnt≤1+t.tot:=by
 refine Tt.ind (M:=fun t=>t.cnt≤1+t.tot) (fun x l ih=>?_) t
 rw[Tt.cnt_mk,Tt.tot_mk]
 have:(l.map Tt.cnt).sum≤ltot bg l:=by
  clear x
  induction l with
  | nil=>simp[ltot]
  | cons a l ihl=>
   have h1:=ih a (by simp)
   have h2:=ihl (fun b hb=>ih b (by simp[hb]))
   simp only[ltot,aF,bK,aH] at h2 ⊢
   omega
 omega
theorem Tt.dep_cnt(t:Tt):t.dep≤t.cnt:=by
 refine Tt.ind (M:=fun t=>t.dep≤t.cnt) (fun x l ih=>?_) t
 rw[Tt.cnt_mk,Tt.dep_mk]
 have:Tt.deps l≤(l.map Tt.cnt).sum:=by
  clear x
  induction l with
  | nil=>simp[Tt.deps]
  | cons a l ihl=>
   have h1:=ih a (by simp)
   have h2:=ihl (fun b hb=>ih b (by simp[hb]))
   simp only[Tt.deps,aF,bK]
   omega
 omega
theorem Tt.cnt_pos(t:Tt):1≤t.cnt:=by cases t; rw[Tt.cnt_mk]; omega
/-- A sum that stops when it is too great. -/
def Cap(L c:Nat)(r:Int):Prop:=1≤r∧r≤c∧(c≤L→r=c)∧(L<c→L<r)
theorem Cap.le{L c:Nat}{r:Int}(h:Cap L c r):decide (r≤(L:Int))=decide (c≤L):=by
 by_cases e:c≤L
 ·have:=h.2.2.1 e; rw[decide_eq_true e,decide_eq_true (by omega)]
 ·have:=h.2.2.2 (by omega); rw[decide_eq_false e,decide_eq_false (by omega)]
theorem size_loop(f:Tt→Option Int):∀ (l:List Tt) (i:Nat) (s:Int) (c0:Nat),(∀ a∈l,∃ r,f a=some r∧Cap 30 a.cnt r)→1≤s→s≤c0→(c0≤30→s=c0)→(30<c0→30<s)→c0+(l.map Tt.cnt).sum≤2097152→
 ∃ r,thenL (ρ:=Int) (forL (fun _ v s=>bif decide ((30:Int)<s) then some (.rt s) else(f v).bind fun w=>some (.nx (wr (s+w)))) l i s) (fun s=>some s)=some r∧Cap 30 (c0+(l.map Tt.cnt).sum) r
 | [],i,s,c0,_,h1,h2,h3,h4,_=>⟨s,rfl,by simpa using⟨h1,h2,h3,h4⟩⟩
 | a::l,i,s,c0,hf,h1,h2,h3,h4,hb=>by
  simp only[aF,bK] at hb ⊢
  by_cases e:(30:Int)<s
  ·rw[forL_rt (r:=s) (by rw[decide_eq_true e]; rfl),thenL_inl]
   exact⟨s,rfl,h1,by omega,fun g=>by omega,fun _=>e⟩
  ·obtain⟨r,hr,c1,c2,c3,c4⟩:=hf a (by simp)
   have hs:s=c0:=h3 (by omega)
   rw[forL_nx (s':=wr (s+r)) (by rw[decide_eq_false e,cond_false,hr]; rfl),wr64 (by omega) (by omega)]
   have:=size_loop f l (i+1) (s+r) (c0+a.cnt) (fun b hb=>hf b (by simp[hb])) (by omega) (by omega) (fun g=>by have:=c3 (by omega); omega) (fun g=>by
    by_cases g2:a.cnt≤30
    ·have:=c3 g2; omega
    ·have:=c4 (by omega); omega) (by omega)
   rwa [Nat.add_assoc] at this
theorem impl_size_eq(t:Tt):t.cnt≤2097152→∃ r,(∀ n,2*aX t≤n→impl_sizeN n t=some r)∧Cap 30 t.cnt r:=by
 refine Tt.ind (M:=fun t=>t.cnt≤2097152→∃ r,(∀ n,2*aX t≤n→impl_sizeN n t=some r)∧Cap 30 t.cnt r) (fun x l ih hc=>?_) t
 rw[Tt.cnt_mk] at hc ⊢
 obtain⟨R,hR⟩:=mem_choice (fun a ha=>ih a ha (by have:=le_sum_mem Tt.cnt ha; omega))
 obtain⟨r,h1,h2⟩:=size_loop (fun a=>some (R a)) l 0 1 1 (fun a ha=>⟨R a,rfl,(hR a ha).2⟩) (by omega) (by omega) (by omega) (by omega) hc
 refine⟨r,fun n hn=>?_,h2⟩
 cases n with
 | zero=>simp only[Tt.mk.sizeOf_spec] at hn; omega
 | succ n=>
  rw[impl_sizeN]
  simp only[Tt.Args_mk,forN_idx]
  rw[← h1]
  congr 1
  refine forL_congr l 0 1 (fun j a s ha=>?_)
  have ha:=List.mem_of_getElem? ha
  simp only[(hR a ha).1 n (by have:=List.sizeOf_lt_of_mem ha; simp only[Tt.mk.sizeOf_spec] at hn; omega)]
theorem impl_size_ok(t:Tt)(h:t.tot≤1048576):∃ r,impl_size t=some r∧Cap 30 t.cnt r:=by
 obtain⟨r,h1,h2⟩:=impl_size_eq t (by have:=Tt.cnt_tot t; omega)
 exact⟨r,lim_eq ⟨_,h1⟩,h2⟩
theorem many_loop(f:Tt→Int→Option Int)(L:Nat)(hL:L≤30):∀ (l:List Tt) (i:Nat) (s:Int) (c0:Nat),(∀ a∈l,∀ L':Nat,L'≤30→∃ r,f a L'=some r∧Cap L' a.cnt r)→1≤s→s≤c0→(c0≤L→s=c0)→(L<c0→L<s)→c0+(l.map Tt.cnt).sum≤2097152→
 ∃ r,thenL (ρ:=Int) (forL (fun _ v s=>bif decide (s≤(L:Int)) then(f v (wr ((L:Int)-s))).bind fun w=>some (.nx (wr (s+w))) else some (.rt s)) l i s) (fun s=>some s)=some r∧Cap L (c0+(l.map Tt.cnt).sum) r
 | [],i,s,c0,_,h1,h2,h3,h4,_=>⟨s,rfl,by simpa using⟨h1,h2,h3,h4⟩⟩
 | a::l,i,s,c0,hf,h1,h2,h3,h4,hb=>by
  simp only[aF,bK] at hb ⊢
  by_cases e:s≤(L:Int)
  ·have hs:s=c0:=h3 (by omega)
   have eL:wr ((L:Int)-s)=((L-c0:Nat):Int):=by rw[wr64 (by omega) (by omega)]; omega
   obtain⟨r,hr,c1,c2,c3,c4⟩:=hf a (by simp) (L-c0) (by omega)
   rw[forL_nx (s':=wr (s+r)) (by rw[decide_eq_true e,cond_true,eL,hr]; rfl),wr64 (by omega) (by omega)]
   have:=many_loop f L hL l (i+1) (s+r) (c0+a.cnt) (fun b hb=>hf b (by simp[hb])) (by omega) (by omega) (fun g=>by have:=c3 (by omega); omega) (fun g=>by
    by_cases g2:a.cnt≤L-c0
    ·omega
    ·have:=c4 (by omega); omega) (by omega)
   rwa [Nat.add_assoc] at this
  ·rw[forL_rt (r:=s) (by rw[decide_eq_false e]; rfl),thenL_inl]
   exact⟨s,rfl,h1,by omega,fun g=>by omega,fun _=>by omega⟩
theorem lim_st{α:Type}{m:Nat→Option α}{N:Nat}{r:α}(hs:∀ n,N≤n→m n=m N)(h:m N=some r):lim m=some r:=lim_eq ⟨N,fun n hn=>by rw[hs n hn,h]⟩
theorem spec_many_st(t:Tt):∀ n m,2*aX t≤n→2*aX t≤m→∀ L,spec_l2ManyN n t L=spec_l2ManyN m t L:=by
 refine Tt.ind (M:=fun t=>∀ n m,2*aX t≤n→2*aX t≤m→∀ L,spec_l2ManyN n t L=spec_l2ManyN m t L) (fun x l ih n m hn hm L=>?_) t
 simp only[Tt.mk.sizeOf_spec] at hn hm
 cases n with
 | zero=>omega
 | succ n=>
  cases m with
  | zero=>omega
  | succ m=>
   rw[spec_l2ManyN,spec_l2ManyN]
   congr 1
   refine forN_congr _ _ _ (fun j s hj=>?_)
   simp only[Tt.Args_mk,Nat.zero_add] at hj ⊢
   rw[idx_getD hj]
   simp only[ai]
   have hm':=getD_mem hj
   have:=List.sizeOf_lt_of_mem hm'
   rw[ih _ hm' n m (by omega) (by omega)]
theorem spec_many_eq(t:Tt):t.cnt≤2097152→∀ n,2*aX t≤n→∀ L:Nat,L≤30→∃ r,spec_l2ManyN n t L=some r∧Cap L t.cnt r:=by
 refine Tt.ind (M:=fun t=>t.cnt≤2097152→∀ n,2*aX t≤n→∀ L:Nat,L≤30→∃ r,spec_l2ManyN n t L=some r∧Cap L t.cnt r) (fun x l ih hc n hn L hL=>?_) t
 rw[Tt.cnt_mk] at hc ⊢
 simp only[Tt.mk.sizeOf_spec] at hn
 cases n with
 | zero=>omega
 | succ n=>
  rw[spec_l2ManyN]
  simp only[Tt.Args_mk]
  obtain⟨r,h1,h2⟩:=many_loop (spec_l2ManyN n) L hL l 0 1 1 (fun a ha L' hL'=>ih a ha (by have:=le_sum_mem Tt.cnt ha; omega) n (by have:=List.sizeOf_lt_of_mem ha; omega) L' hL') (by omega) (by omega) (by omega) (by omega) hc
  refine⟨r,?_,h2⟩
  rw[← h1]
  congr 1
  refine forN_forL _ _ l 0 1 (fun j a s ha=>?_)
  simp only[Nat.zero_add,idx_nat,ha,ai]
theorem spec_many_ok(t:Tt)(h:t.tot≤1048576):∃ r,spec_l2Many t 30=some r∧Cap 30 t.cnt r:=by
 obtain⟨r,h1,h2⟩:=spec_many_eq t (by have:=Tt.cnt_tot t; omega) _ (aP _) 30 (by omega)
 exact⟨r,lim_st (fun n hn=>spec_many_st t _ _ hn (aP _) _) h1,h2⟩
/-! depth -/
theorem dep_loop(f:Tt→Option Int)(g:Int→Int→Option Int)(hg:∀ a b,g a b=some (max a b)):∀ (l:List Tt) (i:Nat) (s:Nat),(∀ a∈l,f a=some (a.dep:Int))→
 thenL (ρ:=Int) (forL (fun _ v s=>(f v).bind fun w=>(g s w).bind fun z=>some (.nx z)) l i (s:Int)) (fun s=>some (wr (s+1)))=some (wr (((max s (Tt.deps l):Nat):Int)+1))
 | [],i,s,_=>by simp[forL,thenL_inr,Tt.deps]
 | a::l,i,s,h=>by
  have e:max (s:Int) (a.dep:Int)=((max s a.dep:Nat):Int):=by omega
  rw[forL_nx (s':=((max s a.dep:Nat):Int)) (by rw[h a (by simp),ai,hg,ai,e]),dep_loop f g hg l (i+1) _ (fun b hb=>h b (by simp[hb])),Tt.deps]
  congr 3; omega
theorem Most_eq(a b:Int):spec_l1Most a b=some (max a b):=by
 unfold spec_l1Most
 by_cases h:b<a
 ·rw[decide_eq_true h,cond_true]; congr 1; omega
 ·rw[decide_eq_false h,cond_false]; congr 1; omega
theorem deps_le(l:List Tt):Tt.deps l≤(l.map Tt.cnt).sum:=by
 induction l with
 | nil=>simp[Tt.deps]
 | cons a l ih=>simp only[Tt.deps,aF,bK]; have:=a.dep_cnt; omega
theorem impl_depthN_eq(t:Tt):t.cnt≤2097152→∀ n,2*aX t≤n→impl_depthN n t=some (t.dep:Int):=by
 refine Tt.ind (M:=fun t=>t.cnt≤2097152→∀ n,2*aX t≤n→impl_depthN n t=some (t.dep:Int)) (fun x l ih hc n hn=>?_) t
 rw[Tt.cnt_mk] at hc
 rw[Tt.dep_mk]
 simp only[Tt.mk.sizeOf_spec] at hn
 cases n with
 | zero=>omega
 | succ n=>
  rw[impl_depthN]
  simp only[Tt.Args_mk,forN_idx]
  have:=dep_loop (impl_depthN n) (fun a b=>some (max a b)) (fun _ _=>rfl) l 0 0 (fun a ha=>ih a ha (by have:=le_sum_mem Tt.cnt ha; omega) n (by have:=List.sizeOf_lt_of_mem ha; omega))
  simp only[ai] at this
  refine this.trans ?_
  have:=deps_le l
  rw[wr64 (by omega) (by omega)]; congr 1; omega
theorem spec_depthN_eq(t:Tt):t.cnt≤2097152→∀ n,2*aX t≤n→spec_l2DepthN n t=some (t.dep:Int):=by
 refine Tt.ind (M:=fun t=>t.cnt≤2097152→∀ n,2*aX t≤n→spec_l2DepthN n t=some (t.dep:Int)) (fun x l ih hc n hn=>?_) t
 rw[Tt.cnt_mk] at hc
 rw[Tt.dep_mk]
 simp only[Tt.mk.sizeOf_spec] at hn
 cases n with
 | zero=>omega
 | succ n=>
  rw[spec_l2DepthN]
  simp only[Tt.Args_mk,forN_idx]
  have:=dep_loop (spec_l2DepthN n) spec_l1Most Most_eq l 0 0 (fun a ha=>ih a ha (by have:=le_sum_mem Tt.cnt ha; omega) n (by have:=List.sizeOf_lt_of_mem ha; omega))
  refine this.trans ?_
  have:=deps_le l
  rw[wr64 (by omega) (by omega)]; congr 1; omega
theorem impl_depth_ok(t:Tt)(h:t.tot≤1048576):impl_depth t=some (t.dep:Int):=lim_eq ⟨_,impl_depthN_eq t (by have:=Tt.cnt_tot t; omega)⟩
theorem spec_depth_ok(t:Tt)(h:t.tot≤1048576):spec_l2Depth t=some (t.dep:Int):=lim_eq ⟨_,spec_depthN_eq t (by have:=Tt.cnt_tot t; omega)⟩
def smallT(t:Tt):Bool:=decide (t.cnt≤30)&&decide (t.dep≤8)
theorem isSmall_ok(t:Tt)(h:t.tot≤1048576):impl_isSmall t=some (smallT t):=by
 obtain⟨r,h1,h2⟩:=impl_size_ok t h
 have h3:=h2.le
 unfold impl_isSmall smallT
 rw[h1,ai,show decide (r≤30)=decide (t.cnt≤30) from h3,impl_depth_ok t h,ai]
 cases decide (t.cnt≤30)
 ·rfl
 ·rw[cond_true,Bool.true_and]; congr 1; exact decide_eq_decide.2 (by omega)
theorem l2Fits_ok(t:Tt)(h:t.tot≤1048576):spec_l2Fits t=some (smallT t):=by
 obtain⟨r,h1,h2⟩:=spec_many_ok t h
 have h3:=h2.le
 unfold spec_l2Fits smallT
 rw[h1,ai,show decide (r≤30)=decide (t.cnt≤30) from h3,spec_depth_ok t h,ai]
 cases decide (t.cnt≤30)
 ·rfl
 ·rw[cond_true,Bool.true_and]; congr 1; exact decide_eq_decide.2 (by omega)
/-! names -/
mutual
def Tt.good:Tt→Bool
 | .mk x l=>bif isVarS x then l.isEmpty else(isSymS x&&decide (l.length≤4)&&Tt.goods l)
def Tt.goods:List Tt→Bool
 | []=>true
 | a::l=>a.good&&Tt.goods l
end
theorem Tt.goods_eq(l:List Tt):Tt.goods l=l.all Tt.good:=by
 induction l with
 | nil=>rfl
 | cons a l ih=>rw[Tt.goods,ih]; rfl
theorem Tt.good_mk(x:ByteArray)(l:List Tt):(Tt.mk x l).good=bif isVarS x then l.isEmpty else(isSymS x&&decide (l.length≤4)&&l.all Tt.good):=by rw[Tt.good,Tt.goods_eq]
theorem Tt.good_u(t:Tt):t.good=bif isVarS t.Name then t.Args.isEmpty else(isSymS t.Name&&decide (t.Args.length≤4)&&t.Args.all Tt.good):=by cases t; exact Tt.good_mk _ _
theorem isEmpty_dec{α:Type}(l:List α):decide ((l.length:Int)=0)=l.isEmpty:=by cases l<;>simp; omega
theorem impl_hasNamesN_eq(t:Tt):t.Ok→∀ n,3*aX t≤n→impl_hasNamesN n t=some t.good:=by
 refine bA (M:=fun t=>t.Ok→∀ n,3*aX t≤n→impl_hasNamesN n t=some t.good) (fun t ih hok n hn=>?_) t
 obtain⟨hx,hl,hall⟩:=hok.u
 rw[Tt.good_u]
 have hpos:=t.pos
 cases n with
 | zero=>omega
 | succ n=>
  rw[impl_hasNamesN]
  rw[isVariable_eq _ hx,ai,isSymbol_eq _ hx,ai,isEmpty_dec]
  cases isVarS t.Name
  ·rw[cond_false,cond_false]
   cases isSymS t.Name
   ·rfl
   ·by_cases h4:t.Args.length≤4
    ·rw[cond_true,decide_eq_true (show(t.Args.length:Int)≤4 by omega),cond_true,decide_eq_true h4,Bool.true_and,Bool.true_and]
     unfold slices_ContainsFunc_Simpl_Term_impl_Term slices_IndexFunc_Simpl_Term_impl_Term
     rw[find_list (p:=fun a=>!a.good) t.Args (fun a ha=>?_),ai,List.all_eq_not_any_not]
     have hs:=Tt.lt ha
     cases n with
     | zero=>omega
     | succ n=>
      rw[impl_hasNames_1N,ih a ha (hall a ha) n (by omega)]; rfl
    ·rw[cond_true,decide_eq_false (show ¬ (t.Args.length:Int)≤4 by omega),decide_eq_false h4]; rfl
  ·rfl
theorem spec_l2NodesN_eq(t:Tt):t.Ok→∀ n,3*aX t≤n→spec_l2NodesN n t=some t.good:=by
 refine bA (M:=fun t=>t.Ok→∀ n,3*aX t≤n→spec_l2NodesN n t=some t.good) (fun t ih hok n hn=>?_) t
 obtain⟨hx,hl,hall⟩:=hok.u
 rw[Tt.good_u]
 have hpos:=t.pos
 cases n with
 | zero=>omega
 | succ n=>
  rw[spec_l2NodesN]
  rw[l2Var_eq _ hx,ai,l2Symbol_eq _ hx,ai,isEmpty_dec]
  cases isVarS t.Name
  ·rw[cond_false,cond_false]
   cases isSymS t.Name
   ·rfl
   ·by_cases h4:t.Args.length≤4
    ·rw[cond_true,decide_eq_false (show ¬ (4:Int)<(t.Args.length:Int) by omega),cond_false,decide_eq_true h4,Bool.true_and,Bool.true_and,
      forN_all (fun j=>(t.Args.getD j default).good) (fun j hj _=>?_),range_all_list t.Args Tt.good]
     ·cases t.Args.all Tt.good<;>rfl
     ·have ha:=getD_mem hj
      have hs:=Tt.lt ha
      simp only[idx_getD hj,ai,ih _ ha (hall _ ha) n (by omega)]
      cases (t.Args.getD j default).good<;>rfl
    ·rw[cond_true,decide_eq_true (show(4:Int)<(t.Args.length:Int) by omega),decide_eq_false h4]; rfl
  ·rfl
def goodT(t:Tt):Bool:=smallT t&&t.good
theorem IsValidTerm_ok(t:Tt)(h:t.tot≤1048576)(hok:t.Ok):impl_IsValidTerm t=some (goodT t):=by
 unfold impl_IsValidTerm goodT
 rw[isSmall_ok t h,ai,show impl_hasNames t=some t.good from lim_eq ⟨_,impl_hasNamesN_eq t hok⟩,ai]
 cases smallT t<;>rfl
theorem l2Good_ok(t:Tt)(h:t.tot≤1048576)(hok:t.Ok):spec_l2Good t=some (goodT t):=by
 unfold spec_l2Good goodT
 rw[l2Fits_ok t h,ai,show spec_l2Nodes t=some t.good from lim_eq ⟨_,spec_l2NodesN_eq t hok⟩,ai]
 cases smallT t<;>rfl
end
section
/-! the same -/
noncomputable def same{α:Type}(a b:α):Bool:=@decide (a=b) (Classical.propDecidable _)
theorem same_iff{α:Type}{a b:α}:same a b=true↔a=b:=by unfold same; exact @decide_eq_true_iff _ (Classical.propDecidable _)
theorem same_comm{α:Type}(a b:α):same a b=same b a:=by rw[Bool.eq_iff_iff,same_iff,same_iff]; exact eq_comm
theorem same_len{α:Type}{xs ys:List α}(h:¬ xs.length=ys.length):same xs ys=false:=by
 cases e:same xs ys
 ·rfl
 ·rw[same_iff] at e; exact absurd (by rw[e]) h
theorem all_same{α:Type}[Inhabited α]{xs ys:List α}(h:xs.length=ys.length):(List.range xs.length).all (fun j=>same (xs.getD j default) (ys.getD j default))=same xs ys:=by
 rw[Bool.eq_iff_iff,aZ,same_iff]
 constructor
 ·intro g
  refine List.ext_getElem h (fun i h1 h2=>?_)
  have:=same_iff.1 (g i (by simpa using h1))
  simpa[List.getD,h1,h2] using this
 ·rintro rfl x _
  exact same_iff.2 rfl
theorem same_loop{α:Type}[Inhabited α](f:α→α→Option Bool)(xs ys:List α)(h:xs.length=ys.length)(hf:∀ a∈xs,∀ b,f a b=some (same a b)):
 thenL (ρ:=Bool) (σ:=Unit) (forN (fun (i:Nat) (_:Unit)=>aa (idx xs (i:Int)) fun v=>aa (idx ys (i:Int)) fun w=>aa (f v w) fun x=>bif x then some (.nx ()) else some (.rt false)) xs.length 0 ()) (fun _=>some true)=some (same xs ys):=by
 rw[forN_all (fun j=>same (xs.getD j default) (ys.getD j default)) (r0:=false) (fun j hj _=>?_),all_same h]
 ·cases same xs ys<;>rfl
 ·rw[idx_getD hj,idx_getD (h▸hj),ai,ai,hf _ (getD_mem hj),ai]
  cases same (xs.getD j default) (ys.getD j default)<;>rfl
theorem len_dec'{α:Type}(xs ys:List α):decide ((xs.length:Int)=(ys.length:Int))=decide (xs.length=ys.length):=decide_eq_decide.2 (by omega)
theorem Tt.same_u(a b:Tt):same a b=(decide (a.Name=b.Name)&&same a.Args b.Args):=by
 rw[Bool.eq_iff_iff,same_iff,aA,same_iff,decide_eq_true_iff]
 constructor
 ·rintro rfl; exact⟨rfl,rfl⟩
 ·rintro ⟨h1,h2⟩; rw[← a.eta,← b.eta,h1,h2]
theorem l2Same_eq(a:Tt):∀ b n,2*aX a≤n→spec_l2SameN n a b=some (same a b)∧impl_EqualTermsN n a b=some (same a b):=by
 refine bA (M:=fun a=>∀ b n,2*aX a≤n→spec_l2SameN n a b=some (same a b)∧impl_EqualTermsN n a b=some (same a b)) (fun a ih b n hn=>?_) a
 have hp:=a.pos
 cases n with
 | zero=>omega
 | succ n=>
  rw[spec_l2SameN,impl_EqualTermsN,Tt.same_u]
  unfold slices_EqualFunc_Simpl_Term_Simpl_Term_impl_Term_impl_Term
  rw[len_dec']
  cases decide (a.Name=b.Name)
  ·exact⟨rfl,rfl⟩
  ·by_cases h:a.Args.length=b.Args.length
   ·have k:=fun x (hx:x∈a.Args) y=>ih x hx y n (by have:=Tt.lt hx; omega)
    rw[decide_eq_true h,cond_true,cond_true,same_loop (spec_l2SameN n) a.Args b.Args h (fun x hx y=>(k x hx y).1)]
    refine⟨rfl,?_⟩
    rw[cond_true,cond_true,same_loop (impl_EqualTermsN n) a.Args b.Args h (fun x hx y=>(k x hx y).2)]; rfl
   ·rw[decide_eq_false h,same_len h]; exact⟨rfl,rfl⟩
theorem l2Same_ok(a b:Tt):spec_l2Same a b=some (same a b):=lim_eq ⟨_,fun n hn=>(l2Same_eq a b n hn).1⟩
theorem EqualTerms_ok(a b:Tt):impl_EqualTerms a b=some (same a b):=lim_eq ⟨_,fun n hn=>(l2Same_eq a b n hn).2⟩
end
section
mutual
def Tt.vars:Tt→List ByteArray
 | .mk x l=>bif isVarS x then [x] else Tt.varss l
def Tt.varss:List Tt→List ByteArray
 | []=>[]
 | a::l=>a.vars++Tt.varss l
end
theorem Tt.vars_u(t:Tt):t.vars=bif isVarS t.Name then [t.Name] else Tt.varss t.Args:=by cases t; rw[Tt.vars]; rfl
theorem Tt.cnt_u(t:Tt):t.cnt=1+Tt.cnts t.Args:=by cases t; rw[Tt.cnt]; rfl
theorem nameCase{t:Tt}(h:t.good=true):(isVarS t.Name=true∧t.Args=[])∨(isVarS t.Name=false∧isSymS t.Name=true∧t.Args.length≤4∧∀ a∈t.Args,a.good=true):=by
 rw[Tt.good_u] at h
 cases hv:isVarS t.Name
 ·rw[hv,cond_false] at h
  simp only[aA,decide_eq_true_eq,aZ] at h
  exact Or.inr ⟨rfl,h.1.1,h.1.2,h.2⟩
 ·rw[hv,cond_true] at h
  exact Or.inl ⟨rfl,by simpa using h⟩
theorem isVar_good{t:Tt}(h:t.good=true):impl_isVar t=some (isVarS t.Name):=by
 unfold impl_isVar
 rcases nameCase h with⟨hv,_⟩ | ⟨hv,hs,_⟩
 ·have h2:=hv
  unfold isVarS at h2
  rw[aA] at h2
  have hz:0<t.Name.size:=by have:=inR_iff.1 h2.1; omega
  have h3:=List.all_eq_true.1 h2.2 0 (by simpa using hz)
  rw[sidx0 hz,ai,isUpper_eq,ai,hv]
  simpa[varC] using h3
 ·have h2:=hs
  unfold isSymS at h2
  rw[aA,aA] at h2
  have hz:0<t.Name.size:=by have:=inR_iff.1 h2.1.1; omega
  have h3:=List.all_eq_true.1 h2.1.2 0 (by simpa using hz)
  rw[sidx0 hz,ai,isUpper_eq,ai,hv]
  have h4:cLow (byt t.Name 0)=true:=by simpa[symC] using h3
  have h5:=inR_iff.1 h4
  congr 1
  rw[← Bool.not_eq_true]
  intro g
  have:=inR_iff.1 g
  omega
/-- What a gathering of names does. -/
def VS(Q:List ByteArray→Prop)(acc v:List ByteArray)(vs:List ByteArray)(c:Nat):Prop:=(∀ x,x∈v↔x∈acc∨x∈vs)∧v.length≤acc.length+c∧(Q acc→Q v)
theorem vs_loop(Q:List ByteArray→Prop)(F:Nat→List ByteArray→Tt→Option (List ByteArray))(N:Nat):∀ (l:List Tt) (i:Nat) (acc:List ByteArray),
 (∀ a∈l,∀ acc,Q acc→acc.length+a.cnt≤1000→∃ v,(∀ n,N≤n→F n acc a=some v)∧VS Q acc v a.vars a.cnt)→Q acc→acc.length+Tt.cnts l≤1000→
 ∃ v,(∀ n,N≤n→forL (ρ:=List ByteArray) (fun _ x s=>(F n s x).bind fun w=>some (.nx w)) l i acc=some (.inr v))∧VS Q acc v (Tt.varss l) (Tt.cnts l)
 | [],i,acc,_,hq,_=>⟨acc,fun _ _=>rfl,fun x=>by simp[Tt.varss],by simp[Tt.cnts],id⟩
 | a::l,i,acc,h,hq,hb=>by
  simp only[Tt.cnts] at hb
  obtain⟨v,h1,h2,h3,h4⟩:=h a (by simp) acc hq (by omega)
  obtain⟨w,g1,g2,g3,g4⟩:=vs_loop Q F N l (i+1) v (fun b hb=>h b (by simp[hb])) (h4 hq) (by omega)
  refine⟨w,fun n hn=>?_,fun x=>?_,?_,fun q=>g4 (h4 q)⟩
  ·rw[forL_nx (s':=v) (by rw[h1 n hn]; rfl),g1 n hn]
  ·rw[g2,h2,Tt.varss,bc,or_assoc]
  ·simp only[Tt.cnts]; omega
theorem collectN_ok(t:Tt):t.good=true→∀ acc,True→acc.length+t.cnt≤1000→∃ v,(∀ n,2*aX t≤n→impl_collectN n acc t=some v)∧VS (fun _=>True) acc v t.vars t.cnt:=by
 refine bA (M:=fun t=>t.good=true→∀ acc,True→acc.length+t.cnt≤1000→∃ v,(∀ n,2*aX t≤n→impl_collectN n acc t=some v)∧VS (fun _=>True) acc v t.vars t.cnt) (fun t ih hg acc _ hb=>?_) t
 have hp:=t.pos
 have hiv:=isVar_good hg
 rcases nameCase hg with⟨hv,ha⟩ | ⟨hv,hs,_,hall⟩
 ·rw[Tt.vars_u,hv,cond_true]
  have hc:=t.cnt_pos
  refine⟨bif acc.any (fun v=>decide (t.Name=v)) then acc else acc++[t.Name],fun n hn=>?_,fun x=>?_,?_,fun _=>trivial⟩
  ·cases n with
   | zero=>omega
   | succ n=>
    rw[impl_collectN,hiv,hv,ha]
    simp only[ai,a6,Contains_str]
    cases acc.any (fun v=>decide (t.Name=v))
    ·simp only[cond_false,cond_true,app]
     rw[if_pos (by simp only[aH,a6]; omega)]; rfl
    ·rfl
  ·cases e:acc.any (fun v=>decide (t.Name=v))
   ·simp
   ·rw[cond_true]
    rw[List.any_eq_true] at e
    obtain⟨y,y1,y2⟩:=e
    have y2:=of_decide_eq_true y2
    refine⟨Or.inl,fun g=>g.elim id fun g=>?_⟩
    rw[List.mem_singleton] at g
    rw[g,y2]; exact y1
  ·cases acc.any (fun v=>decide (t.Name=v))
   ·simp only[cond_false,aQ,aH,a6]; omega
   ·simp only[cond_true]; omega
 ·rw[Tt.vars_u,hv,cond_false]
  have hcu:=t.cnt_u
  obtain⟨v,h1,h2,h3,h4⟩:=vs_loop (fun _=>True) (fun n s x=>impl_collectN n s x) (2*aX t-1) t.Args 0 acc (fun a ha acc _ hb=>by
   obtain⟨v,k1,k2⟩:=ih a ha (hall a ha) acc trivial hb
   exact⟨v,fun n hn=>k1 n (by have:=Tt.lt ha; omega),k2⟩) trivial (by omega)
  refine⟨v,fun n hn=>?_,h2,by omega,h4⟩
  cases n with
  | zero=>omega
  | succ n=>
   rw[impl_collectN,hiv,hv]
   simp only[ai,cond_false,Bool.cond_self,forN_idx]
   rw[h1 n (by omega)]; rfl
def Srt(l:List ByteArray):Prop:=l.Pairwise (fun a b=>slt a b=true)
theorem slt_tri{a b:ByteArray}(h:¬ slt a b=true)(h2:¬ a=b):slt b a=true:=by
 cases e:slt b a
 ·exact absurd (ba_ext (bytesLess_total (by simpa[slt] using h) (by simpa[slt] using e))) h2
 ·rfl
theorem srt_ins{pre suf:List ByteArray}{x:ByteArray}(h:Srt (pre++suf))(h1:∀ y∈pre,slt y x=true)(h2:∀ y∈suf,slt x y=true):Srt (pre++[x]++suf):=by
 unfold Srt at*
 rw[List.pairwise_append] at h
 rw[aV,List.pairwise_append]
 refine⟨h.1,?_,fun a ha b hb=>?_⟩
 ·rw[List.singleton_append,List.pairwise_cons]; exact⟨h2,h.2.1⟩
 ·rw[List.singleton_append,bu] at hb
  rcases hb with rfl | hb
  ·exact h1 a ha
  ·exact h.2.2 a ha b hb
theorem ins_eq{pre suf:List ByteArray}{x:ByteArray}(hb:(pre++suf).length≤1000)(i:Int)(hi:i=(pre.length:Nat)):(aa (slc (pre++suf) 0 i) fun v36=>aa (app ([]) v36) fun v37=>aa (app v37 ([x])) fun v40=>aa (slc (pre++suf) i ((pre++suf).length:Int)) fun v43=>app v40 v43)=some (pre++[x]++suf):=by
 subst hi
 simp only[aQ] at hb
 have e1:slc (pre++suf) 0 (pre.length:Int)=some pre:=by unfold slc; rw[if_pos (by simp; omega)]; simp
 have e2:slc (pre++suf) (pre.length:Int) ((pre++suf).length:Int)=some suf:=by unfold slc; rw[if_pos (by simp; omega),Int.toNat_natCast,Int.toNat_natCast,List.take_length,List.drop_left]
 rw[e1,ai]
 have e3:app ([]:List ByteArray) pre=some pre:=by unfold app; rw[if_pos (by simp only[a6]; omega)]; rfl
 have e4:app pre [x]=some (pre++[x]):=by unfold app; rw[if_pos (by simp only[aH,a6]; omega)]
 rw[e3,ai,e4,ai,e2,ai]
 unfold app; rw[if_pos (by simp only[aQ,aH,a6]; omega)]
theorem l2Put_ok(acc:List ByteArray)(x:ByteArray)(hs:Srt acc)(hb:acc.length≤1000):∃ v,spec_l2Put acc x=some v∧(∀ y,y∈v↔y∈acc∨y∈[x])∧v.length≤acc.length+1∧Srt v:=by
 unfold spec_l2Put
 have key:∀ (suf pre:List ByteArray),pre++suf=acc→(∀ y∈pre,slt y x=true)→∃ v,(thenL (ρ:=(List ByteArray)) (σ:=Unit) (forN (fun (i2:Nat) (s2:Unit)=>
  aa (idx acc (i2:Int)) fun v13=>
  bif Op.bytesLess v13.data.toList x.data.toList then
   some (.nx ())
  else
   aa (idx acc (i2:Int)) fun v27=>
   bif decide (v27=x) then
    some (.rt acc)
   else
    aa (slc acc (0:Int) (i2:Int)) fun v36=>
    aa (app ([]) v36) fun v37=>
    aa (app v37 ([x])) fun v40=>
    aa (slc acc (i2:Int) (acc.length:Int)) fun v43=>
    aa (app v40 v43) fun v44=>
    some (.rt v44)) suf.length pre.length ()) fun s2=>
  aa (slc acc (0:Int) ((acc.length:Nat):Int)) fun v36=>
  aa (app ([]) v36) fun v37=>
  aa (app v37 ([x])) fun v40=>
  aa (slc acc ((acc.length:Nat):Int) (acc.length:Int)) fun v43=>
  aa (app v40 v43) fun v44=>
  some v44)=some v∧(∀ y,y∈v↔y∈acc∨y∈[x])∧v.length≤acc.length+1∧Srt v:=by
  intro suf
  induction suf with
  | nil=>
   intro pre he hp
   rw[bw] at he
   subst he
   have e:=ins_eq (pre:=pre) (suf:=[]) (x:=x) (by simpa using hb) pre.length rfl
   simp only[bw] at e
   refine⟨pre++[x],?_,fun y=>by simp,by simp,?_⟩
   ·rw[a6,forN_zero,thenL_inr]
    have:=congrArg (fun o=>aa o fun v44=>some v44) e
    simpa only[Option.bind_assoc,ai] using this
   ·have:=srt_ins (pre:=pre) (suf:=[]) (x:=x) (by simpa using hs) hp (by simp)
    simpa using this
  | cons s suf ih=>
   intro pre he hp
   have hi:idx acc (pre.length:Int)=some s:=by rw[idx_nat,← he]; simp
   by_cases c1:slt s x=true
   ·rw[aH,forN_nx (s':=()) (by rw[hi,ai]; rw[show Op.bytesLess s.data.toList x.data.toList=true from c1]; rfl)]
    have:=ih (pre++[s]) (by simpa using he) (fun y hy=>by
     rw[bc,List.mem_singleton] at hy
     rcases hy with hy | rfl
     ·exact hp y hy
     ·exact c1)
    simpa only[aQ,aH,a6,Nat.zero_add] using this
   ·have c1':Op.bytesLess s.data.toList x.data.toList=false:=by simpa[slt] using c1
    by_cases c2:s=x
    ·rw[aH,forN_rt (r:=acc) (by rw[hi,ai,c1',cond_false,ai,decide_eq_true c2]; rfl),thenL_inl]
     refine⟨acc,rfl,fun y=>⟨Or.inl,fun g=>g.elim id fun g=>?_⟩,by omega,hs⟩
     rw[List.mem_singleton] at g
     rw[g,← he,← c2]; simp
    ·have c3:=slt_tri c1 c2
     have e:=ins_eq (pre:=pre) (suf:=s::suf) (x:=x) (by rw[he]; exact hb) pre.length rfl
     rw[he] at e
     have e':(aa (slc acc (0:Int) (pre.length:Int)) fun v36=>aa (app ([]) v36) fun v37=>aa (app v37 ([x])) fun v40=>aa (slc acc (pre.length:Int) (acc.length:Int)) fun v43=>aa (app v40 v43) fun v44=>some (Flow.rt (ρ:=List ByteArray) (σ:=Unit) v44))=some (.rt (pre++[x]++s::suf)):=by
      have:=congrArg (fun o=>aa o fun v44=>some (Flow.rt (ρ:=List ByteArray) (σ:=Unit) v44)) e
      simpa only[Option.bind_assoc,ai] using this
     rw[aH,forN_rt (r:=pre++[x]++s::suf) (by rw[hi,ai,c1',cond_false,ai,decide_eq_false c2,cond_false]; exact e'),thenL_inl]
     refine⟨_,rfl,fun y=>?_,?_,srt_ins (by rw[he]; exact hs) hp (fun y hy=>?_)⟩
     ·rw[← he]; simp only[bc,bu,List.mem_singleton,List.not_mem_nil,or_false]
      constructor
      ·rintro ((g | g) | g)
       ·exact Or.inl (Or.inl g)
       ·exact Or.inr g
       ·exact Or.inl (Or.inr g)
      ·rintro ((g | g) | g)
       ·exact Or.inl (Or.inl g)
       ·exact Or.inr g
       ·exact Or.inl (Or.inr g)
     ·rw[← he]; simp only[aQ,aH,a6]; omega
     ·rw[bu] at hy
      rcases hy with rfl | hy
      ·exact c3
      ·have hs2:=hs
       rw[← he] at hs2
       unfold Srt at hs2
       rw[List.pairwise_append,List.pairwise_cons] at hs2
       have:=hs2.2.1.1 y hy
       exact bytesLess_trans c3 this
 exact key acc [] rfl (by simp)
theorem l2IntoN_ok(t:Tt):t.Ok→t.good=true→∀ acc,Srt acc→acc.length+t.cnt≤1000→∃ v,(∀ n,2*aX t≤n→spec_l2IntoN n acc t=some v)∧VS Srt acc v t.vars t.cnt:=by
 refine bA (M:=fun t=>t.Ok→t.good=true→∀ acc,Srt acc→acc.length+t.cnt≤1000→∃ v,(∀ n,2*aX t≤n→spec_l2IntoN n acc t=some v)∧VS Srt acc v t.vars t.cnt) (fun t ih hok hg acc hq hb=>?_) t
 have hp:=t.pos
 have hiv:=l2Var_eq t.Name hok.u.1
 have hc:=t.cnt_pos
 rcases nameCase hg with⟨hv,ha⟩ | ⟨hv,hs,_,hall⟩
 ·rw[Tt.vars_u,hv,cond_true]
  obtain⟨v,h1,h2,h3,h4⟩:=l2Put_ok acc t.Name hq (by omega)
  refine⟨v,fun n hn=>?_,h2,by omega,fun _=>h4⟩
  cases n with
  | zero=>omega
  | succ n=>
   rw[spec_l2IntoN,hiv,hv,h1]; rfl
 ·rw[Tt.vars_u,hv,cond_false]
  have hcu:=t.cnt_u
  obtain⟨v,h1,h2,h3,h4⟩:=vs_loop Srt (fun n s x=>spec_l2IntoN n s x) (2*aX t-1) t.Args 0 acc (fun a ha acc hq hb=>by
   obtain⟨v,k1,k2⟩:=ih a ha (hok.u.2.2 a ha) (hall a ha) acc hq hb
   exact⟨v,fun n hn=>k1 n (by have:=Tt.lt ha; omega),k2⟩) hq (by omega)
  refine⟨v,fun n hn=>?_,h2,by omega,h4⟩
  cases n with
  | zero=>omega
  | succ n=>
   rw[spec_l2IntoN,hiv,hv]
   simp only[ai,cond_false,forN_idx]
   rw[h1 n (by omega)]; rfl
theorem collect_ok{t:Tt}(hg:t.good=true)(hc:t.cnt≤1000):∃ v,impl_collect [] t=some v∧∀ x,x∈v↔x∈t.vars:=by
 obtain⟨v,h1,h2,_⟩:=collectN_ok t hg [] trivial (by simpa using hc)
 exact⟨v,lim_eq ⟨_,h1⟩,fun x=>by simpa using h2 x⟩
theorem l2Vars_ok{t:Tt}(hok:t.Ok)(hg:t.good=true)(hc:t.cnt≤1000):∃ v,spec_l2Vars t=some v∧(∀ x,x∈v↔x∈t.vars)∧Srt v:=by
 obtain⟨v,h1,h2,_,h3⟩:=l2IntoN_ok t hok hg [] List.Pairwise.nil (by simpa using hc)
 refine⟨v,?_,fun x=>by simpa using h2 x,h3 List.Pairwise.nil⟩
 unfold spec_l2Vars
 rw[show spec_l2Into [] t=some v from lim_eq ⟨_,h1⟩]; rfl
theorem len0_of{v w:List ByteArray}(h:∀ x,x∈v↔x∈w):decide ((v.length:Int)=0)=w.isEmpty:=by
 rw[isEmpty_dec]
 cases v with
 | nil=>
  cases w with
  | nil=>rfl
  | cons b w=>exact absurd ((h b).2 (by simp)) (by simp)
 | cons a v=>
  cases w with
  | nil=>exact absurd ((h a).1 (by simp)) (by simp)
  | cons b w=>rfl
end
section
theorem l2Text_eq(a b:ByteArray):spec_l2Text a b=some (cmpS a b):=by
 unfold spec_l2Text cmpS
 by_cases h:slt a b=true
 ·rw[if_pos h]; rw[show Op.bytesLess a.data.toList b.data.toList=true from h]; rfl
 ·rw[if_neg h,show Op.bytesLess a.data.toList b.data.toList=false by simpa[slt] using h,cond_false]
  by_cases e:a=b
  ·rw[decide_eq_true e,if_pos e]; rfl
  ·rw[decide_eq_false e,if_neg e]; rfl
theorem cmpS_self(a:ByteArray):cmpS a a=0:=by
 unfold cmpS; rw[if_neg (by unfold slt; rw[bytesLess_irrefl]; decide),if_pos rfl]
theorem cmpS_ne{a b:ByteArray}(h:¬ a=b):cmpS a b≠0:=by
 unfold cmpS; rw[if_neg h]; split<;>decide
def lexI(f:Nat→Int):Nat→Nat→Int
 | 0,_=>0
 | n+1,i=>if f i=0 then lexI f n (i+1) else f i
theorem forN_lex{f:Nat→Int}{g:Nat→Unit→Option (Flow Int Unit)}{k:Unit→Option Int}(hk:k ()=some 0):∀ (n i:Nat),(∀ j,i≤j→j<i+n→g j ()=some (bif decide (f j=0) then .nx () else .rt (f j)))→
 thenL (forN g n i ()) k=some (lexI f n i)
 | 0,i,_=>by rw[forN_zero,thenL_inr,hk]; rfl
 | n+1,i,h=>by
  have g1:=h i (aP _) (by omega)
  rw[lexI]
  by_cases e:f i=0
  ·rw[forN_nx (s':=()) (by rw[g1,decide_eq_true e]; rfl),if_pos e]
   exact forN_lex hk n (i+1) (fun j h1 h2=>h j (by omega) (by omega))
  ·rw[forN_rt (r:=f i) (by rw[g1,decide_eq_false e]; rfl),if_neg e,thenL_inl]
/-! The order of terms. -/
mutual
def cmpR:Tt→Tt→Int
 | .mk n l,.mk m k=>if isVarS n=isVarS m then(if n=m then(if l.length<k.length then -1 else if k.length<l.length then 1 else cmpRs l k) else cmpS n m) else(if isVarS n=true then -1 else 1)
def cmpRs:List Tt→List Tt→Int
 | a::l,b::k=>if cmpR a b=0 then cmpRs l k else cmpR a b
 | [],_=>0
 | _::_,[]=>0
end
def cmpB(a b:Tt):Int:=if a.Name=b.Name then(if a.Args.length<b.Args.length then -1 else if b.Args.length<a.Args.length then 1 else cmpRs a.Args b.Args) else cmpS a.Name b.Name
theorem cmpR_u(a b:Tt):cmpR a b=if isVarS a.Name=isVarS b.Name then cmpB a b else(if isVarS a.Name=true then -1 else 1):=by cases a; cases b; rw[cmpR]; rfl
theorem lexI_eq(l k:List Tt)(h:l.length=k.length):lexI (fun j=>cmpR (l.getD j default) (k.getD j default)) l.length 0=cmpRs l k:=by
 have key:∀ (l k pl pk:List Tt),pl.length=pk.length→l.length=k.length→lexI (fun j=>cmpR ((pl++l).getD j default) ((pk++k).getD j default)) l.length pl.length=cmpRs l k:=by
  intro l
  induction l with
  | nil=>intro k pl pk _ h; cases k with
   | nil=>rfl
   | cons _ _=>simp at h
  | cons a l ih=>
   intro k pl pk hp h
   cases k with
   | nil=>simp at h
   | cons b k=>
    simp only[aH,lexI]
    have e1:(pl++a::l).getD pl.length default=a:=by simp[List.getD]
    have e2:(pk++b::k).getD pl.length default=b:=by rw[hp]; simp[List.getD]
    rw[e1,e2,cmpRs]
    by_cases c:cmpR a b=0
    ·rw[if_pos c,if_pos c]
     have:=ih k (pl++[a]) (pk++[b]) (by simp[hp]) (by simpa using h)
     simpa using this
    ·rw[if_neg c,if_neg c]
 have:=key l k [] [] rfl h
 simpa using this
theorem cmp_both(a:Tt):∀ b:Tt,a.Ok→a.good=true→b.Ok→b.good=true→∀ n,2*aX a≤n→spec_l2CompareN n a b=some (cmpR a b)∧impl_compareTermsN n a b=some (cmpR a b):=by
 refine bA (M:=fun a=>∀ b:Tt,a.Ok→a.good=true→b.Ok→b.good=true→∀ n,2*aX a≤n→spec_l2CompareN n a b=some (cmpR a b)∧impl_compareTermsN n a b=some (cmpR a b)) (fun a ih b oka ga okb gb=>?_) a
 have hp:=a.pos
 have ia:=isVar_good ga
 have ib:=isVar_good gb
 have sa:=l2Var_eq a.Name oka.u.1
 have sb:=l2Var_eq b.Name okb.u.1
 have gargs:∀ {t:Tt},t.good=true→∀ x∈t.Args,x.good=true:=fun {t} g x hx=>by
  rcases nameCase g with⟨_,h⟩ | ⟨_,_,_,h⟩
  ·rw[h] at hx; simp at hx
  ·exact h x hx
 have hR:∀ x∈a.Args,∀ y∈b.Args,∀ n,2*aX x≤n→spec_l2CompareN n x y=some (cmpR x y)∧impl_compareTermsN n x y=some (cmpR x y):=fun x hx y hy=>
  ih x hx y (oka.u.2.2 x hx) (gargs ga x hx) (okb.u.2.2 y hy) (gargs gb y hy)
 let w:Int:=if a.Name=b.Name then(if a.Args.length<b.Args.length then -1 else if b.Args.length<a.Args.length then 1 else lexI (fun j=>cmpR (a.Args.getD j default) (b.Args.getD j default)) a.Args.length 0) else cmpS a.Name b.Name
 have hS:∀ n,2*aX a≤n+1→(bif decide (a.Name=b.Name) then
  bif decide ((a.Args.length:Int)<(b.Args.length:Int)) then
   some (-1:Int)
  else
   bif decide ((b.Args.length:Int)<(a.Args.length:Int)) then
    some (1:Int)
   else
    thenL (ρ:=Int) (σ:=Unit) (forN (fun (i13:Nat) (s13:Unit)=>
     aa (idx a.Args (i13:Int)) fun v64=>
     aa (idx b.Args (i13:Int)) fun v69=>
     aa (spec_l2CompareN n v64 v69) fun v71=>
     bif decide (v71=(0:Int)) then
      some (.nx ())
     else
      some (.rt v71)) a.Args.length 0 ()) fun s13=>
    some (0:Int)
  else
   aa (spec_l2Text a.Name b.Name) fun v37=>
   some v37)=some w:=by
  intro n hn
  simp only[w]
  by_cases e:a.Name=b.Name
  ·rw[decide_eq_true e,if_pos e,cond_true]
   by_cases e1:a.Args.length<b.Args.length
   ·rw[decide_eq_true (show(a.Args.length:Int)<(b.Args.length:Int) by omega),if_pos e1]; rfl
   ·rw[decide_eq_false (show ¬ (a.Args.length:Int)<(b.Args.length:Int) by omega),if_neg e1,cond_false]
    by_cases e2:b.Args.length<a.Args.length
    ·rw[decide_eq_true (show(b.Args.length:Int)<(a.Args.length:Int) by omega),if_pos e2]; rfl
    ·rw[decide_eq_false (show ¬ (b.Args.length:Int)<(a.Args.length:Int) by omega),if_neg e2,cond_false]
     refine forN_lex rfl _ _ (fun j _ hj=>?_)
     have ha:=getD_mem (l:=a.Args) (i:=j) (by omega)
     have hb:=getD_mem (l:=b.Args) (i:=j) (by omega)
     rw[idx_getD (by omega),ai,idx_getD (by omega),ai,(hR _ ha _ hb n (by have:=Tt.lt ha; omega)).1,ai]
     cases decide (cmpR (a.Args.getD j default) (b.Args.getD j default)=0)<;>rfl
  ·rw[decide_eq_false e,if_neg e,cond_false,l2Text_eq]; rfl
 have hI:∀ n,2*aX a≤n+1→(aa (cmp_Compare_string a.Name b.Name) fun v28=>
  aa (cmp_Compare_int (a.Args.length:Int) (b.Args.length:Int)) fun v35=>
  aa (cmp_Or_int ([v28,v35])) fun v37=>
  bif decide (v37=(0:Int)) then
   aa (slices_CompareFunc_Simpl_Term_Simpl_Term_impl_Term_impl_Term a.Args b.Args (fun y0 y1=>impl_compareTermsN n y0 y1)) fun v45=>
   some v45
  else
   some v37)=some w:=by
  intro n hn
  simp only[w]
  rw[CompareS_eq,ai,Compare_eq,ai,Or2_eq,ai]
  by_cases e:a.Name=b.Name
  ·rw[if_pos e,e,cmpS_self,if_pos rfl]
   unfold cmpI
   by_cases e1:a.Args.length<b.Args.length
   ·rw[if_pos (show(a.Args.length:Int)<(b.Args.length:Int) by omega),if_pos e1]; rfl
   ·rw[if_neg (show ¬ (a.Args.length:Int)<(b.Args.length:Int) by omega),if_neg e1]
    by_cases e2:b.Args.length<a.Args.length
    ·rw[if_pos (show(b.Args.length:Int)<(a.Args.length:Int) by omega),if_pos e2]; rfl
    ·rw[if_neg (show ¬ (b.Args.length:Int)<(a.Args.length:Int) by omega),if_neg e2,decide_eq_true rfl,cond_true]
     unfold slices_CompareFunc_Simpl_Term_Simpl_Term_impl_Term_impl_Term
     rw[forN_lex (f:=fun j=>cmpR (a.Args.getD j default) (b.Args.getD j default)) (by rw[decide_eq_false (show ¬ (a.Args.length:Int)<(b.Args.length:Int) by omega)]; rfl) _ _ (fun j _ hj=>?_)]
     ·rfl
     ·have ha:=getD_mem (l:=a.Args) (i:=j) (by omega)
      have hb:=getD_mem (l:=b.Args) (i:=j) (by omega)
      rw[idx_getD (by omega),ai,decide_eq_false (show ¬ (b.Args.length:Int)≤(j:Int) by omega),cond_false,idx_getD (by omega),ai]
      have:=(hR _ ha _ hb n (by have:=Tt.lt ha; omega)).2
      simp only[this,ai]
      cases decide (cmpR (a.Args.getD j default) (b.Args.getD j default)=0)<;>rfl
  ·have:=cmpS_ne e
   rw[if_neg e,if_neg this,decide_eq_false this]; rfl
 have hr:cmpR a b=bif isVarS a.Name then(bif isVarS b.Name then w else -1) else(bif isVarS b.Name then 1 else w):=by
  rw[cmpR_u]
  have hl:¬ a.Args.length<b.Args.length→¬ b.Args.length<a.Args.length→lexI (fun j=>cmpR (a.Args.getD j default) (b.Args.getD j default)) a.Args.length 0=cmpRs a.Args b.Args:=fun h1 h2=>lexI_eq a.Args b.Args (by omega)
  have hw:w=cmpB a b:=by
   simp only[w,cmpB]
   by_cases e:a.Name=b.Name
   ·rw[if_pos e,if_pos e]
    by_cases e1:a.Args.length<b.Args.length
    ·rw[if_pos e1,if_pos e1]
    ·rw[if_neg e1,if_neg e1]
     by_cases e2:b.Args.length<a.Args.length
     ·rw[if_pos e2,if_pos e2]
     ·rw[if_neg e2,if_neg e2,hl e1 e2]
   ·rw[if_neg e,if_neg e]
  rw[hw]
  cases isVarS a.Name<;>cases isVarS b.Name<;>rfl
 intro n hn
 rw[hr]
 cases n with
 | zero=>omega
 | succ n=>
  rw[spec_l2CompareN,impl_compareTermsN,sa,sb,ia,ib]
  simp only[ai]
  have h1:=hS n hn
  have h2:=hI n hn
  cases isVarS a.Name<;>cases isVarS b.Name<;>simp only[cond_true,cond_false]
  ·exact⟨h1,h2⟩
  ·exact⟨trivial,trivial⟩
  ·exact⟨trivial,trivial⟩
  ·exact⟨h1,h2⟩
theorem cmpR_spec{a b:Tt}(h1:a.Ok)(h2:a.good=true)(h3:b.Ok)(h4:b.good=true):spec_l2Compare a b=some (cmpR a b)∧impl_compareTerms a b=some (cmpR a b):=
 ⟨lim_eq ⟨_,fun n hn=>(cmp_both a b h1 h2 h3 h4 n hn).1⟩,lim_eq ⟨_,fun n hn=>(cmp_both a b h1 h2 h3 h4 n hn).2⟩⟩
/-! It is a strict order. -/
theorem cmpS_neg(a b:ByteArray):cmpS b a=- cmpS a b:=by
 unfold cmpS
 by_cases h:slt a b=true
 ·have h2:slt b a=false:=bytesLess_asymm h
  have hne:¬ b=a:=by rintro rfl; rw[h] at h2; cases h2
  rw[if_pos h,if_neg (by rw[h2]; simp),if_neg hne]; rfl
 ·by_cases e:a=b
  ·subst e; rw[if_neg h,if_pos rfl]; rfl
  ·have:=slt_tri h e
   rw[if_pos this,if_neg h,if_neg e]
theorem cmpS_lt{a b:ByteArray}:cmpS a b<0↔slt a b=true:=by
 unfold cmpS
 by_cases h:slt a b=true
 ·rw[if_pos h]; simp[h]
 ·rw[if_neg h]
  split<;>simp[h]
theorem cmpRs_zero:∀ (l k:List Tt),(∀ x∈l,∀ y,cmpR x y=0→x=y)→l.length=k.length→cmpRs l k=0→l=k
 | [],[],_,_,_=>rfl
 | [],_::_,_,h,_=>by simp at h
 | _::_,[],_,h,_=>by simp at h
 | a::l,b::k,ih,h,hz=>by
  rw[cmpRs] at hz
  by_cases c:cmpR a b=0
  ·rw[if_pos c] at hz
   rw[ih a (by simp) b c,cmpRs_zero l k (fun x hx=>ih x (by simp[hx])) (by simpa using h) hz]
  ·rw[if_neg c] at hz; exact absurd hz c
theorem cmpR_zero(a:Tt):∀ b,cmpR a b=0→a=b:=by
 refine bA (M:=fun a=>∀ b,cmpR a b=0→a=b) (fun a ih b h=>?_) a
 rw[cmpR_u] at h
 by_cases hv:isVarS a.Name=isVarS b.Name
 ·rw[if_pos hv] at h
  unfold cmpB at h
  by_cases e:a.Name=b.Name
  ·rw[if_pos e] at h
   by_cases e1:a.Args.length<b.Args.length
   ·rw[if_pos e1] at h; omega
   ·rw[if_neg e1] at h
    by_cases e2:b.Args.length<a.Args.length
    ·rw[if_pos e2] at h; omega
    ·rw[if_neg e2] at h
     have:=cmpRs_zero a.Args b.Args ih (by omega) h
     cases a; cases b; simp only[Tt.Name_mk,Tt.Args_mk] at e this; rw[e,this]
  ·rw[if_neg e] at h; exact absurd h (cmpS_ne e)
 ·rw[if_neg hv] at h; split at h<;>omega
theorem cmpRs_neg:∀ (l k:List Tt),(∀ x∈l,∀ y,cmpR y x=- cmpR x y)→cmpRs k l=- cmpRs l k
 | [],[],_=>rfl
 | [],_::_,_=>rfl
 | _::_,[],_=>rfl
 | a::l,b::k,ih=>by
  rw[cmpRs,cmpRs,ih a (by simp) b]
  by_cases c:cmpR a b=0
  ·rw[if_pos c,if_pos (by omega)]; exact cmpRs_neg l k fun x hx=>ih x (by simp[hx])
  ·rw[if_neg c,if_neg (by omega)]
theorem cmpR_neg(a:Tt):∀ b,cmpR b a=- cmpR a b:=by
 refine bA (M:=fun a=>∀ b,cmpR b a=- cmpR a b) (fun a ih b=>?_) a
 rw[cmpR_u,cmpR_u a]
 by_cases hv:isVarS a.Name=isVarS b.Name
 ·rw[if_pos hv,if_pos hv.symm]
  unfold cmpB
  by_cases e:a.Name=b.Name
  ·rw[if_pos e,if_pos e.symm]
   by_cases e1:a.Args.length<b.Args.length
   ·rw[if_pos e1,if_neg (by omega),if_pos e1]; rfl
   ·by_cases e2:b.Args.length<a.Args.length
    ·rw[if_pos e2,if_neg e1,if_pos e2]
    ·rw[if_neg e2,if_neg e1,if_neg e1,if_neg e2]; exact cmpRs_neg _ _ ih
  ·rw[if_neg e,if_neg (Ne.symm e)]; exact cmpS_neg _ _
 ·rw[if_neg hv,if_neg (Ne.symm hv)]
  cases h1:isVarS a.Name<;>cases h2:isVarS b.Name
  ·rw[h1,h2] at hv; exact absurd rfl hv
  ·simp
  ·simp
  ·rw[h1,h2] at hv; exact absurd rfl hv
theorem cmpR_self(a:Tt):cmpR a a=0:=by have:=cmpR_neg a a; omega
theorem cmpRs_trans:∀ (l k m:List Tt),(∀ x∈l,∀ y z,cmpR x y<0→cmpR y z<0→cmpR x z<0)→cmpRs l k<0→cmpRs k m<0→cmpRs l m<0
 | [],k,m,_,h,_=>by cases k<;>simp[cmpRs] at h
 | _::_,[],m,_,h,_=>by simp[cmpRs] at h
 | _::_,_::_,[],_,_,h=>by simp[cmpRs] at h
 | a::l,b::k,c::m,ih,h1,h2=>by
  rw[cmpRs] at h1 h2 ⊢
  by_cases e1:cmpR a b=0
  ·obtain rfl:=cmpR_zero a b e1
   rw[if_pos e1] at h1
   by_cases e2:cmpR a c=0
   ·rw[if_pos e2] at h2 ⊢; exact cmpRs_trans l k m (fun x hx=>ih x (by simp[hx])) h1 h2
   ·rw[if_neg e2] at h2 ⊢; exact h2
  ·rw[if_neg e1] at h1
   by_cases e2:cmpR b c=0
   ·obtain rfl:=cmpR_zero b c e2
    rw[if_neg e1]; exact h1
   ·rw[if_neg e2] at h2
    have:=ih a (by simp) b c h1 h2
    rw[if_neg (by omega)]; exact this
theorem cmpR_trans(a:Tt):∀ b c,cmpR a b<0→cmpR b c<0→cmpR a c<0:=by
 refine bA (M:=fun a=>∀ b c,cmpR a b<0→cmpR b c<0→cmpR a c<0) (fun a ih b c h1 h2=>?_) a
 rw[cmpR_u] at h1 h2 ⊢
 have body:cmpB a b<0→cmpB b c<0→cmpB a c<0:=by
  unfold cmpB
  intro h1 h2
  by_cases e1:a.Name=b.Name
  ·rw[if_pos e1] at h1
   by_cases e2:b.Name=c.Name
   ·rw[if_pos e2] at h2
    rw[if_pos (e1.trans e2)]
    by_cases l1:a.Args.length<b.Args.length
    ·by_cases l2:b.Args.length<c.Args.length
     ·rw[if_pos (by omega)]; omega
     ·rw[if_neg l2] at h2
      by_cases l3:c.Args.length<b.Args.length
      ·rw[if_pos l3] at h2; omega
      ·rw[if_pos (by omega)]; omega
    ·rw[if_neg l1] at h1
     by_cases l2:b.Args.length<a.Args.length
     ·rw[if_pos l2] at h1; omega
     ·rw[if_neg l2] at h1
      by_cases l3:b.Args.length<c.Args.length
      ·rw[if_pos (by omega)]; omega
      ·rw[if_neg l3] at h2
       by_cases l4:c.Args.length<b.Args.length
       ·rw[if_pos l4] at h2; omega
       ·rw[if_neg l4] at h2
        rw[if_neg (by omega),if_neg (by omega)]
        exact cmpRs_trans _ _ _ ih h1 h2
   ·rw[if_neg e2] at h2
    rw[if_neg (fun h=>e2 (e1▸h)),e1]; exact h2
  ·rw[if_neg e1] at h1
   by_cases e2:b.Name=c.Name
   ·rw[if_neg (fun h=>e1 (h.trans e2.symm)),← e2]; exact h1
   ·rw[if_neg e2] at h2
    have h3:slt a.Name c.Name=true:=bytesLess_trans (cmpS_lt.1 h1) (cmpS_lt.1 h2)
    have h4:¬ a.Name=c.Name:=fun h=>by
     have h5:=cmpS_lt.1 h1
     have h6:=cmpS_lt.1 h2
     rw[← h] at h6
     have:slt b.Name a.Name=false:=bytesLess_asymm h5
     rw[this] at h6; cases h6
    rw[if_neg h4]; exact cmpS_lt.2 h3
 cases va:isVarS a.Name<;>cases vb:isVarS b.Name<;>cases vc:isVarS c.Name<;>simp[va,vb,vc] at h1 h2 ⊢
 ·exact body h1 h2
 ·exact body h1 h2
end
section
noncomputable def ascC(l:List Tt)(j:Nat):Bool:=decide (j=0)||decide (cmpR (l.getD (j-1) default) (l.getD j default)<0)
noncomputable def asc(l:List Tt):Bool:=(List.range l.length).all (ascC l)
theorem asc_impl{l:List Tt}(hok:LOk Tt.Ok l)(hg:∀ a∈l,a.good=true):impl_areAscending l=some (asc l&&decide (l.length≤12)):=by
 unfold impl_areAscending asc
 rw[forN_all (ascC l)]
 ·cases (List.range l.length).all (ascC l)
  ·rfl
  ·rw[cond_true,Bool.true_and]; congr 1; exact decide_eq_decide.2 (by omega)
 ·intro j hj _
  by_cases h0:j=0
  ·subst h0; rfl
  ·have hb:=hok.1
   have hp:=getD_mem (l:=l) (i:=j-1) (by omega)
   have hq:=getD_mem (l:=l) (i:=j) (by omega)
   rw[decide_eq_true (show(0:Int)<(j:Int) by omega),cond_true,idx_pred hj (by omega) (by simp only[Big] at hb; omega),ai,idx_getD hj,ai,
    (cmpR_spec (hok.2 _ hp) (hg _ hp) (hok.2 _ hq) (hg _ hq)).2,ai]
   unfold ascC
   rw[decide_eq_false h0,Bool.false_or]
   by_cases c:cmpR (l.getD (j-1) default) (l.getD j default)<0
   ·rw[decide_eq_true c,decide_eq_false (by omega)]; rfl
   ·rw[decide_eq_false c,decide_eq_true (by omega)]; rfl
def nameA:ByteArray:=⟨#[65]⟩
def gndT(t:Tt):Bool:=goodT t&&t.vars.isEmpty
def patT(t:Tt):Bool:=goodT t&&t.vars.all (fun x=>decide (x=nameA))
theorem goodT_u{t:Tt}(h:goodT t=true):t.good=true∧t.cnt≤1000:=by
 unfold goodT smallT at h
 simp only[aA,decide_eq_true_eq] at h
 exact⟨h.2,by omega⟩
theorem isGround_eq(t:Tt)(h:t.tot≤1048576)(hok:t.Ok):impl_isGroundTerm t=some (gndT t):=by
 unfold impl_isGroundTerm gndT
 rw[IsValidTerm_ok t h hok,ai]
 cases hg:goodT t
 ·rfl
 ·obtain⟨v,h1,h2⟩:=collect_ok (goodT_u hg).1 (goodT_u hg).2
  rw[cond_true,h1,ai,len0_of h2]; rfl
theorem notGround_eq(t:Tt)(h:t.tot≤1048576)(hok:t.Ok):impl_notGround t=some (!gndT t):=by
 unfold impl_notGround; rw[isGround_eq t h hok]; rfl
theorem any_iff{v w:List ByteArray}(h:∀ x,x∈v↔x∈w)(p:ByteArray→Bool):v.any p=w.any p:=by
 rw[Bool.eq_iff_iff,List.any_eq_true,List.any_eq_true]
 exact⟨fun ⟨x,a,b⟩=>⟨x,(h x).1 a,b⟩,fun ⟨x,a,b⟩=>⟨x,(h x).2 a,b⟩⟩
theorem isPattern_eq(t:Tt)(h:t.tot≤1048576)(hok:t.Ok):impl_isPattern t=some (patT t):=by
 unfold impl_isPattern patT
 rw[IsValidTerm_ok t h hok,ai]
 cases hg:goodT t
 ·rfl
 ·obtain⟨v,h1,h2⟩:=collect_ok (goodT_u hg).1 (goodT_u hg).2
  rw[cond_true,h1,ai]
  unfold slices_ContainsFunc_Sstring_string slices_IndexFunc_Sstring_string
  rw[find_list (f:=fun y0=>impl_isPattern_1 y0) (p:=fun x=>!decide (x=nameA)) v (fun a ha=>rfl),ai,any_iff h2,Bool.true_and,List.all_eq_not_any_not]
theorem ground_spec(t:Tt)(hok:t.Ok)(hg:goodT t=true):spec_l16Ground t=some t.vars.isEmpty:=by
 obtain⟨v,h1,h2,_⟩:=l2Vars_ok hok (goodT_u hg).1 (goodT_u hg).2
 unfold spec_l16Ground
 rw[h1,ai,len0_of h2]
def patD(e:Bool)(t:Tt):Bool:=patT t&&(!e||gndT t)
noncomputable def validD(d:Dt):Bool:=decide (d.Patterns.length≤12)&&decide (d.Instances.length≤12)&&d.Instances.all gndT&&d.Patterns.all (patD d.Instances.isEmpty)&&asc d.Patterns&&asc d.Instances
theorem gnd_good{l:List Tt}(h:l.all gndT=true):∀ a∈l,a.good=true:=fun a ha=>by
 have:=List.all_eq_true.1 h a ha
 unfold gndT at this
 rw[aA] at this
 exact(goodT_u this.1).1
theorem pat_good{l:List Tt}(h:l.all patT=true):∀ a∈l,a.good=true:=fun a ha=>by
 have:=List.all_eq_true.1 h a ha
 unfold patT at this
 rw[aA] at this
 exact(goodT_u this.1).1
theorem patD_all(e:Bool)(l:List Tt):l.all (patD e)=(l.all patT&&(!e||l.all gndT)):=by
 induction l with
 | nil=>cases e<;>rfl
 | cons a l ih=>
  simp only[List.all_cons,ih,patD]
  cases e<;>cases patT a<;>cases gndT a<;>cases l.all patT<;>cases l.all gndT<;>rfl
theorem tot_mem{l:List Tt}{a:Tt}(h:a∈l):a.tot≤ltot bg l:=by
 have:=le_sum_mem bg h
 unfold ltot; omega
theorem contF{p:Tt→Bool}{f:Tt→Option Bool}(l:List Tt)(h:∀ a∈l,f a=some (!p a)):slices_ContainsFunc_Simpl_Term_impl_Term l f=some (!l.all p):=by
 unfold slices_ContainsFunc_Simpl_Term_impl_Term slices_IndexFunc_Simpl_Term_impl_Term
 rw[find_list (p:=fun a=>!p a) l h,List.all_eq_not_any_not,Bool.not_not]
theorem impl_dec(d:Dt)(hok:d.Ok)(ht:d.tot≤1048576):impl_IsValidDecomposition d=some (validD d):=by
 unfold impl_IsValidDecomposition validD
 unfold Dt.tot at ht
 have tI:∀ a∈d.Instances,impl_notGround a=some (!gndT a):=fun a ha=>notGround_eq a (by have:=tot_mem ha; omega) (hok.2.2 a ha)
 have tP:∀ a∈d.Patterns,impl_notGround a=some (!gndT a):=fun a ha=>notGround_eq a (by have:=tot_mem ha; omega) (hok.1.2 a ha)
 have tQ:∀ a∈d.Patterns,impl_IsValidDecomposition_1 a=some (!patT a):=fun a ha=>by
  unfold impl_IsValidDecomposition_1
  rw[isPattern_eq a (by have:=tot_mem ha; omega) (hok.1.2 a ha)]; rfl
 rw[contF d.Instances tI,ai,contF d.Patterns tQ,ai,contF d.Patterns tP,ai,patD_all]
 cases hI:d.Instances.all gndT
 ·simp
 ·cases hP:d.Patterns.all patT
  ·simp
  ·rw[asc_impl hok.1 (pat_good hP),ai,asc_impl hok.2 (gnd_good hI),ai]
   have:decide ((0:Int)<(d.Instances.length:Int))=!d.Instances.isEmpty:=by cases d.Instances<;>simp
   rw[this]
   cases asc d.Patterns<;>cases asc d.Instances<;>cases decide (d.Patterns.length≤12)<;>cases decide (d.Instances.length≤12)<;>cases d.Instances.isEmpty<;>cases d.Patterns.all gndT<;>rfl
end
section
/-! ### copies -/
theorem mapL{α β ρ:Type}{f:α→Option β}{g:α→β}:∀ (l:List α) (i:Nat) (s:List β),(∀ a∈l,f a=some (g a))→s.length+l.length≤1073741824→
 forL (ρ:=ρ) (fun _ x (s:List β)=>(f x).bind fun v=>(app s [v]).bind fun w=>some (.nx w)) l i s=some (.inr (s++l.map g))
 | [],i,s,_,_=>by simp[forL]
 | a::l,i,s,h,hb=>by
  simp only[aH] at hb
  rw[forL_nx (s':=s++[g a]) (by rw[h a (by simp),ai]; unfold app; rw[if_pos (by simp only[aH,a6]; omega)]; rfl),
   mapL l (i+1) _ (fun b hb=>h b (by simp[hb])) (by simp only[aQ,aH,a6]; omega)]
  simp
theorem cnts_len:∀ l:List Tt,l.length≤Tt.cnts l
 | []=>by simp
 | a::l=>by have:=cnts_len l; have:=a.cnt_pos; simp only[Tt.cnts,aH]; omega
theorem cnts_mem{a:Tt}:∀ {l:List Tt},a∈l→a.cnt≤Tt.cnts l
 | b::l,h=>by
  simp only[Tt.cnts]
  rcases List.mem_cons.1 h with rfl | h
  ·omega
  ·have:=cnts_mem h; omega
theorem mkn_len{n:Nat}(h:n≤1073741824):mkn (n:Int)=some n:=by unfold mkn; rw[if_pos (by omega)]; simp
theorem ownTN(t:Tt):t.cnt≤10000000→∀ n,2*aX t≤n→spec_l2OwnN n t=some t:=by
 refine bA (M:=fun t=>t.cnt≤10000000→∀ n,2*aX t≤n→spec_l2OwnN n t=some t) (fun t ih hc n hn=>?_) t
 have hp:=t.pos
 have hu:=t.cnt_u
 have hl:=cnts_len t.Args
 cases n with
 | zero=>omega
 | succ n=>
  rw[spec_l2OwnN]
  simp only[forN_idx]
  rw[mapL (f:=spec_l2OwnN n) (g:=fun x=>x) t.Args 0 [] (fun a ha=>ih a ha (by have:=cnts_mem ha; omega) n (by have:=Tt.lt ha; omega)) (by simp; omega),thenL_inr]
  simp[t.eta]
theorem ownT(t:Tt)(h:t.cnt≤10000000):spec_l2Own t=some t:=lim_eq ⟨_,ownTN t h⟩
theorem copyTN(t:Tt):t.cnt≤10000000→∀ n,3*aX t≤n→impl_copyTermN n t=some t:=by
 refine bA (M:=fun t=>t.cnt≤10000000→∀ n,3*aX t≤n→impl_copyTermN n t=some t) (fun t ih hc n hn=>?_) t
 have hp:=t.pos
 have hu:=t.cnt_u
 have hl:=cnts_len t.Args
 obtain⟨m,rfl⟩:∃ m,n=m+2:=⟨n-2,by omega⟩
 show impl_copyTermN (m+2) _=_
 rw[impl_copyTermN]
 show aa (impl_copyTermsN (m+1) t.Args) _=_
 rw[impl_copyTermsN,isEmpty_dec]
 cases he:t.Args.isEmpty
 ·rw[cond_false,toL (f:=impl_copyTermN m) (g:=fun x=>x) (z:=(Tt.mk (⟨#[]⟩:ByteArray) ([]))) (xs:=t.Args) (fun a ha=>ih a ha (by have:=cnts_mem ha; omega) m (by have:=Tt.lt ha; omega)) (by omega)]
  simp[t.eta]
 ·have h0:t.Args=[]:=by simpa using he
  rw[cond_true,ai]
  conv=>rhs; rw[← t.eta,h0]
theorem copyT(t:Tt)(h:t.cnt≤10000000):impl_copyTerm t=some t:=lim_eq ⟨_,copyTN t h⟩
theorem copyTs(l:List Tt)(h:∀ t∈l,t.cnt≤10000000)(hl:l.length≤1073741824):impl_copyTerms l=some l:=by
 refine lim_eq ⟨3*aX l+1,fun n hn=>?_⟩
 obtain⟨m,rfl⟩:∃ m,n=m+1:=⟨n-1,by omega⟩
 show impl_copyTermsN (m+1) l=_
 rw[impl_copyTermsN,isEmpty_dec]
 cases he:l.isEmpty
 ·rw[cond_false,toL (f:=impl_copyTermN m) (g:=fun x=>x) (z:=(Tt.mk (⟨#[]⟩:ByteArray) ([]))) (xs:=l) (fun a ha=>copyTN a (h a ha) m (by have:=List.sizeOf_lt_of_mem ha; omega)) hl]
  simp
 ·have h0:l=[]:=by simpa using he
  rw[h0]; rfl
theorem cnt_of_tot{t:Tt}(h:t.tot≤1048576):t.cnt≤10000000:=by have:=Tt.cnt_tot t; omega
/-! ### terms: a variable replaced -/
mutual
def sbT(n:ByteArray)(t:Tt):Tt→Tt
 | .mk x l=>bif l.isEmpty&&decide (x=n) then t else .mk x (sbTs n t l)
def sbTs(n:ByteArray)(t:Tt):List Tt→List Tt
 | []=>[]
 | a::l=>sbT n t a::sbTs n t l
end
theorem sbTs_eq(n:ByteArray)(t:Tt)(l:List Tt):sbTs n t l=l.map (sbT n t):=by
 induction l with
 | nil=>rfl
 | cons a l ih=>rw[sbTs,ih]; rfl
theorem sbT_u(n:ByteArray)(t a:Tt):sbT n t a=bif a.Args.isEmpty&&decide (a.Name=n) then t else .mk a.Name (a.Args.map (sbT n t)):=by cases a; rw[sbT,sbTs_eq]; rfl
theorem l4Put_eq(n:ByteArray)(t:Tt)(h:t.cnt≤10000000):spec_l4Put ⟨[]⟩ n t=some (bif decide (t.Name=n) then⟨[]⟩ else⟨[⟨n,t⟩]⟩):=by
 unfold spec_l4Put
 cases decide (t.Name=n)
 ·simp only[cond_false,a6,forN_zero,thenL_inr,ownT t h]
  rfl
 ·rfl
/-- The substitution that the text builds. -/
def one(n:ByteArray)(t:Tt):Sa:=bif decide (t.Name=n) then⟨[]⟩ else⟨[⟨n,t⟩]⟩
theorem find_one(n:ByteArray)(t:Tt)(x:ByteArray):spec_l4Find (one n t) x=some (bif decide (t.Name=n) then -1 else bif decide (n=x) then 0 else -1):=by
 unfold one
 cases decide (t.Name=n)
 ·simp only[cond_false,spec_l4Find,aH,a6]
  show thenL (forN _ (0+1) 0 ()) _=_
  cases e:decide (n=x)
  ·rw[forN_nx (s':=()) (by show aa (some _) _=_; rw[ai,e]; rfl)]; rfl
  ·rw[forN_rt (r:=((0:Nat):Int)) (by show aa (some _) _=_; rw[ai,e]; rfl)]; rfl
 ·rfl
theorem sb_nonvar{n:ByteArray}{t a:Tt}(hn:isVarS n=true)(ha:isVarS a.Name=false):sbT n t a=.mk a.Name (a.Args.map (sbT n t)):=by
 rw[sbT_u,decide_eq_false (fun e=>by rw[e,hn] at ha; cases ha),Bool.and_false,cond_false]
theorem l4ApplyN_good{n:ByteArray}{t:Tt}(hn:isVarS n=true)(ht:t.cnt≤10000000)(hg:t.good=true)(a:Tt):a.Ok→a.good=true→∀ k,2*aX a≤k→spec_l4ApplyN k (one n t) a=some (sbT n t a):=by
 refine bA (M:=fun a=>a.Ok→a.good=true→∀ k,2*aX a≤k→spec_l4ApplyN k (one n t) a=some (sbT n t a)) (fun a ih hok hga k hk=>?_) a
 have hp:=a.pos
 cases k with
 | zero=>omega
 | succ k=>
  rw[spec_l4ApplyN,l2Var_eq _ hok.u.1,ai]
  rcases nameCase hga with⟨hv,ha⟩ | ⟨hv,hs,h4,hall⟩
  ·rw[hv,cond_true,find_one,ai,sbT_u,ha]
   by_cases e:t.Name=n
   ·rw[decide_eq_true e,cond_true]
    have hta:t.Args=[]:=by
     rcases nameCase hg with⟨_,h⟩ | ⟨h,_⟩
     ·exact h
     ·rw[e,hn] at h; cases h
    rw[show decide ((0:Int)≤-1)=false from rfl,cond_false]
    by_cases e2:a.Name=n
    ·rw[decide_eq_true e2]
     have:t=⟨a.Name,[]⟩:=by rw[← t.eta,hta,e,e2]
     rw[this]; rfl
    ·rw[decide_eq_false e2]; rfl
   ·rw[decide_eq_false e,cond_false]
    by_cases e2:a.Name=n
    ·rw[decide_eq_true e2.symm,decide_eq_true e2,cond_true]
     have:one n t=⟨[⟨n,t⟩]⟩:=by unfold one; rw[decide_eq_false e]; rfl
     rw[this,show decide ((0:Int)≤0)=true from rfl,cond_true]
     show aa (some _) _=_
     rw[ai,ownT t ht]; rfl
    ·rw[decide_eq_false (Ne.symm e2),decide_eq_false e2]; rfl
  ·rw[hv,cond_false,sb_nonvar hn hv]
   simp only[forN_idx]
   rw[mapL (f:=spec_l4ApplyN k (one n t)) (g:=sbT n t) a.Args 0 [] (fun x hx=>ih x hx (hok.u.2.2 x hx) (hall x hx) k (by have:=Tt.lt hx; omega)) (by simp; omega),thenL_inr]
   simp
/-! ### occurrences -/
mutual
def Tt.occ(v:ByteArray):Tt→Nat
 | .mk x l=>(bif decide (x=v) then 1 else 0)+Tt.occs v l
def Tt.occs(v:ByteArray):List Tt→Nat
 | []=>0
 | a::l=>a.occ v+Tt.occs v l
end
theorem Tt.occ_u(v:ByteArray)(a:Tt):a.occ v=(bif decide (a.Name=v) then 1 else 0)+Tt.occs v a.Args:=by cases a; rw[Tt.occ]; rfl
theorem cn_le(v:ByteArray)(a:Tt):a.occ v≤a.cnt:=by
 refine bA (M:=fun a=>a.occ v≤a.cnt) (fun a ih=>?_) a
 have:∀ l:List Tt,(∀ x∈l,x.occ v≤x.cnt)→Tt.occs v l≤Tt.cnts l:=by
  intro l
  induction l with
  | nil=>intro _; simp[Tt.occs]
  | cons b l ihl=>intro h; have:=h b (by simp); have:=ihl (fun x hx=>h x (by simp[hx])); simp only[Tt.occs,Tt.cnts]; omega
 have:=this a.Args ih
 rw[Tt.occ_u,a.cnt_u]
 cases decide (a.Name=v)<;>simp<;>omega
theorem cns_le(v:ByteArray):∀ l:List Tt,Tt.occs v l≤Tt.cnts l
 | []=>by simp[Tt.occs]
 | a::l=>by have:=cn_le v a; have:=cns_le v l; simp only[Tt.occs,Tt.cnts]; omega
theorem count_loop(v:ByteArray)(f:Tt→Option Int):∀ (l:List Tt) (i s:Nat),(∀ x∈l,f x=some (x.occ v:Int))→s+Tt.occs v l≤1000000000→
 forL (ρ:=Int) (fun _ x (s:Int)=>(f x).bind fun c=>some (.nx (IntKind.i64.wrap (s+c)))) l i (s:Int)=some (.inr ((s+Tt.occs v l:Nat):Int))
 | [],i,s,_,_=>by simp[forL,Tt.occs]
 | a::l,i,s,h,hb=>by
  simp only[Tt.occs] at hb
  rw[forL_nx (s':=((s+a.occ v:Nat):Int)) (by rw[h a (by simp),ai,wrap64 (by omega) (by omega)]; simp),count_loop v f l (i+1) _ (fun x hx=>h x (by simp[hx])) (by omega)]
  simp only[Tt.occs,Nat.add_assoc]
theorem countN_eq(v:ByteArray)(a:Tt):a.cnt≤10000000→∀ n,2*aX a≤n→impl_countNameN n a v=some (a.occ v:Int):=by
 refine bA (M:=fun a=>a.cnt≤10000000→∀ n,2*aX a≤n→impl_countNameN n a v=some (a.occ v:Int)) (fun a ih hc n hn=>?_) a
 have hp:=a.pos
 have hu:=a.cnt_u
 have hcl:=cns_le v a.Args
 cases n with
 | zero=>omega
 | succ n=>
  have hf:∀ x∈a.Args,impl_countNameN n x v=some (x.occ v:Int):=fun x hx=>ih x hx (by have:=cnts_mem hx; omega) n (by have:=Tt.lt hx; omega)
  rw[impl_countNameN,Tt.occ_u]
  simp only[forN_idx]
  cases decide (a.Name=v)
  ·have:=count_loop v (fun x=>impl_countNameN n x v) a.Args 0 0 hf (by omega)
   rw[cond_false,show((0:Nat):Int)=0 from rfl] at*
   rw[this,thenL_inr]; simp
  ·have:=count_loop v (fun x=>impl_countNameN n x v) a.Args 0 1 hf (by omega)
   rw[cond_true,show((1:Nat):Int)=1 from rfl] at*
   rw[this,thenL_inr]; simp
theorem cn_vars{v:ByteArray}(hv:isVarS v=true)(a:Tt):a.good=true→(0<a.occ v↔v∈a.vars):=by
 refine bA (M:=fun a=>a.good=true→(0<a.occ v↔v∈a.vars)) (fun a ih hg=>?_) a
 rw[Tt.occ_u,Tt.vars_u]
 rcases nameCase hg with⟨h1,h2⟩ | ⟨h1,_,_,hall⟩
 ·rw[h1,cond_true,h2,List.mem_singleton]
  by_cases e:a.Name=v
  ·rw[decide_eq_true e]; simp[e]; try omega
  ·rw[decide_eq_false e]; simp[Tt.occs,Ne.symm e]
 ·rw[h1,cond_false,decide_eq_false (fun e=>by rw[e,hv] at h1; cases h1),cond_false,Nat.zero_add]
  have:∀ l:List Tt,(∀ x∈l,(0<x.occ v↔v∈x.vars))→(0<Tt.occs v l↔v∈Tt.varss l):=by
   intro l
   induction l with
   | nil=>intro _; simp[Tt.occs,Tt.varss]
   | cons b l ihl=>
    intro h
    simp only[Tt.occs,Tt.varss,bc]
    rw[← h b (by simp),← ihl (fun x hx=>h x (by simp[hx]))]; omega
  exact this a.Args (fun x hx=>ih x hx (hall x hx))
def hasV(v:ByteArray)(l:List ByteArray):Bool:=l.any fun y=>decide (v=y)
theorem hasV_iff{v:ByteArray}{l:List ByteArray}:hasV v l=true↔v∈l:=by
 unfold hasV; rw[List.any_eq_true]
 exact⟨fun ⟨y,h1,h2⟩=>by rw[of_decide_eq_true h2]; exact h1,fun h=>⟨v,h,decide_eq_true rfl⟩⟩
theorem occurs_eq{v:ByteArray}(hv:isVarS v=true){a:Tt}(hg:a.good=true)(hc:a.cnt≤10000000):impl_occurs v a=some (hasV v a.vars):=by
 unfold impl_occurs
 rw[show impl_countName a v=some (a.occ v:Int) from lim_eq ⟨_,countN_eq v a hc⟩,ai]
 congr 1
 rw[Bool.eq_iff_iff,hasV_iff,← cn_vars hv a hg,decide_eq_true_iff]
 omega
end
section
theorem smallT_cnt{t:Tt}(h:smallT t=true):t.cnt≤30:=by
 unfold smallT at h; rw[aA] at h; exact of_decide_eq_true h.1
theorem goodT_iff{t:Tt}(h:goodT t=true):t.good=true∧t.cnt≤30:=by
 unfold goodT at h; rw[aA] at h; exact⟨h.2,smallT_cnt h.1⟩
theorem Tt.Ok_of(t:Tt):t.tot≤1048576→t.Ok:=by
 refine bA (M:=fun t=>t.tot≤1048576→t.Ok) (fun t ih h=>?_) t
 have hu:=t.tot_u
 have hl:=ltot_len bg t.Args
 have:=Tt.Ok.mk t.Name t.Args (by simp only[Big]; omega) (by simp only[Big]; omega) (fun a ha=>ih a ha (by have:=Go.Av.tot_mem bg ha; omega))
 rwa [t.eta] at this
mutual
def Tt.tiny:Tt→Bool
 | .mk x l=>decide (x.size≤6)&&Tt.tinys l
def Tt.tinys:List Tt→Bool
 | []=>true
 | a::l=>a.tiny&&Tt.tinys l
end
theorem Tt.tinys_eq(l:List Tt):Tt.tinys l=l.all Tt.tiny:=by
 induction l with
 | nil=>rfl
 | cons a l ih=>rw[Tt.tinys,ih]; rfl
theorem Tt.tiny_u(t:Tt):t.tiny=(decide (t.Name.size≤6)&&t.Args.all Tt.tiny):=by cases t; rw[Tt.tiny,Tt.tinys_eq]; rfl
theorem tiny_tots:∀ l:List Tt,(∀ a∈l,a.tot+1≤7*a.cnt)→ltot bg l≤7*Tt.cnts l
 | [],_=>by simp[ltot]
 | a::l,h=>by
  have h1:=h a (by simp)
  have h2:=tiny_tots l (fun x hx=>h x (by simp[hx]))
  simp only[ltot,aH,aF,bK,Tt.cnts] at*
  omega
theorem tiny_tot(t:Tt):t.tiny=true→t.tot+1≤7*t.cnt:=by
 refine bA (M:=fun t=>t.tiny=true→t.tot+1≤7*t.cnt) (fun t ih h=>?_) t
 rw[Tt.tiny_u,aA,decide_eq_true_iff,aZ] at h
 have h1:=tiny_tots t.Args (fun a ha=>ih a ha (h.2 a ha))
 rw[t.tot_u,t.cnt_u]; omega
theorem var_size{s:ByteArray}(h:isVarS s=true):s.size≤4:=by
 unfold isVarS at h
 rw[aA] at h
 have:=inR_iff.1 h.1; omega
theorem sym_size{s:ByteArray}(h:isSymS s=true):s.size≤6:=by
 unfold isSymS at h
 rw[aA,aA] at h
 have:=inR_iff.1 h.1.1; omega
theorem good_tiny(t:Tt):t.good=true→t.tiny=true:=by
 refine bA (M:=fun t=>t.good=true→t.tiny=true) (fun t ih h=>?_) t
 rw[Tt.tiny_u,aA,decide_eq_true_iff,aZ]
 rcases nameCase h with⟨h1,h2⟩ | ⟨_,h1,_,hall⟩
 ·exact⟨by have:=var_size h1; omega,by rw[h2]; simp⟩
 ·exact⟨sym_size h1,fun a ha=>ih a ha (hall a ha)⟩
theorem sb_tiny{n:ByteArray}{t:Tt}(ht:t.tiny=true)(a:Tt):a.tiny=true→(sbT n t a).tiny=true:=by
 refine bA (M:=fun a=>a.tiny=true→(sbT n t a).tiny=true) (fun a ih h=>?_) a
 rw[Tt.tiny_u,aA,aZ] at h
 rw[sbT_u]
 cases (a.Args.isEmpty&&decide (a.Name=n))
 ·rw[cond_false,Tt.tiny_u,aA,aZ]
  refine⟨h.1,fun x hx=>?_⟩
  obtain⟨y,hy,rfl⟩:=List.mem_map.1 hx
  exact ih y hy (h.2 y hy)
 ·exact ht
theorem sb_cnts{n:ByteArray}{t:Tt}:∀ l:List Tt,(∀ a∈l,(sbT n t a).cnt≤a.cnt*t.cnt)→Tt.cnts (l.map (sbT n t))≤Tt.cnts l*t.cnt
 | [],_=>by simp[Tt.cnts]
 | a::l,h=>by
  have h1:=h a (by simp)
  have h2:=sb_cnts l (fun x hx=>h x (by simp[hx]))
  simp only[aF,Tt.cnts,Nat.add_mul]; omega
theorem sb_cnt{n:ByteArray}{t:Tt}(a:Tt):(sbT n t a).cnt≤a.cnt*t.cnt:=by
 refine bA (M:=fun a=>(sbT n t a).cnt≤a.cnt*t.cnt) (fun a ih=>?_) a
 have hp:=t.cnt_pos
 have h1:=sb_cnts a.Args ih
 rw[sbT_u,a.cnt_u,Nat.add_mul,Nat.one_mul]
 cases (a.Args.isEmpty&&decide (a.Name=n))
 ·rw[cond_false,Tt.cnt_u]; show 1+Tt.cnts (a.Args.map _)≤_; omega
 ·rw[cond_true]; omega
theorem goodT_Ok{t:Tt}(h:goodT t=true):t.tot≤210∧t.Ok:=by
 obtain⟨h1,h2⟩:=goodT_iff h
 have:=tiny_tot t (good_tiny t h1)
 exact⟨by omega,Tt.Ok_of t (by omega)⟩
end
section
/-! ### lists of ground terms -/
theorem terms_spec{l:List Tt}(hok:LOk Tt.Ok l)(ht:∀ a∈l,a.tot≤1048576):spec_l16Terms l=some (decide (l.length≤60)&&l.all gndT):=by
 unfold spec_l16Terms
 rw[forN_all (fun j=>decide (j≤60)&&gndT (l.getD j default)) (r0:=false)]
 ·by_cases h:l.length≤60
  ·rw[decide_eq_true (show(l.length:Int)≤60 by omega),decide_eq_true h,Bool.true_and,range_all_list' l (fun j=>decide (j≤60)&&gndT (l.getD j default)) gndT (fun i hi=>by rw[decide_eq_true (show i≤60 by omega),Bool.true_and])]
   cases l.all gndT<;>rfl
  ·rw[decide_eq_false (show ¬ (l.length:Int)≤60 by omega),decide_eq_false h]
   cases (List.range l.length).all fun j=>decide (j≤60)&&gndT (l.getD j default)<;>rfl
 ·intro j hj _
  have hm:=getD_mem hj
  by_cases c:j≤60
  ·rw[decide_eq_true (show(j:Int)≤60 by omega),cond_true,idx_getD hj,ai,l2Good_ok _ (ht _ hm) (hok.2 _ hm),ai,decide_eq_true c,Bool.true_and]
   unfold gndT
   cases hg:goodT (l.getD j default)
   ·rfl
   ·rw[cond_true,ai,ground_spec _ (hok.2 _ hm) hg,ai]
    cases (l.getD j default).vars.isEmpty<;>rfl
  ·rw[decide_eq_false (show ¬ (j:Int)≤60 by omega),decide_eq_false c,decide_eq_false (show ¬ (l.length:Int)≤60 by omega)]; rfl
theorem same_impl(a b:List Tt):slices_EqualFunc_Simpl_Term_Simpl_Term_impl_Term_impl_Term a b (fun y0 y1=>impl_EqualTerms y0 y1)=some (same a b):=by
 unfold slices_EqualFunc_Simpl_Term_Simpl_Term_impl_Term_impl_Term
 rw[len_dec']
 by_cases h:a.length=b.length
 ·rw[decide_eq_true h,cond_true]
  exact same_loop _ a b h (fun x _ y=>EqualTerms_ok x y)
 ·rw[decide_eq_false h,same_len h]; rfl
theorem same_spec(a b:List Tt):spec_l22Same a b=some (same a b):=by
 unfold spec_l22Same
 rw[len_dec']
 by_cases h:a.length=b.length
 ·rw[decide_eq_true h,cond_true]
  exact same_loop _ a b h (fun x _ y=>l2Same_ok x y)
 ·rw[decide_eq_false h,same_len h]; rfl
end
section
/-! ### patterns and what fills them -/
def hole:Tt:=⟨⟨#[65]⟩,[]⟩
mutual
/-- The hole does not occur. -/
def Tt.noH:Tt→Bool
 | .mk n l=>!(decide (n=⟨#[65]⟩)&&l.isEmpty)&&Tt.noHs l
def Tt.noHs:List Tt→Bool
 | []=>true
 | a::l=>a.noH&&Tt.noHs l
end
mutual
def Tt.fl(x:Tt):Tt→Tt
 | .mk n l=>bif decide (n=⟨#[65]⟩)&&l.isEmpty then x else .mk n (Tt.fls x l)
def Tt.fls(x:Tt):List Tt→List Tt
 | []=>[]
 | a::l=>Tt.fl x a::Tt.fls x l
end
theorem Tt.noHs_eq(l:List Tt):Tt.noHs l=l.all Tt.noH:=by
 induction l with
 | nil=>rfl
 | cons a l ih=>rw[Tt.noHs,ih]; rfl
theorem Tt.fls_eq(x:Tt)(l:List Tt):Tt.fls x l=l.map (Tt.fl x):=by
 induction l with
 | nil=>rfl
 | cons a l ih=>rw[Tt.fls,ih]; rfl
theorem Tt.noH_u(a:Tt):a.noH=(!(decide (a.Name=⟨#[65]⟩)&&a.Args.isEmpty)&&a.Args.all Tt.noH):=by cases a; rw[Tt.noH,Tt.noHs_eq]; rfl
theorem Tt.fl_u(x a:Tt):Tt.fl x a=bif decide (a.Name=⟨#[65]⟩)&&a.Args.isEmpty then x else .mk a.Name (a.Args.map (Tt.fl x)):=by cases a; rw[Tt.fl,Tt.fls_eq]; rfl
theorem fl_hole(x:Tt):Tt.fl x hole=x:=by
 rw[Tt.fl_u]
 show(bif decide ((⟨#[65]⟩:ByteArray)=⟨#[65]⟩)&&true then x else _)=x
 rw[decide_eq_true rfl]; rfl
theorem fl_noH(x a:Tt):a.noH=true→Tt.fl x a=a:=by
 refine bA (M:=fun a=>a.noH=true→Tt.fl x a=a) (fun a ih h=>?_) a
 rw[Tt.noH_u,aA,Bool.not_eq_true',aZ] at h
 rw[Tt.fl_u,h.1,cond_false,List.map_congr_left (g:=id) fun b hb=>ih b hb (h.2 b hb),List.map_id]
 cases a; rfl
theorem noH_arg{a b:Tt}(h:a.noH=true)(hb:b∈a.Args):b.noH=true:=by
 rw[Tt.noH_u,aA,aZ] at h
 exact h.2 b hb
/-- A pattern and its instances describe a list. -/
structure GenOk(l:List Tt)(r:Tt×List Tt):Prop where
 none:r.2=[]→∀ y∈l,y=r.1
 some:r.2≠[]→r.2.map (fun z=>Tt.fl z r.1)=l
theorem GenOk.hole(l:List Tt):GenOk l (Go.Proofs.YtnjgpibbjiofpaaGreat.hole,l):=
 ⟨fun h y hy=>by rw[show l=[] from h] at hy; exact(nomatch hy),fun _=>by
  show l.map (fun z=>Tt.fl z Go.Proofs.YtnjgpibbjiofpaaGreat.hole)=l
  rw[List.map_congr_left (g:=id) fun z _=>fl_hole z,List.map_id]⟩
noncomputable def genL(R:Nat→Tt×List Tt)(w:List Tt):Nat→Nat→List Tt→List Tt→(Tt×List Tt) ⊕ (List Tt×List Tt)
 | 0,_,o,s=>.inr (o,s)
 | k+1,i,o,s=>bif (R i).2.isEmpty then genL R w k (i+1) (o++[(R i).1]) s else bif s.isEmpty||same s (R i).2 then genL R w k (i+1) (o++[(R i).1]) (R i).2 else .inl (hole,w)
def col(l:List Tt)(i:Nat):List Tt:=l.map fun y=>y.Args.getD i default
/-- What the round over the columns has found. -/
structure ColOk(l:List Tt)(i:Nat)(o s:List Tt):Prop where
 len:o.length=i
 none:s=[]→∀ y∈l,y.Args.take i=o
 some:s≠[]→s.map (fun z=>o.map (Tt.fl z))=l.map fun y=>y.Args.take i
 pos:s≠[]→0<i
theorem take_succ_getD{α:Type}[Inhabited α]{l:List α}{i:Nat}(h:i<l.length):l.take (i+1)=l.take i++[l.getD i default]:=by
 rw[List.take_add_one]
 congr 1
 simp[List.getD,h]
theorem map_snoc_eq{s:List Tt}{o:List Tt}{p:Tt}{l:List Tt}{i:Nat}(h1:s.map (fun z=>o.map (Tt.fl z))=l.map fun y=>y.Args.take i)(h2:s.map (fun z=>Tt.fl z p)=l.map fun y=>y.Args.getD i default)(hi:∀ y∈l,i<y.Args.length):
 s.map (fun z=>(o++[p]).map (Tt.fl z))=l.map fun y=>y.Args.take (i+1):=by
 induction l generalizing s with
 | nil=>
  rw[List.map_nil,List.map_eq_nil_iff] at h1
  rw[h1]; rfl
 | cons y l ih=>
  cases s with
  | nil=>simp at h1
  | cons z s=>
   simp only[aF,List.cons.injEq] at h1 h2 ⊢
   refine⟨?_,ih h1.2 h2.2 fun y hy=>hi y (by simp[hy])⟩
   rw[take_succ_getD (hi y (by simp)),← h1.1,← h2.1]; simp
theorem const_map{s l:List Tt}{f:Tt→List Tt}{o:List Tt}(hlen:s.length=l.length)(hs:∀ z∈s,(fun z=>o.map (Tt.fl z)) z=o)(hl:∀ y∈l,f y=o):s.map (fun z=>o.map (Tt.fl z))=l.map f:=by
 rw[List.map_congr_left (g:=fun _=>o) hs,List.map_congr_left (g:=fun _=>o) hl]
 rw[List.map_const',List.map_const',hlen]
theorem genL_ok{R:Nat→Tt×List Tt}{l:List Tt}{N:Nat}(hN:∀ y∈l,y.Args.length=N)(hH:∀ y∈l,y.noH=true)(hl:l≠[])(hR:∀ i,i<N→GenOk (col l i) (R i)):
 ∀ (k i:Nat) (o s:List Tt),i+k=N→ColOk l i o s→(∀ a∈o,s=[]→a.noH=true)→(match genL R l k i o s with
  | .inl r=>r=(hole,l)
  | .inr (o',s')=>ColOk l N o' s')
 | 0,i,o,s,hi,h,_=>by
  rw[Nat.add_zero] at hi
  rw[genL]; exact hi▸h
 | k+1,i,o,s,hi,h,hn=>by
  have hlt:∀ y∈l,i<y.Args.length:=fun y hy=>by rw[hN y hy]; omega
  have G:=hR i (by omega)
  rw[genL]
  by_cases e:(R i).2=[]
  ·have g:=G.none e
   have hp:∀ y∈l,y.Args.getD i default=(R i).1:=fun y hy=>g _ (List.mem_map_of_mem (f:=fun y:Tt=>y.Args.getD i default) hy)
   have hpn:(R i).1.noH=true:=by
    obtain⟨y,hy⟩:=List.exists_mem_of_ne_nil l hl
    rw[← hp y hy]
    exact noH_arg (hH y hy) (getD_mem (hlt y hy))
   rw[e]
   simp only[List.isEmpty_nil,cond_true]
   refine genL_ok hN hH hl hR k (i+1) _ s (by omega) ⟨by rw[aQ,h.len]; rfl,fun hs y hy=>?_,fun hs=>?_,fun _=>Nat.succ_pos _⟩ (fun a ha hs=>?_)
   ·rw[take_succ_getD (hlt y hy),h.none hs y hy,hp y hy]
   ·refine map_snoc_eq (h.some hs) ?_ hlt
    have hlen:s.length=l.length:=by have:=congrArg List.length (h.some hs); simpa using this
    rw[List.map_congr_left (g:=fun _=>(R i).1) (fun z _=>fl_noH z _ hpn),List.map_congr_left (g:=fun _=>(R i).1) hp]
    rw[List.map_const',List.map_const',hlen]
   ·rcases List.mem_append.1 ha with ha | ha
    ·exact hn a ha hs
    ·rw[List.mem_singleton.1 ha]; exact hpn
  ·have g:=G.some e
   have he:(R i).2.isEmpty=false:=by cases hq:(R i).2 with
    | nil=>exact absurd hq e
    | cons a b=>rfl
   rw[he,cond_false]
   have glen:(R i).2.length=l.length:=by have:=congrArg List.length g; simpa[col] using this
   have next:(o.length=i∧(R i).2.map (fun z=>o.map (Tt.fl z))=l.map fun y=>y.Args.take i)→(match genL R l k (i+1) (o++[(R i).1]) (R i).2 with
    | .inl r=>r=(hole,l)
    | .inr (o',s')=>ColOk l N o' s'):=fun h'=>by
    refine genL_ok hN hH hl hR k (i+1) _ _ (by omega) ⟨by rw[aQ,h'.1]; rfl,fun hs=>absurd hs e,fun hs=>?_,fun _=>Nat.succ_pos _⟩ (fun a ha hs=>absurd hs e)
    exact map_snoc_eq h'.2 g hlt
   by_cases hs:s=[]
   ·rw[hs]
    simp only[List.isEmpty_nil,Bool.true_or,cond_true]
    refine next ⟨h.len,?_⟩
    exact const_map glen (fun z _=>by
     show o.map (Tt.fl z)=o
     rw[List.map_congr_left (g:=id) fun a ha=>fl_noH z a (hn a ha hs),List.map_id]) (fun y hy=>h.none hs y hy)
   ·have hse:s.isEmpty=false:=by cases hq:s with
     | nil=>exact absurd hq hs
     | cons a b=>rfl
    rw[hse,Bool.false_or]
    cases q:same s (R i).2
    ·rfl
    ·rw[cond_true]
     have:=same_iff.1 q
     rw[this] at hs
     exact next ⟨h.len,by rw[← this]; exact h.some (by rw[this]; exact hs)⟩
theorem gen_end{l o s:List Tt}{x:Tt}(hN:∀ y∈l,y.Name=x.Name∧y.Args.length=x.Args.length)(hl:l≠[])(h:ColOk l x.Args.length o s):GenOk l (⟨x.Name,o⟩,s):=by
 have full:∀ y∈l,y.Args.take x.Args.length=y.Args:=fun y hy=>by rw[← (hN y hy).2,List.take_length]
 refine⟨fun hs y hy=>?_,fun hs=>?_⟩
 ·have:=h.none hs y hy
  rw[full y hy] at this
  have hn:=(hN y hy).1
  cases y
  show Tt.mk _ _=Tt.mk _ _
  rw[← this,← hn]; rfl
 ·have hs:s≠[]:=hs
  have hpos:=h.pos hs
  have hlen:=h.len
  show s.map (fun z=>Tt.fl z ⟨x.Name,o⟩)=l
  have e:=h.some hs
  by_cases hz:o=[]
  ·rw[hz] at hlen
   have:([]:List Tt).length=0:=rfl
   omega
  ·have hoe:o.isEmpty=false:=by cases hq:o with
    | nil=>exact absurd hq hz
    | cons a b=>rfl
   have:∀ z∈s,Tt.fl z ⟨x.Name,o⟩=⟨x.Name,o.map (Tt.fl z)⟩:=fun z _=>by
    rw[Tt.fl_u]
    show(bif decide (x.Name=⟨#[65]⟩)&&o.isEmpty then z else _)=_
    rw[hoe,Bool.and_false]; rfl
   rw[List.map_congr_left this,show(fun z=>(⟨x.Name,o.map (Tt.fl z)⟩:Tt))=(fun a=>⟨x.Name,a⟩)∘(fun z=>o.map (Tt.fl z)) from rfl,← bL,e,bL]
   rw[List.map_congr_left (g:=id) fun y hy=>?_,List.map_id]
   show(⟨x.Name,y.Args.take x.Args.length⟩:Tt)=y
   rw[full y hy,← (hN y hy).1]; cases y; rfl
end
section
/-! ### the round over the arguments -/
theorem app1{α:Type}(xs:List α)(x:α)(h:xs.length+1≤1073741824):app xs [x]=some (xs++[x]):=by
 unfold app; rw[if_pos (by simp only[aH,a6]; omega)]
theorem gen_impl{R:Nat→Tt×List Tt}{w:List Tt}{F:Nat→List Tt×List Tt→Option (Flow (Tt×List Tt) (List Tt×List Tt))}{N:Nat}
 (h:∀ i o s,i<N→o.length≤100000000→F i (o,s)=some (bif (R i).2.isEmpty then .nx (o++[(R i).1],s) else bif s.isEmpty||same s (R i).2 then .nx (o++[(R i).1],(R i).2) else .rt (hole,w))):
 ∀ (k i:Nat) (o s:List Tt),i+k≤N→o.length+k≤100000000→forN F k i (o,s)=some (genL R w k i o s)
 | 0,i,o,s,_,_=>rfl
 | k+1,i,o,s,hi,ho=>by
  have h0:=h i o s (by omega) (by omega)
  rw[genL]
  cases e:(R i).2.isEmpty
  ·rw[e,cond_false] at h0
   cases e2:(s.isEmpty||same s (R i).2)
   ·rw[e2,cond_false] at h0
    rw[forN_rt (r:=(hole,w)) h0]; rfl
   ·rw[e2,cond_true] at h0
    rw[forN_nx (s':=(o++[(R i).1],(R i).2)) h0,gen_impl h k (i+1) _ _ (by omega) (by simp only[aQ,aH,a6]; omega)]; rfl
  ·rw[e,cond_true] at h0
   rw[forN_nx (s':=(o++[(R i).1],s)) h0,gen_impl h k (i+1) _ _ (by omega) (by simp only[aQ,aH,a6]; omega)]; rfl
def swp:(Tt×List Tt) ⊕ (List Tt×List Tt)→(Tt×List Tt) ⊕ (List Tt×List Tt)
 | .inl r=>.inl r
 | .inr (o,s)=>.inr (s,o)
theorem gen_spec{R:Nat→Tt×List Tt}{w:List Tt}{F:Nat→List Tt×List Tt→Option (Flow (Tt×List Tt) (List Tt×List Tt))}{N:Nat}
 (h:∀ i o s,i<N→o.length≤100000000→F i (s,o)=some (bif (R i).2.isEmpty then .nx (s,o++[(R i).1]) else bif s.isEmpty||same s (R i).2 then .nx ((R i).2,o++[(R i).1]) else .rt (hole,w))):
 ∀ (k i:Nat) (o s:List Tt),i+k≤N→o.length+k≤100000000→forN F k i (s,o)=some (swp (genL R w k i o s))
 | 0,i,o,s,_,_=>rfl
 | k+1,i,o,s,hi,ho=>by
  have h0:=h i o s (by omega) (by omega)
  rw[genL]
  cases e:(R i).2.isEmpty
  ·rw[e,cond_false] at h0
   cases e2:(s.isEmpty||same s (R i).2)
   ·rw[e2,cond_false] at h0
    rw[forN_rt (r:=(hole,w)) h0]; rfl
   ·rw[e2,cond_true] at h0
    rw[forN_nx (s':=((R i).2,o++[(R i).1])) h0,gen_spec h k (i+1) _ _ (by omega) (by simp only[aQ,aH,a6]; omega)]; rfl
  ·rw[e,cond_true] at h0
   rw[forN_nx (s':=(s,o++[(R i).1])) h0,gen_spec h k (i+1) _ _ (by omega) (by simp only[aQ,aH,a6]; omega)]; rfl
/-- What the round leaves is no larger than what it had. -/
theorem genL_fine{R:Nat→Tt×List Tt}{w:List Tt}{c:Nat→Nat}{B:Nat}(hR:∀ i,(R i).1.cnt≤c i∧Tt.cnts (R i).2≤B):∀ (k i:Nat) (o s:List Tt),Tt.cnts s≤B→
 (match genL R w k i o s with
 | .inl r=>r=(hole,w)
 | .inr (o',s')=>Tt.cnts o'≤Tt.cnts o+((List.range k).map fun j=>c (i+j)).sum∧Tt.cnts s'≤B)
 | 0,i,o,s,hs=>by simp[genL,hs]
 | k+1,i,o,s,hs=>by
  have step:∀ s2,Tt.cnts s2≤B→(match genL R w k (i+1) (o++[(R i).1]) s2 with
   | .inl r=>r=(hole,w)
   | .inr (o',s')=>Tt.cnts o'≤Tt.cnts o+((List.range (k+1)).map fun j=>c (i+j)).sum∧Tt.cnts s'≤B):=fun s2 h2=>by
   have:=genL_fine (w:=w) (c:=c) hR k (i+1) (o++[(R i).1]) s2 h2
   revert this
   cases genL R w k (i+1) (o++[(R i).1]) s2 with
   | inl r=>exact id
   | inr p=>
    obtain⟨o',s'⟩:=p
    rintro ⟨h1,h3⟩
    refine⟨?_,h3⟩
    have e1:Tt.cnts (o++[(R i).1])=Tt.cnts o+(R i).1.cnt:=by rw[Tt.cnts_eq,Tt.cnts_eq]; simp
    have e2:=(hR i).1
    rw[List.range_succ_eq_map,aF,bK,bL]
    have e3:((List.range k).map ((fun j=>c (i+j))∘Nat.succ))=(List.range k).map fun j=>c (i+1+j):=List.map_congr_left fun j _=>by
     show c (i+(j+1))=c (i+1+j); congr 1; omega
    rw[e3]
    simp only[Nat.add_zero]
    omega
  rw[genL]
  cases (R i).2.isEmpty
  ·cases s.isEmpty||same s (R i).2
   ·rfl
   ·exact step _ (hR i).2
  ·exact step _ hs
/-! ### generalization -/
theorem dep_u(t:Tt):t.dep=1+Tt.deps t.Args:=by cases t; exact Tt.dep_mk _ _
theorem dep_mem{a:Tt}:∀ {l:List Tt},a∈l→a.dep≤Tt.deps l
 | [],h=>by simp at h
 | b::l,h=>by
  simp only[Tt.deps]
  rcases List.mem_cons.1 h with rfl | h
  ·exact Nat.le_max_left _ _
  ·have:=dep_mem h; exact Nat.le_trans this (Nat.le_max_right _ _)
/-! ### what a generalization is -/
theorem genL_shape{R:Nat→Tt×List Tt}{w:List Tt}:∀ (k i:Nat) (o s:List Tt),(match genL R w k i o s with
 | .inl r=>r=(hole,w)
 | .inr (o',s')=>o'=o++(List.range' i k).map (fun j=>(R j).1)∧(s'=s∨∃ j,i≤j∧j<i+k∧s'=(R j).2))
 | 0,i,o,s=>by simp[genL]
 | k+1,i,o,s=>by
  have step:∀ s2,(s2=s∨s2=(R i).2)→(match genL R w k (i+1) (o++[(R i).1]) s2 with
   | .inl r=>r=(hole,w)
   | .inr (o',s')=>o'=o++(List.range' i (k+1)).map (fun j=>(R j).1)∧(s'=s∨∃ j,i≤j∧j<i+(k+1)∧s'=(R j).2)):=fun s2 h2=>by
   have:=genL_shape (R:=R) (w:=w) k (i+1) (o++[(R i).1]) s2
   revert this
   cases genL R w k (i+1) (o++[(R i).1]) s2 with
   | inl r=>exact id
   | inr p=>
    obtain⟨o',s'⟩:=p
    rintro ⟨h1,h3⟩
    refine⟨by rw[h1,List.range'_succ,aF,aV]; rfl,?_⟩
    rcases h3 with h3 | ⟨j,a,b,c⟩
    ·rcases h2 with h2 | h2
     ·exact .inl (h3.trans h2)
     ·exact .inr ⟨i,aP _,by omega,h3.trans h2⟩
    ·exact .inr ⟨j,by omega,by omega,c⟩
  rw[genL]
  cases (R i).2.isEmpty
  ·cases s.isEmpty||same s (R i).2
   ·rfl
   ·exact step _ (.inr rfl)
  ·exact step _ (.inl rfl)
theorem hole_good:hole.good=true:=by
 rw[Tt.good_u]
 show(bif isVarS nameA then true else _)=true
 rw[show isVarS nameA=true by decide]; rfl
theorem hole_dep:hole.dep=1:=by rw[hole,Tt.dep_mk]; rfl
theorem dep_pos(t:Tt):1≤t.dep:=by cases t; rw[Tt.dep_mk]; omega
structure GenE(l:List Tt)(r:Tt×List Tt):Prop where
 ok:(∀ y∈l,y.noH=true)→GenOk l r
 good:(∀ y∈l,y.good=true)→r.1.good=true∧r.1.dep≤(l.headD default).dep∧∀ z∈r.2,z.good=true∧∃ y∈l,z.cnt≤y.cnt∧z.dep≤y.dep
theorem GenE.hole(l:List Tt):GenE l (Go.Proofs.YtnjgpibbjiofpaaGreat.hole,l):=
 ⟨fun _=>GenOk.hole l,fun h=>⟨hole_good,by rw[hole_dep]; exact dep_pos _,fun z hz=>⟨h z hz,z,hz,aP _,aP _⟩⟩⟩
theorem GenE.same{x:Tt}{xs:List Tt}(h:(xs.all fun y=>Go.Proofs.YtnjgpibbjiofpaaGreat.same x y)=true):GenE (x::xs) (x,[]):=
 ⟨fun _=>⟨fun _ y hy=>by
  rcases List.mem_cons.1 hy with rfl | hy
  ·rfl
  ·exact(same_iff.1 (List.all_eq_true.1 h y hy)).symm,fun hn=>absurd rfl hn⟩,fun hg=>⟨hg x (by simp),aP _,fun z hz=>by simp at hz⟩⟩
theorem dep_u'(t:Tt):t.dep=1+Tt.deps t.Args:=by cases t; exact Tt.dep_mk _ _
theorem deps_le_of:∀ {l m:List Tt},l.length=m.length→(∀ j,j<l.length→(l.getD j default).dep≤(m.getD j default).dep)→Tt.deps l≤Tt.deps m
 | [],_,_,_=>Nat.zero_le _
 | a::l,[],h,_=>by simp at h
 | a::l,b::m,h,hj=>by
  have h0:=hj 0 (by simp)
  have:=deps_le_of (l:=l) (m:=m) (by simpa using h) (fun j h'=>by have:=hj (j+1) (by simpa using h'); simpa using this)
  simp only[Tt.deps,List.getD_cons_zero] at h0 ⊢
  omega
theorem GenE.cols{x:Tt}{xs:List Tt}{R:Nat→Tt×List Tt}(hA:(xs.all fun y=>decide (y.Name=x.Name)&&decide (y.Args.length=x.Args.length))=true)(hR:∀ i,i<x.Args.length→GenE (col (x::xs) i) (R i)):
 GenE (x::xs) (match genL R (x::xs) x.Args.length 0 [] [] with | .inl r=>r | .inr (o,s)=>(⟨x.Name,o⟩,s)):=by
 have alk:∀ y∈x::xs,y.Name=x.Name∧y.Args.length=x.Args.length:=fun y hy=>by
  rcases List.mem_cons.1 hy with rfl | hy
  ·exact⟨rfl,rfl⟩
  ·have:=List.all_eq_true.1 hA y hy
   rw[aA,decide_eq_true_eq,decide_eq_true_eq] at this
   exact this
 have mem:∀ i,i<x.Args.length→∀ y∈x::xs,y.Args.getD i default∈y.Args:=fun i hi y hy=>getD_mem (by rw[(alk y hy).2]; exact hi)
 refine⟨fun hH=>?_,fun hg=>?_⟩
 ·have:=genL_ok (R:=R) (l:=x::xs) (N:=x.Args.length) (fun y hy=>(alk y hy).2) hH (by simp) (fun i hi=>(hR i hi).ok (fun z hz=>by
   obtain⟨y,hy,rfl⟩:=List.mem_map.1 hz
   exact noH_arg (hH y hy) (mem i hi y hy))) x.Args.length 0 [] [] (by omega) ⟨rfl,fun _ y _=>by simp,fun h=>absurd rfl h,fun h=>absurd rfl h⟩ (fun a ha=>by simp at ha)
  revert this
  cases genL R (x::xs) x.Args.length 0 [] [] with
  | inl r=>intro e; rw[show r=(Go.Proofs.YtnjgpibbjiofpaaGreat.hole,x::xs) from e]; exact GenOk.hole _
  | inr p=>exact fun h=>gen_end alk (by simp) h
 ·have:=genL_shape (R:=R) (w:=x::xs) x.Args.length 0 [] []
  revert this
  cases genL R (x::xs) x.Args.length 0 [] [] with
  | inl r=>intro e; rw[show r=(Go.Proofs.YtnjgpibbjiofpaaGreat.hole,x::xs) from e]; exact(GenE.hole _).good hg
  | inr p=>
   obtain⟨o,s⟩:=p
   rintro ⟨h1,h2⟩
   rw[bC] at h1
   have hlen:o.length=x.Args.length:=by rw[h1]; simp
   have colg:∀ i,i<x.Args.length→∀ z∈col (x::xs) i,z.good=true:=fun i hi z hz=>by
    obtain⟨y,hy,rfl⟩:=List.mem_map.1 hz
    have gy:=hg y hy
    have hm:=mem i hi y hy
    rcases nameCase gy with⟨_,e⟩ | ⟨_,_,_,h4⟩
    ·rw[e] at hm; simp at hm
    ·exact h4 _ hm
   have oj:∀ j,j<o.length→o.getD j default=(R j).1:=fun j hj=>by
    rw[h1] at hj ⊢
    simp only[au,List.length_range'] at hj
    simp[List.getD,hj]
   have og:∀ a∈o,a.good=true:=fun a ha=>by
    rw[h1] at ha
    obtain⟨j,hj,rfl⟩:=List.mem_map.1 ha
    rw[List.mem_range'_1] at hj
    exact((hR j (by omega)).good (colg j (by omega))).1
   refine⟨?_,?_,fun z hz=>?_⟩
   ·rw[Tt.good_u]
    show(bif isVarS x.Name then o.isEmpty else(isSymS x.Name&&decide (o.length≤4)&&o.all Tt.good))=true
    have gx:=hg x (by simp)
    rcases nameCase gx with⟨e,e2⟩ | ⟨e,e2,e3,_⟩
    ·rw[e,cond_true]
     rw[e2] at hlen
     cases o with
     | nil=>rfl
     | cons a o=>simp at hlen
    ·rw[e,cond_false,e2,decide_eq_true (by omega),Bool.and_self,Bool.true_and,aZ]
     exact og
   ·show(⟨x.Name,o⟩:Tt).dep≤x.dep
    rw[Tt.dep_mk,dep_u' x]
    have:=deps_le_of hlen (fun j hj=>by
     rw[oj j hj]
     have:=((hR j (by omega)).good (colg j (by omega))).2.1
     exact this)
    omega
   ·rcases h2 with rfl | ⟨j,_,hj,rfl⟩
    ·simp at hz
    ·obtain⟨g1,y,hy,g2,g3⟩:=((hR j (by omega)).good (colg j (by omega))).2.2 z hz
     obtain⟨u,hu,rfl⟩:=List.mem_map.1 hy
     refine⟨g1,u,hu,?_,?_⟩
     ·have:=cnts_mem (mem j (by omega) u hu)
      have:=u.cnt_u
      omega
     ·have:=dep_mem (mem j (by omega) u hu)
      have:=dep_u' u
      omega
theorem copy_spec{l:List Tt}(h:∀ t∈l,t.cnt≤10000000)(hl:l.length≤1073741824):spec_l22Copy l=some l:=by
 unfold spec_l22Copy
 simp only[forN_idx]
 rw[mapL (f:=spec_l2Own) (g:=id) l 0 [] (fun a ha=>ownT a (h a ha)) (by simpa using hl),thenL_inr]
 simp
theorem alike_loop{x:Tt}{F:Nat→Bool×Bool→Option (Flow (Tt×List Tt) (Bool×Bool))}{l:List Tt}
 (h:∀ pre y rest e a,l=pre++y::rest→F pre.length (e,a)=some (.nx (e&&same x y,a&&(decide (y.Name=x.Name)&&decide (y.Args.length=x.Args.length))))):
 ∀ (rest pre:List Tt) (e a:Bool),l=pre++rest→forN F rest.length pre.length (e,a)=some (.inr (e&&rest.all (fun y=>same x y),a&&rest.all (fun y=>decide (y.Name=x.Name)&&decide (y.Args.length=x.Args.length))))
 | [],pre,e,a,_=>by simp[forN_zero]
 | y::rest,pre,e,a,hl=>by
  rw[aH,forN_nx (s':=(e&&same x y,a&&(decide (y.Name=x.Name)&&decide (y.Args.length=x.Args.length)))) (h pre y rest e a hl)]
  have:=alike_loop h rest (pre++[y]) (e&&same x y) (a&&(decide (y.Name=x.Name)&&decide (y.Args.length=x.Args.length))) (by simpa using hl)
  rw[aQ,aH,a6] at this
  rw[this,List.all_cons,List.all_cons,Bool.and_assoc,Bool.and_assoc]
theorem same_refl{α:Type}(a:α):same a a=true:=same_iff.2 rfl
theorem gen_both:∀ (d:Nat) (x:Tt) (xs:List Tt),x.dep≤d→(∀ y∈x::xs,y.tot≤1048576)→(x::xs).length≤1000→
 ∃ r:Tt×List Tt,(∀ n,d≤n→impl_generalizationN n (x::xs)=some r∧spec_l22GeneralN n (x::xs)=some r)∧r.1.cnt≤x.cnt∧Tt.cnts r.2≤Tt.cnts (x::xs)∧GenE (x::xs) r
 | 0,x,xs,h,_,_=>by rw[dep_u] at h; omega
 | d+1,x,xs,hd,ht,hl=>by
  have hc:∀ y∈x::xs,y.cnt≤10000000:=fun y hy=>cnt_of_tot (ht y hy)
  have hx:=ht x (by simp)
  have hargs:x.Args.length≤1048576:=by
   have h1:=ltot_len bg x.Args
   have h2:=x.tot_u
   omega
  have hcp:=copyTs (x::xs) hc (by omega)
  have hsp:=copy_spec hc (show(x::xs).length≤1073741824 by omega)
  -- the columns
  have alk:(xs.all fun y=>decide (y.Name=x.Name)&&decide (y.Args.length=x.Args.length))=true→∀ y∈x::xs,y.Args.length=x.Args.length:=fun h y hy=>by
   rcases List.mem_cons.1 hy with rfl | hy
   ·rfl
   ·have:=List.all_eq_true.1 h y hy
    rw[aA,decide_eq_true_eq,decide_eq_true_eq] at this
    exact this.2
  have IH:(xs.all fun y=>decide (y.Name=x.Name)&&decide (y.Args.length=x.Args.length))=true→∀ i,i<x.Args.length→∃ r:Tt×List Tt,(∀ n,d≤n→impl_generalizationN n (col (x::xs) i)=some r∧spec_l22GeneralN n (col (x::xs) i)=some r)∧r.1.cnt≤(x.Args.getD i default).cnt∧Tt.cnts r.2≤Tt.cnts (x::xs)∧GenE (col (x::xs) i) r:=fun h i hi=>by
   have mem:∀ y∈x::xs,y.Args.getD i default∈y.Args:=fun y hy=>getD_mem (by rw[alk h y hy]; exact hi)
   obtain⟨r,h1,h2,h3,h9⟩:=gen_both d (x.Args.getD i default) (xs.map fun y=>y.Args.getD i default) (by
    have:=dep_mem (mem x (by simp)); rw[dep_u] at hd; omega) (fun z hz=>by
    have:z∈col (x::xs) i:=hz
    obtain⟨y,hy,rfl⟩:=List.mem_map.1 this
    have h4:=Go.Av.tot_mem bg (mem y hy)
    have h5:=y.tot_u
    have h6:=ht y hy
    omega) (by simpa using hl)
   refine⟨r,h1,h2,Nat.le_trans h3 ?_,h9⟩
   have key:∀ l:List Tt,(∀ y∈l,y.Args.getD i default∈y.Args)→Tt.cnts (l.map fun y=>y.Args.getD i default)≤Tt.cnts l:=fun l=>by
    induction l with
    | nil=>intro _; exact aP _
    | cons y l ih=>
     intro hm
     have h7:=cnts_mem (hm y (by simp))
     have h8:=y.cnt_u
     have h9:=ih (fun z hz=>hm z (by simp[hz]))
     simp only[aF,Tt.cnts]
     omega
   exact key (x::xs) mem
  obtain⟨R,hR⟩:∃ R:Nat→Tt×List Tt,(xs.all fun y=>decide (y.Name=x.Name)&&decide (y.Args.length=x.Args.length))=true→(∀ i,i<x.Args.length→∀ n,d≤n→impl_generalizationN n (col (x::xs) i)=some (R i)∧spec_l22GeneralN n (col (x::xs) i)=some (R i))∧
   (∀ i,(R i).1.cnt≤(bif decide (i<x.Args.length) then(x.Args.getD i default).cnt else 1)∧Tt.cnts (R i).2≤Tt.cnts (x::xs))∧∀ i,i<x.Args.length→GenE (col (x::xs) i) (R i):=by
   by_cases h:(xs.all fun y=>decide (y.Name=x.Name)&&decide (y.Args.length=x.Args.length))=true
   ·refine⟨fun i=>if hi:i<x.Args.length then(IH h i hi).choose else(hole,[]),fun _=>⟨fun i hi n hn=>?_,fun i=>?_,fun i hi=>?_⟩⟩
    ·simp only[dif_pos hi]
     exact(IH h i hi).choose_spec.1 n hn
    rotate_left
    ·simp only[dif_pos hi]
     exact(IH h i hi).choose_spec.2.2.2
    ·by_cases hi:i<x.Args.length
     ·simp only[dif_pos hi,decide_eq_true hi,cond_true]
      exact⟨(IH h i hi).choose_spec.2.1,(IH h i hi).choose_spec.2.2.1⟩
     ·simp only[dif_neg hi,decide_eq_false hi,cond_false]
      exact⟨by decide,Nat.zero_le _⟩
   ·exact⟨fun _=>(hole,[]),fun h'=>absurd h' h⟩
  have hEq:slices_ContainsFunc_Simpl_Term_impl_Term (x::xs) (fun y0=>impl_generalization_1 y0 x)=some (!xs.all fun y=>same x y):=by
   unfold slices_ContainsFunc_Simpl_Term_impl_Term slices_IndexFunc_Simpl_Term_impl_Term
   rw[find_list (p:=fun y=>!same y x) (x::xs) (fun a _=>by unfold impl_generalization_1; rw[EqualTerms_ok]; rfl),List.any_cons,same_refl,List.all_eq_not_any_not]
   simp only[same_comm x,Bool.not_true,Bool.false_or,Bool.not_not]
  have hAl:slices_ContainsFunc_Simpl_Term_impl_Term (x::xs) (fun y0=>impl_generalization_2 y0 x)=some (!xs.all fun y=>decide (y.Name=x.Name)&&decide (y.Args.length=x.Args.length)):=by
   unfold slices_ContainsFunc_Simpl_Term_impl_Term slices_IndexFunc_Simpl_Term_impl_Term
   rw[find_list (p:=fun y=>!(decide (y.Name=x.Name)&&decide (y.Args.length=x.Args.length))) (x::xs) (fun a _=>by
    unfold impl_generalization_2
    rw[len_dec']
    cases decide (a.Name=x.Name)<;>rfl),List.any_cons,List.all_eq_not_any_not]
   simp
  have hLoop:∀ (k:Bool×Bool→Option (Tt×List Tt)),thenL (ρ:=(Tt×(List Tt))) (σ:=Bool×Bool) (forN (fun (i4:Nat) (s4:Bool×Bool)=>
   bif s4.1 then
    aa (idx (x::xs) (i4:Int)) fun v30=>
    aa (spec_l2Same x v30) fun v32=>
    bif s4.2 then
     aa (idx (x::xs) (i4:Int)) fun v38=>
     bif decide (v38.Name=x.Name) then
      aa (idx (x::xs) (i4:Int)) fun v48=>
      some (.nx (v32,decide ((v48.Args.length:Int)=(x.Args.length:Int))))
     else
      some (.nx (v32,false))
    else
     some (.nx (v32,false))
   else
    bif s4.2 then
     aa (idx (x::xs) (i4:Int)) fun v38=>
     bif decide (v38.Name=x.Name) then
      aa (idx (x::xs) (i4:Int)) fun v48=>
      some (.nx (false,decide ((v48.Args.length:Int)=(x.Args.length:Int))))
     else
      some (.nx (false,false))
    else
     some (.nx (false,false))) ((x::xs).length-1) 1 (true,true)) k=k (xs.all (fun y=>same x y),xs.all (fun y=>decide (y.Name=x.Name)&&decide (y.Args.length=x.Args.length))):=fun k=>by
   have:=alike_loop (x:=x) (l:=x::xs) (F:=fun (i4:Nat) (s4:Bool×Bool)=>
    bif s4.1 then
     aa (idx (x::xs) (i4:Int)) fun v30=>
     aa (spec_l2Same x v30) fun v32=>
     bif s4.2 then
      aa (idx (x::xs) (i4:Int)) fun v38=>
      bif decide (v38.Name=x.Name) then
       aa (idx (x::xs) (i4:Int)) fun v48=>
       some (.nx (v32,decide ((v48.Args.length:Int)=(x.Args.length:Int))))
      else
       some (.nx (v32,false))
     else
      some (.nx (v32,false))
    else
     bif s4.2 then
      aa (idx (x::xs) (i4:Int)) fun v38=>
      bif decide (v38.Name=x.Name) then
       aa (idx (x::xs) (i4:Int)) fun v48=>
       some (.nx (false,decide ((v48.Args.length:Int)=(x.Args.length:Int))))
      else
       some (.nx (false,false))
     else
      some (.nx (false,false))) (fun pre y rest e a hl=>by
    have hi:idx (x::xs) (pre.length:Int)=some y:=by rw[hl]; exact idx_mid _ _ _
    simp only[hi,ai,l2Same_ok,len_dec']
    cases e<;>cases a<;>cases decide (y.Name=x.Name)<;>rfl) xs [x] true true rfl
   simp only[aH,a6,Nat.zero_add] at this
   rw[show(x::xs).length-1=xs.length by simp,this,thenL_inr,Bool.true_and,Bool.true_and]
  have hxc:=x.cnt_u
  cases hE:xs.all fun y=>same x y
  ·cases hA:xs.all fun y=>decide (y.Name=x.Name)&&decide (y.Args.length=x.Args.length)
   ·-- not alike
    refine⟨(hole,x::xs),fun (n:Nat) hn=>?_,by show 1+0≤x.cnt; omega,aP _,GenE.hole _⟩
    obtain⟨m,rfl⟩:∃ m,n=m+1:=⟨n-1,by omega⟩
    constructor
    ·rw[impl_generalizationN,show idx (x::xs) (0:Int)=some x from rfl,ai,hEq,ai,hE,hAl,hA,hcp]
     rfl
    ·rw[spec_l22GeneralN,show idx (x::xs) (0:Int)=some x from rfl,ai,hLoop,hE,hA,hsp]
     rfl
   ·obtain⟨hR1,hR2,hR3⟩:=hR hA
    have hE3:=GenE.cols hA hR3
    have fine:=genL_fine (w:=x::xs) (c:=fun i=>bif decide (i<x.Args.length) then(x.Args.getD i default).cnt else 1) hR2 x.Args.length 0 [] [] (Nat.zero_le _)
    have hsum:((List.range x.Args.length).map fun j=>bif decide (0+j<x.Args.length) then(x.Args.getD (0+j) default).cnt else 1).sum=Tt.cnts x.Args:=by
     have e1:((List.range x.Args.length).map fun j=>bif decide (0+j<x.Args.length) then(x.Args.getD (0+j) default).cnt else 1)=(List.range x.Args.length).map fun j=>(x.Args.getD j default).cnt:=List.map_congr_left fun j hj=>by
      have:=List.mem_range.1 hj
      rw[Nat.zero_add,decide_eq_true this]; rfl
     rw[e1,Tt.cnts_eq]
     congr 1
     refine List.ext_getElem (by simp) fun j h1 h2=>?_
     simp only[au,List.length_range] at h1
     simp[List.getD,h1]
    rw[hsum] at fine
    have column:∀ (ρ:Type) i,i<x.Args.length→forN (ρ:=ρ) (fun (i14:Nat) (s14:List Tt)=>aa (idx (x::xs) (i14:Int)) fun v44=>aa (idx v44.Args (i:Int)) fun v50=>aa (app s14 ([v50])) fun v53=>some (.nx v53)) (x::xs).length 0 []=some (.inr (col (x::xs) i)):=fun ρ i hi=>by
     have e0:=forN_idx (ρ:=ρ) (x::xs) (fun _ v44 s14=>aa (idx v44.Args (i:Int)) fun v50=>aa (app s14 ([v50])) fun v53=>some (.nx v53)) []
     rw[e0,mapL (f:=fun v:Tt=>idx v.Args (i:Int)) (g:=fun v=>v.Args.getD i default) (x::xs) 0 [] (fun a ha=>idx_getD (by rw[alk hA a ha]; exact hi)) (by simp only[a6]; omega),bC]
     rfl
    refine⟨match genL R (x::xs) x.Args.length 0 [] [] with | .inl r=>r | .inr (o,s)=>(⟨x.Name,o⟩,s),fun (n:Nat) hn=>?_,and_assoc.1 ⟨?_,hE3⟩⟩
    ·obtain⟨m,rfl⟩:∃ m,n=m+1:=⟨n-1,by omega⟩
     constructor
     ·rw[impl_generalizationN,show idx (x::xs) (0:Int)=some x from rfl,ai,hEq,ai,hE,hAl,ai,hA]
      simp only[Bool.not_false,Bool.not_true,cond_true,cond_false]
      rw[gen_impl (R:=R) (w:=x::xs) (N:=x.Args.length) (fun i o s hi ho=>?_) x.Args.length 0 [] [] (by omega) (by simp only[a6]; omega)]
      ·cases genL R (x::xs) x.Args.length 0 [] [] with
       | inl r=>rfl
       | inr p=>rfl
      ·rw[column _ i hi,thenL_inr,(hR1 i hi m (by omega)).1,ai,app1 o _ (by omega),ai,same_impl,hcp]
       cases (R i).2.isEmpty
       ·cases s.isEmpty
        ·cases same s (R i).2<;>rfl
        ·rfl
       ·rfl
     ·rw[spec_l22GeneralN,show idx (x::xs) (0:Int)=some x from rfl,ai,hLoop,hE,hA]
      simp only[cond_true,cond_false]
      rw[gen_spec (R:=R) (w:=x::xs) (N:=x.Args.length) (fun i o s hi ho=>?_) x.Args.length 0 [] [] (by omega) (by simp only[a6]; omega)]
      ·cases genL R (x::xs) x.Args.length 0 [] [] with
       | inl r=>rfl
       | inr p=>rfl
      ·have ne:∀ l:List Tt,decide ((0:Int)<(l.length:Int))=!l.isEmpty:=fun l=>by cases l<;>simp
       rw[column _ i hi,thenL_inr,(hR1 i hi m (by omega)).2,ai,app1 o _ (by omega),ne,ne,same_spec,hsp]
       cases (R i).2.isEmpty
       ·cases s.isEmpty
        ·cases same s (R i).2<;>rfl
        ·rfl
       ·rfl
    ·revert fine
     cases genL R (x::xs) x.Args.length 0 [] [] with
     | inl r=>
      intro e; subst e
      exact⟨by show 1+0≤x.cnt; omega,aP _⟩
     | inr p=>
      obtain⟨o,s⟩:=p
      rintro ⟨h1,h2⟩
      refine⟨?_,h2⟩
      show(⟨x.Name,o⟩:Tt).cnt≤x.cnt
      rw[Tt.cnt_u]
      have:Tt.cnts ([]:List Tt)=0:=rfl
      show 1+Tt.cnts o≤_
      omega
  ·refine⟨(x,[]),fun (n:Nat) hn=>?_,aP _,Nat.zero_le _,GenE.same hE⟩
   obtain⟨m,rfl⟩:∃ m,n=m+1:=⟨n-1,by omega⟩
   constructor
   ·rw[impl_generalizationN,show idx (x::xs) (0:Int)=some x from rfl,ai,hEq,ai,hE,copyT x (hc x (by simp))]
    rfl
   ·rw[spec_l22GeneralN,show idx (x::xs) (0:Int)=some x from rfl,ai,hLoop,hE,ownT x (hc x (by simp))]
    rfl
end
section
/-! ### patterns of different sets with the same instances differ -/
def subS{α:Type}:List α→Nat→Nat→List α
 | [],_,_=>[]
 | t::l,m,i=>if m.testBit i then t::subS l m (i+1) else subS l m (i+1)
theorem subS_mem{α:Type}{l:List α}{m:Nat}{x:α}:∀ {i:Nat},x∈subS l m i↔∃ j,l[j]?=some x∧m.testBit (i+j)=true:=by
 induction l with
 | nil=>intro i; simp[subS]
 | cons t l ih=>
  intro i
  have key:x∈subS l m (i+1)↔∃ j,(t::l)[j+1]?=some x∧m.testBit (i+(j+1))=true:=by
   rw[ih]
   simp only[List.getElem?_cons_succ,Nat.add_assoc,Nat.add_comm 1]
  rw[subS]
  by_cases h:m.testBit i=true
  ·rw[if_pos h,bu,key]
   constructor
   ·rintro (rfl | ⟨j,h1,h2⟩)
    ·exact⟨0,rfl,h⟩
    ·exact⟨j+1,h1,h2⟩
   ·rintro ⟨j,h1,h2⟩
    cases j with
    | zero=>exact .inl (Option.some.inj h1).symm
    | succ j=>exact .inr ⟨j,h1,h2⟩
  ·rw[if_neg h,key]
   constructor
   ·rintro ⟨j,h1,h2⟩; exact⟨j+1,h1,h2⟩
   ·rintro ⟨j,h1,h2⟩
    cases j with
    | zero=>exact absurd h2 h
    | succ j=>exact⟨j,h1,h2⟩
theorem subS_sub{α:Type}{l:List α}{m i:Nat}{x:α}(h:x∈subS l m i):x∈l:=by
 obtain⟨j,h1,_⟩:=subS_mem.1 h
 exact List.mem_of_getElem? h1
theorem subS_bit{α:Type}{l:List α}{m j:Nat}{x:α}(hn:l.Nodup)(hx:l[j]?=some x):x∈subS l m 0↔m.testBit j=true:=by
 rw[subS_mem]
 constructor
 ·rintro ⟨k,h1,h2⟩
  obtain⟨hj,ej⟩:=List.getElem?_eq_some_iff.1 hx
  obtain⟨hk,ek⟩:=List.getElem?_eq_some_iff.1 h1
  have:k=j:=(List.getElem_inj hn).1 (ek.trans ej.symm)
  rw[Nat.zero_add,this] at h2; exact h2
 ·intro h; exact⟨j,hx,by rw[Nat.zero_add]; exact h⟩
theorem subS_inj{α:Type}{l:List α}(hn:l.Nodup){m m':Nat}(hm:m<2 ^ l.length)(hm':m'<2 ^ l.length)(h:∀ x,x∈subS l m 0↔x∈subS l m' 0):m=m':=by
 refine Nat.eq_of_testBit_eq fun j=>?_
 by_cases hj:j<l.length
 ·have e:l[j]?=some l[j]:=List.getElem?_eq_getElem hj
  have:=h l[j]
  rw[subS_bit hn e,subS_bit hn e] at this
  cases h1:m.testBit j<;>cases h2:m'.testBit j<;>rw[h1,h2] at this<;>simp at this ⊢
 ·have hp:2 ^ l.length≤2 ^ j:=Nat.pow_le_pow_right (by omega) (by omega)
  rw[Nat.testBit_lt_two_pow (by omega),Nat.testBit_lt_two_pow (by omega)]
theorem subS_nodup{α:Type}{l:List α}(hn:l.Nodup)(m:Nat):∀ i,(subS l m i).Nodup:=by
 induction l with
 | nil=>intro i; exact List.nodup_nil
 | cons t l ih=>
  intro i
  rw[bO] at hn
  rw[subS]
  by_cases h:m.testBit i=true
  ·rw[if_pos h,bO]
   exact⟨fun q=>hn.1 (subS_sub q),ih hn.2 (i+1)⟩
  ·rw[if_neg h]; exact ih hn.2 (i+1)
theorem GenOk.some'{l:List Tt}{r:Tt×List Tt}(g:GenOk l r)(hn:l.Nodup)(h2:2≤l.length):r.2≠[]:=fun e=>by
 have:=g.none e
 match l,hn,h2,this with
 | a::b::l,hn,_,this=>
  have h1:=this a (by simp)
  have h3:=this b (by simp)
  rw[bO] at hn
  exact hn.1 (by rw[h1,h3]; simp)
theorem GenOk.mem{l:List Tt}{r:Tt×List Tt}(g:GenOk l r)(hn:l.Nodup)(h2:2≤l.length)(y:Tt):y∈l↔∃ z∈r.2,Tt.fl z r.1=y:=by
 have:=g.some (g.some' hn h2)
 conv=>lhs; rw[← this]
 rw[List.mem_map]
theorem GenOk.inj{l l':List Tt}{r r':Tt×List Tt}(g:GenOk l r)(g':GenOk l' r')(hn:l.Nodup)(h2:2≤l.length)(hn':l'.Nodup)(h2':2≤l'.length)(e:r.1=r'.1)(hs:∀ z,z∈r.2↔z∈r'.2)(y:Tt):y∈l↔y∈l':=by
 rw[g.mem hn h2,g'.mem hn' h2',e]
 exact⟨fun ⟨z,h1,h3⟩=>⟨z,(hs z).1 h1,h3⟩,fun ⟨z,h1,h3⟩=>⟨z,(hs z).2 h1,h3⟩⟩
/-- A pattern of at least two terms is none of the terms. -/
theorem GenOk.notGround{l:List Tt}{r:Tt×List Tt}(g:GenOk l r)(hn:l.Nodup)(h2:2≤l.length){t:Tt}(ht:t.noH=true):r.1≠t:=fun e=>by
 have h:=g.mem hn h2
 match l,hn,h2,h with
 | a::b::l,hn,_,h=>
  obtain⟨z,_,h1⟩:=(h a).1 (by simp)
  obtain⟨y,_,h3⟩:=(h b).1 (by simp)
  rw[e,fl_noH _ _ ht] at h1 h3
  rw[bO] at hn
  exact hn.1 (by rw[← h1,h3]; simp)
end
section
/-! ### the smallest cover -/
section
variable(full:Nat)
/-- The first selection of n candidates that covers what is open. -/
def cfS:List Nat→Nat→Nat→Nat→Option (List Nat)
 | _,_,0,h=>if h=full then some [] else none
 | [],_,_+1,_=>none
 | c::l,i,n+1,h=>match cfS l (i+1) n (h||| c) with
  | some r=>some (i::r)
  | none=>cfS l (i+1) (n+1) h
/-- How many candidates are needed still. -/
def fewS:List Nat→Nat→Nat
 | [],h=>if h=full then 0 else 1000
 | c::l,h=>if h=full then 0 else min (fewS l h) (1+fewS l (h||| c))
/-- What the table leads to. -/
def selS:List Nat→Nat→Nat→List Nat
 | [],_,_=>[]
 | c::l,i,h=>if h=full then [] else if 1+fewS full l (h||| c)=fewS full (c::l) h then i::selS l (i+1) (h||| c) else selS l (i+1) h
variable{full}
theorem fewS_pos{l:List Nat}{h:Nat}(e:h≠full):1≤fewS full l h:=by
 induction l generalizing h with
 | nil=>rw[fewS,if_neg e]; omega
 | cons c l ih=>
  rw[fewS,if_neg e]
  have:=ih e
  omega
theorem fewS_full(l:List Nat):fewS full l full=0:=by cases l<;>rw[fewS,if_pos rfl]
theorem cfS_none{l:List Nat}:∀ {i n h:Nat},n<fewS full l h→cfS full l i n h=none:=by
 induction l with
 | nil=>
  intro i n h hn
  rw[fewS] at hn
  by_cases e:h=full
  ·rw[if_pos e] at hn; omega
  ·cases n with
   | zero=>rw[cfS,if_neg e]
   | succ n=>rw[cfS]
 | cons c l ih=>
  intro i n h hn
  by_cases e:h=full
  ·rw[e,fewS_full] at hn; omega
  ·rw[fewS,if_neg e] at hn
   cases n with
   | zero=>rw[cfS,if_neg e]
   | succ n=>
    rw[cfS,ih (i:=i+1) (n:=n) (h:=h||| c) (by omega)]
    exact ih (by omega)
theorem cfS_sel{l:List Nat}:∀ {i h:Nat},fewS full l h<1000→cfS full l i (fewS full l h) h=some (selS full l i h):=by
 induction l with
 | nil=>
  intro i h hk
  rw[fewS] at hk ⊢
  by_cases e:h=full
  ·rw[if_pos e,cfS,if_pos e]; rfl
  ·rw[if_neg e] at hk; omega
 | cons c l ih=>
  intro i h hk
  by_cases e:h=full
  ·rw[e,fewS_full,selS,if_pos rfl,cfS,if_pos rfl]
  ·have hp:=fewS_pos (l:=c::l) e
   rw[selS,if_neg e]
   by_cases q:1+fewS full l (h||| c)=fewS full (c::l) h
   ·rw[if_pos q,← q,Nat.add_comm,cfS,ih (by omega)]
   ·rw[if_neg q]
    have hf:fewS full (c::l) h=fewS full l h:=by
     rw[fewS,if_neg e] at q ⊢
     omega
    have h2:fewS full l h<1+fewS full l (h||| c):=by
     have:fewS full (c::l) h≤1+fewS full l (h||| c):=by rw[fewS,if_neg e]; omega
     omega
    rw[hf] at hk hp ⊢
    obtain⟨n,hn⟩:∃ n,fewS full l h=n+1:=⟨fewS full l h-1,by omega⟩
    rw[hn,cfS,cfS_none (n:=n) (by omega)]
    show cfS full l (i+1) (n+1) h=_
    rw[← hn]
    exact ih hk
theorem or_absorb{l:List Nat}:∀ {h:Nat},(∀ c∈l,c||| full=full)→h||| full=full→l.foldl (· ||| ·) h=full→fewS full l h≤l.length:=by
 induction l with
 | nil=>
  intro h _ _ hf
  have hf:h=full:=hf
  rw[fewS,if_pos hf]; exact Nat.zero_le _
 | cons c l ih=>
  intro h hc hh hf
  by_cases e:h=full
  ·rw[e,fewS_full]; exact Nat.zero_le _
  ·rw[fewS,if_neg e,aH]
   have:=ih (h:=h||| c) (fun x hx=>hc x (by simp[hx])) (by rw[Nat.or_assoc,hc c (by simp),hh]) hf
   omega
end
end
section
/-! ### rows by key -/
section
variable{K C:Type}
/-- The keys of a first part, as they come. -/
structure Keys(pre:List (K×C))(ks:List K):Prop where
 nodup:ks.Nodup
 mem:∀ k,k∈ks↔∃ g∈pre,g.1=k
theorem Keys.nil:Keys ([]:List (K×C)) []:=⟨List.nodup_nil,fun k=>by simp⟩
theorem Keys.old{pre:List (K×C)}{ks:List K}{g:K×C}(h:Keys pre ks)(hk:g.1∈ks):Keys (pre++[g]) ks:=
 ⟨h.nodup,fun k=>by
  rw[h.mem]
  constructor
  ·rintro ⟨a,ha,e⟩; exact⟨a,by simp[ha],e⟩
  ·rintro ⟨a,ha,e⟩
   rcases List.mem_append.1 ha with ha | ha
   ·exact⟨a,ha,e⟩
   ·rw[List.mem_singleton.1 ha] at e; rw[← h.mem]; exact e▸hk⟩
theorem Keys.new{pre:List (K×C)}{ks:List K}{g:K×C}(h:Keys pre ks)(hk:g.1∉ks):Keys (pre++[g]) (ks++[g.1]):=
 ⟨by
  rw[bS]
  refine⟨h.nodup,by simp,fun a ha b hb e=>?_⟩
  rw[List.mem_singleton.1 hb] at e
  exact hk (e▸ha),fun k=>by
  simp only[bc,List.mem_singleton,h.mem]
  constructor
  ·rintro (⟨a,ha,e⟩ | rfl)
   ·exact⟨a,.inl ha,e⟩
   ·exact⟨g,.inr rfl,rfl⟩
  ·rintro ⟨a,ha | rfl,e⟩
   ·exact .inl ⟨a,ha,e⟩
   ·exact .inr e.symm⟩
end
section
variable{K C:Type}[DecidableEq K]
/-- The keys, each where it comes first. -/
def fkS:List K→List (K×C)→List K
 | ks,[]=>ks
 | ks,g::l=>if g.1∈ks then fkS ks l else fkS (ks++[g.1]) l
def updS:List (K×List C)→K→C→List (K×List C)
 | [],k,c=>[(k,[c])]
 | r::rs,k,c=>if r.1=k then(r.1,r.2++[c])::rs else r::updS rs k c
def rowS(all:List (K×C))(k:K):List C:=(all.filter fun g=>decide (g.1=k)).map Prod.snd
theorem updS_new{F:K→List C}{k:K}{c:C}:∀ {ks:List K},k∉ks→updS (ks.map fun x=>(x,F x)) k c=(ks.map fun x=>(x,F x))++[(k,[c])]
 | [],_=>rfl
 | x::ks,h=>by
  rw[aF,updS,if_neg (fun e:x=k=>h (by simp[e])),updS_new (ks:=ks) (fun e=>h (by simp[e]))]; rfl
theorem updS_old{F:K→List C}{k:K}{c:C}:∀ {ks:List K},ks.Nodup→k∈ks→updS (ks.map fun x=>(x,F x)) k c=ks.map fun x=>(x,if x=k then F x++[c] else F x)
 | [],_,h=>nomatch h
 | x::ks,hn,h=>by
  rw[bO] at hn
  rw[aF,aF,updS]
  by_cases e:x=k
  ·have hx:k∉ks:=e▸hn.1
   rw[if_pos e,if_pos e]
   congr 1
   refine List.map_congr_left fun y hy=>?_
   rw[if_neg (fun q:y=k=>hx (by rw[← q]; exact hy))]
  ·rw[if_neg e,if_neg e,updS_old hn.2 (by
    rcases List.mem_cons.1 h with h | h
    ·exact absurd h.symm e
    ·exact h)]
theorem rowS_snoc(all:List (K×C))(g:K×C)(k:K):rowS (all++[g]) k=if k=g.1 then rowS all k++[g.2] else rowS all k:=by
 unfold rowS
 rw[List.filter_append,bt]
 by_cases e:k=g.1
 ·rw[if_pos e]; simp[e]
 ·have q:¬ g.1=k:=fun q=>e q.symm
  rw[if_neg e]; simp[q]
theorem rowS_none{pre:List (K×C)}{ks:List K}{k:K}(h:Keys pre ks)(hk:k∉ks):rowS pre k=[]:=by
 unfold rowS
 rw[List.filter_eq_nil_iff.2 (fun g hg=>?_)]
 ·rfl
 ·rw[decide_eq_true_eq]; exact fun e=>hk ((h.mem k).2 ⟨g,hg,e⟩)
/-- The rows after one more element. -/
theorem updS_row{pre:List (K×C)}{ks:List K}(h:Keys pre ks)(g:K×C):
 updS (ks.map fun x=>(x,rowS pre x)) g.1 g.2=(if g.1∈ks then ks else ks++[g.1]).map fun x=>(x,rowS (pre++[g]) x):=by
 by_cases hk:g.1∈ks
 ·rw[if_pos hk,updS_old h.nodup hk]
  exact List.map_congr_left fun x _=>by rw[rowS_snoc]
 ·rw[if_neg hk,updS_new hk,bt]
  congr 1
  ·exact List.map_congr_left fun x hx=>by rw[rowS_snoc,if_neg (fun e:x=g.1=>hk (by rw[← e]; exact hx))]
  ·rw[List.map_singleton,rowS_snoc,if_pos rfl,rowS_none h hk]; rfl
theorem rows_fold(l:List (K×C)):∀ (pre:List (K×C)) (ks:List K),Keys pre ks→
 l.foldl (fun rows g=>updS rows g.1 g.2) (ks.map fun x=>(x,rowS pre x))=(fkS ks l).map fun x=>(x,rowS (pre++l) x):=by
 induction l with
 | nil=>intro pre ks h; rw[bw]; rfl
 | cons g l ih=>
  intro pre ks h
  rw[List.foldl_cons,updS_row h,fkS]
  by_cases hk:g.1∈ks
  ·rw[if_pos hk,if_pos hk,ih (pre++[g]) ks (h.old hk),aV]; rfl
  ·rw[if_neg hk,if_neg hk,ih (pre++[g]) (ks++[g.1]) (h.new hk),aV]; rfl
/-- A walk over all elements that leaves out keys seen before. -/
theorem keys_forL{S ρ:Type}{all:List (K×C)}{body:Nat→K×C→S→Option (Flow ρ S)}{f:S→K→S}{P:S→Prop}(hP:∀ s g,g∈all→P s→P (f s g.1))
 (hb:∀ p g q s,all=p++g::q→P s→body p.length g s=some (.nx (if ∃ a∈p,a.1=g.1 then s else f s g.1))):∀ (l pre:List (K×C)) (ks:List K) (s:S),all=pre++l→Keys pre ks→P s→
 ∃ r,fkS ks l=ks++r∧forL body l pre.length s=some (.inr (r.foldl f s))∧P (r.foldl f s)
 | [],pre,ks,s,_,h,hs=>⟨[],by rw[bw]; rfl,rfl,hs⟩
 | g::l,pre,ks,s,ha,h,hs=>by
  have b:=hb pre g l s ha hs
  have ha':all=(pre++[g])++l:=by rw[ha,aV]; rfl
  have hl:(pre++[g]).length=pre.length+1:=by simp
  rw[fkS]
  by_cases hk:g.1∈ks
  ·rw[if_pos ((h.mem _).1 hk)] at b
   rw[if_pos hk,forL_nx b,← hl]
   exact keys_forL hP hb l (pre++[g]) ks s ha' (h.old hk) hs
  ·rw[if_neg (fun q=>hk ((h.mem _).2 q))] at b
   have hs':=hP s g (by rw[ha]; simp) hs
   rw[if_neg hk,forL_nx b,← hl]
   obtain⟨r,r1,r2,r3⟩:=keys_forL hP hb l (pre++[g]) (ks++[g.1]) (f s g.1) ha' (h.new hk) hs'
   exact⟨g.1::r,by rw[r1,aV]; rfl,r2,r3⟩
end
end
section
/-! ### a pattern filled in -/
theorem nameA_var:isVarS nameA=true:=by decide
theorem gA_has(t:Tt)(x:ByteArray):GMap.has (GMap.put (GMap.empty:GMap Tt) nameA t) x=decide (x=nameA):=by
 show ghas x [(nameA,t,_)]=_
 unfold ghas
 by_cases e:nameA=x
 ·rw[if_pos e,decide_eq_true e.symm]
 ·rw[if_neg e,decide_eq_false (Ne.symm e)]; rfl
theorem gA_get(t z:Tt):GMap.get (GMap.put (GMap.empty:GMap Tt) nameA t) nameA z=t:=by
 show gget z nameA [(nameA,t,_)]=_
 unfold gget
 rw[if_pos rfl]
theorem replN_eq{t:Tt}(ht:t.cnt≤10000000)(a:Tt):a.cnt≤10000000→∀ k,2*aX a≤k→impl_replaceVarsN k a (GMap.put (GMap.empty:GMap Tt) nameA t)=some (sbT nameA t a):=by
 refine bA (M:=fun a=>a.cnt≤10000000→∀ k,2*aX a≤k→impl_replaceVarsN k a (GMap.put (GMap.empty:GMap Tt) nameA t)=some (sbT nameA t a)) (fun a ih hc k hk=>?_) a
 have hp:=a.pos
 have hu:=a.cnt_u
 have hl:=cnts_len a.Args
 cases k with
 | zero=>omega
 | succ k=>
  have hm:=mapL (ρ:=Tt) (f:=fun x=>impl_replaceVarsN k x (GMap.put (GMap.empty:GMap Tt) nameA t)) (g:=sbT nameA t) a.Args 0 [] (fun x hx=>ih x hx (by have:=cnts_mem hx; omega) k (by have:=Tt.lt hx; omega)) (by simp; omega)
  rw[impl_replaceVarsN,gA_has,isEmpty_dec,sbT_u]
  simp only[forN_idx]
  rw[hm,thenL_inr,bC]
  by_cases e:a.Name=nameA
  ·rw[decide_eq_true e,cond_true]
   cases he:a.Args.isEmpty
   ·rfl
   ·rw[cond_true,e,gA_get,copyT t ht]; rfl
  ·rw[decide_eq_false e,cond_false,Bool.and_false]; rfl
theorem filled_eq{p t:Tt}(hp:p.cnt≤10000000)(ht:t.cnt≤10000000):impl_filled p t=some (sbT nameA t p):=by
 unfold impl_filled
 show aa (impl_replaceVars p (GMap.put (GMap.empty:GMap Tt) nameA t)) _=_
 rw[show impl_replaceVars p (GMap.put (GMap.empty:GMap Tt) nameA t)=some (sbT nameA t p) from lim_eq ⟨_,replN_eq ht p hp⟩]; rfl
/-! ### the two ways to add -/
def Gd(l:List Tt):Prop:=∀ a∈l,goodT a=true
theorem cmp_g{a b:Tt}(ha:goodT a=true)(hb:goodT b=true):spec_l2Compare a b=some (cmpR a b)∧impl_compareTerms a b=some (cmpR a b):=
 cmpR_spec (goodT_Ok ha).2 (goodT_iff ha).1 (goodT_Ok hb).2 (goodT_iff hb).1
def putT(x:Tt):List Tt→List Tt
 | []=>[x]
 | y::l=>if cmpR y x<0 then y::putT x l else if cmpR y x=0 then y::l else x::y::l
noncomputable def addT(x:Tt)(l:List Tt):List Tt:=bif l.any (fun y=>same y x) then l else l++[x]
theorem cmpR_same(a b:Tt):same a b=decide (cmpR a b=0):=by
 rw[Bool.eq_iff_iff,same_iff,decide_eq_true_iff]
 exact⟨fun h=>h▸cmpR_self a,cmpR_zero a b⟩
theorem putT_mem(x z:Tt):∀ l,z∈putT x l↔z=x∨z∈l
 | []=>by simp[putT]
 | y::l=>by
  simp only[putT]
  split
  ·rw[bu,putT_mem x z l,bu]
   constructor
   ·rintro (h | h | h)<;>simp[h]
   ·rintro (h | h | h)<;>simp[h]
  ·split
   ·rename_i e
    have:=cmpR_zero y x e
    subst this
    simp
   ·simp
def SrtT(l:List Tt):Prop:=l.Pairwise fun a b=>cmpR a b<0
theorem putT_srt(x:Tt):∀ l,SrtT l→SrtT (putT x l)
 | [],_=>by simp[putT,SrtT]
 | y::l,h=>by
  unfold SrtT at h ⊢
  rw[List.pairwise_cons] at h
  simp only[putT]
  split
  ·rename_i c
   rw[List.pairwise_cons]
   refine⟨fun z hz=>?_,putT_srt x l h.2⟩
   rcases (putT_mem x z l).1 hz with rfl | hz
   ·exact c
   ·exact h.1 z hz
  ·split
   ·rw[List.pairwise_cons]; exact h
   ·rename_i c1 c2
    have hxy:cmpR x y<0:=by have:=cmpR_neg y x; omega
    rw[List.pairwise_cons,List.pairwise_cons]
    refine⟨fun z hz=>?_,h⟩
    rcases List.mem_cons.1 hz with rfl | hz
    ·exact hxy
    ·exact cmpR_trans x y z hxy (h.1 z hz)
theorem putT_len(x:Tt):∀ l,(putT x l).length≤l.length+1
 | []=>by simp[putT]
 | y::l=>by
  simp only[putT]
  have:=putT_len x l
  split
  ·simp only[aH]; omega
  ·split<;>simp
theorem putT_gd{x:Tt}{l:List Tt}(hx:goodT x=true)(hl:Gd l):Gd (putT x l):=fun a ha=>by
 rcases (putT_mem x a l).1 ha with rfl | h
 ·exact hx
 ·exact hl a h
theorem any_same(x:Tt)(l:List Tt):l.any (fun y=>same y x)=true↔x∈l:=by
 rw[List.any_eq_true]
 exact⟨fun ⟨y,h1,h2⟩=>same_iff.1 h2▸h1,fun h=>⟨x,h,same_iff.2 rfl⟩⟩
theorem addT_mem(x z:Tt)(l:List Tt):z∈addT x l↔z=x∨z∈l:=by
 unfold addT
 cases h:l.any (fun y=>same y x)
 ·simp only[cond_false,bc,List.mem_singleton]; exact or_comm
 ·rw[cond_true]
  have:=(any_same x l).1 h
  exact⟨.inr,fun h=>h.elim (fun e=>e▸this) id⟩
theorem addT_nodup(x:Tt)(l:List Tt)(h:l.Nodup):(addT x l).Nodup:=by
 unfold addT
 cases e:l.any (fun y=>same y x)
 ·rw[cond_false,bS]
  refine⟨h,by simp,fun a ha b hb=>?_⟩
  rintro rfl
  rw[List.mem_singleton] at hb
  subst hb
  rw[(any_same a l).2 ha] at e; cases e
 ·exact h
theorem addT_len(x:Tt)(l:List Tt):(addT x l).length≤l.length+1:=by
 unfold addT
 cases l.any (fun y=>same y x)
 ·simp
 ·simp
theorem addT_gd{x:Tt}{l:List Tt}(hx:goodT x=true)(hl:Gd l):Gd (addT x l):=fun a ha=>by
 rcases (addT_mem x a l).1 ha with rfl | h
 ·exact hx
 ·exact hl a h
theorem addAtom_eq(l:List Tt)(x:Tt)(hx:x.cnt≤10000000)(hl:l.length≤1000000):impl_addAtom l x=some (addT x l):=by
 unfold impl_addAtom slices_ContainsFunc_Simpl_Term_impl_Term slices_IndexFunc_Simpl_Term_impl_Term addT
 rw[find_list (p:=fun y=>same y x) l (fun a _=>by unfold impl_addAtom_1; rw[EqualTerms_ok]; rfl),ai,copyT x hx]
 cases l.any (fun y=>same y x)
 ·rw[cond_false,cond_false,ai]
  unfold app
  rw[if_pos (by simp only[aH,a6]; omega)]; rfl
 ·rfl
theorem l16Put_eq(x:Tt)(hx:goodT x=true)(l:List Tt)(hg:Gd l)(hl:l.length≤1048576):spec_l16Put l x=some (putT x l):=by
 unfold spec_l16Put
 have tl:∀ {β:Type} (K:List Tt→Option β) (pre rest:List Tt),pre.length+rest.length≤1048576→(aa (slc (pre++rest) (0:Int) (pre.length:Int)) fun v36=>aa (app ([]) v36) fun v37=>aa (app v37 ([x])) fun v40=>aa (slc (pre++rest) (pre.length:Int) ((pre++rest).length:Int)) fun v43=>aa (app v40 v43) fun v44=>K v44)=K (pre++x::rest):=by
  intro β K pre rest h
  have e1:slc (pre++rest) (0:Int) (pre.length:Int)=some pre:=by
   unfold slc; rw[if_pos ⟨by omega,by omega,by simp; omega⟩]; simp
  have e2:slc (pre++rest) (pre.length:Int) ((pre++rest).length:Int)=some rest:=by
   unfold slc; rw[if_pos ⟨by omega,by simp; omega,by omega⟩]; simp only[Int.toNat_natCast,List.take_length,List.drop_left]
  rw[e1,e2]
  simp only[ai,app,a6,Nat.zero_add,bC]
  rw[if_pos (by omega)]
  simp only[ai,aH,a6]
  rw[if_pos (by omega)]
  simp only[ai,aQ,aH,a6]
  rw[if_pos (by omega)]
  simp
 have key:∀ (rest pre:List Tt),Gd rest→pre.length+rest.length≤1048576→
  thenL (ρ:=List Tt) (forN (fun (i2:Nat) (s2:Unit)=>
   aa (idx (pre++rest) (i2:Int)) fun v13=>
   aa (spec_l2Compare v13 x) fun v16=>
   bif decide (v16<(0:Int)) then some (.nx ())
   else aa (idx (pre++rest) (i2:Int)) fun v27=>aa (spec_l2Same v27 x) fun v31=>bif v31 then some (.rt (pre++rest)) else
    aa (slc (pre++rest) (0:Int) (i2:Int)) fun v36=>aa (app ([]) v36) fun v37=>aa (app v37 ([x])) fun v40=>aa (slc (pre++rest) (i2:Int) ((pre++rest).length:Int)) fun v43=>aa (app v40 v43) fun v44=>some (.rt v44)) rest.length pre.length ()) (fun _=>
   aa (slc (pre++rest) (0:Int) (((pre++rest).length:Nat):Int)) fun v36=>aa (app ([]) v36) fun v37=>aa (app v37 ([x])) fun v40=>aa (slc (pre++rest) (((pre++rest).length:Nat):Int) ((pre++rest).length:Int)) fun v43=>aa (app v40 v43) fun v44=>some v44)=some (pre++putT x rest):=by
  intro rest
  induction rest with
  | nil=>
   intro pre _ h
   have:=tl some pre [] (by simpa using h)
   simpa[putT,forN,thenL_inr] using this
  | cons y rest ih=>
   intro pre hg h
   have hy:=(cmp_g (hg y (by simp)) hx).1
   simp only[putT,aH]
   by_cases c:cmpR y x<0
   ·rw[forN_nx (s':=()) (by rw[idx_mid,ai,hy,ai,decide_eq_true c]; rfl),if_pos c]
    have:=ih (pre++[y]) (fun a ha=>hg a (by simp[ha])) (by simp at h ⊢; omega)
    simpa using this
   ·by_cases e:cmpR y x=0
    ·rw[forN_rt (r:=pre++y::rest) (by rw[idx_mid,ai,hy,ai,decide_eq_false c,cond_false,ai,l2Same_ok,ai,cmpR_same,decide_eq_true e]; rfl),thenL_inl,if_neg c,if_pos e]
    ·rw[forN_rt (r:=pre++x::y::rest) (by
      rw[idx_mid,ai,hy,ai,decide_eq_false c,cond_false,ai,l2Same_ok,ai,cmpR_same,decide_eq_false e,cond_false]
      exact tl (fun v=>some (Flow.rt v)) pre (y::rest) h),thenL_inl,if_neg c,if_neg e]
 exact key l [] hg (by simpa using hl)
/-! ### folds -/
noncomputable def addAll(xs l:List Tt):List Tt:=xs.foldl (fun l x=>addT x l) l
def putAllT(xs l:List Tt):List Tt:=xs.foldl (fun l x=>putT x l) l
theorem addAll_mem(z:Tt):∀ (xs l:List Tt),z∈addAll xs l↔z∈xs∨z∈l
 | [],l=>by simp[addAll]
 | x::xs,l=>by
  show z∈addAll xs (addT x l)↔_
  rw[addAll_mem z xs,addT_mem,bu]
  constructor
  ·rintro (h | h | h)<;>simp[h]
  ·rintro ((h | h) | h)<;>simp[h]
theorem putAllT_mem(z:Tt):∀ (xs l:List Tt),z∈putAllT xs l↔z∈xs∨z∈l
 | [],l=>by simp[putAllT]
 | x::xs,l=>by
  show z∈putAllT xs (putT x l)↔_
  rw[putAllT_mem z xs,putT_mem,bu]
  constructor
  ·rintro (h | h | h)<;>simp[h]
  ·rintro ((h | h) | h)<;>simp[h]
theorem addAll_nodup:∀ (xs l:List Tt),l.Nodup→(addAll xs l).Nodup
 | [],l,h=>h
 | x::xs,l,h=>addAll_nodup xs _ (addT_nodup x l h)
theorem putAllT_srt:∀ (xs l:List Tt),SrtT l→SrtT (putAllT xs l)
 | [],l,h=>h
 | x::xs,l,h=>putAllT_srt xs _ (putT_srt x l h)
theorem addAll_len:∀ (xs l:List Tt),(addAll xs l).length≤l.length+xs.length
 | [],l=>by simp[addAll]
 | x::xs,l=>by
  have:=addAll_len xs (addT x l)
  have:=addT_len x l
  show(addAll xs (addT x l)).length≤_
  simp only[aH]; omega
theorem putAllT_len:∀ (xs l:List Tt),(putAllT xs l).length≤l.length+xs.length
 | [],l=>by simp[putAllT]
 | x::xs,l=>by
  have:=putAllT_len xs (putT x l)
  have:=putT_len x l
  show(putAllT xs (putT x l)).length≤_
  simp only[aH]; omega
theorem SrtT_nodup{l:List Tt}(h:SrtT l):l.Nodup:=h.imp (fun {a b} h e=>by rw[e,cmpR_self] at h; omega)
theorem cmpT_eq{a b:Tt}(ha:goodT a=true)(hb:goodT b=true):cmpT a b=cmpR a b:=by
 unfold cmpT; rw[(cmp_g ha hb).2]; rfl
theorem cmpR_le{a b c:Tt}(h1:¬ cmpR a b<0)(h2:¬ cmpR b c<0):¬ cmpR a c<0:=by
 intro h
 have n1:=cmpR_neg a b
 have n2:=cmpR_neg b c
 by_cases e1:cmpR a b=0
 ·rw[cmpR_zero a b e1] at h; exact h2 h
 ·have:=cmpR_trans b a c (by omega) h
  exact h2 this
theorem sortOk_gd{l:List Tt}(h:Gd l)(hl:l.length≤1073741824):SortOk l where
 len:=hl
 ex:=fun x hx y hy=>by rw[cmpT_eq (h x hx) (h y hy),(cmp_g (h x hx) (h y hy)).2]
 irr:=fun x hx=>by rw[cmpT_eq (h x hx) (h x hx),cmpR_self]; omega
 tr:=fun x hx y hy z hz h1 h2=>by
  rw[cmpT_eq (h x hx) (h y hy)] at h1
  rw[cmpT_eq (h y hy) (h z hz)] at h2
  rw[cmpT_eq (h x hx) (h z hz)]
  exact cmpR_trans x y z h1 h2
 ntr:=fun x hx y hy z hz h1 h2=>by
  rw[cmpT_eq (h x hx) (h y hy)] at h1
  rw[cmpT_eq (h y hy) (h z hz)] at h2
  rw[cmpT_eq (h x hx) (h z hz)]
  exact cmpR_le h1 h2
 anti:=fun x hx y hy h1 h2=>by
  rw[cmpT_eq (h x hx) (h y hy)] at h1
  rw[cmpT_eq (h y hy) (h x hx)] at h2
  have:=cmpR_neg x y
  exact cmpR_zero x y (by omega)
theorem gd_all{l:List Tt}(h:l.all goodT=true):Gd l:=fun a ha=>List.all_eq_true.1 h a ha
theorem sort_put{xs:List Tt}(h:Gd xs)(hl:xs.length≤1048576):slices_SortFuncT (addAll xs [])=some ((),putAllT xs []):=by
 have hg:Gd (addAll xs []):=fun a ha=>h a (by have:=(addAll_mem a xs []).1 ha; simpa using this)
 have hlen:=addAll_len xs []
 have hok:=sortOk_gd hg (by simp only[a6] at hlen; omega)
 have hs:=putAllT_srt xs [] List.Pairwise.nil
 have hperm:(putAllT xs []).Perm (addAll xs []):=by
  rw[List.perm_ext_iff_of_nodup (SrtT_nodup hs) (addAll_nodup xs [] List.nodup_nil)]
  intro a; rw[putAllT_mem,addAll_mem]
 unfold slices_SortFuncT
 rw[if_pos hok,sorted_one hok hperm (hs.imp_of_mem (fun {a b} ha hb hab=>by
  have ga:=hg a (hperm.mem_iff.1 ha)
  have gb:=hg b (hperm.mem_iff.1 hb)
  rw[cmpT_eq gb ga]
  have:=cmpR_neg a b; omega))]
end
section
/-! ### loops that stop at a term that is no good -/
theorem gate_loop{α ρ:Type}(q:α→Tt)(step:Tt→List Tt→List Tt)(F:Nat→α→List Tt→Option (Flow ρ (List Tt)))(r:ρ)
 (hlen:∀ x s,(step x s).length≤s.length+1) (hgd:∀ x s,goodT x=true→Gd s→Gd (step x s)):
 ∀ (xs:List α) (i:Nat) (s:List Tt),(∀ x∈xs,∀ i s,Gd s→s.length≤100000→F i x s=some (bif goodT (q x) then .nx (step (q x) s) else .rt r))→Gd s→s.length+xs.length≤100001→
 forL F xs i s=some (bif (xs.map q).all goodT then .inr ((xs.map q).foldl (fun s x=>step x s) s) else .inl r)
 | [],i,s,_,_,_=>rfl
 | x::xs,i,s,h,hs,hl=>by
  simp only[aH] at hl
  have h0:=h x (by simp) i s hs (by omega)
  simp only[aF,List.all_cons,List.foldl_cons]
  cases hg:goodT (q x)
  ·rw[hg] at h0
   rw[forL_rt (r:=r) h0]; rfl
  ·rw[hg] at h0
   have:=hlen (q x) s
   rw[forL_nx (s':=step (q x) s) h0,gate_loop q step F r hlen hgd xs (i+1) (step (q x) s) (fun y hy=>h y (by simp[hy])) (hgd _ _ hg hs) (by omega),Bool.true_and]
theorem fold_gd{step:Tt→List Tt→List Tt}(hgd:∀ x s,goodT x=true→Gd s→Gd (step x s)):∀ (xs s:List Tt),xs.all goodT=true→Gd s→Gd (xs.foldl (fun s x=>step x s) s)
 | [],s,_,h=>h
 | x::xs,s,h,hs=>by
  rw[List.all_cons,aA] at h
  exact fold_gd hgd xs _ h.2 (hgd x s h.1 hs)
theorem fold_len{step:Tt→List Tt→List Tt}(hlen:∀ x s,(step x s).length≤s.length+1):∀ (xs s:List Tt),(xs.foldl (fun s x=>step x s) s).length≤s.length+xs.length
 | [],s=>by simp
 | x::xs,s=>by
  have:=fold_len hlen xs (step x s)
  have:=hlen x s
  simp only[List.foldl_cons,aH]; omega
theorem gate_outer{ρ:Type}(gen:Tt→List Tt)(step:Tt→List Tt→List Tt)(F:Nat→Tt→List Tt→Option (Flow ρ (List Tt)))(r:ρ)
 (hlen:∀ x s,(step x s).length≤s.length+1) (hgd:∀ x s,goodT x=true→Gd s→Gd (step x s)):
 ∀ (ps:List Tt) (i:Nat) (s:List Tt),(∀ p∈ps,∀ i s,Gd s→s.length≤10000→F i p s=some (bif (gen p).all goodT then .nx ((gen p).foldl (fun s x=>step x s) s) else .rt r))→
 (∀ p∈ps,(gen p).length≤100)→Gd s→s.length+100*ps.length≤10000→
 forL F ps i s=some (bif (ps.flatMap gen).all goodT then .inr ((ps.flatMap gen).foldl (fun s x=>step x s) s) else .inl r)
 | [],i,s,_,_,_,_=>rfl
 | p::ps,i,s,h,hn,hs,hl=>by
  simp only[aH] at hl
  have h0:=h p (by simp) i s hs (by omega)
  have h1:=hn p (by simp)
  rw[List.flatMap_cons,List.all_append,List.foldl_append]
  cases hg:(gen p).all goodT
  ·rw[hg] at h0
   rw[forL_rt (r:=r) h0]; rfl
  ·rw[hg] at h0
   have:=fold_len hlen (gen p) s
   rw[forL_nx (s':=(gen p).foldl (fun s x=>step x s) s) h0,gate_outer gen step F r hlen hgd ps (i+1) _ (fun y hy=>h y (by simp[hy])) (fun y hy=>hn y (by simp[hy])) (fold_gd hgd _ _ hg hs) (by omega),Bool.true_and]
/-! ### the language -/
noncomputable def gens(d:Dt)(p:Tt):List Tt:=bif hasV nameA p.vars then d.Instances.map (fun t=>sbT nameA t p) else [p]
noncomputable def G0(d:Dt):List Tt:=d.Patterns.flatMap (gens d)
theorem sb_fine{p t:Tt}(hp:goodT p=true)(ht:goodT t=true):(sbT nameA t p).tot≤7000∧(sbT nameA t p).Ok∧(sbT nameA t p).cnt≤900:=by
 obtain⟨g1,g2⟩:=goodT_iff hp
 obtain⟨g3,g4⟩:=goodT_iff ht
 have e1:=tiny_tot _ (sb_tiny (n:=nameA) (good_tiny t g3) p (good_tiny _ g1))
 have e2:=sb_cnt (n:=nameA) (t:=t) p
 have e3:p.cnt*t.cnt≤30*30:=Nat.mul_le_mul g2 g4
 exact⟨by omega,Tt.Ok_of _ (by omega),by omega⟩
theorem gens_lenL{d:Dt}(hd:validD d=true)(p:Tt):(gens d p).length≤100:=by
 unfold validD at hd
 simp only[aA,decide_eq_true_eq] at hd
 unfold gens
 cases hasV nameA p.vars
 ·simp
 ·rw[cond_true,au]; omega
theorem valid_pats{d:Dt}(hd:validD d=true):d.Patterns.length≤12∧d.Instances.length≤12∧(∀ p∈d.Patterns,goodT p=true∧hasV nameA p.vars=!p.vars.isEmpty)∧∀ t∈d.Instances,goodT t=true:=by
 unfold validD at hd
 simp only[aA,decide_eq_true_eq] at hd
 obtain⟨⟨⟨⟨⟨h1,h2⟩,h3⟩,h4⟩,_⟩,_⟩:=hd
 refine⟨h1,h2,fun p hp=>?_,fun t ht=>?_⟩
 ·have:=List.all_eq_true.1 h4 p hp
  unfold patD patT at this
  simp only[aA] at this
  refine⟨this.1.1,?_⟩
  have ha:=this.1.2
  cases hv:p.vars with
  | nil=>rfl
  | cons x l=>
   rw[hv,List.all_cons,aA,decide_eq_true_eq] at ha
   rw[ha.1]
   show hasV nameA (nameA::l)=true
   exact hasV_iff.2 (by simp)
 ·have:=List.all_eq_true.1 h3 t ht
  unfold gndT at this
  rw[aA] at this
  exact this.1
theorem language_impl(d:Dt)(hd:validD d=true):impl_language d=some (bif (G0 d).all goodT then(putAllT (G0 d) [],true) else([],false)):=by
 obtain⟨v1,v2,v3,v4⟩:=valid_pats hd
 unfold impl_language
 simp only[forN_idx]
 rw[gate_outer (gens d) addT _ (([],false):List Tt×Bool) addT_len (fun x s=>addT_gd) d.Patterns 0 [] (fun p hp i s hs hl=>?_) (fun p _=>gens_lenL hd p) (fun a ha=>by simp at ha) (by simp; omega)]
 ·show thenL (some (bif (G0 d).all goodT then .inr (addAll (G0 d) []) else .inl _)) _=_
  cases hg:(G0 d).all goodT
  ·rfl
  ·rw[cond_true,thenL_inr,sort_put (gd_all hg) (by
    have:(G0 d).length≤100*12:=by
     unfold G0
     have key:∀ ps:List Tt,(ps.flatMap (gens d)).length≤100*ps.length:=fun ps=>by
      induction ps with
      | nil=>simp
      | cons p ps ih=>
       have:=gens_lenL hd p
       rw[List.flatMap_cons,aQ,aH]; omega
     have:=key d.Patterns
     omega
    omega)]; rfl
 ·obtain⟨g,hv⟩:=v3 p hp
  have gi:=goodT_iff g
  show aa (impl_occurs nameA p) _=_
  rw[occurs_eq nameA_var gi.1 (by omega),ai]
  unfold gens
  cases hh:hasV nameA p.vars
  ·rw[cond_false,addAtom_eq s p (by omega) (by omega)]
   show _=some (bif ([p].all goodT) then _ else _)
   rw[List.all_cons,g]; rfl
  ·simp only[cond_true]
   rw[gate_loop (fun t=>sbT nameA t p) addT _ (Flow.rt ([],false)) addT_len (fun x s=>addT_gd) d.Instances 0 s (fun t ht i s hs hl=>?_) hs (by omega)]
   ·cases (d.Instances.map fun t=>sbT nameA t p).all goodT<;>rfl
   ·have gt:=v4 t ht
    have f:=sb_fine g gt
    have:=goodT_iff gt
    rw[filled_eq (by omega) (by omega),ai,IsValidTerm_ok _ (by omega) f.2.1,ai,addAtom_eq s _ (by omega) (by omega)]
    cases goodT (sbT nameA t p)<;>rfl
/-! ### validity, in the text -/
/-- The language, as both give it. -/
noncomputable def langD(d:Dt):List Tt×Bool:=bif validD d&&(G0 d).all goodT then(putAllT (G0 d) [],true) else([],false)
theorem LanguageOf_impl(d:Dt)(hok:d.Ok)(ht:d.tot≤1048576):impl_LanguageOf d=some (langD d):=by
 unfold impl_LanguageOf langD
 rw[impl_dec d hok ht,ai]
 cases hv:validD d
 ·rfl
 ·rw[cond_true,language_impl d hv,Bool.true_and]; rfl
end
section
/-! ### loops whose states are known -/
theorem while_iter{ρ σ:Type}{f:σ→Option (Flow ρ σ)}(st:Nat→σ):∀ (N i:Nat) (z:ρ ⊕ σ),(∀ j,i≤j→j<i+N→f (st j)=some (.nx (st (j+1))))→((∃ s',f (st (i+N))=some (.br s')∧z=.inr s')∨∃ r,f (st (i+N))=some (.rt r)∧z=.inl r)→
 ∀ m,N+1≤m→whileN f m (st i)=some z
 | 0,i,z,_,h,m,hm=>by
  obtain⟨k,rfl⟩:∃ k,m=k+1:=⟨m-1,by omega⟩
  rw[Nat.add_zero] at h
  rcases h with⟨s',h,rfl⟩ | ⟨r,h,rfl⟩
  ·rw[whileN_br h]
  ·rw[whileN_rt h]
 | N+1,i,z,h1,h2,m,hm=>by
  obtain⟨k,rfl⟩:∃ k,m=k+1:=⟨m-1,by omega⟩
  rw[whileN_nx (h1 i (aP _) (by omega))]
  exact while_iter st N (i+1) z (fun j a b=>h1 j (by omega) (by omega)) (by rw[show i+1+N=i+(N+1) by omega]; exact h2) k (by omega)
theorem lim_iter{ρ σ:Type}{f:σ→Option (Flow ρ σ)}(st:Nat→σ)(N:Nat){s':σ}(h1:∀ j,j<N→f (st j)=some (.nx (st (j+1))))(h2:f (st N)=some (.br s')):lim (fun n=>whileN f n (st 0))=some (.inr s'):=
 lim_eq ⟨N+1,fun n hn=>while_iter st N 0 _ (fun j _ hj=>h1 j (by omega)) (.inl ⟨s',by rw[Nat.zero_add]; exact h2,rfl⟩) n hn⟩
theorem lim_iterR{ρ σ:Type}{f:σ→Option (Flow ρ σ)}(st:Nat→σ)(N:Nat){r:ρ}(h1:∀ j,j<N→f (st j)=some (.nx (st (j+1))))(h2:f (st N)=some (.rt r)):lim (fun n=>whileN f n (st 0))=some (.inl r):=
 lim_eq ⟨N+1,fun n hn=>while_iter st N 0 _ (fun j _ hj=>h1 j (by omega)) (.inr ⟨r,by rw[Nat.zero_add]; exact h2,rfl⟩) n hn⟩
theorem for_iter{ρ σ:Type}{f:Nat→σ→Option (Flow ρ σ)}(st:Nat→σ):∀ (n i:Nat),(∀ j,i≤j→j<i+n→f j (st j)=some (.nx (st (j+1))))→forN f n i (st i)=some (.inr (st (i+n)))
 | 0,i,_=>rfl
 | n+1,i,h=>by
  rw[forN_nx (h i (aP _) (by omega)),for_iter st n (i+1) (fun j a b=>h j (by omega) (by omega)),show i+1+n=i+(n+1) by omega]
theorem forN_congr'{ρ σ:Type}{f g:Nat→σ→Option (Flow ρ σ)}:∀ (n i:Nat) (s:σ),(∀ j s,i≤j→j<i+n→f j s=g j s)→forN f n i s=forN g n i s
 | 0,_,_,_=>rfl
 | n+1,i,s,h=>by
  unfold forN
  rw[h i s (aP _) (by omega)]
  congr 1
  funext x
  cases x with
  | nx s'=>exact forN_congr' n (i+1) s' (fun j t a b=>h j t (by omega) (by omega))
  | br s'=>rfl
  | rt r=>rfl
theorem forN_forL{α ρ σ:Type}[Inhabited α]{f:Nat→σ→Option (Flow ρ σ)}(xs:List α)(g:Nat→α→σ→Option (Flow ρ σ))(s:σ)(h:∀ j,j<xs.length→∀ s,f j s=g j (xs.getD j default) s):forN f xs.length 0 s=forL g xs 0 s:=by
 rw[← forN_idx]
 refine forN_congr' _ _ _ fun j s _ hj=>?_
 rw[idx_getD (by omega),ai,h j (by omega)]
/-! ### bits -/
theorem bor_nat{x y:Nat}(hx:x<2 ^ 62)(hy:y<2 ^ 62):bitor .i64 (x:Int) (y:Int)=((x||| y:Nat):Int):=by
 have h:x||| y<2 ^ 62:=Nat.or_lt_two_pow hx hy
 show IntKind.i64.wrap (((BitVec.ofInt 64 (x:Int)||| BitVec.ofInt 64 (y:Int)).toNat:Nat):Int)=_
 rw[BitVec.ofInt_natCast,BitVec.ofInt_natCast,BitVec.toNat_or,BitVec.toNat_ofNat,BitVec.toNat_ofNat,Nat.mod_eq_of_lt (by omega),Nat.mod_eq_of_lt (by omega),wrap64 (by omega) (by omega)]
theorem band_one{x:Nat}(hx:x<2 ^ 62):bitand .i64 (x:Int) 1=((x % 2:Nat):Int):=by
 show IntKind.i64.wrap (((BitVec.ofInt 64 (x:Int)&&& BitVec.ofInt 64 ((1:Nat):Int)).toNat:Nat):Int)=_
 rw[BitVec.ofInt_natCast,BitVec.ofInt_natCast,BitVec.toNat_and,BitVec.toNat_ofNat,BitVec.toNat_ofNat,Nat.mod_eq_of_lt (by omega:x<2 ^ 64),show 1 % 2 ^ 64=2 ^ 1-1 from rfl,Nat.and_two_pow_sub_one_eq_mod,wrap64 (by omega) (by omega)]
theorem shr_nn{x j:Nat}(hj:j≤64):shr .i64 (x:Int) (j:Int)=some ((x / 2 ^ j:Nat):Int):=by
 unfold shr
 rw[if_pos (by omega),Int.toNat_natCast,show min j IntKind.i64.bits=j from Nat.min_eq_left hj,Int.fdiv_eq_ediv_of_nonneg _ (by exact_mod_cast Nat.zero_le _)]
 congr 1
theorem btest{x j:Nat}(hx:x<2 ^ 62):decide (bitand .i64 ((x / 2 ^ j:Nat):Int) 1=1)=x.testBit j:=by
 rw[band_one (Nat.lt_of_le_of_lt (Nat.div_le_self _ _) hx),Nat.testBit_eq_decide_div_mod_eq]
 exact decide_eq_decide.2 (by omega)
theorem shl_2{i:Nat}(hi:i≤61):shl .i64 (1:Int) (i:Int)=some ((2 ^ i:Nat):Int):=by
 have h2:2 ^ i≤2 ^ 61:=Nat.pow_le_pow_right (by omega) hi
 unfold shl
 rw[if_pos (by omega),Int.toNat_natCast,show min i IntKind.i64.bits=i from Nat.min_eq_left (by show i≤64; omega)]
 have key:∀ m:Nat,m≤2 ^ 61→IntKind.i64.wrap (m:Int)=m:=fun m hm=>wrap64 (by omega) (by omega)
 rw[Int.one_mul,show(2:Int) ^ i=((2 ^ i:Nat):Int) from by simp,key _ h2]
theorem wrapU{k:Nat}(h:k≤1000000):IntKind.u64.wrap (k:Int)=(k:Int):=by rw[IntKind.wrap_u64]; omega
/-- What is left open. -/
theorem bnot_nat{full h c:Nat}(hf:full<2 ^ 62)(hh:h||| full=full)(hc:c||| full=full):bitandNot .i64 ((full ^^^ h:Nat):Int) (c:Int)=((full ^^^ (h||| c):Nat):Int):=by
 have le_of:∀ x,x||| full=full→x≤full:=fun x e=>by have:=Nat.left_le_or (n:=x) (m:=full); omega
 have hh':=le_of h hh
 have hc':=le_of c hc
 have lt1:full ^^^ h<2 ^ 62:=Nat.xor_lt_two_pow hf (by omega)
 have lt2:full ^^^ (h||| c)<2 ^ 62:=Nat.xor_lt_two_pow hf (Nat.or_lt_two_pow (by omega) (by omega))
 have key:(BitVec.ofNat 64 (full ^^^ h)&&& ~~~BitVec.ofNat 64 c).toNat=full ^^^ (h||| c):=by
  refine Nat.eq_of_testBit_eq fun i=>?_
  rw[BitVec.testBit_toNat,BitVec.getLsbD_and,BitVec.getLsbD_not,BitVec.getLsbD_ofNat,BitVec.getLsbD_ofNat,Nat.testBit_xor,Nat.testBit_xor,Nat.testBit_or]
  have e1:(h.testBit i||full.testBit i)=full.testBit i:=by rw[← Nat.testBit_or,hh]
  have e2:(c.testBit i||full.testBit i)=full.testBit i:=by rw[← Nat.testBit_or,hc]
  by_cases hi:i<64
  ·rw[decide_eq_true hi]
   cases a:full.testBit i<;>cases b:h.testBit i<;>cases d:c.testBit i<;>rw[a,b] at e1<;>rw[a,d] at e2<;>simp_all
  ·have p:2 ^ 62≤2 ^ i:=Nat.pow_le_pow_right (by omega) (by omega)
   rw[decide_eq_false hi,Nat.testBit_lt_two_pow (x:=full) (by omega),Nat.testBit_lt_two_pow (x:=h) (by omega),Nat.testBit_lt_two_pow (x:=c) (by omega)]
   rfl
 show IntKind.i64.wrap (((BitVec.ofInt 64 ((full ^^^ h:Nat):Int)&&& ~~~BitVec.ofInt 64 (c:Int)).toNat:Nat):Int)=_
 rw[BitVec.ofInt_natCast,BitVec.ofInt_natCast,key,wrap64 (by omega) (by omega)]
/-! ### subsets -/
theorem app_one{α:Type}(xs:List α)(x:α)(h:xs.length≤1000000):app xs [x]=some (xs++[x]):=by
 unfold app; rw[if_pos (by simp only[aH,a6]; omega)]
theorem subS_len{α:Type}(l:List α)(m:Nat):∀ i,(subS l m i).length≤l.length:=by
 induction l with
 | nil=>intro i; exact aP _
 | cons t l ih=>
  intro i; rw[subS]
  have:=ih (i+1)
  split<;>simp only[aH]<;>omega
theorem sub_forL{ρ:Type}{m:Nat}{body:Nat→Tt→List Tt→Option (Flow ρ (List Tt))}(h:∀ i x s,i≤60→s.length≤1000→body i x s=some (.nx (bif m.testBit i then s++[x] else s))):∀ (l:List Tt) (i:Nat) (s:List Tt),i+l.length≤61→s.length+l.length≤1000→
 forL body l i s=some (.inr (s++subS l m i))
 | [],i,s,_,_=>by rw[subS,bw]; rfl
 | x::l,i,s,hi,hs=>by
  simp only[aH] at hi hs
  rw[forL_nx (h i x s (by omega) (by omega)),subS]
  cases m.testBit i
  ·rw[cond_false,sub_forL h l (i+1) s (by omega) (by omega)]; rfl
  ·rw[cond_true,sub_forL h l (i+1) (s++[x]) (by omega) (by simp; omega),aV]; rfl
theorem subset_eq(l:List Tt)(m:Nat)(hl:l.length≤60)(hm:m<2 ^ 62):impl_subset l (m:Int)=some (subS l m 0):=by
 unfold impl_subset
 simp only[forN_idx]
 rw[sub_forL (m:=m) (fun i x s hi hs=>?_) l 0 [] (by omega) (by simp; omega),thenL_inr]; rfl
 rw[shr_nn (by omega),ai,btest hm]
 cases m.testBit i
 ·rfl
 ·rw[cond_true,app_one s x (by omega)]; rfl
theorem add_loopA{ρ:Type}:∀ (xs:List Tt) (i:Nat) (s:List Tt),Gd xs→s.length+xs.length≤100000→
 forL (ρ:=ρ) (fun _ x s=>aa (impl_addAtom s x) fun v=>some (.nx v)) xs i s=some (.inr (addAll xs s))
 | [],i,s,_,_=>rfl
 | x::xs,i,s,hg,hl=>by
  simp only[aH] at hl
  have:=addT_len x s
  have:=goodT_iff (hg x (by simp))
  rw[forL_nx (s':=addT x s) (by rw[addAtom_eq s x (by omega) (by omega)]; rfl),add_loopA xs (i+1) _ (fun a ha=>hg a (by simp[ha])) (by omega)]; rfl
theorem put_loopA{ρ:Type}:∀ (xs:List Tt) (i:Nat) (s:List Tt),Gd xs→Gd s→s.length+xs.length≤100000→
 forL (ρ:=ρ) (fun _ x s=>aa (spec_l16Put s x) fun v=>some (.nx v)) xs i s=some (.inr (putAllT xs s))
 | [],i,s,_,_,_=>rfl
 | x::xs,i,s,hg,hs,hl=>by
  simp only[aH] at hl
  have:=putT_len x s
  have hx:=hg x (by simp)
  rw[forL_nx (s':=putT x s) (by rw[l16Put_eq x hx s hs (by omega)]; rfl),put_loopA xs (i+1) _ (fun a ha=>hg a (by simp[ha])) (putT_gd hx hs) (by omega)]; rfl
end
section
noncomputable instance decTm:DecidableEq Tt:=fun a b=>Classical.propDecidable _
/-! ### generalizations of subsets -/
theorem gnd_noH(t:Tt):t.good=true→t.vars=[]→t.noH=true:=by
 refine bA (M:=fun t=>t.good=true→t.vars=[]→t.noH=true) (fun t ih hg hv=>?_) t
 rw[Tt.noH_u,aA,Bool.not_eq_true',aZ]
 rw[Tt.vars_u] at hv
 cases hn:isVarS t.Name
 ·rw[hn,cond_false] at hv
  rcases nameCase hg with⟨e,_⟩ | ⟨_,_,_,h4⟩
  ·rw[hn] at e; cases e
  refine⟨?_,fun b hb=>ih b hb (h4 b hb) ?_⟩
  ·have:¬ t.Name=⟨#[65]⟩:=fun e=>by
    rw[e,show isVarS (⟨#[65]⟩:ByteArray)=true from nameA_var] at hn; cases hn
   rw[decide_eq_false this]; rfl
  ·have key:∀ l:List Tt,Tt.varss l=[]→∀ b∈l,b.vars=[]:=fun l=>by
    induction l with
    | nil=>intro _ b hb; simp at hb
    | cons a l ihl=>
     intro h b hb
     rw[Tt.varss,List.append_eq_nil_iff] at h
     rcases List.mem_cons.1 hb with rfl | hb
     ·exact h.1
     ·exact ihl h.2 b hb
   exact key _ hv b hb
 ·rw[hn,cond_true] at hv; simp at hv
theorem gndT_iff{t:Tt}(h:gndT t=true):goodT t=true∧t.noH=true:=by
 unfold gndT at h
 rw[aA,List.isEmpty_iff] at h
 have h1:=h.1
 unfold goodT at h1
 rw[aA] at h1
 exact⟨h.1,gnd_noH t h1.2 h.2⟩
noncomputable def gen(s:List Tt):Tt×List Tt:=(impl_generalization s).getD (default,[])
theorem goodT_of{t:Tt}(hg:t.good=true)(hc:t.cnt≤30)(hd:t.dep≤8):goodT t=true:=by
 unfold goodT smallT
 rw[hg,decide_eq_true hc,decide_eq_true hd]; rfl
theorem goodT_parts{t:Tt}(h:goodT t=true):t.good=true∧t.cnt≤30∧t.dep≤8:=by
 unfold goodT smallT at h
 rw[aA,aA,decide_eq_true_eq,decide_eq_true_eq] at h
 exact⟨h.2,h.1.1,h.1.2⟩
structure GenF(s:List Tt):Prop where
 im:impl_generalization s=some (gen s)
 sp:spec_l22General s=some (gen s)
 ok:GenOk s (gen s)
 pat:goodT (gen s).1=true
 ins:Gd (gen s).2
theorem gen_fact{s:List Tt}(hs:s≠[])(hl:s.length≤1000)(hg:∀ t∈s,gndT t=true):GenF s:=by
 cases s with
 | nil=>exact absurd rfl hs
 | cons x xs=>
  obtain⟨r,h1,h2,h3,h4⟩:=gen_both x.dep x xs (aP _) (fun y hy=>by
   have:=goodT_Ok (gndT_iff (hg y hy)).1; omega) hl
  have g1:impl_generalization (x::xs)=some r:=lim_eq ⟨x.dep,fun n hn=>(h1 n hn).1⟩
  have g2:spec_l22General (x::xs)=some r:=lim_eq ⟨x.dep,fun n hn=>(h1 n hn).2⟩
  have e:gen (x::xs)=r:=by unfold gen; rw[g1]; rfl
  have k1:=h4.ok fun y hy=>(gndT_iff (hg y hy)).2
  obtain⟨k2,k3,k4⟩:=h4.good fun y hy=>(goodT_parts (gndT_iff (hg y hy)).1).1
  obtain⟨_,x1,x2⟩:=goodT_parts (gndT_iff (hg x (by simp))).1
  refine⟨by rw[g1,e],by rw[g2,e],by rw[e]; exact k1,by rw[e]; exact goodT_of k2 (by omega) (by have:((x::xs).headD default).dep=x.dep:=rfl; omega),by
   rw[e]; intro z hz
   obtain⟨z1,y,hy,z2,z3⟩:=k4 z hz
   obtain⟨_,y1,y2⟩:=goodT_parts (gndT_iff (hg y hy)).1
   exact goodT_of z1 (by omega) (by omega)⟩
theorem gen_len{s:List Tt}(h:GenF s)(hn:s.Nodup)(h2:2≤s.length):(gen s).2.length=s.length:=by
 have:=congrArg List.length (h.ok.some (h.ok.some' hn h2))
 simpa using this
/-! ### groups -/
noncomputable def keyS(s:List Tt):List Tt:=putAllT (gen s).2 []
noncomputable def grp(l:List Tt)(m:Nat):List Tt×(Tt×Nat):=(keyS (subS l m 0),((gen (subS l m 0)).1,m))
def big(l:List Tt)(m:Nat):Bool:=decide (2≤(subS l m 0).length)
noncomputable def allG(l:List Tt)(a n:Nat):List (List Tt×(Tt×Nat)):=((List.range' a n).filter (big l)).map (grp l)
theorem allG_succ(l:List Tt)(a n:Nat):allG l a (n+1)=allG l a n++(bif big l (a+n) then [grp l (a+n)] else []):=by
 unfold allG
 rw[List.range'_concat,List.filter_append,bt,Nat.one_mul]
 congr 1
 cases h:big l (a+n)<;>simp[h]
theorem allG_len(l:List Tt)(a n:Nat):(allG l a n).length≤n:=by
 unfold allG
 rw[au]
 exact Nat.le_trans (List.length_filter_le _ _) (by rw[List.length_range']; exact aP _)
theorem big_zero(l:List Tt):big l 0=false:=by
 have:∀ (l:List Tt) i,subS l 0 i=[]:=fun l=>by
  induction l with
  | nil=>intro i; rfl
  | cons a l ih=>intro i; rw[subS,Nat.zero_testBit,if_neg (by simp),ih]
 unfold big; rw[this]; rfl
theorem allG_one(l:List Tt)(n:Nat):allG l 0 (n+1)=allG l 1 n:=by
 unfold allG
 rw[List.range'_succ,List.filter_cons,big_zero,if_neg (by simp)]
/-- What both sides take. -/
structure Vd(l:List Tt):Prop where
 pos:1≤l.length
 six:l.length≤6
 gnd:∀ t∈l,gndT t=true
 nodup:l.Nodup
theorem Vd.gd{l:List Tt}(h:Vd l):Gd l:=fun a ha=>(gndT_iff (h.gnd a ha)).1
theorem Vd.two{l:List Tt}(h:Vd l):2 ^ l.length≤64∧2≤2 ^ l.length:=by
 have h1:2 ^ l.length≤2 ^ 6:=Nat.pow_le_pow_right (by omega) h.six
 have h2:2 ^ 1≤2 ^ l.length:=Nat.pow_le_pow_right (by omega) h.pos
 omega
theorem Vd.gen{l:List Tt}(h:Vd l){m:Nat}(hb:big l m=true):GenF (subS l m 0)∧(subS l m 0).Nodup∧2≤(subS l m 0).length∧(subS l m 0).length≤6:=by
 unfold big at hb
 rw[decide_eq_true_eq] at hb
 have hl:=subS_len l m 0
 have:=h.six
 exact⟨gen_fact (fun e=>by rw[e] at hb; simp at hb) (by omega) (fun t ht=>h.gnd t (subS_sub ht)),subS_nodup h.nodup m 0,hb,by omega⟩
def toG(g:List Tt×(Tt×Nat)):gc:=⟨(g.2.2:Int),g.2.1,g.1⟩
theorem groups_eq{l:List Tt}(h:Vd l):impl_groups l=some ((allG l 0 (2 ^ l.length)).map toG):=by
 have h6:=h.six
 obtain⟨t1,t2⟩:=h.two
 unfold impl_groups
 rw[shl_2 (by omega),ai,bnd_nat (by simp only[Big]; omega),ai]
 have:=for_iter (ρ:=List gc) (f:=fun (i3:Nat) (s3:(List gc))=>
  aa (impl_subset l (i3:Int)) fun v20=>
  bif decide ((v20.length:Int)<(2:Int)) then
   some (.nx s3)
  else
   aa (impl_generalization v20) fun v26=>
   thenL (ρ:=(Flow (List gc) (List gc))) (σ:=(List Tt)) (forN (fun (i10:Nat) (s10:(List Tt))=>
    aa (idx v26.2 (i10:Int)) fun v34=>
    aa (impl_addAtom s10 v34) fun v38=>
    some (.nx v38)) v26.2.length 0 ([])) fun s10=>
   aa (slices_SortFuncT s10) fun v41=>
   aa (app s3 ([(gc.mk (i3:Int) v26.1 v41.2)])) fun v48=>
   some (.nx v48)) (fun i=>(allG l 0 i).map toG) (2 ^ l.length) 0 (fun j _ hj=>by
  rw[Nat.zero_add] at hj
  show(aa (impl_subset l (j:Int)) fun v20=>_)=_
  rw[subset_eq l j (by omega) (by omega),ai,allG_succ,Nat.zero_add]
  cases hb:big l j
  ·rw[decide_eq_true (by unfold big at hb; rw[decide_eq_false_iff_not] at hb; omega),cond_true,cond_false,bw]
  ·obtain⟨gf,gn,g2,g6⟩:=h.gen hb
   have hlen:=allG_len l 0 j
   have gl:=gen_len gf gn g2
   rw[decide_eq_false (by omega),cond_false,cond_true,gf.im,ai]
   simp only[forN_idx]
   rw[add_loopA _ 0 [] gf.ins (by simp; omega),thenL_inr,sort_put gf.ins (by omega),ai,app_one _ _ (by rw[au]; omega),ai,bt]
   rfl)
 rw[Nat.zero_add] at this
 refine(congrArg (fun z=>thenL z _) this).trans ?_
 rw[thenL_inr]
end
section
/-! ### the search for the least cover -/
def natsI(l:List Nat):List Int:=l.map fun (n:Nat)=>(n:Int)
def resC(r:Option (List Nat)):List Int×Bool:=match r with
 | some l=>(natsI l,true)
 | none=>([],false)
theorem cfS_len{full:Nat}:∀ {l:List Nat} {i n h:Nat} {r:List Nat},cfS full l i n h=some r→r.length=n
 | l,i,0,h,r,e=>by
  have e:(if h=full then some [] else none)=some r:=by rw[cfS] at e; exact e
  split at e
  ·cases e; rfl
  ·cases e
 | [],i,n+1,h,r,e=>by rw[cfS] at e; cases e
 | c::l,i,n+1,h,r,e=>by
  rw[cfS] at e
  cases e2:cfS full l (i+1) n (h||| c) with
  | some r2=>
   rw[e2] at e; cases e
   rw[aH,cfS_len e2]
  | none=>rw[e2] at e; exact cfS_len e
theorem or_full{a b full:Nat}(h:a||| full=full)(h':b||| full=full):(a||| b)||| full=full:=by rw[Nat.or_assoc,h',h]
theorem xor_zero{a b:Nat}:a ^^^ b=0↔a=b:=by
 constructor
 ·intro h
  refine Nat.eq_of_testBit_eq fun i=>?_
  have:=congrArg (fun n=>n.testBit i) h
  simp only[Nat.testBit_xor,Nat.zero_testBit] at this
  cases h1:a.testBit i<;>cases h2:b.testBit i<;>rw[h1,h2] at this<;>simp_all
 ·rintro rfl; exact Nat.xor_self a
theorem cover_from{full:Nat}(hf:full<2 ^ 62){cs:List ct}{cv:List Nat}(hcv:cs.map (fun c=>c.covers)=natsI cv)(hc:∀ c∈cv,c||| full=full)(hl:cs.length≤1000):
 ∀ (k:Nat) (n i h:Nat),i+k=cv.length→n≤1000→h||| full=full→∀ N,n+1≤N→impl_coverFromN N cs (i:Int) (n:Int) ((full ^^^ h:Nat):Int)=some (resC (cfS full (cv.drop i) i n h)):=by
 have hlen:cs.length=cv.length:=by have:=congrArg List.length hcv; simpa[natsI] using this
 have key:∀ (n:Nat),n≤1000→∀ (k i h:Nat),i+k=cv.length→h||| full=full→∀ N,n+1≤N→impl_coverFromN N cs (i:Int) (n:Int) ((full ^^^ h:Nat):Int)=some (resC (cfS full (cv.drop i) i n h)):=by
  intro n
  induction n with
  | zero=>
   intro _ k i h _ hh N hN
   obtain⟨M,rfl⟩:∃ M,N=M+1:=⟨N-1,by omega⟩
   rw[impl_coverFromN]
   have:cfS full (cv.drop i) i 0 h=if h=full then some [] else none:=by cases cv.drop i<;>rw[cfS]
   rw[this]
   show some (([]:List Int),decide (((full ^^^ h:Nat):Int)=0))=_
   by_cases e:h=full
   ·rw[if_pos e,decide_eq_true (by have:=xor_zero.2 e.symm; omega)]; rfl
   ·rw[if_neg e,decide_eq_false (fun q=>e (xor_zero.1 (by omega)).symm)]; rfl
  | succ n ihn=>
   intro hn k
   intro i h hik hh N hN
   obtain⟨M,rfl⟩:∃ M,N=M+1:=⟨N-1,by omega⟩
   rw[impl_coverFromN,decide_eq_false (by omega),cond_false]
   -- the loop from i on
   have loop:∀ (k i:Nat),i+k=cv.length→∃ z:(List Int×Bool) ⊕ Int,(∀ m,k+1≤m→whileN (ρ:=List Int×Bool) (fun (s4:Int)=>
    bif decide (s4<(cs.length:Int)) then
     aa (idx cs s4) fun v33=>
     aa (impl_coverFromN M cs (IntKind.i64.wrap (s4+(1:Int))) (IntKind.i64.wrap (((n+1:Nat):Int)-(1:Int))) (bitandNot .i64 ((full ^^^ h:Nat):Int) v33.covers)) fun v37=>
     bif v37.2 then
      aa (app ([s4]) v37.1) fun v44=>
      some (.rt (v44,true))
     else
      some (.nx (IntKind.i64.wrap (s4+(1:Int))))
    else
     some (.br s4)) m (i:Int)=some z)∧thenL (some z) (fun _=>some (([]:List Int),false))=some (resC (cfS full (cv.drop i) i (n+1) h)):=by
    intro k
    induction k with
    | zero=>
     intro i hi
     refine⟨.inr (i:Int),fun m hm=>?_,?_⟩
     ·obtain⟨q,rfl⟩:∃ q,m=q+1:=⟨m-1,by omega⟩
      refine whileN_br ?_
      rw[decide_eq_false (by omega)]; rfl
     ·rw[List.drop_of_length_le (by omega),cfS]; rfl
    | succ k ihk=>
     intro i hi
     have hi':i<cs.length:=by omega
     have hcov:(cs.getD i default).covers=((cv.getD i 0:Nat):Int):=by
      have:=congrArg (fun l=>l[i]?) hcv
      simp only[natsI,List.getElem?_map] at this
      rw[List.getElem?_eq_getElem hi',List.getElem?_eq_getElem (by omega)] at this
      simp only[Option.map_some,Option.some.injEq] at this
      simp[List.getD,hi',show i<cv.length by omega,this]
     have hmem:cv.getD i 0∈cv:=by
      simp only[List.getD,List.getElem?_eq_getElem (show i<cv.length by omega),Option.getD_some]
      exact List.getElem_mem _
     have hdrop:cv.drop i=cv.getD i 0::cv.drop (i+1):=by
      rw[List.drop_eq_getElem_cons (by omega)]
      simp[List.getD,show i<cv.length by omega]
     have hrec:=ihn (by omega) (cv.length-(i+1)) (i+1) (h||| cv.getD i 0) (by omega) (or_full hh (hc _ hmem)) M (by omega)
     have step:(fun (s4:Int)=>
      bif decide (s4<(cs.length:Int)) then
       aa (idx cs s4) fun v33=>
       aa (impl_coverFromN M cs (IntKind.i64.wrap (s4+(1:Int))) (IntKind.i64.wrap (((n+1:Nat):Int)-(1:Int))) (bitandNot .i64 ((full ^^^ h:Nat):Int) v33.covers)) fun v37=>
       bif v37.2 then
        aa (app ([s4]) v37.1) fun v44=>
        some (.rt (v44,true))
       else
        some (.nx (IntKind.i64.wrap (s4+(1:Int))))
      else
       some (.br s4)) (i:Int)=(match cfS full (cv.drop (i+1)) (i+1) n (h||| cv.getD i 0) with
       | some r=>some (.rt (((i:Int)::natsI r),true))
       | none=>some (.nx ((i+1:Nat):Int)):Option (Flow (List Int×Bool) Int)):=by
      have e1:IntKind.i64.wrap ((i:Int)+1)=((i+1:Nat):Int):=by rw[wrap64 (by omega) (by omega)]; omega
      have e2:IntKind.i64.wrap (((n+1:Nat):Int)-1)=(n:Int):=by rw[wrap64 (by omega) (by omega)]; omega
      show(bif decide ((i:Int)<(cs.length:Int)) then _ else _)=_
      rw[decide_eq_true (by omega),cond_true,idx_getD hi',ai,hcov,e1,e2,bnot_nat hf hh (hc _ hmem),hrec,ai]
      cases e:cfS full (cv.drop (i+1)) (i+1) n (h||| cv.getD i 0) with
      | none=>rfl
      | some r=>
       have hr:=cfS_len e
       show(aa (app [(i:Int)] (natsI r)) fun v44=>some (Flow.rt (v44,true):Flow (List Int×Bool) Int))=_
       unfold app
       rw[if_pos (by simp[natsI,hr]; omega)]; rfl
     obtain⟨z,z1,z2⟩:=ihk (i+1) (by omega)
     rw[hdrop,cfS]
     cases e:cfS full (cv.drop (i+1)) (i+1) n (h||| cv.getD i 0) with
     | none=>
      rw[e] at step
      exact⟨z,fun m hm=>by
       obtain⟨q,rfl⟩:∃ q,m=q+1:=⟨m-1,by omega⟩
       rw[whileN_nx step]; exact z1 q (by omega),z2⟩
     | some r=>
      rw[e] at step
      exact⟨.inl _,fun m hm=>by
       obtain⟨q,rfl⟩:∃ q,m=q+1:=⟨m-1,by omega⟩
       exact whileN_rt step,rfl⟩
   obtain⟨z,z1,z2⟩:=loop k i hik
   rw[← z2]
   exact congrArg (fun q=>thenL q _) (lim_eq ⟨k+1,z1⟩)
 intro k n i h h1 h2 h3 N hN
 exact key n h2 k i h h1 h3 N hN
theorem natsI_len(l:List Nat):(natsI l).length=l.length:=by simp[natsI]
/-- The least cover. -/
theorem cover_eq{full:Nat}(hf:full<2 ^ 62)(h0:0<full){cs:List ct}{cv:List Nat}(hcv:cs.map (fun c=>c.covers)=natsI cv)(hc:∀ c∈cv,c||| full=full)(hl:cs.length≤1000)(hk:fewS full cv 0≤1000-1):
 impl_cover cs (full:Int)=some (natsI (selS full cv 0 0)):=by
 have hp:=fewS_pos (full:=full) (l:=cv) (h:=0) (by omega)
 have from_eq:∀ n:Nat,n≤1000→impl_coverFrom cs 0 (n:Int) (full:Int)=some (resC (cfS full cv 0 n 0)):=fun n hn=>by
  have:=cover_from hf hcv hc hl cv.length n 0 0 (by omega) hn (by simp)
  rw[Nat.xor_zero] at this
  exact lim_eq ⟨n+1,this⟩
 unfold impl_cover
 have hsel:=cfS_sel (full:=full) (l:=cv) (i:=0) (h:=0) (by omega)
 have:=lim_iterR (ρ:=List Int) (f:=fun (s3:Int)=>
  aa (impl_coverFrom cs (0:Int) s3 (full:Int)) fun v14=>
  bif v14.2 then
   some (.rt v14.1)
  else
   some (.nx (IntKind.i64.wrap (s3+(1:Int))))) (fun j=>((j+1:Nat):Int)) (fewS full cv 0-1) (r:=natsI (selS full cv 0 0)) (fun j hj=>by
  show(aa (impl_coverFrom cs (0:Int) ((j+1:Nat):Int) (full:Int)) fun v14=>_)=_
  rw[from_eq (j+1) (by omega),ai,cfS_none (by omega)]
  show some (Flow.nx (IntKind.i64.wrap (((j+1:Nat):Int)+1)))=_
  rw[wrap64 (by omega) (by omega)]; rfl) (by
  show(aa (impl_coverFrom cs (0:Int) ((fewS full cv 0-1+1:Nat):Int) (full:Int)) fun v14=>_)=_
  rw[from_eq _ (by omega),ai,show fewS full cv 0-1+1=fewS full cv 0 by omega,hsel]; rfl)
 refine(congrArg (fun z=>thenL z _) this).trans ?_
 rfl
/-- As many are taken as are needed. -/
theorem selS_len{full:Nat}{l:List Nat}{i h:Nat}(hk:fewS full l h<1000):(selS full l i h).length=fewS full l h:=cfS_len (cfS_sel hk)
end
section
/-! ### the table, and what it selects -/
theorem fewS_le{full:Nat}:∀ (l:List Nat) (h:Nat),fewS full l h≤1000
 | [],h=>by rw[fewS]; split<;>omega
 | c::l,h=>by
  have:=fewS_le (full:=full) l h
  rw[fewS]; split<;>omega
noncomputable def tabR(full:Nat)(l:List Nat)(n:Nat):List Int:=(List.range n).map fun h=>(fewS full l h:Int)
theorem tabR_idx{full:Nat}{l:List Nat}{n h:Nat}(hh:h<n):idx (tabR full l n) (h:Int)=some (fewS full l h:Int):=by
 unfold tabR idx
 rw[if_pos (by omega),Int.toNat_natCast,List.getElem?_map,List.getElem?_range hh]; rfl
/-- A row that is filled up to a place. -/
noncomputable def rowF(full:Nat)(l:List Nat)(n h:Nat):List Int:=(List.range n).map fun q=>if q<h then(fewS full l q:Int) else 0
theorem rowF_zero(full:Nat)(l:List Nat)(n:Nat):rowF full l n 0=List.replicate n 0:=by
 unfold rowF
 refine List.ext_getElem (by simp) fun i h1 h2=>?_
 simp
theorem rowF_full(full:Nat)(l:List Nat)(n:Nat):rowF full l n n=tabR full l n:=by
 unfold rowF tabR
 exact List.map_congr_left fun q hq=>by rw[if_pos (List.mem_range.1 hq)]
theorem rowF_idx{full:Nat}{l:List Nat}{n h:Nat}(hh:h<n)(k:Nat):∃ v,idx (rowF full l n k) (h:Int)=some v:=by
 unfold rowF idx
 rw[if_pos (by omega),Int.toNat_natCast,List.getElem?_map,List.getElem?_range hh]; exact⟨_,rfl⟩
theorem rowF_idx'{full:Nat}{l:List Nat}{n h:Nat}(hh:h<n)(k:Nat)(z:Int):∃ v,idx ((rowF full l n k).set h z) (h:Int)=some v:=by
 unfold idx
 rw[if_pos (by omega),Int.toNat_natCast,List.getElem?_set_self (by unfold rowF; simpa using hh)]; exact⟨_,rfl⟩
theorem rowF_set{full:Nat}{l:List Nat}{n h:Nat}(hh:h<n):(rowF full l n h).set h (fewS full l h:Int)=rowF full l n (h+1):=by
 unfold rowF
 refine List.ext_getElem (by simp) fun i h1 h2=>?_
 simp only[List.length_set,au,List.length_range] at h1
 rw[List.getElem_set]
 simp only[List.getElem_map,List.getElem_range]
 by_cases e:h=i
 ·subst e; rw[if_pos rfl,if_pos (by omega)]
 ·rw[if_neg e]
  by_cases g:i<h
  ·rw[if_pos g,if_pos (by omega)]
  ·rw[if_neg g,if_neg (by omega)]
/-- The rows that are there after some rounds, from the end. -/
noncomputable def rowsF(full:Nat)(cv:List Nat)(n j:Nat):List (List Int):=(List.range (cv.length+1)).map fun p=>if cv.length<p+j then tabR full (cv.drop p) n else []
theorem rowsF_idx{full:Nat}{cv:List Nat}{n j p:Nat}(hp:p≤cv.length):idx (rowsF full cv n j) (p:Int)=some (if cv.length<p+j then tabR full (cv.drop p) n else []):=by
 unfold rowsF idx
 rw[if_pos (by omega),Int.toNat_natCast,List.getElem?_map,List.getElem?_range (by omega)]; rfl
theorem rowsF_set{full:Nat}{cv:List Nat}{n j:Nat}(hj:j≤cv.length):(rowsF full cv n j).set (cv.length-j) (tabR full (cv.drop (cv.length-j)) n)=rowsF full cv n (j+1):=by
 unfold rowsF
 refine List.ext_getElem (by simp) fun i h1 h2=>?_
 simp only[List.length_set,au,List.length_range] at h1
 rw[List.getElem_set]
 simp only[List.getElem_map,List.getElem_range]
 by_cases e:cv.length-j=i
 ·subst e; rw[if_pos rfl,if_pos (by omega)]
 ·rw[if_neg e]
  by_cases g:cv.length<i+j
  ·rw[if_pos g,if_pos (by omega)]
  ·rw[if_neg g,if_neg (by omega)]
theorem cov_at{cs:List ld}{cv:List Nat}(hcv:cs.map (fun c=>c.covers)=natsI cv){i:Nat}(hi:i<cv.length):i<cs.length∧(cs.getD i default).covers=((cv.getD i 0:Nat):Int)∧cv.getD i 0∈cv∧cv.drop i=cv.getD i 0::cv.drop (i+1):=by
 have hlen:cs.length=cv.length:=by have:=congrArg List.length hcv; simpa[natsI] using this
 refine⟨by omega,?_,?_,?_⟩
 ·have:=congrArg (fun l=>l[i]?) hcv
  simp only[natsI,List.getElem?_map] at this
  rw[List.getElem?_eq_getElem (by omega),List.getElem?_eq_getElem hi] at this
  simp only[Option.map_some,Option.some.injEq] at this
  simp[List.getD,show i<cs.length by omega,hi,this]
 ·simp only[List.getD,List.getElem?_eq_getElem hi,Option.getD_some]
  exact List.getElem_mem _
 ·rw[List.drop_eq_getElem_cons hi]
  simp[List.getD,hi]
theorem least_eq(a b:Int):spec_l1Least a b=some (min a b):=by
 unfold spec_l1Least
 by_cases h:a<b
 ·rw[decide_eq_true h,cond_true]; congr 1; omega
 ·rw[decide_eq_false h,cond_false]; congr 1; omega
theorem fewest_eq{k:Nat}(hk:k≤6){cs:List ld}{cv:List Nat}(hcv:cs.map (fun c=>c.covers)=natsI cv)(hc:∀ c∈cv,c<2 ^ k)(hl:cs.length≤1000):
 spec_l22Fewest cs ((2 ^ k-1:Nat):Int)=some (rowsF (2 ^ k-1) cv (2 ^ k) (cv.length+1)):=by
 have h64:2 ^ k≤2 ^ 6:=Nat.pow_le_pow_right (by omega) hk
 have hpos:0<2 ^ k:=Nat.two_pow_pos k
 have hlen:cs.length=cv.length:=by have:=congrArg List.length hcv; simpa[natsI] using this
 have w1:IntKind.i64.wrap ((cs.length:Int)+1)=((cv.length+1:Nat):Int):=by rw[wrap64 (by omega) (by omega)]; omega
 have w2:IntKind.i64.wrap (((2 ^ k-1:Nat):Int)+1)=((2 ^ k:Nat):Int):=by rw[wrap64 (by omega) (by omega)]; omega
 unfold spec_l22Fewest
 rw[w1,mkn_len (by omega),ai]
 have:=lim_iter (ρ:=List (List Int)) (f:=fun (s4:(List (List Int))×Int)=>
  bif decide ((0:Int)≤s4.2) then
   aa (mkn (IntKind.i64.wrap (((2 ^ k-1:Nat):Int)+(1:Int)))) fun n22=>
   thenL (ρ:=(Flow (List (List Int)) ((List (List Int))×Int))) (σ:=(List Int)×Int) (lim fun n8=>whileN (fun (s8:(List Int)×Int)=>
    bif decide (s8.2≤((2 ^ k-1:Nat):Int)) then
     aa (idx s8.1 s8.2) fun v30=>
     aa (idx s8.1 s8.2) fun w3=>
     bif decide (s8.2=((2 ^ k-1:Nat):Int)) then
      aa (idx (s8.1.set s8.2.toNat (1000:Int)) s8.2) fun v36=>
      aa (idx (s8.1.set s8.2.toNat (1000:Int)) s8.2) fun w5=>
      some (.nx ((s8.1.set s8.2.toNat (1000:Int)).set s8.2.toNat (0:Int),IntKind.i64.wrap (s8.2+(1:Int))))
     else
      bif decide (s4.2<(cs.length:Int)) then
       aa (idx s4.1 (IntKind.i64.wrap (s4.2+(1:Int)))) fun v45=>
       aa (idx v45 s8.2) fun v48=>
       aa (idx s4.1 (IntKind.i64.wrap (s4.2+(1:Int)))) fun v53=>
       aa (idx cs s4.2) fun v58=>
       aa (idx v53 (bitor .i64 s8.2 v58.covers)) fun v62=>
       aa (spec_l1Least v48 (IntKind.i64.wrap ((1:Int)+v62))) fun v65=>
       aa (idx (s8.1.set s8.2.toNat (1000:Int)) s8.2) fun v66=>
       aa (idx (s8.1.set s8.2.toNat (1000:Int)) s8.2) fun w7=>
       some (.nx ((s8.1.set s8.2.toNat (1000:Int)).set s8.2.toNat v65,IntKind.i64.wrap (s8.2+(1:Int))))
      else
       some (.nx (s8.1.set s8.2.toNat (1000:Int),IntKind.i64.wrap (s8.2+(1:Int))))
    else
     some (.br s8)) n8 (List.replicate n22 (0:Int),(0:Int))) fun s8=>
   aa (idx s4.1 s4.2) fun v70=>
   aa (idx s4.1 s4.2) fun w8=>
   some (.nx (s4.1.set s4.2.toNat s8.1,IntKind.i64.wrap (s4.2-(1:Int))))
  else
   some (.br s4)) (fun j=>(rowsF (2 ^ k-1) cv (2 ^ k) j,((cv.length:Int)-(j:Int)))) (cv.length+1) (s':=(rowsF (2 ^ k-1) cv (2 ^ k) (cv.length+1),((cv.length:Int)-((cv.length+1:Nat):Int)))) (fun j hj=>by
  simp only[]
  obtain⟨p,hp⟩:∃ p,p=cv.length-j:=⟨_,rfl⟩
  have hpi:(cv.length:Int)-(j:Int)=(p:Int):=by omega
  rw[hpi,decide_eq_true (by omega),cond_true,w2,mkn_len (by omega),ai]
  have inner:=lim_iter (ρ:=(Flow (List (List Int)) ((List (List Int))×Int))) (f:=fun (s8:(List Int)×Int)=>
   bif decide (s8.2≤((2 ^ k-1:Nat):Int)) then
    aa (idx s8.1 s8.2) fun v30=>
    aa (idx s8.1 s8.2) fun w3=>
    bif decide (s8.2=((2 ^ k-1:Nat):Int)) then
     aa (idx (s8.1.set s8.2.toNat (1000:Int)) s8.2) fun v36=>
     aa (idx (s8.1.set s8.2.toNat (1000:Int)) s8.2) fun w5=>
     some (.nx ((s8.1.set s8.2.toNat (1000:Int)).set s8.2.toNat (0:Int),IntKind.i64.wrap (s8.2+(1:Int))))
    else
     bif decide ((p:Int)<(cs.length:Int)) then
      aa (idx (rowsF (2 ^ k-1) cv (2 ^ k) j) (IntKind.i64.wrap ((p:Int)+(1:Int)))) fun v45=>
      aa (idx v45 s8.2) fun v48=>
      aa (idx (rowsF (2 ^ k-1) cv (2 ^ k) j) (IntKind.i64.wrap ((p:Int)+(1:Int)))) fun v53=>
      aa (idx cs (p:Int)) fun v58=>
      aa (idx v53 (bitor .i64 s8.2 v58.covers)) fun v62=>
      aa (spec_l1Least v48 (IntKind.i64.wrap ((1:Int)+v62))) fun v65=>
      aa (idx (s8.1.set s8.2.toNat (1000:Int)) s8.2) fun v66=>
      aa (idx (s8.1.set s8.2.toNat (1000:Int)) s8.2) fun w7=>
      some (.nx ((s8.1.set s8.2.toNat (1000:Int)).set s8.2.toNat v65,IntKind.i64.wrap (s8.2+(1:Int))))
     else
      some (.nx (s8.1.set s8.2.toNat (1000:Int),IntKind.i64.wrap (s8.2+(1:Int))))
   else
    some (.br s8)) (fun h=>(rowF (2 ^ k-1) (cv.drop p) (2 ^ k) h,(h:Int))) (2 ^ k) (s':=(rowF (2 ^ k-1) (cv.drop p) (2 ^ k) (2 ^ k),((2 ^ k:Nat):Int))) (fun h hh=>by
   simp only[]
   obtain⟨v1,e1⟩:=rowF_idx (full:=2 ^ k-1) (l:=cv.drop p) hh h
   obtain⟨v2,e2⟩:=rowF_idx' (full:=2 ^ k-1) (l:=cv.drop p) hh h 1000
   have w3:IntKind.i64.wrap ((h:Int)+1)=((h+1:Nat):Int):=by rw[wrap64 (by omega) (by omega)]; omega
   rw[decide_eq_true (by omega),cond_true,e1,ai,ai,w3,Int.toNat_natCast,e2,← rowF_set hh]
   by_cases hf:h=2 ^ k-1
   ·rw[decide_eq_true (by omega),cond_true,ai,ai,List.set_set]
    have:fewS (2 ^ k-1) (cv.drop p) h=0:=by rw[hf]; exact fewS_full _
    rw[this]; rfl
   ·rw[decide_eq_false (by omega),cond_false]
    by_cases hpl:p<cv.length
    ·obtain⟨c1,c2,c3,c4⟩:=cov_at hcv hpl
     have w4:IntKind.i64.wrap ((p:Int)+1)=((p+1:Nat):Int):=by rw[wrap64 (by omega) (by omega)]; omega
     have hor:h||| cv.getD p 0<2 ^ k:=Nat.or_lt_two_pow hh (hc _ c3)
     have hle:=fewS_le (full:=2 ^ k-1) (cv.drop (p+1)) (h||| cv.getD p 0)
     have w5:IntKind.i64.wrap ((1:Int)+(fewS (2 ^ k-1) (cv.drop (p+1)) (h||| cv.getD p 0):Int))=(1:Int)+(fewS (2 ^ k-1) (cv.drop (p+1)) (h||| cv.getD p 0):Int):=wrap64 (by omega) (by omega)
     rw[decide_eq_true (by omega),cond_true,w4,rowsF_idx (by omega),if_pos (by omega),ai,tabR_idx hh,ai,ai,idx_getD c1,ai,c2,bor_nat (by omega) (by have:=hc _ c3; omega),tabR_idx hor,ai,w5,least_eq,ai,ai,ai,List.set_set]
     have:fewS (2 ^ k-1) (cv.drop p) h=min (fewS (2 ^ k-1) (cv.drop (p+1)) h) (1+fewS (2 ^ k-1) (cv.drop (p+1)) (h||| cv.getD p 0)):=by rw[c4,fewS,if_neg hf]
     rw[this]
     congr 3
     congr 1
     omega
    ·rw[decide_eq_false (by omega),cond_false]
     have:fewS (2 ^ k-1) (cv.drop p) h=1000:=by rw[List.drop_of_length_le (by omega),fewS,if_neg hf]
     rw[this]; rfl) (by
   simp only[]
   rw[decide_eq_false (by omega)]; rfl)
  rw[rowF_zero] at inner
  refine(congrArg (fun z=>thenL z _) inner).trans ?_
  have w6:IntKind.i64.wrap ((p:Int)-1)=(cv.length:Int)-((j+1:Nat):Int):=by rw[wrap64 (by omega) (by omega)]; omega
  rw[thenL_inr,rowsF_idx (by omega),ai,ai,w6,rowF_full,Int.toNat_natCast,hp,rowsF_set (by omega)]) (by
  simp only[]
  rw[decide_eq_false (by omega)]; rfl)
 have e0:rowsF (2 ^ k-1) cv (2 ^ k) 0=List.replicate (cv.length+1) []:=by
  unfold rowsF
  refine List.ext_getElem (by simp) fun i h1 h2=>?_
  simp only[au,List.length_range] at h1
  simp only[List.getElem_map,List.getElem_range,List.getElem_replicate]
  rw[if_neg (by omega)]
 rw[e0,show(cv.length:Int)-((0:Nat):Int)=(cs.length:Int) by omega] at this
 refine(congrArg (fun z=>thenL z _) this).trans ?_
 rfl
/-- The patterns that are selected. -/
theorem select_eq{k:Nat}(hk:k≤6)(r:lf){cv:List Nat}(hcv:r.candidates.map (fun c=>c.covers)=natsI cv)(hc:∀ c∈cv,c<2 ^ k)(hl:r.candidates.length≤1000)(hg:∀ c∈r.candidates,goodT c.pattern=true):
 spec_l22Select r ((2 ^ k-1:Nat):Int)=some (putAllT ((selS (2 ^ k-1) cv 0 0).map fun j=>(r.candidates.getD j default).pattern) []):=by
 have h64:2 ^ k≤2 ^ 6:=Nat.pow_le_pow_right (by omega) hk
 have hpos:0<2 ^ k:=Nat.two_pow_pos k
 have hlen:r.candidates.length=cv.length:=by have:=congrArg List.length hcv; simpa[natsI] using this
 unfold spec_l22Select
 rw[fewest_eq hk hcv hc hl,ai]
 have key:∀ (n i h:Nat) (out:List Tt),i+n=cv.length→h<2 ^ k→Gd out→out.length≤i→thenL (ρ:=List Tt) (σ:=Int×List Tt) (forN (fun (i5:Nat) (s5:Int×(List Tt))=>
  bif decide (s5.1=((2 ^ k-1:Nat):Int)) then
   some (.rt s5.2)
  else
   aa (idx r.candidates (i5:Int)) fun v31=>
   aa (idx (rowsF (2 ^ k-1) cv (2 ^ k) (cv.length+1)) (IntKind.i64.wrap ((i5:Int)+(1:Int)))) fun v38=>
   aa (idx v38 (bitor .i64 s5.1 v31.covers)) fun v41=>
   aa (idx (rowsF (2 ^ k-1) cv (2 ^ k) (cv.length+1)) (i5:Int)) fun v46=>
   aa (idx v46 s5.1) fun v49=>
   bif decide ((IntKind.i64.wrap ((1:Int)+v41))=v49) then
    aa (idx r.candidates (i5:Int)) fun v56=>
    aa (spec_l16Put s5.2 v56.pattern) fun v59=>
    some (.nx (bitor .i64 s5.1 v31.covers,v59))
   else
    some (.nx (s5.1,s5.2))) n i ((h:Int),out)) (fun s5=>some s5.2)=some (putAllT ((selS (2 ^ k-1) (cv.drop i) i h).map fun j=>(r.candidates.getD j default).pattern) out):=by
  intro n
  induction n with
  | zero=>
   intro i h out hi _ _ _
   rw[forN_zero,thenL_inr,List.drop_of_length_le (by omega)]; rfl
  | succ n ih=>
   intro i h out hi hh hgo hlo
   obtain⟨c1,c2,c3,c4⟩:=cov_at hcv (i:=i) (by omega)
   rw[c4,selS]
   by_cases hf:h=2 ^ k-1
   ·rw[if_pos hf,forN_rt (r:=out) (by simp only[]; rw[decide_eq_true (by omega)]; rfl)]; rfl
   ·have hor:h||| cv.getD i 0<2 ^ k:=Nat.or_lt_two_pow hh (hc _ c3)
    have hle:=fewS_le (full:=2 ^ k-1) (cv.drop (i+1)) (h||| cv.getD i 0)
    have w1:IntKind.i64.wrap ((i:Int)+1)=((i+1:Nat):Int):=by rw[wrap64 (by omega) (by omega)]; omega
    have w5:IntKind.i64.wrap ((1:Int)+(fewS (2 ^ k-1) (cv.drop (i+1)) (h||| cv.getD i 0):Int))=((1+fewS (2 ^ k-1) (cv.drop (i+1)) (h||| cv.getD i 0):Nat):Int):=by rw[wrap64 (by omega) (by omega)]; omega
    have hgi:goodT (r.candidates.getD i default).pattern=true:=hg _ (getD_mem c1)
    have hd:decide (((1+fewS (2 ^ k-1) (cv.drop (i+1)) (h||| cv.getD i 0):Nat):Int)=(fewS (2 ^ k-1) (cv.drop i) h:Int))=decide (1+fewS (2 ^ k-1) (cv.drop (i+1)) (h||| cv.getD i 0)=fewS (2 ^ k-1) (cv.getD i 0::cv.drop (i+1)) h):=by
     rw[c4]; exact decide_eq_decide.2 (by omega)
    have step:∀ z,(bif decide (1+fewS (2 ^ k-1) (cv.drop (i+1)) (h||| cv.getD i 0)=fewS (2 ^ k-1) (cv.getD i 0::cv.drop (i+1)) h) then
     some (Flow.nx ((((h||| cv.getD i 0:Nat):Int),putT (r.candidates.getD i default).pattern out)):Flow (List Tt) (Int×List Tt)) else some (.nx ((h:Int),out)))=some (.nx z)→
     ((fun (i5:Nat) (s5:Int×(List Tt))=>
      bif decide (s5.1=((2 ^ k-1:Nat):Int)) then
       some (.rt s5.2)
      else
       aa (idx r.candidates (i5:Int)) fun v31=>
       aa (idx (rowsF (2 ^ k-1) cv (2 ^ k) (cv.length+1)) (IntKind.i64.wrap ((i5:Int)+(1:Int)))) fun v38=>
       aa (idx v38 (bitor .i64 s5.1 v31.covers)) fun v41=>
       aa (idx (rowsF (2 ^ k-1) cv (2 ^ k) (cv.length+1)) (i5:Int)) fun v46=>
       aa (idx v46 s5.1) fun v49=>
       bif decide ((IntKind.i64.wrap ((1:Int)+v41))=v49) then
        aa (idx r.candidates (i5:Int)) fun v56=>
        aa (spec_l16Put s5.2 v56.pattern) fun v59=>
        some (.nx (bitor .i64 s5.1 v31.covers,v59))
       else
        some (.nx (s5.1,s5.2))) i ((h:Int),out):Option (Flow (List Tt) (Int×List Tt)))=some (.nx z):=fun z hz=>by
     simp only[]
     rw[decide_eq_false (by omega),cond_false,idx_getD c1,ai,w1,rowsF_idx (by omega),if_pos (by omega),ai,c2,bor_nat (by omega) (by have:=hc _ c3; omega),tabR_idx hor,ai,rowsF_idx (by omega),if_pos (by omega),ai,tabR_idx hh,ai,w5,hd,ai,l16Put_eq _ hgi out hgo (by omega),ai]
     exact hz
    by_cases q:1+fewS (2 ^ k-1) (cv.drop (i+1)) (h||| cv.getD i 0)=fewS (2 ^ k-1) (cv.getD i 0::cv.drop (i+1)) h
    ·have hl2:=putT_len (r.candidates.getD i default).pattern out
     rw[if_neg hf,if_pos q,forN_nx (step _ (by rw[decide_eq_true q]; rfl)),ih (i+1) _ _ (by omega) hor (putT_gd hgi hgo) (by omega)]; rfl
    ·rw[if_neg hf,if_neg q,forN_nx (step _ (by rw[decide_eq_false q]; rfl)),ih (i+1) _ _ (by omega) hh hgo (by omega)]
 have:=key cv.length 0 0 [] (by omega) hpos (fun a ha=>by simp at ha) (aP _)
 rw[hlen]
 exact this
end
section
/-! ### rows of candidates -/
abbrev KC:=List Tt×(Tt×Nat)
def toC(c:Tt×Nat):ld:=⟨c.1,(c.2:Int)⟩
def toRow(r:List Tt×List (Tt×Nat)):lf:=⟨r.1,r.2.map toC⟩
noncomputable def rowsOf(xs:List KC):List (List Tt×List (Tt×Nat)):=xs.foldl (fun rows g=>updS rows g.1 g.2) []
theorem rowsOf_snoc(xs:List KC)(g:KC):rowsOf (xs++[g])=updS (rowsOf xs) g.1 g.2:=by unfold rowsOf; rw[List.foldl_append]; rfl
theorem rowsOf_eq(xs:List KC):rowsOf xs=(fkS [] xs).map fun x=>(x,rowS xs x):=rows_fold xs [] [] Keys.nil
theorem rowS_len(xs:List KC)(k:List Tt):(rowS xs k).length≤xs.length:=by
 unfold rowS; rw[au]; exact List.length_filter_le _ _
theorem fkS_len:∀ (l:List KC) (ks:List (List Tt)),(fkS ks l).length≤ks.length+l.length
 | [],ks=>aP _
 | g::l,ks=>by
  rw[fkS]
  split
  ·have:=fkS_len l ks; simp only[aH]; omega
  ·have:=fkS_len l (ks++[g.1]); simp only[aQ,aH,a6] at*; omega
theorem rowsOf_fine{xs:List KC}:(rowsOf xs).length≤xs.length∧∀ r∈rowsOf xs,r.2.length≤xs.length:=by
 rw[rowsOf_eq]
 refine⟨?_,fun r hr=>?_⟩
 ·have:=fkS_len xs []; rw[au]; simpa using this
 ·obtain⟨k,_,rfl⟩:=List.mem_map.1 hr
  exact rowS_len xs k
theorem updS_miss{k:List Tt}{c:Tt×Nat}:∀ {R:List (List Tt×List (Tt×Nat))},(∀ r∈R,r.1≠k)→updS R k c=R++[(k,[c])]
 | [],_=>rfl
 | r::R,h=>by rw[updS,if_neg (h r (by simp)),updS_miss (fun x hx=>h x (by simp[hx]))]; rfl
theorem updS_hit{k:List Tt}{c:Tt×Nat}{cs:List (Tt×Nat)}{suf:List (List Tt×List (Tt×Nat))}:∀ {pre:List (List Tt×List (Tt×Nat))},(∀ r∈pre,r.1≠k)→updS (pre++(k,cs)::suf) k c=pre++(k,cs++[c])::suf
 | [],_=>by rw[bC,updS,if_pos rfl]; rfl
 | r::R,h=>by rw[List.cons_append,updS,if_neg (h r (by simp)),updS_hit (fun x hx=>h x (by simp[hx]))]; rfl
theorem split_key(k:List Tt):∀ R:List (List Tt×List (Tt×Nat)),(∀ r∈R,r.1≠k)∨∃ pre cs suf,R=pre++(k,cs)::suf∧∀ r∈pre,r.1≠k
 | []=>.inl fun r hr=>by simp at hr
 | r::R=>by
  by_cases e:r.1=k
  ·exact .inr ⟨[],r.2,R,by rw[← e]; rfl,fun x hx=>by simp at hx⟩
  ·rcases split_key k R with h | ⟨pre,cs,suf,h1,h2⟩
   ·refine .inl fun x hx=>?_
    rcases List.mem_cons.1 hx with rfl | hx
    ·exact e
    ·exact h x hx
   ·refine .inr ⟨r::pre,cs,suf,by rw[h1]; rfl,fun x hx=>?_⟩
    rcases List.mem_cons.1 hx with rfl | hx
    ·exact e
    ·exact h2 x hx
theorem forN_steps{ρ σ:Type}{F:Nat→σ→Option (Flow ρ σ)}(st:Nat→σ):∀ (p i m:Nat),(∀ j,i≤j→j<i+p→F j (st j)=some (.nx (st (j+1))))→forN F (p+m) i (st i)=forN F m (i+p) (st (i+p))
 | 0,i,m,_=>by rw[Nat.zero_add]; rfl
 | p+1,i,m,h=>by
  rw[show p+1+m=(p+m)+1 by omega,forN_nx (h i (aP _) (by omega)),forN_steps st p (i+1) m (fun j a b=>h j (by omega) (by omega)),show i+1+p=i+(p+1) by omega]
theorem find_pos{ρ:Type}{F:Nat→Int→Option (Flow ρ Int)}{Y:Int→Option ρ}{n p:Nat}{z:ρ}(hp:p<n)(h1:∀ i,i<p→F i (-1)=some (.nx (-1)))(h2:F p (-1)=some (.nx (p:Int)))(h3:∀ i,p<i→i<n→F i (p:Int)=some (.rt z))(h4:Y (p:Int)=some z):thenL (forN F n 0 (-1)) Y=some z:=by
 have e:=forN_steps (F:=F) (fun _=>(-1:Int)) p 0 (n-p) (fun j _ hj=>h1 j (by omega))
 rw[show p+(n-p)=n by omega] at e
 rw[e,Nat.zero_add,show n-p=(n-p-1)+1 by omega,forN_nx h2]
 by_cases hq:n-p-1=0
 ·rw[hq,forN_zero,thenL_inr,h4]
 ·rw[show n-p-1=(n-p-2)+1 by omega,forN_rt (h3 (p+1) (by omega) (by omega))]; rfl
theorem find_neg{ρ:Type}{F:Nat→Int→Option (Flow ρ Int)}{Y:Int→Option ρ}{n:Nat}(h1:∀ i,i<n→F i (-1)=some (.nx (-1))):thenL (forN F n 0 (-1)) Y=Y (-1):=by
 have e:=for_iter (f:=F) (fun _=>(-1:Int)) n 0 (fun j _ hj=>h1 j (by omega))
 rw[e,thenL_inr]
theorem sub_forN{ρ:Type}{m:Nat}{l:List Tt}{F:Nat→List Tt→Option (Flow ρ (List Tt))}(h:∀ j s,j<l.length→s.length≤1000→F j s=some (.nx (bif m.testBit j then s++[l.getD j default] else s))):∀ (n i:Nat) (s:List Tt),i+n=l.length→s.length+n≤1000→
 forN F n i s=some (.inr (s++subS (l.drop i) m i))
 | 0,i,s,hi,_=>by rw[forN_zero,List.drop_of_length_le (by omega),subS,bw]
 | n+1,i,s,hi,hs=>by
  have hd:l.drop i=l.getD i default::l.drop (i+1):=drop_getD (by omega)
  rw[forN_nx (h i s (by omega) (by omega)),hd,subS]
  cases m.testBit i
  ·rw[cond_false,sub_forN h n (i+1) s (by omega) (by omega)]; rfl
  ·rw[cond_true,sub_forN h n (i+1) (s++[l.getD i default]) (by omega) (by simp; omega),aV]; rfl
def singles(l:List Tt):List (Tt×Nat):=(List.range l.length).map fun i=>(l.getD i default,2 ^ i)
theorem singles_take{l:List Tt}{q:Nat}(h:q<l.length):(singles l).take (q+1)=(singles l).take q++[(l.getD q default,2 ^ q)]:=by
 unfold singles
 rw[← List.map_take,← List.map_take,List.take_range,List.take_range,show min (q+1) l.length=q+1 by omega,show min q l.length=q by omega,List.range_succ,bt]; rfl
theorem singles_len(l:List Tt):(singles l).length=l.length:=by unfold singles; simp
noncomputable def extR(l:List Tt)(r:List Tt×List (Tt×Nat)):List Tt×List (Tt×Nat):=(r.1,r.2++singles l)
theorem same_specA(a b:List Tt):spec_l22Same a b=some (same a b):=same_spec a b
set_option maxHeartbeats 1000000 in
theorem rows_eq{l:List Tt}(h:Vd l):spec_l22Rows l=some (((rowsOf (allG l 1 (2 ^ l.length-1))).map (extR l)).map toRow):=by
 have h6:=h.six
 obtain⟨t1,t2⟩:=h.two
 unfold spec_l22Rows
 have wl:IntKind.u64.wrap (l.length:Int)=(l.length:Int):=wrapU (by omega)
 have first:=lim_iter (ρ:=List lf) (f:=fun (s3:Int×(List lf))=>
  aa (shl .i64 (1:Int) (IntKind.u64.wrap (l.length:Int))) fun v22=>
  bif decide (s3.1<v22) then
   thenL (ρ:=(Flow (List lf) (Int×(List lf)))) (σ:=(List Tt)) (forN (fun (i7:Nat) (s7:(List Tt))=>
    aa (shr .i64 s3.1 (IntKind.u64.wrap (i7:Int))) fun v36=>
    bif decide ((bitand .i64 v36 (1:Int))=(1:Int)) then
     aa (idx l (i7:Int)) fun v42=>
     aa (app s7 ([v42])) fun v45=>
     some (.nx v45)
    else
     some (.nx s7)) l.length 0 ([])) fun s7=>
   bif decide ((s7.length:Int)<(2:Int)) then
    some (.nx (IntKind.i64.wrap (s3.1+(1:Int)),s3.2))
   else
    aa (spec_l22General s7) fun v51=>
    thenL (ρ:=(Flow (List lf) (Int×(List lf)))) (σ:=(List Tt)) (forN (fun (i15:Nat) (s15:(List Tt))=>
     aa (idx v51.2 (i15:Int)) fun v64=>
     aa (spec_l16Put s15 v64) fun v66=>
     some (.nx v66)) v51.2.length 0 ([])) fun s15=>
    thenL (ρ:=(Flow (List lf) (Int×(List lf)))) (σ:=Int) (forN (fun (i20:Nat) (s20:Int)=>
     bif decide (s20<(0:Int)) then
      aa (idx s3.2 (i20:Int)) fun v79=>
      aa (spec_l22Same v79.instances s15) fun v83=>
      bif v83 then
       some (.nx (i20:Int))
      else
       some (.nx s20)
     else
      aa (idx s3.2 s20) fun v96=>
      aa (idx s3.2 s20) fun v97=>
      aa (app v97.candidates ([(ld.mk v51.1 s3.1)])) fun v104=>
      aa (idx s3.2 s20) fun v109=>
      aa (idx s3.2 s20) fun w11=>
      some (.rt (.nx (IntKind.i64.wrap (s3.1+(1:Int)),s3.2.set s20.toNat (lf.mk v97.instances v104))))) s3.2.length 0 (-1:Int)) fun s20=>
    bif decide (s20<(0:Int)) then
     aa (app s3.2 ([(lf.mk s15 ([]))])) fun v93=>
     aa (idx v93 (s3.2.length:Int)) fun v96=>
     aa (idx v93 (s3.2.length:Int)) fun v97=>
     aa (app v97.candidates ([(ld.mk v51.1 s3.1)])) fun v104=>
     aa (idx v93 (s3.2.length:Int)) fun v109=>
     aa (idx v93 (s3.2.length:Int)) fun w14=>
     some (.nx (IntKind.i64.wrap (s3.1+(1:Int)),v93.set (s3.2.length:Int).toNat (lf.mk v97.instances v104)))
    else
     aa (idx s3.2 s20) fun v96=>
     aa (idx s3.2 s20) fun v97=>
     aa (app v97.candidates ([(ld.mk v51.1 s3.1)])) fun v104=>
     aa (idx s3.2 s20) fun v109=>
     aa (idx s3.2 s20) fun w15=>
     some (.nx (IntKind.i64.wrap (s3.1+(1:Int)),s3.2.set s20.toNat (lf.mk v97.instances v104)))
  else
   some (.br s3)) (fun j=>(((j+1:Nat):Int),(rowsOf (allG l 1 j)).map toRow)) (2 ^ l.length-1) (s':=(((2 ^ l.length-1+1:Nat):Int),(rowsOf (allG l 1 (2 ^ l.length-1))).map toRow)) (fun j hj=>by
  simp only[]
  obtain⟨m,hm⟩:∃ m,m=j+1:=⟨_,rfl⟩
  rw[wl,shl_2 (by omega),ai,← hm,decide_eq_true (by omega),cond_true]
  rw[sub_forN (m:=m) (l:=l) (fun q s hq hs=>by
   rw[wrapU (by omega),shr_nn (by omega),ai,btest (by omega),idx_getD hq,ai]
   cases m.testBit q
   ·rfl
   ·rw[cond_true,app_one _ _ (by omega)]; rfl) l.length 0 [] (by omega) (by simp; omega),thenL_inr]
  rw[bC,List.drop_zero]
  have wm:IntKind.i64.wrap ((m:Int)+1)=((m+1:Nat):Int):=by rw[wrap64 (by omega) (by omega)]; omega
  have esucc:allG l 1 m=allG l 1 j++(bif big l m then [grp l m] else []):=by rw[hm,allG_succ,Nat.add_comm 1 j]
  rw[esucc,wm]
  cases hb:big l m
  ·rw[decide_eq_true (by unfold big at hb; rw[decide_eq_false_iff_not] at hb; omega),cond_true,cond_false,bw]
  ·obtain⟨gf,gn,g2,g6⟩:=h.gen hb
   have hal:=allG_len l 1 j
   obtain⟨f1,f2⟩:=rowsOf_fine (xs:=allG l 1 j)
   have gl:=gen_len gf gn g2
   rw[decide_eq_false (by omega),cond_false,cond_true,gf.sp,ai]
   simp only[forN_idx]
   rw[put_loopA _ 0 [] gf.ins (fun a ha=>by simp at ha) (by simp; omega),thenL_inr,rowsOf_snoc]
   show _=some (Flow.nx (_,(updS (rowsOf (allG l 1 j)) (keyS (subS l m 0)) ((gen (subS l m 0)).1,m)).map toRow))
   rcases split_key (keyS (subS l m 0)) (rowsOf (allG l 1 j)) with hk | ⟨pre,cs,suf,hR,hk⟩
   ·rw[updS_miss hk]
    refine(find_neg fun i hi=>?_).trans ?_
    ·rw[au] at hi
     have hmem:=getD_mem (l:=(rowsOf (allG l 1 j)).map toRow) (i:=i) (by rw[au]; exact hi)
     obtain⟨r,hr,er⟩:=List.mem_map.1 hmem
     rw[decide_eq_true (by omega),cond_true,idx_getD (by rw[au]; exact hi),ai,same_specA,ai,← er]
     have:same (toRow r).instances (putAllT (gen (subS l m 0)).2 [])=false:=by
      rw[Bool.eq_false_iff]; intro q; exact hk r hr (same_iff.1 q)
     rw[this]; rfl
    ·rw[decide_eq_true (by omega),cond_true,app_one _ _ (by rw[au]; omega),ai]
     have e:idx ((rowsOf (allG l 1 j)).map toRow++[lf.mk (putAllT (gen (subS l m 0)).2 []) []]) (((rowsOf (allG l 1 j)).map toRow).length:Int)=some (lf.mk (putAllT (gen (subS l m 0)).2 []) []):=idx_mid _ _ _
     rw[e,ai,ai]
     simp only[]
     rw[app_one _ _ (by simp),ai,ai,ai,Int.toNat_natCast,List.set_append_right _ _ (aP _),Nat.sub_self,List.set_cons_zero,bt]
     rfl
   ·rw[hR,updS_hit hk]
    rw[hR] at f1 f2
    have hcs:cs.length≤j:=Nat.le_trans (f2 (keyS (subS l m 0),cs) (by simp)) hal
    have eat:idx ((pre++(keyS (subS l m 0),cs)::suf).map toRow) (pre.length:Int)=some (toRow (keyS (subS l m 0),cs)):=by
     rw[bt,aF]
     have:=idx_mid (pre.map toRow) (toRow (keyS (subS l m 0),cs)) (suf.map toRow)
     rwa [au] at this
    have eset:((pre++(keyS (subS l m 0),cs)::suf).map toRow).set (Int.toNat (pre.length:Int)) (lf.mk (toRow (keyS (subS l m 0),cs)).instances ((toRow (keyS (subS l m 0),cs)).candidates++[ld.mk (gen (subS l m 0)).1 (m:Int)]))=(pre++(keyS (subS l m 0),cs++[((gen (subS l m 0)).1,m)])::suf).map toRow:=by
     rw[Int.toNat_natCast,bt,aF,List.set_append_right _ _ (by rw[au]; exact aP _),au,Nat.sub_self,List.set_cons_zero,bt,aF]
     congr 2
     show lf.mk (keyS (subS l m 0)) (cs.map toC++[ld.mk (gen (subS l m 0)).1 (m:Int)])=lf.mk (keyS (subS l m 0)) ((cs++[((gen (subS l m 0)).1,m)]).map toC)
     rw[bt]; rfl
    have eapp:app (toRow (keyS (subS l m 0),cs)).candidates [ld.mk (gen (subS l m 0)).1 (m:Int)]=some ((toRow (keyS (subS l m 0),cs)).candidates++[ld.mk (gen (subS l m 0)).1 (m:Int)]):=app_one _ _ (by show(cs.map toC).length≤_; rw[au]; omega)
    refine find_pos (p:=pre.length) (by simp) (fun i hi=>?_) ?_ (fun i hi hi2=>?_) ?_
    ·have hmem:i<((pre++(keyS (subS l m 0),cs)::suf).map toRow).length:=by simp; omega
     have er:((pre++(keyS (subS l m 0),cs)::suf).map toRow).getD i default=toRow (pre[i]'hi):=by
      rw[List.getD_eq_getElem?_getD,bt,List.getElem?_append_left (by rw[au]; exact hi),List.getElem?_map,List.getElem?_eq_getElem hi]; rfl
     rw[decide_eq_true (by omega),cond_true,idx_getD hmem,ai,same_specA,ai,er]
     have:same (toRow (pre[i]'hi)).instances (putAllT (gen (subS l m 0)).2 [])=false:=by
      rw[Bool.eq_false_iff]; intro q; exact hk _ (List.getElem_mem hi) (same_iff.1 q)
     rw[this]; rfl
    ·rw[decide_eq_true (by omega),cond_true,eat,ai,same_specA,ai]
     have:same (toRow (keyS (subS l m 0),cs)).instances (putAllT (gen (subS l m 0)).2 [])=true:=same_iff.2 rfl
     rw[this]; rfl
    ·rw[decide_eq_false (by omega),cond_false,eat,ai,ai,eapp,ai,ai,ai,eset]
    ·rw[decide_eq_false (by omega),cond_false,eat,ai,ai,eapp,ai,ai,ai,eset]) (by
  simp only[]
  rw[wl,shl_2 (by omega),ai,decide_eq_false (by omega)]; rfl)
 refine(congrArg (fun z=>thenL z _) first).trans ?_
 rw[thenL_inr]
 obtain⟨f1,f2⟩:=rowsOf_fine (xs:=allG l 1 (2 ^ l.length-1))
 have hal:=allG_len l 1 (2 ^ l.length-1)
 revert f1 f2
 generalize rowsOf (allG l 1 (2 ^ l.length-1))=R
 intro f1 f2
 have second:=lim_iter (ρ:=List lf) (f:=fun (s31:(List lf)×Int)=>
  bif decide (s31.2<(s31.1.length:Int)) then
   aa (idx s31.1 s31.2) fun v118=>
   aa (idx s31.1 s31.2) fun v119=>
   thenL (ρ:=(Flow (List lf) ((List lf)×Int))) (σ:=(List ld)) (forN (fun (i35:Nat) (s35:(List ld))=>
    aa (idx l (i35:Int)) fun v130=>
    aa (shl .i64 (1:Int) (IntKind.u64.wrap (i35:Int))) fun v134=>
    aa (app s35 ([(ld.mk v130 v134)])) fun v137=>
    some (.nx v137)) l.length 0 v119.candidates) fun s35=>
   aa (idx s31.1 s31.2) fun v142=>
   aa (idx s31.1 s31.2) fun w19=>
   some (.nx (s31.1.set s31.2.toNat (lf.mk v119.instances s35),IntKind.i64.wrap (s31.2+(1:Int))))
  else
   some (.br s31)) (fun i=>(((R.take i).map (extR l)++R.drop i).map toRow,(i:Int))) R.length (s':=((R.map (extR l)).map toRow,(R.length:Int))) (fun i hi=>by
  simp only[]
  have hd:R.drop i=R[i]::R.drop (i+1):=List.drop_eq_getElem_cons hi
  have hlen:(((R.take i).map (extR l)++R.drop i).map toRow).length=R.length:=by simp; omega
  have hpl:((R.take i).map (extR l)).length=i:=by simp; omega
  have eat:idx (((R.take i).map (extR l)++R.drop i).map toRow) (i:Int)=some (toRow R[i]):=by
   rw[hd,bt,aF]
   have:=idx_mid (((R.take i).map (extR l)).map toRow) (toRow R[i]) ((R.drop (i+1)).map toRow)
   rwa [au,hpl] at this
  have hcs:=f2 R[i] (List.getElem_mem hi)
  rw[decide_eq_true (by omega),cond_true,eat,ai,ai]
  have inner:=for_iter (ρ:=(Flow (List lf) ((List lf)×Int))) (f:=fun (i35:Nat) (s35:(List ld))=>
   aa (idx l (i35:Int)) fun v130=>
   aa (shl .i64 (1:Int) (IntKind.u64.wrap (i35:Int))) fun v134=>
   aa (app s35 ([(ld.mk v130 v134)])) fun v137=>
   some (.nx v137)) (fun q=>(R[i].2++(singles l).take q).map toC) l.length 0 (fun q _ hq=>by
   rw[Nat.zero_add] at hq
   rw[idx_getD hq,ai,wrapU (by omega),shl_2 (by omega),ai,app_one _ _ (by rw[au,aQ,List.length_take]; omega),ai,singles_take hq,← aV,bt (l₁:=R[i].2++(singles l).take q)]
   rfl)
  rw[Nat.zero_add,show(singles l).take l.length=singles l by rw[← singles_len,List.take_length],List.take_zero,bw] at inner
  refine(congrArg (fun z=>thenL z _) inner).trans ?_
  have w:IntKind.i64.wrap ((i:Int)+1)=((i+1:Nat):Int):=by rw[wrap64 (by omega) (by omega)]; omega
  have e2:R.take (i+1)=R.take i++[R[i]]:=by rw[List.take_succ_eq_append_getElem hi]
  have eset:(((R.take i).map (extR l)++R.drop i).map toRow).set i (toRow (extR l R[i]))=((R.take (i+1)).map (extR l)++R.drop (i+1)).map toRow:=by
   rw[hd,bt,aF,List.set_append_right _ _ (by rw[au,hpl]; exact aP _),au,hpl,Nat.sub_self,List.set_cons_zero,e2]
   simp only[bt,aV,aF,List.map_nil,List.cons_append,bC]
  rw[thenL_inr,ai,ai,w,Int.toNat_natCast]
  show some (Flow.nx ((((R.take i).map (extR l)++R.drop i).map toRow).set i (toRow (extR l R[i])),_))=_
  rw[eset]) (by
  simp only[]
  rw[List.drop_length,List.take_length,bw,decide_eq_false (by simp)]; rfl)
 rw[List.take_zero,List.map_nil,bC,List.drop_zero] at second
 refine(congrArg (fun z=>thenL z _) second).trans ?_
 rfl
end
section
/-! ### the candidates of a row -/
theorem or_bits(i:Nat):∀ (l:List Nat) (h:Nat),(l.foldl (· ||| ·) h).testBit i=(h.testBit i||l.any fun c=>c.testBit i)
 | [],h=>by simp
 | c::l,h=>by rw[List.foldl_cons,or_bits i l (h||| c),Nat.testBit_or,List.any_cons,Bool.or_assoc]
theorem lt_bit{c n i:Nat}(h:c<2 ^ n)(hi:n≤i):c.testBit i=false:=Nat.testBit_lt_two_pow (Nat.lt_of_lt_of_le h (Nat.pow_le_pow_right (by omega) hi))
theorem or_all{c n:Nat}(h:c<2 ^ n):c||| (2 ^ n-1)=2 ^ n-1:=by
 refine Nat.eq_of_testBit_eq fun i=>?_
 rw[Nat.testBit_or,Nat.testBit_two_pow_sub_one]
 by_cases hi:i<n
 ·rw[decide_eq_true hi,Bool.or_true]
 ·rw[lt_bit h (by omega),decide_eq_false hi]; rfl
noncomputable def allK(l:List Tt):List KC:=allG l 1 (2 ^ l.length-1)
noncomputable def cands(l:List Tt)(k:List Tt):List (Tt×Nat):=rowS (allK l) k++singles l
def cvS(cs:List (Tt×Nat)):List Nat:=cs.map (·.2)
theorem allK_mem{l:List Tt}(h:Vd l){g:KC}(hg:g∈allK l):∃ m,m<2 ^ l.length∧big l m=true∧g=grp l m:=by
 unfold allK allG at hg
 obtain⟨m,hm,rfl⟩:=List.mem_map.1 hg
 rw[List.mem_filter,List.mem_range'_1] at hm
 obtain⟨_,t2⟩:=h.two
 exact⟨m,by omega,hm.2,rfl⟩
theorem rowS_mem{l:List Tt}(h:Vd l){k:List Tt}{c:Tt×Nat}(hc:c∈rowS (allK l) k):∃ m,m<2 ^ l.length∧big l m=true∧keyS (subS l m 0)=k∧c=((gen (subS l m 0)).1,m):=by
 unfold rowS at hc
 obtain⟨g,hg,rfl⟩:=List.mem_map.1 hc
 rw[List.mem_filter,decide_eq_true_eq] at hg
 obtain⟨m,m1,m2,rfl⟩:=allK_mem h hg.1
 exact⟨m,m1,m2,hg.2,rfl⟩
theorem singles_mem{l:List Tt}{c:Tt×Nat}(hc:c∈singles l):c.1∈l∧∃ i,i<l.length∧c.2=2 ^ i:=by
 unfold singles at hc
 obtain⟨i,hi,rfl⟩:=List.mem_map.1 hc
 rw[List.mem_range] at hi
 exact⟨getD_mem hi,i,hi,rfl⟩
theorem cands_len{l:List Tt}(h:Vd l)(k:List Tt):(cands l k).length≤69:=by
 have h1:=rowS_len (allK l) k
 have h2:=allG_len l 1 (2 ^ l.length-1)
 have h3:=h.two
 have h4:=h.six
 have:(allK l).length≤2 ^ l.length-1:=h2
 unfold cands
 rw[aQ,singles_len]; omega
theorem cands_lt{l:List Tt}(h:Vd l)(k:List Tt):∀ c∈cvS (cands l k),c<2 ^ l.length:=fun c hc=>by
 unfold cvS cands at hc
 obtain⟨p,hp,rfl⟩:=List.mem_map.1 hc
 rcases List.mem_append.1 hp with hp | hp
 ·obtain⟨m,m1,_,_,rfl⟩:=rowS_mem h hp; exact m1
 ·obtain⟨_,i,hi,e⟩:=singles_mem hp
  rw[e]; exact Nat.pow_lt_pow_right (by omega) hi
theorem cands_few{l:List Tt}(h:Vd l)(k:List Tt):fewS (2 ^ l.length-1) (cvS (cands l k)) 0≤69:=by
 have hl:=cands_len h k
 have hlt:=cands_lt h k
 have:=or_absorb (full:=2 ^ l.length-1) (l:=cvS (cands l k)) (h:=0) (fun c hc=>or_all (hlt c hc)) (Nat.zero_or _) (by
  refine Nat.eq_of_testBit_eq fun i=>?_
  rw[or_bits,Nat.zero_testBit,Bool.false_or,Nat.testBit_two_pow_sub_one]
  by_cases hi:i<l.length
  ·rw[decide_eq_true hi,List.any_eq_true]
   refine⟨2 ^ i,?_,Nat.testBit_two_pow_self⟩
   unfold cvS cands singles
   rw[bt,bc]
   exact .inr (List.mem_map.2 ⟨(l.getD i default,2 ^ i),List.mem_map.2 ⟨i,List.mem_range.2 hi,rfl⟩,rfl⟩)
  ·rw[decide_eq_false hi,List.any_eq_false]
   intro c hc
   rw[lt_bit (hlt c hc) (by omega)]; simp)
 unfold cvS at this
 rw[au] at this
 unfold cvS; omega
theorem cands_good{l:List Tt}(h:Vd l)(k:List Tt):∀ c∈cands l k,goodT c.1=true:=fun c hc=>by
 unfold cands at hc
 rcases List.mem_append.1 hc with hc | hc
 ·obtain⟨m,_,m2,_,rfl⟩:=rowS_mem h hc
  exact(h.gen m2).1.pat
 ·exact h.gd _ (singles_mem hc).1
theorem rowS_masks(l:List Tt)(k:List Tt):rowS (allK l) k=(((List.range' 1 (2 ^ l.length-1)).filter (big l)).filter fun m=>decide (keyS (subS l m 0)=k)).map fun m=>((gen (subS l m 0)).1,m):=by
 unfold rowS allK allG
 rw[List.filter_map,bL]
 rfl
theorem key_mem{s:List Tt}(z:Tt):z∈keyS s↔z∈(gen s).2:=by
 unfold keyS
 rw[putAllT_mem]; simp
/-- The patterns of a row differ. -/
theorem cands_nodup{l:List Tt}(h:Vd l)(k:List Tt):((cands l k).map (·.1)).Nodup:=by
 obtain⟨_,t2⟩:=h.two
 unfold cands
 rw[bt,bS]
 refine⟨?_,?_,?_⟩
 ·rw[rowS_masks,bL]
  show List.Pairwise _ _
  rw[List.pairwise_map]
  have hn:(((List.range' 1 (2 ^ l.length-1)).filter (big l)).filter fun m=>decide (keyS (subS l m 0)=k)).Nodup:=((List.nodup_range').filter _).filter _
  refine List.Pairwise.imp_of_mem (fun {a b} ha hb hab e=>hab ?_) hn
  rw[List.mem_filter,List.mem_filter,List.mem_range'_1,decide_eq_true_eq] at ha hb
  obtain⟨ga,na,la,_⟩:=h.gen ha.1.2
  obtain⟨gb,nb,lb,_⟩:=h.gen hb.1.2
  refine subS_inj h.nodup (by omega) (by omega) fun x=>?_
  exact ga.ok.inj gb.ok na la nb lb e (fun z=>by rw[← key_mem,← key_mem,ha.2,hb.2]) x
 ·have:(singles l).map (·.1)=l:=by
   unfold singles
   rw[bL]
   refine List.ext_getElem (by simp) fun i h1 h2=>?_
   simp only[List.getElem_map,List.getElem_range,Function.comp]
   simp[List.getD,h2]
  rw[this]; exact h.nodup
 ·intro a ha b hb e
  obtain⟨c,hc,rfl⟩:=List.mem_map.1 ha
  obtain⟨d,hd,rfl⟩:=List.mem_map.1 hb
  obtain⟨m,_,m2,_,rfl⟩:=rowS_mem h hc
  obtain⟨gf,gn,g2,_⟩:=h.gen m2
  exact gf.ok.notGround gn g2 (gndT_iff (h.gnd _ (singles_mem hd).1)).2 e
theorem selS_sub{full:Nat}:∀ (l:List Nat) (i h:Nat),(selS full l i h).Sublist (List.range' i l.length)
 | [],i,h=>List.Sublist.refl _
 | c::l,i,h=>by
  rw[selS,aH,List.range'_succ]
  split
  ·exact List.nil_sublist _
  ·split
   ·exact(selS_sub l (i+1) _).cons_cons _
   ·exact(selS_sub l (i+1) _).cons _
/-- What is selected of a row. -/
noncomputable def selP(l:List Tt)(k:List Tt):List Tt:=(selS (2 ^ l.length-1) (cvS (cands l k)) 0 0).map fun j=>((cands l k).getD j default).1
theorem selP_nodup{l:List Tt}(h:Vd l)(k:List Tt):(selP l k).Nodup:=by
 have h1:=(selS_sub (full:=2 ^ l.length-1) (cvS (cands l k)) 0 0).map fun j=>((cands l k).getD j default).1
 refine h1.nodup ?_
 have:(List.range' 0 (cvS (cands l k)).length).map (fun j=>((cands l k).getD j default).1)=(cands l k).map (·.1):=by
  unfold cvS
  rw[au]
  refine List.ext_getElem (by simp) fun i h1 h2=>?_
  simp only[au] at h2
  simp only[List.getElem_map,List.getElem_range']
  simp[List.getD,h2]
 rw[this]
 exact cands_nodup h k
theorem selS_lt{full:Nat}{l:List Nat}{h:Nat}:∀ j∈selS full l 0 h,j<l.length:=fun j hj=>by
 have:=(selS_sub (full:=full) l 0 h).subset hj
 rw[List.mem_range'_1] at this; omega
theorem selP_gd{l:List Tt}(h:Vd l)(k:List Tt):Gd (selP l k):=fun a ha=>by
 unfold selP at ha
 obtain⟨j,hj,rfl⟩:=List.mem_map.1 ha
 have:=selS_lt j hj
 unfold cvS at this
 rw[au] at this
 exact cands_good h k _ (getD_mem this)
theorem selP_len{l:List Tt}(h:Vd l)(k:List Tt):(selP l k).length≤69:=by
 have h1:=cands_few h k
 unfold selP
 rw[au,selS_len (by omega)]; exact h1
theorem put_perm{xs:List Tt}(h:xs.Nodup):(putAllT xs []).Perm xs:=by
 rw[List.perm_ext_iff_of_nodup (SrtT_nodup (putAllT_srt xs [] List.Pairwise.nil)) h]
 intro a; rw[putAllT_mem]; simp
theorem put_len{xs:List Tt}(h:xs.Nodup):(putAllT xs []).length=xs.length:=(put_perm h).length_eq
theorem addAll_id:∀ (xs l:List Tt),(l++xs).Nodup→addAll xs l=l++xs
 | [],l,_=>by rw[bw]; rfl
 | x::xs,l,h=>by
  have hx:x∉l:=fun hm=>by
   rw[bS] at h
   exact h.2.2 x hm x (by simp) rfl
  have e:addT x l=l++[x]:=by
   unfold addT
   have:l.any (fun y=>same y x)=false:=by
    rw[Bool.eq_false_iff]; intro q; exact hx ((any_same x l).1 q)
   rw[this]; rfl
  show addAll xs (addT x l)=_
  rw[e,addAll_id xs (l++[x]) (by rw[aV]; exact h),aV]; rfl
theorem sort_nodup{xs:List Tt}(h:Gd xs)(hn:xs.Nodup)(hl:xs.length≤1048576):slices_SortFuncT xs=some ((),putAllT xs []):=by
 have:=sort_put h hl
 rwa [addAll_id xs [] (by simpa using hn),bC] at this
/-! ### both sides -/
/-- One more row. -/
noncomputable def stepI(l:List Tt)(s:List Tt×List Tt)(k:List Tt):List Tt×List Tt:=if (selP l k).length+k.length<s.1.length+s.2.length then(selP l k,k) else s
structure BOk(l:List Tt)(s:List Tt×List Tt):Prop where
 gd:Gd s.1
 gi:Gd s.2
 nd:s.1.Nodup
 len:s.1.length+s.2.length≤6
theorem stepI_ok{l:List Tt}(h:Vd l){s:List Tt×List Tt}(hs:BOk l s){k:List Tt}(hk:Gd k):BOk l (stepI l s k):=by
 unfold stepI
 split
 ·rename_i e
  exact⟨selP_gd h k,hk,selP_nodup h k,by have:=hs.len; simp only; omega⟩
 ·exact hs
theorem key_gd{l:List Tt}(h:Vd l){g:KC}(hg:g∈allK l):Gd g.1∧g.1.length≤6:=by
 obtain⟨m,_,m2,rfl⟩:=allK_mem h hg
 obtain⟨gf,gn,g2,g6⟩:=h.gen m2
 refine⟨fun a ha=>gf.ins a ((key_mem a).1 ha),?_⟩
 have h1:=putAllT_len (gen (subS l m 0)).2 []
 have h2:=gen_len gf gn g2
 show(putAllT (gen (subS l m 0)).2 []).length≤6
 simp only[a6] at h1
 omega
/-- The best of all. -/
noncomputable def bestI(l:List Tt):List Tt×List Tt:=(fkS [] (allK l)).foldl (stepI l) (l,[])
noncomputable def smallestD(l:List Tt):Dt:=⟨putAllT (bestI l).1 [],(bestI l).2⟩
end
section
/-! ### what is valid -/
theorem found{X:Option Int}{b:Bool}(h:X.bind (fun r=>some (decide ((0:Int)≤r)))=some b):∃ v,X=some v∧decide ((0:Int)≤v)=b:=by
 cases X with
 | none=>cases h
 | some v=>exact⟨v,rfl,by rw[ai] at h; exact Option.some.inj h⟩
theorem indexOf_impl(xs:List Tt)(x:Tt):∃ v,impl_indexOfAtom xs x=some v∧decide ((0:Int)≤v)=xs.any (fun y=>same y x):=by
 have h:=find_list (f:=fun y0=>impl_indexOfAtom_1 y0 x) (p:=fun y=>same y x) xs (fun a _=>by unfold impl_indexOfAtom_1; rw[EqualTerms_ok]; rfl)
 obtain⟨v,h1,h2⟩:=found h
 refine⟨v,?_,h2⟩
 unfold impl_indexOfAtom slices_IndexFunc_Simpl_Term_impl_Term
 exact(congrArg (fun z=>aa z _) h1).trans rfl
theorem indexOf_spec(xs:List Tt)(x:Tt):∃ v,spec_l16Index xs x=some v∧decide ((0:Int)≤v)=xs.any (fun y=>same y x):=by
 have h:=find_list (f:=fun y0=>spec_l2Same y0 x) (p:=fun y=>same y x) xs (fun a _=>l2Same_ok a x)
 obtain⟨v,h1,h2⟩:=found h
 exact⟨v,h1,h2⟩
/-- No term is there twice. -/
noncomputable def dif(l:List Tt)(j:Nat):Bool:=!(l.take j).any fun y=>same y (l.getD j default)
theorem dif_all{l:List Tt}:(List.range l.length).all (dif l)=true↔l.Nodup:=by
 rw[aZ]
 constructor
 ·intro h
  rw[List.nodup_iff_pairwise_ne,List.pairwise_iff_getElem]
  intro i j hi hj hij e
  have:=h j (List.mem_range.2 hj)
  unfold dif at this
  rw[Bool.not_eq_true',List.any_eq_false] at this
  refine this l[i] (List.mem_take_iff_getElem.2 ⟨i,by omega,rfl⟩) ?_
  rw[same_iff,e]
  simp[List.getD,hj]
 ·intro h j hj
  rw[List.mem_range] at hj
  rw[List.nodup_iff_pairwise_ne,List.pairwise_iff_getElem] at h
  unfold dif
  rw[Bool.not_eq_true',List.any_eq_false]
  intro y hy q
  rw[same_iff] at q
  obtain⟨i,hi,e⟩:=List.mem_take_iff_getElem.1 hy
  refine h i j (by omega) hj (by omega) ?_
  rw[e,q]
  simp[List.getD,hj]
theorem slc_take{α:Type}(l:List α){j:Nat}(h:j≤l.length):slc l 0 (j:Int)=some (l.take j):=by
 unfold slc; rw[if_pos (by omega)]; simp
/-- What both sides take, as a value. -/
noncomputable def vdB(l:List Tt):Bool:=inR (l.length:Int) 1 6&&(l.all gndT&&(List.range l.length).all (dif l))
theorem vdB_iff{l:List Tt}:vdB l=true↔Vd l:=by
 unfold vdB inR
 rw[aA,aA,decide_eq_true_eq,dif_all,aZ]
 exact⟨fun h=>⟨by omega,by omega,h.2.1,h.2.2⟩,fun h=>⟨⟨by have:=h.pos; omega,by have:=h.six; omega⟩,h.gnd,h.nodup⟩⟩
theorem different_eq{l:List Tt}(hok:LOk Tt.Ok l)(ht:∀ a∈l,a.tot≤1048576):spec_l22Different l=some (vdB l):=by
 unfold spec_l22Different vdB
 rw[l1In_eq,ai]
 cases hi:inR (l.length:Int) 1 6
 ·rfl
 have hlen:1≤l.length∧l.length≤6:=by
  unfold inR at hi
  simp only[aA,decide_eq_true_eq] at hi
  omega
 rw[cond_true,Bool.true_and,terms_spec hok ht,ai,decide_eq_true (show l.length≤60 by omega),Bool.true_and]
 cases hg:l.all gndT
 ·rfl
 rw[cond_true,Bool.true_and,forN_all (dif l) (r0:=false) (fun j hj _=>by
  obtain⟨v,h1,h2⟩:=indexOf_spec (l.take j) (l.getD j default)
  rw[slc_take l (by omega),ai,idx_getD hj,ai,h1,ai,h2]
  unfold dif
  cases (l.take j).any fun y=>same y (l.getD j default)<;>rfl)]
 cases (List.range l.length).all (dif l)<;>rfl
theorem ground_loop{ρ:Type}{l:List Tt}(hok:LOk Tt.Ok l)(ht:∀ a∈l,a.tot≤1048576)(r0:ρ)(k:Unit→Option ρ):thenL (ρ:=ρ) (σ:=Unit) (forN (fun (i2:Nat) (s2:Unit)=>
 aa (idx l (i2:Int)) fun v24=>
 aa (impl_isGroundTerm v24) fun v27=>
 bif v27 then
  aa (slc l (0:Int) (i2:Int)) fun v32=>
  aa (impl_indexOfAtom v32 v24) fun v34=>
  bif decide ((0:Int)≤v34) then
   some (.rt r0)
  else
   some (.nx ())
 else
  some (.rt r0)) l.length 0 ()) k=bif l.all gndT&&(List.range l.length).all (dif l) then k () else some r0:=by
 rw[forN_all (fun j=>gndT (l.getD j default)&&dif l j) (r0:=r0) (fun j hj _=>by
  have hm:=getD_mem hj
  obtain⟨v,h1,h2⟩:=indexOf_impl (l.take j) (l.getD j default)
  rw[idx_getD hj,ai,isGround_eq _ (ht _ hm) (hok.2 _ hm),ai]
  cases gndT (l.getD j default)
  ·rfl
  ·rw[cond_true,slc_take l (by omega),ai,h1,ai,h2]
   unfold dif
   cases (l.take j).any fun y=>same y (l.getD j default)<;>rfl)]
 have:(List.range l.length).all (fun j=>gndT (l.getD j default)&&dif l j)=(l.all gndT&&(List.range l.length).all (dif l)):=by
  rw[← range_all_list l gndT,Bool.eq_iff_iff,aA,aZ,aZ,aZ]
  exact⟨fun h=>⟨fun x hx=>by have:=h x hx; rw[aA] at this; exact this.1,fun x hx=>by have:=h x hx; rw[aA] at this; exact this.2⟩,fun h x hx=>by rw[aA]; exact⟨h.1 x hx,h.2 x hx⟩⟩
 rw[this]
/-! ### the program's side -/
def toK(c:Tt×Nat):ct:=⟨c.1,(c.2:Int)⟩
theorem forL_map{α β ρ σ:Type}(f:α→β)(body:Nat→β→σ→Option (Flow ρ σ)):∀ (xs:List α) (i:Nat) (s:σ),forL body (xs.map f) i s=forL (fun i x s=>body i (f x) s) xs i s
 | [],_,_=>rfl
 | x::xs,i,s=>by
  rw[aF]
  unfold forL
  congr 1
  funext y
  cases y with
  | nx s'=>exact forL_map f body xs (i+1) s'
  | br s'=>rfl
  | rt r=>rfl
theorem rowS_cons(g:KC)(xs:List KC)(k:List Tt):rowS (g::xs) k=bif same g.1 k then g.2::rowS xs k else rowS xs k:=by
 unfold rowS
 rw[List.filter_cons]
 by_cases e:g.1=k
 ·rw[if_pos (by rw[decide_eq_true_eq]; exact e),same_iff.2 e]; rfl
 ·rw[if_neg (by rw[decide_eq_true_eq]; exact e),show same g.1 k=false by rw[Bool.eq_false_iff]; exact fun q=>e (same_iff.1 q)]; rfl
theorem filt_forL{ρ:Type}{k:List Tt}{body:Nat→gc→List ct→Option (Flow ρ (List ct))}(h:∀ i g s,s.length≤1000→body i (toG g) s=some (.nx (bif same g.1 k then s++[toK g.2] else s))):∀ (xs:List KC) (i:Nat) (s:List ct),s.length+xs.length≤1000→
 forL body (xs.map toG) i s=some (.inr (s++(rowS xs k).map toK))
 | [],i,s,_=>by rw[List.map_nil]; show some (Sum.inr s)=_; rw[show rowS ([]:List KC) k=[] from rfl,List.map_nil,bw]
 | g::xs,i,s,hs=>by
  simp only[aH] at hs
  rw[aF,forL_nx (h i g s (by omega)),rowS_cons]
  cases same g.1 k
  ·rw[cond_false,filt_forL h xs (i+1) s (by omega)]; rfl
  ·rw[cond_true,filt_forL h xs (i+1) (s++[toK g.2]) (by simp; omega),aV]; rfl
theorem sd1_eq(a b:KC):impl_SmallestDecomposition_1 (toG a) (toG b)=some (same a.1 b.1):=by
 unfold impl_SmallestDecomposition_1
 rw[same_impl,ai]; rfl
theorem keys_gd{l:List Tt}(h:Vd l):∀ k∈fkS [] (allK l),Gd k∧k.length≤6:=by
 have key:∀ (xs:List KC) (ks:List (List Tt)),∀ k∈fkS ks xs,k∈ks∨∃ g∈xs,g.1=k:=fun xs=>by
  induction xs with
  | nil=>intro ks k hk; exact .inl hk
  | cons g xs ih=>
   intro ks k hk
   rw[fkS] at hk
   split at hk
   ·rcases ih ks k hk with h | ⟨g',h1,h2⟩
    ·exact .inl h
    ·exact .inr ⟨g',by simp[h1],h2⟩
   ·rcases ih _ k hk with h | ⟨g',h1,h2⟩
    ·rcases List.mem_append.1 h with h | h
     ·exact .inl h
     ·exact .inr ⟨g,by simp,(List.mem_singleton.1 h).symm⟩
    ·exact .inr ⟨g',by simp[h1],h2⟩
 intro k hk
 rcases key _ _ k hk with h' | ⟨g,h1,rfl⟩
 ·simp at h'
 ·exact key_gd h h1
theorem start_ok{l:List Tt}(h:Vd l):BOk l (l,[]):=⟨h.gd,fun a ha=>by simp at ha,h.nodup,by have:=h.six; simpa using this⟩
theorem fold_ok{l:List Tt}(h:Vd l):∀ (ks:List (List Tt)) (s:List Tt×List Tt),(∀ k∈ks,Gd k)→BOk l s→BOk l (ks.foldl (stepI l) s)
 | [],s,_,hs=>hs
 | k::ks,s,hk,hs=>fold_ok h ks _ (fun x hx=>hk x (by simp[hx])) (stepI_ok h hs (hk k (by simp)))
theorem best_ok{l:List Tt}(h:Vd l):BOk l (bestI l):=fold_ok h _ _ (fun k hk=>(keys_gd h k hk).1) (start_ok h)
theorem copyG{l:List Tt}(h:Gd l)(hl:l.length≤1000):impl_copyTerms l=some l:=copyTs l (fun t ht=>by have:=(goodT_parts (h t ht)).2.1; omega) (by omega)
theorem toK_cov(cs:List (Tt×Nat)):(cs.map toK).map (fun c=>c.covers)=natsI (cvS cs):=by unfold natsI cvS; rw[bL,bL]; rfl
theorem toC_cov(cs:List (Tt×Nat)):(cs.map toC).map (fun c=>c.covers)=natsI (cvS cs):=by unfold natsI cvS; rw[bL,bL]; rfl
theorem idx_map{α β:Type}[Inhabited α](f:α→β)(l:List α){j:Nat}(h:j<l.length):idx (l.map f) (j:Int)=some (f (l.getD j default)):=by
 unfold idx
 rw[if_pos (by omega),Int.toNat_natCast,List.getElem?_map,List.getElem?_eq_getElem h]
 simp[List.getD,h]
set_option maxHeartbeats 1000000 in
theorem small_impl{l:List Tt}(hok:LOk Tt.Ok l)(ht:∀ a∈l,a.tot≤1048576):impl_SmallestDecomposition l=some (bif vdB l then(smallestD l,true) else(⟨[],[]⟩,false)):=by
 unfold impl_SmallestDecomposition
 rw[ground_loop hok ht]
 unfold vdB
 cases hb:(l.all gndT&&(List.range l.length).all (dif l))
 ·rw[Bool.and_false]; rfl
 rw[cond_true,within_eq,ai,Bool.and_true]
 cases hi:inR (l.length:Int) 1 6
 ·rfl
 have h:Vd l:=vdB_iff.1 (by unfold vdB; rw[hi,hb]; rfl)
 have h6:=h.six
 obtain⟨t1,t2⟩:=h.two
 rw[cond_true,cond_true,copyG h.gd (by omega),ai,groups_eq h,ai]
 have ea:allG l 0 (2 ^ l.length)=allK l:=by
  have:=allG_one l (2 ^ l.length-1)
  rwa [show 2 ^ l.length-1+1=2 ^ l.length by omega] at this
 have hal:(allK l).length≤2 ^ l.length-1:=allG_len l 1 (2 ^ l.length-1)
 rw[ea]
 simp only[forN_idx]
 rw[forL_map]
 obtain⟨r,r1,r2,r3⟩:=keys_forL (ρ:=Dt×Bool) (all:=allK l) (f:=stepI l) (P:=BOk l) (body:=fun i g s12=>
  aa (slc ((allK l).map toG) (0:Int) (i:Int)) fun v59=>
  aa (slices_ContainsFunc_Simpl_grouped_impl_grouped v59 (fun y0=>impl_SmallestDecomposition_1 y0 (toG g))) fun v61=>
  bif v61 then
   some (.nx (s12.1,s12.2))
  else
   thenL (ρ:=(Flow (Dt×Bool) ((List Tt)×(List Tt)))) (σ:=(List ct)) (forL (fun _ v67 s18=>
    aa (impl_SmallestDecomposition_1 v67 (toG g)) fun v71=>
    bif v71 then
     aa (app s18 ([(ct.mk v67.pattern v67.bits)])) fun v79=>
     some (.nx v79)
    else
     some (.nx s18)) ((allK l).map toG) 0 ([])) fun s18=>
   thenL (ρ:=(Flow (Dt×Bool) ((List Tt)×(List Tt)))) (σ:=(List ct)) (forL (fun i24 v86 s24=>
    aa (shl .i64 (1:Int) (i24:Int)) fun v91=>
    aa (app s24 ([(ct.mk v86 v91)])) fun v94=>
    some (.nx v94)) l 0 s18) fun s24=>
   aa (impl_copyTerms (toG g).instances) fun v98=>
   aa (shl .i64 (1:Int) (l.length:Int)) fun v103=>
   aa (impl_cover s24 (IntKind.i64.wrap (v103-(1:Int)))) fun v105=>
   thenL (ρ:=(Flow (Dt×Bool) ((List Tt)×(List Tt)))) (σ:=(List Tt)) (forL (fun i30 v109 s30=>
    aa (idx v105 (i30:Int)) fun v110=>
    aa (idx s24 v110) fun v115=>
    aa (idx s24 v110) fun v117=>
    aa (impl_copyTerm v117.pattern) fun v118=>
    aa (app s30 ([v118])) fun v120=>
    some (.nx v120)) v105 0 ([])) fun s30=>
   bif decide ((IntKind.i64.wrap ((s30.length:Int)+(v98.length:Int)))<(IntKind.i64.wrap ((s12.1.length:Int)+(s12.2.length:Int)))) then
    some (.nx (s30,v98))
   else
    some (.nx (s12.1,s12.2))) (fun s g hg hs=>stepI_ok h hs (key_gd h hg).1) (fun p g q s hall hs=>by
  have hlp:p.length≤(allK l).length:=by rw[hall]; simp
  have hgm:g∈allK l:=by rw[hall]; simp
  obtain⟨kg,kl⟩:=key_gd h hgm
  have es:slc ((allK l).map toG) 0 (p.length:Int)=some (p.map toG):=by
   rw[slc_take _ (by rw[au]; exact hlp),← List.map_take,hall,List.take_left]
  have ec:slices_ContainsFunc_Simpl_grouped_impl_grouped (p.map toG) (fun y0=>impl_SmallestDecomposition_1 y0 (toG g))=some (p.any fun a=>same a.1 g.1):=by
   unfold slices_ContainsFunc_Simpl_grouped_impl_grouped slices_IndexFunc_Simpl_grouped_impl_grouped
   have:=find_list (f:=fun y0=>impl_SmallestDecomposition_1 y0 (toG g)) (p:=fun y=>same y.instances g.1) (p.map toG) (fun y hy=>by
    obtain⟨a,_,rfl⟩:=List.mem_map.1 hy
    rw[sd1_eq]; rfl)
   rw[List.any_map] at this
   exact this
  rw[es,ai,ec,ai]
  by_cases hex:∃ a∈p,a.1=g.1
  ·rw[if_pos hex]
   obtain⟨a,ha,e⟩:=hex
   rw[show(p.any fun a=>same a.1 g.1)=true from List.any_eq_true.2 ⟨a,ha,same_iff.2 e⟩]; rfl
  ·rw[if_neg hex,show(p.any fun a=>same a.1 g.1)=false by
    rw[List.any_eq_false]; exact fun a ha q=>hex ⟨a,ha,same_iff.1 q⟩,cond_false]
   rw[filt_forL (k:=g.1) (fun i a u hu=>by
    rw[sd1_eq,ai]
    cases same a.1 g.1
    ·rfl
    ·rw[cond_true,app_one _ _ (by omega)]; rfl) (allK l) 0 [] (by simp; omega),thenL_inr,bC]
   have inner:=for_iter (ρ:=(Flow (Dt×Bool) ((List Tt)×(List Tt)))) (f:=fun (i24:Nat) (s24:(List ct))=>
    aa (idx l (i24:Int)) fun v86=>
    aa (shl .i64 (1:Int) (i24:Int)) fun v91=>
    aa (app s24 ([(ct.mk v86 v91)])) fun v94=>
    some (.nx v94)) (fun q=>(rowS (allK l) g.1++(singles l).take q).map toK) l.length 0 (fun q _ hq=>by
    rw[Nat.zero_add] at hq
    have:=rowS_len (allK l) g.1
    rw[idx_getD hq,ai,shl_2 (by omega),ai,app_one _ _ (by rw[au,aQ,List.length_take]; omega),ai,singles_take hq,← aV,bt (l₁:=rowS (allK l) g.1++(singles l).take q)]
    rfl)
   simp only[forN_idx] at inner
   rw[Nat.zero_add,show(singles l).take l.length=singles l by rw[← singles_len,List.take_length],List.take_zero,bw] at inner
   have hcl:=cands_len h g.1
   have hfew:=cands_few h g.1
   have w1:IntKind.i64.wrap (((2 ^ l.length:Nat):Int)-1)=((2 ^ l.length-1:Nat):Int):=by rw[wrap64 (by omega) (by omega)]; omega
   refine(congrArg (fun z=>thenL z _) inner).trans ?_
   rw[thenL_inr]
   show(aa (impl_copyTerms g.1) fun v98=>_)=_
   rw[copyG kg (by omega),ai,shl_2 (by omega),ai,w1]
   show(aa (impl_cover ((cands l g.1).map toK) ((2 ^ l.length-1:Nat):Int)) fun v105=>_)=_
   rw[cover_eq (full:=2 ^ l.length-1) (by omega) (by omega) (toK_cov _) (fun c hc=>or_all (cands_lt h g.1 c hc)) (by rw[au]; omega) (by omega),ai]
   have hsl:(selS (2 ^ l.length-1) (cvS (cands l g.1)) 0 0).length≤69:=by rw[selS_len (by omega)]; exact hfew
   have pick:=for_iter (ρ:=(Flow (Dt×Bool) ((List Tt)×(List Tt)))) (f:=fun (i30:Nat) (s30:(List Tt))=>
    aa (idx (natsI (selS (2 ^ l.length-1) (cvS (cands l g.1)) 0 0)) (i30:Int)) fun v109=>
    aa (idx (natsI (selS (2 ^ l.length-1) (cvS (cands l g.1)) 0 0)) (i30:Int)) fun v110=>
    aa (idx ((cands l g.1).map toK) v110) fun v115=>
    aa (idx ((cands l g.1).map toK) v110) fun v117=>
    aa (impl_copyTerm v117.pattern) fun v118=>
    aa (app s30 ([v118])) fun v120=>
    some (.nx v120)) (fun q=>(selP l g.1).take q) (natsI (selS (2 ^ l.length-1) (cvS (cands l g.1)) 0 0)).length 0 (fun q _ hq=>by
    rw[Nat.zero_add,natsI_len] at hq
    have hm:(selS (2 ^ l.length-1) (cvS (cands l g.1)) 0 0).getD q default∈selS (2 ^ l.length-1) (cvS (cands l g.1)) 0 0:=getD_mem hq
    have hlt:(selS (2 ^ l.length-1) (cvS (cands l g.1)) 0 0).getD q default<(cands l g.1).length:=by
     have:=selS_lt _ hm
     have e:(cvS (cands l g.1)).length=(cands l g.1).length:=by unfold cvS; exact au ..
     omega
    have e1:idx (natsI (selS (2 ^ l.length-1) (cvS (cands l g.1)) 0 0)) (q:Int)=some (((selS (2 ^ l.length-1) (cvS (cands l g.1)) 0 0).getD q default:Nat):Int):=idx_map (fun (n:Nat)=>(n:Int)) _ hq
    have e2:(selP l g.1).take (q+1)=(selP l g.1).take q++[((cands l g.1).getD ((selS (2 ^ l.length-1) (cvS (cands l g.1)) 0 0).getD q default) default).1]:=by
     unfold selP
     rw[take_succ_getD (by rw[au]; exact hq)]
     congr 2
     simp[List.getD,hq]
    have hgd:=cands_good h g.1 _ (getD_mem hlt)
    rw[e1,ai,ai,idx_map toK _ hlt,ai,ai]
    show(aa (impl_copyTerm ((cands l g.1).getD ((selS (2 ^ l.length-1) (cvS (cands l g.1)) 0 0).getD q default) default).1) fun v118=>_)=_
    rw[copyT _ (by have:=(goodT_parts hgd).2.1; omega),ai,app_one _ _ (by rw[List.length_take]; omega),ai,e2])
   simp only[forN_idx] at pick
   rw[Nat.zero_add,natsI_len,List.take_zero,show(selP l g.1).take (selS (2 ^ l.length-1) (cvS (cands l g.1)) 0 0).length=selP l g.1 from List.take_of_length_le (by unfold selP; rw[au]; exact aP _)] at pick
   refine(congrArg (fun z=>thenL z _) pick).trans ?_
   have hp:=selP_len h g.1
   have hsn:=hs.len
   rw[thenL_inr]
   unfold stepI
   rw[wrap64 (by omega) (by omega),wrap64 (by omega) (by omega)]
   by_cases hc:(selP l g.1).length+g.1.length<s.1.length+s.2.length
   ·rw[decide_eq_true (by omega),if_pos hc]; rfl
   ·rw[decide_eq_false (by omega),if_neg hc]; rfl) (allK l) [] [] (l,[]) rfl Keys.nil (start_ok h)
 rw[bC] at r1
 have eb:bestI l=r.foldl (stepI l) (l,[]):=by unfold bestI; rw[r1]
 refine(congrArg (fun z=>thenL z _) r2).trans ?_
 have hb:=best_ok h
 rw[thenL_inr,← eb,sort_nodup hb.gd hb.nd (by have:=hb.len; omega),ai]
 rfl
end
section
/-! ### the reference's side -/
noncomputable def specS(s:List Tt×List Tt):List Tt×List Tt:=(putAllT s.1 [],s.2)
theorem copySG{l:List Tt}(h:Gd l)(hl:l.length≤1000):spec_l22Copy l=some l:=copy_spec (fun t ht=>by have:=(goodT_parts (h t ht)).2.1; omega) (by omega)
theorem put_gd'{xs:List Tt}(h:Gd xs):Gd (putAllT xs []):=fun a ha=>h a (by have:=(putAllT_mem a xs []).1 ha; simpa using this)
theorem small_spec{l:List Tt}(h:Vd l):spec_l22Smallest l=some (smallestD l):=by
 have h6:=h.six
 obtain⟨t1,t2⟩:=h.two
 unfold spec_l22Smallest
 simp only[forN_idx]
 rw[put_loopA l 0 [] h.gd (fun a ha=>by simp at ha) (by simp; omega),thenL_inr,rows_eq h,ai]
 have eR:((rowsOf (allG l 1 (2 ^ l.length-1))).map (extR l)).map toRow=(fkS [] (allK l)).map fun k=>toRow (k,cands l k):=by
  rw[rowsOf_eq,bL,bL]; rfl
 rw[eR]
 have hks:=keys_gd h
 have wl:IntKind.u64.wrap (l.length:Int)=(l.length:Int):=wrapU (by omega)
 have w1:IntKind.i64.wrap (((2 ^ l.length:Nat):Int)-1)=((2 ^ l.length-1:Nat):Int):=by rw[wrap64 (by omega) (by omega)]; omega
 have loop:=for_iter (ρ:=Dt) (f:=fun (i8:Nat) (s8:(List Tt)×(List Tt))=>
  aa (idx ((fkS [] (allK l)).map fun k=>toRow (k,cands l k)) (i8:Int)) fun v34=>
  aa (shl .i64 (1:Int) (IntKind.u64.wrap (l.length:Int))) fun v39=>
  aa (spec_l22Select v34 (IntKind.i64.wrap (v39-(1:Int)))) fun v41=>
  aa (idx ((fkS [] (allK l)).map fun k=>toRow (k,cands l k)) (i8:Int)) fun v44=>
  bif decide ((IntKind.i64.wrap ((v41.length:Int)+(v44.instances.length:Int)))<(IntKind.i64.wrap ((s8.1.length:Int)+(s8.2.length:Int)))) then
   some (.nx (v41,v44.instances))
  else
   some (.nx (s8.1,s8.2))) (fun i=>specS (((fkS [] (allK l)).take i).foldl (stepI l) (l,[]))) ((fkS [] (allK l)).map fun k=>toRow (k,cands l k)).length 0 (fun i _ hi=>by
  rw[Nat.zero_add,au] at hi
  have hm:(fkS [] (allK l)).getD i default∈fkS [] (allK l):=getD_mem hi
  obtain⟨kg,kl⟩:=hks _ hm
  have hs:BOk l (((fkS [] (allK l)).take i).foldl (stepI l) (l,[])):=fold_ok h _ _ (fun k hk=>(hks k (List.mem_of_mem_take hk)).1) (start_ok h)
  have hsn:=hs.len
  rw[take_succ_getD hi,List.foldl_append]
  revert hs hsn
  generalize ((fkS [] (allK l)).take i).foldl (stepI l) (l,[])=s
  intro hs hsn
  have eat:=idx_map (fun k=>toRow (k,cands l k)) (fkS [] (allK l)) hi
  revert eat kg kl
  generalize (fkS [] (allK l)).getD i default=k
  intro kg kl eat
  have hp:=selP_len h k
  have hcl:=cands_len h k
  have hpn:=put_len (selP_nodup h k)
  have hsel:=select_eq (k:=l.length) (by omega) (toRow (k,cands l k)) (cv:=cvS (cands l k)) (toC_cov _) (cands_lt h k) (by show((cands l k).map toC).length≤_; rw[au]; omega) (fun c hc=>by
   obtain⟨p,hp,rfl⟩:=List.mem_map.1 hc
   exact cands_good h k p hp)
  have esel:((selS (2 ^ l.length-1) (cvS (cands l k)) 0 0).map fun j=>((toRow (k,cands l k)).candidates.getD j default).pattern)=selP l k:=by
   unfold selP
   refine List.map_congr_left fun j hj=>?_
   have hlt:j<(cands l k).length:=by
    have:=selS_lt j hj
    have e:(cvS (cands l k)).length=(cands l k).length:=by unfold cvS; exact au ..
    omega
   show(((cands l k).map toC).getD j default).pattern=_
   rw[List.getD_eq_getElem?_getD,List.getElem?_map,List.getD_eq_getElem?_getD,List.getElem?_eq_getElem hlt]; rfl
  rw[esel] at hsel
  have e1:=put_len hs.nd
  rw[eat,ai,wl,shl_2 (by omega),ai,w1,hsel,ai,ai]
  show(bif decide (IntKind.i64.wrap (((putAllT (selP l k) []).length:Int)+(k.length:Int))<IntKind.i64.wrap (((putAllT s.1 []).length:Int)+(s.2.length:Int))) then some (Flow.nx (putAllT (selP l k) [],k)) else some (Flow.nx (putAllT s.1 [],s.2)))=some (Flow.nx (specS (stepI l s k)))
  unfold stepI
  rw[wrap64 (by omega) (by omega),wrap64 (by omega) (by omega)]
  by_cases hc:(selP l k).length+k.length<s.1.length+s.2.length
  ·rw[decide_eq_true (by omega),if_pos hc]; rfl
  ·rw[decide_eq_false (by omega),if_neg hc]; rfl)
 simp only[forN_idx] at loop
 rw[Nat.zero_add,au,List.take_zero,List.take_length] at loop
 refine(congrArg (fun z=>thenL z _) loop).trans ?_
 have hb:=best_ok h
 have hbl:=hb.len
 have e1:=put_len hb.nd
 rw[thenL_inr]
 show(aa (spec_l22Copy (putAllT (bestI l).1 [])) fun v66=>aa (spec_l22Copy (bestI l).2) fun v69=>some (Dt.mk v66 v69))=_
 rw[copySG (put_gd' hb.gd) (by omega),ai,copySG hb.gi (by omega),ai]
 rfl
/-- The answer of both sides. -/
noncomputable def smallR(l:List Tt):Dt×Bool:=bif vdB l then(smallestD l,true) else(⟨[],[]⟩,false)
theorem smallest_spec{l:List Tt}(hok:LOk Tt.Ok l)(ht:∀ a∈l,a.tot≤1048576):spec_SmallestDecomposition l=some (smallR l):=by
 unfold spec_SmallestDecomposition smallR
 rw[different_eq hok ht,ai]
 cases hv:vdB l
 ·rfl
 ·rw[cond_true,small_spec (vdB_iff.1 hv)]; rfl
noncomputable def gainR(l:List Tt):Int×Bool:=bif vdB l then(IntKind.i64.wrap (IntKind.i64.wrap ((l.length:Int)-((smallestD l).Patterns.length:Int))-((smallestD l).Instances.length:Int)),true) else(0,false)
theorem gain_impl{l:List Tt}(hok:LOk Tt.Ok l)(ht:∀ a∈l,a.tot≤1048576):impl_SizeGain l=some (gainR l):=by
 unfold impl_SizeGain gainR
 rw[small_impl hok ht,ai]
 cases vdB l<;>rfl
end
end Go.Proofs.YtnjgpibbjiofpaaGreat
