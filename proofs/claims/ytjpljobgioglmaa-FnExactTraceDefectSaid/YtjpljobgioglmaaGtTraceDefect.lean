/- Lemmas of the proof; each says what it shows. -/
import Derived.Test.YtjpljobgioglmaaGp
import Derived.Test.YtjpljobgioglmaaAvS
import Derived.Test.YtjpljobgioglmaaGm
import Derived.Test.YtjpljobgioglmaaAvFt
import Derived.Test.YtjpljobgioglmaaGmk
set_option linter.unusedSimpArgs false
set_option linter.unusedVariables false
set_option linter.defProp false
namespace Go.Proofs.Ytjpljobgioglmaa
open Go.Av
open Bool renaming and_eq_true→aA
open List renaming mem_append→aM,mem_cons→bi,length_append→aH,length_cons→a5,all_eq_true→a7
open Nat renaming le_refl→aV
open Option renaming bind_some→aq,bind→ae
section
theorem within_eq(a lo hi:Int):impl_within a lo hi=some (inR a lo hi):=cond_inR a lo hi
theorem l1In_eq(a lo hi:Int):spec_l1In a lo hi=some (inR a lo hi):=cond_inR a lo hi
def cmpI(a b:Int):Int:=if a<b then -1 else if b<a then 1 else 0
theorem isNaN_eq(a:Int):cmp_isNaN_int a=some false:=by simp[cmp_isNaN_int]
theorem Compare_eq(a b:Int):cmp_Compare_int a b=some (cmpI a b):=by
 simp only[cmp_Compare_int,isNaN_eq,aq,cond_false]
 unfold cmpI
 by_cases h:a<b
 ·simp[h]
 ·by_cases h':b<a<;>simp[h,h']
theorem Or2_eq(a b:Int):cmp_Or_int [a,b]=some (if a=0 then b else a):=by
 unfold cmp_Or_int
 simp only[forN_idx]
 by_cases h:a=0
 ·rw[forL_nx (s':=()) (by simp[h])]
  by_cases h':b=0
  ·rw[forL_nx (s':=()) (by simp[h'])]; simp[forL,thenL_inr,h,h']
  ·rw[forL_rt (r:=b) (by simp[h']),thenL_inl]; simp[h]
 ·rw[forL_rt (r:=a) (by simp[h]),thenL_inl]; simp[h]
end
section
def cmpE(a b:Sa):Int:=if cmpI a.From b.From=0 then cmpI a.To b.To else cmpI a.From b.From
theorem compareEdges_eq(a b:Sa):impl_compareEdges a b=some (cmpE a b):=by
 simp only[impl_compareEdges,Compare_eq,Or2_eq,aq,cmpE]
def edgeOk(e:Sa):Bool:=inR e.From 0 3&&inR e.To 0 3
def edgeC(xs:List Sa)(i:Nat):Bool:=edgeOk (xs.getD i default)&&(decide (i=0)||decide (cmpE (xs.getD (i-1) default) (xs.getD i default)<0))
def validG(g:Sb):Bool:=inR g.Source 0 5&&inR g.Target 0 5&&(List.range g.Edges.length).all (edgeC g.Edges)
theorem cmpE_key{p e:Sa}(hp:edgeOk p=true)(he:edgeOk e=true):(0≤cmpE p e)↔(wr (wr (e.From*4)+e.To)≤wr (wr (p.From*4)+p.To)):=by
 simp only[edgeOk,aA,inR_iff] at hp he
 rw[wr64 (n:=e.From*4) (by omega) (by omega),wr64 (n:=p.From*4) (by omega) (by omega),wr64 (n:=e.From*4+e.To) (by omega) (by omega),wr64 (n:=p.From*4+p.To) (by omega) (by omega)]
 unfold cmpE cmpI
 repeat' split
 all_goals omega
theorem implV(g:Sb)(hb:Big g.Edges.length):impl_IsValidGraph g=some (validG g):=by
 unfold impl_IsValidGraph
 rw[forN_all (edgeC g.Edges)]
 ·simp only[within_eq,aq,validG]
  cases inR g.Source 0 5<;>cases inR g.Target 0 5<;>cases (List.range g.Edges.length).all (edgeC g.Edges)<;>rfl
 ·intro j hj _
  simp only[idx_getD hj,within_eq,compareEdges_eq,aq]
  simp only[edgeC,edgeOk]
  by_cases h0:j=0
  ·subst h0
   cases inR (g.Edges.getD 0 default).From 0 3<;>cases inR (g.Edges.getD 0 default).To 0 3<;>simp
  ·have h1:(0:Int)<(j:Int):=by omega
   simp only[idx_pred hj (by omega) (by simp only[Big] at hb; omega),aq,decide_eq_true h1,cond_true,h0,decide_false,Bool.false_or]
   cases inR (g.Edges.getD j default).From 0 3<;>cases inR (g.Edges.getD j default).To 0 3<;>simp only[cond_true,cond_false,Bool.true_and,Bool.false_and,Bool.and_self,Bool.and_false]
   by_cases h2:cmpE (g.Edges.getD (j-1) default) (g.Edges.getD j default)<0
   ·have:¬ 0≤cmpE (g.Edges.getD (j-1) default) (g.Edges.getD j default):=by omega
    rw[decide_eq_true h2,decide_eq_false this]; rfl
   ·have:0≤cmpE (g.Edges.getD (j-1) default) (g.Edges.getD j default):=by omega
    rw[decide_eq_false h2,decide_eq_true this]; rfl
theorem specG(g:Sb)(hb:Big g.Edges.length):spec_l24Graph g=some (validG g):=by
 unfold spec_l24Graph
 rw[forN_all (edgeC g.Edges)]
 ·simp only[l1In_eq,aq,validG]
  cases inR g.Source 0 5<;>cases inR g.Target 0 5<;>cases (List.range g.Edges.length).all (edgeC g.Edges)<;>rfl
 ·intro j hj hk
  simp only[idx_getD hj,l1In_eq,aq]
  simp only[edgeC]
  by_cases h0:j=0
  ·subst h0
   unfold edgeOk
   cases inR (g.Edges.getD 0 default).From 0 3<;>cases inR (g.Edges.getD 0 default).To 0 3<;>simp
  ·have h1:(0:Int)<(j:Int):=by omega
   have hp:edgeOk (g.Edges.getD (j-1) default)=true:=by
    have:=hk (j-1) (by omega)
    simp only[edgeC,aA] at this
    exact this.1
   simp only[idx_pred hj (by omega) (by simp only[Big] at hb; omega),aq,decide_eq_true h1,cond_true,h0,decide_false,Bool.false_or]
   by_cases he:edgeOk (g.Edges.getD j default)=true
   ·have key:=cmpE_key hp he
    rw[he,Bool.true_and]
    simp only[edgeOk,aA] at he
    rw[he.1,he.2,cond_true,cond_true]
    by_cases h2:cmpE (g.Edges.getD (j-1) default) (g.Edges.getD j default)<0
    ·have h3:¬ (wr (wr ((g.Edges.getD j default).From*4)+(g.Edges.getD j default).To)≤wr (wr ((g.Edges.getD (j-1) default).From*4)+(g.Edges.getD (j-1) default).To)):=by rw[← key]; omega
     rw[decide_eq_false h3,decide_eq_true h2]; rfl
    ·have h3:=key.1 (by omega)
     rw[decide_eq_true h3,decide_eq_false h2]; rfl
   ·have he':edgeOk (g.Edges.getD j default)=false:=by simpa using he
    rw[he',Bool.false_and]
    unfold edgeOk at he'
    cases h3:inR (g.Edges.getD j default).From 0 3
    ·rfl
    ·rw[h3,Bool.true_and] at he'
     rw[he']; rfl
end
section
/-! Edges in order, by a table of levels -/
def code(e:Sa):Nat:=e.From.toNat*4+e.To.toNat
theorem code_ok{e:Sa}(h:edgeOk e=true):(0≤e.From∧e.From≤3)∧0≤e.To∧e.To≤3:=by
 simpa only[edgeOk,aA,inR_iff] using h
theorem code_inj{a b:Sa}(ha:edgeOk a=true)(hb:edgeOk b=true)(h:code a=code b):a.From=b.From∧a.To=b.To:=by
 have h1:=code_ok ha
 have h2:=code_ok hb
 unfold code at h
 omega
theorem edge_ext{a b:Sa}(h1:a.From=b.From)(h2:a.To=b.To)(h3:a.Strict=b.Strict):a=b:=by
 cases a; cases b; simp only at h1 h2 h3; subst h1 h2 h3; rfl
def Rep(s:List Sa)(f:Nat→Nat):Prop:=s.Pairwise (fun a b=>code a<code b)∧(∀ k,f k≤2)∧∀ e,e∈s↔edgeOk e=true∧0<f (code e)∧e.Strict=decide (f (code e)=2)
theorem rise_unique:∀ {s t:List Sa},s.Pairwise (fun a b=>code a<code b)→t.Pairwise (fun a b=>code a<code b)→(∀ e,e∈s↔e∈t)→s=t
 | [],[],_,_,_=>rfl
 | [],b::t,_,_,h=>by have:=(h b).2 (by simp); cases this
 | a::s,[],_,_,h=>by have:=(h a).1 (by simp); cases this
 | a::s,b::t,hs,ht,h=>by
  rw[List.pairwise_cons] at hs ht
  have e:a=b:=by
   rcases List.mem_cons.1 ((h a).1 (by simp)) with e | ha
   ·exact e
   rcases List.mem_cons.1 ((h b).2 (by simp)) with e | hb
   ·exact e.symm
   have h1:=ht.1 a ha
   have h2:=hs.1 b hb
   omega
  subst e
  congr 1
  refine rise_unique hs.2 ht.2 (fun e=>⟨fun he=>?_,fun he=>?_⟩)
  ·rcases List.mem_cons.1 ((h e).1 (by simp[he])) with rfl | h'
   ·have:=hs.1 e he; omega
   ·exact h'
  ·rcases List.mem_cons.1 ((h e).2 (by simp[he])) with rfl | h'
   ·have:=ht.1 e he; omega
   ·exact h'
theorem Rep.unique{s t:List Sa}{f:Nat→Nat}(hs:Rep s f)(ht:Rep t f):s=t:=rise_unique hs.1 ht.1 (fun e=>by rw[hs.2.2,ht.2.2])
theorem Rep.congr{s:List Sa}{f g:Nat→Nat}(hs:Rep s f)(h:∀ k,k<16→f k=g k)(hg:∀ k,g k≤2):Rep s g:=by
 refine⟨hs.1,hg,fun e=>?_⟩
 rw[hs.2.2]
 refine and_congr_right (fun he=>?_)
 rw[h (code e) (by have:=code_ok he; unfold code; omega)]
theorem Rep.nil:Rep [] (fun _=>0):=⟨List.Pairwise.nil,fun _=>Nat.zero_le _,fun e=>by simp⟩
def lv(b:Bool):Nat:=if b then 2 else 1
def updM(f:Nat→Nat)(c l:Nat):Nat→Nat:=fun k=>if k=c then max (f k) l else f k
theorem updM_le{f:Nat→Nat}(h:∀ k,f k≤2)(c:Nat)(b:Bool)(k:Nat):updM f c (lv b) k≤2:=by
 unfold updM lv
 have:=h k
 split<;>cases b<;>simp<;>omega
theorem Rep.new{pre suf:List Sa}{f:Nat→Nat}{x:Sa}(hr:Rep (pre++suf) f)(hx:edgeOk x=true)(h1:∀ e∈pre,code e<code x)(h2:∀ e∈suf,code x<code e):Rep (pre++[x]++suf) (updM f (code x) (lv x.Strict)):=by
 obtain⟨p1,p2,p3⟩:=hr
 have h0:f (code x)=0:=by
  have:=p3 ⟨x.From,x.To,decide (f (code x)=2)⟩
  have hc:code ⟨x.From,x.To,decide (f (code x)=2)⟩=code x:=rfl
  rw[hc] at this
  have hnot:¬ (⟨x.From,x.To,decide (f (code x)=2)⟩:Sa)∈pre++suf:=fun hm=>by
   rcases List.mem_append.1 hm with hm | hm
   ·have:=h1 _ hm; rw[hc] at this; omega
   ·have:=h2 _ hm; rw[hc] at this; omega
  rw[this] at hnot
  have hpos:¬ 0<f (code x):=fun hp=>hnot ⟨hx,hp,rfl⟩
  omega
 refine⟨?_,updM_le p2 _ _,fun e=>?_⟩
 ·rw[List.pairwise_append] at p1 ⊢
  refine⟨List.pairwise_append.2 ⟨p1.1,List.pairwise_singleton _ _,fun a ha b hb=>?_⟩,p1.2.1,fun a ha b hb=>?_⟩
  ·rw[List.mem_singleton] at hb; subst hb; exact h1 a ha
  ·rcases List.mem_append.1 ha with ha | ha
   ·exact p1.2.2 a ha b hb
   ·rw[List.mem_singleton] at ha; subst ha; exact h2 b hb
 ·by_cases hc:code e=code x
  ·have hns:¬ (e∈pre∨e∈suf):=fun hm=>by
    rcases hm with hm | hm
    ·have:=h1 _ hm; omega
    ·have:=h2 _ hm; omega
   have:e∈pre++[x]++suf↔e=x:=by
    simp only[aM,List.mem_singleton]
    constructor
    ·rintro ((h | h) | h)
     ·exact absurd (.inl h) hns
     ·exact h
     ·exact absurd (.inr h) hns
    ·rintro h; exact .inl (.inr h)
   rw[this]
   unfold updM
   rw[if_pos hc,hc,h0]
   constructor
   ·rintro rfl; refine⟨hx,?_,?_⟩<;>cases e.Strict<;>decide
   ·rintro ⟨q1,_,q3⟩
    obtain⟨q4,q5⟩:=code_inj q1 hx hc
    refine edge_ext q4 q5 (q3.trans ?_)
    cases x.Strict<;>decide
  ·have:e∈pre++[x]++suf↔e∈pre++suf:=by
    simp only[aM,List.mem_singleton]
    constructor
    ·rintro ((h | h) | h)
     ·exact .inl h
     ·subst h; exact absurd rfl hc
     ·exact .inr h
    ·rintro (h | h)
     ·exact .inl (.inl h)
     ·exact .inr h
   rw[this,p3]
   unfold updM
   rw[if_neg hc]
theorem Rep.set{pre suf:List Sa}{f:Nat→Nat}{y:Sa}{b:Bool}(hr:Rep (pre++y::suf) f):Rep (pre++⟨y.From,y.To,y.Strict||b⟩::suf) (updM f (code y) (lv b)):=by
 obtain⟨p1,p2,p3⟩:=hr
 have hy:=(p3 y).1 (by simp)
 have hc0:code ⟨y.From,y.To,y.Strict||b⟩=code y:=rfl
 have hp:=p1
 rw[List.pairwise_append,List.pairwise_cons] at p1
 refine⟨?_,updM_le p2 _ _,fun e=>?_⟩
 ·rw[List.pairwise_append,List.pairwise_cons]
  refine⟨p1.1,⟨fun a ha=>?_,p1.2.1.2⟩,fun a ha c hc=>?_⟩
  ·rw[hc0]; exact p1.2.1.1 a ha
  ·rcases List.mem_cons.1 hc with rfl | hc
   ·rw[hc0]; exact p1.2.2 a ha y (by simp)
   ·exact p1.2.2 a ha c (by simp[hc])
 ·by_cases hc:code e=code y
  ·have hns:¬ (e∈pre∨e∈suf):=fun hm=>by
    rcases hm with hm | hm
    ·have:=p1.2.2 e hm y (by simp); omega
    ·have:=p1.2.1.1 e hm; omega
   have:e∈pre++⟨y.From,y.To,y.Strict||b⟩::suf↔e=⟨y.From,y.To,y.Strict||b⟩:=by
    simp only[aM,bi]
    constructor
    ·rintro (h | h | h)
     ·exact absurd (.inl h) hns
     ·exact h
     ·exact absurd (.inr h) hns
    ·rintro h; exact .inr (.inl h)
   rw[this]
   unfold updM
   rw[if_pos hc,hc]
   have h2:=p2 (code y)
   have hpos:=hy.2.1
   have key:(y.Strict||b)=decide (max (f (code y)) (lv b)=2):=by
    rw[hy.2.2]
    unfold lv
    cases b
    ·rw[Bool.or_false]; exact decide_eq_decide.2 (by simp; omega)
    ·rw[Bool.or_true]; exact(decide_eq_true (by simp; omega)).symm
   constructor
   ·rintro rfl; exact⟨hy.1,by omega,key⟩
   ·rintro ⟨q1,_,q3⟩
    obtain⟨q4,q5⟩:=code_inj q1 hy.1 hc
    exact edge_ext q4 q5 (q3.trans key.symm)
  ·have:e∈pre++⟨y.From,y.To,y.Strict||b⟩::suf↔e∈pre++y::suf:=by
    simp only[aM,bi]
    constructor
    ·rintro (h | h | h)
     ·exact .inl h
     ·subst h; exact absurd rfl hc
     ·exact .inr (.inr h)
    ·rintro (h | h | h)
     ·exact .inl h
     ·subst h; exact absurd rfl hc
     ·exact .inr (.inr h)
   rw[this,p3]
   unfold updM
   rw[if_neg hc]
/-! impl: the search and one step -/
theorem cmpE_lt{a b:Sa}(ha:edgeOk a=true)(hb:edgeOk b=true):(cmpE a b<0↔code a<code b)∧(cmpE a b=0↔code a=code b):=by
 have h1:=code_ok ha
 have h2:=code_ok hb
 unfold cmpE cmpI code
 constructor<;>(repeat' split)<;>constructor<;>intro h<;>omega
theorem Rep.ok{s:List Sa}{f:Nat→Nat}(hr:Rep s f):∀ e∈s,edgeOk e=true:=fun e he=>((hr.2.2 e).1 he).1
theorem Rep.rise{s:List Sa}{f:Nat→Nat}(hr:Rep s f){i j:Nat}(hij:i<j)(hj:j<s.length):code (s.getD i default)<code (s.getD j default):=by
 have:=List.pairwise_iff_getElem.1 hr.1 i j (by omega) hj hij
 simpa[List.getD,hj,show i<s.length by omega] using this
theorem search_ok{s:List Sa}{f:Nat→Nat}(hr:Rep s f)(hlen:s.length≤1000){x:Sa}(hx:edgeOk x=true):
 ∃ p:Nat,p≤s.length∧slices_BinarySearchFunc_Simpl_SizeEdge_impl_SizeEdge_impl_SizeEdge s x (fun y0 y1=>impl_compareEdges y0 y1)=some ((p:Int),decide (p<s.length)&&decide (code (s.getD p default)=code x))∧
  (∀ k,k<p→code (s.getD k default)<code x)∧(∀ k,p≤k→k<s.length→code x≤code (s.getD k default)):=by
 have hok:∀ i,i<s.length→edgeOk (s.getD i default)=true:=fun i hi=>hr.ok _ (getD_mem hi)
 unfold slices_BinarySearchFunc_Simpl_SizeEdge_impl_SizeEdge_impl_SizeEdge
 obtain⟨p,g1,g2,g3,g4⟩:=bs_loop (ρ:=Int×Bool) (q:=fun i=>decide (code (s.getD i default)<code x)) (N:=s.length) (by omega) (fun i j h1 h2 h3=>by
  have:=hr.rise h1 h2
  rw[decide_eq_true_iff] at h3 ⊢
  omega)
  (f:=fun s3=>bif decide (s3.1<s3.2) then
   ae (shr .u64 (IntKind.u64.wrap (IntKind.i64.wrap (s3.1+s3.2))) (1:Int)) fun v22=>
   ae (idx s (IntKind.i64.wrap v22)) fun v27=>
   ae (impl_compareEdges v27 x) fun v30=>
   bif decide (v30<(0:Int)) then
    some (.nx (IntKind.i64.wrap ((IntKind.i64.wrap v22)+(1:Int)),s3.2))
   else
    some (.nx (s3.1,IntKind.i64.wrap v22))
  else
   some (.br s3))
  (fun i j h1 h2=>by
   simp only
   rw[decide_eq_true (by omega),cond_true,bs_mid (by omega),aq]
   have e:IntKind.i64.wrap (((i+j) / 2:Nat):Int)=(((i+j) / 2:Nat):Int):=by rw[wrap64]<;>omega
   rw[e,idx_getD (by omega),aq,compareEdges_eq,aq]
   have e2:IntKind.i64.wrap ((((i+j) / 2:Nat):Int)+1)=(((i+j) / 2+1:Nat):Int):=by rw[wrap64]<;>omega
   rw[e2,show decide (cmpE (s.getD ((i+j) / 2) default) x<0)=decide (code (s.getD ((i+j) / 2) default)<code x) from decide_eq_decide.2 (cmpE_lt (hok _ (by omega)) hx).1]
   cases decide (code (s.getD ((i+j) / 2) default)<code x)<;>rfl)
  (fun i=>by simp only; rw[decide_eq_false (by omega)]; rfl)
 refine⟨p,g1,?_,fun k hk=>of_decide_eq_true (g3 k hk),fun k h1 h2=>by have:=of_decide_eq_false (g4 k h1 h2); omega⟩
 rw[g2,thenL_inr]
 by_cases hp:p<s.length
 ·simp only
  rw[decide_eq_true (show(p:Int)<(s.length:Int) by omega),cond_true,idx_getD hp,aq,decide_eq_true hp,Bool.true_and,compareEdges_eq,aq]
  rw[show decide (cmpE (s.getD p default) x=0)=decide (code (s.getD p default)=code x) from decide_eq_decide.2 (cmpE_lt (hok _ hp) hx).2]
 ·simp only
  rw[decide_eq_false (show ¬ (p:Int)<(s.length:Int) by omega),decide_eq_false hp]; rfl
noncomputable def stepI(s6:List Sa)(x:Sa):Option (List Sa):=
 ae (slices_BinarySearchFunc_Simpl_SizeEdge_impl_SizeEdge_impl_SizeEdge s6 x (fun y0 y1=>impl_compareEdges y0 y1)) fun v52=>
 bif v52.2 then
  ae (idx s6 v52.1) fun w7=>
  some (s6.set v52.1.toNat (Sa.mk w7.From w7.To (w7.Strict||x.Strict)))
 else
  slices_InsertE s6 v52.1 [x]
theorem stepI_ok{s:List Sa}{f:Nat→Nat}(hr:Rep s f)(hlen:s.length≤1000){x:Sa}(hx:edgeOk x=true):∃ s',stepI s x=some s'∧Rep s' (updM f (code x) (lv x.Strict))∧s'.length≤s.length+1:=by
 obtain⟨p,h1,h2,h3,h4⟩:=search_ok hr hlen hx
 unfold stepI
 rw[h2,aq]
 have hsp:s.take p++s.drop p=s:=List.take_append_drop p s
 have htake:∀ e∈s.take p,code e<code x:=fun e he=>by
  obtain⟨k,hk,rfl⟩:=List.mem_iff_getElem.1 he
  rw[List.length_take] at hk
  have:=h3 k (by omega)
  simpa[List.getD,show k<s.length by omega] using this
 by_cases hp:p<s.length
 ·have hdrop:s.drop p=s.getD p default::s.drop (p+1):=drop_getD hp
  by_cases hc:code (s.getD p default)=code x
  ·rw[decide_eq_true hp,decide_eq_true hc]
   simp only[Bool.and_self,cond_true]
   rw[idx_getD hp,aq,Int.toNat_natCast]
   refine⟨_,rfl,?_,by rw[List.length_set]; omega⟩
   rw[← hsp,hdrop] at hr
   have:=Rep.set (b:=x.Strict) hr
   rw[hc] at this
   have e:s.set p ⟨(s.getD p default).From,(s.getD p default).To,(s.getD p default).Strict||x.Strict⟩=s.take p++⟨(s.getD p default).From,(s.getD p default).To,(s.getD p default).Strict||x.Strict⟩::s.drop (p+1):=List.set_eq_take_append_cons_drop.trans (if_pos hp)
   rw[e]
   exact this
  ·rw[decide_eq_true hp,decide_eq_false hc]
   simp only[Bool.and_false,cond_false]
   unfold slices_InsertE
   rw[if_pos ⟨by omega,by omega,rfl,by omega⟩,Int.toNat_natCast]
   refine⟨_,rfl,?_,by simp only[aH,List.length_take,List.length_drop,a5,List.length_nil]; omega⟩
   refine Rep.new (by rw[hsp]; exact hr) hx htake (fun e he=>?_)
   obtain⟨k,hk,rfl⟩:=List.mem_iff_getElem.1 he
   rw[List.length_drop] at hk
   have g1:=h4 (p+k) (by omega) (by omega)
   have g2:s.getD (p+k) default=(s.drop p)[k]:=by simp[List.getD,show p+k<s.length by omega]
   rw[g2] at g1
   by_cases hk0:k=0
   ·subst hk0
    have g3:(s.drop p)[0]=s.getD p default:=by simp[List.getD,hp]
    rw[g3] at g1 ⊢
    omega
   ·have:=hr.rise (i:=p) (j:=p+k) (by omega) (by omega)
    rw[g2] at this
    have:=h4 p (aV _) hp
    omega
 ·have hpe:p=s.length:=by omega
  rw[decide_eq_false hp]
  simp only[Bool.false_and,cond_false]
  unfold slices_InsertE
  rw[if_pos ⟨by omega,by omega,rfl,by omega⟩,Int.toNat_natCast]
  refine⟨_,rfl,?_,by simp only[aH,List.length_take,List.length_drop,a5,List.length_nil]; omega⟩
  refine Rep.new (by rw[hsp]; exact hr) hx htake (fun e he=>?_)
  rw[List.drop_of_length_le (by omega)] at he
  cases he
theorem rise_len:∀ (s:List Sa) (lo:Nat),lo≤16→s.Pairwise (fun a b=>code a<code b)→(∀ e∈s,lo≤code e∧code e<16)→s.length+lo≤16
 | [],lo,h,_,_=>by simpa using h
 | a::s,lo,h,hp,hb=>by
  rw[List.pairwise_cons] at hp
  have ha:=hb a (by simp)
  have:=rise_len s (code a+1) (by omega) hp.2 (fun e he=>⟨hp.1 e he,(hb e (by simp[he])).2⟩)
  rw[a5]; omega
theorem Rep.len{s:List Sa}{f:Nat→Nat}(hr:Rep s f):s.length≤16:=by
 have:=rise_len s 0 (by omega) hr.1 (fun e he=>by have:=code_ok (hr.ok e he); unfold code; omega)
 omega
def midE(e g:Sa):Sa:=⟨e.From,g.To,e.Strict||g.Strict⟩
def stepF(e:Sa)(f:Nat→Nat)(g:Sa):Nat→Nat:=if e.To=g.From then updM f (code (midE e g)) (lv (e.Strict||g.Strict)) else f
theorem mid_ok{e g:Sa}(he:edgeOk e=true)(hg:edgeOk g=true):edgeOk (midE e g)=true:=by
 simp only[edgeOk,aA] at he hg ⊢
 exact⟨he.1,hg.2⟩
noncomputable def bodyI(e:Sa)(ρ:Type)(_:Nat)(g:Sa)(s:List Sa):Option (Flow ρ (List Sa)):=
 bif decide (e.To=g.From) then ae (stepI s (midE e g)) fun v=>some (.nx v) else some (.nx s)
theorem inner_fold(e:Sa)(he:edgeOk e=true)(ρ:Type):∀ (l:List Sa) (i:Nat) (s:List Sa) (f:Nat→Nat),Rep s f→(∀ g∈l,edgeOk g=true)→∃ s',forL (bodyI e ρ) l i s=some (.inr s')∧Rep s' (l.foldl (stepF e) f)
 | [],i,s,f,hr,_=>⟨s,rfl,hr⟩
 | g::l,i,s,f,hr,hl=>by
  rw[List.foldl_cons]
  by_cases h:e.To=g.From
  ·obtain⟨s',h1,h2,_⟩:=stepI_ok hr (by have:=hr.len; omega) (mid_ok he (hl g (by simp)))
   rw[forL_nx (s':=s') (by unfold bodyI; rw[decide_eq_true h,cond_true,h1]; rfl)]
   refine inner_fold e he ρ l (i+1) s' _ ?_ (fun b hb=>hl b (by simp[hb]))
   unfold stepF; rw[if_pos h]; exact h2
  ·rw[forL_nx (s':=s) (by unfold bodyI; rw[decide_eq_false h]; rfl)]
   refine inner_fold e he ρ l (i+1) s _ ?_ (fun b hb=>hl b (by simp[hb]))
   unfold stepF; rw[if_neg h]; exact hr
theorem outer_fold(E2:List Sa)(h2:∀ g∈E2,edgeOk g=true)(ρ:Type):∀ (l:List Sa) (i:Nat) (s:List Sa) (f:Nat→Nat),Rep s f→(∀ g∈l,edgeOk g=true)→
 ∃ s',forL (fun _ e s=>thenL (ρ:=Flow ρ (List Sa)) (forL (bodyI e _) E2 0 s) fun s=>some (.nx s)) l i s=some (.inr s')∧Rep s' (l.foldl (fun f e=>E2.foldl (stepF e) f) f)
 | [],i,s,f,hr,_=>⟨s,rfl,hr⟩
 | e::l,i,s,f,hr,hl=>by
  obtain⟨s',g1,g2⟩:=inner_fold e (hl e (by simp)) (Flow ρ (List Sa)) E2 0 s f hr h2
  rw[List.foldl_cons,forL_nx (s':=s') (by simp only[g1]; rfl)]
  exact outer_fold E2 h2 ρ l (i+1) s' _ g2 (fun b hb=>hl b (by simp[hb]))
theorem impl_compose_ok(a b:Sb)(ha:∀ e∈a.Edges,edgeOk e=true)(hb:∀ e∈b.Edges,edgeOk e=true):∃ s,impl_compose a b=some ⟨a.Source,b.Target,s⟩∧Rep s (a.Edges.foldl (fun f e=>b.Edges.foldl (stepF e) f) (fun _=>0)):=by
 obtain⟨s,h1,h2⟩:=outer_fold b.Edges hb Sb a.Edges 0 [] _ Rep.nil ha
 refine⟨s,?_,h2⟩
 unfold impl_compose
 rw[forN_forL _ (fun _ e s=>thenL (ρ:=Flow Sb (List Sa)) (forL (bodyI e _) b.Edges 0 s) fun s=>some (.nx s)) a.Edges 0 [] (fun j e s he=>?_),h1]
 ·rfl
 simp only[Nat.zero_add,idx_nat,he,aq]
 congr 1
 refine forN_forL _ _ b.Edges 0 s (fun k g s hg=>?_)
 simp only[Nat.zero_add,idx_nat,hg,aq]
 unfold bodyI
 cases decide (e.To=g.From)
 ·rfl
 have key:∀ x:Sa,(ae (slices_BinarySearchFunc_Simpl_SizeEdge_impl_SizeEdge_impl_SizeEdge s x (fun y0 y1=>impl_compareEdges y0 y1)) fun v52=>
  bif v52.2 then
   ae (idx s v52.1) fun v62=>
   ae (idx s v52.1) fun v64=>
   bif v64.Strict then
    ae (idx s v52.1) fun v69=>
    ae (idx s v52.1) fun w7=>
    some (.nx (s.set v52.1.toNat (Sa.mk w7.From w7.To true)))
   else
    ae (idx s v52.1) fun v69=>
    ae (idx s v52.1) fun w8=>
    some (.nx (s.set v52.1.toNat (Sa.mk w8.From w8.To x.Strict)))
  else
   ae (slices_InsertE s v52.1 [x]) fun v76=>
   some (.nx v76))=ae (stepI s x) fun v=>some (Flow.nx (ρ:=Flow Sb (List Sa)) v):=by
  intro x
  unfold stepI
  cases slices_BinarySearchFunc_Simpl_SizeEdge_impl_SizeEdge_impl_SizeEdge s x (fun y0 y1=>impl_compareEdges y0 y1) with
  | none=>rfl
  | some v=>
   simp only[aq]
   cases v.2
   ·rfl
   ·simp only[cond_true]
    cases idx s v.1 with
    | none=>rfl
    | some w=>
     simp only[aq]
     cases w.Strict<;>rfl
 simp only[cond_true]
 unfold midE
 cases e.Strict
 ·simp only[cond_false,Bool.false_or]; exact key ⟨e.From,g.To,g.Strict⟩
 ·simp only[cond_true,Bool.true_or]; exact key ⟨e.From,g.To,true⟩
/-! spec: levels -/
def tabF(E:List Sa)(i k:Nat):Nat:=match E.find? (fun e=>decide (e.From=(i:Int))&&decide (e.To=(k:Int))) with
 | some e=>lv e.Strict
 | none=>0
theorem lv_le(b:Bool):lv b≤2∧1≤lv b:=by cases b<;>decide
theorem tabF_le(E:List Sa)(i k:Nat):tabF E i k≤2:=by
 unfold tabF
 split
 ·exact(lv_le _).1
 ·omega
theorem find_loop(p:Sa→Bool)(q:Sa→Nat):∀ (l:List Sa) (i:Nat),thenL (ρ:=Int) (σ:=Unit) (forL (fun _ e _=>bif p e then some (.rt ((q e:Nat):Int)) else some (.nx ())) l i ()) (fun _=>some (0:Int))=some (((match l.find? p with | some e=>q e | none=>0:Nat)):Int)
 | [],i=>rfl
 | e::l,i=>by
  cases h:p e
  ·rw[forL_nx (s':=()) (by rw[h]; rfl),find_loop p q l (i+1),List.find?_cons_of_neg (by rw[h]; simp)]
  ·rw[forL_rt (r:=((q e:Nat):Int)) (by rw[h]; rfl),thenL_inl,List.find?_cons_of_pos (by rw[h])]
theorem level_ok(a:Sb)(i k:Nat):spec_l24Level a (i:Int) (k:Int)=some ((tabF a.Edges i k:Nat):Int):=by
 unfold spec_l24Level
 rw[forN_forL _ (fun _ e _=>bif (decide (e.From=(i:Int))&&decide (e.To=(k:Int))) then some (.rt ((lv e.Strict:Nat):Int)) else some (.nx ())) a.Edges 0 () (fun j e s he=>?_),find_loop (fun e=>decide (e.From=(i:Int))&&decide (e.To=(k:Int))) (fun e=>lv e.Strict)]
 ·rfl
 simp only[Nat.zero_add,idx_nat,he,aq]
 cases decide (e.From=(i:Int))<;>cases decide (e.To=(k:Int))<;>cases e.Strict<;>rfl
theorem rise_inj{s:List Sa}(hp:s.Pairwise (fun a b=>code a<code b)){a b:Sa}(ha:a∈s)(hb:b∈s)(h:code a=code b):a=b:=by
 obtain⟨i,hi,rfl⟩:=List.mem_iff_getElem.1 ha
 obtain⟨j,hj,rfl⟩:=List.mem_iff_getElem.1 hb
 rw[List.pairwise_iff_getElem] at hp
 rcases Nat.lt_trichotomy i j with hij | rfl | hij
 ·have:=hp i j hi hj hij; omega
 ·rfl
 ·have:=hp j i hj hi hij; omega
theorem code_div{e:Sa}(h:edgeOk e=true):code e / 4=e.From.toNat∧code e % 4=e.To.toNat:=by
 have:=code_ok h
 unfold code
 omega
theorem tab_some{E:List Sa}{i k:Nat}(h:0<tabF E i k):∃ e∈E,e.From=(i:Int)∧e.To=(k:Int)∧tabF E i k=lv e.Strict:=by
 unfold tabF at h ⊢
 cases hf:E.find? (fun e=>decide (e.From=(i:Int))&&decide (e.To=(k:Int))) with
 | none=>rw[hf] at h; simp at h
 | some e=>
  have h1:=List.find?_some hf
  rw[aA,decide_eq_true_iff,decide_eq_true_iff] at h1
  exact⟨e,List.mem_of_find?_eq_some hf,h1.1,h1.2,rfl⟩
theorem tab_mem{E:List Sa}(hp:E.Pairwise (fun a b=>code a<code b)){e:Sa}(he:e∈E)(hok:edgeOk e=true):tabF E e.From.toNat e.To.toNat=lv e.Strict:=by
 have hc:=code_ok hok
 unfold tabF
 cases hf:E.find? (fun x=>decide (x.From=((e.From.toNat:Nat):Int))&&decide (x.To=((e.To.toNat:Nat):Int))) with
 | none=>
  have:=List.find?_eq_none.1 hf e he
  rw[aA,decide_eq_true_iff,decide_eq_true_iff] at this
  exact absurd ⟨by omega,by omega⟩ this
 | some x=>
  have h1:=List.find?_some hf
  rw[aA,decide_eq_true_iff,decide_eq_true_iff] at h1
  have:x=e:=rise_inj hp (List.mem_of_find?_eq_some hf) he (by unfold code; rw[h1.1,h1.2]; omega)
  rw[this]
theorem valid_rise{g:Sb}(h:validG g=true):(∀ e∈g.Edges,edgeOk e=true)∧g.Edges.Pairwise (fun a b=>code a<code b):=by
 unfold validG at h
 rw[aA,a7] at h
 have h2:∀ i,i<g.Edges.length→edgeC g.Edges i=true:=fun i hi=>h.2 i (by simpa using hi)
 have hok:∀ i,i<g.Edges.length→edgeOk (g.Edges.getD i default)=true:=fun i hi=>by
  have:=h2 i hi
  unfold edgeC at this
  rw[aA] at this
  exact this.1
 have hadj:∀ i,i+1<g.Edges.length→code (g.Edges.getD i default)<code (g.Edges.getD (i+1) default):=fun i hi=>by
  have:=h2 (i+1) hi
  unfold edgeC at this
  rw[aA,Bool.or_eq_true,decide_eq_true_iff,decide_eq_true_iff] at this
  rcases this.2 with h' | h'
  ·omega
  ·exact(cmpE_lt (hok i (by omega)) (hok (i+1) hi)).1.1 (by simpa using h')
 have hall:∀ d i,i+d+1<g.Edges.length→code (g.Edges.getD i default)<code (g.Edges.getD (i+d+1) default):=fun d=>by
  induction d with
  | zero=>exact fun i hi=>hadj i hi
  | succ d ih=>exact fun i hi=>Nat.lt_trans (ih i (by omega)) (hadj (i+d+1) (by omega))
 refine⟨fun e he=>?_,?_⟩
 ·obtain⟨i,hi,rfl⟩:=List.mem_iff_getElem.1 he
  have:=hok i hi
  simpa[List.getD,hi] using this
 ·rw[List.pairwise_iff_getElem]
  intro i j hi hj hij
  have:=hall (j-i-1) i (by omega)
  rw[show i+(j-i-1)+1=j by omega] at this
  simpa[List.getD,hi,hj] using this
def foldN(A B:Nat→Nat):Nat→Nat→Nat→Nat
 | 0,_,acc=>acc
 | n+1,m,acc=>foldN A B n (m+1) (if 0<A m∧0<B m then max acc (max (A m) (B m)) else acc)
theorem foldN_le(A B:Nat→Nat)(hA:∀ k,A k≤2)(hB:∀ k,B k≤2):∀ n m acc,acc≤2→foldN A B n m acc≤2
 | 0,m,acc,h=>h
 | n+1,m,acc,h=>by
  unfold foldN
  refine foldN_le A B hA hB n (m+1) _ ?_
  have:=hA m
  have:=hB m
  split<;>omega
theorem foldN_iff(A B:Nat→Nat)(v:Nat):∀ n m acc,v≤foldN A B n m acc↔v≤acc∨∃ k,m≤k∧k<m+n∧0<A k∧0<B k∧v≤max (A k) (B k)
 | 0,m,acc=>by
  unfold foldN
  constructor
  ·exact .inl
  ·rintro (h | ⟨k,h1,h2,_⟩)
   ·exact h
   ·omega
 | n+1,m,acc=>by
  unfold foldN
  rw[foldN_iff A B v n (m+1)]
  constructor
  ·rintro (h | ⟨k,h1,h2,h3⟩)
   ·split at h
    ·rename_i hh
     by_cases hv:v≤acc
     ·exact .inl hv
     ·exact .inr ⟨m,by omega,by omega,hh.1,hh.2,by omega⟩
    ·exact .inl h
   ·exact .inr ⟨k,by omega,by omega,h3⟩
  ·rintro (h | ⟨k,h1,h2,h3,h4,h5⟩)
   ·left; split<;>omega
   ·by_cases hk:k=m
    ·subst hk; left; rw[if_pos ⟨h3,h4⟩]; omega
    ·exact .inr ⟨k,by omega,by omega,h3,h4,h5⟩
theorem Most_eqI(a b:Int):spec_l1Most a b=some (max a b):=by
 unfold spec_l1Most
 by_cases h:b<a
 ·rw[decide_eq_true h,cond_true]; congr 1; omega
 ·rw[decide_eq_false h,cond_false]; congr 1; omega
theorem mid_loop{ρ:Type}(A B:Nat→Nat)(f:Nat→Int→Option (Flow ρ Int))(hf:∀ m s,f m s=bif decide ((0:Int)<(A m:Int)) then(bif decide ((0:Int)<(B m:Int)) then ae (spec_l1Most (A m:Int) (B m:Int)) fun v47=>ae (spec_l1Most s v47) fun v48=>some (.nx v48) else some (.nx s)) else some (.nx s)):
 ∀ (n m acc:Nat),forN f n m (acc:Int)=some (.inr ((foldN A B n m acc:Nat):Int))
 | 0,m,acc=>rfl
 | n+1,m,acc=>by
  unfold foldN
  rw[forN_nx (s':=(((if 0<A m∧0<B m then max acc (max (A m) (B m)) else acc):Nat):Int)) ?_]
  ·exact mid_loop A B f hf n (m+1) _
  ·rw[hf]
   by_cases h1:0<A m
   ·rw[decide_eq_true (by omega),cond_true]
    by_cases h2:0<B m
    ·rw[decide_eq_true (by omega),cond_true,if_pos ⟨h1,h2⟩,Most_eqI,aq,Most_eqI,aq]
     congr 2; omega
    ·rw[decide_eq_false (by omega),cond_false,if_neg (fun h=>h2 h.2)]
   ·rw[decide_eq_false (by omega),cond_false,if_neg (fun h=>h1 h.1)]
def topT(E1 E2:List Sa)(c:Nat):Nat:=foldN (fun m=>tabF E1 (c / 4) m) (fun m=>tabF E2 m (c % 4)) 4 0 0
def cutT(T:Nat→Nat)(m:Nat):Nat→Nat:=fun c=>if c<m then T c else 0
theorem topT_le(E1 E2:List Sa)(c:Nat):topT E1 E2 c≤2:=foldN_le _ _ (fun _=>tabF_le _ _ _) (fun _=>tabF_le _ _ _) 4 0 0 (by omega)
theorem cutT_le{T:Nat→Nat}(h:∀ c,T c≤2)(m c:Nat):cutT T m c≤2:=by
 unfold cutT
 have:=h c
 split<;>omega
theorem put_ok{T:Nat→Nat}(hT:∀ c,T c≤2){s:List Sa}{i j:Nat}(hi:i<4)(hj:j<4)(hr:Rep s (cutT T (i*4+j))):
 (0<T (i*4+j)→Rep (s++[⟨(i:Int),(j:Int),decide (T (i*4+j)=2)⟩]) (cutT T (i*4+j+1)))∧(¬ 0<T (i*4+j)→Rep s (cutT T (i*4+j+1))):=by
 have h2:=hT (i*4+j)
 constructor
 ·intro h
  have hc:code ⟨(i:Int),(j:Int),decide (T (i*4+j)=2)⟩=i*4+j:=by unfold code; simp only[Int.toNat_natCast]
  have:=Rep.new (pre:=s) (suf:=[]) (f:=cutT T (i*4+j)) (x:=⟨(i:Int),(j:Int),decide (T (i*4+j)=2)⟩) (by rw[List.append_nil]; exact hr) (by
   simp only[edgeOk,aA,inR_iff]; omega) (fun e he=>by
    have:=((hr.2.2 e).1 he).2.1
    unfold cutT at this
    rw[hc]
    split at this
    ·assumption
    ·omega) (fun e he=>by cases he)
  rw[List.append_nil,hc] at this
  refine this.congr (fun k hk=>?_) (cutT_le hT _)
  unfold updM cutT
  by_cases hk':k=i*4+j
  ·subst hk'
   rw[if_pos rfl,if_neg (by omega),if_pos (by omega)]
   unfold lv
   by_cases ht:T (i*4+j)=2
   ·rw[decide_eq_true ht]; simp; omega
   ·rw[decide_eq_false ht]; simp; omega
  ·rw[if_neg hk']
   by_cases hlt:k<i*4+j
   ·rw[if_pos hlt,if_pos (by omega)]
   ·rw[if_neg hlt,if_neg (by omega)]
 ·intro h
  refine hr.congr (fun k hk=>?_) (cutT_le hT _)
  unfold cutT
  by_cases hk':k=i*4+j
  ·subst hk'
   rw[if_neg (by omega),if_pos (by omega)]; omega
  ·by_cases hlt:k<i*4+j
   ·rw[if_pos hlt,if_pos (by omega)]
   ·rw[if_neg hlt,if_neg (by omega)]
theorem row_loop{ρ:Type}{T:Nat→Nat}(hT:∀ c,T c≤2)(i:Nat)(hi:i<4)(f:Nat→List Sa→Option (Flow ρ (List Sa)))
 (hf:∀ j s,j<4→f j s=bif decide ((0:Int)<((T (i*4+j):Nat):Int)) then(ae (app s ([(Sa.mk (i:Int) (j:Int) (decide (((T (i*4+j):Nat):Int)=(2:Int))))])) fun v59=>some (.nx v59)) else some (.nx s)):
 ∀ (n j:Nat) (s:List Sa),j+n=4→Rep s (cutT T (i*4+j))→∃ s',forN f n j s=some (.inr s')∧Rep s' (cutT T (i*4+4))
 | 0,j,s,hj,hr=>⟨s,rfl,by rw[show i*4+4=i*4+j by omega]; exact hr⟩
 | n+1,j,s,hj,hr=>by
  obtain⟨h1,h2⟩:=put_ok hT hi (show j<4 by omega) hr
  have hl:=hr.len
  by_cases h:0<T (i*4+j)
  ·rw[forN_nx (s':=s++[⟨(i:Int),(j:Int),decide (T (i*4+j)=2)⟩]) ?_]
   ·exact row_loop hT i hi f hf n (j+1) _ (by omega) (h1 h)
   ·rw[hf j s (by omega),decide_eq_true (by omega),cond_true,show decide (((T (i*4+j):Nat):Int)=(2:Int))=decide (T (i*4+j)=2) from decide_eq_decide.2 (by omega)]
    unfold app
    rw[if_pos (by simp only[a5,List.length_nil]; omega)]; rfl
  ·rw[forN_nx (s':=s) (by rw[hf j s (by omega),decide_eq_false (by omega)]; rfl)]
   exact row_loop hT i hi f hf n (j+1) _ (by omega) (h2 h)
theorem all_loop{ρ:Type}{T:Nat→Nat}(f:Nat→List Sa→Option (Flow ρ (List Sa)))(hf:∀ i s,i<4→Rep s (cutT T (i*4))→∃ s',f i s=some (.nx s')∧Rep s' (cutT T ((i+1)*4))):
 ∀ (n i:Nat) (s:List Sa),i+n=4→Rep s (cutT T (i*4))→∃ s',forN f n i s=some (.inr s')∧Rep s' (cutT T 16)
 | 0,i,s,hi,hr=>⟨s,rfl,by rw[show 16=i*4 by omega]; exact hr⟩
 | n+1,i,s,hi,hr=>by
  obtain⟨s',h1,h2⟩:=hf i s (by omega) hr
  rw[forN_nx h1]
  exact all_loop f hf n (i+1) s' (by omega) h2
theorem spec_compose_ok(a b:Sb):∃ s,spec_l24Compose a b=some ⟨a.Source,b.Target,s⟩∧Rep s (cutT (topT a.Edges b.Edges) 16):=by
 have hT:=topT_le a.Edges b.Edges
 obtain⟨s,h1,h2⟩:=all_loop (ρ:=Sb) (T:=topT a.Edges b.Edges) (fun (i3:Nat) (s3:(List Sa))=>
  thenL (ρ:=(Flow Sb (List Sa))) (σ:=(List Sa)) (forN (fun (i6:Nat) (s6:(List Sa))=>
   thenL (ρ:=(Flow (Flow Sb (List Sa)) (List Sa))) (σ:=Int) (forN (fun (i10:Nat) (s10:Int)=>
    ae (spec_l24Level a (i3:Int) (i10:Int)) fun v33=>
    ae (spec_l24Level b (i10:Int) (i6:Int)) fun v37=>
    bif decide ((0:Int)<v33) then
     bif decide ((0:Int)<v37) then
      ae (spec_l1Most v33 v37) fun v47=>
      ae (spec_l1Most s10 v47) fun v48=>
      some (.nx v48)
     else
      some (.nx s10)
    else
     some (.nx s10)) 4 0 (0:Int)) fun s10=>
   bif decide ((0:Int)<s10) then
    ae (app s6 ([(Sa.mk (i3:Int) (i6:Int) (decide (s10=(2:Int))))])) fun v59=>
    some (.nx v59)
   else
    some (.nx s6)) 4 0 s3) fun s6=>
  some (.nx s6)) (fun i s hi hr=>by
   obtain⟨s',g1,g2⟩:=row_loop (ρ:=Flow Sb (List Sa)) hT i hi (fun (i6:Nat) (s6:(List Sa))=>
   thenL (ρ:=(Flow (Flow Sb (List Sa)) (List Sa))) (σ:=Int) (forN (fun (i10:Nat) (s10:Int)=>
    ae (spec_l24Level a (i:Int) (i10:Int)) fun v33=>
    ae (spec_l24Level b (i10:Int) (i6:Int)) fun v37=>
    bif decide ((0:Int)<v33) then
     bif decide ((0:Int)<v37) then
      ae (spec_l1Most v33 v37) fun v47=>
      ae (spec_l1Most s10 v47) fun v48=>
      some (.nx v48)
     else
      some (.nx s10)
    else
     some (.nx s10)) 4 0 (0:Int)) fun s10=>
   bif decide ((0:Int)<s10) then
    ae (app s6 ([(Sa.mk (i:Int) (i6:Int) (decide (s10=(2:Int))))])) fun v59=>
    some (.nx v59)
   else
    some (.nx s6)) (fun j s hj=>by
    have hm:=mid_loop (ρ:=Flow (Flow Sb (List Sa)) (List Sa)) (fun m=>tabF a.Edges i m) (fun m=>tabF b.Edges m j) (fun (i10:Nat) (s10:Int)=>
    ae (spec_l24Level a (i:Int) (i10:Int)) fun v33=>
    ae (spec_l24Level b (i10:Int) (j:Int)) fun v37=>
    bif decide ((0:Int)<v33) then
     bif decide ((0:Int)<v37) then
      ae (spec_l1Most v33 v37) fun v47=>
      ae (spec_l1Most s10 v47) fun v48=>
      some (.nx v48)
     else
      some (.nx s10)
    else
     some (.nx s10)) (fun m s=>by rw[level_ok,level_ok]; rfl) 4 0 0
    refine(congrArg (fun x=>thenL x _) hm).trans ?_
    rw[thenL_inr]
    have e:topT a.Edges b.Edges (i*4+j)=foldN (fun m=>tabF a.Edges i m) (fun m=>tabF b.Edges m j) 4 0 0:=by
     unfold topT
     rw[show(i*4+j) / 4=i by omega,show(i*4+j) % 4=j by omega]
    rw[e]) 4 0 s (by omega) hr
   refine⟨s',by rw[g1]; rfl,?_⟩
   rw[show(i+1)*4=i*4+4 by omega]; exact g2) 4 0 [] (by omega) (Rep.nil.congr (fun k hk=>by unfold cutT; rw[if_neg (by omega)]) (cutT_le hT _))
 exact⟨s,by unfold spec_l24Compose; rw[h1]; rfl,h2⟩
/-! both -/
theorem inner_iff(e:Sa)(c v:Nat):∀ (l:List Sa) (f:Nat→Nat),v≤(l.foldl (stepF e) f) c↔v≤f c∨∃ g∈l,e.To=g.From∧code (midE e g)=c∧v≤lv (e.Strict||g.Strict)
 | [],f=>by simp
 | g::l,f=>by
  rw[List.foldl_cons,inner_iff e c v l]
  simp only[bi,exists_eq_or_imp]
  unfold stepF updM
  by_cases h:e.To=g.From
  ·rw[if_pos h]
   by_cases hc:c=code (midE e g)
   ·rw[if_pos hc]
    have:v≤max (f c) (lv (e.Strict||g.Strict))↔v≤f c∨v≤lv (e.Strict||g.Strict):=by omega
    rw[this,or_assoc]
    simp only[h,hc,true_and]
   ·rw[if_neg hc]
    have:¬ code (midE e g)=c:=fun e=>hc e.symm
    simp only[this,false_and,and_false,false_or]
  ·rw[if_neg h]
   simp only[h,false_and,false_or]
theorem outer_iff(E2:List Sa)(c v:Nat):∀ (l:List Sa) (f:Nat→Nat),v≤(l.foldl (fun f e=>E2.foldl (stepF e) f) f) c↔v≤f c∨∃ e∈l,∃ g∈E2,e.To=g.From∧code (midE e g)=c∧v≤lv (e.Strict||g.Strict)
 | [],f=>by simp
 | e::l,f=>by
  rw[List.foldl_cons,outer_iff E2 c v l,inner_iff,or_assoc]
  simp only[bi,exists_eq_or_imp]
theorem lv_or(a b:Bool):lv (a||b)=max (lv a) (lv b):=by cases a<;>cases b<;>rfl
theorem eq_of_iff{x y:Nat}(h:∀ v,0<v→(v≤x↔v≤y)):x=y:=by
 rcases Nat.lt_trichotomy x y with g | g | g
 ·have:=(h y (by omega)).2 (aV _); omega
 ·exact g
 ·have:=(h x (by omega)).1 (aV _); omega
def Rise(s:List Sa):Prop:=(∀ e∈s,edgeOk e=true)∧s.Pairwise (fun a b=>code a<code b)
theorem compose_rise(a b:Sb)(ha:Rise a.Edges)(hb:Rise b.Edges):∃ s:List Sa,s.length≤16∧Rise s∧spec_l24Compose a b=some ⟨a.Source,b.Target,s⟩∧impl_compose a b=some ⟨a.Source,b.Target,s⟩:=by
 obtain⟨a1,a2⟩:=ha
 obtain⟨b1,b2⟩:=hb
 obtain⟨s,h1,h2⟩:=spec_compose_ok a b
 obtain⟨t,k1,k2⟩:=impl_compose_ok a b a1 b1
 have:t=s:=by
  refine Rep.unique (k2.congr (fun c hc=>eq_of_iff fun v hv=>?_) h2.2.1) h2
  rw[outer_iff]
  unfold cutT
  rw[if_pos hc]
  unfold topT
  rw[foldN_iff]
  have z:∀ P:Prop,(v≤0∨P)↔P:=fun P=>⟨fun h=>h.elim (fun h=>by omega) id,.inr⟩
  rw[z,z]
  constructor
  ·rintro ⟨e,he,g,hg,q1,q2,q3⟩
   have oe:=code_ok (a1 e he)
   have og:=code_ok (b1 g hg)
   have te:=tab_mem a2 he (a1 e he)
   have tg:=tab_mem b2 hg (b1 g hg)
   have c1:c / 4=e.From.toNat:=by rw[← q2]; unfold code midE; simp only; omega
   have c2:c % 4=g.To.toNat:=by rw[← q2]; unfold code midE; simp only; omega
   have q1':g.From.toNat=e.To.toNat:=by rw[q1]
   refine⟨e.To.toNat,by omega,by omega,?_,?_,?_⟩
   ·rw[c1,te]; exact(lv_le _).2
   ·rw[c2,← q1',tg]; exact(lv_le _).2
   ·rw[c1,te,c2,← q1',tg,← lv_or]; exact q3
  ·rintro ⟨m,_,hm,q1,q2,q3⟩
   obtain⟨e,he,e1,e2,e3⟩:=tab_some q1
   obtain⟨g,hg,g1,g2,g3⟩:=tab_some q2
   refine⟨e,he,g,hg,by rw[e2,g1],?_,by rw[lv_or,← e3,← g3]; exact q3⟩
   unfold code midE
   simp only[e1,g2,Int.toNat_natCast]
   omega
 subst this
 exact⟨t,h2.len,⟨h2.ok,h2.1⟩,h1,k1⟩
theorem compose_both(a b:Sb)(ha:validG a=true)(hb:validG b=true):∃ s:List Sa,s.length≤16∧spec_l24Compose a b=some ⟨a.Source,b.Target,s⟩∧impl_compose a b=some ⟨a.Source,b.Target,s⟩:=by
 obtain⟨s,h1,_,h2,h3⟩:=compose_rise a b (valid_rise ha) (valid_rise hb)
 exact⟨s,h1,h2,h3⟩
end
section
theorem Contains_int{f:Int→Option Bool}{p:Int→Bool}(h:∀ x,f x=some (p x))(xs:List Int):slices_ContainsFunc_Sint_int xs f=some (xs.any p):=by
 unfold slices_ContainsFunc_Sint_int slices_IndexFunc_Sint_int
 obtain⟨r,h1,h2⟩:=forN_find (n:=xs.length) (p:=fun i=>p (xs.getD i default)) (f:=fun i2 s2=>(idx xs (i2:Int)).bind fun v14=>(f v14).bind fun v16=>bif v16 then some (.rt (i2:Int)) else some (.nx ())) (fun j hj=>by
  simp only[idx_getD hj,aq,h]
  cases p (xs.getD j default)<;>rfl)
 rw[h1,aq,h2,range_any_list]
def callOk(p:Ct)(g:Sb):Bool:=
 validG g&&decide (g.Source<p.Arities.length)&&decide (g.Target<p.Arities.length)&&g.Edges.all (fun e=>decide (e.From<p.Arities.getD g.Source.toNat default)&&decide (e.To<p.Arities.getD g.Target.toNat default))
def validP(p:Ct):Bool:=inR (p.Arities.length:Int) 1 6&&decide (p.Calls.length≤12)&&p.Arities.all (fun v=>inR v 0 4)&&p.Calls.all (callOk p)
theorem validG_src{g:Sb}(h:validG g=true):0≤g.Source∧0≤g.Target:=by
 simp only[validG,aA,inR_iff] at h
 exact⟨h.1.1.1,h.1.2.1⟩
theorem impl2_eq(p:Ct)(g:Sb)(hb:Big g.Edges.length):impl_IsValidCyclic_2 g (p.Arities.length:Int) p=some (!callOk p g):=by
 unfold impl_IsValidCyclic_2 callOk
 rw[implV g hb,aq]
 cases hv:validG g
 ·rfl
 ·have hs:=validG_src hv
  by_cases h1:g.Source<p.Arities.length
  ·by_cases h2:g.Target<p.Arities.length
   ·rw[cond_true,decide_eq_false (show ¬ (p.Arities.length:Int)≤g.Source by omega),decide_eq_false (show ¬ (p.Arities.length:Int)≤g.Target by omega),cond_false,cond_false,decide_eq_true h1,decide_eq_true h2]
    unfold slices_ContainsFunc_Simpl_SizeEdge_impl_SizeEdge slices_IndexFunc_Simpl_SizeEdge_impl_SizeEdge
    rw[find_list (p:=fun e=>!(decide (e.From<p.Arities.getD g.Source.toNat default)&&decide (e.To<p.Arities.getD g.Target.toNat default)))]
    ·rw[aq,List.all_eq_not_any_not]; simp
    ·intro e _
     simp only[impl_IsValidCyclic_2_1,idx_int hs.1 h1,idx_int hs.2 h2,aq]
     by_cases g1:e.From<p.Arities.getD g.Source.toNat default
     ·rw[decide_eq_false (show ¬ p.Arities.getD g.Source.toNat default≤e.From by omega),decide_eq_true g1,cond_false,Bool.true_and]
      by_cases g2:e.To<p.Arities.getD g.Target.toNat default
      ·rw[decide_eq_false (show ¬ p.Arities.getD g.Target.toNat default≤e.To by omega),decide_eq_true g2]; rfl
      ·rw[decide_eq_true (show p.Arities.getD g.Target.toNat default≤e.To by omega),decide_eq_false g2]; rfl
     ·rw[decide_eq_true (show p.Arities.getD g.Source.toNat default≤e.From by omega),decide_eq_false g1]; rfl
   ·rw[cond_true,decide_eq_false (show ¬ (p.Arities.length:Int)≤g.Source by omega),decide_eq_true (show(p.Arities.length:Int)≤g.Target by omega),decide_eq_false h2]
    simp
  ·rw[cond_true,decide_eq_true (show(p.Arities.length:Int)≤g.Source by omega),decide_eq_false h1]; simp
theorem implP(p:Ct)(h:p.Ok):impl_IsValidCyclic p=some (validP p):=by
 unfold impl_IsValidCyclic validP
 rw[within_eq,aq]
 cases inR (p.Arities.length:Int) 1 6
 ·rfl
 ·by_cases h12:p.Calls.length≤12
  ·rw[cond_true,decide_eq_false (show ¬ (12:Int)<(p.Calls.length:Int) by omega),cond_false,decide_eq_true h12,
    Contains_int (p:=fun x=>!inR x 0 4) (fun x=>by simp only[impl_IsValidCyclic_1,within_eq,aq])]
   have e1:p.Arities.any (fun x=>!inR x 0 4)=!p.Arities.all (fun v=>inR v 0 4):=by rw[List.all_eq_not_any_not,Bool.not_not]
   rw[e1,aq]
   cases p.Arities.all (fun v=>inR v 0 4)
   ·rfl
   ·unfold slices_ContainsFunc_Simpl_SizeGraph_impl_SizeGraph slices_IndexFunc_Simpl_SizeGraph_impl_SizeGraph
    rw[find_list (p:=fun g=>!callOk p g) p.Calls (fun g hg=>impl2_eq p g (h.2.2 g hg).2.2.1)]
    rw[List.all_eq_not_any_not]; simp
  ·rw[cond_true,decide_eq_true (show(12:Int)<(p.Calls.length:Int) by omega),decide_eq_false h12]; rfl
theorem specP(p:Ct)(h:p.Ok):spec_l24Good p=some (validP p):=by
 unfold spec_l24Good validP
 rw[l1In_eq,aq]
 cases inR (p.Arities.length:Int) 1 6
 ·rfl
 ·by_cases h12:p.Calls.length≤12
  ·rw[cond_true,decide_eq_false (show ¬ (12:Int)<(p.Calls.length:Int) by omega),cond_false,decide_eq_true h12,
    forN_all (fun j=>inR (p.Arities.getD j default) 0 4),range_all_list p.Arities (fun v=>inR v 0 4)]
   ·cases p.Arities.all (fun v=>inR v 0 4)
    ·rfl
    ·rw[cond_true,forN_all (fun j=>callOk p (p.Calls.getD j default)),range_all_list p.Calls (callOk p)]
     ·cases p.Calls.all (callOk p)<;>rfl
     ·intro j hj _
      have hg:=(h.2.2 _ (getD_mem hj)).2.2.1
      generalize ge:p.Calls.getD j default=g at hg ⊢
      simp only[idx_getD hj,ge,aq,specG g hg]
      unfold callOk
      cases hv:validG g
      ·rfl
      ·have hs:=validG_src hv
       by_cases h1:g.Source<p.Arities.length
       ·by_cases h2:g.Target<p.Arities.length
        ·rw[cond_true,decide_eq_false (show ¬ (p.Arities.length:Int)≤g.Source by omega),decide_eq_false (show ¬ (p.Arities.length:Int)≤g.Target by omega),cond_false,cond_false,decide_eq_true h1,decide_eq_true h2]
         rw[forN_all (ρ:=Flow Bool Unit) (fun k=>(fun e:Sa=>decide (e.From<p.Arities.getD g.Source.toNat default)&&decide (e.To<p.Arities.getD g.Target.toNat default)) (g.Edges.getD k default)) (r0:=.rt false),range_all_list g.Edges (fun e:Sa=>decide (e.From<p.Arities.getD g.Source.toNat default)&&decide (e.To<p.Arities.getD g.Target.toNat default))]
         ·cases g.Edges.all (fun e:Sa=>decide (e.From<p.Arities.getD g.Source.toNat default)&&decide (e.To<p.Arities.getD g.Target.toNat default))<;>rfl
         ·intro k hk _
          simp only[idx_getD hk,idx_int hs.1 h1,idx_int hs.2 h2,aq]
          by_cases g1:(g.Edges.getD k default).From<p.Arities.getD g.Source.toNat default
          ·rw[decide_eq_false (show ¬ p.Arities.getD g.Source.toNat default≤(g.Edges.getD k default).From by omega),decide_eq_true g1,cond_false,Bool.true_and]
           by_cases g2:(g.Edges.getD k default).To<p.Arities.getD g.Target.toNat default
           ·rw[decide_eq_false (show ¬ p.Arities.getD g.Target.toNat default≤(g.Edges.getD k default).To by omega),decide_eq_true g2]; rfl
           ·rw[decide_eq_true (show p.Arities.getD g.Target.toNat default≤(g.Edges.getD k default).To by omega),decide_eq_false g2]; rfl
          ·rw[decide_eq_true (show p.Arities.getD g.Source.toNat default≤(g.Edges.getD k default).From by omega),decide_eq_false g1]; rfl
        ·rw[cond_true,decide_eq_false (show ¬ (p.Arities.length:Int)≤g.Source by omega),decide_eq_true (show(p.Arities.length:Int)≤g.Target by omega),decide_eq_false h2]
         simp
       ·rw[cond_true,decide_eq_true (show(p.Arities.length:Int)≤g.Source by omega),decide_eq_false h1]; simp
   ·intro j hj _
    simp only[idx_getD hj,aq,l1In_eq]
    cases inR (p.Arities.getD j default) 0 4<;>rfl
  ·rw[cond_true,decide_eq_true (show(12:Int)<(p.Calls.length:Int) by omega),decide_eq_false h12]; rfl
end
section
/-- A cursor that has been moved at most n times, over bytes. -/
def CurOk(c:la)(n:Nat):Prop:=0≤c.at_f∧c.at_f≤(n:Int)∧∀ x∈c.code,0≤x∧x≤255
theorem CurOk.mono{c:la}{n m:Nat}(h:CurOk c n)(hm:n≤m):CurOk c m:=⟨h.1,by have:=h.2.1; omega,h.2.2⟩
theorem wrap_i64{x:Int}(h0:0≤x)(h1:x≤4611686018427387904):IntKind.i64.wrap x=x:=wrap64 (by omega) (by omega)
theorem bitand255(v:Int):0≤IntKind.i64.wrap (bitand .u64 v (255:Int))∧IntKind.i64.wrap (bitand .u64 v (255:Int))≤255:=by
 have h:∃ k:Nat,k≤255∧bitand .u64 v (255:Int)=(k:Int):=by
  refine⟨(BitVec.ofInt 64 v&&& BitVec.ofInt 64 255).toNat,?_,?_⟩
  ·rw[BitVec.toNat_and]
   exact Nat.le_trans Nat.and_le_right (by decide)
  ·have hk:(BitVec.ofInt 64 v&&& BitVec.ofInt 64 255).toNat≤255:=by
    rw[BitVec.toNat_and]; exact Nat.le_trans Nat.and_le_right (by decide)
   unfold bitand
   exact u64_nat (n:=(BitVec.ofInt 64 v&&& BitVec.ofInt 64 255).toNat) (by omega)
 obtain⟨k,hk,e⟩:=h
 rw[e,wrap_i64 (by omega) (by omega)]
 omega
theorem rem_lt{x m:Int}(h0:0≤x)(hm:0<m):∃ v,rem x m=some v∧0≤v∧v<m:=
 ⟨x.tmod m,by simp[rem,show m≠0 by omega],Int.tmod_nonneg _ h0,Int.tmod_lt_of_pos _ hm⟩
/-- A loop that always goes on, with what holds at each turn. -/
theorem forN_inv{ρ σ:Type}{f:Nat→σ→Option (Flow ρ σ)}(I:Nat→σ→Prop):∀ (n i:Nat) (s:σ),I i s→(∀ j s,i≤j→j<i+n→I j s→∃ s',f j s=some (.nx s')∧I (j+1) s')→∃ s',forN f n i s=some (.inr s')∧I (i+n) s'
 | 0,i,s,h,_=>⟨s,rfl,h⟩
 | n+1,i,s,h,hf=>by
  obtain⟨s',e,h'⟩:=hf i s (by omega) (by omega) h
  rw[forN_nx e]
  obtain⟨s'',e2,h2⟩:=forN_inv I n (i+1) s' h' (fun j s hj hj'=>hf j s (by omega) (by omega))
  exact⟨s'',e2,by rw[show i+(n+1)=i+1+n by omega]; exact h2⟩
theorem app1{α:Type}{xs:List α}(x:α)(h:xs.length≤1000):app xs [x]=some (xs++[x]):=by
 unfold app; rw[if_pos (by simp; omega)]
end
section
/-! Sameness of graphs. -/
theorem getD_mem_eq{α:Type}[Inhabited α]{a b:List α}(hl:a.length=b.length)(h:∀ j,j<a.length→a.getD j default=b.getD j default):a=b:=by
 refine List.ext_getElem hl fun i h1 h2=>?_
 have:=h i h1
 simpa[List.getD,h1,h2] using this
theorem edge_test(x y:Sa):(decide (x.From=y.From)&&(decide (x.To=y.To)&&(x.Strict==y.Strict)))=true↔x=y:=by
 rw[aA,aA,decide_eq_true_iff,decide_eq_true_iff,beq_iff_eq]
 constructor
 ·rintro ⟨h1,h2,h3⟩; exact edge_ext h1 h2 h3
 ·rintro rfl; exact⟨rfl,rfl,rfl⟩
theorem edges_loop{ρ:Type}(a b:List Sa)(hl:a.length=b.length)(r0:Bool):thenL (ρ:=Bool) (σ:=Unit) (forN (fun (i4:Nat) (s4:Unit)=>
 ae (idx a (i4:Int)) fun v37=>
 ae (idx b (i4:Int)) fun v42=>
 bif decide (v37.From=v42.From)&&(decide (v37.To=v42.To)&&(v37.Strict==v42.Strict)) then some (.nx ()) else some (.rt false)) a.length 0 ()) (fun _=>some true)=some ((List.range a.length).all fun j=>decide ((a.getD j default).From=(b.getD j default).From)&&(decide ((a.getD j default).To=(b.getD j default).To)&&((a.getD j default).Strict==(b.getD j default).Strict))):=by
 rw[forN_all (fun j=>decide ((a.getD j default).From=(b.getD j default).From)&&(decide ((a.getD j default).To=(b.getD j default).To)&&((a.getD j default).Strict==(b.getD j default).Strict))) (fun j hj _=>by
  rw[idx_getD hj,aq,idx_getD (by omega),aq]
  cases decide ((a.getD j default).From=(b.getD j default).From)&&(decide ((a.getD j default).To=(b.getD j default).To)&&((a.getD j default).Strict==(b.getD j default).Strict))<;>rfl)]
 cases (List.range a.length).all fun j=>decide ((a.getD j default).From=(b.getD j default).From)&&(decide ((a.getD j default).To=(b.getD j default).To)&&((a.getD j default).Strict==(b.getD j default).Strict))<;>rfl
theorem edges_all(a b:List Sa)(hl:a.length=b.length):((List.range a.length).all fun j=>decide ((a.getD j default).From=(b.getD j default).From)&&(decide ((a.getD j default).To=(b.getD j default).To)&&((a.getD j default).Strict==(b.getD j default).Strict)))=true↔a=b:=by
 rw[a7]
 constructor
 ·exact fun h=>getD_mem_eq hl fun j hj=>(edge_test _ _).1 (h j (by simpa using hj))
 ·rintro rfl j _; exact(edge_test _ _).2 rfl
open Classical in
noncomputable def sameB(a b:Sb):Bool:=decide (a=b)
theorem sameB_iff(a b:Sb):sameB a b=true↔a=b:=by simp[sameB]
theorem graph_ext{a b:Sb}(h1:a.Source=b.Source)(h2:a.Target=b.Target)(h3:a.Edges=b.Edges):a=b:=by cases a; cases b; simp_all
theorem same_of{a b:Sb}{x:Bool}(h:x=true↔a=b):x=sameB a b:=by
 rw[Bool.eq_iff_iff,h,sameB_iff]
theorem implSame(a b:Sb):impl_sameGraph a b=some (sameB a b):=by
 unfold impl_sameGraph slices_Equal_Simpl_SizeEdge_impl_SizeEdge
 by_cases h1:a.Source=b.Source
 ·rw[decide_eq_true h1,cond_true]
  by_cases h2:a.Target=b.Target
  ·rw[decide_eq_true h2,cond_true]
   by_cases h3:(a.Edges.length:Int)=(b.Edges.length:Int)
   ·rw[decide_eq_true h3,cond_true,edges_loop (ρ:=Bool) a.Edges b.Edges (by omega) false,aq]
    refine congrArg some (same_of ?_)
    rw[edges_all _ _ (by omega)]
    exact⟨graph_ext h1 h2,fun e=>by rw[e]⟩
   ·rw[decide_eq_false h3]
    exact congrArg some (same_of ⟨nofun,fun e=>absurd (by rw[e]) h3⟩)
  ·rw[decide_eq_false h2]
   exact congrArg some (same_of ⟨nofun,fun e=>absurd (by rw[e]) h2⟩)
 ·rw[decide_eq_false h1]
  exact congrArg some (same_of ⟨nofun,fun e=>absurd (by rw[e]) h1⟩)
theorem specSame(a b:Sb):spec_l24Same a b=some (sameB a b):=by
 unfold spec_l24Same
 by_cases h1:a.Source=b.Source
 ·rw[decide_eq_true h1,cond_true]
  by_cases h2:a.Target=b.Target
  ·rw[decide_eq_true h2,cond_true]
   by_cases h3:(a.Edges.length:Int)=(b.Edges.length:Int)
   ·rw[decide_eq_true h3,cond_true,edges_loop (ρ:=Bool) a.Edges b.Edges (by omega) false]
    refine congrArg some (same_of ?_)
    rw[edges_all _ _ (by omega)]
    exact⟨graph_ext h1 h2,fun e=>by rw[e]⟩
   ·rw[decide_eq_false h3]
    exact congrArg some (same_of ⟨nofun,fun e=>absurd (by rw[e]) h3⟩)
  ·rw[decide_eq_false h2]
   exact congrArg some (same_of ⟨nofun,fun e=>absurd (by rw[e]) h2⟩)
 ·rw[decide_eq_false h1]
  exact congrArg some (same_of ⟨nofun,fun e=>absurd (by rw[e]) h1⟩)
/-! A graph that is known already. -/
noncomputable def knownB(L:List Sb)(g:Sb):Bool:=L.any fun x=>sameB x g
theorem knownB_iff(L:List Sb)(g:Sb):knownB L g=true↔g∈L:=by
 simp only[knownB,List.any_eq_true,sameB_iff]
 constructor
 ·rintro ⟨x,hx,rfl⟩; exact hx
 ·exact fun h=>⟨g,h,rfl⟩
def grs(L:List ft):List Sb:=L.map (·.graph)
def pts(L:List ft):List (List Int):=L.map (·.path)
noncomputable def addF(L:List ft)(g:Sb)(q:List Int):List ft:=bif knownB (grs L) g then L else L++[⟨g,q⟩]
theorem contains_found(L:List ft)(g:Sb):slices_ContainsFunc_Simpl_found_impl_found L (fun y0=>impl_closure_1_1 y0 g)=some (knownB (grs L) g):=by
 unfold slices_ContainsFunc_Simpl_found_impl_found slices_IndexFunc_Simpl_found_impl_found
 obtain⟨r,h1,h2⟩:=forN_find (n:=L.length) (p:=fun i=>sameB (L.getD i default).graph g) (f:=fun i2 s2=>(idx L (i2:Int)).bind fun v14=>(impl_closure_1_1 v14 g).bind fun v16=>bif v16 then some (.rt (i2:Int)) else some (.nx ())) (fun j hj=>by
  simp only[idx_getD hj,aq,impl_closure_1_1,implSame]
  cases sameB (L.getD j default).graph g<;>rfl)
 rw[h1,aq,h2]
 refine congrArg some ?_
 rw[range_any_list (p:=fun x:ft=>sameB x.graph g),knownB,grs,List.any_map]
 rfl
theorem specAt(L:List Sb)(g:Sb):∃ r,spec_l24At L g=some r∧decide (0≤r)=knownB L g:=by
 unfold spec_l24At
 obtain⟨r,h1,h2⟩:=forN_find (n:=L.length) (p:=fun i=>sameB (L.getD i default) g) (f:=fun i2 s2=>(idx L (i2:Int)).bind fun v14=>(spec_l24Same v14 g).bind fun v17=>bif v17 then some (.rt (i2:Int)) else some (.nx ())) (fun j hj=>by
  simp only[idx_getD hj,aq,specSame]
  cases sameB (L.getD j default) g<;>rfl)
 refine⟨r,h1,?_⟩
 rw[h2,range_any_list (p:=fun x:Sb=>sameB x g)]
 rfl
theorem implAdd(g:Sb)(q:List Int)(L:List ft)(h:L.length≤1000):impl_closure_1 g q L=some ((),addF L g q):=by
 unfold impl_closure_1 addF
 rw[contains_found,aq]
 cases knownB (grs L) g
 ·simp only[cond_false,app1 _ h,aq]
 ·rfl
end
section
/-! Composition as a function. -/
noncomputable def cmpG(a b:Sb):Sb:=(impl_compose a b).getD default
theorem cmpG_ok{a b:Sb}(ha:Rise a.Edges)(hb:Rise b.Edges):impl_compose a b=some (cmpG a b)∧spec_l24Compose a b=some (cmpG a b)∧Rise (cmpG a b).Edges∧(cmpG a b).Edges.length≤16∧(cmpG a b).Source=a.Source∧(cmpG a b).Target=b.Target:=by
 obtain⟨s,h1,h2,h3,h4⟩:=compose_rise a b ha hb
 have e:cmpG a b=⟨a.Source,b.Target,s⟩:=by rw[cmpG,h4]; rfl
 rw[e]
 exact⟨h4,h3,h2,h1,rfl,rfl⟩
/-! A loop without a limit. -/
section
variable{ρ σ:Type}{f:σ→Option (Flow ρ σ)}{s s':σ}{r:ρ}
theorem wl_nx(h:f s=some (.nx s')):(lim fun k=>whileN f k s)=lim fun k=>whileN f k s':=by
 refine Option.ext fun r=>?_
 rw[lim_while.2 r,lim_while.2 r]
 constructor
 ·rintro ⟨n,hn⟩
  cases n with
  | zero=>simp[whileN] at hn
  | succ n=>exact⟨n,by simpa[whileN,h] using hn⟩
 ·rintro ⟨n,hn⟩; exact⟨n+1,by simpa[whileN,h] using hn⟩
theorem wl_br(h:f s=some (.br s')):(lim fun k=>whileN f k s)=some (.inr s'):=(lim_while.2 _).2 ⟨1,by simp[whileN,h]⟩
theorem wl_rt(h:f s=some (.rt r)):(lim fun k=>whileN f k s)=some (.inl r):=(lim_while.2 _).2 ⟨1,by simp[whileN,h]⟩
end
/-! The rounds. -/
theorem addF_grs(L:List ft)(g:Sb)(q:List Int):grs (addF L g q)=(bif knownB (grs L) g then grs L else grs L++[g])∧pts (addF L g q)=(bif knownB (grs L) g then pts L else pts L++[q]):=by
 unfold addF
 cases knownB (grs L) g<;>simp[grs,pts]
theorem addF_len(L:List ft)(g:Sb)(q:List Int):L.length≤(addF L g q).length∧(addF L g q).length≤L.length+1:=by
 unfold addF; cases knownB (grs L) g<;>simp
theorem addF_pre(L:List ft)(g:Sb)(q:List Int):L<+:addF L g q:=by
 unfold addF; cases knownB (grs L) g
 ·exact List.prefix_append _ _
 ·exact List.prefix_refl _
theorem addF_mem{L:List ft}{g:Sb}{q:List Int}{x:ft}(h:x∈addF L g q):x∈L∨x=⟨g,q⟩:=by
 unfold addF at h; cases hk:knownB (grs L) g<;>simp only[hk,cond_true,cond_false] at h
 ·simpa using h
 ·exact .inl h
theorem addF_known(L:List ft)(g:Sb)(q:List Int):g∈grs (addF L g q):=by
 rw[(addF_grs L g q).1]
 cases hk:knownB (grs L) g
 ·simp
 ·exact(knownB_iff _ _).1 hk
noncomputable def iniL(C:List Sb):Nat→List ft
 | 0=>[]
 | i+1=>addF (iniL C i) (C.getD i default) [(i:Int)]
noncomputable def innL(C:List Sb)(x:ft)(L:List ft):Nat→List ft
 | 0=>L
 | i+1=>if (C.getD i default).Source=x.graph.Target then addF (innL C x L i) (cmpG x.graph (C.getD i default)) (x.path++[(i:Int)]) else innL C x L i
theorem innL_pre(C:List Sb)(x:ft)(L:List ft):∀ i j,i≤j→innL C x L i<+:innL C x L j:=by
 intro i j h
 induction j with
 | zero=>
  have:i=0:=by omega
  subst this; exact List.prefix_refl _
 | succ j ih=>
  by_cases e:i=j+1
  ·subst e; exact List.prefix_refl _
  ·refine(ih (by omega)).trans ?_
   rw[innL]; split
   ·exact addF_pre _ _ _
   ·exact List.prefix_refl _
theorem innL_len(C:List Sb)(x:ft)(L:List ft):∀ i,L.length≤(innL C x L i).length∧(innL C x L i).length≤L.length+i
 | 0=>by simp[innL]
 | i+1=>by
  have:=innL_len C x L i
  rw[innL]; split
  ·have:=addF_len (innL C x L i) (cmpG x.graph (C.getD i default)) (x.path++[(i:Int)]); omega
  ·omega
theorem iniL_len(C:List Sb):∀ i,(iniL C i).length≤i
 | 0=>by simp[iniL]
 | i+1=>by
  have:=iniL_len C i
  have:=addF_len (iniL C i) (C.getD i default) [(i:Int)]
  rw[iniL]; omega
/-- What is ft: graphs in order, paths that are not longer than their round. -/
def FOk(m:Nat)(x:ft):Prop:=Rise x.graph.Edges∧x.graph.Edges.length≤16∧x.path.length≤m
theorem iniL_ok{C:List Sb}(hC:∀ g∈C,Rise g.Edges∧g.Edges.length≤16):∀ i,i≤C.length→∀ x∈iniL C i,FOk 1 x
 | 0,_,x,hx=>by simp[iniL] at hx
 | i+1,hi,x,hx=>by
  rw[iniL] at hx
  rcases addF_mem hx with hx | rfl
  ·exact iniL_ok hC i (by omega) x hx
  ·have:C.getD i default∈C:=by
    rw[List.getD_eq_getElem?_getD,List.getElem?_eq_getElem (by omega)]; exact List.getElem_mem _
   exact⟨(hC _ this).1,(hC _ this).2,by simp⟩
theorem getD_mem'{α:Type}[Inhabited α]{l:List α}{i:Nat}(h:i<l.length):l.getD i default∈l:=by
 rw[List.getD_eq_getElem?_getD,List.getElem?_eq_getElem h]; exact List.getElem_mem _
theorem innL_ok{C:List Sb}(hC:∀ g∈C,Rise g.Edges∧g.Edges.length≤16){x:ft}{L:List ft}{m:Nat}(hx:FOk m x)(hL:∀ y∈L,FOk m y):∀ i,i≤C.length→∀ y∈innL C x L i,FOk (m+1) y
 | 0,_,y,hy=>⟨(hL y hy).1,(hL y hy).2.1,by have:=(hL y hy).2.2; omega⟩
 | i+1,hi,y,hy=>by
  rw[innL] at hy
  split at hy
  ·rcases addF_mem hy with hy | rfl
   ·exact innL_ok hC hx hL i (by omega) y hy
   ·have hc:=hC _ (getD_mem' (l:=C) (i:=i) (by omega))
    have:=cmpG_ok hx.1 hc.1
    exact⟨this.2.2.1,this.2.2.2.1,by have:=hx.2.2; simp; omega⟩
  ·exact innL_ok hC hx hL i (by omega) y hy
theorem innL_known{C:List Sb}{x:ft}{L:List ft}:∀ n j,j<n→(C.getD j default).Source=x.graph.Target→cmpG x.graph (C.getD j default)∈grs (innL C x L n)
 | 0,_,h,_=>by omega
 | n+1,j,h,hs=>by
  by_cases e:j=n
  ·subst e; rw[innL,if_pos hs]; exact addF_known _ _ _
  ·have h1:=innL_known (L:=L) n j (by omega) hs
   obtain⟨t,ht⟩:=innL_pre C x L n (n+1) (by omega)
   rw[← ht,grs,List.map_append]
   exact List.mem_append.2 (.inl h1)
theorem pre_getD{L M:List ft}(h:L<+:M){k:Nat}(hk:k<L.length):M.getD k default=L.getD k default:=by
 obtain⟨t,rfl⟩:=h
 simp[List.getD,List.getElem?_append_left hk]
theorem grs_getD{L:List ft}{k:Nat}(hk:k<L.length):(grs L).getD k default=(L.getD k default).graph∧(pts L).getD k default=(L.getD k default).path:=by
 simp[grs,pts,List.getD,hk]
theorem grs_len(L:List ft):(grs L).length=L.length∧(pts L).length=L.length:=by simp[grs,pts]
theorem appNil{α:Type}(l:List α)(h:l.length≤1000000):app [] l=some l:=by
 unfold app; rw[if_pos (by simp; omega)]; rfl
theorem app1'{α:Type}{xs:List α}(x:α)(h:xs.length≤1000000):app xs [x]=some (xs++[x]):=by
 unfold app; rw[if_pos (by simp; omega)]
end
section
section
variable{C:List Sb}{L:List ft}{k m:Nat}{ρ:Type}
theorem implRound(hn:C.length≤13)(hC:∀ g∈C,Rise g.Edges∧g.Edges.length≤16)(hL:∀ y∈L,FOk m y)(hm:m≤1000)(hl:L.length≤400)(hk:k<L.length):
 forN (ρ:=ρ) (fun (i12:Nat) (s12:(List ft))=>
  ae (idx C (i12:Int)) fun v40=>
  ae (idx s12 (k:Int)) fun v46=>
  ae (idx s12 (k:Int)) fun v49=>
  bif decide (v40.Source=v49.graph.Target) then
   ae (idx s12 (k:Int)) fun v54=>
   ae (idx s12 (k:Int)) fun v56=>
   ae (impl_compose v56.graph v40) fun v58=>
   ae (idx s12 (k:Int)) fun v61=>
   ae (idx s12 (k:Int)) fun v63=>
   ae (slices_Clone_Sint_int v63.path) fun v64=>
   ae (app v64 ([(i12:Int)])) fun v67=>
   ae (impl_closure_1 v58 v67 s12) fun v68=>
   some (.nx v68.2)
  else
   some (.nx s12)) C.length 0 L=some (.inr (innL C (L.getD k default) L C.length)):=by
 obtain⟨s',h1,h2⟩:=forN_inv (ρ:=ρ) (f:=fun (i12:Nat) (s12:(List ft))=>
  ae (idx C (i12:Int)) fun v40=>
  ae (idx s12 (k:Int)) fun v46=>
  ae (idx s12 (k:Int)) fun v49=>
  bif decide (v40.Source=v49.graph.Target) then
   ae (idx s12 (k:Int)) fun v54=>
   ae (idx s12 (k:Int)) fun v56=>
   ae (impl_compose v56.graph v40) fun v58=>
   ae (idx s12 (k:Int)) fun v61=>
   ae (idx s12 (k:Int)) fun v63=>
   ae (slices_Clone_Sint_int v63.path) fun v64=>
   ae (app v64 ([(i12:Int)])) fun v67=>
   ae (impl_closure_1 v58 v67 s12) fun v68=>
   some (.nx v68.2)
  else
   some (.nx s12)) (fun i s=>s=innL C (L.getD k default) L i) C.length 0 L rfl (fun j s _ hj hs=>by
  subst hs
  have hj:j<C.length:=by omega
  have hx:=hL _ (getD_mem' hk)
  have hlen:=innL_len C (L.getD k default) L j
  have hi:idx (innL C (L.getD k default) L j) (k:Int)=some (L.getD k default):=by
   rw[idx_getD (by omega),pre_getD (innL_pre C _ L 0 j (by omega)) hk]; rfl
  have hg:=hC _ (getD_mem' hj)
  have hc:=cmpG_ok hx.1 hg.1
  simp only[idx_getD hj,hi,aq]
  rw[innL]
  by_cases e:(C.getD j default).Source=(L.getD k default).graph.Target
  ·rw[if_pos e,decide_eq_true e,cond_true]
   have hp:=hx.2.2
   simp only[hc.1,aq,slices_Clone_Sint_int,appNil _ (show(L.getD k default).path.length≤1000000 by omega),app1' _ (show(L.getD k default).path.length≤1000000 by omega),implAdd _ _ _ (show(innL C (L.getD k default) L j).length≤1000 by omega)]
   exact⟨_,rfl,rfl⟩
  ·rw[if_neg e,decide_eq_false e,cond_false]
   exact⟨_,rfl,rfl⟩)
 rw[h1,h2,Nat.zero_add]
/-- The reference's round: it ends with the same, or says at once that it is too much. -/
theorem specRound(hn:C.length≤13)(hC:∀ g∈C,Rise g.Edges∧g.Edges.length≤16)(hL:∀ y∈L,FOk m y)(hm:m≤1000)(hk:k<L.length):∀ (n i:Nat),i+n=C.length→(innL C (L.getD k default) L i).length≤400→
 ∃ r,forN (ρ:=Flow (List Sb×List (List Int)×Bool) (List Sb×List (List Int)×Int)) (fun (i13:Nat) (s13:(List Sb)×(List (List Int)))=>
  ae (idx C (i13:Int)) fun v58=>
  ae (idx s13.1 (k:Int)) fun v63=>
  ae (idx s13.1 (k:Int)) fun v65=>
  bif decide (v58.Source=v65.Target) then
   ae (idx s13.1 (k:Int)) fun v69=>
   ae (idx s13.1 (k:Int)) fun v70=>
   ae (idx C (i13:Int)) fun v74=>
   ae (spec_l24Compose v70 v74) fun v76=>
   ae (spec_l24At s13.1 v76) fun v79=>
   bif decide ((0:Int)≤v79) then
    some (.nx (s13.1,s13.2))
   else
    bif decide ((s13.1.length:Int)=(400:Int)) then
     some (.rt (.rt (s13.1,s13.2,false)))
    else
     ae (app s13.1 ([v76])) fun v89=>
     ae (idx s13.2 (k:Int)) fun v93=>
     ae (idx s13.2 (k:Int)) fun v94=>
     ae (spec_l1Own v94) fun v95=>
     ae (app v95 ([(i13:Int)])) fun v98=>
     ae (app s13.2 ([v98])) fun v100=>
     some (.nx (v89,v100))
  else
   some (.nx (s13.1,s13.2))) n i (grs (innL C (L.getD k default) L i),pts (innL C (L.getD k default) L i))=some r∧
  ((innL C (L.getD k default) L C.length).length≤400→r=.inr (grs (innL C (L.getD k default) L C.length),pts (innL C (L.getD k default) L C.length)))∧
  (400<(innL C (L.getD k default) L C.length).length→∃ l q,r=.inl (.rt (l,q,false))):=by
 intro n
 induction n with
 | zero=>
  intro i hi hle
  have:i=C.length:=by omega
  subst this
  exact⟨_,rfl,fun _=>rfl,fun h=>by omega⟩
 | succ n ih=>
  intro i hi hle
  have hj:i<C.length:=by omega
  have hx:=hL _ (getD_mem' hk)
  have hlen:=innL_len C (L.getD k default) L i
  have hpre:=innL_pre C (L.getD k default) L 0 i (by omega)
  have h1:idx (grs (innL C (L.getD k default) L i)) (k:Int)=some (L.getD k default).graph:=by
   have hk':k<(innL C (L.getD k default) L i).length:=by omega
   rw[idx_getD (by rw[(grs_len _).1]; exact hk'),(grs_getD hk').1,pre_getD hpre hk]; rfl
  have h2:idx (pts (innL C (L.getD k default) L i)) (k:Int)=some (L.getD k default).path:=by
   have hk':k<(innL C (L.getD k default) L i).length:=by omega
   rw[idx_getD (by rw[(grs_len _).2]; exact hk'),(grs_getD hk').2,pre_getD hpre hk]; rfl
  have hg:=hC _ (getD_mem' hj)
  have hc:=cmpG_ok hx.1 hg.1
  rw[forN]
  simp only[idx_getD hj,h1,h2,aq]
  by_cases e:(C.getD i default).Source=(L.getD k default).graph.Target
  ·rw[decide_eq_true e,cond_true]
   obtain⟨a,ha,hb⟩:=specAt (grs (innL C (L.getD k default) L i)) (cmpG (L.getD k default).graph (C.getD i default))
   simp only[hc.2.1,aq,ha,hb]
   have hs:innL C (L.getD k default) L (i+1)=addF (innL C (L.getD k default) L i) (cmpG (L.getD k default).graph (C.getD i default)) ((L.getD k default).path++[(i:Int)]):=by rw[innL,if_pos e]
   have hq:=addF_grs (innL C (L.getD k default) L i) (cmpG (L.getD k default).graph (C.getD i default)) ((L.getD k default).path++[(i:Int)])
   cases hkn:knownB (grs (innL C (L.getD k default) L i)) (cmpG (L.getD k default).graph (C.getD i default)) with
   | true=>
    rw[hkn] at hq
    simp only[cond_true,aq] at hq ⊢
    have:=ih (i+1) (by omega) (by rw[hs,← (grs_len _).1,hq.1,(grs_len _).1]; exact hle)
    rw[hs,hq.1,hq.2] at this
    exact this
   | false=>
    rw[hkn] at hq
    simp only[cond_false] at hq ⊢
    by_cases e4:((grs (innL C (L.getD k default) L i)).length:Int)=400
    ·rw[decide_eq_true e4,cond_true,aq]
     refine⟨_,rfl,fun h=>?_,fun _=>⟨_,_,rfl⟩⟩
     have h5:(innL C (L.getD k default) L (i+1)).length≤(innL C (L.getD k default) L C.length).length:=(innL_pre C _ L (i+1) C.length (by omega)).length_le
     rw[hs,← (grs_len (addF _ _ _)).1,hq.1,aH] at h5
     simp only[List.length_singleton] at h5
     omega
    ·rw[decide_eq_false e4,cond_false]
     have hp:=hx.2.2
     have hl4:=(grs_len (innL C (L.getD k default) L i)).1
     have hl5:=(grs_len (innL C (L.getD k default) L i)).2
     simp only[app1' _ (show(grs (innL C (L.getD k default) L i)).length≤1000000 by omega),app1' _ (show(pts (innL C (L.getD k default) L i)).length≤1000000 by omega),spec_l1Own,appNil _ (show(L.getD k default).path.length≤1000000 by omega),app1' _ (show(L.getD k default).path.length≤1000000 by omega),aq]
     have:=ih (i+1) (by omega) (by rw[hs,← (grs_len _).1,hq.1,aH]; simp only[List.length_singleton]; omega)
     rw[hs,hq.1,hq.2] at this
     exact this
  ·rw[decide_eq_false e,cond_false,aq]
   have hs:innL C (L.getD k default) L (i+1)=innL C (L.getD k default) L i:=by rw[innL,if_neg e]
   have:=ih (i+1) (by omega) (by rw[hs]; exact hle)
   rw[hs] at this
   exact this
end
end
section
noncomputable def fI(C:List Sb)(s9:(List ft)×Int):Option (Flow ((List ft)×Bool) ((List ft)×Int)):=
 bif decide (s9.2<(s9.1.length:Int)) then
  thenL (ρ:=(Flow ((List ft)×Bool) ((List ft)×Int))) (σ:=(List ft)) (forN (fun (i12:Nat) (s12:(List ft))=>
   ae (idx C (i12:Int)) fun v40=>
   ae (idx s12 s9.2) fun v46=>
   ae (idx s12 s9.2) fun v49=>
   bif decide (v40.Source=v49.graph.Target) then
    ae (idx s12 s9.2) fun v54=>
    ae (idx s12 s9.2) fun v56=>
    ae (impl_compose v56.graph v40) fun v58=>
    ae (idx s12 s9.2) fun v61=>
    ae (idx s12 s9.2) fun v63=>
    ae (slices_Clone_Sint_int v63.path) fun v64=>
    ae (app v64 ([(i12:Int)])) fun v67=>
    ae (impl_closure_1 v58 v67 s12) fun v68=>
    some (.nx v68.2)
   else
    some (.nx s12)) C.length 0 s9.1) fun s12=>
  bif decide ((400:Int)<(s12.length:Int)) then
   some (.rt ([],false))
  else
   some (.nx (s12,IntKind.i64.wrap (s9.2+(1:Int))))
 else
  some (.br s9)
noncomputable def fS(C:List Sb)(s10:(List Sb)×(List (List Int))×Int):Option (Flow ((List Sb)×(List (List Int))×Bool) ((List Sb)×(List (List Int))×Int)):=
 bif decide (s10.2.2<(s10.1.length:Int)) then
  thenL (ρ:=(Flow ((List Sb)×(List (List Int))×Bool) ((List Sb)×(List (List Int))×Int))) (σ:=(List Sb)×(List (List Int))) (forN (fun (i13:Nat) (s13:(List Sb)×(List (List Int)))=>
   ae (idx C (i13:Int)) fun v58=>
   ae (idx s13.1 s10.2.2) fun v63=>
   ae (idx s13.1 s10.2.2) fun v65=>
   bif decide (v58.Source=v65.Target) then
    ae (idx s13.1 s10.2.2) fun v69=>
    ae (idx s13.1 s10.2.2) fun v70=>
    ae (idx C (i13:Int)) fun v74=>
    ae (spec_l24Compose v70 v74) fun v76=>
    ae (spec_l24At s13.1 v76) fun v79=>
    bif decide ((0:Int)≤v79) then
     some (.nx (s13.1,s13.2))
    else
     bif decide ((s13.1.length:Int)=(400:Int)) then
      some (.rt (.rt (s13.1,s13.2,false)))
     else
      ae (app s13.1 ([v76])) fun v89=>
      ae (idx s13.2 s10.2.2) fun v93=>
      ae (idx s13.2 s10.2.2) fun v94=>
      ae (spec_l1Own v94) fun v95=>
      ae (app v95 ([(i13:Int)])) fun v98=>
      ae (app s13.2 ([v98])) fun v100=>
      some (.nx (v89,v100))
   else
    some (.nx (s13.1,s13.2))) C.length 0 (s10.1,s10.2.1)) fun s13=>
  some (.nx (s13.1,s13.2,IntKind.i64.wrap (s10.2.2+(1:Int))))
 else
  some (.br s10)
/-- What is ft up to place k has been composed with every call that fits. -/
def Closed(C:List Sb)(G:List Sb)(k:Nat):Prop:=∀ i,i<k→∀ j,j<C.length→(C.getD j default).Source=(G.getD i default).Target→cmpG (G.getD i default) (C.getD j default)∈G
structure Good(C:List Sb)(L:List ft):Prop where
 len:L.length≤400
 ok:∀ y∈L,FOk 1000 y
 closed:Closed C (grs L) L.length
theorem rounds{C:List Sb}(hn:C.length≤13)(hC:∀ g∈C,Rise g.Edges∧g.Edges.length≤16):∀ (d:Nat) (L:List ft) (k:Nat),400-k≤d→k≤L.length→L.length≤400→(∀ y∈L,FOk (k+1) y)→Closed C (grs L) k→
 (∃ Lf,Good C Lf∧(∃ i,(lim fun n=>whileN (fI C) n (L,(k:Int)))=some (.inr (Lf,i)))∧∃ i,(lim fun n=>whileN (fS C) n (grs L,pts L,(k:Int)))=some (.inr (grs Lf,pts Lf,i)))∨
 ((lim fun n=>whileN (fI C) n (L,(k:Int)))=some (.inl ([],false))∧∃ l q,(lim fun n=>whileN (fS C) n (grs L,pts L,(k:Int)))=some (.inl (l,q,false))):=by
 have stop:∀ (L:List ft) (k:Nat),k=L.length→L.length≤400→(∀ y∈L,FOk (k+1) y)→Closed C (grs L) k→∃ Lf,Good C Lf∧(∃ i,(lim fun n=>whileN (fI C) n (L,(k:Int)))=some (.inr (Lf,i)))∧∃ i,(lim fun n=>whileN (fS C) n (grs L,pts L,(k:Int)))=some (.inr (grs Lf,pts Lf,i)):=by
  intro L k hk hl hok hcl
  refine⟨L,⟨hl,fun y hy=>⟨(hok y hy).1,(hok y hy).2.1,by have:=(hok y hy).2.2; omega⟩,hk▸hcl⟩,⟨(k:Int),wl_br (s':=(L,(k:Int))) ?_⟩,⟨(k:Int),wl_br (s':=(grs L,pts L,(k:Int))) ?_⟩⟩
  ·rw[fI,decide_eq_false (by simp only; omega),cond_false]
  ·rw[fS,decide_eq_false (by simp only[(grs_len L).1]; omega),cond_false]
 intro d
 induction d with
 | zero=>exact fun L k hd hk hl hok hcl=>.inl (stop L k (by omega) hl hok hcl)
 | succ d ih=>
  intro L k hd hk hl hok hcl
  by_cases e:k=L.length
  ·exact .inl (stop L k e hl hok hcl)
  have hk':k<L.length:=by omega
  have hI:fI C (L,(k:Int))=(bif decide ((400:Int)<((innL C (L.getD k default) L C.length).length:Int)) then some (.rt ([],false)) else some (.nx (innL C (L.getD k default) L C.length,((k+1:Nat):Int)))):=by
   rw[fI,decide_eq_true (by simp only; omega),cond_true]
   simp only[implRound hn hC hok (by omega) hl hk',thenL_inr,wrap_succ (i:=k) (by omega)]
  obtain⟨r,hr,h1,h2⟩:=specRound hn hC hok (by omega) hk' C.length 0 (by omega) (by simpa[innL] using hl)
  have hS:fS C (grs L,pts L,(k:Int))=thenL (some r) fun s13=>some (.nx (s13.1,s13.2,((k+1:Nat):Int))):=by
   rw[fS,decide_eq_true (by simp only[(grs_len L).1]; omega),cond_true]
   simp only[innL] at hr
   simp only[hr,wrap_succ (i:=k) (by omega)]
  have hx:=hok _ (getD_mem' hk')
  by_cases h4:400<(innL C (L.getD k default) L C.length).length
  ·refine .inr ⟨wl_rt (by rw[hI,decide_eq_true (by omega),cond_true]),?_⟩
   obtain⟨l,q,rfl⟩:=h2 h4
   exact⟨l,q,wl_rt (by rw[hS,thenL_inl])⟩
  ·rw[wl_nx (by rw[hI,decide_eq_false (by omega),cond_false]:fI C (L,(k:Int))=some (.nx (innL C (L.getD k default) L C.length,((k+1:Nat):Int))))]
   have hr':=h1 (by omega)
   rw[wl_nx (by rw[hS,hr',thenL_inr]:fS C (grs L,pts L,(k:Int))=some (.nx (grs (innL C (L.getD k default) L C.length),pts (innL C (L.getD k default) L C.length),((k+1:Nat):Int))))]
   have hpre:=innL_pre C (L.getD k default) L 0 C.length (by omega)
   have hle:=hpre.length_le
   simp only[innL] at hpre hle
   refine ih _ (k+1) (by omega) (by omega) (by omega) (innL_ok hC hx hok C.length (aV _)) ?_
   intro i hi j hj hs
   have hg:∀ i,i<L.length→(grs (innL C (L.getD k default) L C.length)).getD i default=(grs L).getD i default:=by
    intro i hi
    rw[(grs_getD (by omega)).1,(grs_getD hi).1,pre_getD hpre hi]
   rw[hg i (by omega)] at hs ⊢
   by_cases ei:i=k
   ·subst ei
    rw[(grs_getD hk').1] at hs ⊢
    exact innL_known _ _ hj hs
   ·obtain⟨t,ht⟩:=hpre
    have:=hcl i (by omega) j hj hs
    rw[← ht,grs,List.map_append]
    exact List.mem_append.2 (.inl this)
theorem implInit{C:List Sb}{ρ:Type}(hn:C.length≤13)(hC:∀ g∈C,Rise g.Edges∧g.Edges.length≤16):forN (ρ:=ρ) (fun (i4:Nat) (s4:(List ft))=>
 ae (idx C (i4:Int)) fun v19=>
 ae (impl_copyGraph v19) fun v23=>
 ae (impl_closure_1 v23 ([(i4:Int)]) s4) fun v26=>
 some (.nx v26.2)) C.length 0 ([])=some (.inr (iniL C C.length)):=by
 obtain⟨s',h1,h2⟩:=forN_inv (ρ:=ρ) (f:=fun (i4:Nat) (s4:(List ft))=>
  ae (idx C (i4:Int)) fun v19=>
  ae (impl_copyGraph v19) fun v23=>
  ae (impl_closure_1 v23 ([(i4:Int)]) s4) fun v26=>
  some (.nx v26.2)) (fun i s=>s=iniL C i) C.length 0 [] rfl (fun j s _ hj hs=>by
  subst hs
  have hj:j<C.length:=by omega
  have hg:=hC _ (getD_mem' hj)
  have hl:=iniL_len C j
  have hcp:impl_copyGraph (C.getD j default)=some (C.getD j default):=by
   simp only[impl_copyGraph,slices_Clone_Simpl_SizeEdge_impl_SizeEdge,appNil _ (show(C.getD j default).Edges.length≤1000000 by omega),aq]
  simp only[idx_getD hj,hcp,aq,implAdd _ _ _ (show(iniL C j).length≤1000 by omega)]
  exact⟨_,rfl,rfl⟩)
 rw[h1,h2,Nat.zero_add]
theorem specInit{C:List Sb}{ρ:Type}(hn:C.length≤13)(hC:∀ g∈C,Rise g.Edges∧g.Edges.length≤16):forN (ρ:=ρ) (fun (i4:Nat) (s4:(List Sb)×(List (List Int)))=>
 ae (idx C (i4:Int)) fun v24=>
 ae (spec_l24At s4.1 v24) fun v26=>
 bif decide (v26<(0:Int)) then
  ae (idx C (i4:Int)) fun v32=>
  ae (spec_l24Own v32) fun v34=>
  ae (app s4.1 ([v34])) fun v36=>
  ae (app s4.2 ([[(i4:Int)]])) fun v41=>
  some (.nx (v36,v41))
 else
  some (.nx (s4.1,s4.2))) C.length 0 ([],[])=some (.inr (grs (iniL C C.length),pts (iniL C C.length))):=by
 obtain⟨s',h1,h2⟩:=forN_inv (ρ:=ρ) (f:=fun (i4:Nat) (s4:(List Sb)×(List (List Int)))=>
  ae (idx C (i4:Int)) fun v24=>
  ae (spec_l24At s4.1 v24) fun v26=>
  bif decide (v26<(0:Int)) then
   ae (idx C (i4:Int)) fun v32=>
   ae (spec_l24Own v32) fun v34=>
   ae (app s4.1 ([v34])) fun v36=>
   ae (app s4.2 ([[(i4:Int)]])) fun v41=>
   some (.nx (v36,v41))
  else
   some (.nx (s4.1,s4.2))) (fun i s=>s=(grs (iniL C i),pts (iniL C i))) C.length 0 ([],[]) rfl (fun j s _ hj hs=>by
  subst hs
  have hj:j<C.length:=by omega
  have hg:=hC _ (getD_mem' hj)
  have hl:=iniL_len C j
  have hl2:=grs_len (iniL C j)
  obtain⟨a,ha,hb⟩:=specAt (grs (iniL C j)) (C.getD j default)
  have hq:=addF_grs (iniL C j) (C.getD j default) [(j:Int)]
  have hown:spec_l24Own (C.getD j default)=some (C.getD j default):=by
   simp only[spec_l24Own,appNil _ (show(C.getD j default).Edges.length≤1000000 by omega),aq]
  simp only[idx_getD hj,ha,aq,hown,app1' _ (show(grs (iniL C j)).length≤1000000 by omega),app1' _ (show(pts (iniL C j)).length≤1000000 by omega)]
  rw[iniL]
  cases hkn:knownB (grs (iniL C j)) (C.getD j default) with
  | true=>
   rw[hkn] at hq hb
   rw[decide_eq_false (by have:=of_decide_eq_true hb; omega),cond_false]
   exact⟨_,rfl,by rw[hq.1,hq.2]; rfl⟩
  | false=>
   rw[hkn] at hq hb
   rw[decide_eq_true (by have:=of_decide_eq_false hb; omega),cond_true]
   exact⟨_,rfl,by rw[hq.1,hq.2]; rfl⟩)
 rw[h1,h2,Nat.zero_add]
theorem dblI{α β:Type}(x:Option α)(f:α→Option β):(ae x fun _=>ae x f)=ae x f:=by cases x<;>rfl
theorem closure_both(p:Ct)(hn:p.Calls.length≤13)(hC:∀ g∈p.Calls,Rise g.Edges∧g.Edges.length≤16):
 (∃ L,Good p.Calls L∧impl_closure p=some (L,true)∧spec_l24Closure p=some (grs L,pts L,true))∨(impl_closure p=some ([],false)∧∃ l q,spec_l24Closure p=some (l,q,false)):=by
 have hi:=iniL_len p.Calls p.Calls.length
 have eI:impl_closure p=thenL (ρ:=((List ft)×Bool)) (lim fun n=>whileN (fI p.Calls) n (iniL p.Calls p.Calls.length,((0:Nat):Int))) fun s9=>some (s9.1,true):=by
  unfold impl_closure
  rw[implInit hn hC,thenL_inr]
  first
   | rfl
   | (unfold fI; simp only[dblI]; rfl)
 have eS:spec_l24Closure p=thenL (ρ:=((List Sb)×(List (List Int))×Bool)) (lim fun n=>whileN (fS p.Calls) n (grs (iniL p.Calls p.Calls.length),pts (iniL p.Calls p.Calls.length),((0:Nat):Int))) fun s10=>some (s10.1,s10.2.1,true):=by
  unfold spec_l24Closure
  rw[specInit hn hC,thenL_inr]
  rfl
 rw[eI,eS]
 rcases rounds hn hC 400 (iniL p.Calls p.Calls.length) 0 (by omega) (by omega) (by omega) (iniL_ok hC _ (aV _)) (fun i h=>by omega) with⟨L,hg,⟨i,h1⟩,j,h2⟩ | ⟨h1,l,q,h2⟩
 ·rw[h1,h2]; exact .inl ⟨L,hg,rfl,rfl⟩
 ·rw[h1,h2]; exact .inr ⟨rfl,l,q,rfl⟩
end
section
theorem valid_callsG{p:Ct}(h:validP p=true):p.Calls.length≤12∧∀ g∈p.Calls,validG g=true:=by
 unfold validP at h
 simp only[aA,decide_eq_true_iff,a7] at h
 refine⟨h.1.1.2,fun g hg=>?_⟩
 have:=h.2 g hg
 unfold callOk at this
 simp only[aA] at this
 first | exact this.1 | exact this.1.1 | exact this.1.1.1 | exact this.1.1.1.1
theorem validR{g:Sb}(h:validG g=true):Rise g.Edges∧g.Edges.length≤16:=by
 obtain⟨h1,h2⟩:=valid_rise h
 refine⟨⟨h1,h2⟩,?_⟩
 have:=rise_len g.Edges 0 (by omega) h2 (fun e he=>by have:=code_ok (h1 e he); unfold code; omega)
 omega
theorem cn_len:∀ l:List Sa,lcn Sa.cn l=3*l.length
 | []=>by rw[lcn_nil]; rfl
 | e::l=>by rw[lcn_cons,cn_len l,Sa.cn_u,a5]; omega
theorem ints_len:∀ l:List Int,lcn (fun _=>1) l=l.length
 | []=>by rw[lcn_nil]; rfl
 | e::l=>by rw[lcn_cons,ints_len l,a5]; omega
theorem gcn_tot:∀ l:List Sb,lcn Sb.cn l≤5*ltot Sb.tot l
 | []=>by rw[lcn_nil]; exact Nat.zero_le _
 | g::l=>by
  have h:=gcn_tot l
  have h1:g.Edges.length≤g.tot:=by unfold Sb.tot; exact ltot_len _ _
  rw[lcn_cons]
  have h2:Sb.cn g=2+3*g.Edges.length:=by rw[Sb.cn_u,cn_len]
  rw[h2]
  simp only[ltot,List.map_cons,List.sum_cons,a5] at h ⊢
  omega
theorem mark_cyclic(p:Ct)(ht:p.tot≤1048576):∃ (k:Int) (y:List Int×List Sb),1≤k∧k≤100000000∧markCyclicProof p 1=some (k,y):=by
 unfold Ct.tot at ht
 have h0:=ints_len p.Arities
 have h1:=gcn_tot p.Calls
 have h2:=ltot0 p.Arities
 obtain⟨y0,y1,m⟩:=markCyclicProof_mk p (k:=1) (by omega) (by omega)
 exact⟨_,_,by omega,by omega,m⟩
end
section
def pickR{ρ:Type}(b:Nat→Bool)(v:Nat→ρ):Nat→Nat→ρ ⊕ Unit
 | 0,_=>.inr ()
 | n+1,i=>bif b i then .inl (v i) else pickR b v n (i+1)
theorem forN_pick{ρ:Type}{f:Nat→Unit→Option (Flow ρ Unit)}(b:Nat→Bool)(v:Nat→ρ):∀ (n i:Nat),(∀ j,i≤j→j<i+n→f j ()=some (bif b j then .rt (v j) else .nx ()))→forN f n i ()=some (pickR b v n i)
 | 0,_,_=>rfl
 | n+1,i,h=>by
  have h0:=h i (by omega) (by omega)
  unfold pickR
  cases hb:b i with
  | true=>rw[hb] at h0; simp only[forN,h0,cond_true,aq]
  | false=>
   rw[hb] at h0
   rw[cond_false,forN_nx (s':=()) h0]
   exact forN_pick b v n (i+1) (fun j h1 h2=>h j (by omega) (by omega))
theorem pickR_in{ρ:Type}(b:Nat→Bool)(v:Nat→ρ):∀ (n i:Nat),pickR b v n i=.inr ()∨∃ j,i≤j∧j<i+n∧pickR b v n i=.inl (v j)
 | 0,_=>.inl rfl
 | n+1,i=>by
  unfold pickR
  cases b i with
  | true=>exact .inr ⟨i,by omega,by omega,rfl⟩
  | false=>
   rcases pickR_in b v n (i+1) with h | ⟨j,h1,h2,h3⟩
   ·exact .inl h
   ·exact .inr ⟨j,by omega,by omega,h3⟩
noncomputable def idemB(g:Sb):Bool:=decide (g.Source=g.Target)&&sameB (cmpG g g) g
theorem idem_impl{g:Sb}(h:Rise g.Edges):impl_isIdempotent g=some (idemB g):=by
 unfold impl_isIdempotent idemB
 obtain⟨h1,_⟩:=cmpG_ok h h
 rw[h1,aq,implSame,aq]
 cases decide (g.Source=g.Target)<;>rfl
theorem idem_spec{g:Sb}(h:Rise g.Edges):spec_l24Idempotent g=some (idemB g):=by
 unfold spec_l24Idempotent idemB
 obtain⟨_,h1,_⟩:=cmpG_ok h h
 rw[h1,aq,specSame,aq]
 cases decide (g.Source=g.Target)<;>rfl
def descE(e:Sa):Bool:=decide (e.From=e.To)&&e.Strict
theorem desc_impl(l:List Sa):slices_ContainsFunc_Simpl_SizeEdge_impl_SizeEdge l (fun y0=>impl_TraceDefect_1 y0)=some (l.any descE):=by
 unfold slices_ContainsFunc_Simpl_SizeEdge_impl_SizeEdge slices_IndexFunc_Simpl_SizeEdge_impl_SizeEdge
 exact find_list (p:=descE) l (fun e _=>by unfold impl_TraceDefect_1 descE; cases decide (e.From=e.To)<;>rfl)
theorem desc_spec(g:Sb):spec_l24Descends g=some (g.Edges.any descE):=by
 unfold spec_l24Descends
 rw[forN_all (fun j=>!descE (g.Edges.getD j default)) (r0:=true) (fun j hj _=>by
  simp only[idx_getD hj,aq,descE]
  cases decide ((g.Edges.getD j default).From=(g.Edges.getD j default).To)<;>cases (g.Edges.getD j default).Strict<;>rfl)]
 have e:((List.range g.Edges.length).all fun j=>!descE (g.Edges.getD j default))=!g.Edges.any descE:=by
  rw[← range_any_list (p:=descE),← List.not_any_eq_all_not]
 rw[e]
 cases g.Edges.any descE<;>rfl
theorem td_both(p:Ct)(hp:p.Ok):∃ q ok,impl_TraceDefect p=some (q,ok)∧spec_TraceDefect p=some (q,ok)∧q.length≤1000:=by
 unfold impl_TraceDefect spec_TraceDefect
 rw[implP p hp,specP p hp,aq,aq]
 cases hv:validP p with
 | false=>exact⟨_,_,rfl,rfl,by simp⟩
 | true=>
  simp only[cond_true]
  obtain⟨hn,hg⟩:=valid_callsG hv
  rcases closure_both p (by omega) (fun g h=>validR (hg g h)) with⟨L,hL,h1,h2⟩ | ⟨h1,l,q,h2⟩
  ·rw[h1,h2]
   simp only[aq,cond_true]
   have hm:∀ j,j<L.length→FOk 1000 (L.getD j default):=fun j hj=>hL.ok _ (getD_mem hj)
   rw[forN_pick (fun j=>idemB (L.getD j default).graph&&!(L.getD j default).graph.Edges.any descE) (fun j=>((L.getD j default).path,true)) L.length 0 (fun j _ hj=>by
    have hj:j<L.length:=by omega
    rw[idx_getD hj,aq,idem_impl (hm j hj).1,aq,desc_impl,aq]
    cases idemB (L.getD j default).graph<;>cases (L.getD j default).graph.Edges.any descE<;>rfl),
    (grs_len L).1,forN_pick (fun j=>idemB (L.getD j default).graph&&!(L.getD j default).graph.Edges.any descE) (fun j=>((L.getD j default).path,true)) L.length 0 (fun j _ hj=>by
     have hj:j<L.length:=by omega
     have e1:idx (grs L) (j:Int)=some (L.getD j default).graph:=by rw[idx_getD (by rw[(grs_len L).1]; exact hj),(grs_getD hj).1]
     have e2:idx (pts L) (j:Int)=some (L.getD j default).path:=by rw[idx_getD (by rw[(grs_len L).2]; exact hj),(grs_getD hj).2]
     rw[e1,e2,aq,aq,idem_spec (hm j hj).1,aq,aq,aq,desc_spec,aq,aq,aq]
     cases idemB (L.getD j default).graph<;>cases (L.getD j default).graph.Edges.any descE<;>rfl)]
   rcases pickR_in (fun j=>idemB (L.getD j default).graph&&!(L.getD j default).graph.Edges.any descE) (fun j=>((L.getD j default).path,true)) L.length 0 with h | ⟨j,_,h4,h⟩
   ·rw[h]; exact⟨_,_,rfl,rfl,by simp⟩
   ·rw[h]; exact⟨_,_,rfl,rfl,(hm j (by omega)).2.2⟩
  ·rw[h1,h2]
   simp only[aq,cond_false]
   exact⟨_,_,rfl,rfl,by simp⟩
theorem FnExactTraceDefect_true(p:Ct)(hp:p.Ok):FnExactTraceDefect p=some true:=by
 unfold FnExactTraceDefect
 rw[szCyclicProof_eq p hp _ (by omega) (by omega),aq]
 by_cases e:szR p.tot 1048576<0
 ·rw[decide_eq_true e]; rfl
 have h1:=szR_ok e
 rw[decide_eq_false e,cond_false]
 obtain⟨q,c,k1,k2,k3⟩:=td_both p hp
 have cg:=ints_len q
 obtain⟨k,y,z1,z2,m1⟩:=mark_cyclic p h1
 obtain⟨y3,m3,m4⟩:=(markIntS_held q).unit (k:=1) (by omega) (by omega)
 have d1:decide (k<0)=false:=decide_eq_false (by omega)
 have d2:decide ((1:Int)+((lcn (fun _=>1) q:Nat):Int)<0)=false:=decide_eq_false (by omega)
 simp only[toCyclicProof_eq p h1,aq,k1,k2,eqIntS_refl,eqCyclicProof_refl,cond_true,beq_self_eq_true,m1,m3,m4,d1,d2,cond_false,decide_true]
end
end Go.Proofs.Ytjpljobgioglmaa
