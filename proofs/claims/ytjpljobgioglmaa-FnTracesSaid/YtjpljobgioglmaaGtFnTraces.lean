/- Lemmas of the proof; each says what it shows. -/
import Derived.Test.YtjpljobgioglmaaGp
import Derived.Test.YtjpljobgioglmaaAvS
import Derived.Test.YtjpljobgioglmaaGm
import Derived.Test.YtjpljobgioglmaaAvF5
set_option linter.unusedSimpArgs false
set_option linter.unusedVariables false
set_option linter.defProp false
namespace Go.Proofs.Ytjpljobgioglmaa
open Go.Av
open Bool renaming and_eq_true→aB
open List renaming mem_append→aT,mem_cons→bk,length_append→aI,length_cons→a9,length_nil→bj,all_eq_true→bf,append_nil→bw,append_assoc→aP
open Nat renaming le_refl→aZ
open Option renaming bind_some→ah,bind→ae
section
theorem within_eq(a lo hi:Int):impl_within a lo hi=some (inR a lo hi):=cond_inR a lo hi
theorem l1In_eq(a lo hi:Int):spec_l1In a lo hi=some (inR a lo hi):=cond_inR a lo hi
def cmpI(a b:Int):Int:=if a<b then -1 else if b<a then 1 else 0
theorem isNaN_eq(a:Int):cmp_isNaN_int a=some false:=by simp[cmp_isNaN_int]
theorem Compare_eq(a b:Int):cmp_Compare_int a b=some (cmpI a b):=by
 simp only[cmp_Compare_int,isNaN_eq,ah,cond_false]
 unfold cmpI
 by_cases h:a<b
 ·simp[h]
 ·by_cases h':b<a<;>simp[h,h']
theorem Or2_eq(a b:Int):cmp_Or_int [a,b]=some (if a=0 then b else a):=by
 unfold cmp_Or_int
 simp only[forN_idx]
 by_cases h:a=0
 ·rw[forL_nx (s':=()) (by simp[h])]
  by_cases h':b=0
  ·rw[forL_nx (s':=()) (by simp[h'])]; simp[forL,thenL_inr,h,h']
  ·rw[forL_rt (r:=b) (by simp[h']),thenL_inl]; simp[h]
 ·rw[forL_rt (r:=a) (by simp[h]),thenL_inl]; simp[h]
end
section
def cmpE(a b:Sa):Int:=if cmpI a.From b.From=0 then cmpI a.To b.To else cmpI a.From b.From
theorem compareEdges_eq(a b:Sa):impl_compareEdges a b=some (cmpE a b):=by
 simp only[impl_compareEdges,Compare_eq,Or2_eq,ah,cmpE]
def edgeOk(e:Sa):Bool:=inR e.From 0 3&&inR e.To 0 3
def edgeC(xs:List Sa)(i:Nat):Bool:=edgeOk (xs.getD i default)&&(decide (i=0)||decide (cmpE (xs.getD (i-1) default) (xs.getD i default)<0))
def validG(g:Sb):Bool:=inR g.Source 0 5&&inR g.Target 0 5&&(List.range g.Edges.length).all (edgeC g.Edges)
theorem cmpE_key{p e:Sa}(hp:edgeOk p=true)(he:edgeOk e=true):(0≤cmpE p e)↔(wr (wr (e.From*4)+e.To)≤wr (wr (p.From*4)+p.To)):=by
 simp only[edgeOk,aB,inR_iff] at hp he
 rw[wr64 (n:=e.From*4) (by omega) (by omega),wr64 (n:=p.From*4) (by omega) (by omega),wr64 (n:=e.From*4+e.To) (by omega) (by omega),wr64 (n:=p.From*4+p.To) (by omega) (by omega)]
 unfold cmpE cmpI
 repeat' split
 all_goals omega
theorem implV(g:Sb)(hb:Big g.Edges.length):impl_IsValidGraph g=some (validG g):=by
 unfold impl_IsValidGraph
 rw[forN_all (edgeC g.Edges)]
 ·simp only[within_eq,ah,validG]
  cases inR g.Source 0 5<;>cases inR g.Target 0 5<;>cases (List.range g.Edges.length).all (edgeC g.Edges)<;>rfl
 ·intro j hj _
  simp only[idx_getD hj,within_eq,compareEdges_eq,ah]
  simp only[edgeC,edgeOk]
  by_cases h0:j=0
  ·subst h0
   cases inR (g.Edges.getD 0 default).From 0 3<;>cases inR (g.Edges.getD 0 default).To 0 3<;>simp
  ·have h1:(0:Int)<(j:Int):=by omega
   simp only[idx_pred hj (by omega) (by simp only[Big] at hb; omega),ah,decide_eq_true h1,cond_true,h0,decide_false,Bool.false_or]
   cases inR (g.Edges.getD j default).From 0 3<;>cases inR (g.Edges.getD j default).To 0 3<;>simp only[cond_true,cond_false,Bool.true_and,Bool.false_and,Bool.and_self,Bool.and_false]
   by_cases h2:cmpE (g.Edges.getD (j-1) default) (g.Edges.getD j default)<0
   ·have:¬ 0≤cmpE (g.Edges.getD (j-1) default) (g.Edges.getD j default):=by omega
    rw[decide_eq_true h2,decide_eq_false this]; rfl
   ·have:0≤cmpE (g.Edges.getD (j-1) default) (g.Edges.getD j default):=by omega
    rw[decide_eq_false h2,decide_eq_true this]; rfl
theorem specG(g:Sb)(hb:Big g.Edges.length):spec_l24Graph g=some (validG g):=by
 unfold spec_l24Graph
 rw[forN_all (edgeC g.Edges)]
 ·simp only[l1In_eq,ah,validG]
  cases inR g.Source 0 5<;>cases inR g.Target 0 5<;>cases (List.range g.Edges.length).all (edgeC g.Edges)<;>rfl
 ·intro j hj hk
  simp only[idx_getD hj,l1In_eq,ah]
  simp only[edgeC]
  by_cases h0:j=0
  ·subst h0
   unfold edgeOk
   cases inR (g.Edges.getD 0 default).From 0 3<;>cases inR (g.Edges.getD 0 default).To 0 3<;>simp
  ·have h1:(0:Int)<(j:Int):=by omega
   have hp:edgeOk (g.Edges.getD (j-1) default)=true:=by
    have:=hk (j-1) (by omega)
    simp only[edgeC,aB] at this
    exact this.1
   simp only[idx_pred hj (by omega) (by simp only[Big] at hb; omega),ah,decide_eq_true h1,cond_true,h0,decide_false,Bool.false_or]
   by_cases he:edgeOk (g.Edges.getD j default)=true
   ·have key:=cmpE_key hp he
    rw[he,Bool.true_and]
    simp only[edgeOk,aB] at he
    rw[he.1,he.2,cond_true,cond_true]
    by_cases h2:cmpE (g.Edges.getD (j-1) default) (g.Edges.getD j default)<0
    ·have h3:¬ (wr (wr ((g.Edges.getD j default).From*4)+(g.Edges.getD j default).To)≤wr (wr ((g.Edges.getD (j-1) default).From*4)+(g.Edges.getD (j-1) default).To)):=by rw[← key]; omega
     rw[decide_eq_false h3,decide_eq_true h2]; rfl
    ·have h3:=key.1 (by omega)
     rw[decide_eq_true h3,decide_eq_false h2]; rfl
   ·have he':edgeOk (g.Edges.getD j default)=false:=by simpa using he
    rw[he',Bool.false_and]
    unfold edgeOk at he'
    cases h3:inR (g.Edges.getD j default).From 0 3
    ·rfl
    ·rw[h3,Bool.true_and] at he'
     rw[he']; rfl
end
section
/-! Edges in order, by a table of levels -/
def code(e:Sa):Nat:=e.From.toNat*4+e.To.toNat
theorem code_ok{e:Sa}(h:edgeOk e=true):(0≤e.From∧e.From≤3)∧0≤e.To∧e.To≤3:=by
 simpa only[edgeOk,aB,inR_iff] using h
theorem code_inj{a b:Sa}(ha:edgeOk a=true)(hb:edgeOk b=true)(h:code a=code b):a.From=b.From∧a.To=b.To:=by
 have h1:=code_ok ha
 have h2:=code_ok hb
 unfold code at h
 omega
theorem edge_ext{a b:Sa}(h1:a.From=b.From)(h2:a.To=b.To)(h3:a.Strict=b.Strict):a=b:=by
 cases a; cases b; simp only at h1 h2 h3; subst h1 h2 h3; rfl
def Rep(s:List Sa)(f:Nat→Nat):Prop:=s.Pairwise (fun a b=>code a<code b)∧(∀ k,f k≤2)∧∀ e,e∈s↔edgeOk e=true∧0<f (code e)∧e.Strict=decide (f (code e)=2)
theorem rise_unique:∀ {s t:List Sa},s.Pairwise (fun a b=>code a<code b)→t.Pairwise (fun a b=>code a<code b)→(∀ e,e∈s↔e∈t)→s=t
 | [],[],_,_,_=>rfl
 | [],b::t,_,_,h=>by have:=(h b).2 (by simp); cases this
 | a::s,[],_,_,h=>by have:=(h a).1 (by simp); cases this
 | a::s,b::t,hs,ht,h=>by
  rw[List.pairwise_cons] at hs ht
  have e:a=b:=by
   rcases List.mem_cons.1 ((h a).1 (by simp)) with e | ha
   ·exact e
   rcases List.mem_cons.1 ((h b).2 (by simp)) with e | hb
   ·exact e.symm
   have h1:=ht.1 a ha
   have h2:=hs.1 b hb
   omega
  subst e
  congr 1
  refine rise_unique hs.2 ht.2 (fun e=>⟨fun he=>?_,fun he=>?_⟩)
  ·rcases List.mem_cons.1 ((h e).1 (by simp[he])) with rfl | h'
   ·have:=hs.1 e he; omega
   ·exact h'
  ·rcases List.mem_cons.1 ((h e).2 (by simp[he])) with rfl | h'
   ·have:=ht.1 e he; omega
   ·exact h'
theorem Rep.unique{s t:List Sa}{f:Nat→Nat}(hs:Rep s f)(ht:Rep t f):s=t:=rise_unique hs.1 ht.1 (fun e=>by rw[hs.2.2,ht.2.2])
theorem Rep.congr{s:List Sa}{f g:Nat→Nat}(hs:Rep s f)(h:∀ k,k<16→f k=g k)(hg:∀ k,g k≤2):Rep s g:=by
 refine⟨hs.1,hg,fun e=>?_⟩
 rw[hs.2.2]
 refine and_congr_right (fun he=>?_)
 rw[h (code e) (by have:=code_ok he; unfold code; omega)]
theorem Rep.nil:Rep [] (fun _=>0):=⟨List.Pairwise.nil,fun _=>Nat.zero_le _,fun e=>by simp⟩
def lv(b:Bool):Nat:=if b then 2 else 1
def updM(f:Nat→Nat)(c l:Nat):Nat→Nat:=fun k=>if k=c then max (f k) l else f k
theorem updM_le{f:Nat→Nat}(h:∀ k,f k≤2)(c:Nat)(b:Bool)(k:Nat):updM f c (lv b) k≤2:=by
 unfold updM lv
 have:=h k
 split<;>cases b<;>simp<;>omega
theorem Rep.new{pre suf:List Sa}{f:Nat→Nat}{x:Sa}(hr:Rep (pre++suf) f)(hx:edgeOk x=true)(h1:∀ e∈pre,code e<code x)(h2:∀ e∈suf,code x<code e):Rep (pre++[x]++suf) (updM f (code x) (lv x.Strict)):=by
 obtain⟨p1,p2,p3⟩:=hr
 have h0:f (code x)=0:=by
  have:=p3 ⟨x.From,x.To,decide (f (code x)=2)⟩
  have hc:code ⟨x.From,x.To,decide (f (code x)=2)⟩=code x:=rfl
  rw[hc] at this
  have hnot:¬ (⟨x.From,x.To,decide (f (code x)=2)⟩:Sa)∈pre++suf:=fun hm=>by
   rcases List.mem_append.1 hm with hm | hm
   ·have:=h1 _ hm; rw[hc] at this; omega
   ·have:=h2 _ hm; rw[hc] at this; omega
  rw[this] at hnot
  have hpos:¬ 0<f (code x):=fun hp=>hnot ⟨hx,hp,rfl⟩
  omega
 refine⟨?_,updM_le p2 _ _,fun e=>?_⟩
 ·rw[List.pairwise_append] at p1 ⊢
  refine⟨List.pairwise_append.2 ⟨p1.1,List.pairwise_singleton _ _,fun a ha b hb=>?_⟩,p1.2.1,fun a ha b hb=>?_⟩
  ·rw[List.mem_singleton] at hb; subst hb; exact h1 a ha
  ·rcases List.mem_append.1 ha with ha | ha
   ·exact p1.2.2 a ha b hb
   ·rw[List.mem_singleton] at ha; subst ha; exact h2 b hb
 ·by_cases hc:code e=code x
  ·have hns:¬ (e∈pre∨e∈suf):=fun hm=>by
    rcases hm with hm | hm
    ·have:=h1 _ hm; omega
    ·have:=h2 _ hm; omega
   have:e∈pre++[x]++suf↔e=x:=by
    simp only[aT,List.mem_singleton]
    constructor
    ·rintro ((h | h) | h)
     ·exact absurd (.inl h) hns
     ·exact h
     ·exact absurd (.inr h) hns
    ·rintro h; exact .inl (.inr h)
   rw[this]
   unfold updM
   rw[if_pos hc,hc,h0]
   constructor
   ·rintro rfl; refine⟨hx,?_,?_⟩<;>cases e.Strict<;>decide
   ·rintro ⟨q1,_,q3⟩
    obtain⟨q4,q5⟩:=code_inj q1 hx hc
    refine edge_ext q4 q5 (q3.trans ?_)
    cases x.Strict<;>decide
  ·have:e∈pre++[x]++suf↔e∈pre++suf:=by
    simp only[aT,List.mem_singleton]
    constructor
    ·rintro ((h | h) | h)
     ·exact .inl h
     ·subst h; exact absurd rfl hc
     ·exact .inr h
    ·rintro (h | h)
     ·exact .inl (.inl h)
     ·exact .inr h
   rw[this,p3]
   unfold updM
   rw[if_neg hc]
theorem Rep.set{pre suf:List Sa}{f:Nat→Nat}{y:Sa}{b:Bool}(hr:Rep (pre++y::suf) f):Rep (pre++⟨y.From,y.To,y.Strict||b⟩::suf) (updM f (code y) (lv b)):=by
 obtain⟨p1,p2,p3⟩:=hr
 have hy:=(p3 y).1 (by simp)
 have hc0:code ⟨y.From,y.To,y.Strict||b⟩=code y:=rfl
 have hp:=p1
 rw[List.pairwise_append,List.pairwise_cons] at p1
 refine⟨?_,updM_le p2 _ _,fun e=>?_⟩
 ·rw[List.pairwise_append,List.pairwise_cons]
  refine⟨p1.1,⟨fun a ha=>?_,p1.2.1.2⟩,fun a ha c hc=>?_⟩
  ·rw[hc0]; exact p1.2.1.1 a ha
  ·rcases List.mem_cons.1 hc with rfl | hc
   ·rw[hc0]; exact p1.2.2 a ha y (by simp)
   ·exact p1.2.2 a ha c (by simp[hc])
 ·by_cases hc:code e=code y
  ·have hns:¬ (e∈pre∨e∈suf):=fun hm=>by
    rcases hm with hm | hm
    ·have:=p1.2.2 e hm y (by simp); omega
    ·have:=p1.2.1.1 e hm; omega
   have:e∈pre++⟨y.From,y.To,y.Strict||b⟩::suf↔e=⟨y.From,y.To,y.Strict||b⟩:=by
    simp only[aT,bk]
    constructor
    ·rintro (h | h | h)
     ·exact absurd (.inl h) hns
     ·exact h
     ·exact absurd (.inr h) hns
    ·rintro h; exact .inr (.inl h)
   rw[this]
   unfold updM
   rw[if_pos hc,hc]
   have h2:=p2 (code y)
   have hpos:=hy.2.1
   have key:(y.Strict||b)=decide (max (f (code y)) (lv b)=2):=by
    rw[hy.2.2]
    unfold lv
    cases b
    ·rw[Bool.or_false]; exact decide_eq_decide.2 (by simp; omega)
    ·rw[Bool.or_true]; exact(decide_eq_true (by simp; omega)).symm
   constructor
   ·rintro rfl; exact⟨hy.1,by omega,key⟩
   ·rintro ⟨q1,_,q3⟩
    obtain⟨q4,q5⟩:=code_inj q1 hy.1 hc
    exact edge_ext q4 q5 (q3.trans key.symm)
  ·have:e∈pre++⟨y.From,y.To,y.Strict||b⟩::suf↔e∈pre++y::suf:=by
    simp only[aT,bk]
    constructor
    ·rintro (h | h | h)
     ·exact .inl h
     ·subst h; exact absurd rfl hc
     ·exact .inr (.inr h)
    ·rintro (h | h | h)
     ·exact .inl h
     ·subst h; exact absurd rfl hc
     ·exact .inr (.inr h)
   rw[this,p3]
   unfold updM
   rw[if_neg hc]
/-! impl: the search and one step -/
theorem cmpE_lt{a b:Sa}(ha:edgeOk a=true)(hb:edgeOk b=true):(cmpE a b<0↔code a<code b)∧(cmpE a b=0↔code a=code b):=by
 have h1:=code_ok ha
 have h2:=code_ok hb
 unfold cmpE cmpI code
 constructor<;>(repeat' split)<;>constructor<;>intro h<;>omega
theorem Rep.ok{s:List Sa}{f:Nat→Nat}(hr:Rep s f):∀ e∈s,edgeOk e=true:=fun e he=>((hr.2.2 e).1 he).1
theorem Rep.rise{s:List Sa}{f:Nat→Nat}(hr:Rep s f){i j:Nat}(hij:i<j)(hj:j<s.length):code (s.getD i default)<code (s.getD j default):=by
 have:=List.pairwise_iff_getElem.1 hr.1 i j (by omega) hj hij
 simpa[List.getD,hj,show i<s.length by omega] using this
theorem search_ok{s:List Sa}{f:Nat→Nat}(hr:Rep s f)(hlen:s.length≤1000){x:Sa}(hx:edgeOk x=true):
 ∃ p:Nat,p≤s.length∧slices_BinarySearchFunc_Simpl_SizeEdge_impl_SizeEdge_impl_SizeEdge s x (fun y0 y1=>impl_compareEdges y0 y1)=some ((p:Int),decide (p<s.length)&&decide (code (s.getD p default)=code x))∧
  (∀ k,k<p→code (s.getD k default)<code x)∧(∀ k,p≤k→k<s.length→code x≤code (s.getD k default)):=by
 have hok:∀ i,i<s.length→edgeOk (s.getD i default)=true:=fun i hi=>hr.ok _ (getD_mem hi)
 unfold slices_BinarySearchFunc_Simpl_SizeEdge_impl_SizeEdge_impl_SizeEdge
 obtain⟨p,g1,g2,g3,g4⟩:=bs_loop (ρ:=Int×Bool) (q:=fun i=>decide (code (s.getD i default)<code x)) (N:=s.length) (by omega) (fun i j h1 h2 h3=>by
  have:=hr.rise h1 h2
  rw[decide_eq_true_iff] at h3 ⊢
  omega)
  (f:=fun s3=>bif decide (s3.1<s3.2) then
   ae (shr .u64 (IntKind.u64.wrap (IntKind.i64.wrap (s3.1+s3.2))) (1:Int)) fun v22=>
   ae (idx s (IntKind.i64.wrap v22)) fun v27=>
   ae (impl_compareEdges v27 x) fun v30=>
   bif decide (v30<(0:Int)) then
    some (.nx (IntKind.i64.wrap ((IntKind.i64.wrap v22)+(1:Int)),s3.2))
   else
    some (.nx (s3.1,IntKind.i64.wrap v22))
  else
   some (.br s3))
  (fun i j h1 h2=>by
   simp only
   rw[decide_eq_true (by omega),cond_true,bs_mid (by omega),ah]
   have e:IntKind.i64.wrap (((i+j) / 2:Nat):Int)=(((i+j) / 2:Nat):Int):=by rw[wrap64]<;>omega
   rw[e,idx_getD (by omega),ah,compareEdges_eq,ah]
   have e2:IntKind.i64.wrap ((((i+j) / 2:Nat):Int)+1)=(((i+j) / 2+1:Nat):Int):=by rw[wrap64]<;>omega
   rw[e2,show decide (cmpE (s.getD ((i+j) / 2) default) x<0)=decide (code (s.getD ((i+j) / 2) default)<code x) from decide_eq_decide.2 (cmpE_lt (hok _ (by omega)) hx).1]
   cases decide (code (s.getD ((i+j) / 2) default)<code x)<;>rfl)
  (fun i=>by simp only; rw[decide_eq_false (by omega)]; rfl)
 refine⟨p,g1,?_,fun k hk=>of_decide_eq_true (g3 k hk),fun k h1 h2=>by have:=of_decide_eq_false (g4 k h1 h2); omega⟩
 rw[g2,thenL_inr]
 by_cases hp:p<s.length
 ·simp only
  rw[decide_eq_true (show(p:Int)<(s.length:Int) by omega),cond_true,idx_getD hp,ah,decide_eq_true hp,Bool.true_and,compareEdges_eq,ah]
  rw[show decide (cmpE (s.getD p default) x=0)=decide (code (s.getD p default)=code x) from decide_eq_decide.2 (cmpE_lt (hok _ hp) hx).2]
 ·simp only
  rw[decide_eq_false (show ¬ (p:Int)<(s.length:Int) by omega),decide_eq_false hp]; rfl
noncomputable def stepI(s6:List Sa)(x:Sa):Option (List Sa):=
 ae (slices_BinarySearchFunc_Simpl_SizeEdge_impl_SizeEdge_impl_SizeEdge s6 x (fun y0 y1=>impl_compareEdges y0 y1)) fun v52=>
 bif v52.2 then
  ae (idx s6 v52.1) fun w7=>
  some (s6.set v52.1.toNat (Sa.mk w7.From w7.To (w7.Strict||x.Strict)))
 else
  slices_InsertE s6 v52.1 [x]
theorem stepI_ok{s:List Sa}{f:Nat→Nat}(hr:Rep s f)(hlen:s.length≤1000){x:Sa}(hx:edgeOk x=true):∃ s',stepI s x=some s'∧Rep s' (updM f (code x) (lv x.Strict))∧s'.length≤s.length+1:=by
 obtain⟨p,h1,h2,h3,h4⟩:=search_ok hr hlen hx
 unfold stepI
 rw[h2,ah]
 have hsp:s.take p++s.drop p=s:=List.take_append_drop p s
 have htake:∀ e∈s.take p,code e<code x:=fun e he=>by
  obtain⟨k,hk,rfl⟩:=List.mem_iff_getElem.1 he
  rw[List.length_take] at hk
  have:=h3 k (by omega)
  simpa[List.getD,show k<s.length by omega] using this
 by_cases hp:p<s.length
 ·have hdrop:s.drop p=s.getD p default::s.drop (p+1):=drop_getD hp
  by_cases hc:code (s.getD p default)=code x
  ·rw[decide_eq_true hp,decide_eq_true hc]
   simp only[Bool.and_self,cond_true]
   rw[idx_getD hp,ah,Int.toNat_natCast]
   refine⟨_,rfl,?_,by rw[List.length_set]; omega⟩
   rw[← hsp,hdrop] at hr
   have:=Rep.set (b:=x.Strict) hr
   rw[hc] at this
   have e:s.set p ⟨(s.getD p default).From,(s.getD p default).To,(s.getD p default).Strict||x.Strict⟩=s.take p++⟨(s.getD p default).From,(s.getD p default).To,(s.getD p default).Strict||x.Strict⟩::s.drop (p+1):=List.set_eq_take_append_cons_drop.trans (if_pos hp)
   rw[e]
   exact this
  ·rw[decide_eq_true hp,decide_eq_false hc]
   simp only[Bool.and_false,cond_false]
   unfold slices_InsertE
   rw[if_pos ⟨by omega,by omega,rfl,by omega⟩,Int.toNat_natCast]
   refine⟨_,rfl,?_,by simp only[aI,List.length_take,List.length_drop,a9,bj]; omega⟩
   refine Rep.new (by rw[hsp]; exact hr) hx htake (fun e he=>?_)
   obtain⟨k,hk,rfl⟩:=List.mem_iff_getElem.1 he
   rw[List.length_drop] at hk
   have g1:=h4 (p+k) (by omega) (by omega)
   have g2:s.getD (p+k) default=(s.drop p)[k]:=by simp[List.getD,show p+k<s.length by omega]
   rw[g2] at g1
   by_cases hk0:k=0
   ·subst hk0
    have g3:(s.drop p)[0]=s.getD p default:=by simp[List.getD,hp]
    rw[g3] at g1 ⊢
    omega
   ·have:=hr.rise (i:=p) (j:=p+k) (by omega) (by omega)
    rw[g2] at this
    have:=h4 p (aZ _) hp
    omega
 ·have hpe:p=s.length:=by omega
  rw[decide_eq_false hp]
  simp only[Bool.false_and,cond_false]
  unfold slices_InsertE
  rw[if_pos ⟨by omega,by omega,rfl,by omega⟩,Int.toNat_natCast]
  refine⟨_,rfl,?_,by simp only[aI,List.length_take,List.length_drop,a9,bj]; omega⟩
  refine Rep.new (by rw[hsp]; exact hr) hx htake (fun e he=>?_)
  rw[List.drop_of_length_le (by omega)] at he
  cases he
theorem rise_len:∀ (s:List Sa) (lo:Nat),lo≤16→s.Pairwise (fun a b=>code a<code b)→(∀ e∈s,lo≤code e∧code e<16)→s.length+lo≤16
 | [],lo,h,_,_=>by simpa using h
 | a::s,lo,h,hp,hb=>by
  rw[List.pairwise_cons] at hp
  have ha:=hb a (by simp)
  have:=rise_len s (code a+1) (by omega) hp.2 (fun e he=>⟨hp.1 e he,(hb e (by simp[he])).2⟩)
  rw[a9]; omega
theorem Rep.len{s:List Sa}{f:Nat→Nat}(hr:Rep s f):s.length≤16:=by
 have:=rise_len s 0 (by omega) hr.1 (fun e he=>by have:=code_ok (hr.ok e he); unfold code; omega)
 omega
def midE(e g:Sa):Sa:=⟨e.From,g.To,e.Strict||g.Strict⟩
def stepF(e:Sa)(f:Nat→Nat)(g:Sa):Nat→Nat:=if e.To=g.From then updM f (code (midE e g)) (lv (e.Strict||g.Strict)) else f
theorem mid_ok{e g:Sa}(he:edgeOk e=true)(hg:edgeOk g=true):edgeOk (midE e g)=true:=by
 simp only[edgeOk,aB] at he hg ⊢
 exact⟨he.1,hg.2⟩
noncomputable def bodyI(e:Sa)(ρ:Type)(_:Nat)(g:Sa)(s:List Sa):Option (Flow ρ (List Sa)):=
 bif decide (e.To=g.From) then ae (stepI s (midE e g)) fun v=>some (.nx v) else some (.nx s)
theorem inner_fold(e:Sa)(he:edgeOk e=true)(ρ:Type):∀ (l:List Sa) (i:Nat) (s:List Sa) (f:Nat→Nat),Rep s f→(∀ g∈l,edgeOk g=true)→∃ s',forL (bodyI e ρ) l i s=some (.inr s')∧Rep s' (l.foldl (stepF e) f)
 | [],i,s,f,hr,_=>⟨s,rfl,hr⟩
 | g::l,i,s,f,hr,hl=>by
  rw[List.foldl_cons]
  by_cases h:e.To=g.From
  ·obtain⟨s',h1,h2,_⟩:=stepI_ok hr (by have:=hr.len; omega) (mid_ok he (hl g (by simp)))
   rw[forL_nx (s':=s') (by unfold bodyI; rw[decide_eq_true h,cond_true,h1]; rfl)]
   refine inner_fold e he ρ l (i+1) s' _ ?_ (fun b hb=>hl b (by simp[hb]))
   unfold stepF; rw[if_pos h]; exact h2
  ·rw[forL_nx (s':=s) (by unfold bodyI; rw[decide_eq_false h]; rfl)]
   refine inner_fold e he ρ l (i+1) s _ ?_ (fun b hb=>hl b (by simp[hb]))
   unfold stepF; rw[if_neg h]; exact hr
theorem outer_fold(E2:List Sa)(h2:∀ g∈E2,edgeOk g=true)(ρ:Type):∀ (l:List Sa) (i:Nat) (s:List Sa) (f:Nat→Nat),Rep s f→(∀ g∈l,edgeOk g=true)→
 ∃ s',forL (fun _ e s=>thenL (ρ:=Flow ρ (List Sa)) (forL (bodyI e _) E2 0 s) fun s=>some (.nx s)) l i s=some (.inr s')∧Rep s' (l.foldl (fun f e=>E2.foldl (stepF e) f) f)
 | [],i,s,f,hr,_=>⟨s,rfl,hr⟩
 | e::l,i,s,f,hr,hl=>by
  obtain⟨s',g1,g2⟩:=inner_fold e (hl e (by simp)) (Flow ρ (List Sa)) E2 0 s f hr h2
  rw[List.foldl_cons,forL_nx (s':=s') (by simp only[g1]; rfl)]
  exact outer_fold E2 h2 ρ l (i+1) s' _ g2 (fun b hb=>hl b (by simp[hb]))
theorem impl_compose_ok(a b:Sb)(ha:∀ e∈a.Edges,edgeOk e=true)(hb:∀ e∈b.Edges,edgeOk e=true):∃ s,impl_compose a b=some ⟨a.Source,b.Target,s⟩∧Rep s (a.Edges.foldl (fun f e=>b.Edges.foldl (stepF e) f) (fun _=>0)):=by
 obtain⟨s,h1,h2⟩:=outer_fold b.Edges hb Sb a.Edges 0 [] _ Rep.nil ha
 refine⟨s,?_,h2⟩
 unfold impl_compose
 rw[forN_forL _ (fun _ e s=>thenL (ρ:=Flow Sb (List Sa)) (forL (bodyI e _) b.Edges 0 s) fun s=>some (.nx s)) a.Edges 0 [] (fun j e s he=>?_),h1]
 ·rfl
 simp only[Nat.zero_add,idx_nat,he,ah]
 congr 1
 refine forN_forL _ _ b.Edges 0 s (fun k g s hg=>?_)
 simp only[Nat.zero_add,idx_nat,hg,ah]
 unfold bodyI
 cases decide (e.To=g.From)
 ·rfl
 have key:∀ x:Sa,(ae (slices_BinarySearchFunc_Simpl_SizeEdge_impl_SizeEdge_impl_SizeEdge s x (fun y0 y1=>impl_compareEdges y0 y1)) fun v52=>
  bif v52.2 then
   ae (idx s v52.1) fun v62=>
   ae (idx s v52.1) fun v64=>
   bif v64.Strict then
    ae (idx s v52.1) fun v69=>
    ae (idx s v52.1) fun w7=>
    some (.nx (s.set v52.1.toNat (Sa.mk w7.From w7.To true)))
   else
    ae (idx s v52.1) fun v69=>
    ae (idx s v52.1) fun w8=>
    some (.nx (s.set v52.1.toNat (Sa.mk w8.From w8.To x.Strict)))
  else
   ae (slices_InsertE s v52.1 [x]) fun v76=>
   some (.nx v76))=ae (stepI s x) fun v=>some (Flow.nx (ρ:=Flow Sb (List Sa)) v):=by
  intro x
  unfold stepI
  cases slices_BinarySearchFunc_Simpl_SizeEdge_impl_SizeEdge_impl_SizeEdge s x (fun y0 y1=>impl_compareEdges y0 y1) with
  | none=>rfl
  | some v=>
   simp only[ah]
   cases v.2
   ·rfl
   ·simp only[cond_true]
    cases idx s v.1 with
    | none=>rfl
    | some w=>
     simp only[ah]
     cases w.Strict<;>rfl
 simp only[cond_true]
 unfold midE
 cases e.Strict
 ·simp only[cond_false,Bool.false_or]; exact key ⟨e.From,g.To,g.Strict⟩
 ·simp only[cond_true,Bool.true_or]; exact key ⟨e.From,g.To,true⟩
/-! spec: levels -/
def tabF(E:List Sa)(i k:Nat):Nat:=match E.find? (fun e=>decide (e.From=(i:Int))&&decide (e.To=(k:Int))) with
 | some e=>lv e.Strict
 | none=>0
theorem lv_le(b:Bool):lv b≤2∧1≤lv b:=by cases b<;>decide
theorem tabF_le(E:List Sa)(i k:Nat):tabF E i k≤2:=by
 unfold tabF
 split
 ·exact(lv_le _).1
 ·omega
theorem find_loop(p:Sa→Bool)(q:Sa→Nat):∀ (l:List Sa) (i:Nat),thenL (ρ:=Int) (σ:=Unit) (forL (fun _ e _=>bif p e then some (.rt ((q e:Nat):Int)) else some (.nx ())) l i ()) (fun _=>some (0:Int))=some (((match l.find? p with | some e=>q e | none=>0:Nat)):Int)
 | [],i=>rfl
 | e::l,i=>by
  cases h:p e
  ·rw[forL_nx (s':=()) (by rw[h]; rfl),find_loop p q l (i+1),List.find?_cons_of_neg (by rw[h]; simp)]
  ·rw[forL_rt (r:=((q e:Nat):Int)) (by rw[h]; rfl),thenL_inl,List.find?_cons_of_pos (by rw[h])]
theorem level_ok(a:Sb)(i k:Nat):spec_l24Level a (i:Int) (k:Int)=some ((tabF a.Edges i k:Nat):Int):=by
 unfold spec_l24Level
 rw[forN_forL _ (fun _ e _=>bif (decide (e.From=(i:Int))&&decide (e.To=(k:Int))) then some (.rt ((lv e.Strict:Nat):Int)) else some (.nx ())) a.Edges 0 () (fun j e s he=>?_),find_loop (fun e=>decide (e.From=(i:Int))&&decide (e.To=(k:Int))) (fun e=>lv e.Strict)]
 ·rfl
 simp only[Nat.zero_add,idx_nat,he,ah]
 cases decide (e.From=(i:Int))<;>cases decide (e.To=(k:Int))<;>cases e.Strict<;>rfl
theorem rise_inj{s:List Sa}(hp:s.Pairwise (fun a b=>code a<code b)){a b:Sa}(ha:a∈s)(hb:b∈s)(h:code a=code b):a=b:=by
 obtain⟨i,hi,rfl⟩:=List.mem_iff_getElem.1 ha
 obtain⟨j,hj,rfl⟩:=List.mem_iff_getElem.1 hb
 rw[List.pairwise_iff_getElem] at hp
 rcases Nat.lt_trichotomy i j with hij | rfl | hij
 ·have:=hp i j hi hj hij; omega
 ·rfl
 ·have:=hp j i hj hi hij; omega
theorem code_div{e:Sa}(h:edgeOk e=true):code e / 4=e.From.toNat∧code e % 4=e.To.toNat:=by
 have:=code_ok h
 unfold code
 omega
theorem tab_some{E:List Sa}{i k:Nat}(h:0<tabF E i k):∃ e∈E,e.From=(i:Int)∧e.To=(k:Int)∧tabF E i k=lv e.Strict:=by
 unfold tabF at h ⊢
 cases hf:E.find? (fun e=>decide (e.From=(i:Int))&&decide (e.To=(k:Int))) with
 | none=>rw[hf] at h; simp at h
 | some e=>
  have h1:=List.find?_some hf
  rw[aB,decide_eq_true_iff,decide_eq_true_iff] at h1
  exact⟨e,List.mem_of_find?_eq_some hf,h1.1,h1.2,rfl⟩
theorem tab_mem{E:List Sa}(hp:E.Pairwise (fun a b=>code a<code b)){e:Sa}(he:e∈E)(hok:edgeOk e=true):tabF E e.From.toNat e.To.toNat=lv e.Strict:=by
 have hc:=code_ok hok
 unfold tabF
 cases hf:E.find? (fun x=>decide (x.From=((e.From.toNat:Nat):Int))&&decide (x.To=((e.To.toNat:Nat):Int))) with
 | none=>
  have:=List.find?_eq_none.1 hf e he
  rw[aB,decide_eq_true_iff,decide_eq_true_iff] at this
  exact absurd ⟨by omega,by omega⟩ this
 | some x=>
  have h1:=List.find?_some hf
  rw[aB,decide_eq_true_iff,decide_eq_true_iff] at h1
  have:x=e:=rise_inj hp (List.mem_of_find?_eq_some hf) he (by unfold code; rw[h1.1,h1.2]; omega)
  rw[this]
theorem valid_rise{g:Sb}(h:validG g=true):(∀ e∈g.Edges,edgeOk e=true)∧g.Edges.Pairwise (fun a b=>code a<code b):=by
 unfold validG at h
 rw[aB,bf] at h
 have h2:∀ i,i<g.Edges.length→edgeC g.Edges i=true:=fun i hi=>h.2 i (by simpa using hi)
 have hok:∀ i,i<g.Edges.length→edgeOk (g.Edges.getD i default)=true:=fun i hi=>by
  have:=h2 i hi
  unfold edgeC at this
  rw[aB] at this
  exact this.1
 have hadj:∀ i,i+1<g.Edges.length→code (g.Edges.getD i default)<code (g.Edges.getD (i+1) default):=fun i hi=>by
  have:=h2 (i+1) hi
  unfold edgeC at this
  rw[aB,Bool.or_eq_true,decide_eq_true_iff,decide_eq_true_iff] at this
  rcases this.2 with h' | h'
  ·omega
  ·exact(cmpE_lt (hok i (by omega)) (hok (i+1) hi)).1.1 (by simpa using h')
 have hall:∀ d i,i+d+1<g.Edges.length→code (g.Edges.getD i default)<code (g.Edges.getD (i+d+1) default):=fun d=>by
  induction d with
  | zero=>exact fun i hi=>hadj i hi
  | succ d ih=>exact fun i hi=>Nat.lt_trans (ih i (by omega)) (hadj (i+d+1) (by omega))
 refine⟨fun e he=>?_,?_⟩
 ·obtain⟨i,hi,rfl⟩:=List.mem_iff_getElem.1 he
  have:=hok i hi
  simpa[List.getD,hi] using this
 ·rw[List.pairwise_iff_getElem]
  intro i j hi hj hij
  have:=hall (j-i-1) i (by omega)
  rw[show i+(j-i-1)+1=j by omega] at this
  simpa[List.getD,hi,hj] using this
def foldN(A B:Nat→Nat):Nat→Nat→Nat→Nat
 | 0,_,acc=>acc
 | n+1,m,acc=>foldN A B n (m+1) (if 0<A m∧0<B m then max acc (max (A m) (B m)) else acc)
theorem foldN_le(A B:Nat→Nat)(hA:∀ k,A k≤2)(hB:∀ k,B k≤2):∀ n m acc,acc≤2→foldN A B n m acc≤2
 | 0,m,acc,h=>h
 | n+1,m,acc,h=>by
  unfold foldN
  refine foldN_le A B hA hB n (m+1) _ ?_
  have:=hA m
  have:=hB m
  split<;>omega
theorem foldN_iff(A B:Nat→Nat)(v:Nat):∀ n m acc,v≤foldN A B n m acc↔v≤acc∨∃ k,m≤k∧k<m+n∧0<A k∧0<B k∧v≤max (A k) (B k)
 | 0,m,acc=>by
  unfold foldN
  constructor
  ·exact .inl
  ·rintro (h | ⟨k,h1,h2,_⟩)
   ·exact h
   ·omega
 | n+1,m,acc=>by
  unfold foldN
  rw[foldN_iff A B v n (m+1)]
  constructor
  ·rintro (h | ⟨k,h1,h2,h3⟩)
   ·split at h
    ·rename_i hh
     by_cases hv:v≤acc
     ·exact .inl hv
     ·exact .inr ⟨m,by omega,by omega,hh.1,hh.2,by omega⟩
    ·exact .inl h
   ·exact .inr ⟨k,by omega,by omega,h3⟩
  ·rintro (h | ⟨k,h1,h2,h3,h4,h5⟩)
   ·left; split<;>omega
   ·by_cases hk:k=m
    ·subst hk; left; rw[if_pos ⟨h3,h4⟩]; omega
    ·exact .inr ⟨k,by omega,by omega,h3,h4,h5⟩
theorem Most_eqI(a b:Int):spec_l1Most a b=some (max a b):=by
 unfold spec_l1Most
 by_cases h:b<a
 ·rw[decide_eq_true h,cond_true]; congr 1; omega
 ·rw[decide_eq_false h,cond_false]; congr 1; omega
theorem mid_loop{ρ:Type}(A B:Nat→Nat)(f:Nat→Int→Option (Flow ρ Int))(hf:∀ m s,f m s=bif decide ((0:Int)<(A m:Int)) then(bif decide ((0:Int)<(B m:Int)) then ae (spec_l1Most (A m:Int) (B m:Int)) fun v47=>ae (spec_l1Most s v47) fun v48=>some (.nx v48) else some (.nx s)) else some (.nx s)):
 ∀ (n m acc:Nat),forN f n m (acc:Int)=some (.inr ((foldN A B n m acc:Nat):Int))
 | 0,m,acc=>rfl
 | n+1,m,acc=>by
  unfold foldN
  rw[forN_nx (s':=(((if 0<A m∧0<B m then max acc (max (A m) (B m)) else acc):Nat):Int)) ?_]
  ·exact mid_loop A B f hf n (m+1) _
  ·rw[hf]
   by_cases h1:0<A m
   ·rw[decide_eq_true (by omega),cond_true]
    by_cases h2:0<B m
    ·rw[decide_eq_true (by omega),cond_true,if_pos ⟨h1,h2⟩,Most_eqI,ah,Most_eqI,ah]
     congr 2; omega
    ·rw[decide_eq_false (by omega),cond_false,if_neg (fun h=>h2 h.2)]
   ·rw[decide_eq_false (by omega),cond_false,if_neg (fun h=>h1 h.1)]
def topT(E1 E2:List Sa)(c:Nat):Nat:=foldN (fun m=>tabF E1 (c / 4) m) (fun m=>tabF E2 m (c % 4)) 4 0 0
def cutT(T:Nat→Nat)(m:Nat):Nat→Nat:=fun c=>if c<m then T c else 0
theorem topT_le(E1 E2:List Sa)(c:Nat):topT E1 E2 c≤2:=foldN_le _ _ (fun _=>tabF_le _ _ _) (fun _=>tabF_le _ _ _) 4 0 0 (by omega)
theorem cutT_le{T:Nat→Nat}(h:∀ c,T c≤2)(m c:Nat):cutT T m c≤2:=by
 unfold cutT
 have:=h c
 split<;>omega
theorem put_ok{T:Nat→Nat}(hT:∀ c,T c≤2){s:List Sa}{i j:Nat}(hi:i<4)(hj:j<4)(hr:Rep s (cutT T (i*4+j))):
 (0<T (i*4+j)→Rep (s++[⟨(i:Int),(j:Int),decide (T (i*4+j)=2)⟩]) (cutT T (i*4+j+1)))∧(¬ 0<T (i*4+j)→Rep s (cutT T (i*4+j+1))):=by
 have h2:=hT (i*4+j)
 constructor
 ·intro h
  have hc:code ⟨(i:Int),(j:Int),decide (T (i*4+j)=2)⟩=i*4+j:=by unfold code; simp only[Int.toNat_natCast]
  have:=Rep.new (pre:=s) (suf:=[]) (f:=cutT T (i*4+j)) (x:=⟨(i:Int),(j:Int),decide (T (i*4+j)=2)⟩) (by rw[bw]; exact hr) (by
   simp only[edgeOk,aB,inR_iff]; omega) (fun e he=>by
    have:=((hr.2.2 e).1 he).2.1
    unfold cutT at this
    rw[hc]
    split at this
    ·assumption
    ·omega) (fun e he=>by cases he)
  rw[bw,hc] at this
  refine this.congr (fun k hk=>?_) (cutT_le hT _)
  unfold updM cutT
  by_cases hk':k=i*4+j
  ·subst hk'
   rw[if_pos rfl,if_neg (by omega),if_pos (by omega)]
   unfold lv
   by_cases ht:T (i*4+j)=2
   ·rw[decide_eq_true ht]; simp; omega
   ·rw[decide_eq_false ht]; simp; omega
  ·rw[if_neg hk']
   by_cases hlt:k<i*4+j
   ·rw[if_pos hlt,if_pos (by omega)]
   ·rw[if_neg hlt,if_neg (by omega)]
 ·intro h
  refine hr.congr (fun k hk=>?_) (cutT_le hT _)
  unfold cutT
  by_cases hk':k=i*4+j
  ·subst hk'
   rw[if_neg (by omega),if_pos (by omega)]; omega
  ·by_cases hlt:k<i*4+j
   ·rw[if_pos hlt,if_pos (by omega)]
   ·rw[if_neg hlt,if_neg (by omega)]
theorem row_loop{ρ:Type}{T:Nat→Nat}(hT:∀ c,T c≤2)(i:Nat)(hi:i<4)(f:Nat→List Sa→Option (Flow ρ (List Sa)))
 (hf:∀ j s,j<4→f j s=bif decide ((0:Int)<((T (i*4+j):Nat):Int)) then(ae (app s ([(Sa.mk (i:Int) (j:Int) (decide (((T (i*4+j):Nat):Int)=(2:Int))))])) fun v59=>some (.nx v59)) else some (.nx s)):
 ∀ (n j:Nat) (s:List Sa),j+n=4→Rep s (cutT T (i*4+j))→∃ s',forN f n j s=some (.inr s')∧Rep s' (cutT T (i*4+4))
 | 0,j,s,hj,hr=>⟨s,rfl,by rw[show i*4+4=i*4+j by omega]; exact hr⟩
 | n+1,j,s,hj,hr=>by
  obtain⟨h1,h2⟩:=put_ok hT hi (show j<4 by omega) hr
  have hl:=hr.len
  by_cases h:0<T (i*4+j)
  ·rw[forN_nx (s':=s++[⟨(i:Int),(j:Int),decide (T (i*4+j)=2)⟩]) ?_]
   ·exact row_loop hT i hi f hf n (j+1) _ (by omega) (h1 h)
   ·rw[hf j s (by omega),decide_eq_true (by omega),cond_true,show decide (((T (i*4+j):Nat):Int)=(2:Int))=decide (T (i*4+j)=2) from decide_eq_decide.2 (by omega)]
    unfold app
    rw[if_pos (by simp only[a9,bj]; omega)]; rfl
  ·rw[forN_nx (s':=s) (by rw[hf j s (by omega),decide_eq_false (by omega)]; rfl)]
   exact row_loop hT i hi f hf n (j+1) _ (by omega) (h2 h)
theorem all_loop{ρ:Type}{T:Nat→Nat}(f:Nat→List Sa→Option (Flow ρ (List Sa)))(hf:∀ i s,i<4→Rep s (cutT T (i*4))→∃ s',f i s=some (.nx s')∧Rep s' (cutT T ((i+1)*4))):
 ∀ (n i:Nat) (s:List Sa),i+n=4→Rep s (cutT T (i*4))→∃ s',forN f n i s=some (.inr s')∧Rep s' (cutT T 16)
 | 0,i,s,hi,hr=>⟨s,rfl,by rw[show 16=i*4 by omega]; exact hr⟩
 | n+1,i,s,hi,hr=>by
  obtain⟨s',h1,h2⟩:=hf i s (by omega) hr
  rw[forN_nx h1]
  exact all_loop f hf n (i+1) s' (by omega) h2
theorem spec_compose_ok(a b:Sb):∃ s,spec_l24Compose a b=some ⟨a.Source,b.Target,s⟩∧Rep s (cutT (topT a.Edges b.Edges) 16):=by
 have hT:=topT_le a.Edges b.Edges
 obtain⟨s,h1,h2⟩:=all_loop (ρ:=Sb) (T:=topT a.Edges b.Edges) (fun (i3:Nat) (s3:(List Sa))=>
  thenL (ρ:=(Flow Sb (List Sa))) (σ:=(List Sa)) (forN (fun (i6:Nat) (s6:(List Sa))=>
   thenL (ρ:=(Flow (Flow Sb (List Sa)) (List Sa))) (σ:=Int) (forN (fun (i10:Nat) (s10:Int)=>
    ae (spec_l24Level a (i3:Int) (i10:Int)) fun v33=>
    ae (spec_l24Level b (i10:Int) (i6:Int)) fun v37=>
    bif decide ((0:Int)<v33) then
     bif decide ((0:Int)<v37) then
      ae (spec_l1Most v33 v37) fun v47=>
      ae (spec_l1Most s10 v47) fun v48=>
      some (.nx v48)
     else
      some (.nx s10)
    else
     some (.nx s10)) 4 0 (0:Int)) fun s10=>
   bif decide ((0:Int)<s10) then
    ae (app s6 ([(Sa.mk (i3:Int) (i6:Int) (decide (s10=(2:Int))))])) fun v59=>
    some (.nx v59)
   else
    some (.nx s6)) 4 0 s3) fun s6=>
  some (.nx s6)) (fun i s hi hr=>by
   obtain⟨s',g1,g2⟩:=row_loop (ρ:=Flow Sb (List Sa)) hT i hi (fun (i6:Nat) (s6:(List Sa))=>
   thenL (ρ:=(Flow (Flow Sb (List Sa)) (List Sa))) (σ:=Int) (forN (fun (i10:Nat) (s10:Int)=>
    ae (spec_l24Level a (i:Int) (i10:Int)) fun v33=>
    ae (spec_l24Level b (i10:Int) (i6:Int)) fun v37=>
    bif decide ((0:Int)<v33) then
     bif decide ((0:Int)<v37) then
      ae (spec_l1Most v33 v37) fun v47=>
      ae (spec_l1Most s10 v47) fun v48=>
      some (.nx v48)
     else
      some (.nx s10)
    else
     some (.nx s10)) 4 0 (0:Int)) fun s10=>
   bif decide ((0:Int)<s10) then
    ae (app s6 ([(Sa.mk (i:Int) (i6:Int) (decide (s10=(2:Int))))])) fun v59=>
    some (.nx v59)
   else
    some (.nx s6)) (fun j s hj=>by
    have hm:=mid_loop (ρ:=Flow (Flow Sb (List Sa)) (List Sa)) (fun m=>tabF a.Edges i m) (fun m=>tabF b.Edges m j) (fun (i10:Nat) (s10:Int)=>
    ae (spec_l24Level a (i:Int) (i10:Int)) fun v33=>
    ae (spec_l24Level b (i10:Int) (j:Int)) fun v37=>
    bif decide ((0:Int)<v33) then
     bif decide ((0:Int)<v37) then
      ae (spec_l1Most v33 v37) fun v47=>
      ae (spec_l1Most s10 v47) fun v48=>
      some (.nx v48)
     else
      some (.nx s10)
    else
     some (.nx s10)) (fun m s=>by rw[level_ok,level_ok]; rfl) 4 0 0
    refine(congrArg (fun x=>thenL x _) hm).trans ?_
    rw[thenL_inr]
    have e:topT a.Edges b.Edges (i*4+j)=foldN (fun m=>tabF a.Edges i m) (fun m=>tabF b.Edges m j) 4 0 0:=by
     unfold topT
     rw[show(i*4+j) / 4=i by omega,show(i*4+j) % 4=j by omega]
    rw[e]) 4 0 s (by omega) hr
   refine⟨s',by rw[g1]; rfl,?_⟩
   rw[show(i+1)*4=i*4+4 by omega]; exact g2) 4 0 [] (by omega) (Rep.nil.congr (fun k hk=>by unfold cutT; rw[if_neg (by omega)]) (cutT_le hT _))
 exact⟨s,by unfold spec_l24Compose; rw[h1]; rfl,h2⟩
/-! both -/
theorem inner_iff(e:Sa)(c v:Nat):∀ (l:List Sa) (f:Nat→Nat),v≤(l.foldl (stepF e) f) c↔v≤f c∨∃ g∈l,e.To=g.From∧code (midE e g)=c∧v≤lv (e.Strict||g.Strict)
 | [],f=>by simp
 | g::l,f=>by
  rw[List.foldl_cons,inner_iff e c v l]
  simp only[bk,exists_eq_or_imp]
  unfold stepF updM
  by_cases h:e.To=g.From
  ·rw[if_pos h]
   by_cases hc:c=code (midE e g)
   ·rw[if_pos hc]
    have:v≤max (f c) (lv (e.Strict||g.Strict))↔v≤f c∨v≤lv (e.Strict||g.Strict):=by omega
    rw[this,or_assoc]
    simp only[h,hc,true_and]
   ·rw[if_neg hc]
    have:¬ code (midE e g)=c:=fun e=>hc e.symm
    simp only[this,false_and,and_false,false_or]
  ·rw[if_neg h]
   simp only[h,false_and,false_or]
theorem outer_iff(E2:List Sa)(c v:Nat):∀ (l:List Sa) (f:Nat→Nat),v≤(l.foldl (fun f e=>E2.foldl (stepF e) f) f) c↔v≤f c∨∃ e∈l,∃ g∈E2,e.To=g.From∧code (midE e g)=c∧v≤lv (e.Strict||g.Strict)
 | [],f=>by simp
 | e::l,f=>by
  rw[List.foldl_cons,outer_iff E2 c v l,inner_iff,or_assoc]
  simp only[bk,exists_eq_or_imp]
theorem lv_or(a b:Bool):lv (a||b)=max (lv a) (lv b):=by cases a<;>cases b<;>rfl
theorem eq_of_iff{x y:Nat}(h:∀ v,0<v→(v≤x↔v≤y)):x=y:=by
 rcases Nat.lt_trichotomy x y with g | g | g
 ·have:=(h y (by omega)).2 (aZ _); omega
 ·exact g
 ·have:=(h x (by omega)).1 (aZ _); omega
def Rise(s:List Sa):Prop:=(∀ e∈s,edgeOk e=true)∧s.Pairwise (fun a b=>code a<code b)
theorem compose_rise(a b:Sb)(ha:Rise a.Edges)(hb:Rise b.Edges):∃ s:List Sa,s.length≤16∧Rise s∧spec_l24Compose a b=some ⟨a.Source,b.Target,s⟩∧impl_compose a b=some ⟨a.Source,b.Target,s⟩:=by
 obtain⟨a1,a2⟩:=ha
 obtain⟨b1,b2⟩:=hb
 obtain⟨s,h1,h2⟩:=spec_compose_ok a b
 obtain⟨t,k1,k2⟩:=impl_compose_ok a b a1 b1
 have:t=s:=by
  refine Rep.unique (k2.congr (fun c hc=>eq_of_iff fun v hv=>?_) h2.2.1) h2
  rw[outer_iff]
  unfold cutT
  rw[if_pos hc]
  unfold topT
  rw[foldN_iff]
  have z:∀ P:Prop,(v≤0∨P)↔P:=fun P=>⟨fun h=>h.elim (fun h=>by omega) id,.inr⟩
  rw[z,z]
  constructor
  ·rintro ⟨e,he,g,hg,q1,q2,q3⟩
   have oe:=code_ok (a1 e he)
   have og:=code_ok (b1 g hg)
   have te:=tab_mem a2 he (a1 e he)
   have tg:=tab_mem b2 hg (b1 g hg)
   have c1:c / 4=e.From.toNat:=by rw[← q2]; unfold code midE; simp only; omega
   have c2:c % 4=g.To.toNat:=by rw[← q2]; unfold code midE; simp only; omega
   have q1':g.From.toNat=e.To.toNat:=by rw[q1]
   refine⟨e.To.toNat,by omega,by omega,?_,?_,?_⟩
   ·rw[c1,te]; exact(lv_le _).2
   ·rw[c2,← q1',tg]; exact(lv_le _).2
   ·rw[c1,te,c2,← q1',tg,← lv_or]; exact q3
  ·rintro ⟨m,_,hm,q1,q2,q3⟩
   obtain⟨e,he,e1,e2,e3⟩:=tab_some q1
   obtain⟨g,hg,g1,g2,g3⟩:=tab_some q2
   refine⟨e,he,g,hg,by rw[e2,g1],?_,by rw[lv_or,← e3,← g3]; exact q3⟩
   unfold code midE
   simp only[e1,g2,Int.toNat_natCast]
   omega
 subst this
 exact⟨t,h2.len,⟨h2.ok,h2.1⟩,h1,k1⟩
theorem compose_both(a b:Sb)(ha:validG a=true)(hb:validG b=true):∃ s:List Sa,s.length≤16∧spec_l24Compose a b=some ⟨a.Source,b.Target,s⟩∧impl_compose a b=some ⟨a.Source,b.Target,s⟩:=by
 obtain⟨s,h1,_,h2,h3⟩:=compose_rise a b (valid_rise ha) (valid_rise hb)
 exact⟨s,h1,h2,h3⟩
end
section
theorem Contains_int{f:Int→Option Bool}{p:Int→Bool}(h:∀ x,f x=some (p x))(xs:List Int):slices_ContainsFunc_Sint_int xs f=some (xs.any p):=by
 unfold slices_ContainsFunc_Sint_int slices_IndexFunc_Sint_int
 obtain⟨r,h1,h2⟩:=forN_find (n:=xs.length) (p:=fun i=>p (xs.getD i default)) (f:=fun i2 s2=>(idx xs (i2:Int)).bind fun v14=>(f v14).bind fun v16=>bif v16 then some (.rt (i2:Int)) else some (.nx ())) (fun j hj=>by
  simp only[idx_getD hj,ah,h]
  cases p (xs.getD j default)<;>rfl)
 rw[h1,ah,h2,range_any_list]
def callOk(p:Ct)(g:Sb):Bool:=
 validG g&&decide (g.Source<p.Arities.length)&&decide (g.Target<p.Arities.length)&&g.Edges.all (fun e=>decide (e.From<p.Arities.getD g.Source.toNat default)&&decide (e.To<p.Arities.getD g.Target.toNat default))
def validP(p:Ct):Bool:=inR (p.Arities.length:Int) 1 6&&decide (p.Calls.length≤12)&&p.Arities.all (fun v=>inR v 0 4)&&p.Calls.all (callOk p)
theorem validG_src{g:Sb}(h:validG g=true):0≤g.Source∧0≤g.Target:=by
 simp only[validG,aB,inR_iff] at h
 exact⟨h.1.1.1,h.1.2.1⟩
theorem impl2_eq(p:Ct)(g:Sb)(hb:Big g.Edges.length):impl_IsValidCyclic_2 g (p.Arities.length:Int) p=some (!callOk p g):=by
 unfold impl_IsValidCyclic_2 callOk
 rw[implV g hb,ah]
 cases hv:validG g
 ·rfl
 ·have hs:=validG_src hv
  by_cases h1:g.Source<p.Arities.length
  ·by_cases h2:g.Target<p.Arities.length
   ·rw[cond_true,decide_eq_false (show ¬ (p.Arities.length:Int)≤g.Source by omega),decide_eq_false (show ¬ (p.Arities.length:Int)≤g.Target by omega),cond_false,cond_false,decide_eq_true h1,decide_eq_true h2]
    unfold slices_ContainsFunc_Simpl_SizeEdge_impl_SizeEdge slices_IndexFunc_Simpl_SizeEdge_impl_SizeEdge
    rw[find_list (p:=fun e=>!(decide (e.From<p.Arities.getD g.Source.toNat default)&&decide (e.To<p.Arities.getD g.Target.toNat default)))]
    ·rw[ah,List.all_eq_not_any_not]; simp
    ·intro e _
     simp only[impl_IsValidCyclic_2_1,idx_int hs.1 h1,idx_int hs.2 h2,ah]
     by_cases g1:e.From<p.Arities.getD g.Source.toNat default
     ·rw[decide_eq_false (show ¬ p.Arities.getD g.Source.toNat default≤e.From by omega),decide_eq_true g1,cond_false,Bool.true_and]
      by_cases g2:e.To<p.Arities.getD g.Target.toNat default
      ·rw[decide_eq_false (show ¬ p.Arities.getD g.Target.toNat default≤e.To by omega),decide_eq_true g2]; rfl
      ·rw[decide_eq_true (show p.Arities.getD g.Target.toNat default≤e.To by omega),decide_eq_false g2]; rfl
     ·rw[decide_eq_true (show p.Arities.getD g.Source.toNat default≤e.From by omega),decide_eq_false g1]; rfl
   ·rw[cond_true,decide_eq_false (show ¬ (p.Arities.length:Int)≤g.Source by omega),decide_eq_true (show(p.Arities.length:Int)≤g.Target by omega),decide_eq_false h2]
    simp
  ·rw[cond_true,decide_eq_true (show(p.Arities.length:Int)≤g.Source by omega),decide_eq_false h1]; simp
theorem implP(p:Ct)(h:p.Ok):impl_IsValidCyclic p=some (validP p):=by
 unfold impl_IsValidCyclic validP
 rw[within_eq,ah]
 cases inR (p.Arities.length:Int) 1 6
 ·rfl
 ·by_cases h12:p.Calls.length≤12
  ·rw[cond_true,decide_eq_false (show ¬ (12:Int)<(p.Calls.length:Int) by omega),cond_false,decide_eq_true h12,
    Contains_int (p:=fun x=>!inR x 0 4) (fun x=>by simp only[impl_IsValidCyclic_1,within_eq,ah])]
   have e1:p.Arities.any (fun x=>!inR x 0 4)=!p.Arities.all (fun v=>inR v 0 4):=by rw[List.all_eq_not_any_not,Bool.not_not]
   rw[e1,ah]
   cases p.Arities.all (fun v=>inR v 0 4)
   ·rfl
   ·unfold slices_ContainsFunc_Simpl_SizeGraph_impl_SizeGraph slices_IndexFunc_Simpl_SizeGraph_impl_SizeGraph
    rw[find_list (p:=fun g=>!callOk p g) p.Calls (fun g hg=>impl2_eq p g (h.2.2 g hg).2.2.1)]
    rw[List.all_eq_not_any_not]; simp
  ·rw[cond_true,decide_eq_true (show(12:Int)<(p.Calls.length:Int) by omega),decide_eq_false h12]; rfl
theorem specP(p:Ct)(h:p.Ok):spec_l24Good p=some (validP p):=by
 unfold spec_l24Good validP
 rw[l1In_eq,ah]
 cases inR (p.Arities.length:Int) 1 6
 ·rfl
 ·by_cases h12:p.Calls.length≤12
  ·rw[cond_true,decide_eq_false (show ¬ (12:Int)<(p.Calls.length:Int) by omega),cond_false,decide_eq_true h12,
    forN_all (fun j=>inR (p.Arities.getD j default) 0 4),range_all_list p.Arities (fun v=>inR v 0 4)]
   ·cases p.Arities.all (fun v=>inR v 0 4)
    ·rfl
    ·rw[cond_true,forN_all (fun j=>callOk p (p.Calls.getD j default)),range_all_list p.Calls (callOk p)]
     ·cases p.Calls.all (callOk p)<;>rfl
     ·intro j hj _
      have hg:=(h.2.2 _ (getD_mem hj)).2.2.1
      generalize ge:p.Calls.getD j default=g at hg ⊢
      simp only[idx_getD hj,ge,ah,specG g hg]
      unfold callOk
      cases hv:validG g
      ·rfl
      ·have hs:=validG_src hv
       by_cases h1:g.Source<p.Arities.length
       ·by_cases h2:g.Target<p.Arities.length
        ·rw[cond_true,decide_eq_false (show ¬ (p.Arities.length:Int)≤g.Source by omega),decide_eq_false (show ¬ (p.Arities.length:Int)≤g.Target by omega),cond_false,cond_false,decide_eq_true h1,decide_eq_true h2]
         rw[forN_all (ρ:=Flow Bool Unit) (fun k=>(fun e:Sa=>decide (e.From<p.Arities.getD g.Source.toNat default)&&decide (e.To<p.Arities.getD g.Target.toNat default)) (g.Edges.getD k default)) (r0:=.rt false),range_all_list g.Edges (fun e:Sa=>decide (e.From<p.Arities.getD g.Source.toNat default)&&decide (e.To<p.Arities.getD g.Target.toNat default))]
         ·cases g.Edges.all (fun e:Sa=>decide (e.From<p.Arities.getD g.Source.toNat default)&&decide (e.To<p.Arities.getD g.Target.toNat default))<;>rfl
         ·intro k hk _
          simp only[idx_getD hk,idx_int hs.1 h1,idx_int hs.2 h2,ah]
          by_cases g1:(g.Edges.getD k default).From<p.Arities.getD g.Source.toNat default
          ·rw[decide_eq_false (show ¬ p.Arities.getD g.Source.toNat default≤(g.Edges.getD k default).From by omega),decide_eq_true g1,cond_false,Bool.true_and]
           by_cases g2:(g.Edges.getD k default).To<p.Arities.getD g.Target.toNat default
           ·rw[decide_eq_false (show ¬ p.Arities.getD g.Target.toNat default≤(g.Edges.getD k default).To by omega),decide_eq_true g2]; rfl
           ·rw[decide_eq_true (show p.Arities.getD g.Target.toNat default≤(g.Edges.getD k default).To by omega),decide_eq_false g2]; rfl
          ·rw[decide_eq_true (show p.Arities.getD g.Source.toNat default≤(g.Edges.getD k default).From by omega),decide_eq_false g1]; rfl
        ·rw[cond_true,decide_eq_false (show ¬ (p.Arities.length:Int)≤g.Source by omega),decide_eq_true (show(p.Arities.length:Int)≤g.Target by omega),decide_eq_false h2]
         simp
       ·rw[cond_true,decide_eq_true (show(p.Arities.length:Int)≤g.Source by omega),decide_eq_false h1]; simp
   ·intro j hj _
    simp only[idx_getD hj,ah,l1In_eq]
    cases inR (p.Arities.getD j default) 0 4<;>rfl
  ·rw[cond_true,decide_eq_true (show(12:Int)<(p.Calls.length:Int) by omega),decide_eq_false h12]; rfl
end
section
/-- A cursor that has been moved at most n times, over bytes. -/
def CurOk(c:la)(n:Nat):Prop:=0≤c.at_f∧c.at_f≤(n:Int)∧∀ x∈c.code,0≤x∧x≤255
theorem CurOk.mono{c:la}{n m:Nat}(h:CurOk c n)(hm:n≤m):CurOk c m:=⟨h.1,by have:=h.2.1; omega,h.2.2⟩
theorem wrap_i64{x:Int}(h0:0≤x)(h1:x≤4611686018427387904):IntKind.i64.wrap x=x:=wrap64 (by omega) (by omega)
theorem bitand255(v:Int):0≤IntKind.i64.wrap (bitand .u64 v (255:Int))∧IntKind.i64.wrap (bitand .u64 v (255:Int))≤255:=by
 have h:∃ k:Nat,k≤255∧bitand .u64 v (255:Int)=(k:Int):=by
  refine⟨(BitVec.ofInt 64 v&&& BitVec.ofInt 64 255).toNat,?_,?_⟩
  ·rw[BitVec.toNat_and]
   exact Nat.le_trans Nat.and_le_right (by decide)
  ·have hk:(BitVec.ofInt 64 v&&& BitVec.ofInt 64 255).toNat≤255:=by
    rw[BitVec.toNat_and]; exact Nat.le_trans Nat.and_le_right (by decide)
   unfold bitand
   exact u64_nat (n:=(BitVec.ofInt 64 v&&& BitVec.ofInt 64 255).toNat) (by omega)
 obtain⟨k,hk,e⟩:=h
 rw[e,wrap_i64 (by omega) (by omega)]
 omega
theorem next_ok{c:la}{n:Nat}(h:CurOk c n)(hn:n≤1000000000):∃ v c',spec_l1Cur__next c=some (v,c')∧0≤v∧v≤255∧CurOk c' (n+1):=by
 obtain⟨h0,h1,h2⟩:=h
 have ha:IntKind.i64.wrap (c.at_f+1)=c.at_f+1:=wrap_i64 (by omega) (by omega)
 unfold spec_l1Cur__next
 have hs:∀ x:Int,shr .u64 x 40=some (x.fdiv (2 ^ (min (40:Int).toNat IntKind.u64.bits))):=fun x=>by simp[shr]
 by_cases e:c.at_f<(c.code.length:Int)
 ·rw[decide_eq_true e,cond_true]
  obtain⟨b,hb⟩:∃ b,c.code[c.at_f.toNat]?=some b:=⟨_,List.getElem?_eq_getElem (by omega)⟩
  have hbr:=h2 b (List.mem_of_getElem? hb)
  have hi:idx c.code c.at_f=some b:=by simp[idx,h0,hb]
  rw[hi,ah,ha,wrap_i64 hbr.1 (by omega)]
  cases decide (c.at_f+1≤(c.code.length:Int)) with
  | true=>exact⟨_,_,rfl,hbr.1,hbr.2,by simp only; omega,by simp only; omega,h2⟩
  | false=>
   rw[cond_false,hs,ah]
   exact⟨_,_,rfl,(bitand255 _).1,(bitand255 _).2,by simp only; omega,by simp only; omega,h2⟩
 ·rw[decide_eq_false e,cond_false,ha]
  cases decide (c.at_f+1≤(c.code.length:Int)) with
  | true=>exact⟨_,_,rfl,by omega,by omega,by simp only; omega,by simp only; omega,h2⟩
  | false=>
   rw[cond_false,hs,ah]
   exact⟨_,_,rfl,(bitand255 _).1,(bitand255 _).2,by simp only; omega,by simp only; omega,h2⟩
theorem rem_lt{x m:Int}(h0:0≤x)(hm:0<m):∃ v,rem x m=some v∧0≤v∧v<m:=
 ⟨x.tmod m,by simp[rem,show m≠0 by omega],Int.tmod_nonneg _ h0,Int.tmod_lt_of_pos _ hm⟩
theorem pick_ok{c:la}{n:Nat}(m:Int)(h:CurOk c n)(hn:n+2≤1000000000):∃ v c',spec_l1Cur__pick c m=some (v,c')∧0≤v∧(1≤m→v<m)∧CurOk c' (n+2):=by
 unfold spec_l1Cur__pick
 by_cases e:m≤1
 ·rw[decide_eq_true e,cond_true]
  exact⟨_,_,rfl,by omega,fun _=>by omega,h.mono (by omega)⟩
 ·rw[decide_eq_false e,cond_false]
  obtain⟨v,c',e1,hv0,hv1,hc⟩:=next_ok h (by omega)
  rw[e1,ah]
  by_cases e2:200<m
  ·rw[decide_eq_true e2,cond_true]
   obtain⟨u,c'',e3,hu0,hu1,hc'⟩:=next_ok hc (by omega)
   simp only[e3,ah]
   rw[wrap_i64 (x:=v*256) (by omega) (by omega),wrap_i64 (by omega) (by omega)]
   obtain⟨q,e4,hq0,hq1⟩:=rem_lt (x:=v*256+u) (m:=m) (by omega) (by omega)
   rw[e4]
   exact⟨_,_,rfl,hq0,fun _=>hq1,hc'⟩
  ·rw[decide_eq_false e2,cond_false]
   obtain⟨q,e4,hq0,hq1⟩:=rem_lt (x:=v) (m:=m) hv0 (by omega)
   simp only[e4]
   exact⟨_,_,rfl,hq0,fun _=>hq1,hc.mono (by omega)⟩
theorem among_ok{c:la}{n:Nat}(l:List Int)(hl:l≠[])(h:CurOk c n)(hn:n+2≤1000000000):∃ v c',spec_l1Cur__among c l=some (v,c')∧v∈l∧CurOk c' (n+2):=by
 unfold spec_l1Cur__among
 have hp:0<l.length:=List.length_pos_iff.2 hl
 obtain⟨k,c',e,h0,h1,hc⟩:=pick_ok (l.length:Int) h hn
 have hk:=h1 (by omega)
 obtain⟨b,hb⟩:∃ b,l[k.toNat]?=some b:=⟨_,List.getElem?_eq_getElem (by omega)⟩
 have hi:idx l k=some b:=by simp[idx,h0,hb]
 simp only[e,ah,hi]
 exact⟨_,_,rfl,List.mem_of_getElem? hb,hc⟩
theorem one_ok{c:la}{n:Nat}(m:Int)(h:CurOk c n)(hn:n+2≤1000000000):∃ b c',spec_l1Cur__one c m=some (b,c')∧CurOk c' (n+2):=by
 unfold spec_l1Cur__one
 obtain⟨k,c',e,_,_,hc⟩:=pick_ok m h hn
 simp only[e,ah]
 exact⟨_,_,rfl,hc⟩
/-- A loop that always goes on, with what holds at each turn. -/
theorem forN_inv{ρ σ:Type}{f:Nat→σ→Option (Flow ρ σ)}(I:Nat→σ→Prop):∀ (n i:Nat) (s:σ),I i s→(∀ j s,i≤j→j<i+n→I j s→∃ s',f j s=some (.nx s')∧I (j+1) s')→∃ s',forN f n i s=some (.inr s')∧I (i+n) s'
 | 0,i,s,h,_=>⟨s,rfl,h⟩
 | n+1,i,s,h,hf=>by
  obtain⟨s',e,h'⟩:=hf i s (by omega) (by omega) h
  rw[forN_nx e]
  obtain⟨s'',e2,h2⟩:=forN_inv I n (i+1) s' h' (fun j s hj hj'=>hf j s (by omega) (by omega))
  exact⟨s'',e2,by rw[show i+(n+1)=i+1+n by omega]; exact h2⟩
theorem app1{α:Type}{xs:List α}(x:α)(h:xs.length≤1000):app xs [x]=some (xs++[x]):=by
 unfold app; rw[if_pos (by simp; omega)]
end
section
/-! Sameness of graphs. -/
theorem getD_mem_eq{α:Type}[Inhabited α]{a b:List α}(hl:a.length=b.length)(h:∀ j,j<a.length→a.getD j default=b.getD j default):a=b:=by
 refine List.ext_getElem hl fun i h1 h2=>?_
 have:=h i h1
 simpa[List.getD,h1,h2] using this
theorem edge_test(x y:Sa):(decide (x.From=y.From)&&(decide (x.To=y.To)&&(x.Strict==y.Strict)))=true↔x=y:=by
 rw[aB,aB,decide_eq_true_iff,decide_eq_true_iff,beq_iff_eq]
 constructor
 ·rintro ⟨h1,h2,h3⟩; exact edge_ext h1 h2 h3
 ·rintro rfl; exact⟨rfl,rfl,rfl⟩
theorem edges_loop{ρ:Type}(a b:List Sa)(hl:a.length=b.length)(r0:Bool):thenL (ρ:=Bool) (σ:=Unit) (forN (fun (i4:Nat) (s4:Unit)=>
 ae (idx a (i4:Int)) fun v37=>
 ae (idx b (i4:Int)) fun v42=>
 bif decide (v37.From=v42.From)&&(decide (v37.To=v42.To)&&(v37.Strict==v42.Strict)) then some (.nx ()) else some (.rt false)) a.length 0 ()) (fun _=>some true)=some ((List.range a.length).all fun j=>decide ((a.getD j default).From=(b.getD j default).From)&&(decide ((a.getD j default).To=(b.getD j default).To)&&((a.getD j default).Strict==(b.getD j default).Strict))):=by
 rw[forN_all (fun j=>decide ((a.getD j default).From=(b.getD j default).From)&&(decide ((a.getD j default).To=(b.getD j default).To)&&((a.getD j default).Strict==(b.getD j default).Strict))) (fun j hj _=>by
  rw[idx_getD hj,ah,idx_getD (by omega),ah]
  cases decide ((a.getD j default).From=(b.getD j default).From)&&(decide ((a.getD j default).To=(b.getD j default).To)&&((a.getD j default).Strict==(b.getD j default).Strict))<;>rfl)]
 cases (List.range a.length).all fun j=>decide ((a.getD j default).From=(b.getD j default).From)&&(decide ((a.getD j default).To=(b.getD j default).To)&&((a.getD j default).Strict==(b.getD j default).Strict))<;>rfl
theorem edges_all(a b:List Sa)(hl:a.length=b.length):((List.range a.length).all fun j=>decide ((a.getD j default).From=(b.getD j default).From)&&(decide ((a.getD j default).To=(b.getD j default).To)&&((a.getD j default).Strict==(b.getD j default).Strict)))=true↔a=b:=by
 rw[bf]
 constructor
 ·exact fun h=>getD_mem_eq hl fun j hj=>(edge_test _ _).1 (h j (by simpa using hj))
 ·rintro rfl j _; exact(edge_test _ _).2 rfl
open Classical in
noncomputable def sameB(a b:Sb):Bool:=decide (a=b)
theorem sameB_iff(a b:Sb):sameB a b=true↔a=b:=by simp[sameB]
theorem graph_ext{a b:Sb}(h1:a.Source=b.Source)(h2:a.Target=b.Target)(h3:a.Edges=b.Edges):a=b:=by cases a; cases b; simp_all
theorem same_of{a b:Sb}{x:Bool}(h:x=true↔a=b):x=sameB a b:=by
 rw[Bool.eq_iff_iff,h,sameB_iff]
theorem implSame(a b:Sb):impl_sameGraph a b=some (sameB a b):=by
 unfold impl_sameGraph slices_Equal_Simpl_SizeEdge_impl_SizeEdge
 by_cases h1:a.Source=b.Source
 ·rw[decide_eq_true h1,cond_true]
  by_cases h2:a.Target=b.Target
  ·rw[decide_eq_true h2,cond_true]
   by_cases h3:(a.Edges.length:Int)=(b.Edges.length:Int)
   ·rw[decide_eq_true h3,cond_true,edges_loop (ρ:=Bool) a.Edges b.Edges (by omega) false,ah]
    refine congrArg some (same_of ?_)
    rw[edges_all _ _ (by omega)]
    exact⟨graph_ext h1 h2,fun e=>by rw[e]⟩
   ·rw[decide_eq_false h3]
    exact congrArg some (same_of ⟨nofun,fun e=>absurd (by rw[e]) h3⟩)
  ·rw[decide_eq_false h2]
   exact congrArg some (same_of ⟨nofun,fun e=>absurd (by rw[e]) h2⟩)
 ·rw[decide_eq_false h1]
  exact congrArg some (same_of ⟨nofun,fun e=>absurd (by rw[e]) h1⟩)
theorem specSame(a b:Sb):spec_l24Same a b=some (sameB a b):=by
 unfold spec_l24Same
 by_cases h1:a.Source=b.Source
 ·rw[decide_eq_true h1,cond_true]
  by_cases h2:a.Target=b.Target
  ·rw[decide_eq_true h2,cond_true]
   by_cases h3:(a.Edges.length:Int)=(b.Edges.length:Int)
   ·rw[decide_eq_true h3,cond_true,edges_loop (ρ:=Bool) a.Edges b.Edges (by omega) false]
    refine congrArg some (same_of ?_)
    rw[edges_all _ _ (by omega)]
    exact⟨graph_ext h1 h2,fun e=>by rw[e]⟩
   ·rw[decide_eq_false h3]
    exact congrArg some (same_of ⟨nofun,fun e=>absurd (by rw[e]) h3⟩)
  ·rw[decide_eq_false h2]
   exact congrArg some (same_of ⟨nofun,fun e=>absurd (by rw[e]) h2⟩)
 ·rw[decide_eq_false h1]
  exact congrArg some (same_of ⟨nofun,fun e=>absurd (by rw[e]) h1⟩)
/-! A graph that is known already. -/
noncomputable def knownB(L:List Sb)(g:Sb):Bool:=L.any fun x=>sameB x g
theorem knownB_iff(L:List Sb)(g:Sb):knownB L g=true↔g∈L:=by
 simp only[knownB,List.any_eq_true,sameB_iff]
 constructor
 ·rintro ⟨x,hx,rfl⟩; exact hx
 ·exact fun h=>⟨g,h,rfl⟩
def grs(L:List ft):List Sb:=L.map (·.graph)
def pts(L:List ft):List (List Int):=L.map (·.path)
noncomputable def addF(L:List ft)(g:Sb)(q:List Int):List ft:=bif knownB (grs L) g then L else L++[⟨g,q⟩]
theorem contains_found(L:List ft)(g:Sb):slices_ContainsFunc_Simpl_found_impl_found L (fun y0=>impl_closure_1_1 y0 g)=some (knownB (grs L) g):=by
 unfold slices_ContainsFunc_Simpl_found_impl_found slices_IndexFunc_Simpl_found_impl_found
 obtain⟨r,h1,h2⟩:=forN_find (n:=L.length) (p:=fun i=>sameB (L.getD i default).graph g) (f:=fun i2 s2=>(idx L (i2:Int)).bind fun v14=>(impl_closure_1_1 v14 g).bind fun v16=>bif v16 then some (.rt (i2:Int)) else some (.nx ())) (fun j hj=>by
  simp only[idx_getD hj,ah,impl_closure_1_1,implSame]
  cases sameB (L.getD j default).graph g<;>rfl)
 rw[h1,ah,h2]
 refine congrArg some ?_
 rw[range_any_list (p:=fun x:ft=>sameB x.graph g),knownB,grs,List.any_map]
 rfl
theorem specAt(L:List Sb)(g:Sb):∃ r,spec_l24At L g=some r∧decide (0≤r)=knownB L g:=by
 unfold spec_l24At
 obtain⟨r,h1,h2⟩:=forN_find (n:=L.length) (p:=fun i=>sameB (L.getD i default) g) (f:=fun i2 s2=>(idx L (i2:Int)).bind fun v14=>(spec_l24Same v14 g).bind fun v17=>bif v17 then some (.rt (i2:Int)) else some (.nx ())) (fun j hj=>by
  simp only[idx_getD hj,ah,specSame]
  cases sameB (L.getD j default) g<;>rfl)
 refine⟨r,h1,?_⟩
 rw[h2,range_any_list (p:=fun x:Sb=>sameB x g)]
 rfl
theorem implAdd(g:Sb)(q:List Int)(L:List ft)(h:L.length≤1000):impl_closure_1 g q L=some ((),addF L g q):=by
 unfold impl_closure_1 addF
 rw[contains_found,ah]
 cases knownB (grs L) g
 ·simp only[cond_false,app1 _ h,ah]
 ·rfl
end
section
/-! Composition as a function. -/
noncomputable def cmpG(a b:Sb):Sb:=(impl_compose a b).getD default
theorem cmpG_ok{a b:Sb}(ha:Rise a.Edges)(hb:Rise b.Edges):impl_compose a b=some (cmpG a b)∧spec_l24Compose a b=some (cmpG a b)∧Rise (cmpG a b).Edges∧(cmpG a b).Edges.length≤16∧(cmpG a b).Source=a.Source∧(cmpG a b).Target=b.Target:=by
 obtain⟨s,h1,h2,h3,h4⟩:=compose_rise a b ha hb
 have e:cmpG a b=⟨a.Source,b.Target,s⟩:=by rw[cmpG,h4]; rfl
 rw[e]
 exact⟨h4,h3,h2,h1,rfl,rfl⟩
/-! A loop without a limit. -/
section
variable{ρ σ:Type}{f:σ→Option (Flow ρ σ)}{s s':σ}{r:ρ}
theorem wl_nx(h:f s=some (.nx s')):(lim fun k=>whileN f k s)=lim fun k=>whileN f k s':=by
 refine Option.ext fun r=>?_
 rw[lim_while.2 r,lim_while.2 r]
 constructor
 ·rintro ⟨n,hn⟩
  cases n with
  | zero=>simp[whileN] at hn
  | succ n=>exact⟨n,by simpa[whileN,h] using hn⟩
 ·rintro ⟨n,hn⟩; exact⟨n+1,by simpa[whileN,h] using hn⟩
theorem wl_br(h:f s=some (.br s')):(lim fun k=>whileN f k s)=some (.inr s'):=(lim_while.2 _).2 ⟨1,by simp[whileN,h]⟩
theorem wl_rt(h:f s=some (.rt r)):(lim fun k=>whileN f k s)=some (.inl r):=(lim_while.2 _).2 ⟨1,by simp[whileN,h]⟩
end
/-! The rounds. -/
theorem addF_grs(L:List ft)(g:Sb)(q:List Int):grs (addF L g q)=(bif knownB (grs L) g then grs L else grs L++[g])∧pts (addF L g q)=(bif knownB (grs L) g then pts L else pts L++[q]):=by
 unfold addF
 cases knownB (grs L) g<;>simp[grs,pts]
theorem addF_len(L:List ft)(g:Sb)(q:List Int):L.length≤(addF L g q).length∧(addF L g q).length≤L.length+1:=by
 unfold addF; cases knownB (grs L) g<;>simp
theorem addF_pre(L:List ft)(g:Sb)(q:List Int):L<+:addF L g q:=by
 unfold addF; cases knownB (grs L) g
 ·exact List.prefix_append _ _
 ·exact List.prefix_refl _
theorem addF_mem{L:List ft}{g:Sb}{q:List Int}{x:ft}(h:x∈addF L g q):x∈L∨x=⟨g,q⟩:=by
 unfold addF at h; cases hk:knownB (grs L) g<;>simp only[hk,cond_true,cond_false] at h
 ·simpa using h
 ·exact .inl h
theorem addF_known(L:List ft)(g:Sb)(q:List Int):g∈grs (addF L g q):=by
 rw[(addF_grs L g q).1]
 cases hk:knownB (grs L) g
 ·simp
 ·exact(knownB_iff _ _).1 hk
noncomputable def iniL(C:List Sb):Nat→List ft
 | 0=>[]
 | i+1=>addF (iniL C i) (C.getD i default) [(i:Int)]
noncomputable def innL(C:List Sb)(x:ft)(L:List ft):Nat→List ft
 | 0=>L
 | i+1=>if (C.getD i default).Source=x.graph.Target then addF (innL C x L i) (cmpG x.graph (C.getD i default)) (x.path++[(i:Int)]) else innL C x L i
theorem innL_pre(C:List Sb)(x:ft)(L:List ft):∀ i j,i≤j→innL C x L i<+:innL C x L j:=by
 intro i j h
 induction j with
 | zero=>
  have:i=0:=by omega
  subst this; exact List.prefix_refl _
 | succ j ih=>
  by_cases e:i=j+1
  ·subst e; exact List.prefix_refl _
  ·refine(ih (by omega)).trans ?_
   rw[innL]; split
   ·exact addF_pre _ _ _
   ·exact List.prefix_refl _
theorem innL_len(C:List Sb)(x:ft)(L:List ft):∀ i,L.length≤(innL C x L i).length∧(innL C x L i).length≤L.length+i
 | 0=>by simp[innL]
 | i+1=>by
  have:=innL_len C x L i
  rw[innL]; split
  ·have:=addF_len (innL C x L i) (cmpG x.graph (C.getD i default)) (x.path++[(i:Int)]); omega
  ·omega
theorem iniL_len(C:List Sb):∀ i,(iniL C i).length≤i
 | 0=>by simp[iniL]
 | i+1=>by
  have:=iniL_len C i
  have:=addF_len (iniL C i) (C.getD i default) [(i:Int)]
  rw[iniL]; omega
/-- What is ft: graphs in order, paths that are not longer than their round. -/
def FOk(m:Nat)(x:ft):Prop:=Rise x.graph.Edges∧x.graph.Edges.length≤16∧x.path.length≤m
theorem iniL_ok{C:List Sb}(hC:∀ g∈C,Rise g.Edges∧g.Edges.length≤16):∀ i,i≤C.length→∀ x∈iniL C i,FOk 1 x
 | 0,_,x,hx=>by simp[iniL] at hx
 | i+1,hi,x,hx=>by
  rw[iniL] at hx
  rcases addF_mem hx with hx | rfl
  ·exact iniL_ok hC i (by omega) x hx
  ·have:C.getD i default∈C:=by
    rw[List.getD_eq_getElem?_getD,List.getElem?_eq_getElem (by omega)]; exact List.getElem_mem _
   exact⟨(hC _ this).1,(hC _ this).2,by simp⟩
theorem getD_mem'{α:Type}[Inhabited α]{l:List α}{i:Nat}(h:i<l.length):l.getD i default∈l:=by
 rw[List.getD_eq_getElem?_getD,List.getElem?_eq_getElem h]; exact List.getElem_mem _
theorem innL_ok{C:List Sb}(hC:∀ g∈C,Rise g.Edges∧g.Edges.length≤16){x:ft}{L:List ft}{m:Nat}(hx:FOk m x)(hL:∀ y∈L,FOk m y):∀ i,i≤C.length→∀ y∈innL C x L i,FOk (m+1) y
 | 0,_,y,hy=>⟨(hL y hy).1,(hL y hy).2.1,by have:=(hL y hy).2.2; omega⟩
 | i+1,hi,y,hy=>by
  rw[innL] at hy
  split at hy
  ·rcases addF_mem hy with hy | rfl
   ·exact innL_ok hC hx hL i (by omega) y hy
   ·have hc:=hC _ (getD_mem' (l:=C) (i:=i) (by omega))
    have:=cmpG_ok hx.1 hc.1
    exact⟨this.2.2.1,this.2.2.2.1,by have:=hx.2.2; simp; omega⟩
  ·exact innL_ok hC hx hL i (by omega) y hy
theorem innL_known{C:List Sb}{x:ft}{L:List ft}:∀ n j,j<n→(C.getD j default).Source=x.graph.Target→cmpG x.graph (C.getD j default)∈grs (innL C x L n)
 | 0,_,h,_=>by omega
 | n+1,j,h,hs=>by
  by_cases e:j=n
  ·subst e; rw[innL,if_pos hs]; exact addF_known _ _ _
  ·have h1:=innL_known (L:=L) n j (by omega) hs
   obtain⟨t,ht⟩:=innL_pre C x L n (n+1) (by omega)
   rw[← ht,grs,List.map_append]
   exact List.mem_append.2 (.inl h1)
theorem pre_getD{L M:List ft}(h:L<+:M){k:Nat}(hk:k<L.length):M.getD k default=L.getD k default:=by
 obtain⟨t,rfl⟩:=h
 simp[List.getD,List.getElem?_append_left hk]
theorem grs_getD{L:List ft}{k:Nat}(hk:k<L.length):(grs L).getD k default=(L.getD k default).graph∧(pts L).getD k default=(L.getD k default).path:=by
 simp[grs,pts,List.getD,hk]
theorem grs_len(L:List ft):(grs L).length=L.length∧(pts L).length=L.length:=by simp[grs,pts]
theorem appNil{α:Type}(l:List α)(h:l.length≤1000000):app [] l=some l:=by
 unfold app; rw[if_pos (by simp; omega)]; rfl
theorem app1'{α:Type}{xs:List α}(x:α)(h:xs.length≤1000000):app xs [x]=some (xs++[x]):=by
 unfold app; rw[if_pos (by simp; omega)]
end
section
section
variable{C:List Sb}{L:List ft}{k m:Nat}{ρ:Type}
theorem implRound(hn:C.length≤13)(hC:∀ g∈C,Rise g.Edges∧g.Edges.length≤16)(hL:∀ y∈L,FOk m y)(hm:m≤1000)(hl:L.length≤400)(hk:k<L.length):
 forN (ρ:=ρ) (fun (i12:Nat) (s12:(List ft))=>
  ae (idx C (i12:Int)) fun v40=>
  ae (idx s12 (k:Int)) fun v46=>
  ae (idx s12 (k:Int)) fun v49=>
  bif decide (v40.Source=v49.graph.Target) then
   ae (idx s12 (k:Int)) fun v54=>
   ae (idx s12 (k:Int)) fun v56=>
   ae (impl_compose v56.graph v40) fun v58=>
   ae (idx s12 (k:Int)) fun v61=>
   ae (idx s12 (k:Int)) fun v63=>
   ae (slices_Clone_Sint_int v63.path) fun v64=>
   ae (app v64 ([(i12:Int)])) fun v67=>
   ae (impl_closure_1 v58 v67 s12) fun v68=>
   some (.nx v68.2)
  else
   some (.nx s12)) C.length 0 L=some (.inr (innL C (L.getD k default) L C.length)):=by
 obtain⟨s',h1,h2⟩:=forN_inv (ρ:=ρ) (f:=fun (i12:Nat) (s12:(List ft))=>
  ae (idx C (i12:Int)) fun v40=>
  ae (idx s12 (k:Int)) fun v46=>
  ae (idx s12 (k:Int)) fun v49=>
  bif decide (v40.Source=v49.graph.Target) then
   ae (idx s12 (k:Int)) fun v54=>
   ae (idx s12 (k:Int)) fun v56=>
   ae (impl_compose v56.graph v40) fun v58=>
   ae (idx s12 (k:Int)) fun v61=>
   ae (idx s12 (k:Int)) fun v63=>
   ae (slices_Clone_Sint_int v63.path) fun v64=>
   ae (app v64 ([(i12:Int)])) fun v67=>
   ae (impl_closure_1 v58 v67 s12) fun v68=>
   some (.nx v68.2)
  else
   some (.nx s12)) (fun i s=>s=innL C (L.getD k default) L i) C.length 0 L rfl (fun j s _ hj hs=>by
  subst hs
  have hj:j<C.length:=by omega
  have hx:=hL _ (getD_mem' hk)
  have hlen:=innL_len C (L.getD k default) L j
  have hi:idx (innL C (L.getD k default) L j) (k:Int)=some (L.getD k default):=by
   rw[idx_getD (by omega),pre_getD (innL_pre C _ L 0 j (by omega)) hk]; rfl
  have hg:=hC _ (getD_mem' hj)
  have hc:=cmpG_ok hx.1 hg.1
  simp only[idx_getD hj,hi,ah]
  rw[innL]
  by_cases e:(C.getD j default).Source=(L.getD k default).graph.Target
  ·rw[if_pos e,decide_eq_true e,cond_true]
   have hp:=hx.2.2
   simp only[hc.1,ah,slices_Clone_Sint_int,appNil _ (show(L.getD k default).path.length≤1000000 by omega),app1' _ (show(L.getD k default).path.length≤1000000 by omega),implAdd _ _ _ (show(innL C (L.getD k default) L j).length≤1000 by omega)]
   exact⟨_,rfl,rfl⟩
  ·rw[if_neg e,decide_eq_false e,cond_false]
   exact⟨_,rfl,rfl⟩)
 rw[h1,h2,Nat.zero_add]
/-- The reference's round: it ends with the same, or says at once that it is too much. -/
theorem specRound(hn:C.length≤13)(hC:∀ g∈C,Rise g.Edges∧g.Edges.length≤16)(hL:∀ y∈L,FOk m y)(hm:m≤1000)(hk:k<L.length):∀ (n i:Nat),i+n=C.length→(innL C (L.getD k default) L i).length≤400→
 ∃ r,forN (ρ:=Flow (List Sb×List (List Int)×Bool) (List Sb×List (List Int)×Int)) (fun (i13:Nat) (s13:(List Sb)×(List (List Int)))=>
  ae (idx C (i13:Int)) fun v58=>
  ae (idx s13.1 (k:Int)) fun v63=>
  ae (idx s13.1 (k:Int)) fun v65=>
  bif decide (v58.Source=v65.Target) then
   ae (idx s13.1 (k:Int)) fun v69=>
   ae (idx s13.1 (k:Int)) fun v70=>
   ae (idx C (i13:Int)) fun v74=>
   ae (spec_l24Compose v70 v74) fun v76=>
   ae (spec_l24At s13.1 v76) fun v79=>
   bif decide ((0:Int)≤v79) then
    some (.nx (s13.1,s13.2))
   else
    bif decide ((s13.1.length:Int)=(400:Int)) then
     some (.rt (.rt (s13.1,s13.2,false)))
    else
     ae (app s13.1 ([v76])) fun v89=>
     ae (idx s13.2 (k:Int)) fun v93=>
     ae (idx s13.2 (k:Int)) fun v94=>
     ae (spec_l1Own v94) fun v95=>
     ae (app v95 ([(i13:Int)])) fun v98=>
     ae (app s13.2 ([v98])) fun v100=>
     some (.nx (v89,v100))
  else
   some (.nx (s13.1,s13.2))) n i (grs (innL C (L.getD k default) L i),pts (innL C (L.getD k default) L i))=some r∧
  ((innL C (L.getD k default) L C.length).length≤400→r=.inr (grs (innL C (L.getD k default) L C.length),pts (innL C (L.getD k default) L C.length)))∧
  (400<(innL C (L.getD k default) L C.length).length→∃ l q,r=.inl (.rt (l,q,false))):=by
 intro n
 induction n with
 | zero=>
  intro i hi hle
  have:i=C.length:=by omega
  subst this
  exact⟨_,rfl,fun _=>rfl,fun h=>by omega⟩
 | succ n ih=>
  intro i hi hle
  have hj:i<C.length:=by omega
  have hx:=hL _ (getD_mem' hk)
  have hlen:=innL_len C (L.getD k default) L i
  have hpre:=innL_pre C (L.getD k default) L 0 i (by omega)
  have h1:idx (grs (innL C (L.getD k default) L i)) (k:Int)=some (L.getD k default).graph:=by
   have hk':k<(innL C (L.getD k default) L i).length:=by omega
   rw[idx_getD (by rw[(grs_len _).1]; exact hk'),(grs_getD hk').1,pre_getD hpre hk]; rfl
  have h2:idx (pts (innL C (L.getD k default) L i)) (k:Int)=some (L.getD k default).path:=by
   have hk':k<(innL C (L.getD k default) L i).length:=by omega
   rw[idx_getD (by rw[(grs_len _).2]; exact hk'),(grs_getD hk').2,pre_getD hpre hk]; rfl
  have hg:=hC _ (getD_mem' hj)
  have hc:=cmpG_ok hx.1 hg.1
  rw[forN]
  simp only[idx_getD hj,h1,h2,ah]
  by_cases e:(C.getD i default).Source=(L.getD k default).graph.Target
  ·rw[decide_eq_true e,cond_true]
   obtain⟨a,ha,hb⟩:=specAt (grs (innL C (L.getD k default) L i)) (cmpG (L.getD k default).graph (C.getD i default))
   simp only[hc.2.1,ah,ha,hb]
   have hs:innL C (L.getD k default) L (i+1)=addF (innL C (L.getD k default) L i) (cmpG (L.getD k default).graph (C.getD i default)) ((L.getD k default).path++[(i:Int)]):=by rw[innL,if_pos e]
   have hq:=addF_grs (innL C (L.getD k default) L i) (cmpG (L.getD k default).graph (C.getD i default)) ((L.getD k default).path++[(i:Int)])
   cases hkn:knownB (grs (innL C (L.getD k default) L i)) (cmpG (L.getD k default).graph (C.getD i default)) with
   | true=>
    rw[hkn] at hq
    simp only[cond_true,ah] at hq ⊢
    have:=ih (i+1) (by omega) (by rw[hs,← (grs_len _).1,hq.1,(grs_len _).1]; exact hle)
    rw[hs,hq.1,hq.2] at this
    exact this
   | false=>
    rw[hkn] at hq
    simp only[cond_false] at hq ⊢
    by_cases e4:((grs (innL C (L.getD k default) L i)).length:Int)=400
    ·rw[decide_eq_true e4,cond_true,ah]
     refine⟨_,rfl,fun h=>?_,fun _=>⟨_,_,rfl⟩⟩
     have h5:(innL C (L.getD k default) L (i+1)).length≤(innL C (L.getD k default) L C.length).length:=(innL_pre C _ L (i+1) C.length (by omega)).length_le
     rw[hs,← (grs_len (addF _ _ _)).1,hq.1,aI] at h5
     simp only[List.length_singleton] at h5
     omega
    ·rw[decide_eq_false e4,cond_false]
     have hp:=hx.2.2
     have hl4:=(grs_len (innL C (L.getD k default) L i)).1
     have hl5:=(grs_len (innL C (L.getD k default) L i)).2
     simp only[app1' _ (show(grs (innL C (L.getD k default) L i)).length≤1000000 by omega),app1' _ (show(pts (innL C (L.getD k default) L i)).length≤1000000 by omega),spec_l1Own,appNil _ (show(L.getD k default).path.length≤1000000 by omega),app1' _ (show(L.getD k default).path.length≤1000000 by omega),ah]
     have:=ih (i+1) (by omega) (by rw[hs,← (grs_len _).1,hq.1,aI]; simp only[List.length_singleton]; omega)
     rw[hs,hq.1,hq.2] at this
     exact this
  ·rw[decide_eq_false e,cond_false,ah]
   have hs:innL C (L.getD k default) L (i+1)=innL C (L.getD k default) L i:=by rw[innL,if_neg e]
   have:=ih (i+1) (by omega) (by rw[hs]; exact hle)
   rw[hs] at this
   exact this
end
end
section
/-! What the rounds keep: words, their lengths. -/
inductive Wd(C:List Sb):List Int→Sb→Prop
 | one (j:Nat) (h:j<C.length):Wd C [(j:Int)] (C.getD j default)
 | snoc {w:List Int} {g:Sb} (j:Nat) (hj:j<C.length) (h:Wd C w g) (hs:(C.getD j default).Source=g.Target):Wd C (w++[(j:Int)]) (cmpG g (C.getD j default))
structure QInv(C:List Sb)(k:Nat)(L:List ft):Prop where
 vl:∀ y∈L,Wd C y.path y.graph
 asc:L.Pairwise (fun a b=>a.path.length≤b.path.length)
 top:k<L.length→∀ y∈L,y.path.length≤(L.getD k default).path.length+1
 cls:∀ i,i<k→i<L.length→∀ j,j<C.length→(C.getD j default).Source=(L.getD i default).graph.Target→∃ y∈L,y.graph=cmpG (L.getD i default).graph (C.getD j default)∧y.path.length≤(L.getD i default).path.length+1
 ini:∀ j,j<C.length→∃ y∈L,y.graph=C.getD j default∧y.path.length≤1
 nd:(grs L).Nodup
theorem addF_nd{L:List ft}(g:Sb)(q:List Int)(h:(grs L).Nodup):(grs (addF L g q)).Nodup:=by
 rw[(addF_grs L g q).1]
 cases hk:knownB (grs L) g
 ·rw[cond_false,List.nodup_append]
  refine⟨h,by simp,fun a ha b hb e=>?_⟩
  rw[List.mem_singleton.1 hb] at e
  subst e
  rw[(knownB_iff _ _).2 ha] at hk; cases hk
 ·exact h
theorem addF_has(L:List ft)(g:Sb)(q:List Int):∃ y∈addF L g q,y.graph=g∧(y∈L∨y.path=q):=by
 unfold addF
 cases hk:knownB (grs L) g
 ·exact⟨⟨g,q⟩,by simp,rfl,.inr rfl⟩
 ·have:=(knownB_iff _ _).1 hk
  obtain⟨y,hy,e⟩:=List.mem_map.1 this
  exact⟨y,by simpa using hy,e,.inl hy⟩
theorem addF_asc{L:List ft}(g:Sb)(q:List Int)(h:L.Pairwise (fun a b=>a.path.length≤b.path.length))(hq:∀ y∈L,y.path.length≤q.length):(addF L g q).Pairwise (fun a b=>a.path.length≤b.path.length):=by
 unfold addF
 cases hk:knownB (grs L) g
 ·rw[cond_false,List.pairwise_append]
  exact⟨h,by simp,fun a ha b hb=>by rw[List.mem_singleton.1 hb]; exact hq a ha⟩
 ·exact h
theorem ini_inv(C:List Sb):∀ i,i≤C.length→(∀ y∈iniL C i,Wd C y.path y.graph∧y.path.length=1)∧(grs (iniL C i)).Nodup∧∀ j,j<i→∃ y∈iniL C i,y.graph=C.getD j default∧y.path.length≤1
 | 0,_=>⟨fun y hy=>by simp[iniL] at hy,by simp[iniL,grs],fun j h=>by omega⟩
 | i+1,hi=>by
  obtain⟨h1,h2,h3⟩:=ini_inv C i (by omega)
  rw[iniL]
  have hm:∀ y∈addF (iniL C i) (C.getD i default) [(i:Int)],Wd C y.path y.graph∧y.path.length=1:=fun y hy=>by
   rcases addF_mem hy with h | rfl
   ·exact h1 y h
   ·exact⟨.one i (by omega),rfl⟩
  refine⟨hm,addF_nd _ _ h2,fun j hj=>?_⟩
  by_cases e:j=i
  ·subst e
   obtain⟨y,hy,e1,_⟩:=addF_has (iniL C j) (C.getD j default) [(j:Int)]
   exact⟨y,hy,e1,Nat.le_of_eq (hm y hy).2⟩
  ·obtain⟨y,hy,e1,e2⟩:=h3 j (by omega)
   obtain⟨t,ht⟩:=addF_pre (iniL C i) (C.getD i default) [(i:Int)]
   exact⟨y,by rw[← ht]; exact List.mem_append.2 (.inl hy),e1,e2⟩
theorem getD_get{α:Type}[Inhabited α]{l:List α}{i:Nat}(h:i<l.length):l.getD i default=l[i]:=by simp[List.getD,h]
theorem QInv.init(C:List Sb):QInv C 0 (iniL C C.length):=by
 obtain⟨h1,h2,h3⟩:=ini_inv C C.length (aZ _)
 refine⟨fun y hy=>(h1 y hy).1,?_,fun h y hy=>by rw[(h1 y hy).2]; omega,fun i h=>by omega,h3,h2⟩
 exact List.pairwise_of_forall_mem_list fun a ha b hb=>by rw[(h1 a ha).2,(h1 b hb).2]; exact aZ _
theorem QInv.step{C:List Sb}{k:Nat}{L:List ft}(h:QInv C k L)(hk:k<L.length):QInv C (k+1) (innL C (L.getD k default) L C.length):=by
 have hx:=h.vl _ (getD_mem' hk)
 have ht:=h.top hk
 have J:∀ i,i≤C.length→(∀ y∈innL C (L.getD k default) L i,Wd C y.path y.graph)∧(innL C (L.getD k default) L i).Pairwise (fun a b=>a.path.length≤b.path.length)∧(∀ y∈innL C (L.getD k default) L i,y.path.length≤(L.getD k default).path.length+1)∧(grs (innL C (L.getD k default) L i)).Nodup∧
  ∀ j,j<i→(C.getD j default).Source=(L.getD k default).graph.Target→∃ y∈innL C (L.getD k default) L i,y.graph=cmpG (L.getD k default).graph (C.getD j default)∧y.path.length≤(L.getD k default).path.length+1:=by
  intro i
  induction i with
  | zero=>exact fun _=>⟨h.vl,h.asc,ht,h.nd,fun j hj=>by omega⟩
  | succ i ih=>
   intro hi
   obtain⟨j1,j2,j3,j4,j5⟩:=ih (by omega)
   rw[innL]
   by_cases e:(C.getD i default).Source=(L.getD k default).graph.Target
   ·rw[if_pos e]
    have hm:∀ y∈addF (innL C (L.getD k default) L i) (cmpG (L.getD k default).graph (C.getD i default)) ((L.getD k default).path++[(i:Int)]),Wd C y.path y.graph∧y.path.length≤(L.getD k default).path.length+1:=fun y hy=>by
     rcases addF_mem hy with q | rfl
     ·exact⟨j1 y q,j3 y q⟩
     ·exact⟨.snoc i (by omega) hx e,by simp⟩
    refine⟨fun y hy=>(hm y hy).1,addF_asc _ _ j2 (fun y hy=>by have:=j3 y hy; simp only[aI,a9,bj]; omega),fun y hy=>(hm y hy).2,addF_nd _ _ j4,fun j hj hs=>?_⟩
    by_cases ej:j=i
    ·subst ej
     obtain⟨y,hy,e1,_⟩:=addF_has (innL C (L.getD k default) L j) (cmpG (L.getD k default).graph (C.getD j default)) ((L.getD k default).path++[(j:Int)])
     exact⟨y,hy,e1,(hm y hy).2⟩
    ·obtain⟨y,hy,e1,e2⟩:=j5 j (by omega) hs
     obtain⟨t,ht⟩:=addF_pre (innL C (L.getD k default) L i) (cmpG (L.getD k default).graph (C.getD i default)) ((L.getD k default).path++[(i:Int)])
     exact⟨y,by rw[← ht]; exact List.mem_append.2 (.inl hy),e1,e2⟩
   ·rw[if_neg e]
    refine⟨j1,j2,j3,j4,fun j hj hs=>?_⟩
    by_cases ej:j=i
    ·subst ej; exact absurd hs e
    ·exact j5 j (by omega) hs
 obtain⟨j1,j2,j3,j4,j5⟩:=J C.length (aZ _)
 have hpre:=innL_pre C (L.getD k default) L 0 C.length (by omega)
 simp only[innL] at hpre
 have hsub:∀ y∈L,y∈innL C (L.getD k default) L C.length:=fun y hy=>by
  obtain⟨t,ht⟩:=hpre
  rw[← ht]; exact List.mem_append.2 (.inl hy)
 refine⟨j1,j2,fun hk1 y hy=>?_,fun i hi hil j hj hs=>?_,fun j hj=>?_,j4⟩
 ·have h1:=j3 y hy
  have h2:=List.pairwise_iff_getElem.1 j2 k (k+1) (by omega) hk1 (by omega)
  have e1:=getD_get hk1
  have e2:=getD_get (l:=innL C (L.getD k default) L C.length) (i:=k) (by omega)
  have e3:=pre_getD hpre hk
  rw[← e2,← e1,e3] at h2
  omega
 ·have hiL:i<L.length:=by omega
  rw[pre_getD hpre hiL] at hs ⊢
  by_cases e:i=k
  ·subst e; exact j5 j hj hs
  ·obtain⟨y,hy,e1,e2⟩:=h.cls i (by omega) hiL j hj hs
   exact⟨y,hsub y hy,e1,e2⟩
 ·obtain⟨y,hy,e1⟩:=h.ini j hj
  exact⟨y,hsub y hy,e1⟩
end
section
noncomputable def fI(C:List Sb)(s9:(List ft)×Int):Option (Flow ((List ft)×Bool) ((List ft)×Int)):=
 bif decide (s9.2<(s9.1.length:Int)) then
  thenL (ρ:=(Flow ((List ft)×Bool) ((List ft)×Int))) (σ:=(List ft)) (forN (fun (i12:Nat) (s12:(List ft))=>
   ae (idx C (i12:Int)) fun v40=>
   ae (idx s12 s9.2) fun v46=>
   ae (idx s12 s9.2) fun v49=>
   bif decide (v40.Source=v49.graph.Target) then
    ae (idx s12 s9.2) fun v54=>
    ae (idx s12 s9.2) fun v56=>
    ae (impl_compose v56.graph v40) fun v58=>
    ae (idx s12 s9.2) fun v61=>
    ae (idx s12 s9.2) fun v63=>
    ae (slices_Clone_Sint_int v63.path) fun v64=>
    ae (app v64 ([(i12:Int)])) fun v67=>
    ae (impl_closure_1 v58 v67 s12) fun v68=>
    some (.nx v68.2)
   else
    some (.nx s12)) C.length 0 s9.1) fun s12=>
  bif decide ((400:Int)<(s12.length:Int)) then
   some (.rt ([],false))
  else
   some (.nx (s12,IntKind.i64.wrap (s9.2+(1:Int))))
 else
  some (.br s9)
noncomputable def fS(C:List Sb)(s10:(List Sb)×(List (List Int))×Int):Option (Flow ((List Sb)×(List (List Int))×Bool) ((List Sb)×(List (List Int))×Int)):=
 bif decide (s10.2.2<(s10.1.length:Int)) then
  thenL (ρ:=(Flow ((List Sb)×(List (List Int))×Bool) ((List Sb)×(List (List Int))×Int))) (σ:=(List Sb)×(List (List Int))) (forN (fun (i13:Nat) (s13:(List Sb)×(List (List Int)))=>
   ae (idx C (i13:Int)) fun v58=>
   ae (idx s13.1 s10.2.2) fun v63=>
   ae (idx s13.1 s10.2.2) fun v65=>
   bif decide (v58.Source=v65.Target) then
    ae (idx s13.1 s10.2.2) fun v69=>
    ae (idx s13.1 s10.2.2) fun v70=>
    ae (idx C (i13:Int)) fun v74=>
    ae (spec_l24Compose v70 v74) fun v76=>
    ae (spec_l24At s13.1 v76) fun v79=>
    bif decide ((0:Int)≤v79) then
     some (.nx (s13.1,s13.2))
    else
     bif decide ((s13.1.length:Int)=(400:Int)) then
      some (.rt (.rt (s13.1,s13.2,false)))
     else
      ae (app s13.1 ([v76])) fun v89=>
      ae (idx s13.2 s10.2.2) fun v93=>
      ae (idx s13.2 s10.2.2) fun v94=>
      ae (spec_l1Own v94) fun v95=>
      ae (app v95 ([(i13:Int)])) fun v98=>
      ae (app s13.2 ([v98])) fun v100=>
      some (.nx (v89,v100))
   else
    some (.nx (s13.1,s13.2))) C.length 0 (s10.1,s10.2.1)) fun s13=>
  some (.nx (s13.1,s13.2,IntKind.i64.wrap (s10.2.2+(1:Int))))
 else
  some (.br s10)
/-- What is ft up to place k has been composed with every call that fits. -/
def Closed(C:List Sb)(G:List Sb)(k:Nat):Prop:=∀ i,i<k→∀ j,j<C.length→(C.getD j default).Source=(G.getD i default).Target→cmpG (G.getD i default) (C.getD j default)∈G
structure Good(C:List Sb)(L:List ft):Prop where
 len:L.length≤400
 ok:∀ y∈L,FOk 1000 y
 closed:Closed C (grs L) L.length
 inv:QInv C L.length L
theorem rounds{C:List Sb}(hn:C.length≤13)(hC:∀ g∈C,Rise g.Edges∧g.Edges.length≤16):∀ (d:Nat) (L:List ft) (k:Nat),400-k≤d→k≤L.length→L.length≤400→(∀ y∈L,FOk (k+1) y)→Closed C (grs L) k→QInv C k L→
 (∃ Lf,Good C Lf∧(∃ i,(lim fun n=>whileN (fI C) n (L,(k:Int)))=some (.inr (Lf,i)))∧∃ i,(lim fun n=>whileN (fS C) n (grs L,pts L,(k:Int)))=some (.inr (grs Lf,pts Lf,i)))∨
 ((lim fun n=>whileN (fI C) n (L,(k:Int)))=some (.inl ([],false))∧∃ l q,(lim fun n=>whileN (fS C) n (grs L,pts L,(k:Int)))=some (.inl (l,q,false))):=by
 have stop:∀ (L:List ft) (k:Nat),k=L.length→L.length≤400→(∀ y∈L,FOk (k+1) y)→Closed C (grs L) k→QInv C k L→∃ Lf,Good C Lf∧(∃ i,(lim fun n=>whileN (fI C) n (L,(k:Int)))=some (.inr (Lf,i)))∧∃ i,(lim fun n=>whileN (fS C) n (grs L,pts L,(k:Int)))=some (.inr (grs Lf,pts Lf,i)):=by
  intro L k hk hl hok hcl hq
  refine⟨L,⟨hl,fun y hy=>⟨(hok y hy).1,(hok y hy).2.1,by have:=(hok y hy).2.2; omega⟩,hk▸hcl,hk▸hq⟩,⟨(k:Int),wl_br (s':=(L,(k:Int))) ?_⟩,⟨(k:Int),wl_br (s':=(grs L,pts L,(k:Int))) ?_⟩⟩
  ·rw[fI,decide_eq_false (by simp only; omega),cond_false]
  ·rw[fS,decide_eq_false (by simp only[(grs_len L).1]; omega),cond_false]
 intro d
 induction d with
 | zero=>exact fun L k hd hk hl hok hcl hq=>.inl (stop L k (by omega) hl hok hcl hq)
 | succ d ih=>
  intro L k hd hk hl hok hcl hq
  by_cases e:k=L.length
  ·exact .inl (stop L k e hl hok hcl hq)
  have hk':k<L.length:=by omega
  have hI:fI C (L,(k:Int))=(bif decide ((400:Int)<((innL C (L.getD k default) L C.length).length:Int)) then some (.rt ([],false)) else some (.nx (innL C (L.getD k default) L C.length,((k+1:Nat):Int)))):=by
   rw[fI,decide_eq_true (by simp only; omega),cond_true]
   simp only[implRound hn hC hok (by omega) hl hk',thenL_inr,wrap_succ (i:=k) (by omega)]
  obtain⟨r,hr,h1,h2⟩:=specRound hn hC hok (by omega) hk' C.length 0 (by omega) (by simpa[innL] using hl)
  have hS:fS C (grs L,pts L,(k:Int))=thenL (some r) fun s13=>some (.nx (s13.1,s13.2,((k+1:Nat):Int))):=by
   rw[fS,decide_eq_true (by simp only[(grs_len L).1]; omega),cond_true]
   simp only[innL] at hr
   simp only[hr,wrap_succ (i:=k) (by omega)]
  have hx:=hok _ (getD_mem' hk')
  by_cases h4:400<(innL C (L.getD k default) L C.length).length
  ·refine .inr ⟨wl_rt (by rw[hI,decide_eq_true (by omega),cond_true]),?_⟩
   obtain⟨l,q,rfl⟩:=h2 h4
   exact⟨l,q,wl_rt (by rw[hS,thenL_inl])⟩
  ·rw[wl_nx (by rw[hI,decide_eq_false (by omega),cond_false]:fI C (L,(k:Int))=some (.nx (innL C (L.getD k default) L C.length,((k+1:Nat):Int))))]
   have hr':=h1 (by omega)
   rw[wl_nx (by rw[hS,hr',thenL_inr]:fS C (grs L,pts L,(k:Int))=some (.nx (grs (innL C (L.getD k default) L C.length),pts (innL C (L.getD k default) L C.length),((k+1:Nat):Int))))]
   have hpre:=innL_pre C (L.getD k default) L 0 C.length (by omega)
   have hle:=hpre.length_le
   simp only[innL] at hpre hle
   refine ih _ (k+1) (by omega) (by omega) (by omega) (innL_ok hC hx hok C.length (aZ _)) ?_ (hq.step hk')
   intro i hi j hj hs
   have hg:∀ i,i<L.length→(grs (innL C (L.getD k default) L C.length)).getD i default=(grs L).getD i default:=by
    intro i hi
    rw[(grs_getD (by omega)).1,(grs_getD hi).1,pre_getD hpre hi]
   rw[hg i (by omega)] at hs ⊢
   by_cases ei:i=k
   ·subst ei
    rw[(grs_getD hk').1] at hs ⊢
    exact innL_known _ _ hj hs
   ·obtain⟨t,ht⟩:=hpre
    have:=hcl i (by omega) j hj hs
    rw[← ht,grs,List.map_append]
    exact List.mem_append.2 (.inl this)
theorem implInit{C:List Sb}{ρ:Type}(hn:C.length≤13)(hC:∀ g∈C,Rise g.Edges∧g.Edges.length≤16):forN (ρ:=ρ) (fun (i4:Nat) (s4:(List ft))=>
 ae (idx C (i4:Int)) fun v19=>
 ae (impl_copyGraph v19) fun v23=>
 ae (impl_closure_1 v23 ([(i4:Int)]) s4) fun v26=>
 some (.nx v26.2)) C.length 0 ([])=some (.inr (iniL C C.length)):=by
 obtain⟨s',h1,h2⟩:=forN_inv (ρ:=ρ) (f:=fun (i4:Nat) (s4:(List ft))=>
  ae (idx C (i4:Int)) fun v19=>
  ae (impl_copyGraph v19) fun v23=>
  ae (impl_closure_1 v23 ([(i4:Int)]) s4) fun v26=>
  some (.nx v26.2)) (fun i s=>s=iniL C i) C.length 0 [] rfl (fun j s _ hj hs=>by
  subst hs
  have hj:j<C.length:=by omega
  have hg:=hC _ (getD_mem' hj)
  have hl:=iniL_len C j
  have hcp:impl_copyGraph (C.getD j default)=some (C.getD j default):=by
   simp only[impl_copyGraph,slices_Clone_Simpl_SizeEdge_impl_SizeEdge,appNil _ (show(C.getD j default).Edges.length≤1000000 by omega),ah]
  simp only[idx_getD hj,hcp,ah,implAdd _ _ _ (show(iniL C j).length≤1000 by omega)]
  exact⟨_,rfl,rfl⟩)
 rw[h1,h2,Nat.zero_add]
theorem specInit{C:List Sb}{ρ:Type}(hn:C.length≤13)(hC:∀ g∈C,Rise g.Edges∧g.Edges.length≤16):forN (ρ:=ρ) (fun (i4:Nat) (s4:(List Sb)×(List (List Int)))=>
 ae (idx C (i4:Int)) fun v24=>
 ae (spec_l24At s4.1 v24) fun v26=>
 bif decide (v26<(0:Int)) then
  ae (idx C (i4:Int)) fun v32=>
  ae (spec_l24Own v32) fun v34=>
  ae (app s4.1 ([v34])) fun v36=>
  ae (app s4.2 ([[(i4:Int)]])) fun v41=>
  some (.nx (v36,v41))
 else
  some (.nx (s4.1,s4.2))) C.length 0 ([],[])=some (.inr (grs (iniL C C.length),pts (iniL C C.length))):=by
 obtain⟨s',h1,h2⟩:=forN_inv (ρ:=ρ) (f:=fun (i4:Nat) (s4:(List Sb)×(List (List Int)))=>
  ae (idx C (i4:Int)) fun v24=>
  ae (spec_l24At s4.1 v24) fun v26=>
  bif decide (v26<(0:Int)) then
   ae (idx C (i4:Int)) fun v32=>
   ae (spec_l24Own v32) fun v34=>
   ae (app s4.1 ([v34])) fun v36=>
   ae (app s4.2 ([[(i4:Int)]])) fun v41=>
   some (.nx (v36,v41))
  else
   some (.nx (s4.1,s4.2))) (fun i s=>s=(grs (iniL C i),pts (iniL C i))) C.length 0 ([],[]) rfl (fun j s _ hj hs=>by
  subst hs
  have hj:j<C.length:=by omega
  have hg:=hC _ (getD_mem' hj)
  have hl:=iniL_len C j
  have hl2:=grs_len (iniL C j)
  obtain⟨a,ha,hb⟩:=specAt (grs (iniL C j)) (C.getD j default)
  have hq:=addF_grs (iniL C j) (C.getD j default) [(j:Int)]
  have hown:spec_l24Own (C.getD j default)=some (C.getD j default):=by
   simp only[spec_l24Own,appNil _ (show(C.getD j default).Edges.length≤1000000 by omega),ah]
  simp only[idx_getD hj,ha,ah,hown,app1' _ (show(grs (iniL C j)).length≤1000000 by omega),app1' _ (show(pts (iniL C j)).length≤1000000 by omega)]
  rw[iniL]
  cases hkn:knownB (grs (iniL C j)) (C.getD j default) with
  | true=>
   rw[hkn] at hq hb
   rw[decide_eq_false (by have:=of_decide_eq_true hb; omega),cond_false]
   exact⟨_,rfl,by rw[hq.1,hq.2]; rfl⟩
  | false=>
   rw[hkn] at hq hb
   rw[decide_eq_true (by have:=of_decide_eq_false hb; omega),cond_true]
   exact⟨_,rfl,by rw[hq.1,hq.2]; rfl⟩)
 rw[h1,h2,Nat.zero_add]
theorem dblI{α β:Type}(x:Option α)(f:α→Option β):(ae x fun _=>ae x f)=ae x f:=by cases x<;>rfl
theorem closure_both(p:Ct)(hn:p.Calls.length≤13)(hC:∀ g∈p.Calls,Rise g.Edges∧g.Edges.length≤16):
 (∃ L,Good p.Calls L∧impl_closure p=some (L,true)∧spec_l24Closure p=some (grs L,pts L,true))∨(impl_closure p=some ([],false)∧∃ l q,spec_l24Closure p=some (l,q,false)):=by
 have hi:=iniL_len p.Calls p.Calls.length
 have eI:impl_closure p=thenL (ρ:=((List ft)×Bool)) (lim fun n=>whileN (fI p.Calls) n (iniL p.Calls p.Calls.length,((0:Nat):Int))) fun s9=>some (s9.1,true):=by
  unfold impl_closure
  rw[implInit hn hC,thenL_inr]
  first
   | rfl
   | (unfold fI; simp only[dblI]; rfl)
 have eS:spec_l24Closure p=thenL (ρ:=((List Sb)×(List (List Int))×Bool)) (lim fun n=>whileN (fS p.Calls) n (grs (iniL p.Calls p.Calls.length),pts (iniL p.Calls p.Calls.length),((0:Nat):Int))) fun s10=>some (s10.1,s10.2.1,true):=by
  unfold spec_l24Closure
  rw[specInit hn hC,thenL_inr]
  rfl
 rw[eI,eS]
 rcases rounds hn hC 400 (iniL p.Calls p.Calls.length) 0 (by omega) (by omega) (by omega) (iniL_ok hC _ (aZ _)) (fun i h=>by omega) (QInv.init _) with⟨L,hg,⟨i,h1⟩,j,h2⟩ | ⟨h1,l,q,h2⟩
 ·rw[h1,h2]; exact .inl ⟨L,hg,rfl,rfl⟩
 ·rw[h1,h2]; exact .inr ⟨rfl,l,q,rfl⟩
end
section
/-! Both sides' closure. -/
theorem valid_callsG{p:Ct}(h:validP p=true):p.Calls.length≤12∧∀ g∈p.Calls,validG g=true:=by
 unfold validP at h
 simp only[aB,decide_eq_true_iff,bf] at h
 refine⟨h.1.1.2,fun g hg=>?_⟩
 have:=h.2 g hg
 unfold callOk at this
 simp only[aB] at this
 first | exact this.1 | exact this.1.1 | exact this.1.1.1 | exact this.1.1.1.1
theorem validR{g:Sb}(h:validG g=true):Rise g.Edges∧g.Edges.length≤16:=by
 obtain⟨h1,h2⟩:=valid_rise h
 refine⟨⟨h1,h2⟩,?_⟩
 have:=rise_len g.Edges 0 (by omega) h2 (fun e he=>by have:=code_ok (h1 e he); unfold code; omega)
 omega
theorem big1000{n:Nat}(h:n≤1000):Big n:=by unfold Big; omega
/-! Composition. -/
noncomputable def compB(a b:Sb):Bool:=validG a&&validG b&&decide (b.Source=a.Target)
theorem cmpG_rep{a b:Sb}(ha:Rise a.Edges)(hb:Rise b.Edges):Rep (cmpG a b).Edges (cutT (topT a.Edges b.Edges) 16):=by
 obtain⟨s,h1,h2⟩:=spec_compose_ok a b
 have:=(cmpG_ok ha hb).2.1
 rw[h1] at this
 rw[← Option.some.inj this]
 exact h2
theorem tab_rep{s:List Sa}{f:Nat→Nat}(h:Rep s f){i j:Nat}(hi:i<4)(hj:j<4):tabF s i j=f (i*4+j):=by
 have key:∀ e∈s,e.From=(i:Int)→e.To=(j:Int)→lv e.Strict=f (i*4+j)∧0<f (i*4+j):=by
  intro e he h1 h2
  obtain⟨_,k2,k3⟩:=(h.2.2 e).1 he
  have hc:code e=i*4+j:=by unfold code; rw[h1,h2]; omega
  rw[hc] at k2 k3
  refine⟨?_,k2⟩
  have:=h.2.1 (i*4+j)
  rw[k3,lv]
  by_cases e2:f (i*4+j)=2
  ·simp[e2]
  ·simp[e2]; omega
 by_cases h0:0<tabF s i j
 ·obtain⟨e,he,h1,h2,h3⟩:=tab_some h0
  rw[h3]; exact(key e he h1 h2).1
 ·by_cases hf:0<f (i*4+j)
  ·have hok:edgeOk ⟨(i:Int),(j:Int),decide (f (i*4+j)=2)⟩=true:=by
    simp only[edgeOk,aB,inR_iff]; omega
   have hc:code ⟨(i:Int),(j:Int),decide (f (i*4+j)=2)⟩=i*4+j:=by unfold code; simp only; omega
   have hm:=(h.2.2 ⟨(i:Int),(j:Int),decide (f (i*4+j)=2)⟩).2 ⟨hok,by rw[hc]; exact hf,by rw[hc]⟩
   have:=tab_mem h.1 hm hok
   simp only[Int.toNat_natCast] at this
   have hl:=(lv_le (decide (f (i*4+j)=2))).2
   omega
  ·omega
theorem top_iff(A B:List Sa){i j v:Nat}(hi:i<4)(hj:j<4)(hv:0<v):v≤topT A B (i*4+j)↔∃ k,k<4∧0<tabF A i k∧0<tabF B k j∧v≤max (tabF A i k) (tabF B k j):=by
 unfold topT
 rw[foldN_iff,show(i*4+j) / 4=i by omega,show(i*4+j) % 4=j by omega]
 constructor
 ·rintro (h | ⟨k,_,h2,h3⟩)
  ·omega
  ·exact⟨k,by omega,h3⟩
 ·rintro ⟨k,h2,h3⟩
  exact .inr ⟨k,by omega,by omega,h3⟩
theorem cmpG_tab{a b:Sb}(ha:Rise a.Edges)(hb:Rise b.Edges){i j v:Nat}(hi:i<4)(hj:j<4)(hv:0<v):v≤tabF (cmpG a b).Edges i j↔∃ k,k<4∧0<tabF a.Edges i k∧0<tabF b.Edges k j∧v≤max (tabF a.Edges i k) (tabF b.Edges k j):=by
 rw[tab_rep (cmpG_rep ha hb) hi hj,cutT,if_pos (by omega),top_iff _ _ hi hj hv]
theorem cmpG_assoc{a b c:Sb}(ha:Rise a.Edges)(hb:Rise b.Edges)(hc:Rise c.Edges):cmpG (cmpG a b) c=cmpG a (cmpG b c):=by
 have hab:=cmpG_ok ha hb
 have hbc:=cmpG_ok hb hc
 have h1:=cmpG_ok hab.2.2.1 hc
 have h2:=cmpG_ok ha hbc.2.2.1
 refine graph_ext (by rw[h1.2.2.2.2.1,hab.2.2.2.2.1,h2.2.2.2.2.1]) (by rw[h1.2.2.2.2.2,h2.2.2.2.2.2,hbc.2.2.2.2.2]) ?_
 refine Rep.unique (cmpG_rep hab.2.2.1 hc) ((cmpG_rep ha hbc.2.2.1).congr (fun n hn=>?_) (cutT_le (fun c=>topT_le _ _ c) 16))
 rw[cutT,cutT,if_pos hn,if_pos hn]
 obtain⟨i,j,hi,hj,rfl⟩:∃ i j,i<4∧j<4∧n=i*4+j:=⟨n / 4,n % 4,by omega,by omega,by omega⟩
 refine eq_of_iff fun v hv=>?_
 rw[top_iff _ _ hi hj hv,top_iff _ _ hi hj hv]
 constructor
 ·rintro ⟨m,hm,p1,p2,p3⟩
  obtain⟨k,hk,q1,q2,q3⟩:=(cmpG_tab hb hc (v:=1) (i:=m) hm hj (by omega)).1 p2
  rcases Nat.le_total (tabF (cmpG b c).Edges m j) (tabF a.Edges i m) with g | g
  ·rw[Nat.max_eq_left g] at p3
   refine⟨k,hk,(cmpG_tab ha hb hi hk (v:=1) (by omega)).2 ⟨m,hm,p1,q1,by omega⟩,q2,?_⟩
   have:=(cmpG_tab ha hb hi hk hv).2 ⟨m,hm,p1,q1,by omega⟩
   omega
  ·rw[Nat.max_eq_right g] at p3
   obtain⟨k,hk,q1,q2,q3⟩:=(cmpG_tab hb hc hm hj hv).1 p3
   have r1:=(cmpG_tab ha hb hi hk (v:=1) (by omega)).2 ⟨m,hm,p1,q1,by omega⟩
   refine⟨k,hk,r1,q2,?_⟩
   by_cases g2:v≤tabF c.Edges k j
   ·omega
   ·have:=(cmpG_tab ha hb hi hk hv).2 ⟨m,hm,p1,q1,by omega⟩
    omega
 ·rintro ⟨k,hk,p1,p2,p3⟩
  obtain⟨m,hm,q1,q2,q3⟩:=(cmpG_tab ha hb (v:=1) hi hk (by omega)).1 p1
  by_cases g:v≤tabF c.Edges k j
  ·exact⟨m,hm,q1,(cmpG_tab hb hc hm hj (v:=1) (by omega)).2 ⟨k,hk,q2,p2,by omega⟩,by have:=(cmpG_tab hb hc hm hj hv).2 ⟨k,hk,q2,p2,by omega⟩; omega⟩
  ·have p3:v≤tabF (cmpG a b).Edges i k:=by omega
   obtain⟨m,hm,q1,q2,q3⟩:=(cmpG_tab ha hb hi hk hv).1 p3
   refine⟨m,hm,q1,(cmpG_tab hb hc hm hj (v:=1) (by omega)).2 ⟨k,hk,q2,p2,by omega⟩,?_⟩
   by_cases g2:v≤tabF a.Edges i m
   ·omega
   ·have:=(cmpG_tab hb hc hm hj hv).2 ⟨k,hk,q2,p2,by omega⟩
    omega
end
section
/-! Walks over four places. -/
def Wk(M:Nat→Nat→Nat):Nat→Nat→Nat→Prop
 | 0,i,j=>i=j
 | n+1,i,j=>∃ k,k<4∧0<M i k∧Wk M n k j
section
variable{M:Nat→Nat→Nat}
theorem Wk.append:∀ {m n i k j:Nat},Wk M m i k→Wk M n k j→Wk M (m+n) i j
 | 0,n,i,k,j,h,h'=>by rw[Nat.zero_add]; rw[show i=k from h]; exact h'
 | m+1,n,i,k,j,⟨l,h1,h2,h3⟩,h'=>by
  rw[show m+1+n=(m+n)+1 by omega]
  exact⟨l,h1,h2,Wk.append h3 h'⟩
theorem Wk.split:∀ {m n i j:Nat},i<4→Wk M (m+n) i j→∃ k,k<4∧Wk M m i k∧Wk M n k j
 | 0,n,i,j,hi,h=>⟨i,hi,rfl,by rwa [Nat.zero_add] at h⟩
 | m+1,n,i,j,hi,h=>by
  rw[show m+1+n=(m+n)+1 by omega] at h
  obtain⟨l,h1,h2,h3⟩:=h
  obtain⟨k,q1,q2,q3⟩:=Wk.split h1 h3
  exact⟨k,q1,⟨l,h1,h2,q2⟩,q3⟩
theorem Wk.one{i j:Nat}(hj:j<4)(h:0<M i j):Wk M 1 i j:=⟨j,hj,h,rfl⟩
theorem Wk.one'{i j:Nat}(h:Wk M 1 i j):0<M i j∧j<4:=by
 obtain⟨k,h1,h2,h3⟩:=h
 rw[← show k=j from h3]; exact⟨h2,h1⟩
theorem Wk.end_lt:∀ {n i j:Nat},i<4→Wk M n i j→j<4
 | 0,i,j,hi,h=>by rw[← show i=j from h]; exact hi
 | n+1,i,j,_,⟨l,h1,_,h3⟩=>Wk.end_lt h1 h3
theorem Wk.rep{c v:Nat}(h:Wk M c v v):∀ t,Wk M (t*c) v v
 | 0=>by rw[Nat.zero_mul]; rfl
 | t+1=>by rw[Nat.succ_mul]; exact(Wk.rep h t).append h
/-- Among five places two are the same. -/
theorem pig5{a b c d e:Nat}(ha:a<4)(hb:b<4)(hc:c<4)(hd:d<4)(he:e<4):a=b∨a=c∨a=d∨a=e∨b=c∨b=d∨b=e∨c=d∨c=e∨d=e:=by omega
/-- Four steps hold a cycle. -/
theorem Wk.cyc{i j:Nat}(hi:i<4)(h:Wk M 4 i j):∃ p c q v,p+c+q=4∧1≤c∧v<4∧Wk M p i v∧Wk M c v v∧Wk M q v j:=by
 obtain⟨a,ha,h1,b,hb,h2,c,hc,h3,d,hd,h4,h5⟩:=h
 have h5:d=j:=h5
 subst h5
 have w1:=Wk.one ha h1
 have w2:=Wk.one hb h2
 have w3:=Wk.one hc h3
 have w4:=Wk.one hd h4
 rcases pig5 hi ha hb hc hd with e | e | e | e | e | e | e | e | e | e<;>subst e
 ·exact⟨0,1,3,i,rfl,by omega,hi,rfl,w1,(w2.append w3).append w4⟩
 ·exact⟨0,2,2,i,rfl,by omega,hi,rfl,w1.append w2,w3.append w4⟩
 ·exact⟨0,3,1,i,rfl,by omega,hi,rfl,(w1.append w2).append w3,w4⟩
 ·exact⟨0,4,0,i,rfl,by omega,hi,rfl,((w1.append w2).append w3).append w4,rfl⟩
 ·exact⟨1,1,2,a,rfl,by omega,ha,w1,w2,w3.append w4⟩
 ·exact⟨1,2,1,a,rfl,by omega,ha,w1,w2.append w3,w4⟩
 ·exact⟨1,3,0,a,rfl,by omega,ha,w1,(w2.append w3).append w4,rfl⟩
 ·exact⟨2,1,1,b,rfl,by omega,hb,w1.append w2,w3,w4⟩
 ·exact⟨2,2,0,b,rfl,by omega,hb,w1.append w2,w3.append w4,rfl⟩
 ·exact⟨3,1,0,c,rfl,by omega,hc,(w1.append w2).append w3,w4,rfl⟩
/-- A long walk may be made longer by twelve. -/
theorem Wk.up{n i j:Nat}(hi:i<4)(hn:4≤n)(h:Wk M n i j):Wk M (n+12) i j:=by
 rw[show n=4+(n-4) by omega] at h
 obtain⟨k,hk,h1,h2⟩:=h.split hi
 obtain⟨p,c,q,v,e,hc,hv,g1,g2,g3⟩:=h1.cyc hi
 have hc4:c=1∨c=2∨c=3∨c=4:=by omega
 have hr:Wk M (c+12) v v:=by
  rcases hc4 with rfl | rfl | rfl | rfl
  ·exact g2.rep 13 |> fun h=>h
  ·exact g2.rep 7 |> fun h=>h
  ·exact g2.rep 5 |> fun h=>h
  ·exact g2.rep 4 |> fun h=>h
 have:=((g1.append hr).append g3).append h2
 rwa [show p+(c+12)+q+(n-4)=n+12 by omega] at this
/-- The cycles that may be left out. -/
theorem Wk.many:∀ (K n i j:Nat),i<4→4*K≤n→Wk M n i j→∃ n1 n2 n3 n4,n1+n2+n3+n4=K∧∀ m1 m2 m3 m4,m1≤n1→m2≤n2→m3≤n3→m4≤n4→m1+2*m2+3*m3+4*m4≤n∧Wk M (n-(m1+2*m2+3*m3+4*m4)) i j
 | 0,n,i,j,_,_,h=>⟨0,0,0,0,rfl,fun m1 m2 m3 m4 h1 h2 h3 h4=>by
  have:m1+2*m2+3*m3+4*m4=0:=by omega
  rw[this]; exact⟨by omega,h⟩⟩
 | K+1,n,i,j,hi,hn,h=>by
  rw[show n=4+(n-4) by omega] at h
  obtain⟨k,hk,h1,h2⟩:=h.split hi
  obtain⟨n1,n2,n3,n4,hs,H⟩:=Wk.many K (n-4) k j hk (by omega) h2
  obtain⟨p,c,q,v,e,hc,hv,g1,g2,g3⟩:=h1.cyc hi
  have cut:Wk M (p+q) i k:=g1.append g3
  have hc4:c=1∨c=2∨c=3∨c=4:=by omega
  have fin:∀ m1 m2 m3 m4,m1≤n1→m2≤n2→m3≤n3→m4≤n4→(m1+2*m2+3*m3+4*m4≤n∧Wk M (n-(m1+2*m2+3*m3+4*m4)) i j)∧(c+(m1+2*m2+3*m3+4*m4)≤n∧Wk M (n-(c+(m1+2*m2+3*m3+4*m4))) i j):=by
   intro m1 m2 m3 m4 b1 b2 b3 b4
   obtain⟨l,w⟩:=H m1 m2 m3 m4 b1 b2 b3 b4
   refine⟨⟨by omega,?_⟩,by omega,?_⟩
   ·have:=h1.append w
    rwa [show 4+(n-4-(m1+2*m2+3*m3+4*m4))=n-(m1+2*m2+3*m3+4*m4) by omega] at this
   ·have:=cut.append w
    rwa [show p+q+(n-4-(m1+2*m2+3*m3+4*m4))=n-(c+(m1+2*m2+3*m3+4*m4)) by omega] at this
  rcases hc4 with rfl | rfl | rfl | rfl
  ·refine⟨n1+1,n2,n3,n4,by omega,fun m1 m2 m3 m4 b1 b2 b3 b4=>?_⟩
   by_cases hm:m1≤n1
   ·exact(fin m1 m2 m3 m4 hm b2 b3 b4).1
   ·have:=(fin (m1-1) m2 m3 m4 (by omega) b2 b3 b4).2
    rwa [show 1+(m1-1+2*m2+3*m3+4*m4)=m1+2*m2+3*m3+4*m4 by omega] at this
  ·refine⟨n1,n2+1,n3,n4,by omega,fun m1 m2 m3 m4 b1 b2 b3 b4=>?_⟩
   by_cases hm:m2≤n2
   ·exact(fin m1 m2 m3 m4 b1 hm b3 b4).1
   ·have:=(fin m1 (m2-1) m3 m4 b1 (by omega) b3 b4).2
    rwa [show 2+(m1+2*(m2-1)+3*m3+4*m4)=m1+2*m2+3*m3+4*m4 by omega] at this
  ·refine⟨n1,n2,n3+1,n4,by omega,fun m1 m2 m3 m4 b1 b2 b3 b4=>?_⟩
   by_cases hm:m3≤n3
   ·exact(fin m1 m2 m3 m4 b1 b2 hm b4).1
   ·have:=(fin m1 m2 (m3-1) m4 b1 b2 (by omega) b4).2
    rwa [show 3+(m1+2*m2+3*(m3-1)+4*m4)=m1+2*m2+3*m3+4*m4 by omega] at this
  ·refine⟨n1,n2,n3,n4+1,by omega,fun m1 m2 m3 m4 b1 b2 b3 b4=>?_⟩
   by_cases hm:m4≤n4
   ·exact(fin m1 m2 m3 m4 b1 b2 b3 hm).1
   ·have:=(fin m1 m2 m3 (m4-1) b1 b2 b3 (by omega)).2
    rwa [show 4+(m1+2*m2+3*m3+4*(m4-1))=m1+2*m2+3*m3+4*m4 by omega] at this
/-- A long walk may be made shorter by twelve. -/
theorem Wk.down{n i j:Nat}(hi:i<4)(hn:88≤n)(h:Wk M n i j):Wk M (n-12) i j:=by
 obtain⟨n1,n2,n3,n4,hs,H⟩:=Wk.many 22 n i j hi (by omega) h
 by_cases b1:12≤n1
 ·exact(H 12 0 0 0 b1 (by omega) (by omega) (by omega)).2
 by_cases b2:6≤n2
 ·exact(H 0 6 0 0 (by omega) b2 (by omega) (by omega)).2
 by_cases b3:4≤n3
 ·exact(H 0 0 4 0 (by omega) (by omega) b3 (by omega)).2
 ·exact(H 0 0 0 3 (by omega) (by omega) (by omega) (by omega)).2
/-- A walk with a strict step. -/
def SW(M:Nat→Nat→Nat)(n i j:Nat):Prop:=∃ m1 m2 k l,m1+1+m2=n∧k<4∧l<4∧Wk M m1 i k∧M k l=2∧Wk M m2 l j
theorem SW.up{n i j:Nat}(hi:i<4)(hn:9≤n)(h:SW M n i j):SW M (n+12) i j:=by
 obtain⟨m1,m2,k,l,e,hk,hl,h1,h2,h3⟩:=h
 by_cases b:4≤m1
 ·exact⟨m1+12,m2,k,l,by omega,hk,hl,h1.up hi b,h2,h3⟩
 ·exact⟨m1,m2+12,k,l,by omega,hk,hl,h1,h2,h3.up hl (by omega)⟩
theorem SW.down{n i j:Nat}(hi:i<4)(hn:177≤n)(h:SW M n i j):SW M (n-12) i j:=by
 obtain⟨m1,m2,k,l,e,hk,hl,h1,h2,h3⟩:=h
 by_cases b:88≤m1
 ·exact⟨m1-12,m2,k,l,by omega,hk,hl,h1.down hi b,h2,h3⟩
 ·exact⟨m1,m2-12,k,l,by omega,hk,hl,h1,h2,h3.down hl (by omega)⟩
end
end
section
/-! Powers of a graph. -/
theorem g_ext{a b:Sb}(ha:Rise a.Edges)(hb:Rise b.Edges)(hs:a.Source=b.Source)(ht:a.Target=b.Target)(h:∀ i j,i<4→j<4→tabF a.Edges i j=tabF b.Edges i j):a=b:=by
 have one:∀ {a b:Sb},Rise a.Edges→Rise b.Edges→(∀ i j,i<4→j<4→tabF a.Edges i j=tabF b.Edges i j)→∀ e∈a.Edges,e∈b.Edges:=by
  intro a b ha hb h e he
  have hok:=ha.1 e he
  have hc:=code_ok hok
  have h1:=tab_mem ha.2 he hok
  rw[h e.From.toNat e.To.toNat (by omega) (by omega)] at h1
  obtain⟨e',he',h2,h3,h4⟩:=tab_some (E:=b.Edges) (i:=e.From.toNat) (k:=e.To.toNat) (by have:=(lv_le e.Strict).2; omega)
  have h5:e'.Strict=e.Strict:=by
   rw[h1] at h4
   cases hx:e.Strict<;>cases hy:e'.Strict<;>simp[lv,hx,hy] at h4 ⊢
  rw[← edge_ext (a:=e') (b:=e) (by omega) (by omega) h5]; exact he'
 exact graph_ext hs ht (rise_unique ha.2 hb.2 fun e=>⟨one ha hb h e,one hb ha (fun i j hi hj=>(h i j hi hj).symm) e⟩)
noncomputable def pw(a:Sb):Nat→Sb
 | 0=>a
 | n+1=>cmpG (pw a n) a
def tb(g:Sb)(i j:Nat):Nat:=tabF g.Edges i j
theorem tb_le(g:Sb)(i j:Nat):tb g i j≤2:=tabF_le _ _ _
theorem tb_cmp{a b:Sb}(ha:Rise a.Edges)(hb:Rise b.Edges){i j v:Nat}(hi:i<4)(hj:j<4)(hv:0<v):v≤tb (cmpG a b) i j↔∃ k,k<4∧0<tb a i k∧0<tb b k j∧v≤max (tb a i k) (tb b k j):=cmpG_tab ha hb hi hj hv
theorem pw_ok{a:Sb}(ha:Rise a.Edges):∀ n,Rise (pw a n).Edges∧(pw a n).Source=a.Source∧(pw a n).Target=a.Target
 | 0=>⟨ha,rfl,rfl⟩
 | n+1=>by
  obtain⟨h1,h2,_⟩:=pw_ok ha n
  have h:=cmpG_ok h1 ha
  exact⟨h.2.2.1,h.2.2.2.2.1.trans h2,h.2.2.2.2.2⟩
theorem pw_wk{a:Sb}(ha:Rise a.Edges):∀ (n i j:Nat),i<4→j<4→(1≤tb (pw a n) i j↔Wk (tb a) (n+1) i j)
 | 0,i,j,hi,hj=>⟨fun h=>Wk.one hj h,fun h=>(Wk.one' h).1⟩
 | n+1,i,j,hi,hj=>by
  have h:=tb_cmp (pw_ok ha n).1 ha hi hj (v:=1) (by omega)
  rw[show tb (pw a (n+1)) i j=tb (cmpG (pw a n) a) i j from rfl,h]
  constructor
  ·rintro ⟨k,hk,h1,h2,_⟩
   exact((pw_wk ha n i k hi hk).1 h1).append (Wk.one hj h2)
  ·intro w
   obtain⟨k,hk,w1,w2⟩:=Wk.split (m:=n+1) (n:=1) hi w
   have:=(pw_wk ha n i k hi hk).2 w1
   exact⟨k,hk,this,(Wk.one' w2).1,by omega⟩
theorem pw_sw{a:Sb}(ha:Rise a.Edges):∀ (n i j:Nat),i<4→j<4→(2≤tb (pw a n) i j↔SW (tb a) (n+1) i j)
 | 0,i,j,hi,hj=>by
  constructor
  ·intro h
   have:=tb_le a i j
   exact⟨0,0,i,j,rfl,hi,hj,rfl,by have h:2≤tb a i j:=h; omega,rfl⟩
  ·rintro ⟨m1,m2,k,l,e,hk,hl,h1,h2,h3⟩
   have e1:m1=0:=by omega
   have e2:m2=0:=by omega
   subst e1; subst e2
   have h1:i=k:=h1
   have h3:l=j:=h3
   subst h1; subst h3
   show 2≤tb a i l
   omega
 | n+1,i,j,hi,hj=>by
  have h:=tb_cmp (pw_ok ha n).1 ha hi hj (v:=2) (by omega)
  rw[show tb (pw a (n+1)) i j=tb (cmpG (pw a n) a) i j from rfl,h]
  constructor
  ·rintro ⟨k,hk,h1,h2,h3⟩
   by_cases g:2≤tb (pw a n) i k
   ·obtain⟨m1,m2,x,y,e,hx,hy,w1,w2,w3⟩:=(pw_sw ha n i k hi hk).1 g
    exact⟨m1,m2+1,x,y,by omega,hx,hy,w1,w2,w3.append (Wk.one hj h2)⟩
   ·have:=tb_le a k j
    exact⟨n+1,0,k,j,rfl,hk,hj,(pw_wk ha n i k hi hk).1 h1,by omega,rfl⟩
  ·rintro ⟨m1,m2,x,y,e,hx,hy,w1,w2,w3⟩
   cases m2 with
   | zero=>
    have w3:y=j:=w3
    subst w3
    have e1:m1=n+1:=by omega
    subst e1
    exact⟨x,hx,(pw_wk ha n i x hi hx).2 w1,by omega,by omega⟩
   | succ m=>
    obtain⟨k,hk,v1,v2⟩:=Wk.split (m:=m) (n:=1) hy w3
    have h2:=(pw_sw ha n i k hi hk).2 ⟨m1,m,x,y,by omega,hx,hy,w1,w2,v1⟩
    exact⟨k,hk,by omega,(Wk.one' v2).1,by omega⟩
theorem pw_up{a:Sb}(ha:Rise a.Edges){n:Nat}(hn:164≤n):pw a (n+12)=pw a n:=by
 obtain⟨h1,h2,h3⟩:=pw_ok ha (n+12)
 obtain⟨g1,g2,g3⟩:=pw_ok ha n
 refine g_ext h1 g1 (h2.trans g2.symm) (h3.trans g3.symm) fun i j hi hj=>eq_of_iff fun v hv=>?_
 show v≤tb (pw a (n+12)) i j↔v≤tb (pw a n) i j
 have l1:=tb_le (pw a (n+12)) i j
 have l2:=tb_le (pw a n) i j
 by_cases e1:v=1
 ·subst e1
  rw[pw_wk ha _ i j hi hj,pw_wk ha _ i j hi hj]
  constructor
  ·intro w
   have:=w.down hi (by omega)
   rwa [show n+12+1-12=n+1 by omega] at this
  ·intro w
   have:=w.up hi (by omega)
   rwa [show n+1+12=n+12+1 by omega] at this
 by_cases e2:v=2
 ·subst e2
  rw[pw_sw ha _ i j hi hj,pw_sw ha _ i j hi hj]
  constructor
  ·intro w
   have:=w.down hi (by omega)
   rwa [show n+12+1-12=n+1 by omega] at this
  ·intro w
   have:=w.up hi (by omega)
   rwa [show n+1+12=n+12+1 by omega] at this
 ·omega
theorem pw_ups{a:Sb}(ha:Rise a.Edges){n:Nat}(hn:164≤n):∀ t,pw a (n+12*t)=pw a n
 | 0=>rfl
 | t+1=>by rw[show n+12*(t+1)=n+12*t+12 by omega,pw_up ha (by omega),pw_ups ha hn t]
theorem pw_add{a:Sb}(ha:Rise a.Edges)(m:Nat):∀ n,cmpG (pw a m) (pw a n)=pw a (m+n+1)
 | 0=>rfl
 | n+1=>by
  show cmpG (pw a m) (cmpG (pw a n) a)=cmpG (pw a (m+n+1)) a
  rw[← cmpG_assoc (pw_ok ha m).1 (pw_ok ha n).1 ha,pw_add ha m n]
theorem pw_idem{a:Sb}(ha:Rise a.Edges):cmpG (pw a 167) (pw a 167)=pw a 167:=by
 rw[pw_add ha 167 167,show 167+167+1=167+12*14 by omega,pw_ups ha (by omega)]
/-- All powers of an idempotent graph are the same. -/
theorem pw_same{a:Sb}(h:cmpG a a=a):∀ n,pw a n=a
 | 0=>rfl
 | n+1=>by show cmpG (pw a n) a=a; rw[pw_same h n,h]
end
section
/-! A path that the rounds find is not longer than 200. -/
section
variable{C:List Sb}
theorem Wd.rise(hC:∀ g∈C,Rise g.Edges∧g.Edges.length≤16){w:List Int}{g:Sb}(h:Wd C w g):Rise g.Edges:=by
 induction h with
 | one j hj=>exact(hC _ (getD_mem' hj)).1
 | snoc j hj _ _ ih=>exact(cmpG_ok ih (hC _ (getD_mem' hj)).1).2.2.1
theorem Wd.pos{w:List Int}{g:Sb}(h:Wd C w g):0<w.length:=by
 cases h with
 | one j hj=>simp
 | snoc j hj _ _=>simp
theorem cmp_src{a b:Sb}(ha:Rise a.Edges)(hb:Rise b.Edges):(cmpG a b).Source=a.Source:=(cmpG_ok ha hb).2.2.2.2.1
theorem cmp_tgt{a b:Sb}(ha:Rise a.Edges)(hb:Rise b.Edges):(cmpG a b).Target=b.Target:=(cmpG_ok ha hb).2.2.2.2.2
theorem Wd.append(hC:∀ g∈C,Rise g.Edges∧g.Edges.length≤16){u v:List Int}{a b:Sb}(h1:Wd C u a)(h2:Wd C v b)(hs:b.Source=a.Target):Wd C (u++v) (cmpG a b):=by
 have ra:=h1.rise hC
 induction h2 with
 | one j hj=>exact .snoc j hj h1 hs
 | snoc j hj h hs' ih=>
  have rg:=h.rise hC
  have rj:=(hC _ (getD_mem' hj)).1
  rw[cmp_src rg rj] at hs
  have:=Wd.snoc j hj (ih hs) (hs'.trans (cmp_tgt ra rg).symm)
  rwa [aP,cmpG_assoc ra rg rj] at this
theorem Wd.split(hC:∀ g∈C,Rise g.Edges∧g.Edges.length≤16){w:List Int}{g:Sb}(h:Wd C w g):∀ u v,w=u++v→u≠[]→v≠[]→∃ a b,Wd C u a∧Wd C v b∧b.Source=a.Target∧g=cmpG a b:=by
 induction h with
 | one j hj=>
  intro u v e hu hv
  have:=congrArg List.length e
  have h1:=List.length_pos_iff.2 hu
  have h2:=List.length_pos_iff.2 hv
  simp at this; omega
 | @snoc w0 g0 j hj h hs ih=>
  intro u v e hu hv
  obtain⟨v',x,rfl⟩:∃ v' x,v=v'++[x]:=⟨v.dropLast,v.getLast hv,(List.dropLast_concat_getLast hv).symm⟩
  rw[← aP] at e
  obtain⟨e1,e2⟩:=List.append_inj' e rfl
  have e2:(j:Int)=x:=by simpa using e2
  subst e2
  subst e1
  have rj:=(hC _ (getD_mem' hj)).1
  by_cases hv':v'=[]
  ·subst hv'
   rw[bw] at h
   exact⟨g0,C.getD j default,h,.one j hj,hs,rfl⟩
  ·obtain⟨a,b,h1,h2,h3,h4⟩:=ih u v' rfl hu hv'
   subst h4
   have ra:=h1.rise hC
   have rb:=h2.rise hC
   rw[cmp_tgt ra rb] at hs
   exact⟨a,cmpG b (C.getD j default),h1,.snoc j hj h2 hs,by rw[cmp_src rb rj]; exact h3,cmpG_assoc ra rb rj⟩
theorem Wd.single{j:Int}{g:Sb}(h:Wd C [j] g):∃ k:Nat,j=(k:Int)∧k<C.length∧g=C.getD k default:=by
 generalize e:[j]=w at h
 cases h with
 | one k hk=>
  have:j=(k:Int):=by simpa using e
  exact⟨k,this,hk,rfl⟩
 | snoc k hk h hs=>
  have h1:=h.pos
  have:=congrArg List.length e
  simp only[aI,a9,bj] at this; omega
theorem map_inj{α β:Type}{f:α→β}:∀ {l:List α},(l.map f).Nodup→∀ {a b:α},a∈l→b∈l→f a=f b→a=b
 | [],_,a,b,ha,_,_=>by simp at ha
 | x::l,h,a,b,ha,hb,e=>by
  rw[List.map_cons,List.nodup_cons] at h
  rcases List.mem_cons.1 ha with ha' | ha'<;>rcases List.mem_cons.1 hb with hb' | hb'
  ·rw[ha',hb']
  ·exact absurd (by rw[← ha',e]; exact List.mem_map_of_mem hb') h.1
  ·exact absurd (by rw[← hb',← e]; exact List.mem_map_of_mem ha') h.1
  ·exact map_inj h.2 ha' hb' e
variable{L:List ft}
theorem reach(hq:QInv C L.length L){w:List Int}{g:Sb}(h:Wd C w g):∃ y∈L,y.graph=g∧y.path.length≤w.length:=by
 induction h with
 | one j hj=>obtain⟨y,hy,e1,e2⟩:=hq.ini j hj; exact⟨y,hy,e1,e2⟩
 | snoc j hj h hs ih=>
  obtain⟨y,hy,e1,e2⟩:=ih
  obtain⟨i,hi,e3⟩:=List.mem_iff_getElem.1 hy
  have e4:L.getD i default=y:=by simp[List.getD,hi,e3]
  obtain⟨z,hz,f1,f2⟩:=hq.cls i hi hi j hj (by rw[e4,e1]; exact hs)
  rw[e4] at f1 f2
  exact⟨z,hz,by rw[f1,e1],by simp; omega⟩
def Geo(C:List Sb)(w:List Int)(g:Sb):Prop:=Wd C w g∧∀ w',Wd C w' g→w.length≤w'.length
theorem geo_path(hq:QInv C L.length L){y:ft}(hy:y∈L):Geo C y.path y.graph:=by
 refine⟨hq.vl y hy,fun w' h=>?_⟩
 obtain⟨z,hz,e1,e2⟩:=reach hq h
 have:=map_inj (f:=ft.graph) hq.nd hz hy e1
 subst this; exact e2
theorem Geo.split(hC:∀ g∈C,Rise g.Edges∧g.Edges.length≤16){u v:List Int}{g:Sb}(h:Geo C (u++v) g)(hu:u≠[])(hv:v≠[]):∃ a b,Geo C u a∧Geo C v b∧b.Source=a.Target∧g=cmpG a b:=by
 obtain⟨a,b,h1,h2,h3,h4⟩:=h.1.split hC u v rfl hu hv
 subst h4
 refine⟨a,b,⟨h1,fun w' hw=>?_⟩,⟨h2,fun w' hw=>?_⟩,h3,rfl⟩
 ·have:=h.2 _ (hw.append hC h2 h3)
  simp at this; omega
 ·have:=h.2 _ (h1.append hC hw h3)
  simp at this; omega
theorem Geo.head(hC:∀ g∈C,Rise g.Edges∧g.Edges.length≤16){w:List Int}{g:Sb}(h:Geo C w g){d:Nat}(h0:0<d)(hd:d≤w.length):∃ a,Geo C (w.take d) a:=by
 by_cases e:d=w.length
 ·subst e; rw[List.take_length]; exact⟨g,h⟩
 ·have h':=h
  rw[← List.take_append_drop d w] at h'
  obtain⟨a,_,h1,_⟩:=h'.split hC (fun e=>by have:=congrArg List.length e; simp only[List.length_take,List.length_drop,aI,List.length_replicate,bj] at this; omega) (fun e=>by have:=congrArg List.length e; simp only[List.length_take,List.length_drop,aI,List.length_replicate,bj] at this; omega)
  exact⟨a,h1⟩
theorem Geo.of{w w':List Int}{g:Sb}(h:Geo C w g)(h':Wd C w' g)(e:w'.length=w.length):Geo C w' g:=⟨h',fun v hv=>by rw[e]; exact h.2 v hv⟩
theorem wd_rep(hC:∀ g∈C,Rise g.Edges∧g.Edges.length≤16){j:Nat}:∀ (n:Nat) {g:Sb},Wd C (List.replicate (n+1) (j:Int)) g→j<C.length∧g=pw (C.getD j default) n∧(1≤n→(C.getD j default).Source=(C.getD j default).Target)
 | 0,g,h=>by
  obtain⟨k,e1,e2,e3⟩:=Wd.single (C:=C) (j:=(j:Int)) h
  have:j=k:=by omega
  subst this
  exact⟨e2,e3,fun h=>by omega⟩
 | n+1,g,h=>by
  rw[List.replicate_succ'] at h
  obtain⟨a,b,h1,h2,h3,h4⟩:=h.split hC _ _ rfl (by simp[List.replicate_succ]) (by simp)
  obtain⟨k,e1,e2,e3⟩:=Wd.single h2
  have:j=k:=by omega
  subst this
  obtain⟨g1,g2,g3⟩:=wd_rep hC n h1
  subst e3; subst g2
  have hr:=(hC _ (getD_mem' e2)).1
  rw[(pw_ok hr n).2.2] at h3
  exact⟨e2,h4,fun _=>h3⟩
theorem rep_wd(hC:∀ g∈C,Rise g.Edges∧g.Edges.length≤16){j:Nat}(hj:j<C.length)(hs:(C.getD j default).Source=(C.getD j default).Target):∀ n:Nat,Wd C (List.replicate (n+1) (j:Int)) (pw (C.getD j default) n)
 | 0=>.one j hj
 | n+1=>by
  rw[List.replicate_succ']
  exact .snoc j hj (rep_wd hC hj hs n) (hs.trans (pw_ok (hC _ (getD_mem' hj)).1 n).2.2.symm)
/-- Where a layer has one graph alone, all longer paths are powers of one call. -/
theorem lone(hC:∀ g∈C,Rise g.Edges∧g.Edges.length≤16)(hq:QInv C L.length L){y z:ft}(hy:y∈L){d:Nat}(h0:0<d)(hd:d<y.path.length)(hu:∀ x∈L,x.path.length=d→x=z):y.path.length≤176:=by
 have lay:∀ {w:List Int} {g:Sb},Geo C w g→w.length=d→g=z.graph:=by
  intro w g h e
  obtain⟨x,hx,e1,e2⟩:=reach hq h.1
  have h1:=hq.vl x hx
  rw[e1] at h1
  have h2:=h.2 _ h1
  rw[← hu x hx (by omega),e1]
 have gy:=geo_path hq hy
 obtain⟨p,gp⟩:=gy.head hC (d:=d+1) (by omega) (by omega)
 obtain⟨a,t,et⟩:∃ a t,y.path.take (d+1)=a::t:=by
  cases e:y.path.take (d+1) with
  | nil=>have:=congrArg List.length e; simp only[List.length_take,List.length_drop,aI,List.length_replicate,bj] at this; omega
  | cons a t=>exact⟨a,t,rfl⟩
 have htl:t.length=d:=by have:=congrArg List.length et; simp only[List.length_take,a9] at this; omega
 rw[et] at gp
 have gp':Geo C ([a]++t) p:=gp
 obtain⟨A,b,k1,k2,k3,k4⟩:=gp'.split hC (by simp) (by intro e; rw[e] at htl; simp at htl; omega)
 have k5:=lay k2 htl
 subst k5
 subst k4
 obtain⟨j,rfl,hj,rfl⟩:=Wd.single k1.1
 have F1:∀ u,Geo C u z.graph→u.length=d→Geo C ((j:Int)::u) (cmpG (C.getD j default) z.graph):=fun u h e=>
  gp.of (Wd.append hC (.one j hj) h.1 k3) (by simp[e,htl])
 have F2:∀ i,i≤d→∃ r,Geo C (List.replicate i (j:Int)++r) z.graph∧r.length=d-i:=by
  intro i
  induction i with
  | zero=>exact fun _=>⟨t,k2,by omega⟩
  | succ i ih=>
   intro hi
   obtain⟨r,h1,h2⟩:=ih (by omega)
   have h3:=F1 _ h1 (by simp[h2]; omega)
   have hr:r≠[]:=by intro e; rw[e] at h2; simp at h2; omega
   have e:(j:Int)::(List.replicate i (j:Int)++r)=(List.replicate (i+1) (j:Int)++r.dropLast)++[r.getLast hr]:=by
    rw[aP,List.dropLast_concat_getLast,List.replicate_succ]; rfl
   rw[e] at h3
   obtain⟨q,_,h4,_⟩:=h3.split hC (by simp[List.replicate_succ]) (by simp)
   have:=lay h4 (by simp[h2]; omega)
   subst this
   exact⟨r.dropLast,h4,by simp[h2]; omega⟩
 obtain⟨r,h1,h2⟩:=F2 d (aZ _)
 have hr:r=[]:=List.eq_nil_of_length_eq_zero (by omega)
 rw[hr,bw] at h1
 have B:∀ (m:Nat) (v:List Int) (g:Sb),Geo C v g→v.length=d+m→Wd C (List.replicate (d+m) (j:Int)) g:=by
  intro m
  induction m with
  | zero=>
   intro v g h e
   rw[lay h e]; exact h1.1
  | succ m ih=>
   intro v g h e
   have h':=h
   rw[← List.take_append_drop d v] at h'
   obtain⟨x,b,q1,q2,q3,q4⟩:=h'.split hC (fun e'=>by have:=congrArg List.length e'; simp only[List.length_take,List.length_drop,aI,List.length_replicate,bj] at this; omega) (fun e'=>by have:=congrArg List.length e'; simp only[List.length_take,List.length_drop,aI,List.length_replicate,bj] at this; omega)
   have:=lay q1 (by simp; omega)
   subst this
   subst q4
   have w1:=h1.1.append hC q2.1 q3
   have g1:=h.of w1 (by simp; omega)
   have e2:List.replicate d (j:Int)++v.drop d=[(j:Int)]++(List.replicate (d-1) (j:Int)++v.drop d):=by
    obtain⟨d',rfl⟩:∃ d',d=d'+1:=⟨d-1,by omega⟩
    rw[List.replicate_succ]; rfl
   rw[e2] at g1
   obtain⟨x,b',p1,p2,p3,p4⟩:=g1.split hC (by simp) (fun e'=>by have:=congrArg List.length e'; simp only[List.length_take,List.length_drop,aI,List.length_replicate,bj] at this; omega)
   have p5:=ih _ _ p2 (by simp; omega)
   have:=p1.1.append hC p5 p3
   rw[p4,show d+(m+1)=(d+m)+1 by omega,List.replicate_succ]
   exact this
 have hw:=B (y.path.length-d) y.path y.graph gy (by omega)
 rw[show d+(y.path.length-d)=(y.path.length-1)+1 by omega] at hw
 obtain⟨_,e1,e2⟩:=wd_rep hC _ hw
 refine Classical.byContradiction fun hc=>?_
 have hs:=e2 (by omega)
 have hr:=(hC _ (getD_mem' hj)).1
 have e3:=pw_up hr (n:=y.path.length-13) (by omega)
 rw[show y.path.length-13+12=y.path.length-1 by omega] at e3
 have w:=rep_wd hC hj hs (y.path.length-13)
 rw[← e3,← e1] at w
 have:=gy.2 _ w
 simp at this; omega
theorem filter_split{α:Type}(f:α→Nat)(M:Nat):∀ l:List α,(l.filter (fun x=>decide (f x<M+1))).length=(l.filter (fun x=>decide (f x<M))).length+(l.filter (fun x=>decide (f x=M))).length
 | []=>rfl
 | x::l=>by
  have ih:=filter_split f M l
  simp only[List.filter_cons]
  by_cases h1:f x<M
  ·rw[if_pos (by simp; omega),if_pos (by simpa using h1),if_neg (by simp; omega)]
   simp only[a9]; omega
  ·by_cases h2:f x=M
   ·rw[if_pos (by simp; omega),if_neg (by simp; omega),if_pos (by simpa using h2)]
    simp only[a9]; omega
   ·rw[if_neg (by simp; omega),if_neg (by simp; omega),if_neg (by simpa using h2)]
    exact ih
theorem two_mem{α:Type}:∀ {l:List α} {a b:α},a∈l→b∈l→a≠b→2≤l.length
 | [],a,b,h,_,_=>by simp at h
 | [x],a,b,ha,hb,e=>by
  simp at ha hb; exact absurd (ha.trans hb.symm) e
 | x::y::l,_,_,_,_,_=>by simp
theorem path_200(hC:∀ g∈C,Rise g.Edges∧g.Edges.length≤16)(hq:QInv C L.length L)(hl:L.length≤400){y:ft}(hy:y∈L):y.path.length≤200:=by
 refine Classical.byContradiction fun hc=>?_
 have gy:=geo_path hq hy
 have E:∀ d,0<d→d≤y.path.length→∃ z∈L,z.path.length=d:=by
  intro d h0 hd
  obtain⟨a,ha⟩:=gy.head hC h0 hd
  obtain⟨z,hz,e1,e2⟩:=reach hq ha.1
  have h1:=hq.vl z hz
  rw[e1] at h1
  have h2:=ha.2 _ h1
  simp only[List.length_take] at e2 h2
  exact⟨z,hz,by omega⟩
 have T:∀ M,M+1≤y.path.length→2*M≤(L.filter (fun x=>decide (x.path.length<M+1))).length:=by
  intro M
  induction M with
  | zero=>intro _; omega
  | succ M ih=>
   intro hM
   have h1:=ih (by omega)
   rw[filter_split]
   obtain⟨z,hz,ez⟩:=E (M+1) (by omega) (by omega)
   have h2:2≤(L.filter (fun x=>decide (x.path.length=M+1))).length:=by
    by_cases hu:∀ x∈L,x.path.length=M+1→x=z
    ·have:=lone hC hq hy (d:=M+1) (by omega) (by omega) hu
     omega
    ·simp only[Classical.not_forall] at hu
     obtain⟨x,hx,ex,ne⟩:=hu
     exact two_mem (a:=x) (b:=z) (List.mem_filter.2 ⟨hx,by simpa using ex⟩) (List.mem_filter.2 ⟨hz,by simpa using ez⟩) ne
   omega
 have h1:=T (y.path.length-1) (by omega)
 rw[show y.path.length-1+1=y.path.length by omega] at h1
 have h2:=filter_split (fun x:ft=>x.path.length) y.path.length L
 have h3:1≤(L.filter (fun x=>decide (x.path.length=y.path.length))).length:=
  List.length_pos_of_mem (List.mem_filter.2 ⟨hy,by simp⟩)
 have h4:=List.length_filter_le (fun x:ft=>decide (x.path.length<y.path.length+1)) L
 omega
end
end
section
def pathC(p:Ct)(xs:List Int)(i:Nat):Bool:=inR (xs.getD i default) 0 ((p.Calls.length:Int)-1)&&(decide (i=0)||decide ((p.Calls.getD (xs.getD (i-1) default).toNat default).Target=(p.Calls.getD (xs.getD i default).toNat default).Source))
theorem idx_int{α:Type}[Inhabited α]{l:List α}{e:Int}(h0:0≤e)(h1:e<l.length):idx l e=some (l.getD e.toNat default):=by
 obtain⟨n,rfl⟩:∃ n:Nat,e=n:=⟨e.toNat,by omega⟩
 rw[idx_getD (by omega),Int.toNat_natCast]
theorem pathC_in{p:Ct}{xs:List Int}{i:Nat}(h:pathC p xs i=true):0≤xs.getD i default∧xs.getD i default<p.Calls.length:=by
 unfold pathC at h
 rw[aB,inR_iff] at h
 omega
def pathP(p:Ct)(xs:List Int):Bool:=(List.range xs.length).all (pathC p xs)&&decide (xs.length≤200)
theorem isPath_ok(p:Ct)(xs:List Int)(hp:p.Calls.length≤1000)(hx:xs.length≤1048576):impl_isPath p xs=some (pathP p xs):=by
 unfold impl_isPath pathP
 have w:IntKind.i64.wrap ((p.Calls.length:Int)-(1:Int))=(p.Calls.length:Int)-1:=by rw[wrap64]<;>omega
 rw[w,show decide ((xs.length:Int)≤200)=decide (xs.length≤200) from decide_eq_decide.2 (by omega)]
 rw[forN_all (pathC p xs) (r0:=false) (fun j hj hk=>?_)]
 ·cases (List.range xs.length).all (pathC p xs)<;>rfl
 rw[idx_getD hj,ah,within_eq,ah]
 unfold pathC
 cases hin:inR (xs.getD j default) 0 ((p.Calls.length:Int)-1)
 ·rfl
 ·have hin':=inR_iff.1 hin
  by_cases h0:j=0
  ·subst h0; rfl
  ·have hpr:=pathC_in (hk (j-1) (by omega))
   rw[cond_true,decide_eq_true (show(0:Int)<(j:Int) by omega),cond_true,idx_pred hj (by omega) (by omega),ah,idx_int hpr.1 hpr.2,ah,idx_int hin'.1 (by omega),ah,decide_eq_false h0,Bool.false_or,Bool.true_and]
   cases decide ((p.Calls.getD (xs.getD (j-1) default).toNat default).Target=(p.Calls.getD (xs.getD j default).toNat default).Source)<;>rfl
theorem l24Path_ok(p:Ct)(xs:List Int)(hp:p.Calls.length≤1000)(hx:xs.length≤1048576):spec_l24Path p xs=some (pathP p xs):=by
 unfold spec_l24Path pathP
 have w:IntKind.i64.wrap ((p.Calls.length:Int)-(1:Int))=(p.Calls.length:Int)-1:=by rw[wrap64]<;>omega
 rw[w,show decide ((xs.length:Int)≤200)=decide (xs.length≤200) from decide_eq_decide.2 (by omega)]
 rw[forN_all (fun j=>decide (j≤200)&&pathC p xs j) (r0:=false) (fun j hj hk=>?_)]
 ·by_cases h:xs.length≤200
  ·rw[decide_eq_true h,show(List.range xs.length).all (fun j=>decide (j≤200)&&pathC p xs j)=(List.range xs.length).all (pathC p xs) from by
    rw[Bool.eq_iff_iff,bf,bf]
    refine forall_congr' fun j=>imp_congr_right fun hj=>?_
    rw[List.mem_range] at hj
    rw[decide_eq_true (show j≤200 by omega),Bool.true_and]]
   cases (List.range xs.length).all (pathC p xs)<;>rfl
  ·rw[decide_eq_false h,Bool.and_false]
   cases (List.range xs.length).all (fun j=>decide (j≤200)&&pathC p xs j)<;>rfl
 by_cases h2:j≤200
 ·rw[decide_eq_true h2,decide_eq_true (show(j:Int)≤200 by omega),cond_true,Bool.true_and,idx_getD hj,ah,l1In_eq,ah]
  unfold pathC
  cases hin:inR (xs.getD j default) 0 ((p.Calls.length:Int)-1)
  ·rfl
  ·have hin':=inR_iff.1 hin
   by_cases h0:j=0
   ·subst h0; rfl
   ·have hk':=hk (j-1) (by omega)
    rw[aB] at hk'
    have hpr:=pathC_in hk'.2
    rw[cond_true,decide_eq_true (show(0:Int)<(j:Int) by omega),cond_true,idx_pred hj (by omega) (by omega),ah,idx_int hpr.1 hpr.2,ah,ah,idx_int hin'.1 (by omega),ah,decide_eq_false h0,Bool.false_or,Bool.true_and]
    cases decide ((p.Calls.getD (xs.getD (j-1) default).toNat default).Target=(p.Calls.getD (xs.getD j default).toNat default).Source)<;>rfl
 ·rw[decide_eq_false h2,decide_eq_false (show ¬ (j:Int)≤200 by omega),cond_false,decide_eq_false (show ¬ xs.length≤200 by omega)]; rfl
theorem forN_shift{ρ σ:Type}(f:Nat→σ→Option (Flow ρ σ)):∀ (n i:Nat) (s:σ),forN f n (i+1) s=forN (fun i=>f (i+1)) n i s
 | 0,_,_=>rfl
 | n+1,i,s=>by
  simp only[forN]
  cases f (i+1) s with
  | none=>rfl
  | some v=>cases v<;>simp only[ah]<;>first | rfl | exact forN_shift f n (i+1) _
theorem fold_both{ρ:Type}(calls:List Sb)(hc:∀ g∈calls,Rise g.Edges):∀ (l:List Int) (i j:Nat) (S T:Int) (E:List Sa),Rise E→E.length≤1048576→(∀ v∈l,0≤v∧v<calls.length)→
 ∃ s:Int×Int×List Sa,s.2.2.length≤1048576∧
  forL (ρ:=ρ) (fun _ v (s5:Int×Int×(List Sa))=>ae (idx calls v) fun v44=>ae (spec_l24Compose (Sb.mk s5.1 s5.2.1 s5.2.2) v44) fun v46=>some (.nx (v46.Source,v46.Target,v46.Edges))) l i (S,T,E)=some (.inr s)∧
  forL (ρ:=ρ) (fun _ v (s5:Int×Int×(List Sa))=>ae (idx calls v) fun v44=>ae (impl_compose (Sb.mk s5.1 s5.2.1 s5.2.2) v44) fun v46=>some (.nx (v46.Source,v46.Target,v46.Edges))) l j (S,T,E)=some (.inr s)
 | [],i,j,S,T,E,_,hl,_=>⟨(S,T,E),hl,rfl,rfl⟩
 | v::l,i,j,S,T,E,hE,hl,h=>by
  obtain⟨h0,h1⟩:=h v (by simp)
  obtain⟨s,q1,q2,q3,q4⟩:=compose_rise ⟨S,T,E⟩ (calls.getD v.toNat default) hE (hc _ (getD_mem (by omega)))
  rw[forL_nx (s':=(S,(calls.getD v.toNat default).Target,s)) (by rw[idx_int h0 h1,ah,q3]; rfl),forL_nx (s':=(S,(calls.getD v.toNat default).Target,s)) (by rw[idx_int h0 h1,ah,q4]; rfl)]
  exact fold_both calls hc l (i+1) (j+1) _ _ s q2 (by omega) (fun b hb=>h b (by simp[hb]))
theorem app_nil{α:Type}(l:List α)(h:l.length≤1048576):app [] l=some l:=by
 unfold app
 rw[if_pos (by simp only[bj]; omega)]; rfl
theorem valid_calls{p:Ct}(h:validP p=true):p.Calls.length≤12∧∀ g∈p.Calls,validG g=true:=by
 unfold validP at h
 simp only[aB,decide_eq_true_iff,bf] at h
 refine⟨h.1.1.2,fun g hg=>?_⟩
 have:=h.2 g hg
 unfold callOk at this
 simp only[aB] at this
 first | exact this.1 | exact this.1.1 | exact this.1.1.1 | exact this.1.1.1.1
end
section
/-! repetitions -/
def repL(l:List Int):Nat→List Int
 | 0=>[]
 | k+1=>repL l k++l
theorem repL_len(l:List Int):∀ k,(repL l k).length=k*l.length
 | 0=>by simp[repL]
 | k+1=>by rw[repL,aI,repL_len l k,Nat.succ_mul]
theorem repL_get(l:List Int):∀ (k j:Nat),j<k*l.length→(repL l k)[j]?=l[j % l.length]?
 | 0,j,h=>by simp at h
 | k+1,j,h=>by
  rw[repL]
  by_cases hj:j<k*l.length
  ·rw[List.getElem?_append_left (by rw[repL_len]; exact hj),repL_get l k j hj]
  ·rw[Nat.succ_mul] at h
   rw[List.getElem?_append_right (by rw[repL_len]; omega),repL_len]
   have e:j=l.length*k+(j-k*l.length):=by rw[Nat.mul_comm l.length k]; omega
   have:j % l.length=j-k*l.length:=by
    conv=>lhs; rw[e,Nat.mul_add_mod]
    exact Nat.mod_eq_of_lt (by omega)
   rw[this]
theorem spec_rep(l:List Int)(hl:l.length≤200):∀ (n i:Nat),i+n≤200→forN (ρ:=List Int×Bool) (fun (_:Nat) (s5:List Int)=>ae (app s5 l) fun v46=>some (.nx v46)) n i (repL l i)=some (.inr (repL l (i+n)))
 | 0,i,h=>rfl
 | n+1,i,h=>by
  have hb:i*l.length≤200*200:=Nat.mul_le_mul (by omega) hl
  rw[forN_nx (s':=repL l (i+1)) (by
   unfold app
   rw[repL_len,if_pos (by omega)]; rfl),spec_rep l hl n (i+1) (by omega),show i+1+n=i+(n+1) from by omega]
theorem fdiv0{a:Nat}(h:a<4294967296):shr .u64 (a:Int) 32=some 0:=by
 unfold shr
 rw[if_pos (by omega),show min (32:Int).toNat IntKind.u64.bits=32 from rfl,Int.fdiv_eq_ediv_of_nonneg _ (by decide)]
 congr 1
 omega
theorem and32{a:Nat}(h:a<4294967296):bitand .u64 (a:Int) 4294967295=(a:Int):=by
 show IntKind.u64.wrap (((BitVec.ofInt 64 (a:Int)&&& BitVec.ofInt 64 ((4294967295:Nat):Int)).toNat:Nat):Int)=_
 rw[BitVec.ofInt_natCast,BitVec.ofInt_natCast,BitVec.toNat_and,BitVec.toNat_ofNat,BitVec.toNat_ofNat,Nat.mod_eq_of_lt (by omega:a<2 ^ 64),show 4294967295 % 2 ^ 64=2 ^ 32-1 from rfl,Nat.and_two_pow_sub_one_eq_mod,Nat.mod_eq_of_lt (by omega),IntKind.wrap_u64]
 omega
theorem wu{a:Nat}(h:a<4294967296):IntKind.u64.wrap (a:Int)=(a:Int):=by rw[IntKind.wrap_u64]; omega
theorem mul_small{a b:Nat}(ha:a≤200)(hb:b≤200):bits_Mul (a:Int) (b:Int)=some (0,((a*b:Nat):Int)):=by
 have hab:a*b≤200*200:=Nat.mul_le_mul ha hb
 have e:((a:Int)*(b:Int))=((a*b:Nat):Int):=by simp
 have z:∀ x:Int,(0:Int)*x=0:=Int.zero_mul
 unfold bits_Mul bits_Mul64
 rw[fdiv0 (by omega),fdiv0 (by omega)]
 simp only[ah,and32 (show a<4294967296 by omega),and32 (show b<4294967296 by omega),e,wu (show a*b<4294967296 by omega),fdiv0 (show a*b<4294967296 by omega),z,Int.mul_zero,Int.zero_add,Int.add_zero,show IntKind.u64.wrap 0=0 from rfl,show shr .u64 0 32=some 0 from rfl,show bitand .u64 0 4294967295=0 from rfl]
/-- What is known of a row in the midst of its filling. -/
def Fill(l:List Int)(k:Nat)(xs:List Int)(m:Nat):Prop:=xs.length=k*l.length∧m≤k*l.length∧m % l.length=0∧∀ j,j<m→xs[j]?=l[j % l.length]?
theorem fill_end{l xs:List Int}{k:Nat}(h:Fill l k xs (k*l.length)):xs=repL l k:=by
 obtain⟨h1,_,_,h4⟩:=h
 apply List.ext_getElem?
 intro j
 by_cases hj:j<k*l.length
 ·rw[h4 j hj,repL_get l k j hj]
 ·rw[List.getElem?_eq_none (by omega),List.getElem?_eq_none (by rw[repL_len]; omega)]
theorem fill_step{l xs:List Int}{k m:Nat}(hl:0<l.length)(h:Fill l k xs m)(hm:0<m)(hlt:m<k*l.length):
 Fill l k (xs.take m++(xs.take m).take (k*l.length-m)++xs.drop (m+m)) (m+min m (k*l.length-m)):=by
 obtain⟨h1,h2,h3,h4⟩:=h
 have hlen:(xs.take m++(xs.take m).take (k*l.length-m)).length=m+min m (k*l.length-m):=by
  simp only[aI,List.length_take]; omega
 refine⟨?_,by omega,?_,fun j hj=>?_⟩
 ·rw[aI,hlen,List.length_drop]; omega
 ·rcases Nat.le_total m (k*l.length-m) with g | g
  ·rw[Nat.min_eq_left g,Nat.add_mod,h3]; simp
  ·rw[Nat.min_eq_right g,show m+(k*l.length-m)=k*l.length by omega,Nat.mul_mod_left]
 ·rw[List.getElem?_append_left (by rw[hlen]; exact hj)]
  by_cases hjm:j<m
  ·rw[List.getElem?_append_left (by rw[List.length_take]; omega),List.getElem?_take_of_lt hjm,h4 j hjm]
  ·have hlt':(xs.take m).length=m:=by rw[List.length_take]; omega
   rw[List.getElem?_append_right (by omega),hlt',List.getElem?_take_of_lt (by omega),List.getElem?_take_of_lt (by omega),h4 (j-m) (by omega)]
   congr 1
   have:j=(j-m)+m:=by omega
   conv=>rhs; rw[this,Nat.add_mod,h3,Nat.add_zero,Nat.mod_mod]
theorem fill_loop{l:List Int}{k:Nat}(hl:0<l.length)(hb:k*l.length≤40000):∀ (d m:Nat) (xs:List Int),k*l.length-m≤d→0<m→Fill l k xs m→
 Ev (fun z=>whileN (ρ:=List Int) (fun (s8:(List Int)×Int)=>
  bif decide (s8.2<(s8.1.length:Int)) then
   ae (rngN s8.1.length s8.2 (s8.1.length:Int)) fun v41=>
   ae (rngN s8.1.length (0:Int) s8.2) fun v44=>
   ae (cpSelf s8.1 s8.2 s8.2) fun v45=>
   some (.nx (v45.2,IntKind.i64.wrap (s8.2+v45.1)))
  else
   some (.br s8)) z (xs,(m:Int))) (.inr (repL l k,((k*l.length:Nat):Int))):=by
 intro d
 induction d with
 | zero=>
  intro m xs hd hm h
  have e:m=k*l.length:=by have:=h.2.1; omega
  subst e
  rw[← fill_end h]
  refine ev_br ?_
  rw[h.1,decide_eq_false (by omega)]; rfl
 | succ d ih=>
  intro m xs hd hm h
  by_cases hlt:m<k*l.length
  ·have hs:=fill_step hl h hm hlt
   have:=ih _ _ (by omega) (by omega) hs
   refine ev_nx ?_ this
   have r1:rngN xs.length (m:Int) (xs.length:Int)=some ():=by unfold rngN; rw[h.1,if_pos (by omega)]
   have r2:rngN xs.length 0 (m:Int)=some ():=by unfold rngN; rw[h.1,if_pos (by omega)]
   have r3:cpSelf xs (m:Int) (m:Int)=some (((min m (k*l.length-m):Nat):Int),xs.take m++(xs.take m).take (k*l.length-m)++xs.drop (m+m)):=by
    unfold cpSelf
    rw[h.1,if_pos (by omega),Int.toNat_natCast]
    congr 2
    omega
   show(bif decide ((m:Int)<(xs.length:Int)) then _ else _)=_
   rw[decide_eq_true (by rw[h.1]; omega),cond_true]
   show ae (rngN xs.length (m:Int) (xs.length:Int)) _=_
   rw[r1,ah]
   show ae (rngN xs.length 0 (m:Int)) _=_
   rw[r2,ah]
   show ae (cpSelf xs (m:Int) (m:Int)) _=_
   rw[r3,ah]
   show some (Flow.nx (_,IntKind.i64.wrap ((m:Int)+((min m (k*l.length-m):Nat):Int))))=_
   rw[wrap64 (by omega) (by omega)]; rfl
  ·exact ih m xs (by omega) hm h
theorem Repeat_eq{l:List Int}{k:Nat}(hl:0<l.length)(hl2:l.length≤200)(hk:k≤200):slices_Repeat_Sint_int l (k:Int)=some (repL l k):=by
 have hab:k*l.length≤200*200:=Nat.mul_le_mul hk hl2
 have hcomm:l.length*k=k*l.length:=Nat.mul_comm _ _
 unfold slices_Repeat_Sint_int
 rw[decide_eq_false (by omega),cond_false,wu (by omega),wu (by omega),mul_small hl2 hk,ah]
 simp only
 rw[decide_eq_false (by omega),cond_false,decide_eq_false (by omega),cond_false,wrap64 (by omega) (by omega),show mkn ((l.length*k:Nat):Int)=some (k*l.length) from by unfold mkn; rw[if_pos (by omega),hcomm]; rfl,ah]
 by_cases hk0:k=0
 ·subst hk0
  have:Ev (fun z=>whileN (ρ:=List Int) (fun (s8:(List Int)×Int)=>
   bif decide (s8.2<(s8.1.length:Int)) then
    ae (rngN s8.1.length s8.2 (s8.1.length:Int)) fun v41=>
    ae (rngN s8.1.length (0:Int) s8.2) fun v44=>
    ae (cpSelf s8.1 s8.2 s8.2) fun v45=>
    some (.nx (v45.2,IntKind.i64.wrap (s8.2+v45.1)))
   else
    some (.br s8)) z (l.take (List.replicate (0*l.length) (0:Int)).length++(List.replicate (0*l.length) (0:Int)).drop l.length,min (l.length:Int) ((List.replicate (0*l.length) (0:Int)).length:Int))) (.inr ([],0)):=by
   simp only[Nat.zero_mul,List.replicate_zero,bj,List.take_zero,List.drop_nil,bw]
   have e:min (l.length:Int) ((0:Nat):Int)=0:=by omega
   rw[e]
   exact ev_br rfl
  exact(congrArg (fun z=>thenL z (fun s8:List Int×Int=>some s8.1)) (lim_eq this)).trans rfl
 ·have hkl:l.length≤k*l.length:=Nat.le_mul_of_pos_left _ (by omega)
  have hlen:(List.replicate (k*l.length) (0:Int)).length=k*l.length:=List.length_replicate
  have hF:Fill l k (l.take (List.replicate (k*l.length) (0:Int)).length++(List.replicate (k*l.length) (0:Int)).drop l.length) l.length:=by
   rw[hlen,List.take_of_length_le hkl]
   refine⟨by rw[aI,List.length_drop,hlen]; omega,hkl,Nat.mod_self _,fun j hj=>?_⟩
   rw[List.getElem?_append_left hj,Nat.mod_eq_of_lt hj]
  have hmin:min (l.length:Int) ((List.replicate (k*l.length) (0:Int)).length:Int)=(l.length:Int):=by rw[hlen]; omega
  have:=fill_loop hl (by omega) (k*l.length) l.length _ (by omega) hl hF
  rw[hmin]
  exact(congrArg (fun z=>thenL z (fun s8:List Int×Int=>some s8.1)) (lim_eq this)).trans rfl
theorem rep_both(p:Ct)(xs:List Int)(t:Int)(hp:p.Ok)(hx:xs.length≤1048576):∃ (g:List Int) (c:Bool),spec_RepeatPath p xs t=some (g,c)∧impl_RepeatPath p xs t=some (g,c)∧g.length≤1048576:=by
 unfold spec_RepeatPath impl_RepeatPath
 rw[specP p hp,implP p hp,ah,ah]
 cases hv:validP p
 ·exact⟨_,_,rfl,rfl,Nat.zero_le _⟩
 ·obtain⟨hc,hg⟩:=valid_calls hv
  rw[cond_true,cond_true,l24Path_ok p xs (by omega) hx,isPath_ok p xs (by omega) hx,ah,ah]
  cases hpp:pathP p xs
  ·exact⟨_,_,rfl,rfl,Nat.zero_le _⟩
  ·rw[cond_true,cond_true]
   have hl2:xs.length≤200:=by
    unfold pathP at hpp
    rw[aB,decide_eq_true_iff] at hpp
    exact hpp.2
   by_cases ht:t<0
   ·rw[decide_eq_true ht]; exact⟨_,_,rfl,rfl,Nat.zero_le _⟩
   ·rw[decide_eq_false ht,cond_false,cond_false]
    by_cases h0:xs.length=0
    ·rw[decide_eq_false (by omega:¬ (0:Int)<(xs.length:Int)),decide_eq_true (by omega:(xs.length:Int)=0),cond_false,cond_true,l24Path_ok p [] (by omega) (by simp),ah]
     have e:pathP p []=true:=by unfold pathP; simp
     rw[e,cond_true]
     have hl:(lim fun n5=>whileN (ρ:=List Int×Bool) (fun (s5:Unit)=>bif decide ((0:Int)<t) then some (.br s5) else some (.br s5)) n5 ())=some (.inr ()):=by
      refine lim_eq (ev_br ?_)
      cases decide ((0:Int)<t)<;>rfl
     refine⟨[],true,?_,rfl,Nat.zero_le _⟩
     exact(congrArg (fun z=>thenL z (fun _:Unit=>some (([]:List Int),true))) hl).trans rfl
    ·rw[decide_eq_true (by omega:(0:Int)<(xs.length:Int)),decide_eq_false (by omega:¬ (xs.length:Int)=0),cond_true,cond_false]
     by_cases h200:200<t
     ·rw[decide_eq_true h200]; exact⟨_,_,rfl,rfl,Nat.zero_le _⟩
     ·rw[decide_eq_false h200,cond_false,cond_false]
      obtain⟨k,rfl⟩:∃ k:Nat,t=(k:Int):=⟨t.toNat,by omega⟩
      have hk:k≤200:=by omega
      have hab:k*xs.length≤200*200:=Nat.mul_le_mul hk hl2
      have hlen:=repL_len xs k
      have hs:=spec_rep xs hl2 k 0 (by omega)
      rw[bnd_nat (by unfold Big; omega),ah,show([]:List Int)=repL xs 0 from rfl,hs,thenL_inr,Nat.zero_add,l24Path_ok p _ (by omega) (by omega),Repeat_eq (by omega) hl2 hk,ah,ah,isPath_ok p _ (by omega) (by omega),ah]
      cases pathP p (repL xs k)
      ·exact⟨_,_,rfl,rfl,Nat.zero_le _⟩
      ·exact⟨_,_,rfl,rfl,by omega⟩
end
section
/-! Traces of a path. -/
def Tr(C:List Sb):List Int→Nat→Nat→Nat→Prop
 | [],i,j,s=>i=j∧s=0
 | k::w,i,j,s=>∃ m,m<4∧0<tb (C.getD k.toNat default) i m∧∃ s',Tr C w m j s'∧s=s'+(tb (C.getD k.toNat default) i m-1)
section
variable{C:List Sb}
theorem Tr.append:∀ {u v:List Int} {i k j s t:Nat},Tr C u i k s→Tr C v k j t→Tr C (u++v) i j (s+t)
 | [],v,i,k,j,s,t,⟨h1,h2⟩,h=>by subst h1; subst h2; rw[Nat.zero_add]; exact h
 | x::u,v,i,k,j,s,t,⟨m,hm,h1,s',h2,h3⟩,h=>⟨m,hm,h1,s'+t,h2.append h,by omega⟩
theorem Tr.split:∀ {u v:List Int} {i j s:Nat},i<4→Tr C (u++v) i j s→∃ k s1 s2,k<4∧Tr C u i k s1∧Tr C v k j s2∧s=s1+s2
 | [],v,i,j,s,hi,h=>⟨i,0,s,hi,⟨rfl,rfl⟩,h,by omega⟩
 | x::u,v,i,j,s,hi,⟨m,hm,h1,s',h2,h3⟩=>by
  obtain⟨k,s1,s2,q1,q2,q3,q4⟩:=Tr.split hm h2
  exact⟨k,s1+(tb (C.getD x.toNat default) i m-1),s2,q1,⟨m,hm,h1,s1,q2,rfl⟩,q3,by omega⟩
theorem Tr.len:∀ {w:List Int} {i j s:Nat},Tr C w i j s→s≤w.length
 | [],i,j,s,⟨_,h⟩=>by omega
 | x::w,i,j,s,⟨m,hm,h1,s',h2,h3⟩=>by
  have:=h2.len
  have:=tb_le (C.getD x.toNat default) i m
  simp only[a9]; omega
theorem Tr.one{k:Nat}{i j s:Nat}:Tr C [(k:Int)] i j s↔j<4∧0<tb (C.getD k default) i j∧s=tb (C.getD k default) i j-1:=by
 constructor
 ·rintro ⟨m,hm,h1,s',⟨rfl,rfl⟩,h3⟩
  exact⟨hm,by simpa using h1,by simpa using h3⟩
 ·rintro ⟨h1,h2,h3⟩
  exact⟨j,h1,by simpa using h2,0,⟨rfl,rfl⟩,by simpa using h3⟩
theorem tr_val(hC:∀ g∈C,Rise g.Edges∧g.Edges.length≤16){w:List Int}{g:Sb}(h:Wd C w g):∀ {i j s:Nat},i<4→Tr C w i j s→j<4∧1≤tb g i j∧(1≤s→2≤tb g i j):=by
 induction h with
 | one k hk=>
  intro i j s hi h
  obtain⟨h1,h2,h3⟩:=Tr.one.1 h
  exact⟨h1,h2,fun h=>by omega⟩
 | snoc k hk h hs ih=>
  intro i j s hi ht
  obtain⟨m,s1,s2,hm,h1,h2,h3⟩:=ht.split hi
  obtain⟨hj,h4,h5⟩:=Tr.one.1 h2
  obtain⟨_,h6,h7⟩:=ih hi h1
  have rg:=h.rise hC
  have rk:=(hC _ (getD_mem' hk)).1
  refine⟨hj,(tb_cmp rg rk hi hj (by omega)).2 ⟨m,hm,h6,h4,by omega⟩,fun hp=>(tb_cmp rg rk hi hj (by omega)).2 ⟨m,hm,h6,h4,?_⟩⟩
  by_cases e:1≤s1
  ·have:=h7 e; omega
  ·omega
theorem tr_of(hC:∀ g∈C,Rise g.Edges∧g.Edges.length≤16){w:List Int}{g:Sb}(h:Wd C w g):∀ {i j:Nat},i<4→j<4→(1≤tb g i j→∃ s,Tr C w i j s)∧(2≤tb g i j→∃ s,1≤s∧Tr C w i j s):=by
 induction h with
 | one k hk=>
  intro i j hi hj
  exact⟨fun h=>⟨_,Tr.one.2 ⟨hj,h,rfl⟩⟩,fun h=>⟨_,by omega,Tr.one.2 ⟨hj,by omega,rfl⟩⟩⟩
 | snoc k hk h hs ih=>
  intro i j hi hj
  have rg:=h.rise hC
  have rk:=(hC _ (getD_mem' hk)).1
  constructor
  ·intro hv
   obtain⟨m,hm,h1,h2,_⟩:=(tb_cmp rg rk hi hj (by omega)).1 hv
   obtain⟨s,hs⟩:=(ih hi hm).1 h1
   exact⟨_,hs.append (Tr.one.2 ⟨hj,h2,rfl⟩)⟩
  ·intro hv
   obtain⟨m,hm,h1,h2,h3⟩:=(tb_cmp rg rk hi hj (by omega)).1 hv
   by_cases e:2≤tb (C.getD k default) m j
   ·obtain⟨s,hs⟩:=(ih hi hm).1 h1
    exact⟨_,by omega,hs.append (Tr.one.2 ⟨hj,h2,rfl⟩)⟩
   ·obtain⟨s,h4,hs⟩:=(ih hi hm).2 (by omega)
    exact⟨_,by omega,hs.append (Tr.one.2 ⟨hj,h2,rfl⟩)⟩
/-! Repetitions. -/
theorem repL_front(l:List Int):∀ k,repL l (k+1)=l++repL l k
 | 0=>by simp[repL]
 | k+1=>by
  show repL l (k+1)++l=l++(repL l k++l)
  rw[repL_front l k,aP]
theorem rep_val(hC:∀ g∈C,Rise g.Edges∧g.Edges.length≤16){w:List Int}{g:Sb}(h:Wd C w g)(hs:g.Source=g.Target):∀ k,Wd C (repL w (k+1)) (pw g k)
 | 0=>by rw[show repL w (0+1)=w by simp[repL]]; exact h
 | k+1=>(rep_val hC h hs k).append hC h (hs.trans (pw_ok (h.rise hC) k).2.2.symm)
theorem tr_wk(hC:∀ g∈C,Rise g.Edges∧g.Edges.length≤16){w:List Int}{g:Sb}(h:Wd C w g):∀ (n i j:Nat),i<4→Wk (tb g) n i j→∃ s,Tr C (repL w n) i j s
 | 0,i,j,_,e=>⟨0,e,rfl⟩
 | n+1,i,j,hi,⟨k,hk,h1,h2⟩=>by
  obtain⟨s,q1⟩:=(tr_of hC h hi hk).1 h1
  obtain⟨t,q2⟩:=tr_wk hC h n k j hk h2
  rw[repL_front]
  exact⟨_,q1.append q2⟩
theorem four_places:∀ U:List Nat,U.Nodup→(∀ u∈U,u<4)→U.length≤4
 | [],_,_=>by simp
 | [_],_,_=>by simp
 | [_,_],_,_=>by simp
 | [_,_,_],_,_=>by simp
 | [_,_,_,_],_,_=>by simp
 | a::b::c::d::e::U,h,hu=>by
  have:=pig5 (hu a (by simp)) (hu b (by simp)) (hu c (by simp)) (hu d (by simp)) (hu e (by simp))
  simp only[List.nodup_cons,bk,not_or] at h
  omega
/-- The progress of a repeated path without descent is bounded. -/
theorem tr_bound(hC:∀ g∈C,Rise g.Edges∧g.Edges.length≤16){w:List Int}{g:Sb}(h:Wd C w g)(hi:cmpG g g=g)(hd:∀ q,q<4→¬ 2≤tb g q q):
 ∀ (t q j s:Nat) (U:List Nat),q<4→U.Nodup→(∀ u∈U,u<4∧2≤tb g u q)→Tr C (repL w t) q j s→s+w.length*U.length≤w.length*4
 | 0,q,j,s,U,hq,hn,hU,⟨_,h0⟩=>by
  have:=four_places U hn (fun u hu=>(hU u hu).1)
  have:=Nat.mul_le_mul_left w.length this
  omega
 | t+1,q,j,s,U,hq,hn,hU,ht=>by
  rw[repL_front] at ht
  obtain⟨k,s1,s2,hk,h1,h2,h3⟩:=ht.split hq
  obtain⟨_,v1,v2⟩:=tr_val hC h hq h1
  have rg:=h.rise hC
  have hU':∀ u∈U,u<4∧2≤tb g u k:=fun u hu=>by
   obtain⟨hu4,hu2⟩:=hU u hu
   refine⟨hu4,?_⟩
   rw[← hi]
   exact(tb_cmp rg rg hu4 hk (by omega)).2 ⟨q,hq,by omega,v1,by omega⟩
  by_cases e:s1=0
  ·have:=tr_bound hC h hi hd t k j s2 U hk hn hU' h2
   omega
  ·have hqU:q∉U:=fun hm=>hd q hq (hU q hm).2
   have:=tr_bound hC h hi hd t k j s2 (q::U) hk (List.nodup_cons.2 ⟨hqU,hn⟩) (fun u hu=>by
    rcases List.mem_cons.1 hu with rfl | hu
    ·exact⟨hq,v2 (by omega)⟩
    ·exact hU' u hu) h2
   have hl:=h1.len
   rw[a9,Nat.mul_succ] at this
   omega
/-- Where the trace condition holds, a closed path that is repeated makes progress. -/
theorem tr_progress(hC:∀ g∈C,Rise g.Edges∧g.Edges.length≤16){w:List Int}{g:Sb}(h:Wd C w g)(hp:∃ q,q<4∧2≤tb (pw g 167) q q){t:Nat}(h0:1≤t)(h1:t≤200):∃ i j s,i<4∧Tr C (repL w t) i j s∧1≤s:=by
 obtain⟨q,hq,h2⟩:=hp
 have rg:=h.rise hC
 obtain⟨m1,m2,k,l,e,hk,hl,w1,w2,w3⟩:=(pw_sw rg 167 q q hq hq).1 h2
 have c1:Wk (tb g) 168 l l:=by
  have:=(w3.append w1).append (Wk.one hl (by omega))
  rwa [show m2+m1+1=168 by omega] at this
 have c2:=c1.append c1
 rw[show 168+168=(t-1)+(337-t) by omega] at c2
 obtain⟨z,hz,c3,_⟩:=c2.split hl
 obtain⟨s1,hs1,q1⟩:=(tr_of hC h hk hl).2 (by omega)
 obtain⟨s2,q2⟩:=tr_wk hC h (t-1) l z hl c3
 refine⟨k,z,s1+s2,hk,?_,by omega⟩
 rw[show t=(t-1)+1 by omega,repL_front]
 exact q1.append q2
end
end
section
/-! The greatest progress of a path. -/
abbrev Q4:=Int×Int×Int×Int
def L4(t:Q4):List Int:=[t.1,t.2.1,t.2.2.1,t.2.2.2]
def BQ(m:Int)(t:Q4):Prop:=(-1≤t.1∧t.1≤m)∧(-1≤t.2.1∧t.2.1≤m)∧(-1≤t.2.2.1∧t.2.2.1≤m)∧(-1≤t.2.2.2∧t.2.2.2≤m)
def iB(s:Q4)(e:Sa)(t:Q4):Option (Flow (Flow (Int×Bool) Q4) Q4):=
 bif decide (e.From=(0:Int)) then
  bif decide ((0:Int)≤s.1) then
   bif decide (e.To=(0:Int)) then
    ae (impl_flag e.Strict) fun v57=>
    some (.nx (max t.1 (IntKind.i64.wrap (s.1+v57)),t.2.1,t.2.2.1,t.2.2.2))
   else
    bif decide (e.To=(1:Int)) then
     ae (impl_flag e.Strict) fun v57=>
     some (.nx (t.1,max t.2.1 (IntKind.i64.wrap (s.1+v57)),t.2.2.1,t.2.2.2))
    else
     bif decide (e.To=(2:Int)) then
      ae (impl_flag e.Strict) fun v57=>
      some (.nx (t.1,t.2.1,max t.2.2.1 (IntKind.i64.wrap (s.1+v57)),t.2.2.2))
     else
      bif decide (e.To=(3:Int)) then
       ae (impl_flag e.Strict) fun v57=>
       some (.nx (t.1,t.2.1,t.2.2.1,max t.2.2.2 (IntKind.i64.wrap (s.1+v57))))
      else
       none
  else
   some (.nx (t.1,t.2.1,t.2.2.1,t.2.2.2))
 else
  bif decide (e.From=(1:Int)) then
   bif decide ((0:Int)≤s.2.1) then
    bif decide (e.To=(0:Int)) then
     ae (impl_flag e.Strict) fun v57=>
     some (.nx (max t.1 (IntKind.i64.wrap (s.2.1+v57)),t.2.1,t.2.2.1,t.2.2.2))
    else
     bif decide (e.To=(1:Int)) then
      ae (impl_flag e.Strict) fun v57=>
      some (.nx (t.1,max t.2.1 (IntKind.i64.wrap (s.2.1+v57)),t.2.2.1,t.2.2.2))
     else
      bif decide (e.To=(2:Int)) then
       ae (impl_flag e.Strict) fun v57=>
       some (.nx (t.1,t.2.1,max t.2.2.1 (IntKind.i64.wrap (s.2.1+v57)),t.2.2.2))
      else
       bif decide (e.To=(3:Int)) then
        ae (impl_flag e.Strict) fun v57=>
        some (.nx (t.1,t.2.1,t.2.2.1,max t.2.2.2 (IntKind.i64.wrap (s.2.1+v57))))
       else
        none
   else
    some (.nx (t.1,t.2.1,t.2.2.1,t.2.2.2))
  else
   bif decide (e.From=(2:Int)) then
    bif decide ((0:Int)≤s.2.2.1) then
     bif decide (e.To=(0:Int)) then
      ae (impl_flag e.Strict) fun v57=>
      some (.nx (max t.1 (IntKind.i64.wrap (s.2.2.1+v57)),t.2.1,t.2.2.1,t.2.2.2))
     else
      bif decide (e.To=(1:Int)) then
       ae (impl_flag e.Strict) fun v57=>
       some (.nx (t.1,max t.2.1 (IntKind.i64.wrap (s.2.2.1+v57)),t.2.2.1,t.2.2.2))
      else
       bif decide (e.To=(2:Int)) then
        ae (impl_flag e.Strict) fun v57=>
        some (.nx (t.1,t.2.1,max t.2.2.1 (IntKind.i64.wrap (s.2.2.1+v57)),t.2.2.2))
       else
        bif decide (e.To=(3:Int)) then
         ae (impl_flag e.Strict) fun v57=>
         some (.nx (t.1,t.2.1,t.2.2.1,max t.2.2.2 (IntKind.i64.wrap (s.2.2.1+v57))))
        else
         none
    else
     some (.nx (t.1,t.2.1,t.2.2.1,t.2.2.2))
   else
    bif decide (e.From=(3:Int)) then
     bif decide ((0:Int)≤s.2.2.2) then
      bif decide (e.To=(0:Int)) then
       ae (impl_flag e.Strict) fun v57=>
       some (.nx (max t.1 (IntKind.i64.wrap (s.2.2.2+v57)),t.2.1,t.2.2.1,t.2.2.2))
      else
       bif decide (e.To=(1:Int)) then
        ae (impl_flag e.Strict) fun v57=>
        some (.nx (t.1,max t.2.1 (IntKind.i64.wrap (s.2.2.2+v57)),t.2.2.1,t.2.2.2))
       else
        bif decide (e.To=(2:Int)) then
         ae (impl_flag e.Strict) fun v57=>
         some (.nx (t.1,t.2.1,max t.2.2.1 (IntKind.i64.wrap (s.2.2.2+v57)),t.2.2.2))
        else
         bif decide (e.To=(3:Int)) then
          ae (impl_flag e.Strict) fun v57=>
          some (.nx (t.1,t.2.1,t.2.2.1,max t.2.2.2 (IntKind.i64.wrap (s.2.2.2+v57))))
         else
          none
     else
      some (.nx (t.1,t.2.1,t.2.2.1,t.2.2.2))
    else
     none
theorem flag_eq(b:Bool):impl_flag b=some (bif b then 1 else 0):=by cases b<;>rfl
def iS(calls:List Sb)(v:Int)(s:Q4):Option (Flow (Int×Bool) Q4):=
 ae (idx calls v) fun v32=>thenL (ρ:=Flow (Int×Bool) Q4) (σ:=Q4) (forL (fun _ e t=>iB s e t) v32.Edges 0 ((-1:Int),(-1:Int),(-1:Int),(-1:Int))) fun s9=>some (.nx (s9.1,s9.2.1,s9.2.2.1,s9.2.2.2))
theorem edge_ok{g:Sb}(h:validG g=true):∀ e∈g.Edges,edgeOk e=true:=fun e he=>by
 unfold validG at h
 simp only[aB,bf] at h
 obtain⟨i,hi,rfl⟩:=List.getElem_of_mem he
 have:=h.2 i (List.mem_range.2 hi)
 unfold edgeC at this
 rw[aB] at this
 have h1:=this.1
 rwa [List.getD_eq_getElem?_getD,List.getElem?_eq_getElem hi,Option.getD_some] at h1
theorem max4(u:Q4):slices_Max_Sint_int (L4 u)=some (max (max u.1 u.2.1) (max u.2.2.1 u.2.2.2)):=by
 unfold slices_Max_Sint_int
 rw[decide_eq_false (by show ¬ ((4:Nat):Int)<1; omega),cond_false,show(0:Int)=((0:Nat):Int) from rfl,idx_nat]
 show ae (some u.1) _=_
 rw[ah]
 have e:forN (ρ:=Int) (fun (i5:Nat) (s5:Int)=>ae (idx (L4 u) (i5:Int)) fun v21=>some (.nx (max s5 v21))) 3 1 u.1=some (.inr (max (max (max u.1 u.2.1) u.2.2.1) u.2.2.2)):=by
  rw[forN_nx (s':=max u.1 u.2.1) (by rw[idx_nat]; rfl),forN_nx (s':=max (max u.1 u.2.1) u.2.2.1) (by rw[idx_nat]; rfl),forN_nx (s':=max (max (max u.1 u.2.1) u.2.2.1) u.2.2.2) (by rw[idx_nat]; rfl),forN_zero]
 show thenL (forN _ 3 1 u.1) _=_
 rw[e,thenL_inr]
 congr 1; omega

def q(t:Q4):Nat→Int
 | 0=>t.1
 | 1=>t.2.1
 | 2=>t.2.2.1
 | _=>t.2.2.2
def fl(b:Bool):Int:=bif b then 1 else 0
theorem iB_q(s t:Q4)(e:Sa)(he:edgeOk e=true)(hs:∀ i,i<4→-1≤q s i∧q s i≤1000):∃ u,iB s e t=some (.nx u)∧∀ j,j<4→q u j=if (j:Int)=e.To∧0≤q s e.From.toNat then max (q t j) (q s e.From.toNat+fl e.Strict) else q t j:=by
 obtain⟨f,to,st⟩:=e
 simp only[edgeOk,aB,inR_iff] at he
 have hf:f=0∨f=1∨f=2∨f=3:=by omega
 have ht:to=0∨to=1∨to=2∨to=3:=by omega
 have w:∀ i,i<4→IntKind.i64.wrap (q s i+(bif st then(1:Int) else 0))=q s i+fl st:=fun i hi=>by
  have:=hs i hi
  unfold fl
  cases st
  ·rw[cond_false,wrap64 (by omega) (by omega)]
  ·rw[cond_true,wrap64 (by omega) (by omega)]
 have w0:IntKind.i64.wrap (s.1+(bif st then(1:Int) else 0))=s.1+fl st:=w 0 (by omega)
 have w1:IntKind.i64.wrap (s.2.1+(bif st then(1:Int) else 0))=s.2.1+fl st:=w 1 (by omega)
 have w2:IntKind.i64.wrap (s.2.2.1+(bif st then(1:Int) else 0))=s.2.2.1+fl st:=w 2 (by omega)
 have w3:IntKind.i64.wrap (s.2.2.2+(bif st then(1:Int) else 0))=s.2.2.2+fl st:=w 3 (by omega)
 rcases hf with rfl | rfl | rfl | rfl
 ·by_cases hs:0≤s.1
  ·rcases ht with rfl | rfl | rfl | rfl
   all_goals
    refine⟨_,by simp only[iB,flag_eq,decide_eq_true hs,w0,decide_true,show decide ((1:Int)=0)=false from rfl,show decide ((2:Int)=0)=false from rfl,show decide ((3:Int)=0)=false from rfl,show decide ((2:Int)=1)=false from rfl,show decide ((3:Int)=1)=false from rfl,show decide ((3:Int)=2)=false from rfl,cond_true,cond_false,ah]; rfl,fun j hj=>?_⟩
    have hj:j=0∨j=1∨j=2∨j=3:=by omega
    rcases hj with rfl | rfl | rfl | rfl<;>simp[q,hs]
  ·refine⟨t,by simp only[iB,decide_eq_false hs,decide_true,show decide ((1:Int)=0)=false from rfl,show decide ((2:Int)=0)=false from rfl,show decide ((3:Int)=0)=false from rfl,show decide ((2:Int)=1)=false from rfl,show decide ((3:Int)=1)=false from rfl,show decide ((3:Int)=2)=false from rfl,cond_true,cond_false],fun j hj=>?_⟩
   rw[if_neg (fun h=>hs h.2)]
 ·by_cases hs:0≤s.2.1
  ·rcases ht with rfl | rfl | rfl | rfl
   all_goals
    refine⟨_,by simp only[iB,flag_eq,decide_eq_true hs,w1,decide_true,show decide ((1:Int)=0)=false from rfl,show decide ((2:Int)=0)=false from rfl,show decide ((3:Int)=0)=false from rfl,show decide ((2:Int)=1)=false from rfl,show decide ((3:Int)=1)=false from rfl,show decide ((3:Int)=2)=false from rfl,cond_true,cond_false,ah]; rfl,fun j hj=>?_⟩
    have hj:j=0∨j=1∨j=2∨j=3:=by omega
    rcases hj with rfl | rfl | rfl | rfl<;>simp[q,hs]
  ·refine⟨t,by simp only[iB,decide_eq_false hs,decide_true,show decide ((1:Int)=0)=false from rfl,show decide ((2:Int)=0)=false from rfl,show decide ((3:Int)=0)=false from rfl,show decide ((2:Int)=1)=false from rfl,show decide ((3:Int)=1)=false from rfl,show decide ((3:Int)=2)=false from rfl,cond_true,cond_false],fun j hj=>?_⟩
   rw[if_neg (fun h=>hs h.2)]
 ·by_cases hs:0≤s.2.2.1
  ·rcases ht with rfl | rfl | rfl | rfl
   all_goals
    refine⟨_,by simp only[iB,flag_eq,decide_eq_true hs,w2,decide_true,show decide ((1:Int)=0)=false from rfl,show decide ((2:Int)=0)=false from rfl,show decide ((3:Int)=0)=false from rfl,show decide ((2:Int)=1)=false from rfl,show decide ((3:Int)=1)=false from rfl,show decide ((3:Int)=2)=false from rfl,cond_true,cond_false,ah]; rfl,fun j hj=>?_⟩
    have hj:j=0∨j=1∨j=2∨j=3:=by omega
    rcases hj with rfl | rfl | rfl | rfl<;>simp[q,hs]
  ·refine⟨t,by simp only[iB,decide_eq_false hs,decide_true,show decide ((1:Int)=0)=false from rfl,show decide ((2:Int)=0)=false from rfl,show decide ((3:Int)=0)=false from rfl,show decide ((2:Int)=1)=false from rfl,show decide ((3:Int)=1)=false from rfl,show decide ((3:Int)=2)=false from rfl,cond_true,cond_false],fun j hj=>?_⟩
   rw[if_neg (fun h=>hs h.2)]
 ·by_cases hs:0≤s.2.2.2
  ·rcases ht with rfl | rfl | rfl | rfl
   all_goals
    refine⟨_,by simp only[iB,flag_eq,decide_eq_true hs,w3,decide_true,show decide ((1:Int)=0)=false from rfl,show decide ((2:Int)=0)=false from rfl,show decide ((3:Int)=0)=false from rfl,show decide ((2:Int)=1)=false from rfl,show decide ((3:Int)=1)=false from rfl,show decide ((3:Int)=2)=false from rfl,cond_true,cond_false,ah]; rfl,fun j hj=>?_⟩
    have hj:j=0∨j=1∨j=2∨j=3:=by omega
    rcases hj with rfl | rfl | rfl | rfl<;>simp[q,hs]
  ·refine⟨t,by simp only[iB,decide_eq_false hs,decide_true,show decide ((1:Int)=0)=false from rfl,show decide ((2:Int)=0)=false from rfl,show decide ((3:Int)=0)=false from rfl,show decide ((2:Int)=1)=false from rfl,show decide ((3:Int)=1)=false from rfl,show decide ((3:Int)=2)=false from rfl,cond_true,cond_false],fun j hj=>?_⟩
   rw[if_neg (fun h=>hs h.2)]

/-- One call's edges. -/
theorem edges_q(s:Q4)(hs:∀ i,i<4→-1≤q s i∧q s i≤1000):∀ (l:List Sa) (i:Nat) (t:Q4),(∀ e∈l,edgeOk e=true)→
 ∃ u,forL (fun _ e t=>iB s e t) l i t=some (.inr u)∧(∀ j,j<4→q u j=q t j∨∃ e∈l,(j:Int)=e.To∧0≤q s e.From.toNat∧q u j=q s e.From.toNat+fl e.Strict)∧
  (∀ j,j<4→q t j≤q u j)∧∀ e∈l,0≤q s e.From.toNat→q s e.From.toNat+fl e.Strict≤q u e.To.toNat
 | [],i,t,_=>⟨t,rfl,fun j _=>.inl rfl,fun j _=>Int.le_refl _,fun e h=>by simp at h⟩
 | e::l,i,t,h=>by
  obtain⟨v,h1,h2⟩:=iB_q s t e (h e (by simp)) hs
  obtain⟨u,g1,g2,g3,g4⟩:=edges_q s hs l (i+1) v (fun x hx=>h x (by simp[hx]))
  have hc:=code_ok (h e (by simp))
  refine⟨u,by rw[forL_nx h1,g1],fun j hj=>?_,fun j hj=>?_,fun x hx h0=>?_⟩
  ·rcases g2 j hj with e1 | ⟨x,hx,e1⟩
   ·rw[e1,h2 j hj]
    by_cases c:(j:Int)=e.To∧0≤q s e.From.toNat
    ·rw[if_pos c]
     by_cases m:q s e.From.toNat+fl e.Strict≤q t j
     ·exact .inl (by omega)
     ·exact .inr ⟨e,by simp,c.1,c.2,by omega⟩
    ·rw[if_neg c]; exact .inl rfl
   ·exact .inr ⟨x,by simp[hx],e1⟩
  ·have:=g3 j hj
   rw[h2 j hj] at this
   split at this<;>omega
  ·rcases List.mem_cons.1 hx with rfl | hx
   ·have:=g3 x.To.toNat (by omega)
    rw[h2 _ (by omega),if_pos ⟨by omega,h0⟩] at this
    omega
   ·exact g4 x hx h0
theorem tb_edge{g:Sb}(hr:Rise g.Edges){e:Sa}(he:e∈g.Edges):0<tb g e.From.toNat e.To.toNat∧fl e.Strict=((tb g e.From.toNat e.To.toNat-1:Nat):Int):=by
 have:=tab_mem hr.2 he (hr.1 e he)
 unfold tb
 rw[this]
 cases e.Strict<;>exact⟨by decide,rfl⟩
/-- One call. -/
theorem call_q{g:Sb}(hr:Rise g.Edges)(s:Q4)(hs:∀ i,i<4→-1≤q s i∧q s i≤1000):∃ u,forL (fun _ e t=>iB s e t) g.Edges 0 ((-1:Int),(-1:Int),(-1:Int),(-1:Int))=some (.inr u)∧
 (∀ j,j<4→-1≤q u j)∧(∀ j,j<4→0≤q u j→∃ i,i<4∧0≤q s i∧0<tb g i j∧q u j=q s i+((tb g i j-1:Nat):Int))∧
 ∀ i j,i<4→j<4→0≤q s i→0<tb g i j→q s i+((tb g i j-1:Nat):Int)≤q u j:=by
 have q0:∀ j,q ((-1:Int),(-1:Int),(-1:Int),(-1:Int)) j=-1:=fun j=>by unfold q; split<;>rfl
 obtain⟨u,h1,h2,h3,h4⟩:=edges_q s hs g.Edges 0 (-1,-1,-1,-1) hr.1
 refine⟨u,h1,fun j hj=>by have:=h3 j hj; rw[q0] at this; exact this,fun j hj h0=>?_,fun i j hi hj h0 ht=>?_⟩
 ·rcases h2 j hj with e | ⟨e,he,e1,e2,e3⟩
  ·rw[q0] at e; omega
  ·have hc:=code_ok (hr.1 e he)
   obtain⟨k1,k2⟩:=tb_edge hr he
   have ej:e.To.toNat=j:=by omega
   rw[ej] at k1 k2
   exact⟨e.From.toNat,by omega,e2,k1,by rw[e3,k2]⟩
 ·obtain⟨e,he,e1,e2,e3⟩:=tab_some (E:=g.Edges) (i:=i) (k:=j) ht
  have:=h4 e he (by rw[e1]; simpa using h0)
  obtain⟨k1,k2⟩:=tb_edge hr he
  rw[e1,e2,Int.toNat_natCast,Int.toNat_natCast] at this k2
  rw[k2] at this; exact this
theorem path_q(calls:List Sb)(hc:∀ g∈calls,Rise g.Edges):∀ (l:List Int) (i:Nat) (s:Q4) (m:Int),(∀ i,i<4→-1≤q s i∧q s i≤m)→0≤m→m+l.length≤1000→(∀ v∈l,0≤v∧v<calls.length)→
 ∃ u,forL (fun _ v s=>iS calls v s) l i s=some (.inr u)∧
  (∀ j,j<4→0≤q u j→∃ i t,i<4∧0≤q s i∧Tr calls l i j t∧q u j=q s i+(t:Int))∧
  ∀ i j t,i<4→j<4→0≤q s i→Tr calls l i j t→q s i+(t:Int)≤q u j
 | [],i,s,m,_,_,_,_=>⟨s,rfl,fun j hj h=>⟨j,0,hj,h,⟨rfl,rfl⟩,by omega⟩,fun i j t _ _ _ ⟨h1,h2⟩=>by subst h1; subst h2; omega⟩
 | v::l,i,s,m,hs,h0,hm,h=>by
  rw[a9] at hm
  obtain⟨h1,h2⟩:=h v (by simp)
  have hi:=idx_int h1 h2
  have hg:calls.getD v.toNat default∈calls:=getD_mem (by omega)
  obtain⟨u,k1,k2,k3,k4⟩:=call_q (hc _ hg) s (fun i hi=>by have:=hs i hi; omega)
  have hu:∀ j,j<4→-1≤q u j∧q u j≤m+1:=fun j hj=>by
   refine⟨k2 j hj,?_⟩
   by_cases c:0≤q u j
   ·obtain⟨i',hi',_,_,e⟩:=k3 j hj c
    have:=hs i' hi'
    have:=tb_le (calls.getD v.toNat default) i' j
    omega
   ·omega
  obtain⟨w,g1,g2,g3⟩:=path_q calls hc l (i+1) u (m+1) hu (by omega) (by omega) (fun x hx=>h x (by simp[hx]))
  refine⟨w,?_,fun j hj hw=>?_,fun a j t ha hj h0 ht=>?_⟩
  ·rw[forL_nx (s':=u) (by unfold iS; rw[hi,ah,k1]; rfl),g1]
  ·obtain⟨b,t,hb,hb0,ht,e⟩:=g2 j hj hw
   obtain⟨a,ha,ha0,hab,e2⟩:=k3 b hb hb0
   exact⟨a,t+(tb (calls.getD v.toNat default) a b-1),ha,ha0,⟨b,hb,hab,t,ht,rfl⟩,by rw[e,e2]; omega⟩
  ·obtain⟨b,hb,hab,t',ht',e⟩:=ht
   have l1:=k4 a b ha hb h0 hab
   have l2:=g3 b j t' hb hj (by omega) ht'
   omega
theorem most_more(p:Ct)(xs:List Int)(hp:p.Ok)(hv:validP p=true)(hpp:pathP p xs=true):∃ M,impl_MostProgress p xs=some (M,true)∧(0≤M→∃ i j t,i<4∧j<4∧Tr p.Calls xs i j t∧M=(t:Int))∧∀ i j t,i<4→j<4→Tr p.Calls xs i j t→(t:Int)≤M:=by
 unfold impl_MostProgress
 have hpp0:=hpp
 unfold pathP at hpp
 rw[aB,bf,decide_eq_true_iff] at hpp
 obtain⟨hc,hg⟩:=valid_calls hv
 rw[implP p hp,ah,hv,cond_true,isPath_ok p xs (by omega) (by omega),ah,hpp0,cond_true]
 have hin:∀ v∈xs,0≤v∧v<p.Calls.length:=fun v hv=>by
  obtain⟨i,hi,rfl⟩:=List.getElem_of_mem hv
  have:=pathC_in (hpp.1 i (List.mem_range.2 hi))
  rwa [List.getD_eq_getElem?_getD,List.getElem?_eq_getElem hi,Option.getD_some] at this
 have q0:∀ j,q ((0:Int),(0:Int),(0:Int),(0:Int)) j=0:=fun j=>by unfold q; split<;>rfl
 obtain⟨u,h1,h2,h3⟩:=path_q p.Calls (fun g hgm=>valid_rise (hg g hgm)) xs 0 (0,0,0,0) 0 (fun i _=>by rw[q0]; omega) (by omega) (by omega) hin
 have ei:forN (ρ:=Int×Bool) (fun (i5:Nat) (s5:Int×Int×Int×Int)=>
  ae (idx xs (i5:Int)) fun v26=>
  ae (idx p.Calls v26) fun v32=>
  thenL (ρ:=(Flow (Int×Bool) (Int×Int×Int×Int))) (σ:=Int×Int×Int×Int) (forN (fun (i9:Nat) (s9:Int×Int×Int×Int)=>
   ae (idx v32.Edges (i9:Int)) fun v38=>iB s5 v38 s9) v32.Edges.length 0 ((-1:Int),(-1:Int),(-1:Int),(-1:Int))) fun s9=>
  some (.nx (s9.1,s9.2.1,s9.2.2.1,s9.2.2.2))) xs.length 0 ((0:Int),(0:Int),(0:Int),(0:Int))=some (.inr u):=by
  rw[forN_idx xs (fun _ v26 (s5:Q4)=>ae (idx p.Calls v26) fun v32=>
  thenL (ρ:=(Flow (Int×Bool) (Int×Int×Int×Int))) (σ:=Int×Int×Int×Int) (forN (fun (i9:Nat) (s9:Int×Int×Int×Int)=>
   ae (idx v32.Edges (i9:Int)) fun v38=>iB s5 v38 s9) v32.Edges.length 0 ((-1:Int),(-1:Int),(-1:Int),(-1:Int))) fun s9=>
  some (.nx (s9.1,s9.2.1,s9.2.2.1,s9.2.2.2))) (0,0,0,0),← h1]
  refine forL_congr _ _ _ (fun j x s hx=>?_)
  unfold iS
  cases idx p.Calls x with
  | none=>rfl
  | some g=>rw[ah,ah,forN_idx g.Edges (fun _ e t=>iB s e t)]
 refine⟨max (max u.1 u.2.1) (max u.2.2.1 u.2.2.2),?_,fun hM=>?_,fun i j t hi hj ht=>?_⟩
 ·refine(congrArg (fun z=>thenL z _) ei).trans ?_
  rw[thenL_inr,show [u.1,u.2.1,u.2.2.1,u.2.2.2]=L4 u from rfl,max4]; rfl
 ·have pick:∀ j,j<4→0≤q u j→max (max u.1 u.2.1) (max u.2.2.1 u.2.2.2)=q u j→∃ i j t,i<4∧j<4∧Tr p.Calls xs i j t∧max (max u.1 u.2.1) (max u.2.2.1 u.2.2.2)=(t:Int):=fun j hj h0 e=>by
   obtain⟨i,t,hi,_,ht,e2⟩:=h2 j hj h0
   rw[q0] at e2
   exact⟨i,j,t,hi,hj,ht,by rw[e,e2]; omega⟩
  have hq:max (max u.1 u.2.1) (max u.2.2.1 u.2.2.2)=q u 0∨max (max u.1 u.2.1) (max u.2.2.1 u.2.2.2)=q u 1∨max (max u.1 u.2.1) (max u.2.2.1 u.2.2.2)=q u 2∨max (max u.1 u.2.1) (max u.2.2.1 u.2.2.2)=q u 3:=by
   simp only[q]; omega
  rcases hq with e | e | e | e
  ·exact pick 0 (by omega) (by omega) e
  ·exact pick 1 (by omega) (by omega) e
  ·exact pick 2 (by omega) (by omega) e
  ·exact pick 3 (by omega) (by omega) e
 ·have:=h3 i j t hi hj (by rw[q0]; omega) ht
  rw[q0] at this
  have hj:j=0∨j=1∨j=2∨j=3:=by omega
  rcases hj with rfl | rfl | rfl | rfl<;>simp only[q] at this<;>omega
end
section
/-! Draws of graphs. -/
/-- A graph that was drawn. -/
structure GDr(g:Sb):Prop where
 src:-1≤g.Source∧g.Source≤20
 tgt:0≤g.Target∧g.Target≤20
 len:g.Edges.length≤40
 edg:∀ e∈g.Edges,(0≤e.From∧e.From≤10)∧0≤e.To∧e.To≤10
theorem GDr.ok{g:Sb}(h:GDr g):g.Ok:=by
 have:=h.src; have:=h.tgt; have:=h.len
 refine⟨⟨by omega,by omega⟩,⟨by omega,by omega⟩,by unfold Big; omega,fun e he=>?_⟩
 have:=h.edg e he
 exact⟨⟨by omega,by omega⟩,⟨by omega,by omega⟩,trivial⟩
theorem bnd_int{x:Int}(h0:0≤x)(h1:x≤1000):bnd x=some x.toNat:=by
 unfold bnd; rw[if_pos (by omega)]
def EIn(a b:Int)(l:List Sa):Prop:=∀ e∈l,(0≤e.From∧e.From<a)∧0≤e.To∧e.To<b
theorem EIn.snoc{a b:Int}{l:List Sa}{e:Sa}(h:EIn a b l)(he:(0≤e.From∧e.From<a)∧0≤e.To∧e.To<b):EIn a b (l++[e]):=by
 intro x hx
 rcases List.mem_append.1 hx with hx | hx
 ·exact h x hx
 ·rw[List.mem_singleton] at hx; rw[hx]; exact he
theorem sizeGraph_ok{c:la}{n:Nat}(s t:Int){a b:Int}(h:CurOk c n)(hn:n+100≤1000000000)(ha0:0≤a)(ha:a≤4)(hb0:0≤b)(hb:b≤4):
 ∃ g c',spec_l1Cur__sizeGraph c s t a b=some (g,c')∧g.Source=s∧g.Target=t∧g.Edges.length≤16∧EIn a b g.Edges∧CurOk c' (n+96):=by
 unfold spec_l1Cur__sizeGraph
 rw[bnd_int ha0 (by omega),ah]
 obtain⟨s',e1,e2⟩:=forN_inv (ρ:=Sb×la) (f:=fun (i3:Nat) (s3:la×(List Sa))=>
  ae (bnd b) fun N6=>
  thenL (ρ:=(Flow (Sb×la) (la×(List Sa)))) (σ:=la×(List Sa)) (forN (fun (i6:Nat) (s6:la×(List Sa))=>
   ae (spec_l1Cur__one s6.1 (3:Int)) fun v28=>
   bif v28.1 then
    ae (spec_l1Cur__one v28.2 (2:Int)) fun v43=>
    ae (app s6.2 ([(Sa.mk (i3:Int) (i6:Int) v43.1)])) fun v46=>
    some (.nx (v43.2,v46))
   else
    bif decide ((i3:Int)=(i6:Int)) then
     ae (spec_l1Cur__one v28.2 (2:Int)) fun v35=>
     bif v35.1 then
      ae (spec_l1Cur__one v35.2 (2:Int)) fun v43=>
      ae (app s6.2 ([(Sa.mk (i3:Int) (i6:Int) v43.1)])) fun v46=>
      some (.nx (v43.2,v46))
     else
      some (.nx (v35.2,s6.2))
    else
     some (.nx (v28.2,s6.2))) N6 0 (s3.1,s3.2)) fun s6=>
  some (.nx (s6.1,s6.2))) (fun i s=>CurOk s.1 (n+24*i)∧s.2.length≤4*i∧EIn a b s.2) a.toNat 0 (c,[]) ⟨h,by simp,fun e he=>by simp at he⟩ (by
  intro i s3 _ hi hI
  have hi:i<4:=by omega
  rw[bnd_int hb0 (by omega),ah]
  obtain⟨s6,k1,k2⟩:=forN_inv (ρ:=Flow (Sb×la) (la×(List Sa))) (f:=fun (i6:Nat) (s6:la×(List Sa))=>
   ae (spec_l1Cur__one s6.1 (3:Int)) fun v28=>
   bif v28.1 then
    ae (spec_l1Cur__one v28.2 (2:Int)) fun v43=>
    ae (app s6.2 ([(Sa.mk (i:Int) (i6:Int) v43.1)])) fun v46=>
    some (.nx (v43.2,v46))
   else
    bif decide ((i:Int)=(i6:Int)) then
     ae (spec_l1Cur__one v28.2 (2:Int)) fun v35=>
     bif v35.1 then
      ae (spec_l1Cur__one v35.2 (2:Int)) fun v43=>
      ae (app s6.2 ([(Sa.mk (i:Int) (i6:Int) v43.1)])) fun v46=>
      some (.nx (v43.2,v46))
     else
      some (.nx (v35.2,s6.2))
    else
     some (.nx (v28.2,s6.2))) (fun j s=>CurOk s.1 (n+24*i+6*j)∧s.2.length≤4*i+j∧EIn a b s.2) b.toNat 0 (s3.1,s3.2) (by simpa using hI) (by
   intro j s6 _ hj hJ
   have hj:j<4:=by omega
   obtain⟨q1,q2,q3⟩:=hJ
   have hin:∀ x:Bool,(0≤(Sa.mk (i:Int) (j:Int) x).From∧(Sa.mk (i:Int) (j:Int) x).From<a)∧0≤(Sa.mk (i:Int) (j:Int) x).To∧(Sa.mk (i:Int) (j:Int) x).To<b:=fun x=>by simp only; omega
   obtain⟨b1,c1,o1,h1⟩:=one_ok 3 q1 (by omega)
   rw[o1,ah]
   cases b1 with
   | true=>
    obtain⟨b2,c2,o2,h2⟩:=one_ok 2 h1 (by omega)
    simp only[cond_true,o2,ah,app1 _ (show s6.2.length≤1000 by omega)]
    exact⟨_,rfl,h2.mono (by omega),by simp; omega,q3.snoc (hin _)⟩
   | false=>
    simp only[cond_false]
    by_cases e:(i:Int)=(j:Int)
    ·rw[decide_eq_true e,cond_true]
     obtain⟨b2,c2,o2,h2⟩:=one_ok 2 h1 (by omega)
     rw[o2,ah]
     cases b2 with
     | true=>
      obtain⟨b3,c3,o3,h3⟩:=one_ok 2 h2 (by omega)
      simp only[cond_true,o3,ah,app1 _ (show s6.2.length≤1000 by omega)]
      exact⟨_,rfl,h3.mono (by omega),by simp; omega,q3.snoc (hin _)⟩
     | false=>exact⟨_,rfl,h2.mono (by omega),by simp only; omega,q3⟩
    ·rw[decide_eq_false e,cond_false]
     exact⟨_,rfl,h1.mono (by omega),by simp only; omega,q3⟩)
  rw[k1,thenL_inr]
  obtain⟨r1,r2,r3⟩:=k2
  exact⟨_,rfl,r1.mono (by omega),by simp only; omega,r3⟩)
 rw[e1,thenL_inr]
 obtain⟨r1,r2,r3⟩:=e2
 exact⟨_,_,rfl,rfl,rfl,by simp only; omega,r3,r1.mono (by omega)⟩
theorem anySizeGraph_ok{c:la}{n:Nat}{s t:Int}(h:CurOk c n)(hn:n+200≤1000000000)(hs:-1≤s∧s≤20)(ht:0≤t∧t≤20):
 ∃ g c',spec_l1Cur__anySizeGraph c s t=some (g,c')∧GDr g∧g.Target=t∧CurOk c' (n+110):=by
 unfold spec_l1Cur__anySizeGraph
 obtain⟨p,c1,e1,p0,p1,h1⟩:=pick_ok 4 h (by omega)
 obtain⟨q,c2,e2,q0,q1,h2⟩:=pick_ok 4 h1 (by omega)
 have p1:=p1 (by omega); have q1:=q1 (by omega)
 simp only[e1,e2,ah,wrap_i64 (x:=1+p) (by omega) (by omega),wrap_i64 (x:=1+q) (by omega) (by omega)]
 obtain⟨g,c3,e3,g1,g2,g3,g4,h3⟩:=sizeGraph_ok s t (a:=1+p) (b:=1+q) h2 (by omega) (by omega) (by omega) (by omega) (by omega)
 obtain⟨u,c4,e4,u0,u1,h4⟩:=pick_ok 30 h3 (by omega)
 have hE:∀ e∈g.Edges,(0≤e.From∧e.From≤10)∧0≤e.To∧e.To≤10:=fun e he=>by have:=g4 e he; omega
 simp only[e3,e4,ah]
 by_cases k0:u=0
 ·rw[decide_eq_true k0,cond_true]
  obtain⟨v,c5,e5,hv,h5⟩:=among_ok [(-1:Int),6] (by simp) h4 (by omega)
  rw[e5,ah]
  simp only[bk,List.not_mem_nil,or_false] at hv
  exact⟨_,_,rfl,⟨by simp only; omega,by simp only[g2]; exact ht,by simp only; omega,hE⟩,g2,h5.mono (by omega)⟩
 rw[decide_eq_false k0,cond_false]
 have app2:∀ e:Sa,((0≤e.From∧e.From≤10)∧0≤e.To∧e.To≤10)→GDr ⟨g.Source,g.Target,g.Edges++[e]⟩:=fun e he=>by
  refine⟨by simp only[g1]; exact hs,by simp only[g2]; exact ht,by simp; omega,fun x hx=>?_⟩
  rcases List.mem_append.1 hx with hx | hx
  ·exact hE x hx
  ·rw[List.mem_singleton] at hx; rw[hx]; exact he
 by_cases k1:u=1
 ·rw[decide_eq_true k1,cond_true,app1 _ (by omega),ah]
  exact⟨_,_,rfl,app2 _ (by simp),g2,h4.mono (by omega)⟩
 rw[decide_eq_false k1,cond_false]
 by_cases k2:u=2
 ·rw[decide_eq_true k2,cond_true,app1 _ (by omega),ah]
  exact⟨_,_,rfl,app2 _ (by simp),g2,h4.mono (by omega)⟩
 rw[decide_eq_false k2,cond_false]
 exact⟨_,_,rfl,⟨by rw[g1]; exact hs,by rw[g2]; exact ht,by omega,hE⟩,g2,h4.mono (by omega)⟩
/-! Draws of proofs. -/
structure PDr(p:Ct):Prop where
 al:p.Arities.length≤20
 ar:∀ x∈p.Arities,-1≤x∧x≤10
 cl:p.Calls.length≤30
 cs:∀ g∈p.Calls,GDr g
theorem PDr.ok{p:Ct}(h:PDr p):p.Ok:=by
 have:=h.al; have:=h.cl
 refine⟨⟨by unfold Big; omega,fun x hx=>?_⟩,by unfold Big; omega,fun g hg=>(h.cs g hg).ok⟩
 have:=h.ar x hx
 exact⟨by omega,by omega⟩
theorem quo_small{x m:Int}(h0:0≤x)(h1:x≤1000)(hm:0<m):quo x m=some (x / m):=by
 unfold quo
 rw[if_neg (by omega),Int.tdiv_eq_ediv_of_nonneg h0,wrap_i64 (Int.ediv_nonneg h0 (by omega)) (by have:=Int.ediv_le_self m h0; omega)]
theorem slc_small{l:List Int}{hi:Int}(h0:0<hi)(h1:hi≤l.length):∃ r,slc l 0 hi=some r∧r≠[]∧∀ x∈r,x∈l:=by
 refine⟨_,by unfold slc; rw[if_pos ⟨by omega,by omega,h1⟩],?_,fun x hx=>?_⟩
 ·intro e
  have:=congrArg List.length e
  simp only[List.length_drop,List.length_take,bj] at this; omega
 ·simp only[Int.toNat_zero,List.drop_zero] at hx
  exact List.mem_of_mem_take hx
theorem cyclic_ok{c:la}{n:Nat}(h:CurOk c n)(hn:n+1000≤1000000000):∃ p c',spec_l1Cur__cyclic c=some (p,c')∧PDr p∧1≤p.Arities.length∧p.Arities.length≤6∧p.Calls.length≤4∧CurOk c' (n+900):=by
 unfold spec_l1Cur__cyclic
 obtain⟨v,c1,e1,hv,h1⟩:=among_ok [(1:Int),1,2,2,3,6] (by simp) h (by omega)
 simp only[bk,List.not_mem_nil,or_false] at hv
 have hv0:1≤v∧v≤6:=by omega
 rw[e1,ah,bnd_int (by simp only; omega) (by simp only; omega),ah]
 obtain⟨s4,k1,k2⟩:=forN_inv (ρ:=Ct×la) (f:=fun (i4:Nat) (s4:la×(List Int))=>
  ae (spec_l1Cur__pick s4.1 (7:Int)) fun v23=>
  ae (quo v23.1 (2:Int)) fun v24=>
  ae (slc ([(1:Int),(2:Int),(2:Int),(3:Int),(0:Int),(4:Int)]) (0:Int) (IntKind.i64.wrap ((3:Int)+v24))) fun v26=>
  ae (spec_l1Cur__among v23.2 v26) fun v27=>
  ae (app s4.2 ([v27.1])) fun v29=>
  some (.nx (v27.2,v29))) (fun i s=>CurOk s.1 (n+2+4*i)∧s.2.length=i∧∀ x∈s.2,0≤x∧x≤4) v.toNat 0 (c1,[]) ⟨h1,rfl,by simp⟩ (by
  intro i s _ hi hI
  obtain⟨q1,q2,q3⟩:=hI
  have hi:i<6:=by omega
  obtain⟨p,c2,e2,p0,p1,h2⟩:=pick_ok 7 q1 (by omega)
  have p1:=p1 (by omega)
  have hp2:0≤p / 2∧p / 2≤3:=by omega
  obtain⟨l,e3,l1,l2⟩:=slc_small (l:=[(1:Int),2,2,3,0,4]) (hi:=3+p / 2) (by omega) (by simp; omega)
  obtain⟨u,c3,e4,hu,h3⟩:=among_ok l l1 h2 (by omega)
  have hu2:=l2 u hu
  simp only[bk,List.not_mem_nil,or_false] at hu2
  simp only[e2,ah,quo_small p0 (show p≤1000 by omega) (show(0:Int)<2 by omega),wrap_i64 (x:=3+p / 2) (by omega) (by omega),e3,e4,app1 _ (show s.2.length≤1000 by omega)]
  refine⟨_,rfl,h3.mono (by omega),by simp[q2],fun x hx=>?_⟩
  rcases List.mem_append.1 hx with hx | hx
  ·exact q3 x hx
  ·rw[List.mem_singleton] at hx; omega)
 rw[k1,thenL_inr]
 obtain⟨q1,q2,q3⟩:=k2
 rw[Nat.zero_add] at q1 q2
 obtain⟨p,c2,e2,p0,p1,h2⟩:=pick_ok 9 q1 (by omega)
 have p1:=p1 (by omega)
 have hp2:0≤p / 4∧p / 4≤2:=by omega
 obtain⟨l,e3,l1,l2⟩:=slc_small (l:=[(1:Int),1,2,2,3,4,0]) (hi:=5+p / 4) (by omega) (by simp; omega)
 obtain⟨u,c3,e4,hu,h3⟩:=among_ok l l1 h2 (by omega)
 have hu2:=l2 u hu
 simp only[bk,List.not_mem_nil,or_false] at hu2
 simp only[e2,ah,quo_small p0 (show p≤1000 by omega) (show(0:Int)<4 by omega),wrap_i64 (x:=5+p / 4) (by omega) (by omega),e3,e4]
 have loop:∀ (k:Nat) (c:la) (G:List Sb) (m:Nat),CurOk c m→m+101*k≤999999800→k+G.length≤4→(∀ g∈G,GDr g)→∃ c' x G',(lim fun n8=>whileN (ρ:=Ct×la) (fun (s8:la×Int×(List Sb))=>
  bif decide ((0:Int)<s8.2.1) then
   ae (spec_l1Cur__pick s8.1 v) fun v45=>
   ae (spec_l1Cur__pick v45.2 v) fun v48=>
   ae (idx s4.2 v45.1) fun v57=>
   ae (idx s4.2 v45.1) fun v58=>
   ae (idx s4.2 v48.1) fun v62=>
   ae (idx s4.2 v48.1) fun v63=>
   ae (spec_l1Cur__sizeGraph v48.2 v45.1 v48.1 v58 v63) fun v64=>
   ae (app s8.2.2 ([v64.1])) fun v66=>
   some (.nx (v64.2,IntKind.i64.wrap (s8.2.1-(1:Int)),v66))
  else
   some (.br s8)) n8 (c,(k:Int),G))=some (.inr (c',x,G'))∧CurOk c' (m+101*k)∧G'.length≤4∧∀ g∈G',GDr g:=by
  intro k
  induction k with
  | zero=>
   intro c G m hc hm hk hG
   exact⟨c,((0:Nat):Int),G,wl_br (s':=(c,((0:Nat):Int),G)) (by simp),hc,by omega,hG⟩
  | succ k ih=>
   intro c G m hc hm hk hG
   obtain⟨i,c4,f1,i0,i1,g1⟩:=pick_ok v hc (by omega)
   obtain⟨j,c5,f2,j0,j1,g2⟩:=pick_ok v g1 (by omega)
   have i1:=i1 (by omega); have j1:=j1 (by omega)
   have hx:∀ i:Int,0≤i→i<v→∃ y,idx s4.2 i=some y∧0≤y∧y≤4:=by
    intro i h0 h1
    obtain⟨N,rfl⟩:=Int.eq_ofNat_of_zero_le h0
    have hN:N<s4.2.length:=by omega
    exact⟨_,idx_getD hN,q3 _ (getD_mem' hN)⟩
   obtain⟨y,y1,y2,y3⟩:=hx i i0 i1
   obtain⟨z,z1,z2,z3⟩:=hx j j0 j1
   obtain⟨g,c6,f3,r1,r2,r3,r4,g3⟩:=sizeGraph_ok i j g2 (by omega) y2 y3 z2 z3
   have hg:GDr g:=⟨by rw[r1]; omega,by rw[r2]; omega,by omega,fun e he=>by have:=r4 e he; omega⟩
   obtain⟨c',x,G',w1,w2,w3,w4⟩:=ih c6 (G++[g]) (m+100) (g3.mono (by omega)) (by omega) (by simp; omega) (fun x hx=>by
    rcases List.mem_append.1 hx with hx | hx
    ·exact hG x hx
    ·rw[List.mem_singleton] at hx; rw[hx]; exact hg)
   refine⟨c',x,G',?_,w2.mono (by omega),w3,w4⟩
   rw[← w1]
   refine wl_nx ?_
   simp only[decide_eq_true (show(0:Int)<((k+1:Nat):Int) by omega),cond_true,f1,f2,ah,y1,z1,f3,app1 _ (show G.length≤1000 by omega),wrap_i64 (x:=((k+1:Nat):Int)-1) (by omega) (by omega)]
   rw[show((k+1:Nat):Int)-1=(k:Int) by omega]
 obtain⟨N,hN⟩:∃ N:Nat,u=(N:Int):=⟨u.toNat,by omega⟩
 obtain⟨c',x,G',w1,w2,w3,w4⟩:=loop N c3 [] _ h3 (by omega) (by simp; omega) (by simp)
 rw[hN,w1,thenL_inr]
 refine⟨_,_,rfl,⟨by simp only; omega,fun x hx=>by have:=q3 x hx; omega,by simp only; omega,w4⟩,by simp only; omega,by simp only; omega,w3,w2.mono (by omega)⟩
end
section
theorem gdr0:GDr ⟨0,0,[]⟩:=⟨by simp,by simp,by simp,fun e he=>by simp at he⟩
theorem mem_snoc{α:Type}{P:α→Prop}{l:List α}{y:α}(h:∀ x∈l,P x)(hy:P y):∀ x∈l++[y],P x:=fun x hx=>by
 rcases List.mem_append.1 hx with hx | hx
 ·exact h x hx
 ·rw[List.mem_singleton] at hx; rw[hx]; exact hy
theorem anyCyclic_ok{c:la}{n:Nat}(h:CurOk c n)(hn:n+5000≤1000000000):∃ p c',spec_l1Cur__anyCyclic c=some (p,c')∧PDr p∧CurOk c' (n+2000):=by
 unfold spec_l1Cur__anyCyclic
 obtain⟨p,c1,e1,hp,a1,a6,p4,h1⟩:=cyclic_ok h (by omega)
 obtain⟨u,c2,e2,u0,u1,h2⟩:=pick_ok 30 h1 (by omega)
 have u1:=u1 (by omega)
 simp only[e1,e2,ah]
 by_cases k0:u=0
 ·rw[decide_eq_true k0,cond_true]
  obtain⟨v,c3,e3,hv,h3⟩:=among_ok [(-1:Int),5,4] (by simp) h2 (by omega)
  simp only[bk,List.not_mem_nil,or_false] at hv
  rw[e3,ah,app1 _ (by omega),ah]
  exact⟨_,_,rfl,⟨by simp; omega,mem_snoc hp.ar (by simp only; omega),hp.cl,hp.cs⟩,h3.mono (by omega)⟩
 rw[decide_eq_false k0,cond_false]
 by_cases k1:u=1
 ·rw[decide_eq_true k1,cond_true]
  unfold slc
  rw[if_pos ⟨by omega,by omega,by omega⟩,ah]
  exact⟨_,_,rfl,⟨by simp; omega,fun x hx=>hp.ar x (List.mem_of_mem_take (List.mem_of_mem_drop hx)),hp.cl,hp.cs⟩,h2.mono (by omega)⟩
 rw[decide_eq_false k1,cond_false]
 by_cases k2:u=2
 ·rw[decide_eq_true k2,cond_true]
  obtain⟨v,c3,e3,v0,v1,h3⟩:=pick_ok 3 h2 (by omega)
  have v1:=v1 (by omega)
  obtain⟨g,c4,e4,hg,_,h4⟩:=anySizeGraph_ok (s:=0) (t:=v) h3 (by omega) (by omega) (by omega)
  simp only[e3,e4,ah,app1 _ (show p.Calls.length≤1000 by omega)]
  exact⟨_,_,rfl,⟨hp.al,hp.ar,by simp; omega,mem_snoc hp.cs hg⟩,h4.mono (by omega)⟩
 rw[decide_eq_false k2,cond_false]
 by_cases k3:u=3
 ·rw[decide_eq_true k3,cond_true]
  have loop:∀ (k:Nat) (c:la) (G:List Sb) (m:Nat),CurOk c m→m+2*k≤999999000→G.length+k=14→(∀ g∈G,GDr g)→∃ c' G',(lim fun n10=>whileN (ρ:=Ct×la) (fun (s10:la×(List Sb))=>
   ae (spec_l1Cur__pick s10.1 (2:Int)) fun v42=>
   bif decide ((s10.2.length:Int)<(IntKind.i64.wrap ((12:Int)+v42.1))) then
    ae (app s10.2 ([(Sb.mk (0:Int) (0:Int) ([]))])) fun v49=>
    some (.nx (v42.2,v49))
   else
    some (.rt ((Ct.mk p.Arities s10.2),v42.2))) n10 (c,G))=some (.inl (Ct.mk p.Arities G',c'))∧CurOk c' (m+2*k+2)∧G'.length≤14∧∀ g∈G',GDr g:=by
   intro k
   induction k with
   | zero=>
    intro c G m hc hm hk hG
    obtain⟨v,c3,f1,v0,v1,g1⟩:=pick_ok 2 hc (by omega)
    have v1:=v1 (by omega)
    refine⟨c3,G,wl_rt ?_,g1.mono (by omega),by omega,hG⟩
    simp only[f1,ah,wrap_i64 (x:=12+v) (by omega) (by omega),decide_eq_false (show ¬ (G.length:Int)<12+v by omega),cond_false]
   | succ k ih=>
    intro c G m hc hm hk hG
    obtain⟨v,c3,f1,v0,v1,g1⟩:=pick_ok 2 hc (by omega)
    have v1:=v1 (by omega)
    by_cases e:(G.length:Int)<12+v
    ·obtain⟨c',G',w1,w2,w3,w4⟩:=ih c3 (G++[⟨0,0,[]⟩]) (m+2) g1 (by omega) (by simp; omega) (mem_snoc hG gdr0)
     refine⟨c',G',?_,w2.mono (by omega),w3,w4⟩
     rw[← w1]
     refine wl_nx ?_
     simp only[f1,ah,wrap_i64 (x:=12+v) (by omega) (by omega),decide_eq_true e,cond_true,app1 _ (show G.length≤1000 by omega)]
    ·refine⟨c3,G,wl_rt ?_,g1.mono (by omega),by omega,hG⟩
     simp only[f1,ah,wrap_i64 (x:=12+v) (by omega) (by omega),decide_eq_false e,cond_false]
  obtain⟨c',G',w1,w2,w3,w4⟩:=loop (14-p.Calls.length) c2 p.Calls _ h2 (by omega) (by omega) hp.cs
  rw[w1,thenL_inl]
  exact⟨_,_,rfl,⟨hp.al,hp.ar,by simp only; omega,w4⟩,w2.mono (by omega)⟩
 rw[decide_eq_false k3,cond_false]
 by_cases k4:u=4
 ·rw[decide_eq_true k4,cond_true]
  obtain⟨s',q1,q2⟩:=forN_inv (ρ:=Ct×la) (f:=fun (i15:Nat) (s15:la×(List Sb))=>
   ae (spec_l1Cur__sizeGraph s15.1 (0:Int) (0:Int) (4:Int) (4:Int)) fun v62=>
   ae (app s15.2 ([v62.1])) fun v64=>
   some (.nx (v62.2,v64))) (fun i s=>CurOk s.1 (n+902+96*i)∧s.2.length=i∧∀ g∈s.2,GDr g) 4 0 (c2,[]) ⟨h2,rfl,by simp⟩ (by
   intro i s _ hi hI
   obtain⟨r1,r2,r3⟩:=hI
   obtain⟨g,c6,f3,t1,t2,t3,t4,g3⟩:=sizeGraph_ok 0 0 (a:=4) (b:=4) r1 (by omega) (by omega) (by omega) (by omega) (by omega)
   simp only[f3,ah,app1 _ (show s.2.length≤1000 by omega)]
   exact⟨_,rfl,g3.mono (by omega),by simp[r2],mem_snoc r3 ⟨by rw[t1]; omega,by rw[t2]; omega,by omega,fun e he=>by have:=t4 e he; omega⟩⟩)
  rw[q1,thenL_inr]
  obtain⟨r1,r2,r3⟩:=q2
  exact⟨_,_,rfl,⟨by simp,by simp,by simp only; omega,r3⟩,r1.mono (by omega)⟩
 rw[decide_eq_false k4,cond_false]
 exact⟨_,_,rfl,hp,h2.mono (by omega)⟩
end
section
/-! The law of traces. -/
theorem thenL_eq{ρ σ:Type}{m:Option (ρ ⊕ σ)}{s:σ}{k:σ→Option ρ}(h:m=some (.inr s)):thenL m k=k s:=by rw[h]; rfl
def pickR{ρ:Type}(b:Nat→Bool)(v:Nat→ρ):Nat→Nat→ρ ⊕ Unit
 | 0,_=>.inr ()
 | n+1,i=>bif b i then .inl (v i) else pickR b v n (i+1)
theorem forN_pick{ρ:Type}{f:Nat→Unit→Option (Flow ρ Unit)}(b:Nat→Bool)(v:Nat→ρ):∀ (n i:Nat),(∀ j,i≤j→j<i+n→f j ()=some (bif b j then .rt (v j) else .nx ()))→forN f n i ()=some (pickR b v n i)
 | 0,_,_=>rfl
 | n+1,i,h=>by
  have h0:=h i (by omega) (by omega)
  unfold pickR
  cases hb:b i with
  | true=>rw[hb] at h0; simp only[forN,h0,cond_true,ah]
  | false=>
   rw[hb] at h0
   rw[cond_false,forN_nx (s':=()) h0]
   exact forN_pick b v n (i+1) (fun j h1 h2=>h j (by omega) (by omega))
theorem pickR_in{ρ:Type}(b:Nat→Bool)(v:Nat→ρ):∀ (n i:Nat),pickR b v n i=.inr ()∨∃ j,i≤j∧j<i+n∧pickR b v n i=.inl (v j)
 | 0,_=>.inl rfl
 | n+1,i=>by
  unfold pickR
  cases b i with
  | true=>exact .inr ⟨i,by omega,by omega,rfl⟩
  | false=>
   rcases pickR_in b v n (i+1) with h | ⟨j,h1,h2,h3⟩
   ·exact .inl h
   ·exact .inr ⟨j,by omega,by omega,h3⟩
noncomputable def idemB(g:Sb):Bool:=decide (g.Source=g.Target)&&sameB (cmpG g g) g
theorem idem_impl{g:Sb}(h:Rise g.Edges):impl_isIdempotent g=some (idemB g):=by
 unfold impl_isIdempotent idemB
 obtain⟨h1,_⟩:=cmpG_ok h h
 rw[h1,ah,implSame,ah]
 cases decide (g.Source=g.Target)<;>rfl
theorem idem_spec{g:Sb}(h:Rise g.Edges):spec_l24Idempotent g=some (idemB g):=by
 unfold spec_l24Idempotent idemB
 obtain⟨_,h1,_⟩:=cmpG_ok h h
 rw[h1,ah,specSame,ah]
 cases decide (g.Source=g.Target)<;>rfl
def descE(e:Sa):Bool:=decide (e.From=e.To)&&e.Strict
theorem desc_impl(l:List Sa):slices_ContainsFunc_Simpl_SizeEdge_impl_SizeEdge l (fun y0=>impl_TraceDefect_1 y0)=some (l.any descE):=by
 unfold slices_ContainsFunc_Simpl_SizeEdge_impl_SizeEdge slices_IndexFunc_Simpl_SizeEdge_impl_SizeEdge
 exact find_list (p:=descE) l (fun e _=>by unfold impl_TraceDefect_1 descE; cases decide (e.From=e.To)<;>rfl)
theorem desc_spec(g:Sb):spec_l24Descends g=some (g.Edges.any descE):=by
 unfold spec_l24Descends
 rw[forN_all (fun j=>!descE (g.Edges.getD j default)) (r0:=true) (fun j hj _=>by
  simp only[idx_getD hj,ah,descE]
  cases decide ((g.Edges.getD j default).From=(g.Edges.getD j default).To)<;>cases (g.Edges.getD j default).Strict<;>rfl)]
 have e:((List.range g.Edges.length).all fun j=>!descE (g.Edges.getD j default))=!g.Edges.any descE:=by
  rw[← range_any_list (p:=descE),← List.not_any_eq_all_not]
 rw[e]
 cases g.Edges.any descE<;>rfl
theorem pickR_nil{ρ:Type}(b:Nat→Bool)(v:Nat→ρ):∀ (n i:Nat),(pickR b v n i=.inr ()∧∀ j,i≤j→j<i+n→b j=false)∨∃ j,i≤j∧j<i+n∧pickR b v n i=.inl (v j)∧b j=true
 | 0,i=>.inl ⟨rfl,fun j h1 h2=>by omega⟩
 | n+1,i=>by
  unfold pickR
  cases hb:b i with
  | true=>exact .inr ⟨i,by omega,by omega,rfl,hb⟩
  | false=>
   rcases pickR_nil b v n (i+1) with⟨h1,h2⟩ | ⟨j,h1,h2,h3,h4⟩
   ·refine .inl ⟨h1,fun j g1 g2=>?_⟩
    by_cases e:j=i
    ·rw[e]; exact hb
    ·exact h2 j (by omega) (by omega)
   ·exact .inr ⟨j,by omega,by omega,h3,h4⟩
noncomputable def bad(y:ft):Bool:=idemB y.graph&&!y.graph.Edges.any descE
theorem td_more(p:Ct)(hp:p.Ok):∃ q ok,impl_TraceDefect p=some (q,ok)∧spec_TraceDefect p=some (q,ok)∧
 (ok=true→validP p=true∧∃ L,Good p.Calls L∧((q=[]∧∀ y∈L,bad y=false)∨∃ y∈L,q=y.path∧bad y=true)):=by
 unfold impl_TraceDefect spec_TraceDefect
 rw[implP p hp,specP p hp,ah,ah]
 cases hv:validP p with
 | false=>exact⟨_,_,rfl,rfl,nofun⟩
 | true=>
  simp only[cond_true]
  obtain⟨hn,hg⟩:=valid_callsG hv
  rcases closure_both p (by omega) (fun g h=>validR (hg g h)) with⟨L,hL,h1,h2⟩ | ⟨h1,l,q,h2⟩
  ·rw[h1,h2]
   simp only[ah,cond_true]
   have hm:∀ j,j<L.length→FOk 1000 (L.getD j default):=fun j hj=>hL.ok _ (getD_mem hj)
   rw[forN_pick (fun j=>bad (L.getD j default)) (fun j=>((L.getD j default).path,true)) L.length 0 (fun j _ hj=>by
    have hj:j<L.length:=by omega
    simp only[idx_getD hj,ah,idem_impl (hm j hj).1,desc_impl]
    unfold bad
    cases idemB (L.getD j default).graph<;>cases (L.getD j default).graph.Edges.any descE<;>rfl),
    (grs_len L).1,forN_pick (fun j=>bad (L.getD j default)) (fun j=>((L.getD j default).path,true)) L.length 0 (fun j _ hj=>by
     have hj:j<L.length:=by omega
     have e1:idx (grs L) (j:Int)=some (L.getD j default).graph:=by rw[idx_getD (by rw[(grs_len L).1]; exact hj),(grs_getD hj).1]
     have e2:idx (pts L) (j:Int)=some (L.getD j default).path:=by rw[idx_getD (by rw[(grs_len L).2]; exact hj),(grs_getD hj).2]
     simp only[e1,e2,ah,idem_spec (hm j hj).1,desc_spec]
     unfold bad
     cases idemB (L.getD j default).graph<;>cases (L.getD j default).graph.Edges.any descE<;>rfl)]
   rcases pickR_nil (fun j=>bad (L.getD j default)) (fun j=>((L.getD j default).path,true)) L.length 0 with⟨h,hb⟩ | ⟨j,_,h4,h,hb⟩
   ·rw[h]
    refine⟨_,_,rfl,rfl,fun _=>⟨by first | trivial | rfl,L,hL,.inl ⟨rfl,fun y hy=>?_⟩⟩⟩
    obtain⟨j,hj,e⟩:=List.mem_iff_getElem.1 hy
    have:=hb j (by omega) (by omega)
    rwa [getD_get hj,e] at this
   ·rw[h]
    exact⟨_,_,rfl,rfl,fun _=>⟨by first | trivial | rfl,L,hL,.inr ⟨_,getD_mem (by omega),rfl,hb⟩⟩⟩
  ·rw[h1,h2]
   simp only[ah,cond_false]
   exact⟨_,_,rfl,rfl,nofun⟩
/-! Paths and words. -/
theorem getD_app{w v:List Int}{i:Nat}(h:i<w.length):(w++v).getD i default=w.getD i default:=by
 simp[List.getD,List.getElem?_append_left h]
theorem getD_last{w:List Int}{x:Int}:(w++[x]).getD w.length default=x:=by simp[List.getD]
theorem wd_path{p:Ct}(hC:∀ g∈p.Calls,Rise g.Edges∧g.Edges.length≤16){w:List Int}{g:Sb}(h:Wd p.Calls w g):
 (∀ i,i<w.length→pathC p w i=true)∧(p.Calls.getD (w.getD (w.length-1) default).toNat default).Target=g.Target:=by
 induction h with
 | one j hj=>
  refine⟨fun i hi=>?_,rfl⟩
  have:i=0:=by simp at hi; exact hi
  subst this
  unfold pathC
  rw[aB,inR_iff]
  exact⟨by simp only[List.getD_cons_zero]; omega,rfl⟩
 | @snoc w0 g0 j hj h hs ih=>
  obtain⟨h1,h2⟩:=ih
  have hp:=h.pos
  have rg:=h.rise hC
  have rj:=(hC _ (getD_mem' hj)).1
  rw[cmp_tgt rg rj,aI,List.length_singleton,Nat.add_sub_cancel,getD_last,Int.toNat_natCast]
  refine⟨fun i hi=>?_,rfl⟩
  unfold pathC
  by_cases e:i=w0.length
  ·subst e
   rw[getD_last,getD_app (by omega),Int.toNat_natCast,h2,aB,inR_iff,hs]
   exact⟨by omega,by simp⟩
  ·have:=h1 i (by omega)
   unfold pathC at this
   rwa [getD_app (by omega),getD_app (by omega)]
theorem path_wd{p:Ct}(hC:∀ g∈p.Calls,Rise g.Edges∧g.Edges.length≤16):∀ (n:Nat) (xs:List Int),xs.length=n+1→(∀ i,i<xs.length→pathC p xs i=true)→∃ g,Wd p.Calls xs g
 | 0,xs,hl,h=>by
  obtain⟨x,rfl⟩:∃ x,xs=[x]:=by
   match xs,hl with
   | [x],_=>exact⟨x,rfl⟩
  have:=pathC_in (h 0 (by simp))
  simp only[List.getD_cons_zero] at this
  obtain⟨k,rfl⟩:∃ k:Nat,x=(k:Int):=⟨x.toNat,by omega⟩
  exact⟨_,.one k (by omega)⟩
 | n+1,xs,hl,h=>by
  have hne:xs≠[]:=by intro e; rw[e] at hl; simp at hl
  obtain⟨ys,x,rfl⟩:∃ ys x,xs=ys++[x]:=⟨xs.dropLast,xs.getLast hne,(List.dropLast_concat_getLast hne).symm⟩
  rw[aI,List.length_singleton] at hl
  obtain⟨g,hg⟩:=path_wd hC n ys (by omega) (fun i hi=>by
   have:=h i (by rw[aI]; omega)
   unfold pathC at this ⊢
   rwa [getD_app (by omega),getD_app (by omega)] at this)
  have hx:=h ys.length (by simp)
  have h2:=(wd_path hC hg).2
  have hr:=pathC_in hx
  unfold pathC at hx
  rw[getD_last,getD_app (by omega),h2,aB,Bool.or_eq_true,decide_eq_true_iff,decide_eq_true_iff] at hx
  rw[getD_last] at hr
  obtain⟨k,rfl⟩:∃ k:Nat,x=(k:Int):=⟨x.toNat,by omega⟩
  rw[Int.toNat_natCast] at hx
  exact⟨_,.snoc k (by omega) hg (hx.2.resolve_left (by omega)).symm⟩
theorem pathP_of{p:Ct}(hC:∀ g∈p.Calls,Rise g.Edges∧g.Edges.length≤16){w:List Int}{g:Sb}(h:Wd p.Calls w g)(hl:w.length≤200):pathP p w=true:=by
 unfold pathP
 rw[aB,bf,decide_eq_true_iff]
 exact⟨fun i hi=>(wd_path hC h).1 i (List.mem_range.1 hi),hl⟩
noncomputable def fG(calls:List Sb):Nat→Int→Int×Int×List Sa→Option (Flow (Sb×Bool) (Int×Int×List Sa)):=fun _ v s5=>ae (idx calls v) fun v44=>ae (impl_compose (Sb.mk s5.1 s5.2.1 s5.2.2) v44) fun v46=>some (.nx (v46.Source,v46.Target,v46.Edges))
theorem forL_snoc{α ρ σ:Type}{f:Nat→α→σ→Option (Flow ρ σ)}(hf:∀ i j x s,f i x s=f j x s){x:α}{s' s'':σ}:∀ (l:List α) (i:Nat) (s:σ),forL f l i s=some (.inr s')→(∀ y t,y∈l→∀ u,f 0 y t≠some (.br u))→f 0 x s'=some (.nx s'')→forL f (l++[x]) i s=some (.inr s'')
 | [],i,s,h,_,hx=>by
  simp only[forL] at h
  cases h
  rw[List.nil_append,forL_nx (s':=s'') ((hf i 0 x _).trans hx)]; rfl
 | y::l,i,s,h,hb,hx=>by
  simp only[forL,List.cons_append] at h ⊢
  cases e:f i y s with
  | none=>rw[e] at h; cases h
  | some v=>
   rw[e] at h
   cases v with
   | nx u=>exact forL_snoc hf l (i+1) u h (fun z t hz=>hb z t (by simp[hz])) hx
   | br u=>exact absurd ((hf 0 i y s).trans e) (hb y s (by simp) u)
   | rt u=>simp at h
theorem fold_val{C:List Sb}(hC:∀ g∈C,Rise g.Edges∧g.Edges.length≤16){w:List Int}{g:Sb}(h:Wd C w g):∃ (j:Nat) (t:List Int),w=(j:Int)::t∧j<C.length∧∀ i,forL (fG C) t i ((C.getD j default).Source,(C.getD j default).Target,(C.getD j default).Edges)=some (.inr (g.Source,g.Target,g.Edges)):=by
 induction h with
 | one j hj=>exact⟨j,[],rfl,hj,fun i=>rfl⟩
 | @snoc w0 g0 k hk h hs ih=>
  obtain⟨j,t,rfl,hj,ih⟩:=ih
  refine⟨j,t++[(k:Int)],rfl,hj,fun i=>?_⟩
  have rg:=h.rise hC
  have rk:=(hC _ (getD_mem' hk)).1
  refine forL_snoc (s':=(g0.Source,g0.Target,g0.Edges)) (fun i j x s=>rfl) t i _ (ih i) (fun y t _ u e=>?_) ?_
  ·unfold fG at e
   cases e1:idx C y with
   | none=>rw[e1] at e; cases e
   | some z=>
    rw[e1,ah] at e
    cases e2:impl_compose (Sb.mk t.1 t.2.1 t.2.2) z with
    | none=>rw[e2] at e; cases e
    | some z=>rw[e2] at e; cases e
  ·unfold fG
   rw[idx_getD hk,ah]
   show ae (impl_compose g0 _) _=_
   rw[(cmpG_ok rg rk).1]; rfl
theorem pg_more{p:Ct}(hp:p.Ok)(hv:validP p=true)(hC:∀ g∈p.Calls,Rise g.Edges∧g.Edges.length≤16){w:List Int}{g:Sb}(h:Wd p.Calls w g)(hl:w.length≤200):impl_PathGraph p w=some (g,true):=by
 have hcl:=(valid_calls hv).1
 have hpos:=h.pos
 obtain⟨j,t,rfl,hj,hf⟩:=fold_val hC h
 have hr:=hC _ (getD_mem' hj)
 have hE:=hr.2
 unfold impl_PathGraph
 rw[implP p hp,ah,hv,cond_true,decide_eq_false (by omega),cond_false,isPath_ok p _ (by omega) (by omega),ah,pathP_of hC h hl,cond_true,
  show idx ((j:Int)::t) 0=some (j:Int) from rfl,ah,idx_getD hj,ah]
 have h2:impl_copyGraph (p.Calls.getD j default)=some (p.Calls.getD j default):=by
  unfold impl_copyGraph slices_Clone_Simpl_SizeEdge_impl_SizeEdge; rw[app_nil _ (by omega)]; rfl
 have hs:slc ((j:Int)::t) (1:Int) ((((j:Int)::t).length:Nat):Int)=some t:=by
  unfold slc
  rw[if_pos ⟨by omega,by omega,by omega⟩,Int.toNat_natCast,List.take_length]; rfl
 rw[h2,ah,hs,ah]
 rw[forN_forL _ (fG p.Calls) t 0 _ (fun i v s5 hj=>by
  simp only[Nat.zero_add,idx_nat,hj,ah]; rfl),hf 0]
 rfl
/-! Valid graphs. -/
theorem validG_ends{g:Sb}(h:validG g=true):inR g.Source 0 5=true∧inR g.Target 0 5=true:=by
 unfold validG at h
 rw[aB,aB] at h
 exact h.1
theorem validG_of{g:Sb}(hr:Rise g.Edges)(hs:inR g.Source 0 5=true)(ht:inR g.Target 0 5=true):validG g=true:=by
 unfold validG
 rw[hs,ht,Bool.true_and,Bool.true_and,bf]
 intro i hi
 have hi:i<g.Edges.length:=by simpa using hi
 unfold edgeC
 have h1:=hr.1 _ (getD_mem' hi)
 rw[h1,Bool.true_and,Bool.or_eq_true,decide_eq_true_iff,decide_eq_true_iff]
 by_cases e:i=0
 ·exact .inl e
 ·have h0:i-1<g.Edges.length:=by omega
  refine .inr ((cmpE_lt (hr.1 _ (getD_mem' h0)) h1).1.2 ?_)
  have:=List.pairwise_iff_getElem.1 hr.2 (i-1) i h0 hi (by omega)
  simpa[List.getD,hi,h0] using this
theorem wd_valid{C:List Sb}(hg:∀ g∈C,validG g=true){w:List Int}{g:Sb}(h:Wd C w g):validG g=true:=by
 have hC:∀ g∈C,Rise g.Edges∧g.Edges.length≤16:=fun g h=>validR (hg g h)
 induction h with
 | one j hj=>exact hg _ (getD_mem' hj)
 | snoc j hj h hs ih=>
  have rj:=hg _ (getD_mem' hj)
  have hc:=cmpG_ok (validR ih).1 (validR rj).1
  exact validG_of hc.2.2.1 (by rw[hc.2.2.2.2.1]; exact(validG_ends ih).1) (by rw[hc.2.2.2.2.2]; exact(validG_ends rj).2)
theorem idem_more{g:Sb}(hv:validG g=true):impl_IsIdempotentGraph g=some (idemB g,true):=by
 have hr:=validR hv
 unfold impl_IsIdempotentGraph
 rw[implV g (by unfold Big; omega),ah,hv,cond_true,idem_impl hr.1,ah]
theorem desc_iff{g:Sb}(hr:Rise g.Edges):g.Edges.any descE=true↔∃ q,q<4∧2≤tb g q q:=by
 rw[List.any_eq_true]
 constructor
 ·rintro ⟨e,he,hd⟩
  unfold descE at hd
  rw[aB,decide_eq_true_iff] at hd
  have hc:=code_ok (hr.1 e he)
  have:=tab_mem hr.2 he (hr.1 e he)
  rw[← hd.1,hd.2] at this
  exact⟨e.From.toNat,by omega,by unfold tb; rw[this]; decide⟩
 ·rintro ⟨q,hq,h2⟩
  obtain⟨e,he,e1,e2,e3⟩:=tab_some (E:=g.Edges) (i:=q) (k:=q) (by unfold tb at h2; omega)
  refine⟨e,he,?_⟩
  unfold descE
  rw[e1,e2,decide_eq_true rfl,Bool.true_and]
  unfold tb at h2
  cases hs:e.Strict with
  | true=>rfl
  | false=>rw[e3,hs] at h2; simp[lv] at h2
theorem idemB_iff{g:Sb}:idemB g=true↔g.Source=g.Target∧cmpG g g=g:=by
 unfold idemB
 rw[aB,decide_eq_true_iff,sameB_iff]
/-! The drawn path. -/
theorem fits_ok{p:Ct}(hp:PDr p){out:List Int}(ho:out≠[])(hl:out.length≤10)(hx:∀ x∈out,0≤x∧x<p.Calls.length):
 ∃ s,forN (ρ:=Flow ((List Int)×la) (la×(List Int)×Int)) (fun (i10:Nat) (s10:(List Int))=>
  ae (idx p.Calls (i10:Int)) fun v40=>
  ae (idx out (IntKind.i64.wrap ((out.length:Int)-(1:Int)))) fun v49=>
  ae (idx out (IntKind.i64.wrap ((out.length:Int)-(1:Int)))) fun v50=>
  ae (idx p.Calls v50) fun v51=>
  bif decide (v40.Source=v51.Target) then
   ae (app s10 ([(i10:Int)])) fun v58=>
   some (.nx v58)
  else
   some (.nx s10)) p.Calls.length 0 ([])=some (.inr s)∧s.length≤30∧∀ x∈s,0≤x∧x<p.Calls.length:=by
 have hpos:=List.length_pos_iff.2 ho
 have hcl:=hp.cl
 have hlast:=hx _ (getD_mem' (l:=out) (i:=out.length-1) (by omega))
 have hi:idx out (IntKind.i64.wrap ((out.length:Int)-(1:Int)))=some (out.getD (out.length-1) default):=by
  rw[wrap64 (by omega) (by omega),show(out.length:Int)-1=((out.length-1:Nat):Int) by omega,idx_getD (by omega)]
 obtain⟨s,e,h1,h2⟩:=forN_inv (ρ:=Flow ((List Int)×la) (la×(List Int)×Int)) (f:=fun (i10:Nat) (s10:(List Int))=>
  ae (idx p.Calls (i10:Int)) fun v40=>
  ae (idx out (IntKind.i64.wrap ((out.length:Int)-(1:Int)))) fun v49=>
  ae (idx out (IntKind.i64.wrap ((out.length:Int)-(1:Int)))) fun v50=>
  ae (idx p.Calls v50) fun v51=>
  bif decide (v40.Source=v51.Target) then
   ae (app s10 ([(i10:Int)])) fun v58=>
   some (.nx v58)
  else
   some (.nx s10)) (fun i s=>s.length≤i∧∀ x∈s,0≤x∧x<p.Calls.length) p.Calls.length 0 [] ⟨by simp,by simp⟩ (by
  intro j s _ hj hs
  have hj:j<p.Calls.length:=by omega
  rw[idx_getD hj,ah,hi,ah,ah,idx_int hlast.1 hlast.2,ah]
  cases decide ((p.Calls.getD j default).Source=(p.Calls.getD (out.getD (out.length-1) default).toNat default).Target) with
  | false=>exact⟨_,rfl,by omega,hs.2⟩
  | true=>
   rw[cond_true,app1 _ (by omega),ah]
   exact⟨_,rfl,by simp; omega,mem_snoc hs.2 (by omega)⟩)
 exact⟨s,e,by omega,h2⟩
theorem walk_ok{p:Ct}(hp:PDr p):∀ (d:Nat) (c:la) (m:Nat) (out:List Int),CurOk c m→m+2*d+2≤1000000000→out≠[]→out.length+d≤8→(∀ x∈out,0≤x∧x<p.Calls.length)→
 ∃ c' out' n',Ev (fun n6=>whileN (ρ:=(List Int)×la) (fun (s6:la×(List Int)×Int)=>
  bif decide ((0:Int)<s6.2.2) then
   thenL (ρ:=(Flow ((List Int)×la) (la×(List Int)×Int))) (σ:=(List Int)) (forN (fun (i10:Nat) (s10:(List Int))=>
    ae (idx p.Calls (i10:Int)) fun v40=>
    ae (idx s6.2.1 (IntKind.i64.wrap ((s6.2.1.length:Int)-(1:Int)))) fun v49=>
    ae (idx s6.2.1 (IntKind.i64.wrap ((s6.2.1.length:Int)-(1:Int)))) fun v50=>
    ae (idx p.Calls v50) fun v51=>
    bif decide (v40.Source=v51.Target) then
     ae (app s10 ([(i10:Int)])) fun v58=>
     some (.nx v58)
    else
     some (.nx s10)) p.Calls.length 0 ([])) fun s10=>
   bif decide ((s10.length:Int)=(0:Int)) then
    some (.br s6)
   else
    ae (spec_l1Cur__pick s6.1 (s10.length:Int)) fun v67=>
    ae (idx s10 v67.1) fun v68=>
    ae (idx s10 v67.1) fun v69=>
    ae (app s6.2.1 ([v69])) fun v71=>
    some (.nx (v67.2,v71,IntKind.i64.wrap (s6.2.2-(1:Int))))
  else
   some (.br s6)) n6 (c,out,(d:Int))) (.inr (c',out',n'))∧CurOk c' (m+2*d)∧out'.length≤8:=by
 intro d
 induction d with
 | zero=>
  intro c m out hc hm ho hl hx
  exact⟨c,out,((0:Nat):Int),ev_br (by show(bif decide ((0:Int)<((0:Nat):Int)) then _ else _)=_; rw[decide_eq_false (by omega)]; rfl),hc,by omega⟩
 | succ d ih=>
  intro c m out hc hm ho hl hx
  obtain⟨s,e,h1,h2⟩:=fits_ok hp ho (by omega) hx
  by_cases e0:s.length=0
  ·refine⟨c,out,((d+1:Nat):Int),ev_br ?_,hc.mono (by omega),by omega⟩
   show(bif decide ((0:Int)<((d+1:Nat):Int)) then _ else _)=_
   rw[decide_eq_true (by omega),cond_true]
   refine(thenL_eq e).trans ?_
   rw[decide_eq_true (by omega),cond_true]
  ·obtain⟨v,c1,e1,v0,v1,hc1⟩:=pick_ok (s.length:Int) hc (by omega)
   have v1:=v1 (by omega)
   have hi:=idx_int v0 v1
   have hm1:=h2 _ (getD_mem' (l:=s) (i:=v.toNat) (by omega))
   obtain⟨c',out',n',q1,q2,q3⟩:=ih c1 (m+2) (out++[s.getD v.toNat default]) hc1 (by omega) (by simp) (by simp; omega) (mem_snoc hx hm1)
   refine⟨c',out',n',ev_nx ?_ q1,q2.mono (by omega),q3⟩
   show(bif decide ((0:Int)<((d+1:Nat):Int)) then _ else _)=_
   rw[decide_eq_true (by omega),cond_true]
   refine(thenL_eq e).trans ?_
   simp only[decide_eq_false (show ¬ (s.length:Int)=0 by omega),cond_false,e1,ah,hi,app1 (s.getD v.toNat default) (show out.length≤1000 by omega)]
   rw[wrap64 (by omega) (by omega),show((d+1:Nat):Int)-1=(d:Int) by omega]
theorem pathDraw_ok{p:Ct}(hp:PDr p){c:la}{m:Nat}(hc:CurOk c m)(hm:m+100≤1000000000):∃ xs c',spec_l1Cur__path c p=some (xs,c')∧xs.length≤10:=by
 unfold spec_l1Cur__path
 have hcl:=hp.cl
 by_cases e0:(p.Calls.length:Int)=0
 ·rw[decide_eq_true e0]; exact⟨_,_,rfl,by simp⟩
 rw[decide_eq_false e0,cond_false]
 obtain⟨v,c1,e1,v0,v1,h1⟩:=pick_ok (p.Calls.length:Int) hc (by omega)
 have v1:=v1 (by omega)
 obtain⟨k,c2,e2,k0,k1,h2⟩:=pick_ok 5 h1 (by omega)
 have k1:=k1 (by omega)
 obtain⟨d,rfl⟩:∃ d:Nat,k=(d:Int):=⟨k.toNat,by omega⟩
 obtain⟨c',out,n',q1,q2,q3⟩:=walk_ok hp d c2 _ [v] h2 (by omega) (by simp) (by simp; omega) (fun x hx=>by rw[List.mem_singleton.1 hx]; omega)
 rw[e1,ah,show app ([]:List Int) [v]=some [v] by rw[app1 _ (by simp)]; rfl,ah,e2,ah]
 obtain⟨u,c3,e3,_,_,h3⟩:=pick_ok 24 q2 (by omega)
 have key:∃ xs c9,(ae (spec_l1Cur__pick c' (24:Int)) fun v73=>
  bif decide (v73.1=(0:Int)) then
   some ([],v73.2)
  else
   bif decide (v73.1=(1:Int)) then
    ae (spec_l1Cur__pick v73.2 (IntKind.i64.wrap ((p.Calls.length:Int)+(2:Int)))) fun v85=>
    ae (app out ([IntKind.i64.wrap (v85.1-(1:Int))])) fun v88=>
    some (v88,v85.2)
   else
    some (out,v73.2))=some (xs,c9)∧xs.length≤10:=by
  simp only[e3,ah]
  by_cases a0:u=0
  ·rw[decide_eq_true a0]; exact⟨_,_,rfl,by simp⟩
  rw[decide_eq_false a0,cond_false]
  by_cases a1:u=1
  ·obtain⟨x,c4,e4,_,_,h4⟩:=pick_ok (IntKind.i64.wrap ((p.Calls.length:Int)+2)) h3 (by omega)
   rw[decide_eq_true a1,cond_true,e4,ah,app1 _ (by omega),ah]
   exact⟨_,_,rfl,by simp; omega⟩
  ·rw[decide_eq_false a1]; exact⟨_,_,rfl,by omega⟩
 obtain⟨xs,c4,k2,k3⟩:=key
 exact⟨xs,c4,(thenL_eq (lim_eq q1)).trans k2,k3⟩
end
section
theorem forN_nxs{ρ:Type}{f:Nat→Unit→Option (Flow ρ Unit)}:∀ (n i:Nat),(∀ j,i≤j→j<i+n→f j ()=some (.nx ()))→forN f n i ()=some (.inr ())
 | 0,_,_=>rfl
 | n+1,i,h=>by
  rw[forN_nx (s':=()) (h i (by omega) (by omega))]
  exact forN_nxs n (i+1) (fun j h1 h2=>h j (by omega) (by omega))
theorem vInts_refl(q:List Int):vInts q q=some true:=by
 unfold vInts
 rw[decide_eq_true rfl,cond_true,forN_nxs q.length 0 (fun j _ hj=>by
  have hj:j<q.length:=by omega
  rw[idx_getD hj,ah,ah,decide_eq_true rfl,cond_true])]
 rfl
theorem Wd.unique{C:List Sb}(hC:∀ g∈C,Rise g.Edges∧g.Edges.length≤16){w:List Int}{g:Sb}(h:Wd C w g):∀ {g2:Sb},Wd C w g2→g2=g:=by
 induction h with
 | one j hj=>
  intro g2 h2
  obtain⟨k,e,_,e2⟩:=h2.single
  have:j=k:=by omega
  rw[e2,this]
 | @snoc w0 g0 j hj h hs ih=>
  intro g2 h2
  have hp:=h.pos
  obtain⟨a,b,k1,k2,_,k4⟩:=h2.split hC _ _ rfl (by intro e; rw[e] at hp; simp at hp) (by simp)
  obtain⟨k,e,_,e2⟩:=k2.single
  have:j=k:=by omega
  rw[k4,ih k1,e2,this]
theorem rp_more{p:Ct}(hp:p.Ok)(hv:validP p=true){xs:List Int}{k:Nat}(h0:0<xs.length)(hpp:pathP p xs=true)(hk:k≤200):impl_RepeatPath p xs (k:Int)=some (bif pathP p (repL xs k) then(repL xs k,true) else([],false)):=by
 have hl2:xs.length≤200:=by
  have:=hpp
  unfold pathP at this
  rw[aB,decide_eq_true_iff] at this
  exact this.2
 have hcl:=(valid_calls hv).1
 have hab:k*xs.length≤200*200:=Nat.mul_le_mul hk hl2
 have hlen:=repL_len xs k
 unfold impl_RepeatPath
 rw[implP p hp,ah,hv,cond_true,isPath_ok p xs (by omega) (by omega),ah,hpp,cond_true,decide_eq_false (by omega),cond_false,decide_eq_false (by omega),cond_false,decide_eq_false (by omega),cond_false,Repeat_eq h0 hl2 hk,ah,isPath_ok p _ (by omega) (by omega),ah]
 cases pathP p (repL xs k)<;>rfl
theorem rp_false{p:Ct}(hp:p.Ok)(hv:validP p=true){xs:List Int}(k:Int)(hl:xs.length≤1000)(hpp:pathP p xs=false):impl_RepeatPath p xs k=some ([],false):=by
 have hcl:=(valid_calls hv).1
 unfold impl_RepeatPath
 rw[implP p hp,ah,hv,cond_true,isPath_ok p xs (by omega) (by omega),ah,hpp]; rfl
theorem path_word{p:Ct}(hC:∀ g∈p.Calls,Rise g.Edges∧g.Edges.length≤16){xs:List Int}(h0:0<xs.length)(hpp:pathP p xs=true):∃ g,Wd p.Calls xs g:=by
 unfold pathP at hpp
 rw[aB,bf] at hpp
 exact path_wd hC (xs.length-1) xs (by omega) (fun i hi=>hpp.1 i (List.mem_range.2 hi))
/-- The reported path. -/
theorem bad_case{p:Ct}(hp:p.Ok)(hv:validP p=true){L:List ft}(hL:Good p.Calls L){y:ft}(hy:y∈L)(hb:bad y=true):
 0<y.path.length∧y.path.length≤200∧impl_PathGraph p y.path=some (y.graph,true)∧impl_IsIdempotentGraph y.graph=some (true,true)∧
 ∃ long M,impl_RepeatPath p y.path ((200 / y.path.length:Nat):Int)=some (long,true)∧impl_MostProgress p long=some (M,true)∧M≤4*(y.path.length:Int):=by
 obtain⟨hn,hg⟩:=valid_callsG hv
 have hC:∀ g∈p.Calls,Rise g.Edges∧g.Edges.length≤16:=fun g h=>validR (hg g h)
 have hw:=hL.inv.vl y hy
 have hpos:=hw.pos
 have h200:=path_200 hC hL.inv hL.len hy
 unfold bad at hb
 rw[aB,Bool.not_eq_true'] at hb
 obtain⟨hs,hi⟩:=idemB_iff.1 hb.1
 have hrg:=hw.rise hC
 have hd:∀ q,q<4→¬ 2≤tb y.graph q q:=fun q hq h2=>by
  have:=(desc_iff hrg).2 ⟨q,hq,h2⟩
  rw[this] at hb; cases hb.2
 have hv2:=wd_valid hg hw
 have hpp:=pathP_of hC hw h200
 have hk0:1≤200 / y.path.length:=(Nat.le_div_iff_mul_le hpos).2 (by omega)
 have hk1:200 / y.path.length≤200:=Nat.div_le_self _ _
 have hk2:200 / y.path.length*y.path.length≤200:=Nat.div_mul_le_self _ _
 have hlong:=rep_val hC hw hs (200 / y.path.length-1)
 rw[show 200 / y.path.length-1+1=200 / y.path.length by omega] at hlong
 have hlp:pathP p (repL y.path (200 / y.path.length))=true:=pathP_of hC hlong (by rw[repL_len]; exact hk2)
 obtain⟨M,m1,m2,_⟩:=most_more p _ hp hv hlp
 refine⟨hpos,h200,pg_more hp hv hC hw h200,by rw[idem_more hv2,hb.1],_,M,by rw[rp_more hp hv hpos hpp hk1,hlp,cond_true],m1,?_⟩
 by_cases h0:0≤M
 ·obtain⟨i,j,t,hi4,hj4,ht,e⟩:=m2 h0
  have:=tr_bound hC hw hi hd _ i j t [] hi4 List.nodup_nil (by simp) ht
  simp only[bj,Nat.mul_zero,Nat.add_zero] at this
  rw[e]; omega
 ·omega
/-- The repeated path makes progress. -/
theorem good_case{p:Ct}(hp:p.Ok)(hv:validP p=true){L:List ft}(hL:Good p.Calls L)(hn:∀ y∈L,bad y=false){xs:List Int}(h0:0<xs.length)(hl:xs.length≤4){long:List Int}(hr:impl_RepeatPath p xs ((200 / xs.length:Nat):Int)=some (long,true)):
 ∃ M,impl_MostProgress p long=some (M,true)∧0<M:=by
 obtain⟨_,hg⟩:=valid_callsG hv
 have hC:∀ g∈p.Calls,Rise g.Edges∧g.Edges.length≤16:=fun g h=>validR (hg g h)
 have hk0:50≤200 / xs.length:=(Nat.le_div_iff_mul_le h0).2 (by omega)
 have hk1:200 / xs.length≤200:=Nat.div_le_self _ _
 generalize 200 / xs.length=k at hr hk0 hk1
 cases hpp:pathP p xs with
 | false=>rw[rp_false hp hv _ (by omega) hpp] at hr; cases hr
 | true=>
  rw[rp_more hp hv h0 hpp hk1] at hr
  cases hlp:pathP p (repL xs k) with
  | false=>rw[hlp] at hr; cases hr
  | true=>
   rw[hlp,cond_true] at hr
   cases hr
   obtain⟨M,m1,_,m3⟩:=most_more p _ hp hv hlp
   refine⟨M,m1,?_⟩
   obtain⟨g,hw⟩:=path_word hC h0 hpp
   have hlen:=repL_len xs k
   have hpos:0<k*xs.length:=Nat.mul_pos (by omega) h0
   obtain⟨g1,hw1⟩:=path_word hC (by omega) hlp
   have hrg:=hw.rise hC
   have hx:xs≠[]:=by intro e; rw[e] at h0; simp at h0
   have hcl:g.Source=g.Target:=by
    obtain⟨k',rfl⟩:∃ k',k=k'+2:=⟨k-2,by omega⟩
    have hne:repL xs k'≠[]:=by
     intro e
     have:=congrArg List.length e
     rw[repL_len,bj] at this
     have:=Nat.mul_pos (show 0<k' by omega) h0
     omega
    obtain⟨a,b,q1,q2,q3,_⟩:=hw1.split hC (repL xs k'++xs) xs rfl (by simp[hx]) hx
    obtain⟨a',b',r1,r2,r3,r4⟩:=q1.split hC (repL xs k') xs rfl hne hx
    have e1:=hw.unique hC q2
    have e2:=hw.unique hC r2
    rw[e1,r4,cmp_tgt (r1.rise hC) (r2.rise hC),e2] at q3
    exact q3
   have h168:=rep_val hC hw hcl 167
   obtain⟨y,hy,ey,_⟩:=reach hL.inv h168
   have hb:=hn y hy
   have hid:idemB y.graph=true:=by
    rw[ey,idemB_iff,(pw_ok hrg 167).2.1,(pw_ok hrg 167).2.2]
    exact⟨hcl,pw_idem hrg⟩
   unfold bad at hb
   rw[hid,Bool.true_and,Bool.not_eq_false',ey,desc_iff (pw_ok hrg 167).1] at hb
   obtain⟨i,j,s,hi,hs,h1⟩:=tr_progress hC hw hb (t:=k) (by omega) hk1
   have hj:j<4:=by
    have h2:=rep_val hC hw hcl (k-1)
    rw[show k-1+1=k by omega] at h2
    exact(tr_val hC h2 hi hs).1
   have:=m3 i j s hi hj hs
   omega
theorem quo_nat{n:Nat}(h:0<n)(hn:n≤1000):quo (200:Int) (n:Int)=some ((200 / n:Nat):Int):=by
 rw[quo_small (by omega) (by omega) (by omega)]
 congr 1
theorem FnTraces_true(a0:List Int)(h:LOk (fun x:Int=>0≤x∧x≤255) a0):FnTraces a0=some true:=by
 unfold FnTraces vBig
 rw[ah]
 by_cases hb:(65536:Int)<(a0.length:Int)
 ·rw[decide_eq_true hb]; rfl
 rw[decide_eq_false hb,cond_false]
 have hc0:CurOk (la.mk a0 (0:Int) (0:Int)) 0:=⟨by simp,by simp,h.2⟩
 obtain⟨p,c1,e1,hp,h1⟩:=anyCyclic_ok hc0 (by omega)
 obtain⟨xs,c2,e2,hx⟩:=pathDraw_ok hp h1 (by omega)
 have ed:spec_DrawPathGraph a0=some (p,xs):=by
  unfold spec_DrawPathGraph; rw[e1,ah,e2]; rfl
 obtain⟨q,ok,t1,t2,t3⟩:=td_more p hp.ok
 rw[ed,ah,t1,ah,t2,ah,vInts_refl,ah]
 simp only[beq_self_eq_true,cond_true]
 cases ok with
 | false=>rfl
 | true=>
  obtain⟨hv,L,hL,hq⟩:=t3 rfl
  simp only[cond_true]
  rcases hq with⟨rfl,hn⟩ | ⟨y,hy,rfl,hbd⟩
  ·rw[decide_eq_false (by simp),cond_false]
   by_cases x0:(xs.length:Int)=0
   ·rw[decide_eq_true x0]; rfl
   rw[decide_eq_false x0,cond_false]
   by_cases x4:(4:Int)<(xs.length:Int)
   ·rw[decide_eq_true x4]; rfl
   rw[decide_eq_false x4,cond_false,quo_nat (by omega) (by omega),ah]
   obtain⟨g,c,r1,r2,_⟩:=rep_both p xs ((200 / xs.length:Nat):Int) hp.ok (by omega)
   rw[r2,ah,ah,r1,ah]
   simp only[beq_self_eq_true,cond_true]
   cases c with
   | false=>rfl
   | true=>
    obtain⟨M,m1,m2⟩:=good_case hp.ok hv hL hn (by omega) (by omega) r2
    rw[cond_true,m1,ah,cond_true,decide_eq_true m2]
  ·obtain⟨b1,b2,b3,b4,long,M,b5,b6,b7⟩:=bad_case hp.ok hv hL hy hbd
   rw[decide_eq_true (by omega),cond_true,b3,ah,b4,ah,quo_nat b1 (by omega),ah,b5,ah,b6,ah]
   simp only[cond_true]
   rw[wrap64 (by omega) (by omega),decide_eq_true b7]
end
end Go.Proofs.Ytjpljobgioglmaa
