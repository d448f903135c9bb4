/- A part of the proof: lemmas only; nothing is claimed here beyond what each lemma says. -/
/- Builtin copy into a row of one's own. -/
import Derived.Test.YtkoghcphkdecoaaGreatAv6w
import Derived.Test.YtkoghcphkdecoaaGreatAvI
set_option linter.unusedSimpArgs false
set_option linter.unusedVariables false
set_option linter.defProp false
namespace Go.Av
open List renaming length_append→aY
theorem rcr_{P:Program}(w:World)(dT sT ty elem:TypeId)(b o dLen dCap:Nat)(a:Addr)(sLen sCap k:Nat)(cs:List Value)(cur:Array Value)(e:TypeId)
 (hu:P.underlying dT=some (.slice elem)) (hs:(P.info? elem).map (·.size)=some k) (hn:cs.length=Nat.min sLen dLen*k)
 (hsrc:∀ j v,cs[j]?=some v→w.cell? (a.add j)=some v) (hg:w.heap[b]?=some (.cells cur e (0,0))) (hfit:o+cs.length≤cur.size) (h1:∀ v∈cs,v.oneCell'=true):
 (Builtin.copy_ #[dT,sT] ty #[.slice (some ⟨b,o,none⟩) dLen dCap,.slice (some a) sLen sCap]).run P w=.ok (goInt (Nat.min sLen dLen)) (w.setRow b (cur.toList.take o++cs++cur.toList.drop (o+cs.length)).toArray):=by
 have hl:=run_loadCells_list (P:=P) w a cs hsrc
 have hst:=run_storeCells_at P b o e cs 0 cur w hg (by simpa using hfit) h1
 simp only[Nat.add_zero] at hst
 cases hq:P.info? elem with
 | none=>simp[hq] at hs
 | some i=>
  have hi:i.size=k:=by simpa[hq] using hs
  simp[Builtin.copy_,run_underlying hu,Builtin.lenOf,Builtin.firstCells,sizeOf,typeInfo,hq,hi,← hn,hl,hst]
theorem rcn_{P:Program}(w:World)(dT sT ty elem:TypeId)(base src:Option Addr)(dLen dCap sLen sCap k:Nat) 
 (hu:P.underlying dT=some (.slice elem)) (hs:(P.info? elem).map (·.size)=some k) (hn:Nat.min sLen dLen=0):
 (Builtin.copy_ #[dT,sT] ty #[.slice base dLen dCap,.slice src sLen sCap]).run P w=.ok (goInt 0) w:=by
 cases hq:P.info? elem with
 | none=>simp[hq] at hs
 | some i=>
  have hf:(Builtin.firstCells i.size 0 (.slice src sLen sCap)).run P w=.ok #[] w:=by
   cases src with
   | none=>exact run_firstCells_none w _ _ _ _
   | some ad=>exact run_firstCells_some w i.size 0 ad sLen sCap [] (by simp) (fun j v h=>by simp at h)
  cases base<;>simp[Builtin.copy_,run_underlying hu,Builtin.lenOf,sizeOf,typeInfo,hq,hn,hf,storeCells]
theorem cc_2{P:Program}{a:Act}{o:Oper}{x y:Operand}{T T':TypeId}{w w':World}{v:Value}(hop:o.op=.call { callee:=.builtin .copy,args:=#[x,y],argTypes:=#[T,T'] })
 (h:(Builtin.copy_ #[T,T'] o.type #[a.eval x,a.eval y]).run P w=.ok v w'):(execOp a.eval o).run P w=.ok (.value v) w':=by
 simp[execOp,hop,resolve,invoke,builtin,h]
theorem or_{κ:Ctx}{G:Gh}{st:St}{a:Act}{w:World}{c sz:Nat}{es:List PV}(hG:RG κ G st a w)(ho:st.o c=some (sz,es))(hne:es≠[])(hno:PV.noOwns es=true):
 ∃ b cap cc e ccs,G.hd c=.slice (some ⟨b,0,none⟩) es.length cap∧es.length≤cap∧cap≤maxLen∧(∀ p∈es,PV.size p=sz)∧w.heap[b]?=some (.cells cc e (0,0))∧cc.size=cap*sz∧cc.toList.take (es.length*sz)=ccs∧RepCs (Nof κ st G w) w es ccs []∧G.fp c=[b]:=by
 have h4:=(hG.objs c sz es ho).1
 simp only[RepC] at h4
 rcases h4 with⟨_,h4,_⟩ | ⟨b,cap,cc,e,F',ccs,f1,f2,f3,f4,f5,f6,f7,f8,f9⟩
 ·exact absurd h4 hne
 ·have hF:=RepCs.noOwn _ _ _ hno f8
  subst hF
  simp at f1
  exact⟨b,cap,cc,e,ccs,f1,f2,f3,f4,f5,f6,f7,f8,f9⟩
theorem tr_{κ:Ctx}{G:Gh}{st:St}{a:Act}{w:World}{c sz:Nat}{es es':List PV}{b cap:Nat}{cc:Array Value}{e:TypeId}{row ccs:List Value}(hG:RG κ G st a w)(ho:st.o c=some (sz,es))(hlen:es'.length=es.length)
 (h1:G.hd c=.slice (some ⟨b,0,none⟩) es.length cap) (h2:es.length≤cap) (h3:cap≤maxLen) (h4:∀ p∈es',PV.size p=sz) (h5:w.heap[b]?=some (.cells cc e (0,0))) (h6:row.length=cap*sz) (h7:row.take (es.length*sz)=ccs) (h8:RepCs (Nof κ st G w) w es' ccs []) (h9:G.fp c=[b]):
 R κ { s:=st.s,o:=upd st.o c (some (sz,es')) } a (w.setRow b row.toArray):=by
 have hNb:∀ k,Nof κ st G w k→k≠b:=fun k hk e=>hk.2 (.inr ⟨c,_,ho,by rw[h9,e]; simp⟩)
 have:=RsO_ (es':=es') (D:=[]) (fc':=[b]) (sz:=sz) (w':=w.setRow b row.toArray) hG (by rw[ho]; rfl) (by simp) (by simp) rfl rfl rfl (by simp[World.setRow]) (fun k hk=>setRow_other w _ _ _ (fun e=>hk (by rw[h9,e]; simp))) ?_ (by simp) (fun k hk=>.inl (by rw[h9]; exact hk))
 ·simpa[deadObjs,updAll] using this
 ·simp only[RepC]
  exact .inr ⟨b,cap,row.toArray,e,[],ccs,by rw[h1,hlen],by rw[hlen]; exact h2,h3,h4,setRow_heap w _ _ _ _ _ h5,by simpa using h6,by rw[hlen]; simpa using h7,RepCs.frame (fun _ h=>h) (fun k hk=>setRow_other w _ _ _ (hNb k hk)) _ _ _ (by simp) h8,rfl⟩
theorem vcv_{P:Program}{nt:Nat}{o:Oper}{st:St}{d c sz bytes:Nat}{x y:Operand}{T T':TypeId}{es ys:List PV}(hop:o.op=.call { callee:=.builtin .copy,args:=#[x,y],argTypes:=#[T,T'] })(hdst:o.dst=some d)(hd:d<nt)
 (hT:SlIs P T sz bytes) (hx:ev P st T x=.val (.own c)) (hc:st.o c=some (sz,es)) (hy:ev P st T' y=.val (.pv (.sl false sz ys))) (hno:PV.noOwns es=true):
 Valid P nt o st { rs:=rd x++rd y,ro:=[c],us:=[(d,.val (.pv (.lit (.int .i64 ((min ys.length es.length:Nat):Int)))))],uo:=[(c,some (sz,ys.take es.length++es.drop ys.length))] }:=by
 intro κ st' a w hnt hsame _ hR next Q hnext
 obtain⟨G,hG⟩:=hR
 obtain⟨el,i,z,t1,t2,t3,_⟩:=hT
 have hinfo:(P.info? el).map (·.size)=some sz:=by rw[t2]; simp[t3]
 have h1:=ev_ok (P:=P) (T:=T) hG x d
 rw[ec_ (fun k hk=>hsame.1 k (by simp[hk])),hx] at h1
 have h1:=sOo_ h1
 have h2:=ev_ok (P:=P) (T:=T') hG y d
 rw[ec_ (fun k hk=>hsame.1 k (by simp[hk])),hy] at h2
 rcases h2 with⟨h2,_⟩ | ⟨_,h2,_⟩
 ·simp[CV.isAgg] at h2
 simp only[RepCV,RepC] at h2
 obtain⟨ax,ycap,g1,_,g3,g4,g5,g6⟩:=h2
 simp at g1
 have hc':st'.o c=some (sz,es):=by rw[hsame.2 c (by simp)]; exact hc
 unfold Oper.wp
 by_cases hn:min ys.length es.length=0
 ·obtain⟨ob,ocap,hhd⟩:=own_sl hG hc'
  have hrun:=cc_2 (P:=P) (a:=a) (w:=w) hop (by rw[h1,g1,hhd]; exact rcn_ w T T' o.type el ob ax _ _ _ _ sz t1 hinfo hn)
  rw[hrun]
  simp only[Oper.upon]
  rw[hdst]
  refine hnext _ _ ?_
  have hsame2:ys.take es.length++es.drop ys.length=es:=by
   rcases Nat.min_eq_zero_iff.1 hn with e | e
   ·rw[List.length_eq_zero_iff.1 e]; simp
   ·rw[List.length_eq_zero_iff.1 e]; simp
  have:=R.set (sv:=.val (.pv (.lit (.int .i64 ((min ys.length es.length:Nat):Int))))) (v:=goInt 0) (d:=d) G hG (by rw[hnt]; exact hd) rfl (by rw[hn]; exact sOl_ rfl)
  simp only[St.app,updAll,hsame2]
  have e2:upd st'.o c (some (sz,es))=st'.o:=by funext k; by_cases hk:k=c<;>simp[upd,hk,hc']
  rw[e2]; exact this
 ·have hes:es≠[]:=by rintro rfl; simp at hn
  have hys:ys≠[]:=by rintro rfl; simp at hn
  obtain⟨b,cap,cc,e,ccs,f1,f2,f3,f4,f5,f6,f7,f8,f9⟩:=or_ hG hc' hes hno
  rcases g6 with g6 | ⟨ad,yc,rfl,q2,q3,q4,q5⟩
  ·exact absurd g6 hys
  have hn':∃ n,n=min ys.length es.length:=⟨_,rfl⟩
  obtain⟨n,hn'⟩:=hn'
  have e1:ys.take es.length=ys.take n:=by
   rcases Nat.le_total ys.length es.length with h | h
   ·rw[List.take_of_length_le h,hn',Nat.min_eq_left h,List.take_length]
   ·rw[hn',Nat.min_eq_right h]
  have e2:es.drop ys.length=es.drop n:=by
   rcases Nat.le_total ys.length es.length with h | h
   ·rw[hn',Nat.min_eq_left h]
   ·rw[hn',Nat.min_eq_right h,List.drop_of_length_le h,List.drop_length]
  have hny:n≤ys.length:=by omega
  have hne:n≤es.length:=by omega
  obtain⟨y1,y2,Y1,Y2,r1,r2,r3,r4⟩:=RepCs.split (ys.take n) (ys.drop n) yc [] (by rw[List.take_append_drop]; exact q5)
  have hY:Y1=[]:=by
   have:=congrArg List.length r2; simp at this; exact List.eq_nil_of_length_eq_zero (by omega)
  subst hY
  obtain⟨c1,c2,C1,C2,s1,s2,s3,s4⟩:=RepCs.split (es.take n) (es.drop n) ccs [] (by rw[List.take_append_drop]; exact f8)
  have hC:C2=[]:=by
   have:=congrArg List.length s2; simp at this; exact List.eq_nil_of_length_eq_zero (by omega)
  subst hC
  have hl1:y1.length=n*sz:=by rw[RepCs.length _ _ _ r3,st_ g5 hny]
  have hl2:c1.length=n*sz:=by rw[RepCs.length _ _ _ s3,st_ f4 hne]
  have hccl:ccs.length=es.length*sz:=by rw[RepCs.length _ _ _ f8,Psc_ f4]
  have hccsz:cc.toList.length=cap*sz:=by simpa using f6
  have hmul:es.length*sz≤cap*sz:=Nat.mul_le_mul_right _ f2
  have hmul2:n*sz≤es.length*sz:=Nat.mul_le_mul_right _ hne
  have hone:∀ v∈y1,v.oneCell'=true:=RepCs.one _ _ _ r3
  have hrun:=cc_2 (P:=P) (a:=a) (w:=w) hop (by
   rw[h1,g1,f1]
   exact rcr_ w T T' o.type el b 0 es.length cap ad ys.length ycap sz y1 cc e t1 hinfo (by rw[hl1,hn']) (fun j v hj=>by
    have:=rAa_ q2 q4 j v (by rw[r1,List.getElem?_append_left (by exact(List.getElem?_eq_some_iff.1 hj).1)]; exact hj)
    exact this) f5 (by rw[hl1]; simpa using (by omega:n*sz≤cc.toList.length)) hone)
  rw[hrun]
  simp only[Oper.upon]
  rw[hdst]
  refine hnext _ _ ?_
  simp only[Nat.zero_add,List.take_zero,List.nil_append]
  have hT2:=tr_ (es':=ys.take n++es.drop n) (row:=y1++cc.toList.drop y1.length) (ccs:=y1++c2) hG hc' (by rw[aY,List.length_take,List.length_drop]; omega) f1 f2 f3 (fun p hp=>by
   rcases List.mem_append.1 hp with hp | hp
   ·exact g5 p (List.mem_of_mem_take hp)
   ·exact f4 p (List.mem_of_mem_drop hp)) f5 (by rw[aY,List.length_drop]; omega) (by
   have:cc.toList.drop y1.length=c2++cc.toList.drop (es.length*sz):=by
    have h0:=List.take_append_drop (es.length*sz) cc.toList
    rw[f7,s1] at h0
    conv=>lhs; rw[← h0]
    rw[hl1,← hl2,List.append_assoc,List.drop_left]
   rw[this,← List.append_assoc]
   have hl3:(y1++c2).length=es.length*sz:=by rw[aY,hl1]; rw[s1,aY,hl2] at hccl; omega
   rw[← hl3,List.take_left]) (by
   have:=RepCs.append _ _ _ _ _ _ r3 s4
   simpa using this) f9
  obtain⟨G2,hG2⟩:=hT2
  have:=R.set (sv:=.val (.pv (.lit (.int .i64 ((min ys.length es.length:Nat):Int))))) (v:=goInt (Nat.min ys.length es.length)) (d:=d) G2 hG2 (by rw[hnt]; exact hd) rfl (sOl_ rfl)
  simp only[St.app,updAll,e1,e2]
  exact this
def subF(sz lo hi:Nat):List Value→List Nat→List Value→Value
 | [.slice (some a) _ cap],_,_=>.slice (some (if cap=lo then a else a.add (lo*sz))) (hi-lo) (cap-lo)
 | _,_,_=>undef
theorem vss_{P:Program}{nt:Nat}{o:Oper}{st:St}{d c sz bytes:Nat}{x:Operand}{lo hi:Option Operand}{T T1:TypeId}{es:List PV}{l h:Nat}(hop:o.op=.slice T x lo hi none)(hdst:o.dst=some d)(hd:d<nt)
 (hT:SlIs P T sz bytes) (hx:ev P st T1 x=.val (.own c)) (hc:st.o c=some (sz,es)) (hlo:OptIs P st 0 l lo) (hhi:OptIs P st es.length h hi) (hlh:l≤h) (hhl:h≤es.length) (hne:0<es.length):
 Valid P nt o st { rs:=rd x++(lo.toList.flatMap rd++hi.toList.flatMap rd),ro:=[c],us:=[(d,.fn [c] [] [] (subF sz l h))] }:=by
 refine vp_ hdst hd rfl ?_
 intro κ G st' a w hnt hsame hG
 obtain⟨e,i,z,t1,t2,t3,_⟩:=hT
 have h1:=ev_ok (P:=P) (T:=T1) hG x d
 rw[ec_ (fun k hk=>hsame.1 k (by simp[hk])),hx] at h1
 have g1:=sOo_ h1
 have hc':st'.o c=some (sz,es):=by rw[hsame.2 c (by simp)]; exact hc
 have h4:=(hG.objs c sz es hc').1
 simp only[RepC] at h4
 rcases h4 with⟨_,h4,_⟩ | ⟨b,cap,cc,e',F',ccs,f1,f2,f3,_⟩
 ·subst h4; simp at hne
 simp at f1
 have g3:es.length≤cap:=f2
 have elo:∃ lv:Option Value,lo.map a.eval=lv∧(match lv with | none=>l=0 | some v=>∃ k,v=.int k (l:Int)):=by
  cases lo with
  | none=>exact⟨none,rfl,hlo⟩
  | some y=>
   obtain⟨k,n,e1,rfl⟩:=hlo
   exact⟨_,rfl,k,ev_lit hG e1 (fun k hk=>hsame.1 k (by simp[hk]))⟩
 have ehi:∃ hv:Option Value,hi.map a.eval=hv∧(match hv with | none=>h=es.length | some v=>∃ k,v=.int k (h:Int)):=by
  cases hi with
  | none=>exact⟨none,rfl,hhi⟩
  | some y=>
   obtain⟨k,n,e1,rfl⟩:=hhi
   exact⟨_,rfl,k,ev_lit hG e1 (fun k hk=>hsame.1 k (by simp[hk]))⟩
 obtain⟨lv,e1,e2⟩:=elo
 obtain⟨hv,e3,e4⟩:=ehi
 have hlb:(Instr.sliceBounds true es.length cap lv hv none).run P w=.ok (l,h,cap) w:=by
  have hc:¬ cap<h:=by omega
  have hl':¬ h<l:=by omega
  have hc1:h≤cap:=by omega
  cases lv with
  | none=>
   simp only at e2; subst e2
   cases hv with
   | none=>simp only at e4; subst e4; simp[Instr.sliceBounds]
   | some v=>obtain⟨k,rfl⟩:=e4; simp[Instr.sliceBounds,Instr.sliceBound,asIntOf,hc,hc1]
  | some u=>
   obtain⟨k',rfl⟩:=e2
   cases hv with
   | none=>simp only at e4; subst e4; simp[Instr.sliceBounds,Instr.sliceBound,asIntOf,hl',hlh]
   | some v=>obtain⟨k,rfl⟩:=e4; simp[Instr.sliceBounds,Instr.sliceBound,asIntOf,hc,hl',hc1,hlh]
 have hrun:(execOp a.eval o).run P w=.ok (.value (.slice (if cap=l then some ⟨b,0,none⟩ else(some (⟨b,0,none⟩:Addr)).map (·.add (l*sz))) (h-l) (cap-l))) w:=by
  simp[execOp,hop,Instr.sliceAt,run_underlying t1,Instr.slice,g1,f1,e1,e3,hlb,sizeOf,typeInfo,t2,t3]
 refine⟨_,hrun,[],by simp[RepCs],?_⟩
 simp only[List.map_cons,List.map_nil,f1,subF]
 split<;>rfl
end Go.Av
