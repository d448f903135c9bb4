/- A part of the proof: lemmas only; nothing is claimed here beyond what each lemma says. -/
/- make, append, cuts, strings, closures made. -/
import Derived.Laws.BytesString
import Derived.Test.YtkoghcphkdecoaaGreatAv6t
set_option linter.unusedSimpArgs false
set_option linter.unusedVariables false
set_option linter.defProp false
namespace Go.Av
open List renaming append_assoc→ba,length_append→aY,map_cons→aM
open RepCs renaming length→bD

theorem rCr_{N:Nat→Prop}{w:World}{p:PV}{cs:List Value}(h:RepC N w p cs []):∀ n,RepCs N w (List.replicate n p) ((List.replicate n cs).flatten) []
 | 0=>by simp[RepCs]
 | n+1=>by
  simp only[List.replicate_succ,RepCs,List.flatten_cons]
  exact⟨cs,_,[],[],rfl,rfl,h,rCr_ h n⟩

theorem mCe_{z:Array Value}(hz:0<z.size):∀ n,(madeCells z (n*z.size)).toList=(List.replicate n z.toList).flatten
 | 0=>by simp[madeCells,Array.range_zero']
 | n+1=>by
  rw[List.replicate_succ',List.flatten_append,← mCe_ hz n]
  apply List.ext_getElem?
  intro k
  simp only[madeCells,Array.toList_map,Array.toList_range,List.getElem?_map]
  rcases Nat.lt_or_ge k (n*z.size) with h | h
  ·have h1:k<(n+1)*z.size:=by rw[Nat.add_mul]; omega
   rw[List.getElem?_append_left (by simpa using h)]
   simp[List.getElem?_range h,List.getElem?_range h1]
  ·rw[List.getElem?_append_right (by simpa using h)]
   simp only[List.length_map,List.length_range,List.flatten_cons,List.flatten_nil,List.append_nil]
   rcases Nat.lt_or_ge k ((n+1)*z.size) with h1 | h1
   ·have h2:k-n*z.size<z.size:=by rw[Nat.add_mul] at h1; omega
    have h3:k % z.size=k-n*z.size:=by
     have:k=(k-n*z.size)+n*z.size:=by omega
     conv=>lhs; rw[this]
     rw[Nat.add_mul_mod_self_right,Nat.mod_eq_of_lt h2]
    rw[List.getElem?_range h1]
    simp[h3,h2]
   ·rw[List.getElem?_eq_none (by simpa using h1),List.getElem?_eq_none (by simp; rw[Nat.add_mul] at h1; omega)]
    rfl

def ElemZero(P:Program)(T:TypeId)(p:PV):Prop:=∃ e,P.underlying T=some (.slice e)∧ZeroIs P e (.pv p)

theorem vmS_{P:Program}{nt:Nat}{o:Oper}{st:St}{d c sz bytes:Nat}{T T1:TypeId}{x y:Operand}{k k':IntKind}{n m:Int}{p:PV}(hop:o.op=.makeSlice T x y)(hdst:o.dst=some d)(hd:d<nt)
 (hT:SlIs P T sz bytes) (hz:ElemZero P T p) (hp:p.size=sz) (hx:ev P st T1 x=.val (.pv (.lit (.int k n)))) (hy:ev P st T1 y=.val (.pv (.lit (.int k' m)))) (h0:0≤n) (hnm:n≤m) (hm:m≤1099511627776) (hb:(bytes:Int)*m≤281474976710656):
 Valid P nt o st { rs:=rd x++rd y,fc:=(rO_ (.sl true sz (List.replicate n.toNat p)) c).map (·.1),us:=[(d,resSV (.sl true sz (List.replicate n.toNat p)) c)],uo:=deadObjs []++newObjs (rO_ (.sl true sz (List.replicate n.toNat p)) c) }:=by
 refine vr_ hdst hd (by simp) (by simp) ?_
 intro κ G st' a w hnt hsame hG
 obtain⟨e,i,z,h1,h2,h3,h4,h5,h6,h7⟩:=hT
 obtain⟨e',h1',i',z',g1,g2,g3⟩:=hz
 rw[h1] at h1'; cases h1'
 rw[h2] at g1; cases g1
 rw[h5] at g2; cases g2
 have e1:=ev_lit hG hx (fun k hk=>hsame.1 k (by simp[hk]))
 have e2:=ev_lit hG hy (fun k hk=>hsame.1 k (by simp[hk]))
 have hrun:=run_make (P:=P) w T e i z h1 h2 h5 k k' n m h0 hnm (by rw[h4]; exact hb) (by omega)
 have hzc:RepC (Nof κ st' G w) w p z.cells.toList []:=by
  have:=cc_ (g3 (Nof κ st' G w) w G.hd)
  simpa[RepCV] using this
 have hl:(List.replicate n.toNat p).length=n.toNat:=by simp
 have hmc:(madeCells z.cells (m.toNat*i.size)).toList=(List.replicate m.toNat z.cells.toList).flatten:=by rw[h3,← h6]; exact mCe_ (by omega) _
 have hnm':n.toNat≤m.toNat:=by omega
 have htake:((List.replicate m.toNat z.cells.toList).flatten).take (n.toNat*sz)=(List.replicate n.toNat z.cells.toList).flatten:=by
  have:m.toNat=n.toNat+(m.toNat-n.toNat):=by omega
  rw[this,← List.replicate_append_replicate,List.flatten_append]
  have hlen:((List.replicate n.toNat z.cells.toList).flatten).length=n.toNat*sz:=by simp[h6]
  rw[← hlen]; exact List.take_left
 obtain⟨f1,f2,f3⟩:=rnR_ (cap:=m.toNat) (e:=e) (sz:=sz) (D:=[]) (cs:=(madeCells z.cells (m.toNat*i.size)).toList) hG (by simp) (by simp) (by simpa[fps] using rCr_ hzc n.toNat) (fun q hq=>by rw[(List.mem_replicate.1 hq).2]; exact hp)
  (by rw[hl,hmc,htake]) (by simp[size_madeCells,h3]) (by rw[hl]; exact hnm') (by simp only[maxLen]; omega)
 rw[hl] at f1
 refine⟨_,_,_,?_,kXa_,f2,f3,f1⟩
 simp[execOp,hop,e1,e2,hrun]

theorem rar_{P:Program}(w:World)(t ty e e':TypeId)(i:TypeInfo)(ht:P.underlying t=some (.slice e))(hi:P.info? e=some i)
 (g sLen sCap:Nat) (cur:Array Value) (hg:w.heap[g]?=some (.cells cur e' (0,0))) (ax:Option Addr) (m c:Nat) (news:List Value)
 (hf:(Builtin.firstCells i.size m (.slice ax m c)).run P w=.ok news.toArray w) (h1:∀ u∈news,u.oneCell'=true) (hroom:sLen+m≤sCap) (hfit:sLen*i.size+news.length≤cur.size):
 (Builtin.append_ #[t,t] ty #[.slice (some ⟨g,0,none⟩) sLen sCap,.slice ax m c]).run P w=
  .ok (.slice (some ⟨g,0,none⟩) (sLen+m) sCap) (w.setRow g (cur.toList.take (sLen*i.size)++news++cur.toList.drop (sLen*i.size+news.length)).toArray):=by
 have hst:=run_storeCells_at P g (sLen*i.size) e' news 0 cur w hg (by simpa using hfit) h1
 simp only[Nat.add_zero] at hst
 simp[Builtin.append_,run_underlying ht,sizeOf,typeInfo,hi,Builtin.lenOf,hroom,hf,Addr.add_lit,hst]

theorem rag_{P:Program}(w:World)(t ty e:TypeId)(i:TypeInfo)(z:Value)(ht:P.underlying t=some (.slice e))(hi:P.info? e=some i)(hz:i.zero=some z)
 (ab:Option Addr) (sLen sCap:Nat) (olds:List Value) (hfo:(Builtin.firstCells i.size sLen (.slice ab sLen sCap)).run P w.drew=.ok olds.toArray w.drew)
 (ax:Option Addr) (n c:Nat) (news:List Value) (hf:(Builtin.firstCells i.size n (.slice ax n c)).run P w.drew=.ok news.toArray w.drew)
 (hg:sCap<sLen+n) (h63:((sLen+n:Nat):Int)≤9223372036854775807) (hfit:Builtin.nextslicecap (sLen+n) sCap*i.bytes≤281474976710656):
 (Builtin.append_ #[t,t] ty #[.slice ab sLen sCap,.slice ax n c]).run P w=
  .ok (.slice (some ⟨w.heap.size,0,none⟩) (sLen+n) (grownCap w (sLen+n) sCap e))
   (w.drew.alloc (.cells (olds.toArray++news.toArray++Builtin.zeroCells z.cells (grownCap w (sLen+n) sCap e-(sLen+n))) e)):=by
 have hn:¬ (sLen+n≤sCap):=by omega
 have h63':¬ (9223372036854775807<((sLen:Int)+(n:Int))):=by omega
 have h48':¬ (281474976710656<Builtin.nextslicecap (sLen+n) sCap*i.bytes):=by omega
 simp[Builtin.append_,run_underlying ht,sizeOf,typeInfo,zeroValue,hi,hz,Builtin.lenOf,hn,h63',h48',Question.forced,hf,hfo,newRow,grownCap]
 congr 2
 apply Array.ext'
 simp[ba]

def srcOf(st:St):SlotV→Option (List Nat×Nat×List PV)
 | .val (.own c)=>match st.o c with
  | some (sz,es)=>some ([c],sz,es)
  | none=>none
 | .val (.pv (.sl false sz es))=>some ([],sz,es)
 | .val (.pv (.sl true sz []))=>some ([],sz,[])
 | _=>none

def baseOf(st:St):SlotV→Option (List Nat×Nat×List PV)
 | .val (.own c)=>match st.o c with
  | some (sz,es)=>some ([c],sz,es)
  | none=>none
 | .val (.pv (.sl true sz []))=>some ([],sz,[])
 | _=>none

theorem rfC_{P:Program}{size n:Nat}{c:Nat}(w:World):(Builtin.firstCells size n (.slice none n c)).run P w=.ok #[] w:=rfl

theorem src_ok{κ:Ctx}{G:Gh}{st:St}{a:Act}{w:World}{P:Program}{sv:SlotV}{v:Value}{D:List Nat}{sz:Nat}{es:List PV}(hG:RG κ G st a w)(hsv:SlotOk (Nof κ st G w) w G 0 v sv)(h:srcOf st sv=some (D,sz,es))(hsz:∀ e∈es,PV.size e=sz):
 ∃ ax cap ccs F,v=.slice ax es.length cap∧RepCs (Nof κ st G w) w es ccs F∧(∀ b∈F,b∈fps G.fp D)∧F.Nodup∧(∀ c∈D,(st.o c).isSome=true)∧D.Nodup∧(es=[]→ccs=[])∧
  ∀ w',(∀ b,b<w.heap.size→w'.heap[b]?=w.heap[b]?)→(Builtin.firstCells sz es.length v).run P w'=.ok ccs.toArray w':=by
 unfold srcOf at h
 split at h
 ·rename_i c
  split at h
  ·rename_i sz' es' ho
   simp only[Option.some.injEq,Prod.mk.injEq] at h
   obtain⟨rfl,rfl,rfl⟩:=h
   have hv:=sOo_ hsv
   obtain⟨h1,h2,h3⟩:=hG.objs c _ _ ho
   simp only[RepC] at h1
   rcases h1 with⟨h1,h4,h5⟩ | ⟨b,cap,cc,e,F',ccs,f1,f2,f3,f4,f5,f6,f7,f8,f9⟩
   ·simp at h1
    subst h4
    exact⟨none,0,[],[],by rw[hv,h1]; rfl,by simp[RepCs],by simp,List.nodup_nil,by simp[ho],by simp,fun _=>rfl,fun w' _=>by rw[hv,h1]; rfl⟩
   ·simp at f1
    refine⟨_,cap,ccs,F',by rw[hv,f1],f8,fun b' hb=>by simp[fps,f9,hb],(by rw[f9] at h2; exact(List.nodup_cons.1 h2).2),by simp[ho],by simp,fun h0=>?_,fun w' hw'=>?_⟩
    ·subst h0; simp only[RepCs] at f8; exact f8.1
    ·rw[hv,f1]
     have hb:b<w.heap.size:=(Array.getElem?_eq_some_iff.1 f5).1
     have hl:ccs.length=es'.length*sz':=by rw[bD _ _ _ f8,Psc_ f4]
     refine run_firstCells_some (P:=P) w' sz' es'.length ⟨b,0,none⟩ _ cap ccs hl (fun j u hu=>?_)
     rw[ao_ _ _ rfl]
     rw[← f7,List.getElem?_take] at hu
     split at hu
     ·simpa[World.cell?,hw' b hb,f5] using hu
     ·cases hu
  ·cases h
 ·rename_i sz' es'
  simp only[Option.some.injEq,Prod.mk.injEq] at h
  obtain⟨rfl,rfl,rfl⟩:=h
  rcases hsv with⟨h1,_⟩ | ⟨_,h1,_⟩
  ·simp[CV.isAgg] at h1
  simp only[RepCV,RepC] at h1
  obtain⟨ax,cap,g1,_,g3,g4,g5,g6⟩:=h1
  simp at g1
  rcases g6 with rfl | ⟨ad,ccs,rfl,f2,f3,f4,f5⟩
  ·refine⟨ax,cap,[],[],g1,by simp[RepCs],by simp,List.nodup_nil,by simp,by simp,fun _=>rfl,fun w' _=>?_⟩
   rw[g1]
   cases ax with
   | none=>rfl
   | some ad=>exact run_firstCells_some (P:=P) w' sz' 0 ad 0 cap [] (by simp) (by simp)
  ·refine⟨some ad,cap,ccs,[],g1,f5,by simp,List.nodup_nil,by simp,by simp,fun h0=>?_,fun w' hw'=>?_⟩
   ·subst h0; simp only[RepCs] at f5; exact f5.1
   ·rw[g1]
    have hb:ad.block<w.heap.size:=f3.lt hG
    have hl:ccs.length=es'.length*sz':=by rw[bD _ _ _ f5,Psc_ g5]
    refine run_firstCells_some (P:=P) w' sz' es'.length ad _ cap ccs hl (fun j u hu=>?_)
    rw[ao_ _ _ f2]
    have:=f4 j u hu
    simpa[World.cell?,hw' ad.block hb] using this
 ·rename_i sz'
  simp only[Option.some.injEq,Prod.mk.injEq] at h
  obtain⟨rfl,rfl,rfl⟩:=h
  rcases hsv with⟨h1,_⟩ | ⟨_,h1,_⟩
  ·simp[CV.isAgg] at h1
  simp only[RepCV,RepC] at h1
  rcases h1 with⟨h1,_,_⟩ | ⟨b,cap,c,e,F',ccs,_,_,_,_,_,_,_,_,h9⟩
  ·simp at h1
   exact⟨none,0,[],[],h1,by simp[RepCs],by simp,List.nodup_nil,by simp,by simp,fun _=>rfl,fun w' _=>by rw[h1]; rfl⟩
  ·simp at h9
 ·cases h

theorem sOo_1{st:St}{sv:SlotV}{r:List Nat×Nat×List PV}(h:baseOf st sv=some r):srcOf st sv=some r:=by
 unfold baseOf at h
 unfold srcOf
 split at h<;>first | exact h | cases h

theorem bo_{κ:Ctx}{G:Gh}{st:St}{a:Act}{w:World}{sv:SlotV}{v:Value}{D:List Nat}{sz:Nat}{es:List PV}(hG:RG κ G st a w)(hsv:SlotOk (Nof κ st G w) w G 0 v sv)(h:baseOf st sv=some (D,sz,es)):
 (v=.slice none 0 0∧es=[])∨∃ c b cap cc e F' ccs,D=[c]∧st.o c=some (sz,es)∧v=.slice (some ⟨b,0,none⟩) es.length cap∧es.length≤cap∧cap≤maxLen∧(∀ e∈es,PV.size e=sz)∧w.heap[b]?=some (.cells cc e (0,0))∧
  cc.size=cap*sz∧cc.toList.take (es.length*sz)=ccs∧RepCs (Nof κ st G w) w es ccs F'∧G.fp c=b::F':=by
 unfold baseOf at h
 split at h
 ·rename_i c
  split at h
  ·rename_i sz' es' ho
   simp only[Option.some.injEq,Prod.mk.injEq] at h
   obtain⟨rfl,rfl,rfl⟩:=h
   have hv:=sOo_ hsv
   obtain⟨h1,h2,h3⟩:=hG.objs c _ _ ho
   simp only[RepC] at h1
   rcases h1 with⟨h1,h4,h5⟩ | ⟨b,cap,cc,e,F',ccs,f1,f2,f3,f4,f5,f6,f7,f8,f9⟩
   ·simp at h1
    exact .inl ⟨by rw[hv,h1],h4⟩
   ·simp at f1
    exact .inr ⟨c,b,cap,cc,e,F',ccs,rfl,ho,by rw[hv,f1],f2,f3,f4,f5,f6,f7,f8,f9⟩
  ·cases h
 ·rename_i sz'
  simp only[Option.some.injEq,Prod.mk.injEq] at h
  obtain⟨rfl,rfl,rfl⟩:=h
  rcases hsv with⟨h1,_⟩ | ⟨_,h1,_⟩
  ·simp[CV.isAgg] at h1
  simp only[RepCV,RepC] at h1
  rcases h1 with⟨h1,_,_⟩ | ⟨b,cap,c,e,F',ccs,_,_,_,_,_,_,_,_,h9⟩
  ·simp at h1; exact .inl ⟨h1,rfl⟩
  ·simp at h9
 ·cases h

theorem szC_(z:Array Value)(n:Nat):(Builtin.zeroCells z n).size=n*z.size:=by simp[Builtin.zeroCells]

theorem bOc_{st st':St}{sv:SlotV}{D:List Nat}{sz:Nat}{es:List PV}(h:baseOf st sv=some (D,sz,es))(hs:∀ c∈D,st'.o c=st.o c):baseOf st' sv=some (D,sz,es):=by
 unfold baseOf at h ⊢
 split at h
 ·rename_i c
  split at h
  ·rename_i sz' es' ho
   simp only[Option.some.injEq,Prod.mk.injEq] at h
   obtain⟨rfl,rfl,rfl⟩:=h
   simp[hs c (by simp),ho]
  ·cases h
 ·exact h
 ·cases h
theorem sOc_{st st':St}{sv:SlotV}{D:List Nat}{sz:Nat}{es:List PV}(h:srcOf st sv=some (D,sz,es))(hs:∀ c∈D,st'.o c=st.o c):srcOf st' sv=some (D,sz,es):=by
 unfold srcOf at h ⊢
 split at h
 ·rename_i c
  split at h
  ·rename_i sz' es' ho
   simp only[Option.some.injEq,Prod.mk.injEq] at h
   obtain⟨rfl,rfl,rfl⟩:=h
   simp[hs c (by simp),ho]
  ·cases h
 ·exact h
 ·exact h
 ·cases h
theorem sl_6{st:St}{sv:SlotV}{D:List Nat}{sz:Nat}{es:List PV}(h:srcOf st sv=some (D,sz,es)):∀ c∈D,(st.o c).isSome=true:=by
 unfold srcOf at h
 split at h
 ·rename_i c
  split at h
  ·rename_i sz' es' ho
   simp only[Option.some.injEq,Prod.mk.injEq] at h
   obtain⟨rfl,rfl,rfl⟩:=h
   simp[ho]
  ·cases h
 ·cases h; simp
 ·cases h; simp
 ·cases h

theorem va_1{P:Program}{nt:Nat}{o:Oper}{st:St}{d c sz bytes:Nat}{T:TypeId}{x y:Operand}{D1 D2:List Nat}{es ys:List PV}(hop:o.op=.call { callee:=.builtin .append,args:=#[x,y],argTypes:=#[T,T] })(hdst:o.dst=some d)(hd:d<nt)
 (hT:SlIs P T sz bytes) (hx:baseOf st (ev P st T x)=some (D1,sz,es)) (hy:srcOf st (ev P st T y)=some (D2,sz,ys)) (hnd:(D1++D2).Nodup) (hes:∀ e∈es,PV.size e=sz) (hys:∀ e∈ys,PV.size e=sz)
 (hb:(es.length+ys.length)*bytes≤140737488355328) (hmax:es.length+ys.length≤1099511627776):
 Valid P nt o st { rs:=rd x++rd y,ro:=D1++D2,fc:=(rO_ (.sl true sz (es++ys)) c).map (·.1),us:=[(d,resSV (.sl true sz (es++ys)) c)],uo:=deadObjs (D1++D2)++newObjs (rO_ (.sl true sz (es++ys)) c) }:=by
 have hlive:∀ n∈D1++D2,(st.o n).isSome=true:=by
  intro n hn
  rcases List.mem_append.1 hn with hn | hn
  ·exact sl_6 (sOo_1 hx) n hn
  ·exact sl_6 hy n hn
 refine vr_ hdst hd hlive (fun _ h=>h) ?_
 intro κ G st' a w hnt hsame hG
 obtain⟨e,i,z,h1,h2,h3,h4,h5,h6,h7⟩:=hT
 have hvx:=ev_ok (P:=P) (T:=T) hG x 0
 rw[ec_ (fun k hk=>hsame.1 k (by simp[hk]))] at hvx
 have hvy:=ev_ok (P:=P) (T:=T) hG y 0
 rw[ec_ (fun k hk=>hsame.1 k (by simp[hk]))] at hvy
 have hx':=bOc_ hx (fun c hc=>hsame.2 c (by simp[hc]))
 have hy':=sOc_ hy (fun c hc=>hsame.2 c (by simp[hc]))
 have hlive':∀ n∈D1++D2,(st'.o n).isSome=true:=fun n hn=>by rw[hsame.2 n hn]; exact hlive n hn
 obtain⟨ax,capx,ccx,Fx,k1,k2,k3,k4,k5,k6,k7,k8⟩:=src_ok (P:=P) hG hvx (sOo_1 hx') hes
 obtain⟨ay,capy,ccy,Fy,m1,m2,m3,m4,m5,m6,m7,m8⟩:=src_ok (P:=P) hG hvy hy' hys
 have hlx:ccx.length=es.length*sz:=by rw[bD _ _ _ k2,Psc_ hes]
 have hly:ccy.length=ys.length*sz:=by rw[bD _ _ _ m2,Psc_ hys]
 have hwhole:=RepCs.append _ _ _ _ _ _ k2 m2
 have hsub:∀ b∈Fx++Fy,b∈fps G.fp (D1++D2):=by
  intro b hb; rw[fa_]
  rcases List.mem_append.1 hb with hb | hb
  ·exact List.mem_append.2 (.inl (k3 b hb))
  ·exact List.mem_append.2 (.inr (m3 b hb))
 have hfpn:=fn_1 hG (D1++D2) hnd hlive'
 have hFn:(Fx++Fy).Nodup:=by
  rw[fa_] at hfpn
  refine List.nodup_append.2 ⟨k4,m4,fun p hp q hq e=>?_⟩
  exact(List.nodup_append.1 hfpn).2.2 p (k3 p hp) q (m3 q hq) e
 have hlt:∀ b∈fps G.fp (D1++D2),b<w.heap.size:=by
  intro b hb
  obtain⟨c,hc,hm⟩:=mf_.1 hb
  obtain⟨p,hp⟩:=Option.isSome_iff_exists.1 (hlive' c hc)
  exact((hG.objs c p.1 p.2 hp).2.2 b hm).2
 have hsz2:∀ p∈es++ys,PV.size p=sz:=fun p hp=>(List.mem_append.1 hp).elim (hes p) (hys p)
 have hexec:∀ r,(Builtin.append_ #[T,T] o.type #[a.eval x,a.eval y]).run P w=r→(execOp a.eval o).run P w=r.andThen fun v w'=>.ok (.value v) w':=by
  intro r hr; subst hr
  simp[execOp,hop,resolve,invoke,builtin]
 have grow:capx<es.length+ys.length→∃ v w' F,(execOp a.eval o).run P w=.ok (.value v) w'∧KeepX (fps G.fp (D1++D2)) w.heap.size w w'∧(∀ b∈F,(w.heap.size≤b∨b∈fps G.fp (D1++D2))∧b<w'.heap.size)∧F.Nodup∧RepR (Nof κ st' G w) w' (.sl true sz (es++ys)) v F:=by
  intro hg
  have hdrew:∀ b,b<w.heap.size→w.drew.heap[b]?=w.heap[b]?:=fun _ _=>rfl
  have hfo:=k8 w.drew hdrew
  have hf:=m8 w.drew hdrew
  rw[k1,← h3] at hfo
  rw[m1,← h3] at hf
  have hr:=rag_ (P:=P) w T o.type e i z h1 h2 h5 ax es.length capx ccx hfo ay ys.length capy ccy hf hg (by omega) (growslice_fits hg (by rw[h4]; exact hb))
  rw[← k1,← m1] at hr
  have hcap:=grownCap_le_maxLen w (es.length+ys.length) capx e (by simp only[maxLen]; omega)
  have hge:=grownCap_ge w (es.length+ys.length) capx e
  have hr':=hexec _ hr
  rw[Result.andThen_ok] at hr'
  refine⟨_,_,w.heap.size::(Fx++Fy),hr',⟨rfl,rfl,rfl,by simp,fun k hk _=>hpl_ (w:=w.drew) hk⟩,?_,?_,?_⟩
  ·intro b hb
   rcases List.mem_cons.1 hb with rfl | hb
   ·exact⟨.inl (Nat.le_refl _),by simp⟩
   ·exact⟨.inr (hsub b hb),by have:=hlt b (hsub b hb); simp; omega⟩
  ·rw[List.nodup_cons]
   exact⟨fun hm=>by have:=hlt _ (hsub _ hm); omega,hFn⟩
  ·refine rRs_ ?_
   simp only[RepC]
   refine .inr ⟨w.heap.size,_,_,e,Fx++Fy,ccx++ccy,by rw[aY],by rw[aY]; exact hge,hcap,hsz2,hpe_ (w:=w.drew),?_,?_,?_,rfl⟩
   ·simp only[Array.size_append,List.size_toArray,szC_,h6,hlx,hly,← Nat.add_mul]; congr 1; omega
   ·have hl:(es++ys).length*sz=(ccx++ccy).length:=by rw[aY,aY,hlx,hly,Nat.add_mul]
    rw[hl]
    simp only[Array.toList_append,List.toList_toArray]
    exact List.take_left
   ·have hfr:∀ (o:Obj) b,b<w.heap.size→(w.drew.alloc o).heap[b]?=w.heap[b]?:=fun o b hb=>hpl_ (w:=w.drew) hb
    exact RepCs.frame (w:=w) (fun _ h=>h) (fun b hb=>hfr _ b (hb.lt hG)) _ _ _ (fun b hb=>hfr _ b (hlt b (hsub b hb))) hwhole
 rcases bo_ hG hvx hx' with⟨g1,g2⟩ | ⟨cn,b,cap,cc,e',F',ccs,rfl,g2,g3,g4,g5,g6,g7,g8,g9,g10,g11⟩
 ·-- nil
  subst g2
  rw[g1] at k1
  simp at k1
  obtain⟨rfl,rfl⟩:=k1
  by_cases hys0:ys=[]
  ·subst hys0
   have hccy:=m7 rfl
   subst hccy
   refine⟨.slice none 0 0,w,[],?_,KeepX.refl _ _ _,by simp,List.nodup_nil,rRs_ (by simp[RepC])⟩
   rw[hexec (.ok (.slice none 0 0) w)]
   ·rfl
   ·rw[g1,m1]
    have hf:=m8 w (fun _ _=>rfl)
    rw[m1] at hf
    simp only[List.length_nil] at hf ⊢
    simp[Builtin.append_,run_underlying h1,sizeOf,typeInfo,h2,h3,Builtin.lenOf,hf]
  ·exact grow (by have:=List.length_pos_iff.2 hys0; simp; omega)
 ·rw[g3] at k1
  simp at k1
  obtain⟨rfl,rfl⟩:=k1
  by_cases hroom:es.length+ys.length≤cap
  ·-- in place
   have hf:=m8 w (fun _ _=>rfl)
   rw[m1,← h3] at hf
   have hfit:es.length*i.size+ccy.length≤cc.size:=by rw[h3,hly,g8,← Nat.add_mul]; exact Nat.mul_le_mul_right _ hroom
   have hr:=rar_ (P:=P) w T o.type e e' i h1 h2 b es.length cap cc g7 ay ys.length capy ccy hf (RepCs.one _ _ _ m2) hroom hfit
   rw[← g3,← m1] at hr
   have hbfp:b∈G.fp cn:=by rw[g11]; simp
   have hother:∀ k,k≠b→(w.setRow b (cc.toList.take (es.length*i.size)++ccy++cc.toList.drop (es.length*i.size+ccy.length)).toArray).heap[k]?=w.heap[k]?:=fun k hk=>setRow_other w _ _ _ hk
   have hNb:∀ k,Nof κ st' G w k→k≠b:=fun k hk e=>hk.2 (.inr ⟨cn,_,g2,e▸hbfp⟩)
   have hcn:(G.fp cn).Nodup:=(hG.objs cn _ _ g2).2.1
   rw[g11] at hcn
   have hF'b:=(List.nodup_cons.1 hcn).1
   have hFyb:b∉fps G.fp D2:=by
    rw[fa_] at hfpn
    intro hm
    exact(List.nodup_append.1 hfpn).2.2 b (by simp[fps,g11]) b hm rfl
   have hFn':(F'++Fy).Nodup:=by
    rw[fa_] at hfpn
    refine List.nodup_append.2 ⟨(List.nodup_cons.1 hcn).2,m4,fun p hp q hq e=>?_⟩
    exact(List.nodup_append.1 hfpn).2.2 p (by simp[fps,g11,hp]) q (m3 q hq) e
   have hr':=hexec _ hr
   rw[Result.andThen_ok] at hr'
   refine⟨_,_,b::(F'++Fy),hr',⟨rfl,rfl,rfl,by simp[World.setRow],fun k hk hkL=>hother k (fun e=>hkL (by rw[fa_]; simp[fps,g11,e]))⟩,?_,?_,?_⟩
   ·intro k hk
    have hk':k∈fps G.fp ([cn]++D2):=by
     rw[fa_]
     rcases List.mem_cons.1 hk with rfl | hk
     ·simp[fps,g11]
     ·rcases List.mem_append.1 hk with hk | hk
      ·simp[fps,g11,hk]
      ·exact List.mem_append.2 (.inr (m3 k hk))
    exact⟨.inr hk',by have:=hlt k hk'; simpa[World.setRow] using this⟩
   ·rw[List.nodup_cons]
    refine⟨fun hm=>?_,hFn'⟩
    rcases List.mem_append.1 hm with hm | hm
    ·exact hF'b hm
    ·exact hFyb (m3 b hm)
   ·refine rRs_ ?_
    simp only[RepC]
    have hframe:∀ {ps:List PV} {cs:List Value} {F:List Nat},b∉F→RepCs (Nof κ st' G w) w ps cs F→RepCs (Nof κ st' G w) (w.setRow b (cc.toList.take (es.length*i.size)++ccy++cc.toList.drop (es.length*i.size+ccy.length)).toArray) ps cs F:=
     fun hbF h=>RepCs.frame (fun _ h=>h) (fun k hk=>hother k (hNb k hk)) _ _ _ (fun k hk=>hother k (fun e=>hbF (e▸hk))) h
    have hw2:=RepCs.append _ _ _ _ _ _ (hframe hF'b g10) (hframe (fun hm=>hFyb (m3 b hm)) m2)
    refine .inr ⟨b,cap,_,e',F'++Fy,ccs++ccy,by rw[aY],by rw[aY]; exact hroom,g5,hsz2,setRow_heap w _ _ _ _ _ g7,?_,?_,hw2,rfl⟩
    ·simp only[List.size_toArray,aY,List.length_take,List.length_drop,Array.length_toList]
     omega
    ·have hccs:ccs.length=es.length*sz:=by rw[bD _ _ _ g10,Psc_ g6]
     have hl:(es++ys).length*sz=(ccs++ccy).length:=by rw[aY,aY,hccs,hly,Nat.add_mul]
     rw[hl,h3,g9]
     simp only[List.toList_toArray]
     exact List.take_left
  ·exact grow (by omega)

def OptIs(P:Program)(st:St)(dflt m:Nat):Option Operand→Prop
 | none=>m=dflt
 | some y=>∃ k n,ev P st 0 y=.val (.pv (.lit (.int k n)))∧n=(m:Int)

theorem vsv_{P:Program}{nt:Nat}{o:Oper}{st:St}{d sz bytes:Nat}{x:Operand}{lo hi:Option Operand}{T T1:TypeId}{b:Bool}{es:List PV}{l h:Nat}(hop:o.op=.slice T x lo hi none)(hdst:o.dst=some d)(hd:d<nt)
 (hT:SlIs P T sz bytes) (hx:ev P st T1 x=.val (.pv (.sl b sz es))) (hlo:OptIs P st 0 l lo)
 (hhi:OptIs P st es.length h hi) (hlh:l≤h) (hhl:h≤es.length):
 Valid P nt o st { rs:=rd x++(lo.toList.flatMap rd++hi.toList.flatMap rd),us:=[(d,.val (.pv (.sl false sz ((es.take h).drop l))))] }:=by
 refine vp_ hdst hd rfl ?_
 intro κ G st' a w hnt hsame hG
 obtain⟨e,i,z,t1,t2,t3,_⟩:=hT
 have h1:=ev_ok (P:=P) (T:=T1) hG x d
 rw[ec_ (fun k hk=>hsame.1 k (by simp[hk])),hx] at h1
 rcases h1 with⟨h1,_⟩ | ⟨_,h1,_⟩
 ·simp[CV.isAgg] at h1
 simp only[RepCV] at h1
 have hdem:=RepC.demote (fun _ h=>h) _ _ _ (by simp) h1
 have key:∃ ax cap,a.eval x=.slice ax es.length cap∧es.length≤cap∧cap≤maxLen∧(∀ e∈es,PV.size e=sz)∧(es=[]∨∃ ad ccs,ax=some ad∧ad.spot=none∧Nof κ st' G w ad.block∧RowAt w ad ccs∧RepCs (Nof κ st' G w) w es ccs []):=by
  cases b with
  | false=>
   simp only[RepC] at h1
   obtain⟨ax,cap,g1,_,g3,g4,g5,g6⟩:=h1
   simp at g1
   exact⟨ax,cap,g1,g3,g4,g5,g6⟩
  | true=>
   simp only[RepC] at h1
   rcases h1 with⟨g1,g2,_⟩ | ⟨b,cap,c,e,F',ccs,_,_,_,_,_,_,_,_,h9⟩
   ·simp at g1; subst g2
    exact⟨none,0,g1,by simp,by simp,by simp,.inl rfl⟩
   ·simp at h9
 obtain⟨ax,cap,g1,g3,g4,g5,g6⟩:=key
 have elo:∃ lv:Option Value,lo.map a.eval=lv∧(match lv with | none=>l=0 | some v=>∃ k,v=.int k (l:Int)):=by
  cases lo with
  | none=>exact⟨none,rfl,hlo⟩
  | some y=>
   obtain⟨k,n,e1,rfl⟩:=hlo
   exact⟨_,rfl,k,ev_lit hG e1 (fun k hk=>hsame.1 k (by simp[hk]))⟩
 have ehi:∃ hv:Option Value,hi.map a.eval=hv∧(match hv with | none=>h=es.length | some v=>∃ k,v=.int k (h:Int)):=by
  cases hi with
  | none=>exact⟨none,rfl,hhi⟩
  | some y=>
   obtain⟨k,n,e1,rfl⟩:=hhi
   exact⟨_,rfl,k,ev_lit hG e1 (fun k hk=>hsame.1 k (by simp[hk]))⟩
 obtain⟨lv,e1,e2⟩:=elo
 obtain⟨hv,e3,e4⟩:=ehi
 have hlb:(Instr.sliceBounds true es.length cap lv hv none).run P w=.ok (l,h,cap) w:=by
  have hc:¬ cap<h:=by omega
  have hl':¬ h<l:=by omega
  have hc1:h≤cap:=by omega
  cases lv with
  | none=>
   simp only at e2; subst e2
   cases hv with
   | none=>simp only at e4; subst e4; simp[Instr.sliceBounds]
   | some v=>obtain⟨k,rfl⟩:=e4; simp[Instr.sliceBounds,Instr.sliceBound,asIntOf,hc,hc1]
  | some u=>
   obtain⟨k',rfl⟩:=e2
   cases hv with
   | none=>simp only at e4; subst e4; simp[Instr.sliceBounds,Instr.sliceBound,asIntOf,hl',hlh]
   | some v=>obtain⟨k,rfl⟩:=e4; simp[Instr.sliceBounds,Instr.sliceBound,asIntOf,hc,hl',hc1,hlh]
 have hrun:(execOp a.eval o).run P w=.ok (.value (.slice (if cap=l then ax else ax.map (·.add (l*sz))) (h-l) (cap-l))) w:=by
  simp[execOp,hop,Instr.sliceAt,run_underlying t1,Instr.slice,g1,e1,e3,hlb,sizeOf,typeInfo,t2,t3]
 refine⟨_,hrun,.inr ⟨rfl,?_,rfl⟩⟩
 simp only[RepCV,RepC]
 have hlen:((es.take h).drop l).length=h-l:=by simp[Nat.min_eq_left hhl]
 refine⟨_,cap-l,by rw[hlen],trivial,by rw[hlen]; omega,by omega,fun q hq=>g5 q (List.mem_of_mem_take (List.mem_of_mem_drop hq)),?_⟩
 by_cases hempty:(es.take h).drop l=[]
 ·exact .inl hempty
 right
 rcases g6 with rfl | ⟨ad,ccs,rfl,f2,f3,f4,f5⟩
 ·simp at hempty
 have hlt:l<h:=by
  rcases Nat.lt_or_ge l h with h' | h'
  ·exact h'
  ·exact absurd (List.eq_nil_of_length_eq_zero (by rw[hlen]; omega)) hempty
 have hne:¬ cap=l:=by omega
 rw[if_neg hne]
 have hsp:es=es.take l++((es.take h).drop l++es.drop h):=by
  have h1:=List.take_append_drop h es
  have h2:=List.take_append_drop l (es.take h)
  rw[List.take_take,Nat.min_eq_left hlh] at h2
  rw[← ba,h2,h1]
 rw[hsp] at f5
 obtain⟨c1,c2,F1,F2,k1,k2,k3,k4⟩:=RepCs.split _ _ _ _ f5
 obtain⟨c3,c4,F3,F4,k5,k6,k7,k8⟩:=RepCs.split _ _ _ _ k4
 have hF3:F3=[]:=by
  have:=congrArg List.length k2; rw[k6] at this; simp at this; exact List.eq_nil_of_length_eq_zero (by omega)
 subst hF3
 have hl1:c1.length=l*sz:=by rw[bD _ _ _ k3,st_ g5 (by omega)]
 refine⟨⟨ad.block,ad.off+l*sz,none⟩,c3,by simp[ao_ _ _ f2],rfl,f3,?_,k7⟩
 rw[k1,k5,← ba] at f4
 have:=f4.sub
 rwa [hl1] at this

theorem vis_{P:Program}{nt:Nat}{o:Oper}{st:St}{d:Nat}{x y:Operand}{T T1 T2:TypeId}{s:ByteArray}{k:IntKind}{n:Int}(hop:o.op=.index T x y)(hdst:o.dst=some d)(hd:d<nt)
 (hT:P.underlying T=some .string) (hx:ev P st T1 x=.val (.pv (.lit (.string s)))) (hy:ev P st T2 y=.val (.pv (.lit (.int k n)))) (h0:0≤n) (hl:n<s.size):
 Valid P nt o st { rs:=rd x++rd y,us:=[(d,.val (.pv (.lit (.int .u8 ((s.data.toList.getD n.toNat 0).toNat:Int)))))] }:=by
 refine vp_ hdst hd rfl ?_
 intro κ G st' a w hnt hsame hG
 have e1:=ev_lit hG hx (fun k hk=>hsame.1 k (by simp[hk]))
 have e2:=ev_lit hG hy (fun k hk=>hsame.1 k (by simp[hk]))
 have hi:n.toNat<s.size:=by omega
 refine⟨.int .u8 ((s.data.toList.getD n.toNat 0).toNat:Int),?_,sOl_ rfl⟩
 have hg:s[n.toNat]?=some (s.data.toList.getD n.toNat 0):=by
  have:n.toNat<s.data.size:=hi
  rw[getElem?_pos s n.toNat hi]
  have e:s.data[n.toNat]?=some s.data[n.toNat]:=Array.getElem?_eq_getElem this
  simp[List.getD,ByteArray.getElem_eq_getElem_data,e]
 simp[execOp,hop,e1,e2,Instr.index,asIntOf,run_underlying hT,h0,hg]

theorem Rf_{κ:Ctx}{G:Gh}{st:St}{a:Act}{w:World}{r:Nat}{x:CV}(h:RG κ G st a w)(hr:st.s r=.box x)(hp:x.pure=true):RG κ G (st.set r (.val (.pv (.ptr (x.pvw st.o))))) a w:=by
 have hbr:isBox (st.s r)=true:=by rw[hr]; rfl
 have h2:=h.slots r
 rw[hr] at h2
 obtain⟨hp0,cs,e,h3,h4⟩:=h2
 have hrn:r<κ.nt:=by
  rcases Nat.lt_or_ge r κ.nt with h' | h'
  ·exact h'
  ·rw[Array.getD_eq_getD_getElem?,Array.getElem?_eq_none (by rw[h.nt]; exact h')] at hp0
   simp[undef] at hp0
 have hput:a=a.put (some r) (a.tmps.getD r undef):=by
  have hlt:r<a.tmps.size:=by rw[h.nt]; exact hrn
  cases a with
  | mk t ds=>
   simp only[Act.put,Act.mk.injEq,and_true]
   apply Array.ext_getElem?
   intro i
   rw[Array.getElem?_setIfInBounds]
   split
   ·rename_i hi; subst hi; simp[Array.getD_eq_getD_getElem?]
   ·rfl
 have hbox:∀ k,isBox ((st.set r (.val (.pv (.ptr (x.pvw st.o))))).s k)=true→isBox (st.s k)=true∧k≠r:=by
  intro k hk
  simp only[St.set,upd] at hk
  split at hk
  ·cases hk
  ·exact⟨hk,by assumption⟩
 have hN:∀ b,Nof κ st G w b→Nof κ (st.set r (.val (.pv (.ptr (x.pvw st.o))))) G w b:=by
  intro b hb
  refine⟨hb.1,fun hp=>hb.2 ?_⟩
  rcases hp with⟨k,g1,g2⟩ | ⟨c,p,g1,g2⟩
  ·exact .inl ⟨k,(hbox k g1).1,g2⟩
  ·exact .inr ⟨c,p,g1,g2⟩
 have hNr:Nof κ (st.set r (.val (.pv (.ptr (x.pvw st.o))))) G w (G.ad r):=by
  have hb:=h.boxes r hbr
  refine⟨.inr hb,fun hp=>?_⟩
  rcases hp with⟨k,g1,g2⟩ | ⟨c,p,g1,g2⟩
  ·exact(hbox k g1).2 (h.bb k r (hbox k g1).1 hbr g2.symm)
  ·exact h.bo r c p hbr g1 g2
 rw[hput]
 refine h.step hrn (KeepX.refl _ _ _) hN (fun _ _=>rfl) (fun k hk=>.inl (by simp[St.set,upd,hk])) ?_ (fun _ _ _ _ _=>rfl) (fun _ _ _ _ _=>rfl) (fun _ _ _ _=>⟨rfl,rfl⟩) ?_ (fun k hk=>h.boxes k (hbox k hk).1)
  (fun k k' h1 h2=>h.bb k k' (hbox k h1).1 (hbox k' h2).1) (fun k c p h1 h2=>h.bo k c p (hbox k h1).1 h2) (fun c c' p p' h1 h2=>h.oo c c' p p' h1 h2) (fun _ _=>rfl)
 ·have:(st.set r (.val (.pv (.ptr (x.pvw st.o))))).s r=.val (.pv (.ptr (x.pvw st.o))):=by simp[St.set,upd]
  rw[this]
  refine .inr ⟨rfl,?_,by rw[hp0]; rfl⟩
  simp only[RepCV,RepC]
  refine⟨⟨G.ad r,0,none⟩,cs,by rw[hp0],trivial,rfl,hNr,?_,?_⟩
  ·have:=rAo_ (w:=w) (b:=G.ad r) (c1:=[]) (c2:=cs) (c3:=[]) (e:=e) (fr:=(0,0)) (by simpa using h3)
   simpa using this
  ·exact RepC.frame hN (fun _ _=>rfl) _ _ _ (fun _ _=>rfl) (RepCV.pureView (ob:=st.o) x cs hp h4)
 ·intro c sz es hc
  obtain⟨g1,g2,g3⟩:=h.objs c sz es hc
  exact⟨RepC.frame hN (fun _ _=>rfl) _ _ _ (fun _ _=>rfl) g1,g2,g3⟩

theorem uAo_1{α:Type}:∀ (l:List (Nat×α)) (f:Nat→α) (k:Nat),updAll f l k=f k∨(k,updAll f l k)∈l
 | [],_,_=>.inl rfl
 | (j,v)::l,f,k=>by
  simp only[updAll]
  rcases uAo_1 l (upd f j v) k with h | h
  ·by_cases hk:k=j
   ·right; rw[h]; simp[upd,hk]
   ·left; rw[h]; simp[upd,hk]
  ·exact .inr (List.mem_cons_of_mem _ h)

def capOf(st:St):Operand→Option (Nat×PV)
 | .tmp r=>match st.s r with
  | .box x=>if x.pure then some (r,x.pvw st.o) else none
  | .val (.pv (.ptr v))=>some (r,v)
  | _=>none
 | _=>none
def capsOf(st:St):List Operand→Option (List (Nat×PV))
 | []=>some []
 | x::xs=>match capOf st x,capsOf st xs with
  | some c,some cs=>some (c::cs)
  | _,_=>none
def frozen(cs:List (Nat×PV)):List (Nat×SlotV):=cs.map fun c=>(c.1,.val (.pv (.ptr c.2)))

theorem fa_1{κ:Ctx}{G:Gh}{a:Act}{w:World}:∀ (xs:List Operand) (st:St) (cs:List (Nat×PV)),RG κ G st a w→capsOf st xs=some cs→
 RG κ G { st with s:=updAll st.s (frozen cs) } a w∧∃ vals,xs.map a.eval=vals∧∀ N,(∀ b,Nof κ { st with s:=updAll st.s (frozen cs) } G w b→N b)→RepCs N w (cs.map fun c=>.ptr c.2) vals []:=by
 intro xs
 induction xs with
 | nil=>
  intro st cs hG h
  simp only[capsOf,Option.some.injEq] at h; subst h
  exact⟨hG,[],rfl,fun N _=>by simp[RepCs]⟩
 | cons x xs ih=>
  intro st cs hG h
  simp only[capsOf] at h
  split at h
  ·rename_i c cs' hc hcs
   simp only[Option.some.injEq] at h; subst h
   cases x with
   | tmp r=>
    simp only[capOf] at hc
    have key:RG κ G (st.set r (.val (.pv (.ptr c.2)))) a w∧c.1=r∧capsOf (st.set r (.val (.pv (.ptr c.2)))) xs=some cs':=by
     have hcaps:∀ ys ds,capsOf st ys=some ds→(∀ v,(st.s r=.val (.pv (.ptr v))→v=c.2)∧True)→(∀ y,st.s r=.box y→y.pvw st.o=c.2∧y.pure=true)→(st.s r≠.dead→True)→capsOf (st.set r (.val (.pv (.ptr c.2)))) ys=some ds:=by
      intro ys
      induction ys with
      | nil=>intro ds h _ _ _; exact h
      | cons y ys ihy=>
       intro ds h hv hb _
       simp only[capsOf] at h ⊢
       split at h
       ·rename_i d ds' hd hds
        rw[ihy ds' hds hv hb (fun _=>trivial)]
        have:capOf (st.set r (.val (.pv (.ptr c.2)))) y=some d:=by
         cases y with
         | tmp k=>
          simp only[capOf,St.set] at hd ⊢
          by_cases hk:k=r
          ·subst hk
           rw[us_]
           split at hd
           ·rename_i y' hy'
            rw[if_pos (hb y' hy').2] at hd
            rw[(hb y' hy').1] at hd; exact hd
           ·rename_i v hv'
            rw[(hv v).1 hv'] at hd; exact hd
           ·cases hd
          ·rw[upd_ne hk]; exact hd
         | _=>simp[capOf] at hd
        rw[this]; exact h
       ·cases h
     split at hc
     ·rename_i y hy
      split at hc
      ·rename_i hp
       simp only[Option.some.injEq] at hc
       subst hc
       exact⟨Rf_ hG hy hp,rfl,hcaps xs cs' hcs (fun v=>⟨fun e=>(by rw[hy] at e; cases e),trivial⟩) (fun y' e=>(by rw[hy] at e; cases e; exact⟨rfl,hp⟩)) (fun _=>trivial)⟩
      ·cases hc
     ·rename_i v hv
      simp only[Option.some.injEq] at hc
      subst hc
      have hsame:st.set r (.val (.pv (.ptr v)))=st:=by
       cases st; simp only[St.set,St.mk.injEq,and_true]
       funext k; simp only[upd]; split
       ·rename_i e; subst e; exact hv.symm
       ·rfl
      refine⟨by rw[hsame]; exact hG,rfl,by rw[hsame]; exact hcs⟩
     ·cases hc
    obtain⟨k1,k2,k3⟩:=key
    obtain⟨i1,vals,i2,i3⟩:=ih _ cs' k1 k3
    have hst:({ s:=updAll st.s (frozen (c::cs')),o:=st.o }:St)={ s:=updAll (st.set r (.val (.pv (.ptr c.2)))).s (frozen cs'),o:=st.o }:=by
     simp only[frozen,aM,updAll,k2]; rfl
    have hst':({ st.set r (.val (.pv (.ptr c.2))) with s:=updAll (st.set r (.val (.pv (.ptr c.2)))).s (frozen cs') }:St)={ s:=updAll st.s (frozen (c::cs')),o:=st.o }:=by rw[hst]; rfl
    rw[hst'] at i1 i3
    refine⟨i1,a.tmps.getD r undef::vals,by simp[i2,Act.eval],fun N hN=>?_⟩
    simp only[aM,RepCs]
    refine⟨[a.tmps.getD r undef],vals,[],[],rfl,rfl,?_,i3 N hN⟩
    have hslot:=i1.slots r
    have hsr:updAll st.s (frozen (c::cs')) r=.val (.pv (.ptr c.2))∨∃ v,updAll st.s (frozen (c::cs')) r=.val (.pv (.ptr v))∧v=c.2:=by
     rw[show updAll st.s (frozen (c::cs')) r=updAll (st.set r (.val (.pv (.ptr c.2)))).s (frozen cs') r from by simp only[frozen,aM,updAll,k2]; rfl]
     rcases uAo_1 (frozen cs') (st.set r (.val (.pv (.ptr c.2)))).s r with h' | h'
     ·left; rw[h']; simp[St.set,upd]
     ·right
      obtain⟨⟨n,v⟩,g1,g2⟩:=List.mem_map.1 h'
      simp only[Prod.mk.injEq] at g2
      obtain⟨rfl,g2⟩:=g2
      refine⟨v,g2.symm,?_⟩
      have:∀ (ys:List Operand) (ds:List (Nat×PV)),capsOf (st.set n (.val (.pv (.ptr c.2)))) ys=some ds→(n,v)∈ds→v=c.2:=by
       intro ys
       induction ys with
       | nil=>intro ds h hm; simp only[capsOf,Option.some.injEq] at h; subst h; simp at hm
       | cons y ys ihy=>
        intro ds h hm
        simp only[capsOf] at h
        split at h
        ·rename_i d ds' hd hds
         simp only[Option.some.injEq] at h; subst h
         rcases List.mem_cons.1 hm with rfl | hm
         ·cases y with
          | tmp k=>
           simp only[capOf,St.set] at hd
           by_cases hk:k=n
           ·subst hk; rw[us_] at hd; simp at hd; exact hd.symm
           ·rw[upd_ne hk] at hd
            split at hd
            ·split at hd
             ·simp at hd; exact absurd hd.1 hk
             ·cases hd
            ·simp at hd; exact absurd hd.1 hk
            ·cases hd
          | _=>simp[capOf] at hd
         ·exact ihy ds' hds hm
        ·cases h
      exact this xs cs' k3 g1
    have hsr':updAll st.s (frozen (c::cs')) r=.val (.pv (.ptr c.2)):=by
     rcases hsr with h | ⟨v,h,rfl⟩<;>exact h
    simp only[hsr'] at hslot
    rcases hslot with⟨h1,_⟩ | ⟨_,h1,_⟩
    ·simp[CV.isAgg] at h1
    ·simp only[RepCV] at h1
     exact RepC.frame hN (fun _ _=>rfl) _ _ _ (fun _ _=>rfl) h1
   | _=>simp[capOf] at hc
  ·cases h

theorem vmF_1{P:Program}{nt:Nat}{o:Oper}{st:St}{d:Nat}{f:FuncId}{captured:Array Operand}{cs:List (Nat×PV)}(hop:o.op=.makeFunc (.func f) #[] captured)(hdst:o.dst=some d)(hd:d<nt)
 (hcs:capsOf st captured.toList=some cs) (hpure:∀ n∈captured.toList.flatMap rd,∀ x,st.s n=.box x→x.names=[]):
 Valid P nt o st { rs:=captured.toList.flatMap rd,us:=frozen cs++[(d,.val (.pv (.clo f (cs.map fun c=>.ptr c.2))))] }:=by
 intro κ st' a w hnt hsame _ hR next Q hnext
 obtain⟨G,hG⟩:=hR
 have hcs':capsOf st' captured.toList=some cs:=by
  have:∀ (xs:List Operand) ds,(∀ k∈xs.flatMap rd,st'.s k=st.s k)→(∀ n∈xs.flatMap rd,∀ x,st.s n=.box x→x.names=[])→capsOf st xs=some ds→capsOf st' xs=some ds:=by
   intro xs
   induction xs with
   | nil=>intro ds _ _ h; exact h
   | cons x xs ih=>
    intro ds hs hn h
    simp only[capsOf] at h ⊢
    split at h
    ·rename_i c cs' hc hcs
     rw[ih cs' (fun k hk=>hs k (by simp only[List.flatMap_cons,List.mem_append]; exact .inr hk)) (fun k hk=>hn k (by simp only[List.flatMap_cons,List.mem_append]; exact .inr hk)) hcs]
     have:capOf st' x=some c:=by
      cases x with
      | tmp r=>
       simp only[capOf] at hc ⊢
       rw[hs r (by simp[rd])]
       split at hc
       ·rename_i y hy
        have hnm:=hn r (by simp[rd]) y hy
        rw[(Cco_1 (ob:=st.o) (ob':=st'.o) y (by rw[hnm]; simp)).2.1]
        exact hc
       ·exact hc
       ·cases hc
      | _=>simp[capOf] at hc
     rw[this]; exact h
    ·cases h
  exact this _ _ hsame.1 hpure hcs
 obtain⟨h1,vals,h2,h3⟩:=fa_1 captured.toList st' cs hG hcs'
 unfold Oper.wp
 have hrun:(execOp a.eval o).run P w=.ok (.value (.func (.func f) #[] vals.toArray)) w:=by
  have:captured.map a.eval=vals.toArray:=by apply Array.ext'; rw[← h2]; simp
  simp[execOp,hop,Instr.makeFunc,this]
 rw[hrun]
 simp only[Oper.upon]
 rw[hdst]
 refine hnext _ _ ?_
 have:=R.set (sv:=.val (.pv (.clo f (cs.map fun c=>.ptr c.2)))) (v:=.func (.func f) #[] vals.toArray) (d:=d) G h1 (by rw[hnt]; exact hd) rfl (.inr ⟨rfl,by
  simp only[RepCV,RepC]
  refine⟨vals,rfl,trivial,h3 _ (fun _ h=>h),fun p hp=>?_⟩
  obtain⟨c,_,rfl⟩:=List.mem_map.1 hp
  rfl,rfl⟩)
 simpa[St.app,updAll,St.set,uAa_] using this

theorem vso_{P:Program}{nt:Nat}{o:Oper}{st:St}{d n c sz bytes:Nat}{x:Operand}{lo hi:Option Operand}{T T1:TypeId}{es:List PV}{h:Nat}(hop:o.op=.slice T x lo hi none)(hdst:o.dst=some d)(hd:d<nt)
 (hT:SlIs P T sz bytes) (hx:ev P st T1 x=.val (.own c)) (ho:st.o c=some (sz,es)) (hlo:OptIs P st 0 0 lo)
 (hhi:OptIs P st es.length h hi) (hhl:h≤es.length):
 Valid P nt o st { rs:=rd x++(lo.toList.flatMap rd++hi.toList.flatMap rd),ro:=[c],fc:=(rO_ (.sl true sz (es.take h)) n).map (·.1),us:=[(d,resSV (.sl true sz (es.take h)) n)],uo:=deadObjs [c]++newObjs (rO_ (.sl true sz (es.take h)) n) }:=by
 refine vr_ hdst hd (by simp[ho]) (by simp) ?_
 intro κ G st' a w hnt hsame hG
 obtain⟨e,i,z,t1,t2,t3,_⟩:=hT
 have ho':st'.o c=some (sz,es):=by rw[hsame.2 c (by simp)]; exact ho
 have h1:=ev_ok (P:=P) (T:=T1) hG x d
 rw[ec_ (fun k hk=>hsame.1 k (by simp[hk])),hx] at h1
 have hv:=sOo_ h1
 obtain⟨q1,q2,q3⟩:=hG.objs c sz es ho'
 have elo:∃ lv:Option Value,lo.map a.eval=lv∧(match lv with | none=>True | some v=>∃ k,v=.int k 0):=by
  cases lo with
  | none=>exact⟨none,rfl,trivial⟩
  | some y=>
   obtain⟨k,n,e1,rfl⟩:=hlo
   exact⟨_,rfl,k,ev_lit hG e1 (fun k hk=>hsame.1 k (by simp[hk]))⟩
 have ehi:∃ hv:Option Value,hi.map a.eval=hv∧(match hv with | none=>h=es.length | some v=>∃ k,v=.int k (h:Int)):=by
  cases hi with
  | none=>exact⟨none,rfl,hhi⟩
  | some y=>
   obtain⟨k,n,e1,rfl⟩:=hhi
   exact⟨_,rfl,k,ev_lit hG e1 (fun k hk=>hsame.1 k (by simp[hk]))⟩
 obtain⟨lv,e1,e2⟩:=elo
 obtain⟨hw,e3,e4⟩:=ehi
 have hlb:∀ cap,es.length≤cap→(Instr.sliceBounds true es.length cap lv hw none).run P w=.ok (0,h,cap) w:=by
  intro cap g3
  have hc:¬ cap<h:=by omega
  have hc1:h≤cap:=by omega
  cases lv with
  | none=>
   cases hw with
   | none=>simp only at e4; subst e4; simp[Instr.sliceBounds]
   | some v=>obtain⟨k,rfl⟩:=e4; simp[Instr.sliceBounds,Instr.sliceBound,asIntOf,hc,hc1]
  | some u=>
   obtain⟨k',rfl⟩:=e2
   cases hw with
   | none=>simp only at e4; subst e4; simp[Instr.sliceBounds,Instr.sliceBound,asIntOf]
   | some v=>obtain⟨k,rfl⟩:=e4; simp[Instr.sliceBounds,Instr.sliceBound,asIntOf,hc,hc1]
 have hrun:∀ ax cap,G.hd c=.slice ax es.length cap→es.length≤cap→(execOp a.eval o).run P w=.ok (.value (.slice (if cap=0 then ax else ax.map (·.add (0*sz))) (h-0) (cap-0))) w:=by
  intro ax cap g1 g3
  simp[execOp,hop,Instr.sliceAt,run_underlying t1,Instr.slice,hv,g1,e1,e3,hlb cap g3,sizeOf,typeInfo,t2,t3]
 have hlen:(es.take h).length=h:=by simp[Nat.min_eq_left hhl]
 simp only[RepC] at q1
 rcases q1 with⟨g1,g2,g3⟩ | ⟨b,cap,cs,e',F',ccs,g1,g2,g3,g4,g5,g6,g7,g8,g9⟩
 ·subst g2
  have h0:h=0:=by simpa using hhl
  subst h0
  refine⟨_,w,[],hrun none 0 (by simpa using g1) (by simp),KeepX.refl _ _ _,by simp,by simp,?_⟩
  refine rRs_ ?_
  simp only[RepC]
  exact .inl (by simp)
 ·have hsp:=List.take_append_drop h es
  rw[← hsp] at g8
  obtain⟨c1,c2,F1,F2,k1,k2,k3,k4⟩:=RepCs.split _ _ _ _ g8
  have hl1:c1.length=h*sz:=by rw[bD _ _ _ k3,st_ g4 hhl]
  have hfp:fps G.fp [c]=b::F':=by simp[fps,g9]
  refine⟨_,w,b::F1,hrun _ cap (by simpa using g1) g2,KeepX.refl _ _ _,?_,?_,?_⟩
  ·intro q hq
   have hq':q∈G.fp c:=by
    rw[g9,k2]; simp only[List.mem_cons,List.mem_append] at hq ⊢
    rcases hq with hq | hq
    ·exact .inl hq
    ·exact .inr (.inl hq)
   refine⟨.inr ?_,(q3 q hq').2⟩
   rw[hfp,← g9]; exact hq'
  ·rw[g9,k2] at q2
   rw[List.nodup_cons] at q2 ⊢
   exact⟨fun hh=>q2.1 (List.mem_append_left _ hh),(List.nodup_append.1 q2.2).1⟩
  ·refine rRs_ ?_
   simp only[RepC]
   refine .inr ⟨b,cap,cs,e',F1,c1,?_,by rw[hlen]; omega,g3,fun q hq=>g4 q (List.mem_of_mem_take hq),g5,g6,?_,k3,rfl⟩
   ·have:(some (⟨b,0,none⟩:Addr)).map (fun a=>a.add (0*sz))=some ⟨b,0,none⟩:=by simp[ao_]
    rw[hlen,Nat.sub_zero,Nat.sub_zero]
    split
    ·rfl
    ·rw[this]
   ·rw[hlen]
    have:=congrArg (List.take (h*sz)) g7
    rw[List.take_take,Nat.min_eq_left (Nat.mul_le_mul_right sz hhl),k1] at this
    rw[this,← hl1,List.take_left]

def bsOf(ns:List Int):ByteArray:=ns.foldl (fun r n=>r.push (UInt8.ofNat n.toNat)) ByteArray.empty
theorem rCl_{N:Nat→Prop}{w:World}{k:IntKind}:∀ (ns:List Int) (cs:List Value) (F:List Nat),RepCs N w (ns.map fun n=>.lit (.int k n)) cs F→cs=ns.map (Value.int k)
 | [],cs,F,h=>by simp only[List.map_nil,RepCs] at h; exact h.1
 | n::ns,cs,F,h=>by
  simp only[aM,RepCs,RepC] at h
  obtain⟨c1,c2,F1,F2,e1,_,⟨e2,_⟩,h2⟩:=h
  rw[e1,e2,rCl_ ns c2 F2 h2]; rfl
theorem vcs_{P:Program}{nt:Nat}{o:Oper}{st:St}{d:Nat}{x:Operand}{s t T1 e:TypeId}{D:List Nat}{ns:List Int}(hop:o.op=.convert s t x)(hdst:o.dst=some d)(hd:d<nt)
 (hx:srcOf st (ev P st T1 x)=some (D,1,ns.map fun n=>.lit (.int .u8 n))) (h1:P.underlying s=some (.slice e)) (h2:P.underlying e=some (.int .u8)) (h3:P.underlying t=some .string):
 Valid P nt o st { rs:=rd x,ro:=D,us:=[(d,.val (.pv (.lit (.string (bsOf ns)))))] }:=by
 refine vp_ hdst hd rfl ?_
 intro κ G st' a w hnt hsame hG
 have hsv:=ev_ok (P:=P) (T:=T1) hG x 0
 rw[ec_ (fun k hk=>hsame.1 k (by simp[hk]))] at hsv
 have hx':=sOc_ (st':=st') hx (fun c hc=>hsame.2 c hc)
 obtain⟨ax,cap,ccs,F,e1,e2,_,_,_,_,_,hrun⟩:=src_ok (P:=P) hG hsv hx' (by intro q hq; obtain⟨n,_,rfl⟩:=List.mem_map.1 hq; rfl)
 have e3:=rCl_ ns ccs F e2
 have hl:=hrun w (fun _ _=>rfl)
 refine⟨.string (bsOf ns),?_,sOl_ rfl⟩
 have key:(convert s t (a.eval x)).run P w=.ok (.string (bsOf ns)) w:=by
  rw[e1] at hl ⊢
  rw[run_convert_bytes_string w s t e _ _ _ h1 h2 h3]
  cases ax with
  | none=>
   have:ns=[]:=by
    have h4:(#[]:Array Value)=ccs.toArray:=by
     have:=hl
     rw[rfC_] at this
     injection this
    have h5:=congrArg Array.size h4
    rw[e3] at h5
    simp at h5
    exact List.length_eq_zero_iff.1 h5.symm
   subst this
   rfl
  | some ad=>
   rw[run_bytesToString w ad _ cap ns]
   ·rfl
   ·rw[← e3,← hl]
    simp[Builtin.firstCells]
 simp[execOp,hop,key]
end Go.Av
