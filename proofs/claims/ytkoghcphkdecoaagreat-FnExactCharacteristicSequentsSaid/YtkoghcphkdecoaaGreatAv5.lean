/- A part of the proof: lemmas only; nothing is claimed here beyond what each lemma says. -/
import Derived.Test.YtkoghcphkdecoaaGreatAv3
set_option linter.unusedSimpArgs false
set_option linter.unusedVariables false
set_option linter.defProp false
namespace Go.Av
open CV renaming sizes→bj

def CV.parts:CV→List CV
 | .node fs=>fs
 | .pv (.agg vs)=>vs.map .pv
 | _=>[]
def CV.at:CV→List Nat→CV
 | x,[]=>x
 | x,k::ks=>(x.parts.getD k default).at ks
def CV.offs:CV→List Nat→Nat
 | _,[]=>0
 | x,k::ks=>bj (x.parts.take k)+(x.parts.getD k default).offs ks
def CV.okp:CV→List Nat→Bool
 | _,[]=>true
 | x,k::ks=>decide (k<x.parts.length)&&(x.parts.getD k default).okp ks
def CV.setAt:CV→List Nat→CV→CV
 | _,[],y=>y
 | x,k::ks,y=>.node (x.parts.set k ((x.parts.getD k default).setAt ks y))

section
variable{N:Nat→Prop}{w:World}{hd:Nat→Value}

mutual
theorem RepCV.length:∀ (x:CV) (cs:List Value),RepCV N w hd x cs→cs.length=x.size
 | .pv v,cs,h=>by simp only[RepCV] at h; simpa[CV.size] using RepC.length _ _ _ h
 | .own c,cs,h=>by simp only[RepCV] at h; simp[h.1,CV.size]
 | .node fs,cs,h=>by simp only[RepCV] at h; simpa[CV.size] using RepCVs.length fs cs h
 | .gone n,cs,h=>by simp only[RepCV] at h; simp[h.1,CV.size]
theorem RepCVs.length:∀ (xs:List CV) (cs:List Value),RepCVs N w hd xs cs→cs.length=bj xs
 | [],cs,h=>by simp only[RepCVs] at h; simp[h,bj]
 | x::xs,cs,h=>by
  simp only[RepCVs] at h
  obtain⟨c1,c2,h1,h2,h3⟩:=h
  simp[h1,bj,RepCV.length x c1 h2,RepCVs.length xs c2 h3]
end
mutual
theorem RepCV.one:∀ (x:CV) (cs:List Value),RepCV N w hd x cs→∀ u∈cs,u.oneCell'=true
 | .pv v,cs,h=>by simp only[RepCV] at h; exact RepC.one _ _ _ h
 | .own c,cs,h=>by simp only[RepCV] at h; simp[h.1,h.2]
 | .node fs,cs,h=>by simp only[RepCV] at h; exact RepCVs.one fs cs h
 | .gone n,cs,h=>by simp only[RepCV] at h; exact h.2
theorem RepCVs.one:∀ (xs:List CV) (cs:List Value),RepCVs N w hd xs cs→∀ u∈cs,u.oneCell'=true
 | [],cs,h=>by simp only[RepCVs] at h; simp[h]
 | x::xs,cs,h=>by
  simp only[RepCVs] at h
  obtain⟨c1,c2,h1,h2,h3⟩:=h
  subst h1
  intro u hu
  rcases List.mem_append.1 hu with hu | hu
  ·exact RepCV.one x c1 h2 u hu
  ·exact RepCVs.one xs c2 h3 u hu
end

theorem RCs_:∀ (vs:List PV) (cs:List Value),RepCs N w vs cs []→RepCVs N w hd (vs.map .pv) cs
 | [],cs,h=>by simp only[RepCs] at h; simp[RepCVs,h.1]
 | v::vs,cs,h=>by
  simp only[RepCs] at h
  obtain⟨c1,c2,F1,F2,h1,h2,h3,h4⟩:=h
  have e1:F1=[]:=by have:=congrArg List.length h2; simp at this; exact List.eq_nil_of_length_eq_zero (by omega)
  have e2:F2=[]:=by have:=congrArg List.length h2; simp at this; exact List.eq_nil_of_length_eq_zero (by omega)
  subst e1; subst e2
  simp only[List.map_cons,RepCVs]
  exact⟨c1,c2,h1,by simpa[RepCV] using h3,RCs_ vs c2 h4⟩

theorem RepCV.parts{x:CV}{cs:List Value}(h:RepCV N w hd x cs)(hx:x.parts≠[]):RepCVs N w hd x.parts cs:=by
 cases x with
 | pv v=>
  cases v with
  | agg vs=>simp only[RepCV,RepC] at h; exact RCs_ vs cs h
  | _=>simp[CV.parts] at hx
 | own c=>simp[CV.parts] at hx
 | node fs=>simpa only[RepCV,CV.parts] using h
 | gone n=>simp[CV.parts] at hx

theorem RepCVs.at:∀ (xs:List CV) (k:Nat) (cs:List Value),k<xs.length→RepCVs N w hd xs cs→
 ∃ c1 c2 c3,cs=c1++c2++c3∧c1.length=bj (xs.take k)∧RepCV N w hd (xs.getD k default) c2∧∀ y c2',RepCV N w hd y c2'→RepCVs N w hd (xs.set k y) (c1++c2'++c3)
 | [],_,_,hk,_=>by simp at hk
 | x::xs,0,cs,_,h=>by
  simp only[RepCVs] at h
  obtain⟨c1,c2,h1,h2,h3⟩:=h
  refine⟨[],c1,c2,by simpa using h1,by simp[bj],by simpa using h2,fun y c2' hy=>?_⟩
  simp only[List.set_cons_zero,RepCVs]
  exact⟨c2',c2,by simp,hy,h3⟩
 | x::xs,k+1,cs,hk,h=>by
  simp only[RepCVs] at h
  obtain⟨c1,c2,h1,h2,h3⟩:=h
  obtain⟨d1,d2,d3,e1,e2,e3,e4⟩:=RepCVs.at xs k c2 (by simpa using hk) h3
  refine⟨c1++d1,d2,d3,by simp[h1,e1],by simp[bj,e2,RepCV.length x c1 h2],by simpa using e3,fun y c2' hy=>?_⟩
  simp only[List.set_cons_succ,RepCVs]
  exact⟨c1,d1++c2'++d3,by simp,h2,e4 y c2' hy⟩

theorem RepCV.path:∀ (p:List Nat) (x:CV) (cs:List Value),x.okp p=true→RepCV N w hd x cs→
 ∃ c1 c2 c3,cs=c1++c2++c3∧c1.length=x.offs p∧RepCV N w hd (x.at p) c2∧∀ y c2',RepCV N w hd y c2'→RepCV N w hd (x.setAt p y) (c1++c2'++c3)
 | [],x,cs,_,h=>⟨[],cs,[],by simp,by simp[CV.offs],by simpa[CV.at] using h,fun y c2' hy=>by simpa[CV.setAt] using hy⟩
 | k::ks,x,cs,hp,h=>by
  simp only[CV.okp,Bool.and_eq_true,decide_eq_true_eq] at hp
  have hne:x.parts≠[]:=by intro e; rw[e] at hp; simp at hp
  obtain⟨c1,c2,c3,e1,e2,e3,e4⟩:=RepCVs.at x.parts k cs hp.1 (h.parts hne)
  obtain⟨d1,d2,d3,f1,f2,f3,f4⟩:=RepCV.path ks _ c2 hp.2 e3
  refine⟨c1++d1,d2,d3++c3,by simp[e1,f1],by simp[CV.offs,e2,f2],by simpa[CV.at] using f3,fun y c2' hy=>?_⟩
  have:=e4 _ _ (f4 y c2' hy)
  simp only[CV.setAt,RepCV]
  simpa using this
end

def TyIs(P:Program)(T:TypeId)(agg:Bool)(n:Nat):Prop:=
 ∃ d i,P.underlying T=some d∧P.info? T=some i∧i.size=n∧(match d with | .struct _ | .array _ _=>true | _=>false)=agg

theorem riA_1{P:Program}{T:TypeId}{agg:Bool}{n:Nat}(h:TyIs P T agg n)(w:World):(isAgg T).run P w=.ok agg w:=by
 obtain⟨d,i,h1,h2,h3,h4⟩:=h
 simp only[isAgg,Sem.run_bind,run_underlying h1,Result.andThen_ok]
 subst h4
 cases d<;>rfl
theorem rsO_1{P:Program}{T:TypeId}{agg:Bool}{n:Nat}(h:TyIs P T agg n)(w:World):(sizeOf T).run P w=.ok n w:=by
 obtain⟨d,i,h1,h2,h3,h4⟩:=h
 simp[sizeOf,typeInfo,h2,h3]

theorem rAa_{w:World}{a:Addr}{cs:List Value}(ha:a.spot=none)(h:RowAt w a cs):∀ j u,cs[j]?=some u→w.cell? (a.add j)=some u:=by
 intro j u hu; rw[ao_ a j ha]; exact h j u hu

theorem rlV_{P:Program}{T:TypeId}{N:Nat→Prop}{w:World}{hd:Nat→Value}{a:Addr}{x:CV}{cs:List Value}(ht:TyIs P T x.isAgg x.size)(ha:a.spot=none)(hr:RowAt w a cs)
 (hx:RepCV N w hd x cs) (hg:∀ n,x≠.gone n):∃ v,(loadVar T a).run P w=.ok v w∧CVal N w hd x v:=by
 have hl:=RepCV.length x cs hx
 have h1:=RepCV.one x cs hx
 cases hA:x.isAgg with
 | true=>
  rw[hA] at ht
  refine⟨.agg cs.toArray,?_,.inl ⟨hA,cs,rfl,hx⟩⟩
  have:=run_loadCells_list (P:=P) w a cs (rAa_ ha hr)
  rw[hl] at this
  simp[loadVar,riA_1 ht,rsO_1 ht,this]
 | false=>
  rw[hA] at ht
  have hs:x.size=1:=by
   cases x with
   | pv v=>cases v<;>first | rfl | (simp[CV.isAgg] at hA; done) | (simp[RepCV,RepC] at hx)
   | own c=>rfl
   | node fs=>simp[CV.isAgg] at hA
   | gone n=>exact absurd rfl (hg n)
  rw[hs] at hl
  obtain⟨v,rfl⟩:=List.length_eq_one_iff.1 hl
  have hc:=hr 0 v (by simp)
  simp only[Nat.add_zero] at hc
  refine⟨v,?_,.inr ⟨hA,hx,h1 v (by simp)⟩⟩
  have hc':w.cell? a=some v:=by cases a; simp only at ha; subst ha; exact hc
  simp[loadVar,riA_1 ht,hc']

theorem rAo_{w:World}{b:Nat}{c1 c2 c3:List Value}{e:TypeId}{fr:Nat×Nat}(h:w.heap[b]?=some (.cells (c1++c2++c3).toArray e fr)):RowAt w ⟨b,c1.length,none⟩ c2:=by
 intro j u hu
 have hj:=(List.getElem?_eq_some_iff.1 hu).1
 simp only[World.cell?,h,Option.isSome_none,Bool.false_eq_true,if_false]
 rw[List.getElem?_toArray,List.append_assoc,List.getElem?_append_right (by omega),Nat.add_sub_cancel_left,List.getElem?_append_left hj]
 exact hu

theorem vlb_{P:Program}{nt:Nat}{o:Oper}{st:St}{d r off:Nat}{p:List Nat}{x:Operand}{T T1:TypeId}{c:CV}(hop:o.op=.load T x)(hdst:o.dst=some d)(hd:d<nt)
 (hx:ev P st T1 x=.bptr r p off) (hr:st.s r=.box c) (hok:c.okp p=true) (hoff:c.offs p=off) (ht:TyIs P T (c.at p).isAgg (c.at p).size) (hg:∀ n,c.at p≠.gone n):
 Valid P nt o st { rs:=r::rd x,us:=[(d,.val (c.at p))] }:=by
 refine vp_ (rs:=r::rd x) (ro:=[]) hdst hd rfl ?_
 intro κ G st' a w _ hsame hG
 have h1:=ev_ok (P:=P) (T:=T1) hG x d
 rw[ec_ (fun k hk=>hsame.1 k (by simp[hk])),hx] at h1
 simp only[SlotOk] at h1
 have h2:=hG.slots r
 rw[hsame.1 r (by simp),hr] at h2
 obtain⟨_,cs,e,h3,h4⟩:=h2
 obtain⟨c1,c2,c3,e1,e2,e3,_⟩:=RepCV.path p c cs hok h4
 subst e1
 have hrow:=rAo_ h3
 rw[e2,hoff] at hrow
 obtain⟨v,hv1,hv2⟩:=rlV_ ht rfl hrow e3 hg
 exact⟨v,by simp[execOp,hop,h1,Instr.loadAt,Instr.sureAddr,hv1],hv2⟩

theorem vlp_{P:Program}{nt:Nat}{o:Oper}{st:St}{d:Nat}{x:Operand}{T T1:TypeId}{v:PV}(hop:o.op=.load T x)(hdst:o.dst=some d)(hd:d<nt)
 (hx:ev P st T1 x=.val (.pv (.ptr v))) (ht:TyIs P T (CV.pv v).isAgg v.size):
 Valid P nt o st { rs:=rd x,us:=[(d,.val (.pv v))] }:=by
 refine vp_ hdst hd rfl ?_
 intro κ G st' a w _ hsame hG
 have h1:=ev_ok (P:=P) (T:=T1) hG x d
 rw[ec_ hsame.1,hx] at h1
 rcases h1 with⟨h1,_⟩ | ⟨_,h2,_⟩
 ·simp[CV.isAgg] at h1
 ·simp only[RepCV,RepC] at h2
  obtain⟨ad,ccs,g1,_,g3,g4,g5,g6⟩:=h2
  simp at g1
  obtain⟨u,hv1,hv2⟩:=rlV_ (P:=P) (hd:=G.hd) (x:=.pv v) (N:=Nof κ st' G w) ht g3 g5 (by simpa[RepCV] using g6) (fun n=>by simp)
  exact⟨u,by simp[execOp,hop,g1,Instr.loadAt,Instr.sureAddr,hv1],hv2⟩

def ZeroIs(P:Program)(T:TypeId)(x:CV):Prop:=∃ i z,P.info? T=some i∧i.zero=some z∧∀ N w hd,CVal N w hd x z

theorem cc_{N:Nat→Prop}{w:World}{hd:Nat→Value}{x:CV}{v:Value}(h:CVal N w hd x v):RepCV N w hd x v.cells.toList:=by
 rcases h with⟨_,cs,rfl,h⟩ | ⟨_,h,h1⟩
 ·simpa[Value.cells] using h
 ·cases v<;>first | (simp[Value.oneCell'] at h1; done) | exact h

theorem hpl_{w:World}{o:Obj}{b:Nat}(h:b<w.heap.size):(w.alloc o).heap[b]?=w.heap[b]?:=by
 exact heap_alloc_old w o h
theorem hpe_{w:World}{o:Obj}:(w.alloc o).heap[w.heap.size]?=some o:=heap_alloc_new w o

theorem RnB_{κ:Ctx}{st:St}{a:Act}{w:World}{d:Nat}{x:CV}{e:TypeId}{cs:List Value}(G:Gh)(h:RG κ G st a w)(hd:d<κ.nt)(hf:st.noR d)
 (hx:∀ N w',(∀ b,Nof κ st G w b→N b)→(∀ b,Nof κ st G w b→w'.heap[b]?=w.heap[b]?)→RepCV N w' G.hd x cs):
 R κ (st.set d (.box x)) (a.put (some d) (.pointer (some ⟨w.heap.size,0,none⟩))) (w.alloc (.cells cs.toArray e)):=by
 have hbs:=h.keep.size
 let G':Gh:={ G with ad:=upd G.ad d w.heap.size }
 have hlt:∀ b,Nof κ st G w b→b<w.heap.size:=fun b hb=>hb.lt h
 have hbox:∀ r,isBox ((st.set d (.box x)).s r)=true→r=d∨(r≠d∧isBox (st.s r)=true):=by
  intro r hr
  by_cases hrd:r=d
  ·exact .inl hrd
  ·simp only[St.set,upd,if_neg hrd] at hr; exact .inr ⟨hrd,hr⟩
 have had:∀ r,r≠d→G'.ad r=G.ad r:=fun r hr=>upd_ne hr
 have hadd:G'.ad d=w.heap.size:=us_ _ _ _
 have hN:∀ b,Nof κ st G w b→Nof κ (st.set d (.box x)) G' (w.alloc (.cells cs.toArray e)) b:=by
  intro b hb
  refine⟨?_,fun hp=>?_⟩
  ·rcases hb.1 with h1 | h1
   ·exact .inl h1
   ·exact .inr ⟨h1.1,by simp; omega⟩
  ·rcases hp with⟨r,h1,h2⟩ | ⟨c,p,h1,h2⟩
   ·rcases hbox r h1 with rfl | ⟨h3,h4⟩
    ·rw[hadd] at h2; have:=hlt b hb; omega
    ·rw[had r h3] at h2; exact hb.2 (.inl ⟨r,h4,h2⟩)
   ·exact hb.2 (.inr ⟨c,p,h1,h2⟩)
 have hw:∀ b,b<w.heap.size→(w.alloc (.cells cs.toArray e)).heap[b]?=w.heap[b]?:=fun b hb=>hpl_ hb
 refine⟨G',h.step hd (.of_below ((RowKit.Below.refl _ _).alloc hbs _)) hN (fun b hb=>hw b (hlt b hb)) (fun k hk=>.inl (by simp[St.set,upd,hk])) ?_ (fun _ _ _ _ _=>rfl) ?_ ?_ ?_ ?_ ?_ ?_ ?_ (fun _ _=>rfl)⟩
 ·have:(st.set d (.box x)).s d=.box x:=by simp[St.set,upd]
  rw[this]
  refine⟨by rw[hadd],cs,e,by rw[hadd]; exact hpe_,hx _ _ hN (fun b hb=>hw b (hlt b hb))⟩
 ·intro k r _ _ hr
  refine had r (fun e=>?_)
  subst e
  rw[hf k] at hr; cases hr
 ·intro k hk _ hb
  exact⟨had k hk,hw _ (h.boxes k hb).2⟩
 ·intro c sz es hc
  obtain⟨h1,h2,h3⟩:=h.objs c sz es hc
  exact⟨RepC.frame hN (fun b hb=>hw b (hlt b hb)) _ _ _ (fun b hb=>hw b (h3 b hb).2) h1,h2,fun b hb=>⟨(h3 b hb).1,by simp; have:=(h3 b hb).2; omega⟩⟩
 ·intro r hr
  rcases hbox r hr with rfl | ⟨h3,h4⟩
  ·rw[hadd]; exact⟨.inl hbs,by simp⟩
  ·rw[had r h3]; have:=h.boxes r h4; exact⟨this.1,by simp; omega⟩
 ·intro r r' h1 h2 he
  rcases hbox r h1 with rfl | ⟨h3,h4⟩<;>rcases hbox r' h2 with rfl | ⟨h5,h6⟩
  ·rfl
  ·rw[hadd,had r' h5] at he; have:=(h.boxes r' h6).2; omega
  ·rw[hadd,had r h3] at he; have:=(h.boxes r h4).2; omega
  ·rw[had r h3,had r' h5] at he; exact h.bb r r' h4 h6 he
 ·intro r c p h1 h2 hm
  rcases hbox r h1 with rfl | ⟨h3,h4⟩
  ·rw[hadd] at hm; have:=((h.objs c p.1 p.2 h2).2.2 _ hm).2; omega
  ·rw[had r h3] at hm; exact h.bo r c p h4 h2 hm
 ·exact fun c c' p p' h1 h2=>h.oo c c' p p' h1 h2

theorem va_2{P:Program}{nt:Nat}{o:Oper}{st:St}{d:Nat}{T:TypeId}{x:CV}(hop:o.op=.alloc T)(hdst:o.dst=some d)(hd:d<nt)(hz:ZeroIs P T x):
 Valid P nt o st { fr:=[d],us:=[(d,.box x)] }:=by
 intro κ st' a w hnt _ hfresh hR next Q hnext
 obtain⟨G,hG⟩:=hR
 obtain⟨i,z,h1,h2,h3⟩:=hz
 unfold Oper.wp
 have hrun:(execOp a.eval o).run P w=.ok (.value (.pointer (some ⟨w.heap.size,0,none⟩))) (w.alloc (.cells z.cells T)):=by
  simp[execOp,hop,Instr.alloc,zeroValue,typeInfo,h1,h2,newVar,newRow]
 rw[hrun]
 simp only[Oper.upon]
 rw[hdst]
 refine hnext _ _ ?_
 have:=RnB_ (x:=x) (e:=T) (cs:=z.cells.toList) G hG (by rw[hnt]; exact hd) (hfresh.1 d (by simp)) (fun N w' _ _=>cc_ (h3 N w' G.hd))
 simpa[St.app,updAll,St.set] using this

theorem vb_1{P:Program}{nt:Nat}{o:Oper}{st:St}{d:Nat}{T T1:TypeId}{x:CV}{y:Operand}(hop:o.op=.box T y)(hdst:o.dst=some d)(hd:d<nt)(hy:ev P st T1 y=.val x):
 Valid P nt o st { rs:=rd y,fr:=[d],us:=[(d,.box x)] }:=by
 intro κ st' a w hnt hsame hfresh hR next Q hnext
 obtain⟨G,hG⟩:=hR
 have h1:=ev_ok (P:=P) (T:=T1) hG y d
 rw[ec_ hsame.1,hy] at h1
 have hc:=cc_ h1
 unfold Oper.wp
 have hrun:(execOp a.eval o).run P w=.ok (.value (.pointer (some ⟨w.heap.size,0,none⟩))) (w.alloc (.cells (a.eval y).cells T)):=by
  simp[execOp,hop,Instr.box,newVar,newRow]
 rw[hrun]
 simp only[Oper.upon]
 rw[hdst]
 refine hnext _ _ ?_
 have:=RnB_ (x:=x) (e:=T) (cs:=(a.eval y).cells.toList) G hG (by rw[hnt]; exact hd) (hfresh.1 d (by simp)) (fun N w' hN hw=>RepCV.frame hN hw _ _ (fun _ _=>rfl) hc)
 simpa[St.app,updAll,St.set] using this

theorem rsV_{P:Program}{T:TypeId}{agg:Bool}{v:Value}{w:World}{b off:Nat}{c1 c2 c3:List Value}{e:TypeId}(ht:TyIs P T agg v.cells.size)(hb:w.heap[b]?=some (.cells (c1++c2++c3).toArray e (0,0)))
 (ho:c1.length=off) (hl:c2.length=v.cells.size) (h1:∀ u∈v.cells.toList,u.oneCell'=true):
 (storeVar T ⟨b,off,none⟩ v).run P w=.ok () (w.setRow b (c1++v.cells.toList++c3).toArray):=by
 have:=run_storeCells_at P b off e v.cells.toList 0 _ w hb (by simp; omega) h1
 simp only[storeVar,Sem.run_bind,rsO_1 ht,Result.andThen_ok,ne_eq,not_true_eq_false,if_false]
 simp only[Nat.add_zero] at this
 rw[this]
 congr 3
 subst ho
 have e1:(c1++c2++c3).take c1.length=c1:=by simp[List.append_assoc]
 have e2:(c1++c2++c3).drop (c1.length+v.cells.toList.length)=c3:=by
  have:v.cells.toList.length=c2.length:=by simp[hl]
  rw[this,← List.length_append]; exact List.drop_left
 simp only[List.toList_toArray,e1,e2]

theorem apn_(a:Act)(v:Value):a.put none v=a:=rfl

theorem RsB_{κ:Ctx}{st:St}{a:Act}{w:World}{r:Nat}{c:CV}{p:List Nat}{y:CV}{c2':List Value}(G:Gh)(h:RG κ G st a w)(hr:st.s r=.box c)(hok:c.okp p=true)
 (hy:RepCV (Nof κ st G w) w G.hd y c2') (hlen:c2'.length=(c.at p).size):
 ∃ c1 c2 c3 e,w.heap[G.ad r]?=some (.cells (c1++c2++c3).toArray e (0,0))∧c1.length=c.offs p∧c2.length=c2'.length∧
  R κ (st.set r (.box (c.setAt p y))) a (w.setRow (G.ad r) (c1++c2'++c3).toArray):=by
 have hbr:isBox (st.s r)=true:=by rw[hr]; rfl
 have h2:=h.slots r
 rw[hr] at h2
 obtain⟨hp0,cs,e,h3,h4⟩:=h2
 obtain⟨c1,c2,c3,e1,e2,e3,e4⟩:=RepCV.path p c cs hok h4
 subst e1
 have hl2:c2.length=c2'.length:=by rw[hlen]; exact RepCV.length _ _ e3
 refine⟨c1,c2,c3,e,h3,e2,hl2,G,?_⟩
 have hsz:(w.setRow (G.ad r) (c1++c2'++c3).toArray).heap.size=w.heap.size:=by simp[World.setRow]
 have hother:∀ b,b≠G.ad r→(w.setRow (G.ad r) (c1++c2'++c3).toArray).heap[b]?=w.heap[b]?:=fun b hb=>setRow_other w _ _ _ hb
 have hbox:∀ k,isBox ((st.set r (.box (c.setAt p y))).s k)=isBox (st.s k):=by
  intro k
  simp only[St.set,upd]
  split
  ·rename_i e; subst e; rw[hbr]; rfl
  ·rfl
 have hpriv:∀ b,Priv (st.set r (.box (c.setAt p y))) G b↔Priv st G b:=by
  intro b
  simp only[Priv,hbox]
  rfl
 have hN:∀ b,Nof κ st G w b→Nof κ (st.set r (.box (c.setAt p y))) G (w.setRow (G.ad r) (c1++c2'++c3).toArray) b:=by
  intro b hb
  refine⟨?_,fun hp=>hb.2 ((hpriv b).1 hp)⟩
  rcases hb.1 with h1 | h1
  ·exact .inl h1
  ·exact .inr (by rw[hsz]; exact h1)
 have hNe:∀ b,Nof κ st G w b→b≠G.ad r:=fun b hb e=>hb.2 (.inl ⟨r,hbr,e⟩)
 have hw:∀ b,Nof κ st G w b→(w.setRow (G.ad r) (c1++c2'++c3).toArray).heap[b]?=w.heap[b]?:=fun b hb=>hother b (hNe b hb)
 have hrn:r<κ.nt:=by
  rcases Nat.lt_or_ge r κ.nt with h' | h'
  ·exact h'
  ·rw[Array.getD_eq_getD_getElem?,Array.getElem?_eq_none (by rw[h.nt]; exact h')] at hp0
   simp[undef] at hp0
 have hput:a=a.put (some r) (a.tmps.getD r undef):=by
  have hlt:r<a.tmps.size:=by rw[h.nt]; exact hrn
  cases a with
  | mk t ds=>
   simp only[Act.put,Act.mk.injEq,and_true]
   apply Array.ext_getElem?
   intro i
   rw[Array.getElem?_setIfInBounds]
   split
   ·rename_i hi; subst hi; simp[Array.getD_eq_getD_getElem?]
   ·rfl
 rw[hput]
 refine h.step hrn ⟨rfl,rfl,rfl,by rw[hsz]; exact Nat.le_refl _,fun k hk hkL=>hother k (fun e=>(h.boxes r hbr).1.elim (fun h1=>by omega) (fun h1=>hkL (e▸h1)))⟩ hN hw (fun k hk=>.inl (by simp[St.set,upd,hk])) ?_ (fun _ _ _ _ _=>rfl) (fun _ _ _ _ _=>rfl) ?_ ?_ ?_ ?_ ?_ ?_ (fun _ _=>rfl)
 ·have:(st.set r (.box (c.setAt p y))).s r=.box (c.setAt p y):=by simp[St.set,upd]
  rw[this]
  refine⟨hp0,_,e,setRow_heap w _ _ _ _ _ h3,?_⟩
  exact RepCV.frame hN hw _ _ (fun _ _=>rfl) (e4 y c2' hy)
 ·intro k hk _ hb
  exact⟨rfl,hother _ (fun e=>hk (h.bb k r hb hbr e))⟩
 ·intro c' sz es hc
  obtain⟨h1,h2,h5⟩:=h.objs c' sz es hc
  exact⟨RepC.frame hN hw _ _ _ (fun b hb=>hother b (fun e=>h.bo r c' _ hbr hc (e▸hb))) h1,h2,by rw[hsz]; exact h5⟩
 ·intro k hk; rw[hbox] at hk; rw[hsz]; exact h.boxes k hk
 ·intro k k' h1 h2; rw[hbox] at h1 h2; exact h.bb k k' h1 h2
 ·intro k c' p' h1 h2; rw[hbox] at h1; exact h.bo k c' p' h1 h2
 ·exact fun c1 c2 p1 p2 h1 h2=>h.oo c1 c2 p1 p2 h1 h2

theorem vsb_{P:Program}{nt:Nat}{o:Oper}{st:St}{r off:Nat}{p:List Nat}{x y:Operand}{T T1 T2:TypeId}{c z:CV}(hop:o.op=.store T x y)(hdst:o.dst=none)
 (hx:ev P st T1 x=.bptr r p off) (hr:st.s r=.box c) (hok:c.okp p=true) (hoff:c.offs p=off) (hy:ev P st T2 y=.val z) (ht:TyIs P T z.isAgg z.size) (hs:z.size=(c.at p).size):
 Valid P nt o st { rs:=r::(rd x++rd y),us:=[(r,.box (c.setAt p z))] }:=by
 intro κ st' a w hnt hsame _ hR next Q hnext
 obtain⟨G,hG⟩:=hR
 have h1:=ev_ok (P:=P) (T:=T1) hG x 0
 rw[ec_ (fun k hk=>hsame.1 k (by simp[hk])),hx] at h1
 simp only[SlotOk] at h1
 have h2:=ev_ok (P:=P) (T:=T2) hG y 0
 rw[ec_ (fun k hk=>hsame.1 k (by simp[hk])),hy] at h2
 have hcell:=cc_ h2
 have hsz:(a.eval y).cells.size=z.size:=by have:=RepCV.length _ _ hcell; simpa using this
 have hr':st'.s r=.box c:=by rw[hsame.1 r (by simp)]; exact hr
 obtain⟨c1,c2,c3,e,g1,g2,g3,g4⟩:=RsB_ G hG hr' hok hcell (by rw[← hs,← hsz]; simp)
 unfold Oper.wp
 have hrun:(execOp a.eval o).run P w=.ok .skip (w.setRow (G.ad r) (c1++(a.eval y).cells.toList++c3).toArray):=by
  have:=rsV_ (P:=P) (T:=T) (agg:=z.isAgg) (v:=a.eval y) (off:=off) (by rw[hsz]; exact ht) g1 (by rw[g2,hoff]) (by rw[g3]; simp) (RepCV.one _ _ hcell)
  simp[execOp,hop,h1,Instr.storeAt,Instr.sureAddr,this]
 rw[hrun]
 simp only[Oper.upon]
 rw[hdst,apn_]
 refine hnext _ _ ?_
 simpa[St.app,updAll,St.set] using g4
end Go.Av

namespace Go.Av
open Bool renaming and_eq_true→aD

mutual
def PV.noOwn:PV→Bool
 | .lit _=>true
 | .agg fs=>PV.noOwns fs
 | .sl o _ _=>!o
 | .clo _ _=>true
 | .ptr _=>true
 | .tup _=>true
def PV.noOwns:List PV→Bool
 | []=>true
 | p::ps=>p.noOwn&&PV.noOwns ps
end
mutual
def PV.noView:PV→Bool
 | .lit _=>true
 | .agg fs=>PV.noViews fs
 | .sl o _ es=>o&&PV.noViews es
 | .clo _ cs=>cs.isEmpty
 | .ptr _=>false
 | .tup vs=>PV.noViews vs
def PV.noViews:List PV→Bool
 | []=>true
 | p::ps=>p.noView&&PV.noViews ps
end

section
variable{N N':Nat→Prop}{w:World}
mutual
theorem RepC.noOwn:∀ (p:PV) (cs:List Value) (F:List Nat),p.noOwn=true→RepC N w p cs F→F=[]
 | .lit v,cs,F,_,h=>by simp only[RepC] at h; exact h.2.2
 | .agg fs,cs,F,hp,h=>by simp only[RepC] at h; exact RepCs.noOwn fs cs F (by simpa[PV.noOwn] using hp) h
 | .sl false sz es,cs,F,_,h=>by simp only[RepC] at h; obtain⟨_,_,_,h2,_⟩:=h; exact h2
 | .sl true sz es,cs,F,hp,_=>by simp[PV.noOwn] at hp
 | .clo f caps,cs,F,_,h=>by simp only[RepC] at h; obtain⟨_,_,h2,_⟩:=h; exact h2
 | .ptr v,cs,F,_,h=>by simp only[RepC] at h; obtain⟨_,_,_,h2,_⟩:=h; exact h2
 | .tup _,cs,F,_,h=>by simp only[RepC] at h
theorem RepCs.noOwn:∀ (ps:List PV) (cs:List Value) (F:List Nat),PV.noOwns ps=true→RepCs N w ps cs F→F=[]
 | [],cs,F,_,h=>by simp only[RepCs] at h; exact h.2
 | p::ps,cs,F,hp,h=>by
  simp only[PV.noOwns,aD] at hp
  simp only[RepCs] at h
  obtain⟨c1,c2,F1,F2,h1,h2,h3,h4⟩:=h
  rw[h2,RepC.noOwn p c1 F1 hp.1 h3,RepCs.noOwn ps c2 F2 hp.2 h4]
  rfl
end
mutual
theorem RepC.noView:∀ (p:PV) (cs:List Value) (F:List Nat),p.noView=true→RepC N w p cs F→RepC N' w p cs F
 | .lit v,cs,F,_,h=>by simpa only[RepC] using h
 | .agg fs,cs,F,hp,h=>by simp only[RepC] at h ⊢; exact RepCs.noView fs cs F (by simpa[PV.noView] using hp) h
 | .sl false sz es,cs,F,hp,h=>by simp[PV.noView] at hp
 | .sl true sz es,cs,F,hp,h=>by
  simp only[RepC] at h ⊢
  rcases h with h | ⟨b,cap,c,e,F',ccs,h1,h2,h3,h4,h5,h6,h7,h8,h9⟩
  ·exact .inl h
  ·exact .inr ⟨b,cap,c,e,F',ccs,h1,h2,h3,h4,h5,h6,h7,RepCs.noView es ccs F' (by simpa[PV.noView] using hp) h8,h9⟩
 | .clo f caps,cs,F,hp,h=>by
  have hc:caps=[]:=by simpa[PV.noView] using hp
  subst hc
  simpa only[RepC,RepCs] using h
 | .ptr v,cs,F,hp,h=>by simp[PV.noView] at hp
 | .tup _,cs,F,_,h=>by simp only[RepC] at h
theorem RepCs.noView:∀ (ps:List PV) (cs:List Value) (F:List Nat),PV.noViews ps=true→RepCs N w ps cs F→RepCs N' w ps cs F
 | [],cs,F,_,h=>by simpa only[RepCs] using h
 | p::ps,cs,F,hp,h=>by
  simp only[PV.noViews,aD] at hp
  simp only[RepCs] at h ⊢
  obtain⟨c1,c2,F1,F2,h1,h2,h3,h4⟩:=h
  exact⟨c1,c2,F1,F2,h1,h2,RepC.noView p c1 F1 hp.1 h3,RepCs.noView ps c2 F2 hp.2 h4⟩
end
theorem RepV.noView{p:PV}{v:Value}{F:List Nat}(hp:p.noView=true)(h:RepV N w p v F):RepV N' w p v F:=by
 cases p with
 | agg fs=>obtain⟨cs,rfl,h⟩:=h; exact⟨cs,rfl,RepCs.noView fs cs F (by simpa[PV.noView] using hp) h⟩
 | _=>exact RepC.noView (N:=N) _ _ _ hp h
end

mutual
def CV.pvw(ob:Nat→Option (Nat×List PV)):CV→PV
 | .pv v=>v.view
 | .own c=>match ob c with
  | some (sz,es)=>.sl false sz (PV.views es)
  | none=>.tup []
 | .node fs=>.agg (CV.pvws ob fs)
 | .gone _=>.tup []
def CV.pvws(ob:Nat→Option (Nat×List PV)):List CV→List PV
 | []=>[]
 | x::xs=>x.pvw ob::CV.pvws ob xs
end
mutual
def CV.whole(ob:Nat→Option (Nat×List PV)):CV→Bool
 | .pv _=>true
 | .own c=>(ob c).isSome
 | .node fs=>CV.wholes ob fs
 | .gone _=>false
def CV.wholes(ob:Nat→Option (Nat×List PV)):List CV→Bool
 | []=>true
 | x::xs=>x.whole ob&&CV.wholes ob xs
end
mutual
def CV.pure:CV→Bool
 | .pv _=>true
 | .own _=>false
 | .node fs=>CV.pures fs
 | .gone _=>false
def CV.pures:List CV→Bool
 | []=>true
 | x::xs=>x.pure&&CV.pures xs
end
mutual
def CV.names:CV→List Nat
 | .pv _=>[]
 | .own c=>[c]
 | .node fs=>CV.namess fs
 | .gone _=>[]
def CV.namess:List CV→List Nat
 | []=>[]
 | x::xs=>x.names++CV.namess xs
end

section
variable{N N':Nat→Prop}{w:World}{hd:Nat→Value}{ob:Nat→Option (Nat×List PV)}{fp:Nat→List Nat}
mutual
theorem RepCV.view(hN:∀ b,N b→N' b)(ho:∀ c sz es,ob c=some (sz,es)→RepC N w (.sl true sz es) [hd c] (fp c)∧∀ b∈fp c,N' b):
 ∀ (x:CV) (cs:List Value),x.whole ob=true→RepCV N w hd x cs→RepC N' w (x.pvw ob) cs []
 | .pv v,cs,_,h=>by simp only[RepCV] at h; exact RepC.demote hN v cs [] (by simp) h
 | .own c,cs,hw,h=>by
  simp only[CV.whole] at hw
  obtain⟨⟨sz,es⟩,he⟩:=Option.isSome_iff_exists.1 hw
  simp only[RepCV] at h
  rw[h.1]
  simp only[CV.pvw,he]
  have:=RepC.demote hN _ _ _ (ho c sz es he).2 (ho c sz es he).1
  simpa only[PV.view] using this
 | .node fs,cs,hw,h=>by
  simp only[RepCV] at h
  simp only[CV.pvw,RepC]
  exact RepCVs.view hN ho fs cs (by simpa[CV.whole] using hw) h
 | .gone n,cs,hw,h=>by simp[CV.whole] at hw
theorem RepCVs.view(hN:∀ b,N b→N' b)(ho:∀ c sz es,ob c=some (sz,es)→RepC N w (.sl true sz es) [hd c] (fp c)∧∀ b∈fp c,N' b):
 ∀ (xs:List CV) (cs:List Value),CV.wholes ob xs=true→RepCVs N w hd xs cs→RepCs N' w (CV.pvws ob xs) cs []
 | [],cs,_,h=>by simp only[RepCVs] at h; simp[CV.pvws,RepCs,h]
 | x::xs,cs,hw,h=>by
  simp only[CV.wholes,aD] at hw
  simp only[RepCVs] at h
  obtain⟨c1,c2,h1,h2,h3⟩:=h
  simp only[CV.pvws,RepCs]
  exact⟨c1,c2,[],[],h1,rfl,RepCV.view hN ho x c1 hw.1 h2,RepCVs.view hN ho xs c2 hw.2 h3⟩
end
mutual
theorem RepCV.pureView:∀ (x:CV) (cs:List Value),x.pure=true→RepCV N w hd x cs→RepC N w (x.pvw ob) cs []
 | .pv v,cs,_,h=>by simp only[RepCV] at h; exact RepC.demote (fun _ h=>h) v cs [] (by simp) h
 | .own c,cs,hw,h=>by simp[CV.pure] at hw
 | .node fs,cs,hw,h=>by
  simp only[RepCV] at h
  simp only[CV.pvw,RepC]
  exact RepCVs.pureView fs cs (by simpa[CV.pure] using hw) h
 | .gone n,cs,hw,h=>by simp[CV.pure] at hw
theorem RepCVs.pureView:∀ (xs:List CV) (cs:List Value),CV.pures xs=true→RepCVs N w hd xs cs→RepCs N w (CV.pvws ob xs) cs []
 | [],cs,_,h=>by simp only[RepCVs] at h; simp[CV.pvws,RepCs,h]
 | x::xs,cs,hw,h=>by
  simp only[CV.pures,aD] at hw
  simp only[RepCVs] at h
  obtain⟨c1,c2,h1,h2,h3⟩:=h
  simp only[CV.pvws,RepCs]
  exact⟨c1,c2,[],[],h1,rfl,RepCV.pureView x c1 hw.1 h2,RepCVs.pureView xs c2 hw.2 h3⟩
end

theorem PiA_(v:PV):(CV.pv v.view).isAgg=(CV.pv v).isAgg:=by cases v<;>simp[PV.view,CV.isAgg]

theorem rVo_{p:PV}{v:Value}{F:List Nat}{agg:Bool}(ha:(CV.pv p).isAgg=agg)(h:(agg=true∧∃ cs,v=.agg cs.toArray∧RepC N w p cs F)∨(agg=false∧RepC N w p [v] F)):RepV N w p v F:=by
 subst ha
 cases p with
 | agg fs=>
  rcases h with⟨_,cs,h1,h2⟩ | ⟨h1,_⟩
  ·exact⟨cs,h1,by simpa[RepC] using h2⟩
  ·simp[CV.isAgg] at h1
 | _=>
  rcases h with⟨h1,_⟩ | ⟨_,h2⟩
  ·simp[CV.isAgg] at h1
  ·exact h2

theorem CiA_{x:CV}(h:x.whole ob=true):(CV.pv (x.pvw ob)).isAgg=x.isAgg:=by
 cases x with
 | pv v=>simp[CV.pvw,PiA_]
 | own c=>simp only[CV.whole] at h; obtain⟨⟨sz,es⟩,he⟩:=Option.isSome_iff_exists.1 h; simp[CV.pvw,he,CV.isAgg]
 | node fs=>simp[CV.pvw,CV.isAgg]
 | gone n=>simp[CV.whole] at h

theorem CVal.view(hN:∀ b,N b→N' b)(ho:∀ c sz es,ob c=some (sz,es)→RepC N w (.sl true sz es) [hd c] (fp c)∧∀ b∈fp c,N' b){x:CV}{v:Value}(hx:x.whole ob=true)
 (h:CVal N w hd x v):RepV N' w (x.pvw ob) v []:=by
 refine rVo_ (CiA_ hx) ?_
 rcases h with⟨h1,cs,h2,h3⟩ | ⟨h1,h2,_⟩
 ·exact .inl ⟨h1,cs,h2,RepCV.view hN ho x cs hx h3⟩
 ·exact .inr ⟨h1,RepCV.view hN ho x _ hx h2⟩
mutual
theorem Cpw_1:∀ x:CV,x.pure=true→x.whole ob=true
 | .pv _,_=>rfl
 | .own _,h=>by simp[CV.pure] at h
 | .node fs,h=>by simp only[CV.whole]; exact Cpw_ fs (by simpa[CV.pure] using h)
 | .gone _,h=>by simp[CV.pure] at h
theorem Cpw_:∀ xs:List CV,CV.pures xs=true→CV.wholes ob xs=true
 | [],_=>rfl
 | x::xs,h=>by simp only[CV.pures,aD] at h; simp[CV.wholes,Cpw_1 x h.1,Cpw_ xs h.2]
end
theorem CVal.pureView{x:CV}{v:Value}(hx:x.pure=true)(h:CVal N w hd x v):RepV N w (x.pvw ob) v []:=by
 refine rVo_ (CiA_ (Cpw_1 x hx)) ?_
 rcases h with⟨h1,cs,h2,h3⟩ | ⟨h1,h2,_⟩
 ·exact .inl ⟨h1,cs,h2,RepCV.pureView x cs hx h3⟩
 ·exact .inr ⟨h1,RepCV.pureView x _ hx h2⟩
end

def RepR(N:Nat→Prop)(w:World):PV→Value→List Nat→Prop
 | .tup ps,v,F=>∃ vs,v=.tuple vs.toArray∧RepVs N w ps vs F
 | p,v,F=>RepV N w p v F

def CallIs(P:Program)(f:FuncId):Prop:=∃ fn,P.funcs[f]?=some fn∧(fn.name== "runtime.NumGoroutine")=false∧fn.body.isNone=false

def Sat(P:Program)(f:FuncId)(args:List PV)(res:PV):Prop:=
 CallIs P f∧∀ (w:World) (N:Nat→Prop) (vs:List Value) (Fs:List Nat),(∀ b,N b→b<w.heap.size∧b∉Fs)→Fs.Nodup→(∀ b∈Fs,b<w.heap.size)→RepVs N w args vs Fs→
  Calls P f vs.toArray w fun e w'=>∃ v F,e=.returned v∧KeepX Fs w.heap.size w w'∧
   RepR (fun b=>N b∨((w.heap.size≤b∨b∈Fs)∧b<w'.heap.size∧b∉F)) w' res v F∧F.Nodup∧∀ b∈F,(w.heap.size≤b∨b∈Fs)∧b<w'.heap.size

theorem rcF_{P:Program}{f:FuncId}(h:CallIs P f)(args:Array Value)(w:World):(callFunc f args).run P w=.ok (.enter f args) w:=by
 obtain⟨fn,h1,h2,h3⟩:=h
 simp only[callFunc,Sem.run_bind,run_program,Result.andThen_ok,h1,h2,h3,Bool.false_eq_true,if_false,Sem.run_pure]

mutual
def e_1:PV→Nat→CV×List (Nat×(Nat×List PV))×Nat
 | .sl true sz es,c=>(.own c,[(c,(sz,es))],c+1)
 | .agg fs,c=>if PV.noOwns fs then(.pv (.agg fs),[],c) else let r:=e_ fs c; (.node r.1,r.2.1,r.2.2)
 | p,c=>(.pv p,[],c)
def e_:List PV→Nat→List CV×List (Nat×(Nat×List PV))×Nat
 | [],c=>([],[],c)
 | p::ps,c=>let r:=e_1 p c; let s:=e_ ps r.2.2; (r.1::s.1,r.2.1++s.2.1,s.2.2)
end

structure News(N:Nat→Prop)(w:World)(hdv:Nat→Value)(fpv:Nat→List Nat)(F:List Nat)(lo hi:Nat)(news:List (Nat×(Nat×List PV))):Prop where
 rep:∀ n sz es,(n,(sz,es))∈news→lo≤n∧n<hi∧RepC N w (.sl true sz es) [hdv n] (fpv n)∧(fpv n).Nodup∧∀ b∈fpv n,b∈F
 apart:∀ n m p q,(n,p)∈news→(m,q)∈news→n≠m→∀ b∈fpv n,b∉fpv m
 once:(news.map (·.1)).Nodup
 le:lo≤hi
 all:∀ n,lo≤n→n<hi→n∈news.map (·.1)

mutual
theorem eo_{N:Nat→Prop}{w:World}:∀ (p:PV) (cs:List Value) (F:List Nat) (c:Nat),RepC N w p cs F→F.Nodup→
 ∃ hdv fpv,News N w hdv fpv F c (e_1 p c).2.2 (e_1 p c).2.1∧∀ hd:Nat→Value,(∀ n,c≤n→n<(e_1 p c).2.2→hd n=hdv n)→RepCV N w hd (e_1 p c).1 cs
 | .lit v,cs,F,c,h,_=>by
  have hF:=RepC.noOwn _ _ _ (by rfl) h; subst hF
  exact⟨fun _=>undef,fun _=>[],⟨by simp[e_1],by simp[e_1],by simp[e_1],by simp[e_1],fun n h1 h2=>absurd h2 (by simp[e_1]; omega)⟩,fun hd _=>by simpa[e_1,RepCV] using h⟩
 | .sl false sz es,cs,F,c,h,_=>by
  have hF:=RepC.noOwn _ _ _ (by rfl) h; subst hF
  exact⟨fun _=>undef,fun _=>[],⟨by simp[e_1],by simp[e_1],by simp[e_1],by simp[e_1],fun n h1 h2=>absurd h2 (by simp[e_1]; omega)⟩,fun hd _=>by simpa[e_1,RepCV] using h⟩
 | .clo f caps,cs,F,c,h,_=>by
  have hF:=RepC.noOwn _ _ _ (by rfl) h; subst hF
  exact⟨fun _=>undef,fun _=>[],⟨by simp[e_1],by simp[e_1],by simp[e_1],by simp[e_1],fun n h1 h2=>absurd h2 (by simp[e_1]; omega)⟩,fun hd _=>by simpa[e_1,RepCV] using h⟩
 | .ptr v,cs,F,c,h,_=>by
  have hF:=RepC.noOwn _ _ _ (by rfl) h; subst hF
  exact⟨fun _=>undef,fun _=>[],⟨by simp[e_1],by simp[e_1],by simp[e_1],by simp[e_1],fun n h1 h2=>absurd h2 (by simp[e_1]; omega)⟩,fun hd _=>by simpa[e_1,RepCV] using h⟩
 | .tup _,cs,F,c,h,_=>by simp only[RepC] at h
 | .sl true sz es,cs,F,c,h,hn=>by
  have hl:=RepC.length _ _ _ h
  simp only[PV.size] at hl
  obtain⟨v,rfl⟩:=List.length_eq_one_iff.1 hl
  have h1:=RepC.one _ _ _ h v (by simp)
  refine⟨fun _=>v,fun _=>F,⟨?_,?_,by simp[e_1],by simp[e_1],fun n h1 h2=>by simp[e_1] at h2 ⊢; omega⟩,fun hd hh=>?_⟩
  ·intro n sz' es' hm
   simp only[e_1,List.mem_singleton,Prod.mk.injEq] at hm
   obtain⟨rfl,rfl,rfl⟩:=hm
   exact⟨Nat.le_refl _,by simp[e_1],h,hn,fun b hb=>hb⟩
  ·intro n m p q h1 h2 hne
   simp only[e_1,List.mem_singleton,Prod.mk.injEq] at h1 h2
   exact absurd (h1.1.trans h2.1.symm) hne
  ·simp only[e_1,RepCV]
   rw[hh c (Nat.le_refl _) (by simp[e_1])]
   exact⟨rfl,h1⟩
 | .agg fs,cs,F,c,h,hn=>by
  by_cases hno:PV.noOwns fs=true
  ·have hF:=RepC.noOwn (.agg fs) _ _ (by simpa[PV.noOwn] using hno) h; subst hF
   refine⟨fun _=>undef,fun _=>[],?_,?_⟩
   ·simp only[e_1,hno,if_true]; exact⟨by simp,by simp,by simp,Nat.le_refl _,fun n h1 h2=>absurd h2 (by omega)⟩
   ·intro hd _; simp only[e_1,hno,if_true,RepCV]; exact h
  ·simp only[RepC] at h
   obtain⟨hdv,fpv,h1,h2⟩:=eo_1 fs cs F c h hn
   refine⟨hdv,fpv,?_,?_⟩
   ·simp only[e_1,hno]; exact h1
   ·intro hd hh
    simp only[e_1,hno] at hh ⊢
    exact h2 hd hh
theorem eo_1{N:Nat→Prop}{w:World}:∀ (ps:List PV) (cs:List Value) (F:List Nat) (c:Nat),RepCs N w ps cs F→F.Nodup→
 ∃ hdv fpv,News N w hdv fpv F c (e_ ps c).2.2 (e_ ps c).2.1∧∀ hd:Nat→Value,(∀ n,c≤n→n<(e_ ps c).2.2→hd n=hdv n)→RepCVs N w hd (e_ ps c).1 cs
 | [],cs,F,c,h,_=>by
  simp only[RepCs] at h
  exact⟨fun _=>undef,fun _=>[],⟨by simp[e_],by simp[e_],by simp[e_],by simp[e_],fun n h1 h2=>absurd h2 (by simp[e_]; omega)⟩,fun hd _=>by simp[e_,RepCVs,h.1]⟩
 | p::ps,cs,F,c,h,hn=>by
  simp only[RepCs] at h
  obtain⟨c1,c2,F1,F2,e1,e2,h3,h4⟩:=h
  subst e2
  have hn1:F1.Nodup:=(List.nodup_append.1 hn).1
  have hn2:F2.Nodup:=(List.nodup_append.1 hn).2.1
  have hdis:∀ b∈F1,b∉F2:=fun b hb hb'=>(List.nodup_append.1 hn).2.2 b hb b hb' rfl
  obtain⟨hd1,fp1,n1,r1⟩:=eo_ p c1 F1 c h3 hn1
  obtain⟨hd2,fp2,n2,r2⟩:=eo_1 ps c2 F2 (e_1 p c).2.2 h4 hn2
  have hle1:=n1.le
  have hle2:=n2.le
  have key:∀ n,n<(e_1 p c).2.2→¬ (e_1 p c).2.2≤n:=fun n h=>by omega
  refine⟨fun n=>if n<(e_1 p c).2.2 then hd1 n else hd2 n,fun n=>if n<(e_1 p c).2.2 then fp1 n else fp2 n,⟨?_,?_,?_,?_,?_⟩,?_⟩
  ·intro n sz es hm
   simp only[e_,List.mem_append] at hm ⊢
   rcases hm with hm | hm
   ·obtain⟨g1,g2,g3,g4,g5⟩:=n1.rep n sz es hm
    simp only[g2,if_true]
    exact⟨g1,by omega,g3,g4,fun b hb=>.inl (g5 b hb)⟩
   ·obtain⟨g1,g2,g3,g4,g5⟩:=n2.rep n sz es hm
    have:¬ n<(e_1 p c).2.2:=by omega
    simp only[this,if_false]
    exact⟨by omega,g2,g3,g4,fun b hb=>.inr (g5 b hb)⟩
  ·intro n m pn pm h1 h2 hne
   simp only[e_,List.mem_append] at h1 h2
   rcases h1 with h1 | h1<;>rcases h2 with h2 | h2
   ·have g1:=(n1.rep n pn.1 pn.2 h1).2.1; have g2:=(n1.rep m pm.1 pm.2 h2).2.1
    simp only[g1,g2,if_true]; exact n1.apart n m pn pm h1 h2 hne
   ·have g1:=(n1.rep n pn.1 pn.2 h1).2.1; have g2:=(n2.rep m pm.1 pm.2 h2).1
    have:¬ m<(e_1 p c).2.2:=by omega
    simp only[g1,this,if_true,if_false]
    exact fun b hb hb'=>hdis b ((n1.rep n pn.1 pn.2 h1).2.2.2.2 b hb) ((n2.rep m pm.1 pm.2 h2).2.2.2.2 b hb')
   ·have g1:=(n2.rep n pn.1 pn.2 h1).1; have g2:=(n1.rep m pm.1 pm.2 h2).2.1
    have:¬ n<(e_1 p c).2.2:=by omega
    simp only[g2,this,if_true,if_false]
    exact fun b hb hb'=>hdis b ((n1.rep m pm.1 pm.2 h2).2.2.2.2 b hb') ((n2.rep n pn.1 pn.2 h1).2.2.2.2 b hb)
   ·have g1:=(n2.rep n pn.1 pn.2 h1).1; have g2:=(n2.rep m pm.1 pm.2 h2).1
    have e1:¬ n<(e_1 p c).2.2:=by omega
    have e2:¬ m<(e_1 p c).2.2:=by omega
    simp only[e1,e2,if_false]; exact n2.apart n m pn pm h1 h2 hne
  ·simp only[e_,List.map_append]
   refine List.nodup_append.2 ⟨n1.once,n2.once,?_⟩
   intro a ha b hb e
   subst e
   obtain⟨⟨_,q1⟩,h1,rfl⟩:=List.mem_map.1 ha
   obtain⟨⟨m,q2⟩,h2,e⟩:=List.mem_map.1 hb
   have g1:=(n1.rep _ q1.1 q1.2 h1).2.1
   have g2:=(n2.rep m q2.1 q2.2 h2).1
   simp only at e; omega
  ·simp only[e_]; omega
  ·intro n h1 h2
   simp only[e_,List.map_append,List.mem_append] at h2 ⊢
   by_cases hlt:n<(e_1 p c).2.2
   ·exact .inl (n1.all n h1 hlt)
   ·exact .inr (n2.all n (by omega) h2)
  ·intro hd hh
   simp only[e_,RepCVs] at hh ⊢
   refine⟨c1,c2,e1,r1 hd (fun n h1 h2=>?_),r2 hd (fun n h1 h2=>?_)⟩
   ·rw[hh n h1 (by omega)]; simp[h2]
   ·rw[hh n (by omega) h2]; have:¬ n<(e_1 p c).2.2:=by omega
    simp[this]
end

theorem uAn_{α:Type}:∀ (l:List (Nat×α)) (f:Nat→α) (n:Nat),n∉l.map (·.1)→updAll f l n=f n
 | [],_,_,_=>rfl
 | (k,v)::l,f,n,h=>by
  simp only[List.map_cons,List.mem_cons,not_or] at h
  simp only[updAll]
  rw[uAn_ l _ n h.2,upd_ne h.1]
theorem uAm_{α:Type}:∀ (l:List (Nat×α)) (f:Nat→α) (n:Nat) (v:α),(l.map (·.1)).Nodup→(n,v)∈l→updAll f l n=v
 | [],_,_,_,_,h=>by simp at h
 | (k,u)::l,f,n,v,hn,h=>by
  simp only[List.map_cons,List.nodup_cons] at hn
  simp only[updAll]
  rcases List.mem_cons.1 h with h | h
  ·obtain⟨rfl,rfl⟩:=Prod.mk.inj h
   rw[uAn_ l _ n hn.1,us_]
  ·exact uAm_ l _ n v hn.2 h

def newObjs(news:List (Nat×(Nat×List PV))):List (Nat×Option (Nat×List PV)):=news.map fun x=>(x.1,some x.2)
theorem nOk_(news:List (Nat×(Nat×List PV))):(newObjs news).map (·.1)=news.map (·.1):=by simp[newObjs]

def fps(fp:Nat→List Nat):List Nat→List Nat
 | []=>[]
 | c::cs=>fp c++fps fp cs
theorem fa_(fp:Nat→List Nat):∀ a b:List Nat,fps fp (a++b)=fps fp a++fps fp b
 | [],b=>rfl
 | x::a,b=>by simp[fps,fa_ fp a b]
theorem mf_{fp:Nat→List Nat}{b:Nat}:∀ {cs:List Nat},b∈fps fp cs↔∃ c∈cs,b∈fp c
 | []=>by simp[fps]
 | c::cs=>by simp[fps,mf_ (cs:=cs)]

def deadObjs(D:List Nat):List (Nat×Option (Nat×List PV)):=D.map fun c=>(c,none)
theorem uAd_(D:List Nat)(f:Nat→Option (Nat×List PV))(c:Nat):updAll f (deadObjs D) c=if c∈D then none else f c:=by
 induction D generalizing f with
 | nil=>rfl
 | cons d D ih=>
  simp only[deadObjs,List.map_cons,updAll] at ih ⊢
  rw[ih]
  by_cases h:c∈D
  ·simp[h]
  ·by_cases hd:c=d
   ·simp[h,hd,upd]
   ·simp[h,hd,upd]
theorem uAa_{α:Type}:∀ (l m:List (Nat×α)) (f:Nat→α),updAll f (l++m)=updAll (updAll f l) m
 | [],_,_=>rfl
 | (k,v)::l,m,f=>by simp only[List.cons_append,updAll]; exact uAa_ l m _

theorem RnR_{κ:Ctx}{G:Gh}{st:St}{a:Act}{w w':World}{d:Nat}{v:Value}{F D:List Nat}{lo hi:Nat}{news:List (Nat×(Nat×List PV))}{N':Nat→Prop}{hdv:Nat→Value}{fpv:Nat→List Nat}{sv:SlotV}
 (h:RG κ G st a w) (hd:d<κ.nt) (hD:∀ c∈D,(st.o c).isSome=true) (hb:KeepX (fps G.fp D) w.heap.size w w') (hF:∀ b∈F,(w.heap.size≤b∨b∈fps G.fp D)∧b<w'.heap.size)
 (hN':∀ b,N' b→Nof κ st G w b∨((w.heap.size≤b∨b∈fps G.fp D)∧b<w'.heap.size∧b∉F)) (hnews:News N' w' hdv fpv F lo hi news) (hfresh:∀ n∈news.map (·.1),st.noC n) (hnb:isBox sv=false)
 (hsv:∀ (N:Nat→Prop) (G':Gh),(∀ b,N' b→N b)→(∀ n,lo≤n→n<hi→G'.hd n=hdv n)→SlotOk N w' G' d v sv):
 R κ { s:=upd st.s d sv,o:=updAll st.o (deadObjs D++newObjs news) } (a.put (some d) v) w':=by
 have hbs:=h.keep.size
 let G':Gh:={ hd:=fun n=>if n∈news.map (·.1) then hdv n else G.hd n,fp:=fun n=>if n∈news.map (·.1) then fpv n else G.fp n,ad:=G.ad }
 have hDin:∀ b,b∈fps G.fp D→∃ c p,c∈D∧st.o c=some p∧b∈G.fp c:=by
  intro b hb'
  obtain⟨c,hc,hm⟩:=mf_.1 hb'
  obtain⟨p,hp⟩:=Option.isSome_iff_exists.1 (hD c hc)
  exact⟨c,p,hc,hp,hm⟩
 have hDlt:∀ b,b∈fps G.fp D→(κ.w0.heap.size≤b∨b∈κ.L)∧b<w.heap.size:=by
  intro b hb'
  obtain⟨c,p,_,hp,hm⟩:=hDin b hb'
  exact(h.objs c p.1 p.2 hp).2.2 b hm
 have hlt:∀ b,Nof κ st G w b→b<w.heap.size:=fun b hb=>hb.lt h
 have hNX:∀ b,Nof κ st G w b→b∉fps G.fp D:=by
  intro b hb' hm
  obtain⟨c,p,_,hp,hm⟩:=hDin b hm
  exact hb'.2 (.inr ⟨c,p,hp,hm⟩)
 have hbox:∀ r,isBox (upd st.s d sv r)=true→isBox (st.s r)=true∧r≠d:=by
  intro r hr
  simp only[upd] at hr
  split at hr
  ·rw[hnb] at hr; cases hr
  ·exact⟨hr,by assumption⟩
 have hbX:∀ r,isBox (st.s r)=true→G.ad r∉fps G.fp D:=by
  intro r hr hm
  obtain⟨c,p,_,hp,hm⟩:=hDin _ hm
  exact h.bo r c p hr hp hm
 have hob:∀ c sz es,updAll st.o (deadObjs D++newObjs news) c=some (sz,es)→(c∈news.map (·.1)∧(c,(sz,es))∈news)∨(c∉news.map (·.1)∧c∉D∧st.o c=some (sz,es)):=by
  intro c sz es hc
  rw[uAa_] at hc
  by_cases hm:c∈news.map (·.1)
  ·left
   refine⟨hm,?_⟩
   obtain⟨⟨n,p⟩,h1,rfl⟩:=List.mem_map.1 hm
   have h2:(n,some p)∈newObjs news:=List.mem_map.2 ⟨(n,p),h1,rfl⟩
   rw[uAm_ _ _ n (some p) (by rw[nOk_]; exact hnews.once) h2] at hc
   cases hc; exact h1
  ·right
   rw[uAn_ _ _ _ (by rw[nOk_]; exact hm),uAd_] at hc
   by_cases hcD:c∈D
   ·simp[hcD] at hc
   ·simp only[hcD,if_false] at hc; exact⟨hm,hcD,hc⟩
 have hoX:∀ c sz es,c∉D→st.o c=some (sz,es)→∀ b∈G.fp c,b∉fps G.fp D:=by
  intro c sz es hcD ho b hb' hm
  obtain⟨c',p',hc',hp',hm'⟩:=hDin b hm
  exact h.oo c c' _ p' ho hp' (fun e=>hcD (e▸hc')) b hb' hm'
 have hFnot:∀ b∈F,¬ Nof κ st G w b:=by
  intro b hbF hn
  rcases (hF b hbF).1 with h1 | h1
  ·have:=hlt b hn; omega
  ·exact hNX b hn h1
 have hNw:∀ b,Nof κ st G w b→Nof κ { s:=upd st.s d sv,o:=updAll st.o (deadObjs D++newObjs news) } G' w' b:=by
  intro b hb'
  have hbl:=hlt b hb'
  refine⟨?_,fun hp=>?_⟩
  ·rcases hb'.1 with h1 | h1
   ·exact .inl h1
   ·exact .inr ⟨h1.1,Nat.lt_of_lt_of_le h1.2 hb.size⟩
  ·rcases hp with⟨r,h1,h2⟩ | ⟨c,⟨sz,es⟩,h1,h2⟩
   ·exact hb'.2 (.inl ⟨r,(hbox r h1).1,h2⟩)
   ·rcases hob c sz es h1 with⟨hm,hin⟩ | ⟨hm,_,ho⟩
    ·simp only[G',hm,if_true] at h2
     exact hFnot b ((hnews.rep c sz es hin).2.2.2.2 b h2) hb'
    ·simp only[G',hm,if_false] at h2
     exact hb'.2 (.inr ⟨c,(sz,es),ho,h2⟩)
 have hNn:∀ b,N' b→Nof κ { s:=upd st.s d sv,o:=updAll st.o (deadObjs D++newObjs news) } G' w' b:=by
  intro b hb'
  rcases hN' b hb' with h1 | ⟨h1,h2,h3⟩
  ·exact hNw b h1
  ·refine⟨.inr ⟨?_,h2⟩,fun hp=>?_⟩
   ·rcases h1 with h1 | h1
    ·exact .inl (by omega)
    ·exact(hDlt b h1).1
   ·rcases hp with⟨r,g1,g2⟩ | ⟨c,⟨sz,es⟩,g1,g2⟩
    ·simp only[G'] at g2
     rcases h1 with h1 | h1
     ·have:=(h.boxes r (hbox r g1).1).2; omega
     ·exact hbX r (hbox r g1).1 (g2▸h1)
    ·rcases hob c sz es g1 with⟨hm,hin⟩ | ⟨hm,hcD,ho⟩
     ·simp only[G',hm,if_true] at g2
      exact h3 ((hnews.rep c sz es hin).2.2.2.2 b g2)
     ·simp only[G',hm,if_false] at g2
      rcases h1 with h1 | h1
      ·have:=((h.objs c sz es ho).2.2 b g2).2; omega
      ·exact hoX c sz es hcD ho b g2 h1
 have hw:∀ b,b<w.heap.size→b∉fps G.fp D→w'.heap[b]?=w.heap[b]?:=hb.block
 refine⟨G',h.step hd ⟨hb.os,hb.tape,hb.output,hb.size,fun k hk hkL=>hw k (by omega) (fun hm=>?_)⟩ hNw (fun b hb'=>hw b (hlt b hb') (hNX b hb')) (fun k hk=>.inl (by simp[upd,hk])) ?_ ?_ (fun _ _ _ _ _=>rfl) ?_ ?_ ?_ ?_ ?_ ?_ (fun c hc=>?_)⟩
 rotate_right
 ·have hm:c∉news.map (·.1):=fun hm=>by have:=(hfresh c hm).1.1; omega
  simp only[G',hm,if_false]
 ·rcases (hDlt k hm).1 with h1 | h1
  ·omega
  ·exact hkL h1
 ·have:upd st.s d sv d=sv:=us_ _ _ _
  simp only[this]
  refine hsv _ G' hNn (fun n h1 h2=>?_)
  simp only[G',hnews.all n h1 h2,if_true]
 ·intro k c _ _ hc
  by_cases hm:c∈news.map (·.1)
  ·rw[(hfresh c hm).2 k] at hc; cases hc
  ·simp only[G',hm,if_false]
 ·intro k _ _ hbk
  exact⟨rfl,hw _ (h.boxes k hbk).2 (hbX k hbk)⟩
 ·intro c sz es hc
  rcases hob c sz es hc with⟨hm,hin⟩ | ⟨hm,hcD,ho⟩
  ·obtain⟨g1,g2,g3,g4,g5⟩:=hnews.rep c sz es hin
   simp only[G',hm,if_true]
   refine⟨RepC.frame hNn (fun _ _=>rfl) _ _ _ (fun _ _=>rfl) g3,g4,fun b hb'=>⟨?_,(hF b (g5 b hb')).2⟩⟩
   rcases (hF b (g5 b hb')).1 with h1 | h1
   ·exact .inl (by omega)
   ·exact(hDlt b h1).1
  ·simp only[G',hm,if_false]
   obtain⟨g1,g2,g3⟩:=h.objs c sz es ho
   exact⟨RepC.frame hNw (fun b hb'=>hw b (hlt b hb') (hNX b hb')) _ _ _ (fun b hb'=>hw b (g3 b hb').2 (hoX c sz es hcD ho b hb')) g1,g2,fun b hb'=>⟨(g3 b hb').1,Nat.lt_of_lt_of_le (g3 b hb').2 hb.size⟩⟩
 ·intro r hr
  have:=h.boxes r (hbox r hr).1
  exact⟨this.1,Nat.lt_of_lt_of_le this.2 hb.size⟩
 ·exact fun r r' h1 h2=>h.bb r r' (hbox r h1).1 (hbox r' h2).1
 ·intro r c ⟨sz,es⟩ h1 h2 hm'
  rcases hob c sz es h2 with⟨hm,hin⟩ | ⟨hm,hcD,ho⟩
  ·simp only[G',hm,if_true] at hm'
   rcases (hF _ ((hnews.rep c sz es hin).2.2.2.2 _ hm')).1 with g1 | g1
   ·have g2:=(h.boxes r (hbox r h1).1).2; omega
   ·exact hbX r (hbox r h1).1 g1
  ·simp only[G',hm,if_false] at hm'
   exact h.bo r c (sz,es) (hbox r h1).1 ho hm'
 ·intro c c' ⟨sz,es⟩ ⟨sz',es'⟩ h1 h2 hne b hb1 hb2
  rcases hob c sz es h1 with⟨hm,hin⟩ | ⟨hm,hcD,ho⟩<;>rcases hob c' sz' es' h2 with⟨hm',hin'⟩ | ⟨hm',hcD',ho'⟩
  ·simp only[G',hm,hm',if_true] at hb1 hb2
   exact hnews.apart c c' _ _ hin hin' hne b hb1 hb2
  ·simp only[G',hm,hm',if_true,if_false] at hb1 hb2
   rcases (hF _ ((hnews.rep c sz es hin).2.2.2.2 _ hb1)).1 with g1 | g1
   ·have g2:=((h.objs c' sz' es' ho').2.2 b hb2).2; omega
   ·exact hoX c' sz' es' hcD' ho' b hb2 g1
  ·simp only[G',hm,hm',if_true,if_false] at hb1 hb2
   rcases (hF _ ((hnews.rep c' sz' es' hin').2.2.2.2 _ hb2)).1 with g1 | g1
   ·have g2:=((h.objs c sz es ho).2.2 b hb1).2; omega
   ·exact hoX c sz es hcD ho b hb1 g1
  ·simp only[G',hm,hm',if_false] at hb1 hb2
   exact h.oo c c' _ _ ho ho' hne b hb1 hb2
end Go.Av
