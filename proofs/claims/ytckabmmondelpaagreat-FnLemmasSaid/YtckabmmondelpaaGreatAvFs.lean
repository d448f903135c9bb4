/- Lemmas of the proof; each says what it shows. -/
import Derived.Test.YtckabmmondelpaaGreatAvZ
import Derived.MapKept
import Derived.ChangeMaps4
import Derived.ChangeMaps5
import Derived.Maps.RangeRun
set_option linter.unusedSimpArgs false
set_option linter.unusedVariables false
set_option linter.defProp false
namespace Go.Av
open And renaming intro→ae
open Bool renaming and_eq_true→aq
open CV renaming wholes→au,pvos→aB,namess→ar,pvws→aL
open List renaming map_cons→aD,append_nil→bA,mem_append→aS,mem_cons→aU,nil_append→bh,append_assoc→aY
open Nat renaming le_refl→aJ
open PV renaming size→aM
open St renaming set→aX
section

theorem RnR_1{κ:Ctx}{G:Gh}{st:St}{a:Act}{w w':World}{d r:Nat}{v:Value}{F D:List Nat}{lo hi:Nat}{news:List (Nat×(Nat×List PV))}{N':Nat→Prop}{hdv:Nat→Value}{fpv:Nat→List Nat}{sv bv:SlotV}
 (h:RG κ G st a w) (hd:d<κ.nt) (hrd:r≠d) (hbr:iB_ (st.s r)=true) (hbv:iB_ bv=true) (hD:∀ c∈D,(st.o c).isSome=true) (hb:KeepX (G.ad r::fps G.fp D) w.heap.size w w') (hF:∀ b∈F,(w.heap.size≤b∨b∈fps G.fp D)∧b<w'.heap.size)
 (hN':∀ b,N' b→Nof κ st G w b∨((w.heap.size≤b∨b∈fps G.fp D)∧b<w'.heap.size∧b∉F)) (hnews:News N' w' hdv fpv F lo hi news) (hfresh:∀ n∈news.map (·.1),st.noC n) (hnb:iB_ sv=false)
 (hsv:∀ (N:Nat→Prop) (G':Gh),(∀ b,N' b→N b)→(∀ n,lo≤n→n<hi→G'.hd n=hdv n)→SlotOk N w' G' d v sv)
 (hbok:∀ (N:Nat→Prop) (G':Gh),(∀ b,N' b→N b)→(∀ b,Nof κ st G w b→N b)→(∀ n,lo≤n→n<hi→G'.hd n=hdv n)→G'.ad=G.ad→SlotOk N w' G' r (a.tmps.getD r undef) bv):
 R κ { s:=upd (upd st.s r bv) d sv,o:=uA_ st.o (deadObjs D++newObjs news) } (a.put (some d) v) w':=by
 have hbs:=h.keep.size
 let G':Gh:={ hd:=fun n=>if n∈news.map (·.1) then hdv n else G.hd n,fp:=fun n=>if n∈news.map (·.1) then fpv n else G.fp n,ad:=G.ad }
 have hDin:∀ b,b∈fps G.fp D→∃ c p,c∈D∧st.o c=some p∧b∈G.fp c:=by
  intro b hb'
  obtain⟨c,hc,hm⟩:=mf_.1 hb'
  obtain⟨p,hp⟩:=Option.isSome_iff_exists.1 (hD c hc)
  exact⟨c,p,hc,hp,hm⟩
 have hDlt:∀ b,b∈fps G.fp D→(κ.w0.heap.size≤b∨b∈κ.L)∧b<w.heap.size:=by
  intro b hb'
  obtain⟨c,p,_,hp,hm⟩:=hDin b hb'
  exact(h.objs c p.1 p.2 hp).2.2 b hm
 have hlt:∀ b,Nof κ st G w b→b<w.heap.size:=fun b hb=>hb.lt h
 have hNX:∀ b,Nof κ st G w b→b∉fps G.fp D:=by
  intro b hb' hm
  obtain⟨c,p,_,hp,hm⟩:=hDin b hm
  exact hb'.2 (.inr ⟨c,p,hp,hm⟩)
 have hNr:∀ b,Nof κ st G w b→b≠G.ad r:=fun b hb' e=>hb'.2 (.inl ⟨r,hbr,e⟩)
 have hbox:∀ k,iB_ (upd (upd st.s r bv) d sv k)=true→iB_ (st.s k)=true∧k≠d:=by
  intro k hk
  simp only[upd] at hk
  split at hk
  ·rw[hnb] at hk; cases hk
  ·rename_i hkd
   refine⟨?_,hkd⟩
   split at hk
   ·rename_i e; rw[e]; exact hbr
   ·exact hk
 have hbX:∀ r,iB_ (st.s r)=true→G.ad r∉fps G.fp D:=by
  intro r hr hm
  obtain⟨c,p,_,hp,hm⟩:=hDin _ hm
  exact h.bo r c p hr hp hm
 have hob:∀ c sz es,uA_ st.o (deadObjs D++newObjs news) c=some (sz,es)→(c∈news.map (·.1)∧(c,(sz,es))∈news)∨(c∉news.map (·.1)∧c∉D∧st.o c=some (sz,es)):=by
  intro c sz es hc
  rw[uAa_] at hc
  by_cases hm:c∈news.map (·.1)
  ·left
   refine⟨hm,?_⟩
   obtain⟨⟨n,p⟩,h1,rfl⟩:=List.mem_map.1 hm
   have h2:(n,some p)∈newObjs news:=List.mem_map.2 ⟨(n,p),h1,rfl⟩
   rw[uAm_ _ _ n (some p) (by rw[nOk_]; exact hnews.once) h2] at hc
   cases hc; exact h1
  ·right
   rw[uAn_ _ _ _ (by rw[nOk_]; exact hm),uAd_] at hc
   by_cases hcD:c∈D
   ·simp[hcD] at hc
   ·simp only[hcD,if_false] at hc; exact⟨hm,hcD,hc⟩
 have hoX:∀ c sz es,c∉D→st.o c=some (sz,es)→∀ b∈G.fp c,b∉fps G.fp D:=by
  intro c sz es hcD ho b hb' hm
  obtain⟨c',p',hc',hp',hm'⟩:=hDin b hm
  exact h.oo c c' _ p' ho hp' (fun e=>hcD (e▸hc')) b hb' hm'
 have hNw:∀ b,Nof κ st G w b→Nof κ { s:=upd (upd st.s r bv) d sv,o:=uA_ st.o (deadObjs D++newObjs news) } G' w' b:=by
  intro b hb'
  have hbl:=hlt b hb'
  refine⟨?_,fun hp=>?_⟩
  ·rcases hb'.1 with h1 | h1
   ·exact .inl h1
   ·exact .inr ⟨h1.1,Nat.lt_of_lt_of_le h1.2 hb.size⟩
  ·rcases hp with⟨k,h1,h2⟩ | ⟨c,⟨sz,es⟩,h1,h2⟩
   ·exact hb'.2 (.inl ⟨k,(hbox k h1).1,h2⟩)
   ·rcases hob c sz es h1 with⟨hm,hin⟩ | ⟨hm,_,ho⟩
    ·simp only[G',hm,if_true] at h2
     rcases (hF b ((hnews.rep c sz es hin).2.2.2.2 b h2)).1 with h3 | h3
     ·omega
     ·exact hNX b hb' h3
    ·simp only[G',hm,if_false] at h2
     exact hb'.2 (.inr ⟨c,(sz,es),ho,h2⟩)
 have hNn:∀ b,N' b→Nof κ { s:=upd (upd st.s r bv) d sv,o:=uA_ st.o (deadObjs D++newObjs news) } G' w' b:=by
  intro b hb'
  rcases hN' b hb' with h1 | ⟨h1,h2,h3⟩
  ·exact hNw b h1
  ·refine⟨.inr ⟨?_,h2⟩,fun hp=>?_⟩
   ·rcases h1 with h1 | h1
    ·exact .inl (by omega)
    ·exact(hDlt b h1).1
   ·rcases hp with⟨k,g1,g2⟩ | ⟨c,⟨sz,es⟩,g1,g2⟩
    ·simp only[G'] at g2
     rcases h1 with h1 | h1
     ·have:=(h.boxes k (hbox k g1).1).2; omega
     ·exact hbX k (hbox k g1).1 (g2▸h1)
    ·rcases hob c sz es g1 with⟨hm,hin⟩ | ⟨hm,hcD,ho⟩
     ·simp only[G',hm,if_true] at g2
      exact h3 ((hnews.rep c sz es hin).2.2.2.2 b g2)
     ·simp only[G',hm,if_false] at g2
      rcases h1 with h1 | h1
      ·have:=((h.objs c sz es ho).2.2 b g2).2; omega
      ·exact hoX c sz es hcD ho b g2 h1
 have hw:∀ b,b<w.heap.size→b≠G.ad r→b∉fps G.fp D→w'.heap[b]?=w.heap[b]?:=fun b h1 h2 h3=>hb.block b h1 (by simp[h2,h3])
 have hkeep:KeepX κ.L κ.w0.heap.size w w':=⟨hb.os,hb.tape,hb.output,hb.size,fun k hk hkL=>hw k (by omega) (fun e=>(h.boxes r hbr).1.elim (fun h1=>by omega) (fun h1=>hkL (e▸h1))) (fun hm=>(hDlt k hm).1.elim (fun h1=>by omega) hkL),hb.drawn⟩
 have hG':∀ n,lo≤n→n<hi→G'.hd n=hdv n:=fun n h1 h2=>by simp only[G',hnews.all n h1 h2,if_true]
 refine⟨G',h.keep.trans hkeep,by simpa[Act.put] using h.defers,by simpa[Act.put] using h.nt,?_,?_,?_,?_,?_,?_,?_⟩
 ·intro k
  rw[gDp_ (by rw[h.nt]; exact hd)]
  by_cases hkd:k=d
  ·subst hkd
   have:upd (upd st.s r bv) k sv k=sv:=us_ _ _ _
   simp only[this,if_true]
   exact hsv _ G' hNn hG'
  ·rw[if_neg hkd]
   have e1:upd (upd st.s r bv) d sv k=upd st.s r bv k:=un_ hkd
   simp only[e1]
   by_cases hkr:k=r
   ·subst hkr
    have:upd st.s k bv k=bv:=us_ _ _ _
    rw[this]
    exact hbok _ G' hNn hNw hG' rfl
   ·have:upd st.s r bv k=st.s k:=un_ hkr
    rw[this]
    refine SlotOk.frame (G:=G) (G':=G') hNw (fun b hb'=>hw b (hlt b hb') (hNr b hb') (hNX b hb')) (fun c hc=>?_) (fun _ _=>rfl) (fun hbk=>⟨rfl,hw _ (h.boxes k hbk).2 (fun e=>hkr (h.bb k r hbk hbr e)) (hbX k hbk)⟩) (h.slots k)
    by_cases hm:c∈news.map (·.1)
    ·rw[(hfresh c hm).2 k] at hc; cases hc
    ·simp only[G',hm,if_false]
 ·intro c sz es hc
  rcases hob c sz es hc with⟨hm,hin⟩ | ⟨hm,hcD,ho⟩
  ·obtain⟨g1,g2,g3,g4,g5⟩:=hnews.rep c sz es hin
   simp only[G',hm,if_true]
   refine⟨RepC.frame hNn (fun _ _=>rfl) _ _ _ (fun _ _=>rfl) g3,g4,fun b hb'=>⟨?_,(hF b (g5 b hb')).2⟩⟩
   rcases (hF b (g5 b hb')).1 with h1 | h1
   ·exact .inl (by omega)
   ·exact(hDlt b h1).1
  ·simp only[G',hm,if_false]
   obtain⟨g1,g2,g3⟩:=h.objs c sz es ho
   exact⟨RepC.frame hNw (fun b hb'=>hw b (hlt b hb') (hNr b hb') (hNX b hb')) _ _ _ (fun b hb'=>hw b (g3 b hb').2 (fun e=>h.bo r c _ hbr ho (e▸hb')) (hoX c sz es hcD ho b hb')) g1,g2,fun b hb'=>⟨(g3 b hb').1,Nat.lt_of_lt_of_le (g3 b hb').2 hb.size⟩⟩
 ·intro k hk
  have:=h.boxes k (hbox k hk).1
  exact⟨this.1,Nat.lt_of_lt_of_le this.2 hb.size⟩
 ·exact fun k k' h1 h2=>h.bb k k' (hbox k h1).1 (hbox k' h2).1
 ·intro k c ⟨sz,es⟩ h1 h2 hm'
  rcases hob c sz es h2 with⟨hm,hin⟩ | ⟨hm,hcD,ho⟩
  ·simp only[G',hm,if_true] at hm'
   rcases (hF _ ((hnews.rep c sz es hin).2.2.2.2 _ hm')).1 with g1 | g1
   ·have g2:=(h.boxes k (hbox k h1).1).2; omega
   ·exact hbX k (hbox k h1).1 g1
  ·simp only[G',hm,if_false] at hm'
   exact h.bo k c (sz,es) (hbox k h1).1 ho hm'
 ·intro c c' ⟨sz,es⟩ ⟨sz',es'⟩ h1 h2 hne b hb1 hb2
  rcases hob c sz es h1 with⟨hm,hin⟩ | ⟨hm,hcD,ho⟩<;>rcases hob c' sz' es' h2 with⟨hm',hin'⟩ | ⟨hm',hcD',ho'⟩
  ·simp only[G',hm,hm',if_true] at hb1 hb2
   exact hnews.apart c c' _ _ hin hin' hne b hb1 hb2
  ·simp only[G',hm,hm',if_true,if_false] at hb1 hb2
   rcases (hF _ ((hnews.rep c sz es hin).2.2.2.2 _ hb1)).1 with g1 | g1
   ·have g2:=((h.objs c' sz' es' ho').2.2 b hb2).2; omega
   ·exact hoX c' sz' es' hcD' ho' b hb2 g1
  ·simp only[G',hm,hm',if_true,if_false] at hb1 hb2
   rcases (hF _ ((hnews.rep c' sz' es' hin').2.2.2.2 _ hb2)).1 with g1 | g1
   ·have g2:=((h.objs c sz es ho).2.2 b hb1).2; omega
   ·exact hoX c sz es hcD ho b hb1 g1
  ·simp only[G',hm,hm',if_false] at hb1 hb2
   exact h.oo c c' _ _ ho ho' hne b hb1 hb2
 ·intro c v' hc
  have hm:c∉news.map (·.1):=fun hm=>by have:=(hfresh c hm).1.1; have:=κ.hH c v' hc; omega
  simp only[G',hm,if_false]
  exact h.held c v' hc

inductive BV where
 | pv (p:PV)
 | mp (es:List MEnt) (clock:Nat)
instance:Inhabited BV:=⟨.mp [] 0⟩
def RepBV(N:Nat→Prop)(w:World)(b:Nat)(F:List Nat):BV→Prop
 | .pv p=>∃ cs e,w.heap[b]?=some (.cells cs.toArray e (0,0))∧RepC N w p cs F
 | .mp kv clock=>F=[]∧HCok N w (fun _=>undef) (fun _=>0) b (.mp kv clock)
def BV.hc(c:Nat):BV→HC
 | .pv p=>.cv (e_ p c).1
 | .mp kv clock=>.mp kv clock
def BV.objs(c:Nat):BV→List (Nat×(Nat×List PV))
 | .pv p=>(e_ p c).2.1
 | .mp _ _=>[]
def BV.hi(c:Nat):BV→Nat
 | .pv p=>(e_ p c).2.2
 | .mp _ _=>c
def BV.noView:BV→Bool
 | .pv p=>p.noView
 | .mp kv _=>kv.all fun e=>e.2.1.noView
theorem MapIs.noView{N N':Nat→Prop}{w:World}:∀ {kv:List MEnt} {es:List MapEntry},(kv.all fun e=>e.2.1.noView)=true→MapIs N w kv es→MapIs N' w kv es
 | [],_,_,h=>h
 | (k,p,s)::kv,es,hv,h=>by
  simp only[List.all_cons,aq] at hv
  obtain⟨e,es',h1,h2,h3,h4,h5⟩:=h
  exact⟨e,es',h1,h2,h3,RepV.noView hv.1 h4,MapIs.noView hv.2 h5⟩
theorem RepBV.noView{N N':Nat→Prop}{w:World}{b:Nat}{F:List Nat}{x:BV}(hv:x.noView=true)(h:RepBV N w b F x):RepBV N' w b F x:=by
 cases x with
 | pv p=>obtain⟨cs,e,h1,h2⟩:=h; exact⟨cs,e,h1,RepC.noView p cs F hv h2⟩
 | mp kv clock=>obtain⟨hF,es,h1,h2,h3⟩:=h; exact⟨hF,es,h1,h2.noView hv,h3⟩
theorem eBo_{N:Nat→Prop}{w:World}{b:Nat}{F:List Nat}{x:BV}{c:Nat}(h:RepBV N w b F x)(hn:F.Nodup):
 ∃ hdv fpv,News N w hdv fpv F c (x.hi c) (x.objs c)∧∀ (N':Nat→Prop) (hd:Nat→Value) (ad:Nat→Nat),(∀ b,N b→N' b)→(∀ n,c≤n→n<x.hi c→hd n=hdv n)→HCok N' w hd ad b (x.hc c):=by
 cases x with
 | pv p=>
  obtain⟨cs,e,h1,h2⟩:=h
  obtain⟨hdv,fpv,n1,r1⟩:=eo_1 p cs F c h2 hn
  exact⟨hdv,fpv,n1,fun N' hd ad hN hh=>⟨cs,e,h1,RepCV.frame hN (fun _ _=>rfl) _ _ (fun _ _=>rfl) (r1 hd hh)⟩⟩
 | mp kv clock=>
  obtain⟨rfl,es,h1,h2,h3⟩:=h
  refine⟨fun _=>undef,fun _=>[],⟨by simp[BV.objs],by simp[BV.objs],by simp[BV.objs],aJ _,fun n g1 g2=>absurd g2 (by simp[BV.hi]; omega)⟩,fun N' hd ad hN _=>⟨es,h1,MapIs.frame hN (fun _ _=>rfl) kv es h2,h3⟩⟩

def SatH(P:Program)(f:FuncId)(pre post:List PV)(sh:Sh)(ps:List PV)(x x':BV)(res:PV):Prop:=
 CI_ P f∧∀ (w:World) (N:Nat→Prop) (v1 v2 vals:List Value) (b:Nat) (Fx Fs:List Nat),(∀ c,N c→c<w.heap.size∧c∉b::(Fx++Fs))→(b::(Fx++Fs)).Nodup→(∀ c∈b::(Fx++Fs),c<w.heap.size)→
  RepCs N w ps vals []→RepBV N w b Fx x→RepVs N w (pre++post) (v1++v2) Fs→v1.length=pre.length→
  Calls P f (v1++sh.val b vals::v2).toArray w fun e w'=>∃ v F Fx',e=.returned v∧KeepX (b::(Fx++Fs)) w.heap.size w w'∧
   RepBV (fun c=>N c∨((w.heap.size≤c∨c∈Fx++Fs)∧c<w'.heap.size∧c∉Fx'++F)) w' b Fx' x'∧RepR (fun c=>N c∨((w.heap.size≤c∨c∈Fx++Fs)∧c<w'.heap.size∧c∉Fx'++F)) w' res v F∧
   (b::(Fx'++F)).Nodup∧∀ c∈Fx'++F,(w.heap.size≤c∨c∈Fx++Fs)∧c<w'.heap.size

def hS_(sh:Sh)(ps:List PV):HC→SlotV
 | .cv x=>match sh with | .ptr=>.box x | _=>.hold sh ps (.cv x)
 | h=>.hold sh ps h
def hH_:SlotV→Option HC
 | .box x=>some (.cv x)
 | .hold _ _ h=>some h
 | _=>none
theorem hHi_{s:SlotV}{h:HC}(e:hH_ s=some h):iB_ s=true:=by
 cases s<;>first | rfl | (simp[hH_] at e)
theorem hHo_{N:Nat→Prop}{w:World}{G:Gh}{k:Nat}{v:Value}{s:SlotV}{h:HC}(e:hH_ s=some h)(hs:SlotOk N w G k v s):HCok N w G.hd G.ad (G.ad k) h:=by
 cases s<;>simp only[hH_,Option.some.injEq,reduceCtorEq] at e
 ·subst e; obtain⟨_,cs,e',h1,h2⟩:=hs; exact⟨cs,e',h1,h2⟩
 ·subst e; obtain⟨_,_,_,h3⟩:=hs; exact h3
theorem hSo_{N:Nat→Prop}{w:World}{G:Gh}{k:Nat}{v:Value}{sh:Sh}{ps:List PV}{vals:List Value}{h:HC}(hps:RepCs N w ps vals [])(hv:v=sh.val (G.ad k) vals)(hh:HCok N w G.hd G.ad (G.ad k) h):SlotOk N w G k v (hS_ sh ps h):=by
 cases h with
 | cv x=>cases sh<;>first | exact⟨hv,hh⟩ | exact⟨vals,hps,hv,hh⟩
 | mp _ _=>exact⟨vals,hps,hv,hh⟩
 | it _ _ _ _=>exact⟨vals,hps,hv,hh⟩
def updV:Nat→List SlotV→(Nat→SlotV)→Nat→SlotV
 | _,[],f=>f
 | i,x::xs,f=>updV (i+1) xs (upd f i x)
theorem uVa_:∀ (xs:List SlotV) (i:Nat) (f:Nat→SlotV) (k:Nat),updV i xs f k=if k<i then f k else match xs[k-i]? with | some x=>x | none=>f k
 | [],i,f,k=>by simp[updV]
 | x::xs,i,f,k=>by
  rw[updV,uVa_ xs (i+1)]
  by_cases h:k<i
  ·have:k<i+1:=by omega
   rw[if_pos this,if_pos h,ua_,if_neg (by omega)]
  ·rw[if_neg h]
   by_cases h1:k=i
   ·subst h1; rw[if_pos (by omega)]; simp[ua_]
   ·rw[if_neg (by omega)]
    have e:k-i=(k-(i+1))+1:=by omega
    rw[e,List.getElem?_cons_succ,ua_,if_neg h1]
def lnkF(hs:List Value)(as:List Nat)(_:List Value):Value:=
 match hs,as with
 | [.pointer (some ⟨b,_,_⟩)],[a]=>if b=a then undef else .bool true
 | _,_=>.bool true
def gh(r:Nat):SlotV:=.fn [10500] [r] [] lnkF
def aS_1(pre post:List PV)(sh:Sh)(ps:List PV)(x:BV):St:=
 { s:=upd (updV 0 (((e_1 (pre++post) (x.hi 9000)).1.take pre.length).map .val++hS_ sh ps (x.hc 9000)::((e_1 (pre++post) (x.hi 9000)).1.drop pre.length).map .val) (fun _=>.dead)) 20000 (gh pre.length),
   o:=uA_ (fun _=>none) (newObjs (x.objs 9000++(e_1 (pre++post) (x.hi 9000)).2.1)) }
def BF_(st:St)(k:Nat)(ns:List Nat)(x':BV):Prop:=
 match hH_ (st.s k) with
 | some (.cv y)=>y.whole st.o=true∧(y.names++ns).Nodup∧x'=.pv (y.pvo st.o)
 | some (.mp kv clock)=>ns.Nodup∧x'=.mp kv clock
 | _=>False
def RetHB(P:Program)(st:St)(rs:List ResultVar)(res:PV)(k:Nat)(x':BV):Prop:=
 st.s 20000=gh k∧au st.o (rCs_ P st rs)=true∧rO_1 P st rs∧((res=aR_ (aB st.o (rCs_ P st rs))∧BF_ st k (ar (rCs_ P st rs)) x')∨(res=aR_ (aL st.o (rCs_ P st rs))∧CV.pures (rCs_ P st rs)=true∧BF_ st k [] x'))

theorem SatH.of_body{P:Program}{f:FuncId}{fn:Func}{c:Code}{pre post:List PV}{sh:Sh}{ps:List PV}{x x':BV}{res:PV}{nt:Nat}{rs:List ResultVar}(hf:P.funcs[f]?=some fn)(hname:(fn.name== "runtime.NumGoroutine")=false)(hb:fn.body=some c)
 (hnt:fn.ntmps=nt) (hrs:fn.results.toList=rs) (hle:pre.length+post.length+1≤nt) (hnl:nt≤20000) (hhi:(e_1 (pre++post) (x.hi 9000)).2.2≤10000) (h:VC P nt c (aS_1 pre post sh ps x) (fun e st=>(e=.normal∨e=.ret)∧RetHB P st rs res pre.length x')):SatH P f pre post sh ps x x' res:=by
 refine⟨⟨fn,hf,hname,by simp[hb]⟩,fun w N v1 v2 vals b Fx Fs hN hFn hFl hps hx hvs hl1=>?_⟩
 have hlen:=rVl_ hvs
 simp only[List.length_append] at hlen
 have hFn':=List.nodup_cons.1 hFn
 have hFxn:Fx.Nodup:=(List.nodup_append.1 hFn'.2).1
 have hFsn:Fs.Nodup:=(List.nodup_append.1 hFn'.2).2.1
 have hdis:∀ b∈Fx,b∉Fs:=fun b hb hb'=>(List.nodup_append.1 hFn'.2).2.2 b hb b hb' rfl
 obtain⟨hd1,fp1,n1,r1⟩:=eBo_ (c:=9000) hx hFxn
 obtain⟨hd2,fp2,n2,r2⟩:=eVo_ (pre++post) (v1++v2) Fs (x.hi 9000) hvs hFsn
 have news:=News.join n1 n2 hdis
 have hle1:=n1.le
 have hle2:=n2.le
 generalize hhd:(fun n=>if n<x.hi 9000 then hd1 n else hd2 n)=hdv at news
 generalize hfp:(fun n=>if n<x.hi 9000 then fp1 n else fp2 n)=fpv at news
 let κ:Ctx:={ w0:=w,N:=N,L:=b::(Fx++Fs),nt:=nt,hN:=hN,hL:=hFl,held:=[(10500,.pointer (some ⟨b,0,none⟩))],hH:=fun c v hc=>by simp at hc; omega }
 let G:Gh:={ hd:=fun n=>if n=10500 then .pointer (some ⟨b,0,none⟩) else hdv n,fp:=fpv,ad:=fun _=>b }
 let xs:=(e_1 (pre++post) (x.hi 9000)).1
 have hxl:∀ N' (hd:Nat→Value),(∀ b,N b→N' b)→(∀ n,x.hi 9000≤n→n<(e_1 (pre++post) (x.hi 9000)).2.2→hd n=hd2 n)→CVals N' w hd xs (v1++v2):=fun N' hd h1 h2=>r2 N' hd h1 h2
 have hG2:∀ n,x.hi 9000≤n→n<(e_1 (pre++post) (x.hi 9000)).2.2→G.hd n=hd2 n:=fun n h1 h2=>by
  show(if n=10500 then _ else hdv n)=_
  rw[if_neg (by omega),← hhd]; have:¬ n<x.hi 9000:=by omega
  simp[this]
 have hG1:∀ n,9000≤n→n<x.hi 9000→G.hd n=hd1 n:=fun n h1 h2=>by
  show(if n=10500 then _ else hdv n)=_
  rw[if_neg (by omega),← hhd]; simp[h2]
 have hxlen:xs.length=v1.length+v2.length:=by
  have:=cl_1 (hxl N G.hd (fun _ h=>h) hG2)
  simpa using this.symm
 have hS:∀ k,k≠20000→(aS_1 pre post sh ps x).s k=if k<pre.length then(match xs[k]? with | some y=>.val y | none=>.dead) else if k=pre.length then hS_ sh ps (x.hc 9000) else(match xs[k-1]? with | some y=>.val y | none=>.dead):=by
  intro k hk0
  simp only[aS_1]
  rw[un_ hk0,uVa_]
  simp only[Nat.not_lt_zero,if_false,Nat.sub_zero]
  have hpl:pre.length≤xs.length:=by omega
  by_cases hk:k<pre.length
  ·rw[if_pos hk,List.getElem?_append_left (by rw[List.length_map,List.length_take]; show k<min pre.length xs.length; omega)]
   simp only[List.getElem?_map,List.getElem?_take_of_lt hk]
   show(match Option.map SlotV.val xs[k]? with | some x=>x | none=>SlotV.dead)=_
   cases xs[k]?<;>rfl
  ·rw[if_neg hk,List.getElem?_append_right (by rw[List.length_map,List.length_take]; show min pre.length xs.length≤k; omega)]
   have e1:(List.map SlotV.val (List.take pre.length xs)).length=pre.length:=by rw[List.length_map,List.length_take]; omega
   show(match (hS_ sh ps (x.hc 9000)::(xs.drop pre.length).map .val)[k-(List.map SlotV.val (List.take pre.length xs)).length]? with | some x=>x | none=>SlotV.dead)=_
   rw[e1]
   by_cases hk2:k=pre.length
   ·subst hk2; simp
   ·rw[if_neg hk2]
    have e2:k-pre.length=(k-1-pre.length)+1:=by omega
    rw[e2,List.getElem?_cons_succ,List.getElem?_map,List.getElem?_drop,show pre.length+(k-1-pre.length)=k-1 by omega]
    cases xs[k-1]?<;>rfl
 have hS0:(aS_1 pre post sh ps x).s 20000=gh pre.length:=by simp only[aS_1]; exact us_ _ _ _
 have hob:∀ c sz es,(aS_1 pre post sh ps x).o c=some (sz,es)→(c,(sz,es))∈(x.objs 9000++(e_1 (pre++post) (x.hi 9000)).2.1):=by
  intro c sz es hc
  simp only[aS_1] at hc
  by_cases hm:c∈(x.objs 9000++(e_1 (pre++post) (x.hi 9000)).2.1).map (·.1)
  ·obtain⟨⟨n,p⟩,h1,rfl⟩:=List.mem_map.1 hm
   have h2:(n,some p)∈newObjs (x.objs 9000++(e_1 (pre++post) (x.hi 9000)).2.1):=List.mem_map.2 ⟨(n,p),h1,rfl⟩
   rw[uAm_ _ _ n (some p) (by rw[nOk_]; exact news.once) h2] at hc
   cases hc; exact h1
  ·rw[uAn_ _ _ _ (by rw[nOk_]; exact hm)] at hc; cases hc
 have hnb:∀ k,iB_ ((aS_1 pre post sh ps x).s k)=true→k=pre.length:=by
  intro k hk
  by_cases hk0:k=20000
  ·subst hk0; rw[hS0] at hk; cases hk
  rw[hS k hk0] at hk
  by_cases h1:k<pre.length
  ·rw[if_pos h1] at hk; revert hk; cases xs[k]?<;>exact fun hk=>nomatch hk
  ·rw[if_neg h1] at hk
   by_cases h2:k=pre.length
   ·exact h2
   ·rw[if_neg h2] at hk; revert hk; cases xs[k-1]?<;>exact fun hk=>nomatch hk
 have hbF:∀ c,c∈Fx++Fs→c≠b:=fun c hc e=>hFn'.1 (e▸hc)
 have hpriv:∀ c,N c→¬ Priv (aS_1 pre post sh ps x) G c:=by
  rintro c hc (⟨r,h1,h2⟩ | ⟨n,⟨sz,es⟩,h1,h2⟩)
  ·exact(hN c hc).2 (by rw[h2]; exact List.mem_cons_self)
  ·exact(hN c hc).2 (List.mem_cons_of_mem _ ((news.rep n sz es (hob n sz es h1)).2.2.2.2 c h2))
 have hNof:∀ c,N c→Nof κ (aS_1 pre post sh ps x) G w c:=fun c hc=>⟨.inl hc,hpriv c hc⟩
 have hR:RG κ G (aS_1 pre post sh ps x) { tmps:=(v1++sh.val b vals::v2).toArray++Array.replicate (fn.ntmps-(v1++sh.val b vals::v2).toArray.size) undef,defers:=[] } w:=by
  have hvals:∀ k u,(v1++sh.val b vals::v2)[k]?=some u→((v1++sh.val b vals::v2).toArray++Array.replicate (fn.ntmps-(v1++sh.val b vals::v2).toArray.size) undef).getD k undef=u:=by
   intro k u hu
   have hkl:k<(v1++sh.val b vals::v2).length:=(List.getElem?_eq_some_iff.1 hu).1
   simp only[Array.getD_eq_getD_getElem?]
   rw[Array.getElem?_append_left (by simpa using hkl)]
   rw[List.getElem?_toArray,hu]; rfl
  refine⟨KeepX.refl _ _ _,rfl,by simp[hnt,κ]; omega,?_,?_,?_,fun r r' hr hr' _=>(hnb r hr).trans (hnb r' hr').symm,?_,?_,fun c v' hc=>by simp only[κ,List.mem_singleton,Prod.mk.injEq] at hc; obtain⟨rfl,rfl⟩:=hc; simp[G]⟩
  ·intro k
   by_cases hk0:k=20000
   ·subst hk0
    rw[hS0]
    refine⟨[],by simp[RepCs],?_⟩
    have:((v1++sh.val b vals::v2).toArray++Array.replicate (fn.ntmps-(v1++sh.val b vals::v2).toArray.size) undef).getD 20000 undef=undef:=by
     rw[Array.getD_eq_getD_getElem?,Array.getElem?_eq_none (by simp[hnt]; omega)]; rfl
    rw[this]
    simp[lnkF,G]
   rw[hS k hk0]
   by_cases h1:k<pre.length
   ·rw[if_pos h1]
    cases hk:xs[k]? with
    | none=>trivial
    | some y=>
     obtain⟨u,g1,g2⟩:=ca_ k y (hxl (Nof κ (aS_1 pre post sh ps x) G w) G.hd hNof hG2) hk
     rw[List.getElem?_append_left (by omega)] at g1
     rw[hvals k u (by rw[List.getElem?_append_left (by omega)]; exact g1)]
     exact g2
   ·rw[if_neg h1]
    by_cases h2:k=pre.length
    ·rw[if_pos h2]
     rw[hvals k (sh.val b vals) (by subst h2; rw[List.getElem?_append_right (by omega),hl1]; simp)]
     exact hSo_ (vals:=vals) (RepCs.frame hNof (fun _ _=>rfl) ps vals [] (by simp) hps) rfl (r1 (Nof κ (aS_1 pre post sh ps x) G w) G.hd G.ad hNof hG1)
    ·rw[if_neg h2]
     cases hk:xs[k-1]? with
     | none=>trivial
     | some y=>
      obtain⟨u,g1,g2⟩:=ca_ (k-1) y (hxl (Nof κ (aS_1 pre post sh ps x) G w) G.hd hNof hG2) hk
      rw[List.getElem?_append_right (by omega)] at g1
      rw[hvals k u (by
       rw[List.getElem?_append_right (by omega)]
       have:k-v1.length=(k-1-v1.length)+1:=by omega
       rw[this,List.getElem?_cons_succ]; exact g1)]
      exact g2
  ·intro c sz es hc
   obtain⟨_,g2,g3,g4,g5⟩:=news.rep c sz es (hob c sz es hc)
   have e0:G.hd c=hdv c:=by show(if c=10500 then _ else hdv c)=_; rw[if_neg (by omega)]
   rw[e0]
   exact⟨RepC.frame hNof (fun _ _=>rfl) _ _ _ (fun _ _=>rfl) g3,g4,fun c hc=>⟨.inr (List.mem_cons_of_mem _ (g5 c hc)),hFl c (List.mem_cons_of_mem _ (g5 c hc))⟩⟩
  ·intro r _
   exact⟨.inr List.mem_cons_self,hFl b List.mem_cons_self⟩
  ·intro r c ⟨sz,es⟩ _ h2 hm
   exact hbF b ((news.rep c sz es (hob c sz es h2)).2.2.2.2 b hm) rfl
  ·intro c c' ⟨sz,es⟩ ⟨sz',es'⟩ h1 h2 hne
   exact news.apart c c' _ _ (hob c sz es h1) (hob c' sz' es' h2) hne
 refine calls_of_wp hf hb (h κ _ w rfl ⟨G,hR⟩ _ ?_)
 intro e st' a' w' ⟨he,hgh,hw,hok,hres⟩ ⟨G',hG⟩
 have had:G'.ad pre.length=b:=by
  have h1:=hG.slots 20000
  rw[hgh] at h1
  obtain⟨_,_,h2⟩:=h1
  have h3:G'.hd 10500=.pointer (some ⟨b,0,none⟩):=hG.held 10500 _ (by simp[κ])
  have h4:a'.tmps.getD 20000 undef=undef:=by rw[Array.getD_eq_getD_getElem?,Array.getElem?_eq_none (by rw[hG.nt]; exact hnl)]; rfl
  rw[h4] at h2
  simp only[aD,List.map_nil,h3,lnkF] at h2
  by_cases e1:b=G'.ad pre.length
  ·exact e1.symm
  ·rw[if_neg e1] at h2; simp[undef] at h2
 have hlive:=Cnl_1 _ hw
 -- what the block holds
 have fin:∀ ns:List Nat,(∀ c∈ns,(st'.o c).isSome=true)→BF_ st' pre.length ns x'→∃ Fx',(Fx'++fps G'.fp ns).Nodup∧b∉Fx'++fps G'.fp ns∧(∀ c∈Fx'++fps G'.fp ns,(w.heap.size≤c∨c∈Fx++Fs)∧c<w'.heap.size)∧
  (∀ c,Nof κ st' G' w' c→c∉b::(Fx'++fps G'.fp ns))∧∀ N',(∀ c,Nof κ st' G' w' c→N' c)→RepBV N' w' b Fx' x':=by
  intro ns hns hbx
  simp only[BF_] at hbx
  have fps_in:∀ ms:List Nat,(∀ c∈ms,(st'.o c).isSome=true)→iB_ (st'.s pre.length)=true→b∉fps G'.fp ms∧(∀ c∈fps G'.fp ms,(w.heap.size≤c∨c∈Fx++Fs)∧c<w'.heap.size)∧∀ c,Nof κ st' G' w' c→c∉b::fps G'.fp ms:=by
   intro ms hms hbb
   have hb1:b∉fps G'.fp ms:=fun hm=>by
    obtain⟨c,hc,hm⟩:=mf_.1 hm
    obtain⟨p,hp⟩:=Option.isSome_iff_exists.1 (hms c hc)
    exact hG.bo pre.length c p hbb hp (had▸hm)
   refine⟨hb1,fun d hd=>?_,fun d hd hm=>?_⟩
   ·obtain⟨c,hc,hm⟩:=mf_.1 hd
    obtain⟨⟨sz,es⟩,hp⟩:=Option.isSome_iff_exists.1 (hms c hc)
    obtain⟨g1,g2⟩:=(hG.objs c sz es hp).2.2 d hm
    refine⟨g1.imp id (fun g=>?_),g2⟩
    rcases List.mem_cons.1 g with e1 | g
    ·exact absurd (e1▸hd) hb1
    ·exact g
   ·rcases List.mem_cons.1 hm with e1 | hm
    ·exact hd.2 (.inl ⟨pre.length,hbb,by rw[had]; exact e1⟩)
    ·obtain⟨c,hc,hm⟩:=mf_.1 hm
     obtain⟨p,hp⟩:=Option.isSome_iff_exists.1 (hms c hc)
     exact hd.2 (.inr ⟨c,p,hp,hm⟩)
  have hsl:=hG.slots pre.length
  cases hh:hH_ (st'.s pre.length) with
  | none=>rw[hh] at hbx; exact hbx.elim
  | some hc=>
   rw[hh] at hbx
   have hbb:=hHi_ hh
   have hok':=hHo_ hh hsl
   rw[had] at hok'
   cases hc with
   | cv y=>
    obtain⟨g1,g2,rfl⟩:=hbx
    obtain⟨cs,e',g3,g4⟩:=hok'
    have hl:∀ c∈y.names++ns,(st'.o c).isSome=true:=fun c hc=>(List.mem_append.1 hc).elim (Cnl_ y g1 c) (hns c)
    obtain⟨k1,k2,k3⟩:=fps_in (y.names++ns) hl hbb
    have k4:=fn_1 hG _ g2 hl
    rw[fa_] at k1 k2 k3 k4
    exact⟨fps G'.fp y.names,k4,k1,k2,k3,fun N' hN'=>⟨cs,e',g3,RepC.frame hN' (fun _ _=>rfl) _ _ _ (fun _ _=>rfl) (RepCV.own (fun c sz es hc=>(hG.objs c sz es hc).1) y cs g1 g4)⟩⟩
   | mp kv clock=>
    obtain⟨g2,rfl⟩:=hbx
    obtain⟨es,g3,g4,g5⟩:=hok'
    obtain⟨k1,k2,k3⟩:=fps_in ns hns hbb
    exact⟨[],by simpa using fn_1 hG _ g2 hns,by simpa using k1,by simpa using k2,by simpa using k3,fun N' hN'=>⟨rfl,es,g3,MapIs.frame hN' (fun _ _=>rfl) kv es g4,g5⟩⟩
   | it _ _ _ _=>exact hbx.elim
 have key:a'.defers=[]∧∃ v,(results fn a'.tmps).run P w'=.ok v w'∧∃ v' F Fx',Ending.returned v=.returned v'∧KeepX (b::(Fx++Fs)) w.heap.size w w'∧
  RepBV (fun c=>N c∨((w.heap.size≤c∨c∈Fx++Fs)∧c<w'.heap.size∧c∉Fx'++F)) w' b Fx' x'∧RepR (fun c=>N c∨((w.heap.size≤c∨c∈Fx++Fs)∧c<w'.heap.size∧c∉Fx'++F)) w' res v' F∧
  (b::(Fx'++F)).Nodup∧∀ c∈Fx'++F,(w.heap.size≤c∨c∈Fx++Fs)∧c<w'.heap.size:=by
  obtain⟨vs',h1,h2⟩:=rr_1 hG rs hw hok
  refine⟨hG.defers,(if h:vs'.toArray.size=1 then vs'.toArray[0] else .tuple vs'.toArray),?_,(if h:vs'.toArray.size=1 then vs'.toArray[0] else .tuple vs'.toArray),?_⟩
  ·have e1:fn.results=rs.toArray:=by rw[← hrs]
   simp only[results,e1,List.mapM_toArray,Sem.run_bind,Sem.run_map,Sem.run_pure]
   exact congrArg (fun r:Result (List Value)=>((r.andThen fun a w'=>.ok a.toArray w').andThen fun a w'=>.ok (if h:a.size=1 then a[0] else Value.tuple a) w')) h1
  have hfr:∀ Fx' F,(∀ c,Nof κ st' G' w' c→c∉b::(Fx'++F))→∀ c,Nof κ st' G' w' c→N c∨((w.heap.size≤c∨c∈Fx++Fs)∧c<w'.heap.size∧c∉Fx'++F):=by
   intro Fx' F hnot c hc
   have hn:=hnot c hc
   rcases hc.1 with h | h
   ·exact .inl h
   ·refine .inr ⟨h.1.imp id (fun g=>?_),h.2,fun hm=>hn (List.mem_cons_of_mem _ hm)⟩
    rcases List.mem_cons.1 g with e1 | g
    ·exact absurd (e1▸List.mem_cons_self) hn
    ·exact g
  rcases hres with⟨hr,hbx⟩ | ⟨hr,hpu,hbx⟩
  ·obtain⟨Fx',k1,k2,k3,k4,k5⟩:=fin _ hlive hbx
   have hown:=CVals.own (fun c sz es hc=>(hG.objs c sz es hc).1) hw h2
   refine⟨fps G'.fp (ar (rCs_ P st' rs)),Fx',rfl,hG.keep,k5 _ (hfr _ _ k4),?_,List.nodup_cons.2 ⟨k2,k1⟩,k3⟩
   rw[hr]
   exact rRa_ (rVf_ (hfr _ _ k4) (fun _ _=>rfl) (fun _ _=>rfl) hown) (pn_ hown)
  ·obtain⟨Fx',k1,k2,k3,k4,k5⟩:=fin [] (by simp) hbx
   simp only[fps,bA] at k1 k2 k3 k4
   have hview:=cpV_ (ob:=st'.o) _ _ hpu h2
   refine⟨[],Fx',rfl,hG.keep,k5 _ (hfr _ _ (by simpa using k4)),?_,by simpa using⟨k2,k1⟩,by simpa using k3⟩
   rw[hr]
   exact rRa_ (rVf_ (hfr _ _ (by simpa using k4)) (fun _ _=>rfl) (by simp) hview) (pn_ hview)
 rcases he with rfl | rfl<;>exact key
theorem SatH.of_m{P:Program}{nt n:Nat}{f:FuncId}{fn:Func}{c:Code}{pre post:List PV}{sh:Sh}{ps:List PV}{x x':BV}{res:PV}{rs:List ResultVar}(hf:P.funcs[f]?=some fn)(hname:(fn.name== "runtime.NumGoroutine")=false)(hb:fn.body=some c)
 (hnt:fn.ntmps=nt) (hrs:fn.results.toList=rs) (hle:pre.length+post.length+1≤nt) (hnl:nt≤20000) (hhi:(e_1 (pre++post) (x.hi 9000)).2.2≤10000)
 (h:Mg P nt (fun st=>RetHB P st rs res pre.length x') n (.code c) (aS_1 pre post sh ps x) []):SatH P f pre post sh ps x x' res:=
 SatH.of_body hf hname hb hnt hrs hle hnl hhi (Mg.sound n _ _ _ h)
end
section
def HC.names:HC→List Nat
 | .cv y=>y.names
 | _=>[]
def HC.isBV(ob:Nat→Option (Nat×List PV))(x:BV):HC→Prop
 | .cv y=>y.whole ob=true∧x=.pv (y.pvo ob)
 | .mp kv clock=>x=.mp kv clock
 | .it _ _ _ _=>False
def setH:SlotV→HC→SlotV
 | .box _,.cv y=>.box y
 | .hold sh ps _,h=>.hold sh ps h
 | s,_=>s
def okH:SlotV→HC→Bool
 | .box _,.cv _=>true
 | .hold ..,_=>true
 | _,_=>false
theorem oHb_{s:SlotV}{h:HC}(e:okH s h=true):iB_ (setH s h)=true:=by
 cases s<;>first | (simp[okH] at e; done) | skip
 ·cases h<;>first | rfl | (simp[okH] at e; done)
 ·rfl
theorem sHo_{N N':Nat→Prop}{w w':World}{G G':Gh}{k:Nat}{v:Value}{s:SlotV}{h:HC}(e:okH s h=true)(hs:SlotOk N w G k v s)(hN:∀ b,N b→N' b)(hw:∀ b,N b→w'.heap[b]?=w.heap[b]?)(ha:G'.ad=G.ad)
 (hh:HCok N' w' G'.hd G'.ad (G.ad k) h):SlotOk N' w' G' k v (setH s h):=by
 cases s<;>first | (simp[okH] at e; done) | skip
 ·cases h<;>first | (simp[okH] at e; done) | skip
  obtain⟨h1,_⟩:=hs
  obtain⟨cs,e',h2,h3⟩:=hh
  exact⟨by rw[ha]; exact h1,cs,e',by rw[ha]; exact h2,h3⟩
 ·obtain⟨vals,h1,h2,_⟩:=hs
  exact⟨vals,RepCs.frame hN hw _ _ [] (by simp) h1,by rw[ha]; exact h2,by rw[ha] at hh ⊢; exact hh⟩

theorem eRo_{N:Nat→Prop}{w:World}{res:PV}{v:Value}{F:List Nat}{c:Nat}(hr:RepR N w res v F)(hn:F.Nodup):
 ∃ hdv fpv hi,News N w hdv fpv F c hi (rO_ res c)∧∀ (N':Nat→Prop) (G:Gh) (k:Nat),(∀ b,N b→N' b)→(∀ n,c≤n→n<hi→G.hd n=hdv n)→SlotOk N' w G k v (rS_ res c):=by
 by_cases ht:∃ ps,res=.tup ps
 ·obtain⟨ps,rfl⟩:=ht
  obtain⟨vs,rfl,h2⟩:=hr
  obtain⟨hdv,fpv,n1,r1⟩:=eVo_ ps vs F c h2 hn
  exact⟨hdv,fpv,_,n1,fun N' G k hN hh=>⟨vs,rfl,r1 N' G.hd hN hh⟩⟩
 ·have hv:RepV N w res v F:=by
   cases res with
   | tup ps=>exact absurd ⟨ps,rfl⟩ ht
   | _=>exact hr
  obtain⟨hdv,fpv,n1,r1⟩:=eVo_1 (c:=c) hv hn
  have e1:rS_ res c=.val (e_ res c).1:=by
   cases res with
   | tup ps=>exact absurd ⟨ps,rfl⟩ ht
   | _=>rfl
  have e2:rO_ res c=(e_ res c).2.1:=by
   cases res with
   | tup ps=>exact absurd ⟨ps,rfl⟩ ht
   | _=>rfl
  rw[e1,e2]
  exact⟨hdv,fpv,_,n1,fun N' G k hN hh=>r1 N' G.hd hN hh⟩

theorem cHc_{P:Program}{κ:Ctx}{G:Gh}{st:St}{a:Act}{w:World}{d r:Nat}{f:FuncId}(hG:RG κ G st a w)(hd:d<κ.nt)(hrd:r≠d){hc:HC}(hh:hH_ (st.s r)=some hc){sh:Sh}{ps:List PV}{vals:List Value}
 {x x':BV} (hx:hc.isBV st.o x) {Ds:List Nat} (hDs:∀ c∈Ds,(st.o c).isSome=true) (hnd:(hc.names++Ds).Nodup) {N:Nat→Prop} (hps:RepCs N w ps vals [])
 (hN1:∀ b,N b→b<w.heap.size∧b≠G.ad r∧b∉fps G.fp (hc.names++Ds)) (hNN:∀ b,Nof κ st G w b→N b) {res:PV} (hN2:(∀ b,N b→Nof κ st G w b)∨(res.noView=true∧x'.noView=true))
 {pre post:List PV} {v1 v2:List Value} (hargs:RepVs N w (pre++post) (v1++v2) (fps G.fp Ds)) (hl:v1.length=pre.length) (hsat:SatH P f pre post sh ps x x' res) {c:Nat} (hok:okH (st.s r) (x'.hc c)=true)
 (hfresh:∀ n∈(x'.objs c++rO_ res (x'.hi c)).map (·.1),st.noC n) {next:Act→World→Prop}
 (hnext:∀ w' v,R κ { s:=upd (upd st.s r (setH (st.s r) (x'.hc c))) d (rS_ res (x'.hi c)),o:=uA_ st.o (deadObjs (hc.names++Ds)++newObjs (x'.objs c++rO_ res (x'.hi c))) } (a.put (some d) v) w'→next (a.put (some d) v) w'):
 Calls P f (v1++sh.val (G.ad r) vals::v2).toArray w (fun e w'=>∃ v,e=.returned v∧next (a.put (some d) v) w'):=by
 have hbr:=hHi_ hh
 have hcok:=hHo_ hh (hG.slots r)
 have hcl:∀ c∈hc.names,(st.o c).isSome=true:=by
  cases hc with
  | cv y=>exact Cnl_ y hx.1
  | _=>simp[HC.names]
 have hall:∀ c∈hc.names++Ds,(st.o c).isSome=true:=fun c hc'=>(List.mem_append.1 hc').elim (hcl c) (hDs c)
 have hfn:=fn_1 hG _ hnd hall
 have hXin:∀ b∈fps G.fp (hc.names++Ds),∃ c p,st.o c=some p∧b∈G.fp c:=by
  intro b hb
  obtain⟨c,hc',hm⟩:=mf_.1 hb
  obtain⟨p,hp⟩:=Option.isSome_iff_exists.1 (hall c hc')
  exact⟨c,p,hp,hm⟩
 have hbX:G.ad r∉fps G.fp (hc.names++Ds):=fun hm=>by
  obtain⟨c,p,hp,hm⟩:=hXin _ hm
  exact hG.bo r c p hbr hp hm
 have hXlt:∀ b∈fps G.fp (hc.names++Ds),b<w.heap.size:=fun b hb=>by
  obtain⟨c,p,hp,hm⟩:=hXin _ hb
  exact((hG.objs c p.1 p.2 hp).2.2 b hm).2
 have hrb:RepBV N w (G.ad r) (fps G.fp hc.names) x:=by
  cases hc with
  | cv y=>
   obtain⟨h1,rfl⟩:=hx
   obtain⟨cs,e,h2,h3⟩:=hcok
   exact⟨cs,e,h2,RepC.frame hNN (fun _ _=>rfl) _ _ _ (fun _ _=>rfl) (RepCV.own (fun c sz es hc=>(hG.objs c sz es hc).1) y cs h1 h3)⟩
  | mp kv clock=>
   cases hx
   obtain⟨es,h1,h2,h3⟩:=hcok
   exact⟨rfl,es,h1,MapIs.frame hNN (fun _ _=>rfl) kv es h2,h3⟩
  | it _ _ _ _=>exact hx.elim
 have:=hsat.2 w N v1 v2 vals (G.ad r) (fps G.fp hc.names) (fps G.fp Ds) (fun b hb=>⟨(hN1 b hb).1,fun hm=>by
  rcases List.mem_cons.1 hm with e | hm
  ·exact(hN1 b hb).2.1 e
  ·exact(hN1 b hb).2.2 (by rw[fa_]; exact hm)⟩) (List.nodup_cons.2 (by rw[fa_] at hbX hfn; exact⟨hbX,hfn⟩)) (fun b hb=>by
  rcases List.mem_cons.1 hb with e | hm
  ·rw[e]; exact(hG.boxes r hbr).2
  ·exact hXlt b (by rw[fa_]; exact hm)) hps hrb hargs hl
 refine this.mono ?_
 rintro e w' ⟨v,F,Fx',rfl,hk,hb',hr',hn',hF'⟩
 refine⟨v,rfl,hnext w' v ?_⟩
 rw[← fa_] at hk hF' hb' hr'
 obtain⟨hn1,hn2⟩:=List.nodup_cons.1 hn'
 have hnA:=(List.nodup_append.1 hn2).1
 have hnB:=(List.nodup_append.1 hn2).2.1
 have hdis:∀ b∈Fx',b∉F:=fun b hb hb'=>(List.nodup_append.1 hn2).2.2 b hb b hb' rfl
 have hwk:∀ b,Nof κ st G w b→w'.heap[b]?=w.heap[b]?:=fun b hb=>hk.block b (hb.lt hG) (fun hm=>by
  rcases List.mem_cons.1 hm with e | hm
  ·exact(hN1 b (hNN b hb)).2.1 e
  ·exact(hN1 b (hNN b hb)).2.2 hm)
 have finish:∀ N':Nat→Prop,(∀ b,N' b→Nof κ st G w b∨((w.heap.size≤b∨b∈fps G.fp (hc.names++Ds))∧b<w'.heap.size∧b∉Fx'++F))→RepBV N' w' (G.ad r) Fx' x'→RepR N' w' res v F→
  R κ { s:=upd (upd st.s r (setH (st.s r) (x'.hc c))) d (rS_ res (x'.hi c)),o:=uA_ st.o (deadObjs (hc.names++Ds)++newObjs (x'.objs c++rO_ res (x'.hi c))) } (a.put (some d) v) w':=by
  intro N' hN' hbb hrr
  obtain⟨hd1,fp1,n1,r1⟩:=eBo_ (c:=c) hbb hnA
  obtain⟨hd2,fp2,hi,n2,r2⟩:=eRo_ (c:=x'.hi c) hrr hnB
  have hle1:=n1.le
  have hle2:=n2.le
  refine RnR_1 (hdv:=fun n=>if n<x'.hi c then hd1 n else hd2 n) (fpv:=fun n=>if n<x'.hi c then fp1 n else fp2 n) hG hd hrd hbr (oHb_ hok) hall hk hF' hN' (News.join n1 n2 hdis) hfresh (rSn_ _ _) (fun N2 G' hN2 hh2=>r2 N2 G' d hN2 (fun n g1 g2=>?_))
   (fun N2 G' hN2 hN3 hh2 ha=>sHo_ hok (hG.slots r) hN3 hwk ha (r1 N2 G'.hd G'.ad hN2 (fun n g1 g2=>?_)))
  ·rw[hh2 n (by omega) g2]; have:¬ n<x'.hi c:=by omega
   simp[this]
  ·rw[hh2 n g1 (by omega)]; simp[g2]
 rcases hN2 with hN2 | ⟨hv1,hv2⟩
 ·exact finish _ (fun b hb=>hb.imp (hN2 b) id) hb' hr'
 ·exact finish (fun _=>False) (fun b hb=>hb.elim) (hb'.noView hv2) (hr'.noView hv1)
end
section
def hdl:SlotV→Option (Nat×Sh×List PV)
 | .hptr r sh ps=>some (r,sh,ps)
 | .bptr r [] 0=>some (r,.ptr,[])
 | _=>none
theorem ho_1{N:Nat→Prop}{w:World}{G:Gh}{k:Nat}{v:Value}{s:SlotV}{r:Nat}{sh:Sh}{ps:List PV}(e:hdl s=some (r,sh,ps))(h:SlotOk N w G k v s):∃ vals,RepCs N w ps vals []∧v=sh.val (G.ad r) vals:=by
 unfold hdl at e
 split at e
 ·cases e; exact h
 ·cases e; exact⟨[],by simp[RepCs],h⟩
 ·cases e
theorem wa_{ob:Nat→Option (Nat×List PV)}:∀ a b:List CV,au ob (a++b)=(au ob a&&au ob b)
 | [],b=>by simp[au]
 | x::a,b=>by simp[au,wa_ a b,Bool.and_assoc]
theorem ca_1{N:Nat→Prop}{w:World}{hd:Nat→Value}:∀ {a b:List CV} {u v:List Value},CVals N w hd a u→CVals N w hd b v→CVals N w hd (a++b) (u++v)
 | [],_,u,_,h,h'=>by simp only[CVals] at h; subst h; simpa using h'
 | x::a,b,u,v,h,h'=>by
  simp only[CVals] at h
  obtain⟨y,ys,rfl,h1,h2⟩:=h
  simp only[List.cons_append,CVals]
  exact⟨y,ys++v,rfl,h1,ca_1 h2 h'⟩
theorem HiB_{ob ob':Nat→Option (Nat×List PV)}{x:BV}{h:HC}(he:∀ n∈h.names,ob' n=ob n)(hb:h.isBV ob x):h.isBV ob' x:=by
 cases h with
 | cv y=>obtain⟨g1,g2⟩:=hb; have:=Cco_1 (ob:=ob) (ob':=ob') y he; exact⟨by rw[this.1]; exact g1,by rw[this.2.2]; exact g2⟩
 | mp _ _=>exact hb
 | it _ _ _ _=>exact hb

theorem vcX_{P:Program}{nt:Nat}{o:Oper}{st:St}{d r c:Nat}{f:FuncId}{xs:List CV}{ms:List Bool}{caps:List PV}{hc:HC}{sh:Sh}{ps pre post:List PV}{x x':BV}{res:PV}{rs:List Nat}
 (hdst:o.dst=some d) (hd:d<nt) (hrd:(r==d)=false) (hr:r∈rs) (hh:hH_ (st.s r)=some hc) (hbv:hc.isBV st.o x) (hok:okH (st.s r) (x'.hc c)=true) (hw:au st.o xs=true)
 (hmn:(hc.names++mixNames ms xs).Nodup) (halias:mixPure ms xs=true∨(res.noView=true∧x'.noView=true∧∀ n∈viewNames ms xs,n∉hc.names++mixNames ms xs))
 (hargs:pre++post=mix ms (aL st.o xs) (aB st.o xs)++caps) (hcaps:∀ p∈caps,aM p=1∧(CV.pv p).isAgg=false)
 (hrun:∀ κ G st' a w,κ.nt=nt→(∀ k∈rs,st'.s k=st.s k)→(∀ n∈hc.names++ar xs,st'.o n=st.o n)→RG κ G st' a w→CI_ P f→∃ v1 v2 cv vals avs,(execOp a.eval o).run P w=.ok (.enter f (v1++sh.val (G.ad r) vals::v2).toArray) w∧
  v1.length=pre.length∧v1++v2=avs++cv∧CVals (Nof κ st' G w) w G.hd xs avs∧RepCs (Nof κ st' G w) w caps cv []∧RepCs (Nof κ st' G w) w ps vals [])
 (hsat:SatH P f pre post sh ps x x' res):
 V_ P nt o st { rs:=rs,ro:=hc.names++ar xs,fc:=(x'.objs c++rO_ res (x'.hi c)).map (·.1),us:=[(r,setH (st.s r) (x'.hc c)),(d,rS_ res (x'.hi c))],uo:=deadObjs (hc.names++mixNames ms xs)++newObjs (x'.objs c++rO_ res (x'.hi c)) }:=by
 intro κ st' a w hnt hsame hfresh hR next Q hnext
 obtain⟨G,hG⟩:=hR
 have hrd':r≠d:=by simpa using hrd
 have hcong:=Cco_ (ob:=st.o) (ob':=st'.o) xs (fun n hn=>hsame.2 n (List.mem_append.2 (.inr hn)))
 obtain⟨hw',hv',ho'⟩:=hcong
 have hwx:au st'.o xs=true:=by rw[hw']; exact hw
 obtain⟨v1,v2,cv,vals,avs,e1,e2,e3,hcv,hcp,hps⟩:=hrun κ G st' a w hnt hsame.1 hsame.2 hG hsat.1
 have hsr:st'.s r=st.s r:=hsame.1 r hr
 have hh':hH_ (st'.s r)=some hc:=by rw[hsr]; exact hh
 have hbv':=HiB_ (ob':=st'.o) (fun n hn=>hsame.2 n (List.mem_append.2 (.inl hn))) hbv
 have hlive:∀ c∈mixNames ms xs,(st'.o c).isSome=true:=mNl_ ms xs hwx
 have hbr:=hHi_ hh'
 have hcl:∀ c∈hc.names,(st'.o c).isSome=true:=by
  cases hc with
  | cv y=>exact Cnl_ y hbv'.1
  | _=>simp[HC.names]
 have hall:∀ c∈hc.names++mixNames ms xs,(st'.o c).isSome=true:=fun c hc'=>(List.mem_append.1 hc').elim (hcl c) (hlive c)
 have hobj:∀ c sz es,st'.o c=some (sz,es)→RepC (Nof κ st' G w) w (.sl true sz es) [G.hd c] (G.fp c):=fun c sz es hc=>(hG.objs c sz es hc).1
 have hXin:∀ b∈fps G.fp (hc.names++mixNames ms xs),∃ c p,st'.o c=some p∧b∈G.fp c∧c∈hc.names++mixNames ms xs:=by
  intro b hb
  obtain⟨c,hc',hm⟩:=mf_.1 hb
  obtain⟨p,hp⟩:=Option.isSome_iff_exists.1 (hall c hc')
  exact⟨c,p,hp,hm,hc'⟩
 have hNX:∀ b,Nof κ st' G w b→b<w.heap.size∧b≠G.ad r∧b∉fps G.fp (hc.names++mixNames ms xs):=fun b hb=>⟨hb.lt hG,fun e=>hb.2 (.inl ⟨r,hbr,e⟩),fun hm=>by
  obtain⟨c,p,hp,hm,_⟩:=hXin b hm
  exact hb.2 (.inr ⟨c,p,hp,hm⟩)⟩
 unfold Oper.wp
 rw[e1]
 simp only[Oper.upon]
 have done:∀ N:Nat→Prop,(∀ b,N b→b<w.heap.size∧b≠G.ad r∧b∉fps G.fp (hc.names++mixNames ms xs))→(∀ b,Nof κ st' G w b→N b)→((∀ b,N b→Nof κ st' G w b)∨(res.noView=true∧x'.noView=true))→
  RepVs N w (mix ms (aL st'.o xs) (aB st'.o xs)) avs (fps G.fp (mixNames ms xs))→Calls P f (v1++sh.val (G.ad r) vals::v2).toArray w fun e w'=>∃ v,e=.returned v∧next (a.put (some d) v) w':=by
  intro N hN1 hNN hN2 hav
  rw[hv',ho'] at hav
  have hall2:=RepVs.append _ _ _ _ _ _ hav (RVo_ caps cv [] hcaps (RepCs.frame hNN (fun _ _=>rfl) caps cv [] (by simp) hcp))
  rw[bA,← hargs,← e3] at hall2
  refine cHc_ (c:=c) hG (by rw[hnt]; exact hd) hrd' hh' hbv' hlive hmn (RepCs.frame hNN (fun _ _=>rfl) ps vals [] (by simp) hps) hN1 hNN hN2 hall2 e2 hsat (by rw[hsr]; exact hok) (fun n hn=>hfresh.2 n hn) (fun w' v hR=>hnext _ _ ?_)
  simpa[St.app,uA_,hsr] using hR
 rcases halias with hpure | ⟨hnv,hnv',hvn⟩
 ·have hvw:∀ (ms:List Bool) (xs:List CV),mixPure ms xs=true→viewNames ms xs=[]:=by
   intro ms xs
   induction xs generalizing ms with
   | nil=>intro _; rfl
   | cons y ys ih=>
    intro hp
    simp only[mixPure,aq] at hp
    simp only[viewNames,ih _ hp.2,bA]
    cases hm:ms.headD false with
    | true=>simp
    | false=>
     rw[hm] at hp
     simp only[Bool.false_or] at hp
     simp only[Bool.false_eq_true,if_false]
     exact Cpn_ y hp.1
  have hav:=mo_ (N':=Nof κ st' G w) (ob:=st'.o) (fp:=G.fp) (fun _ h=>h) hobj ms xs _ hwx (by rw[hvw ms xs hpure]; simp) hcv
  refine(done _ hNX (fun _ h=>h) (.inl (fun _ h=>h)) hav).mono ?_
  rintro e w' ⟨v,rfl,hn⟩
  rw[hdst]; exact hn
 ·have hav:=mo_ (N':=fun b=>b<w.heap.size∧b≠G.ad r∧b∉fps G.fp (hc.names++mixNames ms xs)) (ob:=st'.o) (fp:=G.fp) hNX hobj ms xs _ hwx (fun n hn b hb=>by
   have hcl:∀ (ms:List Bool) (ys:List CV),au st'.o ys=true→∀ c∈viewNames ms ys,(st'.o c).isSome=true:=by
    intro ms ys
    induction ys generalizing ms with
    | nil=>intro _ c hc; simp[viewNames] at hc
    | cons y ys ih=>
     intro hwy c hc
     simp only[au,aq] at hwy
     simp only[viewNames,aS] at hc
     rcases hc with hc | hc
     ·split at hc
      ·cases hc
      ·exact Cnl_ y hwy.1 c hc
     ·exact ih ms.tail hwy.2 c hc
   obtain⟨p,hp⟩:=Option.isSome_iff_exists.1 (hcl ms xs hwx n hn)
   refine⟨((hG.objs n p.1 p.2 hp).2.2 b hb).2,fun e=>hG.bo r n p hbr hp (e▸hb),fun hm=>?_⟩
   obtain⟨c',p',hp',hm',hc'⟩:=hXin b hm
   exact hG.oo n c' p p' hp hp' (fun e=>hvn n hn (e▸hc')) b hb hm') hcv
  refine(done _ (fun _ h=>h) hNX (.inr ⟨hnv,hnv'⟩) hav).mono ?_
  rintro e w' ⟨v,rfl,hn⟩
  rw[hdst]; exact hn
end
section
theorem vcA_{P:Program}{nt:Nat}{o:Oper}{st:St}{d r c:Nat}{g x:Operand}{as1 as2:List Operand}{ts:List TypeId}{f:FuncId}{xs1 xs2:List CV}{ms:List Bool}{caps:List PV}{T1 T2:TypeId}{hc:HC}{sh:Sh}{ps pre post:List PV}{x0 x':BV}{res:PV}
 (hop:o.op=.call { callee:=.value g,args:=⟨as1++x::as2⟩,argTypes:=⟨ts⟩ }) (hdst:o.dst=some d) (hd:d<nt) (hg:ev P st T1 g=.val (.pv (.clo f caps))) (hx:hdl (ev P st T2 x)=some (r,sh,ps)) (hrd:(r==d)=false)
 (hh:hH_ (st.s r)=some hc) (hbv:hc.isBV st.o x0) (hok:okH (st.s r) (x'.hc c)=true) (hx1:argCVs P st as1 ts=xs1) (hx2:argCVs P st as2 (ts.drop (as1.length+1))=xs2) (hw:au st.o (xs1++xs2)=true)
 (hmn:(hc.names++mixNames ms (xs1++xs2)).Nodup) (halias:mixPure ms (xs1++xs2)=true∨(res.noView=true∧x'.noView=true∧∀ n∈viewNames ms (xs1++xs2),n∉hc.names++mixNames ms (xs1++xs2)))
 (hargs:pre++post=mix ms (aL st.o (xs1++xs2)) (aB st.o (xs1++xs2))++caps) (hpl:pre.length=as1.length) (hcaps:∀ p∈caps,aM p=1∧(CV.pv p).isAgg=false) (hsat:SatH P f pre post sh ps x0 x' res):
 V_ P nt o st { rs:=r::(rd g++(as1++x::as2).flatMap rd),ro:=hc.names++ar (xs1++xs2),fc:=(x'.objs c++rO_ res (x'.hi c)).map (·.1),us:=[(r,setH (st.s r) (x'.hc c)),(d,rS_ res (x'.hi c))],uo:=deadObjs (hc.names++mixNames ms (xs1++xs2))++newObjs (x'.objs c++rO_ res (x'.hi c)) }:=by
 refine vcX_ hdst hd hrd (by simp) hh hbv hok hw hmn halias hargs hcaps (fun κ G st' a w hnt hs ho hG hci=>?_) hsat
 have hob:=Cco_ (ob:=st.o) (ob':=st'.o) (xs1++xs2) (fun n hn=>ho n (List.mem_append.2 (.inr hn)))
 have hw':au st'.o (xs1++xs2)=true:=by rw[hob.1]; exact hw
 rw[wa_,aq] at hw'
 have c1:=ao_ (P:=P) (st:=st) hG as1 ts (fun k hk=>hs k (by simp only[aU,aS,List.flatMap_append]; exact .inr (.inr (.inl hk)))) (by rw[hx1]; exact hw'.1)
 have c2:=ao_ (P:=P) (st:=st) hG as2 (ts.drop (as1.length+1)) (fun k hk=>hs k (by simp only[aU,aS,List.flatMap_append,List.flatMap_cons]; exact .inr (.inr (.inr (.inr hk))))) (by rw[hx2]; exact hw'.2)
 rw[hx1] at c1
 rw[hx2] at c2
 have hxv:=eo_ (P:=P) (T:=T2) hG x 0
 rw[ec_ (fun k hk=>hs k (by simp only[aU,aS,List.flatMap_append,List.flatMap_cons]; exact .inr (.inr (.inr (.inl hk)))))] at hxv
 obtain⟨vals,hps,hxe⟩:=ho_1 hx hxv
 have hgv:=eo_ (P:=P) (T:=T1) hG g 0
 rw[ec_ (fun k hk=>hs k (by simp[hk])),hg] at hgv
 rcases hgv with⟨hgv,_⟩ | ⟨_,hgv,_⟩
 ·simp[CV.isAgg] at hgv
 simp only[RepCV,RepC] at hgv
 obtain⟨cv,hg1,_,hg3,_⟩:=hgv
 simp at hg1
 refine⟨as1.map a.eval,as2.map a.eval++cv,cv,vals,as1.map a.eval++as2.map a.eval,?_,by simp[hpl],by simp,ca_1 c1 c2,hg3,hps⟩
 have harr:(Array.map a.eval ⟨as1++x::as2⟩++cv.toArray)=(as1.map a.eval++sh.val (G.ad r) vals::(as2.map a.eval++cv)).toArray:=by
  apply Array.ext'; simp[hxe]
 simp[execOp,hop,resolve,hg1,Deferred.ofValue,invoke,rcF_ hci]
 simp[hxe]
def sP_:List Bool→List PV→Option (List PV×List PV)
 | true::p,ps=>if (p.all fun b=>!b)&&p.length==ps.length then some ([],ps) else none
 | false::p,q::ps=>(sP_ p ps).map fun x=>(q::x.1,x.2)
 | _,_=>none
theorem ff_(b:Nat):∀ (p:List Bool) (vs:List Value),(p.all fun b=>!b)=true→p.length=vs.length→fP_ p b vs=vs
 | [],[],_,_=>rfl
 | false::p,v::vs,h,hl=>by simp only[fP_]; rw[ff_ b p vs (by simpa using h) (by simpa using hl)]
 | true::p,_,h,_=>by simp at h
 | [],_::_,_,hl=>by simp at hl
 | false::_,[],_,hl=>by simp at hl
theorem sPo_{N:Nat→Prop}{w:World}{b:Nat}:∀ {pat:List Bool} {ps ps1 ps2:List PV} {vals:List Value},sP_ pat ps=some (ps1,ps2)→(∀ p∈ps,aM p=1∧(CV.pv p).isAgg=false)→RepCs N w ps vals []→
 ps=ps1++ps2∧∃ u1 u2,fP_ pat b vals=u1++.pointer (some ⟨b,0,none⟩)::u2∧u1.length=ps1.length∧vals=u1++u2
 | true::p,ps,ps1,ps2,vals,h,hs,hr=>by
  simp only[sP_] at h
  split at h
  ·rename_i g
   simp only[aq,beq_iff_eq] at g
   cases h
   have hl:=RepCs.length _ _ _ hr
   have hsz:PV.sizes ps=ps.length:=by
    clear hr hl g
    induction ps with
    | nil=>rfl
    | cons q qs ih=>simp only[PV.sizes,List.length_cons]; rw[(hs q (by simp)).1,ih (fun p hp=>hs p (by simp[hp]))]; omega
   exact⟨rfl,[],vals,by simp only[fP_,bh]; rw[ff_ b p vals g.1 (by omega)],rfl,rfl⟩
  ·cases h
 | false::p,q::ps,ps1,ps2,vals,h,hs,hr=>by
  simp only[sP_] at h
  cases hx:sP_ p ps with
  | none=>rw[hx] at h; cases h
  | some y=>
   rw[hx] at h
   simp only[Option.map_some,Option.some.injEq,Prod.mk.injEq] at h
   obtain⟨rfl,rfl⟩:=h
   simp only[RepCs] at hr
   obtain⟨k1,k2,F1,F2,rfl,e2,h3,h4⟩:=hr
   have e1:F1=[]∧F2=[]:=by have:=congrArg List.length e2; simp at this; exact⟨List.eq_nil_of_length_eq_zero (by omega),List.eq_nil_of_length_eq_zero (by omega)⟩
   obtain⟨rfl,rfl⟩:=e1
   have hl:=RepC.length _ _ _ h3
   rw[(hs q (by simp)).1] at hl
   obtain⟨u,rfl⟩:=List.length_eq_one_iff.1 hl
   obtain⟨g1,u1,u2,g2,g3,g4⟩:=sPo_ (b:=b) (ps1:=y.1) (ps2:=y.2) hx (fun p hp=>hs p (by simp[hp])) h4
   exact⟨by simp[g1],u::u1,u2,by simp[fP_,g2],by simp[g3],by simp[g4]⟩
 | [],_,_,_,_,h,_,_=>by simp[sP_] at h
 | false::_,[],_,_,_,h,_,_=>by simp[sP_] at h
theorem vcC_{P:Program}{nt:Nat}{o:Oper}{st:St}{d r c:Nat}{g:Operand}{as:List Operand}{ts:List TypeId}{f:FuncId}{xs:List CV}{ms:List Bool}{pat:List Bool}{T1:TypeId}{hc:HC}{ps ps1 ps2 pre:List PV}{x0 x':BV}{res:PV}
 (hop:o.op=.call { callee:=.value g,args:=⟨as⟩,argTypes:=⟨ts⟩ }) (hdst:o.dst=some d) (hd:d<nt) (hg:ev P st T1 g=.hptr r (.clo f pat) ps) (hpat:sP_ pat ps=some (ps1,ps2)) (hrd:(r==d)=false)
 (hh:hH_ (st.s r)=some hc) (hbv:hc.isBV st.o x0) (hok:okH (st.s r) (x'.hc c)=true) (hx1:argCVs P st as ts=xs) (hw:au st.o xs=true)
 (hmn:(hc.names++mixNames ms xs).Nodup) (halias:mixPure ms xs=true∨(res.noView=true∧x'.noView=true∧∀ n∈viewNames ms xs,n∉hc.names++mixNames ms xs))
 (hargs:pre=mix ms (aL st.o xs) (aB st.o xs)++ps1) (hml:(mix ms (aL st.o xs) (aB st.o xs)).length=as.length) (hcaps:∀ p∈ps,aM p=1∧(CV.pv p).isAgg=false) (hsat:SatH P f pre ps2 .ptr [] x0 x' res):
 V_ P nt o st { rs:=r::(rd g++as.flatMap rd),ro:=hc.names++ar xs,fc:=(x'.objs c++rO_ res (x'.hi c)).map (·.1),us:=[(r,setH (st.s r) (x'.hc c)),(d,rS_ res (x'.hi c))],uo:=deadObjs (hc.names++mixNames ms xs)++newObjs (x'.objs c++rO_ res (x'.hi c)) }:=by
 have hps12:∀ {N:Nat→Prop} {w:World} {b:Nat} {vals:List Value},RepCs N w ps vals []→ps=ps1++ps2∧∃ u1 u2,fP_ pat b vals=u1++.pointer (some ⟨b,0,none⟩)::u2∧u1.length=ps1.length∧vals=u1++u2:=fun h=>sPo_ hpat hcaps h
 have hpsq:ps=ps1++ps2:=by
  have:∀ {pat:List Bool} {ps ps1 ps2:List PV},sP_ pat ps=some (ps1,ps2)→ps=ps1++ps2:=by
   intro pat
   induction pat with
   | nil=>intro ps ps1 ps2 h; simp[sP_] at h
   | cons b p ih=>
    intro ps ps1 ps2 h
    cases b with
    | true=>simp only[sP_] at h; split at h<;>cases h; rfl
    | false=>
     cases ps with
     | nil=>simp[sP_] at h
     | cons q ps=>
      simp only[sP_] at h
      cases hx:sP_ p ps with
      | none=>rw[hx] at h; cases h
      | some y=>rw[hx] at h; simp only[Option.map_some,Option.some.injEq,Prod.mk.injEq] at h; obtain⟨rfl,rfl⟩:=h; rw[ih (ps1:=y.1) (ps2:=y.2) hx]; rfl
  exact this hpat
 refine vcX_ (caps:=ps) hdst hd hrd (by simp) hh hbv hok hw hmn halias (by rw[hargs,hpsq,aY]) hcaps (fun κ G st' a w hnt hs ho hG hci=>?_) hsat
 have hob:=Cco_ (ob:=st.o) (ob':=st'.o) xs (fun n hn=>ho n (List.mem_append.2 (.inr hn)))
 have hw':au st'.o xs=true:=by rw[hob.1]; exact hw
 have c1:=ao_ (P:=P) (st:=st) hG as ts (fun k hk=>hs k (by simp only[aU,aS]; exact .inr (.inr hk))) (by rw[hx1]; exact hw')
 rw[hx1] at c1
 have hgv:=eo_ (P:=P) (T:=T1) hG g 0
 rw[ec_ (fun k hk=>hs k (by simp[hk])),hg] at hgv
 obtain⟨vals,hps,hg1⟩:=hgv
 obtain⟨_,u1,u2,e1,e2,e3⟩:=hps12 (b:=G.ad r) hps
 refine⟨as.map a.eval++u1,u2,vals,[],as.map a.eval,?_,by rw[hargs]; simp[e2,hml],by simp[e3],c1,hps,by simp[RepCs]⟩
 have harr:(Array.map a.eval ⟨as⟩++(fP_ pat (G.ad r) vals).toArray)=(as.map a.eval++u1++Sh.ptr.val (G.ad r) []::u2).toArray:=by
  apply Array.ext'; simp[e1,Sh.val]
 simp[execOp,hop,resolve,hg1,Sh.val,Deferred.ofValue,invoke,rcF_ hci]
 simpa[Sh.val] using harr
end
section
open Go.ChangeMaps (setBlock)
theorem be_(k:ByteArray):(k==k)=true:=by show(k.data==k.data)=true; simp
theorem bn_1{k k':ByteArray}(h:k≠k'):(k==k')=false:=by
 cases hh:(k==k') with
 | false=>rfl
 | true=>
  have:(k.data==k'.data)=true:=hh
  exact absurd (by cases k; cases k'; simpa using this) h
section
variable{α β:Type}
def gput(k:ByteArray)(v:α)(ck:Nat):List (ByteArray×α×Nat)→List (ByteArray×α×Nat)
 | []=>[(k,v,ck)]
 | e::es=>if e.1=k then(k,v,e.2.2)::es else e::gput k v ck es
def ghas(k:ByteArray):List (ByteArray×α×Nat)→Bool
 | []=>false
 | e::es=>if e.1=k then true else ghas k es
def gget(z:α)(k:ByteArray):List (ByteArray×α×Nat)→α
 | []=>z
 | e::es=>if e.1=k then e.2.1 else gget z k es
def gdel(k:ByteArray):List (ByteArray×α×Nat)→List (ByteArray×α×Nat)
 | []=>[]
 | e::es=>if e.1=k then es else e::gdel k es
structure GMap(α:Type) where
 es:List (ByteArray×α×Nat)
 clock:Nat
def GMap.empty:GMap α:=⟨[],0⟩
def GMap.put(m:GMap α)(k:ByteArray)(v:α):GMap α:=⟨gput k v m.clock m.es,if ghas k m.es then m.clock else m.clock+1⟩
def GMap.get(m:GMap α)(k:ByteArray)(z:α):α:=gget z k m.es
def GMap.has(m:GMap α)(k:ByteArray):Bool:=ghas k m.es
def gmap(f:α→β)(l:List (ByteArray×α×Nat)):List (ByteArray×β×Nat):=l.map fun e=>(e.1,f e.2.1,e.2.2)
theorem gp_(f:α→β)(k:ByteArray)(v:α)(ck:Nat):∀ l:List (ByteArray×α×Nat),gmap f (gput k v ck l)=gput k (f v) ck (gmap f l)
 | []=>rfl
 | e::es=>by
  simp only[gmap,gput,aD]
  split
  ·rfl
  ·simp only[aD]; exact congrArg _ (gp_ f k v ck es)
theorem gh_(f:α→β)(k:ByteArray):∀ l:List (ByteArray×α×Nat),ghas k (gmap f l)=ghas k l
 | []=>rfl
 | e::es=>by
  simp only[gmap,ghas,aD]
  split
  ·rfl
  ·exact gh_ f k es
theorem gg_1(f:α→β)(z:α)(k:ByteArray):∀ l:List (ByteArray×α×Nat),gget (f z) k (gmap f l)=f (gget z k l)
 | []=>rfl
 | e::es=>by
  simp only[gmap,gget,aD]
  split
  ·rfl
  ·exact gg_1 f z k es
theorem gi_(k:ByteArray):∀ l:List (ByteArray×α×Nat),ghas k l=true↔k∈l.map (·.1)
 | []=>by simp[ghas]
 | e::es=>by
  simp only[ghas,aD,aU]
  by_cases h:e.1=k
  ·simp[h]
  ·rw[if_neg h,gi_ k es]; simp[Ne.symm h]
theorem gk_(k:ByteArray)(v:α)(ck:Nat):∀ l:List (ByteArray×α×Nat),(gput k v ck l).map (·.1)=if ghas k l then l.map (·.1) else l.map (·.1)++[k]
 | []=>rfl
 | e::es=>by
  simp only[gput,ghas]
  by_cases h:e.1=k
  ·simp[h]
  ·simp only[h,if_false,aD,gk_ k v ck es]; split<;>rfl
theorem gs_1(k:ByteArray)(v:α)(ck:Nat):∀ l:List (ByteArray×α×Nat),(gput k v ck l).map (·.2.2)=if ghas k l then l.map (·.2.2) else l.map (·.2.2)++[ck]
 | []=>rfl
 | e::es=>by
  simp only[gput,ghas]
  by_cases h:e.1=k
  ·simp[h]
  ·simp only[h,if_false,aD,gs_1 k v ck es]; split<;>rfl
end
def MapOk(kv:List MEnt)(clock:Nat):Prop:=(kv.map (·.1)).Nodup∧(kv.map (·.2.2)).Nodup∧∀ e∈kv,e.2.2<clock
theorem MapOk.put{kv:List MEnt}{ck:Nat}(h:MapOk kv ck)(k:ByteArray)(p:PV):MapOk (gput k p ck kv) (if ghas k kv then ck else ck+1):=by
 obtain⟨h1,h2,h3⟩:=h
 have key:∀ s,s∈(gput k p ck kv).map (·.2.2)→s<if ghas k kv then ck else ck+1:=by
  intro s hs
  rw[gs_1] at hs
  cases hh:ghas k kv with
  | true=>
   rw[hh] at hs
   simp only[if_true] at hs ⊢
   obtain⟨e,he,rfl⟩:=List.mem_map.1 hs
   exact h3 e he
  | false=>
   rw[hh] at hs
   simp only[Bool.false_eq_true,if_false,aS,List.mem_singleton] at hs ⊢
   rcases hs with hs | rfl
   ·obtain⟨e,he,rfl⟩:=List.mem_map.1 hs
    have:=h3 e he; omega
   ·omega
 refine⟨?_,?_,fun e he=>key _ (List.mem_map.2 ⟨e,he,rfl⟩)⟩
 ·rw[gk_]
  cases hh:ghas k kv with
  | true=>simpa using h1
  | false=>
   have:k∉kv.map (·.1):=fun hm=>by rw[(gi_ k kv).2 hm] at hh; cases hh
   simp only[Bool.false_eq_true,if_false]
   exact List.nodup_append.2 ⟨h1,by simp,fun a ha b hb=>by simp at hb; subst hb; exact fun e=>this (e▸ha)⟩
 ·rw[gs_1]
  cases hh:ghas k kv with
  | true=>simpa using h2
  | false=>
   have:ck∉kv.map (·.2.2):=fun hm=>by obtain⟨e,he,e1⟩:=List.mem_map.1 hm; have:=h3 e he; omega
   simp only[Bool.false_eq_true,if_false]
   exact List.nodup_append.2 ⟨h2,by simp,fun a ha b hb=>by simp at hb; subst hb; exact fun e=>this (e▸ha)⟩
section
variable{N:Nat→Prop}{w:World}
theorem fo_2(k:ByteArray):∀ (kv:List MEnt) (es:List MapEntry) (i:Nat),MapIs N w kv es→
 (∃ j e,es[j]?=some e∧e.key=.string k∧Instr.findNow .string (.string k) es i=some (some (i+j,e.val))∧ghas k kv=true∧(∀ z,RepV N w (gget z k kv) e.val [])∧
  (∀ (p:PV) (v:Value) (ck:Nat),RepV N w p v []→MapIs N w (gput k p ck kv) (es.modify j fun e=>{ e with key:=.string k,val:=v }))∧MapIs N w (gdel k kv) (es.eraseIdx j))∨
 (Instr.findNow .string (.string k) es i=some none∧ghas k kv=false∧(∀ z,gget z k kv=z)∧
  (∀ (p:PV) (v:Value) (ck:Nat),RepV N w p v []→MapIs N w (gput k p ck kv) (es++[{ key:=.string k,val:=v,born:=ck }]))∧gdel k kv=kv)
 | [],es,i,h=>by
  simp only[MapIs] at h
  subst h
  exact .inr ⟨rfl,rfl,fun _=>rfl,fun p v ck hv=>⟨_,[],rfl,rfl,rfl,hv,rfl⟩,rfl⟩
 | (k',p',s)::kv,es,i,h=>by
  obtain⟨e,es',rfl,h2,h3,h4,h5⟩:=h
  by_cases hk:k'=k
  ·subst hk
   refine .inl ⟨0,e,rfl,h2,?_,by simp[ghas],fun z=>by simpa[gget] using h4,fun p v ck hv=>?_,by simpa[gdel] using h5⟩
   ·simp only[Instr.findNow,h2,Instr.sameNow,be_,Nat.add_zero]
   ·simp only[gput,if_true,List.modify_zero_cons]
    exact⟨_,es',rfl,rfl,h3,hv,h5⟩
  ·have hne:(k==k')=false:=bn_1 (fun e=>hk e.symm)
   rcases fo_2 k kv es' (i+1) h5 with⟨j,e',g1,g2,g3,g4,g5,g6,g7⟩ | ⟨g1,g2,g3,g4,g5⟩
   ·refine .inl ⟨j+1,e',by simpa using g1,g2,?_,by simpa[ghas,hk] using g4,fun z=>by simpa[gget,hk] using g5 z,fun p v ck hv=>?_,?_⟩
    ·simp only[Instr.findNow,h2,Instr.sameNow,hne]; rw[g3]; congr 3; omega
    ·simp only[gput,hk,if_false,List.modify_succ_cons]
     exact⟨e,_,rfl,h2,h3,h4,g6 p v ck hv⟩
    ·simp only[gdel,hk,if_false,List.eraseIdx_cons_succ]
     exact⟨e,_,rfl,h2,h3,h4,g7⟩
   ·refine .inr ⟨?_,by simpa[ghas,hk] using g2,fun z=>by simpa[gget,hk] using g3 z,fun p v ck hv=>?_,by simp[gdel,hk,g5]⟩
    ·simp only[Instr.findNow,h2,Instr.sameNow,hne]; exact g1
    ·simp only[gput,hk,if_false,List.cons_append]
     exact⟨e,_,rfl,h2,h3,h4,g4 p v ck hv⟩
end
def MT_(P:Program)(T E:TypeId):Prop:=∃ K,P.underlying T=some (.map K E)∧P.underlying K=some .string
theorem rcS_{P:Program}{K:TypeId}(h:P.underlying K=some .string)(b:Bool)(k:ByteArray)(w:World):(Instr.checkKey b 10000 K (.string k)).run P w=.ok () w:=by
 exact MapKept.run_checkKey (d:=.string) (k:=.string k) h trivial b 9999
theorem rfS_{P:Program}{K:TypeId}(h:P.underlying K=some .string)(k:ByteArray)(es:List MapEntry)(w:World){r:Option (Nat×Value)}(hr:Instr.findNow .string (.string k) es 0=some r):(Instr.findKey K (.string k) es).run P w=.ok r w:=by
 simp[Instr.findKey,run_underlying h,hr]
theorem rmU_{P:Program}{T E:TypeId}(hT:MT_ P T E){N:Nat→Prop}{w:World}{b ck:Nat}{kv:List MEnt}{es:List MapEntry}(hb:w.heap[b]?=some (.map es.toArray ck))(hm:MapIs N w kv es){k:ByteArray}{p:PV}{v:Value}(hv:RepV N w p v []):
 ∃ es',(Instr.mapUpdate T (.map (some b)) (.string k) v).run P w=.ok () (setBlock w b (.map es'.toArray (if ghas k kv then ck else ck+1)))∧MapIs N w (gput k p ck kv) es':=by
 obtain⟨K,hT,hK⟩:=hT
 rcases fo_2 k kv es 0 hm with⟨j,e,g1,g2,g3,g4,g5,g6,g7⟩ | ⟨g1,g2,g3,g4,g5⟩
 ·refine⟨_,?_,g6 p v ck hv⟩
  have hg:es.toArray[j]?=some e:=by simpa using g1
  have hsame:Instr.sameBits 10000 (.string k) (.string k)=true:=be_ k
  simp[Instr.mapUpdate,run_underlying hT,MapKept.run_getObj_map hb,rcS_ hK,rfS_ hK k es _ g3,g4,g1,g2,Instr.keyThatStays,hsame,MapKept.run_setObj_map _ hb,setBlock]
 ·refine⟨_,?_,g4 p v ck hv⟩
  simp[Instr.mapUpdate,run_underlying hT,MapKept.run_getObj_map hb,rcS_ hK,rfS_ hK k es _ g1,g2,MapKept.run_setObj_map _ hb,setBlock]
theorem rl_3{P:Program}{T E:TypeId}(hT:MT_ P T E){N:Nat→Prop}{w:World}{b ck:Nat}{kv:List MEnt}{es:List MapEntry}(hb:w.heap[b]?=some (.map es.toArray ck))(hm:MapIs N w kv es){k:ByteArray}{z:Value}{pz:PV}(hz:∃ i,P.info? E=some i∧i.zero=some z)(hpz:RepV N w pz z [])(ok:Bool):
 ∃ v,RepV N w (gget pz k kv) v []∧(Instr.lookup T (.map (some b)) (.string k) ok).run P w=.ok (if ok then .tuple #[v,.bool (ghas k kv)] else v) w:=by
 obtain⟨K,hT,hK⟩:=hT
 obtain⟨i,hi1,hi2⟩:=hz
 rcases fo_2 k kv es 0 hm with⟨j,e,g1,g2,g3,g4,g5,g6,g7⟩ | ⟨g1,g2,g3,g4,g5⟩
 ·refine⟨e.val,g5 pz,?_⟩
  cases ok<;>simp[Instr.lookup,run_underlying hT,MapKept.run_getObj_map hb,rcS_ hK,rfS_ hK k es _ g3,g4]
 ·refine⟨z,by rw[g3]; exact hpz,?_⟩
  cases ok<;>simp[Instr.lookup,run_underlying hT,MapKept.run_getObj_map hb,rcS_ hK,rfS_ hK k es _ g1,g2,zeroValue,typeInfo,hi1,hi2]

theorem RG.putSelf{κ:Ctx}{G:Gh}{st:St}{a:Act}{w:World}(h:RG κ G st a w){r:Nat}(hr:r<κ.nt):a=a.put (some r) (a.tmps.getD r undef):=by
 have hlt:r<a.tmps.size:=by rw[h.nt]; exact hr
 cases a with
 | mk t ds=>
  simp only[Act.put,Act.mk.injEq,and_true]
  apply Array.ext_getElem?
  intro i
  rw[Array.getElem?_setIfInBounds]
  split
  ·rename_i hi; subst hi; simp[Array.getD_eq_getD_getElem?]
  ·rfl
theorem RG.setHold{κ:Ctx}{st:St}{a:Act}{w:World}{r:Nat}{hc:HC}{o':Obj}{G:Gh}(h:RG κ G st a w)(hrn:r<κ.nt)(hok:okH (st.s r) hc=true)
 (hh:HCok (Nof κ st G w) (setBlock w (G.ad r) o') G.hd G.ad (G.ad r) hc):RG κ G (st.set r (setH (st.s r) hc)) a (setBlock w (G.ad r) o'):=by
 have hbr:iB_ (st.s r)=true:=by
  cases hs:st.s r<;>rw[hs] at hok<;>first | rfl | (simp[okH] at hok; done)
 have hsz:(setBlock w (G.ad r) o').heap.size=w.heap.size:=by simp[setBlock]
 have hother:∀ b,b≠G.ad r→(setBlock w (G.ad r) o').heap[b]?=w.heap[b]?:=fun b hb=>by simp[setBlock,Ne.symm hb]
 have hbox:∀ k,iB_ ((st.set r (setH (st.s r) hc)).s k)=iB_ (st.s k):=by
  intro k
  simp only[aX,upd]
  split
  ·rename_i e; subst e; rw[hbr]; exact oHb_ hok
  ·rfl
 have hpriv:∀ b,Priv (st.set r (setH (st.s r) hc)) G b↔Priv st G b:=by
  intro b
  simp only[Priv,hbox]
  rfl
 have hN:∀ b,Nof κ st G w b→Nof κ (st.set r (setH (st.s r) hc)) G (setBlock w (G.ad r) o') b:=by
  intro b hb
  refine⟨?_,fun hp=>hb.2 ((hpriv b).1 hp)⟩
  rcases hb.1 with h1 | h1
  ·exact .inl h1
  ·exact .inr (by rw[hsz]; exact h1)
 have hNe:∀ b,Nof κ st G w b→b≠G.ad r:=fun b hb e=>hb.2 (.inl ⟨r,hbr,e⟩)
 have hw:∀ b,Nof κ st G w b→(setBlock w (G.ad r) o').heap[b]?=w.heap[b]?:=fun b hb=>hother b (hNe b hb)
 rw[h.putSelf hrn]
 refine h.step hrn ⟨rfl,rfl,rfl,by rw[hsz]; exact aJ _,fun k hk hkL=>hother k (fun e=>(h.boxes r hbr).1.elim (fun h1=>by omega) (fun h1=>hkL (e▸h1))),fun _=>aJ _⟩ hN hw (fun k hk=>.inl (by simp[aX,upd,hk])) ?_ (fun _ _ _ _ _=>rfl) (fun _ _ _ _ _=>rfl) ?_ ?_ ?_ ?_ ?_ ?_ (fun _ _=>rfl)
 ·have:(st.set r (setH (st.s r) hc)).s r=setH (st.s r) hc:=by simp[aX,upd]
  rw[this]
  exact sHo_ hok (h.slots r) hN hw rfl (HCok.frame hN (fun _ _=>rfl) (fun _ _=>rfl) (fun _ _=>rfl) rfl hh)
 ·intro k hk _ hb
  exact⟨rfl,hother _ (fun e=>hk (h.bb k r hb hbr e))⟩
 ·intro c' sz es hc
  obtain⟨h1,h2,h5⟩:=h.objs c' sz es hc
  exact⟨RepC.frame hN hw _ _ _ (fun b hb=>hother b (fun e=>h.bo r c' _ hbr hc (e▸hb))) h1,h2,by rw[hsz]; exact h5⟩
 ·intro k hk; rw[hbox] at hk; rw[hsz]; exact h.boxes k hk
 ·intro k k' h1 h2; rw[hbox] at h1 h2; exact h.bb k k' h1 h2
 ·intro k c' p' h1 h2; rw[hbox] at h1; exact h.bo k c' p' h1 h2
 ·exact fun c1 c2 p1 p2 h1 h2=>h.oo c1 c2 p1 p2 h1 h2
theorem R.setHold{κ:Ctx}{st:St}{a:Act}{w:World}{r:Nat}{hc:HC}{o':Obj}(G:Gh)(h:RG κ G st a w)(hrn:r<κ.nt)(hok:okH (st.s r) hc=true)
 (hh:HCok (Nof κ st G w) (setBlock w (G.ad r) o') G.hd G.ad (G.ad r) hc):R κ (st.set r (setH (st.s r) hc)) a (setBlock w (G.ad r) o'):=⟨G,h.setHold hrn hok hh⟩
theorem RnH_{κ:Ctx}{st:St}{a:Act}{w:World}{d:Nat}{x:HC}{sh:Sh}{o:Obj}(G:Gh)(h:RG κ G st a w)(hd:d<κ.nt)(hf:st.noR d)(hx1:∀ r,x.noR r=true∨r≠d)
 (hx:∀ N w' ad,(∀ b,Nof κ st G w b→N b)→(∀ b,Nof κ st G w b→w'.heap[b]?=w.heap[b]?)→w'.heap[w.heap.size]?=some o→(∀ r,r≠d→ad r=G.ad r)→HCok N w' G.hd ad w.heap.size x):
 R κ (st.set d (.hold sh [] x)) (a.put (some d) (sh.val w.heap.size [])) (w.alloc o):=by
 have hbs:=h.keep.size
 let G':Gh:={ G with ad:=upd G.ad d w.heap.size }
 have hlt:∀ b,Nof κ st G w b→b<w.heap.size:=fun b hb=>hb.lt h
 have hbox:∀ r,iB_ ((st.set d (.hold sh [] x)).s r)=true→r=d∨(r≠d∧iB_ (st.s r)=true):=by
  intro r hr
  by_cases hrd:r=d
  ·exact .inl hrd
  ·simp only[aX,upd,if_neg hrd] at hr; exact .inr ⟨hrd,hr⟩
 have had:∀ r,r≠d→G'.ad r=G.ad r:=fun r hr=>un_ hr
 have hadd:G'.ad d=w.heap.size:=us_ _ _ _
 have hN:∀ b,Nof κ st G w b→Nof κ (st.set d (.hold sh [] x)) G' (w.alloc o) b:=by
  intro b hb
  refine⟨?_,fun hp=>?_⟩
  ·rcases hb.1 with h1 | h1
   ·exact .inl h1
   ·exact .inr ⟨h1.1,by simp; omega⟩
  ·rcases hp with⟨r,h1,h2⟩ | ⟨c,p,h1,h2⟩
   ·rcases hbox r h1 with rfl | ⟨h3,h4⟩
    ·rw[hadd] at h2; have:=hlt b hb; omega
    ·rw[had r h3] at h2; exact hb.2 (.inl ⟨r,h4,h2⟩)
   ·exact hb.2 (.inr ⟨c,p,h1,h2⟩)
 have hw:∀ b,b<w.heap.size→(w.alloc o).heap[b]?=w.heap[b]?:=fun b hb=>hpl_ hb
 refine⟨G',h.step hd (.of_below ((RowKit.Below.refl _ _).alloc hbs _)) hN (fun b hb=>hw b (hlt b hb)) (fun k hk=>.inl (by simp[aX,upd,hk])) ?_ (fun _ _ _ _ _=>rfl) ?_ ?_ ?_ ?_ ?_ ?_ ?_ (fun _ _=>rfl)⟩
 ·have:(st.set d (.hold sh [] x)).s d=.hold sh [] x:=by simp[aX,upd]
  rw[this]
  exact⟨[],by simp[RepCs],by rw[hadd],by rw[hadd]; exact hx _ _ G'.ad hN (fun b hb=>hw b (hlt b hb)) hpe_ had⟩
 ·intro k r _ _ hr
  refine had r (fun e=>?_)
  subst e
  rw[hf k] at hr; cases hr
 ·intro k hk _ hb
  exact⟨had k hk,hw _ (h.boxes k hb).2⟩
 ·intro c sz es hc
  obtain⟨h1,h2,h3⟩:=h.objs c sz es hc
  exact⟨RepC.frame hN (fun b hb=>hw b (hlt b hb)) _ _ _ (fun b hb=>hw b (h3 b hb).2) h1,h2,fun b hb=>⟨(h3 b hb).1,by simp; have:=(h3 b hb).2; omega⟩⟩
 ·intro r hr
  rcases hbox r hr with rfl | ⟨h3,h4⟩
  ·rw[hadd]; exact⟨.inl hbs,by simp⟩
  ·rw[had r h3]; have:=h.boxes r h4; exact⟨this.1,by simp; omega⟩
 ·intro r r' h1 h2 he
  rcases hbox r h1 with rfl | ⟨h3,h4⟩<;>rcases hbox r' h2 with rfl | ⟨h5,h6⟩
  ·rfl
  ·rw[hadd,had r' h5] at he; have:=(h.boxes r' h6).2; omega
  ·rw[hadd,had r h3] at he; have:=(h.boxes r h4).2; omega
  ·rw[had r h3,had r' h5] at he; exact h.bb r r' h4 h6 he
 ·intro r c p h1 h2 hm
  rcases hbox r h1 with rfl | ⟨h3,h4⟩
  ·rw[hadd] at hm; have:=((h.objs c p.1 p.2 h2).2.2 _ hm).2; omega
  ·rw[had r h3] at hm; exact h.bo r c p h4 h2 hm
 ·exact fun c c' p p' h1 h2=>h.oo c c' p p' h1 h2

section
variable{P:Program}{nt:Nat}{o:Oper}{st:St}{d r:Nat}{T E T1 T2:TypeId}{x y z:Operand}
theorem vmM_(hop:o.op=.makeMap T none)(hdst:o.dst=some d)(hd:d<nt):V_ P nt o st { fr:=[d],us:=[(d,.hold .mp [] (.mp [] 0))] }:=by
 intro κ st' a w hnt _ hfresh hR next Q hnext
 obtain⟨G,hG⟩:=hR
 unfold Oper.wp
 have hrun:(execOp a.eval o).run P w=.ok (.value (.map (some w.heap.size))) (w.alloc (.map #[] 0)):=by
  simp[execOp,hop,Instr.makeMap]
 rw[hrun]
 simp only[Oper.upon]
 rw[hdst]
 refine hnext _ _ ?_
 have:=RnH_ (x:=.mp [] 0) (sh:=.mp) (o:=.map #[] 0) G hG (by rw[hnt]; exact hd) (hfresh.1.1 d (by simp)) (fun _=>.inl rfl) (fun N w' ad _ _ hb _=>⟨[],by simpa using hb,rfl,by simp,by simp,by simp⟩)
 simpa[St.app,uA_,aX,Sh.val] using this
theorem hv_{κ:Ctx}{G:Gh}{st':St}{a:Act}{w:World}{ps:List PV}{sh:Sh}(hG:RG κ G st' a w)(hs:∀ k∈rd x,st'.s k=st.s k)(hx:ev P st T1 x=.hptr r sh []):a.eval x=sh.val (G.ad r) []:=by
 have h1:=eo_ (P:=P) (T:=T1) hG x 0
 rw[ec_ hs,hx] at h1
 obtain⟨vals,h2,h3⟩:=h1
 simp only[RepCs] at h2
 rw[h3,h2.1]
theorem hm_{κ:Ctx}{G:Gh}{st':St}{a:Act}{w:World}{kv:List MEnt}{ck:Nat}{sh:Sh}{ps:List PV}(hG:RG κ G st' a w)(h:st'.s r=.hold sh ps (.mp kv ck)):
 ∃ es:List MapEntry,w.heap[G.ad r]?=some (.map es.toArray ck)∧MapIs (Nof κ st' G w) w kv es∧MapOk kv ck:=by
 have:=hG.slots r
 rw[h] at this
 obtain⟨_,_,_,es,h1,h2,h3⟩:=this
 exact⟨es,h1,h2,h3⟩
theorem vlO_{kv:List MEnt}{ck:Nat}{sh:Sh}{ps:List PV}{k:ByteArray}{pz:PV}(hop:o.op=.lookup T x y true)(hdst:o.dst=some d)(hd:d<nt)(hT:MT_ P T E)(hx:ev P st T1 x=.hptr r .mp [])(hr:st.s r=.hold sh ps (.mp kv ck))
 (hy:ev P st T2 y=.val (.pv (.lit (.string k)))) (hz:∃ i v,P.info? E=some i∧i.zero=some v∧∀ N w,RepV N w pz v []):V_ P nt o st { rs:=r::(rd x++rd y),us:=[(d,.tup [.pv (gget pz k kv),.pv (.lit (.bool (ghas k kv)))])] }:=by
 refine vp_ (rs:=r::(rd x++rd y)) (ro:=[]) hdst hd rfl ?_
 intro κ G st' a w _ hsame hG
 have e1:=hv_ (ps:=[]) hG (fun k hk=>hsame.1 k (by simp[hk])) hx
 have e2:=el_ hG hy (fun k hk=>hsame.1 k (by simp[hk]))
 obtain⟨es,h1,h2,h3⟩:=hm_ hG (by rw[hsame.1 r (by simp)]; exact hr)
 obtain⟨i,v0,g1,g2,g3⟩:=hz
 obtain⟨v,g4,g5⟩:=rl_3 (k:=k) hT h1 h2 ⟨i,g1,g2⟩ (g3 _ _) true
 refine⟨.tuple #[v,.bool (ghas k kv)],by simp only[if_true] at g5; simp[execOp,hop,e1,e2,Sh.val,g5],[v,.bool (ghas k kv)],rfl,?_⟩
 simp only[CVals]
 exact⟨v,_,rfl,rVp_ g4,_,_,rfl,rVp_ (p:=.lit _) (by simp[RepV,RepC,Value.oneCell']),rfl⟩
theorem vmU_{kv:List MEnt}{ck:Nat}{sh:Sh}{ps:List PV}{k:ByteArray}{c:CV}(hop:o.op=.mapUpdate T x y z∨o.op=.insert T x y z)(hdst:o.dst=none)(hrn:r<nt)(hT:MT_ P T E)(hx:ev P st T1 x=.hptr r .mp [])(hr:st.s r=.hold sh ps (.mp kv ck))
 (hy:ev P st T2 y=.val (.pv (.lit (.string k)))) (hz:ev P st E z=.val c) (hp:c.pure=true):
 V_ P nt o st { rs:=r::(rd x++rd y++rd z),us:=[(r,.hold sh ps (.mp (gput k (c.pvw st.o) ck kv) (if ghas k kv then ck else ck+1)))] }:=by
 intro κ st' a w hnt hsame _ hR next Q hnext
 obtain⟨G,hG⟩:=hR
 have e1:=hv_ (ps:=[]) hG (fun k hk=>hsame.1 k (by simp[hk])) hx
 have e2:=el_ hG hy (fun k hk=>hsame.1 k (by simp[hk]))
 have h3:=eo_ (P:=P) (T:=E) hG z 0
 rw[ec_ (fun k hk=>hsame.1 k (by simp[hk])),hz] at h3
 have hv:=CVal.pureView (ob:=st.o) hp h3
 have hr':st'.s r=.hold sh ps (.mp kv ck):=by rw[hsame.1 r (by simp)]; exact hr
 obtain⟨es,h1,h2,h4⟩:=hm_ hG hr'
 obtain⟨es',g1,g2⟩:=rmU_ (k:=k) hT h1 h2 hv
 unfold Oper.wp
 have hrun:(execOp a.eval o).run P w=.ok .skip (setBlock w (G.ad r) (.map es'.toArray (if ghas k kv then ck else ck+1))):=by
  rcases hop with hop | hop<;>simp[execOp,hop,e1,e2,Sh.val,g1]
 rw[hrun]
 simp only[Oper.upon]
 rw[hdst,apn_]
 refine hnext _ _ ?_
 have hb0:=h1
 have:=R.setHold (hc:=.mp (gput k (c.pvw st.o) ck kv) (if ghas k kv then ck else ck+1)) (o':=.map es'.toArray (if ghas k kv then ck else ck+1)) G hG (by rw[hnt]; exact hrn) (by rw[hr']; rfl)
  ⟨es',by simp[setBlock,(Array.getElem?_eq_some_iff.1 h1).1],MapIs.frame (fun _ h=>h) (fun b hb=>by
   have:b≠G.ad r:=fun e=>hb.2 (.inl ⟨r,by rw[hr']; rfl,e⟩)
   simp[setBlock,Ne.symm this]) _ _ g2,h4.put k _⟩
 rw[hr'] at this
 simpa[St.app,uA_,aX,setH] using this
end
end
section
theorem vcI_{P:Program}{nt:Nat}{o:Oper}{st:St}{d:Nat}{g:Operand}{args:Array Operand}{tys:Array TypeId}{f:FuncId}{T1:TypeId}{xs:List CV}{ob':Nat→Option (Nat×List PV)}
 (hop:o.op=.call { callee:=.value g,args:=args,argTypes:=tys }) (hdst:o.dst=some d) (hd:d<nt)
 (hg:ev P st T1 g=.val (.pv (.clo f []))) (hxs:argCVs P st args.toList tys.toList=xs) (hw:au st.o xs=true) (hcl:Cc_ xs=true) (hn:(ar xs).Nodup) (hw2:au ob' xs=true)
 (hsat:SI_ P f (aB st.o xs) (aB ob' xs) (.tup [])):
 V_ P nt o st { rs:=rd g++args.toList.flatMap rd,ro:=ar xs,us:=[(d,.tup [])],uo:=(ar xs).map fun c=>(c,ob' c) }:=by
 intro κ st' a w hnt hsame hfresh hR next Q hnext
 obtain⟨G,hG⟩:=hR
 obtain⟨hci,hcalls⟩:=hsat
 have hob:∀ (xs:List CV),(∀ n∈ar xs,st'.o n=st.o n)→au st'.o xs=au st.o xs∧aL st'.o xs=aL st.o xs∧aB st'.o xs=aB st.o xs:=by
  intro xs hx
  have key:∀ x:CV,(∀ n∈x.names,st'.o n=st.o n)→x.whole st'.o=x.whole st.o∧x.pvw st'.o=x.pvw st.o∧x.pvo st'.o=x.pvo st.o:=by
   intro x
   refine CV.rec (motive_1:=fun x=>(∀ n∈x.names,st'.o n=st.o n)→x.whole st'.o=x.whole st.o∧x.pvw st'.o=x.pvw st.o∧x.pvo st'.o=x.pvo st.o)
    (motive_2:=fun xs=>(∀ n∈ar xs,st'.o n=st.o n)→au st'.o xs=au st.o xs∧aL st'.o xs=aL st.o xs∧aB st'.o xs=aB st.o xs) ?_ ?_ ?_ ?_ ?_ ?_ x
   ·intro v _; exact⟨rfl,rfl,rfl⟩
   ·intro n h; have:=h n (by simp[CV.names]); exact⟨by simp[CV.whole,this],by simp[CV.pvw,this],by simp[CV.pvo,this]⟩
   ·intro fs ih h; have:=ih (by simpa[CV.names] using h); exact⟨by simpa[CV.whole] using this.1,by simp[CV.pvw,this.2.1],by simp[CV.pvo,this.2.2]⟩
   ·intro n _; exact⟨rfl,rfl,rfl⟩
   ·intro _; exact⟨rfl,rfl,rfl⟩
   ·intro y ys i1 i2 h
    have h1:=i1 (fun n hn=>h n (by simp[ar,hn]))
    have h2:=i2 (fun n hn=>h n (by simp[ar,hn]))
    exact⟨by simp[au,h1.1,h2.1],by simp[aL,h1.2.1,h2.2.1],by simp[aB,h1.2.2,h2.2.2]⟩
  induction xs with
  | nil=>exact⟨rfl,rfl,rfl⟩
  | cons y ys ih=>
   have h1:=key y (fun n hn=>hx n (by simp[ar,hn]))
   have h2:=ih (fun n hn=>hx n (by simp[ar,hn]))
   exact⟨by simp[au,h1.1,h2.1],by simp[aL,h1.2.1,h2.2.1],by simp[aB,h1.2.2,h2.2.2]⟩
 obtain⟨hw',hv',ho'⟩:=hob xs hsame.2
 have hwx:au st'.o xs=true:=by rw[hw']; exact hw
 have hcv:=ao_ (P:=P) (st:=st) hG args.toList tys.toList (fun k hk=>hsame.1 k (by simp only[aS]; exact .inr hk)) (by rw[hxs]; exact hwx)
 rw[hxs] at hcv
 have hgv:=eo_ (P:=P) (T:=T1) hG g 0
 rw[ec_ (fun k hk=>hsame.1 k (by simp[hk])),hg] at hgv
 rcases hgv with⟨hgv,_⟩ | ⟨_,hgv,_⟩
 ·simp[CV.isAgg] at hgv
 simp only[RepCV,RepC] at hgv
 obtain⟨vals,hg1,_,hg3,_⟩:=hgv
 simp at hg1
 simp only[RepCs] at hg3
 obtain⟨rfl,_⟩:=hg3
 have hrun:(execOp a.eval o).run P w=.ok (.enter f (args.map a.eval)) w:=by
  simp[execOp,hop,resolve,hg1,Deferred.ofValue,invoke,rcF_ hci]
 have harr:args.map a.eval=(args.toList.map a.eval).toArray:=by apply Array.ext'; simp
 have hlive:∀ c∈ar xs,(st'.o c).isSome=true:=Cnl_1 _ hwx
 have hXlt:∀ b∈fps G.fp (ar xs),b<w.heap.size:=by
  intro b hb
  obtain⟨c,hc,hm⟩:=mf_.1 hb
  obtain⟨p,hp⟩:=Option.isSome_iff_exists.1 (hlive c hc)
  exact((hG.objs c p.1 p.2 hp).2.2 b hm).2
 have hXn:(fps G.fp (ar xs)).Nodup:=fn_1 hG _ hn hlive
 have hNX:∀ b,Nof κ st' G w b→b∉fps G.fp (ar xs):=by
  intro b hb hm
  obtain⟨c,hc,hm⟩:=mf_.1 hm
  obtain⟨p,hp⟩:=Option.isSome_iff_exists.1 (hlive c hc)
  exact hb.2 (.inr ⟨c,p,hp,hm⟩)
 have hown:=CVals.own (fun c sz es hc=>(hG.objs c sz es hc).1) hwx hcv
 rw[ho'] at hown
 unfold Oper.wp
 rw[hrun]
 simp only[Oper.upon]
 rw[harr]
 refine(hcalls w (Nof κ st' G w) _ _ (fun b hb=>⟨hb.lt hG,hNX b hb⟩) hXn hXlt hown).mono ?_
 rintro e w'' ⟨v,F,rfl,hk,hr,hFn,hF,hres⟩
 have hp:=CVals.inv (ob:=ob') xs _ F hcl hw2 hcv hr hn
 obtain⟨G',hhd,hG',hN'⟩:=hG.setObjs hlive hk hF hFn hp
 obtain⟨vs,rfl,hvs⟩:=hres
 simp only[RepVs] at hvs
 obtain⟨rfl,_⟩:=hvs
 rw[hdst]
 refine hnext _ _ ?_
 have:=R.set (sv:=.tup []) (v:=.tuple #[]) (d:=d) G' hG' (by rw[hnt]; exact hd) rfl ⟨[],rfl,by simp[CVals]⟩
 simpa[St.app,uA_,aX,uAs_] using this

theorem CHi_{P:Program}{nt:Nat}{st:St}{d ty:Nat}{pos:String}{af:Array Edge}{gd:Option (Nat×Bool)}{g:Operand}{as:List Operand}{ts:List TypeId}{K0:Rec→Prop}{f:FuncId}{v o c:List PV}{K:List Bool→PV→Prop}
 {args args':List PV} (xs:List CV) (ns:List (Nat×(Nat×List PV))) (h:SI_ P f args args' (.tup []))
 (hs:d<nt∧ev P st 0 g=.val (.pv (.clo f []))∧argCVs P st as ts=xs∧au st.o xs=true∧Cc_ xs=true∧(ar xs).Nodup∧au (mkO ns) xs=true∧args=aB st.o xs∧args'=aB (mkO ns) xs)
 (hK:K0 { rs:=rd g++as.flatMap rd,ro:=ar xs,us:=[(d,.tup [])],uo:=(ar xs).map fun c=>(c,mkO ns c) }):
 CallH P f v o c K (RO_ P nt st { dst:=some d,op:=.call { callee:=.value g,args:=⟨as⟩,argTypes:=⟨ts⟩ },type:=ty,pos:=pos,after:=af,guard:=gd } K0) .mk .mk:=by
 obtain⟨h1,h2,h3,h4,h5,h6,h7,h8,h9⟩:=hs
 subst h8; subst h9
 exact CHh_ ⟨_,vcI_ (args:=⟨as⟩) (tys:=⟨ts⟩) rfl rfl h1 h2 h3 h4 h5 h6 h7 h,fn_ rfl rfl,hK⟩
section
variable{P:Program}{nt:Nat}{st:St}{d r ty T T' E:Nat}{pos:String}{af:Array Edge}{gd:Option (Nat×Bool)}{K:Rec→Prop}{x y z:Operand}{α:Type}
theorem HandH.call{g:Operand}(k:Nat)(as1 as2:List Operand){as:List Operand}{ts:List TypeId}{f:FuncId}(xs1 xs2:List CV)(ms:List Bool){hc:HC}{sh:Sh}{ps pre post:List PV}{x0 x':BV}{res:PV}
 (hsat:SatH P f pre post sh ps x0 x' res) (has:as=as1++x::as2) (hk:as1.length=k) (hpl:pre.length=k)
 (hs:d<nt∧ev P st 0 g=.val (.pv (.clo f []))∧hdl (ev P st 0 x)=some (r,sh,ps)∧(r==d)=false∧hH_ (st.s r)=some hc∧hc.isBV st.o x0∧okH (st.s r) (x'.hc (16*d))=true∧argCVs P st as1 ts=xs1∧argCVs P st as2 (ts.drop (k+1))=xs2∧au st.o (xs1++xs2)=true∧
  (hc.names++mixNames ms (xs1++xs2)).Nodup∧mixPure ms (xs1++xs2)=true∧pre++post=mix ms (aL st.o (xs1++xs2)) (aB st.o (xs1++xs2)))
 (hK:(∀ n∈(x'.objs (16*d)++rO_ res (x'.hi (16*d))).map (·.1),st.noC n)∧K { rs:=r::(rd g++(as1++x::as2).flatMap rd),ro:=hc.names++ar (xs1++xs2),fc:=(x'.objs (16*d)++rO_ res (x'.hi (16*d))).map (·.1),us:=[(r,setH (st.s r) (x'.hc (16*d))),(d,rS_ res (x'.hi (16*d)))],uo:=deadObjs (hc.names++mixNames ms (xs1++xs2))++newObjs (x'.objs (16*d)++rO_ res (x'.hi (16*d))) }):
 HandH (RO_ P nt st { dst:=some d,op:=.call { callee:=.value g,args:=⟨as⟩,argTypes:=⟨ts⟩ },type:=ty,pos:=pos,after:=af,guard:=gd } K) .mk:=by
 subst has; subst hk
 obtain⟨h1,h2,h3,h4,h5,h6,h7,h8,h9,h10,h11,h12,h13⟩:=hs
 exact⟨_,vcA_ (T1:=0) (T2:=0) rfl rfl h1 h2 h3 h4 h5 h6 h7 h8 h9 h10 h11 (.inl h12) (by rw[h13,bA]) hpl (by simp) hsat,⟨by simp,hK.1⟩,hK.2⟩
end
def aS_2(k:Nat)(pre post:List PV)(sh:Sh)(ps:List PV)(x:BV):St:=
 ⟨upd (updV 0 (((e_1 (pre++post) (x.hi 9000)).1.take k).map .val++hS_ sh ps (x.hc 9000)::((e_1 (pre++post) (x.hi 9000)).1.drop k).map .val) (fun _=>.dead)) 20000 (gh k),
  uA_ (fun _=>none) (newObjs (x.objs 9000++(e_1 (pre++post) (x.hi 9000)).2.1))⟩
theorem SHo_{P:Program}{nt n:Nat}{f:FuncId}{fn:Func}{c:Code}{pre post:List PV}{sh:Sh}{ps:List PV}{x x':BV}{res:PV}{rs:List ResultVar}(k:Nat)(hf:P.funcs[f]?=some fn)(hname:(fn.name== "runtime.NumGoroutine")=false)(hb:fn.body=some c)
 (hnt:fn.ntmps=nt) (hrs:fn.results.toList=rs) (hk:pre.length=k) (hle:k+post.length+1≤nt) (hnl:nt≤20000) (hhi:(e_1 (pre++post) (x.hi 9000)).2.2≤10000)
 (h:Mg P nt (fun st=>RetHB P st rs res k x') n (.code c) (aS_2 k pre post sh ps x) []):SatH P f pre post sh ps x x' res:=by
 subst hk
 exact SatH.of_m hf hname hb hnt hrs hle hnl hhi h
@[push_cast] theorem asRes_nil:aR_ []=.tup []:=rfl
theorem aSe_1(k:Nat)(pre post:List PV)(sh:Sh)(ps:List PV)(x:BV):aS_2 k pre post sh ps x=⟨upd (updV 0 (((e_1 (pre++post) (x.hi 9000)).1.take k).map .val++hS_ sh ps (x.hc 9000)::((e_1 (pre++post) (x.hi 9000)).1.drop k).map .val) (fun _=>.dead)) 20000 (gh k),
 uA_ (fun _=>none) (newObjs (x.objs 9000++(e_1 (pre++post) (x.hi 9000)).2.1))⟩:=rfl
theorem uVn_(i:Nat)(f:Nat→SlotV):updV i [] f=f:=rfl
theorem uVc_(i:Nat)(x:SlotV)(xs:List SlotV)(f:Nat→SlotV):updV i (x::xs) f=updV (i+1) xs (upd f i x):=rfl
theorem bp_2(p:PV)(c:Nat):(BV.pv p).hc c=.cv (e_ p c).1:=rfl
theorem bm_3(kv:List MEnt)(ck c:Nat):(BV.mp kv ck).hc c=.mp kv ck:=rfl
theorem bp_1(p:PV)(c:Nat):(BV.pv p).hi c=(e_ p c).2.2:=rfl
theorem bm_2(kv:List MEnt)(ck c:Nat):(BV.mp kv ck).hi c=c:=rfl
theorem bp_(p:PV)(c:Nat):(BV.pv p).objs c=(e_ p c).2.1:=rfl
theorem bm_(kv:List MEnt)(ck c:Nat):(BV.mp kv ck).objs c=[]:=rfl
theorem hSp_(ps:List PV)(x:CV):hS_ .ptr ps (.cv x)=.box x:=rfl
theorem hSc_(f:FuncId)(pat:List Bool)(ps:List PV)(x:CV):hS_ (.clo f pat) ps (.cv x)=.hold (.clo f pat) ps (.cv x):=rfl
theorem hSm_(sh:Sh)(ps:List PV)(kv:List MEnt)(ck:Nat):hS_ sh ps (.mp kv ck)=.hold sh ps (.mp kv ck):=rfl
theorem hHb_(x:CV):hH_ (.box x)=some (.cv x):=rfl
theorem hHh_(sh:Sh)(ps:List PV)(h:HC):hH_ (.hold sh ps h)=some h:=rfl
theorem hh_(r:Nat)(sh:Sh)(ps:List PV):hdl (.hptr r sh ps)=some (r,sh,ps):=rfl
theorem hb_(r:Nat):hdl (.bptr r [] 0)=some (r,.ptr,[]):=rfl
theorem iBc_(ob:Nat→Option (Nat×List PV))(y:CV)(x:BV):(HC.cv y).isBV ob x=(y.whole ob=true∧x=.pv (y.pvo ob)):=rfl
theorem iBm_(ob:Nat→Option (Nat×List PV))(kv:List MEnt)(ck:Nat)(x:BV):(HC.mp kv ck).isBV ob x=(x=.mp kv ck):=rfl
theorem hc_1(y:CV):(HC.cv y).names=y.names:=rfl
theorem hm_2(kv:List MEnt)(ck:Nat):(HC.mp kv ck).names=[]:=rfl
theorem sHb_(x y:CV):setH (.box x) (.cv y)=.box y:=rfl
theorem sHh_(sh:Sh)(ps:List PV)(a b:HC):setH (.hold sh ps a) b=.hold sh ps b:=rfl
theorem oHb_1(x y:CV):okH (.box x) (.cv y)=true:=rfl
theorem oHh_(sh:Sh)(ps:List PV)(a b:HC):okH (.hold sh ps a) b=true:=rfl
def BxF(ob:Nat→Option (Nat×List PV))(ns:List Nat)(x':BV):SlotV→Prop
 | .box y=>y.whole ob=true∧(y.names++ns).Nodup∧x'=.pv (y.pvo ob)
 | .hold _ _ (.cv y)=>y.whole ob=true∧(y.names++ns).Nodup∧x'=.pv (y.pvo ob)
 | .hold _ _ (.mp kv clock)=>ns.Nodup∧x'=.mp kv clock
 | _=>False
theorem BFo_{st:St}{k:Nat}{ns:List Nat}{x':BV}(h:BxF st.o ns x' (st.s k)):BF_ st k ns x':=by
 unfold BF_
 generalize st.s k=v at h
 cases v<;>simp only[BxF] at h
 ·exact h
 ·rename_i sh ps x
  cases x<;>first | exact h | exact h.elim
theorem BFb_(ob:Nat→Option (Nat×List PV))(ns:List Nat)(x':BV)(y:CV):BxF ob ns x' (.box y)=(y.whole ob=true∧(y.names++ns).Nodup∧x'=.pv (y.pvo ob)):=rfl
theorem BFc_(ob:Nat→Option (Nat×List PV))(ns:List Nat)(x':BV)(y:CV)(sh:Sh)(ps:List PV):BxF ob ns x' (.hold sh ps (.cv y))=(y.whole ob=true∧(y.names++ns).Nodup∧x'=.pv (y.pvo ob)):=rfl
theorem BFm_(ob:Nat→Option (Nat×List PV))(ns:List Nat)(x':BV)(kv:List MEnt)(ck:Nat)(sh:Sh)(ps:List PV):BxF ob ns x' (.hold sh ps (.mp kv ck))=(ns.Nodup∧x'=.mp kv ck):=rfl
@[congr] theorem RetHB.cg {P:Program} {rs:List ResultVar} {res:PV} {k:Nat} {x':BV} {st st':St} (h:∀ _:Unit,st=st'):RetHB P st rs res k x'=RetHB P st' rs res k x':=by rw[h ()]
theorem RetHB.l{P:Program}{rs:List ResultVar}{res:PV}{k:Nat}{x':BV}{st:St}(h:st.s 20000=gh k∧au st.o (rCs_ P st rs)=true∧rO_1 P st rs∧res=aR_ (aB st.o (rCs_ P st rs))∧BxF st.o (ar (rCs_ P st rs)) x' (st.s k)):RetHB P st rs res k x':=
 ⟨h.1,h.2.1,h.2.2.1,.inl ⟨h.2.2.2.1,BFo_ h.2.2.2.2⟩⟩
theorem RetHB.r{P:Program}{rs:List ResultVar}{res:PV}{k:Nat}{x':BV}{st:St}(h:st.s 20000=gh k∧au st.o (rCs_ P st rs)=true∧rO_1 P st rs∧res=aR_ (aL st.o (rCs_ P st rs))∧CV.pures (rCs_ P st rs)=true∧BxF st.o [] x' (st.s k)):RetHB P st rs res k x':=
 ⟨h.1,h.2.1,h.2.2.1,.inr ⟨h.2.2.2.1,h.2.2.2.2.1,BFo_ h.2.2.2.2.2⟩⟩
theorem hm_1(c c':Nat)(kv:List MEnt)(ck:Nat):HC.ren c c' (.mp kv ck)=.mp kv ck:=rfl
theorem hi_(c c' r a b:Nat)(l:List Nat):HC.ren c c' (.it r a l b)=.it r a l b:=rfl
theorem hc_(c c':Nat)(x:CV):HC.ren c c' (.cv x)=.cv (x.ren c c'):=rfl
theorem g_(c c' r:Nat)(h:(10500==c)=false):SlotV.ren c c' (gh r)=gh r:=by
 simp only[beq_eq_false_iff_ne] at h
 simp[gh,SlotV.ren,h]
attribute [push_cast] aSe_1 uVn_ uVc_ bp_2 bm_3 bp_1 bm_2 bp_ bm_ hSp_ hSc_ hSm_ hHb_ hHh_ hh_ hb_ iBc_ iBm_ hc_1 hm_2 sHb_ sHh_ oHb_1 oHh_ BFb_ BFc_ BFm_ List.take_succ_cons List.take_zero List.drop_succ_cons List.drop_zero aD List.map_nil List.take_nil List.drop_nil List.cons_append List.map_append hm_1 false_and hi_ hc_ g_ bh
end
section
section
variable{P:Program}{nt:Nat}{st:St}{d r ty T T' E:Nat}{pos:String}{af:Array Edge}{gd:Option (Nat×Bool)}{K:Rec→Prop}{x y z:Operand}{α:Type}
theorem HandH.makeMap(f:α→PV)(hd:d<nt)(hK:st.noR d∧K { fr:=[d],us:=[(d,.hold .mp [] (.mp (gmap f (GMap.empty:GMap α).es) (GMap.empty:GMap α).clock))] }):HandH (RO_ P nt st { dst:=some d,op:=.makeMap T none,type:=ty,pos:=pos,after:=af,guard:=gd } K) .mk:=
 ⟨_,vmM_ rfl rfl hd,⟨⟨fun n hn'=>by simp at hn'; exact hn'▸hK.1,by simp⟩,by simp⟩,hK.2⟩
theorem HHl_{m:GMap α}{f:α→PV}{z0:α}{k:ByteArray}{sh:Sh}{ps:List PV}(hT:MT_ P T E)(hz:∃ i v,P.info? E=some i∧i.zero=some v∧∀ N w,RepV N w (f z0) v [])
 (hs:d<nt∧ev P st 0 x=.hptr r .mp []∧st.s r=.hold sh ps (.mp (gmap f m.es) m.clock)∧ev P st 0 y=.val (.pv (.lit (.string k))))
 (hK:K { rs:=r::(rd x++rd y),us:=[(d,.tup [.pv (f (m.get k z0)),.pv (.lit (.bool (m.has k)))])] }):HandH (RO_ P nt st { dst:=some d,op:=.lookup T x y true,type:=ty,pos:=pos,after:=af,guard:=gd } K) .mk:=by
 obtain⟨h1,h2,h3,h4⟩:=hs
 refine⟨_,vlO_ rfl rfl h1 hT h2 h3 h4 hz,fn_ rfl rfl,?_⟩
 rw[gg_1,gh_]; exact hK
theorem HandH.put{m:GMap α}{f:α→PV}{v0:α}{k:ByteArray}{sh:Sh}{ps:List PV}{c:CV}(hT:MT_ P T E)
 (hs:r<nt∧ev P st 0 x=.hptr r .mp []∧st.s r=.hold sh ps (.mp (gmap f m.es) m.clock)∧ev P st 0 y=.val (.pv (.lit (.string k)))∧ev P st E z=.val c∧c.pure=true∧c.pvw st.o=f v0)
 (hK:K { rs:=r::(rd x++rd y++rd z),us:=[(r,.hold sh ps (.mp (gmap f (m.put k v0).es) (m.put k v0).clock))] }):HandH (RO_ P nt st { dst:=none,op:=.mapUpdate T x y z,type:=ty,pos:=pos,after:=af,guard:=gd } K) .mk:=by
 obtain⟨h1,h2,h3,h4,h5,h6,h7⟩:=hs
 refine⟨_,vmU_ (.inl rfl) rfl h1 hT h2 h3 h4 h5 h6,fn_ rfl rfl,?_⟩
 rw[h7,gh_,← gp_]; exact hK
theorem HHi_{m:GMap α}{f:α→PV}{v0:α}{k:ByteArray}{sh:Sh}{ps:List PV}{c:CV}(hT:MT_ P T E)
 (hs:r<nt∧ev P st 0 x=.hptr r .mp []∧st.s r=.hold sh ps (.mp (gmap f m.es) m.clock)∧ev P st 0 y=.val (.pv (.lit (.string k)))∧ev P st E z=.val c∧c.pure=true∧c.pvw st.o=f v0)
 (hK:K { rs:=r::(rd x++rd y++rd z),us:=[(r,.hold sh ps (.mp (gmap f (m.put k v0).es) (m.put k v0).clock))] }):HandH (RO_ P nt st { dst:=none,op:=.insert T x y z,type:=ty,pos:=pos,after:=af,guard:=gd } K) .mk:=by
 obtain⟨h1,h2,h3,h4,h5,h6,h7⟩:=hs
 refine⟨_,vmU_ (.inr rfl) rfl h1 hT h2 h3 h4 h5 h6,fn_ rfl rfl,?_⟩
 rw[h7,gh_,← gp_]; exact hK
end
end
section
open Go.ChangeMaps (setBlock)

theorem RG.sameHeap{κ:Ctx}{G:Gh}{st:St}{a:Act}{w w':World}(h:RG κ G st a w)(hh:w'.heap=w.heap)(ho:w'.os=w.os)(ht:w'.tape=w.tape)(hp:w'.output=w.output)(hdr:DQ=true→w.drawn≤w'.drawn:=by first | exact fun _=>Nat.le.refl | exact fun _=>Nat.le.step Nat.le.refl):RG κ G st a w':=by
 have hN:∀ b,Nof κ st G w b→Nof κ st G w' b:=fun b hb=>⟨hb.1.imp id (fun g=>⟨g.1,by rw[hh]; exact g.2⟩),hb.2⟩
 have hw:∀ b:Nat,w'.heap[b]?=w.heap[b]?:=fun b=>by rw[hh]
 exact⟨h.keep.trans ⟨ho,ht,hp,by rw[hh]; exact aJ _,fun k _ _=>hw k,hdr⟩,h.defers,h.nt,fun k=>(h.slots k).frame hN (fun b _=>hw b) (fun _ _=>rfl) (fun _ _=>rfl) (fun _=>⟨rfl,hw _⟩),
  fun c sz es hc=>by
   obtain⟨g1,g2,g3⟩:=h.objs c sz es hc
   exact⟨RepC.frame hN (fun b _=>hw b) _ _ _ (fun b _=>hw b) g1,g2,fun b hb=>⟨(g3 b hb).1,by rw[hh]; exact(g3 b hb).2⟩⟩,
  fun r hr=>by rw[hh]; exact h.boxes r hr,h.bb,h.bo,h.oo,h.held⟩

section
variable{P:Program}{nt:Nat}{ops:Array Oper}{i:Nat}{st:St}{K:St→Prop}{α:Type}
theorem si_1:∀ (l:List (ByteArray×α×Nat)),(l.map (·.2.2)).Nodup→∀ u∈l,∀ v∈l,u.2.2=v.2.2→u=v
 | [],_,u,hu,_,_,_=>by simp at hu
 | z::l,hnd,u,hu,v,hv,huv=>by
  simp only[aD,List.nodup_cons] at hnd
  rcases List.mem_cons.1 hu with eu | mu
  ·rcases List.mem_cons.1 hv with ev | mv
   ·rw[eu,ev]
   ·exact absurd (List.mem_map.2 ⟨v,mv,by rw[← huv,eu]⟩) hnd.1
  ·rcases List.mem_cons.1 hv with ev | mv
   ·exact absurd (List.mem_map.2 ⟨u,mu,by rw[huv,ev]⟩) hnd.1
   ·exact si_1 l hnd.2 u mu v mv huv
theorem mIg_{N:Nat→Prop}{w:World}{f:α→PV}:∀ {l:List (ByteArray×α×Nat)} {es:List MapEntry},MapIs N w (gmap f l) es→es.map (·.born)=l.map (·.2.2)∧∀ e∈es,∃ x∈l,e.key=.string x.1∧e.born=x.2.2∧RepV N w (f x.2.1) e.val []
 | [],es,h=>by simp only[gmap,List.map_nil,MapIs] at h; subst h; simp
 | x::l,es,h=>by
  obtain⟨e,es',rfl,h2,h3,h4,h5⟩:=h
  obtain⟨g1,g2⟩:=mIg_ (f:=f) (l:=l) h5
  refine⟨by simp[h3,g1],fun e' he=>?_⟩
  rcases List.mem_cons.1 he with rfl | he
  ·exact⟨x,by simp,h2,h3,h4⟩
  ·obtain⟨y,k1,k2⟩:=g2 e' he
   exact⟨y,List.mem_cons_of_mem _ k1,k2⟩
theorem hi_1{κ:Ctx}{G:Gh}{st':St}{a:Act}{w:World}{k r since last:Nat}{seen:List Nat}(hG:RG κ G st' a w)(h:st'.s k=.hold .ptr [] (.it r since seen last)):w.heap[G.ad k]?=some (.mapIter (some (G.ad r)) since seen.toArray last):=by
 have:=hG.slots k
 rw[h] at this
 obtain⟨_,_,_,h1⟩:=this
 exact h1
theorem VSeq.next{o:Oper}{it:Operand}{d kt r:Nat}{m:GMap α}{f:α→PV}{seen:List Nat}{sh:Sh}{ps:List PV}(ho:ops[i]?=some o)(hg:o.guard=none)(hop:o.op=.next it false)(hdst:o.dst=some d)(hd:d<nt)(hkt:kt<nt)(hdk:(r==kt)=false)
 (hs:ev P st 0 it=.hptr kt .ptr []∧st.s kt=.hold .ptr [] (.it r m.clock seen m.clock)∧st.s r=.hold sh ps (.mp (gmap f m.es) m.clock))
 (hdone:(m.es.map (·.2.2)).Nodup→(∀ e∈m.es,e.2.2∈seen)→VSeq P nt ops (i+1) ⟨upd st.s d (.tup [.pv (.lit (.bool false))]),st.o⟩ K)
 (hmore:∀ e∈m.es,e.2.2∉seen→VSeq P nt ops (i+1) ⟨upd (upd st.s kt (.hold .ptr [] (.it r m.clock (seen++[e.2.2]) m.clock))) d (.tup [.pv (.lit (.bool true)),.pv (.lit (.string e.1)),.pv (f e.2.1)]),st.o⟩ K):
 VSeq P nt ops i st K:=by
 obtain⟨hit,hk,hr⟩:=hs
 intro κ a w hnt hR Q hQ
 obtain⟨G,hG⟩:=hR
 have hi:i<ops.size:=(Array.getElem?_eq_some_iff.1 ho).1
 have e:ops.size-i=(ops.size-(i+1))+1:=by omega
 rw[e,List.range'_succ,wpOps_cons]
 have hne:r≠kt:=by simpa using hdk
 have hev:=hv_ (ps:=[]) hG (fun _ _=>rfl) hit
 have hitb:=hi_1 hG hk
 obtain⟨es,h1,h2,h3⟩:=hm_ hG hr
 obtain⟨hst,hmem⟩:=mIg_ h2
 have hborn:∀ x∈es,x.born<m.clock:=by
  intro x hx
  obtain⟨y,hy,_,e2,_⟩:=hmem x hx
  rw[e2]
  exact h3.2.2 (y.1,f y.2.1,y.2.2) (List.mem_map.2 ⟨y,hy,rfl⟩)
 have hnd:(m.es.map (·.2.2)).Nodup:=by
  have:=h3.2.1
  simp only[gmap,List.map_map] at this
  exact this
 unfold wpOp
 simp only[ho,Region.wanted,hg,if_true]
 refine .inl ?_
 unfold Oper.wp
 rcases run_next_at (P:=P) w o.type (G.ad kt) (G.ad r) m.clock m.clock seen.toArray es.toArray m.clock hitb h1 (by simpa using hborn) (aJ _) with⟨g1,g2⟩ | ⟨x,g1,w1,g2,g3⟩
 ·have hrun:(execOp a.eval o).run P w=.ok (.value (.tuple #[.bool false])) w:=by simp[execOp,hop,hev,Sh.val,g2]
  rw[hrun]
  simp only[Oper.upon]
  rw[hdst]
  have hall:∀ e∈m.es,e.2.2∈seen:=by
   intro e he
   have hm:e.2.2∈es.map (·.born):=by rw[hst]; exact List.mem_map.2 ⟨e,he,rfl⟩
   obtain⟨x,hx,e1⟩:=List.mem_map.1 hm
   unfold leftOf at g1
   have g1':(es.toArray.filter fun e=>!seen.toArray.contains e.born)=#[]:=Array.eq_empty_of_size_eq_zero g1
   rw[Array.filter_eq_empty_iff] at g1'
   have:=g1' x (by simpa using hx)
   simp at this
   rw[← e1]; exact this
  have:=R.set (sv:=.tup [.pv (.lit (.bool false))]) (v:=.tuple #[.bool false]) (d:=d) G hG (by rw[hnt]; exact hd) rfl ⟨[.bool false],rfl,by simp only[CVals]; exact⟨_,_,rfl,rVp_ (p:=.lit _) (by simp[RepV,RepC,Value.oneCell']),rfl⟩⟩
  exact hdone hnd hall κ _ _ hnt (by simpa[aX] using this) Q hQ
 ·have hx1:x∈es∧x.born∉seen:=by
   unfold leftOf at g1
   simpa using g1
  obtain⟨y,hy,k1,k2,k3⟩:=hmem x hx1.1
  have hrun:(execOp a.eval o).run P w=.ok (.value (.tuple #[.bool true,x.key,x.val])) (setBlock w1 (G.ad kt) (.mapIter (some (G.ad r)) m.clock (seen.toArray.push x.born) m.clock)):=by simp[execOp,hop,hev,Sh.val,g3]
  rw[hrun]
  simp only[Oper.upon]
  rw[hdst]
  have hG1:RG κ G st a w1:=by
   rcases g2 with rfl | rfl
   ·exact hG
   ·exact hG.sameHeap rfl rfl rfl rfl
  have hkb:(w1.heap[G.ad kt]?).isSome=true:=by
   have:w1.heap=w.heap:=by rcases g2 with rfl | rfl<;>rfl
   rw[this,hitb]; rfl
  have hwh:w1.heap=w.heap:=by rcases g2 with rfl | rfl<;>rfl
  have hG2:=hG1.setHold (r:=kt) (hc:=.it r m.clock (seen++[y.2.2]) m.clock) (o':=.mapIter (some (G.ad r)) m.clock (seen.toArray.push x.born) m.clock) (by rw[hnt]; exact hkt) (by rw[hk]; rfl) (by
   obtain⟨ob,hob⟩:=Option.isSome_iff_exists.1 hkb
   have hlt:=(Array.getElem?_eq_some_iff.1 hob).1
   show(setBlock w1 (G.ad kt) _).heap[G.ad kt]?=_
   simp[setBlock,hlt,k2])
  rw[hk] at hG2
  have hr2:(st.set kt (setH (.hold .ptr [] (.it r m.clock seen m.clock)) (.it r m.clock (seen++[y.2.2]) m.clock))).s r=.hold sh ps (.mp (gmap f m.es) m.clock):=by
   simp only[aX,upd,if_neg hne]; exact hr
  obtain⟨es',f1,f2,f3⟩:=hm_ hG2 hr2
  have hadne:G.ad r≠G.ad kt:=fun e=>hne (hG.bb r kt (by rw[hr]; rfl) (by rw[hk]; rfl) e)
  have hees:es'=es:=by
   have:(setBlock w1 (G.ad kt) (.mapIter (some (G.ad r)) m.clock (seen.toArray.push x.born) m.clock)).heap[G.ad r]?=w.heap[G.ad r]?:=by simp[setBlock,Ne.symm hadne,hwh]
   rw[this,h1] at f1
   simp at f1
   exact f1.symm
  subst hees
  obtain⟨y',hy',q1,q2,q3⟩:=(mIg_ f2).2 x hx1.1
  have hyy:y'=y:=by
   exact si_1 m.es hnd y' hy' y hy (q2.symm.trans k2)
  subst hyy
  have:=R.set (sv:=.tup [.pv (.lit (.bool true)),.pv (.lit (.string y'.1)),.pv (f y'.2.1)]) (v:=.tuple #[.bool true,x.key,x.val]) (d:=d) G hG2 (by rw[hnt]; exact hd) rfl ⟨[.bool true,x.key,x.val],rfl,by
   simp only[CVals]
   refine⟨_,_,rfl,rVp_ (p:=.lit _) (by simp[RepV,RepC,Value.oneCell']),_,_,rfl,?_,_,_,rfl,rVp_ q3,rfl⟩
   rw[k1]; exact rVp_ (p:=.lit _) (by simp[RepV,RepC,Value.oneCell'])⟩
  exact hmore y' hy (by rw[← k2]; exact hx1.2) κ _ _ hnt (by simpa[aX,setH] using this) Q hQ
end
section
variable{P:Program}{nt:Nat}{F:St→Prop}{n:Nat}{st:St}{k:List Fr}{ε ρ σ:Type}{es:List ε}{f:ε→σ→Option (Flow ρ σ)}{ψ:ρ ⊕ σ→Prop}
def ordN(f:ε→σ→Option (Flow ρ σ))(ord:List ε)(i:Nat)(s:σ):Option (Flow ρ σ):=Option.bind ord[i]? fun e=>f e s
def RngI(es:List ε)(f:ε→σ→Option (Flow ρ σ))(ψ:ρ ⊕ σ→Prop)(pre:List ε)(s:σ):Prop:=
 (∃ rest,(pre++rest).Perm es)∧∀ ord:List ε,ord.Perm es→pre<+:ord→Run (Av.forN (ordN f ord) (ord.length-pre.length) pre.length s) ψ
theorem RngI.pick{pre:List ε}{s:σ}{key:ε→Nat}{e:ε}(h:RngI es f ψ pre s)(he:e∈es)(hn:key e∉pre.map key):
 Run (f e s) (fun x=>∀ ord:List ε,ord.Perm es→(pre++[e])<+:ord→sP_1 (Av.forN (ordN f ord) (ord.length-(pre.length+1)) (pre.length+1)) ψ x):=by
 obtain⟨⟨rest,hp⟩,h⟩:=h
 have hm:e∈rest:=by
  have:=hp.symm.subset he
  rcases List.mem_append.1 this with h1 | h1
  ·exact absurd (List.mem_map.2 ⟨e,h1,rfl⟩) hn
  ·exact h1
 obtain⟨r1,r2,rfl⟩:=List.append_of_mem hm
 have key':∀ ord:List ε,ord.Perm es→(pre++[e])<+:ord→Run (f e s) (sP_1 (Av.forN (ordN f ord) (ord.length-(pre.length+1)) (pre.length+1)) ψ):=by
  rintro ord ho ⟨t,rfl⟩
  have h1:=h _ ho ⟨e::t,by simp⟩
  have h2:=rr_ h1 (by simp)
  obtain⟨v,h3,h4⟩:=h2
  have h5:(pre++[e]++t)[pre.length]?=some e:=by simp
  refine⟨v,?_,h4⟩
  simpa[ordN,h5] using h3
 have ho:(pre++[e]++(r1++r2)).Perm es:=by
  refine List.Perm.trans ?_ hp
  rw[aY]
  exact List.Perm.append_left _ (by simpa using (List.perm_middle (a:=e) (l₁:=r1) (l₂:=r2)).symm)
 obtain⟨v,h1,_⟩:=key' _ ho ⟨_,rfl⟩
 refine⟨v,h1,fun ord ho hp'=>?_⟩
 obtain⟨v',h2,h3⟩:=key' ord ho hp'
 rw[h1] at h2
 cases h2
 exact h3
theorem RngI.step{pre:List ε}{s s':σ}{key:ε→Nat}{e:ε}(h:RngI es f ψ pre s)(he:e∈es)(hn:key e∉pre.map key)
 (h':∀ ord:List ε,ord.Perm es→(pre++[e])<+:ord→Run (Av.forN (ordN f ord) (ord.length-(pre.length+1)) (pre.length+1) s') ψ):RngI es f ψ (pre++[e]) s':=by
 obtain⟨⟨rest,hp⟩,_⟩:=h
 have hm:e∈rest:=by
  have:=hp.symm.subset he
  rcases List.mem_append.1 this with h1 | h1
  ·exact absurd (List.mem_map.2 ⟨e,h1,rfl⟩) hn
  ·exact h1
 obtain⟨r1,r2,rfl⟩:=List.append_of_mem hm
 refine⟨⟨r1++r2,?_⟩,fun ord ho hpr=>by simpa using h' ord ho hpr⟩
 refine List.Perm.trans ?_ hp
 rw[aY]
 exact List.Perm.append_left _ (by simpa using (List.perm_middle (a:=e) (l₁:=r1) (l₂:=r2)).symm)
end
end
section
theorem RepBV.sub{N N':Nat→Prop}{w:World}{b:Nat}{F:List Nat}{x:BV}(hN:∀ c,N c→N' c)(h:RepBV N w b F x):RepBV N' w b F x:=by
 cases x with
 | pv p=>
  obtain⟨cs,e,h1,h2⟩:=h
  exact⟨cs,e,h1,RepC.frame hN (fun _ _=>rfl) p cs F (fun _ _=>rfl) h2⟩
 | mp kv ck=>
  obtain⟨h1,es,h2,h3,h4⟩:=h
  exact⟨h1,es,h2,MapIs.frame hN (fun _ _=>rfl) kv es h3,h4⟩
theorem SatH.vw{P:Program}{f:FuncId}{pre post:List PV}{sh:Sh}{ps:List PV}{x x':BV}{res:PV}(h:SatH P f pre post sh ps x x' res):SatH P f pre post sh ps x x' res.view:=by
 refine⟨h.1,fun w N v1 v2 vals b Fx Fs hN hnd hlt hps hx hvs hv1=>(h.2 w N v1 v2 vals b Fx Fs hN hnd hlt hps hx hvs hv1).mono ?_⟩
 rintro e w' ⟨v,F,Fx',rfl,hk,hb,hr,hn,hF⟩
 have hna:=List.nodup_append.1 (List.nodup_cons.1 hn).2
 have up:∀ c,(N c∨((w.heap.size≤c∨c∈Fx++Fs)∧c<w'.heap.size∧c∉Fx'++F))→N c∨((w.heap.size≤c∨c∈Fx++Fs)∧c<w'.heap.size∧c∉Fx'++[]):=fun c hc=>hc.imp id fun g=>⟨g.1,g.2.1,fun hm=>g.2.2 (by rw[bA] at hm; exact List.mem_append_left _ hm)⟩
 refine⟨v,[],Fx',rfl,hk,RepBV.sub up hb,hr.demote up (fun c hc=>.inr ⟨(hF c (List.mem_append_right _ hc)).1,(hF c (List.mem_append_right _ hc)).2,fun hm=>?_⟩),?_,fun c hc=>hF c (by rw[bA] at hc; exact List.mem_append_left _ hc)⟩
 ·rw[bA] at hm
  exact hna.2.2 c hm c hc rfl
 ·rw[bA]
  exact List.nodup_cons.2 ⟨fun hm=>(List.nodup_cons.1 hn).1 (List.mem_append_left _ hm),hna.1⟩
theorem SatH.vwOf{P:Program}{f:FuncId}{pre post:List PV}{sh:Sh}{ps:List PV}{x x':BV}{res res':PV}(h:SatH P f pre post sh ps x x' res)(e:res.view=res'):SatH P f pre post sh ps x x' res':=e▸h.vw
theorem SatH.give{P:Program}{f:FuncId}{pre post pre' post':List PV}{sh:Sh}{ps:List PV}{x x':BV}{res:PV}(ms:List Bool)(h:SatH P f pre' post' sh ps x x' res)(hg:gv ms (pre++post)=pre'++post')(hl:pre'.length=pre.length):SatH P f pre post sh ps x x' res:=by
 refine⟨h.1,fun w N v1 v2 vals b Fx Fs hN hnd hlt hps hx hvs hv1=>?_⟩
 obtain⟨F',G,h1,h2,h3⟩:=rVg_ ms _ _ Fs hvs
 have hnd':=List.nodup_cons.1 hnd
 have hna:=List.nodup_append.1 hnd'.2
 obtain⟨k1,k2⟩:=h2 hna.2.1
 have hGF:∀ c∈G,c∈Fs:=fun c hc=>(h1 c).2 (.inr hc)
 have hFF:∀ c∈F',c∈Fs:=fun c hc=>(h1 c).2 (.inl hc)
 have hG:∀ c∈G,c<w.heap.size:=fun c hc=>hlt c (List.mem_cons_of_mem _ (List.mem_append.2 (.inr (hGF c hc))))
 have hGx:∀ c∈G,c∉b::(Fx++F'):=by
  intro c hc hm
  rcases List.mem_cons.1 hm with e | hm
  ·subst e; exact hnd'.1 (List.mem_append.2 (.inr (hGF _ hc)))
  ·rcases List.mem_append.1 hm with hm | hm
   ·exact hna.2.2 c hm c (hGF c hc) rfl
   ·exact k2 c hc hm
 have hmono:∀ c,c∈b::(Fx++F')→c∈b::(Fx++Fs):=by
  intro c hc
  rcases List.mem_cons.1 hc with e | hc
  ·exact e▸List.mem_cons_self
  ·exact List.mem_cons_of_mem _ ((List.mem_append.1 hc).elim (fun g=>List.mem_append.2 (.inl g)) (fun g=>List.mem_append.2 (.inr (hFF c g))))
 have:=h.2 w (fun c=>N c∨c∈G) v1 v2 vals b Fx F' (by
  rintro c (hc | hc)
  ·exact⟨(hN c hc).1,fun hm=>(hN c hc).2 (hmono c hm)⟩
  ·exact⟨hG c hc,hGx c hc⟩) (by
  refine List.nodup_cons.2 ⟨fun hm=>hnd'.1 ((List.mem_append.1 hm).elim (fun g=>List.mem_append.2 (.inl g)) (fun g=>List.mem_append.2 (.inr (hFF _ g)))),List.nodup_append.2 ⟨hna.1,k1,fun a ha b hb=>hna.2.2 a ha b (hFF b hb)⟩⟩) (fun c hc=>hlt c (hmono c hc))
  (RepCs.frame (fun _ h=>.inl h) (fun _ _=>rfl) ps vals [] (fun _ _=>rfl) hps) (hx.sub fun _ h=>.inl h) (by rw[← hg]; exact h3 _ (fun _ h=>.inl h) (fun _ h=>.inr h)) (by rw[hl]; exact hv1)
 refine this.mono fun e w' he=>?_
 obtain⟨v,F,Fx',rfl,hk,hb,hr,hfn,hf⟩:=he
 have hN':∀ c,((N c∨c∈G)∨((w.heap.size≤c∨c∈Fx++F')∧c<w'.heap.size∧c∉Fx'++F))→(N c∨((w.heap.size≤c∨c∈Fx++Fs)∧c<w'.heap.size∧c∉Fx'++F)):=by
  rintro c ((hc | hc) | hc)
  ·exact .inl hc
  ·refine .inr ⟨.inr (List.mem_append.2 (.inr (hGF c hc))),Nat.lt_of_lt_of_le (hG c hc) hk.size,fun hm=>?_⟩
   rcases (hf c hm).1 with g | g
   ·have:=hG c hc; omega
   ·exact hGx c hc (List.mem_cons_of_mem _ g)
  ·exact .inr ⟨hc.1.imp id (fun g=>(List.mem_append.1 g).elim (fun g=>List.mem_append.2 (.inl g)) (fun g=>List.mem_append.2 (.inr (hFF c g)))),hc.2⟩
 refine⟨v,F,Fx',rfl,⟨hk.os,hk.tape,hk.output,hk.size,fun k hk1 hk2=>hk.block k hk1 (fun hm=>hk2 (hmono k hm)),hk.drawn⟩,hb.sub hN',rRf_ hN' hr,hfn,fun c hc=>⟨(hf c hc).1.imp id (fun g=>(List.mem_append.1 g).elim (fun g=>List.mem_append.2 (.inl g)) (fun g=>List.mem_append.2 (.inr (hFF c g)))),(hf c hc).2⟩⟩
end
section
theorem fa_3(b:Nat):∀ (n1 n2:Nat) (v1 v2:List Value),v1.length=n1→v2.length=n2→fP_ (List.replicate n1 false++true::List.replicate n2 false) b (v1++v2)=v1++.pointer (some ⟨b,0,none⟩)::v2
 | 0,n2,[],v2,_,h2=>by
  simp only[List.replicate,bh,fP_]
  rw[ff_ b _ v2 (by simp) (by simpa using h2.symm)]
 | n1+1,n2,v::v1,v2,h1,h2=>by
  simp only[List.replicate,List.cons_append,fP_]
  rw[fa_3 b n1 n2 v1 v2 (by simpa using h1) h2]
theorem cOs_1{st st':St}:∀ (xs:List Operand) ds,(∀ k∈xs.flatMap rd,st'.s k=st.s k)→(∀ n∈xs.flatMap rd,∀ x,st.s n=.box x→x.names=[])→cO_ st xs=some ds→cO_ st' xs=some ds:=by
 intro xs
 induction xs with
 | nil=>intro ds _ _ h; exact h
 | cons x xs ih=>
  intro ds hs hn h
  simp only[cO_] at h ⊢
  split at h
  ·rename_i c cs' hc hcs
   rw[ih cs' (fun k hk=>hs k (by simp only[List.flatMap_cons,aS]; exact .inr hk)) (fun k hk=>hn k (by simp only[List.flatMap_cons,aS]; exact .inr hk)) hcs]
   have:cO_1 st' x=some c:=by
    cases x with
    | tmp r=>
     simp only[cO_1] at hc ⊢
     rw[hs r (by simp[rd])]
     split at hc
     ·rename_i y hy
      have hnm:=hn r (by simp[rd]) y hy
      rw[(Cco_1 (ob:=st.o) (ob':=st'.o) y (by rw[hnm]; simp)).2.1]
      exact hc
     ·exact hc
     ·cases hc
    | _=>simp[cO_1] at hc
   rw[this]; exact h
  ·cases h
theorem vmF_{P:Program}{nt:Nat}{o:Oper}{st:St}{d r n1 n2:Nat}{f:FuncId}{cp1 cp2:List Operand}{cs:List (Nat×PV)}{x:CV}(hop:o.op=.makeFunc (.func f) #[] ⟨cp1++.tmp r::cp2⟩)(hdst:o.dst=some d)(hd:d<nt)
 (hl1:cp1.length=n1) (hl2:cp2.length=n2) (hr:st.s r=.box x) (hcs:cO_ st (cp1++cp2)=some cs) (hrc:(cs.all fun c=>!(c.1==r))=true) (hpure:∀ n∈(cp1++cp2).flatMap rd,∀ x,st.s n=.box x→x.names=[]):
 V_ P nt o st { rs:=r::(cp1++cp2).flatMap rd,us:=frozen cs++[(d,.hptr r (.clo f (List.replicate n1 false++true::List.replicate n2 false)) (cs.map fun c=>.ptr c.2))] }:=by
 intro κ st' a w hnt hsame _ hR next Q hnext
 obtain⟨G,hG⟩:=hR
 have hcs':cO_ st' (cp1++cp2)=some cs:=cOs_1 _ _ (fun k hk=>hsame.1 k (List.mem_cons_of_mem _ hk)) hpure hcs
 obtain⟨h1,vals,h2,h3⟩:=fa_1 (cp1++cp2) st' cs hG hcs'
 have hrv:a.tmps.getD r undef=.pointer (some ⟨G.ad r,0,none⟩):=by
  have:=hG.slots r
  rw[hsame.1 r (by simp),hr] at this
  exact this.1
 have hfill:fP_ (List.replicate n1 false++true::List.replicate n2 false) (G.ad r) vals=cp1.map a.eval++.pointer (some ⟨G.ad r,0,none⟩)::cp2.map a.eval:=by
  rw[← h2,List.map_append]
  exact fa_3 _ _ _ _ _ (by simpa using hl1) (by simpa using hl2)
 unfold Oper.wp
 have hrun:(execOp a.eval o).run P w=.ok (.value (.func (.func f) #[] (fP_ (List.replicate n1 false++true::List.replicate n2 false) (G.ad r) vals).toArray)) w:=by
  have:(⟨cp1++.tmp r::cp2⟩:Array Operand).map a.eval=(fP_ (List.replicate n1 false++true::List.replicate n2 false) (G.ad r) vals).toArray:=by
   apply Array.ext'; rw[hfill]; simp[Act.eval,hrv]
  simp[execOp,hop,Instr.makeFunc,← this]
 rw[hrun]
 simp only[Oper.upon]
 rw[hdst]
 refine hnext _ _ ?_
 have:=R.set (sv:=.hptr r (.clo f (List.replicate n1 false++true::List.replicate n2 false)) (cs.map fun c=>.ptr c.2)) (v:=.func (.func f) #[] (fP_ (List.replicate n1 false++true::List.replicate n2 false) (G.ad r) vals).toArray) (d:=d) G h1 (by rw[hnt]; exact hd) rfl
  ⟨vals,h3 _ (fun _ h=>h),rfl⟩
 simpa[St.app,uA_,aX,uAa_] using this
section
variable{P:Program}{nt:Nat}{st:St}{d r ty:Nat}{pos:String}{af:Array Edge}{gd:Option (Nat×Bool)}{K:Rec→Prop}
theorem MfH.hcl{A:Prop}{f:FuncId}{cp:List Operand}{x:CV}(cp1 cp2:List Operand)(cs:List (Nat×PV))(pat:List Bool)(ps:List PV)(hcp:cp=cp1++.tmp r::cp2)(hpat:pat=List.replicate cp1.length false++true::List.replicate cp2.length false)(hps:ps=cs.map fun c=>.ptr c.2)
 (hs:d<nt∧st.s r=.box x∧cO_ st (cp1++cp2)=some cs∧(cs.all fun c=>!(c.1==r))=true∧(((cp1++cp2).flatMap rd).all fun n=>(bN_ st n).isEmpty)=true)
 (hK:K { rs:=r::(cp1++cp2).flatMap rd,us:=frozen cs++[(d,.hptr r (.clo f pat) ps)] }):
 MfH A (RO_ P nt st { dst:=some d,op:=.makeFunc (.func f) ⟨[]⟩ ⟨cp⟩,type:=ty,pos:=pos,after:=af,guard:=gd } K) .mk .mk:=by
 subst hcp; subst hpat; subst hps
 obtain⟨h1,h2,h3,h4,h5⟩:=hs
 refine MfH.sh ⟨_,vmF_ rfl rfl h1 rfl rfl h2 h3 h4 (fun n hn x hx=>?_),fn_ rfl rfl,hK⟩
 have:=List.all_eq_true.1 h5 n hn
 simp only[bN_,hx,List.isEmpty_iff] at this
 exact this
theorem HHc_{g:Operand}{as:List Operand}{ts:List TypeId}{f:FuncId}(pat:List Bool)(ps ps1 ps2:List PV)(xs:List CV)(ms:List Bool){hc:HC}{pre:List PV}{x0 x':BV}{res:PV}
 (hsat:SatH P f (pre++ps1) ps2 .ptr [] x0 x' res) (hpat:sP_ pat ps=some (ps1,ps2)) (hcaps:CO_ ps)
 (hs:d<nt∧ev P st 0 g=.hptr r (.clo f pat) ps∧(r==d)=false∧hH_ (st.s r)=some hc∧hc.isBV st.o x0∧okH (st.s r) (x'.hc (16*d))=true∧argCVs P st as ts=xs∧au st.o xs=true∧
  (hc.names++mixNames ms xs).Nodup∧mixPure ms xs=true∧pre=mix ms (aL st.o xs) (aB st.o xs)∧(mix ms (aL st.o xs) (aB st.o xs)).length=as.length)
 (hK:(∀ n∈(x'.objs (16*d)++rO_ res (x'.hi (16*d))).map (·.1),st.noC n)∧K { rs:=r::(rd g++as.flatMap rd),ro:=hc.names++ar xs,fc:=(x'.objs (16*d)++rO_ res (x'.hi (16*d))).map (·.1),us:=[(r,setH (st.s r) (x'.hc (16*d))),(d,rS_ res (x'.hi (16*d)))],uo:=deadObjs (hc.names++mixNames ms xs)++newObjs (x'.objs (16*d)++rO_ res (x'.hi (16*d))) }):
 HandH (RO_ P nt st { dst:=some d,op:=.call { callee:=.value g,args:=⟨as⟩,argTypes:=⟨ts⟩ },type:=ty,pos:=pos,after:=af,guard:=gd } K) .mk:=by
 obtain⟨h1,h2,h3,h4,h5,h6,h7,h8,h9,h10,h11,h12⟩:=hs
 exact⟨_,vcC_ (T1:=0) rfl rfl h1 h2 hpat h3 h4 h5 h6 h7 h8 h9 (.inl h10) (by rw[h11]) h12 hcaps hsat,⟨by simp,hK.1⟩,hK.2⟩
end
end
section
def Fr0(ds:List Nat)(a a':Act):Prop:=∀ k,k∉ds→a'.tmps.getD k undef=a.tmps.getD k undef
theorem Fr0.refl(ds:List Nat)(a:Act):Fr0 ds a a:=fun _ _=>rfl
theorem Fr0.trans{ds:List Nat}{a b c:Act}(h:Fr0 ds a b)(h':Fr0 ds b c):Fr0 ds a c:=fun k hk=>(h' k hk).trans (h k hk)
theorem Fr0.put{ds:List Nat}{a:Act}{d:Option Nat}(hd:∀ x,d=some x→x∈ds)(v:Value):Fr0 ds a (a.put d v):=by
 intro k hk
 cases d with
 | none=>rfl
 | some d=>
  have hne:d≠k:=fun e=>hk (e▸hd d rfl)
  simp[Act.put,Array.getD_eq_getD_getElem?,Array.getElem?_setIfInBounds_ne hne]
def frzV(st:St):SlotV→Option SlotV
 | .val x=>if x.whole st.o then some (.val (.pv (x.pvw st.o))) else none
 | .box x=>if x.whole st.o then some (.val (.pv (.ptr (x.pvw st.o)))) else none
 | _=>none
def FO_(st st1:St)(X:Nat→Option Value):Prop:=(∀ k,st1.s k=.dead∨frzV st (st.s k)=some (st1.s k)∨∃ u,X k=some u∧st1.s k=.ex (fun v=>v=u))∧∀ c,st1.o c=none
mutual
def CV.keep(ns:List Nat):CV→Bool
 | .pv p=>p.noView
 | .own c=>ns.contains c
 | .node fs=>Ck_ ns fs
 | .gone _=>false
def Ck_(ns:List Nat):List CV→Bool
 | []=>true
 | x::xs=>x.keep ns&&Ck_ ns xs
end
mutual
theorem RepCV.keep{N N':Nat→Prop}{w:World}{hd hd':Nat→Value}{ns:List Nat}(hh:∀ c∈ns,hd' c=hd c):∀ (x:CV) (cs:List Value),x.keep ns=true→RepCV N w hd x cs→RepCV N' w hd' x cs
 | .pv p,cs,hk,h=>by simp only[RepCV] at h ⊢; exact RepC.noView (N:=N) p cs [] hk h
 | .own c,cs,hk,h=>by
  simp only[RepCV] at h ⊢
  rw[hh c (by simpa[CV.keep] using hk)]; exact h
 | .node fs,cs,hk,h=>by simp only[RepCV] at h ⊢; exact RepCVs.keep hh fs cs (by simpa[CV.keep] using hk) h
 | .gone n,cs,hk,h=>by simp[CV.keep] at hk
theorem RepCVs.keep{N N':Nat→Prop}{w:World}{hd hd':Nat→Value}{ns:List Nat}(hh:∀ c∈ns,hd' c=hd c):∀ (xs:List CV) (cs:List Value),Ck_ ns xs=true→RepCVs N w hd xs cs→RepCVs N' w hd' xs cs
 | [],cs,_,h=>h
 | x::xs,cs,hk,h=>by
  simp only[Ck_,aq] at hk
  simp only[RepCVs] at h ⊢
  obtain⟨c1,c2,h1,h2,h3⟩:=h
  exact⟨c1,c2,h1,RepCV.keep hh x c1 hk.1 h2,RepCVs.keep hh xs c2 hk.2 h3⟩
end
theorem CVal.keep{N N':Nat→Prop}{w:World}{hd hd':Nat→Value}{ns:List Nat}(hh:∀ c∈ns,hd' c=hd c){x:CV}{v:Value}(hk:x.keep ns=true)(h:CVal N w hd x v):CVal N' w hd' x v:=by
 rcases h with⟨h1,cs,h2,h3⟩ | ⟨h1,h2,h3⟩
 ·exact .inl ⟨h1,cs,h2,RepCV.keep hh x cs hk h3⟩
 ·exact .inr ⟨h1,RepCV.keep hh x _ hk h2,h3⟩
def kV_(ns:List Nat):SlotV→Bool
 | .val x=>x.keep ns
 | _=>false
structure Thaw(st st2 st3:St)(ds ns:List Nat)(X:Nat→Option Value):Prop where
 slots:∀ k,st3.s k=.dead∨(k∉ds∧st3.s k=st.s k)∨(k∈ds∧st3.s k=st2.s k∧kV_ ns (st2.s k)=true)∨(k∈ds∧∃ j u r sh ps,X j=some u∧st2.s k=.ex (fun v=>v=u)∧st.s j=.hptr r sh ps∧st3.s k=.hptr r sh ps)
 objs:∀ c,st3.o c=none∨(c∉ns∧st3.o c=st.o c)∨(c∈ns∧st3.o c=st2.o c)
 fresh:∀ c∈ns,st.noC c
 news:∀ c∈ns,∃ sz es,st2.o c=some (sz,es)∧PV.noViews es=true
section
variable{P:Program}{nt:Nat}{ops:Array Oper}{st st':St}{recs:List Rec}{ds:List Nat}
end
section
variable{P:Program}{nt:Nat}{ops:Array Oper}{st st1:St}{Q:Exit→St→Prop}{ds:List Nat}
end

def MgF(P:Program)(nt:Nat)(F:St→Prop):Nat→Ctl→St→List Fr→Prop
 | 0,_,_,_=>False
 | n+1,.code c,st,k=>match c with
  | .seq x y=>MgF P nt F n (.code x) st (.sq y::k)
  | .skip=>MgF P nt F n .nrm st k
  | .exit id=>MgF P nt F n (.ex id) st k
  | .ret=>MgF P nt F n .rt st k
  | .block id x=>MgF P nt F n (.code x) st (.bl id::k)
  | .cond c x y=>boolOf (ev P st 0 c) fun b=>CondH b (MgF P nt F n (.code x) st k) (MgF P nt F n (.code y) st k) .mk .mk
  | c=>VC P nt c st (popQ P nt F k)
 | n+1,.nrm,st,k=>match k with
  | []=>F st
  | .sq y::k=>MgF P nt F n (.code y) st k
  | .bl _::k=>MgF P nt F n .nrm st k
  | .rd φ::_=>φ st
 | n+1,.ex id,st,k=>match k with
  | []=>False
  | .sq _::k=>MgF P nt F n (.ex id) st k
  | .bl id'::k=>if id=id' then MgF P nt F n .nrm st k else MgF P nt F n (.ex id) st k
  | .rd _::k=>MgF P nt F n (.ex id) st k
 | n+1,.rt,st,k=>match k with
  | []=>F st
  | _::k=>MgF P nt F n .rt st k
section
variable{P:Program}{nt:Nat}{F:St→Prop}{n:Nat}{st:St}{k:List Fr}
theorem MgF.sound:∀ (n:Nat) (c:Ctl) (st:St) (k:List Fr),MgF P nt F n c st k→c.means P nt st (popQ P nt F k)
 | 0,_,_,_,h=>h.elim
 | n+1,.code c,st,k,h=>by
  have ih:=MgF.sound n
  cases c with
  | seq x y=>exact Vs_ (ih (.code x) st (.sq y::k) h)
  | skip=>exact VC.skip (ih .nrm st k h)
  | exit id=>exact VC.exit (ih (.ex id) st k h)
  | ret=>exact VC.ret (ih .rt st k h)
  | block id x=>exact VC.block (ih (.code x) st (.bl id::k) h)
  | cond c x y=>
   refine VC.cond ?_
   simp only[MgF] at h
   unfold boolOf at h ⊢
   split at h
   ·exact⟨fun hb=>ih (.code x) st k (h.1 hb),fun hb=>ih (.code y) st k (h.2 hb)⟩
   ·intro v hv
    obtain⟨b,e,hb⟩:=h v hv
    exact⟨b,e,fun hh=>ih (.code x) st k (hb.1 hh),fun hh=>ih (.code y) st k (hb.2 hh)⟩
   ·exact h.elim
  | _=>exact h
 | n+1,.nrm,st,k,h=>by
  have ih:=MgF.sound n
  match k,h with
  | [],h=>exact⟨.inl rfl,h⟩
  | .sq y::k,h=>exact(ih (.code y) st k h)
  | .bl i::k,h=>exact(ih .nrm st k h)
  | .rd φ::k',h=>exact h
 | n+1,.ex id,st,k,h=>by
  have ih:=MgF.sound n
  match k,h with
  | [],h=>exact h.elim
  | .sq y::k,h=>exact(ih (.ex id) st k h)
  | .bl id'::k,h=>
   simp only[MgF] at h
   by_cases e:id=id'
   ·subst e; rw[if_pos rfl] at h; exact bKh_ (ih .nrm st k h)
   ·rw[if_neg e] at h; exact bKm_ e (ih (.ex id) st k h)
  | .rd φ::k',h=>exact(ih (.ex id) st k' h)
 | n+1,.rt,st,k,h=>by
  have ih:=MgF.sound n
  match k,h with
  | [],h=>exact⟨.inr rfl,h⟩
  | .sq y::k,h=>exact(ih .rt st k h)
  | .bl i::k,h=>exact(ih .rt st k h)
  | .rd φ::k',h=>exact(ih .rt st k' h)
@[congr] theorem MgF.cg {c:Ctl} {st':St} (h:∀ _:Unit,st=st'):MgF P nt F n c st k=MgF P nt F n c st' k:=by rw[h ()]
theorem MFs_1(x y:Code):MgF P nt F (n+1) (.code (.seq x y)) st k=MgF P nt F n (.code x) st (.sq y::k):=rfl
theorem MFs_:MgF P nt F (n+1) (.code .skip) st k=MgF P nt F n .nrm st k:=rfl
theorem MFe_(id:Nat):MgF P nt F (n+1) (.code (.exit id)) st k=MgF P nt F n (.ex id) st k:=rfl
theorem MFr_1:MgF P nt F (n+1) (.code .ret) st k=MgF P nt F n .rt st k:=rfl
theorem MFb_(id:Nat)(x:Code):MgF P nt F (n+1) (.code (.block id x)) st k=MgF P nt F n (.code x) st (.bl id::k):=rfl
theorem MFc_(c:Operand)(x y:Code):MgF P nt F (n+1) (.code (.cond c x y)) st k=boolOf (ev P st 0 c) fun b=>CondH b (MgF P nt F n (.code x) st k) (MgF P nt F n (.code y) st k) .mk .mk:=rfl
theorem MFn_3:MgF P nt F (n+1) .nrm st []=F st:=rfl
theorem MFn_1(y:Code):MgF P nt F (n+1) .nrm st (.sq y::k)=MgF P nt F n (.code y) st k:=rfl
theorem MFn_2(id:Nat):MgF P nt F (n+1) .nrm st (.bl id::k)=MgF P nt F n .nrm st k:=rfl
theorem MFx_(id:Nat)(y:Code):MgF P nt F (n+1) (.ex id) st (.sq y::k)=MgF P nt F n (.ex id) st k:=rfl
theorem MFx_3(id:Nat):MgF P nt F (n+1) (.ex id) st (.bl id::k)=MgF P nt F n .nrm st k:=by simp[MgF]
theorem MFx_2(id id':Nat)(h:(id==id')=false):MgF P nt F (n+1) (.ex id) st (.bl id'::k)=MgF P nt F n (.ex id) st k:=by
 have:id≠id':=by simpa using h
 simp[MgF,this]
theorem MFx_1(id:Nat)(φ:St→Prop):MgF P nt F (n+1) (.ex id) st (.rd φ::k)=MgF P nt F n (.ex id) st k:=rfl
theorem MFr_3:MgF P nt F (n+1) .rt st []=F st:=rfl
theorem MFr_2(f:Fr):MgF P nt F (n+1) .rt st (f::k)=MgF P nt F n .rt st k:=rfl
theorem MgF.know_own{c:Code}{sz:Nat}{es:List PV}(j:Nat)(hk:st.o j=some (sz,es))(h:es.length≤9223372036854775807→MgF P nt F (n+1) (.code (.loop c)) st k):MgF P nt F (n+1) (.code (.loop c)) st k:=
 VC.know_own (Q:=popQ P nt F k) j hk (fun g=>h (Nat.le_trans g (by decide)))
theorem MgF.forN{c:Code}{ρ σ:Type}{f:Nat→σ→Option (Flow ρ σ)}{N:Nat}{s0:σ}{ψ:ρ ⊕ σ→Prop}(h:Run (Av.forN f N 0 s0) ψ)(S:Nat→σ→List (Nat×SlotV))(O:Nat→σ→List (Nat×(Nat×List PV)))
 (h0:st.le ⟨mkS (S 0 s0),mkO (O 0 s0)⟩)
 (round:∀ i s,i<N→Run (f i s) (sP_1 (Av.forN f (N-(i+1)) (i+1)) ψ)→MgF P nt F n (.code c) ⟨mkS (S i s),mkO (O i s)⟩
  (.rd (fun st'=>∃ s',Run (Av.forN f (N-(i+1)) (i+1) s') ψ∧st'.le ⟨mkS (S (i+1) s'),mkO (O (i+1) s')⟩)::k))
 (last:∀ s,ψ (.inr s)→MgF P nt F n (.code c) ⟨mkS (S N s),mkO (O N s)⟩ (.rd (fun _=>False)::k)):MgF P nt F (n+1) (.code (.loop c)) st k:=by
 show VC P nt (.loop c) st (popQ P nt F k)
 refine VC.loop (α:=Nat×σ) (fun x=>⟨mkS (S x.1 x.2),mkO (O x.1 x.2)⟩) (fun x=>x.1≤N∧Run (Av.forN f (N-x.1) x.1 x.2) ψ) (fun x=>N-x.1) (0,s0) ⟨Nat.zero_le _,h⟩ h0 ?_
 rintro ⟨i,s⟩ ⟨h1,h2⟩
 simp only at h1 h2 ⊢
 by_cases e:i<N
 ·refine VC.mono (MgF.sound n _ _ _ (round i s e (rr_ h2 e))) ?_
  intro ex st' hq
  cases ex with
  | normal=>obtain⟨s',g1,g2⟩:=hq; exact⟨(i+1,s'),⟨by simp only; omega,g1⟩,by simp only; omega,g2⟩
  | _=>exact hq
 ·have e2:i=N:=by omega
  subst e2
  refine VC.mono (MgF.sound n _ _ _ (last s (rl_2 h2))) ?_
  intro ex st' hq
  cases ex with
  | normal=>exact hq.elim
  | _=>exact hq
theorem MgF.whileN{c:Code}{ρ σ:Type}{f:σ→Option (Flow ρ σ)}{s0:σ}{ψ:ρ ⊕ σ→Prop}(h:Run (lim fun m=>Av.whileN f m s0) ψ)(S:σ→List (Nat×SlotV))(O:σ→List (Nat×(Nat×List PV)))
 (h0:st.le ⟨mkS (S s0),mkO (O s0)⟩)
 (round:∀ m s,Run (f s) (sP_1 (Av.whileN f m) ψ)→MgF P nt F n (.code c) ⟨mkS (S s),mkO (O s)⟩ (.rd (fun st'=>∃ s',Run (Av.whileN f m s') ψ∧st'.le ⟨mkS (S s'),mkO (O s')⟩)::k)):MgF P nt F (n+1) (.code (.loop c)) st k:=by
 show VC P nt (.loop c) st (popQ P nt F k)
 obtain⟨n0,h⟩:=rl_4 h
 refine VC.loop (α:=Nat×σ) (fun x=>⟨mkS (S x.2),mkO (O x.2)⟩) (fun x=>Run (Av.whileN f x.1 x.2) ψ) (fun x=>x.1) (n0,s0) h h0 ?_
 rintro ⟨i,s⟩ h2
 simp only at h2 ⊢
 obtain⟨i',rfl,h3⟩:=rw_ h2
 refine VC.mono (MgF.sound n _ _ _ (round i' s h3)) ?_
 intro ex st' hq
 cases ex with
 | normal=>obtain⟨s',g1,g2⟩:=hq; exact⟨(i',s'),g1,by simp only; omega,g2⟩
 | _=>exact hq
end
theorem MFn_{P:Program}{nt n:Nat}{F:St→Prop}{st:St}{k:List Fr}(φ:St→Prop):MgF P nt F (n+1) .nrm st (.rd φ::k)=RdH φ st .mk:=rfl
section
variable{P:Program}{nt n id:Nat}{F:St→Prop}{st:St}{k:List Fr}{l:List Oper}
theorem MFr_(h:wpD P nt ⟨l⟩ l st [] (fun _ st'=>MgF P nt F n .nrm st' k)):MgF P nt F (n+1) (.code (.region id ⟨l⟩ false)) st k:=
 Vr_ (Q:=popQ P nt F k) h (fun st' hk=>MgF.sound n .nrm st' k hk)
theorem MFd_(h:P.follows .mixedOrders=true∧wpD P nt ⟨l⟩ l st [] (fun recs st'=>DrawH ⟨l⟩ st recs .mk .mk .mk∧MgF P nt F n .nrm st' k)):MgF P nt F (n+1) (.code (.region id ⟨l⟩ true)) st k:=
 Vd_ (Q:=popQ P nt F k) h.1 h.2 (fun st' hk=>MgF.sound n .nrm st' k hk)
theorem MFw_{l:Array Oper}{b:Bool}{st':St}(hle:st.le st')(h:MgF P nt F (n+1) (.code (.region id l b)) st' k):MgF P nt F (n+1) (.code (.region id l b)) st k:=Vw_ (Q:=popQ P nt F k) hle h
def FrzE(st:St):SlotV→SlotV→Prop
 | .val x,v=>x.whole st.o=true∧SlotV.val (.pv (x.pvw st.o))=v
 | .box x,v=>x.whole st.o=true∧SlotV.val (.pv (.ptr (x.pvw st.o)))=v
 | _,_=>False
def FrzL(st:St):List (Nat×SlotV)→Prop
 | []=>True
 | (k,v)::l=>FrzE st (st.s k) v∧FrzL st l
theorem FrzL.ok{st:St}{X:Nat→Option Value}:∀ {S:List (Nat×SlotV)},FrzL st S→FO_ st ⟨mkS S,mkO []⟩ X
 | [],_=>⟨fun _=>.inl rfl,fun _=>rfl⟩
 | (k,v)::l,h=>by
  refine⟨fun j=>?_,fun _=>rfl⟩
  by_cases e:j=k
  ·subst e
   refine .inr (.inl ?_)
   simp only[mSh_]
   have h1:=h.1
   unfold FrzE at h1
   split at h1
   ·rename_i x hs; rw[hs]; simp only[frzV]; rw[if_pos h1.1,h1.2]
   ·rename_i x hs; rw[hs]; simp only[frzV]; rw[if_pos h1.1,h1.2]
   ·exact h1.elim
  ·have:=(FrzL.ok (X:=X) h.2).1 j
   simp only at this ⊢
   rwa [mSm_ j k v l (by simpa using e)]
def OldS(st:St):List (Nat×SlotV)→Prop
 | []=>True
 | (k,v)::l=>st.s k=v∧OldS st l
def ObjS(st:St):List (Nat×(Nat×List PV))→Prop
 | []=>True
 | (c,p)::l=>st.o c=some p∧ObjS st l
def ObjV:List (Nat×(Nat×List PV))→Prop
 | []=>True
 | (_,p)::l=>PV.noViews p.2=true∧ObjV l
def ThawH(st st2:St)(ds:List Nat)(X:Nat→Option Value)(K:St→Prop)(_:Tok K)(_:Tok st):Prop:=∃ st3 ns,Thaw st st2 st3 ds ns X∧K st3
@[congr] theorem ThawH.cg {st st2 st2':St} {ds:List Nat} {X:Nat→Option Value} {K:St→Prop} (h:∀ _:Unit,st2=st2'):ThawH st st2 ds X K .mk .mk=ThawH st st2' ds X K .mk .mk:=by rw[h ()]
theorem mSm_1:∀ {S:List (Nat×SlotV)} (k:Nat),mkS S k=.dead∨(k,mkS S k)∈S
 | [],_=>.inl rfl
 | (j,v)::l,k=>by
  by_cases e:k=j
  ·subst e; rw[mSh_]; exact .inr (by simp)
  ·rw[mSm_ k j v l (by simpa using e)]
   rcases mSm_1 (S:=l) k with h | h
   ·exact .inl h
   ·exact .inr (List.mem_cons_of_mem _ h)
theorem mOm_1:∀ {S:List (Nat×(Nat×List PV))} (k:Nat),mkO S k=none∨∃ p,mkO S k=some p∧(k,p)∈S
 | [],_=>.inl rfl
 | (j,v)::l,k=>by
  by_cases e:k=j
  ·subst e; rw[mOh_]; exact .inr ⟨v,rfl,by simp⟩
  ·rw[mOm_ k j v l (by simpa using e)]
   rcases mOm_1 (S:=l) k with h | ⟨p,h1,h2⟩
   ·exact .inl h
   ·exact .inr ⟨p,h1,List.mem_cons_of_mem _ h2⟩
theorem OldS.mem{st:St}:∀ {l:List (Nat×SlotV)},OldS st l→∀ {k v},(k,v)∈l→st.s k=v
 | (j,u)::l,h,k,v,hm=>by
  rcases List.mem_cons.1 hm with e | hm
  ·cases e; exact h.1
  ·exact OldS.mem h.2 hm
theorem ObjS.mem{st:St}:∀ {l:List (Nat×(Nat×List PV))},ObjS st l→∀ {k p},(k,p)∈l→st.o k=some p
 | (j,u)::l,h,k,v,hm=>by
  rcases List.mem_cons.1 hm with e | hm
  ·cases e; exact h.1
  ·exact ObjS.mem h.2 hm
theorem ObjV.mem:∀ {l:List (Nat×(Nat×List PV))},ObjV l→∀ {k p},(k,p)∈l→PV.noViews p.2=true
 | (j,u)::l,h,k,v,hm=>by
  rcases List.mem_cons.1 hm with e | hm
  ·cases e; exact h.1
  ·exact ObjV.mem h.2 hm
theorem ThawH.mk{st st2:St}{ds:List Nat}{X:Nat→Option Value}{K:St→Prop}(A B:List (Nat×SlotV))(C D:List (Nat×(Nat×List PV)))(ns:List Nat)(h1:OldS st A∧ObjS st C)(h2:OldS st2 B∧ObjS st2 D∧ObjV D)(hn:∀ c∈ns,st.noC c)
 (hK:K ⟨mkS (A++B),mkO (C++D)⟩) (hA:(A.all fun x=>!ds.contains x.1)=true:=by rfl) (hB:(B.all fun x=>ds.contains x.1&&kV_ ns x.2)=true:=by rfl) (hC:(C.all fun x=>!ns.contains x.1)=true:=by rfl) (hD:D.map (·.1)=ns:=by rfl):ThawH st st2 ds X K .mk .mk:=by
 rw[List.all_eq_true] at hA hB hC
 refine⟨_,ns,⟨fun k=>?_,fun c=>?_,hn,fun c hc=>?_⟩,hK⟩
 ·rcases mSm_1 (S:=A++B) k with h | h
  ·exact .inl h
  ·rcases List.mem_append.1 h with h | h
   ·have:=hA _ h
    exact .inr (.inl ⟨by simpa using this,(h1.1.mem h).symm⟩)
   ·have:=hB _ h
    simp only[aq] at this
    have e:=h2.1.mem h
    exact .inr (.inr (.inl ⟨by simpa using this.1,e.symm,by rw[e]; exact this.2⟩))
 ·rcases mOm_1 (S:=C++D) c with h | ⟨p,h,hm⟩
  ·exact .inl h
  ·rcases List.mem_append.1 hm with hm | hm
   ·have:=hC _ hm
    exact .inr (.inl ⟨by simpa using this,by show mkO _ c=_; rw[h,h1.2.mem hm]⟩)
   ·refine .inr (.inr ⟨?_,by show mkO _ c=_; rw[h,h2.2.1.mem hm]⟩)
    rw[← hD]; exact List.mem_map.2 ⟨_,hm,rfl⟩
 ·rw[← hD] at hc
  obtain⟨x,hx,rfl⟩:=List.mem_map.1 hc
  exact⟨x.2.1,x.2.2,h2.2.1.mem hx,h2.2.2.mem hx⟩
theorem SHo_1{f:FuncId}{fn:Func}{c:Code}{pre post:List PV}{sh:Sh}{ps:List PV}{x x':BV}{res:PV}{rs:List ResultVar}(k:Nat)(hf:P.funcs[f]?=some fn)(hname:(fn.name== "runtime.NumGoroutine")=false)(hb:fn.body=some c)
 (hnt:fn.ntmps=nt) (hrs:fn.results.toList=rs) (hk:pre.length=k) (hle:k+post.length+1≤nt) (hnl:nt≤20000) (hhi:(e_1 (pre++post) (x.hi 9000)).2.2≤10000)
 (h:MgF P nt (fun st=>RetHB P st rs res k x') n (.code c) (aS_2 k pre post sh ps x) []):SatH P f pre post sh ps x x' res:=by
 subst hk
 exact SatH.of_body hf hname hb hnt hrs hle hnl hhi (MgF.sound n _ _ _ h)
theorem Som_{f:FuncId}{fn:Func}{c:Code}{args:List PV}{res:PV}{rs:List ResultVar}(hf:P.funcs[f]?=some fn)(hname:(fn.name== "runtime.NumGoroutine")=false)(hb:fn.body=some c)
 (hnt:fn.ntmps=nt) (hrs:fn.results.toList=rs) (hle:args.length≤nt) (h:MgF P nt (fun st=>FinH P st rs res) n (.code c) (aS_ args) []):Sat P f args res:=
 Sat.of_body hf hname hb hnt hrs hle (MgF.sound n _ _ _ h)
theorem FEv_(st:St)(x:CV)(v:SlotV):FrzE st (.val x) v=(x.whole st.o=true∧SlotV.val (.pv (x.pvw st.o))=v):=rfl
theorem FEb_(st:St)(x:CV)(v:SlotV):FrzE st (.box x) v=(x.whole st.o=true∧SlotV.val (.pv (.ptr (x.pvw st.o)))=v):=rfl
theorem FLn_(st:St):FrzL st []=True:=rfl
theorem FLc_(st:St)(k:Nat)(v:SlotV)(l:List (Nat×SlotV)):FrzL st ((k,v)::l)=(FrzE st (st.s k) v∧FrzL st l):=rfl
theorem OSn_(st:St):OldS st []=True:=rfl
theorem OSc_(st:St)(k:Nat)(v:SlotV)(l:List (Nat×SlotV)):OldS st ((k,v)::l)=(st.s k=v∧OldS st l):=rfl
theorem OSn_1(st:St):ObjS st []=True:=rfl
theorem OSc_1(st:St)(k:Nat)(v:Nat×List PV)(l:List (Nat×(Nat×List PV))):ObjS st ((k,v)::l)=(st.o k=some v∧ObjS st l):=rfl
theorem OVn_:ObjV []=True:=rfl
theorem OVc_(k:Nat)(v:Nat×List PV)(l:List (Nat×(Nat×List PV))):ObjV ((k,v)::l)=(PV.noViews v.2=true∧ObjV l):=rfl
theorem vs_2:∀ (l:List PV) (i:Nat) (x:PV),PV.views (l.set i x)=(PV.views l).set i x.view
 | [],_,_=>rfl
 | _::_,0,_=>rfl
 | p::l,i+1,x=>congrArg (p.view::·) (vs_2 l i x)
attribute [push_cast] vs_2 FEv_ FEb_ FLn_ FLc_ OSn_ OSc_ OSn_1 OSc_1 OVn_ OVc_ MFn_ MFs_1 MFs_ MFe_ MFr_1 MFb_ MFc_ MFn_3 MFn_1 MFn_2 MFx_ MFx_3 MFx_2 MFx_1 MFr_3 MFr_2
def RF:=ae @MFs_1<|ae @MFs_<|ae @MFe_<|ae @MFr_1<|ae @MFb_<|ae @MFc_<|ae @MFn_3<|ae @MFn_1<|ae @MFn_2<|ae @MFx_<|ae @MFx_3<|ae @MFx_2<|ae @MFx_1<|ae @MFr_3<|ae @MFr_2<|@MFn_
end
end
section
mutual
def junk:PV→List Value→PV
 | .sl true _ _,cs=>.lit (cs.headD undef)
 | .sl false sz es,_=>.sl false sz es
 | .agg fs,cs=>.agg (j_ fs cs)
 | .lit v,_=>.lit v
 | .clo f c,_=>.clo f c
 | .ptr v,_=>.ptr v
 | .tup vs,_=>.tup vs
def j_:List PV→List Value→List PV
 | [],_=>[]
 | p::ps,cs=>junk p (cs.take p.size)::j_ ps (cs.drop p.size)
end
mutual
theorem sj_1:∀ (p:PV) (cs:List Value),(junk p cs).size=p.size
 | .sl true _ _,_=>rfl
 | .sl false _ _,_=>rfl
 | .agg fs,cs=>by simp only[junk,aM]; exact sj_ fs cs
 | .lit _,_=>rfl
 | .clo _ _,_=>rfl
 | .ptr _,_=>rfl
 | .tup _,_=>rfl
theorem sj_:∀ (ps:List PV) (cs:List Value),PV.sizes (j_ ps cs)=PV.sizes ps
 | [],_=>rfl
 | p::ps,cs=>by simp only[j_,PV.sizes,sj_1 p,sj_ ps]
end
section
variable{N:Nat→Prop}{w:World}
mutual
theorem RepC.junk:∀ (p:PV) (cs:List Value) (F:List Nat),RepC N w p cs F→RepC N w (Av.junk p cs) cs []
 | .lit v,cs,F,h=>by simp only[RepC,Av.junk] at h ⊢; exact⟨h.1,h.2.1,trivial⟩
 | .agg fs,cs,F,h=>by simp only[RepC,Av.junk] at h ⊢; exact RepCs.junk fs cs F h
 | .sl false sz es,cs,F,h=>by
  have hF:=RepC.noOwn (.sl false sz es) cs F rfl h
  subst hF; exact h
 | .sl true sz es,cs,F,h=>by
  have hl:=RepC.length _ _ _ h
  simp only[aM] at hl
  obtain⟨v,rfl⟩:=List.length_eq_one_iff.1 hl
  simp only[Av.junk,RepC,List.headD_cons]
  exact⟨trivial,RepC.one _ _ _ h v (by simp),trivial⟩
 | .clo f c,cs,F,h=>by
  have hF:=RepC.noOwn (.clo f c) cs F rfl h
  subst hF; exact h
 | .ptr v,cs,F,h=>by
  have hF:=RepC.noOwn (.ptr v) cs F rfl h
  subst hF; exact h
 | .tup vs,cs,F,h=>by simp only[RepC] at h
theorem RepCs.junk:∀ (ps:List PV) (cs:List Value) (F:List Nat),RepCs N w ps cs F→RepCs N w (j_ ps cs) cs []
 | [],cs,F,h=>by simp only[RepCs,j_] at h ⊢; exact⟨h.1,trivial⟩
 | p::ps,cs,F,h=>by
  simp only[RepCs] at h
  obtain⟨c1,c2,F1,F2,rfl,rfl,h3,h4⟩:=h
  have hl:=RepC.length _ _ _ h3
  simp only[j_,RepCs]
  rw[List.take_left' hl,List.drop_left' hl]
  exact⟨c1,c2,[],[],rfl,rfl,RepC.junk p c1 F1 h3,RepCs.junk ps c2 F2 h4⟩
end
end
theorem uAn_1{l:List (Nat×(Nat×List PV))}{f:Nat→Option (Nat×List PV)}{n:Nat}{p:Nat×List PV}(hn:(l.map (·.1)).Nodup)(h:uA_ f (newObjs l) n=some p):((n,p)∈l)∨(n∉l.map (·.1)∧f n=some p):=by
 by_cases hm:n∈l.map (·.1)
 ·obtain⟨⟨m,q⟩,hq,rfl⟩:=List.mem_map.1 hm
  have:=uAm_ (newObjs l) f m (some q) (by rw[nOk_]; exact hn) (List.mem_map.2 ⟨_,hq,rfl⟩)
  simp only at h
  rw[this] at h
  cases h
  exact .inl hq
 ·rw[uAn_ _ _ _ (by rw[nOk_]; exact hm)] at h
  exact .inr ⟨hm,h⟩
theorem VSeq.take{P:Program}{nt:Nat}{ops:Array Oper}{i:Nat}{st:St}{K:St→Prop}{o:Oper}{x:Operand}{T:TypeId}{d c sz j:Nat}{es:List PV}(row:PV)
 (ho:ops[i]?=some o) (hg:o.guard=none) (hop:o.op=.load T x) (hdst:o.dst=some d) (hd:d<nt) (hx:ev P st 0 x=.eptr c sz j [] 0) (hc:st.o c=some (sz,es)) (hj:j<es.length) (hrw:es.getD j default=row)
 (hT:TyIs P T (e_ row (16*d)).1.isAgg (e_ row (16*d)).1.size) (hgo:∀ n,(e_ row (16*d)).1≠.gone n) (hfr:∀ n∈(e_ row (16*d)).2.1.map (·.1),st.noC n)
 (h:∀ cs:List Value,VSeq P nt ops (i+1) ⟨upd st.s d (.val (e_ row (16*d)).1),uA_ (upd st.o c (some (sz,es.set j (junk row cs)))) (newObjs (e_ row (16*d)).2.1)⟩ K):VSeq P nt ops i st K:=by
 intro κ a w hnt hR Q hQ
 obtain⟨G,hG⟩:=hR
 have hi:i<ops.size:=(Array.getElem?_eq_some_iff.1 ho).1
 have e:ops.size-i=(ops.size-(i+1))+1:=by omega
 rw[e,List.range'_succ,wpOps_cons]
 have hs1:=eo_ (P:=P) (T:=0) hG x d
 rw[hx] at hs1
 obtain⟨b,n,cap,k1,k2⟩:=hs1
 obtain⟨h4,h4n,h4l⟩:=hG.objs c sz es hc
 have h4':=h4
 simp only[RepC] at h4
 rcases h4 with⟨_,h4,_⟩ | ⟨b',cap',cc,et,F',ccs,f1,f2,f3,f4,f5,f6,f7,f8,f9⟩
 ·subst h4; simp at hj
 rw[k1] at f1
 simp at f1
 obtain⟨rfl,rfl,rfl⟩:=f1
 obtain⟨c1,c2,c3,F1,F2,F3,e1,e2,e3,e4,e5,e6⟩:=RCa_ es j ccs F' hj f8
 rw[hrw] at e4
 rw[st_ f4 (by omega)] at e3
 have hFn0:(b::F').Nodup:=by rw[← f9]; exact h4n
 have hF'n:=(List.nodup_cons.1 hFn0).2
 rw[e2] at hF'n
 have hF2n:F2.Nodup:=(List.nodup_append.1 (List.nodup_append.1 hF'n).1).2.1
 obtain⟨hdv,fpv,hnews,hrep⟩:=eo_1 row c2 F2 (16*d) e4 hF2n
 let nm:=(e_ row (16*d)).2.1.map (·.1)
 let G':Gh:={ hd:=fun m=>if m∈nm then hdv m else G.hd m,fp:=fun m=>if m∈nm then fpv m else if m=c then b::(F1++F3) else G.fp m,ad:=G.ad }
 have hin:∀ m,m∈nm→G'.hd m=hdv m∧G'.fp m=fpv m:=fun m hm=>by simp[G',hm]
 have hout:∀ m,m∉nm→G'.hd m=G.hd m:=fun m hm=>by simp[G',hm]
 have hcn:c∉nm:=fun hm=>by have:=(hfr c hm).1.2; rw[hc] at this; cases this
 have hfc:G'.fp c=b::(F1++F3):=by simp[G',hcn]
 have hfo:∀ m,m∉nm→m≠c→G'.fp m=G.fp m:=fun m h1 h2=>by simp[G',h1,h2]
 have hF2fp:∀ k∈F2,k∈G.fp c:=fun k hk=>by rw[f9,e2]; simp[hk]
 have hFcfp:∀ k∈b::(F1++F3),k∈G.fp c:=fun k hk=>by
  rw[f9,e2]; simp only[aU,aS] at hk ⊢
  rcases hk with hk | hk | hk<;>simp[hk]
 have hfpsub:∀ m p,uA_ (upd st.o c (some (sz,es.set j (junk row c2)))) (newObjs (e_ row (16*d)).2.1) m=some p→∀ k∈G'.fp m,∃ q m',st.o m'=some q∧k∈G.fp m':=by
  intro m p hm k hk
  rcases uAn_1 hnews.once hm with hm | ⟨hm,hm2⟩
  ·have hmn:m∈nm:=List.mem_map.2 ⟨_,hm,rfl⟩
   rw[(hin m hmn).2] at hk
   exact⟨_,c,hc,hF2fp k ((hnews.rep m p.1 p.2 hm).2.2.2.2 k hk)⟩
  ·by_cases hmc:m=c
   ·subst hmc; rw[hfc] at hk; exact⟨_,m,hc,hFcfp k hk⟩
   ·rw[un_ hmc] at hm2; rw[hfo m hm hmc] at hk; exact⟨p,m,hm2,hk⟩
 have hbox:∀ r,iB_ (upd st.s d (.val (e_ row (16*d)).1) r)=true→r≠d∧iB_ (st.s r)=true:=by
  intro r hr
  simp only[upd] at hr
  split at hr
  ·cases hr
  ·exact⟨by assumption,hr⟩
 have hN:∀ k,Nof κ st G w k→Nof κ ⟨upd st.s d (.val (e_ row (16*d)).1),uA_ (upd st.o c (some (sz,es.set j (junk row c2)))) (newObjs (e_ row (16*d)).2.1)⟩ G' w k:=by
  intro k hk
  refine⟨hk.1,?_⟩
  rintro (⟨r,h1,h2⟩ | ⟨m,p,h1,h2⟩)
  ·exact hk.2 (.inl ⟨r,(hbox r h1).2,h2⟩)
  ·obtain⟨q,m',h3,h4⟩:=hfpsub m p h1 k h2
   exact hk.2 (.inr ⟨m',q,h3,h4⟩)
 -- the load
 have hrow:RowAt w ⟨b,j*sz+0,none⟩ c2:=by
  have hall:cc.toList=c1++c2++(c3++cc.toList.drop (es.length*sz)):=by
   have:=List.take_append_drop (es.length*sz) cc.toList
   rw[f7,e1] at this
   refine this.symm.trans ?_
   simp only[aY]
  have h5:w.heap[b]?=some (.cells (c1++c2++(c3++cc.toList.drop (es.length*sz))).toArray et (0,0)):=by rw[← hall]; simpa using f5
  have:=rAo_ h5
  rw[e3] at this
  exact this
 have hcv:RepCV (Nof κ st G w) w G'.hd (e_ row (16*d)).1 c2:=hrep G'.hd (fun m h1 h2=>by
  have:=hnews.all m h1 h2
  exact(hin m this).1)
 obtain⟨u',r1,r2⟩:=rlV_ (P:=P) (T:=T) hT rfl hrow hcv hgo
 have hrun1:(execOp a.eval o).run P w=.ok (.value u') w:=by
  rw[Nat.add_zero] at r1
  simp[execOp,hop,k2,Instr.loadAt,Instr.sureAddr,r1]
 unfold wpOp
 simp only[ho,Region.wanted,hg,if_true]
 refine .inl ?_
 unfold Oper.wp
 rw[hrun1]
 simp only[Oper.upon,hdst]
 refine h c2 κ _ _ hnt ⟨G',?_⟩ Q hQ
 refine hG.step (st':=⟨upd st.s d (.val (e_ row (16*d)).1),uA_ (upd st.o c (some (sz,es.set j (junk row c2)))) (newObjs (e_ row (16*d)).2.1)⟩) (by rw[hnt]; exact hd) (KeepX.refl _ _ _) hN (fun _ _=>rfl) (fun k hk=>.inl (by show upd st.s d _ k=_; rw[un_ hk])) ?_ (fun k m hk hdd hcc=>?_) (fun _ _ _ _ _=>rfl) (fun _ _ _ _=>⟨rfl,rfl⟩) ?_ ?_ ?_ ?_ ?_ ?_
 ·show SlotOk _ w G' d u' (upd st.s d _ d)
  rw[us_]
  exact CVal.frame hN (fun _ _=>rfl) (fun _ _=>rfl) r2
 ·refine hout m fun hm=>?_
  rw[(hfr m hm).2 k] at hcc; cases hcc
 ·intro m sz' es' hm
  rcases uAn_1 hnews.once hm with hmA | ⟨hmB,hm2⟩
  ·have hmn:m∈nm:=List.mem_map.2 ⟨_,hmA,rfl⟩
   obtain⟨_,_,g3,g4,g5⟩:=hnews.rep m sz' es' hmA
   rw[(hin m hmn).1,(hin m hmn).2]
   exact⟨RepC.frame hN (fun _ _=>rfl) _ _ _ (fun _ _=>rfl) g3,g4,fun k hk=>h4l k (hF2fp k (g5 k hk))⟩
  ·by_cases hmc:m=c
   ·subst hmc
    rw[us_] at hm2
    cases hm2
    rw[hout m hmB,hfc]
    have hl1:=RepCs.frame (N:=Nof κ st G w) (w':=w) hN (fun _ _=>rfl) _ _ _ (fun _ _=>rfl) e5
    have hl3:=RepCs.frame (N:=Nof κ st G w) (w':=w) hN (fun _ _=>rfl) _ _ _ (fun _ _=>rfl) e6
    have hl2:=RepC.frame (N:=Nof κ st G w) (w':=w) hN (fun _ _=>rfl) _ _ _ (fun _ _=>rfl) (RepC.junk row c2 F2 e4)
    have hwhole:=RepCs.append _ _ _ _ _ _ hl1 (by simp only[RepCs]; exact⟨_,_,_,_,rfl,rfl,hl2,hl3⟩:RepCs _ w (junk row c2::es.drop (j+1)) (c2++c3) ([]++F3))
    rw[← se_ hj,bh] at hwhole
    refine⟨?_,?_,fun k hk=>h4l k (hFcfp k hk)⟩
    ·simp only[RepC]
     refine .inr ⟨b,cap,cc,et,F1++F3,ccs,by rw[k1,List.length_set],by rw[List.length_set]; exact f2,f3,?_,f5,f6,by rw[List.length_set]; exact f7,?_,rfl⟩
     ·intro q hq
      rcases List.mem_or_eq_of_mem_set hq with hq | rfl
      ·exact f4 q hq
      ·rw[sj_1,← hrw]
       exact f4 _ (by rw[List.getD_eq_getElem?_getD,List.getElem?_eq_getElem hj]; exact List.getElem_mem _)
     ·rw[e1,aY]; exact hwhole
    ·refine List.Sublist.nodup ?_ hFn0
     rw[e2]
     refine List.Sublist.cons_cons _ ?_
     exact List.Sublist.append (List.sublist_append_left _ _) (List.Sublist.refl _)
   ·rw[un_ hmc] at hm2
    obtain⟨g1,g2,g3⟩:=hG.objs m sz' es' hm2
    rw[hout m hmB,hfo m hmB hmc]
    exact⟨RepC.frame hN (fun _ _=>rfl) _ _ _ (fun _ _=>rfl) g1,g2,g3⟩
 ·intro r hr; exact hG.boxes r (hbox r hr).2
 ·intro r r' h1 h2; exact hG.bb r r' (hbox r h1).2 (hbox r' h2).2
 ·intro r m p h1 h2 h3
  obtain⟨q,m',h5,h6⟩:=hfpsub m p h2 _ h3
  exact hG.bo r m' q (hbox r h1).2 h5 h6
 ·intro m m' p p' h1 h2 hne k hk hk'
  rcases uAn_1 hnews.once h1 with g1 | ⟨g1,g1'⟩<;>rcases uAn_1 hnews.once h2 with g2 | ⟨g2,g2'⟩
  ·have a1:m∈nm:=List.mem_map.2 ⟨_,g1,rfl⟩
   have a2:m'∈nm:=List.mem_map.2 ⟨_,g2,rfl⟩
   rw[(hin m a1).2] at hk; rw[(hin m' a2).2] at hk'
   exact hnews.apart m m' p p' g1 g2 hne k hk hk'
  ·have a1:m∈nm:=List.mem_map.2 ⟨_,g1,rfl⟩
   rw[(hin m a1).2] at hk
   have hkF:=(hnews.rep m p.1 p.2 g1).2.2.2.2 k hk
   by_cases hmc:m'=c
   ·subst hmc
    rw[hfc] at hk'
    have hd1:=List.nodup_append.1 hF'n
    have hd2:=List.nodup_append.1 hd1.1
    rcases List.mem_cons.1 hk' with rfl | hk'
    ·exact(List.nodup_cons.1 hFn0).1 (by rw[e2]; simp[hkF])
    ·rcases List.mem_append.1 hk' with hk' | hk'
     ·exact hd2.2.2 k hk' k hkF rfl
     ·exact hd1.2.2 k (by simp[hkF]) k hk' rfl
   ·rw[un_ hmc] at g2'; rw[hfo m' g2 hmc] at hk'
    exact hG.oo c m' _ p' hc g2' (Ne.symm hmc) k (hF2fp k hkF) hk'
  ·have a2:m'∈nm:=List.mem_map.2 ⟨_,g2,rfl⟩
   rw[(hin m' a2).2] at hk'
   have hkF:=(hnews.rep m' p'.1 p'.2 g2).2.2.2.2 k hk'
   by_cases hmc:m=c
   ·subst hmc
    rw[hfc] at hk
    have hd1:=List.nodup_append.1 hF'n
    have hd2:=List.nodup_append.1 hd1.1
    rcases List.mem_cons.1 hk with rfl | hk
    ·exact(List.nodup_cons.1 hFn0).1 (by rw[e2]; simp[hkF])
    ·rcases List.mem_append.1 hk with hk | hk
     ·exact hd2.2.2 k hk k hkF rfl
     ·exact hd1.2.2 k (by simp[hkF]) k hk rfl
   ·rw[un_ hmc] at g1'; rw[hfo m g1 hmc] at hk
    exact hG.oo c m _ p hc g1' (Ne.symm hmc) k (hF2fp k hkF) hk
  ·by_cases hmc:m=c
   ·subst hmc
    rw[hfc] at hk
    rw[un_ (Ne.symm hne)] at g2'; rw[hfo m' g2 (Ne.symm hne)] at hk'
    exact hG.oo m m' _ p' hc g2' hne k (hFcfp k hk) hk'
   ·rw[un_ hmc] at g1'; rw[hfo m g1 hmc] at hk
    by_cases hmc':m'=c
    ·subst hmc'
     rw[hfc] at hk'
     exact hG.oo m m' p _ g1' hc hne k hk (hFcfp k hk')
    ·rw[un_ hmc'] at g2'; rw[hfo m' g2 hmc'] at hk'
     exact hG.oo m m' p p' g1' g2' hne k hk hk'
 ·intro m hm
  refine hout m fun hmn=>?_
  have:=(hfr m hmn).1.1; omega
theorem IHr_{es:List PV}{e:Int}{K:PV→Prop}(h:0≤e∧e<es.length)(hK:K (es.getD e.toNat default)):IdxH es e K .mk:=⟨h,hK⟩
end
section
open Classical in
noncomputable def hdF(v:Value)(hs:List Value)(_:List Nat)(_:List Value):Value:=if hs=[v] then undef else .bool true
noncomputable def hdS(c:Nat)(v:Value):SlotV:=.fn [c] [] [] (hdF v)
theorem hFi_{v u:Value}{l:List Value}:undef=hdF v [u] [] l↔u=v:=by
 unfold hdF
 constructor
 ·intro h
  by_cases e:([u]:List Value)=[v]
  ·simpa using e
  ·rw[if_neg e] at h; simp[undef] at h
 ·rintro rfl; rw[if_pos rfl]
theorem to_2{κ:Ctx}{G:Gh}{st:St}{a:Act}{w:World}(h:RG κ G st a w){s:Nat}(hs:κ.nt≤s):a.tmps.getD s undef=undef:=by
 have:=h.nt
 simp[Array.getD,show ¬ s<a.tmps.size by omega]
theorem RG.split{κ:Ctx}{G:Gh}{st:St}{a:Act}{w:World}{c j c' s sz sz':Nat}{p:List Nat}{es es':List PV}(h:RG κ G st a w)(hc:st.o c=some (sz,es))(hj:j<es.length)(hok:(es.getD j default).okp p=true)
 (hp:(es.getD j default).at p=.sl true sz' es') (hn:st.noC c') (hs:κ.nt≤s) (hsd:st.s s=.dead):
 ∃ v,R κ ⟨upd st.s s (hdS c' v),upd (upd st.o c (some (sz,es.set j ((es.getD j default).setAt p (.lit v))))) c' (some (sz',es'))⟩ a w:=by
 obtain⟨h4,h4n,h4l⟩:=h.objs c sz es hc
 have h4':=h4
 simp only[RepC] at h4
 rcases h4 with⟨_,h4,_⟩ | ⟨b,cap,cc,et,F',ccs,f1,f2,f3,f4,f5,f6,f7,f8,f9⟩
 ·subst h4; simp at hj
 have f1':G.hd c=.slice (some ⟨b,0,none⟩) es.length cap:=by simpa using f1
 obtain⟨c1,c2,c3,F1,F2,F3,e1,e2,e3,e4,e5,e6⟩:=RCa_ es j ccs F' hj f8
 obtain⟨m1,m2,m3,H1,H2,H3,q1,q2,q3,q4,q5⟩:=RepC.path p _ c2 F2 hok e4
 rw[hp] at q4
 have hlen:=RepC.length _ _ _ q4
 simp only[aM] at hlen
 obtain⟨v,rfl⟩:=List.length_eq_one_iff.1 hlen
 have hone:=RepC.one _ _ _ q4 v (by simp)
 have hcn:c≠c':=by rintro rfl; rw[hn.1.2] at hc; cases hc
 let G':Gh:=⟨fun m=>if m=c' then v else G.hd m,fun m=>if m=c' then H2 else if m=c then b::(F1++(H1++H3)++F3) else G.fp m,G.ad⟩
 have g1:G'.hd c'=v:=if_pos rfl
 have g2:∀ m,m≠c'→G'.hd m=G.hd m:=fun m hm=>if_neg hm
 have g3:G'.fp c'=H2:=if_pos rfl
 have g4:G'.fp c=b::(F1++(H1++H3)++F3):=by show(if c=c' then H2 else if c=c then _ else _)=_; rw[if_neg hcn,if_pos rfl]
 have g5:∀ m,m≠c'→m≠c→G'.fp m=G.fp m:=fun m h1 h2=>by show(if m=c' then H2 else if m=c then _ else _)=_; rw[if_neg h1,if_neg h2]
 have hFc:∀ k,k∈G.fp c↔k∈b::(F1++(H1++H3)++F3)∨k∈H2:=fun k=>by
  rw[f9,e2,q2]; simp only[aU,aS]; grind
 have hnd:(b::(F1++(H1++H2++H3)++F3)).Nodup:=by rw[f9,e2,q2] at h4n; exact h4n
 have hrest:(b::(F1++(H1++H3)++F3)).Nodup∧H2.Nodup∧∀ k∈b::(F1++(H1++H3)++F3),k∉H2:=by
  have hp:(b::(F1++(H1++H2++H3)++F3)).Perm ((b::(F1++(H1++H3)++F3))++H2):=by
   simp only[List.cons_append,aY]
   refine List.Perm.cons _ (List.Perm.append_left _ (List.Perm.append_left _ ?_))
   rw[← aY H3 F3 H2]
   exact List.perm_append_comm
  have:=(hp.nodup_iff).1 hnd
  rw[List.nodup_append] at this
  exact⟨this.1,this.2.1,fun k h1 h2=>this.2.2 k h1 k h2 rfl⟩
 let st':St:=⟨upd st.s s (hdS c' v),upd (upd st.o c (some (sz,es.set j ((es.getD j default).setAt p (.lit v))))) c' (some (sz',es'))⟩
 have o1:st'.o c'=some (sz',es'):=by simp[st',upd]
 have o2:st'.o c=some (sz,es.set j ((es.getD j default).setAt p (.lit v))):=by simp[st',upd,hcn]
 have o3:∀ m,m≠c'→m≠c→st'.o m=st.o m:=fun m h1 h2=>by simp[st',upd,h1,h2]
 have s1:∀ k,k≠s→st'.s k=st.s k:=fun k hk=>by simp[st',upd,hk]
 have s2:st'.s s=hdS c' v:=by simp[st',upd]
 have hbx:∀ k,iB_ (st'.s k)=true→k≠s∧iB_ (st.s k)=true:=by
  intro k hk
  by_cases e:k=s
  ·subst e; rw[s2] at hk; cases hk
  ·rw[s1 k e] at hk; exact⟨e,hk⟩
 have hfp:∀ m q k,st'.o m=some q→k∈G'.fp m→∃ m' q',st.o m'=some q'∧k∈G.fp m'∧(m=m'∨(m=c'∧m'=c)):=by
  intro m q k hm hk
  by_cases h1:m=c'
  ·subst h1; rw[g3] at hk; exact⟨c,_,hc,(hFc k).2 (.inr hk),.inr ⟨rfl,rfl⟩⟩
  ·by_cases h2:m=c
   ·subst h2; rw[g4] at hk; exact⟨m,_,hc,(hFc k).2 (.inl hk),.inl rfl⟩
   ·rw[g5 m h1 h2] at hk; rw[o3 m h1 h2] at hm; exact⟨m,q,hm,hk,.inl rfl⟩
 have hN:∀ k,Nof κ st G w k→Nof κ st' G' w k:=by
  intro k hk
  refine⟨hk.1,?_⟩
  rintro (⟨r,h1,h2⟩ | ⟨m,q,h1,h2⟩)
  ·exact hk.2 (.inl ⟨r,(hbx r h1).2,h2⟩)
  ·obtain⟨m',q',a1,a2,_⟩:=hfp m q k h1 h2
   exact hk.2 (.inr ⟨m',q',a1,a2⟩)
 refine⟨v,G',⟨h.keep,h.defers,h.nt,fun k=>?_,?_,fun r hr=>h.boxes r (hbx r hr).2,fun r r' h1 h2=>h.bb r r' (hbx r h1).2 (hbx r' h2).2,?_,?_,?_⟩⟩
 ·by_cases e:k=s
  ·subst e
   show SlotOk _ w G' k _ (st'.s k)
   rw[s2,to_2 h hs]
   refine⟨[],by simp[RepCs],?_⟩
   show undef=hdF v [G'.hd c'] [] []
   rw[g1]; exact hFi_.2 rfl
  ·show SlotOk _ w G' k _ (st'.s k)
   rw[s1 k e]
   refine SlotOk.frame hN (fun _ _=>rfl) (fun m hm=>g2 m ?_) (fun _ _=>rfl) (fun _=>⟨rfl,rfl⟩) (h.slots k)
   rintro rfl
   rw[hn.2 k] at hm; cases hm
 ·intro m z zs hm
  change st'.o m=_ at hm
  by_cases h1:m=c'
  ·subst h1
   rw[o1] at hm
   cases hm
   rw[g1,g3]
   refine⟨RepC.frame hN (fun _ _=>rfl) _ _ _ (fun _ _=>rfl) q4,hrest.2.1,fun k hk=>h4l k ((hFc k).2 (.inr hk))⟩
  ·by_cases h2:m=c
   ·subst h2
    rw[o2] at hm
    cases hm
    rw[g2 m h1,g4]
    refine⟨?_,hrest.1,fun k hk=>h4l k ((hFc k).2 (.inl hk))⟩
    have hl1:=RepCs.frame (N:=Nof κ st G w) (w':=w) hN (fun _ _=>rfl) _ _ _ (fun _ _=>rfl) e5
    have hl3:=RepCs.frame (N:=Nof κ st G w) (w':=w) hN (fun _ _=>rfl) _ _ _ (fun _ _=>rfl) e6
    have hl2:=q5 (Nof κ st' G' w) w hN (fun _ _=>rfl) (fun _ _=>rfl) (.lit v) [v] [] (by simp[RepC,hone])
    have hsz:((es.getD j default).setAt p (.lit v)).size=sz:=by
     rw[← RepC.length _ _ _ hl2,← q1,RepC.length _ _ _ e4]
     exact f4 _ (by rw[List.getD_eq_getElem?_getD,List.getElem?_eq_getElem hj]; exact List.getElem_mem _)
    have hwhole:=RepCs.append _ _ _ _ _ _ hl1 (by simp only[RepCs]; exact⟨_,_,_,_,rfl,rfl,hl2,hl3⟩:RepCs _ w ((es.getD j default).setAt p (.lit v)::es.drop (j+1)) ((m1++[v]++m3)++c3) ((H1++[]++H3)++F3))
    rw[← se_ hj] at hwhole
    simp only[RepC]
    refine .inr ⟨b,cap,cc,et,F1++(H1++H3)++F3,ccs,by rw[f1',List.length_set],by rw[List.length_set]; exact f2,f3,?_,f5,f6,by rw[List.length_set]; exact f7,?_,rfl⟩
    ·intro q hq
     rcases List.mem_or_eq_of_mem_set hq with hq | rfl
     ·exact f4 q hq
     ·exact hsz
    ·rw[e1,q1]
     simpa only[bA,aY] using hwhole
   ·rw[o3 m h1 h2] at hm
    obtain⟨a1,a2,a3⟩:=h.objs m z zs hm
    rw[g2 m h1,g5 m h1 h2]
    exact⟨RepC.frame hN (fun _ _=>rfl) _ _ _ (fun _ _=>rfl) a1,a2,a3⟩
 ·intro r m q h1 h2 h3
  obtain⟨m',q',a1,a2,_⟩:=hfp m q _ h2 h3
  exact h.bo r m' q' (hbx r h1).2 a1 a2
 ·intro m m' q q' h1 h2 hne k hk hk'
  obtain⟨n1,r1,a1,a2,a3⟩:=hfp m q k h1 hk
  obtain⟨n2,r2,b1,b2,b3⟩:=hfp m' q' k h2 hk'
  by_cases e:n1=n2
  ·subst e
   rcases a3 with rfl | ⟨rfl,rfl⟩<;>rcases b3 with rfl | ⟨rfl,hb⟩
   ·exact hne rfl
   ·subst hb; rw[g4] at hk; rw[g3] at hk'; exact hrest.2.2 k hk hk'
   ·rw[g3] at hk; rw[g4] at hk'; exact hrest.2.2 k hk' hk
   ·exact hne rfl
  ·exact h.oo n1 n2 r1 r2 a1 b1 e k a2 b2
 ·intro m u hm
  have:=h.held m u hm
  have h10:=κ.hH m u hm
  rw[g2 m (by have:=hn.1.1; omega)]; exact this
theorem RG.meld{κ:Ctx}{G:Gh}{st:St}{a:Act}{w:World}{c j c' s sz sz':Nat}{p:List Nat}{v:Value}{es es':List PV}(h:RG κ G st a w)(hc:st.o c=some (sz,es))(hc':st.o c'=some (sz',es'))(hcn:c≠c')(hj:j<es.length)(hok:(es.getD j default).okp p=true)
 (hp:(es.getD j default).at p=.lit v) (hs:κ.nt≤s) (hsd:st.s s=hdS c' v):
 R κ ⟨upd st.s s .dead,upd (upd st.o c (some (sz,es.set j ((es.getD j default).setAt p (.sl true sz' es'))))) c' none⟩ a w:=by
 have hv:G.hd c'=v:=by
  have:=h.slots s
  rw[hsd,to_2 h hs] at this
  obtain⟨vals,_,h2⟩:=this
  exact hFi_.1 h2
 obtain⟨h4,h4n,h4l⟩:=h.objs c sz es hc
 obtain⟨k4,k4n,k4l⟩:=h.objs c' sz' es' hc'
 rw[hv] at k4
 have h4':=h4
 simp only[RepC] at h4
 rcases h4 with⟨_,h4,_⟩ | ⟨b,cap,cc,et,F',ccs,f1,f2,f3,f4,f5,f6,f7,f8,f9⟩
 ·subst h4; simp at hj
 have f1':G.hd c=.slice (some ⟨b,0,none⟩) es.length cap:=by simpa using f1
 obtain⟨c1,c2,c3,F1,F2,F3,e1,e2,e3,e4,e5,e6⟩:=RCa_ es j ccs F' hj f8
 obtain⟨m1,m2,m3,H1,H2,H3,q1,q2,q3,q4,q5⟩:=RepC.path p _ c2 F2 hok e4
 rw[hp] at q4
 simp only[RepC] at q4
 obtain⟨rfl,_,rfl⟩:=q4
 let G':Gh:=⟨G.hd,fun m=>if m=c then b::(F1++(H1++G.fp c'++H3)++F3) else G.fp m,G.ad⟩
 have g4:G'.fp c=b::(F1++(H1++G.fp c'++H3)++F3):=if_pos rfl
 have g5:∀ m,m≠c→G'.fp m=G.fp m:=fun m h2=>if_neg h2
 have hFc:∀ k,k∈b::(F1++(H1++G.fp c'++H3)++F3)↔k∈G.fp c∨k∈G.fp c':=fun k=>by
  rw[f9,e2,q2]; simp only[aU,aS]; grind
 have hnd:(b::(F1++(H1++G.fp c'++H3)++F3)).Nodup:=by
  have hp:(b::(F1++(H1++G.fp c'++H3)++F3)).Perm (G.fp c++G.fp c'):=by
   rw[f9,e2,q2]
   simp only[List.cons_append,aY,bh]
   refine List.Perm.cons _ (List.Perm.append_left _ (List.Perm.append_left _ ?_))
   rw[← aY H3 F3]
   exact List.perm_append_comm
  refine(hp.nodup_iff).2 ?_
  rw[List.nodup_append]
  exact⟨h4n,k4n,fun x hx y hy e=>h.oo c c' _ _ hc hc' hcn x hx (e▸hy)⟩
 let st':St:=⟨upd st.s s .dead,upd (upd st.o c (some (sz,es.set j ((es.getD j default).setAt p (.sl true sz' es'))))) c' none⟩
 have o1:st'.o c'=none:=by simp[st',upd]
 have o2:st'.o c=some (sz,es.set j ((es.getD j default).setAt p (.sl true sz' es'))):=by simp[st',upd,hcn]
 have o3:∀ m,m≠c'→m≠c→st'.o m=st.o m:=fun m h1 h2=>by simp[st',upd,h1,h2]
 have s1:∀ k,k≠s→st'.s k=st.s k:=fun k hk=>by simp[st',upd,hk]
 have s2:st'.s s=.dead:=by simp[st',upd]
 have hbx:∀ k,iB_ (st'.s k)=true→k≠s∧iB_ (st.s k)=true:=by
  intro k hk
  by_cases e:k=s
  ·subst e; rw[s2] at hk; cases hk
  ·rw[s1 k e] at hk; exact⟨e,hk⟩
 have hfp:∀ m q k,st'.o m=some q→k∈G'.fp m→m≠c'∧((m≠c∧st.o m=some q∧k∈G.fp m)∨(m=c∧(k∈G.fp c∨k∈G.fp c'))):=by
  intro m q k hm hk
  by_cases h1:m=c'
  ·subst h1; rw[o1] at hm; cases hm
  ·refine⟨h1,?_⟩
   by_cases h2:m=c
   ·subst h2; rw[g4] at hk; exact .inr ⟨rfl,(hFc k).1 hk⟩
   ·rw[g5 m h2] at hk; rw[o3 m h1 h2] at hm; exact .inl ⟨h2,hm,hk⟩
 have hN:∀ k,Nof κ st G w k→Nof κ st' G' w k:=by
  intro k hk
  refine⟨hk.1,?_⟩
  rintro (⟨r,h1,h2⟩ | ⟨m,q,h1,h2⟩)
  ·exact hk.2 (.inl ⟨r,(hbx r h1).2,h2⟩)
  ·rcases (hfp m q k h1 h2).2 with⟨_,a1,a2⟩ | ⟨rfl,a2 | a2⟩
   ·exact hk.2 (.inr ⟨m,q,a1,a2⟩)
   ·exact hk.2 (.inr ⟨m,_,hc,a2⟩)
   ·exact hk.2 (.inr ⟨c',_,hc',a2⟩)
 refine⟨G',⟨h.keep,h.defers,h.nt,fun k=>?_,?_,fun r hr=>h.boxes r (hbx r hr).2,fun r r' h1 h2=>h.bb r r' (hbx r h1).2 (hbx r' h2).2,?_,?_,h.held⟩⟩
 ·by_cases e:k=s
  ·subst e
   show SlotOk _ w G' k _ (st'.s k)
   rw[s2]; trivial
  ·show SlotOk _ w G' k _ (st'.s k)
   rw[s1 k e]
   exact SlotOk.frame hN (fun _ _=>rfl) (fun m hm=>rfl) (fun _ _=>rfl) (fun _=>⟨rfl,rfl⟩) (h.slots k)
 ·intro m z zs hm
  change st'.o m=_ at hm
  by_cases h1:m=c'
  ·subst h1; rw[o1] at hm; cases hm
  ·by_cases h2:m=c
   ·subst h2
    rw[o2] at hm
    cases hm
    rw[g4]
    refine⟨?_,hnd,fun k hk=>?_⟩
    ·have hl1:=RepCs.frame (N:=Nof κ st G w) (w':=w) hN (fun _ _=>rfl) _ _ _ (fun _ _=>rfl) e5
     have hl3:=RepCs.frame (N:=Nof κ st G w) (w':=w) hN (fun _ _=>rfl) _ _ _ (fun _ _=>rfl) e6
     have hl2:=q5 (Nof κ st' G' w) w hN (fun _ _=>rfl) (fun _ _=>rfl) (.sl true sz' es') [v] (G.fp c') (RepC.frame hN (fun _ _=>rfl) _ _ _ (fun _ _=>rfl) k4)
     have hsz:((es.getD j default).setAt p (.sl true sz' es')).size=sz:=by
      rw[← RepC.length _ _ _ hl2,← q1,RepC.length _ _ _ e4]
      exact f4 _ (by rw[List.getD_eq_getElem?_getD,List.getElem?_eq_getElem hj]; exact List.getElem_mem _)
     have hwhole:=RepCs.append _ _ _ _ _ _ hl1 (by simp only[RepCs]; exact⟨_,_,_,_,rfl,rfl,hl2,hl3⟩:RepCs _ w ((es.getD j default).setAt p (.sl true sz' es')::es.drop (j+1)) ((m1++[v]++m3)++c3) ((H1++G.fp c'++H3)++F3))
     rw[← se_ hj] at hwhole
     simp only[RepC]
     refine .inr ⟨b,cap,cc,et,F1++(H1++G.fp c'++H3)++F3,ccs,by show [G.hd m]=_; rw[f1',List.length_set],by rw[List.length_set]; exact f2,f3,?_,f5,f6,by rw[List.length_set]; exact f7,?_,rfl⟩
     ·intro q hq
      rcases List.mem_or_eq_of_mem_set hq with hq | rfl
      ·exact f4 q hq
      ·exact hsz
     ·rw[e1,q1]
      simpa only[aY] using hwhole
    ·rcases (hFc k).1 hk with hk | hk
     ·exact h4l k hk
     ·exact k4l k hk
   ·rw[o3 m h1 h2] at hm
    obtain⟨a1,a2,a3⟩:=h.objs m z zs hm
    rw[g5 m h2]
    exact⟨RepC.frame hN (fun _ _=>rfl) _ _ _ (fun _ _=>rfl) a1,a2,a3⟩
 ·intro r m q h1 h2 h3
  rcases (hfp m q _ h2 h3).2 with⟨_,a1,a2⟩ | ⟨rfl,a2 | a2⟩
  ·exact h.bo r m q (hbx r h1).2 a1 a2
  ·exact h.bo r m _ (hbx r h1).2 hc a2
  ·exact h.bo r c' _ (hbx r h1).2 hc' a2
 ·intro m m' q q' h1 h2 hne k hk hk'
  obtain⟨n1,a⟩:=hfp m q k h1 hk
  obtain⟨n2,a'⟩:=hfp m' q' k h2 hk'
  rcases a with⟨_,a1,a2⟩ | ⟨rfl,a2⟩<;>rcases a' with⟨_,b1,b2⟩ | ⟨rfl,b2⟩
  ·exact h.oo m m' q q' a1 b1 hne k a2 b2
  ·rcases b2 with b2 | b2
   ·exact h.oo m m' q _ a1 hc hne k a2 b2
   ·exact h.oo m c' q _ a1 hc' n1 k a2 b2
  ·rcases a2 with a2 | a2
   ·exact h.oo m m' _ q' hc b1 hne k a2 b2
   ·exact h.oo c' m' _ q' hc' b1 (Ne.symm n2) k a2 b2
  ·exact hne rfl
section
variable{P:Program}{nt:Nat}{F:St→Prop}{n:Nat}{st:St}{k:List Fr}
theorem MgF.split{l:Array Oper}{id:Nat}{dr:Bool}(c j c' s:Nat)(p:List Nat){sz sz':Nat}{es es':List PV}(es1:Value→List PV)(he:∀ v,es.set j ((es.getD j default).setAt p (.lit v))=es1 v)(hc:st.o c=some (sz,es)∧st.s s=.dead)(hq:j<es.length∧(es.getD j default).okp p=true∧(es.getD j default).at p=.sl true sz' es')(hs:nt≤s)
 (h:st.noC c'∧∀ v,MgF P nt F (n+1) (.code (.region id l dr)) ⟨upd st.s s (hdS c' v),upd (upd st.o c (some (sz,es1 v))) c' (some (sz',es'))⟩ k):MgF P nt F (n+1) (.code (.region id l dr)) st k:=by
 show VC P nt (.region id l dr) st (popQ P nt F k)
 intro κ a w hnt hR
 obtain⟨G,hG⟩:=hR
 obtain⟨v,hR'⟩:=hG.split hc.1 hq.1 hq.2.1 hq.2.2 h.1 (by rw[hnt]; exact hs) hc.2
 rw[he v] at hR'
 exact(h.2 v:VC P nt (.region id l dr) _ (popQ P nt F k)) κ a w hnt hR'
theorem MgF.meld{l:Array Oper}{id:Nat}{dr:Bool}(c j c' s:Nat)(p:List Nat)(v:Value){sz sz':Nat}{es es':List PV}(es1:List PV)(he:es.set j ((es.getD j default).setAt p (.sl true sz' es'))=es1)(hc:st.o c=some (sz,es)∧st.o c'=some (sz',es')∧st.s s=hdS c' v)(hcn:c≠c')(hq:j<es.length∧(es.getD j default).okp p=true∧(es.getD j default).at p=.lit v)(hs:nt≤s)
 (h:MgF P nt F (n+1) (.code (.region id l dr)) ⟨upd st.s s .dead,upd (upd st.o c (some (sz,es1))) c' none⟩ k):MgF P nt F (n+1) (.code (.region id l dr)) st k:=by
 show VC P nt (.region id l dr) st (popQ P nt F k)
 intro κ a w hnt hR
 obtain⟨G,hG⟩:=hR
 have:=hG.meld hc.1 hc.2.1 hcn hq.1 hq.2.1 hq.2.2 (by rw[hnt]; exact hs) hc.2.2
 rw[he] at this
 exact(h:VC P nt (.region id l dr) _ (popQ P nt F k)) κ a w hnt this--(hG.meld hc.1 hc.2.1 hcn hq.1 hq.2.1 hq.2.2 (by rw [hnt]; exact hs) hc.2.2)
end
@[push_cast] theorem range_14:List.range 14=[0,1,2,3,4,5,6,7,8,9,10,11,12,13]:=rfl
theorem idx0{α:Type}{l:List α}{x:α}(h:idx l 0=some x):∃ xs,l=x::xs:=by
 cases l with
 | nil=>simp[idx] at h
 | cons y ys=>simp[idx] at h; exact⟨ys,by rw[h]⟩
theorem EldH.hd{a:PV}{l:List PV}{K:PV→Prop}(hK:K a):EldH (a::l) 0 K .mk:=⟨Nat.succ_pos _,hK⟩
end
end Go.Av
