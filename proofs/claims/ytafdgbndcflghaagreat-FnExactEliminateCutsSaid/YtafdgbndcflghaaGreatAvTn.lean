/- Lemmas of the proof; each says what it shows. -/
import Derived.Test.YtafdgbndcflghaaGreatAvZ
set_option linter.unusedSimpArgs false
set_option linter.unusedVariables false
set_option linter.defProp false
namespace Go.Av
open Bool renaming and_eq_true→aA
open CV renaming wholes→aC,pvos→aF,namess→az,pvws→aM
open List renaming append_nil→aZ,mem_append→aT,mem_cons→bg
open RepC renaming frame→aX
section

theorem RnR_1{κ:Ctx}{G:Gh}{st:St}{a:Act}{w w':World}{d r:Nat}{v:Value}{F D:List Nat}{lo hi:Nat}{news:List (Nat×(Nat×List PV))}{N':Nat→Prop}{hdv:Nat→Value}{fpv:Nat→List Nat}{sv bv:SlotV}
 (h:RG κ G st a w) (hd:d<κ.nt) (hrd:r≠d) (hbr:iB_ (st.s r)=true) (hbv:iB_ bv=true) (hD:∀ c∈D,(st.o c).isSome=true) (hb:KeepX (G.ad r::fps G.fp D) w.heap.size w w') (hF:∀ b∈F,(w.heap.size≤b∨b∈fps G.fp D)∧b<w'.heap.size)
 (hN':∀ b,N' b→Nof κ st G w b∨((w.heap.size≤b∨b∈fps G.fp D)∧b<w'.heap.size∧b∉F)) (hnews:News N' w' hdv fpv F lo hi news) (hfresh:∀ n∈news.map (·.1),st.noC n) (hnb:iB_ sv=false)
 (hsv:∀ (N:Nat→Prop) (G':Gh),(∀ b,N' b→N b)→(∀ n,lo≤n→n<hi→G'.hd n=hdv n)→SlotOk N w' G' d v sv)
 (hbok:∀ (N:Nat→Prop) (G':Gh),(∀ b,N' b→N b)→(∀ b,Nof κ st G w b→N b)→(∀ n,lo≤n→n<hi→G'.hd n=hdv n)→G'.ad=G.ad→SlotOk N w' G' r (a.tmps.getD r undef) bv):
 R κ { s:=upd (upd st.s r bv) d sv,o:=uA_ st.o (deadObjs D++newObjs news) } (a.put (some d) v) w':=by
 have hbs:=h.keep.size
 let G':Gh:={ hd:=fun n=>if n∈news.map (·.1) then hdv n else G.hd n,fp:=fun n=>if n∈news.map (·.1) then fpv n else G.fp n,ad:=G.ad }
 have hDin:∀ b,b∈fps G.fp D→∃ c p,c∈D∧st.o c=some p∧b∈G.fp c:=by
  intro b hb'
  obtain⟨c,hc,hm⟩:=mf_.1 hb'
  obtain⟨p,hp⟩:=Option.isSome_iff_exists.1 (hD c hc)
  exact⟨c,p,hc,hp,hm⟩
 have hDlt:∀ b,b∈fps G.fp D→(κ.w0.heap.size≤b∨b∈κ.L)∧b<w.heap.size:=by
  intro b hb'
  obtain⟨c,p,_,hp,hm⟩:=hDin b hb'
  exact(h.objs c p.1 p.2 hp).2.2 b hm
 have hlt:∀ b,Nof κ st G w b→b<w.heap.size:=fun b hb=>hb.lt h
 have hNX:∀ b,Nof κ st G w b→b∉fps G.fp D:=by
  intro b hb' hm
  obtain⟨c,p,_,hp,hm⟩:=hDin b hm
  exact hb'.2 (.inr ⟨c,p,hp,hm⟩)
 have hNr:∀ b,Nof κ st G w b→b≠G.ad r:=fun b hb' e=>hb'.2 (.inl ⟨r,hbr,e⟩)
 have hbox:∀ k,iB_ (upd (upd st.s r bv) d sv k)=true→iB_ (st.s k)=true∧k≠d:=by
  intro k hk
  simp only[upd] at hk
  split at hk
  ·rw[hnb] at hk; cases hk
  ·rename_i hkd
   refine⟨?_,hkd⟩
   split at hk
   ·rename_i e; rw[e]; exact hbr
   ·exact hk
 have hbX:∀ r,iB_ (st.s r)=true→G.ad r∉fps G.fp D:=by
  intro r hr hm
  obtain⟨c,p,_,hp,hm⟩:=hDin _ hm
  exact h.bo r c p hr hp hm
 have hob:∀ c sz es,uA_ st.o (deadObjs D++newObjs news) c=some (sz,es)→(c∈news.map (·.1)∧(c,(sz,es))∈news)∨(c∉news.map (·.1)∧c∉D∧st.o c=some (sz,es)):=by
  intro c sz es hc
  rw[uAa_] at hc
  by_cases hm:c∈news.map (·.1)
  ·left
   refine⟨hm,?_⟩
   obtain⟨⟨n,p⟩,h1,rfl⟩:=List.mem_map.1 hm
   have h2:(n,some p)∈newObjs news:=List.mem_map.2 ⟨(n,p),h1,rfl⟩
   rw[uAm_ _ _ n (some p) (by rw[nOk_]; exact hnews.once) h2] at hc
   cases hc; exact h1
  ·right
   rw[uAn_ _ _ _ (by rw[nOk_]; exact hm),uAd_] at hc
   by_cases hcD:c∈D
   ·simp[hcD] at hc
   ·simp only[hcD,if_false] at hc; exact⟨hm,hcD,hc⟩
 have hoX:∀ c sz es,c∉D→st.o c=some (sz,es)→∀ b∈G.fp c,b∉fps G.fp D:=by
  intro c sz es hcD ho b hb' hm
  obtain⟨c',p',hc',hp',hm'⟩:=hDin b hm
  exact h.oo c c' _ p' ho hp' (fun e=>hcD (e▸hc')) b hb' hm'
 have hNw:∀ b,Nof κ st G w b→Nof κ { s:=upd (upd st.s r bv) d sv,o:=uA_ st.o (deadObjs D++newObjs news) } G' w' b:=by
  intro b hb'
  have hbl:=hlt b hb'
  refine⟨?_,fun hp=>?_⟩
  ·rcases hb'.1 with h1 | h1
   ·exact .inl h1
   ·exact .inr ⟨h1.1,Nat.lt_of_lt_of_le h1.2 hb.size⟩
  ·rcases hp with⟨k,h1,h2⟩ | ⟨c,⟨sz,es⟩,h1,h2⟩
   ·exact hb'.2 (.inl ⟨k,(hbox k h1).1,h2⟩)
   ·rcases hob c sz es h1 with⟨hm,hin⟩ | ⟨hm,_,ho⟩
    ·simp only[G',hm,if_true] at h2
     rcases (hF b ((hnews.rep c sz es hin).2.2.2.2 b h2)).1 with h3 | h3
     ·omega
     ·exact hNX b hb' h3
    ·simp only[G',hm,if_false] at h2
     exact hb'.2 (.inr ⟨c,(sz,es),ho,h2⟩)
 have hNn:∀ b,N' b→Nof κ { s:=upd (upd st.s r bv) d sv,o:=uA_ st.o (deadObjs D++newObjs news) } G' w' b:=by
  intro b hb'
  rcases hN' b hb' with h1 | ⟨h1,h2,h3⟩
  ·exact hNw b h1
  ·refine⟨.inr ⟨?_,h2⟩,fun hp=>?_⟩
   ·rcases h1 with h1 | h1
    ·exact .inl (by omega)
    ·exact(hDlt b h1).1
   ·rcases hp with⟨k,g1,g2⟩ | ⟨c,⟨sz,es⟩,g1,g2⟩
    ·simp only[G'] at g2
     rcases h1 with h1 | h1
     ·have:=(h.boxes k (hbox k g1).1).2; omega
     ·exact hbX k (hbox k g1).1 (g2▸h1)
    ·rcases hob c sz es g1 with⟨hm,hin⟩ | ⟨hm,hcD,ho⟩
     ·simp only[G',hm,if_true] at g2
      exact h3 ((hnews.rep c sz es hin).2.2.2.2 b g2)
     ·simp only[G',hm,if_false] at g2
      rcases h1 with h1 | h1
      ·have:=((h.objs c sz es ho).2.2 b g2).2; omega
      ·exact hoX c sz es hcD ho b g2 h1
 have hw:∀ b,b<w.heap.size→b≠G.ad r→b∉fps G.fp D→w'.heap[b]?=w.heap[b]?:=fun b h1 h2 h3=>hb.block b h1 (by simp[h2,h3])
 have hkeep:KeepX κ.L κ.w0.heap.size w w':=⟨hb.os,hb.tape,hb.output,hb.size,fun k hk hkL=>hw k (by omega) (fun e=>(h.boxes r hbr).1.elim (fun h1=>by omega) (fun h1=>hkL (e▸h1))) (fun hm=>(hDlt k hm).1.elim (fun h1=>by omega) hkL),hb.drawn⟩
 have hG':∀ n,lo≤n→n<hi→G'.hd n=hdv n:=fun n h1 h2=>by simp only[G',hnews.all n h1 h2,if_true]
 refine⟨G',h.keep.trans hkeep,by simpa[Act.put] using h.defers,by simpa[Act.put] using h.nt,?_,?_,?_,?_,?_,?_,?_⟩
 ·intro k
  rw[gDp_ (by rw[h.nt]; exact hd)]
  by_cases hkd:k=d
  ·subst hkd
   have:upd (upd st.s r bv) k sv k=sv:=us_ _ _ _
   simp only[this,if_true]
   exact hsv _ G' hNn hG'
  ·rw[if_neg hkd]
   have e1:upd (upd st.s r bv) d sv k=upd st.s r bv k:=un_ hkd
   simp only[e1]
   by_cases hkr:k=r
   ·subst hkr
    have:upd st.s k bv k=bv:=us_ _ _ _
    rw[this]
    exact hbok _ G' hNn hNw hG' rfl
   ·have:upd st.s r bv k=st.s k:=un_ hkr
    rw[this]
    refine SlotOk.frame (G:=G) (G':=G') hNw (fun b hb'=>hw b (hlt b hb') (hNr b hb') (hNX b hb')) (fun c hc=>?_) (fun _ _=>rfl) (fun hbk=>⟨rfl,hw _ (h.boxes k hbk).2 (fun e=>hkr (h.bb k r hbk hbr e)) (hbX k hbk)⟩) (h.slots k)
    by_cases hm:c∈news.map (·.1)
    ·rw[(hfresh c hm).2 k] at hc; cases hc
    ·simp only[G',hm,if_false]
 ·intro c sz es hc
  rcases hob c sz es hc with⟨hm,hin⟩ | ⟨hm,hcD,ho⟩
  ·obtain⟨g1,g2,g3,g4,g5⟩:=hnews.rep c sz es hin
   simp only[G',hm,if_true]
   refine⟨aX hNn (fun _ _=>rfl) _ _ _ (fun _ _=>rfl) g3,g4,fun b hb'=>⟨?_,(hF b (g5 b hb')).2⟩⟩
   rcases (hF b (g5 b hb')).1 with h1 | h1
   ·exact .inl (by omega)
   ·exact(hDlt b h1).1
  ·simp only[G',hm,if_false]
   obtain⟨g1,g2,g3⟩:=h.objs c sz es ho
   exact⟨aX hNw (fun b hb'=>hw b (hlt b hb') (hNr b hb') (hNX b hb')) _ _ _ (fun b hb'=>hw b (g3 b hb').2 (fun e=>h.bo r c _ hbr ho (e▸hb')) (hoX c sz es hcD ho b hb')) g1,g2,fun b hb'=>⟨(g3 b hb').1,Nat.lt_of_lt_of_le (g3 b hb').2 hb.size⟩⟩
 ·intro k hk
  have:=h.boxes k (hbox k hk).1
  exact⟨this.1,Nat.lt_of_lt_of_le this.2 hb.size⟩
 ·exact fun k k' h1 h2=>h.bb k k' (hbox k h1).1 (hbox k' h2).1
 ·intro k c ⟨sz,es⟩ h1 h2 hm'
  rcases hob c sz es h2 with⟨hm,hin⟩ | ⟨hm,hcD,ho⟩
  ·simp only[G',hm,if_true] at hm'
   rcases (hF _ ((hnews.rep c sz es hin).2.2.2.2 _ hm')).1 with g1 | g1
   ·have g2:=(h.boxes k (hbox k h1).1).2; omega
   ·exact hbX k (hbox k h1).1 g1
  ·simp only[G',hm,if_false] at hm'
   exact h.bo k c (sz,es) (hbox k h1).1 ho hm'
 ·intro c c' ⟨sz,es⟩ ⟨sz',es'⟩ h1 h2 hne b hb1 hb2
  rcases hob c sz es h1 with⟨hm,hin⟩ | ⟨hm,hcD,ho⟩<;>rcases hob c' sz' es' h2 with⟨hm',hin'⟩ | ⟨hm',hcD',ho'⟩
  ·simp only[G',hm,hm',if_true] at hb1 hb2
   exact hnews.apart c c' _ _ hin hin' hne b hb1 hb2
  ·simp only[G',hm,hm',if_true,if_false] at hb1 hb2
   rcases (hF _ ((hnews.rep c sz es hin).2.2.2.2 _ hb1)).1 with g1 | g1
   ·have g2:=((h.objs c' sz' es' ho').2.2 b hb2).2; omega
   ·exact hoX c' sz' es' hcD' ho' b hb2 g1
  ·simp only[G',hm,hm',if_true,if_false] at hb1 hb2
   rcases (hF _ ((hnews.rep c' sz' es' hin').2.2.2.2 _ hb2)).1 with g1 | g1
   ·have g2:=((h.objs c sz es ho).2.2 b hb1).2; omega
   ·exact hoX c sz es hcD ho b hb1 g1
  ·simp only[G',hm,hm',if_false] at hb1 hb2
   exact h.oo c c' _ _ ho ho' hne b hb1 hb2
 ·intro c v' hc
  have hm:c∉news.map (·.1):=fun hm=>by have:=(hfresh c hm).1.1; have:=κ.hH c v' hc; omega
  simp only[G',hm,if_false]
  exact h.held c v' hc

inductive BV where
 | pv (p:PV)
 | mp (es:List MEnt) (clock:Nat)
instance:Inhabited BV:=⟨.mp [] 0⟩
def RepBV(N:Nat→Prop)(w:World)(b:Nat)(F:List Nat):BV→Prop
 | .pv p=>∃ cs e,w.heap[b]?=some (.cells cs.toArray e (0,0))∧RepC N w p cs F
 | .mp kv clock=>F=[]∧HCok N w (fun _=>undef) (fun _=>0) b (.mp kv clock)
def BV.hc(c:Nat):BV→HC
 | .pv p=>.cv (e_1 p c).1
 | .mp kv clock=>.mp kv clock
def BV.objs(c:Nat):BV→List (Nat×(Nat×List PV))
 | .pv p=>(e_1 p c).2.1
 | .mp _ _=>[]
def BV.hi(c:Nat):BV→Nat
 | .pv p=>(e_1 p c).2.2
 | .mp _ _=>c
def BV.noView:BV→Bool
 | .pv p=>p.noView
 | .mp kv _=>kv.all fun e=>e.2.1.noView
theorem MapIs.noView{N N':Nat→Prop}{w:World}:∀ {kv:List MEnt} {es:List MapEntry},(kv.all fun e=>e.2.1.noView)=true→MapIs N w kv es→MapIs N' w kv es
 | [],_,_,h=>h
 | (k,p,s)::kv,es,hv,h=>by
  simp only[List.all_cons,aA] at hv
  obtain⟨e,es',h1,h2,h3,h4,h5⟩:=h
  exact⟨e,es',h1,h2,h3,RepV.noView hv.1 h4,MapIs.noView hv.2 h5⟩
theorem RepBV.noView{N N':Nat→Prop}{w:World}{b:Nat}{F:List Nat}{x:BV}(hv:x.noView=true)(h:RepBV N w b F x):RepBV N' w b F x:=by
 cases x with
 | pv p=>obtain⟨cs,e,h1,h2⟩:=h; exact⟨cs,e,h1,RepC.noView p cs F hv h2⟩
 | mp kv clock=>obtain⟨hF,es,h1,h2,h3⟩:=h; exact⟨hF,es,h1,h2.noView hv,h3⟩
theorem eBo_{N:Nat→Prop}{w:World}{b:Nat}{F:List Nat}{x:BV}{c:Nat}(h:RepBV N w b F x)(hn:F.Nodup):
 ∃ hdv fpv,News N w hdv fpv F c (x.hi c) (x.objs c)∧∀ (N':Nat→Prop) (hd:Nat→Value) (ad:Nat→Nat),(∀ b,N b→N' b)→(∀ n,c≤n→n<x.hi c→hd n=hdv n)→HCok N' w hd ad b (x.hc c):=by
 cases x with
 | pv p=>
  obtain⟨cs,e,h1,h2⟩:=h
  obtain⟨hdv,fpv,n1,r1⟩:=eo_1 p cs F c h2 hn
  exact⟨hdv,fpv,n1,fun N' hd ad hN hh=>⟨cs,e,h1,RepCV.frame hN (fun _ _=>rfl) _ _ (fun _ _=>rfl) (r1 hd hh)⟩⟩
 | mp kv clock=>
  obtain⟨rfl,es,h1,h2,h3⟩:=h
  refine⟨fun _=>undef,fun _=>[],⟨by simp[BV.objs],by simp[BV.objs],by simp[BV.objs],Nat.le_refl _,fun n g1 g2=>absurd g2 (by simp[BV.hi]; omega)⟩,fun N' hd ad hN _=>⟨es,h1,MapIs.frame hN (fun _ _=>rfl) kv es h2,h3⟩⟩

def SatH(P:Program)(f:FuncId)(pre post:List PV)(sh:Sh)(ps:List PV)(x x':BV)(res:PV):Prop:=
 CI_ P f∧∀ (w:World) (N:Nat→Prop) (v1 v2 vals:List Value) (b:Nat) (Fx Fs:List Nat),(∀ c,N c→c<w.heap.size∧c∉b::(Fx++Fs))→(b::(Fx++Fs)).Nodup→(∀ c∈b::(Fx++Fs),c<w.heap.size)→
  RepCs N w ps vals []→RepBV N w b Fx x→RepVs N w (pre++post) (v1++v2) Fs→v1.length=pre.length→
  Calls P f (v1++sh.val b vals::v2).toArray w fun e w'=>∃ v F Fx',e=.returned v∧KeepX (b::(Fx++Fs)) w.heap.size w w'∧
   RepBV (fun c=>N c∨((w.heap.size≤c∨c∈Fx++Fs)∧c<w'.heap.size∧c∉Fx'++F)) w' b Fx' x'∧RepR (fun c=>N c∨((w.heap.size≤c∨c∈Fx++Fs)∧c<w'.heap.size∧c∉Fx'++F)) w' res v F∧
   (b::(Fx'++F)).Nodup∧∀ c∈Fx'++F,(w.heap.size≤c∨c∈Fx++Fs)∧c<w'.heap.size

def hS_1(sh:Sh)(ps:List PV):HC→SlotV
 | .cv x=>match sh with | .ptr=>.box x | _=>.hold sh ps (.cv x)
 | h=>.hold sh ps h
def hH_:SlotV→Option HC
 | .box x=>some (.cv x)
 | .hold _ _ h=>some h
 | _=>none
theorem hHi_{s:SlotV}{h:HC}(e:hH_ s=some h):iB_ s=true:=by
 cases s<;>first | rfl | (simp[hH_] at e)
theorem hHo_{N:Nat→Prop}{w:World}{G:Gh}{k:Nat}{v:Value}{s:SlotV}{h:HC}(e:hH_ s=some h)(hs:SlotOk N w G k v s):HCok N w G.hd G.ad (G.ad k) h:=by
 cases s<;>simp only[hH_,Option.some.injEq,reduceCtorEq] at e
 ·subst e; obtain⟨_,cs,e',h1,h2⟩:=hs; exact⟨cs,e',h1,h2⟩
 ·subst e; obtain⟨_,_,_,h3⟩:=hs; exact h3
theorem hSo_{N:Nat→Prop}{w:World}{G:Gh}{k:Nat}{v:Value}{sh:Sh}{ps:List PV}{vals:List Value}{h:HC}(hps:RepCs N w ps vals [])(hv:v=sh.val (G.ad k) vals)(hh:HCok N w G.hd G.ad (G.ad k) h):SlotOk N w G k v (hS_1 sh ps h):=by
 cases h with
 | cv x=>cases sh<;>first | exact⟨hv,hh⟩ | exact⟨vals,hps,hv,hh⟩
 | mp _ _=>exact⟨vals,hps,hv,hh⟩
 | it _ _ _ _=>exact⟨vals,hps,hv,hh⟩
def updV:Nat→List SlotV→(Nat→SlotV)→Nat→SlotV
 | _,[],f=>f
 | i,x::xs,f=>updV (i+1) xs (upd f i x)
theorem uVa_:∀ (xs:List SlotV) (i:Nat) (f:Nat→SlotV) (k:Nat),updV i xs f k=if k<i then f k else match xs[k-i]? with | some x=>x | none=>f k
 | [],i,f,k=>by simp[updV]
 | x::xs,i,f,k=>by
  rw[updV,uVa_ xs (i+1)]
  by_cases h:k<i
  ·have:k<i+1:=by omega
   rw[if_pos this,if_pos h,ua_,if_neg (by omega)]
  ·rw[if_neg h]
   by_cases h1:k=i
   ·subst h1; rw[if_pos (by omega)]; simp[ua_]
   ·rw[if_neg (by omega)]
    have e:k-i=(k-(i+1))+1:=by omega
    rw[e,List.getElem?_cons_succ,ua_,if_neg h1]
def lnkF(hs:List Value)(as:List Nat)(_:List Value):Value:=
 match hs,as with
 | [.pointer (some ⟨b,_,_⟩)],[a]=>if b=a then undef else .bool true
 | _,_=>.bool true
def gh(r:Nat):SlotV:=.fn [10500] [r] [] lnkF
def aS_1(pre post:List PV)(sh:Sh)(ps:List PV)(x:BV):St:=
 { s:=upd (updV 0 (((e_ (pre++post) (x.hi 9000)).1.take pre.length).map .val++hS_1 sh ps (x.hc 9000)::((e_ (pre++post) (x.hi 9000)).1.drop pre.length).map .val) (fun _=>.dead)) 20000 (gh pre.length),
   o:=uA_ (fun _=>none) (newObjs (x.objs 9000++(e_ (pre++post) (x.hi 9000)).2.1)) }
def BF_(st:St)(k:Nat)(ns:List Nat)(x':BV):Prop:=
 match hH_ (st.s k) with
 | some (.cv y)=>y.whole st.o=true∧(y.names++ns).Nodup∧x'=.pv (y.pvo st.o)
 | some (.mp kv clock)=>ns.Nodup∧x'=.mp kv clock
 | _=>False
def RetHB(P:Program)(st:St)(rs:List ResultVar)(res:PV)(k:Nat)(x':BV):Prop:=
 st.s 20000=gh k∧aC st.o (rCs_ P st rs)=true∧rO_1 P st rs∧((res=aR_ (aF st.o (rCs_ P st rs))∧BF_ st k (az (rCs_ P st rs)) x')∨(res=aR_ (aM st.o (rCs_ P st rs))∧CV.pures (rCs_ P st rs)=true∧BF_ st k [] x'))

theorem SatH.of_body{P:Program}{f:FuncId}{fn:Func}{c:Code}{pre post:List PV}{sh:Sh}{ps:List PV}{x x':BV}{res:PV}{nt:Nat}{rs:List ResultVar}(hf:P.funcs[f]?=some fn)(hname:(fn.name== "runtime.NumGoroutine")=false)(hb:fn.body=some c)
 (hnt:fn.ntmps=nt) (hrs:fn.results.toList=rs) (hle:pre.length+post.length+1≤nt) (hnl:nt≤20000) (hhi:(e_ (pre++post) (x.hi 9000)).2.2≤10000) (h:VC P nt c (aS_1 pre post sh ps x) (fun e st=>(e=.normal∨e=.ret)∧RetHB P st rs res pre.length x')):SatH P f pre post sh ps x x' res:=by
 refine⟨⟨fn,hf,hname,by simp[hb]⟩,fun w N v1 v2 vals b Fx Fs hN hFn hFl hps hx hvs hl1=>?_⟩
 have hlen:=rVl_ hvs
 simp only[List.length_append] at hlen
 have hFn':=List.nodup_cons.1 hFn
 have hFxn:Fx.Nodup:=(List.nodup_append.1 hFn'.2).1
 have hFsn:Fs.Nodup:=(List.nodup_append.1 hFn'.2).2.1
 have hdis:∀ b∈Fx,b∉Fs:=fun b hb hb'=>(List.nodup_append.1 hFn'.2).2.2 b hb b hb' rfl
 obtain⟨hd1,fp1,n1,r1⟩:=eBo_ (c:=9000) hx hFxn
 obtain⟨hd2,fp2,n2,r2⟩:=eVo_ (pre++post) (v1++v2) Fs (x.hi 9000) hvs hFsn
 have news:=News.join n1 n2 hdis
 have hle1:=n1.le
 have hle2:=n2.le
 generalize hhd:(fun n=>if n<x.hi 9000 then hd1 n else hd2 n)=hdv at news
 generalize hfp:(fun n=>if n<x.hi 9000 then fp1 n else fp2 n)=fpv at news
 let κ:Ctx:={ w0:=w,N:=N,L:=b::(Fx++Fs),nt:=nt,hN:=hN,hL:=hFl,held:=[(10500,.pointer (some ⟨b,0,none⟩))],hH:=fun c v hc=>by simp at hc; omega }
 let G:Gh:={ hd:=fun n=>if n=10500 then .pointer (some ⟨b,0,none⟩) else hdv n,fp:=fpv,ad:=fun _=>b }
 let xs:=(e_ (pre++post) (x.hi 9000)).1
 have hxl:∀ N' (hd:Nat→Value),(∀ b,N b→N' b)→(∀ n,x.hi 9000≤n→n<(e_ (pre++post) (x.hi 9000)).2.2→hd n=hd2 n)→CVals N' w hd xs (v1++v2):=fun N' hd h1 h2=>r2 N' hd h1 h2
 have hG2:∀ n,x.hi 9000≤n→n<(e_ (pre++post) (x.hi 9000)).2.2→G.hd n=hd2 n:=fun n h1 h2=>by
  show(if n=10500 then _ else hdv n)=_
  rw[if_neg (by omega),← hhd]; have:¬ n<x.hi 9000:=by omega
  simp[this]
 have hG1:∀ n,9000≤n→n<x.hi 9000→G.hd n=hd1 n:=fun n h1 h2=>by
  show(if n=10500 then _ else hdv n)=_
  rw[if_neg (by omega),← hhd]; simp[h2]
 have hxlen:xs.length=v1.length+v2.length:=by
  have:=cl_ (hxl N G.hd (fun _ h=>h) hG2)
  simpa using this.symm
 have hS:∀ k,k≠20000→(aS_1 pre post sh ps x).s k=if k<pre.length then(match xs[k]? with | some y=>.val y | none=>.dead) else if k=pre.length then hS_1 sh ps (x.hc 9000) else(match xs[k-1]? with | some y=>.val y | none=>.dead):=by
  intro k hk0
  simp only[aS_1]
  rw[un_ hk0,uVa_]
  simp only[Nat.not_lt_zero,if_false,Nat.sub_zero]
  have hpl:pre.length≤xs.length:=by omega
  by_cases hk:k<pre.length
  ·rw[if_pos hk,List.getElem?_append_left (by rw[List.length_map,List.length_take]; show k<min pre.length xs.length; omega)]
   simp only[List.getElem?_map,List.getElem?_take_of_lt hk]
   show(match Option.map SlotV.val xs[k]? with | some x=>x | none=>SlotV.dead)=_
   cases xs[k]?<;>rfl
  ·rw[if_neg hk,List.getElem?_append_right (by rw[List.length_map,List.length_take]; show min pre.length xs.length≤k; omega)]
   have e1:(List.map SlotV.val (List.take pre.length xs)).length=pre.length:=by rw[List.length_map,List.length_take]; omega
   show(match (hS_1 sh ps (x.hc 9000)::(xs.drop pre.length).map .val)[k-(List.map SlotV.val (List.take pre.length xs)).length]? with | some x=>x | none=>SlotV.dead)=_
   rw[e1]
   by_cases hk2:k=pre.length
   ·subst hk2; simp
   ·rw[if_neg hk2]
    have e2:k-pre.length=(k-1-pre.length)+1:=by omega
    rw[e2,List.getElem?_cons_succ,List.getElem?_map,List.getElem?_drop,show pre.length+(k-1-pre.length)=k-1 by omega]
    cases xs[k-1]?<;>rfl
 have hS0:(aS_1 pre post sh ps x).s 20000=gh pre.length:=by simp only[aS_1]; exact us_ _ _ _
 have hob:∀ c sz es,(aS_1 pre post sh ps x).o c=some (sz,es)→(c,(sz,es))∈(x.objs 9000++(e_ (pre++post) (x.hi 9000)).2.1):=by
  intro c sz es hc
  simp only[aS_1] at hc
  by_cases hm:c∈(x.objs 9000++(e_ (pre++post) (x.hi 9000)).2.1).map (·.1)
  ·obtain⟨⟨n,p⟩,h1,rfl⟩:=List.mem_map.1 hm
   have h2:(n,some p)∈newObjs (x.objs 9000++(e_ (pre++post) (x.hi 9000)).2.1):=List.mem_map.2 ⟨(n,p),h1,rfl⟩
   rw[uAm_ _ _ n (some p) (by rw[nOk_]; exact news.once) h2] at hc
   cases hc; exact h1
  ·rw[uAn_ _ _ _ (by rw[nOk_]; exact hm)] at hc; cases hc
 have hnb:∀ k,iB_ ((aS_1 pre post sh ps x).s k)=true→k=pre.length:=by
  intro k hk
  by_cases hk0:k=20000
  ·subst hk0; rw[hS0] at hk; cases hk
  rw[hS k hk0] at hk
  by_cases h1:k<pre.length
  ·rw[if_pos h1] at hk; revert hk; cases xs[k]?<;>exact fun hk=>nomatch hk
  ·rw[if_neg h1] at hk
   by_cases h2:k=pre.length
   ·exact h2
   ·rw[if_neg h2] at hk; revert hk; cases xs[k-1]?<;>exact fun hk=>nomatch hk
 have hbF:∀ c,c∈Fx++Fs→c≠b:=fun c hc e=>hFn'.1 (e▸hc)
 have hpriv:∀ c,N c→¬ Priv (aS_1 pre post sh ps x) G c:=by
  rintro c hc (⟨r,h1,h2⟩ | ⟨n,⟨sz,es⟩,h1,h2⟩)
  ·exact(hN c hc).2 (by rw[h2]; exact List.mem_cons_self)
  ·exact(hN c hc).2 (List.mem_cons_of_mem _ ((news.rep n sz es (hob n sz es h1)).2.2.2.2 c h2))
 have hNof:∀ c,N c→Nof κ (aS_1 pre post sh ps x) G w c:=fun c hc=>⟨.inl hc,hpriv c hc⟩
 have hR:RG κ G (aS_1 pre post sh ps x) { tmps:=(v1++sh.val b vals::v2).toArray++Array.replicate (fn.ntmps-(v1++sh.val b vals::v2).toArray.size) undef,defers:=[] } w:=by
  have hvals:∀ k u,(v1++sh.val b vals::v2)[k]?=some u→((v1++sh.val b vals::v2).toArray++Array.replicate (fn.ntmps-(v1++sh.val b vals::v2).toArray.size) undef).getD k undef=u:=by
   intro k u hu
   have hkl:k<(v1++sh.val b vals::v2).length:=(List.getElem?_eq_some_iff.1 hu).1
   simp only[Array.getD_eq_getD_getElem?]
   rw[Array.getElem?_append_left (by simpa using hkl)]
   rw[List.getElem?_toArray,hu]; rfl
  refine⟨KeepX.refl _ _ _,rfl,by simp[hnt,κ]; omega,?_,?_,?_,fun r r' hr hr' _=>(hnb r hr).trans (hnb r' hr').symm,?_,?_,fun c v' hc=>by simp only[κ,List.mem_singleton,Prod.mk.injEq] at hc; obtain⟨rfl,rfl⟩:=hc; simp[G]⟩
  ·intro k
   by_cases hk0:k=20000
   ·subst hk0
    rw[hS0]
    refine⟨[],by simp[RepCs],?_⟩
    have:((v1++sh.val b vals::v2).toArray++Array.replicate (fn.ntmps-(v1++sh.val b vals::v2).toArray.size) undef).getD 20000 undef=undef:=by
     rw[Array.getD_eq_getD_getElem?,Array.getElem?_eq_none (by simp[hnt]; omega)]; rfl
    rw[this]
    simp[lnkF,G]
   rw[hS k hk0]
   by_cases h1:k<pre.length
   ·rw[if_pos h1]
    cases hk:xs[k]? with
    | none=>trivial
    | some y=>
     obtain⟨u,g1,g2⟩:=ca_ k y (hxl (Nof κ (aS_1 pre post sh ps x) G w) G.hd hNof hG2) hk
     rw[List.getElem?_append_left (by omega)] at g1
     rw[hvals k u (by rw[List.getElem?_append_left (by omega)]; exact g1)]
     exact g2
   ·rw[if_neg h1]
    by_cases h2:k=pre.length
    ·rw[if_pos h2]
     rw[hvals k (sh.val b vals) (by subst h2; rw[List.getElem?_append_right (by omega),hl1]; simp)]
     exact hSo_ (vals:=vals) (RepCs.frame hNof (fun _ _=>rfl) ps vals [] (by simp) hps) rfl (r1 (Nof κ (aS_1 pre post sh ps x) G w) G.hd G.ad hNof hG1)
    ·rw[if_neg h2]
     cases hk:xs[k-1]? with
     | none=>trivial
     | some y=>
      obtain⟨u,g1,g2⟩:=ca_ (k-1) y (hxl (Nof κ (aS_1 pre post sh ps x) G w) G.hd hNof hG2) hk
      rw[List.getElem?_append_right (by omega)] at g1
      rw[hvals k u (by
       rw[List.getElem?_append_right (by omega)]
       have:k-v1.length=(k-1-v1.length)+1:=by omega
       rw[this,List.getElem?_cons_succ]; exact g1)]
      exact g2
  ·intro c sz es hc
   obtain⟨_,g2,g3,g4,g5⟩:=news.rep c sz es (hob c sz es hc)
   have e0:G.hd c=hdv c:=by show(if c=10500 then _ else hdv c)=_; rw[if_neg (by omega)]
   rw[e0]
   exact⟨aX hNof (fun _ _=>rfl) _ _ _ (fun _ _=>rfl) g3,g4,fun c hc=>⟨.inr (List.mem_cons_of_mem _ (g5 c hc)),hFl c (List.mem_cons_of_mem _ (g5 c hc))⟩⟩
  ·intro r _
   exact⟨.inr List.mem_cons_self,hFl b List.mem_cons_self⟩
  ·intro r c ⟨sz,es⟩ _ h2 hm
   exact hbF b ((news.rep c sz es (hob c sz es h2)).2.2.2.2 b hm) rfl
  ·intro c c' ⟨sz,es⟩ ⟨sz',es'⟩ h1 h2 hne
   exact news.apart c c' _ _ (hob c sz es h1) (hob c' sz' es' h2) hne
 refine calls_of_wp hf hb (h κ _ w rfl ⟨G,hR⟩ _ ?_)
 intro e st' a' w' ⟨he,hgh,hw,hok,hres⟩ ⟨G',hG⟩
 have had:G'.ad pre.length=b:=by
  have h1:=hG.slots 20000
  rw[hgh] at h1
  obtain⟨_,_,h2⟩:=h1
  have h3:G'.hd 10500=.pointer (some ⟨b,0,none⟩):=hG.held 10500 _ (by simp[κ])
  have h4:a'.tmps.getD 20000 undef=undef:=by rw[Array.getD_eq_getD_getElem?,Array.getElem?_eq_none (by rw[hG.nt]; exact hnl)]; rfl
  rw[h4] at h2
  simp only[List.map_cons,List.map_nil,h3,lnkF] at h2
  by_cases e1:b=G'.ad pre.length
  ·exact e1.symm
  ·rw[if_neg e1] at h2; simp[undef] at h2
 have hlive:=Cnl_ _ hw
 -- what the block holds
 have fin:∀ ns:List Nat,(∀ c∈ns,(st'.o c).isSome=true)→BF_ st' pre.length ns x'→∃ Fx',(Fx'++fps G'.fp ns).Nodup∧b∉Fx'++fps G'.fp ns∧(∀ c∈Fx'++fps G'.fp ns,(w.heap.size≤c∨c∈Fx++Fs)∧c<w'.heap.size)∧
  (∀ c,Nof κ st' G' w' c→c∉b::(Fx'++fps G'.fp ns))∧∀ N',(∀ c,Nof κ st' G' w' c→N' c)→RepBV N' w' b Fx' x':=by
  intro ns hns hbx
  simp only[BF_] at hbx
  have fps_in:∀ ms:List Nat,(∀ c∈ms,(st'.o c).isSome=true)→iB_ (st'.s pre.length)=true→b∉fps G'.fp ms∧(∀ c∈fps G'.fp ms,(w.heap.size≤c∨c∈Fx++Fs)∧c<w'.heap.size)∧∀ c,Nof κ st' G' w' c→c∉b::fps G'.fp ms:=by
   intro ms hms hbb
   have hb1:b∉fps G'.fp ms:=fun hm=>by
    obtain⟨c,hc,hm⟩:=mf_.1 hm
    obtain⟨p,hp⟩:=Option.isSome_iff_exists.1 (hms c hc)
    exact hG.bo pre.length c p hbb hp (had▸hm)
   refine⟨hb1,fun d hd=>?_,fun d hd hm=>?_⟩
   ·obtain⟨c,hc,hm⟩:=mf_.1 hd
    obtain⟨⟨sz,es⟩,hp⟩:=Option.isSome_iff_exists.1 (hms c hc)
    obtain⟨g1,g2⟩:=(hG.objs c sz es hp).2.2 d hm
    refine⟨g1.imp id (fun g=>?_),g2⟩
    rcases List.mem_cons.1 g with e1 | g
    ·exact absurd (e1▸hd) hb1
    ·exact g
   ·rcases List.mem_cons.1 hm with e1 | hm
    ·exact hd.2 (.inl ⟨pre.length,hbb,by rw[had]; exact e1⟩)
    ·obtain⟨c,hc,hm⟩:=mf_.1 hm
     obtain⟨p,hp⟩:=Option.isSome_iff_exists.1 (hms c hc)
     exact hd.2 (.inr ⟨c,p,hp,hm⟩)
  have hsl:=hG.slots pre.length
  cases hh:hH_ (st'.s pre.length) with
  | none=>rw[hh] at hbx; exact hbx.elim
  | some hc=>
   rw[hh] at hbx
   have hbb:=hHi_ hh
   have hok':=hHo_ hh hsl
   rw[had] at hok'
   cases hc with
   | cv y=>
    obtain⟨g1,g2,rfl⟩:=hbx
    obtain⟨cs,e',g3,g4⟩:=hok'
    have hl:∀ c∈y.names++ns,(st'.o c).isSome=true:=fun c hc=>(List.mem_append.1 hc).elim (Cnl_1 y g1 c) (hns c)
    obtain⟨k1,k2,k3⟩:=fps_in (y.names++ns) hl hbb
    have k4:=fn_1 hG _ g2 hl
    rw[fa_] at k1 k2 k3 k4
    exact⟨fps G'.fp y.names,k4,k1,k2,k3,fun N' hN'=>⟨cs,e',g3,aX hN' (fun _ _=>rfl) _ _ _ (fun _ _=>rfl) (RepCV.own (fun c sz es hc=>(hG.objs c sz es hc).1) y cs g1 g4)⟩⟩
   | mp kv clock=>
    obtain⟨g2,rfl⟩:=hbx
    obtain⟨es,g3,g4,g5⟩:=hok'
    obtain⟨k1,k2,k3⟩:=fps_in ns hns hbb
    exact⟨[],by simpa using fn_1 hG _ g2 hns,by simpa using k1,by simpa using k2,by simpa using k3,fun N' hN'=>⟨rfl,es,g3,MapIs.frame hN' (fun _ _=>rfl) kv es g4,g5⟩⟩
   | it _ _ _ _=>exact hbx.elim
 have key:a'.defers=[]∧∃ v,(results fn a'.tmps).run P w'=.ok v w'∧∃ v' F Fx',Ending.returned v=.returned v'∧KeepX (b::(Fx++Fs)) w.heap.size w w'∧
  RepBV (fun c=>N c∨((w.heap.size≤c∨c∈Fx++Fs)∧c<w'.heap.size∧c∉Fx'++F)) w' b Fx' x'∧RepR (fun c=>N c∨((w.heap.size≤c∨c∈Fx++Fs)∧c<w'.heap.size∧c∉Fx'++F)) w' res v' F∧
  (b::(Fx'++F)).Nodup∧∀ c∈Fx'++F,(w.heap.size≤c∨c∈Fx++Fs)∧c<w'.heap.size:=by
  obtain⟨vs',h1,h2⟩:=rr_ hG rs hw hok
  refine⟨hG.defers,(if h:vs'.toArray.size=1 then vs'.toArray[0] else .tuple vs'.toArray),?_,(if h:vs'.toArray.size=1 then vs'.toArray[0] else .tuple vs'.toArray),?_⟩
  ·have e1:fn.results=rs.toArray:=by rw[← hrs]
   simp only[results,e1,List.mapM_toArray,Sem.run_bind,Sem.run_map,Sem.run_pure]
   exact congrArg (fun r:Result (List Value)=>((r.andThen fun a w'=>.ok a.toArray w').andThen fun a w'=>.ok (if h:a.size=1 then a[0] else Value.tuple a) w')) h1
  have hfr:∀ Fx' F,(∀ c,Nof κ st' G' w' c→c∉b::(Fx'++F))→∀ c,Nof κ st' G' w' c→N c∨((w.heap.size≤c∨c∈Fx++Fs)∧c<w'.heap.size∧c∉Fx'++F):=by
   intro Fx' F hnot c hc
   have hn:=hnot c hc
   rcases hc.1 with h | h
   ·exact .inl h
   ·refine .inr ⟨h.1.imp id (fun g=>?_),h.2,fun hm=>hn (List.mem_cons_of_mem _ hm)⟩
    rcases List.mem_cons.1 g with e1 | g
    ·exact absurd (e1▸List.mem_cons_self) hn
    ·exact g
  rcases hres with⟨hr,hbx⟩ | ⟨hr,hpu,hbx⟩
  ·obtain⟨Fx',k1,k2,k3,k4,k5⟩:=fin _ hlive hbx
   have hown:=CVals.own (fun c sz es hc=>(hG.objs c sz es hc).1) hw h2
   refine⟨fps G'.fp (az (rCs_ P st' rs)),Fx',rfl,hG.keep,k5 _ (hfr _ _ k4),?_,List.nodup_cons.2 ⟨k2,k1⟩,k3⟩
   rw[hr]
   exact rRa_ (rVf_ (hfr _ _ k4) (fun _ _=>rfl) (fun _ _=>rfl) hown) (pn_ hown)
  ·obtain⟨Fx',k1,k2,k3,k4,k5⟩:=fin [] (by simp) hbx
   simp only[fps,aZ] at k1 k2 k3 k4
   have hview:=cpV_ (ob:=st'.o) _ _ hpu h2
   refine⟨[],Fx',rfl,hG.keep,k5 _ (hfr _ _ (by simpa using k4)),?_,by simpa using⟨k2,k1⟩,by simpa using k3⟩
   rw[hr]
   exact rRa_ (rVf_ (hfr _ _ (by simpa using k4)) (fun _ _=>rfl) (by simp) hview) (pn_ hview)
 rcases he with rfl | rfl<;>exact key
theorem SatH.of_m{P:Program}{nt n:Nat}{f:FuncId}{fn:Func}{c:Code}{pre post:List PV}{sh:Sh}{ps:List PV}{x x':BV}{res:PV}{rs:List ResultVar}(hf:P.funcs[f]?=some fn)(hname:(fn.name== "runtime.NumGoroutine")=false)(hb:fn.body=some c)
 (hnt:fn.ntmps=nt) (hrs:fn.results.toList=rs) (hle:pre.length+post.length+1≤nt) (hnl:nt≤20000) (hhi:(e_ (pre++post) (x.hi 9000)).2.2≤10000)
 (h:Mg P nt (fun st=>RetHB P st rs res pre.length x') n (.code c) (aS_1 pre post sh ps x) []):SatH P f pre post sh ps x x' res:=
 SatH.of_body hf hname hb hnt hrs hle hnl hhi (Mg.sound n _ _ _ h)
end
section
def HC.names:HC→List Nat
 | .cv y=>y.names
 | _=>[]
def HC.isBV(ob:Nat→Option (Nat×List PV))(x:BV):HC→Prop
 | .cv y=>y.whole ob=true∧x=.pv (y.pvo ob)
 | .mp kv clock=>x=.mp kv clock
 | .it _ _ _ _=>False
def setH:SlotV→HC→SlotV
 | .box _,.cv y=>.box y
 | .hold sh ps _,h=>.hold sh ps h
 | s,_=>s
def okH:SlotV→HC→Bool
 | .box _,.cv _=>true
 | .hold ..,_=>true
 | _,_=>false
theorem oHb_{s:SlotV}{h:HC}(e:okH s h=true):iB_ (setH s h)=true:=by
 cases s<;>first | (simp[okH] at e; done) | skip
 ·cases h<;>first | rfl | (simp[okH] at e; done)
 ·rfl
theorem sHo_{N N':Nat→Prop}{w w':World}{G G':Gh}{k:Nat}{v:Value}{s:SlotV}{h:HC}(e:okH s h=true)(hs:SlotOk N w G k v s)(hN:∀ b,N b→N' b)(hw:∀ b,N b→w'.heap[b]?=w.heap[b]?)(ha:G'.ad=G.ad)
 (hh:HCok N' w' G'.hd G'.ad (G.ad k) h):SlotOk N' w' G' k v (setH s h):=by
 cases s<;>first | (simp[okH] at e; done) | skip
 ·cases h<;>first | (simp[okH] at e; done) | skip
  obtain⟨h1,_⟩:=hs
  obtain⟨cs,e',h2,h3⟩:=hh
  exact⟨by rw[ha]; exact h1,cs,e',by rw[ha]; exact h2,h3⟩
 ·obtain⟨vals,h1,h2,_⟩:=hs
  exact⟨vals,RepCs.frame hN hw _ _ [] (by simp) h1,by rw[ha]; exact h2,by rw[ha] at hh ⊢; exact hh⟩

theorem eRo_{N:Nat→Prop}{w:World}{res:PV}{v:Value}{F:List Nat}{c:Nat}(hr:RepR N w res v F)(hn:F.Nodup):
 ∃ hdv fpv hi,News N w hdv fpv F c hi (rO_ res c)∧∀ (N':Nat→Prop) (G:Gh) (k:Nat),(∀ b,N b→N' b)→(∀ n,c≤n→n<hi→G.hd n=hdv n)→SlotOk N' w G k v (rS_ res c):=by
 by_cases ht:∃ ps,res=.tup ps
 ·obtain⟨ps,rfl⟩:=ht
  obtain⟨vs,rfl,h2⟩:=hr
  obtain⟨hdv,fpv,n1,r1⟩:=eVo_ ps vs F c h2 hn
  exact⟨hdv,fpv,_,n1,fun N' G k hN hh=>⟨vs,rfl,r1 N' G.hd hN hh⟩⟩
 ·have hv:RepV N w res v F:=by
   cases res with
   | tup ps=>exact absurd ⟨ps,rfl⟩ ht
   | _=>exact hr
  obtain⟨hdv,fpv,n1,r1⟩:=eVo_1 (c:=c) hv hn
  have e1:rS_ res c=.val (e_1 res c).1:=by
   cases res with
   | tup ps=>exact absurd ⟨ps,rfl⟩ ht
   | _=>rfl
  have e2:rO_ res c=(e_1 res c).2.1:=by
   cases res with
   | tup ps=>exact absurd ⟨ps,rfl⟩ ht
   | _=>rfl
  rw[e1,e2]
  exact⟨hdv,fpv,_,n1,fun N' G k hN hh=>r1 N' G.hd hN hh⟩

theorem cHc_{P:Program}{κ:Ctx}{G:Gh}{st:St}{a:Act}{w:World}{d r:Nat}{f:FuncId}(hG:RG κ G st a w)(hd:d<κ.nt)(hrd:r≠d){hc:HC}(hh:hH_ (st.s r)=some hc){sh:Sh}{ps:List PV}{vals:List Value}
 {x x':BV} (hx:hc.isBV st.o x) {Ds:List Nat} (hDs:∀ c∈Ds,(st.o c).isSome=true) (hnd:(hc.names++Ds).Nodup) {N:Nat→Prop} (hps:RepCs N w ps vals [])
 (hN1:∀ b,N b→b<w.heap.size∧b≠G.ad r∧b∉fps G.fp (hc.names++Ds)) (hNN:∀ b,Nof κ st G w b→N b) {res:PV} (hN2:(∀ b,N b→Nof κ st G w b)∨(res.noView=true∧x'.noView=true))
 {pre post:List PV} {v1 v2:List Value} (hargs:RepVs N w (pre++post) (v1++v2) (fps G.fp Ds)) (hl:v1.length=pre.length) (hsat:SatH P f pre post sh ps x x' res) {c:Nat} (hok:okH (st.s r) (x'.hc c)=true)
 (hfresh:∀ n∈(x'.objs c++rO_ res (x'.hi c)).map (·.1),st.noC n) {next:Act→World→Prop}
 (hnext:∀ w' v,R κ { s:=upd (upd st.s r (setH (st.s r) (x'.hc c))) d (rS_ res (x'.hi c)),o:=uA_ st.o (deadObjs (hc.names++Ds)++newObjs (x'.objs c++rO_ res (x'.hi c))) } (a.put (some d) v) w'→next (a.put (some d) v) w'):
 Calls P f (v1++sh.val (G.ad r) vals::v2).toArray w (fun e w'=>∃ v,e=.returned v∧next (a.put (some d) v) w'):=by
 have hbr:=hHi_ hh
 have hcok:=hHo_ hh (hG.slots r)
 have hcl:∀ c∈hc.names,(st.o c).isSome=true:=by
  cases hc with
  | cv y=>exact Cnl_1 y hx.1
  | _=>simp[HC.names]
 have hall:∀ c∈hc.names++Ds,(st.o c).isSome=true:=fun c hc'=>(List.mem_append.1 hc').elim (hcl c) (hDs c)
 have hfn:=fn_1 hG _ hnd hall
 have hXin:∀ b∈fps G.fp (hc.names++Ds),∃ c p,st.o c=some p∧b∈G.fp c:=by
  intro b hb
  obtain⟨c,hc',hm⟩:=mf_.1 hb
  obtain⟨p,hp⟩:=Option.isSome_iff_exists.1 (hall c hc')
  exact⟨c,p,hp,hm⟩
 have hbX:G.ad r∉fps G.fp (hc.names++Ds):=fun hm=>by
  obtain⟨c,p,hp,hm⟩:=hXin _ hm
  exact hG.bo r c p hbr hp hm
 have hXlt:∀ b∈fps G.fp (hc.names++Ds),b<w.heap.size:=fun b hb=>by
  obtain⟨c,p,hp,hm⟩:=hXin _ hb
  exact((hG.objs c p.1 p.2 hp).2.2 b hm).2
 have hrb:RepBV N w (G.ad r) (fps G.fp hc.names) x:=by
  cases hc with
  | cv y=>
   obtain⟨h1,rfl⟩:=hx
   obtain⟨cs,e,h2,h3⟩:=hcok
   exact⟨cs,e,h2,aX hNN (fun _ _=>rfl) _ _ _ (fun _ _=>rfl) (RepCV.own (fun c sz es hc=>(hG.objs c sz es hc).1) y cs h1 h3)⟩
  | mp kv clock=>
   cases hx
   obtain⟨es,h1,h2,h3⟩:=hcok
   exact⟨rfl,es,h1,MapIs.frame hNN (fun _ _=>rfl) kv es h2,h3⟩
  | it _ _ _ _=>exact hx.elim
 have:=hsat.2 w N v1 v2 vals (G.ad r) (fps G.fp hc.names) (fps G.fp Ds) (fun b hb=>⟨(hN1 b hb).1,fun hm=>by
  rcases List.mem_cons.1 hm with e | hm
  ·exact(hN1 b hb).2.1 e
  ·exact(hN1 b hb).2.2 (by rw[fa_]; exact hm)⟩) (List.nodup_cons.2 (by rw[fa_] at hbX hfn; exact⟨hbX,hfn⟩)) (fun b hb=>by
  rcases List.mem_cons.1 hb with e | hm
  ·rw[e]; exact(hG.boxes r hbr).2
  ·exact hXlt b (by rw[fa_]; exact hm)) hps hrb hargs hl
 refine this.mono ?_
 rintro e w' ⟨v,F,Fx',rfl,hk,hb',hr',hn',hF'⟩
 refine⟨v,rfl,hnext w' v ?_⟩
 rw[← fa_] at hk hF' hb' hr'
 obtain⟨hn1,hn2⟩:=List.nodup_cons.1 hn'
 have hnA:=(List.nodup_append.1 hn2).1
 have hnB:=(List.nodup_append.1 hn2).2.1
 have hdis:∀ b∈Fx',b∉F:=fun b hb hb'=>(List.nodup_append.1 hn2).2.2 b hb b hb' rfl
 have hwk:∀ b,Nof κ st G w b→w'.heap[b]?=w.heap[b]?:=fun b hb=>hk.block b (hb.lt hG) (fun hm=>by
  rcases List.mem_cons.1 hm with e | hm
  ·exact(hN1 b (hNN b hb)).2.1 e
  ·exact(hN1 b (hNN b hb)).2.2 hm)
 have finish:∀ N':Nat→Prop,(∀ b,N' b→Nof κ st G w b∨((w.heap.size≤b∨b∈fps G.fp (hc.names++Ds))∧b<w'.heap.size∧b∉Fx'++F))→RepBV N' w' (G.ad r) Fx' x'→RepR N' w' res v F→
  R κ { s:=upd (upd st.s r (setH (st.s r) (x'.hc c))) d (rS_ res (x'.hi c)),o:=uA_ st.o (deadObjs (hc.names++Ds)++newObjs (x'.objs c++rO_ res (x'.hi c))) } (a.put (some d) v) w':=by
  intro N' hN' hbb hrr
  obtain⟨hd1,fp1,n1,r1⟩:=eBo_ (c:=c) hbb hnA
  obtain⟨hd2,fp2,hi,n2,r2⟩:=eRo_ (c:=x'.hi c) hrr hnB
  have hle1:=n1.le
  have hle2:=n2.le
  refine RnR_1 (hdv:=fun n=>if n<x'.hi c then hd1 n else hd2 n) (fpv:=fun n=>if n<x'.hi c then fp1 n else fp2 n) hG hd hrd hbr (oHb_ hok) hall hk hF' hN' (News.join n1 n2 hdis) hfresh (rSn_ _ _) (fun N2 G' hN2 hh2=>r2 N2 G' d hN2 (fun n g1 g2=>?_))
   (fun N2 G' hN2 hN3 hh2 ha=>sHo_ hok (hG.slots r) hN3 hwk ha (r1 N2 G'.hd G'.ad hN2 (fun n g1 g2=>?_)))
  ·rw[hh2 n (by omega) g2]; have:¬ n<x'.hi c:=by omega
   simp[this]
  ·rw[hh2 n g1 (by omega)]; simp[g2]
 rcases hN2 with hN2 | ⟨hv1,hv2⟩
 ·exact finish _ (fun b hb=>hb.imp (hN2 b) id) hb' hr'
 ·exact finish (fun _=>False) (fun b hb=>hb.elim) (hb'.noView hv2) (hr'.noView hv1)
end
section
def hdl:SlotV→Option (Nat×Sh×List PV)
 | .hptr r sh ps=>some (r,sh,ps)
 | .bptr r [] 0=>some (r,.ptr,[])
 | _=>none
theorem ho_{N:Nat→Prop}{w:World}{G:Gh}{k:Nat}{v:Value}{s:SlotV}{r:Nat}{sh:Sh}{ps:List PV}(e:hdl s=some (r,sh,ps))(h:SlotOk N w G k v s):∃ vals,RepCs N w ps vals []∧v=sh.val (G.ad r) vals:=by
 unfold hdl at e
 split at e
 ·cases e; exact h
 ·cases e; exact⟨[],by simp[RepCs],h⟩
 ·cases e
theorem wa_{ob:Nat→Option (Nat×List PV)}:∀ a b:List CV,aC ob (a++b)=(aC ob a&&aC ob b)
 | [],b=>by simp[aC]
 | x::a,b=>by simp[aC,wa_ a b,Bool.and_assoc]
theorem ca_1{N:Nat→Prop}{w:World}{hd:Nat→Value}:∀ {a b:List CV} {u v:List Value},CVals N w hd a u→CVals N w hd b v→CVals N w hd (a++b) (u++v)
 | [],_,u,_,h,h'=>by simp only[CVals] at h; subst h; simpa using h'
 | x::a,b,u,v,h,h'=>by
  simp only[CVals] at h
  obtain⟨y,ys,rfl,h1,h2⟩:=h
  simp only[List.cons_append,CVals]
  exact⟨y,ys++v,rfl,h1,ca_1 h2 h'⟩
theorem HiB_{ob ob':Nat→Option (Nat×List PV)}{x:BV}{h:HC}(he:∀ n∈h.names,ob' n=ob n)(hb:h.isBV ob x):h.isBV ob' x:=by
 cases h with
 | cv y=>obtain⟨g1,g2⟩:=hb; have:=Cco_1 (ob:=ob) (ob':=ob') y he; exact⟨by rw[this.1]; exact g1,by rw[this.2.2]; exact g2⟩
 | mp _ _=>exact hb
 | it _ _ _ _=>exact hb

theorem vcX_{P:Program}{nt:Nat}{o:Oper}{st:St}{d r c:Nat}{f:FuncId}{xs:List CV}{ms:List Bool}{caps:List PV}{hc:HC}{sh:Sh}{ps pre post:List PV}{x x':BV}{res:PV}{rs:List Nat}
 (hdst:o.dst=some d) (hd:d<nt) (hrd:(r==d)=false) (hr:r∈rs) (hh:hH_ (st.s r)=some hc) (hbv:hc.isBV st.o x) (hok:okH (st.s r) (x'.hc c)=true) (hw:aC st.o xs=true)
 (hmn:(hc.names++mixNames ms xs).Nodup) (halias:mixPure ms xs=true∨(res.noView=true∧x'.noView=true∧∀ n∈viewNames ms xs,n∉hc.names++mixNames ms xs))
 (hargs:pre++post=mix ms (aM st.o xs) (aF st.o xs)++caps) (hcaps:∀ p∈caps,PV.size p=1∧(CV.pv p).isAgg=false)
 (hrun:∀ κ G st' a w,κ.nt=nt→(∀ k∈rs,st'.s k=st.s k)→(∀ n∈hc.names++az xs,st'.o n=st.o n)→RG κ G st' a w→CI_ P f→∃ v1 v2 cv vals avs,(execOp a.eval o).run P w=.ok (.enter f (v1++sh.val (G.ad r) vals::v2).toArray) w∧
  v1.length=pre.length∧v1++v2=avs++cv∧CVals (Nof κ st' G w) w G.hd xs avs∧RepCs (Nof κ st' G w) w caps cv []∧RepCs (Nof κ st' G w) w ps vals [])
 (hsat:SatH P f pre post sh ps x x' res):
 Valid P nt o st { rs:=rs,ro:=hc.names++az xs,fc:=(x'.objs c++rO_ res (x'.hi c)).map (·.1),us:=[(r,setH (st.s r) (x'.hc c)),(d,rS_ res (x'.hi c))],uo:=deadObjs (hc.names++mixNames ms xs)++newObjs (x'.objs c++rO_ res (x'.hi c)) }:=by
 intro κ st' a w hnt hsame hfresh hR next Q hnext
 obtain⟨G,hG⟩:=hR
 have hrd':r≠d:=by simpa using hrd
 have hcong:=Cco_ (ob:=st.o) (ob':=st'.o) xs (fun n hn=>hsame.2 n (List.mem_append.2 (.inr hn)))
 obtain⟨hw',hv',ho'⟩:=hcong
 have hwx:aC st'.o xs=true:=by rw[hw']; exact hw
 obtain⟨v1,v2,cv,vals,avs,e1,e2,e3,hcv,hcp,hps⟩:=hrun κ G st' a w hnt hsame.1 hsame.2 hG hsat.1
 have hsr:st'.s r=st.s r:=hsame.1 r hr
 have hh':hH_ (st'.s r)=some hc:=by rw[hsr]; exact hh
 have hbv':=HiB_ (ob':=st'.o) (fun n hn=>hsame.2 n (List.mem_append.2 (.inl hn))) hbv
 have hlive:∀ c∈mixNames ms xs,(st'.o c).isSome=true:=mNl_ ms xs hwx
 have hbr:=hHi_ hh'
 have hcl:∀ c∈hc.names,(st'.o c).isSome=true:=by
  cases hc with
  | cv y=>exact Cnl_1 y hbv'.1
  | _=>simp[HC.names]
 have hall:∀ c∈hc.names++mixNames ms xs,(st'.o c).isSome=true:=fun c hc'=>(List.mem_append.1 hc').elim (hcl c) (hlive c)
 have hobj:∀ c sz es,st'.o c=some (sz,es)→RepC (Nof κ st' G w) w (.sl true sz es) [G.hd c] (G.fp c):=fun c sz es hc=>(hG.objs c sz es hc).1
 have hXin:∀ b∈fps G.fp (hc.names++mixNames ms xs),∃ c p,st'.o c=some p∧b∈G.fp c∧c∈hc.names++mixNames ms xs:=by
  intro b hb
  obtain⟨c,hc',hm⟩:=mf_.1 hb
  obtain⟨p,hp⟩:=Option.isSome_iff_exists.1 (hall c hc')
  exact⟨c,p,hp,hm,hc'⟩
 have hNX:∀ b,Nof κ st' G w b→b<w.heap.size∧b≠G.ad r∧b∉fps G.fp (hc.names++mixNames ms xs):=fun b hb=>⟨hb.lt hG,fun e=>hb.2 (.inl ⟨r,hbr,e⟩),fun hm=>by
  obtain⟨c,p,hp,hm,_⟩:=hXin b hm
  exact hb.2 (.inr ⟨c,p,hp,hm⟩)⟩
 unfold Oper.wp
 rw[e1]
 simp only[Oper.upon]
 have done:∀ N:Nat→Prop,(∀ b,N b→b<w.heap.size∧b≠G.ad r∧b∉fps G.fp (hc.names++mixNames ms xs))→(∀ b,Nof κ st' G w b→N b)→((∀ b,N b→Nof κ st' G w b)∨(res.noView=true∧x'.noView=true))→
  RepVs N w (mix ms (aM st'.o xs) (aF st'.o xs)) avs (fps G.fp (mixNames ms xs))→Calls P f (v1++sh.val (G.ad r) vals::v2).toArray w fun e w'=>∃ v,e=.returned v∧next (a.put (some d) v) w':=by
  intro N hN1 hNN hN2 hav
  rw[hv',ho'] at hav
  have hall2:=RepVs.append _ _ _ _ _ _ hav (RVo_ caps cv [] hcaps (RepCs.frame hNN (fun _ _=>rfl) caps cv [] (by simp) hcp))
  rw[aZ,← hargs,← e3] at hall2
  refine cHc_ (c:=c) hG (by rw[hnt]; exact hd) hrd' hh' hbv' hlive hmn (RepCs.frame hNN (fun _ _=>rfl) ps vals [] (by simp) hps) hN1 hNN hN2 hall2 e2 hsat (by rw[hsr]; exact hok) (fun n hn=>hfresh.2 n hn) (fun w' v hR=>hnext _ _ ?_)
  simpa[St.app,uA_,hsr] using hR
 rcases halias with hpure | ⟨hnv,hnv',hvn⟩
 ·have hvw:∀ (ms:List Bool) (xs:List CV),mixPure ms xs=true→viewNames ms xs=[]:=by
   intro ms xs
   induction xs generalizing ms with
   | nil=>intro _; rfl
   | cons y ys ih=>
    intro hp
    simp only[mixPure,aA] at hp
    simp only[viewNames,ih _ hp.2,aZ]
    cases hm:ms.headD false with
    | true=>simp
    | false=>
     rw[hm] at hp
     simp only[Bool.false_or] at hp
     simp only[Bool.false_eq_true,if_false]
     exact Cpn_ y hp.1
  have hav:=mo_1 (N':=Nof κ st' G w) (ob:=st'.o) (fp:=G.fp) (fun _ h=>h) hobj ms xs _ hwx (by rw[hvw ms xs hpure]; simp) hcv
  refine(done _ hNX (fun _ h=>h) (.inl (fun _ h=>h)) hav).mono ?_
  rintro e w' ⟨v,rfl,hn⟩
  rw[hdst]; exact hn
 ·have hav:=mo_1 (N':=fun b=>b<w.heap.size∧b≠G.ad r∧b∉fps G.fp (hc.names++mixNames ms xs)) (ob:=st'.o) (fp:=G.fp) hNX hobj ms xs _ hwx (fun n hn b hb=>by
   have hcl:∀ (ms:List Bool) (ys:List CV),aC st'.o ys=true→∀ c∈viewNames ms ys,(st'.o c).isSome=true:=by
    intro ms ys
    induction ys generalizing ms with
    | nil=>intro _ c hc; simp[viewNames] at hc
    | cons y ys ih=>
     intro hwy c hc
     simp only[aC,aA] at hwy
     simp only[viewNames,aT] at hc
     rcases hc with hc | hc
     ·split at hc
      ·cases hc
      ·exact Cnl_1 y hwy.1 c hc
     ·exact ih ms.tail hwy.2 c hc
   obtain⟨p,hp⟩:=Option.isSome_iff_exists.1 (hcl ms xs hwx n hn)
   refine⟨((hG.objs n p.1 p.2 hp).2.2 b hb).2,fun e=>hG.bo r n p hbr hp (e▸hb),fun hm=>?_⟩
   obtain⟨c',p',hp',hm',hc'⟩:=hXin b hm
   exact hG.oo n c' p p' hp hp' (fun e=>hvn n hn (e▸hc')) b hb hm') hcv
  refine(done _ (fun _ h=>h) hNX (.inr ⟨hnv,hnv'⟩) hav).mono ?_
  rintro e w' ⟨v,rfl,hn⟩
  rw[hdst]; exact hn
end
section
theorem vcA_{P:Program}{nt:Nat}{o:Oper}{st:St}{d r c:Nat}{g x:Operand}{as1 as2:List Operand}{ts:List TypeId}{f:FuncId}{xs1 xs2:List CV}{ms:List Bool}{caps:List PV}{T1 T2:TypeId}{hc:HC}{sh:Sh}{ps pre post:List PV}{x0 x':BV}{res:PV}
 (hop:o.op=.call { callee:=.value g,args:=⟨as1++x::as2⟩,argTypes:=⟨ts⟩ }) (hdst:o.dst=some d) (hd:d<nt) (hg:ev P st T1 g=.val (.pv (.clo f caps))) (hx:hdl (ev P st T2 x)=some (r,sh,ps)) (hrd:(r==d)=false)
 (hh:hH_ (st.s r)=some hc) (hbv:hc.isBV st.o x0) (hok:okH (st.s r) (x'.hc c)=true) (hx1:argCVs P st as1 ts=xs1) (hx2:argCVs P st as2 (ts.drop (as1.length+1))=xs2) (hw:aC st.o (xs1++xs2)=true)
 (hmn:(hc.names++mixNames ms (xs1++xs2)).Nodup) (halias:mixPure ms (xs1++xs2)=true∨(res.noView=true∧x'.noView=true∧∀ n∈viewNames ms (xs1++xs2),n∉hc.names++mixNames ms (xs1++xs2)))
 (hargs:pre++post=mix ms (aM st.o (xs1++xs2)) (aF st.o (xs1++xs2))++caps) (hpl:pre.length=as1.length) (hcaps:∀ p∈caps,PV.size p=1∧(CV.pv p).isAgg=false) (hsat:SatH P f pre post sh ps x0 x' res):
 Valid P nt o st { rs:=r::(rd g++(as1++x::as2).flatMap rd),ro:=hc.names++az (xs1++xs2),fc:=(x'.objs c++rO_ res (x'.hi c)).map (·.1),us:=[(r,setH (st.s r) (x'.hc c)),(d,rS_ res (x'.hi c))],uo:=deadObjs (hc.names++mixNames ms (xs1++xs2))++newObjs (x'.objs c++rO_ res (x'.hi c)) }:=by
 refine vcX_ hdst hd hrd (by simp) hh hbv hok hw hmn halias hargs hcaps (fun κ G st' a w hnt hs ho hG hci=>?_) hsat
 have hob:=Cco_ (ob:=st.o) (ob':=st'.o) (xs1++xs2) (fun n hn=>ho n (List.mem_append.2 (.inr hn)))
 have hw':aC st'.o (xs1++xs2)=true:=by rw[hob.1]; exact hw
 rw[wa_,aA] at hw'
 have c1:=ao_1 (P:=P) (st:=st) hG as1 ts (fun k hk=>hs k (by simp only[bg,aT,List.flatMap_append]; exact .inr (.inr (.inl hk)))) (by rw[hx1]; exact hw'.1)
 have c2:=ao_1 (P:=P) (st:=st) hG as2 (ts.drop (as1.length+1)) (fun k hk=>hs k (by simp only[bg,aT,List.flatMap_append,List.flatMap_cons]; exact .inr (.inr (.inr (.inr hk))))) (by rw[hx2]; exact hw'.2)
 rw[hx1] at c1
 rw[hx2] at c2
 have hxv:=eo_ (P:=P) (T:=T2) hG x 0
 rw[ec_ (fun k hk=>hs k (by simp only[bg,aT,List.flatMap_append,List.flatMap_cons]; exact .inr (.inr (.inr (.inl hk)))))] at hxv
 obtain⟨vals,hps,hxe⟩:=ho_ hx hxv
 have hgv:=eo_ (P:=P) (T:=T1) hG g 0
 rw[ec_ (fun k hk=>hs k (by simp[hk])),hg] at hgv
 rcases hgv with⟨hgv,_⟩ | ⟨_,hgv,_⟩
 ·simp[CV.isAgg] at hgv
 simp only[RepCV,RepC] at hgv
 obtain⟨cv,hg1,_,hg3,_⟩:=hgv
 simp at hg1
 refine⟨as1.map a.eval,as2.map a.eval++cv,cv,vals,as1.map a.eval++as2.map a.eval,?_,by simp[hpl],by simp,ca_1 c1 c2,hg3,hps⟩
 have harr:(Array.map a.eval ⟨as1++x::as2⟩++cv.toArray)=(as1.map a.eval++sh.val (G.ad r) vals::(as2.map a.eval++cv)).toArray:=by
  apply Array.ext'; simp[hxe]
 simp[execOp,hop,resolve,hg1,Deferred.ofValue,invoke,rcF_ hci]
 simp[hxe]
def sP_:List Bool→List PV→Option (List PV×List PV)
 | true::p,ps=>if (p.all fun b=>!b)&&p.length==ps.length then some ([],ps) else none
 | false::p,q::ps=>(sP_ p ps).map fun x=>(q::x.1,x.2)
 | _,_=>none
theorem ff_(b:Nat):∀ (p:List Bool) (vs:List Value),(p.all fun b=>!b)=true→p.length=vs.length→fP_ p b vs=vs
 | [],[],_,_=>rfl
 | false::p,v::vs,h,hl=>by simp only[fP_]; rw[ff_ b p vs (by simpa using h) (by simpa using hl)]
 | true::p,_,h,_=>by simp at h
 | [],_::_,_,hl=>by simp at hl
 | false::_,[],_,hl=>by simp at hl
theorem sPo_{N:Nat→Prop}{w:World}{b:Nat}:∀ {pat:List Bool} {ps ps1 ps2:List PV} {vals:List Value},sP_ pat ps=some (ps1,ps2)→(∀ p∈ps,PV.size p=1∧(CV.pv p).isAgg=false)→RepCs N w ps vals []→
 ps=ps1++ps2∧∃ u1 u2,fP_ pat b vals=u1++.pointer (some ⟨b,0,none⟩)::u2∧u1.length=ps1.length∧vals=u1++u2
 | true::p,ps,ps1,ps2,vals,h,hs,hr=>by
  simp only[sP_] at h
  split at h
  ·rename_i g
   simp only[aA,beq_iff_eq] at g
   cases h
   have hl:=RepCs.length _ _ _ hr
   have hsz:PV.sizes ps=ps.length:=by
    clear hr hl g
    induction ps with
    | nil=>rfl
    | cons q qs ih=>simp only[PV.sizes,List.length_cons]; rw[(hs q (by simp)).1,ih (fun p hp=>hs p (by simp[hp]))]; omega
   exact⟨rfl,[],vals,by simp only[fP_,List.nil_append]; rw[ff_ b p vals g.1 (by omega)],rfl,rfl⟩
  ·cases h
 | false::p,q::ps,ps1,ps2,vals,h,hs,hr=>by
  simp only[sP_] at h
  cases hx:sP_ p ps with
  | none=>rw[hx] at h; cases h
  | some y=>
   rw[hx] at h
   simp only[Option.map_some,Option.some.injEq,Prod.mk.injEq] at h
   obtain⟨rfl,rfl⟩:=h
   simp only[RepCs] at hr
   obtain⟨k1,k2,F1,F2,rfl,e2,h3,h4⟩:=hr
   have e1:F1=[]∧F2=[]:=by have:=congrArg List.length e2; simp at this; exact⟨List.eq_nil_of_length_eq_zero (by omega),List.eq_nil_of_length_eq_zero (by omega)⟩
   obtain⟨rfl,rfl⟩:=e1
   have hl:=RepC.length _ _ _ h3
   rw[(hs q (by simp)).1] at hl
   obtain⟨u,rfl⟩:=List.length_eq_one_iff.1 hl
   obtain⟨g1,u1,u2,g2,g3,g4⟩:=sPo_ (b:=b) (ps1:=y.1) (ps2:=y.2) hx (fun p hp=>hs p (by simp[hp])) h4
   exact⟨by simp[g1],u::u1,u2,by simp[fP_,g2],by simp[g3],by simp[g4]⟩
 | [],_,_,_,_,h,_,_=>by simp[sP_] at h
 | false::_,[],_,_,_,h,_,_=>by simp[sP_] at h
theorem vcC_{P:Program}{nt:Nat}{o:Oper}{st:St}{d r c:Nat}{g:Operand}{as:List Operand}{ts:List TypeId}{f:FuncId}{xs:List CV}{ms:List Bool}{pat:List Bool}{T1:TypeId}{hc:HC}{ps ps1 ps2 pre:List PV}{x0 x':BV}{res:PV}
 (hop:o.op=.call { callee:=.value g,args:=⟨as⟩,argTypes:=⟨ts⟩ }) (hdst:o.dst=some d) (hd:d<nt) (hg:ev P st T1 g=.hptr r (.clo f pat) ps) (hpat:sP_ pat ps=some (ps1,ps2)) (hrd:(r==d)=false)
 (hh:hH_ (st.s r)=some hc) (hbv:hc.isBV st.o x0) (hok:okH (st.s r) (x'.hc c)=true) (hx1:argCVs P st as ts=xs) (hw:aC st.o xs=true)
 (hmn:(hc.names++mixNames ms xs).Nodup) (halias:mixPure ms xs=true∨(res.noView=true∧x'.noView=true∧∀ n∈viewNames ms xs,n∉hc.names++mixNames ms xs))
 (hargs:pre=mix ms (aM st.o xs) (aF st.o xs)++ps1) (hml:(mix ms (aM st.o xs) (aF st.o xs)).length=as.length) (hcaps:∀ p∈ps,PV.size p=1∧(CV.pv p).isAgg=false) (hsat:SatH P f pre ps2 .ptr [] x0 x' res):
 Valid P nt o st { rs:=r::(rd g++as.flatMap rd),ro:=hc.names++az xs,fc:=(x'.objs c++rO_ res (x'.hi c)).map (·.1),us:=[(r,setH (st.s r) (x'.hc c)),(d,rS_ res (x'.hi c))],uo:=deadObjs (hc.names++mixNames ms xs)++newObjs (x'.objs c++rO_ res (x'.hi c)) }:=by
 have hps12:∀ {N:Nat→Prop} {w:World} {b:Nat} {vals:List Value},RepCs N w ps vals []→ps=ps1++ps2∧∃ u1 u2,fP_ pat b vals=u1++.pointer (some ⟨b,0,none⟩)::u2∧u1.length=ps1.length∧vals=u1++u2:=fun h=>sPo_ hpat hcaps h
 have hpsq:ps=ps1++ps2:=by
  have:∀ {pat:List Bool} {ps ps1 ps2:List PV},sP_ pat ps=some (ps1,ps2)→ps=ps1++ps2:=by
   intro pat
   induction pat with
   | nil=>intro ps ps1 ps2 h; simp[sP_] at h
   | cons b p ih=>
    intro ps ps1 ps2 h
    cases b with
    | true=>simp only[sP_] at h; split at h<;>cases h; rfl
    | false=>
     cases ps with
     | nil=>simp[sP_] at h
     | cons q ps=>
      simp only[sP_] at h
      cases hx:sP_ p ps with
      | none=>rw[hx] at h; cases h
      | some y=>rw[hx] at h; simp only[Option.map_some,Option.some.injEq,Prod.mk.injEq] at h; obtain⟨rfl,rfl⟩:=h; rw[ih (ps1:=y.1) (ps2:=y.2) hx]; rfl
  exact this hpat
 refine vcX_ (caps:=ps) hdst hd hrd (by simp) hh hbv hok hw hmn halias (by rw[hargs,hpsq,List.append_assoc]) hcaps (fun κ G st' a w hnt hs ho hG hci=>?_) hsat
 have hob:=Cco_ (ob:=st.o) (ob':=st'.o) xs (fun n hn=>ho n (List.mem_append.2 (.inr hn)))
 have hw':aC st'.o xs=true:=by rw[hob.1]; exact hw
 have c1:=ao_1 (P:=P) (st:=st) hG as ts (fun k hk=>hs k (by simp only[bg,aT]; exact .inr (.inr hk))) (by rw[hx1]; exact hw')
 rw[hx1] at c1
 have hgv:=eo_ (P:=P) (T:=T1) hG g 0
 rw[ec_ (fun k hk=>hs k (by simp[hk])),hg] at hgv
 obtain⟨vals,hps,hg1⟩:=hgv
 obtain⟨_,u1,u2,e1,e2,e3⟩:=hps12 (b:=G.ad r) hps
 refine⟨as.map a.eval++u1,u2,vals,[],as.map a.eval,?_,by rw[hargs]; simp[e2,hml],by simp[e3],c1,hps,by simp[RepCs]⟩
 have harr:(Array.map a.eval ⟨as⟩++(fP_ pat (G.ad r) vals).toArray)=(as.map a.eval++u1++Sh.ptr.val (G.ad r) []::u2).toArray:=by
  apply Array.ext'; simp[e1,Sh.val]
 simp[execOp,hop,resolve,hg1,Sh.val,Deferred.ofValue,invoke,rcF_ hci]
 simpa[Sh.val] using harr
end
section
theorem vcI_{P:Program}{nt:Nat}{o:Oper}{st:St}{d:Nat}{g:Operand}{args:Array Operand}{tys:Array TypeId}{f:FuncId}{T1:TypeId}{xs:List CV}{ob':Nat→Option (Nat×List PV)}
 (hop:o.op=.call { callee:=.value g,args:=args,argTypes:=tys }) (hdst:o.dst=some d) (hd:d<nt)
 (hg:ev P st T1 g=.val (.pv (.clo f []))) (hxs:argCVs P st args.toList tys.toList=xs) (hw:aC st.o xs=true) (hcl:Cc_ xs=true) (hn:(az xs).Nodup) (hw2:aC ob' xs=true)
 (hsat:SatIO P f (aF st.o xs) (aF ob' xs) (.tup [])):
 Valid P nt o st { rs:=rd g++args.toList.flatMap rd,ro:=az xs,us:=[(d,.tup [])],uo:=(az xs).map fun c=>(c,ob' c) }:=by
 intro κ st' a w hnt hsame hfresh hR next Q hnext
 obtain⟨G,hG⟩:=hR
 obtain⟨hci,hcalls⟩:=hsat
 have hob:∀ (xs:List CV),(∀ n∈az xs,st'.o n=st.o n)→aC st'.o xs=aC st.o xs∧aM st'.o xs=aM st.o xs∧aF st'.o xs=aF st.o xs:=by
  intro xs hx
  have key:∀ x:CV,(∀ n∈x.names,st'.o n=st.o n)→x.whole st'.o=x.whole st.o∧x.pvw st'.o=x.pvw st.o∧x.pvo st'.o=x.pvo st.o:=by
   intro x
   refine CV.rec (motive_1:=fun x=>(∀ n∈x.names,st'.o n=st.o n)→x.whole st'.o=x.whole st.o∧x.pvw st'.o=x.pvw st.o∧x.pvo st'.o=x.pvo st.o)
    (motive_2:=fun xs=>(∀ n∈az xs,st'.o n=st.o n)→aC st'.o xs=aC st.o xs∧aM st'.o xs=aM st.o xs∧aF st'.o xs=aF st.o xs) ?_ ?_ ?_ ?_ ?_ ?_ x
   ·intro v _; exact⟨rfl,rfl,rfl⟩
   ·intro n h; have:=h n (by simp[CV.names]); exact⟨by simp[CV.whole,this],by simp[CV.pvw,this],by simp[CV.pvo,this]⟩
   ·intro fs ih h; have:=ih (by simpa[CV.names] using h); exact⟨by simpa[CV.whole] using this.1,by simp[CV.pvw,this.2.1],by simp[CV.pvo,this.2.2]⟩
   ·intro n _; exact⟨rfl,rfl,rfl⟩
   ·intro _; exact⟨rfl,rfl,rfl⟩
   ·intro y ys i1 i2 h
    have h1:=i1 (fun n hn=>h n (by simp[az,hn]))
    have h2:=i2 (fun n hn=>h n (by simp[az,hn]))
    exact⟨by simp[aC,h1.1,h2.1],by simp[aM,h1.2.1,h2.2.1],by simp[aF,h1.2.2,h2.2.2]⟩
  induction xs with
  | nil=>exact⟨rfl,rfl,rfl⟩
  | cons y ys ih=>
   have h1:=key y (fun n hn=>hx n (by simp[az,hn]))
   have h2:=ih (fun n hn=>hx n (by simp[az,hn]))
   exact⟨by simp[aC,h1.1,h2.1],by simp[aM,h1.2.1,h2.2.1],by simp[aF,h1.2.2,h2.2.2]⟩
 obtain⟨hw',hv',ho'⟩:=hob xs hsame.2
 have hwx:aC st'.o xs=true:=by rw[hw']; exact hw
 have hcv:=ao_1 (P:=P) (st:=st) hG args.toList tys.toList (fun k hk=>hsame.1 k (by simp only[aT]; exact .inr hk)) (by rw[hxs]; exact hwx)
 rw[hxs] at hcv
 have hgv:=eo_ (P:=P) (T:=T1) hG g 0
 rw[ec_ (fun k hk=>hsame.1 k (by simp[hk])),hg] at hgv
 rcases hgv with⟨hgv,_⟩ | ⟨_,hgv,_⟩
 ·simp[CV.isAgg] at hgv
 simp only[RepCV,RepC] at hgv
 obtain⟨vals,hg1,_,hg3,_⟩:=hgv
 simp at hg1
 simp only[RepCs] at hg3
 obtain⟨rfl,_⟩:=hg3
 have hrun:(execOp a.eval o).run P w=.ok (.enter f (args.map a.eval)) w:=by
  simp[execOp,hop,resolve,hg1,Deferred.ofValue,invoke,rcF_ hci]
 have harr:args.map a.eval=(args.toList.map a.eval).toArray:=by apply Array.ext'; simp
 have hlive:∀ c∈az xs,(st'.o c).isSome=true:=Cnl_ _ hwx
 have hXlt:∀ b∈fps G.fp (az xs),b<w.heap.size:=by
  intro b hb
  obtain⟨c,hc,hm⟩:=mf_.1 hb
  obtain⟨p,hp⟩:=Option.isSome_iff_exists.1 (hlive c hc)
  exact((hG.objs c p.1 p.2 hp).2.2 b hm).2
 have hXn:(fps G.fp (az xs)).Nodup:=fn_1 hG _ hn hlive
 have hNX:∀ b,Nof κ st' G w b→b∉fps G.fp (az xs):=by
  intro b hb hm
  obtain⟨c,hc,hm⟩:=mf_.1 hm
  obtain⟨p,hp⟩:=Option.isSome_iff_exists.1 (hlive c hc)
  exact hb.2 (.inr ⟨c,p,hp,hm⟩)
 have hown:=CVals.own (fun c sz es hc=>(hG.objs c sz es hc).1) hwx hcv
 rw[ho'] at hown
 unfold Oper.wp
 rw[hrun]
 simp only[Oper.upon]
 rw[harr]
 refine(hcalls w (Nof κ st' G w) _ _ (fun b hb=>⟨hb.lt hG,hNX b hb⟩) hXn hXlt hown).mono ?_
 rintro e w'' ⟨v,F,rfl,hk,hr,hFn,hF,hres⟩
 have hp:=CVals.inv (ob:=ob') xs _ F hcl hw2 hcv hr hn
 obtain⟨G',hhd,hG',hN'⟩:=hG.setObjs hlive hk hF hFn hp
 obtain⟨vs,rfl,hvs⟩:=hres
 simp only[RepVs] at hvs
 obtain⟨rfl,_⟩:=hvs
 rw[hdst]
 refine hnext _ _ ?_
 have:=R.set (sv:=.tup []) (v:=.tuple #[]) (d:=d) G' hG' (by rw[hnt]; exact hd) rfl ⟨[],rfl,by simp[CVals]⟩
 simpa[St.app,uA_,St.set,uAs_] using this

theorem CHi_1{P:Program}{nt:Nat}{st:St}{d ty:Nat}{pos:String}{af:Array Edge}{gd:Option (Nat×Bool)}{g:Operand}{as:List Operand}{ts:List TypeId}{K0:Rec→Prop}{f:FuncId}{v o c:List PV}{K:List Bool→PV→Prop}
 {args args':List PV} (xs:List CV) (ns:List (Nat×(Nat×List PV))) (h:SatIO P f args args' (.tup []))
 (hs:d<nt∧ev P st 0 g=.val (.pv (.clo f []))∧argCVs P st as ts=xs∧aC st.o xs=true∧Cc_ xs=true∧(az xs).Nodup∧aC (mkO ns) xs=true∧args=aF st.o xs∧args'=aF (mkO ns) xs)
 (hK:K0 { rs:=rd g++as.flatMap rd,ro:=az xs,us:=[(d,.tup [])],uo:=(az xs).map fun c=>(c,mkO ns c) }):
 CallH P f v o c K (RO_ P nt st { dst:=some d,op:=.call { callee:=.value g,args:=⟨as⟩,argTypes:=⟨ts⟩ },type:=ty,pos:=pos,after:=af,guard:=gd } K0) .mk .mk:=by
 obtain⟨h1,h2,h3,h4,h5,h6,h7,h8,h9⟩:=hs
 subst h8; subst h9
 exact CHh_ ⟨_,vcI_ (args:=⟨as⟩) (tys:=⟨ts⟩) rfl rfl h1 h2 h3 h4 h5 h6 h7 h,fn_ rfl rfl,hK⟩
section
variable{P:Program}{nt:Nat}{st:St}{d r ty T T' E:Nat}{pos:String}{af:Array Edge}{gd:Option (Nat×Bool)}{K:Rec→Prop}{x y z:Operand}{α:Type}
theorem HandH.call{g:Operand}(k:Nat)(as1 as2:List Operand){as:List Operand}{ts:List TypeId}{f:FuncId}(xs1 xs2:List CV)(ms:List Bool){hc:HC}{sh:Sh}{ps pre post:List PV}{x0 x':BV}{res:PV}
 (hsat:SatH P f pre post sh ps x0 x' res) (has:as=as1++x::as2) (hk:as1.length=k) (hpl:pre.length=k)
 (hs:d<nt∧ev P st 0 g=.val (.pv (.clo f []))∧hdl (ev P st 0 x)=some (r,sh,ps)∧(r==d)=false∧hH_ (st.s r)=some hc∧hc.isBV st.o x0∧okH (st.s r) (x'.hc (16*d))=true∧argCVs P st as1 ts=xs1∧argCVs P st as2 (ts.drop (k+1))=xs2∧aC st.o (xs1++xs2)=true∧
  (hc.names++mixNames ms (xs1++xs2)).Nodup∧mixPure ms (xs1++xs2)=true∧pre++post=mix ms (aM st.o (xs1++xs2)) (aF st.o (xs1++xs2)))
 (hK:(∀ n∈(x'.objs (16*d)++rO_ res (x'.hi (16*d))).map (·.1),st.noC n)∧K { rs:=r::(rd g++(as1++x::as2).flatMap rd),ro:=hc.names++az (xs1++xs2),fc:=(x'.objs (16*d)++rO_ res (x'.hi (16*d))).map (·.1),us:=[(r,setH (st.s r) (x'.hc (16*d))),(d,rS_ res (x'.hi (16*d)))],uo:=deadObjs (hc.names++mixNames ms (xs1++xs2))++newObjs (x'.objs (16*d)++rO_ res (x'.hi (16*d))) }):
 HandH (RO_ P nt st { dst:=some d,op:=.call { callee:=.value g,args:=⟨as⟩,argTypes:=⟨ts⟩ },type:=ty,pos:=pos,after:=af,guard:=gd } K) .mk:=by
 subst has; subst hk
 obtain⟨h1,h2,h3,h4,h5,h6,h7,h8,h9,h10,h11,h12,h13⟩:=hs
 exact⟨_,vcA_ (T1:=0) (T2:=0) rfl rfl h1 h2 h3 h4 h5 h6 h7 h8 h9 h10 h11 (.inl h12) (by rw[h13,aZ]) hpl (by simp) hsat,⟨by simp,hK.1⟩,hK.2⟩
end
def aS_2(k:Nat)(pre post:List PV)(sh:Sh)(ps:List PV)(x:BV):St:=
 ⟨upd (updV 0 (((e_ (pre++post) (x.hi 9000)).1.take k).map .val++hS_1 sh ps (x.hc 9000)::((e_ (pre++post) (x.hi 9000)).1.drop k).map .val) (fun _=>.dead)) 20000 (gh k),
  uA_ (fun _=>none) (newObjs (x.objs 9000++(e_ (pre++post) (x.hi 9000)).2.1))⟩
theorem SHo_{P:Program}{nt n:Nat}{f:FuncId}{fn:Func}{c:Code}{pre post:List PV}{sh:Sh}{ps:List PV}{x x':BV}{res:PV}{rs:List ResultVar}(k:Nat)(hf:P.funcs[f]?=some fn)(hname:(fn.name== "runtime.NumGoroutine")=false)(hb:fn.body=some c)
 (hnt:fn.ntmps=nt) (hrs:fn.results.toList=rs) (hk:pre.length=k) (hle:k+post.length+1≤nt) (hnl:nt≤20000) (hhi:(e_ (pre++post) (x.hi 9000)).2.2≤10000)
 (h:Mg P nt (fun st=>RetHB P st rs res k x') n (.code c) (aS_2 k pre post sh ps x) []):SatH P f pre post sh ps x x' res:=by
 subst hk
 exact SatH.of_m hf hname hb hnt hrs hle hnl hhi h
@[push_cast] theorem asRes_nil:aR_ []=.tup []:=rfl
theorem aSe_1(k:Nat)(pre post:List PV)(sh:Sh)(ps:List PV)(x:BV):aS_2 k pre post sh ps x=⟨upd (updV 0 (((e_ (pre++post) (x.hi 9000)).1.take k).map .val++hS_1 sh ps (x.hc 9000)::((e_ (pre++post) (x.hi 9000)).1.drop k).map .val) (fun _=>.dead)) 20000 (gh k),
 uA_ (fun _=>none) (newObjs (x.objs 9000++(e_ (pre++post) (x.hi 9000)).2.1))⟩:=rfl
theorem uVn_(i:Nat)(f:Nat→SlotV):updV i [] f=f:=rfl
theorem uVc_(i:Nat)(x:SlotV)(xs:List SlotV)(f:Nat→SlotV):updV i (x::xs) f=updV (i+1) xs (upd f i x):=rfl
theorem bp_2(p:PV)(c:Nat):(BV.pv p).hc c=.cv (e_1 p c).1:=rfl
theorem bm_3(kv:List MEnt)(ck c:Nat):(BV.mp kv ck).hc c=.mp kv ck:=rfl
theorem bp_1(p:PV)(c:Nat):(BV.pv p).hi c=(e_1 p c).2.2:=rfl
theorem bm_2(kv:List MEnt)(ck c:Nat):(BV.mp kv ck).hi c=c:=rfl
theorem bp_(p:PV)(c:Nat):(BV.pv p).objs c=(e_1 p c).2.1:=rfl
theorem bm_1(kv:List MEnt)(ck c:Nat):(BV.mp kv ck).objs c=[]:=rfl
theorem hSp_(ps:List PV)(x:CV):hS_1 .ptr ps (.cv x)=.box x:=rfl
theorem hSc_(f:FuncId)(pat:List Bool)(ps:List PV)(x:CV):hS_1 (.clo f pat) ps (.cv x)=.hold (.clo f pat) ps (.cv x):=rfl
theorem hSm_(sh:Sh)(ps:List PV)(kv:List MEnt)(ck:Nat):hS_1 sh ps (.mp kv ck)=.hold sh ps (.mp kv ck):=rfl
theorem hHb_(x:CV):hH_ (.box x)=some (.cv x):=rfl
theorem hHh_(sh:Sh)(ps:List PV)(h:HC):hH_ (.hold sh ps h)=some h:=rfl
theorem hh_(r:Nat)(sh:Sh)(ps:List PV):hdl (.hptr r sh ps)=some (r,sh,ps):=rfl
theorem hb_(r:Nat):hdl (.bptr r [] 0)=some (r,.ptr,[]):=rfl
theorem iBc_(ob:Nat→Option (Nat×List PV))(y:CV)(x:BV):(HC.cv y).isBV ob x=(y.whole ob=true∧x=.pv (y.pvo ob)):=rfl
theorem iBm_(ob:Nat→Option (Nat×List PV))(kv:List MEnt)(ck:Nat)(x:BV):(HC.mp kv ck).isBV ob x=(x=.mp kv ck):=rfl
theorem hc_1(y:CV):(HC.cv y).names=y.names:=rfl
theorem hm_1(kv:List MEnt)(ck:Nat):(HC.mp kv ck).names=[]:=rfl
theorem sHb_(x y:CV):setH (.box x) (.cv y)=.box y:=rfl
theorem sHh_(sh:Sh)(ps:List PV)(a b:HC):setH (.hold sh ps a) b=.hold sh ps b:=rfl
theorem oHb_1(x y:CV):okH (.box x) (.cv y)=true:=rfl
theorem oHh_(sh:Sh)(ps:List PV)(a b:HC):okH (.hold sh ps a) b=true:=rfl
def BxF(ob:Nat→Option (Nat×List PV))(ns:List Nat)(x':BV):SlotV→Prop
 | .box y=>y.whole ob=true∧(y.names++ns).Nodup∧x'=.pv (y.pvo ob)
 | .hold _ _ (.cv y)=>y.whole ob=true∧(y.names++ns).Nodup∧x'=.pv (y.pvo ob)
 | .hold _ _ (.mp kv clock)=>ns.Nodup∧x'=.mp kv clock
 | _=>False
theorem BFo_{st:St}{k:Nat}{ns:List Nat}{x':BV}(h:BxF st.o ns x' (st.s k)):BF_ st k ns x':=by
 unfold BF_
 generalize st.s k=v at h
 cases v<;>simp only[BxF] at h
 ·exact h
 ·rename_i sh ps x
  cases x<;>first | exact h | exact h.elim
theorem BFb_(ob:Nat→Option (Nat×List PV))(ns:List Nat)(x':BV)(y:CV):BxF ob ns x' (.box y)=(y.whole ob=true∧(y.names++ns).Nodup∧x'=.pv (y.pvo ob)):=rfl
theorem BFc_(ob:Nat→Option (Nat×List PV))(ns:List Nat)(x':BV)(y:CV)(sh:Sh)(ps:List PV):BxF ob ns x' (.hold sh ps (.cv y))=(y.whole ob=true∧(y.names++ns).Nodup∧x'=.pv (y.pvo ob)):=rfl
theorem BFm_(ob:Nat→Option (Nat×List PV))(ns:List Nat)(x':BV)(kv:List MEnt)(ck:Nat)(sh:Sh)(ps:List PV):BxF ob ns x' (.hold sh ps (.mp kv ck))=(ns.Nodup∧x'=.mp kv ck):=rfl
@[congr] theorem RetHB.cg {P:Program} {rs:List ResultVar} {res:PV} {k:Nat} {x':BV} {st st':St} (h:∀ _:Unit,st=st'):RetHB P st rs res k x'=RetHB P st' rs res k x':=by rw[h ()]
theorem RetHB.l{P:Program}{rs:List ResultVar}{res:PV}{k:Nat}{x':BV}{st:St}(h:st.s 20000=gh k∧aC st.o (rCs_ P st rs)=true∧rO_1 P st rs∧res=aR_ (aF st.o (rCs_ P st rs))∧BxF st.o (az (rCs_ P st rs)) x' (st.s k)):RetHB P st rs res k x':=
 ⟨h.1,h.2.1,h.2.2.1,.inl ⟨h.2.2.2.1,BFo_ h.2.2.2.2⟩⟩
theorem hm_(c c':Nat)(kv:List MEnt)(ck:Nat):HC.ren c c' (.mp kv ck)=.mp kv ck:=rfl
theorem hi_(c c' r a b:Nat)(l:List Nat):HC.ren c c' (.it r a l b)=.it r a l b:=rfl
theorem hc_(c c':Nat)(x:CV):HC.ren c c' (.cv x)=.cv (x.ren c c'):=rfl
theorem g_(c c' r:Nat)(h:(10500==c)=false):SlotV.ren c c' (gh r)=gh r:=by
 simp only[beq_eq_false_iff_ne] at h
 simp[gh,SlotV.ren,h]
attribute [push_cast] aSe_1 uVn_ uVc_ bp_2 bm_3 bp_1 bm_2 bp_ bm_1 hSp_ hSc_ hSm_ hHb_ hHh_ hh_ hb_ iBc_ iBm_ hc_1 hm_1 sHb_ sHh_ oHb_1 oHh_ BFb_ BFc_ BFm_ List.take_succ_cons List.take_zero List.drop_succ_cons List.drop_zero List.map_cons List.map_nil List.take_nil List.drop_nil List.cons_append List.map_append hm_ false_and hi_ hc_ g_ List.nil_append
end
section
theorem RepBV.sub{N N':Nat→Prop}{w:World}{b:Nat}{F:List Nat}{x:BV}(hN:∀ c,N c→N' c)(h:RepBV N w b F x):RepBV N' w b F x:=by
 cases x with
 | pv p=>
  obtain⟨cs,e,h1,h2⟩:=h
  exact⟨cs,e,h1,aX hN (fun _ _=>rfl) p cs F (fun _ _=>rfl) h2⟩
 | mp kv ck=>
  obtain⟨h1,es,h2,h3,h4⟩:=h
  exact⟨h1,es,h2,MapIs.frame hN (fun _ _=>rfl) kv es h3,h4⟩
end
section
theorem fa_3(b:Nat):∀ (n1 n2:Nat) (v1 v2:List Value),v1.length=n1→v2.length=n2→fP_ (List.replicate n1 false++true::List.replicate n2 false) b (v1++v2)=v1++.pointer (some ⟨b,0,none⟩)::v2
 | 0,n2,[],v2,_,h2=>by
  simp only[List.replicate,List.nil_append,fP_]
  rw[ff_ b _ v2 (by simp) (by simpa using h2.symm)]
 | n1+1,n2,v::v1,v2,h1,h2=>by
  simp only[List.replicate,List.cons_append,fP_]
  rw[fa_3 b n1 n2 v1 v2 (by simpa using h1) h2]
theorem cOs_1{st st':St}:∀ (xs:List Operand) ds,(∀ k∈xs.flatMap rd,st'.s k=st.s k)→(∀ n∈xs.flatMap rd,∀ x,st.s n=.box x→x.names=[])→cO_ st xs=some ds→cO_ st' xs=some ds:=by
 intro xs
 induction xs with
 | nil=>intro ds _ _ h; exact h
 | cons x xs ih=>
  intro ds hs hn h
  simp only[cO_] at h ⊢
  split at h
  ·rename_i c cs' hc hcs
   rw[ih cs' (fun k hk=>hs k (by simp only[List.flatMap_cons,aT]; exact .inr hk)) (fun k hk=>hn k (by simp only[List.flatMap_cons,aT]; exact .inr hk)) hcs]
   have:cO_1 st' x=some c:=by
    cases x with
    | tmp r=>
     simp only[cO_1] at hc ⊢
     rw[hs r (by simp[rd])]
     split at hc
     ·rename_i y hy
      have hnm:=hn r (by simp[rd]) y hy
      rw[(Cco_1 (ob:=st.o) (ob':=st'.o) y (by rw[hnm]; simp)).2.1]
      exact hc
     ·exact hc
     ·cases hc
    | _=>simp[cO_1] at hc
   rw[this]; exact h
  ·cases h
theorem vmF_{P:Program}{nt:Nat}{o:Oper}{st:St}{d r n1 n2:Nat}{f:FuncId}{cp1 cp2:List Operand}{cs:List (Nat×PV)}{x:CV}(hop:o.op=.makeFunc (.func f) #[] ⟨cp1++.tmp r::cp2⟩)(hdst:o.dst=some d)(hd:d<nt)
 (hl1:cp1.length=n1) (hl2:cp2.length=n2) (hr:st.s r=.box x) (hcs:cO_ st (cp1++cp2)=some cs) (hrc:(cs.all fun c=>!(c.1==r))=true) (hpure:∀ n∈(cp1++cp2).flatMap rd,∀ x,st.s n=.box x→x.names=[]):
 Valid P nt o st { rs:=r::(cp1++cp2).flatMap rd,us:=frozen cs++[(d,.hptr r (.clo f (List.replicate n1 false++true::List.replicate n2 false)) (cs.map fun c=>.ptr c.2))] }:=by
 intro κ st' a w hnt hsame _ hR next Q hnext
 obtain⟨G,hG⟩:=hR
 have hcs':cO_ st' (cp1++cp2)=some cs:=cOs_1 _ _ (fun k hk=>hsame.1 k (List.mem_cons_of_mem _ hk)) hpure hcs
 obtain⟨h1,vals,h2,h3⟩:=fa_1 (cp1++cp2) st' cs hG hcs'
 have hrv:a.tmps.getD r undef=.pointer (some ⟨G.ad r,0,none⟩):=by
  have:=hG.slots r
  rw[hsame.1 r (by simp),hr] at this
  exact this.1
 have hfill:fP_ (List.replicate n1 false++true::List.replicate n2 false) (G.ad r) vals=cp1.map a.eval++.pointer (some ⟨G.ad r,0,none⟩)::cp2.map a.eval:=by
  rw[← h2,List.map_append]
  exact fa_3 _ _ _ _ _ (by simpa using hl1) (by simpa using hl2)
 unfold Oper.wp
 have hrun:(execOp a.eval o).run P w=.ok (.value (.func (.func f) #[] (fP_ (List.replicate n1 false++true::List.replicate n2 false) (G.ad r) vals).toArray)) w:=by
  have:(⟨cp1++.tmp r::cp2⟩:Array Operand).map a.eval=(fP_ (List.replicate n1 false++true::List.replicate n2 false) (G.ad r) vals).toArray:=by
   apply Array.ext'; rw[hfill]; simp[Act.eval,hrv]
  simp[execOp,hop,Instr.makeFunc,← this]
 rw[hrun]
 simp only[Oper.upon]
 rw[hdst]
 refine hnext _ _ ?_
 have:=R.set (sv:=.hptr r (.clo f (List.replicate n1 false++true::List.replicate n2 false)) (cs.map fun c=>.ptr c.2)) (v:=.func (.func f) #[] (fP_ (List.replicate n1 false++true::List.replicate n2 false) (G.ad r) vals).toArray) (d:=d) G h1 (by rw[hnt]; exact hd) rfl
  ⟨vals,h3 _ (fun _ h=>h),rfl⟩
 simpa[St.app,uA_,St.set,uAa_] using this
section
variable{P:Program}{nt:Nat}{st:St}{d r ty:Nat}{pos:String}{af:Array Edge}{gd:Option (Nat×Bool)}{K:Rec→Prop}
theorem MfH.hcl{A:Prop}{f:FuncId}{cp:List Operand}{x:CV}(cp1 cp2:List Operand)(cs:List (Nat×PV))(pat:List Bool)(ps:List PV)(hcp:cp=cp1++.tmp r::cp2)(hpat:pat=List.replicate cp1.length false++true::List.replicate cp2.length false)(hps:ps=cs.map fun c=>.ptr c.2)
 (hs:d<nt∧st.s r=.box x∧cO_ st (cp1++cp2)=some cs∧(cs.all fun c=>!(c.1==r))=true∧(((cp1++cp2).flatMap rd).all fun n=>(bN_ st n).isEmpty)=true)
 (hK:K { rs:=r::(cp1++cp2).flatMap rd,us:=frozen cs++[(d,.hptr r (.clo f pat) ps)] }):
 MfH A (RO_ P nt st { dst:=some d,op:=.makeFunc (.func f) ⟨[]⟩ ⟨cp⟩,type:=ty,pos:=pos,after:=af,guard:=gd } K) .mk .mk:=by
 subst hcp; subst hpat; subst hps
 obtain⟨h1,h2,h3,h4,h5⟩:=hs
 refine MfH.sh ⟨_,vmF_ rfl rfl h1 rfl rfl h2 h3 h4 (fun n hn x hx=>?_),fn_ rfl rfl,hK⟩
 have:=List.all_eq_true.1 h5 n hn
 simp only[bN_,hx,List.isEmpty_iff] at this
 exact this
theorem HHc_{g:Operand}{as:List Operand}{ts:List TypeId}{f:FuncId}(pat:List Bool)(ps ps1 ps2:List PV)(xs:List CV)(ms:List Bool){hc:HC}{pre:List PV}{x0 x':BV}{res:PV}
 (hsat:SatH P f (pre++ps1) ps2 .ptr [] x0 x' res) (hpat:sP_ pat ps=some (ps1,ps2)) (hcaps:CO_ ps)
 (hs:d<nt∧ev P st 0 g=.hptr r (.clo f pat) ps∧(r==d)=false∧hH_ (st.s r)=some hc∧hc.isBV st.o x0∧okH (st.s r) (x'.hc (16*d))=true∧argCVs P st as ts=xs∧aC st.o xs=true∧
  (hc.names++mixNames ms xs).Nodup∧mixPure ms xs=true∧pre=mix ms (aM st.o xs) (aF st.o xs)∧(mix ms (aM st.o xs) (aF st.o xs)).length=as.length)
 (hK:(∀ n∈(x'.objs (16*d)++rO_ res (x'.hi (16*d))).map (·.1),st.noC n)∧K { rs:=r::(rd g++as.flatMap rd),ro:=hc.names++az xs,fc:=(x'.objs (16*d)++rO_ res (x'.hi (16*d))).map (·.1),us:=[(r,setH (st.s r) (x'.hc (16*d))),(d,rS_ res (x'.hi (16*d)))],uo:=deadObjs (hc.names++mixNames ms xs)++newObjs (x'.objs (16*d)++rO_ res (x'.hi (16*d))) }):
 HandH (RO_ P nt st { dst:=some d,op:=.call { callee:=.value g,args:=⟨as⟩,argTypes:=⟨ts⟩ },type:=ty,pos:=pos,after:=af,guard:=gd } K) .mk:=by
 obtain⟨h1,h2,h3,h4,h5,h6,h7,h8,h9,h10,h11,h12⟩:=hs
 exact⟨_,vcC_ (T1:=0) rfl rfl h1 h2 hpat h3 h4 h5 h6 h7 h8 h9 (.inl h10) (by rw[h11]) h12 hcaps hsat,⟨by simp,hK.1⟩,hK.2⟩
end
end
section
mutual
def PV.thin:PV→PV
 | .agg fs=>.agg (Pt_ fs)
 | .sl true sz es=>.sl true sz (PV.views es)
 | .tup vs=>.tup (Pt_ vs)
 | p=>p
def Pt_:List PV→List PV
 | []=>[]
 | p::ps=>p.thin::Pt_ ps
end
def Thin(N:Nat→Prop)(w:World)(q:(Nat→Prop)→List Nat→Prop)(F:List Nat):Prop:=
 ∃ F2:List Nat,F2.Sublist F∧∀ N':Nat→Prop,(∀ b,N b→N' b)→(∀ b∈F,b∉F2→N' b)→q N' F2
theorem sp_{F1 F2 G1 G2:List Nat}(hn:(F1++F2).Nodup)(h1:G1.Sublist F1)(h2:G2.Sublist F2){N':Nat→Prop}(h:∀ b∈F1++F2,b∉G1++G2→N' b):(∀ b∈F1,b∉G1→N' b)∧∀ b∈F2,b∉G2→N' b:=by
 obtain⟨_,_,hd⟩:=List.nodup_append.1 hn
 refine⟨fun b hb hg=>h b (by simp[hb]) (fun hm=>?_),fun b hb hg=>h b (by simp[hb]) (fun hm=>?_)⟩
 ·rcases List.mem_append.1 hm with hm | hm
  ·exact hg hm
  ·exact hd b hb b (h2.subset hm) rfl
 ·rcases List.mem_append.1 hm with hm | hm
  ·exact hd b (h1.subset hm) b hb rfl
  ·exact hg hm
mutual
theorem RepC.thin{N:Nat→Prop}{w:World}:∀ (p:PV) (cs:List Value) (F:List Nat),F.Nodup→RepC N w p cs F→Thin N w (fun N' F2=>RepC N' w p.thin cs F2) F
 | .lit v,cs,F,_,h=>⟨F,List.Sublist.refl _,fun N' hN _=>aX hN (fun _ _=>rfl) (.lit v) cs F (fun _ _=>rfl) h⟩
 | .agg fs,cs,F,hn,h=>by
  simp only[RepC] at h
  obtain⟨F2,h1,h2⟩:=RepCs.thin fs cs F hn h
  exact⟨F2,h1,fun N' hN hF=>by simp only[PV.thin,RepC]; exact h2 N' hN hF⟩
 | .sl false sz es,cs,F,_,h=>⟨F,List.Sublist.refl _,fun N' hN _=>aX hN (fun _ _=>rfl) (.sl false sz es) cs F (fun _ _=>rfl) h⟩
 | .sl true sz es,cs,F,hn,h=>by
  simp only[RepC] at h
  rcases h with⟨h1,h2,h3⟩ | ⟨b,cap,c,e,F',ccs,h1,h2,h3,h4,h5,h6,h7,h8,h9⟩
  ·subst h2; subst h3
   exact⟨[],List.Sublist.refl _,fun N' _ _=>by simp only[PV.thin,PV.views,RepC]; exact .inl ⟨h1,trivial,trivial⟩⟩
  ·subst h9
   refine⟨[b],by simp,fun N' hN hF=>?_⟩
   simp only[PV.thin,RepC]
   refine .inr ⟨b,cap,c,e,[],ccs,by rw[h1,Plv_],by rw[Plv_]; exact h2,h3,?_,h5,h6,by rw[Plv_]; exact h7,RepCs.demote hN es ccs F' (fun x hx=>hF x (by simp[hx]) (fun hm=>?_)) h8,rfl⟩
   ·rw[Pve_]; intro y hy; obtain⟨q,hq,rfl⟩:=List.mem_map.1 hy; rw[Psv_]; exact h4 q hq
   ·rw[List.mem_singleton.1 hm] at hx
    exact(List.nodup_cons.1 hn).1 hx
 | .clo f caps,cs,F,_,h=>⟨F,List.Sublist.refl _,fun N' hN _=>aX hN (fun _ _=>rfl) (.clo f caps) cs F (fun _ _=>rfl) h⟩
 | .ptr v,cs,F,_,h=>⟨F,List.Sublist.refl _,fun N' hN _=>aX hN (fun _ _=>rfl) (.ptr v) cs F (fun _ _=>rfl) h⟩
 | .tup _,cs,F,_,h=>by simp only[RepC] at h
theorem RepCs.thin{N:Nat→Prop}{w:World}:∀ (ps:List PV) (cs:List Value) (F:List Nat),F.Nodup→RepCs N w ps cs F→Thin N w (fun N' F2=>RepCs N' w (Pt_ ps) cs F2) F
 | [],cs,F,_,h=>by
  simp only[RepCs] at h
  exact⟨[],List.nil_sublist _,fun N' _ _=>by simp only[Pt_,RepCs]; exact⟨h.1,trivial⟩⟩
 | p::ps,cs,F,hn,h=>by
  simp only[RepCs] at h
  obtain⟨c1,c2,F1,F2,h1,h2,h3,h4⟩:=h
  subst h2
  obtain⟨n1,n2,_⟩:=List.nodup_append.1 hn
  obtain⟨G1,g1,g2⟩:=RepC.thin p c1 F1 n1 h3
  obtain⟨G2,g3,g4⟩:=RepCs.thin ps c2 F2 n2 h4
  refine⟨G1++G2,g1.append g3,fun N' hN hF=>?_⟩
  obtain⟨k1,k2⟩:=sp_ hn g1 g3 hF
  simp only[Pt_,RepCs]
  exact⟨c1,c2,G1,G2,h1,rfl,g2 N' hN k1,g4 N' hN k2⟩
end
theorem RepV.thin{N:Nat→Prop}{w:World}{p:PV}{v:Value}{F:List Nat}(hn:F.Nodup)(h:RepV N w p v F):Thin N w (fun N' F2=>RepV N' w p.thin v F2) F:=by
 cases p with
 | agg fs=>
  obtain⟨cs,rfl,h⟩:=h
  obtain⟨F2,h1,h2⟩:=RepCs.thin fs cs F hn h
  exact⟨F2,h1,fun N' hN hF=>⟨cs,rfl,h2 N' hN hF⟩⟩
 | sl o sz es=>cases o<;>exact RepC.thin _ _ _ hn h
 | lit u=>exact RepC.thin _ _ _ hn h
 | clo f cs=>exact RepC.thin _ _ _ hn h
 | ptr u=>exact RepC.thin _ _ _ hn h
 | tup vs=>simp only[RepV,RepC] at h
theorem RepVs.thin{N:Nat→Prop}{w:World}:∀ (ps:List PV) (vs:List Value) (F:List Nat),F.Nodup→RepVs N w ps vs F→Thin N w (fun N' F2=>RepVs N' w (Pt_ ps) vs F2) F
 | [],vs,F,_,h=>by
  simp only[RepVs] at h
  exact⟨[],List.nil_sublist _,fun N' _ _=>by simp only[Pt_,RepVs]; exact⟨h.1,trivial⟩⟩
 | p::ps,vs,F,hn,h=>by
  simp only[RepVs] at h
  obtain⟨v,vs',F1,F2,h1,h2,h3,h4⟩:=h
  subst h2
  obtain⟨n1,n2,_⟩:=List.nodup_append.1 hn
  obtain⟨G1,g1,g2⟩:=RepV.thin n1 h3
  obtain⟨G2,g3,g4⟩:=RepVs.thin ps vs' F2 n2 h4
  refine⟨G1++G2,g1.append g3,fun N' hN hF=>?_⟩
  obtain⟨k1,k2⟩:=sp_ hn g1 g3 hF
  simp only[Pt_,RepVs]
  exact⟨v,vs',G1,G2,h1,rfl,g2 N' hN k1,g4 N' hN k2⟩
theorem RepR.thin{N:Nat→Prop}{w:World}{p:PV}{v:Value}{F:List Nat}(hn:F.Nodup)(h:RepR N w p v F):Thin N w (fun N' F2=>RepR N' w p.thin v F2) F:=by
 cases p with
 | tup ps=>
  obtain⟨vs,rfl,h⟩:=h
  obtain⟨F2,h1,h2⟩:=RepVs.thin ps vs F hn h
  exact⟨F2,h1,fun N' hN hF=>⟨vs,rfl,h2 N' hN hF⟩⟩
 | agg fs=>
  obtain⟨F2,h1,h2⟩:=RepV.thin (p:=.agg fs) hn h
  exact⟨F2,h1,fun N' hN hF=>h2 N' hN hF⟩
 | sl o sz es=>
  obtain⟨F2,h1,h2⟩:=RepV.thin (p:=.sl o sz es) hn h
  exact⟨F2,h1,fun N' hN hF=>by have:=h2 N' hN hF; cases o<;>exact this⟩
 | lit u=>exact RepV.thin (p:=.lit u) hn h
 | clo f cs=>exact RepV.thin (p:=.clo f cs) hn h
 | ptr u=>exact RepV.thin (p:=.ptr u) hn h
theorem Sat.tn{P:Program}{f:FuncId}{args:List PV}{res:PV}(h:Sat P f args res):Sat P f args res.thin:=by
 refine⟨h.1,fun w N vs Fs hN hFn hFl hvs=>(h.2 w N vs Fs hN hFn hFl hvs).mono ?_⟩
 rintro e w' ⟨v,F,rfl,hk,hr,hFn',hF⟩
 obtain⟨F2,h1,h2⟩:=hr.thin hFn'
 refine⟨v,F2,rfl,hk,h2 _ (fun b hb=>?_) (fun b hb hg=>.inr ⟨(hF b hb).1,(hF b hb).2,hg⟩),h1.nodup hFn',fun b hb=>hF b (h1.subset hb)⟩
 rcases hb with hb | hb
 ·exact .inl hb
 ·exact .inr ⟨hb.1,hb.2.1,fun hm=>hb.2.2 (h1.subset hm)⟩
theorem StO_{P:Program}{f:FuncId}{args:List PV}{res res':PV}(h:Sat P f args res)(e:res.thin=res'):Sat P f args res':=e▸h.tn
theorem tl_(v:Value):(PV.lit v).thin=.lit v:=rfl
theorem ta_1(l:List PV):(PV.agg l).thin=.agg (Pt_ l):=rfl
theorem ts_(n:Nat)(l:List PV):(PV.sl true n l).thin=.sl true n (PV.views l):=rfl
theorem tn_:Pt_ []=[]:=rfl
theorem tc_(p:PV)(l:List PV):Pt_ (p::l)=p.thin::Pt_ l:=rfl
theorem vs_2(l:List PV)(i:Nat)(x:PV):PV.views (l.set i x)=(PV.views l).set i x.view:=by
 rw[Pve_,Pve_,List.map_set]
attribute [push_cast] vs_2
end
end Go.Av
