/- Lemmas of the proof; each says what it shows. -/
import Derived.Test.YtmfpijomelhccaaGreatDoorAvZ
set_option linter.unusedSimpArgs false
set_option linter.unusedVariables false
set_option linter.defProp false
namespace Go.Av
open And renaming intro→ae
open Bool renaming and_eq_true→aD
open CV renaming wholes→aB,pvos→aE,namess→az,pvws→aL
open List renaming length_append→aV,length_map→aF,append_nil→bu,mem_append→bf,mem_cons→bz,append_assoc→aT
open PV renaming noViews→aR
section

theorem R.newResH{κ:Ctx}{G:Gh}{st:St}{a:Act}{w w':World}{d r:Nat}{v:Value}{F D:List Nat}{lo hi:Nat}{news:List (Nat×(Nat×List PV))}{N':Nat→Prop}{hdv:Nat→Value}{fpv:Nat→List Nat}{sv bv:SlotV}
 (h:RG κ G st a w) (hd:d<κ.nt) (hrd:r≠d) (hbr:isBox (st.s r)=true) (hbv:isBox bv=true) (hD:∀ c∈D,(st.o c).isSome=true) (hb:KeepX (G.ad r::fps G.fp D) w.heap.size w w') (hF:∀ b∈F,(w.heap.size≤b∨b∈fps G.fp D)∧b<w'.heap.size)
 (hN':∀ b,N' b→Nof κ st G w b∨((w.heap.size≤b∨b∈fps G.fp D)∧b<w'.heap.size∧b∉F)) (hnews:News N' w' hdv fpv F lo hi news) (hfresh:∀ n∈news.map (·.1),st.noC n) (hnb:isBox sv=false)
 (hsv:∀ (N:Nat→Prop) (G':Gh),(∀ b,N' b→N b)→(∀ n,lo≤n→n<hi→G'.hd n=hdv n)→SlotOk N w' G' d v sv)
 (hbok:∀ (N:Nat→Prop) (G':Gh),(∀ b,N' b→N b)→(∀ b,Nof κ st G w b→N b)→(∀ n,lo≤n→n<hi→G'.hd n=hdv n)→G'.ad=G.ad→SlotOk N w' G' r (a.tmps.getD r undef) bv):
 R κ { s:=upd (upd st.s r bv) d sv,o:=updAll st.o (deadObjs D++newObjs news) } (a.put (some d) v) w':=by
 have hbs:=h.keep.size
 let G':Gh:={ hd:=fun n=>if n∈news.map (·.1) then hdv n else G.hd n,fp:=fun n=>if n∈news.map (·.1) then fpv n else G.fp n,ad:=G.ad }
 have hDin:∀ b,b∈fps G.fp D→∃ c p,c∈D∧st.o c=some p∧b∈G.fp c:=by
  intro b hb'
  obtain⟨c,hc,hm⟩:=mem_fps.1 hb'
  obtain⟨p,hp⟩:=Option.isSome_iff_exists.1 (hD c hc)
  exact⟨c,p,hc,hp,hm⟩
 have hDlt:∀ b,b∈fps G.fp D→(κ.w0.heap.size≤b∨b∈κ.L)∧b<w.heap.size:=by
  intro b hb'
  obtain⟨c,p,_,hp,hm⟩:=hDin b hb'
  exact(h.objs c p.1 p.2 hp).2.2 b hm
 have hlt:∀ b,Nof κ st G w b→b<w.heap.size:=fun b hb=>hb.lt h
 have hNX:∀ b,Nof κ st G w b→b∉fps G.fp D:=by
  intro b hb' hm
  obtain⟨c,p,_,hp,hm⟩:=hDin b hm
  exact hb'.2 (.inr ⟨c,p,hp,hm⟩)
 have hNr:∀ b,Nof κ st G w b→b≠G.ad r:=fun b hb' e=>hb'.2 (.inl ⟨r,hbr,e⟩)
 have hbox:∀ k,isBox (upd (upd st.s r bv) d sv k)=true→isBox (st.s k)=true∧k≠d:=by
  intro k hk
  simp only[upd] at hk
  split at hk
  ·rw[hnb] at hk; cases hk
  ·rename_i hkd
   refine⟨?_,hkd⟩
   split at hk
   ·rename_i e; rw[e]; exact hbr
   ·exact hk
 have hbX:∀ r,isBox (st.s r)=true→G.ad r∉fps G.fp D:=by
  intro r hr hm
  obtain⟨c,p,_,hp,hm⟩:=hDin _ hm
  exact h.bo r c p hr hp hm
 have hob:∀ c sz es,updAll st.o (deadObjs D++newObjs news) c=some (sz,es)→(c∈news.map (·.1)∧(c,(sz,es))∈news)∨(c∉news.map (·.1)∧c∉D∧st.o c=some (sz,es)):=by
  intro c sz es hc
  rw[updAll_append] at hc
  by_cases hm:c∈news.map (·.1)
  ·left
   refine⟨hm,?_⟩
   obtain⟨⟨n,p⟩,h1,rfl⟩:=List.mem_map.1 hm
   have h2:(n,some p)∈newObjs news:=List.mem_map.2 ⟨(n,p),h1,rfl⟩
   rw[updAll_mem _ _ n (some p) (by rw[newObjs_keys]; exact hnews.once) h2] at hc
   cases hc; exact h1
  ·right
   rw[updAll_notMem _ _ _ (by rw[newObjs_keys]; exact hm),updAll_dead] at hc
   by_cases hcD:c∈D
   ·simp[hcD] at hc
   ·simp only[hcD,if_false] at hc; exact⟨hm,hcD,hc⟩
 have hoX:∀ c sz es,c∉D→st.o c=some (sz,es)→∀ b∈G.fp c,b∉fps G.fp D:=by
  intro c sz es hcD ho b hb' hm
  obtain⟨c',p',hc',hp',hm'⟩:=hDin b hm
  exact h.oo c c' _ p' ho hp' (fun e=>hcD (e▸hc')) b hb' hm'
 have hNw:∀ b,Nof κ st G w b→Nof κ { s:=upd (upd st.s r bv) d sv,o:=updAll st.o (deadObjs D++newObjs news) } G' w' b:=by
  intro b hb'
  have hbl:=hlt b hb'
  refine⟨?_,fun hp=>?_⟩
  ·rcases hb'.1 with h1 | h1
   ·exact .inl h1
   ·exact .inr ⟨h1.1,Nat.lt_of_lt_of_le h1.2 hb.size⟩
  ·rcases hp with⟨k,h1,h2⟩ | ⟨c,⟨sz,es⟩,h1,h2⟩
   ·exact hb'.2 (.inl ⟨k,(hbox k h1).1,h2⟩)
   ·rcases hob c sz es h1 with⟨hm,hin⟩ | ⟨hm,_,ho⟩
    ·simp only[G',hm,if_true] at h2
     rcases (hF b ((hnews.rep c sz es hin).2.2.2.2 b h2)).1 with h3 | h3
     ·omega
     ·exact hNX b hb' h3
    ·simp only[G',hm,if_false] at h2
     exact hb'.2 (.inr ⟨c,(sz,es),ho,h2⟩)
 have hNn:∀ b,N' b→Nof κ { s:=upd (upd st.s r bv) d sv,o:=updAll st.o (deadObjs D++newObjs news) } G' w' b:=by
  intro b hb'
  rcases hN' b hb' with h1 | ⟨h1,h2,h3⟩
  ·exact hNw b h1
  ·refine⟨.inr ⟨?_,h2⟩,fun hp=>?_⟩
   ·rcases h1 with h1 | h1
    ·exact .inl (by omega)
    ·exact(hDlt b h1).1
   ·rcases hp with⟨k,g1,g2⟩ | ⟨c,⟨sz,es⟩,g1,g2⟩
    ·simp only[G'] at g2
     rcases h1 with h1 | h1
     ·have:=(h.boxes k (hbox k g1).1).2; omega
     ·exact hbX k (hbox k g1).1 (g2▸h1)
    ·rcases hob c sz es g1 with⟨hm,hin⟩ | ⟨hm,hcD,ho⟩
     ·simp only[G',hm,if_true] at g2
      exact h3 ((hnews.rep c sz es hin).2.2.2.2 b g2)
     ·simp only[G',hm,if_false] at g2
      rcases h1 with h1 | h1
      ·have:=((h.objs c sz es ho).2.2 b g2).2; omega
      ·exact hoX c sz es hcD ho b g2 h1
 have hw:∀ b,b<w.heap.size→b≠G.ad r→b∉fps G.fp D→w'.heap[b]?=w.heap[b]?:=fun b h1 h2 h3=>hb.block b h1 (by simp[h2,h3])
 have hkeep:KeepX κ.L κ.w0.heap.size w w':=⟨hb.os,hb.tape,hb.output,hb.size,fun k hk hkL=>hw k (by omega) (fun e=>(h.boxes r hbr).1.elim (fun h1=>by omega) (fun h1=>hkL (e▸h1))) (fun hm=>(hDlt k hm).1.elim (fun h1=>by omega) hkL),hb.drawn⟩
 have hG':∀ n,lo≤n→n<hi→G'.hd n=hdv n:=fun n h1 h2=>by simp only[G',hnews.all n h1 h2,if_true]
 refine⟨G',h.keep.trans hkeep,by simpa[Act.put] using h.defers,by simpa[Act.put] using h.nt,?_,?_,?_,?_,?_,?_,?_⟩
 ·intro k
  rw[getD_put (by rw[h.nt]; exact hd)]
  by_cases hkd:k=d
  ·subst hkd
   have:upd (upd st.s r bv) k sv k=sv:=upd_same _ _ _
   simp only[this,if_true]
   exact hsv _ G' hNn hG'
  ·rw[if_neg hkd]
   have e1:upd (upd st.s r bv) d sv k=upd st.s r bv k:=upd_ne hkd
   simp only[e1]
   by_cases hkr:k=r
   ·subst hkr
    have:upd st.s k bv k=bv:=upd_same _ _ _
    rw[this]
    exact hbok _ G' hNn hNw hG' rfl
   ·have:upd st.s r bv k=st.s k:=upd_ne hkr
    rw[this]
    refine SlotOk.frame (G:=G) (G':=G') hNw (fun b hb'=>hw b (hlt b hb') (hNr b hb') (hNX b hb')) (fun c hc=>?_) (fun _ _=>rfl) (fun hbk=>⟨rfl,hw _ (h.boxes k hbk).2 (fun e=>hkr (h.bb k r hbk hbr e)) (hbX k hbk)⟩) (h.slots k)
    by_cases hm:c∈news.map (·.1)
    ·rw[(hfresh c hm).2 k] at hc; cases hc
    ·simp only[G',hm,if_false]
 ·intro c sz es hc
  rcases hob c sz es hc with⟨hm,hin⟩ | ⟨hm,hcD,ho⟩
  ·obtain⟨g1,g2,g3,g4,g5⟩:=hnews.rep c sz es hin
   simp only[G',hm,if_true]
   refine⟨RepC.frame hNn (fun _ _=>rfl) _ _ _ (fun _ _=>rfl) g3,g4,fun b hb'=>⟨?_,(hF b (g5 b hb')).2⟩⟩
   rcases (hF b (g5 b hb')).1 with h1 | h1
   ·exact .inl (by omega)
   ·exact(hDlt b h1).1
  ·simp only[G',hm,if_false]
   obtain⟨g1,g2,g3⟩:=h.objs c sz es ho
   exact⟨RepC.frame hNw (fun b hb'=>hw b (hlt b hb') (hNr b hb') (hNX b hb')) _ _ _ (fun b hb'=>hw b (g3 b hb').2 (fun e=>h.bo r c _ hbr ho (e▸hb')) (hoX c sz es hcD ho b hb')) g1,g2,fun b hb'=>⟨(g3 b hb').1,Nat.lt_of_lt_of_le (g3 b hb').2 hb.size⟩⟩
 ·intro k hk
  have:=h.boxes k (hbox k hk).1
  exact⟨this.1,Nat.lt_of_lt_of_le this.2 hb.size⟩
 ·exact fun k k' h1 h2=>h.bb k k' (hbox k h1).1 (hbox k' h2).1
 ·intro k c ⟨sz,es⟩ h1 h2 hm'
  rcases hob c sz es h2 with⟨hm,hin⟩ | ⟨hm,hcD,ho⟩
  ·simp only[G',hm,if_true] at hm'
   rcases (hF _ ((hnews.rep c sz es hin).2.2.2.2 _ hm')).1 with g1 | g1
   ·have g2:=(h.boxes k (hbox k h1).1).2; omega
   ·exact hbX k (hbox k h1).1 g1
  ·simp only[G',hm,if_false] at hm'
   exact h.bo k c (sz,es) (hbox k h1).1 ho hm'
 ·intro c c' ⟨sz,es⟩ ⟨sz',es'⟩ h1 h2 hne b hb1 hb2
  rcases hob c sz es h1 with⟨hm,hin⟩ | ⟨hm,hcD,ho⟩<;>rcases hob c' sz' es' h2 with⟨hm',hin'⟩ | ⟨hm',hcD',ho'⟩
  ·simp only[G',hm,hm',if_true] at hb1 hb2
   exact hnews.apart c c' _ _ hin hin' hne b hb1 hb2
  ·simp only[G',hm,hm',if_true,if_false] at hb1 hb2
   rcases (hF _ ((hnews.rep c sz es hin).2.2.2.2 _ hb1)).1 with g1 | g1
   ·have g2:=((h.objs c' sz' es' ho').2.2 b hb2).2; omega
   ·exact hoX c' sz' es' hcD' ho' b hb2 g1
  ·simp only[G',hm,hm',if_true,if_false] at hb1 hb2
   rcases (hF _ ((hnews.rep c' sz' es' hin').2.2.2.2 _ hb2)).1 with g1 | g1
   ·have g2:=((h.objs c sz es ho).2.2 b hb1).2; omega
   ·exact hoX c sz es hcD ho b hb1 g1
  ·simp only[G',hm,hm',if_false] at hb1 hb2
   exact h.oo c c' _ _ ho ho' hne b hb1 hb2
 ·intro c v' hc
  have hm:c∉news.map (·.1):=fun hm=>by have:=(hfresh c hm).1.1; have:=κ.hH c v' hc; omega
  simp only[G',hm,if_false]
  exact h.held c v' hc

/-! ### What is handed over with its handle -/
inductive BV where
 | pv (p:PV)
 | mp (es:List MEnt) (clock:Nat)
instance:Inhabited BV:=⟨.mp [] 0⟩
def RepBV(N:Nat→Prop)(w:World)(b:Nat)(F:List Nat):BV→Prop
 | .pv p=>∃ cs e,w.heap[b]?=some (.cells cs.toArray e (0,0))∧RepC N w p cs F
 | .mp kv clock=>F=[]∧HCok N w (fun _=>undef) (fun _=>0) b (.mp kv clock)
def BV.hc(c:Nat):BV→HC
 | .pv p=>.cv (explode p c).1
 | .mp kv clock=>.mp kv clock
def BV.objs(c:Nat):BV→List (Nat×(Nat×List PV))
 | .pv p=>(explode p c).2.1
 | .mp _ _=>[]
def BV.hi(c:Nat):BV→Nat
 | .pv p=>(explode p c).2.2
 | .mp _ _=>c
def BV.noView:BV→Bool
 | .pv p=>p.noView
 | .mp kv _=>kv.all fun e=>e.2.1.noView
theorem MapIs.noView{N N':Nat→Prop}{w:World}:∀ {kv:List MEnt} {es:List MapEntry},(kv.all fun e=>e.2.1.noView)=true→MapIs N w kv es→MapIs N' w kv es
 | [],_,_,h=>h
 | (k,p,s)::kv,es,hv,h=>by
  simp only[List.all_cons,aD] at hv
  obtain⟨e,es',h1,h2,h3,h4,h5⟩:=h
  exact⟨e,es',h1,h2,h3,RepV.noView hv.1 h4,MapIs.noView hv.2 h5⟩
theorem RepBV.noView{N N':Nat→Prop}{w:World}{b:Nat}{F:List Nat}{x:BV}(hv:x.noView=true)(h:RepBV N w b F x):RepBV N' w b F x:=by
 cases x with
 | pv p=>obtain⟨cs,e,h1,h2⟩:=h; exact⟨cs,e,h1,RepC.noView p cs F hv h2⟩
 | mp kv clock=>obtain⟨hF,es,h1,h2,h3⟩:=h; exact⟨hF,es,h1,h2.noView hv,h3⟩
theorem explodeB_ok{N:Nat→Prop}{w:World}{b:Nat}{F:List Nat}{x:BV}{c:Nat}(h:RepBV N w b F x)(hn:F.Nodup):
 ∃ hdv fpv,News N w hdv fpv F c (x.hi c) (x.objs c)∧∀ (N':Nat→Prop) (hd:Nat→Value) (ad:Nat→Nat),(∀ b,N b→N' b)→(∀ n,c≤n→n<x.hi c→hd n=hdv n)→HCok N' w hd ad b (x.hc c):=by
 cases x with
 | pv p=>
  obtain⟨cs,e,h1,h2⟩:=h
  obtain⟨hdv,fpv,n1,r1⟩:=explode_ok p cs F c h2 hn
  exact⟨hdv,fpv,n1,fun N' hd ad hN hh=>⟨cs,e,h1,RepCV.frame hN (fun _ _=>rfl) _ _ (fun _ _=>rfl) (r1 hd hh)⟩⟩
 | mp kv clock=>
  obtain⟨rfl,es,h1,h2,h3⟩:=h
  refine⟨fun _=>undef,fun _=>[],⟨by simp[BV.objs],by simp[BV.objs],by simp[BV.objs],Nat.le_refl _,fun n g1 g2=>absurd g2 (by simp[BV.hi]; omega)⟩,fun N' hd ad hN _=>⟨es,h1,MapIs.frame hN (fun _ _=>rfl) kv es h2,h3⟩⟩

/-- Called with these, and with a handle to a block of its own that holds x (between 'pre' and 'post'): it returns this, and the block then holds x'. -/
def SatH(P:Program)(f:FuncId)(pre post:List PV)(sh:Sh)(ps:List PV)(x x':BV)(res:PV):Prop:=
 CallIs P f∧∀ (w:World) (N:Nat→Prop) (v1 v2 vals:List Value) (b:Nat) (Fx Fs:List Nat),(∀ c,N c→c<w.heap.size∧c∉b::(Fx++Fs))→(b::(Fx++Fs)).Nodup→(∀ c∈b::(Fx++Fs),c<w.heap.size)→
  RepCs N w ps vals []→RepBV N w b Fx x→RepVs N w (pre++post) (v1++v2) Fs→v1.length=pre.length→
  Calls P f (v1++sh.val b vals::v2).toArray w fun e w'=>∃ v F Fx',e=.returned v∧KeepX (b::(Fx++Fs)) w.heap.size w w'∧
   RepBV (fun c=>N c∨((w.heap.size≤c∨c∈Fx++Fs)∧c<w'.heap.size∧c∉Fx'++F)) w' b Fx' x'∧RepR (fun c=>N c∨((w.heap.size≤c∨c∈Fx++Fs)∧c<w'.heap.size∧c∉Fx'++F)) w' res v F∧
   (b::(Fx'++F)).Nodup∧∀ c∈Fx'++F,(w.heap.size≤c∨c∈Fx++Fs)∧c<w'.heap.size

/-! ### The body -/
/-- The slot that holds a handle with what lies behind it. -/
def holdSV(sh:Sh)(ps:List PV):HC→SlotV
 | .cv x=>match sh with | .ptr=>.box x | _=>.hold sh ps (.cv x)
 | h=>.hold sh ps h
/-- What a slot holds behind its handle. -/
def holdHC:SlotV→Option HC
 | .box x=>some (.cv x)
 | .hold _ _ h=>some h
 | _=>none
theorem holdHC_isBox{s:SlotV}{h:HC}(e:holdHC s=some h):isBox s=true:=by
 cases s<;>first | rfl | (simp[holdHC] at e)
theorem holdHC_ok{N:Nat→Prop}{w:World}{G:Gh}{k:Nat}{v:Value}{s:SlotV}{h:HC}(e:holdHC s=some h)(hs:SlotOk N w G k v s):HCok N w G.hd G.ad (G.ad k) h:=by
 cases s<;>simp only[holdHC,Option.some.injEq,reduceCtorEq] at e
 ·subst e; obtain⟨_,cs,e',h1,h2⟩:=hs; exact⟨cs,e',h1,h2⟩
 ·subst e; obtain⟨_,_,_,h3⟩:=hs; exact h3
theorem holdSV_ok{N:Nat→Prop}{w:World}{G:Gh}{k:Nat}{v:Value}{sh:Sh}{ps:List PV}{vals:List Value}{h:HC}(hps:RepCs N w ps vals [])(hv:v=sh.val (G.ad k) vals)(hh:HCok N w G.hd G.ad (G.ad k) h):SlotOk N w G k v (holdSV sh ps h):=by
 cases h with
 | cv x=>cases sh<;>first | exact⟨hv,hh⟩ | exact⟨vals,hps,hv,hh⟩
 | mp _ _=>exact⟨vals,hps,hv,hh⟩
 | it _ _ _ _=>exact⟨vals,hps,hv,hh⟩
def updV:Nat→List SlotV→(Nat→SlotV)→Nat→SlotV
 | _,[],f=>f
 | i,x::xs,f=>updV (i+1) xs (upd f i x)
theorem updV_apply:∀ (xs:List SlotV) (i:Nat) (f:Nat→SlotV) (k:Nat),updV i xs f k=if k<i then f k else match xs[k-i]? with | some x=>x | none=>f k
 | [],i,f,k=>by simp[updV]
 | x::xs,i,f,k=>by
  rw[updV,updV_apply xs (i+1)]
  by_cases h:k<i
  ·have:k<i+1:=by omega
   rw[if_pos this,if_pos h,upd_apply,if_neg (by omega)]
  ·rw[if_neg h]
   by_cases h1:k=i
   ·subst h1; rw[if_pos (by omega)]; simp[upd_apply]
   ·rw[if_neg (by omega)]
    have e:k-i=(k-(i+1))+1:=by omega
    rw[e,List.getElem?_cons_succ,upd_apply,if_neg h1]
/-- A mark that ties a handle's block to a name that never turns. -/
def lnkF(hs:List Value)(as:List Nat)(_:List Value):Value:=
 match hs,as with
 | [.pointer (some ⟨b,_,_⟩)],[a]=>if b=a then undef else .bool true
 | _,_=>.bool true
def gh(r:Nat):SlotV:=.fn [10500] [r] [] lnkF
/-- The state in which a body begins that has been handed a handle. -/
def argSH(pre post:List PV)(sh:Sh)(ps:List PV)(x:BV):St:=
 { s:=upd (updV 0 (((explodes (pre++post) (x.hi 9000)).1.take pre.length).map .val++holdSV sh ps (x.hc 9000)::((explodes (pre++post) (x.hi 9000)).1.drop pre.length).map .val) (fun _=>.dead)) 20000 (gh pre.length),
   o:=updAll (fun _=>none) (newObjs (x.objs 9000++(explodes (pre++post) (x.hi 9000)).2.1)) }
/-- What the handle's block holds in the end, and that nothing of it is a result's. -/
def BxFin(st:St)(k:Nat)(ns:List Nat)(x':BV):Prop:=
 match holdHC (st.s k) with
 | some (.cv y)=>y.whole st.o=true∧(y.names++ns).Nodup∧x'=.pv (y.pvo st.o)
 | some (.mp kv clock)=>ns.Nodup∧x'=.mp kv clock
 | _=>False
def RetHB(P:Program)(st:St)(rs:List ResultVar)(res:PV)(k:Nat)(x':BV):Prop:=
 st.s 20000=gh k∧aB st.o (resCVs P st rs)=true∧resOks P st rs∧((res=asRes (aE st.o (resCVs P st rs))∧BxFin st k (az (resCVs P st rs)) x')∨(res=asRes (aL st.o (resCVs P st rs))∧CV.pures (resCVs P st rs)=true∧BxFin st k [] x'))

theorem SatH.of_body{P:Program}{f:FuncId}{fn:Func}{c:Code}{pre post:List PV}{sh:Sh}{ps:List PV}{x x':BV}{res:PV}{nt:Nat}{rs:List ResultVar}(hf:P.funcs[f]?=some fn)(hname:(fn.name== "runtime.NumGoroutine")=false)(hb:fn.body=some c)
 (hnt:fn.ntmps=nt) (hrs:fn.results.toList=rs) (hle:pre.length+post.length+1≤nt) (hnl:nt≤20000) (hhi:(explodes (pre++post) (x.hi 9000)).2.2≤10000) (h:VC P nt c (argSH pre post sh ps x) (fun e st=>(e=.normal∨e=.ret)∧RetHB P st rs res pre.length x')):SatH P f pre post sh ps x x' res:=by
 refine⟨⟨fn,hf,hname,by simp[hb]⟩,fun w N v1 v2 vals b Fx Fs hN hFn hFl hps hx hvs hl1=>?_⟩
 have hlen:=repVs_length hvs
 simp only[aV] at hlen
 have hFn':=List.nodup_cons.1 hFn
 have hFxn:Fx.Nodup:=(List.nodup_append.1 hFn'.2).1
 have hFsn:Fs.Nodup:=(List.nodup_append.1 hFn'.2).2.1
 have hdis:∀ b∈Fx,b∉Fs:=fun b hb hb'=>(List.nodup_append.1 hFn'.2).2.2 b hb b hb' rfl
 obtain⟨hd1,fp1,n1,r1⟩:=explodeB_ok (c:=9000) hx hFxn
 obtain⟨hd2,fp2,n2,r2⟩:=explodesV_ok (pre++post) (v1++v2) Fs (x.hi 9000) hvs hFsn
 have news:=News.join n1 n2 hdis
 have hle1:=n1.le
 have hle2:=n2.le
 generalize hhd:(fun n=>if n<x.hi 9000 then hd1 n else hd2 n)=hdv at news
 generalize hfp:(fun n=>if n<x.hi 9000 then fp1 n else fp2 n)=fpv at news
 let κ:Ctx:={ w0:=w,N:=N,L:=b::(Fx++Fs),nt:=nt,hN:=hN,hL:=hFl,held:=[(10500,.pointer (some ⟨b,0,none⟩))],hH:=fun c v hc=>by simp at hc; omega }
 let G:Gh:={ hd:=fun n=>if n=10500 then .pointer (some ⟨b,0,none⟩) else hdv n,fp:=fpv,ad:=fun _=>b }
 let xs:=(explodes (pre++post) (x.hi 9000)).1
 have hxl:∀ N' (hd:Nat→Value),(∀ b,N b→N' b)→(∀ n,x.hi 9000≤n→n<(explodes (pre++post) (x.hi 9000)).2.2→hd n=hd2 n)→CVals N' w hd xs (v1++v2):=fun N' hd h1 h2=>r2 N' hd h1 h2
 have hG2:∀ n,x.hi 9000≤n→n<(explodes (pre++post) (x.hi 9000)).2.2→G.hd n=hd2 n:=fun n h1 h2=>by
  show(if n=10500 then _ else hdv n)=_
  rw[if_neg (by omega),← hhd]; have:¬ n<x.hi 9000:=by omega
  simp[this]
 have hG1:∀ n,9000≤n→n<x.hi 9000→G.hd n=hd1 n:=fun n h1 h2=>by
  show(if n=10500 then _ else hdv n)=_
  rw[if_neg (by omega),← hhd]; simp[h2]
 have hxlen:xs.length=v1.length+v2.length:=by
  have:=cvals_length (hxl N G.hd (fun _ h=>h) hG2)
  simpa using this.symm
 have hS:∀ k,k≠20000→(argSH pre post sh ps x).s k=if k<pre.length then(match xs[k]? with | some y=>.val y | none=>.dead) else if k=pre.length then holdSV sh ps (x.hc 9000) else(match xs[k-1]? with | some y=>.val y | none=>.dead):=by
  intro k hk0
  simp only[argSH]
  rw[upd_ne hk0,updV_apply]
  simp only[Nat.not_lt_zero,if_false,Nat.sub_zero]
  have hpl:pre.length≤xs.length:=by omega
  by_cases hk:k<pre.length
  ·rw[if_pos hk,List.getElem?_append_left (by rw[aF,List.length_take]; show k<min pre.length xs.length; omega)]
   simp only[List.getElem?_map,List.getElem?_take_of_lt hk]
   show(match Option.map SlotV.val xs[k]? with | some x=>x | none=>SlotV.dead)=_
   cases xs[k]?<;>rfl
  ·rw[if_neg hk,List.getElem?_append_right (by rw[aF,List.length_take]; show min pre.length xs.length≤k; omega)]
   have e1:(List.map SlotV.val (List.take pre.length xs)).length=pre.length:=by rw[aF,List.length_take]; omega
   show(match (holdSV sh ps (x.hc 9000)::(xs.drop pre.length).map .val)[k-(List.map SlotV.val (List.take pre.length xs)).length]? with | some x=>x | none=>SlotV.dead)=_
   rw[e1]
   by_cases hk2:k=pre.length
   ·subst hk2; simp
   ·rw[if_neg hk2]
    have e2:k-pre.length=(k-1-pre.length)+1:=by omega
    rw[e2,List.getElem?_cons_succ,List.getElem?_map,List.getElem?_drop,show pre.length+(k-1-pre.length)=k-1 by omega]
    cases xs[k-1]?<;>rfl
 have hS0:(argSH pre post sh ps x).s 20000=gh pre.length:=by simp only[argSH]; exact upd_same _ _ _
 have hob:∀ c sz es,(argSH pre post sh ps x).o c=some (sz,es)→(c,(sz,es))∈(x.objs 9000++(explodes (pre++post) (x.hi 9000)).2.1):=by
  intro c sz es hc
  simp only[argSH] at hc
  by_cases hm:c∈(x.objs 9000++(explodes (pre++post) (x.hi 9000)).2.1).map (·.1)
  ·obtain⟨⟨n,p⟩,h1,rfl⟩:=List.mem_map.1 hm
   have h2:(n,some p)∈newObjs (x.objs 9000++(explodes (pre++post) (x.hi 9000)).2.1):=List.mem_map.2 ⟨(n,p),h1,rfl⟩
   rw[updAll_mem _ _ n (some p) (by rw[newObjs_keys]; exact news.once) h2] at hc
   cases hc; exact h1
  ·rw[updAll_notMem _ _ _ (by rw[newObjs_keys]; exact hm)] at hc; cases hc
 have hnb:∀ k,isBox ((argSH pre post sh ps x).s k)=true→k=pre.length:=by
  intro k hk
  by_cases hk0:k=20000
  ·subst hk0; rw[hS0] at hk; cases hk
  rw[hS k hk0] at hk
  by_cases h1:k<pre.length
  ·rw[if_pos h1] at hk; revert hk; cases xs[k]?<;>exact fun hk=>nomatch hk
  ·rw[if_neg h1] at hk
   by_cases h2:k=pre.length
   ·exact h2
   ·rw[if_neg h2] at hk; revert hk; cases xs[k-1]?<;>exact fun hk=>nomatch hk
 have hbF:∀ c,c∈Fx++Fs→c≠b:=fun c hc e=>hFn'.1 (e▸hc)
 have hpriv:∀ c,N c→¬ Priv (argSH pre post sh ps x) G c:=by
  rintro c hc (⟨r,h1,h2⟩ | ⟨n,⟨sz,es⟩,h1,h2⟩)
  ·exact(hN c hc).2 (by rw[h2]; exact List.mem_cons_self)
  ·exact(hN c hc).2 (List.mem_cons_of_mem _ ((news.rep n sz es (hob n sz es h1)).2.2.2.2 c h2))
 have hNof:∀ c,N c→Nof κ (argSH pre post sh ps x) G w c:=fun c hc=>⟨.inl hc,hpriv c hc⟩
 have hR:RG κ G (argSH pre post sh ps x) { tmps:=(v1++sh.val b vals::v2).toArray++Array.replicate (fn.ntmps-(v1++sh.val b vals::v2).toArray.size) undef,defers:=[] } w:=by
  have hvals:∀ k u,(v1++sh.val b vals::v2)[k]?=some u→((v1++sh.val b vals::v2).toArray++Array.replicate (fn.ntmps-(v1++sh.val b vals::v2).toArray.size) undef).getD k undef=u:=by
   intro k u hu
   have hkl:k<(v1++sh.val b vals::v2).length:=(List.getElem?_eq_some_iff.1 hu).1
   simp only[Array.getD_eq_getD_getElem?]
   rw[Array.getElem?_append_left (by simpa using hkl)]
   rw[List.getElem?_toArray,hu]; rfl
  refine⟨KeepX.refl _ _ _,rfl,by simp[hnt,κ]; omega,?_,?_,?_,fun r r' hr hr' _=>(hnb r hr).trans (hnb r' hr').symm,?_,?_,fun c v' hc=>by simp only[κ,List.mem_singleton,Prod.mk.injEq] at hc; obtain⟨rfl,rfl⟩:=hc; simp[G]⟩
  ·intro k
   by_cases hk0:k=20000
   ·subst hk0
    rw[hS0]
    refine⟨[],by simp[RepCs],?_⟩
    have:((v1++sh.val b vals::v2).toArray++Array.replicate (fn.ntmps-(v1++sh.val b vals::v2).toArray.size) undef).getD 20000 undef=undef:=by
     rw[Array.getD_eq_getD_getElem?,Array.getElem?_eq_none (by simp[hnt]; omega)]; rfl
    rw[this]
    simp[lnkF,G]
   rw[hS k hk0]
   by_cases h1:k<pre.length
   ·rw[if_pos h1]
    cases hk:xs[k]? with
    | none=>trivial
    | some y=>
     obtain⟨u,g1,g2⟩:=cvals_at k y (hxl (Nof κ (argSH pre post sh ps x) G w) G.hd hNof hG2) hk
     rw[List.getElem?_append_left (by omega)] at g1
     rw[hvals k u (by rw[List.getElem?_append_left (by omega)]; exact g1)]
     exact g2
   ·rw[if_neg h1]
    by_cases h2:k=pre.length
    ·rw[if_pos h2]
     rw[hvals k (sh.val b vals) (by subst h2; rw[List.getElem?_append_right (by omega),hl1]; simp)]
     exact holdSV_ok (vals:=vals) (RepCs.frame hNof (fun _ _=>rfl) ps vals [] (by simp) hps) rfl (r1 (Nof κ (argSH pre post sh ps x) G w) G.hd G.ad hNof hG1)
    ·rw[if_neg h2]
     cases hk:xs[k-1]? with
     | none=>trivial
     | some y=>
      obtain⟨u,g1,g2⟩:=cvals_at (k-1) y (hxl (Nof κ (argSH pre post sh ps x) G w) G.hd hNof hG2) hk
      rw[List.getElem?_append_right (by omega)] at g1
      rw[hvals k u (by
       rw[List.getElem?_append_right (by omega)]
       have:k-v1.length=(k-1-v1.length)+1:=by omega
       rw[this,List.getElem?_cons_succ]; exact g1)]
      exact g2
  ·intro c sz es hc
   obtain⟨_,g2,g3,g4,g5⟩:=news.rep c sz es (hob c sz es hc)
   have e0:G.hd c=hdv c:=by show(if c=10500 then _ else hdv c)=_; rw[if_neg (by omega)]
   rw[e0]
   exact⟨RepC.frame hNof (fun _ _=>rfl) _ _ _ (fun _ _=>rfl) g3,g4,fun c hc=>⟨.inr (List.mem_cons_of_mem _ (g5 c hc)),hFl c (List.mem_cons_of_mem _ (g5 c hc))⟩⟩
  ·intro r _
   exact⟨.inr List.mem_cons_self,hFl b List.mem_cons_self⟩
  ·intro r c ⟨sz,es⟩ _ h2 hm
   exact hbF b ((news.rep c sz es (hob c sz es h2)).2.2.2.2 b hm) rfl
  ·intro c c' ⟨sz,es⟩ ⟨sz',es'⟩ h1 h2 hne
   exact news.apart c c' _ _ (hob c sz es h1) (hob c' sz' es' h2) hne
 refine calls_of_wp hf hb (h κ _ w rfl ⟨G,hR⟩ _ ?_)
 intro e st' a' w' ⟨he,hgh,hw,hok,hres⟩ ⟨G',hG⟩
 have had:G'.ad pre.length=b:=by
  have h1:=hG.slots 20000
  rw[hgh] at h1
  obtain⟨_,_,h2⟩:=h1
  have h3:G'.hd 10500=.pointer (some ⟨b,0,none⟩):=hG.held 10500 _ (by simp[κ])
  have h4:a'.tmps.getD 20000 undef=undef:=by rw[Array.getD_eq_getD_getElem?,Array.getElem?_eq_none (by rw[hG.nt]; exact hnl)]; rfl
  rw[h4] at h2
  simp only[List.map_cons,List.map_nil,h3,lnkF] at h2
  by_cases e1:b=G'.ad pre.length
  ·exact e1.symm
  ·rw[if_neg e1] at h2; simp[undef] at h2
 have hlive:=CV.namess_live _ hw
 -- what the block holds
 have fin:∀ ns:List Nat,(∀ c∈ns,(st'.o c).isSome=true)→BxFin st' pre.length ns x'→∃ Fx',(Fx'++fps G'.fp ns).Nodup∧b∉Fx'++fps G'.fp ns∧(∀ c∈Fx'++fps G'.fp ns,(w.heap.size≤c∨c∈Fx++Fs)∧c<w'.heap.size)∧
  (∀ c,Nof κ st' G' w' c→c∉b::(Fx'++fps G'.fp ns))∧∀ N',(∀ c,Nof κ st' G' w' c→N' c)→RepBV N' w' b Fx' x':=by
  intro ns hns hbx
  simp only[BxFin] at hbx
  have fps_in:∀ ms:List Nat,(∀ c∈ms,(st'.o c).isSome=true)→isBox (st'.s pre.length)=true→b∉fps G'.fp ms∧(∀ c∈fps G'.fp ms,(w.heap.size≤c∨c∈Fx++Fs)∧c<w'.heap.size)∧∀ c,Nof κ st' G' w' c→c∉b::fps G'.fp ms:=by
   intro ms hms hbb
   have hb1:b∉fps G'.fp ms:=fun hm=>by
    obtain⟨c,hc,hm⟩:=mem_fps.1 hm
    obtain⟨p,hp⟩:=Option.isSome_iff_exists.1 (hms c hc)
    exact hG.bo pre.length c p hbb hp (had▸hm)
   refine⟨hb1,fun d hd=>?_,fun d hd hm=>?_⟩
   ·obtain⟨c,hc,hm⟩:=mem_fps.1 hd
    obtain⟨⟨sz,es⟩,hp⟩:=Option.isSome_iff_exists.1 (hms c hc)
    obtain⟨g1,g2⟩:=(hG.objs c sz es hp).2.2 d hm
    refine⟨g1.imp id (fun g=>?_),g2⟩
    rcases List.mem_cons.1 g with e1 | g
    ·exact absurd (e1▸hd) hb1
    ·exact g
   ·rcases List.mem_cons.1 hm with e1 | hm
    ·exact hd.2 (.inl ⟨pre.length,hbb,by rw[had]; exact e1⟩)
    ·obtain⟨c,hc,hm⟩:=mem_fps.1 hm
     obtain⟨p,hp⟩:=Option.isSome_iff_exists.1 (hms c hc)
     exact hd.2 (.inr ⟨c,p,hp,hm⟩)
  have hsl:=hG.slots pre.length
  cases hh:holdHC (st'.s pre.length) with
  | none=>rw[hh] at hbx; exact hbx.elim
  | some hc=>
   rw[hh] at hbx
   have hbb:=holdHC_isBox hh
   have hok':=holdHC_ok hh hsl
   rw[had] at hok'
   cases hc with
   | cv y=>
    obtain⟨g1,g2,rfl⟩:=hbx
    obtain⟨cs,e',g3,g4⟩:=hok'
    have hl:∀ c∈y.names++ns,(st'.o c).isSome=true:=fun c hc=>(List.mem_append.1 hc).elim (CV.names_live y g1 c) (hns c)
    obtain⟨k1,k2,k3⟩:=fps_in (y.names++ns) hl hbb
    have k4:=fps_nodup hG _ g2 hl
    rw[fps_append] at k1 k2 k3 k4
    exact⟨fps G'.fp y.names,k4,k1,k2,k3,fun N' hN'=>⟨cs,e',g3,RepC.frame hN' (fun _ _=>rfl) _ _ _ (fun _ _=>rfl) (RepCV.own (fun c sz es hc=>(hG.objs c sz es hc).1) y cs g1 g4)⟩⟩
   | mp kv clock=>
    obtain⟨g2,rfl⟩:=hbx
    obtain⟨es,g3,g4,g5⟩:=hok'
    obtain⟨k1,k2,k3⟩:=fps_in ns hns hbb
    exact⟨[],by simpa using fps_nodup hG _ g2 hns,by simpa using k1,by simpa using k2,by simpa using k3,fun N' hN'=>⟨rfl,es,g3,MapIs.frame hN' (fun _ _=>rfl) kv es g4,g5⟩⟩
   | it _ _ _ _=>exact hbx.elim
 have key:a'.defers=[]∧∃ v,(results fn a'.tmps).run P w'=.ok v w'∧∃ v' F Fx',Ending.returned v=.returned v'∧KeepX (b::(Fx++Fs)) w.heap.size w w'∧
  RepBV (fun c=>N c∨((w.heap.size≤c∨c∈Fx++Fs)∧c<w'.heap.size∧c∉Fx'++F)) w' b Fx' x'∧RepR (fun c=>N c∨((w.heap.size≤c∨c∈Fx++Fs)∧c<w'.heap.size∧c∉Fx'++F)) w' res v' F∧
  (b::(Fx'++F)).Nodup∧∀ c∈Fx'++F,(w.heap.size≤c∨c∈Fx++Fs)∧c<w'.heap.size:=by
  obtain⟨vs',h1,h2⟩:=run_results hG rs hw hok
  refine⟨hG.defers,(if h:vs'.toArray.size=1 then vs'.toArray[0] else .tuple vs'.toArray),?_,(if h:vs'.toArray.size=1 then vs'.toArray[0] else .tuple vs'.toArray),?_⟩
  ·have e1:fn.results=rs.toArray:=by rw[← hrs]
   simp only[results,e1,List.mapM_toArray,Sem.run_bind,Sem.run_map,Sem.run_pure]
   exact congrArg (fun r:Result (List Value)=>((r.andThen fun a w'=>.ok a.toArray w').andThen fun a w'=>.ok (if h:a.size=1 then a[0] else Value.tuple a) w')) h1
  have hfr:∀ Fx' F,(∀ c,Nof κ st' G' w' c→c∉b::(Fx'++F))→∀ c,Nof κ st' G' w' c→N c∨((w.heap.size≤c∨c∈Fx++Fs)∧c<w'.heap.size∧c∉Fx'++F):=by
   intro Fx' F hnot c hc
   have hn:=hnot c hc
   rcases hc.1 with h | h
   ·exact .inl h
   ·refine .inr ⟨h.1.imp id (fun g=>?_),h.2,fun hm=>hn (List.mem_cons_of_mem _ hm)⟩
    rcases List.mem_cons.1 g with e1 | g
    ·exact absurd (e1▸List.mem_cons_self) hn
    ·exact g
  rcases hres with⟨hr,hbx⟩ | ⟨hr,hpu,hbx⟩
  ·obtain⟨Fx',k1,k2,k3,k4,k5⟩:=fin _ hlive hbx
   have hown:=CVals.own (fun c sz es hc=>(hG.objs c sz es hc).1) hw h2
   refine⟨fps G'.fp (az (resCVs P st' rs)),Fx',rfl,hG.keep,k5 _ (hfr _ _ k4),?_,List.nodup_cons.2 ⟨k2,k1⟩,k3⟩
   rw[hr]
   exact repR_asRes (repVs_frame (hfr _ _ k4) (fun _ _=>rfl) (fun _ _=>rfl) hown) (pvos_ne hown)
  ·obtain⟨Fx',k1,k2,k3,k4,k5⟩:=fin [] (by simp) hbx
   simp only[fps,bu] at k1 k2 k3 k4
   have hview:=cvals_pureView (ob:=st'.o) _ _ hpu h2
   refine⟨[],Fx',rfl,hG.keep,k5 _ (hfr _ _ (by simpa using k4)),?_,by simpa using⟨k2,k1⟩,by simpa using k3⟩
   rw[hr]
   exact repR_asRes (repVs_frame (hfr _ _ (by simpa using k4)) (fun _ _=>rfl) (by simp) hview) (pvos_ne hview)
 rcases he with rfl | rfl<;>exact key
theorem SatH.of_m{P:Program}{nt n:Nat}{f:FuncId}{fn:Func}{c:Code}{pre post:List PV}{sh:Sh}{ps:List PV}{x x':BV}{res:PV}{rs:List ResultVar}(hf:P.funcs[f]?=some fn)(hname:(fn.name== "runtime.NumGoroutine")=false)(hb:fn.body=some c)
 (hnt:fn.ntmps=nt) (hrs:fn.results.toList=rs) (hle:pre.length+post.length+1≤nt) (hnl:nt≤20000) (hhi:(explodes (pre++post) (x.hi 9000)).2.2≤10000)
 (h:Mg P nt (fun st=>RetHB P st rs res pre.length x') n (.code c) (argSH pre post sh ps x) []):SatH P f pre post sh ps x x' res:=
 SatH.of_body hf hname hb hnt hrs hle hnl hhi (Mg.sound n _ _ _ h)
end
section
def HC.names:HC→List Nat
 | .cv y=>y.names
 | _=>[]
/-- What stands behind a handle, as it is handed over. -/
def HC.isBV(ob:Nat→Option (Nat×List PV))(x:BV):HC→Prop
 | .cv y=>y.whole ob=true∧x=.pv (y.pvo ob)
 | .mp kv clock=>x=.mp kv clock
 | .it _ _ _ _=>False
def setH:SlotV→HC→SlotV
 | .box _,.cv y=>.box y
 | .hold sh ps _,h=>.hold sh ps h
 | s,_=>s
def okH:SlotV→HC→Bool
 | .box _,.cv _=>true
 | .hold ..,_=>true
 | _,_=>false
theorem okH_box{s:SlotV}{h:HC}(e:okH s h=true):isBox (setH s h)=true:=by
 cases s<;>first | (simp[okH] at e; done) | skip
 ·cases h<;>first | rfl | (simp[okH] at e; done)
 ·rfl
theorem setH_ok{N N':Nat→Prop}{w w':World}{G G':Gh}{k:Nat}{v:Value}{s:SlotV}{h:HC}(e:okH s h=true)(hs:SlotOk N w G k v s)(hN:∀ b,N b→N' b)(hw:∀ b,N b→w'.heap[b]?=w.heap[b]?)(ha:G'.ad=G.ad)
 (hh:HCok N' w' G'.hd G'.ad (G.ad k) h):SlotOk N' w' G' k v (setH s h):=by
 cases s<;>first | (simp[okH] at e; done) | skip
 ·cases h<;>first | (simp[okH] at e; done) | skip
  obtain⟨h1,_⟩:=hs
  obtain⟨cs,e',h2,h3⟩:=hh
  exact⟨by rw[ha]; exact h1,cs,e',by rw[ha]; exact h2,h3⟩
 ·obtain⟨vals,h1,h2,_⟩:=hs
  exact⟨vals,RepCs.frame hN hw _ _ [] (by simp) h1,by rw[ha]; exact h2,by rw[ha] at hh ⊢; exact hh⟩

theorem explodeR_ok{N:Nat→Prop}{w:World}{res:PV}{v:Value}{F:List Nat}{c:Nat}(hr:RepR N w res v F)(hn:F.Nodup):
 ∃ hdv fpv hi,News N w hdv fpv F c hi (resObjs res c)∧∀ (N':Nat→Prop) (G:Gh) (k:Nat),(∀ b,N b→N' b)→(∀ n,c≤n→n<hi→G.hd n=hdv n)→SlotOk N' w G k v (resSV res c):=by
 by_cases ht:∃ ps,res=.tup ps
 ·obtain⟨ps,rfl⟩:=ht
  obtain⟨vs,rfl,h2⟩:=hr
  obtain⟨hdv,fpv,n1,r1⟩:=explodesV_ok ps vs F c h2 hn
  exact⟨hdv,fpv,_,n1,fun N' G k hN hh=>⟨vs,rfl,r1 N' G.hd hN hh⟩⟩
 ·have hv:RepV N w res v F:=by
   cases res with
   | tup ps=>exact absurd ⟨ps,rfl⟩ ht
   | _=>exact hr
  obtain⟨hdv,fpv,n1,r1⟩:=explodeV_ok (c:=c) hv hn
  have e1:resSV res c=.val (explode res c).1:=by
   cases res with
   | tup ps=>exact absurd ⟨ps,rfl⟩ ht
   | _=>rfl
  have e2:resObjs res c=(explode res c).2.1:=by
   cases res with
   | tup ps=>exact absurd ⟨ps,rfl⟩ ht
   | _=>rfl
  rw[e1,e2]
  exact⟨hdv,fpv,_,n1,fun N' G k hN hh=>r1 N' G.hd hN hh⟩

theorem callH_core{P:Program}{κ:Ctx}{G:Gh}{st:St}{a:Act}{w:World}{d r:Nat}{f:FuncId}(hG:RG κ G st a w)(hd:d<κ.nt)(hrd:r≠d){hc:HC}(hh:holdHC (st.s r)=some hc){sh:Sh}{ps:List PV}{vals:List Value}
 {x x':BV} (hx:hc.isBV st.o x) {Ds:List Nat} (hDs:∀ c∈Ds,(st.o c).isSome=true) (hnd:(hc.names++Ds).Nodup) {N:Nat→Prop} (hps:RepCs N w ps vals [])
 (hN1:∀ b,N b→b<w.heap.size∧b≠G.ad r∧b∉fps G.fp (hc.names++Ds)) (hNN:∀ b,Nof κ st G w b→N b) {res:PV} (hN2:(∀ b,N b→Nof κ st G w b)∨(res.noView=true∧x'.noView=true))
 {pre post:List PV} {v1 v2:List Value} (hargs:RepVs N w (pre++post) (v1++v2) (fps G.fp Ds)) (hl:v1.length=pre.length) (hsat:SatH P f pre post sh ps x x' res) {c:Nat} (hok:okH (st.s r) (x'.hc c)=true)
 (hfresh:∀ n∈(x'.objs c++resObjs res (x'.hi c)).map (·.1),st.noC n) {next:Act→World→Prop}
 (hnext:∀ w' v,R κ { s:=upd (upd st.s r (setH (st.s r) (x'.hc c))) d (resSV res (x'.hi c)),o:=updAll st.o (deadObjs (hc.names++Ds)++newObjs (x'.objs c++resObjs res (x'.hi c))) } (a.put (some d) v) w'→next (a.put (some d) v) w'):
 Calls P f (v1++sh.val (G.ad r) vals::v2).toArray w (fun e w'=>∃ v,e=.returned v∧next (a.put (some d) v) w'):=by
 have hbr:=holdHC_isBox hh
 have hcok:=holdHC_ok hh (hG.slots r)
 have hcl:∀ c∈hc.names,(st.o c).isSome=true:=by
  cases hc with
  | cv y=>exact CV.names_live y hx.1
  | _=>simp[HC.names]
 have hall:∀ c∈hc.names++Ds,(st.o c).isSome=true:=fun c hc'=>(List.mem_append.1 hc').elim (hcl c) (hDs c)
 have hfn:=fps_nodup hG _ hnd hall
 have hXin:∀ b∈fps G.fp (hc.names++Ds),∃ c p,st.o c=some p∧b∈G.fp c:=by
  intro b hb
  obtain⟨c,hc',hm⟩:=mem_fps.1 hb
  obtain⟨p,hp⟩:=Option.isSome_iff_exists.1 (hall c hc')
  exact⟨c,p,hp,hm⟩
 have hbX:G.ad r∉fps G.fp (hc.names++Ds):=fun hm=>by
  obtain⟨c,p,hp,hm⟩:=hXin _ hm
  exact hG.bo r c p hbr hp hm
 have hXlt:∀ b∈fps G.fp (hc.names++Ds),b<w.heap.size:=fun b hb=>by
  obtain⟨c,p,hp,hm⟩:=hXin _ hb
  exact((hG.objs c p.1 p.2 hp).2.2 b hm).2
 have hrb:RepBV N w (G.ad r) (fps G.fp hc.names) x:=by
  cases hc with
  | cv y=>
   obtain⟨h1,rfl⟩:=hx
   obtain⟨cs,e,h2,h3⟩:=hcok
   exact⟨cs,e,h2,RepC.frame hNN (fun _ _=>rfl) _ _ _ (fun _ _=>rfl) (RepCV.own (fun c sz es hc=>(hG.objs c sz es hc).1) y cs h1 h3)⟩
  | mp kv clock=>
   cases hx
   obtain⟨es,h1,h2,h3⟩:=hcok
   exact⟨rfl,es,h1,MapIs.frame hNN (fun _ _=>rfl) kv es h2,h3⟩
  | it _ _ _ _=>exact hx.elim
 have:=hsat.2 w N v1 v2 vals (G.ad r) (fps G.fp hc.names) (fps G.fp Ds) (fun b hb=>⟨(hN1 b hb).1,fun hm=>by
  rcases List.mem_cons.1 hm with e | hm
  ·exact(hN1 b hb).2.1 e
  ·exact(hN1 b hb).2.2 (by rw[fps_append]; exact hm)⟩) (List.nodup_cons.2 (by rw[fps_append] at hbX hfn; exact⟨hbX,hfn⟩)) (fun b hb=>by
  rcases List.mem_cons.1 hb with e | hm
  ·rw[e]; exact(hG.boxes r hbr).2
  ·exact hXlt b (by rw[fps_append]; exact hm)) hps hrb hargs hl
 refine this.mono ?_
 rintro e w' ⟨v,F,Fx',rfl,hk,hb',hr',hn',hF'⟩
 refine⟨v,rfl,hnext w' v ?_⟩
 rw[← fps_append] at hk hF' hb' hr'
 obtain⟨hn1,hn2⟩:=List.nodup_cons.1 hn'
 have hnA:=(List.nodup_append.1 hn2).1
 have hnB:=(List.nodup_append.1 hn2).2.1
 have hdis:∀ b∈Fx',b∉F:=fun b hb hb'=>(List.nodup_append.1 hn2).2.2 b hb b hb' rfl
 have hwk:∀ b,Nof κ st G w b→w'.heap[b]?=w.heap[b]?:=fun b hb=>hk.block b (hb.lt hG) (fun hm=>by
  rcases List.mem_cons.1 hm with e | hm
  ·exact(hN1 b (hNN b hb)).2.1 e
  ·exact(hN1 b (hNN b hb)).2.2 hm)
 have finish:∀ N':Nat→Prop,(∀ b,N' b→Nof κ st G w b∨((w.heap.size≤b∨b∈fps G.fp (hc.names++Ds))∧b<w'.heap.size∧b∉Fx'++F))→RepBV N' w' (G.ad r) Fx' x'→RepR N' w' res v F→
  R κ { s:=upd (upd st.s r (setH (st.s r) (x'.hc c))) d (resSV res (x'.hi c)),o:=updAll st.o (deadObjs (hc.names++Ds)++newObjs (x'.objs c++resObjs res (x'.hi c))) } (a.put (some d) v) w':=by
  intro N' hN' hbb hrr
  obtain⟨hd1,fp1,n1,r1⟩:=explodeB_ok (c:=c) hbb hnA
  obtain⟨hd2,fp2,hi,n2,r2⟩:=explodeR_ok (c:=x'.hi c) hrr hnB
  have hle1:=n1.le
  have hle2:=n2.le
  refine R.newResH (hdv:=fun n=>if n<x'.hi c then hd1 n else hd2 n) (fpv:=fun n=>if n<x'.hi c then fp1 n else fp2 n) hG hd hrd hbr (okH_box hok) hall hk hF' hN' (News.join n1 n2 hdis) hfresh (resSV_notBox _ _) (fun N2 G' hN2 hh2=>r2 N2 G' d hN2 (fun n g1 g2=>?_))
   (fun N2 G' hN2 hN3 hh2 ha=>setH_ok hok (hG.slots r) hN3 hwk ha (r1 N2 G'.hd G'.ad hN2 (fun n g1 g2=>?_)))
  ·rw[hh2 n (by omega) g2]; have:¬ n<x'.hi c:=by omega
   simp[this]
  ·rw[hh2 n g1 (by omega)]; simp[g2]
 rcases hN2 with hN2 | ⟨hv1,hv2⟩
 ·exact finish _ (fun b hb=>hb.imp (hN2 b) id) hb' hr'
 ·exact finish (fun _=>False) (fun b hb=>hb.elim) (hb'.noView hv2) (hr'.noView hv1)
end
section
/-- A handle, as an operand gives it. -/
def hdl:SlotV→Option (Nat×Sh×List PV)
 | .hptr r sh ps=>some (r,sh,ps)
 | .bptr r [] 0=>some (r,.ptr,[])
 | _=>none
theorem hdl_ok{N:Nat→Prop}{w:World}{G:Gh}{k:Nat}{v:Value}{s:SlotV}{r:Nat}{sh:Sh}{ps:List PV}(e:hdl s=some (r,sh,ps))(h:SlotOk N w G k v s):∃ vals,RepCs N w ps vals []∧v=sh.val (G.ad r) vals:=by
 unfold hdl at e
 split at e
 ·cases e; exact h
 ·cases e; exact⟨[],by simp[RepCs],h⟩
 ·cases e
theorem wholes_append{ob:Nat→Option (Nat×List PV)}:∀ a b:List CV,aB ob (a++b)=(aB ob a&&aB ob b)
 | [],b=>by simp[aB]
 | x::a,b=>by simp[aB,wholes_append a b,Bool.and_assoc]
theorem cvals_append{N:Nat→Prop}{w:World}{hd:Nat→Value}:∀ {a b:List CV} {u v:List Value},CVals N w hd a u→CVals N w hd b v→CVals N w hd (a++b) (u++v)
 | [],_,u,_,h,h'=>by simp only[CVals] at h; subst h; simpa using h'
 | x::a,b,u,v,h,h'=>by
  simp only[CVals] at h
  obtain⟨y,ys,rfl,h1,h2⟩:=h
  simp only[List.cons_append,CVals]
  exact⟨y,ys++v,rfl,h1,cvals_append h2 h'⟩
theorem HC.isBV_congr{ob ob':Nat→Option (Nat×List PV)}{x:BV}{h:HC}(he:∀ n∈h.names,ob' n=ob n)(hb:h.isBV ob x):h.isBV ob' x:=by
 cases h with
 | cv y=>obtain⟨g1,g2⟩:=hb; have:=CV.congr_ob (ob:=ob) (ob':=ob') y he; exact⟨by rw[this.1]; exact g1,by rw[this.2.2]; exact g2⟩
 | mp _ _=>exact hb
 | it _ _ _ _=>exact hb

/-- What the call's arguments are, for all roads. -/
theorem valid_callX{P:Program}{nt:Nat}{o:Oper}{st:St}{d r c:Nat}{f:FuncId}{xs:List CV}{ms:List Bool}{caps:List PV}{hc:HC}{sh:Sh}{ps pre post:List PV}{x x':BV}{res:PV}{rs:List Nat}
 (hdst:o.dst=some d) (hd:d<nt) (hrd:(r==d)=false) (hr:r∈rs) (hh:holdHC (st.s r)=some hc) (hbv:hc.isBV st.o x) (hok:okH (st.s r) (x'.hc c)=true) (hw:aB st.o xs=true)
 (hmn:(hc.names++mixNames ms xs).Nodup) (halias:mixPure ms xs=true∨(res.noView=true∧x'.noView=true∧∀ n∈viewNames ms xs,n∉hc.names++mixNames ms xs))
 (hargs:pre++post=mix ms (aL st.o xs) (aE st.o xs)++caps) (hcaps:∀ p∈caps,PV.size p=1∧(CV.pv p).isAgg=false)
 (hrun:∀ κ G st' a w,κ.nt=nt→(∀ k∈rs,st'.s k=st.s k)→(∀ n∈hc.names++az xs,st'.o n=st.o n)→RG κ G st' a w→CallIs P f→∃ v1 v2 cv vals avs,(execOp a.eval o).run P w=.ok (.enter f (v1++sh.val (G.ad r) vals::v2).toArray) w∧
  v1.length=pre.length∧v1++v2=avs++cv∧CVals (Nof κ st' G w) w G.hd xs avs∧RepCs (Nof κ st' G w) w caps cv []∧RepCs (Nof κ st' G w) w ps vals [])
 (hsat:SatH P f pre post sh ps x x' res):
 Valid P nt o st { rs:=rs,ro:=hc.names++az xs,fc:=(x'.objs c++resObjs res (x'.hi c)).map (·.1),us:=[(r,setH (st.s r) (x'.hc c)),(d,resSV res (x'.hi c))],uo:=deadObjs (hc.names++mixNames ms xs)++newObjs (x'.objs c++resObjs res (x'.hi c)) }:=by
 intro κ st' a w hnt hsame hfresh hR next Q hnext
 obtain⟨G,hG⟩:=hR
 have hrd':r≠d:=by simpa using hrd
 have hcong:=CV.congr_obs (ob:=st.o) (ob':=st'.o) xs (fun n hn=>hsame.2 n (List.mem_append.2 (.inr hn)))
 obtain⟨hw',hv',ho'⟩:=hcong
 have hwx:aB st'.o xs=true:=by rw[hw']; exact hw
 obtain⟨v1,v2,cv,vals,avs,e1,e2,e3,hcv,hcp,hps⟩:=hrun κ G st' a w hnt hsame.1 hsame.2 hG hsat.1
 have hsr:st'.s r=st.s r:=hsame.1 r hr
 have hh':holdHC (st'.s r)=some hc:=by rw[hsr]; exact hh
 have hbv':=HC.isBV_congr (ob':=st'.o) (fun n hn=>hsame.2 n (List.mem_append.2 (.inl hn))) hbv
 have hlive:∀ c∈mixNames ms xs,(st'.o c).isSome=true:=mixNames_live ms xs hwx
 have hbr:=holdHC_isBox hh'
 have hcl:∀ c∈hc.names,(st'.o c).isSome=true:=by
  cases hc with
  | cv y=>exact CV.names_live y hbv'.1
  | _=>simp[HC.names]
 have hall:∀ c∈hc.names++mixNames ms xs,(st'.o c).isSome=true:=fun c hc'=>(List.mem_append.1 hc').elim (hcl c) (hlive c)
 have hobj:∀ c sz es,st'.o c=some (sz,es)→RepC (Nof κ st' G w) w (.sl true sz es) [G.hd c] (G.fp c):=fun c sz es hc=>(hG.objs c sz es hc).1
 have hXin:∀ b∈fps G.fp (hc.names++mixNames ms xs),∃ c p,st'.o c=some p∧b∈G.fp c∧c∈hc.names++mixNames ms xs:=by
  intro b hb
  obtain⟨c,hc',hm⟩:=mem_fps.1 hb
  obtain⟨p,hp⟩:=Option.isSome_iff_exists.1 (hall c hc')
  exact⟨c,p,hp,hm,hc'⟩
 have hNX:∀ b,Nof κ st' G w b→b<w.heap.size∧b≠G.ad r∧b∉fps G.fp (hc.names++mixNames ms xs):=fun b hb=>⟨hb.lt hG,fun e=>hb.2 (.inl ⟨r,hbr,e⟩),fun hm=>by
  obtain⟨c,p,hp,hm,_⟩:=hXin b hm
  exact hb.2 (.inr ⟨c,p,hp,hm⟩)⟩
 unfold Oper.wp
 rw[e1]
 simp only[Oper.upon]
 have done:∀ N:Nat→Prop,(∀ b,N b→b<w.heap.size∧b≠G.ad r∧b∉fps G.fp (hc.names++mixNames ms xs))→(∀ b,Nof κ st' G w b→N b)→((∀ b,N b→Nof κ st' G w b)∨(res.noView=true∧x'.noView=true))→
  RepVs N w (mix ms (aL st'.o xs) (aE st'.o xs)) avs (fps G.fp (mixNames ms xs))→Calls P f (v1++sh.val (G.ad r) vals::v2).toArray w fun e w'=>∃ v,e=.returned v∧next (a.put (some d) v) w':=by
  intro N hN1 hNN hN2 hav
  rw[hv',ho'] at hav
  have hall2:=RepVs.append _ _ _ _ _ _ hav (RepVs.of_caps caps cv [] hcaps (RepCs.frame hNN (fun _ _=>rfl) caps cv [] (by simp) hcp))
  rw[bu,← hargs,← e3] at hall2
  refine callH_core (c:=c) hG (by rw[hnt]; exact hd) hrd' hh' hbv' hlive hmn (RepCs.frame hNN (fun _ _=>rfl) ps vals [] (by simp) hps) hN1 hNN hN2 hall2 e2 hsat (by rw[hsr]; exact hok) (fun n hn=>hfresh.2 n hn) (fun w' v hR=>hnext _ _ ?_)
  simpa[St.app,updAll,hsr] using hR
 rcases halias with hpure | ⟨hnv,hnv',hvn⟩
 ·have hvw:∀ (ms:List Bool) (xs:List CV),mixPure ms xs=true→viewNames ms xs=[]:=by
   intro ms xs
   induction xs generalizing ms with
   | nil=>intro _; rfl
   | cons y ys ih=>
    intro hp
    simp only[mixPure,aD] at hp
    simp only[viewNames,ih _ hp.2,bu]
    cases hm:ms.headD false with
    | true=>simp
    | false=>
     rw[hm] at hp
     simp only[Bool.false_or] at hp
     simp only[Bool.false_eq_true,if_false]
     exact CV.pure_names y hp.1
  have hav:=mix_ok (N':=Nof κ st' G w) (ob:=st'.o) (fp:=G.fp) (fun _ h=>h) hobj ms xs _ hwx (by rw[hvw ms xs hpure]; simp) hcv
  refine(done _ hNX (fun _ h=>h) (.inl (fun _ h=>h)) hav).mono ?_
  rintro e w' ⟨v,rfl,hn⟩
  rw[hdst]; exact hn
 ·have hav:=mix_ok (N':=fun b=>b<w.heap.size∧b≠G.ad r∧b∉fps G.fp (hc.names++mixNames ms xs)) (ob:=st'.o) (fp:=G.fp) hNX hobj ms xs _ hwx (fun n hn b hb=>by
   have hcl:∀ (ms:List Bool) (ys:List CV),aB st'.o ys=true→∀ c∈viewNames ms ys,(st'.o c).isSome=true:=by
    intro ms ys
    induction ys generalizing ms with
    | nil=>intro _ c hc; simp[viewNames] at hc
    | cons y ys ih=>
     intro hwy c hc
     simp only[aB,aD] at hwy
     simp only[viewNames,bf] at hc
     rcases hc with hc | hc
     ·split at hc
      ·cases hc
      ·exact CV.names_live y hwy.1 c hc
     ·exact ih ms.tail hwy.2 c hc
   obtain⟨p,hp⟩:=Option.isSome_iff_exists.1 (hcl ms xs hwx n hn)
   refine⟨((hG.objs n p.1 p.2 hp).2.2 b hb).2,fun e=>hG.bo r n p hbr hp (e▸hb),fun hm=>?_⟩
   obtain⟨c',p',hp',hm',hc'⟩:=hXin b hm
   exact hG.oo n c' p p' hp hp' (fun e=>hvn n hn (e▸hc')) b hb hm') hcv
  refine(done _ (fun _ h=>h) hNX (.inr ⟨hnv,hnv'⟩) hav).mono ?_
  rintro e w' ⟨v,rfl,hn⟩
  rw[hdst]; exact hn
end
section
/-- A handle among the arguments. -/
theorem valid_callA{P:Program}{nt:Nat}{o:Oper}{st:St}{d r c:Nat}{g x:Operand}{as1 as2:List Operand}{ts:List TypeId}{f:FuncId}{xs1 xs2:List CV}{ms:List Bool}{caps:List PV}{T1 T2:TypeId}{hc:HC}{sh:Sh}{ps pre post:List PV}{x0 x':BV}{res:PV}
 (hop:o.op=.call { callee:=.value g,args:=⟨as1++x::as2⟩,argTypes:=⟨ts⟩ }) (hdst:o.dst=some d) (hd:d<nt) (hg:ev P st T1 g=.val (.pv (.clo f caps))) (hx:hdl (ev P st T2 x)=some (r,sh,ps)) (hrd:(r==d)=false)
 (hh:holdHC (st.s r)=some hc) (hbv:hc.isBV st.o x0) (hok:okH (st.s r) (x'.hc c)=true) (hx1:argCVs P st as1 ts=xs1) (hx2:argCVs P st as2 (ts.drop (as1.length+1))=xs2) (hw:aB st.o (xs1++xs2)=true)
 (hmn:(hc.names++mixNames ms (xs1++xs2)).Nodup) (halias:mixPure ms (xs1++xs2)=true∨(res.noView=true∧x'.noView=true∧∀ n∈viewNames ms (xs1++xs2),n∉hc.names++mixNames ms (xs1++xs2)))
 (hargs:pre++post=mix ms (aL st.o (xs1++xs2)) (aE st.o (xs1++xs2))++caps) (hpl:pre.length=as1.length) (hcaps:∀ p∈caps,PV.size p=1∧(CV.pv p).isAgg=false) (hsat:SatH P f pre post sh ps x0 x' res):
 Valid P nt o st { rs:=r::(rd g++(as1++x::as2).flatMap rd),ro:=hc.names++az (xs1++xs2),fc:=(x'.objs c++resObjs res (x'.hi c)).map (·.1),us:=[(r,setH (st.s r) (x'.hc c)),(d,resSV res (x'.hi c))],uo:=deadObjs (hc.names++mixNames ms (xs1++xs2))++newObjs (x'.objs c++resObjs res (x'.hi c)) }:=by
 refine valid_callX hdst hd hrd (by simp) hh hbv hok hw hmn halias hargs hcaps (fun κ G st' a w hnt hs ho hG hci=>?_) hsat
 have hob:=CV.congr_obs (ob:=st.o) (ob':=st'.o) (xs1++xs2) (fun n hn=>ho n (List.mem_append.2 (.inr hn)))
 have hw':aB st'.o (xs1++xs2)=true:=by rw[hob.1]; exact hw
 rw[wholes_append,aD] at hw'
 have c1:=args_ok (P:=P) (st:=st) hG as1 ts (fun k hk=>hs k (by simp only[bz,bf,List.flatMap_append]; exact .inr (.inr (.inl hk)))) (by rw[hx1]; exact hw'.1)
 have c2:=args_ok (P:=P) (st:=st) hG as2 (ts.drop (as1.length+1)) (fun k hk=>hs k (by simp only[bz,bf,List.flatMap_append,List.flatMap_cons]; exact .inr (.inr (.inr (.inr hk))))) (by rw[hx2]; exact hw'.2)
 rw[hx1] at c1
 rw[hx2] at c2
 have hxv:=ev_ok (P:=P) (T:=T2) hG x 0
 rw[ev_congr (fun k hk=>hs k (by simp only[bz,bf,List.flatMap_append,List.flatMap_cons]; exact .inr (.inr (.inr (.inl hk)))))] at hxv
 obtain⟨vals,hps,hxe⟩:=hdl_ok hx hxv
 have hgv:=ev_ok (P:=P) (T:=T1) hG g 0
 rw[ev_congr (fun k hk=>hs k (by simp[hk])),hg] at hgv
 rcases hgv with⟨hgv,_⟩ | ⟨_,hgv,_⟩
 ·simp[CV.isAgg] at hgv
 simp only[RepCV,RepC] at hgv
 obtain⟨cv,hg1,_,hg3,_⟩:=hgv
 simp at hg1
 refine⟨as1.map a.eval,as2.map a.eval++cv,cv,vals,as1.map a.eval++as2.map a.eval,?_,by simp[hpl],by simp,cvals_append c1 c2,hg3,hps⟩
 have harr:(Array.map a.eval ⟨as1++x::as2⟩++cv.toArray)=(as1.map a.eval++sh.val (G.ad r) vals::(as2.map a.eval++cv)).toArray:=by
  apply Array.ext'; simp[hxe]
 simp[execOp,hop,resolve,hg1,Deferred.ofValue,invoke,run_callFunc hci]
 simp[hxe]
end
section
theorem valid_callIO0{P:Program}{nt:Nat}{o:Oper}{st:St}{d:Nat}{g:Operand}{args:Array Operand}{tys:Array TypeId}{f:FuncId}{T1:TypeId}{xs:List CV}{ob':Nat→Option (Nat×List PV)}
 (hop:o.op=.call { callee:=.value g,args:=args,argTypes:=tys }) (hdst:o.dst=some d) (hd:d<nt)
 (hg:ev P st T1 g=.val (.pv (.clo f []))) (hxs:argCVs P st args.toList tys.toList=xs) (hw:aB st.o xs=true) (hcl:CV.cleans xs=true) (hn:(az xs).Nodup) (hw2:aB ob' xs=true)
 (hsat:SatIO P f (aE st.o xs) (aE ob' xs) (.tup [])):
 Valid P nt o st { rs:=rd g++args.toList.flatMap rd,ro:=az xs,us:=[(d,.tup [])],uo:=(az xs).map fun c=>(c,ob' c) }:=by
 intro κ st' a w hnt hsame hfresh hR next Q hnext
 obtain⟨G,hG⟩:=hR
 obtain⟨hci,hcalls⟩:=hsat
 have hob:∀ (xs:List CV),(∀ n∈az xs,st'.o n=st.o n)→aB st'.o xs=aB st.o xs∧aL st'.o xs=aL st.o xs∧aE st'.o xs=aE st.o xs:=by
  intro xs hx
  have key:∀ x:CV,(∀ n∈x.names,st'.o n=st.o n)→x.whole st'.o=x.whole st.o∧x.pvw st'.o=x.pvw st.o∧x.pvo st'.o=x.pvo st.o:=by
   intro x
   refine CV.rec (motive_1:=fun x=>(∀ n∈x.names,st'.o n=st.o n)→x.whole st'.o=x.whole st.o∧x.pvw st'.o=x.pvw st.o∧x.pvo st'.o=x.pvo st.o)
    (motive_2:=fun xs=>(∀ n∈az xs,st'.o n=st.o n)→aB st'.o xs=aB st.o xs∧aL st'.o xs=aL st.o xs∧aE st'.o xs=aE st.o xs) ?_ ?_ ?_ ?_ ?_ ?_ x
   ·intro v _; exact⟨rfl,rfl,rfl⟩
   ·intro n h; have:=h n (by simp[CV.names]); exact⟨by simp[CV.whole,this],by simp[CV.pvw,this],by simp[CV.pvo,this]⟩
   ·intro fs ih h; have:=ih (by simpa[CV.names] using h); exact⟨by simpa[CV.whole] using this.1,by simp[CV.pvw,this.2.1],by simp[CV.pvo,this.2.2]⟩
   ·intro n _; exact⟨rfl,rfl,rfl⟩
   ·intro _; exact⟨rfl,rfl,rfl⟩
   ·intro y ys i1 i2 h
    have h1:=i1 (fun n hn=>h n (by simp[az,hn]))
    have h2:=i2 (fun n hn=>h n (by simp[az,hn]))
    exact⟨by simp[aB,h1.1,h2.1],by simp[aL,h1.2.1,h2.2.1],by simp[aE,h1.2.2,h2.2.2]⟩
  induction xs with
  | nil=>exact⟨rfl,rfl,rfl⟩
  | cons y ys ih=>
   have h1:=key y (fun n hn=>hx n (by simp[az,hn]))
   have h2:=ih (fun n hn=>hx n (by simp[az,hn]))
   exact⟨by simp[aB,h1.1,h2.1],by simp[aL,h1.2.1,h2.2.1],by simp[aE,h1.2.2,h2.2.2]⟩
 obtain⟨hw',hv',ho'⟩:=hob xs hsame.2
 have hwx:aB st'.o xs=true:=by rw[hw']; exact hw
 have hcv:=args_ok (P:=P) (st:=st) hG args.toList tys.toList (fun k hk=>hsame.1 k (by simp only[bf]; exact .inr hk)) (by rw[hxs]; exact hwx)
 rw[hxs] at hcv
 have hgv:=ev_ok (P:=P) (T:=T1) hG g 0
 rw[ev_congr (fun k hk=>hsame.1 k (by simp[hk])),hg] at hgv
 rcases hgv with⟨hgv,_⟩ | ⟨_,hgv,_⟩
 ·simp[CV.isAgg] at hgv
 simp only[RepCV,RepC] at hgv
 obtain⟨vals,hg1,_,hg3,_⟩:=hgv
 simp at hg1
 simp only[RepCs] at hg3
 obtain⟨rfl,_⟩:=hg3
 have hrun:(execOp a.eval o).run P w=.ok (.enter f (args.map a.eval)) w:=by
  simp[execOp,hop,resolve,hg1,Deferred.ofValue,invoke,run_callFunc hci]
 have harr:args.map a.eval=(args.toList.map a.eval).toArray:=by apply Array.ext'; simp
 have hlive:∀ c∈az xs,(st'.o c).isSome=true:=CV.namess_live _ hwx
 have hXlt:∀ b∈fps G.fp (az xs),b<w.heap.size:=by
  intro b hb
  obtain⟨c,hc,hm⟩:=mem_fps.1 hb
  obtain⟨p,hp⟩:=Option.isSome_iff_exists.1 (hlive c hc)
  exact((hG.objs c p.1 p.2 hp).2.2 b hm).2
 have hXn:(fps G.fp (az xs)).Nodup:=fps_nodup hG _ hn hlive
 have hNX:∀ b,Nof κ st' G w b→b∉fps G.fp (az xs):=by
  intro b hb hm
  obtain⟨c,hc,hm⟩:=mem_fps.1 hm
  obtain⟨p,hp⟩:=Option.isSome_iff_exists.1 (hlive c hc)
  exact hb.2 (.inr ⟨c,p,hp,hm⟩)
 have hown:=CVals.own (fun c sz es hc=>(hG.objs c sz es hc).1) hwx hcv
 rw[ho'] at hown
 unfold Oper.wp
 rw[hrun]
 simp only[Oper.upon]
 rw[harr]
 refine(hcalls w (Nof κ st' G w) _ _ (fun b hb=>⟨hb.lt hG,hNX b hb⟩) hXn hXlt hown).mono ?_
 rintro e w'' ⟨v,F,rfl,hk,hr,hFn,hF,hres⟩
 have hp:=CVals.inv (ob:=ob') xs _ F hcl hw2 hcv hr hn
 obtain⟨G',hhd,hG',hN'⟩:=hG.setObjs hlive hk hF hFn hp
 obtain⟨vs,rfl,hvs⟩:=hres
 simp only[RepVs] at hvs
 obtain⟨rfl,_⟩:=hvs
 rw[hdst]
 refine hnext _ _ ?_
 have:=R.set (sv:=.tup []) (v:=.tuple #[]) (d:=d) G' hG' (by rw[hnt]; exact hd) rfl ⟨[],rfl,by simp[CVals]⟩
 simpa[St.app,updAll,St.set,updAll_setO] using this

theorem CallH.io0{P:Program}{nt:Nat}{st:St}{d ty:Nat}{pos:String}{af:Array Edge}{gd:Option (Nat×Bool)}{g:Operand}{as:List Operand}{ts:List TypeId}{K0:Rec→Prop}{f:FuncId}{v o c:List PV}{K:List Bool→PV→Prop}
 {args args':List PV} (xs:List CV) (ns:List (Nat×(Nat×List PV))) (h:SatIO P f args args' (.tup []))
 (hs:d<nt∧ev P st 0 g=.val (.pv (.clo f []))∧argCVs P st as ts=xs∧aB st.o xs=true∧CV.cleans xs=true∧(az xs).Nodup∧aB (mkO ns) xs=true∧args=aE st.o xs∧args'=aE (mkO ns) xs)
 (hK:K0 { rs:=rd g++as.flatMap rd,ro:=az xs,us:=[(d,.tup [])],uo:=(az xs).map fun c=>(c,mkO ns c) }):
 CallH P f v o c K (RecOk P nt st { dst:=some d,op:=.call { callee:=.value g,args:=⟨as⟩,argTypes:=⟨ts⟩ },type:=ty,pos:=pos,after:=af,guard:=gd } K0) .mk .mk:=by
 obtain⟨h1,h2,h3,h4,h5,h6,h7,h8,h9⟩:=hs
 subst h8; subst h9
 exact CallH.hatch ⟨_,valid_callIO0 (args:=⟨as⟩) (tys:=⟨ts⟩) rfl rfl h1 h2 h3 h4 h5 h6 h7 h,fresh_none rfl rfl,hK⟩
section
variable{P:Program}{nt:Nat}{st:St}{d r ty T T' E:Nat}{pos:String}{af:Array Edge}{gd:Option (Nat×Bool)}{K:Rec→Prop}{x y z:Operand}{α:Type}
/-- A call that is handed a map (or another handle): 'as1' before it, 'as2' behind it. -/
theorem HandH.call{g:Operand}(k:Nat)(as1 as2:List Operand){as:List Operand}{ts:List TypeId}{f:FuncId}(xs1 xs2:List CV)(ms:List Bool){hc:HC}{sh:Sh}{ps pre post:List PV}{x0 x':BV}{res:PV}
 (hsat:SatH P f pre post sh ps x0 x' res) (has:as=as1++x::as2) (hk:as1.length=k) (hpl:pre.length=k)
 (hs:d<nt∧ev P st 0 g=.val (.pv (.clo f []))∧hdl (ev P st 0 x)=some (r,sh,ps)∧(r==d)=false∧holdHC (st.s r)=some hc∧hc.isBV st.o x0∧okH (st.s r) (x'.hc (16*d))=true∧argCVs P st as1 ts=xs1∧argCVs P st as2 (ts.drop (k+1))=xs2∧aB st.o (xs1++xs2)=true∧
  (hc.names++mixNames ms (xs1++xs2)).Nodup∧mixPure ms (xs1++xs2)=true∧pre++post=mix ms (aL st.o (xs1++xs2)) (aE st.o (xs1++xs2)))
 (hK:(∀ n∈(x'.objs (16*d)++resObjs res (x'.hi (16*d))).map (·.1),st.noC n)∧K { rs:=r::(rd g++(as1++x::as2).flatMap rd),ro:=hc.names++az (xs1++xs2),fc:=(x'.objs (16*d)++resObjs res (x'.hi (16*d))).map (·.1),us:=[(r,setH (st.s r) (x'.hc (16*d))),(d,resSV res (x'.hi (16*d)))],uo:=deadObjs (hc.names++mixNames ms (xs1++xs2))++newObjs (x'.objs (16*d)++resObjs res (x'.hi (16*d))) }):
 HandH (RecOk P nt st { dst:=some d,op:=.call { callee:=.value g,args:=⟨as⟩,argTypes:=⟨ts⟩ },type:=ty,pos:=pos,after:=af,guard:=gd } K) .mk:=by
 subst has; subst hk
 obtain⟨h1,h2,h3,h4,h5,h6,h7,h8,h9,h10,h11,h12,h13⟩:=hs
 exact⟨_,valid_callA (T1:=0) (T2:=0) rfl rfl h1 h2 h3 h4 h5 h6 h7 h8 h9 h10 h11 (.inl h12) (by rw[h13,bu]) hpl (by simp) hsat,⟨by simp,hK.1⟩,hK.2⟩
end
/-! ### Rules -/
def argSK(k:Nat)(pre post:List PV)(sh:Sh)(ps:List PV)(x:BV):St:=
 ⟨upd (updV 0 (((explodes (pre++post) (x.hi 9000)).1.take k).map .val++holdSV sh ps (x.hc 9000)::((explodes (pre++post) (x.hi 9000)).1.drop k).map .val) (fun _=>.dead)) 20000 (gh k),
  updAll (fun _=>none) (newObjs (x.objs 9000++(explodes (pre++post) (x.hi 9000)).2.1))⟩
theorem SatH.of_k{P:Program}{nt n:Nat}{f:FuncId}{fn:Func}{c:Code}{pre post:List PV}{sh:Sh}{ps:List PV}{x x':BV}{res:PV}{rs:List ResultVar}(k:Nat)(hf:P.funcs[f]?=some fn)(hname:(fn.name== "runtime.NumGoroutine")=false)(hb:fn.body=some c)
 (hnt:fn.ntmps=nt) (hrs:fn.results.toList=rs) (hk:pre.length=k) (hle:k+post.length+1≤nt) (hnl:nt≤20000) (hhi:(explodes (pre++post) (x.hi 9000)).2.2≤10000)
 (h:Mg P nt (fun st=>RetHB P st rs res k x') n (.code c) (argSK k pre post sh ps x) []):SatH P f pre post sh ps x x' res:=by
 subst hk
 exact SatH.of_m hf hname hb hnt hrs hle hnl hhi h
@[push_cast] theorem asRes_nil:asRes []=.tup []:=rfl
theorem argSK_eq(k:Nat)(pre post:List PV)(sh:Sh)(ps:List PV)(x:BV):argSK k pre post sh ps x=⟨upd (updV 0 (((explodes (pre++post) (x.hi 9000)).1.take k).map .val++holdSV sh ps (x.hc 9000)::((explodes (pre++post) (x.hi 9000)).1.drop k).map .val) (fun _=>.dead)) 20000 (gh k),
 updAll (fun _=>none) (newObjs (x.objs 9000++(explodes (pre++post) (x.hi 9000)).2.1))⟩:=rfl
theorem updV_nil(i:Nat)(f:Nat→SlotV):updV i [] f=f:=rfl
theorem updV_cons(i:Nat)(x:SlotV)(xs:List SlotV)(f:Nat→SlotV):updV i (x::xs) f=updV (i+1) xs (upd f i x):=rfl
theorem bvhc_pv(p:PV)(c:Nat):(BV.pv p).hc c=.cv (explode p c).1:=rfl
theorem bvhc_mp(kv:List MEnt)(ck c:Nat):(BV.mp kv ck).hc c=.mp kv ck:=rfl
theorem bvhi_pv(p:PV)(c:Nat):(BV.pv p).hi c=(explode p c).2.2:=rfl
theorem bvhi_mp(kv:List MEnt)(ck c:Nat):(BV.mp kv ck).hi c=c:=rfl
theorem bvobjs_pv(p:PV)(c:Nat):(BV.pv p).objs c=(explode p c).2.1:=rfl
theorem bvobjs_mp(kv:List MEnt)(ck c:Nat):(BV.mp kv ck).objs c=[]:=rfl
theorem holdSV_ptr(ps:List PV)(x:CV):holdSV .ptr ps (.cv x)=.box x:=rfl
theorem holdSV_clo(f:FuncId)(pat:List Bool)(ps:List PV)(x:CV):holdSV (.clo f pat) ps (.cv x)=.hold (.clo f pat) ps (.cv x):=rfl
theorem holdSV_mp(sh:Sh)(ps:List PV)(kv:List MEnt)(ck:Nat):holdSV sh ps (.mp kv ck)=.hold sh ps (.mp kv ck):=rfl
theorem holdHC_box(x:CV):holdHC (.box x)=some (.cv x):=rfl
theorem holdHC_hold(sh:Sh)(ps:List PV)(h:HC):holdHC (.hold sh ps h)=some h:=rfl
theorem hdl_hptr(r:Nat)(sh:Sh)(ps:List PV):hdl (.hptr r sh ps)=some (r,sh,ps):=rfl
theorem hdl_bptr(r:Nat):hdl (.bptr r [] 0)=some (r,.ptr,[]):=rfl
theorem isBV_cv(ob:Nat→Option (Nat×List PV))(y:CV)(x:BV):(HC.cv y).isBV ob x=(y.whole ob=true∧x=.pv (y.pvo ob)):=rfl
theorem isBV_mp(ob:Nat→Option (Nat×List PV))(kv:List MEnt)(ck:Nat)(x:BV):(HC.mp kv ck).isBV ob x=(x=.mp kv ck):=rfl
theorem hcn_cv(y:CV):(HC.cv y).names=y.names:=rfl
theorem hcn_mp(kv:List MEnt)(ck:Nat):(HC.mp kv ck).names=[]:=rfl
theorem setH_box(x y:CV):setH (.box x) (.cv y)=.box y:=rfl
theorem setH_hold(sh:Sh)(ps:List PV)(a b:HC):setH (.hold sh ps a) b=.hold sh ps b:=rfl
theorem okH_bx(x y:CV):okH (.box x) (.cv y)=true:=rfl
theorem okH_hold(sh:Sh)(ps:List PV)(a b:HC):okH (.hold sh ps a) b=true:=rfl
/-- The end. -/
def BxF(ob:Nat→Option (Nat×List PV))(ns:List Nat)(x':BV):SlotV→Prop
 | .box y=>y.whole ob=true∧(y.names++ns).Nodup∧x'=.pv (y.pvo ob)
 | .hold _ _ (.cv y)=>y.whole ob=true∧(y.names++ns).Nodup∧x'=.pv (y.pvo ob)
 | .hold _ _ (.mp kv clock)=>ns.Nodup∧x'=.mp kv clock
 | _=>False
theorem BxF_ok{st:St}{k:Nat}{ns:List Nat}{x':BV}(h:BxF st.o ns x' (st.s k)):BxFin st k ns x':=by
 unfold BxFin
 generalize st.s k=v at h
 cases v<;>simp only[BxF] at h
 ·exact h
 ·rename_i sh ps x
  cases x<;>first | exact h | exact h.elim
theorem BxF_box(ob:Nat→Option (Nat×List PV))(ns:List Nat)(x':BV)(y:CV):BxF ob ns x' (.box y)=(y.whole ob=true∧(y.names++ns).Nodup∧x'=.pv (y.pvo ob)):=rfl
theorem BxF_cv(ob:Nat→Option (Nat×List PV))(ns:List Nat)(x':BV)(y:CV)(sh:Sh)(ps:List PV):BxF ob ns x' (.hold sh ps (.cv y))=(y.whole ob=true∧(y.names++ns).Nodup∧x'=.pv (y.pvo ob)):=rfl
theorem BxF_mp(ob:Nat→Option (Nat×List PV))(ns:List Nat)(x':BV)(kv:List MEnt)(ck:Nat)(sh:Sh)(ps:List PV):BxF ob ns x' (.hold sh ps (.mp kv ck))=(ns.Nodup∧x'=.mp kv ck):=rfl
@[congr] theorem RetHB.cg {P:Program} {rs:List ResultVar} {res:PV} {k:Nat} {x':BV} {st st':St} (h:∀ _:Unit,st=st'):RetHB P st rs res k x'=RetHB P st' rs res k x':=by rw[h ()]
theorem RetHB.l{P:Program}{rs:List ResultVar}{res:PV}{k:Nat}{x':BV}{st:St}(h:st.s 20000=gh k∧aB st.o (resCVs P st rs)=true∧resOks P st rs∧res=asRes (aE st.o (resCVs P st rs))∧BxF st.o (az (resCVs P st rs)) x' (st.s k)):RetHB P st rs res k x':=
 ⟨h.1,h.2.1,h.2.2.1,.inl ⟨h.2.2.2.1,BxF_ok h.2.2.2.2⟩⟩
theorem RetHB.r{P:Program}{rs:List ResultVar}{res:PV}{k:Nat}{x':BV}{st:St}(h:st.s 20000=gh k∧aB st.o (resCVs P st rs)=true∧resOks P st rs∧res=asRes (aL st.o (resCVs P st rs))∧CV.pures (resCVs P st rs)=true∧BxF st.o [] x' (st.s k)):RetHB P st rs res k x':=
 ⟨h.1,h.2.1,h.2.2.1,.inr ⟨h.2.2.2.1,h.2.2.2.2.1,BxF_ok h.2.2.2.2.2⟩⟩
theorem hcren_mp(c c':Nat)(kv:List MEnt)(ck:Nat):HC.ren c c' (.mp kv ck)=.mp kv ck:=rfl
theorem hcren_it(c c' r a b:Nat)(l:List Nat):HC.ren c c' (.it r a l b)=.it r a l b:=rfl
theorem hcren_cv(c c':Nat)(x:CV):HC.ren c c' (.cv x)=.cv (x.ren c c'):=rfl
theorem ghren(c c' r:Nat)(h:(10500==c)=false):SlotV.ren c c' (gh r)=gh r:=by
 simp only[beq_eq_false_iff_ne] at h
 simp[gh,SlotV.ren,h]
attribute [push_cast] argSK_eq updV_nil updV_cons bvhc_pv bvhc_mp bvhi_pv bvhi_mp bvobjs_pv bvobjs_mp holdSV_ptr holdSV_clo holdSV_mp holdHC_box holdHC_hold hdl_hptr hdl_bptr isBV_cv isBV_mp hcn_cv hcn_mp setH_box setH_hold okH_bx okH_hold BxF_box BxF_cv BxF_mp List.take_succ_cons List.take_zero List.drop_succ_cons List.drop_zero List.map_cons List.map_nil List.take_nil List.drop_nil List.cons_append List.map_append hcren_mp false_and hcren_it hcren_cv ghren List.nil_append
end
section
theorem RepBV.sub{N N':Nat→Prop}{w:World}{b:Nat}{F:List Nat}{x:BV}(hN:∀ c,N c→N' c)(h:RepBV N w b F x):RepBV N' w b F x:=by
 cases x with
 | pv p=>
  obtain⟨cs,e,h1,h2⟩:=h
  exact⟨cs,e,h1,RepC.frame hN (fun _ _=>rfl) p cs F (fun _ _=>rfl) h2⟩
 | mp kv ck=>
  obtain⟨h1,es,h2,h3,h4⟩:=h
  exact⟨h1,es,h2,MapIs.frame hN (fun _ _=>rfl) kv es h3,h4⟩
theorem SatH.give{P:Program}{f:FuncId}{pre post pre' post':List PV}{sh:Sh}{ps:List PV}{x x':BV}{res:PV}(ms:List Bool)(h:SatH P f pre' post' sh ps x x' res)(hg:gv ms (pre++post)=pre'++post')(hl:pre'.length=pre.length):SatH P f pre post sh ps x x' res:=by
 refine⟨h.1,fun w N v1 v2 vals b Fx Fs hN hnd hlt hps hx hvs hv1=>?_⟩
 obtain⟨F',G,h1,h2,h3⟩:=repVs_give ms _ _ Fs hvs
 have hnd':=List.nodup_cons.1 hnd
 have hna:=List.nodup_append.1 hnd'.2
 obtain⟨k1,k2⟩:=h2 hna.2.1
 have hGF:∀ c∈G,c∈Fs:=fun c hc=>(h1 c).2 (.inr hc)
 have hFF:∀ c∈F',c∈Fs:=fun c hc=>(h1 c).2 (.inl hc)
 have hG:∀ c∈G,c<w.heap.size:=fun c hc=>hlt c (List.mem_cons_of_mem _ (List.mem_append.2 (.inr (hGF c hc))))
 have hGx:∀ c∈G,c∉b::(Fx++F'):=by
  intro c hc hm
  rcases List.mem_cons.1 hm with e | hm
  ·subst e; exact hnd'.1 (List.mem_append.2 (.inr (hGF _ hc)))
  ·rcases List.mem_append.1 hm with hm | hm
   ·exact hna.2.2 c hm c (hGF c hc) rfl
   ·exact k2 c hc hm
 have hmono:∀ c,c∈b::(Fx++F')→c∈b::(Fx++Fs):=by
  intro c hc
  rcases List.mem_cons.1 hc with e | hc
  ·exact e▸List.mem_cons_self
  ·exact List.mem_cons_of_mem _ ((List.mem_append.1 hc).elim (fun g=>List.mem_append.2 (.inl g)) (fun g=>List.mem_append.2 (.inr (hFF c g))))
 have:=h.2 w (fun c=>N c∨c∈G) v1 v2 vals b Fx F' (by
  rintro c (hc | hc)
  ·exact⟨(hN c hc).1,fun hm=>(hN c hc).2 (hmono c hm)⟩
  ·exact⟨hG c hc,hGx c hc⟩) (by
  refine List.nodup_cons.2 ⟨fun hm=>hnd'.1 ((List.mem_append.1 hm).elim (fun g=>List.mem_append.2 (.inl g)) (fun g=>List.mem_append.2 (.inr (hFF _ g)))),List.nodup_append.2 ⟨hna.1,k1,fun a ha b hb=>hna.2.2 a ha b (hFF b hb)⟩⟩) (fun c hc=>hlt c (hmono c hc))
  (RepCs.frame (fun _ h=>.inl h) (fun _ _=>rfl) ps vals [] (fun _ _=>rfl) hps) (hx.sub fun _ h=>.inl h) (by rw[← hg]; exact h3 _ (fun _ h=>.inl h) (fun _ h=>.inr h)) (by rw[hl]; exact hv1)
 refine this.mono fun e w' he=>?_
 obtain⟨v,F,Fx',rfl,hk,hb,hr,hfn,hf⟩:=he
 have hN':∀ c,((N c∨c∈G)∨((w.heap.size≤c∨c∈Fx++F')∧c<w'.heap.size∧c∉Fx'++F))→(N c∨((w.heap.size≤c∨c∈Fx++Fs)∧c<w'.heap.size∧c∉Fx'++F)):=by
  rintro c ((hc | hc) | hc)
  ·exact .inl hc
  ·refine .inr ⟨.inr (List.mem_append.2 (.inr (hGF c hc))),Nat.lt_of_lt_of_le (hG c hc) hk.size,fun hm=>?_⟩
   rcases (hf c hm).1 with g | g
   ·have:=hG c hc; omega
   ·exact hGx c hc (List.mem_cons_of_mem _ g)
  ·exact .inr ⟨hc.1.imp id (fun g=>(List.mem_append.1 g).elim (fun g=>List.mem_append.2 (.inl g)) (fun g=>List.mem_append.2 (.inr (hFF c g)))),hc.2⟩
 refine⟨v,F,Fx',rfl,⟨hk.os,hk.tape,hk.output,hk.size,fun k hk1 hk2=>hk.block k hk1 (fun hm=>hk2 (hmono k hm)),hk.drawn⟩,hb.sub hN',repR_frame hN' hr,hfn,fun c hc=>⟨(hf c hc).1.imp id (fun g=>(List.mem_append.1 g).elim (fun g=>List.mem_append.2 (.inl g)) (fun g=>List.mem_append.2 (.inr (hFF c g)))),(hf c hc).2⟩⟩
end
section
section
variable{P:Program}{nt:Nat}{st:St}{d r ty:Nat}{pos:String}{af:Array Edge}{gd:Option (Nat×Bool)}{K:Rec→Prop}
end
end
section
/-! ### What a stretch leaves alone in the activation -/
def Fr0(ds:List Nat)(a a':Act):Prop:=∀ k,k∉ds→a'.tmps.getD k undef=a.tmps.getD k undef
theorem Fr0.refl(ds:List Nat)(a:Act):Fr0 ds a a:=fun _ _=>rfl
theorem Fr0.trans{ds:List Nat}{a b c:Act}(h:Fr0 ds a b)(h':Fr0 ds b c):Fr0 ds a c:=fun k hk=>(h' k hk).trans (h k hk)
theorem Fr0.put{ds:List Nat}{a:Act}{d:Option Nat}(hd:∀ x,d=some x→x∈ds)(v:Value):Fr0 ds a (a.put d v):=by
 intro k hk
 cases d with
 | none=>rfl
 | some d=>
  have hne:d≠k:=fun e=>hk (e▸hd d rfl)
  simp[Act.put,Array.getD_eq_getD_getElem?,Array.getElem?_setIfInBounds_ne hne]
/-! ### Into the stretch -/
def frzV(st:St):SlotV→Option SlotV
 | .val x=>if x.whole st.o then some (.val (.pv (x.pvw st.o))) else none
 | .box x=>if x.whole st.o then some (.val (.pv (.ptr (x.pvw st.o)))) else none
 | _=>none
def FrzOk(st st1:St)(X:Nat→Option Value):Prop:=(∀ k,st1.s k=.dead∨frzV st (st.s k)=some (st1.s k)∨∃ u,X k=some u∧st1.s k=.ex (fun v=>v=u))∧∀ c,st1.o c=none
/-! ### Out of it -/
mutual
def CV.keep(ns:List Nat):CV→Bool
 | .pv p=>p.noView
 | .own c=>ns.contains c
 | .node fs=>CV.keeps ns fs
 | .gone _=>false
def CV.keeps(ns:List Nat):List CV→Bool
 | []=>true
 | x::xs=>x.keep ns&&CV.keeps ns xs
end
mutual
theorem RepCV.keep{N N':Nat→Prop}{w:World}{hd hd':Nat→Value}{ns:List Nat}(hh:∀ c∈ns,hd' c=hd c):∀ (x:CV) (cs:List Value),x.keep ns=true→RepCV N w hd x cs→RepCV N' w hd' x cs
 | .pv p,cs,hk,h=>by simp only[RepCV] at h ⊢; exact RepC.noView (N:=N) p cs [] hk h
 | .own c,cs,hk,h=>by
  simp only[RepCV] at h ⊢
  rw[hh c (by simpa[CV.keep] using hk)]; exact h
 | .node fs,cs,hk,h=>by simp only[RepCV] at h ⊢; exact RepCVs.keep hh fs cs (by simpa[CV.keep] using hk) h
 | .gone n,cs,hk,h=>by simp[CV.keep] at hk
theorem RepCVs.keep{N N':Nat→Prop}{w:World}{hd hd':Nat→Value}{ns:List Nat}(hh:∀ c∈ns,hd' c=hd c):∀ (xs:List CV) (cs:List Value),CV.keeps ns xs=true→RepCVs N w hd xs cs→RepCVs N' w hd' xs cs
 | [],cs,_,h=>h
 | x::xs,cs,hk,h=>by
  simp only[CV.keeps,aD] at hk
  simp only[RepCVs] at h ⊢
  obtain⟨c1,c2,h1,h2,h3⟩:=h
  exact⟨c1,c2,h1,RepCV.keep hh x c1 hk.1 h2,RepCVs.keep hh xs c2 hk.2 h3⟩
end
theorem CVal.keep{N N':Nat→Prop}{w:World}{hd hd':Nat→Value}{ns:List Nat}(hh:∀ c∈ns,hd' c=hd c){x:CV}{v:Value}(hk:x.keep ns=true)(h:CVal N w hd x v):CVal N' w hd' x v:=by
 rcases h with⟨h1,cs,h2,h3⟩ | ⟨h1,h2,h3⟩
 ·exact .inl ⟨h1,cs,h2,RepCV.keep hh x cs hk h3⟩
 ·exact .inr ⟨h1,RepCV.keep hh x _ hk h2,h3⟩
def keepV(ns:List Nat):SlotV→Bool
 | .val x=>x.keep ns
 | _=>false
/-- The state behind the stretch: what was before it, but for the slots of 'ds'; of those, what stands by itself; and the new objects 'ns'. -/
structure Thaw(st st2 st3:St)(ds ns:List Nat)(X:Nat→Option Value):Prop where
 slots:∀ k,st3.s k=.dead∨(k∉ds∧st3.s k=st.s k)∨(k∈ds∧st3.s k=st2.s k∧keepV ns (st2.s k)=true)∨(k∈ds∧∃ j u r sh ps,X j=some u∧st2.s k=.ex (fun v=>v=u)∧st.s j=.hptr r sh ps∧st3.s k=.hptr r sh ps)
 objs:∀ c,st3.o c=none∨(c∉ns∧st3.o c=st.o c)∨(c∈ns∧st3.o c=st2.o c)
 fresh:∀ c∈ns,st.noC c
 news:∀ c∈ns,∃ sz es,st2.o c=some (sz,es)∧aR es=true
/-! ### Regions -/
section
variable{P:Program}{nt:Nat}{ops:Array Oper}{st st':St}{recs:List Rec}{ds:List Nat}
end
section
variable{P:Program}{nt:Nat}{ops:Array Oper}{st st1:St}{Q:Exit→St→Prop}{ds:List Nat}
end

/-! ### The machine, with regions one by one -/
def MgF(P:Program)(nt:Nat)(F:St→Prop):Nat→Ctl→St→List Fr→Prop
 | 0,_,_,_=>False
 | n+1,.code c,st,k=>match c with
  | .seq x y=>MgF P nt F n (.code x) st (.sq y::k)
  | .skip=>MgF P nt F n .nrm st k
  | .exit id=>MgF P nt F n (.ex id) st k
  | .ret=>MgF P nt F n .rt st k
  | .block id x=>MgF P nt F n (.code x) st (.bl id::k)
  | .cond c x y=>boolOf (ev P st 0 c) fun b=>CondH b (MgF P nt F n (.code x) st k) (MgF P nt F n (.code y) st k) .mk .mk
  | c=>VC P nt c st (popQ P nt F k)
 | n+1,.nrm,st,k=>match k with
  | []=>F st
  | .sq y::k=>MgF P nt F n (.code y) st k
  | .bl _::k=>MgF P nt F n .nrm st k
  | .rd φ::_=>φ st
 | n+1,.ex id,st,k=>match k with
  | []=>False
  | .sq _::k=>MgF P nt F n (.ex id) st k
  | .bl id'::k=>if id=id' then MgF P nt F n .nrm st k else MgF P nt F n (.ex id) st k
  | .rd _::k=>MgF P nt F n (.ex id) st k
 | n+1,.rt,st,k=>match k with
  | []=>F st
  | _::k=>MgF P nt F n .rt st k
section
variable{P:Program}{nt:Nat}{F:St→Prop}{n:Nat}{st:St}{k:List Fr}
theorem MgF.sound:∀ (n:Nat) (c:Ctl) (st:St) (k:List Fr),MgF P nt F n c st k→c.means P nt st (popQ P nt F k)
 | 0,_,_,_,h=>h.elim
 | n+1,.code c,st,k,h=>by
  have ih:=MgF.sound n
  cases c with
  | seq x y=>exact VC.seq' (ih (.code x) st (.sq y::k) h)
  | skip=>exact VC.skip (ih .nrm st k h)
  | exit id=>exact VC.exit (ih (.ex id) st k h)
  | ret=>exact VC.ret (ih .rt st k h)
  | block id x=>exact VC.block (ih (.code x) st (.bl id::k) h)
  | cond c x y=>
   refine VC.cond ?_
   simp only[MgF] at h
   unfold boolOf at h ⊢
   split at h
   ·exact⟨fun hb=>ih (.code x) st k (h.1 hb),fun hb=>ih (.code y) st k (h.2 hb)⟩
   ·intro v hv
    obtain⟨b,e,hb⟩:=h v hv
    exact⟨b,e,fun hh=>ih (.code x) st k (hb.1 hh),fun hh=>ih (.code y) st k (hb.2 hh)⟩
   ·exact h.elim
  | _=>exact h
 | n+1,.nrm,st,k,h=>by
  have ih:=MgF.sound n
  match k,h with
  | [],h=>exact⟨.inl rfl,h⟩
  | .sq y::k,h=>exact(ih (.code y) st k h)
  | .bl i::k,h=>exact(ih .nrm st k h)
  | .rd φ::k',h=>exact h
 | n+1,.ex id,st,k,h=>by
  have ih:=MgF.sound n
  match k,h with
  | [],h=>exact h.elim
  | .sq y::k,h=>exact(ih (.ex id) st k h)
  | .bl id'::k,h=>
   simp only[MgF] at h
   by_cases e:id=id'
   ·subst e; rw[if_pos rfl] at h; exact blockK_hit (ih .nrm st k h)
   ·rw[if_neg e] at h; exact blockK_miss e (ih (.ex id) st k h)
  | .rd φ::k',h=>exact(ih (.ex id) st k' h)
 | n+1,.rt,st,k,h=>by
  have ih:=MgF.sound n
  match k,h with
  | [],h=>exact⟨.inr rfl,h⟩
  | .sq y::k,h=>exact(ih .rt st k h)
  | .bl i::k,h=>exact(ih .rt st k h)
  | .rd φ::k',h=>exact(ih .rt st k' h)
@[congr] theorem MgF.cg {c:Ctl} {st':St} (h:∀ _:Unit,st=st'):MgF P nt F n c st k=MgF P nt F n c st' k:=by rw[h ()]
theorem MgF_seq(x y:Code):MgF P nt F (n+1) (.code (.seq x y)) st k=MgF P nt F n (.code x) st (.sq y::k):=rfl
theorem MgF_skip:MgF P nt F (n+1) (.code .skip) st k=MgF P nt F n .nrm st k:=rfl
theorem MgF_exit(id:Nat):MgF P nt F (n+1) (.code (.exit id)) st k=MgF P nt F n (.ex id) st k:=rfl
theorem MgF_ret:MgF P nt F (n+1) (.code .ret) st k=MgF P nt F n .rt st k:=rfl
theorem MgF_block(id:Nat)(x:Code):MgF P nt F (n+1) (.code (.block id x)) st k=MgF P nt F n (.code x) st (.bl id::k):=rfl
theorem MgF_cond(c:Operand)(x y:Code):MgF P nt F (n+1) (.code (.cond c x y)) st k=boolOf (ev P st 0 c) fun b=>CondH b (MgF P nt F n (.code x) st k) (MgF P nt F n (.code y) st k) .mk .mk:=rfl
theorem MgF_n0:MgF P nt F (n+1) .nrm st []=F st:=rfl
theorem MgF_nsq(y:Code):MgF P nt F (n+1) .nrm st (.sq y::k)=MgF P nt F n (.code y) st k:=rfl
theorem MgF_nbl(id:Nat):MgF P nt F (n+1) .nrm st (.bl id::k)=MgF P nt F n .nrm st k:=rfl
theorem MgF_xsq(id:Nat)(y:Code):MgF P nt F (n+1) (.ex id) st (.sq y::k)=MgF P nt F n (.ex id) st k:=rfl
theorem MgF_xbl(id:Nat):MgF P nt F (n+1) (.ex id) st (.bl id::k)=MgF P nt F n .nrm st k:=by simp[MgF]
theorem MgF_xbm(id id':Nat)(h:(id==id')=false):MgF P nt F (n+1) (.ex id) st (.bl id'::k)=MgF P nt F n (.ex id) st k:=by
 have:id≠id':=by simpa using h
 simp[MgF,this]
theorem MgF_xrd(id:Nat)(φ:St→Prop):MgF P nt F (n+1) (.ex id) st (.rd φ::k)=MgF P nt F n (.ex id) st k:=rfl
theorem MgF_r0:MgF P nt F (n+1) .rt st []=F st:=rfl
theorem MgF_rc(f:Fr):MgF P nt F (n+1) .rt st (f::k)=MgF P nt F n .rt st k:=rfl
theorem MgF.forN{c:Code}{ρ σ:Type}{f:Nat→σ→Option (Flow ρ σ)}{N:Nat}{s0:σ}{ψ:ρ ⊕ σ→Prop}(h:Run (Av.forN f N 0 s0) ψ)(S:Nat→σ→List (Nat×SlotV))(O:Nat→σ→List (Nat×(Nat×List PV)))
 (h0:st.le ⟨mkS (S 0 s0),mkO (O 0 s0)⟩)
 (round:∀ i s,i<N→Run (f i s) (stepP (Av.forN f (N-(i+1)) (i+1)) ψ)→MgF P nt F n (.code c) ⟨mkS (S i s),mkO (O i s)⟩
  (.rd (fun st'=>∃ s',Run (Av.forN f (N-(i+1)) (i+1) s') ψ∧st'.le ⟨mkS (S (i+1) s'),mkO (O (i+1) s')⟩)::k))
 (last:∀ s,ψ (.inr s)→MgF P nt F n (.code c) ⟨mkS (S N s),mkO (O N s)⟩ (.rd (fun _=>False)::k)):MgF P nt F (n+1) (.code (.loop c)) st k:=by
 show VC P nt (.loop c) st (popQ P nt F k)
 refine VC.loop (α:=Nat×σ) (fun x=>⟨mkS (S x.1 x.2),mkO (O x.1 x.2)⟩) (fun x=>x.1≤N∧Run (Av.forN f (N-x.1) x.1 x.2) ψ) (fun x=>N-x.1) (0,s0) ⟨Nat.zero_le _,h⟩ h0 ?_
 rintro ⟨i,s⟩ ⟨h1,h2⟩
 simp only at h1 h2 ⊢
 by_cases e:i<N
 ·refine VC.mono (MgF.sound n _ _ _ (round i s e (run_round h2 e))) ?_
  intro ex st' hq
  cases ex with
  | normal=>obtain⟨s',g1,g2⟩:=hq; exact⟨(i+1,s'),⟨by simp only; omega,g1⟩,by simp only; omega,g2⟩
  | _=>exact hq
 ·have e2:i=N:=by omega
  subst e2
  refine VC.mono (MgF.sound n _ _ _ (last s (run_last h2))) ?_
  intro ex st' hq
  cases ex with
  | normal=>exact hq.elim
  | _=>exact hq
end
theorem MgF_nrdH{P:Program}{nt n:Nat}{F:St→Prop}{st:St}{k:List Fr}(φ:St→Prop):MgF P nt F (n+1) .nrm st (.rd φ::k)=RdH φ st .mk:=rfl
section
variable{P:Program}{nt n id:Nat}{F:St→Prop}{st:St}{k:List Fr}{l:List Oper}
theorem MgF.reg(h:wpD P nt ⟨l⟩ l st [] (fun _ st'=>MgF P nt F n .nrm st' k)):MgF P nt F (n+1) (.code (.region id ⟨l⟩ false)) st k:=
 VC.region2 (Q:=popQ P nt F k) h (fun st' hk=>MgF.sound n .nrm st' k hk)
theorem MgF.vseq(h:VSeq P nt ⟨l⟩ 0 st (fun st'=>MgF P nt F n .nrm st' k)):MgF P nt F (n+1) (.code (.region id ⟨l⟩ false)) st k:=
 VSeq.sound (Q:=popQ P nt F k) h (fun st' hk=>MgF.sound n .nrm st' k hk)
/-! ### Freezing, over frames -/
def FrzE(st:St):SlotV→SlotV→Prop
 | .val x,v=>x.whole st.o=true∧SlotV.val (.pv (x.pvw st.o))=v
 | .box x,v=>x.whole st.o=true∧SlotV.val (.pv (.ptr (x.pvw st.o)))=v
 | _,_=>False
def FrzL(st:St):List (Nat×SlotV)→Prop
 | []=>True
 | (k,v)::l=>FrzE st (st.s k) v∧FrzL st l
theorem FrzL.ok{st:St}{X:Nat→Option Value}:∀ {S:List (Nat×SlotV)},FrzL st S→FrzOk st ⟨mkS S,mkO []⟩ X
 | [],_=>⟨fun _=>.inl rfl,fun _=>rfl⟩
 | (k,v)::l,h=>by
  refine⟨fun j=>?_,fun _=>rfl⟩
  by_cases e:j=k
  ·subst e
   refine .inr (.inl ?_)
   simp only[mkS_hit]
   have h1:=h.1
   unfold FrzE at h1
   split at h1
   ·rename_i x hs; rw[hs]; simp only[frzV]; rw[if_pos h1.1,h1.2]
   ·rename_i x hs; rw[hs]; simp only[frzV]; rw[if_pos h1.1,h1.2]
   ·exact h1.elim
  ·have:=(FrzL.ok (X:=X) h.2).1 j
   simp only at this ⊢
   rwa [mkS_miss j k v l (by simpa using e)]
def OldS(st:St):List (Nat×SlotV)→Prop
 | []=>True
 | (k,v)::l=>st.s k=v∧OldS st l
def ObjS(st:St):List (Nat×(Nat×List PV))→Prop
 | []=>True
 | (c,p)::l=>st.o c=some p∧ObjS st l
def ObjV:List (Nat×(Nat×List PV))→Prop
 | []=>True
 | (_,p)::l=>aR p.2=true∧ObjV l
def ThawH(st st2:St)(ds:List Nat)(X:Nat→Option Value)(K:St→Prop)(_:Tok K)(_:Tok st):Prop:=∃ st3 ns,Thaw st st2 st3 ds ns X∧K st3
@[congr] theorem ThawH.cg {st st2 st2':St} {ds:List Nat} {X:Nat→Option Value} {K:St→Prop} (h:∀ _:Unit,st2=st2'):ThawH st st2 ds X K .mk .mk=ThawH st st2' ds X K .mk .mk:=by rw[h ()]
theorem mkS_mem:∀ {S:List (Nat×SlotV)} (k:Nat),mkS S k=.dead∨(k,mkS S k)∈S
 | [],_=>.inl rfl
 | (j,v)::l,k=>by
  by_cases e:k=j
  ·subst e; rw[mkS_hit]; exact .inr (by simp)
  ·rw[mkS_miss k j v l (by simpa using e)]
   rcases mkS_mem (S:=l) k with h | h
   ·exact .inl h
   ·exact .inr (List.mem_cons_of_mem _ h)
theorem mkO_mem:∀ {S:List (Nat×(Nat×List PV))} (k:Nat),mkO S k=none∨∃ p,mkO S k=some p∧(k,p)∈S
 | [],_=>.inl rfl
 | (j,v)::l,k=>by
  by_cases e:k=j
  ·subst e; rw[mkO_hit]; exact .inr ⟨v,rfl,by simp⟩
  ·rw[mkO_miss k j v l (by simpa using e)]
   rcases mkO_mem (S:=l) k with h | ⟨p,h1,h2⟩
   ·exact .inl h
   ·exact .inr ⟨p,h1,List.mem_cons_of_mem _ h2⟩
theorem OldS.mem{st:St}:∀ {l:List (Nat×SlotV)},OldS st l→∀ {k v},(k,v)∈l→st.s k=v
 | (j,u)::l,h,k,v,hm=>by
  rcases List.mem_cons.1 hm with e | hm
  ·cases e; exact h.1
  ·exact OldS.mem h.2 hm
theorem ObjS.mem{st:St}:∀ {l:List (Nat×(Nat×List PV))},ObjS st l→∀ {k p},(k,p)∈l→st.o k=some p
 | (j,u)::l,h,k,v,hm=>by
  rcases List.mem_cons.1 hm with e | hm
  ·cases e; exact h.1
  ·exact ObjS.mem h.2 hm
theorem ObjV.mem:∀ {l:List (Nat×(Nat×List PV))},ObjV l→∀ {k p},(k,p)∈l→aR p.2=true
 | (j,u)::l,h,k,v,hm=>by
  rcases List.mem_cons.1 hm with e | hm
  ·cases e; exact h.1
  ·exact ObjV.mem h.2 hm
/-- Behind the stretch: old slots A, new ones B; old objects C, new ones D. -/
theorem ThawH.mk{st st2:St}{ds:List Nat}{X:Nat→Option Value}{K:St→Prop}(A B:List (Nat×SlotV))(C D:List (Nat×(Nat×List PV)))(ns:List Nat)(h1:OldS st A∧ObjS st C)(h2:OldS st2 B∧ObjS st2 D∧ObjV D)(hn:∀ c∈ns,st.noC c)
 (hK:K ⟨mkS (A++B),mkO (C++D)⟩) (hA:(A.all fun x=>!ds.contains x.1)=true:=by rfl) (hB:(B.all fun x=>ds.contains x.1&&keepV ns x.2)=true:=by rfl) (hC:(C.all fun x=>!ns.contains x.1)=true:=by rfl) (hD:D.map (·.1)=ns:=by rfl):ThawH st st2 ds X K .mk .mk:=by
 rw[List.all_eq_true] at hA hB hC
 refine⟨_,ns,⟨fun k=>?_,fun c=>?_,hn,fun c hc=>?_⟩,hK⟩
 ·rcases mkS_mem (S:=A++B) k with h | h
  ·exact .inl h
  ·rcases List.mem_append.1 h with h | h
   ·have:=hA _ h
    exact .inr (.inl ⟨by simpa using this,(h1.1.mem h).symm⟩)
   ·have:=hB _ h
    simp only[aD] at this
    have e:=h2.1.mem h
    exact .inr (.inr (.inl ⟨by simpa using this.1,e.symm,by rw[e]; exact this.2⟩))
 ·rcases mkO_mem (S:=C++D) c with h | ⟨p,h,hm⟩
  ·exact .inl h
  ·rcases List.mem_append.1 hm with hm | hm
   ·have:=hC _ hm
    exact .inr (.inl ⟨by simpa using this,by show mkO _ c=_; rw[h,h1.2.mem hm]⟩)
   ·refine .inr (.inr ⟨?_,by show mkO _ c=_; rw[h,h2.2.1.mem hm]⟩)
    rw[← hD]; exact List.mem_map.2 ⟨_,hm,rfl⟩
 ·rw[← hD] at hc
  obtain⟨x,hx,rfl⟩:=List.mem_map.1 hc
  exact⟨x.2.1,x.2.2,h2.2.1.mem hx,h2.2.2.mem hx⟩
theorem SatH.of_kf{f:FuncId}{fn:Func}{c:Code}{pre post:List PV}{sh:Sh}{ps:List PV}{x x':BV}{res:PV}{rs:List ResultVar}(k:Nat)(hf:P.funcs[f]?=some fn)(hname:(fn.name== "runtime.NumGoroutine")=false)(hb:fn.body=some c)
 (hnt:fn.ntmps=nt) (hrs:fn.results.toList=rs) (hk:pre.length=k) (hle:k+post.length+1≤nt) (hnl:nt≤20000) (hhi:(explodes (pre++post) (x.hi 9000)).2.2≤10000)
 (h:MgF P nt (fun st=>RetHB P st rs res k x') n (.code c) (argSK k pre post sh ps x) []):SatH P f pre post sh ps x x' res:=by
 subst hk
 exact SatH.of_body hf hname hb hnt hrs hle hnl hhi (MgF.sound n _ _ _ h)
theorem Sat.of_mf{f:FuncId}{fn:Func}{c:Code}{args:List PV}{res:PV}{rs:List ResultVar}(hf:P.funcs[f]?=some fn)(hname:(fn.name== "runtime.NumGoroutine")=false)(hb:fn.body=some c)
 (hnt:fn.ntmps=nt) (hrs:fn.results.toList=rs) (hle:args.length≤nt) (h:MgF P nt (fun st=>FinH P st rs res) n (.code c) (argSt args) []):Sat P f args res:=
 Sat.of_body hf hname hb hnt hrs hle (MgF.sound n _ _ _ h)
/-! ### Rules -/
theorem FrzE_val(st:St)(x:CV)(v:SlotV):FrzE st (.val x) v=(x.whole st.o=true∧SlotV.val (.pv (x.pvw st.o))=v):=rfl
theorem FrzE_box(st:St)(x:CV)(v:SlotV):FrzE st (.box x) v=(x.whole st.o=true∧SlotV.val (.pv (.ptr (x.pvw st.o)))=v):=rfl
theorem FrzL_n(st:St):FrzL st []=True:=rfl
theorem FrzL_c(st:St)(k:Nat)(v:SlotV)(l:List (Nat×SlotV)):FrzL st ((k,v)::l)=(FrzE st (st.s k) v∧FrzL st l):=rfl
theorem OldS_n(st:St):OldS st []=True:=rfl
theorem OldS_c(st:St)(k:Nat)(v:SlotV)(l:List (Nat×SlotV)):OldS st ((k,v)::l)=(st.s k=v∧OldS st l):=rfl
theorem ObjS_n(st:St):ObjS st []=True:=rfl
theorem ObjS_c(st:St)(k:Nat)(v:Nat×List PV)(l:List (Nat×(Nat×List PV))):ObjS st ((k,v)::l)=(st.o k=some v∧ObjS st l):=rfl
theorem ObjV_n:ObjV []=True:=rfl
theorem ObjV_c(k:Nat)(v:Nat×List PV)(l:List (Nat×(Nat×List PV))):ObjV ((k,v)::l)=(aR v.2=true∧ObjV l):=rfl
attribute [push_cast] FrzE_val FrzE_box FrzL_n FrzL_c OldS_n OldS_c ObjS_n ObjS_c ObjV_n ObjV_c MgF_nrdH MgF_seq MgF_skip MgF_exit MgF_ret MgF_block MgF_cond MgF_n0 MgF_nsq MgF_nbl MgF_xsq MgF_xbl MgF_xbm MgF_xrd MgF_r0 MgF_rc
def RF:=ae @MgF_seq<|ae @MgF_skip<|ae @MgF_exit<|ae @MgF_ret<|ae @MgF_block<|ae @MgF_cond<|ae @MgF_n0<|ae @MgF_nsq<|ae @MgF_nbl<|ae @MgF_xsq<|ae @MgF_xbl<|ae @MgF_xbm<|ae @MgF_xrd<|ae @MgF_r0<|ae @MgF_rc<|@MgF_nrdH
end
end
section
mutual
/-- A row whose own parts are somebody else's now: of them only the cells are left. -/
def junk:PV→List Value→PV
 | .sl true _ _,cs=>.lit (cs.headD undef)
 | .sl false sz es,_=>.sl false sz es
 | .agg fs,cs=>.agg (junks fs cs)
 | .lit v,_=>.lit v
 | .clo f c,_=>.clo f c
 | .ptr v,_=>.ptr v
 | .tup vs,_=>.tup vs
def junks:List PV→List Value→List PV
 | [],_=>[]
 | p::ps,cs=>junk p (cs.take p.size)::junks ps (cs.drop p.size)
end
mutual
theorem size_junk:∀ (p:PV) (cs:List Value),(junk p cs).size=p.size
 | .sl true _ _,_=>rfl
 | .sl false _ _,_=>rfl
 | .agg fs,cs=>by simp only[junk,PV.size]; exact sizes_junks fs cs
 | .lit _,_=>rfl
 | .clo _ _,_=>rfl
 | .ptr _,_=>rfl
 | .tup _,_=>rfl
theorem sizes_junks:∀ (ps:List PV) (cs:List Value),PV.sizes (junks ps cs)=PV.sizes ps
 | [],_=>rfl
 | p::ps,cs=>by simp only[junks,PV.sizes,size_junk p,sizes_junks ps]
end
section
variable{N:Nat→Prop}{w:World}
mutual
theorem RepC.junk:∀ (p:PV) (cs:List Value) (F:List Nat),RepC N w p cs F→RepC N w (Av.junk p cs) cs []
 | .lit v,cs,F,h=>by simp only[RepC,Av.junk] at h ⊢; exact⟨h.1,h.2.1,trivial⟩
 | .agg fs,cs,F,h=>by simp only[RepC,Av.junk] at h ⊢; exact RepCs.junk fs cs F h
 | .sl false sz es,cs,F,h=>by
  have hF:=RepC.noOwn (.sl false sz es) cs F rfl h
  subst hF; exact h
 | .sl true sz es,cs,F,h=>by
  have hl:=RepC.length _ _ _ h
  simp only[PV.size] at hl
  obtain⟨v,rfl⟩:=List.length_eq_one_iff.1 hl
  simp only[Av.junk,RepC,List.headD_cons]
  exact⟨trivial,RepC.one _ _ _ h v (by simp),trivial⟩
 | .clo f c,cs,F,h=>by
  have hF:=RepC.noOwn (.clo f c) cs F rfl h
  subst hF; exact h
 | .ptr v,cs,F,h=>by
  have hF:=RepC.noOwn (.ptr v) cs F rfl h
  subst hF; exact h
 | .tup vs,cs,F,h=>by simp only[RepC] at h
theorem RepCs.junk:∀ (ps:List PV) (cs:List Value) (F:List Nat),RepCs N w ps cs F→RepCs N w (junks ps cs) cs []
 | [],cs,F,h=>by simp only[RepCs,junks] at h ⊢; exact⟨h.1,trivial⟩
 | p::ps,cs,F,h=>by
  simp only[RepCs] at h
  obtain⟨c1,c2,F1,F2,rfl,rfl,h3,h4⟩:=h
  have hl:=RepC.length _ _ _ h3
  simp only[junks,RepCs]
  rw[List.take_left' hl,List.drop_left' hl]
  exact⟨c1,c2,[],[],rfl,rfl,RepC.junk p c1 F1 h3,RepCs.junk ps c2 F2 h4⟩
end
end
theorem updAll_news{l:List (Nat×(Nat×List PV))}{f:Nat→Option (Nat×List PV)}{n:Nat}{p:Nat×List PV}(hn:(l.map (·.1)).Nodup)(h:updAll f (newObjs l) n=some p):((n,p)∈l)∨(n∉l.map (·.1)∧f n=some p):=by
 by_cases hm:n∈l.map (·.1)
 ·obtain⟨⟨m,q⟩,hq,rfl⟩:=List.mem_map.1 hm
  have:=updAll_mem (newObjs l) f m (some q) (by rw[newObjs_keys]; exact hn) (List.mem_map.2 ⟨_,hq,rfl⟩)
  simp only at h
  rw[this] at h
  cases h
  exact .inl hq
 ·rw[updAll_notMem _ _ _ (by rw[newObjs_keys]; exact hm)] at h
  exact .inr ⟨hm,h⟩
/-- A row is read, and what is its own goes along. -/
theorem VSeq.take{P:Program}{nt:Nat}{ops:Array Oper}{i:Nat}{st:St}{K:St→Prop}{o:Oper}{x:Operand}{T:TypeId}{d c sz j:Nat}{es:List PV}(row:PV)
 (ho:ops[i]?=some o) (hg:o.guard=none) (hop:o.op=.load T x) (hdst:o.dst=some d) (hd:d<nt) (hx:ev P st 0 x=.eptr c sz j [] 0) (hc:st.o c=some (sz,es)) (hj:j<es.length) (hrw:es.getD j default=row)
 (hT:TyIs P T (explode row (16*d)).1.isAgg (explode row (16*d)).1.size) (hgo:∀ n,(explode row (16*d)).1≠.gone n) (hfr:∀ n∈(explode row (16*d)).2.1.map (·.1),st.noC n)
 (h:∀ cs:List Value,VSeq P nt ops (i+1) ⟨upd st.s d (.val (explode row (16*d)).1),updAll (upd st.o c (some (sz,es.set j (junk row cs)))) (newObjs (explode row (16*d)).2.1)⟩ K):VSeq P nt ops i st K:=by
 intro κ a w hnt hR Q hQ
 obtain⟨G,hG⟩:=hR
 have hi:i<ops.size:=(Array.getElem?_eq_some_iff.1 ho).1
 have e:ops.size-i=(ops.size-(i+1))+1:=by omega
 rw[e,List.range'_succ,wpOps_cons]
 have hs1:=ev_ok (P:=P) (T:=0) hG x d
 rw[hx] at hs1
 obtain⟨b,n,cap,k1,k2⟩:=hs1
 obtain⟨h4,h4n,h4l⟩:=hG.objs c sz es hc
 have h4':=h4
 simp only[RepC] at h4
 rcases h4 with⟨_,h4,_⟩ | ⟨b',cap',cc,et,F',ccs,f1,f2,f3,f4,f5,f6,f7,f8,f9⟩
 ·subst h4; simp at hj
 rw[k1] at f1
 simp at f1
 obtain⟨rfl,rfl,rfl⟩:=f1
 obtain⟨c1,c2,c3,F1,F2,F3,e1,e2,e3,e4,e5,e6⟩:=RepCs.at' es j ccs F' hj f8
 rw[hrw] at e4
 rw[sizes_take f4 (by omega)] at e3
 have hFn0:(b::F').Nodup:=by rw[← f9]; exact h4n
 have hF'n:=(List.nodup_cons.1 hFn0).2
 rw[e2] at hF'n
 have hF2n:F2.Nodup:=(List.nodup_append.1 (List.nodup_append.1 hF'n).1).2.1
 obtain⟨hdv,fpv,hnews,hrep⟩:=explode_ok row c2 F2 (16*d) e4 hF2n
 let nm:=(explode row (16*d)).2.1.map (·.1)
 let G':Gh:={ hd:=fun m=>if m∈nm then hdv m else G.hd m,fp:=fun m=>if m∈nm then fpv m else if m=c then b::(F1++F3) else G.fp m,ad:=G.ad }
 have hin:∀ m,m∈nm→G'.hd m=hdv m∧G'.fp m=fpv m:=fun m hm=>by simp[G',hm]
 have hout:∀ m,m∉nm→G'.hd m=G.hd m:=fun m hm=>by simp[G',hm]
 have hcn:c∉nm:=fun hm=>by have:=(hfr c hm).1.2; rw[hc] at this; cases this
 have hfc:G'.fp c=b::(F1++F3):=by simp[G',hcn]
 have hfo:∀ m,m∉nm→m≠c→G'.fp m=G.fp m:=fun m h1 h2=>by simp[G',h1,h2]
 have hF2fp:∀ k∈F2,k∈G.fp c:=fun k hk=>by rw[f9,e2]; simp[hk]
 have hFcfp:∀ k∈b::(F1++F3),k∈G.fp c:=fun k hk=>by
  rw[f9,e2]; simp only[bz,bf] at hk ⊢
  rcases hk with hk | hk | hk<;>simp[hk]
 have hfpsub:∀ m p,updAll (upd st.o c (some (sz,es.set j (junk row c2)))) (newObjs (explode row (16*d)).2.1) m=some p→∀ k∈G'.fp m,∃ q m',st.o m'=some q∧k∈G.fp m':=by
  intro m p hm k hk
  rcases updAll_news hnews.once hm with hm | ⟨hm,hm2⟩
  ·have hmn:m∈nm:=List.mem_map.2 ⟨_,hm,rfl⟩
   rw[(hin m hmn).2] at hk
   exact⟨_,c,hc,hF2fp k ((hnews.rep m p.1 p.2 hm).2.2.2.2 k hk)⟩
  ·by_cases hmc:m=c
   ·subst hmc; rw[hfc] at hk; exact⟨_,m,hc,hFcfp k hk⟩
   ·rw[upd_ne hmc] at hm2; rw[hfo m hm hmc] at hk; exact⟨p,m,hm2,hk⟩
 have hbox:∀ r,isBox (upd st.s d (.val (explode row (16*d)).1) r)=true→r≠d∧isBox (st.s r)=true:=by
  intro r hr
  simp only[upd] at hr
  split at hr
  ·cases hr
  ·exact⟨by assumption,hr⟩
 have hN:∀ k,Nof κ st G w k→Nof κ ⟨upd st.s d (.val (explode row (16*d)).1),updAll (upd st.o c (some (sz,es.set j (junk row c2)))) (newObjs (explode row (16*d)).2.1)⟩ G' w k:=by
  intro k hk
  refine⟨hk.1,?_⟩
  rintro (⟨r,h1,h2⟩ | ⟨m,p,h1,h2⟩)
  ·exact hk.2 (.inl ⟨r,(hbox r h1).2,h2⟩)
  ·obtain⟨q,m',h3,h4⟩:=hfpsub m p h1 k h2
   exact hk.2 (.inr ⟨m',q,h3,h4⟩)
 -- the load
 have hrow:RowAt w ⟨b,j*sz+0,none⟩ c2:=by
  have hall:cc.toList=c1++c2++(c3++cc.toList.drop (es.length*sz)):=by
   have:=List.take_append_drop (es.length*sz) cc.toList
   rw[f7,e1] at this
   refine this.symm.trans ?_
   simp only[aT]
  have h5:w.heap[b]?=some (.cells (c1++c2++(c3++cc.toList.drop (es.length*sz))).toArray et (0,0)):=by rw[← hall]; simpa using f5
  have:=rowAt_of_block h5
  rw[e3] at this
  exact this
 have hcv:RepCV (Nof κ st G w) w G'.hd (explode row (16*d)).1 c2:=hrep G'.hd (fun m h1 h2=>by
  have:=hnews.all m h1 h2
  exact(hin m this).1)
 obtain⟨u',r1,r2⟩:=run_loadVar (P:=P) (T:=T) hT rfl hrow hcv hgo
 have hrun1:(execOp a.eval o).run P w=.ok (.value u') w:=by
  rw[Nat.add_zero] at r1
  simp[execOp,hop,k2,Instr.loadAt,Instr.sureAddr,r1]
 unfold wpOp
 simp only[ho,Region.wanted,hg,if_true]
 refine .inl ?_
 unfold Oper.wp
 rw[hrun1]
 simp only[Oper.upon,hdst]
 refine h c2 κ _ _ hnt ⟨G',?_⟩ Q hQ
 refine hG.step (st':=⟨upd st.s d (.val (explode row (16*d)).1),updAll (upd st.o c (some (sz,es.set j (junk row c2)))) (newObjs (explode row (16*d)).2.1)⟩) (by rw[hnt]; exact hd) (KeepX.refl _ _ _) hN (fun _ _=>rfl) (fun k hk=>.inl (by show upd st.s d _ k=_; rw[upd_ne hk])) ?_ (fun k m hk hdd hcc=>?_) (fun _ _ _ _ _=>rfl) (fun _ _ _ _=>⟨rfl,rfl⟩) ?_ ?_ ?_ ?_ ?_ ?_
 ·show SlotOk _ w G' d u' (upd st.s d _ d)
  rw[upd_same]
  exact CVal.frame hN (fun _ _=>rfl) (fun _ _=>rfl) r2
 ·refine hout m fun hm=>?_
  rw[(hfr m hm).2 k] at hcc; cases hcc
 ·intro m sz' es' hm
  rcases updAll_news hnews.once hm with hmA | ⟨hmB,hm2⟩
  ·have hmn:m∈nm:=List.mem_map.2 ⟨_,hmA,rfl⟩
   obtain⟨_,_,g3,g4,g5⟩:=hnews.rep m sz' es' hmA
   rw[(hin m hmn).1,(hin m hmn).2]
   exact⟨RepC.frame hN (fun _ _=>rfl) _ _ _ (fun _ _=>rfl) g3,g4,fun k hk=>h4l k (hF2fp k (g5 k hk))⟩
  ·by_cases hmc:m=c
   ·subst hmc
    rw[upd_same] at hm2
    cases hm2
    rw[hout m hmB,hfc]
    have hl1:=RepCs.frame (N:=Nof κ st G w) (w':=w) hN (fun _ _=>rfl) _ _ _ (fun _ _=>rfl) e5
    have hl3:=RepCs.frame (N:=Nof κ st G w) (w':=w) hN (fun _ _=>rfl) _ _ _ (fun _ _=>rfl) e6
    have hl2:=RepC.frame (N:=Nof κ st G w) (w':=w) hN (fun _ _=>rfl) _ _ _ (fun _ _=>rfl) (RepC.junk row c2 F2 e4)
    have hwhole:=RepCs.append _ _ _ _ _ _ hl1 (by simp only[RepCs]; exact⟨_,_,_,_,rfl,rfl,hl2,hl3⟩:RepCs _ w (junk row c2::es.drop (j+1)) (c2++c3) ([]++F3))
    rw[← set_eq hj,List.nil_append] at hwhole
    refine⟨?_,?_,fun k hk=>h4l k (hFcfp k hk)⟩
    ·simp only[RepC]
     refine .inr ⟨b,cap,cc,et,F1++F3,ccs,by rw[k1,List.length_set],by rw[List.length_set]; exact f2,f3,?_,f5,f6,by rw[List.length_set]; exact f7,?_,rfl⟩
     ·intro q hq
      rcases List.mem_or_eq_of_mem_set hq with hq | rfl
      ·exact f4 q hq
      ·rw[size_junk,← hrw]
       exact f4 _ (by rw[List.getD_eq_getElem?_getD,List.getElem?_eq_getElem hj]; exact List.getElem_mem _)
     ·rw[e1,aT]; exact hwhole
    ·refine List.Sublist.nodup ?_ hFn0
     rw[e2]
     refine List.Sublist.cons_cons _ ?_
     exact List.Sublist.append (List.sublist_append_left _ _) (List.Sublist.refl _)
   ·rw[upd_ne hmc] at hm2
    obtain⟨g1,g2,g3⟩:=hG.objs m sz' es' hm2
    rw[hout m hmB,hfo m hmB hmc]
    exact⟨RepC.frame hN (fun _ _=>rfl) _ _ _ (fun _ _=>rfl) g1,g2,g3⟩
 ·intro r hr; exact hG.boxes r (hbox r hr).2
 ·intro r r' h1 h2; exact hG.bb r r' (hbox r h1).2 (hbox r' h2).2
 ·intro r m p h1 h2 h3
  obtain⟨q,m',h5,h6⟩:=hfpsub m p h2 _ h3
  exact hG.bo r m' q (hbox r h1).2 h5 h6
 ·intro m m' p p' h1 h2 hne k hk hk'
  rcases updAll_news hnews.once h1 with g1 | ⟨g1,g1'⟩<;>rcases updAll_news hnews.once h2 with g2 | ⟨g2,g2'⟩
  ·have a1:m∈nm:=List.mem_map.2 ⟨_,g1,rfl⟩
   have a2:m'∈nm:=List.mem_map.2 ⟨_,g2,rfl⟩
   rw[(hin m a1).2] at hk; rw[(hin m' a2).2] at hk'
   exact hnews.apart m m' p p' g1 g2 hne k hk hk'
  ·have a1:m∈nm:=List.mem_map.2 ⟨_,g1,rfl⟩
   rw[(hin m a1).2] at hk
   have hkF:=(hnews.rep m p.1 p.2 g1).2.2.2.2 k hk
   by_cases hmc:m'=c
   ·subst hmc
    rw[hfc] at hk'
    have hd1:=List.nodup_append.1 hF'n
    have hd2:=List.nodup_append.1 hd1.1
    rcases List.mem_cons.1 hk' with rfl | hk'
    ·exact(List.nodup_cons.1 hFn0).1 (by rw[e2]; simp[hkF])
    ·rcases List.mem_append.1 hk' with hk' | hk'
     ·exact hd2.2.2 k hk' k hkF rfl
     ·exact hd1.2.2 k (by simp[hkF]) k hk' rfl
   ·rw[upd_ne hmc] at g2'; rw[hfo m' g2 hmc] at hk'
    exact hG.oo c m' _ p' hc g2' (Ne.symm hmc) k (hF2fp k hkF) hk'
  ·have a2:m'∈nm:=List.mem_map.2 ⟨_,g2,rfl⟩
   rw[(hin m' a2).2] at hk'
   have hkF:=(hnews.rep m' p'.1 p'.2 g2).2.2.2.2 k hk'
   by_cases hmc:m=c
   ·subst hmc
    rw[hfc] at hk
    have hd1:=List.nodup_append.1 hF'n
    have hd2:=List.nodup_append.1 hd1.1
    rcases List.mem_cons.1 hk with rfl | hk
    ·exact(List.nodup_cons.1 hFn0).1 (by rw[e2]; simp[hkF])
    ·rcases List.mem_append.1 hk with hk | hk
     ·exact hd2.2.2 k hk k hkF rfl
     ·exact hd1.2.2 k (by simp[hkF]) k hk rfl
   ·rw[upd_ne hmc] at g1'; rw[hfo m g1 hmc] at hk
    exact hG.oo c m _ p hc g1' (Ne.symm hmc) k (hF2fp k hkF) hk
  ·by_cases hmc:m=c
   ·subst hmc
    rw[hfc] at hk
    rw[upd_ne (Ne.symm hne)] at g2'; rw[hfo m' g2 (Ne.symm hne)] at hk'
    exact hG.oo m m' _ p' hc g2' hne k (hFcfp k hk) hk'
   ·rw[upd_ne hmc] at g1'; rw[hfo m g1 hmc] at hk
    by_cases hmc':m'=c
    ·subst hmc'
     rw[hfc] at hk'
     exact hG.oo m m' p _ g1' hc hne k hk (hFcfp k hk')
    ·rw[upd_ne hmc'] at g2'; rw[hfo m' g2 hmc'] at hk'
     exact hG.oo m m' p p' g1' g2' hne k hk hk'
 ·intro m hm
  refine hout m fun hmn=>?_
  have:=(hfr m hmn).1.1; omega
end
section
open Classical in
noncomputable def hdF(v:Value)(hs:List Value)(_:List Nat)(_:List Value):Value:=if hs=[v] then undef else .bool true
/-- A mark that says what an object's head is. -/
noncomputable def hdS(c:Nat)(v:Value):SlotV:=.fn [c] [] [] (hdF v)
theorem hdF_iff{v u:Value}{l:List Value}:undef=hdF v [u] [] l↔u=v:=by
 unfold hdF
 constructor
 ·intro h
  by_cases e:([u]:List Value)=[v]
  ·simpa using e
  ·rw[if_neg e] at h; simp[undef] at h
 ·rintro rfl; rw[if_pos rfl]
theorem tmp_out{κ:Ctx}{G:Gh}{st:St}{a:Act}{w:World}(h:RG κ G st a w){s:Nat}(hs:κ.nt≤s):a.tmps.getD s undef=undef:=by
 have:=h.nt
 simp[Array.getD,show ¬ s<a.tmps.size by omega]
theorem RG.split{κ:Ctx}{G:Gh}{st:St}{a:Act}{w:World}{c j c' s sz sz':Nat}{p:List Nat}{es es':List PV}(h:RG κ G st a w)(hc:st.o c=some (sz,es))(hj:j<es.length)(hok:(es.getD j default).okp p=true)
 (hp:(es.getD j default).at p=.sl true sz' es') (hn:st.noC c') (hs:κ.nt≤s) (hsd:st.s s=.dead):
 ∃ v,R κ ⟨upd st.s s (hdS c' v),upd (upd st.o c (some (sz,es.set j ((es.getD j default).setAt p (.lit v))))) c' (some (sz',es'))⟩ a w:=by
 obtain⟨h4,h4n,h4l⟩:=h.objs c sz es hc
 have h4':=h4
 simp only[RepC] at h4
 rcases h4 with⟨_,h4,_⟩ | ⟨b,cap,cc,et,F',ccs,f1,f2,f3,f4,f5,f6,f7,f8,f9⟩
 ·subst h4; simp at hj
 have f1':G.hd c=.slice (some ⟨b,0,none⟩) es.length cap:=by simpa using f1
 obtain⟨c1,c2,c3,F1,F2,F3,e1,e2,e3,e4,e5,e6⟩:=RepCs.at' es j ccs F' hj f8
 obtain⟨m1,m2,m3,H1,H2,H3,q1,q2,q3,q4,q5⟩:=RepC.path p _ c2 F2 hok e4
 rw[hp] at q4
 have hlen:=RepC.length _ _ _ q4
 simp only[PV.size] at hlen
 obtain⟨v,rfl⟩:=List.length_eq_one_iff.1 hlen
 have hone:=RepC.one _ _ _ q4 v (by simp)
 have hcn:c≠c':=by rintro rfl; rw[hn.1.2] at hc; cases hc
 let G':Gh:=⟨fun m=>if m=c' then v else G.hd m,fun m=>if m=c' then H2 else if m=c then b::(F1++(H1++H3)++F3) else G.fp m,G.ad⟩
 have g1:G'.hd c'=v:=if_pos rfl
 have g2:∀ m,m≠c'→G'.hd m=G.hd m:=fun m hm=>if_neg hm
 have g3:G'.fp c'=H2:=if_pos rfl
 have g4:G'.fp c=b::(F1++(H1++H3)++F3):=by show(if c=c' then H2 else if c=c then _ else _)=_; rw[if_neg hcn,if_pos rfl]
 have g5:∀ m,m≠c'→m≠c→G'.fp m=G.fp m:=fun m h1 h2=>by show(if m=c' then H2 else if m=c then _ else _)=_; rw[if_neg h1,if_neg h2]
 have hFc:∀ k,k∈G.fp c↔k∈b::(F1++(H1++H3)++F3)∨k∈H2:=fun k=>by
  rw[f9,e2,q2]; simp only[bz,bf]; grind
 have hnd:(b::(F1++(H1++H2++H3)++F3)).Nodup:=by rw[f9,e2,q2] at h4n; exact h4n
 have hrest:(b::(F1++(H1++H3)++F3)).Nodup∧H2.Nodup∧∀ k∈b::(F1++(H1++H3)++F3),k∉H2:=by
  have hp:(b::(F1++(H1++H2++H3)++F3)).Perm ((b::(F1++(H1++H3)++F3))++H2):=by
   simp only[List.cons_append,aT]
   refine List.Perm.cons _ (List.Perm.append_left _ (List.Perm.append_left _ ?_))
   rw[← aT H3 F3 H2]
   exact List.perm_append_comm
  have:=(hp.nodup_iff).1 hnd
  rw[List.nodup_append] at this
  exact⟨this.1,this.2.1,fun k h1 h2=>this.2.2 k h1 k h2 rfl⟩
 let st':St:=⟨upd st.s s (hdS c' v),upd (upd st.o c (some (sz,es.set j ((es.getD j default).setAt p (.lit v))))) c' (some (sz',es'))⟩
 have o1:st'.o c'=some (sz',es'):=by simp[st',upd]
 have o2:st'.o c=some (sz,es.set j ((es.getD j default).setAt p (.lit v))):=by simp[st',upd,hcn]
 have o3:∀ m,m≠c'→m≠c→st'.o m=st.o m:=fun m h1 h2=>by simp[st',upd,h1,h2]
 have s1:∀ k,k≠s→st'.s k=st.s k:=fun k hk=>by simp[st',upd,hk]
 have s2:st'.s s=hdS c' v:=by simp[st',upd]
 have hbx:∀ k,isBox (st'.s k)=true→k≠s∧isBox (st.s k)=true:=by
  intro k hk
  by_cases e:k=s
  ·subst e; rw[s2] at hk; cases hk
  ·rw[s1 k e] at hk; exact⟨e,hk⟩
 have hfp:∀ m q k,st'.o m=some q→k∈G'.fp m→∃ m' q',st.o m'=some q'∧k∈G.fp m'∧(m=m'∨(m=c'∧m'=c)):=by
  intro m q k hm hk
  by_cases h1:m=c'
  ·subst h1; rw[g3] at hk; exact⟨c,_,hc,(hFc k).2 (.inr hk),.inr ⟨rfl,rfl⟩⟩
  ·by_cases h2:m=c
   ·subst h2; rw[g4] at hk; exact⟨m,_,hc,(hFc k).2 (.inl hk),.inl rfl⟩
   ·rw[g5 m h1 h2] at hk; rw[o3 m h1 h2] at hm; exact⟨m,q,hm,hk,.inl rfl⟩
 have hN:∀ k,Nof κ st G w k→Nof κ st' G' w k:=by
  intro k hk
  refine⟨hk.1,?_⟩
  rintro (⟨r,h1,h2⟩ | ⟨m,q,h1,h2⟩)
  ·exact hk.2 (.inl ⟨r,(hbx r h1).2,h2⟩)
  ·obtain⟨m',q',a1,a2,_⟩:=hfp m q k h1 h2
   exact hk.2 (.inr ⟨m',q',a1,a2⟩)
 refine⟨v,G',⟨h.keep,h.defers,h.nt,fun k=>?_,?_,fun r hr=>h.boxes r (hbx r hr).2,fun r r' h1 h2=>h.bb r r' (hbx r h1).2 (hbx r' h2).2,?_,?_,?_⟩⟩
 ·by_cases e:k=s
  ·subst e
   show SlotOk _ w G' k _ (st'.s k)
   rw[s2,tmp_out h hs]
   refine⟨[],by simp[RepCs],?_⟩
   show undef=hdF v [G'.hd c'] [] []
   rw[g1]; exact hdF_iff.2 rfl
  ·show SlotOk _ w G' k _ (st'.s k)
   rw[s1 k e]
   refine SlotOk.frame hN (fun _ _=>rfl) (fun m hm=>g2 m ?_) (fun _ _=>rfl) (fun _=>⟨rfl,rfl⟩) (h.slots k)
   rintro rfl
   rw[hn.2 k] at hm; cases hm
 ·intro m z zs hm
  change st'.o m=_ at hm
  by_cases h1:m=c'
  ·subst h1
   rw[o1] at hm
   cases hm
   rw[g1,g3]
   refine⟨RepC.frame hN (fun _ _=>rfl) _ _ _ (fun _ _=>rfl) q4,hrest.2.1,fun k hk=>h4l k ((hFc k).2 (.inr hk))⟩
  ·by_cases h2:m=c
   ·subst h2
    rw[o2] at hm
    cases hm
    rw[g2 m h1,g4]
    refine⟨?_,hrest.1,fun k hk=>h4l k ((hFc k).2 (.inl hk))⟩
    have hl1:=RepCs.frame (N:=Nof κ st G w) (w':=w) hN (fun _ _=>rfl) _ _ _ (fun _ _=>rfl) e5
    have hl3:=RepCs.frame (N:=Nof κ st G w) (w':=w) hN (fun _ _=>rfl) _ _ _ (fun _ _=>rfl) e6
    have hl2:=q5 (Nof κ st' G' w) w hN (fun _ _=>rfl) (fun _ _=>rfl) (.lit v) [v] [] (by simp[RepC,hone])
    have hsz:((es.getD j default).setAt p (.lit v)).size=sz:=by
     rw[← RepC.length _ _ _ hl2,← q1,RepC.length _ _ _ e4]
     exact f4 _ (by rw[List.getD_eq_getElem?_getD,List.getElem?_eq_getElem hj]; exact List.getElem_mem _)
    have hwhole:=RepCs.append _ _ _ _ _ _ hl1 (by simp only[RepCs]; exact⟨_,_,_,_,rfl,rfl,hl2,hl3⟩:RepCs _ w ((es.getD j default).setAt p (.lit v)::es.drop (j+1)) ((m1++[v]++m3)++c3) ((H1++[]++H3)++F3))
    rw[← set_eq hj] at hwhole
    simp only[RepC]
    refine .inr ⟨b,cap,cc,et,F1++(H1++H3)++F3,ccs,by rw[f1',List.length_set],by rw[List.length_set]; exact f2,f3,?_,f5,f6,by rw[List.length_set]; exact f7,?_,rfl⟩
    ·intro q hq
     rcases List.mem_or_eq_of_mem_set hq with hq | rfl
     ·exact f4 q hq
     ·exact hsz
    ·rw[e1,q1]
     simpa only[bu,aT] using hwhole
   ·rw[o3 m h1 h2] at hm
    obtain⟨a1,a2,a3⟩:=h.objs m z zs hm
    rw[g2 m h1,g5 m h1 h2]
    exact⟨RepC.frame hN (fun _ _=>rfl) _ _ _ (fun _ _=>rfl) a1,a2,a3⟩
 ·intro r m q h1 h2 h3
  obtain⟨m',q',a1,a2,_⟩:=hfp m q _ h2 h3
  exact h.bo r m' q' (hbx r h1).2 a1 a2
 ·intro m m' q q' h1 h2 hne k hk hk'
  obtain⟨n1,r1,a1,a2,a3⟩:=hfp m q k h1 hk
  obtain⟨n2,r2,b1,b2,b3⟩:=hfp m' q' k h2 hk'
  by_cases e:n1=n2
  ·subst e
   rcases a3 with rfl | ⟨rfl,rfl⟩<;>rcases b3 with rfl | ⟨rfl,hb⟩
   ·exact hne rfl
   ·subst hb; rw[g4] at hk; rw[g3] at hk'; exact hrest.2.2 k hk hk'
   ·rw[g3] at hk; rw[g4] at hk'; exact hrest.2.2 k hk' hk
   ·exact hne rfl
  ·exact h.oo n1 n2 r1 r2 a1 b1 e k a2 b2
 ·intro m u hm
  have:=h.held m u hm
  have h10:=κ.hH m u hm
  rw[g2 m (by have:=hn.1.1; omega)]; exact this
section
variable{P:Program}{nt:Nat}{F:St→Prop}{n:Nat}{st:St}{k:List Fr}
theorem MgF.split{l:Array Oper}{id:Nat}{dr:Bool}(c j c' s:Nat)(p:List Nat){sz sz':Nat}{es es':List PV}(es1:Value→List PV)(he:∀ v,es.set j ((es.getD j default).setAt p (.lit v))=es1 v)(hc:st.o c=some (sz,es)∧st.s s=.dead)(hq:j<es.length∧(es.getD j default).okp p=true∧(es.getD j default).at p=.sl true sz' es')(hs:nt≤s)
 (h:st.noC c'∧∀ v,MgF P nt F (n+1) (.code (.region id l dr)) ⟨upd st.s s (hdS c' v),upd (upd st.o c (some (sz,es1 v))) c' (some (sz',es'))⟩ k):MgF P nt F (n+1) (.code (.region id l dr)) st k:=by
 show VC P nt (.region id l dr) st (popQ P nt F k)
 intro κ a w hnt hR
 obtain⟨G,hG⟩:=hR
 obtain⟨v,hR'⟩:=hG.split hc.1 hq.1 hq.2.1 hq.2.2 h.1 (by rw[hnt]; exact hs) hc.2
 rw[he v] at hR'
 exact(h.2 v:VC P nt (.region id l dr) _ (popQ P nt F k)) κ a w hnt hR'
end
@[push_cast] theorem range_14:List.range 14=[0,1,2,3,4,5,6,7,8,9,10,11,12,13]:=rfl
theorem idx0{α:Type}{l:List α}{x:α}(h:idx l 0=some x):∃ xs,l=x::xs:=by
 cases l with
 | nil=>simp[idx] at h
 | cons y ys=>simp[idx] at h; exact⟨ys,by rw[h]⟩
end
section
mutual
def PV.thin:PV→PV
 | .agg fs=>.agg (PV.thins fs)
 | .sl true sz es=>.sl true sz (PV.views es)
 | .tup vs=>.tup (PV.thins vs)
 | p=>p
def PV.thins:List PV→List PV
 | []=>[]
 | p::ps=>p.thin::PV.thins ps
end
/-- What stays one's own. -/
def Thin(N:Nat→Prop)(w:World)(q:(Nat→Prop)→List Nat→Prop)(F:List Nat):Prop:=
 ∃ F2:List Nat,F2.Sublist F∧∀ N':Nat→Prop,(∀ b,N b→N' b)→(∀ b∈F,b∉F2→N' b)→q N' F2
theorem sub_parts{F1 F2 G1 G2:List Nat}(hn:(F1++F2).Nodup)(h1:G1.Sublist F1)(h2:G2.Sublist F2){N':Nat→Prop}(h:∀ b∈F1++F2,b∉G1++G2→N' b):(∀ b∈F1,b∉G1→N' b)∧∀ b∈F2,b∉G2→N' b:=by
 obtain⟨_,_,hd⟩:=List.nodup_append.1 hn
 refine⟨fun b hb hg=>h b (by simp[hb]) (fun hm=>?_),fun b hb hg=>h b (by simp[hb]) (fun hm=>?_)⟩
 ·rcases List.mem_append.1 hm with hm | hm
  ·exact hg hm
  ·exact hd b hb b (h2.subset hm) rfl
 ·rcases List.mem_append.1 hm with hm | hm
  ·exact hd b (h1.subset hm) b hb rfl
  ·exact hg hm
mutual
theorem RepC.thin{N:Nat→Prop}{w:World}:∀ (p:PV) (cs:List Value) (F:List Nat),F.Nodup→RepC N w p cs F→Thin N w (fun N' F2=>RepC N' w p.thin cs F2) F
 | .lit v,cs,F,_,h=>⟨F,List.Sublist.refl _,fun N' hN _=>RepC.frame hN (fun _ _=>rfl) (.lit v) cs F (fun _ _=>rfl) h⟩
 | .agg fs,cs,F,hn,h=>by
  simp only[RepC] at h
  obtain⟨F2,h1,h2⟩:=RepCs.thin fs cs F hn h
  exact⟨F2,h1,fun N' hN hF=>by simp only[PV.thin,RepC]; exact h2 N' hN hF⟩
 | .sl false sz es,cs,F,_,h=>⟨F,List.Sublist.refl _,fun N' hN _=>RepC.frame hN (fun _ _=>rfl) (.sl false sz es) cs F (fun _ _=>rfl) h⟩
 | .sl true sz es,cs,F,hn,h=>by
  simp only[RepC] at h
  rcases h with⟨h1,h2,h3⟩ | ⟨b,cap,c,e,F',ccs,h1,h2,h3,h4,h5,h6,h7,h8,h9⟩
  ·subst h2; subst h3
   exact⟨[],List.Sublist.refl _,fun N' _ _=>by simp only[PV.thin,PV.views,RepC]; exact .inl ⟨h1,trivial,trivial⟩⟩
  ·subst h9
   refine⟨[b],by simp,fun N' hN hF=>?_⟩
   simp only[PV.thin,RepC]
   refine .inr ⟨b,cap,c,e,[],ccs,by rw[h1,PV.length_views],by rw[PV.length_views]; exact h2,h3,?_,h5,h6,by rw[PV.length_views]; exact h7,RepCs.demote hN es ccs F' (fun x hx=>hF x (by simp[hx]) (fun hm=>?_)) h8,rfl⟩
   ·rw[PV.views_eq]; intro y hy; obtain⟨q,hq,rfl⟩:=List.mem_map.1 hy; rw[PV.size_view]; exact h4 q hq
   ·rw[List.mem_singleton.1 hm] at hx
    exact(List.nodup_cons.1 hn).1 hx
 | .clo f caps,cs,F,_,h=>⟨F,List.Sublist.refl _,fun N' hN _=>RepC.frame hN (fun _ _=>rfl) (.clo f caps) cs F (fun _ _=>rfl) h⟩
 | .ptr v,cs,F,_,h=>⟨F,List.Sublist.refl _,fun N' hN _=>RepC.frame hN (fun _ _=>rfl) (.ptr v) cs F (fun _ _=>rfl) h⟩
 | .tup _,cs,F,_,h=>by simp only[RepC] at h
theorem RepCs.thin{N:Nat→Prop}{w:World}:∀ (ps:List PV) (cs:List Value) (F:List Nat),F.Nodup→RepCs N w ps cs F→Thin N w (fun N' F2=>RepCs N' w (PV.thins ps) cs F2) F
 | [],cs,F,_,h=>by
  simp only[RepCs] at h
  exact⟨[],List.nil_sublist _,fun N' _ _=>by simp only[PV.thins,RepCs]; exact⟨h.1,trivial⟩⟩
 | p::ps,cs,F,hn,h=>by
  simp only[RepCs] at h
  obtain⟨c1,c2,F1,F2,h1,h2,h3,h4⟩:=h
  subst h2
  obtain⟨n1,n2,_⟩:=List.nodup_append.1 hn
  obtain⟨G1,g1,g2⟩:=RepC.thin p c1 F1 n1 h3
  obtain⟨G2,g3,g4⟩:=RepCs.thin ps c2 F2 n2 h4
  refine⟨G1++G2,g1.append g3,fun N' hN hF=>?_⟩
  obtain⟨k1,k2⟩:=sub_parts hn g1 g3 hF
  simp only[PV.thins,RepCs]
  exact⟨c1,c2,G1,G2,h1,rfl,g2 N' hN k1,g4 N' hN k2⟩
end
theorem RepV.thin{N:Nat→Prop}{w:World}{p:PV}{v:Value}{F:List Nat}(hn:F.Nodup)(h:RepV N w p v F):Thin N w (fun N' F2=>RepV N' w p.thin v F2) F:=by
 cases p with
 | agg fs=>
  obtain⟨cs,rfl,h⟩:=h
  obtain⟨F2,h1,h2⟩:=RepCs.thin fs cs F hn h
  exact⟨F2,h1,fun N' hN hF=>⟨cs,rfl,h2 N' hN hF⟩⟩
 | sl o sz es=>cases o<;>exact RepC.thin _ _ _ hn h
 | lit u=>exact RepC.thin _ _ _ hn h
 | clo f cs=>exact RepC.thin _ _ _ hn h
 | ptr u=>exact RepC.thin _ _ _ hn h
 | tup vs=>simp only[RepV,RepC] at h
theorem RepVs.thin{N:Nat→Prop}{w:World}:∀ (ps:List PV) (vs:List Value) (F:List Nat),F.Nodup→RepVs N w ps vs F→Thin N w (fun N' F2=>RepVs N' w (PV.thins ps) vs F2) F
 | [],vs,F,_,h=>by
  simp only[RepVs] at h
  exact⟨[],List.nil_sublist _,fun N' _ _=>by simp only[PV.thins,RepVs]; exact⟨h.1,trivial⟩⟩
 | p::ps,vs,F,hn,h=>by
  simp only[RepVs] at h
  obtain⟨v,vs',F1,F2,h1,h2,h3,h4⟩:=h
  subst h2
  obtain⟨n1,n2,_⟩:=List.nodup_append.1 hn
  obtain⟨G1,g1,g2⟩:=RepV.thin n1 h3
  obtain⟨G2,g3,g4⟩:=RepVs.thin ps vs' F2 n2 h4
  refine⟨G1++G2,g1.append g3,fun N' hN hF=>?_⟩
  obtain⟨k1,k2⟩:=sub_parts hn g1 g3 hF
  simp only[PV.thins,RepVs]
  exact⟨v,vs',G1,G2,h1,rfl,g2 N' hN k1,g4 N' hN k2⟩
theorem RepR.thin{N:Nat→Prop}{w:World}{p:PV}{v:Value}{F:List Nat}(hn:F.Nodup)(h:RepR N w p v F):Thin N w (fun N' F2=>RepR N' w p.thin v F2) F:=by
 cases p with
 | tup ps=>
  obtain⟨vs,rfl,h⟩:=h
  obtain⟨F2,h1,h2⟩:=RepVs.thin ps vs F hn h
  exact⟨F2,h1,fun N' hN hF=>⟨vs,rfl,h2 N' hN hF⟩⟩
 | agg fs=>
  obtain⟨F2,h1,h2⟩:=RepV.thin (p:=.agg fs) hn h
  exact⟨F2,h1,fun N' hN hF=>h2 N' hN hF⟩
 | sl o sz es=>
  obtain⟨F2,h1,h2⟩:=RepV.thin (p:=.sl o sz es) hn h
  exact⟨F2,h1,fun N' hN hF=>by have:=h2 N' hN hF; cases o<;>exact this⟩
 | lit u=>exact RepV.thin (p:=.lit u) hn h
 | clo f cs=>exact RepV.thin (p:=.clo f cs) hn h
 | ptr u=>exact RepV.thin (p:=.ptr u) hn h
theorem views_set(l:List PV)(i:Nat)(x:PV):PV.views (l.set i x)=(PV.views l).set i x.view:=by
 rw[PV.views_eq,PV.views_eq,List.map_set]
attribute [push_cast] views_set
end
section
structure FrzPOk(st st1:St)(ks:List Nat):Prop where
 kept:∀ c∈ks,c<10000∧∃ sz es,st.o c=some (sz,es)∧aR es=true
 objs:∀ c,st1.o c=none∨(c∈ks∧st1.o c=st.o c)
 slots:∀ k,st1.s k=.dead∨(∃ x,st.s k=.val x∧x.whole st.o=true∧(∀ c∈x.names,c∉ks)∧st1.s k=.val (.pv (x.pvw st.o)))∨(st1.s k=st.s k∧keepV ks (st.s k)=true)
def keepW(ns:List Nat):SlotV→Bool
 | .val x=>x.keep ns
 | .eptr c _ _ _ _=>ns.contains c
 | _=>false
/-- The state behind the stretch. -/
structure ThawP(st st2 st3:St)(ds ns ks:List Nat):Prop where
 slots:∀ k,st3.s k=.dead∨(k∉ds∧st3.s k=st.s k∧∀ c∈ns,(st.s k).noC c=true)∨(st3.s k=st2.s k∧keepW ns (st2.s k)=true)
 objs:∀ c,st3.o c=none∨(c∉ns∧c∉ks∧st3.o c=st.o c)∨(c∈ns∧st3.o c=st2.o c)
 fresh:∀ c∈ns,c<10000
 news:∀ c∈ns,∃ sz es,st2.o c=some (sz,es)∧aR es=true
/-! ### Regions -/
section
variable{P:Program}{nt:Nat}{ops:Array Oper}{st st1:St}{Q:Exit→St→Prop}{ds ks:List Nat}
end
/-! ### Their forms for scripts -/
def FrzPE(st:St)(ks:List Nat):SlotV→SlotV→Prop
 | .val x,v=>x.whole st.o=true∧(x.names.all fun c=>!ks.contains c)=true∧SlotV.val (.pv (x.pvw st.o))=v
 | _,_=>False
def FrzPL(st:St)(ks:List Nat):List (Nat×SlotV)→Prop
 | []=>True
 | (k,v)::l=>FrzPE st ks (st.s k) v∧FrzPL st ks l
theorem FrzPL.mem{st:St}{ks:List Nat}:∀ {l:List (Nat×SlotV)},FrzPL st ks l→∀ {k v},(k,v)∈l→FrzPE st ks (st.s k) v
 | (j,u)::l,h,k,v,hm=>by
  rcases List.mem_cons.1 hm with e | hm
  ·cases e; exact h.1
  ·exact FrzPL.mem h.2 hm
def ThawPH(st st2:St)(ds ks:List Nat)(K:St→Prop)(_:Tok K)(_:Tok st):Prop:=∃ st3 ns,ThawP st st2 st3 ds ns ks∧K st3
@[congr] theorem ThawPH.cg {st st2 st2':St} {ds ks:List Nat} {K:St→Prop} (h:∀ _:Unit,st2=st2'):ThawPH st st2 ds ks K .mk .mk=ThawPH st st2' ds ks K .mk .mk:=by rw[h ()]
/-- Behind the stretch: old slots A, new ones B; old objects C, new and kept ones D. -/
theorem ThawPH.mk{st st2:St}{ds ks:List Nat}{K:St→Prop}(A B:List (Nat×SlotV))(C D:List (Nat×(Nat×List PV)))(ns:List Nat)(h1:OldS st A∧ObjS st C)(h2:OldS st2 B∧ObjS st2 D∧ObjV D)
 (hK:K ⟨mkS (A++B),mkO (C++D)⟩) (hA:(A.all fun x=>!ds.contains x.1&&ns.all fun c=>x.2.noC c)=true:=by rfl) (hB:(B.all fun x=>keepW ns x.2)=true:=by rfl) (hC:(C.all fun x=>!ns.contains x.1&&!ks.contains x.1)=true:=by rfl) (hD:D.map (·.1)=ns:=by rfl) (hl:(ns.all fun c=>decide (c<10000))=true:=by rfl):ThawPH st st2 ds ks K .mk .mk:=by
 rw[List.all_eq_true] at hA hB hC hl
 refine⟨_,ns,⟨fun k=>?_,fun c=>?_,fun c hc=>by simpa using hl c hc,fun c hc=>?_⟩,hK⟩
 ·rcases mkS_mem (S:=A++B) k with h | h
  ·exact .inl h
  ·rcases List.mem_append.1 h with h | h
   ·have h3:=hA _ h
    simp only[aD] at h3
    have e:=h1.1.mem h
    exact .inr (.inl ⟨by simpa using h3.1,e.symm,fun c hc=>by rw[e]; exact List.all_eq_true.1 h3.2 c hc⟩)
   ·have h3:=hB _ h
    have e:=h2.1.mem h
    exact .inr (.inr ⟨e.symm,by rw[e]; exact h3⟩)
 ·rcases mkO_mem (S:=C++D) c with h | ⟨p,h,hm⟩
  ·exact .inl h
  ·rcases List.mem_append.1 hm with hm | hm
   ·have h3:=hC _ hm
    simp only[aD] at h3
    exact .inr (.inl ⟨by simpa using h3.1,by simpa using h3.2,by show mkO _ c=_; rw[h,h1.2.mem hm]⟩)
   ·refine .inr (.inr ⟨?_,by show mkO _ c=_; rw[h,h2.2.1.mem hm]⟩)
    rw[← hD]; exact List.mem_map.2 ⟨_,hm,rfl⟩
 ·rw[← hD] at hc
  obtain⟨x,hx,rfl⟩:=List.mem_map.1 hc
  exact⟨x.2.1,x.2.2,h2.2.1.mem hx,h2.2.2.mem hx⟩
section
variable{P:Program}{nt n id:Nat}{F:St→Prop}{st:St}{k:List Fr}{l:List Oper}
end
theorem FrzPE_val(st:St)(ks:List Nat)(x:CV)(v:SlotV):FrzPE st ks (.val x) v=(x.whole st.o=true∧(x.names.all fun c=>!ks.contains c)=true∧SlotV.val (.pv (x.pvw st.o))=v):=rfl
theorem FrzPL_n(st:St)(ks:List Nat):FrzPL st ks []=True:=rfl
theorem FrzPL_c(st:St)(ks:List Nat)(k:Nat)(v:SlotV)(l:List (Nat×SlotV)):FrzPL st ks ((k,v)::l)=(FrzPE st ks (st.s k) v∧FrzPL st ks l):=rfl
theorem noViews_set{l:List PV}{i:Nat}{x:PV}(h1:aR l=true)(h2:x.noView=true):aR (l.set i x)=true:=by
 induction l generalizing i with
 | nil=>rfl
 | cons y l ih=>
  simp only[aR,aD] at h1
  cases i with
  | zero=>simp only[List.set_cons_zero,aR,aD]; exact⟨h2,h1.2⟩
  | succ i=>simp only[List.set_cons_succ,aR,aD]; exact⟨h1.1,ih h1.2⟩
attribute [push_cast] noViews_set
attribute [push_cast] FrzPE_val FrzPL_n FrzPL_c
end
section
section
variable{P:Program}{nt:Nat}{ops:Array Oper}{i:Nat}{st:St}{K:St→Prop}
theorem VSeq.split(c j c' s:Nat)(p:List Nat){sz sz':Nat}{es es':List PV}(es1:Value→List PV)(he:∀ v,es.set j ((es.getD j default).setAt p (.lit v))=es1 v)(hc:st.o c=some (sz,es)∧st.s s=.dead)(hq:j<es.length∧(es.getD j default).okp p=true∧(es.getD j default).at p=.sl true sz' es')(hs:nt≤s)
 (h:st.noC c'∧∀ v,VSeq P nt ops i ⟨upd st.s s (hdS c' v),upd (upd st.o c (some (sz,es1 v))) c' (some (sz',es'))⟩ K):VSeq P nt ops i st K:=by
 intro κ a w hnt hR
 obtain⟨G,hG⟩:=hR
 obtain⟨v,hR'⟩:=hG.split hc.1 hq.1 hq.2.1 hq.2.2 h.1 (by rw[hnt]; exact hs) hc.2
 rw[he v] at hR'
 exact h.2 v κ a w hnt hR'
end
/-- An element that was put there just now. -/
theorem EldH.at{es:List PV}{j:Nat}{a:PV}{K:PV→Prop}(h:j<es.length)(ha:es.getD j default=a)(hK:K a):EldH es j K .mk:=⟨h,by rw[ha]; exact hK⟩
end
section
theorem VSeq.takeX{P:Program}{nt:Nat}{ops:Array Oper}{i:Nat}{st:St}{K:St→Prop}{o:Oper}{x:Operand}{T:TypeId}{d c sz:Nat}{α:Type}{fx:α→PV}{xs:List α}{e:Int}{y:α}(row:PV)(hidx:idx xs e=some y)
 (ho:ops[i]?=some o) (hg:o.guard=none) (hop:o.op=.load T x) (hdst:o.dst=some d) (hrw:fx y=row) (hsz:row.size=sz)
 (hs:d<nt∧ev P st 0 x=.eptr c sz e.toNat [] 0∧st.o c=some (sz,xs.map fx)∧TyIs P T (explode row (16*d)).1.isAgg (explode row (16*d)).1.size) (hgo:∀ n,(explode row (16*d)).1≠.gone n)
 (h:(∀ n∈(explode row (16*d)).2.1.map (·.1),st.noC n)∧∀ q:PV,q.size=sz→VSeq P nt ops (i+1) ⟨upd st.s d (.val (explode row (16*d)).1),updAll (upd st.o c (some (sz,(xs.map fx).set e.toNat q))) (newObjs (explode row (16*d)).2.1)⟩ K):VSeq P nt ops i st K:=by
 obtain⟨hd,hx,hc,hT⟩:=hs
 obtain⟨h1,h2,h3⟩:=idx_some hidx
 have hl:e.toNat<xs.length:=by omega
 refine VSeq.take row ho hg hop hdst hd hx hc (by rw[aF]; exact hl) ?_ hT hgo h.1 fun cs=>h.2 _ (by rw[size_junk]; exact hsz)
 rw[← hrw]
 simp[List.getD,h3]
theorem set_setP(l:List PV)(i:Nat)(a b:PV):(l.set i a).set i b=l.set i b:=List.set_set ..
attribute [push_cast] set_setP
end
section
theorem views_Lv(o:Bool)(sz:Nat)(l:List (List Int)):PV.views (l.map (Lv o sz I))=l.map (Lv false sz I):=views_map _ _ (fun a=>by
 show PV.view (.sl o sz (a.map I))=.sl false sz (a.map I)
 rw[view_sl,views_I]) l
theorem noViews_Lv(sz:Nat)(l:List (List Int)):aR (l.map (Lv true sz I))=true:=noViews_map _ (fun a=>by
 show aR (a.map I)=true
 exact noViews_I a) l
theorem run_clear_row{P:Program}(w:World)(T e ty:TypeId)(z:Value)(b o n c:Nat)(cur:Array Value)(et:TypeId)(hu:P.underlying T=some (.slice e))(hv:∀ w,(zeroValue e).run P w=.ok z w)(hz:z.cells=#[z])(h1:z.oneCell'=true)(hn:0<n)
 (hg:w.heap[b]?=some (.cells cur et (0,0))) (hfit:o+n≤cur.size):
 (Builtin.clear_ #[T] ty #[.slice (some ⟨b,o,none⟩) n c]).run P w=.ok (.tuple #[]) (w.setRow b (cur.toList.take o++List.replicate n z++cur.toList.drop (o+n)).toArray):=by
 have hzc:(Builtin.zeroCells z.cells n).toList=List.replicate n z:=by
  rw[hz]
  simp[Builtin.zeroCells]
  apply List.ext_getElem
  ·simp
  ·intro i h1 h2
   simp[Nat.mod_one]
 have hst:=run_storeCells_at P b o et (List.replicate n z) 0 cur w hg (by simpa using hfit) (by intro v hv'; rw[List.eq_of_mem_replicate hv']; exact h1)
 simp only[Nat.add_zero,List.length_replicate] at hst
 obtain⟨m,rfl⟩:∃ m,n=m+1:=⟨n-1,by omega⟩
 simp[Builtin.clear_,run_underlying hu,hv,hzc,hst]
section
variable{P:Program}{nt:Nat}{st:St}
theorem valid_clear{o:Oper}{c bytes lo:Nat}{x:Operand}{T e:TypeId}{es:List PV}{p:PV}{z:Value}(hop:o.op=.call { callee:=.builtin .clear,args:=#[x],argTypes:=#[T] })(hdst:o.dst=none)
 (hu:P.underlying T=some (.slice e)) (hv:∀ w,(zeroValue e).run P w=.ok z w) (hz:z.cells=#[z]) (h1:z.oneCell'=true) (hp:p=.lit z) (hT:SlIs P T 1 bytes) (hx:ev P st T x=.fn [c] [] [] (subF 1 lo es.length)) (hc:st.o c=some (1,es)) (hno:PV.noOwns es=true) (hlo:lo<es.length):
 Valid P nt o st { rs:=rd x,ro:=[c],us:=[],uo:=[(c,some (1,es.take lo++List.replicate (es.length-lo) p))] }:=by
 intro κ st' a w hnt hsame _ hR next Q hnext
 obtain⟨G,hG⟩:=hR
 have h2:=ev_ok (P:=P) (T:=T) hG x 0
 rw[ev_congr (fun k hk=>hsame.1 k (by simpa using hk)),hx] at h2
 obtain⟨_,_,h2⟩:=h2
 have hc':st'.o c=some (1,es):=by rw[hsame.2 c (by simp)]; exact hc
 have hes:es≠[]:=by rintro rfl; simp at hlo
 obtain⟨b,cap,cc,et,ccs,f1,f2,f3,f4,f5,f6,f7,f8,f9⟩:=own_row hG hc' hes hno
 simp only[List.map_cons,List.map_nil,f1,subF] at h2
 rw[if_neg (by omega)] at h2
 rw[add_off _ _ rfl] at h2
 simp only[Nat.mul_one,Nat.zero_add] at h2
 have hccl:ccs.length=es.length*1:=by rw[RepCs.length _ _ _ f8,PV.sizes_const f4]
 have hccsz:cc.toList.length=cap*1:=by simpa using f6
 have hall:cc.toList=ccs++cc.toList.drop (es.length*1):=by
  have h0:=List.take_append_drop (es.length*1) cc.toList
  rw[f7] at h0; exact h0.symm
 have hrun:(execOp a.eval o).run P w=.ok (.value (.tuple #[])) (w.setRow b (cc.toList.take lo++List.replicate (es.length-lo) z++cc.toList.drop (lo+(es.length-lo))).toArray):=by
  have hr:=run_clear_row (P:=P) w T e o.type z b lo (es.length-lo) (cap-lo) cc et hu hv hz h1 (by omega) f5 (by simp only[Array.length_toList] at hccsz; omega)
  simp[execOp,hop,resolve,invoke,builtin,h2,hr]
 unfold Oper.wp
 rw[hrun]
 simp only[Oper.upon]
 rw[hdst]
 refine hnext _ _ ?_
 obtain⟨q1,q2,Q1,Q2,s1,s2,s3,s4⟩:=RepCs.split (es.take lo) (es.drop lo) ccs [] (by rw[List.take_append_drop]; exact f8)
 have nilA:∀ {A B:List Nat},([]:List Nat)=A++B→A=[]∧B=[]:=fun {A B} h=>by
  have:=congrArg List.length h; simp at this
  exact⟨List.eq_nil_of_length_eq_zero (by omega),List.eq_nil_of_length_eq_zero (by omega)⟩
 obtain⟨rfl,rfl⟩:=nilA s2
 have hq1:q1.length=lo:=by rw[RepCs.length _ _ _ s3,sizes_take f4 (by omega),Nat.mul_one]
 have ht1:cc.toList.take lo=q1:=by
  rw[hall,s1,← hq1,aT,List.take_left]
 have ht2:cc.toList.drop (lo+(es.length-lo))=cc.toList.drop (es.length*1):=by rw[show lo+(es.length-lo)=es.length*1 by omega]
 have hrep:∀ n,RepCs (Nof κ st' G w) w (List.replicate n p) (List.replicate n z) []:=fun n=>by
  subst hp
  induction n with
  | zero=>simp[RepCs]
  | succ n ih=>
   rw[List.replicate_succ,List.replicate_succ]
   simp only[RepCs]
   exact⟨[z],List.replicate n z,[],[],rfl,rfl,by simp only[RepC]; exact⟨trivial,h1,trivial⟩,ih⟩
 have hT2:=turn_row (es':=es.take lo++List.replicate (es.length-lo) p) (row:=q1++List.replicate (es.length-lo) z++cc.toList.drop (es.length*1)) (ccs:=q1++List.replicate (es.length-lo) z) hG hc' (by simp only[aV,List.length_take,List.length_replicate]; omega) f1 f2 f3 (fun q hq=>by
  rcases List.mem_append.1 hq with hq | hq
  ·exact f4 q (List.mem_of_mem_take hq)
  ·rw[List.eq_of_mem_replicate hq,hp]; rfl) f5 (by
  simp only[aV,List.length_replicate,List.length_drop]; omega) (by
  have hl3:(q1++List.replicate (es.length-lo) z).length=es.length*1:=by simp only[aV,List.length_replicate]; omega
  rw[← hl3,List.take_left]) (by
  have:=RepCs.append _ _ _ _ _ _ s3 (hrep (es.length-lo))
  simpa using this) f9
 simp only[St.app,updAll,ht1,ht2]
 exact hT2
def ClearH(P:Program)(nt:Nat)(st:St)(o:Oper)(K:Rec→Prop)(_:Tok K):Prop:=RecOk P nt st o K
theorem callK_clear(o:Oper)(x:Operand)(T:TypeId)(K:Rec→Prop):callK P nt st o { callee:=.builtin .clear,args:=#[x],argTypes:=#[T] } K=ClearH P nt st o K .mk:=rfl
/-- A part of a list is made zeros. -/
def clr{α:Type}(z:α)(xs:List α)(lo:Int):Option (List α):=if 0≤lo∧lo<xs.length then some (xs.take lo.toNat++List.replicate (xs.length-lo.toNat) z) else none
theorem ClearH.sub{α:Type}{f:α→PV}{o:Oper}{c bytes l m:Nat}{x:Operand}{T e:TypeId}{xs r:List α}{es:List PV}{lo:Int}{z0:α}{z:Value}{K:Rec→Prop}(hf:∀ a,(f a).noOwn=true)(hr:clr z0 xs lo=some r)(hop:o.op=.call { callee:=.builtin .clear,args:=#[x],argTypes:=#[T] })(hdst:o.dst=none)
 (hu:P.underlying T=some (.slice e)) (hv:∀ w,(zeroValue e).run P w=.ok z w) (hz:z.cells=#[z]) (h1:z.oneCell'=true) (hp:f z0=.lit z) (hT:SlIs P T 1 bytes) (hx:ev P st T x=.fn [c] [] [] (subF 1 l m)) (hc:st.o c=some (1,es)) (he:es=xs.map f) (hl:l=lo.toNat) (hm:m=xs.length)
 (hK:K { rs:=rd x,ro:=[c],us:=[],uo:=[(c,some (1,r.map f))] }):ClearH P nt st o K .mk:=by
 subst he; subst hl; subst hm
 unfold clr at hr
 split at hr
 ·rename_i g
  cases hr
  refine⟨_,valid_clear (lo:=lo.toNat) hop hdst hu hv hz h1 hp.symm.symm hT (by rw[hx,aF]) hc (noOwns_map hf xs) (by rw[aF]; omega),fresh_none rfl rfl,?_⟩
  simpa[List.map_append,List.map_take,List.map_replicate] using hK
 ·cases hr
attribute [push_cast] callK_clear
end
end
end Go.Av
