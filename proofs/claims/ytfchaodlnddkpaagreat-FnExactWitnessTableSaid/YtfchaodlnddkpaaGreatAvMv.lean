/- Lemmas of the proof; each says what it shows. -/
import Derived.Test.YtfchaodlnddkpaaGreatAvZ
import Derived.MapKept
import Derived.ChangeMaps4
import Derived.ChangeMaps5
import Derived.Maps.RangeRun
set_option linter.unusedSimpArgs false
set_option linter.unusedVariables false
set_option linter.defProp false
namespace Go.Av
open Bool renaming and_eq_true→aw
open CV renaming wholes→aB,pvos→aD,namess→av,pvws→aK
open List renaming append_nil→bj,mem_append→aT,mem_cons→bq,map_cons→aF
open St renaming set→aW
section

theorem R.newResH{κ:Ctx}{G:Gh}{st:St}{a:Act}{w w':World}{d r:Nat}{v:Value}{F D:List Nat}{lo hi:Nat}{news:List (Nat×(Nat×List PV))}{N':Nat→Prop}{hdv:Nat→Value}{fpv:Nat→List Nat}{sv bv:SlotV}
 (h:RG κ G st a w) (hd:d<κ.nt) (hrd:r≠d) (hbr:isBox (st.s r)=true) (hbv:isBox bv=true) (hD:∀ c∈D,(st.o c).isSome=true) (hb:KeepX (G.ad r::fps G.fp D) w.heap.size w w') (hF:∀ b∈F,(w.heap.size≤b∨b∈fps G.fp D)∧b<w'.heap.size)
 (hN':∀ b,N' b→Nof κ st G w b∨((w.heap.size≤b∨b∈fps G.fp D)∧b<w'.heap.size∧b∉F)) (hnews:News N' w' hdv fpv F lo hi news) (hfresh:∀ n∈news.map (·.1),st.noC n) (hnb:isBox sv=false)
 (hsv:∀ (N:Nat→Prop) (G':Gh),(∀ b,N' b→N b)→(∀ n,lo≤n→n<hi→G'.hd n=hdv n)→SlotOk N w' G' d v sv)
 (hbok:∀ (N:Nat→Prop) (G':Gh),(∀ b,N' b→N b)→(∀ b,Nof κ st G w b→N b)→(∀ n,lo≤n→n<hi→G'.hd n=hdv n)→G'.ad=G.ad→SlotOk N w' G' r (a.tmps.getD r undef) bv):
 R κ { s:=upd (upd st.s r bv) d sv,o:=updAll st.o (deadObjs D++newObjs news) } (a.put (some d) v) w':=by
 have hbs:=h.keep.size
 let G':Gh:={ hd:=fun n=>if n∈news.map (·.1) then hdv n else G.hd n,fp:=fun n=>if n∈news.map (·.1) then fpv n else G.fp n,ad:=G.ad }
 have hDin:∀ b,b∈fps G.fp D→∃ c p,c∈D∧st.o c=some p∧b∈G.fp c:=by
  intro b hb'
  obtain⟨c,hc,hm⟩:=mem_fps.1 hb'
  obtain⟨p,hp⟩:=Option.isSome_iff_exists.1 (hD c hc)
  exact⟨c,p,hc,hp,hm⟩
 have hDlt:∀ b,b∈fps G.fp D→(κ.w0.heap.size≤b∨b∈κ.L)∧b<w.heap.size:=by
  intro b hb'
  obtain⟨c,p,_,hp,hm⟩:=hDin b hb'
  exact(h.objs c p.1 p.2 hp).2.2 b hm
 have hlt:∀ b,Nof κ st G w b→b<w.heap.size:=fun b hb=>hb.lt h
 have hNX:∀ b,Nof κ st G w b→b∉fps G.fp D:=by
  intro b hb' hm
  obtain⟨c,p,_,hp,hm⟩:=hDin b hm
  exact hb'.2 (.inr ⟨c,p,hp,hm⟩)
 have hNr:∀ b,Nof κ st G w b→b≠G.ad r:=fun b hb' e=>hb'.2 (.inl ⟨r,hbr,e⟩)
 have hbox:∀ k,isBox (upd (upd st.s r bv) d sv k)=true→isBox (st.s k)=true∧k≠d:=by
  intro k hk
  simp only[upd] at hk
  split at hk
  ·rw[hnb] at hk; cases hk
  ·rename_i hkd
   refine⟨?_,hkd⟩
   split at hk
   ·rename_i e; rw[e]; exact hbr
   ·exact hk
 have hbX:∀ r,isBox (st.s r)=true→G.ad r∉fps G.fp D:=by
  intro r hr hm
  obtain⟨c,p,_,hp,hm⟩:=hDin _ hm
  exact h.bo r c p hr hp hm
 have hob:∀ c sz es,updAll st.o (deadObjs D++newObjs news) c=some (sz,es)→(c∈news.map (·.1)∧(c,(sz,es))∈news)∨(c∉news.map (·.1)∧c∉D∧st.o c=some (sz,es)):=by
  intro c sz es hc
  rw[updAll_append] at hc
  by_cases hm:c∈news.map (·.1)
  ·left
   refine⟨hm,?_⟩
   obtain⟨⟨n,p⟩,h1,rfl⟩:=List.mem_map.1 hm
   have h2:(n,some p)∈newObjs news:=List.mem_map.2 ⟨(n,p),h1,rfl⟩
   rw[updAll_mem _ _ n (some p) (by rw[newObjs_keys]; exact hnews.once) h2] at hc
   cases hc; exact h1
  ·right
   rw[updAll_notMem _ _ _ (by rw[newObjs_keys]; exact hm),updAll_dead] at hc
   by_cases hcD:c∈D
   ·simp[hcD] at hc
   ·simp only[hcD,if_false] at hc; exact⟨hm,hcD,hc⟩
 have hoX:∀ c sz es,c∉D→st.o c=some (sz,es)→∀ b∈G.fp c,b∉fps G.fp D:=by
  intro c sz es hcD ho b hb' hm
  obtain⟨c',p',hc',hp',hm'⟩:=hDin b hm
  exact h.oo c c' _ p' ho hp' (fun e=>hcD (e▸hc')) b hb' hm'
 have hNw:∀ b,Nof κ st G w b→Nof κ { s:=upd (upd st.s r bv) d sv,o:=updAll st.o (deadObjs D++newObjs news) } G' w' b:=by
  intro b hb'
  have hbl:=hlt b hb'
  refine⟨?_,fun hp=>?_⟩
  ·rcases hb'.1 with h1 | h1
   ·exact .inl h1
   ·exact .inr ⟨h1.1,Nat.lt_of_lt_of_le h1.2 hb.size⟩
  ·rcases hp with⟨k,h1,h2⟩ | ⟨c,⟨sz,es⟩,h1,h2⟩
   ·exact hb'.2 (.inl ⟨k,(hbox k h1).1,h2⟩)
   ·rcases hob c sz es h1 with⟨hm,hin⟩ | ⟨hm,_,ho⟩
    ·simp only[G',hm,if_true] at h2
     rcases (hF b ((hnews.rep c sz es hin).2.2.2.2 b h2)).1 with h3 | h3
     ·omega
     ·exact hNX b hb' h3
    ·simp only[G',hm,if_false] at h2
     exact hb'.2 (.inr ⟨c,(sz,es),ho,h2⟩)
 have hNn:∀ b,N' b→Nof κ { s:=upd (upd st.s r bv) d sv,o:=updAll st.o (deadObjs D++newObjs news) } G' w' b:=by
  intro b hb'
  rcases hN' b hb' with h1 | ⟨h1,h2,h3⟩
  ·exact hNw b h1
  ·refine⟨.inr ⟨?_,h2⟩,fun hp=>?_⟩
   ·rcases h1 with h1 | h1
    ·exact .inl (by omega)
    ·exact(hDlt b h1).1
   ·rcases hp with⟨k,g1,g2⟩ | ⟨c,⟨sz,es⟩,g1,g2⟩
    ·simp only[G'] at g2
     rcases h1 with h1 | h1
     ·have:=(h.boxes k (hbox k g1).1).2; omega
     ·exact hbX k (hbox k g1).1 (g2▸h1)
    ·rcases hob c sz es g1 with⟨hm,hin⟩ | ⟨hm,hcD,ho⟩
     ·simp only[G',hm,if_true] at g2
      exact h3 ((hnews.rep c sz es hin).2.2.2.2 b g2)
     ·simp only[G',hm,if_false] at g2
      rcases h1 with h1 | h1
      ·have:=((h.objs c sz es ho).2.2 b g2).2; omega
      ·exact hoX c sz es hcD ho b g2 h1
 have hw:∀ b,b<w.heap.size→b≠G.ad r→b∉fps G.fp D→w'.heap[b]?=w.heap[b]?:=fun b h1 h2 h3=>hb.block b h1 (by simp[h2,h3])
 have hkeep:KeepX κ.L κ.w0.heap.size w w':=⟨hb.os,hb.tape,hb.output,hb.size,fun k hk hkL=>hw k (by omega) (fun e=>(h.boxes r hbr).1.elim (fun h1=>by omega) (fun h1=>hkL (e▸h1))) (fun hm=>(hDlt k hm).1.elim (fun h1=>by omega) hkL),hb.drawn⟩
 have hG':∀ n,lo≤n→n<hi→G'.hd n=hdv n:=fun n h1 h2=>by simp only[G',hnews.all n h1 h2,if_true]
 refine⟨G',h.keep.trans hkeep,by simpa[Act.put] using h.defers,by simpa[Act.put] using h.nt,?_,?_,?_,?_,?_,?_,?_⟩
 ·intro k
  rw[getD_put (by rw[h.nt]; exact hd)]
  by_cases hkd:k=d
  ·subst hkd
   have:upd (upd st.s r bv) k sv k=sv:=upd_same _ _ _
   simp only[this,if_true]
   exact hsv _ G' hNn hG'
  ·rw[if_neg hkd]
   have e1:upd (upd st.s r bv) d sv k=upd st.s r bv k:=upd_ne hkd
   simp only[e1]
   by_cases hkr:k=r
   ·subst hkr
    have:upd st.s k bv k=bv:=upd_same _ _ _
    rw[this]
    exact hbok _ G' hNn hNw hG' rfl
   ·have:upd st.s r bv k=st.s k:=upd_ne hkr
    rw[this]
    refine SlotOk.frame (G:=G) (G':=G') hNw (fun b hb'=>hw b (hlt b hb') (hNr b hb') (hNX b hb')) (fun c hc=>?_) (fun _ _=>rfl) (fun hbk=>⟨rfl,hw _ (h.boxes k hbk).2 (fun e=>hkr (h.bb k r hbk hbr e)) (hbX k hbk)⟩) (h.slots k)
    by_cases hm:c∈news.map (·.1)
    ·rw[(hfresh c hm).2 k] at hc; cases hc
    ·simp only[G',hm,if_false]
 ·intro c sz es hc
  rcases hob c sz es hc with⟨hm,hin⟩ | ⟨hm,hcD,ho⟩
  ·obtain⟨g1,g2,g3,g4,g5⟩:=hnews.rep c sz es hin
   simp only[G',hm,if_true]
   refine⟨RepC.frame hNn (fun _ _=>rfl) _ _ _ (fun _ _=>rfl) g3,g4,fun b hb'=>⟨?_,(hF b (g5 b hb')).2⟩⟩
   rcases (hF b (g5 b hb')).1 with h1 | h1
   ·exact .inl (by omega)
   ·exact(hDlt b h1).1
  ·simp only[G',hm,if_false]
   obtain⟨g1,g2,g3⟩:=h.objs c sz es ho
   exact⟨RepC.frame hNw (fun b hb'=>hw b (hlt b hb') (hNr b hb') (hNX b hb')) _ _ _ (fun b hb'=>hw b (g3 b hb').2 (fun e=>h.bo r c _ hbr ho (e▸hb')) (hoX c sz es hcD ho b hb')) g1,g2,fun b hb'=>⟨(g3 b hb').1,Nat.lt_of_lt_of_le (g3 b hb').2 hb.size⟩⟩
 ·intro k hk
  have:=h.boxes k (hbox k hk).1
  exact⟨this.1,Nat.lt_of_lt_of_le this.2 hb.size⟩
 ·exact fun k k' h1 h2=>h.bb k k' (hbox k h1).1 (hbox k' h2).1
 ·intro k c ⟨sz,es⟩ h1 h2 hm'
  rcases hob c sz es h2 with⟨hm,hin⟩ | ⟨hm,hcD,ho⟩
  ·simp only[G',hm,if_true] at hm'
   rcases (hF _ ((hnews.rep c sz es hin).2.2.2.2 _ hm')).1 with g1 | g1
   ·have g2:=(h.boxes k (hbox k h1).1).2; omega
   ·exact hbX k (hbox k h1).1 g1
  ·simp only[G',hm,if_false] at hm'
   exact h.bo k c (sz,es) (hbox k h1).1 ho hm'
 ·intro c c' ⟨sz,es⟩ ⟨sz',es'⟩ h1 h2 hne b hb1 hb2
  rcases hob c sz es h1 with⟨hm,hin⟩ | ⟨hm,hcD,ho⟩<;>rcases hob c' sz' es' h2 with⟨hm',hin'⟩ | ⟨hm',hcD',ho'⟩
  ·simp only[G',hm,hm',if_true] at hb1 hb2
   exact hnews.apart c c' _ _ hin hin' hne b hb1 hb2
  ·simp only[G',hm,hm',if_true,if_false] at hb1 hb2
   rcases (hF _ ((hnews.rep c sz es hin).2.2.2.2 _ hb1)).1 with g1 | g1
   ·have g2:=((h.objs c' sz' es' ho').2.2 b hb2).2; omega
   ·exact hoX c' sz' es' hcD' ho' b hb2 g1
  ·simp only[G',hm,hm',if_true,if_false] at hb1 hb2
   rcases (hF _ ((hnews.rep c' sz' es' hin').2.2.2.2 _ hb2)).1 with g1 | g1
   ·have g2:=((h.objs c sz es ho).2.2 b hb1).2; omega
   ·exact hoX c sz es hcD ho b hb1 g1
  ·simp only[G',hm,hm',if_false] at hb1 hb2
   exact h.oo c c' _ _ ho ho' hne b hb1 hb2
 ·intro c v' hc
  have hm:c∉news.map (·.1):=fun hm=>by have:=(hfresh c hm).1.1; have:=κ.hH c v' hc; omega
  simp only[G',hm,if_false]
  exact h.held c v' hc

/-! ### What is handed over with its handle -/
inductive BV where
 | pv (p:PV)
 | mp (es:List MEnt) (clock:Nat)
instance:Inhabited BV:=⟨.mp [] 0⟩
def RepBV(N:Nat→Prop)(w:World)(b:Nat)(F:List Nat):BV→Prop
 | .pv p=>∃ cs e,w.heap[b]?=some (.cells cs.toArray e (0,0))∧RepC N w p cs F
 | .mp kv clock=>F=[]∧HCok N w (fun _=>undef) (fun _=>0) b (.mp kv clock)
def BV.hc(c:Nat):BV→HC
 | .pv p=>.cv (explode p c).1
 | .mp kv clock=>.mp kv clock
def BV.objs(c:Nat):BV→List (Nat×(Nat×List PV))
 | .pv p=>(explode p c).2.1
 | .mp _ _=>[]
def BV.hi(c:Nat):BV→Nat
 | .pv p=>(explode p c).2.2
 | .mp _ _=>c
def BV.noView:BV→Bool
 | .pv p=>p.noView
 | .mp kv _=>kv.all fun e=>e.2.1.noView
theorem MapIs.noView{N N':Nat→Prop}{w:World}:∀ {kv:List MEnt} {es:List MapEntry},(kv.all fun e=>e.2.1.noView)=true→MapIs N w kv es→MapIs N' w kv es
 | [],_,_,h=>h
 | (k,p,s)::kv,es,hv,h=>by
  simp only[List.all_cons,aw] at hv
  obtain⟨e,es',h1,h2,h3,h4,h5⟩:=h
  exact⟨e,es',h1,h2,h3,RepV.noView hv.1 h4,MapIs.noView hv.2 h5⟩
theorem RepBV.noView{N N':Nat→Prop}{w:World}{b:Nat}{F:List Nat}{x:BV}(hv:x.noView=true)(h:RepBV N w b F x):RepBV N' w b F x:=by
 cases x with
 | pv p=>obtain⟨cs,e,h1,h2⟩:=h; exact⟨cs,e,h1,RepC.noView p cs F hv h2⟩
 | mp kv clock=>obtain⟨hF,es,h1,h2,h3⟩:=h; exact⟨hF,es,h1,h2.noView hv,h3⟩
theorem explodeB_ok{N:Nat→Prop}{w:World}{b:Nat}{F:List Nat}{x:BV}{c:Nat}(h:RepBV N w b F x)(hn:F.Nodup):
 ∃ hdv fpv,News N w hdv fpv F c (x.hi c) (x.objs c)∧∀ (N':Nat→Prop) (hd:Nat→Value) (ad:Nat→Nat),(∀ b,N b→N' b)→(∀ n,c≤n→n<x.hi c→hd n=hdv n)→HCok N' w hd ad b (x.hc c):=by
 cases x with
 | pv p=>
  obtain⟨cs,e,h1,h2⟩:=h
  obtain⟨hdv,fpv,n1,r1⟩:=explode_ok p cs F c h2 hn
  exact⟨hdv,fpv,n1,fun N' hd ad hN hh=>⟨cs,e,h1,RepCV.frame hN (fun _ _=>rfl) _ _ (fun _ _=>rfl) (r1 hd hh)⟩⟩
 | mp kv clock=>
  obtain⟨rfl,es,h1,h2,h3⟩:=h
  refine⟨fun _=>undef,fun _=>[],⟨by simp[BV.objs],by simp[BV.objs],by simp[BV.objs],Nat.le_refl _,fun n g1 g2=>absurd g2 (by simp[BV.hi]; omega)⟩,fun N' hd ad hN _=>⟨es,h1,MapIs.frame hN (fun _ _=>rfl) kv es h2,h3⟩⟩

/-- Called with these, and with a handle to a block of its own that holds x (between 'pre' and 'post'): it returns this, and the block then holds x'. -/
def SatH(P:Program)(f:FuncId)(pre post:List PV)(sh:Sh)(ps:List PV)(x x':BV)(res:PV):Prop:=
 CallIs P f∧∀ (w:World) (N:Nat→Prop) (v1 v2 vals:List Value) (b:Nat) (Fx Fs:List Nat),(∀ c,N c→c<w.heap.size∧c∉b::(Fx++Fs))→(b::(Fx++Fs)).Nodup→(∀ c∈b::(Fx++Fs),c<w.heap.size)→
  RepCs N w ps vals []→RepBV N w b Fx x→RepVs N w (pre++post) (v1++v2) Fs→v1.length=pre.length→
  Calls P f (v1++sh.val b vals::v2).toArray w fun e w'=>∃ v F Fx',e=.returned v∧KeepX (b::(Fx++Fs)) w.heap.size w w'∧
   RepBV (fun c=>N c∨((w.heap.size≤c∨c∈Fx++Fs)∧c<w'.heap.size∧c∉Fx'++F)) w' b Fx' x'∧RepR (fun c=>N c∨((w.heap.size≤c∨c∈Fx++Fs)∧c<w'.heap.size∧c∉Fx'++F)) w' res v F∧
   (b::(Fx'++F)).Nodup∧∀ c∈Fx'++F,(w.heap.size≤c∨c∈Fx++Fs)∧c<w'.heap.size

/-! ### The body -/
/-- The slot that holds a handle with what lies behind it. -/
def holdSV(sh:Sh)(ps:List PV):HC→SlotV
 | .cv x=>match sh with | .ptr=>.box x | _=>.hold sh ps (.cv x)
 | h=>.hold sh ps h
/-- What a slot holds behind its handle. -/
def holdHC:SlotV→Option HC
 | .box x=>some (.cv x)
 | .hold _ _ h=>some h
 | _=>none
theorem holdHC_isBox{s:SlotV}{h:HC}(e:holdHC s=some h):isBox s=true:=by
 cases s<;>first | rfl | (simp[holdHC] at e)
theorem holdHC_ok{N:Nat→Prop}{w:World}{G:Gh}{k:Nat}{v:Value}{s:SlotV}{h:HC}(e:holdHC s=some h)(hs:SlotOk N w G k v s):HCok N w G.hd G.ad (G.ad k) h:=by
 cases s<;>simp only[holdHC,Option.some.injEq,reduceCtorEq] at e
 ·subst e; obtain⟨_,cs,e',h1,h2⟩:=hs; exact⟨cs,e',h1,h2⟩
 ·subst e; obtain⟨_,_,_,h3⟩:=hs; exact h3
def updV:Nat→List SlotV→(Nat→SlotV)→Nat→SlotV
 | _,[],f=>f
 | i,x::xs,f=>updV (i+1) xs (upd f i x)
/-- A mark that ties a handle's block to a name that never turns. -/
def lnkF(hs:List Value)(as:List Nat)(_:List Value):Value:=
 match hs,as with
 | [.pointer (some ⟨b,_,_⟩)],[a]=>if b=a then undef else .bool true
 | _,_=>.bool true
def gh(r:Nat):SlotV:=.fn [10500] [r] [] lnkF
/-- What the handle's block holds in the end, and that nothing of it is a result's. -/
def BxFin(st:St)(k:Nat)(ns:List Nat)(x':BV):Prop:=
 match holdHC (st.s k) with
 | some (.cv y)=>y.whole st.o=true∧(y.names++ns).Nodup∧x'=.pv (y.pvo st.o)
 | some (.mp kv clock)=>ns.Nodup∧x'=.mp kv clock
 | _=>False
def RetHB(P:Program)(st:St)(rs:List ResultVar)(res:PV)(k:Nat)(x':BV):Prop:=
 st.s 20000=gh k∧aB st.o (resCVs P st rs)=true∧resOks P st rs∧((res=asRes (aD st.o (resCVs P st rs))∧BxFin st k (av (resCVs P st rs)) x')∨(res=asRes (aK st.o (resCVs P st rs))∧CV.pures (resCVs P st rs)=true∧BxFin st k [] x'))

end
section
def HC.names:HC→List Nat
 | .cv y=>y.names
 | _=>[]
/-- What stands behind a handle, as it is handed over. -/
def HC.isBV(ob:Nat→Option (Nat×List PV))(x:BV):HC→Prop
 | .cv y=>y.whole ob=true∧x=.pv (y.pvo ob)
 | .mp kv clock=>x=.mp kv clock
 | .it _ _ _ _=>False
def setH:SlotV→HC→SlotV
 | .box _,.cv y=>.box y
 | .hold sh ps _,h=>.hold sh ps h
 | s,_=>s
def okH:SlotV→HC→Bool
 | .box _,.cv _=>true
 | .hold ..,_=>true
 | _,_=>false
theorem okH_box{s:SlotV}{h:HC}(e:okH s h=true):isBox (setH s h)=true:=by
 cases s<;>first | (simp[okH] at e; done) | skip
 ·cases h<;>first | rfl | (simp[okH] at e; done)
 ·rfl
theorem setH_ok{N N':Nat→Prop}{w w':World}{G G':Gh}{k:Nat}{v:Value}{s:SlotV}{h:HC}(e:okH s h=true)(hs:SlotOk N w G k v s)(hN:∀ b,N b→N' b)(hw:∀ b,N b→w'.heap[b]?=w.heap[b]?)(ha:G'.ad=G.ad)
 (hh:HCok N' w' G'.hd G'.ad (G.ad k) h):SlotOk N' w' G' k v (setH s h):=by
 cases s<;>first | (simp[okH] at e; done) | skip
 ·cases h<;>first | (simp[okH] at e; done) | skip
  obtain⟨h1,_⟩:=hs
  obtain⟨cs,e',h2,h3⟩:=hh
  exact⟨by rw[ha]; exact h1,cs,e',by rw[ha]; exact h2,h3⟩
 ·obtain⟨vals,h1,h2,_⟩:=hs
  exact⟨vals,RepCs.frame hN hw _ _ [] (by simp) h1,by rw[ha]; exact h2,by rw[ha] at hh ⊢; exact hh⟩

theorem explodeR_ok{N:Nat→Prop}{w:World}{res:PV}{v:Value}{F:List Nat}{c:Nat}(hr:RepR N w res v F)(hn:F.Nodup):
 ∃ hdv fpv hi,News N w hdv fpv F c hi (resObjs res c)∧∀ (N':Nat→Prop) (G:Gh) (k:Nat),(∀ b,N b→N' b)→(∀ n,c≤n→n<hi→G.hd n=hdv n)→SlotOk N' w G k v (resSV res c):=by
 by_cases ht:∃ ps,res=.tup ps
 ·obtain⟨ps,rfl⟩:=ht
  obtain⟨vs,rfl,h2⟩:=hr
  obtain⟨hdv,fpv,n1,r1⟩:=explodesV_ok ps vs F c h2 hn
  exact⟨hdv,fpv,_,n1,fun N' G k hN hh=>⟨vs,rfl,r1 N' G.hd hN hh⟩⟩
 ·have hv:RepV N w res v F:=by
   cases res with
   | tup ps=>exact absurd ⟨ps,rfl⟩ ht
   | _=>exact hr
  obtain⟨hdv,fpv,n1,r1⟩:=explodeV_ok (c:=c) hv hn
  have e1:resSV res c=.val (explode res c).1:=by
   cases res with
   | tup ps=>exact absurd ⟨ps,rfl⟩ ht
   | _=>rfl
  have e2:resObjs res c=(explode res c).2.1:=by
   cases res with
   | tup ps=>exact absurd ⟨ps,rfl⟩ ht
   | _=>rfl
  rw[e1,e2]
  exact⟨hdv,fpv,_,n1,fun N' G k hN hh=>r1 N' G.hd hN hh⟩

theorem callH_core{P:Program}{κ:Ctx}{G:Gh}{st:St}{a:Act}{w:World}{d r:Nat}{f:FuncId}(hG:RG κ G st a w)(hd:d<κ.nt)(hrd:r≠d){hc:HC}(hh:holdHC (st.s r)=some hc){sh:Sh}{ps:List PV}{vals:List Value}
 {x x':BV} (hx:hc.isBV st.o x) {Ds:List Nat} (hDs:∀ c∈Ds,(st.o c).isSome=true) (hnd:(hc.names++Ds).Nodup) {N:Nat→Prop} (hps:RepCs N w ps vals [])
 (hN1:∀ b,N b→b<w.heap.size∧b≠G.ad r∧b∉fps G.fp (hc.names++Ds)) (hNN:∀ b,Nof κ st G w b→N b) {res:PV} (hN2:(∀ b,N b→Nof κ st G w b)∨(res.noView=true∧x'.noView=true))
 {pre post:List PV} {v1 v2:List Value} (hargs:RepVs N w (pre++post) (v1++v2) (fps G.fp Ds)) (hl:v1.length=pre.length) (hsat:SatH P f pre post sh ps x x' res) {c:Nat} (hok:okH (st.s r) (x'.hc c)=true)
 (hfresh:∀ n∈(x'.objs c++resObjs res (x'.hi c)).map (·.1),st.noC n) {next:Act→World→Prop}
 (hnext:∀ w' v,R κ { s:=upd (upd st.s r (setH (st.s r) (x'.hc c))) d (resSV res (x'.hi c)),o:=updAll st.o (deadObjs (hc.names++Ds)++newObjs (x'.objs c++resObjs res (x'.hi c))) } (a.put (some d) v) w'→next (a.put (some d) v) w'):
 Calls P f (v1++sh.val (G.ad r) vals::v2).toArray w (fun e w'=>∃ v,e=.returned v∧next (a.put (some d) v) w'):=by
 have hbr:=holdHC_isBox hh
 have hcok:=holdHC_ok hh (hG.slots r)
 have hcl:∀ c∈hc.names,(st.o c).isSome=true:=by
  cases hc with
  | cv y=>exact CV.names_live y hx.1
  | _=>simp[HC.names]
 have hall:∀ c∈hc.names++Ds,(st.o c).isSome=true:=fun c hc'=>(List.mem_append.1 hc').elim (hcl c) (hDs c)
 have hfn:=fps_nodup hG _ hnd hall
 have hXin:∀ b∈fps G.fp (hc.names++Ds),∃ c p,st.o c=some p∧b∈G.fp c:=by
  intro b hb
  obtain⟨c,hc',hm⟩:=mem_fps.1 hb
  obtain⟨p,hp⟩:=Option.isSome_iff_exists.1 (hall c hc')
  exact⟨c,p,hp,hm⟩
 have hbX:G.ad r∉fps G.fp (hc.names++Ds):=fun hm=>by
  obtain⟨c,p,hp,hm⟩:=hXin _ hm
  exact hG.bo r c p hbr hp hm
 have hXlt:∀ b∈fps G.fp (hc.names++Ds),b<w.heap.size:=fun b hb=>by
  obtain⟨c,p,hp,hm⟩:=hXin _ hb
  exact((hG.objs c p.1 p.2 hp).2.2 b hm).2
 have hrb:RepBV N w (G.ad r) (fps G.fp hc.names) x:=by
  cases hc with
  | cv y=>
   obtain⟨h1,rfl⟩:=hx
   obtain⟨cs,e,h2,h3⟩:=hcok
   exact⟨cs,e,h2,RepC.frame hNN (fun _ _=>rfl) _ _ _ (fun _ _=>rfl) (RepCV.own (fun c sz es hc=>(hG.objs c sz es hc).1) y cs h1 h3)⟩
  | mp kv clock=>
   cases hx
   obtain⟨es,h1,h2,h3⟩:=hcok
   exact⟨rfl,es,h1,MapIs.frame hNN (fun _ _=>rfl) kv es h2,h3⟩
  | it _ _ _ _=>exact hx.elim
 have:=hsat.2 w N v1 v2 vals (G.ad r) (fps G.fp hc.names) (fps G.fp Ds) (fun b hb=>⟨(hN1 b hb).1,fun hm=>by
  rcases List.mem_cons.1 hm with e | hm
  ·exact(hN1 b hb).2.1 e
  ·exact(hN1 b hb).2.2 (by rw[fps_append]; exact hm)⟩) (List.nodup_cons.2 (by rw[fps_append] at hbX hfn; exact⟨hbX,hfn⟩)) (fun b hb=>by
  rcases List.mem_cons.1 hb with e | hm
  ·rw[e]; exact(hG.boxes r hbr).2
  ·exact hXlt b (by rw[fps_append]; exact hm)) hps hrb hargs hl
 refine this.mono ?_
 rintro e w' ⟨v,F,Fx',rfl,hk,hb',hr',hn',hF'⟩
 refine⟨v,rfl,hnext w' v ?_⟩
 rw[← fps_append] at hk hF' hb' hr'
 obtain⟨hn1,hn2⟩:=List.nodup_cons.1 hn'
 have hnA:=(List.nodup_append.1 hn2).1
 have hnB:=(List.nodup_append.1 hn2).2.1
 have hdis:∀ b∈Fx',b∉F:=fun b hb hb'=>(List.nodup_append.1 hn2).2.2 b hb b hb' rfl
 have hwk:∀ b,Nof κ st G w b→w'.heap[b]?=w.heap[b]?:=fun b hb=>hk.block b (hb.lt hG) (fun hm=>by
  rcases List.mem_cons.1 hm with e | hm
  ·exact(hN1 b (hNN b hb)).2.1 e
  ·exact(hN1 b (hNN b hb)).2.2 hm)
 have finish:∀ N':Nat→Prop,(∀ b,N' b→Nof κ st G w b∨((w.heap.size≤b∨b∈fps G.fp (hc.names++Ds))∧b<w'.heap.size∧b∉Fx'++F))→RepBV N' w' (G.ad r) Fx' x'→RepR N' w' res v F→
  R κ { s:=upd (upd st.s r (setH (st.s r) (x'.hc c))) d (resSV res (x'.hi c)),o:=updAll st.o (deadObjs (hc.names++Ds)++newObjs (x'.objs c++resObjs res (x'.hi c))) } (a.put (some d) v) w':=by
  intro N' hN' hbb hrr
  obtain⟨hd1,fp1,n1,r1⟩:=explodeB_ok (c:=c) hbb hnA
  obtain⟨hd2,fp2,hi,n2,r2⟩:=explodeR_ok (c:=x'.hi c) hrr hnB
  have hle1:=n1.le
  have hle2:=n2.le
  refine R.newResH (hdv:=fun n=>if n<x'.hi c then hd1 n else hd2 n) (fpv:=fun n=>if n<x'.hi c then fp1 n else fp2 n) hG hd hrd hbr (okH_box hok) hall hk hF' hN' (News.join n1 n2 hdis) hfresh (resSV_notBox _ _) (fun N2 G' hN2 hh2=>r2 N2 G' d hN2 (fun n g1 g2=>?_))
   (fun N2 G' hN2 hN3 hh2 ha=>setH_ok hok (hG.slots r) hN3 hwk ha (r1 N2 G'.hd G'.ad hN2 (fun n g1 g2=>?_)))
  ·rw[hh2 n (by omega) g2]; have:¬ n<x'.hi c:=by omega
   simp[this]
  ·rw[hh2 n g1 (by omega)]; simp[g2]
 rcases hN2 with hN2 | ⟨hv1,hv2⟩
 ·exact finish _ (fun b hb=>hb.imp (hN2 b) id) hb' hr'
 ·exact finish (fun _=>False) (fun b hb=>hb.elim) (hb'.noView hv2) (hr'.noView hv1)
end
section
/-- A handle, as an operand gives it. -/
def hdl:SlotV→Option (Nat×Sh×List PV)
 | .hptr r sh ps=>some (r,sh,ps)
 | .bptr r [] 0=>some (r,.ptr,[])
 | _=>none
theorem hdl_ok{N:Nat→Prop}{w:World}{G:Gh}{k:Nat}{v:Value}{s:SlotV}{r:Nat}{sh:Sh}{ps:List PV}(e:hdl s=some (r,sh,ps))(h:SlotOk N w G k v s):∃ vals,RepCs N w ps vals []∧v=sh.val (G.ad r) vals:=by
 unfold hdl at e
 split at e
 ·cases e; exact h
 ·cases e; exact⟨[],by simp[RepCs],h⟩
 ·cases e
theorem wholes_append{ob:Nat→Option (Nat×List PV)}:∀ a b:List CV,aB ob (a++b)=(aB ob a&&aB ob b)
 | [],b=>by simp[aB]
 | x::a,b=>by simp[aB,wholes_append a b,Bool.and_assoc]
theorem cvals_append{N:Nat→Prop}{w:World}{hd:Nat→Value}:∀ {a b:List CV} {u v:List Value},CVals N w hd a u→CVals N w hd b v→CVals N w hd (a++b) (u++v)
 | [],_,u,_,h,h'=>by simp only[CVals] at h; subst h; simpa using h'
 | x::a,b,u,v,h,h'=>by
  simp only[CVals] at h
  obtain⟨y,ys,rfl,h1,h2⟩:=h
  simp only[List.cons_append,CVals]
  exact⟨y,ys++v,rfl,h1,cvals_append h2 h'⟩
theorem HC.isBV_congr{ob ob':Nat→Option (Nat×List PV)}{x:BV}{h:HC}(he:∀ n∈h.names,ob' n=ob n)(hb:h.isBV ob x):h.isBV ob' x:=by
 cases h with
 | cv y=>obtain⟨g1,g2⟩:=hb; have:=CV.congr_ob (ob:=ob) (ob':=ob') y he; exact⟨by rw[this.1]; exact g1,by rw[this.2.2]; exact g2⟩
 | mp _ _=>exact hb
 | it _ _ _ _=>exact hb

/-- What the call's arguments are, for all roads. -/
theorem valid_callX{P:Program}{nt:Nat}{o:Oper}{st:St}{d r c:Nat}{f:FuncId}{xs:List CV}{ms:List Bool}{caps:List PV}{hc:HC}{sh:Sh}{ps pre post:List PV}{x x':BV}{res:PV}{rs:List Nat}
 (hdst:o.dst=some d) (hd:d<nt) (hrd:(r==d)=false) (hr:r∈rs) (hh:holdHC (st.s r)=some hc) (hbv:hc.isBV st.o x) (hok:okH (st.s r) (x'.hc c)=true) (hw:aB st.o xs=true)
 (hmn:(hc.names++mixNames ms xs).Nodup) (halias:mixPure ms xs=true∨(res.noView=true∧x'.noView=true∧∀ n∈viewNames ms xs,n∉hc.names++mixNames ms xs))
 (hargs:pre++post=mix ms (aK st.o xs) (aD st.o xs)++caps) (hcaps:∀ p∈caps,PV.size p=1∧(CV.pv p).isAgg=false)
 (hrun:∀ κ G st' a w,κ.nt=nt→(∀ k∈rs,st'.s k=st.s k)→(∀ n∈hc.names++av xs,st'.o n=st.o n)→RG κ G st' a w→CallIs P f→∃ v1 v2 cv vals avs,(execOp a.eval o).run P w=.ok (.enter f (v1++sh.val (G.ad r) vals::v2).toArray) w∧
  v1.length=pre.length∧v1++v2=avs++cv∧CVals (Nof κ st' G w) w G.hd xs avs∧RepCs (Nof κ st' G w) w caps cv []∧RepCs (Nof κ st' G w) w ps vals [])
 (hsat:SatH P f pre post sh ps x x' res):
 Valid P nt o st { rs:=rs,ro:=hc.names++av xs,fc:=(x'.objs c++resObjs res (x'.hi c)).map (·.1),us:=[(r,setH (st.s r) (x'.hc c)),(d,resSV res (x'.hi c))],uo:=deadObjs (hc.names++mixNames ms xs)++newObjs (x'.objs c++resObjs res (x'.hi c)) }:=by
 intro κ st' a w hnt hsame hfresh hR next Q hnext
 obtain⟨G,hG⟩:=hR
 have hrd':r≠d:=by simpa using hrd
 have hcong:=CV.congr_obs (ob:=st.o) (ob':=st'.o) xs (fun n hn=>hsame.2 n (List.mem_append.2 (.inr hn)))
 obtain⟨hw',hv',ho'⟩:=hcong
 have hwx:aB st'.o xs=true:=by rw[hw']; exact hw
 obtain⟨v1,v2,cv,vals,avs,e1,e2,e3,hcv,hcp,hps⟩:=hrun κ G st' a w hnt hsame.1 hsame.2 hG hsat.1
 have hsr:st'.s r=st.s r:=hsame.1 r hr
 have hh':holdHC (st'.s r)=some hc:=by rw[hsr]; exact hh
 have hbv':=HC.isBV_congr (ob':=st'.o) (fun n hn=>hsame.2 n (List.mem_append.2 (.inl hn))) hbv
 have hlive:∀ c∈mixNames ms xs,(st'.o c).isSome=true:=mixNames_live ms xs hwx
 have hbr:=holdHC_isBox hh'
 have hcl:∀ c∈hc.names,(st'.o c).isSome=true:=by
  cases hc with
  | cv y=>exact CV.names_live y hbv'.1
  | _=>simp[HC.names]
 have hall:∀ c∈hc.names++mixNames ms xs,(st'.o c).isSome=true:=fun c hc'=>(List.mem_append.1 hc').elim (hcl c) (hlive c)
 have hobj:∀ c sz es,st'.o c=some (sz,es)→RepC (Nof κ st' G w) w (.sl true sz es) [G.hd c] (G.fp c):=fun c sz es hc=>(hG.objs c sz es hc).1
 have hXin:∀ b∈fps G.fp (hc.names++mixNames ms xs),∃ c p,st'.o c=some p∧b∈G.fp c∧c∈hc.names++mixNames ms xs:=by
  intro b hb
  obtain⟨c,hc',hm⟩:=mem_fps.1 hb
  obtain⟨p,hp⟩:=Option.isSome_iff_exists.1 (hall c hc')
  exact⟨c,p,hp,hm,hc'⟩
 have hNX:∀ b,Nof κ st' G w b→b<w.heap.size∧b≠G.ad r∧b∉fps G.fp (hc.names++mixNames ms xs):=fun b hb=>⟨hb.lt hG,fun e=>hb.2 (.inl ⟨r,hbr,e⟩),fun hm=>by
  obtain⟨c,p,hp,hm,_⟩:=hXin b hm
  exact hb.2 (.inr ⟨c,p,hp,hm⟩)⟩
 unfold Oper.wp
 rw[e1]
 simp only[Oper.upon]
 have done:∀ N:Nat→Prop,(∀ b,N b→b<w.heap.size∧b≠G.ad r∧b∉fps G.fp (hc.names++mixNames ms xs))→(∀ b,Nof κ st' G w b→N b)→((∀ b,N b→Nof κ st' G w b)∨(res.noView=true∧x'.noView=true))→
  RepVs N w (mix ms (aK st'.o xs) (aD st'.o xs)) avs (fps G.fp (mixNames ms xs))→Calls P f (v1++sh.val (G.ad r) vals::v2).toArray w fun e w'=>∃ v,e=.returned v∧next (a.put (some d) v) w':=by
  intro N hN1 hNN hN2 hav
  rw[hv',ho'] at hav
  have hall2:=RepVs.append _ _ _ _ _ _ hav (RepVs.of_caps caps cv [] hcaps (RepCs.frame hNN (fun _ _=>rfl) caps cv [] (by simp) hcp))
  rw[bj,← hargs,← e3] at hall2
  refine callH_core (c:=c) hG (by rw[hnt]; exact hd) hrd' hh' hbv' hlive hmn (RepCs.frame hNN (fun _ _=>rfl) ps vals [] (by simp) hps) hN1 hNN hN2 hall2 e2 hsat (by rw[hsr]; exact hok) (fun n hn=>hfresh.2 n hn) (fun w' v hR=>hnext _ _ ?_)
  simpa[St.app,updAll,hsr] using hR
 rcases halias with hpure | ⟨hnv,hnv',hvn⟩
 ·have hvw:∀ (ms:List Bool) (xs:List CV),mixPure ms xs=true→viewNames ms xs=[]:=by
   intro ms xs
   induction xs generalizing ms with
   | nil=>intro _; rfl
   | cons y ys ih=>
    intro hp
    simp only[mixPure,aw] at hp
    simp only[viewNames,ih _ hp.2,bj]
    cases hm:ms.headD false with
    | true=>simp
    | false=>
     rw[hm] at hp
     simp only[Bool.false_or] at hp
     simp only[Bool.false_eq_true,if_false]
     exact CV.pure_names y hp.1
  have hav:=mix_ok (N':=Nof κ st' G w) (ob:=st'.o) (fp:=G.fp) (fun _ h=>h) hobj ms xs _ hwx (by rw[hvw ms xs hpure]; simp) hcv
  refine(done _ hNX (fun _ h=>h) (.inl (fun _ h=>h)) hav).mono ?_
  rintro e w' ⟨v,rfl,hn⟩
  rw[hdst]; exact hn
 ·have hav:=mix_ok (N':=fun b=>b<w.heap.size∧b≠G.ad r∧b∉fps G.fp (hc.names++mixNames ms xs)) (ob:=st'.o) (fp:=G.fp) hNX hobj ms xs _ hwx (fun n hn b hb=>by
   have hcl:∀ (ms:List Bool) (ys:List CV),aB st'.o ys=true→∀ c∈viewNames ms ys,(st'.o c).isSome=true:=by
    intro ms ys
    induction ys generalizing ms with
    | nil=>intro _ c hc; simp[viewNames] at hc
    | cons y ys ih=>
     intro hwy c hc
     simp only[aB,aw] at hwy
     simp only[viewNames,aT] at hc
     rcases hc with hc | hc
     ·split at hc
      ·cases hc
      ·exact CV.names_live y hwy.1 c hc
     ·exact ih ms.tail hwy.2 c hc
   obtain⟨p,hp⟩:=Option.isSome_iff_exists.1 (hcl ms xs hwx n hn)
   refine⟨((hG.objs n p.1 p.2 hp).2.2 b hb).2,fun e=>hG.bo r n p hbr hp (e▸hb),fun hm=>?_⟩
   obtain⟨c',p',hp',hm',hc'⟩:=hXin b hm
   exact hG.oo n c' p p' hp hp' (fun e=>hvn n hn (e▸hc')) b hb hm') hcv
  refine(done _ (fun _ h=>h) hNX (.inr ⟨hnv,hnv'⟩) hav).mono ?_
  rintro e w' ⟨v,rfl,hn⟩
  rw[hdst]; exact hn
end
section
/-- A handle among the arguments. -/
theorem valid_callA{P:Program}{nt:Nat}{o:Oper}{st:St}{d r c:Nat}{g x:Operand}{as1 as2:List Operand}{ts:List TypeId}{f:FuncId}{xs1 xs2:List CV}{ms:List Bool}{caps:List PV}{T1 T2:TypeId}{hc:HC}{sh:Sh}{ps pre post:List PV}{x0 x':BV}{res:PV}
 (hop:o.op=.call { callee:=.value g,args:=⟨as1++x::as2⟩,argTypes:=⟨ts⟩ }) (hdst:o.dst=some d) (hd:d<nt) (hg:ev P st T1 g=.val (.pv (.clo f caps))) (hx:hdl (ev P st T2 x)=some (r,sh,ps)) (hrd:(r==d)=false)
 (hh:holdHC (st.s r)=some hc) (hbv:hc.isBV st.o x0) (hok:okH (st.s r) (x'.hc c)=true) (hx1:argCVs P st as1 ts=xs1) (hx2:argCVs P st as2 (ts.drop (as1.length+1))=xs2) (hw:aB st.o (xs1++xs2)=true)
 (hmn:(hc.names++mixNames ms (xs1++xs2)).Nodup) (halias:mixPure ms (xs1++xs2)=true∨(res.noView=true∧x'.noView=true∧∀ n∈viewNames ms (xs1++xs2),n∉hc.names++mixNames ms (xs1++xs2)))
 (hargs:pre++post=mix ms (aK st.o (xs1++xs2)) (aD st.o (xs1++xs2))++caps) (hpl:pre.length=as1.length) (hcaps:∀ p∈caps,PV.size p=1∧(CV.pv p).isAgg=false) (hsat:SatH P f pre post sh ps x0 x' res):
 Valid P nt o st { rs:=r::(rd g++(as1++x::as2).flatMap rd),ro:=hc.names++av (xs1++xs2),fc:=(x'.objs c++resObjs res (x'.hi c)).map (·.1),us:=[(r,setH (st.s r) (x'.hc c)),(d,resSV res (x'.hi c))],uo:=deadObjs (hc.names++mixNames ms (xs1++xs2))++newObjs (x'.objs c++resObjs res (x'.hi c)) }:=by
 refine valid_callX hdst hd hrd (by simp) hh hbv hok hw hmn halias hargs hcaps (fun κ G st' a w hnt hs ho hG hci=>?_) hsat
 have hob:=CV.congr_obs (ob:=st.o) (ob':=st'.o) (xs1++xs2) (fun n hn=>ho n (List.mem_append.2 (.inr hn)))
 have hw':aB st'.o (xs1++xs2)=true:=by rw[hob.1]; exact hw
 rw[wholes_append,aw] at hw'
 have c1:=args_ok (P:=P) (st:=st) hG as1 ts (fun k hk=>hs k (by simp only[bq,aT,List.flatMap_append]; exact .inr (.inr (.inl hk)))) (by rw[hx1]; exact hw'.1)
 have c2:=args_ok (P:=P) (st:=st) hG as2 (ts.drop (as1.length+1)) (fun k hk=>hs k (by simp only[bq,aT,List.flatMap_append,List.flatMap_cons]; exact .inr (.inr (.inr (.inr hk))))) (by rw[hx2]; exact hw'.2)
 rw[hx1] at c1
 rw[hx2] at c2
 have hxv:=ev_ok (P:=P) (T:=T2) hG x 0
 rw[ev_congr (fun k hk=>hs k (by simp only[bq,aT,List.flatMap_append,List.flatMap_cons]; exact .inr (.inr (.inr (.inl hk)))))] at hxv
 obtain⟨vals,hps,hxe⟩:=hdl_ok hx hxv
 have hgv:=ev_ok (P:=P) (T:=T1) hG g 0
 rw[ev_congr (fun k hk=>hs k (by simp[hk])),hg] at hgv
 rcases hgv with⟨hgv,_⟩ | ⟨_,hgv,_⟩
 ·simp[CV.isAgg] at hgv
 simp only[RepCV,RepC] at hgv
 obtain⟨cv,hg1,_,hg3,_⟩:=hgv
 simp at hg1
 refine⟨as1.map a.eval,as2.map a.eval++cv,cv,vals,as1.map a.eval++as2.map a.eval,?_,by simp[hpl],by simp,cvals_append c1 c2,hg3,hps⟩
 have harr:(Array.map a.eval ⟨as1++x::as2⟩++cv.toArray)=(as1.map a.eval++sh.val (G.ad r) vals::(as2.map a.eval++cv)).toArray:=by
  apply Array.ext'; simp[hxe]
 simp[execOp,hop,resolve,hg1,Deferred.ofValue,invoke,run_callFunc hci]
 simp[hxe]
end
section
open Go.ChangeMaps (setBlock)
theorem ba_eq(k:ByteArray):(k==k)=true:=by show(k.data==k.data)=true; simp
theorem ba_ne{k k':ByteArray}(h:k≠k'):(k==k')=false:=by
 cases hh:(k==k') with
 | false=>rfl
 | true=>
  have:(k.data==k'.data)=true:=hh
  exact absurd (by cases k; cases k'; simpa using this) h
section
variable{α β:Type}
def gput(k:ByteArray)(v:α)(ck:Nat):List (ByteArray×α×Nat)→List (ByteArray×α×Nat)
 | []=>[(k,v,ck)]
 | e::es=>if e.1=k then(k,v,e.2.2)::es else e::gput k v ck es
def ghas(k:ByteArray):List (ByteArray×α×Nat)→Bool
 | []=>false
 | e::es=>if e.1=k then true else ghas k es
def gget(z:α)(k:ByteArray):List (ByteArray×α×Nat)→α
 | []=>z
 | e::es=>if e.1=k then e.2.1 else gget z k es
def gdel(k:ByteArray):List (ByteArray×α×Nat)→List (ByteArray×α×Nat)
 | []=>[]
 | e::es=>if e.1=k then es else e::gdel k es
/-- A map, as it lies: its entries in the order in which they came, each with its stamp; the next stamp. -/
structure GMap(α:Type) where
 es:List (ByteArray×α×Nat)
 clock:Nat
def GMap.empty:GMap α:=⟨[],0⟩
def GMap.put(m:GMap α)(k:ByteArray)(v:α):GMap α:=⟨gput k v m.clock m.es,if ghas k m.es then m.clock else m.clock+1⟩
def GMap.get(m:GMap α)(k:ByteArray)(z:α):α:=gget z k m.es
def GMap.has(m:GMap α)(k:ByteArray):Bool:=ghas k m.es
def gmap(f:α→β)(l:List (ByteArray×α×Nat)):List (ByteArray×β×Nat):=l.map fun e=>(e.1,f e.2.1,e.2.2)
theorem gmap_put(f:α→β)(k:ByteArray)(v:α)(ck:Nat):∀ l:List (ByteArray×α×Nat),gmap f (gput k v ck l)=gput k (f v) ck (gmap f l)
 | []=>rfl
 | e::es=>by
  simp only[gmap,gput,aF]
  split
  ·rfl
  ·simp only[aF]; exact congrArg _ (gmap_put f k v ck es)
theorem gmap_has(f:α→β)(k:ByteArray):∀ l:List (ByteArray×α×Nat),ghas k (gmap f l)=ghas k l
 | []=>rfl
 | e::es=>by
  simp only[gmap,ghas,aF]
  split
  ·rfl
  ·exact gmap_has f k es
theorem gmap_get(f:α→β)(z:α)(k:ByteArray):∀ l:List (ByteArray×α×Nat),gget (f z) k (gmap f l)=f (gget z k l)
 | []=>rfl
 | e::es=>by
  simp only[gmap,gget,aF]
  split
  ·rfl
  ·exact gmap_get f z k es
theorem ghas_iff(k:ByteArray):∀ l:List (ByteArray×α×Nat),ghas k l=true↔k∈l.map (·.1)
 | []=>by simp[ghas]
 | e::es=>by
  simp only[ghas,aF,bq]
  by_cases h:e.1=k
  ·simp[h]
  ·rw[if_neg h,ghas_iff k es]; simp[Ne.symm h]
theorem gput_keys(k:ByteArray)(v:α)(ck:Nat):∀ l:List (ByteArray×α×Nat),(gput k v ck l).map (·.1)=if ghas k l then l.map (·.1) else l.map (·.1)++[k]
 | []=>rfl
 | e::es=>by
  simp only[gput,ghas]
  by_cases h:e.1=k
  ·simp[h]
  ·simp only[h,if_false,aF,gput_keys k v ck es]; split<;>rfl
theorem gput_stamps(k:ByteArray)(v:α)(ck:Nat):∀ l:List (ByteArray×α×Nat),(gput k v ck l).map (·.2.2)=if ghas k l then l.map (·.2.2) else l.map (·.2.2)++[ck]
 | []=>rfl
 | e::es=>by
  simp only[gput,ghas]
  by_cases h:e.1=k
  ·simp[h]
  ·simp only[h,if_false,aF,gput_stamps k v ck es]; split<;>rfl
end
/-- The invariants of a map's entries. -/
def MapOk(kv:List MEnt)(clock:Nat):Prop:=(kv.map (·.1)).Nodup∧(kv.map (·.2.2)).Nodup∧∀ e∈kv,e.2.2<clock
theorem MapOk.put{kv:List MEnt}{ck:Nat}(h:MapOk kv ck)(k:ByteArray)(p:PV):MapOk (gput k p ck kv) (if ghas k kv then ck else ck+1):=by
 obtain⟨h1,h2,h3⟩:=h
 have key:∀ s,s∈(gput k p ck kv).map (·.2.2)→s<if ghas k kv then ck else ck+1:=by
  intro s hs
  rw[gput_stamps] at hs
  cases hh:ghas k kv with
  | true=>
   rw[hh] at hs
   simp only[if_true] at hs ⊢
   obtain⟨e,he,rfl⟩:=List.mem_map.1 hs
   exact h3 e he
  | false=>
   rw[hh] at hs
   simp only[Bool.false_eq_true,if_false,aT,List.mem_singleton] at hs ⊢
   rcases hs with hs | rfl
   ·obtain⟨e,he,rfl⟩:=List.mem_map.1 hs
    have:=h3 e he; omega
   ·omega
 refine⟨?_,?_,fun e he=>key _ (List.mem_map.2 ⟨e,he,rfl⟩)⟩
 ·rw[gput_keys]
  cases hh:ghas k kv with
  | true=>simpa using h1
  | false=>
   have:k∉kv.map (·.1):=fun hm=>by rw[(ghas_iff k kv).2 hm] at hh; cases hh
   simp only[Bool.false_eq_true,if_false]
   exact List.nodup_append.2 ⟨h1,by simp,fun a ha b hb=>by simp at hb; subst hb; exact fun e=>this (e▸ha)⟩
 ·rw[gput_stamps]
  cases hh:ghas k kv with
  | true=>simpa using h2
  | false=>
   have:ck∉kv.map (·.2.2):=fun hm=>by obtain⟨e,he,e1⟩:=List.mem_map.1 hm; have:=h3 e he; omega
   simp only[Bool.false_eq_true,if_false]
   exact List.nodup_append.2 ⟨h2,by simp,fun a ha b hb=>by simp at hb; subst hb; exact fun e=>this (e▸ha)⟩
section
variable{N:Nat→Prop}{w:World}
theorem find_ok(k:ByteArray):∀ (kv:List MEnt) (es:List MapEntry) (i:Nat),MapIs N w kv es→
 (∃ j e,es[j]?=some e∧e.key=.string k∧Instr.findNow .string (.string k) es i=some (some (i+j,e.val))∧ghas k kv=true∧(∀ z,RepV N w (gget z k kv) e.val [])∧
  (∀ (p:PV) (v:Value) (ck:Nat),RepV N w p v []→MapIs N w (gput k p ck kv) (es.modify j fun e=>{ e with key:=.string k,val:=v }))∧MapIs N w (gdel k kv) (es.eraseIdx j))∨
 (Instr.findNow .string (.string k) es i=some none∧ghas k kv=false∧(∀ z,gget z k kv=z)∧
  (∀ (p:PV) (v:Value) (ck:Nat),RepV N w p v []→MapIs N w (gput k p ck kv) (es++[{ key:=.string k,val:=v,born:=ck }]))∧gdel k kv=kv)
 | [],es,i,h=>by
  simp only[MapIs] at h
  subst h
  exact .inr ⟨rfl,rfl,fun _=>rfl,fun p v ck hv=>⟨_,[],rfl,rfl,rfl,hv,rfl⟩,rfl⟩
 | (k',p',s)::kv,es,i,h=>by
  obtain⟨e,es',rfl,h2,h3,h4,h5⟩:=h
  by_cases hk:k'=k
  ·subst hk
   refine .inl ⟨0,e,rfl,h2,?_,by simp[ghas],fun z=>by simpa[gget] using h4,fun p v ck hv=>?_,by simpa[gdel] using h5⟩
   ·simp only[Instr.findNow,h2,Instr.sameNow,ba_eq,Nat.add_zero]
   ·simp only[gput,if_true,List.modify_zero_cons]
    exact⟨_,es',rfl,rfl,h3,hv,h5⟩
  ·have hne:(k==k')=false:=ba_ne (fun e=>hk e.symm)
   rcases find_ok k kv es' (i+1) h5 with⟨j,e',g1,g2,g3,g4,g5,g6,g7⟩ | ⟨g1,g2,g3,g4,g5⟩
   ·refine .inl ⟨j+1,e',by simpa using g1,g2,?_,by simpa[ghas,hk] using g4,fun z=>by simpa[gget,hk] using g5 z,fun p v ck hv=>?_,?_⟩
    ·simp only[Instr.findNow,h2,Instr.sameNow,hne]; rw[g3]; congr 3; omega
    ·simp only[gput,hk,if_false,List.modify_succ_cons]
     exact⟨e,_,rfl,h2,h3,h4,g6 p v ck hv⟩
    ·simp only[gdel,hk,if_false,List.eraseIdx_cons_succ]
     exact⟨e,_,rfl,h2,h3,h4,g7⟩
   ·refine .inr ⟨?_,by simpa[ghas,hk] using g2,fun z=>by simpa[gget,hk] using g3 z,fun p v ck hv=>?_,by simp[gdel,hk,g5]⟩
    ·simp only[Instr.findNow,h2,Instr.sameNow,hne]; exact g1
    ·simp only[gput,hk,if_false,List.cons_append]
     exact⟨e,_,rfl,h2,h3,h4,g4 p v ck hv⟩
end
/-- A map type with strings for keys. -/
def MapTy(P:Program)(T E:TypeId):Prop:=∃ K,P.underlying T=some (.map K E)∧P.underlying K=some .string
theorem run_checkS{P:Program}{K:TypeId}(h:P.underlying K=some .string)(b:Bool)(k:ByteArray)(w:World):(Instr.checkKey b 10000 K (.string k)).run P w=.ok () w:=by
 exact MapKept.run_checkKey (d:=.string) (k:=.string k) h trivial b 9999
theorem run_findS{P:Program}{K:TypeId}(h:P.underlying K=some .string)(k:ByteArray)(es:List MapEntry)(w:World){r:Option (Nat×Value)}(hr:Instr.findNow .string (.string k) es 0=some r):(Instr.findKey K (.string k) es).run P w=.ok r w:=by
 simp[Instr.findKey,run_underlying h,hr]
theorem run_mapUpdate{P:Program}{T E:TypeId}(hT:MapTy P T E){N:Nat→Prop}{w:World}{b ck:Nat}{kv:List MEnt}{es:List MapEntry}(hb:w.heap[b]?=some (.map es.toArray ck))(hm:MapIs N w kv es){k:ByteArray}{p:PV}{v:Value}(hv:RepV N w p v []):
 ∃ es',(Instr.mapUpdate T (.map (some b)) (.string k) v).run P w=.ok () (setBlock w b (.map es'.toArray (if ghas k kv then ck else ck+1)))∧MapIs N w (gput k p ck kv) es':=by
 obtain⟨K,hT,hK⟩:=hT
 rcases find_ok k kv es 0 hm with⟨j,e,g1,g2,g3,g4,g5,g6,g7⟩ | ⟨g1,g2,g3,g4,g5⟩
 ·refine⟨_,?_,g6 p v ck hv⟩
  have hg:es.toArray[j]?=some e:=by simpa using g1
  have hsame:Instr.sameBits 10000 (.string k) (.string k)=true:=ba_eq k
  simp[Instr.mapUpdate,run_underlying hT,MapKept.run_getObj_map hb,run_checkS hK,run_findS hK k es _ g3,g4,g1,g2,Instr.keyThatStays,hsame,MapKept.run_setObj_map _ hb,setBlock]
 ·refine⟨_,?_,g4 p v ck hv⟩
  simp[Instr.mapUpdate,run_underlying hT,MapKept.run_getObj_map hb,run_checkS hK,run_findS hK k es _ g1,g2,MapKept.run_setObj_map _ hb,setBlock]
theorem run_lookup{P:Program}{T E:TypeId}(hT:MapTy P T E){N:Nat→Prop}{w:World}{b ck:Nat}{kv:List MEnt}{es:List MapEntry}(hb:w.heap[b]?=some (.map es.toArray ck))(hm:MapIs N w kv es){k:ByteArray}{z:Value}{pz:PV}(hz:∃ i,P.info? E=some i∧i.zero=some z)(hpz:RepV N w pz z [])(ok:Bool):
 ∃ v,RepV N w (gget pz k kv) v []∧(Instr.lookup T (.map (some b)) (.string k) ok).run P w=.ok (if ok then .tuple #[v,.bool (ghas k kv)] else v) w:=by
 obtain⟨K,hT,hK⟩:=hT
 obtain⟨i,hi1,hi2⟩:=hz
 rcases find_ok k kv es 0 hm with⟨j,e,g1,g2,g3,g4,g5,g6,g7⟩ | ⟨g1,g2,g3,g4,g5⟩
 ·refine⟨e.val,g5 pz,?_⟩
  cases ok<;>simp[Instr.lookup,run_underlying hT,MapKept.run_getObj_map hb,run_checkS hK,run_findS hK k es _ g3,g4]
 ·refine⟨z,by rw[g3]; exact hpz,?_⟩
  cases ok<;>simp[Instr.lookup,run_underlying hT,MapKept.run_getObj_map hb,run_checkS hK,run_findS hK k es _ g1,g2,zeroValue,typeInfo,hi1,hi2]

/-! ### The operations -/
theorem RG.putSelf{κ:Ctx}{G:Gh}{st:St}{a:Act}{w:World}(h:RG κ G st a w){r:Nat}(hr:r<κ.nt):a=a.put (some r) (a.tmps.getD r undef):=by
 have hlt:r<a.tmps.size:=by rw[h.nt]; exact hr
 cases a with
 | mk t ds=>
  simp only[Act.put,Act.mk.injEq,and_true]
  apply Array.ext_getElem?
  intro i
  rw[Array.getElem?_setIfInBounds]
  split
  ·rename_i hi; subst hi; simp[Array.getD_eq_getD_getElem?]
  ·rfl
/-- What lies behind a handle turns (and nothing else does). -/
theorem RG.setHold{κ:Ctx}{st:St}{a:Act}{w:World}{r:Nat}{hc:HC}{o':Obj}{G:Gh}(h:RG κ G st a w)(hrn:r<κ.nt)(hok:okH (st.s r) hc=true)
 (hh:HCok (Nof κ st G w) (setBlock w (G.ad r) o') G.hd G.ad (G.ad r) hc):RG κ G (st.set r (setH (st.s r) hc)) a (setBlock w (G.ad r) o'):=by
 have hbr:isBox (st.s r)=true:=by
  cases hs:st.s r<;>rw[hs] at hok<;>first | rfl | (simp[okH] at hok; done)
 have hsz:(setBlock w (G.ad r) o').heap.size=w.heap.size:=by simp[setBlock]
 have hother:∀ b,b≠G.ad r→(setBlock w (G.ad r) o').heap[b]?=w.heap[b]?:=fun b hb=>by simp[setBlock,Ne.symm hb]
 have hbox:∀ k,isBox ((st.set r (setH (st.s r) hc)).s k)=isBox (st.s k):=by
  intro k
  simp only[aW,upd]
  split
  ·rename_i e; subst e; rw[hbr]; exact okH_box hok
  ·rfl
 have hpriv:∀ b,Priv (st.set r (setH (st.s r) hc)) G b↔Priv st G b:=by
  intro b
  simp only[Priv,hbox]
  rfl
 have hN:∀ b,Nof κ st G w b→Nof κ (st.set r (setH (st.s r) hc)) G (setBlock w (G.ad r) o') b:=by
  intro b hb
  refine⟨?_,fun hp=>hb.2 ((hpriv b).1 hp)⟩
  rcases hb.1 with h1 | h1
  ·exact .inl h1
  ·exact .inr (by rw[hsz]; exact h1)
 have hNe:∀ b,Nof κ st G w b→b≠G.ad r:=fun b hb e=>hb.2 (.inl ⟨r,hbr,e⟩)
 have hw:∀ b,Nof κ st G w b→(setBlock w (G.ad r) o').heap[b]?=w.heap[b]?:=fun b hb=>hother b (hNe b hb)
 rw[h.putSelf hrn]
 refine h.step hrn ⟨rfl,rfl,rfl,by rw[hsz]; exact Nat.le_refl _,fun k hk hkL=>hother k (fun e=>(h.boxes r hbr).1.elim (fun h1=>by omega) (fun h1=>hkL (e▸h1))),fun _=>Nat.le_refl _⟩ hN hw (fun k hk=>.inl (by simp[aW,upd,hk])) ?_ (fun _ _ _ _ _=>rfl) (fun _ _ _ _ _=>rfl) ?_ ?_ ?_ ?_ ?_ ?_ (fun _ _=>rfl)
 ·have:(st.set r (setH (st.s r) hc)).s r=setH (st.s r) hc:=by simp[aW,upd]
  rw[this]
  exact setH_ok hok (h.slots r) hN hw rfl (HCok.frame hN (fun _ _=>rfl) (fun _ _=>rfl) (fun _ _=>rfl) rfl hh)
 ·intro k hk _ hb
  exact⟨rfl,hother _ (fun e=>hk (h.bb k r hb hbr e))⟩
 ·intro c' sz es hc
  obtain⟨h1,h2,h5⟩:=h.objs c' sz es hc
  exact⟨RepC.frame hN hw _ _ _ (fun b hb=>hother b (fun e=>h.bo r c' _ hbr hc (e▸hb))) h1,h2,by rw[hsz]; exact h5⟩
 ·intro k hk; rw[hbox] at hk; rw[hsz]; exact h.boxes k hk
 ·intro k k' h1 h2; rw[hbox] at h1 h2; exact h.bb k k' h1 h2
 ·intro k c' p' h1 h2; rw[hbox] at h1; exact h.bo k c' p' h1 h2
 ·exact fun c1 c2 p1 p2 h1 h2=>h.oo c1 c2 p1 p2 h1 h2
theorem R.setHold{κ:Ctx}{st:St}{a:Act}{w:World}{r:Nat}{hc:HC}{o':Obj}(G:Gh)(h:RG κ G st a w)(hrn:r<κ.nt)(hok:okH (st.s r) hc=true)
 (hh:HCok (Nof κ st G w) (setBlock w (G.ad r) o') G.hd G.ad (G.ad r) hc):R κ (st.set r (setH (st.s r) hc)) a (setBlock w (G.ad r) o'):=⟨G,h.setHold hrn hok hh⟩
/-- A new block behind a handle. -/
theorem R.newHold{κ:Ctx}{st:St}{a:Act}{w:World}{d:Nat}{x:HC}{sh:Sh}{o:Obj}(G:Gh)(h:RG κ G st a w)(hd:d<κ.nt)(hf:st.noR d)(hx1:∀ r,x.noR r=true∨r≠d)
 (hx:∀ N w' ad,(∀ b,Nof κ st G w b→N b)→(∀ b,Nof κ st G w b→w'.heap[b]?=w.heap[b]?)→w'.heap[w.heap.size]?=some o→(∀ r,r≠d→ad r=G.ad r)→HCok N w' G.hd ad w.heap.size x):
 R κ (st.set d (.hold sh [] x)) (a.put (some d) (sh.val w.heap.size [])) (w.alloc o):=by
 have hbs:=h.keep.size
 let G':Gh:={ G with ad:=upd G.ad d w.heap.size }
 have hlt:∀ b,Nof κ st G w b→b<w.heap.size:=fun b hb=>hb.lt h
 have hbox:∀ r,isBox ((st.set d (.hold sh [] x)).s r)=true→r=d∨(r≠d∧isBox (st.s r)=true):=by
  intro r hr
  by_cases hrd:r=d
  ·exact .inl hrd
  ·simp only[aW,upd,if_neg hrd] at hr; exact .inr ⟨hrd,hr⟩
 have had:∀ r,r≠d→G'.ad r=G.ad r:=fun r hr=>upd_ne hr
 have hadd:G'.ad d=w.heap.size:=upd_same _ _ _
 have hN:∀ b,Nof κ st G w b→Nof κ (st.set d (.hold sh [] x)) G' (w.alloc o) b:=by
  intro b hb
  refine⟨?_,fun hp=>?_⟩
  ·rcases hb.1 with h1 | h1
   ·exact .inl h1
   ·exact .inr ⟨h1.1,by simp; omega⟩
  ·rcases hp with⟨r,h1,h2⟩ | ⟨c,p,h1,h2⟩
   ·rcases hbox r h1 with rfl | ⟨h3,h4⟩
    ·rw[hadd] at h2; have:=hlt b hb; omega
    ·rw[had r h3] at h2; exact hb.2 (.inl ⟨r,h4,h2⟩)
   ·exact hb.2 (.inr ⟨c,p,h1,h2⟩)
 have hw:∀ b,b<w.heap.size→(w.alloc o).heap[b]?=w.heap[b]?:=fun b hb=>heap_push_lt hb
 refine⟨G',h.step hd (.of_below ((RowKit.Below.refl _ _).alloc hbs _)) hN (fun b hb=>hw b (hlt b hb)) (fun k hk=>.inl (by simp[aW,upd,hk])) ?_ (fun _ _ _ _ _=>rfl) ?_ ?_ ?_ ?_ ?_ ?_ ?_ (fun _ _=>rfl)⟩
 ·have:(st.set d (.hold sh [] x)).s d=.hold sh [] x:=by simp[aW,upd]
  rw[this]
  exact⟨[],by simp[RepCs],by rw[hadd],by rw[hadd]; exact hx _ _ G'.ad hN (fun b hb=>hw b (hlt b hb)) heap_push_eq had⟩
 ·intro k r _ _ hr
  refine had r (fun e=>?_)
  subst e
  rw[hf k] at hr; cases hr
 ·intro k hk _ hb
  exact⟨had k hk,hw _ (h.boxes k hb).2⟩
 ·intro c sz es hc
  obtain⟨h1,h2,h3⟩:=h.objs c sz es hc
  exact⟨RepC.frame hN (fun b hb=>hw b (hlt b hb)) _ _ _ (fun b hb=>hw b (h3 b hb).2) h1,h2,fun b hb=>⟨(h3 b hb).1,by simp; have:=(h3 b hb).2; omega⟩⟩
 ·intro r hr
  rcases hbox r hr with rfl | ⟨h3,h4⟩
  ·rw[hadd]; exact⟨.inl hbs,by simp⟩
  ·rw[had r h3]; have:=h.boxes r h4; exact⟨this.1,by simp; omega⟩
 ·intro r r' h1 h2 he
  rcases hbox r h1 with rfl | ⟨h3,h4⟩<;>rcases hbox r' h2 with rfl | ⟨h5,h6⟩
  ·rfl
  ·rw[hadd,had r' h5] at he; have:=(h.boxes r' h6).2; omega
  ·rw[hadd,had r h3] at he; have:=(h.boxes r h4).2; omega
  ·rw[had r h3,had r' h5] at he; exact h.bb r r' h4 h6 he
 ·intro r c p h1 h2 hm
  rcases hbox r h1 with rfl | ⟨h3,h4⟩
  ·rw[hadd] at hm; have:=((h.objs c p.1 p.2 h2).2.2 _ hm).2; omega
  ·rw[had r h3] at hm; exact h.bo r c p h4 h2 hm
 ·exact fun c c' p p' h1 h2=>h.oo c c' p p' h1 h2

section
variable{P:Program}{nt:Nat}{o:Oper}{st:St}{d r:Nat}{T E T1 T2:TypeId}{x y z:Operand}
theorem valid_makeMap(hop:o.op=.makeMap T none)(hdst:o.dst=some d)(hd:d<nt):Valid P nt o st { fr:=[d],us:=[(d,.hold .mp [] (.mp [] 0))] }:=by
 intro κ st' a w hnt _ hfresh hR next Q hnext
 obtain⟨G,hG⟩:=hR
 unfold Oper.wp
 have hrun:(execOp a.eval o).run P w=.ok (.value (.map (some w.heap.size))) (w.alloc (.map #[] 0)):=by
  simp[execOp,hop,Instr.makeMap]
 rw[hrun]
 simp only[Oper.upon]
 rw[hdst]
 refine hnext _ _ ?_
 have:=R.newHold (x:=.mp [] 0) (sh:=.mp) (o:=.map #[] 0) G hG (by rw[hnt]; exact hd) (hfresh.1.1 d (by simp)) (fun _=>.inl rfl) (fun N w' ad _ _ hb _=>⟨[],by simpa using hb,rfl,by simp,by simp,by simp⟩)
 simpa[St.app,updAll,aW,Sh.val] using this
theorem hptr_val{κ:Ctx}{G:Gh}{st':St}{a:Act}{w:World}{ps:List PV}{sh:Sh}(hG:RG κ G st' a w)(hs:∀ k∈rd x,st'.s k=st.s k)(hx:ev P st T1 x=.hptr r sh []):a.eval x=sh.val (G.ad r) []:=by
 have h1:=ev_ok (P:=P) (T:=T1) hG x 0
 rw[ev_congr hs,hx] at h1
 obtain⟨vals,h2,h3⟩:=h1
 simp only[RepCs] at h2
 rw[h3,h2.1]
theorem hold_mp{κ:Ctx}{G:Gh}{st':St}{a:Act}{w:World}{kv:List MEnt}{ck:Nat}{sh:Sh}{ps:List PV}(hG:RG κ G st' a w)(h:st'.s r=.hold sh ps (.mp kv ck)):
 ∃ es:List MapEntry,w.heap[G.ad r]?=some (.map es.toArray ck)∧MapIs (Nof κ st' G w) w kv es∧MapOk kv ck:=by
 have:=hG.slots r
 rw[h] at this
 obtain⟨_,_,_,es,h1,h2,h3⟩:=this
 exact⟨es,h1,h2,h3⟩
theorem valid_mapUpdate{kv:List MEnt}{ck:Nat}{sh:Sh}{ps:List PV}{k:ByteArray}{c:CV}(hop:o.op=.mapUpdate T x y z∨o.op=.insert T x y z)(hdst:o.dst=none)(hrn:r<nt)(hT:MapTy P T E)(hx:ev P st T1 x=.hptr r .mp [])(hr:st.s r=.hold sh ps (.mp kv ck))
 (hy:ev P st T2 y=.val (.pv (.lit (.string k)))) (hz:ev P st E z=.val c) (hp:c.pure=true):
 Valid P nt o st { rs:=r::(rd x++rd y++rd z),us:=[(r,.hold sh ps (.mp (gput k (c.pvw st.o) ck kv) (if ghas k kv then ck else ck+1)))] }:=by
 intro κ st' a w hnt hsame _ hR next Q hnext
 obtain⟨G,hG⟩:=hR
 have e1:=hptr_val (ps:=[]) hG (fun k hk=>hsame.1 k (by simp[hk])) hx
 have e2:=ev_lit hG hy (fun k hk=>hsame.1 k (by simp[hk]))
 have h3:=ev_ok (P:=P) (T:=E) hG z 0
 rw[ev_congr (fun k hk=>hsame.1 k (by simp[hk])),hz] at h3
 have hv:=CVal.pureView (ob:=st.o) hp h3
 have hr':st'.s r=.hold sh ps (.mp kv ck):=by rw[hsame.1 r (by simp)]; exact hr
 obtain⟨es,h1,h2,h4⟩:=hold_mp hG hr'
 obtain⟨es',g1,g2⟩:=run_mapUpdate (k:=k) hT h1 h2 hv
 unfold Oper.wp
 have hrun:(execOp a.eval o).run P w=.ok .skip (setBlock w (G.ad r) (.map es'.toArray (if ghas k kv then ck else ck+1))):=by
  rcases hop with hop | hop<;>simp[execOp,hop,e1,e2,Sh.val,g1]
 rw[hrun]
 simp only[Oper.upon]
 rw[hdst,act_put_none]
 refine hnext _ _ ?_
 have hb0:=h1
 have:=R.setHold (hc:=.mp (gput k (c.pvw st.o) ck kv) (if ghas k kv then ck else ck+1)) (o':=.map es'.toArray (if ghas k kv then ck else ck+1)) G hG (by rw[hnt]; exact hrn) (by rw[hr']; rfl)
  ⟨es',by simp[setBlock,(Array.getElem?_eq_some_iff.1 h1).1],MapIs.frame (fun _ h=>h) (fun b hb=>by
   have:b≠G.ad r:=fun e=>hb.2 (.inl ⟨r,by rw[hr']; rfl,e⟩)
   simp[setBlock,Ne.symm this]) _ _ g2,h4.put k _⟩
 rw[hr'] at this
 simpa[St.app,updAll,aW,setH] using this
end
end
section
theorem valid_callIO0{P:Program}{nt:Nat}{o:Oper}{st:St}{d:Nat}{g:Operand}{args:Array Operand}{tys:Array TypeId}{f:FuncId}{T1:TypeId}{xs:List CV}{ob':Nat→Option (Nat×List PV)}
 (hop:o.op=.call { callee:=.value g,args:=args,argTypes:=tys }) (hdst:o.dst=some d) (hd:d<nt)
 (hg:ev P st T1 g=.val (.pv (.clo f []))) (hxs:argCVs P st args.toList tys.toList=xs) (hw:aB st.o xs=true) (hcl:CV.cleans xs=true) (hn:(av xs).Nodup) (hw2:aB ob' xs=true)
 (hsat:SatIO P f (aD st.o xs) (aD ob' xs) (.tup [])):
 Valid P nt o st { rs:=rd g++args.toList.flatMap rd,ro:=av xs,us:=[(d,.tup [])],uo:=(av xs).map fun c=>(c,ob' c) }:=by
 intro κ st' a w hnt hsame hfresh hR next Q hnext
 obtain⟨G,hG⟩:=hR
 obtain⟨hci,hcalls⟩:=hsat
 have hob:∀ (xs:List CV),(∀ n∈av xs,st'.o n=st.o n)→aB st'.o xs=aB st.o xs∧aK st'.o xs=aK st.o xs∧aD st'.o xs=aD st.o xs:=by
  intro xs hx
  have key:∀ x:CV,(∀ n∈x.names,st'.o n=st.o n)→x.whole st'.o=x.whole st.o∧x.pvw st'.o=x.pvw st.o∧x.pvo st'.o=x.pvo st.o:=by
   intro x
   refine CV.rec (motive_1:=fun x=>(∀ n∈x.names,st'.o n=st.o n)→x.whole st'.o=x.whole st.o∧x.pvw st'.o=x.pvw st.o∧x.pvo st'.o=x.pvo st.o)
    (motive_2:=fun xs=>(∀ n∈av xs,st'.o n=st.o n)→aB st'.o xs=aB st.o xs∧aK st'.o xs=aK st.o xs∧aD st'.o xs=aD st.o xs) ?_ ?_ ?_ ?_ ?_ ?_ x
   ·intro v _; exact⟨rfl,rfl,rfl⟩
   ·intro n h; have:=h n (by simp[CV.names]); exact⟨by simp[CV.whole,this],by simp[CV.pvw,this],by simp[CV.pvo,this]⟩
   ·intro fs ih h; have:=ih (by simpa[CV.names] using h); exact⟨by simpa[CV.whole] using this.1,by simp[CV.pvw,this.2.1],by simp[CV.pvo,this.2.2]⟩
   ·intro n _; exact⟨rfl,rfl,rfl⟩
   ·intro _; exact⟨rfl,rfl,rfl⟩
   ·intro y ys i1 i2 h
    have h1:=i1 (fun n hn=>h n (by simp[av,hn]))
    have h2:=i2 (fun n hn=>h n (by simp[av,hn]))
    exact⟨by simp[aB,h1.1,h2.1],by simp[aK,h1.2.1,h2.2.1],by simp[aD,h1.2.2,h2.2.2]⟩
  induction xs with
  | nil=>exact⟨rfl,rfl,rfl⟩
  | cons y ys ih=>
   have h1:=key y (fun n hn=>hx n (by simp[av,hn]))
   have h2:=ih (fun n hn=>hx n (by simp[av,hn]))
   exact⟨by simp[aB,h1.1,h2.1],by simp[aK,h1.2.1,h2.2.1],by simp[aD,h1.2.2,h2.2.2]⟩
 obtain⟨hw',hv',ho'⟩:=hob xs hsame.2
 have hwx:aB st'.o xs=true:=by rw[hw']; exact hw
 have hcv:=args_ok (P:=P) (st:=st) hG args.toList tys.toList (fun k hk=>hsame.1 k (by simp only[aT]; exact .inr hk)) (by rw[hxs]; exact hwx)
 rw[hxs] at hcv
 have hgv:=ev_ok (P:=P) (T:=T1) hG g 0
 rw[ev_congr (fun k hk=>hsame.1 k (by simp[hk])),hg] at hgv
 rcases hgv with⟨hgv,_⟩ | ⟨_,hgv,_⟩
 ·simp[CV.isAgg] at hgv
 simp only[RepCV,RepC] at hgv
 obtain⟨vals,hg1,_,hg3,_⟩:=hgv
 simp at hg1
 simp only[RepCs] at hg3
 obtain⟨rfl,_⟩:=hg3
 have hrun:(execOp a.eval o).run P w=.ok (.enter f (args.map a.eval)) w:=by
  simp[execOp,hop,resolve,hg1,Deferred.ofValue,invoke,run_callFunc hci]
 have harr:args.map a.eval=(args.toList.map a.eval).toArray:=by apply Array.ext'; simp
 have hlive:∀ c∈av xs,(st'.o c).isSome=true:=CV.namess_live _ hwx
 have hXlt:∀ b∈fps G.fp (av xs),b<w.heap.size:=by
  intro b hb
  obtain⟨c,hc,hm⟩:=mem_fps.1 hb
  obtain⟨p,hp⟩:=Option.isSome_iff_exists.1 (hlive c hc)
  exact((hG.objs c p.1 p.2 hp).2.2 b hm).2
 have hXn:(fps G.fp (av xs)).Nodup:=fps_nodup hG _ hn hlive
 have hNX:∀ b,Nof κ st' G w b→b∉fps G.fp (av xs):=by
  intro b hb hm
  obtain⟨c,hc,hm⟩:=mem_fps.1 hm
  obtain⟨p,hp⟩:=Option.isSome_iff_exists.1 (hlive c hc)
  exact hb.2 (.inr ⟨c,p,hp,hm⟩)
 have hown:=CVals.own (fun c sz es hc=>(hG.objs c sz es hc).1) hwx hcv
 rw[ho'] at hown
 unfold Oper.wp
 rw[hrun]
 simp only[Oper.upon]
 rw[harr]
 refine(hcalls w (Nof κ st' G w) _ _ (fun b hb=>⟨hb.lt hG,hNX b hb⟩) hXn hXlt hown).mono ?_
 rintro e w'' ⟨v,F,rfl,hk,hr,hFn,hF,hres⟩
 have hp:=CVals.inv (ob:=ob') xs _ F hcl hw2 hcv hr hn
 obtain⟨G',hhd,hG',hN'⟩:=hG.setObjs hlive hk hF hFn hp
 obtain⟨vs,rfl,hvs⟩:=hres
 simp only[RepVs] at hvs
 obtain⟨rfl,_⟩:=hvs
 rw[hdst]
 refine hnext _ _ ?_
 have:=R.set (sv:=.tup []) (v:=.tuple #[]) (d:=d) G' hG' (by rw[hnt]; exact hd) rfl ⟨[],rfl,by simp[CVals]⟩
 simpa[St.app,updAll,aW,updAll_setO] using this

theorem CallH.io0{P:Program}{nt:Nat}{st:St}{d ty:Nat}{pos:String}{af:Array Edge}{gd:Option (Nat×Bool)}{g:Operand}{as:List Operand}{ts:List TypeId}{K0:Rec→Prop}{f:FuncId}{v o c:List PV}{K:List Bool→PV→Prop}
 {args args':List PV} (xs:List CV) (ns:List (Nat×(Nat×List PV))) (h:SatIO P f args args' (.tup []))
 (hs:d<nt∧ev P st 0 g=.val (.pv (.clo f []))∧argCVs P st as ts=xs∧aB st.o xs=true∧CV.cleans xs=true∧(av xs).Nodup∧aB (mkO ns) xs=true∧args=aD st.o xs∧args'=aD (mkO ns) xs)
 (hK:K0 { rs:=rd g++as.flatMap rd,ro:=av xs,us:=[(d,.tup [])],uo:=(av xs).map fun c=>(c,mkO ns c) }):
 CallH P f v o c K (RecOk P nt st { dst:=some d,op:=.call { callee:=.value g,args:=⟨as⟩,argTypes:=⟨ts⟩ },type:=ty,pos:=pos,after:=af,guard:=gd } K0) .mk .mk:=by
 obtain⟨h1,h2,h3,h4,h5,h6,h7,h8,h9⟩:=hs
 subst h8; subst h9
 exact CallH.hatch ⟨_,valid_callIO0 (args:=⟨as⟩) (tys:=⟨ts⟩) rfl rfl h1 h2 h3 h4 h5 h6 h7 h,fresh_none rfl rfl,hK⟩
section
variable{P:Program}{nt:Nat}{st:St}{d r ty T T' E:Nat}{pos:String}{af:Array Edge}{gd:Option (Nat×Bool)}{K:Rec→Prop}{x y z:Operand}{α:Type}
/-- A call that is handed a map (or another handle): 'as1' before it, 'as2' behind it. -/
theorem HandH.call{g:Operand}(k:Nat)(as1 as2:List Operand){as:List Operand}{ts:List TypeId}{f:FuncId}(xs1 xs2:List CV)(ms:List Bool){hc:HC}{sh:Sh}{ps pre post:List PV}{x0 x':BV}{res:PV}
 (hsat:SatH P f pre post sh ps x0 x' res) (has:as=as1++x::as2) (hk:as1.length=k) (hpl:pre.length=k)
 (hs:d<nt∧ev P st 0 g=.val (.pv (.clo f []))∧hdl (ev P st 0 x)=some (r,sh,ps)∧(r==d)=false∧holdHC (st.s r)=some hc∧hc.isBV st.o x0∧okH (st.s r) (x'.hc (16*d))=true∧argCVs P st as1 ts=xs1∧argCVs P st as2 (ts.drop (k+1))=xs2∧aB st.o (xs1++xs2)=true∧
  (hc.names++mixNames ms (xs1++xs2)).Nodup∧mixPure ms (xs1++xs2)=true∧pre++post=mix ms (aK st.o (xs1++xs2)) (aD st.o (xs1++xs2)))
 (hK:(∀ n∈(x'.objs (16*d)++resObjs res (x'.hi (16*d))).map (·.1),st.noC n)∧K { rs:=r::(rd g++(as1++x::as2).flatMap rd),ro:=hc.names++av (xs1++xs2),fc:=(x'.objs (16*d)++resObjs res (x'.hi (16*d))).map (·.1),us:=[(r,setH (st.s r) (x'.hc (16*d))),(d,resSV res (x'.hi (16*d)))],uo:=deadObjs (hc.names++mixNames ms (xs1++xs2))++newObjs (x'.objs (16*d)++resObjs res (x'.hi (16*d))) }):
 HandH (RecOk P nt st { dst:=some d,op:=.call { callee:=.value g,args:=⟨as⟩,argTypes:=⟨ts⟩ },type:=ty,pos:=pos,after:=af,guard:=gd } K) .mk:=by
 subst has; subst hk
 obtain⟨h1,h2,h3,h4,h5,h6,h7,h8,h9,h10,h11,h12,h13⟩:=hs
 exact⟨_,valid_callA (T1:=0) (T2:=0) rfl rfl h1 h2 h3 h4 h5 h6 h7 h8 h9 h10 h11 (.inl h12) (by rw[h13,bj]) hpl (by simp) hsat,⟨by simp,hK.1⟩,hK.2⟩
end
/-! ### Rules -/
def argSK(k:Nat)(pre post:List PV)(sh:Sh)(ps:List PV)(x:BV):St:=
 ⟨upd (updV 0 (((explodes (pre++post) (x.hi 9000)).1.take k).map .val++holdSV sh ps (x.hc 9000)::((explodes (pre++post) (x.hi 9000)).1.drop k).map .val) (fun _=>.dead)) 20000 (gh k),
  updAll (fun _=>none) (newObjs (x.objs 9000++(explodes (pre++post) (x.hi 9000)).2.1))⟩
@[push_cast] theorem asRes_nil:asRes []=.tup []:=rfl
theorem argSK_eq(k:Nat)(pre post:List PV)(sh:Sh)(ps:List PV)(x:BV):argSK k pre post sh ps x=⟨upd (updV 0 (((explodes (pre++post) (x.hi 9000)).1.take k).map .val++holdSV sh ps (x.hc 9000)::((explodes (pre++post) (x.hi 9000)).1.drop k).map .val) (fun _=>.dead)) 20000 (gh k),
 updAll (fun _=>none) (newObjs (x.objs 9000++(explodes (pre++post) (x.hi 9000)).2.1))⟩:=rfl
theorem updV_nil(i:Nat)(f:Nat→SlotV):updV i [] f=f:=rfl
theorem updV_cons(i:Nat)(x:SlotV)(xs:List SlotV)(f:Nat→SlotV):updV i (x::xs) f=updV (i+1) xs (upd f i x):=rfl
theorem bvhc_pv(p:PV)(c:Nat):(BV.pv p).hc c=.cv (explode p c).1:=rfl
theorem bvhc_mp(kv:List MEnt)(ck c:Nat):(BV.mp kv ck).hc c=.mp kv ck:=rfl
theorem bvhi_pv(p:PV)(c:Nat):(BV.pv p).hi c=(explode p c).2.2:=rfl
theorem bvhi_mp(kv:List MEnt)(ck c:Nat):(BV.mp kv ck).hi c=c:=rfl
theorem bvobjs_pv(p:PV)(c:Nat):(BV.pv p).objs c=(explode p c).2.1:=rfl
theorem bvobjs_mp(kv:List MEnt)(ck c:Nat):(BV.mp kv ck).objs c=[]:=rfl
theorem holdSV_ptr(ps:List PV)(x:CV):holdSV .ptr ps (.cv x)=.box x:=rfl
theorem holdSV_clo(f:FuncId)(pat:List Bool)(ps:List PV)(x:CV):holdSV (.clo f pat) ps (.cv x)=.hold (.clo f pat) ps (.cv x):=rfl
theorem holdSV_mp(sh:Sh)(ps:List PV)(kv:List MEnt)(ck:Nat):holdSV sh ps (.mp kv ck)=.hold sh ps (.mp kv ck):=rfl
theorem holdHC_box(x:CV):holdHC (.box x)=some (.cv x):=rfl
theorem holdHC_hold(sh:Sh)(ps:List PV)(h:HC):holdHC (.hold sh ps h)=some h:=rfl
theorem hdl_hptr(r:Nat)(sh:Sh)(ps:List PV):hdl (.hptr r sh ps)=some (r,sh,ps):=rfl
theorem hdl_bptr(r:Nat):hdl (.bptr r [] 0)=some (r,.ptr,[]):=rfl
theorem isBV_cv(ob:Nat→Option (Nat×List PV))(y:CV)(x:BV):(HC.cv y).isBV ob x=(y.whole ob=true∧x=.pv (y.pvo ob)):=rfl
theorem isBV_mp(ob:Nat→Option (Nat×List PV))(kv:List MEnt)(ck:Nat)(x:BV):(HC.mp kv ck).isBV ob x=(x=.mp kv ck):=rfl
theorem hcn_cv(y:CV):(HC.cv y).names=y.names:=rfl
theorem hcn_mp(kv:List MEnt)(ck:Nat):(HC.mp kv ck).names=[]:=rfl
theorem setH_box(x y:CV):setH (.box x) (.cv y)=.box y:=rfl
theorem setH_hold(sh:Sh)(ps:List PV)(a b:HC):setH (.hold sh ps a) b=.hold sh ps b:=rfl
theorem okH_bx(x y:CV):okH (.box x) (.cv y)=true:=rfl
theorem okH_hold(sh:Sh)(ps:List PV)(a b:HC):okH (.hold sh ps a) b=true:=rfl
/-- The end. -/
def BxF(ob:Nat→Option (Nat×List PV))(ns:List Nat)(x':BV):SlotV→Prop
 | .box y=>y.whole ob=true∧(y.names++ns).Nodup∧x'=.pv (y.pvo ob)
 | .hold _ _ (.cv y)=>y.whole ob=true∧(y.names++ns).Nodup∧x'=.pv (y.pvo ob)
 | .hold _ _ (.mp kv clock)=>ns.Nodup∧x'=.mp kv clock
 | _=>False
theorem BxF_ok{st:St}{k:Nat}{ns:List Nat}{x':BV}(h:BxF st.o ns x' (st.s k)):BxFin st k ns x':=by
 unfold BxFin
 generalize st.s k=v at h
 cases v<;>simp only[BxF] at h
 ·exact h
 ·rename_i sh ps x
  cases x<;>first | exact h | exact h.elim
theorem BxF_box(ob:Nat→Option (Nat×List PV))(ns:List Nat)(x':BV)(y:CV):BxF ob ns x' (.box y)=(y.whole ob=true∧(y.names++ns).Nodup∧x'=.pv (y.pvo ob)):=rfl
theorem BxF_cv(ob:Nat→Option (Nat×List PV))(ns:List Nat)(x':BV)(y:CV)(sh:Sh)(ps:List PV):BxF ob ns x' (.hold sh ps (.cv y))=(y.whole ob=true∧(y.names++ns).Nodup∧x'=.pv (y.pvo ob)):=rfl
theorem BxF_mp(ob:Nat→Option (Nat×List PV))(ns:List Nat)(x':BV)(kv:List MEnt)(ck:Nat)(sh:Sh)(ps:List PV):BxF ob ns x' (.hold sh ps (.mp kv ck))=(ns.Nodup∧x'=.mp kv ck):=rfl
@[congr] theorem RetHB.cg {P:Program} {rs:List ResultVar} {res:PV} {k:Nat} {x':BV} {st st':St} (h:∀ _:Unit,st=st'):RetHB P st rs res k x'=RetHB P st' rs res k x':=by rw[h ()]
theorem RetHB.l{P:Program}{rs:List ResultVar}{res:PV}{k:Nat}{x':BV}{st:St}(h:st.s 20000=gh k∧aB st.o (resCVs P st rs)=true∧resOks P st rs∧res=asRes (aD st.o (resCVs P st rs))∧BxF st.o (av (resCVs P st rs)) x' (st.s k)):RetHB P st rs res k x':=
 ⟨h.1,h.2.1,h.2.2.1,.inl ⟨h.2.2.2.1,BxF_ok h.2.2.2.2⟩⟩
theorem hcren_mp(c c':Nat)(kv:List MEnt)(ck:Nat):HC.ren c c' (.mp kv ck)=.mp kv ck:=rfl
theorem hcren_it(c c' r a b:Nat)(l:List Nat):HC.ren c c' (.it r a l b)=.it r a l b:=rfl
theorem hcren_cv(c c':Nat)(x:CV):HC.ren c c' (.cv x)=.cv (x.ren c c'):=rfl
theorem ghren(c c' r:Nat)(h:(10500==c)=false):SlotV.ren c c' (gh r)=gh r:=by
 simp only[beq_eq_false_iff_ne] at h
 simp[gh,SlotV.ren,h]
attribute [push_cast] argSK_eq updV_nil updV_cons bvhc_pv bvhc_mp bvhi_pv bvhi_mp bvobjs_pv bvobjs_mp holdSV_ptr holdSV_clo holdSV_mp holdHC_box holdHC_hold hdl_hptr hdl_bptr isBV_cv isBV_mp hcn_cv hcn_mp setH_box setH_hold okH_bx okH_hold BxF_box BxF_cv BxF_mp List.take_succ_cons List.take_zero List.drop_succ_cons List.drop_zero aF List.map_nil List.take_nil List.drop_nil List.cons_append List.map_append hcren_mp false_and hcren_it hcren_cv ghren List.nil_append
end
section
section
variable{P:Program}{nt:Nat}{st:St}{d r ty T T' E:Nat}{pos:String}{af:Array Edge}{gd:Option (Nat×Bool)}{K:Rec→Prop}{x y z:Operand}{α:Type}
theorem HandH.makeMap(f:α→PV)(hd:d<nt)(hK:st.noR d∧K { fr:=[d],us:=[(d,.hold .mp [] (.mp (gmap f (GMap.empty:GMap α).es) (GMap.empty:GMap α).clock))] }):HandH (RecOk P nt st { dst:=some d,op:=.makeMap T none,type:=ty,pos:=pos,after:=af,guard:=gd } K) .mk:=
 ⟨_,valid_makeMap rfl rfl hd,⟨⟨fun n hn'=>by simp at hn'; exact hn'▸hK.1,by simp⟩,by simp⟩,hK.2⟩
theorem HandH.put{m:GMap α}{f:α→PV}{v0:α}{k:ByteArray}{sh:Sh}{ps:List PV}{c:CV}(hT:MapTy P T E)
 (hs:r<nt∧ev P st 0 x=.hptr r .mp []∧st.s r=.hold sh ps (.mp (gmap f m.es) m.clock)∧ev P st 0 y=.val (.pv (.lit (.string k)))∧ev P st E z=.val c∧c.pure=true∧c.pvw st.o=f v0)
 (hK:K { rs:=r::(rd x++rd y++rd z),us:=[(r,.hold sh ps (.mp (gmap f (m.put k v0).es) (m.put k v0).clock))] }):HandH (RecOk P nt st { dst:=none,op:=.mapUpdate T x y z,type:=ty,pos:=pos,after:=af,guard:=gd } K) .mk:=by
 obtain⟨h1,h2,h3,h4,h5,h6,h7⟩:=hs
 refine⟨_,valid_mapUpdate (.inl rfl) rfl h1 hT h2 h3 h4 h5 h6,fresh_none rfl rfl,?_⟩
 rw[h7,gmap_has,← gmap_put]; exact hK
end
end
section
open Go.ChangeMaps (setBlock)

section
variable{P:Program}{nt:Nat}{ops:Array Oper}{i:Nat}{st:St}{K:St→Prop}{α:Type}
end
/-! ### The loop -/
section
variable{P:Program}{nt:Nat}{F:St→Prop}{n:Nat}{st:St}{k:List Fr}{ε ρ σ:Type}{es:List ε}{f:ε→σ→Option (Flow ρ σ)}{ψ:ρ ⊕ σ→Prop}
def ordN(f:ε→σ→Option (Flow ρ σ))(ord:List ε)(i:Nat)(s:σ):Option (Flow ρ σ):=Option.bind ord[i]? fun e=>f e s
def RngI(es:List ε)(f:ε→σ→Option (Flow ρ σ))(ψ:ρ ⊕ σ→Prop)(pre:List ε)(s:σ):Prop:=
 (∃ rest,(pre++rest).Perm es)∧∀ ord:List ε,ord.Perm es→pre<+:ord→Run (Av.forN (ordN f ord) (ord.length-pre.length) pre.length s) ψ
theorem RngI.step{pre:List ε}{s s':σ}{key:ε→Nat}{e:ε}(h:RngI es f ψ pre s)(he:e∈es)(hn:key e∉pre.map key)
 (h':∀ ord:List ε,ord.Perm es→(pre++[e])<+:ord→Run (Av.forN (ordN f ord) (ord.length-(pre.length+1)) (pre.length+1) s') ψ):RngI es f ψ (pre++[e]) s':=by
 obtain⟨⟨rest,hp⟩,_⟩:=h
 have hm:e∈rest:=by
  have:=hp.symm.subset he
  rcases List.mem_append.1 this with h1 | h1
  ·exact absurd (List.mem_map.2 ⟨e,h1,rfl⟩) hn
  ·exact h1
 obtain⟨r1,r2,rfl⟩:=List.append_of_mem hm
 refine⟨⟨r1++r2,?_⟩,fun ord ho hpr=>by simpa using h' ord ho hpr⟩
 refine List.Perm.trans ?_ hp
 rw[List.append_assoc]
 exact List.Perm.append_left _ (by simpa using (List.perm_middle (a:=e) (l₁:=r1) (l₂:=r2)).symm)
end
end
section
theorem RepBV.sub{N N':Nat→Prop}{w:World}{b:Nat}{F:List Nat}{x:BV}(hN:∀ c,N c→N' c)(h:RepBV N w b F x):RepBV N' w b F x:=by
 cases x with
 | pv p=>
  obtain⟨cs,e,h1,h2⟩:=h
  exact⟨cs,e,h1,RepC.frame hN (fun _ _=>rfl) p cs F (fun _ _=>rfl) h2⟩
 | mp kv ck=>
  obtain⟨h1,es,h2,h3,h4⟩:=h
  exact⟨h1,es,h2,MapIs.frame hN (fun _ _=>rfl) kv es h3,h4⟩
theorem SatH.vw{P:Program}{f:FuncId}{pre post:List PV}{sh:Sh}{ps:List PV}{x x':BV}{res:PV}(h:SatH P f pre post sh ps x x' res):SatH P f pre post sh ps x x' res.view:=by
 refine⟨h.1,fun w N v1 v2 vals b Fx Fs hN hnd hlt hps hx hvs hv1=>(h.2 w N v1 v2 vals b Fx Fs hN hnd hlt hps hx hvs hv1).mono ?_⟩
 rintro e w' ⟨v,F,Fx',rfl,hk,hb,hr,hn,hF⟩
 have hna:=List.nodup_append.1 (List.nodup_cons.1 hn).2
 have up:∀ c,(N c∨((w.heap.size≤c∨c∈Fx++Fs)∧c<w'.heap.size∧c∉Fx'++F))→N c∨((w.heap.size≤c∨c∈Fx++Fs)∧c<w'.heap.size∧c∉Fx'++[]):=fun c hc=>hc.imp id fun g=>⟨g.1,g.2.1,fun hm=>g.2.2 (by rw[bj] at hm; exact List.mem_append_left _ hm)⟩
 refine⟨v,[],Fx',rfl,hk,RepBV.sub up hb,hr.demote up (fun c hc=>.inr ⟨(hF c (List.mem_append_right _ hc)).1,(hF c (List.mem_append_right _ hc)).2,fun hm=>?_⟩),?_,fun c hc=>hF c (by rw[bj] at hc; exact List.mem_append_left _ hc)⟩
 ·rw[bj] at hm
  exact hna.2.2 c hm c hc rfl
 ·rw[bj]
  exact List.nodup_cons.2 ⟨fun hm=>(List.nodup_cons.1 hn).1 (List.mem_append_left _ hm),hna.1⟩
end
section
section
variable{P:Program}{nt:Nat}{st:St}{d r ty:Nat}{pos:String}{af:Array Edge}{gd:Option (Nat×Bool)}{K:Rec→Prop}
end
end
section
def mpvOf(kv:List MEnt)(ck:Nat):PV:=.mpv (kv.map fun e=>(e.1,e.2.2)) (kv.map fun e=>e.2.1) ck
def GMap.pv{α:Type}(f:α→PV)(m:GMap α):PV:=mpvOf (gmap f m.es) m.clock
theorem GMap.pv_u{α:Type}(f:α→PV)(m:GMap α):GMap.pv f m=.mpv ((gmap f m.es).map fun e=>(e.1,e.2.2)) ((gmap f m.es).map fun e=>e.2.1) m.clock:=rfl
theorem explode_mpv(ks:List (ByteArray×Nat))(vs:List PV)(k c:Nat):explode (.mpv ks vs k) c=(.pv (.mpv ks vs k),[],c):=rfl
theorem view_mpv(ks:List (ByteArray×Nat))(vs:List PV)(k:Nat):(PV.mpv ks vs k).view=.mpv ks vs k:=rfl
theorem isAgg_mpv(ks:List (ByteArray×Nat))(vs:List PV)(k:Nat):(CV.pv (PV.mpv ks vs k)).isAgg=false:=rfl
theorem size_mpv(ks:List (ByteArray×Nat))(vs:List PV)(k:Nat):(PV.mpv ks vs k).size=1:=rfl
section
variable{N:Nat→Prop}{w:World}
theorem mrel_of:∀ {kv:List MEnt} {es:List MapEntry},MapIs N w kv es→∃ css,MRel (kv.map fun e=>(e.1,e.2.2)) (kv.map fun e=>e.2.1) es css∧RepCs N w (kv.map fun e=>e.2.1) css.flatten []
 | [],es,h=>by
  obtain rfl:es=[]:=h
  exact⟨[],trivial,by simp[RepCs]⟩
 | (k,p,s)::kv,es,h=>by
  obtain⟨e,es',rfl,hk,hb,hv,hr⟩:=h
  obtain⟨css,h1,h2⟩:=mrel_of hr
  have key:∃ c,RepC N w p c []∧(p.isAggB=true∧e.val=.agg c.toArray∨p.isAggB=false∧c=[e.val]):=by
   cases p with
   | agg fs=>obtain⟨cs,g1,g2⟩:=hv; exact⟨cs,by simpa only[RepC] using g2,.inl ⟨rfl,g1⟩⟩
   | _=>exact⟨[e.val],hv,.inr ⟨rfl,rfl⟩⟩
  obtain⟨c,g1,g2⟩:=key
  refine⟨c::css,⟨hk,hb,RepC.length _ _ _ g1,g2,h1⟩,?_⟩
  simp only[aF,RepCs,List.flatten_cons]
  exact⟨c,css.flatten,[],[],rfl,rfl,g1,h2⟩
theorem mrel_to:∀ {kv:List MEnt} {es:List MapEntry} {css:List (List Value)},MRel (kv.map fun e=>(e.1,e.2.2)) (kv.map fun e=>e.2.1) es css→RepCs N w (kv.map fun e=>e.2.1) css.flatten []→MapIs N w kv es
 | [],es,css,h,_=>by
  cases es with
  | nil=>rfl
  | cons e es=>exact h.elim
 | (k,p,s)::kv,es,css,h,hr=>by
  cases es with
  | nil=>exact h.elim
  | cons e es=>
   cases css with
   | nil=>exact h.elim
   | cons c css=>
    obtain⟨hk,hb,hl,hv,h⟩:=h
    simp only[aF,RepCs,List.flatten_cons] at hr
    obtain⟨c1,c2,F1,F2,e1,e2,g1,g2⟩:=hr
    obtain⟨rfl,rfl⟩:=List.append_eq_nil_iff.1 e2.symm
    obtain⟨rfl,rfl⟩:=List.append_inj e1 (by rw[hl,RepC.length _ _ _ g1])
    refine⟨e,es,rfl,hk,hb,?_,mrel_to h g2⟩
    cases p with
    | agg fs=>
     rcases hv with⟨_,hv⟩ | ⟨hv,_⟩
     ·exact⟨c,hv,by simpa only[RepC] using g1⟩
     ·cases hv
    | _=>
     rcases hv with⟨hv,_⟩ | ⟨_,hv⟩
     ·cases hv
     ·subst hv; exact g1
theorem repC_mpv{kv:List MEnt}{ck b:Nat}{es:List MapEntry}(hb:N b)(h1:w.heap[b]?=some (.map es.toArray ck))(h2:MapIs N w kv es)(h3:MapOk kv ck):RepC N w (mpvOf kv ck) [.map (some b)] []:=by
 obtain⟨css,g1,g2⟩:=mrel_of h2
 unfold mpvOf
 simp only[RepC]
 refine⟨b,es,css,rfl,trivial,hb,h1,g1,?_,?_,fun k hk=>?_,g2⟩
 ·rw[List.map_map]; exact h3.1
 ·rw[List.map_map]; exact h3.2.1
 ·obtain⟨e,he,rfl⟩:=List.mem_map.1 hk; exact h3.2.2 e he
theorem repC_mpv_inv{kv:List MEnt}{ck:Nat}{cs F}(h:RepC N w (mpvOf kv ck) cs F):∃ b,∃ es:List MapEntry,cs=[.map (some b)]∧w.heap[b]?=some (.map es.toArray ck)∧MapIs N w kv es:=by
 unfold mpvOf at h
 simp only[RepC] at h
 obtain⟨b,es,css,h1,h2,h3,h4,h5,h6,h7,h8,h9⟩:=h
 exact⟨b,es,h1,h4,mrel_to h5 h9⟩
end
section
variable{P:Program}{nt:Nat}{st:St}{d ty T T1 T2 E:Nat}{pos:String}{af:Array Edge}{gd:Option (Nat×Bool)}{K:Rec→Prop}{x y z:Operand}{o:Oper}{α:Type}
theorem valid_vlookupOk{kv:List MEnt}{ck:Nat}{k:ByteArray}{pz:PV}(hop:o.op=.lookup T x y true)(hdst:o.dst=some d)(hd:d<nt)(hT:MapTy P T E)(hx:ev P st T1 x=.val (.pv (mpvOf kv ck)))
 (hy:ev P st T2 y=.val (.pv (.lit (.string k)))) (hz:∃ i v,P.info? E=some i∧i.zero=some v∧∀ N w,RepV N w pz v []):Valid P nt o st { rs:=rd x++rd y,us:=[(d,.tup [.pv (gget pz k kv),.pv (.lit (.bool (ghas k kv)))])] }:=by
 refine valid_pure (rs:=rd x++rd y) (ro:=[]) hdst hd rfl ?_
 intro κ G st' a w _ hsame hG
 have e1:=ev_ok (P:=P) (T:=T1) hG x 0
 rw[ev_congr (fun k hk=>hsame.1 k (by simp[hk])),hx] at e1
 have e2:=ev_lit hG hy (fun k hk=>hsame.1 k (by simp[hk]))
 obtain⟨b,es,h0,h1,h2⟩:∃ b,∃ es:List MapEntry,[a.eval x]=[Value.map (some b)]∧w.heap[b]?=some (.map es.toArray ck)∧MapIs (Nof κ st' G w) w kv es:=by
  rcases e1 with⟨e1,_⟩ | ⟨_,e1,_⟩
  ·cases e1
  ·exact repC_mpv_inv e1
 have h0:a.eval x=.map (some b):=by simpa using h0
 obtain⟨i,v0,g1,g2,g3⟩:=hz
 obtain⟨v,g4,g5⟩:=run_lookup (k:=k) hT h1 h2 ⟨i,g1,g2⟩ (g3 _ _) true
 refine⟨.tuple #[v,.bool (ghas k kv)],by simp only[if_true] at g5; simp[execOp,hop,h0,e2,g5],[v,.bool (ghas k kv)],rfl,?_⟩
 simp only[CVals]
 exact⟨v,_,rfl,repV_pv g4,_,_,rfl,repV_pv (p:=.lit _) (by simp[RepV,RepC,Value.oneCell']),rfl⟩
theorem HandH.vlookupOk{m:GMap α}{f:α→PV}{z0:α}{k:ByteArray}(hT:MapTy P T E)(hz:∃ i v,P.info? E=some i∧i.zero=some v∧∀ N w,RepV N w (f z0) v [])
 (hs:d<nt∧ev P st 0 x=.val (.pv (GMap.pv f m))∧ev P st 0 y=.val (.pv (.lit (.string k))))
 (hK:K { rs:=rd x++rd y,us:=[(d,.tup [.pv (f (m.get k z0)),.pv (.lit (.bool (m.has k)))])] }):HandH (RecOk P nt st { dst:=some d,op:=.lookup T x y true,type:=ty,pos:=pos,after:=af,guard:=gd } K) .mk:=by
 obtain⟨h1,h2,h3⟩:=hs
 refine⟨_,valid_vlookupOk rfl rfl h1 hT h2 h3 hz,fresh_none rfl rfl,?_⟩
 rw[gmap_get,gmap_has]; exact hK
end
theorem repVs_ins{N N':Nat→Prop}{w:World}{p:PV}{v:Value}{post:List PV}{v2:List Value}(hN:∀ b,N b→N' b)(hp:RepV N' w p v []):∀ {pre:List PV} {v1:List Value} {Fs:List Nat},v1.length=pre.length→RepVs N w (pre++post) (v1++v2) Fs→RepVs N' w (pre++p::post) (v1++v::v2) Fs
 | [],v1,Fs,hl,h=>by
  obtain rfl:v1=[]:=List.length_eq_zero_iff.1 hl
  exact⟨v,v2,[],Fs,rfl,rfl,hp,repVs_frame hN (fun _ _=>rfl) (fun _ _=>rfl) h⟩
 | q::pre,v1,Fs,hl,h=>by
  cases v1 with
  | nil=>cases hl
  | cons u v1=>
   obtain⟨u',us,F1,F2,e1,e2,h3,h4⟩:=h
   cases e1
   exact⟨u,_,F1,F2,rfl,e2,h3.frame hN (fun _ _=>rfl) (fun _ _=>rfl),repVs_ins hN hp (Nat.succ.inj hl) h4⟩
/-- A function that looks at a map, called with one's own. -/
theorem SatH.ofMv{P:Program}{f:FuncId}{pre post:List PV}{kv:List MEnt}{ck:Nat}{res:PV}(h:Sat P f (pre++mpvOf kv ck::post) res)(hn:res.noView=true):SatH P f pre post .mp [] (.mp kv ck) (.mp kv ck) res:=by
 refine⟨h.1,fun w N v1 v2 vals b Fx Fs hN hnd hlt hps hx hvs hl=>?_⟩
 obtain⟨rfl,es,h1,h2,h3⟩:=hx
 obtain rfl:vals=[]:=by simpa only[RepCs,and_true] using hps
 have hb:b<w.heap.size:=hlt b (by simp)
 have hbF:b∉Fs:=by simpa using (List.nodup_cons.1 hnd).1
 have hNb:∀ c,N c→(fun c=>N c∨c=b) c:=fun c hc=>.inl hc
 have ha:=repVs_ins (N':=fun c=>N c∨c=b) (p:=mpvOf kv ck) (v:=.map (some b)) hNb (repC_mpv (.inr rfl) h1 (h2.frame hNb (fun _ _=>rfl)) h3) hl hvs
 refine(h.2 w (fun c=>N c∨c=b) _ Fs (fun c hc=>?_) (by simpa using (List.nodup_cons.1 hnd).2) (fun c hc=>hlt c (by simp[hc])) ha).mono ?_
 ·rcases hc with hc | rfl
  ·exact⟨(hN c hc).1,fun hm=>(hN c hc).2 (by simp[hm])⟩
  ·exact⟨hb,hbF⟩
 rintro e w' ⟨v,F,rfl,hk,hr,hF,hFb⟩
 have hw:∀ c,N c→w'.heap[c]?=w.heap[c]?:=fun c hc=>hk.block c (hN c hc).1 (fun hm=>(hN c hc).2 (by simp[hm]))
 have hbn:b∉F:=fun hm=>by
  rcases (hFb b hm).1 with h | h
  ·omega
  ·exact hbF h
 refine⟨v,F,[],rfl,⟨hk.os,hk.tape,hk.output,hk.size,fun k h4 h5=>hk.block k h4 (fun hm=>h5 (by simp[hm])),hk.drawn⟩,⟨rfl,es,(hk.block b hb hbF).trans h1,MapIs.frame (fun c hc=>.inl hc) hw kv es h2,h3⟩,hr.noView hn,by simpa using⟨hbn,hF⟩,fun c hc=>?_⟩
 simpa using hFb c (by simpa using hc)
end
end Go.Av
