/- Lemmas of the proof; each says what it shows. -/
import Derived.Test.YtnjgpibbjiofpaaGreatAvBn
set_option linter.unusedSimpArgs false
set_option linter.unusedVariables false
set_option linter.defProp false
namespace Go.Av
open Bool renaming and_eq_true→av
open List renaming all_eq_true→aW
open PV renaming noViews→aJ
section
def keptL(G:Gh)(ks:List Nat):List Nat:=ks.flatMap G.fp
theorem keptL_mem{G:Gh}{ks:List Nat}{b:Nat}:b∈keptL G ks↔∃ c∈ks,b∈G.fp c:=by simp[keptL,List.mem_flatMap]
structure FrzPOk(st st1:St)(ks:List Nat):Prop where
 kept:∀ c∈ks,c<10000∧∃ sz es,st.o c=some (sz,es)∧aJ es=true
 objs:∀ c,st1.o c=none∨(c∈ks∧st1.o c=st.o c)
 slots:∀ k,st1.s k=.dead∨(∃ x,st.s k=.val x∧x.whole st.o=true∧(∀ c∈x.names,c∉ks)∧st1.s k=.val (.pv (x.pvw st.o)))∨(st1.s k=st.s k∧keepV ks (st.s k)=true)
def frzP(κ:Ctx)(st:St)(G:Gh)(a:Act)(w:World)(ks:List Nat)(h:RG κ G st a w)(hk:∀ c∈ks,∃ sz es,st.o c=some (sz,es)):Ctx where
 w0:=w
 N:=fun b=>(Nof κ st G w b∨Priv st G b)∧b∉keptL G ks
 L:=keptL G ks
 nt:=κ.nt
 hN:=by
  rintro b ⟨hb | ⟨r,h1,rfl⟩ | ⟨c,p,h1,h2⟩,hn⟩
  ·exact⟨hb.lt h,hn⟩
  ·exact⟨(h.boxes r h1).2,hn⟩
  ·exact⟨((h.objs c p.1 p.2 h1).2.2 b h2).2,hn⟩
 hL:=by
  intro b hb
  obtain⟨c,hc,hb⟩:=keptL_mem.1 hb
  obtain⟨sz,es,e⟩:=hk c hc
  exact((h.objs c sz es e).2.2 b hb).2
theorem keepV_box{ns:List Nat}{v:SlotV}(h:keepV ns v=true):isBox v=false:=by cases v<;>first | rfl | (simp[keepV] at h)
theorem FrzPOk.has{st st1:St}{ks:List Nat}(h:FrzPOk st st1 ks):∀ c∈ks,∃ sz es,st.o c=some (sz,es):=fun c hc=>by
 obtain⟨_,sz,es,e,_⟩:=h.kept c hc; exact⟨sz,es,e⟩
theorem RG.frzP{κ:Ctx}{G:Gh}{st st1:St}{a:Act}{w:World}{ks:List Nat}(h:RG κ G st a w)(hf:FrzPOk st st1 ks):RG (Av.frzP κ st G a w ks h hf.has) G st1 a w:=by
 have nb:∀ r,isBox (st1.s r)=false:=fun r=>by
  rcases hf.slots r with e | ⟨x,_,_,_,e⟩ | ⟨e,e2⟩
  ·rw[e]; rfl
  ·rw[e]; rfl
  ·rw[e]; exact keepV_box e2
 have ob:∀ c p,st1.o c=some p→c∈ks∧st.o c=some p:=fun c p hc=>by
  rcases hf.objs c with e | ⟨e1,e2⟩
  ·rw[e] at hc; cases hc
  ·exact⟨e1,e2▸hc⟩
 have hN:∀ b,(Nof κ st G w b∨Priv st G b)∧b∉keptL G ks→Nof (Av.frzP κ st G a w ks h hf.has) st1 G w b:=fun b hb=>⟨.inl hb,by
  rintro (⟨r,h1,_⟩ | ⟨c,p,h1,h2⟩)
  ·rw[nb] at h1; cases h1
  ·exact hb.2 (keptL_mem.2 ⟨c,(ob c p h1).1,h2⟩)⟩
 have hv:∀ b,Nof κ st G w b→Nof (Av.frzP κ st G a w ks h hf.has) st1 G w b:=fun b hb=>hN b ⟨.inl hb,fun hm=>by
  obtain⟨c,hc,hm⟩:=keptL_mem.1 hm
  obtain⟨sz,es,e⟩:=hf.has c hc
  exact hb.2 (.inr ⟨c,_,e,hm⟩)⟩
 refine⟨KeepX.refl _ _ _,h.defers,h.nt,fun k=>?_,fun c sz es hc=>?_,fun r hr=>(by rw[nb] at hr; cases hr),fun r r' hr=>(by rw[nb] at hr; cases hr),fun r c p hr=>(by rw[nb] at hr; cases hr),
  fun c c' p p' h1 h2=>h.oo c c' p p' (ob c p h1).2 (ob c' p' h2).2,fun c v hc=>(by simp[Av.frzP] at hc)⟩
 ·have hs:=h.slots k
  rcases hf.slots k with e | ⟨x,e1,e2,e3,e⟩ | ⟨e,e2⟩
  ·rw[e]; trivial
  ·rw[e1] at hs
   rw[e]
   simp only[SlotOk]
   exact cval_pv (CVal.viewN hv (fun c sz es hm hc=>⟨(h.objs c sz es hc).1,fun b hb=>hN b ⟨.inr (.inr ⟨c,_,hc,hb⟩),fun hk=>by
    obtain⟨c2,hc2,hb2⟩:=keptL_mem.1 hk
    obtain⟨sz2,es2,e4⟩:=hf.has c2 hc2
    exact h.oo c c2 _ _ hc e4 (fun q=>e3 c hm (q▸hc2)) b hb hb2⟩⟩) e2 hs)
  ·rw[e]
   cases hk:st.s k with
   | val x=>
    rw[hk] at hs e2
    exact CVal.keep (fun _ _=>rfl) e2 hs
   | _=>rw[hk] at e2; simp[keepV] at e2
 ·obtain⟨g1,g2⟩:=ob c _ hc
  obtain⟨p1,p2,p3⟩:=h.objs c sz es g2
  obtain⟨_,sz',es',q1,q2⟩:=hf.kept c g1
  rw[g2] at q1
  cases q1
  exact⟨RepC.noView (N:=Nof κ st G w) _ _ _ (by simp[PV.noView,q2]) p1,p2,fun b hb=>⟨.inr (keptL_mem.2 ⟨c,g1,hb⟩),(p3 b hb).2⟩⟩
def keepW(ns:List Nat):SlotV→Bool
 | .val x=>x.keep ns
 | .eptr c _ _ _ _=>ns.contains c
 | _=>false
theorem keepW_box{ns:List Nat}{v:SlotV}(h:keepW ns v=true):isBox v=false:=by cases v<;>first | rfl | (simp[keepW] at h)
/-- The state behind the stretch. -/
structure ThawP(st st2 st3:St)(ds ns ks:List Nat):Prop where
 slots:∀ k,st3.s k=.dead∨(k∉ds∧st3.s k=st.s k∧∀ c∈ns,(st.s k).noC c=true)∨(st3.s k=st2.s k∧keepW ns (st2.s k)=true)
 objs:∀ c,st3.o c=none∨(c∉ns∧c∉ks∧st3.o c=st.o c)∨(c∈ns∧st3.o c=st2.o c)
 fresh:∀ c∈ns,c<10000
 news:∀ c∈ns,∃ sz es,st2.o c=some (sz,es)∧aJ es=true
theorem RG.thawP{κ:Ctx}{G G2:Gh}{st st1 st2 st3:St}{a a':Act}{w w':World}{ds ns ks:List Nat}(h:RG κ G st a w)(hf:FrzPOk st st1 ks)(k2:RG (Av.frzP κ st G a w ks h hf.has) G2 st2 a' w')(hfr:Fr0 ds a a')(ht:ThawP st st2 st3 ds ns ks):R κ st3 a' w':=by
 have hold:∀ b,b<w.heap.size→b∉keptL G ks→w'.heap[b]?=w.heap[b]?:=fun b hb hk=>k2.keep.block b hb hk
 have hsz:w.heap.size≤w'.heap.size:=k2.keep.size
 have h0:κ.w0.heap.size≤w.heap.size:=h.keep.size
 have hkp:∀ b,b∈keptL G ks→(κ.w0.heap.size≤b∨b∈κ.L)∧b<w.heap.size∧Priv st G b:=fun b hb=>by
  obtain⟨c,hc,hb⟩:=keptL_mem.1 hb
  obtain⟨sz,es,e⟩:=hf.has c hc
  have:=(h.objs c sz es e).2.2 b hb
  exact⟨this.1,this.2,.inr ⟨c,_,e,hb⟩⟩
 have hnew:∀ c∈ns,∀ b∈G2.fp c,(w.heap.size≤b∨b∈keptL G ks)∧b<w'.heap.size:=by
  intro c hc b hb
  obtain⟨sz,es,e1,_⟩:=ht.news c hc
  exact(k2.objs c sz es e1).2.2 b hb
 let G3:Gh:={ hd:=fun c=>if c∈ns then G2.hd c else G.hd c,fp:=fun c=>if c∈ns then G2.fp c else G.fp c,ad:=G.ad }
 have hd1:∀ c,c∈ns→G3.hd c=G2.hd c∧G3.fp c=G2.fp c:=fun c hc=>by simp[G3,hc]
 have hd0:∀ c,c∉ns→G3.hd c=G.hd c∧G3.fp c=G.fp c:=fun c hc=>by simp[G3,hc]
 have obj:∀ c p,st3.o c=some p→(c∉ns∧c∉ks∧st.o c=some p)∨(c∈ns∧st2.o c=some p):=by
  intro c p hc
  rcases ht.objs c with e | ⟨e1,e1',e2⟩ | ⟨e1,e2⟩
  ·rw[e] at hc; cases hc
  ·exact .inl ⟨e1,e1',e2▸hc⟩
  ·exact .inr ⟨e1,e2▸hc⟩
 have box:∀ r,isBox (st3.s r)=true→isBox (st.s r)=true∧r∉ds:=by
  intro r hr
  rcases ht.slots r with e | ⟨e1,e2,_⟩ | ⟨e2,e3⟩
  ·rw[e] at hr; cases hr
  ·exact⟨e2▸hr,e1⟩
  ·rw[e2,keepW_box e3] at hr; cases hr
 -- what is not kept is apart from it
 have apO:∀ c p,st.o c=some p→c∉ks→∀ b∈G.fp c,b∉keptL G ks:=fun c p hc hn b hb hk=>by
  obtain⟨c2,hc2,hb2⟩:=keptL_mem.1 hk
  obtain⟨sz2,es2,e4⟩:=hf.has c2 hc2
  exact h.oo c c2 _ _ hc e4 (fun q=>hn (q▸hc2)) b hb hb2
 have apB:∀ r,isBox (st.s r)=true→G.ad r∉keptL G ks:=fun r hr hk=>by
  obtain⟨c2,hc2,hb2⟩:=keptL_mem.1 hk
  obtain⟨sz2,es2,e4⟩:=hf.has c2 hc2
  exact h.bo r c2 _ hr e4 hb2
 have apN:∀ b,Nof κ st G w b→b∉keptL G ks:=fun b hb hk=>hb.2 (hkp b hk).2.2
 have hP:∀ b,Nof κ st G w b→Nof κ st3 G3 w' b:=by
  intro b hb
  have hlt:=hb.lt h
  refine⟨hb.1.imp id (fun g=>⟨g.1,by omega⟩),?_⟩
  rintro (⟨r,h1,h2⟩ | ⟨c,p,h1,h2⟩)
  ·exact hb.2 (.inl ⟨r,(box r h1).1,h2⟩)
  ·rcases obj c p h1 with⟨g1,_,g2⟩ | ⟨g1,g2⟩
   ·rw[(hd0 c g1).2] at h2; exact hb.2 (.inr ⟨c,p,g2,h2⟩)
   ·rw[(hd1 c g1).2] at h2
    rcases (hnew c g1 b h2).1 with q | q
    ·omega
    ·exact apN b hb q
 refine⟨G3,⟨h.keep.trans ⟨k2.keep.os,k2.keep.tape,k2.keep.output,hsz,fun b hb hl=>hold b (by omega) (fun hk=>by
  rcases (hkp b hk).1 with q | q
  ·omega
  ·exact hl q),k2.keep.drawn⟩,k2.defers,k2.nt,fun k=>?_,fun c sz es hc=>?_,fun r hr=>?_,fun r r' h1 h2=>?_,fun r c p h1 h2=>?_,fun c c' p p' h1 h2 hne=>?_,fun c v hc=>?_⟩⟩
 ·rcases ht.slots k with e | ⟨e1,e2,e3⟩ | ⟨e2,e3⟩
  ·rw[e]; trivial
  ·rw[e2,hfr k e1]
   refine SlotOk.frame (G:=G) (G':=G3) hP (fun b hb=>hold b (hb.lt h) (apN b hb)) (fun c hc=>?_) (fun _ _=>rfl) (fun hb=>⟨rfl,hold _ (h.boxes k hb).2 (apB k hb)⟩) (h.slots k)
   by_cases hcn:c∈ns
   ·rw[e3 c hcn] at hc; cases hc
   ·exact(hd0 c hcn).1
  ·rw[e2]
   have hs:=k2.slots k
   cases hs2:st2.s k with
   | val x=>
    rw[hs2] at hs e3
    exact CVal.keep (fun c hc=>(hd1 c hc).1) e3 hs
   | eptr c sz i p off=>
    rw[hs2] at hs e3
    obtain⟨b,n,cap,e4,e5⟩:=hs
    exact⟨b,n,cap,((hd1 c (by simpa[keepW] using e3)).1).trans e4,e5⟩
   | _=>rw[hs2] at e3; simp[keepW] at e3
 ·rcases obj c _ hc with⟨g1,g1',g2⟩ | ⟨g1,g2⟩
  ·obtain⟨p1,p2,p3⟩:=h.objs c sz es g2
   rw[(hd0 c g1).1,(hd0 c g1).2]
   exact⟨RepC.frame hP (fun b hb=>hold b (hb.lt h) (apN b hb)) _ _ _ (fun b hb=>hold b (p3 b hb).2 (apO c _ g2 g1' b hb)) p1,p2,fun b hb=>⟨(p3 b hb).1,by have:=(p3 b hb).2; omega⟩⟩
  ·obtain⟨p1,p2,p3⟩:=k2.objs c sz es g2
   obtain⟨sz',es',q1,q2⟩:=ht.news c g1
   rw[g2] at q1
   cases q1
   rw[(hd1 c g1).1,(hd1 c g1).2]
   exact⟨RepC.noView (N:=Nof (Av.frzP κ st G a w ks h hf.has) st2 G2 w') _ _ _ (by simp[PV.noView,q2]) p1,p2,fun b hb=>by
    obtain⟨q3,q4⟩:=hnew c g1 b hb
    refine⟨?_,q4⟩
    rcases q3 with q3 | q3
    ·exact .inl (by omega)
    ·exact(hkp b q3).1⟩
 ·have:=h.boxes r (box r hr).1
  exact⟨this.1,by have:=this.2; simp only[G3]; omega⟩
 ·exact h.bb r r' (box r h1).1 (box r' h2).1
 ·rcases obj c p h2 with⟨g1,_,g2⟩ | ⟨g1,g2⟩
  ·rw[(hd0 c g1).2]; exact h.bo r c p (box r h1).1 g2
  ·rw[(hd1 c g1).2]
   intro hm
   have h4:=(h.boxes r (box r h1).1).2
   rcases (hnew c g1 _ hm).1 with q | q
   ·simp only[G3] at q; omega
   ·exact apB r (box r h1).1 q
 ·rcases obj c p h1 with⟨g1,g1',g2⟩ | ⟨g1,g2⟩<;>rcases obj c' p' h2 with⟨g3,g3',g4⟩ | ⟨g3,g4⟩
  ·rw[(hd0 c g1).2,(hd0 c' g3).2]; exact h.oo c c' p p' g2 g4 hne
  ·rw[(hd0 c g1).2,(hd1 c' g3).2]
   intro b hb hb'
   have h4:=((h.objs c p.1 p.2 g2).2.2 b hb).2
   rcases (hnew c' g3 b hb').1 with q | q
   ·omega
   ·exact apO c p g2 g1' b hb q
  ·rw[(hd1 c g1).2,(hd0 c' g3).2]
   intro b hb hb'
   have h4:=((h.objs c' p'.1 p'.2 g4).2.2 b hb').2
   rcases (hnew c g1 b hb).1 with q | q
   ·omega
   ·exact apO c' p' g4 g3' b hb' q
  ·rw[(hd1 c g1).2,(hd1 c' g3).2]; exact k2.oo c c' p p' g2 g4 hne
 ·have hcn:c∉ns:=fun hm=>by have:=κ.hH c v hc; have:=ht.fresh c hm; omega
  rw[(hd0 c hcn).1]; exact h.held c v hc
/-! ### Regions -/
section
variable{P:Program}{nt:Nat}{ops:Array Oper}{st st1:St}{Q:Exit→St→Prop}{ds ks:List Nat}
/-- A region that only looks at what is lent. -/
theorem VC.frzP{id:Nat}(hf:FrzPOk st st1 ks)(hds:∀ o∈ops.toList,∀ x,o.dst=some x→x∈ds)
 (h:wpD P nt ops ops.toList st1 [] (fun _ st2=>∃ st3 ns,ThawP st st2 st3 ds ns ks∧Q .normal st3)):VC P nt (.region id ops false) st Q:=by
 intro κ a w hnt hR Qc hQ
 obtain⟨G,hG⟩:=hR
 obtain⟨recs,st2,ht,hl,st3,ns,hth,hK⟩:=wpD_ok ops.toList 0 st1 [] (by simp) h
 refine wp_region ?_
 have:=ht.seqF (ds:=ds) (Q:=Qc) (Av.frzP κ st G a w ks hG hf.has) a a w hnt ⟨G,hG.frzP hf⟩ (fun j _ _ o ho=>hds o (List.mem_of_getElem? (by simpa using ho))) (Fr0.refl _ _) (fun a' w' hR' hfr=>by
  obtain⟨G2,hG2⟩:=hR'
  exact hQ _ _ _ _ hK (hG.thawP hf hG2 hfr hth))
 rw[hl] at this
 rwa [List.range_eq_range',← Array.length_toList]
/-- .. in any order, but for its last operation, which waits for all others. -/
theorem VC.frzDP{id n:Nat}{o:Oper}(hm:P.follows .mixedOrders=true)(hf:FrzPOk st st1 ks)(hn:ops.size=n+1)(ho:ops[n]?=some o)(hlast:∀ i,i<n→depN ops 20 n i=true)(hds:∀ o∈ops.toList.take n,∀ x,o.dst=some x→x∈ds)
 (h:wpD P nt ops (ops.toList.take n) st1 [] (fun recs st2=>DrawOk ops st1 recs∧∃ st3 ns,ThawP st st2 st3 ds ns ks∧stepG P nt ops st3 o fun r=>Q .normal (st3.app r))):VC P nt (.region id ops true) st Q:=by
 intro κ a w hnt hR Qc hQ
 obtain⟨G,hG⟩:=hR.drew
 have hpre:∀ (os:List Oper) (st:St) (acc:List Rec) (K:List Rec→St→Prop) (i:Nat),(∀ j,j<os.length→os[j]?=ops[i+j]?)→wpD P nt ops os st acc K→∃ recs st',Traj P nt ops i st recs st'∧recs.length=os.length∧K (acc.reverse++recs) st':=by
  intro os
  induction os with
  | nil=>intro st acc K i _ h; exact⟨[],st,.nil i st,rfl,by simpa[wpD] using h⟩
  | cons o os ih=>
   intro st acc K i ho h
   simp only[wpD] at h
   obtain⟨r,h1,h2,h3⟩:=stepG_ok (i:=i) (by simpa using (ho 0 (by simp)).symm) h
   obtain⟨recs,st',g1,g2,g3⟩:=ih (st.app r) (r::acc) K (i+1) (fun j hj=>by have:=ho (j+1) (by simp only[List.length_cons]; omega); simpa[Nat.add_assoc,Nat.add_comm 1 j] using this) h3
   exact⟨r::recs,st',.cons h1 h2 g1,by simp[g2],by simpa using g3⟩
 obtain⟨recs,st2,ht,hl,hok,st3,ns,hth,hK⟩:=hpre _ st1 [] _ 0 (fun j hj=>by
  rw[List.length_take,Array.length_toList] at hj
  rw[List.getElem?_take_of_lt (by omega),Array.getElem?_toList,Nat.zero_add]) h
 have hlen:recs.length=n:=by rw[hl,List.length_take,Array.length_toList]; omega
 refine wp_region_any hm (any_frz (ds:=ds) ht hlen hn (by simpa using hok) hlast (fun i hi o' ho'=>hds o' (List.mem_of_getElem? (i:=i) (by rw[List.getElem?_take_of_lt hi,Array.getElem?_toList]; exact ho'))) (Av.frzP κ st G a _ ks hG hf.has) hnt a (fun a' w' hR' hfr=>?_) _ _ _ _ (by simp) (by simp[List.count_replicate]) (fun i hi=>?_) ?_ (Fr0.refl _ _) ?_)
 ·obtain⟨G2,hG2⟩:=hR'
  have h3:=hG.thawP hf hG2 hfr hth
  obtain⟨r,k1,k2,k3⟩:=stepG_ok (i:=n) ho hK
  exact k1 κ _ a' w' hnt (Rec.same_refl _ _) k2 h3 _ _ (fun a'' w'' hR''=>hQ _ _ _ _ k3 hR'')
 ·simp[Array.getD_eq_getD_getElem?,Array.getElem?_replicate] at hi
  split at hi<;>simp at hi
 ·simp only[Array.getD_eq_getD_getElem?,Array.getElem?_replicate]
  split<;>rfl
 ·have:appS st1 0 recs (fun m=>(Array.replicate ops.size false).getD m false)=st1:=by
   have h0:∀ (rs:List Rec) (i:Nat) (s:St) (S:Nat→Bool),(∀ m,S m=false)→appS s i rs S=s:=by
    intro rs; induction rs with
    | nil=>intros; rfl
    | cons q qs ih=>intro i s S hS; simp only[appS,hS i]; simpa using ih (i+1) s S hS
   refine h0 _ _ _ _ (fun m=>?_)
   simp only[Array.getD_eq_getD_getElem?,Array.getElem?_replicate]
   split<;>rfl
  rw[this]
  exact⟨G,hG.frzP hf⟩
end
/-! ### Their forms for scripts -/
def FrzPE(st:St)(ks:List Nat):SlotV→SlotV→Prop
 | .val x,v=>x.whole st.o=true∧(x.names.all fun c=>!ks.contains c)=true∧SlotV.val (.pv (x.pvw st.o))=v
 | _,_=>False
def FrzPL(st:St)(ks:List Nat):List (Nat×SlotV)→Prop
 | []=>True
 | (k,v)::l=>FrzPE st ks (st.s k) v∧FrzPL st ks l
theorem FrzPL.mem{st:St}{ks:List Nat}:∀ {l:List (Nat×SlotV)},FrzPL st ks l→∀ {k v},(k,v)∈l→FrzPE st ks (st.s k) v
 | (j,u)::l,h,k,v,hm=>by
  rcases List.mem_cons.1 hm with e | hm
  ·cases e; exact h.1
  ·exact FrzPL.mem h.2 hm
theorem FrzPOk.mk'{st:St}{ks:List Nat}{S1 S2:List (Nat×SlotV)}{O:List (Nat×(Nat×List PV))}(h:FrzPL st ks S1∧OldS st S2∧ObjS st O∧ObjV O)(h2:(S2.all fun x=>keepV ks x.2)=true)(hk:O.map (·.1)=ks)(hl:(ks.all fun c=>decide (c<10000))=true):FrzPOk st ⟨mkS (S1++S2),mkO O⟩ ks:=by
 rw[aW] at h2 hl
 refine⟨fun c hc=>⟨by simpa using hl c hc,?_⟩,fun c=>?_,fun k=>?_⟩
 ·rw[← hk] at hc
  obtain⟨x,hx,rfl⟩:=List.mem_map.1 hc
  exact⟨x.2.1,x.2.2,h.2.2.1.mem hx,h.2.2.2.mem hx⟩
 ·rcases mkO_mem (S:=O) c with e | ⟨p,e,hm⟩
  ·exact .inl e
  ·refine .inr ⟨?_,by show mkO _ c=_; rw[e,h.2.2.1.mem hm]⟩
   rw[← hk]; exact List.mem_map.2 ⟨_,hm,rfl⟩
 ·rcases mkS_mem (S:=S1++S2) k with e | hm
  ·exact .inl e
  ·rcases List.mem_append.1 hm with hm | hm
   ·have:=h.1.mem hm
    unfold FrzPE at this
    split at this
    ·rename_i x hs
     refine .inr (.inl ⟨x,hs,this.1,fun c hc=>?_,this.2.2.symm⟩)
     have:=List.all_eq_true.1 this.2.1 c hc
     simpa using this
    ·exact this.elim
   ·have e:=h.2.1.mem hm
    exact .inr (.inr ⟨e.symm,by rw[e]; exact h2 _ hm⟩)
def ThawPH(st st2:St)(ds ks:List Nat)(K:St→Prop)(_:Tok K)(_:Tok st):Prop:=∃ st3 ns,ThawP st st2 st3 ds ns ks∧K st3
@[congr] theorem ThawPH.cg {st st2 st2':St} {ds ks:List Nat} {K:St→Prop} (h:∀ _:Unit,st2=st2'):ThawPH st st2 ds ks K .mk .mk=ThawPH st st2' ds ks K .mk .mk:=by rw[h ()]
/-- Behind the stretch: old slots A, new ones B; old objects C, new and kept ones D. -/
theorem ThawPH.mk{st st2:St}{ds ks:List Nat}{K:St→Prop}(A B:List (Nat×SlotV))(C D:List (Nat×(Nat×List PV)))(ns:List Nat)(h1:OldS st A∧ObjS st C)(h2:OldS st2 B∧ObjS st2 D∧ObjV D)
 (hK:K ⟨mkS (A++B),mkO (C++D)⟩) (hA:(A.all fun x=>!ds.contains x.1&&ns.all fun c=>x.2.noC c)=true:=by rfl) (hB:(B.all fun x=>keepW ns x.2)=true:=by rfl) (hC:(C.all fun x=>!ns.contains x.1&&!ks.contains x.1)=true:=by rfl) (hD:D.map (·.1)=ns:=by rfl) (hl:(ns.all fun c=>decide (c<10000))=true:=by rfl):ThawPH st st2 ds ks K .mk .mk:=by
 rw[aW] at hA hB hC hl
 refine⟨_,ns,⟨fun k=>?_,fun c=>?_,fun c hc=>by simpa using hl c hc,fun c hc=>?_⟩,hK⟩
 ·rcases mkS_mem (S:=A++B) k with h | h
  ·exact .inl h
  ·rcases List.mem_append.1 h with h | h
   ·have h3:=hA _ h
    simp only[av] at h3
    have e:=h1.1.mem h
    exact .inr (.inl ⟨by simpa using h3.1,e.symm,fun c hc=>by rw[e]; exact List.all_eq_true.1 h3.2 c hc⟩)
   ·have h3:=hB _ h
    have e:=h2.1.mem h
    exact .inr (.inr ⟨e.symm,by rw[e]; exact h3⟩)
 ·rcases mkO_mem (S:=C++D) c with h | ⟨p,h,hm⟩
  ·exact .inl h
  ·rcases List.mem_append.1 hm with hm | hm
   ·have h3:=hC _ hm
    simp only[av] at h3
    exact .inr (.inl ⟨by simpa using h3.1,by simpa using h3.2,by show mkO _ c=_; rw[h,h1.2.mem hm]⟩)
   ·refine .inr (.inr ⟨?_,by show mkO _ c=_; rw[h,h2.2.1.mem hm]⟩)
    rw[← hD]; exact List.mem_map.2 ⟨_,hm,rfl⟩
 ·rw[← hD] at hc
  obtain⟨x,hx,rfl⟩:=List.mem_map.1 hc
  exact⟨x.2.1,x.2.2,h2.2.1.mem hx,h2.2.2.mem hx⟩
section
variable{P:Program}{nt n id:Nat}{F:St→Prop}{st:St}{k:List Fr}{l:List Oper}
theorem MgF.frzP(S1 S2:List (Nat×SlotV))(O:List (Nat×(Nat×List PV)))(ds ks:List Nat)(hf:FrzPL st ks S1∧OldS st S2∧ObjS st O∧ObjV O)
 (h:wpD P nt ⟨l⟩ l ⟨mkS (S1++S2),mkO O⟩ [] (fun _ st2=>ThawPH st st2 ds ks (fun st3=>MgF P nt F n .nrm st3 k) .mk .mk))
 (h2:(S2.all fun x=>keepV ks x.2)=true:=by rfl) (hk:O.map (·.1)=ks:=by rfl) (hl:(ks.all fun c=>decide (c<10000))=true:=by rfl) (hds:(l.all fun o=>o.dst.toList.all fun x=>ds.contains x)=true:=by rfl):MgF P nt F (n+1) (.code (.region id ⟨l⟩ false)) st k:=by
 rw[aW] at hds
 refine VC.mono (VC.frzP (Q:=onlyN fun st'=>MgF P nt F n .nrm st' k) (ds:=ds) (FrzPOk.mk' hf h2 hk hl) (fun o ho x hx=>?_) h) (fun e st' hq=>by cases e<;>first | exact MgF.sound n .nrm st' k hq | exact hq.elim)
 have:=hds o ho
 rw[hx] at this
 simpa using this
theorem MgF.frzDP(S1 S2:List (Nat×SlotV))(O:List (Nat×(Nat×List PV)))(ds ks:List Nat)(m:Nat){l':List Oper}{o:Oper}(hm:P.follows .mixedOrders=true)(hf:FrzPL st ks S1∧OldS st S2∧ObjS st O∧ObjV O)(hl1:l.take m=l')(ho:l[m]?=some o)
 (h:wpD P nt ⟨l⟩ l' ⟨mkS (S1++S2),mkO O⟩ [] (fun recs st2=>DrawH ⟨l⟩ ⟨mkS (S1++S2),mkO O⟩ recs .mk .mk .mk∧ThawPH st st2 ds ks (fun st3=>stepG P nt ⟨l⟩ st3 o fun r=>MgF P nt F n .nrm (st3.app r) k) .mk .mk))
 (h2:(S2.all fun x=>keepV ks x.2)=true:=by rfl) (hk:O.map (·.1)=ks:=by rfl) (hl:(ks.all fun c=>decide (c<10000))=true:=by rfl)
 (hn:l.length=m+1:=by rfl) (hlast:((List.range m).all fun i=>depLN l 20 m i)=true:=by rfl) (hds:(l'.all fun o=>o.dst.toList.all fun x=>ds.contains x)=true:=by rfl):MgF P nt F (n+1) (.code (.region id ⟨l⟩ true)) st k:=by
 subst hl1
 rw[aW] at hds hlast
 refine VC.mono (VC.frzDP (Q:=onlyN fun st'=>MgF P nt F n .nrm st' k) (ds:=ds) (n:=m) (o:=o) hm (FrzPOk.mk' hf h2 hk hl) (by simpa using hn) (by simpa using ho) (fun i hi=>by rw[depLN_eq]; exact hlast i (by simpa using hi)) (fun o ho x hx=>?_) h) (fun e st' hq=>by cases e<;>first | exact MgF.sound n .nrm st' k hq | exact hq.elim)
 have:=hds o ho
 rw[hx] at this
 simpa using this
end
theorem FrzPE_val(st:St)(ks:List Nat)(x:CV)(v:SlotV):FrzPE st ks (.val x) v=(x.whole st.o=true∧(x.names.all fun c=>!ks.contains c)=true∧SlotV.val (.pv (x.pvw st.o))=v):=rfl
theorem FrzPL_n(st:St)(ks:List Nat):FrzPL st ks []=True:=rfl
theorem FrzPL_c(st:St)(ks:List Nat)(k:Nat)(v:SlotV)(l:List (Nat×SlotV)):FrzPL st ks ((k,v)::l)=(FrzPE st ks (st.s k) v∧FrzPL st ks l):=rfl
theorem noViews_set{l:List PV}{i:Nat}{x:PV}(h1:aJ l=true)(h2:x.noView=true):aJ (l.set i x)=true:=by
 induction l generalizing i with
 | nil=>rfl
 | cons y l ih=>
  simp only[aJ,av] at h1
  cases i with
  | zero=>simp only[List.set_cons_zero,aJ,av]; exact⟨h2,h1.2⟩
  | succ i=>simp only[List.set_cons_succ,aJ,av]; exact⟨h1.1,ih h1.2⟩
attribute [push_cast] noViews_set
attribute [push_cast] FrzPE_val FrzPL_n FrzPL_c
end
section
section
variable{P:Program}{nt:Nat}{ops:Array Oper}{i:Nat}{st:St}{K:St→Prop}
theorem VSeq.split(c j c' s:Nat)(p:List Nat){sz sz':Nat}{es es':List PV}(es1:Value→List PV)(he:∀ v,es.set j ((es.getD j default).setAt p (.lit v))=es1 v)(hc:st.o c=some (sz,es)∧st.s s=.dead)(hq:j<es.length∧(es.getD j default).okp p=true∧(es.getD j default).at p=.sl true sz' es')(hs:nt≤s)
 (h:st.noC c'∧∀ v,VSeq P nt ops i ⟨upd st.s s (hdS c' v),upd (upd st.o c (some (sz,es1 v))) c' (some (sz',es'))⟩ K):VSeq P nt ops i st K:=by
 intro κ a w hnt hR
 obtain⟨G,hG⟩:=hR
 obtain⟨v,hR'⟩:=hG.split hc.1 hq.1 hq.2.1 hq.2.2 h.1 (by rw[hnt]; exact hs) hc.2
 rw[he v] at hR'
 exact h.2 v κ a w hnt hR'
end
/-- An element that was put there just now. -/
theorem EldH.at{es:List PV}{j:Nat}{a:PV}{K:PV→Prop}(h:j<es.length)(ha:es.getD j default=a)(hK:K a):EldH es j K .mk:=⟨h,by rw[ha]; exact hK⟩
end
section
theorem VSeq.takeX{P:Program}{nt:Nat}{ops:Array Oper}{i:Nat}{st:St}{K:St→Prop}{o:Oper}{x:Operand}{T:TypeId}{d c sz:Nat}{α:Type}{fx:α→PV}{xs:List α}{e:Int}{y:α}(row:PV)(hidx:idx xs e=some y)
 (ho:ops[i]?=some o) (hg:o.guard=none) (hop:o.op=.load T x) (hdst:o.dst=some d) (hrw:fx y=row) (hsz:row.size=sz)
 (hs:d<nt∧ev P st 0 x=.eptr c sz e.toNat [] 0∧st.o c=some (sz,xs.map fx)∧TyIs P T (explode row (16*d)).1.isAgg (explode row (16*d)).1.size) (hgo:∀ n,(explode row (16*d)).1≠.gone n)
 (h:(∀ n∈(explode row (16*d)).2.1.map (·.1),st.noC n)∧∀ q:PV,q.size=sz→VSeq P nt ops (i+1) ⟨upd st.s d (.val (explode row (16*d)).1),updAll (upd st.o c (some (sz,(xs.map fx).set e.toNat q))) (newObjs (explode row (16*d)).2.1)⟩ K):VSeq P nt ops i st K:=by
 obtain⟨hd,hx,hc,hT⟩:=hs
 obtain⟨h1,h2,h3⟩:=idx_some hidx
 have hl:e.toNat<xs.length:=by omega
 refine VSeq.take row ho hg hop hdst hd hx hc (by rw[List.length_map]; exact hl) ?_ hT hgo h.1 fun cs=>h.2 _ (by rw[size_junk]; exact hsz)
 rw[← hrw]
 simp[List.getD,h3]
theorem IdxH.hole{α:Type}{f:α→PV}{xs:List α}{x:α}{es:List PV}{e:Int}{j:Nat}{q:PV}{K:PV→Prop}(h:idx xs e=some x)(he:es=(xs.map f).set j q)(hK:∀ p,K p):IdxH es e K .mk:=by
 obtain⟨h1,h2,h3⟩:=idx_some h
 subst he
 exact⟨⟨h1,by simpa using h2⟩,hK _⟩
theorem EldH.hole{α:Type}{f:α→PV}{xs:List α}{x:α}{es:List PV}{e:Int}{i j:Nat}{q:PV}{K:PV→Prop}(h:idx xs e=some x)(hi:i=e.toNat)(he:es=(xs.map f).set j q)(hj:j=e.toNat)(hK:K q):EldH es i K .mk:=by
 obtain⟨h1,h2,h3⟩:=idx_some h
 subst he; subst hi; subst hj
 refine⟨by simp; omega,?_⟩
 have:((xs.map f).set e.toNat q).getD e.toNat default=q:=by
  rw[List.getD_eq_getElem?_getD,List.getElem?_set_self (by simp; omega)]; rfl
 rw[this]; exact hK
theorem set_setP(l:List PV)(i:Nat)(a b:PV):(l.set i a).set i b=l.set i b:=List.set_set ..
attribute [push_cast] set_setP
/-- A nil slice is seen as a view. -/
theorem St.le_nvB{st:St}{x:CV}(j:Nat)(p:List Nat)(sz:Nat)(hk:st.s j=.box x)(hp:x.okp p=true)(ha:x.at p=.pv (.sl true sz [])):st.le ⟨upd st.s j (.box (x.setAt p (.pv (.sl false sz [])))),st.o⟩:=by
 refine St.le_slot j _ (by rw[hk]; rfl) fun N w G v h=>?_
 rw[hk] at h
 exact(slot_turn (z:=.pv (.sl false sz [])) hp ha (fun cs hcs=>by rw[nil_rep hcs]; simp only[RepCV,RepC]; exact⟨none,0,rfl,trivial,Nat.le_refl _,Nat.zero_le _,(fun _ h=>nomatch h),.inl trivial⟩) rfl).1 h
end
end Go.Av
