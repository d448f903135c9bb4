/- A part of the proof: lemmas only; nothing is claimed here beyond what each lemma says. -/
/- A call, by its contract; a closure that is made. -/
import Derived.Test.YtkoghcphkdecoaaGreatAv5
set_option linter.unusedSimpArgs false
set_option linter.unusedVariables false
set_option linter.defProp false
namespace Go.Av
open Bool renaming and_eq_true→aD
open CV renaming names→bt,whole→bc,wholes→aE,namess→aB,pvws→aO
open List renaming mem_append→aV

mutual
def CV.pvo(ob:Nat→Option (Nat×List PV)):CV→PV
 | .pv v=>v
 | .own c=>match ob c with
  | some (sz,es)=>.sl true sz es
  | none=>.tup []
 | .node fs=>.agg (CV.pvos ob fs)
 | .gone _=>.tup []
def CV.pvos(ob:Nat→Option (Nat×List PV)):List CV→List PV
 | []=>[]
 | x::xs=>x.pvo ob::CV.pvos ob xs
end

section
variable{N:Nat→Prop}{w:World}{hd:Nat→Value}{ob:Nat→Option (Nat×List PV)}{fp:Nat→List Nat}
mutual
theorem RepCV.own(ho:∀ c sz es,ob c=some (sz,es)→RepC N w (.sl true sz es) [hd c] (fp c)):
 ∀ (x:CV) (cs:List Value),x.whole ob=true→RepCV N w hd x cs→RepC N w (x.pvo ob) cs (fps fp x.names)
 | .pv v,cs,_,h=>by simp only[RepCV] at h; simpa[CV.pvo,bt,fps] using h
 | .own c,cs,hw,h=>by
  simp only[bc] at hw
  obtain⟨⟨sz,es⟩,he⟩:=Option.isSome_iff_exists.1 hw
  simp only[RepCV] at h
  rw[h.1]
  simpa[CV.pvo,he,bt,fps] using ho c sz es he
 | .node fs,cs,hw,h=>by
  simp only[RepCV] at h
  simp only[CV.pvo,RepC,bt]
  exact RepCVs.own ho fs cs (by simpa[bc] using hw) h
 | .gone n,cs,hw,h=>by simp[bc] at hw
theorem RepCVs.own(ho:∀ c sz es,ob c=some (sz,es)→RepC N w (.sl true sz es) [hd c] (fp c)):
 ∀ (xs:List CV) (cs:List Value),aE ob xs=true→RepCVs N w hd xs cs→RepCs N w (CV.pvos ob xs) cs (fps fp (aB xs))
 | [],cs,_,h=>by simp only[RepCVs] at h; simp[CV.pvos,RepCs,h,aB,fps]
 | x::xs,cs,hw,h=>by
  simp only[aE,aD] at hw
  simp only[RepCVs] at h
  obtain⟨c1,c2,h1,h2,h3⟩:=h
  simp only[CV.pvos,RepCs,aB,fa_]
  exact⟨c1,c2,_,_,h1,rfl,RepCV.own ho x c1 hw.1 h2,RepCVs.own ho xs c2 hw.2 h3⟩
end
theorem CiA_1{x:CV}(h:x.whole ob=true):(CV.pv (x.pvo ob)).isAgg=x.isAgg:=by
 cases x with
 | pv v=>simp[CV.pvo]
 | own c=>simp only[bc] at h; obtain⟨⟨sz,es⟩,he⟩:=Option.isSome_iff_exists.1 h; simp[CV.pvo,he,CV.isAgg]
 | node fs=>simp[CV.pvo,CV.isAgg]
 | gone n=>simp[bc] at h
theorem CVal.own(ho:∀ c sz es,ob c=some (sz,es)→RepC N w (.sl true sz es) [hd c] (fp c)){x:CV}{v:Value}(hx:x.whole ob=true)(h:CVal N w hd x v):RepV N w (x.pvo ob) v (fps fp x.names):=by
 refine rVo_ (CiA_1 hx) ?_
 rcases h with⟨h1,cs,h2,h3⟩ | ⟨h1,h2,_⟩
 ·exact .inl ⟨h1,cs,h2,RepCV.own ho x cs hx h3⟩
 ·exact .inr ⟨h1,RepCV.own ho x _ hx h2⟩
theorem CVals.own(ho:∀ c sz es,ob c=some (sz,es)→RepC N w (.sl true sz es) [hd c] (fp c)):∀ {xs:List CV} {vs:List Value},aE ob xs=true→CVals N w hd xs vs→RepVs N w (CV.pvos ob xs) vs (fps fp (aB xs))
 | [],vs,_,h=>by simp only[CVals] at h; simp[CV.pvos,RepVs,h,aB,fps]
 | x::xs,vs,hw,h=>by
  simp only[aE,aD] at hw
  simp only[CVals] at h
  obtain⟨v,vs',h1,h2,h3⟩:=h
  simp only[CV.pvos,RepVs,aB,fa_]
  exact⟨v,vs',_,_,h1,rfl,CVal.own ho hw.1 h2,CVals.own ho hw.2 h3⟩
end

theorem fn_1{κ:Ctx}{G:Gh}{st:St}{a:Act}{w:World}(h:RG κ G st a w):∀ (cs:List Nat),cs.Nodup→(∀ c∈cs,(st.o c).isSome=true)→(fps G.fp cs).Nodup
 | [],_,_=>List.nodup_nil
 | c::cs,hn,hl=>by
  simp only[List.nodup_cons] at hn
  simp only[fps]
  obtain⟨⟨sz,es⟩,he⟩:=Option.isSome_iff_exists.1 (hl c (by simp))
  refine List.nodup_append.2 ⟨(h.objs c sz es he).2.1,fn_1 h cs hn.2 (fun c' hc'=>hl c' (by simp[hc'])),?_⟩
  intro b hb b' hb' e
  subst e
  obtain⟨c',hc',hb''⟩:=mf_.1 hb'
  obtain⟨p',hp'⟩:=Option.isSome_iff_exists.1 (hl c' (by simp[hc']))
  exact h.oo c c' _ p' he hp' (fun e=>hn.1 (e▸hc')) b hb hb''

mutual
theorem Cnl_1{ob:Nat→Option (Nat×List PV)}:∀ x:CV,x.whole ob=true→∀ c∈x.names,(ob c).isSome=true
 | .pv _,_=>by simp[bt]
 | .own c,h=>by simpa[bt,bc] using h
 | .node fs,h=>by simpa[bt] using Cnl_ fs (by simpa[bc] using h)
 | .gone _,h=>by simp[bc] at h
theorem Cnl_{ob:Nat→Option (Nat×List PV)}:∀ xs:List CV,aE ob xs=true→∀ c∈aB xs,(ob c).isSome=true
 | [],_=>by simp[aB]
 | x::xs,h=>by
  simp only[aE,aD] at h
  intro c hc
  simp only[aB,aV] at hc
  rcases hc with hc | hc
  ·exact Cnl_1 x h.1 c hc
  ·exact Cnl_ xs h.2 c hc
end

theorem News.join{N:Nat→Prop}{w:World}{hd1 hd2:Nat→Value}{fp1 fp2:Nat→List Nat}{F1 F2:List Nat}{lo m hi:Nat}{l1 l2:List (Nat×(Nat×List PV))}
 (n1:News N w hd1 fp1 F1 lo m l1) (n2:News N w hd2 fp2 F2 m hi l2) (hdis:∀ b∈F1,b∉F2):
 News N w (fun n=>if n<m then hd1 n else hd2 n) (fun n=>if n<m then fp1 n else fp2 n) (F1++F2) lo hi (l1++l2):=by
 have hle1:=n1.le
 have hle2:=n2.le
 refine⟨?_,?_,?_,by omega,?_⟩
 ·intro n sz es hm
  simp only[aV] at hm ⊢
  rcases hm with hm | hm
  ·obtain⟨g1,g2,g3,g4,g5⟩:=n1.rep n sz es hm
   simp only[g2,if_true]
   exact⟨g1,by omega,g3,g4,fun b hb=>.inl (g5 b hb)⟩
  ·obtain⟨g1,g2,g3,g4,g5⟩:=n2.rep n sz es hm
   have:¬ n<m:=by omega
   simp only[this,if_false]
   exact⟨by omega,g2,g3,g4,fun b hb=>.inr (g5 b hb)⟩
 ·intro n k pn pm h1 h2 hne
  simp only[aV] at h1 h2
  rcases h1 with h1 | h1<;>rcases h2 with h2 | h2
  ·have g1:=(n1.rep n pn.1 pn.2 h1).2.1; have g2:=(n1.rep k pm.1 pm.2 h2).2.1
   simp only[g1,g2,if_true]; exact n1.apart n k pn pm h1 h2 hne
  ·have g1:=(n1.rep n pn.1 pn.2 h1).2.1; have g2:=(n2.rep k pm.1 pm.2 h2).1
   have:¬ k<m:=by omega
   simp only[g1,this,if_true,if_false]
   exact fun b hb hb'=>hdis b ((n1.rep n pn.1 pn.2 h1).2.2.2.2 b hb) ((n2.rep k pm.1 pm.2 h2).2.2.2.2 b hb')
  ·have g1:=(n2.rep n pn.1 pn.2 h1).1; have g2:=(n1.rep k pm.1 pm.2 h2).2.1
   have:¬ n<m:=by omega
   simp only[g2,this,if_true,if_false]
   exact fun b hb hb'=>hdis b ((n1.rep k pm.1 pm.2 h2).2.2.2.2 b hb') ((n2.rep n pn.1 pn.2 h1).2.2.2.2 b hb)
  ·have g1:=(n2.rep n pn.1 pn.2 h1).1; have g2:=(n2.rep k pm.1 pm.2 h2).1
   have e1:¬ n<m:=by omega
   have e2:¬ k<m:=by omega
   simp only[e1,e2,if_false]; exact n2.apart n k pn pm h1 h2 hne
 ·simp only[List.map_append]
  refine List.nodup_append.2 ⟨n1.once,n2.once,?_⟩
  intro a ha b hb e
  subst e
  obtain⟨⟨_,q1⟩,h1,rfl⟩:=List.mem_map.1 ha
  obtain⟨⟨k,q2⟩,h2,e⟩:=List.mem_map.1 hb
  have g1:=(n1.rep _ q1.1 q1.2 h1).2.1
  have g2:=(n2.rep k q2.1 q2.2 h2).1
  simp only at e; omega
 ·intro n h1 h2
  simp only[List.map_append,aV]
  by_cases hlt:n<m
  ·exact .inl (n1.all n h1 hlt)
  ·exact .inr (n2.all n (by omega) h2)

theorem eiA_(p:PV)(c:Nat):(e_1 p c).1.isAgg=(CV.pv p).isAgg:=by
 cases p with
 | sl o sz es=>cases o<;>rfl
 | agg fs=>simp only[e_1]; split<;>rfl
 | _=>rfl

theorem coc_{N:Nat→Prop}{w w0:World}{hd:Nat→Value}{N0:Nat→Prop}{x:CV}{p:PV}{v:Value}{F:List Nat}(hp:RepV N0 w0 p v F)(ha:x.isAgg=(CV.pv p).isAgg)(h:RepCV N w hd x v.cells.toList):CVal N w hd x v:=by
 cases p with
 | agg fs=>
  obtain⟨cs,rfl,_⟩:=hp
  exact .inl ⟨by rw[ha]; rfl,cs,rfl,by simpa[Value.cells] using h⟩
 | tup ps=>simp[RepV,RepC] at hp
 | _=>
  have h1:=RepC.one _ _ _ (by simpa only[RepV] using hp) v (by simp)
  refine .inr ⟨by rw[ha]; rfl,?_,h1⟩
  cases v<;>first | (simp[Value.oneCell'] at h1; done) | exact h

theorem eVo_1{N:Nat→Prop}{w:World}{p:PV}{v:Value}{F:List Nat}{c:Nat}(h:RepV N w p v F)(hn:F.Nodup):
 ∃ hdv fpv,News N w hdv fpv F c (e_1 p c).2.2 (e_1 p c).2.1∧∀ (N':Nat→Prop) (hd:Nat→Value),(∀ b,N b→N' b)→(∀ n,c≤n→n<(e_1 p c).2.2→hd n=hdv n)→CVal N' w hd (e_1 p c).1 v:=by
 obtain⟨hdv,fpv,h1,h2⟩:=eo_ p _ F c h.cells hn
 exact⟨hdv,fpv,h1,fun N' hd hN hh=>coc_ h (eiA_ p c) (RepCV.frame hN (fun _ _=>rfl) _ _ (fun _ _=>rfl) (h2 hd hh))⟩

theorem eVo_{N:Nat→Prop}{w:World}:∀ (ps:List PV) (vs:List Value) (F:List Nat) (c:Nat),RepVs N w ps vs F→F.Nodup→
 ∃ hdv fpv,News N w hdv fpv F c (e_ ps c).2.2 (e_ ps c).2.1∧∀ (N':Nat→Prop) (hd:Nat→Value),(∀ b,N b→N' b)→(∀ n,c≤n→n<(e_ ps c).2.2→hd n=hdv n)→CVals N' w hd (e_ ps c).1 vs
 | [],vs,F,c,h,_=>by
  simp only[RepVs] at h
  obtain⟨rfl,rfl⟩:=h
  exact⟨fun _=>undef,fun _=>[],⟨by simp[e_],by simp[e_],by simp[e_],by simp[e_],fun n h1 h2=>absurd h2 (by simp[e_]; omega)⟩,fun N' hd _ _=>by simp[e_,CVals]⟩
 | p::ps,vs,F,c,h,hn=>by
  simp only[RepVs] at h
  obtain⟨v,vs',F1,F2,rfl,rfl,h3,h4⟩:=h
  have hn1:F1.Nodup:=(List.nodup_append.1 hn).1
  have hn2:F2.Nodup:=(List.nodup_append.1 hn).2.1
  have hdis:∀ b∈F1,b∉F2:=fun b hb hb'=>(List.nodup_append.1 hn).2.2 b hb b hb' rfl
  obtain⟨hd1,fp1,n1,r1⟩:=eVo_1 (c:=c) h3 hn1
  obtain⟨hd2,fp2,n2,r2⟩:=eVo_ ps vs' F2 (e_1 p c).2.2 h4 hn2
  have hle1:=n1.le
  have hle2:=n2.le
  refine⟨_,_,News.join n1 n2 hdis,fun N' hd hN hh=>?_⟩
  simp only[e_,CVals] at hh ⊢
  refine⟨v,vs',rfl,r1 N' hd hN (fun n h1 h2=>?_),r2 N' hd hN (fun n h1 h2=>?_)⟩
  ·rw[hh n h1 (by omega)]; simp[h2]
  ·rw[hh n (by omega) h2]; have:¬ n<(e_1 p c).2.2:=by omega
   simp[this]

def resSV(res:PV)(c:Nat):SlotV:=
 match res with
 | .tup ps=>.tup (e_ ps c).1
 | p=>.val (e_1 p c).1
def rO_(res:PV)(c:Nat):List (Nat×(Nat×List PV)):=
 match res with
 | .tup ps=>(e_ ps c).2.1
 | p=>(e_1 p c).2.1

theorem rSn_(res:PV)(c:Nat):isBox (resSV res c)=false:=by cases res<;>rfl

theorem R.res{κ:Ctx}{G:Gh}{st:St}{a:Act}{w w':World}{d c:Nat}{v:Value}{res:PV}{F D:List Nat}{N':Nat→Prop}(h:RG κ G st a w)(hd:d<κ.nt)(hD:∀ c∈D,(st.o c).isSome=true)(hb:KeepX (fps G.fp D) w.heap.size w w')
 (hF:∀ b∈F,(w.heap.size≤b∨b∈fps G.fp D)∧b<w'.heap.size) (hn:F.Nodup) (hN':∀ b,N' b→Nof κ st G w b∨((w.heap.size≤b∨b∈fps G.fp D)∧b<w'.heap.size∧b∉F)) (hr:RepR N' w' res v F)
 (hfresh:∀ n∈(rO_ res c).map (·.1),st.noC n):
 R κ { s:=upd st.s d (resSV res c),o:=updAll st.o (deadObjs D++newObjs (rO_ res c)) } (a.put (some d) v) w':=by
 by_cases ht:∃ ps,res=.tup ps
 ·obtain⟨ps,rfl⟩:=ht
  obtain⟨vs,rfl,h2⟩:=hr
  obtain⟨hdv,fpv,n1,r1⟩:=eVo_ ps vs F c h2 hn
  exact RnR_ h hd hD hb hF hN' n1 hfresh rfl (fun N G' hN hh=>⟨vs,rfl,r1 N G'.hd hN hh⟩)
 ·have hv:RepV N' w' res v F:=by
   cases res with
   | tup ps=>exact absurd ⟨ps,rfl⟩ ht
   | _=>exact hr
  obtain⟨hdv,fpv,n1,r1⟩:=eVo_1 (c:=c) hv hn
  have e1:resSV res c=.val (e_1 res c).1:=by
   cases res with
   | tup ps=>exact absurd ⟨ps,rfl⟩ ht
   | _=>rfl
  have e2:rO_ res c=(e_1 res c).2.1:=by
   cases res with
   | tup ps=>exact absurd ⟨ps,rfl⟩ ht
   | _=>rfl
  rw[e1,e2]
  rw[e2] at hfresh
  exact RnR_ h hd hD hb hF hN' n1 hfresh rfl (fun N G' hN hh=>r1 N G'.hd hN hh)

theorem RepR.noView{N N':Nat→Prop}{w:World}{p:PV}{v:Value}{F:List Nat}(hp:p.noView=true)(h:RepR N w p v F):RepR N' w p v F:=by
 cases p with
 | tup ps=>
  obtain⟨vs,h1,h2⟩:=h
  refine⟨vs,h1,?_⟩
  have hps:PV.noViews ps=true:=by simpa[PV.noView] using hp
  clear hp h1
  induction ps generalizing vs F with
  | nil=>simpa only[RepVs] using h2
  | cons q qs ih=>
   simp only[PV.noViews,aD] at hps
   simp only[RepVs] at h2 ⊢
   obtain⟨u,us,F1,F2,e1,e2,h3,h4⟩:=h2
   exact⟨u,us,F1,F2,e1,e2,RepV.noView hps.1 h3,ih us h4 hps.2⟩
 | agg fs=>exact RepV.noView (N:=N) hp h
 | lit u=>exact RepV.noView (N:=N) (N':=N') (w:=w) hp h
 | sl o sz es=>exact RepV.noView (N:=N) (N':=N') (w:=w) hp h
 | clo f cs=>exact RepV.noView (N:=N) (N':=N') (w:=w) hp h
 | ptr u=>exact RepV.noView (N:=N) (N':=N') (w:=w) hp h

def argCV:SlotV→CV
 | .val x=>x
 | _=>.gone 0

def argCVs(P:Program)(st:St):List Operand→List TypeId→List CV
 | [],_=>[]
 | x::xs,ts=>argCV (ev P st (ts.headD 0) x)::argCVs P st xs (ts.tail)

theorem ao_1{κ:Ctx}{G:Gh}{st st':St}{a:Act}{w:World}{P:Program}(h:RG κ G st' a w):∀ (xs:List Operand) (ts:List TypeId),(∀ k∈xs.flatMap rd,st'.s k=st.s k)→
 aE st'.o (argCVs P st xs ts)=true→CVals (Nof κ st' G w) w G.hd (argCVs P st xs ts) (xs.map a.eval)
 | [],_,_,_=>by simp[argCVs,CVals]
 | x::xs,ts,hs,hw=>by
  simp only[argCVs,aE,aD] at hw
  simp only[argCVs,List.map_cons,CVals]
  refine⟨_,_,rfl,?_,ao_1 h xs _ (fun k hk=>hs k (by simp only[List.flatMap_cons,aV]; exact .inr hk)) hw.2⟩
  have h1:=ev_ok (P:=P) (T:=ts.headD 0) h x 0
  rw[ec_ (st:=st) (fun k hk=>hs k (by simp only[List.flatMap_cons,aV]; exact .inl hk))] at h1
  have h2:=hw.1
  cases he:ev P st (ts.headD 0) x with
  | val c=>rw[he] at h1; exact h1
  | _=>rw[he] at h2; simp[argCV,bc] at h2

theorem cv_{N N':Nat→Prop}{w:World}{hd:Nat→Value}{ob:Nat→Option (Nat×List PV)}{fp:Nat→List Nat}(hN:∀ b,N b→N' b)
 (ho:∀ c sz es,ob c=some (sz,es)→RepC N w (.sl true sz es) [hd c] (fp c)∧∀ b∈fp c,N' b):∀ (xs:List CV) (vs:List Value),aE ob xs=true→CVals N w hd xs vs→RepVs N' w (aO ob xs) vs []
 | [],vs,_,h=>by simp only[CVals] at h; simp[aO,RepVs,h]
 | x::xs,vs,hw,h=>by
  simp only[aE,aD] at hw
  simp only[CVals] at h
  obtain⟨v,vs',h1,h2,h3⟩:=h
  simp only[aO,RepVs]
  exact⟨v,vs',[],[],h1,rfl,CVal.view hN ho hw.1 h2,cv_ hN ho xs vs' hw.2 h3⟩
theorem cpV_{N:Nat→Prop}{w:World}{hd:Nat→Value}{ob:Nat→Option (Nat×List PV)}:∀ (xs:List CV) (vs:List Value),CV.pures xs=true→CVals N w hd xs vs→RepVs N w (aO ob xs) vs []
 | [],vs,_,h=>by simp only[CVals] at h; simp[aO,RepVs,h]
 | x::xs,vs,hw,h=>by
  simp only[CV.pures,aD] at hw
  simp only[CVals] at h
  obtain⟨v,vs',h1,h2,h3⟩:=h
  simp only[aO,RepVs]
  exact⟨v,vs',[],[],h1,rfl,CVal.pureView hw.1 h2,cpV_ xs vs' hw.2 h3⟩

theorem RepVs.append{N:Nat→Prop}{w:World}:∀ (ps qs:List PV) (v1 v2:List Value) (F1 F2:List Nat),RepVs N w ps v1 F1→RepVs N w qs v2 F2→RepVs N w (ps++qs) (v1++v2) (F1++F2)
 | [],qs,v1,v2,F1,F2,h1,h2=>by simp only[RepVs] at h1; simpa[h1.1,h1.2] using h2
 | p::ps,qs,v1,v2,F1,F2,h1,h2=>by
  simp only[RepVs] at h1
  obtain⟨u,us,G1,G2,e1,e2,e3,e4⟩:=h1
  subst e1; subst e2
  have:=RepVs.append ps qs us v2 G2 F2 e4 h2
  simp only[List.cons_append,RepVs]
  exact⟨u,us++v2,G1,G2++F2,by simp,by simp,e3,this⟩

theorem RVo_{N:Nat→Prop}{w:World}:∀ (ps:List PV) (vs:List Value) (F:List Nat),(∀ p∈ps,PV.size p=1∧(CV.pv p).isAgg=false)→RepCs N w ps vs F→RepVs N w ps vs F
 | [],vs,F,_,h=>by simpa only[RepCs,RepVs] using h
 | p::ps,vs,F,hp,h=>by
  simp only[RepCs] at h
  obtain⟨c1,c2,F1,F2,e1,e2,e3,e4⟩:=h
  have hl:=RepC.length _ _ _ e3
  rw[(hp p (by simp)).1] at hl
  obtain⟨v,rfl⟩:=List.length_eq_one_iff.1 hl
  simp only[RepVs]
  exact⟨v,c2,F1,F2,e1,e2,rVo_ (hp p (by simp)).2 (.inr ⟨rfl,e3⟩),RVo_ ps c2 F2 (fun q hq=>hp q (by simp[hq])) e4⟩

mutual
theorem Cpn_:∀ x:CV,x.pure=true→x.names=[]
 | .pv _,_=>rfl
 | .own _,h=>by simp[CV.pure] at h
 | .node fs,h=>by simp only[bt]; exact Cpn_1 fs (by simpa[CV.pure] using h)
 | .gone _,h=>by simp[CV.pure] at h
theorem Cpn_1:∀ xs:List CV,CV.pures xs=true→aB xs=[]
 | [],_=>rfl
 | x::xs,h=>by simp only[CV.pures,aD] at h; simp[aB,Cpn_ x h.1,Cpn_1 xs h.2]
end
section
variable{N N':Nat→Prop}{w:World}{hd:Nat→Value}{ob:Nat→Option (Nat×List PV)}{fp:Nat→List Nat}
mutual
theorem RepCV.viewN(hN:∀ b,N b→N' b):
 ∀ (x:CV) (cs:List Value),(∀ c sz es,c∈x.names→ob c=some (sz,es)→RepC N w (.sl true sz es) [hd c] (fp c)∧∀ b∈fp c,N' b)→x.whole ob=true→RepCV N w hd x cs→RepC N' w (x.pvw ob) cs []
 | .pv v,cs,_,_,h=>by simp only[RepCV] at h; exact RepC.demote hN v cs [] (by simp) h
 | .own c,cs,ho,hw,h=>by
  simp only[bc] at hw
  obtain⟨⟨sz,es⟩,he⟩:=Option.isSome_iff_exists.1 hw
  simp only[RepCV] at h
  rw[h.1]
  simp only[CV.pvw,he]
  have h2:=ho c sz es (by simp[bt]) he
  have:=RepC.demote hN _ _ _ h2.2 h2.1
  simpa only[PV.view] using this
 | .node fs,cs,ho,hw,h=>by
  simp only[RepCV] at h
  simp only[CV.pvw,RepC]
  exact RepCVs.viewN hN fs cs (fun c sz es hc=>ho c sz es (by simpa[bt] using hc)) (by simpa[bc] using hw) h
 | .gone n,cs,_,hw,h=>by simp[bc] at hw
theorem RepCVs.viewN(hN:∀ b,N b→N' b):
 ∀ (xs:List CV) (cs:List Value),(∀ c sz es,c∈aB xs→ob c=some (sz,es)→RepC N w (.sl true sz es) [hd c] (fp c)∧∀ b∈fp c,N' b)→aE ob xs=true→RepCVs N w hd xs cs→RepCs N' w (aO ob xs) cs []
 | [],cs,_,_,h=>by simp only[RepCVs] at h; simp[aO,RepCs,h]
 | x::xs,cs,ho,hw,h=>by
  simp only[aE,aD] at hw
  simp only[RepCVs] at h
  obtain⟨c1,c2,h1,h2,h3⟩:=h
  simp only[aO,RepCs]
  exact⟨c1,c2,[],[],h1,rfl,RepCV.viewN hN x c1 (fun c sz es hc=>ho c sz es (by simp[aB,hc])) hw.1 h2,RepCVs.viewN hN xs c2 (fun c sz es hc=>ho c sz es (by simp[aB,hc])) hw.2 h3⟩
end
theorem CVal.viewN(hN:∀ b,N b→N' b){x:CV}{v:Value}(ho:∀ c sz es,c∈x.names→ob c=some (sz,es)→RepC N w (.sl true sz es) [hd c] (fp c)∧∀ b∈fp c,N' b)(hx:x.whole ob=true)
 (h:CVal N w hd x v):RepV N' w (x.pvw ob) v []:=by
 refine rVo_ (CiA_ hx) ?_
 rcases h with⟨h1,cs,h2,h3⟩ | ⟨h1,h2,_⟩
 ·exact .inl ⟨h1,cs,h2,RepCV.viewN hN x cs ho hx h3⟩
 ·exact .inr ⟨h1,RepCV.viewN hN x _ ho hx h2⟩
end

def mix:List Bool→List PV→List PV→List PV
 | ms,v::vs,o::os=>(if ms.headD false then o else v)::mix ms.tail vs os
 | _,_,_=>[]
def mixNames:List Bool→List CV→List Nat
 | ms,x::xs=>(if ms.headD false then x.names else [])++mixNames ms.tail xs
 | _,[]=>[]
def viewNames:List Bool→List CV→List Nat
 | ms,x::xs=>(if ms.headD false then [] else x.names)++viewNames ms.tail xs
 | _,[]=>[]
def mixPure:List Bool→List CV→Bool
 | ms,x::xs=>(ms.headD false||x.pure)&&mixPure ms.tail xs
 | _,[]=>true

theorem mNl_{ob:Nat→Option (Nat×List PV)}:∀ (ms:List Bool) (xs:List CV),aE ob xs=true→∀ c∈mixNames ms xs,(ob c).isSome=true
 | _,[],_=>by simp[mixNames]
 | ms,x::xs,h=>by
  simp only[aE,aD] at h
  intro c hc
  simp only[mixNames,aV] at hc
  rcases hc with hc | hc
  ·split at hc
   ·exact Cnl_1 x h.1 c hc
   ·cases hc
  ·exact mNl_ ms.tail xs h.2 c hc

theorem mix_ok{N N':Nat→Prop}{w:World}{hd:Nat→Value}{ob:Nat→Option (Nat×List PV)}{fp:Nat→List Nat}(hN:∀ b,N b→N' b)(ho:∀ c sz es,ob c=some (sz,es)→RepC N w (.sl true sz es) [hd c] (fp c)):
 ∀ (ms:List Bool) (xs:List CV) (vs:List Value),aE ob xs=true→(∀ c∈viewNames ms xs,∀ b∈fp c,N' b)→CVals N w hd xs vs→RepVs N' w (mix ms (aO ob xs) (CV.pvos ob xs)) vs (fps fp (mixNames ms xs))
 | _,[],vs,_,_,h=>by simp only[CVals] at h; simp[aO,CV.pvos,mix,RepVs,h,mixNames,fps]
 | ms,x::xs,vs,hw,hv,h=>by
  simp only[aE,aD] at hw
  simp only[CVals] at h
  obtain⟨v,vs',h1,h2,h3⟩:=h
  simp only[aO,CV.pvos,mix,RepVs,mixNames,fa_]
  refine⟨v,vs',_,_,h1,rfl,?_,mix_ok hN ho ms.tail xs vs' hw.2 (fun c hc=>hv c (by simp only[viewNames,aV]; exact .inr hc)) h3⟩
  cases hm:ms.headD false with
  | true=>
   simp only[if_true]
   exact RepV.frame hN (fun _ _=>rfl) (fun _ _=>rfl) (CVal.own ho hw.1 h2)
  | false=>
   simp only[Bool.false_eq_true,if_false,fps]
   have ho':∀ c sz es,c∈x.names→ob c=some (sz,es)→RepC N w (.sl true sz es) [hd c] (fp c)∧∀ b∈fp c,N' b:=fun c sz es hcn hc=>⟨ho c sz es hc,hv c (by simp only[viewNames,hm,Bool.false_eq_true,if_false,aV]; exact .inl hcn)⟩
   exact CVal.viewN hN ho' hw.1 h2

theorem vc_1{P:Program}{nt:Nat}{o:Oper}{st:St}{dst:Option Nat}{c:Nat}{g:Operand}{args:Array Operand}{tys:Array TypeId}{f:FuncId}{caps:List PV}{T1:TypeId}{res:PV}{ms:List Bool}{xs:List CV}
 (hop:o.op=.call { callee:=.value g,args:=args,argTypes:=tys }) (hdst:o.dst=dst) (hd:∀ d,dst=some d→d<nt) (hds:mixNames ms xs=[]∨dst.isSome=true)
 (hg:ev P st T1 g=.val (.pv (.clo f caps))) (hcaps:∀ p∈caps,PV.size p=1∧(CV.pv p).isAgg=false) (hxs:argCVs P st args.toList tys.toList=xs) (hw:aE st.o xs=true)
 (hmn:(mixNames ms xs).Nodup) (halias:mixPure ms xs=true∨(res.noView=true∧∀ n∈viewNames ms xs,n∉mixNames ms xs))
 (hsat:Sat P f (mix ms (aO st.o xs) (CV.pvos st.o xs)++caps) res):
 Valid P nt o st { rs:=rd g++args.toList.flatMap rd,ro:=aB xs,fc:=(rO_ res c).map (·.1),us:=(dst.toList.map fun d=>(d,resSV res c)),uo:=(dst.toList.flatMap fun _=>deadObjs (mixNames ms xs)++newObjs (rO_ res c)) }:=by
 intro κ st' a w hnt hsame hfresh hR next Q hnext
 obtain⟨G,hG⟩:=hR
 obtain⟨hci,hcalls⟩:=hsat
 have hob:∀ (xs:List CV),(∀ n∈aB xs,st'.o n=st.o n)→aE st'.o xs=aE st.o xs∧aO st'.o xs=aO st.o xs∧CV.pvos st'.o xs=CV.pvos st.o xs:=by
  intro xs hx
  have key:∀ x:CV,(∀ n∈x.names,st'.o n=st.o n)→x.whole st'.o=x.whole st.o∧x.pvw st'.o=x.pvw st.o∧x.pvo st'.o=x.pvo st.o:=by
   intro x
   refine CV.rec (motive_1:=fun x=>(∀ n∈x.names,st'.o n=st.o n)→x.whole st'.o=x.whole st.o∧x.pvw st'.o=x.pvw st.o∧x.pvo st'.o=x.pvo st.o)
    (motive_2:=fun xs=>(∀ n∈aB xs,st'.o n=st.o n)→aE st'.o xs=aE st.o xs∧aO st'.o xs=aO st.o xs∧CV.pvos st'.o xs=CV.pvos st.o xs) ?_ ?_ ?_ ?_ ?_ ?_ x
   ·intro v _; exact⟨rfl,rfl,rfl⟩
   ·intro n h; have:=h n (by simp[bt]); exact⟨by simp[bc,this],by simp[CV.pvw,this],by simp[CV.pvo,this]⟩
   ·intro fs ih h; have:=ih (by simpa[bt] using h); exact⟨by simpa[bc] using this.1,by simp[CV.pvw,this.2.1],by simp[CV.pvo,this.2.2]⟩
   ·intro n _; exact⟨rfl,rfl,rfl⟩
   ·intro _; exact⟨rfl,rfl,rfl⟩
   ·intro y ys i1 i2 h
    have h1:=i1 (fun n hn=>h n (by simp[aB,hn]))
    have h2:=i2 (fun n hn=>h n (by simp[aB,hn]))
    exact⟨by simp[aE,h1.1,h2.1],by simp[aO,h1.2.1,h2.2.1],by simp[CV.pvos,h1.2.2,h2.2.2]⟩
  induction xs with
  | nil=>exact⟨rfl,rfl,rfl⟩
  | cons y ys ih=>
   have h1:=key y (fun n hn=>hx n (by simp[aB,hn]))
   have h2:=ih (fun n hn=>hx n (by simp[aB,hn]))
   exact⟨by simp[aE,h1.1,h2.1],by simp[aO,h1.2.1,h2.2.1],by simp[CV.pvos,h1.2.2,h2.2.2]⟩
 obtain⟨hw',hv',ho'⟩:=hob xs hsame.2
 have hwx:aE st'.o xs=true:=by rw[hw']; exact hw
 have hcv:=ao_1 (P:=P) (st:=st) hG args.toList tys.toList (fun k hk=>hsame.1 k (by simp only[aV]; exact .inr hk)) (by rw[hxs]; exact hwx)
 rw[hxs] at hcv
 have hgv:=ev_ok (P:=P) (T:=T1) hG g 0
 rw[ec_ (fun k hk=>hsame.1 k (by simp[hk])),hg] at hgv
 rcases hgv with⟨hgv,_⟩ | ⟨_,hgv,_⟩
 ·simp[CV.isAgg] at hgv
 simp only[RepCV,RepC] at hgv
 obtain⟨vals,hg1,_,hg3,_⟩:=hgv
 simp at hg1
 have hrun:(execOp a.eval o).run P w=.ok (.enter f (args.map a.eval++vals.toArray)) w:=by
  simp[execOp,hop,resolve,hg1,Deferred.ofValue,invoke,rcF_ hci]
 have harr:(args.map a.eval++vals.toArray)=(args.toList.map a.eval++vals).toArray:=by
  apply Array.ext'; simp
 have hlive:∀ c∈mixNames ms xs,(st'.o c).isSome=true:=mNl_ ms xs hwx
 have hobj:∀ c sz es,st'.o c=some (sz,es)→RepC (Nof κ st' G w) w (.sl true sz es) [G.hd c] (G.fp c):=fun c sz es hc=>(hG.objs c sz es hc).1
 have hXlt:∀ b∈fps G.fp (mixNames ms xs),b<w.heap.size:=by
  intro b hb
  obtain⟨c,hc,hm⟩:=mf_.1 hb
  obtain⟨p,hp⟩:=Option.isSome_iff_exists.1 (hlive c hc)
  exact((hG.objs c p.1 p.2 hp).2.2 b hm).2
 have hXn:(fps G.fp (mixNames ms xs)).Nodup:=fn_1 hG _ hmn hlive
 have hNX:∀ b,Nof κ st' G w b→b∉fps G.fp (mixNames ms xs):=by
  intro b hb hm
  obtain⟨c,hc,hm⟩:=mf_.1 hm
  obtain⟨p,hp⟩:=Option.isSome_iff_exists.1 (hlive c hc)
  exact hb.2 (.inr ⟨c,p,hp,hm⟩)
 unfold Oper.wp
 rw[hrun]
 simp only[Oper.upon]
 have finish:∀ (v:Value) (F:List Nat) (w'':World) (N':Nat→Prop),KeepX (fps G.fp (mixNames ms xs)) w.heap.size w w''→(∀ b,N' b→Nof κ st' G w b∨((w.heap.size≤b∨b∈fps G.fp (mixNames ms xs))∧b<w''.heap.size∧b∉F))→RepR N' w'' res v F→F.Nodup→
  (∀ b∈F,(w.heap.size≤b∨b∈fps G.fp (mixNames ms xs))∧b<w''.heap.size)→next (a.put o.dst v) w'':=by
  intro v F w'' N' hb hN' hr hn hF
  rw[hdst]
  refine hnext _ _ ?_
  cases hdd:dst with
  | some d=>
   have:=R.res (c:=c) hG (by rw[hnt]; exact hd d hdd) hlive hb hF hn hN' hr (fun n hn'=>hfresh.2 n (by simpa using hn'))
   subst hdd
   simpa[St.app,updAll] using this
  | none=>
   have hnil:mixNames ms xs=[]:=by
    rcases hds with h | h
    ·exact h
    ·rw[hdd] at h; cases h
   rw[hnil] at hb
   refine⟨G,?_⟩
   simp only[St.app,updAll,Option.toList_none,List.map_nil,apn_,List.flatMap_nil]
   have hlt:∀ b,Nof κ st' G w b→b<w.heap.size:=fun b hb'=>hb'.lt hG
   have hw:∀ b,b<w.heap.size→w''.heap[b]?=w.heap[b]?:=fun b hb'=>hb.block b hb' (by simp[fps])
   have hN:∀ b,Nof κ st' G w b→Nof κ st' G w'' b:=fun b hb'=>⟨by
    rcases hb'.1 with h1 | h1
    ·exact .inl h1
    ·exact .inr ⟨h1.1,Nat.lt_of_lt_of_le h1.2 hb.size⟩,hb'.2⟩
   have hbs:=hG.keep.size
   exact⟨hG.keep.trans ⟨hb.os,hb.tape,hb.output,hb.size,fun k hk _=>hw k (by omega)⟩,hG.defers,hG.nt,
    fun k=>(hG.slots k).frame hN (fun b hb'=>hw b (hlt b hb')) (fun _ _=>rfl) (fun _ _=>rfl) (fun hx=>⟨rfl,hw _ (hG.boxes k hx).2⟩),
    fun c sz es hc=>by
     obtain⟨g1,g2,g3⟩:=hG.objs c sz es hc
     exact⟨RepC.frame hN (fun b hb'=>hw b (hlt b hb')) _ _ _ (fun b hb'=>hw b (g3 b hb').2) g1,g2,fun b hb'=>⟨(g3 b hb').1,Nat.lt_of_lt_of_le (g3 b hb').2 hb.size⟩⟩,
    fun r hr=>⟨(hG.boxes r hr).1,Nat.lt_of_lt_of_le (hG.boxes r hr).2 hb.size⟩,hG.bb,hG.bo,hG.oo,hG.held⟩
 rcases halias with hpure | ⟨hnv,hvn⟩
 ·have hvw:viewNames ms xs=[]:=by
   clear hcv hw' hv' ho' hwx hw hmn hds hxs hcalls hlive hXlt hXn hNX finish hsame hnext hfresh
   induction xs generalizing ms with
   | nil=>rfl
   | cons x xs ih=>
    simp only[mixPure,aD] at hpure
    simp only[viewNames,ih hpure.2,List.append_nil]
    cases hm:ms.headD false with
    | true=>simp
    | false=>
     rw[hm] at hpure
     simp only[Bool.false_or] at hpure
     simp only[Bool.false_eq_true,if_false]
     exact Cpn_ x hpure.1
  have hargs:=mix_ok (N':=Nof κ st' G w) (ob:=st'.o) (fp:=G.fp) (fun _ h=>h) hobj ms xs _ hwx (by rw[hvw]; simp) hcv
  rw[hv',ho'] at hargs
  have hall:=RepVs.append _ _ _ _ _ _ hargs (RVo_ caps vals [] hcaps hg3)
  rw[List.append_nil] at hall
  have:=hcalls w (Nof κ st' G w) _ _ (fun b hb=>⟨hb.lt hG,hNX b hb⟩) hXn hXlt hall
  rw[← harr] at this
  refine this.mono ?_
  rintro e w'' ⟨v,F,rfl,hb,hr,hn,hF⟩
  exact finish v F w'' _ hb (fun b hb'=>hb') hr hn hF
 ·have hargs:=mix_ok (N':=fun b=>b<w.heap.size∧b∉fps G.fp (mixNames ms xs)) (ob:=st'.o) (fp:=G.fp) (fun b hb=>⟨hb.lt hG,hNX b hb⟩) hobj ms xs _ hwx (fun c hc b hb=>by
   have hcl:(st'.o c).isSome=true:=by
    have:∀ (ms:List Bool) (ys:List CV),aE st'.o ys=true→∀ c∈viewNames ms ys,(st'.o c).isSome=true:=by
     intro ms ys
     induction ys generalizing ms with
     | nil=>intro _ c hc; simp[viewNames] at hc
     | cons y ys ih=>
      intro hwy c hc
      simp only[aE,aD] at hwy
      simp only[viewNames,aV] at hc
      rcases hc with hc | hc
      ·split at hc
       ·cases hc
       ·exact Cnl_1 y hwy.1 c hc
      ·exact ih ms.tail hwy.2 c hc
    exact this ms xs hwx c hc
   obtain⟨p,hp⟩:=Option.isSome_iff_exists.1 hcl
   refine⟨((hG.objs c p.1 p.2 hp).2.2 b hb).2,fun hm=>?_⟩
   obtain⟨c',hc',hm'⟩:=mf_.1 hm
   obtain⟨p',hp'⟩:=Option.isSome_iff_exists.1 (hlive c' hc')
   exact hG.oo c c' p p' hp hp' (fun e=>hvn c hc (e▸hc')) b hb hm') hcv
  rw[hv',ho'] at hargs
  have hg3':=RepCs.frame (w':=w) (N':=fun b=>b<w.heap.size∧b∉fps G.fp (mixNames ms xs)) (fun b (hb:Nof κ st' G w b)=>⟨hb.lt hG,hNX b hb⟩) (fun _ _=>rfl) caps vals [] (by simp) hg3
  have hall:=RepVs.append _ _ _ _ _ _ hargs (RVo_ caps vals [] hcaps hg3')
  rw[List.append_nil] at hall
  have:=hcalls w _ _ _ (fun b hb=>hb) hXn hXlt hall
  rw[← harr] at this
  refine this.mono ?_
  rintro e w'' ⟨v,F,rfl,hb,hr,hn,hF⟩
  exact finish v F w'' (fun _=>False) hb (fun b hb'=>hb'.elim) (hr.noView hnv) hn hF
end Go.Av
