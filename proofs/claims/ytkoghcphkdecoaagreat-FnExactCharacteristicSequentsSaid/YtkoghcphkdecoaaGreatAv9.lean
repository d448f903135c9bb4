/- A part of the proof: lemmas only; nothing is claimed here beyond what each lemma says. -/
/- Code, function bodies. -/
import Derived.Test.YtkoghcphkdecoaaGreatAv8
set_option linter.unusedSimpArgs false
set_option linter.unusedVariables false
set_option linter.defProp false
namespace Go.Av

def VC(P:Program)(nt:Nat)(c:Code)(st:St)(Q:Exit→St→Prop):Prop:=
 ∀ κ a w,κ.nt=nt→R κ st a w→∀ Qc:Exit→Act→World→Prop,(∀ e st' a' w',Q e st'→R κ st' a' w'→Qc e a' w')→c.wp P Qc a w

theorem R.drew{κ:Ctx}{st:St}{a:Act}{w:World}(h:R κ st a w):R κ st a { w with drawn:=w.drawn+1 }:=by
 obtain⟨G,h⟩:=h
 have hN:∀ b,Nof κ st G w b→Nof κ st G { w with drawn:=w.drawn+1 } b:=fun _ h=>h
 have hw:∀ b,Nof κ st G w b→({ w with drawn:=w.drawn+1 }:World).heap[b]?=w.heap[b]?:=fun _ _=>rfl
 exact⟨G,h.keep.trans ⟨rfl,rfl,rfl,Nat.le_refl _,fun _ _ _=>rfl⟩,h.defers,h.nt,fun k=>(h.slots k).frame hN hw (fun _ _=>rfl) (fun _ _=>rfl) (fun _=>⟨rfl,rfl⟩),
  fun c sz es hc=>⟨RepC.frame hN hw _ _ _ (fun _ _=>rfl) (h.objs c sz es hc).1,(h.objs c sz es hc).2⟩,h.boxes,h.bb,h.bo,h.oo,h.held⟩

section
variable{P:Program}{nt:Nat}{st:St}{Q:Exit→St→Prop}

theorem VC.skip(h:Q .normal st):VC P nt .skip st Q:=fun _ _ _ _ hR _ hQ=>wp_skip (hQ _ _ _ _ h hR)
theorem VC.ret(h:Q .ret st):VC P nt .ret st Q:=fun _ _ _ _ hR _ hQ=>wp_ret (hQ _ _ _ _ h hR)
theorem VC.exit{id:Nat}(h:Q (.exit id) st):VC P nt (.exit id) st Q:=fun _ _ _ _ hR _ hQ=>wp_exit (hQ _ _ _ _ h hR)

def seqK(K:St→Prop)(Q:Exit→St→Prop):Exit→St→Prop
 | .normal,st=>K st
 | e,st=>Q e st
theorem VC.seq{x y:Code}(h:∀ K:St→Prop,(∀ st',VC P nt y st' Q→K st')→VC P nt x st (seqK K Q)):VC P nt (.seq x y) st Q:=by
 intro κ a w hnt hR Qc hQ
 refine wp_seq (h (fun st'=>VC P nt y st' Q) (fun _ h=>h) κ a w hnt hR _ ?_)
 intro e st' a' w' hq hR'
 cases e with
 | normal=>exact hq κ a' w' hnt hR' Qc hQ
 | _=>exact hQ _ _ _ _ hq hR'

def blockK(id:Nat)(Q:Exit→St→Prop):Exit→St→Prop
 | .exit id',st=>if id'=id then Q .normal st else Q (.exit id') st
 | e,st=>Q e st
theorem VC.block{id:Nat}{x:Code}(h:VC P nt x st (blockK id Q)):VC P nt (.block id x) st Q:=by
 intro κ a w hnt hR Qc hQ
 refine wp_block (h κ a w hnt hR _ ?_)
 intro e st' a' w' hq hR'
 cases e with
 | exit id'=>
  simp only[blockK,Exit.inBlock] at hq ⊢
  split
  ·rename_i h; rw[if_pos h] at hq; exact hQ _ _ _ _ hq hR'
  ·rename_i h; rw[if_neg h] at hq; exact hQ _ _ _ _ hq hR'
 | _=>exact hQ _ _ _ _ hq hR'

theorem VC.region{id:Nat}{ops:Array Oper}(h:wpD P nt ops ops.toList st [] (fun _ st'=>Q .normal st')):VC P nt (.region id ops false) st Q:=by
 intro κ a w hnt hR Qc hQ
 obtain⟨recs,st',ht,hl,hK⟩:=wpD_ok ops.toList 0 st [] (by simp) h
 refine wp_region ?_
 have:=ht.seq (Q:=Qc) κ a w hnt hR (fun a' w' hR'=>hQ _ _ _ _ hK hR')
 rw[hl] at this
 rwa [List.range_eq_range',← Array.length_toList]

theorem Vd_1{id:Nat}{ops:Array Oper}(hm:P.follows .mixedOrders=true)(h:wpD P nt ops ops.toList st [] (fun recs st'=>DrawOk ops st recs∧Q .normal st')):VC P nt (.region id ops true) st Q:=by
 intro κ a w hnt hR Qc hQ
 obtain⟨recs,st',ht,hl,hok,hK⟩:=wpD_ok ops.toList 0 st [] (by simp) h
 refine wp_region_any hm (ao_2 ht (by simpa using hl) (by simpa using hok) κ hnt (fun a' w' hR'=>hQ _ _ _ _ hK hR') _ _ _ _ (by simp) (by simp[List.count_replicate]) (fun i hi=>?_) ?_)
 ·simp[Array.getD_eq_getD_getElem?,Array.getElem?_replicate] at hi
  split at hi<;>simp at hi
 ·have:appS st 0 recs (fun m=>(Array.replicate ops.size false).getD m false)=st:=by
   have h0:∀ (rs:List Rec) (i:Nat) (s:St) (S:Nat→Bool),(∀ m,S m=false)→appS s i rs S=s:=by
    intro rs; induction rs with
    | nil=>intros; rfl
    | cons q qs ih=>intro i s S hS; simp only[appS,hS i]; simpa using ih (i+1) s S hS
   refine h0 _ _ _ _ (fun m=>?_)
   simp only[Array.getD_eq_getD_getElem?,Array.getElem?_replicate]
   split<;>rfl
  rw[this]
  exact hR.drew

def boolOf(sv:SlotV)(K:Bool→Prop):Prop:=
 match sv with
 | .val (.pv (.lit (.bool b)))=>K b
 | .ex Q=>∀ v,Q v→∃ b,v=.bool b∧K b
 | _=>False
theorem VC.cond{c:Operand}{x y:Code}(h:boolOf (ev P st 0 c) fun b=>Cond b (VC P nt x st Q) (VC P nt y st Q)):VC P nt (.cond c x y) st Q:=by
 intro κ a w hnt hR Qc hQ
 unfold boolOf at h
 split at h
 ·rename_i b he
  obtain⟨G,hG⟩:=hR
  have e:=ev_lit (P:=P) (T:=0) hG he (fun _ _=>rfl)
  cases b with
  | true=>exact wp_cond_true e (h.1 rfl κ a w hnt ⟨G,hG⟩ Qc hQ)
  | false=>exact wp_cond_false e (h.2 rfl κ a w hnt ⟨G,hG⟩ Qc hQ)
 ·rename_i Q' he
  obtain⟨G,hG⟩:=hR
  have h1:=ev_ok (P:=P) (T:=0) hG c 0
  rw[he] at h1
  obtain⟨b,e,hb⟩:=h _ h1
  cases b with
  | true=>exact wp_cond_true e (hb.1 rfl κ a w hnt ⟨G,hG⟩ Qc hQ)
  | false=>exact wp_cond_false e (hb.2 rfl κ a w hnt ⟨G,hG⟩ Qc hQ)
 ·exact h.elim

def St.le(st st':St):Prop:=∀ κ a w,R κ st a w→R κ st' a w
theorem St.le_refl(st:St):st.le st:=fun _ _ _ h=>h

theorem VC.loop{c:Code}{α:Type}(S:α→St)(I:α→Prop)(μ:α→Nat)(x0:α)(h0:I x0)(hst:st.le (S x0))
 (round:∀ x,I x→VC P nt c (S x) (seqK (fun st'=>∃ y,I y∧μ y<μ x∧st'.le (S y)) Q)):VC P nt (.loop c) st Q:=by
 intro κ a w hnt hR Qc hQ b k cs
 have key:∀ n x a w,μ x=n→I x→R κ (S x) a w→
  ∃ e a' w',Qc e a' w'∧Arrives P (lone (b.at a (.code c::.inLoop c::k)) cs w) b k cs e a' w':=by
  intro n
  induction n using Nat.strongRecOn with
  | _ n ih=>
   intro x a w hn hI hR
   have h1:=round x hI κ a w hnt hR (fun e a' w'=>match e with | .normal=>∃ y,I y∧μ y<μ x∧R κ (S y) a' w' | e=>Qc e a' w') (by
    intro e st' a'' w'' hq hR'
    cases e with
    | normal=>obtain⟨y,h1,h2,h3⟩:=hq; exact⟨y,h1,h2,h3 κ a'' w'' hR'⟩
    | _=>exact hQ _ _ _ _ hq hR')
   obtain⟨e,a₁,w₁,hq,harr⟩:=h1 b (.inLoop c::k) cs
   cases e with
   | normal=>
    obtain⟨y,hI₁,hlt,hR₁⟩:=hq
    obtain⟨e₂,a₂,w₂,hq₂,harr₂⟩:=ih (μ y) (hn▸hlt) y a₁ w₁ rfl hI₁ hR₁
    exact⟨e₂,a₂,w₂,hq₂,.of_steps (Steps.trans harr (.one step_inLoop)) harr₂⟩
   | exit id=>exact⟨_,a₁,w₁,hq,.pass (x:=.inLoop c) rfl (fun _ _=>.inl (by simp)) harr⟩
   | goto l=>exact⟨_,a₁,w₁,hq,.pass (x:=.inLoop c) rfl (fun _ _=>.inl (by simp)) harr⟩
   | ret=>exact⟨_,a₁,w₁,hq,.pass (x:=.inLoop c) rfl (fun _ _=>.inl (by simp)) harr⟩
   | panic ch=>exact⟨_,a₁,w₁,hq,.pass (x:=.inLoop c) rfl (fun _ _=>.inl (by simp)) harr⟩
   | outgrown=>exact⟨_,a₁,w₁,hq,.pass (x:=.inLoop c) rfl (fun _ _=>.inl (by simp)) harr⟩
 obtain⟨e,a',w',hq,harr⟩:=key _ x0 a w rfl h0 (hst κ a w hR)
 exact⟨e,a',w',hq,.of_steps (.one step_loop) harr⟩
end

def resCV(_:Program)(st:St):ResultVar→CV
 | .tmp t=>argCV (st.s t)
 | .cell t _=>match st.s t with
  | .box x=>x
  | _=>.gone 0
def resOk(P:Program)(st:St):ResultVar→Prop
 | .tmp _=>True
 | .cell t T=>match st.s t with
  | .box x=>TyIs P T x.isAgg x.size
  | _=>False
def resCVs(P:Program)(st:St):List ResultVar→List CV
 | []=>[]
 | r::rs=>resCV P st r::resCVs P st rs
def resOks(P:Program)(st:St):List ResultVar→Prop
 | []=>True
 | r::rs=>resOk P st r∧resOks P st rs

def asRes:List PV→PV
 | [p]=>p
 | ps=>.tup ps

def RetOk(P:Program)(st:St)(rs:List ResultVar)(res:PV):Prop:=
 CV.wholes st.o (resCVs P st rs)=true∧resOks P st rs∧
  ((CV.namess (resCVs P st rs)).Nodup∧res=asRes (CV.pvos st.o (resCVs P st rs))∨res=asRes (CV.pvws st.o (resCVs P st rs)))

theorem rr_2{κ:Ctx}{G:Gh}{st:St}{a:Act}{w:World}{P:Program}(h:RG κ G st a w)(r:ResultVar)(hw:(resCV P st r).whole st.o=true)(hok:resOk P st r):
 ∃ v,(match r with | .tmp t=>Pure.pure (a.tmps.getD t undef) | .cell t T=>do loadVar T (← asAddr (a.tmps.getD t undef)):Sem Value).run P w=.ok v w∧CVal (Nof κ st G w) w G.hd (resCV P st r) v:=by
 cases r with
 | tmp t=>
  have h1:=h.slots t
  refine⟨a.tmps.getD t undef,rfl,?_⟩
  simp only[resCV] at hw ⊢
  cases hs:st.s t with
  | val x=>rw[hs] at h1; exact h1
  | _=>rw[hs] at hw; simp[argCV,CV.whole] at hw
 | cell t T=>
  have h1:=h.slots t
  simp only[resCV,resOk] at hw hok ⊢
  cases hs:st.s t with
  | box x=>
   rw[hs] at h1 hw hok
   obtain⟨h2,cs,e,h3,h4⟩:=h1
   have hrow:RowAt w ⟨G.ad t,0,none⟩ cs:=by
    have:=rAo_ (w:=w) (b:=G.ad t) (c1:=[]) (c2:=cs) (c3:=[]) (e:=e) (fr:=(0,0)) (by simpa using h3)
    simpa using this
   obtain⟨v,h5,h6⟩:=rlV_ (P:=P) hok rfl hrow h4 (fun n e=>by subst e; simp[CV.whole] at hw)
   exact⟨v,by simp only[h2,asAddr,pure_bind]; exact h5,h6⟩
  | _=>rw[hs] at hw; simp[CV.whole] at hw

theorem rr_{κ:Ctx}{G:Gh}{st:St}{a:Act}{w:World}{P:Program}(h:RG κ G st a w):∀ (rs:List ResultVar),CV.wholes st.o (resCVs P st rs)=true→resOks P st rs→
 ∃ vs,(rs.mapM (fun r=>(match r with | .tmp t=>Pure.pure (a.tmps.getD t undef) | .cell t T=>do loadVar T (← asAddr (a.tmps.getD t undef)):Sem Value))).run P w=.ok vs w∧CVals (Nof κ st G w) w G.hd (resCVs P st rs) vs
 | [],_,_=>⟨[],by simp,by simp[resCVs,CVals]⟩
 | r::rs,hw,hok=>by
  simp only[resCVs,CV.wholes,Bool.and_eq_true] at hw
  obtain⟨v,h1,h2⟩:=rr_2 h r hw.1 hok.1
  obtain⟨vs,h3,h4⟩:=rr_ h rs hw.2 hok.2
  refine⟨v::vs,?_,by simp only[resCVs,CVals]; exact⟨v,vs,rfl,h2,h4⟩⟩
  simp only[List.mapM_cons,Sem.run_bind,h1,Result.andThen_ok,h3,Sem.run_pure]

def argSt(args:List PV):St:=
 { s:=fun k=>match (e_ args 9000).1[k]? with | some x=>.val x | none=>.dead,o:=updAll (fun _=>none) (newObjs (e_ args 9000).2.1) }

theorem rVl_{N:Nat→Prop}{w:World}:∀ {ps:List PV} {vs:List Value} {F:List Nat},RepVs N w ps vs F→vs.length=ps.length
 | [],_,_,h=>by simp only[RepVs] at h; simp[h.1]
 | _::_,vs,F,h=>by
  simp only[RepVs] at h
  obtain⟨v,vs',F1,F2,rfl,_,_,h4⟩:=h
  simp[rVl_ h4]

theorem rRa_{N:Nat→Prop}{w:World}{ps:List PV}{vs:List Value}{F:List Nat}(h:RepVs N w ps vs F)(hne:∀ qs,ps≠[.tup qs]):RepR N w (asRes ps) (if h:vs.toArray.size=1 then vs.toArray[0] else .tuple vs.toArray) F:=by
 have hl:=rVl_ h
 match ps,vs,h,hl with
 | [],[],h,_=>exact⟨[],rfl,h⟩
 | [p],[v],h,_=>
  simp only[RepVs] at h
  obtain⟨v',vs',F1,F2,h1,h2,h3,h4,h5⟩:=h
  obtain⟨rfl,rfl⟩:=List.cons.inj h1
  subst h5
  have:F=F1:=by simpa using h2
  subst this
  cases p with
  | tup qs=>exact absurd rfl (hne qs)
  | _=>simpa[asRes,RepR] using h3
 | p::q::ps,u::v::vs,h,_=>
  have:¬ (u::v::vs).toArray.size=1:=by simp
  rw[dif_neg this]
  exact⟨_,rfl,h⟩

theorem pn_{N:Nat→Prop}{w:World}{vs:List Value}{F:List Nat}{ps:List PV}(h:RepVs N w ps vs F):∀ qs,ps≠[.tup qs]:=by
 rintro qs rfl
 simp only[RepVs] at h
 obtain⟨v,vs',F1,F2,_,_,h3,_⟩:=h
 simp[RepV,RepC] at h3

theorem rVf_{N N':Nat→Prop}{w w':World}(hN:∀ b,N b→N' b)(hw:∀ b,N b→w'.heap[b]?=w.heap[b]?):∀ {ps:List PV} {vs:List Value} {F:List Nat},(∀ b∈F,w'.heap[b]?=w.heap[b]?)→RepVs N w ps vs F→RepVs N' w' ps vs F
 | [],_,_,_,h=>by simpa only[RepVs] using h
 | p::ps,vs,F,hF,h=>by
  simp only[RepVs] at h ⊢
  obtain⟨v,vs',F1,F2,h1,h2,h3,h4⟩:=h
  subst h2
  exact⟨v,vs',F1,F2,h1,rfl,h3.frame hN hw (fun b hb=>hF b (by simp[hb])),rVf_ hN hw (fun b hb=>hF b (by simp[hb])) h4⟩

theorem Sat.of_body{P:Program}{f:FuncId}{fn:Func}{c:Code}{args:List PV}{res:PV}{nt:Nat}{rs:List ResultVar}(hf:P.funcs[f]?=some fn)(hname:(fn.name== "runtime.NumGoroutine")=false)(hb:fn.body=some c)
 (hnt:fn.ntmps=nt) (hrs:fn.results.toList=rs) (hle:args.length≤nt) (h:VC P nt c (argSt args) (fun e st=>(e=.normal∨e=.ret)∧RetOk P st rs res)):Sat P f args res:=by
 refine⟨⟨fn,hf,hname,by simp[hb]⟩,fun w N vs Fs hN hFn hFl hvs=>?_⟩
 have hlen:=rVl_ hvs
 obtain⟨hdv,fpv,news,hcv⟩:=eVo_ args vs Fs 9000 hvs hFn
 let κ:Ctx:={ w0:=w,N:=N,L:=Fs,nt:=nt,hN:=hN,hL:=hFl }
 let G:Gh:={ hd:=hdv,fp:=fpv,ad:=fun _=>0 }
 have hsz:(vs.toArray++Array.replicate (fn.ntmps-vs.toArray.size) undef).size=nt:=by simp[hlen,hnt]; omega
 have hob:∀ c sz es,(argSt args).o c=some (sz,es)→(c,(sz,es))∈(e_ args 9000).2.1:=by
  intro c sz es hc
  simp only[argSt] at hc
  by_cases hm:c∈(e_ args 9000).2.1.map (·.1)
  ·obtain⟨⟨n,p⟩,h1,rfl⟩:=List.mem_map.1 hm
   have h2:(n,some p)∈newObjs (e_ args 9000).2.1:=List.mem_map.2 ⟨(n,p),h1,rfl⟩
   rw[uAm_ _ _ n (some p) (by rw[nOk_]; exact news.once) h2] at hc
   cases hc; exact h1
  ·rw[uAn_ _ _ _ (by rw[nOk_]; exact hm)] at hc; cases hc
 have hnb:∀ k,isBox ((argSt args).s k)=false:=by intro k; simp only[argSt]; split<;>rfl
 have hpriv:∀ b,N b→¬ Priv (argSt args) G b:=by
  rintro b hb (⟨r,h1,_⟩ | ⟨c,⟨sz,es⟩,h1,h2⟩)
  ·rw[hnb] at h1; cases h1
  ·exact(hN b hb).2 ((news.rep c sz es (hob c sz es h1)).2.2.2.2 b h2)
 have hNof:∀ b,N b→Nof κ (argSt args) G w b:=fun b hb=>⟨.inl hb,hpriv b hb⟩
 have hR:RG κ G (argSt args) { tmps:=vs.toArray++Array.replicate (fn.ntmps-vs.toArray.size) undef,defers:=[] } w:=by
  refine⟨KeepX.refl _ _ _,rfl,hsz,?_,?_,fun r hr=>(by rw[hnb] at hr; cases hr),fun r _ hr=>(by rw[hnb] at hr; cases hr),fun r _ _ hr=>(by rw[hnb] at hr; cases hr),?_,by simp[κ]⟩
  ·intro k
   simp only[argSt]
   cases hk:(e_ args 9000).1[k]? with
   | none=>trivial
   | some x=>
    obtain⟨v,h1,h2⟩:=ca_ k x (hcv (Nof κ (argSt args) G w) G.hd hNof (fun _ _ _=>rfl)) hk
    have hkl:k<vs.length:=(List.getElem?_eq_some_iff.1 h1).1
    have:(vs.toArray++Array.replicate (fn.ntmps-vs.toArray.size) undef).getD k undef=v:=by
     simp only[Array.getD_eq_getD_getElem?]
     rw[Array.getElem?_append_left (by simpa using hkl)]
     simp[h1]
    rw[this]
    exact h2
  ·intro c sz es hc
   obtain⟨_,_,g3,g4,g5⟩:=news.rep c sz es (hob c sz es hc)
   exact⟨RepC.frame hNof (fun _ _=>rfl) _ _ _ (fun _ _=>rfl) g3,g4,fun b hb=>⟨.inr (g5 b hb),hFl b (g5 b hb)⟩⟩
  ·intro c c' ⟨sz,es⟩ ⟨sz',es'⟩ h1 h2 hne
   exact news.apart c c' _ _ (hob c sz es h1) (hob c' sz' es' h2) hne
 refine calls_of_wp hf hb (h κ _ w rfl ⟨G,hR⟩ _ ?_)
 intro e st' a' w' ⟨he,hw,hok,hres⟩ ⟨G',hG⟩
 have key:a'.defers=[]∧∃ v,(results fn a'.tmps).run P w'=.ok v w'∧∃ v' F,Ending.returned v=.returned v'∧KeepX Fs w.heap.size w w'∧
  RepR (fun b=>N b∨((w.heap.size≤b∨b∈Fs)∧b<w'.heap.size∧b∉F)) w' res v' F∧F.Nodup∧∀ b∈F,(w.heap.size≤b∨b∈Fs)∧b<w'.heap.size:=by
  obtain⟨vs',h1,h2⟩:=rr_ hG rs hw hok
  refine⟨hG.defers,(if h:vs'.toArray.size=1 then vs'.toArray[0] else .tuple vs'.toArray),?_,(if h:vs'.toArray.size=1 then vs'.toArray[0] else .tuple vs'.toArray),?_⟩
  ·have e1:fn.results=rs.toArray:=by rw[← hrs]
   simp only[results,e1,List.mapM_toArray,Sem.run_bind,Sem.run_map,Sem.run_pure]
   exact congrArg (fun r:Result (List Value)=>((r.andThen fun a w'=>.ok a.toArray w').andThen fun a w'=>.ok (if h:a.size=1 then a[0] else Value.tuple a) w')) h1
  rcases hres with⟨hn,rfl⟩ | rfl
  ·have hown:=CVals.own (fun c sz es hc=>(hG.objs c sz es hc).1) hw h2
   have hlive:=Cnl_ _ hw
   refine⟨fps G'.fp (CV.namess (resCVs P st' rs)),rfl,hG.keep,rRa_ ?_ ?_,fn_1 hG _ hn hlive,?_⟩
   ·have hfr:∀ b,Nof κ st' G' w' b→N b∨((w.heap.size≤b∨b∈Fs)∧b<w'.heap.size∧b∉fps G'.fp (CV.namess (resCVs P st' rs))):=by
     intro b hb
     rcases hb.1 with h | h
     ·exact .inl h
     ·refine .inr ⟨h.1,h.2,fun hm=>hb.2 ?_⟩
      obtain⟨c,hc,hm⟩:=mf_.1 hm
      obtain⟨p,hp⟩:=Option.isSome_iff_exists.1 (hlive c hc)
      exact .inr ⟨c,p,hp,hm⟩
    exact rVf_ hfr (fun _ _=>rfl) (fun _ _=>rfl) hown
   ·exact pn_ hown
   ·intro b hb
    obtain⟨c,hc,hm⟩:=mf_.1 hb
    obtain⟨⟨sz,es⟩,hp⟩:=Option.isSome_iff_exists.1 (hlive c hc)
    exact(hG.objs c sz es hp).2.2 b hm
  ·have hview:=cv_ (N':=fun b=>N b∨((w.heap.size≤b∨b∈Fs)∧b<w'.heap.size∧b∉([]:List Nat))) (ob:=st'.o) (fp:=G'.fp) (fun b (hb:Nof κ st' G' w' b)=>hb.1.imp id (fun h=>⟨h.1,h.2,by simp⟩))
    (fun c sz es hc=>⟨(hG.objs c sz es hc).1,fun b hb=>.inr ⟨((hG.objs c sz es hc).2.2 b hb).1,((hG.objs c sz es hc).2.2 b hb).2,by simp⟩⟩) _ _ hw h2
   exact⟨[],rfl,hG.keep,rRa_ hview (pn_ hview),List.nodup_nil,by simp⟩
 rcases he with rfl | rfl<;>exact key
end Go.Av
