/- A part of the proof: lemmas only; nothing is claimed here beyond what each lemma says. -/
import Derived.Test.YtkoghcphkdecoaaGreatAvK
import Derived.Test.YtkoghcphkdecoaaGreatAv6u
set_option linter.unusedSimpArgs false
set_option linter.unusedVariables false
set_option linter.defProp false
namespace Go.Av
def SatIO(P:Program)(f:FuncId)(args args':List PV)(res:PV):Prop:=
 CallIs P f∧∀ (w:World) (N:Nat→Prop) (vs:List Value) (Fs:List Nat),(∀ b,N b→b<w.heap.size∧b∉Fs)→Fs.Nodup→(∀ b∈Fs,b<w.heap.size)→RepVs N w args vs Fs→
  Calls P f vs.toArray w fun e w'=>∃ v F,e=.returned v∧KeepX Fs w.heap.size w w'∧
   RepVs (fun b=>N b∨((w.heap.size≤b∨b∈Fs)∧b<w'.heap.size∧b∉F)) w' args' vs F∧F.Nodup∧(∀ b∈F,(w.heap.size≤b∨b∈Fs)∧b<w'.heap.size)∧
   RepR (fun b=>N b∨((w.heap.size≤b∨b∈Fs)∧b<w'.heap.size∧b∉F)) w' res v []
def argIO(args:List PV):St:=
 { s:=fun k=>match (e_ args 10000).1[k]? with | some x=>.val x | none=>.dead,o:=updAll (fun _=>none) (newObjs (e_ args 10000).2.1) }
def FinIO(P:Program)(st:St)(rs:List ResultVar)(res:PV)(cvs:List CV)(args':List PV):Prop:=
 CV.wholes st.o (resCVs P st rs)=true∧resOks P st rs∧res=asRes (CV.pvws st.o (resCVs P st rs))∧CV.pures (resCVs P st rs)=true∧CV.wholes st.o cvs=true∧(CV.namess cvs).Nodup∧args'=CV.pvos st.o cvs
theorem SatIO.of_body{P:Program}{f:FuncId}{fn:Func}{c:Code}{args args':List PV}{res:PV}{nt:Nat}{rs:List ResultVar}(hf:P.funcs[f]?=some fn)(hname:(fn.name== "runtime.NumGoroutine")=false)(hb:fn.body=some c)
 (hnt:fn.ntmps=nt) (hrs:fn.results.toList=rs) (hle:args.length≤nt) (h:VC P nt c (argIO args) (fun e st=>(e=.normal∨e=.ret)∧FinIO P st rs res (e_ args 10000).1 args')):SatIO P f args args' res:=by
 refine⟨⟨fn,hf,hname,by simp[hb]⟩,fun w N vs Fs hN hFn hFl hvs=>?_⟩
 have hlen:=rVl_ hvs
 obtain⟨hdv,fpv,news,hcv⟩:=eVo_ args vs Fs 10000 hvs hFn
 have hH:∀ c v,(c,v)∈(e_ args 10000).2.1.map (fun p=>(p.1,hdv p.1))→10000≤c:=by
  intro c v hc
  obtain⟨p,h1,h2⟩:=List.mem_map.1 hc
  cases h2
  exact(news.rep p.1 p.2.1 p.2.2 h1).1
 let κ:Ctx:={ w0:=w,N:=N,L:=Fs,nt:=nt,hN:=hN,hL:=hFl,held:=(e_ args 10000).2.1.map (fun p=>(p.1,hdv p.1)),hH:=hH }
 let G:Gh:={ hd:=hdv,fp:=fpv,ad:=fun _=>0 }
 have hsz:(vs.toArray++Array.replicate (fn.ntmps-vs.toArray.size) undef).size=nt:=by simp[hlen,hnt]; omega
 have hob:∀ c sz es,(argIO args).o c=some (sz,es)→(c,(sz,es))∈(e_ args 10000).2.1:=by
  intro c sz es hc
  simp only[argIO] at hc
  by_cases hm:c∈(e_ args 10000).2.1.map (·.1)
  ·obtain⟨⟨n,p⟩,h1,rfl⟩:=List.mem_map.1 hm
   have h2:(n,some p)∈newObjs (e_ args 10000).2.1:=List.mem_map.2 ⟨(n,p),h1,rfl⟩
   rw[uAm_ _ _ n (some p) (by rw[nOk_]; exact news.once) h2] at hc
   cases hc; exact h1
  ·rw[uAn_ _ _ _ (by rw[nOk_]; exact hm)] at hc; cases hc
 have hnb:∀ k,isBox ((argIO args).s k)=false:=by intro k; simp only[argIO]; split<;>rfl
 have hpriv:∀ b,N b→¬ Priv (argIO args) G b:=by
  rintro b hb (⟨r,h1,_⟩ | ⟨c,⟨sz,es⟩,h1,h2⟩)
  ·rw[hnb] at h1; cases h1
  ·exact(hN b hb).2 ((news.rep c sz es (hob c sz es h1)).2.2.2.2 b h2)
 have hNof:∀ b,N b→Nof κ (argIO args) G w b:=fun b hb=>⟨.inl hb,hpriv b hb⟩
 have hR:RG κ G (argIO args) { tmps:=vs.toArray++Array.replicate (fn.ntmps-vs.toArray.size) undef,defers:=[] } w:=by
  refine⟨KeepX.refl _ _ _,rfl,hsz,?_,?_,fun r hr=>(by rw[hnb] at hr; cases hr),fun r _ hr=>(by rw[hnb] at hr; cases hr),fun r _ _ hr=>(by rw[hnb] at hr; cases hr),?_,fun c v hc=>by
   obtain⟨p,h1,h2⟩:=List.mem_map.1 hc
   cases h2; rfl⟩
  ·intro k
   simp only[argIO]
   cases hk:(e_ args 10000).1[k]? with
   | none=>trivial
   | some x=>
    obtain⟨v,h1,h2⟩:=ca_ k x (hcv (Nof κ (argIO args) G w) G.hd hNof (fun _ _ _=>rfl)) hk
    have hkl:k<vs.length:=(List.getElem?_eq_some_iff.1 h1).1
    have:(vs.toArray++Array.replicate (fn.ntmps-vs.toArray.size) undef).getD k undef=v:=by
     simp only[Array.getD_eq_getD_getElem?]
     rw[Array.getElem?_append_left (by simpa using hkl)]
     simp[h1]
    rw[this]
    exact h2
  ·intro c sz es hc
   obtain⟨_,_,g3,g4,g5⟩:=news.rep c sz es (hob c sz es hc)
   exact⟨RepC.frame hNof (fun _ _=>rfl) _ _ _ (fun _ _=>rfl) g3,g4,fun b hb=>⟨.inr (g5 b hb),hFl b (g5 b hb)⟩⟩
  ·intro c c' ⟨sz,es⟩ ⟨sz',es'⟩ h1 h2 hne
   exact news.apart c c' _ _ (hob c sz es h1) (hob c' sz' es' h2) hne
 refine calls_of_wp hf hb (h κ _ w rfl ⟨G,hR⟩ _ ?_)
 intro e st' a' w' ⟨he,hw,hok,hres,hpu,hca,hnd,har⟩ ⟨G',hG⟩
 have key:a'.defers=[]∧∃ v,(results fn a'.tmps).run P w'=.ok v w'∧∃ v' F,Ending.returned v=.returned v'∧KeepX Fs w.heap.size w w'∧
  RepVs (fun b=>N b∨((w.heap.size≤b∨b∈Fs)∧b<w'.heap.size∧b∉F)) w' args' vs F∧F.Nodup∧(∀ b∈F,(w.heap.size≤b∨b∈Fs)∧b<w'.heap.size)∧
  RepR (fun b=>N b∨((w.heap.size≤b∨b∈Fs)∧b<w'.heap.size∧b∉F)) w' res v' []:=by
  obtain⟨vs',h1,h2⟩:=rr_ hG rs hw hok
  have hlive:=Cnl_ _ hca
  refine⟨hG.defers,(if h:vs'.toArray.size=1 then vs'.toArray[0] else .tuple vs'.toArray),?_,(if h:vs'.toArray.size=1 then vs'.toArray[0] else .tuple vs'.toArray),fps G'.fp (CV.namess (e_ args 10000).1),rfl,hG.keep,?_,fn_1 hG _ hnd hlive,?_,?_⟩
  ·have e1:fn.results=rs.toArray:=by rw[← hrs]
   simp only[results,e1,List.mapM_toArray,Sem.run_bind,Sem.run_map,Sem.run_pure]
   exact congrArg (fun r:Result (List Value)=>((r.andThen fun a w'=>.ok a.toArray w').andThen fun a w'=>.ok (if h:a.size=1 then a[0] else Value.tuple a) w')) h1
  ·have hhd:∀ n,10000≤n→n<(e_ args 10000).2.2→G'.hd n=hdv n:=by
    intro n g1 g2
    obtain⟨p,h3,h4⟩:=List.mem_map.1 (news.all n g1 g2)
    exact hG.held n (hdv n) (List.mem_map.2 ⟨p,h3,by rw[h4]⟩)
   have hc0:=hcv N G'.hd (fun _ h=>h) hhd
   have hc1:CVals N w' G'.hd (e_ args 10000).1 vs:=hc0.frame (fun _ h=>h) (fun b hb=>hG.keep.block b (hN b hb).1 (hN b hb).2) (fun _ _=>rfl)
   have hown:=CVals.own (N:=fun b=>N b∨((w.heap.size≤b∨b∈Fs)∧b<w'.heap.size∧b∉fps G'.fp (CV.namess (e_ args 10000).1))) (fun c sz es hc=>RepC.frame (fun b (hb:Nof κ st' G' w' b)=>?_) (fun _ _=>rfl) _ _ _ (fun _ _=>rfl) (hG.objs c sz es hc).1) hca (hc1.frame (fun _ h=>.inl h) (fun _ _=>rfl) (fun _ _=>rfl))
   ·rw[har]; exact hown
   ·rcases hb.1 with h | h
    ·exact .inl h
    ·refine .inr ⟨h.1,h.2,fun hm=>hb.2 ?_⟩
     obtain⟨c,hc,hm⟩:=mf_.1 hm
     obtain⟨p,hp⟩:=Option.isSome_iff_exists.1 (hlive c hc)
     exact .inr ⟨c,p,hp,hm⟩
  ·intro b hb
   obtain⟨c,hc,hm⟩:=mf_.1 hb
   obtain⟨⟨sz,es⟩,hp⟩:=Option.isSome_iff_exists.1 (hlive c hc)
   exact(hG.objs c sz es hp).2.2 b hm
  ·have hview:=cpV_ (ob:=st'.o) _ _ hpu h2
   have hfr:∀ b,Nof κ st' G' w' b→N b∨((w.heap.size≤b∨b∈Fs)∧b<w'.heap.size∧b∉fps G'.fp (CV.namess (e_ args 10000).1)):=by
    intro b hb
    rcases hb.1 with h | h
    ·exact .inl h
    ·refine .inr ⟨h.1,h.2,fun hm=>hb.2 ?_⟩
     obtain⟨c,hc,hm⟩:=mf_.1 hm
     obtain⟨p,hp⟩:=Option.isSome_iff_exists.1 (hlive c hc)
     exact .inr ⟨c,p,hp,hm⟩
   rw[hres]
   exact rRa_ (rVf_ hfr (fun _ _=>rfl) (by simp) hview) (pn_ hview)
 rcases he with rfl | rfl<;>exact key
theorem SatIO.of_m{P:Program}{nt n:Nat}{f:FuncId}{fn:Func}{c:Code}{args args':List PV}{res:PV}{rs:List ResultVar}(hf:P.funcs[f]?=some fn)(hname:(fn.name== "runtime.NumGoroutine")=false)(hb:fn.body=some c)
 (hnt:fn.ntmps=nt) (hrs:fn.results.toList=rs) (hle:args.length≤nt) (h:Mg P nt (fun st=>FinIO P st rs res (e_ args 10000).1 args') n (.code c) (argIO args) []):SatIO P f args args' res:=
 SatIO.of_body hf hname hb hnt hrs hle (Mg.sound n _ _ _ h)
theorem aIe_(args:List PV):argIO args=⟨updL 0 (e_ args 10000).1 (fun _=>.dead),updAll (fun _=>none) (newObjs (e_ args 10000).2.1)⟩:=by
 simp only[argIO,St.mk.injEq,and_true]
 funext k
 rw[uLa_]
 simp only[Nat.not_lt_zero,if_false,Nat.sub_zero]
 cases (e_ args 10000).1[k]?<;>rfl
end Go.Av

namespace Go.Av
open CV renaming names→bt,namess→aB
mutual
def CV.clean:CV→Bool
 | .pv v=>v.noOwn
 | .own _=>true
 | .node fs=>Cc_ fs
 | .gone _=>false
def Cc_:List CV→Bool
 | []=>true
 | x::xs=>x.clean&&Cc_ xs
end
theorem fc_{f g:Nat→List Nat}:∀ l:List Nat,(∀ c∈l,f c=g c)→fps f l=fps g l
 | [],_=>rfl
 | c::l,h=>by simp only[fps]; rw[h c (by simp),fc_ l (fun c hc=>h c (by simp[hc]))]
section
variable{N N':Nat→Prop}{w w':World}{hd:Nat→Value}{ob:Nat→Option (Nat×List PV)}
def Parts(N':Nat→Prop)(w':World)(hd:Nat→Value)(ob:Nat→Option (Nat×List PV))(ns:List Nat)(F:List Nat):Prop:=
 ∃ fp:Nat→List Nat,(∀ c sz es,c∈ns→ob c=some (sz,es)→RepC N' w' (.sl true sz es) [hd c] (fp c))∧F=fps fp ns
theorem Parts.join{n1 n2 F1 F2:List Nat}(h1:Parts N' w' hd ob n1 F1)(h2:Parts N' w' hd ob n2 F2)(hn:(n1++n2).Nodup):Parts N' w' hd ob (n1++n2) (F1++F2):=by
 obtain⟨f1,a1,rfl⟩:=h1
 obtain⟨f2,a2,rfl⟩:=h2
 have hd':∀ c∈n2,c∉n1:=fun c hc hc'=>(List.nodup_append.1 hn).2.2 c hc' c hc rfl
 refine⟨fun c=>if c∈n1 then f1 c else f2 c,fun c sz es hc ho=>?_,?_⟩
 ·by_cases h:c∈n1
  ·simp only[h,if_true]; exact a1 c sz es h ho
  ·simp only[h,if_false]
   rcases List.mem_append.1 hc with h' | h'
   ·exact absurd h' h
   ·exact a2 c sz es h' ho
 ·rw[fa_]
  congr 1
  ·exact fc_ n1 (fun c hc=>by simp[hc])
  ·exact fc_ n2 (fun c hc=>by simp[hd' c hc])
mutual
theorem RepCV.inv:∀ (x:CV) (cs:List Value) (F:List Nat),x.clean=true→x.whole ob=true→RepCV N w hd x cs→RepC N' w' (x.pvo ob) cs F→x.names.Nodup→Parts N' w' hd ob x.names F
 | .pv v,cs,F,hc,_,_,h,_=>by
  simp only[CV.pvo] at h
  have:=RepC.noOwn v cs F (by simpa[CV.clean] using hc) h
  subst this
  exact⟨fun _=>[],by simp[bt],by simp[bt,fps]⟩
 | .own c,cs,F,_,hw,h0,h,_=>by
  simp only[CV.whole] at hw
  obtain⟨⟨sz,es⟩,he⟩:=Option.isSome_iff_exists.1 hw
  simp only[RepCV] at h0
  simp only[CV.pvo,he] at h
  rw[h0.1] at h
  refine⟨fun _=>F,fun c' sz' es' hc' ho=>?_,by simp[bt,fps]⟩
  simp only[bt,List.mem_singleton] at hc'
  subst hc'
  rw[he] at ho; cases ho
  exact h
 | .node fs,cs,F,hc,hw,h0,h,hn=>by
  simp only[RepCV] at h0
  simp only[CV.pvo,RepC] at h
  simpa only[bt] using RepCVs.inv fs cs F (by simpa[CV.clean] using hc) (by simpa[CV.whole] using hw) h0 h (by simpa[bt] using hn)
 | .gone n,cs,F,hc,_,_,_,_=>by simp[CV.clean] at hc
theorem RepCVs.inv:∀ (xs:List CV) (cs:List Value) (F:List Nat),Cc_ xs=true→CV.wholes ob xs=true→RepCVs N w hd xs cs→RepCs N' w' (CV.pvos ob xs) cs F→(aB xs).Nodup→Parts N' w' hd ob (aB xs) F
 | [],cs,F,_,_,_,h,_=>by
  simp only[CV.pvos,RepCs] at h
  exact⟨fun _=>[],by simp[aB],by simp[aB,fps,h.2]⟩
 | x::xs,cs,F,hc,hw,h0,h,hn=>by
  simp only[Cc_,CV.wholes,Bool.and_eq_true] at hc hw
  simp only[RepCVs] at h0
  simp only[CV.pvos,RepCs] at h
  obtain⟨c1,c2,e1,a1,a2⟩:=h0
  obtain⟨d1,d2,F1,F2,e2,e3,b1,b2⟩:=h
  have hl:c1.length=d1.length:=by
   rw[RepCV.length x c1 a1,RepC.length _ _ _ b1,Csp_ x hw.1]
  have e4:=e1.symm.trans e2
  obtain⟨rfl,rfl⟩:=List.append_inj e4 hl
  subst e3
  simp only[aB] at hn ⊢
  exact(RepCV.inv x c1 F1 hc.1 hw.1 a1 b1 (List.nodup_append.1 hn).1).join (RepCVs.inv xs c2 F2 hc.2 hw.2 a2 b2 (List.nodup_append.1 hn).2.1) hn
end
theorem CVals.inv:∀ (xs:List CV) (vs:List Value) (F:List Nat),Cc_ xs=true→CV.wholes ob xs=true→CVals N w hd xs vs→RepVs N' w' (CV.pvos ob xs) vs F→(aB xs).Nodup→Parts N' w' hd ob (aB xs) F
 | [],vs,F,_,_,_,h,_=>by
  simp only[CV.pvos,RepVs] at h
  exact⟨fun _=>[],by simp[aB],by simp[aB,fps,h.2]⟩
 | x::xs,vs,F,hc,hw,h0,h,hn=>by
  simp only[Cc_,CV.wholes,Bool.and_eq_true] at hc hw
  simp only[CVals] at h0
  simp only[CV.pvos,RepVs] at h
  obtain⟨v,vs',e1,a1,a2⟩:=h0
  obtain⟨u,us,F1,F2,e2,e3,b1,b2⟩:=h
  rw[e1] at e2
  obtain⟨rfl,rfl⟩:=List.cons.inj e2
  subst e3
  simp only[aB] at hn ⊢
  have b1':=b1.cells
  have a1':RepCV N w hd x v.cells.toList:=by
   rcases a1 with⟨_,cs,rfl,h3⟩ | ⟨h1,h2,h3⟩
   ·simpa[Value.cells] using h3
   ·have:=cc_ (x:=x) (v:=v) (.inr ⟨h1,h2,h3⟩); exact this
  exact(RepCV.inv x _ F1 hc.1 hw.1 a1' b1' (List.nodup_append.1 hn).1).join (CVals.inv xs vs' F2 hc.2 hw.2 a2 b2 (List.nodup_append.1 hn).2.1) hn
end
end Go.Av

namespace Go.Av
theorem fps_nd{fp:Nat→List Nat}:∀ ns:List Nat,(fps fp ns).Nodup→(∀ c∈ns,(fp c).Nodup)
 | [],_,c,hc=>by simp at hc
 | n::ns,h,c,hc=>by
  simp only[fps,List.nodup_append] at h
  rcases List.mem_cons.1 hc with rfl | hc
  ·exact h.1
  ·exact fps_nd ns h.2.1 c hc
theorem fps_dj{fp:Nat→List Nat}:∀ ns:List Nat,(fps fp ns).Nodup→∀ c∈ns,∀ c'∈ns,c≠c'→∀ b∈fp c,b∉fp c'
 | [],_,c,hc,_,_,_,_,_=>by simp at hc
 | n::ns,h,c,hc,c',hc',hne,b,hb=>by
  simp only[fps,List.nodup_append] at h
  intro hb'
  rcases List.mem_cons.1 hc with e | k1<;>rcases List.mem_cons.1 hc' with e' | k2
  ·exact hne (e.trans e'.symm)
  ·subst e; exact h.2.2 b hb b (mf_.2 ⟨c',k2,hb'⟩) rfl
  ·subst e'; exact h.2.2 b hb' b (mf_.2 ⟨c,k1,hb⟩) rfl
  ·exact fps_dj ns h.2.1 c k1 c' k2 hne b hb hb'
def setO(ns:List Nat)(ob':Nat→Option (Nat×List PV))(o:Nat→Option (Nat×List PV)):Nat→Option (Nat×List PV):=fun c=>if c∈ns then ob' c else o c
theorem RG.setObjs{κ:Ctx}{G:Gh}{st:St}{a:Act}{w w':World}{ns F:List Nat}{ob':Nat→Option (Nat×List PV)}(h:RG κ G st a w)(hlive:∀ c∈ns,(st.o c).isSome=true)
 (hk:KeepX (fps G.fp ns) w.heap.size w w') (hF:∀ b∈F,(w.heap.size≤b∨b∈fps G.fp ns)∧b<w'.heap.size) (hFn:F.Nodup)
 (hp:Parts (fun b=>Nof κ st G w b∨((w.heap.size≤b∨b∈fps G.fp ns)∧b<w'.heap.size∧b∉F)) w' G.hd ob' ns F):
 ∃ G',G'.hd=G.hd∧RG κ G' { s:=st.s,o:=setO ns ob' st.o } a w'∧∀ b,(Nof κ st G w b∨((w.heap.size≤b∨b∈fps G.fp ns)∧b<w'.heap.size∧b∉F))→Nof κ { s:=st.s,o:=setO ns ob' st.o } G' w' b:=by
 obtain⟨fp',hrep,rfl⟩:=hp
 have hbs:=h.keep.size
 let G':Gh:={ hd:=G.hd,fp:=fun c=>if c∈ns then fp' c else G.fp c,ad:=G.ad }
 have hin:∀ b,b∈fps G.fp ns→∃ c p,c∈ns∧st.o c=some p∧b∈G.fp c:=by
  intro b hb
  obtain⟨c,hc,hm⟩:=mf_.1 hb
  obtain⟨p,hp⟩:=Option.isSome_iff_exists.1 (hlive c hc)
  exact⟨c,p,hc,hp,hm⟩
 have hXlt:∀ b,b∈fps G.fp ns→(κ.w0.heap.size≤b∨b∈κ.L)∧b<w.heap.size:=by
  intro b hb
  obtain⟨c,p,_,hp,hm⟩:=hin b hb
  exact(h.objs c p.1 p.2 hp).2.2 b hm
 have hlt:∀ b,Nof κ st G w b→b<w.heap.size:=fun b hb=>hb.lt h
 have hNX:∀ b,Nof κ st G w b→b∉fps G.fp ns:=by
  intro b hb hm
  obtain⟨c,p,_,hp,hm⟩:=hin b hm
  exact hb.2 (.inr ⟨c,p,hp,hm⟩)
 have hbX:∀ r,isBox (st.s r)=true→G.ad r∉fps G.fp ns:=by
  intro r hr hm
  obtain⟨c,p,_,hp,hm⟩:=hin _ hm
  exact h.bo r c p hr hp hm
 have hoX:∀ c p,c∉ns→st.o c=some p→∀ b∈G.fp c,b∉fps G.fp ns:=by
  intro c p hc ho b hb hm
  obtain⟨c',p',hc',hp',hm'⟩:=hin b hm
  exact h.oo c c' p p' ho hp' (fun e=>hc (e▸hc')) b hb hm'
 have hob:∀ c p,setO ns ob' st.o c=some p→(c∈ns∧ob' c=some p)∨(c∉ns∧st.o c=some p):=by
  intro c p hc
  simp only[setO] at hc
  by_cases hm:c∈ns
  ·simp only[hm,if_true] at hc; exact .inl ⟨hm,hc⟩
  ·simp only[hm,if_false] at hc; exact .inr ⟨hm,hc⟩
 have fin:∀ c,c∈ns→G'.fp c=fp' c:=fun c hc=>by simp[G',hc]
 have fout:∀ c,c∉ns→G'.fp c=G.fp c:=fun c hc=>by simp[G',hc]
 have hsubF:∀ c∈ns,∀ b∈fp' c,b∈fps fp' ns:=fun c hc b hb=>mf_.2 ⟨c,hc,hb⟩
 have hNw:∀ b,Nof κ st G w b→Nof κ { s:=st.s,o:=setO ns ob' st.o } G' w' b:=by
  intro b hb
  refine⟨?_,fun hp=>?_⟩
  ·rcases hb.1 with h1 | h1
   ·exact .inl h1
   ·exact .inr ⟨h1.1,Nat.lt_of_lt_of_le h1.2 hk.size⟩
  ·rcases hp with⟨r,h1,h2⟩ | ⟨c,p,h1,h2⟩
   ·exact hb.2 (.inl ⟨r,h1,h2⟩)
   ·rcases hob c p h1 with⟨hm,ho⟩ | ⟨hm,ho⟩
    ·rw[fin c hm] at h2
     rcases (hF b (hsubF c hm b h2)).1 with h3 | h3
     ·have:=hlt b hb; omega
     ·exact hNX b hb h3
    ·rw[fout c hm] at h2; exact hb.2 (.inr ⟨c,p,ho,h2⟩)
 have hNn:∀ b,(Nof κ st G w b∨((w.heap.size≤b∨b∈fps G.fp ns)∧b<w'.heap.size∧b∉fps fp' ns))→Nof κ { s:=st.s,o:=setO ns ob' st.o } G' w' b:=by
  rintro b (hb | ⟨h1,h2,h3⟩)
  ·exact hNw b hb
  ·refine⟨.inr ⟨?_,h2⟩,fun hp=>?_⟩
   ·rcases h1 with h1 | h1
    ·exact .inl (by omega)
    ·exact(hXlt b h1).1
   ·rcases hp with⟨r,g1,g2⟩ | ⟨c,p,g1,g2⟩
    ·rcases h1 with h1 | h1
     ·have:=(h.boxes r g1).2; simp only[G'] at g2; omega
     ·exact hbX r g1 (g2▸h1)
    ·rcases hob c p g1 with⟨hm,ho⟩ | ⟨hm,ho⟩
     ·rw[fin c hm] at g2; exact h3 (hsubF c hm b g2)
     ·rw[fout c hm] at g2
      rcases h1 with h1 | h1
      ·have:=((h.objs c p.1 p.2 ho).2.2 b g2).2; omega
      ·exact hoX c p hm ho b g2 h1
 have hw:∀ b,b<w.heap.size→b∉fps G.fp ns→w'.heap[b]?=w.heap[b]?:=hk.block
 have hFold:∀ b∈fps fp' ns,b<w.heap.size→b∈fps G.fp ns:=fun b hb hl=>by
  rcases (hF b hb).1 with h1 | h1
  ·omega
  ·exact h1
 refine⟨G',rfl,⟨h.keep.trans ⟨hk.os,hk.tape,hk.output,hk.size,fun k hk1 hkL=>hw k (by omega) (fun hm=>?_)⟩,h.defers,h.nt,
  fun k=>(h.slots k).frame hNw (fun b hb=>hw b (hlt b hb) (hNX b hb)) (fun _ _=>rfl) (fun _ _=>rfl) (fun hb=>⟨rfl,hw _ (h.boxes k hb).2 (hbX k hb)⟩),?_,fun r hr=>⟨(h.boxes r hr).1,Nat.lt_of_lt_of_le (h.boxes r hr).2 hk.size⟩,h.bb,?_,?_,h.held⟩,hNn⟩
 ·rcases (hXlt k hm).1 with h1 | h1
  ·omega
  ·exact hkL h1
 ·intro c sz es hc
  rcases hob c _ hc with⟨hm,ho⟩ | ⟨hm,ho⟩
  ·rw[fin c hm]
   refine⟨RepC.frame hNn (fun _ _=>rfl) _ _ _ (fun _ _=>rfl) (hrep c sz es hm ho),fps_nd ns hFn c hm,fun b hb=>⟨?_,(hF b (hsubF c hm b hb)).2⟩⟩
   rcases (hF b (hsubF c hm b hb)).1 with h1 | h1
   ·exact .inl (by omega)
   ·exact(hXlt b h1).1
  ·rw[fout c hm]
   obtain⟨g1,g2,g3⟩:=h.objs c sz es ho
   exact⟨RepC.frame hNw (fun b hb=>hw b (hlt b hb) (hNX b hb)) _ _ _ (fun b hb=>hw b (g3 b hb).2 (hoX c _ hm ho b hb)) g1,g2,fun b hb=>⟨(g3 b hb).1,Nat.lt_of_lt_of_le (g3 b hb).2 hk.size⟩⟩
 ·intro r c p hr hc hm
  rcases hob c p hc with⟨hcm,ho⟩ | ⟨hcm,ho⟩
  ·rw[fin c hcm] at hm
   exact hbX r hr (hFold _ (hsubF c hcm _ hm) (h.boxes r hr).2)
  ·rw[fout c hcm] at hm; exact h.bo r c p hr ho hm
 ·intro c c' p p' hc hc' hne b hb hb'
  rcases hob c p hc with⟨hm,ho⟩ | ⟨hm,ho⟩<;>rcases hob c' p' hc' with⟨hm',ho'⟩ | ⟨hm',ho'⟩
  ·rw[fin c hm] at hb; rw[fin c' hm'] at hb'; exact fps_dj ns hFn c hm c' hm' hne b hb hb'
  ·rw[fin c hm] at hb; rw[fout c' hm'] at hb'
   exact hoX c' p' hm' ho' b hb' (hFold b (hsubF c hm b hb) ((h.objs c' p'.1 p'.2 ho').2.2 b hb').2)
  ·rw[fout c hm] at hb; rw[fin c' hm'] at hb'
   exact hoX c p hm ho b hb (hFold b (hsubF c' hm' b hb') ((h.objs c p.1 p.2 ho).2.2 b hb).2)
  ·rw[fout c hm] at hb; rw[fout c' hm'] at hb'; exact h.oo c c' p p' ho ho' hne b hb hb'
end Go.Av

namespace Go.Av
open CV renaming wholes→aE,namess→aB,pvos→aK
theorem uAs_{ob':Nat→Option (Nat×List PV)}:∀ (ns:List Nat) (f:Nat→Option (Nat×List PV)),updAll f (ns.map fun c=>(c,ob' c))=setO ns ob' f
 | [],f=>by funext c; simp[updAll,setO]
 | n::ns,f=>by
  simp only[List.map_cons,updAll]
  rw[uAs_ ns]
  funext c
  simp only[setO,upd,List.mem_cons]
  by_cases h:c∈ns
  ·simp[h]
  ·by_cases e:c=n
   ·subst e; simp[h]
   ·simp[h,e]
theorem vcI_1{P:Program}{nt:Nat}{o:Oper}{st:St}{d:Nat}{g:Operand}{args:Array Operand}{tys:Array TypeId}{f:FuncId}{T1:TypeId}{u:Value}{xs:List CV}{ob':Nat→Option (Nat×List PV)}
 (hop:o.op=.call { callee:=.value g,args:=args,argTypes:=tys }) (hdst:o.dst=some d) (hd:d<nt)
 (hg:ev P st T1 g=.val (.pv (.clo f []))) (hxs:argCVs P st args.toList tys.toList=xs) (hw:aE st.o xs=true) (hcl:Cc_ xs=true) (hn:(aB xs).Nodup) (hw2:aE ob' xs=true)
 (hsat:SatIO P f (aK st.o xs) (aK ob' xs) (.lit u)):
 Valid P nt o st { rs:=rd g++args.toList.flatMap rd,ro:=aB xs,us:=[(d,.val (.pv (.lit u)))],uo:=(aB xs).map fun c=>(c,ob' c) }:=by
 intro κ st' a w hnt hsame hfresh hR next Q hnext
 obtain⟨G,hG⟩:=hR
 obtain⟨hci,hcalls⟩:=hsat
 have hob:∀ (xs:List CV),(∀ n∈aB xs,st'.o n=st.o n)→aE st'.o xs=aE st.o xs∧CV.pvws st'.o xs=CV.pvws st.o xs∧aK st'.o xs=aK st.o xs:=by
  intro xs hx
  have key:∀ x:CV,(∀ n∈x.names,st'.o n=st.o n)→x.whole st'.o=x.whole st.o∧x.pvw st'.o=x.pvw st.o∧x.pvo st'.o=x.pvo st.o:=by
   intro x
   refine CV.rec (motive_1:=fun x=>(∀ n∈x.names,st'.o n=st.o n)→x.whole st'.o=x.whole st.o∧x.pvw st'.o=x.pvw st.o∧x.pvo st'.o=x.pvo st.o)
    (motive_2:=fun xs=>(∀ n∈aB xs,st'.o n=st.o n)→aE st'.o xs=aE st.o xs∧CV.pvws st'.o xs=CV.pvws st.o xs∧aK st'.o xs=aK st.o xs) ?_ ?_ ?_ ?_ ?_ ?_ x
   ·intro v _; exact⟨rfl,rfl,rfl⟩
   ·intro n h; have:=h n (by simp[CV.names]); exact⟨by simp[CV.whole,this],by simp[CV.pvw,this],by simp[CV.pvo,this]⟩
   ·intro fs ih h; have:=ih (by simpa[CV.names] using h); exact⟨by simpa[CV.whole] using this.1,by simp[CV.pvw,this.2.1],by simp[CV.pvo,this.2.2]⟩
   ·intro n _; exact⟨rfl,rfl,rfl⟩
   ·intro _; exact⟨rfl,rfl,rfl⟩
   ·intro y ys i1 i2 h
    have h1:=i1 (fun n hn=>h n (by simp[aB,hn]))
    have h2:=i2 (fun n hn=>h n (by simp[aB,hn]))
    exact⟨by simp[aE,h1.1,h2.1],by simp[CV.pvws,h1.2.1,h2.2.1],by simp[aK,h1.2.2,h2.2.2]⟩
  induction xs with
  | nil=>exact⟨rfl,rfl,rfl⟩
  | cons y ys ih=>
   have h1:=key y (fun n hn=>hx n (by simp[aB,hn]))
   have h2:=ih (fun n hn=>hx n (by simp[aB,hn]))
   exact⟨by simp[aE,h1.1,h2.1],by simp[CV.pvws,h1.2.1,h2.2.1],by simp[aK,h1.2.2,h2.2.2]⟩
 obtain⟨hw',hv',ho'⟩:=hob xs hsame.2
 have hwx:aE st'.o xs=true:=by rw[hw']; exact hw
 have hcv:=ao_1 (P:=P) (st:=st) hG args.toList tys.toList (fun k hk=>hsame.1 k (by simp only[List.mem_append]; exact .inr hk)) (by rw[hxs]; exact hwx)
 rw[hxs] at hcv
 have hgv:=ev_ok (P:=P) (T:=T1) hG g 0
 rw[ec_ (fun k hk=>hsame.1 k (by simp[hk])),hg] at hgv
 rcases hgv with⟨hgv,_⟩ | ⟨_,hgv,_⟩
 ·simp[CV.isAgg] at hgv
 simp only[RepCV,RepC] at hgv
 obtain⟨vals,hg1,_,hg3,_⟩:=hgv
 simp at hg1
 simp only[RepCs] at hg3
 obtain⟨rfl,_⟩:=hg3
 have hrun:(execOp a.eval o).run P w=.ok (.enter f (args.map a.eval)) w:=by
  simp[execOp,hop,resolve,hg1,Deferred.ofValue,invoke,rcF_ hci]
 have harr:args.map a.eval=(args.toList.map a.eval).toArray:=by apply Array.ext'; simp
 have hlive:∀ c∈aB xs,(st'.o c).isSome=true:=Cnl_ _ hwx
 have hXlt:∀ b∈fps G.fp (aB xs),b<w.heap.size:=by
  intro b hb
  obtain⟨c,hc,hm⟩:=mf_.1 hb
  obtain⟨p,hp⟩:=Option.isSome_iff_exists.1 (hlive c hc)
  exact((hG.objs c p.1 p.2 hp).2.2 b hm).2
 have hXn:(fps G.fp (aB xs)).Nodup:=fn_1 hG _ hn hlive
 have hNX:∀ b,Nof κ st' G w b→b∉fps G.fp (aB xs):=by
  intro b hb hm
  obtain⟨c,hc,hm⟩:=mf_.1 hm
  obtain⟨p,hp⟩:=Option.isSome_iff_exists.1 (hlive c hc)
  exact hb.2 (.inr ⟨c,p,hp,hm⟩)
 have hown:=CVals.own (fun c sz es hc=>(hG.objs c sz es hc).1) hwx hcv
 rw[ho'] at hown
 unfold Oper.wp
 rw[hrun]
 simp only[Oper.upon]
 rw[harr]
 refine(hcalls w (Nof κ st' G w) _ _ (fun b hb=>⟨hb.lt hG,hNX b hb⟩) hXn hXlt hown).mono ?_
 rintro e w'' ⟨v,F,rfl,hk,hr,hFn,hF,hres⟩
 have hp:=CVals.inv (ob:=ob') xs _ F hcl hw2 hcv hr hn
 obtain⟨G',hhd,hG',hN'⟩:=hG.setObjs hlive hk hF hFn hp
 have hv:v=u∧u.oneCell'=true:=by
  simp only[RepR,RepV,RepC] at hres
  exact⟨by simpa using hres.1,hres.2.1⟩
 rw[hdst]
 refine hnext _ _ ?_
 have:=R.set (sv:=.val (.pv (.lit u))) (v:=v) (d:=d) G' hG' (by rw[hnt]; exact hd) rfl (by rw[hv.1]; exact sOl_ hv.2)
 simpa[St.app,updAll,St.set,uAs_] using this
end Go.Av
