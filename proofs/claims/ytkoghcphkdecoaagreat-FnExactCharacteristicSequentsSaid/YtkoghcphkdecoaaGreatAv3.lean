/- A part of the proof: lemmas only; nothing is claimed here beyond what each lemma says. -/
import Derived.Test.YtkoghcphkdecoaaGreatAv1
set_option linter.unusedSimpArgs false
set_option linter.unusedVariables false
set_option linter.defProp false
namespace Go.Av

inductive CV where
 | pv (v:PV)
 | own (c:Nat)
 | node (fs:List CV)
 | gone (n:Nat)
instance:Inhabited CV:=⟨.gone 0⟩

inductive Sh where
 | ptr
 | mp
 | clo (f:FuncId) (pat:List Bool)
def fP_:List Bool→Nat→List Value→List Value
 | [],_,_=>[]
 | true::p,b,vs=>.pointer (some ⟨b,0,none⟩)::fP_ p b vs
 | false::p,b,v::vs=>v::fP_ p b vs
 | false::p,b,[]=>undef::fP_ p b []
def Sh.val:Sh→Nat→List Value→Value
 | .ptr,b,_=>.pointer (some ⟨b,0,none⟩)
 | .mp,b,_=>.map (some b)
 | .clo f pat,b,vs=>.func (.func f) #[] (fP_ pat b vs).toArray
abbrev MEnt:=ByteArray×PV×Nat
inductive HC where
 | cv (x:CV)
 | mp (es:List MEnt) (clock:Nat)
 | it (r since:Nat) (seen:List Nat) (last:Nat)
instance:Inhabited HC:=⟨.mp [] 0⟩

mutual
def CV.size:CV→Nat
 | .pv v=>v.size
 | .own _=>1
 | .node fs=>CV.sizes fs
 | .gone n=>n
def CV.sizes:List CV→Nat
 | []=>0
 | x::xs=>x.size+CV.sizes xs
end

inductive SlotV where
 | dead
 | val (x:CV)
 | tup (xs:List CV)
 | box (x:CV)
 | bptr (r:Nat) (path:List Nat) (off:Nat)
 | eptr (c sz i:Nat) (path:List Nat) (off:Nat)
 | ex (Q:Value→Prop)
 | fn (cs rs:List Nat) (ps:List PV) (f:List Value→List Nat→List Value→Value)
 | hold (sh:Sh) (ps:List PV) (x:HC)
 | hptr (r:Nat) (sh:Sh) (ps:List PV)
instance:Inhabited SlotV:=⟨.dead⟩

structure St where
 s:Nat→SlotV
 o:Nat→Option (Nat×List PV)

structure Gh where
 hd:Nat→Value
 fp:Nat→List Nat
 ad:Nat→Nat

structure KeepX(L:List Nat)(B:Nat)(w w':World):Prop where
 os:w'.os=w.os
 tape:w'.tape=w.tape
 output:w'.output=w.output
 size:w.heap.size≤w'.heap.size
 block:∀ k,k<B→k∉L→w'.heap[k]?=w.heap[k]?
theorem KeepX.refl(L:List Nat)(B:Nat)(w:World):KeepX L B w w:=⟨rfl,rfl,rfl,Nat.le_refl _,fun _ _ _=>rfl⟩
theorem KeepX.trans{L:List Nat}{B:Nat}{a b c:World}(h:KeepX L B a b)(k:KeepX L B b c):KeepX L B a c:=
 ⟨k.os.trans h.os,k.tape.trans h.tape,k.output.trans h.output,Nat.le_trans h.size k.size,fun i hi hl=>(k.block i hi hl).trans (h.block i hi hl)⟩
theorem KeepX.of_below{L:List Nat}{B:Nat}{w w':World}(h:RowKit.Below B w w'):KeepX L B w w':=⟨h.os,h.tape,h.output,h.size,fun k hk _=>h.block k hk⟩

structure Ctx where
 w0:World
 N:Nat→Prop
 L:List Nat
 nt:Nat
 held:List (Nat×Value):=[]
 hH:∀ c v,(c,v)∈held→10000≤c:=by simp
 hN:∀ b,N b→b<w0.heap.size∧b∉L
 hL:∀ b∈L,b<w0.heap.size

mutual
def RepCV(N:Nat→Prop)(w:World)(hd:Nat→Value):CV→List Value→Prop
 | .pv v,cs=>RepC N w v cs []
 | .own c,cs=>cs=[hd c]∧(hd c).oneCell'=true
 | .node fs,cs=>RepCVs N w hd fs cs
 | .gone n,cs=>cs.length=n∧∀ u∈cs,u.oneCell'=true
def RepCVs(N:Nat→Prop)(w:World)(hd:Nat→Value):List CV→List Value→Prop
 | [],cs=>cs=[]
 | x::xs,cs=>∃ c1 c2,cs=c1++c2∧RepCV N w hd x c1∧RepCVs N w hd xs c2
end

def CV.isAgg:CV→Bool
 | .node _=>true
 | .pv (.agg _)=>true
 | _=>false

def CVal(N:Nat→Prop)(w:World)(hd:Nat→Value)(x:CV)(v:Value):Prop:=
 (x.isAgg=true∧∃ cs,v=.agg cs.toArray∧RepCV N w hd x cs)∨(x.isAgg=false∧RepCV N w hd x [v]∧v.oneCell'=true)

def CVals(N:Nat→Prop)(w:World)(hd:Nat→Value):List CV→List Value→Prop
 | [],vs=>vs=[]
 | x::xs,vs=>∃ v vs',vs=v::vs'∧CVal N w hd x v∧CVals N w hd xs vs'

def MapIs(N:Nat→Prop)(w:World):List MEnt→List MapEntry→Prop
 | [],es=>es=[]
 | (k,p,s)::kv,es=>∃ e es',es=e::es'∧e.key=.string k∧e.born=s∧RepV N w p e.val []∧MapIs N w kv es'
def HCok(N:Nat→Prop)(w:World)(hd:Nat→Value)(ad:Nat→Nat)(b:Nat):HC→Prop
 | .cv x=>∃ cs e,w.heap[b]?=some (.cells cs.toArray e (0,0))∧RepCV N w hd x cs
 | .mp kv clock=>∃ es:List MapEntry,w.heap[b]?=some (.map es.toArray clock)∧MapIs N w kv es∧(kv.map (·.1)).Nodup∧(kv.map (·.2.2)).Nodup∧∀ e∈kv,e.2.2<clock
 | .it r since seen last=>w.heap[b]?=some (.mapIter (some (ad r)) since seen.toArray last)

def SlotOk(N:Nat→Prop)(w:World)(G:Gh)(k:Nat)(v:Value):SlotV→Prop
 | .dead=>True
 | .val x=>CVal N w G.hd x v
 | .tup xs=>∃ vs,v=.tuple vs.toArray∧CVals N w G.hd xs vs
 | .box x=>v=.pointer (some ⟨G.ad k,0,none⟩)∧∃ cs e,w.heap[G.ad k]?=some (.cells cs.toArray e (0,0))∧RepCV N w G.hd x cs
 | .bptr r _ off=>v=.pointer (some ⟨G.ad r,off,none⟩)
 | .eptr c sz i _ off=>∃ b n cap,G.hd c=.slice (some ⟨b,0,none⟩) n cap∧v=.pointer (some ⟨b,i*sz+off,none⟩)
 | .ex Q=>Q v
 | .fn cs rs ps f=>∃ vals,RepCs N w ps vals []∧v=f (cs.map G.hd) (rs.map G.ad) vals
 | .hold sh ps x=>∃ vals,RepCs N w ps vals []∧v=sh.val (G.ad k) vals∧HCok N w G.hd G.ad (G.ad k) x
 | .hptr r sh ps=>∃ vals,RepCs N w ps vals []∧v=sh.val (G.ad r) vals

def isBox:SlotV→Bool
 | .box _=>true
 | .hold ..=>true
 | _=>false

def Priv(st:St)(G:Gh)(b:Nat):Prop:=(∃ r,isBox (st.s r)=true∧b=G.ad r)∨(∃ c p,st.o c=some p∧b∈G.fp c)

def Nof(κ:Ctx)(st:St)(G:Gh)(w:World)(b:Nat):Prop:=(κ.N b∨((κ.w0.heap.size≤b∨b∈κ.L)∧b<w.heap.size))∧¬ Priv st G b

structure RG(κ:Ctx)(G:Gh)(st:St)(a:Act)(w:World):Prop where
 keep:KeepX κ.L κ.w0.heap.size κ.w0 w
 defers:a.defers=[]
 nt:a.tmps.size=κ.nt
 slots:∀ k,SlotOk (Nof κ st G w) w G k (a.tmps.getD k undef) (st.s k)
 objs:∀ c sz es,st.o c=some (sz,es)→RepC (Nof κ st G w) w (.sl true sz es) [G.hd c] (G.fp c)∧(G.fp c).Nodup∧∀ b∈G.fp c,(κ.w0.heap.size≤b∨b∈κ.L)∧b<w.heap.size
 boxes:∀ r,isBox (st.s r)=true→(κ.w0.heap.size≤G.ad r∨G.ad r∈κ.L)∧G.ad r<w.heap.size
 bb:∀ r r',isBox (st.s r)=true→isBox (st.s r')=true→G.ad r=G.ad r'→r=r'
 bo:∀ r c p,isBox (st.s r)=true→st.o c=some p→G.ad r∉G.fp c
 oo:∀ c c' p p',st.o c=some p→st.o c'=some p'→c≠c'→∀ b∈G.fp c,b∉G.fp c'
 held:∀ c v,(c,v)∈κ.held→G.hd c=v

def R(κ:Ctx)(st:St)(a:Act)(w:World):Prop:=∃ G,RG κ G st a w

mutual
def CV.noC(c:Nat):CV→Bool
 | .pv _=>true
 | .own c'=>c' != c
 | .node fs=>CnC_ c fs
 | .gone _=>true
def CnC_(c:Nat):List CV→Bool
 | []=>true
 | x::xs=>x.noC c&&CnC_ c xs
end
def HC.noC(c:Nat):HC→Bool
 | .cv x=>x.noC c
 | _=>true
def HC.noR(r:Nat):HC→Bool
 | .it r' _ _ _=>r' != r
 | _=>true
def SlotV.noC(c:Nat):SlotV→Bool
 | .dead | .bptr .. | .ex _ | .hptr ..=>true
 | .hold _ _ x=>x.noC c
 | .val x | .box x=>x.noC c
 | .tup xs=>CnC_ c xs
 | .eptr c' _ _ _ _=>c' != c
 | .fn cs _ _ _=>!cs.contains c
def SlotV.noR(r:Nat):SlotV→Bool
 | .bptr r' _ _=>r' != r
 | .fn _ rs _ _=>!rs.contains r
 | .hold _ _ x=>x.noR r
 | .hptr r' _ _=>r' != r
 | _=>true

mutual
theorem RepCV.frame{N N':Nat→Prop}{w w':World}{hd hd':Nat→Value}(hN:∀ b,N b→N' b)(hw:∀ b,N b→w'.heap[b]?=w.heap[b]?):
 ∀ (x:CV) (cs:List Value),(∀ c,x.noC c=false→hd' c=hd c)→RepCV N w hd x cs→RepCV N' w' hd' x cs
 | .pv v,cs,_,h=>by simp only[RepCV] at h ⊢; exact RepC.frame hN hw v cs [] (by simp) h
 | .own c,cs,hc,h=>by simp only[RepCV] at h ⊢; rw[hc c (by simp[CV.noC])]; exact h
 | .node fs,cs,hc,h=>by simp only[RepCV] at h ⊢; exact RepCVs.frame hN hw fs cs (fun c hh=>hc c (by simpa[CV.noC] using hh)) h
 | .gone n,cs,_,h=>by simpa only[RepCV] using h
theorem RepCVs.frame{N N':Nat→Prop}{w w':World}{hd hd':Nat→Value}(hN:∀ b,N b→N' b)(hw:∀ b,N b→w'.heap[b]?=w.heap[b]?):
 ∀ (xs:List CV) (cs:List Value),(∀ c,CnC_ c xs=false→hd' c=hd c)→RepCVs N w hd xs cs→RepCVs N' w' hd' xs cs
 | [],cs,_,h=>by simpa only[RepCVs] using h
 | x::xs,cs,hc,h=>by
  simp only[RepCVs] at h ⊢
  obtain⟨c1,c2,h1,h2,h3⟩:=h
  exact⟨c1,c2,h1,RepCV.frame hN hw x c1 (fun c hh=>hc c (by simp[CnC_,hh])) h2,RepCVs.frame hN hw xs c2 (fun c hh=>hc c (by simp[CnC_,hh])) h3⟩
end

theorem CVal.frame{N N':Nat→Prop}{w w':World}{hd hd':Nat→Value}(hN:∀ b,N b→N' b)(hw:∀ b,N b→w'.heap[b]?=w.heap[b]?)
 {x:CV} {v:Value} (hc:∀ c,x.noC c=false→hd' c=hd c) (h:CVal N w hd x v):CVal N' w' hd' x v:=by
 rcases h with⟨h1,cs,h2,h3⟩ | ⟨h1,h2,h3⟩
 ·exact .inl ⟨h1,cs,h2,RepCV.frame hN hw x cs hc h3⟩
 ·exact .inr ⟨h1,RepCV.frame hN hw x _ hc h2,h3⟩
theorem CVals.frame{N N':Nat→Prop}{w w':World}{hd hd':Nat→Value}(hN:∀ b,N b→N' b)(hw:∀ b,N b→w'.heap[b]?=w.heap[b]?):
 ∀ {xs:List CV} {vs:List Value},(∀ c,CnC_ c xs=false→hd' c=hd c)→CVals N w hd xs vs→CVals N' w' hd' xs vs
 | [],vs,_,h=>by simpa only[CVals] using h
 | x::xs,vs,hc,h=>by
  simp only[CVals] at h ⊢
  obtain⟨v,vs',h1,h2,h3⟩:=h
  exact⟨v,vs',h1,h2.frame hN hw (fun c hh=>hc c (by simp[CnC_,hh])),CVals.frame hN hw (fun c hh=>hc c (by simp[CnC_,hh])) h3⟩

theorem RepV.frame0{N N':Nat→Prop}{w w':World}(hN:∀ b,N b→N' b)(hw:∀ b,N b→w'.heap[b]?=w.heap[b]?){p:PV}{v:Value}(h:RepV N w p v []):RepV N' w' p v []:=by
 cases p with
 | agg fs=>obtain⟨cs,e,h⟩:=h; exact⟨cs,e,RepCs.frame hN hw fs cs [] (by simp) h⟩
 | _=>exact RepC.frame hN hw _ _ [] (by simp) h
theorem MapIs.frame{N N':Nat→Prop}{w w':World}(hN:∀ b,N b→N' b)(hw:∀ b,N b→w'.heap[b]?=w.heap[b]?):∀ (kv:List MEnt) (es:List MapEntry),MapIs N w kv es→MapIs N' w' kv es
 | [],_,h=>h
 | (k,p,s)::kv,es,h=>by
  obtain⟨e,es',h1,h2,h3,h4,h5⟩:=h
  exact⟨e,es',h1,h2,h3,h4.frame0 hN hw,MapIs.frame hN hw kv es' h5⟩
theorem HCok.frame{N N':Nat→Prop}{w w':World}{hd hd':Nat→Value}{ad ad':Nat→Nat}{b:Nat}{x:HC}(hN:∀ b,N b→N' b)(hw:∀ b,N b→w'.heap[b]?=w.heap[b]?)
 (hc:∀ c,x.noC c=false→hd' c=hd c) (hr:∀ r,x.noR r=false→ad' r=ad r) (hb:w'.heap[b]?=w.heap[b]?) (h:HCok N w hd ad b x):HCok N' w' hd' ad' b x:=by
 cases x with
 | cv x=>obtain⟨cs,e,h1,h2⟩:=h; exact⟨cs,e,hb.trans h1,RepCV.frame hN hw x cs (fun c hh=>hc c (by simpa[HC.noC] using hh)) h2⟩
 | mp kv clock=>obtain⟨es,h1,h2,h3⟩:=h; exact⟨es,hb.trans h1,MapIs.frame hN hw kv es h2,h3⟩
 | it r since seen last=>simp only[HCok] at h ⊢; rw[hr r (by simp[HC.noR]),hb]; exact h

theorem SlotOk.frame{N N':Nat→Prop}{w w':World}{G G':Gh}{k:Nat}{v:Value}{sv:SlotV}(hN:∀ b,N b→N' b)(hw:∀ b,N b→w'.heap[b]?=w.heap[b]?)
 (hc:∀ c,sv.noC c=false→G'.hd c=G.hd c) (hr:∀ r,sv.noR r=false→G'.ad r=G.ad r) (hb:isBox sv=true→G'.ad k=G.ad k∧w'.heap[G.ad k]?=w.heap[G.ad k]?)
 (h:SlotOk N w G k v sv):SlotOk N' w' G' k v sv:=by
 cases sv with
 | dead=>trivial
 | val x=>exact CVal.frame hN hw (fun c hh=>hc c (by simpa[SlotV.noC] using hh)) h
 | tup xs=>obtain⟨vs,h1,h2⟩:=h; exact⟨vs,h1,CVals.frame hN hw (fun c hh=>hc c (by simpa[SlotV.noC] using hh)) h2⟩
 | box x=>
  obtain⟨h1,cs,e,h2,h3⟩:=h
  obtain⟨e1,e2⟩:=hb rfl
  exact⟨by rw[e1]; exact h1,cs,e,by rw[e1,e2]; exact h2,RepCV.frame hN hw x cs (fun c hh=>hc c (by simpa[SlotV.noC] using hh)) h3⟩
 | bptr r p off=>simp only[SlotOk] at h ⊢; rw[hr r (by simp[SlotV.noR])]; exact h
 | eptr c sz i p off=>simp only[SlotOk] at h ⊢; rw[hc c (by simp[SlotV.noC])]; exact h
 | ex Q=>exact h
 | fn cs rs ps f=>
  obtain⟨vals,h1,h2⟩:=h
  refine⟨vals,RepCs.frame hN hw ps vals [] (by simp) h1,?_⟩
  have e1:cs.map G'.hd=cs.map G.hd:=List.map_congr_left fun c hm=>hc c (by simp[SlotV.noC,hm])
  have e2:rs.map G'.ad=rs.map G.ad:=List.map_congr_left fun r hm=>hr r (by simp[SlotV.noR,hm])
  rw[e1,e2]; exact h2
 | hold sh ps x=>
  obtain⟨vals,h1,h2,h3⟩:=h
  obtain⟨e1,e2⟩:=hb rfl
  exact⟨vals,RepCs.frame hN hw ps vals [] (by simp) h1,by rw[e1]; exact h2,by rw[e1]; exact HCok.frame hN hw (fun c hh=>hc c (by simpa[SlotV.noC] using hh)) (fun r hh=>hr r (by simpa[SlotV.noR] using hh)) e2 h3⟩
 | hptr r sh ps=>
  obtain⟨vals,h1,h2⟩:=h
  exact⟨vals,RepCs.frame hN hw ps vals [] (by simp) h1,by rw[hr r (by simp[SlotV.noR])]; exact h2⟩

def upd{α:Type}(f:Nat→α)(k:Nat)(x:α):Nat→α:=fun j=>if j=k then x else f j
theorem us_{α:Type}(f:Nat→α)(k:Nat)(x:α):upd f k x k=x:=by simp[upd]
theorem upd_ne{α:Type}{f:Nat→α}{k j:Nat}{x:α}(h:j≠k):upd f k x j=f j:=by simp[upd,h]

def St.set(st:St)(k:Nat)(v:SlotV):St:={ st with s:=upd st.s k v }
theorem gDp_{a:Act}{d:Nat}{v:Value}(h:d<a.tmps.size)(k:Nat):(a.put (some d) v).tmps.getD k undef=if k=d then v else a.tmps.getD k undef:=by
 simp only[Act.put,Array.getD_eq_getD_getElem?,Array.getElem?_setIfInBounds]
 split
 ·rename_i h1; subst h1; simp[h]
 ·rename_i h1; simp[Ne.symm h1]

theorem RG.step{κ:Ctx}{G G':Gh}{st st':St}{a:Act}{w w':World}{d:Nat}{v:Value}(h:RG κ G st a w)(hd:d<κ.nt)
 (hbelow:KeepX κ.L κ.w0.heap.size w w')
 (hN:∀ b,Nof κ st G w b→Nof κ st' G' w' b) (hw:∀ b,Nof κ st G w b→w'.heap[b]?=w.heap[b]?)
 (hs:∀ k,k≠d→st'.s k=st.s k∨st'.s k=.dead) (hdst:SlotOk (Nof κ st' G' w') w' G' d v (st'.s d))
 (hc:∀ k c,k≠d→st'.s k≠.dead→(st.s k).noC c=false→G'.hd c=G.hd c) (hr:∀ k r,k≠d→st'.s k≠.dead→(st.s k).noR r=false→G'.ad r=G.ad r)
 (hb:∀ k,k≠d→st'.s k≠.dead→isBox (st.s k)=true→G'.ad k=G.ad k∧w'.heap[G.ad k]?=w.heap[G.ad k]?)
 (objs:∀ c sz es,st'.o c=some (sz,es)→RepC (Nof κ st' G' w') w' (.sl true sz es) [G'.hd c] (G'.fp c)∧(G'.fp c).Nodup∧∀ b∈G'.fp c,(κ.w0.heap.size≤b∨b∈κ.L)∧b<w'.heap.size)
 (boxes:∀ r,isBox (st'.s r)=true→(κ.w0.heap.size≤G'.ad r∨G'.ad r∈κ.L)∧G'.ad r<w'.heap.size)
 (bb:∀ r r',isBox (st'.s r)=true→isBox (st'.s r')=true→G'.ad r=G'.ad r'→r=r')
 (bo:∀ r c p,isBox (st'.s r)=true→st'.o c=some p→G'.ad r∉G'.fp c)
 (oo:∀ c c' p p',st'.o c=some p→st'.o c'=some p'→c≠c'→∀ b∈G'.fp c,b∉G'.fp c') (hh:∀ c,10000≤c→G'.hd c=G.hd c):
 RG κ G' st' (a.put (some d) v) w' where
 keep:=h.keep.trans hbelow
 defers:=by simpa[Act.put] using h.defers
 nt:=by simpa[Act.put] using h.nt
 slots:=by
  intro k
  rw[gDp_ (by rw[h.nt]; exact hd)]
  by_cases hk:k=d
  ·subst hk; simpa using hdst
  ·rw[if_neg hk]
   rcases hs k hk with e | e
   ·by_cases hdead:st'.s k=.dead
    ·rw[hdead]; trivial
    ·rw[e]; exact(h.slots k).frame hN hw (fun c=>hc k c hk hdead) (fun r=>hr k r hk hdead) (hb k hk hdead)
   ·rw[e]; trivial
 objs:=objs
 boxes:=boxes
 bb:=bb
 bo:=bo
 oo:=oo
 held:=fun c v hc=>(hh c (κ.hH c v hc)).trans (h.held c v hc)

theorem Nof.lt{κ:Ctx}{st:St}{G:Gh}{a:Act}{w:World}(h:RG κ G st a w){b:Nat}(hb:Nof κ st G w b):b<w.heap.size:=by
 rcases hb.1 with h1 | h1
 ·exact Nat.lt_of_lt_of_le (κ.hN b h1).1 h.keep.size
 ·exact h1.2

theorem RG.set{κ:Ctx}{G:Gh}{st:St}{a:Act}{w:World}{d:Nat}{v:Value}{sv:SlotV}(h:RG κ G st a w)(hd:d<κ.nt)(hnb:isBox sv=false)
 (hok:SlotOk (Nof κ st G w) w G d v sv):RG κ G (st.set d sv) (a.put (some d) v) w:=by
 have hbox:∀ r,isBox ((st.set d sv).s r)=true→r≠d∧isBox (st.s r)=true:=by
  intro r hr
  simp only[St.set,upd] at hr
  split at hr
  ·rw[hnb] at hr; cases hr
  ·exact⟨by assumption,hr⟩
 have hP:∀ b,Nof κ st G w b→Nof κ (st.set d sv) G w b:=by
  intro b hb
  refine⟨hb.1,fun hp=>hb.2 ?_⟩
  rcases hp with⟨r,h1,h2⟩ | ⟨c,p,h1,h2⟩
  ·exact .inl ⟨r,(hbox r h1).2,h2⟩
  ·exact .inr ⟨c,p,h1,h2⟩
 refine h.step hd (KeepX.refl _ _ _) hP (fun _ _=>rfl) (fun k hk=>.inl (by simp[St.set,upd,hk])) ?_ (fun _ _ _ _ _=>rfl) (fun _ _ _ _ _=>rfl) (fun _ _ _ _=>⟨rfl,rfl⟩) ?_ ?_ ?_ ?_ ?_ ?_
 ·have:(st.set d sv).s d=sv:=by simp[St.set,upd]
  rw[this]
  exact hok.frame hP (fun _ _=>rfl) (fun _ _=>rfl) (fun _ _=>rfl) (fun hx=>⟨rfl,rfl⟩)
 ·intro c sz es hc
  obtain⟨h1,h2,h3⟩:=h.objs c sz es hc
  exact⟨RepC.frame hP (fun _ _=>rfl) _ _ _ (fun _ _=>rfl) h1,h2,h3⟩
 ·exact fun r hr=>h.boxes r (hbox r hr).2
 ·exact fun r r' h1 h2=>h.bb r r' (hbox r h1).2 (hbox r' h2).2
 ·exact fun r c p h1 h2=>h.bo r c p (hbox r h1).2 h2
 ·exact fun c c' p p' h1 h2=>h.oo c c' p p' h1 h2
 ·exact fun _ _=>rfl

theorem R.set{κ:Ctx}{st:St}{a:Act}{w:World}{d:Nat}{v:Value}{sv:SlotV}(G:Gh)(h:RG κ G st a w)(hd:d<κ.nt)(hnb:isBox sv=false)
 (hok:SlotOk (Nof κ st G w) w G d v sv):R κ (st.set d sv) (a.put (some d) v) w:=⟨G,h.set hd hnb hok⟩
end Go.Av

namespace Go.Av

structure Rec where
 rs:List Nat:=[]
 ro:List Nat:=[]
 fr:List Nat:=[]
 fc:List Nat:=[]
 us:List (Nat×SlotV):=[]
 uo:List (Nat×Option (Nat×List PV)):=[]

def updAll{α:Type}(f:Nat→α):List (Nat×α)→Nat→α
 | []=>f
 | (k,v)::l=>updAll (upd f k v) l

def St.app(st:St)(r:Rec):St:={ s:=updAll st.s r.us,o:=updAll st.o r.uo }

def St.noR(st:St)(r:Nat):Prop:=∀ k,(st.s k).noR r=true
def St.noC(st:St)(c:Nat):Prop:=(c<10000∧st.o c=none)∧∀ k,(st.s k).noC c=true

def Rec.same(r:Rec)(st st':St):Prop:=(∀ k∈r.rs,st'.s k=st.s k)∧(∀ c∈r.ro,st'.o c=st.o c)
def Rec.fresh(r:Rec)(st:St):Prop:=(∀ k∈r.fr,st.noR k)∧(∀ c∈r.fc,st.noC c)

def Valid(P:Program)(nt:Nat)(o:Oper)(st:St)(r:Rec):Prop:=
 ∀ κ st' a w,κ.nt=nt→r.same st st'→r.fresh st'→R κ st' a w→∀ (next:Act→World→Prop) (Q:Exit→Act→World→Prop),
  (∀ a' w',R κ (st'.app r) a' w'→next a' w')→o.wp P a w next Q

def eSize(P:Program)(T:TypeId):Nat:=
 match P.underlying T with
 | some (.slice e)=>((P.info? e).map (·.size)).getD 0
 | _=>0

def cS_(P:Program)(T:TypeId):Value→SlotV
 | .slice none 0 0=>.val (.pv (.sl true (eSize P T) []))
 | .agg _ | .tuple _=>.dead
 | .slice _ _ _=>.dead
 | v=>.val (.pv (.lit v))

def ptrOf(k:Nat):SlotV→SlotV
 | .box _=>.bptr k [] 0
 | .hold sh ps _=>.hptr k sh ps
 | v=>v

def ev(P:Program)(st:St)(T:TypeId):Operand→SlotV
 | .tmp t=>ptrOf t (st.s t)
 | .const v=>cS_ P T v
 | .func f=>.val (.pv (.clo f []))
 | .global _=>.dead

def rd:Operand→List Nat
 | .tmp t=>[t]
 | _=>[]

theorem ec_{P:Program}{st st':St}{T:TypeId}{x:Operand}(h:∀ k∈rd x,st'.s k=st.s k):ev P st' T x=ev P st T x:=by
 cases x with
 | tmp t=>simp only[ev]; rw[h t (by simp[rd])]
 | _=>rfl

theorem enB_{P:Program}{st:St}{T:TypeId}{x:Operand}:isBox (ev P st T x)=false:=by
 cases x with
 | tmp t=>simp only[ev]; cases st.s t<;>rfl
 | const v=>simp only[ev,cS_]; split<;>rfl
 | func f=>rfl
 | global g=>rfl

theorem cSo_{P:Program}{T:TypeId}{N:Nat→Prop}{w:World}{G:Gh}(k:Nat)(v:Value):SlotOk N w G k v (cS_ P T v):=by
 unfold cS_
 split
 ·exact .inr ⟨rfl,by simp[RepCV,RepC],rfl⟩
 ·trivial
 ·trivial
 ·trivial
 ·rename_i h1 h2 h3 h4
  have:v.oneCell'=true:=by
   cases v<;>first | rfl | (exact absurd rfl (h2 _)) | (exact absurd rfl (h3 _))
  exact .inr ⟨rfl,by simp[RepCV,RepC,this],this⟩

theorem ev_ok{κ:Ctx}{G:Gh}{st:St}{a:Act}{w:World}{P:Program}{T:TypeId}(h:RG κ G st a w)(x:Operand)(k:Nat):SlotOk (Nof κ st G w) w G k (a.eval x) (ev P st T x):=by
 cases x with
 | tmp t=>
  have h1:=h.slots t
  simp only[ev,Act.eval]
  cases hs:st.s t with
  | box x=>rw[hs] at h1; simp only[ptrOf,SlotOk]; exact h1.1
  | dead=>trivial
  | val x=>rw[hs] at h1; exact h1
  | tup xs=>rw[hs] at h1; exact h1
  | bptr r p off=>rw[hs] at h1; exact h1
  | eptr c sz i p off=>rw[hs] at h1; exact h1
  | fn cs rs ps f=>rw[hs] at h1; exact h1
  | hold sh ps x=>rw[hs] at h1; obtain⟨vals,h2,h3,_⟩:=h1; exact⟨vals,h2,h3⟩
  | hptr r sh ps=>rw[hs] at h1; exact h1
  | ex Q=>rw[hs] at h1; exact h1
 | const v=>exact cSo_ k v
 | func f=>exact .inr ⟨rfl,by simp[RepCV,RepC,RepCs,Act.eval],rfl⟩
 | global g=>trivial

theorem vp_{P:Program}{nt:Nat}{o:Oper}{st:St}{d:Nat}{sv:SlotV}{rs ro:List Nat}(hdst:o.dst=some d)(hd:d<nt)(hnb:isBox sv=false)
 (H:∀ κ G st' a w,κ.nt=nt→Rec.same { rs:=rs,ro:=ro } st st'→RG κ G st' a w→
  ∃ v,(execOp a.eval o).run P w=.ok (.value v) w∧SlotOk (Nof κ st' G w) w G d v sv):
 Valid P nt o st { rs:=rs,ro:=ro,us:=[(d,sv)] }:=by
 intro κ st' a w hnt hsame _ hR next Q hnext
 obtain⟨G,hG⟩:=hR
 obtain⟨v,hrun,hok⟩:=H κ G st' a w hnt hsame hG
 unfold Oper.wp
 rw[hrun]
 simp only[Oper.upon]
 rw[hdst]
 refine hnext _ _ ?_
 have:=R.set G hG (by rw[hnt]; exact hd) hnb hok
 simpa[St.app,updAll,St.set] using this

theorem vm_1{P:Program}{nt:Nat}{o:Oper}{st:St}{d:Nat}{x:Operand}{T:TypeId}(hop:o.op=.move x∨o.op=.assign x)(hdst:o.dst=some d)(hd:d<nt):
 Valid P nt o st { rs:=rd x,us:=[(d,ev P st T x)] }:=by
 refine vp_ hdst hd enB_ ?_
 intro κ G st' a w _ hsame hG
 refine⟨a.eval x,by rcases hop with e | e<;>simp[execOp,e],?_⟩
 rw[← ec_ (P:=P) (T:=T) hsame.1]
 exact ev_ok hG x d

theorem ev_lit{κ:Ctx}{G:Gh}{st st':St}{a:Act}{w:World}{P:Program}{T:TypeId}(h:RG κ G st' a w){x:Operand}{v:Value}(hx:ev P st T x=.val (.pv (.lit v)))
 (hs:∀ k∈rd x,st'.s k=st.s k):a.eval x=v:=by
 have:=ev_ok (P:=P) (T:=T) h x 0
 rw[ec_ hs,hx] at this
 rcases this with⟨h1,_⟩ | ⟨_,h2,_⟩
 ·simp[CV.isAgg] at h1
 ·simp only[RepCV,RepC] at h2
  simpa using h2.1

theorem vp_1{P:Program}{nt:Nat}{o:Oper}{st:St}{d:Nat}{c x y:Operand}{t:Bool}{T1 T:TypeId}(hop:o.op=.pick c x y)(hdst:o.dst=some d)(hd:d<nt)
 (hc:ev P st T1 c=.val (.pv (.lit (.bool t)))):Valid P nt o st { rs:=rd c++rd (if t then x else y),us:=[(d,ev P st T (if t then x else y))] }:=by
 refine vp_ hdst hd enB_ ?_
 intro κ G st' a w _ hsame hG
 have e1:=ev_lit hG hc (fun k hk=>hsame.1 k (by simp[hk]))
 refine⟨a.eval (if t then x else y),?_,?_⟩
 ·cases t<;>simp[execOp,hop,e1,asBool]
 ·rw[← ec_ (P:=P) (T:=T) (fun k hk=>hsame.1 k (by simp[hk]))]
  exact ev_ok hG _ d

theorem sOl_{N:Nat→Prop}{w:World}{G:Gh}{k:Nat}{v:Value}(h:v.oneCell'=true):SlotOk N w G k v (.val (.pv (.lit v))):=
 .inr ⟨rfl,by simp[RepCV,RepC,h],h⟩

def binK(P:Program)(T:TypeId)(op:BinOp)(x y:Value)(K:Value→Prop):Prop:=
 match x,y with
 | .int k a,.int k' b=>
  match op with
  | .shl=>0≤b∧K (.int k (k.wrap (a*2 ^ (min b.toNat k.bits))))
  | .shr=>0≤b∧K (.int k (a.fdiv (2 ^ (min b.toNat k.bits))))
  | .add=>k=k'∧K (.int k (k.wrap (a+b)))
  | .sub=>k=k'∧K (.int k (k.wrap (a-b)))
  | .mul=>k=k'∧K (.int k (k.wrap (a*b)))
  | .quo=>k=k'∧b≠0∧K (.int k (k.wrap (a.tdiv b)))
  | .rem=>k=k'∧b≠0∧K (.int k (a.tmod b))
  | .and=>k=k'∧K (.int k (k.wrap (BitVec.ofInt k.bits a&&& BitVec.ofInt k.bits b).toNat))
  | .or=>k=k'∧K (.int k (k.wrap (BitVec.ofInt k.bits a||| BitVec.ofInt k.bits b).toNat))
  | .xor=>k=k'∧K (.int k (k.wrap (BitVec.ofInt k.bits a ^^^ BitVec.ofInt k.bits b).toNat))
  | .andNot=>k=k'∧K (.int k (k.wrap (BitVec.ofInt k.bits a&&& ~~~BitVec.ofInt k.bits b).toNat))
  | .eql=>k=k'∧K (.bool (decide (a=b)))
  | .neq=>k=k'∧K (.bool (!decide (a=b)))
  | .lss=>k=k'∧K (.bool (decide (a<b)))
  | .leq=>k=k'∧K (.bool (decide (a≤b)))
  | .gtr=>k=k'∧K (.bool (decide (b<a)))
  | .geq=>k=k'∧K (.bool (decide (b≤a)))
 | .string a,.string b=>
  match op with
  | .add=>a.size+b.size≤9223372036854775807∧K (.string (a++b))
  | .eql=>K (.bool (decide (a=b)))
  | .neq=>K (.bool (!decide (a=b)))
  | .lss=>K (.bool (Op.bytesLess a.data.toList b.data.toList))
  | .gtr=>K (.bool (!(Op.bytesLess a.data.toList b.data.toList||decide (a=b))))
  | .leq=>K (.bool (Op.bytesLess a.data.toList b.data.toList||decide (a=b)))
  | .geq=>K (.bool (!Op.bytesLess a.data.toList b.data.toList))
  | _=>False
 | .bool a,.bool b=>
  match op with
  | .eql=>P.underlying T=some .bool∧K (.bool (a==b))
  | .neq=>P.underlying T=some .bool∧K (.bool (!(a==b)))
  | _=>False
 | _,_=>False


theorem db_(a b:ByteArray):(a.data==b.data)=decide (a=b):=by
 rw[Bool.eq_iff_iff]
 simp only[beq_iff_eq,decide_eq_true_eq]
 constructor
 ·intro h; cases a; cases b; simpa using h
 ·rintro rfl; rfl
theorem reI_{P:Program}{T:TypeId}(hb:P.underlying T=some .bool)(d:Nat)(a b:Bool)(w:World):(Op.equalIn (d+1) T (.bool a) (.bool b)).run P w=.ok (a==b) w:=by
 simp[Op.equalIn,run_underlying hb]
theorem reb_{P:Program}{T:TypeId}(hb:P.underlying T=some .bool)(a b:Bool)(w:World):(Op.equal T (.bool a) (.bool b)).run P w=.ok (a==b) w:=
 reI_ hb 9999 a b w

theorem bKr_2{P:Program}{T:TypeId}{op:BinOp}{x y:Value}{K:Value→Prop}(h:binK P T op x y K):
 ∃ v,v.oneCell'=true∧(∀ (xo yo:Operand) (w:World),(do eqGuard op T xo yo x y; binOp op T x y:Sem Value).run P w=.ok v w)∧K v:=by
 unfold binK at h
 split at h
 ·cases op<;>simp only at h
  all_goals first
   | (obtain⟨rfl,hb,hK⟩:=h; exact⟨_,rfl,fun xo yo w=>by simp[eqGuard,binOp,Op.intArith,Op.intDiv,Op.intBits,Op.intCmp,hb],hK⟩)
   | (obtain⟨rfl,hK⟩:=h; exact⟨_,rfl,fun xo yo w=>by simp[eqGuard,binOp,Op.intArith,Op.intDiv,Op.intBits,Op.intCmp,BEq.beq,bne],hK⟩)
   | (obtain⟨hb,hK⟩:=h; exact⟨_,rfl,fun xo yo w=>by simp[eqGuard,binOp,Op.shift,Int.not_lt.2 hb],hK⟩)
 ·rename_i a b
  cases op<;>simp only at h
  case add=>
   obtain⟨hb,hK⟩:=h
   refine⟨_,rfl,fun xo yo w=>?_,hK⟩
   have hb':¬ (9223372036854775807:Int)<(a.size:Int)+(b.size:Int):=by omega
   simp[eqGuard,binOp,Op.stringOp,IntKind.max,IntKind.signed,IntKind.bits,hb']
  all_goals first
   | exact h.elim
   | exact⟨_,rfl,fun xo yo w=>by simp[eqGuard,binOp,Op.stringOp,ByteArray.toList_eq,db_],h⟩
 ·cases op<;>simp only at h
  all_goals first
   | exact h.elim
   | (obtain⟨hb,hK⟩:=h; exact⟨_,rfl,fun xo yo w=>by simp[eqGuard,binOp,reb_ hb],hK⟩)
 ·exact h.elim

theorem vb_2{P:Program}{nt:Nat}{o:Oper}{st:St}{d:Nat}{op:BinOp}{x y:Operand}{T T1 T2 U:TypeId}{vx vy v:Value}(hop:o.op=.binOp op T x y U)(hdst:o.dst=some d)(hd:d<nt)
 (hx:ev P st T1 x=.val (.pv (.lit vx))) (hy:ev P st T2 y=.val (.pv (.lit vy))) (hv:v.oneCell'=true)
 (hrun:∀ (xo yo:Operand) (w:World),(do eqGuard op T xo yo vx vy; binOp op T vx vy:Sem Value).run P w=.ok v w):
 Valid P nt o st { rs:=rd x++rd y,us:=[(d,.val (.pv (.lit v)))] }:=by
 refine vp_ hdst hd rfl ?_
 intro κ G st' a w _ hsame hG
 have e1:=ev_lit hG hx (fun k hk=>hsame.1 k (by simp[hk]))
 have e2:=ev_lit hG hy (fun k hk=>hsame.1 k (by simp[hk]))
 refine⟨v,?_,sOl_ hv⟩
 have:=hrun x y w
 simp only[execOp,hop,e1,e2,Sem.run_bind,Sem.run_pure] at this ⊢
 rw[this]
 rfl

def unK(op:UnOp)(x:Value)(K:Value→Prop):Prop:=
 match op,x with
 | .not,.bool b=>K (.bool (!b))
 | .neg,.int k n=>K (.int k (k.wrap (0-n)))
 | _,_=>False
theorem uKr_{P:Program}{op:UnOp}{x:Value}{K:Value→Prop}(h:unK op x K):∃ v,v.oneCell'=true∧(∀ w:World,(Op.unary op x).run P w=.ok v w)∧K v:=by
 unfold unK at h
 split at h
 ·exact⟨_,rfl,fun w=>by simp[Op.unary],h⟩
 ·exact⟨_,rfl,fun w=>by simp[Op.unary,Op.intArith],h⟩
 ·exact h.elim
theorem vu_{P:Program}{nt:Nat}{o:Oper}{st:St}{d:Nat}{op:UnOp}{x:Operand}{T T1:TypeId}{vx v:Value}(hop:o.op=.unOp op T x)(hdst:o.dst=some d)(hd:d<nt)
 (hx:ev P st T1 x=.val (.pv (.lit vx))) (hv:v.oneCell'=true) (hrun:∀ (w:World),(Op.unary op vx).run P w=.ok v w):
 Valid P nt o st { rs:=rd x,us:=[(d,.val (.pv (.lit v)))] }:=by
 refine vp_ hdst hd rfl ?_
 intro κ G st' a w _ hsame hG
 have e1:=ev_lit hG hx (fun k hk=>hsame.1 k (by simp[hk]))
 refine⟨v,?_,sOl_ hv⟩
 simp[execOp,hop,e1,hrun w]

theorem ca_{N:Nat→Prop}{w:World}{hd:Nat→Value}:∀ {xs:List CV} {vs:List Value} (i:Nat) (x:CV),CVals N w hd xs vs→xs[i]?=some x→∃ v,vs[i]?=some v∧CVal N w hd x v
 | [],_,_,_,_,hx=>by simp at hx
 | y::ys,vs,i,x,h,hx=>by
  simp only[CVals] at h
  obtain⟨v,vs',rfl,h1,h2⟩:=h
  cases i with
  | zero=>simp at hx; subst hx; exact⟨v,by simp,h1⟩
  | succ i=>simp at hx; obtain⟨u,h3,h4⟩:=ca_ i x h2 hx; exact⟨u,by simpa using h3,h4⟩

theorem ve_{P:Program}{nt:Nat}{o:Oper}{st:St}{d i:Nat}{x:Operand}{T1:TypeId}{xs:List CV}{c:CV}(hop:o.op=.extract x i)(hdst:o.dst=some d)(hd:d<nt)
 (hx:ev P st T1 x=.tup xs) (hi:xs[i]?=some c):Valid P nt o st { rs:=rd x,us:=[(d,.val c)] }:=by
 refine vp_ hdst hd rfl ?_
 intro κ G st' a w _ hsame hG
 have h1:=ev_ok (P:=P) (T:=T1) hG x 0
 rw[ec_ hsame.1,hx] at h1
 obtain⟨vs,h2,h3⟩:=h1
 obtain⟨v,h4,h5⟩:=ca_ i c h3 hi
 exact⟨v,by simp[execOp,hop,h2,Instr.extract,h4],h5⟩

def FieldIs(P:Program)(T:TypeId)(k off:Nat):Prop:=
 ∃ fs f i,P.underlying T=some (.struct fs)∧fs[k]?=some f∧f.offset=off∧P.info? f.type=some i∧i.size≠0

def addF(sv:SlotV)(k off:Nat)(K:SlotV→Prop):Prop:=
 match sv with
 | .bptr r p o=>K (.bptr r (p++[k]) (o+off))
 | .eptr c sz i p o=>K (.eptr c sz i (p++[k]) (o+off))
 | .val (.pv (.ptr v))=>(∃ fs,v=.agg fs∧PV.sizes (fs.take k)=off∧k<fs.length)∧K (.val (.pv (.ptr (match v with | .agg fs=>fs.getD k default | v=>v))))
 | _=>False

theorem ao_(a:Addr)(n:Nat)(h:a.spot=none):a.add n=⟨a.block,a.off+n,none⟩:=by
 unfold Addr.add
 split
 ·rename_i h0; subst h0; cases a; simp_all
 ·cases a; simp_all

theorem rfA_{P:Program}{T:TypeId}{k off:Nat}(h:FieldIs P T k off)(a:Addr)(w:World)(hs:a.spot=none):
 (Instr.fieldAt T (.pointer (some a)) k).run P w=.ok (.pointer (some ⟨a.block,a.off+off,none⟩)) w:=by
 obtain⟨fs,f,i,h1,h2,h3,h4,h5⟩:=h
 simp[Instr.fieldAt,run_underlying h1,h2,Instr.sureAddr,fieldPlace,sizeOf,typeInfo,h4,h5,h3,ao_ _ _ hs]

theorem RowAt.sub{w:World}{a:Addr}{c1 c2 c3:List Value}(h:RowAt w a (c1++c2++c3)):RowAt w ⟨a.block,a.off+c1.length,none⟩ c2:=by
 intro j u hu
 have:=h (c1.length+j) u (by
  rw[List.append_assoc,List.getElem?_append_right (by omega),Nat.add_sub_cancel_left,List.getElem?_append_left (List.getElem?_eq_some_iff.1 hu).1]
  exact hu)
 simpa[Nat.add_assoc] using this

theorem sOp_{N:Nat→Prop}{w:World}{G:Gh}{k j off:Nat}{fs:List PV}{v:Value}(h:SlotOk N w G j v (.val (.pv (.ptr (.agg fs)))))(hk:k<fs.length)(ho:PV.sizes (fs.take k)=off):
 ∃ a:Addr,v=.pointer (some a)∧a.spot=none∧SlotOk N w G j (.pointer (some ⟨a.block,a.off+off,none⟩)) (.val (.pv (.ptr (fs.getD k default)))):=by
 rcases h with⟨h1,_⟩ | ⟨_,h2,h3⟩
 ·simp[CV.isAgg] at h1
 ·simp only[RepCV,RepC] at h2
  obtain⟨ad,ccs,g1,_,g3,g4,g5,g6⟩:=h2
  simp at g1
  refine⟨ad,g1,g3,.inr ⟨rfl,?_,rfl⟩⟩
  have hg:fs[k]?=some (fs.getD k default):=by simp[List.getD,hk]
  obtain⟨c1,c2,c3,F1,F2,F3,e1,e2,e3,e4,e5,e6⟩:=RepCs.at fs k _ ccs [] g6 hg
  have hF:F2=[]:=by
   have:=congrArg List.length e2; simp at this; exact List.eq_nil_of_length_eq_zero (by omega)
  subst hF
  simp only[RepCV,RepC]
  refine⟨⟨ad.block,ad.off+off,none⟩,c2,rfl,trivial,rfl,g4,?_,e4⟩
  rw[e1] at g5
  have:=g5.sub
  rw[e3,ho] at this
  exact this

theorem vfA_{P:Program}{nt:Nat}{o:Oper}{st:St}{d k off:Nat}{x:Operand}{T T1:TypeId}{sv:SlotV}(hop:o.op=.fieldAddr T x k)(hdst:o.dst=some d)(hd:d<nt)
 (hf:FieldIs P T k off) (hx:addF (ev P st T1 x) k off (· =sv)):Valid P nt o st { rs:=rd x,us:=[(d,sv)] }:=by
 have hnb:isBox sv=false:=by
  unfold addF at hx; split at hx
  ·subst hx; rfl
  ·subst hx; rfl
  ·obtain⟨_,rfl⟩:=hx; rfl
  ·exact hx.elim
 refine vp_ hdst hd hnb ?_
 intro κ G st' a w _ hsame hG
 have h1:=ev_ok (P:=P) (T:=T1) hG x d
 rw[ec_ hsame.1] at h1
 unfold addF at hx
 split at hx
 ·rename_i r p o' he
  rw[he] at h1
  simp only[SlotOk] at h1
  subst hx
  exact⟨_,by simp[execOp,hop,h1,rfA_ hf ⟨G.ad r,o',none⟩ w rfl],rfl⟩
 ·rename_i c sz i p o' he
  rw[he] at h1
  obtain⟨b,n,cap,h2,h3⟩:=h1
  subst hx
  exact⟨.pointer (some ⟨b,i*sz+o'+off,none⟩),by simp[execOp,hop,h3,rfA_ hf ⟨b,i*sz+o',none⟩ w rfl],b,n,cap,h2,by rw[Nat.add_assoc]⟩
 ·rename_i v he
  obtain⟨⟨fs,rfl,ho,hk⟩,rfl⟩:=hx
  rw[he] at h1
  obtain⟨ad,h2,h3,h4⟩:=sOp_ h1 hk ho
  exact⟨_,by simp[execOp,hop,h2,rfA_ hf ad w h3],h4⟩
 ·exact hx.elim
end Go.Av
