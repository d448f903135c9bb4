/- A part of the proof: lemmas only; nothing is claimed here beyond what each lemma says. -/
/- Abstract values over memory: a value read as a tree, and what a tree's reading leans on. -/
import Derived.WalkKit
import Derived.WalkSpells
import Derived.WalkLawsBesides
set_option linter.unusedSimpArgs false
set_option linter.unusedVariables false
set_option linter.defProp false
namespace Go.Av

inductive PV where
 | lit (v:Value)
 | agg (fs:List PV)
 | sl (own:Bool) (sz:Nat) (es:List PV)
 | clo (f:FuncId) (caps:List PV)
 | ptr (v:PV)
 | tup (vs:List PV)

instance:Inhabited PV:=⟨.agg []⟩

mutual
def PV.size:PV→Nat
 | .agg fs=>PV.sizes fs
 | .tup _=>0
 | _=>1
def PV.sizes:List PV→Nat
 | []=>0
 | p::ps=>p.size+PV.sizes ps
end

mutual
def PV.view:PV→PV
 | .lit v=>.lit v
 | .agg fs=>.agg (PV.views fs)
 | .sl _ sz es=>.sl false sz (PV.views es)
 | .clo f cs=>.clo f cs
 | .ptr v=>.ptr v
 | .tup vs=>.tup (PV.views vs)
def PV.views:List PV→List PV
 | []=>[]
 | p::ps=>p.view::PV.views ps
end

def RowAt(w:World)(a:Addr)(cs:List Value):Prop:=∀ j u,cs[j]?=some u→w.cell? ⟨a.block,a.off+j,none⟩=some u

mutual
def RepC(N:Nat→Prop)(w:World):PV→List Value→List Nat→Prop
 | .lit v,cs,F=>cs=[v]∧v.oneCell'=true∧F=[]
 | .agg fs,cs,F=>RepCs N w fs cs F
 | .sl false sz es,cs,F=>∃ a cap,cs=[.slice a es.length cap]∧F=[]∧es.length≤cap∧cap≤maxLen∧(∀ e∈es,PV.size e=sz)∧
  (es=[]∨∃ ad ccs,a=some ad∧ad.spot=none∧N ad.block∧RowAt w ad ccs∧RepCs N w es ccs [])
 | .sl true sz es,cs,F=>(cs=[.slice none 0 0]∧es=[]∧F=[])∨
  ∃ b cap c e F' ccs,cs=[.slice (some ⟨b,0,none⟩) es.length cap]∧es.length≤cap∧cap≤maxLen∧(∀ e∈es,PV.size e=sz)∧w.heap[b]?=some (.cells c e (0,0))∧c.size=cap*sz∧
   c.toList.take (es.length*sz)=ccs∧RepCs N w es ccs F'∧F=b::F'
 | .clo f caps,cs,F=>∃ vals,cs=[.func (.func f) #[] vals.toArray]∧F=[]∧RepCs N w caps vals []∧∀ p∈caps,PV.size p=1
 | .ptr v,cs,F=>∃ ad ccs,cs=[.pointer (some ad)]∧F=[]∧ad.spot=none∧N ad.block∧RowAt w ad ccs∧RepC N w v ccs []
 | .tup _,_,_=>False
def RepCs(N:Nat→Prop)(w:World):List PV→List Value→List Nat→Prop
 | [],cs,F=>cs=[]∧F=[]
 | p::ps,cs,F=>∃ c1 c2 F1 F2,cs=c1++c2∧F=F1++F2∧RepC N w p c1 F1∧RepCs N w ps c2 F2
end

theorem RowAt.mono{w w':World}{a:Addr}{cs:List Value}(h:RowAt w a cs)(hb:w'.heap[a.block]?=w.heap[a.block]?):RowAt w' a cs:=by
 intro j u hu
 rw[World.cell?_of_block (w:=w) (w':=w') (a:=⟨a.block,a.off+j,none⟩) hb]
 exact h j u hu

mutual
theorem RepC.frame{N N':Nat→Prop}{w w':World}(hN:∀ b,N b→N' b)(hw:∀ b,N b→w'.heap[b]?=w.heap[b]?):
 ∀ (p:PV) (cs:List Value) (F:List Nat),(∀ b∈F,w'.heap[b]?=w.heap[b]?)→RepC N w p cs F→RepC N' w' p cs F
 | .lit v,cs,F,_,h=>by simpa only[RepC] using h
 | .agg fs,cs,F,hF,h=>by
  simp only[RepC] at h ⊢
  exact RepCs.frame hN hw fs cs F hF h
 | .sl false sz es,cs,F,_,h=>by
  simp only[RepC] at h ⊢
  obtain⟨a,cap,h1,h2,h3,h4,h5,h6⟩:=h
  refine⟨a,cap,h1,h2,h3,h4,h5,?_⟩
  rcases h6 with h6 | ⟨ad,ccs,g1,g2,g3,g4,g5⟩
  ·exact .inl h6
  ·exact .inr ⟨ad,ccs,g1,g2,hN _ g3,g4.mono (hw _ g3),RepCs.frame hN hw es ccs [] (by simp) g5⟩
 | .sl true sz es,cs,F,hF,h=>by
  simp only[RepC] at h ⊢
  rcases h with h | ⟨b,cap,c,e,F',ccs,h1,h2,h3,h4,h5,h6,h7,h8,h9⟩
  ·exact .inl h
  ·subst h9
   exact .inr ⟨b,cap,c,e,F',ccs,h1,h2,h3,h4,by rw[hF b (by simp)]; exact h5,h6,h7,RepCs.frame hN hw es ccs F' (fun b hb=>hF b (by simp[hb])) h8,rfl⟩
 | .clo f caps,cs,F,_,h=>by
  simp only[RepC] at h ⊢
  obtain⟨vals,h1,h2,h3,h4⟩:=h
  exact⟨vals,h1,h2,RepCs.frame hN hw caps vals [] (by simp) h3,h4⟩
 | .ptr v,cs,F,_,h=>by
  simp only[RepC] at h ⊢
  obtain⟨ad,ccs,h1,h2,h3,h4,h5,h6⟩:=h
  exact⟨ad,ccs,h1,h2,h3,hN _ h4,h5.mono (hw _ h4),RepC.frame hN hw v ccs [] (by simp) h6⟩
 | .tup _,cs,F,_,h=>by simp only[RepC] at h
theorem RepCs.frame{N N':Nat→Prop}{w w':World}(hN:∀ b,N b→N' b)(hw:∀ b,N b→w'.heap[b]?=w.heap[b]?):
 ∀ (ps:List PV) (cs:List Value) (F:List Nat),(∀ b∈F,w'.heap[b]?=w.heap[b]?)→RepCs N w ps cs F→RepCs N' w' ps cs F
 | [],cs,F,_,h=>by simpa only[RepCs] using h
 | p::ps,cs,F,hF,h=>by
  simp only[RepCs] at h ⊢
  obtain⟨c1,c2,F1,F2,h1,h2,h3,h4⟩:=h
  subst h2
  exact⟨c1,c2,F1,F2,h1,rfl,RepC.frame hN hw p c1 F1 (fun b hb=>hF b (by simp[hb])) h3,RepCs.frame hN hw ps c2 F2 (fun b hb=>hF b (by simp[hb])) h4⟩
end

mutual
theorem RepC.length{N:Nat→Prop}{w:World}:∀ (p:PV) (cs:List Value) (F:List Nat),RepC N w p cs F→cs.length=p.size
 | .lit v,cs,F,h=>by simp only[RepC] at h; simp[h.1,PV.size]
 | .agg fs,cs,F,h=>by simp only[RepC] at h; simpa[PV.size] using RepCs.length fs cs F h
 | .sl false sz es,cs,F,h=>by simp only[RepC] at h; obtain⟨a,cap,h1,_⟩:=h; simp[h1,PV.size]
 | .sl true sz es,cs,F,h=>by
  simp only[RepC] at h
  rcases h with h | ⟨b,cap,c,e,F',ccs,h1,_⟩
  ·simp[h.1,PV.size]
  ·simp[h1,PV.size]
 | .clo f caps,cs,F,h=>by simp only[RepC] at h; obtain⟨vals,h1,_⟩:=h; simp[h1,PV.size]
 | .ptr v,cs,F,h=>by simp only[RepC] at h; obtain⟨ad,ccs,h1,_⟩:=h; simp[h1,PV.size]
 | .tup _,cs,F,h=>by simp only[RepC] at h
theorem RepCs.length{N:Nat→Prop}{w:World}:∀ (ps:List PV) (cs:List Value) (F:List Nat),RepCs N w ps cs F→cs.length=PV.sizes ps
 | [],cs,F,h=>by simp only[RepCs] at h; simp[h.1,PV.sizes]
 | p::ps,cs,F,h=>by
  simp only[RepCs] at h
  obtain⟨c1,c2,F1,F2,h1,h2,h3,h4⟩:=h
  simp[h1,PV.sizes,RepC.length p c1 F1 h3,RepCs.length ps c2 F2 h4]
end

mutual
theorem RepC.one{N:Nat→Prop}{w:World}:∀ (p:PV) (cs:List Value) (F:List Nat),RepC N w p cs F→∀ u∈cs,u.oneCell'=true
 | .lit v,cs,F,h=>by simp only[RepC] at h; simp[h.1,h.2.1]
 | .agg fs,cs,F,h=>by simp only[RepC] at h; exact RepCs.one fs cs F h
 | .sl false sz es,cs,F,h=>by simp only[RepC] at h; obtain⟨a,cap,h1,_⟩:=h; simp[h1,Value.oneCell']
 | .sl true sz es,cs,F,h=>by
  simp only[RepC] at h
  rcases h with h | ⟨b,cap,c,e,F',ccs,h1,_⟩
  ·simp[h.1,Value.oneCell']
  ·simp[h1,Value.oneCell']
 | .clo f caps,cs,F,h=>by simp only[RepC] at h; obtain⟨vals,h1,_⟩:=h; simp[h1,Value.oneCell']
 | .ptr v,cs,F,h=>by simp only[RepC] at h; obtain⟨ad,ccs,h1,_⟩:=h; simp[h1,Value.oneCell']
 | .tup _,cs,F,h=>by simp only[RepC] at h
theorem RepCs.one{N:Nat→Prop}{w:World}:∀ (ps:List PV) (cs:List Value) (F:List Nat),RepCs N w ps cs F→∀ u∈cs,u.oneCell'=true
 | [],cs,F,h=>by simp only[RepCs] at h; simp[h.1]
 | p::ps,cs,F,h=>by
  simp only[RepCs] at h
  obtain⟨c1,c2,F1,F2,h1,h2,h3,h4⟩:=h
  subst h1
  intro u hu
  rcases List.mem_append.1 hu with hu | hu
  ·exact RepC.one p c1 F1 h3 u hu
  ·exact RepCs.one ps c2 F2 h4 u hu
end

theorem Plv_:∀ ps:List PV,(PV.views ps).length=ps.length
 | []=>by simp[PV.views]
 | _::ps=>by simp[PV.views,Plv_ ps]
mutual
theorem Psv_:∀ p:PV,p.view.size=p.size
 | .agg fs=>by simp[PV.view,PV.size,Psv_1 fs]
 | .lit _ | .sl _ _ _ | .clo _ _ | .ptr _ | .tup _=>by simp[PV.view,PV.size]
theorem Psv_1:∀ ps:List PV,PV.sizes (PV.views ps)=PV.sizes ps
 | []=>by simp[PV.views]
 | p::ps=>by simp[PV.views,PV.sizes,Psv_ p,Psv_1 ps]
end
theorem Pve_:∀ ps:List PV,PV.views ps=ps.map PV.view
 | []=>by simp[PV.views]
 | p::ps=>by simp[PV.views,Pve_ ps]

mutual
theorem RepC.demote{N N':Nat→Prop}{w:World}(hN:∀ b,N b→N' b):
 ∀ (p:PV) (cs:List Value) (F:List Nat),(∀ b∈F,N' b)→RepC N w p cs F→RepC N' w p.view cs []
 | .lit v,cs,F,_,h=>by simp only[RepC,PV.view] at*; exact⟨h.1,h.2.1,trivial⟩
 | .agg fs,cs,F,hF,h=>by
  simp only[RepC,PV.view] at*
  exact RepCs.demote hN fs cs F hF h
 | .sl false sz es,cs,F,_,h=>by
  simp only[RepC,PV.view] at*
  obtain⟨a,cap,h1,h2,h3,h4,h5,h6⟩:=h
  refine⟨a,cap,by rw[h1,Plv_],trivial,by rw[Plv_]; exact h3,h4,?_,?_⟩
  ·rw[Pve_]; intro e he; obtain⟨q,hq,rfl⟩:=List.mem_map.1 he; rw[Psv_]; exact h5 q hq
  ·rcases h6 with h6 | ⟨ad,ccs,g1,g2,g3,g4,g5⟩
   ·left; simp[h6,PV.views]
   ·exact .inr ⟨ad,ccs,g1,g2,hN _ g3,g4,RepCs.demote hN es ccs [] (by simp) g5⟩
 | .sl true sz es,cs,F,hF,h=>by
  simp only[RepC,PV.view] at*
  rcases h with⟨h1,h2,h3⟩ | ⟨b,cap,c,e,F',ccs,h1,h2,h3,h4,h5,h6,h7,h8,h9⟩
  ·subst h2
   exact⟨none,0,by simp[h1,PV.views],trivial,by simp[PV.views],by simp,by simp[PV.views],.inl (by simp[PV.views])⟩
  ·subst h9
   refine⟨some ⟨b,0,none⟩,cap,by rw[h1,Plv_],trivial,by rw[Plv_]; exact h2,h3,?_,.inr ⟨⟨b,0,none⟩,ccs,rfl,rfl,hF b (by simp),?_,RepCs.demote hN es ccs F' (fun b hb=>hF b (by simp[hb])) h8⟩⟩
   ·rw[Pve_]; intro e he; obtain⟨q,hq,rfl⟩:=List.mem_map.1 he; rw[Psv_]; exact h4 q hq
   ·intro j u hu
    rw[← h7,List.getElem?_take] at hu
    split at hu
    ·simpa[World.cell?,h5] using hu
    ·cases hu
 | .clo f caps,cs,F,_,h=>by
  simp only[RepC,PV.view] at*
  obtain⟨vals,h1,h2,h3,h4⟩:=h
  exact⟨vals,h1,trivial,RepCs.frame hN (fun _ _=>rfl) caps vals [] (by simp) h3,h4⟩
 | .ptr v,cs,F,_,h=>by
  simp only[RepC,PV.view] at*
  obtain⟨ad,ccs,h1,h2,h3,h4,h5,h6⟩:=h
  exact⟨ad,ccs,h1,trivial,h3,hN _ h4,h5,RepC.frame hN (fun _ _=>rfl) v ccs [] (by simp) h6⟩
 | .tup _,cs,F,_,h=>by simp only[RepC] at h
theorem RepCs.demote{N N':Nat→Prop}{w:World}(hN:∀ b,N b→N' b):
 ∀ (ps:List PV) (cs:List Value) (F:List Nat),(∀ b∈F,N' b)→RepCs N w ps cs F→RepCs N' w (PV.views ps) cs []
 | [],cs,F,_,h=>by simp only[RepCs,PV.views] at*; exact⟨h.1,trivial⟩
 | p::ps,cs,F,hF,h=>by
  simp only[RepCs,PV.views] at*
  obtain⟨c1,c2,F1,F2,h1,h2,h3,h4⟩:=h
  subst h2
  exact⟨c1,c2,[],[],h1,rfl,RepC.demote hN p c1 F1 (fun b hb=>hF b (by simp[hb])) h3,RepCs.demote hN ps c2 F2 (fun b hb=>hF b (by simp[hb])) h4⟩
end

theorem RepCs.append{N:Nat→Prop}{w:World}:∀ (ps qs:List PV) (c1 c2:List Value) (F1 F2:List Nat),
 RepCs N w ps c1 F1→RepCs N w qs c2 F2→RepCs N w (ps++qs) (c1++c2) (F1++F2)
 | [],qs,c1,c2,F1,F2,h1,h2=>by simp only[RepCs] at h1; simpa[h1.1,h1.2] using h2
 | p::ps,qs,c1,c2,F1,F2,h1,h2=>by
  simp only[RepCs] at h1
  obtain⟨d1,d2,G1,G2,e1,e2,e3,e4⟩:=h1
  subst e1; subst e2
  have:=RepCs.append ps qs d2 c2 G2 F2 e4 h2
  simp only[List.cons_append,RepCs]
  exact⟨d1,d2++c2,G1,G2++F2,by simp,by simp,e3,this⟩

theorem RepCs.split{N:Nat→Prop}{w:World}:∀ (ps qs:List PV) (c:List Value) (F:List Nat),
 RepCs N w (ps++qs) c F→∃ c1 c2 F1 F2,c=c1++c2∧F=F1++F2∧RepCs N w ps c1 F1∧RepCs N w qs c2 F2
 | [],qs,c,F,h=>⟨[],c,[],F,by simp,by simp,by simp[RepCs],by simpa using h⟩
 | p::ps,qs,c,F,h=>by
  simp only[List.cons_append,RepCs] at h
  obtain⟨d1,d2,G1,G2,e1,e2,e3,e4⟩:=h
  obtain⟨c1,c2,F1,F2,f1,f2,f3,f4⟩:=RepCs.split ps qs d2 G2 e4
  subst e1; subst e2; subst f1; subst f2
  exact⟨d1++c1,c2,G1++F1,F2,by simp,by simp,by simp only[RepCs]; exact⟨d1,c1,G1,F1,rfl,rfl,e3,f3⟩,f4⟩

theorem Psc_{sz:Nat}:∀ {es:List PV},(∀ e∈es,PV.size e=sz)→PV.sizes es=es.length*sz
 | [],_=>by simp[PV.sizes]
 | e::es,h=>by simp[PV.sizes,h e (by simp),Psc_ (es:=es) (fun x hx=>h x (by simp[hx])),Nat.add_mul,Nat.add_comm]

theorem RepCs.at{N:Nat→Prop}{w:World}(es:List PV)(i:Nat)(p:PV)(c:List Value)(F:List Nat)(h:RepCs N w es c F)(hp:es[i]?=some p):
 ∃ c1 c2 c3 F1 F2 F3,c=c1++c2++c3∧F=F1++F2++F3∧c1.length=PV.sizes (es.take i)∧RepC N w p c2 F2∧RepCs N w (es.take i) c1 F1∧RepCs N w (es.drop (i+1)) c3 F3:=by
 have hi:i<es.length:=(List.getElem?_eq_some_iff.1 hp).1
 have he:es=es.take i++(p::es.drop (i+1)):=by
  have h1:=List.take_append_drop i es
  have h2:es.drop i=p::es.drop (i+1):=by
   rw[List.drop_eq_getElem_cons hi]; congr 1; exact(List.getElem?_eq_some_iff.1 hp).2
  rw[h2] at h1; exact h1.symm
 rw[he] at h
 obtain⟨c1,c2,F1,F2,e1,e2,e3,e4⟩:=RepCs.split _ _ c F h
 simp only[RepCs] at e4
 obtain⟨d1,d2,G1,G2,f1,f2,f3,f4⟩:=e4
 exact⟨c1,d1,d2,F1,G1,G2,by simp[e1,f1],by simp[e2,f2],RepCs.length _ _ _ e3,f3,e3,f4⟩

def RepV(N:Nat→Prop)(w:World):PV→Value→List Nat→Prop
 | .agg fs,v,F=>∃ cs,v=.agg cs.toArray∧RepCs N w fs cs F
 | p,v,F=>RepC N w p [v] F

def RepVs(N:Nat→Prop)(w:World):List PV→List Value→List Nat→Prop
 | [],vs,F=>vs=[]∧F=[]
 | p::ps,vs,F=>∃ v vs' F1 F2,vs=v::vs'∧F=F1++F2∧RepV N w p v F1∧RepVs N w ps vs' F2

theorem RepV.cells{N:Nat→Prop}{w:World}{p:PV}{v:Value}{F:List Nat}(h:RepV N w p v F):RepC N w p v.cells.toList F:=by
 cases p with
 | agg fs=>obtain⟨cs,rfl,h⟩:=h; simpa[Value.cells,RepC] using h
 | tup vs=>simp[RepV,RepC] at h
 | _=>
  simp only[RepV] at h
  have h1:=RepC.one _ _ _ h v (by simp)
  cases v<;>first | (simp[Value.oneCell'] at h1; done) | exact h

theorem RepV.frame{N N':Nat→Prop}{w w':World}(hN:∀ b,N b→N' b)(hw:∀ b,N b→w'.heap[b]?=w.heap[b]?){p:PV}{v:Value}{F:List Nat}
 (hF:∀ b∈F,w'.heap[b]?=w.heap[b]?) (h:RepV N w p v F):RepV N' w' p v F:=by
 cases p with
 | agg fs=>obtain⟨cs,rfl,h⟩:=h; exact⟨cs,rfl,RepCs.frame hN hw fs cs F hF h⟩
 | _=>exact RepC.frame hN hw _ _ _ hF h
end Go.Av
