/- Lemmas of the proof; each says what it shows. -/
import Derived.WalkKit
import Derived.WalkSpells
import Derived.WalkLawsBesides
import Derived.Great.FillDense
import Derived.Laws.BytesString
set_option linter.unusedSimpArgs false
set_option linter.unusedVariables false
set_option linter.defProp false
namespace Go.Av
open Bool renaming and_eq_true→aw
open List renaming append_assoc→aS,map_cons→aF,length_append→aV,mem_append→aT,map_append→bG,append_nil→bj
open Nat renaming le_refl→aM
section

/-- A value, read: a word of one cell, a struct or an array, a slice (its own or shared), a closure, a pointer to memory that stays, several results. -/
inductive PV where
 | lit (v:Value)
 | agg (fs:List PV)
 | sl (own:Bool) (sz:Nat) (es:List PV)
 | clo (f:FuncId) (caps:List PV)
 | ptr (v:PV)
 | tup (vs:List PV)
 | mpv (ks:List (ByteArray×Nat)) (vs:List PV) (clock:Nat)

instance:Inhabited PV:=⟨.agg []⟩

mutual
def PV.size:PV→Nat
 | .agg fs=>PV.sizes fs
 | .tup _=>0
 | _=>1
def PV.sizes:List PV→Nat
 | []=>0
 | p::ps=>p.size+PV.sizes ps
end

mutual
/-- The same tree with nothing of one's own in it. -/
def PV.view:PV→PV
 | .lit v=>.lit v
 | .agg fs=>.agg (PV.views fs)
 | .sl _ sz es=>.sl false sz (PV.views es)
 | .clo f cs=>.clo f cs
 | .ptr v=>.ptr v
 | .tup vs=>.tup (PV.views vs)
 | .mpv ks vs c=>.mpv ks vs c
def PV.views:List PV→List PV
 | []=>[]
 | p::ps=>p.view::PV.views ps
end

/-- The cells from address 'a' on. -/
def RowAt(w:World)(a:Addr)(cs:List Value):Prop:=∀ j u,cs[j]?=some u→w.cell? ⟨a.block,a.off+j,none⟩=some u

def PV.isAggB:PV→Bool
 | .agg _=>true
 | _=>false
/-- The entries of a map: keys and stamps, values, their cells. -/
def MRel:List (ByteArray×Nat)→List PV→List MapEntry→List (List Value)→Prop
 | [],[],[],[]=>True
 | k::ks,p::ps,e::es,c::cs=>e.key=.string k.1∧e.born=k.2∧c.length=p.size∧(p.isAggB=true∧e.val=.agg c.toArray∨p.isAggB=false∧c=[e.val])∧MRel ks ps es cs
 | _,_,_,_=>False
mutual
def RepC(N:Nat→Prop)(w:World):PV→List Value→List Nat→Prop
 | .lit v,cs,F=>cs=[v]∧v.oneCell'=true∧F=[]
 | .agg fs,cs,F=>RepCs N w fs cs F
 | .sl false sz es,cs,F=>∃ a cap,cs=[.slice a es.length cap]∧F=[]∧es.length≤cap∧cap≤maxLen∧(∀ e∈es,PV.size e=sz)∧
  (es=[]∨∃ ad ccs,a=some ad∧ad.spot=none∧N ad.block∧RowAt w ad ccs∧RepCs N w es ccs [])
 | .sl true sz es,cs,F=>(cs=[.slice none 0 0]∧es=[]∧F=[])∨
  ∃ b cap c e F' ccs,cs=[.slice (some ⟨b,0,none⟩) es.length cap]∧es.length≤cap∧cap≤maxLen∧(∀ e∈es,PV.size e=sz)∧w.heap[b]?=some (.cells c e (0,0))∧c.size=cap*sz∧
   c.toList.take (es.length*sz)=ccs∧RepCs N w es ccs F'∧F=b::F'
 | .clo f caps,cs,F=>∃ vals,cs=[.func (.func f) #[] vals.toArray]∧F=[]∧RepCs N w caps vals []∧∀ p∈caps,PV.size p=1
 | .ptr v,cs,F=>∃ ad ccs,cs=[.pointer (some ad)]∧F=[]∧ad.spot=none∧N ad.block∧RowAt w ad ccs∧RepC N w v ccs []
 | .tup _,_,_=>False
 | .mpv ks vs clock,cs,F=>∃ b es css,cs=[.map (some b)]∧F=[]∧N b∧w.heap[b]?=some (.map (List.toArray es) clock)∧MRel ks vs es css∧(ks.map (·.1)).Nodup∧(ks.map (·.2)).Nodup∧(∀ k∈ks,k.2<clock)∧RepCs N w vs css.flatten []
def RepCs(N:Nat→Prop)(w:World):List PV→List Value→List Nat→Prop
 | [],cs,F=>cs=[]∧F=[]
 | p::ps,cs,F=>∃ c1 c2 F1 F2,cs=c1++c2∧F=F1++F2∧RepC N w p c1 F1∧RepCs N w ps c2 F2
end

theorem RowAt.mono{w w':World}{a:Addr}{cs:List Value}(h:RowAt w a cs)(hb:w'.heap[a.block]?=w.heap[a.block]?):RowAt w' a cs:=by
 intro j u hu
 rw[World.cell?_of_block (w:=w) (w':=w') (a:=⟨a.block,a.off+j,none⟩) hb]
 exact h j u hu

mutual
theorem RepC.frame{N N':Nat→Prop}{w w':World}(hN:∀ b,N b→N' b)(hw:∀ b,N b→w'.heap[b]?=w.heap[b]?):
 ∀ (p:PV) (cs:List Value) (F:List Nat),(∀ b∈F,w'.heap[b]?=w.heap[b]?)→RepC N w p cs F→RepC N' w' p cs F
 | .lit v,cs,F,_,h=>by simpa only[RepC] using h
 | .agg fs,cs,F,hF,h=>by
  simp only[RepC] at h ⊢
  exact RepCs.frame hN hw fs cs F hF h
 | .sl false sz es,cs,F,_,h=>by
  simp only[RepC] at h ⊢
  obtain⟨a,cap,h1,h2,h3,h4,h5,h6⟩:=h
  refine⟨a,cap,h1,h2,h3,h4,h5,?_⟩
  rcases h6 with h6 | ⟨ad,ccs,g1,g2,g3,g4,g5⟩
  ·exact .inl h6
  ·exact .inr ⟨ad,ccs,g1,g2,hN _ g3,g4.mono (hw _ g3),RepCs.frame hN hw es ccs [] (by simp) g5⟩
 | .sl true sz es,cs,F,hF,h=>by
  simp only[RepC] at h ⊢
  rcases h with h | ⟨b,cap,c,e,F',ccs,h1,h2,h3,h4,h5,h6,h7,h8,h9⟩
  ·exact .inl h
  ·subst h9
   exact .inr ⟨b,cap,c,e,F',ccs,h1,h2,h3,h4,by rw[hF b (by simp)]; exact h5,h6,h7,RepCs.frame hN hw es ccs F' (fun b hb=>hF b (by simp[hb])) h8,rfl⟩
 | .clo f caps,cs,F,_,h=>by
  simp only[RepC] at h ⊢
  obtain⟨vals,h1,h2,h3,h4⟩:=h
  exact⟨vals,h1,h2,RepCs.frame hN hw caps vals [] (by simp) h3,h4⟩
 | .ptr v,cs,F,_,h=>by
  simp only[RepC] at h ⊢
  obtain⟨ad,ccs,h1,h2,h3,h4,h5,h6⟩:=h
  exact⟨ad,ccs,h1,h2,h3,hN _ h4,h5.mono (hw _ h4),RepC.frame hN hw v ccs [] (by simp) h6⟩
 | .tup _,cs,F,_,h=>by simp only[RepC] at h
 | .mpv ks vs ck,cs,F,_,h=>by
  simp only[RepC] at h ⊢
  obtain⟨b,es,css,h1,h2,h3,h4,h5,h6,h7,h8,h9⟩:=h
  exact⟨b,es,css,h1,h2,hN _ h3,by rw[hw _ h3]; exact h4,h5,h6,h7,h8,RepCs.frame hN hw vs _ [] (by simp) h9⟩
theorem RepCs.frame{N N':Nat→Prop}{w w':World}(hN:∀ b,N b→N' b)(hw:∀ b,N b→w'.heap[b]?=w.heap[b]?):
 ∀ (ps:List PV) (cs:List Value) (F:List Nat),(∀ b∈F,w'.heap[b]?=w.heap[b]?)→RepCs N w ps cs F→RepCs N' w' ps cs F
 | [],cs,F,_,h=>by simpa only[RepCs] using h
 | p::ps,cs,F,hF,h=>by
  simp only[RepCs] at h ⊢
  obtain⟨c1,c2,F1,F2,h1,h2,h3,h4⟩:=h
  subst h2
  exact⟨c1,c2,F1,F2,h1,rfl,RepC.frame hN hw p c1 F1 (fun b hb=>hF b (by simp[hb])) h3,RepCs.frame hN hw ps c2 F2 (fun b hb=>hF b (by simp[hb])) h4⟩
end

mutual
theorem RepC.length{N:Nat→Prop}{w:World}:∀ (p:PV) (cs:List Value) (F:List Nat),RepC N w p cs F→cs.length=p.size
 | .lit v,cs,F,h=>by simp only[RepC] at h; simp[h.1,PV.size]
 | .agg fs,cs,F,h=>by simp only[RepC] at h; simpa[PV.size] using RepCs.length fs cs F h
 | .sl false sz es,cs,F,h=>by simp only[RepC] at h; obtain⟨a,cap,h1,_⟩:=h; simp[h1,PV.size]
 | .sl true sz es,cs,F,h=>by
  simp only[RepC] at h
  rcases h with h | ⟨b,cap,c,e,F',ccs,h1,_⟩
  ·simp[h.1,PV.size]
  ·simp[h1,PV.size]
 | .clo f caps,cs,F,h=>by simp only[RepC] at h; obtain⟨vals,h1,_⟩:=h; simp[h1,PV.size]
 | .ptr v,cs,F,h=>by simp only[RepC] at h; obtain⟨ad,ccs,h1,_⟩:=h; simp[h1,PV.size]
 | .tup _,cs,F,h=>by simp only[RepC] at h
 | .mpv _ _ _,cs,F,h=>by simp only[RepC] at h; obtain⟨b,es,css,h1,_⟩:=h; simp[h1,PV.size]
theorem RepCs.length{N:Nat→Prop}{w:World}:∀ (ps:List PV) (cs:List Value) (F:List Nat),RepCs N w ps cs F→cs.length=PV.sizes ps
 | [],cs,F,h=>by simp only[RepCs] at h; simp[h.1,PV.sizes]
 | p::ps,cs,F,h=>by
  simp only[RepCs] at h
  obtain⟨c1,c2,F1,F2,h1,h2,h3,h4⟩:=h
  simp[h1,PV.sizes,RepC.length p c1 F1 h3,RepCs.length ps c2 F2 h4]
end

mutual
theorem RepC.one{N:Nat→Prop}{w:World}:∀ (p:PV) (cs:List Value) (F:List Nat),RepC N w p cs F→∀ u∈cs,u.oneCell'=true
 | .lit v,cs,F,h=>by simp only[RepC] at h; simp[h.1,h.2.1]
 | .agg fs,cs,F,h=>by simp only[RepC] at h; exact RepCs.one fs cs F h
 | .sl false sz es,cs,F,h=>by simp only[RepC] at h; obtain⟨a,cap,h1,_⟩:=h; simp[h1,Value.oneCell']
 | .sl true sz es,cs,F,h=>by
  simp only[RepC] at h
  rcases h with h | ⟨b,cap,c,e,F',ccs,h1,_⟩
  ·simp[h.1,Value.oneCell']
  ·simp[h1,Value.oneCell']
 | .clo f caps,cs,F,h=>by simp only[RepC] at h; obtain⟨vals,h1,_⟩:=h; simp[h1,Value.oneCell']
 | .ptr v,cs,F,h=>by simp only[RepC] at h; obtain⟨ad,ccs,h1,_⟩:=h; simp[h1,Value.oneCell']
 | .tup _,cs,F,h=>by simp only[RepC] at h
 | .mpv _ _ _,cs,F,h=>by simp only[RepC] at h; obtain⟨b,es,css,h1,_⟩:=h; simp[h1,Value.oneCell']
theorem RepCs.one{N:Nat→Prop}{w:World}:∀ (ps:List PV) (cs:List Value) (F:List Nat),RepCs N w ps cs F→∀ u∈cs,u.oneCell'=true
 | [],cs,F,h=>by simp only[RepCs] at h; simp[h.1]
 | p::ps,cs,F,h=>by
  simp only[RepCs] at h
  obtain⟨c1,c2,F1,F2,h1,h2,h3,h4⟩:=h
  subst h1
  intro u hu
  rcases List.mem_append.1 hu with hu | hu
  ·exact RepC.one p c1 F1 h3 u hu
  ·exact RepCs.one ps c2 F2 h4 u hu
end

theorem PV.length_views:∀ ps:List PV,(PV.views ps).length=ps.length
 | []=>by simp[PV.views]
 | _::ps=>by simp[PV.views,PV.length_views ps]
mutual
theorem PV.size_view:∀ p:PV,p.view.size=p.size
 | .agg fs=>by simp[PV.view,PV.size,PV.sizes_views fs]
 | .lit _ | .sl _ _ _ | .clo _ _ | .ptr _ | .tup _ | .mpv _ _ _=>by simp[PV.view,PV.size]
theorem PV.sizes_views:∀ ps:List PV,PV.sizes (PV.views ps)=PV.sizes ps
 | []=>by simp[PV.views]
 | p::ps=>by simp[PV.views,PV.sizes,PV.size_view p,PV.sizes_views ps]
end
theorem PV.views_eq:∀ ps:List PV,PV.views ps=ps.map PV.view
 | []=>by simp[PV.views]
 | p::ps=>by simp[PV.views,PV.views_eq ps]

mutual
/-- What was one's own, given up: all may read it. -/
theorem RepC.demote{N N':Nat→Prop}{w:World}(hN:∀ b,N b→N' b):
 ∀ (p:PV) (cs:List Value) (F:List Nat),(∀ b∈F,N' b)→RepC N w p cs F→RepC N' w p.view cs []
 | .lit v,cs,F,_,h=>by simp only[RepC,PV.view] at*; exact⟨h.1,h.2.1,trivial⟩
 | .agg fs,cs,F,hF,h=>by
  simp only[RepC,PV.view] at*
  exact RepCs.demote hN fs cs F hF h
 | .sl false sz es,cs,F,_,h=>by
  simp only[RepC,PV.view] at*
  obtain⟨a,cap,h1,h2,h3,h4,h5,h6⟩:=h
  refine⟨a,cap,by rw[h1,PV.length_views],trivial,by rw[PV.length_views]; exact h3,h4,?_,?_⟩
  ·rw[PV.views_eq]; intro e he; obtain⟨q,hq,rfl⟩:=List.mem_map.1 he; rw[PV.size_view]; exact h5 q hq
  ·rcases h6 with h6 | ⟨ad,ccs,g1,g2,g3,g4,g5⟩
   ·left; simp[h6,PV.views]
   ·exact .inr ⟨ad,ccs,g1,g2,hN _ g3,g4,RepCs.demote hN es ccs [] (by simp) g5⟩
 | .sl true sz es,cs,F,hF,h=>by
  simp only[RepC,PV.view] at*
  rcases h with⟨h1,h2,h3⟩ | ⟨b,cap,c,e,F',ccs,h1,h2,h3,h4,h5,h6,h7,h8,h9⟩
  ·subst h2
   exact⟨none,0,by simp[h1,PV.views],trivial,by simp[PV.views],by simp,by simp[PV.views],.inl (by simp[PV.views])⟩
  ·subst h9
   refine⟨some ⟨b,0,none⟩,cap,by rw[h1,PV.length_views],trivial,by rw[PV.length_views]; exact h2,h3,?_,.inr ⟨⟨b,0,none⟩,ccs,rfl,rfl,hF b (by simp),?_,RepCs.demote hN es ccs F' (fun b hb=>hF b (by simp[hb])) h8⟩⟩
   ·rw[PV.views_eq]; intro e he; obtain⟨q,hq,rfl⟩:=List.mem_map.1 he; rw[PV.size_view]; exact h4 q hq
   ·intro j u hu
    rw[← h7,List.getElem?_take] at hu
    split at hu
    ·simpa[World.cell?,h5] using hu
    ·cases hu
 | .clo f caps,cs,F,_,h=>by
  simp only[RepC,PV.view] at*
  obtain⟨vals,h1,h2,h3,h4⟩:=h
  exact⟨vals,h1,trivial,RepCs.frame hN (fun _ _=>rfl) caps vals [] (by simp) h3,h4⟩
 | .ptr v,cs,F,_,h=>by
  simp only[RepC,PV.view] at*
  obtain⟨ad,ccs,h1,h2,h3,h4,h5,h6⟩:=h
  exact⟨ad,ccs,h1,trivial,h3,hN _ h4,h5,RepC.frame hN (fun _ _=>rfl) v ccs [] (by simp) h6⟩
 | .tup _,cs,F,_,h=>by simp only[RepC] at h
 | .mpv ks vs ck,cs,F,_,h=>by
  simp only[RepC,PV.view] at*
  obtain⟨b,es,css,h1,h2,h3,h4,h5,h6,h7,h8,h9⟩:=h
  exact⟨b,es,css,h1,trivial,hN _ h3,h4,h5,h6,h7,h8,RepCs.frame hN (fun _ _=>rfl) vs _ [] (by simp) h9⟩
theorem RepCs.demote{N N':Nat→Prop}{w:World}(hN:∀ b,N b→N' b):
 ∀ (ps:List PV) (cs:List Value) (F:List Nat),(∀ b∈F,N' b)→RepCs N w ps cs F→RepCs N' w (PV.views ps) cs []
 | [],cs,F,_,h=>by simp only[RepCs,PV.views] at*; exact⟨h.1,trivial⟩
 | p::ps,cs,F,hF,h=>by
  simp only[RepCs,PV.views] at*
  obtain⟨c1,c2,F1,F2,h1,h2,h3,h4⟩:=h
  subst h2
  exact⟨c1,c2,[],[],h1,rfl,RepC.demote hN p c1 F1 (fun b hb=>hF b (by simp[hb])) h3,RepCs.demote hN ps c2 F2 (fun b hb=>hF b (by simp[hb])) h4⟩
end

theorem RepCs.append{N:Nat→Prop}{w:World}:∀ (ps qs:List PV) (c1 c2:List Value) (F1 F2:List Nat),
 RepCs N w ps c1 F1→RepCs N w qs c2 F2→RepCs N w (ps++qs) (c1++c2) (F1++F2)
 | [],qs,c1,c2,F1,F2,h1,h2=>by simp only[RepCs] at h1; simpa[h1.1,h1.2] using h2
 | p::ps,qs,c1,c2,F1,F2,h1,h2=>by
  simp only[RepCs] at h1
  obtain⟨d1,d2,G1,G2,e1,e2,e3,e4⟩:=h1
  subst e1; subst e2
  have:=RepCs.append ps qs d2 c2 G2 F2 e4 h2
  simp only[List.cons_append,RepCs]
  exact⟨d1,d2++c2,G1,G2++F2,by simp,by simp,e3,this⟩

theorem RepCs.split{N:Nat→Prop}{w:World}:∀ (ps qs:List PV) (c:List Value) (F:List Nat),
 RepCs N w (ps++qs) c F→∃ c1 c2 F1 F2,c=c1++c2∧F=F1++F2∧RepCs N w ps c1 F1∧RepCs N w qs c2 F2
 | [],qs,c,F,h=>⟨[],c,[],F,by simp,by simp,by simp[RepCs],by simpa using h⟩
 | p::ps,qs,c,F,h=>by
  simp only[List.cons_append,RepCs] at h
  obtain⟨d1,d2,G1,G2,e1,e2,e3,e4⟩:=h
  obtain⟨c1,c2,F1,F2,f1,f2,f3,f4⟩:=RepCs.split ps qs d2 G2 e4
  subst e1; subst e2; subst f1; subst f2
  exact⟨d1++c1,c2,G1++F1,F2,by simp,by simp,by simp only[RepCs]; exact⟨d1,c1,G1,F1,rfl,rfl,e3,f3⟩,f4⟩

theorem PV.sizes_const{sz:Nat}:∀ {es:List PV},(∀ e∈es,PV.size e=sz)→PV.sizes es=es.length*sz
 | [],_=>by simp[PV.sizes]
 | e::es,h=>by simp[PV.sizes,h e (by simp),PV.sizes_const (es:=es) (fun x hx=>h x (by simp[hx])),Nat.add_mul,Nat.add_comm]

/-- The i-th part of a list that is read, with its cells. -/
theorem RepCs.at{N:Nat→Prop}{w:World}(es:List PV)(i:Nat)(p:PV)(c:List Value)(F:List Nat)(h:RepCs N w es c F)(hp:es[i]?=some p):
 ∃ c1 c2 c3 F1 F2 F3,c=c1++c2++c3∧F=F1++F2++F3∧c1.length=PV.sizes (es.take i)∧RepC N w p c2 F2∧RepCs N w (es.take i) c1 F1∧RepCs N w (es.drop (i+1)) c3 F3:=by
 have hi:i<es.length:=(List.getElem?_eq_some_iff.1 hp).1
 have he:es=es.take i++(p::es.drop (i+1)):=by
  have h1:=List.take_append_drop i es
  have h2:es.drop i=p::es.drop (i+1):=by
   rw[List.drop_eq_getElem_cons hi]; congr 1; exact(List.getElem?_eq_some_iff.1 hp).2
  rw[h2] at h1; exact h1.symm
 rw[he] at h
 obtain⟨c1,c2,F1,F2,e1,e2,e3,e4⟩:=RepCs.split _ _ c F h
 simp only[RepCs] at e4
 obtain⟨d1,d2,G1,G2,f1,f2,f3,f4⟩:=e4
 exact⟨c1,d1,d2,F1,G1,G2,by simp[e1,f1],by simp[e2,f2],RepCs.length _ _ _ e3,f3,e3,f4⟩

/-- A whole value, read. -/
def RepV(N:Nat→Prop)(w:World):PV→Value→List Nat→Prop
 | .agg fs,v,F=>∃ cs,v=.agg cs.toArray∧RepCs N w fs cs F
 | p,v,F=>RepC N w p [v] F

def RepVs(N:Nat→Prop)(w:World):List PV→List Value→List Nat→Prop
 | [],vs,F=>vs=[]∧F=[]
 | p::ps,vs,F=>∃ v vs' F1 F2,vs=v::vs'∧F=F1++F2∧RepV N w p v F1∧RepVs N w ps vs' F2

theorem RepV.cells{N:Nat→Prop}{w:World}{p:PV}{v:Value}{F:List Nat}(h:RepV N w p v F):RepC N w p v.cells.toList F:=by
 cases p with
 | agg fs=>obtain⟨cs,rfl,h⟩:=h; simpa[Value.cells,RepC] using h
 | tup vs=>simp[RepV,RepC] at h
 | _=>
  simp only[RepV] at h
  have h1:=RepC.one _ _ _ h v (by simp)
  cases v<;>first | (simp[Value.oneCell'] at h1; done) | exact h

theorem RepV.frame{N N':Nat→Prop}{w w':World}(hN:∀ b,N b→N' b)(hw:∀ b,N b→w'.heap[b]?=w.heap[b]?){p:PV}{v:Value}{F:List Nat}
 (hF:∀ b∈F,w'.heap[b]?=w.heap[b]?) (h:RepV N w p v F):RepV N' w' p v F:=by
 cases p with
 | agg fs=>obtain⟨cs,rfl,h⟩:=h; exact⟨cs,rfl,RepCs.frame hN hw fs cs F hF h⟩
 | _=>exact RepC.frame hN hw _ _ _ hF h
end
section

/-- What a variable or a temporary holds: a value with nothing of one's own in it; a slice that this activation owns (by its name); a struct of such; cells of which nothing is known. -/
inductive CV where
 | pv (v:PV)
 | own (c:Nat)
 | node (fs:List CV)
 | gone (n:Nat)
instance:Inhabited CV:=⟨.gone 0⟩

/-- The shape of a handle: a pointer, a map, a closure that has captured a pointer (where 'true' stands) beside other values. -/
inductive Sh where
 | ptr
 | mp
 | clo (f:FuncId) (pat:List Bool)
def fillPat:List Bool→Nat→List Value→List Value
 | [],_,_=>[]
 | true::p,b,vs=>.pointer (some ⟨b,0,none⟩)::fillPat p b vs
 | false::p,b,v::vs=>v::fillPat p b vs
 | false::p,b,[]=>undef::fillPat p b []
def Sh.val:Sh→Nat→List Value→Value
 | .ptr,b,_=>.pointer (some ⟨b,0,none⟩)
 | .mp,b,_=>.map (some b)
 | .clo f pat,b,vs=>.func (.func f) #[] (fillPat pat b vs).toArray
/-- An entry of a map: key, element, stamp. -/
abbrev MEnt:=ByteArray×PV×Nat
/-- What lies behind a handle: cells; a map; a range over a map. -/
inductive HC where
 | cv (x:CV)
 | mp (es:List MEnt) (clock:Nat)
 | it (r since:Nat) (seen:List Nat) (last:Nat)
instance:Inhabited HC:=⟨.mp [] 0⟩

mutual
def CV.size:CV→Nat
 | .pv v=>v.size
 | .own _=>1
 | .node fs=>CV.sizes fs
 | .gone n=>n
def CV.sizes:List CV→Nat
 | []=>0
 | x::xs=>x.size+CV.sizes xs
end

inductive SlotV where
 | dead
 | val (x:CV)
 | tup (xs:List CV)
 | box (x:CV)
 | bptr (r:Nat) (path:List Nat) (off:Nat)
 | eptr (c sz i:Nat) (path:List Nat) (off:Nat)
 | ex (Q:Value→Prop)
 | fn (cs rs:List Nat) (ps:List PV) (f:List Value→List Nat→List Value→Value)
 | hold (sh:Sh) (ps:List PV) (x:HC)
 | hptr (r:Nat) (sh:Sh) (ps:List PV)
instance:Inhabited SlotV:=⟨.dead⟩

structure St where
 s:Nat→SlotV
 o:Nat→Option (Nat×List PV)

structure Gh where
 hd:Nat→Value
 fp:Nat→List Nat
 ad:Nat→Nat

/-- Whether draws are counted (a contract that a sort wants to know). -/
def DQ:Bool:=true
/-- Below block number B, and but for the blocks of L, the world w' is as w was. -/
structure KeepX(L:List Nat)(B:Nat)(w w':World):Prop where
 os:w'.os=w.os
 tape:w'.tape=w.tape
 output:w'.output=w.output
 size:w.heap.size≤w'.heap.size
 block:∀ k,k<B→k∉L→w'.heap[k]?=w.heap[k]?
 drawn:DQ=true→w.drawn≤w'.drawn
theorem KeepX.refl(L:List Nat)(B:Nat)(w:World):KeepX L B w w:=⟨rfl,rfl,rfl,aM _,fun _ _ _=>rfl,fun _=>aM _⟩
theorem KeepX.trans{L:List Nat}{B:Nat}{a b c:World}(h:KeepX L B a b)(k:KeepX L B b c):KeepX L B a c:=
 ⟨k.os.trans h.os,k.tape.trans h.tape,k.output.trans h.output,Nat.le_trans h.size k.size,fun i hi hl=>(k.block i hi hl).trans (h.block i hi hl),fun q=>Nat.le_trans (h.drawn q) (k.drawn q)⟩
theorem KeepX.of_below{L:List Nat}{B:Nat}{w w':World}(h:RowKit.Below B w w')(hd:w.drawn≤w'.drawn:=by exact Nat.le.refl):KeepX L B w w':=⟨h.os,h.tape,h.output,h.size,fun k hk _=>h.block k hk,fun _=>hd⟩

/-- What an activation was handed: the world, what it may read, the blocks that are now its own, how many slots it has. -/
structure Ctx where
 w0:World
 N:Nat→Prop
 L:List Nat
 nt:Nat
 held:List (Nat×Value):=[]
 hH:∀ c v,(c,v)∈held→10000≤c:=by simp
 hN:∀ b,N b→b<w0.heap.size∧b∉L
 hL:∀ b∈L,b<w0.heap.size

mutual
def RepCV(N:Nat→Prop)(w:World)(hd:Nat→Value):CV→List Value→Prop
 | .pv v,cs=>RepC N w v cs []
 | .own c,cs=>cs=[hd c]∧(hd c).oneCell'=true
 | .node fs,cs=>RepCVs N w hd fs cs
 | .gone n,cs=>cs.length=n∧∀ u∈cs,u.oneCell'=true
def RepCVs(N:Nat→Prop)(w:World)(hd:Nat→Value):List CV→List Value→Prop
 | [],cs=>cs=[]
 | x::xs,cs=>∃ c1 c2,cs=c1++c2∧RepCV N w hd x c1∧RepCVs N w hd xs c2
end

def CV.isAgg:CV→Bool
 | .node _=>true
 | .pv (.agg _)=>true
 | _=>false

/-- A whole value that is this. -/
def CVal(N:Nat→Prop)(w:World)(hd:Nat→Value)(x:CV)(v:Value):Prop:=
 (x.isAgg=true∧∃ cs,v=.agg cs.toArray∧RepCV N w hd x cs)∨(x.isAgg=false∧RepCV N w hd x [v]∧v.oneCell'=true)

def CVals(N:Nat→Prop)(w:World)(hd:Nat→Value):List CV→List Value→Prop
 | [],vs=>vs=[]
 | x::xs,vs=>∃ v vs',vs=v::vs'∧CVal N w hd x v∧CVals N w hd xs vs'

def MapIs(N:Nat→Prop)(w:World):List MEnt→List MapEntry→Prop
 | [],es=>es=[]
 | (k,p,s)::kv,es=>∃ e es',es=e::es'∧e.key=.string k∧e.born=s∧RepV N w p e.val []∧MapIs N w kv es'
def HCok(N:Nat→Prop)(w:World)(hd:Nat→Value)(ad:Nat→Nat)(b:Nat):HC→Prop
 | .cv x=>∃ cs e,w.heap[b]?=some (.cells cs.toArray e (0,0))∧RepCV N w hd x cs
 | .mp kv clock=>∃ es:List MapEntry,w.heap[b]?=some (.map es.toArray clock)∧MapIs N w kv es∧(kv.map (·.1)).Nodup∧(kv.map (·.2.2)).Nodup∧∀ e∈kv,e.2.2<clock
 | .it r since seen last=>w.heap[b]?=some (.mapIter (some (ad r)) since seen.toArray last)

def SlotOk(N:Nat→Prop)(w:World)(G:Gh)(k:Nat)(v:Value):SlotV→Prop
 | .dead=>True
 | .val x=>CVal N w G.hd x v
 | .tup xs=>∃ vs,v=.tuple vs.toArray∧CVals N w G.hd xs vs
 | .box x=>v=.pointer (some ⟨G.ad k,0,none⟩)∧∃ cs e,w.heap[G.ad k]?=some (.cells cs.toArray e (0,0))∧RepCV N w G.hd x cs
 | .bptr r _ off=>v=.pointer (some ⟨G.ad r,off,none⟩)
 | .eptr c sz i _ off=>∃ b n cap,G.hd c=.slice (some ⟨b,0,none⟩) n cap∧v=.pointer (some ⟨b,i*sz+off,none⟩)
 | .ex Q=>Q v
 | .fn cs rs ps f=>∃ vals,RepCs N w ps vals []∧v=f (cs.map G.hd) (rs.map G.ad) vals
 | .hold sh ps x=>∃ vals,RepCs N w ps vals []∧v=sh.val (G.ad k) vals∧HCok N w G.hd G.ad (G.ad k) x
 | .hptr r sh ps=>∃ vals,RepCs N w ps vals []∧v=sh.val (G.ad r) vals

def isBox:SlotV→Bool
 | .box _=>true
 | .hold ..=>true
 | _=>false

def Priv(st:St)(G:Gh)(b:Nat):Prop:=(∃ r,isBox (st.s r)=true∧b=G.ad r)∨(∃ c p,st.o c=some p∧b∈G.fp c)

def Nof(κ:Ctx)(st:St)(G:Gh)(w:World)(b:Nat):Prop:=(κ.N b∨((κ.w0.heap.size≤b∨b∈κ.L)∧b<w.heap.size))∧¬ Priv st G b

structure RG(κ:Ctx)(G:Gh)(st:St)(a:Act)(w:World):Prop where
 keep:KeepX κ.L κ.w0.heap.size κ.w0 w
 defers:a.defers=[]
 nt:a.tmps.size=κ.nt
 slots:∀ k,SlotOk (Nof κ st G w) w G k (a.tmps.getD k undef) (st.s k)
 objs:∀ c sz es,st.o c=some (sz,es)→RepC (Nof κ st G w) w (.sl true sz es) [G.hd c] (G.fp c)∧(G.fp c).Nodup∧∀ b∈G.fp c,(κ.w0.heap.size≤b∨b∈κ.L)∧b<w.heap.size
 boxes:∀ r,isBox (st.s r)=true→(κ.w0.heap.size≤G.ad r∨G.ad r∈κ.L)∧G.ad r<w.heap.size
 bb:∀ r r',isBox (st.s r)=true→isBox (st.s r')=true→G.ad r=G.ad r'→r=r'
 bo:∀ r c p,isBox (st.s r)=true→st.o c=some p→G.ad r∉G.fp c
 oo:∀ c c' p p',st.o c=some p→st.o c'=some p'→c≠c'→∀ b∈G.fp c,b∉G.fp c'
 held:∀ c v,(c,v)∈κ.held→G.hd c=v

def R(κ:Ctx)(st:St)(a:Act)(w:World):Prop:=∃ G,RG κ G st a w

/-! ### Frames -/
mutual
def CV.noC(c:Nat):CV→Bool
 | .pv _=>true
 | .own c'=>c' != c
 | .node fs=>CV.noCs c fs
 | .gone _=>true
def CV.noCs(c:Nat):List CV→Bool
 | []=>true
 | x::xs=>x.noC c&&CV.noCs c xs
end
def HC.noC(c:Nat):HC→Bool
 | .cv x=>x.noC c
 | _=>true
def HC.noR(r:Nat):HC→Bool
 | .it r' _ _ _=>r' != r
 | _=>true
def SlotV.noC(c:Nat):SlotV→Bool
 | .dead | .bptr .. | .ex _ | .hptr ..=>true
 | .hold _ _ x=>x.noC c
 | .val x | .box x=>x.noC c
 | .tup xs=>CV.noCs c xs
 | .eptr c' _ _ _ _=>c' != c
 | .fn cs _ _ _=>!cs.contains c
def SlotV.noR(r:Nat):SlotV→Bool
 | .bptr r' _ _=>r' != r
 | .fn _ rs _ _=>!rs.contains r
 | .hold _ _ x=>x.noR r
 | .hptr r' _ _=>r' != r
 | _=>true

mutual
theorem RepCV.frame{N N':Nat→Prop}{w w':World}{hd hd':Nat→Value}(hN:∀ b,N b→N' b)(hw:∀ b,N b→w'.heap[b]?=w.heap[b]?):
 ∀ (x:CV) (cs:List Value),(∀ c,x.noC c=false→hd' c=hd c)→RepCV N w hd x cs→RepCV N' w' hd' x cs
 | .pv v,cs,_,h=>by simp only[RepCV] at h ⊢; exact RepC.frame hN hw v cs [] (by simp) h
 | .own c,cs,hc,h=>by simp only[RepCV] at h ⊢; rw[hc c (by simp[CV.noC])]; exact h
 | .node fs,cs,hc,h=>by simp only[RepCV] at h ⊢; exact RepCVs.frame hN hw fs cs (fun c hh=>hc c (by simpa[CV.noC] using hh)) h
 | .gone n,cs,_,h=>by simpa only[RepCV] using h
theorem RepCVs.frame{N N':Nat→Prop}{w w':World}{hd hd':Nat→Value}(hN:∀ b,N b→N' b)(hw:∀ b,N b→w'.heap[b]?=w.heap[b]?):
 ∀ (xs:List CV) (cs:List Value),(∀ c,CV.noCs c xs=false→hd' c=hd c)→RepCVs N w hd xs cs→RepCVs N' w' hd' xs cs
 | [],cs,_,h=>by simpa only[RepCVs] using h
 | x::xs,cs,hc,h=>by
  simp only[RepCVs] at h ⊢
  obtain⟨c1,c2,h1,h2,h3⟩:=h
  exact⟨c1,c2,h1,RepCV.frame hN hw x c1 (fun c hh=>hc c (by simp[CV.noCs,hh])) h2,RepCVs.frame hN hw xs c2 (fun c hh=>hc c (by simp[CV.noCs,hh])) h3⟩
end

theorem CVal.frame{N N':Nat→Prop}{w w':World}{hd hd':Nat→Value}(hN:∀ b,N b→N' b)(hw:∀ b,N b→w'.heap[b]?=w.heap[b]?)
 {x:CV} {v:Value} (hc:∀ c,x.noC c=false→hd' c=hd c) (h:CVal N w hd x v):CVal N' w' hd' x v:=by
 rcases h with⟨h1,cs,h2,h3⟩ | ⟨h1,h2,h3⟩
 ·exact .inl ⟨h1,cs,h2,RepCV.frame hN hw x cs hc h3⟩
 ·exact .inr ⟨h1,RepCV.frame hN hw x _ hc h2,h3⟩
theorem CVals.frame{N N':Nat→Prop}{w w':World}{hd hd':Nat→Value}(hN:∀ b,N b→N' b)(hw:∀ b,N b→w'.heap[b]?=w.heap[b]?):
 ∀ {xs:List CV} {vs:List Value},(∀ c,CV.noCs c xs=false→hd' c=hd c)→CVals N w hd xs vs→CVals N' w' hd' xs vs
 | [],vs,_,h=>by simpa only[CVals] using h
 | x::xs,vs,hc,h=>by
  simp only[CVals] at h ⊢
  obtain⟨v,vs',h1,h2,h3⟩:=h
  exact⟨v,vs',h1,h2.frame hN hw (fun c hh=>hc c (by simp[CV.noCs,hh])),CVals.frame hN hw (fun c hh=>hc c (by simp[CV.noCs,hh])) h3⟩

theorem RepV.frame0{N N':Nat→Prop}{w w':World}(hN:∀ b,N b→N' b)(hw:∀ b,N b→w'.heap[b]?=w.heap[b]?){p:PV}{v:Value}(h:RepV N w p v []):RepV N' w' p v []:=by
 cases p with
 | agg fs=>obtain⟨cs,e,h⟩:=h; exact⟨cs,e,RepCs.frame hN hw fs cs [] (by simp) h⟩
 | _=>exact RepC.frame hN hw _ _ [] (by simp) h
theorem MapIs.frame{N N':Nat→Prop}{w w':World}(hN:∀ b,N b→N' b)(hw:∀ b,N b→w'.heap[b]?=w.heap[b]?):∀ (kv:List MEnt) (es:List MapEntry),MapIs N w kv es→MapIs N' w' kv es
 | [],_,h=>h
 | (k,p,s)::kv,es,h=>by
  obtain⟨e,es',h1,h2,h3,h4,h5⟩:=h
  exact⟨e,es',h1,h2,h3,h4.frame0 hN hw,MapIs.frame hN hw kv es' h5⟩
theorem HCok.frame{N N':Nat→Prop}{w w':World}{hd hd':Nat→Value}{ad ad':Nat→Nat}{b:Nat}{x:HC}(hN:∀ b,N b→N' b)(hw:∀ b,N b→w'.heap[b]?=w.heap[b]?)
 (hc:∀ c,x.noC c=false→hd' c=hd c) (hr:∀ r,x.noR r=false→ad' r=ad r) (hb:w'.heap[b]?=w.heap[b]?) (h:HCok N w hd ad b x):HCok N' w' hd' ad' b x:=by
 cases x with
 | cv x=>obtain⟨cs,e,h1,h2⟩:=h; exact⟨cs,e,hb.trans h1,RepCV.frame hN hw x cs (fun c hh=>hc c (by simpa[HC.noC] using hh)) h2⟩
 | mp kv clock=>obtain⟨es,h1,h2,h3⟩:=h; exact⟨es,hb.trans h1,MapIs.frame hN hw kv es h2,h3⟩
 | it r since seen last=>simp only[HCok] at h ⊢; rw[hr r (by simp[HC.noR]),hb]; exact h

/-- A slot that is not touched, in a later world: nothing that it leans on has turned. -/
theorem SlotOk.frame{N N':Nat→Prop}{w w':World}{G G':Gh}{k:Nat}{v:Value}{sv:SlotV}(hN:∀ b,N b→N' b)(hw:∀ b,N b→w'.heap[b]?=w.heap[b]?)
 (hc:∀ c,sv.noC c=false→G'.hd c=G.hd c) (hr:∀ r,sv.noR r=false→G'.ad r=G.ad r) (hb:isBox sv=true→G'.ad k=G.ad k∧w'.heap[G.ad k]?=w.heap[G.ad k]?)
 (h:SlotOk N w G k v sv):SlotOk N' w' G' k v sv:=by
 cases sv with
 | dead=>trivial
 | val x=>exact CVal.frame hN hw (fun c hh=>hc c (by simpa[SlotV.noC] using hh)) h
 | tup xs=>obtain⟨vs,h1,h2⟩:=h; exact⟨vs,h1,CVals.frame hN hw (fun c hh=>hc c (by simpa[SlotV.noC] using hh)) h2⟩
 | box x=>
  obtain⟨h1,cs,e,h2,h3⟩:=h
  obtain⟨e1,e2⟩:=hb rfl
  exact⟨by rw[e1]; exact h1,cs,e,by rw[e1,e2]; exact h2,RepCV.frame hN hw x cs (fun c hh=>hc c (by simpa[SlotV.noC] using hh)) h3⟩
 | bptr r p off=>simp only[SlotOk] at h ⊢; rw[hr r (by simp[SlotV.noR])]; exact h
 | eptr c sz i p off=>simp only[SlotOk] at h ⊢; rw[hc c (by simp[SlotV.noC])]; exact h
 | ex Q=>exact h
 | fn cs rs ps f=>
  obtain⟨vals,h1,h2⟩:=h
  refine⟨vals,RepCs.frame hN hw ps vals [] (by simp) h1,?_⟩
  have e1:cs.map G'.hd=cs.map G.hd:=List.map_congr_left fun c hm=>hc c (by simp[SlotV.noC,hm])
  have e2:rs.map G'.ad=rs.map G.ad:=List.map_congr_left fun r hm=>hr r (by simp[SlotV.noR,hm])
  rw[e1,e2]; exact h2
 | hold sh ps x=>
  obtain⟨vals,h1,h2,h3⟩:=h
  obtain⟨e1,e2⟩:=hb rfl
  exact⟨vals,RepCs.frame hN hw ps vals [] (by simp) h1,by rw[e1]; exact h2,by rw[e1]; exact HCok.frame hN hw (fun c hh=>hc c (by simpa[SlotV.noC] using hh)) (fun r hh=>hr r (by simpa[SlotV.noR] using hh)) e2 h3⟩
 | hptr r sh ps=>
  obtain⟨vals,h1,h2⟩:=h
  exact⟨vals,RepCs.frame hN hw ps vals [] (by simp) h1,by rw[hr r (by simp[SlotV.noR])]; exact h2⟩

/-! ### Turning a state -/
def upd{α:Type}(f:Nat→α)(k:Nat)(x:α):Nat→α:=fun j=>if j=k then x else f j
theorem upd_same{α:Type}(f:Nat→α)(k:Nat)(x:α):upd f k x k=x:=by simp[upd]
theorem upd_ne{α:Type}{f:Nat→α}{k j:Nat}{x:α}(h:j≠k):upd f k x j=f j:=by simp[upd,h]

def St.set(st:St)(k:Nat)(v:SlotV):St:={ st with s:=upd st.s k v }
theorem getD_put{a:Act}{d:Nat}{v:Value}(h:d<a.tmps.size)(k:Nat):(a.put (some d) v).tmps.getD k undef=if k=d then v else a.tmps.getD k undef:=by
 simp only[Act.put,Array.getD_eq_getD_getElem?,Array.getElem?_setIfInBounds]
 split
 ·rename_i h1; subst h1; simp[h]
 ·rename_i h1; simp[Ne.symm h1]

/-- **The master step**: one slot gets a new value; the rest stays or is carried by a frame. -/
theorem RG.step{κ:Ctx}{G G':Gh}{st st':St}{a:Act}{w w':World}{d:Nat}{v:Value}(h:RG κ G st a w)(hd:d<κ.nt)
 (hbelow:KeepX κ.L κ.w0.heap.size w w')
 (hN:∀ b,Nof κ st G w b→Nof κ st' G' w' b) (hw:∀ b,Nof κ st G w b→w'.heap[b]?=w.heap[b]?)
 (hs:∀ k,k≠d→st'.s k=st.s k∨st'.s k=.dead) (hdst:SlotOk (Nof κ st' G' w') w' G' d v (st'.s d))
 (hc:∀ k c,k≠d→st'.s k≠.dead→(st.s k).noC c=false→G'.hd c=G.hd c) (hr:∀ k r,k≠d→st'.s k≠.dead→(st.s k).noR r=false→G'.ad r=G.ad r)
 (hb:∀ k,k≠d→st'.s k≠.dead→isBox (st.s k)=true→G'.ad k=G.ad k∧w'.heap[G.ad k]?=w.heap[G.ad k]?)
 (objs:∀ c sz es,st'.o c=some (sz,es)→RepC (Nof κ st' G' w') w' (.sl true sz es) [G'.hd c] (G'.fp c)∧(G'.fp c).Nodup∧∀ b∈G'.fp c,(κ.w0.heap.size≤b∨b∈κ.L)∧b<w'.heap.size)
 (boxes:∀ r,isBox (st'.s r)=true→(κ.w0.heap.size≤G'.ad r∨G'.ad r∈κ.L)∧G'.ad r<w'.heap.size)
 (bb:∀ r r',isBox (st'.s r)=true→isBox (st'.s r')=true→G'.ad r=G'.ad r'→r=r')
 (bo:∀ r c p,isBox (st'.s r)=true→st'.o c=some p→G'.ad r∉G'.fp c)
 (oo:∀ c c' p p',st'.o c=some p→st'.o c'=some p'→c≠c'→∀ b∈G'.fp c,b∉G'.fp c') (hh:∀ c,10000≤c→G'.hd c=G.hd c):
 RG κ G' st' (a.put (some d) v) w' where
 keep:=h.keep.trans hbelow
 defers:=by simpa[Act.put] using h.defers
 nt:=by simpa[Act.put] using h.nt
 slots:=by
  intro k
  rw[getD_put (by rw[h.nt]; exact hd)]
  by_cases hk:k=d
  ·subst hk; simpa using hdst
  ·rw[if_neg hk]
   rcases hs k hk with e | e
   ·by_cases hdead:st'.s k=.dead
    ·rw[hdead]; trivial
    ·rw[e]; exact(h.slots k).frame hN hw (fun c=>hc k c hk hdead) (fun r=>hr k r hk hdead) (hb k hk hdead)
   ·rw[e]; trivial
 objs:=objs
 boxes:=boxes
 bb:=bb
 bo:=bo
 oo:=oo
 held:=fun c v hc=>(hh c (κ.hH c v hc)).trans (h.held c v hc)

theorem Nof.lt{κ:Ctx}{st:St}{G:Gh}{a:Act}{w:World}(h:RG κ G st a w){b:Nat}(hb:Nof κ st G w b):b<w.heap.size:=by
 rcases hb.1 with h1 | h1
 ·exact Nat.lt_of_lt_of_le (κ.hN b h1).1 h.keep.size
 ·exact h1.2

/-- A slot gets a value, the world stays. -/
theorem RG.set{κ:Ctx}{G:Gh}{st:St}{a:Act}{w:World}{d:Nat}{v:Value}{sv:SlotV}(h:RG κ G st a w)(hd:d<κ.nt)(hnb:isBox sv=false)
 (hok:SlotOk (Nof κ st G w) w G d v sv):RG κ G (st.set d sv) (a.put (some d) v) w:=by
 have hbox:∀ r,isBox ((st.set d sv).s r)=true→r≠d∧isBox (st.s r)=true:=by
  intro r hr
  simp only[St.set,upd] at hr
  split at hr
  ·rw[hnb] at hr; cases hr
  ·exact⟨by assumption,hr⟩
 have hP:∀ b,Nof κ st G w b→Nof κ (st.set d sv) G w b:=by
  intro b hb
  refine⟨hb.1,fun hp=>hb.2 ?_⟩
  rcases hp with⟨r,h1,h2⟩ | ⟨c,p,h1,h2⟩
  ·exact .inl ⟨r,(hbox r h1).2,h2⟩
  ·exact .inr ⟨c,p,h1,h2⟩
 refine h.step hd (KeepX.refl _ _ _) hP (fun _ _=>rfl) (fun k hk=>.inl (by simp[St.set,upd,hk])) ?_ (fun _ _ _ _ _=>rfl) (fun _ _ _ _ _=>rfl) (fun _ _ _ _=>⟨rfl,rfl⟩) ?_ ?_ ?_ ?_ ?_ ?_
 ·have:(st.set d sv).s d=sv:=by simp[St.set,upd]
  rw[this]
  exact hok.frame hP (fun _ _=>rfl) (fun _ _=>rfl) (fun _ _=>rfl) (fun hx=>⟨rfl,rfl⟩)
 ·intro c sz es hc
  obtain⟨h1,h2,h3⟩:=h.objs c sz es hc
  exact⟨RepC.frame hP (fun _ _=>rfl) _ _ _ (fun _ _=>rfl) h1,h2,h3⟩
 ·exact fun r hr=>h.boxes r (hbox r hr).2
 ·exact fun r r' h1 h2=>h.bb r r' (hbox r h1).2 (hbox r' h2).2
 ·exact fun r c p h1 h2=>h.bo r c p (hbox r h1).2 h2
 ·exact fun c c' p p' h1 h2=>h.oo c c' p p' h1 h2
 ·exact fun _ _=>rfl

theorem R.set{κ:Ctx}{st:St}{a:Act}{w:World}{d:Nat}{v:Value}{sv:SlotV}(G:Gh)(h:RG κ G st a w)(hd:d<κ.nt)(hnb:isBox sv=false)
 (hok:SlotOk (Nof κ st G w) w G d v sv):R κ (st.set d sv) (a.put (some d) v) w:=⟨G,h.set hd hnb hok⟩
end
section

/-- What one operation looks at (slots, objects), which names must be new, and what it writes. -/
structure Rec where
 rs:List Nat:=[]
 ro:List Nat:=[]
 fr:List Nat:=[]
 fc:List Nat:=[]
 us:List (Nat×SlotV):=[]
 uo:List (Nat×Option (Nat×List PV)):=[]
 rp:List Nat:=[]

def updAll{α:Type}(f:Nat→α):List (Nat×α)→Nat→α
 | []=>f
 | (k,v)::l=>updAll (upd f k v) l

def St.app(st:St)(r:Rec):St:={ s:=updAll st.s r.us,o:=updAll st.o r.uo }

def St.noR(st:St)(r:Nat):Prop:=∀ k,(st.s k).noR r=true
def St.noC(st:St)(c:Nat):Prop:=(c<10000∧st.o c=none)∧∀ k,(st.s k).noC c=true

def Rec.same(r:Rec)(st st':St):Prop:=(∀ k∈r.rs,st'.s k=st.s k)∧(∀ c∈r.ro,st'.o c=st.o c)
def isBx:SlotV→Bool
 | .box _=>true
 | _=>false
/-- .. and whose variables in memory ('rp') it only names. -/
def Rec.fresh(r:Rec)(st:St):Prop:=((∀ k∈r.fr,st.noR k)∧∀ k∈r.rp,isBx (st.s k)=true)∧(∀ c∈r.fc,st.noC c)

/-- The operation, in every state that looks alike to it: it does what the record says. -/
def Valid(P:Program)(nt:Nat)(o:Oper)(st:St)(r:Rec):Prop:=
 ∀ κ st' a w,κ.nt=nt→r.same st st'→r.fresh st'→R κ st' a w→∀ (next:Act→World→Prop) (Q:Exit→Act→World→Prop),
  (∀ a' w',R κ (st'.app r) a' w'→next a' w')→o.wp P a w next Q

/-! ### Operands -/
def eSize(P:Program)(T:TypeId):Nat:=
 match P.underlying T with
 | some (.slice e)=>((P.info? e).map (·.size)).getD 0
 | _=>0

def constSV(P:Program)(T:TypeId):Value→SlotV
 | .slice none 0 0=>.val (.pv (.sl true (eSize P T) []))
 | .agg _ | .tuple _=>.dead
 | .slice _ _ _=>.dead
 | v=>.val (.pv (.lit v))

def ptrOf(k:Nat):SlotV→SlotV
 | .box _=>.bptr k [] 0
 | .hold sh ps _=>.hptr k sh ps
 | v=>v

def ev(P:Program)(st:St)(T:TypeId):Operand→SlotV
 | .tmp t=>ptrOf t (st.s t)
 | .const v=>constSV P T v
 | .func f=>.val (.pv (.clo f []))
 | .global _=>.dead

def rd:Operand→List Nat
 | .tmp t=>[t]
 | _=>[]

theorem ev_congr{P:Program}{st st':St}{T:TypeId}{x:Operand}(h:∀ k∈rd x,st'.s k=st.s k):ev P st' T x=ev P st T x:=by
 cases x with
 | tmp t=>simp only[ev]; rw[h t (by simp[rd])]
 | _=>rfl

theorem ev_notBox{P:Program}{st:St}{T:TypeId}{x:Operand}:isBox (ev P st T x)=false:=by
 cases x with
 | tmp t=>simp only[ev]; cases st.s t<;>rfl
 | const v=>simp only[ev,constSV]; split<;>rfl
 | func f=>rfl
 | global g=>rfl

theorem constSV_ok{P:Program}{T:TypeId}{N:Nat→Prop}{w:World}{G:Gh}(k:Nat)(v:Value):SlotOk N w G k v (constSV P T v):=by
 unfold constSV
 split
 ·exact .inr ⟨rfl,by simp[RepCV,RepC],rfl⟩
 ·trivial
 ·trivial
 ·trivial
 ·rename_i h1 h2 h3 h4
  have:v.oneCell'=true:=by
   cases v<;>first | rfl | (exact absurd rfl (h2 _)) | (exact absurd rfl (h3 _))
  exact .inr ⟨rfl,by simp[RepCV,RepC,this],this⟩

theorem ev_ok{κ:Ctx}{G:Gh}{st:St}{a:Act}{w:World}{P:Program}{T:TypeId}(h:RG κ G st a w)(x:Operand)(k:Nat):SlotOk (Nof κ st G w) w G k (a.eval x) (ev P st T x):=by
 cases x with
 | tmp t=>
  have h1:=h.slots t
  simp only[ev,Act.eval]
  cases hs:st.s t with
  | box x=>rw[hs] at h1; simp only[ptrOf,SlotOk]; exact h1.1
  | dead=>trivial
  | val x=>rw[hs] at h1; exact h1
  | tup xs=>rw[hs] at h1; exact h1
  | bptr r p off=>rw[hs] at h1; exact h1
  | eptr c sz i p off=>rw[hs] at h1; exact h1
  | fn cs rs ps f=>rw[hs] at h1; exact h1
  | hold sh ps x=>rw[hs] at h1; obtain⟨vals,h2,h3,_⟩:=h1; exact⟨vals,h2,h3⟩
  | hptr r sh ps=>rw[hs] at h1; exact h1
  | ex Q=>rw[hs] at h1; exact h1
 | const v=>exact constSV_ok k v
 | func f=>exact .inr ⟨rfl,by simp[RepCV,RepC,RepCs,Act.eval],rfl⟩
 | global g=>trivial

/-! ### The plainest step: one value, the world stays -/
theorem valid_pure{P:Program}{nt:Nat}{o:Oper}{st:St}{d:Nat}{sv:SlotV}{rs ro:List Nat}(hdst:o.dst=some d)(hd:d<nt)(hnb:isBox sv=false)
 (H:∀ κ G st' a w,κ.nt=nt→Rec.same { rs:=rs,ro:=ro } st st'→RG κ G st' a w→
  ∃ v,(execOp a.eval o).run P w=.ok (.value v) w∧SlotOk (Nof κ st' G w) w G d v sv):
 Valid P nt o st { rs:=rs,ro:=ro,us:=[(d,sv)] }:=by
 intro κ st' a w hnt hsame _ hR next Q hnext
 obtain⟨G,hG⟩:=hR
 obtain⟨v,hrun,hok⟩:=H κ G st' a w hnt hsame hG
 unfold Oper.wp
 rw[hrun]
 simp only[Oper.upon]
 rw[hdst]
 refine hnext _ _ ?_
 have:=R.set G hG (by rw[hnt]; exact hd) hnb hok
 simpa[St.app,updAll,St.set] using this

theorem valid_move{P:Program}{nt:Nat}{o:Oper}{st:St}{d:Nat}{x:Operand}{T:TypeId}(hop:o.op=.move x∨o.op=.assign x)(hdst:o.dst=some d)(hd:d<nt):
 Valid P nt o st { rs:=rd x,us:=[(d,ev P st T x)] }:=by
 refine valid_pure hdst hd ev_notBox ?_
 intro κ G st' a w _ hsame hG
 refine⟨a.eval x,by rcases hop with e | e<;>simp[execOp,e],?_⟩
 rw[← ev_congr (P:=P) (T:=T) hsame.1]
 exact ev_ok hG x d

theorem valid_move_box{P:Program}{nt:Nat}{o:Oper}{st:St}{d t:Nat}(hop:o.op=.move (.tmp t))(hdst:o.dst=some d)(hd:d<nt):
 Valid P nt o st { rp:=[t],us:=[(d,.bptr t [] 0)] }:=by
 intro κ st' a w hnt _ hf hR next Q hnext
 obtain⟨G,hG⟩:=hR
 have hb:ev P st' 0 (.tmp t)=.bptr t [] 0:=by
  have:=hf.1.2 t (by simp)
  simp only[ev]
  generalize st'.s t=v at this
  cases v<;>first | rfl | (simp[isBx] at this; done)
 have hok:=ev_ok (P:=P) (T:=0) hG (.tmp t) d
 rw[hb] at hok
 have hrun:(execOp a.eval o).run P w=.ok (.value (a.eval (.tmp t))) w:=by simp[execOp,hop]
 unfold Oper.wp
 rw[hrun]
 simp only[Oper.upon]
 rw[hdst]
 refine hnext _ _ ?_
 have:=R.set G hG (by rw[hnt]; exact hd) (sv:=.bptr t [] 0) rfl hok
 simpa[St.app,updAll,St.set] using this
theorem ev_lit{κ:Ctx}{G:Gh}{st st':St}{a:Act}{w:World}{P:Program}{T:TypeId}(h:RG κ G st' a w){x:Operand}{v:Value}(hx:ev P st T x=.val (.pv (.lit v)))
 (hs:∀ k∈rd x,st'.s k=st.s k):a.eval x=v:=by
 have:=ev_ok (P:=P) (T:=T) h x 0
 rw[ev_congr hs,hx] at this
 rcases this with⟨h1,_⟩ | ⟨_,h2,_⟩
 ·simp[CV.isAgg] at h1
 ·simp only[RepCV,RepC] at h2
  simpa using h2.1

theorem valid_pick{P:Program}{nt:Nat}{o:Oper}{st:St}{d:Nat}{c x y:Operand}{t:Bool}{T1 T:TypeId}(hop:o.op=.pick c x y)(hdst:o.dst=some d)(hd:d<nt)
 (hc:ev P st T1 c=.val (.pv (.lit (.bool t)))):Valid P nt o st { rs:=rd c++rd (if t then x else y),us:=[(d,ev P st T (if t then x else y))] }:=by
 refine valid_pure hdst hd ev_notBox ?_
 intro κ G st' a w _ hsame hG
 have e1:=ev_lit hG hc (fun k hk=>hsame.1 k (by simp[hk]))
 refine⟨a.eval (if t then x else y),?_,?_⟩
 ·cases t<;>simp[execOp,hop,e1,asBool]
 ·rw[← ev_congr (P:=P) (T:=T) (fun k hk=>hsame.1 k (by simp[hk]))]
  exact ev_ok hG _ d

theorem slotOk_lit{N:Nat→Prop}{w:World}{G:Gh}{k:Nat}{v:Value}(h:v.oneCell'=true):SlotOk N w G k v (.val (.pv (.lit v))):=
 .inr ⟨rfl,by simp[RepCV,RepC,h],h⟩

/-- What an operation on two words gives, for what comes next. -/
def binK(P:Program)(T:TypeId)(op:BinOp)(x y:Value)(K:Value→Prop):Prop:=
 match x,y with
 | .int k a,.int k' b=>
  match op with
  | .shl=>0≤b∧K (.int k (k.wrap (a*2 ^ (min b.toNat k.bits))))
  | .shr=>0≤b∧K (.int k (a.fdiv (2 ^ (min b.toNat k.bits))))
  | .add=>k=k'∧K (.int k (k.wrap (a+b)))
  | .sub=>k=k'∧K (.int k (k.wrap (a-b)))
  | .mul=>k=k'∧K (.int k (k.wrap (a*b)))
  | .quo=>k=k'∧b≠0∧K (.int k (k.wrap (a.tdiv b)))
  | .rem=>k=k'∧b≠0∧K (.int k (a.tmod b))
  | .and=>k=k'∧K (.int k (k.wrap (BitVec.ofInt k.bits a&&& BitVec.ofInt k.bits b).toNat))
  | .or=>k=k'∧K (.int k (k.wrap (BitVec.ofInt k.bits a||| BitVec.ofInt k.bits b).toNat))
  | .xor=>k=k'∧K (.int k (k.wrap (BitVec.ofInt k.bits a ^^^ BitVec.ofInt k.bits b).toNat))
  | .andNot=>k=k'∧K (.int k (k.wrap (BitVec.ofInt k.bits a&&& ~~~BitVec.ofInt k.bits b).toNat))
  | .eql=>k=k'∧K (.bool (decide (a=b)))
  | .neq=>k=k'∧K (.bool (!decide (a=b)))
  | .lss=>k=k'∧K (.bool (decide (a<b)))
  | .leq=>k=k'∧K (.bool (decide (a≤b)))
  | .gtr=>k=k'∧K (.bool (decide (b<a)))
  | .geq=>k=k'∧K (.bool (decide (b≤a)))
 | .string a,.string b=>
  match op with
  | .add=>a.size+b.size≤9223372036854775807∧K (.string (a++b))
  | .eql=>K (.bool (decide (a=b)))
  | .neq=>K (.bool (!decide (a=b)))
  | .lss=>K (.bool (Op.bytesLess a.data.toList b.data.toList))
  | .gtr=>K (.bool (!(Op.bytesLess a.data.toList b.data.toList||decide (a=b))))
  | .leq=>K (.bool (Op.bytesLess a.data.toList b.data.toList||decide (a=b)))
  | .geq=>K (.bool (!Op.bytesLess a.data.toList b.data.toList))
  | _=>False
 | .bool a,.bool b=>
  match op with
  | .eql=>P.underlying T=some .bool∧K (.bool (a==b))
  | .neq=>P.underlying T=some .bool∧K (.bool (!(a==b)))
  | _=>False
 | _,_=>False


theorem data_beq(a b:ByteArray):(a.data==b.data)=decide (a=b):=by
 rw[Bool.eq_iff_iff]
 simp only[beq_iff_eq,decide_eq_true_eq]
 constructor
 ·intro h; cases a; cases b; simpa using h
 ·rintro rfl; rfl
theorem run_equalIn_bool{P:Program}{T:TypeId}(hb:P.underlying T=some .bool)(d:Nat)(a b:Bool)(w:World):(Op.equalIn (d+1) T (.bool a) (.bool b)).run P w=.ok (a==b) w:=by
 simp[Op.equalIn,run_underlying hb]
theorem run_equal_bool{P:Program}{T:TypeId}(hb:P.underlying T=some .bool)(a b:Bool)(w:World):(Op.equal T (.bool a) (.bool b)).run P w=.ok (a==b) w:=
 run_equalIn_bool hb 9999 a b w

theorem binK_run{P:Program}{T:TypeId}{op:BinOp}{x y:Value}{K:Value→Prop}(h:binK P T op x y K):
 ∃ v,v.oneCell'=true∧(∀ (xo yo:Operand) (w:World),(do eqGuard op T xo yo x y; binOp op T x y:Sem Value).run P w=.ok v w)∧K v:=by
 unfold binK at h
 split at h
 ·cases op<;>simp only at h
  all_goals first
   | (obtain⟨rfl,hb,hK⟩:=h; exact⟨_,rfl,fun xo yo w=>by simp[eqGuard,binOp,Op.intArith,Op.intDiv,Op.intBits,Op.intCmp,hb],hK⟩)
   | (obtain⟨rfl,hK⟩:=h; exact⟨_,rfl,fun xo yo w=>by simp[eqGuard,binOp,Op.intArith,Op.intDiv,Op.intBits,Op.intCmp,BEq.beq,bne],hK⟩)
   | (obtain⟨hb,hK⟩:=h; exact⟨_,rfl,fun xo yo w=>by simp[eqGuard,binOp,Op.shift,Int.not_lt.2 hb],hK⟩)
 ·rename_i a b
  cases op<;>simp only at h
  case add=>
   obtain⟨hb,hK⟩:=h
   refine⟨_,rfl,fun xo yo w=>?_,hK⟩
   have hb':¬ (9223372036854775807:Int)<(a.size:Int)+(b.size:Int):=by omega
   simp[eqGuard,binOp,Op.stringOp,IntKind.max,IntKind.signed,IntKind.bits,hb']
  all_goals first
   | exact h.elim
   | exact⟨_,rfl,fun xo yo w=>by simp[eqGuard,binOp,Op.stringOp,ByteArray.toList_eq,data_beq],h⟩
 ·cases op<;>simp only at h
  all_goals first
   | exact h.elim
   | (obtain⟨hb,hK⟩:=h; exact⟨_,rfl,fun xo yo w=>by simp[eqGuard,binOp,run_equal_bool hb],hK⟩)
 ·exact h.elim

theorem valid_bin{P:Program}{nt:Nat}{o:Oper}{st:St}{d:Nat}{op:BinOp}{x y:Operand}{T T1 T2 U:TypeId}{vx vy v:Value}(hop:o.op=.binOp op T x y U)(hdst:o.dst=some d)(hd:d<nt)
 (hx:ev P st T1 x=.val (.pv (.lit vx))) (hy:ev P st T2 y=.val (.pv (.lit vy))) (hv:v.oneCell'=true)
 (hrun:∀ (xo yo:Operand) (w:World),(do eqGuard op T xo yo vx vy; binOp op T vx vy:Sem Value).run P w=.ok v w):
 Valid P nt o st { rs:=rd x++rd y,us:=[(d,.val (.pv (.lit v)))] }:=by
 refine valid_pure hdst hd rfl ?_
 intro κ G st' a w _ hsame hG
 have e1:=ev_lit hG hx (fun k hk=>hsame.1 k (by simp[hk]))
 have e2:=ev_lit hG hy (fun k hk=>hsame.1 k (by simp[hk]))
 refine⟨v,?_,slotOk_lit hv⟩
 have:=hrun x y w
 simp only[execOp,hop,e1,e2,Sem.run_bind,Sem.run_pure] at this ⊢
 rw[this]
 rfl

def unK(op:UnOp)(x:Value)(K:Value→Prop):Prop:=
 match op,x with
 | .not,.bool b=>K (.bool (!b))
 | .neg,.int k n=>K (.int k (k.wrap (0-n)))
 | _,_=>False
theorem unK_run{P:Program}{op:UnOp}{x:Value}{K:Value→Prop}(h:unK op x K):∃ v,v.oneCell'=true∧(∀ w:World,(Op.unary op x).run P w=.ok v w)∧K v:=by
 unfold unK at h
 split at h
 ·exact⟨_,rfl,fun w=>by simp[Op.unary],h⟩
 ·exact⟨_,rfl,fun w=>by simp[Op.unary,Op.intArith],h⟩
 ·exact h.elim
theorem valid_un{P:Program}{nt:Nat}{o:Oper}{st:St}{d:Nat}{op:UnOp}{x:Operand}{T T1:TypeId}{vx v:Value}(hop:o.op=.unOp op T x)(hdst:o.dst=some d)(hd:d<nt)
 (hx:ev P st T1 x=.val (.pv (.lit vx))) (hv:v.oneCell'=true) (hrun:∀ (w:World),(Op.unary op vx).run P w=.ok v w):
 Valid P nt o st { rs:=rd x,us:=[(d,.val (.pv (.lit v)))] }:=by
 refine valid_pure hdst hd rfl ?_
 intro κ G st' a w _ hsame hG
 have e1:=ev_lit hG hx (fun k hk=>hsame.1 k (by simp[hk]))
 refine⟨v,?_,slotOk_lit hv⟩
 simp[execOp,hop,e1,hrun w]

theorem cvals_at{N:Nat→Prop}{w:World}{hd:Nat→Value}:∀ {xs:List CV} {vs:List Value} (i:Nat) (x:CV),CVals N w hd xs vs→xs[i]?=some x→∃ v,vs[i]?=some v∧CVal N w hd x v
 | [],_,_,_,_,hx=>by simp at hx
 | y::ys,vs,i,x,h,hx=>by
  simp only[CVals] at h
  obtain⟨v,vs',rfl,h1,h2⟩:=h
  cases i with
  | zero=>simp at hx; subst hx; exact⟨v,by simp,h1⟩
  | succ i=>simp at hx; obtain⟨u,h3,h4⟩:=cvals_at i x h2 hx; exact⟨u,by simpa using h3,h4⟩

theorem valid_extract{P:Program}{nt:Nat}{o:Oper}{st:St}{d i:Nat}{x:Operand}{T1:TypeId}{xs:List CV}{c:CV}(hop:o.op=.extract x i)(hdst:o.dst=some d)(hd:d<nt)
 (hx:ev P st T1 x=.tup xs) (hi:xs[i]?=some c):Valid P nt o st { rs:=rd x,us:=[(d,.val c)] }:=by
 refine valid_pure hdst hd rfl ?_
 intro κ G st' a w _ hsame hG
 have h1:=ev_ok (P:=P) (T:=T1) hG x 0
 rw[ev_congr hsame.1,hx] at h1
 obtain⟨vs,h2,h3⟩:=h1
 obtain⟨v,h4,h5⟩:=cvals_at i c h3 hi
 exact⟨v,by simp[execOp,hop,h2,Instr.extract,h4],h5⟩

/-! ### Addresses -/
def FieldIs(P:Program)(T:TypeId)(k off:Nat):Prop:=
 ∃ fs f i,P.underlying T=some (.struct fs)∧fs[k]?=some f∧f.offset=off∧P.info? f.type=some i∧i.size≠0

def addF(sv:SlotV)(k off:Nat)(K:SlotV→Prop):Prop:=
 match sv with
 | .bptr r p o=>K (.bptr r (p++[k]) (o+off))
 | .eptr c sz i p o=>K (.eptr c sz i (p++[k]) (o+off))
 | .val (.pv (.ptr v))=>(∃ fs,v=.agg fs∧PV.sizes (fs.take k)=off∧k<fs.length)∧K (.val (.pv (.ptr (match v with | .agg fs=>fs.getD k default | v=>v))))
 | _=>False

theorem add_off(a:Addr)(n:Nat)(h:a.spot=none):a.add n=⟨a.block,a.off+n,none⟩:=by
 unfold Addr.add
 split
 ·rename_i h0; subst h0; cases a; simp_all
 ·cases a; simp_all

theorem run_fieldAt{P:Program}{T:TypeId}{k off:Nat}(h:FieldIs P T k off)(a:Addr)(w:World)(hs:a.spot=none):
 (Instr.fieldAt T (.pointer (some a)) k).run P w=.ok (.pointer (some ⟨a.block,a.off+off,none⟩)) w:=by
 obtain⟨fs,f,i,h1,h2,h3,h4,h5⟩:=h
 simp[Instr.fieldAt,run_underlying h1,h2,Instr.sureAddr,fieldPlace,sizeOf,typeInfo,h4,h5,h3,add_off _ _ hs]

theorem RowAt.sub{w:World}{a:Addr}{c1 c2 c3:List Value}(h:RowAt w a (c1++c2++c3)):RowAt w ⟨a.block,a.off+c1.length,none⟩ c2:=by
 intro j u hu
 have:=h (c1.length+j) u (by
  rw[aS,List.getElem?_append_right (by omega),Nat.add_sub_cancel_left,List.getElem?_append_left (List.getElem?_eq_some_iff.1 hu).1]
  exact hu)
 simpa[Nat.add_assoc] using this

theorem slotOk_ptr_field{N:Nat→Prop}{w:World}{G:Gh}{k j off:Nat}{fs:List PV}{v:Value}(h:SlotOk N w G j v (.val (.pv (.ptr (.agg fs)))))(hk:k<fs.length)(ho:PV.sizes (fs.take k)=off):
 ∃ a:Addr,v=.pointer (some a)∧a.spot=none∧SlotOk N w G j (.pointer (some ⟨a.block,a.off+off,none⟩)) (.val (.pv (.ptr (fs.getD k default)))):=by
 rcases h with⟨h1,_⟩ | ⟨_,h2,h3⟩
 ·simp[CV.isAgg] at h1
 ·simp only[RepCV,RepC] at h2
  obtain⟨ad,ccs,g1,_,g3,g4,g5,g6⟩:=h2
  simp at g1
  refine⟨ad,g1,g3,.inr ⟨rfl,?_,rfl⟩⟩
  have hg:fs[k]?=some (fs.getD k default):=by simp[List.getD,hk]
  obtain⟨c1,c2,c3,F1,F2,F3,e1,e2,e3,e4,e5,e6⟩:=RepCs.at fs k _ ccs [] g6 hg
  have hF:F2=[]:=by
   have:=congrArg List.length e2; simp at this; exact List.eq_nil_of_length_eq_zero (by omega)
  subst hF
  simp only[RepCV,RepC]
  refine⟨⟨ad.block,ad.off+off,none⟩,c2,rfl,trivial,rfl,g4,?_,e4⟩
  rw[e1] at g5
  have:=g5.sub
  rw[e3,ho] at this
  exact this

theorem valid_fieldAddr{P:Program}{nt:Nat}{o:Oper}{st:St}{d k off:Nat}{x:Operand}{T T1:TypeId}{sv:SlotV}(hop:o.op=.fieldAddr T x k)(hdst:o.dst=some d)(hd:d<nt)
 (hf:FieldIs P T k off) (hx:addF (ev P st T1 x) k off (· =sv)):Valid P nt o st { rs:=rd x,us:=[(d,sv)] }:=by
 have hnb:isBox sv=false:=by
  unfold addF at hx; split at hx
  ·subst hx; rfl
  ·subst hx; rfl
  ·obtain⟨_,rfl⟩:=hx; rfl
  ·exact hx.elim
 refine valid_pure hdst hd hnb ?_
 intro κ G st' a w _ hsame hG
 have h1:=ev_ok (P:=P) (T:=T1) hG x d
 rw[ev_congr hsame.1] at h1
 unfold addF at hx
 split at hx
 ·rename_i r p o' he
  rw[he] at h1
  simp only[SlotOk] at h1
  subst hx
  exact⟨_,by simp[execOp,hop,h1,run_fieldAt hf ⟨G.ad r,o',none⟩ w rfl],rfl⟩
 ·rename_i c sz i p o' he
  rw[he] at h1
  obtain⟨b,n,cap,h2,h3⟩:=h1
  subst hx
  exact⟨.pointer (some ⟨b,i*sz+o'+off,none⟩),by simp[execOp,hop,h3,run_fieldAt hf ⟨b,i*sz+o',none⟩ w rfl],b,n,cap,h2,by rw[Nat.add_assoc]⟩
 ·rename_i v he
  obtain⟨⟨fs,rfl,ho,hk⟩,rfl⟩:=hx
  rw[he] at h1
  obtain⟨ad,h2,h3,h4⟩:=slotOk_ptr_field h1 hk ho
  exact⟨_,by simp[execOp,hop,h2,run_fieldAt hf ad w h3],h4⟩
 ·exact hx.elim
end
section

/-! ### Parts of a content -/
def CV.parts:CV→List CV
 | .node fs=>fs
 | .pv (.agg vs)=>vs.map .pv
 | _=>[]
def CV.at:CV→List Nat→CV
 | x,[]=>x
 | x,k::ks=>(x.parts.getD k default).at ks
def CV.offs:CV→List Nat→Nat
 | _,[]=>0
 | x,k::ks=>CV.sizes (x.parts.take k)+(x.parts.getD k default).offs ks
def CV.okp:CV→List Nat→Bool
 | _,[]=>true
 | x,k::ks=>decide (k<x.parts.length)&&(x.parts.getD k default).okp ks
def CV.setAt:CV→List Nat→CV→CV
 | _,[],y=>y
 | x,k::ks,y=>.node (x.parts.set k ((x.parts.getD k default).setAt ks y))

section
variable{N:Nat→Prop}{w:World}{hd:Nat→Value}

mutual
theorem RepCV.length:∀ (x:CV) (cs:List Value),RepCV N w hd x cs→cs.length=x.size
 | .pv v,cs,h=>by simp only[RepCV] at h; simpa[CV.size] using RepC.length _ _ _ h
 | .own c,cs,h=>by simp only[RepCV] at h; simp[h.1,CV.size]
 | .node fs,cs,h=>by simp only[RepCV] at h; simpa[CV.size] using RepCVs.length fs cs h
 | .gone n,cs,h=>by simp only[RepCV] at h; simp[h.1,CV.size]
theorem RepCVs.length:∀ (xs:List CV) (cs:List Value),RepCVs N w hd xs cs→cs.length=CV.sizes xs
 | [],cs,h=>by simp only[RepCVs] at h; simp[h,CV.sizes]
 | x::xs,cs,h=>by
  simp only[RepCVs] at h
  obtain⟨c1,c2,h1,h2,h3⟩:=h
  simp[h1,CV.sizes,RepCV.length x c1 h2,RepCVs.length xs c2 h3]
end
mutual
theorem RepCV.one:∀ (x:CV) (cs:List Value),RepCV N w hd x cs→∀ u∈cs,u.oneCell'=true
 | .pv v,cs,h=>by simp only[RepCV] at h; exact RepC.one _ _ _ h
 | .own c,cs,h=>by simp only[RepCV] at h; simp[h.1,h.2]
 | .node fs,cs,h=>by simp only[RepCV] at h; exact RepCVs.one fs cs h
 | .gone n,cs,h=>by simp only[RepCV] at h; exact h.2
theorem RepCVs.one:∀ (xs:List CV) (cs:List Value),RepCVs N w hd xs cs→∀ u∈cs,u.oneCell'=true
 | [],cs,h=>by simp only[RepCVs] at h; simp[h]
 | x::xs,cs,h=>by
  simp only[RepCVs] at h
  obtain⟨c1,c2,h1,h2,h3⟩:=h
  subst h1
  intro u hu
  rcases List.mem_append.1 hu with hu | hu
  ·exact RepCV.one x c1 h2 u hu
  ·exact RepCVs.one xs c2 h3 u hu
end

theorem RepCVs.of_pvs:∀ (vs:List PV) (cs:List Value),RepCs N w vs cs []→RepCVs N w hd (vs.map .pv) cs
 | [],cs,h=>by simp only[RepCs] at h; simp[RepCVs,h.1]
 | v::vs,cs,h=>by
  simp only[RepCs] at h
  obtain⟨c1,c2,F1,F2,h1,h2,h3,h4⟩:=h
  have e1:F1=[]:=by have:=congrArg List.length h2; simp at this; exact List.eq_nil_of_length_eq_zero (by omega)
  have e2:F2=[]:=by have:=congrArg List.length h2; simp at this; exact List.eq_nil_of_length_eq_zero (by omega)
  subst e1; subst e2
  simp only[aF,RepCVs]
  exact⟨c1,c2,h1,by simpa[RepCV] using h3,RepCVs.of_pvs vs c2 h4⟩

theorem RepCV.parts{x:CV}{cs:List Value}(h:RepCV N w hd x cs)(hx:x.parts≠[]):RepCVs N w hd x.parts cs:=by
 cases x with
 | pv v=>
  cases v with
  | agg vs=>simp only[RepCV,RepC] at h; exact RepCVs.of_pvs vs cs h
  | _=>simp[CV.parts] at hx
 | own c=>simp[CV.parts] at hx
 | node fs=>simpa only[RepCV,CV.parts] using h
 | gone n=>simp[CV.parts] at hx

theorem RepCVs.at:∀ (xs:List CV) (k:Nat) (cs:List Value),k<xs.length→RepCVs N w hd xs cs→
 ∃ c1 c2 c3,cs=c1++c2++c3∧c1.length=CV.sizes (xs.take k)∧RepCV N w hd (xs.getD k default) c2∧∀ y c2',RepCV N w hd y c2'→RepCVs N w hd (xs.set k y) (c1++c2'++c3)
 | [],_,_,hk,_=>by simp at hk
 | x::xs,0,cs,_,h=>by
  simp only[RepCVs] at h
  obtain⟨c1,c2,h1,h2,h3⟩:=h
  refine⟨[],c1,c2,by simpa using h1,by simp[CV.sizes],by simpa using h2,fun y c2' hy=>?_⟩
  simp only[List.set_cons_zero,RepCVs]
  exact⟨c2',c2,by simp,hy,h3⟩
 | x::xs,k+1,cs,hk,h=>by
  simp only[RepCVs] at h
  obtain⟨c1,c2,h1,h2,h3⟩:=h
  obtain⟨d1,d2,d3,e1,e2,e3,e4⟩:=RepCVs.at xs k c2 (by simpa using hk) h3
  refine⟨c1++d1,d2,d3,by simp[h1,e1],by simp[CV.sizes,e2,RepCV.length x c1 h2],by simpa using e3,fun y c2' hy=>?_⟩
  simp only[List.set_cons_succ,RepCVs]
  exact⟨c1,d1++c2'++d3,by simp,h2,e4 y c2' hy⟩

theorem RepCV.path:∀ (p:List Nat) (x:CV) (cs:List Value),x.okp p=true→RepCV N w hd x cs→
 ∃ c1 c2 c3,cs=c1++c2++c3∧c1.length=x.offs p∧RepCV N w hd (x.at p) c2∧∀ y c2',RepCV N w hd y c2'→RepCV N w hd (x.setAt p y) (c1++c2'++c3)
 | [],x,cs,_,h=>⟨[],cs,[],by simp,by simp[CV.offs],by simpa[CV.at] using h,fun y c2' hy=>by simpa[CV.setAt] using hy⟩
 | k::ks,x,cs,hp,h=>by
  simp only[CV.okp,aw,decide_eq_true_eq] at hp
  have hne:x.parts≠[]:=by intro e; rw[e] at hp; simp at hp
  obtain⟨c1,c2,c3,e1,e2,e3,e4⟩:=RepCVs.at x.parts k cs hp.1 (h.parts hne)
  obtain⟨d1,d2,d3,f1,f2,f3,f4⟩:=RepCV.path ks _ c2 hp.2 e3
  refine⟨c1++d1,d2,d3++c3,by simp[e1,f1],by simp[CV.offs,e2,f2],by simpa[CV.at] using f3,fun y c2' hy=>?_⟩
  have:=e4 _ _ (f4 y c2' hy)
  simp only[CV.setAt,RepCV]
  simpa using this
end

/-! ### Types -/
def TyIs(P:Program)(T:TypeId)(agg:Bool)(n:Nat):Prop:=
 ∃ d i,P.underlying T=some d∧P.info? T=some i∧i.size=n∧(match d with | .struct _ | .array _ _=>true | _=>false)=agg

theorem run_isAgg{P:Program}{T:TypeId}{agg:Bool}{n:Nat}(h:TyIs P T agg n)(w:World):(isAgg T).run P w=.ok agg w:=by
 obtain⟨d,i,h1,h2,h3,h4⟩:=h
 simp only[isAgg,Sem.run_bind,run_underlying h1,Result.andThen_ok]
 subst h4
 cases d<;>rfl
theorem run_sizeOf{P:Program}{T:TypeId}{agg:Bool}{n:Nat}(h:TyIs P T agg n)(w:World):(sizeOf T).run P w=.ok n w:=by
 obtain⟨d,i,h1,h2,h3,h4⟩:=h
 simp[sizeOf,typeInfo,h2,h3]

theorem rowAt_add{w:World}{a:Addr}{cs:List Value}(ha:a.spot=none)(h:RowAt w a cs):∀ j u,cs[j]?=some u→w.cell? (a.add j)=some u:=by
 intro j u hu; rw[add_off a j ha]; exact h j u hu

/-- What a load gives: a whole value whose cells stand there. -/
theorem run_loadVar{P:Program}{T:TypeId}{N:Nat→Prop}{w:World}{hd:Nat→Value}{a:Addr}{x:CV}{cs:List Value}(ht:TyIs P T x.isAgg x.size)(ha:a.spot=none)(hr:RowAt w a cs)
 (hx:RepCV N w hd x cs) (hg:∀ n,x≠.gone n):∃ v,(loadVar T a).run P w=.ok v w∧CVal N w hd x v:=by
 have hl:=RepCV.length x cs hx
 have h1:=RepCV.one x cs hx
 cases hA:x.isAgg with
 | true=>
  rw[hA] at ht
  refine⟨.agg cs.toArray,?_,.inl ⟨hA,cs,rfl,hx⟩⟩
  have:=run_loadCells_list (P:=P) w a cs (rowAt_add ha hr)
  rw[hl] at this
  simp[loadVar,run_isAgg ht,run_sizeOf ht,this]
 | false=>
  rw[hA] at ht
  have hs:x.size=1:=by
   cases x with
   | pv v=>cases v<;>first | rfl | (simp[CV.isAgg] at hA; done) | (simp[RepCV,RepC] at hx)
   | own c=>rfl
   | node fs=>simp[CV.isAgg] at hA
   | gone n=>exact absurd rfl (hg n)
  rw[hs] at hl
  obtain⟨v,rfl⟩:=List.length_eq_one_iff.1 hl
  have hc:=hr 0 v (by simp)
  simp only[Nat.add_zero] at hc
  refine⟨v,?_,.inr ⟨hA,hx,h1 v (by simp)⟩⟩
  have hc':w.cell? a=some v:=by cases a; simp only at ha; subst ha; exact hc
  simp[loadVar,run_isAgg ht,hc']

theorem rowAt_of_block{w:World}{b:Nat}{c1 c2 c3:List Value}{e:TypeId}{fr:Nat×Nat}(h:w.heap[b]?=some (.cells (c1++c2++c3).toArray e fr)):RowAt w ⟨b,c1.length,none⟩ c2:=by
 intro j u hu
 have hj:=(List.getElem?_eq_some_iff.1 hu).1
 simp only[World.cell?,h,Option.isSome_none,Bool.false_eq_true,if_false]
 rw[List.getElem?_toArray,aS,List.getElem?_append_right (by omega),Nat.add_sub_cancel_left,List.getElem?_append_left hj]
 exact hu

/-- Reading a variable, or a part of one. -/
theorem valid_load_box{P:Program}{nt:Nat}{o:Oper}{st:St}{d r off:Nat}{p:List Nat}{x:Operand}{T T1:TypeId}{c:CV}(hop:o.op=.load T x)(hdst:o.dst=some d)(hd:d<nt)
 (hx:ev P st T1 x=.bptr r p off) (hr:st.s r=.box c) (hok:c.okp p=true) (hoff:c.offs p=off) (ht:TyIs P T (c.at p).isAgg (c.at p).size) (hg:∀ n,c.at p≠.gone n):
 Valid P nt o st { rs:=r::rd x,us:=[(d,.val (c.at p))] }:=by
 refine valid_pure (rs:=r::rd x) (ro:=[]) hdst hd rfl ?_
 intro κ G st' a w _ hsame hG
 have h1:=ev_ok (P:=P) (T:=T1) hG x d
 rw[ev_congr (fun k hk=>hsame.1 k (by simp[hk])),hx] at h1
 simp only[SlotOk] at h1
 have h2:=hG.slots r
 rw[hsame.1 r (by simp),hr] at h2
 obtain⟨_,cs,e,h3,h4⟩:=h2
 obtain⟨c1,c2,c3,e1,e2,e3,_⟩:=RepCV.path p c cs hok h4
 subst e1
 have hrow:=rowAt_of_block h3
 rw[e2,hoff] at hrow
 obtain⟨v,hv1,hv2⟩:=run_loadVar ht rfl hrow e3 hg
 exact⟨v,by simp[execOp,hop,h1,Instr.loadAt,Instr.sureAddr,hv1],hv2⟩

/-- Reading behind a pointer to memory that stays. -/
theorem valid_load_ptr{P:Program}{nt:Nat}{o:Oper}{st:St}{d:Nat}{x:Operand}{T T1:TypeId}{v:PV}(hop:o.op=.load T x)(hdst:o.dst=some d)(hd:d<nt)
 (hx:ev P st T1 x=.val (.pv (.ptr v))) (ht:TyIs P T (CV.pv v).isAgg v.size):
 Valid P nt o st { rs:=rd x,us:=[(d,.val (.pv v))] }:=by
 refine valid_pure hdst hd rfl ?_
 intro κ G st' a w _ hsame hG
 have h1:=ev_ok (P:=P) (T:=T1) hG x d
 rw[ev_congr hsame.1,hx] at h1
 rcases h1 with⟨h1,_⟩ | ⟨_,h2,_⟩
 ·simp[CV.isAgg] at h1
 ·simp only[RepCV,RepC] at h2
  obtain⟨ad,ccs,g1,_,g3,g4,g5,g6⟩:=h2
  simp at g1
  obtain⟨u,hv1,hv2⟩:=run_loadVar (P:=P) (hd:=G.hd) (x:=.pv v) (N:=Nof κ st' G w) ht g3 g5 (by simpa[RepCV] using g6) (fun n=>by simp)
  exact⟨u,by simp[execOp,hop,g1,Instr.loadAt,Instr.sureAddr,hv1],hv2⟩

/-! ### A new variable -/
def ZeroIs(P:Program)(T:TypeId)(x:CV):Prop:=∃ i z,P.info? T=some i∧i.zero=some z∧∀ N w hd,CVal N w hd x z

theorem cval_cells{N:Nat→Prop}{w:World}{hd:Nat→Value}{x:CV}{v:Value}(h:CVal N w hd x v):RepCV N w hd x v.cells.toList:=by
 rcases h with⟨_,cs,rfl,h⟩ | ⟨_,h,h1⟩
 ·simpa[Value.cells] using h
 ·cases v<;>first | (simp[Value.oneCell'] at h1; done) | exact h

theorem heap_push_lt{w:World}{o:Obj}{b:Nat}(h:b<w.heap.size):(w.alloc o).heap[b]?=w.heap[b]?:=by
 exact heap_alloc_old w o h
theorem heap_push_eq{w:World}{o:Obj}:(w.alloc o).heap[w.heap.size]?=some o:=heap_alloc_new w o

/-- A new block for the variable in slot 'd'. -/
theorem R.newBox{κ:Ctx}{st:St}{a:Act}{w:World}{d:Nat}{x:CV}{e:TypeId}{cs:List Value}(G:Gh)(h:RG κ G st a w)(hd:d<κ.nt)(hf:st.noR d)
 (hx:∀ N w',(∀ b,Nof κ st G w b→N b)→(∀ b,Nof κ st G w b→w'.heap[b]?=w.heap[b]?)→RepCV N w' G.hd x cs):
 R κ (st.set d (.box x)) (a.put (some d) (.pointer (some ⟨w.heap.size,0,none⟩))) (w.alloc (.cells cs.toArray e)):=by
 have hbs:=h.keep.size
 let G':Gh:={ G with ad:=upd G.ad d w.heap.size }
 have hlt:∀ b,Nof κ st G w b→b<w.heap.size:=fun b hb=>hb.lt h
 have hbox:∀ r,isBox ((st.set d (.box x)).s r)=true→r=d∨(r≠d∧isBox (st.s r)=true):=by
  intro r hr
  by_cases hrd:r=d
  ·exact .inl hrd
  ·simp only[St.set,upd,if_neg hrd] at hr; exact .inr ⟨hrd,hr⟩
 have had:∀ r,r≠d→G'.ad r=G.ad r:=fun r hr=>upd_ne hr
 have hadd:G'.ad d=w.heap.size:=upd_same _ _ _
 have hN:∀ b,Nof κ st G w b→Nof κ (st.set d (.box x)) G' (w.alloc (.cells cs.toArray e)) b:=by
  intro b hb
  refine⟨?_,fun hp=>?_⟩
  ·rcases hb.1 with h1 | h1
   ·exact .inl h1
   ·exact .inr ⟨h1.1,by simp; omega⟩
  ·rcases hp with⟨r,h1,h2⟩ | ⟨c,p,h1,h2⟩
   ·rcases hbox r h1 with rfl | ⟨h3,h4⟩
    ·rw[hadd] at h2; have:=hlt b hb; omega
    ·rw[had r h3] at h2; exact hb.2 (.inl ⟨r,h4,h2⟩)
   ·exact hb.2 (.inr ⟨c,p,h1,h2⟩)
 have hw:∀ b,b<w.heap.size→(w.alloc (.cells cs.toArray e)).heap[b]?=w.heap[b]?:=fun b hb=>heap_push_lt hb
 refine⟨G',h.step hd (.of_below ((RowKit.Below.refl _ _).alloc hbs _)) hN (fun b hb=>hw b (hlt b hb)) (fun k hk=>.inl (by simp[St.set,upd,hk])) ?_ (fun _ _ _ _ _=>rfl) ?_ ?_ ?_ ?_ ?_ ?_ ?_ (fun _ _=>rfl)⟩
 ·have:(st.set d (.box x)).s d=.box x:=by simp[St.set,upd]
  rw[this]
  refine⟨by rw[hadd],cs,e,by rw[hadd]; exact heap_push_eq,hx _ _ hN (fun b hb=>hw b (hlt b hb))⟩
 ·intro k r _ _ hr
  refine had r (fun e=>?_)
  subst e
  rw[hf k] at hr; cases hr
 ·intro k hk _ hb
  exact⟨had k hk,hw _ (h.boxes k hb).2⟩
 ·intro c sz es hc
  obtain⟨h1,h2,h3⟩:=h.objs c sz es hc
  exact⟨RepC.frame hN (fun b hb=>hw b (hlt b hb)) _ _ _ (fun b hb=>hw b (h3 b hb).2) h1,h2,fun b hb=>⟨(h3 b hb).1,by simp; have:=(h3 b hb).2; omega⟩⟩
 ·intro r hr
  rcases hbox r hr with rfl | ⟨h3,h4⟩
  ·rw[hadd]; exact⟨.inl hbs,by simp⟩
  ·rw[had r h3]; have:=h.boxes r h4; exact⟨this.1,by simp; omega⟩
 ·intro r r' h1 h2 he
  rcases hbox r h1 with rfl | ⟨h3,h4⟩<;>rcases hbox r' h2 with rfl | ⟨h5,h6⟩
  ·rfl
  ·rw[hadd,had r' h5] at he; have:=(h.boxes r' h6).2; omega
  ·rw[hadd,had r h3] at he; have:=(h.boxes r h4).2; omega
  ·rw[had r h3,had r' h5] at he; exact h.bb r r' h4 h6 he
 ·intro r c p h1 h2 hm
  rcases hbox r h1 with rfl | ⟨h3,h4⟩
  ·rw[hadd] at hm; have:=((h.objs c p.1 p.2 h2).2.2 _ hm).2; omega
  ·rw[had r h3] at hm; exact h.bo r c p h4 h2 hm
 ·exact fun c c' p p' h1 h2=>h.oo c c' p p' h1 h2

theorem valid_alloc{P:Program}{nt:Nat}{o:Oper}{st:St}{d:Nat}{T:TypeId}{x:CV}(hop:o.op=.alloc T)(hdst:o.dst=some d)(hd:d<nt)(hz:ZeroIs P T x):
 Valid P nt o st { fr:=[d],us:=[(d,.box x)] }:=by
 intro κ st' a w hnt _ hfresh hR next Q hnext
 obtain⟨G,hG⟩:=hR
 obtain⟨i,z,h1,h2,h3⟩:=hz
 unfold Oper.wp
 have hrun:(execOp a.eval o).run P w=.ok (.value (.pointer (some ⟨w.heap.size,0,none⟩))) (w.alloc (.cells z.cells T)):=by
  simp[execOp,hop,Instr.alloc,zeroValue,typeInfo,h1,h2,newVar,newRow]
 rw[hrun]
 simp only[Oper.upon]
 rw[hdst]
 refine hnext _ _ ?_
 have:=R.newBox (x:=x) (e:=T) (cs:=z.cells.toList) G hG (by rw[hnt]; exact hd) (hfresh.1.1 d (by simp)) (fun N w' _ _=>cval_cells (h3 N w' G.hd))
 simpa[St.app,updAll,St.set] using this

theorem valid_box{P:Program}{nt:Nat}{o:Oper}{st:St}{d:Nat}{T T1:TypeId}{x:CV}{y:Operand}(hop:o.op=.box T y)(hdst:o.dst=some d)(hd:d<nt)(hy:ev P st T1 y=.val x):
 Valid P nt o st { rs:=rd y,fr:=[d],us:=[(d,.box x)] }:=by
 intro κ st' a w hnt hsame hfresh hR next Q hnext
 obtain⟨G,hG⟩:=hR
 have h1:=ev_ok (P:=P) (T:=T1) hG y d
 rw[ev_congr hsame.1,hy] at h1
 have hc:=cval_cells h1
 unfold Oper.wp
 have hrun:(execOp a.eval o).run P w=.ok (.value (.pointer (some ⟨w.heap.size,0,none⟩))) (w.alloc (.cells (a.eval y).cells T)):=by
  simp[execOp,hop,Instr.box,newVar,newRow]
 rw[hrun]
 simp only[Oper.upon]
 rw[hdst]
 refine hnext _ _ ?_
 have:=R.newBox (x:=x) (e:=T) (cs:=(a.eval y).cells.toList) G hG (by rw[hnt]; exact hd) (hfresh.1.1 d (by simp)) (fun N w' hN hw=>RepCV.frame hN hw _ _ (fun _ _=>rfl) hc)
 simpa[St.app,updAll,St.set] using this

/-! ### Writing a variable, or a part of one -/
theorem run_storeVar{P:Program}{T:TypeId}{agg:Bool}{v:Value}{w:World}{b off:Nat}{c1 c2 c3:List Value}{e:TypeId}(ht:TyIs P T agg v.cells.size)(hb:w.heap[b]?=some (.cells (c1++c2++c3).toArray e (0,0)))
 (ho:c1.length=off) (hl:c2.length=v.cells.size) (h1:∀ u∈v.cells.toList,u.oneCell'=true):
 (storeVar T ⟨b,off,none⟩ v).run P w=.ok () (w.setRow b (c1++v.cells.toList++c3).toArray):=by
 have:=run_storeCells_at P b off e v.cells.toList 0 _ w hb (by simp; omega) h1
 simp only[storeVar,Sem.run_bind,run_sizeOf ht,Result.andThen_ok,ne_eq,not_true_eq_false,if_false]
 simp only[Nat.add_zero] at this
 rw[this]
 congr 3
 subst ho
 have e1:(c1++c2++c3).take c1.length=c1:=by simp[aS]
 have e2:(c1++c2++c3).drop (c1.length+v.cells.toList.length)=c3:=by
  have:v.cells.toList.length=c2.length:=by simp[hl]
  rw[this,← aV]; exact List.drop_left
 simp only[List.toList_toArray,e1,e2]

theorem act_put_none(a:Act)(v:Value):a.put none v=a:=rfl

/-- A part of a variable gets a new content. -/
theorem R.setBox{κ:Ctx}{st:St}{a:Act}{w:World}{r:Nat}{c:CV}{p:List Nat}{y:CV}{c2':List Value}(G:Gh)(h:RG κ G st a w)(hr:st.s r=.box c)(hok:c.okp p=true)
 (hy:RepCV (Nof κ st G w) w G.hd y c2') (hlen:c2'.length=(c.at p).size):
 ∃ c1 c2 c3 e,w.heap[G.ad r]?=some (.cells (c1++c2++c3).toArray e (0,0))∧c1.length=c.offs p∧c2.length=c2'.length∧
  R κ (st.set r (.box (c.setAt p y))) a (w.setRow (G.ad r) (c1++c2'++c3).toArray):=by
 have hbr:isBox (st.s r)=true:=by rw[hr]; rfl
 have h2:=h.slots r
 rw[hr] at h2
 obtain⟨hp0,cs,e,h3,h4⟩:=h2
 obtain⟨c1,c2,c3,e1,e2,e3,e4⟩:=RepCV.path p c cs hok h4
 subst e1
 have hl2:c2.length=c2'.length:=by rw[hlen]; exact RepCV.length _ _ e3
 refine⟨c1,c2,c3,e,h3,e2,hl2,G,?_⟩
 have hsz:(w.setRow (G.ad r) (c1++c2'++c3).toArray).heap.size=w.heap.size:=by simp[World.setRow]
 have hother:∀ b,b≠G.ad r→(w.setRow (G.ad r) (c1++c2'++c3).toArray).heap[b]?=w.heap[b]?:=fun b hb=>setRow_other w _ _ _ hb
 have hbox:∀ k,isBox ((st.set r (.box (c.setAt p y))).s k)=isBox (st.s k):=by
  intro k
  simp only[St.set,upd]
  split
  ·rename_i e; subst e; rw[hbr]; rfl
  ·rfl
 have hpriv:∀ b,Priv (st.set r (.box (c.setAt p y))) G b↔Priv st G b:=by
  intro b
  simp only[Priv,hbox]
  rfl
 have hN:∀ b,Nof κ st G w b→Nof κ (st.set r (.box (c.setAt p y))) G (w.setRow (G.ad r) (c1++c2'++c3).toArray) b:=by
  intro b hb
  refine⟨?_,fun hp=>hb.2 ((hpriv b).1 hp)⟩
  rcases hb.1 with h1 | h1
  ·exact .inl h1
  ·exact .inr (by rw[hsz]; exact h1)
 have hNe:∀ b,Nof κ st G w b→b≠G.ad r:=fun b hb e=>hb.2 (.inl ⟨r,hbr,e⟩)
 have hw:∀ b,Nof κ st G w b→(w.setRow (G.ad r) (c1++c2'++c3).toArray).heap[b]?=w.heap[b]?:=fun b hb=>hother b (hNe b hb)
 have hrn:r<κ.nt:=by
  rcases Nat.lt_or_ge r κ.nt with h' | h'
  ·exact h'
  ·rw[Array.getD_eq_getD_getElem?,Array.getElem?_eq_none (by rw[h.nt]; exact h')] at hp0
   simp[undef] at hp0
 have hput:a=a.put (some r) (a.tmps.getD r undef):=by
  have hlt:r<a.tmps.size:=by rw[h.nt]; exact hrn
  cases a with
  | mk t ds=>
   simp only[Act.put,Act.mk.injEq,and_true]
   apply Array.ext_getElem?
   intro i
   rw[Array.getElem?_setIfInBounds]
   split
   ·rename_i hi; subst hi; simp[Array.getD_eq_getD_getElem?]
   ·rfl
 rw[hput]
 refine h.step hrn ⟨rfl,rfl,rfl,by rw[hsz]; exact aM _,fun k hk hkL=>hother k (fun e=>(h.boxes r hbr).1.elim (fun h1=>by omega) (fun h1=>hkL (e▸h1))),fun _=>aM _⟩ hN hw (fun k hk=>.inl (by simp[St.set,upd,hk])) ?_ (fun _ _ _ _ _=>rfl) (fun _ _ _ _ _=>rfl) ?_ ?_ ?_ ?_ ?_ ?_ (fun _ _=>rfl)
 ·have:(st.set r (.box (c.setAt p y))).s r=.box (c.setAt p y):=by simp[St.set,upd]
  rw[this]
  refine⟨hp0,_,e,setRow_heap w _ _ _ _ _ h3,?_⟩
  exact RepCV.frame hN hw _ _ (fun _ _=>rfl) (e4 y c2' hy)
 ·intro k hk _ hb
  exact⟨rfl,hother _ (fun e=>hk (h.bb k r hb hbr e))⟩
 ·intro c' sz es hc
  obtain⟨h1,h2,h5⟩:=h.objs c' sz es hc
  exact⟨RepC.frame hN hw _ _ _ (fun b hb=>hother b (fun e=>h.bo r c' _ hbr hc (e▸hb))) h1,h2,by rw[hsz]; exact h5⟩
 ·intro k hk; rw[hbox] at hk; rw[hsz]; exact h.boxes k hk
 ·intro k k' h1 h2; rw[hbox] at h1 h2; exact h.bb k k' h1 h2
 ·intro k c' p' h1 h2; rw[hbox] at h1; exact h.bo k c' p' h1 h2
 ·exact fun c1 c2 p1 p2 h1 h2=>h.oo c1 c2 p1 p2 h1 h2

theorem valid_store_box{P:Program}{nt:Nat}{o:Oper}{st:St}{r off:Nat}{p:List Nat}{x y:Operand}{T T1 T2:TypeId}{c z:CV}(hop:o.op=.store T x y)(hdst:o.dst=none)
 (hx:ev P st T1 x=.bptr r p off) (hr:st.s r=.box c) (hok:c.okp p=true) (hoff:c.offs p=off) (hy:ev P st T2 y=.val z) (ht:TyIs P T z.isAgg z.size) (hs:z.size=(c.at p).size):
 Valid P nt o st { rs:=r::(rd x++rd y),us:=[(r,.box (c.setAt p z))] }:=by
 intro κ st' a w hnt hsame _ hR next Q hnext
 obtain⟨G,hG⟩:=hR
 have h1:=ev_ok (P:=P) (T:=T1) hG x 0
 rw[ev_congr (fun k hk=>hsame.1 k (by simp[hk])),hx] at h1
 simp only[SlotOk] at h1
 have h2:=ev_ok (P:=P) (T:=T2) hG y 0
 rw[ev_congr (fun k hk=>hsame.1 k (by simp[hk])),hy] at h2
 have hcell:=cval_cells h2
 have hsz:(a.eval y).cells.size=z.size:=by have:=RepCV.length _ _ hcell; simpa using this
 have hr':st'.s r=.box c:=by rw[hsame.1 r (by simp)]; exact hr
 obtain⟨c1,c2,c3,e,g1,g2,g3,g4⟩:=R.setBox G hG hr' hok hcell (by rw[← hs,← hsz]; simp)
 unfold Oper.wp
 have hrun:(execOp a.eval o).run P w=.ok .skip (w.setRow (G.ad r) (c1++(a.eval y).cells.toList++c3).toArray):=by
  have:=run_storeVar (P:=P) (T:=T) (agg:=z.isAgg) (v:=a.eval y) (off:=off) (by rw[hsz]; exact ht) g1 (by rw[g2,hoff]) (by rw[g3]; simp) (RepCV.one _ _ hcell)
  simp[execOp,hop,h1,Instr.storeAt,Instr.sureAddr,this]
 rw[hrun]
 simp only[Oper.upon]
 rw[hdst,act_put_none]
 refine hnext _ _ ?_
 simpa[St.app,updAll,St.set] using g4
end
section

mutual
def PV.noOwn:PV→Bool
 | .lit _=>true
 | .agg fs=>PV.noOwns fs
 | .sl o _ _=>!o
 | .clo _ _=>true
 | .ptr _=>true
 | .tup _=>true
 | .mpv _ _ _=>true
def PV.noOwns:List PV→Bool
 | []=>true
 | p::ps=>p.noOwn&&PV.noOwns ps
end
mutual
def PV.noView:PV→Bool
 | .lit _=>true
 | .agg fs=>PV.noViews fs
 | .sl o _ es=>o&&PV.noViews es
 | .clo _ cs=>cs.isEmpty
 | .ptr _=>false
 | .tup vs=>PV.noViews vs
 | .mpv _ _ _=>false
def PV.noViews:List PV→Bool
 | []=>true
 | p::ps=>p.noView&&PV.noViews ps
end

section
variable{N N':Nat→Prop}{w:World}
mutual
theorem RepC.noOwn:∀ (p:PV) (cs:List Value) (F:List Nat),p.noOwn=true→RepC N w p cs F→F=[]
 | .lit v,cs,F,_,h=>by simp only[RepC] at h; exact h.2.2
 | .agg fs,cs,F,hp,h=>by simp only[RepC] at h; exact RepCs.noOwn fs cs F (by simpa[PV.noOwn] using hp) h
 | .sl false sz es,cs,F,_,h=>by simp only[RepC] at h; obtain⟨_,_,_,h2,_⟩:=h; exact h2
 | .sl true sz es,cs,F,hp,_=>by simp[PV.noOwn] at hp
 | .clo f caps,cs,F,_,h=>by simp only[RepC] at h; obtain⟨_,_,h2,_⟩:=h; exact h2
 | .ptr v,cs,F,_,h=>by simp only[RepC] at h; obtain⟨_,_,_,h2,_⟩:=h; exact h2
 | .tup _,cs,F,_,h=>by simp only[RepC] at h
 | .mpv _ _ _,cs,F,_,h=>by simp only[RepC] at h; obtain⟨_,_,_,_,h2,_⟩:=h; exact h2
theorem RepCs.noOwn:∀ (ps:List PV) (cs:List Value) (F:List Nat),PV.noOwns ps=true→RepCs N w ps cs F→F=[]
 | [],cs,F,_,h=>by simp only[RepCs] at h; exact h.2
 | p::ps,cs,F,hp,h=>by
  simp only[PV.noOwns,aw] at hp
  simp only[RepCs] at h
  obtain⟨c1,c2,F1,F2,h1,h2,h3,h4⟩:=h
  rw[h2,RepC.noOwn p c1 F1 hp.1 h3,RepCs.noOwn ps c2 F2 hp.2 h4]
  rfl
end
mutual
theorem RepC.noView:∀ (p:PV) (cs:List Value) (F:List Nat),p.noView=true→RepC N w p cs F→RepC N' w p cs F
 | .lit v,cs,F,_,h=>by simpa only[RepC] using h
 | .agg fs,cs,F,hp,h=>by simp only[RepC] at h ⊢; exact RepCs.noView fs cs F (by simpa[PV.noView] using hp) h
 | .sl false sz es,cs,F,hp,h=>by simp[PV.noView] at hp
 | .sl true sz es,cs,F,hp,h=>by
  simp only[RepC] at h ⊢
  rcases h with h | ⟨b,cap,c,e,F',ccs,h1,h2,h3,h4,h5,h6,h7,h8,h9⟩
  ·exact .inl h
  ·exact .inr ⟨b,cap,c,e,F',ccs,h1,h2,h3,h4,h5,h6,h7,RepCs.noView es ccs F' (by simpa[PV.noView] using hp) h8,h9⟩
 | .clo f caps,cs,F,hp,h=>by
  have hc:caps=[]:=by simpa[PV.noView] using hp
  subst hc
  simpa only[RepC,RepCs] using h
 | .ptr v,cs,F,hp,h=>by simp[PV.noView] at hp
 | .tup _,cs,F,_,h=>by simp only[RepC] at h
 | .mpv _ _ _,cs,F,hp,h=>by simp[PV.noView] at hp
theorem RepCs.noView:∀ (ps:List PV) (cs:List Value) (F:List Nat),PV.noViews ps=true→RepCs N w ps cs F→RepCs N' w ps cs F
 | [],cs,F,_,h=>by simpa only[RepCs] using h
 | p::ps,cs,F,hp,h=>by
  simp only[PV.noViews,aw] at hp
  simp only[RepCs] at h ⊢
  obtain⟨c1,c2,F1,F2,h1,h2,h3,h4⟩:=h
  exact⟨c1,c2,F1,F2,h1,h2,RepC.noView p c1 F1 hp.1 h3,RepCs.noView ps c2 F2 hp.2 h4⟩
end
theorem RepV.noView{p:PV}{v:Value}{F:List Nat}(hp:p.noView=true)(h:RepV N w p v F):RepV N' w p v F:=by
 cases p with
 | agg fs=>obtain⟨cs,rfl,h⟩:=h; exact⟨cs,rfl,RepCs.noView fs cs F (by simpa[PV.noView] using hp) h⟩
 | _=>exact RepC.noView (N:=N) _ _ _ hp h
end

/-! ### A content, seen by somebody else -/
mutual
def CV.pvw(ob:Nat→Option (Nat×List PV)):CV→PV
 | .pv v=>v.view
 | .own c=>match ob c with
  | some (sz,es)=>.sl false sz (PV.views es)
  | none=>.tup []
 | .node fs=>.agg (CV.pvws ob fs)
 | .gone _=>.tup []
def CV.pvws(ob:Nat→Option (Nat×List PV)):List CV→List PV
 | []=>[]
 | x::xs=>x.pvw ob::CV.pvws ob xs
end
mutual
/-- Nothing of it is gone. -/
def CV.whole(ob:Nat→Option (Nat×List PV)):CV→Bool
 | .pv _=>true
 | .own c=>(ob c).isSome
 | .node fs=>CV.wholes ob fs
 | .gone _=>false
def CV.wholes(ob:Nat→Option (Nat×List PV)):List CV→Bool
 | []=>true
 | x::xs=>x.whole ob&&CV.wholes ob xs
end
mutual
def CV.pure:CV→Bool
 | .pv _=>true
 | .own _=>false
 | .node fs=>CV.pures fs
 | .gone _=>false
def CV.pures:List CV→Bool
 | []=>true
 | x::xs=>x.pure&&CV.pures xs
end
mutual
/-- The objects that a content names. -/
def CV.names:CV→List Nat
 | .pv _=>[]
 | .own c=>[c]
 | .node fs=>CV.namess fs
 | .gone _=>[]
def CV.namess:List CV→List Nat
 | []=>[]
 | x::xs=>x.names++CV.namess xs
end

section
variable{N N':Nat→Prop}{w:World}{hd:Nat→Value}{ob:Nat→Option (Nat×List PV)}{fp:Nat→List Nat}
mutual
theorem RepCV.view(hN:∀ b,N b→N' b)(ho:∀ c sz es,ob c=some (sz,es)→RepC N w (.sl true sz es) [hd c] (fp c)∧∀ b∈fp c,N' b):
 ∀ (x:CV) (cs:List Value),x.whole ob=true→RepCV N w hd x cs→RepC N' w (x.pvw ob) cs []
 | .pv v,cs,_,h=>by simp only[RepCV] at h; exact RepC.demote hN v cs [] (by simp) h
 | .own c,cs,hw,h=>by
  simp only[CV.whole] at hw
  obtain⟨⟨sz,es⟩,he⟩:=Option.isSome_iff_exists.1 hw
  simp only[RepCV] at h
  rw[h.1]
  simp only[CV.pvw,he]
  have:=RepC.demote hN _ _ _ (ho c sz es he).2 (ho c sz es he).1
  simpa only[PV.view] using this
 | .node fs,cs,hw,h=>by
  simp only[RepCV] at h
  simp only[CV.pvw,RepC]
  exact RepCVs.view hN ho fs cs (by simpa[CV.whole] using hw) h
 | .gone n,cs,hw,h=>by simp[CV.whole] at hw
theorem RepCVs.view(hN:∀ b,N b→N' b)(ho:∀ c sz es,ob c=some (sz,es)→RepC N w (.sl true sz es) [hd c] (fp c)∧∀ b∈fp c,N' b):
 ∀ (xs:List CV) (cs:List Value),CV.wholes ob xs=true→RepCVs N w hd xs cs→RepCs N' w (CV.pvws ob xs) cs []
 | [],cs,_,h=>by simp only[RepCVs] at h; simp[CV.pvws,RepCs,h]
 | x::xs,cs,hw,h=>by
  simp only[CV.wholes,aw] at hw
  simp only[RepCVs] at h
  obtain⟨c1,c2,h1,h2,h3⟩:=h
  simp only[CV.pvws,RepCs]
  exact⟨c1,c2,[],[],h1,rfl,RepCV.view hN ho x c1 hw.1 h2,RepCVs.view hN ho xs c2 hw.2 h3⟩
end
mutual
theorem RepCV.pureView:∀ (x:CV) (cs:List Value),x.pure=true→RepCV N w hd x cs→RepC N w (x.pvw ob) cs []
 | .pv v,cs,_,h=>by simp only[RepCV] at h; exact RepC.demote (fun _ h=>h) v cs [] (by simp) h
 | .own c,cs,hw,h=>by simp[CV.pure] at hw
 | .node fs,cs,hw,h=>by
  simp only[RepCV] at h
  simp only[CV.pvw,RepC]
  exact RepCVs.pureView fs cs (by simpa[CV.pure] using hw) h
 | .gone n,cs,hw,h=>by simp[CV.pure] at hw
theorem RepCVs.pureView:∀ (xs:List CV) (cs:List Value),CV.pures xs=true→RepCVs N w hd xs cs→RepCs N w (CV.pvws ob xs) cs []
 | [],cs,_,h=>by simp only[RepCVs] at h; simp[CV.pvws,RepCs,h]
 | x::xs,cs,hw,h=>by
  simp only[CV.pures,aw] at hw
  simp only[RepCVs] at h
  obtain⟨c1,c2,h1,h2,h3⟩:=h
  simp only[CV.pvws,RepCs]
  exact⟨c1,c2,[],[],h1,rfl,RepCV.pureView x c1 hw.1 h2,RepCVs.pureView xs c2 hw.2 h3⟩
end

theorem PV.isAgg_view(v:PV):(CV.pv v.view).isAgg=(CV.pv v).isAgg:=by cases v<;>simp[PV.view,CV.isAgg]

theorem repV_of_cells{p:PV}{v:Value}{F:List Nat}{agg:Bool}(ha:(CV.pv p).isAgg=agg)(h:(agg=true∧∃ cs,v=.agg cs.toArray∧RepC N w p cs F)∨(agg=false∧RepC N w p [v] F)):RepV N w p v F:=by
 subst ha
 cases p with
 | agg fs=>
  rcases h with⟨_,cs,h1,h2⟩ | ⟨h1,_⟩
  ·exact⟨cs,h1,by simpa[RepC] using h2⟩
  ·simp[CV.isAgg] at h1
 | _=>
  rcases h with⟨h1,_⟩ | ⟨_,h2⟩
  ·simp[CV.isAgg] at h1
  ·exact h2

theorem CV.isAgg_pvw{x:CV}(h:x.whole ob=true):(CV.pv (x.pvw ob)).isAgg=x.isAgg:=by
 cases x with
 | pv v=>simp[CV.pvw,PV.isAgg_view]
 | own c=>simp only[CV.whole] at h; obtain⟨⟨sz,es⟩,he⟩:=Option.isSome_iff_exists.1 h; simp[CV.pvw,he,CV.isAgg]
 | node fs=>simp[CV.pvw,CV.isAgg]
 | gone n=>simp[CV.whole] at h

theorem CVal.view(hN:∀ b,N b→N' b)(ho:∀ c sz es,ob c=some (sz,es)→RepC N w (.sl true sz es) [hd c] (fp c)∧∀ b∈fp c,N' b){x:CV}{v:Value}(hx:x.whole ob=true)
 (h:CVal N w hd x v):RepV N' w (x.pvw ob) v []:=by
 refine repV_of_cells (CV.isAgg_pvw hx) ?_
 rcases h with⟨h1,cs,h2,h3⟩ | ⟨h1,h2,_⟩
 ·exact .inl ⟨h1,cs,h2,RepCV.view hN ho x cs hx h3⟩
 ·exact .inr ⟨h1,RepCV.view hN ho x _ hx h2⟩
mutual
theorem CV.pure_whole:∀ x:CV,x.pure=true→x.whole ob=true
 | .pv _,_=>rfl
 | .own _,h=>by simp[CV.pure] at h
 | .node fs,h=>by simp only[CV.whole]; exact CV.pures_wholes fs (by simpa[CV.pure] using h)
 | .gone _,h=>by simp[CV.pure] at h
theorem CV.pures_wholes:∀ xs:List CV,CV.pures xs=true→CV.wholes ob xs=true
 | [],_=>rfl
 | x::xs,h=>by simp only[CV.pures,aw] at h; simp[CV.wholes,CV.pure_whole x h.1,CV.pures_wholes xs h.2]
end
theorem CVal.pureView{x:CV}{v:Value}(hx:x.pure=true)(h:CVal N w hd x v):RepV N w (x.pvw ob) v []:=by
 refine repV_of_cells (CV.isAgg_pvw (CV.pure_whole x hx)) ?_
 rcases h with⟨h1,cs,h2,h3⟩ | ⟨h1,h2,_⟩
 ·exact .inl ⟨h1,cs,h2,RepCV.pureView x cs hx h3⟩
 ·exact .inr ⟨h1,RepCV.pureView x _ hx h2⟩
end

/-! ### Contracts -/
def RepR(N:Nat→Prop)(w:World):PV→Value→List Nat→Prop
 | .tup ps,v,F=>∃ vs,v=.tuple vs.toArray∧RepVs N w ps vs F
 | p,v,F=>RepV N w p v F

def CallIs(P:Program)(f:FuncId):Prop:=∃ fn,P.funcs[f]?=some fn∧(fn.name== "runtime.NumGoroutine")=false∧fn.body.isNone=false

/-- Called with these, in whatever memory: it returns this. What is handed over as one's own ('Fs': the blocks) is the function's from then on; what it hands back as its own was so handed over, or is new; all else stays. -/
def Sat(P:Program)(f:FuncId)(args:List PV)(res:PV):Prop:=
 CallIs P f∧∀ (w:World) (N:Nat→Prop) (vs:List Value) (Fs:List Nat),(∀ b,N b→b<w.heap.size∧b∉Fs)→Fs.Nodup→(∀ b∈Fs,b<w.heap.size)→RepVs N w args vs Fs→
  Calls P f vs.toArray w fun e w'=>∃ v F,e=.returned v∧KeepX Fs w.heap.size w w'∧
   RepR (fun b=>N b∨((w.heap.size≤b∨b∈Fs)∧b<w'.heap.size∧b∉F)) w' res v F∧F.Nodup∧∀ b∈F,(w.heap.size≤b∨b∈Fs)∧b<w'.heap.size

theorem run_callFunc{P:Program}{f:FuncId}(h:CallIs P f)(args:Array Value)(w:World):(callFunc f args).run P w=.ok (.enter f args) w:=by
 obtain⟨fn,h1,h2,h3⟩:=h
 simp only[callFunc,Sem.run_bind,run_program,Result.andThen_ok,h1,h2,h3,Bool.false_eq_true,if_false,Sem.run_pure]

/-! ### What a call hands back, taken apart -/
mutual
def explode:PV→Nat→CV×List (Nat×(Nat×List PV))×Nat
 | .sl true sz es,c=>(.own c,[(c,(sz,es))],c+1)
 | .agg fs,c=>if PV.noOwns fs then(.pv (.agg fs),[],c) else let r:=explodes fs c; (.node r.1,r.2.1,r.2.2)
 | p,c=>(.pv p,[],c)
def explodes:List PV→Nat→List CV×List (Nat×(Nat×List PV))×Nat
 | [],c=>([],[],c)
 | p::ps,c=>let r:=explode p c; let s:=explodes ps r.2.2; (r.1::s.1,r.2.1++s.2.1,s.2.2)
end

/-- What the new names stand for. -/
structure News(N:Nat→Prop)(w:World)(hdv:Nat→Value)(fpv:Nat→List Nat)(F:List Nat)(lo hi:Nat)(news:List (Nat×(Nat×List PV))):Prop where
 rep:∀ n sz es,(n,(sz,es))∈news→lo≤n∧n<hi∧RepC N w (.sl true sz es) [hdv n] (fpv n)∧(fpv n).Nodup∧∀ b∈fpv n,b∈F
 apart:∀ n m p q,(n,p)∈news→(m,q)∈news→n≠m→∀ b∈fpv n,b∉fpv m
 once:(news.map (·.1)).Nodup
 le:lo≤hi
 all:∀ n,lo≤n→n<hi→n∈news.map (·.1)

mutual
theorem explode_ok{N:Nat→Prop}{w:World}:∀ (p:PV) (cs:List Value) (F:List Nat) (c:Nat),RepC N w p cs F→F.Nodup→
 ∃ hdv fpv,News N w hdv fpv F c (explode p c).2.2 (explode p c).2.1∧∀ hd:Nat→Value,(∀ n,c≤n→n<(explode p c).2.2→hd n=hdv n)→RepCV N w hd (explode p c).1 cs
 | .lit v,cs,F,c,h,_=>by
  have hF:=RepC.noOwn _ _ _ (by rfl) h; subst hF
  exact⟨fun _=>undef,fun _=>[],⟨by simp[explode],by simp[explode],by simp[explode],by simp[explode],fun n h1 h2=>absurd h2 (by simp[explode]; omega)⟩,fun hd _=>by simpa[explode,RepCV] using h⟩
 | .sl false sz es,cs,F,c,h,_=>by
  have hF:=RepC.noOwn _ _ _ (by rfl) h; subst hF
  exact⟨fun _=>undef,fun _=>[],⟨by simp[explode],by simp[explode],by simp[explode],by simp[explode],fun n h1 h2=>absurd h2 (by simp[explode]; omega)⟩,fun hd _=>by simpa[explode,RepCV] using h⟩
 | .clo f caps,cs,F,c,h,_=>by
  have hF:=RepC.noOwn _ _ _ (by rfl) h; subst hF
  exact⟨fun _=>undef,fun _=>[],⟨by simp[explode],by simp[explode],by simp[explode],by simp[explode],fun n h1 h2=>absurd h2 (by simp[explode]; omega)⟩,fun hd _=>by simpa[explode,RepCV] using h⟩
 | .ptr v,cs,F,c,h,_=>by
  have hF:=RepC.noOwn _ _ _ (by rfl) h; subst hF
  exact⟨fun _=>undef,fun _=>[],⟨by simp[explode],by simp[explode],by simp[explode],by simp[explode],fun n h1 h2=>absurd h2 (by simp[explode]; omega)⟩,fun hd _=>by simpa[explode,RepCV] using h⟩
 | .tup _,cs,F,c,h,_=>by simp only[RepC] at h
 | .mpv ks vs ck,cs,F,c,h,_=>by
  have hF:=RepC.noOwn _ _ _ (by rfl) h; subst hF
  exact⟨fun _=>undef,fun _=>[],⟨by simp[explode],by simp[explode],by simp[explode],by simp[explode],fun n h1 h2=>absurd h2 (by simp[explode]; omega)⟩,fun hd _=>by simpa[explode,RepCV] using h⟩
 | .sl true sz es,cs,F,c,h,hn=>by
  have hl:=RepC.length _ _ _ h
  simp only[PV.size] at hl
  obtain⟨v,rfl⟩:=List.length_eq_one_iff.1 hl
  have h1:=RepC.one _ _ _ h v (by simp)
  refine⟨fun _=>v,fun _=>F,⟨?_,?_,by simp[explode],by simp[explode],fun n h1 h2=>by simp[explode] at h2 ⊢; omega⟩,fun hd hh=>?_⟩
  ·intro n sz' es' hm
   simp only[explode,List.mem_singleton,Prod.mk.injEq] at hm
   obtain⟨rfl,rfl,rfl⟩:=hm
   exact⟨aM _,by simp[explode],h,hn,fun b hb=>hb⟩
  ·intro n m p q h1 h2 hne
   simp only[explode,List.mem_singleton,Prod.mk.injEq] at h1 h2
   exact absurd (h1.1.trans h2.1.symm) hne
  ·simp only[explode,RepCV]
   rw[hh c (aM _) (by simp[explode])]
   exact⟨rfl,h1⟩
 | .agg fs,cs,F,c,h,hn=>by
  by_cases hno:PV.noOwns fs=true
  ·have hF:=RepC.noOwn (.agg fs) _ _ (by simpa[PV.noOwn] using hno) h; subst hF
   refine⟨fun _=>undef,fun _=>[],?_,?_⟩
   ·simp only[explode,hno,if_true]; exact⟨by simp,by simp,by simp,aM _,fun n h1 h2=>absurd h2 (by omega)⟩
   ·intro hd _; simp only[explode,hno,if_true,RepCV]; exact h
  ·simp only[RepC] at h
   obtain⟨hdv,fpv,h1,h2⟩:=explodes_ok fs cs F c h hn
   refine⟨hdv,fpv,?_,?_⟩
   ·simp only[explode,hno]; exact h1
   ·intro hd hh
    simp only[explode,hno] at hh ⊢
    exact h2 hd hh
theorem explodes_ok{N:Nat→Prop}{w:World}:∀ (ps:List PV) (cs:List Value) (F:List Nat) (c:Nat),RepCs N w ps cs F→F.Nodup→
 ∃ hdv fpv,News N w hdv fpv F c (explodes ps c).2.2 (explodes ps c).2.1∧∀ hd:Nat→Value,(∀ n,c≤n→n<(explodes ps c).2.2→hd n=hdv n)→RepCVs N w hd (explodes ps c).1 cs
 | [],cs,F,c,h,_=>by
  simp only[RepCs] at h
  exact⟨fun _=>undef,fun _=>[],⟨by simp[explodes],by simp[explodes],by simp[explodes],by simp[explodes],fun n h1 h2=>absurd h2 (by simp[explodes]; omega)⟩,fun hd _=>by simp[explodes,RepCVs,h.1]⟩
 | p::ps,cs,F,c,h,hn=>by
  simp only[RepCs] at h
  obtain⟨c1,c2,F1,F2,e1,e2,h3,h4⟩:=h
  subst e2
  have hn1:F1.Nodup:=(List.nodup_append.1 hn).1
  have hn2:F2.Nodup:=(List.nodup_append.1 hn).2.1
  have hdis:∀ b∈F1,b∉F2:=fun b hb hb'=>(List.nodup_append.1 hn).2.2 b hb b hb' rfl
  obtain⟨hd1,fp1,n1,r1⟩:=explode_ok p c1 F1 c h3 hn1
  obtain⟨hd2,fp2,n2,r2⟩:=explodes_ok ps c2 F2 (explode p c).2.2 h4 hn2
  have hle1:=n1.le
  have hle2:=n2.le
  have key:∀ n,n<(explode p c).2.2→¬ (explode p c).2.2≤n:=fun n h=>by omega
  refine⟨fun n=>if n<(explode p c).2.2 then hd1 n else hd2 n,fun n=>if n<(explode p c).2.2 then fp1 n else fp2 n,⟨?_,?_,?_,?_,?_⟩,?_⟩
  ·intro n sz es hm
   simp only[explodes,aT] at hm ⊢
   rcases hm with hm | hm
   ·obtain⟨g1,g2,g3,g4,g5⟩:=n1.rep n sz es hm
    simp only[g2,if_true]
    exact⟨g1,by omega,g3,g4,fun b hb=>.inl (g5 b hb)⟩
   ·obtain⟨g1,g2,g3,g4,g5⟩:=n2.rep n sz es hm
    have:¬ n<(explode p c).2.2:=by omega
    simp only[this,if_false]
    exact⟨by omega,g2,g3,g4,fun b hb=>.inr (g5 b hb)⟩
  ·intro n m pn pm h1 h2 hne
   simp only[explodes,aT] at h1 h2
   rcases h1 with h1 | h1<;>rcases h2 with h2 | h2
   ·have g1:=(n1.rep n pn.1 pn.2 h1).2.1; have g2:=(n1.rep m pm.1 pm.2 h2).2.1
    simp only[g1,g2,if_true]; exact n1.apart n m pn pm h1 h2 hne
   ·have g1:=(n1.rep n pn.1 pn.2 h1).2.1; have g2:=(n2.rep m pm.1 pm.2 h2).1
    have:¬ m<(explode p c).2.2:=by omega
    simp only[g1,this,if_true,if_false]
    exact fun b hb hb'=>hdis b ((n1.rep n pn.1 pn.2 h1).2.2.2.2 b hb) ((n2.rep m pm.1 pm.2 h2).2.2.2.2 b hb')
   ·have g1:=(n2.rep n pn.1 pn.2 h1).1; have g2:=(n1.rep m pm.1 pm.2 h2).2.1
    have:¬ n<(explode p c).2.2:=by omega
    simp only[g2,this,if_true,if_false]
    exact fun b hb hb'=>hdis b ((n1.rep m pm.1 pm.2 h2).2.2.2.2 b hb') ((n2.rep n pn.1 pn.2 h1).2.2.2.2 b hb)
   ·have g1:=(n2.rep n pn.1 pn.2 h1).1; have g2:=(n2.rep m pm.1 pm.2 h2).1
    have e1:¬ n<(explode p c).2.2:=by omega
    have e2:¬ m<(explode p c).2.2:=by omega
    simp only[e1,e2,if_false]; exact n2.apart n m pn pm h1 h2 hne
  ·simp only[explodes,bG]
   refine List.nodup_append.2 ⟨n1.once,n2.once,?_⟩
   intro a ha b hb e
   subst e
   obtain⟨⟨_,q1⟩,h1,rfl⟩:=List.mem_map.1 ha
   obtain⟨⟨m,q2⟩,h2,e⟩:=List.mem_map.1 hb
   have g1:=(n1.rep _ q1.1 q1.2 h1).2.1
   have g2:=(n2.rep m q2.1 q2.2 h2).1
   simp only at e; omega
  ·simp only[explodes]; omega
  ·intro n h1 h2
   simp only[explodes,bG,aT] at h2 ⊢
   by_cases hlt:n<(explode p c).2.2
   ·exact .inl (n1.all n h1 hlt)
   ·exact .inr (n2.all n (by omega) h2)
  ·intro hd hh
   simp only[explodes,RepCVs] at hh ⊢
   refine⟨c1,c2,e1,r1 hd (fun n h1 h2=>?_),r2 hd (fun n h1 h2=>?_)⟩
   ·rw[hh n h1 (by omega)]; simp[h2]
   ·rw[hh n (by omega) h2]; have:¬ n<(explode p c).2.2:=by omega
    simp[this]
end

theorem updAll_notMem{α:Type}:∀ (l:List (Nat×α)) (f:Nat→α) (n:Nat),n∉l.map (·.1)→updAll f l n=f n
 | [],_,_,_=>rfl
 | (k,v)::l,f,n,h=>by
  simp only[aF,List.mem_cons,not_or] at h
  simp only[updAll]
  rw[updAll_notMem l _ n h.2,upd_ne h.1]
theorem updAll_mem{α:Type}:∀ (l:List (Nat×α)) (f:Nat→α) (n:Nat) (v:α),(l.map (·.1)).Nodup→(n,v)∈l→updAll f l n=v
 | [],_,_,_,_,h=>by simp at h
 | (k,u)::l,f,n,v,hn,h=>by
  simp only[aF,List.nodup_cons] at hn
  simp only[updAll]
  rcases List.mem_cons.1 h with h | h
  ·obtain⟨rfl,rfl⟩:=Prod.mk.inj h
   rw[updAll_notMem l _ n hn.1,upd_same]
  ·exact updAll_mem l _ n v hn.2 h

def newObjs(news:List (Nat×(Nat×List PV))):List (Nat×Option (Nat×List PV)):=news.map fun x=>(x.1,some x.2)
theorem newObjs_keys(news:List (Nat×(Nat×List PV))):(newObjs news).map (·.1)=news.map (·.1):=by simp[newObjs]

/-- The blocks of the names. -/
def fps(fp:Nat→List Nat):List Nat→List Nat
 | []=>[]
 | c::cs=>fp c++fps fp cs
theorem fps_append(fp:Nat→List Nat):∀ a b:List Nat,fps fp (a++b)=fps fp a++fps fp b
 | [],b=>rfl
 | x::a,b=>by simp[fps,fps_append fp a b]
theorem mem_fps{fp:Nat→List Nat}{b:Nat}:∀ {cs:List Nat},b∈fps fp cs↔∃ c∈cs,b∈fp c
 | []=>by simp[fps]
 | c::cs=>by simp[fps,mem_fps (cs:=cs)]

def deadObjs(D:List Nat):List (Nat×Option (Nat×List PV)):=D.map fun c=>(c,none)
theorem updAll_dead(D:List Nat)(f:Nat→Option (Nat×List PV))(c:Nat):updAll f (deadObjs D) c=if c∈D then none else f c:=by
 induction D generalizing f with
 | nil=>rfl
 | cons d D ih=>
  simp only[deadObjs,aF,updAll] at ih ⊢
  rw[ih]
  by_cases h:c∈D
  ·simp[h]
  ·by_cases hd:c=d
   ·simp[h,hd,upd]
   ·simp[h,hd,upd]
theorem updAll_append{α:Type}:∀ (l m:List (Nat×α)) (f:Nat→α),updAll f (l++m)=updAll (updAll f l) m
 | [],_,_=>rfl
 | (k,v)::l,m,f=>by simp only[List.cons_append,updAll]; exact updAll_append l m _

/-- What came from outside (a call's result, with all that it brought) goes into a slot; what was handed over is no longer here. -/
theorem R.newRes{κ:Ctx}{G:Gh}{st:St}{a:Act}{w w':World}{d:Nat}{v:Value}{F D:List Nat}{lo hi:Nat}{news:List (Nat×(Nat×List PV))}{N':Nat→Prop}{hdv:Nat→Value}{fpv:Nat→List Nat}{sv:SlotV}
 (h:RG κ G st a w) (hd:d<κ.nt) (hD:∀ c∈D,(st.o c).isSome=true) (hb:KeepX (fps G.fp D) w.heap.size w w') (hF:∀ b∈F,(w.heap.size≤b∨b∈fps G.fp D)∧b<w'.heap.size)
 (hN':∀ b,N' b→Nof κ st G w b∨((w.heap.size≤b∨b∈fps G.fp D)∧b<w'.heap.size∧b∉F)) (hnews:News N' w' hdv fpv F lo hi news) (hfresh:∀ n∈news.map (·.1),st.noC n) (hnb:isBox sv=false)
 (hsv:∀ (N:Nat→Prop) (G':Gh),(∀ b,N' b→N b)→(∀ n,lo≤n→n<hi→G'.hd n=hdv n)→SlotOk N w' G' d v sv):
 R κ { s:=upd st.s d sv,o:=updAll st.o (deadObjs D++newObjs news) } (a.put (some d) v) w':=by
 have hbs:=h.keep.size
 let G':Gh:={ hd:=fun n=>if n∈news.map (·.1) then hdv n else G.hd n,fp:=fun n=>if n∈news.map (·.1) then fpv n else G.fp n,ad:=G.ad }
 have hDin:∀ b,b∈fps G.fp D→∃ c p,c∈D∧st.o c=some p∧b∈G.fp c:=by
  intro b hb'
  obtain⟨c,hc,hm⟩:=mem_fps.1 hb'
  obtain⟨p,hp⟩:=Option.isSome_iff_exists.1 (hD c hc)
  exact⟨c,p,hc,hp,hm⟩
 have hDlt:∀ b,b∈fps G.fp D→(κ.w0.heap.size≤b∨b∈κ.L)∧b<w.heap.size:=by
  intro b hb'
  obtain⟨c,p,_,hp,hm⟩:=hDin b hb'
  exact(h.objs c p.1 p.2 hp).2.2 b hm
 have hlt:∀ b,Nof κ st G w b→b<w.heap.size:=fun b hb=>hb.lt h
 have hNX:∀ b,Nof κ st G w b→b∉fps G.fp D:=by
  intro b hb' hm
  obtain⟨c,p,_,hp,hm⟩:=hDin b hm
  exact hb'.2 (.inr ⟨c,p,hp,hm⟩)
 have hbox:∀ r,isBox (upd st.s d sv r)=true→isBox (st.s r)=true∧r≠d:=by
  intro r hr
  simp only[upd] at hr
  split at hr
  ·rw[hnb] at hr; cases hr
  ·exact⟨hr,by assumption⟩
 have hbX:∀ r,isBox (st.s r)=true→G.ad r∉fps G.fp D:=by
  intro r hr hm
  obtain⟨c,p,_,hp,hm⟩:=hDin _ hm
  exact h.bo r c p hr hp hm
 have hob:∀ c sz es,updAll st.o (deadObjs D++newObjs news) c=some (sz,es)→(c∈news.map (·.1)∧(c,(sz,es))∈news)∨(c∉news.map (·.1)∧c∉D∧st.o c=some (sz,es)):=by
  intro c sz es hc
  rw[updAll_append] at hc
  by_cases hm:c∈news.map (·.1)
  ·left
   refine⟨hm,?_⟩
   obtain⟨⟨n,p⟩,h1,rfl⟩:=List.mem_map.1 hm
   have h2:(n,some p)∈newObjs news:=List.mem_map.2 ⟨(n,p),h1,rfl⟩
   rw[updAll_mem _ _ n (some p) (by rw[newObjs_keys]; exact hnews.once) h2] at hc
   cases hc; exact h1
  ·right
   rw[updAll_notMem _ _ _ (by rw[newObjs_keys]; exact hm),updAll_dead] at hc
   by_cases hcD:c∈D
   ·simp[hcD] at hc
   ·simp only[hcD,if_false] at hc; exact⟨hm,hcD,hc⟩
 have hoX:∀ c sz es,c∉D→st.o c=some (sz,es)→∀ b∈G.fp c,b∉fps G.fp D:=by
  intro c sz es hcD ho b hb' hm
  obtain⟨c',p',hc',hp',hm'⟩:=hDin b hm
  exact h.oo c c' _ p' ho hp' (fun e=>hcD (e▸hc')) b hb' hm'
 have hFnot:∀ b∈F,¬ Nof κ st G w b:=by
  intro b hbF hn
  rcases (hF b hbF).1 with h1 | h1
  ·have:=hlt b hn; omega
  ·exact hNX b hn h1
 have hNw:∀ b,Nof κ st G w b→Nof κ { s:=upd st.s d sv,o:=updAll st.o (deadObjs D++newObjs news) } G' w' b:=by
  intro b hb'
  have hbl:=hlt b hb'
  refine⟨?_,fun hp=>?_⟩
  ·rcases hb'.1 with h1 | h1
   ·exact .inl h1
   ·exact .inr ⟨h1.1,Nat.lt_of_lt_of_le h1.2 hb.size⟩
  ·rcases hp with⟨r,h1,h2⟩ | ⟨c,⟨sz,es⟩,h1,h2⟩
   ·exact hb'.2 (.inl ⟨r,(hbox r h1).1,h2⟩)
   ·rcases hob c sz es h1 with⟨hm,hin⟩ | ⟨hm,_,ho⟩
    ·simp only[G',hm,if_true] at h2
     exact hFnot b ((hnews.rep c sz es hin).2.2.2.2 b h2) hb'
    ·simp only[G',hm,if_false] at h2
     exact hb'.2 (.inr ⟨c,(sz,es),ho,h2⟩)
 have hNn:∀ b,N' b→Nof κ { s:=upd st.s d sv,o:=updAll st.o (deadObjs D++newObjs news) } G' w' b:=by
  intro b hb'
  rcases hN' b hb' with h1 | ⟨h1,h2,h3⟩
  ·exact hNw b h1
  ·refine⟨.inr ⟨?_,h2⟩,fun hp=>?_⟩
   ·rcases h1 with h1 | h1
    ·exact .inl (by omega)
    ·exact(hDlt b h1).1
   ·rcases hp with⟨r,g1,g2⟩ | ⟨c,⟨sz,es⟩,g1,g2⟩
    ·simp only[G'] at g2
     rcases h1 with h1 | h1
     ·have:=(h.boxes r (hbox r g1).1).2; omega
     ·exact hbX r (hbox r g1).1 (g2▸h1)
    ·rcases hob c sz es g1 with⟨hm,hin⟩ | ⟨hm,hcD,ho⟩
     ·simp only[G',hm,if_true] at g2
      exact h3 ((hnews.rep c sz es hin).2.2.2.2 b g2)
     ·simp only[G',hm,if_false] at g2
      rcases h1 with h1 | h1
      ·have:=((h.objs c sz es ho).2.2 b g2).2; omega
      ·exact hoX c sz es hcD ho b g2 h1
 have hw:∀ b,b<w.heap.size→b∉fps G.fp D→w'.heap[b]?=w.heap[b]?:=hb.block
 refine⟨G',h.step hd ⟨hb.os,hb.tape,hb.output,hb.size,fun k hk hkL=>hw k (by omega) (fun hm=>?_),hb.drawn⟩ hNw (fun b hb'=>hw b (hlt b hb') (hNX b hb')) (fun k hk=>.inl (by simp[upd,hk])) ?_ ?_ (fun _ _ _ _ _=>rfl) ?_ ?_ ?_ ?_ ?_ ?_ (fun c hc=>?_)⟩
 rotate_right
 ·have hm:c∉news.map (·.1):=fun hm=>by have:=(hfresh c hm).1.1; omega
  simp only[G',hm,if_false]
 ·rcases (hDlt k hm).1 with h1 | h1
  ·omega
  ·exact hkL h1
 ·have:upd st.s d sv d=sv:=upd_same _ _ _
  simp only[this]
  refine hsv _ G' hNn (fun n h1 h2=>?_)
  simp only[G',hnews.all n h1 h2,if_true]
 ·intro k c _ _ hc
  by_cases hm:c∈news.map (·.1)
  ·rw[(hfresh c hm).2 k] at hc; cases hc
  ·simp only[G',hm,if_false]
 ·intro k _ _ hbk
  exact⟨rfl,hw _ (h.boxes k hbk).2 (hbX k hbk)⟩
 ·intro c sz es hc
  rcases hob c sz es hc with⟨hm,hin⟩ | ⟨hm,hcD,ho⟩
  ·obtain⟨g1,g2,g3,g4,g5⟩:=hnews.rep c sz es hin
   simp only[G',hm,if_true]
   refine⟨RepC.frame hNn (fun _ _=>rfl) _ _ _ (fun _ _=>rfl) g3,g4,fun b hb'=>⟨?_,(hF b (g5 b hb')).2⟩⟩
   rcases (hF b (g5 b hb')).1 with h1 | h1
   ·exact .inl (by omega)
   ·exact(hDlt b h1).1
  ·simp only[G',hm,if_false]
   obtain⟨g1,g2,g3⟩:=h.objs c sz es ho
   exact⟨RepC.frame hNw (fun b hb'=>hw b (hlt b hb') (hNX b hb')) _ _ _ (fun b hb'=>hw b (g3 b hb').2 (hoX c sz es hcD ho b hb')) g1,g2,fun b hb'=>⟨(g3 b hb').1,Nat.lt_of_lt_of_le (g3 b hb').2 hb.size⟩⟩
 ·intro r hr
  have:=h.boxes r (hbox r hr).1
  exact⟨this.1,Nat.lt_of_lt_of_le this.2 hb.size⟩
 ·exact fun r r' h1 h2=>h.bb r r' (hbox r h1).1 (hbox r' h2).1
 ·intro r c ⟨sz,es⟩ h1 h2 hm'
  rcases hob c sz es h2 with⟨hm,hin⟩ | ⟨hm,hcD,ho⟩
  ·simp only[G',hm,if_true] at hm'
   rcases (hF _ ((hnews.rep c sz es hin).2.2.2.2 _ hm')).1 with g1 | g1
   ·have g2:=(h.boxes r (hbox r h1).1).2; omega
   ·exact hbX r (hbox r h1).1 g1
  ·simp only[G',hm,if_false] at hm'
   exact h.bo r c (sz,es) (hbox r h1).1 ho hm'
 ·intro c c' ⟨sz,es⟩ ⟨sz',es'⟩ h1 h2 hne b hb1 hb2
  rcases hob c sz es h1 with⟨hm,hin⟩ | ⟨hm,hcD,ho⟩<;>rcases hob c' sz' es' h2 with⟨hm',hin'⟩ | ⟨hm',hcD',ho'⟩
  ·simp only[G',hm,hm',if_true] at hb1 hb2
   exact hnews.apart c c' _ _ hin hin' hne b hb1 hb2
  ·simp only[G',hm,hm',if_true,if_false] at hb1 hb2
   rcases (hF _ ((hnews.rep c sz es hin).2.2.2.2 _ hb1)).1 with g1 | g1
   ·have g2:=((h.objs c' sz' es' ho').2.2 b hb2).2; omega
   ·exact hoX c' sz' es' hcD' ho' b hb2 g1
  ·simp only[G',hm,hm',if_true,if_false] at hb1 hb2
   rcases (hF _ ((hnews.rep c' sz' es' hin').2.2.2.2 _ hb2)).1 with g1 | g1
   ·have g2:=((h.objs c sz es ho).2.2 b hb1).2; omega
   ·exact hoX c sz es hcD ho b hb1 g1
  ·simp only[G',hm,hm',if_false] at hb1 hb2
   exact h.oo c c' _ _ ho ho' hne b hb1 hb2
end
section

mutual
def CV.pvo(ob:Nat→Option (Nat×List PV)):CV→PV
 | .pv v=>v
 | .own c=>match ob c with
  | some (sz,es)=>.sl true sz es
  | none=>.tup []
 | .node fs=>.agg (CV.pvos ob fs)
 | .gone _=>.tup []
def CV.pvos(ob:Nat→Option (Nat×List PV)):List CV→List PV
 | []=>[]
 | x::xs=>x.pvo ob::CV.pvos ob xs
end

section
variable{N:Nat→Prop}{w:World}{hd:Nat→Value}{ob:Nat→Option (Nat×List PV)}{fp:Nat→List Nat}
mutual
theorem RepCV.own(ho:∀ c sz es,ob c=some (sz,es)→RepC N w (.sl true sz es) [hd c] (fp c)):
 ∀ (x:CV) (cs:List Value),x.whole ob=true→RepCV N w hd x cs→RepC N w (x.pvo ob) cs (fps fp x.names)
 | .pv v,cs,_,h=>by simp only[RepCV] at h; simpa[CV.pvo,CV.names,fps] using h
 | .own c,cs,hw,h=>by
  simp only[CV.whole] at hw
  obtain⟨⟨sz,es⟩,he⟩:=Option.isSome_iff_exists.1 hw
  simp only[RepCV] at h
  rw[h.1]
  simpa[CV.pvo,he,CV.names,fps] using ho c sz es he
 | .node fs,cs,hw,h=>by
  simp only[RepCV] at h
  simp only[CV.pvo,RepC,CV.names]
  exact RepCVs.own ho fs cs (by simpa[CV.whole] using hw) h
 | .gone n,cs,hw,h=>by simp[CV.whole] at hw
theorem RepCVs.own(ho:∀ c sz es,ob c=some (sz,es)→RepC N w (.sl true sz es) [hd c] (fp c)):
 ∀ (xs:List CV) (cs:List Value),CV.wholes ob xs=true→RepCVs N w hd xs cs→RepCs N w (CV.pvos ob xs) cs (fps fp (CV.namess xs))
 | [],cs,_,h=>by simp only[RepCVs] at h; simp[CV.pvos,RepCs,h,CV.namess,fps]
 | x::xs,cs,hw,h=>by
  simp only[CV.wholes,aw] at hw
  simp only[RepCVs] at h
  obtain⟨c1,c2,h1,h2,h3⟩:=h
  simp only[CV.pvos,RepCs,CV.namess,fps_append]
  exact⟨c1,c2,_,_,h1,rfl,RepCV.own ho x c1 hw.1 h2,RepCVs.own ho xs c2 hw.2 h3⟩
end
theorem CV.isAgg_pvo{x:CV}(h:x.whole ob=true):(CV.pv (x.pvo ob)).isAgg=x.isAgg:=by
 cases x with
 | pv v=>simp[CV.pvo]
 | own c=>simp only[CV.whole] at h; obtain⟨⟨sz,es⟩,he⟩:=Option.isSome_iff_exists.1 h; simp[CV.pvo,he,CV.isAgg]
 | node fs=>simp[CV.pvo,CV.isAgg]
 | gone n=>simp[CV.whole] at h
theorem CVal.own(ho:∀ c sz es,ob c=some (sz,es)→RepC N w (.sl true sz es) [hd c] (fp c)){x:CV}{v:Value}(hx:x.whole ob=true)(h:CVal N w hd x v):RepV N w (x.pvo ob) v (fps fp x.names):=by
 refine repV_of_cells (CV.isAgg_pvo hx) ?_
 rcases h with⟨h1,cs,h2,h3⟩ | ⟨h1,h2,_⟩
 ·exact .inl ⟨h1,cs,h2,RepCV.own ho x cs hx h3⟩
 ·exact .inr ⟨h1,RepCV.own ho x _ hx h2⟩
theorem CVals.own(ho:∀ c sz es,ob c=some (sz,es)→RepC N w (.sl true sz es) [hd c] (fp c)):∀ {xs:List CV} {vs:List Value},CV.wholes ob xs=true→CVals N w hd xs vs→RepVs N w (CV.pvos ob xs) vs (fps fp (CV.namess xs))
 | [],vs,_,h=>by simp only[CVals] at h; simp[CV.pvos,RepVs,h,CV.namess,fps]
 | x::xs,vs,hw,h=>by
  simp only[CV.wholes,aw] at hw
  simp only[CVals] at h
  obtain⟨v,vs',h1,h2,h3⟩:=h
  simp only[CV.pvos,RepVs,CV.namess,fps_append]
  exact⟨v,vs',_,_,h1,rfl,CVal.own ho hw.1 h2,CVals.own ho hw.2 h3⟩
end

theorem fps_nodup{κ:Ctx}{G:Gh}{st:St}{a:Act}{w:World}(h:RG κ G st a w):∀ (cs:List Nat),cs.Nodup→(∀ c∈cs,(st.o c).isSome=true)→(fps G.fp cs).Nodup
 | [],_,_=>List.nodup_nil
 | c::cs,hn,hl=>by
  simp only[List.nodup_cons] at hn
  simp only[fps]
  obtain⟨⟨sz,es⟩,he⟩:=Option.isSome_iff_exists.1 (hl c (by simp))
  refine List.nodup_append.2 ⟨(h.objs c sz es he).2.1,fps_nodup h cs hn.2 (fun c' hc'=>hl c' (by simp[hc'])),?_⟩
  intro b hb b' hb' e
  subst e
  obtain⟨c',hc',hb''⟩:=mem_fps.1 hb'
  obtain⟨p',hp'⟩:=Option.isSome_iff_exists.1 (hl c' (by simp[hc']))
  exact h.oo c c' _ p' he hp' (fun e=>hn.1 (e▸hc')) b hb hb''

mutual
theorem CV.names_live{ob:Nat→Option (Nat×List PV)}:∀ x:CV,x.whole ob=true→∀ c∈x.names,(ob c).isSome=true
 | .pv _,_=>by simp[CV.names]
 | .own c,h=>by simpa[CV.names,CV.whole] using h
 | .node fs,h=>by simpa[CV.names] using CV.namess_live fs (by simpa[CV.whole] using h)
 | .gone _,h=>by simp[CV.whole] at h
theorem CV.namess_live{ob:Nat→Option (Nat×List PV)}:∀ xs:List CV,CV.wholes ob xs=true→∀ c∈CV.namess xs,(ob c).isSome=true
 | [],_=>by simp[CV.namess]
 | x::xs,h=>by
  simp only[CV.wholes,aw] at h
  intro c hc
  simp only[CV.namess,aT] at hc
  rcases hc with hc | hc
  ·exact CV.names_live x h.1 c hc
  ·exact CV.namess_live xs h.2 c hc
end

theorem News.join{N:Nat→Prop}{w:World}{hd1 hd2:Nat→Value}{fp1 fp2:Nat→List Nat}{F1 F2:List Nat}{lo m hi:Nat}{l1 l2:List (Nat×(Nat×List PV))}
 (n1:News N w hd1 fp1 F1 lo m l1) (n2:News N w hd2 fp2 F2 m hi l2) (hdis:∀ b∈F1,b∉F2):
 News N w (fun n=>if n<m then hd1 n else hd2 n) (fun n=>if n<m then fp1 n else fp2 n) (F1++F2) lo hi (l1++l2):=by
 have hle1:=n1.le
 have hle2:=n2.le
 refine⟨?_,?_,?_,by omega,?_⟩
 ·intro n sz es hm
  simp only[aT] at hm ⊢
  rcases hm with hm | hm
  ·obtain⟨g1,g2,g3,g4,g5⟩:=n1.rep n sz es hm
   simp only[g2,if_true]
   exact⟨g1,by omega,g3,g4,fun b hb=>.inl (g5 b hb)⟩
  ·obtain⟨g1,g2,g3,g4,g5⟩:=n2.rep n sz es hm
   have:¬ n<m:=by omega
   simp only[this,if_false]
   exact⟨by omega,g2,g3,g4,fun b hb=>.inr (g5 b hb)⟩
 ·intro n k pn pm h1 h2 hne
  simp only[aT] at h1 h2
  rcases h1 with h1 | h1<;>rcases h2 with h2 | h2
  ·have g1:=(n1.rep n pn.1 pn.2 h1).2.1; have g2:=(n1.rep k pm.1 pm.2 h2).2.1
   simp only[g1,g2,if_true]; exact n1.apart n k pn pm h1 h2 hne
  ·have g1:=(n1.rep n pn.1 pn.2 h1).2.1; have g2:=(n2.rep k pm.1 pm.2 h2).1
   have:¬ k<m:=by omega
   simp only[g1,this,if_true,if_false]
   exact fun b hb hb'=>hdis b ((n1.rep n pn.1 pn.2 h1).2.2.2.2 b hb) ((n2.rep k pm.1 pm.2 h2).2.2.2.2 b hb')
  ·have g1:=(n2.rep n pn.1 pn.2 h1).1; have g2:=(n1.rep k pm.1 pm.2 h2).2.1
   have:¬ n<m:=by omega
   simp only[g2,this,if_true,if_false]
   exact fun b hb hb'=>hdis b ((n1.rep k pm.1 pm.2 h2).2.2.2.2 b hb') ((n2.rep n pn.1 pn.2 h1).2.2.2.2 b hb)
  ·have g1:=(n2.rep n pn.1 pn.2 h1).1; have g2:=(n2.rep k pm.1 pm.2 h2).1
   have e1:¬ n<m:=by omega
   have e2:¬ k<m:=by omega
   simp only[e1,e2,if_false]; exact n2.apart n k pn pm h1 h2 hne
 ·simp only[bG]
  refine List.nodup_append.2 ⟨n1.once,n2.once,?_⟩
  intro a ha b hb e
  subst e
  obtain⟨⟨_,q1⟩,h1,rfl⟩:=List.mem_map.1 ha
  obtain⟨⟨k,q2⟩,h2,e⟩:=List.mem_map.1 hb
  have g1:=(n1.rep _ q1.1 q1.2 h1).2.1
  have g2:=(n2.rep k q2.1 q2.2 h2).1
  simp only at e; omega
 ·intro n h1 h2
  simp only[bG,aT]
  by_cases hlt:n<m
  ·exact .inl (n1.all n h1 hlt)
  ·exact .inr (n2.all n (by omega) h2)

theorem explode_isAgg(p:PV)(c:Nat):(explode p c).1.isAgg=(CV.pv p).isAgg:=by
 cases p with
 | sl o sz es=>cases o<;>rfl
 | agg fs=>simp only[explode]; split<;>rfl
 | _=>rfl

theorem cval_of_cells{N:Nat→Prop}{w w0:World}{hd:Nat→Value}{N0:Nat→Prop}{x:CV}{p:PV}{v:Value}{F:List Nat}(hp:RepV N0 w0 p v F)(ha:x.isAgg=(CV.pv p).isAgg)(h:RepCV N w hd x v.cells.toList):CVal N w hd x v:=by
 cases p with
 | agg fs=>
  obtain⟨cs,rfl,_⟩:=hp
  exact .inl ⟨by rw[ha]; rfl,cs,rfl,by simpa[Value.cells] using h⟩
 | tup ps=>simp[RepV,RepC] at hp
 | _=>
  have h1:=RepC.one _ _ _ (by simpa only[RepV] using hp) v (by simp)
  refine .inr ⟨by rw[ha]; rfl,?_,h1⟩
  cases v<;>first | (simp[Value.oneCell'] at h1; done) | exact h

theorem explodeV_ok{N:Nat→Prop}{w:World}{p:PV}{v:Value}{F:List Nat}{c:Nat}(h:RepV N w p v F)(hn:F.Nodup):
 ∃ hdv fpv,News N w hdv fpv F c (explode p c).2.2 (explode p c).2.1∧∀ (N':Nat→Prop) (hd:Nat→Value),(∀ b,N b→N' b)→(∀ n,c≤n→n<(explode p c).2.2→hd n=hdv n)→CVal N' w hd (explode p c).1 v:=by
 obtain⟨hdv,fpv,h1,h2⟩:=explode_ok p _ F c h.cells hn
 exact⟨hdv,fpv,h1,fun N' hd hN hh=>cval_of_cells h (explode_isAgg p c) (RepCV.frame hN (fun _ _=>rfl) _ _ (fun _ _=>rfl) (h2 hd hh))⟩

theorem explodesV_ok{N:Nat→Prop}{w:World}:∀ (ps:List PV) (vs:List Value) (F:List Nat) (c:Nat),RepVs N w ps vs F→F.Nodup→
 ∃ hdv fpv,News N w hdv fpv F c (explodes ps c).2.2 (explodes ps c).2.1∧∀ (N':Nat→Prop) (hd:Nat→Value),(∀ b,N b→N' b)→(∀ n,c≤n→n<(explodes ps c).2.2→hd n=hdv n)→CVals N' w hd (explodes ps c).1 vs
 | [],vs,F,c,h,_=>by
  simp only[RepVs] at h
  obtain⟨rfl,rfl⟩:=h
  exact⟨fun _=>undef,fun _=>[],⟨by simp[explodes],by simp[explodes],by simp[explodes],by simp[explodes],fun n h1 h2=>absurd h2 (by simp[explodes]; omega)⟩,fun N' hd _ _=>by simp[explodes,CVals]⟩
 | p::ps,vs,F,c,h,hn=>by
  simp only[RepVs] at h
  obtain⟨v,vs',F1,F2,rfl,rfl,h3,h4⟩:=h
  have hn1:F1.Nodup:=(List.nodup_append.1 hn).1
  have hn2:F2.Nodup:=(List.nodup_append.1 hn).2.1
  have hdis:∀ b∈F1,b∉F2:=fun b hb hb'=>(List.nodup_append.1 hn).2.2 b hb b hb' rfl
  obtain⟨hd1,fp1,n1,r1⟩:=explodeV_ok (c:=c) h3 hn1
  obtain⟨hd2,fp2,n2,r2⟩:=explodesV_ok ps vs' F2 (explode p c).2.2 h4 hn2
  have hle1:=n1.le
  have hle2:=n2.le
  refine⟨_,_,News.join n1 n2 hdis,fun N' hd hN hh=>?_⟩
  simp only[explodes,CVals] at hh ⊢
  refine⟨v,vs',rfl,r1 N' hd hN (fun n h1 h2=>?_),r2 N' hd hN (fun n h1 h2=>?_)⟩
  ·rw[hh n h1 (by omega)]; simp[h2]
  ·rw[hh n (by omega) h2]; have:¬ n<(explode p c).2.2:=by omega
   simp[this]

/-- The slot that gets a result; the objects that come with it. -/
def resSV(res:PV)(c:Nat):SlotV:=
 match res with
 | .tup ps=>.tup (explodes ps c).1
 | p=>.val (explode p c).1
def resObjs(res:PV)(c:Nat):List (Nat×(Nat×List PV)):=
 match res with
 | .tup ps=>(explodes ps c).2.1
 | p=>(explode p c).2.1

theorem resSV_notBox(res:PV)(c:Nat):isBox (resSV res c)=false:=by cases res<;>rfl

theorem R.res{κ:Ctx}{G:Gh}{st:St}{a:Act}{w w':World}{d c:Nat}{v:Value}{res:PV}{F D:List Nat}{N':Nat→Prop}(h:RG κ G st a w)(hd:d<κ.nt)(hD:∀ c∈D,(st.o c).isSome=true)(hb:KeepX (fps G.fp D) w.heap.size w w')
 (hF:∀ b∈F,(w.heap.size≤b∨b∈fps G.fp D)∧b<w'.heap.size) (hn:F.Nodup) (hN':∀ b,N' b→Nof κ st G w b∨((w.heap.size≤b∨b∈fps G.fp D)∧b<w'.heap.size∧b∉F)) (hr:RepR N' w' res v F)
 (hfresh:∀ n∈(resObjs res c).map (·.1),st.noC n):
 R κ { s:=upd st.s d (resSV res c),o:=updAll st.o (deadObjs D++newObjs (resObjs res c)) } (a.put (some d) v) w':=by
 by_cases ht:∃ ps,res=.tup ps
 ·obtain⟨ps,rfl⟩:=ht
  obtain⟨vs,rfl,h2⟩:=hr
  obtain⟨hdv,fpv,n1,r1⟩:=explodesV_ok ps vs F c h2 hn
  exact R.newRes h hd hD hb hF hN' n1 hfresh rfl (fun N G' hN hh=>⟨vs,rfl,r1 N G'.hd hN hh⟩)
 ·have hv:RepV N' w' res v F:=by
   cases res with
   | tup ps=>exact absurd ⟨ps,rfl⟩ ht
   | _=>exact hr
  obtain⟨hdv,fpv,n1,r1⟩:=explodeV_ok (c:=c) hv hn
  have e1:resSV res c=.val (explode res c).1:=by
   cases res with
   | tup ps=>exact absurd ⟨ps,rfl⟩ ht
   | _=>rfl
  have e2:resObjs res c=(explode res c).2.1:=by
   cases res with
   | tup ps=>exact absurd ⟨ps,rfl⟩ ht
   | _=>rfl
  rw[e1,e2]
  rw[e2] at hfresh
  exact R.newRes h hd hD hb hF hN' n1 hfresh rfl (fun N G' hN hh=>r1 N G'.hd hN hh)

theorem RepR.noView{N N':Nat→Prop}{w:World}{p:PV}{v:Value}{F:List Nat}(hp:p.noView=true)(h:RepR N w p v F):RepR N' w p v F:=by
 cases p with
 | tup ps=>
  obtain⟨vs,h1,h2⟩:=h
  refine⟨vs,h1,?_⟩
  have hps:PV.noViews ps=true:=by simpa[PV.noView] using hp
  clear hp h1
  induction ps generalizing vs F with
  | nil=>simpa only[RepVs] using h2
  | cons q qs ih=>
   simp only[PV.noViews,aw] at hps
   simp only[RepVs] at h2 ⊢
   obtain⟨u,us,F1,F2,e1,e2,h3,h4⟩:=h2
   exact⟨u,us,F1,F2,e1,e2,RepV.noView hps.1 h3,ih us h4 hps.2⟩
 | agg fs=>exact RepV.noView (N:=N) hp h
 | lit u=>exact RepV.noView (N:=N) (N':=N') (w:=w) hp h
 | sl o sz es=>exact RepV.noView (N:=N) (N':=N') (w:=w) hp h
 | clo f cs=>exact RepV.noView (N:=N) (N':=N') (w:=w) hp h
 | ptr u=>exact RepV.noView (N:=N) (N':=N') (w:=w) hp h
 | mpv ks vs ck=>exact RepV.noView (N:=N) (N':=N') (w:=w) hp h

/-! ### Arguments -/
def argCV:SlotV→CV
 | .val x=>x
 | _=>.gone 0

def argCVs(P:Program)(st:St):List Operand→List TypeId→List CV
 | [],_=>[]
 | x::xs,ts=>argCV (ev P st (ts.headD 0) x)::argCVs P st xs (ts.tail)

theorem args_ok{κ:Ctx}{G:Gh}{st st':St}{a:Act}{w:World}{P:Program}(h:RG κ G st' a w):∀ (xs:List Operand) (ts:List TypeId),(∀ k∈xs.flatMap rd,st'.s k=st.s k)→
 CV.wholes st'.o (argCVs P st xs ts)=true→CVals (Nof κ st' G w) w G.hd (argCVs P st xs ts) (xs.map a.eval)
 | [],_,_,_=>by simp[argCVs,CVals]
 | x::xs,ts,hs,hw=>by
  simp only[argCVs,CV.wholes,aw] at hw
  simp only[argCVs,aF,CVals]
  refine⟨_,_,rfl,?_,args_ok h xs _ (fun k hk=>hs k (by simp only[List.flatMap_cons,aT]; exact .inr hk)) hw.2⟩
  have h1:=ev_ok (P:=P) (T:=ts.headD 0) h x 0
  rw[ev_congr (st:=st) (fun k hk=>hs k (by simp only[List.flatMap_cons,aT]; exact .inl hk))] at h1
  have h2:=hw.1
  cases he:ev P st (ts.headD 0) x with
  | val c=>rw[he] at h1; exact h1
  | _=>rw[he] at h2; simp[argCV,CV.whole] at h2

theorem cvals_view{N N':Nat→Prop}{w:World}{hd:Nat→Value}{ob:Nat→Option (Nat×List PV)}{fp:Nat→List Nat}(hN:∀ b,N b→N' b)
 (ho:∀ c sz es,ob c=some (sz,es)→RepC N w (.sl true sz es) [hd c] (fp c)∧∀ b∈fp c,N' b):∀ (xs:List CV) (vs:List Value),CV.wholes ob xs=true→CVals N w hd xs vs→RepVs N' w (CV.pvws ob xs) vs []
 | [],vs,_,h=>by simp only[CVals] at h; simp[CV.pvws,RepVs,h]
 | x::xs,vs,hw,h=>by
  simp only[CV.wholes,aw] at hw
  simp only[CVals] at h
  obtain⟨v,vs',h1,h2,h3⟩:=h
  simp only[CV.pvws,RepVs]
  exact⟨v,vs',[],[],h1,rfl,CVal.view hN ho hw.1 h2,cvals_view hN ho xs vs' hw.2 h3⟩
theorem cvals_pureView{N:Nat→Prop}{w:World}{hd:Nat→Value}{ob:Nat→Option (Nat×List PV)}:∀ (xs:List CV) (vs:List Value),CV.pures xs=true→CVals N w hd xs vs→RepVs N w (CV.pvws ob xs) vs []
 | [],vs,_,h=>by simp only[CVals] at h; simp[CV.pvws,RepVs,h]
 | x::xs,vs,hw,h=>by
  simp only[CV.pures,aw] at hw
  simp only[CVals] at h
  obtain⟨v,vs',h1,h2,h3⟩:=h
  simp only[CV.pvws,RepVs]
  exact⟨v,vs',[],[],h1,rfl,CVal.pureView hw.1 h2,cvals_pureView xs vs' hw.2 h3⟩

theorem RepVs.append{N:Nat→Prop}{w:World}:∀ (ps qs:List PV) (v1 v2:List Value) (F1 F2:List Nat),RepVs N w ps v1 F1→RepVs N w qs v2 F2→RepVs N w (ps++qs) (v1++v2) (F1++F2)
 | [],qs,v1,v2,F1,F2,h1,h2=>by simp only[RepVs] at h1; simpa[h1.1,h1.2] using h2
 | p::ps,qs,v1,v2,F1,F2,h1,h2=>by
  simp only[RepVs] at h1
  obtain⟨u,us,G1,G2,e1,e2,e3,e4⟩:=h1
  subst e1; subst e2
  have:=RepVs.append ps qs us v2 G2 F2 e4 h2
  simp only[List.cons_append,RepVs]
  exact⟨u,us++v2,G1,G2++F2,by simp,by simp,e3,this⟩

theorem RepVs.of_caps{N:Nat→Prop}{w:World}:∀ (ps:List PV) (vs:List Value) (F:List Nat),(∀ p∈ps,PV.size p=1∧(CV.pv p).isAgg=false)→RepCs N w ps vs F→RepVs N w ps vs F
 | [],vs,F,_,h=>by simpa only[RepCs,RepVs] using h
 | p::ps,vs,F,hp,h=>by
  simp only[RepCs] at h
  obtain⟨c1,c2,F1,F2,e1,e2,e3,e4⟩:=h
  have hl:=RepC.length _ _ _ e3
  rw[(hp p (by simp)).1] at hl
  obtain⟨v,rfl⟩:=List.length_eq_one_iff.1 hl
  simp only[RepVs]
  exact⟨v,c2,F1,F2,e1,e2,repV_of_cells (hp p (by simp)).2 (.inr ⟨rfl,e3⟩),RepVs.of_caps ps c2 F2 (fun q hq=>hp q (by simp[hq])) e4⟩

mutual
theorem CV.pure_names:∀ x:CV,x.pure=true→x.names=[]
 | .pv _,_=>rfl
 | .own _,h=>by simp[CV.pure] at h
 | .node fs,h=>by simp only[CV.names]; exact CV.pures_names fs (by simpa[CV.pure] using h)
 | .gone _,h=>by simp[CV.pure] at h
theorem CV.pures_names:∀ xs:List CV,CV.pures xs=true→CV.namess xs=[]
 | [],_=>rfl
 | x::xs,h=>by simp only[CV.pures,aw] at h; simp[CV.namess,CV.pure_names x h.1,CV.pures_names xs h.2]
end
section
variable{N N':Nat→Prop}{w:World}{hd:Nat→Value}{ob:Nat→Option (Nat×List PV)}{fp:Nat→List Nat}
mutual
theorem RepCV.viewN(hN:∀ b,N b→N' b):
 ∀ (x:CV) (cs:List Value),(∀ c sz es,c∈x.names→ob c=some (sz,es)→RepC N w (.sl true sz es) [hd c] (fp c)∧∀ b∈fp c,N' b)→x.whole ob=true→RepCV N w hd x cs→RepC N' w (x.pvw ob) cs []
 | .pv v,cs,_,_,h=>by simp only[RepCV] at h; exact RepC.demote hN v cs [] (by simp) h
 | .own c,cs,ho,hw,h=>by
  simp only[CV.whole] at hw
  obtain⟨⟨sz,es⟩,he⟩:=Option.isSome_iff_exists.1 hw
  simp only[RepCV] at h
  rw[h.1]
  simp only[CV.pvw,he]
  have h2:=ho c sz es (by simp[CV.names]) he
  have:=RepC.demote hN _ _ _ h2.2 h2.1
  simpa only[PV.view] using this
 | .node fs,cs,ho,hw,h=>by
  simp only[RepCV] at h
  simp only[CV.pvw,RepC]
  exact RepCVs.viewN hN fs cs (fun c sz es hc=>ho c sz es (by simpa[CV.names] using hc)) (by simpa[CV.whole] using hw) h
 | .gone n,cs,_,hw,h=>by simp[CV.whole] at hw
theorem RepCVs.viewN(hN:∀ b,N b→N' b):
 ∀ (xs:List CV) (cs:List Value),(∀ c sz es,c∈CV.namess xs→ob c=some (sz,es)→RepC N w (.sl true sz es) [hd c] (fp c)∧∀ b∈fp c,N' b)→CV.wholes ob xs=true→RepCVs N w hd xs cs→RepCs N' w (CV.pvws ob xs) cs []
 | [],cs,_,_,h=>by simp only[RepCVs] at h; simp[CV.pvws,RepCs,h]
 | x::xs,cs,ho,hw,h=>by
  simp only[CV.wholes,aw] at hw
  simp only[RepCVs] at h
  obtain⟨c1,c2,h1,h2,h3⟩:=h
  simp only[CV.pvws,RepCs]
  exact⟨c1,c2,[],[],h1,rfl,RepCV.viewN hN x c1 (fun c sz es hc=>ho c sz es (by simp[CV.namess,hc])) hw.1 h2,RepCVs.viewN hN xs c2 (fun c sz es hc=>ho c sz es (by simp[CV.namess,hc])) hw.2 h3⟩
end
theorem CVal.viewN(hN:∀ b,N b→N' b){x:CV}{v:Value}(ho:∀ c sz es,c∈x.names→ob c=some (sz,es)→RepC N w (.sl true sz es) [hd c] (fp c)∧∀ b∈fp c,N' b)(hx:x.whole ob=true)
 (h:CVal N w hd x v):RepV N' w (x.pvw ob) v []:=by
 refine repV_of_cells (CV.isAgg_pvw hx) ?_
 rcases h with⟨h1,cs,h2,h3⟩ | ⟨h1,h2,_⟩
 ·exact .inl ⟨h1,cs,h2,RepCV.viewN hN x cs ho hx h3⟩
 ·exact .inr ⟨h1,RepCV.viewN hN x _ ho hx h2⟩
end

/-! ### Which arguments are handed over -/
def mix:List Bool→List PV→List PV→List PV
 | ms,v::vs,o::os=>(if ms.headD false then o else v)::mix ms.tail vs os
 | _,_,_=>[]
def mixNames:List Bool→List CV→List Nat
 | ms,x::xs=>(if ms.headD false then x.names else [])++mixNames ms.tail xs
 | _,[]=>[]
def viewNames:List Bool→List CV→List Nat
 | ms,x::xs=>(if ms.headD false then [] else x.names)++viewNames ms.tail xs
 | _,[]=>[]
def mixPure:List Bool→List CV→Bool
 | ms,x::xs=>(ms.headD false||x.pure)&&mixPure ms.tail xs
 | _,[]=>true

theorem mixNames_live{ob:Nat→Option (Nat×List PV)}:∀ (ms:List Bool) (xs:List CV),CV.wholes ob xs=true→∀ c∈mixNames ms xs,(ob c).isSome=true
 | _,[],_=>by simp[mixNames]
 | ms,x::xs,h=>by
  simp only[CV.wholes,aw] at h
  intro c hc
  simp only[mixNames,aT] at hc
  rcases hc with hc | hc
  ·split at hc
   ·exact CV.names_live x h.1 c hc
   ·cases hc
  ·exact mixNames_live ms.tail xs h.2 c hc

theorem mix_ok{N N':Nat→Prop}{w:World}{hd:Nat→Value}{ob:Nat→Option (Nat×List PV)}{fp:Nat→List Nat}(hN:∀ b,N b→N' b)(ho:∀ c sz es,ob c=some (sz,es)→RepC N w (.sl true sz es) [hd c] (fp c)):
 ∀ (ms:List Bool) (xs:List CV) (vs:List Value),CV.wholes ob xs=true→(∀ c∈viewNames ms xs,∀ b∈fp c,N' b)→CVals N w hd xs vs→RepVs N' w (mix ms (CV.pvws ob xs) (CV.pvos ob xs)) vs (fps fp (mixNames ms xs))
 | _,[],vs,_,_,h=>by simp only[CVals] at h; simp[CV.pvws,CV.pvos,mix,RepVs,h,mixNames,fps]
 | ms,x::xs,vs,hw,hv,h=>by
  simp only[CV.wholes,aw] at hw
  simp only[CVals] at h
  obtain⟨v,vs',h1,h2,h3⟩:=h
  simp only[CV.pvws,CV.pvos,mix,RepVs,mixNames,fps_append]
  refine⟨v,vs',_,_,h1,rfl,?_,mix_ok hN ho ms.tail xs vs' hw.2 (fun c hc=>hv c (by simp only[viewNames,aT]; exact .inr hc)) h3⟩
  cases hm:ms.headD false with
  | true=>
   simp only[if_true]
   exact RepV.frame hN (fun _ _=>rfl) (fun _ _=>rfl) (CVal.own ho hw.1 h2)
  | false=>
   simp only[Bool.false_eq_true,if_false,fps]
   have ho':∀ c sz es,c∈x.names→ob c=some (sz,es)→RepC N w (.sl true sz es) [hd c] (fp c)∧∀ b∈fp c,N' b:=fun c sz es hcn hc=>⟨ho c sz es hc,hv c (by simp only[viewNames,hm,Bool.false_eq_true,if_false,aT]; exact .inl hcn)⟩
   exact CVal.viewN hN ho' hw.1 h2

/-- A call of a function, or of a closure: by its contract. -/
theorem valid_call{P:Program}{nt:Nat}{o:Oper}{st:St}{dst:Option Nat}{c:Nat}{g:Operand}{args:Array Operand}{tys:Array TypeId}{f:FuncId}{caps:List PV}{T1:TypeId}{res:PV}{ms:List Bool}{xs:List CV}
 (hop:o.op=.call { callee:=.value g,args:=args,argTypes:=tys }) (hdst:o.dst=dst) (hd:∀ d,dst=some d→d<nt) (hds:mixNames ms xs=[]∨dst.isSome=true)
 (hg:ev P st T1 g=.val (.pv (.clo f caps))) (hcaps:∀ p∈caps,PV.size p=1∧(CV.pv p).isAgg=false) (hxs:argCVs P st args.toList tys.toList=xs) (hw:CV.wholes st.o xs=true)
 (hmn:(mixNames ms xs).Nodup) (halias:mixPure ms xs=true∨(res.noView=true∧∀ n∈viewNames ms xs,n∉mixNames ms xs))
 (hsat:Sat P f (mix ms (CV.pvws st.o xs) (CV.pvos st.o xs)++caps) res):
 Valid P nt o st { rs:=rd g++args.toList.flatMap rd,ro:=CV.namess xs,fc:=(resObjs res c).map (·.1),us:=(dst.toList.map fun d=>(d,resSV res c)),uo:=(dst.toList.flatMap fun _=>deadObjs (mixNames ms xs)++newObjs (resObjs res c)) }:=by
 intro κ st' a w hnt hsame hfresh hR next Q hnext
 obtain⟨G,hG⟩:=hR
 obtain⟨hci,hcalls⟩:=hsat
 have hob:∀ (xs:List CV),(∀ n∈CV.namess xs,st'.o n=st.o n)→CV.wholes st'.o xs=CV.wholes st.o xs∧CV.pvws st'.o xs=CV.pvws st.o xs∧CV.pvos st'.o xs=CV.pvos st.o xs:=by
  intro xs hx
  have key:∀ x:CV,(∀ n∈x.names,st'.o n=st.o n)→x.whole st'.o=x.whole st.o∧x.pvw st'.o=x.pvw st.o∧x.pvo st'.o=x.pvo st.o:=by
   intro x
   refine CV.rec (motive_1:=fun x=>(∀ n∈x.names,st'.o n=st.o n)→x.whole st'.o=x.whole st.o∧x.pvw st'.o=x.pvw st.o∧x.pvo st'.o=x.pvo st.o)
    (motive_2:=fun xs=>(∀ n∈CV.namess xs,st'.o n=st.o n)→CV.wholes st'.o xs=CV.wholes st.o xs∧CV.pvws st'.o xs=CV.pvws st.o xs∧CV.pvos st'.o xs=CV.pvos st.o xs) ?_ ?_ ?_ ?_ ?_ ?_ x
   ·intro v _; exact⟨rfl,rfl,rfl⟩
   ·intro n h; have:=h n (by simp[CV.names]); exact⟨by simp[CV.whole,this],by simp[CV.pvw,this],by simp[CV.pvo,this]⟩
   ·intro fs ih h; have:=ih (by simpa[CV.names] using h); exact⟨by simpa[CV.whole] using this.1,by simp[CV.pvw,this.2.1],by simp[CV.pvo,this.2.2]⟩
   ·intro n _; exact⟨rfl,rfl,rfl⟩
   ·intro _; exact⟨rfl,rfl,rfl⟩
   ·intro y ys i1 i2 h
    have h1:=i1 (fun n hn=>h n (by simp[CV.namess,hn]))
    have h2:=i2 (fun n hn=>h n (by simp[CV.namess,hn]))
    exact⟨by simp[CV.wholes,h1.1,h2.1],by simp[CV.pvws,h1.2.1,h2.2.1],by simp[CV.pvos,h1.2.2,h2.2.2]⟩
  induction xs with
  | nil=>exact⟨rfl,rfl,rfl⟩
  | cons y ys ih=>
   have h1:=key y (fun n hn=>hx n (by simp[CV.namess,hn]))
   have h2:=ih (fun n hn=>hx n (by simp[CV.namess,hn]))
   exact⟨by simp[CV.wholes,h1.1,h2.1],by simp[CV.pvws,h1.2.1,h2.2.1],by simp[CV.pvos,h1.2.2,h2.2.2]⟩
 obtain⟨hw',hv',ho'⟩:=hob xs hsame.2
 have hwx:CV.wholes st'.o xs=true:=by rw[hw']; exact hw
 have hcv:=args_ok (P:=P) (st:=st) hG args.toList tys.toList (fun k hk=>hsame.1 k (by simp only[aT]; exact .inr hk)) (by rw[hxs]; exact hwx)
 rw[hxs] at hcv
 have hgv:=ev_ok (P:=P) (T:=T1) hG g 0
 rw[ev_congr (fun k hk=>hsame.1 k (by simp[hk])),hg] at hgv
 rcases hgv with⟨hgv,_⟩ | ⟨_,hgv,_⟩
 ·simp[CV.isAgg] at hgv
 simp only[RepCV,RepC] at hgv
 obtain⟨vals,hg1,_,hg3,_⟩:=hgv
 simp at hg1
 have hrun:(execOp a.eval o).run P w=.ok (.enter f (args.map a.eval++vals.toArray)) w:=by
  simp[execOp,hop,resolve,hg1,Deferred.ofValue,invoke,run_callFunc hci]
 have harr:(args.map a.eval++vals.toArray)=(args.toList.map a.eval++vals).toArray:=by
  apply Array.ext'; simp
 have hlive:∀ c∈mixNames ms xs,(st'.o c).isSome=true:=mixNames_live ms xs hwx
 have hobj:∀ c sz es,st'.o c=some (sz,es)→RepC (Nof κ st' G w) w (.sl true sz es) [G.hd c] (G.fp c):=fun c sz es hc=>(hG.objs c sz es hc).1
 have hXlt:∀ b∈fps G.fp (mixNames ms xs),b<w.heap.size:=by
  intro b hb
  obtain⟨c,hc,hm⟩:=mem_fps.1 hb
  obtain⟨p,hp⟩:=Option.isSome_iff_exists.1 (hlive c hc)
  exact((hG.objs c p.1 p.2 hp).2.2 b hm).2
 have hXn:(fps G.fp (mixNames ms xs)).Nodup:=fps_nodup hG _ hmn hlive
 have hNX:∀ b,Nof κ st' G w b→b∉fps G.fp (mixNames ms xs):=by
  intro b hb hm
  obtain⟨c,hc,hm⟩:=mem_fps.1 hm
  obtain⟨p,hp⟩:=Option.isSome_iff_exists.1 (hlive c hc)
  exact hb.2 (.inr ⟨c,p,hp,hm⟩)
 unfold Oper.wp
 rw[hrun]
 simp only[Oper.upon]
 have finish:∀ (v:Value) (F:List Nat) (w'':World) (N':Nat→Prop),KeepX (fps G.fp (mixNames ms xs)) w.heap.size w w''→(∀ b,N' b→Nof κ st' G w b∨((w.heap.size≤b∨b∈fps G.fp (mixNames ms xs))∧b<w''.heap.size∧b∉F))→RepR N' w'' res v F→F.Nodup→
  (∀ b∈F,(w.heap.size≤b∨b∈fps G.fp (mixNames ms xs))∧b<w''.heap.size)→next (a.put o.dst v) w'':=by
  intro v F w'' N' hb hN' hr hn hF
  rw[hdst]
  refine hnext _ _ ?_
  cases hdd:dst with
  | some d=>
   have:=R.res (c:=c) hG (by rw[hnt]; exact hd d hdd) hlive hb hF hn hN' hr (fun n hn'=>hfresh.2 n (by simpa using hn'))
   subst hdd
   simpa[St.app,updAll] using this
  | none=>
   have hnil:mixNames ms xs=[]:=by
    rcases hds with h | h
    ·exact h
    ·rw[hdd] at h; cases h
   rw[hnil] at hb
   refine⟨G,?_⟩
   simp only[St.app,updAll,Option.toList_none,List.map_nil,act_put_none,List.flatMap_nil]
   have hlt:∀ b,Nof κ st' G w b→b<w.heap.size:=fun b hb'=>hb'.lt hG
   have hw:∀ b,b<w.heap.size→w''.heap[b]?=w.heap[b]?:=fun b hb'=>hb.block b hb' (by simp[fps])
   have hN:∀ b,Nof κ st' G w b→Nof κ st' G w'' b:=fun b hb'=>⟨by
    rcases hb'.1 with h1 | h1
    ·exact .inl h1
    ·exact .inr ⟨h1.1,Nat.lt_of_lt_of_le h1.2 hb.size⟩,hb'.2⟩
   have hbs:=hG.keep.size
   exact⟨hG.keep.trans ⟨hb.os,hb.tape,hb.output,hb.size,fun k hk _=>hw k (by omega),hb.drawn⟩,hG.defers,hG.nt,
    fun k=>(hG.slots k).frame hN (fun b hb'=>hw b (hlt b hb')) (fun _ _=>rfl) (fun _ _=>rfl) (fun hx=>⟨rfl,hw _ (hG.boxes k hx).2⟩),
    fun c sz es hc=>by
     obtain⟨g1,g2,g3⟩:=hG.objs c sz es hc
     exact⟨RepC.frame hN (fun b hb'=>hw b (hlt b hb')) _ _ _ (fun b hb'=>hw b (g3 b hb').2) g1,g2,fun b hb'=>⟨(g3 b hb').1,Nat.lt_of_lt_of_le (g3 b hb').2 hb.size⟩⟩,
    fun r hr=>⟨(hG.boxes r hr).1,Nat.lt_of_lt_of_le (hG.boxes r hr).2 hb.size⟩,hG.bb,hG.bo,hG.oo,hG.held⟩
 rcases halias with hpure | ⟨hnv,hvn⟩
 ·have hvw:viewNames ms xs=[]:=by
   clear hcv hw' hv' ho' hwx hw hmn hds hxs hcalls hlive hXlt hXn hNX finish hsame hnext hfresh
   induction xs generalizing ms with
   | nil=>rfl
   | cons x xs ih=>
    simp only[mixPure,aw] at hpure
    simp only[viewNames,ih hpure.2,bj]
    cases hm:ms.headD false with
    | true=>simp
    | false=>
     rw[hm] at hpure
     simp only[Bool.false_or] at hpure
     simp only[Bool.false_eq_true,if_false]
     exact CV.pure_names x hpure.1
  have hargs:=mix_ok (N':=Nof κ st' G w) (ob:=st'.o) (fp:=G.fp) (fun _ h=>h) hobj ms xs _ hwx (by rw[hvw]; simp) hcv
  rw[hv',ho'] at hargs
  have hall:=RepVs.append _ _ _ _ _ _ hargs (RepVs.of_caps caps vals [] hcaps hg3)
  rw[bj] at hall
  have:=hcalls w (Nof κ st' G w) _ _ (fun b hb=>⟨hb.lt hG,hNX b hb⟩) hXn hXlt hall
  rw[← harr] at this
  refine this.mono ?_
  rintro e w'' ⟨v,F,rfl,hb,hr,hn,hF⟩
  exact finish v F w'' _ hb (fun b hb'=>hb') hr hn hF
 ·have hargs:=mix_ok (N':=fun b=>b<w.heap.size∧b∉fps G.fp (mixNames ms xs)) (ob:=st'.o) (fp:=G.fp) (fun b hb=>⟨hb.lt hG,hNX b hb⟩) hobj ms xs _ hwx (fun c hc b hb=>by
   have hcl:(st'.o c).isSome=true:=by
    have:∀ (ms:List Bool) (ys:List CV),CV.wholes st'.o ys=true→∀ c∈viewNames ms ys,(st'.o c).isSome=true:=by
     intro ms ys
     induction ys generalizing ms with
     | nil=>intro _ c hc; simp[viewNames] at hc
     | cons y ys ih=>
      intro hwy c hc
      simp only[CV.wholes,aw] at hwy
      simp only[viewNames,aT] at hc
      rcases hc with hc | hc
      ·split at hc
       ·cases hc
       ·exact CV.names_live y hwy.1 c hc
      ·exact ih ms.tail hwy.2 c hc
    exact this ms xs hwx c hc
   obtain⟨p,hp⟩:=Option.isSome_iff_exists.1 hcl
   refine⟨((hG.objs c p.1 p.2 hp).2.2 b hb).2,fun hm=>?_⟩
   obtain⟨c',hc',hm'⟩:=mem_fps.1 hm
   obtain⟨p',hp'⟩:=Option.isSome_iff_exists.1 (hlive c' hc')
   exact hG.oo c c' p p' hp hp' (fun e=>hvn c hc (e▸hc')) b hb hm') hcv
  rw[hv',ho'] at hargs
  have hg3':=RepCs.frame (w':=w) (N':=fun b=>b<w.heap.size∧b∉fps G.fp (mixNames ms xs)) (fun b (hb:Nof κ st' G w b)=>⟨hb.lt hG,hNX b hb⟩) (fun _ _=>rfl) caps vals [] (by simp) hg3
  have hall:=RepVs.append _ _ _ _ _ _ hargs (RepVs.of_caps caps vals [] hcaps hg3')
  rw[bj] at hall
  have:=hcalls w _ _ _ (fun b hb=>hb) hXn hXlt hall
  rw[← harr] at this
  refine this.mono ?_
  rintro e w'' ⟨v,F,rfl,hb,hr,hn,hF⟩
  exact finish v F w'' (fun _=>False) hb (fun b hb'=>hb'.elim) (hr.noView hnv) hn hF
end
section

/-- A step that makes something of its own: the result comes in as a call's would. -/
theorem valid_res{P:Program}{nt:Nat}{o:Oper}{st:St}{d c:Nat}{res:PV}{D rs ro:List Nat}(hdst:o.dst=some d)(hd:d<nt)(hD:∀ n∈D,(st.o n).isSome=true)(hDro:∀ n∈D,n∈ro)
 (H:∀ κ G st' a w,κ.nt=nt→Rec.same { rs:=rs,ro:=ro } st st'→RG κ G st' a w→
  ∃ v w' F,(execOp a.eval o).run P w=.ok (.value v) w'∧KeepX (fps G.fp D) w.heap.size w w'∧(∀ b∈F,(w.heap.size≤b∨b∈fps G.fp D)∧b<w'.heap.size)∧F.Nodup∧RepR (Nof κ st' G w) w' res v F):
 Valid P nt o st { rs:=rs,ro:=ro,fc:=(resObjs res c).map (·.1),us:=[(d,resSV res c)],uo:=deadObjs D++newObjs (resObjs res c) }:=by
 intro κ st' a w hnt hsame hfresh hR next Q hnext
 obtain⟨G,hG⟩:=hR
 obtain⟨v,w',F,hrun,hb,hF,hn,hr⟩:=H κ G st' a w hnt hsame hG
 unfold Oper.wp
 rw[hrun]
 simp only[Oper.upon]
 rw[hdst]
 refine hnext _ _ ?_
 have:=R.res (c:=c) hG (by rw[hnt]; exact hd) (fun n hn'=>by rw[hsame.2 n (hDro n hn')]; exact hD n hn') hb hF hn (fun b hb'=>.inl hb') hr (fun n hn'=>hfresh.2 n hn')
 simpa[St.app,updAll] using this

theorem flatMap_cells_length{sz:Nat}:∀ {vs:List Value},(∀ v∈vs,v.cells.size=sz)→(vs.flatMap fun v=>v.cells.toList).length=vs.length*sz
 | [],_=>by simp
 | v::vs,h=>by
  simp only[List.flatMap_cons,aV,List.length_cons]
  rw[flatMap_cells_length (fun u hu=>h u (by simp[hu]))]
  have:=h v (by simp)
  simp[this,Nat.add_mul,Nat.add_comm]

theorem cvals_cells{N:Nat→Prop}{w:World}{hd:Nat→Value}{ob:Nat→Option (Nat×List PV)}{fp:Nat→List Nat}(ho:∀ c sz es,ob c=some (sz,es)→RepC N w (.sl true sz es) [hd c] (fp c)):
 ∀ (xs:List CV) (vs:List Value),CV.wholes ob xs=true→CVals N w hd xs vs→RepCs N w (CV.pvos ob xs) (vs.flatMap fun v=>v.cells.toList) (fps fp (CV.namess xs))
 | [],vs,_,h=>by simp only[CVals] at h; simp[h,CV.pvos,RepCs,CV.namess,fps]
 | x::xs,vs,hw,h=>by
  simp only[CV.wholes,aw] at hw
  simp only[CVals] at h
  obtain⟨v,vs',rfl,h2,h3⟩:=h
  simp only[CV.pvos,RepCs,List.flatMap_cons,CV.namess,fps_append]
  exact⟨_,_,_,_,rfl,rfl,(CVal.own ho hw.1 h2).cells,cvals_cells ho xs vs' hw.2 h3⟩

theorem cvals_length{N:Nat→Prop}{w:World}{hd:Nat→Value}:∀ {xs:List CV} {vs:List Value},CVals N w hd xs vs→vs.length=xs.length
 | [],vs,h=>by simp only[CVals] at h; simp[h]
 | x::xs,vs,h=>by simp only[CVals] at h; obtain⟨v,vs',rfl,_,h3⟩:=h; simp[cvals_length h3]
theorem cvals_size{N:Nat→Prop}{w:World}{hd:Nat→Value}:∀ {xs:List CV} {vs:List Value},CVals N w hd xs vs→∀ (i:Nat) (v:Value),vs[i]?=some v→∃ x,xs[i]?=some x∧v.cells.size=x.size
 | [],vs,h,i,v,hv=>by simp only[CVals] at h; simp[h] at hv
 | x::xs,vs,h,i,v,hv=>by
  simp only[CVals] at h
  obtain⟨u,vs',rfl,h2,h3⟩:=h
  cases i with
  | zero=>simp at hv; subst hv; exact⟨x,by simp,by have:=RepCV.length _ _ (cval_cells h2); simpa using this⟩
  | succ i=>obtain⟨y,g1,g2⟩:=cvals_size h3 i v (by simpa using hv); exact⟨y,by simpa using g1,g2⟩

mutual
theorem CV.congr_ob{ob ob':Nat→Option (Nat×List PV)}:∀ x:CV,(∀ n∈x.names,ob' n=ob n)→x.whole ob'=x.whole ob∧x.pvw ob'=x.pvw ob∧x.pvo ob'=x.pvo ob
 | .pv _,_=>⟨rfl,rfl,rfl⟩
 | .own n,h=>by have:=h n (by simp[CV.names]); exact⟨by simp[CV.whole,this],by simp[CV.pvw,this],by simp[CV.pvo,this]⟩
 | .node fs,h=>by have:=CV.congr_obs fs (by simpa[CV.names] using h); exact⟨by simpa[CV.whole] using this.1,by simp[CV.pvw,this.2.1],by simp[CV.pvo,this.2.2]⟩
 | .gone _,_=>⟨rfl,rfl,rfl⟩
theorem CV.congr_obs{ob ob':Nat→Option (Nat×List PV)}:∀ xs:List CV,(∀ n∈CV.namess xs,ob' n=ob n)→CV.wholes ob' xs=CV.wholes ob xs∧CV.pvws ob' xs=CV.pvws ob xs∧CV.pvos ob' xs=CV.pvos ob xs
 | [],_=>⟨rfl,rfl,rfl⟩
 | y::ys,h=>by
  have h1:=CV.congr_ob y (fun n hn=>h n (by simp[CV.namess,hn]))
  have h2:=CV.congr_obs ys (fun n hn=>h n (by simp[CV.namess,hn]))
  exact⟨by simp[CV.wholes,h1.1,h2.1],by simp[CV.pvws,h1.2.1,h2.2.1],by simp[CV.pvos,h1.2.2,h2.2.2]⟩
end

/-- A slice type, its elements' size and their bytes, and that a zero of them is known. -/
def SlIs(P:Program)(T:TypeId)(sz bytes:Nat):Prop:=
 ∃ e i z,P.underlying T=some (.slice e)∧P.info? e=some i∧i.size=sz∧i.bytes=bytes∧i.zero=some z∧z.cells.size=sz∧0<sz

theorem repR_sl{N:Nat→Prop}{w:World}{b:Bool}{sz:Nat}{es:List PV}{v:Value}{F:List Nat}(h:RepC N w (.sl b sz es) [v] F):RepR N w (.sl b sz es) v F:=h

theorem pvos_length{ob:Nat→Option (Nat×List PV)}:∀ xs:List CV,(CV.pvos ob xs).length=xs.length
 | []=>by simp[CV.pvos]
 | x::xs=>by simp[CV.pvos,pvos_length xs]

mutual
theorem CV.size_pvo{ob:Nat→Option (Nat×List PV)}:∀ x:CV,x.whole ob=true→(x.pvo ob).size=x.size
 | .pv v,_=>by simp[CV.pvo,CV.size]
 | .own c,h=>by simp only[CV.whole] at h; obtain⟨⟨sz,es⟩,he⟩:=Option.isSome_iff_exists.1 h; simp[CV.pvo,he,CV.size,PV.size]
 | .node fs,h=>by simp only[CV.pvo,CV.size,PV.size]; exact CV.sizes_pvos fs (by simpa[CV.whole] using h)
 | .gone _,h=>by simp[CV.whole] at h
theorem CV.sizes_pvos{ob:Nat→Option (Nat×List PV)}:∀ xs:List CV,CV.wholes ob xs=true→PV.sizes (CV.pvos ob xs)=CV.sizes xs
 | [],_=>by simp[CV.pvos,CV.sizes,PV.sizes]
 | x::xs,h=>by
  simp only[CV.wholes,aw] at h
  simp[CV.pvos,CV.sizes,PV.sizes,CV.size_pvo x h.1,CV.sizes_pvos xs h.2]
end
theorem pvos_size{ob:Nat→Option (Nat×List PV)}{sz:Nat}:∀ xs:List CV,CV.wholes ob xs=true→(∀ x∈xs,x.size=sz)→∀ p∈CV.pvos ob xs,PV.size p=sz
 | [],_,_=>by simp[CV.pvos]
 | x::xs,h,hs=>by
  simp only[CV.wholes,aw] at h
  intro p hp
  simp only[CV.pvos,List.mem_cons] at hp
  rcases hp with rfl | hp
  ·rw[CV.size_pvo x h.1]; exact hs x (by simp)
  ·exact pvos_size xs h.2 (fun y hy=>hs y (by simp[hy])) p hp

theorem keepX_alloc{L:List Nat}{w:World}{o:Obj}:KeepX L w.heap.size w (w.alloc o):=.of_below ((RowKit.Below.refl _ _).alloc (aM _) _)

theorem frame_alloc{N:Nat→Prop}{w:World}{o:Obj}{ps:List PV}{cs:List Value}{F:List Nat}(hN:∀ b,N b→b<w.heap.size)(hF:∀ b∈F,b<w.heap.size)(h:RepCs N w ps cs F):RepCs N (w.alloc o) ps cs F:=
 RepCs.frame (fun _ h=>h) (fun b hb=>heap_push_lt (hN b hb)) _ _ _ (fun b hb=>heap_push_lt (hF b hb)) h

/-- A new row that holds these elements: the slice over it is one's own. -/
theorem rep_newRow{κ:Ctx}{G:Gh}{st:St}{a:Act}{w:World}{sz cap:Nat}{els:List PV}{ccs cs:List Value}{D:List Nat}{e:TypeId}(hG:RG κ G st a w)(hD:∀ c∈D,(st.o c).isSome=true)(hn:D.Nodup)
 (h:RepCs (Nof κ st G w) w els ccs (fps G.fp D)) (hs:∀ p∈els,PV.size p=sz) (hcs:cs.take (els.length*sz)=ccs) (hl:cs.length=cap*sz) (hcap:els.length≤cap) (hmax:cap≤maxLen):
 RepR (Nof κ st G w) (w.alloc (.cells cs.toArray e)) (.sl true sz els) (.slice (some ⟨w.heap.size,0,none⟩) els.length cap) (w.heap.size::fps G.fp D)∧
  (∀ b∈w.heap.size::fps G.fp D,(w.heap.size≤b∨b∈fps G.fp D)∧b<(w.alloc (.cells cs.toArray e)).heap.size)∧(w.heap.size::fps G.fp D).Nodup:=by
 have hlt:∀ b∈fps G.fp D,b<w.heap.size:=by
  intro b hb
  obtain⟨c,hc,hm⟩:=mem_fps.1 hb
  obtain⟨p,hp⟩:=Option.isSome_iff_exists.1 (hD c hc)
  exact((hG.objs c p.1 p.2 hp).2.2 b hm).2
 refine⟨?_,?_,?_⟩
 ·refine repR_sl ?_
  simp only[RepC]
  refine .inr ⟨w.heap.size,cap,cs.toArray,e,fps G.fp D,ccs,rfl,hcap,hmax,hs,heap_push_eq,by simpa using hl,by simpa using hcs,?_,rfl⟩
  exact frame_alloc (fun b hb=>hb.lt hG) hlt h
 ·intro b hb
  rcases List.mem_cons.1 hb with rfl | hb
  ·exact⟨.inl (aM _),by simp⟩
  ·exact⟨.inr hb,by have:=hlt b hb; simp; omega⟩
 ·rw[List.nodup_cons]
  exact⟨fun hm=>by have:=hlt _ hm; omega,fps_nodup hG D hn hD⟩

def partCVs(P:Program)(st:St)(T:TypeId):List (Nat×Operand)→List CV
 | []=>[]
 | (_,x)::ps=>argCV (ev P st T x)::partCVs P st T ps
theorem partCVs_eq{P:Program}{st:St}{T:TypeId}:∀ ps:List (Nat×Operand),partCVs P st T ps=argCVs P st (ps.map (·.2)) (ps.map fun _=>T)
 | []=>rfl
 | (_,x)::ps=>by simp only[partCVs,aF,argCVs,List.headD_cons,List.tail_cons]; rw[partCVs_eq ps]

def elemOfT(P:Program)(T:TypeId):TypeId:=
 match P.underlying T with
 | some (.slice e)=>e
 | _=>0

theorem valid_buildSlice{P:Program}{nt:Nat}{o:Oper}{st:St}{d c:Nat}{T E:TypeId}{parts:Array (Nat×Operand)}{n sz bytes:Nat}{xs:List CV}(hop:o.op=.buildSlice T n parts)(hdst:o.dst=some d)(hd:d<nt)
 (hT:SlIs P T sz bytes) (hidx:parts.toList.map (·.1)=List.range n) (hxs:partCVs P st E parts.toList=xs) (hw:CV.wholes st.o xs=true) (hs:∀ x∈xs,x.size=sz) (hnd:(CV.namess xs).Nodup) (hsmall:n*sz≤16777216):
 Valid P nt o st { rs:=parts.toList.flatMap (fun p=>rd p.2),ro:=CV.namess xs,fc:=(resObjs (.sl true sz (CV.pvos st.o xs)) c).map (·.1),us:=[(d,resSV (.sl true sz (CV.pvos st.o xs)) c)],uo:=deadObjs (CV.namess xs)++newObjs (resObjs (.sl true sz (CV.pvos st.o xs)) c) }:=by
 refine valid_res hdst hd (CV.namess_live _ hw) (fun _ h=>h) ?_
 intro κ G st' a w hnt hsame hG
 obtain⟨e,i,z,h1,h2,h3,h4,h5,h6,h7⟩:=hT
 have hlen:xs.length=n:=by
  have:parts.toList.length=n:=by have:=congrArg List.length hidx; simpa using this
  rw[← hxs,partCVs_eq]
  have hl:∀ (ys:List Operand) (ts:List TypeId),(argCVs P st ys ts).length=ys.length:=by
   intro ys; induction ys with
   | nil=>intro ts; rfl
   | cons y ys ih=>intro ts; simp[argCVs,ih]
  rw[hl]; simpa using this
 have hob:∀ n∈CV.namess xs,st'.o n=st.o n:=hsame.2
 have hlive:=CV.namess_live _ hw
 have key:=CV.congr_obs xs hob
 have hcv:=args_ok (P:=P) (st:=st) hG (parts.toList.map (·.2)) (parts.toList.map fun _=>E) (fun k hk=>hsame.1 k (by simpa[List.flatMap_map] using hk)) (by rw[← partCVs_eq,hxs,key.1]; exact hw)
 rw[← partCVs_eq,hxs] at hcv
 have hcells:=cvals_cells (ob:=st'.o) (fp:=G.fp) (fun c sz es hc=>(hG.objs c sz es hc).1) xs _ (by rw[key.1]; exact hw) hcv
 rw[key.2.2] at hcells
 have hsz:∀ v∈(parts.toList.map (·.2)).map a.eval,v.cells.size=sz:=by
  intro v hv
  obtain⟨k,hk,rfl⟩:=List.mem_iff_getElem.1 hv
  obtain⟨x,g1,g2⟩:=cvals_size hcv k _ (List.getElem?_eq_getElem hk)
  rw[g2]; exact hs x (List.mem_of_getElem? g1)
 have hvl:((parts.toList.map (·.2)).map a.eval).length=n:=by rw[cvals_length hcv,hlen]
 have hfill:Instr.fill (fun i=>some (i*sz,sz)) ((Array.range (n*sz)).map (z.cells[·% z.cells.size]!)) (parts.map fun (i,x)=>(i,a.eval x)).toList=some (((parts.toList.map (·.2)).map a.eval).flatMap fun v=>v.cells.toList).toArray:=by
  have:=Go.Great.fill_whole h7 ((parts.toList.map (·.2)).map a.eval) ((Array.range (n*sz)).map (z.cells[·% z.cells.size]!)) hsz (by rw[hvl]; simp)
  rw[← this]
  congr 1
  apply List.ext_getElem?
  intro k
  simp only[Array.toList_map,List.getElem?_map,List.getElem?_zipIdx]
  cases hk:parts.toList[k]? with
  | none=>simp
  | some p=>
   have hi:=congrArg (fun l:List Nat=>l[k]?) hidx
   have hkl:k<n:=by
    have:=(List.getElem?_eq_some_iff.1 hk).1
    have h':=congrArg List.length hidx; simp at h' this; omega
   simp[hk,hkl] at hi
   simp[hi]
 have hrun:(execOp a.eval o).run P w=.ok (.value (.slice (some ⟨w.heap.size,0,none⟩) n n)) (w.alloc (.cells (((parts.toList.map (·.2)).map a.eval).flatMap fun v=>v.cells.toList).toArray e)):=by
  have hns:¬ (16777216<n*sz):=by omega
  have hf:∀ zero:Array Value,(n*sz=0∨zero=z.cells)→Instr.fill (fun i=>some (i*sz,sz)) (Array.map (fun x=>zero[x % zero.size]!) (Array.range (n*sz))) (Array.map (fun x=>(x.fst,a.eval x.snd)) parts).toList=
   some (((parts.toList.map (·.2)).map a.eval).flatMap fun v=>v.cells.toList).toArray:=by
   rintro zero (h0 | rfl)
   ·rw[h0] at hfill ⊢
    simp only[Array.range_zero',Array.map_empty] at hfill ⊢
    exact hfill
   ·exact hfill
  by_cases h0:n*sz=0
  ·simp only[execOp,hop,Sem.run_bind,Sem.run_pure,Instr.buildSlice,run_underlying h1,Result.andThen_ok,sizeOf,typeInfo,run_program,h2,h3,Nat.reducePow,gt_iff_lt,hns,if_false,if_pos h0,hf #[] (.inl h0),newRow,run_newObj]
   rfl
  ·simp only[execOp,hop,Sem.run_bind,Sem.run_pure,Instr.buildSlice,run_underlying h1,Result.andThen_ok,sizeOf,typeInfo,run_program,h2,h3,Nat.reducePow,gt_iff_lt,hns,if_false,if_neg h0,zeroValue,h5,hf z.cells (.inr rfl),newRow,run_newObj]
   rfl
 have hD:∀ c∈CV.namess xs,(st'.o c).isSome=true:=fun c hc=>by rw[hob c hc]; exact hlive c hc
 have hpl:(CV.pvos st.o xs).length=n:=by rw[pvos_length,hlen]
 have hcl:=flatMap_cells_length hsz
 rw[hvl] at hcl
 have hmax:n≤maxLen:=by
  have:n≤n*sz:=Nat.le_mul_of_pos_right _ h7
  simp only[maxLen]; omega
 obtain⟨g1,g2,g3⟩:=rep_newRow (cap:=n) (e:=e) hG hD hnd hcells (pvos_size xs hw hs) (cs:=(((parts.toList.map (·.2)).map a.eval).flatMap fun v=>v.cells.toList)) (by rw[hpl]; exact List.take_of_length_le (by rw[hcl]; exact aM _)) hcl (by rw[hpl]; exact aM _) hmax
 rw[hpl] at g1
 exact⟨_,_,_,hrun,keepX_alloc,g2,g3,g1⟩

/-! ### A struct, built -/
def ArrLay(P:Program)(T:TypeId)(zs:List CV):Prop:=∃ m e i,P.underlying T=some (.array m e)∧P.info? e=some i∧zs.length=m∧∀ k,k<zs.length→(zs.getD k default).size=i.size∧CV.sizes (zs.take k)=k*i.size
def LayoutOk(P:Program)(T:TypeId)(zs:List CV):Prop:=
 ArrLay P T zs∨∃ fs:Array Field,P.underlying T=some (.struct fs)∧fs.size=zs.length∧∀ k f,fs[k]?=some f→f.offset=CV.sizes (zs.take k)∧∃ i,P.info? f.type=some i∧i.size=(zs.getD k default).size

theorem run_mapM_pure{P:Program}{w:World}{α β:Type}(g:α→Sem β)(h:α→β):∀ l:List α,(∀ x∈l,(g x).run P w=.ok (h x) w)→(l.mapM g).run P w=.ok (l.map h) w
 | [],_=>by simp
 | x::l,hx=>by
  simp only[List.mapM_cons,Sem.run_bind,hx x (by simp),Result.andThen_ok,run_mapM_pure g h l (fun y hy=>hx y (by simp[hy])),Sem.run_pure,aF]

def setParts:List CV→List (Nat×CV)→List CV
 | zs,[]=>zs
 | zs,(k,c)::ps=>setParts (zs.set k c) ps

theorem splice_get{off:Nat}{l c1 c2 c3:List Value}{cells:Array Value}(hc:cells.toList=c1++c2++c3)(ho:c1.length=off)(hl:c2.length=l.length):
 (l.zipIdx.foldl (fun cs (x:Value×Nat)=>cs.setIfInBounds (off+x.2) x.1) cells).toList=c1++l++c3:=by
 obtain⟨h1,h2⟩:=Go.Great.foldl_set off l 0 cells
 have hsz:cells.size=c1.length+c2.length+c3.length:=by have:=congrArg List.length hc; simpa[Nat.add_assoc] using this
 apply List.ext_getElem?
 intro k
 have h3:=h2 k
 rw[← Array.getElem?_toList,← Array.getElem?_toList] at h3
 rw[h3]
 subst ho
 simp only[Nat.add_zero]
 by_cases hk:c1.length≤k∧k<c1.length+l.length∧k<cells.size
 ·rw[if_pos hk,aS,List.getElem?_append_right hk.1,List.getElem?_append_left (by omega)]
 ·rw[if_neg hk,hc]
  rcases Nat.lt_or_ge k c1.length with h | h
  ·rw[aS,aS,List.getElem?_append_left h,List.getElem?_append_left h]
  ·rw[aS,aS,List.getElem?_append_right h,List.getElem?_append_right h]
   rcases Nat.lt_or_ge k (c1.length+l.length) with h' | h'
   ·exact absurd ⟨h,h',by omega⟩ hk
   ·rw[List.getElem?_append_right (by omega),List.getElem?_append_right (by omega),hl]

theorem fill_ok{N:Nat→Prop}{w:World}{hd:Nat→Value}{place:Nat→Option (Nat×Nat)}:∀ (ps:List (Nat×CV)) (vs:List Value) (zs:List CV) (cells:Array Value),RepCVs N w hd zs cells.toList→CVals N w hd (ps.map (·.2)) vs→
 (∀ k c,(k,c)∈ps→k<zs.length∧c.size=(zs.getD k default).size)→(∀ k,k<zs.length→place k=some (CV.sizes (zs.take k),(zs.getD k default).size))→
 ∃ r,Instr.fill place cells ((ps.map (·.1)).zip vs)=some r∧RepCVs N w hd (setParts zs ps) r.toList
 | [],vs,zs,cells,h,_,_,_=>⟨cells,by simp[Instr.fill],by simpa[setParts] using h⟩
 | (k,c)::ps,vs,zs,cells,h,hv,hp,hpl=>by
  simp only[aF,CVals] at hv
  obtain⟨v,vs',rfl,hv1,hv2⟩:=hv
  obtain⟨hk,hs⟩:=hp k c (by simp)
  have hc:=cval_cells hv1
  have hvs:v.cells.size=c.size:=by have:=RepCV.length _ _ hc; simpa using this
  obtain⟨c1,c2,c3,e1,e2,e3,e4⟩:=RepCVs.at zs k _ hk h
  have hl2:c2.length=v.cells.toList.length:=by rw[RepCV.length _ _ e3,← hs,← hvs]; simp
  have hsp:=splice_get (off:=CV.sizes (zs.take k)) (l:=v.cells.toList) e1 e2 hl2
  have hcs:cells.size=c1.length+c2.length+c3.length:=by have:=congrArg List.length e1; simpa[Nat.add_assoc] using this
  have hfold:v.cells.zipIdx.foldl (fun cs (x:Value×Nat)=>cs.setIfInBounds (CV.sizes (zs.take k)+x.2) x.1) cells=v.cells.toList.zipIdx.foldl (fun cs (x:Value×Nat)=>cs.setIfInBounds (CV.sizes (zs.take k)+x.2) x.1) cells:=by
   rw[← Array.foldl_toList]; simp
  have hsizes:∀ j,((zs.set k c).getD j default).size=(zs.getD j default).size:=by
   intro j
   by_cases hj:j=k
   ·subst hj; simp[List.getD,hk,hs]
   ·simp[List.getD,List.getElem?_set_ne (Ne.symm hj)]
  have htake:∀ j,CV.sizes ((zs.set k c).take j)=CV.sizes (zs.take j):=by
   intro j
   have gen:∀ (zs:List CV) (k j:Nat),c.size=(zs.getD k default).size→k<zs.length→CV.sizes ((zs.set k c).take j)=CV.sizes (zs.take j):=by
    intro zs; induction zs with
    | nil=>intro k j _ hk; simp at hk
    | cons z zs ih=>
     intro k j hs hk
     cases j with
     | zero=>simp
     | succ j=>
      cases k with
      | zero=>simp at hs; simp[CV.sizes,hs]
      | succ k=>simp only[List.set_cons_succ,List.take_succ_cons,CV.sizes]; rw[ih k j (by simpa using hs) (by simpa using hk)]
   exact gen zs k j hs hk
  obtain⟨r,g1,g2⟩:=fill_ok (place:=place) ps vs' (zs.set k c) (v.cells.toList.zipIdx.foldl (fun cs (x:Value×Nat)=>cs.setIfInBounds (CV.sizes (zs.take k)+x.2) x.1) cells) (by rw[hsp]; exact e4 c _ hc) hv2
   (fun j c' hj=>by have:=hp j c' (by simp[hj]); rw[hsizes,List.length_set]; exact this) (fun j hj=>by rw[htake,hsizes]; exact hpl j (by simpa using hj))
  refine⟨r,?_,by simpa[setParts] using g2⟩
  simp only[aF,List.zip_cons_cons,Instr.fill,hpl k hk]
  have hc2:c2.length=(zs.getD k default).size:=RepCV.length _ _ e3
  rw[if_neg (by rw[hvs,hs,hcs,← e2,← hc2]; simp),hfold]
  exact g1

theorem fst_zip_map(ps:List (Nat×Operand))(a:Act):(ps.map fun (i,x)=>(i,a.eval x))=(ps.map (·.1)).zip ((ps.map (·.2)).map a.eval):=by
 induction ps with
 | nil=>rfl
 | cons p ps ih=>obtain⟨i,x⟩:=p; simp only[aF,List.zip_cons_cons]; rw[ih]

def fldT(P:Program)(T:TypeId)(k:Nat):TypeId:=
 match P.underlying T with
 | some (.struct fs)=>((fs[k]?).map (·.type)).getD 0
 | _=>0
def partFs(P:Program)(st:St)(T:TypeId):List (Nat×Operand)→List (Nat×CV)
 | []=>[]
 | (k,x)::ps=>(k,argCV (ev P st (fldT P T k) x))::partFs P st T ps
theorem partFs_fst{P:Program}{st:St}{T:TypeId}:∀ ps:List (Nat×Operand),(partFs P st T ps).map (·.1)=ps.map (·.1)
 | []=>rfl
 | (k,x)::ps=>by simp[partFs,partFs_fst ps]
theorem partFs_snd{P:Program}{st:St}{T:TypeId}:∀ ps:List (Nat×Operand),(partFs P st T ps).map (·.2)=argCVs P st (ps.map (·.2)) (ps.map fun p=>fldT P T p.1)
 | []=>rfl
 | (k,x)::ps=>by simp[partFs,argCVs,partFs_snd ps]

theorem valid_build{P:Program}{nt:Nat}{o:Oper}{st:St}{d:Nat}{T:TypeId}{parts:Array (Nat×Operand)}{zs:List CV}(hop:o.op=.build T parts)(hdst:o.dst=some d)(hd:d<nt)
 (hz:ZeroIs P T (.node zs)) (hL:LayoutOk P T zs) (hp:∀ k c,(k,c)∈partFs P st T parts.toList→k<zs.length∧c.size=(zs.getD k default).size) (hw:CV.wholes st.o ((partFs P st T parts.toList).map (·.2))=true):
 Valid P nt o st { rs:=parts.toList.flatMap (fun p=>rd p.2),ro:=CV.namess ((partFs P st T parts.toList).map (·.2)),us:=[(d,.val (.node (setParts zs (partFs P st T parts.toList))))] }:=by
 refine valid_pure hdst hd rfl ?_
 intro κ G st' a w hnt hsame hG
 obtain⟨i,z,h1,h2,h3⟩:=hz
 have hcv:=args_ok (P:=P) (st:=st) hG (parts.toList.map (·.2)) (parts.toList.map fun p=>fldT P T p.1) (fun k hk=>hsame.1 k (by simpa[List.flatMap_map] using hk)) (by
  rw[← partFs_snd,(CV.congr_obs _ hsame.2).1]; exact hw)
 rw[← partFs_snd] at hcv
 rcases hL with⟨m,e,i',g1,g2,g3,g4⟩ | ⟨fs,g1,g2,g3⟩
 ·have hzc:=cval_cells (h3 (Nof κ st' G w) w G.hd)
  simp only[RepCV] at hzc
  obtain⟨r,f1,f2⟩:=fill_ok (N:=Nof κ st' G w) (w:=w) (hd:=G.hd) (place:=fun k=>some (k*i'.size,i'.size)) (partFs P st T parts.toList) _ zs z.cells hzc hcv hp (by
   intro k hk
   obtain⟨e1,e2⟩:=g4 k hk
   rw[e1,e2])
  rw[partFs_fst,← fst_zip_map] at f1
  refine⟨.agg r,?_,.inl ⟨rfl,r.toList,by simp,by simpa[RepCV] using f2⟩⟩
  have f1':Instr.fill (fun x=>some (x*i'.size,i'.size)) z.cells (parts.toList.map (fun x=>(x.fst,a.eval x.snd)))=some r:=by rw[← f1]
  simp[execOp,hop,Instr.build,zeroValue,typeInfo,h1,h2,run_underlying g1,sizeOf,g2,f1']
 have hplaces:(fs.toList.mapM (fun f=>do pure (f.offset,← sizeOf f.type):Field→Sem (Nat×Nat))).run P w=.ok (fs.toList.map fun f=>(f.offset,((P.info? f.type).map (·.size)).getD 0)) w:=by
  refine run_mapM_pure _ _ _ (fun f hf=>?_)
  obtain⟨k,hk,rfl⟩:=List.mem_iff_getElem.1 hf
  obtain⟨_,inf,e1,e2⟩:=g3 k _ (by rw[← Array.getElem?_toList]; exact List.getElem?_eq_getElem hk)
  generalize fs.toList[k]=f at e1 ⊢
  simp[sizeOf,typeInfo,e1]
 have hzc:=cval_cells (h3 (Nof κ st' G w) w G.hd)
 simp only[RepCV] at hzc
 obtain⟨r,f1,f2⟩:=fill_ok (N:=Nof κ st' G w) (w:=w) (hd:=G.hd) (place:=fun k=>(fs.toList.map fun f=>(f.offset,((P.info? f.type).map (·.size)).getD 0)).toArray[k]?) (partFs P st T parts.toList) _ zs z.cells hzc hcv hp (by
  intro k hk
  have hkf:k<fs.size:=by omega
  obtain⟨e1,inf,e2,e3⟩:=g3 k fs[k] (by simp[hkf])
  simp[hkf,e1,e2,e3])
 rw[partFs_fst,← fst_zip_map] at f1
 refine⟨.agg r,?_,.inl ⟨rfl,r.toList,by simp,by simpa[RepCV] using f2⟩⟩
 have hfs:fs=fs.toList.toArray:=by simp
 have f1':Instr.fill (fun x=>(fs.toList.map fun f=>(f.offset,((P.info? f.type).map (·.size)).getD 0)).toArray[x]?) z.cells (Array.map (fun x=>(x.fst,a.eval x.snd)) parts).toList=some r:=by rw[← f1]; simp
 simp only[execOp,hop,Sem.run_bind,Sem.run_pure,Instr.build,zeroValue,typeInfo,run_program,Result.andThen_ok,h1,h2,run_underlying g1]
 have hpl:(fs.mapM (fun f=>do pure (f.offset,← sizeOf f.type):Field→Sem (Nat×Nat))).run P w=.ok (fs.toList.map fun f=>(f.offset,((P.info? f.type).map (·.size)).getD 0)).toArray w:=by
  conv=>lhs; rw[hfs]
  simp only[List.mapM_toArray,Sem.run_map,hplaces,Result.andThen_ok]
 have hpl':=hpl
 simp only[sizeOf,typeInfo] at hpl'
 simp only[sizeOf,typeInfo,Sem.run_bind]
 rw[hpl']
 simp only[Result.andThen_ok,f1',Sem.run_pure]
end
section

theorem F_nil{F1 F2 F3:List Nat}(h:([]:List Nat)=F1++F2++F3):F1=[]∧F2=[]∧F3=[]:=by
 have:=congrArg List.length h
 simp at this
 exact⟨List.eq_nil_of_length_eq_zero (by omega),List.eq_nil_of_length_eq_zero (by omega),List.eq_nil_of_length_eq_zero (by omega)⟩

theorem sizes_take{sz:Nat}{es:List PV}(h:∀ e∈es,PV.size e=sz){i:Nat}(hi:i≤es.length):PV.sizes (es.take i)=i*sz:=by
 rw[PV.sizes_const (sz:=sz) (fun e he=>h e (List.mem_of_mem_take he)),List.length_take,Nat.min_eq_left hi]

theorem run_indexAt{P:Program}{T:TypeId}{sz bytes:Nat}(hT:SlIs P T sz bytes){ad:Addr}{k:IntKind}{n:Int}{len cap:Nat}(h0:0≤n)(hl:n<len)(hs:ad.spot=none)(w:World):
 (Instr.indexAt T (.slice (some ad) len cap) (.int k n)).run P w=.ok (.pointer (some ⟨ad.block,ad.off+n.toNat*sz,none⟩)) w:=by
 obtain⟨e,i,z,h1,h2,h3,_⟩:=hT
 simp[Instr.indexAt,asIntOf,run_underlying h1,h0,hl,sizeOf,typeInfo,h2,h3,add_off _ _ hs]

theorem slotOk_sl{N:Nat→Prop}{w:World}{G:Gh}{k sz:Nat}{b:Bool}{es:List PV}{v:Value}(h:SlotOk N w G k v (.val (.pv (.sl b sz es)))):∃ a cap,v=.slice a es.length cap:=by
 rcases h with⟨h1,_⟩ | ⟨_,h1,_⟩
 ·simp[CV.isAgg] at h1
 ·cases b with
  | false=>simp only[RepCV,RepC] at h1; obtain⟨b,cap,h1,_⟩:=h1; simp at h1; exact⟨b,cap,h1⟩
  | true=>
   simp only[RepCV,RepC] at h1
   rcases h1 with⟨h1,h2,_⟩ | ⟨b,cap,c,e,F',ccs,h1,_⟩
   ·simp at h1; exact⟨none,0,by rw[h1,h2]; rfl⟩
   ·simp at h1; exact⟨_,cap,h1⟩
theorem own_sl{κ:Ctx}{G:Gh}{st:St}{a:Act}{w:World}{c sz:Nat}{es:List PV}(hG:RG κ G st a w)(ho:st.o c=some (sz,es)):∃ b cap,G.hd c=.slice b es.length cap:=by
 have h2:=(hG.objs c sz es ho).1
 simp only[RepC] at h2
 rcases h2 with⟨h2,h3,_⟩ | ⟨b,cap,c',e,F',ccs,h2,_⟩
 ·simp at h2; exact⟨none,0,by rw[h2,h3]; rfl⟩
 ·simp at h2; exact⟨_,cap,h2⟩
theorem slotOk_own{N:Nat→Prop}{w:World}{G:Gh}{k c:Nat}{v:Value}(h:SlotOk N w G k v (.val (.own c))):v=G.hd c:=by
 rcases h with⟨h1,_⟩ | ⟨_,h1,_⟩
 ·simp[CV.isAgg] at h1
 ·simp only[RepCV] at h1; simpa using h1.1

/-- The address of an element of a slice that is read. -/
theorem valid_index_view{P:Program}{nt:Nat}{o:Oper}{st:St}{d sz bytes:Nat}{x y:Operand}{T T1 T2:TypeId}{b:Bool}{es:List PV}{k:IntKind}{n:Int}(hop:o.op=.indexAddr T x y)(hdst:o.dst=some d)(hd:d<nt)
 (hT:SlIs P T sz bytes) (hx:ev P st T1 x=.val (.pv (.sl b sz es))) (hy:ev P st T2 y=.val (.pv (.lit (.int k n)))) (h0:0≤n) (hl:n<es.length):
 Valid P nt o st { rs:=rd x++rd y,us:=[(d,.val (.pv (.ptr (es.getD n.toNat default))))] }:=by
 refine valid_pure hdst hd rfl ?_
 intro κ G st' a w hnt hsame hG
 have h1:=ev_ok (P:=P) (T:=T1) hG x d
 rw[ev_congr (fun k hk=>hsame.1 k (by simp[hk])),hx] at h1
 have h2:=ev_lit hG hy (fun k hk=>hsame.1 k (by simp[hk]))
 rcases h1 with⟨h1,_⟩ | ⟨_,h1,_⟩
 ·simp[CV.isAgg] at h1
 simp only[RepCV] at h1
 have hne:es≠[]:=by rintro rfl; simp at hl; omega
 cases b with
 | true=>
  simp only[RepC] at h1
  rcases h1 with⟨_,h1,_⟩ | ⟨b,cap,c,e,F',ccs,_,_,_,_,_,_,_,_,h9⟩
  ·exact absurd h1 hne
  ·simp at h9
 | false=>
  simp only[RepC] at h1
  obtain⟨ad0,cap,g1,_,g3,g4,g5,g6⟩:=h1
  rcases g6 with g6 | ⟨ad,ccs,rfl,f2,f3,f4,f5⟩
  ·exact absurd g6 hne
  simp at g1
  have hi:n.toNat<es.length:=by omega
  have hg:es[n.toNat]?=some (es.getD n.toNat default):=by simp[List.getD,hi]
  obtain⟨c1,c2,c3,F1,F2,F3,e1,e2,e3,e4,e5,e6⟩:=RepCs.at es n.toNat _ ccs [] f5 hg
  obtain⟨_,rfl,_⟩:=F_nil e2
  rw[sizes_take g5 (by omega)] at e3
  refine⟨.pointer (some ⟨ad.block,ad.off+n.toNat*sz,none⟩),by simp[execOp,hop,g1,h2,run_indexAt hT h0 hl f2],.inr ⟨rfl,?_,rfl⟩⟩
  simp only[RepCV,RepC]
  refine⟨⟨ad.block,ad.off+n.toNat*sz,none⟩,c2,rfl,trivial,rfl,f3,?_,e4⟩
  rw[e1] at f4
  have:=f4.sub
  rwa [e3] at this

/-- The address of an element of a slice of one's own. -/
theorem valid_index_own{P:Program}{nt:Nat}{o:Oper}{st:St}{d c sz bytes:Nat}{x y:Operand}{T T1 T2:TypeId}{es:List PV}{k:IntKind}{n:Int}(hop:o.op=.indexAddr T x y)(hdst:o.dst=some d)(hd:d<nt)
 (hT:SlIs P T sz bytes) (hx:ev P st T1 x=.val (.own c)) (hc:st.o c=some (sz,es)) (hy:ev P st T2 y=.val (.pv (.lit (.int k n)))) (h0:0≤n) (hl:n<es.length):
 Valid P nt o st { rs:=rd x++rd y,ro:=[c],us:=[(d,.eptr c sz n.toNat [] 0)] }:=by
 refine valid_pure hdst hd rfl ?_
 intro κ G st' a w hnt hsame hG
 have h1:=ev_ok (P:=P) (T:=T1) hG x d
 rw[ev_congr (fun k hk=>hsame.1 k (by simp[hk])),hx] at h1
 have h2:=ev_lit hG hy (fun k hk=>hsame.1 k (by simp[hk]))
 have h3:=slotOk_own h1
 have hc':st'.o c=some (sz,es):=by rw[hsame.2 c (by simp)]; exact hc
 have h4:=(hG.objs c sz es hc').1
 simp only[RepC] at h4
 rcases h4 with⟨_,h4,_⟩ | ⟨b,cap,cc,e,F',ccs,g1,_⟩
 ·subst h4; simp at hl; omega
 simp at g1
 refine⟨.pointer (some ⟨b,0+n.toNat*sz,none⟩),?_,b,es.length,cap,g1,by simp⟩
 have:=run_indexAt (P:=P) hT (ad:=⟨b,0,none⟩) (k:=k) (len:=es.length) (cap:=cap) h0 hl rfl w
 simp[execOp,hop,h3,g1,h2,this]

theorem RepC.agg_of{N:Nat→Prop}{w:World}{fs:List PV}{cs:List Value}{F:List Nat}(h:RepC N w (.agg fs) cs F):RepCs N w fs cs F:=by simpa only[RepC] using h

/-- A part of a tree. -/
def PV.at:PV→List Nat→PV
 | p,[]=>p
 | .agg fs,k::ks=>(fs.getD k default).at ks
 | _,_=>.tup []
def PV.offs:PV→List Nat→Nat
 | _,[]=>0
 | .agg fs,k::ks=>PV.sizes (fs.take k)+(fs.getD k default).offs ks
 | _,_=>0
def PV.okp:PV→List Nat→Bool
 | _,[]=>true
 | .agg fs,k::ks=>decide (k<fs.length)&&(fs.getD k default).okp ks
 | _,_=>false
def PV.setAt:PV→List Nat→PV→PV
 | _,[],y=>y
 | .agg fs,k::ks,y=>.agg (fs.set k ((fs.getD k default).setAt ks y))
 | p,_,_=>p

theorem RepCs.at'{N:Nat→Prop}{w:World}(es:List PV)(i:Nat)(c:List Value)(F:List Nat)(hi:i<es.length)(h:RepCs N w es c F):
 ∃ c1 c2 c3 F1 F2 F3,c=c1++c2++c3∧F=F1++F2++F3∧c1.length=PV.sizes (es.take i)∧RepC N w (es.getD i default) c2 F2∧RepCs N w (es.take i) c1 F1∧RepCs N w (es.drop (i+1)) c3 F3:=
 RepCs.at es i _ c F h (by simp[List.getD,hi])

theorem set_eq{α:Type}{l:List α}{i:Nat}(h:i<l.length)(x:α):l.set i x=l.take i++x::l.drop (i+1):=by
 rw[List.set_eq_take_append_cons_drop,if_pos h]

theorem RepC.path{N:Nat→Prop}{w:World}:∀ (p:List Nat) (x:PV) (cs:List Value) (F:List Nat),x.okp p=true→RepC N w x cs F→
 ∃ c1 c2 c3 F1 F2 F3,cs=c1++c2++c3∧F=F1++F2++F3∧c1.length=x.offs p∧RepC N w (x.at p) c2 F2∧
  ∀ (N':Nat→Prop) (w':World),(∀ b,N b→N' b)→(∀ b,N b→w'.heap[b]?=w.heap[b]?)→(∀ b∈F1++F3,w'.heap[b]?=w.heap[b]?)→∀ y c2' F2',RepC N' w' y c2' F2'→RepC N' w' (x.setAt p y) (c1++c2'++c3) (F1++F2'++F3)
 | [],x,cs,F,_,h=>⟨[],cs,[],[],F,[],by simp,by simp,by simp[PV.offs],by simpa[PV.at] using h,fun N' w' _ _ _ y c2' F2' hy=>by simpa[PV.setAt] using hy⟩
 | k::ks,.agg fs,cs,F,hp,h=>by
  simp only[PV.okp,aw,decide_eq_true_eq] at hp
  obtain⟨c1,c2,c3,F1,F2,F3,e1,e2,e3,e4,e5,e6⟩:=RepCs.at' fs k cs F hp.1 h.agg_of
  obtain⟨d1,d2,d3,G1,G2,G3,f1,f2,f3,f4,f5⟩:=RepC.path ks _ c2 F2 hp.2 e4
  refine⟨c1++d1,d2,d3++c3,F1++G1,G2,G3++F3,by simp[e1,f1],by simp[e2,f2],by simp[PV.offs,e3,f3],by simpa[PV.at] using f4,fun N' w' hN hw hF y c2' F2' hy=>?_⟩
  have h1:=f5 N' w' hN hw (fun b hb=>hF b (by
   rcases List.mem_append.1 hb with hb | hb
   ·simp[hb]
   ·simp[hb])) y c2' F2' hy
  simp only[PV.setAt,RepC]
  rw[set_eq hp.1]
  have h2:RepCs N' w' (fs.take k) c1 F1:=RepCs.frame hN hw _ _ _ (fun b hb=>hF b (by simp[hb])) e5
  have h3:RepCs N' w' (fs.drop (k+1)) c3 F3:=RepCs.frame hN hw _ _ _ (fun b hb=>hF b (by simp[hb])) e6
  have h4:RepCs N' w' ((fs.getD k default).setAt ks y::fs.drop (k+1)) ((d1++c2'++d3)++c3) ((G1++F2'++G3)++F3):=by
   simp only[RepCs]; exact⟨_,_,_,_,rfl,rfl,h1,h3⟩
  have:=RepCs.append _ _ _ _ _ _ h2 h4
  simpa[aS] using this
 | _::_,.lit _,_,_,hp,_=>by simp[PV.okp] at hp
 | _::_,.sl _ _ _,_,_,hp,_=>by simp[PV.okp] at hp
 | _::_,.clo _ _,_,_,hp,_=>by simp[PV.okp] at hp
 | _::_,.ptr _,_,_,hp,_=>by simp[PV.okp] at hp
 | _::_,.tup _,_,_,hp,_=>by simp[PV.okp] at hp

/-- Reading an element of a slice of one's own, or a part of one. -/
theorem valid_load_elem{P:Program}{nt:Nat}{o:Oper}{st:St}{d c sz i off:Nat}{p:List Nat}{x:Operand}{T T1:TypeId}{es:List PV}{v:PV}(hop:o.op=.load T x)(hdst:o.dst=some d)(hd:d<nt)
 (hx:ev P st T1 x=.eptr c sz i p off) (hc:st.o c=some (sz,es)) (hi:i<es.length) (hok:(es.getD i default).okp p=true) (hoff:(es.getD i default).offs p=off) (hv:(es.getD i default).at p=v) (hno:v.noOwn=true)
 (ht:TyIs P T (CV.pv v).isAgg v.size):Valid P nt o st { rs:=rd x,ro:=[c],us:=[(d,.val (.pv v))] }:=by
 refine valid_pure hdst hd rfl ?_
 intro κ G st' a w hnt hsame hG
 have h1:=ev_ok (P:=P) (T:=T1) hG x d
 rw[ev_congr hsame.1,hx] at h1
 obtain⟨b,n,cap,g1,g2⟩:=h1
 have hc':st'.o c=some (sz,es):=by rw[hsame.2 c (by simp)]; exact hc
 have h4:=(hG.objs c sz es hc').1
 simp only[RepC] at h4
 rcases h4 with⟨_,h4,_⟩ | ⟨b',cap',cc,e,F',ccs,f1,f2,f3,f4,f5,f6,f7,f8,f9⟩
 ·subst h4; simp at hi
 rw[g1] at f1
 simp at f1
 obtain⟨rfl,_,_⟩:=f1
 obtain⟨c1,c2,c3,F1,F2,F3,e1,e2,e3,e4,e5,e6⟩:=RepCs.at' es i ccs F' hi f8
 obtain⟨d1,d2,d3,H1,H2,H3,k1,k2,k3,k4,_⟩:=RepC.path p _ c2 F2 hok e4
 rw[hv] at k4
 have hH2:=RepC.noOwn _ _ _ hno k4
 subst hH2
 rw[sizes_take f4 (by omega)] at e3
 have hrow:RowAt w ⟨b,i*sz+off,none⟩ d2:=by
  have hall:cc.toList=(c1++d1)++d2++(d3++c3++cc.toList.drop (es.length*sz)):=by
   have:=List.take_append_drop (es.length*sz) cc.toList
   rw[f7,e1,k1] at this
   refine this.symm.trans ?_
   simp only[aS]
  have h5:w.heap[b]?=some (.cells ((c1++d1)++d2++(d3++c3++cc.toList.drop (es.length*sz))).toArray e (0,0)):=by rw[← hall]; simpa using f5
  have:=rowAt_of_block h5
  rw[aV,e3,k3,hoff] at this
  exact this
 obtain⟨u,m1,m2⟩:=run_loadVar (P:=P) (hd:=G.hd) (x:=.pv v) (N:=Nof κ st' G w) ht rfl hrow (by simpa[RepCV] using k4) (fun n=>by simp)
 exact⟨u,by simp[execOp,hop,g2,Instr.loadAt,Instr.sureAddr,m1],m2⟩

/-- An object has turned; the name and the slice's header stay. -/
theorem R.setObj{κ:Ctx}{G:Gh}{st:St}{a:Act}{w w':World}{c sz:Nat}{es':List PV}{D fc':List Nat}(h:RG κ G st a w)(hc:(st.o c).isSome=true)(hcD:c∉D)(hD:∀ n∈D,(st.o n).isSome=true)
 (hos:w'.os=w.os) (htape:w'.tape=w.tape) (hout:w'.output=w.output) (hsz:w'.heap.size=w.heap.size) (hw:∀ k,k∉G.fp c→w'.heap[k]?=w.heap[k]?)
 (hrep:RepC (Nof κ st G w) w' (.sl true sz es') [G.hd c] fc') (hnd:fc'.Nodup) (hsub:∀ b∈fc',b∈G.fp c∨b∈fps G.fp D) (hdr:DQ=true→w.drawn≤w'.drawn:=by exact fun _=>Nat.le.refl):
 R κ { s:=st.s,o:=updAll st.o (deadObjs D++[(c,some (sz,es'))]) } a w':=by
 obtain⟨⟨sz0,es0⟩,hc0⟩:=Option.isSome_iff_exists.1 hc
 have hDin:∀ b,b∈fps G.fp D→∃ c' p,c'∈D∧st.o c'=some p∧b∈G.fp c':=by
  intro b hb'
  obtain⟨c',hc',hm⟩:=mem_fps.1 hb'
  obtain⟨p,hp⟩:=Option.isSome_iff_exists.1 (hD c' hc')
  exact⟨c',p,hc',hp,hm⟩
 let G':Gh:={ G with fp:=upd G.fp c fc' }
 have hob:∀ k p,updAll st.o (deadObjs D++[(c,some (sz,es'))]) k=some p→(k=c∧p=(sz,es'))∨(k≠c∧k∉D∧st.o k=some p):=by
  intro k p hk
  rw[updAll_append] at hk
  simp only[updAll] at hk
  by_cases hkc:k=c
  ·subst hkc; rw[upd_same] at hk; cases hk; exact .inl ⟨rfl,rfl⟩
  ·rw[upd_ne hkc,updAll_dead] at hk
   by_cases hkD:k∈D
   ·simp[hkD] at hk
   ·simp only[hkD,if_false] at hk; exact .inr ⟨hkc,hkD,hk⟩
 have hfpc:G'.fp c=fc':=upd_same _ _ _
 have hfpo:∀ k,k≠c→G'.fp k=G.fp k:=fun k hk=>upd_ne hk
 have hblk:∀ b∈fc',∃ c' p,(c'=c∨c'∈D)∧st.o c'=some p∧b∈G.fp c':=by
  intro b hb
  rcases hsub b hb with h1 | h1
  ·exact⟨c,_,.inl rfl,hc0,h1⟩
  ·obtain⟨c',p,g1,g2,g3⟩:=hDin b h1; exact⟨c',p,.inr g1,g2,g3⟩
 have hlt:∀ b,Nof κ st G w b→b<w.heap.size:=fun b hb=>hb.lt h
 have hN:∀ b,Nof κ st G w b→Nof κ { s:=st.s,o:=updAll st.o (deadObjs D++[(c,some (sz,es'))]) } G' w' b:=by
  intro b hb
  refine⟨?_,fun hp=>hb.2 ?_⟩
  ·rcases hb.1 with h1 | h1
   ·exact .inl h1
   ·exact .inr (by rw[hsz]; exact h1)
  ·rcases hp with⟨r,h1,h2⟩ | ⟨k,p,h1,h2⟩
   ·exact .inl ⟨r,h1,h2⟩
   ·rcases hob k p h1 with⟨rfl,rfl⟩ | ⟨hk,hkD,ho⟩
    ·rw[hfpc] at h2
     obtain⟨c',p',_,g2,g3⟩:=hblk b h2
     exact .inr ⟨c',p',g2,g3⟩
    ·rw[hfpo k hk] at h2; exact .inr ⟨k,p,ho,h2⟩
 have hNw:∀ b,Nof κ st G w b→w'.heap[b]?=w.heap[b]?:=fun b hb=>hw b (fun hm=>hb.2 (.inr ⟨c,_,hc0,hm⟩))
 have hbw:∀ r,isBox (st.s r)=true→w'.heap[G.ad r]?=w.heap[G.ad r]?:=fun r hr=>hw _ (h.bo r c _ hr hc0)
 refine⟨G',⟨hos.trans h.keep.os,htape.trans h.keep.tape,hout.trans h.keep.output,by rw[hsz]; exact h.keep.size,fun k hk hkL=>(hw k (fun hm=>?_)).trans (h.keep.block k hk hkL),fun q=>Nat.le_trans (h.keep.drawn q) (hdr q)⟩,h.defers,h.nt,
  fun k=>(h.slots k).frame hN hNw (fun _ _=>rfl) (fun _ _=>rfl) (fun hb=>⟨rfl,hbw k hb⟩),?_,fun r hr=>(by rw[hsz]; exact h.boxes r hr),h.bb,?_,?_,h.held⟩
 ·rcases ((h.objs c _ _ hc0).2.2 k hm).1 with h1 | h1
  ·omega
  ·exact hkL h1
 ·intro k sz' es'' hk
  rcases hob k _ hk with⟨rfl,e⟩ | ⟨hkc,hkD,ho⟩
  ·cases e
   rw[hfpc]
   refine⟨RepC.frame hN (fun _ _=>rfl) _ _ _ (fun _ _=>rfl) hrep,hnd,fun b hb=>?_⟩
   obtain⟨c',p',_,g2,g3⟩:=hblk b hb
   rw[hsz]
   exact(h.objs c' p'.1 p'.2 g2).2.2 b g3
  ·rw[hfpo k hkc]
   obtain⟨g1,g2,g3⟩:=h.objs k sz' es'' ho
   exact⟨RepC.frame hN hNw _ _ _ (fun b hb=>hw b (h.oo k c _ _ ho hc0 hkc b hb)) g1,g2,by rw[hsz]; exact g3⟩
 ·intro r k p h1 h2 hm
  rcases hob k p h2 with⟨rfl,rfl⟩ | ⟨hkc,hkD,ho⟩
  ·rw[hfpc] at hm
   obtain⟨c',p',_,g2,g3⟩:=hblk _ hm
   exact h.bo r c' p' h1 g2 g3
  ·rw[hfpo k hkc] at hm; exact h.bo r k p h1 ho hm
 ·intro k k' p p' h1 h2 hne b hb1 hb2
  rcases hob k p h1 with⟨rfl,rfl⟩ | ⟨hkc,hkD,ho⟩<;>rcases hob k' p' h2 with⟨rfl,rfl⟩ | ⟨hkc',hkD',ho'⟩
  ·exact hne rfl
  ·rw[hfpc] at hb1; rw[hfpo k' hkc'] at hb2
   obtain⟨c',q,g1,g2,g3⟩:=hblk b hb1
   refine h.oo c' k' q p' g2 ho' (fun e=>?_) b g3 hb2
   rcases g1 with rfl | g1
   ·exact hkc' e.symm
   ·exact hkD' (e▸g1)
  ·rw[hfpc] at hb2; rw[hfpo k hkc] at hb1
   obtain⟨c',q,g1,g2,g3⟩:=hblk b hb2
   refine h.oo k c' p q ho g2 (fun e=>?_) b hb1 g3
   rcases g1 with rfl | g1
   ·exact hkc e
   ·exact hkD (e▸g1)
  ·rw[hfpo k hkc] at hb1; rw[hfpo k' hkc'] at hb2
   exact h.oo k k' p p' ho ho' hne b hb1 hb2

/-- Writing an element of a slice of one's own, or a part of one: the name stays. -/
theorem valid_store_elem{P:Program}{nt:Nat}{o:Oper}{st:St}{c sz i off:Nat}{p:List Nat}{x y:Operand}{T T1 T2:TypeId}{es:List PV}{z:CV}(hop:o.op=.store T x y)(hdst:o.dst=none)
 (hx:ev P st T1 x=.eptr c sz i p off) (hc:st.o c=some (sz,es)) (hi:i<es.length) (hok:(es.getD i default).okp p=true) (hoff:(es.getD i default).offs p=off)
 (hy:ev P st T2 y=.val z) (hw:z.whole st.o=true) (hnd:(c::z.names).Nodup) (ht:TyIs P T z.isAgg z.size) (hs:z.size=((es.getD i default).at p).size) (hsz:((es.getD i default).setAt p (z.pvo st.o)).size=sz):
 Valid P nt o st { rs:=rd x++rd y,ro:=c::z.names,uo:=deadObjs z.names++[(c,some (sz,es.set i ((es.getD i default).setAt p (z.pvo st.o))))] }:=by
 intro κ st' a w hnt hsame _ hR next Q hnext
 obtain⟨G,hG⟩:=hR
 have h1:=ev_ok (P:=P) (T:=T1) hG x 0
 rw[ev_congr (fun k hk=>hsame.1 k (by simp[hk])),hx] at h1
 obtain⟨b,n,cap,g1,g2⟩:=h1
 have h2:=ev_ok (P:=P) (T:=T2) hG y 0
 rw[ev_congr (fun k hk=>hsame.1 k (by simp[hk])),hy] at h2
 have hzn:∀ n∈z.names,st'.o n=st.o n:=fun n hn=>hsame.2 n (by simp[hn])
 obtain⟨k1,_,k3⟩:=CV.congr_ob z hzn
 have hlive:∀ n∈z.names,(st'.o n).isSome=true:=CV.names_live z (by rw[k1]; exact hw)
 have hzv:=CVal.own (ob:=st'.o) (fp:=G.fp) (fun c sz es hc=>(hG.objs c sz es hc).1) (by rw[k1]; exact hw) h2
 rw[k3] at hzv
 have hzc:=hzv.cells
 have hvsz:(a.eval y).cells.size=z.size:=by have:=RepCV.length _ _ (cval_cells h2); simpa using this
 have hc':st'.o c=some (sz,es):=by rw[hsame.2 c (by simp)]; exact hc
 obtain⟨h4,h4n,h4l⟩:=hG.objs c sz es hc'
 simp only[RepC] at h4
 rcases h4 with⟨_,h4,_⟩ | ⟨b',cap',cc,e,F',ccs,f1,f2,f3,f4,f5,f6,f7,f8,f9⟩
 ·subst h4; simp at hi
 rw[g1] at f1
 simp at f1
 obtain⟨rfl,rfl,rfl⟩:=f1
 obtain⟨c1,c2,c3,F1,F2,F3,e1,e2,e3,e4,e5,e6⟩:=RepCs.at' es i ccs F' hi f8
 obtain⟨d1,d2,d3,H1,H2,H3,m1,m2,m3,m4,m5⟩:=RepC.path p _ c2 F2 hok e4
 rw[sizes_take f4 (by omega)] at e3
 have hall:cc.toList=(c1++d1)++d2++(d3++c3++cc.toList.drop (es.length*sz)):=by
  have:=List.take_append_drop (es.length*sz) cc.toList
  rw[f7,e1,m1] at this
  refine this.symm.trans ?_
  simp only[aS]
 have hheap:w.heap[b]?=some (.cells ((c1++d1)++d2++(d3++c3++cc.toList.drop (es.length*sz))).toArray e (0,0)):=by rw[← hall]; simpa using f5
 have hd2:d2.length=(a.eval y).cells.size:=by rw[RepC.length _ _ _ m4,hvsz,hs]
 have hstore:=run_storeVar (P:=P) (T:=T) (agg:=z.isAgg) (v:=a.eval y) (off:=i*sz+off) (by rw[hvsz]; exact ht) hheap (by rw[aV,e3,m3,hoff]) hd2 (RepCV.one _ _ (cval_cells h2))
 let w':=w.setRow b ((c1++d1)++(a.eval y).cells.toList++(d3++c3++cc.toList.drop (es.length*sz))).toArray
 have hrun:(execOp a.eval o).run P w=.ok .skip w':=by
  simp[execOp,hop,g2,Instr.storeAt,Instr.sureAddr,hstore,w']
 unfold Oper.wp
 rw[hrun]
 simp only[Oper.upon]
 rw[hdst,act_put_none]
 refine hnext _ _ ?_
 -- the new state
 have hw'sz:w'.heap.size=w.heap.size:=by simp[w',World.setRow]
 have hother:∀ k,k≠b→w'.heap[k]?=w.heap[k]?:=fun k hk=>setRow_other w _ _ _ hk
 have hbfp:b∈G.fp c:=by rw[f9]; simp
 have hcz:c∉z.names:=(List.nodup_cons.1 hnd).1
 have hznd:=(List.nodup_cons.1 hnd).2
 have hNb:∀ k,Nof κ st' G w k→k≠b:=fun k hk e=>hk.2 (.inr ⟨c,_,hc',e▸hbfp⟩)
 have hNw:∀ k,Nof κ st' G w k→w'.heap[k]?=w.heap[k]?:=fun k hk=>hother k (hNb k hk)
 have hfpz:∀ k∈fps G.fp z.names,k∉G.fp c:=by
  intro k hk hm
  obtain⟨c',g1',g2'⟩:=mem_fps.1 hk
  obtain⟨p',hp'⟩:=Option.isSome_iff_exists.1 (hlive c' g1')
  exact hG.oo c' c p' _ hp' hc' (fun e=>hcz (e▸g1')) k g2' hm
 have hfz:∀ k∈fps G.fp z.names,w'.heap[k]?=w.heap[k]?:=fun k hk=>hother k (fun e=>hfpz k hk (e▸hbfp))
 rw[f9] at h4n
 have hn1:=List.nodup_cons.1 h4n
 have hF':∀ k∈F',w'.heap[k]?=w.heap[k]?:=fun k hk=>hother k (fun e=>hn1.1 (e▸hk))
 have hz':=RepC.frame (w':=w') (fun _ h=>h) hNw _ _ _ hfz hzc
 have hel:=m5 _ w' (fun _ h=>h) hNw (fun k hk=>hF' k (by
  rw[e2,m2]; rcases List.mem_append.1 hk with hk | hk
  ·simp[hk]
  ·simp[hk])) _ _ _ hz'
 have hl1:RepCs (Nof κ st' G w) w' (es.take i) c1 F1:=RepCs.frame (fun _ h=>h) hNw _ _ _ (fun k hk=>hF' k (by rw[e2]; simp[hk])) e5
 have hl3:RepCs (Nof κ st' G w) w' (es.drop (i+1)) c3 F3:=RepCs.frame (fun _ h=>h) hNw _ _ _ (fun k hk=>hF' k (by rw[e2]; simp[hk])) e6
 have hmid:RepCs (Nof κ st' G w) w' ((es.getD i default).setAt p (z.pvo st.o)::es.drop (i+1)) ((d1++(a.eval y).cells.toList++d3)++c3) ((H1++fps G.fp z.names++H3)++F3):=by
  simp only[RepCs]; exact⟨_,_,_,_,rfl,rfl,hel,hl3⟩
 have hwhole:=RepCs.append _ _ _ _ _ _ hl1 hmid
 rw[← set_eq hi] at hwhole
 have hlen2:(a.eval y).cells.toList.length=d2.length:=by rw[hd2]; simp
 have htot:((c1++d1)++d2++(d3++c3)).length=es.length*sz:=by
  have:=RepCs.length _ _ _ f8
  rw[PV.sizes_const f4,e1,m1] at this
  rw[← this]; simp[Nat.add_assoc]
 have hccsz:((c1++d1)++(a.eval y).cells.toList++(d3++c3++cc.toList.drop (es.length*sz))).length=cap*sz:=by
  have h':=congrArg List.length hall
  simp only[aV] at h' htot ⊢
  rw[hlen2]
  have:cc.toList.length=cap*sz:=by rw[← f6]; simp
  omega
 have hfst:(F1++(H1++fps G.fp z.names++H3++F3)).Nodup∧b∉F1++(H1++fps G.fp z.names++H3++F3):=by
  have hzn':=fps_nodup hG z.names hznd hlive
  have hsub:∀ k,k∈F1++(H1++H3++F3)→k∈F':=by
   intro k hk; rw[e2,m2]; simp only[aT] at hk ⊢
   rcases hk with hk | (hk | hk) | hk<;>simp[hk]
  have hnd':(F1++(H1++H3++F3)).Nodup:=by
   have h0:=hn1.2
   rw[e2,m2] at h0
   refine List.Sublist.nodup ?_ h0
   simp only[aS]
   exact List.Sublist.append_left (List.Sublist.append_left (List.sublist_append_right _ _) _) _
  have hdis:∀ k∈fps G.fp z.names,k∉F1++(H1++H3++F3):=fun k hk hm=>hfpz k hk (by rw[f9]; exact List.mem_cons_of_mem _ (hsub k hm))
  have hperm:(F1++(H1++fps G.fp z.names++H3++F3)).Perm (fps G.fp z.names++(F1++(H1++H3++F3))):=by
   simp only[aS]
   have p1:(H1++(fps G.fp z.names++(H3++F3))).Perm (fps G.fp z.names++(H1++(H3++F3))):=by
    rw[← aS,← aS (fps G.fp z.names)]; exact List.perm_append_comm.append_right _
   refine(List.Perm.append_left F1 p1).trans ?_
   rw[← aS,← aS (fps G.fp z.names)]
   exact List.perm_append_comm.append_right _
  refine⟨hperm.nodup_iff.2 (List.nodup_append.2 ⟨hzn',hnd',fun k hk k' hk' e=>hdis k hk (e▸hk')⟩),fun hm=>?_⟩
  rcases List.mem_append.1 (hperm.mem_iff.1 hm) with hm | hm
  ·exact hfpz b hm hbfp
  ·exact hn1.1 (hsub b hm)
 have:=R.setObj (w':=w') (c:=c) (sz:=sz) (es':=es.set i ((es.getD i default).setAt p (z.pvo st.o))) (D:=z.names) (fc':=b::(F1++(H1++fps G.fp z.names++H3++F3))) hG (by simp[hc']) hcz hlive rfl rfl rfl hw'sz (fun k hk=>hother k (fun e=>hk (e▸hbfp))) (by
  simp only[RepC]
  refine .inr ⟨b,cap,_,e,_,c1++(d1++(a.eval y).cells.toList++d3++c3),by rw[g1,List.length_set],by rw[List.length_set]; exact f2,f3,?_,setRow_heap w _ _ _ _ _ hheap,by simpa using hccsz,?_,hwhole,rfl⟩
  ·intro q hq
   rcases List.mem_or_eq_of_mem_set hq with hq | rfl
   ·exact f4 q hq
   ·exact hsz
  ·rw[List.length_set]
   have e8:(c1++d1++(a.eval y).cells.toList++(d3++c3++cc.toList.drop (es.length*sz)))=(c1++(d1++(a.eval y).cells.toList++d3++c3))++cc.toList.drop (es.length*sz):=by simp[aS]
   have e9:es.length*sz=(c1++(d1++(a.eval y).cells.toList++d3++c3)).length:=by
    rw[← htot]; simp only[aV,hlen2]; omega
   simp only[List.toList_toArray]
   rw[e8]
   conv=>lhs; rw[e9]
   exact List.take_left) (List.nodup_cons.2 ⟨hfst.2,hfst.1⟩) (by
  intro k hk
  rcases List.mem_cons.1 hk with rfl | hk
  ·exact .inl hbfp
  ·simp only[aT] at hk
   rw[f9,e2,m2]
   rcases hk with hk | ((hk | hk) | hk) | hk
   ·left; simp[hk]
   ·left; simp[hk]
   ·exact .inr hk
   ·left; simp[hk]
   ·left; simp[hk])
 simpa[St.app,updAll] using this
end
section

/-! ### make -/
theorem repCs_replicate{N:Nat→Prop}{w:World}{p:PV}{cs:List Value}(h:RepC N w p cs []):∀ n,RepCs N w (List.replicate n p) ((List.replicate n cs).flatten) []
 | 0=>by simp[RepCs]
 | n+1=>by
  simp only[List.replicate_succ,RepCs,List.flatten_cons]
  exact⟨cs,_,[],[],rfl,rfl,h,repCs_replicate h n⟩

theorem madeCells_eq{z:Array Value}(hz:0<z.size):∀ n,(madeCells z (n*z.size)).toList=(List.replicate n z.toList).flatten
 | 0=>by simp[madeCells,Array.range_zero']
 | n+1=>by
  rw[List.replicate_succ',List.flatten_append,← madeCells_eq hz n]
  apply List.ext_getElem?
  intro k
  simp only[madeCells,Array.toList_map,Array.toList_range,List.getElem?_map]
  rcases Nat.lt_or_ge k (n*z.size) with h | h
  ·have h1:k<(n+1)*z.size:=by rw[Nat.add_mul]; omega
   rw[List.getElem?_append_left (by simpa using h)]
   simp[List.getElem?_range h,List.getElem?_range h1]
  ·rw[List.getElem?_append_right (by simpa using h)]
   simp only[List.length_map,List.length_range,List.flatten_cons,List.flatten_nil,bj]
   rcases Nat.lt_or_ge k ((n+1)*z.size) with h1 | h1
   ·have h2:k-n*z.size<z.size:=by rw[Nat.add_mul] at h1; omega
    have h3:k % z.size=k-n*z.size:=by
     have:k=(k-n*z.size)+n*z.size:=by omega
     conv=>lhs; rw[this]
     rw[Nat.add_mul_mod_self_right,Nat.mod_eq_of_lt h2]
    rw[List.getElem?_range h1]
    simp[h3,h2]
   ·rw[List.getElem?_eq_none (by simpa using h1),List.getElem?_eq_none (by simp; rw[Nat.add_mul] at h1; omega)]
    rfl

/-- A zero of a slice's elements, as a tree with nothing of its own in it. -/
def ElemZero(P:Program)(T:TypeId)(p:PV):Prop:=∃ e,P.underlying T=some (.slice e)∧ZeroIs P e (.pv p)

theorem valid_makeSlice{P:Program}{nt:Nat}{o:Oper}{st:St}{d c sz bytes:Nat}{T T1:TypeId}{x y:Operand}{k k':IntKind}{n m:Int}{p:PV}(hop:o.op=.makeSlice T x y)(hdst:o.dst=some d)(hd:d<nt)
 (hT:SlIs P T sz bytes) (hz:ElemZero P T p) (hp:p.size=sz) (hx:ev P st T1 x=.val (.pv (.lit (.int k n)))) (hy:ev P st T1 y=.val (.pv (.lit (.int k' m)))) (h0:0≤n) (hnm:n≤m) (hm:m≤1099511627776) (hb:(bytes:Int)*m≤281474976710656):
 Valid P nt o st { rs:=rd x++rd y,fc:=(resObjs (.sl true sz (List.replicate n.toNat p)) c).map (·.1),us:=[(d,resSV (.sl true sz (List.replicate n.toNat p)) c)],uo:=deadObjs []++newObjs (resObjs (.sl true sz (List.replicate n.toNat p)) c) }:=by
 refine valid_res hdst hd (by simp) (by simp) ?_
 intro κ G st' a w hnt hsame hG
 obtain⟨e,i,z,h1,h2,h3,h4,h5,h6,h7⟩:=hT
 obtain⟨e',h1',i',z',g1,g2,g3⟩:=hz
 rw[h1] at h1'; cases h1'
 rw[h2] at g1; cases g1
 rw[h5] at g2; cases g2
 have e1:=ev_lit hG hx (fun k hk=>hsame.1 k (by simp[hk]))
 have e2:=ev_lit hG hy (fun k hk=>hsame.1 k (by simp[hk]))
 have hrun:=run_make (P:=P) w T e i z h1 h2 h5 k k' n m h0 hnm (by rw[h4]; exact hb) (by omega)
 have hzc:RepC (Nof κ st' G w) w p z.cells.toList []:=by
  have:=cval_cells (g3 (Nof κ st' G w) w G.hd)
  simpa[RepCV] using this
 have hl:(List.replicate n.toNat p).length=n.toNat:=by simp
 have hmc:(madeCells z.cells (m.toNat*i.size)).toList=(List.replicate m.toNat z.cells.toList).flatten:=by rw[h3,← h6]; exact madeCells_eq (by omega) _
 have hnm':n.toNat≤m.toNat:=by omega
 have htake:((List.replicate m.toNat z.cells.toList).flatten).take (n.toNat*sz)=(List.replicate n.toNat z.cells.toList).flatten:=by
  have:m.toNat=n.toNat+(m.toNat-n.toNat):=by omega
  rw[this,← List.replicate_append_replicate,List.flatten_append]
  have hlen:((List.replicate n.toNat z.cells.toList).flatten).length=n.toNat*sz:=by simp[h6]
  rw[← hlen]; exact List.take_left
 obtain⟨f1,f2,f3⟩:=rep_newRow (cap:=m.toNat) (e:=e) (sz:=sz) (D:=[]) (cs:=(madeCells z.cells (m.toNat*i.size)).toList) hG (by simp) (by simp) (by simpa[fps] using repCs_replicate hzc n.toNat) (fun q hq=>by rw[(List.mem_replicate.1 hq).2]; exact hp)
  (by rw[hl,hmc,htake]) (by simp[size_madeCells,h3]) (by rw[hl]; exact hnm') (by simp only[maxLen]; omega)
 rw[hl] at f1
 refine⟨_,_,_,?_,keepX_alloc,f2,f3,f1⟩
 simp[execOp,hop,e1,e2,hrun]

/-! ### append -/
theorem run_append_room'{P:Program}(w:World)(t ty e e':TypeId)(i:TypeInfo)(ht:P.underlying t=some (.slice e))(hi:P.info? e=some i)
 (g sLen sCap:Nat) (cur:Array Value) (hg:w.heap[g]?=some (.cells cur e' (0,0))) (ax:Option Addr) (m c:Nat) (news:List Value)
 (hf:(Builtin.firstCells i.size m (.slice ax m c)).run P w=.ok news.toArray w) (h1:∀ u∈news,u.oneCell'=true) (hroom:sLen+m≤sCap) (hfit:sLen*i.size+news.length≤cur.size):
 (Builtin.append_ #[t,t] ty #[.slice (some ⟨g,0,none⟩) sLen sCap,.slice ax m c]).run P w=
  .ok (.slice (some ⟨g,0,none⟩) (sLen+m) sCap) (w.setRow g (cur.toList.take (sLen*i.size)++news++cur.toList.drop (sLen*i.size+news.length)).toArray):=by
 have hst:=run_storeCells_at P g (sLen*i.size) e' news 0 cur w hg (by simpa using hfit) h1
 simp only[Nat.add_zero] at hst
 simp[Builtin.append_,run_underlying ht,sizeOf,typeInfo,hi,Builtin.lenOf,hroom,hf,Addr.add_lit,hst]

theorem run_append_grow'{P:Program}(w:World)(t ty e:TypeId)(i:TypeInfo)(z:Value)(ht:P.underlying t=some (.slice e))(hi:P.info? e=some i)(hz:i.zero=some z)
 (ab:Option Addr) (sLen sCap:Nat) (olds:List Value) (hfo:(Builtin.firstCells i.size sLen (.slice ab sLen sCap)).run P w.drew=.ok olds.toArray w.drew)
 (ax:Option Addr) (n c:Nat) (news:List Value) (hf:(Builtin.firstCells i.size n (.slice ax n c)).run P w.drew=.ok news.toArray w.drew)
 (hg:sCap<sLen+n) (h63:((sLen+n:Nat):Int)≤9223372036854775807) (hfit:Builtin.nextslicecap (sLen+n) sCap*i.bytes≤281474976710656):
 (Builtin.append_ #[t,t] ty #[.slice ab sLen sCap,.slice ax n c]).run P w=
  .ok (.slice (some ⟨w.heap.size,0,none⟩) (sLen+n) (grownCap w (sLen+n) sCap e))
   (w.drew.alloc (.cells (olds.toArray++news.toArray++Builtin.zeroCells z.cells (grownCap w (sLen+n) sCap e-(sLen+n))) e)):=by
 have hn:¬ (sLen+n≤sCap):=by omega
 have h63':¬ (9223372036854775807<((sLen:Int)+(n:Int))):=by omega
 have h48':¬ (281474976710656<Builtin.nextslicecap (sLen+n) sCap*i.bytes):=by omega
 simp[Builtin.append_,run_underlying ht,sizeOf,typeInfo,zeroValue,hi,hz,Builtin.lenOf,hn,h63',h48',Question.forced,hf,hfo,newRow,grownCap]
 congr 2
 apply Array.ext'
 simp[aS]

/-- The elements that a slice value brings, with the names that are used up. -/
def srcOf(st:St):SlotV→Option (List Nat×Nat×List PV)
 | .val (.own c)=>match st.o c with
  | some (sz,es)=>some ([c],sz,es)
  | none=>none
 | .val (.pv (.sl false sz es))=>some ([],sz,es)
 | .val (.pv (.sl true sz []))=>some ([],sz,[])
 | _=>none

/-- A slice that may grow: one's own, or nil. -/
def baseOf(st:St):SlotV→Option (List Nat×Nat×List PV)
 | .val (.own c)=>match st.o c with
  | some (sz,es)=>some ([c],sz,es)
  | none=>none
 | .val (.pv (.sl true sz []))=>some ([],sz,[])
 | _=>none

theorem run_firstCells_nil{P:Program}{size n:Nat}{c:Nat}(w:World):(Builtin.firstCells size n (.slice none n c)).run P w=.ok #[] w:=rfl

/-- What a source of elements is, in memory. -/
theorem src_ok{κ:Ctx}{G:Gh}{st:St}{a:Act}{w:World}{P:Program}{sv:SlotV}{v:Value}{D:List Nat}{sz:Nat}{es:List PV}(hG:RG κ G st a w)(hsv:SlotOk (Nof κ st G w) w G 0 v sv)(h:srcOf st sv=some (D,sz,es))(hsz:∀ e∈es,PV.size e=sz):
 ∃ ax cap ccs F,v=.slice ax es.length cap∧RepCs (Nof κ st G w) w es ccs F∧(∀ b∈F,b∈fps G.fp D)∧F.Nodup∧(∀ c∈D,(st.o c).isSome=true)∧D.Nodup∧(es=[]→ccs=[])∧
  ∀ w',(∀ b,b<w.heap.size→w'.heap[b]?=w.heap[b]?)→(Builtin.firstCells sz es.length v).run P w'=.ok ccs.toArray w':=by
 unfold srcOf at h
 split at h
 ·rename_i c
  split at h
  ·rename_i sz' es' ho
   simp only[Option.some.injEq,Prod.mk.injEq] at h
   obtain⟨rfl,rfl,rfl⟩:=h
   have hv:=slotOk_own hsv
   obtain⟨h1,h2,h3⟩:=hG.objs c _ _ ho
   simp only[RepC] at h1
   rcases h1 with⟨h1,h4,h5⟩ | ⟨b,cap,cc,e,F',ccs,f1,f2,f3,f4,f5,f6,f7,f8,f9⟩
   ·simp at h1
    subst h4
    exact⟨none,0,[],[],by rw[hv,h1]; rfl,by simp[RepCs],by simp,List.nodup_nil,by simp[ho],by simp,fun _=>rfl,fun w' _=>by rw[hv,h1]; rfl⟩
   ·simp at f1
    refine⟨_,cap,ccs,F',by rw[hv,f1],f8,fun b' hb=>by simp[fps,f9,hb],(by rw[f9] at h2; exact(List.nodup_cons.1 h2).2),by simp[ho],by simp,fun h0=>?_,fun w' hw'=>?_⟩
    ·subst h0; simp only[RepCs] at f8; exact f8.1
    ·rw[hv,f1]
     have hb:b<w.heap.size:=(Array.getElem?_eq_some_iff.1 f5).1
     have hl:ccs.length=es'.length*sz':=by rw[RepCs.length _ _ _ f8,PV.sizes_const f4]
     refine run_firstCells_some (P:=P) w' sz' es'.length ⟨b,0,none⟩ _ cap ccs hl (fun j u hu=>?_)
     rw[add_off _ _ rfl]
     rw[← f7,List.getElem?_take] at hu
     split at hu
     ·simpa[World.cell?,hw' b hb,f5] using hu
     ·cases hu
  ·cases h
 ·rename_i sz' es'
  simp only[Option.some.injEq,Prod.mk.injEq] at h
  obtain⟨rfl,rfl,rfl⟩:=h
  rcases hsv with⟨h1,_⟩ | ⟨_,h1,_⟩
  ·simp[CV.isAgg] at h1
  simp only[RepCV,RepC] at h1
  obtain⟨ax,cap,g1,_,g3,g4,g5,g6⟩:=h1
  simp at g1
  rcases g6 with rfl | ⟨ad,ccs,rfl,f2,f3,f4,f5⟩
  ·refine⟨ax,cap,[],[],g1,by simp[RepCs],by simp,List.nodup_nil,by simp,by simp,fun _=>rfl,fun w' _=>?_⟩
   rw[g1]
   cases ax with
   | none=>rfl
   | some ad=>exact run_firstCells_some (P:=P) w' sz' 0 ad 0 cap [] (by simp) (by simp)
  ·refine⟨some ad,cap,ccs,[],g1,f5,by simp,List.nodup_nil,by simp,by simp,fun h0=>?_,fun w' hw'=>?_⟩
   ·subst h0; simp only[RepCs] at f5; exact f5.1
   ·rw[g1]
    have hb:ad.block<w.heap.size:=f3.lt hG
    have hl:ccs.length=es'.length*sz':=by rw[RepCs.length _ _ _ f5,PV.sizes_const g5]
    refine run_firstCells_some (P:=P) w' sz' es'.length ad _ cap ccs hl (fun j u hu=>?_)
    rw[add_off _ _ f2]
    have:=f4 j u hu
    simpa[World.cell?,hw' ad.block hb] using this
 ·rename_i sz'
  simp only[Option.some.injEq,Prod.mk.injEq] at h
  obtain⟨rfl,rfl,rfl⟩:=h
  rcases hsv with⟨h1,_⟩ | ⟨_,h1,_⟩
  ·simp[CV.isAgg] at h1
  simp only[RepCV,RepC] at h1
  rcases h1 with⟨h1,_,_⟩ | ⟨b,cap,c,e,F',ccs,_,_,_,_,_,_,_,_,h9⟩
  ·simp at h1
   exact⟨none,0,[],[],h1,by simp[RepCs],by simp,List.nodup_nil,by simp,by simp,fun _=>rfl,fun w' _=>by rw[h1]; rfl⟩
  ·simp at h9
 ·cases h

theorem srcOf_of_base{st:St}{sv:SlotV}{r:List Nat×Nat×List PV}(h:baseOf st sv=some r):srcOf st sv=some r:=by
 unfold baseOf at h
 unfold srcOf
 split at h<;>first | exact h | cases h

/-- A slice of one's own (or nil) that may grow: how it lies. -/
theorem base_ok{κ:Ctx}{G:Gh}{st:St}{a:Act}{w:World}{sv:SlotV}{v:Value}{D:List Nat}{sz:Nat}{es:List PV}(hG:RG κ G st a w)(hsv:SlotOk (Nof κ st G w) w G 0 v sv)(h:baseOf st sv=some (D,sz,es)):
 (v=.slice none 0 0∧es=[])∨∃ c b cap cc e F' ccs,D=[c]∧st.o c=some (sz,es)∧v=.slice (some ⟨b,0,none⟩) es.length cap∧es.length≤cap∧cap≤maxLen∧(∀ e∈es,PV.size e=sz)∧w.heap[b]?=some (.cells cc e (0,0))∧
  cc.size=cap*sz∧cc.toList.take (es.length*sz)=ccs∧RepCs (Nof κ st G w) w es ccs F'∧G.fp c=b::F':=by
 unfold baseOf at h
 split at h
 ·rename_i c
  split at h
  ·rename_i sz' es' ho
   simp only[Option.some.injEq,Prod.mk.injEq] at h
   obtain⟨rfl,rfl,rfl⟩:=h
   have hv:=slotOk_own hsv
   obtain⟨h1,h2,h3⟩:=hG.objs c _ _ ho
   simp only[RepC] at h1
   rcases h1 with⟨h1,h4,h5⟩ | ⟨b,cap,cc,e,F',ccs,f1,f2,f3,f4,f5,f6,f7,f8,f9⟩
   ·simp at h1
    exact .inl ⟨by rw[hv,h1],h4⟩
   ·simp at f1
    exact .inr ⟨c,b,cap,cc,e,F',ccs,rfl,ho,by rw[hv,f1],f2,f3,f4,f5,f6,f7,f8,f9⟩
  ·cases h
 ·rename_i sz'
  simp only[Option.some.injEq,Prod.mk.injEq] at h
  obtain⟨rfl,rfl,rfl⟩:=h
  rcases hsv with⟨h1,_⟩ | ⟨_,h1,_⟩
  ·simp[CV.isAgg] at h1
  simp only[RepCV,RepC] at h1
  rcases h1 with⟨h1,_,_⟩ | ⟨b,cap,c,e,F',ccs,_,_,_,_,_,_,_,_,h9⟩
  ·simp at h1; exact .inl ⟨h1,rfl⟩
  ·simp at h9
 ·cases h

theorem size_zeroCells'(z:Array Value)(n:Nat):(Builtin.zeroCells z n).size=n*z.size:=by simp[Builtin.zeroCells]

theorem baseOf_congr{st st':St}{sv:SlotV}{D:List Nat}{sz:Nat}{es:List PV}(h:baseOf st sv=some (D,sz,es))(hs:∀ c∈D,st'.o c=st.o c):baseOf st' sv=some (D,sz,es):=by
 unfold baseOf at h ⊢
 split at h
 ·rename_i c
  split at h
  ·rename_i sz' es' ho
   simp only[Option.some.injEq,Prod.mk.injEq] at h
   obtain⟨rfl,rfl,rfl⟩:=h
   simp[hs c (by simp),ho]
  ·cases h
 ·exact h
 ·cases h
theorem srcOf_congr{st st':St}{sv:SlotV}{D:List Nat}{sz:Nat}{es:List PV}(h:srcOf st sv=some (D,sz,es))(hs:∀ c∈D,st'.o c=st.o c):srcOf st' sv=some (D,sz,es):=by
 unfold srcOf at h ⊢
 split at h
 ·rename_i c
  split at h
  ·rename_i sz' es' ho
   simp only[Option.some.injEq,Prod.mk.injEq] at h
   obtain⟨rfl,rfl,rfl⟩:=h
   simp[hs c (by simp),ho]
  ·cases h
 ·exact h
 ·exact h
 ·cases h
theorem src_live{st:St}{sv:SlotV}{D:List Nat}{sz:Nat}{es:List PV}(h:srcOf st sv=some (D,sz,es)):∀ c∈D,(st.o c).isSome=true:=by
 unfold srcOf at h
 split at h
 ·rename_i c
  split at h
  ·rename_i sz' es' ho
   simp only[Option.some.injEq,Prod.mk.injEq] at h
   obtain⟨rfl,rfl,rfl⟩:=h
   simp[ho]
  ·cases h
 ·cases h; simp
 ·cases h; simp
 ·cases h

theorem valid_append{P:Program}{nt:Nat}{o:Oper}{st:St}{d c sz bytes:Nat}{T:TypeId}{x y:Operand}{D1 D2:List Nat}{es ys:List PV}(hop:o.op=.call { callee:=.builtin .append,args:=#[x,y],argTypes:=#[T,T] })(hdst:o.dst=some d)(hd:d<nt)
 (hT:SlIs P T sz bytes) (hx:baseOf st (ev P st T x)=some (D1,sz,es)) (hy:srcOf st (ev P st T y)=some (D2,sz,ys)) (hnd:(D1++D2).Nodup) (hes:∀ e∈es,PV.size e=sz) (hys:∀ e∈ys,PV.size e=sz)
 (hb:(es.length+ys.length)*bytes≤140737488355328) (hmax:es.length+ys.length≤1099511627776):
 Valid P nt o st { rs:=rd x++rd y,ro:=D1++D2,fc:=(resObjs (.sl true sz (es++ys)) c).map (·.1),us:=[(d,resSV (.sl true sz (es++ys)) c)],uo:=deadObjs (D1++D2)++newObjs (resObjs (.sl true sz (es++ys)) c) }:=by
 have hlive:∀ n∈D1++D2,(st.o n).isSome=true:=by
  intro n hn
  rcases List.mem_append.1 hn with hn | hn
  ·exact src_live (srcOf_of_base hx) n hn
  ·exact src_live hy n hn
 refine valid_res hdst hd hlive (fun _ h=>h) ?_
 intro κ G st' a w hnt hsame hG
 obtain⟨e,i,z,h1,h2,h3,h4,h5,h6,h7⟩:=hT
 have hvx:=ev_ok (P:=P) (T:=T) hG x 0
 rw[ev_congr (fun k hk=>hsame.1 k (by simp[hk]))] at hvx
 have hvy:=ev_ok (P:=P) (T:=T) hG y 0
 rw[ev_congr (fun k hk=>hsame.1 k (by simp[hk]))] at hvy
 have hx':=baseOf_congr hx (fun c hc=>hsame.2 c (by simp[hc]))
 have hy':=srcOf_congr hy (fun c hc=>hsame.2 c (by simp[hc]))
 have hlive':∀ n∈D1++D2,(st'.o n).isSome=true:=fun n hn=>by rw[hsame.2 n hn]; exact hlive n hn
 obtain⟨ax,capx,ccx,Fx,k1,k2,k3,k4,k5,k6,k7,k8⟩:=src_ok (P:=P) hG hvx (srcOf_of_base hx') hes
 obtain⟨ay,capy,ccy,Fy,m1,m2,m3,m4,m5,m6,m7,m8⟩:=src_ok (P:=P) hG hvy hy' hys
 have hlx:ccx.length=es.length*sz:=by rw[RepCs.length _ _ _ k2,PV.sizes_const hes]
 have hly:ccy.length=ys.length*sz:=by rw[RepCs.length _ _ _ m2,PV.sizes_const hys]
 have hwhole:=RepCs.append _ _ _ _ _ _ k2 m2
 have hsub:∀ b∈Fx++Fy,b∈fps G.fp (D1++D2):=by
  intro b hb; rw[fps_append]
  rcases List.mem_append.1 hb with hb | hb
  ·exact List.mem_append.2 (.inl (k3 b hb))
  ·exact List.mem_append.2 (.inr (m3 b hb))
 have hfpn:=fps_nodup hG (D1++D2) hnd hlive'
 have hFn:(Fx++Fy).Nodup:=by
  rw[fps_append] at hfpn
  refine List.nodup_append.2 ⟨k4,m4,fun p hp q hq e=>?_⟩
  exact(List.nodup_append.1 hfpn).2.2 p (k3 p hp) q (m3 q hq) e
 have hlt:∀ b∈fps G.fp (D1++D2),b<w.heap.size:=by
  intro b hb
  obtain⟨c,hc,hm⟩:=mem_fps.1 hb
  obtain⟨p,hp⟩:=Option.isSome_iff_exists.1 (hlive' c hc)
  exact((hG.objs c p.1 p.2 hp).2.2 b hm).2
 have hsz2:∀ p∈es++ys,PV.size p=sz:=fun p hp=>(List.mem_append.1 hp).elim (hes p) (hys p)
 have hexec:∀ r,(Builtin.append_ #[T,T] o.type #[a.eval x,a.eval y]).run P w=r→(execOp a.eval o).run P w=r.andThen fun v w'=>.ok (.value v) w':=by
  intro r hr; subst hr
  simp[execOp,hop,resolve,invoke,builtin]
 have grow:capx<es.length+ys.length→∃ v w' F,(execOp a.eval o).run P w=.ok (.value v) w'∧KeepX (fps G.fp (D1++D2)) w.heap.size w w'∧(∀ b∈F,(w.heap.size≤b∨b∈fps G.fp (D1++D2))∧b<w'.heap.size)∧F.Nodup∧RepR (Nof κ st' G w) w' (.sl true sz (es++ys)) v F:=by
  intro hg
  have hdrew:∀ b,b<w.heap.size→w.drew.heap[b]?=w.heap[b]?:=fun _ _=>rfl
  have hfo:=k8 w.drew hdrew
  have hf:=m8 w.drew hdrew
  rw[k1,← h3] at hfo
  rw[m1,← h3] at hf
  have hr:=run_append_grow' (P:=P) w T o.type e i z h1 h2 h5 ax es.length capx ccx hfo ay ys.length capy ccy hf hg (by omega) (growslice_fits hg (by rw[h4]; exact hb))
  rw[← k1,← m1] at hr
  have hcap:=grownCap_le_maxLen w (es.length+ys.length) capx e (by simp only[maxLen]; omega)
  have hge:=grownCap_ge w (es.length+ys.length) capx e
  have hr':=hexec _ hr
  rw[Result.andThen_ok] at hr'
  refine⟨_,_,w.heap.size::(Fx++Fy),hr',⟨rfl,rfl,rfl,by simp,fun k hk _=>heap_push_lt (w:=w.drew) hk,fun _=>Nat.le_succ _⟩,?_,?_,?_⟩
  ·intro b hb
   rcases List.mem_cons.1 hb with rfl | hb
   ·exact⟨.inl (aM _),by simp⟩
   ·exact⟨.inr (hsub b hb),by have:=hlt b (hsub b hb); simp; omega⟩
  ·rw[List.nodup_cons]
   exact⟨fun hm=>by have:=hlt _ (hsub _ hm); omega,hFn⟩
  ·refine repR_sl ?_
   simp only[RepC]
   refine .inr ⟨w.heap.size,_,_,e,Fx++Fy,ccx++ccy,by rw[aV],by rw[aV]; exact hge,hcap,hsz2,heap_push_eq (w:=w.drew),?_,?_,?_,rfl⟩
   ·simp only[Array.size_append,List.size_toArray,size_zeroCells',h6,hlx,hly,← Nat.add_mul]; congr 1; omega
   ·have hl:(es++ys).length*sz=(ccx++ccy).length:=by rw[aV,aV,hlx,hly,Nat.add_mul]
    rw[hl]
    simp only[Array.toList_append,List.toList_toArray]
    exact List.take_left
   ·have hfr:∀ (o:Obj) b,b<w.heap.size→(w.drew.alloc o).heap[b]?=w.heap[b]?:=fun o b hb=>heap_push_lt (w:=w.drew) hb
    exact RepCs.frame (w:=w) (fun _ h=>h) (fun b hb=>hfr _ b (hb.lt hG)) _ _ _ (fun b hb=>hfr _ b (hlt b (hsub b hb))) hwhole
 rcases base_ok hG hvx hx' with⟨g1,g2⟩ | ⟨cn,b,cap,cc,e',F',ccs,rfl,g2,g3,g4,g5,g6,g7,g8,g9,g10,g11⟩
 ·-- nil
  subst g2
  rw[g1] at k1
  simp at k1
  obtain⟨rfl,rfl⟩:=k1
  by_cases hys0:ys=[]
  ·subst hys0
   have hccy:=m7 rfl
   subst hccy
   refine⟨.slice none 0 0,w,[],?_,KeepX.refl _ _ _,by simp,List.nodup_nil,repR_sl (by simp[RepC])⟩
   rw[hexec (.ok (.slice none 0 0) w)]
   ·rfl
   ·rw[g1,m1]
    have hf:=m8 w (fun _ _=>rfl)
    rw[m1] at hf
    simp only[List.length_nil] at hf ⊢
    simp[Builtin.append_,run_underlying h1,sizeOf,typeInfo,h2,h3,Builtin.lenOf,hf]
  ·exact grow (by have:=List.length_pos_iff.2 hys0; simp; omega)
 ·rw[g3] at k1
  simp at k1
  obtain⟨rfl,rfl⟩:=k1
  by_cases hroom:es.length+ys.length≤cap
  ·-- in place
   have hf:=m8 w (fun _ _=>rfl)
   rw[m1,← h3] at hf
   have hfit:es.length*i.size+ccy.length≤cc.size:=by rw[h3,hly,g8,← Nat.add_mul]; exact Nat.mul_le_mul_right _ hroom
   have hr:=run_append_room' (P:=P) w T o.type e e' i h1 h2 b es.length cap cc g7 ay ys.length capy ccy hf (RepCs.one _ _ _ m2) hroom hfit
   rw[← g3,← m1] at hr
   have hbfp:b∈G.fp cn:=by rw[g11]; simp
   have hother:∀ k,k≠b→(w.setRow b (cc.toList.take (es.length*i.size)++ccy++cc.toList.drop (es.length*i.size+ccy.length)).toArray).heap[k]?=w.heap[k]?:=fun k hk=>setRow_other w _ _ _ hk
   have hNb:∀ k,Nof κ st' G w k→k≠b:=fun k hk e=>hk.2 (.inr ⟨cn,_,g2,e▸hbfp⟩)
   have hcn:(G.fp cn).Nodup:=(hG.objs cn _ _ g2).2.1
   rw[g11] at hcn
   have hF'b:=(List.nodup_cons.1 hcn).1
   have hFyb:b∉fps G.fp D2:=by
    rw[fps_append] at hfpn
    intro hm
    exact(List.nodup_append.1 hfpn).2.2 b (by simp[fps,g11]) b hm rfl
   have hFn':(F'++Fy).Nodup:=by
    rw[fps_append] at hfpn
    refine List.nodup_append.2 ⟨(List.nodup_cons.1 hcn).2,m4,fun p hp q hq e=>?_⟩
    exact(List.nodup_append.1 hfpn).2.2 p (by simp[fps,g11,hp]) q (m3 q hq) e
   have hr':=hexec _ hr
   rw[Result.andThen_ok] at hr'
   refine⟨_,_,b::(F'++Fy),hr',⟨rfl,rfl,rfl,by simp[World.setRow],fun k hk hkL=>hother k (fun e=>hkL (by rw[fps_append]; simp[fps,g11,e])),fun _=>aM _⟩,?_,?_,?_⟩
   ·intro k hk
    have hk':k∈fps G.fp ([cn]++D2):=by
     rw[fps_append]
     rcases List.mem_cons.1 hk with rfl | hk
     ·simp[fps,g11]
     ·rcases List.mem_append.1 hk with hk | hk
      ·simp[fps,g11,hk]
      ·exact List.mem_append.2 (.inr (m3 k hk))
    exact⟨.inr hk',by have:=hlt k hk'; simpa[World.setRow] using this⟩
   ·rw[List.nodup_cons]
    refine⟨fun hm=>?_,hFn'⟩
    rcases List.mem_append.1 hm with hm | hm
    ·exact hF'b hm
    ·exact hFyb (m3 b hm)
   ·refine repR_sl ?_
    simp only[RepC]
    have hframe:∀ {ps:List PV} {cs:List Value} {F:List Nat},b∉F→RepCs (Nof κ st' G w) w ps cs F→RepCs (Nof κ st' G w) (w.setRow b (cc.toList.take (es.length*i.size)++ccy++cc.toList.drop (es.length*i.size+ccy.length)).toArray) ps cs F:=
     fun hbF h=>RepCs.frame (fun _ h=>h) (fun k hk=>hother k (hNb k hk)) _ _ _ (fun k hk=>hother k (fun e=>hbF (e▸hk))) h
    have hw2:=RepCs.append _ _ _ _ _ _ (hframe hF'b g10) (hframe (fun hm=>hFyb (m3 b hm)) m2)
    refine .inr ⟨b,cap,_,e',F'++Fy,ccs++ccy,by rw[aV],by rw[aV]; exact hroom,g5,hsz2,setRow_heap w _ _ _ _ _ g7,?_,?_,hw2,rfl⟩
    ·simp only[List.size_toArray,aV,List.length_take,List.length_drop,Array.length_toList]
     omega
    ·have hccs:ccs.length=es.length*sz:=by rw[RepCs.length _ _ _ g10,PV.sizes_const g6]
     have hl:(es++ys).length*sz=(ccs++ccy).length:=by rw[aV,aV,hccs,hly,Nat.add_mul]
     rw[hl,h3,g9]
     simp only[List.toList_toArray]
     exact List.take_left
  ·exact grow (by omega)

/-! ### Cuts of slices that are read, strings -/
def OptIs(P:Program)(st:St)(dflt m:Nat):Option Operand→Prop
 | none=>m=dflt
 | some y=>∃ k n,ev P st 0 y=.val (.pv (.lit (.int k n)))∧n=(m:Int)

theorem valid_slice_view{P:Program}{nt:Nat}{o:Oper}{st:St}{d sz bytes:Nat}{x:Operand}{lo hi:Option Operand}{T T1:TypeId}{b:Bool}{es:List PV}{l h:Nat}(hop:o.op=.slice T x lo hi none)(hdst:o.dst=some d)(hd:d<nt)
 (hT:SlIs P T sz bytes) (hx:ev P st T1 x=.val (.pv (.sl b sz es))) (hlo:OptIs P st 0 l lo)
 (hhi:OptIs P st es.length h hi) (hlh:l≤h) (hhl:h≤es.length):
 Valid P nt o st { rs:=rd x++(lo.toList.flatMap rd++hi.toList.flatMap rd),us:=[(d,.val (.pv (.sl false sz ((es.take h).drop l))))] }:=by
 refine valid_pure hdst hd rfl ?_
 intro κ G st' a w hnt hsame hG
 obtain⟨e,i,z,t1,t2,t3,_⟩:=hT
 have h1:=ev_ok (P:=P) (T:=T1) hG x d
 rw[ev_congr (fun k hk=>hsame.1 k (by simp[hk])),hx] at h1
 rcases h1 with⟨h1,_⟩ | ⟨_,h1,_⟩
 ·simp[CV.isAgg] at h1
 simp only[RepCV] at h1
 have hdem:=RepC.demote (fun _ h=>h) _ _ _ (by simp) h1
 have key:∃ ax cap,a.eval x=.slice ax es.length cap∧es.length≤cap∧cap≤maxLen∧(∀ e∈es,PV.size e=sz)∧(es=[]∨∃ ad ccs,ax=some ad∧ad.spot=none∧Nof κ st' G w ad.block∧RowAt w ad ccs∧RepCs (Nof κ st' G w) w es ccs []):=by
  cases b with
  | false=>
   simp only[RepC] at h1
   obtain⟨ax,cap,g1,_,g3,g4,g5,g6⟩:=h1
   simp at g1
   exact⟨ax,cap,g1,g3,g4,g5,g6⟩
  | true=>
   simp only[RepC] at h1
   rcases h1 with⟨g1,g2,_⟩ | ⟨b,cap,c,e,F',ccs,_,_,_,_,_,_,_,_,h9⟩
   ·simp at g1; subst g2
    exact⟨none,0,g1,by simp,by simp,by simp,.inl rfl⟩
   ·simp at h9
 obtain⟨ax,cap,g1,g3,g4,g5,g6⟩:=key
 have elo:∃ lv:Option Value,lo.map a.eval=lv∧(match lv with | none=>l=0 | some v=>∃ k,v=.int k (l:Int)):=by
  cases lo with
  | none=>exact⟨none,rfl,hlo⟩
  | some y=>
   obtain⟨k,n,e1,rfl⟩:=hlo
   exact⟨_,rfl,k,ev_lit hG e1 (fun k hk=>hsame.1 k (by simp[hk]))⟩
 have ehi:∃ hv:Option Value,hi.map a.eval=hv∧(match hv with | none=>h=es.length | some v=>∃ k,v=.int k (h:Int)):=by
  cases hi with
  | none=>exact⟨none,rfl,hhi⟩
  | some y=>
   obtain⟨k,n,e1,rfl⟩:=hhi
   exact⟨_,rfl,k,ev_lit hG e1 (fun k hk=>hsame.1 k (by simp[hk]))⟩
 obtain⟨lv,e1,e2⟩:=elo
 obtain⟨hv,e3,e4⟩:=ehi
 have hlb:(Instr.sliceBounds true es.length cap lv hv none).run P w=.ok (l,h,cap) w:=by
  have hc:¬ cap<h:=by omega
  have hl':¬ h<l:=by omega
  have hc1:h≤cap:=by omega
  cases lv with
  | none=>
   simp only at e2; subst e2
   cases hv with
   | none=>simp only at e4; subst e4; simp[Instr.sliceBounds]
   | some v=>obtain⟨k,rfl⟩:=e4; simp[Instr.sliceBounds,Instr.sliceBound,asIntOf,hc,hc1]
  | some u=>
   obtain⟨k',rfl⟩:=e2
   cases hv with
   | none=>simp only at e4; subst e4; simp[Instr.sliceBounds,Instr.sliceBound,asIntOf,hl',hlh]
   | some v=>obtain⟨k,rfl⟩:=e4; simp[Instr.sliceBounds,Instr.sliceBound,asIntOf,hc,hl',hc1,hlh]
 have hrun:(execOp a.eval o).run P w=.ok (.value (.slice (if cap=l then ax else ax.map (·.add (l*sz))) (h-l) (cap-l))) w:=by
  simp[execOp,hop,Instr.sliceAt,run_underlying t1,Instr.slice,g1,e1,e3,hlb,sizeOf,typeInfo,t2,t3]
 refine⟨_,hrun,.inr ⟨rfl,?_,rfl⟩⟩
 simp only[RepCV,RepC]
 have hlen:((es.take h).drop l).length=h-l:=by simp[Nat.min_eq_left hhl]
 refine⟨_,cap-l,by rw[hlen],trivial,by rw[hlen]; omega,by omega,fun q hq=>g5 q (List.mem_of_mem_take (List.mem_of_mem_drop hq)),?_⟩
 by_cases hempty:(es.take h).drop l=[]
 ·exact .inl hempty
 right
 rcases g6 with rfl | ⟨ad,ccs,rfl,f2,f3,f4,f5⟩
 ·simp at hempty
 have hlt:l<h:=by
  rcases Nat.lt_or_ge l h with h' | h'
  ·exact h'
  ·exact absurd (List.eq_nil_of_length_eq_zero (by rw[hlen]; omega)) hempty
 have hne:¬ cap=l:=by omega
 rw[if_neg hne]
 have hsp:es=es.take l++((es.take h).drop l++es.drop h):=by
  have h1:=List.take_append_drop h es
  have h2:=List.take_append_drop l (es.take h)
  rw[List.take_take,Nat.min_eq_left hlh] at h2
  rw[← aS,h2,h1]
 rw[hsp] at f5
 obtain⟨c1,c2,F1,F2,k1,k2,k3,k4⟩:=RepCs.split _ _ _ _ f5
 obtain⟨c3,c4,F3,F4,k5,k6,k7,k8⟩:=RepCs.split _ _ _ _ k4
 have hF3:F3=[]:=by
  have:=congrArg List.length k2; rw[k6] at this; simp at this; exact List.eq_nil_of_length_eq_zero (by omega)
 subst hF3
 have hl1:c1.length=l*sz:=by rw[RepCs.length _ _ _ k3,sizes_take g5 (by omega)]
 refine⟨⟨ad.block,ad.off+l*sz,none⟩,c3,by simp[add_off _ _ f2],rfl,f3,?_,k7⟩
 rw[k1,k5,← aS] at f4
 have:=f4.sub
 rwa [hl1] at this

theorem valid_index_str{P:Program}{nt:Nat}{o:Oper}{st:St}{d:Nat}{x y:Operand}{T T1 T2:TypeId}{s:ByteArray}{k:IntKind}{n:Int}(hop:o.op=.index T x y)(hdst:o.dst=some d)(hd:d<nt)
 (hT:P.underlying T=some .string) (hx:ev P st T1 x=.val (.pv (.lit (.string s)))) (hy:ev P st T2 y=.val (.pv (.lit (.int k n)))) (h0:0≤n) (hl:n<s.size):
 Valid P nt o st { rs:=rd x++rd y,us:=[(d,.val (.pv (.lit (.int .u8 ((s.data.toList.getD n.toNat 0).toNat:Int)))))] }:=by
 refine valid_pure hdst hd rfl ?_
 intro κ G st' a w hnt hsame hG
 have e1:=ev_lit hG hx (fun k hk=>hsame.1 k (by simp[hk]))
 have e2:=ev_lit hG hy (fun k hk=>hsame.1 k (by simp[hk]))
 have hi:n.toNat<s.size:=by omega
 refine⟨.int .u8 ((s.data.toList.getD n.toNat 0).toNat:Int),?_,slotOk_lit rfl⟩
 have hg:s[n.toNat]?=some (s.data.toList.getD n.toNat 0):=by
  have:n.toNat<s.data.size:=hi
  rw[getElem?_pos s n.toNat hi]
  have e:s.data[n.toNat]?=some s.data[n.toNat]:=Array.getElem?_eq_getElem this
  simp[List.getD,ByteArray.getElem_eq_getElem_data,e]
 simp[execOp,hop,e1,e2,Instr.index,asIntOf,run_underlying hT,h0,hg]

/-! ### Closures -/
/-- A variable that is captured: from now on it stays as it is. -/
theorem R.freeze{κ:Ctx}{G:Gh}{st:St}{a:Act}{w:World}{r:Nat}{x:CV}(h:RG κ G st a w)(hr:st.s r=.box x)(hp:x.pure=true):RG κ G (st.set r (.val (.pv (.ptr (x.pvw st.o))))) a w:=by
 have hbr:isBox (st.s r)=true:=by rw[hr]; rfl
 have h2:=h.slots r
 rw[hr] at h2
 obtain⟨hp0,cs,e,h3,h4⟩:=h2
 have hrn:r<κ.nt:=by
  rcases Nat.lt_or_ge r κ.nt with h' | h'
  ·exact h'
  ·rw[Array.getD_eq_getD_getElem?,Array.getElem?_eq_none (by rw[h.nt]; exact h')] at hp0
   simp[undef] at hp0
 have hput:a=a.put (some r) (a.tmps.getD r undef):=by
  have hlt:r<a.tmps.size:=by rw[h.nt]; exact hrn
  cases a with
  | mk t ds=>
   simp only[Act.put,Act.mk.injEq,and_true]
   apply Array.ext_getElem?
   intro i
   rw[Array.getElem?_setIfInBounds]
   split
   ·rename_i hi; subst hi; simp[Array.getD_eq_getD_getElem?]
   ·rfl
 have hbox:∀ k,isBox ((st.set r (.val (.pv (.ptr (x.pvw st.o))))).s k)=true→isBox (st.s k)=true∧k≠r:=by
  intro k hk
  simp only[St.set,upd] at hk
  split at hk
  ·cases hk
  ·exact⟨hk,by assumption⟩
 have hN:∀ b,Nof κ st G w b→Nof κ (st.set r (.val (.pv (.ptr (x.pvw st.o))))) G w b:=by
  intro b hb
  refine⟨hb.1,fun hp=>hb.2 ?_⟩
  rcases hp with⟨k,g1,g2⟩ | ⟨c,p,g1,g2⟩
  ·exact .inl ⟨k,(hbox k g1).1,g2⟩
  ·exact .inr ⟨c,p,g1,g2⟩
 have hNr:Nof κ (st.set r (.val (.pv (.ptr (x.pvw st.o))))) G w (G.ad r):=by
  have hb:=h.boxes r hbr
  refine⟨.inr hb,fun hp=>?_⟩
  rcases hp with⟨k,g1,g2⟩ | ⟨c,p,g1,g2⟩
  ·exact(hbox k g1).2 (h.bb k r (hbox k g1).1 hbr g2.symm)
  ·exact h.bo r c p hbr g1 g2
 rw[hput]
 refine h.step hrn (KeepX.refl _ _ _) hN (fun _ _=>rfl) (fun k hk=>.inl (by simp[St.set,upd,hk])) ?_ (fun _ _ _ _ _=>rfl) (fun _ _ _ _ _=>rfl) (fun _ _ _ _=>⟨rfl,rfl⟩) ?_ (fun k hk=>h.boxes k (hbox k hk).1)
  (fun k k' h1 h2=>h.bb k k' (hbox k h1).1 (hbox k' h2).1) (fun k c p h1 h2=>h.bo k c p (hbox k h1).1 h2) (fun c c' p p' h1 h2=>h.oo c c' p p' h1 h2) (fun _ _=>rfl)
 ·have:(st.set r (.val (.pv (.ptr (x.pvw st.o))))).s r=.val (.pv (.ptr (x.pvw st.o))):=by simp[St.set,upd]
  rw[this]
  refine .inr ⟨rfl,?_,by rw[hp0]; rfl⟩
  simp only[RepCV,RepC]
  refine⟨⟨G.ad r,0,none⟩,cs,by rw[hp0],trivial,rfl,hNr,?_,?_⟩
  ·have:=rowAt_of_block (w:=w) (b:=G.ad r) (c1:=[]) (c2:=cs) (c3:=[]) (e:=e) (fr:=(0,0)) (by simpa using h3)
   simpa using this
  ·exact RepC.frame hN (fun _ _=>rfl) _ _ _ (fun _ _=>rfl) (RepCV.pureView (ob:=st.o) x cs hp h4)
 ·intro c sz es hc
  obtain⟨g1,g2,g3⟩:=h.objs c sz es hc
  exact⟨RepC.frame hN (fun _ _=>rfl) _ _ _ (fun _ _=>rfl) g1,g2,g3⟩

theorem updAll_or'{α:Type}:∀ (l:List (Nat×α)) (f:Nat→α) (k:Nat),updAll f l k=f k∨(k,updAll f l k)∈l
 | [],_,_=>.inl rfl
 | (j,v)::l,f,k=>by
  simp only[updAll]
  rcases updAll_or' l (upd f j v) k with h | h
  ·by_cases hk:k=j
   ·right; rw[h]; simp[upd,hk]
   ·left; rw[h]; simp[upd,hk]
  ·exact .inr (List.mem_cons_of_mem _ h)

/-- What is captured: pointers to variables, each with what it holds. -/
def capOf(st:St):Operand→Option (Nat×PV)
 | .tmp r=>match st.s r with
  | .box x=>if x.pure then some (r,x.pvw st.o) else none
  | .val (.pv (.ptr v))=>some (r,v)
  | _=>none
 | _=>none
def capsOf(st:St):List Operand→Option (List (Nat×PV))
 | []=>some []
 | x::xs=>match capOf st x,capsOf st xs with
  | some c,some cs=>some (c::cs)
  | _,_=>none
def frozen(cs:List (Nat×PV)):List (Nat×SlotV):=cs.map fun c=>(c.1,.val (.pv (.ptr c.2)))

theorem freeze_all{κ:Ctx}{G:Gh}{a:Act}{w:World}:∀ (xs:List Operand) (st:St) (cs:List (Nat×PV)),RG κ G st a w→capsOf st xs=some cs→
 RG κ G { st with s:=updAll st.s (frozen cs) } a w∧∃ vals,xs.map a.eval=vals∧∀ N,(∀ b,Nof κ { st with s:=updAll st.s (frozen cs) } G w b→N b)→RepCs N w (cs.map fun c=>.ptr c.2) vals []:=by
 intro xs
 induction xs with
 | nil=>
  intro st cs hG h
  simp only[capsOf,Option.some.injEq] at h; subst h
  exact⟨hG,[],rfl,fun N _=>by simp[RepCs]⟩
 | cons x xs ih=>
  intro st cs hG h
  simp only[capsOf] at h
  split at h
  ·rename_i c cs' hc hcs
   simp only[Option.some.injEq] at h; subst h
   cases x with
   | tmp r=>
    simp only[capOf] at hc
    have key:RG κ G (st.set r (.val (.pv (.ptr c.2)))) a w∧c.1=r∧capsOf (st.set r (.val (.pv (.ptr c.2)))) xs=some cs':=by
     have hcaps:∀ ys ds,capsOf st ys=some ds→(∀ v,(st.s r=.val (.pv (.ptr v))→v=c.2)∧True)→(∀ y,st.s r=.box y→y.pvw st.o=c.2∧y.pure=true)→(st.s r≠.dead→True)→capsOf (st.set r (.val (.pv (.ptr c.2)))) ys=some ds:=by
      intro ys
      induction ys with
      | nil=>intro ds h _ _ _; exact h
      | cons y ys ihy=>
       intro ds h hv hb _
       simp only[capsOf] at h ⊢
       split at h
       ·rename_i d ds' hd hds
        rw[ihy ds' hds hv hb (fun _=>trivial)]
        have:capOf (st.set r (.val (.pv (.ptr c.2)))) y=some d:=by
         cases y with
         | tmp k=>
          simp only[capOf,St.set] at hd ⊢
          by_cases hk:k=r
          ·subst hk
           rw[upd_same]
           split at hd
           ·rename_i y' hy'
            rw[if_pos (hb y' hy').2] at hd
            rw[(hb y' hy').1] at hd; exact hd
           ·rename_i v hv'
            rw[(hv v).1 hv'] at hd; exact hd
           ·cases hd
          ·rw[upd_ne hk]; exact hd
         | _=>simp[capOf] at hd
        rw[this]; exact h
       ·cases h
     split at hc
     ·rename_i y hy
      split at hc
      ·rename_i hp
       simp only[Option.some.injEq] at hc
       subst hc
       exact⟨R.freeze hG hy hp,rfl,hcaps xs cs' hcs (fun v=>⟨fun e=>(by rw[hy] at e; cases e),trivial⟩) (fun y' e=>(by rw[hy] at e; cases e; exact⟨rfl,hp⟩)) (fun _=>trivial)⟩
      ·cases hc
     ·rename_i v hv
      simp only[Option.some.injEq] at hc
      subst hc
      have hsame:st.set r (.val (.pv (.ptr v)))=st:=by
       cases st; simp only[St.set,St.mk.injEq,and_true]
       funext k; simp only[upd]; split
       ·rename_i e; subst e; exact hv.symm
       ·rfl
      refine⟨by rw[hsame]; exact hG,rfl,by rw[hsame]; exact hcs⟩
     ·cases hc
    obtain⟨k1,k2,k3⟩:=key
    obtain⟨i1,vals,i2,i3⟩:=ih _ cs' k1 k3
    have hst:({ s:=updAll st.s (frozen (c::cs')),o:=st.o }:St)={ s:=updAll (st.set r (.val (.pv (.ptr c.2)))).s (frozen cs'),o:=st.o }:=by
     simp only[frozen,aF,updAll,k2]; rfl
    have hst':({ st.set r (.val (.pv (.ptr c.2))) with s:=updAll (st.set r (.val (.pv (.ptr c.2)))).s (frozen cs') }:St)={ s:=updAll st.s (frozen (c::cs')),o:=st.o }:=by rw[hst]; rfl
    rw[hst'] at i1 i3
    refine⟨i1,a.tmps.getD r undef::vals,by simp[i2,Act.eval],fun N hN=>?_⟩
    simp only[aF,RepCs]
    refine⟨[a.tmps.getD r undef],vals,[],[],rfl,rfl,?_,i3 N hN⟩
    have hslot:=i1.slots r
    have hsr:updAll st.s (frozen (c::cs')) r=.val (.pv (.ptr c.2))∨∃ v,updAll st.s (frozen (c::cs')) r=.val (.pv (.ptr v))∧v=c.2:=by
     rw[show updAll st.s (frozen (c::cs')) r=updAll (st.set r (.val (.pv (.ptr c.2)))).s (frozen cs') r from by simp only[frozen,aF,updAll,k2]; rfl]
     rcases updAll_or' (frozen cs') (st.set r (.val (.pv (.ptr c.2)))).s r with h' | h'
     ·left; rw[h']; simp[St.set,upd]
     ·right
      obtain⟨⟨n,v⟩,g1,g2⟩:=List.mem_map.1 h'
      simp only[Prod.mk.injEq] at g2
      obtain⟨rfl,g2⟩:=g2
      refine⟨v,g2.symm,?_⟩
      have:∀ (ys:List Operand) (ds:List (Nat×PV)),capsOf (st.set n (.val (.pv (.ptr c.2)))) ys=some ds→(n,v)∈ds→v=c.2:=by
       intro ys
       induction ys with
       | nil=>intro ds h hm; simp only[capsOf,Option.some.injEq] at h; subst h; simp at hm
       | cons y ys ihy=>
        intro ds h hm
        simp only[capsOf] at h
        split at h
        ·rename_i d ds' hd hds
         simp only[Option.some.injEq] at h; subst h
         rcases List.mem_cons.1 hm with rfl | hm
         ·cases y with
          | tmp k=>
           simp only[capOf,St.set] at hd
           by_cases hk:k=n
           ·subst hk; rw[upd_same] at hd; simp at hd; exact hd.symm
           ·rw[upd_ne hk] at hd
            split at hd
            ·split at hd
             ·simp at hd; exact absurd hd.1 hk
             ·cases hd
            ·simp at hd; exact absurd hd.1 hk
            ·cases hd
          | _=>simp[capOf] at hd
         ·exact ihy ds' hds hm
        ·cases h
      exact this xs cs' k3 g1
    have hsr':updAll st.s (frozen (c::cs')) r=.val (.pv (.ptr c.2)):=by
     rcases hsr with h | ⟨v,h,rfl⟩<;>exact h
    simp only[hsr'] at hslot
    rcases hslot with⟨h1,_⟩ | ⟨_,h1,_⟩
    ·simp[CV.isAgg] at h1
    ·simp only[RepCV] at h1
     exact RepC.frame hN (fun _ _=>rfl) _ _ _ (fun _ _=>rfl) h1
   | _=>simp[capOf] at hc
  ·cases h

theorem valid_makeFunc{P:Program}{nt:Nat}{o:Oper}{st:St}{d:Nat}{f:FuncId}{captured:Array Operand}{cs:List (Nat×PV)}(hop:o.op=.makeFunc (.func f) #[] captured)(hdst:o.dst=some d)(hd:d<nt)
 (hcs:capsOf st captured.toList=some cs) (hpure:∀ n∈captured.toList.flatMap rd,∀ x,st.s n=.box x→x.names=[]):
 Valid P nt o st { rs:=captured.toList.flatMap rd,us:=frozen cs++[(d,.val (.pv (.clo f (cs.map fun c=>.ptr c.2))))] }:=by
 intro κ st' a w hnt hsame _ hR next Q hnext
 obtain⟨G,hG⟩:=hR
 have hcs':capsOf st' captured.toList=some cs:=by
  have:∀ (xs:List Operand) ds,(∀ k∈xs.flatMap rd,st'.s k=st.s k)→(∀ n∈xs.flatMap rd,∀ x,st.s n=.box x→x.names=[])→capsOf st xs=some ds→capsOf st' xs=some ds:=by
   intro xs
   induction xs with
   | nil=>intro ds _ _ h; exact h
   | cons x xs ih=>
    intro ds hs hn h
    simp only[capsOf] at h ⊢
    split at h
    ·rename_i c cs' hc hcs
     rw[ih cs' (fun k hk=>hs k (by simp only[List.flatMap_cons,aT]; exact .inr hk)) (fun k hk=>hn k (by simp only[List.flatMap_cons,aT]; exact .inr hk)) hcs]
     have:capOf st' x=some c:=by
      cases x with
      | tmp r=>
       simp only[capOf] at hc ⊢
       rw[hs r (by simp[rd])]
       split at hc
       ·rename_i y hy
        have hnm:=hn r (by simp[rd]) y hy
        rw[(CV.congr_ob (ob:=st.o) (ob':=st'.o) y (by rw[hnm]; simp)).2.1]
        exact hc
       ·exact hc
       ·cases hc
      | _=>simp[capOf] at hc
     rw[this]; exact h
    ·cases h
  exact this _ _ hsame.1 hpure hcs
 obtain⟨h1,vals,h2,h3⟩:=freeze_all captured.toList st' cs hG hcs'
 unfold Oper.wp
 have hrun:(execOp a.eval o).run P w=.ok (.value (.func (.func f) #[] vals.toArray)) w:=by
  have:captured.map a.eval=vals.toArray:=by apply Array.ext'; rw[← h2]; simp
  simp[execOp,hop,Instr.makeFunc,this]
 rw[hrun]
 simp only[Oper.upon]
 rw[hdst]
 refine hnext _ _ ?_
 have:=R.set (sv:=.val (.pv (.clo f (cs.map fun c=>.ptr c.2)))) (v:=.func (.func f) #[] vals.toArray) (d:=d) G h1 (by rw[hnt]; exact hd) rfl (.inr ⟨rfl,by
  simp only[RepCV,RepC]
  refine⟨vals,rfl,trivial,h3 _ (fun _ h=>h),fun p hp=>?_⟩
  obtain⟨c,_,rfl⟩:=List.mem_map.1 hp
  rfl,rfl⟩)
 simpa[St.app,updAll,St.set,updAll_append] using this

/-- The front of a slice of one's own is one's own; what stood behind it is let go. -/
theorem valid_slice_own{P:Program}{nt:Nat}{o:Oper}{st:St}{d n c sz bytes:Nat}{x:Operand}{lo hi:Option Operand}{T T1:TypeId}{es:List PV}{h:Nat}(hop:o.op=.slice T x lo hi none)(hdst:o.dst=some d)(hd:d<nt)
 (hT:SlIs P T sz bytes) (hx:ev P st T1 x=.val (.own c)) (ho:st.o c=some (sz,es)) (hlo:OptIs P st 0 0 lo)
 (hhi:OptIs P st es.length h hi) (hhl:h≤es.length):
 Valid P nt o st { rs:=rd x++(lo.toList.flatMap rd++hi.toList.flatMap rd),ro:=[c],fc:=(resObjs (.sl true sz (es.take h)) n).map (·.1),us:=[(d,resSV (.sl true sz (es.take h)) n)],uo:=deadObjs [c]++newObjs (resObjs (.sl true sz (es.take h)) n) }:=by
 refine valid_res hdst hd (by simp[ho]) (by simp) ?_
 intro κ G st' a w hnt hsame hG
 obtain⟨e,i,z,t1,t2,t3,_⟩:=hT
 have ho':st'.o c=some (sz,es):=by rw[hsame.2 c (by simp)]; exact ho
 have h1:=ev_ok (P:=P) (T:=T1) hG x d
 rw[ev_congr (fun k hk=>hsame.1 k (by simp[hk])),hx] at h1
 have hv:=slotOk_own h1
 obtain⟨q1,q2,q3⟩:=hG.objs c sz es ho'
 have elo:∃ lv:Option Value,lo.map a.eval=lv∧(match lv with | none=>True | some v=>∃ k,v=.int k 0):=by
  cases lo with
  | none=>exact⟨none,rfl,trivial⟩
  | some y=>
   obtain⟨k,n,e1,rfl⟩:=hlo
   exact⟨_,rfl,k,ev_lit hG e1 (fun k hk=>hsame.1 k (by simp[hk]))⟩
 have ehi:∃ hv:Option Value,hi.map a.eval=hv∧(match hv with | none=>h=es.length | some v=>∃ k,v=.int k (h:Int)):=by
  cases hi with
  | none=>exact⟨none,rfl,hhi⟩
  | some y=>
   obtain⟨k,n,e1,rfl⟩:=hhi
   exact⟨_,rfl,k,ev_lit hG e1 (fun k hk=>hsame.1 k (by simp[hk]))⟩
 obtain⟨lv,e1,e2⟩:=elo
 obtain⟨hw,e3,e4⟩:=ehi
 have hlb:∀ cap,es.length≤cap→(Instr.sliceBounds true es.length cap lv hw none).run P w=.ok (0,h,cap) w:=by
  intro cap g3
  have hc:¬ cap<h:=by omega
  have hc1:h≤cap:=by omega
  cases lv with
  | none=>
   cases hw with
   | none=>simp only at e4; subst e4; simp[Instr.sliceBounds]
   | some v=>obtain⟨k,rfl⟩:=e4; simp[Instr.sliceBounds,Instr.sliceBound,asIntOf,hc,hc1]
  | some u=>
   obtain⟨k',rfl⟩:=e2
   cases hw with
   | none=>simp only at e4; subst e4; simp[Instr.sliceBounds,Instr.sliceBound,asIntOf]
   | some v=>obtain⟨k,rfl⟩:=e4; simp[Instr.sliceBounds,Instr.sliceBound,asIntOf,hc,hc1]
 have hrun:∀ ax cap,G.hd c=.slice ax es.length cap→es.length≤cap→(execOp a.eval o).run P w=.ok (.value (.slice (if cap=0 then ax else ax.map (·.add (0*sz))) (h-0) (cap-0))) w:=by
  intro ax cap g1 g3
  simp[execOp,hop,Instr.sliceAt,run_underlying t1,Instr.slice,hv,g1,e1,e3,hlb cap g3,sizeOf,typeInfo,t2,t3]
 have hlen:(es.take h).length=h:=by simp[Nat.min_eq_left hhl]
 simp only[RepC] at q1
 rcases q1 with⟨g1,g2,g3⟩ | ⟨b,cap,cs,e',F',ccs,g1,g2,g3,g4,g5,g6,g7,g8,g9⟩
 ·subst g2
  have h0:h=0:=by simpa using hhl
  subst h0
  refine⟨_,w,[],hrun none 0 (by simpa using g1) (by simp),KeepX.refl _ _ _,by simp,by simp,?_⟩
  refine repR_sl ?_
  simp only[RepC]
  exact .inl (by simp)
 ·have hsp:=List.take_append_drop h es
  rw[← hsp] at g8
  obtain⟨c1,c2,F1,F2,k1,k2,k3,k4⟩:=RepCs.split _ _ _ _ g8
  have hl1:c1.length=h*sz:=by rw[RepCs.length _ _ _ k3,sizes_take g4 hhl]
  have hfp:fps G.fp [c]=b::F':=by simp[fps,g9]
  refine⟨_,w,b::F1,hrun _ cap (by simpa using g1) g2,KeepX.refl _ _ _,?_,?_,?_⟩
  ·intro q hq
   have hq':q∈G.fp c:=by
    rw[g9,k2]; simp only[List.mem_cons,aT] at hq ⊢
    rcases hq with hq | hq
    ·exact .inl hq
    ·exact .inr (.inl hq)
   refine⟨.inr ?_,(q3 q hq').2⟩
   rw[hfp,← g9]; exact hq'
  ·rw[g9,k2] at q2
   rw[List.nodup_cons] at q2 ⊢
   exact⟨fun hh=>q2.1 (List.mem_append_left _ hh),(List.nodup_append.1 q2.2).1⟩
  ·refine repR_sl ?_
   simp only[RepC]
   refine .inr ⟨b,cap,cs,e',F1,c1,?_,by rw[hlen]; omega,g3,fun q hq=>g4 q (List.mem_of_mem_take hq),g5,g6,?_,k3,rfl⟩
   ·have:(some (⟨b,0,none⟩:Addr)).map (fun a=>a.add (0*sz))=some ⟨b,0,none⟩:=by simp[add_off]
    rw[hlen,Nat.sub_zero,Nat.sub_zero]
    split
    ·rfl
    ·rw[this]
   ·rw[hlen]
    have:=congrArg (List.take (h*sz)) g7
    rw[List.take_take,Nat.min_eq_left (Nat.mul_le_mul_right sz hhl),k1] at this
    rw[this,← hl1,List.take_left]

/-! ### Bytes as a string -/
def bsOf(ns:List Int):ByteArray:=ns.foldl (fun r n=>r.push (UInt8.ofNat n.toNat)) ByteArray.empty
theorem repCs_lits{N:Nat→Prop}{w:World}{k:IntKind}:∀ (ns:List Int) (cs:List Value) (F:List Nat),RepCs N w (ns.map fun n=>.lit (.int k n)) cs F→cs=ns.map (Value.int k)
 | [],cs,F,h=>by simp only[List.map_nil,RepCs] at h; exact h.1
 | n::ns,cs,F,h=>by
  simp only[aF,RepCs,RepC] at h
  obtain⟨c1,c2,F1,F2,e1,_,⟨e2,_⟩,h2⟩:=h
  rw[e1,e2,repCs_lits ns c2 F2 h2]; rfl
theorem valid_convert_str{P:Program}{nt:Nat}{o:Oper}{st:St}{d:Nat}{x:Operand}{s t T1 e:TypeId}{D:List Nat}{ns:List Int}(hop:o.op=.convert s t x)(hdst:o.dst=some d)(hd:d<nt)
 (hx:srcOf st (ev P st T1 x)=some (D,1,ns.map fun n=>.lit (.int .u8 n))) (h1:P.underlying s=some (.slice e)) (h2:P.underlying e=some (.int .u8)) (h3:P.underlying t=some .string):
 Valid P nt o st { rs:=rd x,ro:=D,us:=[(d,.val (.pv (.lit (.string (bsOf ns)))))] }:=by
 refine valid_pure hdst hd rfl ?_
 intro κ G st' a w hnt hsame hG
 have hsv:=ev_ok (P:=P) (T:=T1) hG x 0
 rw[ev_congr (fun k hk=>hsame.1 k (by simp[hk]))] at hsv
 have hx':=srcOf_congr (st':=st') hx (fun c hc=>hsame.2 c hc)
 obtain⟨ax,cap,ccs,F,e1,e2,_,_,_,_,_,hrun⟩:=src_ok (P:=P) hG hsv hx' (by intro q hq; obtain⟨n,_,rfl⟩:=List.mem_map.1 hq; rfl)
 have e3:=repCs_lits ns ccs F e2
 have hl:=hrun w (fun _ _=>rfl)
 refine⟨.string (bsOf ns),?_,slotOk_lit rfl⟩
 have key:(convert s t (a.eval x)).run P w=.ok (.string (bsOf ns)) w:=by
  rw[e1] at hl ⊢
  rw[run_convert_bytes_string w s t e _ _ _ h1 h2 h3]
  cases ax with
  | none=>
   have:ns=[]:=by
    have h4:(#[]:Array Value)=ccs.toArray:=by
     have:=hl
     rw[run_firstCells_nil] at this
     injection this
    have h5:=congrArg Array.size h4
    rw[e3] at h5
    simp at h5
    exact List.length_eq_zero_iff.1 h5.symm
   subst this
   rfl
  | some ad=>
   rw[run_bytesToString w ad _ cap ns]
   ·rfl
   ·rw[← e3,← hl]
    simp[Builtin.firstCells]
 simp[execOp,hop,key]
end
end Go.Av
