/- A part of the proof: lemmas only; nothing is claimed here beyond what each lemma says. -/
import Derived.Test.YtkoghcphkdecoaaGreatAvE
import Derived.ProofKit
set_option linter.unusedSimpArgs false
set_option linter.unusedVariables false
set_option linter.defProp false
namespace Go.Av
mutual
def CV.ren(c c':Nat):CV→CV
 | .own n=>.own (if n=c then c' else n)
 | .node fs=>.node (CV.rens c c' fs)
 | .pv p=>.pv p
 | .gone n=>.gone n
def CV.rens(c c':Nat):List CV→List CV
 | []=>[]
 | x::xs=>x.ren c c'::CV.rens c c' xs
end
def HC.ren(c c':Nat):HC→HC
 | .cv x=>.cv (x.ren c c')
 | .mp a b=>.mp a b
 | .it r a b d=>.it r a b d
def SlotV.ren(c c':Nat):SlotV→SlotV
 | .dead=>.dead
 | .val x=>.val (x.ren c c')
 | .tup xs=>.tup (CV.rens c c' xs)
 | .box x=>.box (x.ren c c')
 | .bptr r p o=>.bptr r p o
 | .eptr n sz i p o=>.eptr (if n=c then c' else n) sz i p o
 | .ex Q=>.ex Q
 | .fn cs rs ps f=>.fn (cs.map fun n=>if n=c then c' else n) rs ps f
 | .hold sh ps x=>.hold sh ps (x.ren c c')
 | .hptr r sh ps=>.hptr r sh ps
def St.ren(st:St)(c c':Nat):St:=⟨fun k=>(st.s k).ren c c',upd (upd st.o c none) c' (st.o c)⟩

mutual
theorem Crs_1(c c':Nat):∀ x:CV,(x.ren c c').size=x.size
 | .own n=>rfl
 | .node fs=>by simp only[CV.ren,CV.size,Crs_ c c' fs]
 | .pv p=>rfl
 | .gone n=>rfl
theorem Crs_(c c':Nat):∀ xs:List CV,CV.sizes (CV.rens c c' xs)=CV.sizes xs
 | []=>rfl
 | x::xs=>by simp only[CV.rens,CV.sizes,Crs_1 c c' x,Crs_ c c' xs]
end
theorem Cri_(c c':Nat)(x:CV):(x.ren c c').isAgg=x.isAgg:=by cases x<;>rfl

section
variable{N:Nat→Prop}{w:World}{hd hd':Nat→Value}{c c':Nat}
mutual
theorem Crr_(h1:hd' c'=hd c)(h2:∀ n,n≠c'→hd' n=hd n):∀ (x:CV) (cs:List Value),x.noC c'=true→RepCV N w hd x cs→RepCV N w hd' (x.ren c c') cs
 | .own n,cs,hx,h=>by
  simp only[RepCV] at h ⊢
  simp only[CV.ren,RepCV]
  by_cases e:n=c
  ·subst e; simpa[h1] using h
  ·have:n≠c':=by simpa[CV.noC] using hx
   simpa[e,h2 n this] using h
 | .node fs,cs,hx,h=>by
  simp only[RepCV] at h
  simp only[CV.ren,RepCV]
  exact Crr_1 h1 h2 fs cs (by simpa[CV.noC] using hx) h
 | .pv p,cs,hx,h=>by simpa only[CV.ren,RepCV] using h
 | .gone n,cs,hx,h=>by simpa only[CV.ren,RepCV] using h
theorem Crr_1(h1:hd' c'=hd c)(h2:∀ n,n≠c'→hd' n=hd n):∀ (xs:List CV) (cs:List Value),CnC_ c' xs=true→RepCVs N w hd xs cs→RepCVs N w hd' (CV.rens c c' xs) cs
 | [],cs,_,h=>by simpa only[CV.rens,RepCVs] using h
 | x::xs,cs,hx,h=>by
  simp only[CnC_,Bool.and_eq_true] at hx
  simp only[RepCVs] at h
  simp only[CV.rens,RepCVs]
  obtain⟨c1,c2,e,g1,g2⟩:=h
  exact⟨c1,c2,e,Crr_ h1 h2 x c1 hx.1 g1,Crr_1 h1 h2 xs c2 hx.2 g2⟩
end
theorem Crv_1(h1:hd' c'=hd c)(h2:∀ n,n≠c'→hd' n=hd n){x:CV}{v:Value}(hx:x.noC c'=true)(h:CVal N w hd x v):CVal N w hd' (x.ren c c') v:=by
 rcases h with⟨g1,cs,g2,g3⟩ | ⟨g1,g2,g3⟩
 ·exact .inl ⟨by rw[Cri_]; exact g1,cs,g2,Crr_ h1 h2 x cs hx g3⟩
 ·exact .inr ⟨by rw[Cri_]; exact g1,Crr_ h1 h2 x _ hx g2,g3⟩
theorem Crv_(h1:hd' c'=hd c)(h2:∀ n,n≠c'→hd' n=hd n):∀ {xs:List CV} {vs:List Value},CnC_ c' xs=true→CVals N w hd xs vs→CVals N w hd' (CV.rens c c' xs) vs
 | [],vs,_,h=>by simpa only[CV.rens,CVals] using h
 | x::xs,vs,hx,h=>by
  simp only[CnC_,Bool.and_eq_true] at hx
  simp only[CVals] at h
  simp only[CV.rens,CVals]
  obtain⟨v,vs',e,g1,g2⟩:=h
  exact⟨v,vs',e,Crv_1 h1 h2 hx.1 g1,Crv_ h1 h2 hx.2 g2⟩
end

theorem iBr_(c c':Nat)(v:SlotV):isBox (v.ren c c')=isBox v:=by cases v<;>rfl

theorem Slr_1{st:St}{c c':Nat}(hne:c≠c')(hn:st.noC c'):st.le (st.ren c c'):=by
 rintro κ a w ⟨G,hG⟩
 let G':Gh:={ hd:=upd G.hd c' (G.hd c),fp:=upd G.fp c' (G.fp c),ad:=G.ad }
 have h1:G'.hd c'=G.hd c:=by simp[G',upd]
 have h2:∀ n,n≠c'→G'.hd n=G.hd n:=by intro n h; simp[G',upd,h]
 have f1:G'.fp c'=G.fp c:=by simp[G',upd]
 have f2:∀ n,n≠c'→G'.fp n=G.fp n:=by intro n h; simp[G',upd,h]
 have ho:∀ n p,(st.ren c c').o n=some p→(n=c'∧st.o c=some p)∨(n≠c'∧n≠c∧st.o n=some p):=by
  intro n p hp
  simp only[St.ren,upd] at hp
  split at hp
  ·rename_i e; exact .inl ⟨e,hp⟩
  ·rename_i e
   split at hp
   ·cases hp
   ·rename_i e'; exact .inr ⟨e,e',hp⟩
 have hpriv:∀ b,Priv (st.ren c c') G' b→Priv st G b:=by
  rintro b (⟨r,g1,g2⟩ | ⟨n,p,g1,g2⟩)
  ·exact .inl ⟨r,by simpa[St.ren,iBr_] using g1,g2⟩
  ·rcases ho n p g1 with⟨rfl,g⟩ | ⟨e1,e2,g⟩
   ·exact .inr ⟨c,p,g,by rw[f1] at g2; exact g2⟩
   ·exact .inr ⟨n,p,g,by rw[f2 n e1] at g2; exact g2⟩
 have hN:∀ b,Nof κ st G w b→Nof κ (st.ren c c') G' w b:=fun b hb=>⟨hb.1,fun h=>hb.2 (hpriv b h)⟩
 refine⟨G',hG.keep,hG.defers,hG.nt,?_,?_,?_,?_,?_,?_,fun m v hm=>(h2 m (by have:=κ.hH m v hm; have:=hn.1.1; omega)).trans (hG.held m v hm)⟩
 ·intro k
  have hk:=(hG.slots k).frame hN (fun _ _=>rfl) (G':=G) (fun _ _=>rfl) (fun _ _=>rfl) (fun _=>⟨rfl,rfl⟩)
  have hc:=hn.2 k
  simp only[St.ren]
  cases hs:st.s k with
  | dead=>trivial
  | val x=>rw[hs] at hk hc; exact Crv_1 h1 h2 (by simpa[SlotV.noC] using hc) hk
  | tup xs=>rw[hs] at hk hc; obtain⟨vs,e,g⟩:=hk; exact⟨vs,e,Crv_ h1 h2 (by simpa[SlotV.noC] using hc) g⟩
  | box x=>rw[hs] at hk hc; obtain⟨e,cs,e',g1,g2⟩:=hk; exact⟨e,cs,e',g1,Crr_ h1 h2 x cs (by simpa[SlotV.noC] using hc) g2⟩
  | bptr r p o=>rw[hs] at hk; exact hk
  | ex Q=>rw[hs] at hk; exact hk
  | hptr r sh ps=>rw[hs] at hk; exact hk
  | hold sh ps x=>
   rw[hs] at hk hc
   obtain⟨vals,g1,g2,g3⟩:=hk
   refine⟨vals,g1,g2,?_⟩
   cases x with
   | cv x=>obtain⟨cs,e',g4,g5⟩:=g3; exact⟨cs,e',g4,Crr_ h1 h2 x cs (by simpa[SlotV.noC,HC.noC] using hc) g5⟩
   | mp a b=>obtain⟨es,g4,g5⟩:=g3; exact⟨es,g4,g5⟩
   | it r a b d=>exact g3
  | fn cs rs ps f=>
   rw[hs] at hk hc
   obtain⟨vals,g1,g2⟩:=hk
   refine⟨vals,g1,?_⟩
   have e:(cs.map fun n=>if n=c then c' else n).map G'.hd=cs.map G.hd:=by
    rw[List.map_map]
    refine List.map_congr_left fun n hm=>?_
    by_cases e:n=c
    ·subst e; simp[h1]
    ·have:n≠c':=by
      rintro rfl
      simp[SlotV.noC,hm] at hc
     simp[e,h2 n this]
   rw[e]; exact g2
  | eptr n sz i p o=>
   rw[hs] at hk hc
   obtain⟨b,m,cap,g1,g2⟩:=hk
   refine⟨b,m,cap,?_,g2⟩
   by_cases e:n=c
   ·subst e; simp only[if_true]; rw[h1]; exact g1
   ·have:n≠c':=by simpa[SlotV.noC] using hc
    simp only[e,if_false]; rw[h2 n this]; exact g1
 ·intro n sz es hp
  rcases ho n _ hp with⟨rfl,g⟩ | ⟨e1,e2,g⟩
  ·obtain⟨g1,g2,g3⟩:=hG.objs c sz es g
   rw[h1,f1]
   exact⟨g1.frame hN (fun _ _=>rfl) _ _ _ (fun _ _=>rfl),g2,g3⟩
  ·obtain⟨g1,g2,g3⟩:=hG.objs n sz es g
   rw[h2 n e1,f2 n e1]
   exact⟨g1.frame hN (fun _ _=>rfl) _ _ _ (fun _ _=>rfl),g2,g3⟩
 ·intro r hr; exact hG.boxes r (by simpa[St.ren,iBr_] using hr)
 ·intro r r' hr hr'; exact hG.bb r r' (by simpa[St.ren,iBr_] using hr) (by simpa[St.ren,iBr_] using hr')
 ·intro r n p hr hp
  have hr':isBox (st.s r)=true:=by simpa[St.ren,iBr_] using hr
  rcases ho n p hp with⟨rfl,g⟩ | ⟨e1,e2,g⟩
  ·rw[f1]; exact hG.bo r c p hr' g
  ·rw[f2 n e1]; exact hG.bo r n p hr' g
 ·intro n n' p p' hp hp' hnn
  rcases ho n p hp with⟨rfl,g⟩ | ⟨e1,e2,g⟩<;>rcases ho n' p' hp' with⟨rfl,g'⟩ | ⟨e1',e2',g'⟩
  ·exact absurd rfl hnn
  ·rw[f1,f2 n' e1']; exact hG.oo c n' p p' g g' (Ne.symm e2')
  ·rw[f1,f2 n e1]; exact hG.oo n c p p' g g' e2
  ·rw[f2 n e1,f2 n' e1']; exact hG.oo n n' p p' g g' hnn

theorem St.le_trans{a b c:St}(h:a.le b)(h':b.le c):a.le c:=fun κ x w hR=>h' κ x w (h κ x w hR)

end Go.Av

namespace Go.Av
mutual
inductive HasTy(P:Program):TypeId→PV→Prop
 | bool {t:TypeId} {b:Bool} (h:P.underlying t=some .bool):HasTy P t (.lit (.bool b))
 | int {t:TypeId} {k:IntKind} {n:Int} (h:P.underlying t=some (.int k)) (hw:(Lit.int k n).wf=true):HasTy P t (.lit (.int k n))
 | str {t:TypeId} {s:ByteArray} (h:P.underlying t=some .string) (hs:s.size≤maxLen):HasTy P t (.lit (.string s))
 | sl {t e:TypeId} {es:List PV} (h:P.underlying t=some (.slice e)) (hl:es.length≤maxLen) (hes:∀ x∈es,HasTy P e x):HasTy P t (.sl false (P.cellsOf e) es)
 | struct {t:TypeId} {fs:Array Field} {ps:List PV} (h:P.underlying t=some (.struct fs)) (hps:HasTys P (fs.toList.map (·.type)) ps):HasTy P t (.agg ps)
inductive HasTys(P:Program):List TypeId→List PV→Prop
 | nil:HasTys P [] []
 | cons {t:TypeId} {ts:List TypeId} {p:PV} {ps:List PV} (h:HasTy P t p) (hs:HasTys P ts ps):HasTys P (t::ts) (p::ps)
end
def LaidF(P:Program):Nat→List Field→Nat→Prop
 | off,[],n=>off=n
 | off,f::fs,n=>f.offset=off∧LaidF P (off+P.cellsOf f.type) fs n
def Kinds(P:Program)(G:TypeId→Prop):Prop:=∀ t,G t→P.underlying t=some .bool∨(∃ k,P.underlying t=some (.int k))∨P.underlying t=some .string∨(∃ e,P.underlying t=some (.slice e)∧G e∧0<P.cellsOf e)∨
 (∃ fs,P.underlying t=some (.struct fs)∧LaidF P 0 fs.toList (P.cellsOf t)∧∀ f∈fs.toList,G f.type)

section
variable{H:Type}{enc:TypeId×Value→H}{P:Program}{W:World}{spare:Nat→Bool}{held:Bool}{G:TypeId→Prop}

theorem of_{n:Nat}(ih:∀ t cs x,G t→DataW.trod enc P W 0 spare held n t cs=some x→∃ p,HasTy P t p∧RepC (fun b=>b<W.heap.size) W p cs []):
 ∀ (fs:List Field) (off m:Nat) (cs:List Value) (ys:List (DataW H×List MemPlace)),(∀ f∈fs,G f.type)→LaidF P off fs m→cs.length=m→
  fs.mapM (fun f=>DataW.trod enc P W 0 spare held n f.type ((cs.drop f.offset).take (P.cellsOf f.type)))=some ys→∃ ps,HasTys P (fs.map (·.type)) ps∧RepCs (fun b=>b<W.heap.size) W ps (cs.drop off) []
 | [],off,m,cs,ys,_,hl,hc,h=>by
  simp only[LaidF] at hl
  refine⟨[],.nil,?_⟩
  simp[RepCs,hl,← hc]
 | f::fs,off,m,cs,ys,hG,hl,hc,h=>by
  obtain⟨h1,h2⟩:=hl
  rw[List.mapM_cons] at h
  simp only[Option.bind_eq_bind,Option.bind_eq_some_iff] at h
  obtain⟨y,hy,ys',hys,_⟩:=h
  obtain⟨p,hp,hr⟩:=ih f.type _ y (hG f (by simp)) hy
  obtain⟨ps,hps,hrs⟩:=of_ ih fs _ m cs ys' (fun g hg=>hG g (by simp[hg])) h2 hc hys
  refine⟨p::ps,.cons hp hps,?_⟩
  simp only[RepCs]
  rw[h1] at hr
  refine⟨(cs.drop off).take (P.cellsOf f.type),(cs.drop off).drop (P.cellsOf f.type),[],[],(List.take_append_drop _ _).symm,rfl,hr,?_⟩
  rw[List.drop_drop]
  exact hrs

theorem op_1(K:Kinds P G):∀ (fuel:Nat) (t:TypeId) (cs:List Value) (x:DataW H×List MemPlace),G t→DataW.trod enc P W 0 spare held fuel t cs=some x→∃ p,HasTy P t p∧RepC (fun b=>b<W.heap.size) W p cs []
 | 0,t,cs,x,_,h=>by simp[DataW.trod] at h
 | n+1,t,cs,x,hG,h=>by
  rcases K t hG with ht | ⟨k,ht⟩ | ht | ⟨e,ht,hGe,hce⟩ | ⟨fs,ht,hl,hGf⟩
  ·obtain⟨b,rfl,_⟩:=DataW.trod_bool ht h
   exact⟨_,.bool (b:=b) ht,by simp[RepC,Value.oneCell']⟩
  ·obtain⟨m,rfl,_,hw⟩:=DataW.trod_int ht h
   exact⟨_,.int ht hw,by simp[RepC,Value.oneCell']⟩
  ·obtain⟨s,rfl,_,hs⟩:=DataW.trod_string ht h
   exact⟨_,.str ht hs,by simp[RepC,Value.oneCell']⟩
  ·rcases DataW.trod_slice ht h with⟨rfl,_⟩ | ⟨a,len,cap,elems,rest,m,hm,rfl,_,_,hlc,hcm,hel,hget,_,_⟩
   ·exact⟨_,.sl (es:=[]) ht (by simp) (by simp),by simp only[RepC]; exact⟨none,0,rfl,trivial,by simp,by simp,by simp,.inl trivial⟩⟩
   ·cases hm
    have each:∀ i,i<len→∃ ccs y,W.cells? 0 (a.add (i*P.cellsOf e)) (P.cellsOf e)=some ccs∧DataW.trod enc P W 0 spare held n e ccs=some y:=by
     intro i hi
     have h1:=hget i hi
     have h2:∃ y,elems[i]?=some y:=⟨elems[i]'(by omega),by simp[hel,hi]⟩
     obtain⟨y,hy⟩:=h2
     rw[hy,Option.bind_eq_some_iff] at h1
     obtain⟨ccs,g1,g2⟩:=h1
     exact⟨ccs,y,g1,g2⟩
    have hspot:0<len→a.spot=none∧a.block<W.heap.size:=by
     intro h0
     obtain⟨ccs,y,g1,_⟩:=each 0 h0
     have e0:a.add (0*P.cellsOf e)=a:=by simp[Addr.add]
     rw[e0] at g1
     obtain⟨_,g2,g3⟩:=World.cells?_some g1
     have:=g3 0 hce
     have e1:a.add 0=a:=by simp[Addr.add]
     rw[e1] at this
     have hs:∃ u,ccs[0]?=some u:=⟨ccs[0]'(by omega),by simp[g2,hce]⟩
     obtain⟨u,hu⟩:=hs
     rw[hu] at this
     exact⟨World.cell?_spot this,World.cells?_block g1 hce⟩
    have build:∀ k,k≤len→∃ es ccs,es.length=k∧(∀ x∈es,HasTy P e x)∧(∀ x∈es,PV.size x=P.cellsOf e)∧RepCs (fun b=>b<W.heap.size) W es ccs []∧ccs.length=k*P.cellsOf e∧RowAt W a ccs:=by
     intro k
     induction k with
     | zero=>intro _; exact⟨[],[],rfl,by simp,by simp,by simp[RepCs],by simp,by intro j u hu; simp at hu⟩
     | succ k ihk=>
      intro hk
      obtain⟨es,ccs,g1,g2,g3,g4,g5,g6⟩:=ihk (by omega)
      obtain⟨c',y,e1,e2⟩:=each k (by omega)
      obtain⟨p,hp,hr⟩:=op_1 K n e c' y hGe e2
      obtain⟨_,q1,q2⟩:=World.cells?_some e1
      refine⟨es++[p],ccs++c',by simp[g1],?_,?_,?_,by simp[g5,q1,Nat.succ_mul],?_⟩
      ·intro x hx; rcases List.mem_append.1 hx with hx | hx
       ·exact g2 x hx
       ·simp at hx; subst hx; exact hp
      ·intro x hx; rcases List.mem_append.1 hx with hx | hx
       ·exact g3 x hx
       ·simp at hx; subst hx; rw[← RepC.length _ _ _ hr,q1]
      ·have:=RepCs.append es [p] ccs c' [] [] g4 (by simp only[RepCs]; exact⟨c',[],[],[],by simp,rfl,hr,rfl,rfl⟩)
       simpa using this
      ·intro j u hu
       by_cases hj:j<ccs.length
       ·rw[List.getElem?_append_left hj] at hu; exact g6 j u hu
       ·rw[List.getElem?_append_right (by omega)] at hu
        have hlt:j-ccs.length<P.cellsOf e:=by rw[← q1]; exact(List.getElem?_eq_some_iff.1 hu).1
        have:=q2 (j-ccs.length) hlt
        rw[hu] at this
        have hs:=(hspot (by omega)).1
        rw[ao_ a _ hs,ao_ _ _ rfl] at this
        have e3:a.off+k*P.cellsOf e+(j-ccs.length)=a.off+j:=by omega
        simpa only[e3] using this
    obtain⟨es,ccs,g1,g2,g3,g4,g5,g6⟩:=build len (Nat.le_refl _)
    refine⟨_,.sl ht (by omega) g2,?_⟩
    simp only[RepC]
    refine⟨some a,cap,by rw[g1],trivial,by omega,hcm,g3,?_⟩
    by_cases h0:len=0
    ·left; exact List.length_eq_zero_iff.1 (g1.trans h0)
    ·right; exact⟨a,ccs,rfl,(hspot (by omega)).1,(hspot (by omega)).2,g6,g4⟩
  ·unfold DataW.trod at h
   rw[ht] at h
   simp only at h
   split at h
   ·rename_i hlen
    rw[Option.map_eq_some_iff] at h
    obtain⟨ys,hys,_⟩:=h
    obtain⟨ps,hps,hr⟩:=of_ (n:=n) (fun t cs x hg hh=>op_1 K n t cs x hg hh) fs.toList 0 (P.cellsOf t) cs ys hGf hl hlen hys
    refine⟨.agg ps,.struct ht hps,?_⟩
    simp only[RepC]
    simpa using hr
   ·cases h
end
end Go.Av
