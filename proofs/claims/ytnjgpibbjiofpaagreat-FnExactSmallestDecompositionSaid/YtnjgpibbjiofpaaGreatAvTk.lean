/- Lemmas of the proof; each says what it shows. -/
import Derived.Test.YtnjgpibbjiofpaaGreatAvFz
set_option linter.unusedSimpArgs false
set_option linter.unusedVariables false
set_option linter.defProp false
namespace Go.Av
open Bool renaming and_eq_true→aA
open List renaming append_assoc→aL,all_eq_true→aZ
open PV renaming noViews→aM
open RepC renaming length→bz,frame→aS
section
mutual
/-- A row whose own parts are somebody else's now: of them only the cells are left. -/
def junk:PV→List Value→PV
 | .sl true _ _,cs=>.lit (cs.headD undef)
 | .sl false sz es,_=>.sl false sz es
 | .agg fs,cs=>.agg (junks fs cs)
 | .lit v,_=>.lit v
 | .clo f c,_=>.clo f c
 | .ptr v,_=>.ptr v
 | .tup vs,_=>.tup vs
def junks:List PV→List Value→List PV
 | [],_=>[]
 | p::ps,cs=>junk p (cs.take p.size)::junks ps (cs.drop p.size)
end
mutual
theorem size_junk:∀ (p:PV) (cs:List Value),(junk p cs).size=p.size
 | .sl true _ _,_=>rfl
 | .sl false _ _,_=>rfl
 | .agg fs,cs=>by simp only[junk,PV.size]; exact sizes_junks fs cs
 | .lit _,_=>rfl
 | .clo _ _,_=>rfl
 | .ptr _,_=>rfl
 | .tup _,_=>rfl
theorem sizes_junks:∀ (ps:List PV) (cs:List Value),PV.sizes (junks ps cs)=PV.sizes ps
 | [],_=>rfl
 | p::ps,cs=>by simp only[junks,PV.sizes,size_junk p,sizes_junks ps]
end
section
variable{N:Nat→Prop}{w:World}
mutual
theorem RepC.junk:∀ (p:PV) (cs:List Value) (F:List Nat),RepC N w p cs F→RepC N w (Av.junk p cs) cs []
 | .lit v,cs,F,h=>by simp only[RepC,Av.junk] at h ⊢; exact⟨h.1,h.2.1,trivial⟩
 | .agg fs,cs,F,h=>by simp only[RepC,Av.junk] at h ⊢; exact RepCs.junk fs cs F h
 | .sl false sz es,cs,F,h=>by
  have hF:=RepC.noOwn (.sl false sz es) cs F rfl h
  subst hF; exact h
 | .sl true sz es,cs,F,h=>by
  have hl:=bz _ _ _ h
  simp only[PV.size] at hl
  obtain⟨v,rfl⟩:=List.length_eq_one_iff.1 hl
  simp only[Av.junk,RepC,List.headD_cons]
  exact⟨trivial,RepC.one _ _ _ h v (by simp),trivial⟩
 | .clo f c,cs,F,h=>by
  have hF:=RepC.noOwn (.clo f c) cs F rfl h
  subst hF; exact h
 | .ptr v,cs,F,h=>by
  have hF:=RepC.noOwn (.ptr v) cs F rfl h
  subst hF; exact h
 | .tup vs,cs,F,h=>by simp only[RepC] at h
theorem RepCs.junk:∀ (ps:List PV) (cs:List Value) (F:List Nat),RepCs N w ps cs F→RepCs N w (junks ps cs) cs []
 | [],cs,F,h=>by simp only[RepCs,junks] at h ⊢; exact⟨h.1,trivial⟩
 | p::ps,cs,F,h=>by
  simp only[RepCs] at h
  obtain⟨c1,c2,F1,F2,rfl,rfl,h3,h4⟩:=h
  have hl:=bz _ _ _ h3
  simp only[junks,RepCs]
  rw[List.take_left' hl,List.drop_left' hl]
  exact⟨c1,c2,[],[],rfl,rfl,RepC.junk p c1 F1 h3,RepCs.junk ps c2 F2 h4⟩
end
end
theorem updAll_news{l:List (Nat×(Nat×List PV))}{f:Nat→Option (Nat×List PV)}{n:Nat}{p:Nat×List PV}(hn:(l.map (·.1)).Nodup)(h:updAll f (newObjs l) n=some p):((n,p)∈l)∨(n∉l.map (·.1)∧f n=some p):=by
 by_cases hm:n∈l.map (·.1)
 ·obtain⟨⟨m,q⟩,hq,rfl⟩:=List.mem_map.1 hm
  have:=updAll_mem (newObjs l) f m (some q) (by rw[newObjs_keys]; exact hn) (List.mem_map.2 ⟨_,hq,rfl⟩)
  simp only at h
  rw[this] at h
  cases h
  exact .inl hq
 ·rw[updAll_notMem _ _ _ (by rw[newObjs_keys]; exact hm)] at h
  exact .inr ⟨hm,h⟩
/-- A row is read, and what is its own goes along. -/
theorem VSeq.take{P:Program}{nt:Nat}{ops:Array Oper}{i:Nat}{st:St}{K:St→Prop}{o:Oper}{x:Operand}{T:TypeId}{d c sz j:Nat}{es:List PV}(row:PV)
 (ho:ops[i]?=some o) (hg:o.guard=none) (hop:o.op=.load T x) (hdst:o.dst=some d) (hd:d<nt) (hx:ev P st 0 x=.eptr c sz j [] 0) (hc:st.o c=some (sz,es)) (hj:j<es.length) (hrw:es.getD j default=row)
 (hT:TyIs P T (explode row (16*d)).1.isAgg (explode row (16*d)).1.size) (hgo:∀ n,(explode row (16*d)).1≠.gone n) (hfr:∀ n∈(explode row (16*d)).2.1.map (·.1),st.noC n)
 (h:∀ cs:List Value,VSeq P nt ops (i+1) ⟨upd st.s d (.val (explode row (16*d)).1),updAll (upd st.o c (some (sz,es.set j (junk row cs)))) (newObjs (explode row (16*d)).2.1)⟩ K):VSeq P nt ops i st K:=by
 intro κ a w hnt hR Q hQ
 obtain⟨G,hG⟩:=hR
 have hi:i<ops.size:=(Array.getElem?_eq_some_iff.1 ho).1
 have e:ops.size-i=(ops.size-(i+1))+1:=by omega
 rw[e,List.range'_succ,wpOps_cons]
 have hs1:=ev_ok (P:=P) (T:=0) hG x d
 rw[hx] at hs1
 obtain⟨b,n,cap,k1,k2⟩:=hs1
 obtain⟨h4,h4n,h4l⟩:=hG.objs c sz es hc
 have h4':=h4
 simp only[RepC] at h4
 rcases h4 with⟨_,h4,_⟩ | ⟨b',cap',cc,et,F',ccs,f1,f2,f3,f4,f5,f6,f7,f8,f9⟩
 ·subst h4; simp at hj
 rw[k1] at f1
 simp at f1
 obtain⟨rfl,rfl,rfl⟩:=f1
 obtain⟨c1,c2,c3,F1,F2,F3,e1,e2,e3,e4,e5,e6⟩:=RepCs.at' es j ccs F' hj f8
 rw[hrw] at e4
 rw[sizes_take f4 (by omega)] at e3
 have hFn0:(b::F').Nodup:=by rw[← f9]; exact h4n
 have hF'n:=(List.nodup_cons.1 hFn0).2
 rw[e2] at hF'n
 have hF2n:F2.Nodup:=(List.nodup_append.1 (List.nodup_append.1 hF'n).1).2.1
 obtain⟨hdv,fpv,hnews,hrep⟩:=explode_ok row c2 F2 (16*d) e4 hF2n
 let nm:=(explode row (16*d)).2.1.map (·.1)
 let G':Gh:={ hd:=fun m=>if m∈nm then hdv m else G.hd m,fp:=fun m=>if m∈nm then fpv m else if m=c then b::(F1++F3) else G.fp m,ad:=G.ad }
 have hin:∀ m,m∈nm→G'.hd m=hdv m∧G'.fp m=fpv m:=fun m hm=>by simp[G',hm]
 have hout:∀ m,m∉nm→G'.hd m=G.hd m:=fun m hm=>by simp[G',hm]
 have hcn:c∉nm:=fun hm=>by have:=(hfr c hm).1.2; rw[hc] at this; cases this
 have hfc:G'.fp c=b::(F1++F3):=by simp[G',hcn]
 have hfo:∀ m,m∉nm→m≠c→G'.fp m=G.fp m:=fun m h1 h2=>by simp[G',h1,h2]
 have hF2fp:∀ k∈F2,k∈G.fp c:=fun k hk=>by rw[f9,e2]; simp[hk]
 have hFcfp:∀ k∈b::(F1++F3),k∈G.fp c:=fun k hk=>by
  rw[f9,e2]; simp only[List.mem_cons,List.mem_append] at hk ⊢
  rcases hk with hk | hk | hk<;>simp[hk]
 have hfpsub:∀ m p,updAll (upd st.o c (some (sz,es.set j (junk row c2)))) (newObjs (explode row (16*d)).2.1) m=some p→∀ k∈G'.fp m,∃ q m',st.o m'=some q∧k∈G.fp m':=by
  intro m p hm k hk
  rcases updAll_news hnews.once hm with hm | ⟨hm,hm2⟩
  ·have hmn:m∈nm:=List.mem_map.2 ⟨_,hm,rfl⟩
   rw[(hin m hmn).2] at hk
   exact⟨_,c,hc,hF2fp k ((hnews.rep m p.1 p.2 hm).2.2.2.2 k hk)⟩
  ·by_cases hmc:m=c
   ·subst hmc; rw[hfc] at hk; exact⟨_,m,hc,hFcfp k hk⟩
   ·rw[upd_ne hmc] at hm2; rw[hfo m hm hmc] at hk; exact⟨p,m,hm2,hk⟩
 have hbox:∀ r,isBox (upd st.s d (.val (explode row (16*d)).1) r)=true→r≠d∧isBox (st.s r)=true:=by
  intro r hr
  simp only[upd] at hr
  split at hr
  ·cases hr
  ·exact⟨by assumption,hr⟩
 have hN:∀ k,Nof κ st G w k→Nof κ ⟨upd st.s d (.val (explode row (16*d)).1),updAll (upd st.o c (some (sz,es.set j (junk row c2)))) (newObjs (explode row (16*d)).2.1)⟩ G' w k:=by
  intro k hk
  refine⟨hk.1,?_⟩
  rintro (⟨r,h1,h2⟩ | ⟨m,p,h1,h2⟩)
  ·exact hk.2 (.inl ⟨r,(hbox r h1).2,h2⟩)
  ·obtain⟨q,m',h3,h4⟩:=hfpsub m p h1 k h2
   exact hk.2 (.inr ⟨m',q,h3,h4⟩)
 -- the load
 have hrow:RowAt w ⟨b,j*sz+0,none⟩ c2:=by
  have hall:cc.toList=c1++c2++(c3++cc.toList.drop (es.length*sz)):=by
   have:=List.take_append_drop (es.length*sz) cc.toList
   rw[f7,e1] at this
   refine this.symm.trans ?_
   simp only[aL]
  have h5:w.heap[b]?=some (.cells (c1++c2++(c3++cc.toList.drop (es.length*sz))).toArray et (0,0)):=by rw[← hall]; simpa using f5
  have:=rowAt_of_block h5
  rw[e3] at this
  exact this
 have hcv:RepCV (Nof κ st G w) w G'.hd (explode row (16*d)).1 c2:=hrep G'.hd (fun m h1 h2=>by
  have:=hnews.all m h1 h2
  exact(hin m this).1)
 obtain⟨u',r1,r2⟩:=run_loadVar (P:=P) (T:=T) hT rfl hrow hcv hgo
 have hrun1:(execOp a.eval o).run P w=.ok (.value u') w:=by
  rw[Nat.add_zero] at r1
  simp[execOp,hop,k2,Instr.loadAt,Instr.sureAddr,r1]
 unfold wpOp
 simp only[ho,Region.wanted,hg,if_true]
 refine .inl ?_
 unfold Oper.wp
 rw[hrun1]
 simp only[Oper.upon,hdst]
 refine h c2 κ _ _ hnt ⟨G',?_⟩ Q hQ
 refine hG.step (st':=⟨upd st.s d (.val (explode row (16*d)).1),updAll (upd st.o c (some (sz,es.set j (junk row c2)))) (newObjs (explode row (16*d)).2.1)⟩) (by rw[hnt]; exact hd) (KeepX.refl _ _ _) hN (fun _ _=>rfl) (fun k hk=>.inl (by show upd st.s d _ k=_; rw[upd_ne hk])) ?_ (fun k m hk hdd hcc=>?_) (fun _ _ _ _ _=>rfl) (fun _ _ _ _=>⟨rfl,rfl⟩) ?_ ?_ ?_ ?_ ?_ ?_
 ·show SlotOk _ w G' d u' (upd st.s d _ d)
  rw[upd_same]
  exact CVal.frame hN (fun _ _=>rfl) (fun _ _=>rfl) r2
 ·refine hout m fun hm=>?_
  rw[(hfr m hm).2 k] at hcc; cases hcc
 ·intro m sz' es' hm
  rcases updAll_news hnews.once hm with hmA | ⟨hmB,hm2⟩
  ·have hmn:m∈nm:=List.mem_map.2 ⟨_,hmA,rfl⟩
   obtain⟨_,_,g3,g4,g5⟩:=hnews.rep m sz' es' hmA
   rw[(hin m hmn).1,(hin m hmn).2]
   exact⟨aS hN (fun _ _=>rfl) _ _ _ (fun _ _=>rfl) g3,g4,fun k hk=>h4l k (hF2fp k (g5 k hk))⟩
  ·by_cases hmc:m=c
   ·subst hmc
    rw[upd_same] at hm2
    cases hm2
    rw[hout m hmB,hfc]
    have hl1:=RepCs.frame (N:=Nof κ st G w) (w':=w) hN (fun _ _=>rfl) _ _ _ (fun _ _=>rfl) e5
    have hl3:=RepCs.frame (N:=Nof κ st G w) (w':=w) hN (fun _ _=>rfl) _ _ _ (fun _ _=>rfl) e6
    have hl2:=aS (N:=Nof κ st G w) (w':=w) hN (fun _ _=>rfl) _ _ _ (fun _ _=>rfl) (RepC.junk row c2 F2 e4)
    have hwhole:=RepCs.append _ _ _ _ _ _ hl1 (by simp only[RepCs]; exact⟨_,_,_,_,rfl,rfl,hl2,hl3⟩:RepCs _ w (junk row c2::es.drop (j+1)) (c2++c3) ([]++F3))
    rw[← set_eq hj,List.nil_append] at hwhole
    refine⟨?_,?_,fun k hk=>h4l k (hFcfp k hk)⟩
    ·simp only[RepC]
     refine .inr ⟨b,cap,cc,et,F1++F3,ccs,by rw[k1,List.length_set],by rw[List.length_set]; exact f2,f3,?_,f5,f6,by rw[List.length_set]; exact f7,?_,rfl⟩
     ·intro q hq
      rcases List.mem_or_eq_of_mem_set hq with hq | rfl
      ·exact f4 q hq
      ·rw[size_junk,← hrw]
       exact f4 _ (by rw[List.getD_eq_getElem?_getD,List.getElem?_eq_getElem hj]; exact List.getElem_mem _)
     ·rw[e1,aL]; exact hwhole
    ·refine List.Sublist.nodup ?_ hFn0
     rw[e2]
     refine List.Sublist.cons_cons _ ?_
     exact List.Sublist.append (List.sublist_append_left _ _) (List.Sublist.refl _)
   ·rw[upd_ne hmc] at hm2
    obtain⟨g1,g2,g3⟩:=hG.objs m sz' es' hm2
    rw[hout m hmB,hfo m hmB hmc]
    exact⟨aS hN (fun _ _=>rfl) _ _ _ (fun _ _=>rfl) g1,g2,g3⟩
 ·intro r hr; exact hG.boxes r (hbox r hr).2
 ·intro r r' h1 h2; exact hG.bb r r' (hbox r h1).2 (hbox r' h2).2
 ·intro r m p h1 h2 h3
  obtain⟨q,m',h5,h6⟩:=hfpsub m p h2 _ h3
  exact hG.bo r m' q (hbox r h1).2 h5 h6
 ·intro m m' p p' h1 h2 hne k hk hk'
  rcases updAll_news hnews.once h1 with g1 | ⟨g1,g1'⟩<;>rcases updAll_news hnews.once h2 with g2 | ⟨g2,g2'⟩
  ·have a1:m∈nm:=List.mem_map.2 ⟨_,g1,rfl⟩
   have a2:m'∈nm:=List.mem_map.2 ⟨_,g2,rfl⟩
   rw[(hin m a1).2] at hk; rw[(hin m' a2).2] at hk'
   exact hnews.apart m m' p p' g1 g2 hne k hk hk'
  ·have a1:m∈nm:=List.mem_map.2 ⟨_,g1,rfl⟩
   rw[(hin m a1).2] at hk
   have hkF:=(hnews.rep m p.1 p.2 g1).2.2.2.2 k hk
   by_cases hmc:m'=c
   ·subst hmc
    rw[hfc] at hk'
    have hd1:=List.nodup_append.1 hF'n
    have hd2:=List.nodup_append.1 hd1.1
    rcases List.mem_cons.1 hk' with rfl | hk'
    ·exact(List.nodup_cons.1 hFn0).1 (by rw[e2]; simp[hkF])
    ·rcases List.mem_append.1 hk' with hk' | hk'
     ·exact hd2.2.2 k hk' k hkF rfl
     ·exact hd1.2.2 k (by simp[hkF]) k hk' rfl
   ·rw[upd_ne hmc] at g2'; rw[hfo m' g2 hmc] at hk'
    exact hG.oo c m' _ p' hc g2' (Ne.symm hmc) k (hF2fp k hkF) hk'
  ·have a2:m'∈nm:=List.mem_map.2 ⟨_,g2,rfl⟩
   rw[(hin m' a2).2] at hk'
   have hkF:=(hnews.rep m' p'.1 p'.2 g2).2.2.2.2 k hk'
   by_cases hmc:m=c
   ·subst hmc
    rw[hfc] at hk
    have hd1:=List.nodup_append.1 hF'n
    have hd2:=List.nodup_append.1 hd1.1
    rcases List.mem_cons.1 hk with rfl | hk
    ·exact(List.nodup_cons.1 hFn0).1 (by rw[e2]; simp[hkF])
    ·rcases List.mem_append.1 hk with hk | hk
     ·exact hd2.2.2 k hk k hkF rfl
     ·exact hd1.2.2 k (by simp[hkF]) k hk rfl
   ·rw[upd_ne hmc] at g1'; rw[hfo m g1 hmc] at hk
    exact hG.oo c m _ p hc g1' (Ne.symm hmc) k (hF2fp k hkF) hk
  ·by_cases hmc:m=c
   ·subst hmc
    rw[hfc] at hk
    rw[upd_ne (Ne.symm hne)] at g2'; rw[hfo m' g2 (Ne.symm hne)] at hk'
    exact hG.oo m m' _ p' hc g2' hne k (hFcfp k hk) hk'
   ·rw[upd_ne hmc] at g1'; rw[hfo m g1 hmc] at hk
    by_cases hmc':m'=c
    ·subst hmc'
     rw[hfc] at hk'
     exact hG.oo m m' p _ g1' hc hne k hk (hFcfp k hk')
    ·rw[upd_ne hmc'] at g2'; rw[hfo m' g2 hmc'] at hk'
     exact hG.oo m m' p p' g1' g2' hne k hk hk'
 ·intro m hm
  refine hout m fun hmn=>?_
  have:=(hfr m hmn).1.1; omega
end
section
open Classical in
noncomputable def hdF(v:Value)(hs:List Value)(_:List Nat)(_:List Value):Value:=if hs=[v] then undef else .bool true
/-- A mark that says what an object's head is. -/
noncomputable def hdS(c:Nat)(v:Value):SlotV:=.fn [c] [] [] (hdF v)
theorem hdF_iff{v u:Value}{l:List Value}:undef=hdF v [u] [] l↔u=v:=by
 unfold hdF
 constructor
 ·intro h
  by_cases e:([u]:List Value)=[v]
  ·simpa using e
  ·rw[if_neg e] at h; simp[undef] at h
 ·rintro rfl; rw[if_pos rfl]
theorem tmp_out{κ:Ctx}{G:Gh}{st:St}{a:Act}{w:World}(h:RG κ G st a w){s:Nat}(hs:κ.nt≤s):a.tmps.getD s undef=undef:=by
 have:=h.nt
 simp[Array.getD,show ¬ s<a.tmps.size by omega]
theorem RG.split{κ:Ctx}{G:Gh}{st:St}{a:Act}{w:World}{c j c' s sz sz':Nat}{p:List Nat}{es es':List PV}(h:RG κ G st a w)(hc:st.o c=some (sz,es))(hj:j<es.length)(hok:(es.getD j default).okp p=true)
 (hp:(es.getD j default).at p=.sl true sz' es') (hn:st.noC c') (hs:κ.nt≤s) (hsd:st.s s=.dead):
 ∃ v,R κ ⟨upd st.s s (hdS c' v),upd (upd st.o c (some (sz,es.set j ((es.getD j default).setAt p (.lit v))))) c' (some (sz',es'))⟩ a w:=by
 obtain⟨h4,h4n,h4l⟩:=h.objs c sz es hc
 have h4':=h4
 simp only[RepC] at h4
 rcases h4 with⟨_,h4,_⟩ | ⟨b,cap,cc,et,F',ccs,f1,f2,f3,f4,f5,f6,f7,f8,f9⟩
 ·subst h4; simp at hj
 have f1':G.hd c=.slice (some ⟨b,0,none⟩) es.length cap:=by simpa using f1
 obtain⟨c1,c2,c3,F1,F2,F3,e1,e2,e3,e4,e5,e6⟩:=RepCs.at' es j ccs F' hj f8
 obtain⟨m1,m2,m3,H1,H2,H3,q1,q2,q3,q4,q5⟩:=RepC.path p _ c2 F2 hok e4
 rw[hp] at q4
 have hlen:=bz _ _ _ q4
 simp only[PV.size] at hlen
 obtain⟨v,rfl⟩:=List.length_eq_one_iff.1 hlen
 have hone:=RepC.one _ _ _ q4 v (by simp)
 have hcn:c≠c':=by rintro rfl; rw[hn.1.2] at hc; cases hc
 let G':Gh:=⟨fun m=>if m=c' then v else G.hd m,fun m=>if m=c' then H2 else if m=c then b::(F1++(H1++H3)++F3) else G.fp m,G.ad⟩
 have g1:G'.hd c'=v:=if_pos rfl
 have g2:∀ m,m≠c'→G'.hd m=G.hd m:=fun m hm=>if_neg hm
 have g3:G'.fp c'=H2:=if_pos rfl
 have g4:G'.fp c=b::(F1++(H1++H3)++F3):=by show(if c=c' then H2 else if c=c then _ else _)=_; rw[if_neg hcn,if_pos rfl]
 have g5:∀ m,m≠c'→m≠c→G'.fp m=G.fp m:=fun m h1 h2=>by show(if m=c' then H2 else if m=c then _ else _)=_; rw[if_neg h1,if_neg h2]
 have hFc:∀ k,k∈G.fp c↔k∈b::(F1++(H1++H3)++F3)∨k∈H2:=fun k=>by
  rw[f9,e2,q2]; simp only[List.mem_cons,List.mem_append]; grind
 have hnd:(b::(F1++(H1++H2++H3)++F3)).Nodup:=by rw[f9,e2,q2] at h4n; exact h4n
 have hrest:(b::(F1++(H1++H3)++F3)).Nodup∧H2.Nodup∧∀ k∈b::(F1++(H1++H3)++F3),k∉H2:=by
  have hp:(b::(F1++(H1++H2++H3)++F3)).Perm ((b::(F1++(H1++H3)++F3))++H2):=by
   simp only[List.cons_append,aL]
   refine List.Perm.cons _ (List.Perm.append_left _ (List.Perm.append_left _ ?_))
   rw[← aL H3 F3 H2]
   exact List.perm_append_comm
  have:=(hp.nodup_iff).1 hnd
  rw[List.nodup_append] at this
  exact⟨this.1,this.2.1,fun k h1 h2=>this.2.2 k h1 k h2 rfl⟩
 let st':St:=⟨upd st.s s (hdS c' v),upd (upd st.o c (some (sz,es.set j ((es.getD j default).setAt p (.lit v))))) c' (some (sz',es'))⟩
 have o1:st'.o c'=some (sz',es'):=by simp[st',upd]
 have o2:st'.o c=some (sz,es.set j ((es.getD j default).setAt p (.lit v))):=by simp[st',upd,hcn]
 have o3:∀ m,m≠c'→m≠c→st'.o m=st.o m:=fun m h1 h2=>by simp[st',upd,h1,h2]
 have s1:∀ k,k≠s→st'.s k=st.s k:=fun k hk=>by simp[st',upd,hk]
 have s2:st'.s s=hdS c' v:=by simp[st',upd]
 have hbx:∀ k,isBox (st'.s k)=true→k≠s∧isBox (st.s k)=true:=by
  intro k hk
  by_cases e:k=s
  ·subst e; rw[s2] at hk; cases hk
  ·rw[s1 k e] at hk; exact⟨e,hk⟩
 have hfp:∀ m q k,st'.o m=some q→k∈G'.fp m→∃ m' q',st.o m'=some q'∧k∈G.fp m'∧(m=m'∨(m=c'∧m'=c)):=by
  intro m q k hm hk
  by_cases h1:m=c'
  ·subst h1; rw[g3] at hk; exact⟨c,_,hc,(hFc k).2 (.inr hk),.inr ⟨rfl,rfl⟩⟩
  ·by_cases h2:m=c
   ·subst h2; rw[g4] at hk; exact⟨m,_,hc,(hFc k).2 (.inl hk),.inl rfl⟩
   ·rw[g5 m h1 h2] at hk; rw[o3 m h1 h2] at hm; exact⟨m,q,hm,hk,.inl rfl⟩
 have hN:∀ k,Nof κ st G w k→Nof κ st' G' w k:=by
  intro k hk
  refine⟨hk.1,?_⟩
  rintro (⟨r,h1,h2⟩ | ⟨m,q,h1,h2⟩)
  ·exact hk.2 (.inl ⟨r,(hbx r h1).2,h2⟩)
  ·obtain⟨m',q',a1,a2,_⟩:=hfp m q k h1 h2
   exact hk.2 (.inr ⟨m',q',a1,a2⟩)
 refine⟨v,G',⟨h.keep,h.defers,h.nt,fun k=>?_,?_,fun r hr=>h.boxes r (hbx r hr).2,fun r r' h1 h2=>h.bb r r' (hbx r h1).2 (hbx r' h2).2,?_,?_,?_⟩⟩
 ·by_cases e:k=s
  ·subst e
   show SlotOk _ w G' k _ (st'.s k)
   rw[s2,tmp_out h hs]
   refine⟨[],by simp[RepCs],?_⟩
   show undef=hdF v [G'.hd c'] [] []
   rw[g1]; exact hdF_iff.2 rfl
  ·show SlotOk _ w G' k _ (st'.s k)
   rw[s1 k e]
   refine SlotOk.frame hN (fun _ _=>rfl) (fun m hm=>g2 m ?_) (fun _ _=>rfl) (fun _=>⟨rfl,rfl⟩) (h.slots k)
   rintro rfl
   rw[hn.2 k] at hm; cases hm
 ·intro m z zs hm
  change st'.o m=_ at hm
  by_cases h1:m=c'
  ·subst h1
   rw[o1] at hm
   cases hm
   rw[g1,g3]
   refine⟨aS hN (fun _ _=>rfl) _ _ _ (fun _ _=>rfl) q4,hrest.2.1,fun k hk=>h4l k ((hFc k).2 (.inr hk))⟩
  ·by_cases h2:m=c
   ·subst h2
    rw[o2] at hm
    cases hm
    rw[g2 m h1,g4]
    refine⟨?_,hrest.1,fun k hk=>h4l k ((hFc k).2 (.inl hk))⟩
    have hl1:=RepCs.frame (N:=Nof κ st G w) (w':=w) hN (fun _ _=>rfl) _ _ _ (fun _ _=>rfl) e5
    have hl3:=RepCs.frame (N:=Nof κ st G w) (w':=w) hN (fun _ _=>rfl) _ _ _ (fun _ _=>rfl) e6
    have hl2:=q5 (Nof κ st' G' w) w hN (fun _ _=>rfl) (fun _ _=>rfl) (.lit v) [v] [] (by simp[RepC,hone])
    have hsz:((es.getD j default).setAt p (.lit v)).size=sz:=by
     rw[← bz _ _ _ hl2,← q1,bz _ _ _ e4]
     exact f4 _ (by rw[List.getD_eq_getElem?_getD,List.getElem?_eq_getElem hj]; exact List.getElem_mem _)
    have hwhole:=RepCs.append _ _ _ _ _ _ hl1 (by simp only[RepCs]; exact⟨_,_,_,_,rfl,rfl,hl2,hl3⟩:RepCs _ w ((es.getD j default).setAt p (.lit v)::es.drop (j+1)) ((m1++[v]++m3)++c3) ((H1++[]++H3)++F3))
    rw[← set_eq hj] at hwhole
    simp only[RepC]
    refine .inr ⟨b,cap,cc,et,F1++(H1++H3)++F3,ccs,by rw[f1',List.length_set],by rw[List.length_set]; exact f2,f3,?_,f5,f6,by rw[List.length_set]; exact f7,?_,rfl⟩
    ·intro q hq
     rcases List.mem_or_eq_of_mem_set hq with hq | rfl
     ·exact f4 q hq
     ·exact hsz
    ·rw[e1,q1]
     simpa only[List.append_nil,aL] using hwhole
   ·rw[o3 m h1 h2] at hm
    obtain⟨a1,a2,a3⟩:=h.objs m z zs hm
    rw[g2 m h1,g5 m h1 h2]
    exact⟨aS hN (fun _ _=>rfl) _ _ _ (fun _ _=>rfl) a1,a2,a3⟩
 ·intro r m q h1 h2 h3
  obtain⟨m',q',a1,a2,_⟩:=hfp m q _ h2 h3
  exact h.bo r m' q' (hbx r h1).2 a1 a2
 ·intro m m' q q' h1 h2 hne k hk hk'
  obtain⟨n1,r1,a1,a2,a3⟩:=hfp m q k h1 hk
  obtain⟨n2,r2,b1,b2,b3⟩:=hfp m' q' k h2 hk'
  by_cases e:n1=n2
  ·subst e
   rcases a3 with rfl | ⟨rfl,rfl⟩<;>rcases b3 with rfl | ⟨rfl,hb⟩
   ·exact hne rfl
   ·subst hb; rw[g4] at hk; rw[g3] at hk'; exact hrest.2.2 k hk hk'
   ·rw[g3] at hk; rw[g4] at hk'; exact hrest.2.2 k hk' hk
   ·exact hne rfl
  ·exact h.oo n1 n2 r1 r2 a1 b1 e k a2 b2
 ·intro m u hm
  have:=h.held m u hm
  have h10:=κ.hH m u hm
  rw[g2 m (by have:=hn.1.1; omega)]; exact this
section
variable{P:Program}{nt:Nat}{F:St→Prop}{n:Nat}{st:St}{k:List Fr}
theorem MgF.split{l:Array Oper}{id:Nat}{dr:Bool}(c j c' s:Nat)(p:List Nat){sz sz':Nat}{es es':List PV}(es1:Value→List PV)(he:∀ v,es.set j ((es.getD j default).setAt p (.lit v))=es1 v)(hc:st.o c=some (sz,es)∧st.s s=.dead)(hq:j<es.length∧(es.getD j default).okp p=true∧(es.getD j default).at p=.sl true sz' es')(hs:nt≤s)
 (h:st.noC c'∧∀ v,MgF P nt F (n+1) (.code (.region id l dr)) ⟨upd st.s s (hdS c' v),upd (upd st.o c (some (sz,es1 v))) c' (some (sz',es'))⟩ k):MgF P nt F (n+1) (.code (.region id l dr)) st k:=by
 show VC P nt (.region id l dr) st (popQ P nt F k)
 intro κ a w hnt hR
 obtain⟨G,hG⟩:=hR
 obtain⟨v,hR'⟩:=hG.split hc.1 hq.1 hq.2.1 hq.2.2 h.1 (by rw[hnt]; exact hs) hc.2
 rw[he v] at hR'
 exact(h.2 v:VC P nt (.region id l dr) _ (popQ P nt F k)) κ a w hnt hR'
end
@[push_cast] theorem range_14:List.range 14=[0,1,2,3,4,5,6,7,8,9,10,11,12,13]:=rfl
theorem idx0{α:Type}{l:List α}{x:α}(h:idx l 0=some x):∃ xs,l=x::xs:=by
 cases l with
 | nil=>simp[idx] at h
 | cons y ys=>simp[idx] at h; exact⟨ys,by rw[h]⟩
end
section
mutual
def PV.thin:PV→PV
 | .agg fs=>.agg (PV.thins fs)
 | .sl true sz es=>.sl true sz (PV.views es)
 | .tup vs=>.tup (PV.thins vs)
 | p=>p
def PV.thins:List PV→List PV
 | []=>[]
 | p::ps=>p.thin::PV.thins ps
end
/-- What stays one's own. -/
def Thin(N:Nat→Prop)(w:World)(q:(Nat→Prop)→List Nat→Prop)(F:List Nat):Prop:=
 ∃ F2:List Nat,F2.Sublist F∧∀ N':Nat→Prop,(∀ b,N b→N' b)→(∀ b∈F,b∉F2→N' b)→q N' F2
theorem sub_parts{F1 F2 G1 G2:List Nat}(hn:(F1++F2).Nodup)(h1:G1.Sublist F1)(h2:G2.Sublist F2){N':Nat→Prop}(h:∀ b∈F1++F2,b∉G1++G2→N' b):(∀ b∈F1,b∉G1→N' b)∧∀ b∈F2,b∉G2→N' b:=by
 obtain⟨_,_,hd⟩:=List.nodup_append.1 hn
 refine⟨fun b hb hg=>h b (by simp[hb]) (fun hm=>?_),fun b hb hg=>h b (by simp[hb]) (fun hm=>?_)⟩
 ·rcases List.mem_append.1 hm with hm | hm
  ·exact hg hm
  ·exact hd b hb b (h2.subset hm) rfl
 ·rcases List.mem_append.1 hm with hm | hm
  ·exact hd b (h1.subset hm) b hb rfl
  ·exact hg hm
mutual
theorem RepC.thin{N:Nat→Prop}{w:World}:∀ (p:PV) (cs:List Value) (F:List Nat),F.Nodup→RepC N w p cs F→Thin N w (fun N' F2=>RepC N' w p.thin cs F2) F
 | .lit v,cs,F,_,h=>⟨F,List.Sublist.refl _,fun N' hN _=>aS hN (fun _ _=>rfl) (.lit v) cs F (fun _ _=>rfl) h⟩
 | .agg fs,cs,F,hn,h=>by
  simp only[RepC] at h
  obtain⟨F2,h1,h2⟩:=RepCs.thin fs cs F hn h
  exact⟨F2,h1,fun N' hN hF=>by simp only[PV.thin,RepC]; exact h2 N' hN hF⟩
 | .sl false sz es,cs,F,_,h=>⟨F,List.Sublist.refl _,fun N' hN _=>aS hN (fun _ _=>rfl) (.sl false sz es) cs F (fun _ _=>rfl) h⟩
 | .sl true sz es,cs,F,hn,h=>by
  simp only[RepC] at h
  rcases h with⟨h1,h2,h3⟩ | ⟨b,cap,c,e,F',ccs,h1,h2,h3,h4,h5,h6,h7,h8,h9⟩
  ·subst h2; subst h3
   exact⟨[],List.Sublist.refl _,fun N' _ _=>by simp only[PV.thin,PV.views,RepC]; exact .inl ⟨h1,trivial,trivial⟩⟩
  ·subst h9
   refine⟨[b],by simp,fun N' hN hF=>?_⟩
   simp only[PV.thin,RepC]
   refine .inr ⟨b,cap,c,e,[],ccs,by rw[h1,PV.length_views],by rw[PV.length_views]; exact h2,h3,?_,h5,h6,by rw[PV.length_views]; exact h7,RepCs.demote hN es ccs F' (fun x hx=>hF x (by simp[hx]) (fun hm=>?_)) h8,rfl⟩
   ·rw[PV.views_eq]; intro y hy; obtain⟨q,hq,rfl⟩:=List.mem_map.1 hy; rw[PV.size_view]; exact h4 q hq
   ·rw[List.mem_singleton.1 hm] at hx
    exact(List.nodup_cons.1 hn).1 hx
 | .clo f caps,cs,F,_,h=>⟨F,List.Sublist.refl _,fun N' hN _=>aS hN (fun _ _=>rfl) (.clo f caps) cs F (fun _ _=>rfl) h⟩
 | .ptr v,cs,F,_,h=>⟨F,List.Sublist.refl _,fun N' hN _=>aS hN (fun _ _=>rfl) (.ptr v) cs F (fun _ _=>rfl) h⟩
 | .tup _,cs,F,_,h=>by simp only[RepC] at h
theorem RepCs.thin{N:Nat→Prop}{w:World}:∀ (ps:List PV) (cs:List Value) (F:List Nat),F.Nodup→RepCs N w ps cs F→Thin N w (fun N' F2=>RepCs N' w (PV.thins ps) cs F2) F
 | [],cs,F,_,h=>by
  simp only[RepCs] at h
  exact⟨[],List.nil_sublist _,fun N' _ _=>by simp only[PV.thins,RepCs]; exact⟨h.1,trivial⟩⟩
 | p::ps,cs,F,hn,h=>by
  simp only[RepCs] at h
  obtain⟨c1,c2,F1,F2,h1,h2,h3,h4⟩:=h
  subst h2
  obtain⟨n1,n2,_⟩:=List.nodup_append.1 hn
  obtain⟨G1,g1,g2⟩:=RepC.thin p c1 F1 n1 h3
  obtain⟨G2,g3,g4⟩:=RepCs.thin ps c2 F2 n2 h4
  refine⟨G1++G2,g1.append g3,fun N' hN hF=>?_⟩
  obtain⟨k1,k2⟩:=sub_parts hn g1 g3 hF
  simp only[PV.thins,RepCs]
  exact⟨c1,c2,G1,G2,h1,rfl,g2 N' hN k1,g4 N' hN k2⟩
end
theorem RepV.thin{N:Nat→Prop}{w:World}{p:PV}{v:Value}{F:List Nat}(hn:F.Nodup)(h:RepV N w p v F):Thin N w (fun N' F2=>RepV N' w p.thin v F2) F:=by
 cases p with
 | agg fs=>
  obtain⟨cs,rfl,h⟩:=h
  obtain⟨F2,h1,h2⟩:=RepCs.thin fs cs F hn h
  exact⟨F2,h1,fun N' hN hF=>⟨cs,rfl,h2 N' hN hF⟩⟩
 | sl o sz es=>cases o<;>exact RepC.thin _ _ _ hn h
 | lit u=>exact RepC.thin _ _ _ hn h
 | clo f cs=>exact RepC.thin _ _ _ hn h
 | ptr u=>exact RepC.thin _ _ _ hn h
 | tup vs=>simp only[RepV,RepC] at h
theorem RepVs.thin{N:Nat→Prop}{w:World}:∀ (ps:List PV) (vs:List Value) (F:List Nat),F.Nodup→RepVs N w ps vs F→Thin N w (fun N' F2=>RepVs N' w (PV.thins ps) vs F2) F
 | [],vs,F,_,h=>by
  simp only[RepVs] at h
  exact⟨[],List.nil_sublist _,fun N' _ _=>by simp only[PV.thins,RepVs]; exact⟨h.1,trivial⟩⟩
 | p::ps,vs,F,hn,h=>by
  simp only[RepVs] at h
  obtain⟨v,vs',F1,F2,h1,h2,h3,h4⟩:=h
  subst h2
  obtain⟨n1,n2,_⟩:=List.nodup_append.1 hn
  obtain⟨G1,g1,g2⟩:=RepV.thin n1 h3
  obtain⟨G2,g3,g4⟩:=RepVs.thin ps vs' F2 n2 h4
  refine⟨G1++G2,g1.append g3,fun N' hN hF=>?_⟩
  obtain⟨k1,k2⟩:=sub_parts hn g1 g3 hF
  simp only[PV.thins,RepVs]
  exact⟨v,vs',G1,G2,h1,rfl,g2 N' hN k1,g4 N' hN k2⟩
theorem RepR.thin{N:Nat→Prop}{w:World}{p:PV}{v:Value}{F:List Nat}(hn:F.Nodup)(h:RepR N w p v F):Thin N w (fun N' F2=>RepR N' w p.thin v F2) F:=by
 cases p with
 | tup ps=>
  obtain⟨vs,rfl,h⟩:=h
  obtain⟨F2,h1,h2⟩:=RepVs.thin ps vs F hn h
  exact⟨F2,h1,fun N' hN hF=>⟨vs,rfl,h2 N' hN hF⟩⟩
 | agg fs=>
  obtain⟨F2,h1,h2⟩:=RepV.thin (p:=.agg fs) hn h
  exact⟨F2,h1,fun N' hN hF=>h2 N' hN hF⟩
 | sl o sz es=>
  obtain⟨F2,h1,h2⟩:=RepV.thin (p:=.sl o sz es) hn h
  exact⟨F2,h1,fun N' hN hF=>by have:=h2 N' hN hF; cases o<;>exact this⟩
 | lit u=>exact RepV.thin (p:=.lit u) hn h
 | clo f cs=>exact RepV.thin (p:=.clo f cs) hn h
 | ptr u=>exact RepV.thin (p:=.ptr u) hn h
theorem views_set(l:List PV)(i:Nat)(x:PV):PV.views (l.set i x)=(PV.views l).set i x.view:=by
 rw[PV.views_eq,PV.views_eq,List.map_set]
attribute [push_cast] views_set
end
section
def bitandNot(k:IntKind)(a b:Int):Int:=k.wrap (BitVec.ofInt k.bits a&&& ~~~BitVec.ofInt k.bits b).toNat
theorem binK_andNot{P:Program}(T:TypeId)(k:IntKind)(a b:Int)(K:Value→Prop):binK P T .andNot (.int k a) (.int k b) K=K (.int k (bitandNot k a b)):=by simp[binK,bitandNot]
attribute [push_cast] binK_andNot
end
section
def keptL(G:Gh)(ks:List Nat):List Nat:=ks.flatMap G.fp
theorem keptL_mem{G:Gh}{ks:List Nat}{b:Nat}:b∈keptL G ks↔∃ c∈ks,b∈G.fp c:=by simp[keptL,List.mem_flatMap]
structure FrzPOk(st st1:St)(ks:List Nat):Prop where
 kept:∀ c∈ks,c<10000∧∃ sz es,st.o c=some (sz,es)∧aM es=true
 objs:∀ c,st1.o c=none∨(c∈ks∧st1.o c=st.o c)
 slots:∀ k,st1.s k=.dead∨(∃ x,st.s k=.val x∧x.whole st.o=true∧(∀ c∈x.names,c∉ks)∧st1.s k=.val (.pv (x.pvw st.o)))∨(st1.s k=st.s k∧keepV ks (st.s k)=true)
def frzP(κ:Ctx)(st:St)(G:Gh)(a:Act)(w:World)(ks:List Nat)(h:RG κ G st a w)(hk:∀ c∈ks,∃ sz es,st.o c=some (sz,es)):Ctx where
 w0:=w
 N:=fun b=>(Nof κ st G w b∨Priv st G b)∧b∉keptL G ks
 L:=keptL G ks
 nt:=κ.nt
 hN:=by
  rintro b ⟨hb | ⟨r,h1,rfl⟩ | ⟨c,p,h1,h2⟩,hn⟩
  ·exact⟨hb.lt h,hn⟩
  ·exact⟨(h.boxes r h1).2,hn⟩
  ·exact⟨((h.objs c p.1 p.2 h1).2.2 b h2).2,hn⟩
 hL:=by
  intro b hb
  obtain⟨c,hc,hb⟩:=keptL_mem.1 hb
  obtain⟨sz,es,e⟩:=hk c hc
  exact((h.objs c sz es e).2.2 b hb).2
theorem keepV_box{ns:List Nat}{v:SlotV}(h:keepV ns v=true):isBox v=false:=by cases v<;>first | rfl | (simp[keepV] at h)
theorem FrzPOk.has{st st1:St}{ks:List Nat}(h:FrzPOk st st1 ks):∀ c∈ks,∃ sz es,st.o c=some (sz,es):=fun c hc=>by
 obtain⟨_,sz,es,e,_⟩:=h.kept c hc; exact⟨sz,es,e⟩
theorem RG.frzP{κ:Ctx}{G:Gh}{st st1:St}{a:Act}{w:World}{ks:List Nat}(h:RG κ G st a w)(hf:FrzPOk st st1 ks):RG (Av.frzP κ st G a w ks h hf.has) G st1 a w:=by
 have nb:∀ r,isBox (st1.s r)=false:=fun r=>by
  rcases hf.slots r with e | ⟨x,_,_,_,e⟩ | ⟨e,e2⟩
  ·rw[e]; rfl
  ·rw[e]; rfl
  ·rw[e]; exact keepV_box e2
 have ob:∀ c p,st1.o c=some p→c∈ks∧st.o c=some p:=fun c p hc=>by
  rcases hf.objs c with e | ⟨e1,e2⟩
  ·rw[e] at hc; cases hc
  ·exact⟨e1,e2▸hc⟩
 have hN:∀ b,(Nof κ st G w b∨Priv st G b)∧b∉keptL G ks→Nof (Av.frzP κ st G a w ks h hf.has) st1 G w b:=fun b hb=>⟨.inl hb,by
  rintro (⟨r,h1,_⟩ | ⟨c,p,h1,h2⟩)
  ·rw[nb] at h1; cases h1
  ·exact hb.2 (keptL_mem.2 ⟨c,(ob c p h1).1,h2⟩)⟩
 have hv:∀ b,Nof κ st G w b→Nof (Av.frzP κ st G a w ks h hf.has) st1 G w b:=fun b hb=>hN b ⟨.inl hb,fun hm=>by
  obtain⟨c,hc,hm⟩:=keptL_mem.1 hm
  obtain⟨sz,es,e⟩:=hf.has c hc
  exact hb.2 (.inr ⟨c,_,e,hm⟩)⟩
 refine⟨KeepX.refl _ _ _,h.defers,h.nt,fun k=>?_,fun c sz es hc=>?_,fun r hr=>(by rw[nb] at hr; cases hr),fun r r' hr=>(by rw[nb] at hr; cases hr),fun r c p hr=>(by rw[nb] at hr; cases hr),
  fun c c' p p' h1 h2=>h.oo c c' p p' (ob c p h1).2 (ob c' p' h2).2,fun c v hc=>(by simp[Av.frzP] at hc)⟩
 ·have hs:=h.slots k
  rcases hf.slots k with e | ⟨x,e1,e2,e3,e⟩ | ⟨e,e2⟩
  ·rw[e]; trivial
  ·rw[e1] at hs
   rw[e]
   simp only[SlotOk]
   exact cval_pv (CVal.viewN hv (fun c sz es hm hc=>⟨(h.objs c sz es hc).1,fun b hb=>hN b ⟨.inr (.inr ⟨c,_,hc,hb⟩),fun hk=>by
    obtain⟨c2,hc2,hb2⟩:=keptL_mem.1 hk
    obtain⟨sz2,es2,e4⟩:=hf.has c2 hc2
    exact h.oo c c2 _ _ hc e4 (fun q=>e3 c hm (q▸hc2)) b hb hb2⟩⟩) e2 hs)
  ·rw[e]
   cases hk:st.s k with
   | val x=>
    rw[hk] at hs e2
    exact CVal.keep (fun _ _=>rfl) e2 hs
   | _=>rw[hk] at e2; simp[keepV] at e2
 ·obtain⟨g1,g2⟩:=ob c _ hc
  obtain⟨p1,p2,p3⟩:=h.objs c sz es g2
  obtain⟨_,sz',es',q1,q2⟩:=hf.kept c g1
  rw[g2] at q1
  cases q1
  exact⟨RepC.noView (N:=Nof κ st G w) _ _ _ (by simp[PV.noView,q2]) p1,p2,fun b hb=>⟨.inr (keptL_mem.2 ⟨c,g1,hb⟩),(p3 b hb).2⟩⟩
def keepW(ns:List Nat):SlotV→Bool
 | .val x=>x.keep ns
 | .eptr c _ _ _ _=>ns.contains c
 | _=>false
theorem keepW_box{ns:List Nat}{v:SlotV}(h:keepW ns v=true):isBox v=false:=by cases v<;>first | rfl | (simp[keepW] at h)
/-- The state behind the stretch. -/
structure ThawP(st st2 st3:St)(ds ns ks:List Nat):Prop where
 slots:∀ k,st3.s k=.dead∨(k∉ds∧st3.s k=st.s k∧∀ c∈ns,(st.s k).noC c=true)∨(st3.s k=st2.s k∧keepW ns (st2.s k)=true)
 objs:∀ c,st3.o c=none∨(c∉ns∧c∉ks∧st3.o c=st.o c)∨(c∈ns∧st3.o c=st2.o c)
 fresh:∀ c∈ns,c<10000
 news:∀ c∈ns,∃ sz es,st2.o c=some (sz,es)∧aM es=true
theorem RG.thawP{κ:Ctx}{G G2:Gh}{st st1 st2 st3:St}{a a':Act}{w w':World}{ds ns ks:List Nat}(h:RG κ G st a w)(hf:FrzPOk st st1 ks)(k2:RG (Av.frzP κ st G a w ks h hf.has) G2 st2 a' w')(hfr:Fr0 ds a a')(ht:ThawP st st2 st3 ds ns ks):R κ st3 a' w':=by
 have hold:∀ b,b<w.heap.size→b∉keptL G ks→w'.heap[b]?=w.heap[b]?:=fun b hb hk=>k2.keep.block b hb hk
 have hsz:w.heap.size≤w'.heap.size:=k2.keep.size
 have h0:κ.w0.heap.size≤w.heap.size:=h.keep.size
 have hkp:∀ b,b∈keptL G ks→(κ.w0.heap.size≤b∨b∈κ.L)∧b<w.heap.size∧Priv st G b:=fun b hb=>by
  obtain⟨c,hc,hb⟩:=keptL_mem.1 hb
  obtain⟨sz,es,e⟩:=hf.has c hc
  have:=(h.objs c sz es e).2.2 b hb
  exact⟨this.1,this.2,.inr ⟨c,_,e,hb⟩⟩
 have hnew:∀ c∈ns,∀ b∈G2.fp c,(w.heap.size≤b∨b∈keptL G ks)∧b<w'.heap.size:=by
  intro c hc b hb
  obtain⟨sz,es,e1,_⟩:=ht.news c hc
  exact(k2.objs c sz es e1).2.2 b hb
 let G3:Gh:={ hd:=fun c=>if c∈ns then G2.hd c else G.hd c,fp:=fun c=>if c∈ns then G2.fp c else G.fp c,ad:=G.ad }
 have hd1:∀ c,c∈ns→G3.hd c=G2.hd c∧G3.fp c=G2.fp c:=fun c hc=>by simp[G3,hc]
 have hd0:∀ c,c∉ns→G3.hd c=G.hd c∧G3.fp c=G.fp c:=fun c hc=>by simp[G3,hc]
 have obj:∀ c p,st3.o c=some p→(c∉ns∧c∉ks∧st.o c=some p)∨(c∈ns∧st2.o c=some p):=by
  intro c p hc
  rcases ht.objs c with e | ⟨e1,e1',e2⟩ | ⟨e1,e2⟩
  ·rw[e] at hc; cases hc
  ·exact .inl ⟨e1,e1',e2▸hc⟩
  ·exact .inr ⟨e1,e2▸hc⟩
 have box:∀ r,isBox (st3.s r)=true→isBox (st.s r)=true∧r∉ds:=by
  intro r hr
  rcases ht.slots r with e | ⟨e1,e2,_⟩ | ⟨e2,e3⟩
  ·rw[e] at hr; cases hr
  ·exact⟨e2▸hr,e1⟩
  ·rw[e2,keepW_box e3] at hr; cases hr
 -- what is not kept is apart from it
 have apO:∀ c p,st.o c=some p→c∉ks→∀ b∈G.fp c,b∉keptL G ks:=fun c p hc hn b hb hk=>by
  obtain⟨c2,hc2,hb2⟩:=keptL_mem.1 hk
  obtain⟨sz2,es2,e4⟩:=hf.has c2 hc2
  exact h.oo c c2 _ _ hc e4 (fun q=>hn (q▸hc2)) b hb hb2
 have apB:∀ r,isBox (st.s r)=true→G.ad r∉keptL G ks:=fun r hr hk=>by
  obtain⟨c2,hc2,hb2⟩:=keptL_mem.1 hk
  obtain⟨sz2,es2,e4⟩:=hf.has c2 hc2
  exact h.bo r c2 _ hr e4 hb2
 have apN:∀ b,Nof κ st G w b→b∉keptL G ks:=fun b hb hk=>hb.2 (hkp b hk).2.2
 have hP:∀ b,Nof κ st G w b→Nof κ st3 G3 w' b:=by
  intro b hb
  have hlt:=hb.lt h
  refine⟨hb.1.imp id (fun g=>⟨g.1,by omega⟩),?_⟩
  rintro (⟨r,h1,h2⟩ | ⟨c,p,h1,h2⟩)
  ·exact hb.2 (.inl ⟨r,(box r h1).1,h2⟩)
  ·rcases obj c p h1 with⟨g1,_,g2⟩ | ⟨g1,g2⟩
   ·rw[(hd0 c g1).2] at h2; exact hb.2 (.inr ⟨c,p,g2,h2⟩)
   ·rw[(hd1 c g1).2] at h2
    rcases (hnew c g1 b h2).1 with q | q
    ·omega
    ·exact apN b hb q
 refine⟨G3,⟨h.keep.trans ⟨k2.keep.os,k2.keep.tape,k2.keep.output,hsz,fun b hb hl=>hold b (by omega) (fun hk=>by
  rcases (hkp b hk).1 with q | q
  ·omega
  ·exact hl q),k2.keep.drawn⟩,k2.defers,k2.nt,fun k=>?_,fun c sz es hc=>?_,fun r hr=>?_,fun r r' h1 h2=>?_,fun r c p h1 h2=>?_,fun c c' p p' h1 h2 hne=>?_,fun c v hc=>?_⟩⟩
 ·rcases ht.slots k with e | ⟨e1,e2,e3⟩ | ⟨e2,e3⟩
  ·rw[e]; trivial
  ·rw[e2,hfr k e1]
   refine SlotOk.frame (G:=G) (G':=G3) hP (fun b hb=>hold b (hb.lt h) (apN b hb)) (fun c hc=>?_) (fun _ _=>rfl) (fun hb=>⟨rfl,hold _ (h.boxes k hb).2 (apB k hb)⟩) (h.slots k)
   by_cases hcn:c∈ns
   ·rw[e3 c hcn] at hc; cases hc
   ·exact(hd0 c hcn).1
  ·rw[e2]
   have hs:=k2.slots k
   cases hs2:st2.s k with
   | val x=>
    rw[hs2] at hs e3
    exact CVal.keep (fun c hc=>(hd1 c hc).1) e3 hs
   | eptr c sz i p off=>
    rw[hs2] at hs e3
    obtain⟨b,n,cap,e4,e5⟩:=hs
    exact⟨b,n,cap,((hd1 c (by simpa[keepW] using e3)).1).trans e4,e5⟩
   | _=>rw[hs2] at e3; simp[keepW] at e3
 ·rcases obj c _ hc with⟨g1,g1',g2⟩ | ⟨g1,g2⟩
  ·obtain⟨p1,p2,p3⟩:=h.objs c sz es g2
   rw[(hd0 c g1).1,(hd0 c g1).2]
   exact⟨aS hP (fun b hb=>hold b (hb.lt h) (apN b hb)) _ _ _ (fun b hb=>hold b (p3 b hb).2 (apO c _ g2 g1' b hb)) p1,p2,fun b hb=>⟨(p3 b hb).1,by have:=(p3 b hb).2; omega⟩⟩
  ·obtain⟨p1,p2,p3⟩:=k2.objs c sz es g2
   obtain⟨sz',es',q1,q2⟩:=ht.news c g1
   rw[g2] at q1
   cases q1
   rw[(hd1 c g1).1,(hd1 c g1).2]
   exact⟨RepC.noView (N:=Nof (Av.frzP κ st G a w ks h hf.has) st2 G2 w') _ _ _ (by simp[PV.noView,q2]) p1,p2,fun b hb=>by
    obtain⟨q3,q4⟩:=hnew c g1 b hb
    refine⟨?_,q4⟩
    rcases q3 with q3 | q3
    ·exact .inl (by omega)
    ·exact(hkp b q3).1⟩
 ·have:=h.boxes r (box r hr).1
  exact⟨this.1,by have:=this.2; simp only[G3]; omega⟩
 ·exact h.bb r r' (box r h1).1 (box r' h2).1
 ·rcases obj c p h2 with⟨g1,_,g2⟩ | ⟨g1,g2⟩
  ·rw[(hd0 c g1).2]; exact h.bo r c p (box r h1).1 g2
  ·rw[(hd1 c g1).2]
   intro hm
   have h4:=(h.boxes r (box r h1).1).2
   rcases (hnew c g1 _ hm).1 with q | q
   ·simp only[G3] at q; omega
   ·exact apB r (box r h1).1 q
 ·rcases obj c p h1 with⟨g1,g1',g2⟩ | ⟨g1,g2⟩<;>rcases obj c' p' h2 with⟨g3,g3',g4⟩ | ⟨g3,g4⟩
  ·rw[(hd0 c g1).2,(hd0 c' g3).2]; exact h.oo c c' p p' g2 g4 hne
  ·rw[(hd0 c g1).2,(hd1 c' g3).2]
   intro b hb hb'
   have h4:=((h.objs c p.1 p.2 g2).2.2 b hb).2
   rcases (hnew c' g3 b hb').1 with q | q
   ·omega
   ·exact apO c p g2 g1' b hb q
  ·rw[(hd1 c g1).2,(hd0 c' g3).2]
   intro b hb hb'
   have h4:=((h.objs c' p'.1 p'.2 g4).2.2 b hb').2
   rcases (hnew c g1 b hb).1 with q | q
   ·omega
   ·exact apO c' p' g4 g3' b hb' q
  ·rw[(hd1 c g1).2,(hd1 c' g3).2]; exact k2.oo c c' p p' g2 g4 hne
 ·have hcn:c∉ns:=fun hm=>by have:=κ.hH c v hc; have:=ht.fresh c hm; omega
  rw[(hd0 c hcn).1]; exact h.held c v hc
/-! ### Regions -/
section
variable{P:Program}{nt:Nat}{ops:Array Oper}{st st1:St}{Q:Exit→St→Prop}{ds ks:List Nat}
/-- A region that only looks at what is lent. -/
theorem VC.frzP{id:Nat}(hf:FrzPOk st st1 ks)(hds:∀ o∈ops.toList,∀ x,o.dst=some x→x∈ds)
 (h:wpD P nt ops ops.toList st1 [] (fun _ st2=>∃ st3 ns,ThawP st st2 st3 ds ns ks∧Q .normal st3)):VC P nt (.region id ops false) st Q:=by
 intro κ a w hnt hR Qc hQ
 obtain⟨G,hG⟩:=hR
 obtain⟨recs,st2,ht,hl,st3,ns,hth,hK⟩:=wpD_ok ops.toList 0 st1 [] (by simp) h
 refine wp_region ?_
 have:=ht.seqF (ds:=ds) (Q:=Qc) (Av.frzP κ st G a w ks hG hf.has) a a w hnt ⟨G,hG.frzP hf⟩ (fun j _ _ o ho=>hds o (List.mem_of_getElem? (by simpa using ho))) (Fr0.refl _ _) (fun a' w' hR' hfr=>by
  obtain⟨G2,hG2⟩:=hR'
  exact hQ _ _ _ _ hK (hG.thawP hf hG2 hfr hth))
 rw[hl] at this
 rwa [List.range_eq_range',← Array.length_toList]
/-- .. in any order, but for its last operation, which waits for all others. -/
theorem VC.frzDP{id n:Nat}{o:Oper}(hm:P.follows .mixedOrders=true)(hf:FrzPOk st st1 ks)(hn:ops.size=n+1)(ho:ops[n]?=some o)(hlast:∀ i,i<n→depN ops 20 n i=true)(hds:∀ o∈ops.toList.take n,∀ x,o.dst=some x→x∈ds)
 (h:wpD P nt ops (ops.toList.take n) st1 [] (fun recs st2=>DrawOk ops st1 recs∧∃ st3 ns,ThawP st st2 st3 ds ns ks∧stepG P nt ops st3 o fun r=>Q .normal (st3.app r))):VC P nt (.region id ops true) st Q:=by
 intro κ a w hnt hR Qc hQ
 obtain⟨G,hG⟩:=hR.drew
 have hpre:∀ (os:List Oper) (st:St) (acc:List Rec) (K:List Rec→St→Prop) (i:Nat),(∀ j,j<os.length→os[j]?=ops[i+j]?)→wpD P nt ops os st acc K→∃ recs st',Traj P nt ops i st recs st'∧recs.length=os.length∧K (acc.reverse++recs) st':=by
  intro os
  induction os with
  | nil=>intro st acc K i _ h; exact⟨[],st,.nil i st,rfl,by simpa[wpD] using h⟩
  | cons o os ih=>
   intro st acc K i ho h
   simp only[wpD] at h
   obtain⟨r,h1,h2,h3⟩:=stepG_ok (i:=i) (by simpa using (ho 0 (by simp)).symm) h
   obtain⟨recs,st',g1,g2,g3⟩:=ih (st.app r) (r::acc) K (i+1) (fun j hj=>by have:=ho (j+1) (by simp only[List.length_cons]; omega); simpa[Nat.add_assoc,Nat.add_comm 1 j] using this) h3
   exact⟨r::recs,st',.cons h1 h2 g1,by simp[g2],by simpa using g3⟩
 obtain⟨recs,st2,ht,hl,hok,st3,ns,hth,hK⟩:=hpre _ st1 [] _ 0 (fun j hj=>by
  rw[List.length_take,Array.length_toList] at hj
  rw[List.getElem?_take_of_lt (by omega),Array.getElem?_toList,Nat.zero_add]) h
 have hlen:recs.length=n:=by rw[hl,List.length_take,Array.length_toList]; omega
 refine wp_region_any hm (any_frz (ds:=ds) ht hlen hn (by simpa using hok) hlast (fun i hi o' ho'=>hds o' (List.mem_of_getElem? (i:=i) (by rw[List.getElem?_take_of_lt hi,Array.getElem?_toList]; exact ho'))) (Av.frzP κ st G a _ ks hG hf.has) hnt a (fun a' w' hR' hfr=>?_) _ _ _ _ (by simp) (by simp[List.count_replicate]) (fun i hi=>?_) ?_ (Fr0.refl _ _) ?_)
 ·obtain⟨G2,hG2⟩:=hR'
  have h3:=hG.thawP hf hG2 hfr hth
  obtain⟨r,k1,k2,k3⟩:=stepG_ok (i:=n) ho hK
  exact k1 κ _ a' w' hnt (Rec.same_refl _ _) k2 h3 _ _ (fun a'' w'' hR''=>hQ _ _ _ _ k3 hR'')
 ·simp[Array.getD_eq_getD_getElem?,Array.getElem?_replicate] at hi
  split at hi<;>simp at hi
 ·simp only[Array.getD_eq_getD_getElem?,Array.getElem?_replicate]
  split<;>rfl
 ·have:appS st1 0 recs (fun m=>(Array.replicate ops.size false).getD m false)=st1:=by
   have h0:∀ (rs:List Rec) (i:Nat) (s:St) (S:Nat→Bool),(∀ m,S m=false)→appS s i rs S=s:=by
    intro rs; induction rs with
    | nil=>intros; rfl
    | cons q qs ih=>intro i s S hS; simp only[appS,hS i]; simpa using ih (i+1) s S hS
   refine h0 _ _ _ _ (fun m=>?_)
   simp only[Array.getD_eq_getD_getElem?,Array.getElem?_replicate]
   split<;>rfl
  rw[this]
  exact⟨G,hG.frzP hf⟩
end
/-! ### Their forms for scripts -/
def FrzPE(st:St)(ks:List Nat):SlotV→SlotV→Prop
 | .val x,v=>x.whole st.o=true∧(x.names.all fun c=>!ks.contains c)=true∧SlotV.val (.pv (x.pvw st.o))=v
 | _,_=>False
def FrzPL(st:St)(ks:List Nat):List (Nat×SlotV)→Prop
 | []=>True
 | (k,v)::l=>FrzPE st ks (st.s k) v∧FrzPL st ks l
theorem FrzPL.mem{st:St}{ks:List Nat}:∀ {l:List (Nat×SlotV)},FrzPL st ks l→∀ {k v},(k,v)∈l→FrzPE st ks (st.s k) v
 | (j,u)::l,h,k,v,hm=>by
  rcases List.mem_cons.1 hm with e | hm
  ·cases e; exact h.1
  ·exact FrzPL.mem h.2 hm
theorem FrzPOk.mk'{st:St}{ks:List Nat}{S1 S2:List (Nat×SlotV)}{O:List (Nat×(Nat×List PV))}(h:FrzPL st ks S1∧OldS st S2∧ObjS st O∧ObjV O)(h2:(S2.all fun x=>keepV ks x.2)=true)(hk:O.map (·.1)=ks)(hl:(ks.all fun c=>decide (c<10000))=true):FrzPOk st ⟨mkS (S1++S2),mkO O⟩ ks:=by
 rw[aZ] at h2 hl
 refine⟨fun c hc=>⟨by simpa using hl c hc,?_⟩,fun c=>?_,fun k=>?_⟩
 ·rw[← hk] at hc
  obtain⟨x,hx,rfl⟩:=List.mem_map.1 hc
  exact⟨x.2.1,x.2.2,h.2.2.1.mem hx,h.2.2.2.mem hx⟩
 ·rcases mkO_mem (S:=O) c with e | ⟨p,e,hm⟩
  ·exact .inl e
  ·refine .inr ⟨?_,by show mkO _ c=_; rw[e,h.2.2.1.mem hm]⟩
   rw[← hk]; exact List.mem_map.2 ⟨_,hm,rfl⟩
 ·rcases mkS_mem (S:=S1++S2) k with e | hm
  ·exact .inl e
  ·rcases List.mem_append.1 hm with hm | hm
   ·have:=h.1.mem hm
    unfold FrzPE at this
    split at this
    ·rename_i x hs
     refine .inr (.inl ⟨x,hs,this.1,fun c hc=>?_,this.2.2.symm⟩)
     have:=List.all_eq_true.1 this.2.1 c hc
     simpa using this
    ·exact this.elim
   ·have e:=h.2.1.mem hm
    exact .inr (.inr ⟨e.symm,by rw[e]; exact h2 _ hm⟩)
def ThawPH(st st2:St)(ds ks:List Nat)(K:St→Prop)(_:Tok K)(_:Tok st):Prop:=∃ st3 ns,ThawP st st2 st3 ds ns ks∧K st3
@[congr] theorem ThawPH.cg {st st2 st2':St} {ds ks:List Nat} {K:St→Prop} (h:∀ _:Unit,st2=st2'):ThawPH st st2 ds ks K .mk .mk=ThawPH st st2' ds ks K .mk .mk:=by rw[h ()]
/-- Behind the stretch: old slots A, new ones B; old objects C, new and kept ones D. -/
theorem ThawPH.mk{st st2:St}{ds ks:List Nat}{K:St→Prop}(A B:List (Nat×SlotV))(C D:List (Nat×(Nat×List PV)))(ns:List Nat)(h1:OldS st A∧ObjS st C)(h2:OldS st2 B∧ObjS st2 D∧ObjV D)
 (hK:K ⟨mkS (A++B),mkO (C++D)⟩) (hA:(A.all fun x=>!ds.contains x.1&&ns.all fun c=>x.2.noC c)=true:=by rfl) (hB:(B.all fun x=>keepW ns x.2)=true:=by rfl) (hC:(C.all fun x=>!ns.contains x.1&&!ks.contains x.1)=true:=by rfl) (hD:D.map (·.1)=ns:=by rfl) (hl:(ns.all fun c=>decide (c<10000))=true:=by rfl):ThawPH st st2 ds ks K .mk .mk:=by
 rw[aZ] at hA hB hC hl
 refine⟨_,ns,⟨fun k=>?_,fun c=>?_,fun c hc=>by simpa using hl c hc,fun c hc=>?_⟩,hK⟩
 ·rcases mkS_mem (S:=A++B) k with h | h
  ·exact .inl h
  ·rcases List.mem_append.1 h with h | h
   ·have h3:=hA _ h
    simp only[aA] at h3
    have e:=h1.1.mem h
    exact .inr (.inl ⟨by simpa using h3.1,e.symm,fun c hc=>by rw[e]; exact List.all_eq_true.1 h3.2 c hc⟩)
   ·have h3:=hB _ h
    have e:=h2.1.mem h
    exact .inr (.inr ⟨e.symm,by rw[e]; exact h3⟩)
 ·rcases mkO_mem (S:=C++D) c with h | ⟨p,h,hm⟩
  ·exact .inl h
  ·rcases List.mem_append.1 hm with hm | hm
   ·have h3:=hC _ hm
    simp only[aA] at h3
    exact .inr (.inl ⟨by simpa using h3.1,by simpa using h3.2,by show mkO _ c=_; rw[h,h1.2.mem hm]⟩)
   ·refine .inr (.inr ⟨?_,by show mkO _ c=_; rw[h,h2.2.1.mem hm]⟩)
    rw[← hD]; exact List.mem_map.2 ⟨_,hm,rfl⟩
 ·rw[← hD] at hc
  obtain⟨x,hx,rfl⟩:=List.mem_map.1 hc
  exact⟨x.2.1,x.2.2,h2.2.1.mem hx,h2.2.2.mem hx⟩
section
variable{P:Program}{nt n id:Nat}{F:St→Prop}{st:St}{k:List Fr}{l:List Oper}
theorem MgF.frzP(S1 S2:List (Nat×SlotV))(O:List (Nat×(Nat×List PV)))(ds ks:List Nat)(hf:FrzPL st ks S1∧OldS st S2∧ObjS st O∧ObjV O)
 (h:wpD P nt ⟨l⟩ l ⟨mkS (S1++S2),mkO O⟩ [] (fun _ st2=>ThawPH st st2 ds ks (fun st3=>MgF P nt F n .nrm st3 k) .mk .mk))
 (h2:(S2.all fun x=>keepV ks x.2)=true:=by rfl) (hk:O.map (·.1)=ks:=by rfl) (hl:(ks.all fun c=>decide (c<10000))=true:=by rfl) (hds:(l.all fun o=>o.dst.toList.all fun x=>ds.contains x)=true:=by rfl):MgF P nt F (n+1) (.code (.region id ⟨l⟩ false)) st k:=by
 rw[aZ] at hds
 refine VC.mono (VC.frzP (Q:=onlyN fun st'=>MgF P nt F n .nrm st' k) (ds:=ds) (FrzPOk.mk' hf h2 hk hl) (fun o ho x hx=>?_) h) (fun e st' hq=>by cases e<;>first | exact MgF.sound n .nrm st' k hq | exact hq.elim)
 have:=hds o ho
 rw[hx] at this
 simpa using this
theorem MgF.frzDP(S1 S2:List (Nat×SlotV))(O:List (Nat×(Nat×List PV)))(ds ks:List Nat)(m:Nat){l':List Oper}{o:Oper}(hm:P.follows .mixedOrders=true)(hf:FrzPL st ks S1∧OldS st S2∧ObjS st O∧ObjV O)(hl1:l.take m=l')(ho:l[m]?=some o)
 (h:wpD P nt ⟨l⟩ l' ⟨mkS (S1++S2),mkO O⟩ [] (fun recs st2=>DrawH ⟨l⟩ ⟨mkS (S1++S2),mkO O⟩ recs .mk .mk .mk∧ThawPH st st2 ds ks (fun st3=>stepG P nt ⟨l⟩ st3 o fun r=>MgF P nt F n .nrm (st3.app r) k) .mk .mk))
 (h2:(S2.all fun x=>keepV ks x.2)=true:=by rfl) (hk:O.map (·.1)=ks:=by rfl) (hl:(ks.all fun c=>decide (c<10000))=true:=by rfl)
 (hn:l.length=m+1:=by rfl) (hlast:((List.range m).all fun i=>depLN l 20 m i)=true:=by rfl) (hds:(l'.all fun o=>o.dst.toList.all fun x=>ds.contains x)=true:=by rfl):MgF P nt F (n+1) (.code (.region id ⟨l⟩ true)) st k:=by
 subst hl1
 rw[aZ] at hds hlast
 refine VC.mono (VC.frzDP (Q:=onlyN fun st'=>MgF P nt F n .nrm st' k) (ds:=ds) (n:=m) (o:=o) hm (FrzPOk.mk' hf h2 hk hl) (by simpa using hn) (by simpa using ho) (fun i hi=>by rw[depLN_eq]; exact hlast i (by simpa using hi)) (fun o ho x hx=>?_) h) (fun e st' hq=>by cases e<;>first | exact MgF.sound n .nrm st' k hq | exact hq.elim)
 have:=hds o ho
 rw[hx] at this
 simpa using this
end
theorem FrzPE_val(st:St)(ks:List Nat)(x:CV)(v:SlotV):FrzPE st ks (.val x) v=(x.whole st.o=true∧(x.names.all fun c=>!ks.contains c)=true∧SlotV.val (.pv (x.pvw st.o))=v):=rfl
theorem FrzPL_n(st:St)(ks:List Nat):FrzPL st ks []=True:=rfl
theorem FrzPL_c(st:St)(ks:List Nat)(k:Nat)(v:SlotV)(l:List (Nat×SlotV)):FrzPL st ks ((k,v)::l)=(FrzPE st ks (st.s k) v∧FrzPL st ks l):=rfl
theorem noViews_set{l:List PV}{i:Nat}{x:PV}(h1:aM l=true)(h2:x.noView=true):aM (l.set i x)=true:=by
 induction l generalizing i with
 | nil=>rfl
 | cons y l ih=>
  simp only[aM,aA] at h1
  cases i with
  | zero=>simp only[List.set_cons_zero,aM,aA]; exact⟨h2,h1.2⟩
  | succ i=>simp only[List.set_cons_succ,aM,aA]; exact⟨h1.1,ih h1.2⟩
attribute [push_cast] noViews_set
attribute [push_cast] FrzPE_val FrzPL_n FrzPL_c
end
section
section
variable{P:Program}{nt:Nat}{ops:Array Oper}{i:Nat}{st:St}{K:St→Prop}
theorem VSeq.split(c j c' s:Nat)(p:List Nat){sz sz':Nat}{es es':List PV}(es1:Value→List PV)(he:∀ v,es.set j ((es.getD j default).setAt p (.lit v))=es1 v)(hc:st.o c=some (sz,es)∧st.s s=.dead)(hq:j<es.length∧(es.getD j default).okp p=true∧(es.getD j default).at p=.sl true sz' es')(hs:nt≤s)
 (h:st.noC c'∧∀ v,VSeq P nt ops i ⟨upd st.s s (hdS c' v),upd (upd st.o c (some (sz,es1 v))) c' (some (sz',es'))⟩ K):VSeq P nt ops i st K:=by
 intro κ a w hnt hR
 obtain⟨G,hG⟩:=hR
 obtain⟨v,hR'⟩:=hG.split hc.1 hq.1 hq.2.1 hq.2.2 h.1 (by rw[hnt]; exact hs) hc.2
 rw[he v] at hR'
 exact h.2 v κ a w hnt hR'
end
/-- An element that was put there just now. -/
theorem EldH.at{es:List PV}{j:Nat}{a:PV}{K:PV→Prop}(h:j<es.length)(ha:es.getD j default=a)(hK:K a):EldH es j K .mk:=⟨h,by rw[ha]; exact hK⟩
end
section
theorem VSeq.takeX{P:Program}{nt:Nat}{ops:Array Oper}{i:Nat}{st:St}{K:St→Prop}{o:Oper}{x:Operand}{T:TypeId}{d c sz:Nat}{α:Type}{fx:α→PV}{xs:List α}{e:Int}{y:α}(row:PV)(hidx:idx xs e=some y)
 (ho:ops[i]?=some o) (hg:o.guard=none) (hop:o.op=.load T x) (hdst:o.dst=some d) (hrw:fx y=row) (hsz:row.size=sz)
 (hs:d<nt∧ev P st 0 x=.eptr c sz e.toNat [] 0∧st.o c=some (sz,xs.map fx)∧TyIs P T (explode row (16*d)).1.isAgg (explode row (16*d)).1.size) (hgo:∀ n,(explode row (16*d)).1≠.gone n)
 (h:(∀ n∈(explode row (16*d)).2.1.map (·.1),st.noC n)∧∀ q:PV,q.size=sz→VSeq P nt ops (i+1) ⟨upd st.s d (.val (explode row (16*d)).1),updAll (upd st.o c (some (sz,(xs.map fx).set e.toNat q))) (newObjs (explode row (16*d)).2.1)⟩ K):VSeq P nt ops i st K:=by
 obtain⟨hd,hx,hc,hT⟩:=hs
 obtain⟨h1,h2,h3⟩:=idx_some hidx
 have hl:e.toNat<xs.length:=by omega
 refine VSeq.take row ho hg hop hdst hd hx hc (by rw[List.length_map]; exact hl) ?_ hT hgo h.1 fun cs=>h.2 _ (by rw[size_junk]; exact hsz)
 rw[← hrw]
 simp[List.getD,h3]
theorem IdxH.hole{α:Type}{f:α→PV}{xs:List α}{x:α}{es:List PV}{e:Int}{j:Nat}{q:PV}{K:PV→Prop}(h:idx xs e=some x)(he:es=(xs.map f).set j q)(hK:∀ p,K p):IdxH es e K .mk:=by
 obtain⟨h1,h2,h3⟩:=idx_some h
 subst he
 exact⟨⟨h1,by simpa using h2⟩,hK _⟩
theorem EldH.hole{α:Type}{f:α→PV}{xs:List α}{x:α}{es:List PV}{e:Int}{i j:Nat}{q:PV}{K:PV→Prop}(h:idx xs e=some x)(hi:i=e.toNat)(he:es=(xs.map f).set j q)(hj:j=e.toNat)(hK:K q):EldH es i K .mk:=by
 obtain⟨h1,h2,h3⟩:=idx_some h
 subst he; subst hi; subst hj
 refine⟨by simp; omega,?_⟩
 have:((xs.map f).set e.toNat q).getD e.toNat default=q:=by
  rw[List.getD_eq_getElem?_getD,List.getElem?_set_self (by simp; omega)]; rfl
 rw[this]; exact hK
theorem set_setP(l:List PV)(i:Nat)(a b:PV):(l.set i a).set i b=l.set i b:=List.set_set ..
attribute [push_cast] set_setP
/-- A nil slice is seen as a view. -/
theorem St.le_nvB{st:St}{x:CV}(j:Nat)(p:List Nat)(sz:Nat)(hk:st.s j=.box x)(hp:x.okp p=true)(ha:x.at p=.pv (.sl true sz [])):st.le ⟨upd st.s j (.box (x.setAt p (.pv (.sl false sz [])))),st.o⟩:=by
 refine St.le_slot j _ (by rw[hk]; rfl) fun N w G v h=>?_
 rw[hk] at h
 exact(slot_turn (z:=.pv (.sl false sz [])) hp ha (fun cs hcs=>by rw[nil_rep hcs]; simp only[RepCV,RepC]; exact⟨none,0,rfl,trivial,Nat.le_refl _,Nat.zero_le _,(fun _ h=>nomatch h),.inl trivial⟩) rfl).1 h
end
end Go.Av
