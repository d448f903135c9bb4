/- A part of the proof: lemmas only; nothing is claimed here beyond what each lemma says. -/
/- Slices and structs that are made. -/
import Derived.Test.YtkoghcphkdecoaaGreatAv6
import Derived.Great.FillDense
set_option linter.unusedSimpArgs false
set_option linter.unusedVariables false
set_option linter.defProp false
namespace Go.Av
open Bool renaming and_eq_true→aD
open CV renaming wholes→aE,pvos→aK,namess→aB,sizes→bj
open List renaming map_cons→aM,append_assoc→ba
open RepCV renaming length→bH

theorem vr_{P:Program}{nt:Nat}{o:Oper}{st:St}{d c:Nat}{res:PV}{D rs ro:List Nat}(hdst:o.dst=some d)(hd:d<nt)(hD:∀ n∈D,(st.o n).isSome=true)(hDro:∀ n∈D,n∈ro)
 (H:∀ κ G st' a w,κ.nt=nt→Rec.same { rs:=rs,ro:=ro } st st'→RG κ G st' a w→
  ∃ v w' F,(execOp a.eval o).run P w=.ok (.value v) w'∧KeepX (fps G.fp D) w.heap.size w w'∧(∀ b∈F,(w.heap.size≤b∨b∈fps G.fp D)∧b<w'.heap.size)∧F.Nodup∧RepR (Nof κ st' G w) w' res v F):
 Valid P nt o st { rs:=rs,ro:=ro,fc:=(rO_ res c).map (·.1),us:=[(d,resSV res c)],uo:=deadObjs D++newObjs (rO_ res c) }:=by
 intro κ st' a w hnt hsame hfresh hR next Q hnext
 obtain⟨G,hG⟩:=hR
 obtain⟨v,w',F,hrun,hb,hF,hn,hr⟩:=H κ G st' a w hnt hsame hG
 unfold Oper.wp
 rw[hrun]
 simp only[Oper.upon]
 rw[hdst]
 refine hnext _ _ ?_
 have:=R.res (c:=c) hG (by rw[hnt]; exact hd) (fun n hn'=>by rw[hsame.2 n (hDro n hn')]; exact hD n hn') hb hF hn (fun b hb'=>.inl hb') hr (fun n hn'=>hfresh.2 n hn')
 simpa[St.app,updAll] using this

theorem fMc_{sz:Nat}:∀ {vs:List Value},(∀ v∈vs,v.cells.size=sz)→(vs.flatMap fun v=>v.cells.toList).length=vs.length*sz
 | [],_=>by simp
 | v::vs,h=>by
  simp only[List.flatMap_cons,List.length_append,List.length_cons]
  rw[fMc_ (fun u hu=>h u (by simp[hu]))]
  have:=h v (by simp)
  simp[this,Nat.add_mul,Nat.add_comm]

theorem cc_1{N:Nat→Prop}{w:World}{hd:Nat→Value}{ob:Nat→Option (Nat×List PV)}{fp:Nat→List Nat}(ho:∀ c sz es,ob c=some (sz,es)→RepC N w (.sl true sz es) [hd c] (fp c)):
 ∀ (xs:List CV) (vs:List Value),aE ob xs=true→CVals N w hd xs vs→RepCs N w (aK ob xs) (vs.flatMap fun v=>v.cells.toList) (fps fp (aB xs))
 | [],vs,_,h=>by simp only[CVals] at h; simp[h,aK,RepCs,aB,fps]
 | x::xs,vs,hw,h=>by
  simp only[aE,aD] at hw
  simp only[CVals] at h
  obtain⟨v,vs',rfl,h2,h3⟩:=h
  simp only[aK,RepCs,List.flatMap_cons,aB,fa_]
  exact⟨_,_,_,_,rfl,rfl,(CVal.own ho hw.1 h2).cells,cc_1 ho xs vs' hw.2 h3⟩

theorem cl_{N:Nat→Prop}{w:World}{hd:Nat→Value}:∀ {xs:List CV} {vs:List Value},CVals N w hd xs vs→vs.length=xs.length
 | [],vs,h=>by simp only[CVals] at h; simp[h]
 | x::xs,vs,h=>by simp only[CVals] at h; obtain⟨v,vs',rfl,_,h3⟩:=h; simp[cl_ h3]
theorem cs_{N:Nat→Prop}{w:World}{hd:Nat→Value}:∀ {xs:List CV} {vs:List Value},CVals N w hd xs vs→∀ (i:Nat) (v:Value),vs[i]?=some v→∃ x,xs[i]?=some x∧v.cells.size=x.size
 | [],vs,h,i,v,hv=>by simp only[CVals] at h; simp[h] at hv
 | x::xs,vs,h,i,v,hv=>by
  simp only[CVals] at h
  obtain⟨u,vs',rfl,h2,h3⟩:=h
  cases i with
  | zero=>simp at hv; subst hv; exact⟨x,by simp,by have:=bH _ _ (cc_ h2); simpa using this⟩
  | succ i=>obtain⟨y,g1,g2⟩:=cs_ h3 i v (by simpa using hv); exact⟨y,by simpa using g1,g2⟩

mutual
theorem Cco_1{ob ob':Nat→Option (Nat×List PV)}:∀ x:CV,(∀ n∈x.names,ob' n=ob n)→x.whole ob'=x.whole ob∧x.pvw ob'=x.pvw ob∧x.pvo ob'=x.pvo ob
 | .pv _,_=>⟨rfl,rfl,rfl⟩
 | .own n,h=>by have:=h n (by simp[CV.names]); exact⟨by simp[CV.whole,this],by simp[CV.pvw,this],by simp[CV.pvo,this]⟩
 | .node fs,h=>by have:=Cco_ fs (by simpa[CV.names] using h); exact⟨by simpa[CV.whole] using this.1,by simp[CV.pvw,this.2.1],by simp[CV.pvo,this.2.2]⟩
 | .gone _,_=>⟨rfl,rfl,rfl⟩
theorem Cco_{ob ob':Nat→Option (Nat×List PV)}:∀ xs:List CV,(∀ n∈aB xs,ob' n=ob n)→aE ob' xs=aE ob xs∧CV.pvws ob' xs=CV.pvws ob xs∧aK ob' xs=aK ob xs
 | [],_=>⟨rfl,rfl,rfl⟩
 | y::ys,h=>by
  have h1:=Cco_1 y (fun n hn=>h n (by simp[aB,hn]))
  have h2:=Cco_ ys (fun n hn=>h n (by simp[aB,hn]))
  exact⟨by simp[aE,h1.1,h2.1],by simp[CV.pvws,h1.2.1,h2.2.1],by simp[aK,h1.2.2,h2.2.2]⟩
end

def SlIs(P:Program)(T:TypeId)(sz bytes:Nat):Prop:=
 ∃ e i z,P.underlying T=some (.slice e)∧P.info? e=some i∧i.size=sz∧i.bytes=bytes∧i.zero=some z∧z.cells.size=sz∧0<sz

theorem rRs_{N:Nat→Prop}{w:World}{b:Bool}{sz:Nat}{es:List PV}{v:Value}{F:List Nat}(h:RepC N w (.sl b sz es) [v] F):RepR N w (.sl b sz es) v F:=h

theorem pl_{ob:Nat→Option (Nat×List PV)}:∀ xs:List CV,(aK ob xs).length=xs.length
 | []=>by simp[aK]
 | x::xs=>by simp[aK,pl_ xs]

mutual
theorem Csp_{ob:Nat→Option (Nat×List PV)}:∀ x:CV,x.whole ob=true→(x.pvo ob).size=x.size
 | .pv v,_=>by simp[CV.pvo,CV.size]
 | .own c,h=>by simp only[CV.whole] at h; obtain⟨⟨sz,es⟩,he⟩:=Option.isSome_iff_exists.1 h; simp[CV.pvo,he,CV.size,PV.size]
 | .node fs,h=>by simp only[CV.pvo,CV.size,PV.size]; exact Csp_1 fs (by simpa[CV.whole] using h)
 | .gone _,h=>by simp[CV.whole] at h
theorem Csp_1{ob:Nat→Option (Nat×List PV)}:∀ xs:List CV,aE ob xs=true→PV.sizes (aK ob xs)=bj xs
 | [],_=>by simp[aK,bj,PV.sizes]
 | x::xs,h=>by
  simp only[aE,aD] at h
  simp[aK,bj,PV.sizes,Csp_ x h.1,Csp_1 xs h.2]
end
theorem ps_{ob:Nat→Option (Nat×List PV)}{sz:Nat}:∀ xs:List CV,aE ob xs=true→(∀ x∈xs,x.size=sz)→∀ p∈aK ob xs,PV.size p=sz
 | [],_,_=>by simp[aK]
 | x::xs,h,hs=>by
  simp only[aE,aD] at h
  intro p hp
  simp only[aK,List.mem_cons] at hp
  rcases hp with rfl | hp
  ·rw[Csp_ x h.1]; exact hs x (by simp)
  ·exact ps_ xs h.2 (fun y hy=>hs y (by simp[hy])) p hp

theorem kXa_{L:List Nat}{w:World}{o:Obj}:KeepX L w.heap.size w (w.alloc o):=.of_below ((RowKit.Below.refl _ _).alloc (Nat.le_refl _) _)

theorem fa_2{N:Nat→Prop}{w:World}{o:Obj}{ps:List PV}{cs:List Value}{F:List Nat}(hN:∀ b,N b→b<w.heap.size)(hF:∀ b∈F,b<w.heap.size)(h:RepCs N w ps cs F):RepCs N (w.alloc o) ps cs F:=
 RepCs.frame (fun _ h=>h) (fun b hb=>hpl_ (hN b hb)) _ _ _ (fun b hb=>hpl_ (hF b hb)) h

theorem rnR_{κ:Ctx}{G:Gh}{st:St}{a:Act}{w:World}{sz cap:Nat}{els:List PV}{ccs cs:List Value}{D:List Nat}{e:TypeId}(hG:RG κ G st a w)(hD:∀ c∈D,(st.o c).isSome=true)(hn:D.Nodup)
 (h:RepCs (Nof κ st G w) w els ccs (fps G.fp D)) (hs:∀ p∈els,PV.size p=sz) (hcs:cs.take (els.length*sz)=ccs) (hl:cs.length=cap*sz) (hcap:els.length≤cap) (hmax:cap≤maxLen):
 RepR (Nof κ st G w) (w.alloc (.cells cs.toArray e)) (.sl true sz els) (.slice (some ⟨w.heap.size,0,none⟩) els.length cap) (w.heap.size::fps G.fp D)∧
  (∀ b∈w.heap.size::fps G.fp D,(w.heap.size≤b∨b∈fps G.fp D)∧b<(w.alloc (.cells cs.toArray e)).heap.size)∧(w.heap.size::fps G.fp D).Nodup:=by
 have hlt:∀ b∈fps G.fp D,b<w.heap.size:=by
  intro b hb
  obtain⟨c,hc,hm⟩:=mf_.1 hb
  obtain⟨p,hp⟩:=Option.isSome_iff_exists.1 (hD c hc)
  exact((hG.objs c p.1 p.2 hp).2.2 b hm).2
 refine⟨?_,?_,?_⟩
 ·refine rRs_ ?_
  simp only[RepC]
  refine .inr ⟨w.heap.size,cap,cs.toArray,e,fps G.fp D,ccs,rfl,hcap,hmax,hs,hpe_,by simpa using hl,by simpa using hcs,?_,rfl⟩
  exact fa_2 (fun b hb=>hb.lt hG) hlt h
 ·intro b hb
  rcases List.mem_cons.1 hb with rfl | hb
  ·exact⟨.inl (Nat.le_refl _),by simp⟩
  ·exact⟨.inr hb,by have:=hlt b hb; simp; omega⟩
 ·rw[List.nodup_cons]
  exact⟨fun hm=>by have:=hlt _ hm; omega,fn_1 hG D hn hD⟩

def partCVs(P:Program)(st:St)(T:TypeId):List (Nat×Operand)→List CV
 | []=>[]
 | (_,x)::ps=>argCV (ev P st T x)::partCVs P st T ps
theorem pCs_{P:Program}{st:St}{T:TypeId}:∀ ps:List (Nat×Operand),partCVs P st T ps=argCVs P st (ps.map (·.2)) (ps.map fun _=>T)
 | []=>rfl
 | (_,x)::ps=>by simp only[partCVs,aM,argCVs,List.headD_cons,List.tail_cons]; rw[pCs_ ps]

def eOT_(P:Program)(T:TypeId):TypeId:=
 match P.underlying T with
 | some (.slice e)=>e
 | _=>0

theorem vbS_{P:Program}{nt:Nat}{o:Oper}{st:St}{d c:Nat}{T E:TypeId}{parts:Array (Nat×Operand)}{n sz bytes:Nat}{xs:List CV}(hop:o.op=.buildSlice T n parts)(hdst:o.dst=some d)(hd:d<nt)
 (hT:SlIs P T sz bytes) (hidx:parts.toList.map (·.1)=List.range n) (hxs:partCVs P st E parts.toList=xs) (hw:aE st.o xs=true) (hs:∀ x∈xs,x.size=sz) (hnd:(aB xs).Nodup) (hsmall:n*sz≤16777216):
 Valid P nt o st { rs:=parts.toList.flatMap (fun p=>rd p.2),ro:=aB xs,fc:=(rO_ (.sl true sz (aK st.o xs)) c).map (·.1),us:=[(d,resSV (.sl true sz (aK st.o xs)) c)],uo:=deadObjs (aB xs)++newObjs (rO_ (.sl true sz (aK st.o xs)) c) }:=by
 refine vr_ hdst hd (Cnl_ _ hw) (fun _ h=>h) ?_
 intro κ G st' a w hnt hsame hG
 obtain⟨e,i,z,h1,h2,h3,h4,h5,h6,h7⟩:=hT
 have hlen:xs.length=n:=by
  have:parts.toList.length=n:=by have:=congrArg List.length hidx; simpa using this
  rw[← hxs,pCs_]
  have hl:∀ (ys:List Operand) (ts:List TypeId),(argCVs P st ys ts).length=ys.length:=by
   intro ys; induction ys with
   | nil=>intro ts; rfl
   | cons y ys ih=>intro ts; simp[argCVs,ih]
  rw[hl]; simpa using this
 have hob:∀ n∈aB xs,st'.o n=st.o n:=hsame.2
 have hlive:=Cnl_ _ hw
 have key:=Cco_ xs hob
 have hcv:=ao_1 (P:=P) (st:=st) hG (parts.toList.map (·.2)) (parts.toList.map fun _=>E) (fun k hk=>hsame.1 k (by simpa[List.flatMap_map] using hk)) (by rw[← pCs_,hxs,key.1]; exact hw)
 rw[← pCs_,hxs] at hcv
 have hcells:=cc_1 (ob:=st'.o) (fp:=G.fp) (fun c sz es hc=>(hG.objs c sz es hc).1) xs _ (by rw[key.1]; exact hw) hcv
 rw[key.2.2] at hcells
 have hsz:∀ v∈(parts.toList.map (·.2)).map a.eval,v.cells.size=sz:=by
  intro v hv
  obtain⟨k,hk,rfl⟩:=List.mem_iff_getElem.1 hv
  obtain⟨x,g1,g2⟩:=cs_ hcv k _ (List.getElem?_eq_getElem hk)
  rw[g2]; exact hs x (List.mem_of_getElem? g1)
 have hvl:((parts.toList.map (·.2)).map a.eval).length=n:=by rw[cl_ hcv,hlen]
 have hfill:Instr.fill (fun i=>some (i*sz,sz)) ((Array.range (n*sz)).map (z.cells[·% z.cells.size]!)) (parts.map fun (i,x)=>(i,a.eval x)).toList=some (((parts.toList.map (·.2)).map a.eval).flatMap fun v=>v.cells.toList).toArray:=by
  have:=Go.Great.fill_whole h7 ((parts.toList.map (·.2)).map a.eval) ((Array.range (n*sz)).map (z.cells[·% z.cells.size]!)) hsz (by rw[hvl]; simp)
  rw[← this]
  congr 1
  apply List.ext_getElem?
  intro k
  simp only[Array.toList_map,List.getElem?_map,List.getElem?_zipIdx]
  cases hk:parts.toList[k]? with
  | none=>simp
  | some p=>
   have hi:=congrArg (fun l:List Nat=>l[k]?) hidx
   have hkl:k<n:=by
    have:=(List.getElem?_eq_some_iff.1 hk).1
    have h':=congrArg List.length hidx; simp at h' this; omega
   simp[hk,hkl] at hi
   simp[hi]
 have hrun:(execOp a.eval o).run P w=.ok (.value (.slice (some ⟨w.heap.size,0,none⟩) n n)) (w.alloc (.cells (((parts.toList.map (·.2)).map a.eval).flatMap fun v=>v.cells.toList).toArray e)):=by
  have hns:¬ (16777216<n*sz):=by omega
  have hf:∀ zero:Array Value,(n*sz=0∨zero=z.cells)→Instr.fill (fun i=>some (i*sz,sz)) (Array.map (fun x=>zero[x % zero.size]!) (Array.range (n*sz))) (Array.map (fun x=>(x.fst,a.eval x.snd)) parts).toList=
   some (((parts.toList.map (·.2)).map a.eval).flatMap fun v=>v.cells.toList).toArray:=by
   rintro zero (h0 | rfl)
   ·rw[h0] at hfill ⊢
    simp only[Array.range_zero',Array.map_empty] at hfill ⊢
    exact hfill
   ·exact hfill
  by_cases h0:n*sz=0
  ·simp only[execOp,hop,Sem.run_bind,Sem.run_pure,Instr.buildSlice,run_underlying h1,Result.andThen_ok,sizeOf,typeInfo,run_program,h2,h3,Nat.reducePow,gt_iff_lt,hns,if_false,if_pos h0,hf #[] (.inl h0),newRow,run_newObj]
   rfl
  ·simp only[execOp,hop,Sem.run_bind,Sem.run_pure,Instr.buildSlice,run_underlying h1,Result.andThen_ok,sizeOf,typeInfo,run_program,h2,h3,Nat.reducePow,gt_iff_lt,hns,if_false,if_neg h0,zeroValue,h5,hf z.cells (.inr rfl),newRow,run_newObj]
   rfl
 have hD:∀ c∈aB xs,(st'.o c).isSome=true:=fun c hc=>by rw[hob c hc]; exact hlive c hc
 have hpl:(aK st.o xs).length=n:=by rw[pl_,hlen]
 have hcl:=fMc_ hsz
 rw[hvl] at hcl
 have hmax:n≤maxLen:=by
  have:n≤n*sz:=Nat.le_mul_of_pos_right _ h7
  simp only[maxLen]; omega
 obtain⟨g1,g2,g3⟩:=rnR_ (cap:=n) (e:=e) hG hD hnd hcells (ps_ xs hw hs) (cs:=(((parts.toList.map (·.2)).map a.eval).flatMap fun v=>v.cells.toList)) (by rw[hpl]; exact List.take_of_length_le (by rw[hcl]; exact Nat.le_refl _)) hcl (by rw[hpl]; exact Nat.le_refl _) hmax
 rw[hpl] at g1
 exact⟨_,_,_,hrun,kXa_,g2,g3,g1⟩

def ArrLay(P:Program)(T:TypeId)(zs:List CV):Prop:=∃ m e i,P.underlying T=some (.array m e)∧P.info? e=some i∧zs.length=m∧∀ k,k<zs.length→(zs.getD k default).size=i.size∧bj (zs.take k)=k*i.size
def LO_(P:Program)(T:TypeId)(zs:List CV):Prop:=
 ArrLay P T zs∨∃ fs:Array Field,P.underlying T=some (.struct fs)∧fs.size=zs.length∧∀ k f,fs[k]?=some f→f.offset=bj (zs.take k)∧∃ i,P.info? f.type=some i∧i.size=(zs.getD k default).size

theorem rmM_{P:Program}{w:World}{α β:Type}(g:α→Sem β)(h:α→β):∀ l:List α,(∀ x∈l,(g x).run P w=.ok (h x) w)→(l.mapM g).run P w=.ok (l.map h) w
 | [],_=>by simp
 | x::l,hx=>by
  simp only[List.mapM_cons,Sem.run_bind,hx x (by simp),Result.andThen_ok,rmM_ g h l (fun y hy=>hx y (by simp[hy])),Sem.run_pure,aM]

def setParts:List CV→List (Nat×CV)→List CV
 | zs,[]=>zs
 | zs,(k,c)::ps=>setParts (zs.set k c) ps

theorem sg_{off:Nat}{l c1 c2 c3:List Value}{cells:Array Value}(hc:cells.toList=c1++c2++c3)(ho:c1.length=off)(hl:c2.length=l.length):
 (l.zipIdx.foldl (fun cs (x:Value×Nat)=>cs.setIfInBounds (off+x.2) x.1) cells).toList=c1++l++c3:=by
 obtain⟨h1,h2⟩:=Go.Great.foldl_set off l 0 cells
 have hsz:cells.size=c1.length+c2.length+c3.length:=by have:=congrArg List.length hc; simpa[Nat.add_assoc] using this
 apply List.ext_getElem?
 intro k
 have h3:=h2 k
 rw[← Array.getElem?_toList,← Array.getElem?_toList] at h3
 rw[h3]
 subst ho
 simp only[Nat.add_zero]
 by_cases hk:c1.length≤k∧k<c1.length+l.length∧k<cells.size
 ·rw[if_pos hk,ba,List.getElem?_append_right hk.1,List.getElem?_append_left (by omega)]
 ·rw[if_neg hk,hc]
  rcases Nat.lt_or_ge k c1.length with h | h
  ·rw[ba,ba,List.getElem?_append_left h,List.getElem?_append_left h]
  ·rw[ba,ba,List.getElem?_append_right h,List.getElem?_append_right h]
   rcases Nat.lt_or_ge k (c1.length+l.length) with h' | h'
   ·exact absurd ⟨h,h',by omega⟩ hk
   ·rw[List.getElem?_append_right (by omega),List.getElem?_append_right (by omega),hl]

theorem fo_1{N:Nat→Prop}{w:World}{hd:Nat→Value}{place:Nat→Option (Nat×Nat)}:∀ (ps:List (Nat×CV)) (vs:List Value) (zs:List CV) (cells:Array Value),RepCVs N w hd zs cells.toList→CVals N w hd (ps.map (·.2)) vs→
 (∀ k c,(k,c)∈ps→k<zs.length∧c.size=(zs.getD k default).size)→(∀ k,k<zs.length→place k=some (bj (zs.take k),(zs.getD k default).size))→
 ∃ r,Instr.fill place cells ((ps.map (·.1)).zip vs)=some r∧RepCVs N w hd (setParts zs ps) r.toList
 | [],vs,zs,cells,h,_,_,_=>⟨cells,by simp[Instr.fill],by simpa[setParts] using h⟩
 | (k,c)::ps,vs,zs,cells,h,hv,hp,hpl=>by
  simp only[aM,CVals] at hv
  obtain⟨v,vs',rfl,hv1,hv2⟩:=hv
  obtain⟨hk,hs⟩:=hp k c (by simp)
  have hc:=cc_ hv1
  have hvs:v.cells.size=c.size:=by have:=bH _ _ hc; simpa using this
  obtain⟨c1,c2,c3,e1,e2,e3,e4⟩:=RepCVs.at zs k _ hk h
  have hl2:c2.length=v.cells.toList.length:=by rw[bH _ _ e3,← hs,← hvs]; simp
  have hsp:=sg_ (off:=bj (zs.take k)) (l:=v.cells.toList) e1 e2 hl2
  have hcs:cells.size=c1.length+c2.length+c3.length:=by have:=congrArg List.length e1; simpa[Nat.add_assoc] using this
  have hfold:v.cells.zipIdx.foldl (fun cs (x:Value×Nat)=>cs.setIfInBounds (bj (zs.take k)+x.2) x.1) cells=v.cells.toList.zipIdx.foldl (fun cs (x:Value×Nat)=>cs.setIfInBounds (bj (zs.take k)+x.2) x.1) cells:=by
   rw[← Array.foldl_toList]; simp
  have hsizes:∀ j,((zs.set k c).getD j default).size=(zs.getD j default).size:=by
   intro j
   by_cases hj:j=k
   ·subst hj; simp[List.getD,hk,hs]
   ·simp[List.getD,List.getElem?_set_ne (Ne.symm hj)]
  have htake:∀ j,bj ((zs.set k c).take j)=bj (zs.take j):=by
   intro j
   have gen:∀ (zs:List CV) (k j:Nat),c.size=(zs.getD k default).size→k<zs.length→bj ((zs.set k c).take j)=bj (zs.take j):=by
    intro zs; induction zs with
    | nil=>intro k j _ hk; simp at hk
    | cons z zs ih=>
     intro k j hs hk
     cases j with
     | zero=>simp
     | succ j=>
      cases k with
      | zero=>simp at hs; simp[bj,hs]
      | succ k=>simp only[List.set_cons_succ,List.take_succ_cons,bj]; rw[ih k j (by simpa using hs) (by simpa using hk)]
   exact gen zs k j hs hk
  obtain⟨r,g1,g2⟩:=fo_1 (place:=place) ps vs' (zs.set k c) (v.cells.toList.zipIdx.foldl (fun cs (x:Value×Nat)=>cs.setIfInBounds (bj (zs.take k)+x.2) x.1) cells) (by rw[hsp]; exact e4 c _ hc) hv2
   (fun j c' hj=>by have:=hp j c' (by simp[hj]); rw[hsizes,List.length_set]; exact this) (fun j hj=>by rw[htake,hsizes]; exact hpl j (by simpa using hj))
  refine⟨r,?_,by simpa[setParts] using g2⟩
  simp only[aM,List.zip_cons_cons,Instr.fill,hpl k hk]
  have hc2:c2.length=(zs.getD k default).size:=bH _ _ e3
  rw[if_neg (by rw[hvs,hs,hcs,← e2,← hc2]; simp),hfold]
  exact g1

theorem fzm_(ps:List (Nat×Operand))(a:Act):(ps.map fun (i,x)=>(i,a.eval x))=(ps.map (·.1)).zip ((ps.map (·.2)).map a.eval):=by
 induction ps with
 | nil=>rfl
 | cons p ps ih=>obtain⟨i,x⟩:=p; simp only[aM,List.zip_cons_cons]; rw[ih]

def fldT(P:Program)(T:TypeId)(k:Nat):TypeId:=
 match P.underlying T with
 | some (.struct fs)=>((fs[k]?).map (·.type)).getD 0
 | _=>0
def partFs(P:Program)(st:St)(T:TypeId):List (Nat×Operand)→List (Nat×CV)
 | []=>[]
 | (k,x)::ps=>(k,argCV (ev P st (fldT P T k) x))::partFs P st T ps
theorem pFf_{P:Program}{st:St}{T:TypeId}:∀ ps:List (Nat×Operand),(partFs P st T ps).map (·.1)=ps.map (·.1)
 | []=>rfl
 | (k,x)::ps=>by simp[partFs,pFf_ ps]
theorem pFs_{P:Program}{st:St}{T:TypeId}:∀ ps:List (Nat×Operand),(partFs P st T ps).map (·.2)=argCVs P st (ps.map (·.2)) (ps.map fun p=>fldT P T p.1)
 | []=>rfl
 | (k,x)::ps=>by simp[partFs,argCVs,pFs_ ps]

theorem vb_{P:Program}{nt:Nat}{o:Oper}{st:St}{d:Nat}{T:TypeId}{parts:Array (Nat×Operand)}{zs:List CV}(hop:o.op=.build T parts)(hdst:o.dst=some d)(hd:d<nt)
 (hz:ZeroIs P T (.node zs)) (hL:LO_ P T zs) (hp:∀ k c,(k,c)∈partFs P st T parts.toList→k<zs.length∧c.size=(zs.getD k default).size) (hw:aE st.o ((partFs P st T parts.toList).map (·.2))=true):
 Valid P nt o st { rs:=parts.toList.flatMap (fun p=>rd p.2),ro:=aB ((partFs P st T parts.toList).map (·.2)),us:=[(d,.val (.node (setParts zs (partFs P st T parts.toList))))] }:=by
 refine vp_ hdst hd rfl ?_
 intro κ G st' a w hnt hsame hG
 obtain⟨i,z,h1,h2,h3⟩:=hz
 have hcv:=ao_1 (P:=P) (st:=st) hG (parts.toList.map (·.2)) (parts.toList.map fun p=>fldT P T p.1) (fun k hk=>hsame.1 k (by simpa[List.flatMap_map] using hk)) (by
  rw[← pFs_,(Cco_ _ hsame.2).1]; exact hw)
 rw[← pFs_] at hcv
 rcases hL with⟨m,e,i',g1,g2,g3,g4⟩ | ⟨fs,g1,g2,g3⟩
 ·have hzc:=cc_ (h3 (Nof κ st' G w) w G.hd)
  simp only[RepCV] at hzc
  obtain⟨r,f1,f2⟩:=fo_1 (N:=Nof κ st' G w) (w:=w) (hd:=G.hd) (place:=fun k=>some (k*i'.size,i'.size)) (partFs P st T parts.toList) _ zs z.cells hzc hcv hp (by
   intro k hk
   obtain⟨e1,e2⟩:=g4 k hk
   rw[e1,e2])
  rw[pFf_,← fzm_] at f1
  refine⟨.agg r,?_,.inl ⟨rfl,r.toList,by simp,by simpa[RepCV] using f2⟩⟩
  have f1':Instr.fill (fun x=>some (x*i'.size,i'.size)) z.cells (parts.toList.map (fun x=>(x.fst,a.eval x.snd)))=some r:=by rw[← f1]
  simp[execOp,hop,Instr.build,zeroValue,typeInfo,h1,h2,run_underlying g1,sizeOf,g2,f1']
 have hplaces:(fs.toList.mapM (fun f=>do pure (f.offset,← sizeOf f.type):Field→Sem (Nat×Nat))).run P w=.ok (fs.toList.map fun f=>(f.offset,((P.info? f.type).map (·.size)).getD 0)) w:=by
  refine rmM_ _ _ _ (fun f hf=>?_)
  obtain⟨k,hk,rfl⟩:=List.mem_iff_getElem.1 hf
  obtain⟨_,inf,e1,e2⟩:=g3 k _ (by rw[← Array.getElem?_toList]; exact List.getElem?_eq_getElem hk)
  generalize fs.toList[k]=f at e1 ⊢
  simp[sizeOf,typeInfo,e1]
 have hzc:=cc_ (h3 (Nof κ st' G w) w G.hd)
 simp only[RepCV] at hzc
 obtain⟨r,f1,f2⟩:=fo_1 (N:=Nof κ st' G w) (w:=w) (hd:=G.hd) (place:=fun k=>(fs.toList.map fun f=>(f.offset,((P.info? f.type).map (·.size)).getD 0)).toArray[k]?) (partFs P st T parts.toList) _ zs z.cells hzc hcv hp (by
  intro k hk
  have hkf:k<fs.size:=by omega
  obtain⟨e1,inf,e2,e3⟩:=g3 k fs[k] (by simp[hkf])
  simp[hkf,e1,e2,e3])
 rw[pFf_,← fzm_] at f1
 refine⟨.agg r,?_,.inl ⟨rfl,r.toList,by simp,by simpa[RepCV] using f2⟩⟩
 have hfs:fs=fs.toList.toArray:=by simp
 have f1':Instr.fill (fun x=>(fs.toList.map fun f=>(f.offset,((P.info? f.type).map (·.size)).getD 0)).toArray[x]?) z.cells (Array.map (fun x=>(x.fst,a.eval x.snd)) parts).toList=some r:=by rw[← f1]; simp
 simp only[execOp,hop,Sem.run_bind,Sem.run_pure,Instr.build,zeroValue,typeInfo,run_program,Result.andThen_ok,h1,h2,run_underlying g1]
 have hpl:(fs.mapM (fun f=>do pure (f.offset,← sizeOf f.type):Field→Sem (Nat×Nat))).run P w=.ok (fs.toList.map fun f=>(f.offset,((P.info? f.type).map (·.size)).getD 0)).toArray w:=by
  conv=>lhs; rw[hfs]
  simp only[List.mapM_toArray,Sem.run_map,hplaces,Result.andThen_ok]
 have hpl':=hpl
 simp only[sizeOf,typeInfo] at hpl'
 simp only[sizeOf,typeInfo,Sem.run_bind]
 rw[hpl']
 simp only[Result.andThen_ok,f1',Sem.run_pure]
end Go.Av
