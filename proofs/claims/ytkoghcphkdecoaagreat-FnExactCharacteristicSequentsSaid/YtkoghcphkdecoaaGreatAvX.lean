/- A part of the proof: lemmas only; nothing is claimed here beyond what each lemma says. -/
/- Functions that write into what they are handed: their calls, their ends, and regions step by step (an element's own slice handed on). -/
import Derived.Test.YtkoghcphkdecoaaGreatAvW
import Derived.Test.YtkoghcphkdecoaaGreatAvN
set_option linter.unusedSimpArgs false
set_option linter.unusedVariables false
set_option linter.defProp false
namespace Go.Av
open And renaming intro→ae
open CV renaming isAgg→aU
open List renaming append_assoc→ba,mem_append→aV
theorem CHi_{P:Program}{nt:Nat}{st:St}{d ty:Nat}{pos:String}{af:Array Edge}{gd:Option (Nat×Bool)}{g:Operand}{as:List Operand}{ts:List TypeId}{K0:Rec→Prop}{f:FuncId}{v o c:List PV}{K:List Bool→PV→Prop}
 {args args':List PV} {u:Value} (xs:List CV) (ns:List (Nat×(Nat×List PV))) (h:SatIO P f args args' (.lit u))
 (hs:d<nt∧ev P st 0 g=.val (.pv (.clo f []))∧argCVs P st as ts=xs∧CV.wholes st.o xs=true∧Cc_ xs=true∧(CV.namess xs).Nodup∧CV.wholes (mkO ns) xs=true∧args=CV.pvos st.o xs∧args'=CV.pvos (mkO ns) xs)
 (hK:K0 { rs:=rd g++as.flatMap rd,ro:=CV.namess xs,us:=[(d,.val (.pv (.lit u)))],uo:=(CV.namess xs).map fun c=>(c,mkO ns c) }):
 CallH P f v o c K (RecOk P nt st { dst:=some d,op:=.call { callee:=.value g,args:=⟨as⟩,argTypes:=⟨ts⟩ },type:=ty,pos:=pos,after:=af,guard:=gd } K0) .mk .mk:=by
 obtain⟨h1,h2,h3,h4,h5,h6,h7,h8,h9⟩:=hs
 subst h8; subst h9
 exact CHh_ ⟨_,vcI_1 (args:=⟨as⟩) (tys:=⟨ts⟩) rfl rfl h1 h2 h3 h4 h5 h6 h7 h,fn_ rfl rfl,hK⟩
theorem FinIO.mk{P:Program}{st:St}{rs:List ResultVar}{res:PV}{cvs:List CV}{args':List PV}(h:CV.wholes st.o (resCVs P st rs)=true∧resOks P st rs∧res=asRes (CV.pvws st.o (resCVs P st rs))∧CV.pures (resCVs P st rs)=true∧CV.wholes st.o cvs=true∧(CV.namess cvs).Nodup∧args'=CV.pvos st.o cvs):FinIO P st rs res cvs args':=h
@[congr] theorem FinIO.cg {P:Program} {st st':St} {rs:List ResultVar} {res:PV} {cvs:List CV} {args':List PV} (h:∀ _:Unit,st=st'):FinIO P st rs res cvs args'=FinIO P st' rs res cvs args':=by rw[h ()]

section
variable{P:Program}{nt:Nat}{ops:Array Oper}{i:Nat}{st:St}{K:St→Prop}
def VSeq(P:Program)(nt:Nat)(ops:Array Oper)(i:Nat)(st:St)(K:St→Prop):Prop:=
 ∀ κ a w,κ.nt=nt→R κ st a w→∀ Q:Exit→Act→World→Prop,(∀ st' a' w',K st'→R κ st' a' w'→Q .normal a' w')→wpOps P ops Q (List.range' i (ops.size-i)) a w
theorem VSeq.nil(hi:ops.size≤i)(h:K st):VSeq P nt ops i st K:=by
 intro κ a w hnt hR Q hQ
 have e:ops.size-i=0:=by omega
 rw[e]
 exact hQ _ _ _ h hR
theorem VSeq.one{o:Oper}(ho:ops[i]?=some o)(h:stepG P nt ops st o fun r=>VSeq P nt ops (i+1) (st.app r) K):VSeq P nt ops i st K:=by
 intro κ a w hnt hR Q hQ
 have hi:i<ops.size:=(Array.getElem?_eq_some_iff.1 ho).1
 have e:ops.size-i=(ops.size-(i+1))+1:=by omega
 rw[e,List.range'_succ,wpOps_cons]
 obtain⟨r,h1,h2,h3⟩:=sGo_ ho h
 exact h1 κ _ a w hnt (Rsr_ _ _) h2 hR _ _ (fun a' w' hR'=>h3 κ a' w' hnt hR' Q hQ)
def stepV(P:Program)(nt:Nat)(ops:Array Oper)(i:Nat)(st:St)(K:St→Prop):Option Oper→Prop
 | some o=>stepG P nt ops st o fun r=>VSeq P nt ops (i+1) (st.app r) K
 | none=>False
@[congr] theorem stepV.cg {st':St} {x x':Option Oper} (h:∀ _:Unit,st=st') (h':∀ _:Unit,x=x'):stepV P nt ops i st K x=stepV P nt ops i st' K x':=by rw[h (),h' ()]
theorem sVs_(o:Oper)(s:Nat→SlotV)(ob:Nat→Option (Nat×List PV)):stepV P nt ops i ⟨s,ob⟩ K (some o)=stepG P nt ops ⟨s,ob⟩ o fun r=>VSeq P nt ops (i+1) (St.app ⟨s,ob⟩ r) K:=rfl
@[congr] theorem VSeq.cg {st':St} (h:∀ _:Unit,st=st'):VSeq P nt ops i st K=VSeq P nt ops i st' K:=by rw[h ()]
theorem VSeq.step(h:stepV P nt ops i st K ops[i]?):VSeq P nt ops i st K:=by
 cases ho:ops[i]? with
 | none=>rw[ho] at h; exact h.elim
 | some o=>rw[ho] at h; exact VSeq.one ho h
theorem VSeq.sound{id:Nat}{Q:Exit→St→Prop}(h:VSeq P nt ops 0 st K)(hK:∀ st',K st'→Q .normal st'):VC P nt (.region id ops false) st Q:=by
 intro κ a w hnt hR Qc hQ
 refine wp_region ?_
 have:=h κ a w hnt hR Qc (fun st' a' w' hk hR'=>hQ _ _ _ _ (hK _ hk) hR')
 rwa [List.range_eq_range',← Nat.sub_zero ops.size]

theorem Vei_1{o1 o2 o3:Oper}{x g y:Operand}{T:TypeId}{d1 d2 d3 c sz j off sz':Nat}{f:FuncId}{p:List Nat}{ts:Array TypeId}{es es' es'':List PV}{u v:Value}
 (h1:ops[i]?=some o1) (h3:ops[i+1]?=some o3) (h2:ops[i+2]?=some o2) (g1:o1.guard=none) (g3:o3.guard=none) (g2:o2.guard=none) (hop1:o1.op=.load T x) (hdst1:o1.dst=some d1) (hd1:d1<nt)
 (hop3:o3.op=.move y) (hdst3:o3.dst=some d3) (hd3:d3<nt) (h13:d1≠d3) (hop2:o2.op=.call { callee:=.value g,args:=#[.tmp d1,.tmp d3],argTypes:=ts }) (hdst2:o2.dst=some d2) (hd2:d2<nt)
 (hg:g=.func f) (hx:ev P st 0 x=.eptr c sz j p off) (hc:st.o c=some (sz,es)) (hj:j<es.length) (hok:(es.getD j default).okp p=true) (hoff:(es.getD j default).offs p=off)
 (hp:(es.getD j default).at p=.sl true sz' es') (hsz:((es.getD j default).setAt p (.sl true sz' es'')).size=sz) (hy:ev P st 0 y=.val (.pv (.lit v))) (hyd:d1∉rd y)
 (ht:TyIs P T false 1) (hsat:SatIO P f [.sl true sz' es',.lit v] [.sl true sz' es'',.lit v] (.lit u))
 (h:VSeq P nt ops (i+3) ⟨upd (upd (upd st.s d1 .dead) d3 (.val (.pv (.lit v)))) d2 (.val (.pv (.lit u))),upd st.o c (some (sz,es.set j ((es.getD j default).setAt p (.sl true sz' es''))))⟩ K):VSeq P nt ops i st K:=by
 intro κ a w hnt hR Q hQ
 obtain⟨G,hG⟩:=hR
 obtain⟨hci,hcalls⟩:=hsat
 have hi:i+2<ops.size:=(Array.getElem?_eq_some_iff.1 h2).1
 have e:ops.size-i=(ops.size-(i+3))+1+1+1:=by omega
 rw[e,List.range'_succ,List.range'_succ,List.range'_succ,wpOps_cons]
 have hs1:=ev_ok (P:=P) (T:=0) hG x d1
 rw[hx] at hs1
 obtain⟨b,n,cap,k1,k2⟩:=hs1
 have hyv:a.eval y=v:=ev_lit hG hy (fun _ _=>rfl)
 obtain⟨h4,h4n,h4l⟩:=hG.objs c sz es hc
 simp only[RepC] at h4
 rcases h4 with⟨_,h4,_⟩ | ⟨b',cap',cc,et,F',ccs,f1,f2,f3,f4,f5,f6,f7,f8,f9⟩
 ·subst h4; simp at hj
 rw[k1] at f1
 simp at f1
 obtain⟨rfl,rfl,rfl⟩:=f1
 obtain⟨c1,c2,c3,F1,F2,F3,e1,e2,e3,e4,e5,e6⟩:=RCa_ es j ccs F' hj f8
 obtain⟨m1,m2,m3,H1,H2,H3,q1,q2,q3,q4,q5⟩:=RepC.path p _ c2 F2 hok e4
 rw[hp] at q4
 rw[st_ f4 (by omega)] at e3
 have hlen:=RepC.length _ _ _ q4
 simp only[PV.size] at hlen
 obtain⟨hdr,rfl⟩:=List.length_eq_one_iff.1 hlen
 have hone:=RepC.one _ _ _ q4 hdr (by simp)
 -- the load
 have hrow:RowAt w ⟨b,j*sz+off,none⟩ [hdr]:=by
  have hall:cc.toList=(c1++m1)++[hdr]++(m3++c3++cc.toList.drop (es.length*sz)):=by
   have:=List.take_append_drop (es.length*sz) cc.toList
   rw[f7,e1,q1] at this
   refine this.symm.trans ?_
   simp only[ba]
  have h5:w.heap[b]?=some (.cells ((c1++m1)++[hdr]++(m3++c3++cc.toList.drop (es.length*sz))).toArray et (0,0)):=by rw[← hall]; simpa using f5
  have:=rAo_ h5
  rw[List.length_append,e3,q3,hoff] at this
  exact this
 have hload:(loadVar T ⟨b,j*sz+off,none⟩).run P w=.ok hdr w:=by
  obtain⟨u',r1,r2⟩:=rlV_ (P:=P) (hd:=G.hd) (x:=.pv (.lit hdr)) (N:=Nof κ st G w) (T:=T) (by simpa[aU,CV.size,PV.size] using ht) rfl hrow (by simp[RepCV,RepC,hone]) (fun n=>by simp)
  rcases r2 with⟨r2,_⟩ | ⟨_,r2,_⟩
  ·simp[aU] at r2
  ·simp only[RepCV,RepC] at r2
   have:u'=hdr:=by simpa using r2.1
   rw[this] at r1; exact r1
 have hrun1:(execOp a.eval o1).run P w=.ok (.value hdr) w:=by simp[execOp,hop1,k2,Instr.loadAt,Instr.sureAddr,hload]
 unfold wpOp
 simp only[h1,Region.wanted,g1,if_true]
 refine .inl ?_
 unfold Oper.wp
 rw[hrun1]
 simp only[Oper.upon,hdst1]
 -- the call
 have hsz1:d1<a.tmps.size:=by rw[hG.nt,hnt]; exact hd1
 have hsz3:d3<a.tmps.size:=by rw[hG.nt,hnt]; exact hd3
 have hevy:(a.put (some d1) hdr).eval y=v:=by
  rw[← hyv]
  cases y with
  | tmp t=>
   have:t≠d1:=by rintro rfl; exact hyd (by simp[rd])
   simp[Act.put,Act.eval,Array.getElem?_setIfInBounds_ne (Ne.symm this)]
  | _=>rfl
 have hrun3:(execOp (a.put (some d1) hdr).eval o3).run P w=.ok (.value v) w:=by simp[execOp,hop3,hevy]
 rw[wpOps_cons]
 unfold wpOp
 simp only[h3,Region.wanted,g3,if_true]
 refine .inl ?_
 unfold Oper.wp
 rw[hrun3]
 simp only[Oper.upon,hdst3]
 have hev1:((a.put (some d1) hdr).put (some d3) v).eval (.tmp d1)=hdr:=by
  simp[Act.put,Act.eval,hsz1,Array.getElem_setIfInBounds,Ne.symm h13]
 have hev3:((a.put (some d1) hdr).put (some d3) v).eval (.tmp d3)=v:=by
  simp[Act.put,Act.eval,hsz3]
 have hrun2:(execOp ((a.put (some d1) hdr).put (some d3) v).eval o2).run P w=.ok (.enter f #[hdr,v]) w:=by
  subst hg
  have hgf:((a.put (some d1) hdr).put (some d3) v).eval (.func f)=.func (.func f) #[] #[]:=rfl
  simp[execOp,hop2,resolve,hgf,Deferred.ofValue,invoke,rcF_ hci,hev1,hev3]
 have h2':ops[i+1+1]?=some o2:=h2
 rw[wpOps_cons]
 unfold wpOp
 simp only[h2',Region.wanted,g2,if_true]
 refine .inl ?_
 unfold Oper.wp
 rw[hrun2]
 simp only[Oper.upon]
 have hFn0:(b::F').Nodup:=by rw[← f9]; exact h4n
 have hF2sub:∀ k∈H2,k∈F':=by intro k hk; rw[e2,q2]; simp[hk]
 have hH2n:H2.Nodup:=by
  have:=(List.nodup_cons.1 hFn0).2
  rw[e2,q2] at this
  exact((List.nodup_append.1 (List.nodup_append.1 (List.nodup_append.1 (List.nodup_append.1 this).1).2.1).1).2.1)
 have hbH:b∉H2:=fun hm=>(List.nodup_cons.1 hFn0).1 (hF2sub b hm)
 have hFlt:∀ k∈G.fp c,k<w.heap.size:=fun k hk=>(h4l k hk).2
 have hH2lt:∀ k∈H2,k<w.heap.size:=fun k hk=>hFlt k (by rw[f9]; exact List.mem_cons_of_mem _ (hF2sub k hk))
 have hNP:∀ k,Nof κ st G w k→k∉G.fp c:=fun k hk hm=>hk.2 (.inr ⟨c,_,hc,hm⟩)
 have hH2fp:∀ k∈H2,k∈G.fp c:=fun k hk=>by rw[f9]; exact List.mem_cons_of_mem _ (hF2sub k hk)
 refine(hcalls w (Nof κ st G w) [hdr,v] H2 (fun k hk=>⟨hk.lt hG,fun hm=>hNP k hk (hH2fp k hm)⟩) hH2n hH2lt ?_).mono ?_
 ·simp only[RepVs]
  refine⟨hdr,[v],H2,[],rfl,by simp,q4,v,[],[],[],rfl,rfl,?_,rfl,rfl⟩
  have:=ev_ok (P:=P) (T:=0) hG y 0
  rw[hy,hyv] at this
  rcases this with⟨t1,_⟩ | ⟨_,t2,_⟩
  ·simp[aU] at t1
  ·simpa only[RepCV,RepV] using t2
 rintro e' w'' ⟨rv,F,rfl,hk,hr,hFn,hF,hres⟩
 have hrv:rv=u∧u.oneCell'=true:=by
  simp only[RepR,RepV,RepC] at hres
  exact⟨by simpa using hres.1,hres.2.1⟩
 simp only[RepVs] at hr
 obtain⟨r1,rs1,FA,FB,t1,t2,t3,r2,rs2,FC,FD,t4,t5,t6,t7⟩:=hr
 obtain⟨rfl,rfl⟩:=List.cons.inj t1
 have hFB:FB=[]:=by
  obtain⟨t8,t9⟩:=t7
  obtain⟨rfl,_⟩:=List.cons.inj t4
  simp only[RepV,RepC] at t6
  rw[t5,t6.2.2,t9]; rfl
 have hFA:F=FA:=by rw[t2,hFB,List.append_nil]
 subst hFA
 simp only[RepV] at t3
 -- the whole object anew
 let F0:=b::(F1++(H1++F++H3++F3))
 have hkeep:∀ k,k<w.heap.size→k∉H2→w''.heap[k]?=w.heap[k]?:=hk.block
 have hrest:∀ k,k∈F1++(H1++H3++F3)→k∈F'∧k∉H2:=by
  intro k hm
  have h0:=(List.nodup_cons.1 hFn0).2
  rw[e2,q2] at h0
  have hd1':=List.nodup_append.1 h0
  have hd2':=List.nodup_append.1 hd1'.1
  have hd3':=List.nodup_append.1 hd2'.2.1
  have hd4':=List.nodup_append.1 hd3'.1
  constructor
  ·rw[e2,q2]; simp only[aV] at hm ⊢
   rcases hm with hm | (hm | hm) | hm<;>simp[hm]
  ·intro hh
   simp only[aV] at hm
   rcases hm with hm | (hm | hm) | hm
   ·exact hd2'.2.2 k hm k (by simp[hh]) rfl
   ·exact hd4'.2.2 k hm k hh rfl
   ·exact hd3'.2.2 k (by simp[hh]) k hm rfl
   ·exact hd1'.2.2 k (by simp[hh]) k hm rfl
 have hrestlt:∀ k,k∈F1++(H1++H3++F3)→k<w.heap.size:=fun k hm=>hFlt k (by rw[f9]; exact List.mem_cons_of_mem _ (hrest k hm).1)
 have hrestnd:(F1++(H1++H3++F3)).Nodup:=by
  have h0:=(List.nodup_cons.1 hFn0).2
  rw[e2,q2] at h0
  refine List.Sublist.nodup ?_ h0
  simp only[ba]
  exact List.Sublist.append_left (List.Sublist.append_left (List.sublist_append_right _ _) _) _
 have hFrest:∀ k∈F,k∉F1++(H1++H3++F3):=by
  intro k hkF hm
  rcases (hF k hkF).1 with g | g
  ·have:=hrestlt k hm; omega
  ·exact(hrest k hm).2 g
 have hbF:b∉F:=by
  intro hm
  rcases (hF b hm).1 with g | g
  ·have:=hFlt b (by rw[f9]; simp); omega
  ·exact hbH g
 have hperm:(F1++(H1++F++H3++F3)).Perm (F++(F1++(H1++H3++F3))):=by
  simp only[ba]
  have p1:(H1++(F++(H3++F3))).Perm (F++(H1++(H3++F3))):=by
   rw[← ba,← ba F]; exact List.perm_append_comm.append_right _
  refine(List.Perm.append_left F1 p1).trans ?_
  rw[← ba,← ba F]
  exact List.perm_append_comm.append_right _
 have hF0n:F0.Nodup:=by
  refine List.nodup_cons.2 ⟨fun hm=>?_,hperm.nodup_iff.2 (List.nodup_append.2 ⟨hFn,hrestnd,fun k hk k' hk' e=>hFrest k hk (e▸hk')⟩)⟩
  rcases List.mem_append.1 (hperm.mem_iff.1 hm) with hm | hm
  ·exact hbF hm
  ·exact(List.nodup_cons.1 hFn0).1 (hrest b hm).1
 have hsubfp:∀ k,k∈fps G.fp [c]↔k∈G.fp c:=by intro k; simp[fps]
 have hF0:∀ k∈F0,(w.heap.size≤k∨k∈fps G.fp [c])∧k<w''.heap.size:=by
  intro k hm
  rcases List.mem_cons.1 hm with rfl | hm
  ·have hb:k∈G.fp c:=by rw[f9]; simp
   exact⟨.inr ((hsubfp _).2 hb),Nat.lt_of_lt_of_le (hFlt _ hb) hk.size⟩
  ·rcases List.mem_append.1 (hperm.mem_iff.1 hm) with hm | hm
   ·exact⟨(hF k hm).1.imp id (fun g=>(hsubfp _).2 (hH2fp k g)),(hF k hm).2⟩
   ·have hb:k∈G.fp c:=by rw[f9]; exact List.mem_cons_of_mem _ (hrest k hm).1
    exact⟨.inr ((hsubfp _).2 hb),Nat.lt_of_lt_of_le (hFlt _ hb) hk.size⟩
 let N':Nat→Prop:=fun k=>Nof κ st G w k∨((w.heap.size≤k∨k∈fps G.fp [c])∧k<w''.heap.size∧k∉F0)
 have hNw:∀ k,Nof κ st G w k→w''.heap[k]?=w.heap[k]?:=fun k hk=>hkeep k (hk.lt hG) (fun hm=>hNP k hk (hH2fp k hm))
 have hNN:∀ k,Nof κ st G w k→N' k:=fun k hk=>.inl hk
 have hin:RepC N' w'' (.sl true sz' es'') [hdr] F:=by
  refine RepC.frame (N:=fun k=>Nof κ st G w k∨((w.heap.size≤k∨k∈H2)∧k<w''.heap.size∧k∉F)) ?_ (fun _ _=>rfl) _ _ _ (fun _ _=>rfl) t3
  rintro k (hk | ⟨h1,h2,h3⟩)
  ·exact .inl hk
  ·refine .inr ⟨h1.imp id (fun g=>(hsubfp _).2 (hH2fp k g)),h2,fun hm=>?_⟩
   rcases List.mem_cons.1 hm with rfl | hm
   ·rcases h1 with g | g
    ·have:=hFlt k (by rw[f9]; simp); omega
    ·exact hbH g
   ·rcases List.mem_append.1 (hperm.mem_iff.1 hm) with hm | hm
    ·exact h3 hm
    ·rcases h1 with g | g
     ·have:=hrestlt k hm; omega
     ·exact(hrest k hm).2 g
 have hel:=q5 N' w'' hNN hNw (fun k hm=>hkeep k (hrestlt k (by simp only[aV] at hm ⊢; rcases hm with hm | hm<;>simp[hm])) ((hrest k (by simp only[aV] at hm ⊢; rcases hm with hm | hm<;>simp[hm])).2)) _ _ _ hin
 have hl1:RepCs N' w'' (es.take j) c1 F1:=RepCs.frame hNN hNw _ _ _ (fun k hm=>hkeep k (hrestlt k (by simp[hm])) ((hrest k (by simp[hm])).2)) e5
 have hl3:RepCs N' w'' (es.drop (j+1)) c3 F3:=RepCs.frame hNN hNw _ _ _ (fun k hm=>hkeep k (hrestlt k (by simp[hm])) ((hrest k (by simp[hm])).2)) e6
 have hmid:RepCs N' w'' ((es.getD j default).setAt p (.sl true sz' es'')::es.drop (j+1)) ((m1++[hdr]++m3)++c3) ((H1++F++H3)++F3):=by
  simp only[RepCs]; exact⟨_,_,_,_,rfl,rfl,hel,hl3⟩
 have hwhole:=RepCs.append _ _ _ _ _ _ hl1 hmid
 rw[← set_eq hj] at hwhole
 have hbw:w''.heap[b]?=w.heap[b]?:=hkeep b (hFlt b (by rw[f9]; simp)) hbH
 have hobj:RepC N' w'' (.sl true sz (es.set j ((es.getD j default).setAt p (.sl true sz' es'')))) [G.hd c] F0:=by
  simp only[RepC]
  refine .inr ⟨b,cap,cc,et,_,ccs,by rw[k1,List.length_set],by rw[List.length_set]; exact f2,f3,?_,by rw[hbw]; exact f5,f6,by rw[List.length_set]; exact f7,?_,rfl⟩
  ·intro q hq
   rcases List.mem_or_eq_of_mem_set hq with hq | rfl
   ·exact f4 q hq
   ·exact hsz
  ·have e8:ccs=c1++(m1++[hdr]++m3++c3):=by rw[e1,q1]; simp[ba]
   rw[e8]
   exact hwhole
 obtain⟨G',hhd,hG',_⟩:=hG.setObjs (ns:=[c]) (F:=F0) (ob':=fun _=>some (sz,es.set j ((es.getD j default).setAt p (.sl true sz' es''))))
  (by simp[hc]) (by refine⟨hk.os,hk.tape,hk.output,hk.size,fun k hk1 hk2=>hkeep k hk1 (fun hm=>hk2 ((hsubfp _).2 (hH2fp k hm)))⟩) hF0 hF0n
  ⟨fun _=>F0,fun c' sz'' es''' hc' ho=>by
   simp only[List.mem_singleton] at hc'; subst hc'
   cases ho
   exact hobj,by simp[fps]⟩
 have hG1:=hG'.set (v:=hdr) (sv:=.dead) (by rw[hnt]; exact hd1) rfl trivial
 have hvone:v.oneCell'=true:=by
  have:=ev_ok (P:=P) (T:=0) hG y 0
  rw[hy,hyv] at this
  rcases this with⟨t1,_⟩ | ⟨_,_,t2⟩
  ·simp[aU] at t1
  ·exact t2
 have hG3:=hG1.set (v:=v) (sv:=.val (.pv (.lit v))) (by rw[hnt]; exact hd3) rfl (sOl_ hvone)
 have hG2:=hG3.set (v:=rv) (sv:=.val (.pv (.lit u))) (by rw[hnt]; exact hd2) rfl (by rw[hrv.1]; exact sOl_ hrv.2)
 rw[hdst2]
 refine h κ _ _ hnt ⟨G',?_⟩ Q hQ
 have ho:setO [c] (fun _=>some (sz,es.set j ((es.getD j default).setAt p (.sl true sz' es'')))) st.o=upd st.o c (some (sz,es.set j ((es.getD j default).setAt p (.sl true sz' es'')))):=by
  funext k; simp[setO,upd]
 rw[ho] at hG2
 exact hG2
theorem Vei_{o1 o2 o3:Oper}{x y:Operand}{T:TypeId}{d1 d2 d3 c sz off sz':Nat}{f:FuncId}{p:List Nat}{ts:Array TypeId}{es' es'':List PV}{u v:Value}{α:Type}{fx:α→PV}{xs:List α}{e:Int}{x0:α}
 (h1:ops[i]?=some o1) (h3:ops[i+1]?=some o3) (h2:ops[i+2]?=some o2) (g1:o1.guard=none) (g3:o3.guard=none) (g2:o2.guard=none) (hop1:o1.op=.load T x) (hdst1:o1.dst=some d1)
 (hop3:o3.op=.move y) (hdst3:o3.dst=some d3) (hop2:o2.op=.call { callee:=.value (.func f),args:=#[.tmp d1,.tmp d3],argTypes:=ts }) (hdst2:o2.dst=some d2) (hidx:idx xs e=some x0)
 (hsat:SatIO P f [.sl true sz' es',.lit v] [.sl true sz' es'',.lit v] (.lit u))
 (hs:d1<nt∧d2<nt∧d3<nt∧(d1==d3)=false∧ev P st 0 x=.eptr c sz e.toNat p off∧st.o c=some (sz,xs.map fx)∧ev P st 0 y=.val (.pv (.lit v))∧(rd y).contains d1=false∧TyIs P T false 1)
 (hp:(fx x0).okp p=true∧(fx x0).offs p=off∧(fx x0).at p=.sl true sz' es'∧((fx x0).setAt p (.sl true sz' es'')).size=sz)
 (h:VSeq P nt ops (i+3) ⟨upd (upd (upd st.s d1 .dead) d3 (.val (.pv (.lit v)))) d2 (.val (.pv (.lit u))),upd st.o c (some (sz,(xs.map fx).set e.toNat ((fx x0).setAt p (.sl true sz' es''))))⟩ K):VSeq P nt ops i st K:=by
 obtain⟨k1,k2,k8,k9,k3,k4,k5,k6,k7⟩:=hs
 obtain⟨q1,q2,q3,q4⟩:=hp
 obtain⟨i1,i2,i3⟩:=is_1 hidx
 have hx:(xs.map fx).getD e.toNat default=fx x0:=by simp[List.getD,i3]
 refine Vei_1 h1 h3 h2 g1 g3 g2 hop1 hdst1 k1 hop3 hdst3 k8 (by simpa using k9) hop2 hdst2 k2 rfl k3 k4 (by simp; omega) (by rw[hx]; exact q1) (by rw[hx]; exact q2) (by rw[hx]; exact q3) (by rw[hx]; exact q4) k5 ?_ k7 hsat (by rw[hx]; exact h)
 intro hm
 rw[List.contains_eq_mem] at k6
 simp[hm] at k6
end

def MgI(P:Program)(nt:Nat)(F:St→Prop):Nat→Ctl→St→List Fr→Prop
 | 0,_,_,_=>False
 | n+1,.code c,st,k=>match c with
  | .seq x y=>MgI P nt F n (.code x) st (.sq y::k)
  | .skip=>MgI P nt F n .nrm st k
  | .exit id=>MgI P nt F n (.ex id) st k
  | .ret=>MgI P nt F n .rt st k
  | .block id x=>MgI P nt F n (.code x) st (.bl id::k)
  | .region _ ops dr=>if dr then P.follows .mixedOrders=true∧wpD P nt ops ops.toList st [] (fun recs st'=>DrawH ops st recs .mk .mk .mk∧MgI P nt F n .nrm st' k)
   else VSeq P nt ops 0 st (fun st'=>MgI P nt F n .nrm st' k)
  | .cond c x y=>boolOf (ev P st 0 c) fun b=>CondH b (MgI P nt F n (.code x) st k) (MgI P nt F n (.code y) st k) .mk .mk
  | c=>VC P nt c st (popQ P nt F k)
 | n+1,.nrm,st,k=>match k with
  | []=>F st
  | .sq y::k=>MgI P nt F n (.code y) st k
  | .bl _::k=>MgI P nt F n .nrm st k
  | .rd φ::_=>φ st
 | n+1,.ex id,st,k=>match k with
  | []=>False
  | .sq _::k=>MgI P nt F n (.ex id) st k
  | .bl id'::k=>if id=id' then MgI P nt F n .nrm st k else MgI P nt F n (.ex id) st k
  | .rd _::k=>MgI P nt F n (.ex id) st k
 | n+1,.rt,st,k=>match k with
  | []=>F st
  | _::k=>MgI P nt F n .rt st k
section
variable{P:Program}{nt:Nat}{F:St→Prop}{n:Nat}{st:St}{k:List Fr}
theorem MgI.sound:∀ (n:Nat) (c:Ctl) (st:St) (k:List Fr),MgI P nt F n c st k→c.means P nt st (popQ P nt F k)
 | 0,_,_,_,h=>h.elim
 | n+1,.code c,st,k,h=>by
  have ih:=MgI.sound n
  cases c with
  | seq x y=>exact Vs_ (ih (.code x) st (.sq y::k) h)
  | skip=>exact VC.skip (ih .nrm st k h)
  | exit id=>exact VC.exit (ih (.ex id) st k h)
  | ret=>exact VC.ret (ih .rt st k h)
  | block id x=>exact VC.block (ih (.code x) st (.bl id::k) h)
  | region id ops dr=>
   cases dr with
   | false=>exact VSeq.sound h (fun st' hk=>ih .nrm st' k hk)
   | true=>exact Vd_ h.1 h.2 (fun st' hk=>ih .nrm st' k hk)
  | cond c x y=>
   refine VC.cond ?_
   simp only[MgI] at h
   unfold boolOf at h ⊢
   split at h
   ·exact⟨fun hb=>ih (.code x) st k (h.1 hb),fun hb=>ih (.code y) st k (h.2 hb)⟩
   ·intro v hv
    obtain⟨b,e,hb⟩:=h v hv
    exact⟨b,e,fun hh=>ih (.code x) st k (hb.1 hh),fun hh=>ih (.code y) st k (hb.2 hh)⟩
   ·exact h.elim
  | _=>exact h
 | n+1,.nrm,st,k,h=>by
  have ih:=MgI.sound n
  match k,h with
  | [],h=>exact⟨.inl rfl,h⟩
  | .sq y::k,h=>exact(ih (.code y) st k h)
  | .bl i::k,h=>exact(ih .nrm st k h)
  | .rd φ::k',h=>exact h
 | n+1,.ex id,st,k,h=>by
  have ih:=MgI.sound n
  match k,h with
  | [],h=>exact h.elim
  | .sq y::k,h=>exact(ih (.ex id) st k h)
  | .bl id'::k,h=>
   simp only[MgI] at h
   by_cases e:id=id'
   ·subst e; rw[if_pos rfl] at h; exact bKh_ (ih .nrm st k h)
   ·rw[if_neg e] at h; exact bKm_ e (ih (.ex id) st k h)
  | .rd φ::k',h=>exact(ih (.ex id) st k' h)
 | n+1,.rt,st,k,h=>by
  have ih:=MgI.sound n
  match k,h with
  | [],h=>exact⟨.inr rfl,h⟩
  | .sq y::k,h=>exact(ih .rt st k h)
  | .bl i::k,h=>exact(ih .rt st k h)
  | .rd φ::k',h=>exact(ih .rt st k' h)
@[congr] theorem MgI.cg {c:Ctl} {st':St} (h:∀ _:Unit,st=st'):MgI P nt F n c st k=MgI P nt F n c st' k:=by rw[h ()]
theorem MIs_1(x y:Code):MgI P nt F (n+1) (.code (.seq x y)) st k=MgI P nt F n (.code x) st (.sq y::k):=rfl
theorem MIs_:MgI P nt F (n+1) (.code .skip) st k=MgI P nt F n .nrm st k:=rfl
theorem MIe_(id:Nat):MgI P nt F (n+1) (.code (.exit id)) st k=MgI P nt F n (.ex id) st k:=rfl
theorem MIr_:MgI P nt F (n+1) (.code .ret) st k=MgI P nt F n .rt st k:=rfl
theorem MIb_(id:Nat)(x:Code):MgI P nt F (n+1) (.code (.block id x)) st k=MgI P nt F n (.code x) st (.bl id::k):=rfl
theorem MIr_1(id:Nat)(l:List Oper):MgI P nt F (n+1) (.code (.region id ⟨l⟩ false)) st k=VSeq P nt ⟨l⟩ 0 st (fun st'=>MgI P nt F n .nrm st' k):=rfl
theorem MId_(id:Nat)(l:List Oper):MgI P nt F (n+1) (.code (.region id ⟨l⟩ true)) st k=(P.follows .mixedOrders=true∧wpD P nt ⟨l⟩ l st [] (fun recs st'=>DrawH ⟨l⟩ st recs .mk .mk .mk∧MgI P nt F n .nrm st' k)):=rfl
theorem MIc_(c:Operand)(x y:Code):MgI P nt F (n+1) (.code (.cond c x y)) st k=boolOf (ev P st 0 c) fun b=>CondH b (MgI P nt F n (.code x) st k) (MgI P nt F n (.code y) st k) .mk .mk:=rfl
theorem MgI_n0:MgI P nt F (n+1) .nrm st []=F st:=rfl
theorem MIn_1(y:Code):MgI P nt F (n+1) .nrm st (.sq y::k)=MgI P nt F n (.code y) st k:=rfl
theorem MIn_2(id:Nat):MgI P nt F (n+1) .nrm st (.bl id::k)=MgI P nt F n .nrm st k:=rfl
theorem MIx_(id:Nat)(y:Code):MgI P nt F (n+1) (.ex id) st (.sq y::k)=MgI P nt F n (.ex id) st k:=rfl
theorem MIx_3(id:Nat):MgI P nt F (n+1) (.ex id) st (.bl id::k)=MgI P nt F n .nrm st k:=by simp[MgI]
theorem MIx_2(id id':Nat)(h:(id==id')=false):MgI P nt F (n+1) (.ex id) st (.bl id'::k)=MgI P nt F n (.ex id) st k:=by
 have:id≠id':=by simpa using h
 simp[MgI,this]
theorem MIx_1(id:Nat)(φ:St→Prop):MgI P nt F (n+1) (.ex id) st (.rd φ::k)=MgI P nt F n (.ex id) st k:=rfl
theorem MgI_r0:MgI P nt F (n+1) .rt st []=F st:=rfl
theorem MgI_rc(f:Fr):MgI P nt F (n+1) .rt st (f::k)=MgI P nt F n .rt st k:=rfl
theorem MgI.know_own{c:Code}{sz:Nat}{es:List PV}(j:Nat)(hk:st.o j=some (sz,es))(h:es.length≤9223372036854775807→MgI P nt F (n+1) (.code (.loop c)) st k):MgI P nt F (n+1) (.code (.loop c)) st k:=
 VC.know_own (Q:=popQ P nt F k) j hk (fun g=>h (Nat.le_trans g (by decide)))
theorem MgI.forN{c:Code}{ρ σ:Type}{f:Nat→σ→Option (Flow ρ σ)}{N:Nat}{s0:σ}{ψ:ρ ⊕ σ→Prop}(h:Run (Av.forN f N 0 s0) ψ)(S:Nat→σ→List (Nat×SlotV))(O:Nat→σ→List (Nat×(Nat×List PV)))
 (h0:st.le ⟨mkS (S 0 s0),mkO (O 0 s0)⟩)
 (round:∀ i s,i<N→Run (f i s) (stepP (Av.forN f (N-(i+1)) (i+1)) ψ)→MgI P nt F n (.code c) ⟨mkS (S i s),mkO (O i s)⟩
  (.rd (fun st'=>∃ s',Run (Av.forN f (N-(i+1)) (i+1) s') ψ∧st'.le ⟨mkS (S (i+1) s'),mkO (O (i+1) s')⟩)::k))
 (last:∀ s,ψ (.inr s)→MgI P nt F n (.code c) ⟨mkS (S N s),mkO (O N s)⟩ (.rd (fun _=>False)::k)):MgI P nt F (n+1) (.code (.loop c)) st k:=by
 show VC P nt (.loop c) st (popQ P nt F k)
 refine VC.loop (α:=Nat×σ) (fun x=>⟨mkS (S x.1 x.2),mkO (O x.1 x.2)⟩) (fun x=>x.1≤N∧Run (Av.forN f (N-x.1) x.1 x.2) ψ) (fun x=>N-x.1) (0,s0) ⟨Nat.zero_le _,h⟩ h0 ?_
 rintro ⟨i,s⟩ ⟨h1,h2⟩
 simp only at h1 h2 ⊢
 by_cases e:i<N
 ·refine VC.mono (MgI.sound n _ _ _ (round i s e (rr_1 h2 e))) ?_
  intro ex st' hq
  cases ex with
  | normal=>obtain⟨s',g1,g2⟩:=hq; exact⟨(i+1,s'),⟨by simp only; omega,g1⟩,by simp only; omega,g2⟩
  | _=>exact hq
 ·have e2:i=N:=by omega
  subst e2
  refine VC.mono (MgI.sound n _ _ _ (last s (rl_1 h2))) ?_
  intro ex st' hq
  cases ex with
  | normal=>exact hq.elim
  | _=>exact hq
theorem MgI.whileN{c:Code}{ρ σ:Type}{f:σ→Option (Flow ρ σ)}{s0:σ}{ψ:ρ ⊕ σ→Prop}(h:Run (lim fun m=>Av.whileN f m s0) ψ)(S:σ→List (Nat×SlotV))(O:σ→List (Nat×(Nat×List PV)))
 (h0:st.le ⟨mkS (S s0),mkO (O s0)⟩)
 (round:∀ m s,Run (f s) (stepP (Av.whileN f m) ψ)→MgI P nt F n (.code c) ⟨mkS (S s),mkO (O s)⟩ (.rd (fun st'=>∃ s',Run (Av.whileN f m s') ψ∧st'.le ⟨mkS (S s'),mkO (O s')⟩)::k)):MgI P nt F (n+1) (.code (.loop c)) st k:=by
 show VC P nt (.loop c) st (popQ P nt F k)
 obtain⟨n0,h⟩:=rl_2 h
 refine VC.loop (α:=Nat×σ) (fun x=>⟨mkS (S x.2),mkO (O x.2)⟩) (fun x=>Run (Av.whileN f x.1 x.2) ψ) (fun x=>x.1) (n0,s0) h h0 ?_
 rintro ⟨i,s⟩ h2
 simp only at h2 ⊢
 obtain⟨i',rfl,h3⟩:=rw_ h2
 refine VC.mono (MgI.sound n _ _ _ (round i' s h3)) ?_
 intro ex st' hq
 cases ex with
 | normal=>obtain⟨s',g1,g2⟩:=hq; exact⟨(i',s'),g1,by simp only; omega,g2⟩
 | _=>exact hq
theorem SIo_{n:Nat}{f:FuncId}{fn:Func}{c:Code}{args args':List PV}{res:PV}{rs:List ResultVar}(hf:P.funcs[f]?=some fn)(hname:(fn.name== "runtime.NumGoroutine")=false)(hb:fn.body=some c)
 (hnt:fn.ntmps=nt) (hrs:fn.results.toList=rs) (hle:args.length≤nt) (h:MgI P nt (fun st=>FinIO P st rs res (e_ args 10000).1 args') n (.code c) (argIO args) []):SatIO P f args args' res:=
 SatIO.of_body hf hname hb hnt hrs hle (MgI.sound n _ _ _ h)
theorem MIn_(φ:St→Prop):MgI P nt F (n+1) .nrm st (.rd φ::k)=RdH φ st .mk:=rfl
end
section
variable{st:St}
theorem Sld_1(j c sz:Nat)(es:List PV)(v':SlotV)(hc:st.o c=some (sz,es))(hb:isBox v'=isBox (st.s j))(h:∀ N w G v,RepC N w (.sl false sz (PV.views es)) [G.hd c] []→SlotOk N w G j v (st.s j)→SlotOk N w G j v v'):st.le ⟨upd st.s j v',upd st.o c none⟩:=by
 rintro κ a w ⟨G,hG⟩
 have hbx:∀ r,isBox ((⟨upd st.s j v',upd st.o c none⟩:St).s r)=isBox (st.s r):=by
  intro r
  simp only[upd]
  split
  ·rename_i e; subst e; exact hb
  ·rfl
 have ho:∀ m p,(⟨upd st.s j v',upd st.o c none⟩:St).o m=some p→m≠c∧st.o m=some p:=by
  intro m p hp
  simp only[upd] at hp
  split at hp
  ·cases hp
  ·rename_i e; exact⟨e,hp⟩
 have hP:∀ b,Nof κ st G w b→Nof κ ⟨upd st.s j v',upd st.o c none⟩ G w b:=by
  intro b hb
  refine⟨hb.1,fun hp=>hb.2 ?_⟩
  rcases hp with⟨r,h1,h2⟩ | ⟨m,p,h1,h2⟩
  ·exact .inl ⟨r,by rw[← hbx]; exact h1,h2⟩
  ·exact .inr ⟨m,p,(ho m p h1).2,h2⟩
 obtain⟨k1,k2,k3⟩:=hG.objs c sz es hc
 have hfp:∀ b∈G.fp c,Nof κ ⟨upd st.s j v',upd st.o c none⟩ G w b:=by
  intro b hb
  refine⟨.inr (k3 b hb),?_⟩
  rintro (⟨r,h1,h2⟩ | ⟨m,p,h1,h2⟩)
  ·rw[hbx] at h1; exact hG.bo r c _ h1 hc (h2▸hb)
  ·obtain⟨e,h3⟩:=ho m p h1
   exact hG.oo m c p _ h3 hc e b h2 hb
 have hdem:=RepC.demote hP _ _ _ hfp k1
 simp only[PV.view] at hdem
 refine⟨G,hG.keep,hG.defers,hG.nt,?_,?_,fun r hr=>hG.boxes r (by rw[← hbx]; exact hr),fun r r' h1 h2=>hG.bb r r' (by rw[← hbx]; exact h1) (by rw[← hbx]; exact h2),?_,?_,hG.held⟩
 ·intro i
  have h1:=(hG.slots i).frame (G':=G) hP (fun _ _=>rfl) (fun _ _=>rfl) (fun _ _=>rfl) (fun _=>⟨rfl,rfl⟩)
  simp only[upd]
  split
  ·rename_i e; subst e; exact h _ _ _ _ hdem h1
  ·exact h1
 ·intro m sz' es' hm
  obtain⟨e,h3⟩:=ho m _ hm
  obtain⟨h1,h2,h4⟩:=hG.objs m sz' es' h3
  exact⟨RepC.frame hP (fun _ _=>rfl) _ _ _ (fun _ _=>rfl) h1,h2,h4⟩
 ·intro r m p h1 h2
  exact hG.bo r m p (by rw[← hbx]; exact h1) (ho m p h2).2
 ·intro m m' p p' h1 h2 hne
  exact hG.oo m m' p p' (ho m p h1).2 (ho m' p' h2).2 hne
theorem Sld_{x:CV}{sz:Nat}{es:List PV}(j:Nat)(p:List Nat)(c:Nat)(hk:st.s j=.val x∧x.okp p=true∧x.at p=.own c∧st.o c=some (sz,es)):st.le ⟨upd st.s j (.val (x.setAt p (.pv (.sl false sz (PV.views es))))),upd st.o c none⟩:=by
 obtain⟨h1,h2,h3,h4⟩:=hk
 refine Sld_1 j c sz es _ h4 (by rw[h1]; rfl) fun N w G v hd h=>?_
 rw[h1] at h
 exact(st_1 (z:=.pv (.sl false sz (PV.views es))) h2 h3 (fun cs hcs=>by simp only[RepCV] at hcs ⊢; rw[hcs.1]; exact hd) rfl).2 h
end
theorem NilH.mk{es:List PV}{t:Bool}{K:Bool→Prop}(h1:es=[]→K t)(h2:K (!t)):boolOf (.ex (nilQ es t)) K:=by
 rintro v ⟨b,rfl,hb⟩
 refine⟨b,rfl,?_⟩
 by_cases e:b=t
 ·subst e; exact h1 (hb rfl)
 ·have:b=!t:=by cases b<;>cases t<;>simp at e ⊢
  rw[this]; exact h2
theorem app_nn{α:Type}:app ([]:List α) []=some []:=rfl
theorem cp_1(v:PV):(CV.pv v).clean=v.noOwn:=rfl
theorem co_(c:Nat):(CV.own c).clean=true:=rfl
theorem cn_1(fs:List CV):(CV.node fs).clean=Cc_ fs:=rfl
theorem cn_:Cc_ []=true:=rfl
theorem cc_3(x:CV)(xs:List CV):Cc_ (x::xs)=(x.clean&&Cc_ xs):=rfl
theorem cc_4{a b:Nat}{l:List Nat}:(a::l).contains b=(b==a||l.contains b):=List.contains_cons
def RI:=ae @MIs_1<|ae @MIs_<|ae @MIe_<|ae @MIr_<|ae @MIb_<|ae @MIr_1<|ae @MId_<|ae @MIc_<|ae @MgI_n0<|ae @MIn_1<|ae @MIn_2<|ae @MIn_<|ae @MIx_<|ae @MIx_3<|ae @MIx_2<|ae @MIx_1<|ae @MgI_r0<|ae @MgI_rc<|@sVs_
attribute [push_cast] aIe_ cp_1 co_ cn_1 cn_ cc_3 cc_4
theorem vcN_{P:Program}{nt:Nat}{o:Oper}{st:St}{d c:Nat}{g y:Operand}{tys:Array TypeId}{f:FuncId}{T1 T2:TypeId}{v:Value}{res:PV}
 (hop:o.op=.call { callee:=.value g,args:=#[.const (.slice none 0 0),y],argTypes:=tys }) (hdst:o.dst=some d) (hd:d<nt)
 (hg:ev P st T1 g=.val (.pv (.clo f []))) (hy:ev P st T2 y=.val (.pv (.lit v))) (hsat:Sat P f [.lit (.slice none 0 0),.lit v] res):
 Valid P nt o st { rs:=rd g++rd y,fc:=(rO_ res c).map (·.1),us:=[(d,resSV res c)],uo:=newObjs (rO_ res c) }:=by
 intro κ st' a w hnt hsame hfresh hR next Q hnext
 obtain⟨G,hG⟩:=hR
 obtain⟨hci,hcalls⟩:=hsat
 have hgv:=ev_ok (P:=P) (T:=T1) hG g 0
 rw[ec_ (fun k hk=>hsame.1 k (by simp[hk])),hg] at hgv
 rcases hgv with⟨hgv,_⟩ | ⟨_,hgv,_⟩
 ·simp[aU] at hgv
 simp only[RepCV,RepC] at hgv
 obtain⟨vals,hg1,_,hg3,_⟩:=hgv
 simp at hg1
 simp only[RepCs] at hg3
 obtain⟨rfl,_⟩:=hg3
 have hyv:=ev_ok (P:=P) (T:=T2) hG y 0
 rw[ec_ (fun k hk=>hsame.1 k (by simp[hk])),hy] at hyv
 rcases hyv with⟨hyv,_⟩ | ⟨_,hyv,_⟩
 ·simp[aU] at hyv
 simp only[RepCV,RepC] at hyv
 obtain⟨hy1,hy2,_⟩:=hyv
 simp at hy1
 have hrun:(execOp a.eval o).run P w=.ok (.enter f #[.slice none 0 0,v]) w:=by
  have h0:a.eval (.const (.slice none 0 0))=.slice none 0 0:=rfl
  simp[execOp,hop,resolve,hg1,Deferred.ofValue,invoke,rcF_ hci,hy1,h0]
 unfold Oper.wp
 rw[hrun]
 simp only[Oper.upon]
 have hall:RepVs (Nof κ st' G w) w [.lit (.slice none 0 0),.lit v] [.slice none 0 0,v] []:=by
  refine⟨_,_,[],[],rfl,rfl,⟨rfl,rfl,rfl⟩,⟨_,_,[],[],rfl,rfl,⟨rfl,hy2,rfl⟩,rfl,rfl⟩⟩
 have:=hcalls w (Nof κ st' G w) _ _ (fun b hb=>⟨hb.lt hG,by simp⟩) List.nodup_nil (by simp) hall
 refine this.mono ?_
 rintro e w'' ⟨u,F,rfl,hb,hr,hn,hF⟩
 rw[hdst]
 refine hnext _ _ ?_
 have:=R.res (c:=c) (D:=[]) hG (by rw[hnt]; exact hd) (by simp) hb (by simpa[fps] using hF) hn (fun b hb'=>by simpa[fps] using hb') hr (fun n hn'=>hfresh.2 n (by simpa using hn'))
 simpa[St.app,updAll,deadObjs] using this
theorem CHn_{P:Program}{nt:Nat}{st:St}{d ty:Nat}{pos:String}{af:Array Edge}{gd:Option (Nat×Bool)}{g y:Operand}{ts:List TypeId}{K0:Rec→Prop}{f:FuncId}{v o c:List PV}{K:List Bool→PV→Prop}
 {u:Value} {res:PV} (h:Sat P f [.lit (.slice none 0 0),.lit u] res)
 (hs:d<nt∧ev P st 0 g=.val (.pv (.clo f []))∧ev P st 0 y=.val (.pv (.lit u))∧∀ n∈(rO_ res (16*d)).map (·.1),st.noC n)
 (hK:K0 { rs:=rd g++rd y,fc:=(rO_ res (16*d)).map (·.1),us:=[(d,resSV res (16*d))],uo:=newObjs (rO_ res (16*d)) }):
 CallH P f v o c K (RecOk P nt st { dst:=some d,op:=.call { callee:=.value g,args:=⟨[.const (.slice none 0 0),y]⟩,argTypes:=⟨ts⟩ },type:=ty,pos:=pos,after:=af,guard:=gd } K0) .mk .mk:=by
 obtain⟨h1,h2,h3,h4⟩:=hs
 exact CHh_ ⟨_,vcN_ rfl rfl h1 h2 h3 h,⟨fun n hn=>by simp at hn,h4⟩,hK⟩
theorem Son_{P:Program}{nt n sz:Nat}{f:FuncId}{fn:Func}{c:Code}{args:List PV}{res:PV}{rs:List ResultVar}(hf:P.funcs[f]?=some fn)(hname:(fn.name== "runtime.NumGoroutine")=false)(hb:fn.body=some c)
 (hnt:fn.ntmps=nt) (hrs:fn.results.toList=rs) (hle:args.length+1≤nt)
 (h:Mg P nt (fun st=>FinH P st rs res) n (.code c) ⟨upd (argSt (.lit (.slice none 0 0)::args)).s 0 (.val (.pv (.sl true sz []))),(argSt (.lit (.slice none 0 0)::args)).o⟩ []):Sat P f (.lit (.slice none 0 0)::args) res:=by
 refine Sat.of_body hf hname hb hnt hrs hle ?_
 have h2:=Mg.sound n _ _ _ h
 intro κ a w hκ hR
 refine h2 κ a w hκ (Sls_ 0 (.val (.pv (.sl true sz []))) rfl ?_ κ a w hR)
 intro N w G v (hv:SlotOk N w G 0 v (.val (.pv (.lit (.slice none 0 0)))))
 rcases hv with⟨hv,_⟩ | ⟨h1,hv,h3⟩
 ·simp[aU] at hv
 refine .inr ⟨rfl,?_,?_⟩
 ·simp only[RepCV,RepC] at hv ⊢
  exact .inl ⟨hv.1,trivial,trivial⟩
 ·exact h3
theorem sn_4{α:Type}{xs ys:List α}(h:slc xs 0 (([]:List Nat).length:Int)=some ys):ys=[]:=by
 unfold slc at h
 split at h
 ·cases h; simp
 ·cases h
end Go.Av
