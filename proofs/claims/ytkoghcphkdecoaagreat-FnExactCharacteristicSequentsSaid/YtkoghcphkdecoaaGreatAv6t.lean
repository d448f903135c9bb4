/- A part of the proof: lemmas only; nothing is claimed here beyond what each lemma says. -/
/- Reading slices, writing those of one's own, growing them. -/
import Derived.Test.YtkoghcphkdecoaaGreatAv6s
set_option linter.unusedSimpArgs false
set_option linter.unusedVariables false
set_option linter.defProp false
namespace Go.Av
open List renaming append_assoc→ba,length_append→aY

theorem F_nil{F1 F2 F3:List Nat}(h:([]:List Nat)=F1++F2++F3):F1=[]∧F2=[]∧F3=[]:=by
 have:=congrArg List.length h
 simp at this
 exact⟨List.eq_nil_of_length_eq_zero (by omega),List.eq_nil_of_length_eq_zero (by omega),List.eq_nil_of_length_eq_zero (by omega)⟩

theorem st_{sz:Nat}{es:List PV}(h:∀ e∈es,PV.size e=sz){i:Nat}(hi:i≤es.length):PV.sizes (es.take i)=i*sz:=by
 rw[Psc_ (sz:=sz) (fun e he=>h e (List.mem_of_mem_take he)),List.length_take,Nat.min_eq_left hi]

theorem riA_{P:Program}{T:TypeId}{sz bytes:Nat}(hT:SlIs P T sz bytes){ad:Addr}{k:IntKind}{n:Int}{len cap:Nat}(h0:0≤n)(hl:n<len)(hs:ad.spot=none)(w:World):
 (Instr.indexAt T (.slice (some ad) len cap) (.int k n)).run P w=.ok (.pointer (some ⟨ad.block,ad.off+n.toNat*sz,none⟩)) w:=by
 obtain⟨e,i,z,h1,h2,h3,_⟩:=hT
 simp[Instr.indexAt,asIntOf,run_underlying h1,h0,hl,sizeOf,typeInfo,h2,h3,ao_ _ _ hs]

theorem sOs_{N:Nat→Prop}{w:World}{G:Gh}{k sz:Nat}{b:Bool}{es:List PV}{v:Value}(h:SlotOk N w G k v (.val (.pv (.sl b sz es)))):∃ a cap,v=.slice a es.length cap:=by
 rcases h with⟨h1,_⟩ | ⟨_,h1,_⟩
 ·simp[CV.isAgg] at h1
 ·cases b with
  | false=>simp only[RepCV,RepC] at h1; obtain⟨b,cap,h1,_⟩:=h1; simp at h1; exact⟨b,cap,h1⟩
  | true=>
   simp only[RepCV,RepC] at h1
   rcases h1 with⟨h1,h2,_⟩ | ⟨b,cap,c,e,F',ccs,h1,_⟩
   ·simp at h1; exact⟨none,0,by rw[h1,h2]; rfl⟩
   ·simp at h1; exact⟨_,cap,h1⟩
theorem own_sl{κ:Ctx}{G:Gh}{st:St}{a:Act}{w:World}{c sz:Nat}{es:List PV}(hG:RG κ G st a w)(ho:st.o c=some (sz,es)):∃ b cap,G.hd c=.slice b es.length cap:=by
 have h2:=(hG.objs c sz es ho).1
 simp only[RepC] at h2
 rcases h2 with⟨h2,h3,_⟩ | ⟨b,cap,c',e,F',ccs,h2,_⟩
 ·simp at h2; exact⟨none,0,by rw[h2,h3]; rfl⟩
 ·simp at h2; exact⟨_,cap,h2⟩
theorem sOo_{N:Nat→Prop}{w:World}{G:Gh}{k c:Nat}{v:Value}(h:SlotOk N w G k v (.val (.own c))):v=G.hd c:=by
 rcases h with⟨h1,_⟩ | ⟨_,h1,_⟩
 ·simp[CV.isAgg] at h1
 ·simp only[RepCV] at h1; simpa using h1.1

theorem viv_{P:Program}{nt:Nat}{o:Oper}{st:St}{d sz bytes:Nat}{x y:Operand}{T T1 T2:TypeId}{b:Bool}{es:List PV}{k:IntKind}{n:Int}(hop:o.op=.indexAddr T x y)(hdst:o.dst=some d)(hd:d<nt)
 (hT:SlIs P T sz bytes) (hx:ev P st T1 x=.val (.pv (.sl b sz es))) (hy:ev P st T2 y=.val (.pv (.lit (.int k n)))) (h0:0≤n) (hl:n<es.length):
 Valid P nt o st { rs:=rd x++rd y,us:=[(d,.val (.pv (.ptr (es.getD n.toNat default))))] }:=by
 refine vp_ hdst hd rfl ?_
 intro κ G st' a w hnt hsame hG
 have h1:=ev_ok (P:=P) (T:=T1) hG x d
 rw[ec_ (fun k hk=>hsame.1 k (by simp[hk])),hx] at h1
 have h2:=ev_lit hG hy (fun k hk=>hsame.1 k (by simp[hk]))
 rcases h1 with⟨h1,_⟩ | ⟨_,h1,_⟩
 ·simp[CV.isAgg] at h1
 simp only[RepCV] at h1
 have hne:es≠[]:=by rintro rfl; simp at hl; omega
 cases b with
 | true=>
  simp only[RepC] at h1
  rcases h1 with⟨_,h1,_⟩ | ⟨b,cap,c,e,F',ccs,_,_,_,_,_,_,_,_,h9⟩
  ·exact absurd h1 hne
  ·simp at h9
 | false=>
  simp only[RepC] at h1
  obtain⟨ad0,cap,g1,_,g3,g4,g5,g6⟩:=h1
  rcases g6 with g6 | ⟨ad,ccs,rfl,f2,f3,f4,f5⟩
  ·exact absurd g6 hne
  simp at g1
  have hi:n.toNat<es.length:=by omega
  have hg:es[n.toNat]?=some (es.getD n.toNat default):=by simp[List.getD,hi]
  obtain⟨c1,c2,c3,F1,F2,F3,e1,e2,e3,e4,e5,e6⟩:=RepCs.at es n.toNat _ ccs [] f5 hg
  obtain⟨_,rfl,_⟩:=F_nil e2
  rw[st_ g5 (by omega)] at e3
  refine⟨.pointer (some ⟨ad.block,ad.off+n.toNat*sz,none⟩),by simp[execOp,hop,g1,h2,riA_ hT h0 hl f2],.inr ⟨rfl,?_,rfl⟩⟩
  simp only[RepCV,RepC]
  refine⟨⟨ad.block,ad.off+n.toNat*sz,none⟩,c2,rfl,trivial,rfl,f3,?_,e4⟩
  rw[e1] at f4
  have:=f4.sub
  rwa [e3] at this

theorem vio_{P:Program}{nt:Nat}{o:Oper}{st:St}{d c sz bytes:Nat}{x y:Operand}{T T1 T2:TypeId}{es:List PV}{k:IntKind}{n:Int}(hop:o.op=.indexAddr T x y)(hdst:o.dst=some d)(hd:d<nt)
 (hT:SlIs P T sz bytes) (hx:ev P st T1 x=.val (.own c)) (hc:st.o c=some (sz,es)) (hy:ev P st T2 y=.val (.pv (.lit (.int k n)))) (h0:0≤n) (hl:n<es.length):
 Valid P nt o st { rs:=rd x++rd y,ro:=[c],us:=[(d,.eptr c sz n.toNat [] 0)] }:=by
 refine vp_ hdst hd rfl ?_
 intro κ G st' a w hnt hsame hG
 have h1:=ev_ok (P:=P) (T:=T1) hG x d
 rw[ec_ (fun k hk=>hsame.1 k (by simp[hk])),hx] at h1
 have h2:=ev_lit hG hy (fun k hk=>hsame.1 k (by simp[hk]))
 have h3:=sOo_ h1
 have hc':st'.o c=some (sz,es):=by rw[hsame.2 c (by simp)]; exact hc
 have h4:=(hG.objs c sz es hc').1
 simp only[RepC] at h4
 rcases h4 with⟨_,h4,_⟩ | ⟨b,cap,cc,e,F',ccs,g1,_⟩
 ·subst h4; simp at hl; omega
 simp at g1
 refine⟨.pointer (some ⟨b,0+n.toNat*sz,none⟩),?_,b,es.length,cap,g1,by simp⟩
 have:=riA_ (P:=P) hT (ad:=⟨b,0,none⟩) (k:=k) (len:=es.length) (cap:=cap) h0 hl rfl w
 simp[execOp,hop,h3,g1,h2,this]

theorem RepC.agg_of{N:Nat→Prop}{w:World}{fs:List PV}{cs:List Value}{F:List Nat}(h:RepC N w (.agg fs) cs F):RepCs N w fs cs F:=by simpa only[RepC] using h

def PV.at:PV→List Nat→PV
 | p,[]=>p
 | .agg fs,k::ks=>(fs.getD k default).at ks
 | _,_=>.tup []
def PV.offs:PV→List Nat→Nat
 | _,[]=>0
 | .agg fs,k::ks=>PV.sizes (fs.take k)+(fs.getD k default).offs ks
 | _,_=>0
def PV.okp:PV→List Nat→Bool
 | _,[]=>true
 | .agg fs,k::ks=>decide (k<fs.length)&&(fs.getD k default).okp ks
 | _,_=>false
def PV.setAt:PV→List Nat→PV→PV
 | _,[],y=>y
 | .agg fs,k::ks,y=>.agg (fs.set k ((fs.getD k default).setAt ks y))
 | p,_,_=>p

theorem RCa_{N:Nat→Prop}{w:World}(es:List PV)(i:Nat)(c:List Value)(F:List Nat)(hi:i<es.length)(h:RepCs N w es c F):
 ∃ c1 c2 c3 F1 F2 F3,c=c1++c2++c3∧F=F1++F2++F3∧c1.length=PV.sizes (es.take i)∧RepC N w (es.getD i default) c2 F2∧RepCs N w (es.take i) c1 F1∧RepCs N w (es.drop (i+1)) c3 F3:=
 RepCs.at es i _ c F h (by simp[List.getD,hi])

theorem set_eq{α:Type}{l:List α}{i:Nat}(h:i<l.length)(x:α):l.set i x=l.take i++x::l.drop (i+1):=by
 rw[List.set_eq_take_append_cons_drop,if_pos h]

theorem RepC.path{N:Nat→Prop}{w:World}:∀ (p:List Nat) (x:PV) (cs:List Value) (F:List Nat),x.okp p=true→RepC N w x cs F→
 ∃ c1 c2 c3 F1 F2 F3,cs=c1++c2++c3∧F=F1++F2++F3∧c1.length=x.offs p∧RepC N w (x.at p) c2 F2∧
  ∀ (N':Nat→Prop) (w':World),(∀ b,N b→N' b)→(∀ b,N b→w'.heap[b]?=w.heap[b]?)→(∀ b∈F1++F3,w'.heap[b]?=w.heap[b]?)→∀ y c2' F2',RepC N' w' y c2' F2'→RepC N' w' (x.setAt p y) (c1++c2'++c3) (F1++F2'++F3)
 | [],x,cs,F,_,h=>⟨[],cs,[],[],F,[],by simp,by simp,by simp[PV.offs],by simpa[PV.at] using h,fun N' w' _ _ _ y c2' F2' hy=>by simpa[PV.setAt] using hy⟩
 | k::ks,.agg fs,cs,F,hp,h=>by
  simp only[PV.okp,Bool.and_eq_true,decide_eq_true_eq] at hp
  obtain⟨c1,c2,c3,F1,F2,F3,e1,e2,e3,e4,e5,e6⟩:=RCa_ fs k cs F hp.1 h.agg_of
  obtain⟨d1,d2,d3,G1,G2,G3,f1,f2,f3,f4,f5⟩:=RepC.path ks _ c2 F2 hp.2 e4
  refine⟨c1++d1,d2,d3++c3,F1++G1,G2,G3++F3,by simp[e1,f1],by simp[e2,f2],by simp[PV.offs,e3,f3],by simpa[PV.at] using f4,fun N' w' hN hw hF y c2' F2' hy=>?_⟩
  have h1:=f5 N' w' hN hw (fun b hb=>hF b (by
   rcases List.mem_append.1 hb with hb | hb
   ·simp[hb]
   ·simp[hb])) y c2' F2' hy
  simp only[PV.setAt,RepC]
  rw[set_eq hp.1]
  have h2:RepCs N' w' (fs.take k) c1 F1:=RepCs.frame hN hw _ _ _ (fun b hb=>hF b (by simp[hb])) e5
  have h3:RepCs N' w' (fs.drop (k+1)) c3 F3:=RepCs.frame hN hw _ _ _ (fun b hb=>hF b (by simp[hb])) e6
  have h4:RepCs N' w' ((fs.getD k default).setAt ks y::fs.drop (k+1)) ((d1++c2'++d3)++c3) ((G1++F2'++G3)++F3):=by
   simp only[RepCs]; exact⟨_,_,_,_,rfl,rfl,h1,h3⟩
  have:=RepCs.append _ _ _ _ _ _ h2 h4
  simpa[ba] using this
 | _::_,.lit _,_,_,hp,_=>by simp[PV.okp] at hp
 | _::_,.sl _ _ _,_,_,hp,_=>by simp[PV.okp] at hp
 | _::_,.clo _ _,_,_,hp,_=>by simp[PV.okp] at hp
 | _::_,.ptr _,_,_,hp,_=>by simp[PV.okp] at hp
 | _::_,.tup _,_,_,hp,_=>by simp[PV.okp] at hp

theorem vle_{P:Program}{nt:Nat}{o:Oper}{st:St}{d c sz i off:Nat}{p:List Nat}{x:Operand}{T T1:TypeId}{es:List PV}{v:PV}(hop:o.op=.load T x)(hdst:o.dst=some d)(hd:d<nt)
 (hx:ev P st T1 x=.eptr c sz i p off) (hc:st.o c=some (sz,es)) (hi:i<es.length) (hok:(es.getD i default).okp p=true) (hoff:(es.getD i default).offs p=off) (hv:(es.getD i default).at p=v) (hno:v.noOwn=true)
 (ht:TyIs P T (CV.pv v).isAgg v.size):Valid P nt o st { rs:=rd x,ro:=[c],us:=[(d,.val (.pv v))] }:=by
 refine vp_ hdst hd rfl ?_
 intro κ G st' a w hnt hsame hG
 have h1:=ev_ok (P:=P) (T:=T1) hG x d
 rw[ec_ hsame.1,hx] at h1
 obtain⟨b,n,cap,g1,g2⟩:=h1
 have hc':st'.o c=some (sz,es):=by rw[hsame.2 c (by simp)]; exact hc
 have h4:=(hG.objs c sz es hc').1
 simp only[RepC] at h4
 rcases h4 with⟨_,h4,_⟩ | ⟨b',cap',cc,e,F',ccs,f1,f2,f3,f4,f5,f6,f7,f8,f9⟩
 ·subst h4; simp at hi
 rw[g1] at f1
 simp at f1
 obtain⟨rfl,_,_⟩:=f1
 obtain⟨c1,c2,c3,F1,F2,F3,e1,e2,e3,e4,e5,e6⟩:=RCa_ es i ccs F' hi f8
 obtain⟨d1,d2,d3,H1,H2,H3,k1,k2,k3,k4,_⟩:=RepC.path p _ c2 F2 hok e4
 rw[hv] at k4
 have hH2:=RepC.noOwn _ _ _ hno k4
 subst hH2
 rw[st_ f4 (by omega)] at e3
 have hrow:RowAt w ⟨b,i*sz+off,none⟩ d2:=by
  have hall:cc.toList=(c1++d1)++d2++(d3++c3++cc.toList.drop (es.length*sz)):=by
   have:=List.take_append_drop (es.length*sz) cc.toList
   rw[f7,e1,k1] at this
   refine this.symm.trans ?_
   simp only[ba]
  have h5:w.heap[b]?=some (.cells ((c1++d1)++d2++(d3++c3++cc.toList.drop (es.length*sz))).toArray e (0,0)):=by rw[← hall]; simpa using f5
  have:=rAo_ h5
  rw[aY,e3,k3,hoff] at this
  exact this
 obtain⟨u,m1,m2⟩:=rlV_ (P:=P) (hd:=G.hd) (x:=.pv v) (N:=Nof κ st' G w) ht rfl hrow (by simpa[RepCV] using k4) (fun n=>by simp)
 exact⟨u,by simp[execOp,hop,g2,Instr.loadAt,Instr.sureAddr,m1],m2⟩

theorem RsO_{κ:Ctx}{G:Gh}{st:St}{a:Act}{w w':World}{c sz:Nat}{es':List PV}{D fc':List Nat}(h:RG κ G st a w)(hc:(st.o c).isSome=true)(hcD:c∉D)(hD:∀ n∈D,(st.o n).isSome=true)
 (hos:w'.os=w.os) (htape:w'.tape=w.tape) (hout:w'.output=w.output) (hsz:w'.heap.size=w.heap.size) (hw:∀ k,k∉G.fp c→w'.heap[k]?=w.heap[k]?)
 (hrep:RepC (Nof κ st G w) w' (.sl true sz es') [G.hd c] fc') (hnd:fc'.Nodup) (hsub:∀ b∈fc',b∈G.fp c∨b∈fps G.fp D):
 R κ { s:=st.s,o:=updAll st.o (deadObjs D++[(c,some (sz,es'))]) } a w':=by
 obtain⟨⟨sz0,es0⟩,hc0⟩:=Option.isSome_iff_exists.1 hc
 have hDin:∀ b,b∈fps G.fp D→∃ c' p,c'∈D∧st.o c'=some p∧b∈G.fp c':=by
  intro b hb'
  obtain⟨c',hc',hm⟩:=mf_.1 hb'
  obtain⟨p,hp⟩:=Option.isSome_iff_exists.1 (hD c' hc')
  exact⟨c',p,hc',hp,hm⟩
 let G':Gh:={ G with fp:=upd G.fp c fc' }
 have hob:∀ k p,updAll st.o (deadObjs D++[(c,some (sz,es'))]) k=some p→(k=c∧p=(sz,es'))∨(k≠c∧k∉D∧st.o k=some p):=by
  intro k p hk
  rw[uAa_] at hk
  simp only[updAll] at hk
  by_cases hkc:k=c
  ·subst hkc; rw[us_] at hk; cases hk; exact .inl ⟨rfl,rfl⟩
  ·rw[upd_ne hkc,uAd_] at hk
   by_cases hkD:k∈D
   ·simp[hkD] at hk
   ·simp only[hkD,if_false] at hk; exact .inr ⟨hkc,hkD,hk⟩
 have hfpc:G'.fp c=fc':=us_ _ _ _
 have hfpo:∀ k,k≠c→G'.fp k=G.fp k:=fun k hk=>upd_ne hk
 have hblk:∀ b∈fc',∃ c' p,(c'=c∨c'∈D)∧st.o c'=some p∧b∈G.fp c':=by
  intro b hb
  rcases hsub b hb with h1 | h1
  ·exact⟨c,_,.inl rfl,hc0,h1⟩
  ·obtain⟨c',p,g1,g2,g3⟩:=hDin b h1; exact⟨c',p,.inr g1,g2,g3⟩
 have hlt:∀ b,Nof κ st G w b→b<w.heap.size:=fun b hb=>hb.lt h
 have hN:∀ b,Nof κ st G w b→Nof κ { s:=st.s,o:=updAll st.o (deadObjs D++[(c,some (sz,es'))]) } G' w' b:=by
  intro b hb
  refine⟨?_,fun hp=>hb.2 ?_⟩
  ·rcases hb.1 with h1 | h1
   ·exact .inl h1
   ·exact .inr (by rw[hsz]; exact h1)
  ·rcases hp with⟨r,h1,h2⟩ | ⟨k,p,h1,h2⟩
   ·exact .inl ⟨r,h1,h2⟩
   ·rcases hob k p h1 with⟨rfl,rfl⟩ | ⟨hk,hkD,ho⟩
    ·rw[hfpc] at h2
     obtain⟨c',p',_,g2,g3⟩:=hblk b h2
     exact .inr ⟨c',p',g2,g3⟩
    ·rw[hfpo k hk] at h2; exact .inr ⟨k,p,ho,h2⟩
 have hNw:∀ b,Nof κ st G w b→w'.heap[b]?=w.heap[b]?:=fun b hb=>hw b (fun hm=>hb.2 (.inr ⟨c,_,hc0,hm⟩))
 have hbw:∀ r,isBox (st.s r)=true→w'.heap[G.ad r]?=w.heap[G.ad r]?:=fun r hr=>hw _ (h.bo r c _ hr hc0)
 refine⟨G',⟨hos.trans h.keep.os,htape.trans h.keep.tape,hout.trans h.keep.output,by rw[hsz]; exact h.keep.size,fun k hk hkL=>(hw k (fun hm=>?_)).trans (h.keep.block k hk hkL)⟩,h.defers,h.nt,
  fun k=>(h.slots k).frame hN hNw (fun _ _=>rfl) (fun _ _=>rfl) (fun hb=>⟨rfl,hbw k hb⟩),?_,fun r hr=>(by rw[hsz]; exact h.boxes r hr),h.bb,?_,?_,h.held⟩
 ·rcases ((h.objs c _ _ hc0).2.2 k hm).1 with h1 | h1
  ·omega
  ·exact hkL h1
 ·intro k sz' es'' hk
  rcases hob k _ hk with⟨rfl,e⟩ | ⟨hkc,hkD,ho⟩
  ·cases e
   rw[hfpc]
   refine⟨RepC.frame hN (fun _ _=>rfl) _ _ _ (fun _ _=>rfl) hrep,hnd,fun b hb=>?_⟩
   obtain⟨c',p',_,g2,g3⟩:=hblk b hb
   rw[hsz]
   exact(h.objs c' p'.1 p'.2 g2).2.2 b g3
  ·rw[hfpo k hkc]
   obtain⟨g1,g2,g3⟩:=h.objs k sz' es'' ho
   exact⟨RepC.frame hN hNw _ _ _ (fun b hb=>hw b (h.oo k c _ _ ho hc0 hkc b hb)) g1,g2,by rw[hsz]; exact g3⟩
 ·intro r k p h1 h2 hm
  rcases hob k p h2 with⟨rfl,rfl⟩ | ⟨hkc,hkD,ho⟩
  ·rw[hfpc] at hm
   obtain⟨c',p',_,g2,g3⟩:=hblk _ hm
   exact h.bo r c' p' h1 g2 g3
  ·rw[hfpo k hkc] at hm; exact h.bo r k p h1 ho hm
 ·intro k k' p p' h1 h2 hne b hb1 hb2
  rcases hob k p h1 with⟨rfl,rfl⟩ | ⟨hkc,hkD,ho⟩<;>rcases hob k' p' h2 with⟨rfl,rfl⟩ | ⟨hkc',hkD',ho'⟩
  ·exact hne rfl
  ·rw[hfpc] at hb1; rw[hfpo k' hkc'] at hb2
   obtain⟨c',q,g1,g2,g3⟩:=hblk b hb1
   refine h.oo c' k' q p' g2 ho' (fun e=>?_) b g3 hb2
   rcases g1 with rfl | g1
   ·exact hkc' e.symm
   ·exact hkD' (e▸g1)
  ·rw[hfpc] at hb2; rw[hfpo k hkc] at hb1
   obtain⟨c',q,g1,g2,g3⟩:=hblk b hb2
   refine h.oo k c' p q ho g2 (fun e=>?_) b hb1 g3
   rcases g1 with rfl | g1
   ·exact hkc e
   ·exact hkD (e▸g1)
  ·rw[hfpo k hkc] at hb1; rw[hfpo k' hkc'] at hb2
   exact h.oo k k' p p' ho ho' hne b hb1 hb2

theorem vse_{P:Program}{nt:Nat}{o:Oper}{st:St}{c sz i off:Nat}{p:List Nat}{x y:Operand}{T T1 T2:TypeId}{es:List PV}{z:CV}(hop:o.op=.store T x y)(hdst:o.dst=none)
 (hx:ev P st T1 x=.eptr c sz i p off) (hc:st.o c=some (sz,es)) (hi:i<es.length) (hok:(es.getD i default).okp p=true) (hoff:(es.getD i default).offs p=off)
 (hy:ev P st T2 y=.val z) (hw:z.whole st.o=true) (hnd:(c::z.names).Nodup) (ht:TyIs P T z.isAgg z.size) (hs:z.size=((es.getD i default).at p).size) (hsz:((es.getD i default).setAt p (z.pvo st.o)).size=sz):
 Valid P nt o st { rs:=rd x++rd y,ro:=c::z.names,uo:=deadObjs z.names++[(c,some (sz,es.set i ((es.getD i default).setAt p (z.pvo st.o))))] }:=by
 intro κ st' a w hnt hsame _ hR next Q hnext
 obtain⟨G,hG⟩:=hR
 have h1:=ev_ok (P:=P) (T:=T1) hG x 0
 rw[ec_ (fun k hk=>hsame.1 k (by simp[hk])),hx] at h1
 obtain⟨b,n,cap,g1,g2⟩:=h1
 have h2:=ev_ok (P:=P) (T:=T2) hG y 0
 rw[ec_ (fun k hk=>hsame.1 k (by simp[hk])),hy] at h2
 have hzn:∀ n∈z.names,st'.o n=st.o n:=fun n hn=>hsame.2 n (by simp[hn])
 obtain⟨k1,_,k3⟩:=Cco_1 z hzn
 have hlive:∀ n∈z.names,(st'.o n).isSome=true:=Cnl_1 z (by rw[k1]; exact hw)
 have hzv:=CVal.own (ob:=st'.o) (fp:=G.fp) (fun c sz es hc=>(hG.objs c sz es hc).1) (by rw[k1]; exact hw) h2
 rw[k3] at hzv
 have hzc:=hzv.cells
 have hvsz:(a.eval y).cells.size=z.size:=by have:=RepCV.length _ _ (cc_ h2); simpa using this
 have hc':st'.o c=some (sz,es):=by rw[hsame.2 c (by simp)]; exact hc
 obtain⟨h4,h4n,h4l⟩:=hG.objs c sz es hc'
 simp only[RepC] at h4
 rcases h4 with⟨_,h4,_⟩ | ⟨b',cap',cc,e,F',ccs,f1,f2,f3,f4,f5,f6,f7,f8,f9⟩
 ·subst h4; simp at hi
 rw[g1] at f1
 simp at f1
 obtain⟨rfl,rfl,rfl⟩:=f1
 obtain⟨c1,c2,c3,F1,F2,F3,e1,e2,e3,e4,e5,e6⟩:=RCa_ es i ccs F' hi f8
 obtain⟨d1,d2,d3,H1,H2,H3,m1,m2,m3,m4,m5⟩:=RepC.path p _ c2 F2 hok e4
 rw[st_ f4 (by omega)] at e3
 have hall:cc.toList=(c1++d1)++d2++(d3++c3++cc.toList.drop (es.length*sz)):=by
  have:=List.take_append_drop (es.length*sz) cc.toList
  rw[f7,e1,m1] at this
  refine this.symm.trans ?_
  simp only[ba]
 have hheap:w.heap[b]?=some (.cells ((c1++d1)++d2++(d3++c3++cc.toList.drop (es.length*sz))).toArray e (0,0)):=by rw[← hall]; simpa using f5
 have hd2:d2.length=(a.eval y).cells.size:=by rw[RepC.length _ _ _ m4,hvsz,hs]
 have hstore:=rsV_ (P:=P) (T:=T) (agg:=z.isAgg) (v:=a.eval y) (off:=i*sz+off) (by rw[hvsz]; exact ht) hheap (by rw[aY,e3,m3,hoff]) hd2 (RepCV.one _ _ (cc_ h2))
 let w':=w.setRow b ((c1++d1)++(a.eval y).cells.toList++(d3++c3++cc.toList.drop (es.length*sz))).toArray
 have hrun:(execOp a.eval o).run P w=.ok .skip w':=by
  simp[execOp,hop,g2,Instr.storeAt,Instr.sureAddr,hstore,w']
 unfold Oper.wp
 rw[hrun]
 simp only[Oper.upon]
 rw[hdst,apn_]
 refine hnext _ _ ?_
 -- the new state
 have hw'sz:w'.heap.size=w.heap.size:=by simp[w',World.setRow]
 have hother:∀ k,k≠b→w'.heap[k]?=w.heap[k]?:=fun k hk=>setRow_other w _ _ _ hk
 have hbfp:b∈G.fp c:=by rw[f9]; simp
 have hcz:c∉z.names:=(List.nodup_cons.1 hnd).1
 have hznd:=(List.nodup_cons.1 hnd).2
 have hNb:∀ k,Nof κ st' G w k→k≠b:=fun k hk e=>hk.2 (.inr ⟨c,_,hc',e▸hbfp⟩)
 have hNw:∀ k,Nof κ st' G w k→w'.heap[k]?=w.heap[k]?:=fun k hk=>hother k (hNb k hk)
 have hfpz:∀ k∈fps G.fp z.names,k∉G.fp c:=by
  intro k hk hm
  obtain⟨c',g1',g2'⟩:=mf_.1 hk
  obtain⟨p',hp'⟩:=Option.isSome_iff_exists.1 (hlive c' g1')
  exact hG.oo c' c p' _ hp' hc' (fun e=>hcz (e▸g1')) k g2' hm
 have hfz:∀ k∈fps G.fp z.names,w'.heap[k]?=w.heap[k]?:=fun k hk=>hother k (fun e=>hfpz k hk (e▸hbfp))
 rw[f9] at h4n
 have hn1:=List.nodup_cons.1 h4n
 have hF':∀ k∈F',w'.heap[k]?=w.heap[k]?:=fun k hk=>hother k (fun e=>hn1.1 (e▸hk))
 have hz':=RepC.frame (w':=w') (fun _ h=>h) hNw _ _ _ hfz hzc
 have hel:=m5 _ w' (fun _ h=>h) hNw (fun k hk=>hF' k (by
  rw[e2,m2]; rcases List.mem_append.1 hk with hk | hk
  ·simp[hk]
  ·simp[hk])) _ _ _ hz'
 have hl1:RepCs (Nof κ st' G w) w' (es.take i) c1 F1:=RepCs.frame (fun _ h=>h) hNw _ _ _ (fun k hk=>hF' k (by rw[e2]; simp[hk])) e5
 have hl3:RepCs (Nof κ st' G w) w' (es.drop (i+1)) c3 F3:=RepCs.frame (fun _ h=>h) hNw _ _ _ (fun k hk=>hF' k (by rw[e2]; simp[hk])) e6
 have hmid:RepCs (Nof κ st' G w) w' ((es.getD i default).setAt p (z.pvo st.o)::es.drop (i+1)) ((d1++(a.eval y).cells.toList++d3)++c3) ((H1++fps G.fp z.names++H3)++F3):=by
  simp only[RepCs]; exact⟨_,_,_,_,rfl,rfl,hel,hl3⟩
 have hwhole:=RepCs.append _ _ _ _ _ _ hl1 hmid
 rw[← set_eq hi] at hwhole
 have hlen2:(a.eval y).cells.toList.length=d2.length:=by rw[hd2]; simp
 have htot:((c1++d1)++d2++(d3++c3)).length=es.length*sz:=by
  have:=RepCs.length _ _ _ f8
  rw[Psc_ f4,e1,m1] at this
  rw[← this]; simp[Nat.add_assoc]
 have hccsz:((c1++d1)++(a.eval y).cells.toList++(d3++c3++cc.toList.drop (es.length*sz))).length=cap*sz:=by
  have h':=congrArg List.length hall
  simp only[aY] at h' htot ⊢
  rw[hlen2]
  have:cc.toList.length=cap*sz:=by rw[← f6]; simp
  omega
 have hfst:(F1++(H1++fps G.fp z.names++H3++F3)).Nodup∧b∉F1++(H1++fps G.fp z.names++H3++F3):=by
  have hzn':=fn_1 hG z.names hznd hlive
  have hsub:∀ k,k∈F1++(H1++H3++F3)→k∈F':=by
   intro k hk; rw[e2,m2]; simp only[List.mem_append] at hk ⊢
   rcases hk with hk | (hk | hk) | hk<;>simp[hk]
  have hnd':(F1++(H1++H3++F3)).Nodup:=by
   have h0:=hn1.2
   rw[e2,m2] at h0
   refine List.Sublist.nodup ?_ h0
   simp only[ba]
   exact List.Sublist.append_left (List.Sublist.append_left (List.sublist_append_right _ _) _) _
  have hdis:∀ k∈fps G.fp z.names,k∉F1++(H1++H3++F3):=fun k hk hm=>hfpz k hk (by rw[f9]; exact List.mem_cons_of_mem _ (hsub k hm))
  have hperm:(F1++(H1++fps G.fp z.names++H3++F3)).Perm (fps G.fp z.names++(F1++(H1++H3++F3))):=by
   simp only[ba]
   have p1:(H1++(fps G.fp z.names++(H3++F3))).Perm (fps G.fp z.names++(H1++(H3++F3))):=by
    rw[← ba,← ba (fps G.fp z.names)]; exact List.perm_append_comm.append_right _
   refine(List.Perm.append_left F1 p1).trans ?_
   rw[← ba,← ba (fps G.fp z.names)]
   exact List.perm_append_comm.append_right _
  refine⟨hperm.nodup_iff.2 (List.nodup_append.2 ⟨hzn',hnd',fun k hk k' hk' e=>hdis k hk (e▸hk')⟩),fun hm=>?_⟩
  rcases List.mem_append.1 (hperm.mem_iff.1 hm) with hm | hm
  ·exact hfpz b hm hbfp
  ·exact hn1.1 (hsub b hm)
 have:=RsO_ (w':=w') (c:=c) (sz:=sz) (es':=es.set i ((es.getD i default).setAt p (z.pvo st.o))) (D:=z.names) (fc':=b::(F1++(H1++fps G.fp z.names++H3++F3))) hG (by simp[hc']) hcz hlive rfl rfl rfl hw'sz (fun k hk=>hother k (fun e=>hk (e▸hbfp))) (by
  simp only[RepC]
  refine .inr ⟨b,cap,_,e,_,c1++(d1++(a.eval y).cells.toList++d3++c3),by rw[g1,List.length_set],by rw[List.length_set]; exact f2,f3,?_,setRow_heap w _ _ _ _ _ hheap,by simpa using hccsz,?_,hwhole,rfl⟩
  ·intro q hq
   rcases List.mem_or_eq_of_mem_set hq with hq | rfl
   ·exact f4 q hq
   ·exact hsz
  ·rw[List.length_set]
   have e8:(c1++d1++(a.eval y).cells.toList++(d3++c3++cc.toList.drop (es.length*sz)))=(c1++(d1++(a.eval y).cells.toList++d3++c3))++cc.toList.drop (es.length*sz):=by simp[ba]
   have e9:es.length*sz=(c1++(d1++(a.eval y).cells.toList++d3++c3)).length:=by
    rw[← htot]; simp only[aY,hlen2]; omega
   simp only[List.toList_toArray]
   rw[e8]
   conv=>lhs; rw[e9]
   exact List.take_left) (List.nodup_cons.2 ⟨hfst.2,hfst.1⟩) (by
  intro k hk
  rcases List.mem_cons.1 hk with rfl | hk
  ·exact .inl hbfp
  ·simp only[List.mem_append] at hk
   rw[f9,e2,m2]
   rcases hk with hk | ((hk | hk) | hk) | hk
   ·left; simp[hk]
   ·left; simp[hk]
   ·exact .inr hk
   ·left; simp[hk]
   ·left; simp[hk])
 simpa[St.app,updAll] using this
end Go.Av
