/- A part of the proof: lemmas only; nothing is claimed here beyond what each lemma says. -/
/- Structs compared; slices compared with nil; a nil slice measured, cut and grown. -/
import Derived.Test.YtkoghcphkdecoaaGreatAv6u
import Derived.Lib.AppendZerosOnto
set_option linter.unusedSimpArgs false
set_option linter.unusedVariables false
set_option linter.defProp false
namespace Go.Av
open Bool renaming and_eq_true→aD
inductive Kd where
 | int (k:IntKind)
 | bool
 | str
 deriving DecidableEq
def kdB:Option TypeDesc→Option Kd→Bool
 | some (.int k),some (.int k')=>decide (k=k')
 | some .bool,some .bool=>true
 | some .string,some .str=>true
 | _,_=>false
def fB_(P:Program):List Field→List (Option Kd)→Nat→Bool
 | [],[],_=>true
 | f::fs,k::ks,off=>f.name != "_"&&f.offset==off&&kdB (P.underlying f.type) k&&fB_ P fs ks (off+1)
 | _,_,_=>false
def eqSB(P:Program)(T:TypeId)(ks:List (Option Kd)):Bool:=
 match P.underlying T with
 | some (.struct fs)=>!(P.stoodInHeld T)&&!(P.eqGuardType P.depth T)&&fB_ P fs.toList ks 0
 | _=>false
def EqS(P:Program)(T:TypeId)(ks:List (Option Kd)):Prop:=eqSB P T ks=true
def kdOf:PV→Option Kd
 | .lit (.int k _)=>some (.int k)
 | .lit (.bool _)=>some .bool
 | .lit (.string _)=>some .str
 | _=>none
def kdsOf:List PV→List (Option Kd)
 | []=>[]
 | p::ps=>kdOf p::kdsOf ps
def eqPV:PV→PV→Bool
 | .lit (.int _ a),.lit (.int _ b)=>decide (a=b)
 | .lit (.bool a),.lit (.bool b)=>a==b
 | .lit (.string a),.lit (.string b)=>decide (a=b)
 | _,_=>false
def eqPVs:List PV→List PV→Bool
 | [],[]=>true
 | [x],[y]=>eqPV x y
 | x::x'::xs,y::y'::ys=>eqPV x y&&eqPVs (x'::xs) (y'::ys)
 | _,_=>false
theorem ePs_3(x y:PV):∀ (xs ys:List PV),xs.length=ys.length→eqPVs (x::xs) (y::ys)=(eqPV x y&&eqPVs xs ys)
 | [],[],_=>by simp[eqPVs]
 | _::_,_::_,_=>by simp[eqPVs]
theorem pl_1{P:Program}{w:World}{t:TypeId}{cs:Array Value}{off:Nat}{v:Value}{k:Option Kd}(hk:kdB (P.underlying t) k=true)(hv:cs[off]?=some v):(part t cs off).run P w=.ok v w:=by
 have ha:(isAgg t).run P w=.ok false w:=by
  cases hu:P.underlying t with
  | none=>rw[hu] at hk; simp[kdB] at hk
  | some d=>
   rw[hu] at hk
   simp only[isAgg,Sem.run_bind,run_underlying hu,Result.andThen_ok]
   cases d<;>first | rfl | (simp[kdB] at hk)
 simp[part,ha,hv]
theorem eIl_{P:Program}{w:World}{t:TypeId}{d:Nat}{p q:PV}{k:Option Kd}{u v:Value}(hk:kdB (P.underlying t) k=true)(hp:kdOf p=k)(hq:kdOf q=k)(hu:p=.lit u)(hv:q=.lit v):(Op.equalIn (d+1) t u v).run P w=.ok (eqPV p q) w:=by
 subst hu; subst hv
 cases hd:P.underlying t with
 | none=>rw[hd] at hk; simp[kdB] at hk
 | some D=>
  rw[hd] at hk
  cases k with
  | none=>cases D<;>simp[kdB] at hk
  | some k=>
   cases u<;>simp[kdOf] at hp<;>subst hp<;>cases v<;>simp[kdOf] at hq<;>cases D<;>simp[kdB] at hk
   ·simp[Op.equalIn,run_underlying hd,eqPV]
   ·subst hk; subst hq; simp[Op.equalIn,run_underlying hd,eqPV,BEq.beq]
   ·simp[Op.equalIn,run_underlying hd,eqPV]
    exact db_ _ _
theorem kOl_{p:PV}{k:Kd}(h:kdOf p=some k):∃ v,p=.lit v∧v.oneCell'=true:=by
 cases p with
 | lit v=>cases v<;>simp[kdOf] at h<;>exact⟨_,rfl,rfl⟩
 | _=>simp[kdOf] at h
theorem kBs_{D:Option TypeDesc}{k:Option Kd}(h:kdB D k=true):∃ k',k=some k':=by
 cases k with
 | none=>cases D with
  | none=>simp[kdB] at h
  | some D=>cases D<;>simp[kdB] at h
 | some k=>exact⟨k,rfl⟩
theorem ef_{P:Program}{w:World}{d:Nat}{xs ys:Array Value}:∀ (fs:List Field) (ps qs:List PV) (off:Nat),fB_ P fs (kdsOf ps) off=true→kdsOf ps=kdsOf qs→
 (∀ (i:Nat) (p:PV),ps[i]?=some p→∃ v,p=.lit v∧xs[off+i]?=some v)→(∀ (i:Nat) (q:PV),qs[i]?=some q→∃ v,q=.lit v∧ys[off+i]?=some v)→
 (forIn fs ((none,()):Option Bool×Unit) fun f __s=>
  (if f.name≠ "_" then do
   let __do_lift ← part f.type xs f.offset
   let __do_lift_1 ← part f.type ys f.offset
   let __do_lift ← Op.equalIn (d+1) f.type __do_lift __do_lift_1
   if (!__do_lift)=true then pure (ForInStep.done (some false,())) else pure (ForInStep.yield (none,()))
  else pure (ForInStep.yield (none,())):Sem (ForInStep (Option Bool×Unit)))).run P w=.ok (if eqPVs ps qs then(none,()) else(some false,())) w
 | [],[],[],off,_,_,_,_=>by simp[eqPVs]
 | [],[],q::qs,off,_,h2,_,_=>by simp[kdsOf] at h2
 | [],p::ps,qs,off,h,_,_,_=>by simp[kdsOf,fB_] at h
 | f::fs,[],qs,off,h,_,_,_=>by simp[kdsOf,fB_] at h
 | f::fs,p::ps,[],off,_,h2,_,_=>by simp[kdsOf] at h2
 | f::fs,p::ps,q::qs,off,h1,h2,h3,h4=>by
  simp only[kdsOf,fB_,aD,bne_iff_ne,beq_iff_eq] at h1
  obtain⟨⟨⟨a1,a2⟩,a3⟩,a4⟩:=h1
  simp only[kdsOf,List.cons.injEq] at h2
  obtain⟨b1,b2⟩:=h2
  obtain⟨u,hu,hu'⟩:=h3 0 p rfl
  obtain⟨v,hv,hv'⟩:=h4 0 q rfl
  have hlen:ps.length=qs.length:=by
   have:∀ l:List PV,(kdsOf l).length=l.length:=by intro l; induction l with | nil=>rfl | cons a l ih=>simp[kdsOf,ih]
   rw[← this ps,b2,this]
  have ih:=ef_ (w:=w) (d:=d) fs ps qs (off+1) a4 b2 (fun i p hp=>by have:=h3 (i+1) p (by simpa using hp); simpa[Nat.add_assoc,Nat.add_comm 1 i] using this) (fun i q hq=>by have:=h4 (i+1) q (by simpa using hq); simpa[Nat.add_assoc,Nat.add_comm 1 i] using this)
  rw[List.forIn_cons,Sem.run_bind]
  simp only[Nat.add_zero] at hu' hv'
  have he:=eIl_ (w:=w) (d:=d) a3 rfl b1.symm hu hv
  simp only[ne_eq,a1,not_false_eq_true,if_true,Sem.run_bind,a2,pl_1 a3 hu',pl_1 a3 hv',Result.andThen_ok,he]
  rw[ePs_3 p q ps qs hlen]
  cases eqPV p q with
  | true=>simp only[Bool.not_true,Bool.false_eq_true,if_false,Sem.run_pure,Result.andThen_ok,Bool.true_and]; exact ih
  | false=>simp only[Bool.not_false,if_true,Sem.run_pure,Result.andThen_ok,Bool.false_and,Bool.false_eq_true,if_false]
theorem res_{P:Program}{w:World}{T:TypeId}{ps qs:List PV}{xs ys:List Value}(h:EqS P T (kdsOf ps))(hk:kdsOf ps=kdsOf qs)
 (hx:∀ (i:Nat) (p:PV),ps[i]?=some p→∃ v,p=.lit v∧xs[i]?=some v) (hy:∀ (i:Nat) (q:PV),qs[i]?=some q→∃ v,q=.lit v∧ys[i]?=some v) (d:Nat):(Op.equalIn (d+2) T (.agg xs.toArray) (.agg ys.toArray)).run P w=.ok (eqPVs ps qs) w:=by
 unfold EqS eqSB at h
 split at h
 ·rename_i fs hu
  simp only[aD,Bool.not_eq_true'] at h
  obtain⟨⟨h1,_⟩,h3⟩:=h
  rw[Op.equalIn]
  simp only[Sem.run_bind,run_underlying hu,Result.andThen_ok,run_program,h1,Bool.false_eq_true,if_false]
  have:=ef_ (w:=w) (d:=d) (xs:=xs.toArray) (ys:=ys.toArray) fs.toList ps qs 0 h3 hk (by simpa using hx) (by simpa using hy)
  rw[← Array.forIn_toList,this,Result.andThen_ok]
  cases eqPVs ps qs<;>simp
 ·cases h
theorem rCw_{N:Nat→Prop}{w:World}:∀ (ps:List PV) (cs:List Value) (F:List Nat),RepCs N w ps cs F→(∀ p∈ps,∃ k,kdOf p=some k)→∀ (i:Nat) (p:PV),ps[i]?=some p→∃ v,p=.lit v∧cs[i]?=some v
 | [],cs,F,_,_,i,p,hp=>by simp at hp
 | q::ps,cs,F,h,hk,i,p,hp=>by
  simp only[RepCs] at h
  obtain⟨c1,c2,F1,F2,rfl,rfl,h1,h2⟩:=h
  obtain⟨k,hq⟩:=hk q (by simp)
  obtain⟨v,rfl,_⟩:=kOl_ hq
  simp only[RepC] at h1
  obtain⟨rfl,_,_⟩:=h1
  cases i with
  | zero=>simp at hp; subst hp; exact⟨v,rfl,by simp⟩
  | succ i=>
   obtain⟨u,e1,e2⟩:=rCw_ ps c2 F2 h2 (fun p hp=>hk p (by simp[hp])) i p (by simpa using hp)
   exact⟨u,e1,by simpa using e2⟩
theorem fBk_{P:Program}:∀ (fs:List Field) (ps:List PV) (off:Nat),fB_ P fs (kdsOf ps) off=true→∀ p∈ps,∃ k,kdOf p=some k
 | [],[],_,_,p,hp=>by simp at hp
 | [],_::_,_,h,_,_=>by simp[kdsOf,fB_] at h
 | _::_,[],_,h,_,_=>by simp[kdsOf,fB_] at h
 | f::fs,q::ps,off,h,p,hp=>by
  simp only[kdsOf,fB_,aD] at h
  rcases List.mem_cons.1 hp with rfl | hp
  ·exact kBs_ h.1.2
  ·exact fBk_ fs ps _ h.2 p hp
theorem EqS.kd{P:Program}{T:TypeId}{ps:List PV}(h:EqS P T (kdsOf ps)):∀ p∈ps,∃ k,kdOf p=some k:=by
 unfold EqS eqSB at h
 split at h
 ·simp only[aD] at h; exact fBk_ _ _ _ h.2
 ·cases h
theorem EqS.guard{P:Program}{T:TypeId}{ks:List (Option Kd)}(h:EqS P T ks):P.eqGuardType P.depth T=false:=by
 unfold EqS eqSB at h
 split at h
 ·simp only[aD,Bool.not_eq_true'] at h; exact h.1.2
 ·cases h
theorem ks_{ps qs:List PV}(h:kdsOf ps=kdsOf qs)(hp:∀ p∈ps,∃ k,kdOf p=some k):∀ q∈qs,∃ k,kdOf q=some k:=by
 induction ps generalizing qs with
 | nil=>cases qs with
  | nil=>simp
  | cons q qs=>simp[kdsOf] at h
 | cons p ps ih=>
  cases qs with
  | nil=>simp
  | cons q qs=>
   simp only[kdsOf,List.cons.injEq] at h
   intro r hr
   rcases List.mem_cons.1 hr with rfl | hr
   ·obtain⟨k,hk⟩:=hp p (by simp); exact⟨k,by rw[← h.1]; exact hk⟩
   ·exact ih h.2 (fun p hp'=>hp p (by simp[hp'])) r hr
theorem ves_{P:Program}{nt:Nat}{o:Oper}{st:St}{d:Nat}{x y:Operand}{T T1 T2 U:TypeId}{ps qs:List PV}{neg:Bool}(hop:o.op=.binOp (if neg then .neq else .eql) T x y U)(hdst:o.dst=some d)(hd:d<nt)
 (hx:ev P st T1 x=.val (.pv (.agg ps))) (hy:ev P st T2 y=.val (.pv (.agg qs))) (h:EqS P T (kdsOf ps)) (hk:kdsOf ps=kdsOf qs):
 Valid P nt o st { rs:=rd x++rd y,us:=[(d,.val (.pv (.lit (.bool (if neg then !eqPVs ps qs else eqPVs ps qs)))))] }:=by
 refine vp_ hdst hd rfl ?_
 intro κ G st' a w _ hsame hG
 have hvx:=ev_ok (P:=P) (T:=T1) hG x d
 rw[ec_ (fun k hk=>hsame.1 k (by simp[hk])),hx] at hvx
 have hvy:=ev_ok (P:=P) (T:=T2) hG y d
 rw[ec_ (fun k hk=>hsame.1 k (by simp[hk])),hy] at hvy
 rcases hvx.symm with⟨h1,_⟩ | ⟨_,cs,e1,r1⟩
 ·simp[CV.isAgg] at h1
 rcases hvy.symm with⟨h1,_⟩ | ⟨_,ds,e2,r2⟩
 ·simp[CV.isAgg] at h1
 simp only[RepCV,RepC] at r1 r2
 have hq:=res_ (w:=w) h hk (rCw_ _ _ _ r1 h.kd) (rCw_ _ _ _ r2 (ks_ hk h.kd)) 9998
 have hg:(eqGuard (if neg then .neq else .eql) T x y (.agg cs.toArray) (.agg ds.toArray)).run P w=.ok () w:=by
  cases neg<;>simp[eqGuard,h.guard]
 refine⟨.bool (if neg then !eqPVs ps qs else eqPVs ps qs),?_,sOl_ rfl⟩
 have hq':(Op.equal T (.agg cs.toArray) (.agg ds.toArray)).run P w=.ok (eqPVs ps qs) w:=hq
 cases neg with
 | true=>
  simp only[if_true] at hop hg ⊢
  simp only[execOp,hop,Sem.run_bind,e1,e2,hg,Result.andThen_ok]
  simp[binOp,hq']
 | false=>
  simp only[Bool.false_eq_true,if_false] at hop hg ⊢
  simp only[execOp,hop,Sem.run_bind,e1,e2,hg,Result.andThen_ok]
  simp[binOp,hq']

def nilQ(es:List PV)(t:Bool)(v:Value):Prop:=∃ b,v=.bool b∧(b=t→es=[])
def IsSl(P:Program)(T:TypeId):Prop:=∃ e,P.underlying T=some (.slice e)
theorem sn_2{N:Nat→Prop}{w:World}{G:Gh}{k sz:Nat}{v:Value}(h:SlotOk N w G k v (.val (.pv (.sl true sz [])))):v=.slice none 0 0:=by
 rcases h with⟨h1,_⟩ | ⟨_,h1,_⟩
 ·simp[CV.isAgg] at h1
 ·have:=nil_rep0 h1
  exact this
where
 nil_rep0 {N:Nat→Prop} {w:World} {hd:Nat→Value} {sz:Nat} {v:Value} (h:RepCV N w hd (.pv (.sl true sz [])) [v]):v=.slice none 0 0:=by
  simp only[RepCV,RepC] at h
  rcases h with⟨h,_⟩ | ⟨b,cap,c,e,F',ccs,_,_,_,_,_,_,_,_,h⟩
  ·simpa using h
  ·cases h
theorem rn_2{P:Program}{w:World}{T:TypeId}(hT:IsSl P T)(a:Option Addr)(n cap:Nat):(Op.equal T (.slice a n cap) (.slice none 0 0)).run P w=.ok a.isNone w:=by
 obtain⟨e,hT⟩:=hT
 show(Op.equalIn (9999+1) T _ _).run P w=_
 rw[Op.equalIn]
 simp only[Sem.run_bind,run_underlying hT,Result.andThen_ok]
 cases a<;>simp
theorem vn_{P:Program}{nt:Nat}{o:Oper}{st:St}{d sz:Nat}{x y:Operand}{T T2 U:TypeId}{ro:List Nat}{es:List PV}{neg:Bool}(hop:o.op=.binOp (if neg then .neq else .eql) T x y U)(hdst:o.dst=some d)(hd:d<nt)(hT:IsSl P T)
 (hx:∀ κ G st' a w,Rec.same { rs:=rd x++rd y,ro:=ro } st st'→RG κ G st' a w→∃ ax cap,a.eval x=.slice ax es.length cap∧(ax=none→es=[]))
 (hy:ev P st T2 y=.val (.pv (.sl true sz []))):
 Valid P nt o st { rs:=rd x++rd y,ro:=ro,us:=[(d,.ex (nilQ es (!neg)))] }:=by
 refine vp_ hdst hd rfl ?_
 intro κ G st' a w _ hsame hG
 obtain⟨ax,cap,e1,e2⟩:=hx κ G st' a w hsame hG
 have hvy:=ev_ok (P:=P) (T:=T2) hG y d
 rw[ec_ (fun k hk=>hsame.1 k (by simp[hk])),hy] at hvy
 have e3:=sn_2 hvy
 have hq:=rn_2 (w:=w) hT ax es.length cap
 refine⟨.bool (if neg then !ax.isNone else ax.isNone),?_,?_⟩
 ·have hg:∀ op,(eqGuard op T x y (.slice ax es.length cap) (.slice none 0 0)).run P w=.ok () w:=by
   intro op; cases op<;>simp[eqGuard]
  cases neg with
  | true=>
   simp only[if_true] at hop ⊢
   simp only[execOp,hop,Sem.run_bind,e1,e3,hg,Result.andThen_ok]
   simp[binOp,hq]
  | false=>
   simp only[Bool.false_eq_true,if_false] at hop ⊢
   simp only[execOp,hop,Sem.run_bind,e1,e3,hg,Result.andThen_ok]
   simp[binOp,hq]
 ·refine⟨_,rfl,fun h=>e2 ?_⟩
  cases neg<;>cases ax<;>simp at h ⊢
theorem vnv_{P:Program}{nt:Nat}{o:Oper}{st:St}{d sz sz':Nat}{x y:Operand}{T T1 T2 U:TypeId}{b:Bool}{es:List PV}{neg:Bool}(hop:o.op=.binOp (if neg then .neq else .eql) T x y U)(hdst:o.dst=some d)(hd:d<nt)(hT:IsSl P T)
 (hx:ev P st T1 x=.val (.pv (.sl b sz' es))) (hy:ev P st T2 y=.val (.pv (.sl true sz []))):Valid P nt o st { rs:=rd x++rd y,us:=[(d,.ex (nilQ es (!neg)))] }:=by
 refine vn_ (ro:=[]) hop hdst hd hT ?_ hy
 intro κ G st' a w hsame hG
 have h1:=ev_ok (P:=P) (T:=T1) hG x d
 rw[ec_ (fun k hk=>hsame.1 k (by simp[hk])),hx] at h1
 rcases h1 with⟨h1,_⟩ | ⟨_,h1,_⟩
 ·simp[CV.isAgg] at h1
 simp only[RepCV] at h1
 cases b with
 | false=>
  simp only[RepC] at h1
  obtain⟨ax,cap,g1,_,_,_,_,g6⟩:=h1
  simp at g1
  exact⟨ax,cap,g1,fun e=>by rcases g6 with g6 | ⟨ad,ccs,g,_⟩; exact g6; rw[e] at g; cases g⟩
 | true=>
  simp only[RepC] at h1
  rcases h1 with⟨g1,g2,_⟩ | ⟨b,cap,c,e,F',ccs,_,_,_,_,_,_,_,_,h9⟩
  ·simp at g1; subst g2
   exact⟨none,0,g1,fun _=>rfl⟩
  ·simp at h9
theorem vno_{P:Program}{nt:Nat}{o:Oper}{st:St}{d sz sz' c:Nat}{x y:Operand}{T T1 T2 U:TypeId}{es:List PV}{neg:Bool}(hop:o.op=.binOp (if neg then .neq else .eql) T x y U)(hdst:o.dst=some d)(hd:d<nt)(hT:IsSl P T)
 (hx:ev P st T1 x=.val (.own c)) (ho:st.o c=some (sz',es)) (hy:ev P st T2 y=.val (.pv (.sl true sz []))):Valid P nt o st { rs:=rd x++rd y,ro:=[c],us:=[(d,.ex (nilQ es (!neg)))] }:=by
 refine vn_ hop hdst hd hT ?_ hy
 intro κ G st' a w hsame hG
 have h1:=ev_ok (P:=P) (T:=T1) hG x d
 rw[ec_ (fun k hk=>hsame.1 k (by simp[hk])),hx] at h1
 have hv:=sOo_ h1
 have ho':st'.o c=some (sz',es):=by rw[hsame.2 c (by simp)]; exact ho
 have h2:=(hG.objs c sz' es ho').1
 simp only[RepC] at h2
 rcases h2 with⟨h2,h3,_⟩ | ⟨b,cap,cc,e,F',ccs,h2,_⟩
 ·simp at h2; exact⟨none,0,by rw[hv,h2,h3]; rfl,fun _=>h3⟩
 ·simp at h2; exact⟨_,cap,by rw[hv,h2],fun e=>by cases e⟩
theorem vcn_{P:Program}{nt:Nat}{o:Oper}{st:St}{d sz:Nat}{x:Operand}{T T1:TypeId}(hop:o.op=.call { callee:=.builtin .cap,args:=#[x],argTypes:=#[T] })(hdst:o.dst=some d)(hd:d<nt)(hT:IsSl P T)
 (hx:ev P st T1 x=.val (.pv (.sl true sz []))):Valid P nt o st { rs:=rd x,us:=[(d,.val (.pv (.lit (.int .i64 0))))] }:=by
 refine vp_ hdst hd rfl ?_
 intro κ G st' a w _ hsame hG
 have h1:=ev_ok (P:=P) (T:=T1) hG x d
 rw[ec_ hsame.1,hx] at h1
 have e:=sn_2 h1
 obtain⟨el,hT⟩:=hT
 exact⟨.int .i64 0,by simp[execOp,hop,resolve,invoke,builtin,Builtin.cap_,run_underlying hT,e,goInt],sOl_ rfl⟩
theorem vsn_{P:Program}{nt:Nat}{o:Oper}{st:St}{d sz sz' bytes:Nat}{x:Operand}{lo hi:Option Operand}{T T1:TypeId}(hop:o.op=.slice T x lo hi none)(hdst:o.dst=some d)(hd:d<nt)
 (hT:SlIs P T sz' bytes) (hx:ev P st T1 x=.val (.pv (.sl true sz []))) (hlo:OptIs P st 0 0 lo) (hhi:OptIs P st 0 0 hi):
 Valid P nt o st { rs:=rd x++(lo.toList.flatMap rd++hi.toList.flatMap rd),us:=[(d,.val (.pv (.sl true sz [])))] }:=by
 refine vp_ hdst hd rfl ?_
 intro κ G st' a w _ hsame hG
 obtain⟨e,i,z,t1,t2,t3,_⟩:=hT
 have h1:=ev_ok (P:=P) (T:=T1) hG x d
 rw[ec_ (fun k hk=>hsame.1 k (by simp[hk])),hx] at h1
 have hv:=sn_2 h1
 have elo:∃ lv:Option Value,lo.map a.eval=lv∧(match lv with | none=>True | some v=>∃ k,v=.int k 0):=by
  cases lo with
  | none=>exact⟨none,rfl,trivial⟩
  | some y=>
   obtain⟨k,n,e1,rfl⟩:=hlo
   exact⟨_,rfl,k,ev_lit hG e1 (fun k hk=>hsame.1 k (by simp[hk]))⟩
 have ehi:∃ hv:Option Value,hi.map a.eval=hv∧(match hv with | none=>True | some v=>∃ k,v=.int k 0):=by
  cases hi with
  | none=>exact⟨none,rfl,trivial⟩
  | some y=>
   obtain⟨k,n,e1,rfl⟩:=hhi
   exact⟨_,rfl,k,ev_lit hG e1 (fun k hk=>hsame.1 k (by simp[hk]))⟩
 obtain⟨lv,e1,e2⟩:=elo
 obtain⟨hw,e3,e4⟩:=ehi
 have hlb:(Instr.sliceBounds true 0 0 lv hw none).run P w=.ok (0,0,0) w:=by
  cases lv with
  | none=>
   cases hw with
   | none=>simp[Instr.sliceBounds]
   | some v=>obtain⟨k,rfl⟩:=e4; simp[Instr.sliceBounds,Instr.sliceBound,asIntOf]
  | some u=>
   obtain⟨k',rfl⟩:=e2
   cases hw with
   | none=>simp[Instr.sliceBounds,Instr.sliceBound,asIntOf]
   | some v=>obtain⟨k,rfl⟩:=e4; simp[Instr.sliceBounds,Instr.sliceBound,asIntOf]
 refine⟨.slice none 0 0,?_,.inr ⟨rfl,by simp[RepCV,RepC],rfl⟩⟩
 simp[execOp,hop,Instr.sliceAt,run_underlying t1,Instr.slice,hv,e1,e3,hlb,sizeOf,typeInfo,t2,t3]
theorem zCt_{z:Array Value}(hz:0<z.size)(n:Nat):(Builtin.zeroCells z n).toList=(List.replicate n z.toList).flatten:=by
 rw[← mCe_ hz n]
 simp[Builtin.zeroCells,madeCells]
theorem vaz_{P:Program}{nt:Nat}{o:Oper}{st:St}{d c sz sz' bytes:Nat}{T T' T1 T2:TypeId}{x y:Operand}{k kn:IntKind}{n:Int}{p:PV}(hop:o.op=.call { callee:=.builtin .append,args:=#[x,y],argTypes:=#[T,T'] })(hdst:o.dst=some d)(hd:d<nt)
 (hT:SlIs P T sz bytes) (hT':P.underlying T'=some (.int kn)) (hz:ElemZero P T p) (hp:p.size=sz) (hx:ev P st T1 x=.val (.pv (.sl true sz' []))) (hy:ev P st T2 y=.val (.pv (.lit (.int k n)))) (h0:0<n) (hm:n≤1073741824) (hb:bytes≤65536):
 Valid P nt o st { rs:=rd x++rd y,fc:=(rO_ (.sl true sz (List.replicate n.toNat p)) c).map (·.1),us:=[(d,resSV (.sl true sz (List.replicate n.toNat p)) c)],uo:=deadObjs []++newObjs (rO_ (.sl true sz (List.replicate n.toNat p)) c) }:=by
 refine vr_ hdst hd (by simp) (by simp) ?_
 intro κ G st' a w hnt hsame hG
 obtain⟨e,i,z,h1,h2,h3,h4,h5,h6,h7⟩:=hT
 obtain⟨e',h1',i',z',g1,g2,g3⟩:=hz
 rw[h1] at h1'; cases h1'
 rw[h2] at g1; cases g1
 rw[h5] at g2; cases g2
 have hvx:=ev_ok (P:=P) (T:=T1) hG x d
 rw[ec_ (fun k hk=>hsame.1 k (by simp[hk])),hx] at hvx
 have e1:=sn_2 hvx
 have e2:=ev_lit hG hy (fun k hk=>hsame.1 k (by simp[hk]))
 obtain⟨m,rfl⟩:∃ m:Nat,n=m:=⟨n.toNat,by omega⟩
 simp only[Int.toNat_natCast]
 have hbig:m*i.bytes≤70368744177664:=by
  rw[h4]
  calc m*bytes≤1073741824*65536:=Nat.mul_le_mul (by omega) hb
   _≤70368744177664:=by omega
 have hrun:=Lib.run_append_grow_zeros (P:=P) w T T' o.type e i z k kn h1 hT' h2 h5 none 0 0 [] (by simp[Builtin.firstCells]) m (by omega) (by omega) (by omega) (by omega) (by omega) (growslice_fits (by omega) (by rw[Nat.zero_add]; omega))
 have hzc:RepC (Nof κ st' G w) w p z.cells.toList []:=by
  have:=cc_ (g3 (Nof κ st' G w) w G.hd)
  simpa[RepCV] using this
 have hl:(List.replicate m p).length=m:=by simp
 have hcap:=grownCap_le_maxLen w.drew (0+m) 0 e (by simp only[maxLen]; omega)
 have hge:=grownCap_ge w.drew (0+m) 0 e
 have hgd:grownCap w (0+m) 0 e=grownCap w.drew (0+m) 0 e∨True:=.inr trivial
 have hcap':=grownCap_le_maxLen w (0+m) 0 e (by simp only[maxLen]; omega)
 have hge':=grownCap_ge w (0+m) 0 e
 have htl:(([]:List Value).toArray++Builtin.zeroCells z.cells m++Builtin.zeroCells z.cells (grownCap w (0+m) 0 e-(0+m))).toList=(List.replicate m z.cells.toList).flatten++(Builtin.zeroCells z.cells (grownCap w (0+m) 0 e-(0+m))).toList:=by
  simp only[Array.toList_append,zCt_ (z:=z.cells) (by omega) m]; simp
 have hfl:((List.replicate m z.cells.toList).flatten).length=m*sz:=by simp[h6]
 obtain⟨f1,f2,f3⟩:=rnR_ (w:=w.drew) (cap:=grownCap w (0+m) 0 e) (e:=e) (sz:=sz) (D:=[]) (cs:=(([]:List Value).toArray++Builtin.zeroCells z.cells m++Builtin.zeroCells z.cells (grownCap w (0+m) 0 e-(0+m))).toList) (ccs:=(List.replicate m z.cells.toList).flatten)
  (els:=List.replicate m p) (R_drew hG) (by simp) (by simp) (by have:=RepCs.frame (w:=w) (N:=Nof κ st' G w) (w':=w.drew) (N':=Nof κ st' G w.drew) (fun _ h=>h) (fun _ _=>rfl) _ _ _ (by simp) (rCr_ hzc m); simpa[fps] using this) (fun q hq=>by rw[(List.mem_replicate.1 hq).2]; exact hp) (by rw[hl,htl,← hfl]; exact List.take_left) (by
   rw[htl,List.length_append,hfl,Array.length_toList,szC_,h6,← Nat.add_mul]; congr 1; omega) (by rw[hl]; omega) hcap'
 rw[hl] at f1
 refine⟨.slice (some ⟨w.heap.size,0,none⟩) (0+m) (grownCap w (0+m) 0 e),w.drew.alloc (.cells (([]:List Value).toArray++Builtin.zeroCells z.cells m++Builtin.zeroCells z.cells (grownCap w (0+m) 0 e-(0+m))) e),w.drew.heap.size::fps G.fp [],?_,?_,?_,f3,?_⟩
 ·have:(execOp a.eval o).run P w=(((Builtin.append_ #[T,T'] o.type #[a.eval x,a.eval y]).run P w).andThen fun v w'=>.ok (.value v) w'):=by simp[execOp,hop,resolve,invoke,builtin]
  rw[this,e1,e2,hrun,Result.andThen_ok]
 ·exact⟨rfl,rfl,rfl,by simp,fun k hk _=>hpl_ (w:=w.drew) hk⟩
 ·intro b hb; have:=f2 b hb; simpa using this
 ·have:(0+m)=m:=by omega
  rw[Array.toArray_toList] at f1
  rw[this] at f1 ⊢
  exact f1
where
 R_drew {κ:Ctx} {G:Gh} {st:St} {a:Act} {w:World} (hG:RG κ G st a w):RG κ G st a w.drew:=by
  have hN:∀ b,Nof κ st G w b→Nof κ st G w.drew b:=fun _ h=>h
  have hw:∀ b,Nof κ st G w b→w.drew.heap[b]?=w.heap[b]?:=fun _ _=>rfl
  exact⟨hG.keep.trans ⟨rfl,rfl,rfl,Nat.le_refl _,fun _ _ _=>rfl⟩,hG.defers,hG.nt,fun k=>(hG.slots k).frame hN hw (fun _ _=>rfl) (fun _ _=>rfl) (fun _=>⟨rfl,rfl⟩),
   fun c sz es hc=>⟨RepC.frame hN hw _ _ _ (fun _ _=>rfl) (hG.objs c sz es hc).1,(hG.objs c sz es hc).2⟩,hG.boxes,hG.bb,hG.bo,hG.oo,hG.held⟩
end Go.Av
