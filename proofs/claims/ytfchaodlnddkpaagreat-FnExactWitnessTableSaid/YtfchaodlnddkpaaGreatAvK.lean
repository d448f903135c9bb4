/- Lemmas of the proof; each says what it shows. -/
import Derived.Test.YtfchaodlnddkpaaGreatAv6u
import Derived.Lib.AppendZerosOnto
import Derived.Laws.IdiomCopy
import Derived.ProofKit
set_option linter.unusedSimpArgs false
set_option linter.unusedVariables false
set_option linter.defProp false
namespace Go.Av
open Bool renaming and_eq_true→aw
open CV renaming isAgg→aR,pvws→aK,wholes→aB,namess→av,pvos→aD
open List renaming length_append→aV,all_eq_true→aX
open Nat renaming le_refl→aM
section
inductive Kd where
 | int (k:IntKind)
 | bool
 | str
 deriving DecidableEq
def kdB:Option TypeDesc→Option Kd→Bool
 | some (.int k),some (.int k')=>decide (k=k')
 | some .bool,some .bool=>true
 | some .string,some .str=>true
 | _,_=>false
def fieldsB(P:Program):List Field→List (Option Kd)→Nat→Bool
 | [],[],_=>true
 | f::fs,k::ks,off=>f.name != "_"&&f.offset==off&&kdB (P.underlying f.type) k&&fieldsB P fs ks (off+1)
 | _,_,_=>false
def eqSB(P:Program)(T:TypeId)(ks:List (Option Kd)):Bool:=
 match P.underlying T with
 | some (.struct fs)=>!(P.stoodInHeld T)&&!(P.eqGuardType P.depth T)&&fieldsB P fs.toList ks 0
 | _=>false
def EqS(P:Program)(T:TypeId)(ks:List (Option Kd)):Prop:=eqSB P T ks=true
def kdOf:PV→Option Kd
 | .lit (.int k _)=>some (.int k)
 | .lit (.bool _)=>some .bool
 | .lit (.string _)=>some .str
 | _=>none
def kdsOf:List PV→List (Option Kd)
 | []=>[]
 | p::ps=>kdOf p::kdsOf ps
def eqPV:PV→PV→Bool
 | .lit (.int _ a),.lit (.int _ b)=>decide (a=b)
 | .lit (.bool a),.lit (.bool b)=>a==b
 | .lit (.string a),.lit (.string b)=>decide (a=b)
 | _,_=>false
def eqPVs:List PV→List PV→Bool
 | [],[]=>true
 | [x],[y]=>eqPV x y
 | x::x'::xs,y::y'::ys=>eqPV x y&&eqPVs (x'::xs) (y'::ys)
 | _,_=>false
theorem eqPVs_cons(x y:PV):∀ (xs ys:List PV),xs.length=ys.length→eqPVs (x::xs) (y::ys)=(eqPV x y&&eqPVs xs ys)
 | [],[],_=>by simp[eqPVs]
 | _::_,_::_,_=>by simp[eqPVs]
theorem part_lit{P:Program}{w:World}{t:TypeId}{cs:Array Value}{off:Nat}{v:Value}{k:Option Kd}(hk:kdB (P.underlying t) k=true)(hv:cs[off]?=some v):(part t cs off).run P w=.ok v w:=by
 have ha:(isAgg t).run P w=.ok false w:=by
  cases hu:P.underlying t with
  | none=>rw[hu] at hk; simp[kdB] at hk
  | some d=>
   rw[hu] at hk
   simp only[isAgg,Sem.run_bind,run_underlying hu,Result.andThen_ok]
   cases d<;>first | rfl | (simp[kdB] at hk)
 simp[part,ha,hv]
theorem equalIn_lit{P:Program}{w:World}{t:TypeId}{d:Nat}{p q:PV}{k:Option Kd}{u v:Value}(hk:kdB (P.underlying t) k=true)(hp:kdOf p=k)(hq:kdOf q=k)(hu:p=.lit u)(hv:q=.lit v):(Op.equalIn (d+1) t u v).run P w=.ok (eqPV p q) w:=by
 subst hu; subst hv
 cases hd:P.underlying t with
 | none=>rw[hd] at hk; simp[kdB] at hk
 | some D=>
  rw[hd] at hk
  cases k with
  | none=>cases D<;>simp[kdB] at hk
  | some k=>
   cases u<;>simp[kdOf] at hp<;>subst hp<;>cases v<;>simp[kdOf] at hq<;>cases D<;>simp[kdB] at hk
   ·simp[Op.equalIn,run_underlying hd,eqPV]
   ·subst hk; subst hq; simp[Op.equalIn,run_underlying hd,eqPV,BEq.beq]
   ·simp[Op.equalIn,run_underlying hd,eqPV]
    exact data_beq _ _
theorem kdOf_lit{p:PV}{k:Kd}(h:kdOf p=some k):∃ v,p=.lit v∧v.oneCell'=true:=by
 cases p with
 | lit v=>cases v<;>simp[kdOf] at h<;>exact⟨_,rfl,rfl⟩
 | _=>simp[kdOf] at h
theorem kdB_some{D:Option TypeDesc}{k:Option Kd}(h:kdB D k=true):∃ k',k=some k':=by
 cases k with
 | none=>cases D with
  | none=>simp[kdB] at h
  | some D=>cases D<;>simp[kdB] at h
 | some k=>exact⟨k,rfl⟩
theorem equal_fields{P:Program}{w:World}{d:Nat}{xs ys:Array Value}:∀ (fs:List Field) (ps qs:List PV) (off:Nat),fieldsB P fs (kdsOf ps) off=true→kdsOf ps=kdsOf qs→
 (∀ (i:Nat) (p:PV),ps[i]?=some p→∃ v,p=.lit v∧xs[off+i]?=some v)→(∀ (i:Nat) (q:PV),qs[i]?=some q→∃ v,q=.lit v∧ys[off+i]?=some v)→
 (forIn fs ((none,()):Option Bool×Unit) fun f __s=>
  (if f.name≠ "_" then do
   let __do_lift ← part f.type xs f.offset
   let __do_lift_1 ← part f.type ys f.offset
   let __do_lift ← Op.equalIn (d+1) f.type __do_lift __do_lift_1
   if (!__do_lift)=true then pure (ForInStep.done (some false,())) else pure (ForInStep.yield (none,()))
  else pure (ForInStep.yield (none,())):Sem (ForInStep (Option Bool×Unit)))).run P w=.ok (if eqPVs ps qs then(none,()) else(some false,())) w
 | [],[],[],off,_,_,_,_=>by simp[eqPVs]
 | [],[],q::qs,off,_,h2,_,_=>by simp[kdsOf] at h2
 | [],p::ps,qs,off,h,_,_,_=>by simp[kdsOf,fieldsB] at h
 | f::fs,[],qs,off,h,_,_,_=>by simp[kdsOf,fieldsB] at h
 | f::fs,p::ps,[],off,_,h2,_,_=>by simp[kdsOf] at h2
 | f::fs,p::ps,q::qs,off,h1,h2,h3,h4=>by
  simp only[kdsOf,fieldsB,aw,bne_iff_ne,beq_iff_eq] at h1
  obtain⟨⟨⟨a1,a2⟩,a3⟩,a4⟩:=h1
  simp only[kdsOf,List.cons.injEq] at h2
  obtain⟨b1,b2⟩:=h2
  obtain⟨u,hu,hu'⟩:=h3 0 p rfl
  obtain⟨v,hv,hv'⟩:=h4 0 q rfl
  have hlen:ps.length=qs.length:=by
   have:∀ l:List PV,(kdsOf l).length=l.length:=by intro l; induction l with | nil=>rfl | cons a l ih=>simp[kdsOf,ih]
   rw[← this ps,b2,this]
  have ih:=equal_fields (w:=w) (d:=d) fs ps qs (off+1) a4 b2 (fun i p hp=>by have:=h3 (i+1) p (by simpa using hp); simpa[Nat.add_assoc,Nat.add_comm 1 i] using this) (fun i q hq=>by have:=h4 (i+1) q (by simpa using hq); simpa[Nat.add_assoc,Nat.add_comm 1 i] using this)
  rw[List.forIn_cons,Sem.run_bind]
  simp only[Nat.add_zero] at hu' hv'
  have he:=equalIn_lit (w:=w) (d:=d) a3 rfl b1.symm hu hv
  simp only[ne_eq,a1,not_false_eq_true,if_true,Sem.run_bind,a2,part_lit a3 hu',part_lit a3 hv',Result.andThen_ok,he]
  rw[eqPVs_cons p q ps qs hlen]
  cases eqPV p q with
  | true=>simp only[Bool.not_true,Bool.false_eq_true,if_false,Sem.run_pure,Result.andThen_ok,Bool.true_and]; exact ih
  | false=>simp only[Bool.not_false,if_true,Sem.run_pure,Result.andThen_ok,Bool.false_and,Bool.false_eq_true,if_false]
theorem run_equal_struct{P:Program}{w:World}{T:TypeId}{ps qs:List PV}{xs ys:List Value}(h:EqS P T (kdsOf ps))(hk:kdsOf ps=kdsOf qs)
 (hx:∀ (i:Nat) (p:PV),ps[i]?=some p→∃ v,p=.lit v∧xs[i]?=some v) (hy:∀ (i:Nat) (q:PV),qs[i]?=some q→∃ v,q=.lit v∧ys[i]?=some v) (d:Nat):(Op.equalIn (d+2) T (.agg xs.toArray) (.agg ys.toArray)).run P w=.ok (eqPVs ps qs) w:=by
 unfold EqS eqSB at h
 split at h
 ·rename_i fs hu
  simp only[aw,Bool.not_eq_true'] at h
  obtain⟨⟨h1,_⟩,h3⟩:=h
  rw[Op.equalIn]
  simp only[Sem.run_bind,run_underlying hu,Result.andThen_ok,run_program,h1,Bool.false_eq_true,if_false]
  have:=equal_fields (w:=w) (d:=d) (xs:=xs.toArray) (ys:=ys.toArray) fs.toList ps qs 0 h3 hk (by simpa using hx) (by simpa using hy)
  rw[← Array.forIn_toList,this,Result.andThen_ok]
  cases eqPVs ps qs<;>simp
 ·cases h
/-- The cells of a struct of words. -/
theorem repCs_words{N:Nat→Prop}{w:World}:∀ (ps:List PV) (cs:List Value) (F:List Nat),RepCs N w ps cs F→(∀ p∈ps,∃ k,kdOf p=some k)→∀ (i:Nat) (p:PV),ps[i]?=some p→∃ v,p=.lit v∧cs[i]?=some v
 | [],cs,F,_,_,i,p,hp=>by simp at hp
 | q::ps,cs,F,h,hk,i,p,hp=>by
  simp only[RepCs] at h
  obtain⟨c1,c2,F1,F2,rfl,rfl,h1,h2⟩:=h
  obtain⟨k,hq⟩:=hk q (by simp)
  obtain⟨v,rfl,_⟩:=kdOf_lit hq
  simp only[RepC] at h1
  obtain⟨rfl,_,_⟩:=h1
  cases i with
  | zero=>simp at hp; subst hp; exact⟨v,rfl,by simp⟩
  | succ i=>
   obtain⟨u,e1,e2⟩:=repCs_words ps c2 F2 h2 (fun p hp=>hk p (by simp[hp])) i p (by simpa using hp)
   exact⟨u,e1,by simpa using e2⟩
theorem fieldsB_kd{P:Program}:∀ (fs:List Field) (ps:List PV) (off:Nat),fieldsB P fs (kdsOf ps) off=true→∀ p∈ps,∃ k,kdOf p=some k
 | [],[],_,_,p,hp=>by simp at hp
 | [],_::_,_,h,_,_=>by simp[kdsOf,fieldsB] at h
 | _::_,[],_,h,_,_=>by simp[kdsOf,fieldsB] at h
 | f::fs,q::ps,off,h,p,hp=>by
  simp only[kdsOf,fieldsB,aw] at h
  rcases List.mem_cons.1 hp with rfl | hp
  ·exact kdB_some h.1.2
  ·exact fieldsB_kd fs ps _ h.2 p hp
theorem EqS.kd{P:Program}{T:TypeId}{ps:List PV}(h:EqS P T (kdsOf ps)):∀ p∈ps,∃ k,kdOf p=some k:=by
 unfold EqS eqSB at h
 split at h
 ·simp only[aw] at h; exact fieldsB_kd _ _ _ h.2
 ·cases h
theorem EqS.guard{P:Program}{T:TypeId}{ks:List (Option Kd)}(h:EqS P T ks):P.eqGuardType P.depth T=false:=by
 unfold EqS eqSB at h
 split at h
 ·simp only[aw,Bool.not_eq_true'] at h; exact h.1.2
 ·cases h
theorem kd_same{ps qs:List PV}(h:kdsOf ps=kdsOf qs)(hp:∀ p∈ps,∃ k,kdOf p=some k):∀ q∈qs,∃ k,kdOf q=some k:=by
 induction ps generalizing qs with
 | nil=>cases qs with
  | nil=>simp
  | cons q qs=>simp[kdsOf] at h
 | cons p ps ih=>
  cases qs with
  | nil=>simp
  | cons q qs=>
   simp only[kdsOf,List.cons.injEq] at h
   intro r hr
   rcases List.mem_cons.1 hr with rfl | hr
   ·obtain⟨k,hk⟩:=hp p (by simp); exact⟨k,by rw[← h.1]; exact hk⟩
   ·exact ih h.2 (fun p hp'=>hp p (by simp[hp'])) r hr
theorem valid_eq_struct{P:Program}{nt:Nat}{o:Oper}{st:St}{d:Nat}{x y:Operand}{T T1 T2 U:TypeId}{ps qs:List PV}{neg:Bool}(hop:o.op=.binOp (if neg then .neq else .eql) T x y U)(hdst:o.dst=some d)(hd:d<nt)
 (hx:ev P st T1 x=.val (.pv (.agg ps))) (hy:ev P st T2 y=.val (.pv (.agg qs))) (h:EqS P T (kdsOf ps)) (hk:kdsOf ps=kdsOf qs):
 Valid P nt o st { rs:=rd x++rd y,us:=[(d,.val (.pv (.lit (.bool (if neg then !eqPVs ps qs else eqPVs ps qs)))))] }:=by
 refine valid_pure hdst hd rfl ?_
 intro κ G st' a w _ hsame hG
 have hvx:=ev_ok (P:=P) (T:=T1) hG x d
 rw[ev_congr (fun k hk=>hsame.1 k (by simp[hk])),hx] at hvx
 have hvy:=ev_ok (P:=P) (T:=T2) hG y d
 rw[ev_congr (fun k hk=>hsame.1 k (by simp[hk])),hy] at hvy
 rcases hvx.symm with⟨h1,_⟩ | ⟨_,cs,e1,r1⟩
 ·simp[aR] at h1
 rcases hvy.symm with⟨h1,_⟩ | ⟨_,ds,e2,r2⟩
 ·simp[aR] at h1
 simp only[RepCV,RepC] at r1 r2
 have hq:=run_equal_struct (w:=w) h hk (repCs_words _ _ _ r1 h.kd) (repCs_words _ _ _ r2 (kd_same hk h.kd)) 9998
 have hg:(eqGuard (if neg then .neq else .eql) T x y (.agg cs.toArray) (.agg ds.toArray)).run P w=.ok () w:=by
  cases neg<;>simp[eqGuard,h.guard]
 refine⟨.bool (if neg then !eqPVs ps qs else eqPVs ps qs),?_,slotOk_lit rfl⟩
 have hq':(Op.equal T (.agg cs.toArray) (.agg ds.toArray)).run P w=.ok (eqPVs ps qs) w:=hq
 cases neg with
 | true=>
  simp only[if_true] at hop hg ⊢
  simp only[execOp,hop,Sem.run_bind,e1,e2,hg,Result.andThen_ok]
  simp[binOp,hq']
 | false=>
  simp only[Bool.false_eq_true,if_false] at hop hg ⊢
  simp only[execOp,hop,Sem.run_bind,e1,e2,hg,Result.andThen_ok]
  simp[binOp,hq']

/-! ### nil -/
def nilQ(es:List PV)(t:Bool)(v:Value):Prop:=∃ b,v=.bool b∧(b=t→es=[])
/-- What a comparison with nil says of a row: known where it has an element. -/
def nilV(t:Bool)(es:List PV):SlotV:=
 match es with
 | []=>.ex (nilQ [] t)
 | _::_=>.val (.pv (.lit (.bool (!t))))
def IsSl(P:Program)(T:TypeId):Prop:=∃ e,P.underlying T=some (.slice e)
theorem slot_nil{N:Nat→Prop}{w:World}{G:Gh}{k sz:Nat}{v:Value}(h:SlotOk N w G k v (.val (.pv (.sl true sz [])))):v=.slice none 0 0:=by
 rcases h with⟨h1,_⟩ | ⟨_,h1,_⟩
 ·simp[aR] at h1
 ·have:=nil_rep0 h1
  exact this
where
 nil_rep0 {N:Nat→Prop} {w:World} {hd:Nat→Value} {sz:Nat} {v:Value} (h:RepCV N w hd (.pv (.sl true sz [])) [v]):v=.slice none 0 0:=by
  simp only[RepCV,RepC] at h
  rcases h with⟨h,_⟩ | ⟨b,cap,c,e,F',ccs,_,_,_,_,_,_,_,_,h⟩
  ·simpa using h
  ·cases h
theorem run_nilcmp{P:Program}{w:World}{T:TypeId}(hT:IsSl P T)(a:Option Addr)(n cap:Nat):(Op.equal T (.slice a n cap) (.slice none 0 0)).run P w=.ok a.isNone w:=by
 obtain⟨e,hT⟩:=hT
 show(Op.equalIn (9999+1) T _ _).run P w=_
 rw[Op.equalIn]
 simp only[Sem.run_bind,run_underlying hT,Result.andThen_ok]
 cases a<;>simp
theorem valid_nilcmp{P:Program}{nt:Nat}{o:Oper}{st:St}{d sz:Nat}{x y:Operand}{T T2 U:TypeId}{ro:List Nat}{es:List PV}{neg:Bool}(hop:o.op=.binOp (if neg then .neq else .eql) T x y U)(hdst:o.dst=some d)(hd:d<nt)(hT:IsSl P T)
 (hx:∀ κ G st' a w,Rec.same { rs:=rd x++rd y,ro:=ro } st st'→RG κ G st' a w→∃ ax cap,a.eval x=.slice ax es.length cap∧(ax=none→es=[]))
 (hy:ev P st T2 y=.val (.pv (.sl true sz []))):
 Valid P nt o st { rs:=rd x++rd y,ro:=ro,us:=[(d,nilV (!neg) es)] }:=by
 refine valid_pure hdst hd (by cases es<;>rfl) ?_
 intro κ G st' a w _ hsame hG
 obtain⟨ax,cap,e1,e2⟩:=hx κ G st' a w hsame hG
 have hvy:=ev_ok (P:=P) (T:=T2) hG y d
 rw[ev_congr (fun k hk=>hsame.1 k (by simp[hk])),hy] at hvy
 have e3:=slot_nil hvy
 have hq:=run_nilcmp (w:=w) hT ax es.length cap
 refine⟨.bool (if neg then !ax.isNone else ax.isNone),?_,?_⟩
 ·have hg:∀ op,(eqGuard op T x y (.slice ax es.length cap) (.slice none 0 0)).run P w=.ok () w:=by
   intro op; cases op<;>simp[eqGuard]
  cases neg with
  | true=>
   simp only[if_true] at hop ⊢
   simp only[execOp,hop,Sem.run_bind,e1,e3,hg,Result.andThen_ok]
   simp[binOp,hq]
  | false=>
   simp only[Bool.false_eq_true,if_false] at hop ⊢
   simp only[execOp,hop,Sem.run_bind,e1,e3,hg,Result.andThen_ok]
   simp[binOp,hq]
 ·cases es with
  | nil=>exact⟨_,rfl,fun _=>rfl⟩
  | cons p es=>
   have h:ax.isNone=false:=by
    cases ax with
    | none=>cases e2 rfl
    | some _=>rfl
   rw[h]
   cases neg<;>exact slotOk_lit rfl
theorem slot_nilL{N:Nat→Prop}{w:World}{G:Gh}{k:Nat}{v u:Value}(h:SlotOk N w G k v (.val (.pv (.lit u)))):v=u:=by
 rcases h with⟨h1,_⟩ | ⟨_,h1,_⟩
 ·simp[aR] at h1
 ·simp only[RepCV,RepC] at h1
  simpa using h1.1
theorem valid_nilex{P:Program}{nt:Nat}{o:Oper}{st:St}{d sz:Nat}{x y:Operand}{T T1 T2 U:TypeId}{p:PV}{neg:Bool}(hop:o.op=.binOp (if neg then .neq else .eql) T x y U)(hdst:o.dst=some d)(hd:d<nt)(hT:IsSl P T)
 (hx:ev P st T1 x=.val (.pv p)) (hp:p=.lit (.slice none 0 0)∨∃ n,p=.sl true n []) (hy:ev P st T2 y=.val (.pv (.sl true sz []))):
 Valid P nt o st { rs:=rd x++rd y,us:=[(d,.val (.pv (.lit (.bool (!neg)))))] }:=by
 refine valid_pure hdst hd rfl ?_
 intro κ G st' a w _ hsame hG
 have hvx:=ev_ok (P:=P) (T:=T1) hG x d
 rw[ev_congr (fun k hk=>hsame.1 k (by simp[hk])),hx] at hvx
 have e1:a.eval x=.slice none 0 0:=by
  rcases hp with rfl | ⟨n,rfl⟩
  ·exact slot_nilL hvx
  ·exact slot_nil hvx
 have hvy:=ev_ok (P:=P) (T:=T2) hG y d
 rw[ev_congr (fun k hk=>hsame.1 k (by simp[hk])),hy] at hvy
 have e3:=slot_nil hvy
 have hq:=run_nilcmp (w:=w) hT none 0 0
 have hg:∀ op,(eqGuard op T x y (.slice none 0 0) (.slice none 0 0)).run P w=.ok () w:=by
  intro op; cases op<;>simp[eqGuard]
 refine⟨.bool (!neg),?_,slotOk_lit rfl⟩
 cases neg with
 | true=>
  simp only[if_true] at hop ⊢
  simp only[execOp,hop,Sem.run_bind,e1,e3,hg,Result.andThen_ok]
  simp[binOp,hq]
 | false=>
  simp only[Bool.false_eq_true,if_false] at hop ⊢
  simp only[execOp,hop,Sem.run_bind,e1,e3,hg,Result.andThen_ok]
  simp[binOp,hq]
theorem valid_nilcmp_view{P:Program}{nt:Nat}{o:Oper}{st:St}{d sz sz':Nat}{x y:Operand}{T T1 T2 U:TypeId}{b:Bool}{es:List PV}{neg:Bool}(hop:o.op=.binOp (if neg then .neq else .eql) T x y U)(hdst:o.dst=some d)(hd:d<nt)(hT:IsSl P T)
 (hx:ev P st T1 x=.val (.pv (.sl b sz' es))) (hy:ev P st T2 y=.val (.pv (.sl true sz []))):Valid P nt o st { rs:=rd x++rd y,us:=[(d,nilV (!neg) es)] }:=by
 refine valid_nilcmp (ro:=[]) hop hdst hd hT ?_ hy
 intro κ G st' a w hsame hG
 have h1:=ev_ok (P:=P) (T:=T1) hG x d
 rw[ev_congr (fun k hk=>hsame.1 k (by simp[hk])),hx] at h1
 rcases h1 with⟨h1,_⟩ | ⟨_,h1,_⟩
 ·simp[aR] at h1
 simp only[RepCV] at h1
 cases b with
 | false=>
  simp only[RepC] at h1
  obtain⟨ax,cap,g1,_,_,_,_,g6⟩:=h1
  simp at g1
  exact⟨ax,cap,g1,fun e=>by rcases g6 with g6 | ⟨ad,ccs,g,_⟩; exact g6; rw[e] at g; cases g⟩
 | true=>
  simp only[RepC] at h1
  rcases h1 with⟨g1,g2,_⟩ | ⟨b,cap,c,e,F',ccs,_,_,_,_,_,_,_,_,h9⟩
  ·simp at g1; subst g2
   exact⟨none,0,g1,fun _=>rfl⟩
  ·simp at h9
theorem valid_nilcmp_own{P:Program}{nt:Nat}{o:Oper}{st:St}{d sz sz' c:Nat}{x y:Operand}{T T1 T2 U:TypeId}{es:List PV}{neg:Bool}(hop:o.op=.binOp (if neg then .neq else .eql) T x y U)(hdst:o.dst=some d)(hd:d<nt)(hT:IsSl P T)
 (hx:ev P st T1 x=.val (.own c)) (ho:st.o c=some (sz',es)) (hy:ev P st T2 y=.val (.pv (.sl true sz []))):Valid P nt o st { rs:=rd x++rd y,ro:=[c],us:=[(d,nilV (!neg) es)] }:=by
 refine valid_nilcmp hop hdst hd hT ?_ hy
 intro κ G st' a w hsame hG
 have h1:=ev_ok (P:=P) (T:=T1) hG x d
 rw[ev_congr (fun k hk=>hsame.1 k (by simp[hk])),hx] at h1
 have hv:=slotOk_own h1
 have ho':st'.o c=some (sz',es):=by rw[hsame.2 c (by simp)]; exact ho
 have h2:=(hG.objs c sz' es ho').1
 simp only[RepC] at h2
 rcases h2 with⟨h2,h3,_⟩ | ⟨b,cap,cc,e,F',ccs,h2,_⟩
 ·simp at h2; exact⟨none,0,by rw[hv,h2,h3]; rfl,fun _=>h3⟩
 ·simp at h2; exact⟨_,cap,by rw[hv,h2],fun e=>by cases e⟩
theorem valid_cap_nil{P:Program}{nt:Nat}{o:Oper}{st:St}{d sz:Nat}{x:Operand}{T T1:TypeId}(hop:o.op=.call { callee:=.builtin .cap,args:=#[x],argTypes:=#[T] })(hdst:o.dst=some d)(hd:d<nt)(hT:IsSl P T)
 (hx:ev P st T1 x=.val (.pv (.sl true sz []))):Valid P nt o st { rs:=rd x,us:=[(d,.val (.pv (.lit (.int .i64 0))))] }:=by
 refine valid_pure hdst hd rfl ?_
 intro κ G st' a w _ hsame hG
 have h1:=ev_ok (P:=P) (T:=T1) hG x d
 rw[ev_congr hsame.1,hx] at h1
 have e:=slot_nil h1
 obtain⟨el,hT⟩:=hT
 exact⟨.int .i64 0,by simp[execOp,hop,resolve,invoke,builtin,Builtin.cap_,run_underlying hT,e,goInt],slotOk_lit rfl⟩
theorem valid_slice_nil{P:Program}{nt:Nat}{o:Oper}{st:St}{d sz sz' bytes:Nat}{x:Operand}{lo hi:Option Operand}{T T1:TypeId}(hop:o.op=.slice T x lo hi none)(hdst:o.dst=some d)(hd:d<nt)
 (hT:SlIs P T sz' bytes) (hx:ev P st T1 x=.val (.pv (.sl true sz []))) (hlo:OptIs P st 0 0 lo) (hhi:OptIs P st 0 0 hi):
 Valid P nt o st { rs:=rd x++(lo.toList.flatMap rd++hi.toList.flatMap rd),us:=[(d,.val (.pv (.sl true sz [])))] }:=by
 refine valid_pure hdst hd rfl ?_
 intro κ G st' a w _ hsame hG
 obtain⟨e,i,z,t1,t2,t3,_⟩:=hT
 have h1:=ev_ok (P:=P) (T:=T1) hG x d
 rw[ev_congr (fun k hk=>hsame.1 k (by simp[hk])),hx] at h1
 have hv:=slot_nil h1
 have elo:∃ lv:Option Value,lo.map a.eval=lv∧(match lv with | none=>True | some v=>∃ k,v=.int k 0):=by
  cases lo with
  | none=>exact⟨none,rfl,trivial⟩
  | some y=>
   obtain⟨k,n,e1,rfl⟩:=hlo
   exact⟨_,rfl,k,ev_lit hG e1 (fun k hk=>hsame.1 k (by simp[hk]))⟩
 have ehi:∃ hv:Option Value,hi.map a.eval=hv∧(match hv with | none=>True | some v=>∃ k,v=.int k 0):=by
  cases hi with
  | none=>exact⟨none,rfl,trivial⟩
  | some y=>
   obtain⟨k,n,e1,rfl⟩:=hhi
   exact⟨_,rfl,k,ev_lit hG e1 (fun k hk=>hsame.1 k (by simp[hk]))⟩
 obtain⟨lv,e1,e2⟩:=elo
 obtain⟨hw,e3,e4⟩:=ehi
 have hlb:(Instr.sliceBounds true 0 0 lv hw none).run P w=.ok (0,0,0) w:=by
  cases lv with
  | none=>
   cases hw with
   | none=>simp[Instr.sliceBounds]
   | some v=>obtain⟨k,rfl⟩:=e4; simp[Instr.sliceBounds,Instr.sliceBound,asIntOf]
  | some u=>
   obtain⟨k',rfl⟩:=e2
   cases hw with
   | none=>simp[Instr.sliceBounds,Instr.sliceBound,asIntOf]
   | some v=>obtain⟨k,rfl⟩:=e4; simp[Instr.sliceBounds,Instr.sliceBound,asIntOf]
 refine⟨.slice none 0 0,?_,.inr ⟨rfl,by simp[RepCV,RepC],rfl⟩⟩
 simp[execOp,hop,Instr.sliceAt,run_underlying t1,Instr.slice,hv,e1,e3,hlb,sizeOf,typeInfo,t2,t3]
theorem zeroCells_toList{z:Array Value}(hz:0<z.size)(n:Nat):(Builtin.zeroCells z n).toList=(List.replicate n z.toList).flatten:=by
 rw[← madeCells_eq hz n]
 simp[Builtin.zeroCells,madeCells]
theorem valid_append_zeros{P:Program}{nt:Nat}{o:Oper}{st:St}{d c sz sz' bytes:Nat}{T T' T1 T2:TypeId}{x y:Operand}{k kn:IntKind}{n:Int}{p:PV}(hop:o.op=.call { callee:=.builtin .append,args:=#[x,y],argTypes:=#[T,T'] })(hdst:o.dst=some d)(hd:d<nt)
 (hT:SlIs P T sz bytes) (hT':P.underlying T'=some (.int kn)) (hz:ElemZero P T p) (hp:p.size=sz) (hx:ev P st T1 x=.val (.pv (.sl true sz' []))) (hy:ev P st T2 y=.val (.pv (.lit (.int k n)))) (h0:0<n) (hm:n≤1073741824) (hb:bytes≤65536):
 Valid P nt o st { rs:=rd x++rd y,fc:=(resObjs (.sl true sz (List.replicate n.toNat p)) c).map (·.1),us:=[(d,resSV (.sl true sz (List.replicate n.toNat p)) c)],uo:=deadObjs []++newObjs (resObjs (.sl true sz (List.replicate n.toNat p)) c) }:=by
 refine valid_res hdst hd (by simp) (by simp) ?_
 intro κ G st' a w hnt hsame hG
 obtain⟨e,i,z,h1,h2,h3,h4,h5,h6,h7⟩:=hT
 obtain⟨e',h1',i',z',g1,g2,g3⟩:=hz
 rw[h1] at h1'; cases h1'
 rw[h2] at g1; cases g1
 rw[h5] at g2; cases g2
 have hvx:=ev_ok (P:=P) (T:=T1) hG x d
 rw[ev_congr (fun k hk=>hsame.1 k (by simp[hk])),hx] at hvx
 have e1:=slot_nil hvx
 have e2:=ev_lit hG hy (fun k hk=>hsame.1 k (by simp[hk]))
 obtain⟨m,rfl⟩:∃ m:Nat,n=m:=⟨n.toNat,by omega⟩
 simp only[Int.toNat_natCast]
 have hbig:m*i.bytes≤70368744177664:=by
  rw[h4]
  calc m*bytes≤1073741824*65536:=Nat.mul_le_mul (by omega) hb
   _≤70368744177664:=by omega
 have hrun:=Lib.run_append_grow_zeros (P:=P) w T T' o.type e i z k kn h1 hT' h2 h5 none 0 0 [] (by simp[Builtin.firstCells]) m (by omega) (by omega) (by omega) (by omega) (by omega) (growslice_fits (by omega) (by rw[Nat.zero_add]; omega))
 have hzc:RepC (Nof κ st' G w) w p z.cells.toList []:=by
  have:=cval_cells (g3 (Nof κ st' G w) w G.hd)
  simpa[RepCV] using this
 have hl:(List.replicate m p).length=m:=by simp
 have hcap:=grownCap_le_maxLen w.drew (0+m) 0 e (by simp only[maxLen]; omega)
 have hge:=grownCap_ge w.drew (0+m) 0 e
 have hgd:grownCap w (0+m) 0 e=grownCap w.drew (0+m) 0 e∨True:=.inr trivial
 have hcap':=grownCap_le_maxLen w (0+m) 0 e (by simp only[maxLen]; omega)
 have hge':=grownCap_ge w (0+m) 0 e
 have htl:(([]:List Value).toArray++Builtin.zeroCells z.cells m++Builtin.zeroCells z.cells (grownCap w (0+m) 0 e-(0+m))).toList=(List.replicate m z.cells.toList).flatten++(Builtin.zeroCells z.cells (grownCap w (0+m) 0 e-(0+m))).toList:=by
  simp only[Array.toList_append,zeroCells_toList (z:=z.cells) (by omega) m]; simp
 have hfl:((List.replicate m z.cells.toList).flatten).length=m*sz:=by simp[h6]
 obtain⟨f1,f2,f3⟩:=rep_newRow (w:=w.drew) (cap:=grownCap w (0+m) 0 e) (e:=e) (sz:=sz) (D:=[]) (cs:=(([]:List Value).toArray++Builtin.zeroCells z.cells m++Builtin.zeroCells z.cells (grownCap w (0+m) 0 e-(0+m))).toList) (ccs:=(List.replicate m z.cells.toList).flatten)
  (els:=List.replicate m p) (R_drew hG) (by simp) (by simp) (by have:=RepCs.frame (w:=w) (N:=Nof κ st' G w) (w':=w.drew) (N':=Nof κ st' G w.drew) (fun _ h=>h) (fun _ _=>rfl) _ _ _ (by simp) (repCs_replicate hzc m); simpa[fps] using this) (fun q hq=>by rw[(List.mem_replicate.1 hq).2]; exact hp) (by rw[hl,htl,← hfl]; exact List.take_left) (by
   rw[htl,aV,hfl,Array.length_toList,size_zeroCells',h6,← Nat.add_mul]; congr 1; omega) (by rw[hl]; omega) hcap'
 rw[hl] at f1
 refine⟨.slice (some ⟨w.heap.size,0,none⟩) (0+m) (grownCap w (0+m) 0 e),w.drew.alloc (.cells (([]:List Value).toArray++Builtin.zeroCells z.cells m++Builtin.zeroCells z.cells (grownCap w (0+m) 0 e-(0+m))) e),w.drew.heap.size::fps G.fp [],?_,?_,?_,f3,?_⟩
 ·have:(execOp a.eval o).run P w=(((Builtin.append_ #[T,T'] o.type #[a.eval x,a.eval y]).run P w).andThen fun v w'=>.ok (.value v) w'):=by simp[execOp,hop,resolve,invoke,builtin]
  rw[this,e1,e2,hrun,Result.andThen_ok]
 ·exact⟨rfl,rfl,rfl,by simp,fun k hk _=>heap_push_lt (w:=w.drew) hk,fun _=>Nat.le_succ _⟩
 ·intro b hb; have:=f2 b hb; simpa using this
 ·have:(0+m)=m:=by omega
  rw[Array.toArray_toList] at f1
  rw[this] at f1 ⊢
  exact f1
where
 R_drew {κ:Ctx} {G:Gh} {st:St} {a:Act} {w:World} (hG:RG κ G st a w):RG κ G st a w.drew:=by
  have hN:∀ b,Nof κ st G w b→Nof κ st G w.drew b:=fun _ h=>h
  have hw:∀ b,Nof κ st G w b→w.drew.heap[b]?=w.heap[b]?:=fun _ _=>rfl
  exact⟨hG.keep.trans ⟨rfl,rfl,rfl,aM _,fun _ _ _=>rfl,fun _=>Nat.le_succ _⟩,hG.defers,hG.nt,fun k=>(hG.slots k).frame hN hw (fun _ _=>rfl) (fun _ _=>rfl) (fun _=>⟨rfl,rfl⟩),
   fun c sz es hc=>⟨RepC.frame hN hw _ _ _ (fun _ _=>rfl) (hG.objs c sz es hc).1,(hG.objs c sz es hc).2⟩,hG.boxes,hG.bb,hG.bo,hG.oo,hG.held⟩
end
section
def ArrIs(P:Program)(T:TypeId)(m sz:Nat):Prop:=∃ e,P.underlying T=some (.array m e)∧(P.info? e).map (·.size)=some sz
def ArrIx(P:Program)(T:TypeId)(n:Int)(K:Nat→Nat→Prop):Prop:=∃ m sz k,ArrIs P T m sz∧k<m∧n=(k:Int)∧K k sz
theorem run_sizeOf_arr{P:Program}{e:TypeId}{sz:Nat}(h:(P.info? e).map (·.size)=some sz)(w:World):(sizeOf e).run P w=.ok sz w:=by
 cases hq:P.info? e with
 | none=>rw[hq] at h; cases h
 | some i=>
  rw[hq] at h
  simp only[Option.map_some,Option.some.injEq] at h
  simp[sizeOf,typeInfo,hq,h]
theorem valid_index_arr{P:Program}{nt:Nat}{o:Oper}{st:St}{d r off m sz k:Nat}{p:List Nat}{x y:Operand}{T T1 T2:TypeId}{kk:IntKind}{n:Int}(hop:o.op=.indexAddr T x y)(hdst:o.dst=some d)(hd:d<nt)
 (hT:ArrIs P T m sz) (hx:ev P st T1 x=.bptr r p off) (hy:ev P st T2 y=.val (.pv (.lit (.int kk n)))) (hk:k<m) (hn:n=(k:Int)):
 Valid P nt o st { rs:=rd x++rd y,us:=[(d,.bptr r (p++[k]) (off+k*sz))] }:=by
 refine valid_pure hdst hd rfl ?_
 intro κ G st' a w hnt hsame hG
 have h1:=ev_ok (P:=P) (T:=T1) hG x d
 rw[ev_congr (fun k hk=>hsame.1 k (by simp[hk])),hx] at h1
 have h2:=ev_lit hG hy (fun k hk=>hsame.1 k (by simp[hk]))
 simp only[SlotOk] at h1
 obtain⟨e,hu,hs⟩:=hT
 subst hn
 refine⟨.pointer (some ⟨G.ad r,off+k*sz,none⟩),?_,rfl⟩
 have hrun:(Instr.indexAt T (.pointer (some ⟨G.ad r,off,none⟩)) (.int kk (k:Int))).run P w=.ok (.pointer (some ⟨G.ad r,off+k*sz,none⟩)) w:=by
  have hkm:(0:Int)≤(k:Int)∧(k:Int)<(m:Int):=by omega
  simp only[Instr.indexAt,asIntOf,Sem.run_bind,Sem.run_pure,Result.andThen_ok,run_underlying hu,Instr.sureAddr]
  rw[if_pos hkm]
  simp only[Sem.run_bind,run_sizeOf_arr hs w,Result.andThen_ok,Sem.run_pure,Int.toNat_natCast,add_off _ _ (rfl:(⟨G.ad r,off,none⟩:Addr).spot=none)]
 simp[execOp,hop,h1,h2,hrun]
/-- The whole of a variable of an array's type, as a slice: nobody writes it from then on. -/
def ArrSl(P:Program)(T:TypeId)(lo hi:Option Operand)(p:List Nat)(off:Nat)(pure:Bool)(v:PV)(K:Nat→List PV→Prop):Prop:=
 lo=none∧hi=none∧p=[]∧off=0∧pure=true∧∃ m sz es,ArrIs P T m sz∧v=.agg es∧es.length=m∧(∀ e∈es,PV.size e=sz)∧m≤maxLen∧K sz es
theorem valid_slice_arr{P:Program}{nt:Nat}{o:Oper}{st:St}{d r m sz:Nat}{x:Operand}{T T1:TypeId}{c:CV}{es:List PV}(hop:o.op=.slice T x none none none)(hdst:o.dst=some d)(hd:d<nt)(hrd:r≠d)
 (hT:ArrIs P T m sz) (hx:ev P st T1 x=.bptr r [] 0) (hr:st.s r=.box c) (hp:c.pure=true) (hv:c.pvw st.o=.agg es) (hm:es.length=m) (hsz:∀ e∈es,PV.size e=sz) (hml:m≤maxLen):
 Valid P nt o st { rs:=r::rd x,ro:=c.names,us:=[(r,.val (.pv (.ptr (.agg es)))),(d,.val (.pv (.sl false sz es)))] }:=by
 intro κ st' a w hnt hsame hfresh hR next Q hnext
 obtain⟨G,hG⟩:=hR
 have hr':st'.s r=.box c:=by rw[hsame.1 r (by simp)]; exact hr
 have h1:=ev_ok (P:=P) (T:=T1) hG x d
 rw[ev_congr (fun k hk=>hsame.1 k (by simp[hk])),hx] at h1
 simp only[SlotOk] at h1
 obtain⟨e,hu,hs⟩:=hT
 have hF:=R.freeze hG hr' hp
 have hv':c.pvw st'.o=.agg es:=by
  have:∀ c:CV,c.pure=true→c.pvw st'.o=c.pvw st.o:=by
   intro c
   refine CV.rec (motive_1:=fun c=>c.pure=true→c.pvw st'.o=c.pvw st.o) (motive_2:=fun cs=>CV.pures cs=true→aK st'.o cs=aK st.o cs) ?_ ?_ ?_ ?_ ?_ ?_ c
   ·intro v _; rfl
   ·intro n h; simp[CV.pure] at h
   ·intro fs ih h; simp only[CV.pvw]; rw[ih (by simpa[CV.pure] using h)]
   ·intro n h; simp[CV.pure] at h
   ·intro _; rfl
   ·intro y ys i1 i2 h
    simp only[CV.pures,aw] at h
    simp only[aK]; rw[i1 h.1,i2 h.2]
  rw[this c hp]; exact hv
 have hslot:=hF.slots r
 have hptr:(st'.set r (.val (.pv (.ptr (c.pvw st'.o))))).s r=.val (.pv (.ptr (.agg es))):=by simp[St.set,upd,hv']
 rw[hptr] at hslot
 rcases hslot with⟨hslot,_⟩ | ⟨_,hslot,hone⟩
 ·simp[aR] at hslot
 simp only[RepCV,RepC] at hslot
 obtain⟨ad,ccs,q1,_,q3,q4,q5,q6⟩:=hslot
 have hbox:=hG.slots r
 rw[hr'] at hbox
 obtain⟨hp0,_⟩:=hbox
 have hadr:ad=⟨G.ad r,0,none⟩:=by
  rw[hp0] at q1
  simp at q1; exact q1.symm
 subst hadr
 have hrun:(Instr.sliceAt T (.pointer (some ⟨G.ad r,0,none⟩)) none none none).run P w=.ok (.slice (some ⟨G.ad r,0,none⟩) m m) w:=by
  simp only[Instr.sliceAt,Sem.run_bind,run_underlying hu,Result.andThen_ok,Instr.sureAddr,Sem.run_pure]
  have hb:(Instr.sliceBounds false m m none none none).run P w=.ok (0,m,m) w:=by
   simp[Instr.sliceBounds]
  rw[hb]
  simp only[Result.andThen_ok,Sem.run_bind,run_sizeOf_arr hs w,Sem.run_pure]
  by_cases hm0:m=0
  ·simp[hm0]
  ·rw[if_neg hm0]
   simp[add_off]
 have hexec:(execOp a.eval o).run P w=.ok (.value (.slice (some ⟨G.ad r,0,none⟩) m m)) w:=by simp[execOp,hop,h1,hrun]
 unfold Oper.wp
 rw[hexec]
 simp only[Oper.upon]
 rw[hdst]
 refine hnext _ _ ?_
 have hres:SlotOk (Nof κ (st'.set r (.val (.pv (.ptr (c.pvw st'.o))))) G w) w G d (.slice (some ⟨G.ad r,0,none⟩) m m) (.val (.pv (.sl false sz es))):=by
  refine .inr ⟨rfl,?_,rfl⟩
  simp only[RepCV,RepC]
  refine⟨some ⟨G.ad r,0,none⟩,m,by rw[hm],trivial,by omega,hml,hsz,.inr ⟨_,ccs,rfl,rfl,q4,q5,by simpa only[RepC] using q6⟩⟩
 have:=R.set (sv:=.val (.pv (.sl false sz es))) (v:=.slice (some ⟨G.ad r,0,none⟩) m m) (d:=d) G hF (by rw[hnt]; exact hd) rfl hres
 simpa[St.app,updAll,St.set,hv'] using this
end
section
end
section
theorem run_copy_row{P:Program}(w:World)(dT sT ty elem:TypeId)(b o dLen dCap:Nat)(a:Addr)(sLen sCap k:Nat)(cs:List Value)(cur:Array Value)(e:TypeId)
 (hu:P.underlying dT=some (.slice elem)) (hs:(P.info? elem).map (·.size)=some k) (hn:cs.length=Nat.min sLen dLen*k)
 (hsrc:∀ j v,cs[j]?=some v→w.cell? (a.add j)=some v) (hg:w.heap[b]?=some (.cells cur e (0,0))) (hfit:o+cs.length≤cur.size) (h1:∀ v∈cs,v.oneCell'=true):
 (Builtin.copy_ #[dT,sT] ty #[.slice (some ⟨b,o,none⟩) dLen dCap,.slice (some a) sLen sCap]).run P w=.ok (goInt (Nat.min sLen dLen)) (w.setRow b (cur.toList.take o++cs++cur.toList.drop (o+cs.length)).toArray):=by
 have hl:=run_loadCells_list (P:=P) w a cs hsrc
 have hst:=run_storeCells_at P b o e cs 0 cur w hg (by simpa using hfit) h1
 simp only[Nat.add_zero] at hst
 cases hq:P.info? elem with
 | none=>simp[hq] at hs
 | some i=>
  have hi:i.size=k:=by simpa[hq] using hs
  simp[Builtin.copy_,run_underlying hu,Builtin.lenOf,Builtin.firstCells,sizeOf,typeInfo,hq,hi,← hn,hl,hst]
theorem run_copy_none{P:Program}(w:World)(dT sT ty elem:TypeId)(base src:Option Addr)(dLen dCap sLen sCap k:Nat) 
 (hu:P.underlying dT=some (.slice elem)) (hs:(P.info? elem).map (·.size)=some k) (hn:Nat.min sLen dLen=0):
 (Builtin.copy_ #[dT,sT] ty #[.slice base dLen dCap,.slice src sLen sCap]).run P w=.ok (goInt 0) w:=by
 cases hq:P.info? elem with
 | none=>simp[hq] at hs
 | some i=>
  have hf:(Builtin.firstCells i.size 0 (.slice src sLen sCap)).run P w=.ok #[] w:=by
   cases src with
   | none=>exact run_firstCells_none w _ _ _ _
   | some ad=>exact run_firstCells_some w i.size 0 ad sLen sCap [] (by simp) (fun j v h=>by simp at h)
  cases base<;>simp[Builtin.copy_,run_underlying hu,Builtin.lenOf,sizeOf,typeInfo,hq,hn,hf,storeCells]
theorem copy_call{P:Program}{a:Act}{o:Oper}{x y:Operand}{T T':TypeId}{w w':World}{v:Value}(hop:o.op=.call { callee:=.builtin .copy,args:=#[x,y],argTypes:=#[T,T'] })
 (h:(Builtin.copy_ #[T,T'] o.type #[a.eval x,a.eval y]).run P w=.ok v w'):(execOp a.eval o).run P w=.ok (.value v) w':=by
 simp[execOp,hop,resolve,invoke,builtin,h]
/-- The parts of a row that is one's own and holds nothing of one's own. -/
theorem own_row{κ:Ctx}{G:Gh}{st:St}{a:Act}{w:World}{c sz:Nat}{es:List PV}(hG:RG κ G st a w)(ho:st.o c=some (sz,es))(hne:es≠[])(hno:PV.noOwns es=true):
 ∃ b cap cc e ccs,G.hd c=.slice (some ⟨b,0,none⟩) es.length cap∧es.length≤cap∧cap≤maxLen∧(∀ p∈es,PV.size p=sz)∧w.heap[b]?=some (.cells cc e (0,0))∧cc.size=cap*sz∧cc.toList.take (es.length*sz)=ccs∧RepCs (Nof κ st G w) w es ccs []∧G.fp c=[b]:=by
 have h4:=(hG.objs c sz es ho).1
 simp only[RepC] at h4
 rcases h4 with⟨_,h4,_⟩ | ⟨b,cap,cc,e,F',ccs,f1,f2,f3,f4,f5,f6,f7,f8,f9⟩
 ·exact absurd h4 hne
 ·have hF:=RepCs.noOwn _ _ _ hno f8
  subst hF
  simp at f1
  exact⟨b,cap,cc,e,ccs,f1,f2,f3,f4,f5,f6,f7,f8,f9⟩
theorem turn_row{κ:Ctx}{G:Gh}{st:St}{a:Act}{w:World}{c sz:Nat}{es es':List PV}{b cap:Nat}{cc:Array Value}{e:TypeId}{row ccs:List Value}(hG:RG κ G st a w)(ho:st.o c=some (sz,es))(hlen:es'.length=es.length)
 (h1:G.hd c=.slice (some ⟨b,0,none⟩) es.length cap) (h2:es.length≤cap) (h3:cap≤maxLen) (h4:∀ p∈es',PV.size p=sz) (h5:w.heap[b]?=some (.cells cc e (0,0))) (h6:row.length=cap*sz) (h7:row.take (es.length*sz)=ccs) (h8:RepCs (Nof κ st G w) w es' ccs []) (h9:G.fp c=[b]):
 R κ { s:=st.s,o:=upd st.o c (some (sz,es')) } a (w.setRow b row.toArray):=by
 have hNb:∀ k,Nof κ st G w k→k≠b:=fun k hk e=>hk.2 (.inr ⟨c,_,ho,by rw[h9,e]; simp⟩)
 have:=R.setObj (es':=es') (D:=[]) (fc':=[b]) (sz:=sz) (w':=w.setRow b row.toArray) hG (by rw[ho]; rfl) (by simp) (by simp) rfl rfl rfl (by simp[World.setRow]) (fun k hk=>setRow_other w _ _ _ (fun e=>hk (by rw[h9,e]; simp))) ?_ (by simp) (fun k hk=>.inl (by rw[h9]; exact hk))
 ·simpa[deadObjs,updAll] using this
 ·simp only[RepC]
  exact .inr ⟨b,cap,row.toArray,e,[],ccs,by rw[h1,hlen],by rw[hlen]; exact h2,h3,h4,setRow_heap w _ _ _ _ _ h5,by simpa using h6,by rw[hlen]; simpa using h7,RepCs.frame (fun _ h=>h) (fun k hk=>setRow_other w _ _ _ (hNb k hk)) _ _ _ (by simp) h8,rfl⟩
theorem valid_copy_view{P:Program}{nt:Nat}{o:Oper}{st:St}{d c sz bytes:Nat}{x y:Operand}{T T':TypeId}{es ys:List PV}(hop:o.op=.call { callee:=.builtin .copy,args:=#[x,y],argTypes:=#[T,T'] })(hdst:o.dst=some d)(hd:d<nt)
 (hT:SlIs P T sz bytes) (hx:ev P st T x=.val (.own c)) (hc:st.o c=some (sz,es)) (hy:ev P st T' y=.val (.pv (.sl false sz ys))) (hno:PV.noOwns es=true):
 Valid P nt o st { rs:=rd x++rd y,ro:=[c],us:=[(d,.val (.pv (.lit (.int .i64 ((min ys.length es.length:Nat):Int)))))],uo:=[(c,some (sz,ys.take es.length++es.drop ys.length))] }:=by
 intro κ st' a w hnt hsame _ hR next Q hnext
 obtain⟨G,hG⟩:=hR
 obtain⟨el,i,z,t1,t2,t3,_⟩:=hT
 have hinfo:(P.info? el).map (·.size)=some sz:=by rw[t2]; simp[t3]
 have h1:=ev_ok (P:=P) (T:=T) hG x d
 rw[ev_congr (fun k hk=>hsame.1 k (by simp[hk])),hx] at h1
 have h1:=slotOk_own h1
 have h2:=ev_ok (P:=P) (T:=T') hG y d
 rw[ev_congr (fun k hk=>hsame.1 k (by simp[hk])),hy] at h2
 rcases h2 with⟨h2,_⟩ | ⟨_,h2,_⟩
 ·simp[aR] at h2
 simp only[RepCV,RepC] at h2
 obtain⟨ax,ycap,g1,_,g3,g4,g5,g6⟩:=h2
 simp at g1
 have hc':st'.o c=some (sz,es):=by rw[hsame.2 c (by simp)]; exact hc
 unfold Oper.wp
 by_cases hn:min ys.length es.length=0
 ·obtain⟨ob,ocap,hhd⟩:=own_sl hG hc'
  have hrun:=copy_call (P:=P) (a:=a) (w:=w) hop (by rw[h1,g1,hhd]; exact run_copy_none w T T' o.type el ob ax _ _ _ _ sz t1 hinfo hn)
  rw[hrun]
  simp only[Oper.upon]
  rw[hdst]
  refine hnext _ _ ?_
  have hsame2:ys.take es.length++es.drop ys.length=es:=by
   rcases Nat.min_eq_zero_iff.1 hn with e | e
   ·rw[List.length_eq_zero_iff.1 e]; simp
   ·rw[List.length_eq_zero_iff.1 e]; simp
  have:=R.set (sv:=.val (.pv (.lit (.int .i64 ((min ys.length es.length:Nat):Int))))) (v:=goInt 0) (d:=d) G hG (by rw[hnt]; exact hd) rfl (by rw[hn]; exact slotOk_lit rfl)
  simp only[St.app,updAll,hsame2]
  have e2:upd st'.o c (some (sz,es))=st'.o:=by funext k; by_cases hk:k=c<;>simp[upd,hk,hc']
  rw[e2]; exact this
 ·have hes:es≠[]:=by rintro rfl; simp at hn
  have hys:ys≠[]:=by rintro rfl; simp at hn
  obtain⟨b,cap,cc,e,ccs,f1,f2,f3,f4,f5,f6,f7,f8,f9⟩:=own_row hG hc' hes hno
  rcases g6 with g6 | ⟨ad,yc,rfl,q2,q3,q4,q5⟩
  ·exact absurd g6 hys
  have hn':∃ n,n=min ys.length es.length:=⟨_,rfl⟩
  obtain⟨n,hn'⟩:=hn'
  have e1:ys.take es.length=ys.take n:=by
   rcases Nat.le_total ys.length es.length with h | h
   ·rw[List.take_of_length_le h,hn',Nat.min_eq_left h,List.take_length]
   ·rw[hn',Nat.min_eq_right h]
  have e2:es.drop ys.length=es.drop n:=by
   rcases Nat.le_total ys.length es.length with h | h
   ·rw[hn',Nat.min_eq_left h]
   ·rw[hn',Nat.min_eq_right h,List.drop_of_length_le h,List.drop_length]
  have hny:n≤ys.length:=by omega
  have hne:n≤es.length:=by omega
  obtain⟨y1,y2,Y1,Y2,r1,r2,r3,r4⟩:=RepCs.split (ys.take n) (ys.drop n) yc [] (by rw[List.take_append_drop]; exact q5)
  have hY:Y1=[]:=by
   have:=congrArg List.length r2; simp at this; exact List.eq_nil_of_length_eq_zero (by omega)
  subst hY
  obtain⟨c1,c2,C1,C2,s1,s2,s3,s4⟩:=RepCs.split (es.take n) (es.drop n) ccs [] (by rw[List.take_append_drop]; exact f8)
  have hC:C2=[]:=by
   have:=congrArg List.length s2; simp at this; exact List.eq_nil_of_length_eq_zero (by omega)
  subst hC
  have hl1:y1.length=n*sz:=by rw[RepCs.length _ _ _ r3,sizes_take g5 hny]
  have hl2:c1.length=n*sz:=by rw[RepCs.length _ _ _ s3,sizes_take f4 hne]
  have hccl:ccs.length=es.length*sz:=by rw[RepCs.length _ _ _ f8,PV.sizes_const f4]
  have hccsz:cc.toList.length=cap*sz:=by simpa using f6
  have hmul:es.length*sz≤cap*sz:=Nat.mul_le_mul_right _ f2
  have hmul2:n*sz≤es.length*sz:=Nat.mul_le_mul_right _ hne
  have hone:∀ v∈y1,v.oneCell'=true:=RepCs.one _ _ _ r3
  have hrun:=copy_call (P:=P) (a:=a) (w:=w) hop (by
   rw[h1,g1,f1]
   exact run_copy_row w T T' o.type el b 0 es.length cap ad ys.length ycap sz y1 cc e t1 hinfo (by rw[hl1,hn']) (fun j v hj=>by
    have:=rowAt_add q2 q4 j v (by rw[r1,List.getElem?_append_left (by exact(List.getElem?_eq_some_iff.1 hj).1)]; exact hj)
    exact this) f5 (by rw[hl1]; simpa using (by omega:n*sz≤cc.toList.length)) hone)
  rw[hrun]
  simp only[Oper.upon]
  rw[hdst]
  refine hnext _ _ ?_
  simp only[Nat.zero_add,List.take_zero,List.nil_append]
  have hT2:=turn_row (es':=ys.take n++es.drop n) (row:=y1++cc.toList.drop y1.length) (ccs:=y1++c2) hG hc' (by rw[aV,List.length_take,List.length_drop]; omega) f1 f2 f3 (fun p hp=>by
   rcases List.mem_append.1 hp with hp | hp
   ·exact g5 p (List.mem_of_mem_take hp)
   ·exact f4 p (List.mem_of_mem_drop hp)) f5 (by rw[aV,List.length_drop]; omega) (by
   have:cc.toList.drop y1.length=c2++cc.toList.drop (es.length*sz):=by
    have h0:=List.take_append_drop (es.length*sz) cc.toList
    rw[f7,s1] at h0
    conv=>lhs; rw[← h0]
    rw[hl1,← hl2,List.append_assoc,List.drop_left]
   rw[this,← List.append_assoc]
   have hl3:(y1++c2).length=es.length*sz:=by rw[aV,hl1]; rw[s1,aV,hl2] at hccl; omega
   rw[← hl3,List.take_left]) (by
   have:=RepCs.append _ _ _ _ _ _ r3 s4
   simpa using this) f9
  obtain⟨G2,hG2⟩:=hT2
  have:=R.set (sv:=.val (.pv (.lit (.int .i64 ((min ys.length es.length:Nat):Int))))) (v:=goInt (Nat.min ys.length es.length)) (d:=d) G2 hG2 (by rw[hnt]; exact hd) rfl (slotOk_lit rfl)
  simp only[St.app,updAll,e1,e2]
  exact this
/-- A part of a row of one's own, as a header alone. -/
def subF(sz lo hi:Nat):List Value→List Nat→List Value→Value
 | [.slice (some a) _ cap],_,_=>.slice (some (if cap=lo then a else a.add (lo*sz))) (hi-lo) (cap-lo)
 | _,_,_=>undef
theorem valid_slice_sub{P:Program}{nt:Nat}{o:Oper}{st:St}{d c sz bytes:Nat}{x:Operand}{lo hi:Option Operand}{T T1:TypeId}{es:List PV}{l h:Nat}(hop:o.op=.slice T x lo hi none)(hdst:o.dst=some d)(hd:d<nt)
 (hT:SlIs P T sz bytes) (hx:ev P st T1 x=.val (.own c)) (hc:st.o c=some (sz,es)) (hlo:OptIs P st 0 l lo) (hhi:OptIs P st es.length h hi) (hlh:l≤h) (hhl:h≤es.length) (hne:0<es.length):
 Valid P nt o st { rs:=rd x++(lo.toList.flatMap rd++hi.toList.flatMap rd),ro:=[c],us:=[(d,.fn [c] [] [] (subF sz l h))] }:=by
 refine valid_pure hdst hd rfl ?_
 intro κ G st' a w hnt hsame hG
 obtain⟨e,i,z,t1,t2,t3,_⟩:=hT
 have h1:=ev_ok (P:=P) (T:=T1) hG x d
 rw[ev_congr (fun k hk=>hsame.1 k (by simp[hk])),hx] at h1
 have g1:=slotOk_own h1
 have hc':st'.o c=some (sz,es):=by rw[hsame.2 c (by simp)]; exact hc
 have h4:=(hG.objs c sz es hc').1
 simp only[RepC] at h4
 rcases h4 with⟨_,h4,_⟩ | ⟨b,cap,cc,e',F',ccs,f1,f2,f3,_⟩
 ·subst h4; simp at hne
 simp at f1
 have g3:es.length≤cap:=f2
 have elo:∃ lv:Option Value,lo.map a.eval=lv∧(match lv with | none=>l=0 | some v=>∃ k,v=.int k (l:Int)):=by
  cases lo with
  | none=>exact⟨none,rfl,hlo⟩
  | some y=>
   obtain⟨k,n,e1,rfl⟩:=hlo
   exact⟨_,rfl,k,ev_lit hG e1 (fun k hk=>hsame.1 k (by simp[hk]))⟩
 have ehi:∃ hv:Option Value,hi.map a.eval=hv∧(match hv with | none=>h=es.length | some v=>∃ k,v=.int k (h:Int)):=by
  cases hi with
  | none=>exact⟨none,rfl,hhi⟩
  | some y=>
   obtain⟨k,n,e1,rfl⟩:=hhi
   exact⟨_,rfl,k,ev_lit hG e1 (fun k hk=>hsame.1 k (by simp[hk]))⟩
 obtain⟨lv,e1,e2⟩:=elo
 obtain⟨hv,e3,e4⟩:=ehi
 have hlb:(Instr.sliceBounds true es.length cap lv hv none).run P w=.ok (l,h,cap) w:=by
  have hc:¬ cap<h:=by omega
  have hl':¬ h<l:=by omega
  have hc1:h≤cap:=by omega
  cases lv with
  | none=>
   simp only at e2; subst e2
   cases hv with
   | none=>simp only at e4; subst e4; simp[Instr.sliceBounds]
   | some v=>obtain⟨k,rfl⟩:=e4; simp[Instr.sliceBounds,Instr.sliceBound,asIntOf,hc,hc1]
  | some u=>
   obtain⟨k',rfl⟩:=e2
   cases hv with
   | none=>simp only at e4; subst e4; simp[Instr.sliceBounds,Instr.sliceBound,asIntOf,hl',hlh]
   | some v=>obtain⟨k,rfl⟩:=e4; simp[Instr.sliceBounds,Instr.sliceBound,asIntOf,hc,hl',hc1,hlh]
 have hrun:(execOp a.eval o).run P w=.ok (.value (.slice (if cap=l then some ⟨b,0,none⟩ else(some (⟨b,0,none⟩:Addr)).map (·.add (l*sz))) (h-l) (cap-l))) w:=by
  simp[execOp,hop,Instr.sliceAt,run_underlying t1,Instr.slice,g1,f1,e1,e3,hlb,sizeOf,typeInfo,t2,t3]
 refine⟨_,hrun,[],by simp[RepCs],?_⟩
 simp only[List.map_cons,List.map_nil,f1,subF]
 split<;>rfl
end
section

/-! ### What an operation does, worked out -/
def fOff(P:Program)(T:TypeId)(k:Nat):Nat:=
 match P.underlying T with
 | some (.struct fs)=>((fs[k]?).map (·.offset)).getD 0
 | _=>0

/-- The zero value of a type, by its description. -/
def zcv(P:Program):Nat→TypeId→CV
 | 0,_=>.gone 0
 | n+1,T=>
  match P.underlying T with
  | some .bool=>.pv (.lit (.bool false))
  | some (.int k)=>.pv (.lit (.int k 0))
  | some .string=>.pv (.lit (.string ⟨#[]⟩))
  | some (.slice e)=>.pv (.sl true (((P.info? e).map (·.size)).getD 0) [])
  | some (.struct fs)=>.node (fs.toList.map fun f=>zcv P n f.type)
  | some (.array m e)=>.node (List.replicate m (zcv P n e))
  | some (.pointer _)=>.pv (.lit (.pointer none))
  | some (.func ..)=>.pv (.lit .nilFunc)
  | some (.map ..)=>.pv (.lit (.map none))
  | _=>.gone 0

def notGone:CV→Bool
 | .gone _=>false
 | _=>true

/-- A call's place in the reckoning: a contract is wanted here ('ms': which arguments are handed over for good). -/
def CallV(P:Program)(f:FuncId)(views owns caps:List PV)(K:List Bool→PV→Prop):Prop:=∃ ms res,Sat P f (mix ms views owns++caps) res∧K ms res
theorem CallV.mk{P:Program}{f:FuncId}{views owns caps args:List PV}{K:List Bool→PV→Prop}(ms:List Bool){res:PV}(h:Sat P f args res)(ha:args=mix ms views owns++caps)(hK:K ms res):CallV P f views owns caps K:=
 ⟨ms,res,ha▸h,hK⟩

/-- A way that parts. -/
def Cond(b:Bool)(A B:Prop):Prop:=(b=true→A)∧(b=false→B)
def dstK(nt:Nat)(o:Oper)(K:Nat→Prop):Prop:=
 match o.dst with
 | some d=>d<nt∧K d
 | none=>False

def loadK(P:Program)(st:St)(T:TypeId)(x:Operand)(K:List Nat→List Nat→SlotV→Prop):SlotV→Prop
 | .bptr r p off=>
  match st.s r with
  | .box c=>(c.okp p=true∧c.offs p=off∧notGone (c.at p)=true∧TyIs P T (c.at p).isAgg (c.at p).size)∧K (r::rd x) [] (.val (c.at p))
  | _=>False
 | .val (.pv (.ptr v))=>TyIs P T (CV.pv v).isAgg v.size∧K (rd x) [] (.val (.pv v))
 | .eptr c sz i p off=>
  match st.o c with
  | some (sz',es)=>(sz'=sz∧i<es.length∧(es.getD i default).okp p=true∧(es.getD i default).offs p=off∧((es.getD i default).at p).noOwn=true∧TyIs P T (CV.pv ((es.getD i default).at p)).isAgg ((es.getD i default).at p).size)∧K (rd x) [c] (.val (.pv ((es.getD i default).at p)))
  | none=>False
 | _=>False

def storeK(P:Program)(st:St)(T:TypeId)(x y:Operand)(z:SlotV)(K:Rec→Prop):SlotV→Prop
 | .bptr r p off=>
  match st.s r,z with
  | .box c,.val z=>(c.okp p=true∧c.offs p=off∧z.size=(c.at p).size∧TyIs P T z.isAgg z.size)∧K { rs:=r::(rd x++rd y),us:=[(r,.box (c.setAt p z))] }
  | _,_=>False
 | .eptr c sz i p off=>
  match st.o c,z with
  | some (sz',es),.val z=>(sz'=sz∧i<es.length∧(es.getD i default).okp p=true∧(es.getD i default).offs p=off∧z.whole st.o=true∧(c::z.names).Nodup∧TyIs P T z.isAgg z.size∧z.size=((es.getD i default).at p).size∧((es.getD i default).setAt p (z.pvo st.o)).size=sz)∧
   K { rs:=rd x++rd y,ro:=c::z.names,uo:=deadObjs z.names++[(c,some (sz,es.set i ((es.getD i default).setAt p (z.pvo st.o))))] }
  | _,_=>False
 | _=>False

def aggK(P:Program)(T:TypeId)(op:BinOp)(xs ys:List PV)(K:Value→Prop):Prop:=
 match op with
 | .eql=>EqS P T (kdsOf xs)∧kdsOf xs=kdsOf ys∧K (.bool (eqPVs xs ys))
 | .neq=>EqS P T (kdsOf xs)∧kdsOf xs=kdsOf ys∧K (.bool (!eqPVs xs ys))
 | _=>False
def nilK(op:BinOp)(es:List PV)(K:SlotV→Prop):Prop:=
 match op with
 | .eql=>K (nilV true es)
 | .neq=>K (nilV false es)
 | _=>False
def nilX(op:BinOp)(K:Value→Prop):Prop:=
 match op with
 | .eql=>K (.bool true)
 | .neq=>K (.bool false)
 | _=>False
def binKK(P:Program)(st:St)(T:TypeId)(op:BinOp)(x y:SlotV)(K:Value→Prop)(H:List Nat→SlotV→Prop):Prop:=
 match x,y with
 | .val (.pv (.lit vx)),.val (.pv (.lit vy))=>binK P T op vx vy K
 | .val (.pv (.agg xs)),.val (.pv (.agg ys))=>aggK P T op xs ys K
 | .val (.pv (.lit (.slice none 0 0))),.val (.pv (.sl true _ []))=>IsSl P T∧nilX op K
 | .val (.pv (.sl true _ [])),.val (.pv (.sl true _ []))=>IsSl P T∧nilX op K
 | .val (.pv (.sl _ _ es)),.val (.pv (.sl true _ []))=>IsSl P T∧nilK op es (H [])
 | .val (.own c),.val (.pv (.sl true _ []))=>match st.o c with
  | some (_,es)=>IsSl P T∧nilK op es (H [c])
  | none=>False
 | _,_=>False

def unKK(op:UnOp)(x:SlotV)(K:Value→Prop):Prop:=
 match x with
 | .val (.pv (.lit vx))=>unK op vx K
 | _=>False

def pickK(c:SlotV)(A B:Prop):Prop:=
 match c with
 | .val (.pv (.lit (.bool t)))=>Cond t A B
 | _=>False

def extractK(x:SlotV)(i:Nat)(K:SlotV→Prop):Prop:=
 match x with
 | .tup xs=>match xs[i]? with
  | some c=>K (.val c)
  | none=>False
 | _=>False

def boxK(x:SlotV)(K:CV→Prop):Prop:=
 match x with
 | .val c=>K c
 | _=>False

def closK(x:SlotV)(K:FuncId→List PV→Prop):Prop:=
 match x with
 | .val (.pv (.clo f caps))=>K f caps
 | _=>False


def lenK(P:Program)(T:TypeId)(st:St)(x:SlotV)(K:List Nat→Nat→Prop):Prop:=
 match x with
 | .val (.pv (.lit (.string s)))=>P.underlying T=some .string∧K [] s.size
 | .val (.pv (.sl _ _ es))=>IsSl P T∧K [] es.length
 | .val (.own c)=>match st.o c with
  | some (_,es)=>IsSl P T∧K [c] es.length
  | none=>False
 | _=>False

def eBytes(P:Program)(T:TypeId):Nat:=
 match P.underlying T with
 | some (.slice e)=>((P.info? e).map (·.bytes)).getD 0
 | _=>0

/-- The zero of a slice's elements. -/
def zel(P:Program)(T:TypeId):PV:=
 match P.underlying T with
 | some (.slice e)=>(zcv P 8 e).pvo (fun _=>none)
 | _=>.tup []

def buildK(P:Program)(st:St)(T:TypeId)(parts:Array (Nat×Operand))(K:List Nat→List Nat→SlotV→Prop):CV→Prop
 | .node zs=>ZeroIs P T (.node zs)∧LayoutOk P T zs∧((partFs P st T parts.toList).all fun p=>decide (p.1<zs.length)&&p.2.size==(zs.getD p.1 default).size)=true∧aB st.o ((partFs P st T parts.toList).map (·.2))=true∧
  K (parts.toList.flatMap fun p=>rd p.2) (av ((partFs P st T parts.toList).map (·.2))) (.val (.node (setParts zs (partFs P st T parts.toList))))
 | _=>False

def idxK(P:Program)(st:St)(T:TypeId)(x y:Operand)(K:List Nat→List Nat→SlotV→Prop)(vx vy:SlotV):Prop:=
 match vy with
 | .val (.pv (.lit (.int _ n)))=>
  match vx with
  | .val (.pv (.sl _ sz es))=>SlIs P T sz (eBytes P T)∧(0≤n∧n<es.length)∧K (rd x++rd y) [] (.val (.pv (.ptr (es.getD n.toNat default))))
  | .val (.own c)=>match st.o c with
   | some (sz,es)=>SlIs P T sz (eBytes P T)∧(0≤n∧n<es.length)∧K (rd x++rd y) [c] (.eptr c sz n.toNat [] 0)
   | none=>False
  | .bptr r p off=>ArrIx P T n (fun k sz=>K (rd x++rd y) [] (.bptr r (p++[k]) (off+k*sz)))
  | _=>False
 | _=>False

def natOf(sv:SlotV)(K:Nat→Prop):Prop:=
 match sv with
 | .val (.pv (.lit (.int _ n)))=>0≤n∧K n.toNat
 | _=>False
def optNat(P:Program)(st:St)(dflt:Nat)(K:Nat→Prop):Option Operand→Prop
 | none=>K dflt
 | some y=>natOf (ev P st 0 y) K
def sliceK(P:Program)(st:St)(T:TypeId)(lo hi:Option Operand)(K:SlotV→Prop)(vx:SlotV):Prop:=
 match vx with
 | .val (.pv (.sl _ sz es))=>SlIs P T sz (eBytes P T)∧optNat P st 0 (fun l=>optNat P st es.length (fun h=>l≤h∧h≤es.length∧K (.val (.pv (.sl false sz ((es.take h).drop l))))) hi) lo
 | .val (.pv (.lit (.string s)))=>P.underlying T=some .string∧optNat P st 0 (fun l=>optNat P st s.size (fun h=>l≤h∧h≤s.size∧K (.val (.pv (.lit (.string (s.extract l h)))))) hi) lo
 | _=>False

def strIdxK(P:Program)(T:TypeId)(K:SlotV→Prop)(vx vy:SlotV):Prop:=
 match vx,vy with
 | .val (.pv (.lit (.string s))),.val (.pv (.lit (.int _ n)))=>P.underlying T=some .string∧(0≤n∧n<s.size)∧K (.val (.pv (.lit (.int .u8 ((s.data.toList.getD n.toNat 0).toNat:Int)))))
 | _,_=>False

def makeK(K:Int→Int→Prop)(vx vy:SlotV):Prop:=
 match vx,vy with
 | .val (.pv (.lit (.int _ n))),.val (.pv (.lit (.int _ m)))=>K n m
 | _,_=>False

def appK(a b:Option (List Nat×Nat×List PV))(K:List Nat→List Nat→Nat→List PV→List PV→Prop):Prop:=
 match a,b with
 | some (D1,sz,es),some (D2,sz',ys)=>sz=sz'∧K D1 D2 sz' es ys
 | _,_=>False

def capK(st:St)(K:List (Nat×PV)→Prop):Option (List (Nat×PV))→Prop
 | some cs=>K cs
 | none=>False
def boxNames(st:St)(n:Nat):List Nat:=
 match st.s n with
 | .box x=>x.names
 | _=>[]

def convK(P:Program)(src dst:TypeId)(K:SlotV→Prop)(vx:SlotV):Prop:=
 match vx with
 | .val (.pv (.lit (.int _ n)))=>(∃ d,P.underlying src=some d)∧∃ k,P.underlying dst=some (.int k)∧K (.val (.pv (.lit (.int k (k.wrap n)))))
 | _=>False

/-- What is made comes in as a result. -/
def madeK(st:St)(nt:Nat)(o:Oper)(rs ro D:List Nat)(res:PV)(K:Rec→Prop):Prop:=
 dstK nt o fun d=>(∀ n∈(resObjs res (16*d)).map (·.1),st.noC n)∧
  K { rs:=rs,ro:=ro,fc:=(resObjs res (16*d)).map (·.1),us:=[(d,resSV res (16*d))],uo:=deadObjs D++newObjs (resObjs res (16*d)) }

/-- A slice's part: of a view a view; the front of one's own is one's own. -/
def slcOK(P:Program)(nt:Nat)(st:St)(o:Oper)(T:TypeId)(x:Operand)(lo hi:Option Operand)(K:Rec→Prop)(vx:SlotV):Prop:=
 match vx with
 | .val (.own c)=>match st.o c with
  | some (sz,es)=>SlIs P T sz (eBytes P T)∧optNat P st 0 (fun l=>optNat P st es.length (fun h=>(l=0∧h≤es.length∧madeK st nt o (rd x++(lo.toList.flatMap rd++hi.toList.flatMap rd)) [c] [c] (.sl true sz (es.take h)) K)∨
   ((l≤h∧h≤es.length∧0<es.length)∧dstK nt o fun d=>K { rs:=rd x++(lo.toList.flatMap rd++hi.toList.flatMap rd),ro:=[c],us:=[(d,.fn [c] [] [] (subF sz l h))] })) hi) lo
  | none=>False
 | .val (.pv (.sl true sz []))=>SlIs P T (eSize P T) (eBytes P T)∧dstK nt o fun d=>optNat P st 0 (fun l=>l=0∧optNat P st 0 (fun h=>h=0∧K { rs:=rd x++(lo.toList.flatMap rd++hi.toList.flatMap rd),us:=[(d,.val (.pv (.sl true sz [])))] }) hi) lo
 | .bptr r p off=>dstK nt o fun d=>match st.s r with
  | .box c=>ArrSl P T lo hi p off c.pure (c.pvw st.o) (fun sz es=>(r==d)=false∧K { rs:=r::rd x,ro:=c.names,us:=[(r,.val (.pv (.ptr (.agg es)))),(d,.val (.pv (.sl false sz es)))] })
  | _=>False
 | vx=>dstK nt o fun d=>sliceK P st T lo hi (fun sv=>K { rs:=rd x++(lo.toList.flatMap rd++hi.toList.flatMap rd),us:=[(d,sv)] }) vx

/-- A conversion: of an integer, or of bytes to a string. -/
def IsBytes(P:Program)(s:TypeId):Prop:=∃ e,P.underlying s=some (.slice e)∧P.underlying e=some (.int .u8)
def bytesK(P:Program)(s t:TypeId)(K:List Nat→List Int→Prop):Option (List Nat×Nat×List PV)→Prop
 | some (D,sz,es)=>sz=1∧IsBytes P s∧P.underlying t=some .string∧∃ ns:List Int,es=ns.map (fun n=>.lit (.int .u8 n))∧K D ns
 | none=>False
def convOK(P:Program)(nt:Nat)(st:St)(o:Oper)(s t:TypeId)(x:Operand)(K:Rec→Prop)(vx:SlotV):Prop:=
 match vx with
 | .val (.pv (.lit _))=>dstK nt o fun d=>convK P s t (fun sv=>K { rs:=rd x,us:=[(d,sv)] }) vx
 | vx=>bytesK P s t (fun D ns=>dstK nt o fun d=>K { rs:=rd x,ro:=D,us:=[(d,.val (.pv (.lit (.string (bsOf ns)))))] }) (srcOf st vx)

/-- The greater or the smaller of two integers. -/
def maxK(g:Bool)(K:Value→Prop)(x y:SlotV):Prop:=
 match x,y with
 | .val (.pv (.lit (.int k a))),.val (.pv (.lit (.int k' b)))=>k=k'∧K (.int k (if g then(if b>a then b else a) else(if b<a then b else a)))
 | _,_=>False

def capNil(P:Program)(T:TypeId)(A:Prop):SlotV→Prop
 | .val (.pv (.sl true _ []))=>IsSl P T∧A
 | _=>False
def appZ(P:Program)(nt:Nat)(st:St)(o:Oper)(T T':TypeId)(x y:Operand)(K:Rec→Prop)(vx vy:SlotV):Prop:=
 match vx,vy with
 | .val (.pv (.sl true _ [])),.val (.pv (.lit (.int _ n)))=>SlIs P T (eSize P T) (eBytes P T)∧(∃ kn,P.underlying T'=some (.int kn))∧ElemZero P T (zel P T)∧(zel P T).size=eSize P T∧(0<n∧n≤1073741824)∧eBytes P T≤65536∧
  madeK st nt o (rd x++rd y) [] [] (.sl true (eSize P T) (List.replicate n.toNat (zel P T))) K
 | _,_=>False
def RecOk(P:Program)(nt:Nat)(st:St)(o:Oper)(K:Rec→Prop):Prop:=∃ r,Valid P nt o st r∧r.fresh st∧K r
def bltK(P:Program)(nt:Nat)(st:St)(o:Oper)(K:Rec→Prop):Builtin→List Operand→List TypeId→Prop
 | .len,[x],[T]=>dstK nt o fun d=>lenK P T st (ev P st T x) fun ro n=>K { rs:=rd x,ro:=ro,us:=[(d,.val (.pv (.lit (.int .i64 n))))] }
 | .cap,[x],[T]=>dstK nt o fun d=>capNil P T (K { rs:=rd x,us:=[(d,.val (.pv (.lit (.int .i64 0))))] }) (ev P st T x)
 | .append,[x,y],[T,T']=>appZ P nt st o T T' x y K (ev P st T x) (ev P st T' y)∨T=T'∧appK (baseOf st (ev P st T x)) (srcOf st (ev P st T y)) fun D1 D2 sz es ys=>SlIs P T sz (eBytes P T)∧(D1++D2).Nodup∧(∀ e∈es,PV.size e=sz)∧(∀ e∈ys,PV.size e=sz)∧
  es.length+ys.length≤1073741824∧eBytes P T≤65536∧madeK st nt o (rd x++rd y) (D1++D2) (D1++D2) (.sl true sz (es++ys)) K
 | .max,[x,y],[T,T']=>dstK nt o fun d=>maxK true (fun v=>K { rs:=rd x++rd y,us:=[(d,.val (.pv (.lit v)))] }) (ev P st T x) (ev P st T' y)
 | .min,[x,y],[T,T']=>dstK nt o fun d=>maxK false (fun v=>K { rs:=rd x++rd y,us:=[(d,.val (.pv (.lit v)))] }) (ev P st T x) (ev P st T' y)
 | .copy,[_,_],[_,_]=>RecOk P nt st o K
 | .delete,[_,_],[_,_]=>RecOk P nt st o K
 | .clear,[_],[_]=>RecOk P nt st o K
 | _,_,_=>False


def callK(P:Program)(nt:Nat)(st:St)(o:Oper)(c:Call)(K:Rec→Prop):Prop:=
 match c.callee with
 | .value g=>
  (closK (ev P st 0 g) fun f caps=>(∀ p∈caps,PV.size p=1∧(CV.pv p).isAgg=false)∧aB st.o (argCVs P st c.args.toList c.argTypes.toList)=true∧(∀ d,o.dst=some d→d<nt)∧
   ((CallV P f (aK st.o (argCVs P st c.args.toList c.argTypes.toList)) (aD st.o (argCVs P st c.args.toList c.argTypes.toList)) caps fun ms res=>
    (mixNames ms (argCVs P st c.args.toList c.argTypes.toList)).Nodup∧(mixNames ms (argCVs P st c.args.toList c.argTypes.toList)=[]∨o.dst.isSome=true)∧
    (mixPure ms (argCVs P st c.args.toList c.argTypes.toList)||(res.noView&&(viewNames ms (argCVs P st c.args.toList c.argTypes.toList)).all fun n=>!(mixNames ms (argCVs P st c.args.toList c.argTypes.toList)).contains n))=true∧
    (∀ n∈(resObjs res (16*o.dst.getD 0)).map (·.1),st.noC n)∧
    K { rs:=rd g++c.args.toList.flatMap rd,ro:=av (argCVs P st c.args.toList c.argTypes.toList),fc:=(resObjs res (16*o.dst.getD 0)).map (·.1),us:=(o.dst.toList.map fun d=>(d,resSV res (16*o.dst.getD 0))),uo:=(o.dst.toList.flatMap fun _=>deadObjs (mixNames ms (argCVs P st c.args.toList c.argTypes.toList))++newObjs (resObjs res (16*o.dst.getD 0))) })∨RecOk P nt st o K))∨RecOk P nt st o K
 | .builtin b=>bltK P nt st o K b c.args.toList c.argTypes.toList
 | _=>False

def nilCkK(v:SlotV)(K:Prop):Prop:=
 match v with
 | .bptr ..=>K
 | .eptr ..=>K
 | .val (.pv (.ptr _))=>K
 | _=>False
theorem valid_nilCheck{P:Program}{nt:Nat}{o:Oper}{st:St}{d:Nat}{x:Operand}{K:Prop}(hop:o.op=.nilCheck x)(hdst:o.dst=some d)(hd:d<nt)(hx:nilCkK (ev P st 0 x) K):
 K∧Valid P nt o st { rs:=rd x,us:=[(d,ev P st 0 x)] }:=by
 have key:K∧((∃ r p q,ev P st 0 x=.bptr r p q)∨(∃ v,ev P st 0 x=.val (.pv (.ptr v)))∨∃ c sz i p q,ev P st 0 x=.eptr c sz i p q):=by
  unfold nilCkK at hx
  split at hx
  ·rename_i r p q e
   exact⟨hx,.inl ⟨_,_,_,e⟩⟩
  ·rename_i c sz i p q e
   exact⟨hx,.inr (.inr ⟨_,_,_,_,_,e⟩)⟩
  ·rename_i v e
   exact⟨hx,.inr (.inl ⟨_,e⟩)⟩
  ·exact hx.elim
 refine⟨key.1,valid_pure hdst hd ev_notBox ?_⟩
 intro κ G st' a w _ hsame hG
 have h1:=ev_ok (P:=P) (T:=0) hG x d
 rw[ev_congr hsame.1] at h1
 have:∃ ad,a.eval x=.pointer (some ad):=by
  rcases key.2 with⟨r,p,q,e⟩ | ⟨v,e⟩ | ⟨c,sz,i,p,q,e⟩
  ·rw[e] at h1; exact⟨_,h1⟩
  ·rw[e] at h1
   rcases h1 with⟨h1,_⟩ | ⟨_,h1,_⟩
   ·simp[aR] at h1
   ·simp only[RepCV,RepC] at h1
    obtain⟨ad,ccs,g1,_⟩:=h1
    simp at g1
    exact⟨_,g1⟩
  ·rw[e] at h1
   obtain⟨b,n,cap,_,h3⟩:=h1
   exact⟨_,h3⟩
 obtain⟨ad,e⟩:=this
 exact⟨a.eval x,by simp[execOp,hop,e],h1⟩
theorem fresh_none{st:St}{r:Rec}(h1:r.fr=[])(h2:r.fc=[])(h3:r.rp=[]:=by rfl):r.fresh st:=⟨by simp[h1,h3],by simp[h2]⟩
/-- A value goes on; of a variable in memory only its place is named. -/
def mvSK(t d:Nat)(K:Rec→Prop):SlotV→Prop
 | .box _=>K { rp:=[t],us:=[(d,.bptr t [] 0)] }
 | v=>K { rs:=[t],us:=[(d,ptrOf t v)] }
def mvK(P:Program)(st:St)(T d:Nat)(K:Rec→Prop):Operand→Prop
 | .tmp t=>mvSK t d K (st.s t)
 | x=>K { rs:=rd x,us:=[(d,ev P st T x)] }
theorem mvK_ok{P:Program}{nt:Nat}{o:Oper}{st:St}{d:Nat}{x:Operand}{T:TypeId}{K:Rec→Prop}(hop:o.op=.move x)(hdst:o.dst=some d)(hd:d<nt)(h:mvK P st T d K x):RecOk P nt st o K:=by
 cases x with
 | tmp t=>
  simp only[mvK] at h
  unfold mvSK at h
  split at h
  ·rename_i hs
   exact⟨_,valid_move_box hop hdst hd,⟨⟨by simp,fun k hk=>by simp at hk; subst hk; rw[hs]; rfl⟩,by simp⟩,h⟩
  ·exact⟨_,valid_move (T:=T) (.inl hop) hdst hd,fresh_none rfl rfl,h⟩
 | const v=>exact⟨_,valid_move (T:=T) (.inl hop) hdst hd,fresh_none rfl rfl,h⟩
 | func f=>exact⟨_,valid_move (T:=T) (.inl hop) hdst hd,fresh_none rfl rfl,h⟩
 | global g=>exact⟨_,valid_move (T:=T) (.inl hop) hdst hd,fresh_none rfl rfl,h⟩
def recO(P:Program)(nt:Nat)(st:St)(o:Oper)(K:Rec→Prop):Prop:=
 match o.op with
 | .move x=>dstK nt o fun d=>mvK P st o.type d K x
 | .assign x=>dstK nt o fun d=>K { rs:=rd x,us:=[(d,ev P st o.type x)] }
 | .pick c x y=>dstK nt o fun d=>pickK (ev P st 0 c) (K { rs:=rd c++rd x,us:=[(d,ev P st o.type x)] }) (K { rs:=rd c++rd y,us:=[(d,ev P st o.type y)] })
 | .alloc T=>dstK nt o fun d=>ZeroIs P T (zcv P 8 T)∧st.noR d∧K { fr:=[d],us:=[(d,.box (zcv P 8 T))] }
 | .box T x=>dstK nt o fun d=>boxK (ev P st T x) fun c=>st.noR d∧K { rs:=rd x,fr:=[d],us:=[(d,.box c)] }
 | .load T x=>dstK nt o fun d=>loadK P st T x (fun rs ro sv=>K { rs:=rs,ro:=ro,us:=[(d,sv)] }) (ev P st 0 x)
 | .store T x y=>o.dst=none∧storeK P st T x y (ev P st T y) K (ev P st 0 x)
 | .binOp op T x y _=>dstK nt o fun d=>binKK P st T op (ev P st T x) (ev P st T y) (fun v=>K { rs:=rd x++rd y,us:=[(d,.val (.pv (.lit v)))] }) (fun ro sv=>K { rs:=rd x++rd y,ro:=ro,us:=[(d,sv)] })
 | .unOp op T x=>dstK nt o fun d=>unKK op (ev P st T x) fun v=>K { rs:=rd x,us:=[(d,.val (.pv (.lit v)))] }
 | .extract x i=>dstK nt o fun d=>extractK (ev P st 0 x) i fun sv=>K { rs:=rd x,us:=[(d,sv)] }
 | .fieldAddr T x k=>dstK nt o fun d=>FieldIs P T k (fOff P T k)∧addF (ev P st 0 x) k (fOff P T k) fun sv=>K { rs:=rd x,us:=[(d,sv)] }
 | .call c=>callK P nt st o c K
 | .build T parts=>dstK nt o fun d=>buildK P st T parts (fun rs ro sv=>K { rs:=rs,ro:=ro,us:=[(d,sv)] }) (zcv P 8 T)
 | .buildSlice T n parts=>(SlIs P T (eSize P T) (eBytes P T)∧parts.toList.map (·.1)=List.range n∧aB st.o (partCVs P st (elemOfT P T) parts.toList)=true∧(∀ x∈partCVs P st (elemOfT P T) parts.toList,x.size=eSize P T)∧
  (av (partCVs P st (elemOfT P T) parts.toList)).Nodup∧n*eSize P T≤16777216∧
  madeK st nt o (parts.toList.flatMap fun p=>rd p.2) (av (partCVs P st (elemOfT P T) parts.toList)) (av (partCVs P st (elemOfT P T) parts.toList)) (.sl true (eSize P T) (aD st.o (partCVs P st (elemOfT P T) parts.toList))) K)∨RecOk P nt st o K
 | .makeSlice T x y=>makeK (fun n m=>SlIs P T (eSize P T) (eBytes P T)∧ElemZero P T (zel P T)∧(zel P T).size=eSize P T∧0≤n∧n≤m∧m≤1073741824∧eBytes P T≤65536∧
  madeK st nt o (rd x++rd y) [] [] (.sl true (eSize P T) (List.replicate n.toNat (zel P T))) K) (ev P st 0 x) (ev P st 0 y)
 | .indexAddr T x y=>dstK nt o fun d=>idxK P st T x y (fun rs ro sv=>K { rs:=rs,ro:=ro,us:=[(d,sv)] }) (ev P st 0 x) (ev P st 0 y)
 | .index T x y=>dstK nt o fun d=>strIdxK P T (fun sv=>K { rs:=rd x++rd y,us:=[(d,sv)] }) (ev P st 0 x) (ev P st 0 y)
 | .slice T x lo hi none=>slcOK P nt st o T x lo hi K (ev P st 0 x)
 | .convert s t x=>convOK P nt st o s t x K (ev P st 0 x)
 | .makeFunc (.func f) first captured=>first.isEmpty=true∧((dstK nt o fun d=>capK st (fun cs=>((captured.toList.flatMap rd).all fun n=>(boxNames st n).isEmpty)=true∧
  K { rs:=captured.toList.flatMap rd,us:=frozen cs++[(d,.val (.pv (.clo f (cs.map fun c=>.ptr c.2))))] }) (capsOf st captured.toList))∨RecOk P nt st o K)
 | .makeMap _ _=>RecOk P nt st o K
 | .lookup _ _ _ _=>RecOk P nt st o K
 | .mapUpdate _ _ _ _=>RecOk P nt st o K
 | .insert _ _ _ _=>RecOk P nt st o K
 | .nilCheck x=>dstK nt o fun d=>nilCkK (ev P st 0 x) (K { rs:=rd x,us:=[(d,ev P st 0 x)] })
 | .range _ _=>RecOk P nt st o K
 | .entry _=>RecOk P nt st o K
 | _=>False



theorem dstK_iff{nt:Nat}{o:Oper}{K:Nat→Prop}(h:dstK nt o K):∃ d,o.dst=some d∧d<nt∧K d:=by
 unfold dstK at h
 split at h
 ·exact⟨_,by assumption,h.1,h.2⟩
 ·exact h.elim

theorem lenK_ok{P:Program}{nt:Nat}{o:Oper}{st:St}{d:Nat}{x:Operand}{T:TypeId}{K:List Nat→Nat→Prop}(hop:o.op=.call { callee:=.builtin .len,args:=#[x],argTypes:=#[T] })(hdst:o.dst=some d)(hd:d<nt)
 (hx:lenK P T st (ev P st T x) K):∃ ro n,K ro n∧Valid P nt o st { rs:=rd x,ro:=ro,us:=[(d,.val (.pv (.lit (.int .i64 n))))] }:=by
 unfold lenK at hx
 split at hx
 ·rename_i s he
  refine⟨[],_,hx.2,valid_pure hdst hd rfl ?_⟩
  intro κ G st' a w _ hsame hG
  have h1:=ev_lit (P:=P) (T:=T) hG he hsame.1
  exact⟨.int .i64 s.size,by simp[execOp,hop,resolve,invoke,builtin,Builtin.len_,run_underlying hx.1,h1,goInt],slotOk_lit rfl⟩
 ·rename_i o' sz es he
  refine⟨[],_,hx.2,valid_pure hdst hd rfl ?_⟩
  intro κ G st' a w _ hsame hG
  have h1:=ev_ok (P:=P) (T:=T) hG x d
  rw[ev_congr hsame.1,he] at h1
  obtain⟨b,cap,h2⟩:=slotOk_sl h1
  obtain⟨e,hT⟩:=hx.1
  exact⟨.int .i64 es.length,by simp[execOp,hop,resolve,invoke,builtin,Builtin.len_,run_underlying hT,h2,goInt],slotOk_lit rfl⟩
 ·rename_i c he
  split at hx
  ·rename_i sz es ho
   refine⟨[c],_,hx.2,valid_pure hdst hd rfl ?_⟩
   intro κ G st' a w _ hsame hG
   have h1:=ev_ok (P:=P) (T:=T) hG x d
   rw[ev_congr hsame.1,he] at h1
   have ho':st'.o c=some (sz,es):=by rw[hsame.2 c (by simp)]; exact ho
   obtain⟨b,cap,h2⟩:=own_sl hG ho'
   have h3:=slotOk_own h1
   obtain⟨e,hT⟩:=hx.1
   exact⟨.int .i64 es.length,by simp[execOp,hop,resolve,invoke,builtin,Builtin.len_,run_underlying hT,h3,h2,goInt],slotOk_lit rfl⟩
  ·exact hx.elim
 ·exact hx.elim

theorem loadK_ok{P:Program}{nt:Nat}{o:Oper}{st:St}{d:Nat}{x:Operand}{T:TypeId}{K:List Nat→List Nat→SlotV→Prop}(hop:o.op=.load T x)(hdst:o.dst=some d)(hd:d<nt)(hx:loadK P st T x K (ev P st 0 x)):
 ∃ rs ro sv,K rs ro sv∧Valid P nt o st { rs:=rs,ro:=ro,us:=[(d,sv)] }:=by
 unfold loadK at hx
 split at hx
 ·rename_i r p off he
  split at hx
  ·rename_i c hr
   obtain⟨⟨h1,h2,h3,h4⟩,hK⟩:=hx
   exact⟨_,_,_,hK,valid_load_box hop hdst hd he hr h1 h2 h4 (fun n e=>by rw[e] at h3; simp[notGone] at h3)⟩
  ·exact hx.elim
 ·rename_i v he
  exact⟨_,_,_,hx.2,valid_load_ptr hop hdst hd he hx.1⟩
 ·rename_i c sz i p off he
  split at hx
  ·rename_i sz' es hc
   obtain⟨⟨rfl,h1,h2,h3,h4,h5⟩,hK⟩:=hx
   exact⟨_,_,_,hK,valid_load_elem hop hdst hd he hc h1 h2 h3 rfl h4 h5⟩
  ·exact hx.elim
 ·exact hx.elim

theorem storeK_ok{P:Program}{nt:Nat}{o:Oper}{st:St}{x y:Operand}{T:TypeId}{K:Rec→Prop}(hop:o.op=.store T x y)(hdst:o.dst=none)(hx:storeK P st T x y (ev P st T y) K (ev P st 0 x)):
 RecOk P nt st o K:=by
 unfold storeK at hx
 split at hx
 ·rename_i r p off he
  split at hx
  ·rename_i c z hr hz
   obtain⟨⟨h1,h2,h3,h4⟩,hK⟩:=hx
   exact⟨_,valid_store_box hop hdst he hr h1 h2 hz h4 h3,fresh_none rfl rfl,hK⟩
  ·exact hx.elim
 ·rename_i c sz i p off he
  split at hx
  ·rename_i sz' es z hc hz
   obtain⟨⟨rfl,h1,h2,h3,h4,h5,h6,h7,h8⟩,hK⟩:=hx
   exact⟨_,valid_store_elem hop hdst he hc h1 h2 h3 hz h4 h5 h6 h7 h8,fresh_none rfl rfl,hK⟩
  ·exact hx.elim
 ·exact hx.elim

theorem madeK_ok{P:Program}{st:St}{nt:Nat}{o:Oper}{rs ro D:List Nat}{res:PV}{K:Rec→Prop}(h:madeK st nt o rs ro D res K)
 (H:∀ d,o.dst=some d→d<nt→Valid P nt o st { rs:=rs,ro:=ro,fc:=(resObjs res (16*d)).map (·.1),us:=[(d,resSV res (16*d))],uo:=deadObjs D++newObjs (resObjs res (16*d)) }):RecOk P nt st o K:=by
 obtain⟨d,h1,h2,h3,h4⟩:=dstK_iff h
 exact⟨_,H d h1 h2,⟨by simp,h3⟩,h4⟩

theorem natOf_ok{P:Program}{st:St}{y:Operand}{K:Nat→Prop}(h:natOf (ev P st 0 y) K):∃ m,K m∧∃ k n,ev P st 0 y=.val (.pv (.lit (.int k n)))∧n=(m:Int):=by
 unfold natOf at h
 split at h
 ·rename_i k n he
  exact⟨n.toNat,h.2,k,n,he,by omega⟩
 ·exact h.elim
theorem optNat_ok{P:Program}{st:St}{dflt:Nat}{K:Nat→Prop}{y:Option Operand}(h:optNat P st dflt K y):∃ m,K m∧OptIs P st dflt m y:=by
 cases y with
 | none=>exact⟨dflt,h,rfl⟩
 | some y=>exact natOf_ok h

theorem valid_slice_str{P:Program}{nt:Nat}{o:Oper}{st:St}{d:Nat}{x:Operand}{lo hi:Option Operand}{T T1:TypeId}{s:ByteArray}{l h:Nat}(hop:o.op=.slice T x lo hi none)(hdst:o.dst=some d)(hd:d<nt)
 (hT:P.underlying T=some .string) (hx:ev P st T1 x=.val (.pv (.lit (.string s)))) (hlo:OptIs P st 0 l lo)
 (hhi:OptIs P st s.size h hi) (hlh:l≤h) (hhl:h≤s.size):
 Valid P nt o st { rs:=rd x++(lo.toList.flatMap rd++hi.toList.flatMap rd),us:=[(d,.val (.pv (.lit (.string (s.extract l h)))))] }:=by
 refine valid_pure hdst hd rfl ?_
 intro κ G st' a w hnt hsame hG
 have e0:=ev_lit hG hx (fun k hk=>hsame.1 k (by simp[hk]))
 have elo:∃ lv:Option Value,lo.map a.eval=lv∧(match lv with | none=>l=0 | some v=>∃ k,v=.int k (l:Int)):=by
  cases lo with
  | none=>exact⟨none,rfl,hlo⟩
  | some y=>
   obtain⟨k,n,e1,rfl⟩:=hlo
   exact⟨_,rfl,k,ev_lit hG e1 (fun k hk=>hsame.1 k (by simp[hk]))⟩
 have ehi:∃ hv:Option Value,hi.map a.eval=hv∧(match hv with | none=>h=s.size | some v=>∃ k,v=.int k (h:Int)):=by
  cases hi with
  | none=>exact⟨none,rfl,hhi⟩
  | some y=>
   obtain⟨k,n,e1,rfl⟩:=hhi
   exact⟨_,rfl,k,ev_lit hG e1 (fun k hk=>hsame.1 k (by simp[hk]))⟩
 obtain⟨lv,e1,e2⟩:=elo
 obtain⟨hv,e3,e4⟩:=ehi
 have hlb:(Instr.sliceBounds false s.size s.size lv hv none).run P w=.ok (l,h,s.size) w:=by
  have hc:¬ s.size<h:=by omega
  have hl':¬ h<l:=by omega
  cases lv with
  | none=>
   simp only at e2; subst e2
   cases hv with
   | none=>simp only at e4; subst e4; simp[Instr.sliceBounds]
   | some v=>obtain⟨k,rfl⟩:=e4; simp[Instr.sliceBounds,Instr.sliceBound,asIntOf,hc,hhl]
  | some u=>
   obtain⟨k',rfl⟩:=e2
   cases hv with
   | none=>simp only at e4; subst e4; simp[Instr.sliceBounds,Instr.sliceBound,asIntOf,hl',hlh]
   | some v=>obtain⟨k,rfl⟩:=e4; simp[Instr.sliceBounds,Instr.sliceBound,asIntOf,hc,hl',hhl,hlh]
 exact⟨.string (s.extract l h),by simp[execOp,hop,Instr.sliceAt,run_underlying hT,Instr.slice,e0,e1,e3,hlb],slotOk_lit rfl⟩

theorem maxK_ok{P:Program}{nt:Nat}{o:Oper}{st:St}{d:Nat}{x y:Operand}{T T':TypeId}{g:Bool}{K:Value→Prop}(hop:o.op=.call { callee:=.builtin (if g then .max else .min),args:=#[x,y],argTypes:=#[T,T'] })(hdst:o.dst=some d)(hd:d<nt)
 (h:maxK g K (ev P st T x) (ev P st T' y)):∃ v,K v∧Valid P nt o st { rs:=rd x++rd y,us:=[(d,.val (.pv (.lit v)))] }:=by
 unfold maxK at h
 split at h
 ·rename_i k a k' b hx hy
  obtain⟨rfl,h⟩:=h
  refine⟨_,h,valid_pure hdst hd rfl ?_⟩
  intro κ G st' ac w _ hsame hG
  have e1:=ev_lit (P:=P) hG hx (fun k hk=>hsame.1 k (by simp[hk]))
  have e2:=ev_lit (P:=P) hG hy (fun k hk=>hsame.1 k (by simp[hk]))
  refine⟨_,?_,slotOk_lit rfl⟩
  cases g with
  | true=>simp[execOp,hop,resolve,invoke,builtin,Builtin.max_,Builtin.max2,e1,e2]
  | false=>simp[execOp,hop,resolve,invoke,builtin,Builtin.min_,Builtin.min2,e1,e2]
 ·exact h.elim

theorem bltK_ok{P:Program}{nt:Nat}{st:St}{o:Oper}{K:Rec→Prop}{b:Builtin}{args:Array Operand}{tys:Array TypeId}(hop:o.op=.call { callee:=.builtin b,args:=args,argTypes:=tys })
 (h:bltK P nt st o K b args.toList tys.toList):RecOk P nt st o K:=by
 unfold bltK at h
 split at h
 ·rename_i x T ha ht
  have e1:args=#[x]:=by apply Array.ext'; simpa using ha
  have e2:tys=#[T]:=by apply Array.ext'; simpa using ht
  subst e1; subst e2
  obtain⟨d,h1,h2,h3⟩:=dstK_iff h
  obtain⟨ro,n,h4,h5⟩:=lenK_ok hop h1 h2 h3
  exact⟨_,h5,fresh_none rfl rfl,h4⟩
 ·rename_i x T ha ht
  have e1:args=#[x]:=by apply Array.ext'; simpa using ha
  have e2:tys=#[T]:=by apply Array.ext'; simpa using ht
  subst e1; subst e2
  obtain⟨d,h1,h2,h3⟩:=dstK_iff h
  unfold capNil at h3
  split at h3
  ·rename_i hx
   exact⟨_,valid_cap_nil hop h1 h2 h3.1 hx,fresh_none rfl rfl,h3.2⟩
  ·exact h3.elim
 ·rename_i x y T T' ha ht
  have e1:args=#[x,y]:=by apply Array.ext'; simpa using ha
  rcases h with h | ⟨rfl,h⟩
  ·have e2:tys=#[T,T']:=by apply Array.ext'; simpa using ht
   subst e1; subst e2
   unfold appZ at h
   split at h
   ·rename_i hx hy
    obtain⟨g1,⟨kn,g2⟩,g3,g4,⟨g5,g6⟩,g7,g8⟩:=h
    exact madeK_ok g8 (fun d hd1 hd2=>valid_append_zeros hop hd1 hd2 g1 g2 g3 g4 hx hy g5 g6 g7)
   ·exact h.elim
  have e2:tys=#[T,T]:=by apply Array.ext'; simpa using ht
  subst e1; subst e2
  unfold appK at h
  split at h
  ·rename_i D1 sz es D2 sz' ys hx hy
   obtain⟨rfl,h1,h2,h3,h4,h5,h6,h7⟩:=h
   refine madeK_ok h7 (fun d hd1 hd2=>valid_append hop hd1 hd2 h1 hx hy h2 h3 h4 ?_ (by omega))
   calc (es.length+ys.length)*eBytes P T≤1073741824*65536:=Nat.mul_le_mul h5 h6
    _≤140737488355328:=by omega
  ·exact h.elim
 ·rename_i x y T T' ha ht
  have e1:args=#[x,y]:=by apply Array.ext'; simpa using ha
  have e2:tys=#[T,T']:=by apply Array.ext'; simpa using ht
  subst e1; subst e2
  obtain⟨d,h1,h2,h3⟩:=dstK_iff h
  obtain⟨v,h4,h5⟩:=maxK_ok (g:=true) hop h1 h2 h3
  exact⟨_,h5,fresh_none rfl rfl,h4⟩
 ·rename_i x y T T' ha ht
  have e1:args=#[x,y]:=by apply Array.ext'; simpa using ha
  have e2:tys=#[T,T']:=by apply Array.ext'; simpa using ht
  subst e1; subst e2
  obtain⟨d,h1,h2,h3⟩:=dstK_iff h
  obtain⟨v,h4,h5⟩:=maxK_ok (g:=false) hop h1 h2 h3
  exact⟨_,h5,fresh_none rfl rfl,h4⟩
 ·exact h
 ·exact h
 ·exact h
 ·exact h.elim

theorem recO_ok{P:Program}{nt:Nat}{st:St}{o:Oper}{K:Rec→Prop}(h:recO P nt st o K):RecOk P nt st o K:=by
 unfold recO at h
 split at h
 ·rename_i x hop
  obtain⟨d,h1,h2,h3⟩:=dstK_iff h
  exact mvK_ok hop h1 h2 h3
 ·rename_i x hop
  obtain⟨d,h1,h2,h3⟩:=dstK_iff h
  exact⟨_,valid_move (.inr hop) h1 h2,fresh_none rfl rfl,h3⟩
 ·rename_i c x y hop
  obtain⟨d,h1,h2,h3⟩:=dstK_iff h
  unfold pickK at h3
  split at h3
  ·rename_i t he
   cases t with
   | true=>exact⟨_,valid_pick (T:=o.type) (t:=true) hop h1 h2 he,fresh_none rfl rfl,h3.1 rfl⟩
   | false=>exact⟨_,valid_pick (T:=o.type) (t:=false) hop h1 h2 he,fresh_none rfl rfl,h3.2 rfl⟩
  ·exact h3.elim
 ·rename_i T hop
  obtain⟨d,h1,h2,h3,h4,h5⟩:=dstK_iff h
  exact⟨_,valid_alloc hop h1 h2 h3,⟨by simpa using h4,by simp⟩,h5⟩
 ·rename_i T x hop
  obtain⟨d,h1,h2,h3⟩:=dstK_iff h
  unfold boxK at h3
  split at h3
  ·rename_i c he
   exact⟨_,valid_box hop h1 h2 he,⟨by simpa using h3.1,by simp⟩,h3.2⟩
  ·exact h3.elim
 ·rename_i T x hop
  obtain⟨d,h1,h2,h3⟩:=dstK_iff h
  obtain⟨rs,ro,sv,h4,h5⟩:=loadK_ok hop h1 h2 h3
  exact⟨_,h5,fresh_none rfl rfl,h4⟩
 ·rename_i T x y hop
  exact storeK_ok hop h.1 h.2
 ·rename_i op T x y U hop
  obtain⟨d,h1,h2,h3⟩:=dstK_iff h
  unfold binKK at h3
  split at h3
  ·rename_i vx vy hx hy
   obtain⟨v,g1,g2,g3⟩:=binK_run h3
   exact⟨_,valid_bin hop h1 h2 hx hy g1 g2,fresh_none rfl rfl,g3⟩
  ·rename_i xs ys hx hy
   unfold aggK at h3
   split at h3
   ·exact⟨_,valid_eq_struct (neg:=false) hop h1 h2 hx hy h3.1 h3.2.1,fresh_none rfl rfl,h3.2.2⟩
   ·exact⟨_,valid_eq_struct (neg:=true) hop h1 h2 hx hy h3.1 h3.2.1,fresh_none rfl rfl,h3.2.2⟩
   ·exact h3.elim
  ·rename_i hx hy
   unfold nilX at h3
   split at h3
   ·exact⟨_,valid_nilex (neg:=false) hop h1 h2 h3.1 hx (.inl rfl) hy,fresh_none rfl rfl,h3.2⟩
   ·exact⟨_,valid_nilex (neg:=true) hop h1 h2 h3.1 hx (.inl rfl) hy,fresh_none rfl rfl,h3.2⟩
   ·exact h3.2.elim
  ·rename_i hx hy
   unfold nilX at h3
   split at h3
   ·exact⟨_,valid_nilex (neg:=false) hop h1 h2 h3.1 hx (.inr ⟨_,rfl⟩) hy,fresh_none rfl rfl,h3.2⟩
   ·exact⟨_,valid_nilex (neg:=true) hop h1 h2 h3.1 hx (.inr ⟨_,rfl⟩) hy,fresh_none rfl rfl,h3.2⟩
   ·exact h3.2.elim
  ·rename_i hx hy
   unfold nilK at h3
   split at h3
   ·exact⟨_,valid_nilcmp_view (neg:=false) hop h1 h2 h3.1 hx hy,fresh_none rfl rfl,h3.2⟩
   ·exact⟨_,valid_nilcmp_view (neg:=true) hop h1 h2 h3.1 hx hy,fresh_none rfl rfl,h3.2⟩
   ·exact h3.2.elim
  ·rename_i hx hy
   split at h3
   ·rename_i ho
    unfold nilK at h3
    split at h3
    ·exact⟨_,valid_nilcmp_own (neg:=false) hop h1 h2 h3.1 hx ho hy,fresh_none rfl rfl,h3.2⟩
    ·exact⟨_,valid_nilcmp_own (neg:=true) hop h1 h2 h3.1 hx ho hy,fresh_none rfl rfl,h3.2⟩
    ·exact h3.2.elim
   ·exact h3.elim
  ·exact h3.elim
 ·rename_i op T x hop
  obtain⟨d,h1,h2,h3⟩:=dstK_iff h
  unfold unKK at h3
  split at h3
  ·rename_i vx hx
   obtain⟨v,g1,g2,g3⟩:=unK_run h3
   exact⟨_,valid_un hop h1 h2 hx g1 g2,fresh_none rfl rfl,g3⟩
  ·exact h3.elim
 ·rename_i x i hop
  obtain⟨d,h1,h2,h3⟩:=dstK_iff h
  unfold extractK at h3
  split at h3
  ·rename_i xs hx
   split at h3
   ·rename_i c hc
    exact⟨_,valid_extract hop h1 h2 hx hc,fresh_none rfl rfl,h3⟩
   ·exact h3.elim
  ·exact h3.elim
 ·rename_i T x k hop
  obtain⟨d,h1,h2,h3,h4⟩:=dstK_iff h
  unfold addF at h4
  split at h4
  ·rename_i r p o' he
   exact⟨_,valid_fieldAddr hop h1 h2 h3 (by rw[he]; rfl),fresh_none rfl rfl,h4⟩
  ·rename_i c sz i p o' he
   exact⟨_,valid_fieldAddr hop h1 h2 h3 (by rw[he]; rfl),fresh_none rfl rfl,h4⟩
  ·rename_i v he
   exact⟨_,valid_fieldAddr hop h1 h2 h3 (by rw[he]; exact⟨h4.1,rfl⟩),fresh_none rfl rfl,h4.2⟩
  ·exact h4.elim
 ·rename_i c hop
  unfold callK at h
  split at h
  ·rename_i g hc
   rcases h with h | h
   case inr=>exact h
   unfold closK at h
   split at h
   ·rename_i f caps he
    obtain⟨h1,h2,h3,⟨ms,res,h4,h5,h5',h6,h7,h8⟩ | hrec⟩:=h
    case inr=>exact hrec
    refine⟨_,valid_call (by rw[hop]; cases c; simp only at hc; rw[hc]) rfl h3 h5' he h1 rfl h2 h5 ?_ h4,⟨by simp,h7⟩,h8⟩
    simpa[Bool.or_eq_true,aw,aX] using h6
   ·exact h.elim
  ·rename_i b hc
   exact bltK_ok (by rw[hop]; cases c; simp only at hc; rw[hc]) h
  ·exact h.elim
 ·rename_i T parts hop
  obtain⟨d,h1,h2,h3⟩:=dstK_iff h
  unfold buildK at h3
  split at h3
  ·rename_i zs hz
   obtain⟨g1,g2,g3,g4,g5⟩:=h3
   refine⟨_,valid_build hop h1 h2 g1 g2 (fun k c hm=>?_) g4,fresh_none rfl rfl,g5⟩
   rw[aX] at g3
   have:=g3 _ hm
   simpa using this
  ·exact h3.elim
 ·rename_i T n parts hop
  rcases h with⟨g1,g2,g3,g4,g5,g6,g7⟩ | h
  ·exact madeK_ok g7 (fun d hd1 hd2=>valid_buildSlice hop hd1 hd2 g1 g2 rfl g3 g4 g5 g6)
  ·exact h
 ·rename_i T x y hop
  unfold makeK at h
  split at h
  ·rename_i k n k' m hx hy
   obtain⟨g1,g2,g3,g4,g5,g6,g7,g8⟩:=h
   refine madeK_ok g8 (fun d hd1 hd2=>valid_makeSlice hop hd1 hd2 g1 g2 g3 hx hy g4 g5 (by omega) ?_)
   have hm0:0≤m:=by omega
   calc ((eBytes P T:Nat):Int)*m≤65536*1073741824:=Int.mul_le_mul (by omega) g6 hm0 (by omega)
    _≤281474976710656:=by omega
  ·exact h.elim
 ·rename_i T x y hop
  obtain⟨d,h1,h2,h3⟩:=dstK_iff h
  unfold idxK at h3
  split at h3
  ·rename_i k n hy
   split at h3
   ·rename_i b sz es hx
    obtain⟨g1,⟨g2,g3⟩,g4⟩:=h3
    exact⟨_,valid_index_view hop h1 h2 g1 hx hy g2 g3,fresh_none rfl rfl,g4⟩
   ·rename_i c hx
    split at h3
    ·rename_i sz es hc
     obtain⟨g1,⟨g2,g3⟩,g4⟩:=h3
     exact⟨_,valid_index_own hop h1 h2 g1 hx hc hy g2 g3,fresh_none rfl rfl,g4⟩
    ·exact h3.elim
   ·rename_i r p off hx
    obtain⟨m,sz,k,g1,g2,g3,g4⟩:=h3
    exact⟨_,valid_index_arr hop h1 h2 g1 hx hy g2 g3,fresh_none rfl rfl,g4⟩
   ·exact h3.elim
  ·exact h3.elim
 ·rename_i T x y hop
  obtain⟨d,h1,h2,h3⟩:=dstK_iff h
  unfold strIdxK at h3
  split at h3
  ·rename_i s k n hx hy
   obtain⟨g1,⟨g2,g3⟩,g4⟩:=h3
   exact⟨_,valid_index_str hop h1 h2 g1 hx hy g2 g3,fresh_none rfl rfl,g4⟩
  ·exact h3.elim
 ·rename_i T x lo hi hop
  unfold slcOK at h
  split at h
  ·rename_i c hx
   split at h
   ·rename_i sz es hc
    obtain⟨g1,g2⟩:=h
    obtain⟨l,g3',g4⟩:=optNat_ok g2
    obtain⟨hh,g5',g8⟩:=optNat_ok g3'
    rcases g5' with⟨g3,g5,g6⟩ | ⟨⟨g5,g6,g7⟩,g9⟩
    ·subst g3
     exact madeK_ok g6 (fun d hd1 hd2=>valid_slice_own hop hd1 hd2 g1 hx hc g4 g8 g5)
    ·obtain⟨d,h1,h2,h3⟩:=dstK_iff g9
     exact⟨_,valid_slice_sub hop h1 h2 g1 hx hc g4 g8 g5 g6 g7,fresh_none rfl rfl,h3⟩
   ·exact h.elim
  ·rename_i hx
   obtain⟨g1,g2⟩:=h
   obtain⟨d,h1,h2,h3⟩:=dstK_iff g2
   obtain⟨l,⟨g3,g3'⟩,g4⟩:=optNat_ok h3
   subst g3
   obtain⟨hh,⟨g5,g6⟩,g8⟩:=optNat_ok g3'
   subst g5
   exact⟨_,valid_slice_nil hop h1 h2 g1 hx g4 g8,fresh_none rfl rfl,g6⟩
  ·rename_i r p off hx
   obtain⟨d,h1,h2,h3⟩:=dstK_iff h
   split at h3
   ·rename_i c hc
    obtain⟨rfl,rfl,rfl,rfl,g1,m,sz,es,g2,g3,g4,g5,g6,g7,g8⟩:=h3
    exact⟨_,valid_slice_arr hop h1 h2 (by simpa using g7) g2 hx hc g1 g3 g4 g5 g6,fresh_none rfl rfl,g8⟩
   ·exact h3.elim
  obtain⟨d,h1,h2,h3⟩:=dstK_iff h
  unfold sliceK at h3
  split at h3
  ·rename_i b sz es hx
   obtain⟨g1,g2⟩:=h3
   obtain⟨l,g3,g4⟩:=optNat_ok g2
   obtain⟨hh,⟨g5,g6,g7⟩,g8⟩:=optNat_ok g3
   exact⟨_,valid_slice_view hop h1 h2 g1 hx g4 g8 g5 g6,fresh_none rfl rfl,g7⟩
  ·rename_i s hx
   obtain⟨g1,g2⟩:=h3
   obtain⟨l,g3,g4⟩:=optNat_ok g2
   obtain⟨hh,⟨g5,g6,g7⟩,g8⟩:=optNat_ok g3
   exact⟨_,valid_slice_str hop h1 h2 g1 hx g4 g8 g5 g6,fresh_none rfl rfl,g7⟩
  ·exact h3.elim
 ·rename_i s t x hop
  unfold convOK at h
  split at h
  case h_2=>
   unfold bytesK at h
   split at h
   ·rename_i D sz es hsrc
    obtain⟨rfl,⟨e,g1,g2⟩,g3,ns,rfl,g4⟩:=h
    obtain⟨d,h1,h2,h3⟩:=dstK_iff g4
    exact⟨_,valid_convert_str hop h1 h2 hsrc g1 g2 g3,fresh_none rfl rfl,h3⟩
   ·exact h.elim
  obtain⟨d,h1,h2,h3⟩:=dstK_iff h
  unfold convK at h3
  split at h3
  ·rename_i k0 n hx
   obtain⟨⟨dd,g1⟩,k,g2,g3⟩:=h3
   refine⟨_,valid_pure (rs:=rd x) (ro:=[]) h1 h2 rfl ?_,fresh_none rfl rfl,g3⟩
   intro κ G st' a w _ hsame hG
   have e:=ev_lit hG hx hsame.1
   refine⟨.int k (k.wrap n),?_,slotOk_lit rfl⟩
   simp[execOp,hop,e,convert,run_underlying g1,run_underlying g2,Conv.intToInt]
  ·exact h3.elim
 ·rename_i f first captured hop
  obtain⟨hf,h⟩:=h
  rcases h with h | h
  case inr=>exact h
  obtain⟨d,h1,h2,h3⟩:=dstK_iff h
  unfold capK at h3
  split at h3
  ·rename_i cs hcs
   obtain⟨g1,g2⟩:=h3
   have e:first=#[]:=by simpa using hf
   subst e
   refine⟨_,valid_makeFunc hop h1 h2 hcs (fun n hn x hx=>?_),fresh_none rfl rfl,g2⟩
   rw[aX] at g1
   have:=g1 n hn
   simpa[boxNames,hx] using this
  ·exact h3.elim
 ·exact h
 ·exact h
 ·exact h
 ·exact h
 ·rename_i x hop
  obtain⟨d,h1,h2,h3⟩:=dstK_iff h
  obtain⟨h4,h5⟩:=valid_nilCheck hop h1 h2 h3
  exact⟨_,h5,fresh_none rfl rfl,h4⟩
 ·exact h
 ·exact h
 ·exact h.elim
end
section

def gst(ops:Array Oper)(j:Nat):Option Nat:=(ops[j]?).bind (·.dst)

def guardK(sv:SlotV)(want:Bool)(A B:Prop):Prop:=
 match sv with
 | .val (.pv (.lit (.bool b)))=>if want then Cond b A B else Cond b B A
 | .tup []=>B
 | _=>False

def stepG(P:Program)(nt:Nat)(ops:Array Oper)(st:St)(o:Oper)(K:Rec→Prop):Prop:=
 match o.guard with
 | none=>recO P nt st o K
 | some (j,want)=>
  match gst ops j with
  | some g=>guardK (st.s g) want (recO P nt st o fun r=>K { r with rs:=g::r.rs })
   ((∀ d,o.dst=some d→d<nt)∧K { rs:=[g],us:=o.dst.toList.map fun d=>(d,.tup []) })
  | none=>False

def VOp(P:Program)(nt:Nat)(ops:Array Oper)(i:Nat)(st:St)(r:Rec):Prop:=
 ∀ κ st' a w,κ.nt=nt→r.same st st'→r.fresh st'→R κ st' a w→∀ (next:Act→World→Prop) (Q:Exit→Act→World→Prop),
  (∀ a' w',R κ (st'.app r) a' w'→next a' w')→wpOp P ops Q i next a w

theorem yielded_of{ops:Array Oper}{a:Act}{j g:Nat}(hg:gst ops j=some g):yielded ops a.tmps j=(match a.tmps.getD g undef with | .bool b=>some b | _=>none):=by
 unfold gst at hg
 simp only[yielded,hg,Option.bind_some,Array.getD_eq_getD_getElem?]
 cases a.tmps[g]? with
 | none=>simp[undef]
 | some v=>cases v<;>rfl

theorem stepG_ok{P:Program}{nt:Nat}{ops:Array Oper}{st:St}{o:Oper}{K:Rec→Prop}{i:Nat}(ho:ops[i]?=some o)(h:stepG P nt ops st o K):
 ∃ r,VOp P nt ops i st r∧r.fresh st∧K r:=by
 unfold stepG at h
 split at h
 ·rename_i hg
  obtain⟨r,h1,h2,h3⟩:=recO_ok h
  refine⟨r,?_,h2,h3⟩
  intro κ st' a w hnt hs hf hR next Q hn
  unfold wpOp
  simp only[ho,Region.wanted,hg,if_true]
  exact .inl (h1 κ st' a w hnt hs hf hR next Q hn)
 ·rename_i j want hg
  split at h
  ·rename_i g hgs
   unfold guardK at h
   have skip:(∀ d,o.dst=some d→d<nt)→(∀ κ st' a w,κ.nt=nt→st'.s g=st.s g→R κ st' a w→Region.wanted o (yielded ops a.tmps)=false)→VOp P nt ops i st { rs:=[g],us:=o.dst.toList.map fun d=>(d,.tup []) }:=by
    intro hd hw κ st' a w hnt hs hf hR next Q hn
    unfold wpOp
    simp only[ho,hw κ st' a w hnt (hs.1 g (by simp)) hR,Bool.false_eq_true,if_false]
    refine hn _ _ ?_
    cases hdd:o.dst with
    | none=>simpa[St.app,updAll,act_put_none] using hR
    | some d=>
     obtain⟨G,hG⟩:=hR
     have:=R.set (v:=undef) (sv:=.tup []) G hG (by rw[hnt]; exact hd d hdd) rfl ⟨[],rfl,by simp[CVals]⟩
     simpa[St.app,updAll,St.set] using this
   have exec:∀ (K':Rec→Prop),recO P nt st o K'→(∀ κ st' a w,κ.nt=nt→st'.s g=st.s g→R κ st' a w→Region.wanted o (yielded ops a.tmps)=true)→∃ r,VOp P nt ops i st { r with rs:=g::r.rs }∧Rec.fresh { r with rs:=g::r.rs } st∧K' r:=by
    intro K' hK hw
    obtain⟨r,h1,h2,h3⟩:=recO_ok hK
    refine⟨r,?_,h2,h3⟩
    intro κ st' a w hnt hs hf hR next Q hn
    unfold wpOp
    simp only[ho,hw κ st' a w hnt (hs.1 g (by simp)) hR,if_true]
    exact .inl (h1 κ st' a w hnt ⟨fun k hk=>hs.1 k (by simp[hk]),hs.2⟩ hf hR next Q hn)
   have bool:∀ b,st.s g=.val (.pv (.lit (.bool b)))→∀ κ st' a w,κ.nt=nt→st'.s g=st.s g→R κ st' a w→yielded ops a.tmps j=some b:=by
    intro b hb κ st' a w _ hs hR
    obtain⟨G,hG⟩:=hR
    have h1:=hG.slots g
    rw[hs,hb] at h1
    have h2:a.tmps.getD g undef=.bool b:=by
     rcases h1 with⟨h1,_⟩ | ⟨_,h1,_⟩
     ·simp[aR] at h1
     ·simp only[RepCV,RepC] at h1; simpa using h1.1
    rw[yielded_of hgs,h2]
   split at h
   ·rename_i b hb
    cases want with
    | true=>
     simp only[if_true] at h
     cases b with
     | true=>
      obtain⟨r,h1,h2,h3⟩:=exec _ (h.1 rfl) (fun κ st' a w e1 e2 e3=>by simp[Region.wanted,hg,bool true hb κ st' a w e1 e2 e3])
      exact⟨_,h1,h2,h3⟩
     | false=>
      obtain⟨h1,h2⟩:=h.2 rfl
      exact⟨_,skip h1 (fun κ st' a w e1 e2 e3=>by simp[Region.wanted,hg,bool false hb κ st' a w e1 e2 e3]),fresh_none rfl rfl,h2⟩
    | false=>
     simp only[Bool.false_eq_true,if_false] at h
     cases b with
     | true=>
      obtain⟨h1,h2⟩:=h.1 rfl
      exact⟨_,skip h1 (fun κ st' a w e1 e2 e3=>by simp[Region.wanted,hg,bool true hb κ st' a w e1 e2 e3]),fresh_none rfl rfl,h2⟩
     | false=>
      obtain⟨r,h1,h2,h3⟩:=exec _ (h.2 rfl) (fun κ st' a w e1 e2 e3=>by simp[Region.wanted,hg,bool false hb κ st' a w e1 e2 e3])
      exact⟨_,h1,h2,h3⟩
   ·rename_i hb
    refine⟨_,skip h.1 (fun κ st' a w _ e2 e3=>?_),fresh_none rfl rfl,h.2⟩
    obtain⟨G,hG⟩:=e3
    have h1:=hG.slots g
    rw[e2,hb] at h1
    obtain⟨vs,h2,h3⟩:=h1
    simp only[CVals] at h3
    subst h3
    simp[Region.wanted,hg,yielded_of hgs,h2]
   ·exact h.elim
  ·exact h.elim

/-- The operations in the order of the text. -/
def wpD(P:Program)(nt:Nat)(ops:Array Oper):List Oper→St→List Rec→(List Rec→St→Prop)→Prop
 | [],st,acc,K=>K acc.reverse st
 | o::os,st,acc,K=>stepG P nt ops st o fun r=>wpD P nt ops os (st.app r) (r::acc) K

inductive Traj(P:Program)(nt:Nat)(ops:Array Oper):Nat→St→List Rec→St→Prop
 | nil (i st):Traj P nt ops i st [] st
 | cons {i st r rs st'}:VOp P nt ops i st r→r.fresh st→Traj P nt ops (i+1) (st.app r) rs st'→Traj P nt ops i st (r::rs) st'

theorem wpD_ok{P:Program}{nt:Nat}{ops:Array Oper}{K:List Rec→St→Prop}:∀ (os:List Oper) (i:Nat) (st:St) (acc:List Rec),(∀ j,os[j]?=ops[i+j]?)→wpD P nt ops os st acc K→
 ∃ recs st',Traj P nt ops i st recs st'∧recs.length=os.length∧K (acc.reverse++recs) st'
 | [],i,st,acc,_,h=>⟨[],st,.nil i st,rfl,by simpa[wpD] using h⟩
 | o::os,i,st,acc,ho,h=>by
  simp only[wpD] at h
  obtain⟨r,h1,h2,h3⟩:=stepG_ok (i:=i) (by simpa using (ho 0).symm) h
  obtain⟨recs,st',g1,g2,g3⟩:=wpD_ok os (i+1) (st.app r) (r::acc) (fun j=>by have:=ho (j+1); simpa[Nat.add_assoc,Nat.add_comm 1 j] using this) h3
  exact⟨r::recs,st',.cons h1 h2 g1,by simp[g2],by simpa using g3⟩

theorem Rec.same_refl(r:Rec)(st:St):r.same st st:=⟨fun _ _=>rfl,fun _ _=>rfl⟩

theorem Traj.seq{P:Program}{nt:Nat}{ops:Array Oper}{Q:Exit→Act→World→Prop}{i:Nat}{st st':St}{recs:List Rec}(h:Traj P nt ops i st recs st'):
 ∀ κ a w,κ.nt=nt→R κ st a w→(∀ a' w',R κ st' a' w'→Q .normal a' w')→wpOps P ops Q (List.range' i recs.length) a w:=by
 induction h with
 | nil i st=>intro κ a w _ hR hQ; simpa[wpOps] using hQ a w hR
 | cons h1 h2 _ ih=>
  intro κ a w hnt hR hQ
  rw[List.length_cons,List.range'_succ,wpOps_cons]
  exact h1 κ _ a w hnt (Rec.same_refl _ _) h2 hR _ _ (fun a' w' hR'=>ih κ a' w' hnt hR' hQ)

/-! ### Any order -/
def appS:St→Nat→List Rec→(Nat→Bool)→St
 | st,_,[],_=>st
 | st,i,r::rs,S=>appS (if S i then st.app r else st) (i+1) rs S

theorem updAll_congr{α:Type}:∀ (l:List (Nat×α)) (f g:Nat→α) (k:Nat),f k=g k→updAll f l k=updAll g l k
 | [],_,_,_,h=>h
 | (j,v)::l,f,g,k,h=>by
  simp only[updAll]
  have h':upd f j v k=upd g j v k:=by simp[upd,h]
  exact updAll_congr l _ _ k h'
theorem updAll_key{α:Type}:∀ (l:List (Nat×α)) (f g:Nat→α) (k:Nat),k∈l.map (·.1)→updAll f l k=updAll g l k
 | [],_,_,_,h=>by simp at h
 | (j,v)::l,f,g,k,h=>by
  simp only[updAll]
  by_cases hk:k=j
  ·exact updAll_congr l _ _ k (by simp[upd,hk])
  ·exact updAll_key l _ _ k (by simpa[hk] using h)
theorem updAll_or{α:Type}:∀ (l:List (Nat×α)) (f:Nat→α) (k:Nat),updAll f l k=f k∨(k,updAll f l k)∈l
 | [],_,_=>.inl rfl
 | (j,v)::l,f,k=>by
  simp only[updAll]
  rcases updAll_or l (upd f j v) k with h | h
  ·by_cases hk:k=j
   ·right; rw[h]; simp[upd,hk]
   ·left; rw[h]; simp[upd,hk]
  ·exact .inr (List.mem_cons_of_mem _ h)

theorem appS_congr_s(k:Nat):∀ (rs:List Rec) (i:Nat) (st st':St) (S S':Nat→Bool),st.s k=st'.s k→(∀ j r,rs[j]?=some r→S (i+j)≠S' (i+j)→k∉r.us.map (·.1))→(appS st i rs S).s k=(appS st' i rs S').s k
 | [],_,_,_,_,_,h,_=>h
 | r::rs,i,st,st',S,S',h,hd=>by
  simp only[appS]
  refine appS_congr_s k rs (i+1) _ _ S S' ?_ (fun j r' hr hne=>hd (j+1) r' (by simpa using hr) (by simpa[Nat.add_assoc,Nat.add_comm 1 j] using hne))
  by_cases e:S i=S' i
  ·rw[e]; split
   ·exact updAll_congr _ _ _ _ h
   ·exact h
  ·have hk:=hd 0 r (by simp) (by simpa using e)
   have key:∀ s:St,(s.app r).s k=s.s k:=fun s=>updAll_notMem _ _ _ hk
   split<;>split<;>simp only[key,h]
theorem appS_congr_o(k:Nat):∀ (rs:List Rec) (i:Nat) (st st':St) (S S':Nat→Bool),st.o k=st'.o k→(∀ j r,rs[j]?=some r→S (i+j)≠S' (i+j)→k∉r.uo.map (·.1))→(appS st i rs S).o k=(appS st' i rs S').o k
 | [],_,_,_,_,_,h,_=>h
 | r::rs,i,st,st',S,S',h,hd=>by
  simp only[appS]
  refine appS_congr_o k rs (i+1) _ _ S S' ?_ (fun j r' hr hne=>hd (j+1) r' (by simpa using hr) (by simpa[Nat.add_assoc,Nat.add_comm 1 j] using hne))
  by_cases e:S i=S' i
  ·rw[e]; split
   ·exact updAll_congr _ _ _ _ h
   ·exact h
  ·have hk:=hd 0 r (by simp) (by simpa using e)
   have key:∀ s:St,(s.app r).o k=s.o k:=fun s=>updAll_notMem _ _ _ hk
   split<;>split<;>simp only[key,h]

theorem appS_last_s(k:Nat)(f:Nat→SlotV):∀ (rs:List Rec) (i j:Nat) (st:St) (S:Nat→Bool) (rj:Rec),rs[j]?=some rj→S (i+j)=true→k∈rj.us.map (·.1)→
 (∀ m r,rs[m]?=some r→j<m→S (i+m)=true→k∉r.us.map (·.1))→(appS st i rs S).s k=updAll f rj.us k
 | [],_,_,_,_,_,h,_,_,_=>by simp at h
 | r::rs,i,0,st,S,rj,h,hS,hk,hl=>by
  simp at h; subst h
  simp only[appS]
  simp only[Nat.add_zero] at hS
  rw[hS,if_pos rfl]
  have:(appS (st.app r) (i+1) rs S).s k=(appS (st.app r) (i+1) rs (fun _=>false)).s k:=by
   refine appS_congr_s k rs (i+1) _ _ S _ rfl (fun m r' hr hne=>?_)
   have:S (i+(m+1))=true:=by simpa[Nat.add_assoc,Nat.add_comm 1 m] using hne
   exact hl (m+1) r' (by simpa using hr) (by omega) this
  rw[this]
  have h0:∀ (rs:List Rec) (i:Nat) (s:St),appS s i rs (fun _=>false)=s:=by
   intro rs; induction rs with
   | nil=>intros; rfl
   | cons q qs ih=>intro i s; simp only[appS]; simpa using ih (i+1) s
  rw[h0]
  exact updAll_key _ _ _ _ hk
 | r::rs,i,j+1,st,S,rj,h,hS,hk,hl=>by
  simp only[appS]
  exact appS_last_s k f rs (i+1) j _ S rj (by simpa using h) (by simpa[Nat.add_assoc,Nat.add_comm 1 j] using hS) hk
   (fun m r' hr hj hm=>hl (m+1) r' (by simpa using hr) (by omega) (by simpa[Nat.add_assoc,Nat.add_comm 1 m] using hm))
theorem appS_last_o(k:Nat)(f:Nat→Option (Nat×List PV)):∀ (rs:List Rec) (i j:Nat) (st:St) (S:Nat→Bool) (rj:Rec),rs[j]?=some rj→S (i+j)=true→k∈rj.uo.map (·.1)→
 (∀ m r,rs[m]?=some r→j<m→S (i+m)=true→k∉r.uo.map (·.1))→(appS st i rs S).o k=updAll f rj.uo k
 | [],_,_,_,_,_,h,_,_,_=>by simp at h
 | r::rs,i,0,st,S,rj,h,hS,hk,hl=>by
  simp at h; subst h
  simp only[appS]
  simp only[Nat.add_zero] at hS
  rw[hS,if_pos rfl]
  have:(appS (st.app r) (i+1) rs S).o k=(appS (st.app r) (i+1) rs (fun _=>false)).o k:=by
   refine appS_congr_o k rs (i+1) _ _ S _ rfl (fun m r' hr hne=>?_)
   have:S (i+(m+1))=true:=by simpa[Nat.add_assoc,Nat.add_comm 1 m] using hne
   exact hl (m+1) r' (by simpa using hr) (by omega) this
  rw[this]
  have h0:∀ (rs:List Rec) (i:Nat) (s:St),appS s i rs (fun _=>false)=s:=by
   intro rs; induction rs with
   | nil=>intros; rfl
   | cons q qs ih=>intro i s; simp only[appS]; simpa using ih (i+1) s
  rw[h0]
  exact updAll_key _ _ _ _ hk
 | r::rs,i,j+1,st,S,rj,h,hS,hk,hl=>by
  simp only[appS]
  exact appS_last_o k f rs (i+1) j _ S rj (by simpa using h) (by simpa[Nat.add_assoc,Nat.add_comm 1 j] using hS) hk
   (fun m r' hr hj hm=>hl (m+1) r' (by simpa using hr) (by omega) (by simpa[Nat.add_assoc,Nat.add_comm 1 m] using hm))

theorem appS_from_s(k:Nat):∀ (rs:List Rec) (i:Nat) (st:St) (S:Nat→Bool),(appS st i rs S).s k=st.s k∨∃ j r,rs[j]?=some r∧S (i+j)=true∧(k,(appS st i rs S).s k)∈r.us
 | [],_,_,_=>.inl rfl
 | r::rs,i,st,S=>by
  simp only[appS]
  rcases appS_from_s k rs (i+1) (if S i=true then st.app r else st) S with h | ⟨j,r',h1,h2,h3⟩
  ·rw[h]
   split
   ·rename_i hS
    rcases updAll_or r.us st.s k with h' | h'
    ·exact .inl h'
    ·exact .inr ⟨0,r,by simp,by simpa using hS,h'⟩
   ·exact .inl rfl
  ·exact .inr ⟨j+1,r',by simpa using h1,by simpa[Nat.add_assoc,Nat.add_comm 1 j] using h2,h3⟩
theorem appS_from_o(k:Nat):∀ (rs:List Rec) (i:Nat) (st:St) (S:Nat→Bool),(appS st i rs S).o k=st.o k∨∃ j r,rs[j]?=some r∧S (i+j)=true∧(k,(appS st i rs S).o k)∈r.uo
 | [],_,_,_=>.inl rfl
 | r::rs,i,st,S=>by
  simp only[appS]
  rcases appS_from_o k rs (i+1) (if S i=true then st.app r else st) S with h | ⟨j,r',h1,h2,h3⟩
  ·rw[h]
   split
   ·rename_i hS
    rcases updAll_or r.uo st.o k with h' | h'
    ·exact .inl h'
    ·exact .inr ⟨0,r,by simp,by simpa using hS,h'⟩
   ·exact .inl rfl
  ·exact .inr ⟨j+1,r',by simpa using h1,by simpa[Nat.add_assoc,Nat.add_comm 1 j] using h2,h3⟩

/-- Operation 'j' waits for operation 'i'. -/
def dep(ops:Array Oper)(j i:Nat):Bool:=((ops[j]?).map fun o=>o.after.any fun e=>Region.binds .any e&&e.on==i).getD false

/-- .. or for one that waits for it. -/
def depN(ops:Array Oper):Nat→Nat→Nat→Bool
 | 0,j,i=>dep ops j i
 | n+1,j,i=>dep ops j i||(List.range ops.size).any fun k=>dep ops j k&&depN ops n k i
def dep2(ops:Array Oper)(j i:Nat):Bool:=depN ops 9 j i
theorem depN_closed{ops:Array Oper}{S:Nat→Bool}(hc:∀ i,S i=true→∀ m,dep ops i m=true→S m=true):∀ (n k i:Nat),S k=true→depN ops n k i=true→S i=true
 | 0,k,i,hk,h=>hc k hk i h
 | n+1,k,i,hk,h=>by
  simp only[depN,Bool.or_eq_true] at h
  rcases h with h | h
  ·exact hc k hk i h
  ·rw[List.any_eq_true] at h
   obtain⟨j,_,h⟩:=h
   rw[aw] at h
   exact depN_closed hc n j i (hc k hk j h.1) h.2

def indep(r q:Rec):Bool:=
 (r.us.all fun x=>!q.rs.contains x.1&&q.us.all fun y=>y.1 != x.1)&&(q.us.all fun x=>!r.rs.contains x.1)&&
 (r.uo.all fun x=>!q.ro.contains x.1&&q.uo.all fun y=>y.1 != x.1)&&(q.uo.all fun x=>!r.ro.contains x.1)
/-- What 'q' writes leaves the variables that 'r' names. -/
def boxBy(r q:Rec):Bool:=r.rp.all fun k=>q.us.all fun y=>y.1 != k||isBx y.2
/-- What 'q' writes does not hold a name that 'r' wants new. -/
def freshBy(r q:Rec):Bool:=(r.fr.all fun x=>q.us.all fun y=>y.2.noR x)&&(r.fc.all fun c=>(q.us.all fun y=>y.2.noC c)&&q.uo.all fun y=>y.1 != c)

def pairsB(ops:Array Oper)(recs:List Rec):Bool:=
 recs.zipIdx.all fun (r,i)=>recs.zipIdx.all fun (q,j)=>i==j||((!decide (i<j)||dep ops j i||indep r q||dep2 ops j i)&&(dep ops j i||freshBy r q&&boxBy r q||dep2 ops j i))
def edgesB(ops:Array Oper):Bool:=ops.toList.zipIdx.all fun (o,i)=>o.after.all fun e=>!Region.binds .any e||decide (e.on<i)

structure DrawOk(ops:Array Oper)(st:St)(recs:List Rec):Prop where
 edges:edgesB ops=true
 pairs:pairsB ops recs=true
 fresh:∀ r∈recs,(∀ x∈r.fr,st.noR x)∧∀ c∈r.fc,st.noC c
 bx:∀ r∈recs,∀ k∈r.rp,isBx (st.s k)=true

theorem Traj.at{P:Program}{nt:Nat}{ops:Array Oper}{i:Nat}{st st':St}{recs:List Rec}(h:Traj P nt ops i st recs st'):∀ (S:Nat→Bool) (j:Nat) (r:Rec),recs[j]?=some r→(∀ m,S (i+m)=decide (m<j))→
 VOp P nt ops (i+j) (appS st i recs S) r:=by
 induction h with
 | nil=>intro S j r h; simp at h
 | cons h1 h2 h3 ih=>
  rename_i i st r0 rs st'
  intro S j r hj hS
  cases j with
  | zero=>
   simp at hj; subst hj
   have:∀ (rs:List Rec) (i:Nat) (s:St) (S:Nat→Bool),(∀ m,S (i+m)=false)→appS s i rs S=s:=by
    intro rs; induction rs with
    | nil=>intros; rfl
    | cons q qs ih=>intro i s S hS; simp only[appS]; rw[show S i=false by simpa using hS 0]; simpa using ih (i+1) s S (fun m=>by simpa[Nat.add_assoc,Nat.add_comm 1 m] using hS (m+1))
   rw[this _ _ _ _ (fun m=>by simpa using hS m)]
   simpa using h1
  | succ j=>
   simp only[appS]
   rw[show S i=true by simpa using hS 0,if_pos rfl]
   have:=ih S j r (by simpa using hj) (fun m=>by have:=hS (m+1); simpa[Nat.add_assoc,Nat.add_comm 1 m] using this)
   simpa[Nat.add_assoc,Nat.add_comm 1 j] using this

theorem Traj.last{P:Program}{nt:Nat}{ops:Array Oper}{i:Nat}{st st':St}{recs:List Rec}(h:Traj P nt ops i st recs st'):∀ (S:Nat→Bool),(∀ m,m<recs.length→S (i+m)=true)→appS st i recs S=st':=by
 induction h with
 | nil=>intro S _; rfl
 | cons h1 h2 h3 ih=>
  rename_i i st r0 rs st'
  intro S hS
  simp only[appS]
  rw[show S i=true by simpa using hS 0 (by simp),if_pos rfl]
  exact ih S (fun m hm=>by have:=hS (m+1) (by simpa using hm); simpa[Nat.add_assoc,Nat.add_comm 1 m] using this)

theorem St.ext'{a b:St}(h1:∀ k,a.s k=b.s k)(h2:∀ k,a.o k=b.o k):a=b:=by
 cases a; cases b; simp only[St.mk.injEq]; exact⟨funext h1,funext h2⟩

theorem zipIdx_get{α:Type}{l:List α}{i:Nat}{x:α}(h:l[i]?=some x):(x,i)∈l.zipIdx:=by
 rw[List.mem_zipIdx_iff_getElem?]; simpa using h

section
variable{P:Program}{nt:Nat}{ops:Array Oper}{st st':St}{recs:List Rec}

theorem any_step(ht:Traj P nt ops 0 st recs st')(hok:DrawOk ops st recs){S:Nat→Bool}{j:Nat}{r:Rec}(hj:recs[j]?=some r)(hSj:S j=false)
 (hpre:∀ i,dep ops j i=true→S i=true) (hclosed:∀ i,S i=true→∀ m,dep ops i m=true→S m=true) (_:∀ i,S i=true→i<recs.length):
 VOp P nt ops j (appS st 0 recs (fun m=>decide (m<j))) r∧r.same (appS st 0 recs (fun m=>decide (m<j))) (appS st 0 recs S)∧r.fresh (appS st 0 recs S)∧
  (appS st 0 recs S).app r=appS st 0 recs (fun m=>S m||m==j):=by
 have hP:=hok.pairs
 unfold pairsB at hP
 rw[aX] at hP
 have pair:∀ i q,recs[i]?=some q→∀ m p,recs[m]?=some p→i≠m→((!decide (i<m)||dep ops m i||indep q p||dep2 ops m i)=true∧(dep ops m i||freshBy q p&&boxBy q p||dep2 ops m i)=true):=by
  intro i q hi m p hm hne
  have h1:=hP _ (zipIdx_get hi)
  simp only[aX] at h1
  have h2:=h1 _ (zipIdx_get hm)
  simp only[Bool.or_eq_true,beq_iff_eq,hne,false_or,aw] at h2
  simpa[Bool.or_eq_true] using h2
 have hclosed2:∀ i,S i=true→∀ m,dep2 ops i m=true→S m=true:=fun i hS m h=>depN_closed hclosed 9 i m hS h
 have hpre2:∀ i,dep2 ops j i=true→S i=true:=fun i h=>by
  simp only[dep2,depN,Bool.or_eq_true] at h
  rcases h with h | h
  ·exact hpre i h
  ·rw[List.any_eq_true] at h
   obtain⟨k,_,h⟩:=h
   rw[aw] at h
   exact depN_closed hclosed 8 k i (hpre k h.1) (by simpa only[depN,Bool.or_eq_true] using h.2)
 -- an operation whose being there makes a difference is apart from 'j'
 have apart:∀ m q,recs[m]?=some q→S m≠decide (m<j)→m≠j→(indep q r=true∨indep r q=true):=by
  intro m q hm hne hmj
  rcases Nat.lt_or_ge m j with h | h
  ·have h1:=(pair m q hm j r hj hmj).1
   simp only[h,decide_true,Bool.not_true,Bool.false_or,Bool.or_eq_true] at h1
   rcases h1 with (h1 | h1) | h1
   ·have:=hpre m h1; simp[this,h] at hne
   ·exact .inl h1
   ·have:=hpre2 m h1; simp[this,h] at hne
  ·have hlt':j<m:=by omega
   have h1:=(pair j r hj m q hm (Ne.symm hmj)).1
   simp only[hlt',decide_true,Bool.not_true,Bool.false_or,Bool.or_eq_true] at h1
   have hSm:S m=true:=by
    have:¬ m<j:=by omega
    simp only[this,decide_false,ne_eq,Bool.not_eq_false] at hne; exact hne
   rcases h1 with (h1 | h1) | h1
   ·have:=hclosed m hSm j h1
    rw[hSj] at this; cases this
   ·exact .inr h1
   ·have:=hclosed2 m hSm j h1
    rw[hSj] at this; cases this
 have noW_s:∀ (q:Rec),(indep q r=true∨indep r q=true)→∀ k,k∈r.rs→k∉q.us.map (·.1):=by
  intro q hq k hk hm
  obtain⟨⟨k',v⟩,h1,rfl⟩:=List.mem_map.1 hm
  rcases hq with hq | hq<;>simp only[indep,aw,aX,Bool.not_eq_true',List.contains_eq_mem,decide_eq_false_iff_not,bne_iff_ne] at hq
  ·exact(hq.1.1.1 _ h1).1 hk
  ·exact hq.1.1.2 _ h1 hk
 have noW_o:∀ (q:Rec),(indep q r=true∨indep r q=true)→∀ k,k∈r.ro→k∉q.uo.map (·.1):=by
  intro q hq k hk hm
  obtain⟨⟨k',v⟩,h1,rfl⟩:=List.mem_map.1 hm
  rcases hq with hq | hq<;>simp only[indep,aw,aX,Bool.not_eq_true',List.contains_eq_mem,decide_eq_false_iff_not,bne_iff_ne] at hq
  ·exact(hq.1.2 _ h1).1 hk
  ·exact hq.2 _ h1 hk
 refine⟨?_,⟨?_,?_⟩,⟨⟨?_,?_⟩,?_⟩,?_⟩
 ·have:=ht.at (fun m=>decide (m<j)) j r hj (fun m=>by simp)
  simpa using this
 ·intro k hk
  refine appS_congr_s k recs 0 _ _ _ _ rfl (fun m q hm hne=>?_)
  simp only[Nat.zero_add] at hne
  by_cases hmj:m=j
  ·subst hmj; simp[hSj] at hne
  ·exact noW_s q (apart m q hm hne hmj) k hk
 ·intro k hk
  refine appS_congr_o k recs 0 _ _ _ _ rfl (fun m q hm hne=>?_)
  simp only[Nat.zero_add] at hne
  by_cases hmj:m=j
  ·subst hmj; simp[hSj] at hne
  ·exact noW_o q (apart m q hm hne hmj) k hk
 ·intro x hx k
  rcases appS_from_s k recs 0 st S with h | ⟨m,q,h1,h2,h3⟩
  ·rw[h]; exact(hok.fresh r (List.mem_of_getElem? hj)).1 x hx k
  ·simp only[Nat.zero_add] at h2
   have hmj:j≠m:=by intro e; subst e; rw[hSj] at h2; cases h2
   have h4:=(pair j r hj m q h1 hmj).2
   simp only[Bool.or_eq_true] at h4
   rcases h4 with (h4 | h4) | h4
   ·have:=hclosed m h2 j h4; rw[hSj] at this; cases this
   rotate_left
   ·have:=hclosed2 m h2 j h4; rw[hSj] at this; cases this
   ·simp only[freshBy,aw,aX] at h4
    exact h4.1.1 x hx _ h3
 ·intro k hk
  rcases appS_from_s k recs 0 st S with h | ⟨m,q,h1,h2,h3⟩
  ·rw[h]; exact hok.bx r (List.mem_of_getElem? hj) k hk
  ·simp only[Nat.zero_add] at h2
   have hmj:j≠m:=by intro e; subst e; rw[hSj] at h2; cases h2
   have h4:=(pair j r hj m q h1 hmj).2
   simp only[Bool.or_eq_true] at h4
   rcases h4 with (h4 | h4) | h4
   ·have:=hclosed m h2 j h4; rw[hSj] at this; cases this
   rotate_left
   ·have:=hclosed2 m h2 j h4; rw[hSj] at this; cases this
   ·simp only[boxBy,aw,aX,Bool.or_eq_true,bne_iff_ne] at h4
    exact(h4.2 k hk _ h3).resolve_left (fun hne=>hne rfl)
 ·intro c hc
  have hq:∀ m q,recs[m]?=some q→S m=true→(∀ y∈q.us,y.2.noC c=true)∧∀ y∈q.uo,y.1≠c:=by
   intro m q h1 h2
   have hmj:j≠m:=by intro e; subst e; rw[hSj] at h2; cases h2
   have h4:=(pair j r hj m q h1 hmj).2
   simp only[Bool.or_eq_true] at h4
   rcases h4 with (h4 | h4) | h4
   ·have:=hclosed m h2 j h4; rw[hSj] at this; cases this
   rotate_left
   ·have:=hclosed2 m h2 j h4; rw[hSj] at this; cases this
   ·simp only[freshBy,aw,aX,bne_iff_ne] at h4
    exact h4.1.2 c hc
  refine⟨?_,fun k=>?_⟩
  ·rcases appS_from_o c recs 0 st S with h | ⟨m,q,h1,h2,h3⟩
   ·rw[h]; exact((hok.fresh r (List.mem_of_getElem? hj)).2 c hc).1
   ·exact absurd rfl ((hq m q h1 (by simpa using h2)).2 _ h3)
  ·rcases appS_from_s k recs 0 st S with h | ⟨m,q,h1,h2,h3⟩
   ·rw[h]; exact((hok.fresh r (List.mem_of_getElem? hj)).2 c hc).2 k
   ·exact(hq m q h1 (by simpa using h2)).1 _ h3
 ·-- the later ones that are there do not write where 'j' writes
  have later:∀ m q,recs[m]?=some q→j<m→S m=true→indep r q=true:=by
   intro m q hm hlt' hSm
   have h1:=(pair j r hj m q hm (by omega)).1
   simp only[hlt',decide_true,Bool.not_true,Bool.false_or,Bool.or_eq_true] at h1
   rcases h1 with (h1 | h1) | h1
   ·have:=hclosed m hSm j h1; rw[hSj] at this; cases this
   ·exact h1
   ·have:=hclosed2 m hSm j h1; rw[hSj] at this; cases this
  refine St.ext' (fun k=>?_) (fun k=>?_)
  ·by_cases hk:k∈r.us.map (·.1)
   ·rw[appS_last_s k (appS st 0 recs S).s recs 0 j st _ r hj (by simp) hk (fun m q hm hlt' hSm hkq=>?_)]
    ·rfl
    ·simp only[Nat.zero_add,Bool.or_eq_true,beq_iff_eq] at hSm
     have hi:=later m q hm hlt' (hSm.resolve_right (by omega))
     obtain⟨⟨k1,v1⟩,g1,rfl⟩:=List.mem_map.1 hk
     obtain⟨⟨k2,v2⟩,g2,e⟩:=List.mem_map.1 hkq
     simp only[indep,aw,aX,Bool.not_eq_true',bne_iff_ne] at hi
     exact(hi.1.1.1 _ g1).2 _ g2 e
   ·have e1:((appS st 0 recs S).app r).s k=(appS st 0 recs S).s k:=updAll_notMem _ _ _ hk
    rw[e1]
    refine appS_congr_s k recs 0 _ _ _ _ rfl (fun m q hm hne=>?_)
    simp only[Nat.zero_add] at hne
    by_cases hmj:m=j
    ·subst hmj; rw[hj] at hm; cases hm; exact hk
    ·simp[hmj] at hne
  ·by_cases hk:k∈r.uo.map (·.1)
   ·rw[appS_last_o k (appS st 0 recs S).o recs 0 j st _ r hj (by simp) hk (fun m q hm hlt' hSm hkq=>?_)]
    ·rfl
    ·simp only[Nat.zero_add,Bool.or_eq_true,beq_iff_eq] at hSm
     have hi:=later m q hm hlt' (hSm.resolve_right (by omega))
     obtain⟨⟨k1,v1⟩,g1,rfl⟩:=List.mem_map.1 hk
     obtain⟨⟨k2,v2⟩,g2,e⟩:=List.mem_map.1 hkq
     simp only[indep,aw,aX,Bool.not_eq_true',bne_iff_ne] at hi
     exact(hi.1.2 _ g1).2 _ g2 e
   ·have e1:((appS st 0 recs S).app r).o k=(appS st 0 recs S).o k:=updAll_notMem _ _ _ hk
    rw[e1]
    refine appS_congr_o k recs 0 _ _ _ _ rfl (fun m q hm hne=>?_)
    simp only[Nat.zero_add] at hne
    by_cases hmj:m=j
    ·subst hmj; rw[hj] at hm; cases hm; exact hk
    ·simp[hmj] at hne

theorem dep_iff{j i:Nat}:dep ops j i=true↔∃ o,ops[j]?=some o∧∃ e∈o.after,Region.binds .any e=true∧e.on=i:=by
 unfold dep
 cases ops[j]? with
 | none=>simp
 | some o=>
  simp only[Option.map_some,Option.getD_some,Option.some.injEq,exists_eq_left',Array.any_eq_true,aw,beq_iff_eq]
  constructor
  ·rintro ⟨k,hk,h1,h2⟩; exact⟨_,Array.getElem_mem hk,h1,h2⟩
  ·rintro ⟨e,he,h1,h2⟩
   obtain⟨k,hk,rfl⟩:=Array.mem_iff_getElem.1 he
   exact⟨k,hk,h1,h2⟩

theorem any_order{Q:Exit→Act→World→Prop}(ht:Traj P nt ops 0 st recs st')(hlen:recs.length=ops.size)(hok:DrawOk ops st recs)(κ:Ctx)(hnt:κ.nt=nt)(hQ:∀ a w,R κ st' a w→Q .normal a w):
 ∀ (fuel:Nat) (listed:Array Bool) (a:Act) (w:World),listed.size=ops.size→listed.toList.count false=fuel→(∀ i,listed.getD i false=true→∀ m,dep ops i m=true→listed.getD m false=true)→
  R κ (appS st 0 recs (fun m=>listed.getD m false)) a w→wpAny P .any ops Q fuel listed a w:=by
 have hend:∀ (listed:Array Bool),listed.size=ops.size→Region.ready .any ops listed=[]→∀ m,m<recs.length→listed.getD m false=true:=by
  intro listed hsz hr m
  induction m using Nat.strongRecOn with
  | _ m ih=>
   intro hm
   cases hl:listed.getD m false with
   | true=>rfl
   | false=>
    exfalso
    have hlt:m<ops.size:=by rw[← hlen]; exact hm
    have:m∈Region.ready .any ops listed:=by
     rw[mem_ready]
     refine⟨?_,ops[m],by simp[hlt],fun e he hb=>?_⟩
     ·have h':m<listed.size:=by rw[hsz]; exact hlt
      simp only[Array.getD_eq_getD_getElem?,Array.getElem?_eq_getElem h',Option.getD_some] at hl ⊢
      exact hl
     ·have hE:=hok.edges
      unfold edgesB at hE
      rw[aX] at hE
      have h1:=hE (ops[m],m) (zipIdx_get (by simp[hlt]))
      rw[Array.all_eq_true_iff_forall_mem] at h1
      have h2:=h1 e he
      simp only[hb,Bool.not_true,Bool.false_or,decide_eq_true_eq] at h2
      exact ih e.on h2 (by omega)
    rw[hr] at this; cases this
 intro fuel
 induction fuel with
 | zero=>
  intro listed a w hsz hc hcl hR
  have hall:∀ m,m<ops.size→listed.getD m false=true:=by
   intro m hm
   have h':m<listed.size:=by rw[hsz]; exact hm
   have hnot:false∉listed.toList:=List.count_eq_zero.1 hc
   simp only[Array.getD_eq_getD_getElem?,Array.getElem?_eq_getElem h',Option.getD_some]
   cases hb:listed[m] with
   | true=>rfl
   | false=>exact absurd (by rw[← hb]; exact Array.mem_toList_iff.2 (Array.getElem_mem h')) hnot
  refine⟨?_,hQ a w ?_⟩
  ·rw[List.eq_nil_iff_forall_not_mem]
   intro j hj
   rw[mem_ready] at hj
   obtain⟨h0,o,ho,_⟩:=hj
   have hlt:=(Array.getElem?_eq_some_iff.1 ho).1
   have h1:=hall j hlt
   have h':j<listed.size:=by rw[hsz]; exact hlt
   simp only[Array.getD_eq_getD_getElem?,Array.getElem?_eq_getElem h',Option.getD_some] at h0 h1
   rw[h0] at h1; cases h1
  ·have:=ht.last (fun m=>listed.getD m false) (fun m hm=>by simpa using hall m (by omega))
   rwa [this] at hR
 | succ fuel ih=>
  intro listed a w hsz hc hcl hR
  refine⟨fun hr=>hQ a w ?_,fun j hj=>?_⟩
  ·have:=ht.last (fun m=>listed.getD m false) (fun m hm=>by simpa using hend listed hsz hr m hm)
   rwa [this] at hR
  ·rw[mem_ready] at hj
   obtain⟨h0,o,ho,hall⟩:=hj
   have hlt:=(Array.getElem?_eq_some_iff.1 ho).1
   have hl:j<listed.size:=by rw[hsz]; exact hlt
   have hf:listed[j]=false:=by simpa[Array.getD_eq_getD_getElem?,hl] using h0
   have hjr:recs[j]?=some recs[j]:=by simp[hlen,hlt]
   have hSj:listed.getD j false=false:=by simp[Array.getD_eq_getD_getElem?,hl,hf]
   have hpre:∀ i,dep ops j i=true→listed.getD i false=true:=by
    intro i hi
    obtain⟨o',ho',e,he,hb,rfl⟩:=dep_iff.1 hi
    rw[ho] at ho'; cases ho'
    exact hall e he hb
   obtain⟨g1,g2,g3,g4⟩:=any_step ht hok (S:=fun m=>listed.getD m false) hjr hSj hpre hcl (fun i hi=>by
    rcases Nat.lt_or_ge i listed.size with h' | h'
    ·omega
    ·simp[Array.getD_eq_getD_getElem?,Array.getElem?_eq_none h'] at hi)
   refine g1 κ _ a w hnt g2 g3 hR _ _ (fun a' w' hR'=>?_)
   rw[g4] at hR'
   have hset:∀ m,(listed.setIfInBounds j true).getD m false=(listed.getD m false||m==j):=by
    intro m
    simp only[Array.getD_eq_getD_getElem?,Array.getElem?_setIfInBounds]
    by_cases hm:j=m
    ·subst hm; simp[hl]
    ·simp[hm,Ne.symm hm]
   refine ih _ a' w' (by simpa using hsz) ?_ ?_ ?_
   ·rw[Array.toList_setIfInBounds,List.count_set (by simpa using hl)]
    simp only[Array.getElem_toList,hf,hc]
    simp
   ·intro i hi m hm
    rw[hset] at hi ⊢
    simp only[Bool.or_eq_true,beq_iff_eq] at hi ⊢
    rcases hi with hi | hi
    ·exact .inl (hcl i hi m hm)
    ·subst hi; exact .inl (hpre m hm)
   ·have:(fun m=>(listed.setIfInBounds j true).getD m false)=(fun m=>listed.getD m false||m==j):=funext hset
    rw[this]; exact hR'
end
end
section

/-- From this abstract state on the code ends as 'Q' says. -/
def VC(P:Program)(nt:Nat)(c:Code)(st:St)(Q:Exit→St→Prop):Prop:=
 ∀ κ a w,κ.nt=nt→R κ st a w→∀ Qc:Exit→Act→World→Prop,(∀ e st' a' w',Q e st'→R κ st' a' w'→Qc e a' w')→c.wp P Qc a w

theorem R.drew{κ:Ctx}{st:St}{a:Act}{w:World}(h:R κ st a w):R κ st a { w with drawn:=w.drawn+1 }:=by
 obtain⟨G,h⟩:=h
 have hN:∀ b,Nof κ st G w b→Nof κ st G { w with drawn:=w.drawn+1 } b:=fun _ h=>h
 have hw:∀ b,Nof κ st G w b→({ w with drawn:=w.drawn+1 }:World).heap[b]?=w.heap[b]?:=fun _ _=>rfl
 exact⟨G,h.keep.trans ⟨rfl,rfl,rfl,aM _,fun _ _ _=>rfl,fun _=>Nat.le_succ _⟩,h.defers,h.nt,fun k=>(h.slots k).frame hN hw (fun _ _=>rfl) (fun _ _=>rfl) (fun _=>⟨rfl,rfl⟩),
  fun c sz es hc=>⟨RepC.frame hN hw _ _ _ (fun _ _=>rfl) (h.objs c sz es hc).1,(h.objs c sz es hc).2⟩,h.boxes,h.bb,h.bo,h.oo,h.held⟩

section
variable{P:Program}{nt:Nat}{st:St}{Q:Exit→St→Prop}

theorem VC.skip(h:Q .normal st):VC P nt .skip st Q:=fun _ _ _ _ hR _ hQ=>wp_skip (hQ _ _ _ _ h hR)
theorem VC.ret(h:Q .ret st):VC P nt .ret st Q:=fun _ _ _ _ hR _ hQ=>wp_ret (hQ _ _ _ _ h hR)
theorem VC.exit{id:Nat}(h:Q (.exit id) st):VC P nt (.exit id) st Q:=fun _ _ _ _ hR _ hQ=>wp_exit (hQ _ _ _ _ h hR)

def seqK(K:St→Prop)(Q:Exit→St→Prop):Exit→St→Prop
 | .normal,st=>K st
 | e,st=>Q e st
theorem VC.seq{x y:Code}(h:∀ K:St→Prop,(∀ st',VC P nt y st' Q→K st')→VC P nt x st (seqK K Q)):VC P nt (.seq x y) st Q:=by
 intro κ a w hnt hR Qc hQ
 refine wp_seq (h (fun st'=>VC P nt y st' Q) (fun _ h=>h) κ a w hnt hR _ ?_)
 intro e st' a' w' hq hR'
 cases e with
 | normal=>exact hq κ a' w' hnt hR' Qc hQ
 | _=>exact hQ _ _ _ _ hq hR'

def blockK(id:Nat)(Q:Exit→St→Prop):Exit→St→Prop
 | .exit id',st=>if id'=id then Q .normal st else Q (.exit id') st
 | e,st=>Q e st
theorem VC.block{id:Nat}{x:Code}(h:VC P nt x st (blockK id Q)):VC P nt (.block id x) st Q:=by
 intro κ a w hnt hR Qc hQ
 refine wp_block (h κ a w hnt hR _ ?_)
 intro e st' a' w' hq hR'
 cases e with
 | exit id'=>
  simp only[blockK,Exit.inBlock] at hq ⊢
  split
  ·rename_i h; rw[if_pos h] at hq; exact hQ _ _ _ _ hq hR'
  ·rename_i h; rw[if_neg h] at hq; exact hQ _ _ _ _ hq hR'
 | _=>exact hQ _ _ _ _ hq hR'

theorem VC.region{id:Nat}{ops:Array Oper}(h:wpD P nt ops ops.toList st [] (fun _ st'=>Q .normal st')):VC P nt (.region id ops false) st Q:=by
 intro κ a w hnt hR Qc hQ
 obtain⟨recs,st',ht,hl,hK⟩:=wpD_ok ops.toList 0 st [] (by simp) h
 refine wp_region ?_
 have:=ht.seq (Q:=Qc) κ a w hnt hR (fun a' w' hR'=>hQ _ _ _ _ hK hR')
 rw[hl] at this
 rwa [List.range_eq_range',← Array.length_toList]

theorem VC.draw{id:Nat}{ops:Array Oper}(hm:P.follows .mixedOrders=true)(h:wpD P nt ops ops.toList st [] (fun recs st'=>DrawOk ops st recs∧Q .normal st')):VC P nt (.region id ops true) st Q:=by
 intro κ a w hnt hR Qc hQ
 obtain⟨recs,st',ht,hl,hok,hK⟩:=wpD_ok ops.toList 0 st [] (by simp) h
 refine wp_region_any hm (any_order ht (by simpa using hl) (by simpa using hok) κ hnt (fun a' w' hR'=>hQ _ _ _ _ hK hR') _ _ _ _ (by simp) (by simp[List.count_replicate]) (fun i hi=>?_) ?_)
 ·simp[Array.getD_eq_getD_getElem?,Array.getElem?_replicate] at hi
  split at hi<;>simp at hi
 ·have:appS st 0 recs (fun m=>(Array.replicate ops.size false).getD m false)=st:=by
   have h0:∀ (rs:List Rec) (i:Nat) (s:St) (S:Nat→Bool),(∀ m,S m=false)→appS s i rs S=s:=by
    intro rs; induction rs with
    | nil=>intros; rfl
    | cons q qs ih=>intro i s S hS; simp only[appS,hS i]; simpa using ih (i+1) s S hS
   refine h0 _ _ _ _ (fun m=>?_)
   simp only[Array.getD_eq_getD_getElem?,Array.getElem?_replicate]
   split<;>rfl
  rw[this]
  exact hR.drew

def boolOf(sv:SlotV)(K:Bool→Prop):Prop:=
 match sv with
 | .val (.pv (.lit (.bool b)))=>K b
 | .ex Q=>∀ v,Q v→∃ b,v=.bool b∧K b
 | _=>False
theorem VC.cond{c:Operand}{x y:Code}(h:boolOf (ev P st 0 c) fun b=>Cond b (VC P nt x st Q) (VC P nt y st Q)):VC P nt (.cond c x y) st Q:=by
 intro κ a w hnt hR Qc hQ
 unfold boolOf at h
 split at h
 ·rename_i b he
  obtain⟨G,hG⟩:=hR
  have e:=ev_lit (P:=P) (T:=0) hG he (fun _ _=>rfl)
  cases b with
  | true=>exact wp_cond_true e (h.1 rfl κ a w hnt ⟨G,hG⟩ Qc hQ)
  | false=>exact wp_cond_false e (h.2 rfl κ a w hnt ⟨G,hG⟩ Qc hQ)
 ·rename_i Q' he
  obtain⟨G,hG⟩:=hR
  have h1:=ev_ok (P:=P) (T:=0) hG c 0
  rw[he] at h1
  obtain⟨b,e,hb⟩:=h _ h1
  cases b with
  | true=>exact wp_cond_true e (hb.1 rfl κ a w hnt ⟨G,hG⟩ Qc hQ)
  | false=>exact wp_cond_false e (hb.2 rfl κ a w hnt ⟨G,hG⟩ Qc hQ)
 ·exact h.elim

/-- One state says less than another. -/
def St.le(st st':St):Prop:=∀ κ a w,R κ st a w→R κ st' a w
theorem St.le_refl(st:St):st.le st:=fun _ _ _ h=>h

/-- A loop: what holds at the head of each round. -/
theorem VC.loop{c:Code}{α:Type}(S:α→St)(I:α→Prop)(μ:α→Nat)(x0:α)(h0:I x0)(hst:st.le (S x0))
 (round:∀ x,I x→VC P nt c (S x) (seqK (fun st'=>∃ y,I y∧μ y<μ x∧st'.le (S y)) Q)):VC P nt (.loop c) st Q:=by
 intro κ a w hnt hR Qc hQ b k cs
 have key:∀ n x a w,μ x=n→I x→R κ (S x) a w→
  ∃ e a' w',Qc e a' w'∧Arrives P (lone (b.at a (.code c::.inLoop c::k)) cs w) b k cs e a' w':=by
  intro n
  induction n using Nat.strongRecOn with
  | _ n ih=>
   intro x a w hn hI hR
   have h1:=round x hI κ a w hnt hR (fun e a' w'=>match e with | .normal=>∃ y,I y∧μ y<μ x∧R κ (S y) a' w' | e=>Qc e a' w') (by
    intro e st' a'' w'' hq hR'
    cases e with
    | normal=>obtain⟨y,h1,h2,h3⟩:=hq; exact⟨y,h1,h2,h3 κ a'' w'' hR'⟩
    | _=>exact hQ _ _ _ _ hq hR')
   obtain⟨e,a₁,w₁,hq,harr⟩:=h1 b (.inLoop c::k) cs
   cases e with
   | normal=>
    obtain⟨y,hI₁,hlt,hR₁⟩:=hq
    obtain⟨e₂,a₂,w₂,hq₂,harr₂⟩:=ih (μ y) (hn▸hlt) y a₁ w₁ rfl hI₁ hR₁
    exact⟨e₂,a₂,w₂,hq₂,.of_steps (Steps.trans harr (.one step_inLoop)) harr₂⟩
   | exit id=>exact⟨_,a₁,w₁,hq,.pass (x:=.inLoop c) rfl (fun _ _=>.inl (by simp)) harr⟩
   | goto l=>exact⟨_,a₁,w₁,hq,.pass (x:=.inLoop c) rfl (fun _ _=>.inl (by simp)) harr⟩
   | ret=>exact⟨_,a₁,w₁,hq,.pass (x:=.inLoop c) rfl (fun _ _=>.inl (by simp)) harr⟩
   | panic ch=>exact⟨_,a₁,w₁,hq,.pass (x:=.inLoop c) rfl (fun _ _=>.inl (by simp)) harr⟩
   | outgrown=>exact⟨_,a₁,w₁,hq,.pass (x:=.inLoop c) rfl (fun _ _=>.inl (by simp)) harr⟩
 obtain⟨e,a',w',hq,harr⟩:=key _ x0 a w rfl h0 (hst κ a w hR)
 exact⟨e,a',w',hq,.of_steps (.one step_loop) harr⟩
end

/-! ### A function's body -/
/-- The content of a result variable. -/
def resCV(_:Program)(st:St):ResultVar→CV
 | .tmp t=>argCV (st.s t)
 | .cell t _=>match st.s t with
  | .box x=>x
  | _=>.gone 0
def resOk(P:Program)(st:St):ResultVar→Prop
 | .tmp _=>True
 | .cell t T=>match st.s t with
  | .box x=>TyIs P T x.isAgg x.size
  | _=>False
def resCVs(P:Program)(st:St):List ResultVar→List CV
 | []=>[]
 | r::rs=>resCV P st r::resCVs P st rs
def resOks(P:Program)(st:St):List ResultVar→Prop
 | []=>True
 | r::rs=>resOk P st r∧resOks P st rs

def asRes:List PV→PV
 | [p]=>p
 | ps=>.tup ps

/-- The result variables hold this. -/
def RetOk(P:Program)(st:St)(rs:List ResultVar)(res:PV):Prop:=
 aB st.o (resCVs P st rs)=true∧resOks P st rs∧
  ((av (resCVs P st rs)).Nodup∧res=asRes (aD st.o (resCVs P st rs))∨res=asRes (aK st.o (resCVs P st rs)))

theorem run_result{κ:Ctx}{G:Gh}{st:St}{a:Act}{w:World}{P:Program}(h:RG κ G st a w)(r:ResultVar)(hw:(resCV P st r).whole st.o=true)(hok:resOk P st r):
 ∃ v,(match r with | .tmp t=>Pure.pure (a.tmps.getD t undef) | .cell t T=>do loadVar T (← asAddr (a.tmps.getD t undef)):Sem Value).run P w=.ok v w∧CVal (Nof κ st G w) w G.hd (resCV P st r) v:=by
 cases r with
 | tmp t=>
  have h1:=h.slots t
  refine⟨a.tmps.getD t undef,rfl,?_⟩
  simp only[resCV] at hw ⊢
  cases hs:st.s t with
  | val x=>rw[hs] at h1; exact h1
  | _=>rw[hs] at hw; simp[argCV,CV.whole] at hw
 | cell t T=>
  have h1:=h.slots t
  simp only[resCV,resOk] at hw hok ⊢
  cases hs:st.s t with
  | box x=>
   rw[hs] at h1 hw hok
   obtain⟨h2,cs,e,h3,h4⟩:=h1
   have hrow:RowAt w ⟨G.ad t,0,none⟩ cs:=by
    have:=rowAt_of_block (w:=w) (b:=G.ad t) (c1:=[]) (c2:=cs) (c3:=[]) (e:=e) (fr:=(0,0)) (by simpa using h3)
    simpa using this
   obtain⟨v,h5,h6⟩:=run_loadVar (P:=P) hok rfl hrow h4 (fun n e=>by subst e; simp[CV.whole] at hw)
   exact⟨v,by simp only[h2,asAddr,pure_bind]; exact h5,h6⟩
  | _=>rw[hs] at hw; simp[CV.whole] at hw

theorem run_results{κ:Ctx}{G:Gh}{st:St}{a:Act}{w:World}{P:Program}(h:RG κ G st a w):∀ (rs:List ResultVar),aB st.o (resCVs P st rs)=true→resOks P st rs→
 ∃ vs,(rs.mapM (fun r=>(match r with | .tmp t=>Pure.pure (a.tmps.getD t undef) | .cell t T=>do loadVar T (← asAddr (a.tmps.getD t undef)):Sem Value))).run P w=.ok vs w∧CVals (Nof κ st G w) w G.hd (resCVs P st rs) vs
 | [],_,_=>⟨[],by simp,by simp[resCVs,CVals]⟩
 | r::rs,hw,hok=>by
  simp only[resCVs,aB,aw] at hw
  obtain⟨v,h1,h2⟩:=run_result h r hw.1 hok.1
  obtain⟨vs,h3,h4⟩:=run_results h rs hw.2 hok.2
  refine⟨v::vs,?_,by simp only[resCVs,CVals]; exact⟨v,vs,rfl,h2,h4⟩⟩
  simp only[List.mapM_cons,Sem.run_bind,h1,Result.andThen_ok,h3,Sem.run_pure]

/-- The state in which a body begins. -/
def argSt(args:List PV):St:=
 { s:=fun k=>match (explodes args 9000).1[k]? with | some x=>.val x | none=>.dead,o:=updAll (fun _=>none) (newObjs (explodes args 9000).2.1) }

theorem repVs_length{N:Nat→Prop}{w:World}:∀ {ps:List PV} {vs:List Value} {F:List Nat},RepVs N w ps vs F→vs.length=ps.length
 | [],_,_,h=>by simp only[RepVs] at h; simp[h.1]
 | _::_,vs,F,h=>by
  simp only[RepVs] at h
  obtain⟨v,vs',F1,F2,rfl,_,_,h4⟩:=h
  simp[repVs_length h4]

theorem repV_pv{N:Nat→Prop}{w:World}{hd:Nat→Value}{p:PV}{v:Value}(h:RepV N w p v []):CVal N w hd (.pv p) v:=by
 cases p with
 | agg fs=>obtain⟨cs,rfl,h⟩:=h; exact .inl ⟨rfl,cs,rfl,by simpa[RepCV,RepC] using h⟩
 | tup ps=>simp[RepV,RepC] at h
 | _=>exact .inr ⟨rfl,by simpa[RepCV,RepV] using h,RepC.one _ _ _ (by simpa only[RepV] using h) v (by simp)⟩

theorem repR_asRes{N:Nat→Prop}{w:World}{ps:List PV}{vs:List Value}{F:List Nat}(h:RepVs N w ps vs F)(hne:∀ qs,ps≠[.tup qs]):RepR N w (asRes ps) (if h:vs.toArray.size=1 then vs.toArray[0] else .tuple vs.toArray) F:=by
 have hl:=repVs_length h
 match ps,vs,h,hl with
 | [],[],h,_=>exact⟨[],rfl,h⟩
 | [p],[v],h,_=>
  simp only[RepVs] at h
  obtain⟨v',vs',F1,F2,h1,h2,h3,h4,h5⟩:=h
  obtain⟨rfl,rfl⟩:=List.cons.inj h1
  subst h5
  have:F=F1:=by simpa using h2
  subst this
  cases p with
  | tup qs=>exact absurd rfl (hne qs)
  | _=>simpa[asRes,RepR] using h3
 | p::q::ps,u::v::vs,h,_=>
  have:¬ (u::v::vs).toArray.size=1:=by simp
  rw[dif_neg this]
  exact⟨_,rfl,h⟩

theorem pvos_ne{N:Nat→Prop}{w:World}{vs:List Value}{F:List Nat}{ps:List PV}(h:RepVs N w ps vs F):∀ qs,ps≠[.tup qs]:=by
 rintro qs rfl
 simp only[RepVs] at h
 obtain⟨v,vs',F1,F2,_,_,h3,_⟩:=h
 simp[RepV,RepC] at h3

theorem repVs_frame{N N':Nat→Prop}{w w':World}(hN:∀ b,N b→N' b)(hw:∀ b,N b→w'.heap[b]?=w.heap[b]?):∀ {ps:List PV} {vs:List Value} {F:List Nat},(∀ b∈F,w'.heap[b]?=w.heap[b]?)→RepVs N w ps vs F→RepVs N' w' ps vs F
 | [],_,_,_,h=>by simpa only[RepVs] using h
 | p::ps,vs,F,hF,h=>by
  simp only[RepVs] at h ⊢
  obtain⟨v,vs',F1,F2,h1,h2,h3,h4⟩:=h
  subst h2
  exact⟨v,vs',F1,F2,h1,rfl,h3.frame hN hw (fun b hb=>hF b (by simp[hb])),repVs_frame hN hw (fun b hb=>hF b (by simp[hb])) h4⟩

/-- **A function meets its contract** if its body, from its arguments on, ends with the result in its result variables. -/
theorem Sat.of_body{P:Program}{f:FuncId}{fn:Func}{c:Code}{args:List PV}{res:PV}{nt:Nat}{rs:List ResultVar}(hf:P.funcs[f]?=some fn)(hname:(fn.name== "runtime.NumGoroutine")=false)(hb:fn.body=some c)
 (hnt:fn.ntmps=nt) (hrs:fn.results.toList=rs) (hle:args.length≤nt) (h:VC P nt c (argSt args) (fun e st=>(e=.normal∨e=.ret)∧RetOk P st rs res)):Sat P f args res:=by
 refine⟨⟨fn,hf,hname,by simp[hb]⟩,fun w N vs Fs hN hFn hFl hvs=>?_⟩
 have hlen:=repVs_length hvs
 obtain⟨hdv,fpv,news,hcv⟩:=explodesV_ok args vs Fs 9000 hvs hFn
 let κ:Ctx:={ w0:=w,N:=N,L:=Fs,nt:=nt,hN:=hN,hL:=hFl }
 let G:Gh:={ hd:=hdv,fp:=fpv,ad:=fun _=>0 }
 have hsz:(vs.toArray++Array.replicate (fn.ntmps-vs.toArray.size) undef).size=nt:=by simp[hlen,hnt]; omega
 have hob:∀ c sz es,(argSt args).o c=some (sz,es)→(c,(sz,es))∈(explodes args 9000).2.1:=by
  intro c sz es hc
  simp only[argSt] at hc
  by_cases hm:c∈(explodes args 9000).2.1.map (·.1)
  ·obtain⟨⟨n,p⟩,h1,rfl⟩:=List.mem_map.1 hm
   have h2:(n,some p)∈newObjs (explodes args 9000).2.1:=List.mem_map.2 ⟨(n,p),h1,rfl⟩
   rw[updAll_mem _ _ n (some p) (by rw[newObjs_keys]; exact news.once) h2] at hc
   cases hc; exact h1
  ·rw[updAll_notMem _ _ _ (by rw[newObjs_keys]; exact hm)] at hc; cases hc
 have hnb:∀ k,isBox ((argSt args).s k)=false:=by intro k; simp only[argSt]; split<;>rfl
 have hpriv:∀ b,N b→¬ Priv (argSt args) G b:=by
  rintro b hb (⟨r,h1,_⟩ | ⟨c,⟨sz,es⟩,h1,h2⟩)
  ·rw[hnb] at h1; cases h1
  ·exact(hN b hb).2 ((news.rep c sz es (hob c sz es h1)).2.2.2.2 b h2)
 have hNof:∀ b,N b→Nof κ (argSt args) G w b:=fun b hb=>⟨.inl hb,hpriv b hb⟩
 have hR:RG κ G (argSt args) { tmps:=vs.toArray++Array.replicate (fn.ntmps-vs.toArray.size) undef,defers:=[] } w:=by
  refine⟨KeepX.refl _ _ _,rfl,hsz,?_,?_,fun r hr=>(by rw[hnb] at hr; cases hr),fun r _ hr=>(by rw[hnb] at hr; cases hr),fun r _ _ hr=>(by rw[hnb] at hr; cases hr),?_,by simp[κ]⟩
  ·intro k
   simp only[argSt]
   cases hk:(explodes args 9000).1[k]? with
   | none=>trivial
   | some x=>
    obtain⟨v,h1,h2⟩:=cvals_at k x (hcv (Nof κ (argSt args) G w) G.hd hNof (fun _ _ _=>rfl)) hk
    have hkl:k<vs.length:=(List.getElem?_eq_some_iff.1 h1).1
    have:(vs.toArray++Array.replicate (fn.ntmps-vs.toArray.size) undef).getD k undef=v:=by
     simp only[Array.getD_eq_getD_getElem?]
     rw[Array.getElem?_append_left (by simpa using hkl)]
     simp[h1]
    rw[this]
    exact h2
  ·intro c sz es hc
   obtain⟨_,_,g3,g4,g5⟩:=news.rep c sz es (hob c sz es hc)
   exact⟨RepC.frame hNof (fun _ _=>rfl) _ _ _ (fun _ _=>rfl) g3,g4,fun b hb=>⟨.inr (g5 b hb),hFl b (g5 b hb)⟩⟩
  ·intro c c' ⟨sz,es⟩ ⟨sz',es'⟩ h1 h2 hne
   exact news.apart c c' _ _ (hob c sz es h1) (hob c' sz' es' h2) hne
 refine calls_of_wp hf hb (h κ _ w rfl ⟨G,hR⟩ _ ?_)
 intro e st' a' w' ⟨he,hw,hok,hres⟩ ⟨G',hG⟩
 have key:a'.defers=[]∧∃ v,(results fn a'.tmps).run P w'=.ok v w'∧∃ v' F,Ending.returned v=.returned v'∧KeepX Fs w.heap.size w w'∧
  RepR (fun b=>N b∨((w.heap.size≤b∨b∈Fs)∧b<w'.heap.size∧b∉F)) w' res v' F∧F.Nodup∧∀ b∈F,(w.heap.size≤b∨b∈Fs)∧b<w'.heap.size:=by
  obtain⟨vs',h1,h2⟩:=run_results hG rs hw hok
  refine⟨hG.defers,(if h:vs'.toArray.size=1 then vs'.toArray[0] else .tuple vs'.toArray),?_,(if h:vs'.toArray.size=1 then vs'.toArray[0] else .tuple vs'.toArray),?_⟩
  ·have e1:fn.results=rs.toArray:=by rw[← hrs]
   simp only[results,e1,List.mapM_toArray,Sem.run_bind,Sem.run_map,Sem.run_pure]
   exact congrArg (fun r:Result (List Value)=>((r.andThen fun a w'=>.ok a.toArray w').andThen fun a w'=>.ok (if h:a.size=1 then a[0] else Value.tuple a) w')) h1
  rcases hres with⟨hn,rfl⟩ | rfl
  ·have hown:=CVals.own (fun c sz es hc=>(hG.objs c sz es hc).1) hw h2
   have hlive:=CV.namess_live _ hw
   refine⟨fps G'.fp (av (resCVs P st' rs)),rfl,hG.keep,repR_asRes ?_ ?_,fps_nodup hG _ hn hlive,?_⟩
   ·have hfr:∀ b,Nof κ st' G' w' b→N b∨((w.heap.size≤b∨b∈Fs)∧b<w'.heap.size∧b∉fps G'.fp (av (resCVs P st' rs))):=by
     intro b hb
     rcases hb.1 with h | h
     ·exact .inl h
     ·refine .inr ⟨h.1,h.2,fun hm=>hb.2 ?_⟩
      obtain⟨c,hc,hm⟩:=mem_fps.1 hm
      obtain⟨p,hp⟩:=Option.isSome_iff_exists.1 (hlive c hc)
      exact .inr ⟨c,p,hp,hm⟩
    exact repVs_frame hfr (fun _ _=>rfl) (fun _ _=>rfl) hown
   ·exact pvos_ne hown
   ·intro b hb
    obtain⟨c,hc,hm⟩:=mem_fps.1 hb
    obtain⟨⟨sz,es⟩,hp⟩:=Option.isSome_iff_exists.1 (hlive c hc)
    exact(hG.objs c sz es hp).2.2 b hm
  ·have hview:=cvals_view (N':=fun b=>N b∨((w.heap.size≤b∨b∈Fs)∧b<w'.heap.size∧b∉([]:List Nat))) (ob:=st'.o) (fp:=G'.fp) (fun b (hb:Nof κ st' G' w' b)=>hb.1.imp id (fun h=>⟨h.1,h.2,by simp⟩))
    (fun c sz es hc=>⟨(hG.objs c sz es hc).1,fun b hb=>.inr ⟨((hG.objs c sz es hc).2.2 b hb).1,((hG.objs c sz es hc).2.2 b hb).2,by simp⟩⟩) _ _ hw h2
   exact⟨[],rfl,hG.keep,repR_asRes hview (pvos_ne hview),List.nodup_nil,by simp⟩
 rcases he with rfl | rfl<;>exact key
end
section

theorem upd_apply{α:Type}(f:Nat→α)(k:Nat)(x:α)(j:Nat):upd f k x j=if j=k then x else f j:=rfl
theorem updAll_nil{α:Type}(f:Nat→α):updAll f []=f:=rfl
theorem updAll_cons{α:Type}(f:Nat→α)(k:Nat)(v:α)(l:List (Nat×α)):updAll f ((k,v)::l)=updAll (upd f k v) l:=rfl
theorem stepG_none(P:Program)(nt:Nat)(ops:Array Oper)(st:St)(d:Option Tmp)(op:Op)(T:TypeId)(pos:String)(af:Array Edge)(K:Rec→Prop):
 stepG P nt ops st { dst:=d,op:=op,type:=T,pos:=pos,after:=af,guard:=none } K=recO P nt st { dst:=d,op:=op,type:=T,pos:=pos,after:=af,guard:=none } K:=rfl
theorem app_mk(s:Nat→SlotV)(o:Nat→Option (Nat×List PV))(r:Rec):St.app ⟨s,o⟩ r=⟨updAll s r.us,updAll o r.uo⟩:=rfl
theorem seqK_normal(K:St→Prop)(Q:Exit→St→Prop)(st:St):seqK K Q .normal st=K st:=rfl
theorem gst_eq(ops:Array Oper)(j:Nat):gst ops j=(ops[j]?).bind (·.dst):=rfl

theorem CallV.congr{P:Program}{f:FuncId}{v v' o o' c:List PV}{K:List Bool→PV→Prop}(h1:v=v')(h2:o=o'):CallV P f v o c K=CallV P f v' o' c K:=by rw[h1,h2]
theorem Cond.congr{b b':Bool}{A B:Prop}(h:b=b'):Cond b A B=Cond b' A B:=by rw[h]

def updL:Nat→List CV→(Nat→SlotV)→Nat→SlotV
 | _,[],f=>f
 | i,x::xs,f=>updL (i+1) xs (upd f i (.val x))
theorem updL_nil(i:Nat)(f:Nat→SlotV):updL i [] f=f:=rfl
theorem updL_cons(i:Nat)(x:CV)(xs:List CV)(f:Nat→SlotV):updL i (x::xs) f=updL (i+1) xs (upd f i (.val x)):=rfl
theorem updL_apply:∀ (xs:List CV) (i:Nat) (f:Nat→SlotV) (k:Nat),updL i xs f k=if k<i then f k else match xs[k-i]? with | some x=>.val x | none=>f k
 | [],i,f,k=>by simp[updL]
 | x::xs,i,f,k=>by
  rw[updL,updL_apply xs (i+1)]
  by_cases h:k<i
  ·have:k<i+1:=by omega
   rw[if_pos this,if_pos h,upd_apply,if_neg (by omega)]
  ·rw[if_neg h]
   by_cases h1:k=i
   ·subst h1; rw[if_pos (by omega)]; simp[upd_apply]
   ·rw[if_neg (by omega)]
    have e:k-i=(k-(i+1))+1:=by omega
    rw[e,List.getElem?_cons_succ,upd_apply,if_neg h1]
theorem argSt_eq(args:List PV):argSt args=⟨updL 0 (explodes args 9000).1 (fun _=>.dead),updAll (fun _=>none) (newObjs (explodes args 9000).2.1)⟩:=by
 simp only[argSt,St.mk.injEq,and_true]
 funext k
 rw[updL_apply]
 simp only[Nat.not_lt_zero,if_false,Nat.sub_zero]
 all_goals (cases (explodes args 9000).1[k]?<;>rfl)
theorem explodes_nil(c:Nat):explodes [] c=([],[],c):=rfl
theorem explodes_cons(p:PV)(ps:List PV)(c:Nat):explodes (p::ps) c=((explode p c).1::(explodes ps (explode p c).2.2).1,(explode p c).2.1++(explodes ps (explode p c).2.2).2.1,(explodes ps (explode p c).2.2).2.2):=rfl
theorem explode_lit(v:Value)(c:Nat):explode (.lit v) c=(.pv (.lit v),[],c):=rfl
theorem explode_view(sz:Nat)(es:List PV)(c:Nat):explode (.sl false sz es) c=(.pv (.sl false sz es),[],c):=rfl
theorem explode_own(sz:Nat)(es:List PV)(c:Nat):explode (.sl true sz es) c=(.own c,[(c,(sz,es))],c+1):=rfl
theorem explode_clo(f:FuncId)(cs:List PV)(c:Nat):explode (.clo f cs) c=(.pv (.clo f cs),[],c):=rfl
theorem explode_ptr(v:PV)(c:Nat):explode (.ptr v) c=(.pv (.ptr v),[],c):=rfl
theorem explode_agg(fs:List PV)(c:Nat):explode (.agg fs) c=if PV.noOwns fs then(.pv (.agg fs),[],c) else(.node (explodes fs c).1,(explodes fs c).2.1,(explodes fs c).2.2):=rfl
theorem resSV_tup(ps:List PV)(c:Nat):resSV (.tup ps) c=.tup (explodes ps c).1:=rfl
theorem resObjs_tup(ps:List PV)(c:Nat):resObjs (.tup ps) c=(explodes ps c).2.1:=rfl
theorem resSV_lit(v:Value)(c:Nat):resSV (.lit v) c=.val (.pv (.lit v)):=rfl
theorem resObjs_lit(v:Value)(c:Nat):resObjs (.lit v) c=[]:=rfl
theorem resSV_sl(b:Bool)(sz:Nat)(es:List PV)(c:Nat):resSV (.sl b sz es) c=.val (explode (.sl b sz es) c).1:=rfl
theorem resObjs_sl(b:Bool)(sz:Nat)(es:List PV)(c:Nat):resObjs (.sl b sz es) c=(explode (.sl b sz es) c).2.1:=rfl
theorem resSV_agg(fs:List PV)(c:Nat):resSV (.agg fs) c=.val (explode (.agg fs) c).1:=rfl
theorem resObjs_agg(fs:List PV)(c:Nat):resObjs (.agg fs) c=(explode (.agg fs) c).2.1:=rfl
/-! What stays new -/
theorem noR_mk(s:Nat→SlotV)(o:Nat→Option (Nat×List PV))(r k:Nat)(v:SlotV)(h:v.noR r=true)(h':St.noR ⟨s,o⟩ r):St.noR ⟨upd s k v,o⟩ r:=by
 intro j
 simp only[upd]
 split
 ·exact h
 ·exact h' j
theorem noR_empty(o:Nat→Option (Nat×List PV))(r:Nat):St.noR ⟨fun _=>.dead,o⟩ r:=fun _=>rfl
theorem noC_mk(s:Nat→SlotV)(o:Nat→Option (Nat×List PV))(c k:Nat)(v:SlotV)(h:v.noC c=true)(h':St.noC ⟨s,o⟩ c):St.noC ⟨upd s k v,o⟩ c:=by
 refine⟨h'.1,fun j=>?_⟩
 simp only[upd]
 split
 ·exact h
 ·exact h'.2 j
theorem noC_empty(o:Nat→Option (Nat×List PV))(c:Nat)(h:c<10000∧o c=none):St.noC ⟨fun _=>.dead,o⟩ c:=⟨h,fun _=>rfl⟩
end
section
variable{P:Program}{nt:Nat}{ops:Array Oper}

universe u
/-- What is not to be looked at yet. -/
inductive Tok{α:Sort u}(a:α):Type
 | mk:Tok a
def CallH(P:Program)(f:FuncId)(v o c:List PV)(K:List Bool→PV→Prop)(H:Prop)(_:Tok K)(_:Tok H):Prop:=CallV P f v o c K∨H
def CondH(b:Bool)(A B:Prop)(_:Tok A)(_:Tok B):Prop:=Cond b A B
theorem CondH.mk{b:Bool}{A B:Prop}(h1:b=true→A)(h2:b=false→B):CondH b A B .mk .mk:=⟨h1,h2⟩
@[congr] theorem CondH.cg {b b':Bool} {A B:Prop} (h:∀ _:Unit,b=b'):CondH b A B .mk .mk=CondH b' A B .mk .mk:=by rw[h ()]
theorem CallH.mk{f:FuncId}{views owns caps args:List PV}{K:List Bool→PV→Prop}(ms:List Bool){res:PV}(h:Sat P f args res)(ha:args=mix ms views owns++caps)(hK:K ms res){H:Prop}:CallH P f views owns caps K H .mk .mk:=.inl (CallV.mk ms h ha hK)
theorem CallH.hatch{f:FuncId}{v o c:List PV}{K:List Bool→PV→Prop}{H:Prop}(h:H):CallH P f v o c K H .mk .mk:=.inr h

def HandH(H:Prop)(_:Tok H):Prop:=H
theorem HandH.mk{H:Prop}(h:H):HandH H .mk:=h
def OrH(A H:Prop)(_:Tok H):Prop:=A∨H
@[congr] theorem OrH.cg {A A' H:Prop} (h:∀ _:Unit,A=A'):OrH A H .mk=OrH A' H .mk:=by rw[h ()]
theorem OrH_call(f:FuncId)(v o c:List PV)(K:List Bool→PV→Prop)(H:Prop):OrH (CallH P f v o c K H .mk .mk) H .mk=CallH P f v o c K H .mk .mk:=by
 simp only[OrH,CallH,or_assoc,or_self]
theorem OrH_false(H:Prop):OrH False H .mk=HandH H .mk:=by simp only[OrH,HandH,false_or]
def MfH(A H:Prop)(_:Tok A)(_:Tok H):Prop:=A∨H
theorem MfH.fr{A H:Prop}(h:A):MfH A H .mk .mk:=.inl h
def objK'{α:Type}(x:Option α)(K:α→Prop):Prop:=
 match x with
 | some y=>K y
 | none=>False
@[congr] theorem objK'.cg {α:Type} {x x':Option α} {K:α→Prop} (h:∀ _:Unit,x=x'):objK' x K=objK' x' K:=by rw[h ()]
theorem objK'_some{α:Type}(y:α)(K:α→Prop):objK' (some y) K=K y:=rfl
@[congr] theorem wpD.cg (l:List Oper) (st st':St) (acc:List Rec) (K:List Rec→St→Prop) (h:∀ _:Unit,st=st'):wpD P nt ops l st acc K=wpD P nt ops l st' acc K:=by rw[h ()]
theorem wpD_c(o:Oper)(os:List Oper)(s:Nat→SlotV)(ob:Nat→Option (Nat×List PV))(acc:List Rec)(K:List Rec→St→Prop):
 wpD P nt ops (o::os) ⟨s,ob⟩ acc K=stepG P nt ops ⟨s,ob⟩ o fun r=>wpD P nt ops os (St.app ⟨s,ob⟩ r) (r::acc) K:=rfl
theorem wpD_n(s:Nat→SlotV)(ob:Nat→Option (Nat×List PV))(acc:List Rec)(K:List Rec→St→Prop):wpD P nt ops [] ⟨s,ob⟩ acc K=K acc.reverse ⟨s,ob⟩:=rfl
theorem stepG_s(st:St)(d:Tmp)(op:Op)(T:TypeId)(pos:String)(af:Array Edge)(j:Nat)(want:Bool)(K:Rec→Prop):
 stepG P nt ops st { dst:=some d,op:=op,type:=T,pos:=pos,after:=af,guard:=some (j,want) } K=
  objK' (gst ops j) fun g=>guardK (st.s g) want (recO P nt st { dst:=some d,op:=op,type:=T,pos:=pos,after:=af,guard:=some (j,want) } fun r=>K { r with rs:=g::r.rs })
   (d<nt∧K { rs:=[g],us:=[(d,.tup [])] }):=by
 simp only[stepG,objK']
 cases h:gst ops j with
 | none=>simp
 | some g=>simp
theorem stepG_sn(st:St)(op:Op)(T:TypeId)(pos:String)(af:Array Edge)(j:Nat)(want:Bool)(K:Rec→Prop):
 stepG P nt ops st { dst:=none,op:=op,type:=T,pos:=pos,after:=af,guard:=some (j,want) } K=
  objK' (gst ops j) fun g=>guardK (st.s g) want (recO P nt st { dst:=none,op:=op,type:=T,pos:=pos,after:=af,guard:=some (j,want) } fun r=>K { r with rs:=g::r.rs })
   (K { rs:=[g],us:=[] }):=by
 simp only[stepG,objK']
 cases h:gst ops j with
 | none=>simp
 | some g=>simp
@[congr] theorem binKK.cg {st:St} {T:TypeId} {op:BinOp} {x x' y y':SlotV} {K:Value→Prop} {H:List Nat→SlotV→Prop} (h:∀ _:Unit,x=x') (h':∀ _:Unit,y=y'):binKK P st T op x y K H=binKK P st T op x' y' K H:=by rw[h (),h' ()]
@[congr] theorem aggK.cg {T:TypeId} {op:BinOp} {x x' y y':List PV} {K:Value→Prop} (h:∀ _:Unit,x=x') (h':∀ _:Unit,y=y'):aggK P T op x y K=aggK P T op x' y' K:=by rw[h (),h' ()]
@[congr] theorem unKK.cg {op:UnOp} {x x':SlotV} {K:Value→Prop} (h:∀ _:Unit,x=x'):unKK op x K=unKK op x' K:=by rw[h ()]
@[congr] theorem pickK.cg {c c':SlotV} {A B:Prop} (h:∀ _:Unit,c=c'):pickK c A B=pickK c' A B:=by rw[h ()]
@[congr] theorem extractK.cg {x x':SlotV} {i:Nat} {K:SlotV→Prop} (h:∀ _:Unit,x=x'):extractK x i K=extractK x' i K:=by rw[h ()]
@[congr] theorem boxK.cg {x x':SlotV} {K:CV→Prop} (h:∀ _:Unit,x=x'):boxK x K=boxK x' K:=by rw[h ()]
@[congr] theorem closK.cg {x x':SlotV} {K:FuncId→List PV→Prop} (h:∀ _:Unit,x=x'):closK x K=closK x' K:=by rw[h ()]
@[congr] theorem guardK.cg {x x':SlotV} {w:Bool} {A B:Prop} (h:∀ _:Unit,x=x'):guardK x w A B=guardK x' w A B:=by rw[h ()]
@[congr] theorem addF.cg {x x':SlotV} {k o o':Nat} {K:SlotV→Prop} (h:∀ _:Unit,x=x') (ho:∀ _:Unit,o=o'):addF x k o K=addF x' k o' K:=by rw[h (),ho ()]
@[congr] theorem loadK.cg {st:St} {T:TypeId} {x:Operand} {K:List Nat→List Nat→SlotV→Prop} {v v':SlotV} (h:∀ _:Unit,v=v'):loadK P st T x K v=loadK P st T x K v':=by rw[h ()]
@[congr] theorem storeK.cg {st:St} {T:TypeId} {x y:Operand} {z z':SlotV} {K:Rec→Prop} {v v':SlotV} (h:∀ _:Unit,v=v') (hz:∀ _:Unit,z=z'):storeK P st T x y z K v=storeK P st T x y z' K v':=by rw[h (),hz ()]
@[congr] theorem lenK.cg {st:St} {T:TypeId} {x x':SlotV} {K:List Nat→Nat→Prop} (h:∀ _:Unit,x=x'):lenK P T st x K=lenK P T st x' K:=by rw[h ()]
@[congr] theorem idxK.cg {st:St} {T:TypeId} {x y:Operand} {K:List Nat→List Nat→SlotV→Prop} {v v' u u':SlotV} (h:∀ _:Unit,v=v') (h':∀ _:Unit,u=u'):idxK P st T x y K v u=idxK P st T x y K v' u':=by rw[h (),h' ()]
@[congr] theorem Cond.cg {b b':Bool} {A B:Prop} (h:∀ _:Unit,b=b'):Cond b A B=Cond b' A B:=by rw[h ()]

@[congr] theorem boolOf.cg {x x':SlotV} {K:Bool→Prop} (h:∀ _:Unit,x=x'):boolOf x K=boolOf x' K:=by rw[h ()]
@[congr] theorem noC.cg {st:St} {c c':Nat} (h:∀ _:Unit,c=c'):St.noC st c=St.noC st c':=by rw[h ()]
@[congr] theorem objK.cg {α:Type} {x x':Option α} {f:α→Prop} (h:∀ _:Unit,x=x'):(∃ y,x=some y∧f y)=(∃ y,x'=some y∧f y):=by rw[h ()]

/-- A value that goes on, or the place of a variable. -/
def mvSH(t d:Nat)(K:Rec→Prop)(v:SlotV)(_:Tok K):Prop:=mvSK t d K v
@[congr] theorem mvSH.cg {t d:Nat} {K:Rec→Prop} {v v':SlotV} (h:∀ _:Unit,v=v'):mvSH t d K v .mk=mvSH t d K v' .mk:=by rw[h ()]
section
variable(t d:Nat)(K:Rec→Prop)
@[push_cast] theorem mvSH_box (x:CV):mvSH t d K (.box x) .mk=K { rp:=[t],us:=[(d,.bptr t [] 0)] }:=rfl
@[push_cast] theorem mvSH_val (x:CV):mvSH t d K (.val x) .mk=K { rs:=[t],us:=[(d,.val x)] }:=rfl
@[push_cast] theorem mvSH_tup (xs:List CV):mvSH t d K (.tup xs) .mk=K { rs:=[t],us:=[(d,.tup xs)] }:=rfl
@[push_cast] theorem mvSH_bptr (r:Nat) (p:List Nat) (o:Nat):mvSH t d K (.bptr r p o) .mk=K { rs:=[t],us:=[(d,.bptr r p o)] }:=rfl
@[push_cast] theorem mvSH_eptr (c sz i:Nat) (p:List Nat) (o:Nat):mvSH t d K (.eptr c sz i p o) .mk=K { rs:=[t],us:=[(d,.eptr c sz i p o)] }:=rfl
@[push_cast] theorem mvSH_fn (cs rs:List Nat) (ps:List PV) (f:List Value→List Nat→List Value→Value):mvSH t d K (.fn cs rs ps f) .mk=K { rs:=[t],us:=[(d,.fn cs rs ps f)] }:=rfl
@[push_cast] theorem mvSH_ex (Q:Value→Prop):mvSH t d K (.ex Q) .mk=K { rs:=[t],us:=[(d,.ex Q)] }:=rfl
@[push_cast] theorem mvSH_hold (sh:Sh) (ps:List PV) (x:HC):mvSH t d K (.hold sh ps x) .mk=K { rs:=[t],us:=[(d,.hptr t sh ps)] }:=rfl
@[push_cast] theorem mvSH_hptr (r:Nat) (sh:Sh) (ps:List PV):mvSH t d K (.hptr r sh ps) .mk=K { rs:=[t],us:=[(d,.hptr r sh ps)] }:=rfl
end
section
variable(st:St)(d:Nat)(ty T T':TypeId)(pos:String)(af:Array Edge)(g:Option (Nat×Bool))(K:Rec→Prop)(x y:Operand)
theorem recO_move(t:Nat):recO P nt st { dst:=some d,op:=.move (.tmp t),type:=ty,pos:=pos,after:=af,guard:=g } K=(d<nt∧mvSH t d K (st.s t) .mk):=rfl
theorem recO_moveC(v:Value):recO P nt st { dst:=some d,op:=.move (.const v),type:=ty,pos:=pos,after:=af,guard:=g } K=(d<nt∧K { rs:=[],us:=[(d,ev P st ty (.const v))] }):=rfl
theorem recO_moveF(f:FuncId):recO P nt st { dst:=some d,op:=.move (.func f),type:=ty,pos:=pos,after:=af,guard:=g } K=(d<nt∧K { rs:=[],us:=[(d,ev P st ty (.func f))] }):=rfl
theorem recO_assign:recO P nt st { dst:=some d,op:=.assign x,type:=ty,pos:=pos,after:=af,guard:=g } K=(d<nt∧K { rs:=rd x,us:=[(d,ev P st ty x)] }):=rfl
theorem recO_pick(c:Operand):recO P nt st { dst:=some d,op:=.pick c x y,type:=ty,pos:=pos,after:=af,guard:=g } K=(d<nt∧pickK (ev P st 0 c) (K { rs:=rd c++rd x,us:=[(d,ev P st ty x)] }) (K { rs:=rd c++rd y,us:=[(d,ev P st ty y)] })):=rfl
theorem recO_alloc:recO P nt st { dst:=some d,op:=.alloc T,type:=ty,pos:=pos,after:=af,guard:=g } K=(d<nt∧ZeroIs P T (zcv P 8 T)∧st.noR d∧K { fr:=[d],us:=[(d,.box (zcv P 8 T))] }):=rfl
theorem recO_box:recO P nt st { dst:=some d,op:=.box T x,type:=ty,pos:=pos,after:=af,guard:=g } K=(d<nt∧boxK (ev P st T x) fun c=>st.noR d∧K { rs:=rd x,fr:=[d],us:=[(d,.box c)] }):=rfl
theorem recO_load:recO P nt st { dst:=some d,op:=.load T x,type:=ty,pos:=pos,after:=af,guard:=g } K=(d<nt∧loadK P st T x (fun rs ro sv=>K { rs:=rs,ro:=ro,us:=[(d,sv)] }) (ev P st 0 x)):=rfl
theorem recO_store:recO P nt st { dst:=none,op:=.store T x y,type:=ty,pos:=pos,after:=af,guard:=g } K=(storeK P st T x y (ev P st T y) K (ev P st 0 x)):=by simp[recO]
theorem recO_bin(op:BinOp)(ex:TypeId):recO P nt st { dst:=some d,op:=.binOp op T x y ex,type:=ty,pos:=pos,after:=af,guard:=g } K=(d<nt∧binKK P st T op (ev P st T x) (ev P st T y) (fun v=>K { rs:=rd x++rd y,us:=[(d,.val (.pv (.lit v)))] }) (fun ro sv=>K { rs:=rd x++rd y,ro:=ro,us:=[(d,sv)] })):=rfl
theorem recO_un(op:UnOp):recO P nt st { dst:=some d,op:=.unOp op T x,type:=ty,pos:=pos,after:=af,guard:=g } K=(d<nt∧unKK op (ev P st T x) fun v=>K { rs:=rd x,us:=[(d,.val (.pv (.lit v)))] }):=rfl
theorem recO_extract(i:Nat):recO P nt st { dst:=some d,op:=.extract x i,type:=ty,pos:=pos,after:=af,guard:=g } K=(d<nt∧extractK (ev P st 0 x) i fun sv=>K { rs:=rd x,us:=[(d,sv)] }):=rfl
theorem recO_field(k:Nat):recO P nt st { dst:=some d,op:=.fieldAddr T x k,type:=ty,pos:=pos,after:=af,guard:=g } K=(d<nt∧FieldIs P T k (fOff P T k)∧addF (ev P st 0 x) k (fOff P T k) fun sv=>K { rs:=rd x,us:=[(d,sv)] }):=rfl
theorem recO_call(c:Call):recO P nt st { dst:=some d,op:=.call c,type:=ty,pos:=pos,after:=af,guard:=g } K=callK P nt st { dst:=some d,op:=.call c,type:=ty,pos:=pos,after:=af,guard:=g } c K:=rfl
theorem recO_index:recO P nt st { dst:=some d,op:=.indexAddr T x y,type:=ty,pos:=pos,after:=af,guard:=g } K=(d<nt∧idxK P st T x y (fun rs ro sv=>K { rs:=rs,ro:=ro,us:=[(d,sv)] }) (ev P st 0 x) (ev P st 0 y)):=rfl
theorem recO_make:recO P nt st { dst:=some d,op:=.makeSlice T x y,type:=ty,pos:=pos,after:=af,guard:=g } K=
 makeK (fun n m=>SlIs P T (eSize P T) (eBytes P T)∧ElemZero P T (zel P T)∧(zel P T).size=eSize P T∧0≤n∧n≤m∧m≤1073741824∧eBytes P T≤65536∧
  (d<nt∧(∀ c∈(resObjs (.sl true (eSize P T) (List.replicate n.toNat (zel P T))) (16*d)).map (·.1),st.noC c)∧
  K { rs:=rd x++rd y,ro:=[],fc:=(resObjs (.sl true (eSize P T) (List.replicate n.toNat (zel P T))) (16*d)).map (·.1),us:=[(d,resSV (.sl true (eSize P T) (List.replicate n.toNat (zel P T))) (16*d))],uo:=deadObjs []++newObjs (resObjs (.sl true (eSize P T) (List.replicate n.toNat (zel P T))) (16*d)) })) (ev P st 0 x) (ev P st 0 y):=rfl
end
@[congr] theorem makeK.cg {K:Int→Int→Prop} {x x' y y':SlotV} (h:∀ _:Unit,x=x') (h':∀ _:Unit,y=y'):makeK K x y=makeK K x' y':=by rw[h (),h' ()]
theorem makeK_int(K:Int→Int→Prop)(k k':IntKind)(n m:Int):makeK K (.val (.pv (.lit (.int k n)))) (.val (.pv (.lit (.int k' m))))=K n m:=rfl

theorem binKK_lit{st:St}(T:TypeId)(op:BinOp)(x y:Value)(K:Value→Prop)(H:List Nat→SlotV→Prop):binKK P st T op (.val (.pv (.lit x))) (.val (.pv (.lit y))) K H=binK P T op x y K:=rfl
theorem binKK_agg{st:St}(T:TypeId)(op:BinOp)(x y:List PV)(K:Value→Prop)(H:List Nat→SlotV→Prop):binKK P st T op (.val (.pv (.agg x))) (.val (.pv (.agg y))) K H=aggK P T op x y K:=rfl
theorem binKK_nil{st:St}(T:TypeId)(op:BinOp)(sz sz':Nat)(es:List PV)(K:Value→Prop)(H:List Nat→SlotV→Prop):binKK P st T op (.val (.pv (.sl false sz es))) (.val (.pv (.sl true sz' []))) K H=(IsSl P T∧nilK op es (H [])):=rfl
theorem binKK_nilT{st:St}(T:TypeId)(op:BinOp)(sz sz':Nat)(K:Value→Prop)(H:List Nat→SlotV→Prop):binKK P st T op (.val (.pv (.sl true sz []))) (.val (.pv (.sl true sz' []))) K H=(IsSl P T∧nilX op K):=rfl
theorem binKK_nilL{st:St}(T:TypeId)(op:BinOp)(sz':Nat)(K:Value→Prop)(H:List Nat→SlotV→Prop):binKK P st T op (.val (.pv (.lit (.slice none 0 0)))) (.val (.pv (.sl true sz' []))) K H=(IsSl P T∧nilX op K):=rfl
theorem binKK_niO{st:St}(T:TypeId)(op:BinOp)(c sz':Nat)(K:Value→Prop)(H:List Nat→SlotV→Prop):binKK P st T op (.val (.own c)) (.val (.pv (.sl true sz' []))) K H=objK' (st.o c) fun q=>IsSl P T∧nilK op q.2 (H [c]):=by
 simp only[binKK]
 cases st.o c<;>rfl
theorem aggK_eql(T:TypeId)(x y:List PV)(K:Value→Prop):aggK P T .eql x y K=(EqS P T (kdsOf x)∧kdsOf x=kdsOf y∧K (.bool (eqPVs x y))):=rfl
theorem aggK_neq(T:TypeId)(x y:List PV)(K:Value→Prop):aggK P T .neq x y K=(EqS P T (kdsOf x)∧kdsOf x=kdsOf y∧K (.bool (!eqPVs x y))):=rfl
@[push_cast] theorem ptrOf_nilV (k:Nat) (t:Bool) (es:List PV):ptrOf k (nilV t es)=nilV t es:=by cases es<;>rfl
@[push_cast] theorem mvSH_nilV (t d:Nat) (K:Rec→Prop) (b:Bool) (es:List PV):mvSH t d K (nilV b es) .mk=K { rs:=[t],us:=[(d,nilV b es)] }:=by cases es<;>rfl
theorem nilK_eql(es:List PV)(K:SlotV→Prop):nilK .eql es K=K (nilV true es):=rfl
theorem nilK_neq(es:List PV)(K:SlotV→Prop):nilK .neq es K=K (nilV false es):=rfl
theorem nilX_eql(K:Value→Prop):nilX .eql K=K (.bool true):=rfl
theorem nilX_neq(K:Value→Prop):nilX .neq K=K (.bool false):=rfl
theorem nilV_c(t:Bool)(p:PV)(l:List PV):nilV t (p::l)=.val (.pv (.lit (.bool (!t)))):=rfl
theorem kdsOf_nil:kdsOf []=[]:=rfl
theorem kdsOf_cons(p:PV)(ps:List PV):kdsOf (p::ps)=kdOf p::kdsOf ps:=rfl
theorem kdOf_int(k:IntKind)(n:Int):kdOf (.lit (.int k n))=some (.int k):=rfl
theorem kdOf_bool(n:Bool):kdOf (.lit (.bool n))=some .bool:=rfl
theorem kdOf_str(n:ByteArray):kdOf (.lit (.string n))=some .str:=rfl
theorem eqPVs_one(x y:PV):eqPVs [x] [y]=eqPV x y:=rfl
theorem eqPVs_two(x y x' y':PV)(xs ys:List PV):eqPVs (x::x'::xs) (y::y'::ys)=(eqPV x y&&eqPVs (x'::xs) (y'::ys)):=rfl
theorem eqPV_int(k k':IntKind)(a b:Int):eqPV (.lit (.int k a)) (.lit (.int k' b))=decide (a=b):=rfl
theorem eqPV_bool(a b:Bool):eqPV (.lit (.bool a)) (.lit (.bool b))=(a==b):=rfl
theorem eqPV_str(a b:ByteArray):eqPV (.lit (.string a)) (.lit (.string b))=decide (a=b):=rfl
theorem callK_cap(st:St)(d ty:Nat)(op:Op)(pos:String)(af:Array Edge)(gd:Option (Nat×Bool))(x:Operand)(T:TypeId)(K:Rec→Prop):
 callK P nt st { dst:=some d,op:=op,type:=ty,pos:=pos,after:=af,guard:=gd } { callee:=.builtin .cap,args:=⟨[x]⟩,argTypes:=⟨[T]⟩ } K=
  (d<nt∧capNil P T (K { rs:=rd x,us:=[(d,.val (.pv (.lit (.int .i64 0))))] }) (ev P st T x)):=rfl
@[congr] theorem capNil.cg {T:TypeId} {A:Prop} {v v':SlotV} (h:∀ _:Unit,v=v'):capNil P T A v=capNil P T A v':=by rw[h ()]
theorem capNil_nil(T:TypeId)(A:Prop)(sz:Nat):capNil P T A (.val (.pv (.sl true sz [])))=(IsSl P T∧A):=rfl
section
variable(T:TypeId)(k:IntKind)(a b:Int)(K:Value→Prop)
theorem binK_add:binK P T .add (.int k a) (.int k b) K=K (.int k (k.wrap (a+b))):=by simp[binK]
theorem binK_sub:binK P T .sub (.int k a) (.int k b) K=K (.int k (k.wrap (a-b))):=by simp[binK]
theorem binK_mul:binK P T .mul (.int k a) (.int k b) K=K (.int k (k.wrap (a*b))):=by simp[binK]
theorem binK_eql:binK P T .eql (.int k a) (.int k b) K=K (.bool (decide (a=b))):=by simp[binK]
theorem binK_neq:binK P T .neq (.int k a) (.int k b) K=K (.bool (!decide (a=b))):=by simp[binK]
theorem binK_lss:binK P T .lss (.int k a) (.int k b) K=K (.bool (decide (a<b))):=by simp[binK]
theorem binK_leq:binK P T .leq (.int k a) (.int k b) K=K (.bool (decide (a≤b))):=by simp[binK]
theorem binK_gtr:binK P T .gtr (.int k a) (.int k b) K=K (.bool (decide (b<a))):=by simp[binK]
theorem binK_geq:binK P T .geq (.int k a) (.int k b) K=K (.bool (decide (b≤a))):=by simp[binK]
theorem binK_seql(a b:ByteArray):binK P T .eql (.string a) (.string b) K=K (.bool (decide (a=b))):=rfl
theorem binK_sneq(a b:ByteArray):binK P T .neq (.string a) (.string b) K=K (.bool (!decide (a=b))):=rfl
theorem binK_beql(a b:Bool):binK P T .eql (.bool a) (.bool b) K=(P.underlying T=some .bool∧K (.bool (a==b))):=rfl
theorem binK_bneq(a b:Bool):binK P T .neq (.bool a) (.bool b) K=(P.underlying T=some .bool∧K (.bool (!(a==b)))):=rfl
theorem unKK_not(b:Bool):unKK .not (.val (.pv (.lit (.bool b)))) K=K (.bool (!b)):=rfl
theorem unKK_neg:unKK .neg (.val (.pv (.lit (.int k a)))) K=K (.int k (k.wrap (0-a))):=rfl
end
theorem pickK_bool(b:Bool)(A B:Prop):pickK (.val (.pv (.lit (.bool b)))) A B=CondH b A B .mk .mk:=rfl
theorem extractK_tup(xs:List CV)(i:Nat)(K:SlotV→Prop):extractK (.tup xs) i K=boxK (((xs[i]?).map SlotV.val).getD .dead) (fun c=>K (.val c)):=by
 simp only[extractK]
 cases xs[i]?<;>rfl
theorem boxK_val(c:CV)(K:CV→Prop):boxK (.val c) K=K c:=rfl
theorem closK_hptr(r:Nat)(sh:Sh)(ps:List PV)(K:FuncId→List PV→Prop):closK (.hptr r sh ps) K=False:=rfl
theorem closK_clo(f:FuncId)(cs:List PV)(K:FuncId→List PV→Prop):closK (.val (.pv (.clo f cs))) K=K f cs:=rfl
theorem guardK_t(b:Bool)(A B:Prop):guardK (.val (.pv (.lit (.bool b)))) true A B=CondH b A B .mk .mk:=rfl
theorem guardK_f(b:Bool)(A B:Prop):guardK (.val (.pv (.lit (.bool b)))) false A B=CondH b B A .mk .mk:=rfl
theorem guardK_u(w:Bool)(A B:Prop):guardK (.tup []) w A B=B:=rfl
theorem boolOf_bool(b:Bool)(K:Bool→Prop):boolOf (.val (.pv (.lit (.bool b)))) K=K b:=rfl
theorem Cond_t(A B:Prop):CondH true A B .mk .mk=A:=by simp[CondH,Cond]
theorem Cond_f(A B:Prop):CondH false A B .mk .mk=B:=by simp[CondH,Cond]
theorem Cond_not(b:Bool)(A B:Prop):CondH (!b) A B .mk .mk=CondH b B A .mk .mk:=by cases b<;>simp[CondH,Cond]
theorem addF_b(r:Nat)(p:List Nat)(o k off:Nat)(K:SlotV→Prop):addF (.bptr r p o) k off K=K (.bptr r (p++[k]) (o+off)):=rfl
theorem addF_e(c sz i:Nat)(p:List Nat)(o k off:Nat)(K:SlotV→Prop):addF (.eptr c sz i p o) k off K=K (.eptr c sz i (p++[k]) (o+off)):=rfl
theorem addF_p(fs:List PV)(k off:Nat)(K:SlotV→Prop):addF (.val (.pv (.ptr (.agg fs)))) k off K=((PV.sizes (fs.take k)=off∧k<fs.length)∧K (.val (.pv (.ptr (fs.getD k default))))):=by
 simp only[addF,eq_iff_iff]
 constructor
 ·rintro ⟨⟨fs',h,h1,h2⟩,h3⟩
  cases h
  exact⟨⟨h1,h2⟩,h3⟩
 ·rintro ⟨⟨h1,h2⟩,h3⟩
  exact⟨⟨fs,rfl,h1,h2⟩,h3⟩
/-- A load from a variable. -/
def loadB(P:Program)(T:TypeId)(r:Nat)(p:List Nat)(off:Nat)(K:CV→Prop):SlotV→Prop
 | .box c=>(c.okp p=true∧c.offs p=off∧notGone (c.at p)=true∧TyIs P T (c.at p).isAgg (c.at p).size)∧K (c.at p)
 | _=>False
@[congr] theorem loadB.cg {T:TypeId} {r:Nat} {p:List Nat} {off:Nat} {K:CV→Prop} {v v':SlotV} (h:∀ _:Unit,v=v'):loadB P T r p off K v=loadB P T r p off K v':=by rw[h ()]
theorem loadB_box(T:TypeId)(r:Nat)(p:List Nat)(off:Nat)(K:CV→Prop)(c:CV):loadB P T r p off K (.box c)=((c.okp p=true∧c.offs p=off∧notGone (c.at p)=true∧TyIs P T (c.at p).isAgg (c.at p).size)∧K (c.at p)):=rfl
theorem loadK_b(st:St)(T:TypeId)(x:Operand)(K:List Nat→List Nat→SlotV→Prop)(r:Nat)(p:List Nat)(off:Nat):loadK P st T x K (.bptr r p off)=loadB P T r p off (fun c=>K (r::rd x) [] (.val c)) (st.s r):=by
 simp only[loadK]
 cases st.s r<;>rfl
theorem loadK_p(st:St)(T:TypeId)(x:Operand)(K:List Nat→List Nat→SlotV→Prop)(v:PV):loadK P st T x K (.val (.pv (.ptr v)))=(TyIs P T (CV.pv v).isAgg v.size∧K (rd x) [] (.val (.pv v))):=rfl
def objK{α:Type}(x:Option α)(K:α→Prop):Prop:=
 match x with
 | some y=>K y
 | none=>False
@[congr] theorem objK.cg' {α:Type} {x x':Option α} {K:α→Prop} (h:∀ _:Unit,x=x'):objK x K=objK x' K:=by rw[h ()]
theorem objK_some{α:Type}(y:α)(K:α→Prop):objK (some y) K=K y:=rfl
theorem lenK_str(st:St)(T:TypeId)(s:ByteArray)(K:List Nat→Nat→Prop):lenK P T st (.val (.pv (.lit (.string s)))) K=(P.underlying T=some .string∧K [] s.size):=rfl
theorem lenK_sl(st:St)(T:TypeId)(b:Bool)(sz:Nat)(es:List PV)(K:List Nat→Nat→Prop):lenK P T st (.val (.pv (.sl b sz es))) K=(IsSl P T∧K [] es.length):=rfl
theorem lenK_own(st:St)(T:TypeId)(c:Nat)(K:List Nat→Nat→Prop):lenK P T st (.val (.own c)) K=objK (st.o c) (fun q=>IsSl P T∧K [c] q.2.length):=by
 simp only[lenK]
 cases st.o c with
 | none=>rfl
 | some q=>rfl
/-- A store into a variable, or into an element of one's own. -/
def storeB(P:Program)(T:TypeId)(r:Nat)(p:List Nat)(off:Nat)(z:CV)(K:CV→Prop):SlotV→Prop
 | .box c=>(c.okp p=true∧c.offs p=off∧z.size=(c.at p).size∧TyIs P T z.isAgg z.size)∧K (c.setAt p z)
 | _=>False
@[congr] theorem storeB.cg {T:TypeId} {r:Nat} {p:List Nat} {off:Nat} {z:CV} {K:CV→Prop} {v v':SlotV} (h:∀ _:Unit,v=v'):storeB P T r p off z K v=storeB P T r p off z K v':=by rw[h ()]
theorem storeB_box(T:TypeId)(r:Nat)(p:List Nat)(off:Nat)(z:CV)(K:CV→Prop)(c:CV):storeB P T r p off z K (.box c)=((c.okp p=true∧c.offs p=off∧z.size=(c.at p).size∧TyIs P T z.isAgg z.size)∧K (c.setAt p z)):=rfl
theorem storeK_b(st:St)(T:TypeId)(x y:Operand)(z:CV)(K:Rec→Prop)(r:Nat)(p:List Nat)(off:Nat):storeK P st T x y (.val z) K (.bptr r p off)=storeB P T r p off z (fun c=>K { rs:=r::(rd x++rd y),us:=[(r,.box c)] }) (st.s r):=by
 simp only[storeK]
 cases st.s r<;>rfl
/-- A call, in parts. -/
@[congr] theorem CallH.cg {f:FuncId} {v v' o o' c c':List PV} {K:List Bool→PV→Prop} {H:Prop} (h1:∀ _:Unit,v=v') (h2:∀ _:Unit,o=o') (h3:∀ _:Unit,c=c'):CallH P f v o c K H .mk .mk=CallH P f v' o' c' K H .mk .mk:=by rw[h1 (),h2 (),h3 ()]
def callW(P:Program)(nt:Nat)(st:St)(d f:Nat)(caps:List PV)(rs:List Nat)(cvs:List CV)(K:Rec→Prop)(H:Prop)(_:Tok H):Prop:=
 aB st.o cvs=true∧
  CallH P f (aK st.o cvs) (aD st.o cvs) caps (fun ms res=>
   (mixNames ms cvs).Nodup∧ 
   (mixPure ms cvs||(res.noView&&(viewNames ms cvs).all fun n=>!(mixNames ms cvs).contains n))=true∧
   (∀ n∈(resObjs res (16*d)).map (·.1),st.noC n)∧
   K { rs:=rs,ro:=av cvs,fc:=(resObjs res (16*d)).map (·.1),us:=[(d,resSV res (16*d))],uo:=deadObjs (mixNames ms cvs)++newObjs (resObjs res (16*d)) }) H .mk .mk
@[congr] theorem callW.cg {st:St} {d f:Nat} {caps caps':List PV} {rs:List Nat} {cvs cvs':List CV} {K:Rec→Prop} {H:Prop} (h:∀ _:Unit,caps=caps') (h':∀ _:Unit,cvs=cvs'):callW P nt st d f caps rs cvs K H .mk=callW P nt st d f caps' rs cvs' K H .mk:=by rw[h (),h' ()]
theorem callW_cons{st:St}{d f:Nat}{caps:List PV}{rs:List Nat}{c:CV}{cvs:List CV}{K:Rec→Prop}{H:Prop}:callW P nt st d f caps rs (c::cvs) K H .mk=
 (aB st.o (c::cvs)=true∧
  CallH P f (aK st.o (c::cvs)) (aD st.o (c::cvs)) caps (fun ms res=>
   (mixNames ms (c::cvs)).Nodup∧ 
   (mixPure ms (c::cvs)||(res.noView&&(viewNames ms (c::cvs)).all fun n=>!(mixNames ms (c::cvs)).contains n))=true∧
   (∀ n∈(resObjs res (16*d)).map (·.1),st.noC n)∧
   K { rs:=rs,ro:=av (c::cvs),fc:=(resObjs res (16*d)).map (·.1),us:=[(d,resSV res (16*d))],uo:=deadObjs (mixNames ms (c::cvs))++newObjs (resObjs res (16*d)) }) H .mk .mk):=rfl
theorem callW_nil{st:St}{d f:Nat}{caps:List PV}{rs:List Nat}{K:Rec→Prop}{H:Prop}:callW P nt st d f caps rs [] K H .mk=
 CallH P f [] [] caps (fun ms res=>
  (∀ n∈(resObjs res (16*d)).map (·.1),st.noC n)∧
  K { rs:=rs,ro:=[],fc:=(resObjs res (16*d)).map (·.1),us:=[(d,resSV res (16*d))],uo:=newObjs (resObjs res (16*d)) }) H .mk .mk:=by
 simp[callW,CallH,aB,aK,aD,mixNames,mixPure,av,deadObjs]
theorem view_lit(v:Value):(PV.lit v).view=.lit v:=rfl
theorem view_sl(b:Bool)(n:Nat)(l:List PV):(PV.sl b n l).view=.sl false n (PV.views l):=rfl
theorem view_agg(l:List PV):(PV.agg l).view=.agg (PV.views l):=rfl
theorem view_clo(f:FuncId)(l:List PV):(PV.clo f l).view=.clo f l:=rfl
theorem view_ptr(v:PV):(PV.ptr v).view=.ptr v:=rfl
theorem callK_value(st:St)(d ty:Nat)(op:Op)(pos:String)(af:Array Edge)(gd:Option (Nat×Bool))(g:Operand)(as:List Operand)(ts:List TypeId)(K:Rec→Prop)(H:d<nt):
 callK P nt st { dst:=some d,op:=op,type:=ty,pos:=pos,after:=af,guard:=gd } { callee:=.value g,args:=⟨as⟩,argTypes:=⟨ts⟩ } K=
  OrH (closK (ev P st 0 g) fun f caps=>(∀ p∈caps,PV.size p=1∧(CV.pv p).isAgg=false)∧callW P nt st d f caps (rd g++as.flatMap rd) (argCVs P st as ts) K (RecOk P nt st { dst:=some d,op:=op,type:=ty,pos:=pos,after:=af,guard:=gd } K) .mk) (RecOk P nt st { dst:=some d,op:=op,type:=ty,pos:=pos,after:=af,guard:=gd } K) .mk:=by
 simp[callK,callW,CallH,H,OrH]
theorem callK_len(st:St)(d ty:Nat)(op:Op)(pos:String)(af:Array Edge)(gd:Option (Nat×Bool))(x:Operand)(T:TypeId)(K:Rec→Prop):
 callK P nt st { dst:=some d,op:=op,type:=ty,pos:=pos,after:=af,guard:=gd } { callee:=.builtin .len,args:=⟨[x]⟩,argTypes:=⟨[T]⟩ } K=
  (d<nt∧lenK P T st (ev P st T x) fun ro n=>K { rs:=rd x,ro:=ro,us:=[(d,.val (.pv (.lit (.int .i64 n))))] }):=rfl
theorem ev_tmp(st:St)(T:TypeId)(t:Nat):ev P st T (.tmp t)=ptrOf t (st.s t):=rfl
theorem ev_func(st:St)(T:TypeId)(f:FuncId):ev P st T (.func f)=.val (.pv (.clo f [])):=rfl
theorem ev_int(st:St)(T:TypeId)(k:IntKind)(n:Int):ev P st T (.const (.int k n))=.val (.pv (.lit (.int k n))):=rfl
theorem ev_bool(st:St)(T:TypeId)(b:Bool):ev P st T (.const (.bool b))=.val (.pv (.lit (.bool b))):=rfl
theorem ev_str(st:St)(T:TypeId)(b:ByteArray):ev P st T (.const (.string b))=.val (.pv (.lit (.string b))):=rfl
theorem ev_nil(st:St)(T:TypeId):ev P st T (.const (.slice none 0 0))=.val (.pv (.sl true (eSize P T) [])):=rfl
theorem ptrOf_box(k:Nat)(c:CV):ptrOf k (.box c)=.bptr k [] 0:=rfl
theorem ptrOf_hold(k:Nat)(sh:Sh)(ps:List PV)(x:HC):ptrOf k (.hold sh ps x)=.hptr k sh ps:=rfl
theorem ptrOf_hptr(k r:Nat)(sh:Sh)(ps:List PV):ptrOf k (.hptr r sh ps)=.hptr r sh ps:=rfl
theorem argCV_hptr(r:Nat)(sh:Sh)(ps:List PV):argCV (.hptr r sh ps)=.gone 0:=rfl
theorem argCV_bptr(r:Nat)(p:List Nat)(o:Nat):argCV (.bptr r p o)=.gone 0:=rfl
theorem ptrOf_val(k:Nat)(c:CV):ptrOf k (.val c)=.val c:=rfl
theorem ptrOf_tup(k:Nat)(c:List CV):ptrOf k (.tup c)=.tup c:=rfl
theorem ptrOf_bptr(k r:Nat)(p:List Nat)(o:Nat):ptrOf k (.bptr r p o)=.bptr r p o:=rfl
theorem ptrOf_ex(k:Nat)(Q:Value→Prop):ptrOf k (.ex Q)=.ex Q:=rfl
theorem ptrOf_eptr(k c sz i:Nat)(p:List Nat)(o:Nat):ptrOf k (.eptr c sz i p o)=.eptr c sz i p o:=rfl

theorem seqK_ret(K:St→Prop)(Q:Exit→St→Prop)(st:St):seqK K Q .ret st=Q .ret st:=rfl
theorem seqK_exit(K:St→Prop)(Q:Exit→St→Prop)(i:Nat)(st:St):seqK K Q (.exit i) st=Q (.exit i) st:=rfl
theorem blockK_normal(i:Nat)(Q:Exit→St→Prop)(st:St):blockK i Q .normal st=Q .normal st:=rfl
theorem blockK_ret(i:Nat)(Q:Exit→St→Prop)(st:St):blockK i Q .ret st=Q .ret st:=rfl
end
section
variable{P:Program}{nt:Nat}
/-- What comes back is one's own. -/
def RetL(P:Program)(st:St)(rs:List ResultVar)(res:PV):Prop:=aB st.o (resCVs P st rs)=true∧resOks P st rs∧(av (resCVs P st rs)).Nodup∧res=asRes (aD st.o (resCVs P st rs))
/-- What comes back is looked at only. -/
def RetR(P:Program)(st:St)(rs:List ResultVar)(res:PV):Prop:=aB st.o (resCVs P st rs)=true∧resOks P st rs∧res=asRes (aK st.o (resCVs P st rs))
theorem RetL.ok{st:St}{rs:List ResultVar}{res:PV}{e:Exit}(he:e=.normal∨e=.ret)(h:RetL P st rs res):(e=.normal∨e=.ret)∧RetOk P st rs res:=⟨he,h.1,h.2.1,.inl ⟨h.2.2.1,h.2.2.2⟩⟩
theorem RetR.ok{st:St}{rs:List ResultVar}{res:PV}{e:Exit}(he:e=.normal∨e=.ret)(h:RetR P st rs res):(e=.normal∨e=.ret)∧RetOk P st rs res:=⟨he,h.1,h.2.1,.inr h.2.2⟩
theorem resCVs_nil(st:St):resCVs P st []=[]:=rfl
theorem resCVs_tmp(st:St)(t:Nat)(rs:List ResultVar):resCVs P st (.tmp t::rs)=argCV (st.s t)::resCVs P st rs:=rfl
def cellCV:SlotV→CV
 | .box x=>x
 | _=>.gone 0
theorem cellCV_box(x:CV):cellCV (.box x)=x:=rfl
theorem resCVs_cell(st:St)(t T:Nat)(rs:List ResultVar):resCVs P st (.cell t T::rs)=cellCV (st.s t)::resCVs P st rs:=by
 simp only[resCVs,resCV]
 cases st.s t<;>rfl
theorem resOks_nil(st:St):resOks P st []=True:=rfl
theorem resOks_tmp(st:St)(t:Nat)(rs:List ResultVar):resOks P st (.tmp t::rs)=resOks P st rs:=by simp[resOks,resOk]
def cellOk(P:Program)(T:Nat):SlotV→Prop
 | .box x=>TyIs P T x.isAgg x.size
 | _=>False
theorem cellOk_box(T:Nat)(x:CV):cellOk P T (.box x)=TyIs P T x.isAgg x.size:=rfl
theorem resOks_cell(st:St)(t T:Nat)(rs:List ResultVar):resOks P st (.cell t T::rs)=(cellOk P T (st.s t)∧resOks P st rs):=by
 simp only[resOks,resOk]
 cases st.s t<;>rfl
theorem argCV_val(c:CV):argCV (.val c)=c:=rfl
theorem asRes_one(p:PV):asRes [p]=p:=rfl
theorem asRes_two(p q:PV)(l:List PV):asRes (p::q::l)=.tup (p::q::l):=rfl
end
section
/-! ### Structs and slices built in one -/
variable{P:Program}{nt:Nat}
def buildP(zs:List CV)(rs:List Nat)(o:Nat→Option (Nat×List PV))(K:List Nat→List Nat→SlotV→Prop)(ps:List (Nat×CV)):Prop:=
 (ps.all fun p=>decide (p.1<zs.length)&&p.2.size==(zs.getD p.1 default).size)=true∧aB o (ps.map (·.2))=true∧K rs (av (ps.map (·.2))) (.val (.node (setParts zs ps)))
@[congr] theorem buildP.cg {zs:List CV} {rs:List Nat} {o:Nat→Option (Nat×List PV)} {K:List Nat→List Nat→SlotV→Prop} {ps ps':List (Nat×CV)} (h:∀ _:Unit,ps=ps'):buildP zs rs o K ps=buildP zs rs o K ps':=by rw[h ()]
theorem buildP_nil(zs:List CV)(rs:List Nat)(o:Nat→Option (Nat×List PV))(K:List Nat→List Nat→SlotV→Prop):buildP zs rs o K []=K rs [] (.val (.node zs)):=by simp[buildP,aB,av,setParts]
theorem buildP_cons(zs:List CV)(rs:List Nat)(o:Nat→Option (Nat×List PV))(K:List Nat→List Nat→SlotV→Prop)(p:Nat×CV)(ps:List (Nat×CV)):buildP zs rs o K (p::ps)=
 (((p::ps).all fun p=>decide (p.1<zs.length)&&p.2.size==(zs.getD p.1 default).size)=true∧aB o ((p::ps).map (·.2))=true∧K rs (av ((p::ps).map (·.2))) (.val (.node (setParts zs (p::ps))))):=rfl
@[congr] theorem buildK.cg {st:St} {T:TypeId} {parts:Array (Nat×Operand)} {K:List Nat→List Nat→SlotV→Prop} {z z':CV} (h:∀ _:Unit,z=z'):buildK P st T parts K z=buildK P st T parts K z':=by rw[h ()]
theorem buildK_node(st:St)(T:TypeId)(parts:List (Nat×Operand))(K:List Nat→List Nat→SlotV→Prop)(zs:List CV):buildK P st T ⟨parts⟩ K (.node zs)=
 (ZeroIs P T (.node zs)∧LayoutOk P T zs∧buildP zs (parts.flatMap fun p=>rd p.2) st.o K (partFs P st T parts)):=rfl
theorem recO_build(st:St)(d:Nat)(ty T:TypeId)(pos:String)(af:Array Edge)(g:Option (Nat×Bool))(K:Rec→Prop)(parts:Array (Nat×Operand)):
 recO P nt st { dst:=some d,op:=.build T parts,type:=ty,pos:=pos,after:=af,guard:=g } K=(d<nt∧buildK P st T parts (fun rs ro sv=>K { rs:=rs,ro:=ro,us:=[(d,sv)] }) (zcv P 8 T)):=rfl
def bslK(P:Program)(st:St)(d T:Nat)(rs:List Nat)(K:Rec→Prop)(cvs:List CV):Prop:=
 aB st.o cvs=true∧(∀ x∈cvs,x.size=eSize P T)∧(av cvs).Nodup∧(∀ n∈(resObjs (.sl true (eSize P T) (aD st.o cvs)) (16*d)).map (·.1),st.noC n)∧
  K { rs:=rs,ro:=av cvs,fc:=(resObjs (.sl true (eSize P T) (aD st.o cvs)) (16*d)).map (·.1),us:=[(d,resSV (.sl true (eSize P T) (aD st.o cvs)) (16*d))],uo:=deadObjs (av cvs)++newObjs (resObjs (.sl true (eSize P T) (aD st.o cvs)) (16*d)) }
@[congr] theorem bslK.cg {st:St} {d T:Nat} {rs:List Nat} {K:Rec→Prop} {c c':List CV} (h:∀ _:Unit,c=c'):bslK P st d T rs K c=bslK P st d T rs K c':=by rw[h ()]
theorem bslK_nil(st:St)(d T:Nat)(rs:List Nat)(K:Rec→Prop):bslK P st d T rs K []=((∀ n∈(resObjs (.sl true (eSize P T) (aD st.o [])) (16*d)).map (·.1),st.noC n)∧
 K { rs:=rs,ro:=[],fc:=(resObjs (.sl true (eSize P T) (aD st.o [])) (16*d)).map (·.1),us:=[(d,resSV (.sl true (eSize P T) (aD st.o [])) (16*d))],uo:=deadObjs []++newObjs (resObjs (.sl true (eSize P T) (aD st.o [])) (16*d)) }):=by
 simp[bslK,aB,av]
theorem bslK_cons(st:St)(d T:Nat)(rs:List Nat)(K:Rec→Prop)(c:CV)(cvs:List CV):bslK P st d T rs K (c::cvs)=(aB st.o (c::cvs)=true∧(∀ x∈c::cvs,x.size=eSize P T)∧(av (c::cvs)).Nodup∧(∀ n∈(resObjs (.sl true (eSize P T) (aD st.o (c::cvs))) (16*d)).map (·.1),st.noC n)∧
 K { rs:=rs,ro:=av (c::cvs),fc:=(resObjs (.sl true (eSize P T) (aD st.o (c::cvs))) (16*d)).map (·.1),us:=[(d,resSV (.sl true (eSize P T) (aD st.o (c::cvs))) (16*d))],uo:=deadObjs (av (c::cvs))++newObjs (resObjs (.sl true (eSize P T) (aD st.o (c::cvs))) (16*d)) }):=rfl
/-- Two roads; the first is walked at once. -/
def OrR(A B:Prop)(_:Tok B):Prop:=A∨B
@[congr] theorem OrR.cg {A A' B:Prop} (h:∀ _:Unit,A=A'):OrR A B .mk=OrR A' B .mk:=by rw[h ()]
theorem OrR.l{A B:Prop}(h:A):OrR A B .mk:=.inl h
theorem OrR_true(B:Prop):OrR True B .mk=True:=by simp[OrR]
theorem recO_bsl(st:St)(d:Nat)(ty T:TypeId)(pos:String)(af:Array Edge)(g:Option (Nat×Bool))(K:Rec→Prop)(n:Nat)(parts:List (Nat×Operand))(H:d<nt):
 recO P nt st { dst:=some d,op:=.buildSlice T n ⟨parts⟩,type:=ty,pos:=pos,after:=af,guard:=g } K=OrR (parts.map (·.1)=List.range n∧SlIs P T (eSize P T) (eBytes P T)∧n*eSize P T≤16777216∧bslK P st d T (parts.flatMap fun p=>rd p.2) K (partCVs P st (elemOfT P T) parts)) (RecOk P nt st { dst:=some d,op:=.buildSlice T n ⟨parts⟩,type:=ty,pos:=pos,after:=af,guard:=g } K) .mk:=by
 simp only[recO,bslK,madeK,dstK,H,true_and,eq_iff_iff,OrR]
 refine or_congr_left ⟨?_,?_⟩
 ·rintro ⟨a,x,b,c,d,e,f,g⟩; exact⟨x,a,e,b,c,d,f,g⟩
 ·rintro ⟨x,a,e,b,c,d,f,g⟩; exact⟨a,x,b,c,d,e,f,g⟩
end
section
theorem upd_hit{α:Type}(f:Nat→α)(k:Nat)(x:α):upd f k x k=x:=by simp[upd]
theorem upd_miss{α:Type}(f:Nat→α)(k j:Nat)(x:α)(h:(j==k)=false):upd f k x j=f j:=by
 have:j≠k:=by simpa using h
 simp[upd,this]
end
section

/-! ### Types -/
def TypeDesc.agg':TypeDesc→Bool
 | .struct _ | .array _ _=>true
 | _=>false
theorem TyIs.mk'{P:Program}{T n:Nat}{agg:Bool}{d:TypeDesc}{i:TypeInfo}(h1:P.underlying T=some d)(h2:P.info? T=some i)(h3:i.size=n)(h4:TypeDesc.agg' d=agg):TyIs P T agg n:=⟨d,i,h1,h2,h3,by rw[← h4]; cases d<;>rfl⟩
theorem FieldIs.mk'{P:Program}{T k off:Nat}{fs:Array Field}{f:Field}{i:TypeInfo}(h1:P.underlying T=some (.struct fs))(h2:fs[k]?=some f)(h3:f.offset=off)(h4:P.info? f.type=some i)(h5:i.size≠0):FieldIs P T k off:=⟨fs,f,i,h1,h2,h3,h4,h5⟩
theorem SlIs.mk'{P:Program}{T e sz bytes:Nat}{i:TypeInfo}{z:Value}(h1:P.underlying T=some (.slice e))(h2:P.info? e=some i)(h3:i.size=sz)(h4:i.bytes=bytes)(h5:i.zero=some z)(h6:z.cells.size=sz)(h7:0<sz):SlIs P T sz bytes:=⟨e,i,z,h1,h2,h3,h4,h5,h6,h7⟩

mutual
def PV.zcs:PV→List Value
 | .lit v=>[v]
 | .agg fs=>PV.zcss fs
 | .sl _ _ _=>[.slice none 0 0]
 | _=>[]
def PV.zcss:List PV→List Value
 | []=>[]
 | p::ps=>p.zcs++PV.zcss ps
end
mutual
def PV.zok:PV→Bool
 | .lit v=>v.oneCell'
 | .agg fs=>PV.zoks fs
 | .sl true _ []=>true
 | _=>false
def PV.zoks:List PV→Bool
 | []=>true
 | p::ps=>p.zok&&PV.zoks ps
end
mutual
def CV.zcs:CV→List Value
 | .pv p=>p.zcs
 | .node fs=>CV.zcss fs
 | _=>[]
def CV.zcss:List CV→List Value
 | []=>[]
 | p::ps=>p.zcs++CV.zcss ps
end
mutual
def CV.zok:CV→Bool
 | .pv p=>p.zok
 | .node fs=>CV.zoks fs
 | _=>false
def CV.zoks:List CV→Bool
 | []=>true
 | p::ps=>p.zok&&CV.zoks ps
end
section
variable{N:Nat→Prop}{w:World}{hd:Nat→Value}
mutual
theorem PV.zrep:∀ p:PV,p.zok=true→RepC N w p p.zcs []
 | .lit v,h=>by simp only[PV.zok] at h; simp[RepC,PV.zcs,h]
 | .agg fs,h=>by simp only[PV.zok] at h; simpa only[RepC,PV.zcs] using PV.zreps fs h
 | .sl true _ [],h=>by simp[RepC,PV.zcs]
 | .sl true _ (_::_),h=>by simp[PV.zok] at h
 | .sl false _ _,h=>by simp[PV.zok] at h
 | .clo _ _,h=>by simp[PV.zok] at h
 | .ptr _,h=>by simp[PV.zok] at h
 | .mpv _ _ _,h=>by simp[PV.zok] at h
 | .tup _,h=>by simp[PV.zok] at h
theorem PV.zreps:∀ ps:List PV,PV.zoks ps=true→RepCs N w ps (PV.zcss ps) []
 | [],h=>by simp[RepCs,PV.zcss]
 | p::ps,h=>by
  simp only[PV.zoks,aw] at h
  simp only[RepCs,PV.zcss]
  exact⟨_,_,[],[],rfl,rfl,PV.zrep p h.1,PV.zreps ps h.2⟩
end
mutual
theorem CV.zrep:∀ p:CV,p.zok=true→RepCV N w hd p p.zcs
 | .pv p,h=>by simp only[CV.zok] at h; simpa only[RepCV,CV.zcs] using PV.zrep p h
 | .node fs,h=>by simp only[CV.zok] at h; simpa only[RepCV,CV.zcs] using CV.zreps fs h
 | .own _,h=>by simp[CV.zok] at h
 | .gone _,h=>by simp[CV.zok] at h
theorem CV.zreps:∀ ps:List CV,CV.zoks ps=true→RepCVs N w hd ps (CV.zcss ps)
 | [],h=>by simp[RepCVs,CV.zcss]
 | p::ps,h=>by
  simp only[CV.zoks,aw] at h
  simp only[RepCVs,CV.zcss]
  exact⟨_,_,rfl,CV.zrep p h.1,CV.zreps ps h.2⟩
end
end
theorem ZeroIs.agg{P:Program}{T:Nat}{x:CV}{i:TypeInfo}(h1:P.info? T=some i)(h2:i.zero=some (.agg x.zcs.toArray))(h3:x.isAgg=true)(h4:x.zok=true):ZeroIs P T x:=
 ⟨i,_,h1,h2,fun N w hd=>.inl ⟨h3,_,rfl,CV.zrep x h4⟩⟩
theorem ZeroIs.one{P:Program}{T:Nat}{x:CV}{i:TypeInfo}{z:Value}(h1:P.info? T=some i)(h2:i.zero=some z)(h3:x.isAgg=false)(h4:x.zok=true)(h5:x.zcs=[z])(h6:z.oneCell'=true):ZeroIs P T x:=
 ⟨i,z,h1,h2,fun N w hd=>.inr ⟨h3,h5▸CV.zrep x h4,h6⟩⟩
theorem ElemZero.mk'{P:Program}{T e:Nat}{p:PV}(h1:P.underlying T=some (.slice e))(h2:ZeroIs P e (.pv p)):ElemZero P T p:=⟨e,h1,h2⟩

/-! ### Less is said -/
theorem St.le_forget{st st':St}(hs:∀ k,st'.s k=st.s k∨st'.s k=.dead)(ho:∀ c,st'.o c=st.o c∨st'.o c=none):st.le st':=by
 rintro κ a w ⟨G,hG⟩
 have hbox:∀ r,isBox (st'.s r)=true→isBox (st.s r)=true∧st'.s r=st.s r:=by
  intro r hr
  rcases hs r with h | h
  ·exact⟨h▸hr,h⟩
  ·rw[h] at hr; cases hr
 have hobj:∀ c p,st'.o c=some p→st.o c=some p:=by
  intro c p hp
  rcases ho c with h | h
  ·exact h▸hp
  ·rw[h] at hp; cases hp
 have hpriv:∀ b,Priv st' G b→Priv st G b:=by
  rintro b (⟨r,h1,h2⟩ | ⟨c,p,h1,h2⟩)
  ·exact .inl ⟨r,(hbox r h1).1,h2⟩
  ·exact .inr ⟨c,p,hobj c p h1,h2⟩
 have hN:∀ b,Nof κ st G w b→Nof κ st' G w b:=fun b hb=>⟨hb.1,fun h=>hb.2 (hpriv b h)⟩
 refine⟨G,hG.keep,hG.defers,hG.nt,?_,?_,fun r hr=>hG.boxes r (hbox r hr).1,fun r r' hr hr'=>hG.bb r r' (hbox r hr).1 (hbox r' hr').1,fun r c p hr hp=>hG.bo r c p (hbox r hr).1 (hobj c p hp),fun c c' p p' hp hp'=>hG.oo c c' p p' (hobj c p hp) (hobj c' p' hp'),hG.held⟩
 ·intro k
  rcases hs k with h | h
  ·rw[h]
   exact(hG.slots k).frame hN (fun _ _=>rfl) (fun _ _=>rfl) (fun _ _=>rfl) (fun _=>⟨rfl,rfl⟩)
  ·rw[h]; trivial
 ·intro c sz es hc
  obtain⟨h1,h2,h3⟩:=hG.objs c sz es (hobj c _ hc)
  exact⟨h1.frame hN (fun _ _=>rfl) _ _ _ (fun _ _=>rfl),h2,h3⟩
end
section
variable{P:Program}{nt:Nat}

def LeS(f g:Nat→SlotV):Prop:=∀ k,g k=f k∨g k=.dead
theorem LeS.nil(f:Nat→SlotV):LeS f (fun _=>.dead):=fun _=>.inr rfl
theorem LeS.cons{f g:Nat→SlotV}{k:Nat}{v:SlotV}(h:f k=v)(hg:LeS f g):LeS f (upd g k v):=by
 intro j
 simp only[upd]
 split
 ·rename_i e; subst e; exact .inl h.symm
 ·exact hg j
def LeO(f g:Nat→Option (Nat×List PV)):Prop:=∀ k,g k=f k∨g k=none
theorem LeO.nil(f:Nat→Option (Nat×List PV)):LeO f (fun _=>none):=fun _=>.inr rfl
theorem LeO.cons{f g:Nat→Option (Nat×List PV)}{k:Nat}{v:Option (Nat×List PV)}(h:f k=v)(hg:LeO f g):LeO f (upd g k v):=by
 intro j
 simp only[upd]
 split
 ·rename_i e; subst e; exact .inl h.symm
 ·exact hg j
theorem St.le_live{st:St}{s:Nat→SlotV}{o:Nat→Option (Nat×List PV)}(hs:LeS st.s s)(ho:LeO st.o o):st.le ⟨s,o⟩:=St.le_forget hs ho

theorem VC.know_sl{c:Code}{st:St}{Q:Exit→St→Prop}{b:Bool}{sz:Nat}{es:List PV}(k:Nat)(hk:st.s k=.val (.pv (.sl b sz es)))(h:es.length≤maxLen→VC P nt c st Q):VC P nt c st Q:=by
 intro κ a w hnt hR
 refine h ?_ κ a w hnt hR
 obtain⟨G,hG⟩:=hR
 have h1:=hG.slots k
 rw[hk] at h1
 rcases h1 with⟨h1,_⟩ | ⟨_,h2,_⟩
 ·cases h1
 ·simp only[RepCV] at h2
  cases b with
  | false=>simp only[RepC] at h2; obtain⟨a,cap,h1,h2,h3,h4,h5⟩:=h2; omega
  | true=>
   simp only[RepC] at h2
   rcases h2 with⟨_,rfl,_⟩ | ⟨b,cap,c,e,F',ccs,h1,h2,h3,_⟩
   ·simp
   ·omega
theorem VC.know_own{c:Code}{st:St}{Q:Exit→St→Prop}{sz:Nat}{es:List PV}(k:Nat)(hk:st.o k=some (sz,es))(h:es.length≤maxLen→VC P nt c st Q):VC P nt c st Q:=by
 intro κ a w hnt hR
 refine h ?_ κ a w hnt hR
 obtain⟨G,hG⟩:=hR
 have h2:=(hG.objs k sz es hk).1
 simp only[RepC] at h2
 rcases h2 with⟨_,rfl,_⟩ | ⟨b,cap,c,e,F',ccs,h1,h2,h3,_⟩
 ·simp
 ·omega
theorem wrap64{n:Int}(h1:-9223372036854775808≤n)(h2:n<9223372036854775808):IntKind.i64.wrap n=n:=by
 simp[IntKind.wrap,IntKind.bits,IntKind.signed]
 omega
end
section
variable{P:Program}{nt:Nat}{st:St}{Q:Exit→St→Prop}

theorem VC.mono{c:Code}{Q':Exit→St→Prop}(h:VC P nt c st Q')(hQ:∀ e st',Q' e st'→Q e st'):VC P nt c st Q:=
 fun κ a w hnt hR Qc hQc=>h κ a w hnt hR Qc (fun e st' a' w' hq hR'=>hQc e st' a' w' (hQ e st' hq) hR')

/-- What comes after: the rest of the code. -/
def after(P:Program)(nt:Nat)(y:Code)(Q:Exit→St→Prop):Exit→St→Prop
 | .normal,st=>VC P nt y st Q
 | e,st=>Q e st
theorem VC.seq'{x y:Code}(h:VC P nt x st (after P nt y Q)):VC P nt (.seq x y) st Q:=by
 refine VC.seq fun K hK=>VC.mono h ?_
 intro e st' hq
 cases e with
 | normal=>exact hK st' hq
 | _=>exact hq
theorem blockK_hit{i:Nat}(h:Q .normal st):blockK i Q (.exit i) st:=by simpa[blockK] using h
theorem blockK_miss{i j:Nat}(hj:j≠i)(h:Q (.exit j) st):blockK i Q (.exit j) st:=by simpa[blockK,hj] using h
end
section
end
section
theorem isAgg_node(l:List CV):(CV.node l).isAgg=true:=rfl
theorem isAgg_own(c:Nat):(CV.own c).isAgg=false:=rfl
theorem isAgg_agg(l:List PV):(CV.pv (.agg l)).isAgg=true:=rfl
theorem isAgg_lit(v:Value):(CV.pv (.lit v)).isAgg=false:=rfl
theorem isAgg_sl(b:Bool)(n:Nat)(l:List PV):(CV.pv (.sl b n l)).isAgg=false:=rfl
theorem isAgg_clo(f:FuncId)(l:List PV):(CV.pv (.clo f l)).isAgg=false:=rfl
theorem isAgg_ptr(v:PV):(CV.pv (.ptr v)).isAgg=false:=rfl
theorem size_lit(v:Value):(PV.lit v).size=1:=rfl
theorem size_sl(b:Bool)(n:Nat)(l:List PV):(PV.sl b n l).size=1:=rfl
theorem size_clo(f:FuncId)(l:List PV):(PV.clo f l).size=1:=rfl
theorem size_ptr(v:PV):(PV.ptr v).size=1:=rfl
theorem size_agg(l:List PV):(PV.agg l).size=PV.sizes l:=rfl
theorem notGone_pv(v:PV):notGone (.pv v)=true:=rfl
theorem notGone_own(c:Nat):notGone (.own c)=true:=rfl
theorem notGone_node(l:List CV):notGone (.node l)=true:=rfl
theorem getD_mem{α:Type}[Inhabited α]{l:List α}{i:Nat}(h:i<l.length):l.getD i default∈l:=by
 simp[List.getD,h]
end
section
theorem parts_node(l:List CV):(CV.node l).parts=l:=rfl
theorem parts_agg(l:List PV):(CV.pv (.agg l)).parts=l.map .pv:=rfl
theorem noOwn_lit(v:Value):(PV.lit v).noOwn=true:=rfl
theorem noOwn_sl(b:Bool)(n:Nat)(l:List PV):(PV.sl b n l).noOwn=!b:=rfl
theorem noOwn_agg(l:List PV):(PV.agg l).noOwn=PV.noOwns l:=rfl
theorem noOwn_clo(f:FuncId)(l:List PV):(PV.clo f l).noOwn=true:=rfl
theorem noOwn_ptr(v:PV):(PV.ptr v).noOwn=true:=rfl
end
section
/-! ### Lists of ported values -/
/-- Filled up to here. -/
def fill{α:Type}(z:α)(l:List α)(x:Nat):List α:=l.take x++List.replicate (l.length-x) z
end
section
/-! ### Regions in any order -/
variable{P:Program}{nt:Nat}{st:St}{Q:Exit→St→Prop}
def DrawH(ops:Array Oper)(st:St)(recs:List Rec)(_:Tok ops)(_:Tok st)(_:Tok recs):Prop:=DrawOk ops st recs
def edgesL(l:List Oper):Bool:=l.zipIdx.all fun (o,i)=>o.after.toList.all fun e=>!Region.binds .any e||decide (e.on<i)
def depL(l:List Oper)(j i:Nat):Bool:=((l[j]?).map fun o=>o.after.toList.any fun e=>Region.binds .any e&&e.on==i).getD false
def depLN(l:List Oper):Nat→Nat→Nat→Bool
 | 0,j,i=>depL l j i
 | n+1,j,i=>depL l j i||(List.range l.length).any fun k=>depL l j k&&depLN l n k i
def depL2(l:List Oper)(j i:Nat):Bool:=depLN l 9 j i
def pairsL(l:List Oper)(recs:List Rec):Bool:=
 recs.zipIdx.all fun (r,i)=>recs.zipIdx.all fun (q,j)=>i==j||((!decide (i<j)||depL l j i||indep r q||depL2 l j i)&&(depL l j i||freshBy r q&&boxBy r q||depL2 l j i))
theorem edgesL_eq(l:List Oper):edgesB ⟨l⟩=edgesL l:=by
 simp only[edgesB,edgesL,Array.all_toList]
theorem depL_eq(l:List Oper)(j i:Nat):dep ⟨l⟩ j i=depL l j i:=by
 simp only[dep,depL,Array.any_toList,List.getElem?_toArray]
theorem depLN_eq(l:List Oper):∀ n j i,depN ⟨l⟩ n j i=depLN l n j i
 | 0,j,i=>depL_eq l j i
 | n+1,j,i=>by simp only[depN,depLN,depL_eq,depLN_eq l n,List.size_toArray]
theorem pairsL_eq(l:List Oper)(recs:List Rec):pairsB ⟨l⟩ recs=pairsL l recs:=by
 simp only[pairsB,pairsL,dep2,depL2,depL_eq,depLN_eq]
theorem DrawH.mk{l:List Oper}{recs:List Rec}(frs fcs:List Nat)(h1:edgesL l=true)(h2:pairsL l recs=true)(h3:recs.flatMap (·.fr)=frs)(h4:recs.flatMap (·.fc)=fcs)
 (h5:∀ x∈frs,st.noR x) (h6:∀ c∈fcs,st.noC c) (h7:((recs.flatMap (·.rp)).all fun k=>isBx (st.s k))=true):DrawH ⟨l⟩ st recs .mk .mk .mk:=
 ⟨edgesL_eq l▸h1,pairsL_eq l recs▸h2,fun r hr=>⟨fun x hx=>h5 x (h3▸List.mem_flatMap.2 ⟨r,hr,hx⟩),fun c hc=>h6 c (h4▸List.mem_flatMap.2 ⟨r,hr,hc⟩)⟩,fun r hr k hk=>List.all_eq_true.1 h7 k (List.mem_flatMap.2 ⟨r,hr,hk⟩)⟩
end
section
end
section
mutual
def CV.ren(c c':Nat):CV→CV
 | .own n=>.own (if n=c then c' else n)
 | .node fs=>.node (CV.rens c c' fs)
 | .pv p=>.pv p
 | .gone n=>.gone n
def CV.rens(c c':Nat):List CV→List CV
 | []=>[]
 | x::xs=>x.ren c c'::CV.rens c c' xs
end
def HC.ren(c c':Nat):HC→HC
 | .cv x=>.cv (x.ren c c')
 | .mp a b=>.mp a b
 | .it r a b d=>.it r a b d
def SlotV.ren(c c':Nat):SlotV→SlotV
 | .dead=>.dead
 | .val x=>.val (x.ren c c')
 | .tup xs=>.tup (CV.rens c c' xs)
 | .box x=>.box (x.ren c c')
 | .bptr r p o=>.bptr r p o
 | .eptr n sz i p o=>.eptr (if n=c then c' else n) sz i p o
 | .ex Q=>.ex Q
 | .fn cs rs ps f=>.fn (cs.map fun n=>if n=c then c' else n) rs ps f
 | .hold sh ps x=>.hold sh ps (x.ren c c')
 | .hptr r sh ps=>.hptr r sh ps
def St.ren(st:St)(c c':Nat):St:=⟨fun k=>(st.s k).ren c c',upd (upd st.o c none) c' (st.o c)⟩

mutual
theorem CV.ren_size(c c':Nat):∀ x:CV,(x.ren c c').size=x.size
 | .own n=>rfl
 | .node fs=>by simp only[CV.ren,CV.size,CV.rens_sizes c c' fs]
 | .pv p=>rfl
 | .gone n=>rfl
theorem CV.rens_sizes(c c':Nat):∀ xs:List CV,CV.sizes (CV.rens c c' xs)=CV.sizes xs
 | []=>rfl
 | x::xs=>by simp only[CV.rens,CV.sizes,CV.ren_size c c' x,CV.rens_sizes c c' xs]
end
theorem CV.ren_isAgg(c c':Nat)(x:CV):(x.ren c c').isAgg=x.isAgg:=by cases x<;>rfl

section
variable{N:Nat→Prop}{w:World}{hd hd':Nat→Value}{c c':Nat}
mutual
theorem CV.ren_rep(h1:hd' c'=hd c)(h2:∀ n,n≠c'→hd' n=hd n):∀ (x:CV) (cs:List Value),x.noC c'=true→RepCV N w hd x cs→RepCV N w hd' (x.ren c c') cs
 | .own n,cs,hx,h=>by
  simp only[RepCV] at h ⊢
  simp only[CV.ren,RepCV]
  by_cases e:n=c
  ·subst e; simpa[h1] using h
  ·have:n≠c':=by simpa[CV.noC] using hx
   simpa[e,h2 n this] using h
 | .node fs,cs,hx,h=>by
  simp only[RepCV] at h
  simp only[CV.ren,RepCV]
  exact CV.rens_rep h1 h2 fs cs (by simpa[CV.noC] using hx) h
 | .pv p,cs,hx,h=>by simpa only[CV.ren,RepCV] using h
 | .gone n,cs,hx,h=>by simpa only[CV.ren,RepCV] using h
theorem CV.rens_rep(h1:hd' c'=hd c)(h2:∀ n,n≠c'→hd' n=hd n):∀ (xs:List CV) (cs:List Value),CV.noCs c' xs=true→RepCVs N w hd xs cs→RepCVs N w hd' (CV.rens c c' xs) cs
 | [],cs,_,h=>by simpa only[CV.rens,RepCVs] using h
 | x::xs,cs,hx,h=>by
  simp only[CV.noCs,aw] at hx
  simp only[RepCVs] at h
  simp only[CV.rens,RepCVs]
  obtain⟨c1,c2,e,g1,g2⟩:=h
  exact⟨c1,c2,e,CV.ren_rep h1 h2 x c1 hx.1 g1,CV.rens_rep h1 h2 xs c2 hx.2 g2⟩
end
theorem CV.ren_val(h1:hd' c'=hd c)(h2:∀ n,n≠c'→hd' n=hd n){x:CV}{v:Value}(hx:x.noC c'=true)(h:CVal N w hd x v):CVal N w hd' (x.ren c c') v:=by
 rcases h with⟨g1,cs,g2,g3⟩ | ⟨g1,g2,g3⟩
 ·exact .inl ⟨by rw[CV.ren_isAgg]; exact g1,cs,g2,CV.ren_rep h1 h2 x cs hx g3⟩
 ·exact .inr ⟨by rw[CV.ren_isAgg]; exact g1,CV.ren_rep h1 h2 x _ hx g2,g3⟩
theorem CV.rens_val(h1:hd' c'=hd c)(h2:∀ n,n≠c'→hd' n=hd n):∀ {xs:List CV} {vs:List Value},CV.noCs c' xs=true→CVals N w hd xs vs→CVals N w hd' (CV.rens c c' xs) vs
 | [],vs,_,h=>by simpa only[CV.rens,CVals] using h
 | x::xs,vs,hx,h=>by
  simp only[CV.noCs,aw] at hx
  simp only[CVals] at h
  simp only[CV.rens,CVals]
  obtain⟨v,vs',e,g1,g2⟩:=h
  exact⟨v,vs',e,CV.ren_val h1 h2 hx.1 g1,CV.rens_val h1 h2 hx.2 g2⟩
end

theorem isBox_ren(c c':Nat)(v:SlotV):isBox (v.ren c c')=isBox v:=by cases v<;>rfl

theorem St.le_ren{st:St}{c c':Nat}(hne:c≠c')(hn:st.noC c'):st.le (st.ren c c'):=by
 rintro κ a w ⟨G,hG⟩
 let G':Gh:={ hd:=upd G.hd c' (G.hd c),fp:=upd G.fp c' (G.fp c),ad:=G.ad }
 have h1:G'.hd c'=G.hd c:=by simp[G',upd]
 have h2:∀ n,n≠c'→G'.hd n=G.hd n:=by intro n h; simp[G',upd,h]
 have f1:G'.fp c'=G.fp c:=by simp[G',upd]
 have f2:∀ n,n≠c'→G'.fp n=G.fp n:=by intro n h; simp[G',upd,h]
 have ho:∀ n p,(st.ren c c').o n=some p→(n=c'∧st.o c=some p)∨(n≠c'∧n≠c∧st.o n=some p):=by
  intro n p hp
  simp only[St.ren,upd] at hp
  split at hp
  ·rename_i e; exact .inl ⟨e,hp⟩
  ·rename_i e
   split at hp
   ·cases hp
   ·rename_i e'; exact .inr ⟨e,e',hp⟩
 have hpriv:∀ b,Priv (st.ren c c') G' b→Priv st G b:=by
  rintro b (⟨r,g1,g2⟩ | ⟨n,p,g1,g2⟩)
  ·exact .inl ⟨r,by simpa[St.ren,isBox_ren] using g1,g2⟩
  ·rcases ho n p g1 with⟨rfl,g⟩ | ⟨e1,e2,g⟩
   ·exact .inr ⟨c,p,g,by rw[f1] at g2; exact g2⟩
   ·exact .inr ⟨n,p,g,by rw[f2 n e1] at g2; exact g2⟩
 have hN:∀ b,Nof κ st G w b→Nof κ (st.ren c c') G' w b:=fun b hb=>⟨hb.1,fun h=>hb.2 (hpriv b h)⟩
 refine⟨G',hG.keep,hG.defers,hG.nt,?_,?_,?_,?_,?_,?_,fun m v hm=>(h2 m (by have:=κ.hH m v hm; have:=hn.1.1; omega)).trans (hG.held m v hm)⟩
 ·intro k
  have hk:=(hG.slots k).frame hN (fun _ _=>rfl) (G':=G) (fun _ _=>rfl) (fun _ _=>rfl) (fun _=>⟨rfl,rfl⟩)
  have hc:=hn.2 k
  simp only[St.ren]
  cases hs:st.s k with
  | dead=>trivial
  | val x=>rw[hs] at hk hc; exact CV.ren_val h1 h2 (by simpa[SlotV.noC] using hc) hk
  | tup xs=>rw[hs] at hk hc; obtain⟨vs,e,g⟩:=hk; exact⟨vs,e,CV.rens_val h1 h2 (by simpa[SlotV.noC] using hc) g⟩
  | box x=>rw[hs] at hk hc; obtain⟨e,cs,e',g1,g2⟩:=hk; exact⟨e,cs,e',g1,CV.ren_rep h1 h2 x cs (by simpa[SlotV.noC] using hc) g2⟩
  | bptr r p o=>rw[hs] at hk; exact hk
  | ex Q=>rw[hs] at hk; exact hk
  | hptr r sh ps=>rw[hs] at hk; exact hk
  | hold sh ps x=>
   rw[hs] at hk hc
   obtain⟨vals,g1,g2,g3⟩:=hk
   refine⟨vals,g1,g2,?_⟩
   cases x with
   | cv x=>obtain⟨cs,e',g4,g5⟩:=g3; exact⟨cs,e',g4,CV.ren_rep h1 h2 x cs (by simpa[SlotV.noC,HC.noC] using hc) g5⟩
   | mp a b=>obtain⟨es,g4,g5⟩:=g3; exact⟨es,g4,g5⟩
   | it r a b d=>exact g3
  | fn cs rs ps f=>
   rw[hs] at hk hc
   obtain⟨vals,g1,g2⟩:=hk
   refine⟨vals,g1,?_⟩
   have e:(cs.map fun n=>if n=c then c' else n).map G'.hd=cs.map G.hd:=by
    rw[List.map_map]
    refine List.map_congr_left fun n hm=>?_
    by_cases e:n=c
    ·subst e; simp[h1]
    ·have:n≠c':=by
      rintro rfl
      simp[SlotV.noC,hm] at hc
     simp[e,h2 n this]
   rw[e]; exact g2
  | eptr n sz i p o=>
   rw[hs] at hk hc
   obtain⟨b,m,cap,g1,g2⟩:=hk
   refine⟨b,m,cap,?_,g2⟩
   by_cases e:n=c
   ·subst e; simp only[if_true]; rw[h1]; exact g1
   ·have:n≠c':=by simpa[SlotV.noC] using hc
    simp only[e,if_false]; rw[h2 n this]; exact g1
 ·intro n sz es hp
  rcases ho n _ hp with⟨rfl,g⟩ | ⟨e1,e2,g⟩
  ·obtain⟨g1,g2,g3⟩:=hG.objs c sz es g
   rw[h1,f1]
   exact⟨g1.frame hN (fun _ _=>rfl) _ _ _ (fun _ _=>rfl),g2,g3⟩
  ·obtain⟨g1,g2,g3⟩:=hG.objs n sz es g
   rw[h2 n e1,f2 n e1]
   exact⟨g1.frame hN (fun _ _=>rfl) _ _ _ (fun _ _=>rfl),g2,g3⟩
 ·intro r hr; exact hG.boxes r (by simpa[St.ren,isBox_ren] using hr)
 ·intro r r' hr hr'; exact hG.bb r r' (by simpa[St.ren,isBox_ren] using hr) (by simpa[St.ren,isBox_ren] using hr')
 ·intro r n p hr hp
  have hr':isBox (st.s r)=true:=by simpa[St.ren,isBox_ren] using hr
  rcases ho n p hp with⟨rfl,g⟩ | ⟨e1,e2,g⟩
  ·rw[f1]; exact hG.bo r c p hr' g
  ·rw[f2 n e1]; exact hG.bo r n p hr' g
 ·intro n n' p p' hp hp' hnn
  rcases ho n p hp with⟨rfl,g⟩ | ⟨e1,e2,g⟩<;>rcases ho n' p' hp' with⟨rfl,g'⟩ | ⟨e1',e2',g'⟩
  ·exact absurd rfl hnn
  ·rw[f1,f2 n' e1']; exact hG.oo c n' p p' g g' (Ne.symm e2')
  ·rw[f1,f2 n e1]; exact hG.oo n c p p' g g' e2
  ·rw[f2 n e1,f2 n' e1']; exact hG.oo n n' p p' g g' hnn

theorem St.le_trans{a b c:St}(h:a.le b)(h':b.le c):a.le c:=fun κ x w hR=>h' κ x w (h κ x w hR)

end
section
mutual
inductive HasTy(P:Program):TypeId→PV→Prop
 | bool {t:TypeId} {b:Bool} (h:P.underlying t=some .bool):HasTy P t (.lit (.bool b))
 | int {t:TypeId} {k:IntKind} {n:Int} (h:P.underlying t=some (.int k)) (hw:(Lit.int k n).wf=true):HasTy P t (.lit (.int k n))
 | str {t:TypeId} {s:ByteArray} (h:P.underlying t=some .string) (hs:s.size≤maxLen):HasTy P t (.lit (.string s))
 | sl {t e:TypeId} {es:List PV} (h:P.underlying t=some (.slice e)) (hl:es.length≤maxLen) (hes:∀ x∈es,HasTy P e x):HasTy P t (.sl false (P.cellsOf e) es)
 | struct {t:TypeId} {fs:Array Field} {ps:List PV} (h:P.underlying t=some (.struct fs)) (hps:HasTys P (fs.toList.map (·.type)) ps):HasTy P t (.agg ps)
inductive HasTys(P:Program):List TypeId→List PV→Prop
 | nil:HasTys P [] []
 | cons {t:TypeId} {ts:List TypeId} {p:PV} {ps:List PV} (h:HasTy P t p) (hs:HasTys P ts ps):HasTys P (t::ts) (p::ps)
end
/-- Fields that lie one behind the other. -/
def LaidF(P:Program):Nat→List Field→Nat→Prop
 | off,[],n=>off=n
 | off,f::fs,n=>f.offset=off∧LaidF P (off+P.cellsOf f.type) fs n
/-- Types that are read so. -/
def Kinds(P:Program)(G:TypeId→Prop):Prop:=∀ t,G t→P.underlying t=some .bool∨(∃ k,P.underlying t=some (.int k))∨P.underlying t=some .string∨(∃ e,P.underlying t=some (.slice e)∧G e∧0<P.cellsOf e)∨
 (∃ fs,P.underlying t=some (.struct fs)∧LaidF P 0 fs.toList (P.cellsOf t)∧∀ f∈fs.toList,G f.type)

section
variable{H:Type}{enc:TypeId×Value→H}{P:Program}{W:World}{spare:Nat→Bool}{held:Bool}{G:TypeId→Prop}

theorem open_fields{n:Nat}(ih:∀ t cs x,G t→DataW.trod enc P W 0 spare held n t cs=some x→∃ p,HasTy P t p∧RepC (fun b=>b<W.heap.size) W p cs []):
 ∀ (fs:List Field) (off m:Nat) (cs:List Value) (ys:List (DataW H×List MemPlace)),(∀ f∈fs,G f.type)→LaidF P off fs m→cs.length=m→
  fs.mapM (fun f=>DataW.trod enc P W 0 spare held n f.type ((cs.drop f.offset).take (P.cellsOf f.type)))=some ys→∃ ps,HasTys P (fs.map (·.type)) ps∧RepCs (fun b=>b<W.heap.size) W ps (cs.drop off) []
 | [],off,m,cs,ys,_,hl,hc,h=>by
  simp only[LaidF] at hl
  refine⟨[],.nil,?_⟩
  simp[RepCs,hl,← hc]
 | f::fs,off,m,cs,ys,hG,hl,hc,h=>by
  obtain⟨h1,h2⟩:=hl
  rw[List.mapM_cons] at h
  simp only[Option.bind_eq_bind,Option.bind_eq_some_iff] at h
  obtain⟨y,hy,ys',hys,_⟩:=h
  obtain⟨p,hp,hr⟩:=ih f.type _ y (hG f (by simp)) hy
  obtain⟨ps,hps,hrs⟩:=open_fields ih fs _ m cs ys' (fun g hg=>hG g (by simp[hg])) h2 hc hys
  refine⟨p::ps,.cons hp hps,?_⟩
  simp only[RepCs]
  rw[h1] at hr
  refine⟨(cs.drop off).take (P.cellsOf f.type),(cs.drop off).drop (P.cellsOf f.type),[],[],(List.take_append_drop _ _).symm,rfl,hr,?_⟩
  rw[List.drop_drop]
  exact hrs

theorem open_pv(K:Kinds P G):∀ (fuel:Nat) (t:TypeId) (cs:List Value) (x:DataW H×List MemPlace),G t→DataW.trod enc P W 0 spare held fuel t cs=some x→∃ p,HasTy P t p∧RepC (fun b=>b<W.heap.size) W p cs []
 | 0,t,cs,x,_,h=>by simp[DataW.trod] at h
 | n+1,t,cs,x,hG,h=>by
  rcases K t hG with ht | ⟨k,ht⟩ | ht | ⟨e,ht,hGe,hce⟩ | ⟨fs,ht,hl,hGf⟩
  ·obtain⟨b,rfl,_⟩:=DataW.trod_bool ht h
   exact⟨_,.bool (b:=b) ht,by simp[RepC,Value.oneCell']⟩
  ·obtain⟨m,rfl,_,hw⟩:=DataW.trod_int ht h
   exact⟨_,.int ht hw,by simp[RepC,Value.oneCell']⟩
  ·obtain⟨s,rfl,_,hs⟩:=DataW.trod_string ht h
   exact⟨_,.str ht hs,by simp[RepC,Value.oneCell']⟩
  ·rcases DataW.trod_slice ht h with⟨rfl,_⟩ | ⟨a,len,cap,elems,rest,m,hm,rfl,_,_,hlc,hcm,hel,hget,_,_⟩
   ·exact⟨_,.sl (es:=[]) ht (by simp) (by simp),by simp only[RepC]; exact⟨none,0,rfl,trivial,by simp,by simp,by simp,.inl trivial⟩⟩
   ·cases hm
    have each:∀ i,i<len→∃ ccs y,W.cells? 0 (a.add (i*P.cellsOf e)) (P.cellsOf e)=some ccs∧DataW.trod enc P W 0 spare held n e ccs=some y:=by
     intro i hi
     have h1:=hget i hi
     have h2:∃ y,elems[i]?=some y:=⟨elems[i]'(by omega),by simp[hel,hi]⟩
     obtain⟨y,hy⟩:=h2
     rw[hy,Option.bind_eq_some_iff] at h1
     obtain⟨ccs,g1,g2⟩:=h1
     exact⟨ccs,y,g1,g2⟩
    have hspot:0<len→a.spot=none∧a.block<W.heap.size:=by
     intro h0
     obtain⟨ccs,y,g1,_⟩:=each 0 h0
     have e0:a.add (0*P.cellsOf e)=a:=by simp[Addr.add]
     rw[e0] at g1
     obtain⟨_,g2,g3⟩:=World.cells?_some g1
     have:=g3 0 hce
     have e1:a.add 0=a:=by simp[Addr.add]
     rw[e1] at this
     have hs:∃ u,ccs[0]?=some u:=⟨ccs[0]'(by omega),by simp[g2,hce]⟩
     obtain⟨u,hu⟩:=hs
     rw[hu] at this
     exact⟨World.cell?_spot this,World.cells?_block g1 hce⟩
    have build:∀ k,k≤len→∃ es ccs,es.length=k∧(∀ x∈es,HasTy P e x)∧(∀ x∈es,PV.size x=P.cellsOf e)∧RepCs (fun b=>b<W.heap.size) W es ccs []∧ccs.length=k*P.cellsOf e∧RowAt W a ccs:=by
     intro k
     induction k with
     | zero=>intro _; exact⟨[],[],rfl,by simp,by simp,by simp[RepCs],by simp,by intro j u hu; simp at hu⟩
     | succ k ihk=>
      intro hk
      obtain⟨es,ccs,g1,g2,g3,g4,g5,g6⟩:=ihk (by omega)
      obtain⟨c',y,e1,e2⟩:=each k (by omega)
      obtain⟨p,hp,hr⟩:=open_pv K n e c' y hGe e2
      obtain⟨_,q1,q2⟩:=World.cells?_some e1
      refine⟨es++[p],ccs++c',by simp[g1],?_,?_,?_,by simp[g5,q1,Nat.succ_mul],?_⟩
      ·intro x hx; rcases List.mem_append.1 hx with hx | hx
       ·exact g2 x hx
       ·simp at hx; subst hx; exact hp
      ·intro x hx; rcases List.mem_append.1 hx with hx | hx
       ·exact g3 x hx
       ·simp at hx; subst hx; rw[← RepC.length _ _ _ hr,q1]
      ·have:=RepCs.append es [p] ccs c' [] [] g4 (by simp only[RepCs]; exact⟨c',[],[],[],by simp,rfl,hr,rfl,rfl⟩)
       simpa using this
      ·intro j u hu
       by_cases hj:j<ccs.length
       ·rw[List.getElem?_append_left hj] at hu; exact g6 j u hu
       ·rw[List.getElem?_append_right (by omega)] at hu
        have hlt:j-ccs.length<P.cellsOf e:=by rw[← q1]; exact(List.getElem?_eq_some_iff.1 hu).1
        have:=q2 (j-ccs.length) hlt
        rw[hu] at this
        have hs:=(hspot (by omega)).1
        rw[add_off a _ hs,add_off _ _ rfl] at this
        have e3:a.off+k*P.cellsOf e+(j-ccs.length)=a.off+j:=by omega
        simpa only[e3] using this
    obtain⟨es,ccs,g1,g2,g3,g4,g5,g6⟩:=build len (aM _)
    refine⟨_,.sl ht (by omega) g2,?_⟩
    simp only[RepC]
    refine⟨some a,cap,by rw[g1],trivial,by omega,hcm,g3,?_⟩
    by_cases h0:len=0
    ·left; exact List.length_eq_zero_iff.1 (g1.trans h0)
    ·right; exact⟨a,ccs,rfl,(hspot (by omega)).1,(hspot (by omega)).2,g6,g4⟩
  ·unfold DataW.trod at h
   rw[ht] at h
   simp only at h
   split at h
   ·rename_i hlen
    rw[Option.map_eq_some_iff] at h
    obtain⟨ys,hys,_⟩:=h
    obtain⟨ps,hps,hr⟩:=open_fields (n:=n) (fun t cs x hg hh=>open_pv K n t cs x hg hh) fs.toList 0 (P.cellsOf t) cs ys hGf hl hlen hys
    refine⟨.agg ps,.struct ht hps,?_⟩
    simp only[RepC]
    simpa using hr
   ·cases h
end
end
section
/-! ### Models -/
/-- A model that runs, and what holds of its answer. -/
def Run{α:Type}(m:Option α)(φ:α→Prop):Prop:=∃ v,m=some v∧φ v
theorem Run.of{α:Type}{m:Option α}{r:α}(h:m=some r):Run m (fun v=>v=r):=⟨r,h,rfl⟩
theorem run_bind{α β:Type}{x:Option α}{k:α→Option β}{φ:β→Prop}(h:Run (x.bind k) φ):∃ v,x=some v∧Run (k v) φ:=by
 obtain⟨w,h1,h2⟩:=h
 cases x with
 | none=>simp at h1
 | some v=>exact⟨v,rfl,w,h1,h2⟩
theorem run_t{α:Type}{b:Bool}{x y:Option α}{φ:α→Prop}(hb:b=true)(h:Run (cond b x y) φ):Run x φ:=by subst hb; exact h
theorem run_f{α:Type}{b:Bool}{x y:Option α}{φ:α→Prop}(hb:b=false)(h:Run (cond b x y) φ):Run y φ:=by subst hb; exact h
theorem run_some{α:Type}{v:α}{φ:α→Prop}(h:Run (some v) φ):φ v:=by
 obtain⟨w,h1,h2⟩:=h
 cases h1; exact h2
theorem run_none{α:Type}{φ:α→Prop}{A:Prop}(h:Run none φ):A:=by obtain⟨w,h1,h2⟩:=h; cases h1

/-- How a round ends: the next one, a way out, the enclosing answer. -/
inductive Flow(ρ σ:Type) where
 | nx (s:σ)
 | br (s:σ)
 | rt (r:ρ)
def forN{ρ σ:Type}(f:Nat→σ→Option (Flow ρ σ)):Nat→Nat→σ→Option (ρ ⊕ σ)
 | 0,_,s=>some (.inr s)
 | n+1,i,s=>(f i s).bind fun
  | .nx s'=>forN f n (i+1) s'
  | .br s'=>some (.inr s')
  | .rt r=>some (.inl r)
def whileN{ρ σ:Type}(f:σ→Option (Flow ρ σ)):Nat→σ→Option (ρ ⊕ σ)
 | 0,_=>none
 | n+1,s=>(f s).bind fun
  | .nx s'=>whileN f n s'
  | .br s'=>some (.inr s')
  | .rt r=>some (.inl r)
def thenL{ρ σ:Type}(m:Option (ρ ⊕ σ))(k:σ→Option ρ):Option ρ:=m.bind fun
 | .inl r=>some r
 | .inr s=>k s
def exitP{ρ σ:Type}(k:σ→Option ρ)(φ:ρ→Prop):ρ ⊕ σ→Prop
 | .inl r=>φ r
 | .inr s=>Run (k s) φ
def stepP{ρ σ:Type}(rest:σ→Option (ρ ⊕ σ))(ψ:ρ ⊕ σ→Prop):Flow ρ σ→Prop
 | .nx s=>Run (rest s) ψ
 | .br s=>ψ (.inr s)
 | .rt r=>ψ (.inl r)
theorem run_loop{ρ σ:Type}{m:Option (ρ ⊕ σ)}{k:σ→Option ρ}{φ:ρ→Prop}(h:Run (thenL m k) φ):Run m (exitP k φ):=by
 obtain⟨v,h1,h2⟩:=run_bind h
 refine⟨v,h1,?_⟩
 cases v with
 | inl r=>have h3:=run_some h2; exact h3
 | inr s=>exact h2
theorem run_round{ρ σ:Type}{f:Nat→σ→Option (Flow ρ σ)}{N i:Nat}{s:σ}{ψ:ρ ⊕ σ→Prop}(h:Run (forN f (N-i) i s) ψ)(hi:i<N):Run (f i s) (stepP (forN f (N-(i+1)) (i+1)) ψ):=by
 have e:N-i=(N-(i+1))+1:=by omega
 rw[e] at h
 obtain⟨v,h1,h2⟩:=run_bind h
 refine⟨v,h1,?_⟩
 cases v with
 | nx s'=>exact h2
 | br s'=>have h3:=run_some h2; exact h3
 | rt r=>have h3:=run_some h2; exact h3
theorem run_last{ρ σ:Type}{f:Nat→σ→Option (Flow ρ σ)}{N:Nat}{s:σ}{ψ:ρ ⊕ σ→Prop}(h:Run (forN f (N-N) N s) ψ):ψ (.inr s):=by
 rw[Nat.sub_self] at h
 have h3:=run_some h
 exact h3
theorem run_while{ρ σ:Type}{f:σ→Option (Flow ρ σ)}{n:Nat}{s:σ}{ψ:ρ ⊕ σ→Prop}(h:Run (whileN f n s) ψ):∃ n',n=n'+1∧Run (f s) (stepP (whileN f n') ψ):=by
 cases n with
 | zero=>exact run_none h
 | succ n=>
  refine⟨n,rfl,?_⟩
  obtain⟨v,h1,h2⟩:=run_bind h
  refine⟨v,h1,?_⟩
  cases v with
  | nx s'=>exact h2
  | br s'=>have h3:=run_some h2; exact h3
  | rt r=>have h3:=run_some h2; exact h3
/-- What comes out from some bound on. -/
def Ev{α:Type}(m:Nat→Option α)(r:α):Prop:=∃ N,∀ n,N≤n→m n=some r
theorem Ev.unique{α:Type}{m:Nat→Option α}{r r':α}(h:Ev m r)(h':Ev m r'):r=r':=by
 obtain⟨N,h⟩:=h
 obtain⟨N',h'⟩:=h'
 have h1:=h (max N N') (Nat.le_max_left _ _)
 rw[h' (max N N') (Nat.le_max_right _ _)] at h1
 exact(Option.some.inj h1).symm
open Classical in
noncomputable def lim{α:Type}(m:Nat→Option α):Option α:=if h:∃ r,Ev m r then some (Classical.choose h) else none
theorem lim_eq{α:Type}{m:Nat→Option α}{r:α}(h:Ev m r):lim m=some r:=by
 have hx:∃ r,Ev m r:=⟨r,h⟩
 simp only[lim,hx,dif_pos]
 exact congrArg some (Ev.unique (Classical.choose_spec hx) h)
theorem lim_some{α:Type}{m:Nat→Option α}{r:α}(h:lim m=some r):∃ n,m n=some r:=by
 unfold lim at h
 split at h
 ·rename_i hx
  obtain⟨N,hN⟩:=Classical.choose_spec hx
  cases h
  exact⟨N,hN N (aM _)⟩
 ·cases h
theorem run_lim{α:Type}{m:Nat→Option α}{φ:α→Prop}(h:Run (lim m) φ):∃ n,Run (m n) φ:=by
 obtain⟨v,h1,h2⟩:=h
 obtain⟨n,hn⟩:=lim_some h1
 exact⟨n,v,hn,h2⟩

def idx{α:Type}(xs:List α)(e:Int):Option α:=if 0≤e then xs[e.toNat]? else none
def slc{α:Type}(xs:List α)(lo hi:Int):Option (List α):=if 0≤lo∧lo≤hi∧hi≤xs.length then some ((xs.take hi.toNat).drop lo.toNat) else none
def sslc(s:ByteArray)(lo hi:Int):Option ByteArray:=if 0≤lo∧lo≤hi∧hi≤s.size then some (s.extract lo.toNat hi.toNat) else none
def app{α:Type}(xs ys:List α):Option (List α):=if xs.length+ys.length≤1073741824 then some (xs++ys) else none
def sapp(a b:ByteArray):Option ByteArray:=if a.size+b.size≤9223372036854775807 then some (a++b) else none
def mkn(n:Int):Option Nat:=if 0≤n∧n≤1073741824 then some n.toNat else none
def sidx(s:ByteArray)(e:Int):Option Int:=if 0≤e∧e<s.size then some ((s.data.toList.getD e.toNat 0).toNat:Int) else none
def quo(a b:Int):Option Int:=if b=0 then none else some (IntKind.i64.wrap (a.tdiv b))
def rem(a b:Int):Option Int:=if b=0 then none else some (a.tmod b)
/-- The bound of a loop's counter. -/
def bnd(n:Int):Option Nat:=if n≤9223372036854775807 then some n.toNat else none
theorem bnd_some{n:Int}{N:Nat}(h:bnd n=some N):n≤9223372036854775807∧N=n.toNat:=by
 unfold bnd at h
 split at h
 ·cases h; exact⟨by assumption,rfl⟩
 ·cases h
theorem idx_some{α:Type}{xs:List α}{e:Int}{x:α}(h:idx xs e=some x):0≤e∧e<xs.length∧xs[e.toNat]?=some x:=by
 unfold idx at h
 split at h
 ·rename_i h0
  have:=(List.getElem?_eq_some_iff.1 h).1
  exact⟨h0,by omega,h⟩
 ·cases h

/-! ### Code as a machine over frames -/
inductive Fr where
 | sq (y:Code)
 | bl (id:Nat)
 | rd (φ:St→Prop)
inductive Ctl where
 | code (c:Code)
 | nrm
 | ex (id:Nat)
 | rt
def popQ(P:Program)(nt:Nat)(F:St→Prop):List Fr→Exit→St→Prop
 | []=>fun e st=>(e=.normal∨e=.ret)∧F st
 | .sq y::k=>after P nt y (popQ P nt F k)
 | .bl id::k=>blockK id (popQ P nt F k)
 | .rd φ::k=>seqK φ (popQ P nt F k)
def Mg(P:Program)(nt:Nat)(F:St→Prop):Nat→Ctl→St→List Fr→Prop
 | 0,_,_,_=>False
 | n+1,.code c,st,k=>match c with
  | .seq x y=>Mg P nt F n (.code x) st (.sq y::k)
  | .skip=>Mg P nt F n .nrm st k
  | .exit id=>Mg P nt F n (.ex id) st k
  | .ret=>Mg P nt F n .rt st k
  | .block id x=>Mg P nt F n (.code x) st (.bl id::k)
  | .region _ ops dr=>if dr then P.follows .mixedOrders=true∧wpD P nt ops ops.toList st [] (fun recs st'=>DrawH ops st recs .mk .mk .mk∧Mg P nt F n .nrm st' k)
   else wpD P nt ops ops.toList st [] (fun _ st'=>Mg P nt F n .nrm st' k)
  | .cond c x y=>boolOf (ev P st 0 c) fun b=>CondH b (Mg P nt F n (.code x) st k) (Mg P nt F n (.code y) st k) .mk .mk
  | c=>VC P nt c st (popQ P nt F k)
 | n+1,.nrm,st,k=>match k with
  | []=>F st
  | .sq y::k=>Mg P nt F n (.code y) st k
  | .bl _::k=>Mg P nt F n .nrm st k
  | .rd φ::_=>φ st
 | n+1,.ex id,st,k=>match k with
  | []=>False
  | .sq _::k=>Mg P nt F n (.ex id) st k
  | .bl id'::k=>if id=id' then Mg P nt F n .nrm st k else Mg P nt F n (.ex id) st k
  | .rd _::k=>Mg P nt F n (.ex id) st k
 | n+1,.rt,st,k=>match k with
  | []=>F st
  | _::k=>Mg P nt F n .rt st k

section
variable{P:Program}{nt:Nat}{F:St→Prop}{n:Nat}{st:St}{k:List Fr}
def Ctl.means(P:Program)(nt:Nat)(st:St)(Q:Exit→St→Prop):Ctl→Prop
 | .code c=>VC P nt c st Q
 | .nrm=>Q .normal st
 | .ex id=>Q (.exit id) st
 | .rt=>Q .ret st
def onlyN(K:St→Prop):Exit→St→Prop
 | .normal,st=>K st
 | _,_=>False
theorem VC.region2{id:Nat}{ops:Array Oper}{Q:Exit→St→Prop}{K:St→Prop}(h:wpD P nt ops ops.toList st [] (fun _ st'=>K st'))(hK:∀ st',K st'→Q .normal st'):VC P nt (.region id ops false) st Q:=
 VC.mono (VC.region (Q:=onlyN K) h) (fun e st' hq=>by cases e<;>first | exact hK _ hq | exact hq.elim)
theorem VC.draw2{id:Nat}{ops:Array Oper}{Q:Exit→St→Prop}{K:St→Prop}(hm:P.follows .mixedOrders=true)(h:wpD P nt ops ops.toList st [] (fun recs st'=>DrawH ops st recs .mk .mk .mk∧K st'))(hK:∀ st',K st'→Q .normal st'):VC P nt (.region id ops true) st Q:=
 VC.mono (VC.draw (Q:=onlyN K) hm h) (fun e st' hq=>by cases e<;>first | exact hK _ hq | exact hq.elim)
theorem Mg.sound:∀ (n:Nat) (c:Ctl) (st:St) (k:List Fr),Mg P nt F n c st k→c.means P nt st (popQ P nt F k)
 | 0,_,_,_,h=>h.elim
 | n+1,.code c,st,k,h=>by
  have ih:=Mg.sound n
  cases c with
  | seq x y=>exact VC.seq' (ih (.code x) st (.sq y::k) h)
  | skip=>exact VC.skip (ih .nrm st k h)
  | exit id=>exact VC.exit (ih (.ex id) st k h)
  | ret=>exact VC.ret (ih .rt st k h)
  | block id x=>exact VC.block (ih (.code x) st (.bl id::k) h)
  | region id ops dr=>
   cases dr with
   | false=>exact VC.region2 h (fun st' hk=>ih .nrm st' k hk)
   | true=>exact VC.draw2 h.1 h.2 (fun st' hk=>ih .nrm st' k hk)
  | cond c x y=>
   refine VC.cond ?_
   simp only[Mg] at h
   unfold boolOf at h ⊢
   split at h
   ·exact⟨fun hb=>ih (.code x) st k (h.1 hb),fun hb=>ih (.code y) st k (h.2 hb)⟩
   ·intro v hv
    obtain⟨b,e,hb⟩:=h v hv
    exact⟨b,e,fun hh=>ih (.code x) st k (hb.1 hh),fun hh=>ih (.code y) st k (hb.2 hh)⟩
   ·exact h.elim
  | _=>exact h
 | n+1,.nrm,st,k,h=>by
  have ih:=Mg.sound n
  match k,h with
  | [],h=>exact⟨.inl rfl,h⟩
  | .sq y::k,h=>exact(ih (.code y) st k h)
  | .bl i::k,h=>exact(ih .nrm st k h)
  | .rd φ::k',h=>exact h
 | n+1,.ex id,st,k,h=>by
  have ih:=Mg.sound n
  match k,h with
  | [],h=>exact h.elim
  | .sq y::k,h=>exact(ih (.ex id) st k h)
  | .bl id'::k,h=>
   simp only[Mg] at h
   by_cases e:id=id'
   ·subst e; rw[if_pos rfl] at h; exact blockK_hit (ih .nrm st k h)
   ·rw[if_neg e] at h; exact blockK_miss e (ih (.ex id) st k h)
  | .rd φ::k',h=>exact(ih (.ex id) st k' h)
 | n+1,.rt,st,k,h=>by
  have ih:=Mg.sound n
  match k,h with
  | [],h=>exact⟨.inr rfl,h⟩
  | .sq y::k,h=>exact(ih .rt st k h)
  | .bl i::k,h=>exact(ih .rt st k h)
  | .rd φ::k',h=>exact(ih .rt st k' h)

/-! The rules, for `simp`. -/
@[congr] theorem Mg.cg {c:Ctl} {st':St} (h:∀ _:Unit,st=st'):Mg P nt F n c st k=Mg P nt F n c st' k:=by rw[h ()]
theorem Mg_seq(x y:Code):Mg P nt F (n+1) (.code (.seq x y)) st k=Mg P nt F n (.code x) st (.sq y::k):=rfl
theorem Mg_skip:Mg P nt F (n+1) (.code .skip) st k=Mg P nt F n .nrm st k:=rfl
theorem Mg_exit(id:Nat):Mg P nt F (n+1) (.code (.exit id)) st k=Mg P nt F n (.ex id) st k:=rfl
theorem Mg_ret:Mg P nt F (n+1) (.code .ret) st k=Mg P nt F n .rt st k:=rfl
theorem Mg_block(id:Nat)(x:Code):Mg P nt F (n+1) (.code (.block id x)) st k=Mg P nt F n (.code x) st (.bl id::k):=rfl
theorem Mg_reg(id:Nat)(l:List Oper):Mg P nt F (n+1) (.code (.region id ⟨l⟩ false)) st k=wpD P nt ⟨l⟩ l st [] (fun _ st'=>Mg P nt F n .nrm st' k):=rfl
theorem Mg_drw(id:Nat)(l:List Oper):Mg P nt F (n+1) (.code (.region id ⟨l⟩ true)) st k=(P.follows .mixedOrders=true∧wpD P nt ⟨l⟩ l st [] (fun recs st'=>DrawH ⟨l⟩ st recs .mk .mk .mk∧Mg P nt F n .nrm st' k)):=rfl
theorem Mg_cond(c:Operand)(x y:Code):Mg P nt F (n+1) (.code (.cond c x y)) st k=boolOf (ev P st 0 c) fun b=>CondH b (Mg P nt F n (.code x) st k) (Mg P nt F n (.code y) st k) .mk .mk:=rfl
theorem Mg_n0:Mg P nt F (n+1) .nrm st []=F st:=rfl
theorem Mg_nsq(y:Code):Mg P nt F (n+1) .nrm st (.sq y::k)=Mg P nt F n (.code y) st k:=rfl
theorem Mg_nbl(id:Nat):Mg P nt F (n+1) .nrm st (.bl id::k)=Mg P nt F n .nrm st k:=rfl
theorem Mg_xsq(id:Nat)(y:Code):Mg P nt F (n+1) (.ex id) st (.sq y::k)=Mg P nt F n (.ex id) st k:=rfl
theorem Mg_xbl(id:Nat):Mg P nt F (n+1) (.ex id) st (.bl id::k)=Mg P nt F n .nrm st k:=by simp[Mg]
theorem Mg_xbm(id id':Nat)(h:(id==id')=false):Mg P nt F (n+1) (.ex id) st (.bl id'::k)=Mg P nt F n (.ex id) st k:=by
 have:id≠id':=by simpa using h
 simp[Mg,this]
theorem Mg_xrd(id:Nat)(φ:St→Prop):Mg P nt F (n+1) (.ex id) st (.rd φ::k)=Mg P nt F n (.ex id) st k:=rfl
theorem Mg_r0:Mg P nt F (n+1) .rt st []=F st:=rfl
theorem Mg_rc(f:Fr):Mg P nt F (n+1) .rt st (f::k)=Mg P nt F n .rt st k:=rfl

/-! ### Loops -/
def mkS:List (Nat×SlotV)→Nat→SlotV
 | []=>fun _=>.dead
 | (j,v)::l=>upd (mkS l) j v
def mkO:List (Nat×(Nat×List PV))→Nat→Option (Nat×List PV)
 | []=>fun _=>none
 | (j,v)::l=>upd (mkO l) j (some v)
theorem mkS_hit(j:Nat)(v:SlotV)(l:List (Nat×SlotV)):mkS ((j,v)::l) j=v:=by simp[mkS,upd]
theorem mkS_miss(i j:Nat)(v:SlotV)(l:List (Nat×SlotV))(h:(i==j)=false):mkS ((j,v)::l) i=mkS l i:=by
 have:i≠j:=by simpa using h
 simp[mkS,upd,this]
theorem mkS_none(j:Nat):mkS [] j=.dead:=rfl
theorem mkO_hit(j:Nat)(v:Nat×List PV)(l:List (Nat×(Nat×List PV))):mkO ((j,v)::l) j=some v:=by simp[mkO,upd]
theorem mkO_miss(i j:Nat)(v:Nat×List PV)(l:List (Nat×(Nat×List PV)))(h:(i==j)=false):mkO ((j,v)::l) i=mkO l i:=by
 have:i≠j:=by simpa using h
 simp[mkO,upd,this]
theorem mkO_none(j:Nat):mkO [] j=none:=rfl
theorem noR_mkS(l:List (Nat×SlotV))(o:Nat→Option (Nat×List PV))(r k:Nat)(v:SlotV)(h:v.noR r=true)(h':St.noR ⟨mkS l,o⟩ r):St.noR ⟨mkS ((k,v)::l),o⟩ r:=noR_mk _ _ _ _ _ h h'
theorem noR_nilS(o:Nat→Option (Nat×List PV))(r:Nat):St.noR ⟨mkS [],o⟩ r:=noR_empty o r
theorem noC_mkS(l:List (Nat×SlotV))(o:Nat→Option (Nat×List PV))(c k:Nat)(v:SlotV)(h:v.noC c=true)(h':St.noC ⟨mkS l,o⟩ c):St.noC ⟨mkS ((k,v)::l),o⟩ c:=noC_mk _ _ _ _ _ h h'
theorem noC_nilS(o:Nat→Option (Nat×List PV))(c:Nat)(h:c<10000∧o c=none):St.noC ⟨mkS [],o⟩ c:=noC_empty o c h
/-- The live slots hold this. -/
def LeL(f:Nat→SlotV):List (Nat×SlotV)→Prop
 | []=>True
 | (j,v)::l=>f j=v∧LeL f l
def LeP(f:Nat→Option (Nat×List PV)):List (Nat×(Nat×List PV))→Prop
 | []=>True
 | (j,v)::l=>f j=some v∧LeP f l
theorem LeL.ok{f:Nat→SlotV}:∀ {l:List (Nat×SlotV)},LeL f l→LeS f (mkS l)
 | [],_=>LeS.nil f
 | (j,v)::l,h=>LeS.cons h.1 h.2.ok
theorem LeP.ok{f:Nat→Option (Nat×List PV)}:∀ {l:List (Nat×(Nat×List PV))},LeP f l→LeO f (mkO l)
 | [],_=>LeO.nil f
 | (j,v)::l,h=>LeO.cons h.1 h.2.ok
theorem St.le_mk{st:St}{S:List (Nat×SlotV)}{O:List (Nat×(Nat×List PV))}(hs:LeL st.s S)(ho:LeP st.o O):st.le ⟨mkS S,mkO O⟩:=St.le_live hs.ok ho.ok

theorem St.le_mk2{st:St}{S:List (Nat×SlotV)}{O:List (Nat×(Nat×List PV))}(h:LeL st.s S∧LeP st.o O):st.le ⟨mkS S,mkO O⟩:=St.le_mk h.1 h.2
theorem Mg.know_sl{c:Code}{b:Bool}{sz:Nat}{es:List PV}(j:Nat)(hk:st.s j=.val (.pv (.sl b sz es)))(h:es.length≤9223372036854775807→Mg P nt F (n+1) (.code (.loop c)) st k):Mg P nt F (n+1) (.code (.loop c)) st k:=
 VC.know_sl (Q:=popQ P nt F k) j hk (fun g=>h (Nat.le_trans g (by decide)))
theorem Mg.know_own{c:Code}{sz:Nat}{es:List PV}(j:Nat)(hk:st.o j=some (sz,es))(h:es.length≤9223372036854775807→Mg P nt F (n+1) (.code (.loop c)) st k):Mg P nt F (n+1) (.code (.loop c)) st k:=
 VC.know_own (Q:=popQ P nt F k) j hk (fun g=>h (Nat.le_trans g (by decide)))
theorem Mg.forN{c:Code}{ρ σ:Type}{f:Nat→σ→Option (Flow ρ σ)}{N:Nat}{s0:σ}{ψ:ρ ⊕ σ→Prop}(h:Run (forN f N 0 s0) ψ)(S:Nat→σ→List (Nat×SlotV))(O:Nat→σ→List (Nat×(Nat×List PV)))
 (h0:st.le ⟨mkS (S 0 s0),mkO (O 0 s0)⟩)
 (round:∀ i s,i<N→Run (f i s) (stepP (forN f (N-(i+1)) (i+1)) ψ)→Mg P nt F n (.code c) ⟨mkS (S i s),mkO (O i s)⟩
  (.rd (fun st'=>∃ s',Run (Av.forN f (N-(i+1)) (i+1) s') ψ∧st'.le ⟨mkS (S (i+1) s'),mkO (O (i+1) s')⟩)::k))
 (last:∀ s,ψ (.inr s)→Mg P nt F n (.code c) ⟨mkS (S N s),mkO (O N s)⟩ (.rd (fun _=>False)::k)):Mg P nt F (n+1) (.code (.loop c)) st k:=by
 show VC P nt (.loop c) st (popQ P nt F k)
 refine VC.loop (α:=Nat×σ) (fun x=>⟨mkS (S x.1 x.2),mkO (O x.1 x.2)⟩) (fun x=>x.1≤N∧Run (Av.forN f (N-x.1) x.1 x.2) ψ) (fun x=>N-x.1) (0,s0) ⟨Nat.zero_le _,h⟩ h0 ?_
 rintro ⟨i,s⟩ ⟨h1,h2⟩
 simp only at h1 h2 ⊢
 by_cases e:i<N
 ·refine VC.mono (Mg.sound n _ _ _ (round i s e (run_round h2 e))) ?_
  intro ex st' hq
  cases ex with
  | normal=>obtain⟨s',g1,g2⟩:=hq; exact⟨(i+1,s'),⟨by simp only; omega,g1⟩,by simp only; omega,g2⟩
  | _=>exact hq
 ·have e2:i=N:=by omega
  subst e2
  refine VC.mono (Mg.sound n _ _ _ (last s (run_last h2))) ?_
  intro ex st' hq
  cases ex with
  | normal=>exact hq.elim
  | _=>exact hq
theorem Mg.forA{c:Code}{ρ σ:Type}{f:Nat→σ→Option (Flow ρ σ)}{a N:Nat}{s0:σ}{ψ:ρ ⊕ σ→Prop}(h:Run (Av.forN f (N-a) a s0) ψ)(S:Nat→σ→List (Nat×SlotV))(O:Nat→σ→List (Nat×(Nat×List PV)))
 (h0:st.le ⟨mkS (S a s0),mkO (O a s0)⟩)
 (round:∀ i s,i<N→a≤i→Run (f i s) (stepP (Av.forN f (N-(i+1)) (i+1)) ψ)→Mg P nt F n (.code c) ⟨mkS (S i s),mkO (O i s)⟩
  (.rd (fun st'=>∃ s',Run (Av.forN f (N-(i+1)) (i+1) s') ψ∧st'.le ⟨mkS (S (i+1) s'),mkO (O (i+1) s')⟩)::k))
 (last:∀ i s,¬ i<N→ψ (.inr s)→Mg P nt F n (.code c) ⟨mkS (S i s),mkO (O i s)⟩ (.rd (fun _=>False)::k)):Mg P nt F (n+1) (.code (.loop c)) st k:=by
 show VC P nt (.loop c) st (popQ P nt F k)
 refine VC.loop (α:=Nat×σ) (fun x=>⟨mkS (S x.1 x.2),mkO (O x.1 x.2)⟩) (fun x=>a≤x.1∧Run (Av.forN f (N-x.1) x.1 x.2) ψ) (fun x=>N-x.1) (a,s0) ⟨aM _,h⟩ h0 ?_
 rintro ⟨i,s⟩ ⟨h1,h2⟩
 simp only at h1 h2 ⊢
 by_cases e:i<N
 ·refine VC.mono (Mg.sound n _ _ _ (round i s e h1 (run_round h2 e))) ?_
  intro ex st' hq
  cases ex with
  | normal=>obtain⟨s',g1,g2⟩:=hq; exact⟨(i+1,s'),⟨by simp only; omega,g1⟩,by simp only; omega,g2⟩
  | _=>exact hq
 ·have e2:N-i=0:=by omega
  rw[e2] at h2
  have h3:=run_some h2
  refine VC.mono (Mg.sound n _ _ _ (last i s e h3)) ?_
  intro ex st' hq
  cases ex with
  | normal=>exact hq.elim
  | _=>exact hq
theorem Mg.whileN{c:Code}{ρ σ:Type}{f:σ→Option (Flow ρ σ)}{s0:σ}{ψ:ρ ⊕ σ→Prop}(h:Run (lim fun m=>whileN f m s0) ψ)(S:σ→List (Nat×SlotV))(O:σ→List (Nat×(Nat×List PV)))
 (h0:st.le ⟨mkS (S s0),mkO (O s0)⟩)
 (round:∀ m s,Run (f s) (stepP (whileN f m) ψ)→Mg P nt F n (.code c) ⟨mkS (S s),mkO (O s)⟩ (.rd (fun st'=>∃ s',Run (Av.whileN f m s') ψ∧st'.le ⟨mkS (S s'),mkO (O s')⟩)::k)):Mg P nt F (n+1) (.code (.loop c)) st k:=by
 show VC P nt (.loop c) st (popQ P nt F k)
 obtain⟨n0,h⟩:=run_lim h
 refine VC.loop (α:=Nat×σ) (fun x=>⟨mkS (S x.2),mkO (O x.2)⟩) (fun x=>Run (Av.whileN f x.1 x.2) ψ) (fun x=>x.1) (n0,s0) h h0 ?_
 rintro ⟨i,s⟩ h2
 simp only at h2 ⊢
 obtain⟨i',rfl,h3⟩:=run_while h2
 refine VC.mono (Mg.sound n _ _ _ (round i' s h3)) ?_
 intro ex st' hq
 cases ex with
 | normal=>obtain⟨s',g1,g2⟩:=hq; exact⟨(i',s'),g1,by simp only; omega,g2⟩
 | _=>exact hq
theorem wrap_succ{i:Nat}(h:i<9223372036854775807):IntKind.i64.wrap ((i:Int)+1)=((i+1:Nat):Int):=by rw[wrap64]<;>omega

/-! ### The end of a body -/
def FinH(P:Program)(st:St)(rs:List ResultVar)(res:PV):Prop:=RetOk P st rs res
@[congr] theorem FinH.cg {rs:List ResultVar} {res:PV} {st':St} (h:∀ _:Unit,st=st'):FinH P st rs res=FinH P st' rs res:=by rw[h ()]
theorem FinH.l{rs:List ResultVar}{res:PV}(h:RetL P st rs res):FinH P st rs res:=⟨h.1,h.2.1,.inl ⟨h.2.2.1,h.2.2.2⟩⟩
theorem FinH.r{rs:List ResultVar}{res:PV}(h:RetR P st rs res):FinH P st rs res:=⟨h.1,h.2.1,.inr h.2.2⟩
theorem Sat.of_m{f:FuncId}{fn:Func}{c:Code}{args:List PV}{res:PV}{rs:List ResultVar}(hf:P.funcs[f]?=some fn)(hname:(fn.name== "runtime.NumGoroutine")=false)(hb:fn.body=some c)
 (hnt:fn.ntmps=nt) (hrs:fn.results.toList=rs) (hle:args.length≤nt) (h:Mg P nt (fun st=>FinH P st rs res) n (.code c) (argSt args) []):Sat P f args res:=
 Sat.of_body hf hname hb hnt hrs hle (Mg.sound n _ _ _ h)
end

/-! ### Places where a model speaks -/
section
variable{P:Program}{nt:Nat}{st:St}
theorem CondH.tt{b:Bool}{A B:Prop}(hb:b=true)(h:b=true→A):CondH b A B .mk .mk:=by subst hb; exact⟨fun _=>h rfl,fun e=>nomatch e⟩
theorem CondH.ff{b:Bool}{A B:Prop}(hb:b=false)(h:b=false→B):CondH b A B .mk .mk:=by subst hb; exact⟨fun e=>(nomatch e),fun _=>h rfl⟩
def IdxH(es:List PV)(n:Int)(K:PV→Prop)(_:Tok K):Prop:=(0≤n∧n<es.length)∧K (es.getD n.toNat default)
@[congr] theorem IdxH.cg {es es':List PV} {n n':Int} {K:PV→Prop} (h:∀ _:Unit,es=es') (h':∀ _:Unit,n=n'):IdxH es n K .mk=IdxH es' n' K .mk:=by rw[h (),h' ()]
theorem IdxH.mk{α:Type}{f:α→PV}{xs:List α}{x:α}{es:List PV}{e:Int}{K:PV→Prop}(h:idx xs e=some x)(he:es=xs.map f)(hK:K (f x)):IdxH es e K .mk:=by
 obtain⟨h1,h2,h3⟩:=idx_some h
 subst he
 refine⟨⟨h1,by simpa using h2⟩,?_⟩
 have:(xs.map f).getD e.toNat default=f x:=by simp[List.getD,h3]
 rw[this]; exact hK
def ArrH(P:Program)(T:TypeId)(n:Int)(K:Nat→Nat→Prop)(_:Tok K):Prop:=ArrIx P T n K
@[congr] theorem ArrH.cg {P:Program} {T:TypeId} {n n':Int} {K:Nat→Nat→Prop} (h:∀ _:Unit,n=n'):ArrH P T n K .mk=ArrH P T n' K .mk:=by rw[h ()]
theorem ArrH.mk{P:Program}{T:TypeId}{n:Int}{K:Nat→Nat→Prop}{m sz:Nat}(k:Nat)(hT:ArrIs P T m sz)(hk:k<m)(hn:n=(k:Int))(hK:K k sz):ArrH P T n K .mk:=⟨m,sz,k,hT,hk,hn,hK⟩
def EldH(es:List PV)(i:Nat)(K:PV→Prop)(_:Tok K):Prop:=i<es.length∧K (es.getD i default)
@[congr] theorem EldH.cg {es es':List PV} {n n':Nat} {K:PV→Prop} (h:∀ _:Unit,es=es') (h':∀ _:Unit,n=n'):EldH es n K .mk=EldH es' n' K .mk:=by rw[h (),h' ()]
theorem EldH.mk{α:Type}{f:α→PV}{xs:List α}{x:α}{es:List PV}{e:Int}{i:Nat}{K:PV→Prop}(h:idx xs e=some x)(hi:i=e.toNat)(he:es=xs.map f)(hK:K (f x)):EldH es i K .mk:=by
 obtain⟨h1,h2,h3⟩:=idx_some h
 subst he; subst hi
 refine⟨by simp; omega,?_⟩
 have:(xs.map f).getD e.toNat default=f x:=by simp[List.getD,h3]
 rw[this]; exact hK
theorem idxK_slH(T:TypeId)(x y:Operand)(K:List Nat→List Nat→SlotV→Prop)(b:Bool)(sz:Nat)(es:List PV)(k:IntKind)(n:Int):idxK P st T x y K (.val (.pv (.sl b sz es))) (.val (.pv (.lit (.int k n))))=
 (SlIs P T sz (eBytes P T)∧IdxH es n (fun e=>K (rd x++rd y) [] (.val (.pv (.ptr e)))) .mk):=rfl
theorem idxK_ownH(T:TypeId)(x y:Operand)(K:List Nat→List Nat→SlotV→Prop)(c:Nat)(k:IntKind)(n:Int):idxK P st T x y K (.val (.own c)) (.val (.pv (.lit (.int k n))))=
 objK (st.o c) (fun q=>SlIs P T q.1 (eBytes P T)∧IdxH q.2 n (fun _=>K (rd x++rd y) [c] (.eptr c q.1 n.toNat [] 0)) .mk):=by
 simp only[idxK]
 cases st.o c with
 | none=>rfl
 | some q=>rfl
theorem loadK_eH(T:TypeId)(x:Operand)(K:List Nat→List Nat→SlotV→Prop)(c sz i:Nat)(p:List Nat)(off:Nat):loadK P st T x K (.eptr c sz i p off)=
 objK (st.o c) (fun q=>q.1=sz∧EldH q.2 i (fun e=>(e.okp p=true∧e.offs p=off∧(e.at p).noOwn=true∧TyIs P T (CV.pv (e.at p)).isAgg (e.at p).size)∧K (rd x) [c] (.val (.pv (e.at p)))) .mk):=by
 simp only[loadK]
 cases st.o c with
 | none=>rfl
 | some q=>
  simp only[objK,EldH,eq_iff_iff]
  constructor
  ·rintro ⟨⟨h1,h2,h3,h4,h5,h6⟩,h7⟩; exact⟨h1,h2,⟨h3,h4,h5,h6⟩,h7⟩
  ·rintro ⟨h1,h2,⟨h3,h4,h5,h6⟩,h7⟩; exact⟨⟨h1,h2,h3,h4,h5,h6⟩,h7⟩
theorem storeK_eH(T:TypeId)(x y:Operand)(z:CV)(K:Rec→Prop)(c sz i:Nat)(p:List Nat)(off:Nat):storeK P st T x y (.val z) K (.eptr c sz i p off)=
 objK (st.o c) (fun q=>q.1=sz∧EldH q.2 i (fun e=>(e.okp p=true∧e.offs p=off∧z.whole st.o=true∧(c::z.names).Nodup∧TyIs P T z.isAgg z.size∧z.size=(e.at p).size∧(e.setAt p (z.pvo st.o)).size=sz)∧
  K { rs:=rd x++rd y,ro:=c::z.names,uo:=deadObjs z.names++[(c,some (sz,q.2.set i (e.setAt p (z.pvo st.o))))] }) .mk):=by
 simp only[storeK]
 cases st.o c with
 | none=>rfl
 | some q=>
  simp only[objK,EldH,eq_iff_iff]
  constructor
  ·rintro ⟨⟨h1,h2,h3,h4,h5,h6,h7,h8,h9⟩,h10⟩; exact⟨h1,h2,⟨h3,h4,h5,h6,h7,h8,h9⟩,h10⟩
  ·rintro ⟨h1,h2,⟨h3,h4,h5,h6,h7,h8,h9⟩,h10⟩; exact⟨⟨h1,h2,h3,h4,h5,h6,h7,h8,h9⟩,h10⟩
end
end
end Go.Av
