/- A part of the proof: lemmas only; nothing is claimed here beyond what each lemma says. -/
/- Regions, in the order of the text and in any order that their edges allow. -/
import Derived.Test.YtkoghcphkdecoaaGreatAv7
set_option linter.unusedSimpArgs false
set_option linter.unusedVariables false
set_option linter.defProp false
namespace Go.Av
open Bool renaming and_eq_true→aD
open List renaming all_eq_true→a8

def gst(ops:Array Oper)(j:Nat):Option Nat:=(ops[j]?).bind (·.dst)

def guardK(sv:SlotV)(want:Bool)(A B:Prop):Prop:=
 match sv with
 | .val (.pv (.lit (.bool b)))=>if want then Cond b A B else Cond b B A
 | .tup []=>B
 | _=>False

def stepG(P:Program)(nt:Nat)(ops:Array Oper)(st:St)(o:Oper)(K:Rec→Prop):Prop:=
 match o.guard with
 | none=>recO P nt st o K
 | some (j,want)=>
  match gst ops j with
  | some g=>guardK (st.s g) want (recO P nt st o fun r=>K { r with rs:=g::r.rs })
   ((∀ d,o.dst=some d→d<nt)∧K { rs:=[g],us:=o.dst.toList.map fun d=>(d,.tup []) })
  | none=>False

def VOp(P:Program)(nt:Nat)(ops:Array Oper)(i:Nat)(st:St)(r:Rec):Prop:=
 ∀ κ st' a w,κ.nt=nt→r.same st st'→r.fresh st'→R κ st' a w→∀ (next:Act→World→Prop) (Q:Exit→Act→World→Prop),
  (∀ a' w',R κ (st'.app r) a' w'→next a' w')→wpOp P ops Q i next a w

theorem yo_{ops:Array Oper}{a:Act}{j g:Nat}(hg:gst ops j=some g):yielded ops a.tmps j=(match a.tmps.getD g undef with | .bool b=>some b | _=>none):=by
 unfold gst at hg
 simp only[yielded,hg,Option.bind_some,Array.getD_eq_getD_getElem?]
 cases a.tmps[g]? with
 | none=>simp[undef]
 | some v=>cases v<;>rfl

theorem sGo_{P:Program}{nt:Nat}{ops:Array Oper}{st:St}{o:Oper}{K:Rec→Prop}{i:Nat}(ho:ops[i]?=some o)(h:stepG P nt ops st o K):
 ∃ r,VOp P nt ops i st r∧r.fresh st∧K r:=by
 unfold stepG at h
 split at h
 ·rename_i hg
  obtain⟨r,h1,h2,h3⟩:=rOo_ h
  refine⟨r,?_,h2,h3⟩
  intro κ st' a w hnt hs hf hR next Q hn
  unfold wpOp
  simp only[ho,Region.wanted,hg,if_true]
  exact .inl (h1 κ st' a w hnt hs hf hR next Q hn)
 ·rename_i j want hg
  split at h
  ·rename_i g hgs
   unfold guardK at h
   have skip:(∀ d,o.dst=some d→d<nt)→(∀ κ st' a w,κ.nt=nt→st'.s g=st.s g→R κ st' a w→Region.wanted o (yielded ops a.tmps)=false)→VOp P nt ops i st { rs:=[g],us:=o.dst.toList.map fun d=>(d,.tup []) }:=by
    intro hd hw κ st' a w hnt hs hf hR next Q hn
    unfold wpOp
    simp only[ho,hw κ st' a w hnt (hs.1 g (by simp)) hR,Bool.false_eq_true,if_false]
    refine hn _ _ ?_
    cases hdd:o.dst with
    | none=>simpa[St.app,updAll,apn_] using hR
    | some d=>
     obtain⟨G,hG⟩:=hR
     have:=R.set (v:=undef) (sv:=.tup []) G hG (by rw[hnt]; exact hd d hdd) rfl ⟨[],rfl,by simp[CVals]⟩
     simpa[St.app,updAll,St.set] using this
   have exec:∀ (K':Rec→Prop),recO P nt st o K'→(∀ κ st' a w,κ.nt=nt→st'.s g=st.s g→R κ st' a w→Region.wanted o (yielded ops a.tmps)=true)→∃ r,VOp P nt ops i st { r with rs:=g::r.rs }∧Rec.fresh { r with rs:=g::r.rs } st∧K' r:=by
    intro K' hK hw
    obtain⟨r,h1,h2,h3⟩:=rOo_ hK
    refine⟨r,?_,h2,h3⟩
    intro κ st' a w hnt hs hf hR next Q hn
    unfold wpOp
    simp only[ho,hw κ st' a w hnt (hs.1 g (by simp)) hR,if_true]
    exact .inl (h1 κ st' a w hnt ⟨fun k hk=>hs.1 k (by simp[hk]),hs.2⟩ hf hR next Q hn)
   have bool:∀ b,st.s g=.val (.pv (.lit (.bool b)))→∀ κ st' a w,κ.nt=nt→st'.s g=st.s g→R κ st' a w→yielded ops a.tmps j=some b:=by
    intro b hb κ st' a w _ hs hR
    obtain⟨G,hG⟩:=hR
    have h1:=hG.slots g
    rw[hs,hb] at h1
    have h2:a.tmps.getD g undef=.bool b:=by
     rcases h1 with⟨h1,_⟩ | ⟨_,h1,_⟩
     ·simp[CV.isAgg] at h1
     ·simp only[RepCV,RepC] at h1; simpa using h1.1
    rw[yo_ hgs,h2]
   split at h
   ·rename_i b hb
    cases want with
    | true=>
     simp only[if_true] at h
     cases b with
     | true=>
      obtain⟨r,h1,h2,h3⟩:=exec _ (h.1 rfl) (fun κ st' a w e1 e2 e3=>by simp[Region.wanted,hg,bool true hb κ st' a w e1 e2 e3])
      exact⟨_,h1,h2,h3⟩
     | false=>
      obtain⟨h1,h2⟩:=h.2 rfl
      exact⟨_,skip h1 (fun κ st' a w e1 e2 e3=>by simp[Region.wanted,hg,bool false hb κ st' a w e1 e2 e3]),fn_ rfl rfl,h2⟩
    | false=>
     simp only[Bool.false_eq_true,if_false] at h
     cases b with
     | true=>
      obtain⟨h1,h2⟩:=h.1 rfl
      exact⟨_,skip h1 (fun κ st' a w e1 e2 e3=>by simp[Region.wanted,hg,bool true hb κ st' a w e1 e2 e3]),fn_ rfl rfl,h2⟩
     | false=>
      obtain⟨r,h1,h2,h3⟩:=exec _ (h.2 rfl) (fun κ st' a w e1 e2 e3=>by simp[Region.wanted,hg,bool false hb κ st' a w e1 e2 e3])
      exact⟨_,h1,h2,h3⟩
   ·rename_i hb
    refine⟨_,skip h.1 (fun κ st' a w _ e2 e3=>?_),fn_ rfl rfl,h.2⟩
    obtain⟨G,hG⟩:=e3
    have h1:=hG.slots g
    rw[e2,hb] at h1
    obtain⟨vs,h2,h3⟩:=h1
    simp only[CVals] at h3
    subst h3
    simp[Region.wanted,hg,yo_ hgs,h2]
   ·exact h.elim
  ·exact h.elim

def wpD(P:Program)(nt:Nat)(ops:Array Oper):List Oper→St→List Rec→(List Rec→St→Prop)→Prop
 | [],st,acc,K=>K acc.reverse st
 | o::os,st,acc,K=>stepG P nt ops st o fun r=>wpD P nt ops os (st.app r) (r::acc) K

inductive Traj(P:Program)(nt:Nat)(ops:Array Oper):Nat→St→List Rec→St→Prop
 | nil (i st):Traj P nt ops i st [] st
 | cons {i st r rs st'}:VOp P nt ops i st r→r.fresh st→Traj P nt ops (i+1) (st.app r) rs st'→Traj P nt ops i st (r::rs) st'

theorem wpD_ok{P:Program}{nt:Nat}{ops:Array Oper}{K:List Rec→St→Prop}:∀ (os:List Oper) (i:Nat) (st:St) (acc:List Rec),(∀ j,os[j]?=ops[i+j]?)→wpD P nt ops os st acc K→
 ∃ recs st',Traj P nt ops i st recs st'∧recs.length=os.length∧K (acc.reverse++recs) st'
 | [],i,st,acc,_,h=>⟨[],st,.nil i st,rfl,by simpa[wpD] using h⟩
 | o::os,i,st,acc,ho,h=>by
  simp only[wpD] at h
  obtain⟨r,h1,h2,h3⟩:=sGo_ (i:=i) (by simpa using (ho 0).symm) h
  obtain⟨recs,st',g1,g2,g3⟩:=wpD_ok os (i+1) (st.app r) (r::acc) (fun j=>by have:=ho (j+1); simpa[Nat.add_assoc,Nat.add_comm 1 j] using this) h3
  exact⟨r::recs,st',.cons h1 h2 g1,by simp[g2],by simpa using g3⟩

theorem Rsr_(r:Rec)(st:St):r.same st st:=⟨fun _ _=>rfl,fun _ _=>rfl⟩

theorem Traj.seq{P:Program}{nt:Nat}{ops:Array Oper}{Q:Exit→Act→World→Prop}{i:Nat}{st st':St}{recs:List Rec}(h:Traj P nt ops i st recs st'):
 ∀ κ a w,κ.nt=nt→R κ st a w→(∀ a' w',R κ st' a' w'→Q .normal a' w')→wpOps P ops Q (List.range' i recs.length) a w:=by
 induction h with
 | nil i st=>intro κ a w _ hR hQ; simpa[wpOps] using hQ a w hR
 | cons h1 h2 _ ih=>
  intro κ a w hnt hR hQ
  rw[List.length_cons,List.range'_succ,wpOps_cons]
  exact h1 κ _ a w hnt (Rsr_ _ _) h2 hR _ _ (fun a' w' hR'=>ih κ a' w' hnt hR' hQ)

def appS:St→Nat→List Rec→(Nat→Bool)→St
 | st,_,[],_=>st
 | st,i,r::rs,S=>appS (if S i then st.app r else st) (i+1) rs S

theorem uAc_{α:Type}:∀ (l:List (Nat×α)) (f g:Nat→α) (k:Nat),f k=g k→updAll f l k=updAll g l k
 | [],_,_,_,h=>h
 | (j,v)::l,f,g,k,h=>by
  simp only[updAll]
  have h':upd f j v k=upd g j v k:=by simp[upd,h]
  exact uAc_ l _ _ k h'
theorem uAk_{α:Type}:∀ (l:List (Nat×α)) (f g:Nat→α) (k:Nat),k∈l.map (·.1)→updAll f l k=updAll g l k
 | [],_,_,_,h=>by simp at h
 | (j,v)::l,f,g,k,h=>by
  simp only[updAll]
  by_cases hk:k=j
  ·exact uAc_ l _ _ k (by simp[upd,hk])
  ·exact uAk_ l _ _ k (by simpa[hk] using h)
theorem uAo_{α:Type}:∀ (l:List (Nat×α)) (f:Nat→α) (k:Nat),updAll f l k=f k∨(k,updAll f l k)∈l
 | [],_,_=>.inl rfl
 | (j,v)::l,f,k=>by
  simp only[updAll]
  rcases uAo_ l (upd f j v) k with h | h
  ·by_cases hk:k=j
   ·right; rw[h]; simp[upd,hk]
   ·left; rw[h]; simp[upd,hk]
  ·exact .inr (List.mem_cons_of_mem _ h)

theorem aSc_(k:Nat):∀ (rs:List Rec) (i:Nat) (st st':St) (S S':Nat→Bool),st.s k=st'.s k→(∀ j r,rs[j]?=some r→S (i+j)≠S' (i+j)→k∉r.us.map (·.1))→(appS st i rs S).s k=(appS st' i rs S').s k
 | [],_,_,_,_,_,h,_=>h
 | r::rs,i,st,st',S,S',h,hd=>by
  simp only[appS]
  refine aSc_ k rs (i+1) _ _ S S' ?_ (fun j r' hr hne=>hd (j+1) r' (by simpa using hr) (by simpa[Nat.add_assoc,Nat.add_comm 1 j] using hne))
  by_cases e:S i=S' i
  ·rw[e]; split
   ·exact uAc_ _ _ _ _ h
   ·exact h
  ·have hk:=hd 0 r (by simp) (by simpa using e)
   have key:∀ s:St,(s.app r).s k=s.s k:=fun s=>uAn_ _ _ _ hk
   split<;>split<;>simp only[key,h]
theorem aSc_1(k:Nat):∀ (rs:List Rec) (i:Nat) (st st':St) (S S':Nat→Bool),st.o k=st'.o k→(∀ j r,rs[j]?=some r→S (i+j)≠S' (i+j)→k∉r.uo.map (·.1))→(appS st i rs S).o k=(appS st' i rs S').o k
 | [],_,_,_,_,_,h,_=>h
 | r::rs,i,st,st',S,S',h,hd=>by
  simp only[appS]
  refine aSc_1 k rs (i+1) _ _ S S' ?_ (fun j r' hr hne=>hd (j+1) r' (by simpa using hr) (by simpa[Nat.add_assoc,Nat.add_comm 1 j] using hne))
  by_cases e:S i=S' i
  ·rw[e]; split
   ·exact uAc_ _ _ _ _ h
   ·exact h
  ·have hk:=hd 0 r (by simp) (by simpa using e)
   have key:∀ s:St,(s.app r).o k=s.o k:=fun s=>uAn_ _ _ _ hk
   split<;>split<;>simp only[key,h]

theorem aSl_(k:Nat)(f:Nat→SlotV):∀ (rs:List Rec) (i j:Nat) (st:St) (S:Nat→Bool) (rj:Rec),rs[j]?=some rj→S (i+j)=true→k∈rj.us.map (·.1)→
 (∀ m r,rs[m]?=some r→j<m→S (i+m)=true→k∉r.us.map (·.1))→(appS st i rs S).s k=updAll f rj.us k
 | [],_,_,_,_,_,h,_,_,_=>by simp at h
 | r::rs,i,0,st,S,rj,h,hS,hk,hl=>by
  simp at h; subst h
  simp only[appS]
  simp only[Nat.add_zero] at hS
  rw[hS,if_pos rfl]
  have:(appS (st.app r) (i+1) rs S).s k=(appS (st.app r) (i+1) rs (fun _=>false)).s k:=by
   refine aSc_ k rs (i+1) _ _ S _ rfl (fun m r' hr hne=>?_)
   have:S (i+(m+1))=true:=by simpa[Nat.add_assoc,Nat.add_comm 1 m] using hne
   exact hl (m+1) r' (by simpa using hr) (by omega) this
  rw[this]
  have h0:∀ (rs:List Rec) (i:Nat) (s:St),appS s i rs (fun _=>false)=s:=by
   intro rs; induction rs with
   | nil=>intros; rfl
   | cons q qs ih=>intro i s; simp only[appS]; simpa using ih (i+1) s
  rw[h0]
  exact uAk_ _ _ _ _ hk
 | r::rs,i,j+1,st,S,rj,h,hS,hk,hl=>by
  simp only[appS]
  exact aSl_ k f rs (i+1) j _ S rj (by simpa using h) (by simpa[Nat.add_assoc,Nat.add_comm 1 j] using hS) hk
   (fun m r' hr hj hm=>hl (m+1) r' (by simpa using hr) (by omega) (by simpa[Nat.add_assoc,Nat.add_comm 1 m] using hm))
theorem aSl_1(k:Nat)(f:Nat→Option (Nat×List PV)):∀ (rs:List Rec) (i j:Nat) (st:St) (S:Nat→Bool) (rj:Rec),rs[j]?=some rj→S (i+j)=true→k∈rj.uo.map (·.1)→
 (∀ m r,rs[m]?=some r→j<m→S (i+m)=true→k∉r.uo.map (·.1))→(appS st i rs S).o k=updAll f rj.uo k
 | [],_,_,_,_,_,h,_,_,_=>by simp at h
 | r::rs,i,0,st,S,rj,h,hS,hk,hl=>by
  simp at h; subst h
  simp only[appS]
  simp only[Nat.add_zero] at hS
  rw[hS,if_pos rfl]
  have:(appS (st.app r) (i+1) rs S).o k=(appS (st.app r) (i+1) rs (fun _=>false)).o k:=by
   refine aSc_1 k rs (i+1) _ _ S _ rfl (fun m r' hr hne=>?_)
   have:S (i+(m+1))=true:=by simpa[Nat.add_assoc,Nat.add_comm 1 m] using hne
   exact hl (m+1) r' (by simpa using hr) (by omega) this
  rw[this]
  have h0:∀ (rs:List Rec) (i:Nat) (s:St),appS s i rs (fun _=>false)=s:=by
   intro rs; induction rs with
   | nil=>intros; rfl
   | cons q qs ih=>intro i s; simp only[appS]; simpa using ih (i+1) s
  rw[h0]
  exact uAk_ _ _ _ _ hk
 | r::rs,i,j+1,st,S,rj,h,hS,hk,hl=>by
  simp only[appS]
  exact aSl_1 k f rs (i+1) j _ S rj (by simpa using h) (by simpa[Nat.add_assoc,Nat.add_comm 1 j] using hS) hk
   (fun m r' hr hj hm=>hl (m+1) r' (by simpa using hr) (by omega) (by simpa[Nat.add_assoc,Nat.add_comm 1 m] using hm))

theorem aSf_(k:Nat):∀ (rs:List Rec) (i:Nat) (st:St) (S:Nat→Bool),(appS st i rs S).s k=st.s k∨∃ j r,rs[j]?=some r∧S (i+j)=true∧(k,(appS st i rs S).s k)∈r.us
 | [],_,_,_=>.inl rfl
 | r::rs,i,st,S=>by
  simp only[appS]
  rcases aSf_ k rs (i+1) (if S i=true then st.app r else st) S with h | ⟨j,r',h1,h2,h3⟩
  ·rw[h]
   split
   ·rename_i hS
    rcases uAo_ r.us st.s k with h' | h'
    ·exact .inl h'
    ·exact .inr ⟨0,r,by simp,by simpa using hS,h'⟩
   ·exact .inl rfl
  ·exact .inr ⟨j+1,r',by simpa using h1,by simpa[Nat.add_assoc,Nat.add_comm 1 j] using h2,h3⟩
theorem aSf_1(k:Nat):∀ (rs:List Rec) (i:Nat) (st:St) (S:Nat→Bool),(appS st i rs S).o k=st.o k∨∃ j r,rs[j]?=some r∧S (i+j)=true∧(k,(appS st i rs S).o k)∈r.uo
 | [],_,_,_=>.inl rfl
 | r::rs,i,st,S=>by
  simp only[appS]
  rcases aSf_1 k rs (i+1) (if S i=true then st.app r else st) S with h | ⟨j,r',h1,h2,h3⟩
  ·rw[h]
   split
   ·rename_i hS
    rcases uAo_ r.uo st.o k with h' | h'
    ·exact .inl h'
    ·exact .inr ⟨0,r,by simp,by simpa using hS,h'⟩
   ·exact .inl rfl
  ·exact .inr ⟨j+1,r',by simpa using h1,by simpa[Nat.add_assoc,Nat.add_comm 1 j] using h2,h3⟩

def dep(ops:Array Oper)(j i:Nat):Bool:=((ops[j]?).map fun o=>o.after.any fun e=>Region.binds .any e&&e.on==i).getD false

def dep2(ops:Array Oper)(j i:Nat):Bool:=(List.range ops.size).any fun k=>dep ops j k&&dep ops k i

def indep(r q:Rec):Bool:=
 (r.us.all fun x=>!q.rs.contains x.1&&q.us.all fun y=>y.1 != x.1)&&(q.us.all fun x=>!r.rs.contains x.1)&&
 (r.uo.all fun x=>!q.ro.contains x.1&&q.uo.all fun y=>y.1 != x.1)&&(q.uo.all fun x=>!r.ro.contains x.1)
def fB_1(r q:Rec):Bool:=(r.fr.all fun x=>q.us.all fun y=>y.2.noR x)&&(r.fc.all fun c=>(q.us.all fun y=>y.2.noC c)&&q.uo.all fun y=>y.1 != c)

def pairsB(ops:Array Oper)(recs:List Rec):Bool:=
 recs.zipIdx.all fun (r,i)=>recs.zipIdx.all fun (q,j)=>i==j||((!decide (i<j)||dep ops j i||indep r q||dep2 ops j i)&&(dep ops j i||fB_1 r q||dep2 ops j i))
def edgesB(ops:Array Oper):Bool:=ops.toList.zipIdx.all fun (o,i)=>o.after.all fun e=>!Region.binds .any e||decide (e.on<i)

structure DrawOk(ops:Array Oper)(st:St)(recs:List Rec):Prop where
 edges:edgesB ops=true
 pairs:pairsB ops recs=true
 fresh:∀ r∈recs,(∀ x∈r.fr,st.noR x)∧∀ c∈r.fc,st.noC c

theorem Traj.at{P:Program}{nt:Nat}{ops:Array Oper}{i:Nat}{st st':St}{recs:List Rec}(h:Traj P nt ops i st recs st'):∀ (S:Nat→Bool) (j:Nat) (r:Rec),recs[j]?=some r→(∀ m,S (i+m)=decide (m<j))→
 VOp P nt ops (i+j) (appS st i recs S) r:=by
 induction h with
 | nil=>intro S j r h; simp at h
 | cons h1 h2 h3 ih=>
  rename_i i st r0 rs st'
  intro S j r hj hS
  cases j with
  | zero=>
   simp at hj; subst hj
   have:∀ (rs:List Rec) (i:Nat) (s:St) (S:Nat→Bool),(∀ m,S (i+m)=false)→appS s i rs S=s:=by
    intro rs; induction rs with
    | nil=>intros; rfl
    | cons q qs ih=>intro i s S hS; simp only[appS]; rw[show S i=false by simpa using hS 0]; simpa using ih (i+1) s S (fun m=>by simpa[Nat.add_assoc,Nat.add_comm 1 m] using hS (m+1))
   rw[this _ _ _ _ (fun m=>by simpa using hS m)]
   simpa using h1
  | succ j=>
   simp only[appS]
   rw[show S i=true by simpa using hS 0,if_pos rfl]
   have:=ih S j r (by simpa using hj) (fun m=>by have:=hS (m+1); simpa[Nat.add_assoc,Nat.add_comm 1 m] using this)
   simpa[Nat.add_assoc,Nat.add_comm 1 j] using this

theorem Traj.last{P:Program}{nt:Nat}{ops:Array Oper}{i:Nat}{st st':St}{recs:List Rec}(h:Traj P nt ops i st recs st'):∀ (S:Nat→Bool),(∀ m,m<recs.length→S (i+m)=true)→appS st i recs S=st':=by
 induction h with
 | nil=>intro S _; rfl
 | cons h1 h2 h3 ih=>
  rename_i i st r0 rs st'
  intro S hS
  simp only[appS]
  rw[show S i=true by simpa using hS 0 (by simp),if_pos rfl]
  exact ih S (fun m hm=>by have:=hS (m+1) (by simpa using hm); simpa[Nat.add_assoc,Nat.add_comm 1 m] using this)

theorem St.ext'{a b:St}(h1:∀ k,a.s k=b.s k)(h2:∀ k,a.o k=b.o k):a=b:=by
 cases a; cases b; simp only[St.mk.injEq]; exact⟨funext h1,funext h2⟩

theorem zIg_{α:Type}{l:List α}{i:Nat}{x:α}(h:l[i]?=some x):(x,i)∈l.zipIdx:=by
 rw[List.mem_zipIdx_iff_getElem?]; simpa using h

section
variable{P:Program}{nt:Nat}{ops:Array Oper}{st st':St}{recs:List Rec}

theorem as_6(ht:Traj P nt ops 0 st recs st')(hok:DrawOk ops st recs){S:Nat→Bool}{j:Nat}{r:Rec}(hj:recs[j]?=some r)(hSj:S j=false)
 (hpre:∀ i,dep ops j i=true→S i=true) (hclosed:∀ i,S i=true→∀ m,dep ops i m=true→S m=true) (_:∀ i,S i=true→i<recs.length):
 VOp P nt ops j (appS st 0 recs (fun m=>decide (m<j))) r∧r.same (appS st 0 recs (fun m=>decide (m<j))) (appS st 0 recs S)∧r.fresh (appS st 0 recs S)∧
  (appS st 0 recs S).app r=appS st 0 recs (fun m=>S m||m==j):=by
 have hP:=hok.pairs
 unfold pairsB at hP
 rw[a8] at hP
 have pair:∀ i q,recs[i]?=some q→∀ m p,recs[m]?=some p→i≠m→((!decide (i<m)||dep ops m i||indep q p||dep2 ops m i)=true∧(dep ops m i||fB_1 q p||dep2 ops m i)=true):=by
  intro i q hi m p hm hne
  have h1:=hP _ (zIg_ hi)
  simp only[a8] at h1
  have h2:=h1 _ (zIg_ hm)
  simp only[Bool.or_eq_true,beq_iff_eq,hne,false_or,aD] at h2
  simpa[Bool.or_eq_true] using h2
 have hpre2:∀ i,dep2 ops j i=true→S i=true:=fun i h=>by
  unfold dep2 at h
  rw[List.any_eq_true] at h
  obtain⟨k,_,h⟩:=h
  rw[aD] at h
  exact hclosed k (hpre k h.1) i h.2
 have hclosed2:∀ i,S i=true→∀ m,dep2 ops i m=true→S m=true:=fun i hS m h=>by
  unfold dep2 at h
  rw[List.any_eq_true] at h
  obtain⟨k,_,h⟩:=h
  rw[aD] at h
  exact hclosed k (hclosed i hS k h.1) m h.2
 -- an operation whose being there makes a difference is apart from 'j'
 have apart:∀ m q,recs[m]?=some q→S m≠decide (m<j)→m≠j→(indep q r=true∨indep r q=true):=by
  intro m q hm hne hmj
  rcases Nat.lt_or_ge m j with h | h
  ·have h1:=(pair m q hm j r hj hmj).1
   simp only[h,decide_true,Bool.not_true,Bool.false_or,Bool.or_eq_true] at h1
   rcases h1 with (h1 | h1) | h1
   ·have:=hpre m h1; simp[this,h] at hne
   ·exact .inl h1
   ·have:=hpre2 m h1; simp[this,h] at hne
  ·have hlt':j<m:=by omega
   have h1:=(pair j r hj m q hm (Ne.symm hmj)).1
   simp only[hlt',decide_true,Bool.not_true,Bool.false_or,Bool.or_eq_true] at h1
   have hSm:S m=true:=by
    have:¬ m<j:=by omega
    simp only[this,decide_false,ne_eq,Bool.not_eq_false] at hne; exact hne
   rcases h1 with (h1 | h1) | h1
   ·have:=hclosed m hSm j h1
    rw[hSj] at this; cases this
   ·exact .inr h1
   ·have:=hclosed2 m hSm j h1
    rw[hSj] at this; cases this
 have noW_s:∀ (q:Rec),(indep q r=true∨indep r q=true)→∀ k,k∈r.rs→k∉q.us.map (·.1):=by
  intro q hq k hk hm
  obtain⟨⟨k',v⟩,h1,rfl⟩:=List.mem_map.1 hm
  rcases hq with hq | hq<;>simp only[indep,aD,a8,Bool.not_eq_true',List.contains_eq_mem,decide_eq_false_iff_not,bne_iff_ne] at hq
  ·exact(hq.1.1.1 _ h1).1 hk
  ·exact hq.1.1.2 _ h1 hk
 have noW_o:∀ (q:Rec),(indep q r=true∨indep r q=true)→∀ k,k∈r.ro→k∉q.uo.map (·.1):=by
  intro q hq k hk hm
  obtain⟨⟨k',v⟩,h1,rfl⟩:=List.mem_map.1 hm
  rcases hq with hq | hq<;>simp only[indep,aD,a8,Bool.not_eq_true',List.contains_eq_mem,decide_eq_false_iff_not,bne_iff_ne] at hq
  ·exact(hq.1.2 _ h1).1 hk
  ·exact hq.2 _ h1 hk
 refine⟨?_,⟨?_,?_⟩,⟨?_,?_⟩,?_⟩
 ·have:=ht.at (fun m=>decide (m<j)) j r hj (fun m=>by simp)
  simpa using this
 ·intro k hk
  refine aSc_ k recs 0 _ _ _ _ rfl (fun m q hm hne=>?_)
  simp only[Nat.zero_add] at hne
  by_cases hmj:m=j
  ·subst hmj; simp[hSj] at hne
  ·exact noW_s q (apart m q hm hne hmj) k hk
 ·intro k hk
  refine aSc_1 k recs 0 _ _ _ _ rfl (fun m q hm hne=>?_)
  simp only[Nat.zero_add] at hne
  by_cases hmj:m=j
  ·subst hmj; simp[hSj] at hne
  ·exact noW_o q (apart m q hm hne hmj) k hk
 ·intro x hx k
  rcases aSf_ k recs 0 st S with h | ⟨m,q,h1,h2,h3⟩
  ·rw[h]; exact(hok.fresh r (List.mem_of_getElem? hj)).1 x hx k
  ·simp only[Nat.zero_add] at h2
   have hmj:j≠m:=by intro e; subst e; rw[hSj] at h2; cases h2
   have h4:=(pair j r hj m q h1 hmj).2
   simp only[Bool.or_eq_true] at h4
   rcases h4 with (h4 | h4) | h4
   ·have:=hclosed m h2 j h4; rw[hSj] at this; cases this
   rotate_left
   ·have:=hclosed2 m h2 j h4; rw[hSj] at this; cases this
   ·simp only[fB_1,aD,a8] at h4
    exact h4.1 x hx _ h3
 ·intro c hc
  have hq:∀ m q,recs[m]?=some q→S m=true→(∀ y∈q.us,y.2.noC c=true)∧∀ y∈q.uo,y.1≠c:=by
   intro m q h1 h2
   have hmj:j≠m:=by intro e; subst e; rw[hSj] at h2; cases h2
   have h4:=(pair j r hj m q h1 hmj).2
   simp only[Bool.or_eq_true] at h4
   rcases h4 with (h4 | h4) | h4
   ·have:=hclosed m h2 j h4; rw[hSj] at this; cases this
   rotate_left
   ·have:=hclosed2 m h2 j h4; rw[hSj] at this; cases this
   ·simp only[fB_1,aD,a8,bne_iff_ne] at h4
    exact h4.2 c hc
  refine⟨?_,fun k=>?_⟩
  ·rcases aSf_1 c recs 0 st S with h | ⟨m,q,h1,h2,h3⟩
   ·rw[h]; exact((hok.fresh r (List.mem_of_getElem? hj)).2 c hc).1
   ·exact absurd rfl ((hq m q h1 (by simpa using h2)).2 _ h3)
  ·rcases aSf_ k recs 0 st S with h | ⟨m,q,h1,h2,h3⟩
   ·rw[h]; exact((hok.fresh r (List.mem_of_getElem? hj)).2 c hc).2 k
   ·exact(hq m q h1 (by simpa using h2)).1 _ h3
 ·-- the later ones that are there do not write where 'j' writes
  have later:∀ m q,recs[m]?=some q→j<m→S m=true→indep r q=true:=by
   intro m q hm hlt' hSm
   have h1:=(pair j r hj m q hm (by omega)).1
   simp only[hlt',decide_true,Bool.not_true,Bool.false_or,Bool.or_eq_true] at h1
   rcases h1 with (h1 | h1) | h1
   ·have:=hclosed m hSm j h1; rw[hSj] at this; cases this
   ·exact h1
   ·have:=hclosed2 m hSm j h1; rw[hSj] at this; cases this
  refine St.ext' (fun k=>?_) (fun k=>?_)
  ·by_cases hk:k∈r.us.map (·.1)
   ·rw[aSl_ k (appS st 0 recs S).s recs 0 j st _ r hj (by simp) hk (fun m q hm hlt' hSm hkq=>?_)]
    ·rfl
    ·simp only[Nat.zero_add,Bool.or_eq_true,beq_iff_eq] at hSm
     have hi:=later m q hm hlt' (hSm.resolve_right (by omega))
     obtain⟨⟨k1,v1⟩,g1,rfl⟩:=List.mem_map.1 hk
     obtain⟨⟨k2,v2⟩,g2,e⟩:=List.mem_map.1 hkq
     simp only[indep,aD,a8,Bool.not_eq_true',bne_iff_ne] at hi
     exact(hi.1.1.1 _ g1).2 _ g2 e
   ·have e1:((appS st 0 recs S).app r).s k=(appS st 0 recs S).s k:=uAn_ _ _ _ hk
    rw[e1]
    refine aSc_ k recs 0 _ _ _ _ rfl (fun m q hm hne=>?_)
    simp only[Nat.zero_add] at hne
    by_cases hmj:m=j
    ·subst hmj; rw[hj] at hm; cases hm; exact hk
    ·simp[hmj] at hne
  ·by_cases hk:k∈r.uo.map (·.1)
   ·rw[aSl_1 k (appS st 0 recs S).o recs 0 j st _ r hj (by simp) hk (fun m q hm hlt' hSm hkq=>?_)]
    ·rfl
    ·simp only[Nat.zero_add,Bool.or_eq_true,beq_iff_eq] at hSm
     have hi:=later m q hm hlt' (hSm.resolve_right (by omega))
     obtain⟨⟨k1,v1⟩,g1,rfl⟩:=List.mem_map.1 hk
     obtain⟨⟨k2,v2⟩,g2,e⟩:=List.mem_map.1 hkq
     simp only[indep,aD,a8,Bool.not_eq_true',bne_iff_ne] at hi
     exact(hi.1.2 _ g1).2 _ g2 e
   ·have e1:((appS st 0 recs S).app r).o k=(appS st 0 recs S).o k:=uAn_ _ _ _ hk
    rw[e1]
    refine aSc_1 k recs 0 _ _ _ _ rfl (fun m q hm hne=>?_)
    simp only[Nat.zero_add] at hne
    by_cases hmj:m=j
    ·subst hmj; rw[hj] at hm; cases hm; exact hk
    ·simp[hmj] at hne

theorem di_{j i:Nat}:dep ops j i=true↔∃ o,ops[j]?=some o∧∃ e∈o.after,Region.binds .any e=true∧e.on=i:=by
 unfold dep
 cases ops[j]? with
 | none=>simp
 | some o=>
  simp only[Option.map_some,Option.getD_some,Option.some.injEq,exists_eq_left',Array.any_eq_true,aD,beq_iff_eq]
  constructor
  ·rintro ⟨k,hk,h1,h2⟩; exact⟨_,Array.getElem_mem hk,h1,h2⟩
  ·rintro ⟨e,he,h1,h2⟩
   obtain⟨k,hk,rfl⟩:=Array.mem_iff_getElem.1 he
   exact⟨k,hk,h1,h2⟩

theorem ao_2{Q:Exit→Act→World→Prop}(ht:Traj P nt ops 0 st recs st')(hlen:recs.length=ops.size)(hok:DrawOk ops st recs)(κ:Ctx)(hnt:κ.nt=nt)(hQ:∀ a w,R κ st' a w→Q .normal a w):
 ∀ (fuel:Nat) (listed:Array Bool) (a:Act) (w:World),listed.size=ops.size→listed.toList.count false=fuel→(∀ i,listed.getD i false=true→∀ m,dep ops i m=true→listed.getD m false=true)→
  R κ (appS st 0 recs (fun m=>listed.getD m false)) a w→wpAny P .any ops Q fuel listed a w:=by
 have hend:∀ (listed:Array Bool),listed.size=ops.size→Region.ready .any ops listed=[]→∀ m,m<recs.length→listed.getD m false=true:=by
  intro listed hsz hr m
  induction m using Nat.strongRecOn with
  | _ m ih=>
   intro hm
   cases hl:listed.getD m false with
   | true=>rfl
   | false=>
    exfalso
    have hlt:m<ops.size:=by rw[← hlen]; exact hm
    have:m∈Region.ready .any ops listed:=by
     rw[mem_ready]
     refine⟨?_,ops[m],by simp[hlt],fun e he hb=>?_⟩
     ·have h':m<listed.size:=by rw[hsz]; exact hlt
      simp only[Array.getD_eq_getD_getElem?,Array.getElem?_eq_getElem h',Option.getD_some] at hl ⊢
      exact hl
     ·have hE:=hok.edges
      unfold edgesB at hE
      rw[a8] at hE
      have h1:=hE (ops[m],m) (zIg_ (by simp[hlt]))
      rw[Array.all_eq_true_iff_forall_mem] at h1
      have h2:=h1 e he
      simp only[hb,Bool.not_true,Bool.false_or,decide_eq_true_eq] at h2
      exact ih e.on h2 (by omega)
    rw[hr] at this; cases this
 intro fuel
 induction fuel with
 | zero=>
  intro listed a w hsz hc hcl hR
  have hall:∀ m,m<ops.size→listed.getD m false=true:=by
   intro m hm
   have h':m<listed.size:=by rw[hsz]; exact hm
   have hnot:false∉listed.toList:=List.count_eq_zero.1 hc
   simp only[Array.getD_eq_getD_getElem?,Array.getElem?_eq_getElem h',Option.getD_some]
   cases hb:listed[m] with
   | true=>rfl
   | false=>exact absurd (by rw[← hb]; exact Array.mem_toList_iff.2 (Array.getElem_mem h')) hnot
  refine⟨?_,hQ a w ?_⟩
  ·rw[List.eq_nil_iff_forall_not_mem]
   intro j hj
   rw[mem_ready] at hj
   obtain⟨h0,o,ho,_⟩:=hj
   have hlt:=(Array.getElem?_eq_some_iff.1 ho).1
   have h1:=hall j hlt
   have h':j<listed.size:=by rw[hsz]; exact hlt
   simp only[Array.getD_eq_getD_getElem?,Array.getElem?_eq_getElem h',Option.getD_some] at h0 h1
   rw[h0] at h1; cases h1
  ·have:=ht.last (fun m=>listed.getD m false) (fun m hm=>by simpa using hall m (by omega))
   rwa [this] at hR
 | succ fuel ih=>
  intro listed a w hsz hc hcl hR
  refine⟨fun hr=>hQ a w ?_,fun j hj=>?_⟩
  ·have:=ht.last (fun m=>listed.getD m false) (fun m hm=>by simpa using hend listed hsz hr m hm)
   rwa [this] at hR
  ·rw[mem_ready] at hj
   obtain⟨h0,o,ho,hall⟩:=hj
   have hlt:=(Array.getElem?_eq_some_iff.1 ho).1
   have hl:j<listed.size:=by rw[hsz]; exact hlt
   have hf:listed[j]=false:=by simpa[Array.getD_eq_getD_getElem?,hl] using h0
   have hjr:recs[j]?=some recs[j]:=by simp[hlen,hlt]
   have hSj:listed.getD j false=false:=by simp[Array.getD_eq_getD_getElem?,hl,hf]
   have hpre:∀ i,dep ops j i=true→listed.getD i false=true:=by
    intro i hi
    obtain⟨o',ho',e,he,hb,rfl⟩:=di_.1 hi
    rw[ho] at ho'; cases ho'
    exact hall e he hb
   obtain⟨g1,g2,g3,g4⟩:=as_6 ht hok (S:=fun m=>listed.getD m false) hjr hSj hpre hcl (fun i hi=>by
    rcases Nat.lt_or_ge i listed.size with h' | h'
    ·omega
    ·simp[Array.getD_eq_getD_getElem?,Array.getElem?_eq_none h'] at hi)
   refine g1 κ _ a w hnt g2 g3 hR _ _ (fun a' w' hR'=>?_)
   rw[g4] at hR'
   have hset:∀ m,(listed.setIfInBounds j true).getD m false=(listed.getD m false||m==j):=by
    intro m
    simp only[Array.getD_eq_getD_getElem?,Array.getElem?_setIfInBounds]
    by_cases hm:j=m
    ·subst hm; simp[hl]
    ·simp[hm,Ne.symm hm]
   refine ih _ a' w' (by simpa using hsz) ?_ ?_ ?_
   ·rw[Array.toList_setIfInBounds,List.count_set (by simpa using hl)]
    simp only[Array.getElem_toList,hf,hc]
    simp
   ·intro i hi m hm
    rw[hset] at hi ⊢
    simp only[Bool.or_eq_true,beq_iff_eq] at hi ⊢
    rcases hi with hi | hi
    ·exact .inl (hcl i hi m hm)
    ·subst hi; exact .inl (hpre m hm)
   ·have:(fun m=>(listed.setIfInBounds j true).getD m false)=(fun m=>listed.getD m false||m==j):=funext hset
    rw[this]; exact hR'
end
end Go.Av
