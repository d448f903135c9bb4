/- A part of the proof: lemmas only; nothing is claimed here beyond what each lemma says. -/
import Derived.Test.YtkoghcphkdecoaaGreatGss
set_option linter.unusedSimpArgs false
set_option linter.unusedVariables false
set_option linter.defProp false
set_option maxRecDepth 4000
namespace Go.Proofs.YtkoghcphkdecoaaGreat
open Go.Av
open List renaming length_cons→aP,length_nil→aW
open Option renaming bind_some→ak
open SizeOf renaming sizeOf→aw
theorem sl_2{α β:Type}[Inhabited α][Inhabited β](e:β→α)(f:α→β→Option Bool)(xs:List α)(ys:List β)(h:xs.length=ys.length)(hf:∀ a b,f a b=some (same a (e b))):
 thenL (ρ:=Bool) (σ:=Unit) (forN (fun (i:Nat) (_:Unit)=>Option.bind (idx xs (i:Int)) fun v=>Option.bind (idx ys (i:Int)) fun w=>Option.bind (f v w) fun x=>bif x then some (.nx ()) else some (.rt false)) xs.length 0 ()) (fun _=>some true)=some (same xs (ys.map e)):=by
 have h':xs.length=(ys.map e).length:=by rw[List.length_map]; exact h
 rw[fNa_ (fun j=>same (xs.getD j default) ((ys.map e).getD j default)) (r0:=false) (fun j hj _=>?_),as_2 h']
 ·cases same xs (ys.map e)<;>rfl
 ·have g:j<ys.length:=h▸hj
  have e1:(ys.map e).getD j default=e (ys.getD j default):=by simp[List.getD,g]
  rw[igD_ hj,igD_ g,ak,ak,hf,ak,e1]
  cases same (xs.getD j default) (e (ys.getD j default))<;>rfl
theorem ldG_{α β:Type}(xs:List α)(ys:List β):decide ((xs.length:Int)=(ys.length:Int))=decide (xs.length=ys.length):=decide_eq_decide.2 (by omega)
theorem sameFs(a b:List Ft):isF_1 a b=some (same a b):=by
 unfold isF_1 sEF_
 rw[ld_]
 by_cases h:a.length=b.length
 ·rw[decide_eq_true h,cond_true,sl_ _ a b h (fun x _ y=>sFo_ x y)]; rfl
 ·rw[decide_eq_false h,sl_1 h]; rfl
theorem sS_1(a b:List Ft):slS_1 a b=some (same a b):=by
 unfold slS_1
 rw[ld_]
 by_cases h:a.length=b.length
 ·rw[decide_eq_true h,cond_true,sl_ _ a b h (fun x _ y=>lSo_ x y)]
 ·rw[decide_eq_false h,sl_1 h]; rfl
theorem Sa.same_u(a b:Sa):same a b=(same a.Left b.Left&&same a.Right b.Right):=by
 rw[Bool.eq_iff_iff,Bool.and_eq_true,si_,si_,si_]
 cases a; cases b
 exact⟨fun h=>by cases h; exact⟨rfl,rfl⟩,fun h=>by obtain⟨h1,h2⟩:=h; simp only at h1 h2; rw[h1,h2]⟩
theorem sSi_(a b:Sa):isS_ a b=some (same a b):=by
 unfold isS_
 rw[sameFs,sameFs,Sa.same_u]
 simp only[ak]
 cases same a.Left b.Left<;>rfl
theorem sSs_(a b:Sa):slS_6 a b=some (same a b):=by
 unfold slS_6
 rw[sS_1,sS_1,Sa.same_u]
 simp only[ak]
 cases same a.Left b.Left<;>rfl
theorem vSV_{s:Sa}(h:validS s=true):Vl s.Left 10∧Vl s.Right 10:=by
 unfold validS at h
 simp only[Bool.and_eq_true,decide_eq_true_eq,List.all_eq_true] at h
 exact⟨⟨h.1.2,h.1.1⟩,⟨h.2.2,h.2.1⟩⟩
structure NodeOk(d:Dt):Prop where
 valid:validS d.Sequent=true
 rule:∃ xs,ia_ d.Sequent d=some (xs,true)∧xs.length≤2∧(∀ x∈xs,Vl x.Left 2∧Vl x.Right 2)∧d.Parts.map Dt.Sequent=xs.map (prem d.Sequent d)
 parts:∀ p∈d.Parts,validS p.Sequent=true
theorem no_(d:Dt)(hok:d.Ok)(h1:d.Sequent.tot≤1048576)(h2:d.Term.tot≤1048576)(h3:d.Cut.tot≤1048576):∃ b,iiR_ d=some b∧slN_5 d=some b∧(b=true→NodeOk d):=by
 have hu:=hok.u
 unfold iiR_ slN_5 iPO_
 rw[vSi_ _ hu.2.1 (by omega),vSs_ _ hu.2.1 (by omega)]
 simp only[ak]
 cases hv:validS d.Sequent
 ·exact⟨false,rfl,rfl,fun h=>(nomatch h)⟩
 obtain⟨vl,vr⟩:=vSV_ hv
 obtain⟨xs,b,L,a1,a2,a3,a4⟩:=ro_1 d.Sequent d vl vr hu.2.2.2.1 (by omega) hu.2.2.2.2.1 (by omega)
 rw[cond_true,cond_true,ip_1 vl vr a1 (fun hb=>(a3 hb).2) (by omega),sp_1 a2 (fun hb x hx=>by
  obtain⟨e1,e2⟩:=a3 hb
  rw[e1] at hx
  obtain⟨y,hy,rfl⟩:=List.mem_map.1 hx
  exact po_ vl vr (e2 y hy).1 (e2 y hy).2)]
 simp only[ak]
 cases b
 ·exact⟨false,rfl,rfl,fun h=>(nomatch h)⟩
 obtain⟨e1,e2⟩:=a3 rfl
 rw[← e1]
 cases hg:L.all validS
 ·exact⟨false,rfl,rfl,fun h=>(nomatch h)⟩
 simp only[Bool.and_self,cond_true]
 unfold sEF_1
 rw[ldG_]
 by_cases hlen:L.length=d.Parts.length
 ·rw[decide_eq_true hlen,cond_true,cond_true,sl_2 Dt.Sequent (fun y0 y1=>iiR_1 y0 y1) L d.Parts hlen (fun a b=>by unfold iiR_1; rw[sSi_]; rfl),
   sl_2 Dt.Sequent (fun y0 y1=>slS_6 y0 y1.Sequent) L d.Parts hlen (fun a b=>sSs_ _ _)]
  refine⟨_,rfl,rfl,fun h=>?_⟩
  have h:=si_.1 h
  refine⟨hv,⟨xs,a1,a4,e2,by rw[← h,e1]⟩,fun p hp=>?_⟩
  have:p.Sequent∈L:=by rw[h]; exact List.mem_map_of_mem hp
  exact List.all_eq_true.1 hg _ this
 ·rw[decide_eq_false hlen]
  exact⟨false,rfl,rfl,fun h=>(nomatch h)⟩
noncomputable def nodeB(d:Dt):Bool:=slN_5 d==some true
mutual
def Dt.bd:Dt→Prop
 | .mk _ s _ t c l=>s.tot≤1048576∧t.tot≤1048576∧c.tot≤1048576∧Db_ l
def Db_:List Dt→Prop
 | []=>True
 | a::l=>a.bd∧Db_ l
end
theorem Dbi_(l:List Dt):Db_ l↔∀ a∈l,a.bd:=by
 induction l with
 | nil=>simp[Db_]
 | cons a l ih=>rw[Db_,ih]; simp
theorem Dbu_(a:Dt):a.bd↔a.Sequent.tot≤1048576∧a.Term.tot≤1048576∧a.Cut.tot≤1048576∧∀ p∈a.Parts,p.bd:=by cases a; rw[Dt.bd,Dbi_]; exact Iff.rfl
theorem Dpo_{d p:Dt}(hok:d.Ok)(hp:p∈d.Parts):p.Ok:=hok.u.2.2.2.2.2.2 p hp
theorem Dpt_{d p:Dt}(hp:p∈d.Parts):p.tot+1≤d.tot:=by
 rw[Dt.tot_u d]
 have:=tm_ Dt.tot hp
 omega
theorem Dt.tot_bd(d:Dt):d.tot≤1048576→d.bd:=by
 refine Dt.ind' (M:=fun d=>d.tot≤1048576→d.bd) (fun d ih ht=>?_) d
 rw[Dbu_]
 refine⟨?_,?_,?_,fun p hp=>ih p hp (by have:=Dpt_ hp; omega)⟩
 all_goals (rw[Dt.tot_u] at ht; omega)
theorem nBb_{d:Dt}(hok:d.Ok)(hb:d.bd):iiR_ d=some (nodeB d)∧slN_5 d=some (nodeB d)∧(nodeB d=true→NodeOk d):=by
 rw[Dbu_] at hb
 obtain⟨b,h1,h2,h3⟩:=no_ d hok hb.1 hb.2.1 hb.2.2.1
 have:nodeB d=b:=by unfold nodeB; rw[h2]; cases b<;>rfl
 rw[this]; exact⟨h1,h2,h3⟩
theorem nBe_{d:Dt}(hok:d.Ok)(ht:d.tot≤1048576):iiR_ d=some (nodeB d)∧slN_5 d=some (nodeB d)∧(nodeB d=true→NodeOk d):=nBb_ hok (d.tot_bd ht)
mutual
def Dt.cnt:Dt→Nat
 | .mk _ _ _ _ _ l=>1+Dt.cnts l
def Dt.cnts:List Dt→Nat
 | []=>0
 | a::l=>a.cnt+Dt.cnts l
end
theorem Dt.cnts_eq(l:List Dt):Dt.cnts l=(l.map Dt.cnt).sum:=by
 induction l with
 | nil=>rfl
 | cons a l ih=>rw[Dt.cnts,ih,List.map_cons,List.sum_cons]
theorem Dt.cnt_u(a:Dt):a.cnt=1+(a.Parts.map Dt.cnt).sum:=by cases a; rw[Dt.cnt,Dt.cnts_eq]; rfl
theorem Dt.cnt_tot(t:Dt):t.cnt≤1+t.tot:=by
 refine Dt.ind' (M:=fun t=>t.cnt≤1+t.tot) (fun t ih=>?_) t
 rw[Dt.cnt_u,Dt.tot_u]
 have:=sll_ (c:=Dt.cnt) (t:=Dt.tot) t.Parts ih
 omega
mutual
noncomputable def Dt.okD:Dt→Bool
 | .mk r s m t c l=>nodeB (.mk r s m t c l)&&DoD_1 l
noncomputable def DoD_1:List Dt→Bool
 | []=>true
 | a::l=>a.okD&&DoD_1 l
end
theorem DoD_2(l:List Dt):DoD_1 l=l.all Dt.okD:=by
 induction l with
 | nil=>rfl
 | cons a l ih=>rw[DoD_1,ih]; rfl
theorem DoD_(a:Dt):a.okD=(nodeB a&&a.Parts.all Dt.okD):=by cases a; rw[Dt.okD,DoD_2]; rfl
theorem Dpb_{d p:Dt}(h:d.bd)(hp:p∈d.Parts):p.bd:=((Dbu_ d).1 h).2.2.2 p hp
theorem Dpc_{d p:Dt}(hp:p∈d.Parts):p.cnt+1≤d.cnt:=by
 rw[Dt.cnt_u d]
 have:=lsm_ Dt.cnt hp
 omega
theorem rNe_(t:Dt):t.cnt≤2097152→∃ r,(∀ n,2*aw t≤n→irN_ n t=some r)∧Cap 60 t.cnt r:=by
 refine Dt.ind' (M:=fun t=>t.cnt≤2097152→∃ r,(∀ n,2*aw t≤n→irN_ n t=some r)∧Cap 60 t.cnt r) (fun t ih hc=>?_) t
 rw[Dt.cnt_u] at hc ⊢
 have hp:=t.pos
 obtain⟨R,hR⟩:=mc_ (fun a ha=>ih a ha (by have:=lsm_ Dt.cnt ha; omega))
 obtain⟨r,h1,h2⟩:=gl_1 Dt.cnt 60 (by omega) (fun a=>some (R a)) t.Parts 0 1 1 (fun a ha=>⟨R a,rfl,(hR a ha).2⟩) (by omega) (by omega) (by omega) (by omega) hc
 refine⟨r,fun n hn=>?_,h2⟩
 cases n with
 | zero=>omega
 | succ n=>
  rw[irN_]
  simp only[fNi_]
  rw[← h1]
  congr 1
  refine fLc_ t.Parts 0 1 (fun j a s ha=>?_)
  have ha:=List.mem_of_getElem? ha
  have:=Dt.lt ha
  simp only[(hR a ha).1 n (by omega)]
  rfl
theorem lSs_(t:Dt):∀ n m,2*aw t≤n→2*aw t≤m→∀ L,slS_ n t L=slS_ m t L:=by
 refine Dt.ind' (M:=fun t=>∀ n m,2*aw t≤n→2*aw t≤m→∀ L,slS_ n t L=slS_ m t L) (fun t ih n m hn hm L=>?_) t
 have hp:=t.pos
 cases n with
 | zero=>omega
 | succ n=>
  cases m with
  | zero=>omega
  | succ m=>
   rw[slS_,slS_]
   congr 1
   refine fNc_ _ _ _ (fun j s hj=>?_)
   simp only[Nat.zero_add] at hj ⊢
   rw[igD_ hj]
   simp only[ak]
   have hm':=gDm_ hj
   have:=Dt.lt hm'
   rw[ih _ hm' n m (by omega) (by omega)]
theorem lSe_4(t:Dt):t.cnt≤2097152→∀ n,2*aw t≤n→∀ L:Nat,L≤60→∃ r,slS_ n t L=some r∧Cap L t.cnt r:=by
 refine Dt.ind' (M:=fun t=>t.cnt≤2097152→∀ n,2*aw t≤n→∀ L:Nat,L≤60→∃ r,slS_ n t L=some r∧Cap L t.cnt r) (fun t ih hc n hn L hL=>?_) t
 rw[Dt.cnt_u] at hc ⊢
 have hp:=t.pos
 cases n with
 | zero=>omega
 | succ n=>
  rw[slS_]
  obtain⟨r,h1,h2⟩:=gl_2 Dt.cnt 60 (by omega) (slS_ n) L hL t.Parts 0 1 1 (fun a ha L' hL'=>ih a ha (by have:=lsm_ Dt.cnt ha; omega) n (by have:=Dt.lt ha; omega) L' hL') (by omega) (by omega) (by omega) (by omega) hc
  refine⟨r,?_,h2⟩
  rw[← h1]
  congr 1
  refine fNf_ _ _ t.Parts 0 1 (fun j a s ha=>?_)
  simp only[Nat.zero_add,in_,ha,ak]
theorem rNo_(t:Dt)(h:t.cnt≤2097152):∃ r,irN_1 t=some r∧Cap 60 t.cnt r:=by
 obtain⟨r,h1,h2⟩:=rNe_ t h
 exact⟨r,lim_eq ⟨_,h1⟩,h2⟩
theorem lSo_2(t:Dt)(h:t.cnt≤2097152):∃ r,slS_19 t 60=some r∧Cap 60 t.cnt r:=by
 obtain⟨r,h1,h2⟩:=lSe_4 t h _ (Nat.le_refl _) 60 (by omega)
 exact⟨r,lim_st (fun n hn=>lSs_ t _ _ hn (Nat.le_refl _) _) h1,h2⟩
theorem Cap.gt{L c:Nat}{r:Int}(h:Cap L c r):decide ((L:Int)<r)=decide (L<c):=by
 by_cases e:L<c
 ·have:=h.2.2.2 e; rw[decide_eq_true e,decide_eq_true (by omega)]
 ·have:=h.2.2.1 (by omega); rw[decide_eq_false e,decide_eq_false (by omega)]
theorem wl_{ok:Dt→Bool}{B:Nat}(body:Nat→Dt→Unit→Option (Flow (List Int×Bool) Unit)):∀ (l:List Dt) (i:Nat),
 (∀ a∈l,∀ j,∃ r:List Int,body j a ()=some (bif ok a then .nx () else .rt (r,true))∧r.length≤B)→∃ r:List Int,thenL (forL body l i ()) (fun _=>some ([],false))=some (r,!l.all ok)∧r.length≤B
 | [],i,_=>⟨[],rfl,Nat.zero_le _⟩
 | a::l,i,h=>by
  obtain⟨r,h1,h2⟩:=h a (by simp) i
  rw[List.all_cons]
  cases e:ok a
  ·rw[e,cond_false] at h1
   rw[fLr_ (r:=(r,true)) h1]
   exact⟨r,rfl,h2⟩
  ·rw[e,cond_true] at h1
   rw[fLn_ (s':=()) h1,Bool.true_and]
   exact wl_ body l (i+1) (fun b hb=>h b (by simp[hb]))
theorem wi_(d:Dt):d.Ok→d.bd→d.cnt≤2097152→∃ l:List Int,(∀ n,2*aw d≤n→ifW_ n d=some (l,!d.okD))∧l.length≤d.cnt:=by
 refine Dt.ind' (M:=fun d=>d.Ok→d.bd→d.cnt≤2097152→∃ l:List Int,(∀ n,2*aw d≤n→ifW_ n d=some (l,!d.okD))∧l.length≤d.cnt) (fun d ih hok ht hcn=>?_) d
 have hp:=d.pos
 obtain⟨R,hR⟩:=mc_ (fun a ha=>ih a ha (Dpo_ hok ha) (Dpb_ ht ha) (by have:=Dpc_ ha; omega))
 obtain⟨h1,_,_⟩:=nBb_ hok ht
 rw[DoD_]
 cases hb:nodeB d
 ·refine⟨[],fun n hn=>?_,Nat.zero_le _⟩
  cases n with
  | zero=>omega
  | succ n=>rw[ifW_,h1,hb]; rfl
 obtain⟨r,g1,g2⟩:=wl_ (ok:=Dt.okD) (B:=d.cnt) (fun i a _=>bif !a.okD then Option.bind (app ([(i:Int)]) (R a)) fun v29=>some (.rt (v29,true)) else some (.nx ())) d.Parts 0 (fun a ha j=>by
  have h2:=(hR a ha).2
  have h3:=Dpc_ ha
  cases a.okD
  ·refine⟨(j:Int)::R a,?_,by simp only[aP]; omega⟩
   have:app [(j:Int)] (R a)=some ((j:Int)::R a):=by unfold app; rw[if_pos (by simp only[aP,aW]; omega)]; rfl
   rw[this]; rfl
  ·exact⟨[],rfl,Nat.zero_le _⟩)
 refine⟨r,fun n hn=>?_,g2⟩
 cases n with
 | zero=>omega
 | succ n=>
  rw[ifW_,h1,hb,ak,cond_true,Bool.true_and]
  simp only[fNi_]
  rw[← g1]
  congr 1
  refine fLc_ d.Parts 0 () (fun j a s ha=>?_)
  have ha:=List.mem_of_getElem? ha
  have:=Dt.lt ha
  rw[(hR a ha).1 n (by omega),ak,Nat.zero_add]
theorem ws_1(d:Dt):d.Ok→d.bd→∀ at0:List Int,at0.length+d.cnt≤10000000→∃ l:List Int,∀ n,2*aw d≤n→slW_ n d at0=some (l,!d.okD):=by
 refine Dt.ind' (M:=fun d=>d.Ok→d.bd→∀ at0:List Int,at0.length+d.cnt≤10000000→∃ l:List Int,∀ n,2*aw d≤n→slW_ n d at0=some (l,!d.okD)) (fun d ih hok ht at0 hat=>?_) d
 have hp:=d.pos
 have key:∀ a:Dt,∀ i:Int,∃ l:List Int,a∈d.Parts→∀ n,2*aw a≤n→slW_ n a (at0++[i])=some (l,!a.okD):=by
  intro a i
  by_cases ha:a∈d.Parts
  ·have:=Dpc_ ha
   obtain⟨l,hl⟩:=ih a ha (Dpo_ hok ha) (Dpb_ ht ha) (at0++[i]) (by simp only[List.length_append,aP,aW]; omega)
   exact⟨l,fun _=>hl⟩
  ·exact⟨[],fun h=>absurd h ha⟩
 have key2:∀ a:Dt,∃ F:Int→List Int,∀ i:Int,a∈d.Parts→∀ n,2*aw a≤n→slW_ n a (at0++[i])=some (F i,!a.okD):=fun a=>Classical.axiomOfChoice (key a)
 obtain⟨R,hR⟩:=Classical.axiomOfChoice key2
 obtain⟨_,h1,_⟩:=nBb_ hok ht
 rw[DoD_]
 cases hb:nodeB d
 ·refine⟨at0,fun n hn=>?_⟩
  cases n with
  | zero=>omega
  | succ n=>rw[slW_,h1,hb]; rfl
 have hR':=hR
 have key3:∀ (l:List Dt) (k:Nat),∃ r:List Int,thenL (forL (fun (i:Nat) (a:Dt) (_:Unit)=>(bif !a.okD then some (.rt (R a i,true)) else some (.nx ()):Option (Flow (List Int×Bool) Unit))) l k ()) (fun _=>some ([],false))=some (r,!l.all Dt.okD):=by
  intro l
  induction l with
  | nil=>exact fun k=>⟨[],rfl⟩
  | cons a l ih=>
   intro k
   rw[List.all_cons]
   cases e:a.okD
   ·rw[fLr_ (r:=(R a k,true)) (by rw[e]; rfl)]; exact⟨_,rfl⟩
   ·rw[fLn_ (s':=()) (by rw[e]; rfl),Bool.true_and]; exact ih (k+1)
 obtain⟨r,g1⟩:=key3 d.Parts 0
 refine⟨r,fun n hn=>?_⟩
 cases n with
 | zero=>omega
 | succ n=>
  rw[slW_,h1,hb,ak,cond_true,Bool.true_and]
  simp only[fNi_]
  rw[← g1]
  congr 1
  refine fLc_ d.Parts 0 () (fun j a s ha=>?_)
  have ha:=List.mem_of_getElem? ha
  have:=Dt.lt ha
  have e1:slO_10 at0=some at0:=by unfold slO_10 app; rw[if_pos (by simp only[aW]; omega)]; rfl
  have e2:app at0 [((0+j:Nat):Int)]=some (at0++[((0+j:Nat):Int)]):=by unfold app; rw[if_pos (by simp only[aP,aW]; omega)]
  rw[e1,ak,e2,ak,hR a _ ha n (by omega),ak]
noncomputable def validD(d:Dt):Bool:=decide (d.cnt≤60)&&d.okD
theorem vDi_(d:Dt)(hok:d.Ok)(ht:d.bd)(hc:d.cnt≤2097152):iIV_4 d=some (validD d):=by
 obtain⟨r,h1,h2⟩:=rNo_ d hc
 obtain⟨l,h3,_⟩:=wi_ d hok ht hc
 have h4:decide ((60:Int)<r)=decide (60<d.cnt):=h2.gt
 unfold iIV_4 iFW_ validD
 rw[h1,ak,h4,show ifW_1 d=some (l,!d.okD) from lim_eq ⟨_,h3⟩]
 by_cases e:d.cnt≤60
 ·rw[decide_eq_false (by omega),decide_eq_true e]; cases d.okD<;>rfl
 ·rw[decide_eq_true (by omega),decide_eq_false e]; rfl
theorem vDs_(d:Dt)(hok:d.Ok)(ht:d.bd)(hc:d.cnt≤2097152):slV_3 d=some (validD d):=by
 obtain⟨r,h1,h2⟩:=lSo_2 d hc
 obtain⟨l,h3⟩:=ws_1 d hok ht [] (by simp only[aW]; omega)
 have h4:decide ((60:Int)<r)=decide (60<d.cnt):=h2.gt
 unfold slV_3 validD
 rw[h1,ak,h4,show slW_1 d []=some (l,!d.okD) from lim_eq ⟨_,h3⟩]
 by_cases e:d.cnt≤60
 ·rw[decide_eq_false (by omega),decide_eq_true e]; cases d.okD<;>rfl
 ·rw[decide_eq_true (by omega),decide_eq_false e]; rfl
theorem vDi_1(d:Dt)(hok:d.Ok)(ht:d.tot≤1048576):iIV_4 d=some (validD d):=vDi_ d hok (d.tot_bd ht) (by have:=Dt.cnt_tot d; omega)
theorem vDs_1(d:Dt)(hok:d.Ok)(ht:d.tot≤1048576):slV_3 d=some (validD d):=vDs_ d hok (d.tot_bd ht) (by have:=Dt.cnt_tot d; omega)
end Go.Proofs.YtkoghcphkdecoaaGreat
