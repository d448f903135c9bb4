/- A part of the proof: lemmas only; nothing is claimed here beyond what each lemma says. -/
import Derived.Test.YtkoghcphkdecoaaGreatGsu
set_option linter.unusedSimpArgs false
set_option linter.unusedVariables false
set_option linter.defProp false
set_option maxRecDepth 4000
namespace Go.Proofs.YtkoghcphkdecoaaGreat
open Go.Av
open Bool renaming and_eq_true→aD
open Ft renaming ind'→bu
open List renaming length_cons→aP,map_cons→aM,all_eq_true→a8,all_cons→bG
open Option renaming bind_some→ak
open SizeOf renaming sizeOf→aw
open Tt renaming cnts→bq
theorem Tt.Ok_of(t:Tt):t.tot≤1048576→t.Ok:=by
 refine Tt.ind' (M:=fun t=>t.tot≤1048576→t.Ok) (fun t ih h=>?_) t
 have hu:=t.tot_u
 have hl:=ll_ Tt.tot t.Args
 have:=Tt.Ok.mk t.Name t.Args (by simp only[Big]; omega) (by simp only[Big]; omega) (fun a ha=>ih a ha (by have:=tm_ Tt.tot ha; omega))
 rwa [t.eta] at this
mutual
def Tt.tiny:Tt→Bool
 | .mk x l=>decide (x.size≤6)&&Tt_ l
def Tt_:List Tt→Bool
 | []=>true
 | a::l=>a.tiny&&Tt_ l
end
theorem Tte_(l:List Tt):Tt_ l=l.all Tt.tiny:=by
 induction l with
 | nil=>rfl
 | cons a l ih=>rw[Tt_,ih]; rfl
theorem Ttu_(t:Tt):t.tiny=(decide (t.Name.size≤6)&&t.Args.all Tt.tiny):=by cases t; rw[Tt.tiny,Tte_]; rfl
theorem tt_:∀ l:List Tt,(∀ a∈l,a.tot+1≤7*a.cnt)→ltot Tt.tot l≤7*bq l
 | [],_=>by simp[ltot]
 | a::l,h=>by
  have h1:=h a (by simp)
  have h2:=tt_ l (fun x hx=>h x (by simp[hx]))
  simp only[ltot,aP,aM,List.sum_cons,bq] at*
  omega
theorem tt_1(t:Tt):t.tiny=true→t.tot+1≤7*t.cnt:=by
 refine Tt.ind' (M:=fun t=>t.tiny=true→t.tot+1≤7*t.cnt) (fun t ih h=>?_) t
 rw[Ttu_,aD,decide_eq_true_iff,a8] at h
 have h1:=tt_ t.Args (fun a ha=>ih a ha (h.2 a ha))
 rw[t.tot_u,t.cnt_u]; omega
theorem vs_1{s:ByteArray}(h:isVarS s=true):s.size≤4:=by
 unfold isVarS at h
 rw[aD] at h
 have:=iRi_.1 h.1; omega
theorem ss_1{s:ByteArray}(h:isSymS s=true):s.size≤6:=by
 unfold isSymS at h
 rw[aD,aD] at h
 have:=iRi_.1 h.1.1; omega
theorem gt_(t:Tt):t.good=true→t.tiny=true:=by
 refine Tt.ind' (M:=fun t=>t.good=true→t.tiny=true) (fun t ih h=>?_) t
 rw[Ttu_,aD,decide_eq_true_iff,a8]
 rcases nC_ h with⟨h1,h2⟩ | ⟨_,h1,_,hall⟩
 ·exact⟨by have:=vs_1 h1; omega,by rw[h2]; simp⟩
 ·exact⟨ss_1 h1,fun a ha=>ih a ha (hall a ha)⟩
theorem at_{a:Tt}(h:atomT a=true):a.tiny=true:=by
 have hall:=(aTo_ h).hall
 rw[Ttu_,aD,decide_eq_true_iff,a8]
 refine⟨?_,fun x hx=>gt_ x (hall x hx)⟩
 unfold atomT at h
 by_cases e:a.Name=(⟨#[61]⟩:ByteArray)
 ·rw[e]; exact Nat.le_of_ble_eq_true rfl
 ·rw[decide_eq_false e,cond_false,aD] at h
  exact ss_1 h.1
theorem st_3{n:ByteArray}{t:Tt}(ht:t.tiny=true)(a:Tt):a.tiny=true→(sbT n t a).tiny=true:=by
 refine Tt.ind' (M:=fun a=>a.tiny=true→(sbT n t a).tiny=true) (fun a ih h=>?_) a
 rw[Ttu_,aD,a8] at h
 rw[sbT_u]
 cases (a.Args.isEmpty&&decide (a.Name=n))
 ·rw[cond_false,Ttu_,aD,a8]
  refine⟨h.1,fun x hx=>?_⟩
  obtain⟨y,hy,rfl⟩:=List.mem_map.1 hx
  exact ih y hy (h.2 y hy)
 ·exact ht
theorem sc_4{n:ByteArray}{t:Tt}:∀ l:List Tt,(∀ a∈l,(sbT n t a).cnt≤a.cnt*t.cnt)→bq (l.map (sbT n t))≤bq l*t.cnt
 | [],_=>by simp[bq]
 | a::l,h=>by
  have h1:=h a (by simp)
  have h2:=sc_4 l (fun x hx=>h x (by simp[hx]))
  simp only[aM,bq,Nat.add_mul]; omega
theorem sb_cnt{n:ByteArray}{t:Tt}(a:Tt):(sbT n t a).cnt≤a.cnt*t.cnt:=by
 refine Tt.ind' (M:=fun a=>(sbT n t a).cnt≤a.cnt*t.cnt) (fun a ih=>?_) a
 have hp:=t.cnt_pos
 have h1:=sc_4 a.Args ih
 rw[sbT_u,a.cnt_u,Nat.add_mul,Nat.one_mul]
 cases (a.Args.isEmpty&&decide (a.Name=n))
 ·rw[cond_false,Tt.cnt_u]; show 1+bq (a.Args.map _)≤_; omega
 ·rw[cond_true]; omega
theorem sat_{n:ByteArray}{t a:Tt}(hg:t.good=true)(hc:t.cnt≤30)(ha:atomT a=true):(sbT n t a).tot≤6300:=by
 have h1:=tt_1 _ (st_3 (n:=n) (gt_ t hg) a (at_ ha))
 have h2:=sb_cnt (n:=n) (t:=t) a
 have h3:=(aTo_ ha).cnt
 have h4:a.cnt*t.cnt≤30*30:=Nat.mul_le_mul h3 hc
 omega
def Ft.keep(n:ByteArray)(f:Ft):Bool:=isQ f.Op&&(decide (f.Var=n)||!f.fv n)
mutual
def Ft.sub(n:ByteArray)(t:Tt):Ft→Ft
 | .mk o a v ps=>bif (Ft.mk o a v ps).keep n then .mk o a v ps else bif decide (o=3) then .mk o (sbT n t a) v [] else .mk o a v (Fs_ n t ps)
def Fs_(n:ByteArray)(t:Tt):List Ft→List Ft
 | []=>[]
 | a::l=>a.sub n t::Fs_ n t l
end
mutual
def Ft.cf(n:ByteArray)(t:Tt):Ft→Bool
 | .mk o a v ps=>bif (Ft.mk o a v ps).keep n then true else bif decide (o=3) then true else !(isQ o&&hasV v t.vars)&&Fc_ n t ps
def Fc_(n:ByteArray)(t:Tt):List Ft→Bool
 | []=>true
 | a::l=>a.cf n t&&Fc_ n t l
end
mutual
def Ft.sok(n:ByteArray)(t:Tt):Ft→Bool
 | .mk o a v ps=>bif (Ft.mk o a v ps).keep n then true else bif decide (o=3) then atomT (sbT n t a) else !(isQ o&&hasV v t.vars)&&Fs_1 n t ps
def Fs_1(n:ByteArray)(t:Tt):List Ft→Bool
 | []=>true
 | a::l=>a.sok n t&&Fs_1 n t l
end
theorem Fse_(n:ByteArray)(t:Tt)(l:List Ft):Fs_ n t l=l.map (Ft.sub n t):=by
 induction l with
 | nil=>rfl
 | cons a l ih=>rw[Fs_,ih]; rfl
theorem Fce_(n:ByteArray)(t:Tt)(l:List Ft):Fc_ n t l=l.all (Ft.cf n t):=by
 induction l with
 | nil=>rfl
 | cons a l ih=>rw[Fc_,ih]; rfl
theorem Fse_1(n:ByteArray)(t:Tt)(l:List Ft):Fs_1 n t l=l.all (Ft.sok n t):=by
 induction l with
 | nil=>rfl
 | cons a l ih=>rw[Fs_1,ih]; rfl
theorem Fsu_(n:ByteArray)(t:Tt)(f:Ft):f.sub n t=bif f.keep n then f else bif decide (f.Op=3) then .mk f.Op (sbT n t f.Atom) f.Var [] else .mk f.Op f.Atom f.Var (f.Parts.map (Ft.sub n t)):=by cases f; rw[Ft.sub,Fse_]; rfl
theorem Fcu_(n:ByteArray)(t:Tt)(f:Ft):f.cf n t=bif f.keep n then true else bif decide (f.Op=3) then true else !(isQ f.Op&&hasV f.Var t.vars)&&f.Parts.all (Ft.cf n t):=by cases f; rw[Ft.cf,Fce_]; rfl
theorem Fsu_1(n:ByteArray)(t:Tt)(f:Ft):f.sok n t=bif f.keep n then true else bif decide (f.Op=3) then atomT (sbT n t f.Atom) else !(isQ f.Op&&hasV f.Var t.vars)&&f.Parts.all (Ft.sok n t):=by cases f; rw[Ft.sok,Fse_1]; rfl
theorem sok_cf{n:ByteArray}{t:Tt}(f:Ft):f.sok n t=true→f.cf n t=true:=by
 refine bu (M:=fun f=>f.sok n t=true→f.cf n t=true) (fun f ih h=>?_) f
 rw[Fsu_1] at h
 rw[Fcu_]
 cases hk:f.keep n
 ·rw[hk] at h
  rw[cond_false] at h ⊢
  cases e3:decide (f.Op=3)
  ·rw[e3] at h
   simp only[cond_false,aD,a8] at h ⊢
   exact⟨h.1,fun p hp=>ih p hp (h.2 p hp)⟩
  ·rfl
 ·rfl
theorem fl_5{ρ:Type}{n:ByteArray}{t:Tt}(F:Nat→Ft→Bool→Option (Ft×Bool))(N:Nat):∀ (l:List Ft) (i:Nat) (b:Bool) (acc:List Ft),
 (∀ p∈l,∃ r:Ft×Bool,(∀ m,N≤m→∀ b,F m p b=some (r.1,b&&r.2))∧r.2=p.cf n t∧(r.2=true→r.1=p.sub n t))→acc.length+l.length≤1000000→
 ∃ q:List Ft,(∀ m,N≤m→forL (ρ:=ρ) (fun _ x (s:Bool×List Ft)=>(F m x s.1).bind fun v=>(app s.2 [v.1]).bind fun w=>some (.nx (v.2,w))) l i (b,acc)=some (.inr (b&&l.all (Ft.cf n t),acc++q)))∧q.length=l.length∧(l.all (Ft.cf n t)=true→q=l.map (Ft.sub n t))
 | [],i,b,acc,_,_=>⟨[],fun m _=>by simp[forL],rfl,fun _=>rfl⟩
 | p::l,i,b,acc,h,hb=>by
  simp only[aP] at hb
  obtain⟨r,h1,h2,h3⟩:=h p (by simp)
  obtain⟨q,g1,g2,g3⟩:=fl_5 (ρ:=ρ) F N l (i+1) (b&&r.2) (acc++[r.1]) (fun x hx=>h x (by simp[hx])) (by simp; omega)
  refine⟨r.1::q,fun m hm=>?_,by simp[g2],fun hall=>?_⟩
  ·rw[fLn_ (s':=(b&&r.2,acc++[r.1])) (by rw[h1 m hm,ak]; unfold app; rw[if_pos (by simp only[aP,List.length_nil]; omega)]; rfl),g1 m hm,bG,h2]
   simp[Bool.and_assoc]
  ·rw[bG,aD] at hall
   rw[aM,h3 (h2.trans hall.1),g3 hall.2]
theorem mapFh{n:ByteArray}{t:Tt}{f:Ft}(hf:f.tot≤1048576)(hl:f.Parts.length≤1000)(F:Nat→Ft→Bool→Option (Ft×Bool))(N:Nat)
 (h:∀ p∈f.Parts,∃ r:Ft×Bool,(∀ m,N≤m→∀ b,F m p b=some (r.1,b&&r.2))∧r.2=p.cf n t∧(r.2=true→r.1=p.sub n t)):
 ∃ q:List Ft,(∀ m,N≤m→imP_ f (F m) true=some (⟨f.Op,f.Atom,f.Var,q⟩,f.Parts.all (Ft.cf n t)))∧q.length=f.Parts.length∧(f.Parts.all (Ft.cf n t)=true→q=f.Parts.map (Ft.sub n t)):=by
 obtain⟨q,g1,g2,g3⟩:=fl_5 (ρ:=Ft×Bool) F N f.Parts 0 true [] h (by simp; omega)
 refine⟨q,fun m hm=>?_,g2,g3⟩
 unfold imP_
 rw[copyT _ (cot_ (by have:=f.tot_atom; omega)),ak]
 simp only[fNi_]
 rw[g1 m hm,tLi_]
 simp
theorem ChV_(l:List ByteArray)(x:ByteArray):sCS_1 l x=some (hasV x l):=Cs_ l x
theorem ise_1{n:ByteArray}{t:Tt}(hn:isVarS n=true)(hg:t.good=true)(hct:t.cnt≤1000)(f:Ft):f.good=true→f.tot≤1048576→f.cnt≤10000→
 ∃ r:Ft×Bool,(∀ m,4*aw f≤m→isN_ m f n t=some r)∧r.2=f.cf n t∧(r.2=true→r.1=f.sub n t):=by
 refine bu (M:=fun f=>f.good=true→f.tot≤1048576→f.cnt≤10000→
  ∃ r:Ft×Bool,(∀ m,4*aw f≤m→isN_ m f n t=some r)∧r.2=f.cf n t∧(r.2=true→r.1=f.sub n t)) (fun f ih hgf ht hc=>?_) f
 have hp:=f.pos
 have hu:=fcnt_u f
 have hpl:=fl_2 f.Parts
 obtain⟨hform,hparts⟩:=gs_ hgf
 obtain⟨q,q1,q2,q3⟩:=mapFh (n:=n) (t:=t) ht (show f.Parts.length≤1000 by
  rcases fCc_ hform with⟨_,_,h,_⟩ | ⟨_,_,h,_⟩ | ⟨_,_,h,_⟩<;>omega) (fun m y s=>is1_ m y n t s) (4*aw f-1) (fun p hpm=>by
  obtain⟨r,h1,h2,h3⟩:=ih p hpm (hparts p hpm) (by have:=Ftp_ hpm; omega) (by have:=fm_ hpm; omega)
  have hlt:=Ft.lt hpm
  refine⟨r,fun m hm b=>?_,h2,h3⟩
  obtain⟨k,rfl⟩:∃ k,m=k+1:=⟨m-1,by omega⟩
  show is1_ (k+1) p n t b=_
  rw[is1_,h1 k (by omega),ak]
  cases b<;>rfl)
 have hmf:∀ m,4*aw f≤m→∃ k,m=k+1∧4*aw f-1≤k:=fun m hm=>⟨m-1,by omega,by omega⟩
 rcases fCc_ hform with⟨e3,hq,hk,hat,_⟩ | ⟨e3,hq,hk,hza,hvv⟩ | ⟨e3,hq,_,_,_⟩
 ·have hkeep:f.keep n=false:=by unfold Ft.keep; rw[hq]; rfl
  have h0:f.Parts=[]:=List.eq_nil_of_length_eq_zero hk
  refine⟨(⟨f.Op,sbT n t f.Atom,f.Var,[]⟩,true),fun m hm=>?_,by rw[Fcu_,hkeep,cond_false,decide_eq_true e3]; rfl,fun _=>by rw[Fsu_,hkeep,cond_false,decide_eq_true e3]; rfl⟩
  obtain⟨k,rfl,hk'⟩:=hmf m hm
  show isN_ (k+1) f n t=_
  rw[isN_,isQ_eq,ak,show(decide (f.Op=8)||decide (f.Op=9))=false from hq,cond_false,ak,cond_false,q1 k hk',ak,decide_eq_true e3,cond_true,
   ae_ (by omega) (by have:=(aTo_ hat).cnt; omega),ak,h0]
  have hq0:q=[]:=List.eq_nil_of_length_eq_zero (by rw[q2,h0]; rfl)
  rw[hq0]; rfl
 ·obtain⟨V,v1,v2⟩:=fi_1 hgf hc
  have hov:=oe_ hvv hg (show t.cnt≤10000000 by omega)
  by_cases en:f.Var=n
  ·have hkeep:f.keep n=true:=by unfold Ft.keep; rw[hq,decide_eq_true en]; rfl
   refine⟨(f,true),fun m hm=>?_,by rw[Fcu_,hkeep]; rfl,fun _=>by rw[Fsu_,hkeep]; rfl⟩
   obtain⟨k,rfl,hk'⟩:=hmf m hm
   show isN_ (k+1) f n t=_
   rw[isN_,isQ_eq,ak,show(decide (f.Op=8)||decide (f.Op=9))=true from hq,cond_true,decide_eq_true en,cond_true,copyF f ht]; rfl
  ·cases hfv:f.fv n
   ·have hkeep:f.keep n=true:=by unfold Ft.keep; rw[hq,hfv]; simp
    refine⟨(f,true),fun m hm=>?_,by rw[Fcu_,hkeep]; rfl,fun _=>by rw[Fsu_,hkeep]; rfl⟩
    obtain⟨k,rfl,hk'⟩:=hmf m hm
    show isN_ (k+1) f n t=_
    rw[isN_,isQ_eq,ak,show(decide (f.Op=8)||decide (f.Op=9))=true from hq,cond_true,decide_eq_false en,cond_false,v1,ak,ChV_,ak,v2,hfv,cond_false,copyF f ht]; rfl
   ·have hkeep:f.keep n=false:=by unfold Ft.keep; rw[hq,hfv,decide_eq_false en]; rfl
    cases ho:hasV f.Var t.vars
    ·refine⟨(⟨f.Op,f.Atom,f.Var,q⟩,f.Parts.all (Ft.cf n t)),fun m hm=>?_,by rw[Fcu_,hkeep,cond_false,decide_eq_false e3,cond_false,ho]; simp,fun hh=>by rw[Fsu_,hkeep,cond_false,decide_eq_false e3,cond_false,q3 hh]⟩
     obtain⟨k,rfl,hk'⟩:=hmf m hm
     show isN_ (k+1) f n t=_
     rw[isN_,isQ_eq,ak,show(decide (f.Op=8)||decide (f.Op=9))=true from hq,cond_true,decide_eq_false en,cond_false,v1,ak,ChV_,ak,v2,hfv,cond_true,ak,cond_true,hov,ak,ho,cond_false,q1 k hk',ak,decide_eq_false e3]; rfl
    ·refine⟨(⟨0,⟨⟨#[]⟩,[]⟩,⟨#[]⟩,[]⟩,false),fun m hm=>?_,by rw[Fcu_,hkeep,cond_false,decide_eq_false e3,cond_false,ho,hq]; rfl,fun hh=>by cases hh⟩
     obtain⟨k,rfl,hk'⟩:=hmf m hm
     show isN_ (k+1) f n t=_
     rw[isN_,isQ_eq,ak,show(decide (f.Op=8)||decide (f.Op=9))=true from hq,cond_true,decide_eq_false en,cond_false,v1,ak,ChV_,ak,v2,hfv,cond_true,ak,cond_true,hov,ak,ho]; rfl
 ·have hkeep:f.keep n=false:=by unfold Ft.keep; rw[hq]; rfl
  refine⟨(⟨f.Op,f.Atom,f.Var,q⟩,f.Parts.all (Ft.cf n t)),fun m hm=>?_,by rw[Fcu_,hkeep,cond_false,decide_eq_false e3,cond_false,hq]; simp,fun hh=>by rw[Fsu_,hkeep,cond_false,decide_eq_false e3,cond_false,q3 hh]⟩
  obtain⟨k,rfl,hk'⟩:=hmf m hm
  show isN_ (k+1) f n t=_
  rw[isN_,isQ_eq,ak,show(decide (f.Op=8)||decide (f.Op=9))=false from hq,cond_false,ak,cond_false,q1 k hk',ak,decide_eq_false e3]; rfl
theorem sl_3{n:ByteArray}{t:Tt}(F:Nat→Ft→Option (Ft×Bool))(G:List Ft→Ft)(N:Nat):∀ (l:List Ft) (i:Nat) (acc:List Ft),
 (∀ p∈l,∃ r:Ft×Bool,(∀ m,N≤m→F m p=some r)∧r.2=p.sok n t∧(r.2=true→r.1=p.sub n t))→acc.length+l.length≤1000000→
 ∃ q:(Ft×Bool) ⊕ List Ft,(∀ m,N≤m→forL (fun _ x (s:List Ft)=>(F m x).bind fun v=>bif v.2 then(app s [v.1]).bind fun w=>some (.nx w) else some (.rt (G s,false))) l i acc=some q)∧(l.all (Ft.sok n t)=true→q=.inr (acc++l.map (Ft.sub n t)))∧(l.all (Ft.sok n t)=false→∃ g,q=.inl (g,false))
 | [],i,acc,_,_=>⟨.inr acc,fun m _=>rfl,fun _=>by simp,fun h=>by cases h⟩
 | p::l,i,acc,h,hb=>by
  simp only[aP] at hb
  obtain⟨r,h1,h2,h3⟩:=h p (by simp)
  cases hr:r.2
  ·refine⟨.inl (G acc,false),fun m hm=>by rw[fLr_ (r:=(G acc,false)) (by rw[h1 m hm,ak,hr]; rfl)],fun ha=>?_,fun _=>⟨_,rfl⟩⟩
   rw[bG,aD,← h2,hr] at ha; cases ha.1
  ·obtain⟨q,g1,g2,g3⟩:=sl_3 F G N l (i+1) (acc++[r.1]) (fun x hx=>h x (by simp[hx])) (by simp; omega)
   refine⟨q,fun m hm=>?_,fun ha=>?_,fun ha=>?_⟩
   ·rw[fLn_ (s':=acc++[r.1]) (by rw[h1 m hm,ak,hr,cond_true]; unfold app; rw[if_pos (by simp only[aP,List.length_nil]; omega)]; rfl),g1 m hm]
   ·rw[bG,aD] at ha
    rw[g2 ha.2,h3 hr]; simp
   ·rw[bG,← h2,hr,Bool.true_and] at ha; exact g3 ha
theorem sse_{n:ByteArray}{t:Tt}(hn:isVarS n=true)(hg:t.good=true)(hok:t.Ok)(hct:t.cnt≤30)(f:Ft):f.Ok→f.good=true→f.tot≤1048576→f.cnt≤10000→
 ∃ r:Ft×Bool,(∀ m,2*aw f≤m→slP_1 m f n t=some r)∧r.2=f.sok n t∧(r.2=true→r.1=f.sub n t):=by
 refine bu (M:=fun f=>f.Ok→f.good=true→f.tot≤1048576→f.cnt≤10000→
  ∃ r:Ft×Bool,(∀ m,2*aw f≤m→slP_1 m f n t=some r)∧r.2=f.sok n t∧(r.2=true→r.1=f.sub n t)) (fun f ih hokf hgf ht hc=>?_) f
 have hp:=f.pos
 have hu:=fcnt_u f
 have hpl:=fl_2 f.Parts
 have hokp:=hokf.u.2.2.2.2
 obtain⟨hform,hparts⟩:=gs_ hgf
 obtain⟨q,q1,q2,q3⟩:=sl_3 (n:=n) (t:=t) (fun m y=>slP_1 m y n t) (fun s=>Ft.mk f.Op (Tt.mk (⟨#[]⟩:ByteArray) ([])) f.Var s) (2*aw f-1) f.Parts 0 [] (fun p hpm=>by
  obtain⟨r,h1,h2,h3⟩:=ih p hpm (hokp p hpm) (hparts p hpm) (by have:=Ftp_ hpm; omega) (by have:=fm_ hpm; omega)
  exact⟨r,fun m hm=>h1 m (by have:=Ft.lt hpm; omega),h2,h3⟩) (by simp; omega)
 have hmf:∀ m,2*aw f≤m→∃ k,m=k+1∧2*aw f-1≤k:=fun m hm=>⟨m-1,by omega,by omega⟩
 have fin:f.Atom=⟨⟨#[]⟩,[]⟩→∃ r:Ft×Bool,thenL (ρ:=Ft×Bool) (some q) (fun s11=>some ((Ft.mk f.Op (Tt.mk (⟨#[]⟩:ByteArray) ([])) f.Var s11),true))=some r∧r.2=f.Parts.all (Ft.sok n t)∧(r.2=true→r.1=⟨f.Op,f.Atom,f.Var,f.Parts.map (Ft.sub n t)⟩):=by
  intro ha
  cases hall:f.Parts.all (Ft.sok n t)
  ·obtain⟨g,hg⟩:=q3 hall
   rw[hg,tLi_1]
   exact⟨_,rfl,rfl,fun h=>by cases h⟩
  ·rw[q2 hall,tLi_]
   exact⟨_,rfl,rfl,fun _=>by rw[ha]; rfl⟩
 rcases fCc_ hform with⟨e3,hq,hk,hat,_⟩ | ⟨e3,hq,hk,hza,hvv⟩ | ⟨e3,hq,_,hza,_⟩
 ·have hkeep:f.keep n=false:=by unfold Ft.keep; rw[hq]; rfl
  have hao:=aTo_ hat
  have htot:=sat_ (n:=n) hg hct hat
  refine⟨(⟨f.Op,sbT n t f.Atom,f.Var,[]⟩,atomT (sbT n t f.Atom)),fun m hm=>?_,by rw[Fsu_1,hkeep,cond_false,decide_eq_true e3]; rfl,fun _=>by rw[Fsu_,hkeep,cond_false,decide_eq_true e3]; rfl⟩
  obtain⟨k,rfl,hk'⟩:=hmf m hm
  show slP_1 (k+1) f n t=_
  rw[slP_1,decide_eq_true e3,cond_true,lPe_1 n t (by omega),ak,
   show slA_2 (bif decide (t.Name=n) then⟨[]⟩ else⟨[⟨n,t⟩]⟩) f.Atom=some (sbT n t f.Atom) from lAa_ hn (by omega) hg hokf.u.2.1 hao.nv hao.hall (by have:=cl_1 f.Atom.Args; have:=f.Atom.cnt_u; have:=hao.cnt; omega),ak,
   as_1 _ (by omega) (Tt.Ok_of _ (by omega)),ak]
 ·obtain⟨p0,hp0⟩:∃ p,f.Parts=[p]:=by
   match hpp:f.Parts with
   | []=>rw[hpp] at hk; cases hk
   | [p]=>exact⟨p,rfl⟩
   | _::_::_=>rw[hpp] at hk; simp at hk
  have hm0:p0∈f.Parts:=by rw[hp0]; simp
  obtain⟨V,v1,v2⟩:=fs_1 (hokp p0 hm0) (hparts p0 hm0) (by have:=fm_ hm0; omega)
  obtain⟨W,w1,w2⟩:=lVo_ hok hg (show t.cnt≤1000 by omega)
  have hwv:hasV f.Var W=hasV f.Var t.vars:=hVc_ (w2 _)
  have body:∀ k,2*aw f-1≤k→slP_1 (k+1) f n t=bif decide (f.Var=n) then some (f,true) else bif p0.fv n then(bif hasV f.Var t.vars then some ((Ft.mk f.Op (Tt.mk (⟨#[]⟩:ByteArray) ([])) f.Var ([])),false) else thenL (ρ:=Ft×Bool) (some q) (fun s11=>some ((Ft.mk f.Op (Tt.mk (⟨#[]⟩:ByteArray) ([])) f.Var s11),true))) else some (f,true):=by
   intro k hk'
   have hi:idx f.Parts (0:Int)=some p0:=by rw[hp0]; rfl
   rw[slP_1,decide_eq_false e3,cond_false,ownF f ht,hi]
   simp only[ak,v1,lIe_1,v2,w1,hwv,fNi_]
   rw[q1 k hk']
   unfold isQ at hq
   cases e8:decide (f.Op=8)
   ·rw[e8,Bool.false_or] at hq; rw[hq]; rfl
   ·rfl
  by_cases en:f.Var=n
  ·have hkeep:f.keep n=true:=by unfold Ft.keep; rw[hq,decide_eq_true en]; rfl
   refine⟨(f,true),fun m hm=>?_,by rw[Fsu_1,hkeep]; rfl,fun _=>by rw[Fsu_,hkeep]; rfl⟩
   obtain⟨k,rfl,hk'⟩:=hmf m hm
   show slP_1 (k+1) f n t=_
   rw[body k hk',decide_eq_true en]; rfl
  ·have hfe:f.fv n=p0.fv n:=by rw[Ffu_,decide_eq_false e3,cond_false,decide_eq_false en,hp0]; simp[Ff_]
   cases hfv:p0.fv n
   ·have hkeep:f.keep n=true:=by unfold Ft.keep; rw[hq,hfe,hfv]; simp
    refine⟨(f,true),fun m hm=>?_,by rw[Fsu_1,hkeep]; rfl,fun _=>by rw[Fsu_,hkeep]; rfl⟩
    obtain⟨k,rfl,hk'⟩:=hmf m hm
    show slP_1 (k+1) f n t=_
    rw[body k hk',decide_eq_false en,hfv]; rfl
   ·have hkeep:f.keep n=false:=by unfold Ft.keep; rw[hq,hfe,hfv,decide_eq_false en]; rfl
    cases ho:hasV f.Var t.vars
    ·obtain⟨r,r1,r2,r3⟩:=fin hza
     refine⟨r,fun m hm=>?_,by rw[r2,Fsu_1,hkeep,cond_false,decide_eq_false e3,cond_false,ho]; simp,fun hh=>by rw[r3 hh,Fsu_,hkeep,cond_false,decide_eq_false e3,cond_false]⟩
     obtain⟨k,rfl,hk'⟩:=hmf m hm
     show slP_1 (k+1) f n t=_
     rw[body k hk',decide_eq_false en,hfv,ho]; exact r1
    ·refine⟨(⟨f.Op,⟨⟨#[]⟩,[]⟩,f.Var,[]⟩,false),fun m hm=>?_,by rw[Fsu_1,hkeep,cond_false,decide_eq_false e3,cond_false,ho,hq]; rfl,fun hh=>by cases hh⟩
     obtain⟨k,rfl,hk'⟩:=hmf m hm
     show slP_1 (k+1) f n t=_
     rw[body k hk',decide_eq_false en,hfv,ho]; rfl
 ·have hkeep:f.keep n=false:=by unfold Ft.keep; rw[hq]; rfl
  obtain⟨r,r1,r2,r3⟩:=fin hza
  refine⟨r,fun m hm=>?_,by rw[r2,Fsu_1,hkeep,cond_false,decide_eq_false e3,cond_false,hq]; simp,fun hh=>by rw[r3 hh,Fsu_,hkeep,cond_false,decide_eq_false e3,cond_false]⟩
  obtain⟨k,rfl,hk'⟩:=hmf m hm
  show slP_1 (k+1) f n t=_
  unfold isQ at hq
  rw[Bool.or_eq_false_iff] at hq
  rw[slP_1,decide_eq_false e3,cond_false,hq.1,cond_false,hq.2,cond_false]
  simp only[fNi_]
  rw[q1 k hk']; exact r1
theorem sp_2{n:ByteArray}{t:Tt}(hn:isVarS n=true)(hg:t.good=true)(hok:t.Ok)(hct:t.cnt≤30){f:Ft}(hof:f.Ok)(hgf:f.good=true)(ht:f.tot≤1048576)(hc:f.cnt≤10000):
 ∃ r:Ft×Bool,slP_10 f n t=some r∧r.2=f.sok n t∧(r.2=true→r.1=f.sub n t):=by
 obtain⟨r,h1,h2,h3⟩:=sse_ hn hg hok hct f hof hgf ht hc
 exact⟨r,lim_eq ⟨_,h1⟩,h2,h3⟩
theorem sc_2{n:ByteArray}{t:Tt}:∀ l:List Ft,(∀ a∈l,(a.sub n t).cnt=a.cnt)→Ft.cnts (l.map (Ft.sub n t))=Ft.cnts l
 | [],_=>rfl
 | a::l,h=>by
  simp only[aM,Ft.cnts]
  rw[h a (by simp),sc_2 l (fun x hx=>h x (by simp[hx]))]
theorem sc_5{n:ByteArray}{t:Tt}(f:Ft):f.good=true→(f.sub n t).cnt=f.cnt:=by
 refine bu (M:=fun f=>f.good=true→(f.sub n t).cnt=f.cnt) (fun f ih hg=>?_) f
 obtain⟨hform,hparts⟩:=gs_ hg
 rw[Fsu_]
 cases f.keep n
 ·rw[cond_false]
  cases e:decide (f.Op=3)
  ·rw[cond_false,fcnt_u,fcnt_u f]
   show 1+Ft.cnts (f.Parts.map _)=_
   rw[sc_2 f.Parts (fun a ha=>ih a ha (hparts a ha))]
  ·have e3:=of_decide_eq_true e
   rcases fCc_ hform with⟨_,_,hk,_⟩ | ⟨h,_⟩ | ⟨h,_⟩
   ·rw[cond_true,fcnt_u,fcnt_u f,List.eq_nil_of_length_eq_zero hk]; rfl
   ·exact absurd e3 h
   ·exact absurd e3 h
 ·rfl
theorem sg_1{n:ByteArray}{t:Tt}(f:Ft):f.good=true→f.cf n t=true→(f.sub n t).good=f.sok n t:=by
 refine bu (M:=fun f=>f.good=true→f.cf n t=true→(f.sub n t).good=f.sok n t) (fun f ih hg hcf=>?_) f
 obtain⟨hform,hparts⟩:=gs_ hg
 rw[Fsu_,Fsu_1]
 rw[Fcu_] at hcf
 cases hk:f.keep n
 ·rw[hk,cond_false] at hcf
  rw[cond_false,cond_false]
  cases e:decide (f.Op=3)
  ·rw[e,cond_false,aD,a8] at hcf
   rw[cond_false,cond_false,Ft.good_u,hcf.1,Bool.true_and]
   show(formC f.Op f.Atom f.Var (f.Parts.map _).length&&(f.Parts.map _).all Ft.good)=_
   rw[List.length_map,hform,Bool.true_and,List.all_map,Bool.eq_iff_iff,a8,a8]
   exact⟨fun h a ha=>by rw[← ih a ha (hparts a ha) (hcf.2 a ha)]; exact h a ha,fun h a ha=>by show(a.sub n t).good=true; rw[ih a ha (hparts a ha) (hcf.2 a ha)]; exact h a ha⟩
  ·have e3:=of_decide_eq_true e
   rcases fCc_ hform with⟨_,_,_,_,hv⟩ | ⟨h,_⟩ | ⟨h,_⟩
   ·rw[cond_true,cond_true,Ft.good_u]
    show(formC f.Op (sbT n t f.Atom) f.Var 0&&true)=_
    unfold formC
    rw[e,cond_true,hv]; simp
   ·exact absurd e3 h
   ·exact absurd e3 h
 ·rw[cond_true,cond_true,hg]
theorem ftots{g:Ft→Ft}{c:Nat}:∀ l:List Ft,(∀ a∈l,(g a).tot+1≤c*a.cnt)→ltot Ft.tot (l.map g)≤c*Ft.cnts l
 | [],_=>by simp[ltot]
 | a::l,h=>by
  have h1:=h a (by simp)
  have h2:=ftots l (fun x hx=>h x (by simp[hx]))
  simp only[ltot,aP,aM,List.sum_cons,Ft.cnts,Nat.mul_add] at*
  omega
theorem vt_1{f:Ft}(hform:formC f.Op f.Atom f.Var f.Parts.length=true):f.Var.size≤4:=by
 rcases fCc_ hform with⟨_,_,_,_,hv⟩ | ⟨_,_,_,_,hv⟩ | ⟨_,_,_,_,hv⟩
 ·rw[hv]; exact Nat.zero_le _
 ·exact vs_1 hv
 ·rw[hv]; exact Nat.zero_le _
theorem at_1{f:Ft}(hform:formC f.Op f.Atom f.Var f.Parts.length=true):f.Atom.tot≤210:=by
 have hz:(⟨⟨#[]⟩,[]⟩:Tt).tot≤210:=by rw[Tt.tot_u]; exact Nat.le_of_ble_eq_true rfl
 rcases fCc_ hform with⟨_,_,_,hat,_⟩ | ⟨_,_,_,hv,_⟩ | ⟨_,_,_,hv,_⟩
 ·have:=tt_1 _ (at_ hat); have:=(aTo_ hat).cnt; omega
 ·rw[hv]; exact hz
 ·rw[hv]; exact hz
theorem gt_1(f:Ft):f.good=true→f.tot+1≤220*f.cnt:=by
 refine bu (M:=fun f=>f.good=true→f.tot+1≤220*f.cnt) (fun f ih hg=>?_) f
 obtain⟨hform,hparts⟩:=gs_ hg
 have h1:=vt_1 hform
 have h2:=at_1 hform
 have h3:=ftots (g:=fun x=>x) (c:=220) f.Parts (fun a ha=>ih a ha (hparts a ha))
 rw[List.map_id'] at h3
 rw[f.tot_u,fcnt_u f]; omega
theorem st_2{n:ByteArray}{t:Tt}(hg:t.good=true)(hc:t.cnt≤30)(f:Ft):f.good=true→(f.sub n t).tot+1≤6400*f.cnt:=by
 refine bu (M:=fun f=>f.good=true→(f.sub n t).tot+1≤6400*f.cnt) (fun f ih hgf=>?_) f
 obtain⟨hform,hparts⟩:=gs_ hgf
 have h1:=vt_1 hform
 have h2:=at_1 hform
 have hcp:=f.cnt_pos
 rw[Fsu_]
 cases f.keep n
 ·rw[cond_false]
  cases e:decide (f.Op=3)
  ·have h3:=ftots (g:=Ft.sub n t) (c:=6400) f.Parts (fun a ha=>ih a ha (hparts a ha))
   rw[cond_false,Ft.tot_u,fcnt_u f]
   show f.Atom.tot+(f.Var.size+ltot Ft.tot (f.Parts.map _))+1≤_
   omega
  ·have e3:=of_decide_eq_true e
   rcases fCc_ hform with⟨_,_,_,hat,_⟩ | ⟨h,_⟩ | ⟨h,_⟩
   ·have h4:=sat_ (n:=n) hg hc hat
    rw[cond_true,Ft.tot_u]
    show(sbT n t f.Atom).tot+(f.Var.size+ltot Ft.tot [])+1≤_
    have h5:ltot Ft.tot []=0:=rfl
    omega
   ·exact absurd e3 h
   ·exact absurd e3 h
 ·have:=gt_1 f hgf
  rw[cond_true]; omega
theorem Ft.Ok_of(f:Ft):f.good=true→f.tot≤1048576→f.Ok:=by
 refine bu (M:=fun f=>f.good=true→f.tot≤1048576→f.Ok) (fun f ih hg ht=>?_) f
 obtain⟨hform,hparts⟩:=gs_ hg
 have hu:=f.tot_u
 have hl:=ll_ Ft.tot f.Parts
 have hop:InR f.Op:=by
  unfold formC at hform
  by_cases hr:InR f.Op
  ·exact hr
  ·simp only[InR] at hr
   have e:∀ k:Int,1≤k→k≤9→decide (f.Op=k)=false:=fun k h1 h2=>decide_eq_false (fun h=>hr (by omega))
   rw[e 1 (by decide) (by decide),e 2 (by decide) (by decide),e 3 (by decide) (by decide),e 4 (by decide) (by decide),e 5 (by decide) (by decide),e 6 (by decide) (by decide),e 7 (by decide) (by decide),e 8 (by decide) (by decide),e 9 (by decide) (by decide)] at hform
   simp at hform
 have:=Ft.Ok.mk f.Op f.Atom f.Var f.Parts hop (Tt.Ok_of f.Atom (by omega)) (show f.Var.size≤9223372036854775807 by omega) (show f.Parts.length≤9223372036854775807 by omega) (fun a ha=>ih a ha (hparts a ha) (by have:=Ftp_ ha; omega))
 rwa [f.eta] at this
theorem sub_Ok{n:ByteArray}{t:Tt}(hok:t.Ok)(hg:t.good=true)(hc:t.cnt≤30)(f:Ft):f.Ok→f.good=true→(f.sub n t).Ok:=by
 refine bu (M:=fun f=>f.Ok→f.good=true→(f.sub n t).Ok) (fun f ih hokf hgf=>?_) f
 obtain⟨hform,hparts⟩:=gs_ hgf
 obtain⟨h1,h2,h3,h4⟩:=hokf.u
 rw[Fsu_]
 cases f.keep n
 ·rw[cond_false]
  cases e:decide (f.Op=3)
  ·refine Ft.Ok.mk _ _ _ _ h1 h2 h3 (by rw[List.length_map]; exact h4.1) (fun a ha=>?_)
   obtain⟨b,hb,rfl⟩:=List.mem_map.1 ha
   exact ih b hb (h4.2 b hb) (hparts b hb)
  ·have e3:=of_decide_eq_true e
   rcases fCc_ hform with⟨_,_,_,hat,_⟩ | ⟨h,_⟩ | ⟨h,_⟩
   ·have h5:=sat_ (n:=n) hg hc hat
    exact Ft.Ok.mk _ _ _ _ h1 (Tt.Ok_of _ (by omega)) h3 (by simp only[Big,List.length_nil]; omega) (fun a ha=>by cases ha)
   ·exact absurd e3 h
   ·exact absurd e3 h
 ·exact hokf
theorem vFi_{f:Ft}(h:validF f=true):f.cnt≤40∧f.good=true:=by
 unfold validF at h; rw[aD,decide_eq_true_iff] at h; exact h
theorem vFt_{f:Ft}(h:validF f=true):f.tot≤8800:=by
 obtain⟨h1,h2⟩:=vFi_ h
 have:=gt_1 f h2; omega
theorem vFO_{f:Ft}(h:validF f=true):f.Ok:=Ft.Ok_of f (vFi_ h).2 (by have:=vFt_ h; omega)
def subst(f:Ft)(n:ByteArray)(t:Tt):Bool:=validF f&&(isVarS n&&(goodT t&&f.sok n t))
theorem sv_1{n:ByteArray}{t:Tt}{f:Ft}(hv:validF f=true)(hcf:f.cf n t=true):validF (f.sub n t)=f.sok n t:=by
 obtain⟨h1,h2⟩:=vFi_ hv
 unfold validF
 rw[sc_5 f h2,sg_1 f h2 hcf,decide_eq_true h1,Bool.true_and]
theorem SFe_{n:ByteArray}{t:Tt}{f:Ft}(hof:f.Ok)(hf:f.tot≤1048576)(hnb:Big n.size)(hot:t.Ok)(ht:t.tot≤1048576):
 iSF_ f n t=some (bif subst f n t then(f.sub n t,true) else(⟨0,⟨⟨#[]⟩,[]⟩,⟨#[]⟩,[]⟩,false)):=by
 unfold iSF_ subst
 rw[vFi_1 f hf hof,iVe_ n hnb,IVT_ t ht hot]
 simp only[ak]
 cases hv:validF f
 ·rfl
 cases hn:isVarS n
 ·rfl
 cases hg:goodT t
 ·rfl
 obtain⟨h1,h2⟩:=vFi_ hv
 obtain⟨g1,g2⟩:=gTi_ hg
 obtain⟨r,r1,r2,r3⟩:=ise_1 hn g1 (by omega) f h2 hf (by omega)
 simp only[cond_true,Bool.true_and]
 rw[show is_ f n t=some r from lim_eq ⟨_,r1⟩,ak,r2]
 cases hcf:f.cf n t
 ·have:f.sok n t=false:=by rw[← Bool.not_eq_true]; intro h; rw[sok_cf f h] at hcf; cases hcf
  rw[this]; rfl
 ·rw[cond_true,r3 (r2.trans hcf)]
  have h3:=st_2 (n:=n) g1 g2 f h2
  unfold iiF_1
  rw[vFi_1 _ (by omega) (sub_Ok hot g1 g2 f hof h2),ak,sv_1 hv hcf]
  cases f.sok n t<;>rfl
theorem sv_{n:ByteArray}{t:Tt}{f:Ft}(h:subst f n t=true):validF (f.sub n t)=true∧validF f=true∧isVarS n=true∧goodT t=true∧f.sok n t=true:=by
 unfold subst at h
 simp only[aD] at h
 exact⟨by rw[sv_1 h.1 (sok_cf f h.2.2.2)]; exact h.2.2.2,h.1,h.2.1,h.2.2.1,h.2.2.2⟩
end Go.Proofs.YtkoghcphkdecoaaGreat
