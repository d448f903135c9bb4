/- A part of the proof: lemmas only; nothing is claimed here beyond what each lemma says. -/
import Derived.Test.YtkoghcphkdecoaaGreatGsb
set_option linter.unusedSimpArgs false
set_option linter.unusedVariables false
set_option linter.defProp false
set_option maxRecDepth 4000
namespace Go.Proofs.YtkoghcphkdecoaaGreat
open Go.Av
open Bool renaming and_eq_true→aD
open Ft renaming cnts→bw
open List renaming length_cons→aP
open Option renaming bind_some→ak
open SizeOf renaming sizeOf→aw
theorem fu_{s:ByteArray}(h:isVarS s=true):0<s.size∧cUp (byt s 0)=true:=by
 unfold isVarS at h
 rw[aD] at h
 have hz:0<s.size:=by have:=iRi_.1 h.1; omega
 have h3:=List.all_eq_true.1 h.2 0 (by simpa using hz)
 exact⟨hz,by simpa[varC] using h3⟩
theorem fl_4{s:ByteArray}(h:isSymS s=true):0<s.size∧cUp (byt s 0)=false:=by
 unfold isSymS at h
 rw[aD,aD] at h
 have hz:0<s.size:=by have:=iRi_.1 h.1.1; omega
 have h3:=List.all_eq_true.1 h.1.2 0 (by simpa using hz)
 have h4:cLow (byt s 0)=true:=by simpa[symC] using h3
 have h5:=iRi_.1 h4
 refine⟨hz,?_⟩
 rw[← Bool.not_eq_true]
 intro g
 have:=iRi_.1 g
 omega
theorem snv_{s:ByteArray}(h:isSymS s=true):isVarS s=false:=by
 rw[← Bool.not_eq_true]
 intro g
 have h1:=(fl_4 h).2
 rw[(fu_ g).2] at h1; cases h1
theorem ef_1:cUp (byt (⟨#[61]⟩:ByteArray) 0)=false:=rfl
theorem env_:isVarS (⟨#[61]⟩:ByteArray)=false:=by
 rw[← Bool.not_eq_true]
 intro g
 have h1:=(fu_ g).2
 rw[ef_1] at h1; cases h1
structure AtomOk(a:Tt):Prop where
 nv:isVarS a.Name=false
 hall:∀ x∈a.Args,x.good=true
 cnt:a.cnt≤30
 isv:iiV_2 a=some false
theorem sTc_{t:Tt}(h:smallT t=true):t.cnt≤30:=by
 unfold smallT at h; rw[aD] at h; exact of_decide_eq_true h.1
theorem gTi_{t:Tt}(h:goodT t=true):t.good=true∧t.cnt≤30:=by
 unfold goodT at h; rw[aD] at h; exact⟨h.2,sTc_ h.1⟩
theorem aTo_{a:Tt}(h:atomT a=true):AtomOk a:=by
 unfold atomT at h
 by_cases e:a.Name=(⟨#[61]⟩:ByteArray)
 ·rw[decide_eq_true e,cond_true] at h
  simp only[aD,List.all_eq_true] at h
  refine⟨by rw[e]; exact env_,h.2.2,sTc_ h.2.1,?_⟩
  unfold iiV_2
  rw[sidx0 (by rw[e]; exact Nat.lt_of_lt_of_eq Nat.zero_lt_one rfl),ak,iUe_,ak,e,ef_1]
 ·rw[decide_eq_false e,cond_false,aD] at h
  have hv:=snv_ h.1
  obtain⟨hg,hc⟩:=gTi_ h.2
  refine⟨hv,?_,hc,by rw[iVg_ hg,hv]⟩
  rcases nC_ hg with⟨h1,_⟩ | ⟨_,_,_,h2⟩
  ·rw[hv] at h1; cases h1
  ·exact h2
theorem sBm_(l:List ByteArray)(x:ByteArray):x∈sortB l↔x∈l:=(sBp_ l).mem_iff
theorem So_{l:List ByteArray}(h:l.length≤1000000000):sSS_ l=some ((),sortB l):=by unfold sSS_; rw[if_pos (by omega)]
theorem ac_{a:Tt}(h:AtomOk a):∃ v,ic_ [] a=some v∧(∀ x,x∈v↔x∈a.vars)∧v.length≤30:=by
 have hu:=a.cnt_u
 have hc:=h.cnt
 obtain⟨v,h1,h2,h3,_⟩:=vl_1 (fun _=>True) (fun n s x=>icN_1 n s x) (2*aw a) a.Args 0 [] (fun x hx acc _ hb=>by
  obtain⟨v,k1,k2⟩:=cNo_ x (h.hall x hx) acc trivial hb
  exact⟨v,fun n hn=>k1 n (by have:=Tt.lt hx; omega),k2⟩) trivial (by simp; omega)
 refine⟨v,lim_eq ⟨2*aw a+1,fun n hn=>?_⟩,fun x=>?_,by simp at h3; omega⟩
 ·cases n with
  | zero=>omega
  | succ n=>
   show icN_1 (n+1) [] a=_
   rw[icN_1,h.isv]
   simp only[ak,cond_false,Bool.cond_self,fNi_]
   rw[h1 n (by omega)]; rfl
 ·rw[h2,Tvu_,h.nv]; simp
theorem av_{a:Tt}(h:AtomOk a):∃ v,iv_ a=some v∧(∀ x,x∈v↔x∈a.vars)∧v.length≤30:=by
 obtain⟨v,h1,h2,h3⟩:=ac_ h
 unfold iv_
 rw[h1,ak,So_ (by omega),ak]
 exact⟨_,rfl,fun x=>by rw[sBm_,h2],by rw[(sBp_ v).length_eq]; exact h3⟩
theorem lIN_(t:Tt):t.Ok→t.good=true→∀ acc,True→acc.length+t.cnt≤1000→∃ v,(∀ n,2*aw t≤n→slI_1 n acc t=some v)∧VS (fun _=>True) acc v t.vars t.cnt:=by
 refine Tt.ind' (M:=fun t=>t.Ok→t.good=true→∀ acc,True→acc.length+t.cnt≤1000→∃ v,(∀ n,2*aw t≤n→slI_1 n acc t=some v)∧VS (fun _=>True) acc v t.vars t.cnt) (fun t ih hok hg acc _ hb=>?_) t
 have hp:=t.pos
 have hcp:=t.cnt_pos
 rcases nC_ hg with⟨hv,ha⟩ | ⟨hv,hs,_,hall⟩
 ·refine⟨putS t.Name acc,fun n hn=>?_,fun x=>?_,?_,fun _=>trivial⟩
  ·cases n with
   | zero=>omega
   | succ n=>rw[slI_1,lVe_ _ hok.u.1,ak,hv,cond_true,lPe_ _ _ (by omega)]; rfl
  ·rw[pSm_,Tvu_,hv,cond_true,List.mem_singleton,or_comm]
  ·have:=pSl_ t.Name acc; omega
 ·have hcu:=t.cnt_u
  obtain⟨v,h1,h2,h3,_⟩:=vl_1 (fun _=>True) (fun n s x=>slI_1 n s x) (2*aw t-1) t.Args 0 acc (fun a ha acc _ hb=>by
   obtain⟨v,k1,k2⟩:=ih a ha (hok.u.2.2 a ha) (hall a ha) acc trivial hb
   exact⟨v,fun n hn=>k1 n (by have:=Tt.lt ha; omega),k2⟩) trivial (by omega)
  refine⟨v,fun n hn=>?_,fun x=>by rw[h2,Tvu_,hv,cond_false],by omega,fun _=>trivial⟩
  cases n with
  | zero=>omega
  | succ n=>
   rw[slI_1,lVe_ _ hok.u.1,ak,hv]
   simp only[cond_false,fNi_]
   rw[h1 n (by omega)]; rfl
theorem lVo_{t:Tt}(hok:t.Ok)(hg:t.good=true)(hc:t.cnt≤1000):∃ v,slV_1 t=some v∧(∀ x,x∈v↔x∈t.vars):=by
 obtain⟨v,h1,h2,_⟩:=lIN_ t hok hg [] trivial (by simpa using hc)
 refine⟨v,?_,fun x=>by simpa using h2 x⟩
 unfold slV_1
 rw[show slI_8 [] t=some v from lim_eq ⟨_,h1⟩]; rfl
theorem alV_{a:Tt}(hok:a.Ok)(h:AtomOk a):∃ v,slV_1 a=some v∧(∀ x,x∈v↔x∈a.vars)∧v.length≤30:=by
 have hu:=a.cnt_u
 have hc:=h.cnt
 obtain⟨v,h1,h2,h3,_⟩:=vl_1 (fun _=>True) (fun n s x=>slI_1 n s x) (2*aw a) a.Args 0 [] (fun x hx acc _ hb=>by
  obtain⟨v,k1,k2⟩:=lIN_ x (hok.u.2.2 x hx) (h.hall x hx) acc trivial hb
  exact⟨v,fun n hn=>k1 n (by have:=Tt.lt hx; omega),k2⟩) trivial (by simp; omega)
 refine⟨v,?_,fun x=>?_,by simp at h3; omega⟩
 ·unfold slV_1
  rw[show slI_8 [] a=some v from lim_eq ⟨2*aw a+1,fun n hn=>?_⟩]
  ·rfl
  ·cases n with
   | zero=>omega
   | succ n=>
    show slI_1 (n+1) [] a=_
    rw[slI_1,lVe_ _ hok.u.1,ak,h.nv]
    simp only[cond_false,fNi_]
    rw[h1 n (by omega)]; rfl
 ·rw[h2,Tvu_,h.nv]; simp

def isQ(o:Int):Bool:=decide (o=8)||decide (o=9)
theorem zTi_1{t:Tt}:zeroT t=true↔t=⟨⟨#[]⟩,[]⟩:=by
 unfold zeroT
 rw[aD,decide_eq_true_iff,List.isEmpty_iff]
 constructor
 ·rintro ⟨h1,h2⟩; rw[← t.eta,h1,h2]
 ·intro h; rw[h]; exact⟨rfl,rfl⟩
theorem gs_{a:Ft}(h:a.good=true):formC a.Op a.Atom a.Var a.Parts.length=true∧∀ p∈a.Parts,p.good=true:=by
 rw[Ft.good_u,aD] at h
 exact⟨h.1,List.all_eq_true.1 h.2⟩
theorem fCc_{o:Int}{t:Tt}{v:ByteArray}{k:Nat}(h:formC o t v k=true):
 (o=3∧isQ o=false∧k=0∧atomT t=true∧v=⟨#[]⟩)∨(o≠3∧isQ o=true∧k=1∧t=⟨⟨#[]⟩,[]⟩∧isVarS v=true)∨(o≠3∧isQ o=false∧k≤2∧t=⟨⟨#[]⟩,[]⟩∧v=⟨#[]⟩):=by
 unfold formC at h
 by_cases e3:o=3
 ·rw[decide_eq_true e3,cond_true] at h
  simp only[aD,decide_eq_true_eq] at h
  exact .inl ⟨e3,by rw[e3]; rfl,h.1,h.2.1,h.2.2⟩
 ·rw[decide_eq_false e3,cond_false] at h
  cases hq:(decide (o=8)||decide (o=9))
  ·rw[hq,cond_false,aD,aD] at h
   refine .inr (.inr ⟨e3,hq,?_,zTi_1.1 h.2.1,of_decide_eq_true h.2.2⟩)
   have h1:=h.1
   cases h12:(decide (o=1)||decide (o=2))
   ·rw[h12,cond_false] at h1
    cases h4:decide (o=4)
    ·rw[h4,cond_false] at h1
     cases h5:(decide (o=5)||(decide (o=6)||decide (o=7)))
     ·rw[h5] at h1; cases h1
     ·rw[h5,cond_true,decide_eq_true_iff] at h1; omega
    ·rw[h4,cond_true,decide_eq_true_iff] at h1; omega
   ·rw[h12,cond_true,decide_eq_true_iff] at h1; omega
  ·rw[hq,cond_true] at h
   simp only[aD,decide_eq_true_eq] at h
   exact .inr (.inl ⟨e3,hq,h.1,zTi_1.1 h.2.1,h.2.2⟩)
theorem fm_{a:Ft}:∀ {l:List Ft},a∈l→a.cnt≤bw l
 | b::l,h=>by
  simp only[bw]
  rcases List.mem_cons.1 h with rfl | h
  ·omega
  ·have:=fm_ h; omega
theorem fcnt_u(a:Ft):a.cnt=1+bw a.Parts:=by rw[Ft.cnt_u,Ft.cnts_eq]
theorem fl_2:∀ l:List Ft,l.length≤bw l
 | []=>by simp
 | a::l=>by have:=fl_2 l; have:=a.cnt_pos; simp only[bw,aP]; omega

mutual
def Ft.fv(x:ByteArray):Ft→Bool
 | .mk o a v ps=>bif decide (o=3) then hasV x a.vars else !(isQ o&&decide (v=x))&&Ff_ x ps
def Ff_(x:ByteArray):List Ft→Bool
 | []=>false
 | a::l=>a.fv x||Ff_ x l
end
theorem Ffu_(x:ByteArray)(a:Ft):a.fv x=bif decide (a.Op=3) then hasV x a.Atom.vars else !(isQ a.Op&&decide (a.Var=x))&&Ff_ x a.Parts:=by cases a; rw[Ft.fv]; rfl
def GV(acc v:List ByteArray)(P:ByteArray→Bool)(bnd:List ByteArray)(c:Nat):Prop:=(∀ x,x∈v↔x∈acc∨(P x=true∧x∉bnd))∧v.length≤acc.length+c
theorem gl_(bnd:List ByteArray)(F:Nat→List ByteArray→Ft→Option (List ByteArray))(N:Nat):∀ (l:List Ft) (i:Nat) (acc:List ByteArray),
 (∀ a∈l,∀ acc:List ByteArray,acc.length+30*a.cnt≤1000000→∃ v,(∀ n,N≤n→F n acc a=some v)∧GV acc v (fun x=>a.fv x) bnd (30*a.cnt))→acc.length+30*bw l≤1000000→
 ∃ v,(∀ n,N≤n→forL (ρ:=List ByteArray) (fun _ x s=>(F n s x).bind fun w=>some (.nx w)) l i acc=some (.inr v))∧GV acc v (fun x=>Ff_ x l) bnd (30*bw l)
 | [],i,acc,_,_=>⟨acc,fun _ _=>rfl,fun x=>by simp[Ff_],by simp[bw]⟩
 | a::l,i,acc,h,hb=>by
  simp only[bw] at hb
  obtain⟨v,h1,h2,h3⟩:=h a (by simp) acc (by omega)
  obtain⟨w,g1,g2,g3⟩:=gl_ bnd F N l (i+1) v (fun b hb=>h b (by simp[hb])) (by omega)
  refine⟨w,fun n hn=>?_,fun x=>?_,?_⟩
  ·rw[fLn_ (s':=v) (by rw[h1 n hn]; rfl),g1 n hn]
  ·rw[g2,h2]; simp only[Ff_,Bool.or_eq_true,or_and_right,or_assoc]
  ·simp only[bw]; omega
theorem ai_(bnd:List ByteArray):∀ (V:List ByteArray) (i:Nat) (acc:List ByteArray),acc.length+V.length≤1000000→
 ∃ v,forL (ρ:=List ByteArray) (fun _ x s=>bif hasV x bnd then some (.nx s) else bif hasV x s then some (.nx s) else(app s [x]).bind fun w=>some (.nx w)) V i acc=some (.inr v)∧GV acc v (fun x=>hasV x V) bnd V.length
 | [],i,acc,_=>⟨acc,rfl,fun x=>by simp[hasV],by simp⟩
 | y::V,i,acc,hb=>by
  simp only[aP] at hb
  have key:∃ u,(bif hasV y bnd then some (Flow.nx acc) else bif hasV y acc then some (.nx acc) else(app acc [y]).bind fun w=>some (.nx w))=some (Flow.nx (ρ:=List ByteArray) u)∧(∀ x,x∈u↔x∈acc∨(x=y∧x∉bnd))∧u.length≤acc.length+1:=by
   cases h1:hasV y bnd
   ·have h1':y∉bnd:=fun h=>by rw[hVi_.2 h] at h1; cases h1
    cases h2:hasV y acc
    ·refine⟨acc++[y],?_,fun x=>?_,by simp⟩
     ·simp only[cond_false]; unfold app; rw[if_pos (by simp only[aP,List.length_nil]; omega)]; rfl
     ·simp only[List.mem_append,List.mem_singleton]
      exact⟨fun h=>h.imp id (fun e=>⟨e,e▸h1'⟩),fun h=>h.imp id (fun e=>e.1)⟩
    ·refine⟨acc,rfl,fun x=>⟨.inl,fun h=>h.elim id (fun e=>by rw[e.1]; exact hVi_.1 h2)⟩,by omega⟩
   ·exact⟨acc,rfl,fun x=>⟨.inl,fun h=>h.elim id (fun e=>absurd (by rw[e.1]; exact hVi_.1 h1) e.2)⟩,by omega⟩
  obtain⟨u,k1,k2,k3⟩:=key
  obtain⟨w,g1,g2,g3⟩:=ai_ bnd V (i+1) u (by omega)
  refine⟨w,by rw[fLn_ (s':=u) k1,g1],fun x=>?_,by simp only[aP]; omega⟩
  rw[g2,k2,hVi_,hVi_,List.mem_cons,or_and_right,or_assoc]
theorem as_3(bnd:List ByteArray):∀ (V:List ByteArray) (i:Nat) (acc:List ByteArray),acc.length+V.length≤1000000→
 ∃ v,forL (ρ:=List ByteArray) (fun _ x s=>bif hasV x bnd then some (.nx s) else(slP_4 s x).bind fun w=>some (.nx w)) V i acc=some (.inr v)∧GV acc v (fun x=>hasV x V) bnd V.length
 | [],i,acc,_=>⟨acc,rfl,fun x=>by simp[hasV],by simp⟩
 | y::V,i,acc,hb=>by
  simp only[aP] at hb
  have key:∃ u,(bif hasV y bnd then some (Flow.nx acc) else(slP_4 acc y).bind fun w=>some (.nx w))=some (Flow.nx (ρ:=List ByteArray) u)∧(∀ x,x∈u↔x∈acc∨(x=y∧x∉bnd))∧u.length≤acc.length+1:=by
   cases h1:hasV y bnd
   ·have h1':y∉bnd:=fun h=>by rw[hVi_.2 h] at h1; cases h1
    refine⟨putS y acc,by rw[cond_false,lPe_ _ _ (by omega)]; rfl,fun x=>?_,pSl_ y acc⟩
    rw[pSm_]
    exact⟨fun h=>h.elim (fun e=>.inr ⟨e,e▸h1'⟩) .inl,fun h=>h.elim .inr (fun e=>.inl e.1)⟩
   ·exact⟨acc,rfl,fun x=>⟨.inl,fun h=>h.elim id (fun e=>absurd (by rw[e.1]; exact hVi_.1 h1) e.2)⟩,by omega⟩
  obtain⟨u,k1,k2,k3⟩:=key
  obtain⟨w,g1,g2,g3⟩:=as_3 bnd V (i+1) u (by omega)
  refine⟨w,by rw[fLn_ (s':=u) k1,g1],fun x=>?_,by simp only[aP]; omega⟩
  rw[g2,k2,hVi_,hVi_,List.mem_cons,or_and_right,or_assoc]
theorem GV.bound{acc v bnd:List ByteArray}{y:ByteArray}{P Q:ByteArray→Bool}{c d:Nat}(h:GV acc v P (bnd++[y]) c)(hq:∀ x,Q x=(!decide (y=x)&&P x))(hc:c≤d):GV acc v Q bnd d:=by
 refine⟨fun x=>?_,by have:=h.2; omega⟩
 rw[h.1,hq]
 simp only[List.mem_append,List.mem_singleton,aD,Bool.not_eq_true',decide_eq_false_iff_not,not_or]
 constructor
 ·rintro (h | ⟨h1,h2,h3⟩)
  ·exact .inl h
  ·exact .inr ⟨⟨fun e=>h3 e.symm,h1⟩,h2⟩
 ·rintro (h | ⟨⟨h1,h2⟩,h3⟩)
  ·exact .inl h
  ·exact .inr ⟨h2,h3,fun e=>h1 e.symm⟩
theorem GV.congr{acc v bnd:List ByteArray}{P Q:ByteArray→Bool}{c d:Nat}(h:GV acc v P bnd c)(hq:∀ x,Q x=P x)(hc:c≤d):GV acc v Q bnd d:=
 ⟨fun x=>by rw[h.1,hq],by have:=h.2; omega⟩
theorem cs_1(l:List ByteArray)(h:l.length≤1000000):sCS_6 l=some l:=by
 unfold sCS_6 app
 rw[if_pos (by simp; omega)]; rfl
theorem as_4(l:List ByteArray)(y:ByteArray)(h:l.length≤1000000):app l [y]=some (l++[y]):=by unfold app; rw[if_pos (by simp only[aP,List.length_nil]; omega)]
theorem ans_(l:List ByteArray)(h:l.length≤1000000):app ([]:List ByteArray) l=some l:=by unfold app; rw[if_pos (by simp; omega)]; rfl
theorem ge_(f:Ft):f.good=true→∀ acc bnd:List ByteArray,acc.length+30*f.cnt≤1000000→bnd.length+f.cnt≤1000000→
 ∃ v,(∀ n,2*aw f≤n→igN_ n acc f bnd=some v)∧GV acc v (fun x=>f.fv x) bnd (30*f.cnt):=by
 refine Ft.ind' (M:=fun f=>f.good=true→∀ acc bnd:List ByteArray,acc.length+30*f.cnt≤1000000→bnd.length+f.cnt≤1000000→
  ∃ v,(∀ n,2*aw f≤n→igN_ n acc f bnd=some v)∧GV acc v (fun x=>f.fv x) bnd (30*f.cnt)) (fun f ih hg acc bnd hb hbb=>?_) f
 have hp:=f.pos
 have hcp:=f.cnt_pos
 have hu:=fcnt_u f
 obtain⟨hform,hparts⟩:=gs_ hg
 rcases fCc_ hform with⟨e3,hq,_,hat,_⟩ | ⟨e3,hq,_,_,_⟩ | ⟨e3,hq,_,_,_⟩
 ·obtain⟨V,h1,h2,h3⟩:=av_ (aTo_ hat)
  obtain⟨v,g1,g2⟩:=ai_ bnd V 0 acc (by omega)
  refine⟨v,fun n hn=>?_,g2.congr (fun x=>by rw[Ffu_,decide_eq_true e3,cond_true]; exact hVc_ (h2 x).symm) (by omega)⟩
  cases n with
  | zero=>omega
  | succ n=>
   rw[igN_,decide_eq_true e3,cond_true,h1,ak,fNf_ _ (fun _ x s=>bif hasV x bnd then some (.nx s) else bif hasV x s then some (.nx s) else(app s [x]).bind fun w=>some (.nx w)) V 0 acc (fun j x s hx=>by
    simp only[Nat.zero_add,in_,hx,ak,Cs_]; rfl),g1]
   rfl
 ·obtain⟨v,g1,g2⟩:=gl_ (bnd++[f.Var]) (fun n s x=>igN_ n s x (bnd++[f.Var])) (2*aw f-1) f.Parts 0 acc (fun a ha acc hb=>by
   obtain⟨v,k1,k2⟩:=ih a ha (hparts a ha) acc (bnd++[f.Var]) hb (by have:=fm_ ha; simp; omega)
   exact⟨v,fun n hn=>k1 n (by have:=Ft.lt ha; omega),k2⟩) (by omega)
  refine⟨v,fun n hn=>?_,g2.bound (fun x=>by rw[Ffu_,decide_eq_false e3,cond_false,hq,Bool.true_and]) (by omega)⟩
  cases n with
  | zero=>omega
  | succ n=>
   rw[igN_,decide_eq_false e3,cond_false,isQ_eq,ak,show(decide (f.Op=8)||decide (f.Op=9))=true from hq,cond_true,cs_1 _ (by omega),ak,as_4 _ _ (by omega),ak]
   simp only[fNi_]
   rw[g1 n (by omega)]; rfl
 ·obtain⟨v,g1,g2⟩:=gl_ bnd (fun n s x=>igN_ n s x bnd) (2*aw f-1) f.Parts 0 acc (fun a ha acc hb=>by
   obtain⟨v,k1,k2⟩:=ih a ha (hparts a ha) acc bnd hb (by have:=fm_ ha; omega)
   exact⟨v,fun n hn=>k1 n (by have:=Ft.lt ha; omega),k2⟩) (by omega)
  refine⟨v,fun n hn=>?_,g2.congr (fun x=>by rw[Ffu_,decide_eq_false e3,cond_false,hq]; simp) (by omega)⟩
  cases n with
  | zero=>omega
  | succ n=>
   rw[igN_,decide_eq_false e3,cond_false,isQ_eq,ak,show(decide (f.Op=8)||decide (f.Op=9))=false from hq,cond_false]
   simp only[fNi_]
   rw[g1 n (by omega)]; rfl
theorem ie_(f:Ft):f.Ok→f.good=true→∀ acc bnd:List ByteArray,acc.length+30*f.cnt≤1000000→bnd.length+f.cnt≤1000000→
 ∃ v,(∀ n,2*aw f≤n→slI_ n acc f bnd=some v)∧GV acc v (fun x=>f.fv x) bnd (30*f.cnt):=by
 refine Ft.ind' (M:=fun f=>f.Ok→f.good=true→∀ acc bnd:List ByteArray,acc.length+30*f.cnt≤1000000→bnd.length+f.cnt≤1000000→
  ∃ v,(∀ n,2*aw f≤n→slI_ n acc f bnd=some v)∧GV acc v (fun x=>f.fv x) bnd (30*f.cnt)) (fun f ih hok hg acc bnd hb hbb=>?_) f
 have hp:=f.pos
 have hcp:=f.cnt_pos
 have hu:=fcnt_u f
 obtain⟨hform,hparts⟩:=gs_ hg
 have hokp:=hok.u.2.2.2.2
 rcases fCc_ hform with⟨e3,hq,hk,hat,_⟩ | ⟨e3,hq,_,_,_⟩ | ⟨e3,hq,_,_,_⟩
 ·obtain⟨V,h1,h2,h3⟩:=alV_ hok.u.2.1 (aTo_ hat)
  obtain⟨v,g1,g2⟩:=as_3 bnd V 0 acc (by omega)
  refine⟨v,fun n hn=>?_,g2.congr (fun x=>by rw[Ffu_,decide_eq_true e3,cond_true]; exact hVc_ (h2 x).symm) (by omega)⟩
  have h0:f.Parts=[]:=List.eq_nil_of_length_eq_zero hk
  cases n with
  | zero=>omega
  | succ n=>
   rw[slI_,decide_eq_true e3,cond_true,h1,ak,fNf_ _ (fun _ x s=>bif hasV x bnd then some (.nx s) else(slP_4 s x).bind fun w=>some (.nx w)) V 0 acc (fun j x s hx=>by
    simp only[Nat.zero_add,in_,hx,ak,lIe_1]),g1,tLi_,e3,h0]
   rfl
 ·obtain⟨v,g1,g2⟩:=gl_ (bnd++[f.Var]) (fun n s x=>slI_ n s x (bnd++[f.Var])) (2*aw f-1) f.Parts 0 acc (fun a ha acc hb=>by
   obtain⟨v,k1,k2⟩:=ih a ha (hokp a ha) (hparts a ha) acc (bnd++[f.Var]) hb (by have:=fm_ ha; simp; omega)
   exact⟨v,fun n hn=>k1 n (by have:=Ft.lt ha; omega),k2⟩) (by omega)
  refine⟨v,fun n hn=>?_,g2.bound (fun x=>by rw[Ffu_,decide_eq_false e3,cond_false,hq,Bool.true_and]) (by omega)⟩
  cases n with
  | zero=>omega
  | succ n=>
   rw[slI_,decide_eq_false e3,cond_false,ans_ _ (by omega)]
   simp only[ak,as_4 _ _ (show bnd.length≤1000000 by omega),fNi_]
   rw[g1 n (by omega)]
   unfold isQ at hq
   cases e8:decide (f.Op=8)
   ·rw[e8,Bool.false_or] at hq; rw[hq]; rfl
   ·rfl
 ·obtain⟨v,g1,g2⟩:=gl_ bnd (fun n s x=>slI_ n s x bnd) (2*aw f-1) f.Parts 0 acc (fun a ha acc hb=>by
   obtain⟨v,k1,k2⟩:=ih a ha (hokp a ha) (hparts a ha) acc bnd hb (by have:=fm_ ha; omega)
   exact⟨v,fun n hn=>k1 n (by have:=Ft.lt ha; omega),k2⟩) (by omega)
  refine⟨v,fun n hn=>?_,g2.congr (fun x=>by rw[Ffu_,decide_eq_false e3,cond_false,hq]; simp) (by omega)⟩
  cases n with
  | zero=>omega
  | succ n=>
   unfold isQ at hq
   rw[Bool.or_eq_false_iff] at hq
   rw[slI_,decide_eq_false e3,cond_false,hq.1,cond_false,hq.2,cond_false]
   simp only[fNi_]
   rw[g1 n (by omega)]; rfl
theorem fi_1{f:Ft}(hg:f.good=true)(hc:f.cnt≤10000):∃ v,if_ f=some v∧∀ x,hasV x v=f.fv x:=by
 obtain⟨v,h1,h2,h3⟩:=ge_ f hg [] [] (by simp; omega) (by simp; omega)
 unfold if_
 rw[show ig_ [] f []=some v from lim_eq ⟨_,h1⟩,ak,So_ (by simp at h3; omega),ak]
 refine⟨_,rfl,fun x=>?_⟩
 rw[Bool.eq_iff_iff,hVi_,sBm_,h2]; simp
theorem fs_1{f:Ft}(hok:f.Ok)(hg:f.good=true)(hc:f.cnt≤10000):∃ v,slF_1 f=some v∧∀ x,hasV x v=f.fv x:=by
 obtain⟨v,h1,h2,h3⟩:=ie_ f hok hg [] [] (by simp; omega) (by simp; omega)
 unfold slF_1
 rw[show slI_6 [] f []=some v from lim_eq ⟨_,h1⟩,ak]
 refine⟨_,rfl,fun x=>?_⟩
 rw[Bool.eq_iff_iff,hVi_,h2]; simp
end Go.Proofs.YtkoghcphkdecoaaGreat
