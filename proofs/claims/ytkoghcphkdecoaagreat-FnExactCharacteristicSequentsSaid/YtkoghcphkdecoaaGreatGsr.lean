/- A part of the proof: lemmas only; nothing is claimed here beyond what each lemma says. -/
import Derived.Test.YtkoghcphkdecoaaGreatGsq
set_option linter.unusedSimpArgs false
set_option linter.unusedVariables false
set_option linter.defProp false
set_option maxRecDepth 4000
namespace Go.Proofs.YtkoghcphkdecoaaGreat
open Go.Av
open Bool renaming and_eq_true→aD
open Int renaming reduceEq→bk
open List renaming map_cons→aM,mem_cons→bm
open Option renaming bind_some→ak
theorem cm_2{l:List Ft}{p:Ft}(h:p∈l):p.cnt≤(l.map Ft.cnt).sum:=by
 induction l with
 | nil=>cases h
 | cons a l ih=>
  rw[aM,List.sum_cons]
  rcases List.mem_cons.1 h with rfl | h
  ·omega
  ·have:=ih h; omega
theorem pv_{f p:Ft}(h:validF f=true)(hp:p∈f.Parts):validF p=true:=by
 obtain⟨h1,h2⟩:=vFi_ h
 rw[Ft.good_u,aD,List.all_eq_true] at h2
 have h3:=cm_2 hp
 rw[Ft.cnt_u] at h1
 unfold validF
 rw[h2.2 p hp,Bool.and_true]
 exact decide_eq_true (by omega)
theorem fo_{f:Ft}(h:validF f=true):formC f.Op f.Atom f.Var f.Parts.length=true:=by
 have h2:=(vFi_ h).2
 rw[Ft.good_u,aD] at h2
 exact h2.1
theorem op_{f:Ft}(h:validF f=true)(ho:f.Op=4∨f.Op=8∨f.Op=9):∃ p,f.Parts=[p]:=by
 have h2:=fo_ h
 have:f.Parts.length=1:=by
  unfold formC at h2
  rcases ho with e | e | e<;>rw[e] at h2<;>simp at h2<;>omega
 match hp:f.Parts,this with
 | [p],_=>exact⟨p,rfl⟩
theorem tp_{f:Ft}(h:validF f=true)(ho:f.Op=5∨f.Op=6∨f.Op=7):∃ p q,f.Parts=[p,q]:=by
 have h2:=fo_ h
 have:f.Parts.length=2:=by
  unfold formC at h2
  rcases ho with e | e | e<;>rw[e] at h2<;>simp at h2<;>omega
 match hp:f.Parts,this with
 | [p,q],_=>exact⟨p,q,rfl⟩
theorem q_var{f:Ft}(h:validF f=true)(ho:f.Op=8∨f.Op=9):isVarS f.Var=true:=by
 have h2:=fo_ h
 unfold formC at h2
 rcases ho with e | e<;>rw[e] at h2<;>simp at h2<;>exact h2.2.2
theorem Vl.nil(k:Nat):Vl [] k:=⟨fun _ h=>(nomatch h),Nat.zero_le _⟩
theorem Vl.one{p:Ft}(h:validF p=true):Vl [p] 2:=⟨fun f hf=>by rw[List.mem_singleton.1 hf]; exact h,by simp⟩
theorem Vl.two{p q:Ft}(h:validF p=true)(g:validF q=true):Vl [p,q] 2:=by
 refine⟨fun f hf=>?_,by simp⟩
 simp only[bm,List.not_mem_nil,or_false] at hf
 rcases hf with rfl | rfl
 ·exact h
 ·exact g
def fvS(s:Sa)(x:ByteArray):Bool:=s.Left.any (fun f=>f.fv x)||s.Right.any (fun f=>f.fv x)
theorem fIe_{s:Sa}(hl:Vl s.Left 10)(hr:Vl s.Right 10)(x:ByteArray):iiF_2 s x=some (fvS s x):=by
 have key:∀ l:List Ft,Vl l 10→sCF_ l (fun y0=>iiF_ y0 x)=some (l.any fun f=>f.fv x):=fun l h=>by
  refine contFm l (fun f hf=>?_)
  obtain⟨h1,h2⟩:=vFi_ (h.val f hf)
  obtain⟨v,e,hv⟩:=fi_1 h2 (by omega)
  unfold iiF_
  rw[e,ak,ChV_,ak,hv]
 unfold iiF_2 fvS
 rw[key _ hl,ak]
 cases s.Left.any fun f=>f.fv x
 ·rw[cond_false,key _ hr]; rfl
 ·rfl
theorem Vl.cnts{l:List Ft}{k:Nat}(h:Vl l k):Ft.cnts l≤40*k:=by
 have:∀ l:List Ft,(∀ f∈l,validF f=true)→Ft.cnts l≤40*l.length:=by
  intro l
  induction l with
  | nil=>intro _; exact Nat.zero_le _
  | cons a l ih=>
   intro h
   have h1:=(vFi_ (h a (by simp))).1
   have h2:=ih (fun f hf=>h f (by simp[hf]))
   simp only[Ft.cnts,List.length_cons]; omega
 have h1:=this l h.val
 have h2:=Nat.mul_le_mul_left 40 h.len
 omega
theorem nl_{l:List Ft}(h:Vl l 10)(acc:List ByteArray)(hb:acc.length≤20000):
 ∃ v,forL (ρ:=List ByteArray) (fun _ x s=>(slI_6 s x []).bind fun w=>some (.nx w)) l 0 acc=some (.inr v)∧(∀ x,x∈v↔x∈acc∨Ff_ x l=true)∧v.length≤acc.length+12000:=by
 have hc:=h.cnts
 obtain⟨v,h1,h2,h3⟩:=gl_ [] (fun _ s x=>slI_6 s x []) 0 l 0 acc (fun a ha acc hb=>by
  obtain⟨g1,g2⟩:=vFi_ (h.val a ha)
  obtain⟨v,k1,k2⟩:=ie_ a (vFO_ (h.val a ha)) g2 acc [] hb (by simp; omega)
  exact⟨v,fun _ _=>lim_eq ⟨_,k1⟩,k2⟩) (by omega)
 exact⟨v,h1 0 (Nat.le_refl _),fun x=>by rw[h2]; simp,by omega⟩
theorem ne_{s:Sa}(hl:Vl s.Left 10)(hr:Vl s.Right 10):∃ v,slN_7 s=some v∧(∀ x,hasV x v=fvS s x)∧v.length≤100000:=by
 obtain⟨v,h1,h2,h3⟩:=nl_ hl [] (by simp)
 simp only[List.length_nil] at h3
 obtain⟨w,g1,g2,g3⟩:=nl_ hr v (by omega)
 refine⟨w,?_,fun x=>?_,by omega⟩
 ·unfold slN_7
  simp only[fNi_]
  rw[h1,tLi_,g1,tLi_]
 ·have e:∀ l:List Ft,Ff_ x l=l.any fun f=>f.fv x:=by
   intro l
   induction l with
   | nil=>rfl
   | cons a l ih=>rw[Ff_,ih]; rfl
  rw[Bool.eq_iff_iff,hVi_,g2,h2,e,e]
  unfold fvS
  simp
theorem mi_{l:List Ft}(hl:l.length≤1000)(m:Int):inR m 0 (IntKind.i64.wrap ((l.length:Int)-1))=false∨
 (inR m 0 (IntKind.i64.wrap ((l.length:Int)-1))=true∧∃ f∈l,idx l m=some f):=by
 have w:IntKind.i64.wrap ((l.length:Int)-1)=(l.length:Int)-1:=by rw[wrap64]<;>omega
 rw[w]
 cases h:inR m 0 ((l.length:Int)-1)
 ·exact .inl rfl
 ·refine .inr ⟨rfl,?_⟩
  unfold inR at h
  simp only[aD,decide_eq_true_eq] at h
  exact⟨_,gDm_ (show m.toNat<l.length by omega),ii_1 h.1 (by omega)⟩
theorem rule3{s:Sa}{d:Dt}(hr:d.Rule=3)(hl:Vl s.Left 10)(hR:Vl s.Right 10)(hcut:same d.Cut (⟨0,⟨⟨#[]⟩,[]⟩,⟨#[]⟩,[]⟩:Ft)=true)(ht:zeroT d.Term=true)(hz:same d.Term (⟨⟨#[]⟩,[]⟩:Tt)=true):
 ∃ xs b L,ia_ s d=some (xs,b)∧slR_ s d=some (L,b)∧(b=true→L=xs.map (prem s d)∧∀ x∈xs,Vl x.Left 2∧Vl x.Right 2)∧xs.length≤2:=by
 have ml:=hl.mod (by omega)
 have mr:=hR.mod (by omega)
 have hop:slO_1 3=some 4:=rfl
 have hon:slO_ 3=some true:=rfl
 have p1:remI d true=d.Main:=by unfold remI; rw[hr]; rfl
 have p2:remI d false=-1:=by unfold remI; rw[hr]; rfl
 have hm:mOn 3=(true,4):=rfl
 have hq:inR 3 11 14=false:=rfl
 have hw:inR 3 1 15=true:=rfl
 unfold ia_ slR_
 rw[hr]
 simp only[we_,lIe_,sFo_,lSo_,lSo_1,zTi_,ak,iiQ_1,imF_,mOe_,hr,ht,hz,hcut,hop,hon,hm,hq,hw,bk,decide_false,decide_true,cond_true,cond_false,Bool.not_true,beq_self_eq_true]
 rcases mi_ (l:=s.Left) (by have:=hl.len; omega) d.Main with h | ⟨h,f,hf,he⟩
 ·simp only[h,cond_false,ak]
  exact⟨_,_,_,rfl,rfl,fun h=>(nomatch h),by simp⟩
 ·have hv:=hl.val f hf
  simp only[h,he,ak,cond_true]
  cases ho:decide (f.Op=4)
  ·exact⟨_,_,_,rfl,rfl,fun h=>(nomatch h),by simp⟩
  ·obtain⟨p,hp⟩:=op_ hv (.inl (of_decide_eq_true ho))
   have vp:=pv_ hv (p:=p) (by rw[hp]; simp)
   have mp:Mod [p]:=(Vl.one vp).mod (by omega)
   simp only[cond_true,ak,ia1_,hp]
   unfold slP_
   have e1:slc [p] 0 1=some [p]:=rfl
   have e2:idx [p] 0=some p:=rfl
   rw[e1,e2]
   simp only[ak,decide_true,cond_true,sn_ d.Main (-1) ml mr (m:=[]) (k:=[p]) ((Vl.nil 0).mod (by omega)) mp]
   refine⟨_,_,_,rfl,rfl,fun _=>⟨?_,?_⟩,by simp⟩
   ·simp only[aM,List.map_nil,prem,p1,p2]
   ·intro x hx
    rw[List.mem_singleton.1 hx]
    exact⟨Vl.nil 2,Vl.one vp⟩
theorem rule4{s:Sa}{d:Dt}(hr:d.Rule=4)(hl:Vl s.Left 10)(hR:Vl s.Right 10)(hcut:same d.Cut (⟨0,⟨⟨#[]⟩,[]⟩,⟨#[]⟩,[]⟩:Ft)=true)(ht:zeroT d.Term=true)(hz:same d.Term (⟨⟨#[]⟩,[]⟩:Tt)=true):
 ∃ xs b L,ia_ s d=some (xs,b)∧slR_ s d=some (L,b)∧(b=true→L=xs.map (prem s d)∧∀ x∈xs,Vl x.Left 2∧Vl x.Right 2)∧xs.length≤2:=by
 have ml:=hl.mod (by omega)
 have mr:=hR.mod (by omega)
 have hop:slO_1 4=some 4:=rfl
 have hon:slO_ 4=some false:=rfl
 have p1:remI d true=-1:=by unfold remI; rw[hr]; rfl
 have p2:remI d false=d.Main:=by unfold remI; rw[hr]; rfl
 have hm:mOn 4=(false,4):=rfl
 have hq:inR 4 11 14=false:=rfl
 have hw:inR 4 1 15=true:=rfl
 unfold ia_ slR_
 rw[hr]
 simp only[we_,lIe_,sFo_,lSo_,lSo_1,zTi_,ak,iiQ_1,imF_,mOe_,hr,ht,hz,hcut,hop,hon,hm,hq,hw,bk,decide_false,decide_true,cond_true,cond_false,Bool.not_true,beq_self_eq_true]
 rcases mi_ (l:=s.Right) (by have:=hR.len; omega) d.Main with h | ⟨h,f,hf,he⟩
 ·simp only[h,cond_false,ak]
  exact⟨_,_,_,rfl,rfl,fun h=>(nomatch h),by simp⟩
 ·have hv:=hR.val f hf
  simp only[h,he,ak,cond_true]
  cases ho:decide (f.Op=4)
  ·exact⟨_,_,_,rfl,rfl,fun h=>(nomatch h),by simp⟩
  ·obtain⟨p,hp⟩:=op_ hv (.inl (of_decide_eq_true ho))
   have vp:=pv_ hv (p:=p) (by rw[hp]; simp)
   simp only[cond_true,ak,ia1_,hp]
   unfold slP_
   have e1:slc [p] 0 1=some [p]:=rfl
   have e2:idx [p] 0=some p:=rfl
   have n0:=sn_ (-1) d.Main ml mr (m:=[p]) (k:=[]) ((Vl.one vp).mod (by omega)) ((Vl.nil 2).mod (by omega))
   simp only[e1,e2,ak,bk,decide_false,decide_true,cond_true,cond_false,n0]
   refine⟨_,_,_,rfl,rfl,fun _=>⟨?_,?_⟩,by simp⟩
   ·simp only[aM,List.map_nil,prem,p1,p2]
   ·intro x hx
    simp only[bm,List.not_mem_nil,or_false] at hx
    rw[hx]
    exact⟨(Vl.one vp),(Vl.nil 2)⟩
theorem rule5{s:Sa}{d:Dt}(hr:d.Rule=5)(hl:Vl s.Left 10)(hR:Vl s.Right 10)(hcut:same d.Cut (⟨0,⟨⟨#[]⟩,[]⟩,⟨#[]⟩,[]⟩:Ft)=true)(ht:zeroT d.Term=true)(hz:same d.Term (⟨⟨#[]⟩,[]⟩:Tt)=true):
 ∃ xs b L,ia_ s d=some (xs,b)∧slR_ s d=some (L,b)∧(b=true→L=xs.map (prem s d)∧∀ x∈xs,Vl x.Left 2∧Vl x.Right 2)∧xs.length≤2:=by
 have ml:=hl.mod (by omega)
 have mr:=hR.mod (by omega)
 have hop:slO_1 5=some 5:=rfl
 have hon:slO_ 5=some true:=rfl
 have p1:remI d true=d.Main:=by unfold remI; rw[hr]; rfl
 have p2:remI d false=-1:=by unfold remI; rw[hr]; rfl
 have hm:mOn 5=(true,5):=rfl
 have hq:inR 5 11 14=false:=rfl
 have hw:inR 5 1 15=true:=rfl
 unfold ia_ slR_
 rw[hr]
 simp only[we_,lIe_,sFo_,lSo_,lSo_1,zTi_,ak,iiQ_1,imF_,mOe_,hr,ht,hz,hcut,hop,hon,hm,hq,hw,bk,decide_false,decide_true,cond_true,cond_false,Bool.not_true,beq_self_eq_true]
 rcases mi_ (l:=s.Left) (by have:=hl.len; omega) d.Main with h | ⟨h,f,hf,he⟩
 ·simp only[h,cond_false,ak]
  exact⟨_,_,_,rfl,rfl,fun h=>(nomatch h),by simp⟩
 ·have hv:=hl.val f hf
  simp only[h,he,ak,cond_true]
  cases ho:decide (f.Op=5)
  ·exact⟨_,_,_,rfl,rfl,fun h=>(nomatch h),by simp⟩
  ·obtain⟨p,q,hp⟩:=tp_ hv (by have:=of_decide_eq_true ho; omega)
   have vp:=pv_ hv (p:=p) (by rw[hp]; simp)
   have vq:=pv_ hv (p:=q) (by rw[hp]; simp)
   simp only[cond_true,ak,ia1_,hp]
   unfold slP_
   have e1:slc [p,q] 0 1=some [p]:=rfl
   have e2:idx [p,q] 0=some p:=rfl
   have e3:slc [p,q] 1 2=some [q]:=rfl
   have e4:idx [p,q] 1=some q:=rfl
   have n0:=sn_ d.Main (-1) ml mr (m:=[p,q]) (k:=[]) ((Vl.two vp vq).mod (by omega)) ((Vl.nil 2).mod (by omega))
   simp only[e1,e2,e3,e4,ak,bk,decide_false,decide_true,cond_true,cond_false,n0]
   refine⟨_,_,_,rfl,rfl,fun _=>⟨?_,?_⟩,by simp⟩
   ·simp only[aM,List.map_nil,prem,p1,p2]
   ·intro x hx
    simp only[bm,List.not_mem_nil,or_false] at hx
    rw[hx]
    exact⟨(Vl.two vp vq),(Vl.nil 2)⟩
theorem rule6{s:Sa}{d:Dt}(hr:d.Rule=6)(hl:Vl s.Left 10)(hR:Vl s.Right 10)(hcut:same d.Cut (⟨0,⟨⟨#[]⟩,[]⟩,⟨#[]⟩,[]⟩:Ft)=true)(ht:zeroT d.Term=true)(hz:same d.Term (⟨⟨#[]⟩,[]⟩:Tt)=true):
 ∃ xs b L,ia_ s d=some (xs,b)∧slR_ s d=some (L,b)∧(b=true→L=xs.map (prem s d)∧∀ x∈xs,Vl x.Left 2∧Vl x.Right 2)∧xs.length≤2:=by
 have ml:=hl.mod (by omega)
 have mr:=hR.mod (by omega)
 have hop:slO_1 6=some 5:=rfl
 have hon:slO_ 6=some false:=rfl
 have p1:remI d true=-1:=by unfold remI; rw[hr]; rfl
 have p2:remI d false=d.Main:=by unfold remI; rw[hr]; rfl
 have hm:mOn 6=(false,5):=rfl
 have hq:inR 6 11 14=false:=rfl
 have hw:inR 6 1 15=true:=rfl
 unfold ia_ slR_
 rw[hr]
 simp only[we_,lIe_,sFo_,lSo_,lSo_1,zTi_,ak,iiQ_1,imF_,mOe_,hr,ht,hz,hcut,hop,hon,hm,hq,hw,bk,decide_false,decide_true,cond_true,cond_false,Bool.not_true,beq_self_eq_true]
 rcases mi_ (l:=s.Right) (by have:=hR.len; omega) d.Main with h | ⟨h,f,hf,he⟩
 ·simp only[h,cond_false,ak]
  exact⟨_,_,_,rfl,rfl,fun h=>(nomatch h),by simp⟩
 ·have hv:=hR.val f hf
  simp only[h,he,ak,cond_true]
  cases ho:decide (f.Op=5)
  ·exact⟨_,_,_,rfl,rfl,fun h=>(nomatch h),by simp⟩
  ·obtain⟨p,q,hp⟩:=tp_ hv (by have:=of_decide_eq_true ho; omega)
   have vp:=pv_ hv (p:=p) (by rw[hp]; simp)
   have vq:=pv_ hv (p:=q) (by rw[hp]; simp)
   simp only[cond_true,ak,ia1_,hp]
   unfold slP_
   have e1:slc [p,q] 0 1=some [p]:=rfl
   have e2:idx [p,q] 0=some p:=rfl
   have e3:slc [p,q] 1 2=some [q]:=rfl
   have e4:idx [p,q] 1=some q:=rfl
   have n0:=sn_ (-1) d.Main ml mr (m:=[]) (k:=[p]) ((Vl.nil 2).mod (by omega)) ((Vl.one vp).mod (by omega))
   have n1:=sn_ (-1) d.Main ml mr (m:=[]) (k:=[q]) ((Vl.nil 2).mod (by omega)) ((Vl.one vq).mod (by omega))
   simp only[e1,e2,e3,e4,ak,bk,decide_false,decide_true,cond_true,cond_false,n0,n1]
   refine⟨_,_,_,rfl,rfl,fun _=>⟨?_,?_⟩,by simp⟩
   ·simp only[aM,List.map_nil,prem,p1,p2]
   ·intro x hx
    simp only[bm,List.not_mem_nil,or_false] at hx
    rcases hx with rfl | rfl
    ·exact⟨(Vl.nil 2),(Vl.one vp)⟩
    ·exact⟨(Vl.nil 2),(Vl.one vq)⟩
theorem rule7{s:Sa}{d:Dt}(hr:d.Rule=7)(hl:Vl s.Left 10)(hR:Vl s.Right 10)(hcut:same d.Cut (⟨0,⟨⟨#[]⟩,[]⟩,⟨#[]⟩,[]⟩:Ft)=true)(ht:zeroT d.Term=true)(hz:same d.Term (⟨⟨#[]⟩,[]⟩:Tt)=true):
 ∃ xs b L,ia_ s d=some (xs,b)∧slR_ s d=some (L,b)∧(b=true→L=xs.map (prem s d)∧∀ x∈xs,Vl x.Left 2∧Vl x.Right 2)∧xs.length≤2:=by
 have ml:=hl.mod (by omega)
 have mr:=hR.mod (by omega)
 have hop:slO_1 7=some 6:=rfl
 have hon:slO_ 7=some true:=rfl
 have p1:remI d true=d.Main:=by unfold remI; rw[hr]; rfl
 have p2:remI d false=-1:=by unfold remI; rw[hr]; rfl
 have hm:mOn 7=(true,6):=rfl
 have hq:inR 7 11 14=false:=rfl
 have hw:inR 7 1 15=true:=rfl
 unfold ia_ slR_
 rw[hr]
 simp only[we_,lIe_,sFo_,lSo_,lSo_1,zTi_,ak,iiQ_1,imF_,mOe_,hr,ht,hz,hcut,hop,hon,hm,hq,hw,bk,decide_false,decide_true,cond_true,cond_false,Bool.not_true,beq_self_eq_true]
 rcases mi_ (l:=s.Left) (by have:=hl.len; omega) d.Main with h | ⟨h,f,hf,he⟩
 ·simp only[h,cond_false,ak]
  exact⟨_,_,_,rfl,rfl,fun h=>(nomatch h),by simp⟩
 ·have hv:=hl.val f hf
  simp only[h,he,ak,cond_true]
  cases ho:decide (f.Op=6)
  ·exact⟨_,_,_,rfl,rfl,fun h=>(nomatch h),by simp⟩
  ·obtain⟨p,q,hp⟩:=tp_ hv (by have:=of_decide_eq_true ho; omega)
   have vp:=pv_ hv (p:=p) (by rw[hp]; simp)
   have vq:=pv_ hv (p:=q) (by rw[hp]; simp)
   simp only[cond_true,ak,ia1_,hp]
   unfold slP_
   have e1:slc [p,q] 0 1=some [p]:=rfl
   have e2:idx [p,q] 0=some p:=rfl
   have e3:slc [p,q] 1 2=some [q]:=rfl
   have e4:idx [p,q] 1=some q:=rfl
   have n0:=sn_ d.Main (-1) ml mr (m:=[p]) (k:=[]) ((Vl.one vp).mod (by omega)) ((Vl.nil 2).mod (by omega))
   have n1:=sn_ d.Main (-1) ml mr (m:=[q]) (k:=[]) ((Vl.one vq).mod (by omega)) ((Vl.nil 2).mod (by omega))
   simp only[e1,e2,e3,e4,ak,bk,decide_false,decide_true,cond_true,cond_false,n0,n1]
   refine⟨_,_,_,rfl,rfl,fun _=>⟨?_,?_⟩,by simp⟩
   ·simp only[aM,List.map_nil,prem,p1,p2]
   ·intro x hx
    simp only[bm,List.not_mem_nil,or_false] at hx
    rcases hx with rfl | rfl
    ·exact⟨(Vl.one vp),(Vl.nil 2)⟩
    ·exact⟨(Vl.one vq),(Vl.nil 2)⟩
theorem rule8{s:Sa}{d:Dt}(hr:d.Rule=8)(hl:Vl s.Left 10)(hR:Vl s.Right 10)(hcut:same d.Cut (⟨0,⟨⟨#[]⟩,[]⟩,⟨#[]⟩,[]⟩:Ft)=true)(ht:zeroT d.Term=true)(hz:same d.Term (⟨⟨#[]⟩,[]⟩:Tt)=true):
 ∃ xs b L,ia_ s d=some (xs,b)∧slR_ s d=some (L,b)∧(b=true→L=xs.map (prem s d)∧∀ x∈xs,Vl x.Left 2∧Vl x.Right 2)∧xs.length≤2:=by
 have ml:=hl.mod (by omega)
 have mr:=hR.mod (by omega)
 have hop:slO_1 8=some 6:=rfl
 have hon:slO_ 8=some false:=rfl
 have p1:remI d true=-1:=by unfold remI; rw[hr]; rfl
 have p2:remI d false=d.Main:=by unfold remI; rw[hr]; rfl
 have hm:mOn 8=(false,6):=rfl
 have hq:inR 8 11 14=false:=rfl
 have hw:inR 8 1 15=true:=rfl
 unfold ia_ slR_
 rw[hr]
 simp only[we_,lIe_,sFo_,lSo_,lSo_1,zTi_,ak,iiQ_1,imF_,mOe_,hr,ht,hz,hcut,hop,hon,hm,hq,hw,bk,decide_false,decide_true,cond_true,cond_false,Bool.not_true,beq_self_eq_true]
 rcases mi_ (l:=s.Right) (by have:=hR.len; omega) d.Main with h | ⟨h,f,hf,he⟩
 ·simp only[h,cond_false,ak]
  exact⟨_,_,_,rfl,rfl,fun h=>(nomatch h),by simp⟩
 ·have hv:=hR.val f hf
  simp only[h,he,ak,cond_true]
  cases ho:decide (f.Op=6)
  ·exact⟨_,_,_,rfl,rfl,fun h=>(nomatch h),by simp⟩
  ·obtain⟨p,q,hp⟩:=tp_ hv (by have:=of_decide_eq_true ho; omega)
   have vp:=pv_ hv (p:=p) (by rw[hp]; simp)
   have vq:=pv_ hv (p:=q) (by rw[hp]; simp)
   simp only[cond_true,ak,ia1_,hp]
   unfold slP_
   have e1:slc [p,q] 0 1=some [p]:=rfl
   have e2:idx [p,q] 0=some p:=rfl
   have e3:slc [p,q] 1 2=some [q]:=rfl
   have e4:idx [p,q] 1=some q:=rfl
   have n0:=sn_ (-1) d.Main ml mr (m:=[]) (k:=[p,q]) ((Vl.nil 2).mod (by omega)) ((Vl.two vp vq).mod (by omega))
   simp only[e1,e2,e3,e4,ak,bk,decide_false,decide_true,cond_true,cond_false,n0]
   refine⟨_,_,_,rfl,rfl,fun _=>⟨?_,?_⟩,by simp⟩
   ·simp only[aM,List.map_nil,prem,p1,p2]
   ·intro x hx
    simp only[bm,List.not_mem_nil,or_false] at hx
    rw[hx]
    exact⟨(Vl.nil 2),(Vl.two vp vq)⟩
theorem rule9{s:Sa}{d:Dt}(hr:d.Rule=9)(hl:Vl s.Left 10)(hR:Vl s.Right 10)(hcut:same d.Cut (⟨0,⟨⟨#[]⟩,[]⟩,⟨#[]⟩,[]⟩:Ft)=true)(ht:zeroT d.Term=true)(hz:same d.Term (⟨⟨#[]⟩,[]⟩:Tt)=true):
 ∃ xs b L,ia_ s d=some (xs,b)∧slR_ s d=some (L,b)∧(b=true→L=xs.map (prem s d)∧∀ x∈xs,Vl x.Left 2∧Vl x.Right 2)∧xs.length≤2:=by
 have ml:=hl.mod (by omega)
 have mr:=hR.mod (by omega)
 have hop:slO_1 9=some 7:=rfl
 have hon:slO_ 9=some true:=rfl
 have p1:remI d true=d.Main:=by unfold remI; rw[hr]; rfl
 have p2:remI d false=-1:=by unfold remI; rw[hr]; rfl
 have hm:mOn 9=(true,7):=rfl
 have hq:inR 9 11 14=false:=rfl
 have hw:inR 9 1 15=true:=rfl
 unfold ia_ slR_
 rw[hr]
 simp only[we_,lIe_,sFo_,lSo_,lSo_1,zTi_,ak,iiQ_1,imF_,mOe_,hr,ht,hz,hcut,hop,hon,hm,hq,hw,bk,decide_false,decide_true,cond_true,cond_false,Bool.not_true,beq_self_eq_true]
 rcases mi_ (l:=s.Left) (by have:=hl.len; omega) d.Main with h | ⟨h,f,hf,he⟩
 ·simp only[h,cond_false,ak]
  exact⟨_,_,_,rfl,rfl,fun h=>(nomatch h),by simp⟩
 ·have hv:=hl.val f hf
  simp only[h,he,ak,cond_true]
  cases ho:decide (f.Op=7)
  ·exact⟨_,_,_,rfl,rfl,fun h=>(nomatch h),by simp⟩
  ·obtain⟨p,q,hp⟩:=tp_ hv (by have:=of_decide_eq_true ho; omega)
   have vp:=pv_ hv (p:=p) (by rw[hp]; simp)
   have vq:=pv_ hv (p:=q) (by rw[hp]; simp)
   simp only[cond_true,ak,ia1_,hp]
   unfold slP_
   have e1:slc [p,q] 0 1=some [p]:=rfl
   have e2:idx [p,q] 0=some p:=rfl
   have e3:slc [p,q] 1 2=some [q]:=rfl
   have e4:idx [p,q] 1=some q:=rfl
   have n0:=sn_ d.Main (-1) ml mr (m:=[]) (k:=[p]) ((Vl.nil 2).mod (by omega)) ((Vl.one vp).mod (by omega))
   have n1:=sn_ d.Main (-1) ml mr (m:=[q]) (k:=[]) ((Vl.one vq).mod (by omega)) ((Vl.nil 2).mod (by omega))
   simp only[e1,e2,e3,e4,ak,bk,decide_false,decide_true,cond_true,cond_false,n0,n1]
   refine⟨_,_,_,rfl,rfl,fun _=>⟨?_,?_⟩,by simp⟩
   ·simp only[aM,List.map_nil,prem,p1,p2]
   ·intro x hx
    simp only[bm,List.not_mem_nil,or_false] at hx
    rcases hx with rfl | rfl
    ·exact⟨(Vl.nil 2),(Vl.one vp)⟩
    ·exact⟨(Vl.one vq),(Vl.nil 2)⟩
theorem rule10{s:Sa}{d:Dt}(hr:d.Rule=10)(hl:Vl s.Left 10)(hR:Vl s.Right 10)(hcut:same d.Cut (⟨0,⟨⟨#[]⟩,[]⟩,⟨#[]⟩,[]⟩:Ft)=true)(ht:zeroT d.Term=true)(hz:same d.Term (⟨⟨#[]⟩,[]⟩:Tt)=true):
 ∃ xs b L,ia_ s d=some (xs,b)∧slR_ s d=some (L,b)∧(b=true→L=xs.map (prem s d)∧∀ x∈xs,Vl x.Left 2∧Vl x.Right 2)∧xs.length≤2:=by
 have ml:=hl.mod (by omega)
 have mr:=hR.mod (by omega)
 have hop:slO_1 10=some 7:=rfl
 have hon:slO_ 10=some false:=rfl
 have p1:remI d true=-1:=by unfold remI; rw[hr]; rfl
 have p2:remI d false=d.Main:=by unfold remI; rw[hr]; rfl
 have hm:mOn 10=(false,7):=rfl
 have hq:inR 10 11 14=false:=rfl
 have hw:inR 10 1 15=true:=rfl
 unfold ia_ slR_
 rw[hr]
 simp only[we_,lIe_,sFo_,lSo_,lSo_1,zTi_,ak,iiQ_1,imF_,mOe_,hr,ht,hz,hcut,hop,hon,hm,hq,hw,bk,decide_false,decide_true,cond_true,cond_false,Bool.not_true,beq_self_eq_true]
 rcases mi_ (l:=s.Right) (by have:=hR.len; omega) d.Main with h | ⟨h,f,hf,he⟩
 ·simp only[h,cond_false,ak]
  exact⟨_,_,_,rfl,rfl,fun h=>(nomatch h),by simp⟩
 ·have hv:=hR.val f hf
  simp only[h,he,ak,cond_true]
  cases ho:decide (f.Op=7)
  ·exact⟨_,_,_,rfl,rfl,fun h=>(nomatch h),by simp⟩
  ·obtain⟨p,q,hp⟩:=tp_ hv (by have:=of_decide_eq_true ho; omega)
   have vp:=pv_ hv (p:=p) (by rw[hp]; simp)
   have vq:=pv_ hv (p:=q) (by rw[hp]; simp)
   simp only[cond_true,ak,ia1_,hp]
   unfold slP_
   have e1:slc [p,q] 0 1=some [p]:=rfl
   have e2:idx [p,q] 0=some p:=rfl
   have e3:slc [p,q] 1 2=some [q]:=rfl
   have e4:idx [p,q] 1=some q:=rfl
   have n0:=sn_ (-1) d.Main ml mr (m:=[p]) (k:=[q]) ((Vl.one vp).mod (by omega)) ((Vl.one vq).mod (by omega))
   simp only[e1,e2,e3,e4,ak,bk,decide_false,decide_true,cond_true,cond_false,n0]
   refine⟨_,_,_,rfl,rfl,fun _=>⟨?_,?_⟩,by simp⟩
   ·simp only[aM,List.map_nil,prem,p1,p2]
   ·intro x hx
    simp only[bm,List.not_mem_nil,or_false] at hx
    rw[hx]
    exact⟨(Vl.one vp),(Vl.one vq)⟩

end Go.Proofs.YtkoghcphkdecoaaGreat
