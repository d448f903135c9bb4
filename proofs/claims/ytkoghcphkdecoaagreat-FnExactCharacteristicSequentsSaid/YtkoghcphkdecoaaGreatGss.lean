/- A part of the proof: lemmas only; nothing is claimed here beyond what each lemma says. -/
import Derived.Test.YtkoghcphkdecoaaGreatGsr
set_option linter.unusedSimpArgs false
set_option linter.unusedVariables false
set_option linter.defProp false
set_option maxRecDepth 4000
namespace Go.Proofs.YtkoghcphkdecoaaGreat
open Go.Av
open Bool renaming and_eq_true→aD
open Int renaming reduceEq→bk
open List renaming map_cons→aM,mem_cons→bm
open Option renaming bind_some→ak
open Vl renaming nil→bh
def RuleOk(s:Sa)(d:Dt):Prop:=
 ∃ xs b L,ia_ s d=some (xs,b)∧slR_ s d=some (L,b)∧(b=true→L=xs.map (prem s d)∧∀ x∈xs,Vl x.Left 2∧Vl x.Right 2)∧xs.length≤2
theorem zs_(t:Tt):same t (⟨⟨#[]⟩,[]⟩:Tt)=zeroT t:=by
 rw[Tt.same_u,Bool.eq_iff_iff]
 unfold zeroT
 rw[aD,aD,si_,List.isEmpty_iff]
 exact Iff.rfl
theorem as_(l:List Ft)(f:Ft):sCF_ l (fun y0=>ia2_ y0 f)=some (l.any fun g=>same f g):=
 contFm l (fun a _=>by unfold ia2_; rw[sFo_,ak])
theorem af_1{f:Ft→Option Bool}{p:Ft→Bool}(l:List Ft)(hf:∀ a∈l,f a=some (p a)):
 thenL (ρ:=Bool) (σ:=Unit) (forN (fun (i2:Nat) (s2:Unit)=>Option.bind (idx l (i2:Int)) fun v14=>Option.bind (f v14) fun v17=>bif v17 then some (.rt true) else some (.nx ())) l.length 0 ()) (fun s2=>some false)=some (l.any p):=by
 have key:∀ (n k:Nat),k+n=l.length→thenL (ρ:=Bool) (σ:=Unit) (forN (fun (i2:Nat) (s2:Unit)=>Option.bind (idx l (i2:Int)) fun v14=>Option.bind (f v14) fun v17=>bif v17 then some (.rt true) else some (.nx ())) n k ()) (fun s2=>some false)=some ((l.drop k).any p):=by
  intro n
  induction n with
  | zero=>intro k hk; rw[List.drop_eq_nil_of_le (by omega)]; rfl
  | succ n ih=>
   intro k hk
   rw[dgD_ (show k<l.length by omega),List.any_cons]
   have e:idx l (k:Int)=some (l.getD k default):=igD_ (by omega)
   cases h:p (l.getD k default)
   ·rw[fNn_ (s':=()) (by rw[e,ak,hf _ (gDm_ (by omega)),h]; rfl),ih (k+1) (by omega)]; rfl
   ·rw[fNr_ (r:=true) (by rw[e,ak,hf _ (gDm_ (by omega)),h]; rfl)]; rfl
 exact key l.length 0 (by omega)
theorem hs_(l:List Ft)(f:Ft):slH_ l f=some (l.any fun g=>same f g):=by
 unfold slH_
 rw[af_1 (f:=fun v=>slS_4 v f) (p:=fun g=>same f g) l (fun a _=>by rw[lSo_,sc_1])]
theorem rule1{s:Sa}{d:Dt}(hr:d.Rule=1)(hl:Vl s.Left 10)(hR:Vl s.Right 10)(hcut:same d.Cut (⟨0,⟨⟨#[]⟩,[]⟩,⟨#[]⟩,[]⟩:Ft)=true)(ht:zeroT d.Term=true)(hz:same d.Term (⟨⟨#[]⟩,[]⟩:Tt)=true):RuleOk s d:=by
 have hop:slO_1 1=some 0:=rfl
 have hon:slO_ 1=some true:=rfl
 have hm:mOn 1=(true,0):=rfl
 have hq:inR 1 11 14=false:=rfl
 have hw:inR 1 1 15=true:=rfl
 unfold RuleOk ia_ slR_
 rw[hr]
 simp only[we_,lIe_,sFo_,lSo_,lSo_1,zTi_,ak,iiQ_1,imF_,mOe_,hr,ht,hz,hcut,hop,hon,hm,hq,hw,bk,decide_false,decide_true,cond_true,cond_false,Bool.not_true,beq_self_eq_true]
 rcases mi_ (l:=s.Left) (by have:=hl.len; omega) d.Main with h | ⟨h,f,hf,he⟩
 ·simp only[h,cond_false,ak]
  exact⟨_,_,_,rfl,rfl,fun h=>(nomatch h),by simp⟩
 ·simp only[h,he,ak,cond_true,as_,hs_]
  cases ho:decide (f.Op=2)
  ·exact⟨_,_,_,rfl,rfl,fun _=>⟨rfl,fun x hx=>(nomatch hx)⟩,by simp⟩
  ·exact⟨_,_,_,rfl,rfl,fun _=>⟨rfl,fun x hx=>(nomatch hx)⟩,by simp⟩
theorem rule2{s:Sa}{d:Dt}(hr:d.Rule=2)(hl:Vl s.Left 10)(hR:Vl s.Right 10)(hcut:same d.Cut (⟨0,⟨⟨#[]⟩,[]⟩,⟨#[]⟩,[]⟩:Ft)=true)(ht:zeroT d.Term=true)(hz:same d.Term (⟨⟨#[]⟩,[]⟩:Tt)=true):RuleOk s d:=by
 have hop:slO_1 2=some 1:=rfl
 have hon:slO_ 2=some false:=rfl
 have hm:mOn 2=(false,1):=rfl
 have hq:inR 2 11 14=false:=rfl
 have hw:inR 2 1 15=true:=rfl
 unfold RuleOk ia_ slR_
 rw[hr]
 simp only[we_,lIe_,sFo_,lSo_,lSo_1,zTi_,ak,iiQ_1,imF_,mOe_,hr,ht,hz,hcut,hop,hon,hm,hq,hw,bk,decide_false,decide_true,cond_true,cond_false,Bool.not_true,beq_self_eq_true]
 rcases mi_ (l:=s.Right) (by have:=hR.len; omega) d.Main with h | ⟨h,f,hf,he⟩
 ·simp only[h,cond_false,ak]
  exact⟨_,_,_,rfl,rfl,fun h=>(nomatch h),by simp⟩
 ·simp only[h,he,ak,cond_true]
  cases ho:decide (f.Op=1)
  ·exact⟨_,_,_,rfl,rfl,fun h=>(nomatch h),by simp⟩
  ·exact⟨_,_,_,rfl,rfl,fun _=>⟨rfl,fun x hx=>(nomatch hx)⟩,by simp⟩
theorem rule15{s:Sa}{d:Dt}(hr:d.Rule=15)(hl:Vl s.Left 10)(hR:Vl s.Right 10)(hc:d.Cut.Ok)(hct:d.Cut.tot≤1048576):RuleOk s d:=by
 have ml:=hl.mod (by omega)
 have mr:=hR.mod (by omega)
 have hq:inR 15 11 14=false:=rfl
 have p1:remI d true=-1:=by unfold remI; rw[hr]; rfl
 have p2:remI d false=-1:=by unfold remI; rw[hr]; rfl
 have mc:Mod [d.Cut]:=⟨fun f hf=>by rw[List.mem_singleton.1 hf]; exact hct,by simp⟩
 have m0:Mod []:=(bh 0).mod (by omega)
 have n0:=sn_ (-1) (-1) ml mr m0 mc
 have n1:=sn_ (-1) (-1) ml mr mc m0
 unfold RuleOk ia_ slR_
 rw[hr]
 simp only[lIe_,hq,lSo_1,zs_,zTi_,ak,cond_false,bk,decide_true,cond_true,n0,n1,vFi_1 d.Cut hct hc,vFs_ d.Cut hct hc]
 cases hz:zeroT d.Term
 ·cases decide (d.Main=0)
  ·exact⟨_,_,_,rfl,rfl,fun h=>(nomatch h),by simp⟩
  ·exact⟨_,_,_,rfl,rfl,fun h=>(nomatch h),by simp⟩
 ·cases decide (d.Main=0)
  ·exact⟨_,_,_,rfl,rfl,fun h=>(nomatch h),by simp⟩
  ·cases hv:validF d.Cut
   ·exact⟨_,_,_,rfl,rfl,fun h=>(nomatch h),by simp⟩
   ·refine⟨_,_,_,rfl,rfl,fun _=>⟨?_,?_⟩,by simp⟩
    ·simp only[aM,List.map_nil,prem,p1,p2]
    ·intro x hx
     simp only[bm,List.not_mem_nil,or_false] at hx
     rcases hx with rfl | rfl
     ·exact⟨bh 2,Vl.one hv⟩
     ·exact⟨Vl.one hv,bh 2⟩
def qok(s:Sa)(p:Ft)(v:ByteArray)(t:Tt)(st:Bool):Bool:=goodT t&&(p.sok v t&&(st||(isVarS t.Name&&!fvS s t.Name)))
theorem qz_{s:Sa}{p:Ft}{v:ByteArray}{t:Tt}{st:Bool}(h:zeroT t=true):qok s p v t st=false:=by
 unfold qok
 have:goodT t=false:=by
  cases t with
  | mk n a=>
   unfold zeroT at h
   rw[aD,decide_eq_true_iff,List.isEmpty_iff] at h
   obtain⟨rfl,rfl⟩:=h
   rw[← Bool.not_eq_true]; intro h
   have:=(gTi_ h).1
   rw[Tt.good_u] at this
   revert this; decide
 rw[this]; rfl
theorem qi_{s:Sa}{d:Dt}{f p:Ft}(hl:Vl s.Left 10)(hR:Vl s.Right 10)(hp:f.Parts=[p])(hv:validF f=true)(hq:isVarS f.Var=true)(hot:d.Term.Ok)(htt:d.Term.tot≤1048576):
 ii_ s d f=some (bif qok s p f.Var d.Term (stays d.Rule) then([bif (mOn d.Rule).1 then⟨[p.sub f.Var d.Term],[]⟩ else⟨[],[p.sub f.Var d.Term]⟩],true) else([],false)):=by
 have vp:=pv_ hv (p:=p) (by rw[hp]; simp)
 have ei:idx f.Parts (0:Int)=some p:=by rw[hp]; rfl
 have es:=SFe_ (n:=f.Var) (t:=d.Term) (f:=p) (vFO_ vp) (by have:=vFt_ vp; omega) ((vFO_ hv).u.2.2.1) hot htt
 have e0:subst p f.Var d.Term=(goodT d.Term&&p.sok f.Var d.Term):=by unfold subst; rw[vp,hq]; rfl
 unfold ii_ qok
 simp only[re_,mOe_,ei,es,iVe_ _ hot.u.1,fIe_ hl hR,ak,e0]
 cases stays d.Rule<;>cases goodT d.Term<;>cases p.sok f.Var d.Term<;>cases isVarS d.Term.Name<;>cases fvS s d.Term.Name<;>cases (mOn d.Rule).1<;>rfl
theorem qs_{s:Sa}{r m:Int}{t:Tt}{f p:Ft}(hl:Vl s.Left 10)(hR:Vl s.Right 10)(hp:f.Parts=[p])(hv:validF f=true)(hq:isVarS f.Var=true)(hot:t.Ok)(htt:t.tot≤1048576)
 (hr:r=11∨r=12∨r=13∨r=14):
 slQ_ s r m f t=some (bif qok s p f.Var t (stays r) then
  ([bif decide (r=11) then nx s (-1) [p.sub f.Var t] (-1) [] else bif decide (r=14) then nx s (-1) [] (-1) [p.sub f.Var t] else bif decide (r=12) then nx s (-1) [] m [p.sub f.Var t] else nx s m [p.sub f.Var t] (-1) []],true) else([],false)):=by
 have vp:=pv_ hv (p:=p) (by rw[hp]; simp)
 have ei:idx f.Parts (0:Int)=some p:=by rw[hp]; rfl
 have ml:=hl.mod (by omega)
 have mr:=hR.mod (by omega)
 have m0:Mod []:=(bh 0).mod (by omega)
 unfold slQ_ qok
 rw[lGo_ t htt hot,ak]
 cases hg:goodT t
 ·rfl
 obtain⟨g1,g2⟩:=gTi_ hg
 obtain⟨k1,k2⟩:=vFi_ vp
 obtain⟨x,x1,x2,x3⟩:=sp_2 hq g1 hot g2 (vFO_ vp) k2 (by have:=vFt_ vp; omega) (by omega)
 rw[cond_true,ei,ak,x1,ak,x2]
 cases hs:p.sok f.Var t
 ·rfl
 have e3:=x3 (x2.trans hs)
 have hsub:subst p f.Var t=true:=by unfold subst; rw[vp,hq,hg,hs]; rfl
 have m1:Mod [p.sub f.Var t]:=(Vl.one (sv_ hsub).1).mod (by omega)
 obtain⟨w,w1,w2,w3⟩:=ne_ hl hR
 have hsv:slV_ t.Name=some (isVarS t.Name):=lVe_ _ hot.u.1
 simp only[cond_true,e3,sn_ _ _ ml mr m0 m1,sn_ _ _ ml mr m1 m0,hsv,w1,lIe_1,w2,ak,Bool.true_and]
 rcases hr with rfl | rfl | rfl | rfl
 ·rfl
 ·cases isVarS t.Name<;>cases fvS s t.Name<;>rfl
 ·cases isVarS t.Name<;>cases fvS s t.Name<;>rfl
 ·rfl
theorem rule11{s:Sa}{d:Dt}(hr:d.Rule=11)(hl:Vl s.Left 10)(hR:Vl s.Right 10)(hcut:same d.Cut (⟨0,⟨⟨#[]⟩,[]⟩,⟨#[]⟩,[]⟩:Ft)=true)(hot:d.Term.Ok)(htt:d.Term.tot≤1048576):RuleOk s d:=by
 have hop:slO_1 11=some 8:=rfl
 have hon:slO_ 11=some true:=rfl
 have p1:remI d true=-1:=by unfold remI; rw[hr]; rfl
 have p2:remI d false=-1:=by unfold remI; rw[hr]; rfl
 have hm:mOn 11=(true,8):=rfl
 have hq:inR 11 11 14=true:=rfl
 have hw:inR 11 1 15=true:=rfl
 unfold RuleOk ia_ slR_
 rw[hr]
 simp only[we_,lIe_,sFo_,lSo_,lSo_1,zTi_,ak,iiQ_1,imF_,mOe_,hr,hcut,hop,hon,hm,hq,hw,bk,decide_false,decide_true,cond_true,cond_false,Bool.not_true,Bool.true_beq]
 rcases mi_ (l:=s.Left) (by have:=hl.len; omega) d.Main with h | ⟨h,f,hf,he⟩
 ·simp only[h,cond_false,ak]
  cases zeroT d.Term
  ·exact⟨_,_,_,rfl,rfl,fun h=>(nomatch h),by simp⟩
  ·exact⟨_,_,_,rfl,rfl,fun h=>(nomatch h),by simp⟩
 ·have hv:=hl.val f hf
  simp only[h,he,ak,cond_true]
  cases ho:decide (f.Op=8)
  ·cases zeroT d.Term
   ·exact⟨_,_,_,rfl,rfl,fun h=>(nomatch h),by simp⟩
   ·exact⟨_,_,_,rfl,rfl,fun h=>(nomatch h),by simp⟩
  ·have ho':f.Op=8:=of_decide_eq_true ho
   obtain⟨p,hp⟩:=op_ hv (by omega)
   have vp:=pv_ hv (p:=p) (by rw[hp]; simp)
   have hqv:=q_var hv (by omega)
   simp only[cond_true,ak,qi_ hl hR hp hv hqv hot htt,qs_ (r:=11) (m:=d.Main) hl hR hp hv hqv hot htt (by omega),hr]
   have hst:stays 11=true:=rfl
   rw[hst]
   cases hk:qok s p f.Var d.Term true
   ·cases zeroT d.Term
    ·exact⟨_,_,_,rfl,rfl,fun h=>(nomatch h),by simp⟩
    ·exact⟨_,_,_,rfl,rfl,fun h=>(nomatch h),by simp⟩
   ·cases hz:zeroT d.Term
    ·have hw:validF (p.sub f.Var d.Term)=true:=by
      unfold qok at hk
      simp only[aD] at hk
      exact(sv_ (by unfold subst; rw[vp,hqv,hk.1,hk.2.1]; rfl)).1
     refine⟨_,_,_,rfl,rfl,fun _=>⟨?_,?_⟩,by simp⟩
     ·simp only[hm,aM,List.map_nil,prem,p1,p2,bk,decide_false,decide_true,cond_true,cond_false]
     ·intro x hx
      simp only[hm,bm,List.not_mem_nil,or_false,cond_true,cond_false] at hx
      rw[hx]
      exact⟨Vl.one hw,bh 2⟩
    ·rw[qz_ hz] at hk; cases hk
theorem rule12{s:Sa}{d:Dt}(hr:d.Rule=12)(hl:Vl s.Left 10)(hR:Vl s.Right 10)(hcut:same d.Cut (⟨0,⟨⟨#[]⟩,[]⟩,⟨#[]⟩,[]⟩:Ft)=true)(hot:d.Term.Ok)(htt:d.Term.tot≤1048576):RuleOk s d:=by
 have hop:slO_1 12=some 8:=rfl
 have hon:slO_ 12=some false:=rfl
 have p1:remI d true=-1:=by unfold remI; rw[hr]; rfl
 have p2:remI d false=d.Main:=by unfold remI; rw[hr]; rfl
 have hm:mOn 12=(false,8):=rfl
 have hq:inR 12 11 14=true:=rfl
 have hw:inR 12 1 15=true:=rfl
 unfold RuleOk ia_ slR_
 rw[hr]
 simp only[we_,lIe_,sFo_,lSo_,lSo_1,zTi_,ak,iiQ_1,imF_,mOe_,hr,hcut,hop,hon,hm,hq,hw,bk,decide_false,decide_true,cond_true,cond_false,Bool.not_true,Bool.true_beq]
 rcases mi_ (l:=s.Right) (by have:=hR.len; omega) d.Main with h | ⟨h,f,hf,he⟩
 ·simp only[h,cond_false,ak]
  cases zeroT d.Term
  ·exact⟨_,_,_,rfl,rfl,fun h=>(nomatch h),by simp⟩
  ·exact⟨_,_,_,rfl,rfl,fun h=>(nomatch h),by simp⟩
 ·have hv:=hR.val f hf
  simp only[h,he,ak,cond_true]
  cases ho:decide (f.Op=8)
  ·cases zeroT d.Term
   ·exact⟨_,_,_,rfl,rfl,fun h=>(nomatch h),by simp⟩
   ·exact⟨_,_,_,rfl,rfl,fun h=>(nomatch h),by simp⟩
  ·have ho':f.Op=8:=of_decide_eq_true ho
   obtain⟨p,hp⟩:=op_ hv (by omega)
   have vp:=pv_ hv (p:=p) (by rw[hp]; simp)
   have hqv:=q_var hv (by omega)
   simp only[cond_true,ak,qi_ hl hR hp hv hqv hot htt,qs_ (r:=12) (m:=d.Main) hl hR hp hv hqv hot htt (by omega),hr]
   have hst:stays 12=false:=rfl
   rw[hst]
   cases hk:qok s p f.Var d.Term false
   ·cases zeroT d.Term
    ·exact⟨_,_,_,rfl,rfl,fun h=>(nomatch h),by simp⟩
    ·exact⟨_,_,_,rfl,rfl,fun h=>(nomatch h),by simp⟩
   ·cases hz:zeroT d.Term
    ·have hw:validF (p.sub f.Var d.Term)=true:=by
      unfold qok at hk
      simp only[aD] at hk
      exact(sv_ (by unfold subst; rw[vp,hqv,hk.1,hk.2.1]; rfl)).1
     refine⟨_,_,_,rfl,rfl,fun _=>⟨?_,?_⟩,by simp⟩
     ·simp only[hm,aM,List.map_nil,prem,p1,p2,bk,decide_false,decide_true,cond_true,cond_false]
     ·intro x hx
      simp only[hm,bm,List.not_mem_nil,or_false,cond_true,cond_false] at hx
      rw[hx]
      exact⟨bh 2,Vl.one hw⟩
    ·rw[qz_ hz] at hk; cases hk
theorem rule13{s:Sa}{d:Dt}(hr:d.Rule=13)(hl:Vl s.Left 10)(hR:Vl s.Right 10)(hcut:same d.Cut (⟨0,⟨⟨#[]⟩,[]⟩,⟨#[]⟩,[]⟩:Ft)=true)(hot:d.Term.Ok)(htt:d.Term.tot≤1048576):RuleOk s d:=by
 have hop:slO_1 13=some 9:=rfl
 have hon:slO_ 13=some true:=rfl
 have p1:remI d true=d.Main:=by unfold remI; rw[hr]; rfl
 have p2:remI d false=-1:=by unfold remI; rw[hr]; rfl
 have hm:mOn 13=(true,9):=rfl
 have hq:inR 13 11 14=true:=rfl
 have hw:inR 13 1 15=true:=rfl
 unfold RuleOk ia_ slR_
 rw[hr]
 simp only[we_,lIe_,sFo_,lSo_,lSo_1,zTi_,ak,iiQ_1,imF_,mOe_,hr,hcut,hop,hon,hm,hq,hw,bk,decide_false,decide_true,cond_true,cond_false,Bool.not_true,Bool.true_beq]
 rcases mi_ (l:=s.Left) (by have:=hl.len; omega) d.Main with h | ⟨h,f,hf,he⟩
 ·simp only[h,cond_false,ak]
  cases zeroT d.Term
  ·exact⟨_,_,_,rfl,rfl,fun h=>(nomatch h),by simp⟩
  ·exact⟨_,_,_,rfl,rfl,fun h=>(nomatch h),by simp⟩
 ·have hv:=hl.val f hf
  simp only[h,he,ak,cond_true]
  cases ho:decide (f.Op=9)
  ·cases zeroT d.Term
   ·exact⟨_,_,_,rfl,rfl,fun h=>(nomatch h),by simp⟩
   ·exact⟨_,_,_,rfl,rfl,fun h=>(nomatch h),by simp⟩
  ·have ho':f.Op=9:=of_decide_eq_true ho
   obtain⟨p,hp⟩:=op_ hv (by omega)
   have vp:=pv_ hv (p:=p) (by rw[hp]; simp)
   have hqv:=q_var hv (by omega)
   simp only[cond_true,ak,qi_ hl hR hp hv hqv hot htt,qs_ (r:=13) (m:=d.Main) hl hR hp hv hqv hot htt (by omega),hr]
   have hst:stays 13=false:=rfl
   rw[hst]
   cases hk:qok s p f.Var d.Term false
   ·cases zeroT d.Term
    ·exact⟨_,_,_,rfl,rfl,fun h=>(nomatch h),by simp⟩
    ·exact⟨_,_,_,rfl,rfl,fun h=>(nomatch h),by simp⟩
   ·cases hz:zeroT d.Term
    ·have hw:validF (p.sub f.Var d.Term)=true:=by
      unfold qok at hk
      simp only[aD] at hk
      exact(sv_ (by unfold subst; rw[vp,hqv,hk.1,hk.2.1]; rfl)).1
     refine⟨_,_,_,rfl,rfl,fun _=>⟨?_,?_⟩,by simp⟩
     ·simp only[hm,aM,List.map_nil,prem,p1,p2,bk,decide_false,decide_true,cond_true,cond_false]
     ·intro x hx
      simp only[hm,bm,List.not_mem_nil,or_false,cond_true,cond_false] at hx
      rw[hx]
      exact⟨Vl.one hw,bh 2⟩
    ·rw[qz_ hz] at hk; cases hk
theorem rule14{s:Sa}{d:Dt}(hr:d.Rule=14)(hl:Vl s.Left 10)(hR:Vl s.Right 10)(hcut:same d.Cut (⟨0,⟨⟨#[]⟩,[]⟩,⟨#[]⟩,[]⟩:Ft)=true)(hot:d.Term.Ok)(htt:d.Term.tot≤1048576):RuleOk s d:=by
 have hop:slO_1 14=some 9:=rfl
 have hon:slO_ 14=some false:=rfl
 have p1:remI d true=-1:=by unfold remI; rw[hr]; rfl
 have p2:remI d false=-1:=by unfold remI; rw[hr]; rfl
 have hm:mOn 14=(false,9):=rfl
 have hq:inR 14 11 14=true:=rfl
 have hw:inR 14 1 15=true:=rfl
 unfold RuleOk ia_ slR_
 rw[hr]
 simp only[we_,lIe_,sFo_,lSo_,lSo_1,zTi_,ak,iiQ_1,imF_,mOe_,hr,hcut,hop,hon,hm,hq,hw,bk,decide_false,decide_true,cond_true,cond_false,Bool.not_true,Bool.true_beq]
 rcases mi_ (l:=s.Right) (by have:=hR.len; omega) d.Main with h | ⟨h,f,hf,he⟩
 ·simp only[h,cond_false,ak]
  cases zeroT d.Term
  ·exact⟨_,_,_,rfl,rfl,fun h=>(nomatch h),by simp⟩
  ·exact⟨_,_,_,rfl,rfl,fun h=>(nomatch h),by simp⟩
 ·have hv:=hR.val f hf
  simp only[h,he,ak,cond_true]
  cases ho:decide (f.Op=9)
  ·cases zeroT d.Term
   ·exact⟨_,_,_,rfl,rfl,fun h=>(nomatch h),by simp⟩
   ·exact⟨_,_,_,rfl,rfl,fun h=>(nomatch h),by simp⟩
  ·have ho':f.Op=9:=of_decide_eq_true ho
   obtain⟨p,hp⟩:=op_ hv (by omega)
   have vp:=pv_ hv (p:=p) (by rw[hp]; simp)
   have hqv:=q_var hv (by omega)
   simp only[cond_true,ak,qi_ hl hR hp hv hqv hot htt,qs_ (r:=14) (m:=d.Main) hl hR hp hv hqv hot htt (by omega),hr]
   have hst:stays 14=true:=rfl
   rw[hst]
   cases hk:qok s p f.Var d.Term true
   ·cases zeroT d.Term
    ·exact⟨_,_,_,rfl,rfl,fun h=>(nomatch h),by simp⟩
    ·exact⟨_,_,_,rfl,rfl,fun h=>(nomatch h),by simp⟩
   ·cases hz:zeroT d.Term
    ·have hw:validF (p.sub f.Var d.Term)=true:=by
      unfold qok at hk
      simp only[aD] at hk
      exact(sv_ (by unfold subst; rw[vp,hqv,hk.1,hk.2.1]; rfl)).1
     refine⟨_,_,_,rfl,rfl,fun _=>⟨?_,?_⟩,by simp⟩
     ·simp only[hm,aM,List.map_nil,prem,p1,p2,bk,decide_false,decide_true,cond_true,cond_false]
     ·intro x hx
      simp only[hm,bm,List.not_mem_nil,or_false,cond_true,cond_false] at hx
      rw[hx]
      exact⟨bh 2,Vl.one hw⟩
    ·rw[qz_ hz] at hk; cases hk
theorem bs_1{α:Type}{b:Bool}{x y:Option α}(h1:∃ o,x=some o)(h2:∃ o,y=some o):∃ o,(bif b then x else y)=some o:=by
 cases b
 ·exact h2
 ·exact h1
theorem ro_{s:Sa}{d:Dt}(h:inR d.Rule 1 15=false):RuleOk s d:=by
 have h15:decide (d.Rule=15)=false:=by
  rw[decide_eq_false_iff_not]; intro e; rw[e] at h; cases h
 have hq:inR d.Rule 11 14=false:=by
  unfold inR at h ⊢
  simp only[Bool.and_eq_false_iff,decide_eq_false_iff_not] at h ⊢
  omega
 unfold RuleOk ia_ slR_
 simp only[we_,lIe_,sFo_,lSo_,lSo_1,ak,h,h15,hq,cond_false]
 have ho:∃ o,slO_ d.Rule=some o:=by
  unfold slO_
  repeat' (first | exact⟨_,rfl⟩ | apply bs_1)
 obtain⟨o,ho⟩:=ho
 simp only[ho,ak]
 cases same d.Term (⟨⟨#[]⟩,[]⟩:Tt)<;>cases same d.Cut (⟨0,⟨⟨#[]⟩,[]⟩,⟨#[]⟩,[]⟩:Ft)<;>cases o<;>
  exact⟨_,_,_,rfl,rfl,fun h=>(nomatch h),by simp⟩
theorem rn_3{s:Sa}{d:Dt}(h15:d.Rule≠15)(hc:same d.Cut (⟨0,⟨⟨#[]⟩,[]⟩,⟨#[]⟩,[]⟩:Ft)=false):RuleOk s d:=by
 have h:decide (d.Rule=15)=false:=decide_eq_false h15
 unfold RuleOk ia_ slR_
 simp only[we_,lIe_,sFo_,lSo_,lSo_1,ak,h,hc,cond_false]
 cases inR d.Rule 1 15<;>cases inR d.Rule 11 14<;>cases same d.Term (⟨⟨#[]⟩,[]⟩:Tt)<;>
  exact⟨_,_,_,rfl,rfl,fun h=>(nomatch h),by simp⟩
theorem rn_1{s:Sa}{d:Dt}(h15:d.Rule≠15)(hq:inR d.Rule 11 14=false)(hz:zeroT d.Term=false):RuleOk s d:=by
 have h:decide (d.Rule=15)=false:=decide_eq_false h15
 unfold RuleOk ia_ slR_
 simp only[we_,lIe_,sFo_,lSo_,lSo_1,ak,h,hq,zs_,zTi_,hz,iiQ_1,cond_false,Bool.not_false]
 cases inR d.Rule 1 15<;>cases same d.Cut (⟨0,⟨⟨#[]⟩,[]⟩,⟨#[]⟩,[]⟩:Ft)<;>
  exact⟨_,_,_,rfl,rfl,fun h=>(nomatch h),by simp⟩
theorem ro_1(s:Sa)(d:Dt)(hl:Vl s.Left 10)(hR:Vl s.Right 10)(hot:d.Term.Ok)(htt:d.Term.tot≤1048576)(hc:d.Cut.Ok)(hct:d.Cut.tot≤1048576):RuleOk s d:=by
 by_cases h15:d.Rule=15
 ·exact rule15 h15 hl hR hc hct
 cases hw:inR d.Rule 1 15
 ·exact ro_ hw
 cases hcut:same d.Cut (⟨0,⟨⟨#[]⟩,[]⟩,⟨#[]⟩,[]⟩:Ft)
 ·exact rn_3 h15 hcut
 have hr:d.Rule=1∨d.Rule=2∨d.Rule=3∨d.Rule=4∨d.Rule=5∨d.Rule=6∨d.Rule=7∨d.Rule=8∨d.Rule=9∨d.Rule=10∨d.Rule=11∨d.Rule=12∨d.Rule=13∨d.Rule=14:=by
  unfold inR at hw
  simp only[aD,decide_eq_true_eq] at hw
  omega
 by_cases hq:11≤d.Rule
 ·rcases (by omega:d.Rule=11∨d.Rule=12∨d.Rule=13∨d.Rule=14) with h | h | h | h
  ·exact rule11 h hl hR hcut hot htt
  ·exact rule12 h hl hR hcut hot htt
  ·exact rule13 h hl hR hcut hot htt
  ·exact rule14 h hl hR hcut hot htt
 cases hz:zeroT d.Term
 ·exact rn_1 h15 (by unfold inR; simp only[Bool.and_eq_false_iff,decide_eq_false_iff_not]; omega) hz
 have hs:=(zs_ d.Term).trans hz
 rcases (by omega:d.Rule=1∨d.Rule=2∨d.Rule=3∨d.Rule=4∨d.Rule=5∨d.Rule=6∨d.Rule=7∨d.Rule=8∨d.Rule=9∨d.Rule=10) with h | h | h | h | h | h | h | h | h | h
 ·exact rule1 h hl hR hcut hz hs
 ·exact rule2 h hl hR hcut hz hs
 ·exact rule3 h hl hR hcut hz hs
 ·exact rule4 h hl hR hcut hz hs
 ·exact rule5 h hl hR hcut hz hs
 ·exact rule6 h hl hR hcut hz hs
 ·exact rule7 h hl hR hcut hz hs
 ·exact rule8 h hl hR hcut hz hs
 ·exact rule9 h hl hR hcut hz hs
 ·exact rule10 h hl hR hcut hz hs
end Go.Proofs.YtkoghcphkdecoaaGreat
