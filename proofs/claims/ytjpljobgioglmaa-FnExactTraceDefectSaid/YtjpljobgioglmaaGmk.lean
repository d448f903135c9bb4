/- Lemmas of the proof; each says what it shows. -/
import Derived.Test.YtjpljobgioglmaaGp
import Derived.Test.YtjpljobgioglmaaAvFt
set_option linter.unusedSimpArgs false
set_option linter.unusedVariables false
set_option linter.defProp false
set_option maxRecDepth 4000
namespace Go.Proofs.Ytjpljobgioglmaa
open Go.Av
open Option renaming bind_some→aq
theorem markIntS_held(xs:List Int):MH (fun _:Unit=>True) (fun _=>markIntS) (fun _=>heldIntS) xs (lcn (fun _=>1) xs):=by
 refine MH.of (cnt:=(fun _=>1)) (fun _ _ _=>rfl) (fun _ _ _ _=>rfl) (fun _ l k=>by simp only[dec_end,cond_false]) (fun h=>by have:=lcn_len (c:=(fun _=>1)) (xs:=xs) (fun _=>Nat.le_refl _); omega) (fun x hx k h0 h1=>?_)
 replace h1:k+((1:Nat):Int)≤2305843009213693952:=h1
 have w0:IntKind.i64.wrap (k+1)=k+1:=wrapK (by omega) (by omega)
 have e:k+((1:Nat):Int)=k+1:=by omega
 refine⟨k,fun p hp=>⟨fun pre rest hpre=>?_,fun ys i hi=>?_⟩⟩
 ·have wi:=wrap_succ (i:=pre.length) (by omega)
  simp only[dec_mid,cond_true,idx_mid,set_mid,aq,rem3,wi,e,w0]
 ·simp only[idx_nat,hi,aq,decide_true,eq_self,cond_true,cond_false,beq_self_eq_true,rem3,e,w0]
theorem markIntS_mk(xs:List Int):MK (fun _:Unit=>True) (fun _=>markIntS) xs (lcn (fun _=>1) xs):=by
 refine MK.of (cnt:=(fun _=>1)) (fun _ _ _=>rfl) (fun _ l k=>by simp only[dec_end,cond_false]) (fun h=>by have:=lcn_len (c:=(fun _=>1)) (xs:=xs) (fun _=>Nat.le_refl _); omega) (fun x hx k h0 h1=>?_)
 replace h1:k+((1:Nat):Int)≤2305843009213693952:=h1
 have w0:IntKind.i64.wrap (k+1)=k+1:=wrapK (by omega) (by omega)
 have e:k+((1:Nat):Int)=k+1:=by omega
 refine⟨k,fun p hp pre rest hpre=>?_⟩
 have wi:=wrap_succ (i:=pre.length) (by omega)
 simp only[dec_mid,cond_true,idx_mid,set_mid,aq,rem3,wi,e,w0]
def Sa.cn(a:Sa):Nat:=3
theorem Sa.cn_u(a:Sa):a.cn=3:=rfl
theorem Sa.cn_pos(a:Sa):1≤a.cn:=by rw[Sa.cn_u]; omega
theorem markSizeEdgeS_mk(xs:List Sa):MK (fun _:Unit=>True) (fun _=>markSizeEdgeS) xs (lcn Sa.cn xs):=by
 refine MK.of (cnt:=Sa.cn) (fun _ _ _=>rfl) (fun _ l k=>by simp only[dec_end,cond_false]) (fun h=>by have:=lcn_len (c:=Sa.cn) (xs:=xs) (Sa.cn_pos); omega) (fun x hx k h0 h1=>?_)
 have hc:=Sa.cn_u x
 have w0:IntKind.i64.wrap (k+1)=k+1:=wrapK (by omega) (by omega)
 have w1:IntKind.i64.wrap (k+1+1)=k+1+1:=wrapK (by omega) (by omega)
 have w2:IntKind.i64.wrap (k+1+1+1)=k+1+1+1:=wrapK (by omega) (by omega)
 have e:k+((Sa.cn x:Nat):Int)=k+1+1+1:=by omega
 refine⟨(Sa.mk k (k+1) (decide ((k+1+1).tmod 3=0))),fun p hp pre rest hpre=>?_⟩
 have wi:=wrap_succ (i:=pre.length) (by omega)
 simp only[dec_mid,cond_true,idx_mid,set_mid,aq,rem3,wi,e,w0,w1,w2]
def Sb.cn(a:Sb):Nat:=2+(lcn Sa.cn) a.Edges
theorem Sb.cn_u(a:Sb):a.cn=2+(lcn Sa.cn) a.Edges:=rfl
theorem Sb.cn_pos(a:Sb):1≤a.cn:=by rw[Sb.cn_u]; omega
theorem markSizeGraphS_mk(xs:List Sb):MK (fun _:Unit=>True) (fun _=>markSizeGraphS) xs (lcn Sb.cn xs):=by
 refine MK.of (cnt:=Sb.cn) (fun _ _ _=>rfl) (fun _ l k=>by simp only[dec_end,cond_false]) (fun h=>by have:=lcn_len (c:=Sb.cn) (xs:=xs) (Sb.cn_pos); omega) (fun x hx k h0 h1=>?_)
 have hc:=Sb.cn_u x
 have w0:IntKind.i64.wrap (k+1)=k+1:=wrapK (by omega) (by omega)
 have w1:IntKind.i64.wrap (k+1+1)=k+1+1:=wrapK (by omega) (by omega)
 obtain⟨y2,m2⟩:=(markSizeEdgeS_mk x.Edges).unit (k:=k+1+1) (by omega) (by omega)
 have d2:decide (k+1+1+(((lcn Sa.cn) x.Edges:Nat):Int)<0)=false:=decide_eq_false (by omega)
 have e:k+((Sb.cn x:Nat):Int)=k+1+1+(((lcn Sa.cn) x.Edges:Nat):Int):=by omega
 refine⟨(Sb.mk k (k+1) y2),fun p hp pre rest hpre=>?_⟩
 have wi:=wrap_succ (i:=pre.length) (by omega)
 simp only[dec_mid,cond_true,idx_mid,set_mid,aq,rem3,wi,e,w0,w1,m2,d2]
theorem markCyclicProof_mk(a:Ct){k:Int}(h0:1≤k)(h1:k+(((lcn (fun _=>1)) a.Arities+(lcn Sb.cn) a.Calls:Nat):Int)≤2305843009213693952):∃ y0 y1,markCyclicProof a k=some (k+(((lcn (fun _=>1)) a.Arities+(lcn Sb.cn) a.Calls:Nat):Int),y0,y1):=by
 obtain⟨y0,m0⟩:=(markIntS_mk a.Arities).unit (k:=k) (by omega) (by omega)
 obtain⟨y1,m1⟩:=(markSizeGraphS_mk a.Calls).unit (k:=k+(((lcn (fun _=>1)) a.Arities:Nat):Int)) (by omega) (by omega)
 have e:k+(((lcn (fun _=>1)) a.Arities+(lcn Sb.cn) a.Calls:Nat):Int)=k+(((lcn (fun _=>1)) a.Arities:Nat):Int)+(((lcn Sb.cn) a.Calls:Nat):Int):=by omega
 refine⟨y0,y1,?_⟩
 simp only[markCyclicProof,m0,m1,aq,e]
end Go.Proofs.Ytjpljobgioglmaa
