/- A part of the proof: lemmas only; nothing is claimed here beyond what each lemma says. -/
import Derived.Test.YtkoghcphkdecoaaGreatGp
import Derived.Test.YtkoghcphkdecoaaGreatAvY
set_option linter.unusedSimpArgs false
set_option linter.unusedVariables false
set_option linter.defProp false
set_option maxRecDepth 4000
namespace Go.Proofs.YtkoghcphkdecoaaGreat
open Go.Av
theorem mTo_(k:Int)(h0:1≤k)(h1:k≤2305843009213693952):∃ t,mT_ k=some t:=by
 unfold mT_
 rw[decide_eq_false (by omega),cond_false]
 obtain⟨b',g1,g2⟩:=digits (ρ:=ByteArray) (f:=fun s4=>bif decide ((0:Int)<s4.1) then Option.bind (rem s4.1 (10:Int)) fun v9=>Option.bind (bstr ([IntKind.u8.wrap (IntKind.i64.wrap ((48:Int)+v9))])) fun v13=>Option.bind (sapp v13 s4.2) fun v15=>Option.bind (quo s4.1 (10:Int)) fun v17=>some (.nx (v17,v15)) else some (.br s4))
  (d:=fun k=>bsOf [IntKind.u8.wrap (IntKind.i64.wrap ((48:Int)+k.tmod 10))]) (fun k=>by simp[bsOf,ByteArray.size]) (fun k b hk=>by
   by_cases h:0<k
   ·simp only[decide_eq_true h,cond_true,quo10 h hk,rem,bstr,Option.bind_some]; rfl
   ·simp only[decide_eq_false h,cond_false]) k.toNat k ⟨#[]⟩ (by omega) (by omega) (by simp[ByteArray.size]; omega)
 rw[lim_eq g1,tLi_]
 have hs:sapp (⟨#[109]⟩:ByteArray) b'=some ((⟨#[109]⟩:ByteArray)++b'):=by
  unfold sapp
  have e0:(⟨#[]⟩:ByteArray).size=0:=rfl
  have e1:(⟨#[109]⟩:ByteArray).size=1:=rfl
  rw[if_pos (by omega)]
 exact⟨_,by rw[hs]; rfl⟩
theorem mBS_1(xs:List Bool):MH (fun _:Unit=>True) (fun _=>mBS_) (fun _=>hBS_1) xs (lcn (fun _=>1) xs):=by
 refine MH.of (cnt:=(fun _=>1)) (fun _ _ _=>rfl) (fun _ _ _ _=>rfl) (fun _ l k=>by simp only[de_,cond_false]) (fun h=>by have:=ll_1 (c:=(fun _=>1)) (xs:=xs) (fun _=>Nat.le_refl _); omega) (fun x hx k h0 h1=>?_)
 replace h1:k+((1:Nat):Int)≤2305843009213693952:=h1
 have w0:IntKind.i64.wrap (k+1)=k+1:=wrapK (by omega) (by omega)
 have e:k+((1:Nat):Int)=k+1:=by omega
 refine⟨(decide ((k).tmod 3=0)),fun p hp=>⟨fun pre rest hpre=>?_,fun ys i hi=>?_⟩⟩
 ·have wi:=ws_ (i:=pre.length) (by omega)
  simp only[dm_,cond_true,im_,sm_,Option.bind_some,rem3,wi,e,w0]
 ·simp only[in_,hi,Option.bind_some,decide_true,eq_self,cond_true,cond_false,beq_self_eq_true,rem3,e,w0]
mutual
def Term.cn:Term→Nat
 | .mk x0 x1=>1+Term.cns x1
def Term.cns:List Term→Nat
 | []=>0
 | a::l=>a.cn+Term.cns l
end
theorem Term.cns_eq(l:List Term):Term.cns l=lcn Term.cn l:=by
 induction l with
 | nil=>rfl
 | cons a l ih=>rw[Term.cns,ih,lc_]
theorem Term.cn_u(a:Term):a.cn=1+(lcn Term.cn) a.Args:=by cases a; rw[Term.cn,Term.cns_eq]; rfl
theorem Term.cn_pos(a:Term):1≤a.cn:=by rw[Term.cn_u]; omega
theorem mTS_4(xs:List Term)(P:Nat→Prop)(hel:∀ x∈xs,MK P mTS_ x.Args (lcn Term.cn x.Args)):MK P (fun m=>mTS_ (m+1)) xs (lcn Term.cn xs):=by
 refine MK.of (cnt:=Term.cn) (fun _ _ _=>by rw[mTS_]) (fun _ l k=>by simp only[de_,cond_false]) (fun h=>by have:=ll_1 (c:=Term.cn) (xs:=xs) (Term.cn_pos); omega) (fun x hx k h0 h1=>?_)
 have hc:=Term.cn_u x
 obtain⟨t0,e0⟩:=mTo_ k (by omega) (by omega)
 have w0:IntKind.i64.wrap (k+1)=k+1:=wrapK (by omega) (by omega)
 obtain⟨y1,q1⟩:=(hel x hx) (k+1) (by omega) (by omega)
 have d1:decide (k+1+(((lcn Term.cn) x.Args:Nat):Int)<0)=false:=decide_eq_false (by omega)
 have e:k+((Term.cn x:Nat):Int)=k+1+(((lcn Term.cn) x.Args:Nat):Int):=by omega
 refine⟨(Term.mk t0 y1),fun p hp pre rest hpre=>?_⟩
 have m1:=q1 p hp
 have wi:=ws_ (i:=pre.length) (by omega)
 simp only[dm_,cond_true,im_,sm_,Option.bind_some,rem3,wi,e,w0,e0,m1,d1,TNm_,TAm_]
theorem Term.mk_:∀ t:Term,MK (fun m=>2*SizeOf.sizeOf t≤m) mTS_ t.Args (lcn Term.cn t.Args):=by
 intro t
 refine Term.ind' (M:=fun t=>MK (fun m=>2*SizeOf.sizeOf t≤m) mTS_ t.Args (lcn Term.cn t.Args)) (fun t ih=>?_) t
 have h0:=Term.pos t
 refine MK.shift (by omega) (mTS_4 t.Args _ (fun x hx=>?_))
 have h1:=Term.lt hx
 exact(ih x hx).sub (fun m hm=>by omega)
theorem mTS_1(xs:List Term):MK (fun _:Unit=>True) (fun _=>mTS_3) xs (lcn Term.cn xs):=by
 refine MK.lim (N:=2*SizeOf.sizeOf xs+1) (MK.shift (by omega) (mTS_4 xs _ (fun x hx=>?_)))
 have h1:=List.sizeOf_lt_of_mem hx
 exact(Term.mk_ x).sub (fun m hm=>by omega)
theorem mTm_(a:Term){k:Int}(h0:1≤k)(h1:k+(((lcn Term.cn) a.Args:Nat):Int)≤2305843009213693952):∃ y0,mT_1 a k=some (k+(((lcn Term.cn) a.Args:Nat):Int),y0):=by
 obtain⟨y0,m0⟩:=(mTS_1 a.Args).unit (k:=k) (by omega) (by omega)
 have e:k+(((lcn Term.cn) a.Args:Nat):Int)=k+(((lcn Term.cn) a.Args:Nat):Int):=by omega
 refine⟨y0,?_⟩
 simp only[mT_1,m0,Option.bind_some,e]
mutual
def Formula.cn:Formula→Nat
 | .mk x0 x1 x2 x3=>3+(lcn Term.cn) x1.Args+Formula.cns x3
def Formula.cns:List Formula→Nat
 | []=>0
 | a::l=>a.cn+Formula.cns l
end
theorem Formula.cns_eq(l:List Formula):Formula.cns l=lcn Formula.cn l:=by
 induction l with
 | nil=>rfl
 | cons a l ih=>rw[Formula.cns,ih,lc_]
theorem Formula.cn_u(a:Formula):a.cn=3+(lcn Term.cn) a.Atom.Args+(lcn Formula.cn) a.Parts:=by cases a; rw[Formula.cn,Formula.cns_eq]; rfl
theorem Formula.cn_pos(a:Formula):1≤a.cn:=by rw[Formula.cn_u]; omega
theorem mFS_4(xs:List Formula)(P:Nat→Prop)(hel:∀ x∈xs,MK P mFS_1 x.Parts (lcn Formula.cn x.Parts)):MK P (fun m=>mFS_1 (m+1)) xs (lcn Formula.cn xs):=by
 refine MK.of (cnt:=Formula.cn) (fun _ _ _=>by rw[mFS_1]) (fun _ l k=>by simp only[de_,cond_false]) (fun h=>by have:=ll_1 (c:=Formula.cn) (xs:=xs) (Formula.cn_pos); omega) (fun x hx k h0 h1=>?_)
 have hc:=Formula.cn_u x
 have w0:IntKind.i64.wrap (k+1)=k+1:=wrapK (by omega) (by omega)
 obtain⟨t1,e1⟩:=mTo_ (k+1) (by omega) (by omega)
 have w1:IntKind.i64.wrap (k+1+1)=k+1+1:=wrapK (by omega) (by omega)
 obtain⟨y2,m2⟩:=(mTS_1 x.Atom.Args).unit (k:=k+1+1) (by omega) (by omega)
 have d2:decide (k+1+1+(((lcn Term.cn) x.Atom.Args:Nat):Int)<0)=false:=decide_eq_false (by omega)
 obtain⟨t3,e3⟩:=mTo_ (k+1+1+(((lcn Term.cn) x.Atom.Args:Nat):Int)) (by omega) (by omega)
 have w3:IntKind.i64.wrap (k+1+1+(((lcn Term.cn) x.Atom.Args:Nat):Int)+1)=k+1+1+(((lcn Term.cn) x.Atom.Args:Nat):Int)+1:=wrapK (by omega) (by omega)
 obtain⟨y4,q4⟩:=(hel x hx) (k+1+1+(((lcn Term.cn) x.Atom.Args:Nat):Int)+1) (by omega) (by omega)
 have d4:decide (k+1+1+(((lcn Term.cn) x.Atom.Args:Nat):Int)+1+(((lcn Formula.cn) x.Parts:Nat):Int)<0)=false:=decide_eq_false (by omega)
 have e:k+((Formula.cn x:Nat):Int)=k+1+1+(((lcn Term.cn) x.Atom.Args:Nat):Int)+1+(((lcn Formula.cn) x.Parts:Nat):Int):=by omega
 refine⟨(Formula.mk k (Term.mk t1 y2) t3 y4),fun p hp pre rest hpre=>?_⟩
 have m4:=q4 p hp
 have wi:=ws_ (i:=pre.length) (by omega)
 simp only[dm_,cond_true,im_,sm_,Option.bind_some,rem3,wi,e,w0,w1,w3,e1,e3,m2,m4,d2,d4,FOm_,FAm_,FVm_,Formula.Parts_mk,TNm_,TAm_]
theorem Formula.mk_:∀ t:Formula,MK (fun m=>2*SizeOf.sizeOf t≤m) mFS_1 t.Parts (lcn Formula.cn t.Parts):=by
 intro t
 refine Formula.ind' (M:=fun t=>MK (fun m=>2*SizeOf.sizeOf t≤m) mFS_1 t.Parts (lcn Formula.cn t.Parts)) (fun t ih=>?_) t
 have h0:=Formula.pos t
 refine MK.shift (by omega) (mFS_4 t.Parts _ (fun x hx=>?_))
 have h1:=Formula.lt hx
 exact(ih x hx).sub (fun m hm=>by omega)
theorem mFS_(xs:List Formula):MK (fun _:Unit=>True) (fun _=>mFS_3) xs (lcn Formula.cn xs):=by
 refine MK.lim (N:=2*SizeOf.sizeOf xs+1) (MK.shift (by omega) (mFS_4 xs _ (fun x hx=>?_)))
 have h1:=List.sizeOf_lt_of_mem hx
 exact(Formula.mk_ x).sub (fun m hm=>by omega)
theorem mFm_(a:Formula){k:Int}(h0:1≤k)(h1:k+(((lcn Term.cn) a.Atom.Args+(lcn Formula.cn) a.Parts:Nat):Int)≤2305843009213693952):∃ y0 y1,mF_ a k=some (k+(((lcn Term.cn) a.Atom.Args+(lcn Formula.cn) a.Parts:Nat):Int),y0,y1):=by
 obtain⟨y0,m0⟩:=(mTS_1 a.Atom.Args).unit (k:=k) (by omega) (by omega)
 obtain⟨y1,m1⟩:=(mFS_ a.Parts).unit (k:=k+(((lcn Term.cn) a.Atom.Args:Nat):Int)) (by omega) (by omega)
 have e:k+(((lcn Term.cn) a.Atom.Args+(lcn Formula.cn) a.Parts:Nat):Int)=k+(((lcn Term.cn) a.Atom.Args:Nat):Int)+(((lcn Formula.cn) a.Parts:Nat):Int):=by omega
 refine⟨y0,y1,?_⟩
 simp only[mF_,mT_1,m0,m1,Option.bind_some,e]
theorem mSm_(a:Sequent){k:Int}(h0:1≤k)(h1:k+(((lcn Formula.cn) a.Left+(lcn Formula.cn) a.Right:Nat):Int)≤2305843009213693952):∃ y0 y1,mS_ a k=some (k+(((lcn Formula.cn) a.Left+(lcn Formula.cn) a.Right:Nat):Int),y0,y1):=by
 obtain⟨y0,m0⟩:=(mFS_ a.Left).unit (k:=k) (by omega) (by omega)
 obtain⟨y1,m1⟩:=(mFS_ a.Right).unit (k:=k+(((lcn Formula.cn) a.Left:Nat):Int)) (by omega) (by omega)
 have e:k+(((lcn Formula.cn) a.Left+(lcn Formula.cn) a.Right:Nat):Int)=k+(((lcn Formula.cn) a.Left:Nat):Int)+(((lcn Formula.cn) a.Right:Nat):Int):=by omega
 refine⟨y0,y1,?_⟩
 simp only[mS_,m0,m1,Option.bind_some,e]
mutual
def Derivation.cn:Derivation→Nat
 | .mk x0 x1 x2 x3 x4 x5=>6+(lcn Formula.cn) x1.Left+(lcn Formula.cn) x1.Right+(lcn Term.cn) x3.Args+(lcn Term.cn) x4.Atom.Args+(lcn Formula.cn) x4.Parts+Derivation.cns x5
def Derivation.cns:List Derivation→Nat
 | []=>0
 | a::l=>a.cn+Derivation.cns l
end
theorem Derivation.cns_eq(l:List Derivation):Derivation.cns l=lcn Derivation.cn l:=by
 induction l with
 | nil=>rfl
 | cons a l ih=>rw[Derivation.cns,ih,lc_]
theorem Derivation.cn_u(a:Derivation):a.cn=6+(lcn Formula.cn) a.Sequent.Left+(lcn Formula.cn) a.Sequent.Right+(lcn Term.cn) a.Term.Args+(lcn Term.cn) a.Cut.Atom.Args+(lcn Formula.cn) a.Cut.Parts+(lcn Derivation.cn) a.Parts:=by cases a; rw[Derivation.cn,Derivation.cns_eq]; rfl
theorem Derivation.cn_pos(a:Derivation):1≤a.cn:=by rw[Derivation.cn_u]; omega
theorem mDS_1(xs:List Derivation)(P:Nat→Prop)(hel:∀ x∈xs,MK P mDS_ x.Parts (lcn Derivation.cn x.Parts)):MK P (fun m=>mDS_ (m+1)) xs (lcn Derivation.cn xs):=by
 refine MK.of (cnt:=Derivation.cn) (fun _ _ _=>by rw[mDS_]) (fun _ l k=>by simp only[de_,cond_false]) (fun h=>by have:=ll_1 (c:=Derivation.cn) (xs:=xs) (Derivation.cn_pos); omega) (fun x hx k h0 h1=>?_)
 have hc:=Derivation.cn_u x
 have w0:IntKind.i64.wrap (k+1)=k+1:=wrapK (by omega) (by omega)
 obtain⟨y1,m1⟩:=(mFS_ x.Sequent.Left).unit (k:=k+1) (by omega) (by omega)
 have d1:decide (k+1+(((lcn Formula.cn) x.Sequent.Left:Nat):Int)<0)=false:=decide_eq_false (by omega)
 obtain⟨y2,m2⟩:=(mFS_ x.Sequent.Right).unit (k:=k+1+(((lcn Formula.cn) x.Sequent.Left:Nat):Int)) (by omega) (by omega)
 have d2:decide (k+1+(((lcn Formula.cn) x.Sequent.Left:Nat):Int)+(((lcn Formula.cn) x.Sequent.Right:Nat):Int)<0)=false:=decide_eq_false (by omega)
 have w3:IntKind.i64.wrap (k+1+(((lcn Formula.cn) x.Sequent.Left:Nat):Int)+(((lcn Formula.cn) x.Sequent.Right:Nat):Int)+1)=k+1+(((lcn Formula.cn) x.Sequent.Left:Nat):Int)+(((lcn Formula.cn) x.Sequent.Right:Nat):Int)+1:=wrapK (by omega) (by omega)
 obtain⟨t4,e4⟩:=mTo_ (k+1+(((lcn Formula.cn) x.Sequent.Left:Nat):Int)+(((lcn Formula.cn) x.Sequent.Right:Nat):Int)+1) (by omega) (by omega)
 have w4:IntKind.i64.wrap (k+1+(((lcn Formula.cn) x.Sequent.Left:Nat):Int)+(((lcn Formula.cn) x.Sequent.Right:Nat):Int)+1+1)=k+1+(((lcn Formula.cn) x.Sequent.Left:Nat):Int)+(((lcn Formula.cn) x.Sequent.Right:Nat):Int)+1+1:=wrapK (by omega) (by omega)
 obtain⟨y5,m5⟩:=(mTS_1 x.Term.Args).unit (k:=k+1+(((lcn Formula.cn) x.Sequent.Left:Nat):Int)+(((lcn Formula.cn) x.Sequent.Right:Nat):Int)+1+1) (by omega) (by omega)
 have d5:decide (k+1+(((lcn Formula.cn) x.Sequent.Left:Nat):Int)+(((lcn Formula.cn) x.Sequent.Right:Nat):Int)+1+1+(((lcn Term.cn) x.Term.Args:Nat):Int)<0)=false:=decide_eq_false (by omega)
 have w6:IntKind.i64.wrap (k+1+(((lcn Formula.cn) x.Sequent.Left:Nat):Int)+(((lcn Formula.cn) x.Sequent.Right:Nat):Int)+1+1+(((lcn Term.cn) x.Term.Args:Nat):Int)+1)=k+1+(((lcn Formula.cn) x.Sequent.Left:Nat):Int)+(((lcn Formula.cn) x.Sequent.Right:Nat):Int)+1+1+(((lcn Term.cn) x.Term.Args:Nat):Int)+1:=wrapK (by omega) (by omega)
 obtain⟨t7,e7⟩:=mTo_ (k+1+(((lcn Formula.cn) x.Sequent.Left:Nat):Int)+(((lcn Formula.cn) x.Sequent.Right:Nat):Int)+1+1+(((lcn Term.cn) x.Term.Args:Nat):Int)+1) (by omega) (by omega)
 have w7:IntKind.i64.wrap (k+1+(((lcn Formula.cn) x.Sequent.Left:Nat):Int)+(((lcn Formula.cn) x.Sequent.Right:Nat):Int)+1+1+(((lcn Term.cn) x.Term.Args:Nat):Int)+1+1)=k+1+(((lcn Formula.cn) x.Sequent.Left:Nat):Int)+(((lcn Formula.cn) x.Sequent.Right:Nat):Int)+1+1+(((lcn Term.cn) x.Term.Args:Nat):Int)+1+1:=wrapK (by omega) (by omega)
 obtain⟨y8,m8⟩:=(mTS_1 x.Cut.Atom.Args).unit (k:=k+1+(((lcn Formula.cn) x.Sequent.Left:Nat):Int)+(((lcn Formula.cn) x.Sequent.Right:Nat):Int)+1+1+(((lcn Term.cn) x.Term.Args:Nat):Int)+1+1) (by omega) (by omega)
 have d8:decide (k+1+(((lcn Formula.cn) x.Sequent.Left:Nat):Int)+(((lcn Formula.cn) x.Sequent.Right:Nat):Int)+1+1+(((lcn Term.cn) x.Term.Args:Nat):Int)+1+1+(((lcn Term.cn) x.Cut.Atom.Args:Nat):Int)<0)=false:=decide_eq_false (by omega)
 obtain⟨t9,e9⟩:=mTo_ (k+1+(((lcn Formula.cn) x.Sequent.Left:Nat):Int)+(((lcn Formula.cn) x.Sequent.Right:Nat):Int)+1+1+(((lcn Term.cn) x.Term.Args:Nat):Int)+1+1+(((lcn Term.cn) x.Cut.Atom.Args:Nat):Int)) (by omega) (by omega)
 have w9:IntKind.i64.wrap (k+1+(((lcn Formula.cn) x.Sequent.Left:Nat):Int)+(((lcn Formula.cn) x.Sequent.Right:Nat):Int)+1+1+(((lcn Term.cn) x.Term.Args:Nat):Int)+1+1+(((lcn Term.cn) x.Cut.Atom.Args:Nat):Int)+1)=k+1+(((lcn Formula.cn) x.Sequent.Left:Nat):Int)+(((lcn Formula.cn) x.Sequent.Right:Nat):Int)+1+1+(((lcn Term.cn) x.Term.Args:Nat):Int)+1+1+(((lcn Term.cn) x.Cut.Atom.Args:Nat):Int)+1:=wrapK (by omega) (by omega)
 obtain⟨y10,m10⟩:=(mFS_ x.Cut.Parts).unit (k:=k+1+(((lcn Formula.cn) x.Sequent.Left:Nat):Int)+(((lcn Formula.cn) x.Sequent.Right:Nat):Int)+1+1+(((lcn Term.cn) x.Term.Args:Nat):Int)+1+1+(((lcn Term.cn) x.Cut.Atom.Args:Nat):Int)+1) (by omega) (by omega)
 have d10:decide (k+1+(((lcn Formula.cn) x.Sequent.Left:Nat):Int)+(((lcn Formula.cn) x.Sequent.Right:Nat):Int)+1+1+(((lcn Term.cn) x.Term.Args:Nat):Int)+1+1+(((lcn Term.cn) x.Cut.Atom.Args:Nat):Int)+1+(((lcn Formula.cn) x.Cut.Parts:Nat):Int)<0)=false:=decide_eq_false (by omega)
 obtain⟨y11,q11⟩:=(hel x hx) (k+1+(((lcn Formula.cn) x.Sequent.Left:Nat):Int)+(((lcn Formula.cn) x.Sequent.Right:Nat):Int)+1+1+(((lcn Term.cn) x.Term.Args:Nat):Int)+1+1+(((lcn Term.cn) x.Cut.Atom.Args:Nat):Int)+1+(((lcn Formula.cn) x.Cut.Parts:Nat):Int)) (by omega) (by omega)
 have d11:decide (k+1+(((lcn Formula.cn) x.Sequent.Left:Nat):Int)+(((lcn Formula.cn) x.Sequent.Right:Nat):Int)+1+1+(((lcn Term.cn) x.Term.Args:Nat):Int)+1+1+(((lcn Term.cn) x.Cut.Atom.Args:Nat):Int)+1+(((lcn Formula.cn) x.Cut.Parts:Nat):Int)+(((lcn Derivation.cn) x.Parts:Nat):Int)<0)=false:=decide_eq_false (by omega)
 have e:k+((Derivation.cn x:Nat):Int)=k+1+(((lcn Formula.cn) x.Sequent.Left:Nat):Int)+(((lcn Formula.cn) x.Sequent.Right:Nat):Int)+1+1+(((lcn Term.cn) x.Term.Args:Nat):Int)+1+1+(((lcn Term.cn) x.Cut.Atom.Args:Nat):Int)+1+(((lcn Formula.cn) x.Cut.Parts:Nat):Int)+(((lcn Derivation.cn) x.Parts:Nat):Int):=by omega
 refine⟨(Derivation.mk k (Sequent.mk y1 y2) (k+1+(((lcn Formula.cn) x.Sequent.Left:Nat):Int)+(((lcn Formula.cn) x.Sequent.Right:Nat):Int)) (Term.mk t4 y5) (Formula.mk (k+1+(((lcn Formula.cn) x.Sequent.Left:Nat):Int)+(((lcn Formula.cn) x.Sequent.Right:Nat):Int)+1+1+(((lcn Term.cn) x.Term.Args:Nat):Int)) (Term.mk t7 y8) t9 y10) y11),fun p hp pre rest hpre=>?_⟩
 have m11:=q11 p hp
 have wi:=ws_ (i:=pre.length) (by omega)
 simp only[dm_,cond_true,im_,sm_,Option.bind_some,rem3,wi,e,w0,w3,w4,w6,w7,w9,e4,e7,e9,m1,m2,m5,m8,m10,m11,d1,d2,d5,d8,d10,d11,DRm_,DSm_,DMm_,DTm_,DCm_,Derivation.Parts_mk,FOm_,FAm_,FVm_,Formula.Parts_mk,TNm_,TAm_]
theorem Derivation.mk_:∀ t:Derivation,MK (fun m=>2*SizeOf.sizeOf t≤m) mDS_ t.Parts (lcn Derivation.cn t.Parts):=by
 intro t
 refine Derivation.ind' (M:=fun t=>MK (fun m=>2*SizeOf.sizeOf t≤m) mDS_ t.Parts (lcn Derivation.cn t.Parts)) (fun t ih=>?_) t
 have h0:=Derivation.pos t
 refine MK.shift (by omega) (mDS_1 t.Parts _ (fun x hx=>?_))
 have h1:=Derivation.lt hx
 exact(ih x hx).sub (fun m hm=>by omega)
theorem mDS_5(xs:List Derivation):MK (fun _:Unit=>True) (fun _=>mDS_2) xs (lcn Derivation.cn xs):=by
 refine MK.lim (N:=2*SizeOf.sizeOf xs+1) (MK.shift (by omega) (mDS_1 xs _ (fun x hx=>?_)))
 have h1:=List.sizeOf_lt_of_mem hx
 exact(Derivation.mk_ x).sub (fun m hm=>by omega)
theorem mDm_(a:Derivation){k:Int}(h0:1≤k)(h1:k+(((lcn Formula.cn) a.Sequent.Left+(lcn Formula.cn) a.Sequent.Right+(lcn Term.cn) a.Term.Args+(lcn Term.cn) a.Cut.Atom.Args+(lcn Formula.cn) a.Cut.Parts+(lcn Derivation.cn) a.Parts:Nat):Int)≤2305843009213693952):∃ y0 y1 y2 y3 y4 y5,mD_ a k=some (k+(((lcn Formula.cn) a.Sequent.Left+(lcn Formula.cn) a.Sequent.Right+(lcn Term.cn) a.Term.Args+(lcn Term.cn) a.Cut.Atom.Args+(lcn Formula.cn) a.Cut.Parts+(lcn Derivation.cn) a.Parts:Nat):Int),y0,y1,y2,y3,y4,y5):=by
 obtain⟨y0,m0⟩:=(mFS_ a.Sequent.Left).unit (k:=k) (by omega) (by omega)
 obtain⟨y1,m1⟩:=(mFS_ a.Sequent.Right).unit (k:=k+(((lcn Formula.cn) a.Sequent.Left:Nat):Int)) (by omega) (by omega)
 obtain⟨y2,m2⟩:=(mTS_1 a.Term.Args).unit (k:=k+(((lcn Formula.cn) a.Sequent.Left:Nat):Int)+(((lcn Formula.cn) a.Sequent.Right:Nat):Int)) (by omega) (by omega)
 obtain⟨y3,m3⟩:=(mTS_1 a.Cut.Atom.Args).unit (k:=k+(((lcn Formula.cn) a.Sequent.Left:Nat):Int)+(((lcn Formula.cn) a.Sequent.Right:Nat):Int)+(((lcn Term.cn) a.Term.Args:Nat):Int)) (by omega) (by omega)
 obtain⟨y4,m4⟩:=(mFS_ a.Cut.Parts).unit (k:=k+(((lcn Formula.cn) a.Sequent.Left:Nat):Int)+(((lcn Formula.cn) a.Sequent.Right:Nat):Int)+(((lcn Term.cn) a.Term.Args:Nat):Int)+(((lcn Term.cn) a.Cut.Atom.Args:Nat):Int)) (by omega) (by omega)
 obtain⟨y5,m5⟩:=(mDS_5 a.Parts).unit (k:=k+(((lcn Formula.cn) a.Sequent.Left:Nat):Int)+(((lcn Formula.cn) a.Sequent.Right:Nat):Int)+(((lcn Term.cn) a.Term.Args:Nat):Int)+(((lcn Term.cn) a.Cut.Atom.Args:Nat):Int)+(((lcn Formula.cn) a.Cut.Parts:Nat):Int)) (by omega) (by omega)
 have e:k+(((lcn Formula.cn) a.Sequent.Left+(lcn Formula.cn) a.Sequent.Right+(lcn Term.cn) a.Term.Args+(lcn Term.cn) a.Cut.Atom.Args+(lcn Formula.cn) a.Cut.Parts+(lcn Derivation.cn) a.Parts:Nat):Int)=k+(((lcn Formula.cn) a.Sequent.Left:Nat):Int)+(((lcn Formula.cn) a.Sequent.Right:Nat):Int)+(((lcn Term.cn) a.Term.Args:Nat):Int)+(((lcn Term.cn) a.Cut.Atom.Args:Nat):Int)+(((lcn Formula.cn) a.Cut.Parts:Nat):Int)+(((lcn Derivation.cn) a.Parts:Nat):Int):=by omega
 refine⟨y0,y1,y2,y3,y4,y5,?_⟩
 simp only[mD_,mS_,mT_1,mF_,m0,m1,m2,m3,m4,m5,Option.bind_some,e]
theorem mIS_2(xs:List Int):MK (fun _:Unit=>True) (fun _=>mIS_) xs (lcn (fun _=>1) xs):=by
 refine MK.of (cnt:=(fun _=>1)) (fun _ _ _=>rfl) (fun _ l k=>by simp only[de_,cond_false]) (fun h=>by have:=ll_1 (c:=(fun _=>1)) (xs:=xs) (fun _=>Nat.le_refl _); omega) (fun x hx k h0 h1=>?_)
 replace h1:k+((1:Nat):Int)≤2305843009213693952:=h1
 have w0:IntKind.i64.wrap (k+1)=k+1:=wrapK (by omega) (by omega)
 have e:k+((1:Nat):Int)=k+1:=by omega
 refine⟨k,fun p hp pre rest hpre=>?_⟩
 have wi:=ws_ (i:=pre.length) (by omega)
 simp only[dm_,cond_true,im_,sm_,Option.bind_some,rem3,wi,e,w0]
end Go.Proofs.YtkoghcphkdecoaaGreat
