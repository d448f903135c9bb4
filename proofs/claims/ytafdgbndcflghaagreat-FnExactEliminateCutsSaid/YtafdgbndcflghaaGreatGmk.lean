/- Lemmas of the proof; each says what it shows. -/
import Derived.Test.YtafdgbndcflghaaGreatGp
import Derived.Test.YtafdgbndcflghaaGreatAvZ
set_option linter.unusedSimpArgs false
set_option linter.unusedVariables false
set_option linter.defProp false
set_option maxRecDepth 4000
namespace Go.Proofs.YtafdgbndcflghaaGreat
open Go.Av
open Ft renaming Parts_mk→bE
open Option renaming bind_some→ak
open SizeOf renaming sizeOf→av
theorem mTo_(k:Int)(h0:1≤k)(h1:k≤2305843009213693952):∃ t,mT_ k=some t:=by
 unfold mT_
 rw[decide_eq_false (by omega),cond_false]
 obtain⟨b',g1,g2⟩:=d_1 (ρ:=ByteArray) (f:=fun s4=>bif decide ((0:Int)<s4.1) then Option.bind (rem s4.1 (10:Int)) fun v9=>Option.bind (bstr ([IntKind.u8.wrap (IntKind.i64.wrap ((48:Int)+v9))])) fun v13=>Option.bind (sapp v13 s4.2) fun v15=>Option.bind (quo s4.1 (10:Int)) fun v17=>some (.nx (v17,v15)) else some (.br s4))
  (d:=fun k=>bsOf [IntKind.u8.wrap (IntKind.i64.wrap ((48:Int)+k.tmod 10))]) (fun k=>by simp[bsOf,ByteArray.size]) (fun k b hk=>by
   by_cases h:0<k
   ·simp only[decide_eq_true h,cond_true,q_ h hk,rem,bstr,ak]; rfl
   ·simp only[decide_eq_false h,cond_false]) k.toNat k ⟨#[]⟩ (by omega) (by omega) (by simp[ByteArray.size]; omega)
 rw[le_ g1,tLi_]
 have hs:sapp (⟨#[109]⟩:ByteArray) b'=some ((⟨#[109]⟩:ByteArray)++b'):=by
  unfold sapp
  have e0:(⟨#[]⟩:ByteArray).size=0:=rfl
  have e1:(⟨#[109]⟩:ByteArray).size=1:=rfl
  rw[if_pos (by omega)]
 exact⟨_,by rw[hs]; rfl⟩
mutual
def Tt.cn:Tt→Nat
 | .mk x0 x1=>1+Tt.cns x1
def Tt.cns:List Tt→Nat
 | []=>0
 | a::l=>a.cn+Tt.cns l
end
theorem Tt.cns_eq(l:List Tt):Tt.cns l=lcn Tt.cn l:=by
 induction l with
 | nil=>rfl
 | cons a l ih=>rw[Tt.cns,ih,lc_]
theorem Tt.cn_u(a:Tt):a.cn=1+(lcn Tt.cn) a.Args:=by cases a; rw[Tt.cn,Tt.cns_eq]; rfl
theorem Tt.cn_pos(a:Tt):1≤a.cn:=by rw[Tt.cn_u]; omega
theorem mTS_4(xs:List Tt)(P:Nat→Prop)(hel:∀ x∈xs,MH P mTS_1 hTS_ x.Args (lcn Tt.cn x.Args)):MH P (fun m=>mTS_1 (m+1)) (fun m=>hTS_ (m+1)) xs (lcn Tt.cn xs):=by
 refine MH.of (cnt:=Tt.cn) (fun _ _ _=>by rw[mTS_1]) (fun _ _ _ _=>by rw[hTS_]) (fun _ l k=>by simp only[de_,cond_false]) (fun h=>by have:=ll_2 (c:=Tt.cn) (xs:=xs) (Tt.cn_pos); omega) (fun x hx k h0 h1=>?_)
 have hc:=Tt.cn_u x
 obtain⟨t0,e0⟩:=mTo_ k (by omega) (by omega)
 have w0:IntKind.i64.wrap (k+1)=k+1:=wK_ (by omega) (by omega)
 obtain⟨y1,q1⟩:=(hel x hx) (k+1) (by omega) (by omega)
 have d1:decide (k+1+(((lcn Tt.cn) x.Args:Nat):Int)<0)=false:=decide_eq_false (by omega)
 have e:k+((Tt.cn x:Nat):Int)=k+1+(((lcn Tt.cn) x.Args:Nat):Int):=by omega
 refine⟨(Tt.mk t0 y1),fun p hp=>⟨fun pre rest hpre=>?_,fun ys i hi=>?_⟩⟩
 ·obtain⟨m1,n1⟩:=q1 p hp
  have wi:=ws_1 (i:=pre.length) (by omega)
  simp only[dm_,cond_true,im_,sm_,ak,rem3,wi,e,w0,e0,m1,d1,TNm_,TAm_]
 ·obtain⟨m1,n1⟩:=q1 p hp
  simp only[in_,hi,ak,decide_true,eq_self,cond_true,cond_false,beq_self_eq_true,rem3,e,w0,e0,n1,d1,TNm_,TAm_]
theorem Tt.held_:∀ t:Tt,MH (fun m=>2*av t≤m) mTS_1 hTS_ t.Args (lcn Tt.cn t.Args):=by
 intro t
 refine Tt.ind' (M:=fun t=>MH (fun m=>2*av t≤m) mTS_1 hTS_ t.Args (lcn Tt.cn t.Args)) (fun t ih=>?_) t
 have h0:=Tt.pos t
 refine MH.shift (by omega) (mTS_4 t.Args _ (fun x hx=>?_))
 have h1:=Tt.lt hx
 exact(ih x hx).sub (fun m hm=>by omega)
theorem mTS_(xs:List Tt):MH (fun _:Unit=>True) (fun _=>mTS_3) (fun _=>hTS_2) xs (lcn Tt.cn xs):=by
 refine MH.lim (N:=2*av xs+1) (MH.shift (by omega) (mTS_4 xs _ (fun x hx=>?_)))
 have h1:=List.sizeOf_lt_of_mem hx
 exact(Tt.held_ x).sub (fun m hm=>by omega)
theorem mTh_(a:Tt){k:Int}(h0:1≤k)(h1:k+(((lcn Tt.cn) a.Args:Nat):Int)≤2305843009213693952):∃ y0,mT_1 a k=some (k+(((lcn Tt.cn) a.Args:Nat):Int),y0)∧hT_ (Tt.mk a.Name y0) k=some (k+(((lcn Tt.cn) a.Args:Nat):Int)):=by
 obtain⟨y0,m0,n0⟩:=(mTS_ a.Args).unit (k:=k) (by omega) (by omega)
 have d0:decide (k+(((lcn Tt.cn) a.Args:Nat):Int)<0)=false:=decide_eq_false (by omega)
 have e:k+(((lcn Tt.cn) a.Args:Nat):Int)=k+(((lcn Tt.cn) a.Args:Nat):Int):=by omega
 refine⟨y0,?_,?_⟩
 ·simp only[mT_1,hT_,m0,ak,e]
 ·simp only[mT_1,hT_,n0,d0,ak,cond_false,e,TNm_,TAm_]
mutual
def Ft.cn:Ft→Nat
 | .mk x0 x1 x2 x3=>3+(lcn Tt.cn) x1.Args+Ft.cns x3
def Ft.cns:List Ft→Nat
 | []=>0
 | a::l=>a.cn+Ft.cns l
end
theorem Ft.cns_eq(l:List Ft):Ft.cns l=lcn Ft.cn l:=by
 induction l with
 | nil=>rfl
 | cons a l ih=>rw[Ft.cns,ih,lc_]
theorem Ft.cn_u(a:Ft):a.cn=3+(lcn Tt.cn) a.Atom.Args+(lcn Ft.cn) a.Parts:=by cases a; rw[Ft.cn,Ft.cns_eq]; rfl
theorem Ft.cn_pos(a:Ft):1≤a.cn:=by rw[Ft.cn_u]; omega
theorem mFS_4(xs:List Ft)(P:Nat→Prop)(hel:∀ x∈xs,MH P mFS_1 hFS_ x.Parts (lcn Ft.cn x.Parts)):MH P (fun m=>mFS_1 (m+1)) (fun m=>hFS_ (m+1)) xs (lcn Ft.cn xs):=by
 refine MH.of (cnt:=Ft.cn) (fun _ _ _=>by rw[mFS_1]) (fun _ _ _ _=>by rw[hFS_]) (fun _ l k=>by simp only[de_,cond_false]) (fun h=>by have:=ll_2 (c:=Ft.cn) (xs:=xs) (Ft.cn_pos); omega) (fun x hx k h0 h1=>?_)
 have hc:=Ft.cn_u x
 have w0:IntKind.i64.wrap (k+1)=k+1:=wK_ (by omega) (by omega)
 obtain⟨t1,e1⟩:=mTo_ (k+1) (by omega) (by omega)
 have w1:IntKind.i64.wrap (k+1+1)=k+1+1:=wK_ (by omega) (by omega)
 obtain⟨y2,m2,n2⟩:=(mTS_ x.Atom.Args).unit (k:=k+1+1) (by omega) (by omega)
 have d2:decide (k+1+1+(((lcn Tt.cn) x.Atom.Args:Nat):Int)<0)=false:=decide_eq_false (by omega)
 obtain⟨t3,e3⟩:=mTo_ (k+1+1+(((lcn Tt.cn) x.Atom.Args:Nat):Int)) (by omega) (by omega)
 have w3:IntKind.i64.wrap (k+1+1+(((lcn Tt.cn) x.Atom.Args:Nat):Int)+1)=k+1+1+(((lcn Tt.cn) x.Atom.Args:Nat):Int)+1:=wK_ (by omega) (by omega)
 obtain⟨y4,q4⟩:=(hel x hx) (k+1+1+(((lcn Tt.cn) x.Atom.Args:Nat):Int)+1) (by omega) (by omega)
 have d4:decide (k+1+1+(((lcn Tt.cn) x.Atom.Args:Nat):Int)+1+(((lcn Ft.cn) x.Parts:Nat):Int)<0)=false:=decide_eq_false (by omega)
 have e:k+((Ft.cn x:Nat):Int)=k+1+1+(((lcn Tt.cn) x.Atom.Args:Nat):Int)+1+(((lcn Ft.cn) x.Parts:Nat):Int):=by omega
 refine⟨(Ft.mk k (Tt.mk t1 y2) t3 y4),fun p hp=>⟨fun pre rest hpre=>?_,fun ys i hi=>?_⟩⟩
 ·obtain⟨m4,n4⟩:=q4 p hp
  have wi:=ws_1 (i:=pre.length) (by omega)
  simp only[dm_,cond_true,im_,sm_,ak,rem3,wi,e,w0,w1,w3,e1,e3,m2,m4,d2,d4,FOm_,FAm_,FVm_,bE,TNm_,TAm_]
 ·obtain⟨m4,n4⟩:=q4 p hp
  simp only[in_,hi,ak,decide_true,eq_self,cond_true,cond_false,beq_self_eq_true,rem3,e,w0,w1,w3,e1,e3,n2,n4,d2,d4,FOm_,FAm_,FVm_,bE,TNm_,TAm_]
theorem Ft.held_:∀ t:Ft,MH (fun m=>2*av t≤m) mFS_1 hFS_ t.Parts (lcn Ft.cn t.Parts):=by
 intro t
 refine Ft.ind' (M:=fun t=>MH (fun m=>2*av t≤m) mFS_1 hFS_ t.Parts (lcn Ft.cn t.Parts)) (fun t ih=>?_) t
 have h0:=Ft.pos t
 refine MH.shift (by omega) (mFS_4 t.Parts _ (fun x hx=>?_))
 have h1:=Ft.lt hx
 exact(ih x hx).sub (fun m hm=>by omega)
theorem mFS_(xs:List Ft):MH (fun _:Unit=>True) (fun _=>mFS_3) (fun _=>hFS_2) xs (lcn Ft.cn xs):=by
 refine MH.lim (N:=2*av xs+1) (MH.shift (by omega) (mFS_4 xs _ (fun x hx=>?_)))
 have h1:=List.sizeOf_lt_of_mem hx
 exact(Ft.held_ x).sub (fun m hm=>by omega)
theorem mFh_(a:Ft){k:Int}(h0:1≤k)(h1:k+(((lcn Tt.cn) a.Atom.Args+(lcn Ft.cn) a.Parts:Nat):Int)≤2305843009213693952):∃ y0 y1,mF_ a k=some (k+(((lcn Tt.cn) a.Atom.Args+(lcn Ft.cn) a.Parts:Nat):Int),y0,y1)∧hF_ (Ft.mk a.Op (Tt.mk a.Atom.Name y0) a.Var y1) k=some (k+(((lcn Tt.cn) a.Atom.Args+(lcn Ft.cn) a.Parts:Nat):Int)):=by
 obtain⟨y0,m0,n0⟩:=(mTS_ a.Atom.Args).unit (k:=k) (by omega) (by omega)
 have d0:decide (k+(((lcn Tt.cn) a.Atom.Args:Nat):Int)<0)=false:=decide_eq_false (by omega)
 obtain⟨y1,m1,n1⟩:=(mFS_ a.Parts).unit (k:=k+(((lcn Tt.cn) a.Atom.Args:Nat):Int)) (by omega) (by omega)
 have d1:decide (k+(((lcn Tt.cn) a.Atom.Args:Nat):Int)+(((lcn Ft.cn) a.Parts:Nat):Int)<0)=false:=decide_eq_false (by omega)
 have e:k+(((lcn Tt.cn) a.Atom.Args+(lcn Ft.cn) a.Parts:Nat):Int)=k+(((lcn Tt.cn) a.Atom.Args:Nat):Int)+(((lcn Ft.cn) a.Parts:Nat):Int):=by omega
 refine⟨y0,y1,?_,?_⟩
 ·simp only[mF_,hF_,mT_1,hT_,m0,m1,ak,e]
 ·simp only[mF_,hF_,mT_1,hT_,n0,n1,d0,d1,ak,cond_false,e,FOm_,FAm_,FVm_,bE,TNm_,TAm_]
theorem mSh_(a:Sa){k:Int}(h0:1≤k)(h1:k+(((lcn Ft.cn) a.Left+(lcn Ft.cn) a.Right:Nat):Int)≤2305843009213693952):∃ y0 y1,mS_ a k=some (k+(((lcn Ft.cn) a.Left+(lcn Ft.cn) a.Right:Nat):Int),y0,y1)∧hS_ (Sa.mk y0 y1) k=some (k+(((lcn Ft.cn) a.Left+(lcn Ft.cn) a.Right:Nat):Int)):=by
 obtain⟨y0,m0,n0⟩:=(mFS_ a.Left).unit (k:=k) (by omega) (by omega)
 have d0:decide (k+(((lcn Ft.cn) a.Left:Nat):Int)<0)=false:=decide_eq_false (by omega)
 obtain⟨y1,m1,n1⟩:=(mFS_ a.Right).unit (k:=k+(((lcn Ft.cn) a.Left:Nat):Int)) (by omega) (by omega)
 have d1:decide (k+(((lcn Ft.cn) a.Left:Nat):Int)+(((lcn Ft.cn) a.Right:Nat):Int)<0)=false:=decide_eq_false (by omega)
 have e:k+(((lcn Ft.cn) a.Left+(lcn Ft.cn) a.Right:Nat):Int)=k+(((lcn Ft.cn) a.Left:Nat):Int)+(((lcn Ft.cn) a.Right:Nat):Int):=by omega
 refine⟨y0,y1,?_,?_⟩
 ·simp only[mS_,hS_,m0,m1,ak,e]
 ·simp only[mS_,hS_,n0,n1,d0,d1,ak,cond_false,e]
mutual
def Dt.cn:Dt→Nat
 | .mk x0 x1 x2 x3 x4 x5=>6+(lcn Ft.cn) x1.Left+(lcn Ft.cn) x1.Right+(lcn Tt.cn) x3.Args+(lcn Tt.cn) x4.Atom.Args+(lcn Ft.cn) x4.Parts+Dt.cns x5
def Dt.cns:List Dt→Nat
 | []=>0
 | a::l=>a.cn+Dt.cns l
end
theorem Dt.cns_eq(l:List Dt):Dt.cns l=lcn Dt.cn l:=by
 induction l with
 | nil=>rfl
 | cons a l ih=>rw[Dt.cns,ih,lc_]
theorem Dt.cn_u(a:Dt):a.cn=6+(lcn Ft.cn) a.Sequent.Left+(lcn Ft.cn) a.Sequent.Right+(lcn Tt.cn) a.Term.Args+(lcn Tt.cn) a.Cut.Atom.Args+(lcn Ft.cn) a.Cut.Parts+(lcn Dt.cn) a.Parts:=by cases a; rw[Dt.cn,Dt.cns_eq]; rfl
theorem Dt.cn_pos(a:Dt):1≤a.cn:=by rw[Dt.cn_u]; omega
theorem mDS_1(xs:List Dt)(P:Nat→Prop)(hel:∀ x∈xs,MH P mDS_ hDS_ x.Parts (lcn Dt.cn x.Parts)):MH P (fun m=>mDS_ (m+1)) (fun m=>hDS_ (m+1)) xs (lcn Dt.cn xs):=by
 refine MH.of (cnt:=Dt.cn) (fun _ _ _=>by rw[mDS_]) (fun _ _ _ _=>by rw[hDS_]) (fun _ l k=>by simp only[de_,cond_false]) (fun h=>by have:=ll_2 (c:=Dt.cn) (xs:=xs) (Dt.cn_pos); omega) (fun x hx k h0 h1=>?_)
 have hc:=Dt.cn_u x
 have w0:IntKind.i64.wrap (k+1)=k+1:=wK_ (by omega) (by omega)
 obtain⟨y1,m1,n1⟩:=(mFS_ x.Sequent.Left).unit (k:=k+1) (by omega) (by omega)
 have d1:decide (k+1+(((lcn Ft.cn) x.Sequent.Left:Nat):Int)<0)=false:=decide_eq_false (by omega)
 obtain⟨y2,m2,n2⟩:=(mFS_ x.Sequent.Right).unit (k:=k+1+(((lcn Ft.cn) x.Sequent.Left:Nat):Int)) (by omega) (by omega)
 have d2:decide (k+1+(((lcn Ft.cn) x.Sequent.Left:Nat):Int)+(((lcn Ft.cn) x.Sequent.Right:Nat):Int)<0)=false:=decide_eq_false (by omega)
 have w3:IntKind.i64.wrap (k+1+(((lcn Ft.cn) x.Sequent.Left:Nat):Int)+(((lcn Ft.cn) x.Sequent.Right:Nat):Int)+1)=k+1+(((lcn Ft.cn) x.Sequent.Left:Nat):Int)+(((lcn Ft.cn) x.Sequent.Right:Nat):Int)+1:=wK_ (by omega) (by omega)
 obtain⟨t4,e4⟩:=mTo_ (k+1+(((lcn Ft.cn) x.Sequent.Left:Nat):Int)+(((lcn Ft.cn) x.Sequent.Right:Nat):Int)+1) (by omega) (by omega)
 have w4:IntKind.i64.wrap (k+1+(((lcn Ft.cn) x.Sequent.Left:Nat):Int)+(((lcn Ft.cn) x.Sequent.Right:Nat):Int)+1+1)=k+1+(((lcn Ft.cn) x.Sequent.Left:Nat):Int)+(((lcn Ft.cn) x.Sequent.Right:Nat):Int)+1+1:=wK_ (by omega) (by omega)
 obtain⟨y5,m5,n5⟩:=(mTS_ x.Term.Args).unit (k:=k+1+(((lcn Ft.cn) x.Sequent.Left:Nat):Int)+(((lcn Ft.cn) x.Sequent.Right:Nat):Int)+1+1) (by omega) (by omega)
 have d5:decide (k+1+(((lcn Ft.cn) x.Sequent.Left:Nat):Int)+(((lcn Ft.cn) x.Sequent.Right:Nat):Int)+1+1+(((lcn Tt.cn) x.Term.Args:Nat):Int)<0)=false:=decide_eq_false (by omega)
 have w6:IntKind.i64.wrap (k+1+(((lcn Ft.cn) x.Sequent.Left:Nat):Int)+(((lcn Ft.cn) x.Sequent.Right:Nat):Int)+1+1+(((lcn Tt.cn) x.Term.Args:Nat):Int)+1)=k+1+(((lcn Ft.cn) x.Sequent.Left:Nat):Int)+(((lcn Ft.cn) x.Sequent.Right:Nat):Int)+1+1+(((lcn Tt.cn) x.Term.Args:Nat):Int)+1:=wK_ (by omega) (by omega)
 obtain⟨t7,e7⟩:=mTo_ (k+1+(((lcn Ft.cn) x.Sequent.Left:Nat):Int)+(((lcn Ft.cn) x.Sequent.Right:Nat):Int)+1+1+(((lcn Tt.cn) x.Term.Args:Nat):Int)+1) (by omega) (by omega)
 have w7:IntKind.i64.wrap (k+1+(((lcn Ft.cn) x.Sequent.Left:Nat):Int)+(((lcn Ft.cn) x.Sequent.Right:Nat):Int)+1+1+(((lcn Tt.cn) x.Term.Args:Nat):Int)+1+1)=k+1+(((lcn Ft.cn) x.Sequent.Left:Nat):Int)+(((lcn Ft.cn) x.Sequent.Right:Nat):Int)+1+1+(((lcn Tt.cn) x.Term.Args:Nat):Int)+1+1:=wK_ (by omega) (by omega)
 obtain⟨y8,m8,n8⟩:=(mTS_ x.Cut.Atom.Args).unit (k:=k+1+(((lcn Ft.cn) x.Sequent.Left:Nat):Int)+(((lcn Ft.cn) x.Sequent.Right:Nat):Int)+1+1+(((lcn Tt.cn) x.Term.Args:Nat):Int)+1+1) (by omega) (by omega)
 have d8:decide (k+1+(((lcn Ft.cn) x.Sequent.Left:Nat):Int)+(((lcn Ft.cn) x.Sequent.Right:Nat):Int)+1+1+(((lcn Tt.cn) x.Term.Args:Nat):Int)+1+1+(((lcn Tt.cn) x.Cut.Atom.Args:Nat):Int)<0)=false:=decide_eq_false (by omega)
 obtain⟨t9,e9⟩:=mTo_ (k+1+(((lcn Ft.cn) x.Sequent.Left:Nat):Int)+(((lcn Ft.cn) x.Sequent.Right:Nat):Int)+1+1+(((lcn Tt.cn) x.Term.Args:Nat):Int)+1+1+(((lcn Tt.cn) x.Cut.Atom.Args:Nat):Int)) (by omega) (by omega)
 have w9:IntKind.i64.wrap (k+1+(((lcn Ft.cn) x.Sequent.Left:Nat):Int)+(((lcn Ft.cn) x.Sequent.Right:Nat):Int)+1+1+(((lcn Tt.cn) x.Term.Args:Nat):Int)+1+1+(((lcn Tt.cn) x.Cut.Atom.Args:Nat):Int)+1)=k+1+(((lcn Ft.cn) x.Sequent.Left:Nat):Int)+(((lcn Ft.cn) x.Sequent.Right:Nat):Int)+1+1+(((lcn Tt.cn) x.Term.Args:Nat):Int)+1+1+(((lcn Tt.cn) x.Cut.Atom.Args:Nat):Int)+1:=wK_ (by omega) (by omega)
 obtain⟨y10,m10,n10⟩:=(mFS_ x.Cut.Parts).unit (k:=k+1+(((lcn Ft.cn) x.Sequent.Left:Nat):Int)+(((lcn Ft.cn) x.Sequent.Right:Nat):Int)+1+1+(((lcn Tt.cn) x.Term.Args:Nat):Int)+1+1+(((lcn Tt.cn) x.Cut.Atom.Args:Nat):Int)+1) (by omega) (by omega)
 have d10:decide (k+1+(((lcn Ft.cn) x.Sequent.Left:Nat):Int)+(((lcn Ft.cn) x.Sequent.Right:Nat):Int)+1+1+(((lcn Tt.cn) x.Term.Args:Nat):Int)+1+1+(((lcn Tt.cn) x.Cut.Atom.Args:Nat):Int)+1+(((lcn Ft.cn) x.Cut.Parts:Nat):Int)<0)=false:=decide_eq_false (by omega)
 obtain⟨y11,q11⟩:=(hel x hx) (k+1+(((lcn Ft.cn) x.Sequent.Left:Nat):Int)+(((lcn Ft.cn) x.Sequent.Right:Nat):Int)+1+1+(((lcn Tt.cn) x.Term.Args:Nat):Int)+1+1+(((lcn Tt.cn) x.Cut.Atom.Args:Nat):Int)+1+(((lcn Ft.cn) x.Cut.Parts:Nat):Int)) (by omega) (by omega)
 have d11:decide (k+1+(((lcn Ft.cn) x.Sequent.Left:Nat):Int)+(((lcn Ft.cn) x.Sequent.Right:Nat):Int)+1+1+(((lcn Tt.cn) x.Term.Args:Nat):Int)+1+1+(((lcn Tt.cn) x.Cut.Atom.Args:Nat):Int)+1+(((lcn Ft.cn) x.Cut.Parts:Nat):Int)+(((lcn Dt.cn) x.Parts:Nat):Int)<0)=false:=decide_eq_false (by omega)
 have e:k+((Dt.cn x:Nat):Int)=k+1+(((lcn Ft.cn) x.Sequent.Left:Nat):Int)+(((lcn Ft.cn) x.Sequent.Right:Nat):Int)+1+1+(((lcn Tt.cn) x.Term.Args:Nat):Int)+1+1+(((lcn Tt.cn) x.Cut.Atom.Args:Nat):Int)+1+(((lcn Ft.cn) x.Cut.Parts:Nat):Int)+(((lcn Dt.cn) x.Parts:Nat):Int):=by omega
 refine⟨(Dt.mk k (Sa.mk y1 y2) (k+1+(((lcn Ft.cn) x.Sequent.Left:Nat):Int)+(((lcn Ft.cn) x.Sequent.Right:Nat):Int)) (Tt.mk t4 y5) (Ft.mk (k+1+(((lcn Ft.cn) x.Sequent.Left:Nat):Int)+(((lcn Ft.cn) x.Sequent.Right:Nat):Int)+1+1+(((lcn Tt.cn) x.Term.Args:Nat):Int)) (Tt.mk t7 y8) t9 y10) y11),fun p hp=>⟨fun pre rest hpre=>?_,fun ys i hi=>?_⟩⟩
 ·obtain⟨m11,n11⟩:=q11 p hp
  have wi:=ws_1 (i:=pre.length) (by omega)
  simp only[dm_,cond_true,im_,sm_,ak,rem3,wi,e,w0,w3,w4,w6,w7,w9,e4,e7,e9,m1,m2,m5,m8,m10,m11,d1,d2,d5,d8,d10,d11,DRm_,DSm_,DMm_,DTm_,DCm_,Dt.Parts_mk,FOm_,FAm_,FVm_,bE,TNm_,TAm_]
 ·obtain⟨m11,n11⟩:=q11 p hp
  simp only[in_,hi,ak,decide_true,eq_self,cond_true,cond_false,beq_self_eq_true,rem3,e,w0,w3,w4,w6,w7,w9,e4,e7,e9,n1,n2,n5,n8,n10,n11,d1,d2,d5,d8,d10,d11,DRm_,DSm_,DMm_,DTm_,DCm_,Dt.Parts_mk,FOm_,FAm_,FVm_,bE,TNm_,TAm_]
theorem Dt.held_:∀ t:Dt,MH (fun m=>2*av t≤m) mDS_ hDS_ t.Parts (lcn Dt.cn t.Parts):=by
 intro t
 refine Dt.ind' (M:=fun t=>MH (fun m=>2*av t≤m) mDS_ hDS_ t.Parts (lcn Dt.cn t.Parts)) (fun t ih=>?_) t
 have h0:=Dt.pos t
 refine MH.shift (by omega) (mDS_1 t.Parts _ (fun x hx=>?_))
 have h1:=Dt.lt hx
 exact(ih x hx).sub (fun m hm=>by omega)
theorem mDS_3(xs:List Dt):MH (fun _:Unit=>True) (fun _=>mDS_2) (fun _=>hDS_1) xs (lcn Dt.cn xs):=by
 refine MH.lim (N:=2*av xs+1) (MH.shift (by omega) (mDS_1 xs _ (fun x hx=>?_)))
 have h1:=List.sizeOf_lt_of_mem hx
 exact(Dt.held_ x).sub (fun m hm=>by omega)
theorem mDh_(a:Dt){k:Int}(h0:1≤k)(h1:k+(((lcn Ft.cn) a.Sequent.Left+(lcn Ft.cn) a.Sequent.Right+(lcn Tt.cn) a.Term.Args+(lcn Tt.cn) a.Cut.Atom.Args+(lcn Ft.cn) a.Cut.Parts+(lcn Dt.cn) a.Parts:Nat):Int)≤2305843009213693952):∃ y0 y1 y2 y3 y4 y5,mD_ a k=some (k+(((lcn Ft.cn) a.Sequent.Left+(lcn Ft.cn) a.Sequent.Right+(lcn Tt.cn) a.Term.Args+(lcn Tt.cn) a.Cut.Atom.Args+(lcn Ft.cn) a.Cut.Parts+(lcn Dt.cn) a.Parts:Nat):Int),y0,y1,y2,y3,y4,y5)∧hD_ (Dt.mk a.Rule (Sa.mk y0 y1) a.Main (Tt.mk a.Term.Name y2) (Ft.mk a.Cut.Op (Tt.mk a.Cut.Atom.Name y3) a.Cut.Var y4) y5) k=some (k+(((lcn Ft.cn) a.Sequent.Left+(lcn Ft.cn) a.Sequent.Right+(lcn Tt.cn) a.Term.Args+(lcn Tt.cn) a.Cut.Atom.Args+(lcn Ft.cn) a.Cut.Parts+(lcn Dt.cn) a.Parts:Nat):Int)):=by
 obtain⟨y0,m0,n0⟩:=(mFS_ a.Sequent.Left).unit (k:=k) (by omega) (by omega)
 have d0:decide (k+(((lcn Ft.cn) a.Sequent.Left:Nat):Int)<0)=false:=decide_eq_false (by omega)
 obtain⟨y1,m1,n1⟩:=(mFS_ a.Sequent.Right).unit (k:=k+(((lcn Ft.cn) a.Sequent.Left:Nat):Int)) (by omega) (by omega)
 have d1:decide (k+(((lcn Ft.cn) a.Sequent.Left:Nat):Int)+(((lcn Ft.cn) a.Sequent.Right:Nat):Int)<0)=false:=decide_eq_false (by omega)
 obtain⟨y2,m2,n2⟩:=(mTS_ a.Term.Args).unit (k:=k+(((lcn Ft.cn) a.Sequent.Left:Nat):Int)+(((lcn Ft.cn) a.Sequent.Right:Nat):Int)) (by omega) (by omega)
 have d2:decide (k+(((lcn Ft.cn) a.Sequent.Left:Nat):Int)+(((lcn Ft.cn) a.Sequent.Right:Nat):Int)+(((lcn Tt.cn) a.Term.Args:Nat):Int)<0)=false:=decide_eq_false (by omega)
 obtain⟨y3,m3,n3⟩:=(mTS_ a.Cut.Atom.Args).unit (k:=k+(((lcn Ft.cn) a.Sequent.Left:Nat):Int)+(((lcn Ft.cn) a.Sequent.Right:Nat):Int)+(((lcn Tt.cn) a.Term.Args:Nat):Int)) (by omega) (by omega)
 have d3:decide (k+(((lcn Ft.cn) a.Sequent.Left:Nat):Int)+(((lcn Ft.cn) a.Sequent.Right:Nat):Int)+(((lcn Tt.cn) a.Term.Args:Nat):Int)+(((lcn Tt.cn) a.Cut.Atom.Args:Nat):Int)<0)=false:=decide_eq_false (by omega)
 obtain⟨y4,m4,n4⟩:=(mFS_ a.Cut.Parts).unit (k:=k+(((lcn Ft.cn) a.Sequent.Left:Nat):Int)+(((lcn Ft.cn) a.Sequent.Right:Nat):Int)+(((lcn Tt.cn) a.Term.Args:Nat):Int)+(((lcn Tt.cn) a.Cut.Atom.Args:Nat):Int)) (by omega) (by omega)
 have d4:decide (k+(((lcn Ft.cn) a.Sequent.Left:Nat):Int)+(((lcn Ft.cn) a.Sequent.Right:Nat):Int)+(((lcn Tt.cn) a.Term.Args:Nat):Int)+(((lcn Tt.cn) a.Cut.Atom.Args:Nat):Int)+(((lcn Ft.cn) a.Cut.Parts:Nat):Int)<0)=false:=decide_eq_false (by omega)
 obtain⟨y5,m5,n5⟩:=(mDS_3 a.Parts).unit (k:=k+(((lcn Ft.cn) a.Sequent.Left:Nat):Int)+(((lcn Ft.cn) a.Sequent.Right:Nat):Int)+(((lcn Tt.cn) a.Term.Args:Nat):Int)+(((lcn Tt.cn) a.Cut.Atom.Args:Nat):Int)+(((lcn Ft.cn) a.Cut.Parts:Nat):Int)) (by omega) (by omega)
 have d5:decide (k+(((lcn Ft.cn) a.Sequent.Left:Nat):Int)+(((lcn Ft.cn) a.Sequent.Right:Nat):Int)+(((lcn Tt.cn) a.Term.Args:Nat):Int)+(((lcn Tt.cn) a.Cut.Atom.Args:Nat):Int)+(((lcn Ft.cn) a.Cut.Parts:Nat):Int)+(((lcn Dt.cn) a.Parts:Nat):Int)<0)=false:=decide_eq_false (by omega)
 have e:k+(((lcn Ft.cn) a.Sequent.Left+(lcn Ft.cn) a.Sequent.Right+(lcn Tt.cn) a.Term.Args+(lcn Tt.cn) a.Cut.Atom.Args+(lcn Ft.cn) a.Cut.Parts+(lcn Dt.cn) a.Parts:Nat):Int)=k+(((lcn Ft.cn) a.Sequent.Left:Nat):Int)+(((lcn Ft.cn) a.Sequent.Right:Nat):Int)+(((lcn Tt.cn) a.Term.Args:Nat):Int)+(((lcn Tt.cn) a.Cut.Atom.Args:Nat):Int)+(((lcn Ft.cn) a.Cut.Parts:Nat):Int)+(((lcn Dt.cn) a.Parts:Nat):Int):=by omega
 refine⟨y0,y1,y2,y3,y4,y5,?_,?_⟩
 ·simp only[mD_,hD_,mS_,hS_,mT_1,hT_,mF_,hF_,m0,m1,m2,m3,m4,m5,ak,e]
 ·simp only[mD_,hD_,mS_,hS_,mT_1,hT_,mF_,hF_,n0,n1,n2,n3,n4,n5,d0,d1,d2,d3,d4,d5,ak,cond_false,e,DRm_,DSm_,DMm_,DTm_,DCm_,Dt.Parts_mk,FOm_,FAm_,FVm_,bE,TNm_,TAm_]

end Go.Proofs.YtafdgbndcflghaaGreat
