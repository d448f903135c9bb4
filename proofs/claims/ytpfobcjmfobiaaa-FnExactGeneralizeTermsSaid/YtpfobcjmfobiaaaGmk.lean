/- Lemmas of the proof; each says what it shows. -/
import Derived.Test.YtpfobcjmfobiaaaGp
import Derived.Test.YtpfobcjmfobiaaaAvZ
set_option linter.unusedSimpArgs false
set_option linter.unusedVariables false
set_option linter.defProp false
set_option maxRecDepth 4000
namespace Go.Proofs.Ytpfobcjmfobiaaa
open Go.Av
open Option renaming bind_some→ak
theorem mTo_(k:Int)(h0:1≤k)(h1:k≤2305843009213693952):∃ t,mT_ k=some t:=by
 unfold mT_
 rw[decide_eq_false (by omega),cond_false]
 obtain⟨b',g1,g2⟩:=d_ (ρ:=ByteArray) (f:=fun s4=>bif decide ((0:Int)<s4.1) then Option.bind (rem s4.1 (10:Int)) fun v9=>Option.bind (bstr ([IntKind.u8.wrap (IntKind.i64.wrap ((48:Int)+v9))])) fun v13=>Option.bind (sapp v13 s4.2) fun v15=>Option.bind (quo s4.1 (10:Int)) fun v17=>some (.nx (v17,v15)) else some (.br s4))
  (d:=fun k=>bsOf [IntKind.u8.wrap (IntKind.i64.wrap ((48:Int)+k.tmod 10))]) (fun k=>by simp[bsOf,ByteArray.size]) (fun k b hk=>by
   by_cases h:0<k
   ·simp only[decide_eq_true h,cond_true,quo10 h hk,rem,bstr,ak]; rfl
   ·simp only[decide_eq_false h,cond_false]) k.toNat k ⟨#[]⟩ (by omega) (by omega) (by simp[ByteArray.size]; omega)
 rw[le_ g1,tLi_]
 have hs:sapp (⟨#[109]⟩:ByteArray) b'=some ((⟨#[109]⟩:ByteArray)++b'):=by
  unfold sapp
  have e0:(⟨#[]⟩:ByteArray).size=0:=rfl
  have e1:(⟨#[109]⟩:ByteArray).size=1:=rfl
  rw[if_pos (by omega)]
 exact⟨_,by rw[hs]; rfl⟩
mutual
def Tt.cn:Tt→Nat
 | .mk x0 x1=>1+Tc_1 x1
def Tc_1:List Tt→Nat
 | []=>0
 | a::l=>a.cn+Tc_1 l
end
theorem Tce_1(l:List Tt):Tc_1 l=lcn Tt.cn l:=by
 induction l with
 | nil=>rfl
 | cons a l ih=>rw[Tc_1,ih,lc_]
theorem Tcu_(a:Tt):a.cn=1+(lcn Tt.cn) a.Args:=by cases a; rw[Tt.cn,Tce_1]; rfl
theorem Tcp_(a:Tt):1≤a.cn:=by rw[Tcu_]; omega
theorem mTS_4(xs:List Tt)(P:Nat→Prop)(hel:∀ x∈xs,MH P mTS_ hTS_ x.Args (lcn Tt.cn x.Args)):MH P (fun m=>mTS_ (m+1)) (fun m=>hTS_ (m+1)) xs (lcn Tt.cn xs):=by
 refine MH.of (cnt:=Tt.cn) (fun _ _ _=>by rw[mTS_]) (fun _ _ _ _=>by rw[hTS_]) (fun _ l k=>by simp only[de_,cond_false]) (fun h=>by have:=ll_1 (c:=Tt.cn) (xs:=xs) (Tcp_); omega) (fun x hx k h0 h1=>?_)
 have hc:=Tcu_ x
 obtain⟨t0,e0⟩:=mTo_ k (by omega) (by omega)
 have w0:IntKind.i64.wrap (k+1)=k+1:=wrapK (by omega) (by omega)
 obtain⟨y1,q1⟩:=(hel x hx) (k+1) (by omega) (by omega)
 have d1:decide (k+1+(((lcn Tt.cn) x.Args:Nat):Int)<0)=false:=decide_eq_false (by omega)
 have e:k+((Tt.cn x:Nat):Int)=k+1+(((lcn Tt.cn) x.Args:Nat):Int):=by omega
 refine⟨(Tt.mk t0 y1),fun p hp=>⟨fun pre rest hpre=>?_,fun ys i hi=>?_⟩⟩
 ·obtain⟨m1,n1⟩:=q1 p hp
  have wi:=ws_ (i:=pre.length) (by omega)
  simp only[dm_1,cond_true,im_,sm_,ak,rem3,wi,e,w0,e0,m1,d1,TNm_,TAm_]
 ·obtain⟨m1,n1⟩:=q1 p hp
  simp only[in_,hi,ak,decide_true,eq_self,cond_true,cond_false,beq_self_eq_true,rem3,e,w0,e0,n1,d1,TNm_,TAm_]
theorem Th_:∀ t:Tt,MH (fun m=>2*SizeOf.sizeOf t≤m) mTS_ hTS_ t.Args (lcn Tt.cn t.Args):=by
 intro t
 refine Ti_1 (M:=fun t=>MH (fun m=>2*SizeOf.sizeOf t≤m) mTS_ hTS_ t.Args (lcn Tt.cn t.Args)) (fun t ih=>?_) t
 have h0:=Tt.pos t
 refine MH.shift (by omega) (mTS_4 t.Args _ (fun x hx=>?_))
 have h1:=Tt.lt hx
 exact(ih x hx).sub (fun m hm=>by omega)
theorem mTS_1(xs:List Tt):MH (fun _:Unit=>True) (fun _=>mTS_3) (fun _=>hTS_2) xs (lcn Tt.cn xs):=by
 refine MH.lim (N:=2*SizeOf.sizeOf xs+1) (MH.shift (by omega) (mTS_4 xs _ (fun x hx=>?_)))
 have h1:=List.sizeOf_lt_of_mem hx
 exact(Th_ x).sub (fun m hm=>by omega)
theorem mTh_(a:Tt){k:Int}(h0:1≤k)(h1:k+(((lcn Tt.cn) a.Args:Nat):Int)≤2305843009213693952):∃ y0,mT_1 a k=some (k+(((lcn Tt.cn) a.Args:Nat):Int),y0)∧hT_ (Tt.mk a.Name y0) k=some (k+(((lcn Tt.cn) a.Args:Nat):Int)):=by
 obtain⟨y0,m0,n0⟩:=(mTS_1 a.Args).unit (k:=k) (by omega) (by omega)
 have d0:decide (k+(((lcn Tt.cn) a.Args:Nat):Int)<0)=false:=decide_eq_false (by omega)
 have e:k+(((lcn Tt.cn) a.Args:Nat):Int)=k+(((lcn Tt.cn) a.Args:Nat):Int):=by omega
 refine⟨y0,?_,?_⟩
 ·simp only[mT_1,hT_,m0,ak,e]
 ·simp only[mT_1,hT_,n0,d0,ak,cond_false,e,TNm_,TAm_]

end Go.Proofs.Ytpfobcjmfobiaaa
