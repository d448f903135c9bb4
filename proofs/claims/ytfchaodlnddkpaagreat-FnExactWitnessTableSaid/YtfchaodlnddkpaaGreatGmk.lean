/- Lemmas of the proof; each says what it shows. -/
import Derived.Test.YtfchaodlnddkpaaGreatGp
import Derived.Test.YtfchaodlnddkpaaGreatAvZ
set_option linter.unusedSimpArgs false
set_option linter.unusedVariables false
set_option linter.defProp false
set_option maxRecDepth 4000
namespace Go.Proofs.YtfchaodlnddkpaaGreat
open Go.Av
open Option renaming bind_some→ap
open SizeOf renaming sizeOf→au
theorem markText_ok(k:Int)(h0:1≤k)(h1:k≤2305843009213693952):∃ t,markText k=some t:=by
 unfold markText
 rw[decide_eq_false (by omega),cond_false]
 obtain⟨b',g1,g2⟩:=digits (ρ:=ByteArray) (f:=fun s4=>bif decide ((0:Int)<s4.1) then Option.bind (rem s4.1 (10:Int)) fun v9=>Option.bind (bstr ([IntKind.u8.wrap (IntKind.i64.wrap ((48:Int)+v9))])) fun v13=>Option.bind (sapp v13 s4.2) fun v15=>Option.bind (quo s4.1 (10:Int)) fun v17=>some (.nx (v17,v15)) else some (.br s4))
  (d:=fun k=>bsOf [IntKind.u8.wrap (IntKind.i64.wrap ((48:Int)+k.tmod 10))]) (fun k=>by simp[bsOf,ByteArray.size]) (fun k b hk=>by
   by_cases h:0<k
   ·simp only[decide_eq_true h,cond_true,quo10 h hk,rem,bstr,ap]; rfl
   ·simp only[decide_eq_false h,cond_false]) k.toNat k ⟨#[]⟩ (by omega) (by omega) (by simp[ByteArray.size]; omega)
 rw[lim_eq g1,thenL_inr]
 have hs:sapp (⟨#[109]⟩:ByteArray) b'=some ((⟨#[109]⟩:ByteArray)++b'):=by
  unfold sapp
  have e0:(⟨#[]⟩:ByteArray).size=0:=rfl
  have e1:(⟨#[109]⟩:ByteArray).size=1:=rfl
  rw[if_pos (by omega)]
 exact⟨_,by rw[hs]; rfl⟩
theorem markIntS_held(xs:List Int):MH (fun _:Unit=>True) (fun _=>markIntS) (fun _=>heldIntS) xs (lcn (fun _=>1) xs):=by
 refine MH.of (cnt:=(fun _=>1)) (fun _ _ _=>rfl) (fun _ _ _ _=>rfl) (fun _ l k=>by simp only[dec_end,cond_false]) (fun h=>by have:=lcn_len (c:=(fun _=>1)) (xs:=xs) (fun _=>Nat.le_refl _); omega) (fun x hx k h0 h1=>?_)
 replace h1:k+((1:Nat):Int)≤2305843009213693952:=h1
 have w0:IntKind.i64.wrap (k+1)=k+1:=wrapK (by omega) (by omega)
 have e:k+((1:Nat):Int)=k+1:=by omega
 refine⟨k,fun p hp=>⟨fun pre rest hpre=>?_,fun ys i hi=>?_⟩⟩
 ·have wi:=wrap_succ (i:=pre.length) (by omega)
  simp only[dec_mid,cond_true,idx_mid,set_mid,ap,rem3,wi,e,w0]
 ·simp only[idx_nat,hi,ap,decide_true,eq_self,cond_true,cond_false,beq_self_eq_true,rem3,e,w0]
mutual
def Tt.cn:Tt→Nat
 | .mk x0 x1=>1+Tt.cns x1
def Tt.cns:List Tt→Nat
 | []=>0
 | a::l=>a.cn+Tt.cns l
end
theorem Tt.cns_eq(l:List Tt):Tt.cns l=lcn Tt.cn l:=by
 induction l with
 | nil=>rfl
 | cons a l ih=>rw[Tt.cns,ih,lcn_cons]
theorem Tt.cn_u(a:Tt):a.cn=1+(lcn Tt.cn) a.Args:=by cases a; rw[Tt.cn,Tt.cns_eq]; rfl
theorem Tt.cn_pos(a:Tt):1≤a.cn:=by rw[Tt.cn_u]; omega
theorem markTermS_list1(xs:List Tt)(P:Nat→Prop)(hel:∀ x∈xs,MK P markTermSN x.Args (lcn Tt.cn x.Args)):MK P (fun m=>markTermSN (m+1)) xs (lcn Tt.cn xs):=by
 refine MK.of (cnt:=Tt.cn) (fun _ _ _=>by rw[markTermSN]) (fun _ l k=>by simp only[dec_end,cond_false]) (fun h=>by have:=lcn_len (c:=Tt.cn) (xs:=xs) (Tt.cn_pos); omega) (fun x hx k h0 h1=>?_)
 have hc:=Tt.cn_u x
 obtain⟨t0,e0⟩:=markText_ok k (by omega) (by omega)
 have w0:IntKind.i64.wrap (k+1)=k+1:=wrapK (by omega) (by omega)
 obtain⟨y1,q1⟩:=(hel x hx) (k+1) (by omega) (by omega)
 have d1:decide (k+1+(((lcn Tt.cn) x.Args:Nat):Int)<0)=false:=decide_eq_false (by omega)
 have e:k+((Tt.cn x:Nat):Int)=k+1+(((lcn Tt.cn) x.Args:Nat):Int):=by omega
 refine⟨(Tt.mk t0 y1),fun p hp pre rest hpre=>?_⟩
 have m1:=q1 p hp
 have wi:=wrap_succ (i:=pre.length) (by omega)
 simp only[dec_mid,cond_true,idx_mid,set_mid,ap,rem3,wi,e,w0,e0,m1,d1,Tt.Name_mk,Tt.Args_mk]
theorem Tt.mk_:∀ t:Tt,MK (fun m=>2*au t≤m) markTermSN t.Args (lcn Tt.cn t.Args):=by
 intro t
 refine Tt.ind' (M:=fun t=>MK (fun m=>2*au t≤m) markTermSN t.Args (lcn Tt.cn t.Args)) (fun t ih=>?_) t
 have h0:=Tt.pos t
 refine MK.shift (by omega) (markTermS_list1 t.Args _ (fun x hx=>?_))
 have h1:=Tt.lt hx
 exact(ih x hx).sub (fun m hm=>by omega)
theorem markTermS_mk(xs:List Tt):MK (fun _:Unit=>True) (fun _=>markTermS) xs (lcn Tt.cn xs):=by
 refine MK.lim (N:=2*au xs+1) (MK.shift (by omega) (markTermS_list1 xs _ (fun x hx=>?_)))
 have h1:=List.sizeOf_lt_of_mem hx
 exact(Tt.mk_ x).sub (fun m hm=>by omega)
theorem markTerm_mk(a:Tt){k:Int}(h0:1≤k)(h1:k+(((lcn Tt.cn) a.Args:Nat):Int)≤2305843009213693952):∃ y0,markTerm a k=some (k+(((lcn Tt.cn) a.Args:Nat):Int),y0):=by
 obtain⟨y0,m0⟩:=(markTermS_mk a.Args).unit (k:=k) (by omega) (by omega)
 have e:k+(((lcn Tt.cn) a.Args:Nat):Int)=k+(((lcn Tt.cn) a.Args:Nat):Int):=by omega
 refine⟨y0,?_⟩
 simp only[markTerm,m0,ap,e]
mutual
def Ft.cn:Ft→Nat
 | .mk x0 x1 x2 x3=>3+(lcn Tt.cn) x1.Args+Ft.cns x3
def Ft.cns:List Ft→Nat
 | []=>0
 | a::l=>a.cn+Ft.cns l
end
theorem Ft.cns_eq(l:List Ft):Ft.cns l=lcn Ft.cn l:=by
 induction l with
 | nil=>rfl
 | cons a l ih=>rw[Ft.cns,ih,lcn_cons]
theorem Ft.cn_u(a:Ft):a.cn=3+(lcn Tt.cn) a.Atom.Args+(lcn Ft.cn) a.Parts:=by cases a; rw[Ft.cn,Ft.cns_eq]; rfl
theorem Ft.cn_pos(a:Ft):1≤a.cn:=by rw[Ft.cn_u]; omega
theorem markFormulaS_list1(xs:List Ft)(P:Nat→Prop)(hel:∀ x∈xs,MK P markFormulaSN x.Parts (lcn Ft.cn x.Parts)):MK P (fun m=>markFormulaSN (m+1)) xs (lcn Ft.cn xs):=by
 refine MK.of (cnt:=Ft.cn) (fun _ _ _=>by rw[markFormulaSN]) (fun _ l k=>by simp only[dec_end,cond_false]) (fun h=>by have:=lcn_len (c:=Ft.cn) (xs:=xs) (Ft.cn_pos); omega) (fun x hx k h0 h1=>?_)
 have hc:=Ft.cn_u x
 have w0:IntKind.i64.wrap (k+1)=k+1:=wrapK (by omega) (by omega)
 obtain⟨t1,e1⟩:=markText_ok (k+1) (by omega) (by omega)
 have w1:IntKind.i64.wrap (k+1+1)=k+1+1:=wrapK (by omega) (by omega)
 obtain⟨y2,m2⟩:=(markTermS_mk x.Atom.Args).unit (k:=k+1+1) (by omega) (by omega)
 have d2:decide (k+1+1+(((lcn Tt.cn) x.Atom.Args:Nat):Int)<0)=false:=decide_eq_false (by omega)
 obtain⟨t3,e3⟩:=markText_ok (k+1+1+(((lcn Tt.cn) x.Atom.Args:Nat):Int)) (by omega) (by omega)
 have w3:IntKind.i64.wrap (k+1+1+(((lcn Tt.cn) x.Atom.Args:Nat):Int)+1)=k+1+1+(((lcn Tt.cn) x.Atom.Args:Nat):Int)+1:=wrapK (by omega) (by omega)
 obtain⟨y4,q4⟩:=(hel x hx) (k+1+1+(((lcn Tt.cn) x.Atom.Args:Nat):Int)+1) (by omega) (by omega)
 have d4:decide (k+1+1+(((lcn Tt.cn) x.Atom.Args:Nat):Int)+1+(((lcn Ft.cn) x.Parts:Nat):Int)<0)=false:=decide_eq_false (by omega)
 have e:k+((Ft.cn x:Nat):Int)=k+1+1+(((lcn Tt.cn) x.Atom.Args:Nat):Int)+1+(((lcn Ft.cn) x.Parts:Nat):Int):=by omega
 refine⟨(Ft.mk k (Tt.mk t1 y2) t3 y4),fun p hp pre rest hpre=>?_⟩
 have m4:=q4 p hp
 have wi:=wrap_succ (i:=pre.length) (by omega)
 simp only[dec_mid,cond_true,idx_mid,set_mid,ap,rem3,wi,e,w0,w1,w3,e1,e3,m2,m4,d2,d4,Ft.Op_mk,Ft.Atom_mk,Ft.Var_mk,Ft.Parts_mk,Tt.Name_mk,Tt.Args_mk]
theorem Ft.mk_:∀ t:Ft,MK (fun m=>2*au t≤m) markFormulaSN t.Parts (lcn Ft.cn t.Parts):=by
 intro t
 refine Ft.ind' (M:=fun t=>MK (fun m=>2*au t≤m) markFormulaSN t.Parts (lcn Ft.cn t.Parts)) (fun t ih=>?_) t
 have h0:=Ft.pos t
 refine MK.shift (by omega) (markFormulaS_list1 t.Parts _ (fun x hx=>?_))
 have h1:=Ft.lt hx
 exact(ih x hx).sub (fun m hm=>by omega)
theorem markFormulaS_mk(xs:List Ft):MK (fun _:Unit=>True) (fun _=>markFormulaS) xs (lcn Ft.cn xs):=by
 refine MK.lim (N:=2*au xs+1) (MK.shift (by omega) (markFormulaS_list1 xs _ (fun x hx=>?_)))
 have h1:=List.sizeOf_lt_of_mem hx
 exact(Ft.mk_ x).sub (fun m hm=>by omega)
theorem markFormula_mk(a:Ft){k:Int}(h0:1≤k)(h1:k+(((lcn Tt.cn) a.Atom.Args+(lcn Ft.cn) a.Parts:Nat):Int)≤2305843009213693952):∃ y0 y1,markFormula a k=some (k+(((lcn Tt.cn) a.Atom.Args+(lcn Ft.cn) a.Parts:Nat):Int),y0,y1):=by
 obtain⟨y0,m0⟩:=(markTermS_mk a.Atom.Args).unit (k:=k) (by omega) (by omega)
 obtain⟨y1,m1⟩:=(markFormulaS_mk a.Parts).unit (k:=k+(((lcn Tt.cn) a.Atom.Args:Nat):Int)) (by omega) (by omega)
 have e:k+(((lcn Tt.cn) a.Atom.Args+(lcn Ft.cn) a.Parts:Nat):Int)=k+(((lcn Tt.cn) a.Atom.Args:Nat):Int)+(((lcn Ft.cn) a.Parts:Nat):Int):=by omega
 refine⟨y0,y1,?_⟩
 simp only[markFormula,markTerm,m0,m1,ap,e]
end Go.Proofs.YtfchaodlnddkpaaGreat
