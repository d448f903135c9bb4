/- A part of the proof: lemmas only; nothing is claimed here beyond what each lemma says. -/
import Derived.Test.YtkoghcphkdecoaaGreatGmk
import Derived.Test.YtkoghcphkdecoaaGreatGsv
import Derived.Test.YtkoghcphkdecoaaGreatGst
set_option linter.unusedSimpArgs false
set_option linter.unusedVariables false
set_option linter.defProp false
set_option maxRecDepth 4000
namespace Go.Proofs.YtkoghcphkdecoaaGreat
open Go.Av
theorem lcn_le{α:Type}{c t:α→Nat}{m:Nat}:∀ l:List α,(∀ a∈l,c a≤m+m*t a)→lcn c l≤m*ltot t l
 | [],_=>by simp[ln_]
 | a::l,h=>by
  have h1:=h a (by simp)
  have h2:=lcn_le l (fun x hx=>h x (by simp[hx]))
  rw[lc_]
  simp only[ltot,List.length_cons,List.map_cons,List.sum_cons,Nat.mul_add,Nat.mul_one] at*
  omega
theorem Tt.cn_tot(t:Tt):Tt.cn t≤1+t.tot:=by
 refine Tt.ind' (M:=fun t=>Tt.cn t≤1+t.tot) (fun t ih=>?_) t
 have:=lcn_le (c:=Tt.cn) (t:=Tt.tot) (m:=1) t.Args (fun a ha=>by have:=ih a ha; omega)
 rw[Tt.cn_u,t.tot_u]; omega
theorem Ft.cn_tot(f:Ft):Ft.cn f≤3+3*f.tot:=by
 refine Ft.ind' (M:=fun f=>Ft.cn f≤3+3*f.tot) (fun f ih=>?_) f
 have h1:=lcn_le (c:=Tt.cn) (t:=Tt.tot) (m:=1) f.Atom.Args (fun a _=>by have:=Tt.cn_tot a; omega)
 have h2:=lcn_le (c:=Ft.cn) (t:=Ft.tot) (m:=3) f.Parts (fun a ha=>by have:=ih a ha; omega)
 have h3:=f.Atom.tot_u
 rw[Ft.cn_u,f.tot_u]; omega
theorem Ft.marks_tot(f:Ft):lcn Tt.cn f.Atom.Args+lcn Ft.cn f.Parts≤3*f.tot:=by
 have:=Ft.cn_tot f
 rw[Ft.cn_u] at this; omega
end Go.Proofs.YtkoghcphkdecoaaGreat

set_option maxRecDepth 4000
namespace Go.Proofs.YtkoghcphkdecoaaGreat
open Go.Av
theorem Sa.marks_tot(s:Sa):lcn Ft.cn s.Left+lcn Ft.cn s.Right≤3*s.tot:=by
 have h1:=lcn_le (c:=Ft.cn) (t:=Ft.tot) (m:=3) s.Left (fun a _=>Ft.cn_tot a)
 have h2:=lcn_le (c:=Ft.cn) (t:=Ft.tot) (m:=3) s.Right (fun a _=>Ft.cn_tot a)
 unfold Sa.tot
 omega
theorem Tt.marks_tot(t:Tt):lcn Tt.cn t.Args≤t.tot:=by
 have:=Tt.cn_tot t
 rw[Tt.cn_u] at this; omega
theorem Dt.cn_tot(d:Dt):Dt.cn d≤6+6*d.tot:=by
 refine Dt.ind' (M:=fun d=>Dt.cn d≤6+6*d.tot) (fun d ih=>?_) d
 have h1:=d.Sequent.marks_tot
 have h2:=d.Term.marks_tot
 have h3:=d.Cut.marks_tot
 have h4:=lcn_le (c:=Dt.cn) (t:=Dt.tot) (m:=6) d.Parts (fun a ha=>ih a ha)
 rw[Dt.cn_u,d.tot_u]; omega
theorem Dt.marks_tot(d:Dt):lcn Ft.cn d.Sequent.Left+lcn Ft.cn d.Sequent.Right+lcn Tt.cn d.Term.Args+lcn Tt.cn d.Cut.Atom.Args+lcn Ft.cn d.Cut.Parts+lcn Dt.cn d.Parts≤6*d.tot:=by
 have:=Dt.cn_tot d
 rw[Dt.cn_u] at this; omega
theorem mDo_(d:Dt)(ht:d.tot≤1048576):∃ y,mD_ d 1=some y∧decide (y.1<0)=false∧1≤y.1∧y.1≤10000000:=by
 have h:=d.marks_tot
 obtain⟨y0,y1,y2,y3,y4,y5,e⟩:=mDm_ d (k:=1) (by omega) (by omega)
 exact⟨_,e,decide_eq_false (by simp only[]; omega),by simp only[]; omega,by simp only[]; omega⟩
end Go.Proofs.YtkoghcphkdecoaaGreat

set_option maxRecDepth 4000
namespace Go.Proofs.YtkoghcphkdecoaaGreat
open Go.Av
open Option renaming bind_some→ak
theorem oLe_(r:Int):slO_ r=some (mOn r).1:=by
 have hr:r=1∨r=2∨r=3∨r=4∨r=5∨r=6∨r=7∨r=8∨r=9∨r=10∨r=11∨r=12∨r=13∨(r≠1∧r≠2∧r≠3∧r≠4∧r≠5∧r≠6∧r≠7∧r≠8∧r≠9∧r≠10∧r≠11∧r≠12∧r≠13):=by omega
 rcases hr with rfl | rfl | rfl | rfl | rfl | rfl | rfl | rfl | rfl | rfl | rfl | rfl | rfl | ⟨h1,h2,h3,h4,h5,h6,h7,h8,h9,h10,h11,h12,h13⟩
 all_goals first | rfl | skip
 unfold slO_ mOn
 simp only[decide_eq_false h1,decide_eq_false h2,decide_eq_false h3,decide_eq_false h4,decide_eq_false h5,decide_eq_false h6,decide_eq_false h7,decide_eq_false h8,decide_eq_false h9,decide_eq_false h10,decide_eq_false h11,decide_eq_false h12,decide_eq_false h13,cond_false]
theorem ar_{s:Sa}{d:Dt}{xs:List Sa}(h:ia_ s d=some (xs,true)):inR d.Rule 1 15=true:=by
 by_cases h15:d.Rule=15
 ·rw[h15]; rfl
 unfold ia_ at h
 rw[decide_eq_false h15] at h
 simp only[cond_false,we_,ak] at h
 revert h
 cases inR d.Rule 1 15
 ·simp
 ·exact fun _=>rfl
theorem mn_{s:Sa}{d:Dt}(h:inR d.Main 0 (IntKind.i64.wrap (((bif (mOn d.Rule).1 then s.Left else s.Right).length:Int)-1))=false):∃ f,imF_ s d=some (f,false):=by
 unfold imF_
 rw[mOe_,ak]
 revert h
 cases (mOn d.Rule).1
 ·intro h
  simp only[cond_false] at h ⊢
  rw[we_,h]
  exact⟨_,rfl⟩
 ·intro h
  simp only[cond_true] at h ⊢
  rw[we_,h]
  exact⟨_,rfl⟩
theorem am_{s:Sa}{d:Dt}{xs:List Sa}(h:ia_ s d=some (xs,true))(h15:d.Rule≠15)(hl:s.Left.length≤1000)(hr:s.Right.length≤1000):
 0≤d.Main∧d.Main<((bif (mOn d.Rule).1 then s.Left else s.Right).length:Int):=by
 have hlen:(bif (mOn d.Rule).1 then s.Left else s.Right).length≤1000:=by cases (mOn d.Rule).1<;>assumption
 have key:inR d.Main 0 (IntKind.i64.wrap (((bif (mOn d.Rule).1 then s.Left else s.Right).length:Int)-1))=true:=by
  cases hm:inR d.Main 0 (IntKind.i64.wrap (((bif (mOn d.Rule).1 then s.Left else s.Right).length:Int)-1))
  ·obtain⟨f,hf⟩:=mn_ hm
   unfold ia_ at h
   rw[decide_eq_false h15] at h
   simp only[cond_false,we_,sFo_,zTi_,iiQ_1,ak,hf] at h
   revert h
   cases inR d.Rule 1 15<;>cases same d.Cut (⟨0,⟨⟨#[]⟩,[]⟩,⟨#[]⟩,[]⟩:Ft)<;>cases inR d.Rule 11 14<;>cases zeroT d.Term<;>simp
  ·rfl
 rw[wrap64 (by omega) (by omega)] at key
 unfold inR at key
 simp only[Bool.and_eq_true,decide_eq_true_eq] at key
 omega
theorem al_{s:Sa}{d:Dt}{xs:List Sa}(h:ia_ s d=some (xs,true))(hr:d.Rule=1∨d.Rule=2):xs=[]:=by
 unfold ia_ at h
 have hq:inR d.Rule 11 14=false:=by rcases hr with e | e<;>rw[e]<;>rfl
 have h15:decide (d.Rule=15)=false:=decide_eq_false (by omega)
 simp only[h15,cond_false,we_,sFo_,zTi_,iiQ_1,ak,hq] at h
 cases hm:imF_ s d with
 | none=>
  rw[hm] at h; revert h
  cases inR d.Rule 1 15<;>cases same d.Cut (⟨0,⟨⟨#[]⟩,[]⟩,⟨#[]⟩,[]⟩:Ft)<;>cases zeroT d.Term<;>intro h<;>first | exact(congrArg Prod.fst (Option.some.inj h)).symm | cases h
 | some v=>
  rw[hm] at h
  rcases hr with e | e
  ·simp only[e,decide_true,cond_true,ak,as_] at h
   revert h
   cases inR 1 1 15<;>cases same d.Cut (⟨0,⟨⟨#[]⟩,[]⟩,⟨#[]⟩,[]⟩:Ft)<;>cases zeroT d.Term<;>cases v.2<;>cases decide (v.1.Op=2)<;>intro h<;>exact(congrArg Prod.fst (Option.some.inj h)).symm
  ·simp only[e,Int.reduceEq,decide_false,decide_true,cond_true,cond_false,ak] at h
   revert h
   cases inR 2 1 15<;>cases same d.Cut (⟨0,⟨⟨#[]⟩,[]⟩,⟨#[]⟩,[]⟩:Ft)<;>cases zeroT d.Term<;>cases v.2<;>intro h<;>exact(congrArg Prod.fst (Option.some.inj h)).symm
end Go.Proofs.YtkoghcphkdecoaaGreat
