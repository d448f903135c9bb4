/- A part of the proof: lemmas only; nothing is claimed here beyond what each lemma says. -/
import Derived.Test.YtkoghcphkdecoaaGreatGmk
import Derived.Test.YtkoghcphkdecoaaGreatGsv
import Derived.Test.YtkoghcphkdecoaaGreatGst
set_option linter.unusedSimpArgs false
set_option linter.unusedVariables false
set_option linter.defProp false
set_option maxRecDepth 4000
namespace Go.Proofs.YtkoghcphkdecoaaGreat
open Go.Av
theorem lcn_le{α:Type}{c t:α→Nat}{m:Nat}:∀ l:List α,(∀ a∈l,c a≤m+m*t a)→lcn c l≤m*ltot t l
 | [],_=>by simp[ln_]
 | a::l,h=>by
  have h1:=h a (by simp)
  have h2:=lcn_le l (fun x hx=>h x (by simp[hx]))
  rw[lc_]
  simp only[ltot,List.length_cons,List.map_cons,List.sum_cons,Nat.mul_add,Nat.mul_one] at*
  omega
theorem Term.cn_tot(t:Term):Term.cn t≤1+t.tot:=by
 refine Term.ind' (M:=fun t=>Term.cn t≤1+t.tot) (fun t ih=>?_) t
 have:=lcn_le (c:=Term.cn) (t:=Term.tot) (m:=1) t.Args (fun a ha=>by have:=ih a ha; omega)
 rw[Term.cn_u,t.tot_u]; omega
theorem Formula.cn_tot(f:Formula):Formula.cn f≤3+3*f.tot:=by
 refine Formula.ind' (M:=fun f=>Formula.cn f≤3+3*f.tot) (fun f ih=>?_) f
 have h1:=lcn_le (c:=Term.cn) (t:=Term.tot) (m:=1) f.Atom.Args (fun a _=>by have:=Term.cn_tot a; omega)
 have h2:=lcn_le (c:=Formula.cn) (t:=Formula.tot) (m:=3) f.Parts (fun a ha=>by have:=ih a ha; omega)
 have h3:=f.Atom.tot_u
 rw[Formula.cn_u,f.tot_u]; omega
theorem Formula.marks_tot(f:Formula):lcn Term.cn f.Atom.Args+lcn Formula.cn f.Parts≤3*f.tot:=by
 have:=Formula.cn_tot f
 rw[Formula.cn_u] at this; omega
end Go.Proofs.YtkoghcphkdecoaaGreat

set_option maxRecDepth 4000
namespace Go.Proofs.YtkoghcphkdecoaaGreat
open Go.Av
theorem Sequent.marks_tot(s:Sequent):lcn Formula.cn s.Left+lcn Formula.cn s.Right≤3*s.tot:=by
 have h1:=lcn_le (c:=Formula.cn) (t:=Formula.tot) (m:=3) s.Left (fun a _=>Formula.cn_tot a)
 have h2:=lcn_le (c:=Formula.cn) (t:=Formula.tot) (m:=3) s.Right (fun a _=>Formula.cn_tot a)
 unfold Sequent.tot
 omega
theorem Term.marks_tot(t:Term):lcn Term.cn t.Args≤t.tot:=by
 have:=Term.cn_tot t
 rw[Term.cn_u] at this; omega
theorem Derivation.cn_tot(d:Derivation):Derivation.cn d≤6+6*d.tot:=by
 refine Derivation.ind' (M:=fun d=>Derivation.cn d≤6+6*d.tot) (fun d ih=>?_) d
 have h1:=d.Sequent.marks_tot
 have h2:=d.Term.marks_tot
 have h3:=d.Cut.marks_tot
 have h4:=lcn_le (c:=Derivation.cn) (t:=Derivation.tot) (m:=6) d.Parts (fun a ha=>ih a ha)
 rw[Derivation.cn_u,d.tot_u]; omega
theorem Derivation.marks_tot(d:Derivation):lcn Formula.cn d.Sequent.Left+lcn Formula.cn d.Sequent.Right+lcn Term.cn d.Term.Args+lcn Term.cn d.Cut.Atom.Args+lcn Formula.cn d.Cut.Parts+lcn Derivation.cn d.Parts≤6*d.tot:=by
 have:=Derivation.cn_tot d
 rw[Derivation.cn_u] at this; omega
theorem mDo_(d:Derivation)(ht:d.tot≤1048576):∃ y,mD_ d 1=some y∧decide (y.1<0)=false∧1≤y.1∧y.1≤10000000:=by
 have h:=d.marks_tot
 obtain⟨y0,y1,y2,y3,y4,y5,e⟩:=mDm_ d (k:=1) (by omega) (by omega)
 exact⟨_,e,decide_eq_false (by simp only[]; omega),by simp only[]; omega,by simp only[]; omega⟩
end Go.Proofs.YtkoghcphkdecoaaGreat

set_option maxRecDepth 4000
namespace Go.Proofs.YtkoghcphkdecoaaGreat
open Go.Av
theorem oLe_(r:Int):slO_ r=some (mOn r).1:=by
 have hr:r=1∨r=2∨r=3∨r=4∨r=5∨r=6∨r=7∨r=8∨r=9∨r=10∨r=11∨r=12∨r=13∨(r≠1∧r≠2∧r≠3∧r≠4∧r≠5∧r≠6∧r≠7∧r≠8∧r≠9∧r≠10∧r≠11∧r≠12∧r≠13):=by omega
 rcases hr with rfl | rfl | rfl | rfl | rfl | rfl | rfl | rfl | rfl | rfl | rfl | rfl | rfl | ⟨h1,h2,h3,h4,h5,h6,h7,h8,h9,h10,h11,h12,h13⟩
 all_goals first | rfl | skip
 unfold slO_ mOn
 simp only[decide_eq_false h1,decide_eq_false h2,decide_eq_false h3,decide_eq_false h4,decide_eq_false h5,decide_eq_false h6,decide_eq_false h7,decide_eq_false h8,decide_eq_false h9,decide_eq_false h10,decide_eq_false h11,decide_eq_false h12,decide_eq_false h13,cond_false]
theorem ar_{s:Sequent}{d:Derivation}{xs:List Sequent}(h:ia_ s d=some (xs,true)):inR d.Rule 1 15=true:=by
 by_cases h15:d.Rule=15
 ·rw[h15]; rfl
 unfold ia_ at h
 rw[decide_eq_false h15] at h
 simp only[cond_false,we_,Option.bind_some] at h
 revert h
 cases inR d.Rule 1 15
 ·simp
 ·exact fun _=>rfl
theorem mn_{s:Sequent}{d:Derivation}(h:inR d.Main 0 (IntKind.i64.wrap (((bif (mOn d.Rule).1 then s.Left else s.Right).length:Int)-1))=false):∃ f,imF_ s d=some (f,false):=by
 unfold imF_
 rw[mOe_,Option.bind_some]
 revert h
 cases (mOn d.Rule).1
 ·intro h
  simp only[cond_false] at h ⊢
  rw[we_,h]
  exact⟨_,rfl⟩
 ·intro h
  simp only[cond_true] at h ⊢
  rw[we_,h]
  exact⟨_,rfl⟩
theorem am_{s:Sequent}{d:Derivation}{xs:List Sequent}(h:ia_ s d=some (xs,true))(h15:d.Rule≠15)(hl:s.Left.length≤1000)(hr:s.Right.length≤1000):
  0≤d.Main∧d.Main<((bif (mOn d.Rule).1 then s.Left else s.Right).length:Int):=by
 have hlen:(bif (mOn d.Rule).1 then s.Left else s.Right).length≤1000:=by cases (mOn d.Rule).1<;>assumption
 have key:inR d.Main 0 (IntKind.i64.wrap (((bif (mOn d.Rule).1 then s.Left else s.Right).length:Int)-1))=true:=by
  cases hm:inR d.Main 0 (IntKind.i64.wrap (((bif (mOn d.Rule).1 then s.Left else s.Right).length:Int)-1))
  ·obtain⟨f,hf⟩:=mn_ hm
   unfold ia_ at h
   rw[decide_eq_false h15] at h
   simp only[cond_false,we_,sFo_,zTi_,iiQ_1,Option.bind_some,hf] at h
   revert h
   cases inR d.Rule 1 15<;>cases same d.Cut (⟨0,⟨⟨#[]⟩,[]⟩,⟨#[]⟩,[]⟩:Formula)<;>cases inR d.Rule 11 14<;>cases zeroT d.Term<;>simp
  ·rfl
 rw[wrap64 (by omega) (by omega)] at key
 unfold inR at key
 simp only[Bool.and_eq_true,decide_eq_true_eq] at key
 omega
theorem al_{s:Sequent}{d:Derivation}{xs:List Sequent}(h:ia_ s d=some (xs,true))(hr:d.Rule=1∨d.Rule=2):xs=[]:=by
 unfold ia_ at h
 have hq:inR d.Rule 11 14=false:=by rcases hr with e | e<;>rw[e]<;>rfl
 have h15:decide (d.Rule=15)=false:=decide_eq_false (by omega)
 simp only[h15,cond_false,we_,sFo_,zTi_,iiQ_1,Option.bind_some,hq] at h
 cases hm:imF_ s d with
 | none=>
  rw[hm] at h; revert h
  cases inR d.Rule 1 15<;>cases same d.Cut (⟨0,⟨⟨#[]⟩,[]⟩,⟨#[]⟩,[]⟩:Formula)<;>cases zeroT d.Term<;>intro h<;>first | exact(congrArg Prod.fst (Option.some.inj h)).symm | cases h
 | some v=>
  rw[hm] at h
  rcases hr with e | e
  ·simp only[e,decide_true,cond_true,Option.bind_some,as_1] at h
   revert h
   cases inR 1 1 15<;>cases same d.Cut (⟨0,⟨⟨#[]⟩,[]⟩,⟨#[]⟩,[]⟩:Formula)<;>cases zeroT d.Term<;>cases v.2<;>cases decide (v.1.Op=2)<;>intro h<;>exact(congrArg Prod.fst (Option.some.inj h)).symm
  ·simp only[e,Int.reduceEq,decide_false,decide_true,cond_true,cond_false,Option.bind_some] at h
   revert h
   cases inR 2 1 15<;>cases same d.Cut (⟨0,⟨⟨#[]⟩,[]⟩,⟨#[]⟩,[]⟩:Formula)<;>cases zeroT d.Term<;>cases v.2<;>intro h<;>exact(congrArg Prod.fst (Option.some.inj h)).symm
end Go.Proofs.YtkoghcphkdecoaaGreat
