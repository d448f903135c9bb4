/- A part of the proof: lemmas only; nothing is claimed here beyond what each lemma says. -/
import Derived.Test.YtkoghcphkdecoaaGreatGmk
import Derived.Test.YtkoghcphkdecoaaGreatGsv
import Derived.Test.YtkoghcphkdecoaaGreatGst
set_option linter.unusedSimpArgs false
set_option linter.unusedVariables false
set_option linter.defProp false
set_option maxRecDepth 4000
namespace Go.Proofs.YtkoghcphkdecoaaGreat
open Go.Av
theorem lcn_le{α:Type}{c t:α→Nat}{m:Nat}:∀ l:List α,(∀ a∈l,c a≤m+m*t a)→lcn c l≤m*ltot t l
 | [],_=>by simp[ln_]
 | a::l,h=>by
  have h1:=h a (by simp)
  have h2:=lcn_le l (fun x hx=>h x (by simp[hx]))
  rw[lc_]
  simp only[ltot,List.length_cons,List.map_cons,List.sum_cons,Nat.mul_add,Nat.mul_one] at*
  omega
theorem Term.cn_tot(t:Term):Term.cn t≤1+t.tot:=by
 refine Term.ind' (M:=fun t=>Term.cn t≤1+t.tot) (fun t ih=>?_) t
 have:=lcn_le (c:=Term.cn) (t:=Term.tot) (m:=1) t.Args (fun a ha=>by have:=ih a ha; omega)
 rw[Term.cn_u,t.tot_u]; omega
theorem Formula.cn_tot(f:Formula):Formula.cn f≤3+3*f.tot:=by
 refine Formula.ind' (M:=fun f=>Formula.cn f≤3+3*f.tot) (fun f ih=>?_) f
 have h1:=lcn_le (c:=Term.cn) (t:=Term.tot) (m:=1) f.Atom.Args (fun a _=>by have:=Term.cn_tot a; omega)
 have h2:=lcn_le (c:=Formula.cn) (t:=Formula.tot) (m:=3) f.Parts (fun a ha=>by have:=ih a ha; omega)
 have h3:=f.Atom.tot_u
 rw[Formula.cn_u,f.tot_u]; omega
theorem Formula.marks_tot(f:Formula):lcn Term.cn f.Atom.Args+lcn Formula.cn f.Parts≤3*f.tot:=by
 have:=Formula.cn_tot f
 rw[Formula.cn_u] at this; omega
end Go.Proofs.YtkoghcphkdecoaaGreat

set_option maxRecDepth 4000
namespace Go.Proofs.YtkoghcphkdecoaaGreat
open Go.Av
theorem Sequent.marks_tot(s:Sequent):lcn Formula.cn s.Left+lcn Formula.cn s.Right≤3*s.tot:=by
 have h1:=lcn_le (c:=Formula.cn) (t:=Formula.tot) (m:=3) s.Left (fun a _=>Formula.cn_tot a)
 have h2:=lcn_le (c:=Formula.cn) (t:=Formula.tot) (m:=3) s.Right (fun a _=>Formula.cn_tot a)
 unfold Sequent.tot
 omega
theorem Term.marks_tot(t:Term):lcn Term.cn t.Args≤t.tot:=by
 have:=Term.cn_tot t
 rw[Term.cn_u] at this; omega
theorem Derivation.cn_tot(d:Derivation):Derivation.cn d≤6+6*d.tot:=by
 refine Derivation.ind' (M:=fun d=>Derivation.cn d≤6+6*d.tot) (fun d ih=>?_) d
 have h1:=d.Sequent.marks_tot
 have h2:=d.Term.marks_tot
 have h3:=d.Cut.marks_tot
 have h4:=lcn_le (c:=Derivation.cn) (t:=Derivation.tot) (m:=6) d.Parts (fun a ha=>ih a ha)
 rw[Derivation.cn_u,d.tot_u]; omega
theorem Derivation.marks_tot(d:Derivation):lcn Formula.cn d.Sequent.Left+lcn Formula.cn d.Sequent.Right+lcn Term.cn d.Term.Args+lcn Term.cn d.Cut.Atom.Args+lcn Formula.cn d.Cut.Parts+lcn Derivation.cn d.Parts≤6*d.tot:=by
 have:=Derivation.cn_tot d
 rw[Derivation.cn_u] at this; omega
theorem mDo_(d:Derivation)(ht:d.tot≤1048576):∃ y,mD_ d 1=some y∧decide (y.1<0)=false∧1≤y.1∧y.1≤10000000:=by
 have h:=d.marks_tot
 obtain⟨y0,y1,y2,y3,y4,y5,e⟩:=mDm_ d (k:=1) (by omega) (by omega)
 exact⟨_,e,decide_eq_false (by simp only[]; omega),by simp only[]; omega,by simp only[]; omega⟩
end Go.Proofs.YtkoghcphkdecoaaGreat

set_option maxRecDepth 4000
namespace Go.Proofs.YtkoghcphkdecoaaGreat
open Go.Av
theorem ac_2{s:Sequent}{d:Derivation}{xs:List Sequent}(h:ia_ s d=some (xs,true))(h15:d.Rule=15)(hc:d.Cut.Ok)(hct:d.Cut.tot≤1048576):validF d.Cut=true:=by
 unfold ia_ at h
 rw[h15] at h
 simp only[decide_true,cond_true,zTi_,vFi_1 d.Cut hct hc,Option.bind_some] at h
 revert h
 cases decide (d.Main=0)<;>cases zeroT d.Term<;>cases validF d.Cut<;>simp
end Go.Proofs.YtkoghcphkdecoaaGreat
