/- A part of the proof: lemmas only; nothing is claimed here beyond what each lemma says. -/
import Derived.Test.YtlgeocknlmbgeaaGreatGmk
import Derived.Test.YtlgeocknlmbgeaaGreatGsv
import Derived.Test.YtlgeocknlmbgeaaGreatGst
set_option linter.unusedSimpArgs false
set_option linter.unusedVariables false
set_option linter.defProp false
set_option maxRecDepth 4000
namespace Go.Proofs.YtlgeocknlmbgeaaGreat
open Go.Av
theorem lcn_le{α:Type}{c t:α→Nat}{m:Nat}:∀ l:List α,(∀ a∈l,c a≤m+m*t a)→lcn c l≤m*ltot t l
 | [],_=>by simp[ln_]
 | a::l,h=>by
  have h1:=h a (by simp)
  have h2:=lcn_le l (fun x hx=>h x (by simp[hx]))
  rw[lc_]
  simp only[ltot,List.length_cons,List.map_cons,List.sum_cons,Nat.mul_add,Nat.mul_one] at*
  omega
theorem Tt.cn_tot(t:Tt):Tt.cn t≤1+t.tot:=by
 refine Tt.ind' (M:=fun t=>Tt.cn t≤1+t.tot) (fun t ih=>?_) t
 have:=lcn_le (c:=Tt.cn) (t:=Tt.tot) (m:=1) t.Args (fun a ha=>by have:=ih a ha; omega)
 rw[Tt.cn_u,t.tot_u]; omega
theorem Ft.cn_tot(f:Ft):Ft.cn f≤3+3*f.tot:=by
 refine Ft.ind' (M:=fun f=>Ft.cn f≤3+3*f.tot) (fun f ih=>?_) f
 have h1:=lcn_le (c:=Tt.cn) (t:=Tt.tot) (m:=1) f.Atom.Args (fun a _=>by have:=Tt.cn_tot a; omega)
 have h2:=lcn_le (c:=Ft.cn) (t:=Ft.tot) (m:=3) f.Parts (fun a ha=>by have:=ih a ha; omega)
 have h3:=f.Atom.tot_u
 rw[Ft.cn_u,f.tot_u]; omega
theorem Ft.marks_tot(f:Ft):lcn Tt.cn f.Atom.Args+lcn Ft.cn f.Parts≤3*f.tot:=by
 have:=Ft.cn_tot f
 rw[Ft.cn_u] at this; omega
end Go.Proofs.YtlgeocknlmbgeaaGreat

set_option maxRecDepth 4000
namespace Go.Proofs.YtlgeocknlmbgeaaGreat
open Go.Av
theorem Sa.marks_tot(s:Sa):lcn Ft.cn s.Left+lcn Ft.cn s.Right≤3*s.tot:=by
 have h1:=lcn_le (c:=Ft.cn) (t:=Ft.tot) (m:=3) s.Left (fun a _=>Ft.cn_tot a)
 have h2:=lcn_le (c:=Ft.cn) (t:=Ft.tot) (m:=3) s.Right (fun a _=>Ft.cn_tot a)
 unfold Sa.tot
 omega
theorem Tt.marks_tot(t:Tt):lcn Tt.cn t.Args≤t.tot:=by
 have:=Tt.cn_tot t
 rw[Tt.cn_u] at this; omega
theorem Dt.cn_tot(d:Dt):Dt.cn d≤6+6*d.tot:=by
 refine Dt.ind' (M:=fun d=>Dt.cn d≤6+6*d.tot) (fun d ih=>?_) d
 have h1:=d.Sequent.marks_tot
 have h2:=d.Term.marks_tot
 have h3:=d.Cut.marks_tot
 have h4:=lcn_le (c:=Dt.cn) (t:=Dt.tot) (m:=6) d.Parts (fun a ha=>ih a ha)
 rw[Dt.cn_u,d.tot_u]; omega
theorem Dt.marks_tot(d:Dt):lcn Ft.cn d.Sequent.Left+lcn Ft.cn d.Sequent.Right+lcn Tt.cn d.Term.Args+lcn Tt.cn d.Cut.Atom.Args+lcn Ft.cn d.Cut.Parts+lcn Dt.cn d.Parts≤6*d.tot:=by
 have:=Dt.cn_tot d
 rw[Dt.cn_u] at this; omega
end Go.Proofs.YtlgeocknlmbgeaaGreat
