/- A part of the proof: lemmas only; nothing is claimed here beyond what each lemma says. -/
import Derived.Test.YtgkgihdafalimaaGreatGmk
import Derived.Test.YtgkgihdafalimaaGreatGsv
set_option linter.unusedSimpArgs false
set_option linter.unusedVariables false
set_option linter.defProp false
set_option maxRecDepth 4000
namespace Go.Proofs.YtgkgihdafalimaaGreat
open Go.Av
/-! ### how many marks there are -/
theorem lcn_le {α : Type} {c t : α → Nat} {m : Nat} : ∀ l : List α, (∀ a ∈ l, c a ≤ m + m * t a) → lcn c l ≤ m * ltot t l
  | [], _ => by simp [lcn_nil]
  | a :: l, h => by
    have h1 := h a (by simp)
    have h2 := lcn_le l (fun x hx => h x (by simp [hx]))
    rw [lcn_cons]
    simp only [ltot, List.length_cons, List.map_cons, List.sum_cons, Nat.mul_add, Nat.mul_one] at *
    omega
theorem Term.cn_tot (t : Term) : Term.cn t ≤ 1 + t.tot := by
  refine Term.ind' (M := fun t => Term.cn t ≤ 1 + t.tot) (fun t ih => ?_) t
  have := lcn_le (c := Term.cn) (t := Term.tot) (m := 1) t.Args (fun a ha => by have := ih a ha; omega)
  rw [Term.cn_u, t.tot_u]; omega
theorem Formula.cn_tot (f : Formula) : Formula.cn f ≤ 3 + 3 * f.tot := by
  refine Formula.ind' (M := fun f => Formula.cn f ≤ 3 + 3 * f.tot) (fun f ih => ?_) f
  have h1 := lcn_le (c := Term.cn) (t := Term.tot) (m := 1) f.Atom.Args (fun a _ => by have := Term.cn_tot a; omega)
  have h2 := lcn_le (c := Formula.cn) (t := Formula.tot) (m := 3) f.Parts (fun a ha => by have := ih a ha; omega)
  have h3 := f.Atom.tot_u
  rw [Formula.cn_u, f.tot_u]; omega
theorem Formula.marks_tot (f : Formula) : lcn Term.cn f.Atom.Args + lcn Formula.cn f.Parts ≤ 3 * f.tot := by
  have := Formula.cn_tot f
  rw [Formula.cn_u] at this; omega
end Go.Proofs.YtgkgihdafalimaaGreat
