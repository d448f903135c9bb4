/- A part of the proof: lemmas only; nothing is claimed here beyond what each lemma says. -/
import Derived.Test.YtgkgihdafalimaaGreatGfm
import Derived.Test.YtgkgihdafalimaaGreatAvZ
set_option linter.unusedSimpArgs false
set_option linter.unusedVariables false
set_option linter.defProp false
set_option maxRecDepth 4000
namespace Go.Proofs.YtgkgihdafalimaaGreat
open Go.Av
/-! the same -/
noncomputable def same {α : Type} (a b : α) : Bool := @decide (a = b) (Classical.propDecidable _)
theorem same_iff {α : Type} {a b : α} : same a b = true ↔ a = b := by unfold same; exact @decide_eq_true_iff _ (Classical.propDecidable _)
theorem same_comm {α : Type} (a b : α) : same a b = same b a := by rw [Bool.eq_iff_iff, same_iff, same_iff]; exact eq_comm
theorem same_len {α : Type} {xs ys : List α} (h : ¬ xs.length = ys.length) : same xs ys = false := by
  cases e : same xs ys
  · rfl
  · rw [same_iff] at e; exact absurd (by rw [e]) h
theorem all_same {α : Type} [Inhabited α] {xs ys : List α} (h : xs.length = ys.length) : (List.range xs.length).all (fun j => same (xs.getD j default) (ys.getD j default)) = same xs ys := by
  rw [Bool.eq_iff_iff, List.all_eq_true, same_iff]
  constructor
  · intro g
    refine List.ext_getElem h (fun i h1 h2 => ?_)
    have := same_iff.1 (g i (by simpa using h1))
    simpa [List.getD, h1, h2] using this
  · rintro rfl x _
    exact same_iff.2 rfl
theorem same_loop {α : Type} [Inhabited α] (f : α → α → Option Bool) (xs ys : List α) (h : xs.length = ys.length) (hf : ∀ a ∈ xs, ∀ b, f a b = some (same a b)) :
    thenL (ρ := Bool) (σ := Unit) (forN (fun (i : Nat) (_ : Unit) => Option.bind (idx xs (i : Int)) fun v => Option.bind (idx ys (i : Int)) fun w => Option.bind (f v w) fun x => bif x then some (.nx ()) else some (.rt false)) xs.length 0 ()) (fun _ => some true) = some (same xs ys) := by
  rw [forN_all (fun j => same (xs.getD j default) (ys.getD j default)) (r0 := false) (fun j hj _ => ?_), all_same h]
  · cases same xs ys <;> rfl
  · rw [idx_getD hj, idx_getD (h ▸ hj), Option.bind_some, Option.bind_some, hf _ (getD_mem hj), Option.bind_some]
    cases same (xs.getD j default) (ys.getD j default) <;> rfl
theorem len_dec' {α : Type} (xs ys : List α) : decide ((xs.length : Int) = (ys.length : Int)) = decide (xs.length = ys.length) := decide_eq_decide.2 (by omega)
theorem Term.same_u (a b : Term) : same a b = (decide (a.Name = b.Name) && same a.Args b.Args) := by
  rw [Bool.eq_iff_iff, same_iff, Bool.and_eq_true, same_iff, decide_eq_true_iff]
  constructor
  · rintro rfl; exact ⟨rfl, rfl⟩
  · rintro ⟨h1, h2⟩; rw [← a.eta, ← b.eta, h1, h2]
theorem l2Same_eq (a : Term) : ∀ b n, 2 * SizeOf.sizeOf a ≤ n → spec_l2SameN n a b = some (same a b) ∧ impl_EqualTermsN n a b = some (same a b) := by
  refine Term.ind' (M := fun a => ∀ b n, 2 * SizeOf.sizeOf a ≤ n → spec_l2SameN n a b = some (same a b) ∧ impl_EqualTermsN n a b = some (same a b)) (fun a ih b n hn => ?_) a
  have hp := a.pos
  cases n with
  | zero => omega
  | succ n =>
    rw [spec_l2SameN, impl_EqualTermsN, Term.same_u]
    unfold slices_EqualFunc_Simpl_Term_Simpl_Term_impl_Term_impl_Term
    rw [len_dec']
    cases decide (a.Name = b.Name)
    · exact ⟨rfl, rfl⟩
    · by_cases h : a.Args.length = b.Args.length
      · have k := fun x (hx : x ∈ a.Args) y => ih x hx y n (by have := Term.lt hx; omega)
        rw [decide_eq_true h, cond_true, cond_true, same_loop (spec_l2SameN n) a.Args b.Args h (fun x hx y => (k x hx y).1)]
        refine ⟨rfl, ?_⟩
        rw [cond_true, cond_true, same_loop (impl_EqualTermsN n) a.Args b.Args h (fun x hx y => (k x hx y).2)]; rfl
      · rw [decide_eq_false h, same_len h]; exact ⟨rfl, rfl⟩
theorem l2Same_ok (a b : Term) : spec_l2Same a b = some (same a b) := lim_eq ⟨_, fun n hn => (l2Same_eq a b n hn).1⟩
theorem EqualTerms_ok (a b : Term) : impl_EqualTerms a b = some (same a b) := lim_eq ⟨_, fun n hn => (l2Same_eq a b n hn).2⟩
theorem Formula.same_u (a b : Formula) : same a b = (decide (a.Op = b.Op) && (same a.Atom b.Atom && (decide (a.Var = b.Var) && same a.Parts b.Parts))) := by
  rw [Bool.eq_iff_iff, same_iff, Bool.and_eq_true, Bool.and_eq_true, Bool.and_eq_true, same_iff, same_iff, decide_eq_true_iff, decide_eq_true_iff]
  constructor
  · rintro rfl; exact ⟨rfl, rfl, rfl, rfl⟩
  · rintro ⟨h1, h2, h3, h4⟩; rw [← a.eta, ← b.eta, h1, h2, h3, h4]
theorem l8Same_eq (a : Formula) : ∀ b n, 2 * SizeOf.sizeOf a ≤ n → spec_l8SameN n a b = some (same a b) ∧ impl_sameFormulaN n a b = some (same a b) := by
  refine Formula.ind' (M := fun a => ∀ b n, 2 * SizeOf.sizeOf a ≤ n → spec_l8SameN n a b = some (same a b) ∧ impl_sameFormulaN n a b = some (same a b)) (fun a ih b n hn => ?_) a
  have hp := a.pos
  cases n with
  | zero => omega
  | succ n =>
    rw [spec_l8SameN, impl_sameFormulaN, Formula.same_u, l2Same_ok, EqualTerms_ok]
    unfold slices_EqualFunc_Simpl_Formula_Simpl_Formula_impl_Formula_impl_Formula
    simp only [len_dec', Option.bind_some]
    generalize decide (a.Op = b.Op) = x
    generalize decide (a.Var = b.Var) = y
    generalize same a.Atom b.Atom = z
    by_cases h : a.Parts.length = b.Parts.length
    · have k := fun x (hx : x ∈ a.Parts) y => ih x hx y n (by have := Formula.lt hx; omega)
      rw [decide_eq_true h, same_loop (spec_l8SameN n) a.Parts b.Parts h (fun x hx y => (k x hx y).1), same_loop (impl_sameFormulaN n) a.Parts b.Parts h (fun x hx y => (k x hx y).2)]
      generalize same a.Parts b.Parts = w
      revert x y z w; decide
    · rw [decide_eq_false h, same_len h]
      simp only [cond_false, Option.bind_some]
      revert x y z; decide
theorem l8Same_ok (a b : Formula) : spec_l8Same a b = some (same a b) := lim_eq ⟨_, fun n hn => (l8Same_eq a b n hn).1⟩
theorem sameF_ok (a b : Formula) : impl_sameFormula a b = some (same a b) := lim_eq ⟨_, fun n hn => (l8Same_eq a b n hn).2⟩
end Go.Proofs.YtgkgihdafalimaaGreat
