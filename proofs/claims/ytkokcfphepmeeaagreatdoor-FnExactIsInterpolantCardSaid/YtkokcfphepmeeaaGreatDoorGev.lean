/- A part of the proof: lemmas only; nothing is claimed here beyond what each lemma says. -/
import Derived.Test.YtkokcfphepmeeaaGreatDoorGnum
set_option linter.unusedSimpArgs false
set_option linter.unusedVariables false
set_option linter.defProp false
set_option maxRecDepth 4000
namespace Go.Proofs.YtkokcfphepmeeaaGreatDoor
open Go.Av
/-! the same -/
noncomputable def same {α : Type} (a b : α) : Bool := @decide (a = b) (Classical.propDecidable _)
theorem same_iff {α : Type} {a b : α} : same a b = true ↔ a = b := by unfold same; exact @decide_eq_true_iff _ (Classical.propDecidable _)
theorem same_len {α : Type} {xs ys : List α} (h : ¬ xs.length = ys.length) : same xs ys = false := by
  cases e : same xs ys
  · rfl
  · rw [same_iff] at e; exact absurd (by rw [e]) h
theorem all_same {α : Type} [Inhabited α] {xs ys : List α} (h : xs.length = ys.length) : (List.range xs.length).all (fun j => same (xs.getD j default) (ys.getD j default)) = same xs ys := by
  rw [Bool.eq_iff_iff, List.all_eq_true, same_iff]
  constructor
  · intro g
    refine List.ext_getElem h (fun i h1 h2 => ?_)
    have := same_iff.1 (g i (by simpa using h1))
    simpa [List.getD, h1, h2] using this
  · rintro rfl x _
    exact same_iff.2 rfl
theorem same_loop {α : Type} [Inhabited α] (f : α → α → Option Bool) (xs ys : List α) (h : xs.length = ys.length) (hf : ∀ a ∈ xs, ∀ b, f a b = some (same a b)) :
    thenL (ρ := Bool) (σ := Unit) (forN (fun (i : Nat) (_ : Unit) => Option.bind (idx xs (i : Int)) fun v => Option.bind (idx ys (i : Int)) fun w => Option.bind (f v w) fun x => bif x then some (.nx ()) else some (.rt false)) xs.length 0 ()) (fun _ => some true) = some (same xs ys) := by
  rw [forN_all (fun j => same (xs.getD j default) (ys.getD j default)) (r0 := false) (fun j hj _ => ?_), all_same h]
  · cases same xs ys <;> rfl
  · rw [idx_getD hj, idx_getD (h ▸ hj), Option.bind_some, Option.bind_some, hf _ (getD_mem hj), Option.bind_some]
    cases same (xs.getD j default) (ys.getD j default) <;> rfl
theorem len_dec' {α : Type} (xs ys : List α) : decide ((xs.length : Int) = (ys.length : Int)) = decide (xs.length = ys.length) := decide_eq_decide.2 (by omega)
theorem Term.same_u (a b : Term) : same a b = (decide (a.Name = b.Name) && same a.Args b.Args) := by
  rw [Bool.eq_iff_iff, same_iff, Bool.and_eq_true, same_iff, decide_eq_true_iff]
  constructor
  · rintro rfl; exact ⟨rfl, rfl⟩
  · rintro ⟨h1, h2⟩; rw [← a.eta, ← b.eta, h1, h2]
theorem EqualTermsN_eq (a : Term) : ∀ b n, 2 * SizeOf.sizeOf a ≤ n → impl_EqualTermsN n a b = some (same a b) := by
  refine Term.ind' (M := fun a => ∀ b n, 2 * SizeOf.sizeOf a ≤ n → impl_EqualTermsN n a b = some (same a b)) (fun a ih b n hn => ?_) a
  have hp := a.pos
  cases n with
  | zero => omega
  | succ n =>
    rw [impl_EqualTermsN, Term.same_u]
    unfold slices_EqualFunc_Simpl_Term_Simpl_Term_impl_Term_impl_Term
    rw [len_dec']
    cases decide (a.Name = b.Name)
    · rfl
    · by_cases h : a.Args.length = b.Args.length
      · have k := fun x (hx : x ∈ a.Args) y => ih x hx y n (by have := Term.lt hx; omega)
        rw [decide_eq_true h, cond_true]
        rw [cond_true, same_loop (impl_EqualTermsN n) a.Args b.Args h (fun x hx y => k x hx y)]; rfl
      · rw [decide_eq_false h, same_len h]; rfl
theorem EqualTerms_ok (a b : Term) : impl_EqualTerms a b = some (same a b) := lim_eq ⟨_, fun n hn => EqualTermsN_eq a b n hn⟩
/-! what is among numbers -/
def hasI (l : List Int) (x : Int) : Bool := decide (x ∈ l)
theorem any_hasI (l : List Int) (x : Int) : l.any (fun v => decide (x = v)) = hasI l x := by
  unfold hasI
  rw [Bool.eq_iff_iff, List.any_eq_true, decide_eq_true_iff]
  constructor
  · rintro ⟨v, h1, h2⟩; rw [of_decide_eq_true h2]; exact h1
  · exact fun h => ⟨x, h, decide_eq_true rfl⟩
theorem Contains_eq (l : List Int) (x : Int) : slices_Contains_Sint_int l x = some (hasI l x) := by
  unfold slices_Contains_Sint_int slices_Index_Sint_int
  rw [← any_hasI]
  exact find_list (f := fun v => some (decide (x = v))) (p := fun v => decide (x = v)) l (fun _ _ => rfl)
theorem Has_eq (l : List Int) (x : Int) : spec_l1Has l x = some (hasI l x) := by
  unfold spec_l1Has
  rw [forN_all (fun j => !decide (l.getD j default = x)) (r0 := true) (fun j hj _ => by
    rw [idx_getD hj, Option.bind_some]
    cases decide (l.getD j default = x) <;> rfl), range_all_list l (fun v => !decide (v = x)), List.all_eq_not_any_not]
  have : l.any (fun v => !!decide (v = x)) = hasI l x := by
    rw [← any_hasI]
    congr 1; funext v
    rw [Bool.not_not]; exact decide_eq_decide.2 eq_comm
  rw [this]
  cases hasI l x <;> rfl
theorem ContainsFunc_int {f : Int → Option Bool} {p : Int → Bool} (xs : List Int) (h : ∀ x ∈ xs, f x = some (p x)) : slices_ContainsFunc_Sint_int xs f = some (xs.any p) := by
  unfold slices_ContainsFunc_Sint_int slices_IndexFunc_Sint_int
  exact find_list (p := p) xs h
theorem abs_same {v : Int} (h : InR v) : impl_absolute v = spec_l15Abs v := by
  unfold InR at h
  unfold impl_absolute spec_l15Abs
  rw [IntKind.wrap_i64]
  by_cases g : v < 0
  · rw [decide_eq_true g, cond_true]; congr 1; omega
  · rw [decide_eq_false g, cond_false]; congr 1; omega
theorem clause_same (l : List Int) (hl : ∀ x ∈ l, InR x) : impl_isPropClause l = spec_l15Clause l := by
  unfold impl_isPropClause spec_l15Clause
  refine congrArg (fun z => thenL z _) ?_
  refine forN_congr _ _ _ (fun j s hj => ?_)
  rw [Nat.zero_add]
  cases hx : idx l (j : Int) with
  | none => rfl
  | some v =>
    rw [Option.bind_some, Option.bind_some, within_eq, Option.bind_some]
    have habs : ∀ v ∈ l, impl_absolute v = spec_l15Abs v := fun v h => abs_same (hl v h)
    have hmem : ∀ {e : Int} {v : Int}, idx l e = some v → v ∈ l := fun h => List.mem_of_getElem? (idx_some h).2.2
    have hv : ∀ v : Int, spec_l15Abs v = some (if v < 0 then IntKind.i64.wrap (0 - v) else v) := fun v => by
      unfold spec_l15Abs
      by_cases h : v < 0
      · rw [decide_eq_true h, if_pos h]; rfl
      · rw [decide_eq_false h, if_neg h]; rfl
    rw [hv v, Option.bind_some, l1In_eq, Option.bind_some]
    by_cases h0 : v = 0
    · subst h0; rfl
    · rw [decide_eq_false h0, cond_false]
      have e : inR v (-12) 12 = inR (if v < 0 then IntKind.i64.wrap (0 - v) else v) 1 12 := by
        simp only [inR]
        refine decide_eq_decide.2 ?_
        have hr := hl v (hmem hx)
        unfold InR at hr
        split
        · rw [IntKind.wrap_i64]; omega
        · omega
      rw [e]
      cases inR (if v < 0 then IntKind.i64.wrap (0 - v) else v) 1 12
      · rfl
      · rw [cond_true, cond_true]
        by_cases hj0 : (0 : Int) < (j : Int)
        · rw [decide_eq_true hj0, cond_true, cond_true]
          cases hu : idx l (IntKind.i64.wrap ((j : Int) - 1)) with
          | none => rfl
          | some u =>
            rw [Option.bind_some, Option.bind_some, habs u (hmem hu), hv u, Option.bind_some, Option.bind_some, habs v (hmem hx), hv v, Option.bind_some, Option.bind_some, hv v]; rfl
        · rw [decide_eq_false hj0]; rfl
theorem varOf_nn (t : Term) : 0 ≤ varOf t ∧ varOf t ≤ 12 ∧ (varOf t ≠ 0 → t.Args = []) := by
  unfold varOf
  cases h : t.Args with
  | cons a l => exact ⟨Int.le_refl _, (by omega : (0 : Int) ≤ 12), fun h => absurd rfl h⟩
  | nil =>
    show 0 ≤ nmOf t.Name ∧ nmOf t.Name ≤ 12 ∧ _
    by_cases hv : ∃ k, k < 12 ∧ t.Name = vnm k
    · obtain ⟨k, hk, e⟩ := hv
      rw [e, nmOf_vnm hk]
      exact ⟨by omega, by omega, fun _ => rfl⟩
    · rw [nmOf_none (fun k hk e => hv ⟨k, hk, e⟩)]
      exact ⟨by omega, by omega, fun _ => rfl⟩
/-! atoms, quantifiers, truth -/
mutual
def Formula.ats : Formula → List Term
  | .mk o t _ l => bif decide (o = 3) then [t] else Formula.atss l
def Formula.atss : List Formula → List Term
  | [] => []
  | a :: l => a.ats ++ Formula.atss l
end
theorem Formula.ats_u (a : Formula) : a.ats = bif decide (a.Op = 3) then [a.Atom] else Formula.atss a.Parts := by cases a; rw [Formula.ats]; rfl
theorem atss_mem {t : Term} : ∀ {l : List Formula}, t ∈ Formula.atss l ↔ ∃ a ∈ l, t ∈ a.ats
  | [] => by simp [Formula.atss]
  | a :: l => by simp only [Formula.atss, List.mem_append, List.mem_cons, exists_eq_or_imp, atss_mem (l := l)]
mutual
def Formula.vf : Formula → Bool
  | .mk o t _ l => bif decide (o = 3) then decide (0 < varOf t) else bif decide (o = 8) then false else bif decide (o = 9) then false else Formula.vfs l
def Formula.vfs : List Formula → Bool
  | [] => true
  | a :: l => a.vf && Formula.vfs l
end
theorem Formula.vfs_eq (l : List Formula) : Formula.vfs l = l.all Formula.vf := by
  induction l with
  | nil => rfl
  | cons a l ih => rw [Formula.vfs, ih]; rfl
theorem Formula.vf_u (a : Formula) : a.vf = bif decide (a.Op = 3) then decide (0 < varOf a.Atom) else bif decide (a.Op = 8) then false else bif decide (a.Op = 9) then false else a.Parts.all Formula.vf := by cases a; rw [Formula.vf, Formula.vfs_eq]; rfl
mutual
def Formula.hq : Formula → Bool
  | .mk o _ _ l => (decide (o = 8) || (decide (o = 9) || false)) || Formula.hqs l
def Formula.hqs : List Formula → Bool
  | [] => false
  | a :: l => a.hq || Formula.hqs l
end
theorem Formula.hqs_eq (l : List Formula) : Formula.hqs l = l.any Formula.hq := by
  induction l with
  | nil => rfl
  | cons a l ih => rw [Formula.hqs, ih]; rfl
theorem Formula.hq_u (a : Formula) : a.hq = ((decide (a.Op = 8) || (decide (a.Op = 9) || false)) || a.Parts.any Formula.hq) := by cases a; rw [Formula.hq, Formula.hqs_eq]; rfl
mutual
def Formula.ev (p : Int → Bool) : Formula → Bool
  | .mk o t _ l => bif decide (o = 1) then true else bif decide (o = 2) then false else bif decide (o = 3) then p (varOf t) else bif decide (o = 4) then !(Formula.evs p l).getD 0 false else bif decide (o = 5) then (Formula.evs p l).getD 0 false && (Formula.evs p l).getD 1 false else bif decide (o = 6) then (Formula.evs p l).getD 0 false || (Formula.evs p l).getD 1 false else !(Formula.evs p l).getD 0 false || (Formula.evs p l).getD 1 false
def Formula.evs (p : Int → Bool) : List Formula → List Bool
  | [] => []
  | a :: l => a.ev p :: Formula.evs p l
end
theorem Formula.evs_eq (p : Int → Bool) (l : List Formula) : Formula.evs p l = l.map (Formula.ev p) := by
  induction l with
  | nil => rfl
  | cons a l ih => rw [Formula.evs, ih]; rfl
theorem Formula.ev_u (p : Int → Bool) (a : Formula) : a.ev p = bif decide (a.Op = 1) then true else bif decide (a.Op = 2) then false else bif decide (a.Op = 3) then p (varOf a.Atom) else bif decide (a.Op = 4) then !(a.Parts.map (Formula.ev p)).getD 0 false else bif decide (a.Op = 5) then (a.Parts.map (Formula.ev p)).getD 0 false && (a.Parts.map (Formula.ev p)).getD 1 false else bif decide (a.Op = 6) then (a.Parts.map (Formula.ev p)).getD 0 false || (a.Parts.map (Formula.ev p)).getD 1 false else !(a.Parts.map (Formula.ev p)).getD 0 false || (a.Parts.map (Formula.ev p)).getD 1 false := by cases a; rw [Formula.ev, Formula.evs_eq]; rfl
theorem good_parts {a : Formula} (h : a.good = true) : ∀ x ∈ a.Parts, x.good = true := by
  rw [Formula.good_u, Bool.and_eq_true, List.all_eq_true] at h
  exact h.2
theorem good_form {a : Formula} (h : a.good = true) : formC a.Op a.Atom a.Var a.Parts.length = true := by
  rw [Formula.good_u, Bool.and_eq_true] at h
  exact h.1
theorem good_atom {a : Formula} (h : a.good = true) (e : a.Op = 3) : a.Parts = [] := by
  have := good_form h
  unfold formC at this
  rw [decide_eq_true e, cond_true, Bool.and_eq_true, decide_eq_true_iff] at this
  exact List.length_eq_zero_iff.1 this.1
theorem l20Form_eq (a : Formula) : ∀ n, 2 * SizeOf.sizeOf a ≤ n → spec_l20FormN n a = some a.vf := by
  refine Formula.ind' (M := fun a => ∀ n, 2 * SizeOf.sizeOf a ≤ n → spec_l20FormN n a = some a.vf) (fun a ih n hn => ?_) a
  have hp := a.pos
  cases n with
  | zero => omega
  | succ n =>
    rw [spec_l20FormN, Formula.vf_u, l20Variable_eq, Option.bind_some]
    cases decide (a.Op = 3)
    · cases decide (a.Op = 8)
      · cases decide (a.Op = 9)
        · rw [cond_false, cond_false, cond_false, forN_all (fun j => (a.Parts.getD j default).vf) (r0 := false) (fun j hj _ => by
            have ha := getD_mem hj
            have := Formula.lt ha
            rw [idx_getD hj, Option.bind_some, ih _ ha n (by omega), Option.bind_some]
            cases (a.Parts.getD j default).vf <;> rfl), range_all_list a.Parts Formula.vf]
          cases a.Parts.all Formula.vf <;> rfl
        · rfl
      · rfl
    · rfl
theorem hasOp_eq (a : Formula) : ∀ n, 3 * SizeOf.sizeOf a ≤ n → impl_hasOpN n a [8, 9] = some a.hq := by
  refine Formula.ind' (M := fun a => ∀ n, 3 * SizeOf.sizeOf a ≤ n → impl_hasOpN n a [8, 9] = some a.hq) (fun a ih n hn => ?_) a
  have hp := a.pos
  cases n with
  | zero => omega
  | succ n =>
    have e : hasI [8, 9] a.Op = (decide (a.Op = 8) || (decide (a.Op = 9) || false)) := by rw [← any_hasI]; rfl
    rw [impl_hasOpN, Contains_eq, Option.bind_some, e, Formula.hq_u]
    cases (decide (a.Op = 8) || (decide (a.Op = 9) || false))
    · rw [cond_false, contFm (p := Formula.hq) a.Parts (fun x hx => by
        have := Formula.lt hx
        cases n with
        | zero => omega
        | succ n => rw [impl_hasOp_1N, ih x hx n (by omega)]; rfl)]; rfl
    · rfl
theorem ats_loop (f : Formula → Option (List Term)) : ∀ (l : List Formula) (i : Nat) (acc : List Term), (∀ a ∈ l, f a = some a.ats) → acc.length + (Formula.atss l).length ≤ 1073741824 →
    forL (ρ := List Term) (fun _ x s => (f x).bind fun v22 => (app s v22).bind fun v23 => some (.nx v23)) l i acc = some (.inr (acc ++ Formula.atss l))
  | [], i, acc, _, _ => by rw [forL_nil, Formula.atss, List.append_nil]
  | a :: l, i, acc, h, hb => by
    rw [Formula.atss, List.length_append] at hb
    rw [forL_nx (s' := acc ++ a.ats) (by
      rw [h a (by simp), Option.bind_some]; unfold app
      rw [if_pos (by omega)]; rfl), ats_loop f l (i + 1) _ (fun x hx => h x (by simp [hx])) (by rw [List.length_append]; omega), Formula.atss, List.append_assoc]
theorem atss_len {l : List Formula} {a : Formula} (h : a ∈ l) : a.ats.length ≤ (Formula.atss l).length := by
  induction l with
  | nil => cases h
  | cons b l ih =>
    rw [Formula.atss, List.length_append]
    rcases List.mem_cons.1 h with rfl | h
    · omega
    · have := ih h; omega
theorem atomsOf_eq (a : Formula) : a.ats.length ≤ 1073741824 → ∀ n, 2 * SizeOf.sizeOf a ≤ n → impl_atomsOfN n a = some a.ats := by
  refine Formula.ind' (M := fun a => a.ats.length ≤ 1073741824 → ∀ n, 2 * SizeOf.sizeOf a ≤ n → impl_atomsOfN n a = some a.ats) (fun a ih hb n hn => ?_) a
  have hp := a.pos
  rw [Formula.ats_u] at hb
  cases n with
  | zero => omega
  | succ n =>
    rw [impl_atomsOfN, Formula.ats_u]
    cases e : decide (a.Op = 3)
    · rw [e, cond_false] at hb
      rw [cond_false, cond_false, forN_idx a.Parts (fun _ x s => (impl_atomsOfN n x).bind fun v22 => (app s v22).bind fun v23 => some (.nx v23)),
        ats_loop (impl_atomsOfN n) a.Parts 0 [] (fun x hx => ih x hx (by have := atss_len hx; omega) n (by have := Formula.lt hx; omega)) (by simpa using hb)]; rfl
    · rfl
theorem atss_cnt : ∀ {l : List Formula}, (∀ a ∈ l, a.ats.length ≤ a.cnt) → (Formula.atss l).length ≤ (l.map Formula.cnt).sum
  | [], _ => by simp [Formula.atss]
  | a :: l, h => by
    have h1 := h a (by simp)
    have h2 := atss_cnt (l := l) (fun x hx => h x (by simp [hx]))
    rw [Formula.atss, List.length_append, List.map_cons, List.sum_cons]; omega
theorem ats_cnt (a : Formula) : a.ats.length ≤ a.cnt := by
  refine Formula.ind' (M := fun a => a.ats.length ≤ a.cnt) (fun a ih => ?_) a
  rw [Formula.ats_u, Formula.cnt_u]
  cases decide (a.Op = 3)
  · have := atss_cnt ih
    rw [cond_false]; omega
  · rw [cond_true]; simp
theorem atss_all (q : Term → Bool) : ∀ l : List Formula, (Formula.atss l).all q = l.all (fun a => a.ats.all q)
  | [] => rfl
  | a :: l => by rw [Formula.atss, List.all_append, atss_all q l]; rfl
theorem vf_split (a : Formula) : a.good = true → a.vf = (!a.hq && a.ats.all (fun t => !decide (varOf t = 0))) := by
  refine Formula.ind' (M := fun a => a.good = true → a.vf = (!a.hq && a.ats.all (fun t => !decide (varOf t = 0)))) (fun a ih hg => ?_) a
  rw [Formula.vf_u, Formula.hq_u, Formula.ats_u]
  by_cases e : a.Op = 3
  · rw [decide_eq_true e, cond_true, cond_true, good_atom hg e, decide_eq_false (by omega : ¬ a.Op = 8), decide_eq_false (by omega : ¬ a.Op = 9)]
    have := (varOf_nn a.Atom).1
    simp only [List.any_nil, Bool.or_false, Bool.not_false, Bool.true_and, List.all_cons, List.all_nil, Bool.and_true]
    by_cases h0 : varOf a.Atom = 0
    · rw [h0]; rfl
    · rw [decide_eq_false h0, decide_eq_true (by omega)]; rfl
  · rw [decide_eq_false e, cond_false, cond_false]
    cases decide (a.Op = 8)
    · cases decide (a.Op = 9)
      · have hall : a.Parts.all Formula.vf = (!a.Parts.any Formula.hq && (Formula.atss a.Parts).all (fun t => !decide (varOf t = 0))) := by
          rw [atss_all, Bool.eq_iff_iff, Bool.and_eq_true, Bool.not_eq_true', List.any_eq_false, List.all_eq_true, List.all_eq_true]
          constructor
          · intro h
            refine ⟨fun x hx => ?_, fun x hx => ?_⟩
            · have := h x hx
              rw [ih x hx (good_parts hg x hx), Bool.and_eq_true, Bool.not_eq_true'] at this
              rw [this.1]; simp
            · have := h x hx
              rw [ih x hx (good_parts hg x hx), Bool.and_eq_true] at this
              exact this.2
          · rintro ⟨h1, h2⟩ x hx
            rw [ih x hx (good_parts hg x hx), Bool.and_eq_true, Bool.not_eq_true']
            exact ⟨by simpa using h1 x hx, h2 x hx⟩
        rw [hall]; rfl
      · rfl
    · rfl
theorem vars_loop : ∀ (l : List Term) (i : Nat) (acc : List Int), acc.length + l.length ≤ 1000000 →
    thenL (ρ := (List Int) × Bool) (forL (fun _ x s => (impl_variableOf x).bind fun v25 => bif decide (v25 = (0 : Int)) then some (.rt ([], false)) else (app s [v25]).bind fun v31 => some (.nx v31)) l i acc) (fun s => some (s, true)) = some (bif l.all (fun t => !decide (varOf t = 0)) then (acc ++ l.map varOf, true) else ([], false))
  | [], i, acc, _ => by rw [forL_nil]; simp [thenL_inr]
  | t :: l, i, acc, hb => by
    rw [List.length_cons] at hb
    rw [List.all_cons]
    by_cases h : varOf t = 0
    · rw [forL_rt (r := ([], false)) (by rw [variableOf_eq, Option.bind_some, decide_eq_true h, cond_true]), thenL_inl, decide_eq_true h]; rfl
    · rw [forL_nx (s' := acc ++ [varOf t]) (by
        rw [variableOf_eq, Option.bind_some, decide_eq_false h, cond_false]; unfold app
        rw [if_pos (by simp; omega)]; rfl), vars_loop l (i + 1) _ (by rw [List.length_append]; simp; omega), decide_eq_false h, List.append_assoc]; rfl
def okF (a : Formula) : Bool := validF a && a.vf
theorem validF_cnt {a : Formula} (h : validF a = true) : a.cnt ≤ 40 ∧ a.good = true := by
  unfold validF at h
  rwa [Bool.and_eq_true, decide_eq_true_iff] at h
theorem variablesOf_eq (a : Formula) (h : a.tot ≤ 1048576) (hok : a.Ok) : impl_variablesOf a = some (bif okF a then (a.ats.map varOf, true) else ([], false)) := by
  unfold impl_variablesOf okF
  rw [validF_impl a h hok, Option.bind_some]
  cases hv : validF a
  · rfl
  · obtain ⟨h1, h2⟩ := validF_cnt hv
    have hl := ats_cnt a
    rw [cond_true, show impl_hasOp a [8, 9] = some a.hq from lim_eq ⟨_, hasOp_eq a⟩, Option.bind_some, vf_split a h2]
    cases a.hq
    · rw [cond_false, show impl_atomsOf a = some a.ats from lim_eq ⟨_, atomsOf_eq a (by omega)⟩, Option.bind_some]
      have e := forN_idx (ρ := (List Int) × Bool) a.ats (fun i x (s : List Int) => (idx a.ats (i : Int)).bind fun v23 => (impl_variableOf v23).bind fun v25 => bif decide (v25 = (0 : Int)) then some (.rt ([], false)) else (app s [v25]).bind fun v31 => some (.nx v31)) []
      rw [e, forL_congr (g := fun _ x s => (impl_variableOf x).bind fun v25 => bif decide (v25 = (0 : Int)) then some (.rt ([], false)) else (app s [v25]).bind fun v31 => some (.nx v31)) a.ats 0 [] (fun j x s hx => by
        rw [Nat.zero_add, idx_nat, hx, Option.bind_some]), vars_loop a.ats 0 [] (by simp; omega)]
      rfl
    · rfl
theorem l20Good_eq (a : Formula) (h : a.tot ≤ 1048576) (hok : a.Ok) : spec_l20Good a = some (okF a) := by
  unfold spec_l20Good okF
  rw [validF_spec a h hok, Option.bind_some]
  cases validF a
  · rfl
  · rw [cond_true, show spec_l20Form a = some a.vf from lim_eq ⟨_, l20Form_eq a⟩]; rfl
end Go.Proofs.YtkokcfphepmeeaaGreatDoor
