/- A part of the proof: lemmas only; nothing is claimed here beyond what each lemma says. -/
import Derived.Test.YtdmkceajaagpgaaGfm
import Derived.Test.YtdmkceajaagpgaaAvZ
set_option linter.unusedSimpArgs false
set_option linter.unusedVariables false
set_option linter.defProp false
set_option maxRecDepth 4000
namespace Go.Proofs.Ytdmkceajaagpgaa
open Go.Av
/-! the same -/
noncomputable def same {α : Type} (a b : α) : Bool := @decide (a = b) (Classical.propDecidable _)
theorem same_iff {α : Type} {a b : α} : same a b = true ↔ a = b := by unfold same; exact @decide_eq_true_iff _ (Classical.propDecidable _)
theorem same_comm {α : Type} (a b : α) : same a b = same b a := by rw [Bool.eq_iff_iff, same_iff, same_iff]; exact eq_comm
theorem same_dec {α : Type} (a b : α) [Decidable (a = b)] : decide (a = b) = same a b := by rw [Bool.eq_iff_iff, same_iff]; exact decide_eq_true_iff
theorem same_len {α : Type} {xs ys : List α} (h : ¬ xs.length = ys.length) : same xs ys = false := by
  cases e : same xs ys
  · rfl
  · rw [same_iff] at e; exact absurd (by rw [e]) h
theorem all_same {α : Type} [Inhabited α] {xs ys : List α} (h : xs.length = ys.length) : (List.range xs.length).all (fun j => same (xs.getD j default) (ys.getD j default)) = same xs ys := by
  rw [Bool.eq_iff_iff, List.all_eq_true, same_iff]
  constructor
  · intro g
    refine List.ext_getElem h (fun i h1 h2 => ?_)
    have := same_iff.1 (g i (by simpa using h1))
    simpa [List.getD, h1, h2] using this
  · rintro rfl x _
    exact same_iff.2 rfl
theorem same_loop {α : Type} [Inhabited α] (f : α → α → Option Bool) (xs ys : List α) (h : xs.length = ys.length) (hf : ∀ a ∈ xs, ∀ b, f a b = some (same a b)) :
    thenL (ρ := Bool) (σ := Unit) (forN (fun (i : Nat) (_ : Unit) => Option.bind (idx xs (i : Int)) fun v => Option.bind (idx ys (i : Int)) fun w => Option.bind (f v w) fun x => bif x then some (.nx ()) else some (.rt false)) xs.length 0 ()) (fun _ => some true) = some (same xs ys) := by
  rw [forN_all (fun j => same (xs.getD j default) (ys.getD j default)) (r0 := false) (fun j hj _ => ?_), all_same h]
  · cases same xs ys <;> rfl
  · rw [idx_getD hj, idx_getD (h ▸ hj), Option.bind_some, Option.bind_some, hf _ (getD_mem hj), Option.bind_some]
    cases same (xs.getD j default) (ys.getD j default) <;> rfl
theorem len_dec' {α : Type} (xs ys : List α) : decide ((xs.length : Int) = (ys.length : Int)) = decide (xs.length = ys.length) := decide_eq_decide.2 (by omega)
theorem Term.same_u (a b : Term) : same a b = (decide (a.Name = b.Name) && same a.Args b.Args) := by
  rw [Bool.eq_iff_iff, same_iff, Bool.and_eq_true, same_iff, decide_eq_true_iff]
  constructor
  · rintro rfl; exact ⟨rfl, rfl⟩
  · rintro ⟨h1, h2⟩; rw [← a.eta, ← b.eta, h1, h2]
theorem l2Same_eq (a : Term) : ∀ b n, 2 * SizeOf.sizeOf a ≤ n → spec_l2SameN n a b = some (same a b) ∧ impl_EqualTermsN n a b = some (same a b) := by
  refine Term.ind' (M := fun a => ∀ b n, 2 * SizeOf.sizeOf a ≤ n → spec_l2SameN n a b = some (same a b) ∧ impl_EqualTermsN n a b = some (same a b)) (fun a ih b n hn => ?_) a
  have hp := a.pos
  cases n with
  | zero => omega
  | succ n =>
    rw [spec_l2SameN, impl_EqualTermsN, Term.same_u]
    unfold slices_EqualFunc_Simpl_Term_Simpl_Term_impl_Term_impl_Term
    rw [len_dec']
    cases decide (a.Name = b.Name)
    · exact ⟨rfl, rfl⟩
    · by_cases h : a.Args.length = b.Args.length
      · have k := fun x (hx : x ∈ a.Args) y => ih x hx y n (by have := Term.lt hx; omega)
        rw [decide_eq_true h, cond_true, cond_true, same_loop (spec_l2SameN n) a.Args b.Args h (fun x hx y => (k x hx y).1)]
        refine ⟨rfl, ?_⟩
        rw [cond_true, cond_true, same_loop (impl_EqualTermsN n) a.Args b.Args h (fun x hx y => (k x hx y).2)]; rfl
      · rw [decide_eq_false h, same_len h]; exact ⟨rfl, rfl⟩
theorem l2Same_ok (a b : Term) : spec_l2Same a b = some (same a b) := lim_eq ⟨_, fun n hn => (l2Same_eq a b n hn).1⟩
theorem EqualTerms_ok (a b : Term) : impl_EqualTerms a b = some (same a b) := lim_eq ⟨_, fun n hn => (l2Same_eq a b n hn).2⟩
theorem Formula.same_u (a b : Formula) : same a b = (decide (a.Op = b.Op) && (same a.Atom b.Atom && (decide (a.Var = b.Var) && same a.Parts b.Parts))) := by
  rw [Bool.eq_iff_iff, same_iff, Bool.and_eq_true, Bool.and_eq_true, Bool.and_eq_true, same_iff, same_iff, decide_eq_true_iff, decide_eq_true_iff]
  constructor
  · rintro rfl; exact ⟨rfl, rfl, rfl, rfl⟩
  · rintro ⟨h1, h2, h3, h4⟩; rw [← a.eta, ← b.eta, h1, h2, h3, h4]
theorem l8Same_eq (a : Formula) : ∀ b n, 2 * SizeOf.sizeOf a ≤ n → spec_l8SameN n a b = some (same a b) ∧ impl_sameFormulaN n a b = some (same a b) := by
  refine Formula.ind' (M := fun a => ∀ b n, 2 * SizeOf.sizeOf a ≤ n → spec_l8SameN n a b = some (same a b) ∧ impl_sameFormulaN n a b = some (same a b)) (fun a ih b n hn => ?_) a
  have hp := a.pos
  cases n with
  | zero => omega
  | succ n =>
    rw [spec_l8SameN, impl_sameFormulaN, Formula.same_u, l2Same_ok, EqualTerms_ok]
    unfold slices_EqualFunc_Simpl_Formula_Simpl_Formula_impl_Formula_impl_Formula
    simp only [len_dec', Option.bind_some]
    generalize decide (a.Op = b.Op) = x
    generalize decide (a.Var = b.Var) = y
    generalize same a.Atom b.Atom = z
    by_cases h : a.Parts.length = b.Parts.length
    · have k := fun x (hx : x ∈ a.Parts) y => ih x hx y n (by have := Formula.lt hx; omega)
      rw [decide_eq_true h, same_loop (spec_l8SameN n) a.Parts b.Parts h (fun x hx y => (k x hx y).1), same_loop (impl_sameFormulaN n) a.Parts b.Parts h (fun x hx y => (k x hx y).2)]
      generalize same a.Parts b.Parts = w
      revert x y z w; decide
    · rw [decide_eq_false h, same_len h]
      simp only [cond_false, Option.bind_some]
      revert x y z; decide
theorem l8Same_ok (a b : Formula) : spec_l8Same a b = some (same a b) := lim_eq ⟨_, fun n hn => (l8Same_eq a b n hn).1⟩
theorem sameF_ok (a b : Formula) : impl_sameFormula a b = some (same a b) := lim_eq ⟨_, fun n hn => (l8Same_eq a b n hn).2⟩
theorem any_list {α : Type} [Inhabited α] {f : α → Option Bool} {p : α → Bool} (xs : List α) (h : ∀ x ∈ xs, f x = some (p x)) :
    thenL (ρ := Bool) (forN (fun (i : Nat) (_ : Unit) => Option.bind (idx xs (i : Int)) fun v => Option.bind (f v) fun b => bif b then some (.rt true) else some (.nx ())) xs.length 0 ()) (fun _ => some false) = some (xs.any p) := by
  rw [forN_all (fun j => !p (xs.getD j default)) (r0 := true) (fun j hj _ => ?_), range_all_list xs (fun x => !p x), List.any_eq_not_all_not]
  · cases xs.all fun x => !p x <;> rfl
  · rw [idx_getD hj, Option.bind_some, h _ (getD_mem hj), Option.bind_some]
    cases p (xs.getD j default) <;> rfl
theorem has_spec (l : List Formula) (a : Formula) : spec_l18Has l a = some (l.any (fun x => same x a)) := by
  unfold spec_l18Has
  exact any_list l (f := fun v => spec_l8Same v a) (fun x _ => l8Same_ok x a)
theorem has_impl (l : List Formula) (a : Formula) : slices_ContainsFunc_Simpl_Formula_impl_Formula l (fun y0 => impl_leaves_1 y0 a) = some (l.any (fun x => same x a)) := contFm l (fun x _ => by
  unfold impl_leaves_1
  rw [sameF_ok, Option.bind_some, same_comm])
theorem any_same {l : List Formula} {a : Formula} : l.any (fun x => same x a) = true ↔ a ∈ l := by
  rw [List.any_eq_true]
  constructor
  · rintro ⟨x, h1, h2⟩; rw [same_iff] at h2; exact h2 ▸ h1
  · intro h; exact ⟨a, h, same_iff.2 rfl⟩
/-! leaves -/
def leafO (o : Int) : Bool := decide (o = 3) || (decide (o = 8) || decide (o = 9))
mutual
def Formula.lvs : Formula → List Formula
  | .mk o t v l => bif leafO o then [.mk o t v l] else Formula.lvss l
def Formula.lvss : List Formula → List Formula
  | [] => []
  | a :: l => a.lvs ++ Formula.lvss l
end
theorem Formula.lvs_u (a : Formula) : a.lvs = bif leafO a.Op then [a] else Formula.lvss a.Parts := by cases a; rw [Formula.lvs]; rfl
theorem lvss_mem : ∀ {l : List Formula} {a x : Formula}, a ∈ l → x ∈ a.lvs → x ∈ Formula.lvss l
  | b :: l, a, x, h, hx => by
    rw [Formula.lvss, List.mem_append]
    rcases List.mem_cons.1 h with rfl | h
    · exact .inl hx
    · exact .inr (lvss_mem h hx)
def VF (acc v vs : List Formula) (c : Nat) : Prop := (∀ x, x ∈ v ↔ x ∈ acc ∨ x ∈ vs) ∧ v.length ≤ acc.length + c
theorem vf_loop (F G : Nat → List Formula → Formula → Option (List Formula)) (N : Nat) : ∀ (l : List Formula) (i : Nat) (acc : List Formula),
    (∀ a ∈ l, ∀ acc, acc.length + a.cnt ≤ 1000000 → ∃ v, (∀ n, N ≤ n → F n acc a = some v ∧ G n acc a = some v) ∧ VF acc v a.lvs a.cnt) → acc.length + Formula.cnts l ≤ 1000000 →
    ∃ v, (∀ n, N ≤ n → ∀ ρ, forL (ρ := ρ) (fun _ x s => (F n s x).bind fun w => some (.nx w)) l i acc = some (.inr v) ∧ forL (ρ := ρ) (fun _ x s => (G n s x).bind fun w => some (.nx w)) l i acc = some (.inr v)) ∧ VF acc v (Formula.lvss l) (Formula.cnts l)
  | [], i, acc, _, _ => ⟨acc, fun _ _ _ => ⟨rfl, rfl⟩, fun x => by simp [Formula.lvss], by simp [Formula.cnts]⟩
  | a :: l, i, acc, h, hb => by
    simp only [Formula.cnts] at hb
    obtain ⟨v, h1, h2, h3⟩ := h a (by simp) acc (by omega)
    obtain ⟨w, g1, g2, g3⟩ := vf_loop F G N l (i + 1) v (fun b hb => h b (by simp [hb])) (by omega)
    refine ⟨w, fun n hn ρ => ?_, fun x => ?_, ?_⟩
    · rw [forL_nx (s' := v) (by rw [(h1 n hn).1]; rfl), forL_nx (s' := v) (by rw [(h1 n hn).2]; rfl)]
      exact g1 n hn ρ
    · rw [g2, h2, Formula.lvss, List.mem_append, or_assoc]
    · simp only [Formula.cnts]; omega
theorem into_eq (a : Formula) : ∀ acc : List Formula, acc.length + a.cnt ≤ 1000000 → ∃ v, (∀ n, 2 * SizeOf.sizeOf a ≤ n → spec_l21IntoN n acc a = some v ∧ impl_leavesN n acc a = some v) ∧ VF acc v a.lvs a.cnt := by
  refine Formula.ind' (M := fun a => ∀ acc : List Formula, acc.length + a.cnt ≤ 1000000 → ∃ v, (∀ n, 2 * SizeOf.sizeOf a ≤ n → spec_l21IntoN n acc a = some v ∧ impl_leavesN n acc a = some v) ∧ VF acc v a.lvs a.cnt) (fun a ih acc hb => ?_) a
  have hp := a.pos
  have hc := a.cnt_pos
  cases e : leafO a.Op
  · rw [Formula.lvs_u, e, cond_false]
    have hcu := a.cnt_u
    rw [← Formula.cnts_eq] at hcu
    obtain ⟨v, h1, h2, h3⟩ := vf_loop (fun n s x => spec_l21IntoN n s x) (fun n s x => impl_leavesN n s x) (2 * SizeOf.sizeOf a - 1) a.Parts 0 acc (fun b hb acc hc => by
      obtain ⟨v, k1, k2⟩ := ih b hb acc hc
      exact ⟨v, fun n hn => k1 n (by have := Formula.lt hb; omega), k2⟩) (by omega)
    refine ⟨v, fun n hn => ?_, h2, by omega⟩
    unfold leafO at e
    rw [Bool.or_eq_false_iff] at e
    cases n with
    | zero => omega
    | succ n =>
      rw [spec_l21IntoN, impl_leavesN, l17Q_eq, isQ_eq, e.1, e.2]
      simp only [Option.bind_some, cond_false]
      have e1 := forN_idx (ρ := List Formula) a.Parts (fun _ x s => (spec_l21IntoN n s x).bind fun w => some (.nx w)) acc
      have e2 := forN_idx (ρ := List Formula) a.Parts (fun _ x s => (impl_leavesN n s x).bind fun w => some (.nx w)) acc
      rw [(h1 n (by omega) _).1] at e1
      rw [(h1 n (by omega) _).2] at e2
      rw [e1, e2]; exact ⟨rfl, rfl⟩
  · rw [Formula.lvs_u, e, cond_true]
    refine ⟨bif acc.any (fun x => same x a) then acc else acc ++ [a], fun n hn => ?_, fun x => ?_, ?_⟩
    · have key : ∀ q : Option (List Formula), (bif decide (a.Op = 3) then q else Option.bind (some (decide (a.Op = 8) || decide (a.Op = 9))) fun v => bif v then q else none) = q := by
        intro q
        unfold leafO at e
        cases h3 : decide (a.Op = 3)
        · rw [h3, Bool.false_or] at e; rw [e]; rfl
        · rfl
      cases n with
      | zero => omega
      | succ n =>
        rw [spec_l21IntoN, impl_leavesN, l17Q_eq, isQ_eq, has_spec, has_impl]
        have app1 : app acc [a] = some (acc ++ [a]) := by unfold app; rw [if_pos (by simp only [List.length_cons, List.length_nil]; omega)]
        simp only [Option.bind_some, app1]
        unfold leafO at e
        cases h3 : decide (a.Op = 3)
        · rw [h3, Bool.false_or] at e; rw [e]
          cases acc.any (fun x => same x a) <;> exact ⟨rfl, rfl⟩
        · cases acc.any (fun x => same x a) <;> exact ⟨rfl, rfl⟩
    · cases g : acc.any (fun x => same x a)
      · simp
      · rw [any_same] at g
        rw [cond_true, List.mem_singleton]
        exact ⟨Or.inl, fun k => k.elim id fun k => k ▸ g⟩
    · cases acc.any (fun x => same x a)
      · simp only [cond_false, List.length_append, List.length_cons, List.length_nil]; omega
      · simp only [cond_true]; omega
/-! truth -/
theorem first_of {p : Nat → Bool} (j : Nat) : p j = true → ∃ i, i ≤ j ∧ p i = true ∧ ∀ k, k < i → p k = false := by
  induction j using Nat.strongRecOn with
  | ind j ih =>
    intro hj
    by_cases h : ∃ k, k < j ∧ p k = true
    · obtain ⟨k, hk, hpk⟩ := h
      obtain ⟨i, h1, h2, h3⟩ := ih k hk hpk
      exact ⟨i, by omega, h2, h3⟩
    · refine ⟨j, Nat.le_refl _, hj, fun k hk => ?_⟩
      cases e : p k
      · rfl
      · exact absurd ⟨k, hk, e⟩ h
theorem forN_first {ρ : Type} {p : Nat → Bool} {g : Nat → ρ} {f : Nat → Unit → Option (Flow ρ Unit)} {N j : Nat} (hj : j < N) (hp : p j = true) (hk : ∀ k, k < j → p k = false) (hf : ∀ i, i < N → f i () = some (bif p i then .rt (g i) else .nx ())) :
    ∀ (m i : Nat), i + m = N → i ≤ j → forN f m i () = some (.inl (g j))
  | 0, i, h1, h2 => by omega
  | m + 1, i, h1, h2 => by
    by_cases e : i = j
    · subst e
      exact forN_rt (by rw [hf i (by omega), hp]; rfl)
    · rw [forN_nx (s' := ()) (by rw [hf i (by omega), hk i (by omega)]; rfl)]
      exact forN_first hj hp hk hf m (i + 1) (by omega) (by omega)
def bitT (m : Int) (j : Nat) : Bool := decide (bitand .i64 (m.fdiv (2 ^ (min j 64))) 1 = 1)
theorem shr_nat (m : Int) (j : Nat) : shr .i64 m (j : Int) = some (m.fdiv (2 ^ (min j 64))) := by
  unfold shr
  rw [if_pos (by omega)]; rfl
theorem good_parts {a : Formula} (h : a.good = true) : ∀ x ∈ a.Parts, x.good = true := by
  rw [Formula.good_u, Bool.and_eq_true, List.all_eq_true] at h
  exact h.2
theorem good_form {a : Formula} (h : a.good = true) : formC a.Op a.Atom a.Var a.Parts.length = true := by
  rw [Formula.good_u, Bool.and_eq_true] at h
  exact h.1
theorem lvs_parts {a x : Formula} (hl : leafO a.Op = false) (hx : x ∈ a.Parts) {ls : List Formula} (h : ∀ y ∈ a.lvs, y ∈ ls) : ∀ y ∈ x.lvs, y ∈ ls := fun y hy => by
  rw [Formula.lvs_u, hl, cond_false] at h
  exact h y (lvss_mem hx hy)
theorem truth_eq (ls : List Formula) (m : Int) (hls : ls.length ≤ 1000) (a : Formula) : a.good = true → (∀ x ∈ a.lvs, x ∈ ls) → ∃ r : Bool, ∀ n, 3 * SizeOf.sizeOf a ≤ n → spec_l21HoldsN n a ls m = some r ∧ impl_leafTruthN n a ls m = some r := by
  refine Formula.ind' (M := fun a => a.good = true → (∀ x ∈ a.lvs, x ∈ ls) → ∃ r : Bool, ∀ n, 3 * SizeOf.sizeOf a ≤ n → spec_l21HoldsN n a ls m = some r ∧ impl_leafTruthN n a ls m = some r) (fun a ih hg hin => ?_) a
  have hp := a.pos
  have hf := good_form hg
  have hgp := good_parts hg
  have one : leafO a.Op = false → a.Parts.length = 1 → ∃ (x : Formula) (r : Bool), a.Parts[0]? = some x ∧ ∀ n, 3 * SizeOf.sizeOf a ≤ n + 1 → spec_l21HoldsN n x ls m = some r ∧ impl_leafTruth_1N n 0 a ls m = some r := by
    intro hl hlen
    match e : a.Parts, hlen with
    | [x], _ =>
      have hx : x ∈ a.Parts := by rw [e]; simp
      obtain ⟨r, hr⟩ := ih x hx (hgp x hx) (lvs_parts hl hx hin)
      refine ⟨x, r, rfl, fun n hn => ?_⟩
      have := Formula.lt hx
      refine ⟨(hr n (by omega)).1, ?_⟩
      cases n with
      | zero => omega
      | succ n =>
        rw [impl_leafTruth_1N, show (0 : Int) = ((0 : Nat) : Int) from rfl, idx_nat, e]
        simp only [List.getElem?_cons_zero, Option.bind_some, (hr n (by omega)).2]
  have two : leafO a.Op = false → a.Parts.length = 2 → ∃ (x y : Formula) (r s : Bool), a.Parts[0]? = some x ∧ a.Parts[1]? = some y ∧ ∀ n, 3 * SizeOf.sizeOf a ≤ n + 1 → spec_l21HoldsN n x ls m = some r ∧ impl_leafTruth_1N n 0 a ls m = some r ∧ spec_l21HoldsN n y ls m = some s ∧ impl_leafTruth_1N n 1 a ls m = some s := by
    intro hl hlen
    match e : a.Parts, hlen with
    | [x, y], _ =>
      have hx : x ∈ a.Parts := by rw [e]; simp
      have hy : y ∈ a.Parts := by rw [e]; simp
      obtain ⟨r, hr⟩ := ih x hx (hgp x hx) (lvs_parts hl hx hin)
      obtain ⟨s, hs⟩ := ih y hy (hgp y hy) (lvs_parts hl hy hin)
      refine ⟨x, y, r, s, rfl, rfl, fun n hn => ?_⟩
      have := Formula.lt hx
      have := Formula.lt hy
      refine ⟨(hr n (by omega)).1, ?_, (hs n (by omega)).1, ?_⟩
      · cases n with
        | zero => omega
        | succ n =>
          rw [impl_leafTruth_1N, show (0 : Int) = ((0 : Nat) : Int) from rfl, idx_nat, e]
          simp only [List.getElem?_cons_zero, Option.bind_some, (hr n (by omega)).2]
      · cases n with
        | zero => omega
        | succ n =>
          rw [impl_leafTruth_1N, show (1 : Int) = ((1 : Nat) : Int) from rfl, idx_nat, e]
          simp only [List.getElem?_cons_zero, List.getElem?_cons_succ, Option.bind_some, (hs n (by omega)).2]
  have leaf : leafO a.Op = true → ∃ j, j < 1000 ∧ thenL (ρ := Bool) (σ := Unit) (forN (fun (i14 : Nat) (s14 : Unit) => Option.bind (idx ls (i14 : Int)) fun v89 => Option.bind (spec_l8Same v89 a) fun v92 => bif v92 then Option.bind (shr .i64 m (IntKind.u64.wrap (i14 : Int))) fun v96 => some (.rt (decide ((bitand .i64 v96 (1 : Int)) = (1 : Int)))) else some (.nx ())) ls.length 0 ()) (fun _ => some false) = some (bitT m j) ∧
      slices_IndexFunc_Simpl_Formula_impl_Formula ls (fun y0 => impl_leafTruth_2 y0 a) = some (j : Int) := by
    intro hl
    have ha : a ∈ ls := hin a (by rw [Formula.lvs_u, hl]; simp)
    obtain ⟨j0, hj0, e0⟩ := List.mem_iff_getElem.1 ha
    obtain ⟨j, h1, h2, h3⟩ := first_of (p := fun i => decide (i < ls.length) && same (ls.getD i default) a) j0 (by
      rw [decide_eq_true hj0, Bool.true_and, same_iff]; simp [List.getD, hj0, e0])
    have hj : j < ls.length := by omega
    refine ⟨j, by omega, ?_, ?_⟩
    · rw [forN_first (p := fun i => decide (i < ls.length) && same (ls.getD i default) a) (g := bitT m) hj h2 h3 (fun i hi => ?_) ls.length 0 (by omega) (by omega), thenL_inl]
      rw [idx_getD hi, Option.bind_some, l8Same_ok, Option.bind_some, u64_nat (by omega), shr_nat, decide_eq_true hi, Bool.true_and]
      cases same (ls.getD i default) a <;> rfl
    · unfold slices_IndexFunc_Simpl_Formula_impl_Formula
      rw [forN_first (p := fun i => decide (i < ls.length) && same (ls.getD i default) a) (g := fun i => (i : Int)) hj h2 h3 (fun i hi => ?_) ls.length 0 (by omega) (by omega), thenL_inl]
      unfold impl_leafTruth_2
      simp only [idx_getD hi, Option.bind_some, sameF_ok]
      rw [same_comm, decide_eq_true hi, Bool.true_and]
      cases same (ls.getD i default) a <;> rfl
  have i0 : ∀ (x : Formula), a.Parts[0]? = some x → idx a.Parts (0 : Int) = some x := fun x h => by
    rw [show (0 : Int) = ((0 : Nat) : Int) from rfl, idx_nat, h]
  have i1 : ∀ (x : Formula), a.Parts[1]? = some x → idx a.Parts (1 : Int) = some x := fun x h => by
    rw [show (1 : Int) = ((1 : Nat) : Int) from rfl, idx_nat, h]
  unfold formC at hf
  rcases op_cases a.Op with e | e | e | e | e | e | e | e | e | ⟨g1, g2, g3, g4, g5, g6, g7, g8, g9⟩
  · refine ⟨true, fun n hn => ?_⟩
    cases n with
    | zero => omega
    | succ n => rw [spec_l21HoldsN, impl_leafTruthN, e]; exact ⟨rfl, rfl⟩
  · refine ⟨false, fun n hn => ?_⟩
    cases n with
    | zero => omega
    | succ n => rw [spec_l21HoldsN, impl_leafTruthN, e]; exact ⟨rfl, rfl⟩
  · obtain ⟨j, hj, h1, h2⟩ := leaf (by rw [e]; rfl)
    refine ⟨bitT m j, fun n hn => ?_⟩
    cases n with
    | zero => omega
    | succ n =>
      rw [spec_l21HoldsN, impl_leafTruthN, e, h2, Option.bind_some, shr_nat, Option.bind_some]
      exact ⟨h1, rfl⟩
  · obtain ⟨x, r, h0, h1⟩ := one (by rw [e]; rfl) (by rw [e] at hf; simp at hf; exact hf.1)
    refine ⟨!r, fun n hn => ?_⟩
    cases n with
    | zero => omega
    | succ n =>
      obtain ⟨k1, k2⟩ := h1 n (by omega)
      rw [spec_l21HoldsN, impl_leafTruthN, e, i0 x h0, k2]
      simp only [Option.bind_some, k1]
      exact ⟨rfl, rfl⟩
  · obtain ⟨x, y, r, s, h0, h1, h2⟩ := two (by rw [e]; rfl) (by rw [e] at hf; simp at hf; exact hf.1)
    refine ⟨r && s, fun n hn => ?_⟩
    cases n with
    | zero => omega
    | succ n =>
      obtain ⟨k1, k2, k3, k4⟩ := h2 n (by omega)
      rw [spec_l21HoldsN, impl_leafTruthN, e, i0 x h0, i1 y h1, k2, k4]
      simp only [Option.bind_some, k1, k3]
      cases r <;> cases s <;> exact ⟨rfl, rfl⟩
  · obtain ⟨x, y, r, s, h0, h1, h2⟩ := two (by rw [e]; rfl) (by rw [e] at hf; simp at hf; exact hf.1)
    refine ⟨r || s, fun n hn => ?_⟩
    cases n with
    | zero => omega
    | succ n =>
      obtain ⟨k1, k2, k3, k4⟩ := h2 n (by omega)
      rw [spec_l21HoldsN, impl_leafTruthN, e, i0 x h0, i1 y h1, k2, k4]
      simp only [Option.bind_some, k1, k3]
      cases r <;> cases s <;> exact ⟨rfl, rfl⟩
  · obtain ⟨x, y, r, s, h0, h1, h2⟩ := two (by rw [e]; rfl) (by rw [e] at hf; simp at hf; exact hf.1)
    refine ⟨!r || s, fun n hn => ?_⟩
    cases n with
    | zero => omega
    | succ n =>
      obtain ⟨k1, k2, k3, k4⟩ := h2 n (by omega)
      rw [spec_l21HoldsN, impl_leafTruthN, e, i0 x h0, i1 y h1, k2, k4]
      simp only [Option.bind_some, k1, k3]
      cases r <;> cases s <;> exact ⟨rfl, rfl⟩
  · obtain ⟨j, hj, h1, h2⟩ := leaf (by rw [e]; rfl)
    refine ⟨bitT m j, fun n hn => ?_⟩
    cases n with
    | zero => omega
    | succ n =>
      rw [spec_l21HoldsN, impl_leafTruthN, e, h2, Option.bind_some, shr_nat, Option.bind_some]
      exact ⟨h1, rfl⟩
  · obtain ⟨j, hj, h1, h2⟩ := leaf (by rw [e]; rfl)
    refine ⟨bitT m j, fun n hn => ?_⟩
    cases n with
    | zero => omega
    | succ n =>
      rw [spec_l21HoldsN, impl_leafTruthN, e, h2, Option.bind_some, shr_nat, Option.bind_some]
      exact ⟨h1, rfl⟩
  · simp [g1, g2, g3, g4, g5, g6, g7, g8, g9] at hf
/-! sequents under a mask -/
theorem truth_ok (ls : List Formula) (m : Int) (hls : ls.length ≤ 1000) (a : Formula) (hg : a.good = true) (hin : ∀ x ∈ a.lvs, x ∈ ls) : ∃ r : Bool, spec_l21Holds a ls m = some r ∧ impl_leafTruth a ls m = some r := by
  obtain ⟨r, h⟩ := truth_eq ls m hls a hg hin
  exact ⟨r, lim_eq ⟨_, fun n hn => (h n hn).1⟩, lim_eq ⟨_, fun n hn => (h n hn).2⟩⟩
theorem validS_good {s : Sequent} (h : validS s = true) : (∀ a ∈ s.Left ++ s.Right, a.good = true ∧ a.cnt ≤ 40) ∧ s.Left.length ≤ 10 ∧ s.Right.length ≤ 10 := by
  unfold validS at h
  simp only [Bool.and_eq_true, decide_eq_true_iff, List.all_eq_true] at h
  refine ⟨fun a ha => ?_, h.1.1, h.2.1⟩
  have : validF a = true := (List.mem_append.1 ha).elim (h.1.2 a) (h.2.2 a)
  unfold validF at this
  rw [Bool.and_eq_true, decide_eq_true_iff] at this
  exact ⟨this.2, this.1⟩
theorem seq_ok (ls : List Formula) (m : Int) (hls : ls.length ≤ 1000) (s : Sequent) (hg : ∀ a ∈ s.Left ++ s.Right, a.good = true) (hin : ∀ a ∈ s.Left ++ s.Right, ∀ x ∈ a.lvs, x ∈ ls) :
    ∃ r : Bool, spec_l21Sequent s ls m = some r ∧ impl_AreContradictory_2 s ls m = some (!r) := by
  obtain ⟨T, hT⟩ := mem_choice (fun a ha => truth_ok ls m hls a (hg a ha) (hin a ha))
  refine ⟨!(s.Left.all T) || s.Right.any T, ?_, ?_⟩
  · unfold spec_l21Sequent
    rw [forN_all (fun j => T (s.Left.getD j default)) (r0 := true) (fun j hj _ => ?_), range_all_list s.Left T, any_list s.Right (f := fun v => spec_l21Holds v ls m) (p := T) (fun x hx => (hT x (by simp [hx])).1)]
    · cases s.Left.all T <;> rfl
    · rw [idx_getD hj, Option.bind_some, (hT _ (List.mem_append.2 (.inl (getD_mem hj)))).1, Option.bind_some]
      cases T (s.Left.getD j default) <;> rfl
  · unfold impl_AreContradictory_2
    rw [contFm (p := fun x => !T x) s.Left (fun x hx => by unfold impl_AreContradictory_2_1; rw [(hT x (by simp [hx])).2]; rfl),
      contFm (p := T) s.Right (fun x hx => by unfold impl_AreContradictory_2_2; rw [(hT x (by simp [hx])).2]; rfl), List.all_eq_not_any_not]
    simp only [Option.bind_some]
    generalize s.Left.any (fun x => !T x) = a
    generalize s.Right.any T = b
    revert a b; decide
theorem contSq {p : Sequent → Bool} {f : Sequent → Option Bool} (l : List Sequent) (h : ∀ a ∈ l, f a = some (p a)) : slices_ContainsFunc_Simpl_Sequent_impl_Sequent l f = some (l.any p) := by
  unfold slices_ContainsFunc_Simpl_Sequent_impl_Sequent slices_IndexFunc_Simpl_Sequent_impl_Sequent
  exact find_list (p := p) l h
/-! gathering -/
theorem concat_ok (L R : List Formula) (h1 : L.length ≤ 10) (h2 : R.length ≤ 10) : slices_Concat_Simpl_Formula_impl_Formula [L, R] = some (L ++ R) := by
  unfold slices_Concat_Simpl_Formula_impl_Formula
  have w1 : IntKind.i64.wrap ((0 : Int) + (L.length : Int)) = (L.length : Int) := by rw [wrap64] <;> omega
  have w2 : IntKind.i64.wrap ((L.length : Int) + (R.length : Int)) = ((L.length + R.length : Nat) : Int) := by rw [wrap64] <;> omega
  have e1 : ∀ i : Nat, idx [L, R] (i : Int) = [L, R][i]? := fun i => idx_nat _ i
  have g : ∀ n : Nat, n ≤ 20 → slices_Grow_Simpl_Formula_impl_Formula_nil0 (n : Int) = some [] := by
    intro n hn
    unfold slices_Grow_Simpl_Formula_impl_Formula_nil0
    rw [decide_eq_false (by omega), cond_false]
    have : IntKind.i64.wrap ((n : Int) - IntKind.i64.wrap ((0 : Int) - (([] : List Nat).length : Int))) = (n : Int) := by
      rw [show (0 : Int) - (([] : List Nat).length : Int) = 0 from rfl, wrap64 (n := 0) (by omega) (by omega), wrap64] <;> omega
    rw [this]
    by_cases h : 0 < (n : Int)
    · rw [decide_eq_true h, cond_true]
      have : appz (n : Int) = some n := by unfold appz; rw [if_pos (by omega)]; rfl
      rw [this, Option.bind_some]
      unfold slc
      rw [if_pos ⟨by omega, by simp, by simp⟩]; rfl
    · rw [decide_eq_false h]; rfl
  have a1 : app ([] : List Formula) L = some L := by unfold app; rw [if_pos (by simp only [List.length_nil]; omega)]; rfl
  have a2 : app L R = some (L ++ R) := by unfold app; rw [if_pos (by omega)]
  have f1 : forN (fun (i3 : Nat) (s3 : Int) => Option.bind (idx [L, R] (i3 : Int)) fun v13 => bif decide ((IntKind.i64.wrap (s3 + (v13.length : Int))) < (0 : Int)) then (none : Option (Flow (List Formula) Int)) else some (.nx (IntKind.i64.wrap (s3 + (v13.length : Int))))) [L, R].length 0 (0 : Int) = some (.inr ((L.length + R.length : Nat) : Int)) := by
    rw [show [L, R].length = 1 + 1 from rfl, forN_nx (s' := (L.length : Int)) (by rw [e1]; simp only [List.getElem?_cons_zero, Option.bind_some, w1]; rw [decide_eq_false (by omega)]; rfl),
      forN_nx (n := 0) (s' := ((L.length + R.length : Nat) : Int)) (by rw [e1]; simp only [List.getElem?_cons_zero, List.getElem?_cons_succ, Option.bind_some, w2]; rw [decide_eq_false (by omega)]; rfl)]
    rfl
  have f2 : forN (ρ := List Formula) (fun (i11 : Nat) (s11 : (List Formula)) => Option.bind (idx [L, R] (i11 : Int)) fun v29 => Option.bind (app s11 v29) fun v33 => some (.nx v33)) [L, R].length 0 [] = some (.inr (L ++ R)) := by
    rw [show [L, R].length = 1 + 1 from rfl, forN_nx (s' := L) (by rw [e1]; simp only [List.getElem?_cons_zero, Option.bind_some, a1]),
      forN_nx (n := 0) (s' := L ++ R) (by rw [e1]; simp only [List.getElem?_cons_zero, List.getElem?_cons_succ, Option.bind_some, a2])]
    rfl
  rw [f1, thenL_inr, g _ (by omega), Option.bind_some, f2]; rfl
theorem while_list {ρ : Type} (f : List Formula → Formula → Option (List Formula)) (L : List Formula) (acc v : List Formula) (hb : L.length ≤ 1000)
    (h : forL (ρ := ρ) (fun _ x s => (f s x).bind fun w => some (.nx w)) L 0 acc = some (.inr v)) :
    lim (fun n => whileN (ρ := ρ) (fun (s : List Formula × Int) => bif decide (s.2 < (L.length : Int)) then Option.bind (idx L s.2) fun v44 => Option.bind (f s.1 v44) fun v46 => some (.nx (v46, IntKind.i64.wrap (s.2 + (1 : Int)))) else some (.br s)) n (acc, (0 : Int))) = some (.inr (v, (L.length : Int))) := by
  have hg := forN_idx (ρ := ρ) L (fun _ x s => (f s x).bind fun w => some (.nx w)) acc
  rw [h] at hg
  refine lim_eq ?_
  refine while_for (g := fun i s => (idx L (i : Int)).bind fun x => (f s x).bind fun w => some (.nx w)) (N := L.length) (fun i s hi => ?_) (fun s => ?_) L.length 0 acc (.inr v) (by omega) hg (fun j s s' _ hj => ?_)
  · simp only
    rw [decide_eq_true (by omega), cond_true, idx_getD hi, Option.bind_some, Option.bind_some]
    cases f s (L.getD i default) with
    | none => rfl
    | some w => simp only [Option.bind_some]; rw [wrap64 (by omega) (by omega)]; rfl
  · simp only; rw [decide_eq_false (by omega)]; rfl
  · rw [idx_getD hj, Option.bind_some]
    cases f s (L.getD j default) with
    | none => simp
    | some w => simp
theorem into_list (l : List Formula) (acc : List Formula) (hc : ∀ a ∈ l, a.cnt ≤ 40) (hb : acc.length + 40 * l.length ≤ 100000) : ∃ v, (∀ ρ, forL (ρ := ρ) (fun _ x s => (spec_l21Into s x).bind fun w => some (.nx w)) l 0 acc = some (.inr v) ∧ forL (ρ := ρ) (fun _ x s => (impl_leaves s x).bind fun w => some (.nx w)) l 0 acc = some (.inr v)) ∧
    (∀ x, x ∈ v ↔ x ∈ acc ∨ x ∈ Formula.lvss l) ∧ v.length ≤ acc.length + 40 * l.length := by
  have hs : Formula.cnts l ≤ 40 * l.length := by
    clear hb
    induction l with
    | nil => simp [Formula.cnts]
    | cons a l ih => have := hc a (by simp); have := ih (fun b hb => hc b (by simp [hb])); simp only [Formula.cnts, List.length_cons]; omega
  obtain ⟨v, h1, h2, h3⟩ := vf_loop (fun _ s x => spec_l21Into s x) (fun _ s x => impl_leaves s x) 0 l 0 acc (fun a ha acc h => by
    obtain ⟨v, k1, k2⟩ := into_eq a acc h
    exact ⟨v, fun n _ => ⟨lim_eq ⟨_, fun n hn => (k1 n hn).1⟩, lim_eq ⟨_, fun n hn => (k1 n hn).2⟩⟩, k2⟩) (by omega)
  exact ⟨v, fun ρ => h1 0 (Nat.le_refl _) ρ, h2, by omega⟩
theorem forL_app {α ρ σ : Type} {g : Nat → α → σ → Option (Flow ρ σ)} (hg : ∀ i j x s, g i x s = g j x s) : ∀ (xs ys : List α) (i j : Nat) (s s' : σ), forL g xs i s = some (.inr s') → (∀ x s s', x ∈ xs → g 0 x s ≠ some (.br s')) → forL g (xs ++ ys) i s = forL g ys j s'
  | [], ys, i, j, s, s', h, _ => by
    simp only [forL, Option.some.injEq, Sum.inr.injEq] at h
    subst h
    rw [List.nil_append]
    exact forL_shift hg ys i j s
  | x :: xs, ys, i, j, s, s', h, hb => by
    rw [List.cons_append]
    cases e : g i x s with
    | none => simp [forL, e] at h
    | some v =>
      cases v with
      | nx t => rw [forL_nx e] at h ⊢; exact forL_app hg xs ys (i + 1) j t s' h (fun y s s' hy => hb y s s' (by simp [hy]))
      | br t => exact absurd (by rw [← e]; exact hg 0 i x s) (hb x s t (by simp))
      | rt r => rw [forL_rt e] at h; simp at h
where forL_shift {α ρ σ : Type} {g : Nat → α → σ → Option (Flow ρ σ)} (hg : ∀ i j x s, g i x s = g j x s) : ∀ (ys : List α) (i j : Nat) (s : σ), forL g ys i s = forL g ys j s
  | [], _, _, _ => rfl
  | y :: ys, i, j, s => by
    simp only [forL]
    rw [hg i j y s]
    cases g j y s with
    | none => rfl
    | some v => cases v <;> simp only [Option.bind_some] <;> first | rfl | exact forL_shift hg ys (i + 1) (j + 1) _
noncomputable def specB (_ : Nat) (x : Sequent) (s5 : List Formula) : Option (Flow (Bool × Bool) (List Formula)) :=
  Option.bind (spec_l18Good x) fun v25 =>
  bif v25 then
    thenL (ρ := (Flow (Bool × Bool) (List Formula))) (σ := (List Formula) × Int) (lim fun n10 => whileN (fun (s10 : (List Formula) × Int) =>
      bif decide (s10.2 < (x.Left.length : Int)) then
        Option.bind (idx x.Left s10.2) fun v44 =>
        Option.bind (spec_l21Into s10.1 v44) fun v46 =>
        some (.nx (v46, IntKind.i64.wrap (s10.2 + (1 : Int))))
      else
        some (.br s10)) n10 (s5, (0 : Int))) fun s10 =>
    thenL (ρ := (Flow (Bool × Bool) (List Formula))) (σ := (List Formula) × Int) (lim fun n14 => whileN (fun (s14 : (List Formula) × Int) =>
      bif decide (s14.2 < (x.Right.length : Int)) then
        Option.bind (idx x.Right s14.2) fun v64 =>
        Option.bind (spec_l21Into s14.1 v64) fun v66 =>
        some (.nx (v66, IntKind.i64.wrap (s14.2 + (1 : Int))))
      else
        some (.br s14)) n14 (s10.1, (0 : Int))) fun s14 =>
    some (.nx s14.1)
  else
    some (.rt (false, false))
noncomputable def implB (_ : Nat) (x : Sequent) (s5 : List Formula) : Option (Flow (Bool × Bool) (List Formula)) :=
  Option.bind (slices_Concat_Simpl_Formula_impl_Formula ([x.Left, x.Right])) fun v29 =>
  thenL (ρ := (Flow (Bool × Bool) (List Formula))) (σ := (List Formula)) (forN (fun (i8 : Nat) (s8 : (List Formula)) =>
    Option.bind (idx v29 (i8 : Int)) fun v33 =>
    Option.bind (idx v29 (i8 : Int)) fun v34 =>
    Option.bind (impl_leaves s8 v34) fun v37 =>
    some (.nx v37)) v29.length 0 s5) fun s8 =>
  some (.nx s8)
theorem step_ok (i j : Nat) (x : Sequent) (hok : x.Ok) (ht : x.tot ≤ 1048576) (hv : validS x = true) (acc : List Formula) (hb : acc.length + 800 ≤ 100000) :
    ∃ v, specB i x acc = some (.nx v) ∧ implB j x acc = some (.nx v) ∧ (∀ y, y ∈ v ↔ y ∈ acc ∨ y ∈ Formula.lvss (x.Left ++ x.Right)) ∧ v.length ≤ acc.length + 800 := by
  obtain ⟨hg, hL, hR⟩ := validS_good hv
  have hlen : (x.Left ++ x.Right).length ≤ 20 := by rw [List.length_append]; omega
  obtain ⟨v, h1, h2, h3⟩ := into_list (x.Left ++ x.Right) acc (fun a ha => (hg a ha).2) (by omega)
  obtain ⟨v1, k1, _, k3⟩ := into_list x.Left acc (fun a ha => (hg a (by simp [ha])).2) (by omega)
  obtain ⟨v2, m1, _, _⟩ := into_list x.Right v1 (fun a ha => (hg a (by simp [ha])).2) (by omega)
  have hnb : ∀ (y : Formula) (s s' : List Formula), y ∈ x.Left → (fun (_ : Nat) (x : Formula) (s : List Formula) => (spec_l21Into s x).bind fun w => some (Flow.nx (ρ := Flow (Bool × Bool) (List Formula)) w)) 0 y s ≠ some (.br s') := fun y s s' _ => by
    simp only
    cases spec_l21Into s y <;> simp
  have e := forL_app (g := fun (_ : Nat) (x : Formula) (s : List Formula) => (spec_l21Into s x).bind fun w => some (Flow.nx (ρ := Flow (Bool × Bool) (List Formula)) w)) (fun _ _ _ _ => rfl) x.Left x.Right 0 0 acc v1 (k1 _).1 hnb
  rw [(h1 _).1, (m1 _).1] at e
  have e : v = v2 := by simpa using e
  subst e
  refine ⟨v, ?_, ?_, h2, by omega⟩
  · unfold specB
    rw [validS_spec x hok ht, hv, Option.bind_some, cond_true, while_list spec_l21Into x.Left acc v1 (by omega) (k1 _).1, thenL_inr]
    simp only
    rw [while_list spec_l21Into x.Right v1 v (by omega) (m1 _).1, thenL_inr]
  · unfold implB
    rw [concat_ok _ _ hL hR, Option.bind_some]
    have hg := forN_forL (fun (i8 : Nat) (s8 : (List Formula)) => Option.bind (idx (x.Left ++ x.Right) (i8 : Int)) fun v33 => Option.bind (idx (x.Left ++ x.Right) (i8 : Int)) fun v34 => Option.bind (impl_leaves s8 v34) fun v37 => some (Flow.nx (ρ := Flow (Bool × Bool) (List Formula)) v37)) (fun _ x s => (impl_leaves s x).bind fun w => some (.nx w)) (x.Left ++ x.Right) 0 acc (fun j y s hy => by
      simp only [Nat.zero_add, idx_nat, hy, Option.bind_some])
    rw [hg, (h1 _).2]; rfl
theorem gather : ∀ (l : List Sequent) (i j : Nat) (acc : List Formula), (∀ s ∈ l, s.Ok ∧ s.tot ≤ 1048576) → acc.length + 800 * l.length ≤ 90000 →
    (l.all validS = false → forL specB l i acc = some (.inl (false, false))) ∧
    (l.all validS = true → ∃ v, forL specB l i acc = some (.inr v) ∧ forL implB l j acc = some (.inr v) ∧ ∀ y, y ∈ v ↔ y ∈ acc ∨ ∃ s ∈ l, y ∈ Formula.lvss (s.Left ++ s.Right))
  | [], i, j, acc, _, _ => ⟨fun h => by simp at h, fun _ => ⟨acc, rfl, rfl, fun y => by simp⟩⟩
  | x :: l, i, j, acc, h, hb => by
    simp only [List.length_cons] at hb
    obtain ⟨hok, ht⟩ := h x (by simp)
    rw [List.all_cons]
    cases hv : validS x
    · refine ⟨fun _ => ?_, fun e => by simp at e⟩
      exact forL_rt (by unfold specB; rw [validS_spec x hok ht, hv]; rfl)
    · obtain ⟨v, h1, h2, h3, h4⟩ := step_ok i j x hok ht hv acc (by omega)
      rw [Bool.true_and, forL_nx h1, forL_nx h2]
      obtain ⟨g1, g2⟩ := gather l (i + 1) (j + 1) v (fun s hs => h s (by simp [hs])) (by omega)
      refine ⟨g1, fun e => ?_⟩
      obtain ⟨w, k1, k2, k3⟩ := g2 e
      refine ⟨w, k1, k2, fun y => ?_⟩
      rw [k3, h3]
      simp only [List.mem_cons, exists_eq_or_imp, or_assoc]
theorem while_int {ρ : Type} {f : Int → Option (Flow ρ Int)} {N : Nat} (c : Nat → Bool) (r0 : ρ) (hlt : ∀ i : Nat, i < N → f (i : Int) = some (bif c i then .nx ((i + 1 : Nat) : Int) else .rt r0)) (hge : f (N : Int) = some (.br (N : Int))) :
    ∀ n i : Nat, i + n = N → (∀ j, j < i → c j = true) → Ev (fun m => whileN f m (i : Int)) (bif (List.range N).all c then .inr (N : Int) else .inl r0)
  | 0, i, hi, hc => by
    have : i = N := by omega
    subst this
    have : (List.range i).all c = true := List.all_eq_true.2 (fun x hx => hc x (by simpa using hx))
    rw [this]
    exact ev_br hge
  | n + 1, i, hi, hc => by
    cases e : c i
    · have : (List.range N).all c = false := List.all_eq_false.2 ⟨i, by simp; omega, by rw [e]; simp⟩
      rw [this]
      exact ev_rt (by rw [hlt i (by omega), e]; rfl)
    · refine ev_nx (by rw [hlt i (by omega), e]; rfl) (while_int c r0 hlt hge n (i + 1) (by omega) (fun j hj => ?_))
      by_cases g : j = i
      · rw [g]; exact e
      · exact hc j (by omega)
theorem inner_ok (T : Sequent → Bool) (q : Flow (Bool × Bool) Int) : ∀ (l : List Sequent) (i : Nat) (b : Bool), thenL (ρ := Flow (Bool × Bool) Int) (σ := Bool) (forL (fun _ x s => bif s then some (.nx (T x)) else some (.rt q)) l i b) (fun s => bif s then some (.rt (false, true)) else some q) = some (bif b && l.all T then .rt (false, true) else q)
  | [], i, b => by rw [forL_nil, thenL_inr]; cases b <;> rfl
  | x :: l, i, b => by
    cases b
    · rw [forL_rt (r := q) rfl, thenL_inl]; rfl
    · rw [forL_nx (s' := T x) rfl, inner_ok T q l (i + 1) (T x)]; rfl
theorem shl_pow {k : Nat} (h : k ≤ 12) : shl .i64 1 (k : Int) = some ((2 ^ k : Nat) : Int) := by
  have h2 : 2 ^ k ≤ 2 ^ 12 := Nat.pow_le_pow_right (by omega) h
  have key : ∀ m : Nat, m ≤ 2 ^ 12 → IntKind.i64.wrap (m : Int) = m := fun m hm => wrap64 (by omega) (by omega)
  unfold shl
  rw [if_pos (by omega), show min (k : Int).toNat IntKind.i64.bits = k from by rw [Int.toNat_natCast, show IntKind.i64.bits = 64 from rfl]; omega, Int.one_mul, show (2 : Int) ^ k = ((2 ^ k : Nat) : Int) from by simp, key _ h2]
theorem con_both (a0 : List Sequent) (hok : LOk Sequent.Ok a0) (ht : ltot Sequent.tot a0 ≤ 1048576) : ∃ r, spec_AreContradictory a0 = some r ∧ impl_AreContradictory a0 = some r := by
  have hs : ∀ s ∈ a0, s.Ok ∧ s.tot ≤ 1048576 := fun s h => ⟨hok.2 s h, by have := ltot_mem (t := Sequent.tot) h; omega⟩
  unfold spec_AreContradictory impl_AreContradictory
  by_cases h60 : (60 : Int) < (a0.length : Int)
  · rw [decide_eq_true h60]; exact ⟨_, rfl, rfl⟩
  rw [decide_eq_false h60, cond_false, cond_false, contSq (p := fun s => !validS s) a0 (fun s hs' => by unfold impl_AreContradictory_1; rw [validS_impl s (hs s hs').1 (hs s hs').2]; rfl), Option.bind_some]
  obtain ⟨g1, g2⟩ := gather a0 0 0 [] hs (by simp only [List.length_nil]; omega)
  have e1 := fun f => forN_forL (ρ := Bool × Bool) (σ := List Formula) f specB a0 0 []
  have e2 := fun f => forN_forL (ρ := Bool × Bool) (σ := List Formula) f implB a0 0 []
  rw [e1 _ (fun j x s hx => by simp only [Nat.zero_add, idx_nat, hx, Option.bind_some]; rfl), e2 _ (fun j x s hx => by simp only [Nat.zero_add, idx_nat, hx, Option.bind_some]; rfl)]
  rw [show a0.any (fun s => !validS s) = !a0.all validS from by rw [List.all_eq_not_any_not, Bool.not_not]]
  cases hv : a0.all validS
  · rw [g1 hv, thenL_inl]; exact ⟨_, rfl, rfl⟩
  obtain ⟨v, k1, k2, k3⟩ := g2 hv
  rw [k1, k2, thenL_inr, thenL_inr]
  simp only [Bool.not_true, cond_false]
  by_cases h12 : (12 : Int) < (v.length : Int)
  · rw [decide_eq_true h12]; exact ⟨_, rfl, rfl⟩
  rw [decide_eq_false h12, cond_false, cond_false, u64_nat (by omega), shl_pow (by omega), Option.bind_some, bnd_nat (by have : 2 ^ v.length ≤ 2 ^ 12 := Nat.pow_le_pow_right (by omega) (by omega); unfold Big; omega), Option.bind_some]
  have hseq : ∀ i : Nat, ∃ T : Sequent → Bool, ∀ s ∈ a0, spec_l21Sequent s v (i : Int) = some (T s) ∧ impl_AreContradictory_2 s v (i : Int) = some (!T s) := fun i => mem_choice (fun s hs' => by
    rw [List.all_eq_true] at hv
    refine seq_ok v i (by omega) s (fun a ha => ((validS_good (hv s hs')).1 a ha).1) (fun a ha x hx => (k3 x).2 (.inr ⟨s, hs', lvss_mem ha hx⟩)))
  obtain ⟨T, hT⟩ := Classical.axiomOfChoice hseq
  refine ⟨bif (List.range (2 ^ v.length)).all (fun i => !a0.all (T i)) then (true, true) else (false, true), ?_, ?_⟩
  · have hN : 2 ^ v.length ≤ 2 ^ 12 := Nat.pow_le_pow_right (by omega) (by omega)
    rw [show (0 : Int) = ((0 : Nat) : Int) from rfl, lim_eq (while_int (N := 2 ^ v.length) (fun i => !a0.all (T i)) (false, true) (fun i hi => ?_) ?_ (2 ^ v.length) 0 (by omega) (fun j hj => by omega))]
    · cases (List.range (2 ^ v.length)).all (fun i => !a0.all (T i)) <;> rfl
    · simp only [Option.bind_some]
      rw [decide_eq_false (by omega)]; rfl
    · simp only [Option.bind_some]
      rw [decide_eq_true (by omega), cond_true, forN_forL _ (fun _ x s => bif s then some (.nx (T i x)) else some (.rt (.nx (IntKind.i64.wrap ((i : Int) + 1))))) a0 0 true (fun j x s hx => ?_), inner_ok, wrap64 (by omega) (by omega)]
      · cases a0.all (T i) <;> rfl
      · simp only [Nat.zero_add, idx_nat, hx, Option.bind_some, (hT i x (List.mem_of_getElem? hx)).1]
  · rw [forN_all (fun i => !a0.all (T i)) (r0 := (false, true)) (fun i hi _ => ?_)]
    · cases (List.range (2 ^ v.length)).all (fun i => !a0.all (T i)) <;> rfl
    · rw [contSq (p := fun s => !T i s) a0 (fun s hs' => (hT i s hs').2), Option.bind_some, show a0.any (fun s => !T i s) = !a0.all (T i) from by rw [List.all_eq_not_any_not, Bool.not_not]]
      cases a0.all (T i) <;> rfl
end Go.Proofs.Ytdmkceajaagpgaa
