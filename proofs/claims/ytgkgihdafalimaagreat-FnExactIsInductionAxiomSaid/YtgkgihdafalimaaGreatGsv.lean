/- A part of the proof: lemmas only; nothing is claimed here beyond what each lemma says. -/
import Derived.Test.YtgkgihdafalimaaGreatGsu
set_option linter.unusedSimpArgs false
set_option linter.unusedVariables false
set_option linter.defProp false
set_option maxRecDepth 4000
namespace Go.Proofs.YtgkgihdafalimaaGreat
open Go.Av
/-! ### sizes -/
theorem Term.Ok_of (t : Term) : t.tot ≤ 1048576 → t.Ok := by
  refine Term.ind' (M := fun t => t.tot ≤ 1048576 → t.Ok) (fun t ih h => ?_) t
  have hu := t.tot_u
  have hl := ltot_len Term.tot t.Args
  have := Term.Ok.mk t.Name t.Args (by simp only [Big]; omega) (by simp only [Big]; omega) (fun a ha => ih a ha (by have := tot_mem Term.tot ha; omega))
  rwa [t.eta] at this
mutual
def Term.tiny : Term → Bool
  | .mk x l => decide (x.size ≤ 6) && Term.tinys l
def Term.tinys : List Term → Bool
  | [] => true
  | a :: l => a.tiny && Term.tinys l
end
theorem Term.tinys_eq (l : List Term) : Term.tinys l = l.all Term.tiny := by
  induction l with
  | nil => rfl
  | cons a l ih => rw [Term.tinys, ih]; rfl
theorem Term.tiny_u (t : Term) : t.tiny = (decide (t.Name.size ≤ 6) && t.Args.all Term.tiny) := by cases t; rw [Term.tiny, Term.tinys_eq]; rfl
theorem tiny_tots : ∀ l : List Term, (∀ a ∈ l, a.tot + 1 ≤ 7 * a.cnt) → ltot Term.tot l ≤ 7 * Term.cnts l
  | [], _ => by simp [ltot]
  | a :: l, h => by
    have h1 := h a (by simp)
    have h2 := tiny_tots l (fun x hx => h x (by simp [hx]))
    simp only [ltot, List.length_cons, List.map_cons, List.sum_cons, Term.cnts] at *
    omega
theorem tiny_tot (t : Term) : t.tiny = true → t.tot + 1 ≤ 7 * t.cnt := by
  refine Term.ind' (M := fun t => t.tiny = true → t.tot + 1 ≤ 7 * t.cnt) (fun t ih h => ?_) t
  rw [Term.tiny_u, Bool.and_eq_true, decide_eq_true_iff, List.all_eq_true] at h
  have h1 := tiny_tots t.Args (fun a ha => ih a ha (h.2 a ha))
  rw [t.tot_u, t.cnt_u]; omega
theorem var_size {s : ByteArray} (h : isVarS s = true) : s.size ≤ 4 := by
  unfold isVarS at h
  rw [Bool.and_eq_true] at h
  have := inR_iff.1 h.1; omega
theorem sym_size {s : ByteArray} (h : isSymS s = true) : s.size ≤ 6 := by
  unfold isSymS at h
  rw [Bool.and_eq_true, Bool.and_eq_true] at h
  have := inR_iff.1 h.1.1; omega
theorem good_tiny (t : Term) : t.good = true → t.tiny = true := by
  refine Term.ind' (M := fun t => t.good = true → t.tiny = true) (fun t ih h => ?_) t
  rw [Term.tiny_u, Bool.and_eq_true, decide_eq_true_iff, List.all_eq_true]
  rcases nameCase h with ⟨h1, h2⟩ | ⟨_, h1, _, hall⟩
  · exact ⟨by have := var_size h1; omega, by rw [h2]; simp⟩
  · exact ⟨sym_size h1, fun a ha => ih a ha (hall a ha)⟩
theorem atom_tiny {a : Term} (h : atomT a = true) : a.tiny = true := by
  have hall := (atomT_ok h).hall
  rw [Term.tiny_u, Bool.and_eq_true, decide_eq_true_iff, List.all_eq_true]
  refine ⟨?_, fun x hx => good_tiny x (hall x hx)⟩
  unfold atomT at h
  by_cases e : a.Name = (⟨#[61]⟩ : ByteArray)
  · rw [e]; exact Nat.le_of_ble_eq_true rfl
  · rw [decide_eq_false e, cond_false, Bool.and_eq_true] at h
    exact sym_size h.1
theorem sb_tiny {n : ByteArray} {t : Term} (ht : t.tiny = true) (a : Term) : a.tiny = true → (sbT n t a).tiny = true := by
  refine Term.ind' (M := fun a => a.tiny = true → (sbT n t a).tiny = true) (fun a ih h => ?_) a
  rw [Term.tiny_u, Bool.and_eq_true, List.all_eq_true] at h
  rw [sbT_u]
  cases (a.Args.isEmpty && decide (a.Name = n))
  · rw [cond_false, Term.tiny_u, Bool.and_eq_true, List.all_eq_true]
    refine ⟨h.1, fun x hx => ?_⟩
    obtain ⟨y, hy, rfl⟩ := List.mem_map.1 hx
    exact ih y hy (h.2 y hy)
  · exact ht
theorem sb_cnts {n : ByteArray} {t : Term} : ∀ l : List Term, (∀ a ∈ l, (sbT n t a).cnt ≤ a.cnt * t.cnt) → Term.cnts (l.map (sbT n t)) ≤ Term.cnts l * t.cnt
  | [], _ => by simp [Term.cnts]
  | a :: l, h => by
    have h1 := h a (by simp)
    have h2 := sb_cnts l (fun x hx => h x (by simp [hx]))
    simp only [List.map_cons, Term.cnts, Nat.add_mul]; omega
theorem sb_cnt {n : ByteArray} {t : Term} (a : Term) : (sbT n t a).cnt ≤ a.cnt * t.cnt := by
  refine Term.ind' (M := fun a => (sbT n t a).cnt ≤ a.cnt * t.cnt) (fun a ih => ?_) a
  have hp := t.cnt_pos
  have h1 := sb_cnts a.Args ih
  rw [sbT_u, a.cnt_u, Nat.add_mul, Nat.one_mul]
  cases (a.Args.isEmpty && decide (a.Name = n))
  · rw [cond_false, Term.cnt_u]; show 1 + Term.cnts (a.Args.map _) ≤ _; omega
  · rw [cond_true]; omega
theorem sb_atom_tot {n : ByteArray} {t a : Term} (hg : t.good = true) (hc : t.cnt ≤ 30) (ha : atomT a = true) : (sbT n t a).tot ≤ 6300 := by
  have h1 := tiny_tot _ (sb_tiny (n := n) (good_tiny t hg) a (atom_tiny ha))
  have h2 := sb_cnt (n := n) (t := t) a
  have h3 := (atomT_ok ha).cnt
  have h4 : a.cnt * t.cnt ≤ 30 * 30 := Nat.mul_le_mul h3 hc
  omega
/-! ### the substitution -/
def Formula.keep (n : ByteArray) (f : Formula) : Bool := isQ f.Op && (decide (f.Var = n) || !f.fv n)
mutual
def Formula.sub (n : ByteArray) (t : Term) : Formula → Formula
  | .mk o a v ps => bif (Formula.mk o a v ps).keep n then .mk o a v ps else bif decide (o = 3) then .mk o (sbT n t a) v [] else .mk o a v (Formula.subs n t ps)
def Formula.subs (n : ByteArray) (t : Term) : List Formula → List Formula
  | [] => []
  | a :: l => a.sub n t :: Formula.subs n t l
end
mutual
def Formula.cf (n : ByteArray) (t : Term) : Formula → Bool
  | .mk o a v ps => bif (Formula.mk o a v ps).keep n then true else bif decide (o = 3) then true else !(isQ o && hasV v t.vars) && Formula.cfs n t ps
def Formula.cfs (n : ByteArray) (t : Term) : List Formula → Bool
  | [] => true
  | a :: l => a.cf n t && Formula.cfs n t l
end
mutual
def Formula.sok (n : ByteArray) (t : Term) : Formula → Bool
  | .mk o a v ps => bif (Formula.mk o a v ps).keep n then true else bif decide (o = 3) then atomT (sbT n t a) else !(isQ o && hasV v t.vars) && Formula.soks n t ps
def Formula.soks (n : ByteArray) (t : Term) : List Formula → Bool
  | [] => true
  | a :: l => a.sok n t && Formula.soks n t l
end
theorem Formula.subs_eq (n : ByteArray) (t : Term) (l : List Formula) : Formula.subs n t l = l.map (Formula.sub n t) := by
  induction l with
  | nil => rfl
  | cons a l ih => rw [Formula.subs, ih]; rfl
theorem Formula.cfs_eq (n : ByteArray) (t : Term) (l : List Formula) : Formula.cfs n t l = l.all (Formula.cf n t) := by
  induction l with
  | nil => rfl
  | cons a l ih => rw [Formula.cfs, ih]; rfl
theorem Formula.soks_eq (n : ByteArray) (t : Term) (l : List Formula) : Formula.soks n t l = l.all (Formula.sok n t) := by
  induction l with
  | nil => rfl
  | cons a l ih => rw [Formula.soks, ih]; rfl
theorem Formula.sub_u (n : ByteArray) (t : Term) (f : Formula) : f.sub n t = bif f.keep n then f else bif decide (f.Op = 3) then .mk f.Op (sbT n t f.Atom) f.Var [] else .mk f.Op f.Atom f.Var (f.Parts.map (Formula.sub n t)) := by cases f; rw [Formula.sub, Formula.subs_eq]; rfl
theorem Formula.cf_u (n : ByteArray) (t : Term) (f : Formula) : f.cf n t = bif f.keep n then true else bif decide (f.Op = 3) then true else !(isQ f.Op && hasV f.Var t.vars) && f.Parts.all (Formula.cf n t) := by cases f; rw [Formula.cf, Formula.cfs_eq]; rfl
theorem Formula.sok_u (n : ByteArray) (t : Term) (f : Formula) : f.sok n t = bif f.keep n then true else bif decide (f.Op = 3) then atomT (sbT n t f.Atom) else !(isQ f.Op && hasV f.Var t.vars) && f.Parts.all (Formula.sok n t) := by cases f; rw [Formula.sok, Formula.soks_eq]; rfl
theorem sok_cf {n : ByteArray} {t : Term} (f : Formula) : f.sok n t = true → f.cf n t = true := by
  refine Formula.ind' (M := fun f => f.sok n t = true → f.cf n t = true) (fun f ih h => ?_) f
  rw [Formula.sok_u] at h
  rw [Formula.cf_u]
  cases hk : f.keep n
  · rw [hk] at h
    rw [cond_false] at h ⊢
    cases e3 : decide (f.Op = 3)
    · rw [e3] at h
      simp only [cond_false, Bool.and_eq_true, List.all_eq_true] at h ⊢
      exact ⟨h.1, fun p hp => ih p hp (h.2 p hp)⟩
    · rfl
  · rfl
/-! ### the program's side -/
theorem fh_loop {ρ : Type} {n : ByteArray} {t : Term} (F : Nat → Formula → Bool → Option (Formula × Bool)) (N : Nat) : ∀ (l : List Formula) (i : Nat) (b : Bool) (acc : List Formula),
    (∀ p ∈ l, ∃ r : Formula × Bool, (∀ m, N ≤ m → ∀ b, F m p b = some (r.1, b && r.2)) ∧ r.2 = p.cf n t ∧ (r.2 = true → r.1 = p.sub n t)) → acc.length + l.length ≤ 1000000 →
    ∃ q : List Formula, (∀ m, N ≤ m → forL (ρ := ρ) (fun _ x (s : Bool × List Formula) => (F m x s.1).bind fun v => (app s.2 [v.1]).bind fun w => some (.nx (v.2, w))) l i (b, acc) = some (.inr (b && l.all (Formula.cf n t), acc ++ q))) ∧ q.length = l.length ∧ (l.all (Formula.cf n t) = true → q = l.map (Formula.sub n t))
  | [], i, b, acc, _, _ => ⟨[], fun m _ => by simp [forL], rfl, fun _ => rfl⟩
  | p :: l, i, b, acc, h, hb => by
    simp only [List.length_cons] at hb
    obtain ⟨r, h1, h2, h3⟩ := h p (by simp)
    obtain ⟨q, g1, g2, g3⟩ := fh_loop (ρ := ρ) F N l (i + 1) (b && r.2) (acc ++ [r.1]) (fun x hx => h x (by simp [hx])) (by simp; omega)
    refine ⟨r.1 :: q, fun m hm => ?_, by simp [g2], fun hall => ?_⟩
    · rw [forL_nx (s' := (b && r.2, acc ++ [r.1])) (by rw [h1 m hm, Option.bind_some]; unfold app; rw [if_pos (by simp only [List.length_cons, List.length_nil]; omega)]; rfl), g1 m hm, List.all_cons, h2]
      simp [Bool.and_assoc]
    · rw [List.all_cons, Bool.and_eq_true] at hall
      rw [List.map_cons, h3 (h2.trans hall.1), g3 hall.2]
theorem mapFh {n : ByteArray} {t : Term} {f : Formula} (hf : f.tot ≤ 1048576) (hl : f.Parts.length ≤ 1000) (F : Nat → Formula → Bool → Option (Formula × Bool)) (N : Nat)
    (h : ∀ p ∈ f.Parts, ∃ r : Formula × Bool, (∀ m, N ≤ m → ∀ b, F m p b = some (r.1, b && r.2)) ∧ r.2 = p.cf n t ∧ (r.2 = true → r.1 = p.sub n t)) :
    ∃ q : List Formula, (∀ m, N ≤ m → impl_mapParts_fh1Bool f (F m) true = some (⟨f.Op, f.Atom, f.Var, q⟩, f.Parts.all (Formula.cf n t))) ∧ q.length = f.Parts.length ∧ (f.Parts.all (Formula.cf n t) = true → q = f.Parts.map (Formula.sub n t)) := by
  obtain ⟨q, g1, g2, g3⟩ := fh_loop (ρ := Formula × Bool) F N f.Parts 0 true [] h (by simp; omega)
  refine ⟨q, fun m hm => ?_, g2, g3⟩
  unfold impl_mapParts_fh1Bool
  rw [copyT _ (cnt_of_tot (by have := f.tot_atom; omega)), Option.bind_some]
  simp only [forN_idx]
  rw [g1 m hm, thenL_inr]
  simp
theorem Contains_hasV (l : List ByteArray) (x : ByteArray) : slices_Contains_Sstring_string l x = some (hasV x l) := Contains_str l x
theorem impl_sub_eq {n : ByteArray} {t : Term} (hn : isVarS n = true) (hg : t.good = true) (hct : t.cnt ≤ 1000) (f : Formula) : f.good = true → f.tot ≤ 1048576 → f.cnt ≤ 10000 →
    ∃ r : Formula × Bool, (∀ m, 4 * SizeOf.sizeOf f ≤ m → impl_substitutedN m f n t = some r) ∧ r.2 = f.cf n t ∧ (r.2 = true → r.1 = f.sub n t) := by
  refine Formula.ind' (M := fun f => f.good = true → f.tot ≤ 1048576 → f.cnt ≤ 10000 →
    ∃ r : Formula × Bool, (∀ m, 4 * SizeOf.sizeOf f ≤ m → impl_substitutedN m f n t = some r) ∧ r.2 = f.cf n t ∧ (r.2 = true → r.1 = f.sub n t)) (fun f ih hgf ht hc => ?_) f
  have hp := f.pos
  have hu := fcnt_u f
  have hpl := fcnts_len f.Parts
  obtain ⟨hform, hparts⟩ := good_split hgf
  obtain ⟨q, q1, q2, q3⟩ := mapFh (n := n) (t := t) ht (show f.Parts.length ≤ 1000 by
      rcases formC_cases hform with ⟨_, _, h, _⟩ | ⟨_, _, h, _⟩ | ⟨_, _, h, _⟩ <;> omega) (fun m y s => impl_substituted_1N m y n t s) (4 * SizeOf.sizeOf f - 1) (fun p hpm => by
    obtain ⟨r, h1, h2, h3⟩ := ih p hpm (hparts p hpm) (by have := Formula.tot_part hpm; omega) (by have := fcnts_mem hpm; omega)
    have hlt := Formula.lt hpm
    refine ⟨r, fun m hm b => ?_, h2, h3⟩
    obtain ⟨k, rfl⟩ : ∃ k, m = k + 1 := ⟨m - 1, by omega⟩
    show impl_substituted_1N (k + 1) p n t b = _
    rw [impl_substituted_1N, h1 k (by omega), Option.bind_some]
    cases b <;> rfl)
  have hmf : ∀ m, 4 * SizeOf.sizeOf f ≤ m → ∃ k, m = k + 1 ∧ 4 * SizeOf.sizeOf f - 1 ≤ k := fun m hm => ⟨m - 1, by omega, by omega⟩
  rcases formC_cases hform with ⟨e3, hq, hk, hat, _⟩ | ⟨e3, hq, hk, hza, hvv⟩ | ⟨e3, hq, _, _, _⟩
  · have hkeep : f.keep n = false := by unfold Formula.keep; rw [hq]; rfl
    have h0 : f.Parts = [] := List.eq_nil_of_length_eq_zero hk
    refine ⟨(⟨f.Op, sbT n t f.Atom, f.Var, []⟩, true), fun m hm => ?_, by rw [Formula.cf_u, hkeep, cond_false, decide_eq_true e3]; rfl, fun _ => by rw [Formula.sub_u, hkeep, cond_false, decide_eq_true e3]; rfl⟩
    obtain ⟨k, rfl, hk'⟩ := hmf m hm
    show impl_substitutedN (k + 1) f n t = _
    rw [impl_substitutedN, isQ_eq, Option.bind_some, show (decide (f.Op = 8) || decide (f.Op = 9)) = false from hq, cond_false, Option.bind_some, cond_false, q1 k hk', Option.bind_some, decide_eq_true e3, cond_true,
      apply_eq (by omega) (by have := (atomT_ok hat).cnt; omega), Option.bind_some, h0]
    have hq0 : q = [] := List.eq_nil_of_length_eq_zero (by rw [q2, h0]; rfl)
    rw [hq0]; rfl
  · obtain ⟨V, v1, v2⟩ := free_impl hgf hc
    have hov := occurs_eq hvv hg (show t.cnt ≤ 10000000 by omega)
    by_cases en : f.Var = n
    · have hkeep : f.keep n = true := by unfold Formula.keep; rw [hq, decide_eq_true en]; rfl
      refine ⟨(f, true), fun m hm => ?_, by rw [Formula.cf_u, hkeep]; rfl, fun _ => by rw [Formula.sub_u, hkeep]; rfl⟩
      obtain ⟨k, rfl, hk'⟩ := hmf m hm
      show impl_substitutedN (k + 1) f n t = _
      rw [impl_substitutedN, isQ_eq, Option.bind_some, show (decide (f.Op = 8) || decide (f.Op = 9)) = true from hq, cond_true, decide_eq_true en, cond_true, copyF f ht]; rfl
    · cases hfv : f.fv n
      · have hkeep : f.keep n = true := by unfold Formula.keep; rw [hq, hfv]; simp
        refine ⟨(f, true), fun m hm => ?_, by rw [Formula.cf_u, hkeep]; rfl, fun _ => by rw [Formula.sub_u, hkeep]; rfl⟩
        obtain ⟨k, rfl, hk'⟩ := hmf m hm
        show impl_substitutedN (k + 1) f n t = _
        rw [impl_substitutedN, isQ_eq, Option.bind_some, show (decide (f.Op = 8) || decide (f.Op = 9)) = true from hq, cond_true, decide_eq_false en, cond_false, v1, Option.bind_some, Contains_hasV, Option.bind_some, v2, hfv, cond_false, copyF f ht]; rfl
      · have hkeep : f.keep n = false := by unfold Formula.keep; rw [hq, hfv, decide_eq_false en]; rfl
        cases ho : hasV f.Var t.vars
        · refine ⟨(⟨f.Op, f.Atom, f.Var, q⟩, f.Parts.all (Formula.cf n t)), fun m hm => ?_, by rw [Formula.cf_u, hkeep, cond_false, decide_eq_false e3, cond_false, ho]; simp, fun hh => by rw [Formula.sub_u, hkeep, cond_false, decide_eq_false e3, cond_false, q3 hh]⟩
          obtain ⟨k, rfl, hk'⟩ := hmf m hm
          show impl_substitutedN (k + 1) f n t = _
          rw [impl_substitutedN, isQ_eq, Option.bind_some, show (decide (f.Op = 8) || decide (f.Op = 9)) = true from hq, cond_true, decide_eq_false en, cond_false, v1, Option.bind_some, Contains_hasV, Option.bind_some, v2, hfv, cond_true, Option.bind_some, cond_true, hov, Option.bind_some, ho, cond_false, q1 k hk', Option.bind_some, decide_eq_false e3]; rfl
        · refine ⟨(⟨0, ⟨⟨#[]⟩, []⟩, ⟨#[]⟩, []⟩, false), fun m hm => ?_, by rw [Formula.cf_u, hkeep, cond_false, decide_eq_false e3, cond_false, ho, hq]; rfl, fun hh => by cases hh⟩
          obtain ⟨k, rfl, hk'⟩ := hmf m hm
          show impl_substitutedN (k + 1) f n t = _
          rw [impl_substitutedN, isQ_eq, Option.bind_some, show (decide (f.Op = 8) || decide (f.Op = 9)) = true from hq, cond_true, decide_eq_false en, cond_false, v1, Option.bind_some, Contains_hasV, Option.bind_some, v2, hfv, cond_true, Option.bind_some, cond_true, hov, Option.bind_some, ho]; rfl
  · have hkeep : f.keep n = false := by unfold Formula.keep; rw [hq]; rfl
    refine ⟨(⟨f.Op, f.Atom, f.Var, q⟩, f.Parts.all (Formula.cf n t)), fun m hm => ?_, by rw [Formula.cf_u, hkeep, cond_false, decide_eq_false e3, cond_false, hq]; simp, fun hh => by rw [Formula.sub_u, hkeep, cond_false, decide_eq_false e3, cond_false, q3 hh]⟩
    obtain ⟨k, rfl, hk'⟩ := hmf m hm
    show impl_substitutedN (k + 1) f n t = _
    rw [impl_substitutedN, isQ_eq, Option.bind_some, show (decide (f.Op = 8) || decide (f.Op = 9)) = false from hq, cond_false, Option.bind_some, cond_false, q1 k hk', Option.bind_some, decide_eq_false e3]; rfl
/-! ### the text's side -/
theorem sput_loop {n : ByteArray} {t : Term} (F : Nat → Formula → Option (Formula × Bool)) (G : List Formula → Formula) (N : Nat) : ∀ (l : List Formula) (i : Nat) (acc : List Formula),
    (∀ p ∈ l, ∃ r : Formula × Bool, (∀ m, N ≤ m → F m p = some r) ∧ r.2 = p.sok n t ∧ (r.2 = true → r.1 = p.sub n t)) → acc.length + l.length ≤ 1000000 →
    ∃ q : (Formula × Bool) ⊕ List Formula, (∀ m, N ≤ m → forL (fun _ x (s : List Formula) => (F m x).bind fun v => bif v.2 then (app s [v.1]).bind fun w => some (.nx w) else some (.rt (G s, false))) l i acc = some q) ∧ (l.all (Formula.sok n t) = true → q = .inr (acc ++ l.map (Formula.sub n t))) ∧ (l.all (Formula.sok n t) = false → ∃ g, q = .inl (g, false))
  | [], i, acc, _, _ => ⟨.inr acc, fun m _ => rfl, fun _ => by simp, fun h => by cases h⟩
  | p :: l, i, acc, h, hb => by
    simp only [List.length_cons] at hb
    obtain ⟨r, h1, h2, h3⟩ := h p (by simp)
    cases hr : r.2
    · refine ⟨.inl (G acc, false), fun m hm => by rw [forL_rt (r := (G acc, false)) (by rw [h1 m hm, Option.bind_some, hr]; rfl)], fun ha => ?_, fun _ => ⟨_, rfl⟩⟩
      rw [List.all_cons, Bool.and_eq_true, ← h2, hr] at ha; cases ha.1
    · obtain ⟨q, g1, g2, g3⟩ := sput_loop F G N l (i + 1) (acc ++ [r.1]) (fun x hx => h x (by simp [hx])) (by simp; omega)
      refine ⟨q, fun m hm => ?_, fun ha => ?_, fun ha => ?_⟩
      · rw [forL_nx (s' := acc ++ [r.1]) (by rw [h1 m hm, Option.bind_some, hr, cond_true]; unfold app; rw [if_pos (by simp only [List.length_cons, List.length_nil]; omega)]; rfl), g1 m hm]
      · rw [List.all_cons, Bool.and_eq_true] at ha
        rw [g2 ha.2, h3 hr]; simp
      · rw [List.all_cons, ← h2, hr, Bool.true_and] at ha; exact g3 ha
theorem spec_sub_eq {n : ByteArray} {t : Term} (hn : isVarS n = true) (hg : t.good = true) (hok : t.Ok) (hct : t.cnt ≤ 30) (f : Formula) : f.Ok → f.good = true → f.tot ≤ 1048576 → f.cnt ≤ 10000 →
    ∃ r : Formula × Bool, (∀ m, 2 * SizeOf.sizeOf f ≤ m → spec_l8PutN m f n t = some r) ∧ r.2 = f.sok n t ∧ (r.2 = true → r.1 = f.sub n t) := by
  refine Formula.ind' (M := fun f => f.Ok → f.good = true → f.tot ≤ 1048576 → f.cnt ≤ 10000 →
    ∃ r : Formula × Bool, (∀ m, 2 * SizeOf.sizeOf f ≤ m → spec_l8PutN m f n t = some r) ∧ r.2 = f.sok n t ∧ (r.2 = true → r.1 = f.sub n t)) (fun f ih hokf hgf ht hc => ?_) f
  have hp := f.pos
  have hu := fcnt_u f
  have hpl := fcnts_len f.Parts
  have hokp := hokf.u.2.2.2.2
  obtain ⟨hform, hparts⟩ := good_split hgf
  obtain ⟨q, q1, q2, q3⟩ := sput_loop (n := n) (t := t) (fun m y => spec_l8PutN m y n t) (fun s => Formula.mk f.Op (Term.mk (⟨#[]⟩ : ByteArray) ([])) f.Var s) (2 * SizeOf.sizeOf f - 1) f.Parts 0 [] (fun p hpm => by
    obtain ⟨r, h1, h2, h3⟩ := ih p hpm (hokp p hpm) (hparts p hpm) (by have := Formula.tot_part hpm; omega) (by have := fcnts_mem hpm; omega)
    exact ⟨r, fun m hm => h1 m (by have := Formula.lt hpm; omega), h2, h3⟩) (by simp; omega)
  have hmf : ∀ m, 2 * SizeOf.sizeOf f ≤ m → ∃ k, m = k + 1 ∧ 2 * SizeOf.sizeOf f - 1 ≤ k := fun m hm => ⟨m - 1, by omega, by omega⟩
  have fin : f.Atom = ⟨⟨#[]⟩, []⟩ → ∃ r : Formula × Bool, thenL (ρ := Formula × Bool) (some q) (fun s11 => some ((Formula.mk f.Op (Term.mk (⟨#[]⟩ : ByteArray) ([])) f.Var s11), true)) = some r ∧ r.2 = f.Parts.all (Formula.sok n t) ∧ (r.2 = true → r.1 = ⟨f.Op, f.Atom, f.Var, f.Parts.map (Formula.sub n t)⟩) := by
    intro ha
    cases hall : f.Parts.all (Formula.sok n t)
    · obtain ⟨g, hg⟩ := q3 hall
      rw [hg, thenL_inl]
      exact ⟨_, rfl, rfl, fun h => by cases h⟩
    · rw [q2 hall, thenL_inr]
      exact ⟨_, rfl, rfl, fun _ => by rw [ha]; rfl⟩
  rcases formC_cases hform with ⟨e3, hq, hk, hat, _⟩ | ⟨e3, hq, hk, hza, hvv⟩ | ⟨e3, hq, _, hza, _⟩
  · have hkeep : f.keep n = false := by unfold Formula.keep; rw [hq]; rfl
    have hao := atomT_ok hat
    have htot := sb_atom_tot (n := n) hg hct hat
    refine ⟨(⟨f.Op, sbT n t f.Atom, f.Var, []⟩, atomT (sbT n t f.Atom)), fun m hm => ?_, by rw [Formula.sok_u, hkeep, cond_false, decide_eq_true e3]; rfl, fun _ => by rw [Formula.sub_u, hkeep, cond_false, decide_eq_true e3]; rfl⟩
    obtain ⟨k, rfl, hk'⟩ := hmf m hm
    show spec_l8PutN (k + 1) f n t = _
    rw [spec_l8PutN, decide_eq_true e3, cond_true, l4Put_eq n t (by omega), Option.bind_some,
      show spec_l4Apply (bif decide (t.Name = n) then ⟨[]⟩ else ⟨[⟨n, t⟩]⟩) f.Atom = some (sbT n t f.Atom) from l4Apply_atom hn (by omega) hg hokf.u.2.1 hao.nv hao.hall (by have := cnts_len f.Atom.Args; have := f.Atom.cnt_u; have := hao.cnt; omega), Option.bind_some,
      atom_spec _ (by omega) (Term.Ok_of _ (by omega)), Option.bind_some]
  · obtain ⟨p0, hp0⟩ : ∃ p, f.Parts = [p] := by
      match hpp : f.Parts with
      | [] => rw [hpp] at hk; cases hk
      | [p] => exact ⟨p, rfl⟩
      | _ :: _ :: _ => rw [hpp] at hk; simp at hk
    have hm0 : p0 ∈ f.Parts := by rw [hp0]; simp
    obtain ⟨V, v1, v2⟩ := free_spec (hokp p0 hm0) (hparts p0 hm0) (by have := fcnts_mem hm0; omega)
    obtain ⟨W, w1, w2⟩ := l2Vars_ok hok hg (show t.cnt ≤ 1000 by omega)
    have hwv : hasV f.Var W = hasV f.Var t.vars := hasV_congr (w2 _)
    have body : ∀ k, 2 * SizeOf.sizeOf f - 1 ≤ k → spec_l8PutN (k + 1) f n t = bif decide (f.Var = n) then some (f, true) else bif p0.fv n then (bif hasV f.Var t.vars then some ((Formula.mk f.Op (Term.mk (⟨#[]⟩ : ByteArray) ([])) f.Var ([])), false) else thenL (ρ := Formula × Bool) (some q) (fun s11 => some ((Formula.mk f.Op (Term.mk (⟨#[]⟩ : ByteArray) ([])) f.Var s11), true))) else some (f, true) := by
      intro k hk'
      have hi : idx f.Parts (0 : Int) = some p0 := by rw [hp0]; rfl
      rw [spec_l8PutN, decide_eq_false e3, cond_false, ownF f ht, hi]
      simp only [Option.bind_some, v1, l2In_eq, v2, w1, hwv, forN_idx]
      rw [q1 k hk']
      unfold isQ at hq
      cases e8 : decide (f.Op = 8)
      · rw [e8, Bool.false_or] at hq; rw [hq]; rfl
      · rfl
    by_cases en : f.Var = n
    · have hkeep : f.keep n = true := by unfold Formula.keep; rw [hq, decide_eq_true en]; rfl
      refine ⟨(f, true), fun m hm => ?_, by rw [Formula.sok_u, hkeep]; rfl, fun _ => by rw [Formula.sub_u, hkeep]; rfl⟩
      obtain ⟨k, rfl, hk'⟩ := hmf m hm
      show spec_l8PutN (k + 1) f n t = _
      rw [body k hk', decide_eq_true en]; rfl
    · have hfe : f.fv n = p0.fv n := by rw [Formula.fv_u, decide_eq_false e3, cond_false, decide_eq_false en, hp0]; simp [Formula.fvs]
      cases hfv : p0.fv n
      · have hkeep : f.keep n = true := by unfold Formula.keep; rw [hq, hfe, hfv]; simp
        refine ⟨(f, true), fun m hm => ?_, by rw [Formula.sok_u, hkeep]; rfl, fun _ => by rw [Formula.sub_u, hkeep]; rfl⟩
        obtain ⟨k, rfl, hk'⟩ := hmf m hm
        show spec_l8PutN (k + 1) f n t = _
        rw [body k hk', decide_eq_false en, hfv]; rfl
      · have hkeep : f.keep n = false := by unfold Formula.keep; rw [hq, hfe, hfv, decide_eq_false en]; rfl
        cases ho : hasV f.Var t.vars
        · obtain ⟨r, r1, r2, r3⟩ := fin hza
          refine ⟨r, fun m hm => ?_, by rw [r2, Formula.sok_u, hkeep, cond_false, decide_eq_false e3, cond_false, ho]; simp, fun hh => by rw [r3 hh, Formula.sub_u, hkeep, cond_false, decide_eq_false e3, cond_false]⟩
          obtain ⟨k, rfl, hk'⟩ := hmf m hm
          show spec_l8PutN (k + 1) f n t = _
          rw [body k hk', decide_eq_false en, hfv, ho]; exact r1
        · refine ⟨(⟨f.Op, ⟨⟨#[]⟩, []⟩, f.Var, []⟩, false), fun m hm => ?_, by rw [Formula.sok_u, hkeep, cond_false, decide_eq_false e3, cond_false, ho, hq]; rfl, fun hh => by cases hh⟩
          obtain ⟨k, rfl, hk'⟩ := hmf m hm
          show spec_l8PutN (k + 1) f n t = _
          rw [body k hk', decide_eq_false en, hfv, ho]; rfl
  · have hkeep : f.keep n = false := by unfold Formula.keep; rw [hq]; rfl
    obtain ⟨r, r1, r2, r3⟩ := fin hza
    refine ⟨r, fun m hm => ?_, by rw [r2, Formula.sok_u, hkeep, cond_false, decide_eq_false e3, cond_false, hq]; simp, fun hh => by rw [r3 hh, Formula.sub_u, hkeep, cond_false, decide_eq_false e3, cond_false]⟩
    obtain ⟨k, rfl, hk'⟩ := hmf m hm
    show spec_l8PutN (k + 1) f n t = _
    unfold isQ at hq
    rw [Bool.or_eq_false_iff] at hq
    rw [spec_l8PutN, decide_eq_false e3, cond_false, hq.1, cond_false, hq.2, cond_false]
    simp only [forN_idx]
    rw [q1 k hk']; exact r1
theorem spec_put {n : ByteArray} {t : Term} (hn : isVarS n = true) (hg : t.good = true) (hok : t.Ok) (hct : t.cnt ≤ 30) {f : Formula} (hof : f.Ok) (hgf : f.good = true) (ht : f.tot ≤ 1048576) (hc : f.cnt ≤ 10000) :
    ∃ r : Formula × Bool, spec_l8Put f n t = some r ∧ r.2 = f.sok n t ∧ (r.2 = true → r.1 = f.sub n t) := by
  obtain ⟨r, h1, h2, h3⟩ := spec_sub_eq hn hg hok hct f hof hgf ht hc
  exact ⟨r, lim_eq ⟨_, h1⟩, h2, h3⟩
/-! ### what comes of it is valid if its atoms are -/
theorem sub_cnts {n : ByteArray} {t : Term} : ∀ l : List Formula, (∀ a ∈ l, (a.sub n t).cnt = a.cnt) → Formula.cnts (l.map (Formula.sub n t)) = Formula.cnts l
  | [], _ => rfl
  | a :: l, h => by
    simp only [List.map_cons, Formula.cnts]
    rw [h a (by simp), sub_cnts l (fun x hx => h x (by simp [hx]))]
theorem sub_cnt {n : ByteArray} {t : Term} (f : Formula) : f.good = true → (f.sub n t).cnt = f.cnt := by
  refine Formula.ind' (M := fun f => f.good = true → (f.sub n t).cnt = f.cnt) (fun f ih hg => ?_) f
  obtain ⟨hform, hparts⟩ := good_split hg
  rw [Formula.sub_u]
  cases f.keep n
  · rw [cond_false]
    cases e : decide (f.Op = 3)
    · rw [cond_false, fcnt_u, fcnt_u f]
      show 1 + Formula.cnts (f.Parts.map _) = _
      rw [sub_cnts f.Parts (fun a ha => ih a ha (hparts a ha))]
    · have e3 := of_decide_eq_true e
      rcases formC_cases hform with ⟨_, _, hk, _⟩ | ⟨h, _⟩ | ⟨h, _⟩
      · rw [cond_true, fcnt_u, fcnt_u f, List.eq_nil_of_length_eq_zero hk]; rfl
      · exact absurd e3 h
      · exact absurd e3 h
  · rfl
theorem sub_good {n : ByteArray} {t : Term} (f : Formula) : f.good = true → f.cf n t = true → (f.sub n t).good = f.sok n t := by
  refine Formula.ind' (M := fun f => f.good = true → f.cf n t = true → (f.sub n t).good = f.sok n t) (fun f ih hg hcf => ?_) f
  obtain ⟨hform, hparts⟩ := good_split hg
  rw [Formula.sub_u, Formula.sok_u]
  rw [Formula.cf_u] at hcf
  cases hk : f.keep n
  · rw [hk, cond_false] at hcf
    rw [cond_false, cond_false]
    cases e : decide (f.Op = 3)
    · rw [e, cond_false, Bool.and_eq_true, List.all_eq_true] at hcf
      rw [cond_false, cond_false, Formula.good_u, hcf.1, Bool.true_and]
      show (formC f.Op f.Atom f.Var (f.Parts.map _).length && (f.Parts.map _).all Formula.good) = _
      rw [List.length_map, hform, Bool.true_and, List.all_map, Bool.eq_iff_iff, List.all_eq_true, List.all_eq_true]
      exact ⟨fun h a ha => by rw [← ih a ha (hparts a ha) (hcf.2 a ha)]; exact h a ha, fun h a ha => by show (a.sub n t).good = true; rw [ih a ha (hparts a ha) (hcf.2 a ha)]; exact h a ha⟩
    · have e3 := of_decide_eq_true e
      rcases formC_cases hform with ⟨_, _, _, _, hv⟩ | ⟨h, _⟩ | ⟨h, _⟩
      · rw [cond_true, cond_true, Formula.good_u]
        show (formC f.Op (sbT n t f.Atom) f.Var 0 && true) = _
        unfold formC
        rw [e, cond_true, hv]; simp
      · exact absurd e3 h
      · exact absurd e3 h
  · rw [cond_true, cond_true, hg]
theorem ftots {g : Formula → Formula} {c : Nat} : ∀ l : List Formula, (∀ a ∈ l, (g a).tot + 1 ≤ c * a.cnt) → ltot Formula.tot (l.map g) ≤ c * Formula.cnts l
  | [], _ => by simp [ltot]
  | a :: l, h => by
    have h1 := h a (by simp)
    have h2 := ftots l (fun x hx => h x (by simp [hx]))
    simp only [ltot, List.length_cons, List.map_cons, List.sum_cons, Formula.cnts, Nat.mul_add] at *
    omega
theorem var_tot {f : Formula} (hform : formC f.Op f.Atom f.Var f.Parts.length = true) : f.Var.size ≤ 4 := by
  rcases formC_cases hform with ⟨_, _, _, _, hv⟩ | ⟨_, _, _, _, hv⟩ | ⟨_, _, _, _, hv⟩
  · rw [hv]; exact Nat.zero_le _
  · exact var_size hv
  · rw [hv]; exact Nat.zero_le _
theorem atom_tot {f : Formula} (hform : formC f.Op f.Atom f.Var f.Parts.length = true) : f.Atom.tot ≤ 210 := by
  have hz : (⟨⟨#[]⟩, []⟩ : Term).tot ≤ 210 := by rw [Term.tot_u]; exact Nat.le_of_ble_eq_true rfl
  rcases formC_cases hform with ⟨_, _, _, hat, _⟩ | ⟨_, _, _, hv, _⟩ | ⟨_, _, _, hv, _⟩
  · have := tiny_tot _ (atom_tiny hat); have := (atomT_ok hat).cnt; omega
  · rw [hv]; exact hz
  · rw [hv]; exact hz
theorem good_tot (f : Formula) : f.good = true → f.tot + 1 ≤ 220 * f.cnt := by
  refine Formula.ind' (M := fun f => f.good = true → f.tot + 1 ≤ 220 * f.cnt) (fun f ih hg => ?_) f
  obtain ⟨hform, hparts⟩ := good_split hg
  have h1 := var_tot hform
  have h2 := atom_tot hform
  have h3 := ftots (g := fun x => x) (c := 220) f.Parts (fun a ha => ih a ha (hparts a ha))
  rw [List.map_id'] at h3
  rw [f.tot_u, fcnt_u f]; omega
theorem sub_tot {n : ByteArray} {t : Term} (hg : t.good = true) (hc : t.cnt ≤ 30) (f : Formula) : f.good = true → (f.sub n t).tot + 1 ≤ 6400 * f.cnt := by
  refine Formula.ind' (M := fun f => f.good = true → (f.sub n t).tot + 1 ≤ 6400 * f.cnt) (fun f ih hgf => ?_) f
  obtain ⟨hform, hparts⟩ := good_split hgf
  have h1 := var_tot hform
  have h2 := atom_tot hform
  have hcp := f.cnt_pos
  rw [Formula.sub_u]
  cases f.keep n
  · rw [cond_false]
    cases e : decide (f.Op = 3)
    · have h3 := ftots (g := Formula.sub n t) (c := 6400) f.Parts (fun a ha => ih a ha (hparts a ha))
      rw [cond_false, Formula.tot_u, fcnt_u f]
      show f.Atom.tot + (f.Var.size + ltot Formula.tot (f.Parts.map _)) + 1 ≤ _
      omega
    · have e3 := of_decide_eq_true e
      rcases formC_cases hform with ⟨_, _, _, hat, _⟩ | ⟨h, _⟩ | ⟨h, _⟩
      · have h4 := sb_atom_tot (n := n) hg hc hat
        rw [cond_true, Formula.tot_u]
        show (sbT n t f.Atom).tot + (f.Var.size + ltot Formula.tot []) + 1 ≤ _
        have h5 : ltot Formula.tot [] = 0 := rfl
        omega
      · exact absurd e3 h
      · exact absurd e3 h
  · have := good_tot f hgf
    rw [cond_true]; omega
theorem Formula.Ok_of (f : Formula) : f.good = true → f.tot ≤ 1048576 → f.Ok := by
  refine Formula.ind' (M := fun f => f.good = true → f.tot ≤ 1048576 → f.Ok) (fun f ih hg ht => ?_) f
  obtain ⟨hform, hparts⟩ := good_split hg
  have hu := f.tot_u
  have hl := ltot_len Formula.tot f.Parts
  have hop : InR f.Op := by
    unfold formC at hform
    by_cases hr : InR f.Op
    · exact hr
    · simp only [InR] at hr
      have e : ∀ k : Int, 1 ≤ k → k ≤ 9 → decide (f.Op = k) = false := fun k h1 h2 => decide_eq_false (fun h => hr (by omega))
      rw [e 1 (by decide) (by decide), e 2 (by decide) (by decide), e 3 (by decide) (by decide), e 4 (by decide) (by decide), e 5 (by decide) (by decide), e 6 (by decide) (by decide), e 7 (by decide) (by decide), e 8 (by decide) (by decide), e 9 (by decide) (by decide)] at hform
      simp at hform
  have := Formula.Ok.mk f.Op f.Atom f.Var f.Parts hop (Term.Ok_of f.Atom (by omega)) (show f.Var.size ≤ 9223372036854775807 by omega) (show f.Parts.length ≤ 9223372036854775807 by omega) (fun a ha => ih a ha (hparts a ha) (by have := Formula.tot_part ha; omega))
  rwa [f.eta] at this
theorem sub_Ok {n : ByteArray} {t : Term} (hok : t.Ok) (hg : t.good = true) (hc : t.cnt ≤ 30) (f : Formula) : f.Ok → f.good = true → (f.sub n t).Ok := by
  refine Formula.ind' (M := fun f => f.Ok → f.good = true → (f.sub n t).Ok) (fun f ih hokf hgf => ?_) f
  obtain ⟨hform, hparts⟩ := good_split hgf
  obtain ⟨h1, h2, h3, h4⟩ := hokf.u
  rw [Formula.sub_u]
  cases f.keep n
  · rw [cond_false]
    cases e : decide (f.Op = 3)
    · refine Formula.Ok.mk _ _ _ _ h1 h2 h3 (by rw [List.length_map]; exact h4.1) (fun a ha => ?_)
      obtain ⟨b, hb, rfl⟩ := List.mem_map.1 ha
      exact ih b hb (h4.2 b hb) (hparts b hb)
    · have e3 := of_decide_eq_true e
      rcases formC_cases hform with ⟨_, _, _, hat, _⟩ | ⟨h, _⟩ | ⟨h, _⟩
      · have h5 := sb_atom_tot (n := n) hg hc hat
        exact Formula.Ok.mk _ _ _ _ h1 (Term.Ok_of _ (by omega)) h3 (by simp only [Big, List.length_nil]; omega) (fun a ha => by cases ha)
      · exact absurd e3 h
      · exact absurd e3 h
  · exact hokf
theorem validF_iff {f : Formula} (h : validF f = true) : f.cnt ≤ 40 ∧ f.good = true := by
  unfold validF at h; rw [Bool.and_eq_true, decide_eq_true_iff] at h; exact h
theorem validF_tot {f : Formula} (h : validF f = true) : f.tot ≤ 8800 := by
  obtain ⟨h1, h2⟩ := validF_iff h
  have := good_tot f h2; omega
theorem validF_Ok {f : Formula} (h : validF f = true) : f.Ok := Formula.Ok_of f (validF_iff h).2 (by have := validF_tot h; omega)
theorem goodT_Ok {t : Term} (h : goodT t = true) : t.tot ≤ 210 ∧ t.Ok := by
  obtain ⟨h1, h2⟩ := goodT_iff h
  have := tiny_tot t (good_tiny t h1)
  exact ⟨by omega, Term.Ok_of t (by omega)⟩
/-- What SubstituteFormula gives, for whatever it is handed. -/
def subst (f : Formula) (n : ByteArray) (t : Term) : Bool := validF f && (isVarS n && (goodT t && f.sok n t))
theorem sub_valid {n : ByteArray} {t : Term} {f : Formula} (hv : validF f = true) (hcf : f.cf n t = true) : validF (f.sub n t) = f.sok n t := by
  obtain ⟨h1, h2⟩ := validF_iff hv
  unfold validF
  rw [sub_cnt f h2, sub_good f h2 hcf, decide_eq_true h1, Bool.true_and]
theorem SubstituteFormula_eq {n : ByteArray} {t : Term} {f : Formula} (hof : f.Ok) (hf : f.tot ≤ 1048576) (hnb : Big n.size) (hot : t.Ok) (ht : t.tot ≤ 1048576) :
    impl_SubstituteFormula f n t = some (bif subst f n t then (f.sub n t, true) else (⟨0, ⟨⟨#[]⟩, []⟩, ⟨#[]⟩, []⟩, false)) := by
  unfold impl_SubstituteFormula subst
  rw [validF_impl f hf hof, isVariable_eq n hnb, IsValidTerm_ok t ht hot]
  simp only [Option.bind_some]
  cases hv : validF f
  · rfl
  cases hn : isVarS n
  · rfl
  cases hg : goodT t
  · rfl
  obtain ⟨h1, h2⟩ := validF_iff hv
  obtain ⟨g1, g2⟩ := goodT_iff hg
  obtain ⟨r, r1, r2, r3⟩ := impl_sub_eq hn g1 (by omega) f h2 hf (by omega)
  simp only [cond_true, Bool.true_and]
  rw [show impl_substituted f n t = some r from lim_eq ⟨_, r1⟩, Option.bind_some, r2]
  cases hcf : f.cf n t
  · have : f.sok n t = false := by rw [← Bool.not_eq_true]; intro h; rw [sok_cf f h] at hcf; cases hcf
    rw [this]; rfl
  · rw [cond_true, r3 (r2.trans hcf)]
    have h3 := sub_tot (n := n) g1 g2 f h2
    unfold impl_ifFormula
    rw [validF_impl _ (by omega) (sub_Ok hot g1 g2 f hof h2), Option.bind_some, sub_valid hv hcf]
    cases f.sok n t <;> rfl
theorem subst_valid {n : ByteArray} {t : Term} {f : Formula} (h : subst f n t = true) : validF (f.sub n t) = true ∧ validF f = true ∧ isVarS n = true ∧ goodT t = true ∧ f.sok n t = true := by
  unfold subst at h
  simp only [Bool.and_eq_true] at h
  exact ⟨by rw [sub_valid h.1 (sok_cf f h.2.2.2)]; exact h.2.2.2, h.1, h.2.1, h.2.2.1, h.2.2.2⟩
end Go.Proofs.YtgkgihdafalimaaGreat
