/- A part of the proof: lemmas only; nothing is claimed here beyond what each lemma says. -/
import Derived.Test.YtdmkceajaagpgaaGtm
set_option linter.unusedSimpArgs false
set_option linter.unusedVariables false
set_option linter.defProp false
namespace Go.Proofs.Ytdmkceajaagpgaa
open Go.Av
mutual
def Term.vars : Term → List ByteArray
  | .mk x l => bif isVarS x then [x] else Term.varss l
def Term.varss : List Term → List ByteArray
  | [] => []
  | a :: l => a.vars ++ Term.varss l
end
theorem Term.vars_u (t : Term) : t.vars = bif isVarS t.Name then [t.Name] else Term.varss t.Args := by cases t; rw [Term.vars]; rfl
theorem Term.cnt_u (t : Term) : t.cnt = 1 + Term.cnts t.Args := by cases t; rw [Term.cnt]; rfl
theorem nameCase {t : Term} (h : t.good = true) : (isVarS t.Name = true ∧ t.Args = []) ∨ (isVarS t.Name = false ∧ isSymS t.Name = true ∧ t.Args.length ≤ 4 ∧ ∀ a ∈ t.Args, a.good = true) := by
  rw [Term.good_u] at h
  cases hv : isVarS t.Name
  · rw [hv, cond_false] at h
    simp only [Bool.and_eq_true, decide_eq_true_eq, List.all_eq_true] at h
    exact Or.inr ⟨rfl, h.1.1, h.1.2, h.2⟩
  · rw [hv, cond_true] at h
    exact Or.inl ⟨rfl, by simpa using h⟩
theorem isVar_good {t : Term} (h : t.good = true) : impl_isVar t = some (isVarS t.Name) := by
  unfold impl_isVar
  rcases nameCase h with ⟨hv, _⟩ | ⟨hv, hs, _⟩
  · have h2 := hv
    unfold isVarS at h2
    rw [Bool.and_eq_true] at h2
    have hz : 0 < t.Name.size := by have := inR_iff.1 h2.1; omega
    have h3 := List.all_eq_true.1 h2.2 0 (by simpa using hz)
    rw [sidx0 hz, Option.bind_some, isUpper_eq, Option.bind_some, hv]
    simpa [varC] using h3
  · have h2 := hs
    unfold isSymS at h2
    rw [Bool.and_eq_true, Bool.and_eq_true] at h2
    have hz : 0 < t.Name.size := by have := inR_iff.1 h2.1.1; omega
    have h3 := List.all_eq_true.1 h2.1.2 0 (by simpa using hz)
    rw [sidx0 hz, Option.bind_some, isUpper_eq, Option.bind_some, hv]
    have h4 : cLow (byt t.Name 0) = true := by simpa [symC] using h3
    have h5 := inR_iff.1 h4
    congr 1
    rw [← Bool.not_eq_true]
    intro g
    have := inR_iff.1 g
    omega
/-- What a gathering of names does. -/
def VS (Q : List ByteArray → Prop) (acc v : List ByteArray) (vs : List ByteArray) (c : Nat) : Prop := (∀ x, x ∈ v ↔ x ∈ acc ∨ x ∈ vs) ∧ v.length ≤ acc.length + c ∧ (Q acc → Q v)
theorem vs_loop (Q : List ByteArray → Prop) (F : Nat → List ByteArray → Term → Option (List ByteArray)) (N : Nat) : ∀ (l : List Term) (i : Nat) (acc : List ByteArray),
    (∀ a ∈ l, ∀ acc, Q acc → acc.length + a.cnt ≤ 1000 → ∃ v, (∀ n, N ≤ n → F n acc a = some v) ∧ VS Q acc v a.vars a.cnt) → Q acc → acc.length + Term.cnts l ≤ 1000 →
    ∃ v, (∀ n, N ≤ n → forL (ρ := List ByteArray) (fun _ x s => (F n s x).bind fun w => some (.nx w)) l i acc = some (.inr v)) ∧ VS Q acc v (Term.varss l) (Term.cnts l)
  | [], i, acc, _, hq, _ => ⟨acc, fun _ _ => rfl, fun x => by simp [Term.varss], by simp [Term.cnts], id⟩
  | a :: l, i, acc, h, hq, hb => by
    simp only [Term.cnts] at hb
    obtain ⟨v, h1, h2, h3, h4⟩ := h a (by simp) acc hq (by omega)
    obtain ⟨w, g1, g2, g3, g4⟩ := vs_loop Q F N l (i + 1) v (fun b hb => h b (by simp [hb])) (h4 hq) (by omega)
    refine ⟨w, fun n hn => ?_, fun x => ?_, ?_, fun q => g4 (h4 q)⟩
    · rw [forL_nx (s' := v) (by rw [h1 n hn]; rfl), g1 n hn]
    · rw [g2, h2, Term.varss, List.mem_append, or_assoc]
    · simp only [Term.cnts]; omega
theorem forN_idxA {α ρ σ : Type} (xs : List α) (body : Nat → α → σ → Option (Flow ρ σ)) (s : σ) : forN (fun i s => (idx xs (i : Int)).bind fun v => body i v s) xs.length 0 s = forL body xs 0 s := forN_idx xs body s
theorem collectN_ok (t : Term) : t.good = true → ∀ acc, True → acc.length + t.cnt ≤ 1000 → ∃ v, (∀ n, 2 * SizeOf.sizeOf t ≤ n → impl_collectN n acc t = some v) ∧ VS (fun _ => True) acc v t.vars t.cnt := by
  refine Term.ind' (M := fun t => t.good = true → ∀ acc, True → acc.length + t.cnt ≤ 1000 → ∃ v, (∀ n, 2 * SizeOf.sizeOf t ≤ n → impl_collectN n acc t = some v) ∧ VS (fun _ => True) acc v t.vars t.cnt) (fun t ih hg acc _ hb => ?_) t
  have hp := t.pos
  have hiv := isVar_good hg
  rcases nameCase hg with ⟨hv, ha⟩ | ⟨hv, hs, _, hall⟩
  · rw [Term.vars_u, hv, cond_true]
    have hc := t.cnt_pos
    refine ⟨bif acc.any (fun v => decide (t.Name = v)) then acc else acc ++ [t.Name], fun n hn => ?_, fun x => ?_, ?_, fun _ => trivial⟩
    · cases n with
      | zero => omega
      | succ n =>
        rw [impl_collectN, hiv, hv, ha]
        simp only [Option.bind_some, List.length_nil, Contains_str]
        cases acc.any (fun v => decide (t.Name = v))
        · simp only [cond_false, cond_true, app]
          rw [if_pos (by simp only [List.length_cons, List.length_nil]; omega)]; rfl
        · rfl
    · cases e : acc.any (fun v => decide (t.Name = v))
      · simp
      · rw [cond_true]
        rw [List.any_eq_true] at e
        obtain ⟨y, y1, y2⟩ := e
        have y2 := of_decide_eq_true y2
        refine ⟨Or.inl, fun g => g.elim id fun g => ?_⟩
        rw [List.mem_singleton] at g
        rw [g, y2]; exact y1
    · cases acc.any (fun v => decide (t.Name = v))
      · simp only [cond_false, List.length_append, List.length_cons, List.length_nil]; omega
      · simp only [cond_true]; omega
  · rw [Term.vars_u, hv, cond_false]
    have hcu := t.cnt_u
    obtain ⟨v, h1, h2, h3, h4⟩ := vs_loop (fun _ => True) (fun n s x => impl_collectN n s x) (2 * SizeOf.sizeOf t - 1) t.Args 0 acc (fun a ha acc _ hb => by
      obtain ⟨v, k1, k2⟩ := ih a ha (hall a ha) acc trivial hb
      exact ⟨v, fun n hn => k1 n (by have := Term.lt ha; omega), k2⟩) trivial (by omega)
    refine ⟨v, fun n hn => ?_, h2, by omega, h4⟩
    cases n with
    | zero => omega
    | succ n =>
      rw [impl_collectN, hiv, hv]
      simp only [Option.bind_some, cond_false, Bool.cond_self, forN_idx]
      rw [h1 n (by omega)]; rfl
def Srt (l : List ByteArray) : Prop := l.Pairwise (fun a b => slt a b = true)
theorem slt_tri {a b : ByteArray} (h : ¬ slt a b = true) (h2 : ¬ a = b) : slt b a = true := by
  cases e : slt b a
  · exact absurd (ba_ext (bytesLess_total (by simpa [slt] using h) (by simpa [slt] using e))) h2
  · rfl
theorem srt_ins {pre suf : List ByteArray} {x : ByteArray} (h : Srt (pre ++ suf)) (h1 : ∀ y ∈ pre, slt y x = true) (h2 : ∀ y ∈ suf, slt x y = true) : Srt (pre ++ [x] ++ suf) := by
  unfold Srt at *
  rw [List.pairwise_append] at h
  rw [List.append_assoc, List.pairwise_append]
  refine ⟨h.1, ?_, fun a ha b hb => ?_⟩
  · rw [List.singleton_append, List.pairwise_cons]; exact ⟨h2, h.2.1⟩
  · rw [List.singleton_append, List.mem_cons] at hb
    rcases hb with rfl | hb
    · exact h1 a ha
    · exact h.2.2 a ha b hb
theorem ins_eq {pre suf : List ByteArray} {x : ByteArray} (hb : (pre ++ suf).length ≤ 1000) (i : Int) (hi : i = (pre.length : Nat)) : (Option.bind (slc (pre ++ suf) 0 i) fun v36 => Option.bind (app ([]) v36) fun v37 => Option.bind (app v37 ([x])) fun v40 => Option.bind (slc (pre ++ suf) i ((pre ++ suf).length : Int)) fun v43 => app v40 v43) = some (pre ++ [x] ++ suf) := by
  subst hi
  simp only [List.length_append] at hb
  have e1 : slc (pre ++ suf) 0 (pre.length : Int) = some pre := by unfold slc; rw [if_pos (by simp; omega)]; simp
  have e2 : slc (pre ++ suf) (pre.length : Int) ((pre ++ suf).length : Int) = some suf := by unfold slc; rw [if_pos (by simp; omega), Int.toNat_natCast, Int.toNat_natCast, List.take_length, List.drop_left]
  rw [e1, Option.bind_some]
  have e3 : app ([] : List ByteArray) pre = some pre := by unfold app; rw [if_pos (by simp only [List.length_nil]; omega)]; rfl
  have e4 : app pre [x] = some (pre ++ [x]) := by unfold app; rw [if_pos (by simp only [List.length_cons, List.length_nil]; omega)]
  rw [e3, Option.bind_some, e4, Option.bind_some, e2, Option.bind_some]
  unfold app; rw [if_pos (by simp only [List.length_append, List.length_cons, List.length_nil]; omega)]
theorem l2Put_ok (acc : List ByteArray) (x : ByteArray) (hs : Srt acc) (hb : acc.length ≤ 1000) : ∃ v, spec_l2Put acc x = some v ∧ (∀ y, y ∈ v ↔ y ∈ acc ∨ y ∈ [x]) ∧ v.length ≤ acc.length + 1 ∧ Srt v := by
  unfold spec_l2Put
  have key : ∀ (suf pre : List ByteArray), pre ++ suf = acc → (∀ y ∈ pre, slt y x = true) → ∃ v, (thenL (ρ := (List ByteArray)) (σ := Unit) (forN (fun (i2 : Nat) (s2 : Unit) =>
      Option.bind (idx acc (i2 : Int)) fun v13 =>
      bif Op.bytesLess v13.data.toList x.data.toList then
        some (.nx ())
      else
        Option.bind (idx acc (i2 : Int)) fun v27 =>
        bif decide (v27 = x) then
          some (.rt acc)
        else
          Option.bind (slc acc (0 : Int) (i2 : Int)) fun v36 =>
          Option.bind (app ([]) v36) fun v37 =>
          Option.bind (app v37 ([x])) fun v40 =>
          Option.bind (slc acc (i2 : Int) (acc.length : Int)) fun v43 =>
          Option.bind (app v40 v43) fun v44 =>
          some (.rt v44)) suf.length pre.length ()) fun s2 =>
    Option.bind (slc acc (0 : Int) ((acc.length : Nat) : Int)) fun v36 =>
    Option.bind (app ([]) v36) fun v37 =>
    Option.bind (app v37 ([x])) fun v40 =>
    Option.bind (slc acc ((acc.length : Nat) : Int) (acc.length : Int)) fun v43 =>
    Option.bind (app v40 v43) fun v44 =>
    some v44) = some v ∧ (∀ y, y ∈ v ↔ y ∈ acc ∨ y ∈ [x]) ∧ v.length ≤ acc.length + 1 ∧ Srt v := by
    intro suf
    induction suf with
    | nil =>
      intro pre he hp
      rw [List.append_nil] at he
      subst he
      have e := ins_eq (pre := pre) (suf := []) (x := x) (by simpa using hb) pre.length rfl
      simp only [List.append_nil] at e
      refine ⟨pre ++ [x], ?_, fun y => by simp, by simp, ?_⟩
      · rw [List.length_nil, forN_zero, thenL_inr]
        have := congrArg (fun o => Option.bind o fun v44 => some v44) e
        simpa only [Option.bind_assoc, Option.bind_some] using this
      · have := srt_ins (pre := pre) (suf := []) (x := x) (by simpa using hs) hp (by simp)
        simpa using this
    | cons s suf ih =>
      intro pre he hp
      have hi : idx acc (pre.length : Int) = some s := by rw [idx_nat, ← he]; simp
      by_cases c1 : slt s x = true
      · rw [List.length_cons, forN_nx (s' := ()) (by rw [hi, Option.bind_some]; rw [show Op.bytesLess s.data.toList x.data.toList = true from c1]; rfl)]
        have := ih (pre ++ [s]) (by simpa using he) (fun y hy => by
          rw [List.mem_append, List.mem_singleton] at hy
          rcases hy with hy | rfl
          · exact hp y hy
          · exact c1)
        simpa only [List.length_append, List.length_cons, List.length_nil, Nat.zero_add] using this
      · have c1' : Op.bytesLess s.data.toList x.data.toList = false := by simpa [slt] using c1
        by_cases c2 : s = x
        · rw [List.length_cons, forN_rt (r := acc) (by rw [hi, Option.bind_some, c1', cond_false, Option.bind_some, decide_eq_true c2]; rfl), thenL_inl]
          refine ⟨acc, rfl, fun y => ⟨Or.inl, fun g => g.elim id fun g => ?_⟩, by omega, hs⟩
          rw [List.mem_singleton] at g
          rw [g, ← he, ← c2]; simp
        · have c3 := slt_tri c1 c2
          have e := ins_eq (pre := pre) (suf := s :: suf) (x := x) (by rw [he]; exact hb) pre.length rfl
          rw [he] at e
          have e' : (Option.bind (slc acc (0 : Int) (pre.length : Int)) fun v36 => Option.bind (app ([]) v36) fun v37 => Option.bind (app v37 ([x])) fun v40 => Option.bind (slc acc (pre.length : Int) (acc.length : Int)) fun v43 => Option.bind (app v40 v43) fun v44 => some (Flow.rt (ρ := List ByteArray) (σ := Unit) v44)) = some (.rt (pre ++ [x] ++ s :: suf)) := by
            have := congrArg (fun o => Option.bind o fun v44 => some (Flow.rt (ρ := List ByteArray) (σ := Unit) v44)) e
            simpa only [Option.bind_assoc, Option.bind_some] using this
          rw [List.length_cons, forN_rt (r := pre ++ [x] ++ s :: suf) (by rw [hi, Option.bind_some, c1', cond_false, Option.bind_some, decide_eq_false c2, cond_false]; exact e'), thenL_inl]
          refine ⟨_, rfl, fun y => ?_, ?_, srt_ins (by rw [he]; exact hs) hp (fun y hy => ?_)⟩
          · rw [← he]; simp only [List.mem_append, List.mem_cons, List.mem_singleton, List.not_mem_nil, or_false]
            constructor
            · rintro ((g | g) | g)
              · exact Or.inl (Or.inl g)
              · exact Or.inr g
              · exact Or.inl (Or.inr g)
            · rintro ((g | g) | g)
              · exact Or.inl (Or.inl g)
              · exact Or.inr g
              · exact Or.inl (Or.inr g)
          · rw [← he]; simp only [List.length_append, List.length_cons, List.length_nil]; omega
          · rw [List.mem_cons] at hy
            rcases hy with rfl | hy
            · exact c3
            · have hs2 := hs
              rw [← he] at hs2
              unfold Srt at hs2
              rw [List.pairwise_append, List.pairwise_cons] at hs2
              have := hs2.2.1.1 y hy
              exact bytesLess_trans c3 this
  exact key acc [] rfl (by simp)
theorem l2IntoN_ok (t : Term) : t.Ok → t.good = true → ∀ acc, Srt acc → acc.length + t.cnt ≤ 1000 → ∃ v, (∀ n, 2 * SizeOf.sizeOf t ≤ n → spec_l2IntoN n acc t = some v) ∧ VS Srt acc v t.vars t.cnt := by
  refine Term.ind' (M := fun t => t.Ok → t.good = true → ∀ acc, Srt acc → acc.length + t.cnt ≤ 1000 → ∃ v, (∀ n, 2 * SizeOf.sizeOf t ≤ n → spec_l2IntoN n acc t = some v) ∧ VS Srt acc v t.vars t.cnt) (fun t ih hok hg acc hq hb => ?_) t
  have hp := t.pos
  have hiv := l2Var_eq t.Name hok.u.1
  have hc := t.cnt_pos
  rcases nameCase hg with ⟨hv, ha⟩ | ⟨hv, hs, _, hall⟩
  · rw [Term.vars_u, hv, cond_true]
    obtain ⟨v, h1, h2, h3, h4⟩ := l2Put_ok acc t.Name hq (by omega)
    refine ⟨v, fun n hn => ?_, h2, by omega, fun _ => h4⟩
    cases n with
    | zero => omega
    | succ n =>
      rw [spec_l2IntoN, hiv, hv, h1]; rfl
  · rw [Term.vars_u, hv, cond_false]
    have hcu := t.cnt_u
    obtain ⟨v, h1, h2, h3, h4⟩ := vs_loop Srt (fun n s x => spec_l2IntoN n s x) (2 * SizeOf.sizeOf t - 1) t.Args 0 acc (fun a ha acc hq hb => by
      obtain ⟨v, k1, k2⟩ := ih a ha (hok.u.2.2 a ha) (hall a ha) acc hq hb
      exact ⟨v, fun n hn => k1 n (by have := Term.lt ha; omega), k2⟩) hq (by omega)
    refine ⟨v, fun n hn => ?_, h2, by omega, h4⟩
    cases n with
    | zero => omega
    | succ n =>
      rw [spec_l2IntoN, hiv, hv]
      simp only [Option.bind_some, cond_false, forN_idx]
      rw [h1 n (by omega)]; rfl
theorem collect_ok {t : Term} (hg : t.good = true) (hc : t.cnt ≤ 1000) : ∃ v, impl_collect [] t = some v ∧ ∀ x, x ∈ v ↔ x ∈ t.vars := by
  obtain ⟨v, h1, h2, _⟩ := collectN_ok t hg [] trivial (by simpa using hc)
  exact ⟨v, lim_eq ⟨_, h1⟩, fun x => by simpa using h2 x⟩
theorem l2Vars_ok {t : Term} (hok : t.Ok) (hg : t.good = true) (hc : t.cnt ≤ 1000) : ∃ v, spec_l2Vars t = some v ∧ (∀ x, x ∈ v ↔ x ∈ t.vars) ∧ Srt v := by
  obtain ⟨v, h1, h2, _, h3⟩ := l2IntoN_ok t hok hg [] List.Pairwise.nil (by simpa using hc)
  refine ⟨v, ?_, fun x => by simpa using h2 x, h3 List.Pairwise.nil⟩
  unfold spec_l2Vars
  rw [show spec_l2Into [] t = some v from lim_eq ⟨_, h1⟩]; rfl
theorem len0_of {v w : List ByteArray} (h : ∀ x, x ∈ v ↔ x ∈ w) : decide ((v.length : Int) = 0) = w.isEmpty := by
  rw [isEmpty_dec]
  cases v with
  | nil =>
    cases w with
    | nil => rfl
    | cons b w => exact absurd ((h b).2 (by simp)) (by simp)
  | cons a v =>
    cases w with
    | nil => exact absurd ((h a).1 (by simp)) (by simp)
    | cons b w => rfl
end Go.Proofs.Ytdmkceajaagpgaa
