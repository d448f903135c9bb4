/- A part of the proof: lemmas only; nothing is claimed here beyond what each lemma says. -/
import Derived.Test.YtdmkceajaagpgaaGdec
set_option linter.unusedSimpArgs false
set_option linter.unusedVariables false
set_option linter.defProp false
namespace Go.Proofs.Ytdmkceajaagpgaa
open Go.Av
theorem l2Text_eq (a b : ByteArray) : spec_l2Text a b = some (cmpS a b) := by
  unfold spec_l2Text cmpS
  by_cases h : slt a b = true
  · rw [if_pos h]; rw [show Op.bytesLess a.data.toList b.data.toList = true from h]; rfl
  · rw [if_neg h, show Op.bytesLess a.data.toList b.data.toList = false by simpa [slt] using h, cond_false]
    by_cases e : a = b
    · rw [decide_eq_true e, if_pos e]; rfl
    · rw [decide_eq_false e, if_neg e]; rfl
theorem cmpS_self (a : ByteArray) : cmpS a a = 0 := by
  unfold cmpS; rw [if_neg (by unfold slt; rw [bytesLess_irrefl]; decide), if_pos rfl]
theorem cmpS_ne {a b : ByteArray} (h : ¬ a = b) : cmpS a b ≠ 0 := by
  unfold cmpS; rw [if_neg h]; split <;> decide
def lexI (f : Nat → Int) : Nat → Nat → Int
  | 0, _ => 0
  | n + 1, i => if f i = 0 then lexI f n (i + 1) else f i
theorem forN_lex {f : Nat → Int} {g : Nat → Unit → Option (Flow Int Unit)} {k : Unit → Option Int} (hk : k () = some 0) : ∀ (n i : Nat), (∀ j, i ≤ j → j < i + n → g j () = some (bif decide (f j = 0) then .nx () else .rt (f j))) →
    thenL (forN g n i ()) k = some (lexI f n i)
  | 0, i, _ => by rw [forN_zero, thenL_inr, hk]; rfl
  | n + 1, i, h => by
    have g1 := h i (Nat.le_refl _) (by omega)
    rw [lexI]
    by_cases e : f i = 0
    · rw [forN_nx (s' := ()) (by rw [g1, decide_eq_true e]; rfl), if_pos e]
      exact forN_lex hk n (i + 1) (fun j h1 h2 => h j (by omega) (by omega))
    · rw [forN_rt (r := f i) (by rw [g1, decide_eq_false e]; rfl), if_neg e, thenL_inl]
theorem cmp_both (a : Term) : ∀ b : Term, a.Ok → a.good = true → b.Ok → b.good = true → ∃ r, ∀ n, 2 * SizeOf.sizeOf a ≤ n → spec_l2CompareN n a b = some r ∧ impl_compareTermsN n a b = some r := by
  refine Term.ind' (M := fun a => ∀ b : Term, a.Ok → a.good = true → b.Ok → b.good = true → ∃ r, ∀ n, 2 * SizeOf.sizeOf a ≤ n → spec_l2CompareN n a b = some r ∧ impl_compareTermsN n a b = some r) (fun a ih b oka ga okb gb => ?_) a
  have hp := a.pos
  have ia := isVar_good ga
  have ib := isVar_good gb
  have sa := l2Var_eq a.Name oka.u.1
  have sb := l2Var_eq b.Name okb.u.1
  have gargs : ∀ {t : Term}, t.good = true → ∀ x ∈ t.Args, x.good = true := fun {t} g x hx => by
    rcases nameCase g with ⟨_, h⟩ | ⟨_, _, _, h⟩
    · rw [h] at hx; simp at hx
    · exact h x hx
  have hch : ∀ x ∈ a.Args, ∃ R : Term → Int, ∀ y ∈ b.Args, ∀ n, 2 * SizeOf.sizeOf x ≤ n → spec_l2CompareN n x y = some (R y) ∧ impl_compareTermsN n x y = some (R y) := fun x hx =>
    mem_choice (fun y hy => ih x hx y (oka.u.2.2 x hx) (gargs ga x hx) (okb.u.2.2 y hy) (gargs gb y hy))
  obtain ⟨R, hR⟩ := mem_choice hch
  let w : Int := if a.Name = b.Name then (if a.Args.length < b.Args.length then -1 else if b.Args.length < a.Args.length then 1 else lexI (fun j => R (a.Args.getD j default) (b.Args.getD j default)) a.Args.length 0) else cmpS a.Name b.Name
  have hS : ∀ n, 2 * SizeOf.sizeOf a ≤ n + 1 → (bif decide (a.Name = b.Name) then
          bif decide ((a.Args.length : Int) < (b.Args.length : Int)) then
            some (-1 : Int)
          else
            bif decide ((b.Args.length : Int) < (a.Args.length : Int)) then
              some (1 : Int)
            else
              thenL (ρ := Int) (σ := Unit) (forN (fun (i13 : Nat) (s13 : Unit) =>
                Option.bind (idx a.Args (i13 : Int)) fun v64 =>
                Option.bind (idx b.Args (i13 : Int)) fun v69 =>
                Option.bind (spec_l2CompareN n v64 v69) fun v71 =>
                bif decide (v71 = (0 : Int)) then
                  some (.nx ())
                else
                  some (.rt v71)) a.Args.length 0 ()) fun s13 =>
              some (0 : Int)
        else
          Option.bind (spec_l2Text a.Name b.Name) fun v37 =>
          some v37) = some w := by
    intro n hn
    simp only [w]
    by_cases e : a.Name = b.Name
    · rw [decide_eq_true e, if_pos e, cond_true]
      by_cases e1 : a.Args.length < b.Args.length
      · rw [decide_eq_true (show (a.Args.length : Int) < (b.Args.length : Int) by omega), if_pos e1]; rfl
      · rw [decide_eq_false (show ¬ (a.Args.length : Int) < (b.Args.length : Int) by omega), if_neg e1, cond_false]
        by_cases e2 : b.Args.length < a.Args.length
        · rw [decide_eq_true (show (b.Args.length : Int) < (a.Args.length : Int) by omega), if_pos e2]; rfl
        · rw [decide_eq_false (show ¬ (b.Args.length : Int) < (a.Args.length : Int) by omega), if_neg e2, cond_false]
          refine forN_lex rfl _ _ (fun j _ hj => ?_)
          have ha := getD_mem (l := a.Args) (i := j) (by omega)
          have hb := getD_mem (l := b.Args) (i := j) (by omega)
          rw [idx_getD (by omega), Option.bind_some, idx_getD (by omega), Option.bind_some, (hR _ ha _ hb n (by have := Term.lt ha; omega)).1, Option.bind_some]
          cases decide (R (a.Args.getD j default) (b.Args.getD j default) = 0) <;> rfl
    · rw [decide_eq_false e, if_neg e, cond_false, l2Text_eq]; rfl
  have hI : ∀ n, 2 * SizeOf.sizeOf a ≤ n + 1 → (Option.bind (cmp_Compare_string a.Name b.Name) fun v28 =>
        Option.bind (cmp_Compare_int (a.Args.length : Int) (b.Args.length : Int)) fun v35 =>
        Option.bind (cmp_Or_int ([v28, v35])) fun v37 =>
        bif decide (v37 = (0 : Int)) then
          Option.bind (slices_CompareFunc_Simpl_Term_Simpl_Term_impl_Term_impl_Term a.Args b.Args (fun y0 y1 => impl_compareTermsN n y0 y1)) fun v45 =>
          some v45
        else
          some v37) = some w := by
    intro n hn
    simp only [w]
    rw [CompareS_eq, Option.bind_some, Compare_eq, Option.bind_some, Or2_eq, Option.bind_some]
    by_cases e : a.Name = b.Name
    · rw [if_pos e, e, cmpS_self, if_pos rfl]
      unfold cmpI
      by_cases e1 : a.Args.length < b.Args.length
      · rw [if_pos (show (a.Args.length : Int) < (b.Args.length : Int) by omega), if_pos e1]; rfl
      · rw [if_neg (show ¬ (a.Args.length : Int) < (b.Args.length : Int) by omega), if_neg e1]
        by_cases e2 : b.Args.length < a.Args.length
        · rw [if_pos (show (b.Args.length : Int) < (a.Args.length : Int) by omega), if_pos e2]; rfl
        · rw [if_neg (show ¬ (b.Args.length : Int) < (a.Args.length : Int) by omega), if_neg e2, decide_eq_true rfl, cond_true]
          unfold slices_CompareFunc_Simpl_Term_Simpl_Term_impl_Term_impl_Term
          rw [forN_lex (f := fun j => R (a.Args.getD j default) (b.Args.getD j default)) (by rw [decide_eq_false (show ¬ (a.Args.length : Int) < (b.Args.length : Int) by omega)]; rfl) _ _ (fun j _ hj => ?_)]
          · rfl
          · have ha := getD_mem (l := a.Args) (i := j) (by omega)
            have hb := getD_mem (l := b.Args) (i := j) (by omega)
            rw [idx_getD (by omega), Option.bind_some, decide_eq_false (show ¬ (b.Args.length : Int) ≤ (j : Int) by omega), cond_false, idx_getD (by omega), Option.bind_some]
            have := (hR _ ha _ hb n (by have := Term.lt ha; omega)).2
            simp only [this, Option.bind_some]
            cases decide (R (a.Args.getD j default) (b.Args.getD j default) = 0) <;> rfl
    · have := cmpS_ne e
      rw [if_neg e, if_neg this, decide_eq_false this]; rfl
  refine ⟨bif isVarS a.Name then (bif isVarS b.Name then w else -1) else (bif isVarS b.Name then 1 else w), fun n hn => ?_⟩
  cases n with
  | zero => omega
  | succ n =>
    rw [spec_l2CompareN, impl_compareTermsN, sa, sb, ia, ib]
    simp only [Option.bind_some]
    have h1 := hS n hn
    have h2 := hI n hn
    cases isVarS a.Name <;> cases isVarS b.Name <;> simp only [cond_true, cond_false]
    · exact ⟨h1, h2⟩
    · exact ⟨trivial, trivial⟩
    · exact ⟨trivial, trivial⟩
    · exact ⟨h1, h2⟩
noncomputable def cmpR (a b : Term) : Int := (spec_l2Compare a b).getD 0
theorem cmpR_spec {a b : Term} (h1 : a.Ok) (h2 : a.good = true) (h3 : b.Ok) (h4 : b.good = true) : spec_l2Compare a b = some (cmpR a b) ∧ impl_compareTerms a b = some (cmpR a b) := by
  obtain ⟨r, hr⟩ := cmp_both a b h1 h2 h3 h4
  have e1 : spec_l2Compare a b = some r := lim_eq ⟨_, fun n hn => (hr n hn).1⟩
  have e2 : impl_compareTerms a b = some r := lim_eq ⟨_, fun n hn => (hr n hn).2⟩
  unfold cmpR
  rw [e1, e2]; exact ⟨rfl, rfl⟩
noncomputable def ascC (l : List Term) (j : Nat) : Bool := decide (j = 0) || decide (cmpR (l.getD (j - 1) default) (l.getD j default) < 0)
noncomputable def asc (l : List Term) : Bool := (List.range l.length).all (ascC l)
theorem asc_impl {l : List Term} (hok : LOk Term.Ok l) (hg : ∀ a ∈ l, a.good = true) : impl_areAscending l = some (asc l && decide (l.length ≤ 12)) := by
  unfold impl_areAscending asc
  rw [forN_all (ascC l)]
  · cases (List.range l.length).all (ascC l)
    · rfl
    · rw [cond_true, Bool.true_and]; congr 1; exact decide_eq_decide.2 (by omega)
  · intro j hj _
    by_cases h0 : j = 0
    · subst h0; rfl
    · have hb := hok.1
      have hp := getD_mem (l := l) (i := j - 1) (by omega)
      have hq := getD_mem (l := l) (i := j) (by omega)
      rw [decide_eq_true (show (0 : Int) < (j : Int) by omega), cond_true, idx_pred hj (by omega) (by simp only [Big] at hb; omega), Option.bind_some, idx_getD hj, Option.bind_some,
        (cmpR_spec (hok.2 _ hp) (hg _ hp) (hok.2 _ hq) (hg _ hq)).2, Option.bind_some]
      unfold ascC
      rw [decide_eq_false h0, Bool.false_or]
      by_cases c : cmpR (l.getD (j - 1) default) (l.getD j default) < 0
      · rw [decide_eq_true c, decide_eq_false (by omega)]; rfl
      · rw [decide_eq_false c, decide_eq_true (by omega)]; rfl
theorem asc_spec {l : List Term} (hok : LOk Term.Ok l) (hg : ∀ a ∈ l, a.good = true) : spec_l22Rising l = some (asc l) := by
  unfold spec_l22Rising asc
  by_cases hn : 0 < l.length
  · rw [forN_all1 (ascC l) hn (by rfl)]
    · cases (List.range l.length).all (ascC l) <;> rfl
    · intro j h0 hj _
      have hb := hok.1
      have hp := getD_mem (l := l) (i := j - 1) (by omega)
      have hq := getD_mem (l := l) (i := j) (by omega)
      rw [idx_pred hj (by omega) (by simp only [Big] at hb; omega), Option.bind_some, idx_getD hj, Option.bind_some,
        (cmpR_spec (hok.2 _ hp) (hg _ hp) (hok.2 _ hq) (hg _ hq)).1, Option.bind_some]
      unfold ascC
      rw [decide_eq_false (show ¬ j = 0 by omega), Bool.false_or]
      by_cases c : cmpR (l.getD (j - 1) default) (l.getD j default) < 0
      · rw [decide_eq_true c, decide_eq_false (by omega)]; rfl
      · rw [decide_eq_false c, decide_eq_true (by omega)]; rfl
  · have : l = [] := List.length_eq_zero_iff.1 (by omega)
    subst this; rfl
def nameA : ByteArray := ⟨#[65]⟩
def gndT (t : Term) : Bool := goodT t && t.vars.isEmpty
def patT (t : Term) : Bool := goodT t && t.vars.all (fun x => decide (x = nameA))
theorem goodT_u {t : Term} (h : goodT t = true) : t.good = true ∧ t.cnt ≤ 1000 := by
  unfold goodT smallT at h
  simp only [Bool.and_eq_true, decide_eq_true_eq] at h
  exact ⟨h.2, by omega⟩
theorem isGround_eq (t : Term) (h : t.tot ≤ 1048576) (hok : t.Ok) : impl_isGroundTerm t = some (gndT t) := by
  unfold impl_isGroundTerm gndT
  rw [IsValidTerm_ok t h hok, Option.bind_some]
  cases hg : goodT t
  · rfl
  · obtain ⟨v, h1, h2⟩ := collect_ok (goodT_u hg).1 (goodT_u hg).2
    rw [cond_true, h1, Option.bind_some, len0_of h2]; rfl
theorem notGround_eq (t : Term) (h : t.tot ≤ 1048576) (hok : t.Ok) : impl_notGround t = some (!gndT t) := by
  unfold impl_notGround; rw [isGround_eq t h hok]; rfl
theorem any_iff {v w : List ByteArray} (h : ∀ x, x ∈ v ↔ x ∈ w) (p : ByteArray → Bool) : v.any p = w.any p := by
  rw [Bool.eq_iff_iff, List.any_eq_true, List.any_eq_true]
  exact ⟨fun ⟨x, a, b⟩ => ⟨x, (h x).1 a, b⟩, fun ⟨x, a, b⟩ => ⟨x, (h x).2 a, b⟩⟩
theorem isPattern_eq (t : Term) (h : t.tot ≤ 1048576) (hok : t.Ok) : impl_isPattern t = some (patT t) := by
  unfold impl_isPattern patT
  rw [IsValidTerm_ok t h hok, Option.bind_some]
  cases hg : goodT t
  · rfl
  · obtain ⟨v, h1, h2⟩ := collect_ok (goodT_u hg).1 (goodT_u hg).2
    rw [cond_true, h1, Option.bind_some]
    unfold slices_ContainsFunc_Sstring_string slices_IndexFunc_Sstring_string
    rw [find_list (f := fun y0 => impl_isPattern_1 y0) (p := fun x => !decide (x = nameA)) v (fun a ha => rfl), Option.bind_some, any_iff h2, Bool.true_and, List.all_eq_not_any_not]
theorem ground_spec (t : Term) (hok : t.Ok) (hg : goodT t = true) : spec_l16Ground t = some t.vars.isEmpty := by
  obtain ⟨v, h1, h2, _⟩ := l2Vars_ok hok (goodT_u hg).1 (goodT_u hg).2
  unfold spec_l16Ground
  rw [h1, Option.bind_some, len0_of h2]
theorem l16_spec {l : List Term} (hok : LOk Term.Ok l) (ht : ∀ a ∈ l, a.tot ≤ 1048576) (h12 : l.length ≤ 12) : spec_l16Terms l = some (l.all gndT) := by
  unfold spec_l16Terms
  rw [forN_all (fun j => gndT (l.getD j default)) (r0 := false), range_all_list l gndT]
  · rw [decide_eq_true (show (l.length : Int) ≤ 60 by omega)]
    cases l.all gndT <;> rfl
  · intro j hj _
    have hm := getD_mem hj
    rw [decide_eq_true (show (j : Int) ≤ 60 by omega), cond_true, idx_getD hj, Option.bind_some, l2Good_ok _ (ht _ hm) (hok.2 _ hm), Option.bind_some]
    unfold gndT
    cases hg : goodT (l.getD j default)
    · rfl
    · rw [cond_true, Option.bind_some, ground_spec _ (hok.2 _ hm) hg, Option.bind_some]
      cases (l.getD j default).vars.isEmpty <;> rfl
def patD (e : Bool) (t : Term) : Bool := patT t && (!e || gndT t)
theorem pat_step {ρ : Type} {e : Bool} {t : Term} (hok : t.Ok) (hg : goodT t = true) (f : ρ) (k : ρ) : (Option.bind (spec_l2Vars t) fun v40 =>
            bif decide ((1 : Int) < (v40.length : Int)) then
              some f
            else
              bif decide ((v40.length : Int) = (1 : Int)) then
                Option.bind (idx v40 (0 : Int)) fun v50 =>
                bif decide (v50 = (⟨#[65]⟩ : ByteArray)) then
                  bif e then
                    some f
                  else
                    some k
                else
                  some f
              else
                some k) = some (bif patD e t then k else f) := by
  obtain ⟨v, h1, h2, h3⟩ := l2Vars_ok hok (goodT_u hg).1 (goodT_u hg).2
  have hall : t.vars.all (fun x => decide (x = nameA)) = v.all (fun x => decide (x = nameA)) := by
    rw [List.all_eq_not_any_not, List.all_eq_not_any_not, any_iff h2]
  have hemp : t.vars.isEmpty = v.isEmpty := by rw [← len0_of h2, isEmpty_dec]
  unfold patD patT gndT
  rw [h1, Option.bind_some, hg, hall, hemp]
  cases v with
  | nil => cases e <;> rfl
  | cons a v =>
    cases v with
    | nil =>
      rw [decide_eq_false (by simp), cond_false, decide_eq_true (by simp), cond_true, show idx [a] (0 : Int) = some a from rfl, Option.bind_some]
      rw [show (⟨#[65]⟩ : ByteArray) = nameA from rfl]
      by_cases c : a = nameA
      · simp only [List.all_cons, List.all_nil, List.isEmpty_cons, decide_eq_true c]
        cases e <;> rfl
      · simp only [List.all_cons, List.all_nil, List.isEmpty_cons, decide_eq_false c]
        cases e <;> rfl
    | cons b v =>
      rw [decide_eq_true (by simp only [List.length_cons]; omega), cond_true]
      have hab : ¬ (a = nameA ∧ b = nameA) := by
        rintro ⟨rfl, rfl⟩
        unfold Srt at h3
        rw [List.pairwise_cons] at h3
        have := h3.1 nameA (by simp)
        unfold slt at this
        rw [bytesLess_irrefl] at this; cases this
      have : ((a :: b :: v).all fun x => decide (x = nameA)) = false := by
        simp only [List.all_cons]
        by_cases c : a = nameA
        · rw [decide_eq_false (fun g => hab ⟨c, g⟩)]; simp
        · rw [decide_eq_false c]; rfl
      rw [this]; rfl
noncomputable def validD (d : Decomposition) : Bool := decide (d.Patterns.length ≤ 12) && decide (d.Instances.length ≤ 12) && d.Instances.all gndT && d.Patterns.all (patD d.Instances.isEmpty) && asc d.Patterns && asc d.Instances
theorem gnd_good {l : List Term} (h : l.all gndT = true) : ∀ a ∈ l, a.good = true := fun a ha => by
  have := List.all_eq_true.1 h a ha
  unfold gndT at this
  rw [Bool.and_eq_true] at this
  exact (goodT_u this.1).1
theorem pat_good {l : List Term} (h : l.all patT = true) : ∀ a ∈ l, a.good = true := fun a ha => by
  have := List.all_eq_true.1 h a ha
  unfold patT at this
  rw [Bool.and_eq_true] at this
  exact (goodT_u this.1).1
theorem patD_all (e : Bool) (l : List Term) : l.all (patD e) = (l.all patT && (!e || l.all gndT)) := by
  induction l with
  | nil => cases e <;> rfl
  | cons a l ih =>
    simp only [List.all_cons, ih, patD]
    cases e <;> cases patT a <;> cases gndT a <;> cases l.all patT <;> cases l.all gndT <;> rfl
theorem tot_mem {l : List Term} {a : Term} (h : a ∈ l) : a.tot ≤ ltot Term.tot l := by
  have := le_sum_mem Term.tot h
  unfold ltot; omega
theorem spec_dec (d : Decomposition) (hok : d.Ok) (ht : d.tot ≤ 1048576) : spec_IsValidDecomposition d = some (validD d) := by
  unfold spec_IsValidDecomposition spec_l22Good validD
  unfold Decomposition.tot at ht
  by_cases h1 : d.Patterns.length ≤ 12
  · rw [decide_eq_false (show ¬ (12 : Int) < (d.Patterns.length : Int) by omega), cond_false, decide_eq_true h1, Bool.true_and]
    by_cases h2 : d.Instances.length ≤ 12
    · rw [decide_eq_false (show ¬ (12 : Int) < (d.Instances.length : Int) by omega), cond_false, decide_eq_true h2, Bool.true_and,
        l16_spec hok.2 (fun a ha => by have := tot_mem ha; omega) h2, Option.bind_some]
      cases hI : d.Instances.all gndT
      · rfl
      · rw [cond_true, Bool.true_and, forN_all (fun j => patD d.Instances.isEmpty (d.Patterns.getD j default)) (r0 := false), range_all_list d.Patterns (patD d.Instances.isEmpty)]
        · cases hP : d.Patterns.all (patD d.Instances.isEmpty)
          · rfl
          · have hP2 := hP
            rw [patD_all, Bool.and_eq_true] at hP2
            rw [cond_true, asc_spec hok.1 (pat_good hP2.1), Option.bind_some, asc_spec hok.2 (gnd_good hI), Option.bind_some]
            cases asc d.Patterns <;> rfl
        · intro j hj _
          have hm := getD_mem hj
          rw [idx_getD hj, Option.bind_some, l2Good_ok _ (by have := tot_mem hm; omega) (hok.1.2 _ hm), Option.bind_some]
          cases hg : goodT (d.Patterns.getD j default)
          · simp only [patD, patT, hg]; rfl
          · have := pat_step (ρ := Flow Bool Unit) (e := d.Instances.isEmpty) (hok.1.2 _ hm) hg (.rt false) (.nx ())
            rw [cond_true, Option.bind_some, ← this, ← isEmpty_dec]
    · rw [decide_eq_true (show (12 : Int) < (d.Instances.length : Int) by omega), decide_eq_false h2]; rfl
  · rw [decide_eq_true (show (12 : Int) < (d.Patterns.length : Int) by omega), decide_eq_false h1]; rfl
theorem contF {p : Term → Bool} {f : Term → Option Bool} (l : List Term) (h : ∀ a ∈ l, f a = some (!p a)) : slices_ContainsFunc_Simpl_Term_impl_Term l f = some (!l.all p) := by
  unfold slices_ContainsFunc_Simpl_Term_impl_Term slices_IndexFunc_Simpl_Term_impl_Term
  rw [find_list (p := fun a => !p a) l h, List.all_eq_not_any_not, Bool.not_not]
theorem impl_dec (d : Decomposition) (hok : d.Ok) (ht : d.tot ≤ 1048576) : impl_IsValidDecomposition d = some (validD d) := by
  unfold impl_IsValidDecomposition validD
  unfold Decomposition.tot at ht
  have tI : ∀ a ∈ d.Instances, impl_notGround a = some (!gndT a) := fun a ha => notGround_eq a (by have := tot_mem ha; omega) (hok.2.2 a ha)
  have tP : ∀ a ∈ d.Patterns, impl_notGround a = some (!gndT a) := fun a ha => notGround_eq a (by have := tot_mem ha; omega) (hok.1.2 a ha)
  have tQ : ∀ a ∈ d.Patterns, impl_IsValidDecomposition_1 a = some (!patT a) := fun a ha => by
    unfold impl_IsValidDecomposition_1
    rw [isPattern_eq a (by have := tot_mem ha; omega) (hok.1.2 a ha)]; rfl
  rw [contF d.Instances tI, Option.bind_some, contF d.Patterns tQ, Option.bind_some, contF d.Patterns tP, Option.bind_some, patD_all]
  cases hI : d.Instances.all gndT
  · simp
  · cases hP : d.Patterns.all patT
    · simp
    · rw [asc_impl hok.1 (pat_good hP), Option.bind_some, asc_impl hok.2 (gnd_good hI), Option.bind_some]
      have : decide ((0 : Int) < (d.Instances.length : Int)) = !d.Instances.isEmpty := by cases d.Instances <;> simp
      rw [this]
      cases asc d.Patterns <;> cases asc d.Instances <;> cases decide (d.Patterns.length ≤ 12) <;> cases decide (d.Instances.length ≤ 12) <;> cases d.Instances.isEmpty <;> cases d.Patterns.all gndT <;> rfl
end Go.Proofs.Ytdmkceajaagpgaa
