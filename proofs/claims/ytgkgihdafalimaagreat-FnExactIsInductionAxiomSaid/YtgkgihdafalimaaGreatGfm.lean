/- A part of the proof: lemmas only; nothing is claimed here beyond what each lemma says. -/
import Derived.Test.YtgkgihdafalimaaGreatGxA
set_option linter.unusedSimpArgs false
set_option linter.unusedVariables false
set_option linter.defProp false
set_option maxRecDepth 4000
namespace Go.Proofs.YtgkgihdafalimaaGreat
open Go.Av
/-! atoms -/
def zeroT (t : Term) : Bool := decide (t.Name = (⟨#[]⟩ : ByteArray)) && t.Args.isEmpty
theorem zeroT_impl (t : Term) : impl_isZeroTerm t = some (zeroT t) := by
  unfold impl_isZeroTerm zeroT
  rw [isEmpty_dec]
  cases decide (t.Name = (⟨#[]⟩ : ByteArray)) <;> rfl
theorem zeroT_spec (t : Term) : spec_l8None t = some (zeroT t) := zeroT_impl t
def atomT (t : Term) : Bool := bif decide (t.Name = (⟨#[61]⟩ : ByteArray)) then decide (t.Args.length = 2) && (smallT t && t.Args.all Term.good) else isSymS t.Name && goodT t
theorem two_args {l : List Term} (h : l.length = 2) : ∃ x y, l = [x, y] := by
  match l, h with
  | [x, y], _ => exact ⟨x, y, rfl⟩
theorem hasNames_ok (t : Term) (hok : t.Ok) : impl_hasNames t = some t.good := lim_eq ⟨_, impl_hasNamesN_eq t hok⟩
theorem l2Nodes_ok (t : Term) (hok : t.Ok) : spec_l2Nodes t = some t.good := lim_eq ⟨_, spec_l2NodesN_eq t hok⟩
theorem atom_impl (t : Term) (h : t.tot ≤ 1048576) (hok : t.Ok) : impl_IsValidAtom t = some (atomT t) := by
  unfold impl_IsValidAtom atomT impl_isEquality
  obtain ⟨hx, hl, hall⟩ := hok.u
  rw [isSymbol_eq _ hx, IsValidTerm_ok t h hok, isSmall_ok t h]
  simp only [Option.bind_some]
  cases decide (t.Name = (⟨#[61]⟩ : ByteArray))
  · simp only [cond_false]; cases isSymS t.Name <;> rfl
  · by_cases h2 : t.Args.length = 2
    · obtain ⟨x, y, e⟩ := two_args h2
      rw [decide_eq_true (show (t.Args.length : Int) = 2 by omega), decide_eq_true h2]
      simp only [cond_true, Bool.true_and]
      cases smallT t
      · rfl
      · rw [e] at hall ⊢
        rw [show (0 : Int) = ((0 : Nat) : Int) from rfl, show (1 : Int) = ((1 : Nat) : Int) from rfl, idx_nat, idx_nat]
        simp only [List.getElem?_cons_zero, List.getElem?_cons_succ, Option.bind_some, hasNames_ok x (hall x (by simp)), hasNames_ok y (hall y (by simp)), cond_true, Bool.true_and, List.all_cons, List.all_nil, Bool.and_true]
        cases x.good <;> rfl
    · rw [decide_eq_false (show ¬ (t.Args.length : Int) = 2 by omega), decide_eq_false h2]; rfl
theorem atom_spec (t : Term) (h : t.tot ≤ 1048576) (hok : t.Ok) : spec_l2Atom t = some (atomT t) := by
  unfold spec_l2Atom atomT
  obtain ⟨hx, hl, hall⟩ := hok.u
  rw [l2Symbol_eq _ hx, l2Good_ok t h hok, l2Fits_ok t h]
  simp only [Option.bind_some]
  cases decide (t.Name = (⟨#[61]⟩ : ByteArray))
  · simp only [cond_false]; cases isSymS t.Name <;> rfl
  · by_cases h2 : t.Args.length = 2
    · obtain ⟨x, y, e⟩ := two_args h2
      rw [decide_eq_true (show (t.Args.length : Int) = 2 by omega), decide_eq_true h2]
      simp only [cond_true, Bool.true_and]
      cases smallT t
      · rfl
      · rw [e] at hall ⊢
        rw [show (0 : Int) = ((0 : Nat) : Int) from rfl, show (1 : Int) = ((1 : Nat) : Int) from rfl, idx_nat, idx_nat]
        simp only [List.getElem?_cons_zero, List.getElem?_cons_succ, Option.bind_some, l2Nodes_ok x (hall x (by simp)), l2Nodes_ok y (hall y (by simp)), cond_true, Bool.true_and, List.all_cons, List.all_nil, Bool.and_true]
        cases x.good <;> rfl
    · rw [decide_eq_false (show ¬ (t.Args.length : Int) = 2 by omega), decide_eq_false h2]; rfl
/-! sizes -/
mutual
def Formula.cnt : Formula → Nat
  | .mk _ _ _ l => 1 + Formula.cnts l
def Formula.cnts : List Formula → Nat
  | [] => 0
  | a :: l => a.cnt + Formula.cnts l
end
theorem Formula.cnts_eq (l : List Formula) : Formula.cnts l = (l.map Formula.cnt).sum := by
  induction l with
  | nil => rfl
  | cons a l ih => rw [Formula.cnts, ih, List.map_cons, List.sum_cons]
theorem Formula.cnt_u (a : Formula) : a.cnt = 1 + (a.Parts.map Formula.cnt).sum := by cases a; rw [Formula.cnt, Formula.cnts_eq]; rfl
theorem sum_le_ltot {α : Type} {c t : α → Nat} : ∀ l : List α, (∀ a ∈ l, c a ≤ 1 + t a) → (l.map c).sum ≤ ltot t l
  | [], _ => by simp [ltot]
  | a :: l, h => by
    have h1 := h a (by simp)
    have h2 := sum_le_ltot l (fun b hb => h b (by simp [hb]))
    simp only [ltot, List.map_cons, List.sum_cons, List.length_cons] at h2 ⊢
    omega
theorem Formula.cnt_tot (t : Formula) : t.cnt ≤ 1 + t.tot := by
  refine Formula.ind' (M := fun t => t.cnt ≤ 1 + t.tot) (fun t ih => ?_) t
  rw [Formula.cnt_u, Formula.tot_u]
  have := sum_le_ltot (c := Formula.cnt) (t := Formula.tot) t.Parts ih
  omega
theorem Formula.cnt_pos (t : Formula) : 1 ≤ t.cnt := by rw [Formula.cnt_u]; omega
theorem gsize_loop {α : Type} (cnt : α → Nat) (L : Nat) (hL : L ≤ 1000) (f : α → Option Int) : ∀ (l : List α) (i : Nat) (s : Int) (c0 : Nat), (∀ a ∈ l, ∃ r, f a = some r ∧ Cap L (cnt a) r) → 1 ≤ s → s ≤ c0 → (c0 ≤ L → s = c0) → (L < c0 → L < s) → c0 + (l.map cnt).sum ≤ 2097152 →
    ∃ r, thenL (ρ := Int) (forL (fun _ v s => bif decide ((L : Int) < s) then some (.rt s) else (f v).bind fun w => some (.nx (wr (s + w)))) l i s) (fun s => some s) = some r ∧ Cap L (c0 + (l.map cnt).sum) r
  | [], i, s, c0, _, h1, h2, h3, h4, _ => ⟨s, rfl, by simpa using ⟨h1, h2, h3, h4⟩⟩
  | a :: l, i, s, c0, hf, h1, h2, h3, h4, hb => by
    simp only [List.map_cons, List.sum_cons] at hb ⊢
    by_cases e : (L : Int) < s
    · rw [forL_rt (r := s) (by rw [decide_eq_true e]; rfl), thenL_inl]
      exact ⟨s, rfl, h1, by omega, fun g => by omega, fun _ => e⟩
    · obtain ⟨r, hr, c1, c2, c3, c4⟩ := hf a (by simp)
      have hs : s = c0 := h3 (by omega)
      rw [forL_nx (s' := wr (s + r)) (by rw [decide_eq_false e, cond_false, hr]; rfl), wr64 (by omega) (by omega)]
      have := gsize_loop cnt L hL f l (i + 1) (s + r) (c0 + cnt a) (fun b hb => hf b (by simp [hb])) (by omega) (by omega) (fun g => by have := c3 (by omega); omega) (fun g => by
        by_cases g2 : cnt a ≤ L
        · have := c3 g2; omega
        · have := c4 (by omega); omega) (by omega)
      rwa [Nat.add_assoc] at this
theorem gmany_loop {α : Type} (cnt : α → Nat) (M : Nat) (hM : M ≤ 1000) (f : α → Int → Option Int) (L : Nat) (hL : L ≤ M) : ∀ (l : List α) (i : Nat) (s : Int) (c0 : Nat), (∀ a ∈ l, ∀ L' : Nat, L' ≤ M → ∃ r, f a L' = some r ∧ Cap L' (cnt a) r) → 1 ≤ s → s ≤ c0 → (c0 ≤ L → s = c0) → (L < c0 → L < s) → c0 + (l.map cnt).sum ≤ 2097152 →
    ∃ r, thenL (ρ := Int) (forL (fun _ v s => bif decide (s ≤ (L : Int)) then (f v (wr ((L : Int) - s))).bind fun w => some (.nx (wr (s + w))) else some (.rt s)) l i s) (fun s => some s) = some r ∧ Cap L (c0 + (l.map cnt).sum) r
  | [], i, s, c0, _, h1, h2, h3, h4, _ => ⟨s, rfl, by simpa using ⟨h1, h2, h3, h4⟩⟩
  | a :: l, i, s, c0, hf, h1, h2, h3, h4, hb => by
    simp only [List.map_cons, List.sum_cons] at hb ⊢
    by_cases e : s ≤ (L : Int)
    · have hs : s = c0 := h3 (by omega)
      have eL : wr ((L : Int) - s) = ((L - c0 : Nat) : Int) := by rw [wr64 (by omega) (by omega)]; omega
      obtain ⟨r, hr, c1, c2, c3, c4⟩ := hf a (by simp) (L - c0) (by omega)
      rw [forL_nx (s' := wr (s + r)) (by rw [decide_eq_true e, cond_true, eL, hr]; rfl), wr64 (by omega) (by omega)]
      have := gmany_loop cnt M hM f L hL l (i + 1) (s + r) (c0 + cnt a) (fun b hb => hf b (by simp [hb])) (by omega) (by omega) (fun g => by have := c3 (by omega); omega) (fun g => by
        by_cases g2 : cnt a ≤ L - c0
        · omega
        · have := c4 (by omega); omega) (by omega)
      rwa [Nat.add_assoc] at this
    · rw [forL_rt (r := s) (by rw [decide_eq_false e]; rfl), thenL_inl]
      exact ⟨s, rfl, h1, by omega, fun g => by omega, fun _ => by omega⟩
theorem sizeOf_eq (t : Formula) : t.cnt ≤ 2097152 → ∃ r, (∀ n, 2 * SizeOf.sizeOf t ≤ n → impl_sizeOfN n t = some r) ∧ Cap 40 t.cnt r := by
  refine Formula.ind' (M := fun t => t.cnt ≤ 2097152 → ∃ r, (∀ n, 2 * SizeOf.sizeOf t ≤ n → impl_sizeOfN n t = some r) ∧ Cap 40 t.cnt r) (fun t ih hc => ?_) t
  rw [Formula.cnt_u] at hc ⊢
  have hp := t.pos
  obtain ⟨R, hR⟩ := mem_choice (fun a ha => ih a ha (by have := le_sum_mem Formula.cnt ha; omega))
  obtain ⟨r, h1, h2⟩ := gsize_loop Formula.cnt 40 (by omega) (fun a => some (R a)) t.Parts 0 1 1 (fun a ha => ⟨R a, rfl, (hR a ha).2⟩) (by omega) (by omega) (by omega) (by omega) hc
  refine ⟨r, fun n hn => ?_, h2⟩
  cases n with
  | zero => omega
  | succ n =>
    rw [impl_sizeOfN]
    simp only [forN_idx]
    rw [← h1]
    congr 1
    refine forL_congr t.Parts 0 1 (fun j a s ha => ?_)
    have ha := List.mem_of_getElem? ha
    have := Formula.lt ha
    simp only [(hR a ha).1 n (by omega)]
    rfl
theorem sizeOf_ok (t : Formula) (h : t.tot ≤ 1048576) : ∃ r, impl_sizeOf t = some r ∧ Cap 40 t.cnt r := by
  obtain ⟨r, h1, h2⟩ := sizeOf_eq t (by have := Formula.cnt_tot t; omega)
  exact ⟨r, lim_eq ⟨_, h1⟩, h2⟩
theorem l8Many_st (t : Formula) : ∀ n m, 2 * SizeOf.sizeOf t ≤ n → 2 * SizeOf.sizeOf t ≤ m → ∀ L, spec_l8ManyN n t L = spec_l8ManyN m t L := by
  refine Formula.ind' (M := fun t => ∀ n m, 2 * SizeOf.sizeOf t ≤ n → 2 * SizeOf.sizeOf t ≤ m → ∀ L, spec_l8ManyN n t L = spec_l8ManyN m t L) (fun t ih n m hn hm L => ?_) t
  have hp := t.pos
  cases n with
  | zero => omega
  | succ n =>
    cases m with
    | zero => omega
    | succ m =>
      rw [spec_l8ManyN, spec_l8ManyN]
      congr 1
      refine forN_congr _ _ _ (fun j s hj => ?_)
      simp only [Nat.zero_add] at hj ⊢
      rw [idx_getD hj]
      simp only [Option.bind_some]
      have hm' := getD_mem hj
      have := Formula.lt hm'
      rw [ih _ hm' n m (by omega) (by omega)]
theorem l8Many_eq (t : Formula) : t.cnt ≤ 2097152 → ∀ n, 2 * SizeOf.sizeOf t ≤ n → ∀ L : Nat, L ≤ 40 → ∃ r, spec_l8ManyN n t L = some r ∧ Cap L t.cnt r := by
  refine Formula.ind' (M := fun t => t.cnt ≤ 2097152 → ∀ n, 2 * SizeOf.sizeOf t ≤ n → ∀ L : Nat, L ≤ 40 → ∃ r, spec_l8ManyN n t L = some r ∧ Cap L t.cnt r) (fun t ih hc n hn L hL => ?_) t
  rw [Formula.cnt_u] at hc ⊢
  have hp := t.pos
  cases n with
  | zero => omega
  | succ n =>
    rw [spec_l8ManyN]
    obtain ⟨r, h1, h2⟩ := gmany_loop Formula.cnt 40 (by omega) (spec_l8ManyN n) L hL t.Parts 0 1 1 (fun a ha L' hL' => ih a ha (by have := le_sum_mem Formula.cnt ha; omega) n (by have := Formula.lt ha; omega) L' hL') (by omega) (by omega) (by omega) (by omega) hc
    refine ⟨r, ?_, h2⟩
    rw [← h1]
    congr 1
    refine forN_forL _ _ t.Parts 0 1 (fun j a s ha => ?_)
    simp only [Nat.zero_add, idx_nat, ha, Option.bind_some]
theorem l8Many_ok (t : Formula) (h : t.tot ≤ 1048576) : ∃ r, spec_l8Many t 40 = some r ∧ Cap 40 t.cnt r := by
  obtain ⟨r, h1, h2⟩ := l8Many_eq t (by have := Formula.cnt_tot t; omega) _ (Nat.le_refl _) 40 (by omega)
  exact ⟨r, lim_st (fun n hn => l8Many_st t _ _ hn (Nat.le_refl _) _) h1, h2⟩
/-! forms -/
def formC (o : Int) (t : Term) (v : ByteArray) (k : Nat) : Bool :=
  bif decide (o = 3) then decide (k = 0) && (atomT t && decide (v = (⟨#[]⟩ : ByteArray)))
  else bif decide (o = 8) || decide (o = 9) then decide (k = 1) && (zeroT t && isVarS v)
  else (bif decide (o = 1) || decide (o = 2) then decide (k = 0) else bif decide (o = 4) then decide (k = 1) else bif decide (o = 5) || (decide (o = 6) || decide (o = 7)) then decide (k = 2) else false) && (zeroT t && decide (v = (⟨#[]⟩ : ByteArray)))
theorem op_cases (o : Int) : o = 1 ∨ o = 2 ∨ o = 3 ∨ o = 4 ∨ o = 5 ∨ o = 6 ∨ o = 7 ∨ o = 8 ∨ o = 9 ∨ (o ≠ 1 ∧ o ≠ 2 ∧ o ≠ 3 ∧ o ≠ 4 ∧ o ≠ 5 ∧ o ≠ 6 ∧ o ≠ 7 ∧ o ≠ 8 ∧ o ≠ 9) := by omega
theorem l8Form_ok (a : Formula) (h : a.tot ≤ 1048576) (hok : a.Ok) : spec_l8Form a = some (formC a.Op a.Atom a.Var a.Parts.length) := by
  obtain ⟨h1, h2, h3, h4⟩ := hok.u
  have ht := a.tot_u
  unfold spec_l8Form formC
  have e0 : decide ((a.Parts.length : Int) = 0) = decide (a.Parts.length = 0) := decide_eq_decide.2 (by omega)
  have e1 : decide ((a.Parts.length : Int) = 1) = decide (a.Parts.length = 1) := decide_eq_decide.2 (by omega)
  have e2 : decide ((a.Parts.length : Int) = 2) = decide (a.Parts.length = 2) := decide_eq_decide.2 (by omega)
  rw [zeroT_spec, atom_spec _ (by omega) h2, l2Var_eq _ h3, e0, e1, e2]
  simp only [Option.bind_some]
  generalize zeroT a.Atom = z
  generalize atomT a.Atom = y
  generalize isVarS a.Var = x
  generalize decide (a.Parts.length = 0) = k0
  generalize decide (a.Parts.length = 1) = k1
  generalize decide (a.Parts.length = 2) = k2
  generalize decide (a.Var = (⟨#[]⟩ : ByteArray)) = u
  rcases op_cases a.Op with e | e | e | e | e | e | e | e | e | ⟨g1, g2, g3, g4, g5, g6, g7, g8, g9⟩
  all_goals first | (simp only [e]; revert z y x k0 k1 k2 u; decide) | (simp only [g1, g2, g3, g4, g5, g6, g7, g8, g9]; rfl)
mutual
def Formula.good : Formula → Bool
  | .mk o t v l => formC o t v l.length && Formula.goods l
def Formula.goods : List Formula → Bool
  | [] => true
  | a :: l => a.good && Formula.goods l
end
theorem Formula.goods_eq (l : List Formula) : Formula.goods l = l.all Formula.good := by
  induction l with
  | nil => rfl
  | cons a l ih => rw [Formula.goods, ih]; rfl
theorem Formula.good_u (a : Formula) : a.good = (formC a.Op a.Atom a.Var a.Parts.length && a.Parts.all Formula.good) := by cases a; rw [Formula.good, Formula.goods_eq]; rfl
theorem ltot_mem {α : Type} {t : α → Nat} {l : List α} {a : α} (h : a ∈ l) : t a ≤ ltot t l := by have := tot_mem t h; omega
theorem l8Forms_eq (a : Formula) : a.Ok → a.tot ≤ 1048576 → ∀ n, 3 * SizeOf.sizeOf a ≤ n → spec_l8FormsN n a = some a.good := by
  refine Formula.ind' (M := fun a => a.Ok → a.tot ≤ 1048576 → ∀ n, 3 * SizeOf.sizeOf a ≤ n → spec_l8FormsN n a = some a.good) (fun a ih hok ht n hn => ?_) a
  obtain ⟨h1, h2, h3, h4, hall⟩ := hok.u
  have hpos := a.pos
  have htu := a.tot_u
  cases n with
  | zero => omega
  | succ n =>
    rw [spec_l8FormsN, l8Form_ok a ht hok, Formula.good_u, Option.bind_some]
    cases formC a.Op a.Atom a.Var a.Parts.length
    · rfl
    · rw [cond_true, Bool.true_and, forN_all (fun j => (a.Parts.getD j default).good) (fun j hj _ => ?_), range_all_list a.Parts Formula.good]
      · cases a.Parts.all Formula.good <;> rfl
      · have ha := getD_mem hj
        have hs := Formula.lt ha
        have hm := ltot_mem (t := Formula.tot) ha
        simp only [idx_getD hj, Option.bind_some, ih _ ha (hall _ ha) (by omega) n (by omega)]
        cases (a.Parts.getD j default).good <;> rfl
theorem isQ_eq (x : Int) : impl_isQuantifier x = some (decide (x = 8) || decide (x = 9)) := by
  unfold impl_isQuantifier
  cases decide (x = 8) <;> rfl
theorem isBin_eq (x : Int) : impl_isBinary x = some (decide (x = 5) || (decide (x = 6) || decide (x = 7))) := by
  unfold impl_isBinary
  cases decide (x = 5) <;> cases decide (x = 6) <;> rfl
theorem contFm {p : Formula → Bool} {f : Formula → Option Bool} (l : List Formula) (h : ∀ a ∈ l, f a = some (p a)) : slices_ContainsFunc_Simpl_Formula_impl_Formula l f = some (l.any p) := by
  unfold slices_ContainsFunc_Simpl_Formula_impl_Formula slices_IndexFunc_Simpl_Formula_impl_Formula
  exact find_list (p := p) l h
theorem hasForm_eq (a : Formula) : a.Ok → a.tot ≤ 1048576 → ∀ n, 3 * SizeOf.sizeOf a ≤ n → impl_hasFormN n a = some a.good := by
  refine Formula.ind' (M := fun a => a.Ok → a.tot ≤ 1048576 → ∀ n, 3 * SizeOf.sizeOf a ≤ n → impl_hasFormN n a = some a.good) (fun a ih hok ht n hn => ?_) a
  obtain ⟨h1, h2, h3, h4, hall⟩ := hok.u
  have hpos := a.pos
  have htu := a.tot_u
  cases n with
  | zero => omega
  | succ n =>
    have hc : slices_ContainsFunc_Simpl_Formula_impl_Formula a.Parts (fun y0 => impl_hasForm_1N n y0) = some (!a.Parts.all Formula.good) := by
      rw [contFm (p := fun x => !x.good) a.Parts (fun x hx => ?_), List.all_eq_not_any_not, Bool.not_not]
      have hs := Formula.lt hx
      have hm := ltot_mem (t := Formula.tot) hx
      cases n with
      | zero => omega
      | succ n => rw [impl_hasForm_1N, ih x hx (hall x hx) (by omega) n (by omega)]; rfl
    have e0 : decide ((a.Parts.length : Int) = 0) = decide (a.Parts.length = 0) := decide_eq_decide.2 (by omega)
    have e1 : decide ((a.Parts.length : Int) = 1) = decide (a.Parts.length = 1) := decide_eq_decide.2 (by omega)
    have e2 : decide ((a.Parts.length : Int) = 2) = decide (a.Parts.length = 2) := decide_eq_decide.2 (by omega)
    rw [impl_hasFormN, Formula.good_u]
    unfold formC
    simp only [hc, e0, e1, e2, isQ_eq, isBin_eq, isVariable_eq _ h3, zeroT_impl, atom_impl _ (show a.Atom.tot ≤ 1048576 by omega) h2, Option.bind_some]
    clear hc e0 e1 e2 ih
    generalize zeroT a.Atom = z
    generalize atomT a.Atom = y
    generalize isVarS a.Var = x
    generalize decide (a.Parts.length = 0) = k0
    generalize decide (a.Parts.length = 1) = k1
    generalize decide (a.Parts.length = 2) = k2
    generalize decide (a.Var = (⟨#[]⟩ : ByteArray)) = u
    generalize a.Parts.all Formula.good = w
    rcases op_cases a.Op with e | e | e | e | e | e | e | e | e | ⟨g1, g2, g3, g4, g5, g6, g7, g8, g9⟩
    all_goals first | (simp only [e]; clear e htu; revert z y x k0 k1 k2 u w; decide) | (simp only [g1, g2, g3, g4, g5, g6, g7, g8, g9]; rfl)
def validF (a : Formula) : Bool := decide (a.cnt ≤ 40) && a.good
theorem validF_impl (a : Formula) (h : a.tot ≤ 1048576) (hok : a.Ok) : impl_IsValidFormula a = some (validF a) := by
  obtain ⟨r, h1, h2⟩ := sizeOf_ok a h
  unfold impl_IsValidFormula validF
  rw [h1, Option.bind_some, show decide (r ≤ 40) = decide (a.cnt ≤ 40) from h2.le, show impl_hasForm a = some a.good from lim_eq ⟨_, hasForm_eq a hok h⟩]
  cases decide (a.cnt ≤ 40) <;> rfl
theorem validF_spec (a : Formula) (h : a.tot ≤ 1048576) (hok : a.Ok) : spec_l8Good a = some (validF a) := by
  obtain ⟨r, h1, h2⟩ := l8Many_ok a h
  unfold spec_l8Good validF
  rw [h1, Option.bind_some, show decide (r ≤ 40) = decide (a.cnt ≤ 40) from h2.le, show spec_l8Forms a = some a.good from lim_eq ⟨_, l8Forms_eq a hok h⟩]
  cases decide (a.cnt ≤ 40) <;> rfl
/-! sequents -/
end Go.Proofs.YtgkgihdafalimaaGreat
