/- A part of the proof: lemmas only; nothing is claimed here beyond what each lemma says. -/
import Derived.Test.YtgkgihdafalimaaGreatGp
import Derived.Test.YtgkgihdafalimaaGreatAvY
set_option linter.unusedSimpArgs false
set_option linter.unusedVariables false
set_option linter.defProp false
set_option maxRecDepth 4000
namespace Go.Proofs.YtgkgihdafalimaaGreat
open Go.Av
theorem markText_ok (k : Int) (h0 : 1 ≤ k) (h1 : k ≤ 2305843009213693952) : ∃ t, markText k = some t := by
  unfold markText
  rw [decide_eq_false (by omega), cond_false]
  obtain ⟨b', g1, g2⟩ := digits (ρ := ByteArray) (f := fun s4 => bif decide ((0 : Int) < s4.1) then Option.bind (rem s4.1 (10 : Int)) fun v9 => Option.bind (bstr ([IntKind.u8.wrap (IntKind.i64.wrap ((48 : Int) + v9))])) fun v13 => Option.bind (sapp v13 s4.2) fun v15 => Option.bind (quo s4.1 (10 : Int)) fun v17 => some (.nx (v17, v15)) else some (.br s4))
    (d := fun k => bsOf [IntKind.u8.wrap (IntKind.i64.wrap ((48 : Int) + k.tmod 10))]) (fun k => by simp [bsOf, ByteArray.size]) (fun k b hk => by
      by_cases h : 0 < k
      · simp only [decide_eq_true h, cond_true, quo10 h hk, rem, bstr, Option.bind_some]; rfl
      · simp only [decide_eq_false h, cond_false]) k.toNat k ⟨#[]⟩ (by omega) (by omega) (by simp [ByteArray.size]; omega)
  rw [lim_eq g1, thenL_inr]
  have hs : sapp (⟨#[109]⟩ : ByteArray) b' = some ((⟨#[109]⟩ : ByteArray) ++ b') := by
    unfold sapp
    have e0 : (⟨#[]⟩ : ByteArray).size = 0 := rfl
    have e1 : (⟨#[109]⟩ : ByteArray).size = 1 := rfl
    rw [if_pos (by omega)]
  exact ⟨_, by rw [hs]; rfl⟩
mutual
def Term.cn : Term → Nat
  | .mk x0 x1 => 1 + Term.cns x1
def Term.cns : List Term → Nat
  | [] => 0
  | a :: l => a.cn + Term.cns l
end
theorem Term.cns_eq (l : List Term) : Term.cns l = lcn Term.cn l := by
  induction l with
  | nil => rfl
  | cons a l ih => rw [Term.cns, ih, lcn_cons]
theorem Term.cn_u (a : Term) : a.cn = 1 + (lcn Term.cn) a.Args := by cases a; rw [Term.cn, Term.cns_eq]; rfl
theorem Term.cn_pos (a : Term) : 1 ≤ a.cn := by rw [Term.cn_u]; omega
theorem markTermS_list (xs : List Term) (P : Nat → Prop) (hel : ∀ x ∈ xs, MH P markTermSN heldTermSN x.Args (lcn Term.cn x.Args)) : MH P (fun m => markTermSN (m + 1)) (fun m => heldTermSN (m + 1)) xs (lcn Term.cn xs) := by
  refine MH.of (cnt := Term.cn) (fun _ _ _ => by rw [markTermSN]) (fun _ _ _ _ => by rw [heldTermSN]) (fun _ l k => by simp only [dec_end, cond_false]) (fun h => by have := lcn_len (c := Term.cn) (xs := xs) (Term.cn_pos); omega) (fun x hx k h0 h1 => ?_)
  have hc := Term.cn_u x
  obtain ⟨t0, e0⟩ := markText_ok k (by omega) (by omega)
  have w0 : IntKind.i64.wrap (k + 1) = k + 1 := wrapK (by omega) (by omega)
  obtain ⟨y1, q1⟩ := (hel x hx) (k + 1) (by omega) (by omega)
  have d1 : decide (k + 1 + (((lcn Term.cn) x.Args : Nat) : Int) < 0) = false := decide_eq_false (by omega)
  have e : k + ((Term.cn x : Nat) : Int) = k + 1 + (((lcn Term.cn) x.Args : Nat) : Int) := by omega
  refine ⟨(Term.mk t0 y1), fun p hp => ⟨fun pre rest hpre => ?_, fun ys i hi => ?_⟩⟩
  · obtain ⟨m1, n1⟩ := q1 p hp
    have wi := wrap_succ (i := pre.length) (by omega)
    simp only [dec_mid, cond_true, idx_mid, set_mid, Option.bind_some, rem3, wi, e, w0, e0, m1, d1, Term.Name_mk, Term.Args_mk]
  · obtain ⟨m1, n1⟩ := q1 p hp
    simp only [idx_nat, hi, Option.bind_some, decide_true, eq_self, cond_true, cond_false, beq_self_eq_true, rem3, e, w0, e0, n1, d1, Term.Name_mk, Term.Args_mk]
theorem Term.held_ : ∀ t : Term, MH (fun m => 2 * SizeOf.sizeOf t ≤ m) markTermSN heldTermSN t.Args (lcn Term.cn t.Args) := by
  intro t
  refine Term.ind' (M := fun t => MH (fun m => 2 * SizeOf.sizeOf t ≤ m) markTermSN heldTermSN t.Args (lcn Term.cn t.Args)) (fun t ih => ?_) t
  have h0 := Term.pos t
  refine MH.shift (by omega) (markTermS_list t.Args _ (fun x hx => ?_))
  have h1 := Term.lt hx
  exact (ih x hx).sub (fun m hm => by omega)
theorem markTermS_held (xs : List Term) : MH (fun _ : Unit => True) (fun _ => markTermS) (fun _ => heldTermS) xs (lcn Term.cn xs) := by
  refine MH.lim (N := 2 * SizeOf.sizeOf xs + 1) (MH.shift (by omega) (markTermS_list xs _ (fun x hx => ?_)))
  have h1 := List.sizeOf_lt_of_mem hx
  exact (Term.held_ x).sub (fun m hm => by omega)
theorem markTerm_held (a : Term) {k : Int} (h0 : 1 ≤ k) (h1 : k + (((lcn Term.cn) a.Args : Nat) : Int) ≤ 2305843009213693952) : ∃ y0, markTerm a k = some (k + (((lcn Term.cn) a.Args : Nat) : Int), y0) ∧ heldTerm (Term.mk a.Name y0) k = some (k + (((lcn Term.cn) a.Args : Nat) : Int)) := by
  obtain ⟨y0, m0, n0⟩ := (markTermS_held a.Args).unit (k := k) (by omega) (by omega)
  have d0 : decide (k + (((lcn Term.cn) a.Args : Nat) : Int) < 0) = false := decide_eq_false (by omega)
  have e : k + (((lcn Term.cn) a.Args : Nat) : Int) = k + (((lcn Term.cn) a.Args : Nat) : Int) := by omega
  refine ⟨y0, ?_, ?_⟩
  · simp only [markTerm, heldTerm, m0, Option.bind_some, e]
  · simp only [markTerm, heldTerm, n0, d0, Option.bind_some, cond_false, e, Term.Name_mk, Term.Args_mk]
mutual
def Formula.cn : Formula → Nat
  | .mk x0 x1 x2 x3 => 3 + (lcn Term.cn) x1.Args + Formula.cns x3
def Formula.cns : List Formula → Nat
  | [] => 0
  | a :: l => a.cn + Formula.cns l
end
theorem Formula.cns_eq (l : List Formula) : Formula.cns l = lcn Formula.cn l := by
  induction l with
  | nil => rfl
  | cons a l ih => rw [Formula.cns, ih, lcn_cons]
theorem Formula.cn_u (a : Formula) : a.cn = 3 + (lcn Term.cn) a.Atom.Args + (lcn Formula.cn) a.Parts := by cases a; rw [Formula.cn, Formula.cns_eq]; rfl
theorem Formula.cn_pos (a : Formula) : 1 ≤ a.cn := by rw [Formula.cn_u]; omega
theorem markFormulaS_list (xs : List Formula) (P : Nat → Prop) (hel : ∀ x ∈ xs, MH P markFormulaSN heldFormulaSN x.Parts (lcn Formula.cn x.Parts)) : MH P (fun m => markFormulaSN (m + 1)) (fun m => heldFormulaSN (m + 1)) xs (lcn Formula.cn xs) := by
  refine MH.of (cnt := Formula.cn) (fun _ _ _ => by rw [markFormulaSN]) (fun _ _ _ _ => by rw [heldFormulaSN]) (fun _ l k => by simp only [dec_end, cond_false]) (fun h => by have := lcn_len (c := Formula.cn) (xs := xs) (Formula.cn_pos); omega) (fun x hx k h0 h1 => ?_)
  have hc := Formula.cn_u x
  have w0 : IntKind.i64.wrap (k + 1) = k + 1 := wrapK (by omega) (by omega)
  obtain ⟨t1, e1⟩ := markText_ok (k + 1) (by omega) (by omega)
  have w1 : IntKind.i64.wrap (k + 1 + 1) = k + 1 + 1 := wrapK (by omega) (by omega)
  obtain ⟨y2, m2, n2⟩ := (markTermS_held x.Atom.Args).unit (k := k + 1 + 1) (by omega) (by omega)
  have d2 : decide (k + 1 + 1 + (((lcn Term.cn) x.Atom.Args : Nat) : Int) < 0) = false := decide_eq_false (by omega)
  obtain ⟨t3, e3⟩ := markText_ok (k + 1 + 1 + (((lcn Term.cn) x.Atom.Args : Nat) : Int)) (by omega) (by omega)
  have w3 : IntKind.i64.wrap (k + 1 + 1 + (((lcn Term.cn) x.Atom.Args : Nat) : Int) + 1) = k + 1 + 1 + (((lcn Term.cn) x.Atom.Args : Nat) : Int) + 1 := wrapK (by omega) (by omega)
  obtain ⟨y4, q4⟩ := (hel x hx) (k + 1 + 1 + (((lcn Term.cn) x.Atom.Args : Nat) : Int) + 1) (by omega) (by omega)
  have d4 : decide (k + 1 + 1 + (((lcn Term.cn) x.Atom.Args : Nat) : Int) + 1 + (((lcn Formula.cn) x.Parts : Nat) : Int) < 0) = false := decide_eq_false (by omega)
  have e : k + ((Formula.cn x : Nat) : Int) = k + 1 + 1 + (((lcn Term.cn) x.Atom.Args : Nat) : Int) + 1 + (((lcn Formula.cn) x.Parts : Nat) : Int) := by omega
  refine ⟨(Formula.mk k (Term.mk t1 y2) t3 y4), fun p hp => ⟨fun pre rest hpre => ?_, fun ys i hi => ?_⟩⟩
  · obtain ⟨m4, n4⟩ := q4 p hp
    have wi := wrap_succ (i := pre.length) (by omega)
    simp only [dec_mid, cond_true, idx_mid, set_mid, Option.bind_some, rem3, wi, e, w0, w1, w3, e1, e3, m2, m4, d2, d4, Formula.Op_mk, Formula.Atom_mk, Formula.Var_mk, Formula.Parts_mk, Term.Name_mk, Term.Args_mk]
  · obtain ⟨m4, n4⟩ := q4 p hp
    simp only [idx_nat, hi, Option.bind_some, decide_true, eq_self, cond_true, cond_false, beq_self_eq_true, rem3, e, w0, w1, w3, e1, e3, n2, n4, d2, d4, Formula.Op_mk, Formula.Atom_mk, Formula.Var_mk, Formula.Parts_mk, Term.Name_mk, Term.Args_mk]
theorem Formula.held_ : ∀ t : Formula, MH (fun m => 2 * SizeOf.sizeOf t ≤ m) markFormulaSN heldFormulaSN t.Parts (lcn Formula.cn t.Parts) := by
  intro t
  refine Formula.ind' (M := fun t => MH (fun m => 2 * SizeOf.sizeOf t ≤ m) markFormulaSN heldFormulaSN t.Parts (lcn Formula.cn t.Parts)) (fun t ih => ?_) t
  have h0 := Formula.pos t
  refine MH.shift (by omega) (markFormulaS_list t.Parts _ (fun x hx => ?_))
  have h1 := Formula.lt hx
  exact (ih x hx).sub (fun m hm => by omega)
theorem markFormulaS_held (xs : List Formula) : MH (fun _ : Unit => True) (fun _ => markFormulaS) (fun _ => heldFormulaS) xs (lcn Formula.cn xs) := by
  refine MH.lim (N := 2 * SizeOf.sizeOf xs + 1) (MH.shift (by omega) (markFormulaS_list xs _ (fun x hx => ?_)))
  have h1 := List.sizeOf_lt_of_mem hx
  exact (Formula.held_ x).sub (fun m hm => by omega)
theorem markFormula_held (a : Formula) {k : Int} (h0 : 1 ≤ k) (h1 : k + (((lcn Term.cn) a.Atom.Args + (lcn Formula.cn) a.Parts : Nat) : Int) ≤ 2305843009213693952) : ∃ y0 y1, markFormula a k = some (k + (((lcn Term.cn) a.Atom.Args + (lcn Formula.cn) a.Parts : Nat) : Int), y0, y1) ∧ heldFormula (Formula.mk a.Op (Term.mk a.Atom.Name y0) a.Var y1) k = some (k + (((lcn Term.cn) a.Atom.Args + (lcn Formula.cn) a.Parts : Nat) : Int)) := by
  obtain ⟨y0, m0, n0⟩ := (markTermS_held a.Atom.Args).unit (k := k) (by omega) (by omega)
  have d0 : decide (k + (((lcn Term.cn) a.Atom.Args : Nat) : Int) < 0) = false := decide_eq_false (by omega)
  obtain ⟨y1, m1, n1⟩ := (markFormulaS_held a.Parts).unit (k := k + (((lcn Term.cn) a.Atom.Args : Nat) : Int)) (by omega) (by omega)
  have d1 : decide (k + (((lcn Term.cn) a.Atom.Args : Nat) : Int) + (((lcn Formula.cn) a.Parts : Nat) : Int) < 0) = false := decide_eq_false (by omega)
  have e : k + (((lcn Term.cn) a.Atom.Args + (lcn Formula.cn) a.Parts : Nat) : Int) = k + (((lcn Term.cn) a.Atom.Args : Nat) : Int) + (((lcn Formula.cn) a.Parts : Nat) : Int) := by omega
  refine ⟨y0, y1, ?_, ?_⟩
  · simp only [markFormula, heldFormula, markTerm, heldTerm, m0, m1, Option.bind_some, e]
  · simp only [markFormula, heldFormula, markTerm, heldTerm, n0, n1, d0, d1, Option.bind_some, cond_false, e, Formula.Op_mk, Formula.Atom_mk, Formula.Var_mk, Formula.Parts_mk, Term.Name_mk, Term.Args_mk]
end Go.Proofs.YtgkgihdafalimaaGreat
