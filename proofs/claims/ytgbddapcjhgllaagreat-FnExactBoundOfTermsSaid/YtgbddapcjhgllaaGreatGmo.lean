/- A part of the proof: lemmas only; nothing is claimed here beyond what each lemma says. -/
import Derived.Test.YtgbddapcjhgllaaGreatGmk
import Derived.Test.YtgbddapcjhgllaaGreatGtm
set_option linter.unusedSimpArgs false
set_option linter.unusedVariables false
set_option linter.defProp false
set_option maxRecDepth 4000
namespace Go.Proofs.YtgbddapcjhgllaaGreat
open Go.Av
/-! Marks that nothing reads again. -/
def MO {α ι : Type} (P : ι → Prop) (mk : ι → List α → Int → Option (Int × List α)) (xs : List α) (c : Nat) : Prop :=
  ∀ k : Int, 1 ≤ k → k + c ≤ 2305843009213693952 → ∃ ys, ∀ p, P p → mk p xs k = some (k + c, ys)
theorem mo_loop {α ι : Type} {P : ι → Prop} {fm : ι → List α × Int × Int → Option (Flow (Int × List α) (List α × Int × Int))} {cnt : α → Nat}
    (hend : ∀ p (l : List α) (k : Int), fm p (l, k, (l.length : Int)) = some (.br (l, k, (l.length : Int)))) : ∀ (xs pre : List α) (k : Int), 1 ≤ k → k + (lcn cnt xs : Int) ≤ 2305843009213693952 → pre.length + xs.length ≤ 4611686018427387904 →
    (∀ x ∈ xs, ∀ k : Int, 1 ≤ k → k + cnt x ≤ 2305843009213693952 → ∃ y, ∀ p, P p → ∀ pre rest : List α, pre.length < 4611686018427387904 → fm p (pre ++ x :: rest, k, (pre.length : Int)) = some (.nx (pre ++ y :: rest, k + cnt x, ((pre.length + 1 : Nat) : Int)))) →
    ∃ ys, ys.length = xs.length ∧ ∀ p, P p → Ev (fun n => whileN (fm p) n (pre ++ xs, k, (pre.length : Int))) (.inr (pre ++ ys, k + (lcn cnt xs : Int), ((pre ++ ys).length : Int)))
  | [], pre, k, _, _, _, _ => ⟨[], rfl, fun p _ => by
    have := hend p pre k
    simp only [List.append_nil, lcn_nil]
    rw [show k + ((0 : Nat) : Int) = k by omega]
    exact ev_br this⟩
  | x :: xs, pre, k, h0, h1, h2, hel => by
    rw [lcn_cons] at h1
    simp only [List.length_cons] at h2
    obtain ⟨y, hy⟩ := hel x (by simp) k h0 (by omega)
    obtain ⟨ys, hl, e⟩ := mo_loop hend xs (pre ++ [y]) (k + cnt x) (by omega) (by omega) (by simp; omega) (fun z hz => hel z (by simp [hz]))
    refine ⟨y :: ys, by simp [hl], fun p hp => ev_nx (hy p hp pre xs (by omega)) ?_⟩
    have := e p hp
    rw [lcn_cons, show k + ((cnt x + lcn cnt xs : Nat) : Int) = k + cnt x + (lcn cnt xs : Int) by omega]
    simpa using this
theorem MO.of {α ι : Type} {P : ι → Prop} {mk : ι → List α → Int → Option (Int × List α)} {fm : ι → List α × Int × Int → Option (Flow (Int × List α) (List α × Int × Int))} {cnt : α → Nat} {xs : List α}
    (hmk : ∀ p, P p → ∀ k, mk p xs k = thenL (lim fun n => whileN (fm p) n (xs, k, 0)) fun s => some (s.2.1, s.1))
    (hend : ∀ p (l : List α) (k : Int), fm p (l, k, (l.length : Int)) = some (.br (l, k, (l.length : Int)))) (hlen : (lcn cnt xs : Int) ≤ 2305843009213693952 → xs.length ≤ 4611686018427387904)
    (hel : ∀ x ∈ xs, ∀ k : Int, 1 ≤ k → k + cnt x ≤ 2305843009213693952 → ∃ y, ∀ p, P p → ∀ pre rest : List α, pre.length < 4611686018427387904 → fm p (pre ++ x :: rest, k, (pre.length : Int)) = some (.nx (pre ++ y :: rest, k + cnt x, ((pre.length + 1 : Nat) : Int)))) : MO P mk xs (lcn cnt xs) := by
  intro k h0 h1
  obtain ⟨ys, _, e⟩ := mo_loop hend xs [] k h0 h1 (by simpa using hlen (by omega)) hel
  refine ⟨ys, fun p hp => ?_⟩
  have := e p hp
  simp only [List.nil_append, List.length_nil] at this
  rw [hmk p hp, show ((0 : Int)) = ((0 : Nat) : Int) from rfl, lim_eq this]; rfl
theorem MO.unit {α : Type} {mk : List α → Int → Option (Int × List α)} {xs : List α} {c : Nat} (h : MO (fun _ : Unit => True) (fun _ => mk) xs c) {k : Int} (h0 : 1 ≤ k) (h1 : k + c ≤ 2305843009213693952) : ∃ ys, mk xs k = some (k + c, ys) := by
  obtain ⟨ys, e⟩ := h k h0 h1
  exact ⟨ys, e () trivial⟩
theorem lcn_cnt : ∀ l : List Term, lcn Term.cnt l = (l.map Term.cnt).sum
  | [] => by rw [lcn_nil]; rfl
  | e :: l => by rw [lcn_cons, lcn_cnt l]; simp
theorem Term.cnt_u (t : Term) : t.cnt = 1 + lcn Term.cnt t.Args := by cases t; rw [Term.cnt_mk, lcn_cnt]; rfl
theorem markTermS_mo : ∀ (m : Nat) (xs : List Term), SizeOf.sizeOf xs ≤ m → MO (fun n => m ≤ n) markTermSN xs (lcn Term.cnt xs)
  | 0, xs, h => by cases xs <;> simp at h
  | m + 1, xs, h => by
    have key : MO (fun n => m ≤ n) (fun n => markTermSN (n + 1)) xs (lcn Term.cnt xs) := by
      refine MO.of (cnt := Term.cnt) (fun _ _ _ => rfl) (fun _ l k => by simp only [dec_end, cond_false]) (fun h => by have := lcn_len (c := Term.cnt) (xs := xs) Term.cnt_pos; omega) (fun x hx k h0 h1 => ?_)
      have hs : SizeOf.sizeOf x.Args ≤ m := by
        have h1 := List.sizeOf_lt_of_mem hx
        cases x with | mk a b => simp only [Term.mk.sizeOf_spec, Term.Args] at h1 ⊢; omega
      have hc := Term.cnt_u x
      obtain ⟨t0, e0⟩ := markText_ok k (by omega) (by omega)
      have w0 : IntKind.i64.wrap (k + 1) = k + 1 := wrapK (by omega) (by omega)
      obtain ⟨y, m0⟩ := markTermS_mo m x.Args hs (k + 1) (by omega) (by omega)
      have e : k + ((Term.cnt x : Nat) : Int) = k + 1 + ((lcn Term.cnt x.Args : Nat) : Int) := by omega
      refine ⟨Term.mk t0 y, fun p hp pre rest hpre => ?_⟩
      have wi := wrap_succ (i := pre.length) (by omega)
      have m1 : markTermSN p (Term.mk t0 x.Args).Args (k + 1) = some (k + 1 + ((lcn Term.cnt x.Args : Nat) : Int), y) := m0 p hp
      have n1 : (Term.mk t0 x.Args).Name = t0 := rfl
      simp only [dec_mid, cond_true, idx_mid, set_mid, Option.bind_some, wi, e, w0, e0, m1, n1]
    intro k h0 h1
    obtain ⟨ys, e⟩ := key k h0 h1
    refine ⟨ys, fun n hn => ?_⟩
    cases n with
    | zero => omega
    | succ n => exact e n (by omega)
def Majorant.cn (a : Majorant) : Nat := 2 + lcn (fun _ => 1) a.Slopes
theorem markMajorantS_mo (xs : List Majorant) : MO (fun _ : Unit => True) (fun _ => markMajorantS) xs (lcn Majorant.cn xs) := by
  refine MO.of (cnt := Majorant.cn) (fun _ _ _ => rfl) (fun _ l k => by simp only [dec_end, cond_false]) (fun h => by have := lcn_len (c := Majorant.cn) (xs := xs) (fun _ => by unfold Majorant.cn; omega); omega) (fun x hx k h0 h1 => ?_)
  have hc : Majorant.cn x = 2 + lcn (fun _ => 1) x.Slopes := rfl
  obtain ⟨t0, e0⟩ := markText_ok k (by omega) (by omega)
  have w0 : IntKind.i64.wrap (k + 1) = k + 1 := wrapK (by omega) (by omega)
  obtain ⟨y, m0, _⟩ := (markIntS_held x.Slopes).unit (k := k + 1) (by omega) (by omega)
  have w1 : IntKind.i64.wrap (k + 1 + ((lcn (fun _ => 1) x.Slopes : Nat) : Int) + 1) = k + 1 + ((lcn (fun _ => 1) x.Slopes : Nat) : Int) + 1 := wrapK (by omega) (by omega)
  have e : k + ((Majorant.cn x : Nat) : Int) = k + 1 + ((lcn (fun _ => 1) x.Slopes : Nat) : Int) + 1 := by omega
  refine ⟨Majorant.mk t0 y (k + 1 + ((lcn (fun _ => 1) x.Slopes : Nat) : Int)), fun p hp pre rest hpre => ?_⟩
  have wi := wrap_succ (i := pre.length) (by omega)
  simp only [dec_mid, cond_true, idx_mid, set_mid, Option.bind_some, wi, e, w0, w1, e0, m0]
theorem cn_tot : ∀ l : List Majorant, lcn Majorant.cn l ≤ 3 * ltot Majorant.tot l
  | [] => by rw [lcn_nil]; exact Nat.zero_le _
  | g :: l => by
    have h := cn_tot l
    have h1 : lcn (fun _ => 1) g.Slopes = g.Slopes.length := by
      have : ∀ l : List Int, lcn (fun _ => 1) l = l.length := fun l => by
        induction l with
        | nil => rw [lcn_nil]; rfl
        | cons e l ih => rw [lcn_cons, ih, List.length_cons]; omega
      exact this _
    have h2 : g.Slopes.length ≤ g.tot := by
      have := ltot0 g.Slopes
      unfold Majorant.tot; omega
    rw [lcn_cons]
    have h3 : Majorant.cn g = 2 + g.Slopes.length := by unfold Majorant.cn; rw [h1]
    rw [h3]
    simp only [ltot, List.map_cons, List.sum_cons, List.length_cons] at h ⊢
    omega
end Go.Proofs.YtgbddapcjhgllaaGreat
