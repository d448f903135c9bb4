/- A part of the proof: lemmas only; nothing is claimed here beyond what each lemma says. -/
/- Plain laws on models: loops over lists, sizes, copies, comparisons. -/
import Derived.Test.YtgkgihdafalimaaGreatAvN
set_option linter.unusedSimpArgs false
set_option linter.unusedVariables false
set_option linter.defProp false
namespace Go.Av
theorem thenL_inl {ρ σ : Type} (r : ρ) (k : σ → Option ρ) : thenL (some (.inl r)) k = some r := rfl
theorem thenL_inr {ρ σ : Type} (s : σ) (k : σ → Option ρ) : thenL (some (.inr s)) k = k s := rfl
/-- A loop over a list. -/
def forL {α ρ σ : Type} (g : Nat → α → σ → Option (Flow ρ σ)) : List α → Nat → σ → Option (ρ ⊕ σ)
  | [], _, s => some (.inr s)
  | x :: xs, i, s => (g i x s).bind fun
    | .nx s' => forL g xs (i + 1) s'
    | .br s' => some (.inr s')
    | .rt r => some (.inl r)
theorem forL_nx {α ρ σ : Type} {g : Nat → α → σ → Option (Flow ρ σ)} {x : α} {xs : List α} {i : Nat} {s s' : σ} (h : g i x s = some (.nx s')) : forL g (x :: xs) i s = forL g xs (i + 1) s' := by simp [forL, h]
theorem forL_rt {α ρ σ : Type} {g : Nat → α → σ → Option (Flow ρ σ)} {x : α} {xs : List α} {i : Nat} {s : σ} {r : ρ} (h : g i x s = some (.rt r)) : forL g (x :: xs) i s = some (.inl r) := by simp [forL, h]
theorem forN_nx {ρ σ : Type} {f : Nat → σ → Option (Flow ρ σ)} {n i : Nat} {s s' : σ} (h : f i s = some (.nx s')) : forN f (n + 1) i s = forN f n (i + 1) s' := by simp [forN, h]
theorem forN_rt {ρ σ : Type} {f : Nat → σ → Option (Flow ρ σ)} {n i : Nat} {s : σ} {r : ρ} (h : f i s = some (.rt r)) : forN f (n + 1) i s = some (.inl r) := by simp [forN, h]
theorem forN_zero {ρ σ : Type} (f : Nat → σ → Option (Flow ρ σ)) (i : Nat) (s : σ) : forN f 0 i s = some (.inr s) := rfl
theorem idx_nat {α : Type} (xs : List α) (i : Nat) : idx xs (i : Int) = xs[i]? := by simp [idx]
theorem forN_forL {α ρ σ : Type} (f : Nat → σ → Option (Flow ρ σ)) (g : Nat → α → σ → Option (Flow ρ σ)) : ∀ (xs : List α) (i : Nat) (s : σ), (∀ j x s, xs[j]? = some x → f (i + j) s = g (i + j) x s) → forN f xs.length i s = forL g xs i s
  | [], _, _, _ => rfl
  | x :: xs, i, s, h => by
    have h0 := h 0 x s (by simp)
    simp only [Nat.add_zero] at h0
    simp only [List.length_cons, forN, forL, h0]
    congr 1
    funext o
    cases o with
    | nx s' => exact forN_forL f g xs (i + 1) s' (fun j y t hy => by have := h (j + 1) y t (by simpa using hy); simpa [Nat.add_assoc, Nat.add_comm 1 j] using this)
    | _ => rfl
theorem forN_idx {α ρ σ : Type} (xs : List α) (body : Nat → α → σ → Option (Flow ρ σ)) (s : σ) : forN (fun i s => (idx xs (i : Int)).bind fun v => body i v s) xs.length 0 s = forL body xs 0 s := by
  refine forN_forL _ _ xs 0 s (fun j x s h => ?_)
  simp only [Nat.zero_add, idx_nat, h, Option.bind_some]
theorem forN_congr {ρ σ : Type} {f g : Nat → σ → Option (Flow ρ σ)} : ∀ (n i : Nat) (s : σ), (∀ j s, j < n → f (i + j) s = g (i + j) s) → forN f n i s = forN g n i s
  | 0, _, _, _ => rfl
  | n + 1, i, s, h => by
    simp only [forN, show f i s = g i s from by have := h 0 s (by omega); simpa using this]
    congr 1
    funext o
    cases o with
    | nx s' => exact forN_congr n (i + 1) s' (fun j t hj => by have := h (j + 1) t (by omega); simpa [Nat.add_assoc, Nat.add_comm 1 j] using this)
    | _ => rfl
theorem forL_congr {α ρ σ : Type} {f g : Nat → α → σ → Option (Flow ρ σ)} : ∀ (xs : List α) (i : Nat) (s : σ), (∀ j x s, xs[j]? = some x → f (i + j) x s = g (i + j) x s) → forL f xs i s = forL g xs i s
  | [], _, _, _ => rfl
  | x :: xs, i, s, h => by
    simp only [forL, show f i x s = g i x s from by have := h 0 x s (by simp); simpa using this]
    congr 1
    funext o
    cases o with
    | nx s' => exact forL_congr xs (i + 1) s' (fun j y t hy => by have := h (j + 1) y t (by simpa using hy); simpa [Nat.add_assoc, Nat.add_comm 1 j] using this)
    | _ => rfl

/-! ### Sizes -/
def szR (t : Nat) (l : Int) : Int := if (t : Int) ≤ l then l - t else -1
abbrev wr (n : Int) : Int := IntKind.i64.wrap n
theorem wr64 {n : Int} (h1 : -9223372036854775808 ≤ n) (h2 : n < 9223372036854775808) : wr n = n := wrap64 h1 h2
def Big (n : Nat) : Prop := n ≤ 9223372036854775807
theorem szR_neg {t : Nat} {l : Int} (h0 : 0 ≤ l) : szR t l < 0 ↔ ¬ (t : Int) ≤ l := by
  unfold szR; split <;> omega
theorem szStep {t1 t2 : Nat} {l : Int} {k : Int → Option Int} (h0 : 0 ≤ l) (h1 : l ≤ 1048576) (h : ∀ l', 0 ≤ l' → l' ≤ 1048576 → k l' = some (szR t2 l')) : (bif decide (szR t1 l < 0) then some (-1) else k (szR t1 l)) = some (szR (t1 + t2) l) := by
  by_cases e : (t1 : Int) ≤ l
  · have : ¬ szR t1 l < 0 := by rw [szR_neg h0]; simpa using e
    have e1 : szR t1 l = l - t1 := by simp [szR, e]
    rw [decide_eq_false this, cond_false, h _ (by omega) (by omega), e1]
    unfold szR
    congr 1
    by_cases g : (t2 : Int) ≤ l - t1
    · rw [if_pos g, if_pos (by omega)]; omega
    · rw [if_neg g, if_neg (by omega)]
  · have : szR t1 l < 0 := by rw [szR_neg h0]; exact e
    rw [decide_eq_true this, cond_true]
    have g : ¬ ((t1 + t2 : Nat) : Int) ≤ l := by omega
    simp only [szR, if_neg g]
theorem szLast {t1 : Nat} {l : Int} (h0 : 0 ≤ l) : (bif decide (szR t1 l < 0) then some (-1) else some (szR t1 l)) = some (szR t1 l) := by
  by_cases e : szR t1 l < 0
  · rw [decide_eq_true e, cond_true]
    have : ¬ (t1 : Int) ≤ l := (szR_neg h0).1 e
    simp [szR, this]
  · rw [decide_eq_false e, cond_false]
theorem wr_szR {t : Nat} {l : Int} (h0 : 0 ≤ l) (h1 : l ≤ 1048576) (hb : Big t) : wr (l - t) = l - t := wrap64 (by simp only [Big] at hb; omega) (by omega)
theorem szStrStep {t1 t2 : Nat} {l : Int} {k : Int → Option Int} (h0 : 0 ≤ l) (h1 : l ≤ 1048576) (hb : Big t1) (h : ∀ l', 0 ≤ l' → l' ≤ 1048576 → k l' = some (szR t2 l')) : (bif decide (wr (l - t1) < 0) then some (-1) else k (wr (l - t1))) = some (szR (t1 + t2) l) := by
  rw [wr_szR h0 h1 hb]
  by_cases e : l - t1 < 0
  · rw [decide_eq_true e, cond_true]
    have g : ¬ ((t1 + t2 : Nat) : Int) ≤ l := by omega
    simp only [szR, if_neg g]
  · rw [decide_eq_false e, cond_false, h _ (by omega) (by omega)]
    unfold szR
    congr 1
    by_cases g : (t2 : Int) ≤ l - t1
    · rw [if_pos g, if_pos (by omega)]; omega
    · rw [if_neg g, if_neg (by omega)]
theorem szStepM {t1 t2 : Nat} {l : Int} {m : Option Int} (h0 : 0 ≤ l) (h1 : l ≤ 1048576) (h : 0 ≤ szR t1 l → szR t1 l ≤ 1048576 → m = some (szR t2 (szR t1 l))) : (bif decide (szR t1 l < 0) then some (-1) else m) = some (szR (t1 + t2) l) := by
  by_cases e : szR t1 l < 0
  · have := szStep (t1 := t1) (t2 := t2) (k := fun l => some (szR t2 l)) h0 h1 (fun _ _ _ => rfl)
    rw [decide_eq_true e, cond_true] at this ⊢
    exact this
  · have := szStep (t1 := t1) (t2 := t2) (k := fun l => some (szR t2 l)) h0 h1 (fun _ _ _ => rfl)
    rw [decide_eq_false e, cond_false] at this ⊢
    rw [h (by omega) (by unfold szR at e ⊢; split <;> omega)]
    exact this
theorem szStrStepM {t1 t2 : Nat} {l : Int} {m : Option Int} (h0 : 0 ≤ l) (h1 : l ≤ 1048576) (hb : Big t1) (h : 0 ≤ wr (l - t1) → wr (l - t1) ≤ 1048576 → m = some (szR t2 (wr (l - t1)))) : (bif decide (wr (l - t1) < 0) then some (-1) else m) = some (szR (t1 + t2) l) := by
  have := szStrStep (t1 := t1) (t2 := t2) (k := fun l => some (szR t2 l)) h0 h1 hb (fun _ _ _ => rfl)
  by_cases e : wr (l - t1) < 0
  · rw [decide_eq_true e, cond_true] at this ⊢
    exact this
  · rw [decide_eq_false e, cond_false] at this ⊢
    rw [h (by omega) (by rw [wr_szR h0 h1 hb]; omega)]
    exact this
theorem szL_loop {α : Type} (f : α → Int → Option Int) (t : α → Nat) : ∀ (xs : List α) (i : Nat) (l : Int), (∀ x ∈ xs, ∀ l, 0 ≤ l → l ≤ 1048576 → f x l = some (szR (t x) l)) → 0 ≤ l → l ≤ 1048576 →
    thenL (ρ := Int) (forL (fun _ v s => (f v s).bind fun w => bif decide (w < 0) then some (.rt (-1)) else some (.nx w)) xs i l) (fun s => some s) = some (szR (xs.map t).sum l)
  | [], i, l, _, h0, h1 => by simp [forL, thenL_inr, szR, h0]
  | x :: xs, i, l, h, h0, h1 => by
    have hx := h x (by simp) l h0 h1
    by_cases e : szR (t x) l < 0
    · rw [forL_rt (r := -1) (by rw [hx, Option.bind_some, decide_eq_true e]; rfl), thenL_inl]
      have : ¬ (t x : Int) ≤ l := (szR_neg h0).1 e
      have g : ¬ (((x :: xs).map t).sum : Int) ≤ l := by simp only [List.map_cons, List.sum_cons]; omega
      simp only [szR, if_neg g]
    · rw [forL_nx (s' := szR (t x) l) (by rw [hx, Option.bind_some, decide_eq_false e]; rfl)]
      have e2 : (t x : Int) ≤ l := Classical.byContradiction fun g => e ((szR_neg h0).2 g)
      have e1 : szR (t x) l = l - t x := by simp [szR, e2]
      rw [szL_loop f t xs (i + 1) _ (fun y hy => h y (by simp [hy])) (by omega) (by omega), e1]
      unfold szR
      congr 1
      simp only [List.map_cons, List.sum_cons]
      by_cases g : ((xs.map t).sum : Int) ≤ l - t x
      · rw [if_pos g, if_pos (by omega)]; omega
      · rw [if_neg g, if_neg (by omega)]
def ltot {α : Type} (t : α → Nat) (xs : List α) : Nat := xs.length + (xs.map t).sum
theorem szL {α : Type} {f : α → Int → Option Int} {t : α → Nat} {xs : List α} {l : Int} (hf : ∀ x ∈ xs, ∀ l, 0 ≤ l → l ≤ 1048576 → f x l = some (szR (t x) l)) (hb : Big xs.length) (h0 : 0 ≤ l) (h1 : l ≤ 1048576) :
    (bif decide (wr (l - xs.length) < 0) then some (-1) else thenL (ρ := Int) (forN (fun i s => (idx xs (i : Int)).bind fun v => (f v s).bind fun w => bif decide (w < 0) then some (.rt (-1)) else some (.nx w)) xs.length 0 (wr (l - xs.length))) fun s => some s) = some (szR (ltot t xs) l) :=
  szStrStep (k := fun l => thenL (ρ := Int) (forN (fun i s => (idx xs (i : Int)).bind fun v => (f v s).bind fun w => bif decide (w < 0) then some (.rt (-1)) else some (.nx w)) xs.length 0 l) fun s => some s) h0 h1 hb
    (fun l' g0 g1 => by simp only [forN_idx]; exact szL_loop f t xs 0 l' hf g0 g1)
/-! ### Copies -/
theorem toL_loop {α β : Type} (f : α → Option β) (g : α → β) (z : β) : ∀ (xs : List α) (pre : List β), (∀ x ∈ xs, f x = some (g x)) →
    thenL (ρ := List β) (forL (fun i v s => (f v).bind fun w => (idx s (i : Int)).bind fun _ => (idx s (i : Int)).bind fun _ => some (.nx (s.set (i : Int).toNat w))) xs pre.length (pre ++ List.replicate xs.length z)) (fun s => some s) = some (pre ++ xs.map g)
  | [], pre, _ => by simp [forL, thenL_inr]
  | x :: xs, pre, h => by
    have hx := h x (by simp)
    have e : (pre ++ List.replicate (x :: xs).length z)[pre.length]? = some z := by simp [List.replicate_succ]
    rw [forL_nx (s' := (pre ++ [g x]) ++ List.replicate xs.length z) (by
      rw [hx, Option.bind_some, idx_nat, e, Option.bind_some, Option.bind_some, Int.toNat_natCast]
      simp [List.replicate_succ])]
    have := toL_loop f g z xs (pre ++ [g x]) (fun y hy => h y (by simp [hy]))
    simp only [List.length_append, List.length_cons, List.length_nil, Nat.zero_add] at this
    rw [this]; simp
theorem toL {α β : Type} {f : α → Option β} {g : α → β} {z : β} {xs : List α} (h : ∀ x ∈ xs, f x = some (g x)) (hl : xs.length ≤ 1073741824) :
    ((mkn (xs.length : Int)).bind fun n => thenL (ρ := List β) (forN (fun i s => (idx xs (i : Int)).bind fun v => (f v).bind fun w => (idx s (i : Int)).bind fun _ => (idx s (i : Int)).bind fun _ => some (.nx (s.set (i : Int).toNat w))) xs.length 0 (List.replicate n z)) fun s => some s) = some (xs.map g) := by
  have e : mkn (xs.length : Int) = some xs.length := by unfold mkn; rw [if_pos (by omega)]; simp
  rw [e, Option.bind_some]
  simp only [forN_idx]
  exact toL_loop f g z xs [] h
/-! ### Comparisons of a thing with itself -/
theorem eqL {α : Type} {f : α → α → Option Bool} {xs : List α} (h : ∀ x ∈ xs, f x x = some true) :
    (bif decide ((xs.length : Int) = (xs.length : Int)) then thenL (ρ := Bool) (forN (fun i (_ : Unit) => (idx xs (i : Int)).bind fun v => (idx xs (i : Int)).bind fun w => (f v w).bind fun b => bif b then some (.nx ()) else some (.rt false)) xs.length 0 ()) fun _ => some true else some false) = some true := by
  rw [decide_eq_true rfl, cond_true]
  have key : ∀ (n i : Nat), i + n = xs.length → thenL (ρ := Bool) (forN (fun i (_ : Unit) => (idx xs (i : Int)).bind fun v => (idx xs (i : Int)).bind fun w => (f v w).bind fun b => bif b then some (.nx ()) else some (.rt false)) n i ()) (fun _ => some true) = some true := by
    intro n
    induction n with
    | zero => intro i _; rfl
    | succ n ih =>
      intro i hi
      have hg : xs[i]? = some xs[i] := List.getElem?_eq_getElem (by omega)
      rw [forN_nx (s' := ()) (by rw [idx_nat, hg, Option.bind_some, Option.bind_some, h _ (List.getElem_mem (by omega))]; rfl)]
      exact ih (i + 1) (by omega)
  exact key xs.length 0 (by simp)
end Go.Av
namespace Go.Av
def InR (n : Int) : Prop := -9223372036854775808 ≤ n ∧ n ≤ 9223372036854775807
end Go.Av
namespace Go.Av
theorem idx_getD {α : Type} [Inhabited α] {xs : List α} {i : Nat} (h : i < xs.length) : idx xs (i : Int) = some (xs.getD i default) := by
  rw [idx_nat, List.getElem?_eq_getElem h]; simp [List.getD, h]
/-- A loop that answers at the first place where a test fails. -/
theorem forN_allI {ρ : Type} {c : Nat → Bool} {f : Nat → Unit → Option (Flow ρ Unit)} {r0 : ρ} : ∀ (n i : Nat), (∀ j, j < i → c j = true) → (∀ j, j < i + n → (∀ k, k < j → c k = true) → f j () = some (bif c j then .nx () else .rt r0)) →
    forN f n i () = some (bif (List.range (i + n)).all c then .inr () else .inl r0)
  | 0, i, hc, _ => by
    have : (List.range (i + 0)).all c = true := List.all_eq_true.2 (fun x hx => hc x (by simpa using hx))
    rw [this]; rfl
  | n + 1, i, hc, h => by
    have h0 := h i (by omega) hc
    by_cases e : c i = true
    · rw [forN_nx (s' := ()) (by rw [h0, e]; rfl)]
      rw [forN_allI n (i + 1) (fun j hj => by rcases Nat.lt_or_ge j i with g | g; exact hc j g; have : j = i := by omega
                                              rw [this]; exact e) (fun j hj hk => h j (by omega) hk)]
      have e2 : i + (n + 1) = i + 1 + n := by omega
      rw [e2]
    · have e1 : c i = false := by simpa using e
      rw [forN_rt (r := r0) (by rw [h0, e1]; rfl)]
      have : (List.range (i + (n + 1))).all c = false := List.all_eq_false.2 ⟨i, by simp, by simp [e1]⟩
      rw [this]; rfl
theorem forN_all {ρ : Type} (c : Nat → Bool) {f : Nat → Unit → Option (Flow ρ Unit)} {r0 : ρ} {n : Nat} {k : Unit → Option ρ} (h : ∀ j, j < n → (∀ k, k < j → c k = true) → f j () = some (bif c j then .nx () else .rt r0)) :
    thenL (forN f n 0 ()) k = bif (List.range n).all c then k () else some r0 := by
  rw [forN_allI (c := c) (r0 := r0) n 0 (fun j hj => by omega) (fun j hj hk => h j (by omega) hk), Nat.zero_add]
  cases (List.range n).all c <;> rfl
theorem range_all_list {α : Type} [Inhabited α] (xs : List α) (p : α → Bool) : (List.range xs.length).all (fun i => p (xs.getD i default)) = xs.all p := by
  rw [Bool.eq_iff_iff, List.all_eq_true, List.all_eq_true]
  constructor
  · intro h x hx
    obtain ⟨i, hi, rfl⟩ := List.getElem_of_mem hx
    have := h i (by simpa using hi)
    simpa [List.getD, hi] using this
  · intro h i hi
    have hi : i < xs.length := by simpa using hi
    have : xs.getD i default ∈ xs := getD_mem hi
    exact h _ this
def inR (a lo hi : Int) : Bool := decide (lo ≤ a ∧ a ≤ hi)
theorem cond_inR (a lo hi : Int) : (bif decide (lo ≤ a) then some (decide (a ≤ hi)) else some false) = some (inR a lo hi) := by
  unfold inR
  by_cases h : lo ≤ a <;> simp [h]
theorem inR_iff {a lo hi : Int} : inR a lo hi = true ↔ lo ≤ a ∧ a ≤ hi := by simp [inR]
end Go.Av
