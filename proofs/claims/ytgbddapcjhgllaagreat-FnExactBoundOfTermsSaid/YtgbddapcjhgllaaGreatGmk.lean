/- A part of the proof: lemmas only; nothing is claimed here beyond what each lemma says. -/
import Derived.Test.YtgbddapcjhgllaaGreatGp
import Derived.Test.YtgbddapcjhgllaaGreatAvY
set_option linter.unusedSimpArgs false
set_option linter.unusedVariables false
set_option linter.defProp false
set_option maxRecDepth 4000
namespace Go.Proofs.YtgbddapcjhgllaaGreat
open Go.Av
theorem markText_ok (k : Int) (h0 : 1 ≤ k) (h1 : k ≤ 2305843009213693952) : ∃ t, markText k = some t := by
  unfold markText
  rw [decide_eq_false (by omega), cond_false]
  obtain ⟨b', g1, g2⟩ := digits (ρ := ByteArray) (f := fun s4 => bif decide ((0 : Int) < s4.1) then Option.bind (rem s4.1 (10 : Int)) fun v9 => Option.bind (bstr ([IntKind.u8.wrap (IntKind.i64.wrap ((48 : Int) + v9))])) fun v13 => Option.bind (sapp v13 s4.2) fun v15 => Option.bind (quo s4.1 (10 : Int)) fun v17 => some (.nx (v17, v15)) else some (.br s4))
    (d := fun k => bsOf [IntKind.u8.wrap (IntKind.i64.wrap ((48 : Int) + k.tmod 10))]) (fun k => by simp [bsOf, ByteArray.size]) (fun k b hk => by
      by_cases h : 0 < k
      · simp only [decide_eq_true h, cond_true, quo10 h hk, rem, bstr, Option.bind_some]; rfl
      · simp only [decide_eq_false h, cond_false]) k.toNat k ⟨#[]⟩ (by omega) (by omega) (by simp [ByteArray.size]; omega)
  rw [lim_eq g1, thenL_inr]
  have hs : sapp (⟨#[109]⟩ : ByteArray) b' = some ((⟨#[109]⟩ : ByteArray) ++ b') := by
    unfold sapp
    have e0 : (⟨#[]⟩ : ByteArray).size = 0 := rfl
    have e1 : (⟨#[109]⟩ : ByteArray).size = 1 := rfl
    rw [if_pos (by omega)]
  exact ⟨_, by rw [hs]; rfl⟩
theorem markStringS_held (xs : List ByteArray) : MH (fun _ : Unit => True) (fun _ => markStringS) (fun _ => heldStringS) xs (lcn (fun _ => 1) xs) := by
  refine MH.of (cnt := (fun _ => 1)) (fun _ _ _ => rfl) (fun _ _ _ _ => rfl) (fun _ l k => by simp only [dec_end, cond_false]) (fun h => by have := lcn_len (c := (fun _ => 1)) (xs := xs) (fun _ => Nat.le_refl _); omega) (fun x hx k h0 h1 => ?_)
  replace h1 : k + ((1 : Nat) : Int) ≤ 2305843009213693952 := h1
  obtain ⟨t0, e0⟩ := markText_ok k (by omega) (by omega)
  have w0 : IntKind.i64.wrap (k + 1) = k + 1 := wrapK (by omega) (by omega)
  have e : k + ((1 : Nat) : Int) = k + 1 := by omega
  refine ⟨t0, fun p hp => ⟨fun pre rest hpre => ?_, fun ys i hi => ?_⟩⟩
  · have wi := wrap_succ (i := pre.length) (by omega)
    simp only [dec_mid, cond_true, idx_mid, set_mid, Option.bind_some, rem3, wi, e, w0, e0]
  · simp only [idx_nat, hi, Option.bind_some, decide_true, eq_self, cond_true, cond_false, beq_self_eq_true, rem3, e, w0, e0]
theorem markIntS_held (xs : List Int) : MH (fun _ : Unit => True) (fun _ => markIntS) (fun _ => heldIntS) xs (lcn (fun _ => 1) xs) := by
  refine MH.of (cnt := (fun _ => 1)) (fun _ _ _ => rfl) (fun _ _ _ _ => rfl) (fun _ l k => by simp only [dec_end, cond_false]) (fun h => by have := lcn_len (c := (fun _ => 1)) (xs := xs) (fun _ => Nat.le_refl _); omega) (fun x hx k h0 h1 => ?_)
  replace h1 : k + ((1 : Nat) : Int) ≤ 2305843009213693952 := h1
  have w0 : IntKind.i64.wrap (k + 1) = k + 1 := wrapK (by omega) (by omega)
  have e : k + ((1 : Nat) : Int) = k + 1 := by omega
  refine ⟨k, fun p hp => ⟨fun pre rest hpre => ?_, fun ys i hi => ?_⟩⟩
  · have wi := wrap_succ (i := pre.length) (by omega)
    simp only [dec_mid, cond_true, idx_mid, set_mid, Option.bind_some, rem3, wi, e, w0]
  · simp only [idx_nat, hi, Option.bind_some, decide_true, eq_self, cond_true, cond_false, beq_self_eq_true, rem3, e, w0]
theorem markLinear_held (a : Linear) {k : Int} (h0 : 1 ≤ k) (h1 : k + (((lcn (fun _ => 1)) a.Vars + (lcn (fun _ => 1)) a.Slopes : Nat) : Int) ≤ 2305843009213693952) : ∃ y0 y1, markLinear a k = some (k + (((lcn (fun _ => 1)) a.Vars + (lcn (fun _ => 1)) a.Slopes : Nat) : Int), y0, y1) ∧ heldLinear (Linear.mk y0 y1 a.Constant) k = some (k + (((lcn (fun _ => 1)) a.Vars + (lcn (fun _ => 1)) a.Slopes : Nat) : Int)) := by
  obtain ⟨y0, m0, n0⟩ := (markStringS_held a.Vars).unit (k := k) (by omega) (by omega)
  have d0 : decide (k + (((lcn (fun _ => 1)) a.Vars : Nat) : Int) < 0) = false := decide_eq_false (by omega)
  obtain ⟨y1, m1, n1⟩ := (markIntS_held a.Slopes).unit (k := k + (((lcn (fun _ => 1)) a.Vars : Nat) : Int)) (by omega) (by omega)
  have d1 : decide (k + (((lcn (fun _ => 1)) a.Vars : Nat) : Int) + (((lcn (fun _ => 1)) a.Slopes : Nat) : Int) < 0) = false := decide_eq_false (by omega)
  have e : k + (((lcn (fun _ => 1)) a.Vars + (lcn (fun _ => 1)) a.Slopes : Nat) : Int) = k + (((lcn (fun _ => 1)) a.Vars : Nat) : Int) + (((lcn (fun _ => 1)) a.Slopes : Nat) : Int) := by omega
  refine ⟨y0, y1, ?_, ?_⟩
  · simp only [markLinear, heldLinear, m0, m1, Option.bind_some, e]
  · simp only [markLinear, heldLinear, n0, n1, d0, d1, Option.bind_some, cond_false, e]
end Go.Proofs.YtgbddapcjhgllaaGreat
