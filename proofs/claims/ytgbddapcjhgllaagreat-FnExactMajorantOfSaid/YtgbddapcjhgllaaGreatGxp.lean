/- A part of the proof: lemmas only; nothing is claimed here beyond what each lemma says. -/
import Derived.Test.YtgbddapcjhgllaaGreatGxm
set_option linter.unusedSimpArgs false
set_option linter.unusedVariables false
set_option linter.defProp false
set_option maxRecDepth 4000
namespace Go.Proofs.YtgbddapcjhgllaaGreat
open Go.Av
theorem wrap_small {x : Int} (h0 : 0 ≤ x) (h1 : x ≤ 1000000000000) : IntKind.i64.wrap x = x := by rw [wrap64] <;> omega
/-- One plus a multiple of the other. -/
def plusU (f g s : Int) : Int := IntKind.i64.wrap (g + IntKind.i64.wrap (f * s))
def plusL (a b : Linear) (f : Int) : Linear :=
  ⟨(namesOf a b).filter fun n => decide (0 < plusU f (slopeZ a.Vars a.Slopes n) (slopeZ b.Vars b.Slopes n)), ((namesOf a b).filter fun n => decide (0 < plusU f (slopeZ a.Vars a.Slopes n) (slopeZ b.Vars b.Slopes n))).map fun n => plusU f (slopeZ a.Vars a.Slopes n) (slopeZ b.Vars b.Slopes n), plusU f a.Constant b.Constant⟩
theorem fold_two {ρ : Type} (H : ByteArray → Int) : ∀ (xs : List ByteArray) (i : Nat) (s : List ByteArray × List Int), s.1.length + xs.length ≤ 1073741824 → s.2.length + xs.length ≤ 1073741824 →
    forL (ρ := ρ) (fun _ (x : ByteArray) (s : List ByteArray × List Int) => bif decide (0 < H x) then Option.bind (app s.1 ([x])) fun v => Option.bind (app s.2 ([H x])) fun w => some (.nx (v, w)) else some (.nx (s.1, s.2))) xs i s = some (.inr (s.1 ++ xs.filter (fun n => decide (0 < H n)), s.2 ++ (xs.filter (fun n => decide (0 < H n))).map H))
  | [], i, s, _, _ => by simp [forL]
  | x :: xs, i, s, h1, h2 => by
    simp only [List.length_cons] at h1 h2
    by_cases hz : 0 < H x
    · rw [forL_nx (s' := (s.1 ++ [x], s.2 ++ [H x])) (by simp only [decide_eq_true hz, cond_true]; rw [app_one (by omega)]; simp only [Option.bind_some]; rw [app_one (by omega)]; rfl), fold_two H xs (i + 1) _ (by simp; omega) (by simp; omega)]
      simp [hz]
    · rw [forL_nx (s' := s) (by simp only [decide_eq_false hz, cond_false]), fold_two H xs (i + 1) _ (by omega) (by omega)]
      simp [hz]
theorem l25Plus_eq (a b : Linear) (f : Int) (ha : a.Slopes.length = a.Vars.length) (hb : b.Slopes.length = b.Vars.length) (h : a.Vars.length + b.Vars.length ≤ 1048576) : spec_l25Plus a b f = some (plusL a b f) := by
  unfold spec_l25Plus
  have hn := namesOf_len a b
  rw [l25Names_eq a b h, Option.bind_some]
  rw [forN_forL _ (fun _ (x : ByteArray) (s : List ByteArray × List Int) => bif decide (0 < plusU f (slopeZ a.Vars a.Slopes x) (slopeZ b.Vars b.Slopes x)) then Option.bind (app s.1 ([x])) fun v => Option.bind (app s.2 ([plusU f (slopeZ a.Vars a.Slopes x) (slopeZ b.Vars b.Slopes x)])) fun w => some (.nx (v, w)) else some (.nx (s.1, s.2))) (namesOf a b) 0 ([], []) (fun j x s hx => by
    simp only [Nat.zero_add, idx_nat, hx, Option.bind_some, l25Slope_eq a x ha, l25Slope_eq b x hb, plusU]; rfl),
    fold_two (fun x => plusU f (slopeZ a.Vars a.Slopes x) (slopeZ b.Vars b.Slopes x)) _ 0 _ (by simp; omega) (by simp; omega), thenL_inr]
  rfl
theorem add_eq (l : Linear) (m : GMap Int) (f : Int) (hl : l.Slopes.length = l.Vars.length) : impl_Linear__add l m f = some (IntKind.i64.wrap (f * l.Constant), foldP (plusU f) l.Vars l.Slopes m) := by
  unfold impl_Linear__add
  have := foldP_loop (ρ := Int × GMap Int) (plusU f) l.Vars l.Slopes hl m
  rw [show (fun (i2 : Nat) (s2 : (GMap Int)) => Option.bind (idx l.Vars (i2 : Int)) fun v15 => Option.bind (idx l.Slopes (i2 : Int)) fun v24 => some (Flow.nx (GMap.put s2 v15 (IntKind.i64.wrap ((GMap.get s2 v15 (0 : Int)) + (IntKind.i64.wrap (f * v24))))) : Flow (Int × GMap Int) (GMap Int))) = (fun (i6 : Nat) (s6 : (GMap Int)) => Option.bind (idx l.Vars (i6 : Int)) fun v26 => Option.bind (idx l.Slopes (i6 : Int)) fun v36 => some (.nx (GMap.put s6 v26 (plusU f (GMap.get s6 v26 (0 : Int)) v36)))) from rfl, this, thenL_inr]
theorem plusU_zero {f g : Int} (h0 : 0 ≤ g) (h1 : g ≤ 1000000000) : plusU f g 0 = g := by
  unfold plusU
  rw [Int.mul_zero, show IntKind.i64.wrap 0 = 0 from wrap_small (by omega) (by omega), Int.add_zero, wrap_small h0 (by omega)]
theorem plusU_small {f g s : Int} (f0 : 0 ≤ f) (f1 : f ≤ 1000) (g0 : 0 ≤ g) (g1 : g ≤ 1000000000) (s0 : 0 ≤ s) (s1 : s ≤ 100000) : plusU f g s = g + f * s ∧ 0 ≤ f * s ∧ f * s ≤ 100000000 := by
  have h1 : 0 ≤ f * s := Int.mul_nonneg f0 s0
  have h2 : f * s ≤ 1000 * 100000 := Int.mul_le_mul f1 s1 s0 (by omega)
  unfold plusU
  rw [wrap_small h1 (by omega), wrap_small (by omega) (by omega)]
  exact ⟨rfl, h1, by omega⟩
end Go.Proofs.YtgbddapcjhgllaaGreat
