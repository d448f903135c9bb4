/- A part of the proof: lemmas only; nothing is claimed here beyond what each lemma says. -/
import Derived.Test.YtgbddapcjhgllaaGreatGtm
import Derived.Test.YtgbddapcjhgllaaGreatGmk
import Derived.Test.YtgbddapcjhgllaaGreatGlin
set_option linter.unusedSimpArgs false
set_option linter.unusedVariables false
set_option linter.defProp false
set_option maxRecDepth 4000
namespace Go.Proofs.YtgbddapcjhgllaaGreat
open Go.Av
/-! Linear functions as maps from names to slopes. -/
def slopeZ : List ByteArray → List Int → ByteArray → Int
  | v :: vs, s :: ss, n => if v = n then s else slopeZ vs ss n
  | _, _, _ => 0
theorem slopeZ_notin : ∀ (vs : List ByteArray) (ss : List Int) (n : ByteArray), n ∉ vs → slopeZ vs ss n = 0
  | [], ss, n, _ => by cases ss <;> rfl
  | v :: vs, [], n, _ => rfl
  | v :: vs, s :: ss, n, h => by
    simp only [List.mem_cons, not_or] at h
    simp only [slopeZ]
    rw [if_neg (Ne.symm h.1)]; exact slopeZ_notin vs ss n h.2
theorem slopeZ_in {lo hi : Int} : ∀ (vs : List ByteArray) (ss : List Int) (n : ByteArray), n ∈ vs → vs.length = ss.length → (∀ s ∈ ss, lo ≤ s ∧ s ≤ hi) → lo ≤ slopeZ vs ss n ∧ slopeZ vs ss n ≤ hi
  | [], ss, n, h, _, _ => by simp at h
  | v :: vs, [], n, _, h, _ => by simp at h
  | v :: vs, s :: ss, n, h, hl, hs => by
    simp only [slopeZ]
    by_cases e : v = n
    · rw [if_pos e]; exact hs s (by simp)
    · rw [if_neg e]
      rcases List.mem_cons.1 h with h | h
      · exact absurd h.symm e
      · exact slopeZ_in vs ss n h (by simpa using hl) (fun s hs' => hs s (by simp [hs']))
/-- The slope by name. -/
theorem l25Slope_eq (l : Linear) (n : ByteArray) (hl : l.Slopes.length = l.Vars.length) : spec_l25Slope l n = some (slopeZ l.Vars l.Slopes n) := by
  unfold spec_l25Slope
  have key : ∀ (vs pv : List ByteArray) (ss ps : List Int), ps.length = pv.length → ss.length = vs.length →
      thenL (ρ := Int) (forN (fun (i2 : Nat) (s2 : Unit) => Option.bind (idx (pv ++ vs) (i2 : Int)) fun v16 => bif decide (v16 = n) then Option.bind (idx (ps ++ ss) (i2 : Int)) fun v23 => some (Flow.rt v23) else some (.nx ())) vs.length pv.length ()) (fun _ => some 0) = some (slopeZ vs ss n) := by
    intro vs
    induction vs with
    | nil => intro pv ss ps _ h; cases ss <;> rfl
    | cons v vs ih =>
      intro pv ss ps hp h
      cases ss with
      | nil => simp at h
      | cons s ss =>
        simp only [slopeZ, List.length_cons]
        by_cases e : v = n
        · rw [forN_rt (r := s) (by rw [idx_mid, Option.bind_some, decide_eq_true e, cond_true, ← hp, idx_mid]; rfl), if_pos e]; rfl
        · rw [forN_nx (s' := ()) (by rw [idx_mid, Option.bind_some, decide_eq_false e]; rfl), if_neg e]
          have := ih (pv ++ [v]) ss (ps ++ [s]) (by simp [hp]) (by simpa using h)
          simpa using this
  exact key l.Vars [] l.Slopes [] rfl hl
/-- Inserting, in the text. -/
theorem l2Put_eq (x : ByteArray) (l : List ByteArray) (hl : l.length ≤ 1048576) : spec_l2Put l x = some (putS x l) := by
  unfold spec_l2Put
  have tl : ∀ {β : Type} (K : List ByteArray → Option β) (pre rest : List ByteArray), pre.length + rest.length ≤ 1048576 → (Option.bind (slc (pre ++ rest) (0 : Int) (pre.length : Int)) fun v36 => Option.bind (app ([]) v36) fun v37 => Option.bind (app v37 ([x])) fun v40 => Option.bind (slc (pre ++ rest) (pre.length : Int) ((pre ++ rest).length : Int)) fun v43 => Option.bind (app v40 v43) fun v44 => K v44) = K (pre ++ x :: rest) := by
    intro β K pre rest h
    have e1 : slc (pre ++ rest) (0 : Int) (pre.length : Int) = some pre := by
      unfold slc; rw [if_pos ⟨by omega, by omega, by simp; omega⟩]; simp
    have e2 : slc (pre ++ rest) (pre.length : Int) ((pre ++ rest).length : Int) = some rest := by
      unfold slc; rw [if_pos ⟨by omega, by simp; omega, by omega⟩]; simp only [Int.toNat_natCast, List.take_length, List.drop_left]
    rw [e1, e2]
    simp only [Option.bind_some, app, List.length_nil, Nat.zero_add, List.nil_append]
    rw [if_pos (by omega)]
    simp only [Option.bind_some, List.length_cons, List.length_nil]
    rw [if_pos (by omega)]
    simp only [Option.bind_some, List.length_append, List.length_cons, List.length_nil]
    rw [if_pos (by omega)]
    simp
  have key : ∀ (rest pre : List ByteArray), pre.length + rest.length ≤ 1048576 →
      thenL (ρ := List ByteArray) (forN (fun (i2 : Nat) (s2 : Unit) =>
        Option.bind (idx (pre ++ rest) (i2 : Int)) fun v13 =>
        bif Op.bytesLess v13.data.toList x.data.toList then some (.nx ())
        else Option.bind (idx (pre ++ rest) (i2 : Int)) fun v27 => bif decide (v27 = x) then some (.rt (pre ++ rest)) else
          Option.bind (slc (pre ++ rest) (0 : Int) (i2 : Int)) fun v36 => Option.bind (app ([]) v36) fun v37 => Option.bind (app v37 ([x])) fun v40 => Option.bind (slc (pre ++ rest) (i2 : Int) ((pre ++ rest).length : Int)) fun v43 => Option.bind (app v40 v43) fun v44 => some (.rt v44)) rest.length pre.length ()) (fun _ =>
        Option.bind (slc (pre ++ rest) (0 : Int) (((pre ++ rest).length : Nat) : Int)) fun v36 => Option.bind (app ([]) v36) fun v37 => Option.bind (app v37 ([x])) fun v40 => Option.bind (slc (pre ++ rest) (((pre ++ rest).length : Nat) : Int) ((pre ++ rest).length : Int)) fun v43 => Option.bind (app v40 v43) fun v44 => some v44) = some (pre ++ putS x rest) := by
    intro rest
    induction rest with
    | nil =>
      intro pre h
      have := tl some pre [] (by simpa using h)
      simpa [putS, forN, thenL_inr] using this
    | cons y rest ih =>
      intro pre h
      simp only [putS, List.length_cons]
      by_cases hy : slt y x = true
      · rw [forN_nx (s' := ()) (by rw [idx_mid, Option.bind_some, show Op.bytesLess y.data.toList x.data.toList = true from hy]; rfl), if_pos hy]
        have := ih (pre ++ [y]) (by simp at h ⊢; omega)
        simpa using this
      · have hy' : Op.bytesLess y.data.toList x.data.toList = false := by simpa [slt] using hy
        by_cases e : y = x
        · rw [forN_rt (r := pre ++ y :: rest) (by rw [idx_mid, Option.bind_some, hy', cond_false, Option.bind_some, decide_eq_true e]; rfl), thenL_inl, if_neg hy, if_pos e]
        · rw [forN_rt (r := pre ++ x :: y :: rest) (by
            rw [idx_mid, Option.bind_some, hy', cond_false, Option.bind_some, decide_eq_false e, cond_false]
            exact tl (fun v => some (Flow.rt v)) pre (y :: rest) h), thenL_inl, if_neg hy, if_neg e]
  exact key l [] (by simpa using hl)
def putAll (xs : List ByteArray) (l : List ByteArray) : List ByteArray := xs.foldl (fun l x => putS x l) l
theorem putAll_mem (z : ByteArray) : ∀ (xs l : List ByteArray), z ∈ putAll xs l ↔ z ∈ xs ∨ z ∈ l
  | [], l => by simp [putAll]
  | x :: xs, l => by
    show z ∈ putAll xs (putS x l) ↔ _
    rw [putAll_mem z xs, putS_mem, List.mem_cons]
    constructor
    · rintro (h | h | h) <;> simp [h]
    · rintro ((h | h) | h) <;> simp [h]
theorem putAll_srt : ∀ (xs l : List ByteArray), Srt l → Srt (putAll xs l)
  | [], l, h => h
  | x :: xs, l, h => putAll_srt xs _ (putS_srt x l h)
theorem putAll_len : ∀ (xs l : List ByteArray), (putAll xs l).length ≤ l.length + xs.length
  | [], l => by simp [putAll]
  | x :: xs, l => by
    have := putAll_len xs (putS x l)
    have := putS_len x l
    show (putAll xs (putS x l)).length ≤ _
    simp only [List.length_cons]; omega
theorem put_loop {ρ : Type} : ∀ (xs : List ByteArray) (i : Nat) (l : List ByteArray), l.length + xs.length ≤ 1048576 →
    forL (ρ := ρ) (fun _ (x : ByteArray) (s : List ByteArray) => Option.bind (spec_l2Put s x) fun v => some (.nx v)) xs i l = some (.inr (putAll xs l))
  | [], i, l, _ => rfl
  | x :: xs, i, l, h => by
    simp only [List.length_cons] at h
    have := putS_len x l
    rw [forL_nx (s' := putS x l) (by rw [l2Put_eq x l (by omega)]; rfl), put_loop xs (i + 1) _ (by omega)]
    rfl
def namesOf (a b : Linear) : List ByteArray := putAll b.Vars (putAll a.Vars [])
theorem l25Names_eq (a b : Linear) (h : a.Vars.length + b.Vars.length ≤ 1048576) : spec_l25Names a b = some (namesOf a b) := by
  unfold spec_l25Names
  have := putAll_len a.Vars []
  simp only [List.length_nil] at this
  rw [forN_idx a.Vars (fun _ v s => Option.bind (spec_l2Put s v) fun w => some (.nx w)) [], put_loop a.Vars 0 [] (by simp; omega), thenL_inr,
    forN_idx b.Vars (fun _ v s => Option.bind (spec_l2Put s v) fun w => some (.nx w)) _, put_loop b.Vars 0 _ (by omega), thenL_inr]
  rfl
theorem namesOf_mem (a b : Linear) (z : ByteArray) : z ∈ namesOf a b ↔ z ∈ a.Vars ∨ z ∈ b.Vars := by
  unfold namesOf
  rw [putAll_mem, putAll_mem]
  simp [or_comm]
theorem namesOf_srt (a b : Linear) : Srt (namesOf a b) := putAll_srt _ _ (putAll_srt _ _ (by simp [Srt]))
theorem namesOf_len (a b : Linear) : (namesOf a b).length ≤ a.Vars.length + b.Vars.length := by
  have h1 := putAll_len a.Vars []
  have h2 := putAll_len b.Vars (putAll a.Vars [])
  simp only [List.length_nil] at h1
  unfold namesOf; omega
/-! Valid ones. -/
theorem validL_iff {l : Linear} (h : validL l = true) : l.Vars.length ≤ 8 ∧ l.Slopes.length = l.Vars.length ∧ (0 ≤ l.Constant ∧ l.Constant ≤ 100000) ∧ Srt l.Vars ∧ (∀ s ∈ l.Slopes, 1 ≤ s ∧ s ≤ 1000) ∧ ∀ v ∈ l.Vars, isVarS v = true := by
  simp only [validL, Bool.and_eq_true, decide_eq_true_eq, List.all_eq_true, List.mem_range] at h
  obtain ⟨⟨⟨h1, h2⟩, h3⟩, h4⟩ := h
  have h5 : ∀ j, j < l.Vars.length → isVarS (l.Vars.getD j default) = true ∧ (1 ≤ l.Slopes.getD j default ∧ l.Slopes.getD j default ≤ 1000) ∧ (j = 0 ∨ slt (l.Vars.getD (j - 1) default) (l.Vars.getD j default) = true) := by
    intro j hj
    have := h4 j hj
    simp only [linC, Bool.and_eq_true, Bool.or_eq_true, decide_eq_true_eq] at this
    exact ⟨this.1.1, inR_iff.1 this.1.2, this.2⟩
  refine ⟨h1, h2, inR_iff.1 h3, ?_, fun s hs => ?_, fun v hv => ?_⟩
  · have gt : ∀ (i k : Nat), i + (k + 1) < l.Vars.length → slt (l.Vars.getD i default) (l.Vars.getD (i + (k + 1)) default) = true := by
      intro i k
      induction k with
      | zero =>
        intro hk
        have := (h5 (i + 1) (by omega)).2.2
        rcases this with h | h
        · omega
        · simpa using h
      | succ k ih =>
        intro hk
        have h6 := ih (by omega)
        have := (h5 (i + (k + 1) + 1) (by omega)).2.2
        rcases this with h | h
        · omega
        · exact slt_trans h6 h
    rw [Srt, List.pairwise_iff_getElem]
    intro i j hi hj hij
    have := gt i (j - i - 1) (by omega)
    rw [show i + (j - i - 1 + 1) = j by omega] at this
    simpa [List.getD, hi, hj] using this
  · obtain ⟨j, hj, rfl⟩ := List.mem_iff_getElem.1 hs
    have := (h5 j (by omega)).2.1
    simpa [List.getD, hj] using this
  · obtain ⟨j, hj, rfl⟩ := List.mem_iff_getElem.1 hv
    have := (h5 j hj).1
    simpa [List.getD, hj] using this
theorem big_var {v : ByteArray} (h : isVarS v = true) : Big v.size := by
  simp only [isVarS, Bool.and_eq_true] at h
  have := inR_iff.1 h.1
  simp only [Big]; omega
/-- What 'linear' gives. -/
theorem linear_eq {m : GMap Int} (hm : GOk m) (c : Int) (hl : m.es.length ≤ 1048576) (hv : ∀ k ∈ GMap.keys m, Big k.size) (hr : ∀ k, InR (GMap.get m k 0)) (hc : InR c) :
    impl_linear m c = some (bif validL ⟨nzk m, (nzk m).map fun k => GMap.get m k 0, c⟩ then (⟨nzk m, (nzk m).map fun k => GMap.get m k 0, c⟩, true) else (⟨[], [], 0⟩, false)) := by
  unfold impl_linear
  have hle : ((m.es.filter fun e => !decide (e.2.1 = 0)).map fun e => e.1).length ≤ 1048576 := by
    rw [List.length_map]; exact Nat.le_trans (List.length_filter_le _ _) hl
  rw [if_pos (by omega)]
  unfold slices_SortS
  rw [if_pos (by omega), Option.bind_some]
  show (Option.bind (impl_IsValidLinear (Linear.mk (nzk m) ((nzk m).map fun k => GMap.get m k 0) c)) _) = _
  have hn : (nzk m).length ≤ 1048576 := by
    have := (sortB_perm ((m.es.filter fun e => !decide (e.2.1 = 0)).map fun e => e.1)).length_eq
    unfold nzk; omega
  rw [implL _ ⟨⟨by simp only [Big]; omega, fun k hk => ?_⟩, ⟨by simp only [Big, List.length_map]; omega, fun x hx => ?_⟩, hc⟩, Option.bind_some]
  · cases validL (Linear.mk (nzk m) ((nzk m).map fun k => GMap.get m k 0) c) <;> rfl
  · refine hv k (Classical.byContradiction fun hn => ?_)
    exact (nzk_mem hm k).1 hk (get_notin hn)
  · obtain ⟨k, _, rfl⟩ := List.mem_map.1 hx
    exact hr k
/-- Into a map, one by one. -/
def foldP (u : Int → Int → Int) : List ByteArray → List Int → GMap Int → GMap Int
  | v :: vs, s :: ss, m => foldP u vs ss (GMap.put m v (u (GMap.get m v 0) s))
  | _, _, m => m
theorem foldP_ok (u : Int → Int → Int) : ∀ (vs : List ByteArray) (ss : List Int) (m : GMap Int), GOk m → GOk (foldP u vs ss m)
  | [], ss, m, h => by cases ss <;> exact h
  | v :: vs, [], m, h => h
  | v :: vs, s :: ss, m, h => foldP_ok u vs ss _ (h.put _ _)
theorem foldP_len (u : Int → Int → Int) : ∀ (vs : List ByteArray) (ss : List Int) (m : GMap Int), (foldP u vs ss m).es.length ≤ m.es.length + vs.length
  | [], ss, m => by cases ss <;> simp [foldP]
  | v :: vs, [], m => by simp [foldP]
  | v :: vs, s :: ss, m => by
    have h1 := foldP_len u vs ss (GMap.put m v (u (GMap.get m v 0) s))
    have h2 := put_len m v (u (GMap.get m v 0) s)
    simp only [foldP, List.length_cons]; omega
theorem foldP_keys (u : Int → Int → Int) (z : ByteArray) : ∀ (vs : List ByteArray) (ss : List Int) (m : GMap Int), vs.length = ss.length → (z ∈ GMap.keys (foldP u vs ss m) ↔ z ∈ vs ∨ z ∈ GMap.keys m)
  | [], ss, m, _ => by cases ss <;> simp [foldP]
  | v :: vs, [], m, h => by simp at h
  | v :: vs, s :: ss, m, h => by
    simp only [foldP, List.mem_cons]
    rw [foldP_keys u z vs ss _ (by simpa using h), put_keys]
    constructor
    · rintro (h | h | h) <;> simp [h]
    · rintro ((h | h) | h) <;> simp [h]
theorem foldP_out (u : Int → Int → Int) (z : ByteArray) : ∀ (vs : List ByteArray) (ss : List Int) (m : GMap Int), z ∉ vs → GMap.get (foldP u vs ss m) z 0 = GMap.get m z 0
  | [], ss, m, _ => by cases ss <;> rfl
  | v :: vs, [], m, _ => rfl
  | v :: vs, s :: ss, m, h => by
    simp only [List.mem_cons, not_or] at h
    simp only [foldP]
    rw [foldP_out u z vs ss _ h.2, put_get, if_neg (Ne.symm h.1)]
theorem foldP_in (u : Int → Int → Int) (z : ByteArray) : ∀ (vs : List ByteArray) (ss : List Int) (m : GMap Int), vs.length = ss.length → vs.Nodup → z ∈ vs → GMap.get (foldP u vs ss m) z 0 = u (GMap.get m z 0) (slopeZ vs ss z)
  | [], ss, m, _, _, h => by simp at h
  | v :: vs, [], m, h, _, _ => by simp at h
  | v :: vs, s :: ss, m, h, hn, hz => by
    obtain ⟨h1, h2⟩ := List.nodup_cons.1 hn
    simp only [foldP, slopeZ]
    by_cases e : v = z
    · subst e
      rw [foldP_out u v vs ss _ h1, put_get, if_pos rfl, if_pos rfl]
    · rw [foldP_in u z vs ss _ (by simpa using h) h2 ((List.mem_cons.1 hz).resolve_left (Ne.symm e)), put_get, if_neg e, if_neg e]
theorem foldP_loop {ρ : Type} (u : Int → Int → Int) (vs : List ByteArray) (ss : List Int) (hl : ss.length = vs.length) (m : GMap Int) :
    forN (ρ := ρ) (fun (i6 : Nat) (s6 : (GMap Int)) => Option.bind (idx vs (i6 : Int)) fun v26 => Option.bind (idx ss (i6 : Int)) fun v36 => some (.nx (GMap.put s6 v26 (u (GMap.get s6 v26 (0 : Int)) v36)))) vs.length 0 m = some (.inr (foldP u vs ss m)) := by
  have key : ∀ (vs pv : List ByteArray) (ss ps : List Int) (m : GMap Int), ps.length = pv.length → ss.length = vs.length →
      forN (ρ := ρ) (fun (i6 : Nat) (s6 : (GMap Int)) => Option.bind (idx (pv ++ vs) (i6 : Int)) fun v26 => Option.bind (idx (ps ++ ss) (i6 : Int)) fun v36 => some (.nx (GMap.put s6 v26 (u (GMap.get s6 v26 (0 : Int)) v36)))) vs.length pv.length m = some (.inr (foldP u vs ss m)) := by
    intro vs
    induction vs with
    | nil => intro pv ss ps m _ h; cases ss <;> rfl
    | cons v vs ih =>
      intro pv ss ps m hp h
      cases ss with
      | nil => simp at h
      | cons s ss =>
        simp only [foldP, List.length_cons]
        rw [forN_nx (s' := GMap.put m v (u (GMap.get m v 0) s)) (by rw [idx_mid, Option.bind_some, ← hp, idx_mid]; rfl)]
        have := ih (pv ++ [v]) ss (ps ++ [s]) (GMap.put m v (u (GMap.get m v 0) s)) (by simp [hp]) (by simpa using h)
        simpa using this
  exact key vs [] ss [] m rfl hl
theorem inR_small {x : Int} (h0 : 0 ≤ x) (h1 : x ≤ 1000000) : InR x := by simp only [InR]; omega
theorem slopeZ_bound {l : Linear} (hv : validL l = true) (n : ByteArray) : 0 ≤ slopeZ l.Vars l.Slopes n ∧ slopeZ l.Vars l.Slopes n ≤ 1000 ∧ (n ∈ l.Vars ↔ slopeZ l.Vars l.Slopes n ≠ 0) := by
  obtain ⟨h1, h2, h3, h4, h5, h6⟩ := validL_iff hv
  by_cases hn : n ∈ l.Vars
  · have := slopeZ_in l.Vars l.Slopes n hn h2.symm h5
    exact ⟨by omega, this.2, ⟨fun _ => by omega, fun _ => hn⟩⟩
  · rw [slopeZ_notin _ _ _ hn]; simp [hn]
theorem ones_len {α : Type} : ∀ l : List α, lcn (fun _ => 1) l = l.length
  | [] => by rw [lcn_nil]; rfl
  | e :: l => by rw [lcn_cons, ones_len l, List.length_cons]; omega
end Go.Proofs.YtgbddapcjhgllaaGreat

set_option maxRecDepth 4000
namespace Go.Proofs.YtgbddapcjhgllaaGreat
open Go.Av
theorem wrap_small {x : Int} (h0 : 0 ≤ x) (h1 : x ≤ 1000000000000) : IntKind.i64.wrap x = x := by rw [wrap64] <;> omega
/-- One plus a multiple of the other. -/
def plusU (f g s : Int) : Int := IntKind.i64.wrap (g + IntKind.i64.wrap (f * s))
def plusL (a b : Linear) (f : Int) : Linear :=
  ⟨(namesOf a b).filter fun n => decide (0 < plusU f (slopeZ a.Vars a.Slopes n) (slopeZ b.Vars b.Slopes n)), ((namesOf a b).filter fun n => decide (0 < plusU f (slopeZ a.Vars a.Slopes n) (slopeZ b.Vars b.Slopes n))).map fun n => plusU f (slopeZ a.Vars a.Slopes n) (slopeZ b.Vars b.Slopes n), plusU f a.Constant b.Constant⟩
theorem fold_two {ρ : Type} (H : ByteArray → Int) : ∀ (xs : List ByteArray) (i : Nat) (s : List ByteArray × List Int), s.1.length + xs.length ≤ 1073741824 → s.2.length + xs.length ≤ 1073741824 →
    forL (ρ := ρ) (fun _ (x : ByteArray) (s : List ByteArray × List Int) => bif decide (0 < H x) then Option.bind (app s.1 ([x])) fun v => Option.bind (app s.2 ([H x])) fun w => some (.nx (v, w)) else some (.nx (s.1, s.2))) xs i s = some (.inr (s.1 ++ xs.filter (fun n => decide (0 < H n)), s.2 ++ (xs.filter (fun n => decide (0 < H n))).map H))
  | [], i, s, _, _ => by simp [forL]
  | x :: xs, i, s, h1, h2 => by
    simp only [List.length_cons] at h1 h2
    by_cases hz : 0 < H x
    · rw [forL_nx (s' := (s.1 ++ [x], s.2 ++ [H x])) (by simp only [decide_eq_true hz, cond_true]; rw [app_one (by omega)]; simp only [Option.bind_some]; rw [app_one (by omega)]; rfl), fold_two H xs (i + 1) _ (by simp; omega) (by simp; omega)]
      simp [hz]
    · rw [forL_nx (s' := s) (by simp only [decide_eq_false hz, cond_false]), fold_two H xs (i + 1) _ (by omega) (by omega)]
      simp [hz]
theorem l25Plus_eq (a b : Linear) (f : Int) (ha : a.Slopes.length = a.Vars.length) (hb : b.Slopes.length = b.Vars.length) (h : a.Vars.length + b.Vars.length ≤ 1048576) : spec_l25Plus a b f = some (plusL a b f) := by
  unfold spec_l25Plus
  have hn := namesOf_len a b
  rw [l25Names_eq a b h, Option.bind_some]
  rw [forN_forL _ (fun _ (x : ByteArray) (s : List ByteArray × List Int) => bif decide (0 < plusU f (slopeZ a.Vars a.Slopes x) (slopeZ b.Vars b.Slopes x)) then Option.bind (app s.1 ([x])) fun v => Option.bind (app s.2 ([plusU f (slopeZ a.Vars a.Slopes x) (slopeZ b.Vars b.Slopes x)])) fun w => some (.nx (v, w)) else some (.nx (s.1, s.2))) (namesOf a b) 0 ([], []) (fun j x s hx => by
    simp only [Nat.zero_add, idx_nat, hx, Option.bind_some, l25Slope_eq a x ha, l25Slope_eq b x hb, plusU]; rfl),
    fold_two (fun x => plusU f (slopeZ a.Vars a.Slopes x) (slopeZ b.Vars b.Slopes x)) _ 0 _ (by simp; omega) (by simp; omega), thenL_inr]
  rfl
theorem add_eq (l : Linear) (m : GMap Int) (f : Int) (hl : l.Slopes.length = l.Vars.length) : impl_Linear__add l m f = some (IntKind.i64.wrap (f * l.Constant), foldP (plusU f) l.Vars l.Slopes m) := by
  unfold impl_Linear__add
  have := foldP_loop (ρ := Int × GMap Int) (plusU f) l.Vars l.Slopes hl m
  rw [show (fun (i2 : Nat) (s2 : (GMap Int)) => Option.bind (idx l.Vars (i2 : Int)) fun v15 => Option.bind (idx l.Slopes (i2 : Int)) fun v24 => some (Flow.nx (GMap.put s2 v15 (IntKind.i64.wrap ((GMap.get s2 v15 (0 : Int)) + (IntKind.i64.wrap (f * v24))))) : Flow (Int × GMap Int) (GMap Int))) = (fun (i6 : Nat) (s6 : (GMap Int)) => Option.bind (idx l.Vars (i6 : Int)) fun v26 => Option.bind (idx l.Slopes (i6 : Int)) fun v36 => some (.nx (GMap.put s6 v26 (plusU f (GMap.get s6 v26 (0 : Int)) v36)))) from rfl, this, thenL_inr]
theorem plusU_zero {f g : Int} (h0 : 0 ≤ g) (h1 : g ≤ 1000000000) : plusU f g 0 = g := by
  unfold plusU
  rw [Int.mul_zero, show IntKind.i64.wrap 0 = 0 from wrap_small (by omega) (by omega), Int.add_zero, wrap_small h0 (by omega)]
theorem plusU_small {f g s : Int} (f0 : 0 ≤ f) (f1 : f ≤ 1000) (g0 : 0 ≤ g) (g1 : g ≤ 1000000000) (s0 : 0 ≤ s) (s1 : s ≤ 100000) : plusU f g s = g + f * s ∧ 0 ≤ f * s ∧ f * s ≤ 100000000 := by
  have h1 : 0 ≤ f * s := Int.mul_nonneg f0 s0
  have h2 : f * s ≤ 1000 * 100000 := Int.mul_le_mul f1 s1 s0 (by omega)
  unfold plusU
  rw [wrap_small h1 (by omega), wrap_small (by omega) (by omega)]
  exact ⟨rfl, h1, by omega⟩
end Go.Proofs.YtgbddapcjhgllaaGreat
