/- A part of the proof: lemmas only; nothing is claimed here beyond what each lemma says. -/
import Derived.Test.YtheihimhijkekaaGpth
set_option linter.unusedSimpArgs false
set_option linter.unusedVariables false
set_option linter.defProp false
set_option maxRecDepth 4000
namespace Go.Proofs.Ytheihimhijkekaa
open Go.Av
abbrev Q4 := Int × Int × Int × Int
def L4 (t : Q4) : List Int := [t.1, t.2.1, t.2.2.1, t.2.2.2]
def BQ (m : Int) (t : Q4) : Prop := (-1 ≤ t.1 ∧ t.1 ≤ m) ∧ (-1 ≤ t.2.1 ∧ t.2.1 ≤ m) ∧ (-1 ≤ t.2.2.1 ∧ t.2.2.1 ≤ m) ∧ (-1 ≤ t.2.2.2 ∧ t.2.2.2 ≤ m)
theorem Most_eq (a b : Int) : spec_l1Most a b = some (max a b) := by
  unfold spec_l1Most
  by_cases h : b < a
  · rw [decide_eq_true h]; simp only [cond_true, Option.some.injEq]; omega
  · rw [decide_eq_false h]; simp only [cond_false, Option.some.injEq]; omega
def iB (s : Q4) (e : SizeEdge) (t : Q4) : Option (Flow (Flow (Int × Bool) Q4) Q4) :=
  bif decide (e.From = (0 : Int)) then
    bif decide ((0 : Int) ≤ s.1) then
      bif decide (e.To = (0 : Int)) then
        Option.bind (impl_flag e.Strict) fun v57 =>
        some (.nx (max t.1 (IntKind.i64.wrap (s.1 + v57)), t.2.1, t.2.2.1, t.2.2.2))
      else
        bif decide (e.To = (1 : Int)) then
          Option.bind (impl_flag e.Strict) fun v57 =>
          some (.nx (t.1, max t.2.1 (IntKind.i64.wrap (s.1 + v57)), t.2.2.1, t.2.2.2))
        else
          bif decide (e.To = (2 : Int)) then
            Option.bind (impl_flag e.Strict) fun v57 =>
            some (.nx (t.1, t.2.1, max t.2.2.1 (IntKind.i64.wrap (s.1 + v57)), t.2.2.2))
          else
            bif decide (e.To = (3 : Int)) then
              Option.bind (impl_flag e.Strict) fun v57 =>
              some (.nx (t.1, t.2.1, t.2.2.1, max t.2.2.2 (IntKind.i64.wrap (s.1 + v57))))
            else
              none
    else
      some (.nx (t.1, t.2.1, t.2.2.1, t.2.2.2))
  else
    bif decide (e.From = (1 : Int)) then
      bif decide ((0 : Int) ≤ s.2.1) then
        bif decide (e.To = (0 : Int)) then
          Option.bind (impl_flag e.Strict) fun v57 =>
          some (.nx (max t.1 (IntKind.i64.wrap (s.2.1 + v57)), t.2.1, t.2.2.1, t.2.2.2))
        else
          bif decide (e.To = (1 : Int)) then
            Option.bind (impl_flag e.Strict) fun v57 =>
            some (.nx (t.1, max t.2.1 (IntKind.i64.wrap (s.2.1 + v57)), t.2.2.1, t.2.2.2))
          else
            bif decide (e.To = (2 : Int)) then
              Option.bind (impl_flag e.Strict) fun v57 =>
              some (.nx (t.1, t.2.1, max t.2.2.1 (IntKind.i64.wrap (s.2.1 + v57)), t.2.2.2))
            else
              bif decide (e.To = (3 : Int)) then
                Option.bind (impl_flag e.Strict) fun v57 =>
                some (.nx (t.1, t.2.1, t.2.2.1, max t.2.2.2 (IntKind.i64.wrap (s.2.1 + v57))))
              else
                none
      else
        some (.nx (t.1, t.2.1, t.2.2.1, t.2.2.2))
    else
      bif decide (e.From = (2 : Int)) then
        bif decide ((0 : Int) ≤ s.2.2.1) then
          bif decide (e.To = (0 : Int)) then
            Option.bind (impl_flag e.Strict) fun v57 =>
            some (.nx (max t.1 (IntKind.i64.wrap (s.2.2.1 + v57)), t.2.1, t.2.2.1, t.2.2.2))
          else
            bif decide (e.To = (1 : Int)) then
              Option.bind (impl_flag e.Strict) fun v57 =>
              some (.nx (t.1, max t.2.1 (IntKind.i64.wrap (s.2.2.1 + v57)), t.2.2.1, t.2.2.2))
            else
              bif decide (e.To = (2 : Int)) then
                Option.bind (impl_flag e.Strict) fun v57 =>
                some (.nx (t.1, t.2.1, max t.2.2.1 (IntKind.i64.wrap (s.2.2.1 + v57)), t.2.2.2))
              else
                bif decide (e.To = (3 : Int)) then
                  Option.bind (impl_flag e.Strict) fun v57 =>
                  some (.nx (t.1, t.2.1, t.2.2.1, max t.2.2.2 (IntKind.i64.wrap (s.2.2.1 + v57))))
                else
                  none
        else
          some (.nx (t.1, t.2.1, t.2.2.1, t.2.2.2))
      else
        bif decide (e.From = (3 : Int)) then
          bif decide ((0 : Int) ≤ s.2.2.2) then
            bif decide (e.To = (0 : Int)) then
              Option.bind (impl_flag e.Strict) fun v57 =>
              some (.nx (max t.1 (IntKind.i64.wrap (s.2.2.2 + v57)), t.2.1, t.2.2.1, t.2.2.2))
            else
              bif decide (e.To = (1 : Int)) then
                Option.bind (impl_flag e.Strict) fun v57 =>
                some (.nx (t.1, max t.2.1 (IntKind.i64.wrap (s.2.2.2 + v57)), t.2.2.1, t.2.2.2))
              else
                bif decide (e.To = (2 : Int)) then
                  Option.bind (impl_flag e.Strict) fun v57 =>
                  some (.nx (t.1, t.2.1, max t.2.2.1 (IntKind.i64.wrap (s.2.2.2 + v57)), t.2.2.2))
                else
                  bif decide (e.To = (3 : Int)) then
                    Option.bind (impl_flag e.Strict) fun v57 =>
                    some (.nx (t.1, t.2.1, t.2.2.1, max t.2.2.2 (IntKind.i64.wrap (s.2.2.2 + v57))))
                  else
                    none
          else
            some (.nx (t.1, t.2.1, t.2.2.1, t.2.2.2))
        else
          none
noncomputable def sB (s : List Int) (e : SizeEdge) (t : List Int) : Option (Flow (Flow (Int × Bool) (List Int)) (List Int)) :=
  Option.bind (idx s e.From) fun v50 =>
  Option.bind (idx s e.From) fun v51 =>
  bif decide (v51 < (0 : Int)) then
    some (.nx t)
  else
    bif e.Strict then
      Option.bind (idx t e.To) fun v73 =>
      Option.bind (idx t e.To) fun v74 =>
      Option.bind (spec_l1Most v74 (IntKind.i64.wrap (v51 + (1 : Int)))) fun v76 =>
      Option.bind (idx t e.To) fun v77 =>
      Option.bind (idx t e.To) fun w7 =>
      some (.nx (t.set e.To.toNat v76))
    else
      Option.bind (idx t e.To) fun v73 =>
      Option.bind (idx t e.To) fun v74 =>
      Option.bind (spec_l1Most v74 v51) fun v76 =>
      Option.bind (idx t e.To) fun v77 =>
      Option.bind (idx t e.To) fun w8 =>
      some (.nx (t.set e.To.toNat v76))
theorem flag_eq (b : Bool) : impl_flag b = some (bif b then 1 else 0) := by cases b <;> rfl
theorem idx4 (t : Q4) : idx (L4 t) 0 = some t.1 ∧ idx (L4 t) 1 = some t.2.1 ∧ idx (L4 t) 2 = some t.2.2.1 ∧ idx (L4 t) 3 = some t.2.2.2 := ⟨rfl, rfl, rfl, rfl⟩
theorem body_both (m : Int) (hm : m ≤ 1000) (s t : Q4) (e : SizeEdge) (he : edgeOk e = true) (hs : BQ m s) (ht : BQ (m + 1) t) : ∃ u, iB s e t = some (.nx u) ∧ sB (L4 s) e (L4 t) = some (.nx (L4 u)) ∧ BQ (m + 1) u := by
  obtain ⟨f, g, b⟩ := e
  obtain ⟨s0, s1, s2, s3⟩ := s
  obtain ⟨t0, t1, t2, t3⟩ := t
  simp only [edgeOk, inR, Bool.and_eq_true, decide_eq_true_iff] at he
  simp only [BQ] at hs ht
  have hw0 : ∀ x : Int, -1 ≤ x → x ≤ m → IntKind.i64.wrap (x + 1) = x + 1 := fun x h1 h2 => by rw [wrap64 (by omega) (by omega)]
  have hw1 : ∀ x : Int, -1 ≤ x → x ≤ m → IntKind.i64.wrap x = x := fun x h1 h2 => by rw [wrap64 (by omega) (by omega)]
  have hf : f = 0 ∨ f = 1 ∨ f = 2 ∨ f = 3 := by omega
  have hg : g = 0 ∨ g = 1 ∨ g = 2 ∨ g = 3 := by omega
  unfold iB sB
  rcases hf with rfl | rfl | rfl | rfl <;> rcases hg with rfl | rfl | rfl | rfl
  · by_cases hn : 0 ≤ s0
    · have hn' : ¬ s0 < 0 := by omega
      have w0 := hw0 s0 (by omega) (by omega)
      have w1 := hw1 s0 (by omega) (by omega)
      cases b
      · exact ⟨(max t0 s0, t1, t2, t3), by simp [hn, flag_eq, w1], by simp [L4, idx, hn', Most_eq], by simp only [BQ]; omega⟩
      · exact ⟨(max t0 (s0 + 1), t1, t2, t3), by simp [hn, flag_eq, w0], by simp [L4, idx, hn', Most_eq, w0], by simp only [BQ]; omega⟩
    · exact ⟨(t0, t1, t2, t3), by simp [hn], by simp [L4, idx, (by omega : s0 < 0)], by simp only [BQ]; omega⟩
  · by_cases hn : 0 ≤ s0
    · have hn' : ¬ s0 < 0 := by omega
      have w0 := hw0 s0 (by omega) (by omega)
      have w1 := hw1 s0 (by omega) (by omega)
      cases b
      · exact ⟨(t0, max t1 s0, t2, t3), by simp [hn, flag_eq, w1], by simp [L4, idx, hn', Most_eq], by simp only [BQ]; omega⟩
      · exact ⟨(t0, max t1 (s0 + 1), t2, t3), by simp [hn, flag_eq, w0], by simp [L4, idx, hn', Most_eq, w0], by simp only [BQ]; omega⟩
    · exact ⟨(t0, t1, t2, t3), by simp [hn], by simp [L4, idx, (by omega : s0 < 0)], by simp only [BQ]; omega⟩
  · by_cases hn : 0 ≤ s0
    · have hn' : ¬ s0 < 0 := by omega
      have w0 := hw0 s0 (by omega) (by omega)
      have w1 := hw1 s0 (by omega) (by omega)
      cases b
      · exact ⟨(t0, t1, max t2 s0, t3), by simp [hn, flag_eq, w1], by simp [L4, idx, hn', Most_eq], by simp only [BQ]; omega⟩
      · exact ⟨(t0, t1, max t2 (s0 + 1), t3), by simp [hn, flag_eq, w0], by simp [L4, idx, hn', Most_eq, w0], by simp only [BQ]; omega⟩
    · exact ⟨(t0, t1, t2, t3), by simp [hn], by simp [L4, idx, (by omega : s0 < 0)], by simp only [BQ]; omega⟩
  · by_cases hn : 0 ≤ s0
    · have hn' : ¬ s0 < 0 := by omega
      have w0 := hw0 s0 (by omega) (by omega)
      have w1 := hw1 s0 (by omega) (by omega)
      cases b
      · exact ⟨(t0, t1, t2, max t3 s0), by simp [hn, flag_eq, w1], by simp [L4, idx, hn', Most_eq], by simp only [BQ]; omega⟩
      · exact ⟨(t0, t1, t2, max t3 (s0 + 1)), by simp [hn, flag_eq, w0], by simp [L4, idx, hn', Most_eq, w0], by simp only [BQ]; omega⟩
    · exact ⟨(t0, t1, t2, t3), by simp [hn], by simp [L4, idx, (by omega : s0 < 0)], by simp only [BQ]; omega⟩
  · by_cases hn : 0 ≤ s1
    · have hn' : ¬ s1 < 0 := by omega
      have w0 := hw0 s1 (by omega) (by omega)
      have w1 := hw1 s1 (by omega) (by omega)
      cases b
      · exact ⟨(max t0 s1, t1, t2, t3), by simp [hn, flag_eq, w1], by simp [L4, idx, hn', Most_eq], by simp only [BQ]; omega⟩
      · exact ⟨(max t0 (s1 + 1), t1, t2, t3), by simp [hn, flag_eq, w0], by simp [L4, idx, hn', Most_eq, w0], by simp only [BQ]; omega⟩
    · exact ⟨(t0, t1, t2, t3), by simp [hn], by simp [L4, idx, (by omega : s1 < 0)], by simp only [BQ]; omega⟩
  · by_cases hn : 0 ≤ s1
    · have hn' : ¬ s1 < 0 := by omega
      have w0 := hw0 s1 (by omega) (by omega)
      have w1 := hw1 s1 (by omega) (by omega)
      cases b
      · exact ⟨(t0, max t1 s1, t2, t3), by simp [hn, flag_eq, w1], by simp [L4, idx, hn', Most_eq], by simp only [BQ]; omega⟩
      · exact ⟨(t0, max t1 (s1 + 1), t2, t3), by simp [hn, flag_eq, w0], by simp [L4, idx, hn', Most_eq, w0], by simp only [BQ]; omega⟩
    · exact ⟨(t0, t1, t2, t3), by simp [hn], by simp [L4, idx, (by omega : s1 < 0)], by simp only [BQ]; omega⟩
  · by_cases hn : 0 ≤ s1
    · have hn' : ¬ s1 < 0 := by omega
      have w0 := hw0 s1 (by omega) (by omega)
      have w1 := hw1 s1 (by omega) (by omega)
      cases b
      · exact ⟨(t0, t1, max t2 s1, t3), by simp [hn, flag_eq, w1], by simp [L4, idx, hn', Most_eq], by simp only [BQ]; omega⟩
      · exact ⟨(t0, t1, max t2 (s1 + 1), t3), by simp [hn, flag_eq, w0], by simp [L4, idx, hn', Most_eq, w0], by simp only [BQ]; omega⟩
    · exact ⟨(t0, t1, t2, t3), by simp [hn], by simp [L4, idx, (by omega : s1 < 0)], by simp only [BQ]; omega⟩
  · by_cases hn : 0 ≤ s1
    · have hn' : ¬ s1 < 0 := by omega
      have w0 := hw0 s1 (by omega) (by omega)
      have w1 := hw1 s1 (by omega) (by omega)
      cases b
      · exact ⟨(t0, t1, t2, max t3 s1), by simp [hn, flag_eq, w1], by simp [L4, idx, hn', Most_eq], by simp only [BQ]; omega⟩
      · exact ⟨(t0, t1, t2, max t3 (s1 + 1)), by simp [hn, flag_eq, w0], by simp [L4, idx, hn', Most_eq, w0], by simp only [BQ]; omega⟩
    · exact ⟨(t0, t1, t2, t3), by simp [hn], by simp [L4, idx, (by omega : s1 < 0)], by simp only [BQ]; omega⟩
  · by_cases hn : 0 ≤ s2
    · have hn' : ¬ s2 < 0 := by omega
      have w0 := hw0 s2 (by omega) (by omega)
      have w1 := hw1 s2 (by omega) (by omega)
      cases b
      · exact ⟨(max t0 s2, t1, t2, t3), by simp [hn, flag_eq, w1], by simp [L4, idx, hn', Most_eq], by simp only [BQ]; omega⟩
      · exact ⟨(max t0 (s2 + 1), t1, t2, t3), by simp [hn, flag_eq, w0], by simp [L4, idx, hn', Most_eq, w0], by simp only [BQ]; omega⟩
    · exact ⟨(t0, t1, t2, t3), by simp [hn], by simp [L4, idx, (by omega : s2 < 0)], by simp only [BQ]; omega⟩
  · by_cases hn : 0 ≤ s2
    · have hn' : ¬ s2 < 0 := by omega
      have w0 := hw0 s2 (by omega) (by omega)
      have w1 := hw1 s2 (by omega) (by omega)
      cases b
      · exact ⟨(t0, max t1 s2, t2, t3), by simp [hn, flag_eq, w1], by simp [L4, idx, hn', Most_eq], by simp only [BQ]; omega⟩
      · exact ⟨(t0, max t1 (s2 + 1), t2, t3), by simp [hn, flag_eq, w0], by simp [L4, idx, hn', Most_eq, w0], by simp only [BQ]; omega⟩
    · exact ⟨(t0, t1, t2, t3), by simp [hn], by simp [L4, idx, (by omega : s2 < 0)], by simp only [BQ]; omega⟩
  · by_cases hn : 0 ≤ s2
    · have hn' : ¬ s2 < 0 := by omega
      have w0 := hw0 s2 (by omega) (by omega)
      have w1 := hw1 s2 (by omega) (by omega)
      cases b
      · exact ⟨(t0, t1, max t2 s2, t3), by simp [hn, flag_eq, w1], by simp [L4, idx, hn', Most_eq], by simp only [BQ]; omega⟩
      · exact ⟨(t0, t1, max t2 (s2 + 1), t3), by simp [hn, flag_eq, w0], by simp [L4, idx, hn', Most_eq, w0], by simp only [BQ]; omega⟩
    · exact ⟨(t0, t1, t2, t3), by simp [hn], by simp [L4, idx, (by omega : s2 < 0)], by simp only [BQ]; omega⟩
  · by_cases hn : 0 ≤ s2
    · have hn' : ¬ s2 < 0 := by omega
      have w0 := hw0 s2 (by omega) (by omega)
      have w1 := hw1 s2 (by omega) (by omega)
      cases b
      · exact ⟨(t0, t1, t2, max t3 s2), by simp [hn, flag_eq, w1], by simp [L4, idx, hn', Most_eq], by simp only [BQ]; omega⟩
      · exact ⟨(t0, t1, t2, max t3 (s2 + 1)), by simp [hn, flag_eq, w0], by simp [L4, idx, hn', Most_eq, w0], by simp only [BQ]; omega⟩
    · exact ⟨(t0, t1, t2, t3), by simp [hn], by simp [L4, idx, (by omega : s2 < 0)], by simp only [BQ]; omega⟩
  · by_cases hn : 0 ≤ s3
    · have hn' : ¬ s3 < 0 := by omega
      have w0 := hw0 s3 (by omega) (by omega)
      have w1 := hw1 s3 (by omega) (by omega)
      cases b
      · exact ⟨(max t0 s3, t1, t2, t3), by simp [hn, flag_eq, w1], by simp [L4, idx, hn', Most_eq], by simp only [BQ]; omega⟩
      · exact ⟨(max t0 (s3 + 1), t1, t2, t3), by simp [hn, flag_eq, w0], by simp [L4, idx, hn', Most_eq, w0], by simp only [BQ]; omega⟩
    · exact ⟨(t0, t1, t2, t3), by simp [hn], by simp [L4, idx, (by omega : s3 < 0)], by simp only [BQ]; omega⟩
  · by_cases hn : 0 ≤ s3
    · have hn' : ¬ s3 < 0 := by omega
      have w0 := hw0 s3 (by omega) (by omega)
      have w1 := hw1 s3 (by omega) (by omega)
      cases b
      · exact ⟨(t0, max t1 s3, t2, t3), by simp [hn, flag_eq, w1], by simp [L4, idx, hn', Most_eq], by simp only [BQ]; omega⟩
      · exact ⟨(t0, max t1 (s3 + 1), t2, t3), by simp [hn, flag_eq, w0], by simp [L4, idx, hn', Most_eq, w0], by simp only [BQ]; omega⟩
    · exact ⟨(t0, t1, t2, t3), by simp [hn], by simp [L4, idx, (by omega : s3 < 0)], by simp only [BQ]; omega⟩
  · by_cases hn : 0 ≤ s3
    · have hn' : ¬ s3 < 0 := by omega
      have w0 := hw0 s3 (by omega) (by omega)
      have w1 := hw1 s3 (by omega) (by omega)
      cases b
      · exact ⟨(t0, t1, max t2 s3, t3), by simp [hn, flag_eq, w1], by simp [L4, idx, hn', Most_eq], by simp only [BQ]; omega⟩
      · exact ⟨(t0, t1, max t2 (s3 + 1), t3), by simp [hn, flag_eq, w0], by simp [L4, idx, hn', Most_eq, w0], by simp only [BQ]; omega⟩
    · exact ⟨(t0, t1, t2, t3), by simp [hn], by simp [L4, idx, (by omega : s3 < 0)], by simp only [BQ]; omega⟩
  · by_cases hn : 0 ≤ s3
    · have hn' : ¬ s3 < 0 := by omega
      have w0 := hw0 s3 (by omega) (by omega)
      have w1 := hw1 s3 (by omega) (by omega)
      cases b
      · exact ⟨(t0, t1, t2, max t3 s3), by simp [hn, flag_eq, w1], by simp [L4, idx, hn', Most_eq], by simp only [BQ]; omega⟩
      · exact ⟨(t0, t1, t2, max t3 (s3 + 1)), by simp [hn, flag_eq, w0], by simp [L4, idx, hn', Most_eq, w0], by simp only [BQ]; omega⟩
    · exact ⟨(t0, t1, t2, t3), by simp [hn], by simp [L4, idx, (by omega : s3 < 0)], by simp only [BQ]; omega⟩
theorem edges_both (m : Int) (hm : m ≤ 1000) (s : Q4) (hs : BQ m s) : ∀ (l : List SizeEdge) (i j : Nat) (t : Q4), (∀ e ∈ l, edgeOk e = true) → BQ (m + 1) t →
    ∃ u, forL (fun _ e t => iB s e t) l i t = some (.inr u) ∧ forL (fun _ e t => sB (L4 s) e t) l j (L4 t) = some (.inr (L4 u)) ∧ BQ (m + 1) u
  | [], i, j, t, _, ht => ⟨t, rfl, rfl, ht⟩
  | e :: l, i, j, t, h, ht => by
    obtain ⟨v, h1, h2, h3⟩ := body_both m hm s t e (h e (by simp)) hs ht
    obtain ⟨u, g1, g2, g3⟩ := edges_both m hm s hs l (i + 1) (j + 1) v (fun x hx => h x (by simp [hx])) h3
    exact ⟨u, by rw [forL_nx h1, g1], by rw [forL_nx h2, g2], g3⟩
def iS (calls : List SizeGraph) (v : Int) (s : Q4) : Option (Flow (Int × Bool) Q4) :=
  Option.bind (idx calls v) fun v32 => thenL (ρ := Flow (Int × Bool) Q4) (σ := Q4) (forL (fun _ e t => iB s e t) v32.Edges 0 ((-1 : Int), (-1 : Int), (-1 : Int), (-1 : Int))) fun s9 => some (.nx (s9.1, s9.2.1, s9.2.2.1, s9.2.2.2))
noncomputable def sS (calls : List SizeGraph) (v : Int) (s : List Int) : Option (Flow (Int × Bool) (List Int)) :=
  Option.bind (idx calls v) fun v32 => thenL (ρ := Flow (Int × Bool) (List Int)) (σ := List Int) (forL (fun _ e t => sB s e t) v32.Edges 0 [(-1 : Int), (-1 : Int), (-1 : Int), (-1 : Int)]) fun s9 => some (.nx s9)
theorem path_loop (calls : List SizeGraph) (hc : ∀ g ∈ calls, ∀ e ∈ g.Edges, edgeOk e = true) : ∀ (l : List Int) (i j : Nat) (m : Int) (s : Q4), BQ m s → m + l.length ≤ 1000 → -1 ≤ m → (∀ v ∈ l, 0 ≤ v ∧ v < calls.length) →
    ∃ u, forL (fun _ v s => iS calls v s) l i s = some (.inr u) ∧ forL (fun _ v s => sS calls v s) l j (L4 s) = some (.inr (L4 u))
  | [], i, j, m, s, _, _, _, _ => ⟨s, rfl, rfl⟩
  | v :: l, i, j, m, s, hs, hm, h0, h => by
    rw [List.length_cons] at hm
    obtain ⟨h1, h2⟩ := h v (by simp)
    have hi := idx_int h1 h2
    have hg : calls.getD v.toNat default ∈ calls := getD_mem (by omega)
    obtain ⟨u, k1, k2, k3⟩ := edges_both m (by omega) s hs (calls.getD v.toNat default).Edges 0 0 (-1, -1, -1, -1) (hc _ hg) (by simp only [BQ]; omega)
    obtain ⟨w, g1, g2⟩ := path_loop calls hc l (i + 1) (j + 1) (m + 1) u k3 (by omega) (by omega) (fun x hx => h x (by simp [hx]))
    refine ⟨w, ?_, ?_⟩
    · rw [forL_nx (s' := u) (by unfold iS; rw [hi, Option.bind_some, k1]; rfl), g1]
    · rw [forL_nx (s' := L4 u) (by
        unfold sS
        rw [hi, Option.bind_some, show [(-1 : Int), -1, -1, -1] = L4 (-1, -1, -1, -1) from rfl, k2]; rfl), g2]
theorem edge_ok {g : SizeGraph} (h : validG g = true) : ∀ e ∈ g.Edges, edgeOk e = true := fun e he => by
  unfold validG at h
  simp only [Bool.and_eq_true, List.all_eq_true] at h
  obtain ⟨i, hi, rfl⟩ := List.getElem_of_mem he
  have := h.2 i (List.mem_range.2 hi)
  unfold edgeC at this
  rw [Bool.and_eq_true] at this
  have h1 := this.1
  rwa [List.getD_eq_getElem?_getD, List.getElem?_eq_getElem hi, Option.getD_some] at h1
theorem max4 (u : Q4) : slices_Max_Sint_int (L4 u) = some (max (max u.1 u.2.1) (max u.2.2.1 u.2.2.2)) := by
  unfold slices_Max_Sint_int
  rw [decide_eq_false (by show ¬ ((4 : Nat) : Int) < 1; omega), cond_false, show (0 : Int) = ((0 : Nat) : Int) from rfl, idx_nat]
  show Option.bind (some u.1) _ = _
  rw [Option.bind_some]
  have e : forN (ρ := Int) (fun (i5 : Nat) (s5 : Int) => Option.bind (idx (L4 u) (i5 : Int)) fun v21 => some (.nx (max s5 v21))) 3 1 u.1 = some (.inr (max (max (max u.1 u.2.1) u.2.2.1) u.2.2.2)) := by
    rw [forN_nx (s' := max u.1 u.2.1) (by rw [idx_nat]; rfl), forN_nx (s' := max (max u.1 u.2.1) u.2.2.1) (by rw [idx_nat]; rfl), forN_nx (s' := max (max (max u.1 u.2.1) u.2.2.1) u.2.2.2) (by rw [idx_nat]; rfl), forN_zero]
  show thenL (forN _ 3 1 u.1) _ = _
  rw [e, thenL_inr]
  congr 1; omega
theorem most_both (p : CyclicProof) (xs : List Int) (hp : p.Ok) (hx : xs.length ≤ 1048576) : ∃ r, spec_MostProgress p xs = some r ∧ impl_MostProgress p xs = some r := by
  unfold spec_MostProgress impl_MostProgress
  rw [specP p hp, implP p hp, Option.bind_some, Option.bind_some]
  cases hv : validP p
  · exact ⟨_, rfl, rfl⟩
  · obtain ⟨hc, hg⟩ := valid_calls hv
    rw [cond_true, cond_true, l24Path_ok p xs (by omega) hx, isPath_ok p xs (by omega) hx, Option.bind_some, Option.bind_some]
    cases hpp : pathP p xs
    · exact ⟨_, rfl, rfl⟩
    · rw [cond_true, cond_true]
      unfold pathP at hpp
      rw [Bool.and_eq_true, List.all_eq_true, decide_eq_true_iff] at hpp
      have hin : ∀ v ∈ xs, 0 ≤ v ∧ v < p.Calls.length := fun v hv => by
        obtain ⟨i, hi, rfl⟩ := List.getElem_of_mem hv
        have := pathC_in (hpp.1 i (List.mem_range.2 hi))
        rwa [List.getD_eq_getElem?_getD, List.getElem?_eq_getElem hi, Option.getD_some] at this
      obtain ⟨u, h1, h2⟩ := path_loop p.Calls (fun g hgm => edge_ok (hg g hgm)) xs 0 0 0 (0, 0, 0, 0) (by simp only [BQ]; omega) (by omega) (by omega) hin
      have ei : forN (fun (i5 : Nat) (s5 : Int × Int × Int × Int) =>
        Option.bind (idx xs (i5 : Int)) fun v26 =>
        Option.bind (idx p.Calls v26) fun v32 =>
        thenL (ρ := (Flow (Int × Bool) (Int × Int × Int × Int))) (σ := Int × Int × Int × Int) (forN (fun (i9 : Nat) (s9 : Int × Int × Int × Int) =>
          Option.bind (idx v32.Edges (i9 : Int)) fun v38 => iB s5 v38 s9) v32.Edges.length 0 ((-1 : Int), (-1 : Int), (-1 : Int), (-1 : Int))) fun s9 =>
        some (.nx (s9.1, s9.2.1, s9.2.2.1, s9.2.2.2))) xs.length 0 ((0 : Int), (0 : Int), (0 : Int), (0 : Int)) = some (.inr u) := by
        rw [forN_idx xs (fun _ v26 (s5 : Q4) => Option.bind (idx p.Calls v26) fun v32 =>
        thenL (ρ := (Flow (Int × Bool) (Int × Int × Int × Int))) (σ := Int × Int × Int × Int) (forN (fun (i9 : Nat) (s9 : Int × Int × Int × Int) =>
          Option.bind (idx v32.Edges (i9 : Int)) fun v38 => iB s5 v38 s9) v32.Edges.length 0 ((-1 : Int), (-1 : Int), (-1 : Int), (-1 : Int))) fun s9 =>
        some (.nx (s9.1, s9.2.1, s9.2.2.1, s9.2.2.2))) (0, 0, 0, 0), ← h1]
        refine forL_congr _ _ _ (fun j x s hx => ?_)
        unfold iS
        cases idx p.Calls x with
        | none => rfl
        | some g => rw [Option.bind_some, Option.bind_some, forN_idx g.Edges (fun _ e t => iB s e t)]
      have es : forN (ρ := Int × Bool) (fun (i5 : Nat) (s5 : List Int) =>
        Option.bind (idx xs (i5 : Int)) fun v33 =>
        Option.bind (idx p.Calls v33) fun v35 =>
        thenL (ρ := (Flow (Int × Bool) (List Int))) (σ := (List Int)) (forN (fun (i10 : Nat) (s10 : (List Int)) =>
          Option.bind (idx v35.Edges (i10 : Int)) fun v47 =>
          Option.bind (idx s5 v47.From) fun v50 =>
          Option.bind (idx s5 v47.From) fun v51 =>
          bif decide (v51 < (0 : Int)) then
            some (.nx s10)
          else
            Option.bind (idx v35.Edges (i10 : Int)) fun v56 =>
            bif v56.Strict then
              Option.bind (idx v35.Edges (i10 : Int)) fun v64 =>
              Option.bind (idx v35.Edges (i10 : Int)) fun v70 =>
              Option.bind (idx s10 v70.To) fun v73 =>
              Option.bind (idx s10 v70.To) fun v74 =>
              Option.bind (spec_l1Most v74 (IntKind.i64.wrap (v51 + (1 : Int)))) fun v76 =>
              Option.bind (idx s10 v64.To) fun v77 =>
              Option.bind (idx s10 v64.To) fun w7 =>
              some (.nx (s10.set v64.To.toNat v76))
            else
              Option.bind (idx v35.Edges (i10 : Int)) fun v64 =>
              Option.bind (idx v35.Edges (i10 : Int)) fun v70 =>
              Option.bind (idx s10 v70.To) fun v73 =>
              Option.bind (idx s10 v70.To) fun v74 =>
              Option.bind (spec_l1Most v74 v51) fun v76 =>
              Option.bind (idx s10 v64.To) fun v77 =>
              Option.bind (idx s10 v64.To) fun w8 =>
              some (.nx (s10.set v64.To.toNat v76))) v35.Edges.length 0 ([(-1 : Int), (-1 : Int), (-1 : Int), (-1 : Int)])) fun s10 =>
        some (.nx s10)) xs.length 0 ([(0 : Int), (0 : Int), (0 : Int), (0 : Int)]) = some (.inr (L4 u)) := by
        rw [forN_idx xs (fun _ v33 (s5 : List Int) => Option.bind (idx p.Calls v33) fun v35 =>
        thenL (ρ := (Flow (Int × Bool) (List Int))) (σ := (List Int)) (forN (fun (i10 : Nat) (s10 : (List Int)) =>
          Option.bind (idx v35.Edges (i10 : Int)) fun v47 =>
          Option.bind (idx s5 v47.From) fun v50 =>
          Option.bind (idx s5 v47.From) fun v51 =>
          bif decide (v51 < (0 : Int)) then
            some (.nx s10)
          else
            Option.bind (idx v35.Edges (i10 : Int)) fun v56 =>
            bif v56.Strict then
              Option.bind (idx v35.Edges (i10 : Int)) fun v64 =>
              Option.bind (idx v35.Edges (i10 : Int)) fun v70 =>
              Option.bind (idx s10 v70.To) fun v73 =>
              Option.bind (idx s10 v70.To) fun v74 =>
              Option.bind (spec_l1Most v74 (IntKind.i64.wrap (v51 + (1 : Int)))) fun v76 =>
              Option.bind (idx s10 v64.To) fun v77 =>
              Option.bind (idx s10 v64.To) fun w7 =>
              some (.nx (s10.set v64.To.toNat v76))
            else
              Option.bind (idx v35.Edges (i10 : Int)) fun v64 =>
              Option.bind (idx v35.Edges (i10 : Int)) fun v70 =>
              Option.bind (idx s10 v70.To) fun v73 =>
              Option.bind (idx s10 v70.To) fun v74 =>
              Option.bind (spec_l1Most v74 v51) fun v76 =>
              Option.bind (idx s10 v64.To) fun v77 =>
              Option.bind (idx s10 v64.To) fun w8 =>
              some (.nx (s10.set v64.To.toNat v76))) v35.Edges.length 0 ([(-1 : Int), (-1 : Int), (-1 : Int), (-1 : Int)])) fun s10 =>
        some (.nx s10)) [0, 0, 0, 0], ← h2]
        refine forL_congr _ _ _ (fun j x s hx => ?_)
        unfold sS
        cases idx p.Calls x with
        | none => rfl
        | some g =>
          rw [Option.bind_some, Option.bind_some]
          refine congrArg (fun z => thenL z _) ?_
          refine forN_forL _ (fun _ e t => sB s e t) g.Edges 0 _ (fun k e t he => ?_)
          rw [Nat.zero_add, idx_nat, he]
          unfold sB
          simp only [Option.bind_some]
      refine ⟨(max (max u.1 u.2.1) (max u.2.2.1 u.2.2.2), true), ?_, ?_⟩
      · rw [es, thenL_inr]
        obtain ⟨q0, q1, q2, q3⟩ := idx4 u
        simp only [q0, q1, q2, q3, Option.bind_some, Most_eq]
      · refine (congrArg (fun z => thenL z _) ei).trans ?_
        rw [thenL_inr, show [u.1, u.2.1, u.2.2.1, u.2.2.2] = L4 u from rfl, max4]; rfl
theorem FnExactMostProgress_true (p : CyclicProof) (xs : List Int) (hp : p.Ok) (hx : LOk InR xs) : FnExactMostProgress p xs = some true := by
  unfold FnExactMostProgress
  by_cases hc : (1048576 : Int) < (xs.length : Int)
  · rw [decide_eq_true hc]; rfl
  rw [decide_eq_false hc, cond_false, szCyclicProof_eq p hp _ (by omega) (by omega), Option.bind_some]
  by_cases e : szR p.tot 1048576 < 0
  · rw [decide_eq_true e]; rfl
  have h1 := szR_ok e
  rw [decide_eq_false e, cond_false]
  obtain ⟨r, g1, g2⟩ := most_both p xs hp (by omega)
  simp only [toCyclicProof_eq p h1, toIntS_eq xs (by rw [ltot0]; omega), Option.bind_some, g1, g2, eqCyclicProof_refl, eqIntS_refl, cond_true, beq_self_eq_true, decide_true]
end Go.Proofs.Ytheihimhijkekaa
