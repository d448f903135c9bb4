/- A part of the proof: lemmas only; nothing is claimed here beyond what each lemma says. -/
/- Another name for an object. -/
import Derived.Test.YtgkgihdafalimaaGreatAvE
set_option linter.unusedSimpArgs false
set_option linter.unusedVariables false
set_option linter.defProp false
namespace Go.Av
mutual
def CV.ren (c c' : Nat) : CV → CV
  | .own n => .own (if n = c then c' else n)
  | .node fs => .node (CV.rens c c' fs)
  | .pv p => .pv p
  | .gone n => .gone n
def CV.rens (c c' : Nat) : List CV → List CV
  | [] => []
  | x :: xs => x.ren c c' :: CV.rens c c' xs
end
def HC.ren (c c' : Nat) : HC → HC
  | .cv x => .cv (x.ren c c')
  | .mp a b => .mp a b
  | .it r a b d => .it r a b d
def SlotV.ren (c c' : Nat) : SlotV → SlotV
  | .dead => .dead
  | .val x => .val (x.ren c c')
  | .tup xs => .tup (CV.rens c c' xs)
  | .box x => .box (x.ren c c')
  | .bptr r p o => .bptr r p o
  | .eptr n sz i p o => .eptr (if n = c then c' else n) sz i p o
  | .ex Q => .ex Q
  | .fn cs rs ps f => .fn (cs.map fun n => if n = c then c' else n) rs ps f
  | .hold sh ps x => .hold sh ps (x.ren c c')
  | .hptr r sh ps => .hptr r sh ps
def St.ren (st : St) (c c' : Nat) : St := ⟨fun k => (st.s k).ren c c', upd (upd st.o c none) c' (st.o c)⟩

mutual
theorem CV.ren_size (c c' : Nat) : ∀ x : CV, (x.ren c c').size = x.size
  | .own n => rfl
  | .node fs => by simp only [CV.ren, CV.size, CV.rens_sizes c c' fs]
  | .pv p => rfl
  | .gone n => rfl
theorem CV.rens_sizes (c c' : Nat) : ∀ xs : List CV, CV.sizes (CV.rens c c' xs) = CV.sizes xs
  | [] => rfl
  | x :: xs => by simp only [CV.rens, CV.sizes, CV.ren_size c c' x, CV.rens_sizes c c' xs]
end
theorem CV.ren_isAgg (c c' : Nat) (x : CV) : (x.ren c c').isAgg = x.isAgg := by cases x <;> rfl

section
variable {N : Nat → Prop} {w : World} {hd hd' : Nat → Value} {c c' : Nat}
mutual
theorem CV.ren_rep (h1 : hd' c' = hd c) (h2 : ∀ n, n ≠ c' → hd' n = hd n) : ∀ (x : CV) (cs : List Value), x.noC c' = true → RepCV N w hd x cs → RepCV N w hd' (x.ren c c') cs
  | .own n, cs, hx, h => by
    simp only [RepCV] at h ⊢
    simp only [CV.ren, RepCV]
    by_cases e : n = c
    · subst e; simpa [h1] using h
    · have : n ≠ c' := by simpa [CV.noC] using hx
      simpa [e, h2 n this] using h
  | .node fs, cs, hx, h => by
    simp only [RepCV] at h
    simp only [CV.ren, RepCV]
    exact CV.rens_rep h1 h2 fs cs (by simpa [CV.noC] using hx) h
  | .pv p, cs, hx, h => by simpa only [CV.ren, RepCV] using h
  | .gone n, cs, hx, h => by simpa only [CV.ren, RepCV] using h
theorem CV.rens_rep (h1 : hd' c' = hd c) (h2 : ∀ n, n ≠ c' → hd' n = hd n) : ∀ (xs : List CV) (cs : List Value), CV.noCs c' xs = true → RepCVs N w hd xs cs → RepCVs N w hd' (CV.rens c c' xs) cs
  | [], cs, _, h => by simpa only [CV.rens, RepCVs] using h
  | x :: xs, cs, hx, h => by
    simp only [CV.noCs, Bool.and_eq_true] at hx
    simp only [RepCVs] at h
    simp only [CV.rens, RepCVs]
    obtain ⟨c1, c2, e, g1, g2⟩ := h
    exact ⟨c1, c2, e, CV.ren_rep h1 h2 x c1 hx.1 g1, CV.rens_rep h1 h2 xs c2 hx.2 g2⟩
end
theorem CV.ren_val (h1 : hd' c' = hd c) (h2 : ∀ n, n ≠ c' → hd' n = hd n) {x : CV} {v : Value} (hx : x.noC c' = true) (h : CVal N w hd x v) : CVal N w hd' (x.ren c c') v := by
  rcases h with ⟨g1, cs, g2, g3⟩ | ⟨g1, g2, g3⟩
  · exact .inl ⟨by rw [CV.ren_isAgg]; exact g1, cs, g2, CV.ren_rep h1 h2 x cs hx g3⟩
  · exact .inr ⟨by rw [CV.ren_isAgg]; exact g1, CV.ren_rep h1 h2 x _ hx g2, g3⟩
theorem CV.rens_val (h1 : hd' c' = hd c) (h2 : ∀ n, n ≠ c' → hd' n = hd n) : ∀ {xs : List CV} {vs : List Value}, CV.noCs c' xs = true → CVals N w hd xs vs → CVals N w hd' (CV.rens c c' xs) vs
  | [], vs, _, h => by simpa only [CV.rens, CVals] using h
  | x :: xs, vs, hx, h => by
    simp only [CV.noCs, Bool.and_eq_true] at hx
    simp only [CVals] at h
    simp only [CV.rens, CVals]
    obtain ⟨v, vs', e, g1, g2⟩ := h
    exact ⟨v, vs', e, CV.ren_val h1 h2 hx.1 g1, CV.rens_val h1 h2 hx.2 g2⟩
end

theorem isBox_ren (c c' : Nat) (v : SlotV) : isBox (v.ren c c') = isBox v := by cases v <;> rfl

theorem St.le_ren {st : St} {c c' : Nat} (hne : c ≠ c') (hn : st.noC c') : st.le (st.ren c c') := by
  rintro κ a w ⟨G, hG⟩
  let G' : Gh := { hd := upd G.hd c' (G.hd c), fp := upd G.fp c' (G.fp c), ad := G.ad }
  have h1 : G'.hd c' = G.hd c := by simp [G', upd]
  have h2 : ∀ n, n ≠ c' → G'.hd n = G.hd n := by intro n h; simp [G', upd, h]
  have f1 : G'.fp c' = G.fp c := by simp [G', upd]
  have f2 : ∀ n, n ≠ c' → G'.fp n = G.fp n := by intro n h; simp [G', upd, h]
  have ho : ∀ n p, (st.ren c c').o n = some p → (n = c' ∧ st.o c = some p) ∨ (n ≠ c' ∧ n ≠ c ∧ st.o n = some p) := by
    intro n p hp
    simp only [St.ren, upd] at hp
    split at hp
    · rename_i e; exact .inl ⟨e, hp⟩
    · rename_i e
      split at hp
      · cases hp
      · rename_i e'; exact .inr ⟨e, e', hp⟩
  have hpriv : ∀ b, Priv (st.ren c c') G' b → Priv st G b := by
    rintro b (⟨r, g1, g2⟩ | ⟨n, p, g1, g2⟩)
    · exact .inl ⟨r, by simpa [St.ren, isBox_ren] using g1, g2⟩
    · rcases ho n p g1 with ⟨rfl, g⟩ | ⟨e1, e2, g⟩
      · exact .inr ⟨c, p, g, by rw [f1] at g2; exact g2⟩
      · exact .inr ⟨n, p, g, by rw [f2 n e1] at g2; exact g2⟩
  have hN : ∀ b, Nof κ st G w b → Nof κ (st.ren c c') G' w b := fun b hb => ⟨hb.1, fun h => hb.2 (hpriv b h)⟩
  refine ⟨G', hG.keep, hG.defers, hG.nt, ?_, ?_, ?_, ?_, ?_, ?_, fun m v hm => (h2 m (by have := κ.hH m v hm; have := hn.1.1; omega)).trans (hG.held m v hm)⟩
  · intro k
    have hk := (hG.slots k).frame hN (fun _ _ => rfl) (G' := G) (fun _ _ => rfl) (fun _ _ => rfl) (fun _ => ⟨rfl, rfl⟩)
    have hc := hn.2 k
    simp only [St.ren]
    cases hs : st.s k with
    | dead => trivial
    | val x => rw [hs] at hk hc; exact CV.ren_val h1 h2 (by simpa [SlotV.noC] using hc) hk
    | tup xs => rw [hs] at hk hc; obtain ⟨vs, e, g⟩ := hk; exact ⟨vs, e, CV.rens_val h1 h2 (by simpa [SlotV.noC] using hc) g⟩
    | box x => rw [hs] at hk hc; obtain ⟨e, cs, e', g1, g2⟩ := hk; exact ⟨e, cs, e', g1, CV.ren_rep h1 h2 x cs (by simpa [SlotV.noC] using hc) g2⟩
    | bptr r p o => rw [hs] at hk; exact hk
    | ex Q => rw [hs] at hk; exact hk
    | hptr r sh ps => rw [hs] at hk; exact hk
    | hold sh ps x =>
      rw [hs] at hk hc
      obtain ⟨vals, g1, g2, g3⟩ := hk
      refine ⟨vals, g1, g2, ?_⟩
      cases x with
      | cv x => obtain ⟨cs, e', g4, g5⟩ := g3; exact ⟨cs, e', g4, CV.ren_rep h1 h2 x cs (by simpa [SlotV.noC, HC.noC] using hc) g5⟩
      | mp a b => obtain ⟨es, g4, g5⟩ := g3; exact ⟨es, g4, g5⟩
      | it r a b d => exact g3
    | fn cs rs ps f =>
      rw [hs] at hk hc
      obtain ⟨vals, g1, g2⟩ := hk
      refine ⟨vals, g1, ?_⟩
      have e : (cs.map fun n => if n = c then c' else n).map G'.hd = cs.map G.hd := by
        rw [List.map_map]
        refine List.map_congr_left fun n hm => ?_
        by_cases e : n = c
        · subst e; simp [h1]
        · have : n ≠ c' := by
            rintro rfl
            simp [SlotV.noC, hm] at hc
          simp [e, h2 n this]
      rw [e]; exact g2
    | eptr n sz i p o =>
      rw [hs] at hk hc
      obtain ⟨b, m, cap, g1, g2⟩ := hk
      refine ⟨b, m, cap, ?_, g2⟩
      by_cases e : n = c
      · subst e; simp only [if_true]; rw [h1]; exact g1
      · have : n ≠ c' := by simpa [SlotV.noC] using hc
        simp only [e, if_false]; rw [h2 n this]; exact g1
  · intro n sz es hp
    rcases ho n _ hp with ⟨rfl, g⟩ | ⟨e1, e2, g⟩
    · obtain ⟨g1, g2, g3⟩ := hG.objs c sz es g
      rw [h1, f1]
      exact ⟨g1.frame hN (fun _ _ => rfl) _ _ _ (fun _ _ => rfl), g2, g3⟩
    · obtain ⟨g1, g2, g3⟩ := hG.objs n sz es g
      rw [h2 n e1, f2 n e1]
      exact ⟨g1.frame hN (fun _ _ => rfl) _ _ _ (fun _ _ => rfl), g2, g3⟩
  · intro r hr; exact hG.boxes r (by simpa [St.ren, isBox_ren] using hr)
  · intro r r' hr hr'; exact hG.bb r r' (by simpa [St.ren, isBox_ren] using hr) (by simpa [St.ren, isBox_ren] using hr')
  · intro r n p hr hp
    have hr' : isBox (st.s r) = true := by simpa [St.ren, isBox_ren] using hr
    rcases ho n p hp with ⟨rfl, g⟩ | ⟨e1, e2, g⟩
    · rw [f1]; exact hG.bo r c p hr' g
    · rw [f2 n e1]; exact hG.bo r n p hr' g
  · intro n n' p p' hp hp' hnn
    rcases ho n p hp with ⟨rfl, g⟩ | ⟨e1, e2, g⟩ <;> rcases ho n' p' hp' with ⟨rfl, g'⟩ | ⟨e1', e2', g'⟩
    · exact absurd rfl hnn
    · rw [f1, f2 n' e1']; exact hG.oo c n' p p' g g' (Ne.symm e2')
    · rw [f1, f2 n e1]; exact hG.oo n c p p' g g' e2
    · rw [f2 n e1, f2 n' e1']; exact hG.oo n n' p p' g g' hnn

theorem St.le_trans {a b c : St} (h : a.le b) (h' : b.le c) : a.le c := fun κ x w hR => h' κ x w (h κ x w hR)

end Go.Av
