/- A part of the proof: lemmas only; nothing is claimed here beyond what each lemma says. -/
/- Arguments that were written into, taken apart by name. -/
import Derived.Test.YtheihimhijkekaaAvT
set_option linter.unusedSimpArgs false
set_option linter.unusedVariables false
set_option linter.defProp false
namespace Go.Av
mutual
def CV.clean : CV → Bool
  | .pv v => v.noOwn
  | .own _ => true
  | .node fs => CV.cleans fs
  | .gone _ => false
def CV.cleans : List CV → Bool
  | [] => true
  | x :: xs => x.clean && CV.cleans xs
end
theorem fps_congr {f g : Nat → List Nat} : ∀ l : List Nat, (∀ c ∈ l, f c = g c) → fps f l = fps g l
  | [], _ => rfl
  | c :: l, h => by simp only [fps]; rw [h c (by simp), fps_congr l (fun c hc => h c (by simp [hc]))]
section
variable {N N' : Nat → Prop} {w w' : World} {hd : Nat → Value} {ob : Nat → Option (Nat × List PV)}
/-- By name: where each one's blocks are. -/
def Parts (N' : Nat → Prop) (w' : World) (hd : Nat → Value) (ob : Nat → Option (Nat × List PV)) (ns : List Nat) (F : List Nat) : Prop :=
  ∃ fp : Nat → List Nat, (∀ c sz es, c ∈ ns → ob c = some (sz, es) → RepC N' w' (.sl true sz es) [hd c] (fp c)) ∧ F = fps fp ns
theorem Parts.join {n1 n2 F1 F2 : List Nat} (h1 : Parts N' w' hd ob n1 F1) (h2 : Parts N' w' hd ob n2 F2) (hn : (n1 ++ n2).Nodup) : Parts N' w' hd ob (n1 ++ n2) (F1 ++ F2) := by
  obtain ⟨f1, a1, rfl⟩ := h1
  obtain ⟨f2, a2, rfl⟩ := h2
  have hd' : ∀ c ∈ n2, c ∉ n1 := fun c hc hc' => (List.nodup_append.1 hn).2.2 c hc' c hc rfl
  refine ⟨fun c => if c ∈ n1 then f1 c else f2 c, fun c sz es hc ho => ?_, ?_⟩
  · by_cases h : c ∈ n1
    · simp only [h, if_true]; exact a1 c sz es h ho
    · simp only [h, if_false]
      rcases List.mem_append.1 hc with h' | h'
      · exact absurd h' h
      · exact a2 c sz es h' ho
  · rw [fps_append]
    congr 1
    · exact fps_congr n1 (fun c hc => by simp [hc])
    · exact fps_congr n2 (fun c hc => by simp [hd' c hc])
mutual
theorem RepCV.inv : ∀ (x : CV) (cs : List Value) (F : List Nat), x.clean = true → x.whole ob = true → RepCV N w hd x cs → RepC N' w' (x.pvo ob) cs F → x.names.Nodup → Parts N' w' hd ob x.names F
  | .pv v, cs, F, hc, _, _, h, _ => by
    simp only [CV.pvo] at h
    have := RepC.noOwn v cs F (by simpa [CV.clean] using hc) h
    subst this
    exact ⟨fun _ => [], by simp [CV.names], by simp [CV.names, fps]⟩
  | .own c, cs, F, _, hw, h0, h, _ => by
    simp only [CV.whole] at hw
    obtain ⟨⟨sz, es⟩, he⟩ := Option.isSome_iff_exists.1 hw
    simp only [RepCV] at h0
    simp only [CV.pvo, he] at h
    rw [h0.1] at h
    refine ⟨fun _ => F, fun c' sz' es' hc' ho => ?_, by simp [CV.names, fps]⟩
    simp only [CV.names, List.mem_singleton] at hc'
    subst hc'
    rw [he] at ho; cases ho
    exact h
  | .node fs, cs, F, hc, hw, h0, h, hn => by
    simp only [RepCV] at h0
    simp only [CV.pvo, RepC] at h
    simpa only [CV.names] using RepCVs.inv fs cs F (by simpa [CV.clean] using hc) (by simpa [CV.whole] using hw) h0 h (by simpa [CV.names] using hn)
  | .gone n, cs, F, hc, _, _, _, _ => by simp [CV.clean] at hc
theorem RepCVs.inv : ∀ (xs : List CV) (cs : List Value) (F : List Nat), CV.cleans xs = true → CV.wholes ob xs = true → RepCVs N w hd xs cs → RepCs N' w' (CV.pvos ob xs) cs F → (CV.namess xs).Nodup → Parts N' w' hd ob (CV.namess xs) F
  | [], cs, F, _, _, _, h, _ => by
    simp only [CV.pvos, RepCs] at h
    exact ⟨fun _ => [], by simp [CV.namess], by simp [CV.namess, fps, h.2]⟩
  | x :: xs, cs, F, hc, hw, h0, h, hn => by
    simp only [CV.cleans, CV.wholes, Bool.and_eq_true] at hc hw
    simp only [RepCVs] at h0
    simp only [CV.pvos, RepCs] at h
    obtain ⟨c1, c2, e1, a1, a2⟩ := h0
    obtain ⟨d1, d2, F1, F2, e2, e3, b1, b2⟩ := h
    have hl : c1.length = d1.length := by
      rw [RepCV.length x c1 a1, RepC.length _ _ _ b1, CV.size_pvo x hw.1]
    have e4 := e1.symm.trans e2
    obtain ⟨rfl, rfl⟩ := List.append_inj e4 hl
    subst e3
    simp only [CV.namess] at hn ⊢
    exact (RepCV.inv x c1 F1 hc.1 hw.1 a1 b1 (List.nodup_append.1 hn).1).join (RepCVs.inv xs c2 F2 hc.2 hw.2 a2 b2 (List.nodup_append.1 hn).2.1) hn
end
theorem CVals.inv : ∀ (xs : List CV) (vs : List Value) (F : List Nat), CV.cleans xs = true → CV.wholes ob xs = true → CVals N w hd xs vs → RepVs N' w' (CV.pvos ob xs) vs F → (CV.namess xs).Nodup → Parts N' w' hd ob (CV.namess xs) F
  | [], vs, F, _, _, _, h, _ => by
    simp only [CV.pvos, RepVs] at h
    exact ⟨fun _ => [], by simp [CV.namess], by simp [CV.namess, fps, h.2]⟩
  | x :: xs, vs, F, hc, hw, h0, h, hn => by
    simp only [CV.cleans, CV.wholes, Bool.and_eq_true] at hc hw
    simp only [CVals] at h0
    simp only [CV.pvos, RepVs] at h
    obtain ⟨v, vs', e1, a1, a2⟩ := h0
    obtain ⟨u, us, F1, F2, e2, e3, b1, b2⟩ := h
    rw [e1] at e2
    obtain ⟨rfl, rfl⟩ := List.cons.inj e2
    subst e3
    simp only [CV.namess] at hn ⊢
    have b1' := b1.cells
    have a1' : RepCV N w hd x v.cells.toList := by
      rcases a1 with ⟨_, cs, rfl, h3⟩ | ⟨h1, h2, h3⟩
      · simpa [Value.cells] using h3
      · have := cval_cells (x := x) (v := v) (.inr ⟨h1, h2, h3⟩); exact this
    exact (RepCV.inv x _ F1 hc.1 hw.1 a1' b1' (List.nodup_append.1 hn).1).join (CVals.inv xs vs' F2 hc.2 hw.2 a2 b2 (List.nodup_append.1 hn).2.1) hn
end
end Go.Av
