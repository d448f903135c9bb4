/- A part of the proof: lemmas only; nothing is claimed here beyond what each lemma says. -/
/- Own objects that a call has written into: their names stay. -/
import Derived.Test.YtheihimhijkekaaAvU
set_option linter.unusedSimpArgs false
set_option linter.unusedVariables false
set_option linter.defProp false
namespace Go.Av
theorem fps_nd {fp : Nat → List Nat} : ∀ ns : List Nat, (fps fp ns).Nodup → (∀ c ∈ ns, (fp c).Nodup)
  | [], _, c, hc => by simp at hc
  | n :: ns, h, c, hc => by
    simp only [fps, List.nodup_append] at h
    rcases List.mem_cons.1 hc with rfl | hc
    · exact h.1
    · exact fps_nd ns h.2.1 c hc
theorem fps_dj {fp : Nat → List Nat} : ∀ ns : List Nat, (fps fp ns).Nodup → ∀ c ∈ ns, ∀ c' ∈ ns, c ≠ c' → ∀ b ∈ fp c, b ∉ fp c'
  | [], _, c, hc, _, _, _, _, _ => by simp at hc
  | n :: ns, h, c, hc, c', hc', hne, b, hb => by
    simp only [fps, List.nodup_append] at h
    intro hb'
    rcases List.mem_cons.1 hc with e | k1 <;> rcases List.mem_cons.1 hc' with e' | k2
    · exact hne (e.trans e'.symm)
    · subst e; exact h.2.2 b hb b (mem_fps.2 ⟨c', k2, hb'⟩) rfl
    · subst e'; exact h.2.2 b hb' b (mem_fps.2 ⟨c, k1, hb⟩) rfl
    · exact fps_dj ns h.2.1 c k1 c' k2 hne b hb hb'
def setO (ns : List Nat) (ob' : Nat → Option (Nat × List PV)) (o : Nat → Option (Nat × List PV)) : Nat → Option (Nat × List PV) := fun c => if c ∈ ns then ob' c else o c
theorem RG.setObjs {κ : Ctx} {G : Gh} {st : St} {a : Act} {w w' : World} {ns F : List Nat} {ob' : Nat → Option (Nat × List PV)} (h : RG κ G st a w) (hlive : ∀ c ∈ ns, (st.o c).isSome = true)
    (hk : KeepX (fps G.fp ns) w.heap.size w w') (hF : ∀ b ∈ F, (w.heap.size ≤ b ∨ b ∈ fps G.fp ns) ∧ b < w'.heap.size) (hFn : F.Nodup)
    (hp : Parts (fun b => Nof κ st G w b ∨ ((w.heap.size ≤ b ∨ b ∈ fps G.fp ns) ∧ b < w'.heap.size ∧ b ∉ F)) w' G.hd ob' ns F) :
    ∃ G', G'.hd = G.hd ∧ RG κ G' { s := st.s, o := setO ns ob' st.o } a w' ∧ ∀ b, (Nof κ st G w b ∨ ((w.heap.size ≤ b ∨ b ∈ fps G.fp ns) ∧ b < w'.heap.size ∧ b ∉ F)) → Nof κ { s := st.s, o := setO ns ob' st.o } G' w' b := by
  obtain ⟨fp', hrep, rfl⟩ := hp
  have hbs := h.keep.size
  let G' : Gh := { hd := G.hd, fp := fun c => if c ∈ ns then fp' c else G.fp c, ad := G.ad }
  have hin : ∀ b, b ∈ fps G.fp ns → ∃ c p, c ∈ ns ∧ st.o c = some p ∧ b ∈ G.fp c := by
    intro b hb
    obtain ⟨c, hc, hm⟩ := mem_fps.1 hb
    obtain ⟨p, hp⟩ := Option.isSome_iff_exists.1 (hlive c hc)
    exact ⟨c, p, hc, hp, hm⟩
  have hXlt : ∀ b, b ∈ fps G.fp ns → (κ.w0.heap.size ≤ b ∨ b ∈ κ.L) ∧ b < w.heap.size := by
    intro b hb
    obtain ⟨c, p, _, hp, hm⟩ := hin b hb
    exact (h.objs c p.1 p.2 hp).2.2 b hm
  have hlt : ∀ b, Nof κ st G w b → b < w.heap.size := fun b hb => hb.lt h
  have hNX : ∀ b, Nof κ st G w b → b ∉ fps G.fp ns := by
    intro b hb hm
    obtain ⟨c, p, _, hp, hm⟩ := hin b hm
    exact hb.2 (.inr ⟨c, p, hp, hm⟩)
  have hbX : ∀ r, isBox (st.s r) = true → G.ad r ∉ fps G.fp ns := by
    intro r hr hm
    obtain ⟨c, p, _, hp, hm⟩ := hin _ hm
    exact h.bo r c p hr hp hm
  have hoX : ∀ c p, c ∉ ns → st.o c = some p → ∀ b ∈ G.fp c, b ∉ fps G.fp ns := by
    intro c p hc ho b hb hm
    obtain ⟨c', p', hc', hp', hm'⟩ := hin b hm
    exact h.oo c c' p p' ho hp' (fun e => hc (e ▸ hc')) b hb hm'
  have hob : ∀ c p, setO ns ob' st.o c = some p → (c ∈ ns ∧ ob' c = some p) ∨ (c ∉ ns ∧ st.o c = some p) := by
    intro c p hc
    simp only [setO] at hc
    by_cases hm : c ∈ ns
    · simp only [hm, if_true] at hc; exact .inl ⟨hm, hc⟩
    · simp only [hm, if_false] at hc; exact .inr ⟨hm, hc⟩
  have fin : ∀ c, c ∈ ns → G'.fp c = fp' c := fun c hc => by simp [G', hc]
  have fout : ∀ c, c ∉ ns → G'.fp c = G.fp c := fun c hc => by simp [G', hc]
  have hsubF : ∀ c ∈ ns, ∀ b ∈ fp' c, b ∈ fps fp' ns := fun c hc b hb => mem_fps.2 ⟨c, hc, hb⟩
  have hNw : ∀ b, Nof κ st G w b → Nof κ { s := st.s, o := setO ns ob' st.o } G' w' b := by
    intro b hb
    refine ⟨?_, fun hp => ?_⟩
    · rcases hb.1 with h1 | h1
      · exact .inl h1
      · exact .inr ⟨h1.1, Nat.lt_of_lt_of_le h1.2 hk.size⟩
    · rcases hp with ⟨r, h1, h2⟩ | ⟨c, p, h1, h2⟩
      · exact hb.2 (.inl ⟨r, h1, h2⟩)
      · rcases hob c p h1 with ⟨hm, ho⟩ | ⟨hm, ho⟩
        · rw [fin c hm] at h2
          rcases (hF b (hsubF c hm b h2)).1 with h3 | h3
          · have := hlt b hb; omega
          · exact hNX b hb h3
        · rw [fout c hm] at h2; exact hb.2 (.inr ⟨c, p, ho, h2⟩)
  have hNn : ∀ b, (Nof κ st G w b ∨ ((w.heap.size ≤ b ∨ b ∈ fps G.fp ns) ∧ b < w'.heap.size ∧ b ∉ fps fp' ns)) → Nof κ { s := st.s, o := setO ns ob' st.o } G' w' b := by
    rintro b (hb | ⟨h1, h2, h3⟩)
    · exact hNw b hb
    · refine ⟨.inr ⟨?_, h2⟩, fun hp => ?_⟩
      · rcases h1 with h1 | h1
        · exact .inl (by omega)
        · exact (hXlt b h1).1
      · rcases hp with ⟨r, g1, g2⟩ | ⟨c, p, g1, g2⟩
        · rcases h1 with h1 | h1
          · have := (h.boxes r g1).2; simp only [G'] at g2; omega
          · exact hbX r g1 (g2 ▸ h1)
        · rcases hob c p g1 with ⟨hm, ho⟩ | ⟨hm, ho⟩
          · rw [fin c hm] at g2; exact h3 (hsubF c hm b g2)
          · rw [fout c hm] at g2
            rcases h1 with h1 | h1
            · have := ((h.objs c p.1 p.2 ho).2.2 b g2).2; omega
            · exact hoX c p hm ho b g2 h1
  have hw : ∀ b, b < w.heap.size → b ∉ fps G.fp ns → w'.heap[b]? = w.heap[b]? := hk.block
  have hFold : ∀ b ∈ fps fp' ns, b < w.heap.size → b ∈ fps G.fp ns := fun b hb hl => by
    rcases (hF b hb).1 with h1 | h1
    · omega
    · exact h1
  refine ⟨G', rfl, ⟨h.keep.trans ⟨hk.os, hk.tape, hk.output, hk.size, fun k hk1 hkL => hw k (by omega) (fun hm => ?_)⟩, h.defers, h.nt,
    fun k => (h.slots k).frame hNw (fun b hb => hw b (hlt b hb) (hNX b hb)) (fun _ _ => rfl) (fun _ _ => rfl) (fun hb => ⟨rfl, hw _ (h.boxes k hb).2 (hbX k hb)⟩), ?_, fun r hr => ⟨(h.boxes r hr).1, Nat.lt_of_lt_of_le (h.boxes r hr).2 hk.size⟩, h.bb, ?_, ?_, h.held⟩, hNn⟩
  · rcases (hXlt k hm).1 with h1 | h1
    · omega
    · exact hkL h1
  · intro c sz es hc
    rcases hob c _ hc with ⟨hm, ho⟩ | ⟨hm, ho⟩
    · rw [fin c hm]
      refine ⟨RepC.frame hNn (fun _ _ => rfl) _ _ _ (fun _ _ => rfl) (hrep c sz es hm ho), fps_nd ns hFn c hm, fun b hb => ⟨?_, (hF b (hsubF c hm b hb)).2⟩⟩
      rcases (hF b (hsubF c hm b hb)).1 with h1 | h1
      · exact .inl (by omega)
      · exact (hXlt b h1).1
    · rw [fout c hm]
      obtain ⟨g1, g2, g3⟩ := h.objs c sz es ho
      exact ⟨RepC.frame hNw (fun b hb => hw b (hlt b hb) (hNX b hb)) _ _ _ (fun b hb => hw b (g3 b hb).2 (hoX c _ hm ho b hb)) g1, g2, fun b hb => ⟨(g3 b hb).1, Nat.lt_of_lt_of_le (g3 b hb).2 hk.size⟩⟩
  · intro r c p hr hc hm
    rcases hob c p hc with ⟨hcm, ho⟩ | ⟨hcm, ho⟩
    · rw [fin c hcm] at hm
      exact hbX r hr (hFold _ (hsubF c hcm _ hm) (h.boxes r hr).2)
    · rw [fout c hcm] at hm; exact h.bo r c p hr ho hm
  · intro c c' p p' hc hc' hne b hb hb'
    rcases hob c p hc with ⟨hm, ho⟩ | ⟨hm, ho⟩ <;> rcases hob c' p' hc' with ⟨hm', ho'⟩ | ⟨hm', ho'⟩
    · rw [fin c hm] at hb; rw [fin c' hm'] at hb'; exact fps_dj ns hFn c hm c' hm' hne b hb hb'
    · rw [fin c hm] at hb; rw [fout c' hm'] at hb'
      exact hoX c' p' hm' ho' b hb' (hFold b (hsubF c hm b hb) ((h.objs c' p'.1 p'.2 ho').2.2 b hb').2)
    · rw [fout c hm] at hb; rw [fin c' hm'] at hb'
      exact hoX c p hm ho b hb (hFold b (hsubF c' hm' b hb') ((h.objs c p.1 p.2 ho).2.2 b hb).2)
    · rw [fout c hm] at hb; rw [fout c' hm'] at hb'; exact h.oo c c' p p' ho ho' hne b hb hb'
end Go.Av
