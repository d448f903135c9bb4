/- A part of the proof: lemmas only; nothing is claimed here beyond what each lemma says. -/
import Derived.Test.YtfggcaohidajkaaTB
import Derived.Test.YtfggcaohidajkaaAvH
set_option maxRecDepth 4000
set_option linter.unusedSimpArgs false
set_option linter.unusedVariables false
namespace Go.Proofs.Ytfggcaohidajkaa
open Go.Av
theorem c_9 : Try.prog.cellsOf 9 = 1 := by kernel_rfl
theorem c_30 : Try.prog.cellsOf 30 = 1 := by kernel_rfl
theorem c_32 : Try.prog.cellsOf 32 = 2 := by kernel_rfl
theorem kinds32 : Kinds Try.prog (fun t => t = 9 ∨ t = 30 ∨ t = 32) := by
  rintro t (rfl | rfl | rfl)
  · exact .inr (.inr (.inl Try.underlying9))
  · exact .inr (.inr (.inr (.inl ⟨32, Try.underlying30, by simp, by rw [c_32]; decide⟩)))
  · refine .inr (.inr (.inr (.inr ⟨_, Try.underlying32, ?_, ?_⟩)))
    · simp [LaidF, c_9, c_30, c_32]
    · simp
theorem HasTy.tm : ∀ {p : PV}, HasTy Try.prog 32 p → ∃ t : Tm, t.Ok ∧ p = t.pv false := by
  intro p
  induction hn : SizeOf.sizeOf p using Nat.strongRecOn generalizing p with
  | _ n ih =>
    intro h
    cases h with
    | bool h => rw [Try.underlying32] at h; cases h
    | int h _ => rw [Try.underlying32] at h; cases h
    | str h _ => rw [Try.underlying32] at h; cases h
    | sl h _ _ => rw [Try.underlying32] at h; cases h
    | struct h hps =>
      rw [Try.underlying32] at h
      cases h
      simp only [List.map_cons, List.map_nil] at hps
      cases hps with
      | cons h0 hps =>
        cases hps with
        | cons h1 hps =>
          cases hps with
          | nil =>
            cases h0 with
            | bool h => rw [Try.underlying9] at h; cases h
            | int h _ => rw [Try.underlying9] at h; cases h
            | sl h _ _ => rw [Try.underlying9] at h; cases h
            | struct h _ => rw [Try.underlying9] at h; cases h
            | str h hs =>
              rename_i s
              cases h1 with
              | bool h => rw [Try.underlying30] at h; cases h
              | int h _ => rw [Try.underlying30] at h; cases h
              | str h _ => rw [Try.underlying30] at h; cases h
              | struct h _ => rw [Try.underlying30] at h; cases h
              | sl h hl hes =>
                rename_i e es
                rw [Try.underlying30] at h
                cases h
                have key : ∀ l : List PV, (∀ x ∈ l, x ∈ es) → ∃ ts : List Tm, (∀ a ∈ ts, a.Ok) ∧ l = ts.map (Tm.pv false) := by
                  intro l
                  induction l with
                  | nil => intro _; exact ⟨[], by simp, rfl⟩
                  | cons x l ihl =>
                    intro hx
                    have hm : x ∈ es := hx x (by simp)
                    have hlt := List.sizeOf_lt_of_mem hm
                    obtain ⟨a, ha, rfl⟩ := ih (SizeOf.sizeOf x) (by rw [← hn]; simp; omega) rfl (hes x hm)
                    obtain ⟨ts, hts, rfl⟩ := ihl (fun y hy => hx y (by simp [hy]))
                    exact ⟨a :: ts, by simpa using ⟨ha, hts⟩, rfl⟩
                obtain ⟨ts, hts, rfl⟩ := key es (fun _ h => h)
                refine ⟨.mk s ts, .mk s ts hs (by simpa using hl) hts, ?_⟩
                rw [Tm.pv_mk, c_32]
end Go.Proofs.Ytfggcaohidajkaa
