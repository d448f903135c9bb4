/- A part of the proof: lemmas only; nothing is claimed here beyond what each lemma says. -/
/- Loop heads: only what is live is said. What every state knows. -/
import Derived.Test.YtheihimhijkekaaAvC
set_option linter.unusedSimpArgs false
set_option linter.unusedVariables false
set_option linter.defProp false
namespace Go.Av
variable {P : Program} {nt : Nat}

def LeS (f g : Nat → SlotV) : Prop := ∀ k, g k = f k ∨ g k = .dead
theorem LeS.nil (f : Nat → SlotV) : LeS f (fun _ => .dead) := fun _ => .inr rfl
theorem LeS.cons {f g : Nat → SlotV} {k : Nat} {v : SlotV} (h : f k = v) (hg : LeS f g) : LeS f (upd g k v) := by
  intro j
  simp only [upd]
  split
  · rename_i e; subst e; exact .inl h.symm
  · exact hg j
def LeO (f g : Nat → Option (Nat × List PV)) : Prop := ∀ k, g k = f k ∨ g k = none
theorem LeO.nil (f : Nat → Option (Nat × List PV)) : LeO f (fun _ => none) := fun _ => .inr rfl
theorem LeO.cons {f g : Nat → Option (Nat × List PV)} {k : Nat} {v : Option (Nat × List PV)} (h : f k = v) (hg : LeO f g) : LeO f (upd g k v) := by
  intro j
  simp only [upd]
  split
  · rename_i e; subst e; exact .inl h.symm
  · exact hg j
theorem St.le_live {st : St} {s : Nat → SlotV} {o : Nat → Option (Nat × List PV)} (hs : LeS st.s s) (ho : LeO st.o o) : st.le ⟨s, o⟩ := St.le_forget hs ho

/-- As conjunctions, for the reckoning. -/
theorem LeS_nil (f : Nat → SlotV) : LeS f (fun _ => .dead) = True := eq_true (LeS.nil f)
theorem LeO_nil (f : Nat → Option (Nat × List PV)) : LeO f (fun _ => none) = True := eq_true (LeO.nil f)

theorem VC.know_sl {c : Code} {st : St} {Q : Exit → St → Prop} {b : Bool} {sz : Nat} {es : List PV} (k : Nat) (hk : st.s k = .val (.pv (.sl b sz es))) (h : es.length ≤ maxLen → VC P nt c st Q) : VC P nt c st Q := by
  intro κ a w hnt hR
  refine h ?_ κ a w hnt hR
  obtain ⟨G, hG⟩ := hR
  have h1 := hG.slots k
  rw [hk] at h1
  rcases h1 with ⟨h1, _⟩ | ⟨_, h2, _⟩
  · cases h1
  · simp only [RepCV] at h2
    cases b with
    | false => simp only [RepC] at h2; obtain ⟨a, cap, h1, h2, h3, h4, h5⟩ := h2; omega
    | true =>
      simp only [RepC] at h2
      rcases h2 with ⟨_, rfl, _⟩ | ⟨b, cap, c, e, F', ccs, h1, h2, h3, _⟩
      · simp
      · omega
theorem VC.know_own {c : Code} {st : St} {Q : Exit → St → Prop} {sz : Nat} {es : List PV} (k : Nat) (hk : st.o k = some (sz, es)) (h : es.length ≤ maxLen → VC P nt c st Q) : VC P nt c st Q := by
  intro κ a w hnt hR
  refine h ?_ κ a w hnt hR
  obtain ⟨G, hG⟩ := hR
  have h2 := (hG.objs k sz es hk).1
  simp only [RepC] at h2
  rcases h2 with ⟨_, rfl, _⟩ | ⟨b, cap, c, e, F', ccs, h1, h2, h3, _⟩
  · simp
  · omega
theorem wrap64 {n : Int} (h1 : -9223372036854775808 ≤ n) (h2 : n < 9223372036854775808) : IntKind.i64.wrap n = n := by
  simp [IntKind.wrap, IntKind.bits, IntKind.signed]
  omega
end Go.Av
