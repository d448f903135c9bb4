/- A part of the proof: lemmas only; nothing is claimed here beyond what each lemma says. -/
import Derived.Test.YtgkgihdafalimaaGreatGsrt
import Derived.Test.YtgkgihdafalimaaGreatAvS
import Derived.Test.YtgkgihdafalimaaGreatAvY
set_option linter.unusedSimpArgs false
set_option linter.unusedVariables false
set_option linter.defProp false
set_option maxRecDepth 4000
namespace Go.Proofs.YtgkgihdafalimaaGreat
open Go.Av
/-! Strings in order. -/
def Srt (l : List ByteArray) : Prop := l.Pairwise fun a b => slt a b = true
theorem slt_irrefl (a : ByteArray) : slt a a = false := bytesLess_irrefl _
theorem Srt.nodup {l : List ByteArray} (hl : Srt l) : l.Nodup := hl.imp (fun {x y} h e => by subst e; rw [slt_irrefl] at h; cases h)
def leB (x y : List UInt8) : Bool := decide (x ≤ y)
theorem sortB_perm (a : List ByteArray) : (sortB a).Perm a := by
  have h1 : ((a.map fun x => x.data.toList).mergeSort leB).Perm (a.map fun x => x.data.toList) := List.mergeSort_perm _ _
  have h2 := h1.map (fun l : List UInt8 => (⟨l.toArray⟩ : ByteArray))
  rw [List.map_map] at h2
  have e : ((fun l : List UInt8 => (⟨l.toArray⟩ : ByteArray)) ∘ fun x : ByteArray => x.data.toList) = id := by funext x; cases x; rfl
  rw [e, List.map_id] at h2
  exact h2
/-! Inserting one. -/
def putS (x : ByteArray) : List ByteArray → List ByteArray
  | [] => [x]
  | y :: l => if slt y x = true then y :: putS x l else if y = x then y :: l else x :: y :: l
theorem putS_mem (x z : ByteArray) : ∀ l, z ∈ putS x l ↔ z = x ∨ z ∈ l
  | [] => by simp [putS]
  | y :: l => by
    simp only [putS]
    split
    · simp only [List.mem_cons, putS_mem x z l]
      constructor
      · rintro (h | h | h) <;> simp [h]
      · rintro (h | h | h) <;> simp [h]
    · split
      · rename_i h; subst h; simp
      · simp
theorem putS_len (x : ByteArray) : ∀ l, (putS x l).length ≤ l.length + 1
  | [] => by simp [putS]
  | y :: l => by
    have := putS_len x l
    simp only [putS]
    split
    · simp only [List.length_cons]; omega
    · split <;> simp
/-! Entries. -/
end Go.Proofs.YtgkgihdafalimaaGreat
