/- A part of the proof: lemmas only; nothing is claimed here beyond what each lemma says. -/
import Derived.Test.YtgbddapcjhgllaaGm
import Derived.Test.YtgbddapcjhgllaaGf
import Derived.Test.YtgbddapcjhgllaaAvF3
import Derived.Shelf.Sort.Plain
import Derived.Shelf.Slices.In.SortNone
import Derived.Sort.OwnSorted
set_option linter.unusedSimpArgs false
set_option linter.unusedVariables false
set_option linter.defProp false
set_option maxRecDepth 4000
namespace Go.Proofs.Ytgbddapcjhgllaa
open Go.Shelf Go.Av
def srt_ren : Go.Shelf.Ren := ⟨fun | 125 => 50 | 128 => 60 | 129 => 61 | 190 => 45 | 258 => 49 | 302 => 52 | 303 => 53 | 304 => 54 | 305 => 55 | 306 => 56 | 307 => 57 | 308 => 47 | 309 => 58 | 310 => 59 | 329 => 63 | 330 => 64 | 333 => 62 | 334 => 65 | 335 => 66 | 336 => 51 | 344 => 67 | n => n, fun | 0 => 0 | 3 => 3 | 4 => 4 | 5 => 5 | 9 => 9 | 31 => 22 | 46 => 62 | 51 => 74 | 53 => 76 | 131 => 57 | 182 => 67 | 183 => 68 | 218 => 77 | 222 => 81 | 228 => 83 | 229 => 84 | n => n, fun n => n⟩
theorem srt_lays : Lays.n190 Try.prog srt_ren := {
  mixed := by kernel_rfl
  f125 := Try.func50.trans (congrArg some (by kernel_rfl))
  f128 := Try.func60.trans (congrArg some (by kernel_rfl))
  f129 := Try.func61.trans (congrArg some (by kernel_rfl))
  f190 := Try.func45.trans (congrArg some (by kernel_rfl))
  f258 := Try.func49.trans (congrArg some (by kernel_rfl))
  f302 := Try.func52.trans (congrArg some (by kernel_rfl))
  f303 := Try.func53.trans (congrArg some (by kernel_rfl))
  f304 := Try.func54.trans (congrArg some (by kernel_rfl))
  f305 := Try.func55.trans (congrArg some (by kernel_rfl))
  f306 := Try.func56.trans (congrArg some (by kernel_rfl))
  f307 := Try.func57.trans (congrArg some (by kernel_rfl))
  f308 := Try.func47.trans (congrArg some (by kernel_rfl))
  f309 := Try.func58.trans (congrArg some (by kernel_rfl))
  f310 := Try.func59.trans (congrArg some (by kernel_rfl))
  f329 := Try.func63.trans (congrArg some (by kernel_rfl))
  f330 := Try.func64.trans (congrArg some (by kernel_rfl))
  f333 := Try.func62.trans (congrArg some (by kernel_rfl))
  f334 := Try.func65.trans (congrArg some (by kernel_rfl))
  f335 := Try.func66.trans (congrArg some (by kernel_rfl))
  f336 := Try.func51.trans (congrArg some (by kernel_rfl))
  f344 := Try.func67.trans (congrArg some (by kernel_rfl))
  t0 := Try.underlying0
  a0 := Try.isAgg0
  z0 := Try.sizeOf0
  v0 := Try.zeroValue0
  t3 := Try.underlying3
  a3 := Try.isAgg3
  z3 := Try.sizeOf3
  v3 := Try.zeroValue3
  t4 := Try.underlying4
  a4 := Try.isAgg4
  z4 := Try.sizeOf4
  v4 := Try.zeroValue4
  t5 := Try.underlying5
  a5 := Try.isAgg5
  z5 := Try.sizeOf5
  v5 := Try.zeroValue5
  t9 := Try.underlying9
  a9 := Try.isAgg9
  z9 := Try.sizeOf9
  v9 := Try.zeroValue9
  t31 := Try.underlying22
  a31 := Try.isAgg22
  z31 := Try.sizeOf22
  v31 := Try.zeroValue22
  t46 := Try.underlying62
  a46 := Try.isAgg62
  z46 := Try.sizeOf62
  v46 := Try.zeroValue62
  t51 := Try.underlying74
  a51 := Try.isAgg74
  z51 := Try.sizeOf74
  v51 := Try.zeroValue74
  t53 := Try.underlying76
  a53 := Try.isAgg76
  z53 := Try.sizeOf76
  v53 := Try.zeroValue76
  t131 := Try.underlying57
  a131 := Try.isAgg57
  z131 := Try.sizeOf57
  v131 := Try.zeroValue57
  t182 := Try.underlying67
  a182 := Try.isAgg67
  z182 := Try.sizeOf67
  v182 := Try.zeroValue67
  t183 := Try.underlying68
  a183 := Try.isAgg68
  z183 := Try.sizeOf68
  v183 := Try.zeroValue68
  t218 := Try.underlying77
  a218 := Try.isAgg77
  z218 := Try.sizeOf77
  v218 := Try.zeroValue77
  t222 := Try.underlying81
  a222 := Try.isAgg81
  z222 := Try.sizeOf81
  v222 := Try.zeroValue81
  t228 := Try.underlying83
  a228 := Try.isAgg83
  z228 := Try.sizeOf83
  v228 := Try.zeroValue83
  t229 := Try.underlying84
  a229 := Try.isAgg84
  z229 := Try.sizeOf84
  v229 := Try.zeroValue84 }
theorem repS_inv {N : Nat → Prop} {w : World} : ∀ (xs : List ByteArray) (cs : List Value) (F : List Nat), RepCs N w (xs.map Sx) cs F → cs = xs.map Value.string ∧ F = []
  | [], cs, F, h => by simpa only [List.map_nil, RepCs] using h
  | x :: xs, cs, F, h => by
    simp only [List.map_cons, RepCs, Sx, RepC] at h
    obtain ⟨c1, c2, F1, F2, rfl, rfl, ⟨rfl, _, rfl⟩, h4⟩ := h
    obtain ⟨rfl, rfl⟩ := repS_inv xs _ _ h4
    exact ⟨rfl, rfl⟩
theorem repS_mk {N : Nat → Prop} {w : World} : ∀ (xs : List ByteArray), RepCs N w (xs.map Sx) (xs.map Value.string) []
  | [] => by simp [RepCs]
  | x :: xs => by
    simp only [List.map_cons, RepCs, Sx, RepC]
    exact ⟨[.string x], _, [], [], rfl, rfl, ⟨rfl, rfl, rfl⟩, repS_mk xs⟩
theorem encS (x : ByteArray) : encStr x.data.toList = .string x := by cases x; rfl
theorem sortB_length (a : List ByteArray) : (sortB a).length = a.length := by simp [sortB, List.length_mergeSort]
theorem sortB_enc (a : List ByteArray) : (((a.map fun x => x.data.toList).mergeSort fun x y => decide (x ≤ y)).map encStr) = (sortB a).map Value.string := by
  simp only [sortB, List.map_map]; rfl
theorem slices_SortS_sat {a0 : List ByteArray} {r : Unit × List ByteArray} (h : slices_SortS a0 = some r) : SatIO Try.prog 45 [.sl true 1 (a0.map Sx)] [.sl true 1 (r.2.map Sx)] (.tup []) := by
  unfold slices_SortS at h
  split at h
  case isFalse => cases h
  case isTrue hlen =>
  cases h
  refine ⟨⟨_, Try.func45, by kernel_rfl, by kernel_rfl⟩, fun w N vs Fs hN hFn hFl hvs => ?_⟩
  simp only [RepVs, RepV] at hvs
  obtain ⟨v0, _, F0, _, rfl, rfl, g0, rfl, rfl⟩ := hvs
  rw [List.append_nil] at *
  simp only [RepC] at g0
  rcases g0 with ⟨e1, e2, rfl⟩ | ⟨b, cap, c, e, F', ccs, e1, m1, m2, m3, m4, m5, m6, m7, rfl⟩
  · simp only [List.cons.injEq, and_true] at e1
    subst e1
    obtain rfl : a0 = [] := List.map_eq_nil_iff.1 e2
    refine (Any.slices_Sort_string_none srt_lays none 0 w).mono ?_
    rintro e w' ⟨rfl, rfl⟩
    refine ⟨.tuple #[], [], rfl, KeepX.refl _ _ _, ?_, List.nodup_nil, by simp, ⟨[], rfl, by simp [RepVs]⟩⟩
    simp only [RepVs, RepV, RepC]
    exact ⟨_, [], [], [], rfl, rfl, .inl ⟨rfl, by simp [sortB], rfl⟩, rfl, rfl⟩
  · simp only [List.cons.injEq, and_true] at e1
    subst e1
    obtain ⟨rfl, rfl⟩ := repS_inv a0 _ _ m7
    rw [List.length_map, Nat.mul_one] at m6
    rw [List.length_map] at m1 
    have hb : b < w.heap.size := hFl b (by simp)
    have hcs : a0.length ≤ c.size := by rw [m5]; omega
    have hH : Go.Sort.Holds encStr w b 0 (a0.map fun x => x.data.toList).toArray := holds_of_block m4 (by rw [List.length_map, m6, List.map_map]; exact List.map_congr_left fun x _ => (encS x).symm)
    have := Any.slices_Sort_string srt_lays b 0 cap (a0.map fun x => x.data.toList) w hH hb (by simpa using hlen)
    rw [List.length_map] at this
    rw [List.length_map]
    refine this.mono ?_
    rintro e' w' ⟨rfl, n, os, rfl⟩
    have hgb := grownBy_sorted (w := w) (g := b) (n := n) (os := os) ((a0.map fun x => x.data.toList).mergeSort fun x y => decide (x ≤ y)).toArray
    have hblk := heap_sorted (n := n) (os := os) ((a0.map fun x => x.data.toList).mergeSort fun x y => decide (x ≤ y)).toArray m4
    refine ⟨.tuple #[], [b], rfl, ⟨hgb.os, hgb.tape, hgb.output, hgb.size, fun k hk hkb => hgb.block k hk (fun e => hkb (by cases e; simp))⟩, ?_, by simp, fun x hx => ?_, ⟨[], rfl, by simp [RepVs]⟩⟩
    · simp only [RepVs, RepV]
      refine ⟨_, [], [b], [], rfl, rfl, ?_, rfl, rfl⟩
      simp only [RepC]
      refine .inr ⟨b, cap, _, e, [], (sortB a0).map Value.string, ?_, ?_, m2, ?_, hblk, ?_, ?_, repS_mk _, rfl⟩
      · rw [List.length_map, sortB_length]
      · rw [List.length_map, sortB_length]; exact m1
      · intro q hq; obtain ⟨y, _, rfl⟩ := List.mem_map.1 hq; rfl
      · simp only [Go.Sort.putCells, Array.size_mapIdx]; exact m5
      · have hl : ((a0.map fun x => x.data.toList).mergeSort fun x y => decide (x ≤ y)).length = a0.length := by simp [List.length_mergeSort]
        have := take_putCells c ((a0.map fun x => x.data.toList).mergeSort fun x y => decide (x ≤ y)) (by rw [hl]; exact hcs)
        rw [hl] at this
        rw [List.length_map, sortB_length, Nat.mul_one, this, sortB_enc]
    · simp only [List.mem_singleton] at hx; subst hx
      exact ⟨.inr (by simp), Nat.lt_of_lt_of_le hb hgb.size⟩
end Go.Proofs.Ytgbddapcjhgllaa
