/- A part of the proof: lemmas only; nothing is claimed here beyond what each lemma says. -/
/- From what the row's form reads to a value tree. -/
import Derived.Test.YtgkgihdafalimaaGreatAvG
import Derived.ProofKit
set_option linter.unusedSimpArgs false
set_option linter.unusedVariables false
set_option linter.defProp false
namespace Go.Av
mutual
inductive HasTy (P : Program) : TypeId → PV → Prop
  | bool {t : TypeId} {b : Bool} (h : P.underlying t = some .bool) : HasTy P t (.lit (.bool b))
  | int {t : TypeId} {k : IntKind} {n : Int} (h : P.underlying t = some (.int k)) (hw : (Lit.int k n).wf = true) : HasTy P t (.lit (.int k n))
  | str {t : TypeId} {s : ByteArray} (h : P.underlying t = some .string) (hs : s.size ≤ maxLen) : HasTy P t (.lit (.string s))
  | sl {t e : TypeId} {es : List PV} (h : P.underlying t = some (.slice e)) (hl : es.length ≤ maxLen) (hes : ∀ x ∈ es, HasTy P e x) : HasTy P t (.sl false (P.cellsOf e) es)
  | struct {t : TypeId} {fs : Array Field} {ps : List PV} (h : P.underlying t = some (.struct fs)) (hps : HasTys P (fs.toList.map (·.type)) ps) : HasTy P t (.agg ps)
inductive HasTys (P : Program) : List TypeId → List PV → Prop
  | nil : HasTys P [] []
  | cons {t : TypeId} {ts : List TypeId} {p : PV} {ps : List PV} (h : HasTy P t p) (hs : HasTys P ts ps) : HasTys P (t :: ts) (p :: ps)
end
/-- Fields that lie one behind the other. -/
def LaidF (P : Program) : Nat → List Field → Nat → Prop
  | off, [], n => off = n
  | off, f :: fs, n => f.offset = off ∧ LaidF P (off + P.cellsOf f.type) fs n
/-- Types that are read so. -/
def Kinds (P : Program) (G : TypeId → Prop) : Prop := ∀ t, G t → P.underlying t = some .bool ∨ (∃ k, P.underlying t = some (.int k)) ∨ P.underlying t = some .string ∨ (∃ e, P.underlying t = some (.slice e) ∧ G e ∧ 0 < P.cellsOf e) ∨
  (∃ fs, P.underlying t = some (.struct fs) ∧ LaidF P 0 fs.toList (P.cellsOf t) ∧ ∀ f ∈ fs.toList, G f.type)

section
variable {H : Type} {enc : TypeId × Value → H} {P : Program} {W : World} {spare : Nat → Bool} {held : Bool} {G : TypeId → Prop}

theorem open_fields {n : Nat} (ih : ∀ t cs x, G t → DataW.trod enc P W 0 spare held n t cs = some x → ∃ p, HasTy P t p ∧ RepC (fun b => b < W.heap.size) W p cs []) :
    ∀ (fs : List Field) (off m : Nat) (cs : List Value) (ys : List (DataW H × List MemPlace)), (∀ f ∈ fs, G f.type) → LaidF P off fs m → cs.length = m →
      fs.mapM (fun f => DataW.trod enc P W 0 spare held n f.type ((cs.drop f.offset).take (P.cellsOf f.type))) = some ys → ∃ ps, HasTys P (fs.map (·.type)) ps ∧ RepCs (fun b => b < W.heap.size) W ps (cs.drop off) []
  | [], off, m, cs, ys, _, hl, hc, h => by
    simp only [LaidF] at hl
    refine ⟨[], .nil, ?_⟩
    simp [RepCs, hl, ← hc]
  | f :: fs, off, m, cs, ys, hG, hl, hc, h => by
    obtain ⟨h1, h2⟩ := hl
    rw [List.mapM_cons] at h
    simp only [Option.bind_eq_bind, Option.bind_eq_some_iff] at h
    obtain ⟨y, hy, ys', hys, _⟩ := h
    obtain ⟨p, hp, hr⟩ := ih f.type _ y (hG f (by simp)) hy
    obtain ⟨ps, hps, hrs⟩ := open_fields ih fs _ m cs ys' (fun g hg => hG g (by simp [hg])) h2 hc hys
    refine ⟨p :: ps, .cons hp hps, ?_⟩
    simp only [RepCs]
    rw [h1] at hr
    refine ⟨(cs.drop off).take (P.cellsOf f.type), (cs.drop off).drop (P.cellsOf f.type), [], [], (List.take_append_drop _ _).symm, rfl, hr, ?_⟩
    rw [List.drop_drop]
    exact hrs

theorem open_pv (K : Kinds P G) : ∀ (fuel : Nat) (t : TypeId) (cs : List Value) (x : DataW H × List MemPlace), G t → DataW.trod enc P W 0 spare held fuel t cs = some x → ∃ p, HasTy P t p ∧ RepC (fun b => b < W.heap.size) W p cs []
  | 0, t, cs, x, _, h => by simp [DataW.trod] at h
  | n + 1, t, cs, x, hG, h => by
    rcases K t hG with ht | ⟨k, ht⟩ | ht | ⟨e, ht, hGe, hce⟩ | ⟨fs, ht, hl, hGf⟩
    · obtain ⟨b, rfl, _⟩ := DataW.trod_bool ht h
      exact ⟨_, .bool (b := b) ht, by simp [RepC, Value.oneCell']⟩
    · obtain ⟨m, rfl, _, hw⟩ := DataW.trod_int ht h
      exact ⟨_, .int ht hw, by simp [RepC, Value.oneCell']⟩
    · obtain ⟨s, rfl, _, hs⟩ := DataW.trod_string ht h
      exact ⟨_, .str ht hs, by simp [RepC, Value.oneCell']⟩
    · rcases DataW.trod_slice ht h with ⟨rfl, _⟩ | ⟨a, len, cap, elems, rest, m, hm, rfl, _, _, hlc, hcm, hel, hget, _, _⟩
      · exact ⟨_, .sl (es := []) ht (by simp) (by simp), by simp only [RepC]; exact ⟨none, 0, rfl, trivial, by simp, by simp, by simp, .inl trivial⟩⟩
      · cases hm
        have each : ∀ i, i < len → ∃ ccs y, W.cells? 0 (a.add (i * P.cellsOf e)) (P.cellsOf e) = some ccs ∧ DataW.trod enc P W 0 spare held n e ccs = some y := by
          intro i hi
          have h1 := hget i hi
          have h2 : ∃ y, elems[i]? = some y := ⟨elems[i]'(by omega), by simp [hel, hi]⟩
          obtain ⟨y, hy⟩ := h2
          rw [hy, Option.bind_eq_some_iff] at h1
          obtain ⟨ccs, g1, g2⟩ := h1
          exact ⟨ccs, y, g1, g2⟩
        have hspot : 0 < len → a.spot = none ∧ a.block < W.heap.size := by
          intro h0
          obtain ⟨ccs, y, g1, _⟩ := each 0 h0
          have e0 : a.add (0 * P.cellsOf e) = a := by simp [Addr.add]
          rw [e0] at g1
          obtain ⟨_, g2, g3⟩ := World.cells?_some g1
          have := g3 0 hce
          have e1 : a.add 0 = a := by simp [Addr.add]
          rw [e1] at this
          have hs : ∃ u, ccs[0]? = some u := ⟨ccs[0]'(by omega), by simp [g2, hce]⟩
          obtain ⟨u, hu⟩ := hs
          rw [hu] at this
          exact ⟨World.cell?_spot this, World.cells?_block g1 hce⟩
        have build : ∀ k, k ≤ len → ∃ es ccs, es.length = k ∧ (∀ x ∈ es, HasTy P e x) ∧ (∀ x ∈ es, PV.size x = P.cellsOf e) ∧ RepCs (fun b => b < W.heap.size) W es ccs [] ∧ ccs.length = k * P.cellsOf e ∧ RowAt W a ccs := by
          intro k
          induction k with
          | zero => intro _; exact ⟨[], [], rfl, by simp, by simp, by simp [RepCs], by simp, by intro j u hu; simp at hu⟩
          | succ k ihk =>
            intro hk
            obtain ⟨es, ccs, g1, g2, g3, g4, g5, g6⟩ := ihk (by omega)
            obtain ⟨c', y, e1, e2⟩ := each k (by omega)
            obtain ⟨p, hp, hr⟩ := open_pv K n e c' y hGe e2
            obtain ⟨_, q1, q2⟩ := World.cells?_some e1
            refine ⟨es ++ [p], ccs ++ c', by simp [g1], ?_, ?_, ?_, by simp [g5, q1, Nat.succ_mul], ?_⟩
            · intro x hx; rcases List.mem_append.1 hx with hx | hx
              · exact g2 x hx
              · simp at hx; subst hx; exact hp
            · intro x hx; rcases List.mem_append.1 hx with hx | hx
              · exact g3 x hx
              · simp at hx; subst hx; rw [← RepC.length _ _ _ hr, q1]
            · have := RepCs.append es [p] ccs c' [] [] g4 (by simp only [RepCs]; exact ⟨c', [], [], [], by simp, rfl, hr, rfl, rfl⟩)
              simpa using this
            · intro j u hu
              by_cases hj : j < ccs.length
              · rw [List.getElem?_append_left hj] at hu; exact g6 j u hu
              · rw [List.getElem?_append_right (by omega)] at hu
                have hlt : j - ccs.length < P.cellsOf e := by rw [← q1]; exact (List.getElem?_eq_some_iff.1 hu).1
                have := q2 (j - ccs.length) hlt
                rw [hu] at this
                have hs := (hspot (by omega)).1
                rw [add_off a _ hs, add_off _ _ rfl] at this
                have e3 : a.off + k * P.cellsOf e + (j - ccs.length) = a.off + j := by omega
                simpa only [e3] using this
        obtain ⟨es, ccs, g1, g2, g3, g4, g5, g6⟩ := build len (Nat.le_refl _)
        refine ⟨_, .sl ht (by omega) g2, ?_⟩
        simp only [RepC]
        refine ⟨some a, cap, by rw [g1], trivial, by omega, hcm, g3, ?_⟩
        by_cases h0 : len = 0
        · left; exact List.length_eq_zero_iff.1 (g1.trans h0)
        · right; exact ⟨a, ccs, rfl, (hspot (by omega)).1, (hspot (by omega)).2, g6, g4⟩
    · unfold DataW.trod at h
      rw [ht] at h
      simp only at h
      split at h
      · rename_i hlen
        rw [Option.map_eq_some_iff] at h
        obtain ⟨ys, hys, _⟩ := h
        obtain ⟨ps, hps, hr⟩ := open_fields (n := n) (fun t cs x hg hh => open_pv K n t cs x hg hh) fs.toList 0 (P.cellsOf t) cs ys hGf hl hlen hys
        refine ⟨.agg ps, .struct ht hps, ?_⟩
        simp only [RepC]
        simpa using hr
      · cases h
end
end Go.Av
