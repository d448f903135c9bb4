/- A part of the proof: lemmas only; nothing is claimed here beyond what each lemma says. -/
/- Contracts, and calls by them. -/
import Derived.Test.YtgkgihdafalimaaGreatAv4
set_option linter.unusedSimpArgs false
set_option linter.unusedVariables false
set_option linter.defProp false
namespace Go.Av

mutual
def PV.noOwn : PV → Bool
  | .lit _ => true
  | .agg fs => PV.noOwns fs
  | .sl o _ _ => !o
  | .clo _ _ => true
  | .ptr _ => true
  | .tup _ => true
def PV.noOwns : List PV → Bool
  | [] => true
  | p :: ps => p.noOwn && PV.noOwns ps
end
mutual
def PV.noView : PV → Bool
  | .lit _ => true
  | .agg fs => PV.noViews fs
  | .sl o _ es => o && PV.noViews es
  | .clo _ cs => cs.isEmpty
  | .ptr _ => false
  | .tup vs => PV.noViews vs
def PV.noViews : List PV → Bool
  | [] => true
  | p :: ps => p.noView && PV.noViews ps
end

section
variable {N N' : Nat → Prop} {w : World}
mutual
theorem RepC.noOwn : ∀ (p : PV) (cs : List Value) (F : List Nat), p.noOwn = true → RepC N w p cs F → F = []
  | .lit v, cs, F, _, h => by simp only [RepC] at h; exact h.2.2
  | .agg fs, cs, F, hp, h => by simp only [RepC] at h; exact RepCs.noOwn fs cs F (by simpa [PV.noOwn] using hp) h
  | .sl false sz es, cs, F, _, h => by simp only [RepC] at h; obtain ⟨_, _, _, h2, _⟩ := h; exact h2
  | .sl true sz es, cs, F, hp, _ => by simp [PV.noOwn] at hp
  | .clo f caps, cs, F, _, h => by simp only [RepC] at h; obtain ⟨_, _, h2, _⟩ := h; exact h2
  | .ptr v, cs, F, _, h => by simp only [RepC] at h; obtain ⟨_, _, _, h2, _⟩ := h; exact h2
  | .tup _, cs, F, _, h => by simp only [RepC] at h
theorem RepCs.noOwn : ∀ (ps : List PV) (cs : List Value) (F : List Nat), PV.noOwns ps = true → RepCs N w ps cs F → F = []
  | [], cs, F, _, h => by simp only [RepCs] at h; exact h.2
  | p :: ps, cs, F, hp, h => by
    simp only [PV.noOwns, Bool.and_eq_true] at hp
    simp only [RepCs] at h
    obtain ⟨c1, c2, F1, F2, h1, h2, h3, h4⟩ := h
    rw [h2, RepC.noOwn p c1 F1 hp.1 h3, RepCs.noOwn ps c2 F2 hp.2 h4]
    rfl
end
mutual
theorem RepC.noView : ∀ (p : PV) (cs : List Value) (F : List Nat), p.noView = true → RepC N w p cs F → RepC N' w p cs F
  | .lit v, cs, F, _, h => by simpa only [RepC] using h
  | .agg fs, cs, F, hp, h => by simp only [RepC] at h ⊢; exact RepCs.noView fs cs F (by simpa [PV.noView] using hp) h
  | .sl false sz es, cs, F, hp, h => by simp [PV.noView] at hp
  | .sl true sz es, cs, F, hp, h => by
    simp only [RepC] at h ⊢
    rcases h with h | ⟨b, cap, c, e, F', ccs, h1, h2, h3, h4, h5, h6, h7, h8, h9⟩
    · exact .inl h
    · exact .inr ⟨b, cap, c, e, F', ccs, h1, h2, h3, h4, h5, h6, h7, RepCs.noView es ccs F' (by simpa [PV.noView] using hp) h8, h9⟩
  | .clo f caps, cs, F, hp, h => by
    have hc : caps = [] := by simpa [PV.noView] using hp
    subst hc
    simpa only [RepC, RepCs] using h
  | .ptr v, cs, F, hp, h => by simp [PV.noView] at hp
  | .tup _, cs, F, _, h => by simp only [RepC] at h
theorem RepCs.noView : ∀ (ps : List PV) (cs : List Value) (F : List Nat), PV.noViews ps = true → RepCs N w ps cs F → RepCs N' w ps cs F
  | [], cs, F, _, h => by simpa only [RepCs] using h
  | p :: ps, cs, F, hp, h => by
    simp only [PV.noViews, Bool.and_eq_true] at hp
    simp only [RepCs] at h ⊢
    obtain ⟨c1, c2, F1, F2, h1, h2, h3, h4⟩ := h
    exact ⟨c1, c2, F1, F2, h1, h2, RepC.noView p c1 F1 hp.1 h3, RepCs.noView ps c2 F2 hp.2 h4⟩
end
theorem RepV.noView {p : PV} {v : Value} {F : List Nat} (hp : p.noView = true) (h : RepV N w p v F) : RepV N' w p v F := by
  cases p with
  | agg fs => obtain ⟨cs, rfl, h⟩ := h; exact ⟨cs, rfl, RepCs.noView fs cs F (by simpa [PV.noView] using hp) h⟩
  | _ => exact RepC.noView (N := N) _ _ _ hp h
end

/-! ### A content, seen by somebody else -/
mutual
def CV.pvw (ob : Nat → Option (Nat × List PV)) : CV → PV
  | .pv v => v.view
  | .own c => match ob c with
    | some (sz, es) => .sl false sz (PV.views es)
    | none => .tup []
  | .node fs => .agg (CV.pvws ob fs)
  | .gone _ => .tup []
def CV.pvws (ob : Nat → Option (Nat × List PV)) : List CV → List PV
  | [] => []
  | x :: xs => x.pvw ob :: CV.pvws ob xs
end
mutual
/-- Nothing of it is gone. -/
def CV.whole (ob : Nat → Option (Nat × List PV)) : CV → Bool
  | .pv _ => true
  | .own c => (ob c).isSome
  | .node fs => CV.wholes ob fs
  | .gone _ => false
def CV.wholes (ob : Nat → Option (Nat × List PV)) : List CV → Bool
  | [] => true
  | x :: xs => x.whole ob && CV.wholes ob xs
end
mutual
def CV.pure : CV → Bool
  | .pv _ => true
  | .own _ => false
  | .node fs => CV.pures fs
  | .gone _ => false
def CV.pures : List CV → Bool
  | [] => true
  | x :: xs => x.pure && CV.pures xs
end
mutual
/-- The objects that a content names. -/
def CV.names : CV → List Nat
  | .pv _ => []
  | .own c => [c]
  | .node fs => CV.namess fs
  | .gone _ => []
def CV.namess : List CV → List Nat
  | [] => []
  | x :: xs => x.names ++ CV.namess xs
end

section
variable {N N' : Nat → Prop} {w : World} {hd : Nat → Value} {ob : Nat → Option (Nat × List PV)} {fp : Nat → List Nat}
mutual
theorem RepCV.view (hN : ∀ b, N b → N' b) (ho : ∀ c sz es, ob c = some (sz, es) → RepC N w (.sl true sz es) [hd c] (fp c) ∧ ∀ b ∈ fp c, N' b) :
    ∀ (x : CV) (cs : List Value), x.whole ob = true → RepCV N w hd x cs → RepC N' w (x.pvw ob) cs []
  | .pv v, cs, _, h => by simp only [RepCV] at h; exact RepC.demote hN v cs [] (by simp) h
  | .own c, cs, hw, h => by
    simp only [CV.whole] at hw
    obtain ⟨⟨sz, es⟩, he⟩ := Option.isSome_iff_exists.1 hw
    simp only [RepCV] at h
    rw [h.1]
    simp only [CV.pvw, he]
    have := RepC.demote hN _ _ _ (ho c sz es he).2 (ho c sz es he).1
    simpa only [PV.view] using this
  | .node fs, cs, hw, h => by
    simp only [RepCV] at h
    simp only [CV.pvw, RepC]
    exact RepCVs.view hN ho fs cs (by simpa [CV.whole] using hw) h
  | .gone n, cs, hw, h => by simp [CV.whole] at hw
theorem RepCVs.view (hN : ∀ b, N b → N' b) (ho : ∀ c sz es, ob c = some (sz, es) → RepC N w (.sl true sz es) [hd c] (fp c) ∧ ∀ b ∈ fp c, N' b) :
    ∀ (xs : List CV) (cs : List Value), CV.wholes ob xs = true → RepCVs N w hd xs cs → RepCs N' w (CV.pvws ob xs) cs []
  | [], cs, _, h => by simp only [RepCVs] at h; simp [CV.pvws, RepCs, h]
  | x :: xs, cs, hw, h => by
    simp only [CV.wholes, Bool.and_eq_true] at hw
    simp only [RepCVs] at h
    obtain ⟨c1, c2, h1, h2, h3⟩ := h
    simp only [CV.pvws, RepCs]
    exact ⟨c1, c2, [], [], h1, rfl, RepCV.view hN ho x c1 hw.1 h2, RepCVs.view hN ho xs c2 hw.2 h3⟩
end
mutual
theorem RepCV.pureView : ∀ (x : CV) (cs : List Value), x.pure = true → RepCV N w hd x cs → RepC N w (x.pvw ob) cs []
  | .pv v, cs, _, h => by simp only [RepCV] at h; exact RepC.demote (fun _ h => h) v cs [] (by simp) h
  | .own c, cs, hw, h => by simp [CV.pure] at hw
  | .node fs, cs, hw, h => by
    simp only [RepCV] at h
    simp only [CV.pvw, RepC]
    exact RepCVs.pureView fs cs (by simpa [CV.pure] using hw) h
  | .gone n, cs, hw, h => by simp [CV.pure] at hw
theorem RepCVs.pureView : ∀ (xs : List CV) (cs : List Value), CV.pures xs = true → RepCVs N w hd xs cs → RepCs N w (CV.pvws ob xs) cs []
  | [], cs, _, h => by simp only [RepCVs] at h; simp [CV.pvws, RepCs, h]
  | x :: xs, cs, hw, h => by
    simp only [CV.pures, Bool.and_eq_true] at hw
    simp only [RepCVs] at h
    obtain ⟨c1, c2, h1, h2, h3⟩ := h
    simp only [CV.pvws, RepCs]
    exact ⟨c1, c2, [], [], h1, rfl, RepCV.pureView x c1 hw.1 h2, RepCVs.pureView xs c2 hw.2 h3⟩
end

theorem PV.isAgg_view (v : PV) : (CV.pv v.view).isAgg = (CV.pv v).isAgg := by cases v <;> simp [PV.view, CV.isAgg]

theorem repV_of_cells {p : PV} {v : Value} {F : List Nat} {agg : Bool} (ha : (CV.pv p).isAgg = agg) (h : (agg = true ∧ ∃ cs, v = .agg cs.toArray ∧ RepC N w p cs F) ∨ (agg = false ∧ RepC N w p [v] F)) : RepV N w p v F := by
  subst ha
  cases p with
  | agg fs =>
    rcases h with ⟨_, cs, h1, h2⟩ | ⟨h1, _⟩
    · exact ⟨cs, h1, by simpa [RepC] using h2⟩
    · simp [CV.isAgg] at h1
  | _ =>
    rcases h with ⟨h1, _⟩ | ⟨_, h2⟩
    · simp [CV.isAgg] at h1
    · exact h2

theorem CV.isAgg_pvw {x : CV} (h : x.whole ob = true) : (CV.pv (x.pvw ob)).isAgg = x.isAgg := by
  cases x with
  | pv v => simp [CV.pvw, PV.isAgg_view]
  | own c => simp only [CV.whole] at h; obtain ⟨⟨sz, es⟩, he⟩ := Option.isSome_iff_exists.1 h; simp [CV.pvw, he, CV.isAgg]
  | node fs => simp [CV.pvw, CV.isAgg]
  | gone n => simp [CV.whole] at h

theorem CVal.view (hN : ∀ b, N b → N' b) (ho : ∀ c sz es, ob c = some (sz, es) → RepC N w (.sl true sz es) [hd c] (fp c) ∧ ∀ b ∈ fp c, N' b) {x : CV} {v : Value} (hx : x.whole ob = true)
    (h : CVal N w hd x v) : RepV N' w (x.pvw ob) v [] := by
  refine repV_of_cells (CV.isAgg_pvw hx) ?_
  rcases h with ⟨h1, cs, h2, h3⟩ | ⟨h1, h2, _⟩
  · exact .inl ⟨h1, cs, h2, RepCV.view hN ho x cs hx h3⟩
  · exact .inr ⟨h1, RepCV.view hN ho x _ hx h2⟩
mutual
theorem CV.pure_whole : ∀ x : CV, x.pure = true → x.whole ob = true
  | .pv _, _ => rfl
  | .own _, h => by simp [CV.pure] at h
  | .node fs, h => by simp only [CV.whole]; exact CV.pures_wholes fs (by simpa [CV.pure] using h)
  | .gone _, h => by simp [CV.pure] at h
theorem CV.pures_wholes : ∀ xs : List CV, CV.pures xs = true → CV.wholes ob xs = true
  | [], _ => rfl
  | x :: xs, h => by simp only [CV.pures, Bool.and_eq_true] at h; simp [CV.wholes, CV.pure_whole x h.1, CV.pures_wholes xs h.2]
end
theorem CVal.pureView {x : CV} {v : Value} (hx : x.pure = true) (h : CVal N w hd x v) : RepV N w (x.pvw ob) v [] := by
  refine repV_of_cells (CV.isAgg_pvw (CV.pure_whole x hx)) ?_
  rcases h with ⟨h1, cs, h2, h3⟩ | ⟨h1, h2, _⟩
  · exact .inl ⟨h1, cs, h2, RepCV.pureView x cs hx h3⟩
  · exact .inr ⟨h1, RepCV.pureView x _ hx h2⟩
end

/-! ### Contracts -/
def RepR (N : Nat → Prop) (w : World) : PV → Value → List Nat → Prop
  | .tup ps, v, F => ∃ vs, v = .tuple vs.toArray ∧ RepVs N w ps vs F
  | p, v, F => RepV N w p v F

def CallIs (P : Program) (f : FuncId) : Prop := ∃ fn, P.funcs[f]? = some fn ∧ (fn.name == "runtime.NumGoroutine") = false ∧ fn.body.isNone = false

/-- Called with these, in whatever memory: it returns this. What is handed over as one's own ('Fs': the blocks) is the function's from then on; what it hands back as its own was so handed over, or is new; all else stays. -/
def Sat (P : Program) (f : FuncId) (args : List PV) (res : PV) : Prop :=
  CallIs P f ∧ ∀ (w : World) (N : Nat → Prop) (vs : List Value) (Fs : List Nat), (∀ b, N b → b < w.heap.size ∧ b ∉ Fs) → Fs.Nodup → (∀ b ∈ Fs, b < w.heap.size) → RepVs N w args vs Fs →
    Calls P f vs.toArray w fun e w' => ∃ v F, e = .returned v ∧ KeepX Fs w.heap.size w w' ∧
      RepR (fun b => N b ∨ ((w.heap.size ≤ b ∨ b ∈ Fs) ∧ b < w'.heap.size ∧ b ∉ F)) w' res v F ∧ F.Nodup ∧ ∀ b ∈ F, (w.heap.size ≤ b ∨ b ∈ Fs) ∧ b < w'.heap.size

theorem run_callFunc {P : Program} {f : FuncId} (h : CallIs P f) (args : Array Value) (w : World) : (callFunc f args).run P w = .ok (.enter f args) w := by
  obtain ⟨fn, h1, h2, h3⟩ := h
  simp only [callFunc, Sem.run_bind, run_program, Result.andThen_ok, h1, h2, h3, Bool.false_eq_true, if_false, Sem.run_pure]

/-! ### What a call hands back, taken apart -/
mutual
def explode : PV → Nat → CV × List (Nat × (Nat × List PV)) × Nat
  | .sl true sz es, c => (.own c, [(c, (sz, es))], c + 1)
  | .agg fs, c => if PV.noOwns fs then (.pv (.agg fs), [], c) else let r := explodes fs c; (.node r.1, r.2.1, r.2.2)
  | p, c => (.pv p, [], c)
def explodes : List PV → Nat → List CV × List (Nat × (Nat × List PV)) × Nat
  | [], c => ([], [], c)
  | p :: ps, c => let r := explode p c; let s := explodes ps r.2.2; (r.1 :: s.1, r.2.1 ++ s.2.1, s.2.2)
end

/-- What the new names stand for. -/
structure News (N : Nat → Prop) (w : World) (hdv : Nat → Value) (fpv : Nat → List Nat) (F : List Nat) (lo hi : Nat) (news : List (Nat × (Nat × List PV))) : Prop where
  rep : ∀ n sz es, (n, (sz, es)) ∈ news → lo ≤ n ∧ n < hi ∧ RepC N w (.sl true sz es) [hdv n] (fpv n) ∧ (fpv n).Nodup ∧ ∀ b ∈ fpv n, b ∈ F
  apart : ∀ n m p q, (n, p) ∈ news → (m, q) ∈ news → n ≠ m → ∀ b ∈ fpv n, b ∉ fpv m
  once : (news.map (·.1)).Nodup
  le : lo ≤ hi
  all : ∀ n, lo ≤ n → n < hi → n ∈ news.map (·.1)

mutual
theorem explode_ok {N : Nat → Prop} {w : World} : ∀ (p : PV) (cs : List Value) (F : List Nat) (c : Nat), RepC N w p cs F → F.Nodup →
    ∃ hdv fpv, News N w hdv fpv F c (explode p c).2.2 (explode p c).2.1 ∧ ∀ hd : Nat → Value, (∀ n, c ≤ n → n < (explode p c).2.2 → hd n = hdv n) → RepCV N w hd (explode p c).1 cs
  | .lit v, cs, F, c, h, _ => by
    have hF := RepC.noOwn _ _ _ (by rfl) h; subst hF
    exact ⟨fun _ => undef, fun _ => [], ⟨by simp [explode], by simp [explode], by simp [explode], by simp [explode], fun n h1 h2 => absurd h2 (by simp [explode]; omega)⟩, fun hd _ => by simpa [explode, RepCV] using h⟩
  | .sl false sz es, cs, F, c, h, _ => by
    have hF := RepC.noOwn _ _ _ (by rfl) h; subst hF
    exact ⟨fun _ => undef, fun _ => [], ⟨by simp [explode], by simp [explode], by simp [explode], by simp [explode], fun n h1 h2 => absurd h2 (by simp [explode]; omega)⟩, fun hd _ => by simpa [explode, RepCV] using h⟩
  | .clo f caps, cs, F, c, h, _ => by
    have hF := RepC.noOwn _ _ _ (by rfl) h; subst hF
    exact ⟨fun _ => undef, fun _ => [], ⟨by simp [explode], by simp [explode], by simp [explode], by simp [explode], fun n h1 h2 => absurd h2 (by simp [explode]; omega)⟩, fun hd _ => by simpa [explode, RepCV] using h⟩
  | .ptr v, cs, F, c, h, _ => by
    have hF := RepC.noOwn _ _ _ (by rfl) h; subst hF
    exact ⟨fun _ => undef, fun _ => [], ⟨by simp [explode], by simp [explode], by simp [explode], by simp [explode], fun n h1 h2 => absurd h2 (by simp [explode]; omega)⟩, fun hd _ => by simpa [explode, RepCV] using h⟩
  | .tup _, cs, F, c, h, _ => by simp only [RepC] at h
  | .sl true sz es, cs, F, c, h, hn => by
    have hl := RepC.length _ _ _ h
    simp only [PV.size] at hl
    obtain ⟨v, rfl⟩ := List.length_eq_one_iff.1 hl
    have h1 := RepC.one _ _ _ h v (by simp)
    refine ⟨fun _ => v, fun _ => F, ⟨?_, ?_, by simp [explode], by simp [explode], fun n h1 h2 => by simp [explode] at h2 ⊢; omega⟩, fun hd hh => ?_⟩
    · intro n sz' es' hm
      simp only [explode, List.mem_singleton, Prod.mk.injEq] at hm
      obtain ⟨rfl, rfl, rfl⟩ := hm
      exact ⟨Nat.le_refl _, by simp [explode], h, hn, fun b hb => hb⟩
    · intro n m p q h1 h2 hne
      simp only [explode, List.mem_singleton, Prod.mk.injEq] at h1 h2
      exact absurd (h1.1.trans h2.1.symm) hne
    · simp only [explode, RepCV]
      rw [hh c (Nat.le_refl _) (by simp [explode])]
      exact ⟨rfl, h1⟩
  | .agg fs, cs, F, c, h, hn => by
    by_cases hno : PV.noOwns fs = true
    · have hF := RepC.noOwn (.agg fs) _ _ (by simpa [PV.noOwn] using hno) h; subst hF
      refine ⟨fun _ => undef, fun _ => [], ?_, ?_⟩
      · simp only [explode, hno, if_true]; exact ⟨by simp, by simp, by simp, Nat.le_refl _, fun n h1 h2 => absurd h2 (by omega)⟩
      · intro hd _; simp only [explode, hno, if_true, RepCV]; exact h
    · simp only [RepC] at h
      obtain ⟨hdv, fpv, h1, h2⟩ := explodes_ok fs cs F c h hn
      refine ⟨hdv, fpv, ?_, ?_⟩
      · simp only [explode, hno]; exact h1
      · intro hd hh
        simp only [explode, hno] at hh ⊢
        exact h2 hd hh
theorem explodes_ok {N : Nat → Prop} {w : World} : ∀ (ps : List PV) (cs : List Value) (F : List Nat) (c : Nat), RepCs N w ps cs F → F.Nodup →
    ∃ hdv fpv, News N w hdv fpv F c (explodes ps c).2.2 (explodes ps c).2.1 ∧ ∀ hd : Nat → Value, (∀ n, c ≤ n → n < (explodes ps c).2.2 → hd n = hdv n) → RepCVs N w hd (explodes ps c).1 cs
  | [], cs, F, c, h, _ => by
    simp only [RepCs] at h
    exact ⟨fun _ => undef, fun _ => [], ⟨by simp [explodes], by simp [explodes], by simp [explodes], by simp [explodes], fun n h1 h2 => absurd h2 (by simp [explodes]; omega)⟩, fun hd _ => by simp [explodes, RepCVs, h.1]⟩
  | p :: ps, cs, F, c, h, hn => by
    simp only [RepCs] at h
    obtain ⟨c1, c2, F1, F2, e1, e2, h3, h4⟩ := h
    subst e2
    have hn1 : F1.Nodup := (List.nodup_append.1 hn).1
    have hn2 : F2.Nodup := (List.nodup_append.1 hn).2.1
    have hdis : ∀ b ∈ F1, b ∉ F2 := fun b hb hb' => (List.nodup_append.1 hn).2.2 b hb b hb' rfl
    obtain ⟨hd1, fp1, n1, r1⟩ := explode_ok p c1 F1 c h3 hn1
    obtain ⟨hd2, fp2, n2, r2⟩ := explodes_ok ps c2 F2 (explode p c).2.2 h4 hn2
    have hle1 := n1.le
    have hle2 := n2.le
    have key : ∀ n, n < (explode p c).2.2 → ¬ (explode p c).2.2 ≤ n := fun n h => by omega
    refine ⟨fun n => if n < (explode p c).2.2 then hd1 n else hd2 n, fun n => if n < (explode p c).2.2 then fp1 n else fp2 n, ⟨?_, ?_, ?_, ?_, ?_⟩, ?_⟩
    · intro n sz es hm
      simp only [explodes, List.mem_append] at hm ⊢
      rcases hm with hm | hm
      · obtain ⟨g1, g2, g3, g4, g5⟩ := n1.rep n sz es hm
        simp only [g2, if_true]
        exact ⟨g1, by omega, g3, g4, fun b hb => .inl (g5 b hb)⟩
      · obtain ⟨g1, g2, g3, g4, g5⟩ := n2.rep n sz es hm
        have : ¬ n < (explode p c).2.2 := by omega
        simp only [this, if_false]
        exact ⟨by omega, g2, g3, g4, fun b hb => .inr (g5 b hb)⟩
    · intro n m pn pm h1 h2 hne
      simp only [explodes, List.mem_append] at h1 h2
      rcases h1 with h1 | h1 <;> rcases h2 with h2 | h2
      · have g1 := (n1.rep n pn.1 pn.2 h1).2.1; have g2 := (n1.rep m pm.1 pm.2 h2).2.1
        simp only [g1, g2, if_true]; exact n1.apart n m pn pm h1 h2 hne
      · have g1 := (n1.rep n pn.1 pn.2 h1).2.1; have g2 := (n2.rep m pm.1 pm.2 h2).1
        have : ¬ m < (explode p c).2.2 := by omega
        simp only [g1, this, if_true, if_false]
        exact fun b hb hb' => hdis b ((n1.rep n pn.1 pn.2 h1).2.2.2.2 b hb) ((n2.rep m pm.1 pm.2 h2).2.2.2.2 b hb')
      · have g1 := (n2.rep n pn.1 pn.2 h1).1; have g2 := (n1.rep m pm.1 pm.2 h2).2.1
        have : ¬ n < (explode p c).2.2 := by omega
        simp only [g2, this, if_true, if_false]
        exact fun b hb hb' => hdis b ((n1.rep m pm.1 pm.2 h2).2.2.2.2 b hb') ((n2.rep n pn.1 pn.2 h1).2.2.2.2 b hb)
      · have g1 := (n2.rep n pn.1 pn.2 h1).1; have g2 := (n2.rep m pm.1 pm.2 h2).1
        have e1 : ¬ n < (explode p c).2.2 := by omega
        have e2 : ¬ m < (explode p c).2.2 := by omega
        simp only [e1, e2, if_false]; exact n2.apart n m pn pm h1 h2 hne
    · simp only [explodes, List.map_append]
      refine List.nodup_append.2 ⟨n1.once, n2.once, ?_⟩
      intro a ha b hb e
      subst e
      obtain ⟨⟨_, q1⟩, h1, rfl⟩ := List.mem_map.1 ha
      obtain ⟨⟨m, q2⟩, h2, e⟩ := List.mem_map.1 hb
      have g1 := (n1.rep _ q1.1 q1.2 h1).2.1
      have g2 := (n2.rep m q2.1 q2.2 h2).1
      simp only at e; omega
    · simp only [explodes]; omega
    · intro n h1 h2
      simp only [explodes, List.map_append, List.mem_append] at h2 ⊢
      by_cases hlt : n < (explode p c).2.2
      · exact .inl (n1.all n h1 hlt)
      · exact .inr (n2.all n (by omega) h2)
    · intro hd hh
      simp only [explodes, RepCVs] at hh ⊢
      refine ⟨c1, c2, e1, r1 hd (fun n h1 h2 => ?_), r2 hd (fun n h1 h2 => ?_)⟩
      · rw [hh n h1 (by omega)]; simp [h2]
      · rw [hh n (by omega) h2]; have : ¬ n < (explode p c).2.2 := by omega
        simp [this]
end

theorem updAll_notMem {α : Type} : ∀ (l : List (Nat × α)) (f : Nat → α) (n : Nat), n ∉ l.map (·.1) → updAll f l n = f n
  | [], _, _, _ => rfl
  | (k, v) :: l, f, n, h => by
    simp only [List.map_cons, List.mem_cons, not_or] at h
    simp only [updAll]
    rw [updAll_notMem l _ n h.2, upd_ne h.1]
theorem updAll_mem {α : Type} : ∀ (l : List (Nat × α)) (f : Nat → α) (n : Nat) (v : α), (l.map (·.1)).Nodup → (n, v) ∈ l → updAll f l n = v
  | [], _, _, _, _, h => by simp at h
  | (k, u) :: l, f, n, v, hn, h => by
    simp only [List.map_cons, List.nodup_cons] at hn
    simp only [updAll]
    rcases List.mem_cons.1 h with h | h
    · obtain ⟨rfl, rfl⟩ := Prod.mk.inj h
      rw [updAll_notMem l _ n hn.1, upd_same]
    · exact updAll_mem l _ n v hn.2 h

def newObjs (news : List (Nat × (Nat × List PV))) : List (Nat × Option (Nat × List PV)) := news.map fun x => (x.1, some x.2)
theorem newObjs_keys (news : List (Nat × (Nat × List PV))) : (newObjs news).map (·.1) = news.map (·.1) := by simp [newObjs]

/-- The blocks of the names. -/
def fps (fp : Nat → List Nat) : List Nat → List Nat
  | [] => []
  | c :: cs => fp c ++ fps fp cs
theorem fps_append (fp : Nat → List Nat) : ∀ a b : List Nat, fps fp (a ++ b) = fps fp a ++ fps fp b
  | [], b => rfl
  | x :: a, b => by simp [fps, fps_append fp a b]
theorem mem_fps {fp : Nat → List Nat} {b : Nat} : ∀ {cs : List Nat}, b ∈ fps fp cs ↔ ∃ c ∈ cs, b ∈ fp c
  | [] => by simp [fps]
  | c :: cs => by simp [fps, mem_fps (cs := cs)]

def deadObjs (D : List Nat) : List (Nat × Option (Nat × List PV)) := D.map fun c => (c, none)
theorem updAll_dead (D : List Nat) (f : Nat → Option (Nat × List PV)) (c : Nat) : updAll f (deadObjs D) c = if c ∈ D then none else f c := by
  induction D generalizing f with
  | nil => rfl
  | cons d D ih =>
    simp only [deadObjs, List.map_cons, updAll] at ih ⊢
    rw [ih]
    by_cases h : c ∈ D
    · simp [h]
    · by_cases hd : c = d
      · simp [h, hd, upd]
      · simp [h, hd, upd]
theorem updAll_append {α : Type} : ∀ (l m : List (Nat × α)) (f : Nat → α), updAll f (l ++ m) = updAll (updAll f l) m
  | [], _, _ => rfl
  | (k, v) :: l, m, f => by simp only [List.cons_append, updAll]; exact updAll_append l m _

/-- What came from outside (a call's result, with all that it brought) goes into a slot; what was handed over is no longer here. -/
theorem R.newRes {κ : Ctx} {G : Gh} {st : St} {a : Act} {w w' : World} {d : Nat} {v : Value} {F D : List Nat} {lo hi : Nat} {news : List (Nat × (Nat × List PV))} {N' : Nat → Prop} {hdv : Nat → Value} {fpv : Nat → List Nat} {sv : SlotV}
    (h : RG κ G st a w) (hd : d < κ.nt) (hD : ∀ c ∈ D, (st.o c).isSome = true) (hb : KeepX (fps G.fp D) w.heap.size w w') (hF : ∀ b ∈ F, (w.heap.size ≤ b ∨ b ∈ fps G.fp D) ∧ b < w'.heap.size)
    (hN' : ∀ b, N' b → Nof κ st G w b ∨ ((w.heap.size ≤ b ∨ b ∈ fps G.fp D) ∧ b < w'.heap.size ∧ b ∉ F)) (hnews : News N' w' hdv fpv F lo hi news) (hfresh : ∀ n ∈ news.map (·.1), st.noC n) (hnb : isBox sv = false)
    (hsv : ∀ (N : Nat → Prop) (G' : Gh), (∀ b, N' b → N b) → (∀ n, lo ≤ n → n < hi → G'.hd n = hdv n) → SlotOk N w' G' d v sv) :
    R κ { s := upd st.s d sv, o := updAll st.o (deadObjs D ++ newObjs news) } (a.put (some d) v) w' := by
  have hbs := h.keep.size
  let G' : Gh := { hd := fun n => if n ∈ news.map (·.1) then hdv n else G.hd n, fp := fun n => if n ∈ news.map (·.1) then fpv n else G.fp n, ad := G.ad }
  have hDin : ∀ b, b ∈ fps G.fp D → ∃ c p, c ∈ D ∧ st.o c = some p ∧ b ∈ G.fp c := by
    intro b hb'
    obtain ⟨c, hc, hm⟩ := mem_fps.1 hb'
    obtain ⟨p, hp⟩ := Option.isSome_iff_exists.1 (hD c hc)
    exact ⟨c, p, hc, hp, hm⟩
  have hDlt : ∀ b, b ∈ fps G.fp D → (κ.w0.heap.size ≤ b ∨ b ∈ κ.L) ∧ b < w.heap.size := by
    intro b hb'
    obtain ⟨c, p, _, hp, hm⟩ := hDin b hb'
    exact (h.objs c p.1 p.2 hp).2.2 b hm
  have hlt : ∀ b, Nof κ st G w b → b < w.heap.size := fun b hb => hb.lt h
  have hNX : ∀ b, Nof κ st G w b → b ∉ fps G.fp D := by
    intro b hb' hm
    obtain ⟨c, p, _, hp, hm⟩ := hDin b hm
    exact hb'.2 (.inr ⟨c, p, hp, hm⟩)
  have hbox : ∀ r, isBox (upd st.s d sv r) = true → isBox (st.s r) = true ∧ r ≠ d := by
    intro r hr
    simp only [upd] at hr
    split at hr
    · rw [hnb] at hr; cases hr
    · exact ⟨hr, by assumption⟩
  have hbX : ∀ r, isBox (st.s r) = true → G.ad r ∉ fps G.fp D := by
    intro r hr hm
    obtain ⟨c, p, _, hp, hm⟩ := hDin _ hm
    exact h.bo r c p hr hp hm
  have hob : ∀ c sz es, updAll st.o (deadObjs D ++ newObjs news) c = some (sz, es) → (c ∈ news.map (·.1) ∧ (c, (sz, es)) ∈ news) ∨ (c ∉ news.map (·.1) ∧ c ∉ D ∧ st.o c = some (sz, es)) := by
    intro c sz es hc
    rw [updAll_append] at hc
    by_cases hm : c ∈ news.map (·.1)
    · left
      refine ⟨hm, ?_⟩
      obtain ⟨⟨n, p⟩, h1, rfl⟩ := List.mem_map.1 hm
      have h2 : (n, some p) ∈ newObjs news := List.mem_map.2 ⟨(n, p), h1, rfl⟩
      rw [updAll_mem _ _ n (some p) (by rw [newObjs_keys]; exact hnews.once) h2] at hc
      cases hc; exact h1
    · right
      rw [updAll_notMem _ _ _ (by rw [newObjs_keys]; exact hm), updAll_dead] at hc
      by_cases hcD : c ∈ D
      · simp [hcD] at hc
      · simp only [hcD, if_false] at hc; exact ⟨hm, hcD, hc⟩
  have hoX : ∀ c sz es, c ∉ D → st.o c = some (sz, es) → ∀ b ∈ G.fp c, b ∉ fps G.fp D := by
    intro c sz es hcD ho b hb' hm
    obtain ⟨c', p', hc', hp', hm'⟩ := hDin b hm
    exact h.oo c c' _ p' ho hp' (fun e => hcD (e ▸ hc')) b hb' hm'
  have hFnot : ∀ b ∈ F, ¬ Nof κ st G w b := by
    intro b hbF hn
    rcases (hF b hbF).1 with h1 | h1
    · have := hlt b hn; omega
    · exact hNX b hn h1
  have hNw : ∀ b, Nof κ st G w b → Nof κ { s := upd st.s d sv, o := updAll st.o (deadObjs D ++ newObjs news) } G' w' b := by
    intro b hb'
    have hbl := hlt b hb'
    refine ⟨?_, fun hp => ?_⟩
    · rcases hb'.1 with h1 | h1
      · exact .inl h1
      · exact .inr ⟨h1.1, Nat.lt_of_lt_of_le h1.2 hb.size⟩
    · rcases hp with ⟨r, h1, h2⟩ | ⟨c, ⟨sz, es⟩, h1, h2⟩
      · exact hb'.2 (.inl ⟨r, (hbox r h1).1, h2⟩)
      · rcases hob c sz es h1 with ⟨hm, hin⟩ | ⟨hm, _, ho⟩
        · simp only [G', hm, if_true] at h2
          exact hFnot b ((hnews.rep c sz es hin).2.2.2.2 b h2) hb'
        · simp only [G', hm, if_false] at h2
          exact hb'.2 (.inr ⟨c, (sz, es), ho, h2⟩)
  have hNn : ∀ b, N' b → Nof κ { s := upd st.s d sv, o := updAll st.o (deadObjs D ++ newObjs news) } G' w' b := by
    intro b hb'
    rcases hN' b hb' with h1 | ⟨h1, h2, h3⟩
    · exact hNw b h1
    · refine ⟨.inr ⟨?_, h2⟩, fun hp => ?_⟩
      · rcases h1 with h1 | h1
        · exact .inl (by omega)
        · exact (hDlt b h1).1
      · rcases hp with ⟨r, g1, g2⟩ | ⟨c, ⟨sz, es⟩, g1, g2⟩
        · simp only [G'] at g2
          rcases h1 with h1 | h1
          · have := (h.boxes r (hbox r g1).1).2; omega
          · exact hbX r (hbox r g1).1 (g2 ▸ h1)
        · rcases hob c sz es g1 with ⟨hm, hin⟩ | ⟨hm, hcD, ho⟩
          · simp only [G', hm, if_true] at g2
            exact h3 ((hnews.rep c sz es hin).2.2.2.2 b g2)
          · simp only [G', hm, if_false] at g2
            rcases h1 with h1 | h1
            · have := ((h.objs c sz es ho).2.2 b g2).2; omega
            · exact hoX c sz es hcD ho b g2 h1
  have hw : ∀ b, b < w.heap.size → b ∉ fps G.fp D → w'.heap[b]? = w.heap[b]? := hb.block
  refine ⟨G', h.step hd ⟨hb.os, hb.tape, hb.output, hb.size, fun k hk hkL => hw k (by omega) (fun hm => ?_)⟩ hNw (fun b hb' => hw b (hlt b hb') (hNX b hb')) (fun k hk => .inl (by simp [upd, hk])) ?_ ?_ (fun _ _ _ _ _ => rfl) ?_ ?_ ?_ ?_ ?_ ?_ (fun c hc => ?_)⟩
  rotate_right
  · have hm : c ∉ news.map (·.1) := fun hm => by have := (hfresh c hm).1.1; omega
    simp only [G', hm, if_false]
  · rcases (hDlt k hm).1 with h1 | h1
    · omega
    · exact hkL h1
  · have : upd st.s d sv d = sv := upd_same _ _ _
    simp only [this]
    refine hsv _ G' hNn (fun n h1 h2 => ?_)
    simp only [G', hnews.all n h1 h2, if_true]
  · intro k c _ _ hc
    by_cases hm : c ∈ news.map (·.1)
    · rw [(hfresh c hm).2 k] at hc; cases hc
    · simp only [G', hm, if_false]
  · intro k _ _ hbk
    exact ⟨rfl, hw _ (h.boxes k hbk).2 (hbX k hbk)⟩
  · intro c sz es hc
    rcases hob c sz es hc with ⟨hm, hin⟩ | ⟨hm, hcD, ho⟩
    · obtain ⟨g1, g2, g3, g4, g5⟩ := hnews.rep c sz es hin
      simp only [G', hm, if_true]
      refine ⟨RepC.frame hNn (fun _ _ => rfl) _ _ _ (fun _ _ => rfl) g3, g4, fun b hb' => ⟨?_, (hF b (g5 b hb')).2⟩⟩
      rcases (hF b (g5 b hb')).1 with h1 | h1
      · exact .inl (by omega)
      · exact (hDlt b h1).1
    · simp only [G', hm, if_false]
      obtain ⟨g1, g2, g3⟩ := h.objs c sz es ho
      exact ⟨RepC.frame hNw (fun b hb' => hw b (hlt b hb') (hNX b hb')) _ _ _ (fun b hb' => hw b (g3 b hb').2 (hoX c sz es hcD ho b hb')) g1, g2, fun b hb' => ⟨(g3 b hb').1, Nat.lt_of_lt_of_le (g3 b hb').2 hb.size⟩⟩
  · intro r hr
    have := h.boxes r (hbox r hr).1
    exact ⟨this.1, Nat.lt_of_lt_of_le this.2 hb.size⟩
  · exact fun r r' h1 h2 => h.bb r r' (hbox r h1).1 (hbox r' h2).1
  · intro r c ⟨sz, es⟩ h1 h2 hm'
    rcases hob c sz es h2 with ⟨hm, hin⟩ | ⟨hm, hcD, ho⟩
    · simp only [G', hm, if_true] at hm'
      rcases (hF _ ((hnews.rep c sz es hin).2.2.2.2 _ hm')).1 with g1 | g1
      · have g2 := (h.boxes r (hbox r h1).1).2; omega
      · exact hbX r (hbox r h1).1 g1
    · simp only [G', hm, if_false] at hm'
      exact h.bo r c (sz, es) (hbox r h1).1 ho hm'
  · intro c c' ⟨sz, es⟩ ⟨sz', es'⟩ h1 h2 hne b hb1 hb2
    rcases hob c sz es h1 with ⟨hm, hin⟩ | ⟨hm, hcD, ho⟩ <;> rcases hob c' sz' es' h2 with ⟨hm', hin'⟩ | ⟨hm', hcD', ho'⟩
    · simp only [G', hm, hm', if_true] at hb1 hb2
      exact hnews.apart c c' _ _ hin hin' hne b hb1 hb2
    · simp only [G', hm, hm', if_true, if_false] at hb1 hb2
      rcases (hF _ ((hnews.rep c sz es hin).2.2.2.2 _ hb1)).1 with g1 | g1
      · have g2 := ((h.objs c' sz' es' ho').2.2 b hb2).2; omega
      · exact hoX c' sz' es' hcD' ho' b hb2 g1
    · simp only [G', hm, hm', if_true, if_false] at hb1 hb2
      rcases (hF _ ((hnews.rep c' sz' es' hin').2.2.2.2 _ hb2)).1 with g1 | g1
      · have g2 := ((h.objs c sz es ho).2.2 b hb1).2; omega
      · exact hoX c sz es hcD ho b hb1 g1
    · simp only [G', hm, hm', if_false] at hb1 hb2
      exact h.oo c c' _ _ ho ho' hne b hb1 hb2
end Go.Av
