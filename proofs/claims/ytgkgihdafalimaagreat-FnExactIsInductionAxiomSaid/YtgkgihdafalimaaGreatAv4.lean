/- A part of the proof: lemmas only; nothing is claimed here beyond what each lemma says. -/
/- Variables in memory: allocation, reading, writing. -/
import Derived.Test.YtgkgihdafalimaaGreatAv3
set_option linter.unusedSimpArgs false
set_option linter.unusedVariables false
set_option linter.defProp false
namespace Go.Av

/-! ### Parts of a content -/
def CV.parts : CV → List CV
  | .node fs => fs
  | .pv (.agg vs) => vs.map .pv
  | _ => []
def CV.at : CV → List Nat → CV
  | x, [] => x
  | x, k :: ks => (x.parts.getD k default).at ks
def CV.offs : CV → List Nat → Nat
  | _, [] => 0
  | x, k :: ks => CV.sizes (x.parts.take k) + (x.parts.getD k default).offs ks
def CV.okp : CV → List Nat → Bool
  | _, [] => true
  | x, k :: ks => decide (k < x.parts.length) && (x.parts.getD k default).okp ks
def CV.setAt : CV → List Nat → CV → CV
  | _, [], y => y
  | x, k :: ks, y => .node (x.parts.set k ((x.parts.getD k default).setAt ks y))

section
variable {N : Nat → Prop} {w : World} {hd : Nat → Value}

mutual
theorem RepCV.length : ∀ (x : CV) (cs : List Value), RepCV N w hd x cs → cs.length = x.size
  | .pv v, cs, h => by simp only [RepCV] at h; simpa [CV.size] using RepC.length _ _ _ h
  | .own c, cs, h => by simp only [RepCV] at h; simp [h.1, CV.size]
  | .node fs, cs, h => by simp only [RepCV] at h; simpa [CV.size] using RepCVs.length fs cs h
  | .gone n, cs, h => by simp only [RepCV] at h; simp [h.1, CV.size]
theorem RepCVs.length : ∀ (xs : List CV) (cs : List Value), RepCVs N w hd xs cs → cs.length = CV.sizes xs
  | [], cs, h => by simp only [RepCVs] at h; simp [h, CV.sizes]
  | x :: xs, cs, h => by
    simp only [RepCVs] at h
    obtain ⟨c1, c2, h1, h2, h3⟩ := h
    simp [h1, CV.sizes, RepCV.length x c1 h2, RepCVs.length xs c2 h3]
end
mutual
theorem RepCV.one : ∀ (x : CV) (cs : List Value), RepCV N w hd x cs → ∀ u ∈ cs, u.oneCell' = true
  | .pv v, cs, h => by simp only [RepCV] at h; exact RepC.one _ _ _ h
  | .own c, cs, h => by simp only [RepCV] at h; simp [h.1, h.2]
  | .node fs, cs, h => by simp only [RepCV] at h; exact RepCVs.one fs cs h
  | .gone n, cs, h => by simp only [RepCV] at h; exact h.2
theorem RepCVs.one : ∀ (xs : List CV) (cs : List Value), RepCVs N w hd xs cs → ∀ u ∈ cs, u.oneCell' = true
  | [], cs, h => by simp only [RepCVs] at h; simp [h]
  | x :: xs, cs, h => by
    simp only [RepCVs] at h
    obtain ⟨c1, c2, h1, h2, h3⟩ := h
    subst h1
    intro u hu
    rcases List.mem_append.1 hu with hu | hu
    · exact RepCV.one x c1 h2 u hu
    · exact RepCVs.one xs c2 h3 u hu
end

theorem RepCVs.of_pvs : ∀ (vs : List PV) (cs : List Value), RepCs N w vs cs [] → RepCVs N w hd (vs.map .pv) cs
  | [], cs, h => by simp only [RepCs] at h; simp [RepCVs, h.1]
  | v :: vs, cs, h => by
    simp only [RepCs] at h
    obtain ⟨c1, c2, F1, F2, h1, h2, h3, h4⟩ := h
    have e1 : F1 = [] := by have := congrArg List.length h2; simp at this; exact List.eq_nil_of_length_eq_zero (by omega)
    have e2 : F2 = [] := by have := congrArg List.length h2; simp at this; exact List.eq_nil_of_length_eq_zero (by omega)
    subst e1; subst e2
    simp only [List.map_cons, RepCVs]
    exact ⟨c1, c2, h1, by simpa [RepCV] using h3, RepCVs.of_pvs vs c2 h4⟩

theorem RepCV.parts {x : CV} {cs : List Value} (h : RepCV N w hd x cs) (hx : x.parts ≠ []) : RepCVs N w hd x.parts cs := by
  cases x with
  | pv v =>
    cases v with
    | agg vs => simp only [RepCV, RepC] at h; exact RepCVs.of_pvs vs cs h
    | _ => simp [CV.parts] at hx
  | own c => simp [CV.parts] at hx
  | node fs => simpa only [RepCV, CV.parts] using h
  | gone n => simp [CV.parts] at hx

theorem RepCVs.at : ∀ (xs : List CV) (k : Nat) (cs : List Value), k < xs.length → RepCVs N w hd xs cs →
    ∃ c1 c2 c3, cs = c1 ++ c2 ++ c3 ∧ c1.length = CV.sizes (xs.take k) ∧ RepCV N w hd (xs.getD k default) c2 ∧ ∀ y c2', RepCV N w hd y c2' → RepCVs N w hd (xs.set k y) (c1 ++ c2' ++ c3)
  | [], _, _, hk, _ => by simp at hk
  | x :: xs, 0, cs, _, h => by
    simp only [RepCVs] at h
    obtain ⟨c1, c2, h1, h2, h3⟩ := h
    refine ⟨[], c1, c2, by simpa using h1, by simp [CV.sizes], by simpa using h2, fun y c2' hy => ?_⟩
    simp only [List.set_cons_zero, RepCVs]
    exact ⟨c2', c2, by simp, hy, h3⟩
  | x :: xs, k + 1, cs, hk, h => by
    simp only [RepCVs] at h
    obtain ⟨c1, c2, h1, h2, h3⟩ := h
    obtain ⟨d1, d2, d3, e1, e2, e3, e4⟩ := RepCVs.at xs k c2 (by simpa using hk) h3
    refine ⟨c1 ++ d1, d2, d3, by simp [h1, e1], by simp [CV.sizes, e2, RepCV.length x c1 h2], by simpa using e3, fun y c2' hy => ?_⟩
    simp only [List.set_cons_succ, RepCVs]
    exact ⟨c1, d1 ++ c2' ++ d3, by simp, h2, e4 y c2' hy⟩

theorem RepCV.path : ∀ (p : List Nat) (x : CV) (cs : List Value), x.okp p = true → RepCV N w hd x cs →
    ∃ c1 c2 c3, cs = c1 ++ c2 ++ c3 ∧ c1.length = x.offs p ∧ RepCV N w hd (x.at p) c2 ∧ ∀ y c2', RepCV N w hd y c2' → RepCV N w hd (x.setAt p y) (c1 ++ c2' ++ c3)
  | [], x, cs, _, h => ⟨[], cs, [], by simp, by simp [CV.offs], by simpa [CV.at] using h, fun y c2' hy => by simpa [CV.setAt] using hy⟩
  | k :: ks, x, cs, hp, h => by
    simp only [CV.okp, Bool.and_eq_true, decide_eq_true_eq] at hp
    have hne : x.parts ≠ [] := by intro e; rw [e] at hp; simp at hp
    obtain ⟨c1, c2, c3, e1, e2, e3, e4⟩ := RepCVs.at x.parts k cs hp.1 (h.parts hne)
    obtain ⟨d1, d2, d3, f1, f2, f3, f4⟩ := RepCV.path ks _ c2 hp.2 e3
    refine ⟨c1 ++ d1, d2, d3 ++ c3, by simp [e1, f1], by simp [CV.offs, e2, f2], by simpa [CV.at] using f3, fun y c2' hy => ?_⟩
    have := e4 _ _ (f4 y c2' hy)
    simp only [CV.setAt, RepCV]
    simpa using this
end

/-! ### Types -/
def TyIs (P : Program) (T : TypeId) (agg : Bool) (n : Nat) : Prop :=
  ∃ d i, P.underlying T = some d ∧ P.info? T = some i ∧ i.size = n ∧ (match d with | .struct _ | .array _ _ => true | _ => false) = agg

theorem run_isAgg {P : Program} {T : TypeId} {agg : Bool} {n : Nat} (h : TyIs P T agg n) (w : World) : (isAgg T).run P w = .ok agg w := by
  obtain ⟨d, i, h1, h2, h3, h4⟩ := h
  simp only [isAgg, Sem.run_bind, run_underlying h1, Result.andThen_ok]
  subst h4
  cases d <;> rfl
theorem run_sizeOf {P : Program} {T : TypeId} {agg : Bool} {n : Nat} (h : TyIs P T agg n) (w : World) : (sizeOf T).run P w = .ok n w := by
  obtain ⟨d, i, h1, h2, h3, h4⟩ := h
  simp [sizeOf, typeInfo, h2, h3]

theorem rowAt_add {w : World} {a : Addr} {cs : List Value} (ha : a.spot = none) (h : RowAt w a cs) : ∀ j u, cs[j]? = some u → w.cell? (a.add j) = some u := by
  intro j u hu; rw [add_off a j ha]; exact h j u hu

/-- What a load gives: a whole value whose cells stand there. -/
theorem run_loadVar {P : Program} {T : TypeId} {N : Nat → Prop} {w : World} {hd : Nat → Value} {a : Addr} {x : CV} {cs : List Value} (ht : TyIs P T x.isAgg x.size) (ha : a.spot = none) (hr : RowAt w a cs)
    (hx : RepCV N w hd x cs) (hg : ∀ n, x ≠ .gone n) : ∃ v, (loadVar T a).run P w = .ok v w ∧ CVal N w hd x v := by
  have hl := RepCV.length x cs hx
  have h1 := RepCV.one x cs hx
  cases hA : x.isAgg with
  | true =>
    rw [hA] at ht
    refine ⟨.agg cs.toArray, ?_, .inl ⟨hA, cs, rfl, hx⟩⟩
    have := run_loadCells_list (P := P) w a cs (rowAt_add ha hr)
    rw [hl] at this
    simp [loadVar, run_isAgg ht, run_sizeOf ht, this]
  | false =>
    rw [hA] at ht
    have hs : x.size = 1 := by
      cases x with
      | pv v => cases v <;> first | rfl | (simp [CV.isAgg] at hA; done) | (simp [RepCV, RepC] at hx)
      | own c => rfl
      | node fs => simp [CV.isAgg] at hA
      | gone n => exact absurd rfl (hg n)
    rw [hs] at hl
    obtain ⟨v, rfl⟩ := List.length_eq_one_iff.1 hl
    have hc := hr 0 v (by simp)
    simp only [Nat.add_zero] at hc
    refine ⟨v, ?_, .inr ⟨hA, hx, h1 v (by simp)⟩⟩
    have hc' : w.cell? a = some v := by cases a; simp only at ha; subst ha; exact hc
    simp [loadVar, run_isAgg ht, hc']

theorem rowAt_of_block {w : World} {b : Nat} {c1 c2 c3 : List Value} {e : TypeId} {fr : Nat × Nat} (h : w.heap[b]? = some (.cells (c1 ++ c2 ++ c3).toArray e fr)) : RowAt w ⟨b, c1.length, none⟩ c2 := by
  intro j u hu
  have hj := (List.getElem?_eq_some_iff.1 hu).1
  simp only [World.cell?, h, Option.isSome_none, Bool.false_eq_true, if_false]
  rw [List.getElem?_toArray, List.append_assoc, List.getElem?_append_right (by omega), Nat.add_sub_cancel_left, List.getElem?_append_left hj]
  exact hu

/-- Reading a variable, or a part of one. -/
theorem valid_load_box {P : Program} {nt : Nat} {o : Oper} {st : St} {d r off : Nat} {p : List Nat} {x : Operand} {T T1 : TypeId} {c : CV} (hop : o.op = .load T x) (hdst : o.dst = some d) (hd : d < nt)
    (hx : ev P st T1 x = .bptr r p off) (hr : st.s r = .box c) (hok : c.okp p = true) (hoff : c.offs p = off) (ht : TyIs P T (c.at p).isAgg (c.at p).size) (hg : ∀ n, c.at p ≠ .gone n) :
    Valid P nt o st { rs := r :: rd x, us := [(d, .val (c.at p))] } := by
  refine valid_pure (rs := r :: rd x) (ro := []) hdst hd rfl ?_
  intro κ G st' a w _ hsame hG
  have h1 := ev_ok (P := P) (T := T1) hG x d
  rw [ev_congr (fun k hk => hsame.1 k (by simp [hk])), hx] at h1
  simp only [SlotOk] at h1
  have h2 := hG.slots r
  rw [hsame.1 r (by simp), hr] at h2
  obtain ⟨_, cs, e, h3, h4⟩ := h2
  obtain ⟨c1, c2, c3, e1, e2, e3, _⟩ := RepCV.path p c cs hok h4
  subst e1
  have hrow := rowAt_of_block h3
  rw [e2, hoff] at hrow
  obtain ⟨v, hv1, hv2⟩ := run_loadVar ht rfl hrow e3 hg
  exact ⟨v, by simp [execOp, hop, h1, Instr.loadAt, Instr.sureAddr, hv1], hv2⟩

/-- Reading behind a pointer to memory that stays. -/
theorem valid_load_ptr {P : Program} {nt : Nat} {o : Oper} {st : St} {d : Nat} {x : Operand} {T T1 : TypeId} {v : PV} (hop : o.op = .load T x) (hdst : o.dst = some d) (hd : d < nt)
    (hx : ev P st T1 x = .val (.pv (.ptr v))) (ht : TyIs P T (CV.pv v).isAgg v.size) :
    Valid P nt o st { rs := rd x, us := [(d, .val (.pv v))] } := by
  refine valid_pure hdst hd rfl ?_
  intro κ G st' a w _ hsame hG
  have h1 := ev_ok (P := P) (T := T1) hG x d
  rw [ev_congr hsame.1, hx] at h1
  rcases h1 with ⟨h1, _⟩ | ⟨_, h2, _⟩
  · simp [CV.isAgg] at h1
  · simp only [RepCV, RepC] at h2
    obtain ⟨ad, ccs, g1, _, g3, g4, g5, g6⟩ := h2
    simp at g1
    obtain ⟨u, hv1, hv2⟩ := run_loadVar (P := P) (hd := G.hd) (x := .pv v) (N := Nof κ st' G w) ht g3 g5 (by simpa [RepCV] using g6) (fun n => by simp)
    exact ⟨u, by simp [execOp, hop, g1, Instr.loadAt, Instr.sureAddr, hv1], hv2⟩

/-! ### A new variable -/
def ZeroIs (P : Program) (T : TypeId) (x : CV) : Prop := ∃ i z, P.info? T = some i ∧ i.zero = some z ∧ ∀ N w hd, CVal N w hd x z

theorem cval_cells {N : Nat → Prop} {w : World} {hd : Nat → Value} {x : CV} {v : Value} (h : CVal N w hd x v) : RepCV N w hd x v.cells.toList := by
  rcases h with ⟨_, cs, rfl, h⟩ | ⟨_, h, h1⟩
  · simpa [Value.cells] using h
  · cases v <;> first | (simp [Value.oneCell'] at h1; done) | exact h

theorem heap_push_lt {w : World} {o : Obj} {b : Nat} (h : b < w.heap.size) : (w.alloc o).heap[b]? = w.heap[b]? := by
  exact heap_alloc_old w o h
theorem heap_push_eq {w : World} {o : Obj} : (w.alloc o).heap[w.heap.size]? = some o := heap_alloc_new w o

/-- A new block for the variable in slot 'd'. -/
theorem R.newBox {κ : Ctx} {st : St} {a : Act} {w : World} {d : Nat} {x : CV} {e : TypeId} {cs : List Value} (G : Gh) (h : RG κ G st a w) (hd : d < κ.nt) (hf : st.noR d)
    (hx : ∀ N w', (∀ b, Nof κ st G w b → N b) → (∀ b, Nof κ st G w b → w'.heap[b]? = w.heap[b]?) → RepCV N w' G.hd x cs) :
    R κ (st.set d (.box x)) (a.put (some d) (.pointer (some ⟨w.heap.size, 0, none⟩))) (w.alloc (.cells cs.toArray e)) := by
  have hbs := h.keep.size
  let G' : Gh := { G with ad := upd G.ad d w.heap.size }
  have hlt : ∀ b, Nof κ st G w b → b < w.heap.size := fun b hb => hb.lt h
  have hbox : ∀ r, isBox ((st.set d (.box x)).s r) = true → r = d ∨ (r ≠ d ∧ isBox (st.s r) = true) := by
    intro r hr
    by_cases hrd : r = d
    · exact .inl hrd
    · simp only [St.set, upd, if_neg hrd] at hr; exact .inr ⟨hrd, hr⟩
  have had : ∀ r, r ≠ d → G'.ad r = G.ad r := fun r hr => upd_ne hr
  have hadd : G'.ad d = w.heap.size := upd_same _ _ _
  have hN : ∀ b, Nof κ st G w b → Nof κ (st.set d (.box x)) G' (w.alloc (.cells cs.toArray e)) b := by
    intro b hb
    refine ⟨?_, fun hp => ?_⟩
    · rcases hb.1 with h1 | h1
      · exact .inl h1
      · exact .inr ⟨h1.1, by simp; omega⟩
    · rcases hp with ⟨r, h1, h2⟩ | ⟨c, p, h1, h2⟩
      · rcases hbox r h1 with rfl | ⟨h3, h4⟩
        · rw [hadd] at h2; have := hlt b hb; omega
        · rw [had r h3] at h2; exact hb.2 (.inl ⟨r, h4, h2⟩)
      · exact hb.2 (.inr ⟨c, p, h1, h2⟩)
  have hw : ∀ b, b < w.heap.size → (w.alloc (.cells cs.toArray e)).heap[b]? = w.heap[b]? := fun b hb => heap_push_lt hb
  refine ⟨G', h.step hd (.of_below ((RowKit.Below.refl _ _).alloc hbs _)) hN (fun b hb => hw b (hlt b hb)) (fun k hk => .inl (by simp [St.set, upd, hk])) ?_ (fun _ _ _ _ _ => rfl) ?_ ?_ ?_ ?_ ?_ ?_ ?_ (fun _ _ => rfl)⟩
  · have : (st.set d (.box x)).s d = .box x := by simp [St.set, upd]
    rw [this]
    refine ⟨by rw [hadd], cs, e, by rw [hadd]; exact heap_push_eq, hx _ _ hN (fun b hb => hw b (hlt b hb))⟩
  · intro k r _ _ hr
    refine had r (fun e => ?_)
    subst e
    rw [hf k] at hr; cases hr
  · intro k hk _ hb
    exact ⟨had k hk, hw _ (h.boxes k hb).2⟩
  · intro c sz es hc
    obtain ⟨h1, h2, h3⟩ := h.objs c sz es hc
    exact ⟨RepC.frame hN (fun b hb => hw b (hlt b hb)) _ _ _ (fun b hb => hw b (h3 b hb).2) h1, h2, fun b hb => ⟨(h3 b hb).1, by simp; have := (h3 b hb).2; omega⟩⟩
  · intro r hr
    rcases hbox r hr with rfl | ⟨h3, h4⟩
    · rw [hadd]; exact ⟨.inl hbs, by simp⟩
    · rw [had r h3]; have := h.boxes r h4; exact ⟨this.1, by simp; omega⟩
  · intro r r' h1 h2 he
    rcases hbox r h1 with rfl | ⟨h3, h4⟩ <;> rcases hbox r' h2 with rfl | ⟨h5, h6⟩
    · rfl
    · rw [hadd, had r' h5] at he; have := (h.boxes r' h6).2; omega
    · rw [hadd, had r h3] at he; have := (h.boxes r h4).2; omega
    · rw [had r h3, had r' h5] at he; exact h.bb r r' h4 h6 he
  · intro r c p h1 h2 hm
    rcases hbox r h1 with rfl | ⟨h3, h4⟩
    · rw [hadd] at hm; have := ((h.objs c p.1 p.2 h2).2.2 _ hm).2; omega
    · rw [had r h3] at hm; exact h.bo r c p h4 h2 hm
  · exact fun c c' p p' h1 h2 => h.oo c c' p p' h1 h2

theorem valid_alloc {P : Program} {nt : Nat} {o : Oper} {st : St} {d : Nat} {T : TypeId} {x : CV} (hop : o.op = .alloc T) (hdst : o.dst = some d) (hd : d < nt) (hz : ZeroIs P T x) :
    Valid P nt o st { fr := [d], us := [(d, .box x)] } := by
  intro κ st' a w hnt _ hfresh hR next Q hnext
  obtain ⟨G, hG⟩ := hR
  obtain ⟨i, z, h1, h2, h3⟩ := hz
  unfold Oper.wp
  have hrun : (execOp a.eval o).run P w = .ok (.value (.pointer (some ⟨w.heap.size, 0, none⟩))) (w.alloc (.cells z.cells T)) := by
    simp [execOp, hop, Instr.alloc, zeroValue, typeInfo, h1, h2, newVar, newRow]
  rw [hrun]
  simp only [Oper.upon]
  rw [hdst]
  refine hnext _ _ ?_
  have := R.newBox (x := x) (e := T) (cs := z.cells.toList) G hG (by rw [hnt]; exact hd) (hfresh.1 d (by simp)) (fun N w' _ _ => cval_cells (h3 N w' G.hd))
  simpa [St.app, updAll, St.set] using this

theorem valid_box {P : Program} {nt : Nat} {o : Oper} {st : St} {d : Nat} {T T1 : TypeId} {x : CV} {y : Operand} (hop : o.op = .box T y) (hdst : o.dst = some d) (hd : d < nt) (hy : ev P st T1 y = .val x) :
    Valid P nt o st { rs := rd y, fr := [d], us := [(d, .box x)] } := by
  intro κ st' a w hnt hsame hfresh hR next Q hnext
  obtain ⟨G, hG⟩ := hR
  have h1 := ev_ok (P := P) (T := T1) hG y d
  rw [ev_congr hsame.1, hy] at h1
  have hc := cval_cells h1
  unfold Oper.wp
  have hrun : (execOp a.eval o).run P w = .ok (.value (.pointer (some ⟨w.heap.size, 0, none⟩))) (w.alloc (.cells (a.eval y).cells T)) := by
    simp [execOp, hop, Instr.box, newVar, newRow]
  rw [hrun]
  simp only [Oper.upon]
  rw [hdst]
  refine hnext _ _ ?_
  have := R.newBox (x := x) (e := T) (cs := (a.eval y).cells.toList) G hG (by rw [hnt]; exact hd) (hfresh.1 d (by simp)) (fun N w' hN hw => RepCV.frame hN hw _ _ (fun _ _ => rfl) hc)
  simpa [St.app, updAll, St.set] using this

/-! ### Writing a variable, or a part of one -/
theorem run_storeVar {P : Program} {T : TypeId} {agg : Bool} {v : Value} {w : World} {b off : Nat} {c1 c2 c3 : List Value} {e : TypeId} (ht : TyIs P T agg v.cells.size) (hb : w.heap[b]? = some (.cells (c1 ++ c2 ++ c3).toArray e (0, 0)))
    (ho : c1.length = off) (hl : c2.length = v.cells.size) (h1 : ∀ u ∈ v.cells.toList, u.oneCell' = true) :
    (storeVar T ⟨b, off, none⟩ v).run P w = .ok () (w.setRow b (c1 ++ v.cells.toList ++ c3).toArray) := by
  have := run_storeCells_at P b off e v.cells.toList 0 _ w hb (by simp; omega) h1
  simp only [storeVar, Sem.run_bind, run_sizeOf ht, Result.andThen_ok, ne_eq, not_true_eq_false, if_false]
  simp only [Nat.add_zero] at this
  rw [this]
  congr 3
  subst ho
  have e1 : (c1 ++ c2 ++ c3).take c1.length = c1 := by simp [List.append_assoc]
  have e2 : (c1 ++ c2 ++ c3).drop (c1.length + v.cells.toList.length) = c3 := by
    have : v.cells.toList.length = c2.length := by simp [hl]
    rw [this, ← List.length_append]; exact List.drop_left
  simp only [List.toList_toArray, e1, e2]

theorem act_put_none (a : Act) (v : Value) : a.put none v = a := rfl

/-- A part of a variable gets a new content. -/
theorem R.setBox {κ : Ctx} {st : St} {a : Act} {w : World} {r : Nat} {c : CV} {p : List Nat} {y : CV} {c2' : List Value} (G : Gh) (h : RG κ G st a w) (hr : st.s r = .box c) (hok : c.okp p = true)
    (hy : RepCV (Nof κ st G w) w G.hd y c2') (hlen : c2'.length = (c.at p).size) :
    ∃ c1 c2 c3 e, w.heap[G.ad r]? = some (.cells (c1 ++ c2 ++ c3).toArray e (0, 0)) ∧ c1.length = c.offs p ∧ c2.length = c2'.length ∧
      R κ (st.set r (.box (c.setAt p y))) a (w.setRow (G.ad r) (c1 ++ c2' ++ c3).toArray) := by
  have hbr : isBox (st.s r) = true := by rw [hr]; rfl
  have h2 := h.slots r
  rw [hr] at h2
  obtain ⟨hp0, cs, e, h3, h4⟩ := h2
  obtain ⟨c1, c2, c3, e1, e2, e3, e4⟩ := RepCV.path p c cs hok h4
  subst e1
  have hl2 : c2.length = c2'.length := by rw [hlen]; exact RepCV.length _ _ e3
  refine ⟨c1, c2, c3, e, h3, e2, hl2, G, ?_⟩
  have hsz : (w.setRow (G.ad r) (c1 ++ c2' ++ c3).toArray).heap.size = w.heap.size := by simp [World.setRow]
  have hother : ∀ b, b ≠ G.ad r → (w.setRow (G.ad r) (c1 ++ c2' ++ c3).toArray).heap[b]? = w.heap[b]? := fun b hb => setRow_other w _ _ _ hb
  have hbox : ∀ k, isBox ((st.set r (.box (c.setAt p y))).s k) = isBox (st.s k) := by
    intro k
    simp only [St.set, upd]
    split
    · rename_i e; subst e; rw [hbr]; rfl
    · rfl
  have hpriv : ∀ b, Priv (st.set r (.box (c.setAt p y))) G b ↔ Priv st G b := by
    intro b
    simp only [Priv, hbox]
    rfl
  have hN : ∀ b, Nof κ st G w b → Nof κ (st.set r (.box (c.setAt p y))) G (w.setRow (G.ad r) (c1 ++ c2' ++ c3).toArray) b := by
    intro b hb
    refine ⟨?_, fun hp => hb.2 ((hpriv b).1 hp)⟩
    rcases hb.1 with h1 | h1
    · exact .inl h1
    · exact .inr (by rw [hsz]; exact h1)
  have hNe : ∀ b, Nof κ st G w b → b ≠ G.ad r := fun b hb e => hb.2 (.inl ⟨r, hbr, e⟩)
  have hw : ∀ b, Nof κ st G w b → (w.setRow (G.ad r) (c1 ++ c2' ++ c3).toArray).heap[b]? = w.heap[b]? := fun b hb => hother b (hNe b hb)
  have hrn : r < κ.nt := by
    rcases Nat.lt_or_ge r κ.nt with h' | h'
    · exact h'
    · rw [Array.getD_eq_getD_getElem?, Array.getElem?_eq_none (by rw [h.nt]; exact h')] at hp0
      simp [undef] at hp0
  have hput : a = a.put (some r) (a.tmps.getD r undef) := by
    have hlt : r < a.tmps.size := by rw [h.nt]; exact hrn
    cases a with
    | mk t ds =>
      simp only [Act.put, Act.mk.injEq, and_true]
      apply Array.ext_getElem?
      intro i
      rw [Array.getElem?_setIfInBounds]
      split
      · rename_i hi; subst hi; simp [Array.getD_eq_getD_getElem?]
      · rfl
  rw [hput]
  refine h.step hrn ⟨rfl, rfl, rfl, by rw [hsz]; exact Nat.le_refl _, fun k hk hkL => hother k (fun e => (h.boxes r hbr).1.elim (fun h1 => by omega) (fun h1 => hkL (e ▸ h1)))⟩ hN hw (fun k hk => .inl (by simp [St.set, upd, hk])) ?_ (fun _ _ _ _ _ => rfl) (fun _ _ _ _ _ => rfl) ?_ ?_ ?_ ?_ ?_ ?_ (fun _ _ => rfl)
  · have : (st.set r (.box (c.setAt p y))).s r = .box (c.setAt p y) := by simp [St.set, upd]
    rw [this]
    refine ⟨hp0, _, e, setRow_heap w _ _ _ _ _ h3, ?_⟩
    exact RepCV.frame hN hw _ _ (fun _ _ => rfl) (e4 y c2' hy)
  · intro k hk _ hb
    exact ⟨rfl, hother _ (fun e => hk (h.bb k r hb hbr e))⟩
  · intro c' sz es hc
    obtain ⟨h1, h2, h5⟩ := h.objs c' sz es hc
    exact ⟨RepC.frame hN hw _ _ _ (fun b hb => hother b (fun e => h.bo r c' _ hbr hc (e ▸ hb))) h1, h2, by rw [hsz]; exact h5⟩
  · intro k hk; rw [hbox] at hk; rw [hsz]; exact h.boxes k hk
  · intro k k' h1 h2; rw [hbox] at h1 h2; exact h.bb k k' h1 h2
  · intro k c' p' h1 h2; rw [hbox] at h1; exact h.bo k c' p' h1 h2
  · exact fun c1 c2 p1 p2 h1 h2 => h.oo c1 c2 p1 p2 h1 h2

theorem valid_store_box {P : Program} {nt : Nat} {o : Oper} {st : St} {r off : Nat} {p : List Nat} {x y : Operand} {T T1 T2 : TypeId} {c z : CV} (hop : o.op = .store T x y) (hdst : o.dst = none)
    (hx : ev P st T1 x = .bptr r p off) (hr : st.s r = .box c) (hok : c.okp p = true) (hoff : c.offs p = off) (hy : ev P st T2 y = .val z) (ht : TyIs P T z.isAgg z.size) (hs : z.size = (c.at p).size) :
    Valid P nt o st { rs := r :: (rd x ++ rd y), us := [(r, .box (c.setAt p z))] } := by
  intro κ st' a w hnt hsame _ hR next Q hnext
  obtain ⟨G, hG⟩ := hR
  have h1 := ev_ok (P := P) (T := T1) hG x 0
  rw [ev_congr (fun k hk => hsame.1 k (by simp [hk])), hx] at h1
  simp only [SlotOk] at h1
  have h2 := ev_ok (P := P) (T := T2) hG y 0
  rw [ev_congr (fun k hk => hsame.1 k (by simp [hk])), hy] at h2
  have hcell := cval_cells h2
  have hsz : (a.eval y).cells.size = z.size := by have := RepCV.length _ _ hcell; simpa using this
  have hr' : st'.s r = .box c := by rw [hsame.1 r (by simp)]; exact hr
  obtain ⟨c1, c2, c3, e, g1, g2, g3, g4⟩ := R.setBox G hG hr' hok hcell (by rw [← hs, ← hsz]; simp)
  unfold Oper.wp
  have hrun : (execOp a.eval o).run P w = .ok .skip (w.setRow (G.ad r) (c1 ++ (a.eval y).cells.toList ++ c3).toArray) := by
    have := run_storeVar (P := P) (T := T) (agg := z.isAgg) (v := a.eval y) (off := off) (by rw [hsz]; exact ht) g1 (by rw [g2, hoff]) (by rw [g3]; simp) (RepCV.one _ _ hcell)
    simp [execOp, hop, h1, Instr.storeAt, Instr.sureAddr, this]
  rw [hrun]
  simp only [Oper.upon]
  rw [hdst, act_put_none]
  refine hnext _ _ ?_
  simpa [St.app, updAll, St.set] using g4
end Go.Av
