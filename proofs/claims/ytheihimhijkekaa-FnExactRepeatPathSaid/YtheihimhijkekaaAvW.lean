/- A part of the proof: lemmas only; nothing is claimed here beyond what each lemma says. -/
/- A call that writes into what it is handed. -/
import Derived.Test.YtheihimhijkekaaAvV
import Derived.Test.YtheihimhijkekaaAv6u
set_option linter.unusedSimpArgs false
set_option linter.unusedVariables false
set_option linter.defProp false
namespace Go.Av
theorem updAll_setO {ob' : Nat → Option (Nat × List PV)} : ∀ (ns : List Nat) (f : Nat → Option (Nat × List PV)), updAll f (ns.map fun c => (c, ob' c)) = setO ns ob' f
  | [], f => by funext c; simp [updAll, setO]
  | n :: ns, f => by
    simp only [List.map_cons, updAll]
    rw [updAll_setO ns]
    funext c
    simp only [setO, upd, List.mem_cons]
    by_cases h : c ∈ ns
    · simp [h]
    · by_cases e : c = n
      · subst e; simp [h]
      · simp [h, e]
theorem valid_callIO {P : Program} {nt : Nat} {o : Oper} {st : St} {d : Nat} {g : Operand} {args : Array Operand} {tys : Array TypeId} {f : FuncId} {T1 : TypeId} {u : Value} {xs : List CV} {ob' : Nat → Option (Nat × List PV)}
    (hop : o.op = .call { callee := .value g, args := args, argTypes := tys }) (hdst : o.dst = some d) (hd : d < nt)
    (hg : ev P st T1 g = .val (.pv (.clo f []))) (hxs : argCVs P st args.toList tys.toList = xs) (hw : CV.wholes st.o xs = true) (hcl : CV.cleans xs = true) (hn : (CV.namess xs).Nodup) (hw2 : CV.wholes ob' xs = true)
    (hsat : SatIO P f (CV.pvos st.o xs) (CV.pvos ob' xs) (.lit u)) :
    Valid P nt o st { rs := rd g ++ args.toList.flatMap rd, ro := CV.namess xs, us := [(d, .val (.pv (.lit u)))], uo := (CV.namess xs).map fun c => (c, ob' c) } := by
  intro κ st' a w hnt hsame hfresh hR next Q hnext
  obtain ⟨G, hG⟩ := hR
  obtain ⟨hci, hcalls⟩ := hsat
  have hob : ∀ (xs : List CV), (∀ n ∈ CV.namess xs, st'.o n = st.o n) → CV.wholes st'.o xs = CV.wholes st.o xs ∧ CV.pvws st'.o xs = CV.pvws st.o xs ∧ CV.pvos st'.o xs = CV.pvos st.o xs := by
    intro xs hx
    have key : ∀ x : CV, (∀ n ∈ x.names, st'.o n = st.o n) → x.whole st'.o = x.whole st.o ∧ x.pvw st'.o = x.pvw st.o ∧ x.pvo st'.o = x.pvo st.o := by
      intro x
      refine CV.rec (motive_1 := fun x => (∀ n ∈ x.names, st'.o n = st.o n) → x.whole st'.o = x.whole st.o ∧ x.pvw st'.o = x.pvw st.o ∧ x.pvo st'.o = x.pvo st.o)
        (motive_2 := fun xs => (∀ n ∈ CV.namess xs, st'.o n = st.o n) → CV.wholes st'.o xs = CV.wholes st.o xs ∧ CV.pvws st'.o xs = CV.pvws st.o xs ∧ CV.pvos st'.o xs = CV.pvos st.o xs) ?_ ?_ ?_ ?_ ?_ ?_ x
      · intro v _; exact ⟨rfl, rfl, rfl⟩
      · intro n h; have := h n (by simp [CV.names]); exact ⟨by simp [CV.whole, this], by simp [CV.pvw, this], by simp [CV.pvo, this]⟩
      · intro fs ih h; have := ih (by simpa [CV.names] using h); exact ⟨by simpa [CV.whole] using this.1, by simp [CV.pvw, this.2.1], by simp [CV.pvo, this.2.2]⟩
      · intro n _; exact ⟨rfl, rfl, rfl⟩
      · intro _; exact ⟨rfl, rfl, rfl⟩
      · intro y ys i1 i2 h
        have h1 := i1 (fun n hn => h n (by simp [CV.namess, hn]))
        have h2 := i2 (fun n hn => h n (by simp [CV.namess, hn]))
        exact ⟨by simp [CV.wholes, h1.1, h2.1], by simp [CV.pvws, h1.2.1, h2.2.1], by simp [CV.pvos, h1.2.2, h2.2.2]⟩
    induction xs with
    | nil => exact ⟨rfl, rfl, rfl⟩
    | cons y ys ih =>
      have h1 := key y (fun n hn => hx n (by simp [CV.namess, hn]))
      have h2 := ih (fun n hn => hx n (by simp [CV.namess, hn]))
      exact ⟨by simp [CV.wholes, h1.1, h2.1], by simp [CV.pvws, h1.2.1, h2.2.1], by simp [CV.pvos, h1.2.2, h2.2.2]⟩
  obtain ⟨hw', hv', ho'⟩ := hob xs hsame.2
  have hwx : CV.wholes st'.o xs = true := by rw [hw']; exact hw
  have hcv := args_ok (P := P) (st := st) hG args.toList tys.toList (fun k hk => hsame.1 k (by simp only [List.mem_append]; exact .inr hk)) (by rw [hxs]; exact hwx)
  rw [hxs] at hcv
  have hgv := ev_ok (P := P) (T := T1) hG g 0
  rw [ev_congr (fun k hk => hsame.1 k (by simp [hk])), hg] at hgv
  rcases hgv with ⟨hgv, _⟩ | ⟨_, hgv, _⟩
  · simp [CV.isAgg] at hgv
  simp only [RepCV, RepC] at hgv
  obtain ⟨vals, hg1, _, hg3, _⟩ := hgv
  simp at hg1
  simp only [RepCs] at hg3
  obtain ⟨rfl, _⟩ := hg3
  have hrun : (execOp a.eval o).run P w = .ok (.enter f (args.map a.eval)) w := by
    simp [execOp, hop, resolve, hg1, Deferred.ofValue, invoke, run_callFunc hci]
  have harr : args.map a.eval = (args.toList.map a.eval).toArray := by apply Array.ext'; simp
  have hlive : ∀ c ∈ CV.namess xs, (st'.o c).isSome = true := CV.namess_live _ hwx
  have hXlt : ∀ b ∈ fps G.fp (CV.namess xs), b < w.heap.size := by
    intro b hb
    obtain ⟨c, hc, hm⟩ := mem_fps.1 hb
    obtain ⟨p, hp⟩ := Option.isSome_iff_exists.1 (hlive c hc)
    exact ((hG.objs c p.1 p.2 hp).2.2 b hm).2
  have hXn : (fps G.fp (CV.namess xs)).Nodup := fps_nodup hG _ hn hlive
  have hNX : ∀ b, Nof κ st' G w b → b ∉ fps G.fp (CV.namess xs) := by
    intro b hb hm
    obtain ⟨c, hc, hm⟩ := mem_fps.1 hm
    obtain ⟨p, hp⟩ := Option.isSome_iff_exists.1 (hlive c hc)
    exact hb.2 (.inr ⟨c, p, hp, hm⟩)
  have hown := CVals.own (fun c sz es hc => (hG.objs c sz es hc).1) hwx hcv
  rw [ho'] at hown
  unfold Oper.wp
  rw [hrun]
  simp only [Oper.upon]
  rw [harr]
  refine (hcalls w (Nof κ st' G w) _ _ (fun b hb => ⟨hb.lt hG, hNX b hb⟩) hXn hXlt hown).mono ?_
  rintro e w'' ⟨v, F, rfl, hk, hr, hFn, hF, hres⟩
  have hp := CVals.inv (ob := ob') xs _ F hcl hw2 hcv hr hn
  obtain ⟨G', hhd, hG', hN'⟩ := hG.setObjs hlive hk hF hFn hp
  have hv : v = u ∧ u.oneCell' = true := by
    simp only [RepR, RepV, RepC] at hres
    exact ⟨by simpa using hres.1, hres.2.1⟩
  rw [hdst]
  refine hnext _ _ ?_
  have := R.set (sv := .val (.pv (.lit u))) (v := v) (d := d) G' hG' (by rw [hnt]; exact hd) rfl (by rw [hv.1]; exact slotOk_lit hv.2)
  simpa [St.app, updAll, St.set, updAll_setO] using this
end Go.Av
