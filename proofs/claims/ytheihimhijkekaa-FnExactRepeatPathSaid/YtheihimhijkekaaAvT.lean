/- A part of the proof: lemmas only; nothing is claimed here beyond what each lemma says. -/
/- Functions that write into what they are handed: the arguments afterwards. -/
import Derived.Test.YtheihimhijkekaaAvK
set_option linter.unusedSimpArgs false
set_option linter.unusedVariables false
set_option linter.defProp false
namespace Go.Av
/-- Called with these, in whatever memory: it returns this (nothing of its own in it), and what the same arguments hold is then this. -/
def SatIO (P : Program) (f : FuncId) (args args' : List PV) (res : PV) : Prop :=
  CallIs P f ∧ ∀ (w : World) (N : Nat → Prop) (vs : List Value) (Fs : List Nat), (∀ b, N b → b < w.heap.size ∧ b ∉ Fs) → Fs.Nodup → (∀ b ∈ Fs, b < w.heap.size) → RepVs N w args vs Fs →
    Calls P f vs.toArray w fun e w' => ∃ v F, e = .returned v ∧ KeepX Fs w.heap.size w w' ∧
      RepVs (fun b => N b ∨ ((w.heap.size ≤ b ∨ b ∈ Fs) ∧ b < w'.heap.size ∧ b ∉ F)) w' args' vs F ∧ F.Nodup ∧ (∀ b ∈ F, (w.heap.size ≤ b ∨ b ∈ Fs) ∧ b < w'.heap.size) ∧
      RepR (fun b => N b ∨ ((w.heap.size ≤ b ∨ b ∈ Fs) ∧ b < w'.heap.size ∧ b ∉ F)) w' res v []
/-- The state at the beginning: the names that keep their headers. -/
def argIO (args : List PV) : St :=
  { s := fun k => match (explodes args 10000).1[k]? with | some x => .val x | none => .dead, o := updAll (fun _ => none) (newObjs (explodes args 10000).2.1) }
def FinIO (P : Program) (st : St) (rs : List ResultVar) (res : PV) (cvs : List CV) (args' : List PV) : Prop :=
  CV.wholes st.o (resCVs P st rs) = true ∧ resOks P st rs ∧ res = asRes (CV.pvws st.o (resCVs P st rs)) ∧ CV.pures (resCVs P st rs) = true ∧ CV.wholes st.o cvs = true ∧ (CV.namess cvs).Nodup ∧ args' = CV.pvos st.o cvs
theorem SatIO.of_body {P : Program} {f : FuncId} {fn : Func} {c : Code} {args args' : List PV} {res : PV} {nt : Nat} {rs : List ResultVar} (hf : P.funcs[f]? = some fn) (hname : (fn.name == "runtime.NumGoroutine") = false) (hb : fn.body = some c)
    (hnt : fn.ntmps = nt) (hrs : fn.results.toList = rs) (hle : args.length ≤ nt) (h : VC P nt c (argIO args) (fun e st => (e = .normal ∨ e = .ret) ∧ FinIO P st rs res (explodes args 10000).1 args')) : SatIO P f args args' res := by
  refine ⟨⟨fn, hf, hname, by simp [hb]⟩, fun w N vs Fs hN hFn hFl hvs => ?_⟩
  have hlen := repVs_length hvs
  obtain ⟨hdv, fpv, news, hcv⟩ := explodesV_ok args vs Fs 10000 hvs hFn
  have hH : ∀ c v, (c, v) ∈ (explodes args 10000).2.1.map (fun p => (p.1, hdv p.1)) → 10000 ≤ c := by
    intro c v hc
    obtain ⟨p, h1, h2⟩ := List.mem_map.1 hc
    cases h2
    exact (news.rep p.1 p.2.1 p.2.2 h1).1
  let κ : Ctx := { w0 := w, N := N, L := Fs, nt := nt, hN := hN, hL := hFl, held := (explodes args 10000).2.1.map (fun p => (p.1, hdv p.1)), hH := hH }
  let G : Gh := { hd := hdv, fp := fpv, ad := fun _ => 0 }
  have hsz : (vs.toArray ++ Array.replicate (fn.ntmps - vs.toArray.size) undef).size = nt := by simp [hlen, hnt]; omega
  have hob : ∀ c sz es, (argIO args).o c = some (sz, es) → (c, (sz, es)) ∈ (explodes args 10000).2.1 := by
    intro c sz es hc
    simp only [argIO] at hc
    by_cases hm : c ∈ (explodes args 10000).2.1.map (·.1)
    · obtain ⟨⟨n, p⟩, h1, rfl⟩ := List.mem_map.1 hm
      have h2 : (n, some p) ∈ newObjs (explodes args 10000).2.1 := List.mem_map.2 ⟨(n, p), h1, rfl⟩
      rw [updAll_mem _ _ n (some p) (by rw [newObjs_keys]; exact news.once) h2] at hc
      cases hc; exact h1
    · rw [updAll_notMem _ _ _ (by rw [newObjs_keys]; exact hm)] at hc; cases hc
  have hnb : ∀ k, isBox ((argIO args).s k) = false := by intro k; simp only [argIO]; split <;> rfl
  have hpriv : ∀ b, N b → ¬ Priv (argIO args) G b := by
    rintro b hb (⟨r, h1, _⟩ | ⟨c, ⟨sz, es⟩, h1, h2⟩)
    · rw [hnb] at h1; cases h1
    · exact (hN b hb).2 ((news.rep c sz es (hob c sz es h1)).2.2.2.2 b h2)
  have hNof : ∀ b, N b → Nof κ (argIO args) G w b := fun b hb => ⟨.inl hb, hpriv b hb⟩
  have hR : RG κ G (argIO args) { tmps := vs.toArray ++ Array.replicate (fn.ntmps - vs.toArray.size) undef, defers := [] } w := by
    refine ⟨KeepX.refl _ _ _, rfl, hsz, ?_, ?_, fun r hr => (by rw [hnb] at hr; cases hr), fun r _ hr => (by rw [hnb] at hr; cases hr), fun r _ _ hr => (by rw [hnb] at hr; cases hr), ?_, fun c v hc => by
      obtain ⟨p, h1, h2⟩ := List.mem_map.1 hc
      cases h2; rfl⟩
    · intro k
      simp only [argIO]
      cases hk : (explodes args 10000).1[k]? with
      | none => trivial
      | some x =>
        obtain ⟨v, h1, h2⟩ := cvals_at k x (hcv (Nof κ (argIO args) G w) G.hd hNof (fun _ _ _ => rfl)) hk
        have hkl : k < vs.length := (List.getElem?_eq_some_iff.1 h1).1
        have : (vs.toArray ++ Array.replicate (fn.ntmps - vs.toArray.size) undef).getD k undef = v := by
          simp only [Array.getD_eq_getD_getElem?]
          rw [Array.getElem?_append_left (by simpa using hkl)]
          simp [h1]
        rw [this]
        exact h2
    · intro c sz es hc
      obtain ⟨_, _, g3, g4, g5⟩ := news.rep c sz es (hob c sz es hc)
      exact ⟨RepC.frame hNof (fun _ _ => rfl) _ _ _ (fun _ _ => rfl) g3, g4, fun b hb => ⟨.inr (g5 b hb), hFl b (g5 b hb)⟩⟩
    · intro c c' ⟨sz, es⟩ ⟨sz', es'⟩ h1 h2 hne
      exact news.apart c c' _ _ (hob c sz es h1) (hob c' sz' es' h2) hne
  refine calls_of_wp hf hb (h κ _ w rfl ⟨G, hR⟩ _ ?_)
  intro e st' a' w' ⟨he, hw, hok, hres, hpu, hca, hnd, har⟩ ⟨G', hG⟩
  have key : a'.defers = [] ∧ ∃ v, (results fn a'.tmps).run P w' = .ok v w' ∧ ∃ v' F, Ending.returned v = .returned v' ∧ KeepX Fs w.heap.size w w' ∧
      RepVs (fun b => N b ∨ ((w.heap.size ≤ b ∨ b ∈ Fs) ∧ b < w'.heap.size ∧ b ∉ F)) w' args' vs F ∧ F.Nodup ∧ (∀ b ∈ F, (w.heap.size ≤ b ∨ b ∈ Fs) ∧ b < w'.heap.size) ∧
      RepR (fun b => N b ∨ ((w.heap.size ≤ b ∨ b ∈ Fs) ∧ b < w'.heap.size ∧ b ∉ F)) w' res v' [] := by
    obtain ⟨vs', h1, h2⟩ := run_results hG rs hw hok
    have hlive := CV.namess_live _ hca
    refine ⟨hG.defers, (if h : vs'.toArray.size = 1 then vs'.toArray[0] else .tuple vs'.toArray), ?_, (if h : vs'.toArray.size = 1 then vs'.toArray[0] else .tuple vs'.toArray), fps G'.fp (CV.namess (explodes args 10000).1), rfl, hG.keep, ?_, fps_nodup hG _ hnd hlive, ?_, ?_⟩
    · have e1 : fn.results = rs.toArray := by rw [← hrs]
      simp only [results, e1, List.mapM_toArray, Sem.run_bind, Sem.run_map, Sem.run_pure]
      exact congrArg (fun r : Result (List Value) => ((r.andThen fun a w' => .ok a.toArray w').andThen fun a w' => .ok (if h : a.size = 1 then a[0] else Value.tuple a) w')) h1
    · have hhd : ∀ n, 10000 ≤ n → n < (explodes args 10000).2.2 → G'.hd n = hdv n := by
        intro n g1 g2
        obtain ⟨p, h3, h4⟩ := List.mem_map.1 (news.all n g1 g2)
        exact hG.held n (hdv n) (List.mem_map.2 ⟨p, h3, by rw [h4]⟩)
      have hc0 := hcv N G'.hd (fun _ h => h) hhd
      have hc1 : CVals N w' G'.hd (explodes args 10000).1 vs := hc0.frame (fun _ h => h) (fun b hb => hG.keep.block b (hN b hb).1 (hN b hb).2) (fun _ _ => rfl)
      have hown := CVals.own (N := fun b => N b ∨ ((w.heap.size ≤ b ∨ b ∈ Fs) ∧ b < w'.heap.size ∧ b ∉ fps G'.fp (CV.namess (explodes args 10000).1))) (fun c sz es hc => RepC.frame (fun b (hb : Nof κ st' G' w' b) => ?_) (fun _ _ => rfl) _ _ _ (fun _ _ => rfl) (hG.objs c sz es hc).1) hca (hc1.frame (fun _ h => .inl h) (fun _ _ => rfl) (fun _ _ => rfl))
      · rw [har]; exact hown
      · rcases hb.1 with h | h
        · exact .inl h
        · refine .inr ⟨h.1, h.2, fun hm => hb.2 ?_⟩
          obtain ⟨c, hc, hm⟩ := mem_fps.1 hm
          obtain ⟨p, hp⟩ := Option.isSome_iff_exists.1 (hlive c hc)
          exact .inr ⟨c, p, hp, hm⟩
    · intro b hb
      obtain ⟨c, hc, hm⟩ := mem_fps.1 hb
      obtain ⟨⟨sz, es⟩, hp⟩ := Option.isSome_iff_exists.1 (hlive c hc)
      exact (hG.objs c sz es hp).2.2 b hm
    · have hview := cvals_pureView (ob := st'.o) _ _ hpu h2
      have hfr : ∀ b, Nof κ st' G' w' b → N b ∨ ((w.heap.size ≤ b ∨ b ∈ Fs) ∧ b < w'.heap.size ∧ b ∉ fps G'.fp (CV.namess (explodes args 10000).1)) := by
        intro b hb
        rcases hb.1 with h | h
        · exact .inl h
        · refine .inr ⟨h.1, h.2, fun hm => hb.2 ?_⟩
          obtain ⟨c, hc, hm⟩ := mem_fps.1 hm
          obtain ⟨p, hp⟩ := Option.isSome_iff_exists.1 (hlive c hc)
          exact .inr ⟨c, p, hp, hm⟩
      rw [hres]
      exact repR_asRes (repVs_frame hfr (fun _ _ => rfl) (by simp) hview) (pvos_ne hview)
  rcases he with rfl | rfl <;> exact key
theorem SatIO.of_m {P : Program} {nt n : Nat} {f : FuncId} {fn : Func} {c : Code} {args args' : List PV} {res : PV} {rs : List ResultVar} (hf : P.funcs[f]? = some fn) (hname : (fn.name == "runtime.NumGoroutine") = false) (hb : fn.body = some c)
    (hnt : fn.ntmps = nt) (hrs : fn.results.toList = rs) (hle : args.length ≤ nt) (h : Mg P nt (fun st => FinIO P st rs res (explodes args 10000).1 args') n (.code c) (argIO args) []) : SatIO P f args args' res :=
  SatIO.of_body hf hname hb hnt hrs hle (Mg.sound n _ _ _ h)
theorem argIO_eq (args : List PV) : argIO args = ⟨updL 0 (explodes args 10000).1 (fun _ => .dead), updAll (fun _ => none) (newObjs (explodes args 10000).2.1)⟩ := by
  simp only [argIO, St.mk.injEq, and_true]
  funext k
  rw [updL_apply]
  simp only [Nat.not_lt_zero, if_false, Nat.sub_zero]
  cases (explodes args 10000).1[k]? <;> rfl
end Go.Av
