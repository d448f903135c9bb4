/- A part of the proof: lemmas only; nothing is claimed here beyond what each lemma says. -/
/- Functions that write into what they are handed: their calls, their ends, and regions step by step (an element's own slice handed on). -/
import Derived.Test.YtgkgihdafalimaaGreatAvW
import Derived.Test.YtgkgihdafalimaaGreatAvN
set_option linter.unusedSimpArgs false
set_option linter.unusedVariables false
set_option linter.defProp false
namespace Go.Av
/-! ### The caller's side, for simp -/
theorem FinIO.mk {P : Program} {st : St} {rs : List ResultVar} {res : PV} {cvs : List CV} {args' : List PV} (h : CV.wholes st.o (resCVs P st rs) = true ∧ resOks P st rs ∧ res = asRes (CV.pvws st.o (resCVs P st rs)) ∧ CV.pures (resCVs P st rs) = true ∧ CV.wholes st.o cvs = true ∧ (CV.namess cvs).Nodup ∧ args' = CV.pvos st.o cvs) : FinIO P st rs res cvs args' := h
@[congr] theorem FinIO.cg {P : Program} {st st' : St} {rs : List ResultVar} {res : PV} {cvs : List CV} {args' : List PV} (h : ∀ _ : Unit, st = st') : FinIO P st rs res cvs args' = FinIO P st' rs res cvs args' := by rw [h ()]

/-! ### Regions, step by step -/
section
variable {P : Program} {nt : Nat} {ops : Array Oper} {i : Nat} {st : St} {K : St → Prop}
def VSeq (P : Program) (nt : Nat) (ops : Array Oper) (i : Nat) (st : St) (K : St → Prop) : Prop :=
  ∀ κ a w, κ.nt = nt → R κ st a w → ∀ Q : Exit → Act → World → Prop, (∀ st' a' w', K st' → R κ st' a' w' → Q .normal a' w') → wpOps P ops Q (List.range' i (ops.size - i)) a w
theorem VSeq.nil (hi : ops.size ≤ i) (h : K st) : VSeq P nt ops i st K := by
  intro κ a w hnt hR Q hQ
  have e : ops.size - i = 0 := by omega
  rw [e]
  exact hQ _ _ _ h hR
theorem VSeq.one {o : Oper} (ho : ops[i]? = some o) (h : stepG P nt ops st o fun r => VSeq P nt ops (i + 1) (st.app r) K) : VSeq P nt ops i st K := by
  intro κ a w hnt hR Q hQ
  have hi : i < ops.size := (Array.getElem?_eq_some_iff.1 ho).1
  have e : ops.size - i = (ops.size - (i + 1)) + 1 := by omega
  rw [e, List.range'_succ, wpOps_cons]
  obtain ⟨r, h1, h2, h3⟩ := stepG_ok ho h
  exact h1 κ _ a w hnt (Rec.same_refl _ _) h2 hR _ _ (fun a' w' hR' => h3 κ a' w' hnt hR' Q hQ)
def stepV (P : Program) (nt : Nat) (ops : Array Oper) (i : Nat) (st : St) (K : St → Prop) : Option Oper → Prop
  | some o => stepG P nt ops st o fun r => VSeq P nt ops (i + 1) (st.app r) K
  | none => False
@[congr] theorem stepV.cg {st' : St} {x x' : Option Oper} (h : ∀ _ : Unit, st = st') (h' : ∀ _ : Unit, x = x') : stepV P nt ops i st K x = stepV P nt ops i st' K x' := by rw [h (), h' ()]
theorem stepV_some (o : Oper) (s : Nat → SlotV) (ob : Nat → Option (Nat × List PV)) : stepV P nt ops i ⟨s, ob⟩ K (some o) = stepG P nt ops ⟨s, ob⟩ o fun r => VSeq P nt ops (i + 1) (St.app ⟨s, ob⟩ r) K := rfl
@[congr] theorem VSeq.cg {st' : St} (h : ∀ _ : Unit, st = st') : VSeq P nt ops i st K = VSeq P nt ops i st' K := by rw [h ()]
theorem VSeq.step (h : stepV P nt ops i st K ops[i]?) : VSeq P nt ops i st K := by
  cases ho : ops[i]? with
  | none => rw [ho] at h; exact h.elim
  | some o => rw [ho] at h; exact VSeq.one ho h
theorem VSeq.sound {id : Nat} {Q : Exit → St → Prop} (h : VSeq P nt ops 0 st K) (hK : ∀ st', K st' → Q .normal st') : VC P nt (.region id ops false) st Q := by
  intro κ a w hnt hR Qc hQ
  refine wp_region ?_
  have := h κ a w hnt hR Qc (fun st' a' w' hk hR' => hQ _ _ _ _ (hK _ hk) hR')
  rwa [List.range_eq_range', ← Nat.sub_zero ops.size]

end

/-! ### The machine over frames, with regions step by step -/
def MgI (P : Program) (nt : Nat) (F : St → Prop) : Nat → Ctl → St → List Fr → Prop
  | 0, _, _, _ => False
  | n + 1, .code c, st, k => match c with
    | .seq x y => MgI P nt F n (.code x) st (.sq y :: k)
    | .skip => MgI P nt F n .nrm st k
    | .exit id => MgI P nt F n (.ex id) st k
    | .ret => MgI P nt F n .rt st k
    | .block id x => MgI P nt F n (.code x) st (.bl id :: k)
    | .region _ ops dr => if dr then P.follows .mixedOrders = true ∧ wpD P nt ops ops.toList st [] (fun recs st' => DrawH ops st recs .mk .mk .mk ∧ MgI P nt F n .nrm st' k)
      else VSeq P nt ops 0 st (fun st' => MgI P nt F n .nrm st' k)
    | .cond c x y => boolOf (ev P st 0 c) fun b => CondH b (MgI P nt F n (.code x) st k) (MgI P nt F n (.code y) st k) .mk .mk
    | c => VC P nt c st (popQ P nt F k)
  | n + 1, .nrm, st, k => match k with
    | [] => F st
    | .sq y :: k => MgI P nt F n (.code y) st k
    | .bl _ :: k => MgI P nt F n .nrm st k
    | .rd φ :: _ => φ st
  | n + 1, .ex id, st, k => match k with
    | [] => False
    | .sq _ :: k => MgI P nt F n (.ex id) st k
    | .bl id' :: k => if id = id' then MgI P nt F n .nrm st k else MgI P nt F n (.ex id) st k
    | .rd _ :: k => MgI P nt F n (.ex id) st k
  | n + 1, .rt, st, k => match k with
    | [] => F st
    | _ :: k => MgI P nt F n .rt st k
section
variable {P : Program} {nt : Nat} {F : St → Prop} {n : Nat} {st : St} {k : List Fr}
theorem MgI.sound : ∀ (n : Nat) (c : Ctl) (st : St) (k : List Fr), MgI P nt F n c st k → c.means P nt st (popQ P nt F k)
  | 0, _, _, _, h => h.elim
  | n + 1, .code c, st, k, h => by
    have ih := MgI.sound n
    cases c with
    | seq x y => exact VC.seq' (ih (.code x) st (.sq y :: k) h)
    | skip => exact VC.skip (ih .nrm st k h)
    | exit id => exact VC.exit (ih (.ex id) st k h)
    | ret => exact VC.ret (ih .rt st k h)
    | block id x => exact VC.block (ih (.code x) st (.bl id :: k) h)
    | region id ops dr =>
      cases dr with
      | false => exact VSeq.sound h (fun st' hk => ih .nrm st' k hk)
      | true => exact VC.draw2 h.1 h.2 (fun st' hk => ih .nrm st' k hk)
    | cond c x y =>
      refine VC.cond ?_
      simp only [MgI] at h
      unfold boolOf at h ⊢
      split at h
      · exact ⟨fun hb => ih (.code x) st k (h.1 hb), fun hb => ih (.code y) st k (h.2 hb)⟩
      · intro v hv
        obtain ⟨b, e, hb⟩ := h v hv
        exact ⟨b, e, fun hh => ih (.code x) st k (hb.1 hh), fun hh => ih (.code y) st k (hb.2 hh)⟩
      · exact h.elim
    | _ => exact h
  | n + 1, .nrm, st, k, h => by
    have ih := MgI.sound n
    match k, h with
    | [], h => exact ⟨.inl rfl, h⟩
    | .sq y :: k, h => exact (ih (.code y) st k h)
    | .bl i :: k, h => exact (ih .nrm st k h)
    | .rd φ :: k', h => exact h
  | n + 1, .ex id, st, k, h => by
    have ih := MgI.sound n
    match k, h with
    | [], h => exact h.elim
    | .sq y :: k, h => exact (ih (.ex id) st k h)
    | .bl id' :: k, h =>
      simp only [MgI] at h
      by_cases e : id = id'
      · subst e; rw [if_pos rfl] at h; exact blockK_hit (ih .nrm st k h)
      · rw [if_neg e] at h; exact blockK_miss e (ih (.ex id) st k h)
    | .rd φ :: k', h => exact (ih (.ex id) st k' h)
  | n + 1, .rt, st, k, h => by
    have ih := MgI.sound n
    match k, h with
    | [], h => exact ⟨.inr rfl, h⟩
    | .sq y :: k, h => exact (ih .rt st k h)
    | .bl i :: k, h => exact (ih .rt st k h)
    | .rd φ :: k', h => exact (ih .rt st k' h)
@[congr] theorem MgI.cg {c : Ctl} {st' : St} (h : ∀ _ : Unit, st = st') : MgI P nt F n c st k = MgI P nt F n c st' k := by rw [h ()]
theorem MgI_seq (x y : Code) : MgI P nt F (n + 1) (.code (.seq x y)) st k = MgI P nt F n (.code x) st (.sq y :: k) := rfl
theorem MgI_skip : MgI P nt F (n + 1) (.code .skip) st k = MgI P nt F n .nrm st k := rfl
theorem MgI_exit (id : Nat) : MgI P nt F (n + 1) (.code (.exit id)) st k = MgI P nt F n (.ex id) st k := rfl
theorem MgI_ret : MgI P nt F (n + 1) (.code .ret) st k = MgI P nt F n .rt st k := rfl
theorem MgI_block (id : Nat) (x : Code) : MgI P nt F (n + 1) (.code (.block id x)) st k = MgI P nt F n (.code x) st (.bl id :: k) := rfl
theorem MgI_reg (id : Nat) (l : List Oper) : MgI P nt F (n + 1) (.code (.region id ⟨l⟩ false)) st k = VSeq P nt ⟨l⟩ 0 st (fun st' => MgI P nt F n .nrm st' k) := rfl
theorem MgI_drw (id : Nat) (l : List Oper) : MgI P nt F (n + 1) (.code (.region id ⟨l⟩ true)) st k = (P.follows .mixedOrders = true ∧ wpD P nt ⟨l⟩ l st [] (fun recs st' => DrawH ⟨l⟩ st recs .mk .mk .mk ∧ MgI P nt F n .nrm st' k)) := rfl
theorem MgI_cond (c : Operand) (x y : Code) : MgI P nt F (n + 1) (.code (.cond c x y)) st k = boolOf (ev P st 0 c) fun b => CondH b (MgI P nt F n (.code x) st k) (MgI P nt F n (.code y) st k) .mk .mk := rfl
theorem MgI_n0 : MgI P nt F (n + 1) .nrm st [] = F st := rfl
theorem MgI_nsq (y : Code) : MgI P nt F (n + 1) .nrm st (.sq y :: k) = MgI P nt F n (.code y) st k := rfl
theorem MgI_nbl (id : Nat) : MgI P nt F (n + 1) .nrm st (.bl id :: k) = MgI P nt F n .nrm st k := rfl
theorem MgI_xsq (id : Nat) (y : Code) : MgI P nt F (n + 1) (.ex id) st (.sq y :: k) = MgI P nt F n (.ex id) st k := rfl
theorem MgI_xbl (id : Nat) : MgI P nt F (n + 1) (.ex id) st (.bl id :: k) = MgI P nt F n .nrm st k := by simp [MgI]
theorem MgI_xbm (id id' : Nat) (h : (id == id') = false) : MgI P nt F (n + 1) (.ex id) st (.bl id' :: k) = MgI P nt F n (.ex id) st k := by
  have : id ≠ id' := by simpa using h
  simp [MgI, this]
theorem MgI_xrd (id : Nat) (φ : St → Prop) : MgI P nt F (n + 1) (.ex id) st (.rd φ :: k) = MgI P nt F n (.ex id) st k := rfl
theorem MgI_r0 : MgI P nt F (n + 1) .rt st [] = F st := rfl
theorem MgI_rc (f : Fr) : MgI P nt F (n + 1) .rt st (f :: k) = MgI P nt F n .rt st k := rfl
theorem MgI.know_own {c : Code} {sz : Nat} {es : List PV} (j : Nat) (hk : st.o j = some (sz, es)) (h : es.length ≤ 9223372036854775807 → MgI P nt F (n + 1) (.code (.loop c)) st k) : MgI P nt F (n + 1) (.code (.loop c)) st k :=
  VC.know_own (Q := popQ P nt F k) j hk (fun g => h (Nat.le_trans g (by decide)))
theorem MgI.forN {c : Code} {ρ σ : Type} {f : Nat → σ → Option (Flow ρ σ)} {N : Nat} {s0 : σ} {ψ : ρ ⊕ σ → Prop} (h : Run (Av.forN f N 0 s0) ψ) (S : Nat → σ → List (Nat × SlotV)) (O : Nat → σ → List (Nat × (Nat × List PV)))
    (h0 : st.le ⟨mkS (S 0 s0), mkO (O 0 s0)⟩)
    (round : ∀ i s, i < N → Run (f i s) (stepP (Av.forN f (N - (i + 1)) (i + 1)) ψ) → MgI P nt F n (.code c) ⟨mkS (S i s), mkO (O i s)⟩
      (.rd (fun st' => ∃ s', Run (Av.forN f (N - (i + 1)) (i + 1) s') ψ ∧ st'.le ⟨mkS (S (i + 1) s'), mkO (O (i + 1) s')⟩) :: k))
    (last : ∀ s, ψ (.inr s) → MgI P nt F n (.code c) ⟨mkS (S N s), mkO (O N s)⟩ (.rd (fun _ => False) :: k)) : MgI P nt F (n + 1) (.code (.loop c)) st k := by
  show VC P nt (.loop c) st (popQ P nt F k)
  refine VC.loop (α := Nat × σ) (fun x => ⟨mkS (S x.1 x.2), mkO (O x.1 x.2)⟩) (fun x => x.1 ≤ N ∧ Run (Av.forN f (N - x.1) x.1 x.2) ψ) (fun x => N - x.1) (0, s0) ⟨Nat.zero_le _, h⟩ h0 ?_
  rintro ⟨i, s⟩ ⟨h1, h2⟩
  simp only at h1 h2 ⊢
  by_cases e : i < N
  · refine VC.mono (MgI.sound n _ _ _ (round i s e (run_round h2 e))) ?_
    intro ex st' hq
    cases ex with
    | normal => obtain ⟨s', g1, g2⟩ := hq; exact ⟨(i + 1, s'), ⟨by simp only; omega, g1⟩, by simp only; omega, g2⟩
    | _ => exact hq
  · have e2 : i = N := by omega
    subst e2
    refine VC.mono (MgI.sound n _ _ _ (last s (run_last h2))) ?_
    intro ex st' hq
    cases ex with
    | normal => exact hq.elim
    | _ => exact hq
theorem MgI.whileN {c : Code} {ρ σ : Type} {f : σ → Option (Flow ρ σ)} {s0 : σ} {ψ : ρ ⊕ σ → Prop} (h : Run (lim fun m => Av.whileN f m s0) ψ) (S : σ → List (Nat × SlotV)) (O : σ → List (Nat × (Nat × List PV)))
    (h0 : st.le ⟨mkS (S s0), mkO (O s0)⟩)
    (round : ∀ m s, Run (f s) (stepP (Av.whileN f m) ψ) → MgI P nt F n (.code c) ⟨mkS (S s), mkO (O s)⟩ (.rd (fun st' => ∃ s', Run (Av.whileN f m s') ψ ∧ st'.le ⟨mkS (S s'), mkO (O s')⟩) :: k)) : MgI P nt F (n + 1) (.code (.loop c)) st k := by
  show VC P nt (.loop c) st (popQ P nt F k)
  obtain ⟨n0, h⟩ := run_lim h
  refine VC.loop (α := Nat × σ) (fun x => ⟨mkS (S x.2), mkO (O x.2)⟩) (fun x => Run (Av.whileN f x.1 x.2) ψ) (fun x => x.1) (n0, s0) h h0 ?_
  rintro ⟨i, s⟩ h2
  simp only at h2 ⊢
  obtain ⟨i', rfl, h3⟩ := run_while h2
  refine VC.mono (MgI.sound n _ _ _ (round i' s h3)) ?_
  intro ex st' hq
  cases ex with
  | normal => obtain ⟨s', g1, g2⟩ := hq; exact ⟨(i', s'), g1, by simp only; omega, g2⟩
  | _ => exact hq
theorem MgI_nrdH (φ : St → Prop) : MgI P nt F (n + 1) .nrm st (.rd φ :: k) = RdH φ st .mk := rfl
end
/-! ### What was one's own, looked at only from here on -/
section
variable {st : St}
theorem St.le_dem (j c sz : Nat) (es : List PV) (v' : SlotV) (hc : st.o c = some (sz, es)) (hb : isBox v' = isBox (st.s j)) (h : ∀ N w G v, RepC N w (.sl false sz (PV.views es)) [G.hd c] [] → SlotOk N w G j v (st.s j) → SlotOk N w G j v v') : st.le ⟨upd st.s j v', upd st.o c none⟩ := by
  rintro κ a w ⟨G, hG⟩
  have hbx : ∀ r, isBox ((⟨upd st.s j v', upd st.o c none⟩ : St).s r) = isBox (st.s r) := by
    intro r
    simp only [upd]
    split
    · rename_i e; subst e; exact hb
    · rfl
  have ho : ∀ m p, (⟨upd st.s j v', upd st.o c none⟩ : St).o m = some p → m ≠ c ∧ st.o m = some p := by
    intro m p hp
    simp only [upd] at hp
    split at hp
    · cases hp
    · rename_i e; exact ⟨e, hp⟩
  have hP : ∀ b, Nof κ st G w b → Nof κ ⟨upd st.s j v', upd st.o c none⟩ G w b := by
    intro b hb
    refine ⟨hb.1, fun hp => hb.2 ?_⟩
    rcases hp with ⟨r, h1, h2⟩ | ⟨m, p, h1, h2⟩
    · exact .inl ⟨r, by rw [← hbx]; exact h1, h2⟩
    · exact .inr ⟨m, p, (ho m p h1).2, h2⟩
  obtain ⟨k1, k2, k3⟩ := hG.objs c sz es hc
  have hfp : ∀ b ∈ G.fp c, Nof κ ⟨upd st.s j v', upd st.o c none⟩ G w b := by
    intro b hb
    refine ⟨.inr (k3 b hb), ?_⟩
    rintro (⟨r, h1, h2⟩ | ⟨m, p, h1, h2⟩)
    · rw [hbx] at h1; exact hG.bo r c _ h1 hc (h2 ▸ hb)
    · obtain ⟨e, h3⟩ := ho m p h1
      exact hG.oo m c p _ h3 hc e b h2 hb
  have hdem := RepC.demote hP _ _ _ hfp k1
  simp only [PV.view] at hdem
  refine ⟨G, hG.keep, hG.defers, hG.nt, ?_, ?_, fun r hr => hG.boxes r (by rw [← hbx]; exact hr), fun r r' h1 h2 => hG.bb r r' (by rw [← hbx]; exact h1) (by rw [← hbx]; exact h2), ?_, ?_, hG.held⟩
  · intro i
    have h1 := (hG.slots i).frame (G' := G) hP (fun _ _ => rfl) (fun _ _ => rfl) (fun _ _ => rfl) (fun _ => ⟨rfl, rfl⟩)
    simp only [upd]
    split
    · rename_i e; subst e; exact h _ _ _ _ hdem h1
    · exact h1
  · intro m sz' es' hm
    obtain ⟨e, h3⟩ := ho m _ hm
    obtain ⟨h1, h2, h4⟩ := hG.objs m sz' es' h3
    exact ⟨RepC.frame hP (fun _ _ => rfl) _ _ _ (fun _ _ => rfl) h1, h2, h4⟩
  · intro r m p h1 h2
    exact hG.bo r m p (by rw [← hbx]; exact h1) (ho m p h2).2
  · intro m m' p p' h1 h2 hne
    exact hG.oo m m' p p' (ho m p h1).2 (ho m' p' h2).2 hne
theorem St.le_demV {x : CV} {sz : Nat} {es : List PV} (j : Nat) (p : List Nat) (c : Nat) (hk : st.s j = .val x ∧ x.okp p = true ∧ x.at p = .own c ∧ st.o c = some (sz, es)) : st.le ⟨upd st.s j (.val (x.setAt p (.pv (.sl false sz (PV.views es))))), upd st.o c none⟩ := by
  obtain ⟨h1, h2, h3, h4⟩ := hk
  refine St.le_dem j c sz es _ h4 (by rw [h1]; rfl) fun N w G v hd h => ?_
  rw [h1] at h
  exact (slot_turn (z := .pv (.sl false sz (PV.views es))) h2 h3 (fun cs hcs => by simp only [RepCV] at hcs ⊢; rw [hcs.1]; exact hd) rfl).2 h
end
/-! ### nil -/
theorem NilH.mk {es : List PV} {t : Bool} {K : Bool → Prop} (h1 : es = [] → K t) (h2 : K (!t)) : boolOf (.ex (nilQ es t)) K := by
  rintro v ⟨b, rfl, hb⟩
  refine ⟨b, rfl, ?_⟩
  by_cases e : b = t
  · subst e; exact h1 (hb rfl)
  · have : b = !t := by cases b <;> cases t <;> simp at e ⊢
    rw [this]; exact h2
theorem app_nn {α : Type} : app ([] : List α) [] = some [] := rfl
theorem clean_pv (v : PV) : (CV.pv v).clean = v.noOwn := rfl
theorem clean_own (c : Nat) : (CV.own c).clean = true := rfl
theorem clean_node (fs : List CV) : (CV.node fs).clean = CV.cleans fs := rfl
theorem cleans_nil : CV.cleans [] = true := rfl
theorem cleans_cons (x : CV) (xs : List CV) : CV.cleans (x :: xs) = (x.clean && CV.cleans xs) := rfl
theorem contains_c {a b : Nat} {l : List Nat} : (a :: l).contains b = (b == a || l.contains b) := List.contains_cons
def RI := And.intro @MgI_seq <| And.intro @MgI_skip <| And.intro @MgI_exit <| And.intro @MgI_ret <| And.intro @MgI_block <| And.intro @MgI_reg <| And.intro @MgI_drw <| And.intro @MgI_cond <| And.intro @MgI_n0 <| And.intro @MgI_nsq <| And.intro @MgI_nbl <| And.intro @MgI_nrdH <| And.intro @MgI_xsq <| And.intro @MgI_xbl <| And.intro @MgI_xbm <| And.intro @MgI_xrd <| And.intro @MgI_r0 <| And.intro @MgI_rc <| @stepV_some
attribute [push_cast] argIO_eq clean_pv clean_own clean_node cleans_nil cleans_cons contains_c
/-! ### A call that hands on nil itself -/
end Go.Av
