/- A part of the proof: lemmas only; nothing is claimed here beyond what each lemma says. -/
/- A result that nobody needs for his own: seen as a view. -/
import Derived.Test.YtkokcfphepmeeaaGreatDoorAvX
set_option linter.unusedSimpArgs false
set_option linter.unusedVariables false
set_option linter.defProp false
namespace Go.Av
theorem RepV.demote {N N' : Nat → Prop} {w : World} (hN : ∀ b, N b → N' b) {p : PV} {v : Value} {F : List Nat} (hF : ∀ b ∈ F, N' b) (h : RepV N w p v F) : RepV N' w p.view v [] := by
  cases p with
  | agg fs => obtain ⟨cs, rfl, h⟩ := h; exact ⟨cs, rfl, RepCs.demote hN fs cs F hF h⟩
  | lit u => exact RepC.demote hN _ _ _ hF h
  | sl o sz es => exact RepC.demote hN _ _ _ hF h
  | clo f cs => exact RepC.demote hN _ _ _ hF h
  | ptr u => exact RepC.demote hN _ _ _ hF h
  | tup vs => exact RepC.demote hN _ _ _ hF h
theorem RepVs.demote {N N' : Nat → Prop} {w : World} (hN : ∀ b, N b → N' b) : ∀ {ps : List PV} {vs : List Value} {F : List Nat}, (∀ b ∈ F, N' b) → RepVs N w ps vs F → RepVs N' w (PV.views ps) vs []
  | [], vs, F, hF, h => by simp only [RepVs, PV.views] at h ⊢; exact ⟨h.1, trivial⟩
  | p :: ps, vs, F, hF, h => by
    simp only [RepVs, PV.views] at h ⊢
    obtain ⟨v, vs', F1, F2, rfl, rfl, h3, h4⟩ := h
    exact ⟨v, vs', [], [], rfl, rfl, h3.demote hN (fun b hb => hF b (by simp [hb])), RepVs.demote hN (fun b hb => hF b (by simp [hb])) h4⟩
theorem RepR.demote {N N' : Nat → Prop} {w : World} (hN : ∀ b, N b → N' b) {p : PV} {v : Value} {F : List Nat} (hF : ∀ b ∈ F, N' b) (h : RepR N w p v F) : RepR N' w p.view v [] := by
  cases p with
  | tup ps => obtain ⟨vs, h1, h2⟩ := h; exact ⟨vs, h1, h2.demote hN hF⟩
  | lit u => exact RepV.demote (w := w) (p := .lit u) hN hF h
  | agg fs => exact RepV.demote (w := w) (p := .agg fs) hN hF h
  | sl o sz es => exact RepV.demote (w := w) (p := .sl o sz es) hN hF h
  | clo f cs => exact RepV.demote (w := w) (p := .clo f cs) hN hF h
  | ptr u => exact RepV.demote (w := w) (p := .ptr u) hN hF h
theorem Sat.vw {P : Program} {f : FuncId} {args : List PV} {res : PV} (h : Sat P f args res) : Sat P f args res.view := by
  refine ⟨h.1, fun w N vs Fs hN hFn hFl hvs => (h.2 w N vs Fs hN hFn hFl hvs).mono ?_⟩
  rintro e w' ⟨v, F, rfl, hk, hr, hFn', hF⟩
  refine ⟨v, [], rfl, hk, hr.demote (fun b hb => ?_) (fun b hb => .inr ⟨(hF b hb).1, (hF b hb).2, by simp⟩), List.nodup_nil, by simp⟩
  rcases hb with hb | hb
  · exact .inl hb
  · exact .inr ⟨hb.1, hb.2.1, by simp⟩
theorem view_tup (vs : List PV) : (PV.tup vs).view = .tup (PV.views vs) := rfl
theorem Sat.vwOf {P : Program} {f : FuncId} {args : List PV} {res res' : PV} (h : Sat P f args res) (e : res.view = res') : Sat P f args res' := e ▸ h.vw
end Go.Av
