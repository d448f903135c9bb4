/- A part of the proof: lemmas only; nothing is claimed here beyond what each lemma says. -/
/- A result that nobody needs for his own: seen as a view. -/
import Derived.Test.YtgkgihdafalimaaGreatAvX
set_option linter.unusedSimpArgs false
set_option linter.unusedVariables false
set_option linter.defProp false
namespace Go.Av
theorem RepV.demote {N N' : Nat → Prop} {w : World} (hN : ∀ b, N b → N' b) {p : PV} {v : Value} {F : List Nat} (hF : ∀ b ∈ F, N' b) (h : RepV N w p v F) : RepV N' w p.view v [] := by
  cases p with
  | agg fs => obtain ⟨cs, rfl, h⟩ := h; exact ⟨cs, rfl, RepCs.demote hN fs cs F hF h⟩
  | lit u => exact RepC.demote hN _ _ _ hF h
  | sl o sz es => exact RepC.demote hN _ _ _ hF h
  | clo f cs => exact RepC.demote hN _ _ _ hF h
  | ptr u => exact RepC.demote hN _ _ _ hF h
  | tup vs => exact RepC.demote hN _ _ _ hF h
theorem RepVs.demote {N N' : Nat → Prop} {w : World} (hN : ∀ b, N b → N' b) : ∀ {ps : List PV} {vs : List Value} {F : List Nat}, (∀ b ∈ F, N' b) → RepVs N w ps vs F → RepVs N' w (PV.views ps) vs []
  | [], vs, F, hF, h => by simp only [RepVs, PV.views] at h ⊢; exact ⟨h.1, trivial⟩
  | p :: ps, vs, F, hF, h => by
    simp only [RepVs, PV.views] at h ⊢
    obtain ⟨v, vs', F1, F2, rfl, rfl, h3, h4⟩ := h
    exact ⟨v, vs', [], [], rfl, rfl, h3.demote hN (fun b hb => hF b (by simp [hb])), RepVs.demote hN (fun b hb => hF b (by simp [hb])) h4⟩
theorem RepR.demote {N N' : Nat → Prop} {w : World} (hN : ∀ b, N b → N' b) {p : PV} {v : Value} {F : List Nat} (hF : ∀ b ∈ F, N' b) (h : RepR N w p v F) : RepR N' w p.view v [] := by
  cases p with
  | tup ps => obtain ⟨vs, h1, h2⟩ := h; exact ⟨vs, h1, h2.demote hN hF⟩
  | lit u => exact RepV.demote (w := w) (p := .lit u) hN hF h
  | agg fs => exact RepV.demote (w := w) (p := .agg fs) hN hF h
  | sl o sz es => exact RepV.demote (w := w) (p := .sl o sz es) hN hF h
  | clo f cs => exact RepV.demote (w := w) (p := .clo f cs) hN hF h
  | ptr u => exact RepV.demote (w := w) (p := .ptr u) hN hF h
theorem Sat.vw {P : Program} {f : FuncId} {args : List PV} {res : PV} (h : Sat P f args res) : Sat P f args res.view := by
  refine ⟨h.1, fun w N vs Fs hN hFn hFl hvs => (h.2 w N vs Fs hN hFn hFl hvs).mono ?_⟩
  rintro e w' ⟨v, F, rfl, hk, hr, hFn', hF⟩
  refine ⟨v, [], rfl, hk, hr.demote (fun b hb => ?_) (fun b hb => .inr ⟨(hF b hb).1, (hF b hb).2, by simp⟩), List.nodup_nil, by simp⟩
  rcases hb with hb | hb
  · exact .inl hb
  · exact .inr ⟨hb.1, hb.2.1, by simp⟩
theorem view_tup (vs : List PV) : (PV.tup vs).view = .tup (PV.views vs) := rfl
theorem Sat.vwOf {P : Program} {f : FuncId} {args : List PV} {res res' : PV} (h : Sat P f args res) (e : res.view = res') : Sat P f args res' := e ▸ h.vw
/-! ### Arrays -/
section
variable {P : Program} {nt : Nat} {st : St}
theorem idxK_arrH (T : TypeId) (x y : Operand) (K : List Nat → List Nat → SlotV → Prop) (r : Nat) (p : List Nat) (off : Nat) (k : IntKind) (n : Int) : idxK P st T x y K (.bptr r p off) (.val (.pv (.lit (.int k n)))) = ArrH P T n (fun k sz => K (rd x ++ rd y) [] (.bptr r (p ++ [k]) (off + k * sz))) .mk := rfl
theorem slcO_arr (d T : Nat) (rs : List Nat) (lo hi : Option Operand) (K : Rec → Prop) (r : Nat) (p : List Nat) (off : Nat) : slcO P nt st d T rs lo hi K (.bptr r p off) = (d < nt ∧ slcArr P st T d rs lo hi K r p off (st.s r)) := rfl
theorem slcArr_box (T d : Nat) (rs : List Nat) (lo hi : Option Operand) (K : Rec → Prop) (r : Nat) (p : List Nat) (off : Nat) (c : CV) : slcArr P st T d rs lo hi K r p off (.box c) = ArrSlH P T lo hi p off c.pure (c.pvw st.o) (fun sz es => (r == d) = false ∧ K { rs := r :: rs, ro := c.names, us := [(r, .val (.pv (.ptr (.agg es)))), (d, .val (.pv (.sl false sz es)))] }) .mk := rfl
theorem ArrSlH.mk {T m sz : Nat} {b : Bool} {v : PV} {es : List PV} {K : Nat → List PV → Prop} (hT : ArrIs P T m sz) (hm : m ≤ maxLen) (h : b = true ∧ v = .agg es ∧ es.length = m) (hs : ∀ e ∈ es, PV.size e = sz) (hK : K sz es) : ArrSlH P T none none [] 0 b v K .mk :=
  ⟨rfl, rfl, rfl, rfl, h.1, m, sz, es, hT, h.2.1, h.2.2, hs, hm, hK⟩
/-! ### Builtin copy -/
def CopyH (P : Program) (nt : Nat) (st : St) (o : Oper) (K : Rec → Prop) (_ : Tok K) : Prop := RecOk P nt st o K
theorem callK_copy (o : Oper) (x y : Operand) (T T' : TypeId) (K : Rec → Prop) : callK P nt st o { callee := .builtin .copy, args := #[x, y], argTypes := #[T, T'] } K = CopyH P nt st o K .mk := rfl
theorem noOwns_map {α : Type} {f : α → PV} (hf : ∀ a, (f a).noOwn = true) : ∀ xs : List α, PV.noOwns (xs.map f) = true
  | [] => rfl
  | x :: xs => by simp only [List.map_cons, PV.noOwns, hf x, noOwns_map hf xs, Bool.and_self]
theorem CopyH.view {α : Type} {f : α → PV} {o : Oper} {d c sz bytes : Nat} {x y : Operand} {T T' : TypeId} {xs ys : List α} {es zs : List PV} {K : Rec → Prop} (hf : ∀ a, (f a).noOwn = true) (hop : o.op = .call { callee := .builtin .copy, args := #[x, y], argTypes := #[T, T'] }) (hdst : o.dst = some d) (hd : d < nt)
    (hT : SlIs P T sz bytes) (hx : ev P st T x = .val (.own c)) (hc : st.o c = some (sz, es)) (hy : ev P st T' y = .val (.pv (.sl false sz zs))) (he : es = xs.map f) (hz : zs = ys.map f)
    (hK : K { rs := rd x ++ rd y, ro := [c], us := [(d, .val (.pv (.lit (.int .i64 (min (ys.length : Int) (xs.length : Int))))))], uo := [(c, some (sz, (ys.take xs.length ++ xs.drop ys.length).map f))] }) : CopyH P nt st o K .mk := by
  subst he; subst hz
  refine ⟨_, valid_copy_view hop hdst hd hT hx hc hy (noOwns_map hf xs), fresh_none rfl rfl, ?_⟩
  have e : ((min (ys.map f).length (xs.map f).length : Nat) : Int) = min (ys.length : Int) (xs.length : Int) := by simp only [List.length_map]; omega
  rw [e]
  simpa [List.map_append, List.map_take, List.map_drop] using hK
theorem ptrOf_fn (k : Nat) (cs rs : List Nat) (ps : List PV) (f : List Value → List Nat → List Value → Value) : ptrOf k (.fn cs rs ps f) = .fn cs rs ps f := rfl
def RX := And.intro @idxK_arrH <| And.intro @slcO_arr <| And.intro @slcArr_box <| And.intro @callK_copy <| @ptrOf_fn
attribute [push_cast] idxK_arrH slcO_arr slcArr_box callK_copy ptrOf_fn
end
end Go.Av
