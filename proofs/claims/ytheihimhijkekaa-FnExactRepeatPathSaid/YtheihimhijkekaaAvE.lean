/- A part of the proof: lemmas only; nothing is claimed here beyond what each lemma says. -/
/- Code, step by step: each step is one rule. -/
import Derived.Test.YtheihimhijkekaaAvD
set_option linter.unusedSimpArgs false
set_option linter.unusedVariables false
set_option linter.defProp false
namespace Go.Av
variable {P : Program} {nt : Nat} {st : St} {Q : Exit → St → Prop}

theorem VC.mono {c : Code} {Q' : Exit → St → Prop} (h : VC P nt c st Q') (hQ : ∀ e st', Q' e st' → Q e st') : VC P nt c st Q :=
  fun κ a w hnt hR Qc hQc => h κ a w hnt hR Qc (fun e st' a' w' hq hR' => hQc e st' a' w' (hQ e st' hq) hR')

/-- What comes after: the rest of the code. -/
def after (P : Program) (nt : Nat) (y : Code) (Q : Exit → St → Prop) : Exit → St → Prop
  | .normal, st => VC P nt y st Q
  | e, st => Q e st
theorem VC.seq' {x y : Code} (h : VC P nt x st (after P nt y Q)) : VC P nt (.seq x y) st Q := by
  refine VC.seq fun K hK => VC.mono h ?_
  intro e st' hq
  cases e with
  | normal => exact hK st' hq
  | _ => exact hq
theorem after_n {y : Code} (h : VC P nt y st Q) : after P nt y Q .normal st := h
theorem after_x {y : Code} {i : Nat} (h : Q (.exit i) st) : after P nt y Q (.exit i) st := h
theorem after_r {y : Code} (h : Q .ret st) : after P nt y Q .ret st := h
theorem blockK_n {i : Nat} (h : Q .normal st) : blockK i Q .normal st := h
theorem blockK_r {i : Nat} (h : Q .ret st) : blockK i Q .ret st := h
theorem blockK_hit {i : Nat} (h : Q .normal st) : blockK i Q (.exit i) st := by simpa [blockK] using h
theorem blockK_miss {i j : Nat} (hj : j ≠ i) (h : Q (.exit j) st) : blockK i Q (.exit j) st := by simpa [blockK, hj] using h
theorem seqK_n {K : St → Prop} (h : K st) : seqK K Q .normal st := h
theorem seqK_r {K : St → Prop} (h : Q .ret st) : seqK K Q .ret st := h
theorem seqK_x {K : St → Prop} {i : Nat} (h : Q (.exit i) st) : seqK K Q (.exit i) st := h
theorem VC.reg {id : Nat} {l : List Oper} (h : ∀ K : St → Prop, (∀ st', Q .normal st' → K st') → wpD P nt ⟨l⟩ l st [] (fun _ st' => K st')) : VC P nt (.region id ⟨l⟩ false) st Q :=
  VC.region (h (fun st' => Q .normal st') (fun _ h => h))
theorem VC.cond' {c : Operand} {x y : Code} (h : ∀ K1 K2 : Prop, (VC P nt x st Q → K1) → (VC P nt y st Q → K2) → boolOf (ev P st 0 c) fun b => CondH b K1 K2 .mk .mk) : VC P nt (.cond c x y) st Q :=
  VC.cond (h _ _ id id)
/-- A loop whose head is told by its live slots. -/
theorem VC.loop' {c : Code} {α : Type} (S : α → Nat → SlotV) (O : α → Nat → Option (Nat × List PV)) (I : α → Prop) (μ : α → Nat) (x0 : α) (h0 : I x0) (hs : LeS st.s (S x0)) (ho : LeO st.o (O x0))
    (round : ∀ x, I x → VC P nt c ⟨S x, O x⟩ (seqK (fun st' => ∃ y, I y ∧ μ y < μ x ∧ LeS st'.s (S y) ∧ LeO st'.o (O y)) Q)) : VC P nt (.loop c) st Q := by
  refine VC.loop (fun x => ⟨S x, O x⟩) I μ x0 h0 (St.le_live hs ho) fun x hx => VC.mono (round x hx) ?_
  intro e st' hq
  cases e with
  | normal => obtain ⟨y, h1, h2, h3, h4⟩ := hq; exact ⟨y, h1, h2, St.le_live h3 h4⟩
  | _ => exact hq
end Go.Av
namespace Go.Av
theorem noR_and {st : St} {r : Nat} {A : Prop} (h : St.noR st r) (h' : A) : St.noR st r ∧ A := ⟨h, h'⟩
theorem noC_and {st : St} {r : Nat} {A : Prop} (h : St.noC st r) (h' : A) : St.noC st r ∧ A := ⟨h, h'⟩
end Go.Av
namespace Go.Av
theorem isAgg_node (l : List CV) : (CV.node l).isAgg = true := rfl
theorem isAgg_own (c : Nat) : (CV.own c).isAgg = false := rfl
theorem isAgg_agg (l : List PV) : (CV.pv (.agg l)).isAgg = true := rfl
theorem isAgg_lit (v : Value) : (CV.pv (.lit v)).isAgg = false := rfl
theorem isAgg_sl (b : Bool) (n : Nat) (l : List PV) : (CV.pv (.sl b n l)).isAgg = false := rfl
theorem isAgg_clo (f : FuncId) (l : List PV) : (CV.pv (.clo f l)).isAgg = false := rfl
theorem isAgg_ptr (v : PV) : (CV.pv (.ptr v)).isAgg = false := rfl
theorem size_lit (v : Value) : (PV.lit v).size = 1 := rfl
theorem size_sl (b : Bool) (n : Nat) (l : List PV) : (PV.sl b n l).size = 1 := rfl
theorem size_clo (f : FuncId) (l : List PV) : (PV.clo f l).size = 1 := rfl
theorem size_ptr (v : PV) : (PV.ptr v).size = 1 := rfl
theorem size_agg (l : List PV) : (PV.agg l).size = PV.sizes l := rfl
theorem notGone_pv (v : PV) : notGone (.pv v) = true := rfl
theorem notGone_own (c : Nat) : notGone (.own c) = true := rfl
theorem notGone_node (l : List CV) : notGone (.node l) = true := rfl
theorem getD_mem {α : Type} [Inhabited α] {l : List α} {i : Nat} (h : i < l.length) : l.getD i default ∈ l := by
  simp [List.getD, h]
theorem getElem_mem' {α : Type} {l : List α} {i : Nat} {x : α} (h : l[i]? = some x) : x ∈ l := List.mem_of_getElem? h
theorem drop_getD {α : Type} [Inhabited α] {l : List α} {i : Nat} (h : i < l.length) : l.drop i = l.getD i default :: l.drop (i + 1) := by
  rw [List.drop_eq_getElem_cons h]; simp [List.getD, h]
end Go.Av
namespace Go.Av
theorem parts_node (l : List CV) : (CV.node l).parts = l := rfl
theorem parts_agg (l : List PV) : (CV.pv (.agg l)).parts = l.map .pv := rfl
theorem noOwn_lit (v : Value) : (PV.lit v).noOwn = true := rfl
theorem noOwn_sl (b : Bool) (n : Nat) (l : List PV) : (PV.sl b n l).noOwn = !b := rfl
theorem noOwn_agg (l : List PV) : (PV.agg l).noOwn = PV.noOwns l := rfl
theorem noOwn_clo (f : FuncId) (l : List PV) : (PV.clo f l).noOwn = true := rfl
theorem noOwn_ptr (v : PV) : (PV.ptr v).noOwn = true := rfl
end Go.Av
/-! ### Lists of ported values -/
namespace Go.Av
theorem map_getD {α : Type} [Inhabited α] (f : α → PV) (l : List α) (i : Nat) (h : i < l.length) : (l.map f).getD i default = f (l.getD i default) := by
  simp [List.getD, h]
/-- Filled up to here. -/
def fill {α : Type} (z : α) (l : List α) (x : Nat) : List α := l.take x ++ List.replicate (l.length - x) z
theorem fill_len {α : Type} (z : α) (l : List α) (x : Nat) (h : x ≤ l.length) : (fill z l x).length = l.length := by simp [fill]; omega
theorem fill_zero {α : Type} (z : α) (l : List α) : fill z l 0 = List.replicate l.length z := by simp [fill]
theorem fill_all {α : Type} (z : α) (l : List α) : fill z l l.length = l := by simp [fill]
theorem fill_set {α : Type} [Inhabited α] (z : α) (l : List α) (x : Nat) (h : x < l.length) : (fill z l x).set x (l.getD x default) = fill z l (x + 1) := by
  apply List.ext_getElem?
  intro j
  simp only [fill, List.getElem?_set, List.getElem?_append, List.length_take, List.getElem?_take, List.getElem?_replicate, List.length_append, List.length_replicate, List.getD]
  by_cases hj : x = j
  · subst hj
    simp only [if_true]
    rw [if_pos (by omega), if_pos (by omega), if_pos (by omega)]
    simp [h]
  · rw [if_neg hj]
    by_cases h1 : j < x
    · have e1 : j < min x l.length := by omega
      have e2 : j < min (x + 1) l.length := by omega
      have e3 : j < x + 1 := by omega
      simp only [e1, e2, e3, h1, if_true]
    · rw [if_neg (by omega)]
      have e2 : ¬ j < min (x + 1) l.length := by omega
      rw [if_neg e2]
      by_cases h2 : j < l.length
      · rw [if_pos (by omega), if_pos (by omega)]
      · rw [if_neg (by omega), if_neg (by omega)]
theorem map_fill_set {α : Type} [Inhabited α] (f : α → PV) (z : α) (l : List α) (x : Nat) (h : x < l.length) : ((fill z l x).map f).set x (f (l.getD x default)) = (fill z l (x + 1)).map f := by
  rw [← fill_set z l x h, List.map_set]
end Go.Av
/-! ### Regions in any order -/
namespace Go.Av
variable {P : Program} {nt : Nat} {st : St} {Q : Exit → St → Prop}
def DrawH (ops : Array Oper) (st : St) (recs : List Rec) (_ : Tok ops) (_ : Tok st) (_ : Tok recs) : Prop := DrawOk ops st recs
theorem VC.drw {id : Nat} {l : List Oper} (hm : P.follows .mixedOrders = true) (h : ∀ K : St → Prop, (∀ st', Q .normal st' → K st') → wpD P nt ⟨l⟩ l st [] (fun recs st' => DrawH ⟨l⟩ st recs .mk .mk .mk ∧ K st')) : VC P nt (.region id ⟨l⟩ true) st Q :=
  VC.draw hm (h (fun st' => Q .normal st') (fun _ h => h))
def edgesL (l : List Oper) : Bool := l.zipIdx.all fun (o, i) => o.after.toList.all fun e => !Region.binds .any e || decide (e.on < i)
def depL (l : List Oper) (j i : Nat) : Bool := ((l[j]?).map fun o => o.after.toList.any fun e => Region.binds .any e && e.on == i).getD false
def depL2 (l : List Oper) (j i : Nat) : Bool := (List.range l.length).any fun k => depL l j k && depL l k i
def pairsL (l : List Oper) (recs : List Rec) : Bool :=
  recs.zipIdx.all fun (r, i) => recs.zipIdx.all fun (q, j) => i == j || ((!decide (i < j) || depL l j i || indep r q || depL2 l j i) && (depL l j i || freshBy r q || depL2 l j i))
theorem edgesL_eq (l : List Oper) : edgesB ⟨l⟩ = edgesL l := by
  simp only [edgesB, edgesL, Array.all_toList]
theorem depL_eq (l : List Oper) (j i : Nat) : dep ⟨l⟩ j i = depL l j i := by
  simp only [dep, depL, Array.any_toList, List.getElem?_toArray]
theorem pairsL_eq (l : List Oper) (recs : List Rec) : pairsB ⟨l⟩ recs = pairsL l recs := by
  simp only [pairsB, pairsL, dep2, depL2, depL_eq, List.size_toArray]
theorem DrawH.mk {l : List Oper} {recs : List Rec} (frs fcs : List Nat) (h1 : edgesL l = true) (h2 : pairsL l recs = true) (h3 : recs.flatMap (·.fr) = frs) (h4 : recs.flatMap (·.fc) = fcs)
    (h5 : ∀ x ∈ frs, st.noR x) (h6 : ∀ c ∈ fcs, st.noC c) : DrawH ⟨l⟩ st recs .mk .mk .mk :=
  ⟨edgesL_eq l ▸ h1, pairsL_eq l recs ▸ h2, fun r hr => ⟨fun x hx => h5 x (h3 ▸ List.mem_flatMap.2 ⟨r, hr, hx⟩), fun c hc => h6 c (h4 ▸ List.mem_flatMap.2 ⟨r, hr, hc⟩)⟩⟩
theorem DrawH.none {l : List Oper} {recs : List Rec} (h1 : edgesL l = true) (h2 : pairsL l recs = true) (h3 : recs.flatMap (·.fr) = []) (h4 : recs.flatMap (·.fc) = []) : DrawH ⟨l⟩ st recs .mk .mk .mk :=
  DrawH.mk [] [] h1 h2 h3 h4 (by simp) (by simp)
end Go.Av
namespace Go.Av
theorem take_next {α : Type} [Inhabited α] (l : List α) (x : Nat) (h : x < l.length) : l.take (x + 1) = l.take x ++ [l.getD x default] := by
  rw [List.take_succ_eq_append_getElem h]; simp [List.getD, h]
theorem take_step {α : Type} [Inhabited α] {l k : List α} {x : Nat} (h : l.take x = k.take x) (hl : x < l.length) (hk : x < k.length) (he : l.getD x default = k.getD x default) : l.take (x + 1) = k.take (x + 1) := by
  rw [take_next l x hl, take_next k x hk, h, he]
theorem eq_of_take {α : Type} {l k : List α} {x : Nat} (h : l.take x = k.take x) (hl : l.length ≤ x) (hk : k.length ≤ x) : l = k := by
  rwa [List.take_of_length_le hl, List.take_of_length_le hk] at h
end Go.Av
