/- A part of the proof: lemmas only; nothing is claimed here beyond what each lemma says. -/
/- Code, step by step: each step is one rule. -/
import Derived.Test.YtkokcfphepmeeaaGreatDoorAvD
set_option linter.unusedSimpArgs false
set_option linter.unusedVariables false
set_option linter.defProp false
namespace Go.Av
variable {P : Program} {nt : Nat} {st : St} {Q : Exit → St → Prop}

theorem VC.mono {c : Code} {Q' : Exit → St → Prop} (h : VC P nt c st Q') (hQ : ∀ e st', Q' e st' → Q e st') : VC P nt c st Q :=
  fun κ a w hnt hR Qc hQc => h κ a w hnt hR Qc (fun e st' a' w' hq hR' => hQc e st' a' w' (hQ e st' hq) hR')

/-- What comes after: the rest of the code. -/
def after (P : Program) (nt : Nat) (y : Code) (Q : Exit → St → Prop) : Exit → St → Prop
  | .normal, st => VC P nt y st Q
  | e, st => Q e st
theorem VC.seq' {x y : Code} (h : VC P nt x st (after P nt y Q)) : VC P nt (.seq x y) st Q := by
  refine VC.seq fun K hK => VC.mono h ?_
  intro e st' hq
  cases e with
  | normal => exact hK st' hq
  | _ => exact hq
theorem blockK_hit {i : Nat} (h : Q .normal st) : blockK i Q (.exit i) st := by simpa [blockK] using h
theorem blockK_miss {i j : Nat} (hj : j ≠ i) (h : Q (.exit j) st) : blockK i Q (.exit j) st := by simpa [blockK, hj] using h
end Go.Av
namespace Go.Av
theorem noR_and {st : St} {r : Nat} {A : Prop} (h : St.noR st r) (h' : A) : St.noR st r ∧ A := ⟨h, h'⟩
theorem noC_and {st : St} {r : Nat} {A : Prop} (h : St.noC st r) (h' : A) : St.noC st r ∧ A := ⟨h, h'⟩
end Go.Av
namespace Go.Av
theorem isAgg_node (l : List CV) : (CV.node l).isAgg = true := rfl
theorem isAgg_own (c : Nat) : (CV.own c).isAgg = false := rfl
theorem isAgg_agg (l : List PV) : (CV.pv (.agg l)).isAgg = true := rfl
theorem isAgg_lit (v : Value) : (CV.pv (.lit v)).isAgg = false := rfl
theorem isAgg_sl (b : Bool) (n : Nat) (l : List PV) : (CV.pv (.sl b n l)).isAgg = false := rfl
theorem isAgg_clo (f : FuncId) (l : List PV) : (CV.pv (.clo f l)).isAgg = false := rfl
theorem isAgg_ptr (v : PV) : (CV.pv (.ptr v)).isAgg = false := rfl
theorem size_lit (v : Value) : (PV.lit v).size = 1 := rfl
theorem size_sl (b : Bool) (n : Nat) (l : List PV) : (PV.sl b n l).size = 1 := rfl
theorem size_clo (f : FuncId) (l : List PV) : (PV.clo f l).size = 1 := rfl
theorem size_ptr (v : PV) : (PV.ptr v).size = 1 := rfl
theorem size_agg (l : List PV) : (PV.agg l).size = PV.sizes l := rfl
theorem notGone_pv (v : PV) : notGone (.pv v) = true := rfl
theorem notGone_own (c : Nat) : notGone (.own c) = true := rfl
theorem notGone_node (l : List CV) : notGone (.node l) = true := rfl
theorem getD_mem {α : Type} [Inhabited α] {l : List α} {i : Nat} (h : i < l.length) : l.getD i default ∈ l := by
  simp [List.getD, h]
end Go.Av
namespace Go.Av
theorem parts_node (l : List CV) : (CV.node l).parts = l := rfl
theorem parts_agg (l : List PV) : (CV.pv (.agg l)).parts = l.map .pv := rfl
theorem noOwn_lit (v : Value) : (PV.lit v).noOwn = true := rfl
theorem noOwn_sl (b : Bool) (n : Nat) (l : List PV) : (PV.sl b n l).noOwn = !b := rfl
theorem noOwn_agg (l : List PV) : (PV.agg l).noOwn = PV.noOwns l := rfl
theorem noOwn_clo (f : FuncId) (l : List PV) : (PV.clo f l).noOwn = true := rfl
theorem noOwn_ptr (v : PV) : (PV.ptr v).noOwn = true := rfl
end Go.Av
/-! ### Lists of ported values -/
namespace Go.Av
/-- Filled up to here. -/
def fill {α : Type} (z : α) (l : List α) (x : Nat) : List α := l.take x ++ List.replicate (l.length - x) z
end Go.Av
/-! ### Regions in any order -/
namespace Go.Av
variable {P : Program} {nt : Nat} {st : St} {Q : Exit → St → Prop}
def DrawH (ops : Array Oper) (st : St) (recs : List Rec) (_ : Tok ops) (_ : Tok st) (_ : Tok recs) : Prop := DrawOk ops st recs
def edgesL (l : List Oper) : Bool := l.zipIdx.all fun (o, i) => o.after.toList.all fun e => !Region.binds .any e || decide (e.on < i)
def depL (l : List Oper) (j i : Nat) : Bool := ((l[j]?).map fun o => o.after.toList.any fun e => Region.binds .any e && e.on == i).getD false
def depL2 (l : List Oper) (j i : Nat) : Bool := (List.range l.length).any fun k => depL l j k && depL l k i
def pairsL (l : List Oper) (recs : List Rec) : Bool :=
  recs.zipIdx.all fun (r, i) => recs.zipIdx.all fun (q, j) => i == j || ((!decide (i < j) || depL l j i || indep r q || depL2 l j i) && (depL l j i || freshBy r q || depL2 l j i))
theorem edgesL_eq (l : List Oper) : edgesB ⟨l⟩ = edgesL l := by
  simp only [edgesB, edgesL, Array.all_toList]
theorem depL_eq (l : List Oper) (j i : Nat) : dep ⟨l⟩ j i = depL l j i := by
  simp only [dep, depL, Array.any_toList, List.getElem?_toArray]
theorem pairsL_eq (l : List Oper) (recs : List Rec) : pairsB ⟨l⟩ recs = pairsL l recs := by
  simp only [pairsB, pairsL, dep2, depL2, depL_eq, List.size_toArray]
theorem DrawH.mk {l : List Oper} {recs : List Rec} (frs fcs : List Nat) (h1 : edgesL l = true) (h2 : pairsL l recs = true) (h3 : recs.flatMap (·.fr) = frs) (h4 : recs.flatMap (·.fc) = fcs)
    (h5 : ∀ x ∈ frs, st.noR x) (h6 : ∀ c ∈ fcs, st.noC c) : DrawH ⟨l⟩ st recs .mk .mk .mk :=
  ⟨edgesL_eq l ▸ h1, pairsL_eq l recs ▸ h2, fun r hr => ⟨fun x hx => h5 x (h3 ▸ List.mem_flatMap.2 ⟨r, hr, hx⟩), fun c hc => h6 c (h4 ▸ List.mem_flatMap.2 ⟨r, hr, hc⟩)⟩⟩
theorem DrawH.none {l : List Oper} {recs : List Rec} (h1 : edgesL l = true) (h2 : pairsL l recs = true) (h3 : recs.flatMap (·.fr) = []) (h4 : recs.flatMap (·.fc) = []) : DrawH ⟨l⟩ st recs .mk .mk .mk :=
  DrawH.mk [] [] h1 h2 h3 h4 (by simp) (by simp)
end Go.Av
namespace Go.Av
end Go.Av
