/- A part of the proof: lemmas only; nothing is claimed here beyond what each lemma says. -/
/- The rows' form: arguments opened, all at once. -/
import Derived.Test.YtgkgihdafalimaaGreatAvP
import Derived.Test.YtgkgihdafalimaaGreatAvH
import Derived.ProofKit
import Derived.Carry
import Derived.Below
import Derived.ChangeSame
import Derived.WideKeyArgs
set_option linter.unusedSimpArgs false
set_option linter.unusedVariables false
set_option linter.defProp false
namespace Go.Av
open Go.ChangeShapes Go.WideShapes Go.ChangeAt Go.RowKit
section
variable {H : Type} {enc : TypeId × Value → H} {P : Program} {W W' : World} {base : Nat} {G : TypeId → Prop}
theorem cells_plain {v : Value} (h : ∀ cs, v ≠ .agg cs) : v.cells = #[v] := by
  cases v with
  | agg cs => exact absurd rfl (h cs)
  | _ => rfl
theorem repV_of {t : TypeId} {p : PV} {v : Value} {N : Nat → Prop} (hty : HasTy P t p) (hok : Value.okWide P W .any base t v) (hrep : RepC N W p v.cells.toList []) : RepV N W p v [] := by
  have plain : (∀ cs, v ≠ .agg cs) → RepC N W p [v] [] := by
    intro h
    rw [cells_plain h] at hrep
    exact hrep
  cases hty with
  | bool h =>
    refine plain ?_
    rintro cs rfl
    simp [Value.okWide, Cell.okWide, Cell.ok, h] at hok
  | int h hw =>
    refine plain ?_
    rintro cs rfl
    simp [Value.okWide, Cell.okWide, Cell.ok, h] at hok
  | str h hs =>
    refine plain ?_
    rintro cs rfl
    simp [Value.okWide, Cell.okWide, Cell.ok, h] at hok
  | sl h hl hes =>
    refine plain ?_
    rintro cs rfl
    simp [Value.okWide, Cell.okWide, Cell.ok, h] at hok
  | struct h hps =>
    simp only [Value.okWide, h] at hok
    obtain ⟨cs, rfl, _, _⟩ := hok
    exact ⟨cs.toList, by simp, by simpa [RepC, Value.cells] using hrep⟩
theorem open_args (K : Kinds P G) : ∀ (ts : List TypeId) (vs : List Value) (ds : List (DataW H)) (p : List MemPlace), (∀ t ∈ ts, G t) → DataW.TrodAll enc P W 0 (fun _ => true) true ts vs ds p →
    (∀ (j : Nat) t v, ts[j]? = some t → vs[j]? = some v → Value.okWide P W .any base t v) → ∃ ps, HasTys P ts ps ∧ RepVs (fun b => b < W.heap.size) W ps vs []
  | [], vs, ds, p, _, hA, _ => by
    obtain ⟨rfl, rfl, rfl⟩ := trodAll_nil hA
    exact ⟨[], .nil, rfl, rfl⟩
  | t :: ts, vs, ds, p, hG, hA, hok => by
    obtain ⟨v, vs', d, ds', p1, q, rfl, rfl, rfl, hd, hrest⟩ := trodAll_cons hA
    obtain ⟨fuel, hf⟩ := hd
    obtain ⟨pv, hty, hrep⟩ := open_pv K fuel t _ _ (hG t (by simp)) hf
    obtain ⟨ps, h1, h2⟩ := open_args K ts vs' ds' q (fun t ht => hG t (by simp [ht])) hrest (fun j t' v' ht hv => hok (j + 1) t' v' (by simpa using ht) (by simpa using hv))
    exact ⟨pv :: ps, .cons hty h1, v, vs', [], [], rfl, rfl, repV_of hty (hok 0 t v (by simp) (by simp)) hrep, h2⟩
theorem trodAll_len {sp : Nat → Bool} {hd : Bool} {b : Nat} : ∀ (ts : List TypeId) (vs : List Value) (ds : List (DataW H)) (p : List MemPlace), DataW.TrodAll enc P W b sp hd ts vs ds p → ds.length = ts.length
  | [], vs, ds, p, hA => by
    obtain ⟨rfl, rfl, rfl⟩ := trodAll_nil hA
    rfl
  | t :: ts, vs, ds, p, hA => by
    obtain ⟨v, vs', d, ds', p1, q, rfl, rfl, rfl, hd, hrest⟩ := trodAll_cons hA
    simp [trodAll_len ts vs' ds' q hrest]
theorem stays_all (hl : laidOutB P = true) {sp : Nat → Bool} : ∀ (ts : List TypeId) (vs : List Value) (ds : List (DataW H)) (p : List MemPlace), (∀ t ∈ ts, P.readableRec t = true ∧ t < P.types.size) → DataW.TrodAll enc P W 0 (fun _ => true) true ts vs ds p →
    (∀ q ∈ p, W.sameAt W' q) → (∀ q ∈ p, sp q.block = true) → DataW.TrodAll enc P W' 0 sp true ts vs ds p
  | [], vs, ds, p, _, hA, _, _ => by
    obtain ⟨rfl, rfl, rfl⟩ := trodAll_nil hA
    exact rfl
  | t :: ts, vs, ds, p, hr, hA, hs, hp => by
    obtain ⟨v, vs', d, ds', p1, q, rfl, rfl, rfl, hd, hrest⟩ := trodAll_cons hA
    exact ⟨p1, q, WideElems.Trod_stays hl (hr t (by simp)).1 (hr t (by simp)).2 hd (fun x hx => hs x (by simp [hx])) (fun x hx => hp x (by simp [hx])),
      stays_all hl ts vs' ds' q (fun t ht => hr t (by simp [ht])) hrest (fun x hx => hs x (by simp [hx])) (fun x hx => hp x (by simp [hx])), rfl⟩
end
section
variable {H : Type} {enc : TypeId × Value → H} {P : Program}
theorem post_of_below {f : Func} {s : ChangeSpec} {apart fresh handsOn again : Bool} {W W' : World} {args : Array Value} {v : Value} {ds gs : List (DataW H)} {before pa pv : List MemPlace}
    (hW : DataW.Whole enc P f.params.toList s.vars apart W args.toList ds gs before)
    (hres : ∀ (b : Nat) (sp : Nat → Bool) (hd : Bool), DataW.TrodAll enc P W' b sp hd f.resultTypes.toList (v.resultList f.resultTypes.size) (s.fn H (ds ++ gs)).results [])
    (hargs : ∀ sp : Nat → Bool, (∀ p ∈ before, sp p.block = true) → DataW.TrodAll enc P W' 0 sp true f.params.toList args.toList (s.fn H (ds ++ gs)).args pa)
    (hvars : ∀ sp : Nat → Bool, (∀ p ∈ before, sp p.block = true) → DataW.TrodVars enc P W' sp s.vars (s.fn H (ds ++ gs)).vars pv)
    (hps : before = pa ++ pv) (hb : Below W.heap.size W W')
    (hok : ∀ (j : Nat) (t : TypeId) (r : Value), f.resultTypes[j]? = some t → (v.resultList f.resultTypes.size)[j]? = some r → Value.okWide P W' .any 0 t r) :
    s.post enc P f apart fresh handsOn again W args v W' := by
  have hlt : ∀ p ∈ before, p.block < W.heap.size := fun p hp => hW.lt p hp
  have hold : ∀ p ∈ before, (fun b => decide (b < W.heap.size)) p.block = true := fun p hp => by simpa using hlt p hp
  refine ⟨ds, gs, before, [], pa, pv, hW, hres _ _ _, hargs _ hold, hvars _ hold, World.keptBut_mono (fun p hp => ⟨hp, ?_⟩) (hb.frame (· ∈ before)), fun _ => ?_⟩
  · rw [hps, List.mem_append] at hp
    exact Or.inr hp
  · obtain ⟨_, _, _, _, _, hz, hn⟩ := hW
    refine ⟨hok, _, _, ([] ++ pa) ++ pv, ⟨[] ++ pa, pv, trodAll_append (hargs _ (fun _ _ => rfl)) (hres _ _ _), hvars _ (fun _ _ => rfl), rfl, ?_, ?_⟩, ?_⟩
    · intro b off hp
      have hin : MemPlace.cell b off ∈ before := by rw [hps]; simpa using hp
      rw [hb.frozen (hlt _ hin)]
      exact hz b off hin
    · intro ha
      have := hn ha
      rw [hps] at this
      simpa using this
    · intro p hp _
      rw [hps]
      simpa using hp
/-- A law whose call answers true: what the row asks. -/
theorem law_post {fid : FuncId} {f : Func} {s : ChangeSpec} {tb : TypeId} {apart handsOn again : Bool} {W : World} {base : Nat} {args : Array Value} {ds gs : List (DataW H)} {before : List MemPlace} {G : TypeId → Prop}
    (hlaid : laidOutB P = true) (hvars : s.vars = []) (hr : f.resultTypes = #[tb]) (hb : P.underlying tb = some .bool) (hfn : ∀ ds : List (DataW H), ds.length = f.params.toList.length → (s.fn H ds).results = [.lit (.bool true)] ∧ (s.fn H ds).args = ds ∧ (s.fn H ds).vars = []) (htb : ∀ W', Value.okWide P W' .any 0 tb (.bool true))
    (K : Kinds P G) (hG : ∀ t ∈ f.params.toList, G t ∧ P.readableRec t = true ∧ t < P.types.size)
    (hval : ∀ (j : Nat) t v, f.params[j]? = some t → args[j]? = some v → Value.okWide P W .any base t v) (hW : DataW.Whole enc P f.params.toList s.vars apart W args.toList ds gs before)
    (hsat : ∀ ps, HasTys P f.params.toList ps → Sat P fid ps (.lit (.bool true))) :
    Calls P fid args W (fun e W' => ∃ v, e = .returned v ∧ s.post enc P f apart true handsOn again W args v W') := by
  have hW' := hW
  obtain ⟨p, q, hA, hV, rfl, hfz, hnd⟩ := hW
  have hlen := trodAll_len _ _ _ _ hA
  rw [hvars] at hV
  obtain ⟨rfl, rfl⟩ := trodVars_none hV
  obtain ⟨ps, hty, hrep⟩ := open_args K _ _ _ _ (fun t ht => (hG t ht).1) hA (fun j t v ht hv => hval j t v (by simpa using ht) (by simpa using hv))
  simp only [List.append_nil] at hW'
  have hlt : ∀ x ∈ p, x.block < W.heap.size := fun x hx => hW'.lt x hx
  have hs := (hsat ps hty).2 W (fun b => b < W.heap.size) args.toList [] (by simp) List.nodup_nil (by simp) hrep
  simp only [Array.toArray_toList] at hs
  refine hs.mono fun e W' he => ?_
  obtain ⟨v, F, rfl, hk, hrr, _, _⟩ := he
  have hbl : Below W.heap.size W W' := ⟨hk.os, hk.tape, hk.output, hk.size, fun k h => hk.block k h (by simp)⟩
  have hv : v = .bool true := by
    simp only [RepR, RepV, RepC] at hrr
    simpa using hrr.1
  subst hv
  refine ⟨_, rfl, post_of_below (pa := p) (pv := []) hW' ?_ ?_ ?_ (by simp) hbl ?_⟩
  · intro b sp hd
    rw [hr, (hfn _ (by simpa using hlen)).1]
    exact trodAll_mk1 (shut_bool hb true)
  · intro sp hsp
    rw [(hfn _ (by simpa using hlen)).2.1]
    simp only [List.append_nil]
    exact stays_all hlaid _ _ _ _ (fun t ht => (hG t ht).2) hA (fun x hx => hbl.same (hlt x hx)) hsp
  · intro sp hsp
    rw [hvars, (hfn _ (by simpa using hlen)).2.2]
    rfl
  · intro j t r hj hr'
    rw [hr] at hj hr'
    match j, hj, hr' with
    | 0, hj, hr' =>
      simp at hj; subst hj
      simp [Value.resultList] at hr'; subst hr'
      exact htb W'
    | j + 1, hj, _ => simp at hj
end
end Go.Av
namespace Go.Av
def LOk {α : Type} (ok : α → Prop) (l : List α) : Prop := Big l.length ∧ ∀ x ∈ l, ok x
theorem ltot_len {α : Type} (t : α → Nat) (l : List α) : l.length ≤ ltot t l := by simp [ltot]
theorem tot_mem {α : Type} (t : α → Nat) {l : List α} {x : α} (h : x ∈ l) : t x < ltot t l := by
  induction l with
  | nil => cases h
  | cons y l ih =>
    simp only [ltot, List.length_cons, List.map_cons, List.sum_cons] at ih ⊢
    rcases List.mem_cons.1 h with rfl | h
    · omega
    · have := ih h; omega
theorem inR_wf {n : Int} (h : (Lit.int .i64 n).wf = true) : InR n := by
  simp [Lit.wf, IntKind.min, IntKind.max, IntKind.signed, IntKind.bits] at h
  exact ⟨by omega, by omega⟩
theorem open_list {P : Program} {e : TypeId} {α : Type} {ok : α → Prop} {f : α → PV} (h : ∀ {p : PV}, HasTy P e p → ∃ a, ok a ∧ p = f a) : ∀ l : List PV, (∀ x ∈ l, HasTy P e x) → ∃ ts : List α, (∀ a ∈ ts, ok a) ∧ l = ts.map f
  | [], _ => ⟨[], by simp, rfl⟩
  | x :: l, hx => by
    obtain ⟨a, ha, rfl⟩ := h (hx x (by simp))
    obtain ⟨ts, hts, rfl⟩ := open_list h l (fun y hy => hx y (by simp [hy]))
    exact ⟨a :: ts, by simpa using ⟨ha, hts⟩, rfl⟩
end Go.Av
