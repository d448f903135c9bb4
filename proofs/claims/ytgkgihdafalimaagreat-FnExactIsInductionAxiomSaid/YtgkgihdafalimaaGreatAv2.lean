/- A part of the proof: lemmas only; nothing is claimed here beyond what each lemma says. -/
/- Abstract states of one activation, and how they stand to a frame and a world. -/
import Derived.Test.YtgkgihdafalimaaGreatAv1
set_option linter.unusedSimpArgs false
set_option linter.unusedVariables false
set_option linter.defProp false
namespace Go.Av

/-- What a variable or a temporary holds: a value with nothing of one's own in it; a slice that this activation owns (by its name); a struct of such; cells of which nothing is known. -/
inductive CV where
  | pv (v : PV)
  | own (c : Nat)
  | node (fs : List CV)
  | gone (n : Nat)
instance : Inhabited CV := ⟨.gone 0⟩

/-- The shape of a handle: a pointer, a map, a closure that has captured a pointer (where 'true' stands) beside other values. -/
inductive Sh where
  | ptr
  | mp
  | clo (f : FuncId) (pat : List Bool)
def fillPat : List Bool → Nat → List Value → List Value
  | [], _, _ => []
  | true :: p, b, vs => .pointer (some ⟨b, 0, none⟩) :: fillPat p b vs
  | false :: p, b, v :: vs => v :: fillPat p b vs
  | false :: p, b, [] => undef :: fillPat p b []
def Sh.val : Sh → Nat → List Value → Value
  | .ptr, b, _ => .pointer (some ⟨b, 0, none⟩)
  | .mp, b, _ => .map (some b)
  | .clo f pat, b, vs => .func (.func f) #[] (fillPat pat b vs).toArray
/-- An entry of a map: key, element, stamp. -/
abbrev MEnt := ByteArray × PV × Nat
/-- What lies behind a handle: cells; a map; a range over a map. -/
inductive HC where
  | cv (x : CV)
  | mp (es : List MEnt) (clock : Nat)
  | it (r since : Nat) (seen : List Nat) (last : Nat)
instance : Inhabited HC := ⟨.mp [] 0⟩

mutual
def CV.size : CV → Nat
  | .pv v => v.size
  | .own _ => 1
  | .node fs => CV.sizes fs
  | .gone n => n
def CV.sizes : List CV → Nat
  | [] => 0
  | x :: xs => x.size + CV.sizes xs
end

inductive SlotV where
  | dead
  | val (x : CV)
  | tup (xs : List CV)
  | box (x : CV)
  | bptr (r : Nat) (path : List Nat) (off : Nat)
  | eptr (c sz i : Nat) (path : List Nat) (off : Nat)
  | ex (Q : Value → Prop)
  | fn (cs rs : List Nat) (ps : List PV) (f : List Value → List Nat → List Value → Value)
  | hold (sh : Sh) (ps : List PV) (x : HC)
  | hptr (r : Nat) (sh : Sh) (ps : List PV)
instance : Inhabited SlotV := ⟨.dead⟩

structure St where
  s : Nat → SlotV
  o : Nat → Option (Nat × List PV)

structure Gh where
  hd : Nat → Value
  fp : Nat → List Nat
  ad : Nat → Nat

/-- Below block number B, and but for the blocks of L, the world w' is as w was. -/
structure KeepX (L : List Nat) (B : Nat) (w w' : World) : Prop where
  os : w'.os = w.os
  tape : w'.tape = w.tape
  output : w'.output = w.output
  size : w.heap.size ≤ w'.heap.size
  block : ∀ k, k < B → k ∉ L → w'.heap[k]? = w.heap[k]?
theorem KeepX.refl (L : List Nat) (B : Nat) (w : World) : KeepX L B w w := ⟨rfl, rfl, rfl, Nat.le_refl _, fun _ _ _ => rfl⟩
theorem KeepX.trans {L : List Nat} {B : Nat} {a b c : World} (h : KeepX L B a b) (k : KeepX L B b c) : KeepX L B a c :=
  ⟨k.os.trans h.os, k.tape.trans h.tape, k.output.trans h.output, Nat.le_trans h.size k.size, fun i hi hl => (k.block i hi hl).trans (h.block i hi hl)⟩
theorem KeepX.of_below {L : List Nat} {B : Nat} {w w' : World} (h : RowKit.Below B w w') : KeepX L B w w' := ⟨h.os, h.tape, h.output, h.size, fun k hk _ => h.block k hk⟩

/-- What an activation was handed: the world, what it may read, the blocks that are now its own, how many slots it has. -/
structure Ctx where
  w0 : World
  N : Nat → Prop
  L : List Nat
  nt : Nat
  held : List (Nat × Value) := []
  hH : ∀ c v, (c, v) ∈ held → 10000 ≤ c := by simp
  hN : ∀ b, N b → b < w0.heap.size ∧ b ∉ L
  hL : ∀ b ∈ L, b < w0.heap.size

mutual
def RepCV (N : Nat → Prop) (w : World) (hd : Nat → Value) : CV → List Value → Prop
  | .pv v, cs => RepC N w v cs []
  | .own c, cs => cs = [hd c] ∧ (hd c).oneCell' = true
  | .node fs, cs => RepCVs N w hd fs cs
  | .gone n, cs => cs.length = n ∧ ∀ u ∈ cs, u.oneCell' = true
def RepCVs (N : Nat → Prop) (w : World) (hd : Nat → Value) : List CV → List Value → Prop
  | [], cs => cs = []
  | x :: xs, cs => ∃ c1 c2, cs = c1 ++ c2 ∧ RepCV N w hd x c1 ∧ RepCVs N w hd xs c2
end

def CV.isAgg : CV → Bool
  | .node _ => true
  | .pv (.agg _) => true
  | _ => false

/-- A whole value that is this. -/
def CVal (N : Nat → Prop) (w : World) (hd : Nat → Value) (x : CV) (v : Value) : Prop :=
  (x.isAgg = true ∧ ∃ cs, v = .agg cs.toArray ∧ RepCV N w hd x cs) ∨ (x.isAgg = false ∧ RepCV N w hd x [v] ∧ v.oneCell' = true)

def CVals (N : Nat → Prop) (w : World) (hd : Nat → Value) : List CV → List Value → Prop
  | [], vs => vs = []
  | x :: xs, vs => ∃ v vs', vs = v :: vs' ∧ CVal N w hd x v ∧ CVals N w hd xs vs'

def MapIs (N : Nat → Prop) (w : World) : List MEnt → List MapEntry → Prop
  | [], es => es = []
  | (k, p, s) :: kv, es => ∃ e es', es = e :: es' ∧ e.key = .string k ∧ e.born = s ∧ RepV N w p e.val [] ∧ MapIs N w kv es'
def HCok (N : Nat → Prop) (w : World) (hd : Nat → Value) (ad : Nat → Nat) (b : Nat) : HC → Prop
  | .cv x => ∃ cs e, w.heap[b]? = some (.cells cs.toArray e (0, 0)) ∧ RepCV N w hd x cs
  | .mp kv clock => ∃ es : List MapEntry, w.heap[b]? = some (.map es.toArray clock) ∧ MapIs N w kv es ∧ (kv.map (·.1)).Nodup ∧ (kv.map (·.2.2)).Nodup ∧ ∀ e ∈ kv, e.2.2 < clock
  | .it r since seen last => w.heap[b]? = some (.mapIter (some (ad r)) since seen.toArray last)

def SlotOk (N : Nat → Prop) (w : World) (G : Gh) (k : Nat) (v : Value) : SlotV → Prop
  | .dead => True
  | .val x => CVal N w G.hd x v
  | .tup xs => ∃ vs, v = .tuple vs.toArray ∧ CVals N w G.hd xs vs
  | .box x => v = .pointer (some ⟨G.ad k, 0, none⟩) ∧ ∃ cs e, w.heap[G.ad k]? = some (.cells cs.toArray e (0, 0)) ∧ RepCV N w G.hd x cs
  | .bptr r _ off => v = .pointer (some ⟨G.ad r, off, none⟩)
  | .eptr c sz i _ off => ∃ b n cap, G.hd c = .slice (some ⟨b, 0, none⟩) n cap ∧ v = .pointer (some ⟨b, i * sz + off, none⟩)
  | .ex Q => Q v
  | .fn cs rs ps f => ∃ vals, RepCs N w ps vals [] ∧ v = f (cs.map G.hd) (rs.map G.ad) vals
  | .hold sh ps x => ∃ vals, RepCs N w ps vals [] ∧ v = sh.val (G.ad k) vals ∧ HCok N w G.hd G.ad (G.ad k) x
  | .hptr r sh ps => ∃ vals, RepCs N w ps vals [] ∧ v = sh.val (G.ad r) vals

def isBox : SlotV → Bool
  | .box _ => true
  | .hold .. => true
  | _ => false

def Priv (st : St) (G : Gh) (b : Nat) : Prop := (∃ r, isBox (st.s r) = true ∧ b = G.ad r) ∨ (∃ c p, st.o c = some p ∧ b ∈ G.fp c)

def Nof (κ : Ctx) (st : St) (G : Gh) (w : World) (b : Nat) : Prop := (κ.N b ∨ ((κ.w0.heap.size ≤ b ∨ b ∈ κ.L) ∧ b < w.heap.size)) ∧ ¬ Priv st G b

structure RG (κ : Ctx) (G : Gh) (st : St) (a : Act) (w : World) : Prop where
  keep : KeepX κ.L κ.w0.heap.size κ.w0 w
  defers : a.defers = []
  nt : a.tmps.size = κ.nt
  slots : ∀ k, SlotOk (Nof κ st G w) w G k (a.tmps.getD k undef) (st.s k)
  objs : ∀ c sz es, st.o c = some (sz, es) → RepC (Nof κ st G w) w (.sl true sz es) [G.hd c] (G.fp c) ∧ (G.fp c).Nodup ∧ ∀ b ∈ G.fp c, (κ.w0.heap.size ≤ b ∨ b ∈ κ.L) ∧ b < w.heap.size
  boxes : ∀ r, isBox (st.s r) = true → (κ.w0.heap.size ≤ G.ad r ∨ G.ad r ∈ κ.L) ∧ G.ad r < w.heap.size
  bb : ∀ r r', isBox (st.s r) = true → isBox (st.s r') = true → G.ad r = G.ad r' → r = r'
  bo : ∀ r c p, isBox (st.s r) = true → st.o c = some p → G.ad r ∉ G.fp c
  oo : ∀ c c' p p', st.o c = some p → st.o c' = some p' → c ≠ c' → ∀ b ∈ G.fp c, b ∉ G.fp c'
  held : ∀ c v, (c, v) ∈ κ.held → G.hd c = v

def R (κ : Ctx) (st : St) (a : Act) (w : World) : Prop := ∃ G, RG κ G st a w

/-! ### Frames -/
mutual
def CV.noC (c : Nat) : CV → Bool
  | .pv _ => true
  | .own c' => c' != c
  | .node fs => CV.noCs c fs
  | .gone _ => true
def CV.noCs (c : Nat) : List CV → Bool
  | [] => true
  | x :: xs => x.noC c && CV.noCs c xs
end
def HC.noC (c : Nat) : HC → Bool
  | .cv x => x.noC c
  | _ => true
def HC.noR (r : Nat) : HC → Bool
  | .it r' _ _ _ => r' != r
  | _ => true
def SlotV.noC (c : Nat) : SlotV → Bool
  | .dead | .bptr .. | .ex _ | .hptr .. => true
  | .hold _ _ x => x.noC c
  | .val x | .box x => x.noC c
  | .tup xs => CV.noCs c xs
  | .eptr c' _ _ _ _ => c' != c
  | .fn cs _ _ _ => !cs.contains c
def SlotV.noR (r : Nat) : SlotV → Bool
  | .bptr r' _ _ => r' != r
  | .fn _ rs _ _ => !rs.contains r
  | .hold _ _ x => x.noR r
  | .hptr r' _ _ => r' != r
  | _ => true

mutual
theorem RepCV.frame {N N' : Nat → Prop} {w w' : World} {hd hd' : Nat → Value} (hN : ∀ b, N b → N' b) (hw : ∀ b, N b → w'.heap[b]? = w.heap[b]?) :
    ∀ (x : CV) (cs : List Value), (∀ c, x.noC c = false → hd' c = hd c) → RepCV N w hd x cs → RepCV N' w' hd' x cs
  | .pv v, cs, _, h => by simp only [RepCV] at h ⊢; exact RepC.frame hN hw v cs [] (by simp) h
  | .own c, cs, hc, h => by simp only [RepCV] at h ⊢; rw [hc c (by simp [CV.noC])]; exact h
  | .node fs, cs, hc, h => by simp only [RepCV] at h ⊢; exact RepCVs.frame hN hw fs cs (fun c hh => hc c (by simpa [CV.noC] using hh)) h
  | .gone n, cs, _, h => by simpa only [RepCV] using h
theorem RepCVs.frame {N N' : Nat → Prop} {w w' : World} {hd hd' : Nat → Value} (hN : ∀ b, N b → N' b) (hw : ∀ b, N b → w'.heap[b]? = w.heap[b]?) :
    ∀ (xs : List CV) (cs : List Value), (∀ c, CV.noCs c xs = false → hd' c = hd c) → RepCVs N w hd xs cs → RepCVs N' w' hd' xs cs
  | [], cs, _, h => by simpa only [RepCVs] using h
  | x :: xs, cs, hc, h => by
    simp only [RepCVs] at h ⊢
    obtain ⟨c1, c2, h1, h2, h3⟩ := h
    exact ⟨c1, c2, h1, RepCV.frame hN hw x c1 (fun c hh => hc c (by simp [CV.noCs, hh])) h2, RepCVs.frame hN hw xs c2 (fun c hh => hc c (by simp [CV.noCs, hh])) h3⟩
end

theorem CVal.frame {N N' : Nat → Prop} {w w' : World} {hd hd' : Nat → Value} (hN : ∀ b, N b → N' b) (hw : ∀ b, N b → w'.heap[b]? = w.heap[b]?)
    {x : CV} {v : Value} (hc : ∀ c, x.noC c = false → hd' c = hd c) (h : CVal N w hd x v) : CVal N' w' hd' x v := by
  rcases h with ⟨h1, cs, h2, h3⟩ | ⟨h1, h2, h3⟩
  · exact .inl ⟨h1, cs, h2, RepCV.frame hN hw x cs hc h3⟩
  · exact .inr ⟨h1, RepCV.frame hN hw x _ hc h2, h3⟩
theorem CVals.frame {N N' : Nat → Prop} {w w' : World} {hd hd' : Nat → Value} (hN : ∀ b, N b → N' b) (hw : ∀ b, N b → w'.heap[b]? = w.heap[b]?) :
    ∀ {xs : List CV} {vs : List Value}, (∀ c, CV.noCs c xs = false → hd' c = hd c) → CVals N w hd xs vs → CVals N' w' hd' xs vs
  | [], vs, _, h => by simpa only [CVals] using h
  | x :: xs, vs, hc, h => by
    simp only [CVals] at h ⊢
    obtain ⟨v, vs', h1, h2, h3⟩ := h
    exact ⟨v, vs', h1, h2.frame hN hw (fun c hh => hc c (by simp [CV.noCs, hh])), CVals.frame hN hw (fun c hh => hc c (by simp [CV.noCs, hh])) h3⟩

theorem RepV.frame0 {N N' : Nat → Prop} {w w' : World} (hN : ∀ b, N b → N' b) (hw : ∀ b, N b → w'.heap[b]? = w.heap[b]?) {p : PV} {v : Value} (h : RepV N w p v []) : RepV N' w' p v [] := by
  cases p with
  | agg fs => obtain ⟨cs, e, h⟩ := h; exact ⟨cs, e, RepCs.frame hN hw fs cs [] (by simp) h⟩
  | _ => exact RepC.frame hN hw _ _ [] (by simp) h
theorem MapIs.frame {N N' : Nat → Prop} {w w' : World} (hN : ∀ b, N b → N' b) (hw : ∀ b, N b → w'.heap[b]? = w.heap[b]?) : ∀ (kv : List MEnt) (es : List MapEntry), MapIs N w kv es → MapIs N' w' kv es
  | [], _, h => h
  | (k, p, s) :: kv, es, h => by
    obtain ⟨e, es', h1, h2, h3, h4, h5⟩ := h
    exact ⟨e, es', h1, h2, h3, h4.frame0 hN hw, MapIs.frame hN hw kv es' h5⟩
theorem HCok.frame {N N' : Nat → Prop} {w w' : World} {hd hd' : Nat → Value} {ad ad' : Nat → Nat} {b : Nat} {x : HC} (hN : ∀ b, N b → N' b) (hw : ∀ b, N b → w'.heap[b]? = w.heap[b]?)
    (hc : ∀ c, x.noC c = false → hd' c = hd c) (hr : ∀ r, x.noR r = false → ad' r = ad r) (hb : w'.heap[b]? = w.heap[b]?) (h : HCok N w hd ad b x) : HCok N' w' hd' ad' b x := by
  cases x with
  | cv x => obtain ⟨cs, e, h1, h2⟩ := h; exact ⟨cs, e, hb.trans h1, RepCV.frame hN hw x cs (fun c hh => hc c (by simpa [HC.noC] using hh)) h2⟩
  | mp kv clock => obtain ⟨es, h1, h2, h3⟩ := h; exact ⟨es, hb.trans h1, MapIs.frame hN hw kv es h2, h3⟩
  | it r since seen last => simp only [HCok] at h ⊢; rw [hr r (by simp [HC.noR]), hb]; exact h

/-- A slot that is not touched, in a later world: nothing that it leans on has turned. -/
theorem SlotOk.frame {N N' : Nat → Prop} {w w' : World} {G G' : Gh} {k : Nat} {v : Value} {sv : SlotV} (hN : ∀ b, N b → N' b) (hw : ∀ b, N b → w'.heap[b]? = w.heap[b]?)
    (hc : ∀ c, sv.noC c = false → G'.hd c = G.hd c) (hr : ∀ r, sv.noR r = false → G'.ad r = G.ad r) (hb : isBox sv = true → G'.ad k = G.ad k ∧ w'.heap[G.ad k]? = w.heap[G.ad k]?)
    (h : SlotOk N w G k v sv) : SlotOk N' w' G' k v sv := by
  cases sv with
  | dead => trivial
  | val x => exact CVal.frame hN hw (fun c hh => hc c (by simpa [SlotV.noC] using hh)) h
  | tup xs => obtain ⟨vs, h1, h2⟩ := h; exact ⟨vs, h1, CVals.frame hN hw (fun c hh => hc c (by simpa [SlotV.noC] using hh)) h2⟩
  | box x =>
    obtain ⟨h1, cs, e, h2, h3⟩ := h
    obtain ⟨e1, e2⟩ := hb rfl
    exact ⟨by rw [e1]; exact h1, cs, e, by rw [e1, e2]; exact h2, RepCV.frame hN hw x cs (fun c hh => hc c (by simpa [SlotV.noC] using hh)) h3⟩
  | bptr r p off => simp only [SlotOk] at h ⊢; rw [hr r (by simp [SlotV.noR])]; exact h
  | eptr c sz i p off => simp only [SlotOk] at h ⊢; rw [hc c (by simp [SlotV.noC])]; exact h
  | ex Q => exact h
  | fn cs rs ps f =>
    obtain ⟨vals, h1, h2⟩ := h
    refine ⟨vals, RepCs.frame hN hw ps vals [] (by simp) h1, ?_⟩
    have e1 : cs.map G'.hd = cs.map G.hd := List.map_congr_left fun c hm => hc c (by simp [SlotV.noC, hm])
    have e2 : rs.map G'.ad = rs.map G.ad := List.map_congr_left fun r hm => hr r (by simp [SlotV.noR, hm])
    rw [e1, e2]; exact h2
  | hold sh ps x =>
    obtain ⟨vals, h1, h2, h3⟩ := h
    obtain ⟨e1, e2⟩ := hb rfl
    exact ⟨vals, RepCs.frame hN hw ps vals [] (by simp) h1, by rw [e1]; exact h2, by rw [e1]; exact HCok.frame hN hw (fun c hh => hc c (by simpa [SlotV.noC] using hh)) (fun r hh => hr r (by simpa [SlotV.noR] using hh)) e2 h3⟩
  | hptr r sh ps =>
    obtain ⟨vals, h1, h2⟩ := h
    exact ⟨vals, RepCs.frame hN hw ps vals [] (by simp) h1, by rw [hr r (by simp [SlotV.noR])]; exact h2⟩

/-! ### Turning a state -/
def upd {α : Type} (f : Nat → α) (k : Nat) (x : α) : Nat → α := fun j => if j = k then x else f j
theorem upd_same {α : Type} (f : Nat → α) (k : Nat) (x : α) : upd f k x k = x := by simp [upd]
theorem upd_ne {α : Type} {f : Nat → α} {k j : Nat} {x : α} (h : j ≠ k) : upd f k x j = f j := by simp [upd, h]

def St.set (st : St) (k : Nat) (v : SlotV) : St := { st with s := upd st.s k v }
theorem getD_put {a : Act} {d : Nat} {v : Value} (h : d < a.tmps.size) (k : Nat) : (a.put (some d) v).tmps.getD k undef = if k = d then v else a.tmps.getD k undef := by
  simp only [Act.put, Array.getD_eq_getD_getElem?, Array.getElem?_setIfInBounds]
  split
  · rename_i h1; subst h1; simp [h]
  · rename_i h1; simp [Ne.symm h1]

/-- **The master step**: one slot gets a new value; the rest stays or is carried by a frame. -/
theorem RG.step {κ : Ctx} {G G' : Gh} {st st' : St} {a : Act} {w w' : World} {d : Nat} {v : Value} (h : RG κ G st a w) (hd : d < κ.nt)
    (hbelow : KeepX κ.L κ.w0.heap.size w w')
    (hN : ∀ b, Nof κ st G w b → Nof κ st' G' w' b) (hw : ∀ b, Nof κ st G w b → w'.heap[b]? = w.heap[b]?)
    (hs : ∀ k, k ≠ d → st'.s k = st.s k ∨ st'.s k = .dead) (hdst : SlotOk (Nof κ st' G' w') w' G' d v (st'.s d))
    (hc : ∀ k c, k ≠ d → st'.s k ≠ .dead → (st.s k).noC c = false → G'.hd c = G.hd c) (hr : ∀ k r, k ≠ d → st'.s k ≠ .dead → (st.s k).noR r = false → G'.ad r = G.ad r)
    (hb : ∀ k, k ≠ d → st'.s k ≠ .dead → isBox (st.s k) = true → G'.ad k = G.ad k ∧ w'.heap[G.ad k]? = w.heap[G.ad k]?)
    (objs : ∀ c sz es, st'.o c = some (sz, es) → RepC (Nof κ st' G' w') w' (.sl true sz es) [G'.hd c] (G'.fp c) ∧ (G'.fp c).Nodup ∧ ∀ b ∈ G'.fp c, (κ.w0.heap.size ≤ b ∨ b ∈ κ.L) ∧ b < w'.heap.size)
    (boxes : ∀ r, isBox (st'.s r) = true → (κ.w0.heap.size ≤ G'.ad r ∨ G'.ad r ∈ κ.L) ∧ G'.ad r < w'.heap.size)
    (bb : ∀ r r', isBox (st'.s r) = true → isBox (st'.s r') = true → G'.ad r = G'.ad r' → r = r')
    (bo : ∀ r c p, isBox (st'.s r) = true → st'.o c = some p → G'.ad r ∉ G'.fp c)
    (oo : ∀ c c' p p', st'.o c = some p → st'.o c' = some p' → c ≠ c' → ∀ b ∈ G'.fp c, b ∉ G'.fp c') (hh : ∀ c, 10000 ≤ c → G'.hd c = G.hd c) :
    RG κ G' st' (a.put (some d) v) w' where
  keep := h.keep.trans hbelow
  defers := by simpa [Act.put] using h.defers
  nt := by simpa [Act.put] using h.nt
  slots := by
    intro k
    rw [getD_put (by rw [h.nt]; exact hd)]
    by_cases hk : k = d
    · subst hk; simpa using hdst
    · rw [if_neg hk]
      rcases hs k hk with e | e
      · by_cases hdead : st'.s k = .dead
        · rw [hdead]; trivial
        · rw [e]; exact (h.slots k).frame hN hw (fun c => hc k c hk hdead) (fun r => hr k r hk hdead) (hb k hk hdead)
      · rw [e]; trivial
  objs := objs
  boxes := boxes
  bb := bb
  bo := bo
  oo := oo
  held := fun c v hc => (hh c (κ.hH c v hc)).trans (h.held c v hc)

theorem Nof.lt {κ : Ctx} {st : St} {G : Gh} {a : Act} {w : World} (h : RG κ G st a w) {b : Nat} (hb : Nof κ st G w b) : b < w.heap.size := by
  rcases hb.1 with h1 | h1
  · exact Nat.lt_of_lt_of_le (κ.hN b h1).1 h.keep.size
  · exact h1.2

/-- A slot gets a value, the world stays. -/
theorem RG.set {κ : Ctx} {G : Gh} {st : St} {a : Act} {w : World} {d : Nat} {v : Value} {sv : SlotV} (h : RG κ G st a w) (hd : d < κ.nt) (hnb : isBox sv = false)
    (hok : SlotOk (Nof κ st G w) w G d v sv) : RG κ G (st.set d sv) (a.put (some d) v) w := by
  have hbox : ∀ r, isBox ((st.set d sv).s r) = true → r ≠ d ∧ isBox (st.s r) = true := by
    intro r hr
    simp only [St.set, upd] at hr
    split at hr
    · rw [hnb] at hr; cases hr
    · exact ⟨by assumption, hr⟩
  have hP : ∀ b, Nof κ st G w b → Nof κ (st.set d sv) G w b := by
    intro b hb
    refine ⟨hb.1, fun hp => hb.2 ?_⟩
    rcases hp with ⟨r, h1, h2⟩ | ⟨c, p, h1, h2⟩
    · exact .inl ⟨r, (hbox r h1).2, h2⟩
    · exact .inr ⟨c, p, h1, h2⟩
  refine h.step hd (KeepX.refl _ _ _) hP (fun _ _ => rfl) (fun k hk => .inl (by simp [St.set, upd, hk])) ?_ (fun _ _ _ _ _ => rfl) (fun _ _ _ _ _ => rfl) (fun _ _ _ _ => ⟨rfl, rfl⟩) ?_ ?_ ?_ ?_ ?_ ?_
  · have : (st.set d sv).s d = sv := by simp [St.set, upd]
    rw [this]
    exact hok.frame hP (fun _ _ => rfl) (fun _ _ => rfl) (fun _ _ => rfl) (fun hx => ⟨rfl, rfl⟩)
  · intro c sz es hc
    obtain ⟨h1, h2, h3⟩ := h.objs c sz es hc
    exact ⟨RepC.frame hP (fun _ _ => rfl) _ _ _ (fun _ _ => rfl) h1, h2, h3⟩
  · exact fun r hr => h.boxes r (hbox r hr).2
  · exact fun r r' h1 h2 => h.bb r r' (hbox r h1).2 (hbox r' h2).2
  · exact fun r c p h1 h2 => h.bo r c p (hbox r h1).2 h2
  · exact fun c c' p p' h1 h2 => h.oo c c' p p' h1 h2
  · exact fun _ _ => rfl

theorem R.set {κ : Ctx} {st : St} {a : Act} {w : World} {d : Nat} {v : Value} {sv : SlotV} (G : Gh) (h : RG κ G st a w) (hd : d < κ.nt) (hnb : isBox sv = false)
    (hok : SlotOk (Nof κ st G w) w G d v sv) : R κ (st.set d sv) (a.put (some d) v) w := ⟨G, h.set hd hnb hok⟩
end Go.Av
