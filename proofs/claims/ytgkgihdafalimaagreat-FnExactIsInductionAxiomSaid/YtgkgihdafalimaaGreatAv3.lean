/- A part of the proof: lemmas only; nothing is claimed here beyond what each lemma says. -/
/- One operation: what it reads of an abstract state, what it writes, and that this is sound. -/
import Derived.Test.YtgkgihdafalimaaGreatAv2
set_option linter.unusedSimpArgs false
set_option linter.unusedVariables false
set_option linter.defProp false
namespace Go.Av

/-- What one operation looks at (slots, objects), which names must be new, and what it writes. -/
structure Rec where
  rs : List Nat := []
  ro : List Nat := []
  fr : List Nat := []
  fc : List Nat := []
  us : List (Nat × SlotV) := []
  uo : List (Nat × Option (Nat × List PV)) := []

def updAll {α : Type} (f : Nat → α) : List (Nat × α) → Nat → α
  | [] => f
  | (k, v) :: l => updAll (upd f k v) l

def St.app (st : St) (r : Rec) : St := { s := updAll st.s r.us, o := updAll st.o r.uo }

def St.noR (st : St) (r : Nat) : Prop := ∀ k, (st.s k).noR r = true
def St.noC (st : St) (c : Nat) : Prop := (c < 10000 ∧ st.o c = none) ∧ ∀ k, (st.s k).noC c = true

def Rec.same (r : Rec) (st st' : St) : Prop := (∀ k ∈ r.rs, st'.s k = st.s k) ∧ (∀ c ∈ r.ro, st'.o c = st.o c)
def Rec.fresh (r : Rec) (st : St) : Prop := (∀ k ∈ r.fr, st.noR k) ∧ (∀ c ∈ r.fc, st.noC c)

/-- The operation, in every state that looks alike to it: it does what the record says. -/
def Valid (P : Program) (nt : Nat) (o : Oper) (st : St) (r : Rec) : Prop :=
  ∀ κ st' a w, κ.nt = nt → r.same st st' → r.fresh st' → R κ st' a w → ∀ (next : Act → World → Prop) (Q : Exit → Act → World → Prop),
    (∀ a' w', R κ (st'.app r) a' w' → next a' w') → o.wp P a w next Q

/-! ### Operands -/
def eSize (P : Program) (T : TypeId) : Nat :=
  match P.underlying T with
  | some (.slice e) => ((P.info? e).map (·.size)).getD 0
  | _ => 0

def constSV (P : Program) (T : TypeId) : Value → SlotV
  | .slice none 0 0 => .val (.pv (.sl true (eSize P T) []))
  | .agg _ | .tuple _ => .dead
  | .slice _ _ _ => .dead
  | v => .val (.pv (.lit v))

def ptrOf (k : Nat) : SlotV → SlotV
  | .box _ => .bptr k [] 0
  | .hold sh ps _ => .hptr k sh ps
  | v => v

def ev (P : Program) (st : St) (T : TypeId) : Operand → SlotV
  | .tmp t => ptrOf t (st.s t)
  | .const v => constSV P T v
  | .func f => .val (.pv (.clo f []))
  | .global _ => .dead

def rd : Operand → List Nat
  | .tmp t => [t]
  | _ => []

theorem ev_congr {P : Program} {st st' : St} {T : TypeId} {x : Operand} (h : ∀ k ∈ rd x, st'.s k = st.s k) : ev P st' T x = ev P st T x := by
  cases x with
  | tmp t => simp only [ev]; rw [h t (by simp [rd])]
  | _ => rfl

theorem ev_notBox {P : Program} {st : St} {T : TypeId} {x : Operand} : isBox (ev P st T x) = false := by
  cases x with
  | tmp t => simp only [ev]; cases st.s t <;> rfl
  | const v => simp only [ev, constSV]; split <;> rfl
  | func f => rfl
  | global g => rfl

theorem constSV_ok {P : Program} {T : TypeId} {N : Nat → Prop} {w : World} {G : Gh} (k : Nat) (v : Value) : SlotOk N w G k v (constSV P T v) := by
  unfold constSV
  split
  · exact .inr ⟨rfl, by simp [RepCV, RepC], rfl⟩
  · trivial
  · trivial
  · trivial
  · rename_i h1 h2 h3 h4
    have : v.oneCell' = true := by
      cases v <;> first | rfl | (exact absurd rfl (h2 _)) | (exact absurd rfl (h3 _))
    exact .inr ⟨rfl, by simp [RepCV, RepC, this], this⟩

theorem ev_ok {κ : Ctx} {G : Gh} {st : St} {a : Act} {w : World} {P : Program} {T : TypeId} (h : RG κ G st a w) (x : Operand) (k : Nat) : SlotOk (Nof κ st G w) w G k (a.eval x) (ev P st T x) := by
  cases x with
  | tmp t =>
    have h1 := h.slots t
    simp only [ev, Act.eval]
    cases hs : st.s t with
    | box x => rw [hs] at h1; simp only [ptrOf, SlotOk]; exact h1.1
    | dead => trivial
    | val x => rw [hs] at h1; exact h1
    | tup xs => rw [hs] at h1; exact h1
    | bptr r p off => rw [hs] at h1; exact h1
    | eptr c sz i p off => rw [hs] at h1; exact h1
    | fn cs rs ps f => rw [hs] at h1; exact h1
    | hold sh ps x => rw [hs] at h1; obtain ⟨vals, h2, h3, _⟩ := h1; exact ⟨vals, h2, h3⟩
    | hptr r sh ps => rw [hs] at h1; exact h1
    | ex Q => rw [hs] at h1; exact h1
  | const v => exact constSV_ok k v
  | func f => exact .inr ⟨rfl, by simp [RepCV, RepC, RepCs, Act.eval], rfl⟩
  | global g => trivial

/-! ### The plainest step: one value, the world stays -/
theorem valid_pure {P : Program} {nt : Nat} {o : Oper} {st : St} {d : Nat} {sv : SlotV} {rs ro : List Nat} (hdst : o.dst = some d) (hd : d < nt) (hnb : isBox sv = false)
    (H : ∀ κ G st' a w, κ.nt = nt → Rec.same { rs := rs, ro := ro } st st' → RG κ G st' a w →
      ∃ v, (execOp a.eval o).run P w = .ok (.value v) w ∧ SlotOk (Nof κ st' G w) w G d v sv) :
    Valid P nt o st { rs := rs, ro := ro, us := [(d, sv)] } := by
  intro κ st' a w hnt hsame _ hR next Q hnext
  obtain ⟨G, hG⟩ := hR
  obtain ⟨v, hrun, hok⟩ := H κ G st' a w hnt hsame hG
  unfold Oper.wp
  rw [hrun]
  simp only [Oper.upon]
  rw [hdst]
  refine hnext _ _ ?_
  have := R.set G hG (by rw [hnt]; exact hd) hnb hok
  simpa [St.app, updAll, St.set] using this

theorem valid_move {P : Program} {nt : Nat} {o : Oper} {st : St} {d : Nat} {x : Operand} {T : TypeId} (hop : o.op = .move x ∨ o.op = .assign x) (hdst : o.dst = some d) (hd : d < nt) :
    Valid P nt o st { rs := rd x, us := [(d, ev P st T x)] } := by
  refine valid_pure hdst hd ev_notBox ?_
  intro κ G st' a w _ hsame hG
  refine ⟨a.eval x, by rcases hop with e | e <;> simp [execOp, e], ?_⟩
  rw [← ev_congr (P := P) (T := T) hsame.1]
  exact ev_ok hG x d

theorem ev_lit {κ : Ctx} {G : Gh} {st st' : St} {a : Act} {w : World} {P : Program} {T : TypeId} (h : RG κ G st' a w) {x : Operand} {v : Value} (hx : ev P st T x = .val (.pv (.lit v)))
    (hs : ∀ k ∈ rd x, st'.s k = st.s k) : a.eval x = v := by
  have := ev_ok (P := P) (T := T) h x 0
  rw [ev_congr hs, hx] at this
  rcases this with ⟨h1, _⟩ | ⟨_, h2, _⟩
  · simp [CV.isAgg] at h1
  · simp only [RepCV, RepC] at h2
    simpa using h2.1

theorem valid_pick {P : Program} {nt : Nat} {o : Oper} {st : St} {d : Nat} {c x y : Operand} {t : Bool} {T1 T : TypeId} (hop : o.op = .pick c x y) (hdst : o.dst = some d) (hd : d < nt)
    (hc : ev P st T1 c = .val (.pv (.lit (.bool t)))) : Valid P nt o st { rs := rd c ++ rd (if t then x else y), us := [(d, ev P st T (if t then x else y))] } := by
  refine valid_pure hdst hd ev_notBox ?_
  intro κ G st' a w _ hsame hG
  have e1 := ev_lit hG hc (fun k hk => hsame.1 k (by simp [hk]))
  refine ⟨a.eval (if t then x else y), ?_, ?_⟩
  · cases t <;> simp [execOp, hop, e1, asBool]
  · rw [← ev_congr (P := P) (T := T) (fun k hk => hsame.1 k (by simp [hk]))]
    exact ev_ok hG _ d

theorem slotOk_lit {N : Nat → Prop} {w : World} {G : Gh} {k : Nat} {v : Value} (h : v.oneCell' = true) : SlotOk N w G k v (.val (.pv (.lit v))) :=
  .inr ⟨rfl, by simp [RepCV, RepC, h], h⟩

/-- What an operation on two words gives, for what comes next. -/
def binK (P : Program) (T : TypeId) (op : BinOp) (x y : Value) (K : Value → Prop) : Prop :=
  match x, y with
  | .int k a, .int k' b =>
    match op with
    | .shl => 0 ≤ b ∧ K (.int k (k.wrap (a * 2 ^ (min b.toNat k.bits))))
    | .shr => 0 ≤ b ∧ K (.int k (a.fdiv (2 ^ (min b.toNat k.bits))))
    | .add => k = k' ∧ K (.int k (k.wrap (a + b)))
    | .sub => k = k' ∧ K (.int k (k.wrap (a - b)))
    | .mul => k = k' ∧ K (.int k (k.wrap (a * b)))
    | .quo => k = k' ∧ b ≠ 0 ∧ K (.int k (k.wrap (a.tdiv b)))
    | .rem => k = k' ∧ b ≠ 0 ∧ K (.int k (a.tmod b))
    | .and => k = k' ∧ K (.int k (k.wrap (BitVec.ofInt k.bits a &&& BitVec.ofInt k.bits b).toNat))
    | .or => k = k' ∧ K (.int k (k.wrap (BitVec.ofInt k.bits a ||| BitVec.ofInt k.bits b).toNat))
    | .xor => k = k' ∧ K (.int k (k.wrap (BitVec.ofInt k.bits a ^^^ BitVec.ofInt k.bits b).toNat))
    | .andNot => k = k' ∧ K (.int k (k.wrap (BitVec.ofInt k.bits a &&& ~~~BitVec.ofInt k.bits b).toNat))
    | .eql => k = k' ∧ K (.bool (decide (a = b)))
    | .neq => k = k' ∧ K (.bool (!decide (a = b)))
    | .lss => k = k' ∧ K (.bool (decide (a < b)))
    | .leq => k = k' ∧ K (.bool (decide (a ≤ b)))
    | .gtr => k = k' ∧ K (.bool (decide (b < a)))
    | .geq => k = k' ∧ K (.bool (decide (b ≤ a)))
  | .string a, .string b =>
    match op with
    | .add => a.size + b.size ≤ 9223372036854775807 ∧ K (.string (a ++ b))
    | .eql => K (.bool (decide (a = b)))
    | .neq => K (.bool (!decide (a = b)))
    | .lss => K (.bool (Op.bytesLess a.data.toList b.data.toList))
    | .gtr => K (.bool (!(Op.bytesLess a.data.toList b.data.toList || decide (a = b))))
    | .leq => K (.bool (Op.bytesLess a.data.toList b.data.toList || decide (a = b)))
    | .geq => K (.bool (!Op.bytesLess a.data.toList b.data.toList))
    | _ => False
  | .bool a, .bool b =>
    match op with
    | .eql => P.underlying T = some .bool ∧ K (.bool (a == b))
    | .neq => P.underlying T = some .bool ∧ K (.bool (!(a == b)))
    | _ => False
  | _, _ => False


theorem data_beq (a b : ByteArray) : (a.data == b.data) = decide (a = b) := by
  rw [Bool.eq_iff_iff]
  simp only [beq_iff_eq, decide_eq_true_eq]
  constructor
  · intro h; cases a; cases b; simpa using h
  · rintro rfl; rfl
theorem run_equalIn_bool {P : Program} {T : TypeId} (hb : P.underlying T = some .bool) (d : Nat) (a b : Bool) (w : World) : (Op.equalIn (d + 1) T (.bool a) (.bool b)).run P w = .ok (a == b) w := by
  simp [Op.equalIn, run_underlying hb]
theorem run_equal_bool {P : Program} {T : TypeId} (hb : P.underlying T = some .bool) (a b : Bool) (w : World) : (Op.equal T (.bool a) (.bool b)).run P w = .ok (a == b) w :=
  run_equalIn_bool hb 9999 a b w

theorem binK_run {P : Program} {T : TypeId} {op : BinOp} {x y : Value} {K : Value → Prop} (h : binK P T op x y K) :
    ∃ v, v.oneCell' = true ∧ (∀ (xo yo : Operand) (w : World), (do eqGuard op T xo yo x y; binOp op T x y : Sem Value).run P w = .ok v w) ∧ K v := by
  unfold binK at h
  split at h
  · cases op <;> simp only at h
    all_goals first
      | (obtain ⟨rfl, hb, hK⟩ := h; exact ⟨_, rfl, fun xo yo w => by simp [eqGuard, binOp, Op.intArith, Op.intDiv, Op.intBits, Op.intCmp, hb], hK⟩)
      | (obtain ⟨rfl, hK⟩ := h; exact ⟨_, rfl, fun xo yo w => by simp [eqGuard, binOp, Op.intArith, Op.intDiv, Op.intBits, Op.intCmp, BEq.beq, bne], hK⟩)
      | (obtain ⟨hb, hK⟩ := h; exact ⟨_, rfl, fun xo yo w => by simp [eqGuard, binOp, Op.shift, Int.not_lt.2 hb], hK⟩)
  · rename_i a b
    cases op <;> simp only at h
    case add =>
      obtain ⟨hb, hK⟩ := h
      refine ⟨_, rfl, fun xo yo w => ?_, hK⟩
      have hb' : ¬ (9223372036854775807 : Int) < (a.size : Int) + (b.size : Int) := by omega
      simp [eqGuard, binOp, Op.stringOp, IntKind.max, IntKind.signed, IntKind.bits, hb']
    all_goals first
      | exact h.elim
      | exact ⟨_, rfl, fun xo yo w => by simp [eqGuard, binOp, Op.stringOp, ByteArray.toList_eq, data_beq], h⟩
  · cases op <;> simp only at h
    all_goals first
      | exact h.elim
      | (obtain ⟨hb, hK⟩ := h; exact ⟨_, rfl, fun xo yo w => by simp [eqGuard, binOp, run_equal_bool hb], hK⟩)
  · exact h.elim

theorem valid_bin {P : Program} {nt : Nat} {o : Oper} {st : St} {d : Nat} {op : BinOp} {x y : Operand} {T T1 T2 U : TypeId} {vx vy v : Value} (hop : o.op = .binOp op T x y U) (hdst : o.dst = some d) (hd : d < nt)
    (hx : ev P st T1 x = .val (.pv (.lit vx))) (hy : ev P st T2 y = .val (.pv (.lit vy))) (hv : v.oneCell' = true)
    (hrun : ∀ (xo yo : Operand) (w : World), (do eqGuard op T xo yo vx vy; binOp op T vx vy : Sem Value).run P w = .ok v w) :
    Valid P nt o st { rs := rd x ++ rd y, us := [(d, .val (.pv (.lit v)))] } := by
  refine valid_pure hdst hd rfl ?_
  intro κ G st' a w _ hsame hG
  have e1 := ev_lit hG hx (fun k hk => hsame.1 k (by simp [hk]))
  have e2 := ev_lit hG hy (fun k hk => hsame.1 k (by simp [hk]))
  refine ⟨v, ?_, slotOk_lit hv⟩
  have := hrun x y w
  simp only [execOp, hop, e1, e2, Sem.run_bind, Sem.run_pure] at this ⊢
  rw [this]
  rfl

def unK (op : UnOp) (x : Value) (K : Value → Prop) : Prop :=
  match op, x with
  | .not, .bool b => K (.bool (!b))
  | .neg, .int k n => K (.int k (k.wrap (0 - n)))
  | _, _ => False
theorem unK_run {P : Program} {op : UnOp} {x : Value} {K : Value → Prop} (h : unK op x K) : ∃ v, v.oneCell' = true ∧ (∀ w : World, (Op.unary op x).run P w = .ok v w) ∧ K v := by
  unfold unK at h
  split at h
  · exact ⟨_, rfl, fun w => by simp [Op.unary], h⟩
  · exact ⟨_, rfl, fun w => by simp [Op.unary, Op.intArith], h⟩
  · exact h.elim
theorem valid_un {P : Program} {nt : Nat} {o : Oper} {st : St} {d : Nat} {op : UnOp} {x : Operand} {T T1 : TypeId} {vx v : Value} (hop : o.op = .unOp op T x) (hdst : o.dst = some d) (hd : d < nt)
    (hx : ev P st T1 x = .val (.pv (.lit vx))) (hv : v.oneCell' = true) (hrun : ∀ (w : World), (Op.unary op vx).run P w = .ok v w) :
    Valid P nt o st { rs := rd x, us := [(d, .val (.pv (.lit v)))] } := by
  refine valid_pure hdst hd rfl ?_
  intro κ G st' a w _ hsame hG
  have e1 := ev_lit hG hx (fun k hk => hsame.1 k (by simp [hk]))
  refine ⟨v, ?_, slotOk_lit hv⟩
  simp [execOp, hop, e1, hrun w]

theorem cvals_at {N : Nat → Prop} {w : World} {hd : Nat → Value} : ∀ {xs : List CV} {vs : List Value} (i : Nat) (x : CV), CVals N w hd xs vs → xs[i]? = some x → ∃ v, vs[i]? = some v ∧ CVal N w hd x v
  | [], _, _, _, _, hx => by simp at hx
  | y :: ys, vs, i, x, h, hx => by
    simp only [CVals] at h
    obtain ⟨v, vs', rfl, h1, h2⟩ := h
    cases i with
    | zero => simp at hx; subst hx; exact ⟨v, by simp, h1⟩
    | succ i => simp at hx; obtain ⟨u, h3, h4⟩ := cvals_at i x h2 hx; exact ⟨u, by simpa using h3, h4⟩

theorem valid_extract {P : Program} {nt : Nat} {o : Oper} {st : St} {d i : Nat} {x : Operand} {T1 : TypeId} {xs : List CV} {c : CV} (hop : o.op = .extract x i) (hdst : o.dst = some d) (hd : d < nt)
    (hx : ev P st T1 x = .tup xs) (hi : xs[i]? = some c) : Valid P nt o st { rs := rd x, us := [(d, .val c)] } := by
  refine valid_pure hdst hd rfl ?_
  intro κ G st' a w _ hsame hG
  have h1 := ev_ok (P := P) (T := T1) hG x 0
  rw [ev_congr hsame.1, hx] at h1
  obtain ⟨vs, h2, h3⟩ := h1
  obtain ⟨v, h4, h5⟩ := cvals_at i c h3 hi
  exact ⟨v, by simp [execOp, hop, h2, Instr.extract, h4], h5⟩

/-! ### Addresses -/
def FieldIs (P : Program) (T : TypeId) (k off : Nat) : Prop :=
  ∃ fs f i, P.underlying T = some (.struct fs) ∧ fs[k]? = some f ∧ f.offset = off ∧ P.info? f.type = some i ∧ i.size ≠ 0

def addF (sv : SlotV) (k off : Nat) (K : SlotV → Prop) : Prop :=
  match sv with
  | .bptr r p o => K (.bptr r (p ++ [k]) (o + off))
  | .eptr c sz i p o => K (.eptr c sz i (p ++ [k]) (o + off))
  | .val (.pv (.ptr v)) => (∃ fs, v = .agg fs ∧ PV.sizes (fs.take k) = off ∧ k < fs.length) ∧ K (.val (.pv (.ptr (match v with | .agg fs => fs.getD k default | v => v))))
  | _ => False

theorem add_off (a : Addr) (n : Nat) (h : a.spot = none) : a.add n = ⟨a.block, a.off + n, none⟩ := by
  unfold Addr.add
  split
  · rename_i h0; subst h0; cases a; simp_all
  · cases a; simp_all

theorem run_fieldAt {P : Program} {T : TypeId} {k off : Nat} (h : FieldIs P T k off) (a : Addr) (w : World) (hs : a.spot = none) :
    (Instr.fieldAt T (.pointer (some a)) k).run P w = .ok (.pointer (some ⟨a.block, a.off + off, none⟩)) w := by
  obtain ⟨fs, f, i, h1, h2, h3, h4, h5⟩ := h
  simp [Instr.fieldAt, run_underlying h1, h2, Instr.sureAddr, fieldPlace, sizeOf, typeInfo, h4, h5, h3, add_off _ _ hs]

theorem RowAt.sub {w : World} {a : Addr} {c1 c2 c3 : List Value} (h : RowAt w a (c1 ++ c2 ++ c3)) : RowAt w ⟨a.block, a.off + c1.length, none⟩ c2 := by
  intro j u hu
  have := h (c1.length + j) u (by
    rw [List.append_assoc, List.getElem?_append_right (by omega), Nat.add_sub_cancel_left, List.getElem?_append_left (List.getElem?_eq_some_iff.1 hu).1]
    exact hu)
  simpa [Nat.add_assoc] using this

theorem slotOk_ptr_field {N : Nat → Prop} {w : World} {G : Gh} {k j off : Nat} {fs : List PV} {v : Value} (h : SlotOk N w G j v (.val (.pv (.ptr (.agg fs))))) (hk : k < fs.length) (ho : PV.sizes (fs.take k) = off) :
    ∃ a : Addr, v = .pointer (some a) ∧ a.spot = none ∧ SlotOk N w G j (.pointer (some ⟨a.block, a.off + off, none⟩)) (.val (.pv (.ptr (fs.getD k default)))) := by
  rcases h with ⟨h1, _⟩ | ⟨_, h2, h3⟩
  · simp [CV.isAgg] at h1
  · simp only [RepCV, RepC] at h2
    obtain ⟨ad, ccs, g1, _, g3, g4, g5, g6⟩ := h2
    simp at g1
    refine ⟨ad, g1, g3, .inr ⟨rfl, ?_, rfl⟩⟩
    have hg : fs[k]? = some (fs.getD k default) := by simp [List.getD, hk]
    obtain ⟨c1, c2, c3, F1, F2, F3, e1, e2, e3, e4, e5, e6⟩ := RepCs.at fs k _ ccs [] g6 hg
    have hF : F2 = [] := by
      have := congrArg List.length e2; simp at this; exact List.eq_nil_of_length_eq_zero (by omega)
    subst hF
    simp only [RepCV, RepC]
    refine ⟨⟨ad.block, ad.off + off, none⟩, c2, rfl, trivial, rfl, g4, ?_, e4⟩
    rw [e1] at g5
    have := g5.sub
    rw [e3, ho] at this
    exact this

theorem valid_fieldAddr {P : Program} {nt : Nat} {o : Oper} {st : St} {d k off : Nat} {x : Operand} {T T1 : TypeId} {sv : SlotV} (hop : o.op = .fieldAddr T x k) (hdst : o.dst = some d) (hd : d < nt)
    (hf : FieldIs P T k off) (hx : addF (ev P st T1 x) k off (· = sv)) : Valid P nt o st { rs := rd x, us := [(d, sv)] } := by
  have hnb : isBox sv = false := by
    unfold addF at hx; split at hx
    · subst hx; rfl
    · subst hx; rfl
    · obtain ⟨_, rfl⟩ := hx; rfl
    · exact hx.elim
  refine valid_pure hdst hd hnb ?_
  intro κ G st' a w _ hsame hG
  have h1 := ev_ok (P := P) (T := T1) hG x d
  rw [ev_congr hsame.1] at h1
  unfold addF at hx
  split at hx
  · rename_i r p o' he
    rw [he] at h1
    simp only [SlotOk] at h1
    subst hx
    exact ⟨_, by simp [execOp, hop, h1, run_fieldAt hf ⟨G.ad r, o', none⟩ w rfl], rfl⟩
  · rename_i c sz i p o' he
    rw [he] at h1
    obtain ⟨b, n, cap, h2, h3⟩ := h1
    subst hx
    exact ⟨.pointer (some ⟨b, i * sz + o' + off, none⟩), by simp [execOp, hop, h3, run_fieldAt hf ⟨b, i * sz + o', none⟩ w rfl], b, n, cap, h2, by rw [Nat.add_assoc]⟩
  · rename_i v he
    obtain ⟨⟨fs, rfl, ho, hk⟩, rfl⟩ := hx
    rw [he] at h1
    obtain ⟨ad, h2, h3, h4⟩ := slotOk_ptr_field h1 hk ho
    exact ⟨_, by simp [execOp, hop, h2, run_fieldAt hf ad w h3], h4⟩
  · exact hx.elim
end Go.Av
