/- A part of the proof: lemmas only; nothing is claimed here beyond what each lemma says. -/
import Derived.Test.YtgbddapcjhgllaaGreatGm
import Derived.Test.YtgbddapcjhgllaaGreatAvQ
set_option linter.unusedSimpArgs false
set_option linter.unusedVariables false
set_option linter.defProp false
set_option maxRecDepth 4000
namespace Go.Proofs.YtgbddapcjhgllaaGreat
open Go.Av
theorem szIntS_eq (a : List Int) (h : LOk InR a) (l : Int) (h0 : 0 ≤ l) (h1 : l ≤ 1048576) : szIntS a l = some (szR (ltot (fun _ => 0) a) l) := by
  unfold szIntS
  exact szLflat h.1 h0 h1
theorem toIntS_eq (a : List Int) (h : ltot (fun _ => 0) a ≤ 1048576) : toIntS a = some a := by
  unfold toIntS
  exact toLplain (by have := ltot_len (fun _ => 0) a; omega)
theorem eqIntS_refl (a : List Int) : eqIntS a a = some true := by
  unfold eqIntS
  exact eqLplain
theorem eqStringS_refl (a : List ByteArray) : eqStringS a a = some true := by
  unfold eqStringS
  exact eqLplain
mutual
def Term.tot : Term → Nat
  | .mk x0 x1 => ByteArray.size x0 + (Term.tots x1)
def Term.tots : List Term → Nat
  | [] => 0
  | a :: l => 1 + a.tot + Term.tots l
end
theorem Term.tots_eq (l : List Term) : Term.tots l = ltot Term.tot l := by
  induction l with
  | nil => rfl
  | cons a l ih => simp only [Term.tots, ih, ltot, List.length_cons, List.map_cons, List.sum_cons]; omega
theorem Term.tot_mk (x0 : ByteArray) (x1 : List Term) : (Term.mk x0 x1).tot = ByteArray.size x0 + ((ltot Term.tot) x1) := by rw [Term.tot, Term.tots_eq]
inductive Term.Ok : Term → Prop
  | mk (x0 : ByteArray) (x1 : List Term) (h0 : (fun s : ByteArray => Big s.size) x0) (h1 : Big x1.length) (g1 : ∀ a ∈ x1, Term.Ok a) : Term.Ok (.mk x0 x1)
theorem Term.Ok.u {a : Term} (h : a.Ok) : (fun s : ByteArray => Big s.size) a.Name ∧ (LOk Term.Ok) a.Args := by cases h with | mk _ _ h0 h1 g1 => exact ⟨h0, ⟨h1, g1⟩⟩
theorem szTermN_eq (a : Term) : a.Ok → ∀ n, 2 * SizeOf.sizeOf a ≤ n → ∀ l : Int, 0 ≤ l → l ≤ 1048576 → szTermN n a l = some (szR a.tot l) := by
  refine Term.ind (M := fun a => a.Ok → ∀ n, 2 * SizeOf.sizeOf a ≤ n → ∀ l : Int, 0 ≤ l → l ≤ 1048576 → szTermN n a l = some (szR a.tot l)) (fun x0 x1 ih hok n hn l h0 h1 => ?_) a
  cases hok with
  | mk _ _ k0 k1 g1 =>
  cases n with
  | zero => simp only [Term.mk.sizeOf_spec] at hn; omega
  | succ n =>
    rw [szTermN, Term.tot_mk]
    show _ = some (szR _ l)
    simp only [Term.Name_mk, Term.Args_mk]
    refine szStrStepM h0 h1 k0 (fun h0 h1 => ?_)
    rw [(show szTermSN n x1 _ = some (szR (ltot Term.tot x1) _) from by
      cases n with
      | zero => simp only [Term.mk.sizeOf_spec] at hn; omega
      | succ n =>
        rw [szTermSN]
        exact szL (fun x hx l h0 h1 => ih x hx (g1 x hx) n (by have := List.sizeOf_lt_of_mem hx; simp only [Term.mk.sizeOf_spec] at hn; omega) l h0 h1) k1 h0 h1), Option.bind_some]
    exact szLast h0
theorem szTermS_eq (a : List Term) (h : LOk Term.Ok a) (l : Int) (h0 : 0 ≤ l) (h1 : l ≤ 1048576) : szTermS a l = some (szR (ltot Term.tot a) l) := by
  refine lim_eq ⟨2 * SizeOf.sizeOf a + 1, fun n hn => ?_⟩
  cases n with
  | zero => omega
  | succ n =>
    show szTermSN (n + 1) a l = _
    rw [szTermSN]
    exact szL (fun x hx l h0 h1 => szTermN_eq x (h.2 x hx) n (by have := List.sizeOf_lt_of_mem hx; omega) l h0 h1) h.1 h0 h1
theorem toTermN_eq (a : Term) : a.tot ≤ 1048576 → ∀ n, 2 * SizeOf.sizeOf a ≤ n → toTermN n a = some a := by
  refine Term.ind (M := fun a => a.tot ≤ 1048576 → ∀ n, 2 * SizeOf.sizeOf a ≤ n → toTermN n a = some a) (fun x0 x1 ih h n hn => ?_) a
  rw [Term.tot_mk] at h
  cases n with
  | zero => simp only [Term.mk.sizeOf_spec] at hn; omega
  | succ n =>
    rw [toTermN]
    simp only [Term.Name_mk, Term.Args_mk]
    rw [(show toTermSN n x1 = some x1 from by
      cases n with
      | zero => simp only [Term.mk.sizeOf_spec] at hn; omega
      | succ n =>
        rw [toTermSN]
        have := toL (f := toTermN n) (g := fun x => x) (z := (Term.mk (⟨#[]⟩ : ByteArray) ([]))) (xs := x1) (fun x hx => ih x hx (by have := tot_mem Term.tot hx; omega) n (by have := List.sizeOf_lt_of_mem hx; simp only [Term.mk.sizeOf_spec] at hn; omega)) (by have := ltot_len Term.tot x1; omega)
        simpa only [List.map_id'] using this), Option.bind_some]
theorem toTermS_eq (a : List Term) (h : ltot Term.tot a ≤ 1048576) : toTermS a = some a := by
  refine lim_eq ⟨2 * SizeOf.sizeOf a + 1, fun n hn => ?_⟩
  cases n with
  | zero => omega
  | succ n =>
    show toTermSN (n + 1) a = _
    rw [toTermSN]
    have := toL (f := toTermN n) (g := fun x => x) (z := (Term.mk (⟨#[]⟩ : ByteArray) ([]))) (xs := a) (fun x hx => toTermN_eq x (by have := tot_mem Term.tot hx; omega) n (by have := List.sizeOf_lt_of_mem hx; omega)) (by have := ltot_len Term.tot a; omega)
    simpa only [List.map_id'] using this
theorem eqTermN_refl (a : Term) : ∀ n, 2 * SizeOf.sizeOf a ≤ n → eqTermN n a a = some true := by
  refine Term.ind (M := fun a => ∀ n, 2 * SizeOf.sizeOf a ≤ n → eqTermN n a a = some true) (fun x0 x1 ih n hn => ?_) a
  cases n with
  | zero => simp only [Term.mk.sizeOf_spec] at hn; omega
  | succ n =>
    have hl : eqTermSN n x1 x1 = some true := by
      cases n with
      | zero => simp only [Term.mk.sizeOf_spec] at hn; omega
      | succ n =>
        rw [eqTermSN]
        exact eqL (fun x hx => ih x hx n (by have := List.sizeOf_lt_of_mem hx; simp only [Term.mk.sizeOf_spec] at hn; omega))
    rw [eqTermN]
    simp only [Term.Name_mk, Term.Args_mk, hl, decide_true, cond_true, Option.bind_some, beq_self_eq_true]
theorem eqTermS_refl (a : List Term) : eqTermS a a = some true := by
  refine lim_eq ⟨2 * SizeOf.sizeOf a + 1, fun n hn => ?_⟩
  cases n with
  | zero => omega
  | succ n =>
    show eqTermSN (n + 1) a a = _
    rw [eqTermSN]
    exact eqL (fun x hx => eqTermN_refl x n (by have := List.sizeOf_lt_of_mem hx; omega))
def Linear.tot (a : Linear) : Nat := (ltot ByteArray.size) a.Vars + ((ltot (fun _ => 0)) a.Slopes)
def Linear.Ok (a : Linear) : Prop := (LOk (fun s : ByteArray => Big s.size)) a.Vars ∧ (LOk InR) a.Slopes ∧ InR a.Constant
theorem eqLinear_refl (a : Linear) : eqLinear a a = some true := by
  unfold eqLinear
  simp only [decide_true, cond_true, Option.bind_some, beq_self_eq_true, eqStringS_refl, eqIntS_refl]
def Majorant.tot (a : Majorant) : Nat := ByteArray.size a.Name + ((ltot (fun _ => 0)) a.Slopes)
def Majorant.Ok (a : Majorant) : Prop := (fun s : ByteArray => Big s.size) a.Name ∧ (LOk InR) a.Slopes ∧ InR a.Constant
theorem szMajorant_eq (a : Majorant) (h : a.Ok) (l : Int) (h0 : 0 ≤ l) (h1 : l ≤ 1048576) : szMajorant a l = some (szR a.tot l) := by
  unfold szMajorant
  show _ = some (szR _ l)
  unfold Majorant.tot
  refine szStrStepM h0 h1 h.1 (fun h0 h1 => ?_)
  rw [szIntS_eq _ h.2.1 _ h0 h1, Option.bind_some]
  exact szLast h0
theorem toMajorant_eq (a : Majorant) (h : a.tot ≤ 1048576) : toMajorant a = some a := by
  unfold toMajorant
  unfold Majorant.tot at h
  rw [toIntS_eq _ (by omega), Option.bind_some]
theorem eqMajorant_refl (a : Majorant) : eqMajorant a a = some true := by
  unfold eqMajorant
  simp only [decide_true, cond_true, Option.bind_some, beq_self_eq_true, eqIntS_refl]
theorem szMajorantS_eq (a : List Majorant) (h : LOk Majorant.Ok a) (l : Int) (h0 : 0 ≤ l) (h1 : l ≤ 1048576) : szMajorantS a l = some (szR (ltot Majorant.tot a) l) := by
  unfold szMajorantS
  exact szL (fun x hx l h0 h1 => szMajorant_eq x (h.2 x hx) l h0 h1) h.1 h0 h1
theorem toMajorantS_eq (a : List Majorant) (h : ltot Majorant.tot a ≤ 1048576) : toMajorantS a = some a := by
  unfold toMajorantS
  have := toL (f := toMajorant) (g := fun x => x) (z := (Majorant.mk (⟨#[]⟩ : ByteArray) ([]) (0 : Int))) (xs := a) (fun x hx => toMajorant_eq x (by have := tot_mem Majorant.tot hx; omega)) (by have := ltot_len Majorant.tot a; omega)
  simpa only [List.map_id'] using this
theorem eqMajorantS_refl (a : List Majorant) : eqMajorantS a a = some true := by
  unfold eqMajorantS
  exact eqL (fun x _ => eqMajorant_refl x)
end Go.Proofs.YtgbddapcjhgllaaGreat
