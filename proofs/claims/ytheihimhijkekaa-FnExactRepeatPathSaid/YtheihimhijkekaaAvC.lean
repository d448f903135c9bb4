/- A part of the proof: lemmas only; nothing is claimed here beyond what each lemma says. -/
/- Facts about types; one state says less than another. -/
import Derived.Test.YtheihimhijkekaaAvB
set_option linter.unusedSimpArgs false
set_option linter.unusedVariables false
set_option linter.defProp false
namespace Go.Av

/-! ### Types -/
def TypeDesc.agg' : TypeDesc → Bool
  | .struct _ | .array _ _ => true
  | _ => false
theorem TyIs.mk' {P : Program} {T n : Nat} {agg : Bool} {d : TypeDesc} {i : TypeInfo} (h1 : P.underlying T = some d) (h2 : P.info? T = some i) (h3 : i.size = n) (h4 : TypeDesc.agg' d = agg) : TyIs P T agg n := ⟨d, i, h1, h2, h3, by rw [← h4]; cases d <;> rfl⟩
theorem FieldIs.mk' {P : Program} {T k off : Nat} {fs : Array Field} {f : Field} {i : TypeInfo} (h1 : P.underlying T = some (.struct fs)) (h2 : fs[k]? = some f) (h3 : f.offset = off) (h4 : P.info? f.type = some i) (h5 : i.size ≠ 0) : FieldIs P T k off := ⟨fs, f, i, h1, h2, h3, h4, h5⟩
theorem SlIs.mk' {P : Program} {T e sz bytes : Nat} {i : TypeInfo} {z : Value} (h1 : P.underlying T = some (.slice e)) (h2 : P.info? e = some i) (h3 : i.size = sz) (h4 : i.bytes = bytes) (h5 : i.zero = some z) (h6 : z.cells.size = sz) (h7 : 0 < sz) : SlIs P T sz bytes := ⟨e, i, z, h1, h2, h3, h4, h5, h6, h7⟩

mutual
def PV.zcs : PV → List Value
  | .lit v => [v]
  | .agg fs => PV.zcss fs
  | .sl _ _ _ => [.slice none 0 0]
  | _ => []
def PV.zcss : List PV → List Value
  | [] => []
  | p :: ps => p.zcs ++ PV.zcss ps
end
mutual
def PV.zok : PV → Bool
  | .lit v => v.oneCell'
  | .agg fs => PV.zoks fs
  | .sl true _ [] => true
  | _ => false
def PV.zoks : List PV → Bool
  | [] => true
  | p :: ps => p.zok && PV.zoks ps
end
mutual
def CV.zcs : CV → List Value
  | .pv p => p.zcs
  | .node fs => CV.zcss fs
  | _ => []
def CV.zcss : List CV → List Value
  | [] => []
  | p :: ps => p.zcs ++ CV.zcss ps
end
mutual
def CV.zok : CV → Bool
  | .pv p => p.zok
  | .node fs => CV.zoks fs
  | _ => false
def CV.zoks : List CV → Bool
  | [] => true
  | p :: ps => p.zok && CV.zoks ps
end
section
variable {N : Nat → Prop} {w : World} {hd : Nat → Value}
mutual
theorem PV.zrep : ∀ p : PV, p.zok = true → RepC N w p p.zcs []
  | .lit v, h => by simp only [PV.zok] at h; simp [RepC, PV.zcs, h]
  | .agg fs, h => by simp only [PV.zok] at h; simpa only [RepC, PV.zcs] using PV.zreps fs h
  | .sl true _ [], h => by simp [RepC, PV.zcs]
  | .sl true _ (_ :: _), h => by simp [PV.zok] at h
  | .sl false _ _, h => by simp [PV.zok] at h
  | .clo _ _, h => by simp [PV.zok] at h
  | .ptr _, h => by simp [PV.zok] at h
  | .tup _, h => by simp [PV.zok] at h
theorem PV.zreps : ∀ ps : List PV, PV.zoks ps = true → RepCs N w ps (PV.zcss ps) []
  | [], h => by simp [RepCs, PV.zcss]
  | p :: ps, h => by
    simp only [PV.zoks, Bool.and_eq_true] at h
    simp only [RepCs, PV.zcss]
    exact ⟨_, _, [], [], rfl, rfl, PV.zrep p h.1, PV.zreps ps h.2⟩
end
mutual
theorem CV.zrep : ∀ p : CV, p.zok = true → RepCV N w hd p p.zcs
  | .pv p, h => by simp only [CV.zok] at h; simpa only [RepCV, CV.zcs] using PV.zrep p h
  | .node fs, h => by simp only [CV.zok] at h; simpa only [RepCV, CV.zcs] using CV.zreps fs h
  | .own _, h => by simp [CV.zok] at h
  | .gone _, h => by simp [CV.zok] at h
theorem CV.zreps : ∀ ps : List CV, CV.zoks ps = true → RepCVs N w hd ps (CV.zcss ps)
  | [], h => by simp [RepCVs, CV.zcss]
  | p :: ps, h => by
    simp only [CV.zoks, Bool.and_eq_true] at h
    simp only [RepCVs, CV.zcss]
    exact ⟨_, _, rfl, CV.zrep p h.1, CV.zreps ps h.2⟩
end
end
theorem ZeroIs.agg {P : Program} {T : Nat} {x : CV} {i : TypeInfo} (h1 : P.info? T = some i) (h2 : i.zero = some (.agg x.zcs.toArray)) (h3 : x.isAgg = true) (h4 : x.zok = true) : ZeroIs P T x :=
  ⟨i, _, h1, h2, fun N w hd => .inl ⟨h3, _, rfl, CV.zrep x h4⟩⟩
theorem ZeroIs.one {P : Program} {T : Nat} {x : CV} {i : TypeInfo} {z : Value} (h1 : P.info? T = some i) (h2 : i.zero = some z) (h3 : x.isAgg = false) (h4 : x.zok = true) (h5 : x.zcs = [z]) (h6 : z.oneCell' = true) : ZeroIs P T x :=
  ⟨i, z, h1, h2, fun N w hd => .inr ⟨h3, h5 ▸ CV.zrep x h4, h6⟩⟩
theorem ElemZero.mk' {P : Program} {T e : Nat} {p : PV} (h1 : P.underlying T = some (.slice e)) (h2 : ZeroIs P e (.pv p)) : ElemZero P T p := ⟨e, h1, h2⟩

/-! ### Less is said -/
def SlotV.fgt (v v' : SlotV) : Prop := v' = v ∨ v' = .dead
theorem St.le_forget {st st' : St} (hs : ∀ k, st'.s k = st.s k ∨ st'.s k = .dead) (ho : ∀ c, st'.o c = st.o c ∨ st'.o c = none) : st.le st' := by
  rintro κ a w ⟨G, hG⟩
  have hbox : ∀ r, isBox (st'.s r) = true → isBox (st.s r) = true ∧ st'.s r = st.s r := by
    intro r hr
    rcases hs r with h | h
    · exact ⟨h ▸ hr, h⟩
    · rw [h] at hr; cases hr
  have hobj : ∀ c p, st'.o c = some p → st.o c = some p := by
    intro c p hp
    rcases ho c with h | h
    · exact h ▸ hp
    · rw [h] at hp; cases hp
  have hpriv : ∀ b, Priv st' G b → Priv st G b := by
    rintro b (⟨r, h1, h2⟩ | ⟨c, p, h1, h2⟩)
    · exact .inl ⟨r, (hbox r h1).1, h2⟩
    · exact .inr ⟨c, p, hobj c p h1, h2⟩
  have hN : ∀ b, Nof κ st G w b → Nof κ st' G w b := fun b hb => ⟨hb.1, fun h => hb.2 (hpriv b h)⟩
  refine ⟨G, hG.keep, hG.defers, hG.nt, ?_, ?_, fun r hr => hG.boxes r (hbox r hr).1, fun r r' hr hr' => hG.bb r r' (hbox r hr).1 (hbox r' hr').1, fun r c p hr hp => hG.bo r c p (hbox r hr).1 (hobj c p hp), fun c c' p p' hp hp' => hG.oo c c' p p' (hobj c p hp) (hobj c' p' hp'), hG.held⟩
  · intro k
    rcases hs k with h | h
    · rw [h]
      exact (hG.slots k).frame hN (fun _ _ => rfl) (fun _ _ => rfl) (fun _ _ => rfl) (fun _ => ⟨rfl, rfl⟩)
    · rw [h]; trivial
  · intro c sz es hc
    obtain ⟨h1, h2, h3⟩ := hG.objs c sz es (hobj c _ hc)
    exact ⟨h1.frame hN (fun _ _ => rfl) _ _ _ (fun _ _ => rfl), h2, h3⟩
end Go.Av
