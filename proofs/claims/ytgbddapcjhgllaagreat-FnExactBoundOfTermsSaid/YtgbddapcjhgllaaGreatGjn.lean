/- A part of the proof: lemmas only; nothing is claimed here beyond what each lemma says. -/
import Derived.Test.YtgbddapcjhgllaaGreatGmo
import Derived.Test.YtgbddapcjhgllaaGreatGxp
set_option linter.unusedSimpArgs false
set_option linter.unusedVariables false
set_option linter.defProp false
set_option maxRecDepth 4000
namespace Go.Proofs.YtgbddapcjhgllaaGreat
open Go.Av
def majI (xs : List Majorant) (x : ByteArray) (n : Nat) : Int := ffind (fun i => decide ((xs.getD i default).Name = x) && decide ((xs.getD i default).Slopes.length = n)) xs.length 0
theorem specFind (xs : List Majorant) (x : ByteArray) (n : Nat) : spec_l25Find xs x (n : Int) = some (majI xs x n) := by
  unfold spec_l25Find majI
  refine forN_ffind _ 0 (fun j _ hj => ?_)
  rw [idx_getD (by omega), Option.bind_some, Option.bind_some, show decide (((xs.getD j default).Slopes.length : Int) = (n : Int)) = decide ((xs.getD j default).Slopes.length = n) from decide_eq_decide.2 (by omega)]
  cases decide ((xs.getD j default).Name = x) <;> cases decide ((xs.getD j default).Slopes.length = n) <;> rfl
theorem implFind (xs : List Majorant) (t : Term) : impl_majorant xs t = some (majI xs t.Name t.Args.length) := by
  unfold impl_majorant slices_IndexFunc_Simpl_Majorant_impl_Majorant majI
  rw [forN_ffind (q := fun i => decide ((xs.getD i default).Name = t.Name) && decide ((xs.getD i default).Slopes.length = t.Args.length)) _ 0 (fun j _ hj => ?_), Option.bind_some]
  rw [idx_getD (by omega), Option.bind_some]
  simp only [impl_majorant_1]
  rw [show decide (((xs.getD j default).Slopes.length : Int) = (t.Args.length : Int)) = decide ((xs.getD j default).Slopes.length = t.Args.length) from decide_eq_decide.2 (by omega)]
  cases decide ((xs.getD j default).Name = t.Name) <;> cases decide ((xs.getD j default).Slopes.length = t.Args.length) <;> rfl
theorem isVar_good {t : Term} (hok : t.Ok) (h : t.good = true) : impl_isVar t = some (isVarS t.Name) := by
  rw [Term.good_u] at h
  unfold impl_isVar
  cases hv : isVarS t.Name
  · rw [hv, cond_false, Bool.and_eq_true, Bool.and_eq_true] at h
    have hs := h.1.1
    simp only [isSymS, Bool.and_eq_true, inR_iff] at hs
    have h0 : 0 < t.Name.size := by omega
    have hc := List.all_eq_true.1 hs.1.2 0 (by simp; omega)
    simp only [symC, if_pos, cLow, inR_iff] at hc
    rw [sidx0 h0, Option.bind_some, isUpper_eq, Option.bind_some]
    have : cUp (byt t.Name 0) = false := by
      cases hu : cUp (byt t.Name 0)
      · rfl
      · simp only [cUp, inR_iff] at hu; omega
    rw [this]
  · have hs := hv
    simp only [isVarS, Bool.and_eq_true, inR_iff] at hs
    have h0 : 0 < t.Name.size := by omega
    have hc := List.all_eq_true.1 hs.2 0 (by simp; omega)
    simp only [varC, if_pos] at hc
    rw [sidx0 h0, Option.bind_some, isUpper_eq, Option.bind_some, hc]

/-- A map read as a linear function. -/
def LM (M : GMap Int) (c : Int) : Linear := ⟨nzk M, (nzk M).map fun k => GMap.get M k 0, c⟩
theorem slopeZ_map (h : ByteArray → Int) (z : ByteArray) : ∀ L : List ByteArray, z ∈ L → slopeZ L (L.map h) z = h z
  | [], hz => by simp at hz
  | v :: L, hz => by
    simp only [List.map_cons, slopeZ]
    by_cases e : v = z
    · rw [if_pos e, e]
    · rw [if_neg e]
      exact slopeZ_map h z L ((List.mem_cons.1 hz).resolve_left (Ne.symm e))
theorem LM_slope {M : GMap Int} (hm : GOk M) (c : Int) (z : ByteArray) : slopeZ (LM M c).Vars (LM M c).Slopes z = GMap.get M z 0 := by
  show slopeZ (nzk M) ((nzk M).map fun k => GMap.get M k 0) z = _
  by_cases h : z ∈ nzk M
  · rw [slopeZ_map _ _ _ h]
  · rw [slopeZ_notin _ _ _ h]
    have := fun g => h ((nzk_mem hm z).2 g)
    exact (Classical.not_not.1 this).symm
structure BInv (j : Nat) (M : GMap Int) (c : Int) : Prop where
  ok : GOk M
  rg : ∀ z, 0 ≤ GMap.get M z 0 ∧ GMap.get M z 0 ≤ j * 100000000
  cr : 0 ≤ c ∧ c ≤ 100000 + j * 100000000
  big : ∀ k ∈ GMap.keys M, Big k.size
  len : M.es.length ≤ j * 8
theorem nzk_len (M : GMap Int) : (nzk M).length ≤ M.es.length := by
  have := (sortB_perm ((M.es.filter fun e => !decide (e.2.1 = 0)).map fun e => e.1)).length_eq
  have h2 := List.length_filter_le (fun e : ByteArray × Int × Nat => !decide (e.2.1 = 0)) M.es
  rw [List.length_map] at this
  unfold nzk; omega
theorem BInv.step {j : Nat} {M : GMap Int} {c : Int} (h : BInv j M c) (hj : j ≤ 4) {l : Linear} (hv : validL l = true) {f : Int} (f0 : 0 ≤ f) (f1 : f ≤ 1000) :
    spec_l25Plus (LM M c) l f = some (LM (foldP (plusU f) l.Vars l.Slopes M) (plusU f c l.Constant)) ∧ BInv (j + 1) (foldP (plusU f) l.Vars l.Slopes M) (plusU f c l.Constant) := by
  obtain ⟨b1, b2, b3, b4, b5, b6⟩ := validL_iff hv
  have hok := foldP_ok (plusU f) l.Vars l.Slopes M h.ok
  have hjz : (j : Int) * 100000000 ≤ 400000000 := by omega
  have hg : ∀ z, GMap.get (foldP (plusU f) l.Vars l.Slopes M) z 0 = plusU f (GMap.get M z 0) (slopeZ l.Vars l.Slopes z) := by
    intro z
    have s1 := h.rg z
    by_cases hz : z ∈ l.Vars
    · rw [foldP_in (plusU f) z _ _ _ b2.symm b4.nodup hz]
    · rw [foldP_out (plusU f) z _ _ _ hz, slopeZ_notin _ _ _ hz, plusU_zero s1.1 (by omega)]
  have hH : ∀ z, 0 ≤ plusU f (GMap.get M z 0) (slopeZ l.Vars l.Slopes z) ∧ plusU f (GMap.get M z 0) (slopeZ l.Vars l.Slopes z) ≤ GMap.get M z 0 + 100000000 := by
    intro z
    have s1 := h.rg z
    have s2 := slopeZ_bound hv z
    have := plusU_small (f := f) f0 f1 s1.1 (show GMap.get M z 0 ≤ 1000000000 by omega) s2.1 (by omega)
    omega
  have hcr := h.cr
  have hcc := plusU_small (f := f) (g := c) (s := l.Constant) f0 f1 hcr.1 (by omega) b3.1 b3.2
  have hnl := nzk_len M
  have hlen := h.len
  have hfl := foldP_len (plusU f) l.Vars l.Slopes M
  have hsub : ∀ z, z ∈ (namesOf (LM M c) l).filter (fun n => decide (0 < plusU f (GMap.get M n 0) (slopeZ l.Vars l.Slopes n))) ↔ GMap.get (foldP (plusU f) l.Vars l.Slopes M) z 0 ≠ 0 := by
    intro z
    have h0 := hH z
    rw [List.mem_filter, hg, decide_eq_true_eq]
    constructor
    · rintro ⟨_, h⟩; omega
    · intro h'
      refine ⟨Classical.byContradiction fun hno => h' ?_, by omega⟩
      rw [namesOf_mem, not_or] at hno
      have e1 : GMap.get M z 0 = 0 := Classical.not_not.1 fun g => hno.1 ((nzk_mem h.ok z).2 g)
      rw [e1, slopeZ_notin _ _ _ hno.2, plusU_zero (by omega) (by omega)]
  have hnz : nzk (foldP (plusU f) l.Vars l.Slopes M) = (namesOf (LM M c) l).filter (fun n => decide (0 < plusU f (GMap.get M n 0) (slopeZ l.Vars l.Slopes n))) := nzk_eq hok ((namesOf_srt _ l).filter _) hsub
  constructor
  · have := l25Plus_eq (LM M c) l f (by simp [LM]) b2 (by show (nzk M).length + _ ≤ _; omega)
    rw [this]
    unfold plusL
    simp only [LM_slope h.ok]
    show some _ = some (LM _ _)
    unfold LM
    rw [hnz]
    congr 2
    exact List.map_congr_left fun k _ => (hg k).symm
  · refine ⟨hok, fun z => ?_, ?_, fun k hk => ?_, by omega⟩
    · have := hH z
      have := h.rg z
      rw [hg]
      refine ⟨by omega, ?_⟩
      have e : ((j + 1 : Nat) : Int) * 100000000 = (j : Int) * 100000000 + 100000000 := by omega
      omega
    · have e : ((j + 1 : Nat) : Int) * 100000000 = (j : Int) * 100000000 + 100000000 := by omega
      omega
    · rw [foldP_keys (plusU f) k _ _ _ b2.symm] at hk
      rcases hk with h' | h'
      · exact big_var (b6 k h')
      · exact h.big k h'
theorem BInv.LMok {j : Nat} {M : GMap Int} {c : Int} (h : BInv j M c) (hj : j ≤ 4) : (LM M c).Ok := by
  have hnl := nzk_len M
  have hlen := h.len
  have hcr := h.cr
  refine ⟨⟨by simp only [Big, LM]; omega, fun k hk => ?_⟩, ⟨by simp only [Big, LM, List.length_map]; omega, fun x hx => ?_⟩, by simp only [InR, LM]; omega⟩
  · exact h.big k (Classical.byContradiction fun hn => (nzk_mem h.ok k).1 hk (get_notin hn))
  · obtain ⟨k, _, rfl⟩ := List.mem_map.1 hx
    have := h.rg k
    simp only [InR]; omega
theorem BInv.fin {j : Nat} {M : GMap Int} {c : Int} (h : BInv j M c) (hj : j ≤ 4) : impl_linear M c = some (bif validL (LM M c) then (LM M c, true) else (⟨[], [], 0⟩, false)) ∧ spec_l25Linear (LM M c) = some (validL (LM M c)) := by
  have hlen := h.len
  have hcr := h.cr
  exact ⟨linear_eq h.ok c (by omega) h.big (fun k => by have := h.rg k; simp only [InR]; omega) (by simp only [InR]; omega), specL _ (h.LMok hj)⟩
/-- Where two bounds agree. -/
def BRel (s i : Linear × Bool) : Prop := s.2 = i.2 ∧ (i.2 = true → s.1 = i.1 ∧ validL i.1 = true) ∧ (i.2 = false → i.1 = ⟨[], [], 0⟩)
theorem args_loop (xs : List Majorant) (k : Nat) (hk : k < xs.length) (args : List Term) (N : Nat) (F G : Nat → Term → Option (Linear × Bool)) (hl : (xs.getD k default).Slopes.length = args.length) (h4 : args.length ≤ 4)
    (hs : ∀ s ∈ (xs.getD k default).Slopes, 0 ≤ s ∧ s ≤ 1000) (hfg : ∀ a ∈ args, ∃ s i, BRel s i ∧ ∀ n, N ≤ n → F n a = some s ∧ G n a = some i) :
    ∀ (m j : Nat) (M : GMap Int) (c : Int), j + m = args.length → BInv j M c →
      ∃ r r', (∀ n, N ≤ n → forN (ρ := Linear × Bool) (fun (i8 : Nat) (s8 : Int × (List ByteArray) × (List Int)) =>
          Option.bind (idx args (i8 : Int)) fun v47 =>
          Option.bind (F n v47) fun v49 =>
          bif v49.2 then
            Option.bind (idx xs (k : Int)) fun v59 =>
            Option.bind (idx v59.Slopes (i8 : Int)) fun v63 =>
            Option.bind (spec_l25Plus (Linear.mk s8.2.1 s8.2.2 s8.1) v49.1 v63) fun v65 =>
            some (.nx (v65.Constant, v65.Vars, v65.Slopes))
          else
            some (.rt ((Linear.mk ([]) ([]) (0 : Int)), false))) m j (c, (LM M c).Vars, (LM M c).Slopes) = some r ∧
        forN (ρ := Linear × Bool) (fun (i9 : Nat) (s9 : Int × (GMap Int)) =>
          Option.bind (idx args (i9 : Int)) fun v38 =>
          Option.bind (G n v38) fun v43 =>
          bif v43.2 then
            Option.bind (idx xs (k : Int)) fun v54 =>
            Option.bind (idx v54.Slopes (i9 : Int)) fun v58 =>
            Option.bind (impl_Linear__add v43.1 s9.2 v58) fun v60 =>
            some (.nx (IntKind.i64.wrap (s9.1 + v60.1), v60.2))
          else
            some (.rt ((Linear.mk ([]) ([]) (0 : Int)), false))) m j (c, M) = some r') ∧
        ((r = .inl (⟨[], [], 0⟩, false) ∧ r' = .inl (⟨[], [], 0⟩, false)) ∨ ∃ M' c', BInv args.length M' c' ∧ r = .inr (c', (LM M' c').Vars, (LM M' c').Slopes) ∧ r' = .inr (c', M'))
  | 0, j, M, c, hjm, h => ⟨_, _, fun n _ => ⟨rfl, rfl⟩, .inr ⟨M, c, by rw [← hjm]; exact h, rfl, rfl⟩⟩
  | m + 1, j, M, c, hjm, h => by
    have hj : j < args.length := by omega
    obtain ⟨s, i, ⟨e3, e4, e5⟩, e6⟩ := hfg _ (getD_mem (l := args) (i := j) hj)
    obtain ⟨sl, sb⟩ := s
    obtain ⟨il, ib⟩ := i
    simp only at e3 e4 e5
    subst e3
    cases sb
    · refine ⟨.inl (⟨[], [], 0⟩, false), .inl (⟨[], [], 0⟩, false), fun n hn => ⟨?_, ?_⟩, .inl ⟨rfl, rfl⟩⟩
      · rw [forN_rt]; rw [idx_getD hj, Option.bind_some, (e6 n hn).1]; rfl
      · rw [forN_rt]; rw [idx_getD hj, Option.bind_some, (e6 n hn).2]; rfl
    · obtain ⟨rfl, hv⟩ := e4 rfl
      have hjs : j < (xs.getD k default).Slopes.length := by omega
      have hf := hs _ (getD_mem (l := (xs.getD k default).Slopes) (i := j) hjs)
      obtain ⟨p1, p2⟩ := h.step (by omega) hv hf.1 hf.2
      obtain ⟨_, b2, _⟩ := validL_iff hv
      have := args_loop xs k hk args N F G hl h4 hs hfg m (j + 1) _ _ (by omega) p2
      obtain ⟨r, r', g0, g3⟩ := this
      refine ⟨r, r', fun n hn => ⟨?_, ?_⟩, g3⟩
      · rw [forN_nx (s' := (plusU ((xs.getD k default).Slopes.getD j default) c sl.Constant, (LM (foldP (plusU ((xs.getD k default).Slopes.getD j default)) sl.Vars sl.Slopes M) (plusU ((xs.getD k default).Slopes.getD j default) c sl.Constant)).Vars, (LM (foldP (plusU ((xs.getD k default).Slopes.getD j default)) sl.Vars sl.Slopes M) (plusU ((xs.getD k default).Slopes.getD j default) c sl.Constant)).Slopes))]
        · exact (g0 n hn).1
        · rw [idx_getD hj, Option.bind_some, (e6 n hn).1, Option.bind_some, cond_true, idx_getD hk, Option.bind_some, idx_getD hjs, Option.bind_some]
          have : (Linear.mk (LM M c).Vars (LM M c).Slopes c) = LM M c := rfl
          rw [this, p1]; rfl
      · rw [forN_nx (s' := (plusU ((xs.getD k default).Slopes.getD j default) c sl.Constant, foldP (plusU ((xs.getD k default).Slopes.getD j default)) sl.Vars sl.Slopes M))]
        · exact (g0 n hn).2
        · rw [idx_getD hj, Option.bind_some, (e6 n hn).2, Option.bind_some, cond_true, idx_getD hk, Option.bind_some, idx_getD hjs, Option.bind_some, add_eq _ _ _ b2]; rfl
theorem varLin {x : ByteArray} (h : isVarS x = true) : validL ⟨[x], [1], 0⟩ = true := by
  simp [validL, linC, h, inR]
theorem majC_iff {xs : List Majorant} (h : validM xs = true) {k : Nat} (hk : k < xs.length) : (0 ≤ (xs.getD k default).Constant ∧ (xs.getD k default).Constant ≤ 100000) ∧ ∀ s ∈ (xs.getD k default).Slopes, 0 ≤ s ∧ s ≤ 1000 := by
  simp only [validM, Bool.and_eq_true, List.all_eq_true, List.mem_range] at h
  have := h.2 k hk
  simp only [majC, Bool.and_eq_true, List.all_eq_true] at this
  exact ⟨inR_iff.1 this.1.1.2, fun s hs => inR_iff.1 (this.1.2 s hs)⟩
theorem bndV (xs : List Majorant) (hx : validM xs = true) (t : Term) : t.Ok → t.good = true →
    ∃ s i, BRel s i ∧ ∀ n, 2 * SizeOf.sizeOf t ≤ n → spec_l25BoundN n xs t = some s ∧ impl_boundOfN n xs t = some i := by
  refine Term.ind' (M := fun t => t.Ok → t.good = true → ∃ s i, BRel s i ∧ ∀ n, 2 * SizeOf.sizeOf t ≤ n → spec_l25BoundN n xs t = some s ∧ impl_boundOfN n xs t = some i) (fun t ih hok hg => ?_) t
  have hpos := t.pos
  have hiv := isVar_good hok hg
  have hsv := l2Var_eq t.Name hok.u.1
  cases hvar : isVarS t.Name
  · rw [hvar] at hiv hsv
    have hg' := hg
    rw [Term.good_u, hvar, cond_false, Bool.and_eq_true, Bool.and_eq_true, decide_eq_true_eq] at hg'
    have hga : ∀ a ∈ t.Args, a.good = true := fun a ha => List.all_eq_true.1 hg'.2 a ha
    have hfi := specFind xs t.Name t.Args.length
    have hfj := implFind xs t
    rcases ffind_cases (fun i => decide ((xs.getD i default).Name = t.Name) && decide ((xs.getD i default).Slopes.length = t.Args.length)) xs.length 0 with ⟨h1, h2⟩ | ⟨k, h1, h2, h3, h4, h5⟩
    · have e : majI xs t.Name t.Args.length = -1 := h1
      refine ⟨(⟨[], [], 0⟩, false), (⟨[], [], 0⟩, false), ⟨rfl, by simp, fun _ => rfl⟩, fun n hn => ?_⟩
      cases n with
      | zero => omega
      | succ n =>
        rw [spec_l25BoundN, impl_boundOfN, hiv, hsv, hfi, hfj, e]
        exact ⟨rfl, rfl⟩
    · have e : majI xs t.Name t.Args.length = (k : Int) := h1
      simp only [Bool.and_eq_true, decide_eq_true_eq] at h4
      have hk : k < xs.length := by omega
      obtain ⟨hc, hsl⟩ := majC_iff hx hk
      have b0 : BInv 0 GMap.empty (xs.getD k default).Constant := ⟨GOk.empty, fun z => by rw [empty_get]; omega, by omega, fun k hk => by simp [GMap.keys, GMap.empty] at hk, by simp [GMap.empty]⟩
      obtain ⟨r, r', g0, g3⟩ := args_loop xs k hk t.Args (2 * SizeOf.sizeOf t - 1) (fun n => spec_l25BoundN n xs) (fun n => impl_boundOfN n xs) (by omega) hg'.1.2 hsl
        (fun a ha => by
          obtain ⟨s, i, q1, q2⟩ := ih a ha (hok.u.2.2 a ha) (hga a ha)
          exact ⟨s, i, q1, fun n hn => q2 n (by have := Term.lt ha; omega)⟩) t.Args.length 0 _ _ (by omega) b0
      have n0 : nzk (GMap.empty : GMap Int) = [] := nzk_eq GOk.empty (by simp [Srt]) (fun z => by simp [empty_get])
      have e0 : (LM GMap.empty (xs.getD k default).Constant) = ⟨[], [], (xs.getD k default).Constant⟩ := by unfold LM; rw [n0]; rfl
      rw [e0] at g0
      have dk : decide ((k : Int) < 0) = false := decide_eq_false (by omega)
      rcases g3 with ⟨rfl, rfl⟩ | ⟨M', c', hb, rfl, rfl⟩
      · refine ⟨(⟨[], [], 0⟩, false), (⟨[], [], 0⟩, false), ⟨rfl, by simp, fun _ => rfl⟩, fun n hn => ?_⟩
        cases n with
        | zero => omega
        | succ n =>
          obtain ⟨q1, q2⟩ := g0 n (by omega)
          simp only [Option.bind_some, idx_getD hk] at q1 q2
          rw [spec_l25BoundN, impl_boundOfN, hiv, hsv, hfi, hfj, e]
          simp only [Option.bind_some, cond_false, dk, idx_getD hk]
          constructor
          · exact (congrArg (fun z => thenL z _) q1).trans rfl
          · exact (congrArg (fun z => thenL z _) q2).trans rfl
      · obtain ⟨f1, f2⟩ := hb.fin hg'.1.2
        refine ⟨(LM M' c', validL (LM M' c')), (bif validL (LM M' c') then (LM M' c', true) else (⟨[], [], 0⟩, false)), ?_, fun n hn => ?_⟩
        · cases hv : validL (LM M' c')
          · exact ⟨rfl, by simp, fun _ => rfl⟩
          · exact ⟨rfl, fun _ => ⟨rfl, hv⟩, by simp⟩
        · cases n with
          | zero => omega
          | succ n =>
            obtain ⟨q1, q2⟩ := g0 n (by omega)
            simp only [Option.bind_some, idx_getD hk] at q1 q2
            rw [spec_l25BoundN, impl_boundOfN, hiv, hsv, hfi, hfj, e]
            simp only [Option.bind_some, cond_false, dk, idx_getD hk]
            constructor
            · refine (congrArg (fun z => thenL z _) q1).trans ?_
              rw [thenL_inr]
              have : (Linear.mk (LM M' c').Vars (LM M' c').Slopes c') = LM M' c' := rfl
              simp only [this, f2, Option.bind_some]
            · refine (congrArg (fun z => thenL z _) q2).trans ?_
              rw [thenL_inr]
              simp only [f1, Option.bind_some]
  · rw [hvar] at hiv hsv
    refine ⟨(⟨[t.Name], [1], 0⟩, true), (⟨[t.Name], [1], 0⟩, true), ⟨rfl, fun _ => ⟨rfl, varLin hvar⟩, by simp⟩, fun n hn => ?_⟩
    cases n with
    | zero => omega
    | succ n =>
      rw [spec_l25BoundN, impl_boundOfN, hiv, hsv]
      exact ⟨rfl, rfl⟩
end Go.Proofs.YtgbddapcjhgllaaGreat

set_option maxRecDepth 4000
namespace Go.Proofs.YtgbddapcjhgllaaGreat
open Go.Av
theorem l1Most_eq (a b : Int) : spec_l1Most a b = some (max a b) := by
  unfold spec_l1Most
  by_cases h : b < a
  · rw [decide_eq_true h]; simp; omega
  · rw [decide_eq_false h]; simp; omega
def joinL (a b : Linear) : Linear := ⟨namesOf a b, (namesOf a b).map fun n => max (slopeZ a.Vars a.Slopes n) (slopeZ b.Vars b.Slopes n), max a.Constant b.Constant⟩
theorem l25Join_eq (a b : Linear) (ha : a.Slopes.length = a.Vars.length) (hb : b.Slopes.length = b.Vars.length) (h : a.Vars.length + b.Vars.length ≤ 1048576) : spec_l25Join a b = some (joinL a b) := by
  unfold spec_l25Join
  rw [l25Names_eq a b h, Option.bind_some, l1Most_eq, Option.bind_some]
  have hn := namesOf_len a b
  rw [forN_forL _ (fun _ (x : ByteArray) (s : List Int) => Option.bind (app s ([max (slopeZ a.Vars a.Slopes x) (slopeZ b.Vars b.Slopes x)])) fun v => some (.nx v)) (namesOf a b) 0 [] (fun j x s hx => by
    simp only [Nat.zero_add, idx_nat, hx, Option.bind_some, l25Slope_eq a x ha, l25Slope_eq b x hb, l1Most_eq]),
    fold_map (fun x => max (slopeZ a.Vars a.Slopes x) (slopeZ b.Vars b.Slopes x)) _ 0 [] (by simp; omega), thenL_inr, List.nil_append]
  rfl
theorem join_val (a b : Linear) (hv : validL a = true) (hw : validL b = true) : spec_l25Join a b = some (joinL a b) ∧ spec_l25Linear (joinL a b) = some (validL (joinL a b)) ∧ impl_join a b = some (bif validL (joinL a b) then (joinL a b, true) else (⟨[], [], 0⟩, false)) := by
  obtain ⟨a1, a2, a3, a4, a5, a6⟩ := validL_iff hv
  obtain ⟨b1, b2, b3, b4, b5, b6⟩ := validL_iff hw
  have hn := namesOf_len a b
  refine ⟨l25Join_eq a b a2 b2 (by omega), ?_⟩
  -- the map
  have hm1 := foldP_ok max a.Vars a.Slopes _ GOk.empty
  have hm := foldP_ok max b.Vars b.Slopes _ hm1
  have hget : ∀ n, GMap.get (foldP max b.Vars b.Slopes (foldP max a.Vars a.Slopes GMap.empty)) n 0 = max (slopeZ a.Vars a.Slopes n) (slopeZ b.Vars b.Slopes n) := by
    intro n
    have s1 := slopeZ_bound hv n
    have s2 := slopeZ_bound hw n
    by_cases c1 : n ∈ a.Vars <;> by_cases c2 : n ∈ b.Vars
    · rw [foldP_in max n _ _ _ b2.symm b4.nodup c2, foldP_in max n _ _ _ a2.symm a4.nodup c1, empty_get]; omega
    · rw [foldP_out max n _ _ _ c2, foldP_in max n _ _ _ a2.symm a4.nodup c1, empty_get, slopeZ_notin _ _ _ c2]; omega
    · rw [foldP_in max n _ _ _ b2.symm b4.nodup c2, foldP_out max n _ _ _ c1, empty_get, slopeZ_notin _ _ _ c1]
    · rw [foldP_out max n _ _ _ c2, foldP_out max n _ _ _ c1, empty_get, slopeZ_notin _ _ _ c1, slopeZ_notin _ _ _ c2]; rfl
  have hkeys : ∀ z, z ∈ GMap.keys (foldP max b.Vars b.Slopes (foldP max a.Vars a.Slopes GMap.empty)) → z ∈ a.Vars ∨ z ∈ b.Vars := by
    intro z hz
    rw [foldP_keys max z _ _ _ b2.symm, foldP_keys max z _ _ _ a2.symm] at hz
    rcases hz with h | h | h
    · exact .inr h
    · exact .inl h
    · simp [GMap.keys, GMap.empty] at h
  have hnz : nzk (foldP max b.Vars b.Slopes (foldP max a.Vars a.Slopes GMap.empty)) = namesOf a b := by
    refine nzk_eq hm (namesOf_srt a b) (fun z => ?_)
    have s1 := slopeZ_bound hv z
    have s2 := slopeZ_bound hw z
    rw [namesOf_mem, hget, s1.2.2, s2.2.2]
    constructor
    · rintro (h | h) <;> omega
    · intro h
      by_cases c : slopeZ a.Vars a.Slopes z = 0
      · right; intro h2; exact h (by rw [c, h2]; rfl)
      · exact .inl c
  have e : impl_join a b = impl_linear (foldP max b.Vars b.Slopes (foldP max a.Vars a.Slopes GMap.empty)) (max a.Constant b.Constant) := by
    unfold impl_join
    have i0 : idx [a, b] ((0 : Nat) : Int) = some a := rfl
    have i1 : idx [a, b] ((0 + 1 : Nat) : Int) = some b := rfl
    simp only [List.length_cons, List.length_nil, Nat.zero_add]
    rw [forN_nx (s' := foldP max a.Vars a.Slopes GMap.empty) (by rw [i0]; simp only [Option.bind_some]; rw [foldP_loop max a.Vars a.Slopes a2]; rfl),
      forN_nx (s' := foldP max b.Vars b.Slopes (foldP max a.Vars a.Slopes GMap.empty)) (by rw [i1]; simp only [Option.bind_some]; rw [foldP_loop max b.Vars b.Slopes b2]; rfl), forN_zero, thenL_inr]
    cases impl_linear (foldP max b.Vars b.Slopes (foldP max a.Vars a.Slopes GMap.empty)) (max a.Constant b.Constant) <;> rfl
  have hlen := foldP_len max b.Vars b.Slopes (foldP max a.Vars a.Slopes GMap.empty)
  have hlen1 := foldP_len max a.Vars a.Slopes GMap.empty
  have hle0 : (GMap.empty : GMap Int).es.length = 0 := rfl
  have hc : InR (max a.Constant b.Constant) := inR_small (by omega) (by omega)
  have hr : ∀ n, InR (GMap.get (foldP max b.Vars b.Slopes (foldP max a.Vars a.Slopes GMap.empty)) n 0) := fun n => by
    have s1 := slopeZ_bound hv n
    have s2 := slopeZ_bound hw n
    rw [hget]; exact inR_small (by omega) (by omega)
  have hbig : ∀ k ∈ GMap.keys (foldP max b.Vars b.Slopes (foldP max a.Vars a.Slopes GMap.empty)), Big k.size := fun k hk => (hkeys k hk).elim (fun h => big_var (a6 k h)) (fun h => big_var (b6 k h))
  have hok : (joinL a b).Ok := by
    refine ⟨⟨by simp only [Big, joinL]; omega, fun k hk => ?_⟩, ⟨by simp only [Big, joinL, List.length_map]; omega, fun x hx => ?_⟩, hc⟩
    · rcases (namesOf_mem a b k).1 hk with h | h
      · exact big_var (a6 k h)
      · exact big_var (b6 k h)
    · obtain ⟨k, _, rfl⟩ := List.mem_map.1 hx
      rw [← hget]; exact hr k
  refine ⟨specL _ hok, ?_⟩
  rw [e, linear_eq hm _ (by omega) hbig hr hc, hnz]
  have hmap : ((namesOf a b).map fun k => GMap.get (foldP max b.Vars b.Slopes (foldP max a.Vars a.Slopes GMap.empty)) k 0) = (joinL a b).Slopes := List.map_congr_left fun k _ => hget k
  rw [hmap]
  have hJ : (⟨namesOf a b, (joinL a b).Slopes, max a.Constant b.Constant⟩ : Linear) = joinL a b := rfl
  rw [hJ]
theorem major_val (xs : List Majorant) (t : Term) (hx : LOk Majorant.Ok xs) (ht : t.Ok) (h : t.tot ≤ 1048576) :
    ∃ (g : Linear) (c : Bool), spec_MajorantOf xs t = some (g, c) ∧ impl_MajorantOf xs t = some (g, c) ∧ (c = true → validL g = true) := by
  unfold spec_MajorantOf impl_MajorantOf
  rw [specMj xs hx, implMj xs hx, Option.bind_some, Option.bind_some, l2Good_ok t h ht, IsValidTerm_ok t h ht]
  cases hv : validM xs
  · exact ⟨_, _, rfl, rfl, by simp⟩
  rw [cond_true, cond_true, Option.bind_some, Option.bind_some]
  cases hg : goodT t
  · exact ⟨_, _, rfl, rfl, by simp⟩
  have hg2 : t.good = true := by unfold goodT at hg; rw [Bool.and_eq_true] at hg; exact hg.2
  obtain ⟨⟨sl, sb⟩, ⟨il, ib⟩, ⟨e1, e2, e3⟩, hr⟩ := bndV xs hv t ht hg2
  have k1 : spec_l25Bound xs t = some (sl, sb) := lim_eq ⟨_, fun n hn => (hr n hn).1⟩
  have k2 : impl_boundOf xs t = some (il, ib) := lim_eq ⟨_, fun n hn => (hr n hn).2⟩
  rw [cond_true, cond_true, k1, k2, Option.bind_some, Option.bind_some]
  simp only at e1 e2 e3 ⊢
  subst e1
  cases sb
  · rw [e3 rfl]; exact ⟨_, _, rfl, rfl, by simp⟩
  · obtain ⟨rfl, hw⟩ := e2 rfl
    exact ⟨_, _, rfl, rfl, fun _ => hw⟩
theorem major_bad (xs : List Majorant) (t : Term) (hx : LOk Majorant.Ok xs) (h : validM xs = false) : impl_MajorantOf xs t = some (⟨[], [], 0⟩, false) := by
  unfold impl_MajorantOf
  rw [implMj xs hx, h]; rfl
theorem terms_loop (xs : List Majorant) (hx : LOk Majorant.Ok xs) (ts : List Term) (hts : ∀ t ∈ ts, t.Ok ∧ t.tot ≤ 1048576) : ∀ (m j : Nat) (L : Linear), j + m = ts.length → validL L = true →
    ∃ r r', forN (ρ := Linear × Bool) (fun (i5 : Nat) (s5 : Linear) =>
        Option.bind (idx ts (i5 : Int)) fun v31 =>
        Option.bind (spec_MajorantOf xs v31) fun v33 =>
        bif v33.2 then
          Option.bind (spec_l25Join s5 v33.1) fun v41 =>
          Option.bind (spec_l25Linear v41) fun v43 =>
          bif v43 then
            some (.nx v41)
          else
            some (.rt ((Linear.mk ([]) ([]) (0 : Int)), false))
        else
          some (.rt ((Linear.mk ([]) ([]) (0 : Int)), false))) m j L = some r ∧
      forN (ρ := Linear × Bool) (fun (i5 : Nat) (s5 : Int × (List ByteArray) × (List Int)) =>
      Option.bind (idx ts (i5 : Int)) fun v21 =>
      Option.bind (impl_MajorantOf xs v21) fun v26 =>
      bif v26.2 then
        Option.bind (impl_join (Linear.mk s5.2.1 s5.2.2 s5.1) v26.1) fun v35 =>
        bif v35.2 then
          some (.nx (v35.1.Constant, v35.1.Vars, v35.1.Slopes))
        else
          some (.rt ((Linear.mk ([]) ([]) (0 : Int)), false))
      else
        some (.rt ((Linear.mk ([]) ([]) (0 : Int)), false))) m j (L.Constant, L.Vars, L.Slopes) = some r' ∧
      ((r = .inl (⟨[], [], 0⟩, false) ∧ r' = .inl (⟨[], [], 0⟩, false)) ∨ ∃ L', validL L' = true ∧ r = .inr L' ∧ r' = .inr (L'.Constant, L'.Vars, L'.Slopes))
  | 0, j, L, _, hL => ⟨_, _, rfl, rfl, .inr ⟨L, hL, rfl, rfl⟩⟩
  | m + 1, j, L, hjm, hL => by
    have hj : j < ts.length := by omega
    have ht := hts _ (getD_mem (l := ts) (i := j) hj)
    obtain ⟨g, c, e1, e2, e3⟩ := major_val xs _ hx ht.1 ht.2
    have eL : (Linear.mk L.Vars L.Slopes L.Constant) = L := rfl
    cases c
    · refine ⟨.inl (⟨[], [], 0⟩, false), .inl (⟨[], [], 0⟩, false), ?_, ?_, .inl ⟨rfl, rfl⟩⟩
      · rw [forN_rt]; rw [idx_getD hj, Option.bind_some, e1]; rfl
      · rw [forN_rt]; rw [idx_getD hj, Option.bind_some, e2]; rfl
    · obtain ⟨j1, j2, j3⟩ := join_val L g hL (e3 rfl)
      cases hv : validL (joinL L g)
      · rw [hv] at j2 j3
        refine ⟨.inl (⟨[], [], 0⟩, false), .inl (⟨[], [], 0⟩, false), ?_, ?_, .inl ⟨rfl, rfl⟩⟩
        · rw [forN_rt]; rw [idx_getD hj, Option.bind_some, e1, Option.bind_some, cond_true, j1, Option.bind_some, j2]; rfl
        · rw [forN_rt]; rw [idx_getD hj, Option.bind_some, e2, Option.bind_some, cond_true, eL, j3]; rfl
      · rw [hv] at j2 j3
        obtain ⟨r, r', g1, g2, g3⟩ := terms_loop xs hx ts hts m (j + 1) (joinL L g) (by omega) hv
        refine ⟨r, r', ?_, ?_, g3⟩
        · rw [forN_nx (s' := joinL L g)]
          · exact g1
          · rw [idx_getD hj, Option.bind_some, e1, Option.bind_some, cond_true, j1, Option.bind_some, j2]; rfl
        · rw [forN_nx (s' := ((joinL L g).Constant, (joinL L g).Vars, (joinL L g).Slopes))]
          · exact g2
          · rw [idx_getD hj, Option.bind_some, e2, Option.bind_some, cond_true, eL, j3]; rfl
theorem bound_both (xs : List Majorant) (ts : List Term) (hx : LOk Majorant.Ok xs) (hts : ∀ t ∈ ts, t.Ok ∧ t.tot ≤ 1048576) :
    ∃ (g : Linear) (c : Bool), spec_BoundOfTerms xs ts = some (g, c) ∧ impl_BoundOfTerms xs ts = some (g, c) ∧ g.Vars.length ≤ 8 ∧ g.Slopes.length ≤ 8 := by
  have hl := terms_loop xs hx ts hts ts.length 0 ⟨[], [], 0⟩ (by omega) rfl
  obtain ⟨r, r', g1, g2, g3⟩ := hl
  unfold spec_BoundOfTerms impl_BoundOfTerms
  rw [specMj xs hx, Option.bind_some, l1In_eq, within_eq, Option.bind_some, Option.bind_some]
  cases hb : inR (ts.length : Int) 1 60
  · refine ⟨⟨[], [], 0⟩, false, ?_, rfl, by simp, by simp⟩
    cases validM xs <;> rfl
  cases hv : validM xs
  · refine ⟨⟨[], [], 0⟩, false, rfl, ?_, by simp, by simp⟩
    rw [cond_true]
    have h0 : 0 < ts.length := by have := inR_iff.1 hb; omega
    obtain ⟨n, hn⟩ : ∃ n, ts.length = n + 1 := ⟨ts.length - 1, by omega⟩
    rw [hn, forN_rt (r := (⟨[], [], 0⟩, false)) (by rw [idx_getD h0, Option.bind_some, major_bad xs _ hx hv]; rfl)]; rfl
  · rw [cond_true, cond_true, cond_true]
    have e1 := congrArg (fun z => thenL (ρ := Linear × Bool) z (fun s5 => some (s5, true))) g1
    have e2 := congrArg (fun z => thenL (ρ := Linear × Bool) z (fun s5 : Int × List ByteArray × List Int => some ((Linear.mk s5.2.1 s5.2.2 s5.1), true))) g2
    rcases g3 with ⟨rfl, rfl⟩ | ⟨L', hL, rfl, rfl⟩
    · exact ⟨⟨[], [], 0⟩, false, e1, e2, by simp, by simp⟩
    · obtain ⟨b1, b2, _⟩ := validL_iff hL
      exact ⟨L', true, e1, e2, b1, by omega⟩
end Go.Proofs.YtgbddapcjhgllaaGreat
