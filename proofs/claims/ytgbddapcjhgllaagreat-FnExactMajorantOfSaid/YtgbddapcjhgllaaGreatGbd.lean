/- A part of the proof: lemmas only; nothing is claimed here beyond what each lemma says. -/
import Derived.Test.YtgbddapcjhgllaaGreatGmo
import Derived.Test.YtgbddapcjhgllaaGreatGxp
set_option linter.unusedSimpArgs false
set_option linter.unusedVariables false
set_option linter.defProp false
set_option maxRecDepth 4000
namespace Go.Proofs.YtgbddapcjhgllaaGreat
open Go.Av
def majI (xs : List Majorant) (x : ByteArray) (n : Nat) : Int := ffind (fun i => decide ((xs.getD i default).Name = x) && decide ((xs.getD i default).Slopes.length = n)) xs.length 0
theorem specFind (xs : List Majorant) (x : ByteArray) (n : Nat) : spec_l25Find xs x (n : Int) = some (majI xs x n) := by
  unfold spec_l25Find majI
  refine forN_ffind _ 0 (fun j _ hj => ?_)
  rw [idx_getD (by omega), Option.bind_some, Option.bind_some, show decide (((xs.getD j default).Slopes.length : Int) = (n : Int)) = decide ((xs.getD j default).Slopes.length = n) from decide_eq_decide.2 (by omega)]
  cases decide ((xs.getD j default).Name = x) <;> cases decide ((xs.getD j default).Slopes.length = n) <;> rfl
theorem implFind (xs : List Majorant) (t : Term) : impl_majorant xs t = some (majI xs t.Name t.Args.length) := by
  unfold impl_majorant slices_IndexFunc_Simpl_Majorant_impl_Majorant majI
  rw [forN_ffind (q := fun i => decide ((xs.getD i default).Name = t.Name) && decide ((xs.getD i default).Slopes.length = t.Args.length)) _ 0 (fun j _ hj => ?_), Option.bind_some]
  rw [idx_getD (by omega), Option.bind_some]
  simp only [impl_majorant_1]
  rw [show decide (((xs.getD j default).Slopes.length : Int) = (t.Args.length : Int)) = decide ((xs.getD j default).Slopes.length = t.Args.length) from decide_eq_decide.2 (by omega)]
  cases decide ((xs.getD j default).Name = t.Name) <;> cases decide ((xs.getD j default).Slopes.length = t.Args.length) <;> rfl
theorem isVar_good {t : Term} (hok : t.Ok) (h : t.good = true) : impl_isVar t = some (isVarS t.Name) := by
  rw [Term.good_u] at h
  unfold impl_isVar
  cases hv : isVarS t.Name
  · rw [hv, cond_false, Bool.and_eq_true, Bool.and_eq_true] at h
    have hs := h.1.1
    simp only [isSymS, Bool.and_eq_true, inR_iff] at hs
    have h0 : 0 < t.Name.size := by omega
    have hc := List.all_eq_true.1 hs.1.2 0 (by simp; omega)
    simp only [symC, if_pos, cLow, inR_iff] at hc
    rw [sidx0 h0, Option.bind_some, isUpper_eq, Option.bind_some]
    have : cUp (byt t.Name 0) = false := by
      cases hu : cUp (byt t.Name 0)
      · rfl
      · simp only [cUp, inR_iff] at hu; omega
    rw [this]
  · have hs := hv
    simp only [isVarS, Bool.and_eq_true, inR_iff] at hs
    have h0 : 0 < t.Name.size := by omega
    have hc := List.all_eq_true.1 hs.2 0 (by simp; omega)
    simp only [varC, if_pos] at hc
    rw [sidx0 h0, Option.bind_some, isUpper_eq, Option.bind_some, hc]

/-- A map read as a linear function. -/
def LM (M : GMap Int) (c : Int) : Linear := ⟨nzk M, (nzk M).map fun k => GMap.get M k 0, c⟩
theorem slopeZ_map (h : ByteArray → Int) (z : ByteArray) : ∀ L : List ByteArray, z ∈ L → slopeZ L (L.map h) z = h z
  | [], hz => by simp at hz
  | v :: L, hz => by
    simp only [List.map_cons, slopeZ]
    by_cases e : v = z
    · rw [if_pos e, e]
    · rw [if_neg e]
      exact slopeZ_map h z L ((List.mem_cons.1 hz).resolve_left (Ne.symm e))
theorem LM_slope {M : GMap Int} (hm : GOk M) (c : Int) (z : ByteArray) : slopeZ (LM M c).Vars (LM M c).Slopes z = GMap.get M z 0 := by
  show slopeZ (nzk M) ((nzk M).map fun k => GMap.get M k 0) z = _
  by_cases h : z ∈ nzk M
  · rw [slopeZ_map _ _ _ h]
  · rw [slopeZ_notin _ _ _ h]
    have := fun g => h ((nzk_mem hm z).2 g)
    exact (Classical.not_not.1 this).symm
structure BInv (j : Nat) (M : GMap Int) (c : Int) : Prop where
  ok : GOk M
  rg : ∀ z, 0 ≤ GMap.get M z 0 ∧ GMap.get M z 0 ≤ j * 100000000
  cr : 0 ≤ c ∧ c ≤ 100000 + j * 100000000
  big : ∀ k ∈ GMap.keys M, Big k.size
  len : M.es.length ≤ j * 8
theorem nzk_len (M : GMap Int) : (nzk M).length ≤ M.es.length := by
  have := (sortB_perm ((M.es.filter fun e => !decide (e.2.1 = 0)).map fun e => e.1)).length_eq
  have h2 := List.length_filter_le (fun e : ByteArray × Int × Nat => !decide (e.2.1 = 0)) M.es
  rw [List.length_map] at this
  unfold nzk; omega
theorem BInv.step {j : Nat} {M : GMap Int} {c : Int} (h : BInv j M c) (hj : j ≤ 4) {l : Linear} (hv : validL l = true) {f : Int} (f0 : 0 ≤ f) (f1 : f ≤ 1000) :
    spec_l25Plus (LM M c) l f = some (LM (foldP (plusU f) l.Vars l.Slopes M) (plusU f c l.Constant)) ∧ BInv (j + 1) (foldP (plusU f) l.Vars l.Slopes M) (plusU f c l.Constant) := by
  obtain ⟨b1, b2, b3, b4, b5, b6⟩ := validL_iff hv
  have hok := foldP_ok (plusU f) l.Vars l.Slopes M h.ok
  have hjz : (j : Int) * 100000000 ≤ 400000000 := by omega
  have hg : ∀ z, GMap.get (foldP (plusU f) l.Vars l.Slopes M) z 0 = plusU f (GMap.get M z 0) (slopeZ l.Vars l.Slopes z) := by
    intro z
    have s1 := h.rg z
    by_cases hz : z ∈ l.Vars
    · rw [foldP_in (plusU f) z _ _ _ b2.symm b4.nodup hz]
    · rw [foldP_out (plusU f) z _ _ _ hz, slopeZ_notin _ _ _ hz, plusU_zero s1.1 (by omega)]
  have hH : ∀ z, 0 ≤ plusU f (GMap.get M z 0) (slopeZ l.Vars l.Slopes z) ∧ plusU f (GMap.get M z 0) (slopeZ l.Vars l.Slopes z) ≤ GMap.get M z 0 + 100000000 := by
    intro z
    have s1 := h.rg z
    have s2 := slopeZ_bound hv z
    have := plusU_small (f := f) f0 f1 s1.1 (show GMap.get M z 0 ≤ 1000000000 by omega) s2.1 (by omega)
    omega
  have hcr := h.cr
  have hcc := plusU_small (f := f) (g := c) (s := l.Constant) f0 f1 hcr.1 (by omega) b3.1 b3.2
  have hnl := nzk_len M
  have hlen := h.len
  have hfl := foldP_len (plusU f) l.Vars l.Slopes M
  have hsub : ∀ z, z ∈ (namesOf (LM M c) l).filter (fun n => decide (0 < plusU f (GMap.get M n 0) (slopeZ l.Vars l.Slopes n))) ↔ GMap.get (foldP (plusU f) l.Vars l.Slopes M) z 0 ≠ 0 := by
    intro z
    have h0 := hH z
    rw [List.mem_filter, hg, decide_eq_true_eq]
    constructor
    · rintro ⟨_, h⟩; omega
    · intro h'
      refine ⟨Classical.byContradiction fun hno => h' ?_, by omega⟩
      rw [namesOf_mem, not_or] at hno
      have e1 : GMap.get M z 0 = 0 := Classical.not_not.1 fun g => hno.1 ((nzk_mem h.ok z).2 g)
      rw [e1, slopeZ_notin _ _ _ hno.2, plusU_zero (by omega) (by omega)]
  have hnz : nzk (foldP (plusU f) l.Vars l.Slopes M) = (namesOf (LM M c) l).filter (fun n => decide (0 < plusU f (GMap.get M n 0) (slopeZ l.Vars l.Slopes n))) := nzk_eq hok ((namesOf_srt _ l).filter _) hsub
  constructor
  · have := l25Plus_eq (LM M c) l f (by simp [LM]) b2 (by show (nzk M).length + _ ≤ _; omega)
    rw [this]
    unfold plusL
    simp only [LM_slope h.ok]
    show some _ = some (LM _ _)
    unfold LM
    rw [hnz]
    congr 2
    exact List.map_congr_left fun k _ => (hg k).symm
  · refine ⟨hok, fun z => ?_, ?_, fun k hk => ?_, by omega⟩
    · have := hH z
      have := h.rg z
      rw [hg]
      refine ⟨by omega, ?_⟩
      have e : ((j + 1 : Nat) : Int) * 100000000 = (j : Int) * 100000000 + 100000000 := by omega
      omega
    · have e : ((j + 1 : Nat) : Int) * 100000000 = (j : Int) * 100000000 + 100000000 := by omega
      omega
    · rw [foldP_keys (plusU f) k _ _ _ b2.symm] at hk
      rcases hk with h' | h'
      · exact big_var (b6 k h')
      · exact h.big k h'
theorem BInv.LMok {j : Nat} {M : GMap Int} {c : Int} (h : BInv j M c) (hj : j ≤ 4) : (LM M c).Ok := by
  have hnl := nzk_len M
  have hlen := h.len
  have hcr := h.cr
  refine ⟨⟨by simp only [Big, LM]; omega, fun k hk => ?_⟩, ⟨by simp only [Big, LM, List.length_map]; omega, fun x hx => ?_⟩, by simp only [InR, LM]; omega⟩
  · exact h.big k (Classical.byContradiction fun hn => (nzk_mem h.ok k).1 hk (get_notin hn))
  · obtain ⟨k, _, rfl⟩ := List.mem_map.1 hx
    have := h.rg k
    simp only [InR]; omega
theorem BInv.fin {j : Nat} {M : GMap Int} {c : Int} (h : BInv j M c) (hj : j ≤ 4) : impl_linear M c = some (bif validL (LM M c) then (LM M c, true) else (⟨[], [], 0⟩, false)) ∧ spec_l25Linear (LM M c) = some (validL (LM M c)) := by
  have hlen := h.len
  have hcr := h.cr
  exact ⟨linear_eq h.ok c (by omega) h.big (fun k => by have := h.rg k; simp only [InR]; omega) (by simp only [InR]; omega), specL _ (h.LMok hj)⟩
/-- Where two bounds agree. -/
def BRel (s i : Linear × Bool) : Prop := s.2 = i.2 ∧ (i.2 = true → s.1 = i.1 ∧ validL i.1 = true) ∧ (i.2 = false → i.1 = ⟨[], [], 0⟩)
theorem args_loop (xs : List Majorant) (k : Nat) (hk : k < xs.length) (args : List Term) (N : Nat) (F G : Nat → Term → Option (Linear × Bool)) (hl : (xs.getD k default).Slopes.length = args.length) (h4 : args.length ≤ 4)
    (hs : ∀ s ∈ (xs.getD k default).Slopes, 0 ≤ s ∧ s ≤ 1000) (hfg : ∀ a ∈ args, ∃ s i, BRel s i ∧ ∀ n, N ≤ n → F n a = some s ∧ G n a = some i) :
    ∀ (m j : Nat) (M : GMap Int) (c : Int), j + m = args.length → BInv j M c →
      ∃ r r', (∀ n, N ≤ n → forN (ρ := Linear × Bool) (fun (i8 : Nat) (s8 : Int × (List ByteArray) × (List Int)) =>
          Option.bind (idx args (i8 : Int)) fun v47 =>
          Option.bind (F n v47) fun v49 =>
          bif v49.2 then
            Option.bind (idx xs (k : Int)) fun v59 =>
            Option.bind (idx v59.Slopes (i8 : Int)) fun v63 =>
            Option.bind (spec_l25Plus (Linear.mk s8.2.1 s8.2.2 s8.1) v49.1 v63) fun v65 =>
            some (.nx (v65.Constant, v65.Vars, v65.Slopes))
          else
            some (.rt ((Linear.mk ([]) ([]) (0 : Int)), false))) m j (c, (LM M c).Vars, (LM M c).Slopes) = some r ∧
        forN (ρ := Linear × Bool) (fun (i9 : Nat) (s9 : Int × (GMap Int)) =>
          Option.bind (idx args (i9 : Int)) fun v38 =>
          Option.bind (G n v38) fun v43 =>
          bif v43.2 then
            Option.bind (idx xs (k : Int)) fun v54 =>
            Option.bind (idx v54.Slopes (i9 : Int)) fun v58 =>
            Option.bind (impl_Linear__add v43.1 s9.2 v58) fun v60 =>
            some (.nx (IntKind.i64.wrap (s9.1 + v60.1), v60.2))
          else
            some (.rt ((Linear.mk ([]) ([]) (0 : Int)), false))) m j (c, M) = some r') ∧
        ((r = .inl (⟨[], [], 0⟩, false) ∧ r' = .inl (⟨[], [], 0⟩, false)) ∨ ∃ M' c', BInv args.length M' c' ∧ r = .inr (c', (LM M' c').Vars, (LM M' c').Slopes) ∧ r' = .inr (c', M'))
  | 0, j, M, c, hjm, h => ⟨_, _, fun n _ => ⟨rfl, rfl⟩, .inr ⟨M, c, by rw [← hjm]; exact h, rfl, rfl⟩⟩
  | m + 1, j, M, c, hjm, h => by
    have hj : j < args.length := by omega
    obtain ⟨s, i, ⟨e3, e4, e5⟩, e6⟩ := hfg _ (getD_mem (l := args) (i := j) hj)
    obtain ⟨sl, sb⟩ := s
    obtain ⟨il, ib⟩ := i
    simp only at e3 e4 e5
    subst e3
    cases sb
    · refine ⟨.inl (⟨[], [], 0⟩, false), .inl (⟨[], [], 0⟩, false), fun n hn => ⟨?_, ?_⟩, .inl ⟨rfl, rfl⟩⟩
      · rw [forN_rt]; rw [idx_getD hj, Option.bind_some, (e6 n hn).1]; rfl
      · rw [forN_rt]; rw [idx_getD hj, Option.bind_some, (e6 n hn).2]; rfl
    · obtain ⟨rfl, hv⟩ := e4 rfl
      have hjs : j < (xs.getD k default).Slopes.length := by omega
      have hf := hs _ (getD_mem (l := (xs.getD k default).Slopes) (i := j) hjs)
      obtain ⟨p1, p2⟩ := h.step (by omega) hv hf.1 hf.2
      obtain ⟨_, b2, _⟩ := validL_iff hv
      have := args_loop xs k hk args N F G hl h4 hs hfg m (j + 1) _ _ (by omega) p2
      obtain ⟨r, r', g0, g3⟩ := this
      refine ⟨r, r', fun n hn => ⟨?_, ?_⟩, g3⟩
      · rw [forN_nx (s' := (plusU ((xs.getD k default).Slopes.getD j default) c sl.Constant, (LM (foldP (plusU ((xs.getD k default).Slopes.getD j default)) sl.Vars sl.Slopes M) (plusU ((xs.getD k default).Slopes.getD j default) c sl.Constant)).Vars, (LM (foldP (plusU ((xs.getD k default).Slopes.getD j default)) sl.Vars sl.Slopes M) (plusU ((xs.getD k default).Slopes.getD j default) c sl.Constant)).Slopes))]
        · exact (g0 n hn).1
        · rw [idx_getD hj, Option.bind_some, (e6 n hn).1, Option.bind_some, cond_true, idx_getD hk, Option.bind_some, idx_getD hjs, Option.bind_some]
          have : (Linear.mk (LM M c).Vars (LM M c).Slopes c) = LM M c := rfl
          rw [this, p1]; rfl
      · rw [forN_nx (s' := (plusU ((xs.getD k default).Slopes.getD j default) c sl.Constant, foldP (plusU ((xs.getD k default).Slopes.getD j default)) sl.Vars sl.Slopes M))]
        · exact (g0 n hn).2
        · rw [idx_getD hj, Option.bind_some, (e6 n hn).2, Option.bind_some, cond_true, idx_getD hk, Option.bind_some, idx_getD hjs, Option.bind_some, add_eq _ _ _ b2]; rfl
theorem varLin {x : ByteArray} (h : isVarS x = true) : validL ⟨[x], [1], 0⟩ = true := by
  simp [validL, linC, h, inR]
theorem majC_iff {xs : List Majorant} (h : validM xs = true) {k : Nat} (hk : k < xs.length) : (0 ≤ (xs.getD k default).Constant ∧ (xs.getD k default).Constant ≤ 100000) ∧ ∀ s ∈ (xs.getD k default).Slopes, 0 ≤ s ∧ s ≤ 1000 := by
  simp only [validM, Bool.and_eq_true, List.all_eq_true, List.mem_range] at h
  have := h.2 k hk
  simp only [majC, Bool.and_eq_true, List.all_eq_true] at this
  exact ⟨inR_iff.1 this.1.1.2, fun s hs => inR_iff.1 (this.1.2 s hs)⟩
theorem bndV (xs : List Majorant) (hx : validM xs = true) (t : Term) : t.Ok → t.good = true →
    ∃ s i, BRel s i ∧ ∀ n, 2 * SizeOf.sizeOf t ≤ n → spec_l25BoundN n xs t = some s ∧ impl_boundOfN n xs t = some i := by
  refine Term.ind' (M := fun t => t.Ok → t.good = true → ∃ s i, BRel s i ∧ ∀ n, 2 * SizeOf.sizeOf t ≤ n → spec_l25BoundN n xs t = some s ∧ impl_boundOfN n xs t = some i) (fun t ih hok hg => ?_) t
  have hpos := t.pos
  have hiv := isVar_good hok hg
  have hsv := l2Var_eq t.Name hok.u.1
  cases hvar : isVarS t.Name
  · rw [hvar] at hiv hsv
    have hg' := hg
    rw [Term.good_u, hvar, cond_false, Bool.and_eq_true, Bool.and_eq_true, decide_eq_true_eq] at hg'
    have hga : ∀ a ∈ t.Args, a.good = true := fun a ha => List.all_eq_true.1 hg'.2 a ha
    have hfi := specFind xs t.Name t.Args.length
    have hfj := implFind xs t
    rcases ffind_cases (fun i => decide ((xs.getD i default).Name = t.Name) && decide ((xs.getD i default).Slopes.length = t.Args.length)) xs.length 0 with ⟨h1, h2⟩ | ⟨k, h1, h2, h3, h4, h5⟩
    · have e : majI xs t.Name t.Args.length = -1 := h1
      refine ⟨(⟨[], [], 0⟩, false), (⟨[], [], 0⟩, false), ⟨rfl, by simp, fun _ => rfl⟩, fun n hn => ?_⟩
      cases n with
      | zero => omega
      | succ n =>
        rw [spec_l25BoundN, impl_boundOfN, hiv, hsv, hfi, hfj, e]
        exact ⟨rfl, rfl⟩
    · have e : majI xs t.Name t.Args.length = (k : Int) := h1
      simp only [Bool.and_eq_true, decide_eq_true_eq] at h4
      have hk : k < xs.length := by omega
      obtain ⟨hc, hsl⟩ := majC_iff hx hk
      have b0 : BInv 0 GMap.empty (xs.getD k default).Constant := ⟨GOk.empty, fun z => by rw [empty_get]; omega, by omega, fun k hk => by simp [GMap.keys, GMap.empty] at hk, by simp [GMap.empty]⟩
      obtain ⟨r, r', g0, g3⟩ := args_loop xs k hk t.Args (2 * SizeOf.sizeOf t - 1) (fun n => spec_l25BoundN n xs) (fun n => impl_boundOfN n xs) (by omega) hg'.1.2 hsl
        (fun a ha => by
          obtain ⟨s, i, q1, q2⟩ := ih a ha (hok.u.2.2 a ha) (hga a ha)
          exact ⟨s, i, q1, fun n hn => q2 n (by have := Term.lt ha; omega)⟩) t.Args.length 0 _ _ (by omega) b0
      have n0 : nzk (GMap.empty : GMap Int) = [] := nzk_eq GOk.empty (by simp [Srt]) (fun z => by simp [empty_get])
      have e0 : (LM GMap.empty (xs.getD k default).Constant) = ⟨[], [], (xs.getD k default).Constant⟩ := by unfold LM; rw [n0]; rfl
      rw [e0] at g0
      have dk : decide ((k : Int) < 0) = false := decide_eq_false (by omega)
      rcases g3 with ⟨rfl, rfl⟩ | ⟨M', c', hb, rfl, rfl⟩
      · refine ⟨(⟨[], [], 0⟩, false), (⟨[], [], 0⟩, false), ⟨rfl, by simp, fun _ => rfl⟩, fun n hn => ?_⟩
        cases n with
        | zero => omega
        | succ n =>
          obtain ⟨q1, q2⟩ := g0 n (by omega)
          simp only [Option.bind_some, idx_getD hk] at q1 q2
          rw [spec_l25BoundN, impl_boundOfN, hiv, hsv, hfi, hfj, e]
          simp only [Option.bind_some, cond_false, dk, idx_getD hk]
          constructor
          · exact (congrArg (fun z => thenL z _) q1).trans rfl
          · exact (congrArg (fun z => thenL z _) q2).trans rfl
      · obtain ⟨f1, f2⟩ := hb.fin hg'.1.2
        refine ⟨(LM M' c', validL (LM M' c')), (bif validL (LM M' c') then (LM M' c', true) else (⟨[], [], 0⟩, false)), ?_, fun n hn => ?_⟩
        · cases hv : validL (LM M' c')
          · exact ⟨rfl, by simp, fun _ => rfl⟩
          · exact ⟨rfl, fun _ => ⟨rfl, hv⟩, by simp⟩
        · cases n with
          | zero => omega
          | succ n =>
            obtain ⟨q1, q2⟩ := g0 n (by omega)
            simp only [Option.bind_some, idx_getD hk] at q1 q2
            rw [spec_l25BoundN, impl_boundOfN, hiv, hsv, hfi, hfj, e]
            simp only [Option.bind_some, cond_false, dk, idx_getD hk]
            constructor
            · refine (congrArg (fun z => thenL z _) q1).trans ?_
              rw [thenL_inr]
              have : (Linear.mk (LM M' c').Vars (LM M' c').Slopes c') = LM M' c' := rfl
              simp only [this, f2, Option.bind_some]
            · refine (congrArg (fun z => thenL z _) q2).trans ?_
              rw [thenL_inr]
              simp only [f1, Option.bind_some]
  · rw [hvar] at hiv hsv
    refine ⟨(⟨[t.Name], [1], 0⟩, true), (⟨[t.Name], [1], 0⟩, true), ⟨rfl, fun _ => ⟨rfl, varLin hvar⟩, by simp⟩, fun n hn => ?_⟩
    cases n with
    | zero => omega
    | succ n =>
      rw [spec_l25BoundN, impl_boundOfN, hiv, hsv]
      exact ⟨rfl, rfl⟩
end Go.Proofs.YtgbddapcjhgllaaGreat
