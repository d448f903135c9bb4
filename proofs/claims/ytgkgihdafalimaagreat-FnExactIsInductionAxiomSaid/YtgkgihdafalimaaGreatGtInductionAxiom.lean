/- A part of the proof: lemmas only; nothing is claimed here beyond what each lemma says. -/
import Derived.Test.YtgkgihdafalimaaGreatGmf
set_option linter.unusedSimpArgs false
set_option linter.unusedVariables false
set_option linter.defProp false
set_option maxRecDepth 4000
namespace Go.Proofs.YtgkgihdafalimaaGreat
open Go.Av
def zN : Term := ⟨⟨#[122, 101, 114, 111]⟩, []⟩
def sN (n : ByteArray) : Term := ⟨⟨#[115]⟩, [⟨n, []⟩]⟩
theorem zN_good : goodT zN = true := by rfl
theorem sN_good {n : ByteArray} (h : isVarS n = true) : goodT (sN n) = true := by
  have h1 : (⟨n, []⟩ : Term).good = true := by rw [Term.good_u]; show (bif isVarS n then true else _) = true; rw [h]; rfl
  have h2 : (sN n).good = true := by
    rw [Term.good_u]
    show (bif isVarS ⟨#[115]⟩ then false else (isSymS ⟨#[115]⟩ && true && ([⟨n, []⟩] : List Term).all Term.good)) = true
    rw [show isVarS ⟨#[115]⟩ = false from rfl, show isSymS ⟨#[115]⟩ = true from rfl, List.all_cons, h1]; rfl
  have hz : (⟨n, []⟩ : Term).cnt = 1 := by rw [Term.cnt_mk]; rfl
  have hd : (⟨n, []⟩ : Term).dep = 1 := by rw [Term.dep_mk]; rfl
  unfold goodT smallT
  rw [h2, show (sN n).cnt = 2 from by unfold sN; rw [Term.cnt_mk]; simp [hz], show (sN n).dep = 2 from by unfold sN; rw [Term.dep_mk]; simp [Term.deps, hd]]
  rfl
def two (o : Int) (a b : Formula) : Formula := ⟨o, ⟨⟨#[]⟩, []⟩, ⟨#[]⟩, [a, b]⟩
def qua (n : ByteArray) (a : Formula) : Formula := ⟨8, ⟨⟨#[]⟩, []⟩, n, [a]⟩
def axm (f : Formula) (n : ByteArray) : Formula := two 7 (two 5 (f.sub n zN) (qua n (two 7 f (f.sub n (sN n))))) (qua n f)
theorem zT_tot : (⟨⟨#[]⟩, []⟩ : Term).tot = 0 := by rw [Term.tot_u]; rfl
theorem two_tot (o : Int) (a b : Formula) : (two o a b).tot = a.tot + b.tot + 2 := by
  unfold two; rw [Formula.tot_u]; show (⟨⟨#[]⟩, []⟩ : Term).tot + ((⟨#[]⟩ : ByteArray).size + ltot Formula.tot [a, b]) = _
  rw [zT_tot, show (⟨#[]⟩ : ByteArray).size = 0 from rfl]; simp [ltot]; omega
theorem qua_tot (n : ByteArray) (a : Formula) : (qua n a).tot = n.size + a.tot + 1 := by
  unfold qua; rw [Formula.tot_u]; show (⟨⟨#[]⟩, []⟩ : Term).tot + (n.size + ltot Formula.tot [a]) = _
  rw [zT_tot]; simp [ltot]; omega
theorem zT_Ok : (⟨⟨#[]⟩, []⟩ : Term).Ok := Term.Ok_of _ (by rw [Term.tot_u]; exact Nat.le_of_ble_eq_true rfl)
theorem two_Ok {o : Int} {a b : Formula} (ho : InR o) (ha : a.Ok) (hb : b.Ok) : (two o a b).Ok :=
  Formula.Ok.mk _ _ _ _ ho zT_Ok (Nat.zero_le _) (by simp [Big]) (fun x hx => by
    simp only [List.mem_cons, List.not_mem_nil, or_false] at hx
    rcases hx with rfl | rfl
    · exact ha
    · exact hb)
theorem qua_Ok {n : ByteArray} {a : Formula} (hn : Big n.size) (ha : a.Ok) : (qua n a).Ok :=
  Formula.Ok.mk _ _ _ _ (by simp [InR]) zT_Ok hn (by simp [Big]) (fun x hx => by
    simp only [List.mem_cons, List.not_mem_nil, or_false] at hx
    rw [hx]; exact ha)
noncomputable def axOk (f : Formula) (n : ByteArray) : Bool := subst f n zN && (subst f n (sN n) && validF (axm f n))
noncomputable def axR (f : Formula) (n : ByteArray) : Formula × Bool := bif axOk f n then (axm f n, true) else (⟨0, ⟨⟨#[]⟩, []⟩, ⟨#[]⟩, []⟩, false)
theorem SubstituteFormula_nv {n : ByteArray} {t : Term} {f : Formula} (hof : f.Ok) (hf : f.tot ≤ 1048576) (hnb : Big n.size) (hv : (validF f && isVarS n) = false) :
    impl_SubstituteFormula f n t = some (⟨0, ⟨⟨#[]⟩, []⟩, ⟨#[]⟩, []⟩, false) := by
  unfold impl_SubstituteFormula
  rw [validF_impl f hf hof, isVariable_eq n hnb]
  simp only [Option.bind_some]
  cases h1 : validF f
  · rfl
  · rw [h1, Bool.true_and] at hv; rw [hv]; rfl
theorem axm_ok {f : Formula} {n : ByteArray} (h1 : subst f n zN = true) (h2 : subst f n (sN n) = true) : (axm f n).tot ≤ 40000 ∧ (axm f n).Ok := by
  obtain ⟨a1, a2, a3, _⟩ := subst_valid h1
  obtain ⟨b1, _⟩ := subst_valid h2
  have t1 := validF_tot a1
  have t2 := validF_tot a2
  have t3 := validF_tot b1
  have t4 := var_size a3
  have hb : Big n.size := by simp only [Big]; omega
  have i7 : InR 7 := by simp [InR]
  have i5 : InR 5 := by simp [InR]
  refine ⟨?_, two_Ok i7 (two_Ok i5 (validF_Ok a1) (qua_Ok hb (two_Ok i7 (validF_Ok a2) (validF_Ok b1)))) (qua_Ok hb (validF_Ok a2))⟩
  unfold axm
  rw [two_tot, two_tot, qua_tot, two_tot, qua_tot]; omega
theorem axiom_impl {f : Formula} {n : ByteArray} (hof : f.Ok) (hf : f.tot ≤ 1048576) (hnb : Big n.size) : impl_InductionAxiom f n = some (axR f n) := by
  unfold impl_InductionAxiom axR axOk impl_zero impl_successor
  simp only [Option.bind_some]
  show Option.bind (impl_SubstituteFormula f n zN) _ = _
  cases hv : (validF f && isVarS n)
  · rw [SubstituteFormula_nv hof hf hnb hv]
    rw [show subst f n zN = false from by unfold subst; rw [← Bool.and_assoc, hv]; rfl]
    simp only [Option.bind_some]
    show Option.bind (impl_SubstituteFormula f n (sN n)) _ = _
    rw [SubstituteFormula_nv hof hf hnb hv]; rfl
  rw [Bool.and_eq_true] at hv
  have hz := goodT_Ok zN_good
  have hs := goodT_Ok (sN_good hv.2)
  rw [SubstituteFormula_eq hof hf hnb hz.2 (by omega), Option.bind_some]
  show Option.bind (impl_SubstituteFormula f n (sN n)) _ = _
  rw [SubstituteFormula_eq hof hf hnb hs.2 (by omega), Option.bind_some]
  cases h1 : subst f n zN
  · rfl
  cases h2 : subst f n (sN n)
  · rfl
  obtain ⟨h3, h4⟩ := axm_ok h1 h2
  simp only [cond_true, Bool.true_and]
  rw [copyF f hf]
  simp only [Option.bind_some, impl_binary, impl_quantified, impl_ifFormula]
  show Option.bind (Option.bind (impl_IsValidFormula (axm f n)) _) _ = _
  rw [validF_impl _ (by omega) h4]
  simp only [Option.bind_some]
  cases validF (axm f n) <;> rfl
theorem numeral0 : spec_l23Numeral 0 = some zN := rfl
theorem axiom_spec {f : Formula} {n : ByteArray} (hof : f.Ok) (hf : f.tot ≤ 1048576) (hnb : Big n.size) : spec_InductionAxiom f n = some (axR f n) := by
  unfold spec_InductionAxiom axR axOk
  rw [validF_spec f hf hof, l2Var_eq n hnb, numeral0]
  simp only [Option.bind_some]
  cases hv : validF f
  · rw [show subst f n zN = false from by unfold subst; rw [hv]; rfl]; rfl
  cases hn : isVarS n
  · rw [show subst f n zN = false from by unfold subst; rw [hn, hv]; rfl]; rfl
  obtain ⟨v1, v2⟩ := validF_iff hv
  obtain ⟨z1, z2⟩ := goodT_iff zN_good
  obtain ⟨s1, s2⟩ := goodT_iff (sN_good hn)
  obtain ⟨r, r1, r2, r3⟩ := spec_put hn z1 (goodT_Ok zN_good).2 z2 hof v2 hf (by omega)
  obtain ⟨q, q1, q2, q3⟩ := spec_put hn s1 (goodT_Ok (sN_good hn)).2 s2 hof v2 hf (by omega)
  have e1 : subst f n zN = r.2 := by unfold subst; rw [hv, hn, zN_good, r2]; rfl
  have e2 : subst f n (sN n) = q.2 := by unfold subst; rw [hv, hn, sN_good hn, q2]; rfl
  simp only [cond_true]
  rw [r1, Option.bind_some, show spec_l23After n = some (sN n) from rfl, Option.bind_some, q1, Option.bind_some, ownF f hf]
  simp only [Option.bind_some, spec_l19Two]
  cases h1 : subst f n zN
  · rw [← e1, h1]; rfl
  cases h2 : subst f n (sN n)
  · rw [← e1, h1, ← e2, h2]; rfl
  obtain ⟨h3, h4⟩ := axm_ok h1 h2
  rw [← e1, h1, ← e2, h2]
  simp only [cond_true, Bool.true_and]
  rw [r3 (e1.symm.trans h1), q3 (e2.symm.trans h2)]
  show Option.bind (spec_l8Good (axm f n)) _ = _
  rw [validF_spec _ (by omega) h4, Option.bind_some]
  cases validF (axm f n) <;> rfl
end Go.Proofs.YtgkgihdafalimaaGreat
