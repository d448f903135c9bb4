/- A part of the proof: lemmas only; nothing is claimed here beyond what each lemma says. -/
import Derived.Test.YtlgeocknlmbgeaaGreatGsc
set_option linter.unusedSimpArgs false
set_option linter.unusedVariables false
set_option linter.defProp false
set_option maxRecDepth 4000
namespace Go.Proofs.YtlgeocknlmbgeaaGreat
open Go.Av
theorem FnExactIsValidSchema_true(s:Schema)(hok:s.Ok):FnExactIsValidSchema s=some true:=by
 unfold FnExactIsValidSchema
 rw[sSe_1 s hok _ (by omega) (by omega),Option.bind_some]
 by_cases e:szR s.tot 1048576<0
 ·rw[decide_eq_true e]; rfl
 have ht:=szR_ok e
 obtain⟨g1,g2⟩:=sb_ s hok ht
 rw[decide_eq_false e,cond_false]
 have g3:sIV_ s=some (schB s):=by unfold sIV_; rw[g2]; rfl
 simp only[tSe_1 s ht,Option.bind_some,g1,g3,eSr_1,cond_true,beq_self_eq_true]
end Go.Proofs.YtlgeocknlmbgeaaGreat
