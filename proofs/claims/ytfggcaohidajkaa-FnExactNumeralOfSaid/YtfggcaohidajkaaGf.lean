/- A part of the proof: lemmas only; nothing is claimed here beyond what each lemma says. -/
import Derived.Test.YtfggcaohidajkaaAvX
import Derived.Test.YtfggcaohidajkaaChecked
import Derived.KernelRfl
set_option linter.unusedSimpArgs false
set_option linter.unusedVariables false
set_option linter.defProp false
set_option maxRecDepth 4000
namespace Go.Proofs.Ytfggcaohidajkaa
open Go.Av
theorem mixed : Try.prog.follows .mixedOrders = true := by kernel_rfl
theorem mixedT : (Try.prog.follows .mixedOrders = true) = True := eq_true mixed
theorem i_3 : Try.prog.info? 3 = some Try.t3 := by kernel_rfl
theorem ty_3 : TyIs Try.prog 3 false 1 := TyIs.mk' Try.underlying3 i_3 rfl rfl
theorem zc_3 : zcv Try.prog 8 3 = .pv (.lit (.int .i64 0)) := by kernel_rfl
theorem z_3 : ZeroIs Try.prog 3 (.pv (.lit (.int .i64 0))) := ZeroIs.one i_3 rfl rfl rfl rfl rfl
theorem i_4 : Try.prog.info? 4 = some Try.t4 := by kernel_rfl
theorem ty_4 : TyIs Try.prog 4 false 1 := TyIs.mk' Try.underlying4 i_4 rfl rfl
theorem zc_4 : zcv Try.prog 8 4 = .pv (.lit (.bool false)) := by kernel_rfl
theorem z_4 : ZeroIs Try.prog 4 (.pv (.lit (.bool false))) := ZeroIs.one i_4 rfl rfl rfl rfl rfl
theorem u_4 : (Try.prog.underlying 4 = some .bool) = True := eq_true Try.underlying4
theorem i_5 : Try.prog.info? 5 = some Try.t5 := by kernel_rfl
theorem ty_5 : TyIs Try.prog 5 false 1 := TyIs.mk' Try.underlying5 i_5 rfl rfl
theorem zc_5 : zcv Try.prog 8 5 = .pv (.lit (.int .u8 0)) := by kernel_rfl
theorem z_5 : ZeroIs Try.prog 5 (.pv (.lit (.int .u8 0))) := ZeroIs.one i_5 rfl rfl rfl rfl rfl
theorem i_9 : Try.prog.info? 9 = some Try.t9 := by kernel_rfl
theorem ty_9 : TyIs Try.prog 9 false 1 := TyIs.mk' Try.underlying9 i_9 rfl rfl
theorem zc_9 : zcv Try.prog 8 9 = .pv (.lit (.string ⟨#[]⟩)) := by kernel_rfl
theorem z_9 : ZeroIs Try.prog 9 (.pv (.lit (.string ⟨#[]⟩))) := ZeroIs.one i_9 rfl rfl rfl rfl rfl
theorem u_9 : (Try.prog.underlying 9 = some .string) = True := eq_true Try.underlying9
theorem i_22 : Try.prog.info? 22 = some Try.t22 := by kernel_rfl
theorem ty_22 : TyIs Try.prog 22 false 1 := TyIs.mk' Try.underlying22 i_22 rfl rfl
theorem zc_22 : zcv Try.prog 8 22 = .pv (.sl true 2 []) := by kernel_rfl
theorem z_22 : ZeroIs Try.prog 22 (.pv (.sl true 2 [])) := ZeroIs.one i_22 rfl rfl rfl rfl rfl
theorem i_24 : Try.prog.info? 24 = some Try.t24 := by kernel_rfl
theorem es_22 : eSize Try.prog 22 = 2 := by kernel_rfl
theorem eb_22 : eBytes Try.prog 22 = 40 := by kernel_rfl
theorem sl_22 : SlIs Try.prog 22 2 40 := SlIs.mk' Try.underlying22 i_24 rfl rfl rfl rfl (by decide)
theorem is_22 : IsSl Try.prog 22 := ⟨_, Try.underlying22⟩
theorem el_22 : elemOfT Try.prog 22 = 24 := by kernel_rfl
theorem ze_22 : zel Try.prog 22 = .agg [(.lit (.string ⟨#[]⟩)), (.sl true 2 [])] := by kernel_rfl
theorem ez_22 : ElemZero Try.prog 22 (.agg [(.lit (.string ⟨#[]⟩)), (.sl true 2 [])]) := ElemZero.mk' Try.underlying22 (ZeroIs.agg i_24 rfl rfl rfl)
theorem ty_24 : TyIs Try.prog 24 true 2 := TyIs.mk' Try.underlying24 i_24 rfl rfl
theorem zc_24 : zcv Try.prog 8 24 = .node [.pv (.lit (.string ⟨#[]⟩)), .pv (.sl true 2 [])] := by kernel_rfl
theorem z_24 : ZeroIs Try.prog 24 (.node [.pv (.lit (.string ⟨#[]⟩)), .pv (.sl true 2 [])]) := ZeroIs.agg i_24 rfl rfl rfl
theorem fo_24_0 : fOff Try.prog 24 0 = 0 := by kernel_rfl
theorem fi_24_0 : FieldIs Try.prog 24 0 0 := FieldIs.mk' Try.underlying24 rfl rfl i_9 (by decide)
theorem ft_24_0 : fldT Try.prog 24 0 = 9 := by kernel_rfl
theorem fo_24_1 : fOff Try.prog 24 1 = 1 := by kernel_rfl
theorem fi_24_1 : FieldIs Try.prog 24 1 1 := FieldIs.mk' Try.underlying24 rfl rfl i_22 (by decide)
theorem ft_24_1 : fldT Try.prog 24 1 = 22 := by kernel_rfl
theorem lay_24 : LayoutOk Try.prog 24 [.pv (.lit (.string ⟨#[]⟩)), .pv (.sl true 2 [])] := ⟨_, Try.underlying24, rfl, fun k f hk => by match k, hk with | 0, hk => (obtain rfl := Option.some.inj hk; exact ⟨rfl, _, i_9, rfl⟩) | 1, hk => (obtain rfl := Option.some.inj hk; exact ⟨rfl, _, i_22, rfl⟩) | k + 2, hk => simp at hk⟩
theorem i_154 : Try.prog.info? 154 = some Try.t154 := by kernel_rfl
theorem ty_154 : TyIs Try.prog 154 false 1 := TyIs.mk' Try.underlying154 i_154 rfl rfl
theorem zc_154 : zcv Try.prog 8 154 = .pv (.sl true 1 []) := by kernel_rfl
theorem z_154 : ZeroIs Try.prog 154 (.pv (.sl true 1 [])) := ZeroIs.one i_154 rfl rfl rfl rfl rfl
theorem es_154 : eSize Try.prog 154 = 1 := by kernel_rfl
theorem eb_154 : eBytes Try.prog 154 = 1 := by kernel_rfl
theorem sl_154 : SlIs Try.prog 154 1 1 := SlIs.mk' Try.underlying154 i_5 rfl rfl rfl rfl (by decide)
theorem by_154 : IsBytes Try.prog 154 := ⟨_, Try.underlying154, Try.underlying5⟩
theorem is_154 : IsSl Try.prog 154 := ⟨_, Try.underlying154⟩
theorem el_154 : elemOfT Try.prog 154 = 5 := by kernel_rfl
theorem ze_154 : zel Try.prog 154 = (.lit (.int .u8 0)) := by kernel_rfl
theorem ez_154 : ElemZero Try.prog 154 ((.lit (.int .u8 0))) := ElemZero.mk' Try.underlying154 (ZeroIs.one i_5 rfl rfl rfl rfl rfl)
theorem uk_3 : Try.prog.underlying 3 = some (.int .i64) := Try.underlying3
theorem uk_5 : Try.prog.underlying 5 = some (.int .u8) := Try.underlying5
theorem uk_9 : Try.prog.underlying 9 = some .string := Try.underlying9
end Go.Proofs.Ytfggcaohidajkaa
