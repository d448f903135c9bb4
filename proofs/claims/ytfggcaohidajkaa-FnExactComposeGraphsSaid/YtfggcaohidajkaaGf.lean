/- A part of the proof: lemmas only; nothing is claimed here beyond what each lemma says. -/
import Derived.Test.YtfggcaohidajkaaAvX
import Derived.Test.YtfggcaohidajkaaChecked
import Derived.KernelRfl
set_option linter.unusedSimpArgs false
set_option linter.unusedVariables false
set_option linter.defProp false
set_option maxRecDepth 4000
namespace Go.Proofs.Ytfggcaohidajkaa
open Go.Av
theorem mixed : Try.prog.follows .mixedOrders = true := by kernel_rfl
theorem mixedT : (Try.prog.follows .mixedOrders = true) = True := eq_true mixed
theorem i_3 : Try.prog.info? 3 = some Try.t3 := by kernel_rfl
theorem ty_3 : TyIs Try.prog 3 false 1 := TyIs.mk' Try.underlying3 i_3 rfl rfl
theorem zc_3 : zcv Try.prog 8 3 = .pv (.lit (.int .i64 0)) := by kernel_rfl
theorem z_3 : ZeroIs Try.prog 3 (.pv (.lit (.int .i64 0))) := ZeroIs.one i_3 rfl rfl rfl rfl rfl
theorem i_4 : Try.prog.info? 4 = some Try.t4 := by kernel_rfl
theorem ty_4 : TyIs Try.prog 4 false 1 := TyIs.mk' Try.underlying4 i_4 rfl rfl
theorem zc_4 : zcv Try.prog 8 4 = .pv (.lit (.bool false)) := by kernel_rfl
theorem z_4 : ZeroIs Try.prog 4 (.pv (.lit (.bool false))) := ZeroIs.one i_4 rfl rfl rfl rfl rfl
theorem u_4 : (Try.prog.underlying 4 = some .bool) = True := eq_true Try.underlying4
theorem i_38 : Try.prog.info? 38 = some Try.t38 := by kernel_rfl
theorem ty_38 : TyIs Try.prog 38 false 1 := TyIs.mk' Try.underlying38 i_38 rfl rfl
theorem zc_38 : zcv Try.prog 8 38 = .pv (.sl true 3 []) := by kernel_rfl
theorem z_38 : ZeroIs Try.prog 38 (.pv (.sl true 3 [])) := ZeroIs.one i_38 rfl rfl rfl rfl rfl
theorem i_138 : Try.prog.info? 138 = some Try.t138 := by kernel_rfl
theorem es_38 : eSize Try.prog 38 = 3 := by kernel_rfl
theorem eb_38 : eBytes Try.prog 38 = 24 := by kernel_rfl
theorem sl_38 : SlIs Try.prog 38 3 24 := SlIs.mk' Try.underlying38 i_138 rfl rfl rfl rfl (by decide)
theorem is_38 : IsSl Try.prog 38 := ⟨_, Try.underlying38⟩
theorem el_38 : elemOfT Try.prog 38 = 138 := by kernel_rfl
theorem ze_38 : zel Try.prog 38 = .agg [(.lit (.int .i64 0)), (.lit (.int .i64 0)), (.lit (.bool false))] := by kernel_rfl
theorem ez_38 : ElemZero Try.prog 38 (.agg [(.lit (.int .i64 0)), (.lit (.int .i64 0)), (.lit (.bool false))]) := ElemZero.mk' Try.underlying38 (ZeroIs.agg i_138 rfl rfl rfl)
theorem i_40 : Try.prog.info? 40 = some Try.t40 := by kernel_rfl
theorem ty_40 : TyIs Try.prog 40 true 3 := TyIs.mk' Try.underlying40 i_40 rfl rfl
theorem zc_40 : zcv Try.prog 8 40 = .node [.pv (.lit (.int .i64 0)), .pv (.lit (.int .i64 0)), .pv (.sl true 3 [])] := by kernel_rfl
theorem z_40 : ZeroIs Try.prog 40 (.node [.pv (.lit (.int .i64 0)), .pv (.lit (.int .i64 0)), .pv (.sl true 3 [])]) := ZeroIs.agg i_40 rfl rfl rfl
theorem fo_40_0 : fOff Try.prog 40 0 = 0 := by kernel_rfl
theorem fi_40_0 : FieldIs Try.prog 40 0 0 := FieldIs.mk' Try.underlying40 rfl rfl i_3 (by decide)
theorem ft_40_0 : fldT Try.prog 40 0 = 3 := by kernel_rfl
theorem fo_40_1 : fOff Try.prog 40 1 = 1 := by kernel_rfl
theorem fi_40_1 : FieldIs Try.prog 40 1 1 := FieldIs.mk' Try.underlying40 rfl rfl i_3 (by decide)
theorem ft_40_1 : fldT Try.prog 40 1 = 3 := by kernel_rfl
theorem fo_40_2 : fOff Try.prog 40 2 = 2 := by kernel_rfl
theorem fi_40_2 : FieldIs Try.prog 40 2 2 := FieldIs.mk' Try.underlying40 rfl rfl i_38 (by decide)
theorem ft_40_2 : fldT Try.prog 40 2 = 38 := by kernel_rfl
theorem lay_40 : LayoutOk Try.prog 40 [.pv (.lit (.int .i64 0)), .pv (.lit (.int .i64 0)), .pv (.sl true 3 [])] := ⟨_, Try.underlying40, rfl, fun k f hk => by match k, hk with | 0, hk => (obtain rfl := Option.some.inj hk; exact ⟨rfl, _, i_3, rfl⟩) | 1, hk => (obtain rfl := Option.some.inj hk; exact ⟨rfl, _, i_3, rfl⟩) | 2, hk => (obtain rfl := Option.some.inj hk; exact ⟨rfl, _, i_38, rfl⟩) | k + 3, hk => simp at hk⟩
theorem i_43 : Try.prog.info? 43 = some Try.t43 := by kernel_rfl
theorem ty_43 : TyIs Try.prog 43 false 1 := TyIs.mk' Try.underlying43 i_43 rfl rfl
theorem zc_43 : zcv Try.prog 8 43 = .pv (.sl true 3 []) := by kernel_rfl
theorem z_43 : ZeroIs Try.prog 43 (.pv (.sl true 3 [])) := ZeroIs.one i_43 rfl rfl rfl rfl rfl
theorem i_103 : Try.prog.info? 103 = some Try.t103 := by kernel_rfl
theorem es_43 : eSize Try.prog 43 = 3 := by kernel_rfl
theorem eb_43 : eBytes Try.prog 43 = 24 := by kernel_rfl
theorem sl_43 : SlIs Try.prog 43 3 24 := SlIs.mk' Try.underlying43 i_103 rfl rfl rfl rfl (by decide)
theorem is_43 : IsSl Try.prog 43 := ⟨_, Try.underlying43⟩
theorem el_43 : elemOfT Try.prog 43 = 103 := by kernel_rfl
theorem ze_43 : zel Try.prog 43 = .agg [(.lit (.int .i64 0)), (.lit (.int .i64 0)), (.lit (.bool false))] := by kernel_rfl
theorem ez_43 : ElemZero Try.prog 43 (.agg [(.lit (.int .i64 0)), (.lit (.int .i64 0)), (.lit (.bool false))]) := ElemZero.mk' Try.underlying43 (ZeroIs.agg i_103 rfl rfl rfl)
theorem i_45 : Try.prog.info? 45 = some Try.t45 := by kernel_rfl
theorem ty_45 : TyIs Try.prog 45 true 3 := TyIs.mk' Try.underlying45 i_45 rfl rfl
theorem zc_45 : zcv Try.prog 8 45 = .node [.pv (.lit (.int .i64 0)), .pv (.lit (.int .i64 0)), .pv (.sl true 3 [])] := by kernel_rfl
theorem z_45 : ZeroIs Try.prog 45 (.node [.pv (.lit (.int .i64 0)), .pv (.lit (.int .i64 0)), .pv (.sl true 3 [])]) := ZeroIs.agg i_45 rfl rfl rfl
theorem fo_45_0 : fOff Try.prog 45 0 = 0 := by kernel_rfl
theorem fi_45_0 : FieldIs Try.prog 45 0 0 := FieldIs.mk' Try.underlying45 rfl rfl i_3 (by decide)
theorem ft_45_0 : fldT Try.prog 45 0 = 3 := by kernel_rfl
theorem fo_45_1 : fOff Try.prog 45 1 = 1 := by kernel_rfl
theorem fi_45_1 : FieldIs Try.prog 45 1 1 := FieldIs.mk' Try.underlying45 rfl rfl i_3 (by decide)
theorem ft_45_1 : fldT Try.prog 45 1 = 3 := by kernel_rfl
theorem fo_45_2 : fOff Try.prog 45 2 = 2 := by kernel_rfl
theorem fi_45_2 : FieldIs Try.prog 45 2 2 := FieldIs.mk' Try.underlying45 rfl rfl i_43 (by decide)
theorem ft_45_2 : fldT Try.prog 45 2 = 43 := by kernel_rfl
theorem lay_45 : LayoutOk Try.prog 45 [.pv (.lit (.int .i64 0)), .pv (.lit (.int .i64 0)), .pv (.sl true 3 [])] := ⟨_, Try.underlying45, rfl, fun k f hk => by match k, hk with | 0, hk => (obtain rfl := Option.some.inj hk; exact ⟨rfl, _, i_3, rfl⟩) | 1, hk => (obtain rfl := Option.some.inj hk; exact ⟨rfl, _, i_3, rfl⟩) | 2, hk => (obtain rfl := Option.some.inj hk; exact ⟨rfl, _, i_43, rfl⟩) | k + 3, hk => simp at hk⟩
theorem i_50 : Try.prog.info? 50 = some Try.t50 := by kernel_rfl
theorem ty_50 : TyIs Try.prog 50 false 1 := TyIs.mk' Try.underlying50 i_50 rfl rfl
theorem zc_50 : zcv Try.prog 8 50 = .pv (.sl true 1 []) := by kernel_rfl
theorem z_50 : ZeroIs Try.prog 50 (.pv (.sl true 1 [])) := ZeroIs.one i_50 rfl rfl rfl rfl rfl
theorem es_50 : eSize Try.prog 50 = 1 := by kernel_rfl
theorem eb_50 : eBytes Try.prog 50 = 8 := by kernel_rfl
theorem sl_50 : SlIs Try.prog 50 1 8 := SlIs.mk' Try.underlying50 i_3 rfl rfl rfl rfl (by decide)
theorem is_50 : IsSl Try.prog 50 := ⟨_, Try.underlying50⟩
theorem el_50 : elemOfT Try.prog 50 = 3 := by kernel_rfl
theorem ze_50 : zel Try.prog 50 = (.lit (.int .i64 0)) := by kernel_rfl
theorem ez_50 : ElemZero Try.prog 50 ((.lit (.int .i64 0))) := ElemZero.mk' Try.underlying50 (ZeroIs.one i_3 rfl rfl rfl rfl rfl)
theorem ty_103 : TyIs Try.prog 103 true 3 := TyIs.mk' Try.underlying103 i_103 rfl rfl
theorem zc_103 : zcv Try.prog 8 103 = .node [.pv (.lit (.int .i64 0)), .pv (.lit (.int .i64 0)), .pv (.lit (.bool false))] := by kernel_rfl
theorem z_103 : ZeroIs Try.prog 103 (.node [.pv (.lit (.int .i64 0)), .pv (.lit (.int .i64 0)), .pv (.lit (.bool false))]) := ZeroIs.agg i_103 rfl rfl rfl
theorem fo_103_0 : fOff Try.prog 103 0 = 0 := by kernel_rfl
theorem fi_103_0 : FieldIs Try.prog 103 0 0 := FieldIs.mk' Try.underlying103 rfl rfl i_3 (by decide)
theorem ft_103_0 : fldT Try.prog 103 0 = 3 := by kernel_rfl
theorem fo_103_1 : fOff Try.prog 103 1 = 1 := by kernel_rfl
theorem fi_103_1 : FieldIs Try.prog 103 1 1 := FieldIs.mk' Try.underlying103 rfl rfl i_3 (by decide)
theorem ft_103_1 : fldT Try.prog 103 1 = 3 := by kernel_rfl
theorem fo_103_2 : fOff Try.prog 103 2 = 2 := by kernel_rfl
theorem fi_103_2 : FieldIs Try.prog 103 2 2 := FieldIs.mk' Try.underlying103 rfl rfl i_4 (by decide)
theorem ft_103_2 : fldT Try.prog 103 2 = 4 := by kernel_rfl
theorem eqs_103 : EqS Try.prog 103 [some (.int .i64), some (.int .i64), some .bool] := (by kernel_rfl : eqSB Try.prog 103 [some (.int .i64), some (.int .i64), some .bool] = true)
theorem lay_103 : LayoutOk Try.prog 103 [.pv (.lit (.int .i64 0)), .pv (.lit (.int .i64 0)), .pv (.lit (.bool false))] := ⟨_, Try.underlying103, rfl, fun k f hk => by match k, hk with | 0, hk => (obtain rfl := Option.some.inj hk; exact ⟨rfl, _, i_3, rfl⟩) | 1, hk => (obtain rfl := Option.some.inj hk; exact ⟨rfl, _, i_3, rfl⟩) | 2, hk => (obtain rfl := Option.some.inj hk; exact ⟨rfl, _, i_4, rfl⟩) | k + 3, hk => simp at hk⟩
theorem i_104 : Try.prog.info? 104 = some Try.t104 := by kernel_rfl
theorem ty_104 : TyIs Try.prog 104 false 1 := TyIs.mk' Try.underlying104 i_104 rfl rfl
theorem zc_104 : zcv Try.prog 8 104 = .pv (.lit .nilFunc) := by kernel_rfl
theorem z_104 : ZeroIs Try.prog 104 (.pv (.lit .nilFunc)) := ZeroIs.one i_104 rfl rfl rfl rfl rfl
theorem ty_138 : TyIs Try.prog 138 true 3 := TyIs.mk' Try.underlying138 i_138 rfl rfl
theorem zc_138 : zcv Try.prog 8 138 = .node [.pv (.lit (.int .i64 0)), .pv (.lit (.int .i64 0)), .pv (.lit (.bool false))] := by kernel_rfl
theorem z_138 : ZeroIs Try.prog 138 (.node [.pv (.lit (.int .i64 0)), .pv (.lit (.int .i64 0)), .pv (.lit (.bool false))]) := ZeroIs.agg i_138 rfl rfl rfl
theorem fo_138_0 : fOff Try.prog 138 0 = 0 := by kernel_rfl
theorem fi_138_0 : FieldIs Try.prog 138 0 0 := FieldIs.mk' Try.underlying138 rfl rfl i_3 (by decide)
theorem ft_138_0 : fldT Try.prog 138 0 = 3 := by kernel_rfl
theorem fo_138_1 : fOff Try.prog 138 1 = 1 := by kernel_rfl
theorem fi_138_1 : FieldIs Try.prog 138 1 1 := FieldIs.mk' Try.underlying138 rfl rfl i_3 (by decide)
theorem ft_138_1 : fldT Try.prog 138 1 = 3 := by kernel_rfl
theorem fo_138_2 : fOff Try.prog 138 2 = 2 := by kernel_rfl
theorem fi_138_2 : FieldIs Try.prog 138 2 2 := FieldIs.mk' Try.underlying138 rfl rfl i_4 (by decide)
theorem ft_138_2 : fldT Try.prog 138 2 = 4 := by kernel_rfl
theorem lay_138 : LayoutOk Try.prog 138 [.pv (.lit (.int .i64 0)), .pv (.lit (.int .i64 0)), .pv (.lit (.bool false))] := ⟨_, Try.underlying138, rfl, fun k f hk => by match k, hk with | 0, hk => (obtain rfl := Option.some.inj hk; exact ⟨rfl, _, i_3, rfl⟩) | 1, hk => (obtain rfl := Option.some.inj hk; exact ⟨rfl, _, i_3, rfl⟩) | 2, hk => (obtain rfl := Option.some.inj hk; exact ⟨rfl, _, i_4, rfl⟩) | k + 3, hk => simp at hk⟩
theorem i_151 : Try.prog.info? 151 = some Try.t151 := by kernel_rfl
theorem ty_151 : TyIs Try.prog 151 false 1 := TyIs.mk' Try.underlying151 i_151 rfl rfl
theorem zc_151 : zcv Try.prog 8 151 = .pv (.lit (.int .u64 0)) := by kernel_rfl
theorem z_151 : ZeroIs Try.prog 151 (.pv (.lit (.int .u64 0))) := ZeroIs.one i_151 rfl rfl rfl rfl rfl
theorem isIntB_i : isIntB (Try.prog.underlying 3) = true := by kernel_rfl
theorem uk_3 : Try.prog.underlying 3 = some (.int .i64) := Try.underlying3
theorem uk_151 : Try.prog.underlying 151 = some (.int .u64) := Try.underlying151
end Go.Proofs.Ytfggcaohidajkaa
