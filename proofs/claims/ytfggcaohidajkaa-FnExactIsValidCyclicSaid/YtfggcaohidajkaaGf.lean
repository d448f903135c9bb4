/- A part of the proof: lemmas only; nothing is claimed here beyond what each lemma says. -/
import Derived.Test.YtfggcaohidajkaaAvN
import Derived.Test.YtfggcaohidajkaaChecked
import Derived.KernelRfl
set_option linter.unusedSimpArgs false
set_option linter.unusedVariables false
set_option linter.defProp false
set_option maxRecDepth 4000
namespace Go.Proofs.Ytfggcaohidajkaa
open Go.Av
theorem mixed : Try.prog.follows .mixedOrders = true := by kernel_rfl
theorem mixedT : (Try.prog.follows .mixedOrders = true) = True := eq_true mixed
theorem i_3 : Try.prog.info? 3 = some Try.t3 := by kernel_rfl
theorem ty_3 : TyIs Try.prog 3 false 1 := TyIs.mk' Try.underlying3 i_3 rfl rfl
theorem zc_3 : zcv Try.prog 8 3 = .pv (.lit (.int .i64 0)) := by kernel_rfl
theorem z_3 : ZeroIs Try.prog 3 (.pv (.lit (.int .i64 0))) := ZeroIs.one i_3 rfl rfl rfl rfl rfl
theorem i_4 : Try.prog.info? 4 = some Try.t4 := by kernel_rfl
theorem ty_4 : TyIs Try.prog 4 false 1 := TyIs.mk' Try.underlying4 i_4 rfl rfl
theorem zc_4 : zcv Try.prog 8 4 = .pv (.lit (.bool false)) := by kernel_rfl
theorem z_4 : ZeroIs Try.prog 4 (.pv (.lit (.bool false))) := ZeroIs.one i_4 rfl rfl rfl rfl rfl
theorem u_4 : (Try.prog.underlying 4 = some .bool) = True := eq_true Try.underlying4
theorem i_5 : Try.prog.info? 5 = some Try.t5 := by kernel_rfl
theorem ty_5 : TyIs Try.prog 5 false 1 := TyIs.mk' Try.underlying5 i_5 rfl rfl
theorem zc_5 : zcv Try.prog 8 5 = .pv (.lit (.int .u8 0)) := by kernel_rfl
theorem z_5 : ZeroIs Try.prog 5 (.pv (.lit (.int .u8 0))) := ZeroIs.one i_5 rfl rfl rfl rfl rfl
theorem i_9 : Try.prog.info? 9 = some Try.t9 := by kernel_rfl
theorem ty_9 : TyIs Try.prog 9 false 1 := TyIs.mk' Try.underlying9 i_9 rfl rfl
theorem zc_9 : zcv Try.prog 8 9 = .pv (.lit (.string ⟨#[]⟩)) := by kernel_rfl
theorem z_9 : ZeroIs Try.prog 9 (.pv (.lit (.string ⟨#[]⟩))) := ZeroIs.one i_9 rfl rfl rfl rfl rfl
theorem u_9 : (Try.prog.underlying 9 = some .string) = True := eq_true Try.underlying9
theorem i_22 : Try.prog.info? 22 = some Try.t22 := by kernel_rfl
theorem ty_22 : TyIs Try.prog 22 false 1 := TyIs.mk' Try.underlying22 i_22 rfl rfl
theorem zc_22 : zcv Try.prog 8 22 = .pv (.sl true 2 []) := by kernel_rfl
theorem z_22 : ZeroIs Try.prog 22 (.pv (.sl true 2 [])) := ZeroIs.one i_22 rfl rfl rfl rfl rfl
theorem i_24 : Try.prog.info? 24 = some Try.t24 := by kernel_rfl
theorem es_22 : eSize Try.prog 22 = 2 := by kernel_rfl
theorem eb_22 : eBytes Try.prog 22 = 40 := by kernel_rfl
theorem sl_22 : SlIs Try.prog 22 2 40 := SlIs.mk' Try.underlying22 i_24 rfl rfl rfl rfl (by decide)
theorem is_22 : IsSl Try.prog 22 := ⟨_, Try.underlying22⟩
theorem el_22 : elemOfT Try.prog 22 = 24 := by kernel_rfl
theorem ze_22 : zel Try.prog 22 = .agg [(.lit (.string ⟨#[]⟩)), (.sl true 2 [])] := by kernel_rfl
theorem ez_22 : ElemZero Try.prog 22 (.agg [(.lit (.string ⟨#[]⟩)), (.sl true 2 [])]) := ElemZero.mk' Try.underlying22 (ZeroIs.agg i_24 rfl rfl rfl)
theorem ty_24 : TyIs Try.prog 24 true 2 := TyIs.mk' Try.underlying24 i_24 rfl rfl
theorem zc_24 : zcv Try.prog 8 24 = .node [.pv (.lit (.string ⟨#[]⟩)), .pv (.sl true 2 [])] := by kernel_rfl
theorem z_24 : ZeroIs Try.prog 24 (.node [.pv (.lit (.string ⟨#[]⟩)), .pv (.sl true 2 [])]) := ZeroIs.agg i_24 rfl rfl rfl
theorem fo_24_0 : fOff Try.prog 24 0 = 0 := by kernel_rfl
theorem fi_24_0 : FieldIs Try.prog 24 0 0 := FieldIs.mk' Try.underlying24 rfl rfl i_9 (by decide)
theorem ft_24_0 : fldT Try.prog 24 0 = 9 := by kernel_rfl
theorem fo_24_1 : fOff Try.prog 24 1 = 1 := by kernel_rfl
theorem fi_24_1 : FieldIs Try.prog 24 1 1 := FieldIs.mk' Try.underlying24 rfl rfl i_22 (by decide)
theorem ft_24_1 : fldT Try.prog 24 1 = 22 := by kernel_rfl
theorem lay_24 : LayoutOk Try.prog 24 [.pv (.lit (.string ⟨#[]⟩)), .pv (.sl true 2 [])] := ⟨_, Try.underlying24, rfl, fun k f hk => by match k, hk with | 0, hk => (obtain rfl := Option.some.inj hk; exact ⟨rfl, _, i_9, rfl⟩) | 1, hk => (obtain rfl := Option.some.inj hk; exact ⟨rfl, _, i_22, rfl⟩) | k + 2, hk => simp at hk⟩
theorem i_27 : Try.prog.info? 27 = some Try.t27 := by kernel_rfl
theorem ty_27 : TyIs Try.prog 27 false 1 := TyIs.mk' Try.underlying27 i_27 rfl rfl
theorem zc_27 : zcv Try.prog 8 27 = .pv (.lit .nilFunc) := by kernel_rfl
theorem z_27 : ZeroIs Try.prog 27 (.pv (.lit .nilFunc)) := ZeroIs.one i_27 rfl rfl rfl rfl rfl
theorem i_29 : Try.prog.info? 29 = some Try.t29 := by kernel_rfl
theorem ty_29 : TyIs Try.prog 29 false 1 := TyIs.mk' Try.underlying29 i_29 rfl rfl
theorem zc_29 : zcv Try.prog 8 29 = .pv (.lit .nilFunc) := by kernel_rfl
theorem z_29 : ZeroIs Try.prog 29 (.pv (.lit .nilFunc)) := ZeroIs.one i_29 rfl rfl rfl rfl rfl
theorem i_30 : Try.prog.info? 30 = some Try.t30 := by kernel_rfl
theorem ty_30 : TyIs Try.prog 30 false 1 := TyIs.mk' Try.underlying30 i_30 rfl rfl
theorem zc_30 : zcv Try.prog 8 30 = .pv (.sl true 2 []) := by kernel_rfl
theorem z_30 : ZeroIs Try.prog 30 (.pv (.sl true 2 [])) := ZeroIs.one i_30 rfl rfl rfl rfl rfl
theorem i_32 : Try.prog.info? 32 = some Try.t32 := by kernel_rfl
theorem es_30 : eSize Try.prog 30 = 2 := by kernel_rfl
theorem eb_30 : eBytes Try.prog 30 = 40 := by kernel_rfl
theorem sl_30 : SlIs Try.prog 30 2 40 := SlIs.mk' Try.underlying30 i_32 rfl rfl rfl rfl (by decide)
theorem is_30 : IsSl Try.prog 30 := ⟨_, Try.underlying30⟩
theorem el_30 : elemOfT Try.prog 30 = 32 := by kernel_rfl
theorem ze_30 : zel Try.prog 30 = .agg [(.lit (.string ⟨#[]⟩)), (.sl true 2 [])] := by kernel_rfl
theorem ez_30 : ElemZero Try.prog 30 (.agg [(.lit (.string ⟨#[]⟩)), (.sl true 2 [])]) := ElemZero.mk' Try.underlying30 (ZeroIs.agg i_32 rfl rfl rfl)
theorem ty_32 : TyIs Try.prog 32 true 2 := TyIs.mk' Try.underlying32 i_32 rfl rfl
theorem zc_32 : zcv Try.prog 8 32 = .node [.pv (.lit (.string ⟨#[]⟩)), .pv (.sl true 2 [])] := by kernel_rfl
theorem z_32 : ZeroIs Try.prog 32 (.node [.pv (.lit (.string ⟨#[]⟩)), .pv (.sl true 2 [])]) := ZeroIs.agg i_32 rfl rfl rfl
theorem fo_32_0 : fOff Try.prog 32 0 = 0 := by kernel_rfl
theorem fi_32_0 : FieldIs Try.prog 32 0 0 := FieldIs.mk' Try.underlying32 rfl rfl i_9 (by decide)
theorem ft_32_0 : fldT Try.prog 32 0 = 9 := by kernel_rfl
theorem fo_32_1 : fOff Try.prog 32 1 = 1 := by kernel_rfl
theorem fi_32_1 : FieldIs Try.prog 32 1 1 := FieldIs.mk' Try.underlying32 rfl rfl i_30 (by decide)
theorem ft_32_1 : fldT Try.prog 32 1 = 30 := by kernel_rfl
theorem lay_32 : LayoutOk Try.prog 32 [.pv (.lit (.string ⟨#[]⟩)), .pv (.sl true 2 [])] := ⟨_, Try.underlying32, rfl, fun k f hk => by match k, hk with | 0, hk => (obtain rfl := Option.some.inj hk; exact ⟨rfl, _, i_9, rfl⟩) | 1, hk => (obtain rfl := Option.some.inj hk; exact ⟨rfl, _, i_30, rfl⟩) | k + 2, hk => simp at hk⟩
theorem i_38 : Try.prog.info? 38 = some Try.t38 := by kernel_rfl
theorem ty_38 : TyIs Try.prog 38 false 1 := TyIs.mk' Try.underlying38 i_38 rfl rfl
theorem zc_38 : zcv Try.prog 8 38 = .pv (.sl true 3 []) := by kernel_rfl
theorem z_38 : ZeroIs Try.prog 38 (.pv (.sl true 3 [])) := ZeroIs.one i_38 rfl rfl rfl rfl rfl
theorem i_138 : Try.prog.info? 138 = some Try.t138 := by kernel_rfl
theorem es_38 : eSize Try.prog 38 = 3 := by kernel_rfl
theorem eb_38 : eBytes Try.prog 38 = 24 := by kernel_rfl
theorem sl_38 : SlIs Try.prog 38 3 24 := SlIs.mk' Try.underlying38 i_138 rfl rfl rfl rfl (by decide)
theorem is_38 : IsSl Try.prog 38 := ⟨_, Try.underlying38⟩
theorem el_38 : elemOfT Try.prog 38 = 138 := by kernel_rfl
theorem ze_38 : zel Try.prog 38 = .agg [(.lit (.int .i64 0)), (.lit (.int .i64 0)), (.lit (.bool false))] := by kernel_rfl
theorem ez_38 : ElemZero Try.prog 38 (.agg [(.lit (.int .i64 0)), (.lit (.int .i64 0)), (.lit (.bool false))]) := ElemZero.mk' Try.underlying38 (ZeroIs.agg i_138 rfl rfl rfl)
theorem i_40 : Try.prog.info? 40 = some Try.t40 := by kernel_rfl
theorem ty_40 : TyIs Try.prog 40 true 3 := TyIs.mk' Try.underlying40 i_40 rfl rfl
theorem zc_40 : zcv Try.prog 8 40 = .node [.pv (.lit (.int .i64 0)), .pv (.lit (.int .i64 0)), .pv (.sl true 3 [])] := by kernel_rfl
theorem z_40 : ZeroIs Try.prog 40 (.node [.pv (.lit (.int .i64 0)), .pv (.lit (.int .i64 0)), .pv (.sl true 3 [])]) := ZeroIs.agg i_40 rfl rfl rfl
theorem fo_40_0 : fOff Try.prog 40 0 = 0 := by kernel_rfl
theorem fi_40_0 : FieldIs Try.prog 40 0 0 := FieldIs.mk' Try.underlying40 rfl rfl i_3 (by decide)
theorem ft_40_0 : fldT Try.prog 40 0 = 3 := by kernel_rfl
theorem fo_40_1 : fOff Try.prog 40 1 = 1 := by kernel_rfl
theorem fi_40_1 : FieldIs Try.prog 40 1 1 := FieldIs.mk' Try.underlying40 rfl rfl i_3 (by decide)
theorem ft_40_1 : fldT Try.prog 40 1 = 3 := by kernel_rfl
theorem fo_40_2 : fOff Try.prog 40 2 = 2 := by kernel_rfl
theorem fi_40_2 : FieldIs Try.prog 40 2 2 := FieldIs.mk' Try.underlying40 rfl rfl i_38 (by decide)
theorem ft_40_2 : fldT Try.prog 40 2 = 38 := by kernel_rfl
theorem lay_40 : LayoutOk Try.prog 40 [.pv (.lit (.int .i64 0)), .pv (.lit (.int .i64 0)), .pv (.sl true 3 [])] := ⟨_, Try.underlying40, rfl, fun k f hk => by match k, hk with | 0, hk => (obtain rfl := Option.some.inj hk; exact ⟨rfl, _, i_3, rfl⟩) | 1, hk => (obtain rfl := Option.some.inj hk; exact ⟨rfl, _, i_3, rfl⟩) | 2, hk => (obtain rfl := Option.some.inj hk; exact ⟨rfl, _, i_38, rfl⟩) | k + 3, hk => simp at hk⟩
theorem i_42 : Try.prog.info? 42 = some Try.t42 := by kernel_rfl
theorem ty_42 : TyIs Try.prog 42 false 1 := TyIs.mk' Try.underlying42 i_42 rfl rfl
theorem zc_42 : zcv Try.prog 8 42 = .pv (.lit .nilFunc) := by kernel_rfl
theorem z_42 : ZeroIs Try.prog 42 (.pv (.lit .nilFunc)) := ZeroIs.one i_42 rfl rfl rfl rfl rfl
theorem i_43 : Try.prog.info? 43 = some Try.t43 := by kernel_rfl
theorem ty_43 : TyIs Try.prog 43 false 1 := TyIs.mk' Try.underlying43 i_43 rfl rfl
theorem zc_43 : zcv Try.prog 8 43 = .pv (.sl true 3 []) := by kernel_rfl
theorem z_43 : ZeroIs Try.prog 43 (.pv (.sl true 3 [])) := ZeroIs.one i_43 rfl rfl rfl rfl rfl
theorem i_103 : Try.prog.info? 103 = some Try.t103 := by kernel_rfl
theorem es_43 : eSize Try.prog 43 = 3 := by kernel_rfl
theorem eb_43 : eBytes Try.prog 43 = 24 := by kernel_rfl
theorem sl_43 : SlIs Try.prog 43 3 24 := SlIs.mk' Try.underlying43 i_103 rfl rfl rfl rfl (by decide)
theorem is_43 : IsSl Try.prog 43 := ⟨_, Try.underlying43⟩
theorem el_43 : elemOfT Try.prog 43 = 103 := by kernel_rfl
theorem ze_43 : zel Try.prog 43 = .agg [(.lit (.int .i64 0)), (.lit (.int .i64 0)), (.lit (.bool false))] := by kernel_rfl
theorem ez_43 : ElemZero Try.prog 43 (.agg [(.lit (.int .i64 0)), (.lit (.int .i64 0)), (.lit (.bool false))]) := ElemZero.mk' Try.underlying43 (ZeroIs.agg i_103 rfl rfl rfl)
theorem i_45 : Try.prog.info? 45 = some Try.t45 := by kernel_rfl
theorem ty_45 : TyIs Try.prog 45 true 3 := TyIs.mk' Try.underlying45 i_45 rfl rfl
theorem zc_45 : zcv Try.prog 8 45 = .node [.pv (.lit (.int .i64 0)), .pv (.lit (.int .i64 0)), .pv (.sl true 3 [])] := by kernel_rfl
theorem z_45 : ZeroIs Try.prog 45 (.node [.pv (.lit (.int .i64 0)), .pv (.lit (.int .i64 0)), .pv (.sl true 3 [])]) := ZeroIs.agg i_45 rfl rfl rfl
theorem fo_45_0 : fOff Try.prog 45 0 = 0 := by kernel_rfl
theorem fi_45_0 : FieldIs Try.prog 45 0 0 := FieldIs.mk' Try.underlying45 rfl rfl i_3 (by decide)
theorem ft_45_0 : fldT Try.prog 45 0 = 3 := by kernel_rfl
theorem fo_45_1 : fOff Try.prog 45 1 = 1 := by kernel_rfl
theorem fi_45_1 : FieldIs Try.prog 45 1 1 := FieldIs.mk' Try.underlying45 rfl rfl i_3 (by decide)
theorem ft_45_1 : fldT Try.prog 45 1 = 3 := by kernel_rfl
theorem fo_45_2 : fOff Try.prog 45 2 = 2 := by kernel_rfl
theorem fi_45_2 : FieldIs Try.prog 45 2 2 := FieldIs.mk' Try.underlying45 rfl rfl i_43 (by decide)
theorem ft_45_2 : fldT Try.prog 45 2 = 43 := by kernel_rfl
theorem lay_45 : LayoutOk Try.prog 45 [.pv (.lit (.int .i64 0)), .pv (.lit (.int .i64 0)), .pv (.sl true 3 [])] := ⟨_, Try.underlying45, rfl, fun k f hk => by match k, hk with | 0, hk => (obtain rfl := Option.some.inj hk; exact ⟨rfl, _, i_3, rfl⟩) | 1, hk => (obtain rfl := Option.some.inj hk; exact ⟨rfl, _, i_3, rfl⟩) | 2, hk => (obtain rfl := Option.some.inj hk; exact ⟨rfl, _, i_43, rfl⟩) | k + 3, hk => simp at hk⟩
theorem i_49 : Try.prog.info? 49 = some Try.t49 := by kernel_rfl
theorem ty_49 : TyIs Try.prog 49 false 1 := TyIs.mk' Try.underlying49 i_49 rfl rfl
theorem zc_49 : zcv Try.prog 8 49 = .pv (.sl true 1 []) := by kernel_rfl
theorem z_49 : ZeroIs Try.prog 49 (.pv (.sl true 1 [])) := ZeroIs.one i_49 rfl rfl rfl rfl rfl
theorem es_49 : eSize Try.prog 49 = 1 := by kernel_rfl
theorem eb_49 : eBytes Try.prog 49 = 16 := by kernel_rfl
theorem sl_49 : SlIs Try.prog 49 1 16 := SlIs.mk' Try.underlying49 i_9 rfl rfl rfl rfl (by decide)
theorem is_49 : IsSl Try.prog 49 := ⟨_, Try.underlying49⟩
theorem el_49 : elemOfT Try.prog 49 = 9 := by kernel_rfl
theorem ze_49 : zel Try.prog 49 = (.lit (.string ⟨#[]⟩)) := by kernel_rfl
theorem ez_49 : ElemZero Try.prog 49 ((.lit (.string ⟨#[]⟩))) := ElemZero.mk' Try.underlying49 (ZeroIs.one i_9 rfl rfl rfl rfl rfl)
theorem i_50 : Try.prog.info? 50 = some Try.t50 := by kernel_rfl
theorem ty_50 : TyIs Try.prog 50 false 1 := TyIs.mk' Try.underlying50 i_50 rfl rfl
theorem zc_50 : zcv Try.prog 8 50 = .pv (.sl true 1 []) := by kernel_rfl
theorem z_50 : ZeroIs Try.prog 50 (.pv (.sl true 1 [])) := ZeroIs.one i_50 rfl rfl rfl rfl rfl
theorem es_50 : eSize Try.prog 50 = 1 := by kernel_rfl
theorem eb_50 : eBytes Try.prog 50 = 8 := by kernel_rfl
theorem sl_50 : SlIs Try.prog 50 1 8 := SlIs.mk' Try.underlying50 i_3 rfl rfl rfl rfl (by decide)
theorem is_50 : IsSl Try.prog 50 := ⟨_, Try.underlying50⟩
theorem el_50 : elemOfT Try.prog 50 = 3 := by kernel_rfl
theorem ze_50 : zel Try.prog 50 = (.lit (.int .i64 0)) := by kernel_rfl
theorem ez_50 : ElemZero Try.prog 50 ((.lit (.int .i64 0))) := ElemZero.mk' Try.underlying50 (ZeroIs.one i_3 rfl rfl rfl rfl rfl)
theorem i_52 : Try.prog.info? 52 = some Try.t52 := by kernel_rfl
theorem ty_52 : TyIs Try.prog 52 true 3 := TyIs.mk' Try.underlying52 i_52 rfl rfl
theorem zc_52 : zcv Try.prog 8 52 = .node [.pv (.sl true 1 []), .pv (.sl true 1 []), .pv (.lit (.int .i64 0))] := by kernel_rfl
theorem z_52 : ZeroIs Try.prog 52 (.node [.pv (.sl true 1 []), .pv (.sl true 1 []), .pv (.lit (.int .i64 0))]) := ZeroIs.agg i_52 rfl rfl rfl
theorem fo_52_0 : fOff Try.prog 52 0 = 0 := by kernel_rfl
theorem fi_52_0 : FieldIs Try.prog 52 0 0 := FieldIs.mk' Try.underlying52 rfl rfl i_49 (by decide)
theorem ft_52_0 : fldT Try.prog 52 0 = 49 := by kernel_rfl
theorem fo_52_1 : fOff Try.prog 52 1 = 1 := by kernel_rfl
theorem fi_52_1 : FieldIs Try.prog 52 1 1 := FieldIs.mk' Try.underlying52 rfl rfl i_50 (by decide)
theorem ft_52_1 : fldT Try.prog 52 1 = 50 := by kernel_rfl
theorem fo_52_2 : fOff Try.prog 52 2 = 2 := by kernel_rfl
theorem fi_52_2 : FieldIs Try.prog 52 2 2 := FieldIs.mk' Try.underlying52 rfl rfl i_3 (by decide)
theorem ft_52_2 : fldT Try.prog 52 2 = 3 := by kernel_rfl
theorem lay_52 : LayoutOk Try.prog 52 [.pv (.sl true 1 []), .pv (.sl true 1 []), .pv (.lit (.int .i64 0))] := ⟨_, Try.underlying52, rfl, fun k f hk => by match k, hk with | 0, hk => (obtain rfl := Option.some.inj hk; exact ⟨rfl, _, i_49, rfl⟩) | 1, hk => (obtain rfl := Option.some.inj hk; exact ⟨rfl, _, i_50, rfl⟩) | 2, hk => (obtain rfl := Option.some.inj hk; exact ⟨rfl, _, i_3, rfl⟩) | k + 3, hk => simp at hk⟩
theorem i_55 : Try.prog.info? 55 = some Try.t55 := by kernel_rfl
theorem ty_55 : TyIs Try.prog 55 true 3 := TyIs.mk' Try.underlying55 i_55 rfl rfl
theorem zc_55 : zcv Try.prog 8 55 = .node [.pv (.sl true 1 []), .pv (.sl true 1 []), .pv (.lit (.int .i64 0))] := by kernel_rfl
theorem z_55 : ZeroIs Try.prog 55 (.node [.pv (.sl true 1 []), .pv (.sl true 1 []), .pv (.lit (.int .i64 0))]) := ZeroIs.agg i_55 rfl rfl rfl
theorem fo_55_0 : fOff Try.prog 55 0 = 0 := by kernel_rfl
theorem fi_55_0 : FieldIs Try.prog 55 0 0 := FieldIs.mk' Try.underlying55 rfl rfl i_49 (by decide)
theorem ft_55_0 : fldT Try.prog 55 0 = 49 := by kernel_rfl
theorem fo_55_1 : fOff Try.prog 55 1 = 1 := by kernel_rfl
theorem fi_55_1 : FieldIs Try.prog 55 1 1 := FieldIs.mk' Try.underlying55 rfl rfl i_50 (by decide)
theorem ft_55_1 : fldT Try.prog 55 1 = 50 := by kernel_rfl
theorem fo_55_2 : fOff Try.prog 55 2 = 2 := by kernel_rfl
theorem fi_55_2 : FieldIs Try.prog 55 2 2 := FieldIs.mk' Try.underlying55 rfl rfl i_3 (by decide)
theorem ft_55_2 : fldT Try.prog 55 2 = 3 := by kernel_rfl
theorem lay_55 : LayoutOk Try.prog 55 [.pv (.sl true 1 []), .pv (.sl true 1 []), .pv (.lit (.int .i64 0))] := ⟨_, Try.underlying55, rfl, fun k f hk => by match k, hk with | 0, hk => (obtain rfl := Option.some.inj hk; exact ⟨rfl, _, i_49, rfl⟩) | 1, hk => (obtain rfl := Option.some.inj hk; exact ⟨rfl, _, i_50, rfl⟩) | 2, hk => (obtain rfl := Option.some.inj hk; exact ⟨rfl, _, i_3, rfl⟩) | k + 3, hk => simp at hk⟩
theorem i_63 : Try.prog.info? 63 = some Try.t63 := by kernel_rfl
theorem ty_63 : TyIs Try.prog 63 false 1 := TyIs.mk' Try.underlying63 i_63 rfl rfl
theorem zc_63 : zcv Try.prog 8 63 = .pv (.sl true 3 []) := by kernel_rfl
theorem z_63 : ZeroIs Try.prog 63 (.pv (.sl true 3 [])) := ZeroIs.one i_63 rfl rfl rfl rfl rfl
theorem i_113 : Try.prog.info? 113 = some Try.t113 := by kernel_rfl
theorem es_63 : eSize Try.prog 63 = 3 := by kernel_rfl
theorem eb_63 : eBytes Try.prog 63 = 48 := by kernel_rfl
theorem sl_63 : SlIs Try.prog 63 3 48 := SlIs.mk' Try.underlying63 i_113 rfl rfl rfl rfl (by decide)
theorem is_63 : IsSl Try.prog 63 := ⟨_, Try.underlying63⟩
theorem el_63 : elemOfT Try.prog 63 = 113 := by kernel_rfl
theorem ze_63 : zel Try.prog 63 = .agg [(.lit (.string ⟨#[]⟩)), (.sl true 1 []), (.lit (.int .i64 0))] := by kernel_rfl
theorem ez_63 : ElemZero Try.prog 63 (.agg [(.lit (.string ⟨#[]⟩)), (.sl true 1 []), (.lit (.int .i64 0))]) := ElemZero.mk' Try.underlying63 (ZeroIs.agg i_113 rfl rfl rfl)
theorem i_66 : Try.prog.info? 66 = some Try.t66 := by kernel_rfl
theorem ty_66 : TyIs Try.prog 66 false 1 := TyIs.mk' Try.underlying66 i_66 rfl rfl
theorem zc_66 : zcv Try.prog 8 66 = .pv (.sl true 3 []) := by kernel_rfl
theorem z_66 : ZeroIs Try.prog 66 (.pv (.sl true 3 [])) := ZeroIs.one i_66 rfl rfl rfl rfl rfl
theorem i_114 : Try.prog.info? 114 = some Try.t114 := by kernel_rfl
theorem es_66 : eSize Try.prog 66 = 3 := by kernel_rfl
theorem eb_66 : eBytes Try.prog 66 = 48 := by kernel_rfl
theorem sl_66 : SlIs Try.prog 66 3 48 := SlIs.mk' Try.underlying66 i_114 rfl rfl rfl rfl (by decide)
theorem is_66 : IsSl Try.prog 66 := ⟨_, Try.underlying66⟩
theorem el_66 : elemOfT Try.prog 66 = 114 := by kernel_rfl
theorem ze_66 : zel Try.prog 66 = .agg [(.lit (.string ⟨#[]⟩)), (.sl true 1 []), (.lit (.int .i64 0))] := by kernel_rfl
theorem ez_66 : ElemZero Try.prog 66 (.agg [(.lit (.string ⟨#[]⟩)), (.sl true 1 []), (.lit (.int .i64 0))]) := ElemZero.mk' Try.underlying66 (ZeroIs.agg i_114 rfl rfl rfl)
theorem i_70 : Try.prog.info? 70 = some Try.t70 := by kernel_rfl
theorem ty_70 : TyIs Try.prog 70 false 1 := TyIs.mk' Try.underlying70 i_70 rfl rfl
theorem zc_70 : zcv Try.prog 8 70 = .pv (.sl true 3 []) := by kernel_rfl
theorem z_70 : ZeroIs Try.prog 70 (.pv (.sl true 3 [])) := ZeroIs.one i_70 rfl rfl rfl rfl rfl
theorem es_70 : eSize Try.prog 70 = 3 := by kernel_rfl
theorem eb_70 : eBytes Try.prog 70 = 40 := by kernel_rfl
theorem sl_70 : SlIs Try.prog 70 3 40 := SlIs.mk' Try.underlying70 i_40 rfl rfl rfl rfl (by decide)
theorem is_70 : IsSl Try.prog 70 := ⟨_, Try.underlying70⟩
theorem el_70 : elemOfT Try.prog 70 = 40 := by kernel_rfl
theorem ze_70 : zel Try.prog 70 = .agg [(.lit (.int .i64 0)), (.lit (.int .i64 0)), (.sl true 3 [])] := by kernel_rfl
theorem ez_70 : ElemZero Try.prog 70 (.agg [(.lit (.int .i64 0)), (.lit (.int .i64 0)), (.sl true 3 [])]) := ElemZero.mk' Try.underlying70 (ZeroIs.agg i_40 rfl rfl rfl)
theorem i_72 : Try.prog.info? 72 = some Try.t72 := by kernel_rfl
theorem ty_72 : TyIs Try.prog 72 true 2 := TyIs.mk' Try.underlying72 i_72 rfl rfl
theorem zc_72 : zcv Try.prog 8 72 = .node [.pv (.sl true 1 []), .pv (.sl true 3 [])] := by kernel_rfl
theorem z_72 : ZeroIs Try.prog 72 (.node [.pv (.sl true 1 []), .pv (.sl true 3 [])]) := ZeroIs.agg i_72 rfl rfl rfl
theorem fo_72_0 : fOff Try.prog 72 0 = 0 := by kernel_rfl
theorem fi_72_0 : FieldIs Try.prog 72 0 0 := FieldIs.mk' Try.underlying72 rfl rfl i_50 (by decide)
theorem ft_72_0 : fldT Try.prog 72 0 = 50 := by kernel_rfl
theorem fo_72_1 : fOff Try.prog 72 1 = 1 := by kernel_rfl
theorem fi_72_1 : FieldIs Try.prog 72 1 1 := FieldIs.mk' Try.underlying72 rfl rfl i_70 (by decide)
theorem ft_72_1 : fldT Try.prog 72 1 = 70 := by kernel_rfl
theorem lay_72 : LayoutOk Try.prog 72 [.pv (.sl true 1 []), .pv (.sl true 3 [])] := ⟨_, Try.underlying72, rfl, fun k f hk => by match k, hk with | 0, hk => (obtain rfl := Option.some.inj hk; exact ⟨rfl, _, i_50, rfl⟩) | 1, hk => (obtain rfl := Option.some.inj hk; exact ⟨rfl, _, i_70, rfl⟩) | k + 2, hk => simp at hk⟩
theorem i_75 : Try.prog.info? 75 = some Try.t75 := by kernel_rfl
theorem ty_75 : TyIs Try.prog 75 false 1 := TyIs.mk' Try.underlying75 i_75 rfl rfl
theorem zc_75 : zcv Try.prog 8 75 = .pv (.sl true 3 []) := by kernel_rfl
theorem z_75 : ZeroIs Try.prog 75 (.pv (.sl true 3 [])) := ZeroIs.one i_75 rfl rfl rfl rfl rfl
theorem es_75 : eSize Try.prog 75 = 3 := by kernel_rfl
theorem eb_75 : eBytes Try.prog 75 = 40 := by kernel_rfl
theorem sl_75 : SlIs Try.prog 75 3 40 := SlIs.mk' Try.underlying75 i_45 rfl rfl rfl rfl (by decide)
theorem is_75 : IsSl Try.prog 75 := ⟨_, Try.underlying75⟩
theorem el_75 : elemOfT Try.prog 75 = 45 := by kernel_rfl
theorem ze_75 : zel Try.prog 75 = .agg [(.lit (.int .i64 0)), (.lit (.int .i64 0)), (.sl true 3 [])] := by kernel_rfl
theorem ez_75 : ElemZero Try.prog 75 (.agg [(.lit (.int .i64 0)), (.lit (.int .i64 0)), (.sl true 3 [])]) := ElemZero.mk' Try.underlying75 (ZeroIs.agg i_45 rfl rfl rfl)
theorem i_77 : Try.prog.info? 77 = some Try.t77 := by kernel_rfl
theorem ty_77 : TyIs Try.prog 77 true 2 := TyIs.mk' Try.underlying77 i_77 rfl rfl
theorem zc_77 : zcv Try.prog 8 77 = .node [.pv (.sl true 1 []), .pv (.sl true 3 [])] := by kernel_rfl
theorem z_77 : ZeroIs Try.prog 77 (.node [.pv (.sl true 1 []), .pv (.sl true 3 [])]) := ZeroIs.agg i_77 rfl rfl rfl
theorem fo_77_0 : fOff Try.prog 77 0 = 0 := by kernel_rfl
theorem fi_77_0 : FieldIs Try.prog 77 0 0 := FieldIs.mk' Try.underlying77 rfl rfl i_50 (by decide)
theorem ft_77_0 : fldT Try.prog 77 0 = 50 := by kernel_rfl
theorem fo_77_1 : fOff Try.prog 77 1 = 1 := by kernel_rfl
theorem fi_77_1 : FieldIs Try.prog 77 1 1 := FieldIs.mk' Try.underlying77 rfl rfl i_75 (by decide)
theorem ft_77_1 : fldT Try.prog 77 1 = 75 := by kernel_rfl
theorem lay_77 : LayoutOk Try.prog 77 [.pv (.sl true 1 []), .pv (.sl true 3 [])] := ⟨_, Try.underlying77, rfl, fun k f hk => by match k, hk with | 0, hk => (obtain rfl := Option.some.inj hk; exact ⟨rfl, _, i_50, rfl⟩) | 1, hk => (obtain rfl := Option.some.inj hk; exact ⟨rfl, _, i_75, rfl⟩) | k + 2, hk => simp at hk⟩
theorem ty_103 : TyIs Try.prog 103 true 3 := TyIs.mk' Try.underlying103 i_103 rfl rfl
theorem zc_103 : zcv Try.prog 8 103 = .node [.pv (.lit (.int .i64 0)), .pv (.lit (.int .i64 0)), .pv (.lit (.bool false))] := by kernel_rfl
theorem z_103 : ZeroIs Try.prog 103 (.node [.pv (.lit (.int .i64 0)), .pv (.lit (.int .i64 0)), .pv (.lit (.bool false))]) := ZeroIs.agg i_103 rfl rfl rfl
theorem fo_103_0 : fOff Try.prog 103 0 = 0 := by kernel_rfl
theorem fi_103_0 : FieldIs Try.prog 103 0 0 := FieldIs.mk' Try.underlying103 rfl rfl i_3 (by decide)
theorem ft_103_0 : fldT Try.prog 103 0 = 3 := by kernel_rfl
theorem fo_103_1 : fOff Try.prog 103 1 = 1 := by kernel_rfl
theorem fi_103_1 : FieldIs Try.prog 103 1 1 := FieldIs.mk' Try.underlying103 rfl rfl i_3 (by decide)
theorem ft_103_1 : fldT Try.prog 103 1 = 3 := by kernel_rfl
theorem fo_103_2 : fOff Try.prog 103 2 = 2 := by kernel_rfl
theorem fi_103_2 : FieldIs Try.prog 103 2 2 := FieldIs.mk' Try.underlying103 rfl rfl i_4 (by decide)
theorem ft_103_2 : fldT Try.prog 103 2 = 4 := by kernel_rfl
theorem lay_103 : LayoutOk Try.prog 103 [.pv (.lit (.int .i64 0)), .pv (.lit (.int .i64 0)), .pv (.lit (.bool false))] := ⟨_, Try.underlying103, rfl, fun k f hk => by match k, hk with | 0, hk => (obtain rfl := Option.some.inj hk; exact ⟨rfl, _, i_3, rfl⟩) | 1, hk => (obtain rfl := Option.some.inj hk; exact ⟨rfl, _, i_3, rfl⟩) | 2, hk => (obtain rfl := Option.some.inj hk; exact ⟨rfl, _, i_4, rfl⟩) | k + 3, hk => simp at hk⟩
theorem ty_113 : TyIs Try.prog 113 true 3 := TyIs.mk' Try.underlying113 i_113 rfl rfl
theorem zc_113 : zcv Try.prog 8 113 = .node [.pv (.lit (.string ⟨#[]⟩)), .pv (.sl true 1 []), .pv (.lit (.int .i64 0))] := by kernel_rfl
theorem z_113 : ZeroIs Try.prog 113 (.node [.pv (.lit (.string ⟨#[]⟩)), .pv (.sl true 1 []), .pv (.lit (.int .i64 0))]) := ZeroIs.agg i_113 rfl rfl rfl
theorem fo_113_0 : fOff Try.prog 113 0 = 0 := by kernel_rfl
theorem fi_113_0 : FieldIs Try.prog 113 0 0 := FieldIs.mk' Try.underlying113 rfl rfl i_9 (by decide)
theorem ft_113_0 : fldT Try.prog 113 0 = 9 := by kernel_rfl
theorem fo_113_1 : fOff Try.prog 113 1 = 1 := by kernel_rfl
theorem fi_113_1 : FieldIs Try.prog 113 1 1 := FieldIs.mk' Try.underlying113 rfl rfl i_50 (by decide)
theorem ft_113_1 : fldT Try.prog 113 1 = 50 := by kernel_rfl
theorem fo_113_2 : fOff Try.prog 113 2 = 2 := by kernel_rfl
theorem fi_113_2 : FieldIs Try.prog 113 2 2 := FieldIs.mk' Try.underlying113 rfl rfl i_3 (by decide)
theorem ft_113_2 : fldT Try.prog 113 2 = 3 := by kernel_rfl
theorem lay_113 : LayoutOk Try.prog 113 [.pv (.lit (.string ⟨#[]⟩)), .pv (.sl true 1 []), .pv (.lit (.int .i64 0))] := ⟨_, Try.underlying113, rfl, fun k f hk => by match k, hk with | 0, hk => (obtain rfl := Option.some.inj hk; exact ⟨rfl, _, i_9, rfl⟩) | 1, hk => (obtain rfl := Option.some.inj hk; exact ⟨rfl, _, i_50, rfl⟩) | 2, hk => (obtain rfl := Option.some.inj hk; exact ⟨rfl, _, i_3, rfl⟩) | k + 3, hk => simp at hk⟩
theorem ty_114 : TyIs Try.prog 114 true 3 := TyIs.mk' Try.underlying114 i_114 rfl rfl
theorem zc_114 : zcv Try.prog 8 114 = .node [.pv (.lit (.string ⟨#[]⟩)), .pv (.sl true 1 []), .pv (.lit (.int .i64 0))] := by kernel_rfl
theorem z_114 : ZeroIs Try.prog 114 (.node [.pv (.lit (.string ⟨#[]⟩)), .pv (.sl true 1 []), .pv (.lit (.int .i64 0))]) := ZeroIs.agg i_114 rfl rfl rfl
theorem fo_114_0 : fOff Try.prog 114 0 = 0 := by kernel_rfl
theorem fi_114_0 : FieldIs Try.prog 114 0 0 := FieldIs.mk' Try.underlying114 rfl rfl i_9 (by decide)
theorem ft_114_0 : fldT Try.prog 114 0 = 9 := by kernel_rfl
theorem fo_114_1 : fOff Try.prog 114 1 = 1 := by kernel_rfl
theorem fi_114_1 : FieldIs Try.prog 114 1 1 := FieldIs.mk' Try.underlying114 rfl rfl i_50 (by decide)
theorem ft_114_1 : fldT Try.prog 114 1 = 50 := by kernel_rfl
theorem fo_114_2 : fOff Try.prog 114 2 = 2 := by kernel_rfl
theorem fi_114_2 : FieldIs Try.prog 114 2 2 := FieldIs.mk' Try.underlying114 rfl rfl i_3 (by decide)
theorem ft_114_2 : fldT Try.prog 114 2 = 3 := by kernel_rfl
theorem lay_114 : LayoutOk Try.prog 114 [.pv (.lit (.string ⟨#[]⟩)), .pv (.sl true 1 []), .pv (.lit (.int .i64 0))] := ⟨_, Try.underlying114, rfl, fun k f hk => by match k, hk with | 0, hk => (obtain rfl := Option.some.inj hk; exact ⟨rfl, _, i_9, rfl⟩) | 1, hk => (obtain rfl := Option.some.inj hk; exact ⟨rfl, _, i_50, rfl⟩) | 2, hk => (obtain rfl := Option.some.inj hk; exact ⟨rfl, _, i_3, rfl⟩) | k + 3, hk => simp at hk⟩
theorem i_122 : Try.prog.info? 122 = some Try.t122 := by kernel_rfl
theorem ty_122 : TyIs Try.prog 122 false 1 := TyIs.mk' Try.underlying122 i_122 rfl rfl
theorem zc_122 : zcv Try.prog 8 122 = .pv (.lit .nilFunc) := by kernel_rfl
theorem z_122 : ZeroIs Try.prog 122 (.pv (.lit .nilFunc)) := ZeroIs.one i_122 rfl rfl rfl rfl rfl
theorem ty_138 : TyIs Try.prog 138 true 3 := TyIs.mk' Try.underlying138 i_138 rfl rfl
theorem zc_138 : zcv Try.prog 8 138 = .node [.pv (.lit (.int .i64 0)), .pv (.lit (.int .i64 0)), .pv (.lit (.bool false))] := by kernel_rfl
theorem z_138 : ZeroIs Try.prog 138 (.node [.pv (.lit (.int .i64 0)), .pv (.lit (.int .i64 0)), .pv (.lit (.bool false))]) := ZeroIs.agg i_138 rfl rfl rfl
theorem fo_138_0 : fOff Try.prog 138 0 = 0 := by kernel_rfl
theorem fi_138_0 : FieldIs Try.prog 138 0 0 := FieldIs.mk' Try.underlying138 rfl rfl i_3 (by decide)
theorem ft_138_0 : fldT Try.prog 138 0 = 3 := by kernel_rfl
theorem fo_138_1 : fOff Try.prog 138 1 = 1 := by kernel_rfl
theorem fi_138_1 : FieldIs Try.prog 138 1 1 := FieldIs.mk' Try.underlying138 rfl rfl i_3 (by decide)
theorem ft_138_1 : fldT Try.prog 138 1 = 3 := by kernel_rfl
theorem fo_138_2 : fOff Try.prog 138 2 = 2 := by kernel_rfl
theorem fi_138_2 : FieldIs Try.prog 138 2 2 := FieldIs.mk' Try.underlying138 rfl rfl i_4 (by decide)
theorem ft_138_2 : fldT Try.prog 138 2 = 4 := by kernel_rfl
theorem lay_138 : LayoutOk Try.prog 138 [.pv (.lit (.int .i64 0)), .pv (.lit (.int .i64 0)), .pv (.lit (.bool false))] := ⟨_, Try.underlying138, rfl, fun k f hk => by match k, hk with | 0, hk => (obtain rfl := Option.some.inj hk; exact ⟨rfl, _, i_3, rfl⟩) | 1, hk => (obtain rfl := Option.some.inj hk; exact ⟨rfl, _, i_3, rfl⟩) | 2, hk => (obtain rfl := Option.some.inj hk; exact ⟨rfl, _, i_4, rfl⟩) | k + 3, hk => simp at hk⟩
end Go.Proofs.Ytfggcaohidajkaa
