/- A part of the proof: lemmas only; nothing is claimed here beyond what each lemma says. -/
import Derived.Test.YtgbddapcjhgllaaGreatAvF3
import Derived.Test.YtgbddapcjhgllaaGreatChecked
import Derived.KernelRfl
set_option linter.unusedSimpArgs false
set_option linter.unusedVariables false
set_option linter.defProp false
set_option maxRecDepth 4000
namespace Go.Proofs.YtgbddapcjhgllaaGreat
open Go.Av
theorem mixed : Tryz.prog.follows .mixedOrders = true := by kernel_rfl
theorem mixedT : (Tryz.prog.follows .mixedOrders = true) = True := eq_true mixed
theorem i_3 : Tryz.prog.info? 3 = some Tryz.t3 := by kernel_rfl
theorem ty_3 : TyIs Tryz.prog 3 false 1 := TyIs.mk' Tryz.underlying3 i_3 rfl rfl
theorem zc_3 : zcv Tryz.prog 8 3 = .pv (.lit (.int .i64 0)) := by kernel_rfl
theorem z_3 : ZeroIs Tryz.prog 3 (.pv (.lit (.int .i64 0))) := ZeroIs.one i_3 rfl rfl rfl rfl rfl
theorem i_4 : Tryz.prog.info? 4 = some Tryz.t4 := by kernel_rfl
theorem ty_4 : TyIs Tryz.prog 4 false 1 := TyIs.mk' Tryz.underlying4 i_4 rfl rfl
theorem zc_4 : zcv Tryz.prog 8 4 = .pv (.lit (.bool false)) := by kernel_rfl
theorem z_4 : ZeroIs Tryz.prog 4 (.pv (.lit (.bool false))) := ZeroIs.one i_4 rfl rfl rfl rfl rfl
theorem u_4 : (Tryz.prog.underlying 4 = some .bool) = True := eq_true Tryz.underlying4
theorem i_5 : Tryz.prog.info? 5 = some Tryz.t5 := by kernel_rfl
theorem ty_5 : TyIs Tryz.prog 5 false 1 := TyIs.mk' Tryz.underlying5 i_5 rfl rfl
theorem zc_5 : zcv Tryz.prog 8 5 = .pv (.lit (.int .u8 0)) := by kernel_rfl
theorem z_5 : ZeroIs Tryz.prog 5 (.pv (.lit (.int .u8 0))) := ZeroIs.one i_5 rfl rfl rfl rfl rfl
theorem i_9 : Tryz.prog.info? 9 = some Tryz.t9 := by kernel_rfl
theorem ty_9 : TyIs Tryz.prog 9 false 1 := TyIs.mk' Tryz.underlying9 i_9 rfl rfl
theorem zc_9 : zcv Tryz.prog 8 9 = .pv (.lit (.string ⟨#[]⟩)) := by kernel_rfl
theorem z_9 : ZeroIs Tryz.prog 9 (.pv (.lit (.string ⟨#[]⟩))) := ZeroIs.one i_9 rfl rfl rfl rfl rfl
theorem u_9 : (Tryz.prog.underlying 9 = some .string) = True := eq_true Tryz.underlying9
theorem i_22 : Tryz.prog.info? 22 = some Tryz.t22 := by kernel_rfl
theorem ty_22 : TyIs Tryz.prog 22 false 1 := TyIs.mk' Tryz.underlying22 i_22 rfl rfl
theorem zc_22 : zcv Tryz.prog 8 22 = .pv (.sl true 3 []) := by kernel_rfl
theorem z_22 : ZeroIs Tryz.prog 22 (.pv (.sl true 3 [])) := ZeroIs.one i_22 rfl rfl rfl rfl rfl
theorem i_55 : Tryz.prog.info? 55 = some Tryz.t55 := by kernel_rfl
theorem es_22 : eSize Tryz.prog 22 = 3 := by kernel_rfl
theorem eb_22 : eBytes Tryz.prog 22 = 48 := by kernel_rfl
theorem sl_22 : SlIs Tryz.prog 22 3 48 := SlIs.mk' Tryz.underlying22 i_55 rfl rfl rfl rfl (by decide)
theorem is_22 : IsSl Tryz.prog 22 := ⟨_, Tryz.underlying22⟩
theorem el_22 : elemOfT Tryz.prog 22 = 55 := by kernel_rfl
theorem ze_22 : zel Tryz.prog 22 = .agg [(.lit (.string ⟨#[]⟩)), (.sl true 1 []), (.lit (.int .i64 0))] := by kernel_rfl
theorem ez_22 : ElemZero Tryz.prog 22 (.agg [(.lit (.string ⟨#[]⟩)), (.sl true 1 []), (.lit (.int .i64 0))]) := ElemZero.mk' Tryz.underlying22 (ZeroIs.agg i_55 rfl rfl rfl)
theorem i_23 : Tryz.prog.info? 23 = some Tryz.t23 := by kernel_rfl
theorem ty_23 : TyIs Tryz.prog 23 false 1 := TyIs.mk' Tryz.underlying23 i_23 rfl rfl
theorem zc_23 : zcv Tryz.prog 8 23 = .pv (.sl true 2 []) := by kernel_rfl
theorem z_23 : ZeroIs Tryz.prog 23 (.pv (.sl true 2 [])) := ZeroIs.one i_23 rfl rfl rfl rfl rfl
theorem i_25 : Tryz.prog.info? 25 = some Tryz.t25 := by kernel_rfl
theorem es_23 : eSize Tryz.prog 23 = 2 := by kernel_rfl
theorem eb_23 : eBytes Tryz.prog 23 = 40 := by kernel_rfl
theorem sl_23 : SlIs Tryz.prog 23 2 40 := SlIs.mk' Tryz.underlying23 i_25 rfl rfl rfl rfl (by decide)
theorem is_23 : IsSl Tryz.prog 23 := ⟨_, Tryz.underlying23⟩
theorem el_23 : elemOfT Tryz.prog 23 = 25 := by kernel_rfl
theorem ze_23 : zel Tryz.prog 23 = .agg [(.lit (.string ⟨#[]⟩)), (.sl true 2 [])] := by kernel_rfl
theorem ez_23 : ElemZero Tryz.prog 23 (.agg [(.lit (.string ⟨#[]⟩)), (.sl true 2 [])]) := ElemZero.mk' Tryz.underlying23 (ZeroIs.agg i_25 rfl rfl rfl)
theorem ty_25 : TyIs Tryz.prog 25 true 2 := TyIs.mk' Tryz.underlying25 i_25 rfl rfl
theorem zc_25 : zcv Tryz.prog 8 25 = .node [.pv (.lit (.string ⟨#[]⟩)), .pv (.sl true 2 [])] := by kernel_rfl
theorem z_25 : ZeroIs Tryz.prog 25 (.node [.pv (.lit (.string ⟨#[]⟩)), .pv (.sl true 2 [])]) := ZeroIs.agg i_25 rfl rfl rfl
theorem fo_25_0 : fOff Tryz.prog 25 0 = 0 := by kernel_rfl
theorem fi_25_0 : FieldIs Tryz.prog 25 0 0 := FieldIs.mk' Tryz.underlying25 rfl rfl i_9 (by decide)
theorem ft_25_0 : fldT Tryz.prog 25 0 = 9 := by kernel_rfl
theorem fo_25_1 : fOff Tryz.prog 25 1 = 1 := by kernel_rfl
theorem fi_25_1 : FieldIs Tryz.prog 25 1 1 := FieldIs.mk' Tryz.underlying25 rfl rfl i_23 (by decide)
theorem ft_25_1 : fldT Tryz.prog 25 1 = 23 := by kernel_rfl
theorem lay_25 : LayoutOk Tryz.prog 25 [.pv (.lit (.string ⟨#[]⟩)), .pv (.sl true 2 [])] := .inr ⟨_, Tryz.underlying25, rfl, fun k f hk => by match k, hk with | 0, hk => (obtain rfl := Option.some.inj hk; exact ⟨rfl, _, i_9, rfl⟩) | 1, hk => (obtain rfl := Option.some.inj hk; exact ⟨rfl, _, i_23, rfl⟩) | k + 2, hk => simp at hk⟩
theorem i_28 : Tryz.prog.info? 28 = some Tryz.t28 := by kernel_rfl
theorem ty_28 : TyIs Tryz.prog 28 false 1 := TyIs.mk' Tryz.underlying28 i_28 rfl rfl
theorem zc_28 : zcv Tryz.prog 8 28 = .pv (.sl true 1 []) := by kernel_rfl
theorem z_28 : ZeroIs Tryz.prog 28 (.pv (.sl true 1 [])) := ZeroIs.one i_28 rfl rfl rfl rfl rfl
theorem es_28 : eSize Tryz.prog 28 = 1 := by kernel_rfl
theorem eb_28 : eBytes Tryz.prog 28 = 16 := by kernel_rfl
theorem sl_28 : SlIs Tryz.prog 28 1 16 := SlIs.mk' Tryz.underlying28 i_9 rfl rfl rfl rfl (by decide)
theorem is_28 : IsSl Tryz.prog 28 := ⟨_, Tryz.underlying28⟩
theorem el_28 : elemOfT Tryz.prog 28 = 9 := by kernel_rfl
theorem ze_28 : zel Tryz.prog 28 = (.lit (.string ⟨#[]⟩)) := by kernel_rfl
theorem ez_28 : ElemZero Tryz.prog 28 ((.lit (.string ⟨#[]⟩))) := ElemZero.mk' Tryz.underlying28 (ZeroIs.one i_9 rfl rfl rfl rfl rfl)
theorem i_29 : Tryz.prog.info? 29 = some Tryz.t29 := by kernel_rfl
theorem ty_29 : TyIs Tryz.prog 29 false 1 := TyIs.mk' Tryz.underlying29 i_29 rfl rfl
theorem zc_29 : zcv Tryz.prog 8 29 = .pv (.sl true 1 []) := by kernel_rfl
theorem z_29 : ZeroIs Tryz.prog 29 (.pv (.sl true 1 [])) := ZeroIs.one i_29 rfl rfl rfl rfl rfl
theorem es_29 : eSize Tryz.prog 29 = 1 := by kernel_rfl
theorem eb_29 : eBytes Tryz.prog 29 = 8 := by kernel_rfl
theorem sl_29 : SlIs Tryz.prog 29 1 8 := SlIs.mk' Tryz.underlying29 i_3 rfl rfl rfl rfl (by decide)
theorem is_29 : IsSl Tryz.prog 29 := ⟨_, Tryz.underlying29⟩
theorem el_29 : elemOfT Tryz.prog 29 = 3 := by kernel_rfl
theorem ze_29 : zel Tryz.prog 29 = (.lit (.int .i64 0)) := by kernel_rfl
theorem ez_29 : ElemZero Tryz.prog 29 ((.lit (.int .i64 0))) := ElemZero.mk' Tryz.underlying29 (ZeroIs.one i_3 rfl rfl rfl rfl rfl)
theorem i_31 : Tryz.prog.info? 31 = some Tryz.t31 := by kernel_rfl
theorem ty_31 : TyIs Tryz.prog 31 true 3 := TyIs.mk' Tryz.underlying31 i_31 rfl rfl
theorem zc_31 : zcv Tryz.prog 8 31 = .node [.pv (.sl true 1 []), .pv (.sl true 1 []), .pv (.lit (.int .i64 0))] := by kernel_rfl
theorem z_31 : ZeroIs Tryz.prog 31 (.node [.pv (.sl true 1 []), .pv (.sl true 1 []), .pv (.lit (.int .i64 0))]) := ZeroIs.agg i_31 rfl rfl rfl
theorem fo_31_0 : fOff Tryz.prog 31 0 = 0 := by kernel_rfl
theorem fi_31_0 : FieldIs Tryz.prog 31 0 0 := FieldIs.mk' Tryz.underlying31 rfl rfl i_28 (by decide)
theorem ft_31_0 : fldT Tryz.prog 31 0 = 28 := by kernel_rfl
theorem fo_31_1 : fOff Tryz.prog 31 1 = 1 := by kernel_rfl
theorem fi_31_1 : FieldIs Tryz.prog 31 1 1 := FieldIs.mk' Tryz.underlying31 rfl rfl i_29 (by decide)
theorem ft_31_1 : fldT Tryz.prog 31 1 = 29 := by kernel_rfl
theorem fo_31_2 : fOff Tryz.prog 31 2 = 2 := by kernel_rfl
theorem fi_31_2 : FieldIs Tryz.prog 31 2 2 := FieldIs.mk' Tryz.underlying31 rfl rfl i_3 (by decide)
theorem ft_31_2 : fldT Tryz.prog 31 2 = 3 := by kernel_rfl
theorem lay_31 : LayoutOk Tryz.prog 31 [.pv (.sl true 1 []), .pv (.sl true 1 []), .pv (.lit (.int .i64 0))] := .inr ⟨_, Tryz.underlying31, rfl, fun k f hk => by match k, hk with | 0, hk => (obtain rfl := Option.some.inj hk; exact ⟨rfl, _, i_28, rfl⟩) | 1, hk => (obtain rfl := Option.some.inj hk; exact ⟨rfl, _, i_29, rfl⟩) | 2, hk => (obtain rfl := Option.some.inj hk; exact ⟨rfl, _, i_3, rfl⟩) | k + 3, hk => simp at hk⟩
theorem i_34 : Tryz.prog.info? 34 = some Tryz.t34 := by kernel_rfl
theorem ty_34 : TyIs Tryz.prog 34 false 1 := TyIs.mk' Tryz.underlying34 i_34 rfl rfl
theorem zc_34 : zcv Tryz.prog 8 34 = .pv (.sl true 3 []) := by kernel_rfl
theorem z_34 : ZeroIs Tryz.prog 34 (.pv (.sl true 3 [])) := ZeroIs.one i_34 rfl rfl rfl rfl rfl
theorem i_58 : Tryz.prog.info? 58 = some Tryz.t58 := by kernel_rfl
theorem es_34 : eSize Tryz.prog 34 = 3 := by kernel_rfl
theorem eb_34 : eBytes Tryz.prog 34 = 48 := by kernel_rfl
theorem sl_34 : SlIs Tryz.prog 34 3 48 := SlIs.mk' Tryz.underlying34 i_58 rfl rfl rfl rfl (by decide)
theorem is_34 : IsSl Tryz.prog 34 := ⟨_, Tryz.underlying34⟩
theorem el_34 : elemOfT Tryz.prog 34 = 58 := by kernel_rfl
theorem ze_34 : zel Tryz.prog 34 = .agg [(.lit (.string ⟨#[]⟩)), (.sl true 1 []), (.lit (.int .i64 0))] := by kernel_rfl
theorem ez_34 : ElemZero Tryz.prog 34 (.agg [(.lit (.string ⟨#[]⟩)), (.sl true 1 []), (.lit (.int .i64 0))]) := ElemZero.mk' Tryz.underlying34 (ZeroIs.agg i_58 rfl rfl rfl)
theorem i_36 : Tryz.prog.info? 36 = some Tryz.t36 := by kernel_rfl
theorem ty_36 : TyIs Tryz.prog 36 false 1 := TyIs.mk' Tryz.underlying36 i_36 rfl rfl
theorem zc_36 : zcv Tryz.prog 8 36 = .pv (.sl true 2 []) := by kernel_rfl
theorem z_36 : ZeroIs Tryz.prog 36 (.pv (.sl true 2 [])) := ZeroIs.one i_36 rfl rfl rfl rfl rfl
theorem i_38 : Tryz.prog.info? 38 = some Tryz.t38 := by kernel_rfl
theorem es_36 : eSize Tryz.prog 36 = 2 := by kernel_rfl
theorem eb_36 : eBytes Tryz.prog 36 = 40 := by kernel_rfl
theorem sl_36 : SlIs Tryz.prog 36 2 40 := SlIs.mk' Tryz.underlying36 i_38 rfl rfl rfl rfl (by decide)
theorem is_36 : IsSl Tryz.prog 36 := ⟨_, Tryz.underlying36⟩
theorem el_36 : elemOfT Tryz.prog 36 = 38 := by kernel_rfl
theorem ze_36 : zel Tryz.prog 36 = .agg [(.lit (.string ⟨#[]⟩)), (.sl true 2 [])] := by kernel_rfl
theorem ez_36 : ElemZero Tryz.prog 36 (.agg [(.lit (.string ⟨#[]⟩)), (.sl true 2 [])]) := ElemZero.mk' Tryz.underlying36 (ZeroIs.agg i_38 rfl rfl rfl)
theorem ty_38 : TyIs Tryz.prog 38 true 2 := TyIs.mk' Tryz.underlying38 i_38 rfl rfl
theorem zc_38 : zcv Tryz.prog 8 38 = .node [.pv (.lit (.string ⟨#[]⟩)), .pv (.sl true 2 [])] := by kernel_rfl
theorem z_38 : ZeroIs Tryz.prog 38 (.node [.pv (.lit (.string ⟨#[]⟩)), .pv (.sl true 2 [])]) := ZeroIs.agg i_38 rfl rfl rfl
theorem fo_38_0 : fOff Tryz.prog 38 0 = 0 := by kernel_rfl
theorem fi_38_0 : FieldIs Tryz.prog 38 0 0 := FieldIs.mk' Tryz.underlying38 rfl rfl i_9 (by decide)
theorem ft_38_0 : fldT Tryz.prog 38 0 = 9 := by kernel_rfl
theorem fo_38_1 : fOff Tryz.prog 38 1 = 1 := by kernel_rfl
theorem fi_38_1 : FieldIs Tryz.prog 38 1 1 := FieldIs.mk' Tryz.underlying38 rfl rfl i_36 (by decide)
theorem ft_38_1 : fldT Tryz.prog 38 1 = 36 := by kernel_rfl
theorem lay_38 : LayoutOk Tryz.prog 38 [.pv (.lit (.string ⟨#[]⟩)), .pv (.sl true 2 [])] := .inr ⟨_, Tryz.underlying38, rfl, fun k f hk => by match k, hk with | 0, hk => (obtain rfl := Option.some.inj hk; exact ⟨rfl, _, i_9, rfl⟩) | 1, hk => (obtain rfl := Option.some.inj hk; exact ⟨rfl, _, i_36, rfl⟩) | k + 2, hk => simp at hk⟩
theorem ty_55 : TyIs Tryz.prog 55 true 3 := TyIs.mk' Tryz.underlying55 i_55 rfl rfl
theorem zc_55 : zcv Tryz.prog 8 55 = .node [.pv (.lit (.string ⟨#[]⟩)), .pv (.sl true 1 []), .pv (.lit (.int .i64 0))] := by kernel_rfl
theorem z_55 : ZeroIs Tryz.prog 55 (.node [.pv (.lit (.string ⟨#[]⟩)), .pv (.sl true 1 []), .pv (.lit (.int .i64 0))]) := ZeroIs.agg i_55 rfl rfl rfl
theorem fo_55_0 : fOff Tryz.prog 55 0 = 0 := by kernel_rfl
theorem fi_55_0 : FieldIs Tryz.prog 55 0 0 := FieldIs.mk' Tryz.underlying55 rfl rfl i_9 (by decide)
theorem ft_55_0 : fldT Tryz.prog 55 0 = 9 := by kernel_rfl
theorem fo_55_1 : fOff Tryz.prog 55 1 = 1 := by kernel_rfl
theorem fi_55_1 : FieldIs Tryz.prog 55 1 1 := FieldIs.mk' Tryz.underlying55 rfl rfl i_29 (by decide)
theorem ft_55_1 : fldT Tryz.prog 55 1 = 29 := by kernel_rfl
theorem fo_55_2 : fOff Tryz.prog 55 2 = 2 := by kernel_rfl
theorem fi_55_2 : FieldIs Tryz.prog 55 2 2 := FieldIs.mk' Tryz.underlying55 rfl rfl i_3 (by decide)
theorem ft_55_2 : fldT Tryz.prog 55 2 = 3 := by kernel_rfl
theorem lay_55 : LayoutOk Tryz.prog 55 [.pv (.lit (.string ⟨#[]⟩)), .pv (.sl true 1 []), .pv (.lit (.int .i64 0))] := .inr ⟨_, Tryz.underlying55, rfl, fun k f hk => by match k, hk with | 0, hk => (obtain rfl := Option.some.inj hk; exact ⟨rfl, _, i_9, rfl⟩) | 1, hk => (obtain rfl := Option.some.inj hk; exact ⟨rfl, _, i_29, rfl⟩) | 2, hk => (obtain rfl := Option.some.inj hk; exact ⟨rfl, _, i_3, rfl⟩) | k + 3, hk => simp at hk⟩
theorem i_57 : Tryz.prog.info? 57 = some Tryz.t57 := by kernel_rfl
theorem ty_57 : TyIs Tryz.prog 57 false 1 := TyIs.mk' Tryz.underlying57 i_57 rfl rfl
theorem zc_57 : zcv Tryz.prog 8 57 = .pv (.lit .nilFunc) := by kernel_rfl
theorem z_57 : ZeroIs Tryz.prog 57 (.pv (.lit .nilFunc)) := ZeroIs.one i_57 rfl rfl rfl rfl rfl
theorem ty_58 : TyIs Tryz.prog 58 true 3 := TyIs.mk' Tryz.underlying58 i_58 rfl rfl
theorem zc_58 : zcv Tryz.prog 8 58 = .node [.pv (.lit (.string ⟨#[]⟩)), .pv (.sl true 1 []), .pv (.lit (.int .i64 0))] := by kernel_rfl
theorem z_58 : ZeroIs Tryz.prog 58 (.node [.pv (.lit (.string ⟨#[]⟩)), .pv (.sl true 1 []), .pv (.lit (.int .i64 0))]) := ZeroIs.agg i_58 rfl rfl rfl
theorem fo_58_0 : fOff Tryz.prog 58 0 = 0 := by kernel_rfl
theorem fi_58_0 : FieldIs Tryz.prog 58 0 0 := FieldIs.mk' Tryz.underlying58 rfl rfl i_9 (by decide)
theorem ft_58_0 : fldT Tryz.prog 58 0 = 9 := by kernel_rfl
theorem fo_58_1 : fOff Tryz.prog 58 1 = 1 := by kernel_rfl
theorem fi_58_1 : FieldIs Tryz.prog 58 1 1 := FieldIs.mk' Tryz.underlying58 rfl rfl i_29 (by decide)
theorem ft_58_1 : fldT Tryz.prog 58 1 = 29 := by kernel_rfl
theorem fo_58_2 : fOff Tryz.prog 58 2 = 2 := by kernel_rfl
theorem fi_58_2 : FieldIs Tryz.prog 58 2 2 := FieldIs.mk' Tryz.underlying58 rfl rfl i_3 (by decide)
theorem ft_58_2 : fldT Tryz.prog 58 2 = 3 := by kernel_rfl
theorem lay_58 : LayoutOk Tryz.prog 58 [.pv (.lit (.string ⟨#[]⟩)), .pv (.sl true 1 []), .pv (.lit (.int .i64 0))] := .inr ⟨_, Tryz.underlying58, rfl, fun k f hk => by match k, hk with | 0, hk => (obtain rfl := Option.some.inj hk; exact ⟨rfl, _, i_9, rfl⟩) | 1, hk => (obtain rfl := Option.some.inj hk; exact ⟨rfl, _, i_29, rfl⟩) | 2, hk => (obtain rfl := Option.some.inj hk; exact ⟨rfl, _, i_3, rfl⟩) | k + 3, hk => simp at hk⟩
theorem i_76 : Tryz.prog.info? 76 = some Tryz.t76 := by kernel_rfl
theorem ty_76 : TyIs Tryz.prog 76 false 1 := TyIs.mk' Tryz.underlying76 i_76 rfl rfl
theorem zc_76 : zcv Tryz.prog 8 76 = .pv (.lit .nilFunc) := by kernel_rfl
theorem z_76 : ZeroIs Tryz.prog 76 (.pv (.lit .nilFunc)) := ZeroIs.one i_76 rfl rfl rfl rfl rfl
theorem i_78 : Tryz.prog.info? 78 = some Tryz.t78 := by kernel_rfl
theorem ty_78 : TyIs Tryz.prog 78 false 1 := TyIs.mk' Tryz.underlying78 i_78 rfl rfl
theorem i_81 : Tryz.prog.info? 81 = some Tryz.t81 := by kernel_rfl
theorem ty_81 : TyIs Tryz.prog 81 false 1 := TyIs.mk' Tryz.underlying81 i_81 rfl rfl
theorem zc_81 : zcv Tryz.prog 8 81 = .pv (.sl true 1 []) := by kernel_rfl
theorem z_81 : ZeroIs Tryz.prog 81 (.pv (.sl true 1 [])) := ZeroIs.one i_81 rfl rfl rfl rfl rfl
theorem es_81 : eSize Tryz.prog 81 = 1 := by kernel_rfl
theorem eb_81 : eBytes Tryz.prog 81 = 1 := by kernel_rfl
theorem sl_81 : SlIs Tryz.prog 81 1 1 := SlIs.mk' Tryz.underlying81 i_5 rfl rfl rfl rfl (by decide)
theorem by_81 : IsBytes Tryz.prog 81 := ⟨_, Tryz.underlying81, Tryz.underlying5⟩
theorem is_81 : IsSl Tryz.prog 81 := ⟨_, Tryz.underlying81⟩
theorem el_81 : elemOfT Tryz.prog 81 = 5 := by kernel_rfl
theorem ze_81 : zel Tryz.prog 81 = (.lit (.int .u8 0)) := by kernel_rfl
theorem ez_81 : ElemZero Tryz.prog 81 ((.lit (.int .u8 0))) := ElemZero.mk' Tryz.underlying81 (ZeroIs.one i_5 rfl rfl rfl rfl rfl)
theorem i_85 : Tryz.prog.info? 85 = some Tryz.t85 := by kernel_rfl
theorem ty_85 : TyIs Tryz.prog 85 false 1 := TyIs.mk' Tryz.underlying85 i_85 rfl rfl
theorem zc_85 : zcv Tryz.prog 8 85 = .pv (.sl true 3 []) := by kernel_rfl
theorem z_85 : ZeroIs Tryz.prog 85 (.pv (.sl true 3 [])) := ZeroIs.one i_85 rfl rfl rfl rfl rfl
theorem es_85 : eSize Tryz.prog 85 = 3 := by kernel_rfl
theorem eb_85 : eBytes Tryz.prog 85 = 56 := by kernel_rfl
theorem sl_85 : SlIs Tryz.prog 85 3 56 := SlIs.mk' Tryz.underlying85 i_31 rfl rfl rfl rfl (by decide)
theorem is_85 : IsSl Tryz.prog 85 := ⟨_, Tryz.underlying85⟩
theorem el_85 : elemOfT Tryz.prog 85 = 31 := by kernel_rfl
theorem ze_85 : zel Tryz.prog 85 = .agg [(.sl true 1 []), (.sl true 1 []), (.lit (.int .i64 0))] := by kernel_rfl
theorem ez_85 : ElemZero Tryz.prog 85 (.agg [(.sl true 1 []), (.sl true 1 []), (.lit (.int .i64 0))]) := ElemZero.mk' Tryz.underlying85 (ZeroIs.agg i_31 rfl rfl rfl)
theorem i_95 : Tryz.prog.info? 95 = some Tryz.t95 := by kernel_rfl
theorem ty_95 : TyIs Tryz.prog 95 false 1 := TyIs.mk' Tryz.underlying95 i_95 rfl rfl
theorem zc_95 : zcv Tryz.prog 8 95 = .pv (.lit .nilFunc) := by kernel_rfl
theorem z_95 : ZeroIs Tryz.prog 95 (.pv (.lit .nilFunc)) := ZeroIs.one i_95 rfl rfl rfl rfl rfl
theorem mt_78 : MapTy Tryz.prog 78 3 := ⟨9, Tryz.underlying78, Tryz.underlying9⟩
theorem mz_3 : ∃ i v, Tryz.prog.info? 3 = some i ∧ i.zero = some v ∧ ∀ N w, RepV N w (I (0 : Int)) v [] := ⟨Tryz.t3, .int .i64 0, by kernel_rfl, rfl, fun N w => ⟨rfl, rfl, rfl⟩⟩
theorem uk_3 : Tryz.prog.underlying 3 = some (.int .i64) := Tryz.underlying3
theorem uk_5 : Tryz.prog.underlying 5 = some (.int .u8) := Tryz.underlying5
theorem uk_9 : Tryz.prog.underlying 9 = some .string := Tryz.underlying9
def TB3 := And.intro @ty_3 <| And.intro @zc_3 <| @z_3
def TB29 := And.intro @ty_29 <| And.intro @zc_29 <| And.intro @z_29 <| And.intro @es_29 <| And.intro @eb_29 <| And.intro @sl_29 <| And.intro @is_29 <| And.intro @el_29 <| And.intro @ze_29 <| @ez_29
def TB9 := And.intro @ty_9 <| And.intro @zc_9 <| And.intro @z_9 <| @u_9
def TB55 := And.intro @ty_55 <| And.intro @zc_55 <| And.intro @z_55 <| And.intro @fo_55_0 <| And.intro @fi_55_0 <| And.intro @ft_55_0 <| And.intro @fo_55_1 <| And.intro @fi_55_1 <| And.intro @ft_55_1 <| And.intro @fo_55_2 <| And.intro @fi_55_2 <| And.intro @ft_55_2 <| @lay_55
def TB22 := And.intro @ty_22 <| And.intro @zc_22 <| And.intro @z_22 <| And.intro @es_22 <| And.intro @eb_22 <| And.intro @sl_22 <| And.intro @is_22 <| And.intro @el_22 <| And.intro @ze_22 <| @ez_22
def TB23 := And.intro @ty_23 <| And.intro @zc_23 <| And.intro @z_23 <| And.intro @es_23 <| And.intro @eb_23 <| And.intro @sl_23 <| And.intro @is_23 <| And.intro @el_23 <| And.intro @ze_23 <| @ez_23
def TB25 := And.intro @ty_25 <| And.intro @zc_25 <| And.intro @z_25 <| And.intro @fo_25_0 <| And.intro @fi_25_0 <| And.intro @ft_25_0 <| And.intro @fo_25_1 <| And.intro @fi_25_1 <| And.intro @ft_25_1 <| @lay_25
def TB58 := And.intro @ty_58 <| And.intro @zc_58 <| And.intro @z_58 <| And.intro @fo_58_0 <| And.intro @fi_58_0 <| And.intro @ft_58_0 <| And.intro @fo_58_1 <| And.intro @fi_58_1 <| And.intro @ft_58_1 <| And.intro @fo_58_2 <| And.intro @fi_58_2 <| And.intro @ft_58_2 <| @lay_58
def TB34 := And.intro @ty_34 <| And.intro @zc_34 <| And.intro @z_34 <| And.intro @es_34 <| And.intro @eb_34 <| And.intro @sl_34 <| And.intro @is_34 <| And.intro @el_34 <| And.intro @ze_34 <| @ez_34
def TB36 := And.intro @ty_36 <| And.intro @zc_36 <| And.intro @z_36 <| And.intro @es_36 <| And.intro @eb_36 <| And.intro @sl_36 <| And.intro @is_36 <| And.intro @el_36 <| And.intro @ze_36 <| @ez_36
def TB38 := And.intro @ty_38 <| And.intro @zc_38 <| And.intro @z_38 <| And.intro @fo_38_0 <| And.intro @fi_38_0 <| And.intro @ft_38_0 <| And.intro @fo_38_1 <| And.intro @fi_38_1 <| And.intro @ft_38_1 <| @lay_38
def TB5 := And.intro @ty_5 <| And.intro @zc_5 <| @z_5
def TB4 := And.intro @ty_4 <| And.intro @zc_4 <| And.intro @z_4 <| @u_4
def TB28 := And.intro @ty_28 <| And.intro @zc_28 <| And.intro @z_28 <| And.intro @es_28 <| And.intro @eb_28 <| And.intro @sl_28 <| And.intro @is_28 <| And.intro @el_28 <| And.intro @ze_28 <| @ez_28
def TB31 := And.intro @ty_31 <| And.intro @zc_31 <| And.intro @z_31 <| And.intro @fo_31_0 <| And.intro @fi_31_0 <| And.intro @ft_31_0 <| And.intro @fo_31_1 <| And.intro @fi_31_1 <| And.intro @ft_31_1 <| And.intro @fo_31_2 <| And.intro @fi_31_2 <| And.intro @ft_31_2 <| @lay_31
def TB76 := And.intro @ty_76 <| And.intro @zc_76 <| @z_76
def TB57 := And.intro @ty_57 <| And.intro @zc_57 <| @z_57
def TB95 := And.intro @ty_95 <| And.intro @zc_95 <| @z_95
def TB85 := And.intro @ty_85 <| And.intro @zc_85 <| And.intro @z_85 <| And.intro @es_85 <| And.intro @eb_85 <| And.intro @sl_85 <| And.intro @is_85 <| And.intro @el_85 <| And.intro @ze_85 <| @ez_85
def TB81 := And.intro @ty_81 <| And.intro @zc_81 <| And.intro @z_81 <| And.intro @es_81 <| And.intro @eb_81 <| And.intro @sl_81 <| And.intro @by_81 <| And.intro @is_81 <| And.intro @el_81 <| And.intro @ze_81 <| @ez_81
end Go.Proofs.YtgbddapcjhgllaaGreat
